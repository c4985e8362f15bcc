/- Plain: any graph is drawn in the plane, or refused. -/
import Derived.Test.YtbgngpdonpeboaaGreatDoorJo
import Derived.Test.YtbgngpdonpeboaaGreatDoorAwTd
import Derived.Test.YtbgngpdonpeboaaGreatDoorAwRg
import Derived.Test.YtbgngpdonpeboaaGreatDoorAwZ
import Derived.Test.YtbgngpdonpeboaaGreatDoorAwFn
import Derived.Test.YtbgngpdonpeboaaGreatDoorAwShp
set_option linter.unusedVariables false
set_option linter.unusedSimpArgs false
set_option linter.unusedSectionVars false
set_option maxHeartbeats 4000000
open Go.Proofs.Tryz
namespace Go.Proofs.YtbgngpdonpeboaaGreatDoor
namespace Aw
open Go Go.RowKit Pl Eu
section
variable {E:List Ed} (hT:Tc E)
include hT
theorem Qk(hlim:E.length<=200):∃ o,rO E=some o/\∀ F,o=some F->jQ E F:=by
 have h2:=hT.two;obtain⟨x,y,R,hE⟩:∃ x y R,E=x::y::R:=by
  match E,h2 with
  |x::y::R,_=>exact⟨x,y,R,rfl⟩
 have hd:rO E=if(vsF E).length<=64/\E.length<=200 then
  if(3:Int)*(vsF E).length-6<E.length then some none
  else(newF ⟨vsF E,E⟩).bind fun h=>(rR ⟨vsF E,E⟩ 1000 h).map fun o=>o.map (·.F)
  else none:=by rw[hE];rfl
 rw[hd,aAj ⟨hT.few.1,hlim⟩]
 split
 .exact⟨none,rfl,fun F e=>by cases e⟩
 .obtain⟨h,h1,hD,_⟩:=hT.start hE;obtain⟨o,h3,h4⟩:=BK hT 1000 h hD (by have:=hT.few.2;omega);rw[h1,Option.bind_some,h3];refine⟨o.map (·.F),rfl,fun F e=>?_⟩;cases o with
  |none=>cases e
  |some h'=>simp only[Option.map_some,aAb]at e;subst e;obtain⟨hD',hl⟩:=h4 h' rfl;exact hD'.done hT.ne hT.sim hl
end
theorem Jj{g:Gr}(hg:GoodE g)(hv:g.vs.length<=64)(he:g.es.length<=200){l:List Ed}(hl:l∈aQ g):l≠[]/\(∀ e∈l,e∈g.es/\e.a≠e.b)/\l.length<=g.es.length/\(2<=l.length->Tc l):=by
 have Z4:=hg.simple;obtain⟨W5,j5⟩:=nC hg hl;have L6:∀ v∈vsF l,v∈g.vs:=fun v h=>by
  obtain⟨e,hel,k⟩:=(bA v l).1 h;have:=hg.ends e (j5 e hel)
  grind
 have hlen:l.length<=g.es.length:=by have h1:l.length<=(aQ g).flatten.length:=(aBp hl).length_le;have h2:=(gJ hg).length_eq;have h3:=oV g.es;omega
 refine⟨fun h0=>?_,fun e he=>⟨j5 e he,W5.ne e he⟩,hlen,fun h2=>⟨W5.ids,W5.ne,?_,?_,h2,?_,oO⟩⟩
 .unfold aQ at hl;obtain⟨B,hB,e⟩:=aAi.1 hl;rw[h0]at e;exact absurd (aCN.1 e) (lV Z4 hB).ne
 .have h1:=((gJ hg).map prE).nodup_iff.2 (pY g.es);rw[aDJ]at h1;exact(aBp (aAt (f:=List.map prE) hl)).nodup h1
 .unfold aQ at hl;obtain⟨B,hB,e⟩:=aAi.1 hl;have Y0:=lV Z4 hB;intro w p q hp hq hpw hqw;rw[<- e]at hp hq ⊢;obtain⟨i,hi,ip⟩:=tR Z4 hp;obtain⟨j,hj,jq⟩:=tR Z4 hq;exact Y0.con Z4 w hi (Y0.rel i hi j hj) p q ip jq hpw hqw
 .have:=aAy ((kY l).imp fun k=>by omega) L6;omega
theorem LS{g:Gr}(hg:GoodE g)(hv:g.vs.length<=64)(he:g.es.length<=200)(hlim:g.es.length<=200){l:List Ed}(hl:l∈aQ g):∃ o,rO l=some o/\∀ F,o=some F->jQ l F:=by
 obtain⟨h0,h1,u7,h2⟩:=Jj hg hv he hl
 match l,h0,h1,h2,u7 with
 |[e],_,h1,_,_=>exact⟨_,rfl,fun F k=>by injection k with k;subst k;exact Qu (h1 e sS).2⟩
 |x::y::R,_,_,h2,u7=>exact Qk (h2 sS) oO
theorem IJ(x y:Int):∀ P,(qV x y P).length<=P.length+1
 |[]=>by simp[qV]
 |p::P=>by have:=IJ x y P;unfold qV;split<;>simp<;>omega
theorem Gv(v x y:Int)(n:Nat):∀ A:Tn,(∀ a∈A,a.2.length<=n)->(iB v x y A).length<=A.length+1/\∀ a∈iB v x y A,a.2.length<=n+1
 |[],_=>by simp[iB]
 |a::A,h=>by
  obtain⟨h1,h2⟩:=Gv v x y n A fun b hb=>h b (aAc _ hb);unfold iB
  split
  .refine⟨sS,fun b hb=>?_⟩;rcases aAe.1 hb with rfl|hb
   .have:=IJ x y a.2;have:=h a aAf;simp only;omega
   .have:=h b (aAc _ hb);omega
  .refine⟨by simp;omega,fun b hb=>?_⟩;rcases aAe.1 hb with rfl|hb
   .have:=h b aAf;omega
   .exact h2 b hb
theorem RI:∀ T:List (Int×Int×Int),(T.foldl CW []).length<=T.length/\(∀ a∈T.foldl CW [],a.2.length<=T.length)/\∀ v∈(T.foldl CW []).map (·.1),∃ t∈T,t.2.1=v:=by
 intro T;induction T using yQ with
 |h0=>simp
 |h1 T t ih=>
  rw[aBM,List.foldl_cons,List.foldl_nil,aAn,List.length_singleton];have:=Gv t.2.1 t.1 t.2.2 T.length (T.foldl CW []) ih.2.1;refine⟨aBa this.1 oO,this.2,?_⟩;have key:∀ A:Tn,∀ v∈(iB t.2.1 t.1 t.2.2 A).map (·.1),v=t.2.1\/v∈A.map (·.1):=by
   intro A;induction A with
   |nil=>intro v hv;simp[iB]at hv;exact .inl hv
   |cons a A ih=>
    intro v hv;unfold iB at hv
    split at hv
    .rw[aAm]at hv ⊢;rcases aAe.1 hv with h|h
     .exact .inl h
     .exact .inr (aAc _ h)
    .rw[aAm]at hv ⊢;rcases aAe.1 hv with h|h
     .exact .inr (by rw[h];exact aAf)
     .exact(ih v h).imp id fun k=>aAc _ k
  intro v hv;rcases key _ v hv with h|h
  .exact⟨t,sS,h.symm⟩
  .obtain⟨s,hs,e⟩:=ih.2.2 v h;exact⟨s,aAr _ hs,e⟩
theorem Hy(g:Gr)(v:Int):∀(L:List Int) (T:TL),gW (dW g v L T)=gW T+(L.flatMap (seg g v)).length
 |[],T=>by simp[dW]
 |x::L,T=>by have ih:=Hy g v L (pL v (seg g v x) T);have e:dW g v (x::L) T=dW g v L (pL v (seg g v x) T):=rfl;rw[e,ih,uL,aAH,aAn];omega
theorem He(g:Gr)(A:Tn)(n:Nat):∀(K:List Int) (T:TL),(∀ v∈K,((bX (dH v A)).flatMap (seg g v)).length<=n)->gW (fN g A K T)<=gW T+K.length*n
 |[],T,_=>by simp[fN]
 |v::K,T,h=>by have ih:=He g A n K (dW g v (bX (dH v A)) T) fun w hw=>h w (aAc _ hw);have e:fN g A (v::K) T=fN g A K (dW g v (bX (dH v A)) T):=rfl;have h0:=h v aAf;rw[Hy]at ih;rw[e,List.length_cons,aCg];omega
theorem PM{g:Gr}(hg:GoodE g)(hv:g.vs.length<=64)(he:g.es.length<=200)(hlim:g.es.length<=200){l:List Ed}(hl:l∈aQ g)(hs:∃ s,PlE l s):∃ F,rO l=some (some F):=by
 obtain⟨h0,h1,u7,h2⟩:=Jj hg hv he hl;obtain⟨s,hP⟩:=hs
 match l,h0,h1,h2,u7,hP with
 |[e],_,h1,_,_,_=>exact⟨_,rfl⟩
 |x::y::R,_,_,h2,u7,hP=>
  have hT:=h2 sS;obtain⟨h,q1,hD,r,q2,q3,q4,q5⟩:=hT.start rfl;have hx:=Exd.start hT hP hD q2 q3 q4 q5;obtain⟨h',q6⟩:=Exd.loop hT 1000 h hx (by have:=hT.few.2;omega);obtain⟨o,q7,q8⟩:=BK hT 1000 h hD (by have:=hT.few.2;omega);rw[q6]at q7;injection q7 with q7;obtain⟨hD',O5⟩:=q8 h' q7.symm;have:=Ou hT hD' O5
  have hd:rO (x::y::R)=if(vsF (x::y::R)).length<=64/\(x::y::R).length<=200 then
   if(3:Int)*(vsF (x::y::R)).length-6<(x::y::R).length then some none
   else(newF ⟨vsF (x::y::R),x::y::R⟩).bind fun h=>(rR ⟨vsF (x::y::R),x::y::R⟩ 1000 h).map fun o=>o.map (·.F)
   else none:=rfl
  rw[hd,aAj ⟨hT.few.1,oO⟩,aAa oO,q1,Option.bind_some,q6];exact⟨h'.F,rfl⟩
theorem DJ(g:Gr):∀(bl:List (List Ed)) (T:TL) (o:Option TL),(∀ l∈bl,∃ F,rO l=some (some F))->zI g bl T=some o->o≠none
 |[],T,o,_,h=>by injection h with h;rw[<- h];simp
 |l::bl,T,o,hb,h=>by
  obtain⟨F,hF⟩:=hb l aAf;unfold zI at h;rw[hF,Option.bind_some]at h;simp only at h
  split at h
  .exact DJ g bl _ o (fun x hx=>hb x (aAc _ hx)) h
  .cases h
theorem KL{g:Gr}{bl:List (List Ed)}{o:Option Mp}(hb:∀ l∈bl,∃ F,rO l=some (some F))(h:jU g bl=some o):o.isSome=true:=by
 unfold jU at h;cases hT:zI g bl [] with
 |none=>rw[hT]at h;cases h
 |some T=>
  have:=DJ g bl [] T hb hT;rw[hT,Option.bind_some]at h;cases T with
  |none=>exact absurd rfl this
  |some T=>
   simp only at h
   split at h
   .injection h with h;rw[<- h];rfl
   .cases h
theorem PlD.oG{E:List Ed}{s:Int->Int}{D:List Int}(h:PlD E s D){A:List (Int×Int)}(hA:gF E A):Flat D s (pls A):=by
 have hP:PlE E s:=⟨D,h⟩;obtain⟨R,hR⟩:=hP.sub hA;have hB:=hP.ors A;have hp:(pls (E.map (orA A))).Perm (pls R++pls A):=by have:=hR.map fun p:Int×Int=>(cd p,cd p.swap);rw[aAv]at this;exact this
 have h1:=kU h.perm (hP.fl_nd hB) hp (h.flat_or A);exact CR h.perm (fun q hq=>h.pairs hB q (hp.mem_iff.2 hq)) h1
theorem PlE.of_sub{E E':List Ed}{s:Int->Int}(h:PlE E s)(hB:BlE E')(hs:∀ e∈E',∃ f∈E,prE f=prE e):PlE E' s:=by
 obtain⟨D,h⟩:=h;have up:∀ p:Int×Int,(∃ e∈E',prE e=unA p)->∃ e∈E,prE e=unA p:=fun p ⟨e,he,q⟩=>by obtain⟨f,hf,k⟩:=hs e he;exact⟨f,hf,k.trans q⟩
 refine⟨D,hB,h.perm,fun p hp=>h.mem p (up p hp),fun p q hp hq=>h.orb p q (up p hp) (up q hq),?_⟩;have hA:gF E (E'.map fun e=>(e.a,e.b)):=by
  refine⟨fun p hp=>?_,?_⟩
  .obtain⟨e,he,rfl⟩:=aAi.1 hp;exact hs e he
  .rw[aAW];exact hB.sim
 have:=h.oG hA;have e:pls (E'.map fun e=>(e.a,e.b))=tws E':=by unfold pls tws;rw[aAW];rfl
 rwa [e]at this
section
variable {D:List Int} {s:Int->Int} (hs:dB D s) {P:List (Int×Int)} (hP:fV D P)
include hs hP
end
def EA(A:List Ed):Prop:=∀ e∈A,e.a≠e.b/\(0<=e.a/\e.a<4194304)/\0<=e.b/\e.b<4194304
def Pg(A:List Ed):Prop:=∃ s,PlE (sE A) s
theorem EA.bl{A:List Ed}(h:EA A):BlE (sE A):=⟨fun e he=>(h e (jZ A e he)).1,pY A,fun v hv=>by
 obtain⟨e,he,k⟩:=(bA v _).1 hv;have:=h e (jZ A e he)
 grind⟩
theorem EA.of{g:Gr}(hG:GoodE g)(hv:∀ v∈g.vs,0<=v/\v<4194304):EA g.es:=fun e he=>by have h1:=hG.ne e he;have h2:=hG.ends e he;exact⟨h1,hv _ h2.1,hv _ h2.2⟩
theorem Pg.blk{g:Gr}(hG:GoodE g)(hvb:∀ v∈g.vs,0<=v/\v<4194304)(hv:g.vs.length<=64)(he:g.es.length<=200)(h:Pg g.es){l:List Ed}(hl:l∈aQ g):∃ s,PlE l s:=by
 obtain⟨h0,h1,u7,h2⟩:=Jj hG hv he hl;obtain⟨s,h⟩:=h;have hf:=gJ hG;have L6:∀ e∈l,e∈sE g.es:=fun e k=>hf.mem_iff.1 (aAT.2 ⟨l,hl,k⟩);have hsim:(l.map prE).Nodup:=by have h1:=(hf.map prE).nodup_iff.2 (pY g.es);rw[aDJ]at h1;exact(aBp (aAt (f:=List.map prE) hl)).nodup h1
 refine⟨s,h.of_sub ⟨fun e k=>(h1 e k).2,hsim,fun v k=>?_⟩ fun e k=>⟨e,L6 e k,rfl⟩⟩;obtain⟨e,hel,k⟩:=(bA v l).1 k;have:=EA.of hG hvb e (h1 e hel).1
 grind
theorem bL.pg{m:Mp}(h:bL m)(hg:Aw.gn m=0)(hvb:∀ v∈m.g.vs,0<=v/\v<4194304):Pg m.g.es:=
 h.plE hg (fun e he=>jZ _ e he) (gU _ (pY _)) (EA.of h.g hvb).bl
end Aw
namespace Aw
open Go Go.RowKit Pl
structure GrF(g:Gr):Prop where
 rise:g.vs.Pairwise (· < ·)
 vpos:∀ v∈g.vs,1<=v/\v<=1048576
 ids:g.es.Pairwise fun x y=>x.id<y.id
 pos:∀ x∈g.es,1<=x.id/\x.id<=1048576
 ne:∀ x∈g.es,x.a≠x.b
 ends:∀ x∈g.es,x.a∈g.vs/\x.b∈g.vs
 l1:g.vs.length<=64
 l2:g.es.length<=160
theorem Pz{f:Nat->Int}{n:Nat}(h:cB f n=0):∀ j,j<n->f j=0:=by
 induction n with
 |zero=>omega
 |succ n ih=>
  grind [cB]
theorem DF(n a:Int)(b:Bool):fB n a b=0↔(1<=n/\n<=1048576)/\(b=false->a<n):=by
 grind [fB]
theorem DN{l:List Int}(h:∀ j,j<l.length->0<j->l.getD (j-1) 0<l.getD j 0):l.Pairwise (· < ·):=by
 have g:∀ j (hj:j<l.length),l.getD j 0=l[j]:=fun j hj=>by grind
 rw[aAC];intro a b ha hb x8;induction b with
 |zero=>omega
 |succ b ih=>
  grind
theorem gE(l:List Ed)(j:Nat)(hj:j<l.length):l.getD j ed0=l[j]:=by
 grind
theorem NX(g:Gr)(j:Nat)(x:Ed)(hx:g.es.getD j ed0=x):mD g j=0↔((1<=x.id/\x.id<=1048576)/\(0<j->(g.es.getD (j-1) ed0).id<x.id))/\x.a≠x.b/\x.a∈g.vs/\x.b∈g.vs:=by
 grind [mD,fB]
theorem vJ{g:Gr}(h:chk g=0):GrF g:=by
 unfold chk at h;by_cases h1:64<g.vs.length\/160<g.es.length
 .omega
 rw[aAa h1]at h;by_cases h2:cB (lQ g) g.vs.length=0;rotate_left
 .omega
 rw[aAa oO]at h;have gI:∀ j (hj:j<g.vs.length),g.vs.getD j 0=g.vs[j]:=fun j hj=>by grind
 have hV:=fun j hj=>(DF _ _ _).1 (Pz h2 j hj);have hE:=fun j hj=>(NX g j _ rfl).1 (Pz h j hj);have j5:∀ x∈g.es,∃ j,j<g.es.length/\g.es.getD j ed0=x:=fun x hx=>by obtain⟨j,hj,rfl⟩:=aAA hx;exact⟨j,hj,gE _ _ hj⟩
 refine⟨DN fun j hj h0=>(hV j hj).2 (by simp;omega),fun v hv=>?_,?_,fun x hx=>?_,fun x hx=>?_,fun x hx=>?_,oO,oO⟩
 .obtain⟨j,hj,rfl⟩:=aAA hv;simp_all
 .have:=DN (l:=g.es.map (·.id)) fun j hj h0=>by rw[aAD]at hj;have:=(hE j hj).1.2 h0;rw[gE _ _ hj,gE _ _ oO]at this;rw[aAg,aAh (by simp;omega),aAg,aAh (by simp_all)];simp_all
  rwa [aAV]at this
 .obtain⟨j,hj,rfl⟩:=j5 x hx;simp_all
 .obtain⟨j,hj,rfl⟩:=j5 x hx;simp_all
 .obtain⟨j,hj,rfl⟩:=j5 x hx;simp_all
end Aw
namespace Aw
open Go Go.RowKit Pl Eu
theorem Rh{g:Gr}(hg:GoodE g)(hv:∀ v∈g.vs,0<=v/\v<4194304){l:List Ed}(hl:l∈aQ g):BlE l/\l≠[]/\∀ v∈vsF l,v∈g.vs:=by
 obtain⟨W5,j5⟩:=nC hg hl;have L6:∀ v∈vsF l,v∈g.vs:=fun v h=>by
  obtain⟨e,hel,k⟩:=(bA v l).1 h;have:=hg.ends e (j5 e hel);rcases k with rfl|rfl
  .exact this.1
  .exact this.2
 refine⟨⟨W5.ne,?_,fun v h=>hv v (L6 v h)⟩,?_,L6⟩
 .have h1:=((gJ hg).map prE).nodup_iff.2 (pY g.es);rw[aDJ]at h1;exact(aBp (aAt (f:=List.map prE) hl)).nodup h1
 .unfold aQ at hl;obtain⟨B,hB,e⟩:=aAi.1 hl;rw[<- e];intro h0;exact(lV hg.simple hB).ne (aCN.1 h0)
section
variable {g:Gr} (hg:GoodE g) (hv:∀ v∈g.vs,0<=v/\v<4194304) (hn:g.vs.length<=24) (he:g.es.length<=50)
include hg hv hn he
theorem XS{l:List Ed}(hl:l∈aQ g):l.length<=50/\(vsF l).length<=24:=by
 obtain⟨_,_,L6⟩:=Rh hg hv hl;constructor
 .have h1:l.length<=(aQ g).flatten.length:=(aBp hl).length_le;have h2:=(gJ hg).length_eq;have h3:=oV g.es;omega
 .have:=aAy ((kY l).imp fun k=>by omega) L6;omega
theorem Vw{l:List Ed}(hl:l∈aQ g){F:List (List Int)}(hO:jQ l F)(T:TL)(hT:gW T+1200<=100000):okE F (aT F) (vA g F T)/\gW (vA g F T)<=gW T+1200:=by
 obtain⟨hE,h0,L6⟩:=Rh hg hv hl;obtain⟨l1,l2⟩:=XS hg hv hn he hl;have hcnt:=hO.cnt;have hPF:(PF F).length<=100:=by have:=wI (E:=l) hO.nd fun p hp=>(hO.mem p.1 p.2).1 hp;omega
 obtain⟨a1,a2,a3⟩:=RI (F.flatMap trs);have hTF:(F.flatMap trs).length=(PF F).length:=by
  have:=(xG F).length_eq
  rwa [aAD]at this
 rw[<- yK]at a1 a2 a3;have N8:∀ v∈(aT F).map (·.1),v∈vsF l:=fun v hk=>by obtain⟨t,ht,rfl⟩:=a3 v hk;have:=(xG F).mem_iff.1 (aAt (f:=fun t:Int×Int×Int=>(t.1,t.2.1)) ht);obtain⟨e,he,k⟩:=(hO.mem t.1 t.2.1).1 this;exact(fR he k).2
 have hKl:(qA ((aT F).map (·.1))).length<=24:=by have:=aAy (l₂:=vsF l) ((zR ((aT F).map (·.1))).imp fun k=>by omega) fun v h=>N8 v ((qZ v _).1 h);omega
 have hbt:∀ v,((bX (dH v (aT F))).flatMap (seg g v)).length<=50:=fun v=>by
  by_cases hvl:v∈vsF l
  .have hR:=hO.round hE h0 hvl;have hnd:((bX (dH v (aT F))).flatMap (seg g v)).Nodup:=lP hR.1 (fun x _=>nQ hg v x) fun x _ y _ d h1 h2=>by rw[<- (yM hg h1).2,(yM hg h2).2]
   have:=aAy hnd (l₂:=g.es.map (dAt v)) fun d hd=>by obtain⟨x,_,hd⟩:=aAY.1 hd;obtain⟨e,he,_,rfl⟩:=kO.1 hd;exact aAt he
   rw[aAD]at this;omega
  .rw[oP hO hE hvl,nU];simp
 have htot:gW (vA g F T)<=gW T+1200:=by have:=He g (aT F) 50 (qA ((aT F).map (·.1))) T fun v _=>hbt v;unfold vA;omega
 refine⟨⟨oO,fun r hr=>?_,oO,fun a ha=>by have:=a2 a ha;omega,oO⟩,htot⟩;have Z7:=hO.nd;unfold PF at Z7;rw[List.flatMap_def]at Z7;have h1:=wI (E:=l) ((aBp (aAt (f:=prs) hr)).nodup Z7) fun p hp=>(hO.mem p.1 p.2).1 (aX.2 ⟨r,hr,hp⟩);rw[oZ]at h1;omega
theorem TH:∀(bl:List (List Ed)) (T:TL),(∀ l∈bl,l∈aQ g)->gW T+bl.length*1200<=100000->∃ o,zI g bl T=some o
 |[],T,_,_=>⟨_,rfl⟩
 |l::bl,T,hl,hT=>by
  obtain⟨o,h1,h2⟩:=LS hg oO oO oO (hl l aAf);unfold zI;rw[h1,Option.bind_some];cases o with
  |none=>exact⟨none,rfl⟩
  |some F=>
   have e1:gW T+1200<=100000/\(∀ t,t<=gW T+1200->t+bl.length*1200<=100000):=by rw[List.length_cons]at hT;clear h1 h2;generalize gW T=a at *;generalize bl.length=b at *;exact⟨oO,fun t h=>by omega⟩
   obtain⟨k1,k2⟩:=Vw hg hv hn he (hl l aAf) (h2 F rfl) T e1.1;simp only;rw[aAj k1];exact TH bl _ (fun x hx=>hl x (aAc _ hx)) (e1.2 _ k2)
end
theorem OG{g:Gr}(hc:chk g=0)(hn:g.vs.length<=24)(he:g.es.length<=50):∃ o,jU g (aQ g)=some o/\∀ m,o=some m->∃ Bs,Sys g Bs/\Bs.map (·.1)=aQ g/\m=Cx g Bs/\∀ v,(kJ g Bs v).length<=100:=by
 have hG:=vJ hc;have hg:=fL hc;have hv:∀ v∈g.vs,0<=v/\v<4194304:=fun v h=>by have:=hG.vpos v h;omega
 have U4:(aQ g).length<=50:=by have h1:=Dq g;have h2:=oV g.es;omega
 have h1:gW ([]:TL)+(aQ g).length*1200<=100000:=by have h0:gW ([]:TL)=0:=rfl;rw[h0,aBv];generalize (aQ g).length=n at *;omega
 obtain⟨o,ho⟩:=TH hg hv hn he (aQ g) [] (fun _ h=>h) h1;unfold jU;rw[ho,Option.bind_some];cases o with
 |none=>exact⟨none,rfl,fun m e=>by cases e⟩
 |some T=>
  obtain⟨Bs,hb,hd,ht⟩:=Ao g (aQ g) [] T ho;have hS:Sys g Bs:=Xh hg hv hb fun p hp=>by
   have hl:p.1∈aQ g:=by rw[<- hb];exact aAt (f:=(·.1)) hp
   obtain⟨o,h1,h2⟩:=LS hg oO oO oO hl;rw[hd p hp]at h1;injection h1 with h1;exact h2 p.2 h1.symm
  have hturn:∀ v,eD v T=kJ g Bs v:=fun v=>by rw[ht v];rfl
  have u7:∀ v,(kJ g Bs v).length<=100:=fun v=>by rw[(hS.turn_perm v).length_eq];have:=rF (lI v) (qW v) g.es;show(g.es.flatMap (lI v)).length<=100;omega
  simp only;rw[aAj fun v _=>by rw[hturn v];exact aBa (u7 v) oO];refine⟨_,rfl,fun m e=>⟨Bs,hS,hb,?_,u7⟩⟩;injection e with e;rw[<- e];show(⟨g,g.vs.map fun v=>nrm (eD v T)⟩:Mp)=_
  congr 1
  exact aAQ fun v _=>by rw[hturn]
theorem Hh{g:Gr}(hc:chk g=0)(hn:g.vs.length<=24)(he:g.es.length<=50):∃ o,jU g (aQ g)=some o/\∀ m,o=some m->m.g=g/\GY m=0/\m.rots.length=g.vs.length/\∀ t∈m.rots,t.length<=100:=by
 obtain⟨o,ho,hk⟩:=OG hc hn he;refine⟨o,ho,fun m e=>?_⟩;obtain⟨Bs,hS,hb,rfl,u7⟩:=hk m e;have hm:=hS.map_ok;have hgn:=hS.plane hb;have hr:xR (Cx g Bs)=0:=VF hc hm.len fun k hk=>hm.ok k hk;refine⟨rfl,?_,sS,fun t ht=>?_⟩
 .unfold GY;rw[aAa (fun k=>k hr),aAa (fun k=>k hgn)]
 .obtain⟨v,_,rfl⟩:=aAi.1 ht;rw[cA];exact u7 v
end Aw
namespace Aw
open Pl
theorem Iz{m:Mp}(h:GY m=0):bL m/\gn m=0/\chk m.g=0:=by
 unfold GY at h;by_cases h1:xR m=0
 .rw[aAa (fun k=>k h1)]at h;obtain⟨h2,h3⟩:=Nk h1;exact⟨h3,oO,h2⟩
 .rw[aAj h1]at h;exact absurd h h1
end Aw
namespace Aw
open Go Go.RowKit Pl Eu
theorem HD{g:Gr}(hc:chk g=0)(hn:g.vs.length<=24)(he:g.es.length<=50):∃ o,jU g (aQ g)=some o/\(o.isSome=true↔Pg g.es):=by
 obtain⟨o,ho,hk⟩:=Hh hc hn he;have hv:∀ v∈g.vs,0<=v/\v<4194304:=fun v h=>by have:=(vJ hc).vpos v h;omega
 refine⟨o,ho,fun h=>?_,fun h=>?_⟩
 .obtain⟨m,rfl⟩:=aDt.1 h;obtain⟨rfl,hr,_,_⟩:=hk m rfl;obtain⟨hm,hg,_⟩:=Iz hr;exact hm.pg hg hv
 .exact KL (fun l hl=>PM (fL hc) oO oO oO hl (h.blk (fL hc) hv oO oO hl)) ho
end Aw
namespace Aw
open Go Go.RowKit Pl
def fac:Nat->Nat
 |0=>1
 |n+1=>(n+1)*fac n
def eZ:Nat->List Int->Nat->List Int×Nat
 |0,_,n=>([],n)
 |k+1,l,n=>(l.getD (n % (k+1)) 0::(eZ k (l.eraseIdx (n % (k+1))) (n / (k+1))).1,(eZ k (l.eraseIdx (n % (k+1))) (n / (k+1))).2)
def kC(l:List Int)(n:Nat):List Int×Nat:=
 if l.length<3 then(nrm l,n)else(nrm (l.getD 0 0::(eZ (l.length-1) (l.drop 1) n).1),(eZ (l.length-1) (l.drop 1) n).2)
def jR:List (List Int)->Nat->List (List Int)
 |[],_=>[]
 |l::ls,n=>(kC l n).1::jR ls (kC l n).2
def kF:List (List Int)->Nat
 |[]=>1
 |l::ls=>fac (l.length-1)*kF ls
theorem Ch{l:List Int}{i:Nat}(hi:i<l.length):(l.getD i 0::l.eraseIdx i).Perm l:=by rw[aW _ _ hi];rw[aDL];exact aBE.symm.trans (by rw[<- aAN hi,aAz])
theorem sL:∀(k:Nat) (l:List Int) (n:Nat),l.length=k->(eZ k l n).1.Perm l
 |0,l,n,h=>by rw[aBt.1 h];exact aDQ _
 |k+1,l,n,h=>by
  have hi:n % (k+1)<l.length:=by rw[h];exact aBG _ oO
  exact((sL k _ (n / (k+1)) (by rw[aDi hi];omega)).cons _).trans (Ch hi)
theorem IP:∀(k:Nat) (l t:List Int),l.length=k->t.Perm l->∃ c,c<fac k/\∀ m,eZ k l (c+fac k*m)=(t,m)
 |0,l,t,h,ht=>by rw[aBt.1 h]at ht;exact⟨0,Nat.one_pos,fun m=>by rw[ht.eq_nil];simp[eZ,fac]⟩
 |k+1,l,[],h,ht=>by have:=ht.length_eq;simp at this;omega
 |k+1,l,x::t,h,ht=>by
  have hx:x∈l:=ht.mem_iff.1 aAf;have hi:=aAO hx;have hg:l.getD (l.idxOf x) 0=x:=by rw[aW _ _ hi];exact aBu hi
  have hp:=(ht.trans (Ch hi).symm);rw[hg]at hp;obtain⟨c,h1,h2⟩:=IP k (l.eraseIdx (l.idxOf x)) t (by rw[aDi hi];omega) (aEo x |>.1 hp);generalize l.idxOf x=i at *;refine⟨i+(k+1)*c,?_,fun m=>?_⟩
  .show i+(k+1)*c<(k+1)*fac k;have:(k+1)*(c+1)<=(k+1)*fac k:=aEH _ h1;rw[aDS]at this;omega
  .have e:i+(k+1)*c+fac (k+1)*m=i+(k+1)*(c+fac k*m):=by show i+(k+1)*c+(k+1)*fac k*m=_;rw[aDS,aDD,aED]
   have e1:(i+(k+1)*(c+fac k*m)) % (k+1)=i:=by rw[Nat.add_mul_mod_self_left];exact aAG oO
   have e2:(i+(k+1)*(c+fac k*m)) / (k+1)=c+fac k*m:=by rw[Nat.add_mul_div_left _ _ oO,aDf oO,aBv]
   rw[e];simp only[eZ,e1,e2,h2,hg]
theorem WL(l:List Int):(nrm l).Perm l:=by unfold nrm rt;exact aBj.trans (by rw[aAz])
theorem WN{l:List Int}(h:l.Nodup):nrm (nrm l)=nrm l:=LK (VV l) h
theorem XF{l:List Int}(hl:l.Nodup)(n:Nat):(kC l n).1.Perm l/\nrm (kC l n).1=(kC l n).1:=by
 unfold kC;by_cases h:l.length<3
 .rw[aAj h];exact⟨WL l,WN hl⟩
 .rw[aAa h];have hp:=sL (l.length-1) (l.drop 1) n sS;have h1:(l.getD 0 0::(eZ (l.length-1) (l.drop 1) n).1).Perm l:=by
   match l,h with
   |a::l,_=>exact(show(eZ l.length l n).1.Perm l from hp).cons a
  exact⟨(WL _).trans h1,WN (h1.nodup_iff.2 hl)⟩
theorem Ub{l t:List Int}(hl:l.Nodup)(ht:t.Perm l)(hn:nrm t=t):∃ c,c<fac (l.length-1)/\∀ m,kC l (c+fac (l.length-1)*m)=(t,m):=by
 match l,hl,ht with
 |[],_,ht=>exact⟨0,Nat.one_pos,fun m=>by rw[ht.eq_nil];simp[kC,fac,nrm,rt]⟩
 |a::l,hl,ht=>
  obtain⟨A,B,rfl⟩:=aBb (ht.mem_iff.2 aAf:a∈t);have hp:(B++A).Perm l:=by have h1:(a::(B++A)).Perm (a::l):=(aBj (l₁:=a::B) (l₂:=A)).trans ht;exact(aEo a).1 h1
  have hc:nrm (a::(B++A))=A++a::B:=by rw[<- hn];refine LK ⟨A.length,sS,?_⟩ (ht.nodup_iff.2 hl);simp[rt]
  obtain⟨c,h1,h2⟩:=IP l.length l (B++A) rfl hp;by_cases h:l.length<2
  .have hf:fac l.length=1:=by
    match l,h with
    |[],_=>rfl
    |[x],_=>rfl
    |_::_::_,h=>simp only[List.length_cons]at h;omega
   refine⟨0,by rw[List.length_cons,aBP,hf];exact Nat.one_pos,fun m=>?_⟩;have e:B++A=l:=by
    match l,h,hp with
    |[],_,hp=>exact hp.eq_nil
    |[x],_,hp=>exact List.perm_singleton.1 hp
    |_::_::_,h,_=>simp only[List.length_cons]at h;omega
   rw[e]at hc;unfold kC;rw[aAj (by simp;omega),List.length_cons,aBP,hf,hc];simp
  .refine⟨c,h1,fun m=>?_⟩;simp only[kC,List.length_cons,aBP,aDk,List.drop_zero,h2 m];rw[aAa oO];simp[hc]
theorem Eg:∀(ls:List (List Int)) (n:Nat),(∀ l∈ls,l.Nodup)->(jR ls n).length=ls.length/\∀ k,k<ls.length->((jR ls n).getD k []).Perm (ls.getD k [])/\nrm ((jR ls n).getD k [])=(jR ls n).getD k []
 |[],_,_=>⟨rfl,fun k h=>by simp at h⟩
 |l::ls,n,h=>by
  obtain⟨h1,h2⟩:=Eg ls (kC l n).2 fun x hx=>h x (aAc _ hx);refine⟨by simp[jR,h1],fun k hk=>?_⟩;cases k with
  |zero=>exact XF (h l aAf) n
  |succ k=>exact h2 k (by simpa using hk)
theorem Gd:∀(ls ts:List (List Int)),(∀ l∈ls,l.Nodup)->ts.length=ls.length->(∀ k,k<ls.length->(ts.getD k []).Perm (ls.getD k [])/\nrm (ts.getD k [])=ts.getD k [])->∃ n,n<kF ls/\jR ls n=ts
 |[],ts,_,h,_=>⟨0,Nat.one_pos,by rw[aBt.1 h];rfl⟩
 |l::ls,[],_,h,_=>by simp at h
 |l::ls,t::ts,hd,h,ht=>by
  obtain⟨n,h1,h2⟩:=Gd ls ts (fun x hx=>hd x (aAc _ hx)) (by simpa using h) fun k hk=>ht (k+1) (by simpa using hk);have h0:=ht 0 sS;obtain⟨c,h3,h4⟩:=Ub (hd l aAf) h0.1 h0.2;refine⟨c+fac (l.length-1)*n,?_,?_⟩
  .show _<fac (l.length-1)*kF ls;have:fac (l.length-1)*(n+1)<=fac (l.length-1)*kF ls:=aEH _ h1;rw[aDS]at this;omega
  .simp[jR,h4,h2]
end Aw
namespace Aw
open Go Go.RowKit Pl Eu
def fF(g:Gr):List (List Int):=g.vs.map (ends g.es)
def Az(g:Gr)(n:Nat):Mp:=⟨g,jR (fF g) n⟩
theorem xH{g:Gr}{k:Nat}(hk:k<g.vs.length):(fF g).getD k []=ends g.es (g.vs.getD k 0):=by
 have:k<(fF g).length:=by simpa[fF]using hk
 rw[iN _ _ this,aW _ _ hk];simp[fF]
theorem pP{g:Gr}(hg:GoodE g):∀ l∈fF g,l.Nodup:=fun l hl=>by obtain⟨v,_,rfl⟩:=aAi.1 hl;exact gD (wT hg.ids v)
theorem Ke{g:Gr}(hg:GoodE g)(n:Nat):bL (Az g n):=by
 obtain⟨h1,h2⟩:=Eg (fF g) n (pP hg);have hl:(fF g).length=g.vs.length:=by simp[fF]
 exact⟨hg,h1.trans hl,fun k hk=>by
  have:=h2 k (by rw[hl];exact hk);rw[xH (g:=g) hk]at this
  exact this⟩
theorem TG{g:Gr}(hc:chk g=0)(hn:g.vs.length<=24)(he:g.es.length<=50):(∃ n,n<kF (fF g)/\gn (Az g n)=0)↔Pg g.es:=by
 have hg:=fL hc;have hv:∀ v∈g.vs,0<=v/\v<4194304:=fun v h=>by have:=(vJ hc).vpos v h;omega
 constructor
 .rintro⟨n,_,h⟩;exact(Ke hg n).pg h hv
 .intro h;obtain⟨o,h1,h2⟩:=Hh hc hn he;obtain⟨o',h3,h4⟩:=HD hc hn he;rw[h1]at h3;injection h3 with h3;subst h3;obtain⟨m,rfl⟩:=aDt.1 (h4.2 h);obtain⟨rfl,hr,_,_⟩:=h2 m rfl;obtain⟨hm,hg0,_⟩:=Iz hr;obtain⟨n,k1,k2⟩:=Gd (fF m.g) m.rots (pP hg) (by rw[hm.len];simp[fF]) fun k hk=>by
   have P0:k<m.g.vs.length:=by simpa[fF]using hk
   rw[xH P0];exact hm.ok k P0
  refine⟨n,k1,?_⟩;unfold Az;rw[k2];exact hg0
end Aw
namespace Aw
open Go Go.RowKit Pl
theorem Nl{R:List Int}(m:Nat)(h:0<R.length):eZ R.length R m=(R.getD (m % R.length) 0::(eZ (R.length-1) (R.eraseIdx (m % R.length)) (m / R.length)).1,(eZ (R.length-1) (R.eraseIdx (m % R.length)) (m / R.length)).2):=by obtain⟨k,hk⟩:∃ k,R.length=k+1:=⟨R.length-1,oO⟩;rw[hk];rfl
theorem Ye(l:List Int)(n t:Nat)(st:St)(hl:l.length<=1000)(hn:n<=1000000):
 aB prog 52 [.sl t l.length (us l),i n] st fun r st'=>r=.tu [.sl 0 l.length (us (kC l n).1),i ((kC l n).2:Nat)]/\aA st st':=by
 by_cases h3:(l.length:Int)<3
 .have e:kC l n=(nrm l,n):=by unfold kC;rw[aAj oO]
  refine zN func52 ntmps52 [.tmp 4,.tmp 5] ?_
  (refine xj1 h3 ?_;intro J hJ)
  refine qE (tK l t _ (by unfold small;omega)) sS ?_;rintro r s1 ⟨rfl,j7⟩;refine dQ hJ ?_;rw[e];exact⟨⟨rfl,rfl⟩,j7⟩
 .obtain⟨a,l,rfl⟩:∃ a l',l=a::l':=by
   match l,h3 with
   |[],h=>simp at h
   |a::l,_=>exact⟨a,l,rfl⟩
  have hln:l.length+1<=1000:=hl;have e:kC (a::l) n=(nrm (a::(eZ l.length l n).1),(eZ l.length l n).2):=by unfold kC;rw[aAa oO];simp
  have hlc:((a::l).length:Int)=l.length+1:=sS;have U3:(eZ l.length l n).1.length=l.length:=(sL l.length l n rfl).length_eq;refine zN func52 ntmps52 [.tmp 4,.tmp 5] ?_;refine eR fun M5=>?_
  (repeat' (first|apply qS|apply qB|refine qK (zZ ?_)|(apply qC;simp[h3,hlc];(try with_reducible refine⟨?_,?_⟩)<;>(try with_reducible intro hc)<;>try (exfalso;omega))|(refine zE ?_;intro J hJ;simp[h3,hlc];(repeat refine ca ?_);(refine zJ hJ ?_;clear hJ J))))
  refine qL (fun k fr s=>∃(O R:List Int) (m:Nat),R.length=k/\m<=1000000/\O.length+k=l.length+1/\O++(eZ k R m).1=a::(eZ l.length l n).1/\(eZ k R m).2=(eZ l.length l n).2/\fr 1=i m/\(∃ t,fr 6=.sl t O.length (us O)/\s.H t=.own 34 1 O.length/\st.next<=t/\t<s.next)/\(∃ t,fr 7=.sl t R.length (us R))/\aA st s) l.length ?_ ?_
  .refine⟨[a],l,n,rfl,hn,by simp;omega,rfl,rfl,sS,⟨st.next,sS,?_,aAl _,by simp;omega⟩,⟨_,by simp;rfl⟩,?_⟩
   .simp only[St.new,St.set];rw[aAa oO,aAa oO,aAa oO,aAj trivial];rfl
   .exact(((aA.new _ _).trans (aA.new _ _)).set sS _).trans (aA.new _ _)
  rintro k fr s ⟨O,R,m,rfl,hm,hOR,h1,h2,f1,⟨t6,f6,hO,ht0,htn⟩,⟨t7,f7⟩,j8⟩ JJ hJJ;by_cases hR:(0:Int)<R.length
  .have hRc:¬(R.length:Int)=0:=oO;have htd:(m:Int).tmod R.length=((m % R.length:Nat):Int):=by rw[aCF oO];rfl
   have htq:(m:Int).tdiv R.length=((m / R.length:Nat):Int):=by rw[Int.tdiv_eq_ediv_of_nonneg oO];rfl
   have hmi:m % R.length<R.length:=aBG _ oO;have hmq:m / R.length<=m:=Nat.div_le_self _ _;have hd:=qG R (m % R.length) hmi;have e1:=Nl (R:=R) m oO;generalize hi:m % R.length=ii at *;generalize hq:m / R.length=qq at *;have hwq:IntKind.i64.wrap (qq:Int)=qq:=zW;have hRn:¬R=[]:=fun h=>by rw[h]at hR;simp at hR
   have hRp:0<R.length:=oO;have hwi:=qN ii oO;have g1:¬t6=s.next:=oO;have g2:¬t6=0:=oO;have N7:min ii R.length=ii:=oO;have U6:∀ x∈us R,iM x=true:=aBJ.1 (Ey R);have hmx:ii<=maxLen:=aBa (by omega:ii<=1000) (by decide)
   (repeat' (first|apply qS|apply qB|refine qK (zZ ?_)|(apply qC;simp[f1,f6,f7,hR,hRc,htd,htq,hwq,hd,hmi,hO,hRn,hRp,g1,g2])|(refine zE ?_;intro J hJ;simp[f1,f6,f7,hR,hRc,htd,htq,hwq,hd,hmi,hO,hRn,hRp,g1,g2];(repeat refine ca ?_);(refine zJ hJ ?_;clear hJ J))))
   (refine zS [] [] [2,4,6,10,12,14,16,1,9,19,20] ?_;intro J hJ;simp[f7,hwi,N7,hmi,hmx];(repeat refine ca ?_))
   refine⟨⟨fun x hx=>U6 x (aBT hx),oO⟩,⟨fun x hx=>U6 x (aDg hx),oO,aBa (by omega:_<=1000) (by decide)⟩,?_⟩;refine hJ _ _ (zZ ?_);clear hJ J;have hel:(R.eraseIdx ii).length=R.length-1:=aDi hmi;have her:us (R.eraseIdx ii)=List.take ii (us R)++List.drop (ii+1) (us R):=by rw[aDL];simp[us]
   have hgx:R.getD ii 0=R[ii]:=aW _ _ hmi;rw[e1]at h1 h2;have q1:¬s.next+1=s.next+1+1:=oO;have q2:¬s.next+1=s.next+1+1+1:=oO;have q3:¬s.next+1=s.next+1+1+1+1:=oO;refine hJJ (R.eraseIdx ii).length _ _ (by rw[hel];omega) ⟨O++[R.getD ii 0],R.eraseIdx ii,qq,rfl,oO,by rw[hel];simp;omega,by rw[hel];simpa using h1,by rw[hel];exact h2,sS,⟨s.next+1,sF1 hmi,sF3 q1 q2 q3,by have:=j8.next;omega,sS⟩,⟨s.next+1+1+1+1,by rw[hel,her];simp;omega⟩,?_⟩;have hkn:=j8.next;exact(((((((j8.trans (aA.new _ _)).set ht0 _).trans (aA.new _ _)).trans (aA.new _ _)).set oO _).trans (aA.new _ _)).set oO _).trans (aA.new _ _)
  .have hR0:R=[]:=aBt.1 oO;subst hR0;rw[show eZ ([]:List Int).length [] m=([],m) from rfl]at h1 h2;rw[aAS]at h1;subst h1;clear hJJ
   (refine xj3 f1 f6 f7 ?_;intro J hJ)
   refine qE (tK (a::(eZ l.length l n).1) t6 _ (by unfold small;simp[U3];omega)) sS ?_;rintro r s1 ⟨rfl,j7⟩;have h2':m=(eZ l.length l n).2:=h2;refine nL hJ f1 ?_;rw[e,h2'];exact⟨⟨⟨U3,rfl⟩,rfl⟩,j8.trans j7⟩
theorem OP{ls:List (List Int)}{j:Nat}(h:j<ls.length):kF (ls.take (j+1))=kF (ls.take j)*fac ((ls.getD j []).length-1):=by
 induction ls generalizing j with
 |nil=>simp at h
 |cons l ls ih=>
  cases j with
  |zero=>simp[kF]
  |succ j=>have:=ih (j:=j) (by simpa using h);simp only[List.take_succ_cons,kF,this,List.getD_cons_succ,aDD]
theorem ZY(g:Gr)(st:St)(hv:g.vs.length<=1000)(he:g.es.length<=400)(hid:JL g.es):
 aB prog 26 [.ag (grL g),i 2000] st fun r st'=>(∃ z:Nat,r=i z/\(z<=2000->z=kF (g.vs.map (ends g.es))))/\aA st st':=by
 refine zN func26 ntmps26 [.tmp 4] ?_;refine xw0 ?_;refine aY 12 11 13 32 (g.vs.length) (fun j fr st2=>fr 1=i 2000/\fr 2=.pt st.next 0/\fr 10=.sl 0 g.vs.length (us g.vs)/\kF ((g.vs.map (ends g.es)).take j)<=2000/\fr 5=i (kF ((g.vs.map (ends g.es)).take j):Nat)/\st2.H st.next=.box 25 2 (grL g)/\st.next<st2.next/\aA st st2) ?_ ?_ ?_
 .exact⟨sS,sS,sS,by simp[kF],by simp[kF],sS,sS,aA.new _ _⟩
 .rintro j fr s dA ⟨f1,f2,f10,hp,f5,hG,hn,hk⟩ fi fn JO hJO;have hd:=qG g.vs j dA;have hpt:=OP (ls:=g.vs.map (ends g.es)) (j:=j) (by simpa using dA);have hgd:(g.vs.map (ends g.es)).getD j []=ends g.es (g.vs.getD j 0):=by
   have:j<(g.vs.map (ends g.es)).length:=by simpa using dA
   rw[aAg,aAh this,aW _ _ dA];simp
  rw[hgd]at hpt;generalize g.vs.getD j 0=v at *;generalize kF ((g.vs.map (ends g.es)).take j)=p at *;have hel:(ends g.es v).length<=800:=by have:=rF (lI v) (qW v) g.es;show(g.es.flatMap (lI v)).length<=800;omega
  refine xw7 f2 f10 hG hd dA fi fn ?_;refine qL (fun n fr s=>∃ k:Nat,2<=k/\n+k=max 2 (ends g.es v).length/\p*fac (k-1)<=2000/\fr 1=i 2000/\fr 2=.pt st.next 0/\fr 7=u v/\fr 8=i k/\fr 5=i (p*fac (k-1):Nat)/\fr 10=.sl 0 g.vs.length (us g.vs)/\fr 11=i g.vs.length/\fr 12=i j/\s.H st.next=.box 25 2 (grL g)/\st.next<s.next/\aA st s) (max 2 (ends g.es v).length-2) ?_ ?_
  .exact⟨2,oO,oO,by simpa[fac]using hp,sF1 f1,sF1 f2,sS,sS,by simp[fac,f5],sF1 f10,sF1 fn,sF1 fi,hG,hn,hk⟩
  rintro n fr s ⟨k,u6,hnk,hpk,f1,f2,f7,f8,f5,f10,f11,f12,hG,hn,hk⟩ JJ hJJ;have hfk:p*fac k=p*fac (k-1)*k:=by obtain⟨k',rfl⟩:∃ k',k=k'+1:=⟨k-1,oO⟩;simp only[fac,aBP];rw[aBV (k'+1),aDD]
  by_cases hkl:k<(ends g.es v).length
  ·(refine xj4 f2 f7 f8 hG ?_;intro J hJ)
   refine qE (uT g v _ oO hid) sS ?_;rintro r s1 ⟨⟨t,rfl⟩,j7⟩;have N6:=j7.next;have X7:=(j7.H st.next oO).trans hG;have hqk:p*fac (k-1)*k<=2000*800:=Nat.mul_le_mul hpk oO;have hk1':fac (k+1-1)=fac k:=rfl;generalize p*fac (k-1)=q at *;have hmw:IntKind.i64.wrap ((q:Int)*(k:Int))=((q*k:Nat):Int):=by rw[<- Int.natCast_mul];exact wrap_i64 _ oO oO
   have hkw:=xF k oO;generalize q*k=m at *;by_cases hgt:(2000:Int)<m
   .have R6:IntKind.i64.wrap (2000+1)=2001:=by decide
    clear hJJ hJO;refine ZX hJ f1 f5 f8 hkl hmw hgt R6 ?_;exact⟨⟨2001,rfl,fun h=>by omega⟩,hk.trans j7⟩
   .refine ZX hJ f1 f5 f8 hkl hmw hgt hkw ?_;exact hJJ (n-1) _ _ oO ⟨k+1,oO,oO,by rw[hk1',hfk];omega,sF1 f1,sF1 f2,sF1 f7,sS,by rw[hk1',hfk];simp,sF1 f10,sF1 f11,sF1 f12,X7,oO,hk.trans j7⟩
  .have hke:fac (k-1)=fac ((ends g.es v).length-1):=by
    rcases aAM (ends g.es v).length 2 with h|h
    .rw[show k=2 by omega,show(ends g.es v).length-1=0 by omega];rfl
    .rw[show k=(ends g.es v).length by omega]
   clear hJJ
   (refine xj4 f2 f7 f8 hG ?_;intro J hJ)
   refine qE (uT g v _ oO hid) sS ?_;rintro r s1 ⟨⟨t,rfl⟩,j7⟩;have N6:=j7.next;have X7:=(j7.H st.next oO).trans hG;refine vP hJ f8 hkl ?_;exact hJO _ _ (sF1 f12) (sF1 f11) ⟨sF1 f1,sF1 f2,sF1 f10,by rw[hpt,<- hke];exact hpk,by rw[hpt,<- hke];simp[f5],X7,oO,hk.trans j7⟩
 .rintro fr s ⟨f1,f2,f10,hp,f5,hG,hn,hk⟩;refine xw1 f5 ?_;exact⟨⟨_,rfl,fun _=>rfl⟩,hk⟩
def rJ:List (List Int)->Nat->Nat
 |[],n=>n
 |l::ls,n=>rJ ls (kC l n).2
theorem DY:∀(ls:List (List Int)) (n j:Nat),j<ls.length->jR (ls.take (j+1)) n=jR (ls.take j) n++[(kC (ls.getD j []) (rJ (ls.take j) n)).1]/\rJ (ls.take (j+1)) n=(kC (ls.getD j []) (rJ (ls.take j) n)).2
 |[],_,_,h=>by simp at h
 |l::ls,n,0,_=>by simp[jR,rJ]
 |l::ls,n,j+1,h=>by obtain⟨h1,h2⟩:=DY ls (kC l n).2 j (by simpa using h);exact⟨by simp[jR,rJ,h1],by simp[rJ,h2]⟩
theorem Lt:∀(k:Nat) (l:List Int) (n:Nat),(eZ k l n).2<=n
 |0,_,_=>aAl _
 |k+1,_,n=>aBa (Lt k _ _) (Nat.div_le_self _ _)
theorem YK(l:List Int)(n:Nat):(kC l n).2<=n:=by
 unfold kC
 split
 .exact aAl _
 .exact Lt _ _ _
theorem Le:∀(ls:List (List Int)) (n:Nat),rJ ls n<=n
 |[],_=>aAl _
 |l::ls,n=>aBa (Le ls _) (YK l n)
theorem VO{l:List Int}(n:Nat):(kC l n).1.length=l.length:=by
 unfold kC
 split
 .exact cA _
 .rename_i h;have:=(sL (l.length-1) (l.drop 1) n sS).length_eq;simp only[cA,List.length_cons,this,aAL];omega
theorem Zj(l:List Int):z0L (us l)=us l:=by induction l<;>simp_all[z0L,z0]
theorem Xo(l:List Ed):z0L (eds l)=eds l:=by
 induction l with
 |nil=>rfl
 |cons a l ih=>simp only[aAH]at ih ⊢;simp[z0L,z0,ih]
theorem Te(l:List (List Int)):z0L (eF l)=eF l:=by
 induction l with
 |nil=>rfl
 |cons a l ih=>simp only[aAm]at ih ⊢;simp only[z0L,z0,ih,Zj]
theorem YS(g:Gr)(W:Nat)(st:St)(hg:GoodE g)(hid:JL g.es)(hv:g.vs.length<=64)(he:g.es.length<=64)(hW:W<=2000):
 aB prog 27 [.ag (grL g),i W] st fun r st'=>r=bb (decide (∃ n,n<W/\gn (Az g n)=0))/\aA st st':=by
 refine zN func27 ntmps27 [.tmp 4] ?_;refine xw0 ?_;refine qL (fun m fr s=>∃ n:Nat,n<=W/\m=W-n/\(∀ k,k<n->gn (Az g k)≠0)/\fr 1=i W/\fr 2=.pt st.next 0/\fr 5=i n/\s.H st.next=.box 25 2 (grL g)/\st.next<s.next/\aA st s) W ?_ ?_
 .exact⟨0,oO,oO,fun k h=>by omega,sS,sS,sS,sS,sS,aA.new _ _⟩
 rintro m fr s ⟨n,hn,rfl,x9,f1,f2,f5,hG,X3,hk⟩ JJ hJJ;by_cases dA:n<W;rotate_left
 .clear hJJ;refine xw3 f1 f5 dA ?_;exact⟨fun x h=>x9 x oO,hk⟩
 .have q1:¬st.next=s.next:=oO;refine xw6 f1 f2 f5 dA hG q1 ?_;refine Cc (e:=28) (s:=3) s.next 22 1 [.sl 0 g.vs.length (us g.vs),.sl 0 g.es.length (eds g.es)] [] sS ?_;have hEl:(fF g).length=g.vs.length:=by simp[fF]
  have q2:¬st.next=s.next+1:=oO;refine aY 23 22 24 42 (g.vs.length) (fun j fr st2=>fr 1=i W/\fr 2=.pt st.next 0/\fr 5=i n/\fr 6=.pt s.next 0/\fr 7=i (rJ ((fF g).take j) n:Nat)/\fr 21=.sl 0 g.vs.length (us g.vs)/\st2.H st.next=.box 25 2 (grL g)/\s.next<st2.next/\aA st st2/\∃ t,st2.H s.next=.box 28 3 [.sl 0 g.vs.length (us g.vs),.sl 0 g.es.length (eds g.es),.sl t j (eF (jR ((fF g).take j) n))]/\st2.H t=.own 22 1 j/\s.next<t/\t<st2.next) ?_ ?_ ?_
  .refine⟨sF1 f1,sF1 f2,sF1 f5,sS,by simp[rJ],sS,sF3 q1 q2 hG,by simp;omega,?_,s.next+1,by simp[jR,eF],sS,oO,sS⟩;exact(((hk.trans (aA.new _ _)).trans (aA.new _ _)).set oO _)
  .rintro j fr s2 O3 ⟨f1,f2,f5,f6,f7,f21,hG,hsn2,hk,t,hM,hO,ht0,htn⟩ fi fn JO hJO;have hd:=qG g.vs j O3;obtain⟨r1,r2⟩:=DY (fF g) n j (by rw[hEl];exact O3);rw[xH O3]at r1 r2;have u7:=Le ((fF g).take j) n;generalize rJ ((fF g).take j) n=z at *;generalize g.vs.getD j 0=v at *;have hel:(ends g.es v).length<=200:=by have:=rF (lI v) (qW v) g.es;show(g.es.flatMap (lI v)).length<=200;omega
   (refine xj8 f2 f7 f21 hG hd O3 fi fn ?_;intro J hJ)
   refine qE (uT g v _ oO hid) sS ?_;rintro r s3 ⟨⟨t3,rfl⟩,o8⟩;have hn3:=o8.next;have hM3:=(o8.H s.next oO).trans hM;have hO3:=(o8.H t oO).trans hO;have hG3:=(o8.H st.next oO).trans hG;refine nL hJ f7 ?_;refine qE (Ye (ends g.es v) z t3 _ oO oO) sS ?_;rintro r s4 ⟨rfl,M7⟩;have hn4:=M7.next;have hM4:=(M7.H s.next oO).trans hM3;have hO4:=(M7.H t oO).trans hO3;have hG4:=(M7.H st.next oO).trans hG3;have Y2:=VO (l:=ends g.es v) z;have hrt:(jR ((fF g).take j) n).length=j:=by rw[(Eg _ n fun l hl=>pP hg l (aBT hl)).1,aAw];omega
   have g1:¬t=s4.next:=oO;have g2:¬t=0:=oO;have g3:¬s.next=s4.next:=oO;have g4:¬s.next=s4.next+1:=oO;have g5:¬s.next=t:=oO;have g6:¬st.next=s4.next:=oO;have g7:¬st.next=t:=oO;have g8:¬st.next=s4.next+1:=oO;have g9:¬s4.next+1=s.next:=oO
   (repeat' (first|apply qS|((first|(refine zE ?_;intro J hJ)|(apply cI));simp[f6,hM4,hO4,hrt,g1,g2,g3,g4,g5];(repeat refine ca ?_);(refine zJ hJ ?_;clear hJ J))))
   have hkn:=hk.next;refine hJO _ _ (sF1 fi) (sF1 fn) ⟨sF1 f1,sF1 f2,sF1 f5,sF1 f6,by rw[r2];simp,sF1 f21,sF5 g6 g7 g8 q1 hG4,by simp;omega,?_,s4.next+1,by rw[r1];simp[Y2],sF1 g9,oO,sS⟩;exact(((((hk.trans o8).trans M7).trans (aA.new _ _)).set oO _).trans (aA.new _ _)).set oO _
  .rintro fr s2 ⟨f1,f2,f5,f6,f7,f21,hG,hsn2,hk,t,hM,hO,ht0,htn⟩;rw[aAu oO]at hM;have hrl:(jR (fF g) n).length=g.vs.length:=(Ke hg n).len
   (refine xj2 f6 hM ?_;intro J hJ)
   refine Dj (Yu (Az g n) (Ke hg n) _ (by show g.vs.length<=1000;omega) (by show g.es.length<=1000;omega)) (by simp[z0,z0L,mpL,Az,hrl,Xo,Te]) ?_;rintro r s3 ⟨rfl,o8⟩;have hn3:=o8.next;have hG3:=(o8.H st.next oO).trans hG;by_cases hz:gn (Az g n)=0
   .have ht:∃ n,n<W/\gn (Az g n)=0:=⟨n,dA,hz⟩;clear hJJ;refine nL hJ hz ?_;exact⟨ht,hk.trans o8⟩
   .have hz2:(2*gn (Az g n)==0)=false:=by simp;omega
    have hw:=xF n oO
    (repeat' (first|refine qK (zZ ?_)|(apply qC;simp[hz,hz2,f5,hw];(try with_reducible refine⟨?_,?_⟩)<;>(try with_reducible intro hc)<;>try (exfalso;omega))|((first|(refine zE ?_;intro J hJ)|(apply cI));simp[hz,hz2,f5,hw];(refine zJ hJ ?_;clear hJ J))))
    exact hJJ (W-(n+1)) _ _ oO ⟨n+1,oO,rfl,fun k h=>by
     rcases aAM k n with h1|h1
     .exact x9 k h1
     .rw[show k=n by omega];exact hz,sF1 f1,sF1 f2,sS,hG3,oO,hk.trans o8⟩
def DE:Gr:=⟨[1,2,3],[⟨1,1,2⟩,⟨2,2,3⟩,⟨3,3,1⟩]⟩
def tI:Gr:=⟨[1,2,3,4,5],[⟨1,1,2⟩,⟨2,1,3⟩,⟨3,1,4⟩,⟨4,1,5⟩,⟨5,2,3⟩,⟨6,2,4⟩,⟨7,2,5⟩,⟨8,3,4⟩,⟨9,3,5⟩,⟨10,4,5⟩]⟩
theorem TQ{g:Gr}(hg:GoodE g){s:Bw}(h:uC g.es g.vs.length g.vs ⟨[],[],[],[]⟩=some s){B:List (List Nat)}(hp:B.Perm s.out)(hr:B.Pairwise fun x y=>x.headD 0<y.headD 0):fT g.es=B:=by
 grind [sN,Ap]
theorem DI{g:Gr}(hg:GoodE g){out:List (List Nat)}(h:(uC (sE g.es) g.vs.length g.vs ⟨[],[],[],[]⟩).map (·.out)=some out){B:List (List Nat)}(hp:B.Perm out)(hr:B.Pairwise fun x y=>x.headD 0<y.headD 0):aQ g=B.map fun B=>B.map (eAt (sE g.es)):=by obtain⟨s,h1,rfl⟩:=aBk.1 h;unfold aQ;rw[TQ (g:=⟨g.vs,sE g.es⟩) hg.simple h1 hp hr]
theorem Iw:chk DE=0:=by decide +kernel
theorem EC:chk tI=0:=by decide +kernel
theorem Oq:aQ DE=[DE.es]:=by rw[DI (fL Iw) (out:=[[0,1,2]]) (by decide +kernel) (aDQ _) (by decide)];decide +kernel
theorem JU:aQ tI=[tI.es]:=by rw[DI (fL EC) (out:=[[0,1,2,3,4,5,6,7,8,9]]) (by decide +kernel) (aDQ _) (by decide)];decide +kernel
theorem Ns:(if chk tI=0 then jU tI (aQ tI)else some none)=some none:=by rw[aAj EC,JU];rfl
theorem Sl:(if chk DE=0 then jU DE (aQ DE)else some none)=some (some ⟨DE,[[2,7],[3,4],[5,6]]⟩):=by rw[aAj Iw,Oq];rfl
def pJ(a b:Nat):List Ed:=tI.es.filter fun e=>decide (e.a<a)||(decide (e.a=a)&&decide (e.b<b))
theorem Nw(a b:Nat)(h1:1<=a)(h2:a<b)(h3:b<=5):pJ a (b+1)=pJ a b++[⟨(pJ a b).length+1,a,b⟩]:=by
 have h:∀ a:Fin 6,∀ b:Fin 6,1<=a.1->a.1<b.1->pJ a.1 (b.1+1)=pJ a.1 b.1++[⟨(pJ a.1 b.1).length+1,a.1,b.1⟩]:=by decide +kernel
 exact h ⟨a,oO⟩ ⟨b,oO⟩ h1 h2
theorem OI(a:Nat)(h1:1<=a)(h2:a<=5):pJ a 6=pJ (a+1) (a+2):=by
 have h:∀ a:Fin 6,1<=a.1->pJ a.1 6=pJ (a.1+1) (a.1+2):=by decide +kernel
 exact h ⟨a,oO⟩ h1
theorem Ud(a b:Nat):(pJ a b).length<=10:=aBl _ _
def FvS(st:St)(a b:Nat)(s:St):Prop:=s.H st.next=.box 25 2 [.nil,.nil]/\aA st s/\∃ tv t,s.H (st.next+2)=.box 25 2 [.sl tv 5 (us [1,2,3,4,5]),.sl t (pJ a b).length (eds (pJ a b))]/\t≠0/\st.next+2<t/\t<s.next/\s.H t=.own 36 3 (pJ a b).length
theorem ZE(st:St):aB prog 34 [] st fun r st'=>r=.ag (grL tI)/\aA st st':=by
 refine eU ?_;refine zN func34 ntmps34 [.cell 0 25] ?_;refine eR fun M5=>?_;refine xw0 ?_;refine Cc (st.next+2) 36 3 (e:=25) (s:=2) [.sl (st.next+1) 5 (us [1,2,3,4,5])] [] sS ?_;refine qL (fun n fr s=>∃ a:Nat,1<=a/\a<=6/\n=6-a/\fr 0=.pt st.next 0/\fr 1=.pt (st.next+2) 0/\fr 2=u a/\FvS st a (a+1) s) 5 ?_ ?_
 .refine⟨1,oO,oO,rfl,sS,sS,sS,?_,?_,st.next+1,st.next+3,?_,oO,oO,sS,?_⟩
  ·(repeat (first|rw[nHh nOo]|rw[sHh oO]|rw[nIi nQq]|rw[sIi oO]))
  .exact(((((aA.new _ _).trans (aA.new _ _)).trans (aA.new _ _)).set oO _).trans (aA.new _ _)).set oO _
  .have:pJ 1 (1+1)=[]:=by decide +kernel
   rw[this];(repeat (first|rw[nHh nOo]|rw[sHh oO]|rw[nIi nQq]|rw[sIi oO]));simp[us,eds]
  .have:pJ 1 (1+1)=[]:=by decide +kernel
   rw[this];(repeat (first|rw[nHh nOo]|rw[sHh oO]|rw[nIi nQq]|rw[sIi oO]));simp
 rintro n fr s ⟨a,a1,a2,rfl,f0,f1,f2,hS⟩ JJ hJJ;by_cases ha:a<=5
 .have hw:IntKind.u32.wrap ((a:Int)+1)=((a+1:Nat):Int):=by rw[wrap_u32' _ oO oO];omega
  have ha2:(a:Int)<=5:=oO;refine xw3 f2 ha2 hw ?_;refine qL (fun n fr s=>∃ b:Nat,a<b/\b<=6/\n=6-b/\fr 0=.pt st.next 0/\fr 1=.pt (st.next+2) 0/\fr 2=u a/\fr 3=u b/\FvS st a b s) (6-(a+1)) ?_ ?_
  .exact⟨a+1,oO,oO,rfl,sF1 f0,sF1 f1,sF1 f2,sS,hS⟩
  clear f0 f1 f2 hS fr s;rintro n fr s ⟨b,b1,b2,rfl,f0,f1,f2,f3,hS⟩ J2 hJ2;by_cases hb:b<=5
  .have hwb:IntKind.u32.wrap ((b:Int)+1)=((b+1:Nat):Int):=by rw[wrap_u32' _ oO oO];omega
   have X6:(b:Int)<=5:=oO;obtain⟨hR,hk,tv,t,hB,t0,t1,t2,tH⟩:=hS;have D3:=Nw a b a1 b1 hb;have U3:=Ud a b;generalize pJ a b=E at *;have w1:IntKind.i64.wrap ((E.length:Int)+1)=(E.length:Int)+1:=zW;have w2:IntKind.u32.wrap ((E.length:Int)+1)=(E.length:Int)+1:=wrap_u32' _ oO oO;have hel:=aK E;have S5:=WE E;have c1:¬t=s.next:=oO;have c2:¬s.next=t:=oO;have c3:¬st.next+2=s.next:=oO;have c4:¬st.next+2=t:=oO;have c5:¬st.next+2=s.next+1:=oO;have c6:¬s.next=st.next+2:=oO
   (repeat' (first|apply qS|apply qB|refine qK (zZ ?_)|(apply qC;simp[f0,f1,f2,f3,X6,hwb,hB,tH,t0,w1,w2,hel,S5,c1,c2,c3,c4,c5,c6])|(refine zE ?_;intro J hJ;simp[f0,f1,f2,f3,X6,hwb,hB,tH,t0,w1,w2,hel,S5,c1,c2,c3,c4,c5,c6];(repeat refine ca ?_);refine zJ hJ ?_)))
   refine hJ2 (6-(b+1)) _ _ oO ⟨b+1,oO,oO,rfl,sF1 f0,sF1 f1,sF1 f2,sS,?_,?_,tv,s.next+1,?_,oO,oO,sS,?_⟩
   ·(repeat (first|rw[nHh nOo]|rw[sHh oO]|rw[nIi nQq]|rw[sIi oO]));exact hR
   .exact(((hk.trans (aA.new _ _)).set oO _).trans (aA.new _ _)).set oO _
   .rw[D3];(repeat (first|rw[nHh nOo]|rw[sHh oO]|rw[nIi nQq]|rw[sIi oO]));simp[eds,edL]
   .rw[D3];(repeat (first|rw[nHh nOo]|rw[sHh oO]|rw[nIi nQq]|rw[sIi oO]));simp
  .obtain rfl:b=6:=oO;have X6:¬((6:Nat):Int)<=5:=oO;unfold FvS at hS hJJ;rw[OI a a1 ha]at hS;refine xw3 f3 f2 hw ?_;exact hJJ _ _ _ oO ⟨a+1,oO,oO,rfl,sF1 f0,sF1 f1,sS,hS⟩
 .obtain rfl:a=6:=oO;clear hJJ;obtain⟨hR,hk,tv,t,hB,t0,t1,t2,tH⟩:=hS;have hp:pJ 6 (6+1)=tI.es:=by decide +kernel
  rw[hp]at hB tH;refine xw5 f0 f1 f2 hB hR ?_;exact⟨by simp only[z0,z0L,AX];rfl,hk.set oO _⟩
end Aw
namespace Aw
open Go Go.RowKit
end Aw
namespace Aw
open Go Go.RowKit Pl
mutual
def kZ:LV->Bool
 |.sl t _ cs=>t==0&&tE cs
 |.nil=>true
 |.ag cs=>tE cs
 |.tu cs=>tE cs
 |.atom _=>true
 |_=>false
def tE:List LV->Bool
 |[]=>true
 |c::cs=>kZ c&&tE cs
end
abbrev G0:G:=⟨1,fun _=>none,fun _=>0,fun _=>0,fun _=>false⟩
theorem Ze(b o:Nat):G0.ok b o:=by simp[G.ok]
mutual
theorem JH{w:World}{g:G}:∀(lv:LV) (v:Value),kZ lv=true->Rep w g lv v->Rep w G0 lv v
 |.sl t n cs,v,hp,h=>by simp only[kZ,aAX,aDV]at hp;obtain⟨rfl,hp⟩:=hp;simp only[Rep]at h ⊢;obtain⟨A,cap,h1,h2,h3,_,h5⟩:=h;refine⟨A,cap,h1,h2,h3,fun h=>absurd rfl h,fun c7=>?_⟩;obtain⟨b,o,h6,h7⟩:=h5 c7;exact⟨b,o,h6,yV b cs o hp h7⟩
 |.nil,v,_,h=>by simpa only[Rep]using h
 |.ag cs,v,hp,h=>by simp only[kZ]at hp;simp only[Rep]at h ⊢;obtain⟨vs,h1,h2⟩:=h;exact⟨vs,h1,sA cs vs hp h2⟩
 |.tu cs,v,hp,h=>by simp only[kZ]at hp;simp only[Rep]at h ⊢;obtain⟨vs,h1,h2⟩:=h;exact⟨vs,h1,sA cs vs hp h2⟩
 |.atom _,_,_,h=>by simpa only[Rep]using h
 |.emp,_,hp,_=>by simp[kZ]at hp
 |.dead,_,hp,_=>by simp[kZ]at hp
 |.ms _ _ _,_,hp,_=>by simp[kZ]at hp
 |.pt _ _,_,hp,_=>by simp[kZ]at hp
 |.ep _,_,hp,_=>by simp[kZ]at hp
 |.mp _,_,hp,_=>by simp[kZ]at hp
 |.fn _ _,_,hp,_=>by simp[kZ]at hp
 |.qu _ _ _ _,_,hp,_=>by simp[kZ]at hp
 |.pe _ _,_,hp,_=>by simp[kZ]at hp
 |.kap _ _ _,_,hp,_=>by simp[kZ]at hp
theorem sA{w:World}{g:G}:∀(cs:List LV) (vs:List Value),tE cs=true->aC w g cs vs->aC w G0 cs vs
 |[],vs,_,h=>h
 |c::cs,vs,hp,h=>by simp only[tE,aAX]at hp;simp only[aC]at h ⊢;obtain⟨v,vs',rfl,h1,h2⟩:=h;exact⟨v,vs',rfl,JH c v hp.1 h1,sA cs vs' hp.2 h2⟩
theorem yV{w:World}{g:G}(b:Nat):∀(cs:List LV) (o:Nat),tE cs=true->aN w g b cs o->aN w G0 b cs o
 |[],_,_,h=>h
 |c::cs,o,hp,h=>by simp only[tE,aAX]at hp;simp only[aN]at h ⊢;obtain⟨⟨v,h1,h2,h3⟩,h4⟩:=h;exact⟨⟨v,h1,JH c v hp.1 h2,Ze b o⟩,yV b cs (o+1) hp.2 h4⟩
end
theorem DD{P:Program}{f:FuncId}{args:List LV}{r0:LV}{st:St}(ha:tE args=true)(hr:∀(w:World) (g g':G) v,Rep w g r0 v->Rep w g' r0 v)
 (h:aB P f args ⟨1,fun _=>.dead⟩ fun r _=>r=r0):aB P f args st fun r st'=>r=r0/\st'=st:=by
 refine⟨h.1,fun w g vs hi hrp=>?_⟩;have hi0:Inv w G0 ⟨1,fun _=>.dead⟩:=by refine⟨rfl,by decide,fun _ _=>rfl,fun l hl=>hl.elim,fun l l' hl=>hl.elim,fun l e s n hl=>(by cases hl),fun l e s cs hl=>(by cases hl),fun l ag ks es hl=>(by cases hl),fun l e n hl=>(by cases hl),uH (hi.aside.glob.phi fun _ _ _ _ _=>rfl) fun _=>rfl⟩
 refine(h.2 w _ vs hi0 (sA _ _ ha hrp)).mono ?_;rintro e w' ⟨v,r,st',g',rfl,rfl,K9,_,he⟩;have hB:Below w.heap.size w w':=⟨he.os,he.tape,he.output,he.size,fun k hk=>(he.still k hk rfl).2⟩;exact⟨v,_,st,g,rfl,⟨rfl,rfl⟩,hr _ _ _ _ K9,xQ hi hB,sI g hB⟩
def ZG(k:Int)(p:LV×St):Bool:=match p.1 with
 |.atom (.int .i64 n)=>n==k
 |_=>false
def xIP(k:Int)(r:Option (List (LV×St))):Bool:=match r with
 |some l=>l.all (ZG k)
 |none=>false
theorem zC⦃P:Program⦄{T:Tab}{fns:FuncId->Option Func}{pr:kG}(hT:aZ P T)(hf:DP P fns)(hp:pC P pr)(hm:P.follows .mixedOrders=true)(n:Nat){f:FuncId}{args:List LV}{k:Int}{st:St}(ha:tE args=true)
 (h:xIP k (yI T fns pr n f args ⟨1,fun _=>.dead⟩)=true):aB P f args st fun r st'=>r=i k/\st'=st:=by
 cases hx:yI T fns pr n f args ⟨1,fun _=>.dead⟩ with
 |none=>rw[hx]at h;simp[xIP]at h
 |some l=>
  rw[hx]at h;simp only[xIP]at h;rw[aBJ]at h;have:=pT hT hf hp (fun N c fr st L hx=>CZ hT hf hp hm n N c fr st L hx) f args _ l hx;refine DD ha (fun w g g' v h=>by simp only[Rep]at h ⊢;exact h) (this.mono ?_);intro r1 st1 hmm;have hb:=h _ hmm;unfold ZG at hb
  split at hb
  .rename_i m c;simp only at c;rw[c,eq_of_beq hb]
  .cases hb
def Up:Mp:=⟨DE,[[2,7],[3,4],[5,6]]⟩
theorem KY(st:St):aB prog 11 [.ag (mpL Up)] st fun r st'=>r=i 0/\st'=st:=
 zC nK Qw GA mixed 1000000 (by kernel_rfl) (by kernel_rfl)
theorem QY(st:St):aB prog 35 [] st fun r st'=>r=bb true/\st'=st:=by
 refine zN func35 ntmps35 [.tmp 0] ?_
 (refine xj0 ?_;intro J hJ)
 refine qE (UQ _) (by simp[]) ?_;rintro r st' ⟨rfl,rfl⟩;exact Tt hJ
theorem QX(st:St):aB prog 36 [] st fun r st'=>r=bb true/\st'=st:=by
 refine zN func36 ntmps36 [.tmp 0] ?_
 (refine xj0 ?_;intro J hJ)
 refine qE (UC _) (by simp[]) ?_;rintro r st' ⟨rfl,rfl⟩;exact Tt hJ
theorem Uy(st:St):aB prog 9 [] st fun r st'=>r=bb true/\st'=st:=by
 refine qT (Q:=fun r=>r=bb true) ?_ fun r h=>by subst h;trivial
 have hE1:=KF DE (by decide) (by decide) Sl;have hE2:=KF tI (by decide) (by decide) Ns;have hR:=fun s=>KY s;refine zN func9 ntmps9 [.tmp 0] ?_
 (refine xj0 ?_;intro J hJ)
 refine Dj (hE1 _) (by simp[z0,z0L,grL,DE,us,eds,edL]) ?_;rintro r s1 ⟨rfl,j7⟩;unfold Jz;have N6:=j7.next;simp only[aG]at N6
 (refine pG hJ ?_;intro J hJ)
 refine qE (ZE _) sS ?_;rintro r s2 ⟨rfl,u6⟩;have O6:=u6.next;simp only[aG]at O6;have hB2:s2.H s1.next=.box 28 3 (mpL Up):=by rw[u6.H _ sS];simp[Up]
 have hK2:aA st s2:=((((aA.new _ _).trans (aA.new _ _)).trans j7).trans (aA.new _ _)).trans u6;refine dQ hJ ?_;refine qE (hE2 _) sS ?_;rintro r s3 ⟨rfl,o8⟩;unfold Jz;have hn3:=o8.next;have hB3:=(o8.H s1.next oO).trans hB2;have c1:¬s1.next=s3.next:=oO;have h3:Up.g.es.length=3:=rfl
 (refine NI hJ hB3 c1 ?_;intro J hJ)
 refine xcP (hR _) ?_ (by simp[mpL,grL]);refine wJ hJ hB3 c1 h3 ?_;refine xcP (QY _) ?_;refine wJ hJ hB3 c1 h3 ?_;refine xcP (QX _) ?_;refine wJ hJ hB3 c1 h3 ?_;exact(hK2.trans o8).trans (aA.new _ _)
theorem UP(g:Gr)(st:St):aB prog 13 [.ag (grL g)] st fun r st'=>r=i (chk g)/\aA st st':=by
 by_cases h1:(64:Int)<(g.vs.length:Int)
 .have:chk g=6:=by unfold chk;rw[aAj oO]
  refine zN func13 ntmps13 [.tmp 2] ?_;refine xw2 h1 this ?_;exact aA.new _ _
 by_cases h2:(160:Int)<(g.es.length:Int)
 .have:chk g=6:=by unfold chk;rw[aAj oO]
  refine zN func13 ntmps13 [.tmp 2] ?_;refine xw3 h1 h2 this ?_;exact aA.new _ _
 exact NK g st oO oO
theorem Ve(g:Gr)(hv:g.vs.length<=1000)(he:g.es.length<=50){o:Option Mp}(ho:(if chk g=0 then jU g (aQ g)else some none)=some o)(st:St):
 aB prog 12 [.ag (grL g)] st fun r st'=>r=bb o.isSome/\aA st st':=by
 refine zN func12 ntmps12 [.tmp 2] ?_
 (refine xj0 ?_;intro J hJ)
 refine qE (KF g hv oO ho _) sS ?_;rintro r s1 ⟨rfl,j7⟩;unfold Jz;cases o with
 |none=>refine dQ hJ ?_;exact((aA.new _ _).trans j7).trans (aA.new _ _)
 |some m=>refine dQ hJ ?_;exact((aA.new _ _).trans j7).trans (aA.new _ _)
theorem PlaneTries(g:Gr)(st:St):aB prog 6 [.ag (grL g)] st fun r st'=>r=bb true:=by
 refine zN func6 ntmps6 [.tmp 2] ?_
 (refine xj0 ?_;intro J hJ)
 refine xcP (Uy _) ?_
 (refine pG hJ ?_;intro J hJ)
 refine qE (UP g _) sS ?_;rintro r s1 ⟨rfl,j7⟩;have N6:=j7.next;simp only[aG]at N6;have X7:s1.H st.next=.box 25 2 (grL g):=by rw[j7.H _ sS];simp
 clear j7;by_cases hc:chk g=0;rotate_left
 .have hcb:(chk g != 0)=true:=by simpa using hc
  exact XM hJ hcb hc
 by_cases hv:(8:Int)<g.vs.length
 .exact G3 hJ hc X7 hv
 by_cases he:(14:Int)<g.es.length
 .exact I7 hJ hc X7 hv he
 have hG:=vJ hc;have hg:=fL hc;have hid:JL g.es:=fun x hx=>by have:=hG.pos x hx;omega
 obtain⟨o,ho,hoP⟩:=HD hc oO oO;have hO:(if chk g=0 then jU g (aQ g)else some none)=some o:=by rw[aAj hc];exact ho
 (refine E0 hJ hc X7 hv he ?_;intro J hJ)
 refine qE (ZY g _ oO oO hid) sS ?_;rintro r s2 ⟨⟨W,rfl,hW⟩,u6⟩;have O6:=u6.next;have hG2:=(u6.H st.next oO).trans X7;have hTr:=TG hc oO oO;refine dQ hJ ?_;by_cases hw:(2000:Int)<W
 ·(refine zS [] [st.next] [0,2,4,6,10,12,8,14,16,18,20] ?_;intro J hJ;simp[hG2,hw];(refine zJ hJ ?_;clear hJ J))
  exact xv0
 .have hWe:W=kF (fF g):=hW oO;have hb:decide (∃ n,n<W/\gn (Az g n)=0)=o.isSome:=by rw[Bool.eq_iff_iff,aAR,hoP,<- hTr,hWe]
  (refine zS [] [st.next] [0,2,4,6,10,12,8,14,16,18,20] ?_;intro J hJ;simp[hG2,hw])
  refine qD (Ve g oO oO hO _) sS ?_;rintro r s3 ⟨rfl,o8⟩;have hn3:=o8.next;have hG3:=(o8.H st.next oO).trans hG2;refine⟨fun _=>by simp[hG3,hG2],?_⟩
  (apply bJ;simp[hG3])
  refine qD (YS g W _ hg hid oO oO oO) sS ?_;rintro r s4 ⟨rfl,M7⟩;have hG4:=(M7.H st.next oO).trans hG3;rw[hb];refine⟨fun _=>by simp[hG4,hG2],?_⟩
  (apply bJ;simp[hG4];(refine zJ hJ ?_;clear hJ J))
  exact xv0
theorem CP(l0:List LV)(st:St)(h0:Shp tab 25 l0):aB prog 6 [PC tab 25 l0] st fun r st'=>r=bb true:=by obtain⟨g,rfl,_⟩:=Wk h0;exact PlaneTries g st
end Aw
end Go.Proofs.YtbgngpdonpeboaaGreatDoor
