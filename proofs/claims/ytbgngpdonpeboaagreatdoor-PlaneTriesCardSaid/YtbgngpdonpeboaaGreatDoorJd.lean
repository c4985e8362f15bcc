/- Plain: what lies in the plane, by two permutations; parts of it; a way through it begins and ends in one face. -/
import Derived.Test.YtbgngpdonpeboaaGreatDoorJc
import Derived.Test.YtbgngpdonpeboaaGreatDoorAwSet
import Derived.Lib.TrailingZeros
import Derived.Test.YtbgngpdonpeboaaGreatDoorAwTd
import Derived.Test.YtbgngpdonpeboaaGreatDoorAwZ
import Derived.Test.YtbgngpdonpeboaaGreatDoorAwRg
import Derived.Test.YtbgngpdonpeboaaGreatDoorAwMr5
import Derived.Test.YtbgngpdonpeboaaGreatDoorAwFn
import Derived.Laws.Bits64b
import Derived.Test.YtbgngpdonpeboaaGreatDoorAwShp
set_option linter.unusedVariables false
set_option linter.unusedSimpArgs false
set_option maxHeartbeats 2000000
open Go.Proofs.Tryz
namespace Go.Proofs.YtbgngpdonpeboaaGreatDoor
namespace Aw
open Go Go.RowKit Pl Eu
def Flat(D:List Int)(s:Int->Int)(P:List (Int×Int)):Prop:=2*ncl (mgP (Orb s) P) D+P.length=ncl (Orb s) D+ncl (Orb (swP s P)) D
def fV(D:List Int)(P:List (Int×Int)):Prop:=∀ p∈P,p.1∈D/\p.2∈D/\p.1≠p.2
def flP(P:List (Int×Int)):List Int:=P.flatMap fun p=>[p.1,p.2]
theorem dG{P:List (Int×Int)}{x:Int}:x∈flP P↔∃ p∈P,x=p.1\/x=p.2:=by unfold flP;simp only[aAY,aAe,aCd,aDE]
section
variable {D:List Int} {s:Int->Int} (hs:dB D s)
include hs
theorem Di{p:Int×Int}{P:List (Int×Int)}(hP:fV D (p::P)):Flat D s (p::P)↔Flat D s P/\(mgP (Orb s) P p.1 p.2->Orb (swP s P) p.1 p.2):=by
 have hP':fV D P:=fun q hq=>hP q (aAc _ hq);obtain⟨h1,c,h2⟩:=xC hs P hP';obtain⟨ha,hb,x8⟩:=hP p aAf;have hq:=lM hs P fun q hq=>⟨(hP' q hq).1,(hP' q hq).2.1⟩;have hq':dB D (swP s (p::P)):=hq.sw ha hb;have W4:∀ x,swP s (p::P) x=swP s P (Eu.sw p.1 p.2 x):=fun _=>rfl;have hE:=dR hs.per.eqv P;unfold Flat;rw[List.length_cons];by_cases ho:Orb (swP s P) p.1 p.2
 .have e1:=rX hq.per hq'.per W4 x8 ha hb ho;have e2:ncl (mgP (Orb s) (p::P)) D=ncl (mgP (Orb s) P) D:=dI fun x _ y _=>Mg.same hE (h1 _ _ ho) x y;rw[e2,e1];constructor
  .intro h;exact⟨oO,fun _=>ho⟩
  .intro h;have:=h.1;omega
 .have e1:=vH hq.per hq'.per W4 ha hb ho;by_cases hr:mgP (Orb s) P p.1 p.2
  .have e2:ncl (mgP (Orb s) (p::P)) D=ncl (mgP (Orb s) P) D:=dI fun x _ y _=>Mg.same hE hr x y;constructor
   .intro h;omega
   .intro h;exact absurd (h.2 hr) ho
  .have e2:ncl (mgP (Orb s) P) D=ncl (mgP (Orb s) (p::P)) D+1:=tJ hE hr ha hb;constructor
   .intro h;exact⟨oO,fun k=>absurd k hr⟩
   .intro h;have:=h.1;omega
theorem CR{Q P:List (Int×Int)}(hP:fV D (Q++P))(h:Flat D s (Q++P)):Flat D s P:=by
 induction Q with
 |nil=>exact h
 |cons q Q ih=>have hq:=(Di hs (p:=q) (P:=Q++P) hP).1 h;exact ih (fun p hp=>hP p (aAc _ hp)) hq.1
end
theorem Ax{R S:Int->Int->Prop}(hS:Eqv S)(h:∀ x y,R x y->S x y):∀ {P:List (Int×Int)},(∀ p∈P,S p.1 p.2)->∀ x y,mgP R P x y->S x y
 |[],_,x,y,k=>h x y k
 |_::P,hp,x,y,k=>Mg.le hS (hp _ aAf) (fun x y k=>Ax hS h (fun p q=>hp p (aAc _ q)) x y k) k
theorem zU{R:Int->Int->Prop}(hR:Eqv R){P Q:List (Int×Int)}(h:∀ p∈P,p∈Q){x y:Int}(k:mgP R P x y):mgP R Q x y:=
 Ax (dR hR Q) (fun _ _ k=>fZ Q k) (fun p hp=>jV hR Q (h p hp)) x y k
theorem oM(s:Int->Int):∀ {P:List (Int×Int)},(flP P).Nodup->∀ p∈P,swP s P p.1=s p.2/\swP s P p.2=s p.1
 |[],_,_,h=>by cases h
 |q::P,hn,p,h=>by
  have M3:(q.1::q.2::flP P).Nodup:=hn;rw[aAq,aAq]at M3;obtain⟨n1,n2,n3⟩:=M3;have M0:∀ x,x∉flP P->swP s P x=s x:=fun x hx=>by
   have key:∀(P:List (Int×Int)),x∉flP P->swP s P x=s x:=by
    intro P;induction P with
    |nil=>intro _;rfl
    |cons r P ih=>intro hx;have h1:x≠r.1:=fun e=>hx (dG.2 ⟨r,aAf,.inl e⟩);have h2:x≠r.2:=fun e=>hx (dG.2 ⟨r,aAf,.inr e⟩);show swP s P (Eu.sw r.1 r.2 x)=s x;rw[sX h1 h2];exact ih fun k=>by obtain⟨p,hp,e⟩:=dG.1 k;exact hx (dG.2 ⟨p,aAc _ hp,e⟩)
   exact key P hx
  rcases aAe.1 h with rfl|h
  .refine⟨?_,?_⟩
   .show swP s P (Eu.sw p.1 p.2 p.1)=s p.2;rw[DH];exact M0 _ n2
   .show swP s P (Eu.sw p.1 p.2 p.2)=s p.1;rw[JK];exact M0 _ fun k=>n1 (aAc _ k)
  .have m1:p.1∈flP P:=dG.2 ⟨p,h,.inl rfl⟩;have m2:p.2∈flP P:=dG.2 ⟨p,h,.inr rfl⟩;have o1:∀ x∈flP P,Eu.sw q.1 q.2 x=x:=fun x hx=>sX (fun e=>n1 (aAc _ (e ▸ hx))) (fun e=>n2 (e ▸ hx));have ih:=oM s n3 p h;exact⟨by show swP s P (Eu.sw q.1 q.2 p.1)=_;rw[o1 _ m1];exact ih.1,by show swP s P (Eu.sw q.1 q.2 p.2)=_;rw[o1 _ m2];exact ih.2⟩
theorem pE(s:Int->Int):∀ {P:List (Int×Int)} {x:Int},x∉flP P->swP s P x=s x
 |[],_,_=>rfl
 |r::P,x,hx=>by have h1:x≠r.1:=fun e=>hx (dG.2 ⟨r,aAf,.inl e⟩);have h2:x≠r.2:=fun e=>hx (dG.2 ⟨r,aAf,.inr e⟩);show swP s P (Eu.sw r.1 r.2 x)=s x;rw[sX h1 h2];exact pE s fun k=>by obtain⟨p,hp,e⟩:=dG.1 k;exact hx (dG.2 ⟨p,aAc _ hp,e⟩)
theorem Sy(s:Int->Int){P Q:List (Int×Int)}(hn:(flP P).Nodup)(hp:P.Perm Q)(x:Int):swP s P x=swP s Q x:=by
 have hf:(flP P).Perm (flP Q):=hp.flatMap_right _;have M3:=hf.nodup_iff.1 hn;by_cases hx:x∈flP P
 .obtain⟨p,h1,h2⟩:=dG.1 hx;have a:=oM s hn p h1;have b:=oM s M3 p (hp.mem_iff.1 h1);rcases h2 with rfl|rfl
  .rw[a.1,b.1]
  .rw[a.2,b.2]
 .rw[pE s hx,pE s fun k=>hx (hf.mem_iff.2 k)]
theorem kU{D:List Int}{s:Int->Int}(hs:dB D s){P Q:List (Int×Int)}(hn:(flP P).Nodup)(hp:P.Perm Q)(h:Flat D s P):Flat D s Q:=by have e:swP s P=swP s Q:=funext fun x=>Sy s hn hp x;have e2:ncl (mgP (Orb s) P) D=ncl (mgP (Orb s) Q) D:=dI fun x _ y _=>⟨zU hs.per.eqv fun p k=>hp.mem_iff.1 k,zU hs.per.eqv fun p k=>hp.mem_iff.2 k⟩;unfold Flat at h ⊢;rw[<- e,<- e2,<- hp.length_eq];exact h
theorem OO{D:List Int}{s:Int->Int}(hs:dB D s){E R S:List (Int×Int)}{p:Int×Int}(hE:fV D E)(hn:(flP E).Nodup)(h:Flat D s E)(hp:E.Perm (R++p::S)):Flat D s S/\(mgP (Orb s) S p.1 p.2->Orb (swP s S) p.1 p.2):=by have h1:=kU hs hn hp h;have hP:fV D (R++p::S):=fun q hq=>hE q (hp.mem_iff.2 hq);have h2:=CR hs hP h1;exact(Di hs fun q hq=>hP q (aAx _ hq)).1 h2
def Way(s:Int->Int):List (Int×Int)->Prop
 |[]=>True
 |[_]=>True
 |p::q::Q=>Orb s p.2 q.1/\Way s (q::Q)
def Inn(s:Int->Int)(Q:List (Int×Int))(d:Int):Prop:=∃ q∈Q,Orb s q.2 d
theorem Mw{s:Int->Int}:∀ {Q R:List (Int×Int)},Way s (Q++R)->Way s Q/\Way s R
 |[],_,h=>⟨trivial,h⟩
 |[p],R,h=>by
  refine⟨trivial,?_⟩;cases R with
  |nil=>trivial
  |cons r R=>exact h.2
 |p::q::Q,R,h=>by obtain⟨h1,h2⟩:=h;have:=Mw (Q:=q::Q) (R:=R) h2;exact⟨⟨h1,this.1⟩,this.2⟩
theorem AE{s:Int->Int}{R:Int->Int->Prop}(hR:Eqv R)(hs:∀ x y,Orb s x y->R x y):∀ {Q:List (Int×Int)} {a:Int×Int},Way s (a::Q)->(∀ q∈a::Q,R q.1 q.2)->∀ q∈a::Q,R a.1 q.1
 |[],a,_,_,q,hq=>by rw[aAk]at hq;subst hq;exact hR.refl _
 |b::Q,a,hw,hp,q,hq=>by
  rcases aAe.1 hq with rfl|hq
  .exact hR.refl _
  .have h1:R a.1 b.1:=hR.trans (hp a aAf) (hs _ _ hw.1);exact hR.trans h1 (AE hR hs hw.2 (fun q k=>hp q (aAc _ k)) q hq)
theorem Qd{D:List Int}{s:Int->Int}(hs:dB D s){S Q:List (Int×Int)}{z:Int×Int}(hn:(flP (z::(Q++S))).Nodup)
 (hw:Way s (Q++[z])) (hS:∀ d∈flP S,¬Inn s Q d) (hz:¬Inn s Q z.2) {a:Int} (ha:((Q=[]/\a=z.1)\/∃ p Q',Q=p::Q'/\a=p.1)) (hai:¬Inn s Q a)
 (hf:mgP (Orb s) (Q++S) z.1 z.2->Orb (swP s (Q++S)) z.1 z.2) (hc:mgP (Orb s) S a z.2):Orb (swP s S) a z.2:=by
 have hE:=dR hs.per.eqv (Q++S);have M3:(flP (Q++S)).Nodup:=by have h:(z.1::z.2::flP (Q++S)).Nodup:=hn;exact(aAq.1 (aAq.1 h).2).2
 have hnS:(flP S).Nodup:=by unfold flP at M3 ⊢;rw[aBX]at M3;exact(aAo.1 M3).2.1
 have hdis:∀ x∈flP Q,x∉flP S:=by unfold flP at M3 ⊢;rw[aBX]at M3;exact fun x hx hy=>(aAo.1 M3).2.2 x hx x hy rfl
 have hus:∀ x y,Orb s x y->mgP (Orb s) (Q++S) x y:=fun x y k=>fZ _ k;have haz:mgP (Orb s) (Q++S) a z.1:=by
  rcases ha with⟨_,rfl⟩|⟨p,Q',hQ,rfl⟩
  .exact hE.refl _
  .have key:∀(Q:List (Int×Int)) (p:Int×Int),Way s (p::Q++[z])->(∀ q∈p::Q,mgP (Orb s) (p::Q++S) q.1 q.2)->True:=fun _ _ _ _=>trivial;have hway:Way s (p::(Q'++[(z.1,z.1)])):=by
    rw[hQ]at hw;have chg:∀(L:List (Int×Int)) (p:Int×Int),Way s (p::(L++[z]))->Way s (p::(L++[(z.1,z.1)])):=by
     intro L;induction L with
     |nil=>intro p h;exact⟨h.1,trivial⟩
     |cons q L ih=>intro p h;exact⟨h.1,ih q h.2⟩
    exact chg Q' p hw
   exact AE hE hus hway (fun q hq=>by
    rcases aAe.1 hq with rfl|hq
    .exact jV hs.per.eqv _ (by rw[hQ];exact aAr _ aAf)
    .rcases aAd.1 hq with hq|hq
     .exact jV hs.per.eqv _ (by rw[hQ];exact aAr _ (aAc _ hq))
     .rw[aAk]at hq;subst hq;exact hE.refl _) (z.1,z.1) (aAc _ (aAx _ (aAk.2 rfl)))
 have X8:mgP (Orb s) (Q++S) z.1 z.2:=hE.trans (hE.symm haz) (zU hs.per.eqv (fun p hp=>aAx _ hp) hc);have horb:=hf X8;have j5:∀ d,Inn s Q d->Inn s Q (s d):=fun d ⟨q,hq,k⟩=>⟨q,hq,k.trans (Orb.step s d)⟩;have hpred:∀ p∈Q,(p.1=a/\a≠z.1)\/Inn s Q p.1:=by
  intro p hp;rcases ha with⟨rfl,_⟩|⟨p0,Q',hQ,rfl⟩
  .cases hp
  .have key:∀(L:List (Int×Int)) (b:Int×Int),Way s (b::L)->(∀ q∈b::L,q∈Q)->∀ q∈L,Inn s Q q.1:=by
    intro L;induction L with
    |nil=>intro b _ _ q hq;cases hq
    |cons c L ih=>
     intro b hb hm q hq;rcases aAe.1 hq with rfl|hq
     .exact⟨b,hm b aAf,hb.1⟩
     .exact ih c hb.2 (fun q k=>hm q (aAc _ k)) q hq
   rw[hQ]at hp;rcases aAe.1 hp with rfl|hp
   .refine .inl ⟨rfl,fun e=>?_⟩;have h:(z.1::z.2::flP (Q++S)).Nodup:=hn;exact(aAq.1 h).1 (aAc _ (dG.2 ⟨p,by rw[hQ];exact aAr _ aAf,.inl e.symm⟩))
   .have hw':=(Mw hw).1;rw[hQ]at hw';exact .inr (key Q' p0 hw' (fun q k=>by rw[hQ];exact k) p hp)
 have hz1:a=z.1\/Inn s Q z.1:=by
  rcases ha with⟨_,rfl⟩|⟨p0,Q',hQ,rfl⟩
  .exact .inl rfl
  .refine .inr ?_;have key:∀(L:List (Int×Int)) (b:Int×Int),Way s (b::(L++[z]))->(∀ q∈b::L,q∈Q)->Inn s Q z.1:=by
    intro L;induction L with
    |nil=>intro b hb hm;exact⟨b,hm b aAf,hb.1⟩
    |cons c L ih=>intro b hb hm;exact ih c hb.2 fun q k=>hm q (aAc _ k)
   rw[hQ]at hw;exact key Q' p0 hw fun q k=>by rw[hQ];exact k
 have haS:a∉flP S:=fun k=>by
  rcases ha with⟨rfl,rfl⟩|⟨p0,Q',hQ,rfl⟩
  .have h:(z.1::z.2::flP ([]++S)).Nodup:=hn;exact(aAq.1 h).1 (aAc _ k)
  .exact hdis p0.1 (dG.2 ⟨p0,by rw[hQ];exact aAf,.inl rfl⟩) k
 let T:Int->Prop:=fun d=>Orb (swP s S) a d\/Inn s Q d;have hT:∀ d,T d->T (swP s (Q++S) d):=by
  intro d hd;by_cases h1:d∈flP Q
  .obtain⟨p,hp,e⟩:=dG.1 h1;have hx:=oM s M3 p (aAr _ hp);rcases e with rfl|rfl
   .rw[hx.1];exact .inr ⟨p,hp,Orb.step s _⟩
   .rw[hx.2];rcases hpred p hp with⟨k,_⟩|k
    .rw[k];refine .inl ?_;have:swP s S a=s a:=pE s haS;exact⟨1,this⟩
    .exact .inr (j5 _ k)
  .by_cases h2:d∈flP S
   .obtain⟨p,hp,e⟩:=dG.1 h2;have hx:=oM s M3 p (aAx _ hp);have hy:=oM s hnS p hp;have Q6:Orb (swP s S) a d:=hd.resolve_right (hS d h2);have heq:swP s (Q++S) d=swP s S d:=by
     rcases e with rfl|rfl
     .rw[hx.1,hy.1]
     .rw[hx.2,hy.2]
    rw[heq];exact .inl (Q6.trans (Orb.step _ _))
   .have h3:d∉flP (Q++S):=fun k=>by unfold flP at k h1 h2;rw[aBX,aAd]at k;exact k.elim h1 h2
    rw[pE s h3];rcases hd with hd|hd
    .refine .inl ?_;have:swP s S d=s d:=pE s h2;rw[<- this];exact hd.trans (Orb.step _ _)
    .exact .inr (j5 _ hd)
 have hTn:∀ n d,T d->T (it (swP s (Q++S)) n d):=by
  intro n;induction n with
  |zero=>intro d h;exact h
  |succ n ih=>intro d h;rw[bT];exact hT _ (ih d h)
 obtain⟨n,hnn⟩:=horb;have h0:T z.1:=by
  rcases hz1 with rfl|k
  .exact .inl (Orb.refl _ _)
  .exact .inr k
 have v7:=hTn n z.1 h0;rw[hnn]at v7;exact v7.resolve_right hz
end Aw
namespace Aw
open Go Go.RowKit Pl
def CA:List Bool->Nat
 |[]=>0
 |b::l=>(if b then 1 else 0)+2*CA l
theorem HN:∀(l:List Bool) (i:Nat),(CA l).testBit i=l.getD i false
 |[],i=>by simp[CA]
 |b::l,0=>by
  grind [CA]
 |b::l,i+1=>by
  rw[CA,aDZ];have:((if b then 1 else 0)+2*CA l) / 2=CA l:=by cases b<;>simp<;>omega
  rw[this,HN l i];simp
theorem LX:∀ l:List Bool,CA l<2 ^ l.length
 |[]=>by simp[CA]
 |b::l=>by
  have:=LX l
  grind [CA]
def mk(vs S:List Int):Nat:=CA (vs.map fun v=>decide (v∈S))
theorem iX(vs S:List Int)(i:Nat):(mk vs S).testBit i=(decide (i<vs.length)&&decide (vs.getD i 0∈S)):=by
 grind [mk,HN]
theorem nH(vs S:List Int)(h:vs.length<=64):mk vs S<18446744073709551616:=by
 have h1:=LX (vs.map fun v=>decide (v∈S));rw[aAD]at h1
 exact aAs h1 (by
  have:=aEv (show 0<2 by decide) h
  omega)
theorem mk_congr{vs A B:List Int}(h:∀ v∈vs,(v∈A↔v∈B)):mk vs A=mk vs B:=by
 grind [mk,List.map_congr_left]
theorem YM{vs A B:List Int}(h:mk vs A=mk vs B):∀ v∈vs,(v∈A↔v∈B):=fun v hv=>by
 obtain⟨i,hi,rfl⟩:=aAA hv;have h1:=iX vs A i
 grind [iX]
theorem mk_zero(vs A:List Int):mk vs A=0↔∀ v∈vs,v∉A:=by
 have e:mk vs []=0:=by apply aBR;intro i;rw[iX];simp
 constructor
 .intro h v hv hA;have:=(YM (h.trans e.symm) v hv).1 hA
  grind
 grind [mk_congr]
theorem Ue(a b:Nat)(ha:a<18446744073709551616)(hb:b<18446744073709551616):gor .u64 (a:Int) (b:Int)=((a ||| b:Nat):Int):=by
 have hx:a ||| b<2 ^ 64:=Nat.or_lt_two_pow oO oO
 unfold gor;simp only[show IntKind.u64.bits=64 from rfl,BitVec.ofInt_natCast,BitVec.toNat_or,aDq,aAG ha,aAG hb]
 grind [IntKind.wrap_u64]
theorem BB(a b:Nat)(ha:a<18446744073709551616)(hb:b<18446744073709551616):wM .u64 (a:Int) (b:Int)=((a &&& b:Nat):Int):=by
 have hx:a &&& b<2 ^ 64:=Nat.and_lt_two_pow _ oO;unfold wM;simp only[show IntKind.u64.bits=64 from rfl,BitVec.ofInt_natCast,BitVec.toNat_and,aDq,aAG ha,aAG hb]
 grind [IntKind.wrap_u64]
theorem Gl(a b:Nat)(ha:a<18446744073709551616)(hb:b<18446744073709551616):iG .u64 (a:Int) (b:Int)=((a &&& (2 ^ 64-(b+1)):Nat):Int):=by
 have hx:a &&& (2 ^ 64-(b+1))<2 ^ 64:=Nat.and_lt_two_pow _ oO;unfold iG;simp only[show IntKind.u64.bits=64 from rfl,BitVec.ofInt_natCast,BitVec.toNat_and,BitVec.toNat_not,aDq,aAG ha,aAG hb]
 grind [IntKind.wrap_u64]
theorem Bz(vs A B:List Int)(h:vs.length<=64):gor .u64 (mk vs A) (mk vs B)=mk vs (A++B):=by
 rw[Ue _ _ (nH vs A h) (nH vs B h)]
 congr 1
 apply aBR
 grind [iX]
theorem SS(vs A B:List Int)(h:vs.length<=64):wM .u64 (mk vs A) (mk vs B)=mk vs (A.filter fun v=>decide (v∈B)):=by
 rw[BB _ _ (nH vs A h) (nH vs B h)]
 congr 1
 apply aBR
 grind [iX]
theorem sJ(vs A B:List Int)(h:vs.length<=64):iG .u64 (mk vs A) (mk vs B)=mk vs (A.filter fun v=>!decide (v∈B)):=by
 rw[Gl _ _ (nH vs A h) (nH vs B h)]
 congr 1
 apply aBR;intro i;rw[Nat.testBit_and,Nat.testBit_two_pow_sub_succ (nH vs B h),iX,iX,iX]
 grind
def fst'(vs S:List Int):Nat:=vs.findIdx fun v=>decide (v∈S)
theorem PA{x k:Nat}(h1:x.testBit k=true)(h2:∀ j,j<k->x.testBit j=false):∃ m,x=2 ^ k*(2*m+1):=by
 induction k generalizing x with
 |zero=>rw[Nat.testBit_zero]at h1;simp only[aBA]at h1;exact⟨x / 2,oO⟩
 |succ k ih=>
  have h0:=h2 0 oO;rw[Nat.testBit_zero]at h0;simp only[aCk]at h0;rw[aDZ]at h1;obtain⟨m,hm⟩:=ih h1 fun j hj=>by grind
  refine⟨m,?_⟩
  grind [Nat.mul_assoc]
theorem Ca{vs S:List Int}(h:fst' vs S<vs.length):∃ m,mk vs S=2 ^ fst' vs S*(2*m+1):=by
 have hp:decide (vs[fst' vs S]∈S)=true:=aEw (w:=h);refine PA ?_ fun j hj=>?_
 .grind [iX]
 .rw[iX];have hjl:j<vs.length:=oO;have:=aEj hj
  grind
theorem Hl{a b m n:Nat}(h:2 ^ a*(2*m+1)=2 ^ b*(2*n+1)):a=b:=by
 induction a generalizing b with
 |zero=>
  cases b with
  |zero=>rfl
  |succ b=>
   grind
 |succ a ih=>
  cases b with
  |zero=>
   grind
  |succ b=>
   grind
theorem Ga{vs S:List Int}(h64:vs.length<=64)(h:fst' vs S<vs.length):Lib.ctz 64 (mk vs S)=fst' vs S:=by
 obtain⟨m,hm⟩:=Ca h;have dA:=nH vs S h64;have h0:mk vs S≠0:=by rw[hm];exact aEg (by grind) oO
 have e:Lib.ctz 64 (mk vs S)=Lib.ctzFrom 64 (mk vs S):=by simp[Lib.ctz,h0]
 obtain⟨n,hn,_⟩:=Lib.ctzFrom_spec 64 (mk vs S) oO dA
 grind [Hl]
theorem Fe{vs S:List Int}(h:fst' vs S<vs.length):mk vs S≠0:=by
 grind [Ca]
theorem Yc{vs S:List Int}:fst' vs S<vs.length↔∃ v∈vs,v∈S:=by
 grind [fst']
theorem VW{vs S:List Int}(h:fst' vs S<vs.length):vs.getD (fst' vs S) 0∈S/\vs.getD (fst' vs S) 0∈vs:=by
 grind [fst']
theorem Ei{vs:List Int}(hn:vs.Nodup){i j:Nat}(hi:i<vs.length)(hj:j<vs.length):vs[i]=vs[j]↔i=j:=by
 grind [List.pairwise_iff_getElem]
theorem mk_one{vs:List Int}(hn:vs.Nodup){k:Nat}(hk:k<vs.length):mk vs [vs.getD k 0]=2 ^ k:=by
 apply aBR
 grind [iX,Ei]
theorem Ww{vs S:List Int}(h64:vs.length<=64)(hn:vs.Nodup)(h:fst' vs S<vs.length):wM .u64 (mk vs S) (IntKind.u64.wrap (0-(mk vs S:Int)))=mk vs [vs.getD (fst' vs S) 0]:=by
 have dA:=nH vs S h64;have h0:=Fe h;have e1:IntKind.u64.wrap (0-(mk vs S:Int))=((18446744073709551616-mk vs S:Nat):Int):=by rw[IntKind.wrap_u64];omega
 rw[e1,BB _ _ dA oO,mk_one hn h];have:=(Lib.lowest_bit 64 (mk vs S) h0 dA).1
 grind [Ga]
theorem Iv(k m:Nat):(2 ^ k*(2*m+1)) &&& (2 ^ k*(2*m+1)-1)=2 ^ k*(2*m):=by
 have hp:=Nat.two_pow_pos k;have e:2 ^ k*(2*m+1)-1=2 ^ k*(2*m)+(2 ^ k-1):=by rw[aDS,aDz];omega
 rw[e];apply aBR;intro i;rw[Nat.testBit_and,Nat.testBit_two_pow_mul_add _ (show 2 ^ k-1<2 ^ k by omega)];rw[aBV (2 ^ k),aBV (2 ^ k),aCP,aCP];by_cases hik:i<k
 .grind
 .have h1:k<=i:=oO;simp only[hik,h1,decide_true,Bool.true_and,aBS];cases hj:i-k with
  |zero=>grind
  |succ j=>
   grind
theorem Lj{vs S:List Int}(h64:vs.length<=64)(hn:vs.Nodup)(h:fst' vs S<vs.length):wM .u64 (mk vs S) (IntKind.u64.wrap ((mk vs S:Int)-1))=mk vs (S.filter fun w=>decide (w≠vs.getD (fst' vs S) 0)):=by
 have dA:=nH vs S h64;have h0:=Fe h;have e1:IntKind.u64.wrap ((mk vs S:Int)-1)=((mk vs S-1:Nat):Int):=by rw[IntKind.wrap_u64];omega
 rw[e1,BB _ _ dA oO]
 congr 1
 obtain⟨m,hm⟩:=Ca h;have h2:mk vs S &&& (mk vs S-1)=mk vs S-2 ^ fst' vs S:=by rw[hm,Iv,aDS (2 ^ _) (2*m) 1,aDz];omega
 apply aBR;intro i;have hb:mk vs S &&& (mk vs S-1)=2 ^ fst' vs S*(2*m):=by rw[hm,Iv]
 have hS:(mk vs S).testBit i=(2 ^ fst' vs S*(2*m+1)).testBit i:=by rw[<- hm]
 rw[hb,iX];rw[iX,aBV (2 ^ _),aCP]at hS;rw[aBV (2 ^ _),aCP];by_cases e:i=fst' vs S
 .grind
 .have hv:i<vs.length->vs.getD i 0≠vs.getD (fst' vs S) 0:=fun hi=>by
   grind [Ei]
  have h3:(2*m).testBit (i-fst' vs S)=(2*m+1).testBit (i-fst' vs S)\/i<fst' vs S:=by
   by_cases hi:i<fst' vs S
   .omega
   .left;obtain⟨j,hj⟩:∃ j,i-fst' vs S=j+1:=⟨i-fst' vs S-1,oO⟩
    grind
  grind
theorem Ll{vs:List Int}(hn:vs.Nodup)(h64:vs.length<=64){k:Nat}(hk:k<vs.length):FT .u64 1 (k:Int)=mk vs [vs.getD k 0]:=by
 rw[mk_one hn hk];unfold FT;have:min (k:Int).toNat IntKind.u64.bits=k:=by have:IntKind.u64.bits=64:=rfl;omega
 rw[this,Int.one_mul,IntKind.wrap_u64];have h2:2 ^ k<18446744073709551616:=aAs (Nat.pow_lt_pow_right (show 1<2 by decide) (show k<64 by omega)) (aAl _)
 grind
abbrev wv(n:Nat):LV:=.atom (.int .u64 n)
theorem AA(n:Nat):∀ l:List Int,gL n (us l):=fun l=>by
 induction l with
 |nil=>trivial
 |cons a l ih=>exact⟨trivial,ih⟩
def xA(vs:List Int):List (List Int×LV):=(List.range vs.length).map fun k=>([vs.getD k 0],i k)
theorem BW{vs:List Int}(hn:vs.Nodup){k:Nat}(hk:k<vs.length):bS (xA vs) [vs.getD k 0]=some (i k):=by
 have key:∀(L:List Nat),(∀ j∈L,j<vs.length)->k∈L->bS (L.map fun k=>(([vs.getD k 0],i k):List Int×LV)) [vs.getD k 0]=some (i k):=by
  intro L;induction L with
  |nil=>grind
  |cons j L ih=>
   grind [bS,Ei]
 exact key _ (fun j hj=>aBi.1 hj) (aBi.2 hk)
def ShB(vs:List Int)(S pl:Nat)(st:St):Prop:=(∃ a b c d e f,st.H S=.box 136 7 [a,b,c,.mp pl,d,e,f])/\st.H pl=.map false [.u32] (xA vs)
theorem Ar{vs:List Int}{v:Int}(hv:v∈vs):vs.idxOf v<vs.length/\vs.getD (vs.idxOf v) 0=v:=by
 grind
theorem VQ{vs:List Int}{S pl:Nat}{st:St}(hS:ShB vs S pl st)(hn:vs.Nodup)(h64:vs.length<=64){v:Int}(hv:v∈vs):
 aB prog 137 [.pt S 0,u v] st fun r st'=>r=wv (mk vs [v])/\st'=st:=by
 obtain⟨⟨a,b,c,d,e,f,O1⟩,hP⟩:=hS;obtain⟨hk,hg⟩:=Ar hv;have h1:=BW hn hk;have h2:=Ll hn h64 hk;rw[hg]at h1 h2;refine zN func137 ntmps137 [.tmp 4] ?_;exact xv4 O1 hP h1 h2
theorem UX(vs l:List Int)(j:Nat)(hj:j<l.length)(h:vs.length<=64):gor .u64 (mk vs (l.take j)) (mk vs [l.getD j 0])=mk vs (l.take (j+1)):=by
 grind [Bz,List.take_succ_eq_append_getElem]
theorem XI{vs:List Int}{S pl:Nat}{st:St}(hS:ShB vs S pl st)(hn:vs.Nodup)(h64:vs.length<=64)(l:List Int)(t:Nat)(hl:∀ v∈l,v∈vs)(hll:l.length<=1048576):
 aB prog 181 [.pt S 0,.sl t l.length (us l)] st fun r st'=>r=wv (mk vs l)/\st'=st:=by
 refine zN func181 ntmps181 [.tmp 4] ?_;refine xw0 ?_;have h0:mk vs []=0:=(mk_zero vs []).2 fun _ _=>by simp
 refine aY 10 9 11 19 (l.length) (fun j fr st2=>fr 0=.pt S 0/\fr 8=.sl t l.length (us l)/\fr 5=wv (mk vs (l.take j))/\st2=st) ?_ ?_ ?_
 .simp_all
 .rintro j fr s dA ⟨f0,f8,f5,hs⟩ fi fn J hJ;subst hs;have hd:=qG l j dA;have hm:=UX vs l j dA h64;have hv:l.getD j 0∈vs:=hl _ (by grind);generalize l.getD j 0=v at *
  (refine D7 hJ f0 f8 f5 fi fn hd dA ?_;intro J hJ)
  refine xcP (VQ hS hn h64 hv) ?_;refine vP hJ fi hm ?_;simp_all
 .rintro fr s ⟨f0,f8,f5,hs⟩;subst hs;rw[aAU]at f5;exact xv1 f5
theorem QF{vs:List Int}{S pl:Nat}{st:St}(hS:ShB vs S pl st)(hSn:S<st.next)(hpn:pl<st.next)(hn:vs.Nodup)(h64:vs.length<=64)(l:List Int)(t:Nat)(hl:∀ v∈l,v∈vs)(hll:l.length<=1048576):
 aB prog 141 [.pt S 0,.sl t l.length (us l)] st fun r st'=>r=.ag [.sl 0 l.length (us l),wv (mk vs l)]/\st'=st:=by
 refine qT (Q:=fun r=>r=.ag [.sl 0 l.length (us l),wv (mk vs l)]) (eU ?_) fun r h=>by subst h;exact⟨⟨.inl rfl,AA _ _⟩,trivial,trivial⟩
 refine zN func141 ntmps141 [.cell 4 144] ?_
 (refine xj0 ?_;intro J hJ)
 refine qE (XI (vs:=vs) (S:=S) (pl:=pl) ?_ hn h64 l t hl hll) sS ?_
 .obtain⟨⟨a,b,c,d,e,f,O1⟩,hP⟩:=hS;exact⟨⟨a,b,c,d,e,f,by grind [bY]⟩,by grind [bY]⟩
 rintro r s1 ⟨rfl,h1⟩;rw[h1];clear h1 s1;refine dQ hJ ?_;exact⟨by simp[z0,z0L],aA.new _ _⟩
theorem KI{st:St}{m:Nat}{o:cN}(h:st.H m=o):st.set m o=st:=by
 obtain⟨n,H⟩:=st;simp only[St.set,St.mk.injEq,true_and]
 funext y
 by_cases e:y=m
 .subst e;rw[aAj rfl];exact h.symm
 .rw[aAa e]
def prP(a b:Int):Int×Int:=(min a b,max a b)
abbrev pk(p:Int×Int):List Int:=[p.1,p.2]
def KR(L:List (Int×Int))(p:Int×Int):List (Int×Int):=if p∈L then L else L++[p]
def iP:List Int->List (Int×Int)
 |a::b::l=>prP a b::iP (b::l)
 |_=>[]
def kL(L:List (Int×Int))(w:List Int):List (Int×Int):=(iP w).foldl KR L
theorem nR:∀ w:List Int,(iP w).length=w.length-1
 |[]=>rfl
 |[_]=>rfl
 |a::b::l=>by have:=nR (b::l);rw[iP,List.length_cons,this];simp
theorem HV:∀(w:List Int) (k:Nat),k+1<w.length->(iP w)[k]?=some (prP (w.getD k 0) (w.getD (k+1) 0))
 |a::b::l,0,_=>by simp[iP]
 |a::b::l,k+1,h=>by rw[iP,List.getElem?_cons_succ,HV (b::l) k (by simpa using h)];simp
 |[],k,h=>by simp at h
 |[_],k,h=>by simp at h
theorem NP(es:List (List Int×LV))(L:List (Int×Int))(p:Int×Int)(v:LV)(h:es.map (·.1)=L.map pk):(bV es (pk p) v).map (·.1)=(KR L p).map pk:=by
 have j5:pk p∈L.map pk↔p∈L:=by
  rw[aAi];constructor
  .rintro⟨q,hq,e⟩;simp only[pk,aBw,aEx]at e;obtain⟨e1,e2⟩:=e;have:q=p:=aCe e1 e2;rw[<- this];exact hq
  .intro hp;exact⟨p,hp,rfl⟩
 have key:∀(es:List (List Int×LV)),(bV es (pk p) v).map (·.1)=if pk p∈es.map (·.1)then es.map (·.1)else es.map (·.1)++[pk p]:=by
  intro es;induction es with
  |nil=>simp[bV]
  |cons q es ih=>
   simp only[bV];by_cases e:pk p=q.1
   .rw[aAj (by simpa using e)];simp[e]
   .rw[aAa (by simpa using e),aAm,ih,aAm];by_cases e2:pk p∈es.map (·.1)
    .rw[aAj e2,aAj (aAc _ e2)]
    .rw[aAa e2,aAa (by simp only[aAe,aCx];exact⟨e,e2⟩)];rfl
 rw[key,h];unfold KR;by_cases e:p∈L
 .rw[aAj e,aAj (j5.2 e)]
 .rw[aAa e,aAa fun k=>e (j5.1 k),aAv];rfl
theorem pair(a b:Int)(st:St):aB prog 58 [u a,u b] st fun r st'=>r=.ag [u (min a b),u (max a b)]/\st'=st:=by
 refine qT (Q:=fun r=>r=.ag [u (min a b),u (max a b)]) ?_ fun r h=>by subst h;exact⟨trivial,trivial,trivial⟩
 refine zN func58 ntmps58 [.cell 4 79] ?_;refine xw0 ?_;exact⟨⟨by split<;>omega,by split<;>omega⟩,aA.new _ _⟩
theorem SI{vs:List Int}{S pl ll:Nat}{st:St}{a b c f:LV}{on:List Int}{le:List (List Int×LV)}{L:List (Int×Int)}(O1:st.H S=.box 136 7 [a,b,c,.mp pl,.mp ll,wv (mk vs on),f])(hP:st.H pl=.map false [.u32] (xA vs))
 (hL:st.H ll=.map true [.u32,.u32] le) (hk:le.map (·.1)=L.map pk) (U3:¬pl=ll) (hn:vs.Nodup) (h64:vs.length<=64) (w:List Int) (t:Nat) (hw:∀ v∈w,v∈vs) (hwl:w.length<=1000):
 aB prog 140 [.pt S 0,.sl t w.length (us w)] st fun _ st'=>∃ le',st'=(st.set ll (.map true [.u32,.u32] le')).set S (.box 136 7 [a,b,c,.mp pl,.mp ll,wv (mk vs (on++w)),f])/\le'.map (·.1)=(kL L w).map pk:=by
 have n1:¬S=ll:=fun h=>by rw[h,hL]at O1;cases O1
 have n2:¬ll=S:=fun h=>n1 h.symm;have n3:¬pl=S:=fun h=>by rw[h,O1]at hP;cases hP
 refine zN func140 ntmps140 [] ?_;refine xw0 ?_;refine qL (fun n fr st'=>∃ k:Nat,1<=k/\(k=1\/k<=w.length)/\n=w.length-k/\fr 0=.pt S 0/\fr 1=.sl t w.length (us w)/\fr 4=i k/\∃ le',st'=st.set ll (.map true [.u32,.u32] le')/\le'.map (·.1)=(((iP w).take (k-1)).foldl KR L).map pk) (w.length-1) ?_ ?_
 .exact⟨1,oO,.inl rfl,rfl,sS,sS,sS,le,(KI hL).symm,by simpa using hk⟩
 rintro n fr s ⟨k,j7,u6,rfl,f0,f1,f4,le',rfl,o8⟩ JJ hJJ;by_cases dA:k<w.length
 .have R6:=qN k oO;have hd:=qG w k dA;have z7:=qG w (k-1) oO;have hg:=HV w (k-1) oO;have hwl2:=nR w;have e1:IntKind.i64.wrap ((k:Int)-1)=((k-1:Nat):Int):=zW;have e4:k-1<w.length:=oO;rw[show k-1+1=k by omega]at hg;have hset:∀ v,(bV le' (pk (prP (w.getD (k-1) 0) (w.getD k 0))) v).map (·.1)=(((iP w).take (k+1-1)).foldl KR L).map pk:=fun v=>by rw[NP _ _ _ _ o8,show k+1-1=(k-1)+1 by omega];have O3:k-1<(iP w).length:=oO;rw[aAp O3,aBM];rw[aAh O3,aAb]at hg;rw[hg];rfl
  generalize w.getD (k-1) 0=x at *;generalize w.getD k 0=y at *;refine xw4 f0 f1 f4 dA ?_
  (refine zS [] [S] [0,2,4,6,8,10,12,14,16,18,20,22,24,28,26,31] ?_;intro J hJ;simp[f0,f1,f4,dA,O1,hL,n1,n2,e1,e4,hd,z7])
  refine xdP (pair x y _) ?_;refine⟨fun h=>by first|(cases h;done)|simp,?_⟩
  (apply bJ;simp[n1,n2,hL];refine zJ hJ ?_)
  refine xw2 f4 R6 ?_;refine hJJ _ _ _ ?_ ⟨k+1,oO,.inr oO,rfl,sF1 f0,sF1 f1,sS,_,set_set _ _ _ _,hset _⟩;omega
 .have hkk:(iP w).take (k-1)=iP w:=aAu (by rw[nR];omega);rw[hkk]at o8;have hB:ShB vs S pl (st.set ll (.map true [.u32,.u32] le')):=⟨⟨a,b,c,.mp ll,wv (mk vs on),f,by rw[bQ,aAa n1];exact O1⟩,by rw[bQ,aAa U3];exact hP⟩;have hor:=Bz vs on w h64;refine xw4 f0 f1 f4 dA ?_
  (refine zS [] [S] [0,2,4,6,8,10,12,14,16,18,21] ?_;intro J hJ;simp[f0,f1,O1,n1])
  refine xdP (XI hB hn h64 w t hw oO) ?_;refine⟨fun h=>by first|(cases h;done)|simp,?_⟩
  (apply bJ;simp[O1,n1,hor];refine zJ hJ ?_)
  refine xw0 ?_;exact⟨trivial,le',rfl,o8⟩
end Aw
namespace Aw
open Go Go.RowKit
theorem UK(x k idx:Nat)(w:World)(Q4:((x:Int)==0)=false)
 (key:IntKind.u64.wrap (bits BinOp.and IntKind.u64 (x:Int) (IntKind.u64.wrap (-(x:Int)))*285870213051353865) / 288230376151711744=(idx:Int))
 (hi:idx<64) (hk:k<64) (hcell:w.cell? ⟨0,idx,none⟩=some (.int .u8 k)):
 Calls prog 144 #[.int .u64 x] w fun e w'=>e=.returned (.int .i64 k)/\w'=w:=by
 go_enter func144,ntmps144
 go_wp2_with (simp only[key])
 go_ret
 simp_all
theorem TY(w:World):
 Calls prog 144 #[.int .u64 0] w fun e w'=>e=.returned (.int .i64 64)/\w'=w:=by
 go_enter func144,ntmps144
 go_wp2
 go_ret
 simp_all
theorem Wp(x a:Nat)(hx:x<18446744073709551616)(Q4:x≠0)(Z6:x &&& (18446744073709551616-x)=a):
 IntKind.u64.wrap (bits BinOp.and IntKind.u64 (x:Int) (IntKind.u64.wrap (-(x:Int)))*285870213051353865) / 288230376151711744=((a*285870213051353865 % 18446744073709551616 / 288230376151711744:Nat):Int):=by
 have e1:IntKind.u64.wrap (-(x:Int))=((18446744073709551616-x:Nat):Int):=by rw[IntKind.wrap_u64];omega
 grind [bits_and_u64_nat,IntKind.wrap_u64]
theorem Sj{w:World}{g:G}(h:gY w g)(idx k:Nat)(hi:idx<64)(hk:Lib.deBruijn64tab.getD idx 0=k):w.cell? ⟨0,idx,none⟩=some (.int .u8 k):=by
 have hl:Lib.deBruijn64tab.length=64:=rfl;have h2:Lib.deBruijn64tab[idx]?=some k:=by rw[aAg,aAh oO,Option.getD_some]at hk;rw[aAh oO,hk]
 have h3:=h (0,Lib.deBruijn64tab.map fun(n:Nat)=>.int .u8 n) (aAk.2 rfl) idx (.int .u8 k)
 grind
theorem SX(x:Nat)(hx:x<18446744073709551616){w:World}{g:G}(h:gY w g):Calls prog 144 #[.int .u64 x] w fun e w'=>e=.returned (.int .i64 (Lib.ctz 64 x))/\w'=w:=by
 by_cases Q4:x=0
 .subst Q4;exact TY w
 .obtain⟨Z6,hk⟩:=Lib.lowest_bit 64 x Q4 hx;obtain⟨M4,htab⟩:=Lib.deBruijn64_at _ hk;exact UK x _ _ w (by grind) (Wp x _ hx Q4 Z6) M4 hk (Sj h _ _ M4 htab)
theorem On:Enters prog 144:=enters_of func144 (by kernel_rfl) rfl
theorem Tz(x:Nat)(hx:x<18446744073709551616)(st:St):aB prog 144 [.atom (.int .u64 x)] st fun r st'=>r=i (Lib.ctz 64 x)/\st'=st:=by
 refine⟨On,fun w g vs hi hr=>?_⟩;simp only[aC,Rep]at hr;obtain⟨v,vs',rfl,rfl,rfl⟩:=hr;refine(SX x hx hi.aside.glob).mono ?_;rintro e w' ⟨rfl,rfl⟩
 grind [Rep,Ext.refl]
end Aw
namespace Aw
open Go Go.RowKit Pl
def mL(g:Gr):List LV:=g.vs.map fun v=>wv (mk g.vs (nbr g.es v))
@[simp] theorem Yh(g:Gr):(mL g).length=g.vs.length:=by simp[mL]
theorem KV(g:Gr)(k:Nat)(hk:k<g.vs.length):(mL g).drop k=wv (mk g.vs (nbr g.es (g.vs.getD k 0)))::(mL g).drop (k+1):=by unfold mL;rw[aAN (by simpa using hk),aCy,aW _ _ hk]
def arn(g:Gr)(A:List Int):List Int:=A.flatMap (nbr g.es)
theorem OU{g:Gr}{A B:List Int}(h:∀ v,v∈A↔v∈B):mk g.vs (arn g A)=mk g.vs (arn g B):=mk_congr fun v _=>by unfold arn;rw[aAY,aAY];exact⟨fun⟨x,hx,h2⟩=>⟨x,(h x).1 hx,h2⟩,fun⟨x,hx,h2⟩=>⟨x,(h x).2 hx,h2⟩⟩
theorem Vl{g:Gr}{S nl:Nat}{st:St}{a b d e f h:LV}(O1:st.H S=.box 136 7 [a,b,.ms nl 0 g.vs.length,d,e,f,h])(hN:st.H nl=.box 133 1 (mL g))(hn:g.vs.Nodup)(h64:g.vs.length<=64)(A:List Int)(hA:∀ v∈A,v∈g.vs):
 aB prog 182 [.pt S 0,wv (mk g.vs A)] st fun r st'=>r=wv (mk g.vs (arn g A))/\st'=st:=by
 refine zN func182 ntmps182 [.tmp 4] ?_;refine xw0 ?_;have h0:mk g.vs []=0:=(mk_zero g.vs []).2 fun _ _=>by simp
 refine qL (fun n fr st'=>∃ D R:List Int,n=(g.vs.filter fun v=>decide (v∈R)).length/\(∀ v,v∈A↔v∈D\/v∈R)/\fr 0=.pt S 0/\fr 1=wv (mk g.vs R)/\fr 5=wv (mk g.vs (arn g D))/\st'=st) (g.vs.filter fun v=>decide (v∈A)).length ?_ ?_
 .exact⟨[],A,rfl,fun v=>by simp,sS,sS,by simp[arn,h0],rfl⟩
 rintro n fr s ⟨D,R,rfl,hDR,f0,f1,f5,rfl⟩ JJ hJJ;have hRA:∀ v∈R,v∈g.vs:=fun v hv=>hA v ((hDR v).2 (.inr hv));by_cases hR:fst' g.vs R<g.vs.length
 .have c7:=Fe hR;have hb:((mk g.vs R:Int) != 0)=true:=by simpa using c7
  have hct:=Ga h64 hR;have dA:=nH g.vs R h64;have W5:=KV g _ hR;obtain⟨hv1,hv2⟩:=VW hR;have hdp:=Lj h64 hn hR;have hi0:(0:Int)<=(fst' g.vs R:Int):=oO;have hi1:(fst' g.vs R:Int)<g.vs.length:=oO;have hTz:=fun st=>Tz (mk g.vs R) dA st;rw[hct]at hTz;generalize g.vs.getD (fst' g.vs R) 0=v at *;have hor:=Bz g.vs (arn g D) (nbr g.es v) h64;refine xw2 f1 hb ?_
  (refine zS [] [S,nl] [0,2,4,6,8,10,12,14,16,18,20] ?_;intro J hJ;simp[f0,f1,f5,O1,hN])
  refine xdP (hTz _) ?_;refine⟨fun h=>by first|(cases h;done)|simp,?_⟩
  (apply bJ;simp[O1,hN,W5,hi0,hi1,hR,hor];refine zJ hJ ?_)
  refine xw2 f1 hdp ?_;refine hJJ _ _ _ ?_ ⟨D++[v],R.filter fun w=>decide (w≠v),rfl,fun w=>?_,sF1 f0,sS,by simp[arn],rfl⟩
  .have L6:(g.vs.filter fun w=>decide (w∈R.filter fun w=>decide (w≠v)))=(g.vs.filter fun w=>decide (w∈R)).filter fun w=>decide (w≠v):=by rw[List.filter_filter];refine List.filter_congr fun w _=>?_;simp only[aAB,aAR,Bool.decide_and];rw[Bool.and_comm]
   rw[L6];refine List.length_filter_lt_length_iff_exists.2 ⟨v,?_,sS⟩;rw[aAB];exact⟨hv2,by simpa using hv1⟩
  .rw[hDR,aAd,aAk,aAB,aAR];constructor
   .rintro(h|h)
    .exact .inl (.inl h)
    .by_cases e:w=v
     .exact .inl (.inr e)
     .exact .inr ⟨h,e⟩
   .rintro((h|h)|h)
    .exact .inl h
    .rw[h];exact .inr hv1
    .exact .inr h.1
 .have x9:∀ v∈g.vs,v∉R:=fun v hv hvR=>hR (Yc.2 ⟨v,hv,hvR⟩);have hz:mk g.vs R=0:=(mk_zero g.vs R).2 x9;have hb:((mk g.vs R:Int) != 0)=false:=by rw[hz];rfl
  have v7:mk g.vs (arn g D)=mk g.vs (arn g A):=OU fun v=>by rw[hDR];exact⟨.inl,fun h=>h.elim id fun h=>absurd h (x9 v (hRA v h))⟩
  rw[hz]at f1;exact xv3 f1 f5 v7
structure Brg where
 inner:List Int
 ends:List Int
def nrS(vs A:List Int):List Int:=vs.filter fun v=>decide (v∈A)
def off(A B:List Int):List Int:=A.filter fun v=>!decide (v∈B)
def on'(A B:List Int):List Int:=A.filter fun v=>decide (v∈B)
theorem Fs(vs A:List Int):mk vs (nrS vs A)=mk vs A:=mk_congr fun v hv=>by grind [nrS]
def yX(g:Gr)(on:List Int):Nat->List Int->Option Brg
 |0,_=>none
 |n+1,inner=>
  if off (off (nrS g.vs (arn g inner)) on) inner=[]then some ⟨inner,on' (nrS g.vs (arn g inner)) on⟩
  else yX g on n (nrS g.vs (inner++off (nrS g.vs (arn g inner)) on))
def sZ(g:Gr)(on:List Int):Nat->List Int->Option (List Brg)
 |_,[]=>some []
 |0,_::_=>none
 |n+1,v::R=>(yX g on (g.vs.length+1) [v]).bind fun b=>(sZ g on n (off (v::R) b.inner)).map (b::·)
def pK(g:Gr)(L:List (Int×Int))(on:List Int)(es:List Ed):List Brg:=
 (es.filter fun x=>decide (prP x.a x.b∉L)&&decide (x.a∈on)&&decide (x.b∈on)).map fun x=>⟨[],[x.a,x.b]⟩
def Ng(g:Gr)(L:List (Int×Int))(on:List Int):Option (List Brg):=(sZ g on (g.vs.length+1) (off g.vs on)).map fun l=>pK g L on g.es++l
def nI(vs:List Int)(l:List Brg):List LV:=l.flatMap fun b=>[wv (mk vs b.inner),wv (mk vs b.ends)]
@[simp] theorem HC(vs:List Int):∀ l:List Brg,(nI vs l).length=l.length*2
  |[]=>rfl
  |b::l=>by have:=HC vs l;simp only[nI,aAH,aAn,List.length_cons,List.length_nil]at this ⊢;omega
theorem Dw(vs:List Int)(l:List Brg)(b:Brg):nI vs l++[wv (mk vs b.inner),wv (mk vs b.ends)]=nI vs (l++[b]):=by simp[nI]
theorem TE{es:List (List Int×LV)}{L:List (Int×Int)}(h:es.map (·.1)=L.map pk)(p:Int×Int):(p∈L->∃ v,bS es (pk p)=some v)/\(p∉L->bS es (pk p)=none):=by
 have j5:pk p∈es.map (·.1)↔p∈L:=by
  rw[h,aAi];constructor
  .grind
  .grind
 have key:∀ es:List (List Int×LV),(pk p∈es.map (·.1)->∃ v,bS es (pk p)=some v)/\(pk p∉es.map (·.1)->bS es (pk p)=none):=by
  intro es;induction es with
  |nil=>simp[bS]
  |cons q es ih=>
   grind [bS]
 grind
theorem OZ(g:Gr)(L:List (Int×Int))(on:List Int)(es:List Ed)(j:Nat)(hj:j<es.length):
 pK g L on (es.take (j+1))=pK g L on (es.take j)++if(prP (es.getD j ed0).a (es.getD j ed0).b∉L/\(es.getD j ed0).a∈on)/\(es.getD j ed0).b∈on then [⟨[],[(es.getD j ed0).a,(es.getD j ed0).b]⟩]else []:=by
 grind [pK,List.take_succ_eq_append_getElem]
theorem MG{vs A B:List Int}(hA:∀ v∈A,v∈vs):mk vs (off A B)=0↔off A B=[]:=by
 rw[mk_zero];constructor
 .intro h;exact aBZ.2 fun v hv=>h v (hA v (aAB.1 hv).1) hv
 grind
theorem Dz:∀ {vs R:List Int} {v:Int},vs.Nodup->(v::R).Sublist vs->vs.getD (fst' vs (v::R)) 0=v/\fst' vs (v::R)<vs.length
 |[],R,v,_,h=>by cases h
 |w::vs,R,v,hn,h=>by
  have O6:=(aAq.1 hn);cases h with
  |cons _ h=>
   have hw:w∉v::R:=fun hw=>O6.1 (h.subset hw);obtain⟨h1,h2⟩:=Dz O6.2 h;have e:fst' (w::vs) (v::R)=fst' vs (v::R)+1:=by unfold fst';rw[List.findIdx_cons];simp only[aBA,cond_eq_ite];rw[aAa hw]
   rw[e];exact⟨by simpa using h1,by simpa using h2⟩
  |cons_cons _ h=>
   have e:fst' (w::vs) (w::R)=0:=by unfold fst';rw[List.findIdx_cons];simp
   rw[e];exact⟨sS,sS⟩
theorem YG(vs:List Int)(l:List Brg):(nI vs l).map z0=nI vs l:=by
 induction l with
 |nil=>rfl
 |cons b l ih=>simp only[nI,aAH,aAv]at ih ⊢;rw[ih];rfl
def Fo(t e s n:Nat)(lo:St)(st:St):Prop:=t≠0/\lo.next<=t/\t<st.next/\st.H t=.own e s n
structure ShR(g:Gr)(L:List (Int×Int))(on:List Int)(S nl pl ll:Nat)(f:LV)(le:List (List Int×LV))(st:St):Prop where
 box:st.H S=.box 136 7 [.sl 0 g.vs.length (us g.vs),.sl 0 g.es.length (eds g.es),.ms nl 0 g.vs.length,.mp pl,.mp ll,wv (mk g.vs on),f]
 near:st.H nl=.box 133 1 (mL g)
 plc:st.H pl=.map false [.u32] (xA g.vs)
 lin:st.H ll=.map true [.u32,.u32] le
 key:le.map (·.1)=L.map pk
 lt:S<st.next/\nl<st.next/\pl<st.next/\ll<st.next
theorem ShR.keep{g:Gr}{L:List (Int×Int)}{on:List Int}{S nl pl ll:Nat}{f:LV}{le:List (List Int×LV)}{st st':St}(h:ShR g L on S nl pl ll f le st)(k:aA st st'):ShR g L on S nl pl ll f le st':=by obtain⟨a,b,c,d,e,f1,f2,f3,f4⟩:=h;have hx:=k.next;exact⟨(k.H _ f1).trans a,(k.H _ f2).trans b,(k.H _ f3).trans c,(k.H _ f4).trans d,e,oO,oO,oO,oO⟩
theorem ShR.b{g:Gr}{L:List (Int×Int)}{on:List Int}{S nl pl ll:Nat}{f:LV}{le:List (List Int×LV)}{st:St}(h:ShR g L on S nl pl ll f le st):ShB g.vs S pl st:=⟨⟨_,_,_,_,_,_,h.box⟩,h.plc⟩
theorem Hj{g:Gr}{L:List (Int×Int)}{on:List Int}{S nl pl ll:Nat}{f:LV}{le:List (List Int×LV)}{st:St}(h:ShR g L on S nl pl ll f le st)(hn:g.vs.Nodup)(h64:g.vs.length<=64)(A:List Int)(hA:∀ v∈A,v∈g.vs):
 aB prog 182 [.pt S 0,wv (mk g.vs A)] st fun r st'=>r=wv (mk g.vs (arn g A))/\st'=st:=Vl h.box h.near hn h64 A hA
structure GP(g:Gr):Prop extends GoodE g where
 h64:g.vs.length<=64
 he:g.es.length<=200
theorem QN{g:Gr}(hg:GP g){L:List (Int×Int)}{on:List Int}(hon:∀ v∈on,v∈g.vs){S nl pl ll:Nat}{f:LV}{le:List (List Int×LV)}{st:St}(hS:ShR g L on S nl pl ll f le st){B:List Brg}(hB:Ng g L on=some B):
 aB prog 142 [.pt S 0] st fun r st'=>r=.sl 0 B.length (nI g.vs B)/\st'=st:=by
 refine qT (Q:=fun r=>r=.sl 0 B.length (nI g.vs B)) (eU ?_) fun r h=>by
  subst h;refine⟨.inl rfl,?_⟩;clear hB;induction B with
  |nil=>trivial
  |cons b B ih=>exact⟨trivial,trivial,ih⟩
 have hn:g.vs.Nodup:=hg.toGoodE.toGood.nodup;have h64:=hg.h64;have hel:=aK g.es;unfold Ng at hB;obtain⟨l2,hl2,rfl⟩:=aBk.1 hB;obtain⟨O1,hN,hP,hL,N8,q1,q2,q3,q4⟩:=id hS;refine zN func142 ntmps142 [.tmp 2] ?_;refine eR fun M5=>?_;refine xw1 O1 ?_;refine kM 3 138 2 sS ?_;have e0:¬st.next=0:=oO;have he200:=hg.he;refine aY 18 17 19 60 (g.es.length) (fun j fr st2=>fr 0=.pt S 0/\fr 16=.sl 0 g.es.length (eds g.es)/\aA st st2/\∃ t,fr 3=.sl t (pK g L on (g.es.take j)).length (nI g.vs (pK g L on (g.es.take j)))/\Fo t 138 2 (pK g L on (g.es.take j)).length st st2) ?_ ?_ ?_
 .exact⟨sS,sS,aA.new _ _,st.next,by simp[pK,nI],e0,aAl _,sS,by simp[pK]⟩
 .rintro j fr s dA ⟨f0,f16,hk,t,f3,t0,t1,t2,tH⟩ fi fn JO hJO;have hd:=aR g.es j dA;have o8:j*3<g.es.length*3:=oO;have X3:=OZ g L on g.es j dA;have Q0:=hg.ends _ (show g.es.getD j ed0∈g.es by rw[eJ _ _ dA];exact aAE _);generalize g.es.getD j ed0=ee at *;generalize hF:pK g L on (g.es.take j)=F at *;obtain⟨d,a,b⟩:=ee;simp only at X3 Q0;have hS1:=(hS.keep hk).keep (aA.new s (.box 36 3 [u d,u a,u b]));obtain⟨hSb1,hN1,hP1,hL1,-,p1,p2,p3,p4⟩:=id hS1;have Z9:=fun v hv=>VQ (v:=v) hS1.b hn h64 hv;have hor:=Bz g.vs [a] [b] h64;simp only[List.cons_append,List.nil_append]at hor;obtain⟨hgs,hgn⟩:=TE N8 (prP a b);have hnS:¬S=s.next:=by have:=hk.next;omega
  have r9:¬ll=s.next:=by have:=hk.next;omega
  have hSb0:=(hS.keep hk).box;have hL0:=(hS.keep hk).lin;have hdf:=sJ g.vs [a,b] on h64;have hwl:(F:List Brg).length<=g.es.length:=by
   have h1:=aBl (fun x=>decide (prP x.a x.b∉L)&&decide (x.a∈on)&&decide (x.b∈on)) (g.es.take j);have h2:F.length=((g.es.take j).filter (fun x=>decide (prP x.a x.b∉L)&&decide (x.a∈on)&&decide (x.b∈on))).length:=by rw[<- hF];unfold pK;rw[aAD]
   rw[aAw]at h1;omega
  refine xw8 f0 f16 fi fn hd hel o8 dA ?_
  (refine zS [] [s.next] [0,2,4,8,10,12,6,14,16,18] ?_;intro J hJ;simp[f0])
  refine xdP (Z9 a Q0.1) ?_;refine⟨fun h=>by first|(cases h;done)|exact fun _ _=>rfl|simp,?_⟩
  (apply bJ;simp[])
  refine xdP (Z9 b Q0.2) ?_;refine⟨fun h=>by first|(cases h;done)|exact fun _ _=>rfl|simp,?_⟩
  (apply bJ;simp[hor];refine zJ hJ ?_)
  (repeat (apply qS))
  (refine zS [] [S,s.next,ll] [0,2,4,6,8,10,12,14,16,18,20,22,24,26,28] ?_;intro J hJ;simp[f0,hSb0,hnS])
  refine xdP (pair a b _) ?_;refine⟨fun h=>by first|(cases h;done)|exact fun _ _=>rfl|simp,?_⟩;have c1:¬t=s.next:=oO;have c2:¬t=s.next+1:=oO;have c3:¬s.next=t:=oO;have hFs:=Dw g.vs F ⟨[],[a,b]⟩;have hz0:mk g.vs []=0:=(mk_zero g.vs []).2 fun _ _=>by simp
  simp only[hz0]at hFs;by_cases hp:prP a b∈L
  .obtain⟨v,hv⟩:=hgs hp;have hv:bS le [min a b,max a b]=some v:=hv;rw[aAa (sF1 hp),aAS]at X3
   (apply bJ;simp[hL0,r9,hv];refine zJ hJ ?_)
   refine xw0 ?_;exact hJO _ _ (sF1 fi) (sF1 fn) ⟨sF1 f0,sF1 f16,hk.trans (aA.new _ _),t,by rw[X3];simp[f3],t0,t1,by simp;omega,by rw[X3];(repeat (first|rw[nHh nOo]|rw[sHh oO]|rw[nIi nQq]|rw[sIi oO]));exact tH⟩
  .have hv:bS le [min a b,max a b]=none:=hgn hp;by_cases hc:a∈on/\b∈on
   .rw[aAj ⟨⟨hp,hc.1⟩,hc.2⟩]at X3;have hz:mk g.vs (off [a,b] on)=0:=(mk_zero _ _).2 fun v _ h=>by
     simp only[off,aAB,aAe,aCd,aDE,Bool.not_eq_true',aCk]at h;rcases h.1 with e|e
     .exact h.2 (by rw[e];exact hc.1)
     .exact h.2 (by rw[e];exact hc.2)
    have hdz:iG .u64 (mk g.vs [a,b]) (mk g.vs on)=0:=by rw[hdf];exact congrArg Int.ofNat hz
    (apply bJ;simp[hL0,r9,hv];refine zJ hJ ?_)
    (repeat' (first|apply qS|(apply qC;simp[hSb0,f0,hnS,hdz,f3,tH,t0,c1,c2,c3])|(refine zE ?_;intro J hJ;simp[hSb0,f0,hnS,hdz,f3,tH,t0,c1,c2,c3];(repeat refine ca ?_);refine zJ hJ ?_)))
    exact hJO _ _ (sF1 fi) (sF1 fn) ⟨sF1 f0,sF1 f16,((hk.trans (aA.new _ _)).trans (aA.new _ _)).set t1 _ |>.trans (aA.new _ _),s.next+2,by rw[X3,<- hFs];simp,oO,oO,sS,by rw[X3];simp⟩
   .rw[aAa (by intro h;exact hc ⟨h.1.2,h.2⟩),aAS]at X3;have hz:mk g.vs (off [a,b] on)≠0:=fun h=>by rw[mk_zero]at h;have ha:=h a Q0.1;have hb:=h b Q0.2;simp[off]at ha hb;exact hc ⟨ha,hb⟩
    have hdz:(iG .u64 (mk g.vs [a,b]) (mk g.vs on)==0)=false:=by rw[hdf];simpa[off]using hz
    (apply bJ;simp[hL0,r9,hv];refine zJ hJ ?_)
    refine xw4 hSb0 f0 hnS hdz ?_;exact hJO _ _ (sF1 fi) (sF1 fn) ⟨sF1 f0,sF1 f16,hk.trans (aA.new _ _),t,by rw[X3];simp[f3],t0,t1,by simp;omega,by rw[X3];(repeat (first|rw[nHh nOo]|rw[sHh oO]|rw[nIi nQq]|rw[sIi oO]));exact tH⟩
 .rintro fr s ⟨f0,f16,hk,t,f3,t0,t1,t2,tH⟩;rw[aAU]at f3 tH;have hE1:(pK g L on g.es).length<=200:=by have h1:=aBl (fun x=>decide (prP x.a x.b∉L)&&decide (x.a∈on)&&decide (x.b∈on)) g.es;unfold pK;rw[aAD];omega
  generalize pK g L on g.es=E1 at *;have hSk:=hS.keep hk;have hSb0:=hSk.box;have hdf:=sJ g.vs g.vs on h64;have hsv:=fun st' (h:ShB g.vs S pl st')=>XI h hn h64 g.vs 0 (fun v h=>h) oO;refine xw0 ?_
  (refine zS [] [S] [0,2,4,6,8,10,14,16,18,20,12,22,24] ?_;intro J hJ;simp[f0,hSb0])
  refine xdP (hsv _ hSk.b) ?_;refine⟨fun h=>by first|(cases h;done)|exact fun _ _=>rfl|simp,?_⟩
  (apply bJ;simp[hSb0,hdf];refine zJ hJ ?_)
  (repeat (first|apply qS|apply qB))
  refine qL (fun n fr st'=>∃ R l l2',sZ g on n R=some l2'/\l2=l++l2'/\l.length+n<=g.vs.length+1/\R.Sublist g.vs/\fr 0=.pt S 0/\fr 9=wv (mk g.vs R)/\aA st st'/\∃ t,fr 3=.sl t (E1++l).length (nI g.vs (E1++l))/\Fo t 138 2 (E1++l).length st st') (g.vs.length+1) ?_ ?_
  .exact⟨off g.vs on,[],l2,hl2,rfl,sS,aBo,sF1 f0,by simp[off],hk,t,sF1 f3,t0,t1,t2,by simpa using tH⟩
  .clear f0 f16 hk f3 t0 t1 t2 tH hSk hSb0 fr s;rintro n fr s ⟨R,l,l2',hr,rfl,hln,L6,f0,f9,hk,t,f3,t0,t1,t2,tH⟩ JJ hJJ;have hSk:=hS.keep hk;obtain⟨hSb0,hN0,-,-,-,p1,p2,p3,p4⟩:=id hSk;have hRv:∀ v∈R,v∈g.vs:=fun v hv=>L6.subset hv;cases R with
   |nil=>
    have hz:mk g.vs []=0:=(mk_zero g.vs []).2 fun _ _=>by simp
    rw[hz]at f9;have hl2':l2'=[]:=by cases n<;>simpa[sZ]using hr.symm
    subst hl2';rw[aAS];refine xw2 f9 f3 ?_;exact⟨by simp[z0,oE,YG],hk⟩
   |cons v R=>
    obtain⟨hfv,hflt⟩:=Dz hn L6;have c7:=Fe hflt;have hb:((mk g.vs (v::R):Int) != 0)=true:=by simpa using c7
    have Z6:=Ww h64 hn hflt;rw[hfv,Int.zero_sub]at Z6;cases n with
    |zero=>simp[sZ]at hr
    |succ n=>
     rw[sZ]at hr;obtain⟨b,hgb,hr⟩:=aBz.1 hr;obtain⟨l3,hr3,rfl⟩:=aBk.1 hr;have hvv:∀ w∈[v],w∈g.vs:=fun w hw=>by rw[aAk]at hw;rw[hw];exact hRv v sS
     (refine xj4 f0 f9 hb Z6 ?_;intro J hJ)
     refine xcP (Hj hSk hn h64 [v] hvv) ?_
     (apply cI;simp[];refine zJ hJ ?_)
     (repeat (first|apply qS|apply qB))
     refine qL (fun m fr st'=>∃ inner,yX g on m inner=some b/\(∀ w∈inner,w∈g.vs)/\fr 0=.pt S 0/\fr 9=wv (mk g.vs (v::R))/\fr 3=.sl t (E1++l).length (nI g.vs (E1++l))/\fr 10=wv (mk g.vs inner)/\fr 11=wv (mk g.vs (arn g inner))/\st'=s) (g.vs.length+1) ?_ ?_
     .exact⟨[v],hgb,hvv,sF1 f0,sF1 f9,sF1 f3,sS,sS,rfl⟩
     .clear f0 f9 f3 fr;rintro m fr s3 ⟨inner,hgi,hiv,f0,f9,f3,f10,f11,hs3⟩ JI hJI;subst hs3;cases m with
      |zero=>simp[yX]at hgi
      |succ m=>
       have hRR:∀ w∈nrS g.vs (arn g inner),w∈g.vs:=fun w hw=>(aAB.1 hw).1;rw[<- Fs]at f11;rw[yX]at hgi;generalize nrS g.vs (arn g inner)=RR at *;have z7:iG .u64 (mk g.vs RR) (mk g.vs on)=mk g.vs (off RR on):=sJ g.vs RR on h64;have O7:iG .u64 (mk g.vs (off RR on)) (mk g.vs inner)=mk g.vs (off (off RR on) inner):=sJ g.vs _ inner h64;by_cases hc:off (off RR on) inner=[]
       .rw[aAj hc]at hgi;have hbe:b=⟨inner,on' RR on⟩:=by simpa using hgi.symm
        subst hbe;have hz:mk g.vs (off (off RR on) inner)=0:=by rw[hc];exact(mk_zero g.vs []).2 fun _ _=>by simp
        have X6:((mk g.vs (off (off RR on) inner):Int) != 0)=false:=by rw[hz];rfl
        have hd3:wM .u64 (mk g.vs RR) (mk g.vs on)=mk g.vs (on' RR on):=SS g.vs RR on h64;have hd4:iG .u64 (mk g.vs (v::R)) (mk g.vs inner)=mk g.vs (off (v::R) inner):=sJ g.vs _ inner h64;have c1:¬t=s3.next:=oO;have c2:¬s3.next=t:=oO;have hFs:=Dw g.vs (E1++l) ⟨inner,on' RR on⟩;have u7:(E1++l).length<=300:=by rw[aAn];have:=hg.h64;omega
        rw[aAF]at hFs;have hlen:(E1++l).length+1=(E1++(l++[(⟨inner,on' RR on⟩:Brg)])).length:=by simp;omega
        generalize hEl:E1++l=El at *
        (repeat' (first|apply qS|refine qX (zZ ?_)|(apply qC;simp[f0,f9,f10,f11,f3,hSb0,z7,O7,X6,hd3,hd4,tH,t0,c1,c2])|(refine zE ?_;intro J hJ;simp[f0,f9,f10,f11,f3,hSb0,z7,O7,X6,hd3,hd4,tH,t0,c1,c2];(repeat refine ca ?_);refine zJ hJ ?_)))
        exact hJJ _ _ _ (aDe n) ⟨off (v::R) inner,l++[⟨inner,on' RR on⟩],l3,hr3,sS,by simp;omega,aBo.trans L6,sF1 f0,sS,((hk.trans (aA.new _ _)).set t1 _).trans (aA.new _ _),s3.next+1,by rw[<- hFs,<- hlen];simp,oO,oO,sS,by rw[<- hlen];simp⟩
       .rw[aAa hc]at hgi;have hz:mk g.vs (off (off RR on) inner)≠0:=fun h=>hc ((MG fun w hw=>hRR w (aAB.1 hw).1).1 h);have X6:((mk g.vs (off (off RR on) inner):Int) != 0)=true:=by simpa using hz
        have hor:gor .u64 (mk g.vs inner) (mk g.vs (off RR on))=mk g.vs (nrS g.vs (inner++off RR on)):=by rw[Bz _ _ _ h64,Fs]
        have hnv:∀ w∈nrS g.vs (inner++off RR on),w∈g.vs:=fun w hw=>(aAB.1 hw).1;generalize nrS g.vs (inner++off RR on)=IN at *
        (refine xj8 f0 f10 f11 hSb0 z7 O7 X6 hor ?_;intro J hJ)
        refine xcP (Hj hSk hn h64 IN hnv) ?_
        (apply cI;simp[];refine zJ hJ ?_)
        exact hJI _ _ _ (aDe m) ⟨IN,hgi,hnv,sF1 f0,sF1 f9,sF1 f3,sS,sS,rfl⟩
def iA(vs:List Int)(F:List (List Int)):List LV:=F.flatMap fun r=>[.sl 0 r.length (us r),wv (mk vs r)]
@[simp] theorem pR(vs:List Int):∀ F:List (List Int),(iA vs F).length=F.length*2
  |[]=>rfl
  |r::F=>by have:=pR vs F;simp only[iA,aAH,aAn,List.length_cons,List.length_nil]at this ⊢;omega
theorem sK(vs:List Int):∀(F:List (List Int)) (k:Nat),k<F.length->(iA vs F).drop (k*2)=.sl 0 (F.getD k []).length (us (F.getD k []))::wv (mk vs (F.getD k []))::iA vs (F.drop (k+1))
 |r::F,0,_=>by simp[iA]
 |r::F,k+1,h=>by have:=sK vs F k (by simpa using h);rw[show(k+1)*2=k*2+2 by omega];simp only[iA,aAH,List.cons_append,List.nil_append,aDk]at this ⊢;rw[this];simp
 |[],k,h=>by simp at h
theorem Dn(vs:List Int):∀(B:List Brg) (k:Nat),k<B.length->(nI vs B).drop (k*2)=wv (mk vs (B.getD k ⟨[],[]⟩).inner)::wv (mk vs (B.getD k ⟨[],[]⟩).ends)::nI vs (B.drop (k+1))
 |r::F,0,_=>by simp[nI]
 |r::F,k+1,h=>by have:=Dn vs F k (by simpa using h);rw[show(k+1)*2=k*2+2 by omega];simp only[nI,aAH,List.cons_append,List.nil_append,aDk]at this ⊢;rw[this];simp
 |[],k,h=>by simp at h
def nJ(b:Brg)(p:Int×Int)(r:List Int×Nat):Int×Int:=if off b.ends r.1=[]then(if p.2=0 then(r.2:Int)else p.1,p.2+1)else p
def bZ(b:Brg)(F:List (List Int×Nat)):Int×Int:=F.foldl (nJ b) (-1,0)
def bI(F:List (List Int)):List Brg->Brg×Int->Brg×Int
 |[],N4=>N4
 |b::l,N4=>if(bZ b F.zipIdx).2<=1 then(b,(bZ b F.zipIdx).1)else bI F l (if N4.2<0 then(b,(bZ b F.zipIdx).1)else N4)
theorem Bk(b:Brg)(F:List (List Int))(k:Nat)(hk:k<F.length):bZ b (F.zipIdx.take (k+1))=nJ b (bZ b (F.zipIdx.take k)) (F.getD k [],k):=by
 unfold bZ;have hz:k<F.zipIdx.length:=by simpa using hk
 rw[aAp hz,aBM,List.getElem_zipIdx,aAg,aAh hk];simp
theorem BA(b:Brg):∀(F:List (List Int×Nat)),0<=(bZ b F).2/\(bZ b F).2<=F.length:=by
 have key:∀(F:List (List Int×Nat)) (p:Int×Int),0<=p.2->0<=(F.foldl (nJ b) p).2/\(F.foldl (nJ b) p).2<=p.2+F.length:=by
  intro F;induction F with
  |nil=>intro p h;simpa using h
  |cons r F ih=>
   intro p h;have h1:0<=(nJ b p r).2/\(nJ b p r).2<=p.2+1:=by unfold nJ;by_cases e:off b.ends r.1=[];(· rw[aAj e];simp only;omega);(· rw[aAa e];omega)
   have:=ih (nJ b p r) h1.1;rw[List.foldl_cons,List.length_cons];omega
 intro F;have:=key F (-1,0) sS;unfold bZ;simp only at this;omega
structure ShA(g:Gr)(L:List (Int×Int))(on:List Int)(F:List (List Int))(S nl pl ll fl:Nat)(le:List (List Int×LV))(st:St):Prop where
 r:ShR g L on S nl pl ll (.ms fl 0 F.length) le st
 fac:st.H fl=.box 144 2 (iA g.vs F)
 flt:fl<st.next
 sub:∀ r∈F,∀ v∈r,v∈g.vs
 onv:∀ v∈on,v∈g.vs
 few:F.length<=300
theorem ShA.keep{g:Gr}{L:List (Int×Int)}{on:List Int}{F:List (List Int)}{S nl pl ll fl:Nat}{le:List (List Int×LV)}{st st':St}(h:ShA g L on F S nl pl ll fl le st)(k:aA st st'):ShA g L on F S nl pl ll fl le st':=
 ⟨h.r.keep k,(k.H _ h.flt).trans h.fac,aAs h.flt k.next,h.sub,h.onv,h.few⟩
abbrev Tg(vs:List Int)(b:Brg):LV:=.ag [wv (mk vs b.inner),wv (mk vs b.ends)]
theorem UD{g:Gr}(hg:GP g){L:List (Int×Int)}{on:List Int}{F:List (List Int)}{S nl pl ll fl:Nat}{le:List (List Int×LV)}{st:St}(hS:ShA g L on F S nl pl ll fl le st){B:List Brg}(hB:Ng g L on=some B)(hBe:∀ b∈B,∀ v∈b.ends,v∈g.vs)(hBl:B.length<=300):
 aB prog 101 [.pt S 0] st fun r st'=>r=.tu [Tg g.vs (bI F B (⟨[],[]⟩,-1)).1,i (bI F B (⟨[],[]⟩,-1)).2]/\st'=st:=by
 refine qT (Q:=fun r=>r=.tu [Tg g.vs (bI F B (⟨[],[]⟩,-1)).1,i (bI F B (⟨[],[]⟩,-1)).2]) ?_ fun r h=>by subst h;exact⟨⟨trivial,trivial,trivial⟩,trivial,trivial⟩
 have h64:=hg.h64;have hz:mk g.vs []=0:=(mk_zero g.vs []).2 fun _ _=>by simp
 have hq:=hS.r.lt;refine zN func101 ntmps101 [.cell 2 138,.tmp 3] ?_
 (refine xj0 ?_;intro J hJ)
 refine xcP (QN hg hS.onv (hS.r.keep ((aA.new _ _).trans (aA.new _ _))) hB) ?_;refine dQ hJ ?_;have e0:¬st.next=st.next+1:=oO;have U4:=HC g.vs B;have hfl:=pR g.vs F;have hfew:=hS.few;generalize hCC:bI F B (⟨[],[]⟩,-1)=CC;refine aY 15 14 16 49 (B.length) (fun j fr st2=>fr 0=.pt S 0/\fr 2=.pt st.next 0/\fr 4=.pt (st.next+1) 0/\fr 13=.sl 0 B.length (nI g.vs B)/\aA st st2/\st.next+1<st2.next/\st2.H st.next=.box 138 2 [wv 0,wv 0]/\∃ N4 at_,fr 5=i at_/\st2.H (st.next+1)=.box 138 2 [wv (mk g.vs N4.inner),wv (mk g.vs N4.ends)]/\bI F (B.drop j) (N4,at_)=CC) ?_ ?_ ?_
 .exact⟨sS,sS,sS,sS,(aA.new _ _).trans (aA.new _ _),sS,sF1 e0,⟨[],[]⟩,-1,sS,sF1 hz,hCC⟩
 .rintro jo fr s dA ⟨f0,f2,f4,f13,hk,X3,hR,N4,at_,f5,hB5,W8⟩ fi fn JO hJO;have hd:=Dn g.vs B jo dA;have u6:jo*2<B.length*2:=oO;rw[aAN dA,bI]at W8;have hbm:B.getD jo ⟨[],[]⟩=B[jo]:=by rw[aAg,aAh dA];rfl
  have hbe:=hBe _ (aAE dA);rw[hbm]at hd;generalize B[jo]=b at *;have hSk:=hS.keep hk;obtain⟨O1,-,-,-,-,p1,p2,p3,p4⟩:=id hSk.r;have hF:=hSk.fac;have hFl:=hSk.flt;have x1:¬S=s.next:=oO;have x2:¬fl=s.next:=oO;have x3:¬st.next=s.next:=oO;have x4:¬st.next+1=s.next:=oO;refine Fx f0 f13 fi fn hd u6 U4 dA O1 x1 ?_;refine aY 24 23 25 40 (F.length) (fun j fr st2=>fr 0=.pt S 0/\fr 2=.pt st.next 0/\fr 4=.pt (st.next+1) 0/\fr 13=.sl 0 B.length (nI g.vs B)/\fr 14=i B.length/\fr 15=i jo/\fr 5=i at_/\fr 7=.pt s.next 0/\fr 22=.ms fl 0 F.length/\fr 8=i (bZ b (F.zipIdx.take j)).1/\fr 9=i (bZ b (F.zipIdx.take j)).2/\aA (s.new (.box 138 2 [wv (mk g.vs b.inner),wv (mk g.vs b.ends)])) st2) ?_ ?_ ?_
  .exact⟨sF1 f0,sF1 f2,sF1 f4,sF1 f13,sF1 fn,sF1 fi,sF1 f5,sS,sS,by simp[bZ],by simp[bZ],aA.refl _⟩
  .clear f0 f2 f4 f13 f5 fi fn fr;rintro k fr s2 hlk ⟨f0,f2,f4,f13,f14,f15,f5,f7,f22,f8,f9,o8⟩ fi fn JI hJI;have hn3:=o8.next;simp only[aG]at hn3;have hbx:s2.H s.next=.box 138 2 [wv (mk g.vs b.inner),wv (mk g.vs b.ends)]:=by rw[o8.H _ sS];simp
   have hF2:s2.H fl=.box 144 2 (iA g.vs F):=by rw[o8.H _ (by simp;omega),bY,aAa x2];exact hF
   have hdF:=sK g.vs F k hlk;have O8:=Bk b F k hlk;have u7:=BA b (F.zipIdx.take k);rw[aAw,List.length_zipIdx]at u7;generalize F.getD k []=rr at *;generalize hpp:bZ b (F.zipIdx.take k)=pp at *;obtain⟨p1',p2'⟩:=pp;simp only at u7 f8 f9;have hk22:k*2<F.length*2:=oO;have hdf:iG .u64 (mk g.vs b.ends) (mk g.vs rr)=mk g.vs (off b.ends rr):=sJ g.vs b.ends rr h64;have y1:¬s.next=s2.next:=oO;have y2:¬fl=s2.next:=oO;have hw:=wrap_i64 (p2'+1) oO oO;unfold nJ at O8;by_cases X0:off b.ends rr=[]
   .have hb:((mk g.vs (off b.ends rr):Int) != 0)=false:=by rw[X0,hz];rfl
    rw[aAj X0]at O8;simp only at O8;by_cases h0:p2'=0
    .have hb0:(p2'==0)=true:=by simpa using h0
     rw[aAj h0]at O8;refine ZW f7 f22 f8 f9 fi fn hdF hF2 hlk hk22 hfl hbx y1 y2 hdf hb hb0 hw ?_;exact hJI _ _ (sF1 fi) (sF1 fn) ⟨sF1 f0,sF1 f2,sF1 f4,sF1 f13,sF1 f14,sF1 f15,sF1 f5,sF1 f7,sF1 f22,by rw[O8];simp,by rw[O8];simp,o8.trans (aA.new _ _)⟩
    .have hb0:(p2'==0)=false:=by simpa using h0
     rw[aAa h0]at O8;refine ZW f7 f22 f8 f9 fi fn hdF hF2 hlk hk22 hfl hbx y1 y2 hdf hb hb0 hw ?_;exact hJI _ _ (sF1 fi) (sF1 fn) ⟨sF1 f0,sF1 f2,sF1 f4,sF1 f13,sF1 f14,sF1 f15,sF1 f5,sF1 f7,sF1 f22,by rw[O8];simp[f8],by rw[O8];simp,o8.trans (aA.new _ _)⟩
   .have hb:((mk g.vs (off b.ends rr):Int) != 0)=true:=by have:mk g.vs (off b.ends rr)≠0:=fun h=>X0 ((MG hbe).1 h);simpa using this
    rw[aAa X0]at O8;refine RU f7 f22 f8 f9 fi fn hdF hF2 hlk hk22 hfl hbx y1 y2 hdf hb ?_;exact hJI _ _ (sF1 fi) (sF1 fn) ⟨sF1 f0,sF1 f2,sF1 f4,sF1 f13,sF1 f14,sF1 f15,sF1 f5,sF1 f7,sF1 f22,by rw[O8];simp[f8],by rw[O8];simp[f9],o8.trans (aA.new _ _)⟩
  .clear f0 f2 f4 f13 f5 fi fn fr;rintro fr s2 ⟨f0,f2,f4,f13,f14,f15,f5,f7,f22,f8,f9,o8⟩;rw[aAu sS]at f8 f9;have u7:=BA b F.zipIdx;generalize hpp:bZ b F.zipIdx=pp at *;obtain⟨p1',p2'⟩:=pp;simp only at u7 f8 f9 W8;have hn3:=o8.next;simp only[aG]at hn3;have hbx:s2.H s.next=.box 138 2 [wv (mk g.vs b.inner),wv (mk g.vs b.ends)]:=by rw[o8.H _ sS];simp
   have hR2:s2.H st.next=.box 138 2 [wv 0,wv 0]:=by rw[o8.H _ (by simp;omega),bY,aAa x3];exact hR
   have hB2:s2.H (st.next+1)=.box 138 2 [wv (mk g.vs N4.inner),wv (mk g.vs N4.ends)]:=by rw[o8.H _ (by simp;omega),bY,aAa x4];exact hB5
   have hkk:=(hk.trans (aA.new _ _)).trans o8;have z1:¬s.next=st.next:=oO;have z2:¬st.next+1=st.next:=oO;by_cases N6:p2'<=1
   .rw[aAj N6]at W8;subst W8;refine xw8 f2 f7 f8 f9 N6 hbx hR2 z1 ?_;exact hkk.set (aAl _) _
   .rw[aAa N6]at W8;by_cases W9:at_<0
    .rw[aAj W9]at W8;refine xw9 f4 f5 f7 f8 f9 N6 W9 hbx hB2 ?_;exact hJO _ _ (sF1 f15) (sF1 f14) ⟨sF1 f0,sF1 f2,sF1 f4,sF1 f13,hkk.set oO _,by simp;omega,by(repeat (first|rw[nHh nOo]|rw[sHh oO]|rw[nIi nQq]|rw[sIi oO]));exact hR2,b,p1',sS,sS,W8⟩
    .rw[aAa W9]at W8;refine xw7 f4 f5 f7 f8 f9 N6 W9 ?_;exact hJO _ _ (sF1 f15) (sF1 f14) ⟨sF1 f0,sF1 f2,sF1 f4,sF1 f13,hkk,oO,hR2,N4,at_,sF1 f5,hB2,W8⟩
 .rintro fr s ⟨f0,f2,f4,f13,hk,X3,hR,N4,at_,f5,hB5,W8⟩;rw[List.drop_length,bI]at W8;subst W8;have z1:¬st.next+1=st.next:=oO;refine xw6 f2 f4 f5 hB5 hR z1 ?_;exact hk.set (aAl _) _
theorem AD{α:Type}(f:α->Int):∀ {a b:List α},(a.map f).Pairwise (· < ·)->(b.map f).Pairwise (· < ·)->(∀ x,x∈a↔x∈b)->a=b
 |[],[],_,_,_=>rfl
 |[],y::b,_,_,h=>by have:=(h y).2 sS;grind
 |x::a,[],_,_,h=>by have:=(h x).1 sS;grind
 |x::a,y::b,ha,hb,h=>by
  simp only[aAm,aBf,aAi,forall_exists_index,and_imp,forall_apply_eq_imp_iff₂]at ha hb;have L7:x=y:=by
   rcases aAe.1 ((h x).1 sS)with h1|h1
   .omega
   .grind
  subst L7
  congr 1
  refine AD f ha.2 hb.2 fun z=>?_
  grind
section
variable {α:Type} (f:α->Int)
end
theorem yQ{α:Type}{P:List α->Prop}(h0:P [])(h1:∀ l x,P l->P (l++[x]))(l:List α):P l:=by
 rw[<- aCI l];generalize l.reverse=r;induction r with
 |nil=>grind
 |cons x r ih=>grind
def bes(x y:Ed):Bool:=decide (x.a=y.a/\x.b=y.b\/x.a=y.b/\x.b=y.a)
theorem rZ{x y:Ed}:bes x y=true↔(x.a=y.a/\x.b=y.b\/x.a=y.b/\x.b=y.a):=by simp[bes]
theorem vO{x y:Ed}(h:bes x y=true):bes y x=true:=by
 grind [rZ]
theorem Gt(x:Ed):bes x x=true:=by grind [rZ]
theorem xM{x y z:Ed}(h:bes x y=true)(k:bes y z=true):bes x z=true:=by
 rw[rZ]at h k ⊢;rcases h with⟨h1,h2⟩|⟨h1,h2⟩<;>rcases k with⟨k1,k2⟩|⟨k1,k2⟩
 .omega
 .omega
 .omega
 omega
def sE(l:List Ed):List Ed:=l.foldl (fun acc x=>if acc.any (bes x)then acc else acc++[x]) []
theorem mK(l:List Ed)(x:Ed):sE (l++[x])=if(sE l).any (bes x)then sE l else sE l++[x]:=by
 grind [sE]
theorem jZ(l:List Ed):∀ x∈sE l,x∈l:=by
 induction l using yQ with
 |h0=>simp[sE]
 |h1 l x ih=>
  grind [mK]
theorem Ri(l:List Ed):∀ x∈l,∃ y∈sE l,bes x y=true:=by
 induction l using yQ with
 |h0=>simp
 |h1 l x ih=>
  intro y hy;rw[mK];rcases aAd.1 hy with h|h
  .grind
  .rw[aAk]at h;subst h
   split
   .grind
   .exact⟨y,aAx _ sS,Gt y⟩
theorem oV(l:List Ed):(sE l).length<=l.length:=by
 induction l using yQ with
 |h0=>simp[sE]
 |h1 l x ih=>
  grind [mK]
theorem Gx(l:List Ed):(sE l).Pairwise fun x y=>bes x y=false:=by
 induction l using yQ with
 |h0=>simp[sE]
 |h1 l x ih=>
  grind [mK,vO]
abbrev hf(x:Ed):List (Int×Int):=[(x.a,x.b),(x.b,x.a)]
def hfs(l:List Ed):List (Int×Int):=l.flatMap hf
theorem QU(l:List Ed)(x:Ed):hfs (l++[x])=hfs l++[(x.a,x.b)]++[(x.b,x.a)]:=by simp[hfs]
theorem Et(l:List Ed):(hfs l).length=2*l.length:=by
 induction l with
 |nil=>rfl
 |cons x l ih=>grind [hfs]
theorem Vz{l:List Ed}{p:Int×Int}:p∈hfs l↔∃ x∈l,(x.a=p.1/\x.b=p.2)\/(x.b=p.1/\x.a=p.2):=by
 grind [hfs]
def nbH(v:Int)(H:List (Int×Int)):List Int:=(H.filter fun p=>decide (p.1=v)).map (·.2)
theorem Ii(v:Int)(H:List (Int×Int))(p:Int×Int):nbH v (H++[p])=nbH v H++if p.1=v then [p.2]else []:=by
 grind [nbH]
theorem zX(v:Int)(H:List (Int×Int)):(nbH v H).length<=H.length:=by
 grind [nbH]
theorem Uc{v w:Int}{H:List (Int×Int)}:w∈nbH v H↔(v,w)∈H:=by unfold nbH;simp_all
def NC(x:Int):List Int->List Int
 |[]=>[x]
 |y::l=>if x<=y then x::y::l else y::NC x l
def srt:List Int->List Int
 |[]=>[]
 |x::l=>NC x (srt l)
theorem DS(x:Int)(l:List Int):(NC x l).Perm (x::l):=by
 induction l with
 |nil=>exact .refl _
 |cons y l ih=>
  grind [NC]
theorem rE(l:List Int):(srt l).Perm l:=by
 induction l with
 |nil=>exact .refl _
 |cons x l ih=>exact(DS x _).trans (ih.cons x)
theorem Hs(x:Int){l:List Int}(h:l.Pairwise (·<=·)):(NC x l).Pairwise (·<=·):=by
 induction l with
 |nil=>exact aDv _ _
 |cons y l ih=>
  grind [List.pairwise_cons,NC,DS]
theorem Ki(l:List Int):(srt l).Pairwise (·<=·):=by
 induction l with
 |nil=>exact .nil
 |cons x l ih=>exact Hs x ih
theorem tG:∀ {a b:List Int},a.Pairwise (·<=·)->b.Pairwise (·<=·)->a.Perm b->a=b
 |[],b,_,_,h=>by simp_all
 |x::a,[],_,_,h=>absurd h.symm.nil_eq sS
 |x::a,y::b,ha,hb,h=>by
  obtain⟨a1,a2⟩:=aBf.1 ha;obtain⟨b1,b2⟩:=aBf.1 hb;have L7:x=y:=by
   have h1:x∈y::b:=h.mem_iff.1 sS;have h2:y∈x::a:=h.mem_iff.2 sS;rcases aAe.1 h1 with h1|h1
   .omega
   .grind
  subst L7;rw[tG a2 b2 ((aEo x).1 h)]
theorem Xa{c l:List Int}(h:c.Perm l)(hs:c.Pairwise (·<=·)):c=srt l:=tG hs (Ki l) (h.trans (rE l).symm)
def cU(es:List Ed)(v:Int):List Int:=srt (nbH v (hfs (sE es)))
def adj(es:List Ed)(v w:Int):Prop:=∃ x∈es,(x.a=v/\x.b=w)\/(x.a=w/\x.b=v)
theorem NS{es:List Ed}{v w:Int}:w∈cU es v↔adj es v w:=by
 unfold cU;rw[(rE _).mem_iff,Uc,Vz];constructor
 .rintro⟨x,hx,h⟩;refine⟨x,jZ _ _ hx,?_⟩;omega
 .rintro⟨x,hx,h⟩;obtain⟨y,hy,hb⟩:=Ri _ _ hx;refine⟨y,hy,?_⟩;rw[rZ]at hb;rcases h with⟨h1,h2⟩|⟨h1,h2⟩<;>rcases hb with⟨b1,b2⟩|⟨b1,b2⟩
  .omega
  .omega
  .omega
  omega
instance (es:List Ed) (v w:Int):Decidable (adj es v w):=by unfold adj;exact inferInstance
theorem NH(es:List Ed)(v:Int):(cU es v).length<=2*es.length:=by
 have h1:=(rE (nbH v (hfs (sE es)))).length_eq
 grind [zX,Et,oV,cU]
abbrev Led:=List (Int×Int)
def kI(A:Led)(v:Int):Option Int:=match A with
 |[]=>none
 |p::A=>if v=p.1 then some p.2 else kI A v
theorem BD{v:Int}:∀ {A:Led},v∉A.map (·.1)->kI A v=none
 |[],_=>rfl
 |p::A,h=>by simp only[aAm,aAe,aCx]at h;simp only[kI];rw[aAa h.1,BD h.2]
theorem CL{v:Int}:∀ {A:Led},v∈A.map (·.1)->∃ w,kI A v=some w
 |[],h=>by grind
 |p::A,h=>by
  simp only[kI];by_cases e:v=p.1
  .simp_all
  .rw[aAa e];simp only[aAm,aAe]at h;exact CL (h.resolve_left e)
structure BF where
 A:Led
 Q:List Int
 hit:Bool
def gP(may:Int->Bool)(to v:Int)(S:BF)(u:Int):BF:=
 if S.hit=true then S else if u∈S.A.map (·.1)then S else if u=to then⟨S.A++[(u,v)],S.Q,true⟩else⟨S.A++[(u,v)],if may u=true then S.Q++[u]else S.Q,false⟩
def dN(may:Int->Bool)(to v:Int)(S:BF)(l:List Int):BF:=l.foldl (gP may to v) S
theorem Df(may:Int->Bool)(to v:Int){S:BF}(h:S.hit=true)(l:List Int):dN may to v S l=S:=by
 induction l with
 |nil=>rfl
 |cons u l ih=>grind [dN,gP]
theorem KT(may:Int->Bool)(to v:Int)(S:BF)(l:List Int)(u:Int):dN may to v S (l++[u])=gP may to v (dN may to v S l) u:=by grind [dN]
theorem ED(may:Int->Bool)(to v:Int)(S:BF)(l:List Int):(dN may to v S l).Q.length<=S.Q.length+l.length/\(dN may to v S l).A.length<=S.A.length+l.length:=by
 induction l generalizing S with
 |nil=>simp[dN]
 |cons u l ih=>
  have:=ih (gP may to v S u);have h1:(gP may to v S u).Q.length<=S.Q.length+1/\(gP may to v S u).A.length<=S.A.length+1:=by
   unfold gP
   split
   .omega
   .grind
  grind [dN]
def bfs(near:Int->List Int)(may:Int->Bool)(to:Int):Nat->Led->List Int->Option (Option Led)
 |_,_,[]=>some none
 |0,_,_::_=>none
 |n+1,A,v::Q=>if(dN may to v ⟨A,Q,false⟩ (near v)).hit=true then some (some (dN may to v ⟨A,Q,false⟩ (near v)).A)else bfs near may to n (dN may to v ⟨A,Q,false⟩ (near v)).A (dN may to v ⟨A,Q,false⟩ (near v)).Q
def iQ(A:Led)(Sd:Int):Nat->Int->Option (List Int)
 |0,v=>if v=Sd then some []else none
 |n+1,v=>if v=Sd then some []else(iQ A Sd n ((kI A v).getD 0)).map fun l=>(kI A v).getD 0::l
theorem Dr{A:Led}{Sd:Int}:∀ {n:Nat} {v:Int} {l:List Int},iQ A Sd n v=some l->l.length<=n
 |0,v,l,h=>by
  grind [iQ]
 |n+1,v,l,h=>by
  simp only[iQ]at h
  split at h
  .grind
  .rw[aBk]at h;obtain⟨l',h1,rfl⟩:=h;have:=Dr h1
   grind
def vY(vs:List Int)(near:Int->List Int)(may:Int->Bool)(Sd to:Int)(n:Nat):Option (List Int):=
 if Sd∉vs\/to∉vs then some []else if Sd=to then some [Sd]else match bfs near may to n [(Sd,Sd)] [Sd] with
  |some none=>some []
  |some (some A)=>(iQ A Sd n to).map fun l=>(to::l).reverse
  |none=>none
def kE(x:Ed):List Int:=[if x.b<x.a then x.b else x.a,if x.a<x.b then x.b else x.a]
theorem KC(x y:Ed):kE x=kE y↔bes x y=true:=by
 grind [rZ,kE]
def bnd(l:List Ed):List (List Int):=(sE l).map fun y=>(l.filter fun x=>bes y x).map (·.id)
theorem To(l:List Ed):(bnd l).length=(sE l).length:=by simp[bnd]
theorem MS{l:List Ed}{x:Ed}(h:(sE l).any (bes x)=false):sE (l++[x])=sE l++[x]/\bnd (l++[x])=bnd l++[[x.id]]:=by
 have h':∀ y∈sE l,bes x y=false:=fun y hy=>by
  grind
 have hs:sE (l++[x])=sE l++[x]:=by rw[mK,h];rfl
 refine⟨hs,?_⟩;unfold bnd;rw[hs,aAv]
 congr 1
 .grind [List.map_congr_left,vO]
 .have:l.filter (fun z=>bes x z)=[]:=by rw[aDA];intro z hz hb;obtain⟨y,hy,h2⟩:=Ri l z hz;have:=h' y hy;rw[xM hb h2]at this;cases this
  grind [Gt]
theorem Tx{l:List Ed}{x:Ed}(h:(sE l).any (bes x)=true):sE (l++[x])=sE l/\∃ L1 y L2 B1 r B2,sE l=L1++y::L2/\bes x y=true/\bnd l=B1++r::B2/\B1.length=L1.length/\bnd (l++[x])=B1++(r++[x.id])::B2/\r.length<=l.length:=by
 have hs:sE (l++[x])=sE l:=by rw[mK,h];rfl
 refine⟨hs,?_⟩;obtain⟨y,hy,hb⟩:=List.any_eq_true.1 h;obtain⟨L1,L2,hL⟩:=aBb hy;have hap:=Gx l;rw[hL,aBU,aBf]at hap;obtain⟨_,⟨p2,_⟩,p3⟩:=hap;have x9:∀ z,(z∈L1\/z∈L2)->bes z x=false:=by
  intro z hz;cases hzx:bes z x with
  |false=>rfl
  |true=>
   grind [xM,vO]
 refine⟨L1,y,L2,_,_,_,hL,hb,by unfold bnd;rw[hL,aAv,aAm],sS,?_,?_⟩
 .unfold bnd;rw[hs,hL,aAv,aAm]
  grind [List.map_congr_left,vO]
 grind
structure AtM(l:List Ed)(es:List (List Int×LV)):Prop where
 old:∀ x L1 y L2,sE l=L1++y::L2->bes x y=true->bS es (kE x)=some (i L1.length)
 new:∀ x,(sE l).any (bes x)=false->bS es (kE x)=none
theorem AtM.nil:AtM [] []:=⟨fun x L1 y L2 h _=>by grind [sE],fun x _=>rfl⟩
theorem AtM.keep{l:List Ed}{es:List (List Int×LV)}(h:AtM l es){x:Ed}(hx:sE (l++[x])=sE l):AtM (l++[x]) es:=
 ⟨by rw[hx];exact h.old,by rw[hx];exact h.new⟩
theorem AtM.add{l:List Ed}{es:List (List Int×LV)}(h:AtM l es){x:Ed}(hx:(sE l).any (bes x)=false):AtM (l++[x]) (bV es (kE x) (i (sE l).length)):=by
 have hs:=(MS hx).1;constructor
 .intro z L1 y L2 hL hb;rw[hs]at hL;rw[sH];rcases aDa L2 with rfl|⟨L2',y',rfl⟩
  .grind [List.append_inj',KC]
  .rw[aDb,show L1++y::(L2'++[y'])=(L1++y::L2')++[y'] by simp]at hL;obtain⟨h1,h2⟩:=List.append_inj' hL rfl;rw[aAa,h.old z L1 y L2' h1 hb]
   grind [xM,KC]
 .intro z hz;rw[hs,List.any_append,Bool.or_eq_false_iff]at hz;rw[sH,aAa,h.new z hz.1]
  grind [KC]
abbrev TR:=Nat×List Int
def IQ(p:TR):LV:=.sl p.1 p.2.length (us p.2)
def bN(R:List TR):List LV:=R.map IQ
theorem lW(R:List TR):(bN R).length=R.length:=by simp[bN]
structure I2(E:List Ed)(j9:St)(L2 L4 M te q:Nat)(vs:List Int)(mes:List (List Int×LV))(R:List TR)(s:St):Prop where
 h2:s.H L2=.box 25 2 [.nil,.nil]
 h4:s.H L4=.box 25 2 [.sl 0 vs.length (us vs),.sl te (sE E).length (eds (sE E))]
 ht:s.H te=.own 36 3 (sE E).length
 hM:s.H M=.map true [.u32,.u32] mes
 hq:s.H q=.box 22 1 (bN R)
 bn:R.map (·.2)=bnd E
 at':AtM E mes
 nd:(R.map (·.1)).Nodup
 tk:∀ p∈R,j9.next<=p.1/\p.1<s.next/\s.H p.1=.own 34 1 p.2.length
 b:j9.next<=L2/\j9.next<=L4/\j9.next<=M/\j9.next<=te/\j9.next<=q/\L2<s.next/\L4<s.next/\M<s.next/\te<s.next/\q<s.next
 kp:aA j9 s
def E8(g:Gr)(j9:St)(L2 L4 M k:Nat)(fr:Frm)(s:St):Prop:=
 fr 2=.pt L2 0/\fr 4=.pt L4 0/\fr 6=.mp M/\fr 18=.sl 0 g.es.length (eds g.es)/\fr 19=i g.es.length/\fr 20=i k/\
 ∃ te q mes R,fr 5=.ms q 0 R.length/\I2 (g.es.take k) j9 L2 L4 M te q g.vs mes R s
theorem bU{st:St}{a b:Nat}{x y:cN}(ha:st.H a=x)(hb:st.H b=y)(h:x≠y):¬a=b:=fun e=>h (by rw[<- ha,e,hb])
theorem AX(l:List Ed):z0L (eds l)=eds l:=by
 induction l with
 |nil=>rfl
 |cons e l ih=>simp only[eds,aAH,List.cons_append,List.nil_append,z0L,z0]at ih ⊢;rw[ih]
theorem Ow(R:List TR):z0L (bN R)=R.map fun p=>.sl 0 p.2.length (us p.2):=by rw[oE,bN,aAW];refine aAQ fun p _=>?_;simp[IQ,z0]
theorem QK(g:Gr)(st:St)(hv:g.vs.length<=1048576)(he:g.es.length<=1000)(hp:0<st.next):
 aB prog 59 [.ag (grL g)] st fun r st'=>r=.tu [.ag [.sl 0 g.vs.length (us g.vs),.sl 0 (sE g.es).length (eds (sE g.es))],.sl 0 (bnd g.es).length ((bnd g.es).map fun l=>.sl 0 l.length (us l))]/\aA st st':=by
 refine eU ?_;have hel:=aK g.es;refine zN func59 ntmps59 [.cell 2 25,.tmp 3] ?_
 (refine xj0 ?_;intro J hJ)
 refine qE (Qz g.vs 0 _ hv) (by simp[]) ?_;rintro r st' ⟨rfl,j7⟩;have N6:=j7.next;simp only[aG]at N6;have X7:st'.H st.next=.box 25 2 (grL g):=by rw[j7.H _ (by simp<;>omega)];simp
 have hC1:st'.H (st.next+1)=.box 25 2 [.nil,.nil]:=by rw[j7.H _ sS];simp
 have j8:aA st st':=((aA.new _ _).trans (aA.new _ _)).trans j7;generalize hL:st'=s1 at *;have e1:¬st.next=s1.next:=oO;have e2:¬st.next=s1.next+1:=oO;refine wJ hJ e1 e2 X7 ?_;refine Cc s1.next 36 3 (e:=25) (s:=2) [.sl 0 g.vs.length (us g.vs)] [] sS ?_;refine uN 5 22 1 sS ?_;refine qL (fun n fr s=>∃ k:Nat,k<=g.es.length/\n=g.es.length-k/\E8 g st (st.next+1) s1.next (s1.next+1) k fr s) g.es.length ?_ ?_
 .refine⟨0,oO,oO,sS,sS,sS,sS,sS,sS,s1.next+2,s1.next+3,[],[],sS,?_⟩;have h5:¬st.next=s1.next+2:=oO;have h1:¬st.next+1=s1.next:=oO;refine⟨sF5 h1 h5 e1 e2 hC1,by simp[sE]<;>omega,by simp[sE],sS,by simp[bN],by simp[bnd,sE],AtM.nil,sS,sS,⟨oO,oO,oO,oO,oO,by simp<;>omega,by simp<;>omega,sS,sS,sS⟩,?_⟩;exact(((((j8.trans (aA.new _ _)).trans (aA.new _ _)).trans (aA.new _ _)).set oO _).trans (aA.new _ _))
 rintro n fr s ⟨k,hk,rfl,f2,f4,f6,f18,f19,f20,te,q,mes,R,f5,hB⟩ JJ hJJ;obtain⟨H2,H4,Ht,HM,Hq,hbn,W9,hnd,L0,⟨b1,b2,b3,b4,b5,b6,b7,b8,b9,b10⟩,hkps⟩:=hB;have q24:¬q=s1.next:=bU Hq H4 sS;by_cases dA:k<g.es.length;rotate_left
 .clear hJJ;have P0:k=g.es.length:=oO;rw[P0,aAU]at H4 Ht hbn;have U4:(bnd g.es).length=R.length:=by rw[<- hbn,aAD]
  have n1:¬st.next+1=q:=bU H2 Hq sS;have n2:¬s1.next=q:=fun h=>q24 h.symm;have n3:¬s1.next=st.next+1:=oO;have hsl:=oV g.es;refine tL 5 f5 Hq (by simp[lW]) ?_;have htk2:(bN R).take (R.length*1)=bN R:=aAu (by rw[lW];omega);rw[htk2];refine Fx f2 f4 f19 f20 dA H4 H2 n1 n2 n3 ?_;refine⟨?_,(hkps.set oO _).set oO _⟩;rw[U4,<- hbn];simp only[z0,z0L,Hg,AX,Ow,aAW];rfl
 have hd:=aR g.es k dA;have hw:=qN k oO;have o8:k*3<g.es.length*3:=oO;have htk1:g.es.take (k+1)=g.es.take k++[g.es.getD k ed0]:=by rw[aAg,aAh dA];exact aAp dA
 have hEl:(g.es.take k).length<=1000:=by rw[aAw];omega
 generalize g.es.getD k ed0=x at *;generalize hE:g.es.take k=E at *;obtain⟨id,a,b⟩:=x;simp only at hd;cases hany:(sE E).any (bes ⟨id,a,b⟩)
 .have hm:=W9.new ⟨id,a,b⟩ hany;simp only[kE]at hm;have S5:(List.map (fun _:Ed=>3) (sE E)).sum=(sE E).length*3:=by
   induction sE E with
   |nil=>rfl
   |cons x l ih=>simp only[aAm,List.sum_cons,List.length_cons,ih];omega
  have hsl:=oV E;have te0:¬te=0:=oO;have r8:=lW R;have hRl:R.length=(sE E).length:=by rw[<- To,<- hbn,aAD]
  have htR:List.take R.length (bN R)=bN R:=aAu oO;have hdl:List.drop R.length (bN R++[LV.nil])=[.nil]:=by rw[<- r8];exact aDc
  have htl:List.take R.length (bN R++[LV.nil])=bN R:=by rw[<- r8];exact aDu
  have hdl2:List.drop (R.length+1) (bN R++[LV.nil])=[]:=List.drop_eq_nil_of_le (sF1 r8);have hRn:((R.length:Int)).toNat=R.length:=oO;have c0:¬s1.next=s.next:=oO;have c0':¬s.next=s1.next:=oO;have c1:¬s1.next=s.next+1:=oO;have c1':¬s.next+1=s1.next:=oO;have c2:¬s1.next=s.next+2:=oO;have c2':¬s.next+2=s1.next:=oO;have c3:¬s1.next=s.next+3:=oO;have c3':¬s.next+3=s1.next:=oO;have c4:¬s1.next=s.next+4:=oO;have c4':¬s.next+4=s1.next:=oO;have e0:¬te=s.next:=oO;have e0':¬s.next=te:=oO;have e1:¬te=s.next+1:=oO;have e1':¬s.next+1=te:=oO;have e2:¬te=s.next+2:=oO;have e2':¬s.next+2=te:=oO;have e3:¬te=s.next+3:=oO;have e3':¬s.next+3=te:=oO;have e4:¬te=s.next+4:=oO;have e4':¬s.next+4=te:=oO;have d0:¬q=s.next:=oO;have d0':¬s.next=q:=oO;have d1:¬q=s.next+1:=oO;have d1':¬s.next+1=q:=oO;have d2:¬q=s.next+2:=oO;have d2':¬s.next+2=q:=oO;have d3:¬q=s.next+3:=oO;have d3':¬s.next+3=q:=oO;have d4:¬q=s.next+4:=oO;have d4':¬s.next+4=q:=oO;have c9:¬s1.next+1=s.next:=oO;have c9':¬s.next=s1.next+1:=oO;have n1:¬te=s1.next:=bU Ht H4 sS;have n2:¬te=s1.next+1:=bU Ht HM sS;have n3:¬q=s1.next+1:=bU Hq HM sS;have n4:¬q=te:=bU Hq Ht sS;have n1':¬s1.next=te:=fun h=>n1 h.symm;have n2':¬s1.next+1=te:=fun h=>n2 h.symm;have n3':¬s1.next+1=q:=fun h=>n3 h.symm;have n4':¬te=q:=fun h=>n4 h.symm;have n5':¬s1.next=q:=fun h=>q24 h.symm;have r2:¬s.next=s.next+1+1:=oO;have r3:¬s.next=s.next+1+1+1:=oO;have r4:¬s.next=s.next+1+1+1+1:=oO;have r5:¬s.next=s.next+1+1+1+1+1:=oO;have r6:¬s.next=s.next+1+1+1+1+1+1:=oO;have r7:¬s.next=s.next+1+1+1+1+1+1+1:=oO;have p1:R.length<R.length+1:=oO
  (repeat' (first|apply qS|apply qB|refine qK (zZ ?_)|(apply qC;simp[r8,htR,S5,te0,c0,c0',c1,c1',c2,c2',c3,c3',c4,c4',e0,e0',e1,e1',e2,e2',e3,e3',e4,e4',d0,d0',d1,d1',d2,d2',d3,d3',d4,d4',c9,c9',n1,n2,n3,n4,n1',n2',n3',n4',n5',Ht,Hq,q24,f4,f5,f6,f18,f19,f20,dA,hd,hel,o8,hw,H4,HM,hm])|(refine zE ?_;intro J hJ;simp[r8,htR,S5,te0,c0,c0',c1,c1',c2,c2',c3,c3',c4,c4',e0,e0',e1,e1',e2,e2',e3,e3',e4,e4',d0,d0',d1,d1',d2,d2',d3,d3',d4,d4',c9,c9',n1,n2,n3,n4,n1',n2',n3',n4',n5',Ht,Hq,q24,f4,f5,f6,f18,f19,f20,dA,hd,hel,o8,hw,H4,HM,hm];(repeat refine ca ?_);(refine zJ hJ ?_;clear hJ J))))
  (refine zS [] [s.next,s.next+1+1+1+1+1] [0,2,4,6,8,10,12,14,16,18,20,23] ?_;intro J hJ;simp[r2,r3,r4,r5,r6,r7,c0,c0',c1,c1',c2,c2',c3,c3',c4,c4',e0,e0',e1,e1',e2,e2',e3,e3',e4,e4',d0,d0',d1,d1',d2,d2',d3,d3',d4,d4',c9,c9',n1,n2,n3,n4,n1',n2',n3',n4',n5',r8,htR,hdl,htl,hdl2,p1];(repeat refine ca ?_);(refine zJ hJ ?_;clear hJ J))
  refine xw2 f20 hw ?_;have l1:¬st.next+1=te:=bU H2 Ht sS;have l2:¬st.next+1=q:=bU H2 Hq sS;obtain⟨hs,hb⟩:=MS hany;refine hJJ (g.es.length-(k+1)) _ _ oO ⟨k+1,oO,rfl,sF1 f2,sF1 f4,sF1 f6,sF1 f18,sF1 f19,sS,s.next+3,s.next+5,bV mes (kE ⟨id,a,b⟩) (i (sE E).length),R++[(s.next+7,[id])],sS,?_⟩;rw[htk1];refine⟨?_,?_,?_,?_,?_,?_,W9.add hany,?_,?_,?_,?_⟩
  ·(repeat (first|rw[nHh nOo]|rw[sHh oO]|rw[nIi nQq]|rw[sIi oO]));exact H2
  ·(repeat (first|rw[nHh nOo]|rw[sHh oO]|rw[nIi nQq]|rw[sIi oO]));rw[hs];simp[eds]
  ·(repeat (first|rw[nHh nOo]|rw[sHh oO]|rw[nIi nQq]|rw[sIi oO]));rw[hs];simp
  ·(repeat (first|rw[nHh nOo]|rw[sHh oO]|rw[nIi nQq]|rw[sIi oO]));rw[hRl];rfl
  ·(repeat (first|rw[nHh nOo]|rw[sHh oO]|rw[nIi nQq]|rw[sIi oO]));simp[bN,IQ]
  .rw[aAv,hbn,hb];rfl
  .rw[aAv,aAo];refine⟨hnd,sS,fun x hx y hy=>?_⟩;obtain⟨p,hp,rfl⟩:=aAi.1 hx;simp at hy;have:=(L0 p hp).2.1;omega
  .intro p hp;rcases aAd.1 hp with hp|hp
   .obtain⟨h1,h2,h3⟩:=L0 p hp;have t1:¬p.1=te:=bU h3 Ht sS;have t2:¬p.1=q:=bU h3 Hq sS;have t3:¬p.1=s1.next:=bU h3 H4 sS;have t4:¬p.1=s1.next+1:=bU h3 HM sS;refine⟨h1,by simp<;>omega,?_⟩
    (repeat (first|rw[nHh nOo]|rw[sHh oO]|rw[nIi nQq]|rw[sIi oO]));exact h3
   .rw[aAk]at hp;subst hp;refine⟨by simp<;>omega,sS,?_⟩
    (repeat (first|rw[nHh nOo]|rw[sHh oO]|rw[nIi nQq]|rw[sIi oO]));rfl
  .simp only[bH,aG];omega
  .refine⟨by have:=hkps.next;simp only[bH,aG];omega,fun l hl=>?_⟩
   (repeat (first|rw[nHh nOo]|rw[sHh oO]|rw[nIi nQq]|rw[sIi oO]));exact hkps.H l hl
 obtain⟨hs,L1,y,L2,B1,r,B2,hL,hyb,hB0,hBl,Z9,hrl⟩:=Tx hany;have hm:=W9.old ⟨id,a,b⟩ L1 y L2 hL hyb;simp only[kE]at hm;rw[hB0]at hbn;obtain⟨R1,R',rfl,hR1,hR'⟩:=aEl.1 hbn;obtain⟨p,R2,rfl,hpr,hR2⟩:=aEy.1 hR';obtain⟨t0,r0⟩:=p;simp only at hpr;subst hpr;obtain⟨hb1,X6,hb3⟩:=L0 (t0,r0) sS;simp only at hb1 X6 hb3;have hR1l:R1.length=L1.length:=by rw[<- hBl,<- hR1,aAD]
 have r8:(bN (R1++(t0,r0)::R2)).length=R1.length+(R2.length+1):=by rw[lW];simp
 have hRl:(R1++(t0,r0)::R2).length=R1.length+(R2.length+1):=sS;have P9:bN (R1++(t0,r0)::R2)=bN R1++.sl t0 r0.length (us r0)::bN R2:=by simp[bN,IQ]
 have hc1:(bN R1).length=R1.length:=lW R1;have hdl:List.drop R1.length (bN R1++LV.sl t0 r0.length (us r0)::bN R2)=.sl t0 r0.length (us r0)::bN R2:=by rw[<- hc1];exact aDc
 have htl:List.take R1.length (bN R1++LV.sl t0 r0.length (us r0)::bN R2)=bN R1:=by rw[<- hc1];exact aDu
 have hdl2:List.drop (R1.length+1) (bN R1++LV.sl t0 r0.length (us r0)::bN R2)=bN R2:=by rw[<- hc1,show bN R1++LV.sl t0 r0.length (us r0)::bN R2=(bN R1++[LV.sl t0 r0.length (us r0)])++bN R2 by simp];rw[show(bN R1).length+1=(bN R1++[LV.sl t0 r0.length (us r0)]).length by simp];exact aDc
 rw[hRl]at f5;rw[P9]at Hq;rw[<- hR1l]at hm;have t00:¬t0=0:=oO;have m1:¬s1.next=s.next:=oO;have m1':¬s.next=s1.next:=oO;have m2:¬s1.next+1=s.next:=oO;have m2':¬s.next=s1.next+1:=oO;have m5:¬t0=s.next:=oO;have m6:¬t0=s.next+1:=oO;have m6b:¬t0=s.next+2:=oO;have m5':¬s.next=t0:=oO;have m6':¬s.next+1=t0:=oO;have m6b':¬s.next+2=t0:=oO;have m7:¬q=s.next:=oO;have m8:¬q=s.next+1:=oO;have m9:¬q=s.next+2:=oO;have m9b:¬q=s.next+3:=oO;have n4:¬q=t0:=bU Hq hb3 sS;have r2:¬s.next=s.next+1+1:=oO;have r3:¬s.next=s.next+1+1+1:=oO;have p1:R1.length<R1.length+(R2.length+1):=oO;have p2:(R1.length:Int)<(R1.length:Int)+((R2.length:Int)+1):=oO;have hr1:r0.length<=1000:=oO;refine K2 m1 m1' m2 m2' f4 f5 f6 f18 f19 f20 dA hd hel o8 hw HM hm ?_
 (refine zS [] [s.next,q] [0,2,4,6,8,10,12,14,16,18,20,23] ?_;intro J hJ;simp[m1,m1',m2,m2',m5,m6,m6b,m5',m6',m6b',m7,m8,m9,m9b,n4,r2,r3,f5,Hq,hb3,hc1,hdl,htl,hdl2,p1,p2,t00];(repeat refine ca ?_);(refine zJ hJ ?_;clear hJ J))
 refine xw2 f20 hw ?_;have l2:¬st.next+1=q:=bU H2 Hq sS;have l3:¬st.next+1=t0:=bU H2 hb3 sS;have l4:¬s1.next=q:=fun h=>q24 h.symm;have l5:¬s1.next=t0:=bU H4 hb3 sS;have l6:¬s1.next+1=q:=bU HM Hq sS;have l7:¬s1.next+1=t0:=bU HM hb3 sS;have l8:¬te=q:=bU Ht Hq sS;have l9:¬te=t0:=bU Ht hb3 sS;refine hJJ (g.es.length-(k+1)) _ _ oO ⟨k+1,oO,rfl,sF1 f2,sF1 f4,sF1 f6,sF1 f18,sF1 f19,sS,te,q,mes,R1++(s.next+3,r0++[id])::R2,sF1 f5,?_⟩;rw[htk1];have hnd':=hnd;rw[aAv,aAm,aAo,aAq]at hnd';obtain⟨nd1,⟨nd2,nd3⟩,nd4⟩:=hnd';refine⟨?_,?_,?_,?_,?_,?_,W9.keep hs,?_,?_,?_,?_⟩
 ·(repeat (first|rw[nHh nOo]|rw[sHh oO]|rw[nIi nQq]|rw[sIi oO]));exact H2
 ·(repeat (first|rw[nHh nOo]|rw[sHh oO]|rw[nIi nQq]|rw[sIi oO]));rw[hs];exact H4
 ·(repeat (first|rw[nHh nOo]|rw[sHh oO]|rw[nIi nQq]|rw[sIi oO]));rw[hs];exact Ht
 ·(repeat (first|rw[nHh nOo]|rw[sHh oO]|rw[nIi nQq]|rw[sIi oO]));exact HM
 ·(repeat (first|rw[nHh nOo]|rw[sHh oO]|rw[nIi nQq]|rw[sIi oO]));simp[bN,IQ]
 .rw[Z9,aAv,aAm,hR1,hR2]
 .rw[aAv,aAm,aAo,aAq];have lt1:∀ x∈R1.map (·.1),x<s.next:=fun x hx=>by obtain⟨p,hp,rfl⟩:=aAi.1 hx;exact(L0 p (sF1 hp)).2.1
  have lt2:∀ x∈R2.map (·.1),x<s.next:=fun x hx=>by obtain⟨p,hp,rfl⟩:=aAi.1 hx;exact(L0 p (sF1 hp)).2.1
  refine⟨nd1,⟨fun h=>by have:=lt2 _ h;omega,nd3⟩,fun x hx y hy=>?_⟩;rcases aAe.1 hy with rfl|hy
  .have:=lt1 x hx;simp only;omega
  .exact nd4 x hx y (aAc _ hy)
 .intro p hp;have old:∀ p,p∈R1\/p∈R2->¬p.1=t0->st.next<=p.1/\p.1<s.next/\s.H p.1=.own 34 1 p.2.length/\¬p.1=t0/\¬p.1=q:=by intro p hp c7;obtain⟨h1,h2,h3⟩:=L0 p (by rcases hp with hp|hp<;>simp[hp]);exact⟨h1,h2,h3,c7,bU h3 Hq sS⟩
  have U5:(p∈R1\/p∈R2)/\¬p.1=t0\/p=(s.next+3,r0++[id]):=by
   rcases aAd.1 hp with hp|hp
   .exact .inl ⟨.inl hp,nd4 _ (aAi.2 ⟨p,hp,rfl⟩) t0 sS⟩
   .rcases aAe.1 hp with hp|hp
    .exact .inr hp
    .exact .inl ⟨.inr hp,fun h=>nd2 (by rw[<- h];exact aAi.2 ⟨p,hp,rfl⟩)⟩
  rcases U5 with⟨hp,c7⟩|rfl
  .obtain⟨h1,h2,h3,t1,t2⟩:=old p hp c7;refine⟨h1,by simp only[bH,aG];omega,?_⟩
   (repeat (first|rw[nHh nOo]|rw[sHh oO]|rw[nIi nQq]|rw[sIi oO]));exact h3
  .refine⟨by simp only;omega,sS,?_⟩;simp only
   (repeat (first|rw[nHh nOo]|rw[sHh oO]|rw[nIi nQq]|rw[sIi oO]));simp
 .simp only[bH,aG];omega
 .refine⟨by have:=hkps.next;simp only[bH,aG];omega,fun l hl=>?_⟩
  (repeat (first|rw[nHh nOo]|rw[sHh oO]|rw[nIi nQq]|rw[sIi oO]));exact hkps.H l hl
end Aw
end Go.Proofs.YtbgngpdonpeboaaGreatDoor
