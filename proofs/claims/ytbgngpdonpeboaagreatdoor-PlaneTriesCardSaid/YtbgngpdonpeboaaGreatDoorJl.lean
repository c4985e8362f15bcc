/- Plain: rows put behind one another, and the faces that are lost so; a row of segments. -/
import Derived.Test.YtbgngpdonpeboaaGreatDoorJk
import Derived.Shelf.SlSortCmp.WholeK
import Derived.Shelf.SlSortCmp.QuietGrown
import Derived.Test.YtbgngpdonpeboaaGreatDoorAwShp
set_option linter.unusedVariables false
set_option linter.unusedSimpArgs false
set_option linter.unusedSectionVars false
open Go.Proofs.Tryz
namespace Go.Proofs.YtbgngpdonpeboaaGreatDoor
namespace Aw
open Go Go.RowKit Pl Eu
theorem Jo{P Q:List Int}{y z:Int}(hn:(P++y::z::Q).Nodup):nx (P++y::z::Q) y=z:=by
 have hk:P.length<(P++y::z::Q).length:=sS;have e:(P++y::z::Q)[P.length]=y:=by rw[aBB (aAl _)];simp
 have:=iD hn hk;rw[e]at this;rw[this];have e2:(P.length+1) % (P++y::z::Q).length=P.length+1:=aAG sS;simp only[e2];rw[aBB oO];simp
theorem GU{z:Int}{Q P:List Int}{y:Int}(hn:(z::Q).Nodup)(h:z::Q=P++[y]):nx (z::Q) y=z:=by
 have h0:(P++[y])[0]?=some z:=by rw[<- h];rfl
 rw[h]at hn ⊢;have hk:P.length<(P++[y]).length:=sS;have e:(P++[y])[P.length]=y:=by rw[aBB (aAl _)];simp
 have:=iD hn hk;rw[e]at this;rw[this];have e2:(P.length+1) % (P++[y]).length=0:=sS;simp only[e2];rw[aAh sS,aAb]at h0;exact h0
theorem Xf{R:List Int}{S:Int->List Int}(hR:R.Nodup)(hn:(R.flatMap S).Nodup)(hS:∀ x∈R,S x≠[]){x:Int}(hx:x∈R):
 (∀ p y z q,S x=p++y::z::q->nx (R.flatMap S) y=z)/\∀ p y,S x=p++[y]->∃ z q,S (nx R x)=z::q/\nx (R.flatMap S) y=z:=by
 obtain⟨A,B,rfl⟩:=aBb hx;constructor
 .intro p y z q h;have e:(A++x::B).flatMap S=(A.flatMap S++p)++y::z::(q++B.flatMap S):=by simp[aBX,aAH,h]
  rw[e]at hn ⊢;exact Jo hn
 .intro p y h;cases B with
  |cons x' B=>
   have h2:=hS x' sS;obtain⟨z,q,hz⟩:=aBy h2;refine⟨z,q,?_,?_⟩
   .rw[Jo hR,hz]
   .have e:(A++x::x'::B).flatMap S=(A.flatMap S++p)++y::z::(q++B.flatMap S):=by simp[aBX,aAH,h,hz]
    rw[e]at hn ⊢;exact Jo hn
  |nil=>
   cases A with
   |nil=>
    obtain⟨z,q,hz⟩:=aBy (hS x sS);refine⟨z,q,?_,?_⟩
    .have e:nx [x] x=x:=GU (z:=x) (Q:=[]) (P:=[]) sS rfl;rw[List.nil_append,e,hz]
    .have e:([]++[x]).flatMap S=z::q:=by simp[hz]
     rw[e]at hn ⊢;exact GU hn (by rw[<- hz,h])
   |cons x' A=>
    obtain⟨z,q,hz⟩:=aBy (hS x' sS);refine⟨z,q,?_,?_⟩
    .have e:nx (x'::A++[x]) x=x':=GU (z:=x') (Q:=A++[x]) (P:=x'::A) (by simpa using hR) sS;rw[e,hz]
    .have e:(x'::A++[x]).flatMap S=z::(q++A.flatMap S++(p++[y])):=by simp[aBX,aAH,h,hz]
     rw[e]at hn ⊢;exact GU (P:=z::(q++A.flatMap S++p)) hn sS
theorem lZ:∀ G:List (List (List Int)),(G.map List.flatten).flatten=G.flatten.flatten
 |[]=>rfl
 |a::G=>by rw[aAm,List.flatten_cons,List.flatten_cons,aBW,lZ G]
noncomputable def fcs(al:Int->Int)(D:List Int)(Rs:List (List Int)):Nat:=ncl (Orb fun d=>sgR Rs (al d)) D
def gC(Rs:List (List Int)):Nat:=(Rs.filter fun t=>decide (t≠[])).length
structure Inv2(al:Int->Int)(D:List Int):Prop where
 two:∀ d,al (al d)=d
 mem:∀ d∈D,al d∈D
section
variable {al:Int->Int} {D:List Int} (hal:Inv2 al D) (M0:∀ d,d∉D->al d=d)
include hal M0
theorem Kf{Rs:List (List Int)}(hn:Rs.flatten.Nodup)(hD:∀ d∈Rs.flatten,d∈D):dB D fun d=>sgR Rs (al d):=by
 have h:=lA hn;refine⟨fun x hx=>?_,fun x y e=>?_,fun x hx=>?_⟩
 .by_cases hy:al x∈Rs.flatten
  .exact hD _ (h.mem _ hy)
  .show sgR Rs (al x)∈D;rw[h.out _ hy];exact hal.mem x hx
 .have:=h.inj _ _ e;rw[<- hal.two x,this,hal.two]
 .show sgR Rs (al x)=x;rw[M0 x hx,h.out x fun k=>hx (hD x k)]
theorem Yw(a b d:Int):Eu.sw a b (al d)=al (Eu.sw (al a) (al b) d):=by
 by_cases h1:d=al a
 .subst h1;rw[DH,hal.two,hal.two,DH]
 .by_cases h2:d=al b
  .subst h2;rw[JK,hal.two,hal.two,JK]
  .rw[sX h1 h2,sX (fun e=>h1 (by rw[<- e,hal.two])) (fun e=>h2 (by rw[<- e,hal.two]))]
omit hal M0 in
theorem pU{Rs Rs':List (List Int)}(hn:Rs.flatten.Nodup)(hp:Rs.Perm Rs'):fcs al D Rs=fcs al D Rs':=by
 unfold fcs;have:(fun d=>sgR Rs (al d))=fun d=>sgR Rs' (al d):=by funext d;exact Qx hn hp _
 rw[this]
omit hal M0 in
theorem nS{Rs Rs':List (List Int)}(hp:Rs.Perm Rs'):gC Rs=gC Rs':=(hp.filter _).length_eq
omit hal M0 in
theorem Ez(Rs:List (List Int)):fcs al D ([]::Rs)=fcs al D Rs:=by
 unfold fcs;have:(fun d=>sgR ([]::Rs) (al d))=fun d=>sgR Rs (al d):=by
  funext d;unfold sgR;rw[aCX sS]
 rw[this]
omit hal M0 in
theorem CX(Rs:List (List Int)):gC ([]::Rs)=gC Rs:=by simp[gC]
theorem XQ{A B:List Int}{Rs:List (List Int)}(hn:(A::B::Rs).flatten.Nodup)(hD:∀ d∈(A::B::Rs).flatten,d∈D):fcs al D (A::B::Rs)+gC ((A++B)::Rs)<=fcs al D ((A++B)::Rs)+gC (A::B::Rs):=by
 by_cases hA:A=[]
 .subst hA;rw[Ez,CX,List.nil_append];exact aAl _
 by_cases hB:B=[]
 .subst hB;have hp:(A::[]::Rs).Perm ([]::A::Rs):=List.Perm.swap _ _ _;rw[pU hn hp,nS hp,Ez,CX,aAS];exact aAl _
 have e:(fun d=>sgR ((A++B)::Rs) (al d))=fun d=>(fun d=>sgR (A::B::Rs) (al d)) (Eu.sw (al (A.getLast hA)) (al (B.getLast hB)) d):=by
  funext d
  show sgR ((A++B)::Rs) (al d)=sgR (A::B::Rs) (al (Eu.sw (al (A.getLast hA)) (al (B.getLast hB)) d));rw[VC hn hA hB,Yw hal M0]
 have hP:=Kf hal M0 hn hD;have ha:al (A.getLast hA)∈D:=hal.mem _ (hD _ sS);have hb:al (B.getLast hB)∈D:=hal.mem _ (hD _ sS);have:=Wq hP ha hb;have h1:fcs al D (A::B::Rs)<=fcs al D ((A++B)::Rs)+1:=by unfold fcs;rw[e];exact this
 have h2:gC (A::B::Rs)=gC Rs+2:=by simp[gC,hA,hB]
 have h3:gC ((A++B)::Rs)=gC Rs+1:=by simp[gC,hA]
 omega
theorem Sq:∀(L:List (List Int)) {Rs:List (List Int)},(L++Rs).flatten.Nodup->(∀ d∈(L++Rs).flatten,d∈D)->fcs al D (L++Rs)+gC (L.flatten::Rs)<=fcs al D (L.flatten::Rs)+gC (L++Rs)
 |[],Rs,_,_=>by rw[List.nil_append,List.flatten_nil,Ez,CX];exact aAl _
 |A::L,Rs,hn,hD=>by have p1:(A::L++Rs).Perm (L++A::Rs):=aBE.symm;have N6:(L++A::Rs).flatten.Nodup:=p1.flatten.nodup_iff.1 hn;have hD1:∀ d∈(L++A::Rs).flatten,d∈D:=fun d hd=>hD d (p1.flatten.mem_iff.2 hd);have ih:=Sq L N6 hD1;have e2:(L.flatten::A::Rs).flatten=(L++A::Rs).flatten:=sS;have p2:(L.flatten::A::Rs).Perm (A::L.flatten::Rs):=List.Perm.swap _ _ _;have O6:(A::L.flatten::Rs).flatten.Nodup:=p2.flatten.nodup_iff.1 (by rw[e2];exact N6);have hD2:∀ d∈(A::L.flatten::Rs).flatten,d∈D:=fun d hd=>hD1 d (by rw[<- e2];exact p2.flatten.mem_iff.2 hd);have m1:=XQ hal M0 O6 hD2;rw[pU hn p1,nS p1,List.flatten_cons];rw[pU (by rw[e2];exact N6) p2,nS p2]at ih;omega
theorem Qq:∀(G:List (List (List Int))) {Rs:List (List Int)},(G.flatten++Rs).flatten.Nodup->(∀ d∈(G.flatten++Rs).flatten,d∈D)->fcs al D (G.flatten++Rs)+gC (G.map List.flatten++Rs)<=fcs al D (G.map List.flatten++Rs)+gC (G.flatten++Rs)
 |[],Rs,_,_=>by simp
 |L::G,Rs,hn,hD=>by
  have e0:(L::G).flatten++Rs=L++(G.flatten++Rs):=sS;rw[e0]at hn hD;have m1:=Sq hal M0 L hn hD;have p1:(L.flatten::(G.flatten++Rs)).Perm (G.flatten++L.flatten::Rs):=aBE.symm;have e1:(L.flatten::(G.flatten++Rs)).flatten=(L++(G.flatten++Rs)).flatten:=sS;have N6:(L.flatten::(G.flatten++Rs)).flatten.Nodup:=by rw[e1];exact hn
  have O6:(G.flatten++L.flatten::Rs).flatten.Nodup:=p1.flatten.nodup_iff.1 N6;have hD2:∀ d∈(G.flatten++L.flatten::Rs).flatten,d∈D:=fun d hd=>hD d (by rw[<- e1];exact p1.flatten.mem_iff.2 hd);have ih:=Qq G O6 hD2;have p2:(G.map List.flatten++L.flatten::Rs).Perm (L.flatten::(G.map List.flatten++Rs)):=aBE;have hf:(G.map List.flatten++L.flatten::Rs).flatten.Perm (G.flatten++L.flatten::Rs).flatten:=by
   have:(G.map List.flatten++L.flatten::Rs).flatten=(G.flatten++L.flatten::Rs).flatten:=by rw[aBW,aBW,lZ]
   rw[this]
  have hn3:(G.map List.flatten++L.flatten::Rs).flatten.Nodup:=hf.nodup_iff.2 O6;rw[pU N6 p1,nS p1]at m1;rw[pU hn3 p2,nS p2]at ih;rw[e0,aAm,List.cons_append];omega
end
theorem LH{x y:Ed}:bes x y=true↔prE x=prE y:=by
 rw[rZ];constructor
 .rintro(⟨h1,h2⟩|⟨h1,h2⟩)
  .show prP _ _=prP _ _;rw[h1,h2]
  .show prP _ _=prP _ _;rw[h1,h2];exact aI _ _
 .intro h;rcases bG h with⟨h1,h2⟩|⟨h1,h2⟩
  .exact .inl ⟨h1,h2⟩
  .exact .inr ⟨h1,h2⟩
theorem pY(l:List Ed):((sE l).map prE).Nodup:=by unfold List.Nodup;rw[aAV];exact(Gx l).imp fun {x y} h e=>by rw[LH.2 e]at h;cases h
theorem IC{l:List Ed}:l.Pairwise (fun x y=>x.id<y.id)->∀ x∈l,∃ y∈sE l,prE y=prE x/\y.id<=x.id:=by
 induction l using yQ with
 |h0=>intro _ x hx;cases hx
 |h1 l z ih=>
  intro hp x hx;rw[aBU]at hp;rw[mK];rcases aAd.1 hx with h|h
  .obtain⟨y,h1,h2⟩:=ih hp.1 x h
   split
   .exact⟨y,h1,h2⟩
   .exact⟨y,aAr _ h1,h2⟩
  .rw[aAk]at h;subst h
   split
   .rename_i ha;rw[List.any_eq_true]at ha;obtain⟨y,h1,h2⟩:=ha;exact⟨y,h1,(LH.1 h2).symm,Int.le_of_lt (hp.2.2 y (jZ _ y h1) x sS)⟩
   .exact⟨x,sS,rfl,aDj _⟩
theorem lP{α β:Type}{f:α->List β}:∀ {l:List α},l.Nodup->(∀ x∈l,(f x).Nodup)->(∀ x∈l,∀ y∈l,∀ z,z∈f x->z∈f y->x=y)->(l.flatMap f).Nodup
 |[],_,_,_=>.nil
 |x::l,hl,h1,h2=>by obtain⟨k1,k2⟩:=aAq.1 hl;rw[aAH,aAo];refine⟨h1 x aAf,lP k2 (fun y hy=>h1 y (aAc _ hy)) fun y hy z hz=>h2 y (aAc _ hy) z (aAc _ hz),?_⟩;rintro a ha b hb rfl;obtain⟨y,hy,hay⟩:=aAY.1 hb;have:=h2 x aAf y (aAc _ hy) a ha hay;exact k1 (by rw[this];exact hy)
theorem Jm{P Q:List Int}{y z:Int}(hn:(P++y::z::Q).Nodup):pv (P++y::z::Q) z=y:=by
 have hk:P.length+1<(P++y::z::Q).length:=sS;have e:(P++y::z::Q)[P.length+1]=z:=by rw[aBB oO];simp
 have hz:z∈P++y::z::Q:=sS;have hi:(P++y::z::Q).idxOf z=P.length+1:=by
  have:=hn.idxOf_getElem (P.length+1) hk
  rwa [e]at this
 unfold pv;rw[aAj hz,hi];have e2:(P.length+1+((P++y::z::Q).length-1)) % (P++y::z::Q).length=P.length:=by have hl:(P++y::z::Q).length=P.length+(Q.length+2):=sS;rw[show P.length+1+((P++y::z::Q).length-1)=P.length+(P++y::z::Q).length by omega,aCG,aAG oO]
 rw[e2,aAg,aBx (aAl _)];simp
abbrev seg(g:Gr)(v x:Int):List Int:=fP (kN g v x) v x
def dAt(v:Int)(e:Ed):Int:=2*e.id+if e.b=v then 1 else 0
theorem jM(v:Int)(e:Ed):dAt v e / 2=e.id:=by unfold dAt;split<;>omega
theorem oH{g:Gr}{v x:Int}{e:Ed}:e∈kN g v x↔e∈g.es/\prE e=prP v x:=by unfold kN jY;rw[aAB,aAR]
theorem kO{g:Gr}{v x d:Int}:d∈seg g v x↔∃ e∈g.es,prE e=prP v x/\d=dAt v e:=by
 unfold seg fP;have key:d∈((kN g v x).map fun e=>2*e.id+if e.b=v then 1 else 0)↔∃ e∈g.es,prE e=prP v x/\d=dAt v e:=by
  rw[aAi];constructor
  .rintro⟨e,he,rfl⟩;exact⟨e,(oH.1 he).1,(oH.1 he).2,rfl⟩
  .rintro⟨e,h1,h2,rfl⟩;exact⟨e,oH.2 ⟨h1,h2⟩,rfl⟩
 split
 .rw[aBm,key]
 .exact key
section
variable {g:Gr} (hg:GoodE g)
include hg
theorem TO{e:Ed}(he:e∈g.es){v x:Int}(h:prE e=prP v x):tw (dAt v e)=dAt x e:=by
 have c7:=hg.ne e he;unfold tw dAt;rcases bG h with⟨h1,h2⟩|⟨h1,h2⟩
 .rw[aAa (show ¬e.b=v by omega),aAj (show e.b=x by omega),aAj oO];omega
 .rw[aAj (show e.b=v by omega),aAa (show ¬e.b=x by omega),aAa oO];omega
theorem Qp{e f:Ed}(he:e∈g.es)(hf:f∈g.es)(h:e.id=f.id):e=f:=id_eq hg.ids he hf h
theorem nQ(v x:Int):(seg g v x).Nodup:=by
 have key:((kN g v x).map fun e=>2*e.id+if e.b=v then 1 else 0).Nodup:=by unfold List.Nodup;rw[aAV];refine(hg.ids.sublist (aBo (p:=fun e=>decide (prE e=prP v x)))).imp fun {a b} h e=>?_;have h1:=jM v a;have h2:=jM v b;unfold dAt at h1 h2;omega
 unfold seg fP
 split
 .exact(aBq _).nodup_iff.2 key
 .exact key
theorem Xl{v x:Int}(c7:v≠x):seg g x v=((seg g v x).map tw).reverse:=by
 have hb:kN g x v=kN g v x:=by unfold kN;rw[aI]
 have key:((kN g v x).map fun e=>2*e.id+if e.b=x then 1 else 0)=((kN g v x).map fun e=>2*e.id+if e.b=v then 1 else 0).map tw:=by rw[aAW];refine aAQ fun e he=>?_;exact(TO hg (oH.1 he).1 (oH.1 he).2).symm
 unfold seg fP;rw[hb,key];by_cases h:x<v
 .rw[aAa oO,aAj h,List.map_reverse,aCI]
 .rw[aAj oO,aAa h]
def edD(g:Gr)(d:Int):Ed:=(g.es.find? fun e=>decide (e.id=d / 2)).getD ed0
def dvt(g:Gr)(d:Int):Int:=if d % 2=0 then(edD g d).a else(edD g d).b
def dot(g:Gr)(d:Int):Int:=if d % 2=0 then(edD g d).b else(edD g d).a
theorem YI{e:Ed}(he:e∈g.es){d:Int}(h:d / 2=e.id):edD g d=e:=by
 unfold edD;cases hf:g.es.find? fun e=>decide (e.id=d / 2) with
 |none=>exact absurd h.symm (by simpa using aCT.1 hf e he)
 |some f=>have h1:=aBY hf;have h2:=aCS hf;rw[aAR]at h2;show f=e;exact Qp hg h1 he oO
theorem TS{e:Ed}(he:e∈g.es){v x:Int}(h:prE e=prP v x):dvt g (dAt v e)=v/\dot g (dAt v e)=x:=by
 have c7:=hg.ne e he;unfold dvt dot;rw[YI hg he (jM v e)];unfold dAt;rcases bG h with⟨h1,h2⟩|⟨h1,h2⟩
 .rw[aAa (show ¬e.b=v by omega),aAj oO,aAj oO];exact⟨h1,h2⟩
 .rw[aAj (show e.b=v by omega),aAa oO,aAa oO];exact⟨h2,h1⟩
theorem yM{v x d:Int}(h:d∈seg g v x):dvt g d=v/\dot g d=x:=by obtain⟨e,he,hp,rfl⟩:=kO.1 h;exact TS hg he hp
theorem RQ{d:Int}(h:d∈aL g.es):∃ e∈g.es,prE e=prP (dvt g d) (dot g d)/\d=dAt (dvt g d) e/\d∈seg g (dvt g d) (dot g d):=by
 obtain⟨e,he,hd⟩:=cZ.1 h;have c7:=hg.ne e he;have key:∀ v x,prE e=prP v x->d=dAt v e->∃ e∈g.es,prE e=prP (dvt g d) (dot g d)/\d=dAt (dvt g d) e/\d∈seg g (dvt g d) (dot g d):=fun v x hp hd=>by obtain⟨k1,k2⟩:=TS hg he hp;rw[<- hd]at k1 k2;rw[k1,k2];exact⟨e,he,hp,hd,kO.2 ⟨e,he,hp,hd⟩⟩
 rcases hd with hd|hd
 .exact key e.a e.b rfl (by unfold dAt;rw[aAa (fun k=>c7 k.symm)];omega)
 .exact key e.b e.a (aI _ _) (by unfold dAt;rw[aAj rfl];exact hd)
theorem HJ{v x d:Int}(h:d∈seg g v x):d∈aL g.es:=by obtain⟨e,he,hp,rfl⟩:=kO.1 h;exact gB.2 ⟨e,he,(jM _ _).symm⟩
theorem Rl{v d:Int}:d∈ends g.es v↔∃ e∈g.es,(∃ x,prE e=prP v x)/\d=dAt v e:=by
 rw[cP];constructor
 .rintro⟨e,he,⟨h1,h2⟩|⟨h1,h2⟩⟩
  .have:=hg.ne e he;exact⟨e,he,⟨e.b,by rw[<- h1]⟩,by unfold dAt;rw[aAa oO];omega⟩
  .exact⟨e,he,⟨e.a,by rw[<- h1];exact aI _ _⟩,by unfold dAt;rw[aAj h1];exact h2⟩
 .rintro⟨e,he,⟨x,hp⟩,rfl⟩;have:=hg.ne e he;refine⟨e,he,?_⟩;unfold dAt;rcases bG hp with⟨h1,h2⟩|⟨h1,h2⟩
  .exact .inl ⟨h1,by rw[aAa oO];omega⟩
  .exact .inr ⟨h2,by rw[aAj h2]⟩
end
def bt(g:Gr)(F:List (List Int))(v:Int):List Int:=(bX (dH v (aT F))).flatMap (seg g v)
theorem EN(v v':Int)(ds:List Int):∀ T:TL,eD v (pL v' ds T)=if v=v' then eD v T++ds else eD v T
 |[]=>by
  unfold pL eD eD;by_cases h:v=v'
  .simp[h]
  .rw[aAa fun e=>h e.symm,aAa h]
 |p::T=>by
  have ih:=EN v v' ds T;unfold pL;by_cases hp:p.1=v'
  .rw[aAj hp];by_cases h:v=v'
   .simp[eD,h,hp]
   .simp only[eD,aAa h,aAa (fun e:v'=v=>h e.symm),aAa (fun e:p.1=v=>h (by rw[<- e,hp]))]
  .rw[aAa hp];by_cases h:v=v'
   .rw[aAj h]at ih ⊢;simp only[eD,aAa (fun e:p.1=v=>hp (by rw[e,h])),ih]
   .rw[aAa h]at ih ⊢;simp only[eD,ih]
theorem Am(g:Gr)(v v':Int):∀(L:List Int) (T:TL),eD v (dW g v' L T)=if v=v' then eD v T++L.flatMap (seg g v')else eD v T
 |[],T=>by simp[dW]
 |x::L,T=>by
  have ih:=Am g v v' L (pL v' (seg g v' x) T);have e:dW g v' (x::L) T=dW g v' L (pL v' (seg g v' x) T):=rfl;rw[e,ih,EN];by_cases h:v=v'
  .simp[h,aAH]
  .simp[h]
theorem BH(g:Gr)(A:Tn)(v:Int):∀(K:List Int) (T:TL),K.Nodup->eD v (fN g A K T)=if v∈K then eD v T++(bX (dH v A)).flatMap (seg g v)else eD v T
 |[],T,_=>by simp[fN]
 |k::K,T,hn=>by
  obtain⟨h1,h2⟩:=aAq.1 hn;have ih:=BH g A v K (dW g k (bX (dH k A)) T) h2;have e:fN g A (k::K) T=fN g A K (dW g k (bX (dH k A)) T):=rfl;rw[e,ih,Am];by_cases h:v=k
  .subst h;rw[aAa h1,aAj rfl,aAj aAf]
  .rw[aAa h];by_cases h3:v∈K
   .rw[aAj h3,aAj (aAc _ h3)]
   .rw[aAa h3,aAa (sF2 h h3)]
theorem ER{v:Int}:∀ {A:Tn},v∉A.map (·.1)->dH v A=[]
 |[],_=>rfl
 |a::A,h=>by rw[aAm,aAe,aCx]at h;unfold dH;rw[aAa fun e=>h.1 e.symm,ER h.2]
theorem nU:bX []=[]:=rfl
theorem Nh(g:Gr)(F:List (List Int))(T:TL)(v:Int):eD v (vA g F T)=eD v T++bt g F v:=by
 have hn:(qA ((aT F).map (·.1))).Nodup:=(zR _).imp fun k=>by omega
 unfold vA;rw[BH g _ v _ T hn]
 split
 .rfl
 .rename_i h;rw[qZ]at h;unfold bt;rw[ER h,nU];simp
theorem Ao(g:Gr):∀(bl:List (List Ed)) (T T':TL),zI g bl T=some (some T')->∃ Bs:List (List Ed×List (List Int)),Bs.map (·.1)=bl/\(∀ p∈Bs,rO p.1=some (some p.2))/\∀ v,eD v T'=eD v T++Bs.flatMap fun p=>bt g p.2 v
 |[],T,T',h=>by
  simp only[zI,aAb]at h;subst h;refine⟨[],?_,?_,?_⟩
  .rfl
  .intro p hp;cases hp
  .intro v;simp
 |l::bl,T,T',h=>by
  unfold zI at h;cases hd:rO l with
  |none=>rw[hd]at h;simp at h
  |some o=>
   rw[hd]at h;cases o with
   |none=>simp at h
   |some F=>
    simp only[Option.bind_some]at h
    split at h
    .obtain⟨Bs,h1,h2,h3⟩:=Ao g bl _ T' h;refine⟨(l,F)::Bs,by rw[aAm,h1],fun p hp=>?_,fun v=>?_⟩
     .rcases aAe.1 hp with rfl|hp
      .exact hd
      .exact h2 p hp
     .rw[h3,Nh,aAH,aAF]
    .cases h
abbrev BsT:=List (List Ed×List (List Int))
structure Sys(g:Gr)(Bs:BsT):Prop where
 gE:GoodE g
 ok:∀ p∈Bs,jQ p.1 p.2/\BlE p.1/\p.1≠[]
 flat:(Bs.flatMap (·.1)).Perm (sE g.es)
theorem Ah{α β:Type}{f:α->List β}:∀ {l:List α},(l.flatMap f).Nodup->∀ x∈l,∀ y∈l,∀ z,z∈f x->z∈f y->x=y
 |[],_,_,hx,_,_,_,_,_=>by cases hx
 |a::l,hn,x,hx,y,hy,z,h1,h2=>by
  rw[aAH,aAo]at hn;rcases aAe.1 hx with ex|hx
  .rcases aAe.1 hy with ey|hy
   .rw[ex,ey]
   .exact absurd rfl (hn.2.2 z (by rw[<- ex];exact h1) z (aAY.2 ⟨y,hy,h2⟩))
  .rcases aAe.1 hy with ey|hy
   .exact absurd rfl (hn.2.2 z (by rw[<- ey];exact h2) z (aAY.2 ⟨x,hx,h1⟩))
   .exact Ah hn.2.1 x hx y hy z h1 h2
theorem Ph{α β:Type}{f:α->List β}:∀ {l:List α},(l.flatMap f).Nodup->(∀ x∈l,f x≠[])->l.Nodup/\∀ x∈l,(f x).Nodup
 |[],_,_=>⟨.nil,fun _ h=>by cases h⟩
 |a::l,hn,h=>by
  rw[aAH,aAo]at hn;obtain⟨k1,k2⟩:=Ph hn.2.1 fun x hx=>h x (aAc _ hx);refine⟨aAq.2 ⟨fun ha=>?_,k1⟩,fun x hx=>?_⟩
  .obtain⟨z,hz⟩:=aAP _ (h a aAf);exact hn.2.2 z hz z (aAY.2 ⟨a,ha,hz⟩) rfl
  .rcases aAe.1 hx with rfl|hx
   .exact hn.1
   .exact k2 x hx
theorem oP{E:List Ed}{F:List (List Int)}(hO:jQ E F)(hE:BlE E){v:Int}(hv:v∉vsF E):dH v (aT F)=[]:=by
 have hk:=(hO.keys hE v).2;cases h:dH v (aT F) with
 |nil=>rfl
 |cons p P=>rw[h]at hk;obtain⟨e,he,hp⟩:=(hO.mem p.1 v).1 ((hk p.1).1 sS);exact absurd (fR he hp).2 hv
def rgO(Bs:BsT)(p:Int×Int):List (Int×Int):=match(Bs.flatMap (·.2)).find? (fun r=>decide (p∈prs r)) with
 |some r=>prs r
 |none=>[]
def lab(g:Gr)(Bs:BsT)(d:Int):List (Int×Int) ⊕ Int:=
 if(seg g (dvt g d) (dot g d)).head?=some d then .inl (rgO Bs (dvt g d,dot g d))else .inr (max (d / 2) (pv (seg g (dvt g d) (dot g d)) d / 2))
def grp(g:Gr)(Bs:BsT):List (List (List Int)):=g.vs.map fun v=>Bs.map fun p=>bt g p.2 v
def kJ(g:Gr)(Bs:BsT)(v:Int):List Int:=Bs.flatMap fun p=>bt g p.2 v
theorem HS(g:Gr)(Bs:BsT):(grp g Bs).map List.flatten=g.vs.map (kJ g Bs):=by unfold grp kJ;rw[aAW];exact aAQ fun v _=>by rw[Function.comp_apply,List.flatMap_def]
section
variable {g:Gr} {Bs:BsT} (hS:Sys g Bs)
include hS
theorem Sys.sim:(Bs.flatMap fun p=>p.1.map prE).Nodup:=by
 have:=(hS.flat.map prE).nodup_iff.2 (pY g.es)
 rwa [aEd]at this
theorem Sys.nd:Bs.Nodup:=(Ph hS.sim fun p hp=>by rw[Ne,aCN];exact(hS.ok p hp).2.2).1
theorem Sys.same{p p':List Ed×List (List Int)}(hp:p∈Bs)(U5:p'∈Bs){e e':Ed}(he:e∈p.1)(he':e'∈p'.1)(h:prE e=prE e'):p=p':=
 Ah hS.sim p hp p' U5 (prE e) (aAt he) (by rw[h];exact aAt he')
theorem Sys.blk{e:Ed}(he:e∈g.es):∃ p∈Bs,∃ e1∈p.1,prE e1=prE e:=by obtain⟨y,h1,h2,_⟩:=IC hS.gE.ids e he;obtain⟨p,hp,hy⟩:=aAY.1 (hS.flat.mem_iff.2 h1);exact⟨p,hp,y,hy,h2⟩
theorem Sys.sub{p:List Ed×List (List Int)}(hp:p∈Bs){e:Ed}(he:e∈p.1):e∈sE g.es/\e∈g.es:=by have:=hS.flat.mem_iff.1 (aAY.2 ⟨p,hp,he⟩);exact⟨this,jZ _ _ this⟩
theorem Sys.bt_mem{p:List Ed×List (List Int)}(hp:p∈Bs){v d:Int}:d∈bt g p.2 v↔∃ e∈g.es,(∃ x,prE e=prP v x)/\d=dAt v e/\∃ e1∈p.1,prE e1=prE e:=by
 obtain⟨hO,hE,h0⟩:=hS.ok p hp;by_cases hv:v∈vsF p.1
 .have hR:=(hO.round hE h0 hv).2.2.1;unfold bt;rw[aAY];constructor
  .rintro⟨x,hx,hd⟩;obtain⟨e,he,S4,rfl⟩:=kO.1 hd;obtain⟨e1,Z8,T7⟩:=(hR x).1 hx;exact⟨e,he,⟨x,S4⟩,rfl,e1,Z8,by rw[T7,S4]⟩
  .rintro⟨e,he,⟨x,S4⟩,rfl,e1,Z8,T7⟩;exact⟨x,(hR x).2 ⟨e1,Z8,by rw[T7,S4]⟩,kO.2 ⟨e,he,S4,rfl⟩⟩
 .unfold bt;rw[oP hO hE hv,nU];simp only[aDh,aCd,false_iff];rintro⟨e,he,⟨x,S4⟩,_,e1,Z8,T7⟩;exact hv (fR Z8 (by rw[T7,S4])).1
theorem Sys.bt_nodup{p:List Ed×List (List Int)}(hp:p∈Bs)(v:Int):(bt g p.2 v).Nodup:=by
 obtain⟨hO,hE,h0⟩:=hS.ok p hp;unfold bt;by_cases hv:v∈vsF p.1
 .refine lP (hO.round hE h0 hv).1 (fun x _=>nQ hS.gE v x) fun x _ y _ d h1 h2=>?_;rw[<- (yM hS.gE h1).2,(yM hS.gE h2).2]
 .rw[oP hO hE hv,nU];exact .nil
theorem Sys.turn_nodup(v:Int):(kJ g Bs v).Nodup:=by refine lP hS.nd (fun p hp=>hS.bt_nodup hp v) fun p hp p' U5 d h1 h2=>?_;obtain⟨e,he,_,k1,e1,a1,a2⟩:=(hS.bt_mem hp).1 h1;obtain⟨f,hf,_,k2,f1,b1,b2⟩:=(hS.bt_mem U5).1 h2;have:e=f:=Qp hS.gE he hf (by rw[<- jM v e,<- k1,k2,jM]);subst this;exact hS.same hp U5 a1 b1 (by rw[a2,b2])
theorem Sys.turn_mem{v d:Int}:d∈kJ g Bs v↔d∈ends g.es v:=by
 unfold kJ;rw[Rl hS.gE,aAY];constructor
 .rintro⟨p,hp,h⟩;obtain⟨e,he,hx,hd,_⟩:=(hS.bt_mem hp).1 h;exact⟨e,he,hx,hd⟩
 .rintro⟨e,he,hx,hd⟩;obtain⟨p,hp,e1,h1,h2⟩:=hS.blk he;exact⟨p,hp,(hS.bt_mem hp).2 ⟨e,he,hx,hd,e1,h1,h2⟩⟩
theorem Sys.turn_perm(v:Int):(kJ g Bs v).Perm (ends g.es v):=
 (aAZ (hS.turn_nodup v) (gD (wT hS.gE.ids v))).2 fun _=>hS.turn_mem
theorem Sys.grp_ff:(grp g Bs).flatten.flatten=g.vs.flatMap (kJ g Bs):=by rw[<- lZ,HS,List.flatMap_def]
theorem Sys.grp_nd:(grp g Bs).flatten.flatten.Nodup:=by rw[hS.grp_ff];refine lP hS.gE.toGood.nodup (fun v _=>hS.turn_nodup v) fun v _ w _ d h1 h2=>?_;exact dL hS.gE.ids (hS.turn_mem.1 h1) (hS.turn_mem.1 h2)
theorem Sys.grp_mem{d:Int}:d∈(grp g Bs).flatten.flatten↔d∈aL g.es:=by
 rw[hS.grp_ff,aAY];constructor
 .rintro⟨v,_,h⟩;exact nP (hS.turn_mem.1 h)
 .intro h;obtain⟨v,h1,x,hx,_,h2⟩:=GL h;have:=hS.gE.ends x hx;exact⟨v,by rcases h2 with rfl|rfl;(· exact this.1);(· exact this.2),hS.turn_mem.2 h1⟩
theorem Sys.ring_at{p:List Ed×List (List Int)}(hp:p∈Bs){r:List Int}(hr:r∈p.2){q:Int×Int}(hq:q∈prs r):rgO Bs q=prs r:=by
 unfold rgO;cases hf:(Bs.flatMap (·.2)).find? fun r=>decide (q∈prs r) with
 |none=>exact absurd hq (by simpa using aCT.1 hf r (aAY.2 ⟨p,hp,hr⟩))
 |some r'=>have h1:=aBY hf;have h2:=aCS hf;rw[aAR]at h2;obtain⟨p',U5,T0⟩:=aAY.1 h1;obtain⟨e,he,k⟩:=((hS.ok p hp).1.mem q.1 q.2).1 (aX.2 ⟨r,hr,hq⟩);obtain⟨e',he',k'⟩:=((hS.ok p' U5).1.mem q.1 q.2).1 (aX.2 ⟨r',T0,h2⟩);have:=hS.same hp U5 he he' (by rw[k,k']);subst this;have:=Ah (f:=prs) (hS.ok p hp).1.nd r hr r' T0 q hq h2;rw[this]
theorem Sys.lab_inv{d:Int}(hd:d∈aL g.es):lab g Bs (sgR (grp g Bs).flatten (al g.es d))=lab g Bs d:=by
 have hg:=hS.gE;rw[BG hd];obtain⟨e,he,S4,hde,hds⟩:=RQ hg hd;have hlab:lab g Bs d=if(seg g (dvt g d) (dot g d)).head?=some d then .inl (rgO Bs (dvt g d,dot g d))else .inr (max (d / 2) (pv (seg g (dvt g d) (dot g d)) d / 2)):=rfl
 rw[hlab];generalize dvt g d=v at *;generalize dot g d=x at *;obtain⟨p,hp,e1,Z8,T7⟩:=hS.blk he;obtain⟨hO,hE,h0⟩:=hS.ok p hp;have hxv:prE e1=prP x v:=by rw[T7,S4];exact aI _ _
 have hx:=(fR Z8 hxv).1;obtain⟨r1,r2,r3,r4⟩:=hO.round hE h0 hx;have hvR:=(r3 v).2 ⟨e1,Z8,hxv⟩;have c7:v≠x:=fun k=>by have:=hg.ne e he;rcases bG S4 with⟨k1,k2⟩|⟨k1,k2⟩<;>omega
 have htw:tw d∈seg g x v:=kO.2 ⟨e,he,by rw[S4];exact aI _ _,by rw[hde];exact TO hg he S4⟩;have hxg:x∈g.vs:=by
  have:=hg.ends e he;rcases bG S4 with⟨_,k2⟩|⟨k1,_⟩
  .rw[<- k2];exact this.2
  .rw[<- k1];exact this.1
 have Tf:bt g p.2 x∈(grp g Bs).flatten:=aAT.2 ⟨_,aAt (f:=fun v=>Bs.map fun p=>bt g p.2 v) hxg,aAt (f:=fun p:List Ed×List (List Int)=>bt g p.2 x) hp⟩;have htr:tw d∈bt g p.2 x:=by unfold bt;exact aAY.2 ⟨v,hvR,htw⟩
 rw[gA hS.grp_nd Tf htr];have hbn:=hS.bt_nodup hp x;have hseg:∀ y∈bX (dH x (aT p.2)),seg g x y≠[]:=fun y hy=>by obtain⟨f,hf,hpf⟩:=(r3 y).1 hy;exact aBr (kO.2 ⟨f,(hS.sub hp hf).2,hpf,rfl⟩)
 obtain⟨n1,n2⟩:=Xf r1 hbn hseg hvR;have hLn:=nQ hg v x;have hLn':=nQ hg x v;obtain⟨P,Q,hL⟩:=aBb hds;have hL':seg g x v=(Q.map tw).reverse++tw d::(P.map tw).reverse:=by rw[Xl hg c7,hL];simp
 show lab g Bs (nx (bt g p.2 x) (tw d))=_;rcases aDa P with hP|⟨P',y,hP⟩
 .subst hP;rw[aCL,List.reverse_nil]at hL';obtain⟨z,q,hz,hzz⟩:=n2 _ _ hL';have hw:=(r4 v hvR);have hz0:nx (bt g p.2 x) (tw d)=z:=hzz;rw[hz0,aAj (by rw[hL];rfl)];have hzs:z∈seg g x (nx (bX (dH x (aT p.2))) v):=by rw[hz];exact aAf
  obtain⟨z1,z2⟩:=yM hg hzs;unfold lab;rw[z1,z2,hz,aAj (show(z::q).head?=some z from rfl)];obtain⟨r,hr,k1,k2⟩:=hw;rw[hS.ring_at hp hr k1,hS.ring_at hp hr k2]
 .rw[hP,aDb,aAF,List.singleton_append]at hL;have hL2:seg g x v=(Q.map tw).reverse++tw d::tw y::(P'.map tw).reverse:=by rw[hL',hP];simp
  have hz0:nx (bt g p.2 x) (tw d)=tw y:=n1 _ _ _ _ hL2;rw[hz0];have hys:tw y∈seg g x v:=by rw[hL2];simp
  obtain⟨z1,z2⟩:=yM hg hys;have h1:¬(seg g v x).head?=some d:=by
   rw[hL]at hLn ⊢;intro k;cases P' with
   |nil=>simp at k;subst k;simp at hLn
   |cons a P'=>simp at k;subst k;simp at hLn
  have h2:¬(seg g x v).head?=some (tw y):=by
   rw[hL2]at hLn' ⊢;intro k;cases hQ:(Q.map tw).reverse with
   |nil=>rw[hQ]at k hLn';simp at k;rw[k]at hLn';simp at hLn'
   |cons a Q'=>rw[hQ]at k hLn';simp at k;rw[k]at hLn';simp at hLn'
  rw[aAa h1];unfold lab;rw[z1,z2,aAa h2];have p1:pv (seg g v x) d=y:=by rw[hL];rw[hL]at hLn;exact Jm hLn
  have p2:pv (seg g x v) (tw y)=tw d:=by rw[hL2];rw[hL2]at hLn';exact Jm hLn'
  rw[p1,p2,Fv,Fv,Int.max_comm]
theorem Sys.faces:(Bs.flatMap (·.2)).length+(g.es.length-(sE g.es).length)<=fcs (al g.es) (aL g.es) (grp g Bs).flatten:=by
 have hg:=hS.gE;let X1:List (List (Int×Int) ⊕ Int):=(Bs.flatMap (·.2)).map fun r=>.inl (prs r);let X2:List (List (Int×Int) ⊕ Int):=(g.es.filter fun e=>!decide (e∈sE g.es)).map fun e=>.inr e.id;have hlen:(X1++X2).length=(Bs.flatMap (·.2)).length+(g.es.length-(sE g.es).length):=by
  have hn:g.es.Nodup:=hg.ids.imp fun {a b} h e=>by rw[e]at h;omega
  have h1:(g.es.filter fun e=>decide (e∈sE g.es)).length+(g.es.filter fun e=>!decide (e∈sE g.es)).length=g.es.length:=by
   have:∀ l:List Ed,(l.filter fun e=>decide (e∈sE g.es)).length+(l.filter fun e=>!decide (e∈sE g.es)).length=l.length:=by
    intro l;induction l with
    |nil=>rfl
    |cons a l ih=>by_cases h:a∈sE g.es<;>simp[h]at ih ⊢<;>omega
   exact this _
  have h2:(g.es.filter fun e=>decide (e∈sE g.es)).length=(sE g.es).length:=by
   refine((aAZ (hn.sublist aBo) ?_).2 fun e=>?_).length_eq
   .have:=pY g.es;exact(aAV.1 this).imp fun {a b} h e=>h (by rw[e])
   .rw[aAB,aAR];exact⟨And.right,fun h=>⟨jZ _ _ h,h⟩⟩
  rw[aAn,aAD,aAD];omega
 rw[<- hlen];unfold fcs;have L8:∀ d,d∈aL g.es->lab g Bs (sgR (grp g Bs).flatten (al g.es d))=lab g Bs d:=fun d hd=>hS.lab_inv hd;have j5:∀ d,d∈aL g.es->sgR (grp g Bs).flatten (al g.es d)∈aL g.es:=fun d hd=>by have h1:al g.es d∈aL g.es:=(Ea _ _ _).2 hd;exact hS.grp_mem.1 ((lA hS.grp_nd).mem _ (hS.grp_mem.2 h1))
 refine oC (lab g Bs) (fun x hx y _ ho=>?_) (X1++X2) ?_ fun a ha=>?_
 .have key:∀ n,it (fun d=>sgR (grp g Bs).flatten (al g.es d)) n x∈aL g.es/\lab g Bs (it (fun d=>sgR (grp g Bs).flatten (al g.es d)) n x)=lab g Bs x:=by
   intro n;induction n with
   |zero=>exact⟨hx,rfl⟩
   |succ n ih=>rw[bT];exact⟨j5 _ ih.1,by rw[L8 _ ih.1,ih.2]⟩
  obtain⟨n,hn⟩:=ho;rw[<- hn];exact(key n).2.symm
 .refine aAo.2 ⟨?_,?_,?_⟩
  ·
   have hpf:((Bs.flatMap (·.2)).flatMap prs).Nodup:=by rw[List.flatMap_assoc];refine lP hS.nd (fun p hp=>(hS.ok p hp).1.nd) fun p hp p' U5 q h1 h2=>?_;obtain⟨e,he,k⟩:=((hS.ok p hp).1.mem q.1 q.2).1 h1;obtain⟨e',he',k'⟩:=((hS.ok p' U5).1.mem q.1 q.2).1 h2;exact hS.same hp U5 he he' (by rw[k,k'])
   have c7:∀ r∈Bs.flatMap (·.2),prs r≠[]:=fun r hr e=>by obtain⟨p,hp,hr⟩:=aAY.1 hr;have h1:=(hS.ok p hp).1.ne r hr;have h2:=oZ r;rw[e]at h2;exact h1 (aBt.1 h2.symm)
   have hnd:=(Ph hpf c7).1;show(List.map _ _).Nodup;unfold List.Nodup;rw[aAV];refine hnd.imp_of_mem fun {r r'} hr T0 hrr e=>hrr ?_;injection e with e;obtain⟨z,hz⟩:=aAP _ (c7 r hr);exact Ah hpf r hr r' T0 z hz (by rw[<- e];exact hz)
  .show(List.map _ _).Nodup;unfold List.Nodup;rw[aAV];refine(hg.ids.sublist aBo).imp fun {a b} h e=>?_;injection e with e;omega
  .rintro a h1 b h2 rfl;obtain⟨r,_,k1⟩:=aAi.1 h1;obtain⟨e,_,k2⟩:=aAi.1 h2;rw[<- k1]at k2;cases k2
 .rcases aAd.1 ha with ha|ha
  .obtain⟨r,hr,rfl⟩:=aAi.1 ha;obtain⟨p,hp,hr⟩:=aAY.1 hr;obtain⟨hO,hE,h0⟩:=hS.ok p hp;obtain⟨v,hv⟩:=aAP _ (hO.ne r hr);obtain⟨x,hx⟩:=iH hv;obtain⟨e1,Z8,T7⟩:=(hO.mem v x).1 (aX.2 ⟨r,hr,hx⟩);have hs:seg g v x≠[]:=aBr (kO.2 ⟨e1,(hS.sub hp Z8).2,T7,rfl⟩);obtain⟨d,q,hd⟩:=aBy hs;have hds:d∈seg g v x:=by rw[hd];exact aAf
   obtain⟨k1,k2⟩:=yM hg hds;refine⟨d,HJ hg hds,?_⟩;unfold lab;rw[k1,k2,hd,aAj (show(d::q).head?=some d from rfl),hS.ring_at hp hr hx]
  .obtain⟨e,he,rfl⟩:=aAi.1 ha;rw[aAB]at he;obtain⟨he,x9⟩:=he;have x9:e∉sE g.es:=by simpa using x9
   obtain⟨f,hf,hpf,u7⟩:=IC hg.ids e he;have hfe:f≠e:=fun k=>x9 (by rw[<- k];exact hf);have hfg:=jZ _ _ hf;have dA:f.id<e.id:=by
    rcases Int.lt_or_eq_of_le u7 with h|h
    .exact h
    .exact absurd (Qp hg hfg he h) hfe
   obtain⟨v,x,hvx,S4⟩:∃ v x,v<x/\prE e=prP v x:=by
    have:=hg.ne e he;rcases Int.lt_or_gt_of_ne this with h|h
    .exact⟨e.a,e.b,h,rfl⟩
    .exact⟨e.b,e.a,h,aI _ _⟩
   have hseg:seg g v x=(kN g v x).map (dAt v):=by unfold seg fP;rw[aAa oO];rfl
   have heb:e∈kN g v x:=oH.2 ⟨he,S4⟩;have hfb:f∈kN g v x:=oH.2 ⟨hfg,by rw[hpf,S4]⟩;have hrise:(kN g v x).Pairwise fun a b=>a.id<b.id:=hg.ids.sublist aBo;obtain⟨A,B,hAB⟩:=aBb heb;have hfA:f∈A:=by
    rw[hAB]at hfb hrise;rcases aAd.1 hfb with h|h
    .exact h
    .rcases aAe.1 h with h|h
     .exact absurd h hfe
     .have:=(aBf.1 (aBU.1 hrise).2.1).1 f h;omega
   rcases aDa A with hA|⟨A',y,hA⟩
   .rw[hA]at hfA;cases hfA
   rw[aDb]at hA;have hL:seg g v x=A'.map (dAt v)++dAt v y::dAt v e::B.map (dAt v):=by rw[hseg,hAB,hA];simp
   have hLn:=nQ hg v x;have hye:y.id<e.id:=by rw[hAB,hA]at hrise;exact(aBU.1 hrise).2.2 y sS e sS
   have hds:dAt v e∈seg g v x:=by rw[hL];simp
   obtain⟨k1,k2⟩:=yM hg hds;refine⟨dAt v e,HJ hg hds,?_⟩;unfold lab;rw[k1,k2,aAa,show pv (seg g v x) (dAt v e)=dAt v y by rw[hL];rw[hL]at hLn;exact Jm hLn,jM,jM,Int.max_eq_left oO];rw[hL]at hLn ⊢;intro k;cases A' with
   |nil=>simp at k;rw[k]at hLn;simp at hLn
   |cons a A'=>simp at k;rw[aAm,k]at hLn;simp at hLn
end
def oth(x:Ed)(v:Int):Int:=if x.a=v then x.b else x.a
abbrev eAt(es:List Ed)(i:Nat):Ed:=es.getD i ed0
def atP(es:List Ed)(v:Int):List Nat:=(List.range es.length).filter fun i=>decide ((eAt es i).a=v\/(eAt es i).b=v)
structure Bw where
 vis:List Int
 low:List Int
 stk:List Nat
 out:List (List Nat)
def nmW(V:List Int)(v:Int):Int:=if v∈V then(V.idxOf v:Int)+1 else 0
def lwW(s:Bw)(v:Int):Int:=s.low.getD (s.vis.idxOf v) 0
def nG(s:Bw)(v x:Int):Bw:={ s with low:=s.low.set (s.vis.idxOf v) x }
def eN(s:Bw)(i:Nat):Bw:={ s with stk:=s.stk++[i] }
def jS(l:List Nat)(i:Nat):Nat:=l.length-1-l.reverse.idxOf i
def tQ(n:Nat)(seg:List Nat):List Nat:=(List.range n).filter fun i=>decide (i∈seg)
def Hu(n:Nat)(s:Bw)(i:Nat):Option Bw:=if i∈s.stk then some { s with stk:=s.stk.take (jS s.stk i),out:=s.out++[tQ n (s.stk.drop (jS s.stk i))] } else none
def goB(f:Bw->Nat->Option Bw):List Nat->Bw->Option Bw
 |[],s=>some s
 |i::l,s=>(f s i).bind (goB f l)
def OA(n:Nat)(v mine:Int)(i:Nat)(u:Int)(s1:Bw):Option Bw:=
 if mine<=lwW s1 u then Hu n (nG s1 v (min (lwW s1 v) (lwW s1 u))) i else some (nG s1 v (min (lwW s1 v) (lwW s1 u)))
def hU(rec:Int->Int->Bw->Option Bw)(es:List Ed)(v z8 mine:Int)(s:Bw)(i:Nat):Option Bw:=
 if(i:Int)=z8 then some s
 else if oth (eAt es i) v∈s.vis then
  (if nmW s.vis (oth (eAt es i) v)<mine then some (nG (eN s i) v (min (lwW s v) (nmW s.vis (oth (eAt es i) v))))else some s)
 else(rec (oth (eAt es i) v) i (eN s i)).bind (OA es.length v mine i (oth (eAt es i) v))
def pM(s:Bw)(v:Int):Bw:={ s with vis:=s.vis++[v],low:=s.low++[(s.vis.length:Int)+1] }
def oU(es:List Ed):Nat->Int->Int->Bw->Option Bw
 |0,_,_,_=>none
 |n+1,v,z8,s=>goB (hU (oU es n) es v z8 ((s.vis.length:Int)+1)) (atP es v) (pM s v)
def uC(es:List Ed)(n:Nat):List Int->Bw->Option Bw
 |[],s=>some s
 |v::l,s=>if v∈s.vis then uC es n l s else(oU es n v (-1) s).bind (uC es n l)
inductive RIn(es:List Ed)(S:Int->Prop)(x:Int):Int->Prop
 |refl (h:S x):RIn es S x x
 |step {y z:Int} (h:RIn es S x y) (hz:z∈nbr es y) (hs:S z):RIn es S x z
theorem RIn.here{es:List Ed}{S:Int->Prop}{x y:Int}(h:RIn es S x y):S x/\S y:=by
 induction h with
 |refl h=>grind
 |step _ _ hs ih=>grind
theorem RIn.trans{es:List Ed}{S:Int->Prop}{x y z:Int}(h:RIn es S x y)(k:RIn es S y z):RIn es S x z:=by
 induction k with
 |refl=>exact h
 |step _ hz hs ih=>exact .step ih hz hs
theorem RIn.symm{es:List Ed}{S:Int->Prop}{x y:Int}(h:RIn es S x y):RIn es S y x:=by
 induction h with
 |refl h=>exact .refl h
 |step h hz hs ih=>exact(RIn.step (.refl hs) (nV hz) h.here.2).trans ih
theorem RIn.mono{es:List Ed}{S S':Int->Prop}{x y:Int}(h:RIn es S x y)(hS:∀ z,S z->S' z):RIn es S' x y:=by
 induction h with
 |refl h=>exact .refl (hS _ h)
 |step _ hz hs ih=>exact .step ih hz (hS _ hs)
theorem RIn.closed{es:List Ed}{S L:Int->Prop}{x y:Int}(h:RIn es S x y)(hx:L x)(hc:∀ z,L z->∀ w∈nbr es z,S w->L w):L y:=by
 induction h with
 |refl=>omega
 |step h hz hs ih=>grind
def QA(es:List Ed)(w:Int)(x y:Ed):Prop:=(x.a=w\/x.b=w)/\(y.a=w\/y.b=w)/\RIn es (·≠w) (oth x w) (oth y w)
def IA(es:List Ed)(x y:Ed):Prop:=∃ w,QA es w x y
theorem IA.symm{es:List Ed}{x y:Ed}:IA es x y->IA es y x:=fun⟨w,h1,h2,h3⟩=>⟨w,h2,h1,h3.symm⟩
inductive mX(es:List Ed)(i:Nat):Nat->Prop
 |refl:mX es i i
 |step {j k:Nat} (h:mX es i j) (hj:j<es.length) (hk:k<es.length) (hr:IA es (eAt es j) (eAt es k)):mX es i k
theorem mX.trans{es:List Ed}{i j k:Nat}(h:mX es i j)(h2:mX es j k):mX es i k:=by
 induction h2 with
 |refl=>exact h
 |step _ hj hk hr ih=>exact .step ih hj hk hr
theorem mX.symm{es:List Ed}{i j:Nat}(h:mX es i j):mX es j i:=by
 induction h with
 |refl=>exact .refl
 |step _ hj hk hr ih=>exact(mX.step .refl hk hj hr.symm).trans ih
structure dS(es:List Ed)(B:List Nat):Prop where
 ne:B≠[]
 rise:B.Pairwise (· < ·)
 lt:∀ i∈B,i<es.length
 rel:∀ i∈B,∀ j∈B,mX es i j
 all:∀ i∈B,∀ j,j<es.length->IA es (eAt es i) (eAt es j)->j∈B
theorem dS.iff{es:List Ed}{B:List Nat}(h:dS es B){i j:Nat}(hi:i∈B):j∈B↔mX es i j:=by
 refine⟨h.rel i hi j,fun hr=>?_⟩;induction hr with
 |refl=>omega
 |step _ _ hk hr ih=>exact h.all _ ih _ hk hr
theorem aP{es:List Ed}{v:Int}{i:Nat}:i∈atP es v↔i<es.length/\((eAt es i).a=v\/(eAt es i).b=v):=by
 grind [atP]
theorem sF{es:List Ed}{i:Nat}(h:i<es.length):eAt es i∈es:=by
 grind
theorem mT{x:Ed}{v:Int}(h:x.a=v\/x.b=v):oth x (oth x v)=v:=by
 grind [oth]
theorem mN(x:Ed)(v:Int):x.a=oth x v\/x.b=oth x v:=by
 grind [oth]
theorem Xg{x:Ed}{v:Int}(h:x.a≠x.b)(hv:x.a=v\/x.b=v):oth x v≠v:=by
 grind [oth]
theorem fQ{x:Ed}{v:Int}(hv:x.a=v\/x.b=v)(c:Int):(x.a=c\/x.b=c)↔(c=v\/c=oth x v):=by
 grind [oth]
theorem mG{es:List Ed}{i:Nat}{v:Int}(h:i∈atP es v):oth (eAt es i) v∈nbr es v:=by
 grind [aP,cJ,oth]
theorem Er{es:List Ed}{v w:Int}(h:w∈nbr es v):∃ i∈atP es v,oth (eAt es i) v=w:=by
 rw[cJ]at h;obtain⟨x,hx,h⟩:=h;obtain⟨i,hi,rfl⟩:=aAA hx;have e:eAt es i=es[i]:=eJ _ _ hi
 grind [aP,oth]
theorem Ai{es:List Ed}{i:Nat}{v:Int}(h:i∈atP es v):i∈atP es (oth (eAt es i) v):=aP.2 ⟨(aP.1 h).1,mN _ _⟩
structure zO(g:Gr)(A:Int->Prop)(s:Bw)(v z8:Int):Prop where
 ln:s.low.length=s.vis.length
 nd:s.vis.Nodup
 act:∀ a,A a->a∈s.vis
 fin:∀ w∈s.vis,¬A w->∀ i∈atP g.es w,oth (eAt g.es i) w∈s.vis
 new:v∉s.vis
 con:∀ a b,A a->A b->RIn g.es A a b
 par:(z8 = -1/\∀ a,¬A a)\/∃ i:Nat,z8=i/\i∈atP g.es v/\A (oth (eAt g.es i) v)
structure LF(g:Gr)(s:Bw)(v z8:Int)(s1:Bw)(C:List Int)(T:List Nat)(N:List (List Nat)):Prop where
 vis:s1.vis=s.vis++C
 hd:v∈C
 nd:s1.vis.Nodup
 ln:s1.low.length=s1.vis.length
 low:∀ w∈s.vis,lwW s1 w=lwW s w
 clo:∀ c∈C,∀ i∈atP g.es c,oth (eAt g.es i) c∈s1.vis
 stk:s1.stk=s.stk++T
 out:s1.out=s.out++N
 pl:∀ i,(i∈T++N.flatten)↔i<g.es.length/\(i:Int)≠z8/\((eAt g.es i).a∈C\/(eAt g.es i).b∈C)
 pn:(T++N.flatten).Nodup
 lw1:lwW s1 v<=(s.vis.length:Int)+1
 lw2:∀ c∈C,∀ i∈atP g.es c,(i:Int)≠z8->oth (eAt g.es i) c∉C->lwW s1 v<=nmW s.vis (oth (eAt g.es i) c)
 lw3:lwW s1 v<(s.vis.length:Int)+1->∃ c∈C,∃ i∈atP g.es c,(i:Int)≠z8/\oth (eAt g.es i) c∈s.vis/\nmW s.vis (oth (eAt g.es i) c)=lwW s1 v
 rel:∀ i∈T,∃ b:Nat,z8=b/\mX g.es b i
 good:∀ B∈N,dS g.es B
 cn:∀ c∈C,RIn g.es (·∈C) v c
structure BLp(g:Gr)(s0:Bw)(v z8:Int)(Q:List Nat)(s:Bw)(D:List Int)(T:List Nat)(N:List (List Nat)):Prop where
 vis:s.vis=s0.vis++v::D
 nd:s.vis.Nodup
 ln:s.low.length=s.vis.length
 low:∀ w∈s0.vis,lwW s w=lwW s0 w
 qs:∀ i∈Q,i∈atP g.es v
 cloQ:∀ i∈Q,oth (eAt g.es i) v∈s.vis
 cloD:∀ c∈D,∀ i∈atP g.es c,oth (eAt g.es i) c∈s.vis
 stk:s.stk=s0.stk++T
 out:s.out=s0.out++N
 pl:∀ i,(i∈T++N.flatten)↔i<g.es.length/\(i:Int)≠z8/\(((eAt g.es i).a∈D\/(eAt g.es i).b∈D)\/(i∈Q/\oth (eAt g.es i) v∈s0.vis))
 pn:(T++N.flatten).Nodup
 lw1:lwW s v<=(s0.vis.length:Int)+1
 lwD:∀ c∈D,∀ i∈atP g.es c,oth (eAt g.es i) c∉D->oth (eAt g.es i) c≠v->lwW s v<=nmW s0.vis (oth (eAt g.es i) c)
 lwQ:∀ i∈Q,(i:Int)≠z8->oth (eAt g.es i) v∈s0.vis->lwW s v<=nmW s0.vis (oth (eAt g.es i) v)
 lw3:lwW s v<(s0.vis.length:Int)+1->∃ c∈v::D,∃ i∈atP g.es c,(i:Int)≠z8/\oth (eAt g.es i) c∈s0.vis/\nmW s0.vis (oth (eAt g.es i) c)=lwW s v
 rel:∀ i∈T,∃ b:Nat,z8=b/\mX g.es b i
 good:∀ B∈N,dS g.es B
 cn:∀ c∈D,RIn g.es (fun x=>x=v\/x∈D) v c
theorem GG{V W:List Int}{x:Int}(h:x∈V):nmW (V++W) x=nmW V x:=by
 grind [nmW]
theorem Md{V W:List Int}{x:Int}(h:x∉V)(h2:x∈W):(V.length:Int)+1<=nmW (V++W) x:=by
 grind [nmW]
theorem Pw{V:List Int}{x:Int}(h:x∈V):nmW V x<(V.length:Int)+1:=by
 grind [nmW]
theorem GV{s:Bw}(hl:s.low.length=s.vis.length){v w x:Int}(hv:v∈s.vis)(hw:w∈s.vis):lwW (nG s v x) w=if w=v then x else lwW s w:=by
 unfold lwW nG;have h1:=aAO hv;have h2:=aAO hw;simp only;rw[aW _ _ (by grind),List.getElem_set,aW _ _ oO];by_cases e:w=v
 .grind
 .rw[aAa e,aAa];intro k;apply e;have e1:=aBu h1
  grind
theorem UW{s:Bw}{v w:Int}(hl:s.low.length=s.vis.length)(hw:w∈s.vis):lwW (pM s v) w=lwW s w:=by
 grind [lwW,pM]
theorem Rn{s:Bw}{v:Int}(hl:s.low.length=s.vis.length)(hv:v∉s.vis):lwW (pM s v) v=(s.vis.length:Int)+1:=by
 grind [lwW,pM]
theorem xL{P R:List Nat}{i:Nat}(h:i∉R):jS (P++i::R) i=P.length:=by
 grind [jS]
theorem lT{n:Nat}{S:List Nat}{i:Nat}:i∈tQ n S↔i<n/\i∈S:=by
 grind [tQ]
theorem wX(n:Nat)(S:List Nat):(tQ n S).Pairwise (· < ·):=aCJ _ (aBH)
theorem xW{n:Nat}{S:List Nat}(hn:S.Nodup)(hl:∀ i∈S,i<n):(tQ n S).Perm S:=
 (aAZ ((wX n S).imp fun h=>aCf h) hn).2 fun i=>by grind [lT]
section
variable {g:Gr} (hg:GoodE g)
include hg
theorem tZ{i:Nat}{v:Int}(h:i∈atP g.es v):oth (eAt g.es i) v≠v:=Xg (hg.ne _ (sF (aP.1 h).1)) (aP.1 h).2
omit hg in
theorem zO.start{A:Int->Prop}{s:Bw}{v z8:Int}(h:zO g A s v z8):BLp g s v z8 [] (pM s v) [] [] [] where
 vis:=rfl
 nd:=by show(s.vis++[v]).Nodup;rw[aAo];exact⟨h.nd,sS,fun a ha b hb=>by rintro rfl;rw[aAk]at hb;subst hb;exact h.new ha⟩
 ln:=by show(s.low++[_]).length=(s.vis++[v]).length;simp[h.ln]
 low:=fun w hw=>UW h.ln hw
 qs:=fun i hi=>by grind
 cloQ:=fun i hi=>by grind
 cloD:=fun i hi=>by grind
 stk:=by show s.stk=s.stk++[];simp
 out:=by show s.out=s.out++[];simp
 pl:=fun i=>by simp
 pn:=sS
 lw1:=by rw[Rn h.ln h.new];omega
 lwD:=fun i hi=>by grind
 lwQ:=fun i hi=>by grind
 lw3:=fun hl=>by rw[Rn h.ln h.new]at hl;omega
 rel:=fun i hi=>by grind
 good:=fun i hi=>by grind
 cn:=fun i hi=>by grind
theorem BLp.done{A:Int->Prop}{s0 s:Bw}{v z8:Int}{D:List Int}{T:List Nat}{N:List (List Nat)}(h0:zO g A s0 v z8)(h:BLp g s0 v z8 (atP g.es v) s D T N):LF g s0 v z8 s (v::D) T N where
 vis:=h.vis
 hd:=sS
 nd:=h.nd
 ln:=h.ln
 low:=h.low
 clo:=fun c hc i hi=>by
  rcases aAe.1 hc with rfl|hc
  .exact h.cloQ i hi
  .exact h.cloD c hc i hi
 stk:=h.stk
 out:=h.out
 pl:=fun i=>by
  rw[h.pl i];refine⟨fun⟨h1,h2,h3⟩=>⟨h1,h2,?_⟩,fun⟨h1,h2,h3⟩=>⟨h1,h2,?_⟩⟩
  .rcases h3 with(h3|h3)|⟨h3,_⟩
   .grind
   .grind
   grind [aP]
  .by_cases hv:(eAt g.es i).a=v\/(eAt g.es i).b=v
   .have hi:i∈atP g.es v:=aP.2 ⟨h1,hv⟩;have hq:=h.cloQ i hi;rw[h.vis,aAd,aAe]at hq;rcases hq with hq|hq|hq
    .grind
    .grind [tZ]
    grind [mN]
   grind
 pn:=h.pn
 lw1:=h.lw1
 lw2:=fun c hc i hi hb ho=>by
  have ho2:=ho;rw[aAe,aCx]at ho2;rcases aAe.1 hc with rfl|hc
  .refine h.lwQ i hi hb ?_;have hq:=h.cloQ i hi;rw[h.vis,aAd]at hq
   grind
  .exact h.lwD c hc i hi ho2.2 ho2.1
 lw3:=h.lw3
 rel:=h.rel
 good:=h.good
 cn:=fun c hc=>by
  rcases aAe.1 hc with rfl|hc
  .exact .refl sS
  .exact(h.cn c hc).mono fun z hz=>aAe.2 hz
end
theorem Ac{x:Ed}{L:List Int}{w:Int}(hw:w∈L)(he:x.a=w\/x.b=w)(ho:oth x w∈L):x.a∈L/\x.b∈L:=by
 have e1:=(fQ he x.a).1 (.inl rfl);have e2:=(fQ he x.b).1 (.inr rfl)
 grind
section
variable {g:Gr} (hg:GoodE g) {A:Int->Prop} {s0 s:Bw} {v z8:Int} {Q:List Nat} {D:List Int} {T:List Nat} {N:List (List Nat)} (h0:zO g A s0 v z8) (h:BLp g s0 v z8 Q s D T N)
include hg h0 h
theorem BLp.v_in:v∈s.vis:=by rw[h.vis];simp
theorem BLp.old_in{w:Int}(hw:w∈s0.vis):w∈s.vis:=by rw[h.vis];grind
theorem BLp.d_in{w:Int}(hw:w∈D):w∈s.vis:=by rw[h.vis];grind
theorem BLp.by_out{b:Nat}(hb:z8=b):oth (eAt g.es b) v∈s0.vis/\b∈atP g.es v/\A (oth (eAt g.es b) v):=by
 rcases h0.par with⟨h1,_⟩|⟨i,h1,h2,h3⟩
 .omega
 .obtain rfl:i=b:=oO;exact⟨h0.act _ h3,h2,h3⟩
theorem BLp.d_new{d:Int}(hd:d∈D):d∉s0.vis/\d≠v:=by
 have hn:=h.nd;rw[h.vis,aAo]at hn
 grind
theorem BLp.pl_in{j:Nat}(hj:j∈T++N.flatten):(eAt g.es j).a∈s.vis/\(eAt g.es j).b∈s.vis:=by
 obtain⟨h1,_,h3⟩:=(h.pl j).1 hj;rcases h3 with(k|k)|⟨k,ho⟩
 .exact Ac (h.d_in hg h0 k) (.inl rfl) (h.cloD _ k j (aP.2 ⟨h1,.inl rfl⟩))
 .exact Ac (h.d_in hg h0 k) (.inr rfl) (h.cloD _ k j (aP.2 ⟨h1,.inr rfl⟩))
 .exact Ac (h.v_in hg h0) (aP.1 (h.qs j k)).2 (h.cloQ j k)
theorem BLp.back_act{c:Int}(hc:c∉s0.vis){i:Nat}(hi:i∈atP g.es c)(ho:oth (eAt g.es i) c∈s0.vis):A (oth (eAt g.es i) c):=
 aAI fun hA=>hc (by
  have:=h0.fin _ ho hA i (Ai hi)
  grind [mT,aP])
theorem BLp.same{i:Nat}(hi:i∈atP g.es v)(hb:(i:Int)=z8):BLp g s0 v z8 (Q++[i]) s D T N where
 vis:=h.vis
 nd:=h.nd
 ln:=h.ln
 low:=h.low
 qs:=fun j hj=>by rcases aAd.1 hj with k|k;exact h.qs j k;grind
 cloQ:=fun j hj=>by
  rcases aAd.1 hj with k|k
  .exact h.cloQ j k
  .rw[aAk]at k;subst k;exact h.old_in hg h0 (h.by_out hg h0 hb.symm).1
 cloD:=h.cloD
 stk:=h.stk
 out:=h.out
 pl:=fun j=>by
  rw[h.pl j,aAd,aAk]
  grind
 pn:=h.pn
 lw1:=h.lw1
 lwD:=h.lwD
 lwQ:=fun j hj hjb=>by
  rcases aAd.1 hj with k|k
  .exact h.lwQ j k hjb
  grind
 lw3:=h.lw3
 rel:=h.rel
 good:=h.good
 cn:=h.cn
theorem BLp.skip{i:Nat}(hi:i∈atP g.es v)(j5:oth (eAt g.es i) v∈s.vis)(hn:¬nmW s.vis (oth (eAt g.es i) v)<(s0.vis.length:Int)+1):BLp g s0 v z8 (Q++[i]) s D T N:=by
 have M0:oth (eAt g.es i) v∉s0.vis:=fun k=>hn (by rw[h.vis,GG k];exact Pw k)
 exact {
 vis:=h.vis
 nd:=h.nd
 ln:=h.ln
 low:=h.low
 qs:=fun j hj=>by rcases aAd.1 hj with k|k;exact h.qs j k;grind
 cloQ:=fun j hj=>by
  rcases aAd.1 hj with k|k
  .exact h.cloQ j k
  grind
 cloD:=h.cloD
 stk:=h.stk
 out:=h.out
 pl:=fun j=>by
  rw[h.pl j,aAd,aAk]
  grind
 pn:=h.pn
 lw1:=h.lw1
 lwD:=h.lwD
 lwQ:=fun j hj hjb=>by
  rcases aAd.1 hj with k|k
  .exact h.lwQ j k hjb
  grind
 lw3:=h.lw3
 rel:=h.rel
 good:=h.good
 cn:=h.cn }
theorem BLp.act_to{b:Nat}(hb:z8=b){a:Int}(ha:A a):RIn g.es (·≠v) a (oth (eAt g.es b) v):=
 (h0.con _ _ ha (h.by_out hg h0 hb).2.2).mono fun z hz e=>by subst e;exact h0.new (h0.act _ hz)
theorem BLp.no_root{a:Int}(ha:A a):∃ b:Nat,z8=b:=by
 rcases h0.par with⟨_,h2⟩|⟨b,h2,_⟩
 .grind
 grind
theorem BLp.back{i:Nat}(hi:i∈atP g.es v)(hiQ:i∉Q)(hib:(i:Int)≠z8)(j5:oth (eAt g.es i) v∈s.vis)(hn:nmW s.vis (oth (eAt g.es i) v)<(s0.vis.length:Int)+1):
 BLp g s0 v z8 (Q++[i]) (nG (eN s i) v (min (lwW s v) (nmW s.vis (oth (eAt g.es i) v)))) D (T++[i]) N:=by
 have T6:oth (eAt g.es i) v∈s0.vis:=aAI fun k=>by have h1:=j5;rw[h.vis,aAd]at h1;have:=Md k (h1.resolve_left k);rw[h.vis]at hn;omega
 have hA:=h.back_act hg h0 h0.new hi T6;have hvs:=h.v_in hg h0;have hnm:nmW s.vis (oth (eAt g.es i) v)=nmW s0.vis (oth (eAt g.es i) v):=by rw[h.vis,GG T6]
 have hlw:∀ w∈s.vis,∀ x,lwW (nG (eN s i) v x) w=if w=v then x else lwW s w:=fun w hw x=>GV (s:=eN s i) h.ln hvs hw
 have hnew:i∉T++N.flatten:=fun k=>by
  obtain⟨_,_,h3⟩:=(h.pl i).1 k;rcases h3 with(k2|k2)|⟨k2,_⟩
  .rcases(fQ (aP.1 hi).2 _).1 (.inl rfl)with e|e
   .rw[e]at k2;exact(h.d_new hg h0 k2).2 rfl
   .rw[e]at k2;exact(h.d_new hg h0 k2).1 T6
  .rcases(fQ (aP.1 hi).2 _).1 (.inr rfl)with e|e
   .rw[e]at k2;exact(h.d_new hg h0 k2).2 rfl
   .rw[e]at k2;exact(h.d_new hg h0 k2).1 T6
  grind
 exact {
 vis:=h.vis
 nd:=h.nd
 ln:=by show(s.low.set _ _).length=_;rw[aCU];exact h.ln
 low:=fun w hw=>by rw[hlw w (h.old_in hg h0 hw),aAa (fun e=>h0.new (by grind))];exact h.low w hw
 qs:=fun j hj=>by rcases aAd.1 hj with k|k;exact h.qs j k;grind
 cloQ:=fun j hj=>by
  rcases aAd.1 hj with k|k
  .exact h.cloQ j k
  .rw[aAk]at k;subst k;exact j5
 cloD:=h.cloD
 stk:=by show s.stk++[i]=_;rw[h.stk,aAF]
 out:=h.out
 pl:=fun j=>by
  rw[aAF,aAd,aAd,or_left_comm,<- aAd,h.pl j,aAk,aAd,aAk]
  grind [aP]
 pn:=by rw[aAF];refine((aBE (a:=i) (l₁:=T) (l₂:=N.flatten)).nodup_iff).2 ?_;exact aAq.2 ⟨hnew,h.pn⟩
 lw1:=by grind
 lwD:=fun c hc j hj h1 h2=>by rw[hlw v hvs,aAj rfl];have:=h.lwD c hc j hj h1 h2;omega
 lwQ:=fun j hj hjb ho=>by
  rw[hlw v hvs,aAj rfl];rcases aAd.1 hj with k|k
  .have:=h.lwQ j k hjb ho;omega
  grind
 lw3:=fun hl=>by
  rw[hlw v hvs,aAj rfl]at hl ⊢;by_cases N7:lwW s v<=nmW s.vis (oth (eAt g.es i) v)
  .rw[Int.min_eq_left N7]at hl ⊢;exact h.lw3 hl
  grind
 rel:=fun j hj=>by
  rcases aAd.1 hj with k|k
  .exact h.rel j k
  .rw[aAk]at k;subst k;obtain⟨b,hb⟩:=h.no_root hg h0 hA;obtain⟨_,b2,_⟩:=h.by_out hg h0 hb;exact⟨b,hb,.step .refl (aP.1 b2).1 (aP.1 hi).1 ⟨v,(aP.1 b2).2,(aP.1 hi).2,(h.act_to hg h0 hb hA).symm⟩⟩
 good:=h.good
 cn:=h.cn }
end
section
variable {g:Gr} (hg:GoodE g) {A:Int->Prop} {s0 s:Bw} {v z8:Int} {Q:List Nat} {D:List Int} {T:List Nat} {N:List (List Nat)} (h0:zO g A s0 v z8) (h:BLp g s0 v z8 Q s D T N)
include hg h0 h
theorem BLp.pre{i:Nat}(hi:i∈atP g.es v)(M0:oth (eAt g.es i) v∉s.vis):zO g (fun a=>A a\/a=v) (eN s i) (oth (eAt g.es i) v) i where
 ln:=h.ln
 nd:=h.nd
 act:=fun a ha=>by
  rcases ha with ha|e
  .exact h.old_in hg h0 (h0.act _ ha)
  .show a∈s.vis;rw[e];exact h.v_in hg h0
 fin:=fun w hw hA j hj=>by
  have N9:w∈s.vis:=hw;show oth (eAt g.es j) w∈s.vis;rw[h.vis,aAd,aAe]at N9;rcases N9 with k|k|k
  .exact h.old_in hg h0 (h0.fin w k (fun x=>hA (.inl x)) j hj)
  .omega
  .exact h.cloD w k j hj
 new:=M0
 con:=by
  have up:∀ a b,A a->A b->RIn g.es (fun a=>A a\/a=v) a b:=fun a b ha hb=>(h0.con a b ha hb).mono fun z hz=>.inl hz;have tov:∀ a,A a->RIn g.es (fun a=>A a\/a=v) a v:=fun a ha=>by obtain⟨b,hb⟩:=h.no_root hg h0 ha;obtain⟨_,b2,b3⟩:=h.by_out hg h0 hb;exact .step (up a _ ha b3) (nV (mG b2)) (.inr rfl)
  rintro a b (ha|rfl) (hb|rfl)
  .grind
  .grind
  .exact(tov b hb).symm
  .exact .refl (.inr rfl)
 par:=.inr ⟨i,rfl,Ai hi,.inr (mT (aP.1 hi).2)⟩
theorem BLp.child{i:Nat}(hi:i∈atP g.es v)(hiQ:i∉Q)(hib:(i:Int)≠z8)(M0:oth (eAt g.es i) v∉s.vis){s1:Bw}{C:List Int}{T':List Nat}{N':List (List Nat)}
 (hp:LF g (eN s i) (oth (eAt g.es i) v) i s1 C T' N'):∃ s2 D2 T2 N2,OA g.es.length v ((s0.vis.length:Int)+1) i (oth (eAt g.es i) v) s1=some s2/\BLp g s0 v z8 (Q++[i]) s2 D2 T2 N2:=by
 obtain⟨u,hu⟩:∃ u,u=oth (eAt g.es i) v:=⟨_,rfl⟩;have hvs:=h.v_in hg h0;have hvis:s1.vis=s.vis++C:=hp.vis;have hvis2:s1.vis=s0.vis++v::(D++C):=by rw[hvis,h.vis,aAF];rfl
 have hv1:v∈s1.vis:=by rw[hvis];exact aAr _ hvs
 have hcn:∀ c∈C,c∉s.vis:=fun c hc k=>by
  have:=hp.nd
  grind
 have hend:(eAt g.es i).a=v\/(eAt g.es i).b=v:=(aP.1 hi).2;have hil:=(aP.1 hi).1;have huC:u∈C:=by rw[hu];exact hp.hd
 have hu1:u∈s1.vis:=by rw[hvis];exact aAx _ huC
 have huv:u≠v:=by rw[hu];exact tZ hg hi
 have hlen:s.vis.length=s0.vis.length+1+D.length:=by rw[h.vis,aAn,List.length_cons];omega
 have hlv:lwW s1 v=lwW s v:=hp.low v hvs;have inS:∀ {j:Nat},j∈T++N.flatten->¬((eAt g.es j).a∈C\/(eAt g.es j).b∈C):=fun hj k=>by
  have:=h.pl_in hg h0 hj
  grind
 have byC:∀ b:Nat,z8=b->¬((eAt g.es b).a∈C\/(eAt g.es b).b∈C):=fun b hb k=>by
  obtain⟨b1,b2,_⟩:=h.by_out hg h0 hb;have:=Ac hvs (aP.1 b2).2 (h.old_in hg h0 b1)
  grind
 have iC:(eAt g.es i).a∈C\/(eAt g.es i).b∈C:=by
  rcases mN (eAt g.es i) v with e|e
  .grind
  .grind
 have iT':i∉T'++N'.flatten:=fun k=>((hp.pl i).1 k).2.1 rfl;have hnew:∀ j,(j=i\/j∈T'++N'.flatten)↔j<g.es.length/\((eAt g.es j).a∈C\/(eAt g.es j).b∈C):=fun j=>by
  rw[hp.pl j]
  grind
 have U3:∀ j,(j∈T++N.flatten\/(j=i\/j∈T'++N'.flatten))↔j<g.es.length/\(j:Int)≠z8/\(((eAt g.es j).a∈D++C\/(eAt g.es j).b∈D++C)\/(j∈Q++[i]/\oth (eAt g.es j) v∈s0.vis)):=fun j=>by
  rw[h.pl j,hnew j]
  grind
 have hnd:((T++N.flatten)++i::(T'++N'.flatten)).Nodup:=by rw[aAo];refine⟨h.pn,aAq.2 ⟨iT',hp.pn⟩,fun a ha b hb=>?_⟩;rintro rfl;exact inS ha ((hnew a).1 (aAe.1 hb)).2
 have hset:∀ x,∀ w∈s1.vis,lwW (nG s1 v x) w=if w=v then x else lwW s1 w:=fun x w hw=>GV hp.ln hv1 hw
 have hold1:∀ w∈s0.vis,w≠v:=fun w hw e=>h0.new (by grind);have nm0:∀ w∈s0.vis,nmW s.vis w=nmW s0.vis w:=fun w hw=>by rw[h.vis,GG hw]
 have wit:lwW s1 u<(s0.vis.length:Int)+1->∃ c∈C,∃ j∈atP g.es c,j≠i/\oth (eAt g.es j) c∈s0.vis/\nmW s0.vis (oth (eAt g.es j) c)=lwW s1 u:=fun hl=>by
  have hl2:lwW s1 u<((eN s i).vis.length:Int)+1:=by show _<(s.vis.length:Int)+1;omega
  rw[hu]at hl2;obtain⟨c,hc,j,hj,hji,ho,he⟩:=hp.lw3 hl2;have he:nmW s.vis (oth (eAt g.es j) c)=lwW s1 u:=by rw[hu];exact he
  have j5:oth (eAt g.es j) c∈s.vis:=ho;have h1:oth (eAt g.es j) c∈s0.vis:=aAI fun k=>by have h2:=j5;rw[h.vis,aAd]at h2;have:=Md k (h2.resolve_left k);rw[<- h.vis]at this;omega
  grind
 have base:∀(s2:Bw) (T2:List Nat) (N2:List (List Nat)),s2.vis=s1.vis->s2.low=(nG s1 v (min (lwW s1 v) (lwW s1 u))).low->s2.stk=s0.stk++T2->s2.out=s0.out++N2->
  (T2++N2.flatten).Perm ((T++N.flatten)++i::(T'++N'.flatten))->(∀ j∈T2,∃ b:Nat,z8=b/\mX g.es b j)->(∀ B∈N2,dS g.es B)->BLp g s0 v z8 (Q++[i]) s2 (D++C) T2 N2:=fun s2 T2 N2 e1 e2 e3 e4 hperm hrel hgood=>by
  have hlw:∀ w∈s1.vis,lwW s2 w=if w=v then min (lwW s1 v) (lwW s1 u)else lwW s1 w:=fun w hw=>by rw[<- hset _ w hw];unfold lwW;rw[e1,e2];rfl
  exact {
  vis:=by grind
  nd:=by rw[e1];exact hp.nd
  ln:=by rw[e1,e2];show(s1.low.set _ _).length=_;rw[aCU];exact hp.ln
  low:=fun w hw=>by have R6:=h.old_in hg h0 hw;rw[hlw w (by grind),aAa (hold1 w hw),hp.low w R6];exact h.low w hw
  qs:=fun j hj=>by rcases aAd.1 hj with k|k;exact h.qs j k;grind
  cloQ:=fun j hj=>by
   rw[e1];rcases aAd.1 hj with k|k
   .rw[hvis];exact aAr _ (h.cloQ j k)
   grind
  cloD:=fun c hc j hj=>by
   rw[e1];rcases aAd.1 hc with k|k
   .rw[hvis];exact aAr _ (h.cloD c k j hj)
   .exact hp.clo c k j hj
  stk:=e3
  out:=e4
  pl:=fun j=>by rw[hperm.mem_iff,<- U3 j,aAd,aAe]
  pn:=hperm.nodup_iff.2 hnd
  lw1:=by rw[hlw v hv1,aAj rfl,hlv];have:=h.lw1;omega
  lwD:=fun c hc j hj h1 h2=>by
   rw[hlw v hv1,aAj rfl,hlv];rw[aAd,aCx]at h1;rcases aAd.1 hc with k|k
   .have:=h.lwD c k j hj h1.1 h2;omega
   .have hji:(j:Int)≠i:=fun e=>by
     obtain rfl:j=i:=oO;rcases(fQ hend c).1 (aP.1 hj).2 with e|e
     .grind
     grind [mT]
    have h3:=hp.lw2 c k j hj hji h1.2;have h4:lwW s1 u<=nmW s.vis (oth (eAt g.es j) c):=by rw[hu];exact h3
    have j5:=hp.clo c k j hj;rw[hvis2,aAd,aAe,aAd]at j5;have j5:=j5.resolve_right fun x=>by rcases x with x|x|x;exact h2 x;exact h1.1 x;grind
    rw[nm0 _ j5]at h4;omega
  lwQ:=fun j hj hjb ho=>by
   rw[hlw v hv1,aAj rfl,hlv];rcases aAd.1 hj with k|k
   .have:=h.lwQ j k hjb ho;omega
   .rw[aAk]at k;subst k;exact absurd (h.old_in hg h0 ho) M0
  lw3:=fun hl=>by
   rw[hlw v hv1,aAj rfl]at hl ⊢;by_cases N7:lwW s1 v<=lwW s1 u
   .rw[Int.min_eq_left N7,hlv]at hl ⊢;obtain⟨c,hc,j,hj,hjb,ho,he⟩:=h.lw3 hl
    grind
   .rw[Int.min_eq_right oO]at hl ⊢;obtain⟨c,hc,j,hj,hji,ho,he⟩:=wit hl;refine⟨c,by grind,j,hj,fun e=>byC j e.symm ?_,ho,he⟩;rcases(aP.1 hj).2 with x|x
    .grind
    grind
  rel:=hrel
  good:=hgood
  cn:=fun c hc=>by
   rcases aAd.1 hc with k|k
   .exact(h.cn c k).mono fun z hz=>hz.imp_right fun x=>aAr _ x
   .have h1:=(hp.cn c k).mono (S':=fun x=>x=v\/x∈D++C) fun z hz=>.inr (aAx _ hz)
    exact(RIn.step (.refl (.inl rfl)) (mG hi) (.inr (aAx _ (by grind)))).trans h1 }
 rw[<- hu];unfold OA;by_cases hc:(s0.vis.length:Int)+1<=lwW s1 u
 .rw[aAj hc];have hstk:s1.stk=(s0.stk++T)++i::T':=by rw[hp.stk];show(s.stk++[i])++T'=_;rw[h.stk];simp
  have hiT:i∉T':=fun k=>iT' (aAr _ k);have hlp:jS s1.stk i=(s0.stk++T).length:=by rw[hstk];exact xL hiT
  have hSn:(i::T').Nodup:=aAq.2 ⟨hiT,(aAo.1 hp.pn).1⟩;have hSl:∀ j∈i::T',j<g.es.length:=fun j hj=>by
   grind
  have hbp:=xW hSn hSl;have hrelS:∀ j∈i::T',mX g.es i j:=fun j hj=>by
   rcases aAe.1 hj with e|k
   .rw[e];exact .refl
   .obtain⟨b,hb,hr⟩:=hp.rel j k;obtain rfl:i=b:=oO;omega
  have hlu:∀ c∈C,∀ j∈atP g.es c,oth (eAt g.es j) c∈C\/oth (eAt g.es j) c=v:=fun c hcC j hj=>by
   by_cases e1:oth (eAt g.es j) c∈C
   .grind
   refine .inr (aAI fun e2=>?_);by_cases hji:(j:Int)=i
   .obtain rfl:j=i:=oO;rcases(fQ hend c).1 (aP.1 hj).2 with e|e
    .grind
    grind [mT]
   .have h3:=hp.lw2 c hcC j hj hji e1;have h4:lwW s1 u<=nmW s.vis (oth (eAt g.es j) c):=by rw[hu];exact h3
    have j5:=hp.clo c hcC j hj;rw[hvis]at j5;have j5:=(aAd.1 j5).resolve_right e1;have T6:oth (eAt g.es j) c∈s0.vis\/oth (eAt g.es j) c∈D:=by
     rw[h.vis,aAd,aAe]at j5;rcases j5 with k|k|k
     .grind
     .omega
     .grind
    rcases T6 with k|k
    .rw[nm0 _ k]at h4;have:=Pw k;omega
    .have:=h.cloD _ k j (Ai hj)
     grind [mT,aP]
  have hgood:dS g.es (tQ g.es.length (i::T')):={
   ne:=fun e=>by
    have:i∈tQ g.es.length (i::T'):=lT.2 ⟨hil,sS⟩
    grind
   rise:=wX _ _
   lt:=fun j hj=>(lT.1 hj).1
   rel:=fun j hj k hk=>(hrelS j (lT.1 hj).2).symm.trans (hrelS k (lT.1 hk).2)
   all:=fun j hj k hk hr=>by
    have hjS:=(lT.1 hj).2;have hjC:=((hnew j).1 ((aAe.1 hjS).imp_right fun x=>aAr _ x)).2;have hkC:(eAt g.es k).a∈C\/(eAt g.es k).b∈C:=by
     obtain⟨w,w1,w2,w3⟩:=hr;have hjw:j∈atP g.es w:=aP.2 ⟨hSl j hjS,w1⟩;have hkw:k∈atP g.es w:=aP.2 ⟨hk,w2⟩;by_cases hwC:w∈C
     .rcases w2 with e|e
      .grind
      grind
     have hoC:oth (eAt g.es j) w∈C:=by
      rcases hjC with x|x
      .rcases(fQ w1 _).1 (.inl rfl)with e|e
       .grind
       grind
      .rcases(fQ w1 _).1 (.inr rfl)with e|e
       .grind
       grind
     have hwv:w=v:=by have:=hlu _ hoC j (Ai hjw);rw[mT w1]at this;exact this.resolve_left hwC
     subst hwv;have hq:oth (eAt g.es k) w∈C:=w3.closed (L:=(·∈C)) hoC fun z hz x hx c7=>by
      obtain⟨l,hl,rfl⟩:=Er hx
      grind
     rcases mN (eAt g.es k) w with e|e
     .grind
     .grind
    refine lT.2 ⟨hk,?_⟩;rcases(hnew k).2 ⟨hk,hkC⟩with e|e
    .grind
    .rcases aAd.1 e with e|e
     .grind
     .obtain⟨B,hB,hkB⟩:=aAT.1 e;have hjB:=(hp.good B hB).all k hkB j (hSl j hjS) hr.symm;have hjN:j∈N'.flatten:=aAT.2 ⟨B,hB,hjB⟩;exfalso;rcases aAe.1 hjS with e|e
      .grind
      .exact(aAo.1 hp.pn).2.2 j e j hjN rfl }
  have hcut:Hu g.es.length (nG s1 v (min (lwW s1 v) (lwW s1 u))) i=some { nG s1 v (min (lwW s1 v) (lwW s1 u))with stk:=s0.stk++T,out:=s0.out++(N++N'++[tQ g.es.length (i::T')]) }:=by unfold Hu;have e1:(nG s1 v (min (lwW s1 v) (lwW s1 u))).stk=s1.stk:=rfl;have e2:(nG s1 v (min (lwW s1 v) (lwW s1 u))).out=s1.out:=rfl;rw[e1,e2,hlp,aAj (by grind),hstk,aDu,aDc,hp.out];show some _=some _;have:(eN s i).out=s0.out++N:=h.out;rw[this];simp only[aAF]
  refine⟨_,D++C,T,N++N'++[tQ g.es.length (i::T')],hcut,base _ _ _ rfl rfl rfl rfl ?_ h.rel ?_⟩
  .simp only[aBW,List.flatten_cons,List.flatten_nil,aAS,aAF];refine aCr _ (aCr _ ?_);refine aBj.trans ?_;exact(hbp.append_right _)
  .intro B hB;rcases aAd.1 hB with hB|hB
   .rcases aAd.1 hB with hB|hB
    .exact h.good B hB
    .exact hp.good B hB
   grind
 .rw[aAa hc];have hl:lwW s1 u<(s0.vis.length:Int)+1:=oO;obtain⟨c,hcC,j,hj,hji,ho,he⟩:=wit hl;have hA:=h.back_act hg h0 (c:=c) (fun k=>hcn c hcC (h.old_in hg h0 k)) hj ho;obtain⟨b,hb⟩:=h.no_root hg h0 hA;obtain⟨_,b2,_⟩:=h.by_out hg h0 hb;have hbi:mX g.es b i:=by
   refine .step .refl (aP.1 b2).1 hil ⟨v,(aP.1 b2).2,hend,?_⟩;refine(((hp.cn c hcC).mono fun z hz=>?_).trans (.step (.refl ?_) (mG hj) ?_) |>.trans (h.act_to hg h0 hb hA)).symm
   .grind
   .grind
   .grind
  refine⟨_,D++C,T++(i::T'),N++N',rfl,base _ _ _ rfl rfl ?_ ?_ ?_ ?_ ?_⟩
  .show s1.stk=_;rw[hp.stk];show(s.stk++[i])++T'=_;rw[h.stk];simp
  .show s1.out=_;rw[hp.out];show s.out++N'=_;rw[h.out];simp
  .simp only[aBW,aAF,List.cons_append];refine aCr _ ?_;have:(i::(T'++(N.flatten++N'.flatten))).Perm (N.flatten++(i::(T'++N'.flatten))):=by refine List.Perm.trans ?_ aBE.symm;refine List.Perm.cons _ ?_;rw[<- aAF,<- aAF];exact aDB _ aBj
   omega
  .intro k hk;rcases aAd.1 hk with hk|hk
   .exact h.rel k hk
   .refine⟨b,hb,hbi.trans ?_⟩;rcases aAe.1 hk with e|e
    .rw[e];exact .refl
    .obtain⟨b',hb',hr⟩:=hp.rel k e;obtain rfl:i=b':=oO;omega
  .intro B hB;rcases aAd.1 hB with hB|hB
   .exact h.good B hB
   .exact hp.good B hB
end
section
variable {g:Gr} (hg:GoodE g)
include hg
theorem Mi(n:Nat)(ih:∀(A:Int->Prop) (s:Bw) (v z8:Int),zO g A s v z8->v∈g.vs->(∀ w∈s.vis,w∈g.vs)->g.vs.length<=n+s.vis.length->∃ s1 C T N,oU g.es n v z8 s=some s1/\LF g s v z8 s1 C T N/\∀ c∈C,c∈g.vs)
 {A:Int->Prop} {s0:Bw} {v z8:Int} (h0:zO g A s0 v z8) (hn:g.vs.length<=n+(s0.vis.length+1)):
 ∀(R Q:List Nat) (s:Bw) (D:List Int) (T:List Nat) (N:List (List Nat)),Q++R=atP g.es v->BLp g s0 v z8 Q s D T N->(∀ w∈s.vis,w∈g.vs)->
  ∃ s1 D T N,goB (hU (oU g.es n) g.es v z8 ((s0.vis.length:Int)+1)) R s=some s1/\BLp g s0 v z8 (atP g.es v) s1 D T N/\∀ w∈s1.vis,w∈g.vs
 |[],Q,s,D,T,N,hQ,h,hv=>⟨s,D,T,N,rfl,by grind,hv⟩
 |i::R,Q,s,D,T,N,hQ,h,hv=>by
  have hi:i∈atP g.es v:=by rw[<- hQ];simp
  have hnd:(atP g.es v).Nodup:=aCJ _ aDG;have hiQ:i∉Q:=fun k=>by grind
  have hQ2:(Q++[i])++R=atP g.es v:=by rw[<- hQ];simp
  have go:∀ s2 D T N,hU (oU g.es n) g.es v z8 ((s0.vis.length:Int)+1) s i=some s2->BLp g s0 v z8 (Q++[i]) s2 D T N->(∀ w∈s2.vis,w∈g.vs)->∃ s1 D T N,goB (hU (oU g.es n) g.es v z8 ((s0.vis.length:Int)+1)) (i::R) s=some s1/\BLp g s0 v z8 (atP g.es v) s1 D T N/\∀ w∈s1.vis,w∈g.vs:=fun s2 D T N e h2 hv2=>by
   obtain⟨s1,D1,T1,N1,k1,k2,k3⟩:=Mi n ih h0 hn R (Q++[i]) s2 D T N hQ2 h2 hv2
   grind [goB]
  by_cases hb:(i:Int)=z8
  .exact go s D T N (by grind [hU]) (h.same hg h0 hi hb) hv
  by_cases j5:oth (eAt g.es i) v∈s.vis
  .by_cases hnm:nmW s.vis (oth (eAt g.es i) v)<(s0.vis.length:Int)+1
   .exact go _ D _ N (by grind [hU]) (h.back hg h0 hi hiQ hb j5 hnm) hv
   .exact go s D T N (by grind [hU]) (h.skip hg h0 hi j5 hnm) hv
  .have hlen:s.vis.length=s0.vis.length+1+D.length:=by rw[h.vis,aAn,List.length_cons];omega
   have huv:oth (eAt g.es i) v∈g.vs:=hg.nbr (mG hi);obtain⟨s1,C,T',N',e,hp,hC⟩:=ih _ (eN s i) _ i (h.pre hg h0 hi j5) huv hv (by show g.vs.length<=n+s.vis.length;omega);obtain⟨s2,D2,T2,N2,e2,h2⟩:=h.child hg h0 hi hiQ hb j5 hp;refine go s2 D2 T2 N2 (by grind [hU]) h2 fun w hw=>?_;have e3:s2.vis=s1.vis:=by
    unfold OA at e2
    split at e2
    .unfold Hu at e2
     split at e2
     .cases e2;rfl
     grind
    .cases e2;rfl
   rw[e3,hp.vis,aAd]at hw;exact hw.elim (hv w) (hC w)
theorem Ep:∀(n:Nat) (A:Int->Prop) (s:Bw) (v z8:Int),zO g A s v z8->v∈g.vs->(∀ w∈s.vis,w∈g.vs)->g.vs.length<=n+s.vis.length->∃ s1 C T N,oU g.es n v z8 s=some s1/\LF g s v z8 s1 C T N/\∀ c∈C,c∈g.vs
 |0,A,s,v,z8,h,hv,hs,hn=>by
  have h1:(s.vis++[v]).length<=g.vs.length:=aAy (by
   rw[aAo]
   exact⟨h.nd,sS,fun a ha b hb=>by rintro rfl;rw[aAk]at hb;subst hb;exact h.new ha⟩) fun w hw=>by
    grind
  grind
 |n+1,A,s,v,z8,h,hv,hs,hn=>by
  obtain⟨s1,D,T,N,e,h1,hs1⟩:=Mi hg n (Ep n) h oO (atP g.es v) [] (pM s v) [] [] [] rfl h.start fun w hw=>by
   have hw:w∈s.vis++[v]:=hw
   grind
  have hp:=h1.done hg h;exact⟨s1,_,T,N,e,hp,fun c hc=>hs1 c (by rw[hp.vis];grind)⟩
structure Jl(g:Gr)(s:Bw):Prop where
 ln:s.low.length=s.vis.length
 nd:s.vis.Nodup
 sub:∀ w∈s.vis,w∈g.vs
 fin:∀ w∈s.vis,∀ i∈atP g.es w,oth (eAt g.es i) w∈s.vis
 stk:s.stk=[]
 pl:∀ i,i∈s.out.flatten↔i<g.es.length/\(eAt g.es i).a∈s.vis
 pn:s.out.flatten.Nodup
 good:∀ B∈s.out,dS g.es B
theorem Fk(n:Nat)(hn:g.vs.length<=n):∀(l:List Int) (s:Bw),(∀ v∈l,v∈g.vs)->Jl g s->∃ s1,uC g.es n l s=some s1/\Jl g s1/\(∀ v∈s.vis,v∈s1.vis)/\∀ v∈l,v∈s1.vis
 |[],s,_,h=>⟨s,rfl,h,fun _ h=>h,fun v hv=>by grind⟩
 |v::l,s,hl,h=>by
  by_cases hv:v∈s.vis
  .obtain⟨s1,e,k1,k2,k3⟩:=Fk n hn l s (fun w hw=>hl w (aAc _ hw)) h
   grind [uC]
  .have hpre:zO g (fun _=>False) s v (-1):=⟨h.ln,h.nd,fun a ha=>ha.elim,fun w hw _=>h.fin w hw,hv,fun a b ha=>ha.elim,.inl ⟨rfl,fun a ha=>ha⟩⟩;obtain⟨s1,C,T,N,e,hp,hC⟩:=Ep hg n _ s v (-1) hpre (hl v sS) h.sub oO;have hT:T=[]:=by
    cases T with
    |nil=>rfl
    |cons i T=>obtain⟨b,hb,_⟩:=hp.rel i sS;omega
   subst hT;have r8:∀ w∈s1.vis,∀ i∈atP g.es w,oth (eAt g.es i) w∈s1.vis:=fun w hw i hi=>by
    have N9:=hw;rw[hp.vis,aAd]at N9;rcases N9 with k|k
    .rw[hp.vis];exact aAr _ (h.fin w k i hi)
    .exact hp.clo w k i hi
   have hall:Jl g s1:={
    ln:=hp.ln
    nd:=hp.nd
    sub:=fun w hw=>by rw[hp.vis,aAd]at hw;exact hw.elim (h.sub w) (hC w)
    fin:=r8
    stk:=by rw[hp.stk,h.stk];rfl
    pl:=fun i=>by
     have h2:=hp.pl i;rw[List.nil_append]at h2;rw[hp.out,aBW,aAd,h.pl i,h2,hp.vis,aAd];constructor
     .rintro(⟨k1,k2⟩|⟨k1,_,k2⟩)
      .grind
      .refine⟨k1,?_⟩;rcases k2 with k2|k2
       .grind
       .have:=hp.clo _ k2 i (aP.2 ⟨k1,.inr rfl⟩);rw[hp.vis,aAd]at this
        grind [oth]
     grind
    pn:=by
     have h2:=hp.pn;rw[List.nil_append]at h2;rw[hp.out,aBW,aAo];refine⟨h.pn,h2,fun a ha b hb=>?_⟩;rintro rfl;have k1:=(h.pl a).1 ha;have k2:=(hp.pl a).1 (by grind);have hd:∀ c∈C,c∉s.vis:=fun c hc k=>by
      have:=hp.nd;rw[hp.vis,aAo]at this
      grind
     rcases k2.2.2 with k|k
     .grind
     .have:=h.fin _ k1.2 a (aP.2 ⟨k1.1,.inl rfl⟩)
      grind [oth]
    good:=fun B hB=>by
     rw[hp.out,aAd]at hB
     exact hB.elim (h.good B) (hp.good B) }
   obtain⟨s2,e2,k1,k2,k3⟩:=Fk n hn l s1 (fun w hw=>hl w (aAc _ hw)) hall;refine⟨s2,by grind [uC],k1,fun w hw=>k2 w (by rw[hp.vis];grind),fun w hw=>?_⟩;rcases aAe.1 hw with rfl|hw
   .exact k2 _ (by rw[hp.vis];exact aAx _ hp.hd)
   grind
theorem sN:∃ s,uC g.es g.vs.length g.vs ⟨[],[],[],[]⟩=some s/\s.stk=[]/\(∀ i,i∈s.out.flatten↔i<g.es.length)/\s.out.flatten.Nodup/\∀ B∈s.out,dS g.es B:=by obtain⟨s,e,h,_,h3⟩:=Fk hg g.vs.length (aAl _) g.vs ⟨[],[],[],[]⟩ (fun _ h=>h) ⟨rfl,.nil,fun w hw=>(by grind),fun w hw=>(by grind),rfl,fun i=>by simp,sS,fun B hB=>(by grind)⟩;refine⟨s,e,h.stk,fun i=>?_,h.pn,h.good⟩;rw[h.pl i];exact and_iff_left_of_imp fun hi=>h3 _ (hg.ends _ (sF hi)).1
end
def esB(es:List Ed)(B:List Nat):List Ed:=B.map (eAt es)
theorem OQ{es:List Ed}{w p z:Int}(hz:z≠p){y:Int}(h:RIn es (·≠w) p y):RIn es (fun t=>t≠w/\t≠z) p y\/∃ y',z∈nbr es y'/\RIn es (fun t=>t≠w/\t≠z) p y':=by
 induction h with
 |refl h=>exact .inl (.refl ⟨h,fun e=>hz e.symm⟩)
 |@step y u h hn hs ih=>
  rcases ih with ih|ih
  .by_cases e:u=z
   .grind
   .exact .inl (.step ih hn ⟨hs,e⟩)
  grind
theorem NG{es:List Ed}{w p q:Int}{S:Int->Prop}(hp:S p)(h:RIn es (·≠w) p q):S q\/∃ z z',S z/\z'∈nbr es z/\RIn es (fun t=>t≠w/\¬S t) z' q:=by
 induction h with
 |refl h=>grind
 |@step y u h hn hs ih=>
  by_cases hu:S u
  .grind
  by_cases hy:S y
  .exact .inr ⟨y,u,hy,hn,.refl ⟨hs,hu⟩⟩
  rcases ih with ih|⟨z,z',h1,h2,h3⟩
  .grind
  .exact .inr ⟨z,z',h1,h2,.step h3 hn ⟨hs,hu⟩⟩
theorem Ly{es:List Ed}{B:List Nat}{y z:Int}(h:z∈nbr (esB es B) y):∃ i∈B,((eAt es i).a=y\/(eAt es i).b=y)/\oth (eAt es i) y=z:=by
 rw[cJ]at h;obtain⟨x,hx,h⟩:=h;obtain⟨i,hi,rfl⟩:=aAi.1 hx
 grind [oth]
theorem LP{es:List Ed}{B:List Nat}{i:Nat}(hi:i∈B){y:Int}(h:(eAt es i).a=y\/(eAt es i).b=y):oth (eAt es i) y∈nbr (esB es B) y:=by
 rw[cJ];refine⟨_,aAt hi,?_⟩
 grind [oth]
theorem RIn.up{es:List Ed}{B:List Nat}(hB:∀ i∈B,i<es.length){S:Int->Prop}{x y:Int}(h:RIn (esB es B) S x y):RIn es S x y:=by
 induction h with
 |refl h=>exact .refl h
 |step h hn hs ih=>
  refine .step ih ?_ hs
  grind [Ly,mG,aP]
section
variable {g:Gr} (hg:GoodE g)
include hg
theorem dS.ring_in{B:List Nat}(h:dS g.es B){i j:Nat}(hi:i∈B)(hj:j<g.es.length){w:Int}(hr:QA g.es w (eAt g.es i) (eAt g.es j)):RIn (esB g.es B) (·≠w) (oth (eAt g.es i) w) (oth (eAt g.es j) w):=by
 obtain⟨h1,h2,h3⟩:=hr;have hjB:j∈B:=h.all i hi j hj ⟨w,h1,h2,h3⟩;have hpw:oth (eAt g.es i) w≠w:=tZ hg (aP.2 ⟨h.lt i hi,h1⟩);have hqw:oth (eAt g.es j) w≠w:=tZ hg (aP.2 ⟨hj,h2⟩);rcases NG (S:=fun t=>RIn (esB g.es B) (·≠w) (oth (eAt g.es i) w) t) (.refl hpw) h3 with k|⟨z,z',k1,k2,k3⟩
 .exact k
 exfalso;have hzw:z≠w:=k1.here.2;obtain⟨l,hl,he⟩:=Er k2;have hll:=aP.1 hl;have back:RIn g.es (·≠z) z' w:=by have a:=k3.mono (S':=(·≠z)) fun t ht e=>ht.2 (by grind);refine .step a (nV (mG (aP.2 ⟨hj,h2⟩))) fun e=>hzw e.symm
 have j5:l∈B:=by
  by_cases ez:z=oth (eAt g.es i) w
  .refine h.all i hi l hll.1 ⟨z,by grind [mN],hll.2,?_⟩;rw[he,ez,mT h1,<- ez];exact back.symm
  .rcases OQ ez k1 with k|⟨y',k4,k5⟩
   .exact absurd rfl k.here.2.2
   .obtain⟨o,ho,hoe,hoz⟩:=Ly k4;refine h.all o ho l hll.1 ⟨z,by grind [mN],hll.2,?_⟩;rw[he,<- hoz,mT hoe,hoz];have a:RIn g.es (·≠z) (oth (eAt g.es i) w) y':=(k5.mono (S':=(·≠z)) fun t ht=>ht.2).up h.lt;have b:RIn g.es (·≠z) w (oth (eAt g.es i) w):=.step (.refl fun e=>hzw e.symm) (mG (aP.2 ⟨h.lt i hi,h1⟩)) fun e=>ez e.symm;exact((back.trans b).trans a).symm
 have:RIn (esB g.es B) (·≠w) (oth (eAt g.es i) w) z':=.step k1 (by grind [LP]) k3.here.1.1;exact k3.here.1.2 this
theorem dS.con{B:List Nat}(h:dS g.es B)(v:Int){i j:Nat}(hi:i∈B)(hr:mX g.es i j):∀ p q,((eAt g.es i).a=p\/(eAt g.es i).b=p)->((eAt g.es j).a=q\/(eAt g.es j).b=q)->p≠v->q≠v->RIn (esB g.es B) (·≠v) p q:=by
 have one:∀ k∈B,∀ p q,((eAt g.es k).a=p\/(eAt g.es k).b=p)->((eAt g.es k).a=q\/(eAt g.es k).b=q)->p≠v->q≠v->RIn (esB g.es B) (·≠v) p q:=fun k hk p q h1 h2 hp hq=>by
  rcases(fQ h1 q).1 h2 with e|e
  .rw[e];exact .refl hp
  .exact .step (.refl hp) (by grind [LP]) hq
 induction hr with
 |refl=>grind
 |@step j k hr hjl hk hre ih=>
  intro p q hp hq hpv hqv;have hj:j∈B:=(h.iff hi).2 hr;have hkB:k∈B:=h.all j hj k hk hre;obtain⟨w,w1,w2,w3⟩:=hre;by_cases e:v=w
  .subst e;have h1:=ih p (oth (eAt g.es j) v) hp (mN _ _) hpv (tZ hg (aP.2 ⟨hjl,w1⟩));have h2:=h.ring_in hg hj hk ⟨w1,w2,w3⟩;rcases(fQ w2 q).1 hq with e|e
   .omega
   .rw[e];exact h1.trans h2
  .exact(ih p w hp w1 hpv fun x=>e x.symm).trans (one k hkB w q w2 hq (fun x=>e x.symm) hqv)
omit hg in
theorem dS.eq{B B':List Nat}(h:dS g.es B)(h':dS g.es B'){j:Nat}(hj:j∈B)(hj':j∈B'):B=B':=by
 have hn:B.Nodup:=h.rise.imp fun k=>aCf k;have M3:B'.Nodup:=h'.rise.imp fun k=>aCf k;have hp:B.Perm B':=(aAZ hn M3).2 fun k=>by rw[h.iff hj,h'.iff hj']
 exact hp.eq_of_pairwise (fun a b _ _ h1 h2=>absurd h1 oO) h.rise h'.rise
end
noncomputable def iO(es:List Ed)(i:Nat):List Nat:=(List.range es.length).filter fun j=>@decide (mX es i j) (Classical.propDecidable _)
theorem Ip{es:List Ed}{i j:Nat}:j∈iO es i↔j<es.length/\mX es i j:=by
 grind [iO]
theorem Dp(es:List Ed)(i:Nat):(iO es i).Pairwise (· < ·):=aCJ _ aBH
noncomputable def fT(es:List Ed):List (List Nat):=((List.range es.length).filter fun i=>decide ((iO es i).headD 0=i)).map (iO es)
theorem head_mem{l:List Nat}(h:l≠[]):l.headD 0∈l:=by
 cases l with
 |nil=>grind
 |cons a l=>simp
theorem dS.cls{es:List Ed}{B:List Nat}(h:dS es B){i:Nat}(hi:i∈B):B=iO es i:=by
 have hn:B.Nodup:=h.rise.imp fun k=>aCf k;have M3:(iO es i).Nodup:=(Dp es i).imp fun k=>aCf k;have hp:B.Perm (iO es i):=(aAZ hn M3).2 fun k=>by rw[Ip,<- h.iff hi];exact⟨fun q=>⟨h.lt k q,q⟩,fun q=>q.2⟩
 exact hp.eq_of_pairwise (fun a b _ _ h1 h2=>absurd h1 oO) h.rise (Dp es i)
theorem Ap{es:List Ed}{out B:List (List Nat)}(hall:∀ i,i∈out.flatten↔i<es.length)(U6:∀ B∈out,dS es B)(hp:B.Perm out)(hr:B.Pairwise fun x y=>x.headD 0<y.headD 0):B=fT es:=by
 have N5:∀ b,b∈B↔b∈fT es:=fun b=>by
  unfold fT;rw[hp.mem_iff,aAi];constructor
  .intro hb;have ho:=U6 b hb;have hh:=head_mem ho.ne;have hc:=ho.cls hh;refine⟨b.headD 0,?_,hc.symm⟩;rw[aAB,aBi,aAR,<- hc];exact⟨ho.lt _ hh,rfl⟩
  .rintro⟨i,hi,rfl⟩;rw[aAB,aBi,aAR]at hi;obtain⟨b,hb,hib⟩:=aAT.1 ((hall i).2 hi.1);rw[<- (U6 b hb).cls hib];omega
 have hl:(fT es).Pairwise fun x y=>x.headD 0<y.headD 0:=by unfold fT;rw[aAV];refine(aCJ (fun i=>decide ((iO es i).headD 0=i)) (aBH (n:=es.length))).imp_of_mem ?_;intro a b ha hb x8;rw[aAB,aAR]at ha hb;rw[ha.2,hb.2];exact x8
 have hpp:B.Perm (fT es):=(aAZ (hr.imp fun k e=>by grind) (hl.imp fun k e=>by grind)).2 N5;exact hpp.eq_of_pairwise (fun a b _ _ h1 h2=>absurd h1 oO) hr hl
end Aw
namespace Aw
open Go Go.RowKit Pl Go.Sort
def nE(x y:Int):Int:=if x<y then -1 else if y<x then 1 else 0
theorem Iq(x y:Int):nE x y<0↔x<y:=by grind [nE]
theorem Qs{α β:Type}{k:Nat}(f:α->List β):∀(l:List α) (t:Nat),(∀ x∈l,(f x).length=k)->t<l.length*k->∃ x,l[t / k]?=some x/\(l.flatMap f)[t]?=(f x)[t % k]?
 |[],t,_,h=>by simp at h
 |a::l,t,hk,h=>by
  have h1:=hk a aAf;rw[aAH];by_cases ht:t<k
  .exact⟨a,by rw[aDf ht];rfl,by rw[aAG ht,aBe oO]⟩
  .have k0:0<k:=by
    rcases aCB k with h0|h0
    .subst h0;simp at h
    .exact h0
   rw[List.length_cons,aDX]at h;obtain⟨x,h2,h3⟩:=Qs f l (t-k) (fun x hx=>hk x (aAc _ hx)) oO;refine⟨x,?_,?_⟩
   .rw[Nat.div_eq_sub_div k0 oO,List.getElem?_cons_succ,h2]
   .rw[aBx oO,h1,h3,<- Nat.mod_eq_sub_mod oO]
theorem Fl{α β:Type}{k:Nat}(f:α->List β):∀(l:List α),(∀ x∈l,(f x).length=k)->(l.flatMap f).length=l.length*k
 |[],_=>by simp
 |a::l,h=>by have h1:=h a aAf;have h2:=Fl f l fun x hx=>h x (aAc _ hx);rw[aAH,aAn,h1,h2,List.length_cons,aDX,aEK]
theorem wS{α:Type}[Inhabited α]{k:Nat}(enc:α->List Value)(hk:∀ x,(enc x).length=k)(d:Array α):(flatK enc k d).toList=d.toList.flatMap enc:=by
 have hl:=Fl enc d.toList fun x _=>hk x;refine aCu fun t=>?_;by_cases ht:t<d.size*k
 .obtain⟨x,h1,h2⟩:=Qs enc d.toList t (fun x _=>hk x) (by simpa using ht);have k0:0<k:=by
   rcases aCB k with h0|h0
   .subst h0;simp at ht
   .exact h0
  have h3:=get_flatK enc k d t ht;rw[h2];have h4:(d[t / k]!)=x:=by rw[aCb]at h1;rw[getElem!_def,h1]
  rw[h4,aCC _ t (by simpa using ht),aCC _ _ (by rw[hk];exact aBG _ k0)]at h3;rw[aCb,aDo (by simpa using ht),h3,aAh]
 .rw[aCa (by simp;omega),aCa (by rw[hl];simpa using ht)]
theorem Gy{α:Type}[Inhabited α](enc:α->Value)(d:Array α):flatK (fun x=>[enc x]) 1 d=d.map enc:=by refine Array.toList_inj.1 ?_;rw[wS (k:=1) _ (fun _=>rfl),Array.toList_map];induction d.toList<;>simp_all
theorem Vb{α:Type}[Inhabited α](enc:α->Value)(b:Nat)(d:Array α)(w:World):putRow enc w b 0 d=putRowK (fun x=>[enc x]) 1 w b 0 d:=by
 unfold putRowK;rw[Gy];unfold putRow
 congr 1
 funext c
 unfold putCells;refine Array.ext sS fun i h1 h2=>?_;simp only[Array.getElem_mapIdx,Array.size_map]
 split
 .rename_i h;have h3:i-0<d.size:=oO;rw[aCC d (i-0) h3,aCC (d.map enc) (i-0) (by simpa using h3)];simp
 .rfl
theorem NR{α:Type}[Inhabited α]{enc:α->Value}{w:World}{b:Nat}{d:Array α}(h:HoldsK (fun x=>[enc x]) 1 w b 0 d):Holds enc w b 0 d:=fun j hj=>by have h1:=h j (by simpa using hj);rw[Gy,aCC (d.map enc) j (by simpa using hj)]at h1;rw[aCC d j hj];simpa using h1
theorem Vf{w:World}{g:G}{st:St}(h:Inv w g st){q e s:Nat}{cs cs':List LV}(hl:st.H q=.box e s cs)(r9:g.nl q=false){F:Array Value}(hF:F.size=cs.length)(hc:cs'.length=cs.length)(hr:aC w g cs' F.toList)(m:Nat)(os:Array Obj):
 Inv (grow (putRow id (Sort.ahead w m) (g.β q) 0 F) os) g (st.set q (.box e s cs'))/\Ext w g (grow (putRow id (Sort.ahead w m) (g.β q) 0 F) os) g:=by
 obtain⟨_,_,k'⟩:=h.box q e s cs hl;obtain⟨n9,k1,k2,k4,k5,k6⟩:=k' r9
 obtain⟨i1,i2⟩:=rS (cs':=cs') (vs':=(putCells id 0 F n9.toArray).toList) h hl r9 (by simp[putCells,k2]) (by simp[putCells];omega) (by
  have:(putCells id 0 F n9.toArray).toList.take cs'.length=F.toList:=by
   refine aCu fun t=>?_;rw[aBQ];by_cases ht:t<cs'.length
   .have h1:t<n9.length:=oO;have h2:t<F.size:=oO;simp[putCells,ht,h1,h2]
   .rw[aAa ht,aCa (by simp;omega)]
  rw[this];exact hr)
 have hB:Below (w.setRow (g.β q) (putCells id 0 F n9.toArray).toList.toArray).heap.size (w.setRow (g.β q) (putCells id 0 F n9.toArray).toList.toArray) (grow (putRow id (Sort.ahead w m) (g.β q) 0 F) os):=by
  refine⟨rfl,rfl,rfl,by simp[Sort.ahead],fun b hb=>?_⟩;have X6:b<w.heap.size:=by simpa using hb
  have e1:(grow (putRow id (Sort.ahead w m) (g.β q) 0 F) os).heap[b]?=(putRow id (Sort.ahead w m) (g.β q) 0 F).heap[b]?:=by show((putRow id (Sort.ahead w m) (g.β q) 0 F).heap++os)[b]?=_;rw[aDU (by simpa[Sort.ahead]using X6)]
  rw[e1];by_cases hbq:b=g.β q
  .subst hbq;rw[setRow_heap _ _ _ _ _ _ k1];show((w.heap.modify (g.β q) (onCells (putCells id 0 F)))[g.β q]?)=_;rw[aEr,aAj rfl,k1];simp[onCells]
  .rw[setRow_other _ _ _ _ hbq];show((w.heap.modify (g.β q) (onCells (putCells id 0 F)))[b]?)=_;rw[aEr,aAa (fun h=>hbq h.symm)]
 exact⟨xQ i1 hB,i2.trans (sI g hB)⟩
abbrev El(w:World)(g:G)(ec:Int->List LV)(Dm:Int->Prop):Type:={ p:Int×List Value // Dm p.1/\aC w g (ec p.1) p.2 }
theorem Qe{w:World}{g:G}{ec:Int->List LV}{Dm:Int->Prop}:∀(l:List Int) (vs:List Value),(∀ x∈l,Dm x)->aC w g (l.flatMap ec) vs->∃ ps:List (El w g ec Dm),ps.map (·.1.1)=l/\ps.flatMap (·.1.2)=vs
 |[],vs,_,h=>⟨[],rfl,by simp only[aDh,aC]at h;simp[h]⟩
 |x::l,vs,hD,h=>by rw[aAH]at h;have h1:=dK (ec x).length _ _ h;have h2:=gM (ec x).length _ _ h;rw[aDu]at h1;rw[aDc]at h2;obtain⟨ps,e1,e2⟩:=Qe l _ (fun y hy=>hD y (aAc _ hy)) h2;refine⟨⟨(x,vs.take (ec x).length),hD x aAf,h1⟩::ps,by rw[aAm,e1],?_⟩;rw[aAH,e2];exact aAz _ _
theorem MC{w:World}{g:G}{ec:Int->List LV}{Dm:Int->Prop}:∀ ps:List (El w g ec Dm),aC w g ((ps.map (·.1.1)).flatMap ec) (ps.flatMap (·.1.2))
 |[]=>by simp[aC]
 |p::ps=>by rw[aAm,aAH,aAH];exact bW _ _ _ _ p.2.2 (MC ps)
theorem MF{α:Type}(f:α->Int):SWO (ltOf fun x y=>nE (f x) (f y)):=by refine⟨fun x=>?_,fun x y z=>?_,fun x y z=>?_⟩<;>simp only[ltOf,aBA,aCk,Iq]<;>omega
theorem yP{P:Program}{f x7:FuncId}{e k:Nat}(hf:Enters P f){ec:Int->List LV}(hk:∀ x,(ec x).length=k)(k0:0<k){Dm:Int->Prop}
 (hN:∀(p:Option Addr) (cap:Nat) (w:World),Calls P f #[.slice p 0 cap,.func (.func x7) #[] #[]] w fun e w'=>e=.returned (.tuple #[])/\w'=w)
 (hS:∀(w:World) (g:G) (b cap:Nat) [Inhabited (El w g ec Dm)] (d:Array (El w g ec Dm)),gY w g->g.φ b=some 0->b<w.heap.size->d.size<65536->HoldsK (fun x:El w g ec Dm=>x.1.2) k w b 0 d->
   Calls P f #[.slice (some ⟨b,0,none⟩) d.size cap,.func (.func x7) #[] #[]] w fun e w'=>e=.returned (.tuple #[])/\∃ d' n os,PermIn 0 d.size d d'/\SortedIn (ltOf fun x y=>nE x.1.1 y.1.1) 0 d.size d'/\w'=sortWorldK (fun x:El w g ec Dm=>x.1.2) k w b 0 n d' os)
 (l:List Int) (hD:∀ x∈l,Dm x) (q:Nat) (st:St) (hl:l.length<65536) (hq:q<st.next) (hH:st.H q=.box e k (l.flatMap ec)):
 aB P f [.ms q 0 l.length,.fn (.func x7) []] st fun r st'=>∃ c:List Int,st'.H q=.box e k (c.flatMap ec)/\c.Perm l/\c.Pairwise (·<=·)/\bP q st st':=by
 refine⟨hf,fun w g vs hi hr=>?_⟩;simp only[aC]at hr;obtain⟨v1,_,rfl,h1,v2,_,rfl,h2,rfl⟩:=hr;simp only[Rep]at h1 h2;obtain⟨A,cap,rfl,h3,h4,h5,h6,h7⟩:=h1;obtain⟨ws,rfl,h8⟩:=h2;simp only[aC]at h8;subst h8;by_cases hn:l.length=0
 .have hl0:l=[]:=aBt.1 hn;subst hl0;refine(hN A cap w).mono ?_;rintro e w' ⟨rfl,rfl⟩;exact⟨_,.tu [],st,g,rfl,⟨[],hH,aDQ _,List.Pairwise.nil,bP.refl q st⟩,by simp[Rep,aC],hi,Ext.refl w' g⟩
 have hA:=h6 hn;subst hA;obtain⟨b1,b2,b3⟩:=hi.box q e k _ hH;have P9:=Fl ec l fun x _=>hk x;have r9:g.nl q=false:=by refine Bool.eq_false_iff.2 fun h=>?_;have:=(b2 h).2;rw[this]at P9;have:0<l.length*k:=aDy oO k0;simp at P9;omega
 obtain⟨n9,c1,c2,c3,c4,c5⟩:=b3 r9;obtain⟨ps,p1,p2⟩:=Qe l _ hD c4;have U3:ps.length=l.length:=by rw[<- p1,aAD]
 haveI:Inhabited (El w g ec Dm):=⟨ps[0]'(by omega)⟩
 have hlen:∀ x:El w g ec Dm,x.1.2.length=k:=fun x=>by rw[<- aJ _ _ x.2.2,hk]
 have hfl:=wS (fun x:El w g ec Dm=>x.1.2) hlen ps.toArray;have hHo:HoldsK (fun x:El w g ec Dm=>x.1.2) k w (g.β q) 0 ps.toArray:=by
  intro j hj;have hj2:j<l.length*k:=by simpa[U3]using hj
  have h9:(flatK (fun x:El w g ec Dm=>x.1.2) k ps.toArray)[j]?=n9[j]?:=by rw[<- aCb,hfl];show(ps.flatMap fun x=>x.1.2)[j]?=_;rw[p2,aBQ,aAj (by rw[P9];exact hj2)]
  rw[aCC _ j hj];rw[aDo hj]at h9;rw[aBv];constructor
  .rw[cell_of_row _ _ _ _ _ _ c1,aCc,<- h9];rfl
  .unfold World.frozen?;rw[c1];simp
 have hb:=(aAJ.1 c1).1;have hC:=hS w g (g.β q) cap ps.toArray hi.aside.glob c5 hb (sF2 U3 hl) hHo;rw[aBc,U3]at hC;refine hC.mono ?_;rintro e' w' ⟨rfl,d',n,os,hp,hs,rfl⟩;have hds:d'.size=l.length:=by rw[hp.1,aBc,U3]
 have S4:d'.toList.Perm ps:=by have h:=hp.2.2;rw[aDT oO,aDT (sF1 U3)]at h;exact h
 have hfl2:=wS (fun x:El w g ec Dm=>x.1.2) hlen d';have hcs2:=Fl ec (d'.toList.map (·.1.1)) fun x _=>hk x;have hlm:(d'.toList.map (·.1.1)).length=l.length:=by simp[hds]
 obtain⟨i1,i2⟩:=Vf hi hH r9 (F:=flatK (fun x:El w g ec Dm=>x.1.2) k d') (cs':=(d'.toList.map (·.1.1)).flatMap ec) (by rw[size_flatK,hds,P9]) (by rw[hcs2,hlm,P9]) (by rw[hfl2];exact MC _) n os;refine⟨_,.tu [],_,g,rfl,⟨d'.toList.map (·.1.1),by simp[St.set],?_,?_,(bP.refl q st).set _⟩,by simp[Rep,aC],i1,i2⟩
 .have:=S4.map (·.1.1)
  rwa [p1]at this
 .rw[aAV,aAC];intro i j M4 hj' hij;have:=hs i j (aBI _) hij (by simp at hj';omega);rw[ltOf,aCk,Iq,aCC _ j (by simpa using hj'),aCC _ i (by simpa using M4)]at this;simp only[Array.getElem_toList];omega
end Aw
namespace Aw
open Go Go.RowKit Pl Go.Sort Go.Shelf Go.Lib
theorem MB(x:Int)(W:World):Calls prog 118 #[.int .u32 x] W fun e w'=>e=.returned (.bool false)/\w'=W:=by
 go_enter func118,ntmps118
 go_wp2
 go_ret
 simp
set_option maxRecDepth 100000 in
theorem DV(x y:Int)(W:World):Calls prog 77 #[.int .u32 x,.int .u32 y] W fun e w'=>e=.returned (.int .i64 (nE x y))/\w'=W:=by
 have h1:=fun W=>MB x W;have h2:=fun W=>MB y W
 go_enter func77,ntmps77
 go_wp2_with (go_at_call 118;first|(refine(h1 _).mono ?_;rintro e w' ⟨rfl,rfl⟩)|(refine(h2 _).mono ?_;rintro e w' ⟨rfl,rfl⟩))
 all_goals go_ret
 all_goals clear h1 h2
 all_goals exact⟨congrArg (fun z=>Ending.returned (.int .i64 z)) (by unfold nE;grind),rfl⟩
theorem Zl(a b:Ed)(W:World):Calls prog 170 #[.agg #[.int .u32 a.id,.int .u32 a.a,.int .u32 a.b],.agg #[.int .u32 b.id,.int .u32 b.a,.int .u32 b.b]] W fun e w'=>e=.returned (.int .i64 (nE a.id b.id))/\∃ q os',w'=grow (W.drewN q) os':=by
 have X8:=fun W'=>DV a.id b.id W';generalize nE a.id b.id=r at X8 ⊢
 go_enter func170,ntmps170
 go_wp2_with (go_at_call 77;refine(X8 _).mono ?_;rintro e w' ⟨rfl,rfl⟩)
 go_ret
 exact⟨rfl,0,_,by rw[alloc_eq_grow,alloc_eq_grow,grow_grow];rfl⟩
theorem RG{W:World}{b1 o1 n1 c1 b2 o2 n2 c2:Nat}{x y:Int}(h1:W.cell? ⟨b1,o1,none⟩=some (.int .u32 x))(h2:W.cell? ⟨b2,o2,none⟩=some (.int .u32 y))(k1:0<n1)(k2:0<n2):
 Calls prog 99 #[.slice (some ⟨b1,o1,none⟩) n1 c1,.slice (some ⟨b2,o2,none⟩) n2 c2] W fun e w'=>e=.returned (.int .i64 (nE x y))/\∃ q os',w'=grow (W.drewN q) os':=by
 have X8:=fun W'=>DV x y W';generalize nE x y=r at X8 ⊢;have mixed:prog.follows .mixedOrders=true:=by kernel_rfl
 go_enter func99,ntmps99
 go_wp2
 go_quiet ((go_at_call 77;refine(X8 _).mono ?_;rintro e w' ⟨rfl,rfl⟩;exact⟨rfl,_,rfl⟩))
 go_wp2
 go_ret
 exact⟨rfl,_,#[],by rw[grow_empty]⟩
end Aw
end Go.Proofs.YtbgngpdonpeboaaGreatDoor
