/- Plain: rows put behind one another, and the faces that are lost so; a row of segments. -/
import Derived.Test.YtbgngpdonpeboaaGreatDoorJm
set_option linter.unusedVariables false
set_option linter.unusedSimpArgs false
set_option linter.unusedSectionVars false
namespace Go.Proofs.YtbgngpdonpeboaaGreatDoor
namespace Aw
open Go Go.RowKit Pl Eu
theorem KH{P Q:List Int}{y z:Int}(hn:(P++y::z::Q).Nodup):nx (P++y::z::Q) y=z:=by
 have hk:P.length<(P++y::z::Q).length:=sS;have e:(P++y::z::Q)[P.length]=y:=by rw[aBz (aAm _)];simp
 have:=gY hn hk;rw[e]at this;rw[this];have e2:(P.length+1) % (P++y::z::Q).length=P.length+1:=aAJ sS;simp only[e2];rw[aBz oO];simp
theorem ES{z:Int}{Q P:List Int}{y:Int}(hn:(z::Q).Nodup)(h:z::Q=P++[y]):nx (z::Q) y=z:=by
 have h0:(P++[y])[0]?=some z:=by rw[<- h];rfl
 rw[h]at hn ⊢;have hk:P.length<(P++[y]).length:=sS;have e:(P++[y])[P.length]=y:=by rw[aBz (aAm _)];simp
 have:=gY hn hk;rw[e]at this;rw[this];have e2:(P.length+1) % (P++[y]).length=0:=sS;simp only[e2];rw[aAh sS,aAb]at h0;exact h0
theorem WD{R:List Int}{S:Int->List Int}(hR:R.Nodup)(hn:(R.flatMap S).Nodup)(hS:∀ x∈R,S x≠[]){x:Int}(hx:x∈R):
 (∀ p y z q,S x=p++y::z::q->nx (R.flatMap S) y=z)/\∀ p y,S x=p++[y]->∃ z q,S (nx R x)=z::q/\nx (R.flatMap S) y=z:=by
 obtain⟨A,B,rfl⟩:=aBh hx;constructor
 .intro p y z q h;have e:(A++x::B).flatMap S=(A.flatMap S++p)++y::z::(q++B.flatMap S):=by simp[aCk,aAF,h]
  rw[e]at hn ⊢;exact KH hn
 .intro p y h;cases B with
  |cons x' B=>
   have h2:=hS x' sS;obtain⟨z,q,hz⟩:=aBv h2;refine⟨z,q,?_,?_⟩
   .rw[KH hR,hz]
   .have e:(A++x::x'::B).flatMap S=(A.flatMap S++p)++y::z::(q++B.flatMap S):=by simp[aCk,aAF,h,hz]
    rw[e]at hn ⊢;exact KH hn
  |nil=>
   cases A with
   |nil=>
    obtain⟨z,q,hz⟩:=aBv (hS x sS);refine⟨z,q,?_,?_⟩
    .have e:nx [x] x=x:=ES (z:=x) (Q:=[]) (P:=[]) sS rfl;rw[List.nil_append,e,hz]
    .have e:([]++[x]).flatMap S=z::q:=by simp[hz]
     rw[e]at hn ⊢;exact ES hn (by rw[<- hz,h])
   |cons x' A=>
    obtain⟨z,q,hz⟩:=aBv (hS x' sS);refine⟨z,q,?_,?_⟩
    .have e:nx (x'::A++[x]) x=x':=ES (z:=x') (Q:=A++[x]) (P:=x'::A) (by simpa using hR) sS;rw[e,hz]
    .have e:(x'::A++[x]).flatMap S=z::(q++A.flatMap S++(p++[y])):=by simp[aCk,aAF,h,hz]
     rw[e]at hn ⊢;exact ES (P:=z::(q++A.flatMap S++p)) hn sS
theorem lE:∀ G:List (List (List Int)),(G.map List.flatten).flatten=G.flatten.flatten
 |[]=>rfl
 |a::G=>by rw[aAl,List.flatten_cons,List.flatten_cons,aBS,lE G]
noncomputable def fcs(al:Int->Int)(D:List Int)(Rs:List (List Int)):Nat:=ncl (Orb fun d=>sgR Rs (al d)) D
def gG(Rs:List (List Int)):Nat:=(Rs.filter fun t=>decide (t≠[])).length
structure Inv2(al:Int->Int)(D:List Int):Prop where
 two:∀ d,al (al d)=d
 mem:∀ d∈D,al d∈D
section
variable {al:Int->Int} {D:List Int} (Z7:Inv2 al D) (H9:∀ d,d∉D->al d=d)
include Z7 H9
theorem Iy{Rs:List (List Int)}(hn:Rs.flatten.Nodup)(hD:∀ d∈Rs.flatten,d∈D):dF D fun d=>sgR Rs (al d):=by
 have h:=lK hn;refine⟨fun x hx=>?_,fun x y e=>?_,fun x hx=>?_⟩
 .by_cases hy:al x∈Rs.flatten
  .exact hD _ (h.mem _ hy)
  .show sgR Rs (al x)∈D;rw[h.out _ hy];exact Z7.mem x hx
 .have:=h.inj _ _ e;rw[<- Z7.two x,this,Z7.two]
 .show sgR Rs (al x)=x;rw[H9 x hx,h.out x fun k=>hx (hD x k)]
theorem Yb(a b d:Int):Eu.sw a b (al d)=al (Eu.sw (al a) (al b) d):=by
 by_cases h1:d=al a
 .subst h1;rw[Cq,Z7.two,Z7.two,Cq]
 .by_cases h2:d=al b
  .subst h2;rw[Gt,Z7.two,Z7.two,Gt]
  .rw[sP h1 h2,sP (fun e=>h1 (by rw[<- e,Z7.two])) (fun e=>h2 (by rw[<- e,Z7.two]))]
omit Z7 H9 in
theorem pP{Rs Rs':List (List Int)}(hn:Rs.flatten.Nodup)(hp:Rs.Perm Rs'):fcs al D Rs=fcs al D Rs':=by
 unfold fcs;have:(fun d=>sgR Rs (al d))=fun d=>sgR Rs' (al d):=by funext d;exact Ro hn hp _
 rw[this]
omit Z7 H9 in
theorem mX{Rs Rs':List (List Int)}(hp:Rs.Perm Rs'):gG Rs=gG Rs':=(hp.filter _).length_eq
omit Z7 H9 in
theorem Fk(Rs:List (List Int)):fcs al D ([]::Rs)=fcs al D Rs:=by
 unfold fcs;have:(fun d=>sgR ([]::Rs) (al d))=fun d=>sgR Rs (al d):=by
  funext d;unfold sgR;rw[aCR sS]
 rw[this]
omit Z7 H9 in
theorem BK(Rs:List (List Int)):gG ([]::Rs)=gG Rs:=by simp[gG]
theorem Wz{A B:List Int}{Rs:List (List Int)}(hn:(A::B::Rs).flatten.Nodup)(hD:∀ d∈(A::B::Rs).flatten,d∈D):fcs al D (A::B::Rs)+gG ((A++B)::Rs)<=fcs al D ((A++B)::Rs)+gG (A::B::Rs):=by
 by_cases hA:A=[]
 .subst hA;rw[Fk,BK,List.nil_append];exact aAm _
 by_cases hB:B=[]
 .subst hB;have hp:(A::[]::Rs).Perm ([]::A::Rs):=List.Perm.swap _ _ _;rw[pP hn hp,mX hp,Fk,BK,aAO];exact aAm _
 have e:(fun d=>sgR ((A++B)::Rs) (al d))=fun d=>(fun d=>sgR (A::B::Rs) (al d)) (Eu.sw (al (A.getLast hA)) (al (B.getLast hB)) d):=by
  funext d
  show sgR ((A++B)::Rs) (al d)=sgR (A::B::Rs) (al (Eu.sw (al (A.getLast hA)) (al (B.getLast hB)) d));rw[VK hn hA hB,Yb Z7 H9]
 have hP:=Iy Z7 H9 hn hD;have ha:al (A.getLast hA)∈D:=Z7.mem _ (hD _ sS);have hb:al (B.getLast hB)∈D:=Z7.mem _ (hD _ sS);have:=Wj hP ha hb;have h1:fcs al D (A::B::Rs)<=fcs al D ((A++B)::Rs)+1:=by unfold fcs;rw[e];exact this
 have h2:gG (A::B::Rs)=gG Rs+2:=by simp[gG,hA,hB]
 have h3:gG ((A++B)::Rs)=gG Rs+1:=by simp[gG,hA]
 omega
theorem Rf:∀(L:List (List Int)) {Rs:List (List Int)},(L++Rs).flatten.Nodup->(∀ d∈(L++Rs).flatten,d∈D)->fcs al D (L++Rs)+gG (L.flatten::Rs)<=fcs al D (L.flatten::Rs)+gG (L++Rs)
 |[],Rs,_,_=>by rw[List.nil_append,List.flatten_nil,Fk,BK];exact aAm _
 |A::L,Rs,hn,hD=>by have p1:(A::L++Rs).Perm (L++A::Rs):=aBF.symm;have I7:(L++A::Rs).flatten.Nodup:=p1.flatten.nodup_iff.1 hn;have hD1:∀ d∈(L++A::Rs).flatten,d∈D:=fun d hd=>hD d (p1.flatten.mem_iff.2 hd);have ih:=Rf L I7 hD1;have e2:(L.flatten::A::Rs).flatten=(L++A::Rs).flatten:=sS;have p2:(L.flatten::A::Rs).Perm (A::L.flatten::Rs):=List.Perm.swap _ _ _;have N8:(A::L.flatten::Rs).flatten.Nodup:=p2.flatten.nodup_iff.1 (by rw[e2];exact I7);have hD2:∀ d∈(A::L.flatten::Rs).flatten,d∈D:=fun d hd=>hD1 d (by rw[<- e2];exact p2.flatten.mem_iff.2 hd);have m1:=Wz Z7 H9 N8 hD2;rw[pP hn p1,mX p1,List.flatten_cons];rw[pP (by rw[e2];exact I7) p2,mX p2]at ih;omega
theorem Pn:∀(G:List (List (List Int))) {Rs:List (List Int)},(G.flatten++Rs).flatten.Nodup->(∀ d∈(G.flatten++Rs).flatten,d∈D)->fcs al D (G.flatten++Rs)+gG (G.map List.flatten++Rs)<=fcs al D (G.map List.flatten++Rs)+gG (G.flatten++Rs)
 |[],Rs,_,_=>by simp
 |L::G,Rs,hn,hD=>by
  have e0:(L::G).flatten++Rs=L++(G.flatten++Rs):=sS;rw[e0]at hn hD;have m1:=Rf Z7 H9 L hn hD;have p1:(L.flatten::(G.flatten++Rs)).Perm (G.flatten++L.flatten::Rs):=aBF.symm;have e1:(L.flatten::(G.flatten++Rs)).flatten=(L++(G.flatten++Rs)).flatten:=sS;have I7:(L.flatten::(G.flatten++Rs)).flatten.Nodup:=by rw[e1];exact hn
  have N8:(G.flatten++L.flatten::Rs).flatten.Nodup:=p1.flatten.nodup_iff.1 I7;have hD2:∀ d∈(G.flatten++L.flatten::Rs).flatten,d∈D:=fun d hd=>hD d (by rw[<- e1];exact p1.flatten.mem_iff.2 hd);have ih:=Pn G N8 hD2;have p2:(G.map List.flatten++L.flatten::Rs).Perm (L.flatten::(G.map List.flatten++Rs)):=aBF;have hf:(G.map List.flatten++L.flatten::Rs).flatten.Perm (G.flatten++L.flatten::Rs).flatten:=by
   have:(G.map List.flatten++L.flatten::Rs).flatten=(G.flatten++L.flatten::Rs).flatten:=by rw[aBS,aBS,lE]
   rw[this]
  have hn3:(G.map List.flatten++L.flatten::Rs).flatten.Nodup:=hf.nodup_iff.2 N8;rw[pP I7 p1,mX p1]at m1;rw[pP hn3 p2,mX p2]at ih;rw[e0,aAl,List.cons_append];omega
end
theorem Eg{x y:Ed}:bes x y=true↔prE x=prE y:=by
 rw[rP];constructor
 .rintro(⟨h1,h2⟩|⟨h1,h2⟩)
  .show prP _ _=prP _ _;rw[h1,h2]
  .show prP _ _=prP _ _;rw[h1,h2];exact aJ _ _
 .intro h;rcases bF h with⟨h1,h2⟩|⟨h1,h2⟩
  .exact .inl ⟨h1,h2⟩
  .exact .inr ⟨h1,h2⟩
theorem rF(l:List Ed):((sE l).map prE).Nodup:=by unfold List.Nodup;rw[aAV];exact(Ho l).imp fun {x y} h e=>by rw[Eg.2 e]at h;cases h
theorem Hr{l:List Ed}:l.Pairwise (fun x y=>x.id<y.id)->∀ x∈l,∃ y∈sE l,prE y=prE x/\y.id<=x.id:=by
 induction l using yI with
 |h0=>intro _ x hx;cases hx
 |h1 l z ih=>
  intro hp x hx;rw[aBO]at hp;rw[mC];rcases aAd.1 hx with h|h
  .obtain⟨y,h1,h2⟩:=ih hp.1 x h
   split
   .exact⟨y,h1,h2⟩
   .exact⟨y,aAq _ h1,h2⟩
  .rw[aAk]at h;subst h
   split
   .rename_i ha;rw[aDy]at ha;obtain⟨y,h1,h2⟩:=ha;exact⟨y,h1,(Eg.1 h2).symm,Int.le_of_lt (hp.2.2 y (iT _ y h1) x sS)⟩
   .exact⟨x,sS,rfl,aDd _⟩
theorem lA{α β:Type}{f:α->List β}:∀ {l:List α},l.Nodup->(∀ x∈l,(f x).Nodup)->(∀ x∈l,∀ y∈l,∀ z,z∈f x->z∈f y->x=y)->(l.flatMap f).Nodup
 |[],_,_,_=>.nil
 |x::l,hl,h1,h2=>by obtain⟨k1,k2⟩:=aAp.1 hl;rw[aAF,aAo];refine⟨h1 x aAf,lA k2 (fun y hy=>h1 y (aAc _ hy)) fun y hy z hz=>h2 y (aAc _ hy) z (aAc _ hz),?_⟩;rintro a ha b hb rfl;obtain⟨y,hy,hay⟩:=aAY.1 hb;have:=h2 x aAf y (aAc _ hy) a ha hay;exact k1 (by rw[this];exact hy)
theorem Jb{P Q:List Int}{y z:Int}(hn:(P++y::z::Q).Nodup):pv (P++y::z::Q) z=y:=by
 have hk:P.length+1<(P++y::z::Q).length:=sS;have e:(P++y::z::Q)[P.length+1]=z:=by rw[aBz oO];simp
 have hz:z∈P++y::z::Q:=sS;have hi:(P++y::z::Q).idxOf z=P.length+1:=by
  have:=hn.idxOf_getElem (P.length+1) hk
  rwa [e]at this
 unfold pv;rw[aAj hz,hi];have e2:(P.length+1+((P++y::z::Q).length-1)) % (P++y::z::Q).length=P.length:=by have hl:(P++y::z::Q).length=P.length+(Q.length+2):=sS;rw[show P.length+1+((P++y::z::Q).length-1)=P.length+(P++y::z::Q).length by omega,aDq,aAJ oO]
 rw[e2,aAg,aBu (aAm _)];simp
abbrev seg(g:Gr)(v x:Int):List Int:=fO (kI g v x) v x
def dAt(v:Int)(e:Ed):Int:=2*e.id+if e.b=v then 1 else 0
theorem jO(v:Int)(e:Ed):dAt v e / 2=e.id:=by unfold dAt;split<;>omega
theorem nU{g:Gr}{v x:Int}{e:Ed}:e∈kI g v x↔e∈g.es/\prE e=prP v x:=by unfold kI jR;rw[aAy,aAR]
theorem kJ{g:Gr}{v x d:Int}:d∈seg g v x↔∃ e∈g.es,prE e=prP v x/\d=dAt v e:=by
 unfold seg fO;have key:d∈((kI g v x).map fun e=>2*e.id+if e.b=v then 1 else 0)↔∃ e∈g.es,prE e=prP v x/\d=dAt v e:=by
  rw[aAi];constructor
  .rintro⟨e,he,rfl⟩;exact⟨e,(nU.1 he).1,(nU.1 he).2,rfl⟩
  .rintro⟨e,h1,h2,rfl⟩;exact⟨e,nU.2 ⟨h1,h2⟩,rfl⟩
 split
 .rw[aBp,key]
 .exact key
section
variable {g:Gr} (hg:GoodE g)
include hg
theorem RY{e:Ed}(he:e∈g.es){v x:Int}(h:prE e=prP v x):tw (dAt v e)=dAt x e:=by
 have Zo:=hg.ne e he;unfold tw dAt;rcases bF h with⟨h1,h2⟩|⟨h1,h2⟩
 .rw[aAa (show ¬e.b=v by omega),aAj (show e.b=x by omega),aAj oO];omega
 .rw[aAj (show e.b=v by omega),aAa (show ¬e.b=x by omega),aAa oO];omega
theorem Pj{e f:Ed}(he:e∈g.es)(hf:f∈g.es)(h:e.id=f.id):e=f:=id_eq hg.ids he hf h
theorem nK(v x:Int):(seg g v x).Nodup:=by
 have key:((kI g v x).map fun e=>2*e.id+if e.b=v then 1 else 0).Nodup:=by unfold List.Nodup;rw[aAV];refine(hg.ids.sublist (aAP (p:=fun e=>decide (prE e=prP v x)))).imp fun {a b} h e=>?_;have h1:=jO v a;have h2:=jO v b;unfold dAt at h1 h2;omega
 unfold seg fO
 split
 .exact(aBr _).nodup_iff.2 key
 .exact key
theorem Xc{v x:Int}(Zo:v≠x):seg g x v=((seg g v x).map tw).reverse:=by
 have hb:kI g x v=kI g v x:=by unfold kI;rw[aJ]
 have key:((kI g v x).map fun e=>2*e.id+if e.b=x then 1 else 0)=((kI g v x).map fun e=>2*e.id+if e.b=v then 1 else 0).map tw:=by rw[aAX];refine aAN fun e he=>?_;exact(RY hg (nU.1 he).1 (nU.1 he).2).symm
 unfold seg fO;rw[hb,key];by_cases h:x<v
 .rw[aAa oO,aAj h,List.map_reverse,aCC]
 .rw[aAj oO,aAa h]
def edD(g:Gr)(d:Int):Ed:=(g.es.find? fun e=>decide (e.id=d / 2)).getD ed0
def dvt(g:Gr)(d:Int):Int:=if d % 2=0 then(edD g d).a else(edD g d).b
def dot(g:Gr)(d:Int):Int:=if d % 2=0 then(edD g d).b else(edD g d).a
theorem Wn{e:Ed}(he:e∈g.es){d:Int}(h:d / 2=e.id):edD g d=e:=by
 unfold edD;cases hf:g.es.find? fun e=>decide (e.id=d / 2) with
 |none=>exact absurd h.symm (by simpa using aCP.1 hf e he)
 |some f=>have h1:=aBT hf;have h2:=aCM hf;rw[aAR]at h2;show f=e;exact Pj hg h1 he oO
theorem Po{e:Ed}(he:e∈g.es){v x:Int}(h:prE e=prP v x):dvt g (dAt v e)=v/\dot g (dAt v e)=x:=by
 have Zo:=hg.ne e he;unfold dvt dot;rw[Wn hg he (jO v e)];unfold dAt;rcases bF h with⟨h1,h2⟩|⟨h1,h2⟩
 .rw[aAa (show ¬e.b=v by omega),aAj oO,aAj oO];exact⟨h1,h2⟩
 .rw[aAj (show e.b=v by omega),aAa oO,aAa oO];exact⟨h2,h1⟩
theorem xW{v x d:Int}(h:d∈seg g v x):dvt g d=v/\dot g d=x:=by obtain⟨e,he,hp,rfl⟩:=kJ.1 h;exact Po hg he hp
theorem Qg{d:Int}(h:d∈aU g.es):∃ e∈g.es,prE e=prP (dvt g d) (dot g d)/\d=dAt (dvt g d) e/\d∈seg g (dvt g d) (dot g d):=by
 obtain⟨e,he,hd⟩:=dO.1 h;have Zo:=hg.ne e he;have key:∀ v x,prE e=prP v x->d=dAt v e->∃ e∈g.es,prE e=prP (dvt g d) (dot g d)/\d=dAt (dvt g d) e/\d∈seg g (dvt g d) (dot g d):=fun v x hp hd=>by obtain⟨k1,k2⟩:=Po hg he hp;rw[<- hd]at k1 k2;rw[k1,k2];exact⟨e,he,hp,hd,kJ.2 ⟨e,he,hp,hd⟩⟩
 rcases hd with hd|hd
 .exact key e.a e.b rfl (by unfold dAt;rw[aAa (fun k=>Zo k.symm)];omega)
 .exact key e.b e.a (aJ _ _) (by unfold dAt;rw[aAj rfl];exact hd)
theorem IF{v x d:Int}(h:d∈seg g v x):d∈aU g.es:=by obtain⟨e,he,hp,rfl⟩:=kJ.1 h;exact fZ.2 ⟨e,he,(jO _ _).symm⟩
theorem Qd{v d:Int}:d∈ends g.es v↔∃ e∈g.es,(∃ x,prE e=prP v x)/\d=dAt v e:=by
 rw[cJ];constructor
 .rintro⟨e,he,⟨h1,h2⟩|⟨h1,h2⟩⟩
  .have:=hg.ne e he;exact⟨e,he,⟨e.b,by rw[<- h1]⟩,by unfold dAt;rw[aAa oO];omega⟩
  .exact⟨e,he,⟨e.a,by rw[<- h1];exact aJ _ _⟩,by unfold dAt;rw[aAj h1];exact h2⟩
 .rintro⟨e,he,⟨x,hp⟩,rfl⟩;have:=hg.ne e he;refine⟨e,he,?_⟩;unfold dAt;rcases bF hp with⟨h1,h2⟩|⟨h1,h2⟩
  .exact .inl ⟨h1,by rw[aAa oO];omega⟩
  .exact .inr ⟨h2,by rw[aAj h2]⟩
end
def bt(g:Gr)(F:List (List Int))(v:Int):List Int:=(bX (dJ v (aS F))).flatMap (seg g v)
theorem DX(v v':Int)(ds:List Int):∀ T:TL,eH v (pG v' ds T)=if v=v' then eH v T++ds else eH v T
 |[]=>by
  unfold pG eH eH;by_cases h:v=v'
  .simp[h]
  .rw[aAa fun e=>h e.symm,aAa h]
 |p::T=>by
  have ih:=DX v v' ds T;unfold pG;by_cases hp:p.1=v'
  .rw[aAj hp];by_cases h:v=v'
   .simp[eH,h,hp]
   .simp only[eH,aAa h,aAa (fun e:v'=v=>h e.symm),aAa (fun e:p.1=v=>h (by rw[<- e,hp]))]
  .rw[aAa hp];by_cases h:v=v'
   .rw[aAj h]at ih ⊢;simp only[eH,aAa (fun e:p.1=v=>hp (by rw[e,h])),ih]
   .rw[aAa h]at ih ⊢;simp only[eH,ih]
theorem Bg(g:Gr)(v v':Int):∀(L:List Int) (T:TL),eH v (dZ g v' L T)=if v=v' then eH v T++L.flatMap (seg g v')else eH v T
 |[],T=>by simp[dZ]
 |x::L,T=>by
  have ih:=Bg g v v' L (pG v' (seg g v' x) T);have e:dZ g v' (x::L) T=dZ g v' L (pG v' (seg g v' x) T):=rfl;rw[e,ih,DX];by_cases h:v=v'
  .simp[h,aAF]
  .simp[h]
theorem Bh(g:Gr)(A:Tn)(v:Int):∀(K:List Int) (T:TL),K.Nodup->eH v (fM g A K T)=if v∈K then eH v T++(bX (dJ v A)).flatMap (seg g v)else eH v T
 |[],T,_=>by simp[fM]
 |k::K,T,hn=>by
  obtain⟨h1,h2⟩:=aAp.1 hn;have ih:=Bh g A v K (dZ g k (bX (dJ k A)) T) h2;have e:fM g A (k::K) T=fM g A K (dZ g k (bX (dJ k A)) T):=rfl;rw[e,ih,Bg];by_cases h:v=k
  .subst h;rw[aAa h1,aAj rfl,aAj aAf]
  .rw[aAa h];by_cases h3:v∈K
   .rw[aAj h3,aAj (aAc _ h3)]
   .rw[aAa h3,aAa (sF2 h h3)]
theorem Dh{v:Int}:∀ {A:Tn},v∉A.map (·.1)->dJ v A=[]
 |[],_=>rfl
 |a::A,h=>by rw[aAl,aAe,aCr]at h;unfold dJ;rw[aAa fun e=>h.1 e.symm,Dh h.2]
theorem nG:bX []=[]:=rfl
theorem MW(g:Gr)(F:List (List Int))(T:TL)(v:Int):eH v (uR g F T)=eH v T++bt g F v:=by
 have hn:(rH ((aS F).map (·.1))).Nodup:=(zC _).imp fun k=>by omega
 unfold uR;rw[Bh g _ v _ T hn]
 split
 .rfl
 .rename_i h;rw[rM]at h;unfold bt;rw[Dh h,nG];simp
theorem Ai(g:Gr):∀(bl:List (List Ed)) (T T':TL),yY g bl T=some (some T')->∃ Bs:List (List Ed×List (List Int)),Bs.map (·.1)=bl/\(∀ p∈Bs,pU p.1=some (some p.2))/\∀ v,eH v T'=eH v T++Bs.flatMap fun p=>bt g p.2 v
 |[],T,T',h=>by
  simp only[yY,aAb]at h;subst h;refine⟨[],?_,?_,?_⟩
  .rfl
  .intro p hp;cases hp
  .intro v;simp
 |l::bl,T,T',h=>by
  unfold yY at h;cases hd:pU l with
  |none=>rw[hd]at h;simp at h
  |some o=>
   rw[hd]at h;cases o with
   |none=>simp at h
   |some F=>
    simp only[Option.bind_some]at h
    split at h
    .obtain⟨Bs,h1,h2,h3⟩:=Ai g bl _ T' h;refine⟨(l,F)::Bs,by rw[aAl,h1],fun p hp=>?_,fun v=>?_⟩
     .rcases aAe.1 hp with rfl|hp
      .exact hd
      .exact h2 p hp
     .rw[h3,MW,aAF,aAD]
    .cases h
abbrev BsT:=List (List Ed×List (List Int))
structure Sys(g:Gr)(Bs:BsT):Prop where
 gE:GoodE g
 ok:∀ p∈Bs,jP p.1 p.2/\BlE p.1/\p.1≠[]
 flat:(Bs.flatMap (·.1)).Perm (sE g.es)
theorem zT{α β:Type}{f:α->List β}:∀ {l:List α},(l.flatMap f).Nodup->∀ x∈l,∀ y∈l,∀ z,z∈f x->z∈f y->x=y
 |[],_,_,hx,_,_,_,_,_=>by cases hx
 |a::l,hn,x,hx,y,hy,z,h1,h2=>by
  rw[aAF,aAo]at hn;rcases aAe.1 hx with ex|hx
  .rcases aAe.1 hy with ey|hy
   .rw[ex,ey]
   .exact absurd rfl (hn.2.2 z (by rw[<- ex];exact h1) z (aAY.2 ⟨y,hy,h2⟩))
  .rcases aAe.1 hy with ey|hy
   .exact absurd rfl (hn.2.2 z (by rw[<- ey];exact h2) z (aAY.2 ⟨x,hx,h1⟩))
   .exact zT hn.2.1 x hx y hy z h1 h2
theorem QZ{α β:Type}{f:α->List β}:∀ {l:List α},(l.flatMap f).Nodup->(∀ x∈l,f x≠[])->l.Nodup/\∀ x∈l,(f x).Nodup
 |[],_,_=>⟨.nil,fun _ h=>by cases h⟩
 |a::l,hn,h=>by
  rw[aAF,aAo]at hn;obtain⟨k1,k2⟩:=QZ hn.2.1 fun x hx=>h x (aAc _ hx);refine⟨aAp.2 ⟨fun ha=>?_,k1⟩,fun x hx=>?_⟩
  .obtain⟨z,hz⟩:=aAM _ (h a aAf);exact hn.2.2 z hz z (aAY.2 ⟨a,ha,hz⟩) rfl
  .rcases aAe.1 hx with rfl|hx
   .exact hn.1
   .exact k2 x hx
theorem oS{E:List Ed}{F:List (List Int)}(hO:jP E F)(hE:BlE E){v:Int}(hv:v∉vsF E):dJ v (aS F)=[]:=by
 have hk:=(hO.keys hE v).2;cases h:dJ v (aS F) with
 |nil=>rfl
 |cons p P=>rw[h]at hk;obtain⟨e,he,hp⟩:=(hO.mem p.1 v).1 ((hk p.1).1 sS);exact absurd (fT he hp).2 hv
def rgO(Bs:BsT)(p:Int×Int):List (Int×Int):=match(Bs.flatMap (·.2)).find? (fun r=>decide (p∈prs r)) with
 |some r=>prs r
 |none=>[]
def lab(g:Gr)(Bs:BsT)(d:Int):List (Int×Int) ⊕ Int:=
 if(seg g (dvt g d) (dot g d)).head?=some d then .inl (rgO Bs (dvt g d,dot g d))else .inr (max (d / 2) (pv (seg g (dvt g d) (dot g d)) d / 2))
def grp(g:Gr)(Bs:BsT):List (List (List Int)):=g.vs.map fun v=>Bs.map fun p=>bt g p.2 v
def jT(g:Gr)(Bs:BsT)(v:Int):List Int:=Bs.flatMap fun p=>bt g p.2 v
theorem IA(g:Gr)(Bs:BsT):(grp g Bs).map List.flatten=g.vs.map (jT g Bs):=by unfold grp jT;rw[aAX];exact aAN fun v _=>by rw[Function.comp_apply,List.flatMap_def]
section
variable {g:Gr} {Bs:BsT} (hS:Sys g Bs)
include hS
theorem Sys.sim:(Bs.flatMap fun p=>p.1.map prE).Nodup:=by
 have:=(hS.flat.map prE).nodup_iff.2 (rF g.es)
 rwa [aEa]at this
theorem Sys.nd:Bs.Nodup:=(QZ hS.sim fun p hp=>by rw[Ne,aCG];exact(hS.ok p hp).2.2).1
theorem Sys.same{p p':List Ed×List (List Int)}(hp:p∈Bs)(O9:p'∈Bs){e e':Ed}(he:e∈p.1)(he':e'∈p'.1)(h:prE e=prE e'):p=p':=
 zT hS.sim p hp p' O9 (prE e) (aAt he) (by rw[h];exact aAt he')
theorem Sys.blk{e:Ed}(he:e∈g.es):∃ p∈Bs,∃ e1∈p.1,prE e1=prE e:=by obtain⟨y,h1,h2,_⟩:=Hr hS.gE.ids e he;obtain⟨p,hp,hy⟩:=aAY.1 (hS.flat.mem_iff.2 h1);exact⟨p,hp,y,hy,h2⟩
theorem Sys.sub{p:List Ed×List (List Int)}(hp:p∈Bs){e:Ed}(he:e∈p.1):e∈sE g.es/\e∈g.es:=by have:=hS.flat.mem_iff.1 (aAY.2 ⟨p,hp,he⟩);exact⟨this,iT _ _ this⟩
theorem Sys.bt_mem{p:List Ed×List (List Int)}(hp:p∈Bs){v d:Int}:d∈bt g p.2 v↔∃ e∈g.es,(∃ x,prE e=prP v x)/\d=dAt v e/\∃ e1∈p.1,prE e1=prE e:=by
 obtain⟨hO,hE,h0⟩:=hS.ok p hp;by_cases hv:v∈vsF p.1
 .have hR:=(hO.round hE h0 hv).2.2.1;unfold bt;rw[aAY];constructor
  .rintro⟨x,hx,hd⟩;obtain⟨e,he,N4,rfl⟩:=kJ.1 hd;obtain⟨e1,he1,P7⟩:=(hR x).1 hx;exact⟨e,he,⟨x,N4⟩,rfl,e1,he1,by rw[P7,N4]⟩
  .rintro⟨e,he,⟨x,N4⟩,rfl,e1,he1,P7⟩;exact⟨x,(hR x).2 ⟨e1,he1,by rw[P7,N4]⟩,kJ.2 ⟨e,he,N4,rfl⟩⟩
 .unfold bt;rw[oS hO hE hv,nG];simp only[aDc,aCa,false_iff];rintro⟨e,he,⟨x,N4⟩,_,e1,he1,P7⟩;exact hv (fT he1 (by rw[P7,N4])).1
theorem Sys.bt_nodup{p:List Ed×List (List Int)}(hp:p∈Bs)(v:Int):(bt g p.2 v).Nodup:=by
 obtain⟨hO,hE,h0⟩:=hS.ok p hp;unfold bt;by_cases hv:v∈vsF p.1
 .refine lA (hO.round hE h0 hv).1 (fun x _=>nK hS.gE v x) fun x _ y _ d h1 h2=>?_;rw[<- (xW hS.gE h1).2,(xW hS.gE h2).2]
 .rw[oS hO hE hv,nG];exact .nil
theorem Sys.turn_nodup(v:Int):(jT g Bs v).Nodup:=by refine lA hS.nd (fun p hp=>hS.bt_nodup hp v) fun p hp p' O9 d h1 h2=>?_;obtain⟨e,he,_,k1,e1,a1,a2⟩:=(hS.bt_mem hp).1 h1;obtain⟨f,hf,_,k2,f1,b1,b2⟩:=(hS.bt_mem O9).1 h2;have:e=f:=Pj hS.gE he hf (by rw[<- jO v e,<- k1,k2,jO]);subst this;exact hS.same hp O9 a1 b1 (by rw[a2,b2])
theorem Sys.turn_mem{v d:Int}:d∈jT g Bs v↔d∈ends g.es v:=by
 unfold jT;rw[Qd hS.gE,aAY];constructor
 .rintro⟨p,hp,h⟩;obtain⟨e,he,hx,hd,_⟩:=(hS.bt_mem hp).1 h;exact⟨e,he,hx,hd⟩
 .rintro⟨e,he,hx,hd⟩;obtain⟨p,hp,e1,h1,h2⟩:=hS.blk he;exact⟨p,hp,(hS.bt_mem hp).2 ⟨e,he,hx,hd,e1,h1,h2⟩⟩
theorem Sys.turn_perm(v:Int):(jT g Bs v).Perm (ends g.es v):=
 (aAZ (hS.turn_nodup v) (iW (Di hS.gE.ids v))).2 fun _=>hS.turn_mem
theorem Sys.grp_ff:(grp g Bs).flatten.flatten=g.vs.flatMap (jT g Bs):=by rw[<- lE,IA,List.flatMap_def]
theorem Sys.grp_nd:(grp g Bs).flatten.flatten.Nodup:=by rw[hS.grp_ff];refine lA hS.gE.toGood.nodup (fun v _=>hS.turn_nodup v) fun v _ w _ d h1 h2=>?_;exact dL hS.gE.ids (hS.turn_mem.1 h1) (hS.turn_mem.1 h2)
theorem Sys.grp_mem{d:Int}:d∈(grp g Bs).flatten.flatten↔d∈aU g.es:=by
 rw[hS.grp_ff,aAY];constructor
 .rintro⟨v,_,h⟩;exact nH (hS.turn_mem.1 h)
 .intro h;obtain⟨v,h1,x,hx,_,h2⟩:=Ec h;have:=hS.gE.ends x hx;exact⟨v,by rcases h2 with rfl|rfl;(· exact this.1);(· exact this.2),hS.turn_mem.2 h1⟩
theorem Sys.ring_at{p:List Ed×List (List Int)}(hp:p∈Bs){r:List Int}(hr:r∈p.2){q:Int×Int}(hq:q∈prs r):rgO Bs q=prs r:=by
 unfold rgO;cases hf:(Bs.flatMap (·.2)).find? fun r=>decide (q∈prs r) with
 |none=>exact absurd hq (by simpa using aCP.1 hf r (aAY.2 ⟨p,hp,hr⟩))
 |some r'=>have h1:=aBT hf;have h2:=aCM hf;rw[aAR]at h2;obtain⟨p',O9,O1⟩:=aAY.1 h1;obtain⟨e,he,k⟩:=((hS.ok p hp).1.mem q.1 q.2).1 (aV.2 ⟨r,hr,hq⟩);obtain⟨e',he',k'⟩:=((hS.ok p' O9).1.mem q.1 q.2).1 (aV.2 ⟨r',O1,h2⟩);have:=hS.same hp O9 he he' (by rw[k,k']);subst this;have:=zT (f:=prs) (hS.ok p hp).1.nd r hr r' O1 q hq h2;rw[this]
theorem Sys.lab_inv{d:Int}(hd:d∈aU g.es):lab g Bs (sgR (grp g Bs).flatten (al g.es d))=lab g Bs d:=by
 have hg:=hS.gE;rw[EC hd];obtain⟨e,he,N4,hde,W8⟩:=Qg hg hd;have hlab:lab g Bs d=if(seg g (dvt g d) (dot g d)).head?=some d then .inl (rgO Bs (dvt g d,dot g d))else .inr (max (d / 2) (pv (seg g (dvt g d) (dot g d)) d / 2)):=rfl
 rw[hlab];generalize dvt g d=v at *;generalize dot g d=x at *;obtain⟨p,hp,e1,he1,P7⟩:=hS.blk he;obtain⟨hO,hE,h0⟩:=hS.ok p hp;have hxv:prE e1=prP x v:=by rw[P7,N4];exact aJ _ _
 have hx:=(fT he1 hxv).1;obtain⟨r1,r2,r3,r4⟩:=hO.round hE h0 hx;have hvR:=(r3 v).2 ⟨e1,he1,hxv⟩;have Zo:v≠x:=fun k=>by have:=hg.ne e he;rcases bF N4 with⟨k1,k2⟩|⟨k1,k2⟩<;>omega
 have htw:tw d∈seg g x v:=kJ.2 ⟨e,he,by rw[N4];exact aJ _ _,by rw[hde];exact RY hg he N4⟩;have hxg:x∈g.vs:=by
  have:=hg.ends e he;rcases bF N4 with⟨_,k2⟩|⟨k1,_⟩
  .rw[<- k2];exact this.2
  .rw[<- k1];exact this.1
 have VU:bt g p.2 x∈(grp g Bs).flatten:=aAQ.2 ⟨_,aAt (f:=fun v=>Bs.map fun p=>bt g p.2 v) hxg,aAt (f:=fun p:List Ed×List (List Int)=>bt g p.2 x) hp⟩;have htr:tw d∈bt g p.2 x:=by unfold bt;exact aAY.2 ⟨v,hvR,htw⟩
 rw[gA hS.grp_nd VU htr];have hbn:=hS.bt_nodup hp x;have hseg:∀ y∈bX (dJ x (aS p.2)),seg g x y≠[]:=fun y hy=>by obtain⟨f,hf,hpf⟩:=(r3 y).1 hy;exact aBs (kJ.2 ⟨f,(hS.sub hp hf).2,hpf,rfl⟩)
 obtain⟨n1,n2⟩:=WD r1 hbn hseg hvR;have hLn:=nK hg v x;have hLn':=nK hg x v;obtain⟨P,Q,hL⟩:=aBh W8;have hL':seg g x v=(Q.map tw).reverse++tw d::(P.map tw).reverse:=by rw[Xc hg Zo,hL];simp
 show lab g Bs (nx (bt g p.2 x) (tw d))=_;rcases aCV P with hP|⟨P',y,hP⟩
 .subst hP;rw[aCx,List.reverse_nil]at hL';obtain⟨z,q,hz,hzz⟩:=n2 _ _ hL';have hw:=(r4 v hvR);have hz0:nx (bt g p.2 x) (tw d)=z:=hzz;rw[hz0,aAj (by rw[hL];rfl)];have hzs:z∈seg g x (nx (bX (dJ x (aS p.2))) v):=by rw[hz];exact aAf
  obtain⟨z1,z2⟩:=xW hg hzs;unfold lab;rw[z1,z2,hz,aAj (show(z::q).head?=some z from rfl)];obtain⟨r,hr,k1,k2⟩:=hw;rw[hS.ring_at hp hr k1,hS.ring_at hp hr k2]
 .rw[hP,aCW,aAD,List.singleton_append]at hL;have hL2:seg g x v=(Q.map tw).reverse++tw d::tw y::(P'.map tw).reverse:=by rw[hL',hP];simp
  have hz0:nx (bt g p.2 x) (tw d)=tw y:=n1 _ _ _ _ hL2;rw[hz0];have hys:tw y∈seg g x v:=by rw[hL2];simp
  obtain⟨z1,z2⟩:=xW hg hys;have h1:¬(seg g v x).head?=some d:=by
   rw[hL]at hLn ⊢;intro k;cases P' with
   |nil=>simp at k;subst k;simp at hLn
   |cons a P'=>simp at k;subst k;simp at hLn
  have h2:¬(seg g x v).head?=some (tw y):=by
   rw[hL2]at hLn' ⊢;intro k;cases hQ:(Q.map tw).reverse with
   |nil=>rw[hQ]at k hLn';simp at k;rw[k]at hLn';simp at hLn'
   |cons a Q'=>rw[hQ]at k hLn';simp at k;rw[k]at hLn';simp at hLn'
  rw[aAa h1];unfold lab;rw[z1,z2,aAa h2];have p1:pv (seg g v x) d=y:=by rw[hL];rw[hL]at hLn;exact Jb hLn
  have p2:pv (seg g x v) (tw y)=tw d:=by rw[hL2];rw[hL2]at hLn';exact Jb hLn'
  rw[p1,p2,Es,Es,Int.max_comm]
theorem Sys.faces:(Bs.flatMap (·.2)).length+(g.es.length-(sE g.es).length)<=fcs (al g.es) (aU g.es) (grp g Bs).flatten:=by
 have hg:=hS.gE;let X1:List (List (Int×Int) ⊕ Int):=(Bs.flatMap (·.2)).map fun r=>.inl (prs r);let X2:List (List (Int×Int) ⊕ Int):=(g.es.filter fun e=>!decide (e∈sE g.es)).map fun e=>.inr e.id;have hlen:(X1++X2).length=(Bs.flatMap (·.2)).length+(g.es.length-(sE g.es).length):=by
  have hn:g.es.Nodup:=hg.ids.imp fun {a b} h e=>by rw[e]at h;omega
  have h1:(g.es.filter fun e=>decide (e∈sE g.es)).length+(g.es.filter fun e=>!decide (e∈sE g.es)).length=g.es.length:=by
   have:∀ l:List Ed,(l.filter fun e=>decide (e∈sE g.es)).length+(l.filter fun e=>!decide (e∈sE g.es)).length=l.length:=by
    intro l;induction l with
    |nil=>rfl
    |cons a l ih=>by_cases h:a∈sE g.es<;>simp[h]at ih ⊢<;>omega
   exact this _
  have h2:(g.es.filter fun e=>decide (e∈sE g.es)).length=(sE g.es).length:=by
   refine((aAZ (hn.sublist aAP) ?_).2 fun e=>?_).length_eq
   .have:=rF g.es;exact(aAV.1 this).imp fun {a b} h e=>h (by rw[e])
   .rw[aAy,aAR];exact⟨And.right,fun h=>⟨iT _ _ h,h⟩⟩
  rw[aAn,aAB,aAB];omega
 rw[<- hlen];unfold fcs;have H8:∀ d,d∈aU g.es->lab g Bs (sgR (grp g Bs).flatten (al g.es d))=lab g Bs d:=fun d hd=>hS.lab_inv hd;have j5:∀ d,d∈aU g.es->sgR (grp g Bs).flatten (al g.es d)∈aU g.es:=fun d hd=>by have h1:al g.es d∈aU g.es:=(Ff _ _ _).2 hd;exact hS.grp_mem.1 ((lK hS.grp_nd).mem _ (hS.grp_mem.2 h1))
 refine oW (lab g Bs) (fun x hx y _ ho=>?_) (X1++X2) ?_ fun a ha=>?_
 .have key:∀ n,it (fun d=>sgR (grp g Bs).flatten (al g.es d)) n x∈aU g.es/\lab g Bs (it (fun d=>sgR (grp g Bs).flatten (al g.es d)) n x)=lab g Bs x:=by
   intro n;induction n with
   |zero=>exact⟨hx,rfl⟩
   |succ n ih=>rw[cA];exact⟨j5 _ ih.1,by rw[H8 _ ih.1,ih.2]⟩
  obtain⟨n,hn⟩:=ho;rw[<- hn];exact(key n).2.symm
 .refine aAo.2 ⟨?_,?_,?_⟩
  ·
   have hpf:((Bs.flatMap (·.2)).flatMap prs).Nodup:=by rw[List.flatMap_assoc];refine lA hS.nd (fun p hp=>(hS.ok p hp).1.nd) fun p hp p' O9 q h1 h2=>?_;obtain⟨e,he,k⟩:=((hS.ok p hp).1.mem q.1 q.2).1 h1;obtain⟨e',he',k'⟩:=((hS.ok p' O9).1.mem q.1 q.2).1 h2;exact hS.same hp O9 he he' (by rw[k,k'])
   have Zo:∀ r∈Bs.flatMap (·.2),prs r≠[]:=fun r hr e=>by obtain⟨p,hp,hr⟩:=aAY.1 hr;have h1:=(hS.ok p hp).1.ne r hr;have h2:=oK r;rw[e]at h2;exact h1 (aCp.1 h2.symm)
   have hnd:=(QZ hpf Zo).1;show(List.map _ _).Nodup;unfold List.Nodup;rw[aAV];refine hnd.imp_of_mem fun {r r'} hr O1 hrr e=>hrr ?_;injection e with e;obtain⟨z,hz⟩:=aAM _ (Zo r hr);exact zT hpf r hr r' O1 z hz (by rw[<- e];exact hz)
  .show(List.map _ _).Nodup;unfold List.Nodup;rw[aAV];refine(hg.ids.sublist aAP).imp fun {a b} h e=>?_;injection e with e;omega
  .rintro a h1 b h2 rfl;obtain⟨r,_,k1⟩:=aAi.1 h1;obtain⟨e,_,k2⟩:=aAi.1 h2;rw[<- k1]at k2;cases k2
 .rcases aAd.1 ha with ha|ha
  .obtain⟨r,hr,rfl⟩:=aAi.1 ha;obtain⟨p,hp,hr⟩:=aAY.1 hr;obtain⟨hO,hE,h0⟩:=hS.ok p hp;obtain⟨v,hv⟩:=aAM _ (hO.ne r hr);obtain⟨x,hx⟩:=gV hv;obtain⟨e1,he1,P7⟩:=(hO.mem v x).1 (aV.2 ⟨r,hr,hx⟩);have hs:seg g v x≠[]:=aBs (kJ.2 ⟨e1,(hS.sub hp he1).2,P7,rfl⟩);obtain⟨d,q,hd⟩:=aBv hs;have W8:d∈seg g v x:=by rw[hd];exact aAf
   obtain⟨k1,k2⟩:=xW hg W8;refine⟨d,IF hg W8,?_⟩;unfold lab;rw[k1,k2,hd,aAj (show(d::q).head?=some d from rfl),hS.ring_at hp hr hx]
  .obtain⟨e,he,rfl⟩:=aAi.1 ha;rw[aAy]at he;obtain⟨he,x8⟩:=he;have x8:e∉sE g.es:=by simpa using x8
   obtain⟨f,hf,hpf,u7⟩:=Hr hg.ids e he;have hfe:f≠e:=fun k=>x8 (by rw[<- k];exact hf);have hfg:=iT _ _ hf;have dG:f.id<e.id:=by
    rcases Int.lt_or_eq_of_le u7 with h|h
    .exact h
    .exact absurd (Pj hg hfg he h) hfe
   obtain⟨v,x,hvx,N4⟩:∃ v x,v<x/\prE e=prP v x:=by
    have:=hg.ne e he;rcases Int.lt_or_gt_of_ne this with h|h
    .exact⟨e.a,e.b,h,rfl⟩
    .exact⟨e.b,e.a,h,aJ _ _⟩
   have hseg:seg g v x=(kI g v x).map (dAt v):=by unfold seg fO;rw[aAa oO];rfl
   have heb:e∈kI g v x:=nU.2 ⟨he,N4⟩;have hfb:f∈kI g v x:=nU.2 ⟨hfg,by rw[hpf,N4]⟩;have hrise:(kI g v x).Pairwise fun a b=>a.id<b.id:=hg.ids.sublist aAP;obtain⟨A,B,hAB⟩:=aBh heb;have hfA:f∈A:=by
    rw[hAB]at hfb hrise;rcases aAd.1 hfb with h|h
    .exact h
    .rcases aAe.1 h with h|h
     .exact absurd h hfe
     .have:=(aBk.1 (aBO.1 hrise).2.1).1 f h;omega
   rcases aCV A with hA|⟨A',y,hA⟩
   .rw[hA]at hfA;cases hfA
   rw[aCW]at hA;have hL:seg g v x=A'.map (dAt v)++dAt v y::dAt v e::B.map (dAt v):=by rw[hseg,hAB,hA];simp
   have hLn:=nK hg v x;have hye:y.id<e.id:=by rw[hAB,hA]at hrise;exact(aBO.1 hrise).2.2 y sS e sS
   have W8:dAt v e∈seg g v x:=by rw[hL];simp
   obtain⟨k1,k2⟩:=xW hg W8;refine⟨dAt v e,IF hg W8,?_⟩;unfold lab;rw[k1,k2,aAa,show pv (seg g v x) (dAt v e)=dAt v y by rw[hL];rw[hL]at hLn;exact Jb hLn,jO,jO,Int.max_eq_left oO];rw[hL]at hLn ⊢;intro k;cases A' with
   |nil=>simp at k;rw[k]at hLn;simp at hLn
   |cons a A'=>simp at k;rw[aAl,k]at hLn;simp at hLn
end
theorem Ge{R S:Int->Int->Prop}(hR:Eqv R)(hS:Eqv S)(h:∀ x y,R x y->S x y){l:List Int}{v0:Int}:∀(vs:List Int),v0∈l->(∀ v∈vs,v∈l/\S v0 v)->(v0::vs).Pairwise (fun x y=>¬R x y)->ncl S l+vs.length<=ncl R l
 |[],_,_,_=>by simpa using pK (R:=R) (S:=S) (l:=l) fun x _ y _=>h x y
 |v::vs,h0,hv,hp=>by
  obtain⟨p1,p2⟩:=aBk.1 hp;obtain⟨p3,p4⟩:=aBk.1 p2;obtain⟨v1,v2⟩:=hv v aAf;have e:=tI hR (p1 v aAf) h0 v1;have:=Ge (R:=Eu.Mg R v0 v) (S:=S) (Mg.eqv hR _ _) hS (fun x y k=>Mg.le hS v2 h k) (l:=l) (v0:=v0) vs h0 (fun w hw=>hv w (aAc _ hw)) (aBk.2 ⟨?_,?_⟩)
  .rw[List.length_cons];omega
  .rintro w hw (k|⟨_,k⟩|⟨k,_⟩)
   .exact p1 w (aAc _ hw) k
   .exact p3 w hw k
   .exact p1 v aAf k
  .refine p4.imp_of_mem fun {x y} hx hy G8 k=>?_;rcases k with k|⟨k1,k2⟩|⟨k1,k2⟩
   .exact G8 k
   .exact p3 y hy k2
   .exact p3 x hx (hR.symm k1)
theorem QI(vs:List Int):∀(Ls:List (List Ed)) (es0:List Ed),(∀ l∈Ls,(vsF l≠[])/\(∀ v∈vsF l,v∈vs)/\∀ u∈vsF l,∀ v∈vsF l,Reach l u v)->(∀ A l B,Ls=A++l::B->∀ u∈vsF l,∀ v∈vsF l,Reach (es0++A.flatten) u v->u=v)->
 ncl (Reach (es0++Ls.flatten)) vs+(Ls.map fun l=>(vsF l).length).sum<=ncl (Reach es0) vs+Ls.length
 |[],es0,_,_=>by simp
 |l::Ls,es0,h1,h2=>by
  obtain⟨k1,k2,k3⟩:=h1 l aAf;have ih:=QI vs Ls (es0++l) (fun l hl=>h1 l (aAc _ hl)) fun A l' B e u hu v hv k=>h2 (l::A) l' B (by rw[e];rfl) u hu v hv (by simpa using k);obtain⟨v0,V,hV⟩:=aBv k1;have hz:=h2 [] l Ls rfl;rw[List.flatten_nil,aAO]at hz
  have st:=Ge (R:=Reach es0) (S:=Reach (es0++l)) (iS _) (iS _) (fun x y k=>k.mono fun x hx=>aAq _ hx) (l:=vs) (v0:=v0) V (k2 v0 (by rw[hV];exact aAf))
   (fun v hv=>⟨k2 v (by rw[hV];exact aAc _ hv),(k3 v0 (by rw[hV];exact aAf) v (by rw[hV];exact aAc _ hv)).mono fun x hx=>aAx _ hx⟩) (by
     rw[<- hV];refine(kQ l).imp_of_mem fun {u v} hu hv huv k=>?_;have:=hz u hu v hv k
     omega)
  have hl:(vsF l).length=V.length+1:=by rw[hV];rfl
  rw[List.flatten_cons,<- aAD,aAl,List.sum_cons,List.length_cons];omega
theorem Up{es:List Ed}{u v:Int}(h:Reach es u v):v=u\/∃ e∈es,(e.a=u\/e.b=u)/\RIn es (·≠u) (oth e u) v:=by
 induction h with
 |refl=>exact .inl rfl
 |@step y z h hz ih=>
  by_cases hzu:z=u
  .exact .inl hzu
  right;rcases ih with rfl|⟨e,he,h1,h2⟩
  .obtain⟨i,hi,e⟩:=FA hz;have h1:=aQ.1 hi;refine⟨_,sA h1.1,h1.2,?_⟩;rw[e];exact .refl hzu
  .exact⟨e,he,h1,.step h2 hz hzu⟩
theorem RIn.emono{es es':List Ed}(hs:∀ x∈es,x∈es'){S:Int->Prop}{x y:Int}(h:RIn es S x y):RIn es' S x y:=by
 induction h with
 |refl h=>exact .refl h
 |step _ hz Y6 ih=>refine .step ih ?_ Y6;rw[cT]at hz ⊢;obtain⟨x,hx,h⟩:=hz;exact⟨x,hs x hx,h⟩
theorem RIn.reach{es:List Ed}{S:Int->Prop}{x y:Int}(h:RIn es S x y):Reach es x y:=by
 induction h with
 |refl=>exact .refl
 |step _ hz _ ih=>exact .step ih hz
section
variable {g:Gr} (hg:GoodE g)
include hg
theorem tO{B:List Nat}{v:Int}(h:v∈vsF (esB g.es B)):∃ i∈B,(eAt g.es i).a=v\/(eAt g.es i).b=v:=by obtain⟨e,he,k⟩:=(bA _ _).1 h;obtain⟨i,hi,rfl⟩:=aAi.1 he;exact⟨i,hi,k.imp Eq.symm Eq.symm⟩
theorem dU.reach{B:List Nat}(h:dU g.es B){u v:Int}(hu:u∈vsF (esB g.es B))(hv:v∈vsF (esB g.es B)):Reach (esB g.es B) u v:=by obtain⟨i,hi,iu⟩:=tO hg hu;obtain⟨j,hj,jv⟩:=tO hg hv;exact(h.con hg (max u v+1) hi (h.rel i hi j hj) u v iu jv oO oO).reach
theorem dU.cut{B:List Nat}(h:dU g.es B){es:List Ed}(hes:∀ e∈es,∃ j,j<g.es.length/\j∉B/\e=eAt g.es j){u v:Int}(hu:u∈vsF (esB g.es B))(hv:v∈vsF (esB g.es B))(hr:Reach es u v):u=v:=by
 obtain⟨i,hi,iu⟩:=tO hg hu;obtain⟨k,hk,kv⟩:=tO hg hv;rcases Up hr with e|⟨e,he,h1,h2⟩
 .exact e.symm
 refine aAG fun Zo=>?_;obtain⟨j,hj,hjB,rfl⟩:=hes e he;have a:=(h.con hg u hi (h.rel i hi k hk) _ v (mF _ u) kv (tG hg (aQ.2 ⟨h.lt i hi,iu⟩)) fun k=>Zo k.symm).up h.lt;have b:=h2.emono (es':=g.es) fun x hx=>by obtain⟨l,hl,_,rfl⟩:=hes x hx;exact sA hl
 exact hjB (h.all i hi j hj ⟨u,iu,h1,a.trans b.symm⟩)
end
theorem Lc(es:List Ed):(fP es).Nodup:=by unfold fP List.Nodup;rw[aAV];refine(aBP.sublist aAP).imp_of_mem fun {i j} hi hj hij e=>?_;rw[aAy,aAR]at hi hj;have:=hi.2;rw[e,hj.2]at this;omega
theorem Ci{g:Gr}(hg:GoodE g):ncl (Reach g.es) g.vs+((aP g).map fun l=>(vsF l).length).sum<=g.vs.length+(aP g).length:=by
 have V1:=hg.simple;have hall:∀ B∈fP (sE g.es),dU (sE g.es) B:=fun B hB=>kP V1 hB;have hf:=QI g.vs (aP g) [] (fun l hl=>?_) fun A l B e u hu v hv k=>?_
 .rw[LB (fun x y=>Dg) hg.toGood.nodup,List.nil_append]at hf
  suffices key:∀ x y,Reach (aP g).flatten x y->Reach g.es x y from aBa (Nat.add_le_add_right (pK fun x _ y _ k=>key x y k) _) hf
  intro x y k;induction k with
  |refl=>exact .refl
  |step _ hz ih=>rw[cT]at hz;obtain⟨x,hx,h⟩:=hz;obtain⟨l,hl,hx⟩:=aAQ.1 hx;refine .step ih ?_;rw[cT];exact⟨x,(mW hg hl).2 x hx,h⟩
 .unfold aP at hl;obtain⟨B,hB,rfl⟩:=aAi.1 hl;have hB:=hall B hB;refine⟨?_,fun v hv=>?_,fun u hu v hv=>hB.reach V1 hu hv⟩
  .obtain⟨i,hi⟩:=aAM _ hB.ne;exact aBs ((bA _ _).2 ⟨_,aAt hi,.inl rfl⟩)
  .obtain⟨i,hi,h⟩:=tO V1 hv;have:=V1.ends _ (sA (hB.lt i hi));rcases h with rfl|rfl
   .exact this.1
   .exact this.2
 .unfold aP at e;obtain⟨A',R,e1,rfl,e2⟩:=aEi.1 e;obtain⟨B0,R',rfl,rfl,e3⟩:=aEv.1 e2;have hB0:B0∈fP (sE g.es):=by rw[e1];simp
  have hn:=Lc (sE g.es);rw[e1,aAo]at hn;refine(hall B0 hB0).cut V1 (fun x hx=>?_) hu hv k;rw[List.nil_append]at hx;obtain⟨l,hl,hx⟩:=aAQ.1 hx;obtain⟨B',hB',rfl⟩:=aAi.1 hl;obtain⟨j,hj,rfl⟩:=aAi.1 hx;have hB'':=hall B' (by rw[e1];simp[hB']);refine⟨j,hB''.lt j hj,fun hj0=>?_,rfl⟩;exact hn.2.2 B' hB' B0 sS (dU.eq (g:=⟨g.vs,sE g.es⟩) hB'' (hall B0 hB0) hj hj0)
structure Tc(E:List Ed):Prop where
 ids:E.Pairwise fun x y=>x.id<y.id
 ne:∀ e∈E,e.a≠e.b
 sim:(E.map prE).Nodup
 con:∀ w p q,p∈vsF E->q∈vsF E->p≠w->q≠w->RIn E (·≠w) p q
 two:2<=E.length
 few:(vsF E).length<=64/\E.length<=200
theorem kU{es:List Ed}{v w:Int}:w∈cR es v↔∃ e∈es,prE e=prP v w:=by
 rw[Mz];constructor
 .rintro⟨x,hx,⟨h1,h2⟩|⟨h1,h2⟩⟩
  .exact⟨x,hx,by show prP _ _=_;rw[h1,h2]⟩
  .exact⟨x,hx,by show prP _ _=_;rw[h1,h2];exact aJ _ _⟩
 .rintro⟨x,hx,h⟩;rcases bF h with⟨h1,h2⟩|⟨h1,h2⟩
  .exact⟨x,hx,.inl ⟨h1,h2⟩⟩
  .exact⟨x,hx,.inr ⟨h1,h2⟩⟩
theorem kK{es:List Ed}{v w:Int}:w∈nbr es v↔∃ e∈es,prE e=prP v w:=by
 rw[cT];constructor
 .rintro⟨x,hx,⟨h1,h2⟩|⟨h1,h2⟩⟩
  .exact⟨x,hx,by show prP _ _=_;rw[h1,h2]⟩
  .exact⟨x,hx,by show prP _ _=_;rw[h1,h2];exact aJ _ _⟩
 .rintro⟨x,hx,h⟩;rcases bF h with⟨h1,h2⟩|⟨h1,h2⟩
  .exact⟨x,hx,.inl ⟨h1,h2⟩⟩
  .exact⟨x,hx,.inr ⟨h2,h1⟩⟩
theorem map_inj{α β:Type}{F:α->β}:∀ {l:List α},(l.map F).Nodup->∀ {e f:α},e∈l->f∈l->F e=F f->e=f
 |a::l,h0,e,f,he,hf,h=>by
  rw[aAl,aAp]at h0;rcases aAe.1 he with a1|a1
  .rcases aAe.1 hf with b1|b1
   .rw[a1,b1]
   .exact absurd (by rw[<- a1,h];exact aAt b1) h0.1
  .rcases aAe.1 hf with b1|b1
   .exact absurd (by rw[<- b1,<- h];exact aAt a1) h0.1
   .exact map_inj h0.2 a1 b1 h
section
variable {E:List Ed} (hT:Tc E)
include hT
theorem Tc.sim_eq{e f:Ed}(he:e∈E)(hf:f∈E)(h:prE e=prE f):e=f:=map_inj hT.sim he hf h
theorem Tc.start{x:Ed}{R:List Ed}(hE:E=x::R):∃ h,newF ⟨vsF E,E⟩=some h/\Drn E h/\∃ ring,h.F=[ring,ring.reverse]/\ring.Nodup/\3<=ring.length/\∀ u v,(u,v)∈prs ring->∃ e∈E,prE e=prP u v:=by
 have hx:x∈E:=by rw[hE];exact aAf
 have v8:=hT.ne x hx;have va:x.a∈vsF E:=(bA _ _).2 ⟨x,hx,.inl rfl⟩;have vb:x.b∈vsF E:=(bA _ _).2 ⟨x,hx,.inr rfl⟩;have hnear:∀ v,∀ w∈cR (E.filter fun y=>decide (y≠x)) v,w∈vsF E:=fun v w hw=>by obtain⟨e,he,hp⟩:=kU.1 hw;exact(fT (aAy.1 he).1 hp).2
 obtain⟨c,hc,hca,hcb⟩:∃ c∈vsF E,c≠x.a/\c≠x.b:=by
  have h2:=hT.two;obtain⟨y,R',hR⟩:∃ y R',R=y::R':=by
   cases R with
   |nil=>rw[hE]at h2;simp at h2
   |cons y R'=>exact⟨y,R',rfl⟩
  have hy:y∈E:=by rw[hE,hR];simp
  have P9:y≠x:=fun e=>by have:=hT.ids;rw[hE,hR]at this;have:=(aBk.1 this).1 y sS;rw[e]at this;omega
  have hyn:=hT.ne y hy;refine aAG fun x8=>P9 (hT.sim_eq hy hx ?_);have ya:y.a=x.a\/y.a=x.b:=aAG fun k=>x8 ⟨y.a,(bA _ _).2 ⟨y,hy,.inl rfl⟩,fun e=>k (.inl e),fun e=>k (.inr e)⟩;have yb:y.b=x.a\/y.b=x.b:=aAG fun k=>x8 ⟨y.b,(bA _ _).2 ⟨y,hy,.inr rfl⟩,fun e=>k (.inl e),fun e=>k (.inr e)⟩;show prP _ _=prP _ _;rcases ya with a1|a1<;>rcases yb with b1|b1
  .omega
  .rw[a1,b1]
  .rw[a1,b1];exact aJ _ _
  .omega
 have along:∀ S:Int->Prop,XK (cR (E.filter fun y=>decide (y≠x))) (fun _=>true) x.a S->∀ w,(w=x.a\/w=x.b)->∀ p q,RIn E (·≠w) p q->S p->S q:=by
  intro S hS w hw p q h hp;induction h with
  |refl=>exact hp
  |@step y z h hz hs ih=>
   obtain⟨e,he,N4⟩:=kK.1 hz;have hy:=h.here.2;have hex:e≠x:=fun ex=>by
    rw[ex]at N4;rcases bF N4 with⟨k1,k2⟩|⟨k1,k2⟩
    .rcases hw with e1|e1
     .exact hy (by rw[e1,k1])
     .exact hs (by rw[e1,k2])
    .rcases hw with e1|e1
     .exact hs (by rw[e1,k1])
     .exact hy (by rw[e1,k2])
   exact hS.2 y ih (.inr rfl) z (kU.2 ⟨e,aAy.2 ⟨he,aBQ hex⟩,N4⟩)
 obtain⟨w,h1,h2,h3,h4,h5,h6,h7,h8,h9⟩:=Ly (may:=fun _=>true) hnear va vb v8 (n:=1000) (by have:=hT.few.1;omega) fun S hS=>along S hS x.a (.inl rfl) c x.b (hT.con _ _ _ hc vb hca (fun e=>v8 e.symm)) (along S hS x.b (.inr rfl) x.a c (hT.con _ _ _ va hc v8 hcb) hS.1);have hs:=nN h3;rw[h6,h7]at hs;have x8:∀ e∈E.filter fun y=>decide (y≠x),prE e≠prP x.a x.b:=fun e he k=>by rw[aAy,aAR]at he;exact he.2 (hT.sim_eq he.1 hx k)
 cases hM:dD w with
 |nil=>rw[hM,List.nil_append]at hs;obtain⟨e,he,k⟩:=kU.1 (h8 x.a x.b (by rw[hs];simp[lnk]));exact absurd k (x8 e he)
 |cons m M=>
  rw[hM]at hs;refine⟨⟨jY (jY [] w) [x.a,x.b],w++[x.a,x.b],[w,w.reverse]⟩,?_,Drn.start hx hs h2 fun u v huv=>?_,w,rfl,h2,by rw[hs];simp,fun u v huv=>?_⟩
  .have hh:newF ⟨vsF E,E⟩=(vO (vsF E) (cR (E.filter fun y=>decide (y≠x))) (fun _=>true) x.a x.b 1000).bind fun ring=>
    if ring.length<=200/\∀ v∈ring,v∈vsF E then some ⟨jY (jY [] ring) [x.a,x.b],ring++[x.a,x.b],[ring,ring.reverse]⟩else none:=by
    unfold newF;rw[hE]
   rw[hh,h1,Option.bind_some,aAj ⟨by have:=hT.few.1;omega,h5⟩]
  .obtain⟨e,he,k⟩:=kU.1 (h8 u v huv);exact⟨e,(aAy.1 he).1,k⟩
  .have pr:=Am x.a x.b (m::M);rw[<- hs]at pr;rw[pr,aAd,aAk]at huv;rcases huv with huv|huv
   .obtain⟨e,he,k⟩:=kU.1 (h8 u v huv);exact⟨e,(aAy.1 he).1,k⟩
   .injection huv with k1 k2;exact⟨x,hx,by rw[k1,k2];exact aJ _ _⟩
end
theorem fL{A B:List Int}{v:Int}:v∈off A B↔v∈A/\v∉B:=by unfold off;simp
theorem FK{A B:List Int}{v:Int}:v∈on' A B↔v∈A/\v∈B:=by unfold on';simp
theorem lT{vs A:List Int}{v:Int}:v∈nrS vs A↔v∈vs/\v∈A:=by unfold nrS;simp
theorem FY{g:Gr}{A:List Int}{v:Int}:v∈arn g A↔∃ u∈A,v∈nbr g.es u:=by unfold arn;rw[aAY]
structure Brd(E:List Ed)(L:List (Int×Int))(on:List Int)(b:Brg):Prop where
 en:∀ v∈b.ends,v∈on/\v∈vsF E
 kind:(b.inner=[]/\∃ e∈E,prE e∉L/\b.ends=[e.a,e.b])\/
  (b.inner≠[]/\(∀ v∈b.inner,v∈vsF E/\v∉on)/\(∀ p∈b.inner,∀ q∈b.inner,RIn E (·∈b.inner) p q)/\(∀ p∈b.inner,∀ q∈nbr E p,q∈b.inner\/q∈b.ends)/\∀ q∈b.ends,∃ p∈b.inner,q∈nbr E p)
section
variable {E:List Ed} {on:List Int}
theorem Wl{p q:Int}(h:q∈nbr E p):q∈vsF E:=by obtain⟨e,he,k⟩:=kK.1 h;exact(fT he k).2
theorem Lb(v:Int)(hv:v∈vsF E)(hvo:v∉on)(L:List (Int×Int)):∀(n:Nat) (I:List Int),I.Nodup->v∈I->(∀ p∈I,p∈vsF E/\p∉on)->(∀ p∈I,RIn E (·∈I) v p)->(vsF E).length+1<=n+I.length->
 ∃ b,yG ⟨vsF E,E⟩ on n I=some b/\Brd E L on b/\v∈b.inner
 |0,I,hn,_,hI,_,hl=>by have:=aAA hn fun p hp=>(hI p hp).1;omega
 |n+1,I,hn,hvI,hI,hc,hl=>by
  unfold yG
  split
  .rename_i x7;refine⟨_,rfl,⟨fun q hq=>?_,.inr ⟨aBs hvI,hI,fun p hp q hq=>(hc p hp).symm.trans (hc q hq),fun p hp q hq=>?_,fun q hq=>?_⟩⟩,hvI⟩
   .have h:=FK.1 hq;exact⟨h.2,(lT.1 h.1).1⟩
   .have hqv:=Wl hq;have hqa:q∈nrS (vsF E) (arn ⟨vsF E,E⟩ I):=lT.2 ⟨hqv,FY.2 ⟨p,hp,hq⟩⟩;by_cases h1:q∈on
    .exact .inr (FK.2 ⟨hqa,h1⟩)
    .by_cases h2:q∈I
     .exact .inl h2
     .have:q∈off (off (nrS (vsF E) (arn ⟨vsF E,E⟩ I)) on) I:=fL.2 ⟨fL.2 ⟨hqa,h1⟩,h2⟩;rw[x7]at this;cases this
   .have h:=FK.1 hq;obtain⟨p,hp,k⟩:=FY.1 (lT.1 h.1).2;exact⟨p,hp,k⟩
  .rename_i x7;obtain⟨u,hu⟩:=aAM _ x7;have hu1:=fL.1 hu;have hvsn:(vsF E).Nodup:=(kQ E).imp fun k=>by omega
   have mem':∀ q,q∈nrS (vsF E) (I++off (nrS (vsF E) (arn ⟨vsF E,E⟩ I)) on)↔q∈vsF E/\(q∈I\/(q∈arn ⟨vsF E,E⟩ I/\q∉on)):=fun q=>by
    rw[lT,aAd,fL,lT];constructor
    .rintro⟨h1,h2|h2⟩
     .exact⟨h1,.inl h2⟩
     .exact⟨h1,.inr ⟨h2.1.2,h2.2⟩⟩
    .rintro⟨h1,h2|h2⟩
     .exact⟨h1,.inl h2⟩
     .exact⟨h1,.inr ⟨⟨h1,h2.1⟩,h2.2⟩⟩
   have H7:∀ q∈I,q∈nrS (vsF E) (I++off (nrS (vsF E) (arn ⟨vsF E,E⟩ I)) on):=fun q hq=>(mem' q).2 ⟨(hI q hq).1,.inl hq⟩;have I1:(nrS (vsF E) (I++off (nrS (vsF E) (arn ⟨vsF E,E⟩ I)) on)).Nodup:=hvsn.sublist aAP;refine Lb v hv hvo L n _ I1 (H7 v hvI) (fun p hp=>?_) (fun p hp=>?_) ?_
   .obtain⟨h1,h2⟩:=(mem' p).1 hp;exact⟨h1,h2.elim (fun k=>(hI p k).2) And.right⟩
   .have mono:∀ z,RIn E (·∈I) v z->RIn E (·∈nrS (vsF E) (I++off (nrS (vsF E) (arn ⟨vsF E,E⟩ I)) on)) v z:=fun z h=>h.mono H7;obtain⟨h1,h2⟩:=(mem' p).1 hp;rcases h2 with h2|h2
    .exact mono _ (hc p h2)
    .obtain⟨q,hq,k⟩:=FY.1 h2.1;exact .step (mono _ (hc q hq)) k hp
   .have hul:u∈nrS (vsF E) (I++off (nrS (vsF E) (arn ⟨vsF E,E⟩ I)) on):=(mem' u).2 ⟨(lT.1 (fL.1 hu1.1).1).1,.inr ⟨(lT.1 (fL.1 hu1.1).1).2,(fL.1 hu1.1).2⟩⟩;have:=aAA (aAp.2 ⟨hu1.2,hn⟩) (l₂:=nrS (vsF E) (I++off (nrS (vsF E) (arn ⟨vsF E,E⟩ I)) on)) fun q hq=>by
     rcases aAe.1 hq with rfl|hq
     .exact hul
     .exact H7 q hq
    rw[List.length_cons]at this;show(vsF E).length+1<=n+(nrS (vsF E) (I++off (nrS (vsF E) (arn ⟨vsF E,E⟩ I)) on)).length;omega
theorem MJ(L:List (Int×Int)):∀(n:Nat) (R:List Int),(∀ v∈R,v∈vsF E/\v∉on)->R.length<=n->∃ l,sV ⟨vsF E,E⟩ on n R=some l/\(∀ b∈l,Brd E L on b)/\l.length<=R.length/\∀ v∈R,∃ b∈l,v∈b.inner
 |n,[],_,_=>⟨[],by cases n<;>rfl,sS,sS,sS⟩
 |0,v::R,_,h=>by simp at h
 |n+1,v::R,hR,h=>by
  obtain⟨hv,hvo⟩:=hR v aAf;obtain⟨b,h1,h2,h3⟩:=Lb (E:=E) v hv hvo L ((vsF E).length+1) [v] sS sS (fun p hp=>by rw[aAk.1 hp];exact⟨hv,hvo⟩) (fun p hp=>by rw[aAk.1 hp];exact .refl sS) sS;have dG:(off (v::R) b.inner).length<=R.length:=by unfold off;rw[aDC,aAa (sF1 h3)];exact aAU _ _
  obtain⟨l,k1,k2,k3,k4⟩:=MJ L n (off (v::R) b.inner) (fun p hp=>hR p (fL.1 hp).1) (by rw[List.length_cons]at h;omega);have e:sV ⟨vsF E,E⟩ on (n+1) (v::R)=(yG ⟨vsF E,E⟩ on ((vsF E).length+1) [v]).bind fun b=>(sV ⟨vsF E,E⟩ on n (off (v::R) b.inner)).map (b::·):=rfl;refine⟨b::l,by rw[e,h1,Option.bind_some,k1];rfl,fun c hc=>?_,by rw[List.length_cons,List.length_cons];omega,fun u hu=>?_⟩
  .rcases aAe.1 hc with rfl|hc
   .exact h2
   .exact k2 c hc
  .by_cases q:u∈b.inner
   .exact⟨b,aAf,q⟩
   .obtain⟨c,hc,i⟩:=k4 u (fL.2 ⟨hu,q⟩);exact⟨c,aAc _ hc,i⟩
theorem Tw(L:List (Int×Int)):∃ B,Mi ⟨vsF E,E⟩ L on=some B/\(∀ b∈B,Brd E L on b)/\B.length<=E.length+(vsF E).length/\(∀ e∈E,prE e∉L->e.a∈on->e.b∈on->⟨[],[e.a,e.b]⟩∈B)/\∀ v∈vsF E,v∉on->∃ b∈B,v∈b.inner:=by
 have hlen:(off (vsF E) on).length<=(vsF E).length:=aAU _ _;obtain⟨l,h1,h2,h3,h4⟩:=MJ (E:=E) (on:=on) L ((vsF E).length+1) (off (vsF E) on) (fun v hv=>fL.1 hv) oO;refine⟨pF ⟨vsF E,E⟩ L on E++l,?_,fun b hb=>?_,?_,fun e he h1 h2 h3=>?_,fun v hv hvo=>?_⟩
 .unfold Mi;show(sV ⟨vsF E,E⟩ on ((vsF E).length+1) (off (vsF E) on)).map _=_;rw[h1];rfl
 .rcases aAd.1 hb with hb|hb
  .unfold pF at hb;obtain⟨e,he,rfl⟩:=aAi.1 hb;rw[aAy]at he;simp only[aAW,aBx]at he;refine⟨fun v hv=>?_,.inl ⟨rfl,e,he.1,he.2.1.1,rfl⟩⟩;rcases aAe.1 hv with rfl|hv
   .exact⟨he.2.1.2,(bA _ _).2 ⟨e,he.1,.inl rfl⟩⟩
   .rw[aAk.1 hv];exact⟨he.2.2,(bA _ _).2 ⟨e,he.1,.inr rfl⟩⟩
  .exact h2 b hb
 .have:(pF ⟨vsF E,E⟩ L on E).length<=E.length:=by unfold pF;rw[aAB];exact aAU _ _
  rw[aAn];omega
 .refine aAq _ (aAi.2 ⟨e,aAy.2 ⟨he,?_⟩,rfl⟩);simp only[aAW,aBx];exact⟨⟨h1,h2⟩,h3⟩
 .obtain⟨b,hb,k⟩:=h4 v (fL.2 ⟨hv,hvo⟩);exact⟨b,aAx _ hb,k⟩
end
def Rw'(E:List Ed)(N:List Int):Prop:=∀ a b,(a,b)∈lnk N->∃ e∈E,prE e=prP a b
theorem uO:∀(N:List Int) (v w:Int),lnk (N++[v,w])=lnk (N++[v])++[(v,w)]:=fun N v w=>by rw[show N++[v,w]=N++v::[w] from rfl,eZ];rfl
theorem Br{E:List Ed}{a b:Int}(h:∃ e∈E,prE e=prP a b):∃ e∈E,prE e=prP b a:=by rw[aJ];exact h
theorem Kz(C:List Int):∀ {B:List Int} {p:Int×Int},p∈lnk B->p∈lnk (B++C)
 |a::b::l,p,h=>by
  rcases aAe.1 h with h|h
  .rw[h];exact aAf
  .exact aAc _ (Kz C (B:=b::l) h)
theorem ET:∀(A:List Int) {B:List Int} {p:Int×Int},p∈lnk B->p∈lnk (A++B)
 |[],_,_,h=>h
 |[a],b::B,p,h=>aAc _ h
 |a::a'::A,B,p,h=>aAc _ (ET (a'::A) h)
theorem EI(A B C:List Int){p:Int×Int}(h:p∈lnk B):p∈lnk (A++B++C):=Kz C (ET A h)
theorem Rw'.sub{E:List Ed}{A B C:List Int}(h:Rw' E (A++B++C)):Rw' E B:=fun a b k=>by exact h a b (EI A B C k)
theorem Kj{E:List Ed}{S:Int->Prop}{u v:Int}(h:RIn E S u v):∃ N,(N++[v]).Nodup/\(∀ w∈N++[v],S w)/\Rw' E (N++[v])/\(N++[v]).head?=some u:=by
 induction h with
 |refl h=>exact⟨[],sS,by simpa using h,by intro a b k;simp[lnk]at k,rfl⟩
 |@step y z h hz hs ih=>
  obtain⟨N,h1,h2,h3,h4⟩:=ih;by_cases k:z∈N++[y]
  .obtain⟨A,B,e⟩:=aBh k;refine⟨A,?_,?_,?_,?_⟩
   .grind
   .grind
   .rw[e]at h3;exact Rw'.sub (A:=[]) (C:=B) (by simpa using h3)
   .cases A<;>simp_all
  .refine⟨N++[y],by grind,by grind,fun a b q=>?_,by cases N<;>simp_all⟩;rw[aAD,List.singleton_append,uO]at q;rcases aAd.1 q with q|q
   .exact h3 a b q
   .rw[aAk]at q;injection q with q1 q2;rw[q1,q2];exact kK.1 hz
theorem HP{M:List Int}:∀ {l:List Int},(∃ m∈l,m∈M)->∃ A z B,l=A++z::B/\z∈M/\∀ w∈A,w∉M
 |[],h=>by grind
 |a::l,h=>by
  by_cases k:a∈M
  .exact⟨[],a,l,rfl,k,sS⟩
  .obtain⟨A,z,B,h1,h2,h3⟩:=HP (M:=M) (l:=l) (by grind);exact⟨a::A,z,B,by rw[h1];rfl,h2,by grind⟩
structure Thg(E:List Ed)(T:(Int->Prop)×(Int->Prop)):Prop where
 kind:(∃ e∈E,(∀ v,¬T.1 v)/\∀ v,T.2 v↔v=e.a\/v=e.b)\/
  ((∃ v,T.1 v)/\(∀ p q,T.1 p->T.1 q->RIn E T.1 p q)/\∀ c,T.2 c->∃ p,T.1 p/\c∈nbr E p)
 off:∀ v,T.1 v->¬T.2 v
 two:∃ a b,T.2 a/\T.2 b/\a≠b
def Dt(E:List Ed)(T:(Int->Prop)×(Int->Prop))(c u:Int):Prop:=T.2 c/\(∃ e∈E,prE e=prP c u)/\(T.1 u\/((∀ v,¬T.1 v)/\T.2 u))
structure By'(F:List (List Int))(T:(Int->Prop)×(Int->Prop)):Prop where
 on:∀ c,T.2 c->∃ u,(c,u)∈PF F
 off:∀ v,T.1 v->∀ u,(v,u)∉PF F
 new:(∀ v,¬T.1 v)->∀ a b,T.2 a->T.2 b->(a,b)∉PF F
section
variable {E:List Ed} {T:(Int->Prop)×(Int->Prop)} (hT:Thg E T) (Zo:∀ e∈E,e.a≠e.b)
include hT Zo
theorem Thg.way{F:List (List Int)}(hF:By' F T){c u d v:Int}(h:Dt E T c u)(k:Dt E T d v)(hcd:c≠d):∃ M,WyE E F c d M/\(∀ w∈M,T.1 w)/\(c,u)∈lnk (c::(M++[d]))/\(v,d)∈lnk (c::(M++[d]))/\((∃ w,T.1 w)->M≠[]):=by
 obtain⟨h1,h2,h3⟩:=h;obtain⟨k1,k2,k3⟩:=k;rcases hT.kind with⟨e,he,z1,z2⟩|⟨z1,z2,z3⟩
 .have hu:u=d:=by
   have a1:=(z2 c).1 h1;have a2:=(z2 u).1 (by grind);have a3:=(z2 d).1 k1;obtain⟨f,hf,q⟩:=h2;have:=Zo f hf;have:=bF q
   grind
  have hv:v=c:=by
   have a1:=(z2 c).1 h1;have a2:=(z2 v).1 (by grind);have a3:=(z2 d).1 k1;obtain⟨f,hf,q⟩:=k2;have:=Zo f hf;have:=bF q
   grind
  subst hu hv;refine⟨[],⟨by grind,fun a b q=>?_,fun p q=>?_,sS,hF.on _ h1,hF.on _ k1⟩,sS,by simp[lnk],by simp[lnk],fun⟨w,q⟩=>absurd q (z1 w)⟩
  .simp[lnk]at q;rw[q.1,q.2];exact h2
  .simp[lnk]at q;rw[q];exact hF.new z1 _ _ h1 k1
 .have hu:T.1 u:=h3.resolve_right fun q=>z1.elim q.1;have hv:T.1 v:=k3.resolve_right fun q=>z1.elim q.1;obtain⟨N,n1,n2,n3,n4⟩:=Kj (z2 u v hu hv);have hc:=hT.off;have e1:∃ N',N++[v]=u::N':=by
   cases N with
   |nil=>exact⟨[],by simp at n4;simp[n4]⟩
   |cons a N=>exact⟨N++[v],by simp at n4;simp[n4]⟩
  obtain⟨N',e1⟩:=e1;have l1:lnk (c::((N++[v])++[d]))=(c,u)::lnk ((N++[v])++[d]):=by rw[e1];rfl
  have l2:lnk ((N++[v])++[d])=lnk (N++[v])++[(v,d)]:=by rw[aAD];exact uO N v d
  refine⟨N++[v],⟨?_,fun a b q=>?_,fun p q w=>?_,fun w q=>hF.off w (n2 w q),hF.on _ h1,hF.on _ k1⟩,n2,?_,?_,fun _=>by simp⟩
  .grind
  .rw[l1,l2]at q;rcases aAe.1 q with q|q
   .injection q with q1 q2;rw[q1,q2];exact h2
   .rcases aAd.1 q with q|q
    .exact n3 a b q
    .rw[aAk]at q;injection q with q1 q2;rw[q1,q2];exact Br k2
  .have io:∀ w,T.1 w->∀ z,(w,z)∉PF F/\(z,w)∉PF F:=fun w hw z=>⟨hF.off w hw z,fun q=>by
    obtain⟨r,hr,i⟩:=aV.1 q;obtain⟨z',hz⟩:=gV (pS i).2
    exact hF.off w hw z' (aV.2 ⟨r,hr,hz⟩)⟩
   obtain⟨a,b⟩:=p;have q1:=eX (y:=d) (l:=c::(N++[v])) q;rcases aAe.1 q1 with rfl|q1
   .rw[l1]at q;rcases aAe.1 q with q|q
    .injection q with _ q;exact(io u hu a).2 (q ▸ w)
    .rw[l2]at q;rcases aAd.1 q with q|q
     .exact hc a (n2 a (bE q).1) h1
     .rw[aAk]at q;injection q with q _;exact hc a (q ▸ hv) h1
   .exact(io a (n2 a q1) b).1 w
  .rw[l1];exact aAf
  .rw[l1,l2];simp
end
theorem Thg.dart{E:List Ed}{T:(Int->Prop)×(Int->Prop)}(hT:Thg E T)(Zo:∀ e∈E,e.a≠e.b){c:Int}(hc:T.2 c):∃ u,Dt E T c u:=by
 rcases hT.kind with⟨e,he,z1,z2⟩|⟨z1,z2,z3⟩
 .rcases(z2 c).1 hc with rfl|rfl
  .exact⟨e.b,hc,⟨e,he,rfl⟩,.inr ⟨z1,(z2 _).2 (.inr rfl)⟩⟩
  .exact⟨e.a,hc,⟨e,he,aJ _ _⟩,.inr ⟨z1,(z2 _).2 (.inl rfl)⟩⟩
 .obtain⟨p,hp,k⟩:=z3 c hc;exact⟨p,hc,Br (kK.1 k),.inl hp⟩
def In'(E:List Ed)(s:Int->Int)(A:List (Int×Int))(r:List Int)(T:(Int->Prop)×(Int->Prop)):Prop:=∀ c u,Dt E T c u->SdT s A r (cd (c,u))
section
variable {E:List Ed} {s:Int->Int} (hP:PlE E s) {A:List (Int×Int)} {F:List (List Int)} (hE:Emb E s A F) {T:(Int->Prop)×(Int->Prop)} (hT:Thg E T) (hB:By' F T)
include hP hE hT hB
theorem Emb.dart_in{r:List Int}(hr:r∈F){c u d v:Int}(h:Dt E T c u)(k:Dt E T d v)(hcd:c≠d)(hs:SdT s A r (cd (c,u))):SdT s A r (cd (d,v)):=by obtain⟨M,w1,_,w3,w4,_⟩:=hT.way hP.bl.ne hB h k hcd;exact hE.wayT hP w1 w3 w4 hr hs
theorem Emb.in_all{r:List Int}(hr:r∈F){c u:Int}(h:Dt E T c u)(hs:SdT s A r (cd (c,u))):In' E s A r T:=fun d v k=>by
 by_cases e:c=d
 .obtain⟨a,b,h1,h2,h3⟩:=hT.two;have:∃ m,T.2 m/\m≠c:=by
   by_cases q:a=c
   .exact⟨b,h2,fun q'=>h3 (q.trans q'.symm)⟩
   .exact⟨a,h1,q⟩
  obtain⟨m,m1,m2⟩:=this;obtain⟨t,ht⟩:=hT.dart hP.bl.ne m1;exact hE.dart_in hP hT hB hr ht k (e ▸ m2) (hE.dart_in hP hT hB hr h ht m2.symm hs)
 .exact hE.dart_in hP hT hB hr h k e hs
theorem Emb.in_ex:∃ r∈F,In' E s A r T:=by obtain⟨a,b,h1,h2,h3⟩:=hT.two;obtain⟨u,hu⟩:=hT.dart hP.bl.ne h1;obtain⟨v,hv⟩:=hB.on a h1;obtain⟨r,hr,k⟩:=hE.ex hP (p:=(a,u)) hu.2.1 hv;exact⟨r,hr,hE.in_all hP hT hB hr hu k⟩
theorem Emb.in_on{r:List Int}(hr:r∈F)(h:In' E s A r T){c:Int}(hc:T.2 c):c∈r:=by obtain⟨u,hu⟩:=hT.dart hP.bl.ne hc;exact hE.here hP hr (p:=(c,u)) hu.2.1 (h c u hu)
theorem Thg.legs{x y c:Int}(hx:T.2 x)(hy:T.2 y)(hc:T.2 c)(h1:x≠y)(h2:y≠c)(h3:x≠c):∃ M u t Ma z Mb N uc tz,WyE E F x y M/\Dt E T x u/\(x,u)∈lnk (x::(M++[y]))/\(t,y)∈lnk (x::(M++[y]))/\M=Ma++z::Mb/\(∀ w∈M,T.1 w)/\(∀ w∈N,T.1 w)/\
 (c::(N++[z])).Nodup/\(∀ u v,(u,v)∈lnk (c::(N++[z]))->∃ e∈E,prE e=prP u v)/\(∀ v∈N,v∉M)/\(c,uc)∈lnk (c::(N++[z]))/\(tz,z)∈lnk (c::(N++[z]))/\Dt E T c uc:=by
 obtain⟨u,hu⟩:=hT.dart hP.bl.ne hx;obtain⟨t,ht⟩:=hT.dart hP.bl.ne hy;obtain⟨uc,huc⟩:=hT.dart hP.bl.ne hc;have hi:∃ w,T.1 w:=by
  rcases hT.kind with⟨e,he,z1,z2⟩|⟨z1,_⟩
  .have:=(z2 x).1 hx;have:=(z2 y).1 hy;have:=(z2 c).1 hc;grind
  .exact z1
 obtain⟨M,w1,w2,w3,w4,w5⟩:=hT.way hP.bl.ne hB hu ht h1;have hM:=w5 hi;have z2:∀ p q,T.1 p->T.1 q->RIn E T.1 p q:=by
  rcases hT.kind with⟨e,he,z1,z2⟩|⟨_,z2,_⟩
  .exact absurd hi.choose_spec (z1 _)
  .exact z2
 obtain⟨m,M',rfl⟩:=aBv hM;have hci:T.1 uc:=huc.2.2.resolve_right fun q=>q.1 _ hi.choose_spec;obtain⟨l,n1,n2,n3,n4⟩:=Kj (z2 uc m hci (w2 m aAf));obtain⟨N,z,B,e1,e2,e3⟩:=HP (M:=m::M') (l:=l++[m]) ⟨m,sS,aAf⟩;obtain⟨Ma,Mb,e4⟩:=aBh e2;have hN:∀ w∈N,T.1 w:=fun w k=>n2 w (by rw[e1];simp[k]);have hco:=hT.off;have row:∀ a b,(a,b)∈lnk (N++[z])->∃ e∈E,prE e=prP a b:=fun a b k=>n3 a b (by rw[e1];have:=EI [] (N++[z]) B k;simpa using this);have hnd:(c::(N++[z])).Nodup:=by
  have:T.1 z:=w2 z e2
  grind
 cases N with
 |nil=>
  have hz:z=uc:=by rw[e1]at n4;simpa using n4
  subst hz;exact⟨_,u,t,Ma,z,Mb,[],z,c,w1,hu,w3,w4,e4,w2,sS,hnd,fun a b q=>by simp[lnk]at q;rw[q.1,q.2];exact huc.2.1,sS,by simp[lnk],by simp[lnk],huc⟩
 |cons n N=>
  have hn:n=uc:=by rw[e1]at n4;simpa using n4
  subst hn;obtain⟨N',t',e5⟩:∃ N' t',n::N=N'++[t']:=⟨(n::N).dropLast,(n::N).getLast sS,(aCe _).symm⟩;refine⟨_,u,t,Ma,z,Mb,n::N,n,t',w1,hu,w3,w4,e4,w2,hN,hnd,fun a b q=>?_,e3,by simp[lnk],?_,huc⟩
  .rcases aAe.1 q with q|q
   .injection q with q1 q2;rw[q1,q2];exact huc.2.1
   .exact row a b q
  .refine ET [c] ?_;show(t',z)∈lnk ((n::N)++[z]);rw[e5,aAD];exact List.mem_of_mem_getLast? (by rw[show N'++([t']++[z])=N'++[t',z] from rfl,uO];simp)
end
section
variable {E:List Ed} {s:Int->Int} (hP:PlE E s) {A:List (Int×Int)} {F:List (List Int)} (hE:Emb E s A F) {T T':(Int->Prop)×(Int->Prop)} (hT:Thg E T) (hB:By' F T) (hT':Thg E T') (hB':By' F T') (ho:∀ v,T.1 v->¬T'.1 v)
include hP hE hT hB hT' hB' ho
theorem Yz{r:List Int}(hn:r.Nodup){x y p q:Int}(h:Cr r x y p q):∃ a b P Q,r=a++b/\b++a=x::(P++y::Q)/\((p∈P/\q∈Q)\/(q∈P/\p∈Q)):=by
 have h':=h.2;obtain⟨a,b,P,Q,e1,e2⟩:=Em h.1.1 h.1.2.1 (by intro e;rw[e]at h';unfold crn cyn at h';omega);refine⟨a,b,P,Q,e1,e2,?_⟩;have hd:(x::(P++y::Q)).Nodup:=by rw[<- e2];grind
 have k:Cr (x::(P++y::Q)) x y p q:=h.mono fun u v w _ _ _=>by rw[<- e2];exact(Ew (e1 ▸ hn)).2 u v w |>.1 |> fun z=>by rw[e1];exact z
 have f:=@eJ x y P Q [] hd sS sS;have f1:=f k.1.1;have f2:=f k.1.2.1;have f3:=f k.1.2.2.1;have f4:=f k.1.2.2.2;have k2:=k.2;unfold crn cyn at k2
 grind
theorem Emb.avo{r:List Int}(hr:r∈F)(h:In' E s A r T)(h':In' E s A r T'):Avo r T.2 T'.2:=by
 have hn:=hE.simple r hr;have dart:=fun {c} (k:T.2 c)=>hT.dart hP.bl.ne k;have dart':=fun {c} (k:T'.2 c)=>hT'.dart hP.bl.ne k;refine⟨fun a b c d ka kb kc kd q=>?_,fun a b c ka kb kc ka' kb' kc'=>?_⟩
 .have v8:a≠b:=fun e=>by have:=q.2;rw[e]at this;unfold crn cyn at this;omega
  have hcd:c≠d:=fun e=>by have:=q.2;rw[e]at this;unfold crn cyn at this;omega
  obtain⟨u,hu⟩:=dart ka;obtain⟨t,ht⟩:=dart kb;obtain⟨M,w1,w2,w3,w4,_⟩:=hT.way hP.bl.ne hB hu ht v8;obtain⟨a',b',P,Q,e1,e2,e3⟩:=Yz hP hE hT hB hT' hB' ho hn q;have fin:∀ {c d},T'.2 c->T'.2 d->c≠d->c∈P->d∈Q->False:=fun {c d} kc kd hcd hp hq=>by obtain⟨u',hu'⟩:=dart' kc;obtain⟨t',Y4⟩:=dart' kd;obtain⟨N,v1,v2,v3,v4,_⟩:=hT'.way hP.bl.ne hB' hu' Y4 hcd;exact hE.no_cross hP w1 w3 w4 hr (h a u hu) e1 e2 v1 v3 v4 (h' c u' hu') hp hq fun v k k'=>ho v (w2 v k') (v2 v k)
  rcases e3 with e3|e3
  .exact fin kc kd hcd e3.1 e3.2
  .exact fin kd kc hcd.symm e3.1 e3.2
 .by_cases h1:a=b
  .exact .inl h1
  by_cases h2:b=c
  .exact .inr (.inl h2)
  by_cases h3:a=c
  .exact .inr (.inr h3)
  exfalso;have fin:∀ x y c,T.2 x->T.2 y->T.2 c->T'.2 x->T'.2 y->T'.2 c->x≠y->y≠c->x≠c->∀ a b P Q,r=a++b->b++a=x::(P++y::Q)->c∈P->False:=by
   intro x y c kx ky kc kx' ky' kc' h1 h2 h3 a b P Q e1 e2 hcP;obtain⟨Pa,Pb,rfl⟩:=aBh hcP;obtain⟨M,u,t,Ma,z,Mb,N,uc,tz,w1,hu,w3,w4,w5,w6,w7,w8,w9,w10,w11,w12,huc⟩:=hT.legs hP hE hB kx ky kc h1 h2 h3;have hi:∃ w,T'.1 w:=by
    rcases hT'.kind with⟨e,he,z1,z2⟩|⟨z1,_⟩
    .have:=(z2 x).1 kx';have:=(z2 y).1 ky';have:=(z2 c).1 kc';grind
    .exact z1
   obtain⟨ix,hix⟩:=dart' kx';obtain⟨iy,hiy⟩:=dart' ky';obtain⟨ic,hic⟩:=dart' kc';obtain⟨N1,v1,v2,v3,v4,v5⟩:=hT'.way hP.bl.ne hB' hix hiy h1;obtain⟨N2,x1,x2,x3,x4,x5⟩:=hT'.way hP.bl.ne hB' hiy hic h2
   exact hE.no_three hP w1 w3 w4 hr (h x u hu) e1 e2 w5 w8 w9 (fun v k=>hB.off v (w7 v k)) w10 w11 w12 (h c uc huc) v1 x1 (v5 hi) (x5 hi)
    (fun v k=>⟨fun k'=>ho v (w6 v k') (v2 v k),fun k'=>ho v (w7 v k') (v2 v k)⟩) (fun v k=>⟨fun k'=>ho v (w6 v k') (x2 v k),fun k'=>ho v (w7 v k') (x2 v k)⟩) v3 v4 x3 x4 (h' x ix hix)
  have ra:=hE.in_on hP hT hB hr h ka;have rb:=hE.in_on hP hT hB hr h kb;have rc:=hE.in_on hP hT hB hr h kc;obtain⟨a',b',P,Q,e1,e2⟩:=Em ra rb h1;have hc:c∈P\/c∈Q:=by
   have:c∈b'++a':=by rw[aAd];rw[e1,aAd]at rc;exact rc.symm
   rw[e2]at this
   grind
  rcases hc with k|k
  .exact fin a b c ka kb kc ka' kb' kc' h1 h2 h3 a' b' P Q e1 e2 k
  .obtain⟨Qa,Qb,rfl⟩:=aBh k;refine fin a c b ka kc kb ka' kc' kb' h3 (aCB h2) h1 a' b' (P++b::Qa) Qb e1 (by rw[e2];simp) sS
end
theorem Rt.rev{l m:List Int}(h:Rt l m):Rt l.reverse m.reverse:=by obtain⟨a,b,rfl,rfl⟩:=h;exact⟨b.reverse,a.reverse,sS,sS⟩
theorem Fy(r:List Int)(u v:Int):(u,v)∈prs r.reverse↔(v,u)∈prs r:=by
 cases r with
 |nil=>simp[prs,lnk]
 |cons x l=>
  have h1:(prs (x::l).reverse).Perm (prs (x::l.reverse)):=by rw[aCU];exact rW l.reverse [x]
  have h2:prs (x::l.reverse)=lnk (x::(l++[x])).reverse:=by unfold prs;simp
  rw[h1.mem_iff,h2,<- qW];unfold prs;simp
structure Kr(E:List Ed)(T:(Int->Prop)×(Int->Prop))(r:List Int):Prop where
 nd:r.Nodup
 len:3<=r.length
 ed:∀ u v,(u,v)∈prs r->∃ e∈E,prE e=prP u v
 off:∀ v∈r,¬T.1 v
 on:∀ v,T.2 v->v∈r
 new:(∀ v,¬T.1 v)->∀ a b,T.2 a->T.2 b->(a,b)∉prs r
theorem Kr.rt{E:List Ed}{T:(Int->Prop)×(Int->Prop)}{r r':List Int}(h:Kr E T r)(k:Rt r r'):Kr E T r':=by obtain⟨a,b,rfl,rfl⟩:=k;have hp:∀ p,p∈prs (b++a)↔p∈prs (a++b):=fun p=>(rW b a).mem_iff;obtain⟨h1,h2,h3,h4,h5,h6⟩:=h;exact⟨by grind,by grind,fun u v=>by rw[hp];exact h3 u v,by grind,by grind,fun q c d=>by rw[hp];exact h6 q c d⟩
theorem Kr.rev{E:List Ed}{T:(Int->Prop)×(Int->Prop)}{r:List Int}(h:Kr E T r):Kr E T r.reverse:=by obtain⟨h1,h2,h3,h4,h5,h6⟩:=h;exact⟨(aBr r).nodup_iff.2 h1,by simpa using h2,fun u v k=>Br (h3 v u ((Fy r u v).1 k)),by simpa using h4,by simpa using h5,fun q c d i j k=>h6 q d c j i ((Fy r c d).1 k)⟩
theorem Avo.rt{r r':List Int}{C D:Int->Prop}(hn:r.Nodup)(h:Avo r C D)(k:Rt r r'):Avo r' C D:=by obtain⟨a,b,rfl,rfl⟩:=k;exact h.rot hn
theorem jG{r:List Int}{p:Int×Int}:p∈PF [r,r.reverse]↔p∈prs r\/p.swap∈prs r:=by rw[show PF [r,r.reverse]=prs r++prs r.reverse by simp[PF],aAd];exact or_congr aEF (Fy r p.1 p.2)
section
variable {E:List Ed} {s:Int->Int} (hP:PlE E s) {T:(Int->Prop)×(Int->Prop)}
include hP
theorem Kr.emb{r:List Int}(h:Kr E T r):Emb E s (prs r) [r,r.reverse]:=by
 obtain⟨h1,h2,h3,h4,h5,h6⟩:=h
 match r,h2 with
 |x::y::l,h2=>
  obtain⟨N,z,e⟩:∃ N z,y::l=N++[z]:=⟨_,_,(aCe (List.cons_ne_nil y l)).symm⟩;rw[e]at h1 h2 h3 ⊢;have hR:Rng E x z N:=⟨h1,by intro e;rw[e]at h2;simp at h2,h3⟩;have:=hR.emb hP
  rwa [show(x::(N++[z])).reverse=z::(N.reverse++[x]) by simp]
omit hP in
theorem Kr.by'{r:List Int}(h:Kr E T r):By' [r,r.reverse] T:=by
 refine⟨fun c hc=>?_,fun v hv u k=>?_,fun q a b ka kb k=>?_⟩
 .obtain⟨u,hu⟩:=gV (h.on c hc);exact⟨u,jG.2 (.inl hu)⟩
 .rcases jG.1 k with k|k
  .exact h.off v (pS k).1 hv
  .exact h.off v (pS (x:=u) (y:=v) k).2 hv
 .rcases jG.1 k with k|k
  .exact h.new q a b ka kb k
  .exact h.new q b a kb ka k
theorem Emb.kr{A:List (Int×Int)}{F:List (List Int)}(hE:Emb E s A F)(hT:Thg E T)(hB:By' F T){r:List Int}(hr:r∈F)(h:In' E s A r T)(hl:3<=r.length):Kr E T r:=
 ⟨hE.simple r hr,hl,fun u v k=>hE.sub (aV.2 ⟨r,hr,k⟩),fun v hv k=>by obtain⟨u,hu⟩:=gV hv;exact hB.off v k u (aV.2 ⟨r,hr,hu⟩),fun v k=>hE.in_on hP hT hB hr h k,fun q a b ka kb k=>hB.new q a b ka kb (aV.2 ⟨r,hr,k⟩)⟩
theorem pieces(hT:Thg E T){r:List Int}(hk:Kr E T r){x y:Int}{P Q M:List Int}(hrt:Rt r (x::(P++y::Q)))(hx:T.2 x)(hy:T.2 y)(hn:(x::(M++[y])).Nodup)(hed:∀ u v,(u,v)∈lnk (x::(M++[y]))->∃ e∈E,prE e=prP u v)(hM:∀ v∈M,T.1 v)(hM0:M=[]->∀ v,¬T.1 v)
 {Pc:(Int->Prop)×(Int->Prop)->Prop} (hp:∀ S,Pc S->Thg E S/\(∀ v,S.1 v->T.1 v/\v∉M)/\(∀ v,S.2 v->v∈M\/T.2 v)/\((∀ v,¬S.1 v)->(∃ v,S.2 v/\v∈M)/\∀ a b,S.2 a->S.2 b->(a,b)∉lnk (x::(M++[y])))) (hd:∀ S S',Pc S->Pc S'->S≠S'->∀ v,S.1 v->¬S'.1 v):
 ∃ side:(Int->Prop)×(Int->Prop)->Bool,∀ S,Pc S->Kr E S (if side S then x::(P++y::M.reverse)else y::(Q++x::M))/\∀ S',Pc S'->S≠S'->side S=side S'->Avo (if side S then x::(P++y::M.reverse)else y::(Q++x::M)) S.2 S'.2:=by
 have hE:=hk.emb hP;have hB:=hk.by';have Zo:=hP.bl.ne;obtain⟨q,hq,j5⟩:=hE.in_ex hP hT hB;have G8:x≠y:=by grind
 obtain⟨u,hu⟩:∃ u,(x,u)∈lnk (x::(M++[y])):=by cases M with|nil=>exact⟨y,by simp[lnk]⟩|cons m M=>exact⟨m,by simp[lnk]⟩
 obtain⟨t,ht⟩:∃ t,(t,y)∈lnk (x::(M++[y])):=by obtain⟨N,t,e⟩:∃ N t,x::M=N++[t]:=⟨_,_,(aCe (List.cons_ne_nil x M)).symm⟩;exact⟨t,by rw[<- List.cons_append,e,aAD,show [t]++[y]=[t,y] from rfl,uO];simp⟩
 have offr:∀ v∈M,∀ w,(v,w)∉PF [r,r.reverse]:=fun v k=>hB.off v (hM v k);have hw:WyE E [r,r.reverse] x y M:=by
  refine⟨hn,hed,fun p hp k=>?_,offr,hB.on x hx,hB.on y hy⟩;obtain⟨a,b⟩:=p;have h1:=eX (y:=y) (l:=x::M) hp;rcases aAe.1 h1 with rfl|h1
  .have h2:=iR hp;rcases aAd.1 h2 with h2|h2
   .exact offr b h2 a (jG.2 ((jG.1 k).symm.imp id id))
   .rw[aAk]at h2;subst h2;cases M with
    |nil=>exact hB.new (hM0 rfl) _ _ hx hy k
    |cons m M=>
     have:(a,m)∈lnk (a::(m::M++[b])):=by simp[lnk]
     have:=fG hn hp this
     grind
  .exact offr a h1 b k
 have hdu:Dt E T x u:=by
  refine⟨hx,hed x u hu,?_⟩;have h2:=iR hu;rcases aAd.1 h2 with h2|h2
  .exact .inl (hM u h2)
  .rw[aAk]at h2;subst h2;cases M with
   |nil=>exact .inr ⟨hM0 rfl,hy⟩
   |cons m M=>
    have:(x,m)∈lnk (x::(m::M++[u])):=by simp[lnk]
    have:=fG hn hu this
    grind
 obtain⟨P2,Q2,F',hL⟩:=hE.layAt hP hw hu ht hq (j5 x u hdu);have hF':∀ z∈F',z=r\/z=r.reverse:=fun z k=>by have:=hL.perm.mem_iff.2 (aAc _ k);simpa using this
 have mr:∀ v,(∃ w,(v,w)∈PF [r,r.reverse])->v∉M:=fun v ⟨w,k⟩ q=>offr v q w k;have onr:∀ v,(v=x\/v=y\/T.2 v)->∃ w,(v,w)∈PF [r,r.reverse]:=fun v k=>hB.on v (by grind);have T5:∀ S,Pc S->By' ((x::(P2++y::M.reverse))::(y::(Q2++x::M))::F') S:=fun S k=>by
  obtain⟨k1,k2,k3,k4⟩:=hp S k;refine⟨fun c hc=>?_,fun v hv w i=>?_,fun z a b ka kb i=>?_⟩
  .rcases k3 c hc with h|h
   .obtain⟨w,i⟩:=gV (r:=x::(P2++y::M.reverse)) (v:=c) (sF1 h);exact⟨w,aV.2 ⟨_,aAf,i⟩⟩
   .obtain⟨w,i⟩:=hB.on c h;exact⟨w,(hL.mem _).2 (.inl i)⟩
  .obtain⟨v1,v2⟩:=k2 v hv;have vw:v∉x::(M++[y]):=fun i=>by
    have:=hT.off v v1
    grind
   rcases(hL.mem _).1 i with i|i|i
   .exact hB.off v v1 w i
   .exact vw (bE i).1
   .exact vw (bE (x:=w) (y:=v) i).2
  .obtain⟨⟨m,m1,m2⟩,k5⟩:=k4 z;rcases(hL.mem _).1 i with i|i|i
   .have ha:=mr a ⟨b,i⟩;have hb':=mr b ⟨a,jG.2 ((jG.1 i).symm.imp id id)⟩;obtain⟨e,he,eq⟩:=hE.sub i;have:=Zo e he;have:=bF (u:=e.a) (v:=e.b) (x:=a) (y:=b) eq;rcases k1.kind with⟨f,hf,_,z2⟩|⟨⟨v,z1⟩,_⟩
    .have:=(z2 m).1 m1;have:=(z2 a).1 ka;have:=(z2 b).1 kb
     grind
    .exact z v z1
   .exact k5 a b ka kb i
   .exact k5 b a kb ka i
 have hring:∀ S,Pc S->∃ c:Bool,In' E s (lnk (x::(M++[y]))++prs r) (if c then x::(P2++y::M.reverse)else y::(Q2++x::M)) S:=fun S k=>by
  obtain⟨k1,k2,k3,k4⟩:=hp S k;obtain⟨z,hz,hi⟩:=hL.emb.in_ex hP k1 (T5 S k);have:z∉F':=fun hzF=>by
   by_cases c:∃ v,S.2 v/\v∈M
   .obtain⟨v,v1,v2⟩:=c;have:=hL.emb.in_on hP k1 (T5 S k) hz hi v1;have:v∈r:=by rcases hF' z hzF with e|e<;>rw[e]at this<;>simpa using this
    obtain⟨w,i⟩:=gV this;exact offr v v2 w (jG.2 (.inl i))
   .obtain⟨a,_,ha,_⟩:=k1.two;have hTa:=(k3 a ha).resolve_left fun i=>c ⟨a,ha,i⟩;obtain⟨w,hw⟩:=k1.dart Zo ha;have N5:S.1 w:=hw.2.2.resolve_right fun i=>c (k4 i.1).1;obtain⟨v0,hv0⟩:=hB.on a hTa;have hs:=hL.side (a,w) hw.2.1 v0 hv0 (j5 a w ⟨hTa,hw.2.1,.inl (k2 w N5).1⟩);have hz2:=hi a w hw;rcases hs with hs|hs
    .have:=hL.emb.fn hP hz aAf hz2 hs;have hnd:=hL.emb.nd;obtain⟨i,I4⟩:=gV (r:=z) (v:=x) (by rw[this];simp);have hpf:(prs (x::(P2++y::M.reverse))++(prs (y::(Q2++x::M))++PF F')).Nodup:=hnd;exact(aAo.1 hpf).2.2 _ (this ▸ I4) _ (aAx _ (aV.2 ⟨z,hzF,I4⟩)) rfl
    .have:=hL.emb.fn hP hz (aAc _ aAf) hz2 hs;have hnd:=hL.emb.nd;obtain⟨i,I4⟩:=gV (r:=z) (v:=x) (by rw[this];simp);have hpf:(prs (x::(P2++y::M.reverse))++(prs (y::(Q2++x::M))++PF F')).Nodup:=hnd;exact(aAo.1 (aAo.1 hpf).2.1).2.2 _ (this ▸ I4) _ (aV.2 ⟨z,hzF,I4⟩) rfl
  rcases aAe.1 hz with e|hz
  .exact⟨true,e ▸ hi⟩
  .rcases aAe.1 hz with e|hz
   .exact⟨false,e ▸ hi⟩
   .exact absurd hz this
 obtain⟨c,hc⟩:∃ c:(Int->Prop)×(Int->Prop)->Bool,∀ S,Pc S->In' E s (lnk (x::(M++[y]))++prs r) (if c S then x::(P2++y::M.reverse)else y::(Q2++x::M)) S:=
  ⟨fun S=>open Classical in if h:Pc S then(hring S h).choose else true,fun S k=>by simp only[dif_pos k];exact(hring S k).choose_spec⟩
 have hrq:Rt q (x::(P2++y::Q2)):=by obtain⟨a,b,e1,e2⟩:=hL.rot;exact⟨a,b,e1,e2.symm⟩
 have V6:q.Nodup:=hE.simple q hq;have hin':∀ b:Bool,(if b then x::(P2++y::M.reverse)else y::(Q2++x::M))∈(x::(P2++y::M.reverse))::(y::(Q2++x::M))::F':=fun b=>by cases b<;>simp
 have hlen:∀ b:Bool,3<=(if b then x::(P2++y::M.reverse)else y::(Q2++x::M)).length:=fun b=>by
  have Z8:M=[]->∀ i,i=(x,y)\/i=(y,x)->i∉prs q:=fun e i hi k=>by
   have k:=aV.2 ⟨q,hq,k⟩;rcases hi with rfl|rfl
   .exact hB.new (hM0 e) _ _ hx hy k
   .exact hB.new (hM0 e) _ _ hy hx k
  have hpq:∀ i,i∈prs (x::(P2++y::Q2))->i∈prs q:=fun i k=>by obtain⟨a,b,e1,e2⟩:=hrq;rw[e1,(rW a b).mem_iff,<- e2];exact k
  cases hm:M with
  |cons m M=>cases b<;>simp<;>omega
  |nil=>
   cases b with
   |true=>
    cases X5:P2 with
    |cons m M=>simp
    |nil=>exact absurd (hpq _ (by rw[X5,cB];left;simp[lnk])) (Z8 hm _ (.inl rfl))
   |false=>
    cases X5:Q2 with
    |cons m M=>simp
    |nil=>exact absurd (hpq _ (by rw[X5,cB];right;simp[lnk])) (Z8 hm _ (.inr rfl))
 have kr:∀ S,Pc S->Kr E S (if c S then x::(P2++y::M.reverse)else y::(Q2++x::M)):=fun S k=>hL.emb.kr hP (hp S k).1 (T5 S k) (hin' _) (hc S k) (hlen _)
 have av:∀ S S',Pc S->Pc S'->S≠S'->c S=c S'->Avo (if c S then x::(P2++y::M.reverse)else y::(Q2++x::M)) S.2 S'.2:=fun S S' k k' Zo he=>
  hL.emb.avo hP (hp S k).1 (T5 S k) (hp S' k').1 (T5 S' k') (hd S S' k k' Zo) (hin' _) (hc S k) (by rw[he];exact hc S' k')
 have uniq:∀ {P' Q':List Int},Rt q (x::(P'++y::Q'))->P2=P'/\Q2=Q':=fun {P' Q'} h=>by obtain⟨a,b,e1,e2⟩:=hrq;obtain⟨a',b',f1,f2⟩:=h;exact Fw (by rw[<- f1];exact V6) (f1.symm.trans e1) f2.symm e2.symm
 have N7:q=r\/q=r.reverse:=by simpa using hq
 rcases N7 with e|e
 .obtain⟨rfl,rfl⟩:=uniq (e ▸ hrt);exact⟨c,fun S k=>⟨kr S k,fun S' k'=>av S S' k k'⟩⟩
 .have h1:Rt (x::(P++y::Q)).reverse (x::(Q.reverse++y::P.reverse)):=⟨Q.reverse++y::P.reverse,[x],sS,sS⟩;obtain⟨rfl,rfl⟩:=uniq (e ▸ hrt.rev.trans h1);have t1:Rt (x::(Q.reverse++y::M.reverse)).reverse (y::(Q++x::M)):=⟨M,y::Q++[x],sS,sS⟩;have t2:Rt (y::(P.reverse++x::M)).reverse (x::(P++y::M.reverse)):=⟨M.reverse,x::P++[y],sS,sS⟩;refine⟨fun S=>!c S,fun S k=>?_⟩;have k1:=kr S k;have k2:=av S;cases hcS:c S with
  |true=>simp only[hcS,aBq]at k1 k2;simp only[hcS,Bool.not_true,aBb,aBE];exact⟨k1.rev.rt t1,fun S' k' Zo he=>((k2 S' k k' Zo (by simpa[hcS]using he)).rev k1.nd).rt k1.rev.nd t1⟩
  |false=>simp only[hcS,aBb,aBE]at k1 k2;simp only[hcS,Bool.not_false,aBq];exact⟨k1.rev.rt t2,fun S' k' Zo he=>((k2 S' k k' Zo (by simpa[hcS]using he)).rev k1.nd).rt k1.rev.nd t2⟩
end
theorem Qf{vs S:List Int}(h:∃ v∈vs,v∈S):fst' vs S<vs.length/\vs.getD (fst' vs S) 0∈S:=by obtain⟨v,h1,h2⟩:=h;have hl:fst' vs S<vs.length:=List.findIdx_lt_length_of_exists ⟨v,h1,by simpa using h2⟩;refine⟨hl,?_⟩;have:=aEt (w:=hl);rw[aAg,aAh hl];exact aCh this
theorem PZ(b:Brg)(F:List (List Int)):(bZ b F.zipIdx).1<0\/∃ k:Nat,(bZ b F.zipIdx).1=k/\k<F.length/\∀ v∈b.ends,v∈F.getD k []:=by
 have key:∀(l:List (List Int×Nat)) (p:Int×Int),(∀ q∈l,q.2<F.length/\F.getD q.2 []=q.1)->(p.1<0\/∃ k:Nat,p.1=k/\k<F.length/\∀ v∈b.ends,v∈F.getD k [])->
  ((l.foldl (nQ b) p).1<0\/∃ k:Nat,(l.foldl (nQ b) p).1=k/\k<F.length/\∀ v∈b.ends,v∈F.getD k []):=by
  intro l;induction l with
  |nil=>intro p _ h;exact h
  |cons q l ih=>
   intro p hl hp;rw[List.foldl_cons];refine ih _ (fun r hr=>hl r (aAc _ hr)) ?_;obtain⟨q1,q2⟩:=hl q aAf;unfold nQ;by_cases e:off b.ends q.1=[]
   .rw[aAj e];by_cases e2:p.2=0
    .rw[aAj e2];refine .inr ⟨q.2,rfl,q1,fun v hv=>?_⟩;rw[q2];refine aAG fun x8=>?_;have:v∈off b.ends q.1:=fL.2 ⟨hv,x8⟩;rw[e]at this;cases this
    .rw[aAa e2];exact hp
   .rw[aAa e];exact hp
 refine key F.zipIdx (-1,0) (fun q hq=>?_) (.inl sS);obtain⟨r,k⟩:=q;have:=List.mem_zipIdx hq;simp only[aBD,aBy,Nat.sub_zero,true_and]at this;refine⟨this.1,?_⟩;rw[aAg,aAh this.1];exact this.2.symm
section
variable {E:List Ed} (hT:Tc E)
include hT
def Chn(E:List Ed)(h:Sh)(r:Brg×Int):Prop:=(∀ v∈r.1.ends,v∈vsF E)/\(r.2<0\/Brd E h.L h.on r.1/\∃ k:Nat,r.2=k/\k<h.F.length/\∀ v∈r.1.ends,v∈h.F.getD k [])
omit hT in
theorem Dc{h:Sh}:∀(B:List Brg) (J3:Brg×Int),(∀ b∈B,Brd E h.L h.on b)->Chn E h J3->Chn E h (bG h.F B J3)
 |[],J3,_,hb=>hb
 |b::B,J3,hB,hb=>by
  have h1:=hB b aAf;have hg:Chn E h (b,(bZ b h.F.zipIdx).1):=⟨fun v hv=>(h1.en v hv).2,(PZ b h.F).imp id fun k=>⟨h1,k⟩⟩;unfold bG
  split
  .exact hg
  .refine Dc B _ (fun c hc=>hB c (aAc _ hc)) ?_
   split
   .exact hg
   .exact hb
omit hT in
theorem Drn.two{h:Sh}(hD:Drn E h)(Zo:∀ e∈E,e.a≠e.b):∃ u v,u∈h.on/\v∈h.on/\u≠v:=by
 cases hL:h.L with
 |nil=>
  have hon:∀ v,v∉h.on:=fun v hv=>by obtain⟨u,_,k⟩:=(hD.on v).1 hv;rw[hL]at k;cases k
  have h1:=hD.cnt;rw[hL,aDu.2 fun v _=>by simpa using hon v]at h1;cases hF:h.F with
  |nil=>rw[hF]at h1;simp at h1
  |cons r F=>
   have hr:r∈h.F:=by rw[hF];exact aAf
   obtain⟨v,hv⟩:=aAM _ (hD.ne r hr);exact absurd (hD.ring_on hr hv) (hon v)
 |cons p L=>
  obtain⟨e,he,rfl⟩:=hD.sub p (by rw[hL];exact aAf);have hp:prE e∈h.L:=by rw[hL];exact aAf
  have:=Zo e he;exact⟨e.a,e.b,(hD.on _).2 ⟨e.b,fun k=>this k.symm,by rw[aJ];exact hp⟩,(hD.on _).2 ⟨e.a,this,hp⟩,this⟩
omit hT in
theorem Drn.link_on{h:Sh}(hD:Drn E h){x y:Int}(G8:x≠y)(hm:prP x y∈h.L):x∈h.on/\y∈h.on:=
 ⟨(hD.on x).2 ⟨y,fun e=>G8 e.symm,by rw[aJ];exact hm⟩,(hD.on y).2 ⟨x,G8,hm⟩⟩
theorem Gx{h:Sh}(hD:Drn E h){b:Brg}(hb:Brd E h.L h.on b):∃ u v,u∈b.ends/\v∈b.ends/\u≠v:=by
 rcases hb.kind with⟨_,e,he,_,k⟩|⟨h0,h1,h2,h3,h4⟩
 .exact⟨e.a,e.b,by rw[k];simp,by rw[k];simp,hT.ne e he⟩
 refine aAG fun x8=>?_;obtain⟨u,v,hu,hv,huv⟩:=hD.two hT.ne;obtain⟨p,hp⟩:=aAM _ h0;obtain⟨c,hc⟩:∃ c,∀ z∈b.ends,z=c:=by
  cases hE:b.ends with
  |nil=>exact⟨0,sS⟩
  |cons c R=>exact⟨c,fun z hz=>aAG fun k=>x8 ⟨z,c,by rw[hE];exact hz,by rw[hE];exact aAf,k⟩⟩
 have key:∀ t,t∈h.on->t≠c->p≠c->False:=fun t ht htc hpc=>by have hr:=hT.con c p t (h1 p hp).1 (hD.on_vs ht) hpc htc;have:=hr.closed (L:=fun z=>z∈b.inner) hp fun z hz w hw hwc=>(h3 z hz w hw).resolve_right fun k=>hwc (hc w k);exact(h1 t this).2 ht
 by_cases hpc:p=c
 ·
  have hno2:∀ z∈b.ends,False:=fun z hz=>by have:=(hb.en z hz).1;rw[hc z hz,<- hpc]at this;exact(h1 p hp).2 this
  have hr:=hT.con (max p u+1) p u (h1 p hp).1 (hD.on_vs hu) oO oO;have:=hr.closed (L:=fun z=>z∈b.inner) hp fun z hz w hw _=>(h3 z hz w hw).resolve_right fun k=>hno2 w k;exact(h1 u this).2 hu
 .by_cases huc:u=c
  .exact key v hv (fun k=>huv (by rw[huc,k])) hpc
  .exact key u hu huc hpc
theorem XC{h:Sh}(hD:Drn E h){b:Brg}(hb:Brd E h.L h.on b):∃ w,Mm ⟨vsF E,E⟩ b=some w/\w.Nodup/\2<=w.length/\w.length<=200/\(∀ v∈w,v∈vsF E)/\w.getD 0 0∈b.ends/\w.getD (w.length-1) 0∈b.ends/\(∀ v∈dD w,v∉h.on)/\
 (∀ x y,(x,y)∈lnk w->prP x y∉h.L/\∃ e∈E,prE e=prP x y)/\(∀ v∈dD w,v∈b.inner)/\(b.inner≠[]->dD w≠[]):=by
 obtain⟨u,v,hu,hv,huv⟩:=Gx hT hD hb;obtain⟨f1,f2⟩:=Qf (vs:=vsF E) (S:=b.ends) ⟨u,(hb.en u hu).2,hu⟩;have hfr:Ck ⟨vsF E,E⟩ b=(vsF E).getD (fst' (vsF E) b.ends) 0:=rfl;rw[<- hfr]at f2;have h2e:∃ z∈vsF E,z∈lO ⟨vsF E,E⟩ b:=by
  unfold lO;by_cases k:u=Ck ⟨vsF E,E⟩ b
  .exact⟨v,(hb.en v hv).2,by rw[aAy];exact⟨hv,by simpa using fun e=>huv (by rw[k,e])⟩⟩
  .exact⟨u,(hb.en u hu).2,by rw[aAy];exact⟨hu,by simpa using k⟩⟩
 obtain⟨g1,g2⟩:=Qf h2e;have hto:toW ⟨vsF E,E⟩ b=(vsF E).getD (fst' (vsF E) (lO ⟨vsF E,E⟩ b)) 0:=rfl;rw[<- hto]at g2;unfold lO at g2;rw[aAy,aAR]at g2;have hw:Mm ⟨vsF E,E⟩ b=if nrS (vsF E) b.inner=[]then some [Ck ⟨vsF E,E⟩ b,toW ⟨vsF E,E⟩ b]else vO (vsF E) (cR (tA ⟨vsF E,E⟩ b.inner).es) (inW (vsF E) b.inner) (Ck ⟨vsF E,E⟩ b) (toW ⟨vsF E,E⟩ b) 1000:=by unfold Mm;rw[aAj ⟨f1,g1⟩]
 rw[hw];generalize Ck ⟨vsF E,E⟩ b=fr at *;generalize toW ⟨vsF E,E⟩ b=to at *;have hen1:=hb.en fr f2;have hen2:=hb.en to g2.1;have Zo:fr≠to:=fun e=>g2.2 e.symm;rcases hb.kind with⟨h0,e,he,heL,M4⟩|⟨h0,h1,h2,h3,h4⟩
 .have U7:nrS (vsF E) b.inner=[]:=by rw[h0];unfold nrS;simp
  rw[aAj U7];refine⟨_,rfl,by simpa using Zo,sS,sS,?_,by simpa using f2,by simpa using g2.1,by simp[dD],fun x y G8=>?_,by simp[dD],fun k=>absurd h0 k⟩
  .intro z hz;rcases aAe.1 hz with rfl|hz
   .exact hen1.2
   .rw[aAk.1 hz];exact hen2.2
  .simp only[lnk,aAk,aBd]at G8;obtain⟨rfl,rfl⟩:=G8;have k1:=f2;have k2:=g2.1;rw[M4]at k1 k2;simp at k1 k2;have hp:prE e=prP x y:=by
    show prP e.a e.b=_;rcases k1 with rfl|rfl
    .rcases k2 with rfl|rfl
     .exact absurd rfl Zo
     .rfl
    .rcases k2 with rfl|rfl
     .exact aJ _ _
     .exact absurd rfl Zo
   exact⟨by rw[<- hp];exact heL,e,he,hp⟩
 .obtain⟨p0,hp0⟩:=aAM _ h0;have U7:nrS (vsF E) b.inner≠[]:=aBs (lT.2 ⟨(h1 p0 hp0).1,hp0⟩);rw[aAa U7];have j5:∀ v∈vsF E,inW (vsF E) b.inner v=decide (v∈b.inner):=fun v hv=>by unfold inW Om;rw[aAj hv]
  have hpart:∀ e,e∈(tA ⟨vsF E,E⟩ b.inner).es↔e∈E/\(e.a∈b.inner\/e.b∈b.inner):=fun e=>by
   show e∈E.filter _↔_;rw[aAy];constructor
   .rintro⟨k1,k2⟩;rw[j5 _ ((bA _ _).2 ⟨e,k1,.inl rfl⟩),j5 _ ((bA _ _).2 ⟨e,k1,.inr rfl⟩)]at k2;exact⟨k1,by simpa using k2⟩
   .rintro⟨k1,k2⟩;rw[j5 _ ((bA _ _).2 ⟨e,k1,.inl rfl⟩),j5 _ ((bA _ _).2 ⟨e,k1,.inr rfl⟩)];exact⟨k1,by simpa using k2⟩
  have hnr:∀ x y,(x∈b.inner\/y∈b.inner)->y∈nbr E x->y∈cR (tA ⟨vsF E,E⟩ b.inner).es x:=fun x y G8 hn=>by
   obtain⟨e,he,k⟩:=kK.1 hn;refine kU.2 ⟨e,(hpart e).2 ⟨he,?_⟩,k⟩;rcases bF k with⟨k1,k2⟩|⟨k1,k2⟩
   .rw[k1,k2];exact G8
   .rw[k1,k2];exact G8.symm
  have hback:∀ x y,y∈cR (tA ⟨vsF E,E⟩ b.inner).es x->(∃ e∈E,prE e=prP x y)/\(x∈b.inner\/y∈b.inner):=fun x y hn=>by
   obtain⟨e,he,k⟩:=kU.1 hn;obtain⟨he,hi⟩:=(hpart e).1 he;refine⟨⟨e,he,k⟩,?_⟩;rcases bF k with⟨k1,k2⟩|⟨k1,k2⟩
   .rw[k1,k2]at hi;exact hi
   .rw[k1,k2]at hi;exact hi.symm
  obtain⟨w,w1,w2,w3,w4,w5,w6,w7,w8,w9⟩:=Ly (may:=inW (vsF E) b.inner) (fun x y hy=>by obtain⟨⟨e,he,k⟩,_⟩:=hback x y hy;exact(fT he k).2) hen1.2 hen2.2 Zo (n:=1000) (by have:=hT.few.1;omega) fun S hS=>by
   obtain⟨p,hp,kp⟩:=h4 fr f2;obtain⟨q,hq,kq⟩:=h4 to g2.1;have sp:S p:=hS.2 fr hS.1 (.inl rfl) p (hnr fr p (.inr hp) (nI kp));have sq:q∈b.inner/\S q:=(h2 p hp q hq).closed (L:=fun z=>z∈b.inner/\S z) ⟨hp,sp⟩ fun z hz y hy hyi=>by obtain⟨hzi,hz⟩:=hz;exact⟨hyi,hS.2 z hz (.inr (by rw[j5 z (h1 z hzi).1];simpa using hzi)) y (hnr z y (.inl hzi) hy)⟩
   exact hS.2 q sq.2 (.inr (by rw[j5 q (h1 q hq).1];simpa using hq)) to (hnr q to (.inl hq) kq)
  refine⟨w,w1,w2,w3,by have:=hT.few.1;omega,w5,by rw[w6];exact f2,by rw[w7];exact g2.1,fun z hz=>?_,fun x y G8=>?_,fun z hz=>?_,fun _ e=>?_⟩
  .have k:=w9 z hz;rw[j5 z (w5 z (mV hz))]at k;exact(h1 z (by simpa using k)).2
  .obtain⟨k1,k2⟩:=hback x y (w8 x y G8);refine⟨fun hm=>?_,k1⟩;obtain⟨o1,o2⟩:=hD.link_on ((dK w2).2 x y G8).1 hm;rcases k2 with k2|k2
   .exact(h1 x k2).2 o1
   .exact(h1 y k2).2 o2
  .have k:=w9 z hz;rw[j5 z (w5 z (mV hz))]at k;simpa using k
  .have hm:(w.getD 0 0,w.getD (w.length-1) 0)∈lnk w:=by have ew:=nN w3;rw[e]at ew;generalize w.getD 0 0=A at *;generalize w.getD (w.length-1) 0=B at *;rw[ew];simp[lnk]
   obtain⟨_,k⟩:=hback _ _ (w8 _ _ hm);rw[w6,w7]at k;rcases k with k|k
   .exact(h1 _ k).2 hen1.1
   .exact(h1 _ k).2 hen2.1
end
end Aw
end Go.Proofs.YtbgngpdonpeboaaGreatDoor
