/- Plain: Euler's count for two permutations; rows as cycles; how many classes at least. -/
import Derived.Test.YtempldclppogmaaGreatDoorJc
import Derived.Test.YtempldclppogmaaGreatDoorAwRg
import Derived.Test.YtempldclppogmaaGreatDoorAwSet
import Derived.Lib.TrailingZeros
import Derived.Test.YtempldclppogmaaGreatDoorAwTd
import Derived.Test.YtempldclppogmaaGreatDoorAwZ
import Derived.Test.YtempldclppogmaaGreatDoorAwMr5
import Derived.Test.YtempldclppogmaaGreatDoorAwFn
import Derived.Laws.Bits64b
set_option linter.unusedVariables false
set_option linter.unusedSimpArgs false
set_option linter.unusedSectionVars false
set_option maxHeartbeats 2000000
open Go.Proofs.Tryz
namespace Go.Proofs.YtempldclppogmaaGreatDoor
namespace Aw
open Go Go.RowKit Pl Eu
theorem uB{R S:Int->Int->Prop}:∀ {l:List Int},(∀ x∈l,∀ y∈l,R x y->S x y)->ncl S l<=ncl R l
 |[],_=>aAk _
 |x::l,h=>by
  have ih:=uB (R:=R) (S:=S) (l:=l) fun a ha b hb=>h a (aAj _ ha) b (aAj _ hb);by_cases hx:∃ y∈l,S y x
  .rw[bA hx];refine aBj ih ?_;simp only[ncl];exact aEh _ _
  .rw[aP hx,aP fun⟨y,hy,hr⟩=>hx ⟨y,hy,h y (aAj _ hy) x aAo hr⟩];omega
theorem Ph{R S:Int->Int->Prop}(hR:Eqv R)(hS:Eqv S){l:List Int}(h:∀ x y,R x y->S x y)(hn:ncl R l<=ncl S l){x y:Int}(hx:x∈l)(hy:y∈l)(hs:S x y):R x y:=by refine aAG fun YD=>?_;have h1:=sO hR YD hx hy;have h2:=uB (R:=Eu.Mg R x y) (S:=S) (l:=l) fun a _ b _ k=>Mg.le hS hs h k;omega
theorem lH{α:Type}[DecidableEq α]{R:Int->Int->Prop}(lab:Int->α):∀ {D:List Int},(∀ x∈D,∀ y∈D,R x y->lab x=lab y)->∀ X:List α,X.Nodup->(∀ a∈X,∃ d∈D,lab d=a)->X.length<=ncl R D
 |[],_,X,_,h=>by
  cases X with
  |nil=>exact aBs _
  |cons a X=>obtain⟨d,hd,_⟩:=h a aAo;cases hd
 |d::D,hR,X,hn,h=>by
  have hR':∀ x∈D,∀ y∈D,R x y->lab x=lab y:=fun x hx y hy=>hR x (aAj _ hx) y (aAj _ hy);by_cases hx:∃ y∈D,R y d
  .rw[bA hx];obtain⟨y,hy,hr⟩:=hx;refine lH lab hR' X hn fun a ha=>?_;obtain⟨e,he,rfl⟩:=h a ha;rcases aAf.1 he with rfl|he
   .exact⟨y,hy,hR y (aAj _ hy) _ aAo hr⟩
   .exact⟨e,he,rfl⟩
  .rw[aP hx];have:=lH lab hR' (X.erase (lab d)) (hn.erase _) fun a ha=>by
    obtain⟨h1,h2⟩:=(aEi hn).1 ha;obtain⟨e,he,rfl⟩:=h a h2;rcases aAf.1 he with rfl|he
    .exact absurd rfl h1
    .exact⟨e,he,rfl⟩
   have h2:=List.length_erase_le (a:=lab d) (l:=X);have h3:X.length<=(X.erase (lab d)).length+1:=by rw[List.length_erase];split<;>omega
   omega
structure iM(D:List Int)(f:Int->Int):Prop where
 mem:∀ x∈D,f x∈D
 inj:∀ x y,f x=f y->x=y
 out:∀ x,x∉D->f x=x
theorem iM.per{D:List Int}{f:Int->Int}(h:iM D f):Per f:=Nk D h.mem h.inj h.out
theorem iM.sw{D:List Int}{f:Int->Int}(h:iM D f){a b:Int}(ha:a∈D)(hb:b∈D):iM D fun x=>f (Eu.sw a b x):=by
 refine⟨fun x hx=>h.mem _ ?_,fun x y e=>Te a b (h.inj _ _ e),fun x hx=>?_⟩
 .unfold Eu.sw
  split
  .exact hb
  .split
   .exact ha
   .exact hx
 .rw[tA (fun e=>hx (by rw[e];exact ha)) (fun e=>hx (by rw[e];exact hb))];exact h.out x hx
def swP(s:Int->Int):List (Int×Int)->Int->Int
 |[],x=>s x
 |p::P,x=>swP s P (Eu.sw p.1 p.2 x)
def mgP(R:Int->Int->Prop):List (Int×Int)->Int->Int->Prop
 |[]=>R
 |p::P=>Eu.Mg (mgP R P) p.1 p.2
theorem sN{D:List Int}{s:Int->Int}(hs:iM D s):∀ P:List (Int×Int),(∀ p∈P,p.1∈D/\p.2∈D)->iM D (swP s P)
 |[],_=>hs
 |p::P,h=>(sN hs P fun q hq=>h q (aAj _ hq)).sw (h p aAo).1 (h p aAo).2
theorem rP{R:Int->Int->Prop}(hR:Eqv R):∀ P:List (Int×Int),Eqv (mgP R P)
 |[]=>hR
 |p::P=>Mg.eqv (rP hR P) _ _
theorem OL{R:Int->Int->Prop}:∀(P:List (Int×Int)) {x y:Int},R x y->mgP R P x y
 |[],_,_,h=>h
 |_::P,_,_,h=>.inl (OL P h)
theorem Ij{R:Int->Int->Prop}(hR:Eqv R):∀(P:List (Int×Int)) {p:Int×Int},p∈P->mgP R P p.1 p.2
 |q::P,p,h=>by
  rcases aAf.1 h with rfl|h
  .exact .inr (.inl ⟨(rP hR P).refl _,(rP hR P).refl _⟩)
  .exact .inl (Ij hR P h)
theorem Cl{D:List Int}{s:Int->Int}(hs:iM D s):∀ P:List (Int×Int),(∀ p∈P,p.1∈D/\p.2∈D/\p.1≠p.2)->
 (∀ x y,Orb (swP s P) x y->mgP (Orb s) P x y)/\∃ c,2*ncl (mgP (Orb s) P) D+P.length=2*c+ncl (Orb s) D+ncl (Orb (swP s P)) D
 |[],_=>⟨fun _ _ h=>h,0,by have e:ncl (Orb (swP s [])) D=ncl (Orb s) D:=rfl;have e2:ncl (mgP (Orb s) []) D=ncl (Orb s) D:=rfl;rw[e,e2,List.length_nil];omega⟩
 |p::P,h=>by
  obtain⟨h1,c,h2⟩:=Cl hs P fun q hq=>h q (aAj _ hq);obtain⟨ha,hb,YC⟩:=h p aAo;have hq:=sN hs P fun q hq=>⟨(h q (aAj _ hq)).1,(h q (aAj _ hq)).2.1⟩;have O6:iM D (swP s (p::P)):=hq.sw ha hb;have u5:∀ x,swP s (p::P) x=swP s P (Eu.sw p.1 p.2 x):=fun _=>rfl;have hE:=rP hs.per.eqv P;have hE':Eqv (mgP (Orb s) (p::P)):=rP hs.per.eqv (p::P);refine⟨fun x y YK=>?_,?_⟩
  .exact Mg.le hE' (Ij hs.per.eqv (p::P) aAo) (fun x y k=>.inl (h1 x y k)) (Pf hq.per u5 YK)
  .rw[List.length_cons];by_cases ho:Orb (swP s P) p.1 p.2
   .have e1:=rJ hq.per O6.per u5 YC ha hb ho;have e2:ncl (mgP (Orb s) (p::P)) D=ncl (mgP (Orb s) P) D:=dP fun x _ y _=>Mg.same hE (h1 _ _ ho) x y;exact⟨c,oO⟩
   .have e1:=tU hq.per O6.per u5 ha hb ho;by_cases hr:mgP (Orb s) P p.1 p.2
    .have e2:ncl (mgP (Orb s) (p::P)) D=ncl (mgP (Orb s) P) D:=dP fun x _ y _=>Mg.same hE hr x y;exact⟨c+1,oO⟩
    .have e2:ncl (mgP (Orb s) P) D=ncl (mgP (Orb s) (p::P)) D+1:=sO hE hr ha hb;exact⟨c,oO⟩
theorem Sn{R:Int->Int->Prop}{D:List Int}(h:∀ x∈D,∀ y∈D,R x y)(h0:D≠[]):ncl R D=1:=by have:=Ck (R:=R) (t:=D) (l:=[]) h (fun _ _ _ hy=>by cases hy);rw[aAK,aAa h0]at this;exact this
theorem UT{D:List Int}{f:Int->Int}(hf:iM D f){a b:Int}(ha:a∈D)(hb:b∈D):ncl (Orb f) D<=ncl (Orb fun x=>f (Eu.sw a b x)) D+1:=by
 by_cases YC:a=b
 .subst YC;have:(fun x=>f (Eu.sw a a x))=f:=by funext x;unfold Eu.sw;split<;>simp_all
  rw[this];omega
 have hp:=hf.sw ha hb;by_cases ho:Orb f a b
 .have:=rJ hf.per hp.per (fun _=>rfl) YC ha hb ho;omega
 .have:=tU hf.per hp.per (fun _=>rfl) ha hb ho;omega
def sgR(Rs:List (List Int))(d:Int):Int:=match Rs.find? (fun t=>decide (d∈t)) with
 |some t=>nx t d
 |none=>d
theorem lS{Rs:List (List Int)}{d:Int}(h:d∉Rs.flatten):sgR Rs d=d:=by unfold sgR;rw[aCF.2 fun t ht=>by simpa using fun hd=>h (aAY.2 ⟨t,ht,hd⟩)]
theorem GZ{Rs:List (List Int)}(hn:Rs.flatten.Nodup){t t':List Int}(ht:t∈Rs)(F0:t'∈Rs){d:Int}(hd:d∈t)(Zh:d∈t'):t=t':=by
 induction Rs with
 |nil=>cases ht
 |cons r Rs ih=>
  rw[List.flatten_cons,aAs]at hn;rcases aAf.1 ht with e|ht
  .rcases aAf.1 F0 with e'|F0
   .rw[e,e']
   .exact absurd rfl (hn.2.2 d (by rw[<- e];exact hd) d (aAY.2 ⟨t',F0,Zh⟩))
  .rcases aAf.1 F0 with e'|F0
   .exact absurd rfl (hn.2.2 d (by rw[<- e'];exact Zh) d (aAY.2 ⟨t,ht,hd⟩))
   .exact ih hn.2.1 ht F0
theorem vO{Rs:List (List Int)}(hn:Rs.flatten.Nodup){t:List Int}(ht:t∈Rs):t.Nodup:=(aBC ht).nodup hn
theorem fQ{Rs:List (List Int)}(hn:Rs.flatten.Nodup){t:List Int}(ht:t∈Rs){d:Int}(hd:d∈t):sgR Rs d=nx t d:=by
 unfold sgR;cases hf:Rs.find? (fun t=>decide (d∈t)) with
 |none=>exact absurd hd (by simpa using aCF.1 hf t ht)
 |some t'=>rw[GZ hn (aCr hf) ht (by simpa using aDq hf) hd]
theorem lA{Rs:List (List Int)}(hn:Rs.flatten.Nodup):iM Rs.flatten (sgR Rs):=by
 have Xl:∀ x t,t∈Rs->x∈t->sgR Rs x∈t:=fun x t ht hx=>by rw[fQ hn ht hx];exact IU hx
 refine⟨fun x hx=>?_,fun x y e=>?_,fun x hx=>lS hx⟩
 .obtain⟨t,ht,hx⟩:=aAY.1 hx;exact aAY.2 ⟨t,ht,Xl x t ht hx⟩
 .by_cases hx:x∈Rs.flatten
  .obtain⟨t,ht,hx⟩:=aAY.1 hx;by_cases hy:y∈Rs.flatten
   .obtain⟨t',F0,hy⟩:=aAY.1 hy;have h1:=Xl x t ht hx;rw[e]at h1;have:=GZ hn ht F0 h1 (Xl y t' F0 hy);subst this;rw[fQ hn ht hx,fQ hn ht hy]at e;exact QC (vO hn ht) hx hy e
   .rw[lS hy]at e;exact absurd (aAY.2 ⟨t,ht,by rw[<- e];exact Xl x t ht hx⟩) hy
  .by_cases hy:y∈Rs.flatten
   .obtain⟨t',F0,O4⟩:=aAY.1 hy;rw[lS hx]at e;exact absurd (aAY.2 ⟨t',F0,by rw[e];exact Xl y t' F0 O4⟩) hx
   .rw[lS hx,lS hy]at e;exact e
theorem IK{Rs:List (List Int)}(hn:Rs.flatten.Nodup){t:List Int}(ht:t∈Rs){x:Int}(hx:x∈t):∀ n,it (sgR Rs) n x=it (nx t) n x/\it (sgR Rs) n x∈t
 |0=>⟨rfl,hx⟩
 |n+1=>by obtain⟨h1,h2⟩:=IK hn ht hx n;rw[cJ,cJ,<- h1,fQ hn ht h2];exact⟨rfl,IU h2⟩
theorem Eg{Rs:List (List Int)}(hn:Rs.flatten.Nodup){t:List Int}(ht:t∈Rs){x y:Int}(hx:x∈t):Orb (sgR Rs) x y↔y∈t:=by
 constructor
 .rintro⟨n,rfl⟩;exact(IK hn ht hx n).2
 .intro hy;obtain⟨n,D8⟩:=IP (vO hn ht) hx hy;exact⟨n,by rw[(IK hn ht hx n).1,D8]⟩
theorem Jr{Rs:List (List Int)}(hn:Rs.flatten.Nodup):ncl (Orb (sgR Rs)) Rs.flatten=(Rs.filter fun t=>decide (t≠[])).length:=by
 refine AJ Rs (fun t ht x hx y hy=>(Eg hn ht hx).2 hy) ?_;have key:∀ S2:List (List Int),S2.flatten.Nodup->S2.Pairwise fun t t'=>∀ x∈t,x∉t':=by
  intro S2;induction S2 with
  |nil=>exact fun _=>.nil
  |cons r S2 ih=>intro D8;rw[List.flatten_cons,aAs]at D8;refine aBg.2 ⟨fun t ht x hx Zn=>D8.2.2 x hx x (aAY.2 ⟨t,ht,Zn⟩) rfl,ih D8.2.1⟩
 refine(key Rs hn).imp_of_mem fun {t t'} ht F0 h x hx y hy ho=>?_;exact h x hx ((Eg hn F0 hy).1 ho)
theorem Oo{Rs S2:List (List Int)}(hn:Rs.flatten.Nodup)(hp:Rs.Perm S2)(d:Int):sgR Rs d=sgR S2 d:=by
 have D8:S2.flatten.Nodup:=(hp.flatten.nodup_iff).1 hn;by_cases hd:d∈Rs.flatten
 .obtain⟨t,ht,hd⟩:=aAY.1 hd;rw[fQ hn ht hd,fQ D8 (hp.mem_iff.1 ht) hd]
 .rw[lS hd,lS fun k=>hd (hp.flatten.mem_iff.2 k)]
theorem get_inj{l:List Int}(h:l.Nodup){i j:Nat}(hi:i<l.length)(hj:j<l.length)(e:l[i]=l[j]):i=j:=by
 have:=congrArg l.idxOf e
 rwa [h.idxOf_getElem,h.idxOf_getElem]at this
theorem xH{A B:List Int}(hn:(A++B).Nodup)(hA:A≠[])(hB:B≠[]){x:Int}:(x∈A->nx (A++B) x=if x=A.getLast hA then nx B (B.getLast hB)else nx A x)/\(x∈B->nx (A++B) x=if x=B.getLast hB then nx A (A.getLast hA)else nx B x):=by
 have Yi:=(aAs.1 hn).1;have Zk:=(aAs.1 hn).2.1;have la:=aBb.2 hA;have lb:=aBb.2 hB;have last:∀(L:List Int) (h:L≠[]),L.Nodup->nx L (L.getLast h)=L[0]'(aBb.2 h):=fun L h hL=>by have:=aBb.2 h;rw[aCy,gB hL];simp[show L.length-1+1=L.length by omega]
 constructor
 .intro hx;obtain⟨k,hk,rfl⟩:=aAB hx;have e:A[k]=(A++B)[k]'(by rw[aAh];omega):=(aCt hk).symm;have hlen:(A++B).length=A.length+B.length:=aAh;rw[last B hB Zk];by_cases h:k=A.length-1
  .rw[aAe (by rw[aCy];congr),e,gB hn];have e2:(k+1) % (A++B).length=A.length:=by rw[aAM oO];omega
   simp only[e2];rw[aBA (aAk _)];simp
  .rw[aAa (by rw[aCy];exact fun e3=>h (get_inj Yi _ _ e3)),gB Yi,e,gB hn];have e2:(k+1) % (A++B).length=k+1:=aAM oO;have e3:(k+1) % A.length=k+1:=aAM oO;simp only[e2,e3];exact aCt oO
 .intro hx;obtain⟨k,hk,rfl⟩:=aAB hx;have hlen:(A++B).length=A.length+B.length:=aAh;have e:B[k]=(A++B)[A.length+k]'(by omega):=by rw[aBA (aEh _ _)];simp
  rw[last A hA Yi];by_cases h:k=B.length-1
  .rw[aAe (by rw[aCy];congr),e,gB hn];have e2:(A.length+k+1) % (A++B).length=0:=by rw[show A.length+k+1=(A++B).length by omega,aDN]
   simp only[e2];exact aCt la
  .rw[aAa (by rw[aCy];exact fun e3=>h (get_inj Zk _ _ e3)),gB Zk,e,gB hn];have e2:(A.length+k+1) % (A++B).length=A.length+(k+1):=by rw[aAM oO];omega
   have e3:(k+1) % B.length=k+1:=aAM oO;simp only[e2,e3];rw[aBA (aEh _ _)];simp
theorem RV{A B:List Int}{Rs:List (List Int)}(hn:(A::B::Rs).flatten.Nodup)(hA:A≠[])(hB:B≠[])(d:Int):sgR ((A++B)::Rs) d=sgR (A::B::Rs) (Eu.sw (A.getLast hA) (B.getLast hB) d):=by
 have hf:((A++B)::Rs).flatten=(A::B::Rs).flatten:=sS;have D8:((A++B)::Rs).flatten.Nodup:=by rw[hf];exact hn
 have YC:(A++B).Nodup:=vO D8 aAo;have hdis:=(aAs.1 YC).2.2;have mA:=List.getLast_mem hA;have mB:=List.getLast_mem hB;by_cases hdA:d∈A
 .rw[fQ D8 aAo (aAt _ hdA),(xH YC hA hB).1 hdA];by_cases e:d=A.getLast hA
  .rw[aAe e,e,Bb,fQ hn (t:=B) sS mB]
  .rw[aAa e,tA e (fun k=>hdis d hdA _ mB k),fQ hn (t:=A) sS hdA]
 .by_cases hdB:d∈B
  .rw[fQ D8 aAo (aAI _ hdB),(xH YC hA hB).2 hdB];by_cases e:d=B.getLast hB
   .rw[aAe e,e,FE,fQ hn (t:=A) sS mA]
   .rw[aAa e,tA (fun k=>hdA (by rw[k];exact mA)) e,fQ hn (t:=B) sS hdB]
  .rw[tA (fun k=>hdA (by rw[k];exact mA)) (fun k=>hdB (by rw[k];exact mB))];unfold sgR;rw[aCZ (by simp[hdA,hdB]),aCZ (by simp[hdA]),aCZ (by simp[hdB])]
def itL(f:Int->Int)(d:Int)(k:Nat):List Int:=(List.range k).map fun j=>it f j d
@[simp] theorem WD(f:Int->Int)(d:Int)(k:Nat):(itL f d k).length=k:=by simp[itL]
section
variable {f:Int->Int} (hf:Per f) {ds:List Int} (hd:∀ x∈ds,f x∈ds)
include hf hd
end
noncomputable def gn(m:Mp):Nat:=(2*ncl (Reach m.g.es) m.g.vs+m.g.es.length-(alone m.g+m.g.vs.length+ncl (Orb (fc m m.g.es)) (aO m.g.es))) / 2
theorem cE.gn{m:Mp}(h:cE m):2*ncl (Reach m.g.es) m.g.vs+m.g.es.length=2*gn m+alone m.g+m.g.vs.length+ncl (Orb (fc m m.g.es)) (aO m.g.es):=by
 obtain⟨k,hk⟩:=h.euler;have:Aw.gn m=k:=by unfold Aw.gn;omega
 omega
noncomputable def oG(R:Int->Int->Prop)(x:Int)(L:List Int):Nat:=L.countP fun y=>@decide (R x y) (Classical.propDecidable _)
theorem LR{R:Int->Int->Prop}(hR:Eqv R)(x:Int)(L:List Int):∃ L',L.length=oG R x L+L'.length/\∀ z,¬R z x->oG R z L'=oG R z L:=by
 refine⟨L.filter fun y=>!@decide (R x y) (Classical.propDecidable _),?_,fun z hz=>?_⟩
 .unfold oG;rw[<- aCB,List.length_eq_countP_add_countP (p:=fun y=>@decide (R x y) (Classical.propDecidable _))]
  congr 1
  exact aEe fun y _=>by simp
 .unfold oG;rw[List.countP_filter];refine aEe fun y _=>?_;simp only[aAT,aDe,aAL,aCg];exact⟨fun k=>k.1,fun k=>⟨k,fun k2=>hz (hR.trans k (hR.symm k2))⟩⟩
theorem BS{R:Int->Int->Prop}(hR:Eqv R)(k:Nat):∀(D L:List Int),(∀ x∈D,k<=oG R x L)->k*ncl R D<=L.length
 |[],L,_=>by simp[ncl]
 |x::D,L,h=>by
  by_cases hx:∃ y∈D,R y x
  .rw[bA hx];exact BS hR k D L fun z hz=>h z (aAj _ hz)
  .rw[aP hx,Nat.mul_succ];obtain⟨L',e,h2⟩:=LR hR x L;have h1:=h x aAo;have h3:=BS hR k D L' fun z hz=>by rw[h2 z fun k2=>hx ⟨z,hz,k2⟩];exact h z (aAj _ hz)
   omega
theorem CU(p:Ed->Bool):∀ l:List Ed,(l.filter p).length+(l.filter fun x=>!p x).length=l.length
 |[]=>rfl
 |x::l=>by have:=CU p l;cases hx:p x<;>simp[hx]<;>omega
section
variable {m:Mp} (h:cE m)
include h
theorem cE.euler_step(T:List Ed)(x:Ed)(hT:∀ y∈T,y∈m.g.es)(hx:x∈m.g.es)(YD:∀ y∈T,y.id≠x.id):2*ncl (Reach T) m.g.vs+T.length+ncl (Orb (fc m (T++[x]))) (aO m.g.es)<=2*ncl (Reach (T++[x])) m.g.vs+(T.length+1)+ncl (Orb (fc m T)) (aO m.g.es):=by
 have hp:=h.fc_per T hT;have ZY:=h.fc_per (T++[x]) fun y hy=>by
  rcases aAg.1 hy with k|k
  .exact hT y k
  .rw[aAl]at k;subst k;exact hx
 have u5:∀ d,fc m (T++[x]) d=fc m T (sw (2*x.id) (2*x.id+1) d):=by
  intro d;unfold fc
  congr 1
  by_cases h1:d=2*x.id
  .subst h1;rw[Bb,kP (aV.2 ⟨x,sS,oO⟩),eP]
   .unfold tw;rw[aAe oO]
   .intro hd;obtain⟨y,hy,h2⟩:=aV.1 hd;exact YD y hy oO
  .by_cases h2:d=2*x.id+1
   .subst h2;rw[FE,kP (aV.2 ⟨x,sS,oO⟩),eP]
    .unfold tw;rw[aAa oO];omega
    .intro hd;obtain⟨y,hy,h2⟩:=aV.1 hd;exact YD y hy oO
   .rw[tA h1 h2];by_cases h3:d∈aO T
    .rw[kP h3,kP];obtain⟨y,hy,h4⟩:=aV.1 h3;exact aV.2 ⟨y,by simp[hy],h4⟩
    .rw[eP h3,eP];intro hd;obtain⟨y,hy,h4⟩:=aV.1 hd;rw[aAg,aAl]at hy;rcases hy with hy|rfl
     .exact h3 (aV.2 ⟨y,hy,h4⟩)
     .omega
 have ha:2*x.id∈aO m.g.es:=dS.2 ⟨x,hx,.inl rfl⟩;have hb:2*x.id+1∈aO m.g.es:=dS.2 ⟨x,hx,.inr rfl⟩;have hRn:ncl (Reach (T++[x])) m.g.vs=ncl (Eu.Mg (Reach T) x.a x.b) m.g.vs:=dP fun v _ w _=>Aq _ _ _ _;rw[hRn];by_cases ho:Orb (fc m T) (2*x.id) (2*x.id+1)
 .have h1:=rJ hp ZY u5 oO ha hb ho;have hr:Reach T x.a x.b:=by
   obtain⟨n,hn⟩:=ho;obtain⟨w,h2,h3⟩:=h.orb_reach T hT n (cC.2 ⟨x,hx,.inl ⟨rfl,rfl⟩⟩);rw[hn]at h2
   rwa [dD h.g.ids h2 (cC.2 ⟨x,hx,.inr ⟨rfl,rfl⟩⟩)]at h3
  have h2:ncl (Eu.Mg (Reach T) x.a x.b) m.g.vs=ncl (Reach T) m.g.vs:=dP fun v _ w _=>Mg.same (eI _) hr v w;omega
 .have h1:=tU hp ZY u5 ha hb ho;by_cases hr:Reach T x.a x.b
  .have h2:ncl (Eu.Mg (Reach T) x.a x.b) m.g.vs=ncl (Reach T) m.g.vs:=dP fun v _ w _=>Mg.same (eI _) hr v w;omega
  .have h2:=sO (eI _) hr (h.g.ends x hx).1 (h.g.ends x hx).2;omega
theorem cE.euler_mono:∀(Q T:List Ed),(∀ y∈T++Q,y∈m.g.es)->(T++Q).Pairwise (fun x y=>x.id≠y.id)->2*ncl (Reach T) m.g.vs+T.length+ncl (Orb (fc m (T++Q))) (aO m.g.es)<=2*ncl (Reach (T++Q)) m.g.vs+(T++Q).length+ncl (Orb (fc m T)) (aO m.g.es)
 |[],T,_,_=>by rw[aAK];omega
 |x::Q,T,hs,hd=>by have e:T++x::Q=(T++[x])++Q:=sS;have h1:=h.euler_step T x (fun y hy=>hs y (aAt _ hy)) (hs x sS) fun y hy=>(aBw.1 hd).2.2 y hy x aAo;rw[e]at hs hd ⊢;have h2:=cE.euler_mono Q (T++[x]) hs hd;have h3:(T++[x]).length=T.length+1:=sS;omega
theorem cE.euler_part(hg:Aw.gn m=0)(p:Ed->Bool):2*ncl (Reach (m.g.es.filter p)) m.g.vs+(m.g.es.filter p).length<=alone m.g+m.g.vs.length+ncl (Orb (fc m (m.g.es.filter p))) (aO m.g.es):=by
 have Yp:∀ y,y∈m.g.es.filter p++m.g.es.filter (fun x=>!p x)↔y∈m.g.es:=fun y=>by rw[aAg,aAr,aAr];cases p y<;>simp
 have j9:=h.g.ids
 have h1:=h.euler_mono (m.g.es.filter fun x=>!p x) (m.g.es.filter p) (fun y hy=>(Yp y).1 hy) (by
  refine aBw.2 ⟨(j9.filter _).imp fun k=>by omega,(j9.filter _).imp fun k=>by omega,fun x hx y hy e=>?_⟩;rw[aAr]at hx hy;have exy:=id_eq j9 hx.1 hy.1 e;subst exy
  simp[hx.2]at hy)
 have h2:=h.gn;rw[hg]at h2;have e1:fc m (m.g.es.filter p++m.g.es.filter fun x=>!p x)=fc m m.g.es:=by
  funext d
  unfold fc
  congr 1
  have hd:d∈aO (m.g.es.filter p++m.g.es.filter fun x=>!p x)↔d∈aO m.g.es:=by rw[aV,aV];exact⟨fun⟨x,hx,k⟩=>⟨x,(Yp x).1 hx,k⟩,fun⟨x,hx,k⟩=>⟨x,(Yp x).2 hx,k⟩⟩
  by_cases k:d∈aO m.g.es
  .rw[kP k,kP (hd.2 k)]
  .rw[eP k,eP fun k2=>k (hd.1 k2)]
 have e2:ncl (Reach (m.g.es.filter p++m.g.es.filter fun x=>!p x)) m.g.vs=ncl (Reach m.g.es) m.g.vs:=dP fun v _ w _=>⟨Reach.mono fun x hx=>(Yp x).1 hx,Reach.mono fun x hx=>(Yp x).2 hx⟩;have e3:(m.g.es.filter p++m.g.es.filter fun x=>!p x).length=m.g.es.length:=by rw[aAh];exact CU p m.g.es
 rw[e1,e2,e3]at h1;omega
end
theorem Io{R:Int->Int->Prop}{x:Int}{L:List Int}{a b c:Int}(ha:a∈L)(hb:b∈L)(hc:c∈L)(ka:R x a)(kb:R x b)(kc:R x c)(h1:a≠b)(h2:a≠c)(h3:b≠c):3<=oG R x L:=by
 unfold oG;rw[aCB];have hn:[a,b,c].Nodup:=by simp[h1,h2,h3]
 have:=hn.length_le_of_subset (l₂:=L.filter fun y=>@decide (R x y) (Classical.propDecidable _)) fun y hy=>by
  rw[aAr];simp only[aAf,aBJ,aDa]at hy;rcases hy with rfl|rfl|rfl
  .exact⟨ha,by simpa using ka⟩
  .exact⟨hb,by simpa using kb⟩
  .exact⟨hc,by simpa using kc⟩
 simpa using this
theorem SH{R:Int->Int->Prop}(hR:Eqv R){x y:Int}(h:R x y)(L:List Int):oG R x L=oG R y L:=by unfold oG;refine aEe fun z _=>?_;simp only[aAL];exact⟨fun k=>hR.trans (hR.symm h) k,fun k=>hR.trans h k⟩
section
variable {m:Mp} (h:cE m)
include h
theorem cE.it_v{v d:Int}(hd:d∈ends m.g.es v):∀ n,it (sg m) n d∈ends m.g.es v
 |0=>hd
 |n+1=>by rw[cJ];exact h.sg_at_v (cE.it_v hd n)
theorem cE.sg_orb{v d e:Int}(hd:d∈ends m.g.es v)(he:e∈ends m.g.es v):∃ n,it (sg m) n d=e:=by
 obtain⟨t,ht,O9⟩:=h.turn_of (kG hd);have het:e∈t:=by obtain⟨k,_,_,h1,_⟩:=h.turn ht;have:=dD h.g.ids (h1.mem_iff.1 O9) hd;rw[this]at h1;exact h1.mem_iff.2 he
 have hit:∀ n,it (sg m) n d=it (nx t) n d/\it (sg m) n d∈t:=fun n=>by
  induction n with
  |zero=>exact⟨rfl,O9⟩
  |succ n ih=>rw[cJ,cJ,<- ih.1];exact⟨DW h ht ih.2,h.sg_mem ht ih.2⟩
 obtain⟨n,hn⟩:=IP (h.nodup ht) O9 het;exact⟨n,by rw[(hit n).1,hn]⟩
theorem cE.run{T:List Ed}{w y z:Int}(hy:y∈ends m.g.es w)(hz:z∈ends m.g.es w)(hzT:z∈aO T):∃ k,it (fc m T) k y=it (sg m) k y/\it (sg m) k y∈aO T/\∀ j,j<k->it (sg m) j y∉aO T:=by
 obtain⟨n,hn⟩:=h.sg_orb hy hz;obtain⟨k,hk,ZP⟩:=least (P:=fun n=>it (sg m) n y∈aO T) (n:=n) (by rw[hn];exact hzT);refine⟨k,?_,hk,ZP⟩;have:∀ j,j<=k->it (fc m T) j y=it (sg m) j y:=fun j=>by
  induction j with
  |zero=>intro _;rfl
  |succ j ih=>intro hj;rw[cJ,cJ,ih oO];unfold fc;rw[eP (ZP j oO)]
 exact this k (aAk _)
theorem cE.run2{T:List Ed}{w d0 z1:Int}(hd:d0∈aO T)(hw:tw d0∈ends m.g.es w)(hz:z1∈ends m.g.es w)(hzT:z1∈aO T)(Wu:z1≠tw d0):∃ d1,Orb (fc m T) d0 d1/\d1∈aO T/\d1∈ends m.g.es w/\d1≠tw d0:=by
 have hy:=h.sg_at_v hw;have hf:fc m T d0=sg m (tw d0):=by unfold fc;rw[kP hd]
 obtain⟨k,h1,h2,h3⟩:=h.run hy hz hzT;refine⟨it (sg m) k (sg m (tw d0)),⟨k+1,?_⟩,h2,h.it_v hy k,fun e=>?_⟩
 .rw[mN,<- h1,<- hf];rfl
 .have e1:it (sg m) (k+1) (tw d0)=tw d0:=by rw[mN];exact e
  obtain⟨n,hn⟩:=h.sg_orb hw hz;rw[Hz oO e1 n]at hn;have GD:=aCD n (show 0<k+1 by omega);generalize n % (k+1)=r at *;cases r with
  |zero=>exact Wu hn.symm
  |succ r=>rw[mN]at hn;refine h3 r oO ?_;show it (sg m) r (it (sg m) 1 (tw d0))∈aO T;rw[hn];exact hzT
theorem cE.dart_two{T:List Ed}(hT:∀ y∈T,y∈m.g.es){d:Int}(hd:d∈aO T):∃ x∈T,∃ v w,d / 2=x.id/\d∈ends m.g.es v/\tw d∈ends m.g.es w/\v≠w/\((v=x.a/\w=x.b)\/(v=x.b/\w=x.a)):=by
 obtain⟨x,hx,k⟩:=dS.1 hd;have Wu:=h.g.ne x (hT x hx);rcases k with k|k
 .have e:tw d=2*x.id+1:=by unfold tw;rw[aAe oO];omega
  exact⟨x,hx,x.a,x.b,oO,cC.2 ⟨x,hT x hx,.inl ⟨rfl,k⟩⟩,cC.2 ⟨x,hT x hx,.inr ⟨rfl,e⟩⟩,Wu,.inl ⟨rfl,rfl⟩⟩
 .have e:tw d=2*x.id:=by unfold tw;rw[aAa oO];omega
  exact⟨x,hx,x.b,x.a,oO,cC.2 ⟨x,hT x hx,.inr ⟨rfl,k⟩⟩,cC.2 ⟨x,hT x hx,.inl ⟨rfl,e⟩⟩,fun e=>Wu e.symm,.inr ⟨rfl,rfl⟩⟩
theorem cE.face3{T:List Ed}(hT:∀ y∈T,y∈m.g.es)(hsim:∀ x∈T,∀ y∈T,(x.a=y.a/\x.b=y.b)\/(x.a=y.b/\x.b=y.a)->x=y)
 (S8:∀ w z,z∈aO T->z∈ends m.g.es w->∃ z1,z1∈aO T/\z1∈ends m.g.es w/\z1≠z) {d0:Int} (hd:d0∈aO T):3<=oG (Orb (fc m T)) d0 (aO T):=by
 have htw:∀ {d},d∈aO T->tw d∈aO T:=fun k=>KI.2 k;have YH:∀ {d x v w},d∈aO T->x∈T->d / 2=x.id->d∈ends m.g.es v->tw d∈ends m.g.es w->v≠w->∃ d1,Orb (fc m T) d d1/\d1∈aO T/\d1∈ends m.g.es w/\¬d1 / 2=d / 2:=by
  intro d x v w k1 k2 k3 k4 k5 k6;obtain⟨z,h1,h2,h3⟩:=S8 w (tw d) (htw k1) k5;obtain⟨d1,o,m1,m2,m3⟩:=h.run2 k1 k5 h2 h1 h3;refine⟨d1,o,m1,m2,fun e=>?_⟩;have:d1=d\/d1=tw d:=by unfold tw;split<;>omega
  rcases this with rfl|rfl
  .exact k6 (dD h.g.ids k4 m2)
  .exact m3 rfl
 obtain⟨x0,ZF,v0,w0,a1,a2,a3,a4,a5⟩:=h.dart_two hT hd;obtain⟨d1,o1,b1,b2,b3⟩:=YH hd ZF a1 a2 a3 a4;obtain⟨x1,hx1,v1,w1,c1,c2,c3,c4,c5⟩:=h.dart_two hT b1;obtain rfl:=dD h.g.ids b2 c2;obtain⟨d2,o2,e1,e2,e3⟩:=YH b1 hx1 c1 c2 c3 c4;refine Io hd b1 e1 (Orb.refl _ _) o1 (o1.trans o2) (fun e=>b3 (by rw[e])) (fun e=>?_) (fun e=>e3 (by rw[e]));subst e;obtain rfl:=dD h.g.ids a2 e2
 have:=hsim x0 ZF x1 hx1 (by
  rcases a5 with⟨rfl,rfl⟩|⟨rfl,rfl⟩<;>rcases c5 with⟨p,q⟩|⟨p,q⟩
  .exact .inr ⟨q,p⟩
  .exact .inl ⟨q,p⟩
  .exact .inl ⟨p,q⟩
  .exact .inr ⟨p,q⟩)
 subst this;exact b3 oO
end
end Aw
namespace Aw
open Go Go.RowKit Pl
def AM:List Bool->Nat
 |[]=>0
 |b::l=>(if b then 1 else 0)+2*AM l
theorem Fl:∀(l:List Bool) (i:Nat),(AM l).testBit i=l.getD i false
 |[],i=>by simp[AM]
 |b::l,0=>by rw[AM,aDm];cases b<;>simp<;>omega
 |b::l,i+1=>by
  rw[AM,aCk];have:((if b then 1 else 0)+2*AM l) / 2=AM l:=by cases b<;>simp<;>omega
  rw[this,Fl l i];simp
theorem KO:∀ l:List Bool,AM l<2 ^ l.length
 |[]=>by simp[AM]
 |b::l=>by have:=KO l;rw[AM,List.length_cons,Nat.pow_succ];cases b<;>simp<;>omega
def mk(vs S:List Int):Nat:=AM (vs.map fun v=>decide (v∈S))
theorem eR(vs S:List Int)(i:Nat):(mk vs S).testBit i=(decide (i<vs.length)&&decide (vs.getD i 0∈S)):=by
 unfold mk;rw[Fl,aAc,aBN];by_cases h:i<vs.length
 .rw[aAd h,aAc,aAd h];simp[h]
 .rw[aBz oO];simp[h]
theorem nA(vs S:List Int)(h:vs.length<=64):mk vs S<18446744073709551616:=by
 have h1:=KO (vs.map fun v=>decide (v∈S));rw[aAz]at h1
 exact aAp h1 (by
  have:=aEJ (show 0<2 by decide) h
  exact this)
theorem mk_congr{vs A B:List Int}(h:∀ v∈vs,(v∈A↔v∈B)):mk vs A=mk vs B:=by
 unfold mk
 congr 1
 exact aAU fun v hv=>by simp[h v hv]
theorem UA{vs A B:List Int}(h:mk vs A=mk vs B):∀ v∈vs,(v∈A↔v∈B):=fun v hv=>by obtain⟨i,hi,rfl⟩:=aAB hv;have h1:=eR vs A i;rw[h,eR vs B i]at h1;simpa[hi]using h1.symm
theorem mk_zero(vs A:List Int):mk vs A=0↔∀ v∈vs,v∉A:=by
 have e:mk vs []=0:=by apply aBW;intro i;rw[eR];simp
 constructor
 .intro h v hv hA;have:=(UA (h.trans e.symm) v hv).1 hA;simp at this
 .intro h;rw[<- e];exact mk_congr fun v hv=>by simp[h v hv]
theorem SL(a b:Nat)(ha:a<18446744073709551616)(hb:b<18446744073709551616):gor .u64 (a:Int) (b:Int)=((a ||| b:Nat):Int):=by
 have hx:a ||| b<2 ^ 64:=Nat.or_lt_two_pow oO oO
 unfold gor;simp only[show IntKind.u64.bits=64 from rfl,BitVec.ofInt_natCast,BitVec.toNat_or,aCV,aAM ha,aAM hb];rw[IntKind.wrap_u64];omega
theorem BO(a b:Nat)(ha:a<18446744073709551616)(hb:b<18446744073709551616):xE .u64 (a:Int) (b:Int)=((a &&& b:Nat):Int):=by have hx:a &&& b<2 ^ 64:=Nat.and_lt_two_pow _ oO;unfold xE;simp only[show IntKind.u64.bits=64 from rfl,BitVec.ofInt_natCast,BitVec.toNat_and,aCV,aAM ha,aAM hb];rw[IntKind.wrap_u64];omega
theorem HL(a b:Nat)(ha:a<18446744073709551616)(hb:b<18446744073709551616):gD .u64 (a:Int) (b:Int)=((a &&& (2 ^ 64-(b+1)):Nat):Int):=by have hx:a &&& (2 ^ 64-(b+1))<2 ^ 64:=Nat.and_lt_two_pow _ oO;unfold gD;simp only[show IntKind.u64.bits=64 from rfl,BitVec.ofInt_natCast,BitVec.toNat_and,BitVec.toNat_not,aCV,aAM ha,aAM hb];rw[show 2 ^ 64-1-b=2 ^ 64-(b+1) by omega,IntKind.wrap_u64];omega
theorem Bz(vs A B:List Int)(h:vs.length<=64):gor .u64 (mk vs A) (mk vs B)=mk vs (A++B):=by
 rw[SL _ _ (nA vs A h) (nA vs B h)]
 congr 1
 apply aBW;intro i;rw[Nat.testBit_or,eR,eR,eR];simp only[aAg,Bool.decide_or];cases decide (i<vs.length)<;>simp
theorem NY(vs A B:List Int)(h:vs.length<=64):xE .u64 (mk vs A) (mk vs B)=mk vs (A.filter fun v=>decide (v∈B)):=by
 rw[BO _ _ (nA vs A h) (nA vs B h)]
 congr 1
 apply aBW;intro i;rw[aEo,eR,eR,eR];simp only[aAr,aAL,Bool.decide_and];cases decide (i<vs.length)<;>simp
theorem rH(vs A B:List Int)(h:vs.length<=64):gD .u64 (mk vs A) (mk vs B)=mk vs (A.filter fun v=>!decide (v∈B)):=by
 rw[HL _ _ (nA vs A h) (nA vs B h)]
 congr 1
 apply aBW;intro i;rw[aEo,Nat.testBit_two_pow_sub_succ (nA vs B h),eR,eR,eR];by_cases hi:i<vs.length
 .have:i<64:=oO;simp only[hi,this,aEu,aDE];by_cases h1:vs.getD i 0∈A<;>by_cases h2:vs.getD i 0∈B<;>simp[aAr,h1,h2]
 .simp[hi]
def fst'(vs S:List Int):Nat:=vs.findIdx fun v=>decide (v∈S)
theorem Ly{x k:Nat}(h1:x.testBit k=true)(h2:∀ j,j<k->x.testBit j=false):∃ m,x=2 ^ k*(2*m+1):=by
 induction k generalizing x with
 |zero=>rw[aDm]at h1;simp only[aCa]at h1;exact⟨x / 2,by simp;omega⟩
 |succ k ih=>
  have h0:=h2 0 oO;rw[aDm]at h0;simp only[aCg]at h0;rw[aCk]at h1;obtain⟨m,hm⟩:=ih h1 fun j hj=>by rw[<- aCk];exact h2 (j+1) oO
  refine⟨m,?_⟩;have e:x=2*(x / 2):=oO;rw[Nat.pow_succ,aCU,aBI 2,<- aCU,<- hm];omega
theorem BT{vs S:List Int}(h:fst' vs S<vs.length):∃ m,mk vs S=2 ^ fst' vs S*(2*m+1):=by
 have hp:decide (vs[fst' vs S]∈S)=true:=aDO (w:=h);refine Ly ?_ fun j hj=>?_
 .rw[eR,aAc,aAd h];simpa[h]using hp
 .rw[eR];have Y9:j<vs.length:=oO;have:=aEs hj;rw[aAc,aAd Y9];simpa[Y9]using this
theorem GM{a b m n:Nat}(h:2 ^ a*(2*m+1)=2 ^ b*(2*n+1)):a=b:=by
 induction a generalizing b with
 |zero=>
  cases b with
  |zero=>rfl
  |succ b=>
   rw[Nat.pow_succ]at h;simp at h;have:2 ^ b*2*(2*n+1)=2*(2 ^ b*(2*n+1)):=by rw[aBI (2 ^ b) 2,aCU]
   omega
 |succ a ih=>
  cases b with
  |zero=>
   rw[Nat.pow_succ]at h;simp at h;have:2 ^ a*2*(2*m+1)=2*(2 ^ a*(2*m+1)):=by rw[aBI (2 ^ a) 2,aCU]
   omega
  |succ b=>rw[Nat.pow_succ,Nat.pow_succ,aBI (2 ^ a) 2,aBI (2 ^ b) 2,aCU,aCU]at h;rw[ih (Nat.eq_of_mul_eq_mul_left (by decide) h)]
theorem ET{vs S:List Int}(h64:vs.length<=64)(h:fst' vs S<vs.length):Lib.ctz 64 (mk vs S)=fst' vs S:=by
 obtain⟨m,hm⟩:=BT h;have GD:=nA vs S h64;have h0:mk vs S≠0:=by rw[hm];exact aDP (by exact aES.1 (aEp _)) oO
 have e:Lib.ctz 64 (mk vs S)=Lib.ctzFrom 64 (mk vs S):=by simp[Lib.ctz,h0]
 obtain⟨n,hn,_⟩:=Lib.ctzFrom_spec 64 (mk vs S) oO GD;rw[e];exact GM (hn.symm.trans hm)
theorem Ex{vs S:List Int}(h:fst' vs S<vs.length):mk vs S≠0:=by obtain⟨m,hm⟩:=BT h;rw[hm];exact aDP (aES.1 (aEp _)) oO
theorem UG{vs S:List Int}:fst' vs S<vs.length↔∃ v∈vs,v∈S:=by unfold fst';rw[List.findIdx_lt_length];simp
theorem Qx{vs S:List Int}(h:fst' vs S<vs.length):vs.getD (fst' vs S) 0∈S/\vs.getD (fst' vs S) 0∈vs:=by
 have hp:decide (vs[fst' vs S]∈S)=true:=aDO (w:=h);have e:vs.getD (fst' vs S) 0=vs[fst' vs S]:=by rw[aAc,aAd h];rfl
 rw[e];exact⟨by simpa using hp,aAA _⟩
theorem FB{vs:List Int}(hn:vs.Nodup){i j:Nat}(hi:i<vs.length)(hj:j<vs.length):vs[i]=vs[j]↔i=j:=by
 constructor
 .intro e;refine aAG fun Wu=>?_;rcases Nat.lt_or_gt_of_ne Wu with h|h
  .exact aAJ.1 hn i j hi hj h e
  .exact aAJ.1 hn j i hj hi h e.symm
 .intro e;subst e;rfl
theorem mk_one{vs:List Int}(hn:vs.Nodup){k:Nat}(hk:k<vs.length):mk vs [vs.getD k 0]=2 ^ k:=by
 apply aBW;intro i;rw[eR,Nat.testBit_two_pow];by_cases hi:i<vs.length
 .rw[aAc,aAc,aAd hi,aAd hk];simp only[hi,aEu,aDE,Option.getD_some,aAl,FB hn hi hk];by_cases e:i=k
  .simp[e]
  .have e2:¬k=i:=fun h=>e h.symm;simp[e,e2]
 .simp only[hi,decide_false,Bool.false_and];have:¬k=i:=oO;simp[this]
theorem UY{vs S:List Int}(h64:vs.length<=64)(hn:vs.Nodup)(h:fst' vs S<vs.length):xE .u64 (mk vs S) (IntKind.u64.wrap (0-(mk vs S:Int)))=mk vs [vs.getD (fst' vs S) 0]:=by
 have GD:=nA vs S h64;have h0:=Ex h;have e1:IntKind.u64.wrap (0-(mk vs S:Int))=((18446744073709551616-mk vs S:Nat):Int):=by rw[IntKind.wrap_u64];omega
 rw[e1,BO _ _ GD oO,mk_one hn h];have:=(Lib.lowest_bit 64 (mk vs S) h0 GD).1;rw[ET h64 h]at this;rw[<- this]
theorem Gg(k m:Nat):(2 ^ k*(2*m+1)) &&& (2 ^ k*(2*m+1)-1)=2 ^ k*(2*m):=by
 have hp:=aEp k;have e:2 ^ k*(2*m+1)-1=2 ^ k*(2*m)+(2 ^ k-1):=by rw[Nat.mul_add,aCE];omega
 rw[e];apply aBW;intro i;rw[aEo,Nat.testBit_two_pow_mul_add _ (show 2 ^ k-1<2 ^ k by omega)];rw[aBI (2 ^ k),aBI (2 ^ k),aCS,aCS];by_cases S0:i<k
 .have h1:¬k<=i:=oO;simp[S0,h1]
 .have h1:k<=i:=oO;simp only[S0,h1,aEu,aDE,aBD];cases hj:i-k with
  |zero=>simp[aDm]
  |succ j=>rw[aCk,aCk];have d1:(2*m+1) / 2=m:=oO;have d2:2*m / 2=m:=oO;rw[d1,d2];simp
theorem Jk{vs S:List Int}(h64:vs.length<=64)(hn:vs.Nodup)(h:fst' vs S<vs.length):xE .u64 (mk vs S) (IntKind.u64.wrap ((mk vs S:Int)-1))=mk vs (S.filter fun w=>decide (w≠vs.getD (fst' vs S) 0)):=by
 have GD:=nA vs S h64;have h0:=Ex h;have e1:IntKind.u64.wrap ((mk vs S:Int)-1)=((mk vs S-1:Nat):Int):=by rw[IntKind.wrap_u64];omega
 rw[e1,BO _ _ GD oO]
 congr 1
 obtain⟨m,hm⟩:=BT h;have h2:mk vs S &&& (mk vs S-1)=mk vs S-2 ^ fst' vs S:=by rw[hm,Gg,Nat.mul_add (2 ^ _) (2*m) 1,aCE];omega
 apply aBW;intro i;have hb:mk vs S &&& (mk vs S-1)=2 ^ fst' vs S*(2*m):=by rw[hm,Gg]
 have hS:(mk vs S).testBit i=(2 ^ fst' vs S*(2*m+1)).testBit i:=by rw[<- hm]
 rw[hb,eR];rw[eR,aBI (2 ^ _),aCS]at hS;rw[aBI (2 ^ _),aCS];by_cases e:i=fst' vs S
 .rw[e];simp only[aAk,aEu,aEW,aDm,aAr,aAL,aDE,ne_eq,aEd,and_false,decide_false,Bool.and_false];have:2*m % 2=0:=oO;simp[this]
 .have hv:i<vs.length->vs.getD i 0≠vs.getD (fst' vs S) 0:=fun hi=>by rw[aAc,aAc,aAd hi,aAd h];simpa[FB hn hi h]using e
  have h3:(2*m).testBit (i-fst' vs S)=(2*m+1).testBit (i-fst' vs S)\/i<fst' vs S:=by
   by_cases hi:i<fst' vs S
   .exact .inr hi
   .left;obtain⟨j,hj⟩:∃ j,i-fst' vs S=j+1:=⟨i-fst' vs S-1,oO⟩;rw[hj,aCk,aCk]
    congr 1;omega
  have h4:(decide (fst' vs S<=i)&&(2*m).testBit (i-fst' vs S))=(decide (fst' vs S<=i)&&(2*m+1).testBit (i-fst' vs S)):=by
   rcases h3 with h3|h3
   .rw[h3]
   .have:¬fst' vs S<=i:=oO;simp[this]
  rw[h4,<- hS];by_cases hi:i<vs.length
  .have hvi:=hv hi;clear hv hS h4 h3;generalize vs.getD i 0=x at *;generalize vs.getD (fst' vs S) 0=y at *;simp[hi,aAr,hvi]
  .simp[hi]
theorem Ks{vs:List Int}(hn:vs.Nodup)(h64:vs.length<=64){k:Nat}(hk:k<vs.length):EO .u64 1 (k:Int)=mk vs [vs.getD k 0]:=by
 rw[mk_one hn hk];unfold EO;have:min (k:Int).toNat IntKind.u64.bits=k:=by have:IntKind.u64.bits=64:=rfl;omega
 rw[this,Int.one_mul,IntKind.wrap_u64];have h2:2 ^ k<18446744073709551616:=aAp (Nat.pow_lt_pow_right (show 1<2 by decide) (show k<64 by omega)) (aAk _);have h3:((2:Int) ^ k)=((2 ^ k:Nat):Int):=sS;rw[h3];generalize (2:Nat) ^ k=x at h2;omega
abbrev wv(n:Nat):LV:=.atom (.int .u64 n)
theorem zU(n:Nat):∀ l:List Int,fP n (us l):=fun l=>by
 induction l with
 |nil=>trivial
 |cons a l ih=>exact⟨trivial,ih⟩
def wY(vs:List Int):List (List Int×LV):=(List.range vs.length).map fun k=>([vs.getD k 0],i k)
theorem AW{vs:List Int}(hn:vs.Nodup){k:Nat}(hk:k<vs.length):bQ (wY vs) [vs.getD k 0]=some (i k):=by
 have key:∀(L:List Nat),(∀ j∈L,j<vs.length)->k∈L->bQ (L.map fun k=>(([vs.getD k 0],i k):List Int×LV)) [vs.getD k 0]=some (i k):=by
  intro L;induction L with
  |nil=>intro _ h;cases h
  |cons j L ih=>
   intro hL hkL;simp only[aAi,bQ];by_cases e:j=k
   .subst e;simp
   .have hj:=hL j sS;have Wu:¬vs.getD k 0=vs.getD j 0:=by rw[aAc,aAc,aAd hk,aAd hj];simpa[FB hn hk hj]using fun h=>e h.symm
    rw[aAa (by simpa using Wu)];exact ih (fun j hj=>hL j (aAj _ hj)) ((aAf.1 hkL).resolve_left fun h=>e h.symm)
 exact key _ (fun j hj=>aBa.1 hj) (aBa.2 hk)
def ShB(vs:List Int)(S pl:Nat)(st:St):Prop:=(∃ a b c d e f,st.H S=.box 119 7 [a,b,c,.mp pl,d,e,f])/\st.H pl=.map false [.u32] (wY vs)
theorem Bp{vs:List Int}{v:Int}(hv:v∈vs):vs.idxOf v<vs.length/\vs.getD (vs.idxOf v) 0=v:=by have h:=aBl hv;exact⟨h,by rw[bG _ _ h,aCn]⟩
theorem Sb{vs:List Int}{S pl:Nat}{st:St}(hS:ShB vs S pl st)(hn:vs.Nodup)(h64:vs.length<=64){v:Int}(hv:v∈vs):
 aB prog 110 [.pt S 0,u v] st fun r st'=>r=wv (mk vs [v])/\st'=st:=by
 obtain⟨⟨a,b,c,d,e,f,Yg⟩,hP⟩:=hS;obtain⟨hk,hg⟩:=Bp hv;have h1:=AW hn hk;have h2:=Ks hn h64 hk;rw[hg]at h1 h2;refine zN func110 ntmps110 [.tmp 4] ?_
 (repeat' (first|apply qS|(refine qR (zZ ?_);simp[Yg,hP,h1,h2])|(refine zE ?_;intro J hJ;simp[Yg,hP,h1,h2];refine zJ hJ ?_)))
theorem Sk(vs l:List Int)(j:Nat)(hj:j<l.length)(h:vs.length<=64):gor .u64 (mk vs (l.take j)) (mk vs [l.getD j 0])=mk vs (l.take (j+1)):=by rw[Bz vs _ _ h,aAn hj,aAc,aAd hj];rfl
theorem UF{vs:List Int}{S pl:Nat}{st:St}(hS:ShB vs S pl st)(hn:vs.Nodup)(h64:vs.length<=64)(l:List Int)(t:Nat)(hl:∀ v∈l,v∈vs)(S7:l.length<=1048576):
 aB prog 164 [.pt S 0,.sl t l.length (us l)] st fun r st'=>r=wv (mk vs l)/\st'=st:=by
 refine zN func164 ntmps164 [.tmp 4] ?_
 (repeat' (first|apply qS|apply qB|(refine zE ?_;intro J hJ;simp[];(refine zJ hJ ?_;clear hJ J))))
 have h0:mk vs []=0:=(mk_zero vs []).2 fun _ _=>by simp
 refine aZ 10 9 11 19 (l.length) (fun j fr st2=>fr 0=.pt S 0/\fr 8=.sl t l.length (us l)/\fr 5=wv (mk vs (l.take j))/\st2=st) ?_ ?_ ?_
 .exact⟨sS,sS,by simp[h0],rfl⟩
 .rintro j fr s GD ⟨f0,f8,f5,hs⟩ fi fn J hJ;subst hs;have hd:=qG l j GD;have hm:=Sk vs l j GD h64;have hv:l.getD j 0∈vs:=hl _ (by rw[bG _ _ GD];exact aAA _);generalize l.getD j 0=v at *
  (repeat' (first|apply qS|(refine zE ?_;intro J hJ;simp[f0,f8,f5,fi,fn,hd,GD];(try (refine zJ hJ ?_;clear hJ J)))))
  refine qE (Sb hS hn h64 hv) sS ?_;rintro r s1 ⟨rfl,h1⟩;rw[h1];clear h1 s1
  (repeat' (apply aF;simp[fi,hm];(refine zJ hJ ?_;clear hJ J)))
  exact hJ _ _ (by simp[fi]) (by simp[fn]) ⟨by simp[f0],by simp[f8],sS,rfl⟩
 .rintro fr s ⟨f0,f8,f5,hs⟩;subst hs;rw[aAQ]at f5
  (repeat' (first|apply qS|(refine qR (zZ ?_);simp[f5])|(refine zE ?_;intro J hJ;simp[f5];(refine zJ hJ ?_;clear hJ J))))
theorem NP{vs:List Int}{S pl:Nat}{st:St}(hS:ShB vs S pl st)(hSn:S<st.next)(Y6:pl<st.next)(hn:vs.Nodup)(h64:vs.length<=64)(l:List Int)(t:Nat)(hl:∀ v∈l,v∈vs)(S7:l.length<=1048576):
 aB prog 115 [.pt S 0,.sl t l.length (us l)] st fun r st'=>r=.ag [.sl 0 l.length (us l),wv (mk vs l)]/\st'=st:=by
 refine qT (Q:=fun r=>r=.ag [.sl 0 l.length (us l),wv (mk vs l)]) (eV ?_) fun r h=>by subst h;exact⟨⟨.inl rfl,zU _ _⟩,trivial,trivial⟩
 refine zN func115 ntmps115 [.cell 4 127] ?_
 (repeat' (first|apply qS|(refine zE ?_;intro J hJ;simp[];(try refine zJ hJ ?_))))
 refine qE (UF (vs:=vs) (S:=S) (pl:=pl) ?_ hn h64 l t hl S7) sS ?_
 .obtain⟨⟨a,b,c,d,e,f,Yg⟩,hP⟩:=hS;exact⟨⟨a,b,c,d,e,f,by rw[bX,aAa oO];exact Yg⟩,by rw[bX,aAa oO];exact hP⟩
 rintro r s1 ⟨rfl,h1⟩;rw[h1];clear h1 s1
 (repeat' (first|(refine qR (zZ ?_);simp[])|(apply aF;simp[];refine zJ hJ ?_)))
 exact⟨by simp[z0,z0L],aA.new _ _⟩
theorem Iw{st:St}{m:Nat}{o:cI}(h:st.H m=o):st.set m o=st:=by
 obtain⟨n,H⟩:=st;simp only[St.set,St.mk.injEq,true_and]
 funext y
 by_cases e:y=m
 .subst e;rw[aAe rfl];exact h.symm
 .rw[aAa e]
def prP(a b:Int):Int×Int:=(min a b,max a b)
abbrev pk(p:Int×Int):List Int:=[p.1,p.2]
def IX(L:List (Int×Int))(p:Int×Int):List (Int×Int):=if p∈L then L else L++[p]
def jA:List Int->List (Int×Int)
 |a::b::l=>prP a b::jA (b::l)
 |_=>[]
def kX(L:List (Int×Int))(w:List Int):List (Int×Int):=(jA w).foldl IX L
theorem mQ:∀ w:List Int,(jA w).length=w.length-1
 |[]=>rfl
 |[_]=>rfl
 |a::b::l=>by have:=mQ (b::l);rw[jA,List.length_cons,this];simp
theorem HZ:∀(w:List Int) (k:Nat),k+1<w.length->(jA w)[k]?=some (prP (w.getD k 0) (w.getD (k+1) 0))
 |a::b::l,0,_=>by simp[jA]
 |a::b::l,k+1,h=>by rw[jA,List.getElem?_cons_succ,HZ (b::l) k (by simpa using h)];simp
 |[],k,h=>by simp at h
 |[_],k,h=>by simp at h
theorem Me(es:List (List Int×LV))(L:List (Int×Int))(p:Int×Int)(v:LV)(h:es.map (·.1)=L.map pk):(bP es (pk p) v).map (·.1)=(IX L p).map pk:=by
 have Xl:pk p∈L.map pk↔p∈L:=by
  rw[aAm];constructor
  .rintro⟨q,hq,e⟩;simp only[pk,aBi,aDn]at e;obtain⟨e1,e2⟩:=e;have:q=p:=aDG e1 e2;rw[<- this];exact hq
  .intro hp;exact⟨p,hp,rfl⟩
 have key:∀(es:List (List Int×LV)),(bP es (pk p) v).map (·.1)=if pk p∈es.map (·.1)then es.map (·.1)else es.map (·.1)++[pk p]:=by
  intro es;induction es with
  |nil=>simp[bP]
  |cons q es ih=>
   simp only[bP];by_cases e:pk p=q.1
   .rw[aAe (by simpa using e)];simp[e]
   .rw[aAa (by simpa using e),aAi,ih,aAi];by_cases e2:pk p∈es.map (·.1)
    .rw[aAe e2,aAe (aAj _ e2)]
    .rw[aAa e2,aAa (by simp only[aAf,aBV];exact⟨e,e2⟩)];rfl
 rw[key,h];unfold IX;by_cases e:p∈L
 .rw[aAe e,aAe (Xl.2 e)]
 .rw[aAa e,aAa fun k=>e (Xl.1 k),aAu];rfl
theorem pair(a b:Int)(st:St):aB prog 41 [u a,u b] st fun r st'=>r=.ag [u (min a b),u (max a b)]/\st'=st:=by
 refine qT (Q:=fun r=>r=.ag [u (min a b),u (max a b)]) ?_ fun r h=>by subst h;exact⟨trivial,trivial,trivial⟩
 refine zN func41 ntmps41 [.cell 4 73] ?_
 (repeat' (first|apply qS|(refine qR (zZ ?_);simp[])|(refine zE ?_;intro J hJ;simp[];refine zJ hJ ?_)))
 exact⟨⟨by split<;>omega,by split<;>omega⟩,aA.new _ _⟩
theorem PC{vs:List Int}{S pl ll:Nat}{st:St}{a b c f:LV}{on:List Int}{le:List (List Int×LV)}{L:List (Int×Int)}(Yg:st.H S=.box 119 7 [a,b,c,.mp pl,.mp ll,wv (mk vs on),f])(hP:st.H pl=.map false [.u32] (wY vs))
 (hL:st.H ll=.map true [.u32,.u32] le) (hk:le.map (·.1)=L.map pk) (j8:¬pl=ll) (hn:vs.Nodup) (h64:vs.length<=64) (w:List Int) (t:Nat) (hw:∀ v∈w,v∈vs) (hwl:w.length<=1000):
 aB prog 114 [.pt S 0,.sl t w.length (us w)] st fun _ st'=>∃ W0,st'=(st.set ll (.map true [.u32,.u32] W0)).set S (.box 119 7 [a,b,c,.mp pl,.mp ll,wv (mk vs (on++w)),f])/\W0.map (·.1)=(kX L w).map pk:=by
 have n1:¬S=ll:=fun h=>by rw[h,hL]at Yg;cases Yg
 have n2:¬ll=S:=fun h=>n1 h.symm;have n3:¬pl=S:=fun h=>by rw[h,Yg]at hP;cases hP
 refine zN func114 ntmps114 [] ?_
 (repeat' (first|apply qS|apply qB|(refine zE ?_;intro J hJ;simp[];refine zJ hJ ?_)))
 refine qL (fun n fr st'=>∃ k:Nat,1<=k/\(k=1\/k<=w.length)/\n=w.length-k/\fr 0=.pt S 0/\fr 1=.sl t w.length (us w)/\fr 4=i k/\∃ W0,st'=st.set ll (.map true [.u32,.u32] W0)/\W0.map (·.1)=(((jA w).take (k-1)).foldl IX L).map pk) (w.length-1) ?_ ?_
 .exact⟨1,oO,.inl rfl,rfl,sS,sS,sS,le,(Iw hL).symm,by simpa using hk⟩
 rintro n fr s ⟨k,Xp,Xq,rfl,f0,f1,f4,W0,rfl,Xv⟩ JJ hJJ;by_cases GD:k<w.length
 .have Yt:=qN k oO;have hd:=qG w k GD;have Xn:=qG w (k-1) oO;have hg:=HZ w (k-1) oO;have hwl2:=mQ w;have e1:IntKind.i64.wrap ((k:Int)-1)=((k-1:Nat):Int):=zW;have e4:k-1<w.length:=oO;rw[show k-1+1=k by omega]at hg;have E5:∀ v,(bP W0 (pk (prP (w.getD (k-1) 0) (w.getD k 0))) v).map (·.1)=(((jA w).take (k+1-1)).foldl IX L).map pk:=fun v=>by rw[Me _ _ _ _ Xv,show k+1-1=(k-1)+1 by omega];have ZN:k-1<(jA w).length:=oO;rw[aAn ZN,aBm];rw[aAd ZN,aAb]at hg;rw[hg];rfl
  generalize w.getD (k-1) 0=x at *;generalize w.getD k 0=y at *
  (repeat' (first|apply qS|apply qB|refine qK (zZ ?_)|(apply qC;simp[f0,f1,f4,GD])|(refine zE ?_;intro J hJ;simp[f0,f1,f4,GD];refine zJ hJ ?_)))
  (refine zS [] [S] [0,2,4,6,8,10,12,14,16,18,20,22,24,28,26,31] ?_;intro J hJ;simp[f0,f1,f4,GD,Yg,hL,n1,n2,e1,e4,hd,Xn])
  refine qD (pair x y _) sS ?_;rintro r s1 ⟨rfl,h1⟩;rw[h1];clear h1 s1;refine⟨fun h=>by first|(cases h;done)|simp,?_⟩
  (apply aS;simp[n1,n2,hL];refine zJ hJ ?_)
  (repeat' (refine zE ?_;intro J hJ;simp[f4,Yt];refine zJ hJ ?_))
  refine hJJ _ _ _ ?_ ⟨k+1,oO,.inr oO,rfl,by simp[f0],by simp[f1],sS,_,set_set _ _ _ _,E5 _⟩;omega
 .have Q6:(jA w).take (k-1)=jA w:=aAv (by rw[mQ];omega);rw[Q6]at Xv;have hB:ShB vs S pl (st.set ll (.map true [.u32,.u32] W0)):=⟨⟨a,b,c,.mp ll,wv (mk vs on),f,by rw[bF,aAa n1];exact Yg⟩,by rw[bF,aAa j8];exact hP⟩;have hor:=Bz vs on w h64
  (repeat' (first|apply qS|refine qX (zZ ?_)|(apply qC;simp[f0,f1,f4,GD])|(refine zE ?_;intro J hJ;simp[f0,f1,f4,GD];refine zJ hJ ?_)))
  (refine zS [] [S] [0,2,4,6,8,10,12,14,16,18,21] ?_;intro J hJ;simp[f0,f1,Yg,n1])
  refine qD (UF hB hn h64 w t hw oO) sS ?_;rintro r s1 ⟨rfl,h1⟩;rw[h1];clear h1 s1;refine⟨fun h=>by first|(cases h;done)|simp,?_⟩
  (apply aS;simp[Yg,n1,hor];refine zJ hJ ?_)
  skip
  exact⟨trivial,W0,rfl,Xv⟩
end Aw
namespace Aw
open Go Go.RowKit
theorem SS(x k idx:Nat)(w:World)(ZF:((x:Int)==0)=false)
 (key:IntKind.u64.wrap (bits BinOp.and IntKind.u64 (x:Int) (IntKind.u64.wrap (-(x:Int)))*285870213051353865) / 288230376151711744=(idx:Int))
 (hi:idx<64) (hk:k<64) (hcell:w.cell? ⟨0,idx,none⟩=some (.int .u8 k)):
 Calls prog 118 #[.int .u64 x] w fun e w'=>e=.returned (.int .i64 k)/\w'=w:=by
 go_enter func118,ntmps118
 go_wp2_with (simp only[key])
 go_ret
 exact⟨rfl,rfl⟩
theorem RW(w:World):
 Calls prog 118 #[.int .u64 0] w fun e w'=>e=.returned (.int .i64 64)/\w'=w:=by
 go_enter func118,ntmps118
 go_wp2
 go_ret
 exact⟨rfl,rfl⟩
theorem Tl(x a:Nat)(hx:x<18446744073709551616)(ZF:x≠0)(Zs:x &&& (18446744073709551616-x)=a):
 IntKind.u64.wrap (bits BinOp.and IntKind.u64 (x:Int) (IntKind.u64.wrap (-(x:Int)))*285870213051353865) / 288230376151711744=((a*285870213051353865 % 18446744073709551616 / 288230376151711744:Nat):Int):=by
 have e1:IntKind.u64.wrap (-(x:Int))=((18446744073709551616-x:Nat):Int):=by rw[IntKind.wrap_u64];omega
 rw[e1,bits_and_u64_nat x _ hx oO,Zs,IntKind.wrap_u64];omega
theorem OT{w:World}{g:G}(h:iO w g)(idx k:Nat)(hi:idx<64)(hk:Lib.deBruijn64tab.getD idx 0=k):w.cell? ⟨0,idx,none⟩=some (.int .u8 k):=by
 have hl:Lib.deBruijn64tab.length=64:=rfl;have h2:Lib.deBruijn64tab[idx]?=some k:=by rw[aAc,aAd (by rw[hl];exact hi),Option.getD_some]at hk;rw[aAd (by rw[hl];exact hi),hk]
 have h3:=h (0,Lib.deBruijn64tab.map fun(n:Nat)=>.int .u8 n) (aAl.2 rfl) idx (.int .u8 k);generalize Lib.deBruijn64tab=T at *;exact(h3 (by show(T.map fun(n:Nat)=>Value.int .u8 n)[idx]?=_;rw[aBN,h2];rfl)).1
theorem NZ(x:Nat)(hx:x<18446744073709551616){w:World}{g:G}(h:iO w g):Calls prog 118 #[.int .u64 x] w fun e w'=>e=.returned (.int .i64 (Lib.ctz 64 x))/\w'=w:=by
 by_cases ZF:x=0
 .subst ZF;exact RW w
 .obtain⟨Zs,hk⟩:=Lib.lowest_bit 64 x ZF hx;obtain⟨Yq,htab⟩:=Lib.deBruijn64_at _ hk;exact SS x _ _ w (by simp;omega) (Tl x _ hx ZF Zs) Yq hk (OT h _ _ Yq htab)
theorem Lf:Enters prog 118:=enters_of func118 (by kernel_rfl) rfl
theorem Tz(x:Nat)(hx:x<18446744073709551616)(st:St):aB prog 118 [.atom (.int .u64 x)] st fun r st'=>r=i (Lib.ctz 64 x)/\st'=st:=by refine⟨Lf,fun w g vs hi hr=>?_⟩;simp only[aC,Rep]at hr;obtain⟨v,vs',rfl,rfl,rfl⟩:=hr;refine(NZ x hx hi.aside.glob).mono ?_;rintro e w' ⟨rfl,rfl⟩;exact⟨_,_,st,g,rfl,⟨rfl,rfl⟩,by simp only[Rep],hi,Ext.refl _ _⟩
end Aw
namespace Aw
open Go Go.RowKit Pl
def mF(g:Gr):List LV:=g.vs.map fun v=>wv (mk g.vs (nbr g.es v))
@[simp] theorem Uk(g:Gr):(mF g).length=g.vs.length:=by simp[mF]
theorem IA(g:Gr)(k:Nat)(hk:k<g.vs.length):(mF g).drop k=wv (mk g.vs (nbr g.es (g.vs.getD k 0)))::(mF g).drop (k+1):=by unfold mF;rw[aAO (by simpa using hk),aCl,bG _ _ hk]
def arn(g:Gr)(A:List Int):List Int:=A.flatMap (nbr g.es)
theorem LY{g:Gr}{A B:List Int}(h:∀ v,v∈A↔v∈B):mk g.vs (arn g A)=mk g.vs (arn g B):=mk_congr fun v _=>by unfold arn;rw[aAR,aAR];exact⟨fun⟨x,hx,h2⟩=>⟨x,(h x).1 hx,h2⟩,fun⟨x,hx,h2⟩=>⟨x,(h x).2 hx,h2⟩⟩
theorem Su{g:Gr}{S nl:Nat}{st:St}{a b d e f h:LV}(Yg:st.H S=.box 119 7 [a,b,.ms nl 0 g.vs.length,d,e,f,h])(hN:st.H nl=.box 116 1 (mF g))(hn:g.vs.Nodup)(h64:g.vs.length<=64)(A:List Int)(hA:∀ v∈A,v∈g.vs):
 aB prog 165 [.pt S 0,wv (mk g.vs A)] st fun r st'=>r=wv (mk g.vs (arn g A))/\st'=st:=by
 refine zN func165 ntmps165 [.tmp 4] ?_
 (repeat' (first|apply qS|apply qB|(refine zE ?_;intro J hJ;simp[];refine zJ hJ ?_)))
 have h0:mk g.vs []=0:=(mk_zero g.vs []).2 fun _ _=>by simp
 refine qL (fun n fr st'=>∃ D R:List Int,n=(g.vs.filter fun v=>decide (v∈R)).length/\(∀ v,v∈A↔v∈D\/v∈R)/\fr 0=.pt S 0/\fr 1=wv (mk g.vs R)/\fr 5=wv (mk g.vs (arn g D))/\st'=st) (g.vs.filter fun v=>decide (v∈A)).length ?_ ?_
 .exact⟨[],A,rfl,fun v=>by simp,sS,sS,by simp[arn,h0],rfl⟩
 rintro n fr s ⟨D,R,rfl,hDR,f0,f1,f5,rfl⟩ JJ hJJ;have hRA:∀ v∈R,v∈g.vs:=fun v hv=>hA v ((hDR v).2 (.inr hv));by_cases hR:fst' g.vs R<g.vs.length
 .have Wu:=Ex hR;have hb:((mk g.vs R:Int) != 0)=true:=by simpa using Wu
  have hct:=ET h64 hR;have GD:=nA g.vs R h64;have C4:=IA g _ hR;obtain⟨F5,hv2⟩:=Qx hR;have hdp:=Jk h64 hn hR;have hi0:(0:Int)<=(fst' g.vs R:Int):=oO;have O2:(fst' g.vs R:Int)<g.vs.length:=oO;have hTz:=fun st=>Tz (mk g.vs R) GD st;rw[hct]at hTz;generalize g.vs.getD (fst' g.vs R) 0=v at *;have hor:=Bz g.vs (arn g D) (nbr g.es v) h64
  (repeat' (first|apply qS|apply qB|refine qK (zZ ?_)|(apply qC;simp[f1,hb])|(refine zE ?_;intro J hJ;simp[f1,hb];refine zJ hJ ?_)))
  (refine zS [] [S,nl] [0,2,4,6,8,10,12,14,16,18,20] ?_;intro J hJ;simp[f0,f1,f5,Yg,hN])
  refine qD (hTz _) sS ?_;rintro r s1 ⟨rfl,h1⟩;rw[h1];clear h1 s1;refine⟨fun h=>by first|(cases h;done)|simp,?_⟩
  (apply aS;simp[Yg,hN,C4,hi0,O2,hR,hor];refine zJ hJ ?_)
  (repeat' (refine zE ?_;intro J hJ;simp[f1,hdp];refine zJ hJ ?_))
  refine hJJ _ _ _ ?_ ⟨D++[v],R.filter fun w=>decide (w≠v),rfl,fun w=>?_,by simp[f0],sS,by simp[arn],rfl⟩
  .have YW:(g.vs.filter fun w=>decide (w∈R.filter fun w=>decide (w≠v)))=(g.vs.filter fun w=>decide (w∈R)).filter fun w=>decide (w≠v):=by rw[List.filter_filter];refine List.filter_congr fun w _=>?_;simp only[aAr,aAL,Bool.decide_and];rw[Bool.and_comm]
   rw[YW];refine List.length_filter_lt_length_iff_exists.2 ⟨v,?_,sS⟩;rw[aAr];exact⟨hv2,by simpa using F5⟩
  .rw[hDR,aAg,aAl,aAr,aAL];constructor
   .rintro(h|h)
    .exact .inl (.inl h)
    .by_cases e:w=v
     .exact .inl (.inr e)
     .exact .inr ⟨h,e⟩
   .rintro((h|h)|h)
    .exact .inl h
    .rw[h];exact .inr F5
    .exact .inr h.1
 .have YD:∀ v∈g.vs,v∉R:=fun v hv hvR=>hR (UG.2 ⟨v,hv,hvR⟩);have hz:mk g.vs R=0:=(mk_zero g.vs R).2 YD;have hb:((mk g.vs R:Int) != 0)=false:=by rw[hz];rfl
  have Xj:mk g.vs (arn g D)=mk g.vs (arn g A):=LY fun v=>by rw[hDR];exact⟨.inl,fun h=>h.elim id fun h=>absurd h (YD v (hRA v h))⟩
  rw[hz]at f1
  (repeat' (first|apply qS|refine qX (zZ ?_)|(refine qR (zZ ?_);simp[f1,f5,Xj])|(apply qC;simp[f1,f5,Xj])|(refine zE ?_;intro J hJ;simp[f1,f5,Xj];refine zJ hJ ?_)))
structure Brg where
 inner:List Int
 ends:List Int
def nrS(vs A:List Int):List Int:=vs.filter fun v=>decide (v∈A)
def off(A B:List Int):List Int:=A.filter fun v=>!decide (v∈B)
def on'(A B:List Int):List Int:=A.filter fun v=>decide (v∈B)
theorem Dp(vs A:List Int):mk vs (nrS vs A)=mk vs A:=mk_congr fun v hv=>by simp[nrS,hv]
def xR(g:Gr)(on:List Int):Nat->List Int->Option Brg
 |0,_=>none
 |n+1,inner=>
  if off (off (nrS g.vs (arn g inner)) on) inner=[]then some ⟨inner,on' (nrS g.vs (arn g inner)) on⟩
  else xR g on n (nrS g.vs (inner++off (nrS g.vs (arn g inner)) on))
def sC(g:Gr)(on:List Int):Nat->List Int->Option (List Brg)
 |_,[]=>some []
 |0,_::_=>none
 |n+1,v::R=>(xR g on (g.vs.length+1) [v]).bind fun b=>(sC g on n (off (v::R) b.inner)).map (b::·)
def oS(g:Gr)(L:List (Int×Int))(on:List Int)(es:List Ed):List Brg:=
 (es.filter fun x=>decide (prP x.a x.b∉L)&&decide (x.a∈on)&&decide (x.b∈on)).map fun x=>⟨[],[x.a,x.b]⟩
def Mm(g:Gr)(L:List (Int×Int))(on:List Int):Option (List Brg):=(sC g on (g.vs.length+1) (off g.vs on)).map fun l=>oS g L on g.es++l
def nK(vs:List Int)(l:List Brg):List LV:=l.flatMap fun b=>[wv (mk vs b.inner),wv (mk vs b.ends)]
@[simp] theorem Gd(vs:List Int):∀ l:List Brg,(nK vs l).length=l.length*2
  |[]=>rfl
  |b::l=>by have:=Gd vs l;simp only[nK,aAC,aAh,List.length_cons,List.length_nil]at this ⊢;omega
theorem Cq(vs:List Int)(l:List Brg)(b:Brg):nK vs l++[wv (mk vs b.inner),wv (mk vs b.ends)]=nK vs (l++[b]):=by simp[nK]
theorem Nq{es:List (List Int×LV)}{L:List (Int×Int)}(h:es.map (·.1)=L.map pk)(p:Int×Int):(p∈L->∃ v,bQ es (pk p)=some v)/\(p∉L->bQ es (pk p)=none):=by
 have Xl:pk p∈es.map (·.1)↔p∈L:=by
  rw[h,aAm];constructor
  .rintro⟨q,hq,e⟩;simp only[pk,aBi,aDn]at e;have:q=p:=aDG e.1 e.2;rw[<- this];exact hq
  .intro hp;exact⟨p,hp,rfl⟩
 have key:∀ es:List (List Int×LV),(pk p∈es.map (·.1)->∃ v,bQ es (pk p)=some v)/\(pk p∉es.map (·.1)->bQ es (pk p)=none):=by
  intro es;induction es with
  |nil=>simp[bQ]
  |cons q es ih=>
   simp only[bQ,aAi,aAf];by_cases e:pk p=q.1
   .rw[aAe (by simpa using e)];exact⟨fun _=>⟨_,rfl⟩,fun h=>absurd (.inl e) h⟩
   .rw[aAa (by simpa using e)];exact⟨fun h=>ih.1 (h.resolve_left e),fun h=>ih.2 fun k=>h (.inr k)⟩
 rw[<- Xl];exact key es
theorem MK(g:Gr)(L:List (Int×Int))(on:List Int)(es:List Ed)(j:Nat)(hj:j<es.length):
 oS g L on (es.take (j+1))=oS g L on (es.take j)++if(prP (es.getD j ed0).a (es.getD j ed0).b∉L/\(es.getD j ed0).a∈on)/\(es.getD j ed0).b∈on then [⟨[],[(es.getD j ed0).a,(es.getD j ed0).b]⟩]else []:=by
 unfold oS;rw[aAn hj,aBx,aAu,aAc,aAd hj,Option.getD_some];generalize es[j]=x
 congr 1
 by_cases h:(prP x.a x.b∉L/\x.a∈on)/\x.b∈on
 .rw[aAe h];simp[h.1.1,h.1.2,h.2]
 .rw[aAa h];rw[aDb.2];rfl;intro y hy;rw[aAl]at hy;subst hy;simpa[and_assoc]using h
theorem Jh{vs A B:List Int}(hA:∀ v∈A,v∈vs):mk vs (off A B)=0↔off A B=[]:=by
 rw[mk_zero];constructor
 .intro h;exact aCw.2 fun v hv=>h v (hA v (aAr.1 hv).1) hv
 .intro h v _;rw[h];simp
theorem Da:∀ {vs R:List Int} {v:Int},vs.Nodup->(v::R).Sublist vs->vs.getD (fst' vs (v::R)) 0=v/\fst' vs (v::R)<vs.length
 |[],R,v,_,h=>by cases h
 |w::vs,R,v,hn,h=>by
  have Zk:=(aAy.1 hn);cases h with
  |cons _ h=>
   have hw:w∉v::R:=fun hw=>Zk.1 (h.subset hw);obtain⟨h1,h2⟩:=Da Zk.2 h;have e:fst' (w::vs) (v::R)=fst' vs (v::R)+1:=by unfold fst';rw[List.findIdx_cons];simp only[aCa,cond_eq_ite];rw[aAa hw]
   rw[e];exact⟨by simpa using h1,by simpa using h2⟩
  |cons_cons _ h=>
   have e:fst' (w::vs) (w::R)=0:=by unfold fst';rw[List.findIdx_cons];simp
   rw[e];exact⟨sS,sS⟩
theorem Ts(vs:List Int)(l:List Brg):(nK vs l).map z0=nK vs l:=by
 induction l with
 |nil=>rfl
 |cons b l ih=>simp only[nK,aAC,aAu]at ih ⊢;rw[ih];rfl
def EH(t e s n:Nat)(lo:St)(st:St):Prop:=t≠0/\lo.next<=t/\t<st.next/\st.H t=.own e s n
structure ShR(g:Gr)(L:List (Int×Int))(on:List Int)(S nl pl ll:Nat)(f:LV)(le:List (List Int×LV))(st:St):Prop where
 box:st.H S=.box 119 7 [.sl 0 g.vs.length (us g.vs),.sl 0 g.es.length (eds g.es),.ms nl 0 g.vs.length,.mp pl,.mp ll,wv (mk g.vs on),f]
 near:st.H nl=.box 116 1 (mF g)
 plc:st.H pl=.map false [.u32] (wY g.vs)
 lin:st.H ll=.map true [.u32,.u32] le
 key:le.map (·.1)=L.map pk
 lt:S<st.next/\nl<st.next/\pl<st.next/\ll<st.next
theorem ShR.keep{g:Gr}{L:List (Int×Int)}{on:List Int}{S nl pl ll:Nat}{f:LV}{le:List (List Int×LV)}{st st':St}(h:ShR g L on S nl pl ll f le st)(k:aA st st'):ShR g L on S nl pl ll f le st':=by obtain⟨a,b,c,d,e,f1,f2,f3,f4⟩:=h;have hx:=k.next;exact⟨(k.H _ f1).trans a,(k.H _ f2).trans b,(k.H _ f3).trans c,(k.H _ f4).trans d,e,oO,oO,oO,oO⟩
theorem ShR.b{g:Gr}{L:List (Int×Int)}{on:List Int}{S nl pl ll:Nat}{f:LV}{le:List (List Int×LV)}{st:St}(h:ShR g L on S nl pl ll f le st):ShB g.vs S pl st:=⟨⟨_,_,_,_,_,_,h.box⟩,h.plc⟩
theorem Fe{g:Gr}{L:List (Int×Int)}{on:List Int}{S nl pl ll:Nat}{f:LV}{le:List (List Int×LV)}{st:St}(h:ShR g L on S nl pl ll f le st)(hn:g.vs.Nodup)(h64:g.vs.length<=64)(A:List Int)(hA:∀ v∈A,v∈g.vs):
 aB prog 165 [.pt S 0,wv (mk g.vs A)] st fun r st'=>r=wv (mk g.vs (arn g A))/\st'=st:=Su h.box h.near hn h64 A hA
structure GP(g:Gr):Prop extends GoodE g where
 h64:g.vs.length<=64
 he:g.es.length<=200
theorem Ol{g:Gr}(hg:GP g){L:List (Int×Int)}{on:List Int}(hon:∀ v∈on,v∈g.vs){S nl pl ll:Nat}{f:LV}{le:List (List Int×LV)}{st:St}(hS:ShR g L on S nl pl ll f le st){B:List Brg}(hB:Mm g L on=some B):
 aB prog 116 [.pt S 0] st fun r st'=>r=.sl 0 B.length (nK g.vs B)/\st'=st:=by
 refine qT (Q:=fun r=>r=.sl 0 B.length (nK g.vs B)) (eV ?_) fun r h=>by
  subst h;refine⟨.inl rfl,?_⟩;clear hB;induction B with
  |nil=>trivial
  |cons b B ih=>exact⟨trivial,trivial,ih⟩
 have hn:g.vs.Nodup:=hg.toGoodE.toGood.nodup;have h64:=hg.h64;have hel:=aN g.es;unfold Mm at hB;obtain⟨l2,E0,rfl⟩:=aBn.1 hB;obtain⟨Yg,hN,hP,hL,Yd,q1,q2,q3,q4⟩:=id hS;refine zN func116 ntmps116 [.tmp 2] ?_;refine jC fun ZA=>?_
 (repeat' (first|apply qS|apply qB|(refine zE ?_;intro J hJ;simp[Yg];refine zJ hJ ?_)))
 refine yV 3 121 2 sS ?_;have e0:¬st.next=0:=oO;have he200:=hg.he;refine aZ 18 17 19 60 (g.es.length) (fun j fr st2=>fr 0=.pt S 0/\fr 16=.sl 0 g.es.length (eds g.es)/\aA st st2/\∃ t,fr 3=.sl t (oS g L on (g.es.take j)).length (nK g.vs (oS g L on (g.es.take j)))/\EH t 121 2 (oS g L on (g.es.take j)).length st st2) ?_ ?_ ?_
 .exact⟨sS,sS,aA.new _ _,st.next,by simp[oS,nK],e0,aAk _,sS,by simp[oS]⟩
 .rintro j fr s GD ⟨f0,f16,hk,t,f3,t0,t1,t2,tH⟩ fi fn JO hJO;have hd:=aW g.es j GD;have Xv:j*3<g.es.length*3:=oO;have Zi:=MK g L on g.es j GD;have Yf:=hg.ends _ (show g.es.getD j ed0∈g.es by rw[cZ _ _ GD];exact aAA _);generalize g.es.getD j ed0=ee at *;generalize hF:oS g L on (g.es.take j)=F at *;obtain⟨d,a,b⟩:=ee;simp only at Zi Yf;have hS1:=(hS.keep hk).keep (aA.new s (.box 56 3 [u d,u a,u b]));obtain⟨hSb1,hN1,hP1,hL1,-,p1,p2,p3,p4⟩:=id hS1;have Zz:=fun v hv=>Sb (v:=v) hS1.b hn h64 hv;have hor:=Bz g.vs [a] [b] h64;simp only[List.cons_append,List.nil_append]at hor;obtain⟨hgs,hgn⟩:=Nq Yd (prP a b);have hnS:¬S=s.next:=by have:=hk.next;omega
  have Xi:¬ll=s.next:=by have:=hk.next;omega
  have A8:=(hS.keep hk).box;have hL0:=(hS.keep hk).lin;have F7:=rH g.vs [a,b] on h64;have hwl:(F:List Brg).length<=g.es.length:=by
   have h1:=aBh (fun x=>decide (prP x.a x.b∉L)&&decide (x.a∈on)&&decide (x.b∈on)) (g.es.take j);have h2:F.length=((g.es.take j).filter (fun x=>decide (prP x.a x.b∉L)&&decide (x.a∈on)&&decide (x.b∈on))).length:=by rw[<- hF];unfold oS;rw[aAz]
   rw[aAq]at h1;omega
  (repeat' (first|apply qS|(refine zE ?_;intro J hJ;simp[f0,f16,fi,fn,hd,hel,Xv,GD];refine zJ hJ ?_)))
  (refine zS [] [s.next] [0,2,4,8,10,12,6,14,16,18] ?_;intro J hJ;simp[f0])
  refine qD (Zz a Yf.1) sS ?_;rintro r s1 ⟨rfl,h1⟩;rw[h1];clear h1 s1;refine⟨fun h=>by first|(cases h;done)|exact fun _ _=>rfl|simp,?_⟩
  (apply aS;simp[])
  refine qD (Zz b Yf.2) sS ?_;rintro r s1 ⟨rfl,h1⟩;rw[h1];clear h1 s1;refine⟨fun h=>by first|(cases h;done)|exact fun _ _=>rfl|simp,?_⟩
  (apply aS;simp[hor];refine zJ hJ ?_)
  (repeat (apply qS))
  (refine zS [] [S,s.next,ll] [0,2,4,6,8,10,12,14,16,18,20,22,24,26,28] ?_;intro J hJ;simp[f0,A8,hnS])
  refine qD (pair a b _) sS ?_;rintro r s1 ⟨rfl,h1⟩;rw[h1];clear h1 s1;refine⟨fun h=>by first|(cases h;done)|exact fun _ _=>rfl|simp,?_⟩;have c1:¬t=s.next:=oO;have c2:¬t=s.next+1:=oO;have c3:¬s.next=t:=oO;have hFs:=Cq g.vs F ⟨[],[a,b]⟩;have I2:mk g.vs []=0:=(mk_zero g.vs []).2 fun _ _=>by simp
  simp only[I2]at hFs;by_cases hp:prP a b∈L
  .obtain⟨v,hv⟩:=hgs hp;have hv:bQ le [min a b,max a b]=some v:=hv;rw[aAa (by simp[hp]),aAK]at Zi
   (apply aS;simp[hL0,Xi,hv];refine zJ hJ ?_)
   (repeat' (first|apply qS|refine qK (zZ ?_)|(apply qC;simp[])|(refine zE ?_;intro J hJ;simp[];refine zJ hJ ?_)))
   exact hJO _ _ (by simp[fi]) (by simp[fn]) ⟨by simp[f0],by simp[f16],hk.trans (aA.new _ _),t,by rw[Zi];simp[f3],t0,t1,by simp;omega,by rw[Zi];(repeat (first|rw[nHh nOo]|rw[sHh oO]|rw[nIi nQq]|rw[sIi oO]));exact tH⟩
  .have hv:bQ le [min a b,max a b]=none:=hgn hp;by_cases hc:a∈on/\b∈on
   .rw[aAe ⟨⟨hp,hc.1⟩,hc.2⟩]at Zi;have hz:mk g.vs (off [a,b] on)=0:=(mk_zero _ _).2 fun v _ h=>by
     simp only[off,aAr,aAf,aBJ,aDa,aDe,aCg]at h;rcases h.1 with e|e
     .exact h.2 (by rw[e];exact hc.1)
     .exact h.2 (by rw[e];exact hc.2)
    have hdz:gD .u64 (mk g.vs [a,b]) (mk g.vs on)=0:=by rw[F7];exact congrArg Int.ofNat hz
    (apply aS;simp[hL0,Xi,hv];refine zJ hJ ?_)
    (repeat' (first|apply qS|(apply qC;simp[A8,f0,hnS,hdz,f3,tH,t0,c1,c2,c3])|(refine zE ?_;intro J hJ;simp[A8,f0,hnS,hdz,f3,tH,t0,c1,c2,c3];(repeat refine ca ?_);refine zJ hJ ?_)))
    exact hJO _ _ (by simp[fi]) (by simp[fn]) ⟨by simp[f0],by simp[f16],((hk.trans (aA.new _ _)).trans (aA.new _ _)).set t1 _ |>.trans (aA.new _ _),s.next+2,by rw[Zi,<- hFs];simp,oO,oO,sS,by rw[Zi];simp⟩
   .rw[aAa (by intro h;exact hc ⟨h.1.2,h.2⟩),aAK]at Zi;have hz:mk g.vs (off [a,b] on)≠0:=fun h=>by rw[mk_zero]at h;have ha:=h a Yf.1;have hb:=h b Yf.2;simp[off]at ha hb;exact hc ⟨ha,hb⟩
    have hdz:(gD .u64 (mk g.vs [a,b]) (mk g.vs on)==0)=false:=by rw[F7];simpa[off]using hz
    (apply aS;simp[hL0,Xi,hv];refine zJ hJ ?_)
    (repeat' (first|apply qS|refine qK (zZ ?_)|(apply qC;simp[A8,f0,hnS,hdz])|(refine zE ?_;intro J hJ;simp[A8,f0,hnS,hdz];refine zJ hJ ?_)))
    exact hJO _ _ (by simp[fi]) (by simp[fn]) ⟨by simp[f0],by simp[f16],hk.trans (aA.new _ _),t,by rw[Zi];simp[f3],t0,t1,by simp;omega,by rw[Zi];(repeat (first|rw[nHh nOo]|rw[sHh oO]|rw[nIi nQq]|rw[sIi oO]));exact tH⟩
 .rintro fr s ⟨f0,f16,hk,t,f3,t0,t1,t2,tH⟩;rw[aAQ]at f3 tH;have hE1:(oS g L on g.es).length<=200:=by have h1:=aBh (fun x=>decide (prP x.a x.b∉L)&&decide (x.a∈on)&&decide (x.b∈on)) g.es;unfold oS;rw[aAz];omega
  generalize oS g L on g.es=E1 at *;have hSk:=hS.keep hk;have A8:=hSk.box;have F7:=rH g.vs g.vs on h64;have N4:=fun st' (h:ShB g.vs S pl st')=>UF h hn h64 g.vs 0 (fun v h=>h) oO
  (repeat' apply qS)
  (refine zS [] [S] [0,2,4,6,8,10,14,16,18,20,12,22,24] ?_;intro J hJ;simp[f0,A8])
  refine qD (N4 _ hSk.b) sS ?_;rintro r s1 ⟨rfl,h1⟩;rw[h1];clear h1 s1;refine⟨fun h=>by first|(cases h;done)|exact fun _ _=>rfl|simp,?_⟩
  (apply aS;simp[A8,F7];refine zJ hJ ?_)
  (repeat (first|apply qS|apply qB))
  refine qL (fun n fr st'=>∃ R l l2',sC g on n R=some l2'/\l2=l++l2'/\l.length+n<=g.vs.length+1/\R.Sublist g.vs/\fr 0=.pt S 0/\fr 9=wv (mk g.vs R)/\aA st st'/\∃ t,fr 3=.sl t (E1++l).length (nK g.vs (E1++l))/\EH t 121 2 (E1++l).length st st') (g.vs.length+1) ?_ ?_
  .exact⟨off g.vs on,[],l2,E0,rfl,sS,aBp,by simp[f0],by simp[off],hk,t,by simp[f3],t0,t1,t2,by simpa using tH⟩
  .clear f0 f16 hk f3 t0 t1 t2 tH hSk A8 fr s;rintro n fr s ⟨R,l,l2',hr,rfl,hln,YW,f0,f9,hk,t,f3,t0,t1,t2,tH⟩ JJ hJJ;have hSk:=hS.keep hk;obtain⟨A8,hN0,-,-,-,p1,p2,p3,p4⟩:=id hSk;have hRv:∀ v∈R,v∈g.vs:=fun v hv=>YW.subset hv;cases R with
   |nil=>
    have hz:mk g.vs []=0:=(mk_zero g.vs []).2 fun _ _=>by simp
    rw[hz]at f9;have hl2':l2'=[]:=by cases n<;>simpa[sC]using hr.symm
    subst hl2';rw[aAK]
    (repeat' (first|apply qS|refine qX (zZ ?_)|(refine qR (zZ ?_);simp[f9,f3])|(apply qC;simp[f9,f3])|(refine zE ?_;intro J hJ;simp[f9,f3];refine zJ hJ ?_)))
    exact⟨by simp[z0,nP,Ts],hk⟩
   |cons v R=>
    obtain⟨hfv,P3⟩:=Da hn YW;have Wu:=Ex P3;have hb:((mk g.vs (v::R):Int) != 0)=true:=by simpa using Wu
    have Zs:=UY h64 hn P3;rw[hfv,Int.zero_sub]at Zs;cases n with
    |zero=>simp[sC]at hr
    |succ n=>
     rw[sC]at hr;obtain⟨b,hgb,hr⟩:=aBE.1 hr;obtain⟨l3,hr3,rfl⟩:=aBn.1 hr;have hvv:∀ w∈[v],w∈g.vs:=fun w hw=>by rw[aAl]at hw;rw[hw];exact hRv v sS
     (repeat' (first|apply qS|apply qB|refine qK (zZ ?_)|(apply qC;simp[f0,f9,hb,Zs])|(refine zE ?_;intro J hJ;simp[f0,f9,hb,Zs];(try refine zJ hJ ?_))))
     refine qE (Fe hSk hn h64 [v] hvv) sS ?_;rintro r s1 ⟨rfl,h1⟩;rw[h1];clear h1 s1
     (apply aF;simp[];refine zJ hJ ?_)
     (repeat (first|apply qS|apply qB))
     refine qL (fun m fr st'=>∃ inner,xR g on m inner=some b/\(∀ w∈inner,w∈g.vs)/\fr 0=.pt S 0/\fr 9=wv (mk g.vs (v::R))/\fr 3=.sl t (E1++l).length (nK g.vs (E1++l))/\fr 10=wv (mk g.vs inner)/\fr 11=wv (mk g.vs (arn g inner))/\st'=s) (g.vs.length+1) ?_ ?_
     .exact⟨[v],hgb,hvv,by simp[f0],by simp[f9],by simp[f3],sS,sS,rfl⟩
     .clear f0 f9 f3 fr;rintro m fr s3 ⟨inner,hgi,hiv,f0,f9,f3,f10,f11,hs3⟩ JI hJI;subst hs3;cases m with
      |zero=>simp[xR]at hgi
      |succ m=>
       have hRR:∀ w∈nrS g.vs (arn g inner),w∈g.vs:=fun w hw=>(aAr.1 hw).1;rw[<- Dp]at f11;rw[xR]at hgi;generalize nrS g.vs (arn g inner)=RR at *;have Xn:gD .u64 (mk g.vs RR) (mk g.vs on)=mk g.vs (off RR on):=rH g.vs RR on h64;have YM:gD .u64 (mk g.vs (off RR on)) (mk g.vs inner)=mk g.vs (off (off RR on) inner):=rH g.vs _ inner h64;by_cases hc:off (off RR on) inner=[]
       .rw[aAe hc]at hgi;have K0:b=⟨inner,on' RR on⟩:=by simpa using hgi.symm
        subst K0;have hz:mk g.vs (off (off RR on) inner)=0:=by rw[hc];exact(mk_zero g.vs []).2 fun _ _=>by simp
        have u7:((mk g.vs (off (off RR on) inner):Int) != 0)=false:=by rw[hz];rfl
        have hd3:xE .u64 (mk g.vs RR) (mk g.vs on)=mk g.vs (on' RR on):=NY g.vs RR on h64;have hd4:gD .u64 (mk g.vs (v::R)) (mk g.vs inner)=mk g.vs (off (v::R) inner):=rH g.vs _ inner h64;have c1:¬t=s3.next:=oO;have c2:¬s3.next=t:=oO;have hFs:=Cq g.vs (E1++l) ⟨inner,on' RR on⟩;have Xm:(E1++l).length<=300:=by rw[aAh];have:=hg.h64;omega
        rw[aAD]at hFs;have hlen:(E1++l).length+1=(E1++(l++[(⟨inner,on' RR on⟩:Brg)])).length:=by simp;omega
        generalize hEl:E1++l=El at *
        (repeat' (first|apply qS|refine qX (zZ ?_)|(apply qC;simp[f0,f9,f10,f11,f3,A8,Xn,YM,u7,hd3,hd4,tH,t0,c1,c2])|(refine zE ?_;intro J hJ;simp[f0,f9,f10,f11,f3,A8,Xn,YM,u7,hd3,hd4,tH,t0,c1,c2];(repeat refine ca ?_);refine zJ hJ ?_)))
        exact hJJ _ _ _ (aCL n) ⟨off (v::R) inner,l++[⟨inner,on' RR on⟩],l3,hr3,sS,by simp;omega,aBp.trans YW,by simp[f0],sS,((hk.trans (aA.new _ _)).set t1 _).trans (aA.new _ _),s3.next+1,by rw[<- hFs,<- hlen];simp,oO,oO,sS,by rw[<- hlen];simp⟩
       .rw[aAa hc]at hgi;have hz:mk g.vs (off (off RR on) inner)≠0:=fun h=>hc ((Jh fun w hw=>hRR w (aAr.1 hw).1).1 h);have u7:((mk g.vs (off (off RR on) inner):Int) != 0)=true:=by simpa using hz
        have hor:gor .u64 (mk g.vs inner) (mk g.vs (off RR on))=mk g.vs (nrS g.vs (inner++off RR on)):=by rw[Bz _ _ _ h64,Dp]
        have ZS:∀ w∈nrS g.vs (inner++off RR on),w∈g.vs:=fun w hw=>(aAr.1 hw).1;generalize nrS g.vs (inner++off RR on)=IN at *
        (repeat' (first|apply qS|apply qB|refine qK (zZ ?_)|(apply qC;simp[f0,f10,f11,A8,Xn,YM,u7,hor])|(refine zE ?_;intro J hJ;simp[f0,f10,f11,A8,Xn,YM,u7,hor];(try refine zJ hJ ?_))))
        refine qE (Fe hSk hn h64 IN ZS) sS ?_;rintro r s1 ⟨rfl,h1⟩;rw[h1];clear h1 s1
        (apply aF;simp[];refine zJ hJ ?_)
        exact hJI _ _ _ (aCL m) ⟨IN,hgi,ZS,by simp[f0],by simp[f9],by simp[f3],sS,sS,rfl⟩
def gC(vs:List Int)(F:List (List Int)):List LV:=F.flatMap fun r=>[.sl 0 r.length (us r),wv (mk vs r)]
@[simp] theorem pO(vs:List Int):∀ F:List (List Int),(gC vs F).length=F.length*2
  |[]=>rfl
  |r::F=>by have:=pO vs F;simp only[gC,aAC,aAh,List.length_cons,List.length_nil]at this ⊢;omega
theorem rN(vs:List Int):∀(F:List (List Int)) (k:Nat),k<F.length->(gC vs F).drop (k*2)=.sl 0 (F.getD k []).length (us (F.getD k []))::wv (mk vs (F.getD k []))::gC vs (F.drop (k+1))
 |r::F,0,_=>by simp[gC]
 |r::F,k+1,h=>by have:=rN vs F k (by simpa using h);rw[show(k+1)*2=k*2+2 by omega];simp only[gC,aAC,List.cons_append,List.nil_append,aCz]at this ⊢;rw[this];simp
 |[],k,h=>by simp at h
theorem Co(vs:List Int):∀(B:List Brg) (k:Nat),k<B.length->(nK vs B).drop (k*2)=wv (mk vs (B.getD k ⟨[],[]⟩).inner)::wv (mk vs (B.getD k ⟨[],[]⟩).ends)::nK vs (B.drop (k+1))
 |r::F,0,_=>by simp[nK]
 |r::F,k+1,h=>by have:=Co vs F k (by simpa using h);rw[show(k+1)*2=k*2+2 by omega];simp only[nK,aAC,List.cons_append,List.nil_append,aCz]at this ⊢;rw[this];simp
 |[],k,h=>by simp at h
def oM(b:Brg)(p:Int×Int)(r:List Int×Nat):Int×Int:=if off b.ends r.1=[]then(if p.2=0 then(r.2:Int)else p.1,p.2+1)else p
def gY(b:Brg)(F:List (List Int×Nat)):Int×Int:=F.foldl (oM b) (-1,0)
def cU(F:List (List Int)):List Brg->Brg×Int->Brg×Int
 |[],Zv=>Zv
 |b::l,Zv=>if(gY b F.zipIdx).2<=1 then(b,(gY b F.zipIdx).1)else cU F l (if Zv.2<0 then(b,(gY b F.zipIdx).1)else Zv)
theorem Hw(b:Brg)(F:List (List Int))(k:Nat)(hk:k<F.length):gY b (F.zipIdx.take (k+1))=oM b (gY b (F.zipIdx.take k)) (F.getD k [],k):=by
 unfold gY;have hz:k<F.zipIdx.length:=by simpa using hk
 rw[aAn hz,aBm,List.getElem_zipIdx,aAc,aAd hk];simp
theorem Fs(b:Brg):∀(F:List (List Int×Nat)),0<=(gY b F).2/\(gY b F).2<=F.length:=by
 have key:∀(F:List (List Int×Nat)) (p:Int×Int),0<=p.2->0<=(F.foldl (oM b) p).2/\(F.foldl (oM b) p).2<=p.2+F.length:=by
  intro F;induction F with
  |nil=>intro p h;simpa using h
  |cons r F ih=>
   intro p h;have h1:0<=(oM b p r).2/\(oM b p r).2<=p.2+1:=by unfold oM;by_cases e:off b.ends r.1=[];(· rw[aAe e];simp only;omega);(· rw[aAa e];omega)
   have:=ih (oM b p r) h1.1;rw[List.foldl_cons,List.length_cons];omega
 intro F;have:=key F (-1,0) sS;unfold gY;simp only at this;omega
structure ShA(g:Gr)(L:List (Int×Int))(on:List Int)(F:List (List Int))(S nl pl ll fl:Nat)(le:List (List Int×LV))(st:St):Prop where
 r:ShR g L on S nl pl ll (.ms fl 0 F.length) le st
 fac:st.H fl=.box 127 2 (gC g.vs F)
 flt:fl<st.next
 sub:∀ r∈F,∀ v∈r,v∈g.vs
 onv:∀ v∈on,v∈g.vs
 few:F.length<=300
theorem ShA.keep{g:Gr}{L:List (Int×Int)}{on:List Int}{F:List (List Int)}{S nl pl ll fl:Nat}{le:List (List Int×LV)}{st st':St}(h:ShA g L on F S nl pl ll fl le st)(k:aA st st'):ShA g L on F S nl pl ll fl le st':=
 ⟨h.r.keep k,(k.H _ h.flt).trans h.fac,aAp h.flt k.next,h.sub,h.onv,h.few⟩
abbrev Sv(vs:List Int)(b:Brg):LV:=.ag [wv (mk vs b.inner),wv (mk vs b.ends)]
theorem SE{g:Gr}(hg:GP g){L:List (Int×Int)}{on:List Int}{F:List (List Int)}{S nl pl ll fl:Nat}{le:List (List Int×LV)}{st:St}(hS:ShA g L on F S nl pl ll fl le st){B:List Brg}(hB:Mm g L on=some B)(hBe:∀ b∈B,∀ v∈b.ends,v∈g.vs)(hBl:B.length<=300):
 aB prog 75 [.pt S 0] st fun r st'=>r=.tu [Sv g.vs (cU F B (⟨[],[]⟩,-1)).1,i (cU F B (⟨[],[]⟩,-1)).2]/\st'=st:=by
 refine qT (Q:=fun r=>r=.tu [Sv g.vs (cU F B (⟨[],[]⟩,-1)).1,i (cU F B (⟨[],[]⟩,-1)).2]) ?_ fun r h=>by subst h;exact⟨⟨trivial,trivial,trivial⟩,trivial,trivial⟩
 have h64:=hg.h64;have hz:mk g.vs []=0:=(mk_zero g.vs []).2 fun _ _=>by simp
 have hq:=hS.r.lt;refine zN func75 ntmps75 [.cell 2 121,.tmp 3] ?_
 (repeat' (first|apply qS|(refine zE ?_;intro J hJ;simp[];(try refine zJ hJ ?_))))
 refine qE (Ol hg hS.onv (hS.r.keep ((aA.new _ _).trans (aA.new _ _))) hB) sS ?_;rintro r s1 ⟨rfl,h1⟩;rw[h1];clear h1 s1
 (repeat' (first|apply qB|(apply aF;simp[];refine zJ hJ ?_)))
 have e0:¬st.next=st.next+1:=oO;have ZQ:=Gd g.vs B;have C0:=pO g.vs F;have V2:=hS.few;generalize hCC:cU F B (⟨[],[]⟩,-1)=CC;refine aZ 15 14 16 49 (B.length) (fun j fr st2=>fr 0=.pt S 0/\fr 2=.pt st.next 0/\fr 4=.pt (st.next+1) 0/\fr 13=.sl 0 B.length (nK g.vs B)/\aA st st2/\st.next+1<st2.next/\st2.H st.next=.box 121 2 [wv 0,wv 0]/\∃ Zv at_,fr 5=i at_/\st2.H (st.next+1)=.box 121 2 [wv (mk g.vs Zv.inner),wv (mk g.vs Zv.ends)]/\cU F (B.drop j) (Zv,at_)=CC) ?_ ?_ ?_
 .exact⟨sS,sS,sS,sS,(aA.new _ _).trans (aA.new _ _),sS,by simp[e0],⟨[],[]⟩,-1,sS,by simp[hz],hCC⟩
 .rintro jo fr s GD ⟨f0,f2,f4,f13,hk,Zi,hR,Zv,at_,f5,hB5,r9⟩ fi fn JO hJO;have hd:=Co g.vs B jo GD;have Xq:jo*2<B.length*2:=oO;rw[aAO GD,cU]at r9;have T9:B.getD jo ⟨[],[]⟩=B[jo]:=by rw[aAc,aAd GD];rfl
  have K0:=hBe _ (aAA GD);rw[T9]at hd;generalize B[jo]=b at *;have hSk:=hS.keep hk;obtain⟨Yg,-,-,-,-,p1,p2,p3,p4⟩:=id hSk.r;have hF:=hSk.fac;have hFl:=hSk.flt;have x1:¬S=s.next:=oO;have x2:¬fl=s.next:=oO;have x3:¬st.next=s.next:=oO;have x4:¬st.next+1=s.next:=oO
  (repeat' (first|apply qS|apply qB|(refine zE ?_;intro J hJ;simp[f0,f13,fi,fn,hd,Xq,ZQ,GD,Yg,x1];refine zJ hJ ?_)))
  refine aZ 24 23 25 40 (F.length) (fun j fr st2=>fr 0=.pt S 0/\fr 2=.pt st.next 0/\fr 4=.pt (st.next+1) 0/\fr 13=.sl 0 B.length (nK g.vs B)/\fr 14=i B.length/\fr 15=i jo/\fr 5=i at_/\fr 7=.pt s.next 0/\fr 22=.ms fl 0 F.length/\fr 8=i (gY b (F.zipIdx.take j)).1/\fr 9=i (gY b (F.zipIdx.take j)).2/\aA (s.new (.box 121 2 [wv (mk g.vs b.inner),wv (mk g.vs b.ends)])) st2) ?_ ?_ ?_
  .exact⟨by simp[f0],by simp[f2],by simp[f4],by simp[f13],by simp[fn],by simp[fi],by simp[f5],sS,sS,by simp[gY],by simp[gY],aA.refl _⟩
  .clear f0 f2 f4 f13 f5 fi fn fr;rintro k fr s2 Ze ⟨f0,f2,f4,f13,f14,f15,f5,f7,f22,f8,f9,Xv⟩ fi fn JI hJI;have hn3:=Xv.next;simp only[aJ]at hn3;have E9:s2.H s.next=.box 121 2 [wv (mk g.vs b.inner),wv (mk g.vs b.ends)]:=by rw[Xv.H _ sS];simp
   have hF2:s2.H fl=.box 127 2 (gC g.vs F):=by rw[Xv.H _ (by simp;omega),bX,aAa x2];exact hF
   have hdF:=rN g.vs F k Ze;have YZ:=Hw b F k Ze;have Xm:=Fs b (F.zipIdx.take k);rw[aAq,List.length_zipIdx]at Xm;generalize F.getD k []=rr at *;generalize U8:gY b (F.zipIdx.take k)=pp at *;obtain⟨p1',p2'⟩:=pp;simp only at Xm f8 f9;have hk22:k*2<F.length*2:=oO;have F7:gD .u64 (mk g.vs b.ends) (mk g.vs rr)=mk g.vs (off b.ends rr):=rH g.vs b.ends rr h64;have y1:¬s.next=s2.next:=oO;have y2:¬fl=s2.next:=oO;have hw:=wrap_i64 (p2'+1) oO oO;unfold oM at YZ;by_cases o7:off b.ends rr=[]
   .have hb:((mk g.vs (off b.ends rr):Int) != 0)=false:=by rw[o7,hz];rfl
    rw[aAe o7]at YZ;simp only at YZ;by_cases h0:p2'=0
    .have z8:(p2'==0)=true:=by simpa using h0
     rw[aAe h0]at YZ
     (repeat' (first|apply qS|refine qK (zZ ?_)|(apply qC;simp[f7,f22,f8,f9,fi,fn,hdF,hF2,Ze,hk22,C0,E9,y1,y2,F7,hb,z8,hw])|(refine zE ?_;intro J hJ;simp[f7,f22,f8,f9,fi,fn,hdF,hF2,Ze,hk22,C0,E9,y1,y2,F7,hb,z8,hw];refine zJ hJ ?_)))
     exact hJI _ _ (by simp[fi]) (by simp[fn]) ⟨by simp[f0],by simp[f2],by simp[f4],by simp[f13],by simp[f14],by simp[f15],by simp[f5],by simp[f7],by simp[f22],by rw[YZ];simp,by rw[YZ];simp,Xv.trans (aA.new _ _)⟩
    .have z8:(p2'==0)=false:=by simpa using h0
     rw[aAa h0]at YZ
     (repeat' (first|apply qS|refine qK (zZ ?_)|(apply qC;simp[f7,f22,f8,f9,fi,fn,hdF,hF2,Ze,hk22,C0,E9,y1,y2,F7,hb,z8,hw])|(refine zE ?_;intro J hJ;simp[f7,f22,f8,f9,fi,fn,hdF,hF2,Ze,hk22,C0,E9,y1,y2,F7,hb,z8,hw];refine zJ hJ ?_)))
     exact hJI _ _ (by simp[fi]) (by simp[fn]) ⟨by simp[f0],by simp[f2],by simp[f4],by simp[f13],by simp[f14],by simp[f15],by simp[f5],by simp[f7],by simp[f22],by rw[YZ];simp[f8],by rw[YZ];simp,Xv.trans (aA.new _ _)⟩
   .have hb:((mk g.vs (off b.ends rr):Int) != 0)=true:=by have:mk g.vs (off b.ends rr)≠0:=fun h=>o7 ((Jh K0).1 h);simpa using this
    rw[aAa o7]at YZ
    (repeat' (first|apply qS|refine qX (zZ ?_)|(apply qC;simp[f7,f22,f8,f9,fi,fn,hdF,hF2,Ze,hk22,C0,E9,y1,y2,F7,hb])|(refine zE ?_;intro J hJ;simp[f7,f22,f8,f9,fi,fn,hdF,hF2,Ze,hk22,C0,E9,y1,y2,F7,hb];refine zJ hJ ?_)))
    exact hJI _ _ (by simp[fi]) (by simp[fn]) ⟨by simp[f0],by simp[f2],by simp[f4],by simp[f13],by simp[f14],by simp[f15],by simp[f5],by simp[f7],by simp[f22],by rw[YZ];simp[f8],by rw[YZ];simp[f9],Xv.trans (aA.new _ _)⟩
  .clear f0 f2 f4 f13 f5 fi fn fr;rintro fr s2 ⟨f0,f2,f4,f13,f14,f15,f5,f7,f22,f8,f9,Xv⟩;rw[aAv sS]at f8 f9;have Xm:=Fs b F.zipIdx;generalize U8:gY b F.zipIdx=pp at *;obtain⟨p1',p2'⟩:=pp;simp only at Xm f8 f9 r9;have hn3:=Xv.next;simp only[aJ]at hn3;have E9:s2.H s.next=.box 121 2 [wv (mk g.vs b.inner),wv (mk g.vs b.ends)]:=by rw[Xv.H _ sS];simp
   have L8:s2.H st.next=.box 121 2 [wv 0,wv 0]:=by rw[Xv.H _ (by simp;omega),bX,aAa x3];exact hR
   have I8:s2.H (st.next+1)=.box 121 2 [wv (mk g.vs Zv.inner),wv (mk g.vs Zv.ends)]:=by rw[Xv.H _ (by simp;omega),bX,aAa x4];exact hB5
   have Q6:=(hk.trans (aA.new _ _)).trans Xv;have z1:¬s.next=st.next:=oO;have z2:¬st.next+1=st.next:=oO;by_cases Yi:p2'<=1
   .rw[aAe Yi]at r9;subst r9
    (repeat' (first|apply qS|(refine qR (zZ ?_);simp[f2,f7,f8,f9,Yi,E9,L8,z1])|(apply qC;simp[f2,f7,f8,f9,Yi,E9,L8,z1])|(refine zE ?_;intro J hJ;simp[f2,f7,f8,f9,Yi,E9,L8,z1];refine zJ hJ ?_)))
    exact Q6.set (aAk _) _
   .rw[aAa Yi]at r9;by_cases A5:at_<0
    .rw[aAe A5]at r9
     (repeat' (first|apply qS|refine qK (zZ ?_)|(apply qC;simp[f4,f5,f7,f8,f9,Yi,A5,E9,I8])|(refine zE ?_;intro J hJ;simp[f4,f5,f7,f8,f9,Yi,A5,E9,I8];refine zJ hJ ?_)))
     exact hJO _ _ (by simp[f15]) (by simp[f14]) ⟨by simp[f0],by simp[f2],by simp[f4],by simp[f13],Q6.set oO _,by simp;omega,by(repeat (first|rw[nHh nOo]|rw[sHh oO]|rw[nIi nQq]|rw[sIi oO]));exact L8,b,p1',sS,sS,r9⟩
    .rw[aAa A5]at r9
     (repeat' (first|apply qS|refine qK (zZ ?_)|(apply qC;simp[f4,f5,f7,f8,f9,Yi,A5])|(refine zE ?_;intro J hJ;simp[f4,f5,f7,f8,f9,Yi,A5];refine zJ hJ ?_)))
     exact hJO _ _ (by simp[f15]) (by simp[f14]) ⟨by simp[f0],by simp[f2],by simp[f4],by simp[f13],Q6,oO,L8,Zv,at_,by simp[f5],I8,r9⟩
 .rintro fr s ⟨f0,f2,f4,f13,hk,Zi,hR,Zv,at_,f5,hB5,r9⟩;rw[List.drop_length,cU]at r9;subst r9;have z1:¬st.next+1=st.next:=oO
  (repeat' (first|apply qS|(refine qR (zZ ?_);simp[f2,f4,f5,hB5,hR,z1])|(refine zE ?_;intro J hJ;simp[f2,f4,f5,hB5,hR,z1];refine zJ hJ ?_)))
  exact hk.set (aAk _) _
theorem zD{α:Type}(f:α->Int):∀ {a b:List α},(a.map f).Pairwise (· < ·)->(b.map f).Pairwise (· < ·)->(∀ x,x∈a↔x∈b)->a=b
 |[],[],_,_,_=>rfl
 |[],y::b,_,_,h=>by have:=(h y).2 sS;simp at this
 |x::a,[],_,_,h=>by have:=(h x).1 sS;simp at this
 |x::a,y::b,ha,hb,h=>by
  simp only[aAi,aBg,aAm,forall_exists_index,and_imp,forall_apply_eq_imp_iff₂]at ha hb;have YK:x=y:=by
   rcases aAf.1 ((h x).1 sS)with h1|h1
   .exact h1
   .rcases aAf.1 ((h y).2 sS)with h2|h2
    .exact h2.symm
    .have:=ha.1 y h2;have:=hb.1 x h1;omega
  subst YK
  congr 1
  refine zD f ha.2 hb.2 fun z=>?_;have hz:=h z;rw[aAf,aAf]at hz;constructor
  .intro hza;rcases hz.1 (.inr hza)with h1|h1
   .subst h1;have:=ha.1 z hza;omega
   .exact h1
  .intro hzb;rcases hz.2 (.inr hzb)with h1|h1
   .subst h1;have:=hb.1 z hzb;omega
   .exact h1
section
variable {α:Type} (f:α->Int)
end
end Aw
end Go.Proofs.YtempldclppogmaaGreatDoor
