/- A graph that may be, in words. No program. -/
import Derived.Test.YtempldclppogmaaGreatDoorJb
import Derived.Test.YtempldclppogmaaGreatDoorAwSet
import Derived.Lib.TrailingZeros
import Derived.Test.YtempldclppogmaaGreatDoorAwTd
import Derived.Test.YtempldclppogmaaGreatDoorAwZ
import Derived.Test.YtempldclppogmaaGreatDoorAwRg
import Derived.Test.YtempldclppogmaaGreatDoorAwMr5
import Derived.Test.YtempldclppogmaaGreatDoorAwFn
import Derived.Laws.Bits64b
import Derived.Test.YtempldclppogmaaGreatDoorAwShp
set_option linter.unusedVariables false
set_option linter.unusedSimpArgs false
namespace Go.Proofs.YtempldclppogmaaGreatDoor.Aw
open Go Go.RowKit Go.Proofs.YtempldclppogmaaGreatDoor.Pl
structure GrF(g:Gr):Prop where
 rise:g.vs.Pairwise (· < ·)
 vpos:∀ v∈g.vs,1≤v∧v≤1048576
 ids:g.es.Pairwise fun x y=>x.id<y.id
 pos:∀ x∈g.es,1≤x.id∧x.id≤1048576
 ne:∀ x∈g.es,x.a≠x.b
 ends:∀ x∈g.es,x.a∈g.vs∧x.b∈g.vs
 l1:g.vs.length≤64
 l2:g.es.length≤160
theorem aIZ{f:Nat→Int}{n:Nat}(h:bL f n=0):∀ j,j<n→f j=0:=by
 induction n with
 |zero=>intro j hj;omega
 |succ n ih=>
  intro j hj
  simp only[bL]at h
  by_cases h0:bL f n=0
  ·rw[if_neg (by simp[h0])]at h
   rcases Nat.lt_or_ge j n with h1|h1
   ·exact ih h0 j h1
   ·obtain rfl:j=n:=by omega
    exact h
  ·rw[if_pos h0]at h;exact absurd h h0
theorem oE(n a:Int)(b:Bool):dI n a b=0↔(1≤n∧n≤1048576)∧(b=false→a<n):=by
 unfold dI
 by_cases h1:n<1∨1048576<n
 ·rw[if_pos h1]
  constructor
  ·intro h;cases h
  ·rintro⟨h,_⟩;omega
 ·rw[if_neg h1]
  by_cases h2:b=false∧n≤a
  ·rw[if_pos h2]
   constructor
   ·intro h;cases h
   ·rintro⟨_,h⟩;have:=h h2.1;omega
  ·rw[if_neg h2]
   refine⟨fun _=>⟨by omega,fun hb=>?_⟩,fun _=>rfl⟩
   rcases Int.lt_or_le a n with h3|h3
   ·exact h3
   ·exact absurd ⟨hb,h3⟩ h2
theorem aAn{l:List Int}(h:∀ j,j<l.length→0<j→l.getD (j-1) 0<l.getD j 0):l.Pairwise (· < ·):=by
 have g:∀ j (hj:j<l.length),l.getD j 0=l[j]:=fun j hj=>by rw[List.getD_eq_getElem?_getD,List.getElem?_eq_getElem hj];rfl
 rw[List.pairwise_iff_getElem]
 intro a b ha hb hab
 induction b with
 |zero=>omega
 |succ b ih=>
  have h1:=h (b+1) hb (by omega)
  rw[Nat.add_sub_cancel,g _ hb,g _ (by omega)]at h1
  rcases Nat.lt_or_ge a b with h2|h2
  ·have:=ih (by omega) h2;omega
  ·obtain rfl:a=b:=by omega
   exact h1
theorem gE(l:List Ed)(j:Nat)(hj:j<l.length):l.getD j ed0=l[j]:=by
 rw[List.getD_eq_getElem?_getD,List.getElem?_eq_getElem hj];rfl
theorem aGZ(g:Gr)(j:Nat)(x:Ed)(hx:g.es.getD j ed0=x):iN g j=0↔((1≤x.id∧x.id≤1048576)∧(0<j→(g.es.getD (j-1) ed0).id<x.id))∧x.a≠x.b∧x.a∈g.vs∧x.b∈g.vs:=by
 unfold iN
 simp only[hx]
 have h0:=oE x.id (g.es.getD (j-1) ed0).id (decide (j=0))
 have hj:(decide (j=0)=false)↔0<j:=by simp;omega
 rw[hj]at h0
 by_cases h1:dI x.id (g.es.getD (j-1) ed0).id (decide (j=0))=0
 ·rw[if_neg (fun h=>h h1)]
  have h1':=h0.1 h1
  by_cases h2:x.a=x.b
  ·rw[if_pos h2]
   constructor
   ·intro h;cases h
   ·rintro⟨_,h,_⟩;exact absurd h2 h
  ·rw[if_neg h2]
   by_cases h3:x.a∉g.vs∨x.b∉g.vs
   ·rw[if_pos h3]
    constructor
    ·intro h;cases h
    ·rintro⟨_,_,h,h'⟩
     rcases h3 with h3|h3
     ·exact absurd h h3
     ·exact absurd h' h3
   ·rw[if_neg h3]
    exact⟨fun _=>⟨h1',h2,Classical.byContradiction fun h=>h3 (.inl h),Classical.byContradiction fun h=>h3 (.inr h)⟩,fun _=>rfl⟩
 ·rw[if_pos h1]
  constructor
  ·intro h;exact absurd h h1
  ·rintro⟨h,_⟩;exact absurd (h0.2 h) h1
theorem xM{g:Gr}(h:chk g=0):GrF g:=by
 unfold chk at h
 by_cases h1:64<g.vs.length∨160<g.es.length
 ·rw[if_pos h1]at h;cases h
 rw[if_neg h1]at h
 by_cases h2:bL (iI g) g.vs.length=0
 rotate_left
 ·rw[if_pos h2]at h;exact absurd h h2
 rw[if_neg (by simp[h2])]at h
 have gI:∀ j (hj:j<g.vs.length),g.vs.getD j 0=g.vs[j]:=fun j hj=>by rw[List.getD_eq_getElem?_getD,List.getElem?_eq_getElem hj];rfl
 have hV:=fun j hj=>(oE _ _ _).1 (aIZ h2 j hj)
 have hE:=fun j hj=>(aGZ g j _ rfl).1 (aIZ h j hj)
 have hin:∀ x∈g.es,∃ j,j<g.es.length∧g.es.getD j ed0=x:=fun x hx=>by
  obtain⟨j,hj,rfl⟩:=List.getElem_of_mem hx
  exact⟨j,hj,gE _ _ hj⟩
 refine⟨aAn fun j hj h0=>(hV j hj).2 (by simp;omega),fun v hv=>?_,?_,fun x hx=>?_,fun x hx=>?_,fun x hx=>?_,by omega,by omega⟩
 ·obtain⟨j,hj,rfl⟩:=List.getElem_of_mem hv
  rw[← gI j hj];exact(hV j hj).1
 ·have:=aAn (l:=g.es.map (·.id)) fun j hj h0=>by
   rw[List.length_map]at hj
   have:=(hE j hj).1.2 h0
   rw[gE _ _ hj,gE _ _ (by omega)]at this
   rw[List.getD_eq_getElem?_getD,List.getElem?_eq_getElem (by simp;omega),List.getD_eq_getElem?_getD,List.getElem?_eq_getElem (by simp;omega)]
   simpa using this
  rwa [List.pairwise_map]at this
 ·obtain⟨j,hj,rfl⟩:=hin x hx;exact(hE j hj).1.1
 ·obtain⟨j,hj,rfl⟩:=hin x hx;exact(hE j hj).2.1
 ·obtain⟨j,hj,rfl⟩:=hin x hx;exact(hE j hj).2.2
def bG(es:List Ed)(d:Int):Int:=match es.find? (fun x=>decide (x.id=d / 2)) with
 |some x=>if d % 2=0 then x.a else x.b
 |none=>0
theorem iJ{es:List Ed}(h:es.Pairwise (fun x y=>x.id<y.id)){d v:Int}(hd:d∈ends es v):bG es d=v:=by
 obtain⟨x,hx,hxd⟩:=dJ.1 hd
 have hi:x.id=d / 2:=by rcases hxd with⟨_,h⟩|⟨_,h⟩<;>omega
 unfold bG
 cases hf:es.find? (fun x=>decide (x.id=d / 2)) with
 |none=>exact absurd hi (by simpa using List.find?_eq_none.1 hf x hx)
 |some y=>
  have h1:=List.mem_of_find?_eq_some hf
  have h2:y.id=d / 2:=by simpa using List.find?_some hf
  obtain rfl:=id_eq h h1 hx (h2.trans hi.symm)
  simp only
  rcases hxd with⟨rfl,h3⟩|⟨rfl,h3⟩
  ·rw[if_pos (by omega)]
  ·rw[if_neg (by omega)]
theorem nJ{es:List Ed}(h:es.Pairwise (fun x y=>x.id<y.id)){d:Int}(hd:d∈bP es):d∈ends es (bG es d):=by
 obtain⟨v,hv,_⟩:=aLw hd
 rw[iJ h hv];exact hv
def tY(l:List Int)(t:Int):Int:=if l.getD 0 0=t then l.getD 1 0 else l.getD 0 0
theorem aDc{l:List Int}(hn:l.Nodup)(hl:l.length=2){t:Int}(ht:t∈l):tY l t∈l∧tY l (tY l t)=t:=by
 match l,hl with
 |[p,q],_=>
  have hpq:p≠q:=by rintro rfl;simp at hn
  simp only[List.mem_cons,List.not_mem_nil,or_false]at ht
  rcases ht with rfl|rfl
  ·simp only[tY,List.getD_cons_zero,List.getD_cons_succ,if_pos];rw[if_neg hpq];simp
  ·simp[tY,hpq]
def pU(es:List Ed)(d:Int):Int:=tY (ends es (bG es (tw d))) (tw d)
def fU(es:List Ed)(d:Int):Bool:=decide ((ends es (bG es (tw d))).length=2)
def cF(es:List Ed):Nat→Int→Int
 |0,d=>d
 |n+1,d=>pU es (cF es n d)
theorem lR(es:List Ed):∀ n d,cF es n (pU es d)=cF es (n+1) d
 |0,_=>rfl
 |n+1,d=>by simp only[cF];rw[lR es n d];rfl
section
variable {es:List Ed} (h:es.Pairwise fun x y=>x.id<y.id)
include h
theorem aFU{d:Int}(hd:d∈bP es)(hg:fU es d=true):pU es d∈ends es (bG es (tw d)):=
 (aDc (lB (nF h _)) (of_decide_eq_true hg) (nJ h (pY.2 hd))).1
theorem aIP{d:Int}(hd:d∈bP es)(hg:fU es d=true):pU es d∈bP es:=nU (aFU h hd hg)
theorem aBv{d:Int}(hd:d∈bP es)(hg:fU es d=true):bG es (pU es d)=bG es (tw d):=iJ h (aFU h hd hg)
theorem wI{d:Int}(hd:d∈bP es)(hg:fU es d=true):pU es (tw (pU es d))=tw d:=by
 have h1:=(aDc (lB (nF h _)) (of_decide_eq_true hg) (nJ h (pY.2 hd))).2
 have h2:=aBv h hd hg
 unfold pU at h2 ⊢
 rw[aGr,h2,h1]
theorem aLv{d:Int}(hd:d∈bP es)(hg:fU es d=true):fU es (tw (pU es d))=true:=by
 unfold fU
 rw[aGr,aBv h hd hg]
 exact hg
theorem nV{d:Int}(hd:d∈bP es):∀ n,(∀ i,i<n→fU es (cF es i d)=true)→cF es n d∈bP es
 |0,_=>hd
 |n+1,hg=>aIP h (nV hd n fun i hi=>hg i (by omega)) (hg n (by omega))
theorem aAk{d:Int}(hd:d∈bP es)(h2:(ends es (bG es d)).length≠2){n:Nat}(hg:∀ i,i<n→fU es (cF es i d)=true):∀ i j,i<j→j≤n→cF es i d≠cF es j d
 |0,j+1,_,hj=>by
  intro he
  have h1:=aBv h (nV h hd j fun i hi=>hg i (by omega)) (hg j (by omega))
  change d=pU es (cF es j d)at he
  rw[← he]at h1
  rw[h1]at h2
  exact h2 (of_decide_eq_true (hg j (by omega)))
 |i+1,j+1,hij,hj=>by
  intro he
  have h1:=wI h (nV h hd i fun k hk=>hg k (by omega)) (hg i (by omega))
  have h3:=wI h (nV h hd j fun k hk=>hg k (by omega)) (hg j (by omega))
  change pU es (cF es i d)=pU es (cF es j d)at he
  rw[he,h3]at h1
  have h4:=congrArg tw h1
  rw[aGr,aGr]at h4
  exact aAk hd h2 hg i j (by omega) (by omega) h4.symm
theorem aJM{d:Int}(hd:d∈bP es)(h2:(ends es (bG es d)).length≠2){n:Nat}(hg:∀ i,i<n→fU es (cF es i d)=true):n+1≤2*es.length:=by
 have h1:((List.range (n+1)).map fun i=>cF es i d).Nodup:=by
  rw[List.Nodup,List.pairwise_map]
  refine List.pairwise_lt_range.imp_of_mem fun {a b} ha hb hab=>aAk h hd h2 hg a b hab (by have:=List.mem_range.1 hb;omega)
 have h3:∀ x∈(List.range (n+1)).map fun i=>cF es i d,x∈bP es:=by
  intro x hx
  obtain⟨i,hi,rfl⟩:=List.mem_map.1 hx
  exact nV h hd i fun k hk=>hg k (by have:=List.mem_range.1 hi;omega)
 have h4:=List.Nodup.length_le_of_subset h1 h3
 rw[List.length_map,List.length_range,aBP]at h4
 exact h4
end
def dS(es:List Ed):Nat→Int→Option (List Int)
 |0,_=>none
 |n+1,d=>if fU es d=true then(dS es n (pU es d)).map (d::·)else some [d]
theorem yR{es:List Ed}:∀ {n d},dS es n d=none→∀ i,i<n→fU es (cF es i d)=true
 |0,_,_,i,hi=>by omega
 |n+1,d,ht,i,hi=>by
  unfold dS at ht
  split at ht
  ·rename_i hg
   rw[Option.map_eq_none_iff]at ht
   cases i with
   |zero=>exact hg
   |succ i=>rw[← lR];exact yR ht i (by omega)
  ·cases ht
theorem wR{es:List Ed}:∀ {n d l},dS es n d=some l→∃ k,k<n∧l=((List.range (k+1)).map fun i=>cF es i d)∧(∀ i,i<k→fU es (cF es i d)=true)∧fU es (cF es k d)=false
 |0,_,_,ht=>by cases ht
 |n+1,d,l,ht=>by
  unfold dS at ht
  split at ht
  ·rename_i hg
   obtain⟨l',h1,rfl⟩:=Option.map_eq_some_iff.1 ht
   obtain⟨k,h2,rfl,h3,h4⟩:=wR h1
   refine⟨k+1,by omega,?_,fun i hi=>?_,by rw[← lR];exact h4⟩
   ·rw[List.range_succ_eq_map (n:=k+1),List.map_cons,List.map_map]
    congr 1
    refine List.map_congr_left fun i _=>?_
    simp only[Function.comp]
    rw[lR]
   ·cases i with
    |zero=>exact hg
    |succ i=>rw[← lR];exact h3 i (by omega)
  ·rename_i hg
   injection ht with ht
   subst ht
   exact⟨0,by omega,rfl,fun i hi=>by omega,by simpa[cF]using hg⟩
theorem aCX{es:List Ed}:∀ {k n d},k<n→(∀ i,i<k→fU es (cF es i d)=true)→fU es (cF es k d)=false→dS es n d=some ((List.range (k+1)).map fun i=>cF es i d)
 |0,n+1,d,_,_,h3=>by
  unfold dS
  change fU es d=false at h3
  rw[if_neg (by simp[h3])];rfl
 |k+1,n+1,d,h1,h2,h3=>by
  unfold dS
  rw[if_pos (show fU es d=true from h2 0 (by omega)),aCX (k:=k) (by omega) (fun i hi=>by rw[lR];exact h2 (i+1) (by omega)) (by rw[lR];exact h3)]
  rw[Option.map_some,List.range_succ_eq_map (n:=k+1),List.map_cons,List.map_map]
  congr 2
  refine List.map_congr_left fun i _=>?_
  simp only[Function.comp]
  rw[lR]
structure eH(es:List Ed)(d:Int)(k:Nat):Prop where
 dart:d∈bP es
 two:(ends es (bG es d)).length≠2
 go:∀ i,i<k→fU es (cF es i d)=true
 stop:fU es (cF es k d)=false
section
variable {es:List Ed} (h:es.Pairwise fun x y=>x.id<y.id)
include h
theorem aKn{d:Int}(hd:d∈bP es)(h2:(ends es (bG es d)).length≠2):∃ k,eH es d k:=by
 cases ht:dS es (2*es.length) d with
 |none=>have:=aJM h hd h2 (yR ht);omega
 |some l=>
  obtain⟨k,_,_,h3,h4⟩:=wR ht
  exact⟨k,hd,h2,h3,h4⟩
theorem eH.lt{d:Int}{k:Nat}(ht:eH es d k):k<2*es.length:=aJM h ht.dart ht.two ht.go
theorem eH.dS{d:Int}{k:Nat}(ht:eH es d k):dS es (2*es.length) d=some ((List.range (k+1)).map fun i=>cF es i d):=aCX (ht.lt h) ht.go ht.stop
theorem eH.bP{d:Int}{k:Nat}(ht:eH es d k){i:Nat}(hi:i≤k):cF es i d∈bP es:=nV h ht.dart i fun j hj=>ht.go j (by omega)
theorem eH.rev_it{d:Int}{k:Nat}(ht:eH es d k):∀ i,i≤k→cF es i (tw (cF es k d))=tw (cF es (k-i) d)
 |0,_=>by rw[Nat.sub_zero];rfl
 |i+1,hi=>by
  simp only[cF]
  rw[ht.rev_it i (by omega),show k-i=(k-(i+1))+1 by omega]
  exact wI h (ht.bP h (by omega)) (ht.go _ (by omega))
theorem eH.rev{d:Int}{k:Nat}(ht:eH es d k):eH es (tw (cF es k d)) k:=by
 refine⟨pY.2 (ht.bP h (Nat.le_refl _)),?_,fun i hi=>?_,?_⟩
 ·have:=ht.stop
  simpa[fU]using this
 ·rw[ht.rev_it h i (by omega),show k-i=(k-i-1)+1 by omega]
  exact aLv h (ht.bP h (by omega)) (ht.go _ (by omega))
 ·rw[ht.rev_it h k (Nat.le_refl _),Nat.sub_self]
  simpa[fU,cF,aGr]using ht.two
omit h in
end
def eR(es:List Ed)(d:Int):List Int:=match dS es (2*es.length) d with
 |some l=>bG es d::l.map fun e=>bG es (tw e)
 |none=>[]
def xC:List Bool→Nat
 |[]=>0
 |b::l=>(if b then 1 else 0)+2*xC l
theorem aDw:∀(l:List Bool) (i:Nat),(xC l).testBit i=l.getD i false
 |[],i=>by simp[xC]
 |b::l,0=>by
  rw[xC,Nat.testBit_zero]
  cases b<;>simp<;>omega
 |b::l,i+1=>by
  rw[xC,Nat.testBit_succ]
  have:((if b then 1 else 0)+2*xC l) / 2=xC l:=by cases b<;>simp<;>omega
  rw[this,aDw l i];simp
theorem aFG:∀ l:List Bool,xC l<2 ^ l.length
 |[]=>by simp[xC]
 |b::l=>by
  have:=aFG l
  rw[xC,List.length_cons,Nat.pow_succ]
  cases b<;>simp<;>omega
def mk(vs S:List Int):Nat:=xC (vs.map fun v=>decide (v∈S))
theorem dK(vs S:List Int)(i:Nat):(mk vs S).testBit i=(decide (i<vs.length)&&decide (vs.getD i 0∈S)):=by
 unfold mk
 rw[aDw,List.getD_eq_getElem?_getD,List.getElem?_map]
 by_cases h:i<vs.length
 ·rw[List.getElem?_eq_getElem h,List.getD_eq_getElem?_getD,List.getElem?_eq_getElem h];simp[h]
 ·rw[List.getElem?_eq_none (by omega)];simp[h]
theorem jT(vs S:List Int)(h:vs.length≤64):mk vs S<18446744073709551616:=by
 have h1:=aFG (vs.map fun v=>decide (v∈S))
 rw[List.length_map]at h1
 exact Nat.lt_of_lt_of_le h1 (by
  have:=Nat.pow_le_pow_right (show 0<2 by decide) h
  exact this)
theorem mk_congr{vs A B:List Int}(h:∀ v∈vs,(v∈A↔v∈B)):mk vs A=mk vs B:=by
 unfold mk
 congr 1
 exact List.map_congr_left fun v hv=>by simp[h v hv]
theorem aMZ{vs A B:List Int}(h:mk vs A=mk vs B):∀ v∈vs,(v∈A↔v∈B):=fun v hv=>by
 obtain⟨i,hi,rfl⟩:=List.getElem_of_mem hv
 have h1:=dK vs A i
 rw[h,dK vs B i]at h1
 simpa[hi]using h1.symm
theorem mk_zero(vs A:List Int):mk vs A=0↔∀ v∈vs,v∉A:=by
 have e:mk vs []=0:=by
  apply Nat.eq_of_testBit_eq
  intro i
  rw[dK];simp
 constructor
 ·intro h v hv hA
  have:=(aMZ (h.trans e.symm) v hv).1 hA
  simp at this
 ·intro h
  rw[← e]
  exact mk_congr fun v hv=>by simp[h v hv]
theorem aMA(a b:Nat)(ha:a<18446744073709551616)(hb:b<18446744073709551616):gor .u64 (a:Int) (b:Int)=((a ||| b:Nat):Int):=by
 have hx:a ||| b<2 ^ 64:=Nat.or_lt_two_pow (by omega) (by omega)
 unfold gor
 simp only[show IntKind.u64.bits=64 from rfl,BitVec.ofInt_natCast,BitVec.toNat_or,BitVec.toNat_ofNat,Nat.mod_eq_of_lt ha,Nat.mod_eq_of_lt hb]
 rw[IntKind.wrap_u64]
 omega
theorem yO(a b:Nat)(ha:a<18446744073709551616)(hb:b<18446744073709551616):yM .u64 (a:Int) (b:Int)=((a &&& b:Nat):Int):=by
 have hx:a &&& b<2 ^ 64:=Nat.and_lt_two_pow _ (by omega)
 unfold yM
 simp only[show IntKind.u64.bits=64 from rfl,BitVec.ofInt_natCast,BitVec.toNat_and,BitVec.toNat_ofNat,Nat.mod_eq_of_lt ha,Nat.mod_eq_of_lt hb]
 rw[IntKind.wrap_u64]
 omega
theorem aDS(a b:Nat)(ha:a<18446744073709551616)(hb:b<18446744073709551616):eV .u64 (a:Int) (b:Int)=((a &&& (2 ^ 64-(b+1)):Nat):Int):=by
 have hx:a &&& (2 ^ 64-(b+1))<2 ^ 64:=Nat.and_lt_two_pow _ (by omega)
 unfold eV
 simp only[show IntKind.u64.bits=64 from rfl,BitVec.ofInt_natCast,BitVec.toNat_and,BitVec.toNat_not,BitVec.toNat_ofNat,Nat.mod_eq_of_lt ha,Nat.mod_eq_of_lt hb]
 rw[show 2 ^ 64-1-b=2 ^ 64-(b+1) by omega,IntKind.wrap_u64]
 omega
theorem yQ(vs A B:List Int)(h:vs.length≤64):gor .u64 (mk vs A) (mk vs B)=mk vs (A++B):=by
 rw[aMA _ _ (jT vs A h) (jT vs B h)]
 congr 1
 apply Nat.eq_of_testBit_eq
 intro i
 rw[Nat.testBit_or,dK,dK,dK]
 simp only[List.mem_append,Bool.decide_or]
 cases decide (i<vs.length)<;>simp
theorem aIV(vs A B:List Int)(h:vs.length≤64):yM .u64 (mk vs A) (mk vs B)=mk vs (A.filter fun v=>decide (v∈B)):=by
 rw[yO _ _ (jT vs A h) (jT vs B h)]
 congr 1
 apply Nat.eq_of_testBit_eq
 intro i
 rw[Nat.testBit_and,dK,dK,dK]
 simp only[List.mem_filter,decide_eq_true_iff,Bool.decide_and]
 cases decide (i<vs.length)<;>simp
theorem nE(vs A B:List Int)(h:vs.length≤64):eV .u64 (mk vs A) (mk vs B)=mk vs (A.filter fun v=>!decide (v∈B)):=by
 rw[aDS _ _ (jT vs A h) (jT vs B h)]
 congr 1
 apply Nat.eq_of_testBit_eq
 intro i
 rw[Nat.testBit_and,Nat.testBit_two_pow_sub_succ (jT vs B h),dK,dK,dK]
 by_cases hi:i<vs.length
 ·have:i<64:=by omega
  simp only[hi,this,decide_true,Bool.true_and]
  by_cases h1:vs.getD i 0∈A<;>by_cases h2:vs.getD i 0∈B<;>simp[List.mem_filter,h1,h2]
 ·simp[hi]
def fst'(vs S:List Int):Nat:=vs.findIdx fun v=>decide (v∈S)
theorem aGX{x k:Nat}(h1:x.testBit k=true)(h2:∀ j,j<k→x.testBit j=false):∃ m,x=2 ^ k*(2*m+1):=by
 induction k generalizing x with
 |zero=>
  rw[Nat.testBit_zero]at h1
  simp only[decide_eq_true_eq]at h1
  exact⟨x / 2,by simp;omega⟩
 |succ k ih=>
  have h0:=h2 0 (by omega)
  rw[Nat.testBit_zero]at h0
  simp only[decide_eq_false_iff_not]at h0
  rw[Nat.testBit_succ]at h1
  obtain⟨m,hm⟩:=ih h1 fun j hj=>by rw[← Nat.testBit_succ];exact h2 (j+1) (by omega)
  refine⟨m,?_⟩
  have e:x=2*(x / 2):=by omega
  rw[Nat.pow_succ,Nat.mul_assoc,Nat.mul_comm 2,← Nat.mul_assoc,← hm]
  omega
theorem yU{vs S:List Int}(h:fst' vs S<vs.length):∃ m,mk vs S=2 ^ fst' vs S*(2*m+1):=by
 have hp:decide (vs[fst' vs S]∈S)=true:=List.findIdx_getElem (w:=h)
 refine aGX ?_ fun j hj=>?_
 ·rw[dK,List.getD_eq_getElem?_getD,List.getElem?_eq_getElem h];simpa[h]using hp
 ·rw[dK]
  have hjl:j<vs.length:=by omega
  have:=List.not_of_lt_findIdx hj
  rw[List.getD_eq_getElem?_getD,List.getElem?_eq_getElem hjl]
  simpa[hjl]using this
theorem aCJ{a b m n:Nat}(h:2 ^ a*(2*m+1)=2 ^ b*(2*n+1)):a=b:=by
 induction a generalizing b with
 |zero=>
  cases b with
  |zero=>rfl
  |succ b=>
   rw[Nat.pow_succ]at h
   simp at h
   have:2 ^ b*2*(2*n+1)=2*(2 ^ b*(2*n+1)):=by rw[Nat.mul_comm (2 ^ b) 2,Nat.mul_assoc]
   omega
 |succ a ih=>
  cases b with
  |zero=>
   rw[Nat.pow_succ]at h
   simp at h
   have:2 ^ a*2*(2*m+1)=2*(2 ^ a*(2*m+1)):=by rw[Nat.mul_comm (2 ^ a) 2,Nat.mul_assoc]
   omega
  |succ b=>
   rw[Nat.pow_succ,Nat.pow_succ,Nat.mul_comm (2 ^ a) 2,Nat.mul_comm (2 ^ b) 2,Nat.mul_assoc,Nat.mul_assoc]at h
   rw[ih (Nat.eq_of_mul_eq_mul_left (by decide) h)]
theorem aBB{vs S:List Int}(h64:vs.length≤64)(h:fst' vs S<vs.length):Lib.ctz 64 (mk vs S)=fst' vs S:=by
 obtain⟨m,hm⟩:=yU h
 have hlt:=jT vs S h64
 have h0:mk vs S≠0:=by rw[hm];exact Nat.mul_ne_zero (by exact Nat.pos_iff_ne_zero.1 (Nat.two_pow_pos _)) (by omega)
 have e:Lib.ctz 64 (mk vs S)=Lib.ctzFrom 64 (mk vs S):=by simp[Lib.ctz,h0]
 obtain⟨n,hn,_⟩:=Lib.ctzFrom_spec 64 (mk vs S) (by omega) hlt
 rw[e]
 exact aCJ (hn.symm.trans hm)
theorem aAS{vs S:List Int}(h:fst' vs S<vs.length):mk vs S≠0:=by
 obtain⟨m,hm⟩:=yU h
 rw[hm];exact Nat.mul_ne_zero (Nat.pos_iff_ne_zero.1 (Nat.two_pow_pos _)) (by omega)
theorem aNL{vs S:List Int}:fst' vs S<vs.length↔∃ v∈vs,v∈S:=by
 unfold fst';rw[List.findIdx_lt_length];simp
theorem aMk{vs S:List Int}(h:fst' vs S<vs.length):vs.getD (fst' vs S) 0∈S∧vs.getD (fst' vs S) 0∈vs:=by
 have hp:decide (vs[fst' vs S]∈S)=true:=List.findIdx_getElem (w:=h)
 have e:vs.getD (fst' vs S) 0=vs[fst' vs S]:=by rw[List.getD_eq_getElem?_getD,List.getElem?_eq_getElem h];rfl
 rw[e]
 exact⟨by simpa using hp,List.getElem_mem _⟩
theorem aAV{vs:List Int}(hn:vs.Nodup){i j:Nat}(hi:i<vs.length)(hj:j<vs.length):vs[i]=vs[j]↔i=j:=by
 constructor
 ·intro e
  refine Classical.byContradiction fun hne=>?_
  rcases Nat.lt_or_gt_of_ne hne with h|h
  ·exact List.pairwise_iff_getElem.1 hn i j hi hj h e
  ·exact List.pairwise_iff_getElem.1 hn j i hj hi h e.symm
 ·intro e;subst e;rfl
theorem mk_one{vs:List Int}(hn:vs.Nodup){k:Nat}(hk:k<vs.length):mk vs [vs.getD k 0]=2 ^ k:=by
 apply Nat.eq_of_testBit_eq
 intro i
 rw[dK,Nat.testBit_two_pow]
 by_cases hi:i<vs.length
 ·rw[List.getD_eq_getElem?_getD,List.getD_eq_getElem?_getD,List.getElem?_eq_getElem hi,List.getElem?_eq_getElem hk]
  simp only[hi,decide_true,Bool.true_and,Option.getD_some,List.mem_singleton,aAV hn hi hk]
  by_cases e:i=k
  ·simp[e]
  ·have e2:¬k=i:=fun h=>e h.symm
   simp[e,e2]
 ·simp only[hi,decide_false,Bool.false_and]
  have:¬k=i:=by omega
  simp[this]
theorem aNM{vs S:List Int}(h64:vs.length≤64)(hn:vs.Nodup)(h:fst' vs S<vs.length):yM .u64 (mk vs S) (IntKind.u64.wrap (0-(mk vs S:Int)))=mk vs [vs.getD (fst' vs S) 0]:=by
 have hlt:=jT vs S h64
 have h0:=aAS h
 have e1:IntKind.u64.wrap (0-(mk vs S:Int))=((18446744073709551616-mk vs S:Nat):Int):=by rw[IntKind.wrap_u64];omega
 rw[e1,yO _ _ hlt (by omega),mk_one hn h]
 have:=(Lib.lowest_bit 64 (mk vs S) h0 hlt).1
 rw[aBB h64 h]at this
 rw[← this]
theorem aDl(k m:Nat):(2 ^ k*(2*m+1)) &&& (2 ^ k*(2*m+1)-1)=2 ^ k*(2*m):=by
 have hp:=Nat.two_pow_pos k
 have e:2 ^ k*(2*m+1)-1=2 ^ k*(2*m)+(2 ^ k-1):=by
  rw[Nat.mul_add,Nat.mul_one];omega
 rw[e]
 apply Nat.eq_of_testBit_eq
 intro i
 rw[Nat.testBit_and,Nat.testBit_two_pow_mul_add _ (show 2 ^ k-1<2 ^ k by omega)]
 rw[Nat.mul_comm (2 ^ k),Nat.mul_comm (2 ^ k),Nat.testBit_mul_two_pow,Nat.testBit_mul_two_pow]
 by_cases hik:i<k
 ·have h1:¬k≤i:=by omega
  simp[hik,h1]
 ·have h1:k≤i:=by omega
  simp only[hik,h1,decide_true,Bool.true_and,if_false]
  cases hj:i-k with
  |zero=>simp[Nat.testBit_zero]
  |succ j=>
   rw[Nat.testBit_succ,Nat.testBit_succ]
   have d1:(2*m+1) / 2=m:=by omega
   have d2:2*m / 2=m:=by omega
   rw[d1,d2];simp
theorem aFu{vs S:List Int}(h64:vs.length≤64)(hn:vs.Nodup)(h:fst' vs S<vs.length):yM .u64 (mk vs S) (IntKind.u64.wrap ((mk vs S:Int)-1))=mk vs (S.filter fun w=>decide (w≠vs.getD (fst' vs S) 0)):=by
 have hlt:=jT vs S h64
 have h0:=aAS h
 have e1:IntKind.u64.wrap ((mk vs S:Int)-1)=((mk vs S-1:Nat):Int):=by rw[IntKind.wrap_u64];omega
 rw[e1,yO _ _ hlt (by omega)]
 congr 1
 obtain⟨m,hm⟩:=yU h
 have h2:mk vs S &&& (mk vs S-1)=mk vs S-2 ^ fst' vs S:=by
  rw[hm,aDl,Nat.mul_add (2 ^ _) (2*m) 1,Nat.mul_one];omega
 apply Nat.eq_of_testBit_eq
 intro i
 have hb:mk vs S &&& (mk vs S-1)=2 ^ fst' vs S*(2*m):=by rw[hm,aDl]
 have hS:(mk vs S).testBit i=(2 ^ fst' vs S*(2*m+1)).testBit i:=by rw[← hm]
 rw[hb,dK]
 rw[dK,Nat.mul_comm (2 ^ _),Nat.testBit_mul_two_pow]at hS
 rw[Nat.mul_comm (2 ^ _),Nat.testBit_mul_two_pow]
 by_cases e:i=fst' vs S
 ·rw[e]
  simp only[Nat.le_refl,decide_true,Nat.sub_self,Nat.testBit_zero,List.mem_filter,decide_eq_true_iff,Bool.true_and,ne_eq,not_true_eq_false,and_false,decide_false,Bool.and_false]
  have:2*m % 2=0:=by omega
  simp[this]
 ·have hv:i<vs.length→vs.getD i 0≠vs.getD (fst' vs S) 0:=fun hi=>by
   rw[List.getD_eq_getElem?_getD,List.getD_eq_getElem?_getD,List.getElem?_eq_getElem hi,List.getElem?_eq_getElem h]
   simpa[aAV hn hi h]using e
  have h3:(2*m).testBit (i-fst' vs S)=(2*m+1).testBit (i-fst' vs S)∨i<fst' vs S:=by
   by_cases hi:i<fst' vs S
   ·exact .inr hi
   ·left
    obtain⟨j,hj⟩:∃ j,i-fst' vs S=j+1:=⟨i-fst' vs S-1,by omega⟩
    rw[hj,Nat.testBit_succ,Nat.testBit_succ]
    congr 1;omega
  have h4:(decide (fst' vs S≤i)&&(2*m).testBit (i-fst' vs S))=(decide (fst' vs S≤i)&&(2*m+1).testBit (i-fst' vs S)):=by
   rcases h3 with h3|h3
   ·rw[h3]
   ·have:¬fst' vs S≤i:=by omega
    simp[this]
  rw[h4,← hS]
  by_cases hi:i<vs.length
  ·have hvi:=hv hi
   clear hv hS h4 h3
   generalize vs.getD i 0=x at *
   generalize vs.getD (fst' vs S) 0=y at *
   simp[hi,List.mem_filter,hvi]
  ·simp[hi]
theorem aFI{vs:List Int}(hn:vs.Nodup)(h64:vs.length≤64){k:Nat}(hk:k<vs.length):aDZ .u64 1 (k:Int)=mk vs [vs.getD k 0]:=by
 rw[mk_one hn hk]
 unfold aDZ
 have:min (k:Int).toNat IntKind.u64.bits=k:=by
  have:IntKind.u64.bits=64:=rfl
  omega
 rw[this,Int.one_mul,IntKind.wrap_u64]
 have h2:2 ^ k<18446744073709551616:=Nat.lt_of_lt_of_le (Nat.pow_lt_pow_right (show 1<2 by decide) (show k<64 by omega)) (Nat.le_refl _)
 have h3:((2:Int) ^ k)=((2 ^ k:Nat):Int):=by simp
 rw[h3]
 generalize (2:Nat) ^ k=x at h2
 omega
abbrev wv(n:Nat):LV:=.atom (.int .u64 n)
theorem iT(n:Nat):∀ l:List Int,dR n (us l):=fun l=>by
 induction l with
 |nil=>trivial
 |cons a l ih=>exact⟨trivial,ih⟩
def rI(vs:List Int):List (List Int×LV):=(List.range vs.length).map fun k=>([vs.getD k 0],i k)
theorem wN{vs:List Int}(hn:vs.Nodup){k:Nat}(hk:k<vs.length):aR (rI vs) [vs.getD k 0]=some (i k):=by
 have key:∀(L:List Nat),(∀ j∈L,j<vs.length)→k∈L→aR (L.map fun k=>(([vs.getD k 0],i k):List Int×LV)) [vs.getD k 0]=some (i k):=by
  intro L
  induction L with
  |nil=>intro _ h;cases h
  |cons j L ih=>
   intro hL hkL
   simp only[List.map_cons,aR]
   by_cases e:j=k
   ·subst e;simp
   ·have hj:=hL j (by simp)
    have hne:¬vs.getD k 0=vs.getD j 0:=by
     rw[List.getD_eq_getElem?_getD,List.getD_eq_getElem?_getD,List.getElem?_eq_getElem hk,List.getElem?_eq_getElem hj]
     simpa[aAV hn hk hj]using fun h=>e h.symm
    rw[if_neg (by simpa using hne)]
    exact ih (fun j hj=>hL j (List.mem_cons_of_mem _ hj)) ((List.mem_cons.1 hkL).resolve_left fun h=>e h.symm)
 exact key _ (fun j hj=>List.mem_range.1 hj) (List.mem_range.2 hk)
def ShB(vs:List Int)(S pl:Nat)(st:St):Prop:=(∃ a b c d e f,st.H S=.box 119 7 [a,b,c,.mp pl,d,e,f])∧st.H pl=.map false [.u32] (rI vs)
theorem yX{vs:List Int}{v:Int}(hv:v∈vs):vs.idxOf v<vs.length∧vs.getD (vs.idxOf v) 0=v:=by
 have h:=List.idxOf_lt_length_of_mem hv
 exact⟨h,by rw[aX _ _ h,List.getElem_idxOf]⟩
theorem aLj{vs:List Int}{S pl:Nat}{st:St}(hS:ShB vs S pl st)(hn:vs.Nodup)(h64:vs.length≤64){v:Int}(hv:v∈vs):
 aF Tryz.prog 110 [.pt S 0,u v] st fun r st'=>r=wv (mk vs [v])∧st'=st:=by
 obtain⟨⟨a,b,c,d,e,f,hSb⟩,hP⟩:=hS
 obtain⟨hk,hg⟩:=yX hv
 have h1:=wN hn hk
 have h2:=aFI hn h64 hk
 rw[hg]at h1 h2
 refine qO aK Tryz.func110 rfl rfl Tryz.ntmps110 (rs:=[.tmp 4]) rfl (by simp) ?_
 (repeat' (first|refine qS ?_|(refine qR ?_;simp only[ak,reduceIte];simp[hSb,hP,h1,h2])|(refine w_e [] ?_;intro J hJ;simp only[];simp[hSb,hP,h1,h2];(refine hJ _ _ ?_;clear hJ J;simp only[ak,reduceIte]))))
theorem aKE(vs l:List Int)(j:Nat)(hj:j<l.length)(h:vs.length≤64):gor .u64 (mk vs (l.take j)) (mk vs [l.getD j 0])=mk vs (l.take (j+1)):=by
 rw[yQ vs _ _ h,List.take_succ_eq_append_getElem hj,List.getD_eq_getElem?_getD,List.getElem?_eq_getElem hj];rfl
theorem aNp{vs:List Int}{S pl:Nat}{st:St}(hS:ShB vs S pl st)(hn:vs.Nodup)(h64:vs.length≤64)(l:List Int)(t:Nat)(hl:∀ v∈l,v∈vs)(hll:l.length≤1048576):
 aF Tryz.prog 164 [.pt S 0,.sl t l.length (us l)] st fun r st'=>r=wv (mk vs l)∧st'=st:=by
 refine qO aK Tryz.func164 rfl rfl Tryz.ntmps164 (rs:=[.tmp 4]) rfl (by simp) ?_
 (repeat' (first|refine qS ?_|refine qB ?_|(refine w_e [] ?_;intro J hJ;simp only[];simp[];(refine hJ _ _ ?_;clear hJ J;simp only[ak,reduceIte]))))
 have h0:mk vs []=0:=(mk_zero vs []).2 fun _ _=>by simp
 refine aP 10 9 11 19 (l.length) (fun j fr st2=>fr 0=.pt S 0∧fr 8=.sl t l.length (us l)∧fr 5=wv (mk vs (l.take j))∧st2=st) ?_ ?_ ?_
 ·exact⟨by simp,by simp,by simp[h0],rfl⟩
 ·rintro j fr s hlt ⟨f0,f8,f5,hs⟩ fi fn J hJ
  subst hs
  have hd:=qG l j hlt
  have hm:=aKE vs l j hlt h64
  have hv:l.getD j 0∈vs:=hl _ (by rw[aX _ _ hlt];exact List.getElem_mem _)
  generalize l.getD j 0=v at *
  (repeat' (first|refine qS ?_|(refine w_e [] ?_;intro J hJ;simp only[];simp[f0,f8,f5,fi,fn,hd,hlt];(try (refine hJ _ _ ?_;clear hJ J;simp only[ak,reduceIte])))))
  refine qE (aLj hS hn h64 hv) (by simp) ?_;rintro r s1 ⟨rfl,h1⟩
  rw[h1];clear h1 s1
  (repeat' (refine aL ?_;simp[fi,hm];(refine hJ _ _ ?_;clear hJ J;simp only[ak,reduceIte])))
  exact hJ _ _ (by simp[fi]) (by simp[fn]) ⟨by simp[f0],by simp[f8],by simp,rfl⟩
 ·rintro fr s ⟨f0,f8,f5,hs⟩
  subst hs
  rw[List.take_length]at f5
  (repeat' (first|refine qS ?_|(refine qR ?_;simp only[ak,reduceIte];simp[f5])|(refine w_e [] ?_;intro J hJ;simp only[];simp[f5];(refine hJ _ _ ?_;clear hJ J;simp only[ak,reduceIte]))))
theorem aIx{vs:List Int}{S pl:Nat}{st:St}(hS:ShB vs S pl st)(hSn:S<st.next)(hpn:pl<st.next)(hn:vs.Nodup)(h64:vs.length≤64)(l:List Int)(t:Nat)(hl:∀ v∈l,v∈vs)(hll:l.length≤1048576):
 aF Tryz.prog 115 [.pt S 0,.sl t l.length (us l)] st fun r st'=>r=.ag [.sl 0 l.length (us l),wv (mk vs l)]∧st'=st:=by
 refine qT (Q:=fun r=>r=.ag [.sl 0 l.length (us l),wv (mk vs l)]) (bR ?_) fun r h=>by subst h;exact⟨⟨.inl rfl,iT _ _⟩,trivial,trivial⟩
 refine qO aK Tryz.func115 rfl rfl Tryz.ntmps115 (rs:=[.cell 4 127]) rfl (by simp) ?_
 (repeat' (first|refine qS ?_|(refine w_e [] ?_;intro J hJ;simp only[];simp[];(try (refine hJ _ _ ?_;clear hJ J;simp only[ak,reduceIte])))))
 refine qE (aNp (vs:=vs) (S:=S) (pl:=pl) ?_ hn h64 l t hl hll) (by simp) ?_
 ·obtain⟨⟨a,b,c,d,e,f,hSb⟩,hP⟩:=hS
  exact⟨⟨a,b,c,d,e,f,by rw[aG,if_neg (by omega)];exact hSb⟩,by rw[aG,if_neg (by omega)];exact hP⟩
 rintro r s1 ⟨rfl,h1⟩
 rw[h1];clear h1 s1
 (repeat' (first|(refine qR ?_;simp only[ak,reduceIte];simp[])|(refine aL ?_;simp[];(refine hJ _ _ ?_;clear hJ J;simp only[ak,reduceIte]))))
 exact⟨by simp[z0,z0L],aB.new _ _⟩
theorem aEj{st:St}{m:Nat}{o:aD}(h:st.H m=o):st.set m o=st:=by
 obtain⟨n,H⟩:=st
 simp only[St.set,St.mk.injEq,true_and]
 funext y
 by_cases e:y=m
 ·subst e;rw[if_pos rfl];exact h.symm
 ·rw[if_neg e]
def prP(a b:Int):Int×Int:=(min a b,max a b)
abbrev pk(p:Int×Int):List Int:=[p.1,p.2]
def aKk(L:List (Int×Int))(p:Int×Int):List (Int×Int):=if p∈L then L else L++[p]
def tZ:List Int→List (Int×Int)
 |a::b::l=>prP a b::tZ (b::l)
 |_=>[]
def aFo(L:List (Int×Int))(w:List Int):List (Int×Int):=(tZ w).foldl aKk L
theorem vQ:∀ w:List Int,(tZ w).length=w.length-1
 |[]=>rfl
 |[_]=>rfl
 |a::b::l=>by
  have:=vQ (b::l)
  rw[tZ,List.length_cons,this];simp
theorem aCi:∀(w:List Int) (k:Nat),k+1<w.length→(tZ w)[k]?=some (prP (w.getD k 0) (w.getD (k+1) 0))
 |a::b::l,0,_=>by simp[tZ]
 |a::b::l,k+1,h=>by
  rw[tZ,List.getElem?_cons_succ,aCi (b::l) k (by simpa using h)];simp
 |[],k,h=>by simp at h
 |[_],k,h=>by simp at h
theorem aGo(es:List (List Int×LV))(L:List (Int×Int))(p:Int×Int)(v:LV)(h:es.map (·.1)=L.map pk):(aS es (pk p) v).map (·.1)=(aKk L p).map pk:=by
 have hin:pk p∈L.map pk↔p∈L:=by
  rw[List.mem_map]
  constructor
  ·rintro⟨q,hq,e⟩
   simp only[pk,List.cons.injEq,and_true]at e
   obtain⟨e1,e2⟩:=e
   have:q=p:=Prod.ext e1 e2
   rw[← this];exact hq
  ·intro hp;exact⟨p,hp,rfl⟩
 have key:∀(es:List (List Int×LV)),(aS es (pk p) v).map (·.1)=if pk p∈es.map (·.1)then es.map (·.1)else es.map (·.1)++[pk p]:=by
  intro es
  induction es with
  |nil=>simp[aS]
  |cons q es ih=>
   simp only[aS]
   by_cases e:pk p=q.1
   ·rw[if_pos (by simpa using e)];simp[e]
   ·rw[if_neg (by simpa using e),List.map_cons,ih,List.map_cons]
    by_cases e2:pk p∈es.map (·.1)
    ·rw[if_pos e2,if_pos (List.mem_cons_of_mem _ e2)]
    ·rw[if_neg e2,if_neg (by simp only[List.mem_cons,not_or];exact⟨e,e2⟩)];rfl
 rw[key,h]
 unfold aKk
 by_cases e:p∈L
 ·rw[if_pos e,if_pos (hin.2 e)]
 ·rw[if_neg e,if_neg fun k=>e (hin.1 k),List.map_append];rfl
theorem pair(a b:Int)(st:St):aF Tryz.prog 41 [u a,u b] st fun r st'=>r=.ag [u (min a b),u (max a b)]∧st'=st:=by
 refine qT (Q:=fun r=>r=.ag [u (min a b),u (max a b)]) ?_ fun r h=>by subst h;exact⟨trivial,trivial,trivial⟩
 refine qO aK Tryz.func41 rfl rfl Tryz.ntmps41 (rs:=[.cell 4 73]) rfl (by simp) ?_
 (repeat' (first|refine qS ?_|(refine qR ?_;simp only[ak,reduceIte];simp[])|(refine w_e [] ?_;intro J hJ;simp only[];simp[];(refine hJ _ _ ?_;clear hJ J;simp only[ak,reduceIte]))))
 exact⟨⟨by split<;>omega,by split<;>omega⟩,aB.new _ _⟩
set_option maxHeartbeats 1000000 in
theorem aJK{vs:List Int}{S pl ll:Nat}{st:St}{a b c f:LV}{on:List Int}{le:List (List Int×LV)}{L:List (Int×Int)}(hSb:st.H S=.box 119 7 [a,b,c,.mp pl,.mp ll,wv (mk vs on),f])(hP:st.H pl=.map false [.u32] (rI vs))
 (hL:st.H ll=.map true [.u32,.u32] le) (hk:le.map (·.1)=L.map pk) (hpl:¬pl=ll) (hn:vs.Nodup) (h64:vs.length≤64) (w:List Int) (t:Nat) (hw:∀ v∈w,v∈vs) (hwl:w.length≤1000):
 aF Tryz.prog 114 [.pt S 0,.sl t w.length (us w)] st fun _ st'=>∃ le',st'=(st.set ll (.map true [.u32,.u32] le')).set S (.box 119 7 [a,b,c,.mp pl,.mp ll,wv (mk vs (on++w)),f])∧le'.map (·.1)=(aFo L w).map pk:=by
 have n1:¬S=ll:=fun h=>by rw[h,hL]at hSb;cases hSb
 have n2:¬ll=S:=fun h=>n1 h.symm
 have n3:¬pl=S:=fun h=>by rw[h,hSb]at hP;cases hP
 refine qO aK Tryz.func114 rfl rfl Tryz.ntmps114 (rs:=[]) rfl (by simp) ?_
 (repeat' (first|refine qS ?_|refine qB ?_|(refine w_e [] ?_;intro J hJ;simp only[];simp[];(refine hJ _ _ ?_;clear hJ J;simp only[ak,reduceIte]))))
 refine qL (fun n fr st'=>∃ k:Nat,1≤k∧(k=1∨k≤w.length)∧n=w.length-k∧fr 0=.pt S 0∧fr 1=.sl t w.length (us w)∧fr 4=i k∧∃ le',st'=st.set ll (.map true [.u32,.u32] le')∧le'.map (·.1)=(((tZ w).take (k-1)).foldl aKk L).map pk) (w.length-1) ?_ ?_
 ·exact⟨1,by omega,.inl rfl,rfl,by simp,by simp,by simp,le,(aEj hL).symm,by simpa using hk⟩
 rintro n fr s ⟨k,hk1,hk2,rfl,f0,f1,f4,le',rfl,hk3⟩ JJ hJJ
 by_cases hlt:k<w.length
 ·have hw1:=qN k (by omega)
  have hd:=qG w k hlt
  have hd1:=qG w (k-1) (by omega)
  have hg:=aCi w (k-1) (by omega)
  have hwl2:=vQ w
  have e1:IntKind.i64.wrap ((k:Int)-1)=((k-1:Nat):Int):=by rw[wrap_i64 _ (by omega) (by omega)];omega
  have e4:k-1<w.length:=by omega
  rw[show k-1+1=k by omega]at hg
  have hset:∀ v,(aS le' (pk (prP (w.getD (k-1) 0) (w.getD k 0))) v).map (·.1)=(((tZ w).take (k+1-1)).foldl aKk L).map pk:=fun v=>by
   rw[aGo _ _ _ _ hk3,show k+1-1=(k-1)+1 by omega]
   have hlt2:k-1<(tZ w).length:=by omega
   rw[List.take_succ_eq_append_getElem hlt2,List.foldl_append]
   rw[List.getElem?_eq_getElem hlt2,Option.some.injEq]at hg
   rw[hg];rfl
  generalize w.getD (k-1) 0=x at *
  generalize w.getD k 0=y at *
  (repeat' (first|refine qS ?_|refine qB ?_|(refine qK ?_;simp only[ak,reduceIte])|(refine qC ?_;simp[f0,f1,f4,hlt])|(refine w_e [] ?_;intro J hJ;simp only[];simp[f0,f1,f4,hlt];(refine hJ _ _ ?_;clear hJ J;simp only[ak,reduceIte]))))
  (refine w_s [] [S] [(0,true),(1,true),(2,true),(3,true),(4,true),(5,true),(6,true),(7,true),(8,true),(9,true),(10,true),(11,true),(12,true),(14,true),(13,true),(15,false)] ?_;intro J hJ;simp[f0,f1,f4,hlt,hSb,hL,n1,n2,e1,e4,hd,hd1])
  refine qD (pair x y _) (by simp) ?_;rintro r s1 ⟨rfl,h1⟩
  rw[h1];clear h1 s1
  refine⟨fun h=>by first|(cases h;done)|simp,?_⟩
  (refine bN ?_;simp[n1,n2,hL];(refine hJ _ _ ?_;clear hJ J;simp only[ak,reduceIte]))
  (repeat' (refine w_e [] ?_;intro J hJ;simp only[];simp[f4,hw1];(refine hJ _ _ ?_;clear hJ J;simp only[ak,reduceIte])))
  refine hJJ _ _ _ ?_ ⟨k+1,by omega,.inr (by omega),rfl,by simp[f0],by simp[f1],by simp,_,set_set _ _ _ _,hset _⟩
  omega
 ·have hkk:(tZ w).take (k-1)=tZ w:=List.take_of_length_le (by rw[vQ];omega)
  rw[hkk]at hk3
  have hB:ShB vs S pl (st.set ll (.map true [.u32,.u32] le')):=⟨⟨a,b,c,.mp ll,wv (mk vs on),f,by rw[aE,if_neg n1];exact hSb⟩,by rw[aE,if_neg hpl];exact hP⟩
  have hor:=yQ vs on w h64
  (repeat' (first|refine qS ?_|(refine qX ?_;simp only[ak,reduceIte])|(refine qC ?_;simp[f0,f1,f4,hlt])|(refine w_e [] ?_;intro J hJ;simp only[];simp[f0,f1,f4,hlt];(refine hJ _ _ ?_;clear hJ J;simp only[ak,reduceIte]))))
  (refine w_s [] [S] [(0,true),(1,true),(2,true),(3,true),(4,true),(5,true),(6,true),(7,true),(8,true),(9,true),(10,false)] ?_;intro J hJ;simp[f0,f1,hSb,n1])
  refine qD (aNp hB hn h64 w t hw (by omega)) (by simp) ?_;rintro r s1 ⟨rfl,h1⟩
  rw[h1];clear h1 s1
  refine⟨fun h=>by first|(cases h;done)|simp,?_⟩
  (refine bN ?_;simp[hSb,n1,hor];(refine hJ _ _ ?_;clear hJ J;simp only[ak,reduceIte]))
  skip
  exact⟨trivial,le',rfl,hk3⟩
end Go.Proofs.YtempldclppogmaaGreatDoor.Aw
namespace Go.Proofs.YtempldclppogmaaGreatDoor.Aw
open Go Go.RowKit
set_option maxHeartbeats 1000000 in
theorem aKv(x k idx:Nat)(w:World)(hx0:((x:Int)==0)=false)
 (key:IntKind.u64.wrap (bits BinOp.and IntKind.u64 (x:Int) (IntKind.u64.wrap (-(x:Int)))*285870213051353865) / 288230376151711744=(idx:Int))
 (hi:idx<64) (hk:k<64) (hcell:w.cell? ⟨0,idx,none⟩=some (.int .u8 k)):
 Calls Tryz.prog 118 #[.int .u64 x] w fun e w'=>e=.returned (.int .i64 k)∧w'=w:=by
 go_enter Tryz.func118,Tryz.ntmps118
 go_wp2_with (simp only[key])
 go_ret
 exact⟨rfl,rfl⟩
theorem aLP(w:World):
 Calls Tryz.prog 118 #[.int .u64 0] w fun e w'=>e=.returned (.int .i64 64)∧w'=w:=by
 go_enter Tryz.func118,Tryz.ntmps118
 go_wp2
 go_ret
 exact⟨rfl,rfl⟩
theorem aNe(x a:Nat)(hx:x<18446744073709551616)(hx0:x≠0)(hlow:x &&& (18446744073709551616-x)=a):
 IntKind.u64.wrap (bits BinOp.and IntKind.u64 (x:Int) (IntKind.u64.wrap (-(x:Int)))*285870213051353865) / 288230376151711744=((a*285870213051353865 % 18446744073709551616 / 288230376151711744:Nat):Int):=by
 have e1:IntKind.u64.wrap (-(x:Int))=((18446744073709551616-x:Nat):Int):=by rw[IntKind.wrap_u64];omega
 rw[e1,bits_and_u64_nat x _ hx (by omega),hlow,IntKind.wrap_u64]
 omega
theorem aKc{w:World}{g:G}(h:fF w g)(idx k:Nat)(hi:idx<64)(hk:Lib.deBruijn64tab.getD idx 0=k):w.cell? ⟨0,idx,none⟩=some (.int .u8 k):=by
 have hl:Lib.deBruijn64tab.length=64:=rfl
 have h2:Lib.deBruijn64tab[idx]?=some k:=by
  rw[List.getD_eq_getElem?_getD,List.getElem?_eq_getElem (by rw[hl];exact hi),Option.getD_some]at hk
  rw[List.getElem?_eq_getElem (by rw[hl];exact hi),hk]
 have h3:=h (0,Lib.deBruijn64tab.map fun(n:Nat)=>.int .u8 n) (List.mem_singleton.2 rfl) idx (.int .u8 k)
 generalize Lib.deBruijn64tab=T at *
 exact(h3 (by show(T.map fun(n:Nat)=>Value.int .u8 n)[idx]?=_;rw[List.getElem?_map,h2];rfl)).1
theorem aId(x:Nat)(hx:x<18446744073709551616){w:World}{g:G}(h:fF w g):Calls Tryz.prog 118 #[.int .u64 x] w fun e w'=>e=.returned (.int .i64 (Lib.ctz 64 x))∧w'=w:=by
 by_cases hx0:x=0
 ·subst hx0
  exact aLP w
 ·obtain⟨hlow,hk⟩:=Lib.lowest_bit 64 x hx0 hx
  obtain⟨hi',htab⟩:=Lib.deBruijn64_at _ hk
  exact aKv x _ _ w (by simp;omega) (aNe x _ hx hx0 hlow) hi' hk (aKc h _ _ hi' htab)
theorem aHY:Enters Tryz.prog 118:=enters_of Tryz.func118 (by kernel_rfl) rfl
theorem Tz(x:Nat)(hx:x<18446744073709551616)(st:St):aF Tryz.prog 118 [.atom (.int .u64 x)] st fun r st'=>r=i (Lib.ctz 64 x)∧st'=st:=by
 refine⟨aHY,fun w g vs hi hr=>?_⟩
 simp only[aH,Rep]at hr
 obtain⟨v,vs',rfl,rfl,rfl⟩:=hr
 refine(aId x hx hi.aside.glob).mono ?_
 rintro e w' ⟨rfl,rfl⟩
 exact⟨_,_,st,g,rfl,⟨rfl,rfl⟩,by simp only[Rep],hi,Ext.refl _ _⟩
end Go.Proofs.YtempldclppogmaaGreatDoor.Aw
namespace Go.Proofs.YtempldclppogmaaGreatDoor.Aw
open Go Go.RowKit Go.Proofs.YtempldclppogmaaGreatDoor.Pl
def iU(g:Gr):List LV:=g.vs.map fun v=>wv (mk g.vs (nbr g.es v))
@[simp] theorem aOh(g:Gr):(iU g).length=g.vs.length:=by simp[iU]
theorem aEl(g:Gr)(k:Nat)(hk:k<g.vs.length):(iU g).drop k=wv (mk g.vs (nbr g.es (g.vs.getD k 0)))::(iU g).drop (k+1):=by
 unfold iU
 rw[List.drop_eq_getElem_cons (by simpa using hk),List.getElem_map,aX _ _ hk]
def arn(g:Gr)(A:List Int):List Int:=A.flatMap (nbr g.es)
theorem aGN{g:Gr}{A B:List Int}(h:∀ v,v∈A↔v∈B):mk g.vs (arn g A)=mk g.vs (arn g B):=mk_congr fun v _=>by
 unfold arn
 rw[List.mem_flatMap,List.mem_flatMap]
 exact⟨fun⟨x,hx,h2⟩=>⟨x,(h x).1 hx,h2⟩,fun⟨x,hx,h2⟩=>⟨x,(h x).2 hx,h2⟩⟩
set_option maxHeartbeats 1000000 in
theorem aKz{g:Gr}{S nl:Nat}{st:St}{a b d e f h:LV}(hSb:st.H S=.box 119 7 [a,b,.ms nl 0 g.vs.length,d,e,f,h])(hN:st.H nl=.box 116 1 (iU g))(hn:g.vs.Nodup)(h64:g.vs.length≤64)(A:List Int)(hA:∀ v∈A,v∈g.vs):
 aF Tryz.prog 165 [.pt S 0,wv (mk g.vs A)] st fun r st'=>r=wv (mk g.vs (arn g A))∧st'=st:=by
 refine qO aK Tryz.func165 rfl rfl Tryz.ntmps165 (rs:=[.tmp 4]) rfl (by simp) ?_
 (repeat' (first|refine qS ?_|refine qB ?_|(refine w_e [] ?_;intro J hJ;simp only[];simp[];(refine hJ _ _ ?_;clear hJ J;simp only[ak,reduceIte]))))
 have h0:mk g.vs []=0:=(mk_zero g.vs []).2 fun _ _=>by simp
 refine qL (fun n fr st'=>∃ D R:List Int,n=(g.vs.filter fun v=>decide (v∈R)).length∧(∀ v,v∈A↔v∈D∨v∈R)∧fr 0=.pt S 0∧fr 1=wv (mk g.vs R)∧fr 5=wv (mk g.vs (arn g D))∧st'=st) (g.vs.filter fun v=>decide (v∈A)).length ?_ ?_
 ·exact⟨[],A,rfl,fun v=>by simp,by simp,by simp,by simp[arn,h0],rfl⟩
 rintro n fr s ⟨D,R,rfl,hDR,f0,f1,f5,rfl⟩ JJ hJJ
 have hRA:∀ v∈R,v∈g.vs:=fun v hv=>hA v ((hDR v).2 (.inr hv))
 by_cases hR:fst' g.vs R<g.vs.length
 ·have hne:=aAS hR
  have hb:((mk g.vs R:Int) != 0)=true:=by simpa using hne
  have hct:=aBB h64 hR
  have hlt:=jT g.vs R h64
  have hdr:=aEl g _ hR
  obtain⟨hv1,hv2⟩:=aMk hR
  have hdp:=aFu h64 hn hR
  have hi0:(0:Int)≤(fst' g.vs R:Int):=by omega
  have hi1:(fst' g.vs R:Int)<g.vs.length:=by omega
  have hTz:=fun st=>Tz (mk g.vs R) hlt st
  rw[hct]at hTz
  generalize g.vs.getD (fst' g.vs R) 0=v at *
  have hor:=yQ g.vs (arn g D) (nbr g.es v) h64
  (repeat' (first|refine qS ?_|refine qB ?_|(refine qK ?_;simp only[ak,reduceIte])|(refine qC ?_;simp[f1,hb])|(refine w_e [] ?_;intro J hJ;simp only[];simp[f1,hb];(refine hJ _ _ ?_;clear hJ J;simp only[ak,reduceIte]))))
  (refine w_s [] [S,nl] [(0,true),(1,true),(2,true),(3,true),(4,true),(5,true),(6,true),(7,true),(8,true),(9,true),(10,true)] ?_;intro J hJ;simp[f0,f1,f5,hSb,hN])
  refine qD (hTz _) (by simp) ?_;rintro r s1 ⟨rfl,h1⟩
  rw[h1];clear h1 s1
  refine⟨fun h=>by first|(cases h;done)|simp,?_⟩
  (refine bN ?_;simp[hSb,hN,hdr,hi0,hi1,hR,hor];(refine hJ _ _ ?_;clear hJ J;simp only[ak,reduceIte]))
  (repeat' (refine w_e [] ?_;intro J hJ;simp only[];simp[f1,hdp];(refine hJ _ _ ?_;clear hJ J;simp only[ak,reduceIte])))
  refine hJJ _ _ _ ?_ ⟨D++[v],R.filter fun w=>decide (w≠v),rfl,fun w=>?_,by simp[f0],by simp,by simp[arn],rfl⟩
  ·have hsub:(g.vs.filter fun w=>decide (w∈R.filter fun w=>decide (w≠v)))=(g.vs.filter fun w=>decide (w∈R)).filter fun w=>decide (w≠v):=by
    rw[List.filter_filter]
    refine List.filter_congr fun w _=>?_
    simp only[List.mem_filter,decide_eq_true_iff,Bool.decide_and]
    rw[Bool.and_comm]
   rw[hsub]
   refine List.length_filter_lt_length_iff_exists.2 ⟨v,?_,by simp⟩
   rw[List.mem_filter];exact⟨hv2,by simpa using hv1⟩
  ·rw[hDR,List.mem_append,List.mem_singleton,List.mem_filter,decide_eq_true_iff]
   constructor
   ·rintro(h|h)
    ·exact .inl (.inl h)
    ·by_cases e:w=v
     ·exact .inl (.inr e)
     ·exact .inr ⟨h,e⟩
   ·rintro((h|h)|h)
    ·exact .inl h
    ·rw[h];exact .inr hv1
    ·exact .inr h.1
 ·have hno:∀ v∈g.vs,v∉R:=fun v hv hvR=>hR (aNL.2 ⟨v,hv,hvR⟩)
  have hz:mk g.vs R=0:=(mk_zero g.vs R).2 hno
  have hb:((mk g.vs R:Int) != 0)=false:=by rw[hz];rfl
  have hfin:mk g.vs (arn g D)=mk g.vs (arn g A):=aGN fun v=>by
   rw[hDR]
   exact⟨.inl,fun h=>h.elim id fun h=>absurd h (hno v (hRA v h))⟩
  rw[hz]at f1
  (repeat' (first|refine qS ?_|(refine qX ?_;simp only[ak,reduceIte])|(refine qR ?_;simp only[ak,reduceIte];simp[f1,f5,hfin])|(refine qC ?_;simp[f1,f5,hfin])|(refine w_e [] ?_;intro J hJ;simp only[];simp[f1,f5,hfin];(refine hJ _ _ ?_;clear hJ J;simp only[ak,reduceIte]))))
structure Brg where
 inner:List Int
 ends:List Int
def nrS(vs A:List Int):List Int:=vs.filter fun v=>decide (v∈A)
def off(A B:List Int):List Int:=A.filter fun v=>!decide (v∈B)
def on'(A B:List Int):List Int:=A.filter fun v=>decide (v∈B)
theorem aBb(vs A:List Int):mk vs (nrS vs A)=mk vs A:=mk_congr fun v hv=>by simp[nrS,hv]
def aDo(g:Gr)(on:List Int):Nat→List Int→Option Brg
 |0,_=>none
 |n+1,inner=>
  if off (off (nrS g.vs (arn g inner)) on) inner=[]then some ⟨inner,on' (nrS g.vs (arn g inner)) on⟩
  else aDo g on n (nrS g.vs (inner++off (nrS g.vs (arn g inner)) on))
def zJ(g:Gr)(on:List Int):Nat→List Int→Option (List Brg)
 |_,[]=>some []
 |0,_::_=>none
 |n+1,v::R=>(aDo g on (g.vs.length+1) [v]).bind fun b=>(zJ g on n (off (v::R) b.inner)).map (b::·)
def pM(g:Gr)(L:List (Int×Int))(on:List Int)(es:List Ed):List Brg:=
 (es.filter fun x=>decide (prP x.a x.b∉L)&&decide (x.a∈on)&&decide (x.b∈on)).map fun x=>⟨[],[x.a,x.b]⟩
def aKH(g:Gr)(L:List (Int×Int))(on:List Int):Option (List Brg):=(zJ g on (g.vs.length+1) (off g.vs on)).map fun l=>pM g L on g.es++l
def jS(vs:List Int)(l:List Brg):List LV:=l.flatMap fun b=>[wv (mk vs b.inner),wv (mk vs b.ends)]
@[simp] theorem aCR(vs:List Int):∀ l:List Brg,(jS vs l).length=l.length*2
  |[]=>rfl
  |b::l=>by have:=aCR vs l;simp only[jS,List.flatMap_cons,List.length_append,List.length_cons,List.length_nil]at this ⊢;omega
theorem aAH(vs:List Int)(l:List Brg)(b:Brg):jS vs l++[wv (mk vs b.inner),wv (mk vs b.ends)]=jS vs (l++[b]):=by simp[jS]
theorem aJO{es:List (List Int×LV)}{L:List (Int×Int)}(h:es.map (·.1)=L.map pk)(p:Int×Int):(p∈L→∃ v,aR es (pk p)=some v)∧(p∉L→aR es (pk p)=none):=by
 have hin:pk p∈es.map (·.1)↔p∈L:=by
  rw[h,List.mem_map]
  constructor
  ·rintro⟨q,hq,e⟩
   simp only[pk,List.cons.injEq,and_true]at e
   have:q=p:=Prod.ext e.1 e.2
   rw[← this];exact hq
  ·intro hp;exact⟨p,hp,rfl⟩
 have key:∀ es:List (List Int×LV),(pk p∈es.map (·.1)→∃ v,aR es (pk p)=some v)∧(pk p∉es.map (·.1)→aR es (pk p)=none):=by
  intro es
  induction es with
  |nil=>simp[aR]
  |cons q es ih=>
   simp only[aR,List.map_cons,List.mem_cons]
   by_cases e:pk p=q.1
   ·rw[if_pos (by simpa using e)]
    exact⟨fun _=>⟨_,rfl⟩,fun h=>absurd (.inl e) h⟩
   ·rw[if_neg (by simpa using e)]
    exact⟨fun h=>ih.1 (h.resolve_left e),fun h=>ih.2 fun k=>h (.inr k)⟩
 rw[← hin]
 exact key es
theorem aGm(g:Gr)(L:List (Int×Int))(on:List Int)(es:List Ed)(j:Nat)(hj:j<es.length):
 pM g L on (es.take (j+1))=pM g L on (es.take j)++if(prP (es.getD j ed0).a (es.getD j ed0).b∉L∧(es.getD j ed0).a∈on)∧(es.getD j ed0).b∈on then [⟨[],[(es.getD j ed0).a,(es.getD j ed0).b]⟩]else []:=by
 unfold pM
 rw[List.take_succ_eq_append_getElem hj,List.filter_append,List.map_append,List.getD_eq_getElem?_getD,List.getElem?_eq_getElem hj,Option.getD_some]
 generalize es[j]=x
 congr 1
 by_cases h:(prP x.a x.b∉L∧x.a∈on)∧x.b∈on
 ·rw[if_pos h];simp[h.1.1,h.1.2,h.2]
 ·rw[if_neg h]
  rw[List.filter_eq_nil_iff.2];rfl
  intro y hy
  rw[List.mem_singleton]at hy
  subst hy
  simpa[and_assoc]using h
theorem aFr{vs A B:List Int}(hA:∀ v∈A,v∈vs):mk vs (off A B)=0↔off A B=[]:=by
 rw[mk_zero]
 constructor
 ·intro h
  exact List.eq_nil_iff_forall_not_mem.2 fun v hv=>h v (hA v (List.mem_filter.1 hv).1) hv
 ·intro h v _;rw[h];simp
theorem aAl:∀ {vs R:List Int} {v:Int},vs.Nodup→(v::R).Sublist vs→vs.getD (fst' vs (v::R)) 0=v∧fst' vs (v::R)<vs.length
 |[],R,v,_,h=>by cases h
 |w::vs,R,v,hn,h=>by
  have hn2:=(List.nodup_cons.1 hn)
  cases h with
  |cons _ h=>
   have hw:w∉v::R:=fun hw=>hn2.1 (h.subset hw)
   obtain⟨h1,h2⟩:=aAl hn2.2 h
   have e:fst' (w::vs) (v::R)=fst' vs (v::R)+1:=by
    unfold fst';rw[List.findIdx_cons];simp only[decide_eq_true_eq,cond_eq_ite];rw[if_neg hw]
   rw[e]
   exact⟨by simpa using h1,by simpa using h2⟩
  |cons_cons _ h=>
   have e:fst' (w::vs) (w::R)=0:=by
    unfold fst';rw[List.findIdx_cons];simp
   rw[e]
   exact⟨by simp,by simp⟩
theorem aNP(vs:List Int)(l:List Brg):(jS vs l).map z0=jS vs l:=by
 induction l with
 |nil=>rfl
 |cons b l ih=>simp only[jS,List.flatMap_cons,List.map_append]at ih ⊢;rw[ih];rfl
def aAK(t e s n:Nat)(lo:St)(st:St):Prop:=t≠0∧lo.next≤t∧t<st.next∧st.H t=.own e s n
structure ShR(g:Gr)(L:List (Int×Int))(on:List Int)(S nl pl ll:Nat)(f:LV)(le:List (List Int×LV))(st:St):Prop where
 box:st.H S=.box 119 7 [.sl 0 g.vs.length (us g.vs),.sl 0 g.es.length (eds g.es),.ms nl 0 g.vs.length,.mp pl,.mp ll,wv (mk g.vs on),f]
 near:st.H nl=.box 116 1 (iU g)
 plc:st.H pl=.map false [.u32] (rI g.vs)
 lin:st.H ll=.map true [.u32,.u32] le
 key:le.map (·.1)=L.map pk
 lt:S<st.next∧nl<st.next∧pl<st.next∧ll<st.next
theorem ShR.keep{g:Gr}{L:List (Int×Int)}{on:List Int}{S nl pl ll:Nat}{f:LV}{le:List (List Int×LV)}{st st':St}(h:ShR g L on S nl pl ll f le st)(k:aB st st'):ShR g L on S nl pl ll f le st':=by
 obtain⟨a,b,c,d,e,f1,f2,f3,f4⟩:=h
 have hx:=k.next
 exact⟨(k.H _ f1).trans a,(k.H _ f2).trans b,(k.H _ f3).trans c,(k.H _ f4).trans d,e,by omega,by omega,by omega,by omega⟩
theorem ShR.b{g:Gr}{L:List (Int×Int)}{on:List Int}{S nl pl ll:Nat}{f:LV}{le:List (List Int×LV)}{st:St}(h:ShR g L on S nl pl ll f le st):ShB g.vs S pl st:=⟨⟨_,_,_,_,_,_,h.box⟩,h.plc⟩
theorem aDs{g:Gr}{L:List (Int×Int)}{on:List Int}{S nl pl ll:Nat}{f:LV}{le:List (List Int×LV)}{st:St}(h:ShR g L on S nl pl ll f le st)(hn:g.vs.Nodup)(h64:g.vs.length≤64)(A:List Int)(hA:∀ v∈A,v∈g.vs):
 aF Tryz.prog 165 [.pt S 0,wv (mk g.vs A)] st fun r st'=>r=wv (mk g.vs (arn g A))∧st'=st:=aKz h.box h.near hn h64 A hA
structure GP(g:Gr):Prop extends GoodE g where
 h64:g.vs.length≤64
 he:g.es.length≤10
set_option maxHeartbeats 2000000 in
theorem aJs{g:Gr}(hg:GP g){L:List (Int×Int)}{on:List Int}(hon:∀ v∈on,v∈g.vs){S nl pl ll:Nat}{f:LV}{le:List (List Int×LV)}{st:St}(hS:ShR g L on S nl pl ll f le st){B:List Brg}(hB:aKH g L on=some B):
 aF Tryz.prog 116 [.pt S 0] st fun r st'=>r=.sl 0 B.length (jS g.vs B)∧st'=st:=by
 refine qT (Q:=fun r=>r=.sl 0 B.length (jS g.vs B)) (bR ?_) fun r h=>by
  subst h
  refine⟨.inl rfl,?_⟩
  clear hB
  induction B with
  |nil=>trivial
  |cons b B ih=>exact⟨trivial,trivial,ih⟩
 have hn:g.vs.Nodup:=hg.toGoodE.toGood.nodup
 have h64:=hg.h64
 have hel:=aO g.es
 unfold aKH at hB
 obtain⟨l2,hl2,rfl⟩:=Option.map_eq_some_iff.1 hB
 obtain⟨hSb,hN,hP,hL,hkey,q1,q2,q3,q4⟩:=id hS
 refine qO aK Tryz.func116 rfl rfl Tryz.ntmps116 (rs:=[.tmp 2]) rfl (by simp) ?_
 refine dL fun hpos=>?_
 (repeat' (first|refine qS ?_|refine qB ?_|(refine w_e [] ?_;intro J hJ;simp only[];simp[hSb];(refine hJ _ _ ?_;clear hJ J;simp only[ak,reduceIte]))))
 refine qW 3 121 2 (by simp) ?_
 have e0:¬st.next=0:=by omega
 have he200:=hg.he
 refine aP 18 17 19 60 (g.es.length) (fun j fr st2=>fr 0=.pt S 0∧fr 16=.sl 0 g.es.length (eds g.es)∧aB st st2∧∃ t,fr 3=.sl t (pM g L on (g.es.take j)).length (jS g.vs (pM g L on (g.es.take j)))∧aAK t 121 2 (pM g L on (g.es.take j)).length st st2) ?_ ?_ ?_
 ·exact⟨by simp,by simp,aB.new _ _,st.next,by simp[pM,jS],e0,Nat.le_refl _,by simp,by simp[pM]⟩
 ·rintro j fr s hlt ⟨f0,f16,hk,t,f3,t0,t1,t2,tH⟩ fi fn JO hJO
  have hd:=bE g.es j hlt
  have hk3:j*3<g.es.length*3:=by omega
  have hsn:=aGm g L on g.es j hlt
  have hends:=hg.ends _ (show g.es.getD j ed0∈g.es by rw[cC _ _ hlt];exact List.getElem_mem _)
  generalize g.es.getD j ed0=ee at *
  generalize hF:pM g L on (g.es.take j)=F at *
  obtain⟨d,a,b⟩:=ee
  simp only at hsn hends
  have hS1:=(hS.keep hk).keep (aB.new s (.box 56 3 [u d,u a,u b]))
  obtain⟨hSb1,hN1,hP1,hL1,-,p1,p2,p3,p4⟩:=id hS1
  have hB1:=fun v hv=>aLj (v:=v) hS1.b hn h64 hv
  have hor:=yQ g.vs [a] [b] h64
  simp only[List.cons_append,List.nil_append]at hor
  obtain⟨hgs,hgn⟩:=aJO hkey (prP a b)
  have hnS:¬S=s.next:=by have:=hk.next;omega
  have hnl:¬ll=s.next:=by have:=hk.next;omega
  have hSb0:=(hS.keep hk).box
  have hL0:=(hS.keep hk).lin
  have hdf:=nE g.vs [a,b] on h64
  have hwl:(F:List Brg).length≤g.es.length:=by
   have h1:=List.length_filter_le (fun x=>decide (prP x.a x.b∉L)&&decide (x.a∈on)&&decide (x.b∈on)) (g.es.take j)
   have h2:F.length=((g.es.take j).filter (fun x=>decide (prP x.a x.b∉L)&&decide (x.a∈on)&&decide (x.b∈on))).length:=by rw[← hF];unfold pM;rw[List.length_map]
   rw[List.length_take]at h1
   omega
  (repeat' (first|refine qS ?_|(refine w_e [] ?_;intro J hJ;simp only[];simp[f0,f16,fi,fn,hd,hel,hk3,hlt];(refine hJ _ _ ?_;clear hJ J;simp only[ak,reduceIte]))))
  (refine w_s [] [s.next] [(0,true),(1,true),(2,true),(4,true),(5,true),(6,true),(3,true),(7,true),(8,true),(9,true)] ?_;intro J hJ;simp[f0])
  refine qD (hB1 a hends.1) (by simp) ?_;rintro r s1 ⟨rfl,h1⟩
  rw[h1];clear h1 s1
  refine⟨fun h=>by first|(cases h;done)|exact fun _ _=>rfl|simp,?_⟩
  (refine bN ?_;simp[])
  refine qD (hB1 b hends.2) (by simp) ?_;rintro r s1 ⟨rfl,h1⟩
  rw[h1];clear h1 s1
  refine⟨fun h=>by first|(cases h;done)|exact fun _ _=>rfl|simp,?_⟩
  (refine bN ?_;simp[hor];(refine hJ _ _ ?_;clear hJ J;simp only[ak,reduceIte]))
  (repeat (refine qS ?_))
  (refine w_s [] [S,s.next,ll] [(0,true),(1,true),(2,true),(3,true),(4,true),(5,true),(6,true),(7,true),(8,true),(9,true),(10,true),(11,true),(12,true),(13,true),(14,true)] ?_;intro J hJ;simp[f0,hSb0,hnS])
  refine qD (pair a b _) (by simp) ?_;rintro r s1 ⟨rfl,h1⟩
  rw[h1];clear h1 s1
  refine⟨fun h=>by first|(cases h;done)|exact fun _ _=>rfl|simp,?_⟩
  have c1:¬t=s.next:=by omega
  have c2:¬t=s.next+1:=by omega
  have c3:¬s.next=t:=by omega
  have hFs:=aAH g.vs F ⟨[],[a,b]⟩
  have hz0:mk g.vs []=0:=(mk_zero g.vs []).2 fun _ _=>by simp
  simp only[hz0]at hFs
  by_cases hp:prP a b∈L
  ·obtain⟨v,hv⟩:=hgs hp
   have hv:aR le [min a b,max a b]=some v:=hv
   rw[if_neg (by simp[hp]),List.append_nil]at hsn
   (refine bN ?_;simp[hL0,hnl,hv];(refine hJ _ _ ?_;clear hJ J;simp only[ak,reduceIte]))
   (repeat' (first|refine qS ?_|(refine qK ?_;simp only[ak,reduceIte])|(refine qC ?_;simp[])|(refine w_e [] ?_;intro J hJ;simp only[];simp[];(refine hJ _ _ ?_;clear hJ J;simp only[ak,reduceIte]))))
   exact hJO _ _ (by simp[fi]) (by simp[fn]) ⟨by simp[f0],by simp[f16],hk.trans (aB.new _ _),t,by rw[hsn];simp[f3],t0,t1,by simp;omega,by rw[hsn];(repeat (first|rw[aG,if_neg (α:=aD) (by(try simp only[aC,aA]);omega)]|rw[aE,if_neg (α:=aD) (by omega)]|rw[aG,if_pos (α:=aD) (by(try simp only[aC,aA]))]|rw[aE,if_pos (α:=aD) (by omega)]));exact tH⟩
  ·have hv:aR le [min a b,max a b]=none:=hgn hp
   by_cases hc:a∈on∧b∈on
   ·rw[if_pos ⟨⟨hp,hc.1⟩,hc.2⟩]at hsn
    have hz:mk g.vs (off [a,b] on)=0:=(mk_zero _ _).2 fun v _ h=>by
     simp only[off,List.mem_filter,List.mem_cons,List.not_mem_nil,or_false,Bool.not_eq_true',decide_eq_false_iff_not]at h
     rcases h.1 with e|e
     ·exact h.2 (by rw[e];exact hc.1)
     ·exact h.2 (by rw[e];exact hc.2)
    have hdz:eV .u64 (mk g.vs [a,b]) (mk g.vs on)=0:=by rw[hdf];exact congrArg Int.ofNat hz
    (refine bN ?_;simp[hL0,hnl,hv];(refine hJ _ _ ?_;clear hJ J;simp only[ak,reduceIte]))
    (repeat' (first|refine qS ?_|(refine qC ?_;simp[hSb0,f0,hnS,hdz,f3,tH,t0,c1,c2,c3])|(refine w_e [] ?_;intro J hJ;simp only[];simp[hSb0,f0,hnS,hdz,f3,tH,t0,c1,c2,c3];(repeat refine ca ?_);(refine hJ _ _ ?_;clear hJ J;simp only[ak,reduceIte]))))
    exact hJO _ _ (by simp[fi]) (by simp[fn]) ⟨by simp[f0],by simp[f16],((hk.trans (aB.new _ _)).trans (aB.new _ _)).set t1 _ |>.trans (aB.new _ _),s.next+2,by rw[hsn,← hFs];simp,by omega,by omega,by simp,by rw[hsn];simp⟩
   ·rw[if_neg (by intro h;exact hc ⟨h.1.2,h.2⟩),List.append_nil]at hsn
    have hz:mk g.vs (off [a,b] on)≠0:=fun h=>by
     rw[mk_zero]at h
     have ha:=h a hends.1
     have hb:=h b hends.2
     simp[off]at ha hb
     exact hc ⟨ha,hb⟩
    have hdz:(eV .u64 (mk g.vs [a,b]) (mk g.vs on)==0)=false:=by rw[hdf];simpa[off]using hz
    (refine bN ?_;simp[hL0,hnl,hv];(refine hJ _ _ ?_;clear hJ J;simp only[ak,reduceIte]))
    (repeat' (first|refine qS ?_|(refine qK ?_;simp only[ak,reduceIte])|(refine qC ?_;simp[hSb0,f0,hnS,hdz])|(refine w_e [] ?_;intro J hJ;simp only[];simp[hSb0,f0,hnS,hdz];(refine hJ _ _ ?_;clear hJ J;simp only[ak,reduceIte]))))
    exact hJO _ _ (by simp[fi]) (by simp[fn]) ⟨by simp[f0],by simp[f16],hk.trans (aB.new _ _),t,by rw[hsn];simp[f3],t0,t1,by simp;omega,by rw[hsn];(repeat (first|rw[aG,if_neg (α:=aD) (by(try simp only[aC,aA]);omega)]|rw[aE,if_neg (α:=aD) (by omega)]|rw[aG,if_pos (α:=aD) (by(try simp only[aC,aA]))]|rw[aE,if_pos (α:=aD) (by omega)]));exact tH⟩
 ·rintro fr s ⟨f0,f16,hk,t,f3,t0,t1,t2,tH⟩
  rw[List.take_length]at f3 tH
  have hE1:(pM g L on g.es).length≤200:=by
   have h1:=List.length_filter_le (fun x=>decide (prP x.a x.b∉L)&&decide (x.a∈on)&&decide (x.b∈on)) g.es
   unfold pM;rw[List.length_map];omega
  generalize pM g L on g.es=E1 at *
  have hSk:=hS.keep hk
  have hSb0:=hSk.box
  have hdf:=nE g.vs g.vs on h64
  have hsv:=fun st' (h:ShB g.vs S pl st')=>aNp h hn h64 g.vs 0 (fun v h=>h) (by omega)
  (repeat' refine qS ?_)
  (refine w_s [] [S] [(0,true),(1,true),(2,true),(3,true),(4,true),(5,true),(7,true),(8,true),(9,true),(10,true),(6,true),(11,true),(12,true)] ?_;intro J hJ;simp[f0,hSb0])
  refine qD (hsv _ hSk.b) (by simp) ?_;rintro r s1 ⟨rfl,h1⟩
  rw[h1];clear h1 s1
  refine⟨fun h=>by first|(cases h;done)|exact fun _ _=>rfl|simp,?_⟩
  (refine bN ?_;simp[hSb0,hdf];(refine hJ _ _ ?_;clear hJ J;simp only[ak,reduceIte]))
  (repeat (first|refine qS ?_|refine qB ?_))
  refine qL (fun n fr st'=>∃ R l l2',zJ g on n R=some l2'∧l2=l++l2'∧l.length+n≤g.vs.length+1∧R.Sublist g.vs∧fr 0=.pt S 0∧fr 9=wv (mk g.vs R)∧aB st st'∧∃ t,fr 3=.sl t (E1++l).length (jS g.vs (E1++l))∧aAK t 121 2 (E1++l).length st st') (g.vs.length+1) ?_ ?_
  ·exact⟨off g.vs on,[],l2,hl2,rfl,by simp,List.filter_sublist,by simp[f0],by simp[off],hk,t,by simp[f3],t0,t1,t2,by simpa using tH⟩
  ·clear f0 f16 hk f3 t0 t1 t2 tH hSk hSb0 fr s
   rintro n fr s ⟨R,l,l2',hr,rfl,hln,hsub,f0,f9,hk,t,f3,t0,t1,t2,tH⟩ JJ hJJ
   have hSk:=hS.keep hk
   obtain⟨hSb0,hN0,-,-,-,p1,p2,p3,p4⟩:=id hSk
   have hRv:∀ v∈R,v∈g.vs:=fun v hv=>hsub.subset hv
   cases R with
   |nil=>
    have hz:mk g.vs []=0:=(mk_zero g.vs []).2 fun _ _=>by simp
    rw[hz]at f9
    have hl2':l2'=[]:=by cases n<;>simpa[zJ]using hr.symm
    subst hl2'
    rw[List.append_nil]
    (repeat' (first|refine qS ?_|(refine qX ?_;simp only[ak,reduceIte])|(refine qR ?_;simp only[ak,reduceIte];simp[f9,f3])|(refine qC ?_;simp[f9,f3])|(refine w_e [] ?_;intro J hJ;simp only[];simp[f9,f3];(refine hJ _ _ ?_;clear hJ J;simp only[ak,reduceIte]))))
    exact⟨by simp[z0,iV,aNP],hk⟩
   |cons v R=>
    obtain⟨hfv,hflt⟩:=aAl hn hsub
    have hne:=aAS hflt
    have hb:((mk g.vs (v::R):Int) != 0)=true:=by simpa using hne
    have hlow:=aNM h64 hn hflt
    rw[hfv,Int.zero_sub]at hlow
    cases n with
    |zero=>simp[zJ]at hr
    |succ n=>
     rw[zJ]at hr
     obtain⟨b,hgb,hr⟩:=Option.bind_eq_some_iff.1 hr
     obtain⟨l3,hr3,rfl⟩:=Option.map_eq_some_iff.1 hr
     have hvv:∀ w∈[v],w∈g.vs:=fun w hw=>by rw[List.mem_singleton]at hw;rw[hw];exact hRv v (by simp)
     (repeat' (first|refine qS ?_|refine qB ?_|(refine qK ?_;simp only[ak,reduceIte])|(refine qC ?_;simp[f0,f9,hb,hlow])|(refine w_e [] ?_;intro J hJ;simp only[];simp[f0,f9,hb,hlow];(try (refine hJ _ _ ?_;clear hJ J;simp only[ak,reduceIte])))))
     refine qE (aDs hSk hn h64 [v] hvv) (by simp) ?_;rintro r s1 ⟨rfl,h1⟩
     rw[h1];clear h1 s1
     (refine aL ?_;simp[];(refine hJ _ _ ?_;clear hJ J;simp only[ak,reduceIte]))
     (repeat (first|refine qS ?_|refine qB ?_))
     refine qL (fun m fr st'=>∃ inner,aDo g on m inner=some b∧(∀ w∈inner,w∈g.vs)∧fr 0=.pt S 0∧fr 9=wv (mk g.vs (v::R))∧fr 3=.sl t (E1++l).length (jS g.vs (E1++l))∧fr 10=wv (mk g.vs inner)∧fr 11=wv (mk g.vs (arn g inner))∧st'=s) (g.vs.length+1) ?_ ?_
     ·exact⟨[v],hgb,hvv,by simp[f0],by simp[f9],by simp[f3],by simp,by simp,rfl⟩
     ·clear f0 f9 f3 fr
      rintro m fr s3 ⟨inner,hgi,hiv,f0,f9,f3,f10,f11,hs3⟩ JI hJI
      subst hs3
      cases m with
      |zero=>simp[aDo]at hgi
      |succ m=>
       have hRR:∀ w∈nrS g.vs (arn g inner),w∈g.vs:=fun w hw=>(List.mem_filter.1 hw).1
       rw[← aBb]at f11
       rw[aDo]at hgi
       generalize nrS g.vs (arn g inner)=RR at *
       have hd1:eV .u64 (mk g.vs RR) (mk g.vs on)=mk g.vs (off RR on):=nE g.vs RR on h64
       have hd2:eV .u64 (mk g.vs (off RR on)) (mk g.vs inner)=mk g.vs (off (off RR on) inner):=nE g.vs _ inner h64
       by_cases hc:off (off RR on) inner=[]
       ·rw[if_pos hc]at hgi
        have hbe:b=⟨inner,on' RR on⟩:=by simpa using hgi.symm
        subst hbe
        have hz:mk g.vs (off (off RR on) inner)=0:=by rw[hc];exact(mk_zero g.vs []).2 fun _ _=>by simp
        have hb2:((mk g.vs (off (off RR on) inner):Int) != 0)=false:=by rw[hz];rfl
        have hd3:yM .u64 (mk g.vs RR) (mk g.vs on)=mk g.vs (on' RR on):=aIV g.vs RR on h64
        have hd4:eV .u64 (mk g.vs (v::R)) (mk g.vs inner)=mk g.vs (off (v::R) inner):=nE g.vs _ inner h64
        have c1:¬t=s3.next:=by omega
        have c2:¬s3.next=t:=by omega
        have hFs:=aAH g.vs (E1++l) ⟨inner,on' RR on⟩
        have hle:(E1++l).length≤300:=by rw[List.length_append];have:=hg.h64;omega
        rw[List.append_assoc]at hFs
        have hlen:(E1++l).length+1=(E1++(l++[(⟨inner,on' RR on⟩:Brg)])).length:=by simp;omega
        generalize hEl:E1++l=El at *
        (repeat' (first|refine qS ?_|(refine qX ?_;simp only[ak,reduceIte])|(refine qC ?_;simp[f0,f9,f10,f11,f3,hSb0,hd1,hd2,hb2,hd3,hd4,tH,t0,c1,c2])|(refine w_e [] ?_;intro J hJ;simp only[];simp[f0,f9,f10,f11,f3,hSb0,hd1,hd2,hb2,hd3,hd4,tH,t0,c1,c2];(repeat refine ca ?_);(refine hJ _ _ ?_;clear hJ J;simp only[ak,reduceIte]))))
        exact hJJ _ _ _ (Nat.lt_succ_self n) ⟨off (v::R) inner,l++[⟨inner,on' RR on⟩],l3,hr3,by simp,by simp;omega,List.filter_sublist.trans hsub,by simp[f0],by simp,((hk.trans (aB.new _ _)).set t1 _).trans (aB.new _ _),s3.next+1,by rw[← hFs,← hlen];simp,by omega,by omega,by simp,by rw[← hlen];simp⟩
       ·rw[if_neg hc]at hgi
        have hz:mk g.vs (off (off RR on) inner)≠0:=fun h=>hc ((aFr fun w hw=>hRR w (List.mem_filter.1 hw).1).1 h)
        have hb2:((mk g.vs (off (off RR on) inner):Int) != 0)=true:=by simpa using hz
        have hor:gor .u64 (mk g.vs inner) (mk g.vs (off RR on))=mk g.vs (nrS g.vs (inner++off RR on)):=by rw[yQ _ _ _ h64,aBb]
        have hnv:∀ w∈nrS g.vs (inner++off RR on),w∈g.vs:=fun w hw=>(List.mem_filter.1 hw).1
        generalize nrS g.vs (inner++off RR on)=IN at *
        (repeat' (first|refine qS ?_|refine qB ?_|(refine qK ?_;simp only[ak,reduceIte])|(refine qC ?_;simp[f0,f10,f11,hSb0,hd1,hd2,hb2,hor])|(refine w_e [] ?_;intro J hJ;simp only[];simp[f0,f10,f11,hSb0,hd1,hd2,hb2,hor];(try (refine hJ _ _ ?_;clear hJ J;simp only[ak,reduceIte])))))
        refine qE (aDs hSk hn h64 IN hnv) (by simp) ?_;rintro r s1 ⟨rfl,h1⟩
        rw[h1];clear h1 s1
        (refine aL ?_;simp[];(refine hJ _ _ ?_;clear hJ J;simp only[ak,reduceIte]))
        exact hJI _ _ _ (Nat.lt_succ_self m) ⟨IN,hgi,hnv,by simp[f0],by simp[f9],by simp[f3],by simp,by simp,rfl⟩
def eN(vs:List Int)(F:List (List Int)):List LV:=F.flatMap fun r=>[.sl 0 r.length (us r),wv (mk vs r)]
@[simp] theorem lX(vs:List Int):∀ F:List (List Int),(eN vs F).length=F.length*2
  |[]=>rfl
  |r::F=>by have:=lX vs F;simp only[eN,List.flatMap_cons,List.length_append,List.length_cons,List.length_nil]at this ⊢;omega
theorem nG(vs:List Int):∀(F:List (List Int)) (k:Nat),k<F.length→(eN vs F).drop (k*2)=.sl 0 (F.getD k []).length (us (F.getD k []))::wv (mk vs (F.getD k []))::eN vs (F.drop (k+1))
 |r::F,0,_=>by simp[eN]
 |r::F,k+1,h=>by
  have:=nG vs F k (by simpa using h)
  rw[show(k+1)*2=k*2+2 by omega]
  simp only[eN,List.flatMap_cons,List.cons_append,List.nil_append,List.drop_succ_cons]at this ⊢
  rw[this];simp
 |[],k,h=>by simp at h
theorem aAJ(vs:List Int):∀(B:List Brg) (k:Nat),k<B.length→(jS vs B).drop (k*2)=wv (mk vs (B.getD k ⟨[],[]⟩).inner)::wv (mk vs (B.getD k ⟨[],[]⟩).ends)::jS vs (B.drop (k+1))
 |r::F,0,_=>by simp[jS]
 |r::F,k+1,h=>by
  have:=aAJ vs F k (by simpa using h)
  rw[show(k+1)*2=k*2+2 by omega]
  simp only[jS,List.flatMap_cons,List.cons_append,List.nil_append,List.drop_succ_cons]at this ⊢
  rw[this];simp
 |[],k,h=>by simp at h
def pB(b:Brg)(p:Int×Int)(r:List Int×Nat):Int×Int:=if off b.ends r.1=[]then(if p.2=0 then(r.2:Int)else p.1,p.2+1)else p
def gV(b:Brg)(F:List (List Int×Nat)):Int×Int:=F.foldl (pB b) (-1,0)
def cS(F:List (List Int)):List Brg→Brg×Int→Brg×Int
 |[],best=>best
 |b::l,best=>if(gV b F.zipIdx).2≤1 then(b,(gV b F.zipIdx).1)else cS F l (if best.2<0 then(b,(gV b F.zipIdx).1)else best)
theorem aEX(b:Brg)(F:List (List Int))(k:Nat)(hk:k<F.length):gV b (F.zipIdx.take (k+1))=pB b (gV b (F.zipIdx.take k)) (F.getD k [],k):=by
 unfold gV
 have hz:k<F.zipIdx.length:=by simpa using hk
 rw[List.take_succ_eq_append_getElem hz,List.foldl_append,List.getElem_zipIdx,List.getD_eq_getElem?_getD,List.getElem?_eq_getElem hk]
 simp
theorem aDW(b:Brg):∀(F:List (List Int×Nat)),0≤(gV b F).2∧(gV b F).2≤F.length:=by
 have key:∀(F:List (List Int×Nat)) (p:Int×Int),0≤p.2→0≤(F.foldl (pB b) p).2∧(F.foldl (pB b) p).2≤p.2+F.length:=by
  intro F
  induction F with
  |nil=>intro p h;simpa using h
  |cons r F ih=>
   intro p h
   have h1:0≤(pB b p r).2∧(pB b p r).2≤p.2+1:=by unfold pB;by_cases e:off b.ends r.1=[];(· rw[if_pos e];simp only;omega);(· rw[if_neg e];omega)
   have:=ih (pB b p r) h1.1
   rw[List.foldl_cons,List.length_cons]
   omega
 intro F
 have:=key F (-1,0) (by simp)
 unfold gV
 simp only at this
 omega
structure ShA(g:Gr)(L:List (Int×Int))(on:List Int)(F:List (List Int))(S nl pl ll fl:Nat)(le:List (List Int×LV))(st:St):Prop where
 r:ShR g L on S nl pl ll (.ms fl 0 F.length) le st
 fac:st.H fl=.box 127 2 (eN g.vs F)
 flt:fl<st.next
 sub:∀ r∈F,∀ v∈r,v∈g.vs
 onv:∀ v∈on,v∈g.vs
 few:F.length≤300
theorem ShA.keep{g:Gr}{L:List (Int×Int)}{on:List Int}{F:List (List Int)}{S nl pl ll fl:Nat}{le:List (List Int×LV)}{st st':St}(h:ShA g L on F S nl pl ll fl le st)(k:aB st st'):ShA g L on F S nl pl ll fl le st':=
 ⟨h.r.keep k,(k.H _ h.flt).trans h.fac,Nat.lt_of_lt_of_le h.flt k.next,h.sub,h.onv,h.few⟩
abbrev aMw(vs:List Int)(b:Brg):LV:=.ag [wv (mk vs b.inner),wv (mk vs b.ends)]
set_option maxHeartbeats 2000000 in
theorem aKw{g:Gr}(hg:GP g){L:List (Int×Int)}{on:List Int}{F:List (List Int)}{S nl pl ll fl:Nat}{le:List (List Int×LV)}{st:St}(hS:ShA g L on F S nl pl ll fl le st){B:List Brg}(hB:aKH g L on=some B)(hBe:∀ b∈B,∀ v∈b.ends,v∈g.vs)(hBl:B.length≤300):
 aF Tryz.prog 75 [.pt S 0] st fun r st'=>r=.tu [aMw g.vs (cS F B (⟨[],[]⟩,-1)).1,i (cS F B (⟨[],[]⟩,-1)).2]∧st'=st:=by
 refine qT (Q:=fun r=>r=.tu [aMw g.vs (cS F B (⟨[],[]⟩,-1)).1,i (cS F B (⟨[],[]⟩,-1)).2]) ?_ fun r h=>by subst h;exact⟨⟨trivial,trivial,trivial⟩,trivial,trivial⟩
 have h64:=hg.h64
 have hz:mk g.vs []=0:=(mk_zero g.vs []).2 fun _ _=>by simp
 have hq:=hS.r.lt
 refine qO aK Tryz.func75 rfl rfl Tryz.ntmps75 (rs:=[.cell 2 121,.tmp 3]) rfl (by simp) ?_
 (repeat' (first|refine qS ?_|(refine w_e [] ?_;intro J hJ;simp only[];simp[];(try (refine hJ _ _ ?_;clear hJ J;simp only[ak,reduceIte])))))
 refine qE (aJs hg hS.onv (hS.r.keep ((aB.new _ _).trans (aB.new _ _))) hB) (by simp) ?_;rintro r s1 ⟨rfl,h1⟩
 rw[h1];clear h1 s1
 (repeat' (first|refine qB ?_|(refine aL ?_;simp[];(refine hJ _ _ ?_;clear hJ J;simp only[ak,reduceIte]))))
 have e0:¬st.next=st.next+1:=by omega
 have hbl:=aCR g.vs B
 have hfl:=lX g.vs F
 have hfew:=hS.few
 generalize hCC:cS F B (⟨[],[]⟩,-1)=CC
 refine aP 15 14 16 49 (B.length) (fun j fr st2=>fr 0=.pt S 0∧fr 2=.pt st.next 0∧fr 4=.pt (st.next+1) 0∧fr 13=.sl 0 B.length (jS g.vs B)∧aB st st2∧st.next+1<st2.next∧st2.H st.next=.box 121 2 [wv 0,wv 0]∧∃ best at_,fr 5=i at_∧st2.H (st.next+1)=.box 121 2 [wv (mk g.vs best.inner),wv (mk g.vs best.ends)]∧cS F (B.drop j) (best,at_)=CC) ?_ ?_ ?_
 ·exact⟨by simp,by simp,by simp,by simp,(aB.new _ _).trans (aB.new _ _),by simp,by simp[e0],⟨[],[]⟩,-1,by simp,by simp[hz],hCC⟩
 ·rintro jo fr s hlt ⟨f0,f2,f4,f13,hk,hsn,hR,best,at_,f5,hB5,hch⟩ fi fn JO hJO
  have hd:=aAJ g.vs B jo hlt
  have hk2:jo*2<B.length*2:=by omega
  rw[List.drop_eq_getElem_cons hlt,cS]at hch
  have hbm:B.getD jo ⟨[],[]⟩=B[jo]:=by rw[List.getD_eq_getElem?_getD,List.getElem?_eq_getElem hlt];rfl
  have hbe:=hBe _ (List.getElem_mem hlt)
  rw[hbm]at hd
  generalize B[jo]=b at *
  have hSk:=hS.keep hk
  obtain⟨hSb,-,-,-,-,p1,p2,p3,p4⟩:=id hSk.r
  have hF:=hSk.fac
  have hFl:=hSk.flt
  have x1:¬S=s.next:=by omega
  have x2:¬fl=s.next:=by omega
  have x3:¬st.next=s.next:=by omega
  have x4:¬st.next+1=s.next:=by omega
  (repeat' (first|refine qS ?_|refine qB ?_|(refine w_e [] ?_;intro J hJ;simp only[];simp[f0,f13,fi,fn,hd,hk2,hbl,hlt,hSb,x1];(refine hJ _ _ ?_;clear hJ J;simp only[ak,reduceIte]))))
  refine aP 24 23 25 40 (F.length) (fun j fr st2=>fr 0=.pt S 0∧fr 2=.pt st.next 0∧fr 4=.pt (st.next+1) 0∧fr 13=.sl 0 B.length (jS g.vs B)∧fr 14=i B.length∧fr 15=i jo∧fr 5=i at_∧fr 7=.pt s.next 0∧fr 22=.ms fl 0 F.length∧fr 8=i (gV b (F.zipIdx.take j)).1∧fr 9=i (gV b (F.zipIdx.take j)).2∧aB (s.new (.box 121 2 [wv (mk g.vs b.inner),wv (mk g.vs b.ends)])) st2) ?_ ?_ ?_
  ·exact⟨by simp[f0],by simp[f2],by simp[f4],by simp[f13],by simp[fn],by simp[fi],by simp[f5],by simp,by simp,by simp[gV],by simp[gV],aB.refl _⟩
  ·clear f0 f2 f4 f13 f5 fi fn fr
   rintro k fr s2 hlk ⟨f0,f2,f4,f13,f14,f15,f5,f7,f22,f8,f9,hk3⟩ fi fn JI hJI
   have hn3:=hk3.next
   simp only[aA]at hn3
   have hbx:s2.H s.next=.box 121 2 [wv (mk g.vs b.inner),wv (mk g.vs b.ends)]:=by rw[hk3.H _ (by simp)];simp
   have hF2:s2.H fl=.box 127 2 (eN g.vs F):=by rw[hk3.H _ (by simp;omega),aG,if_neg x2];exact hF
   have hdF:=nG g.vs F k hlk
   have hsc:=aEX b F k hlk
   have hle:=aDW b (F.zipIdx.take k)
   rw[List.length_take,List.length_zipIdx]at hle
   generalize F.getD k []=rr at *
   generalize hpp:gV b (F.zipIdx.take k)=pp at *
   obtain⟨p1',p2'⟩:=pp
   simp only at hle f8 f9
   have hk22:k*2<F.length*2:=by omega
   have hdf:eV .u64 (mk g.vs b.ends) (mk g.vs rr)=mk g.vs (off b.ends rr):=nE g.vs b.ends rr h64
   have y1:¬s.next=s2.next:=by omega
   have y2:¬fl=s2.next:=by omega
   have hw:=wrap_i64 (p2'+1) (by omega) (by omega)
   unfold pB at hsc
   by_cases hfit:off b.ends rr=[]
   ·have hb:((mk g.vs (off b.ends rr):Int) != 0)=false:=by rw[hfit,hz];rfl
    rw[if_pos hfit]at hsc
    simp only at hsc
    by_cases h0:p2'=0
    ·have hb0:(p2'==0)=true:=by simpa using h0
     rw[if_pos h0]at hsc
     (repeat' (first|refine qS ?_|(refine qK ?_;simp only[ak,reduceIte])|(refine qC ?_;simp[f7,f22,f8,f9,fi,fn,hdF,hF2,hlk,hk22,hfl,hbx,y1,y2,hdf,hb,hb0,hw])|(refine w_e [] ?_;intro J hJ;simp only[];simp[f7,f22,f8,f9,fi,fn,hdF,hF2,hlk,hk22,hfl,hbx,y1,y2,hdf,hb,hb0,hw];(refine hJ _ _ ?_;clear hJ J;simp only[ak,reduceIte]))))
     exact hJI _ _ (by simp[fi]) (by simp[fn]) ⟨by simp[f0],by simp[f2],by simp[f4],by simp[f13],by simp[f14],by simp[f15],by simp[f5],by simp[f7],by simp[f22],by rw[hsc];simp,by rw[hsc];simp,hk3.trans (aB.new _ _)⟩
    ·have hb0:(p2'==0)=false:=by simpa using h0
     rw[if_neg h0]at hsc
     (repeat' (first|refine qS ?_|(refine qK ?_;simp only[ak,reduceIte])|(refine qC ?_;simp[f7,f22,f8,f9,fi,fn,hdF,hF2,hlk,hk22,hfl,hbx,y1,y2,hdf,hb,hb0,hw])|(refine w_e [] ?_;intro J hJ;simp only[];simp[f7,f22,f8,f9,fi,fn,hdF,hF2,hlk,hk22,hfl,hbx,y1,y2,hdf,hb,hb0,hw];(refine hJ _ _ ?_;clear hJ J;simp only[ak,reduceIte]))))
     exact hJI _ _ (by simp[fi]) (by simp[fn]) ⟨by simp[f0],by simp[f2],by simp[f4],by simp[f13],by simp[f14],by simp[f15],by simp[f5],by simp[f7],by simp[f22],by rw[hsc];simp[f8],by rw[hsc];simp,hk3.trans (aB.new _ _)⟩
   ·have hb:((mk g.vs (off b.ends rr):Int) != 0)=true:=by
     have:mk g.vs (off b.ends rr)≠0:=fun h=>hfit ((aFr hbe).1 h)
     simpa using this
    rw[if_neg hfit]at hsc
    (repeat' (first|refine qS ?_|(refine qX ?_;simp only[ak,reduceIte])|(refine qC ?_;simp[f7,f22,f8,f9,fi,fn,hdF,hF2,hlk,hk22,hfl,hbx,y1,y2,hdf,hb])|(refine w_e [] ?_;intro J hJ;simp only[];simp[f7,f22,f8,f9,fi,fn,hdF,hF2,hlk,hk22,hfl,hbx,y1,y2,hdf,hb];(refine hJ _ _ ?_;clear hJ J;simp only[ak,reduceIte]))))
    exact hJI _ _ (by simp[fi]) (by simp[fn]) ⟨by simp[f0],by simp[f2],by simp[f4],by simp[f13],by simp[f14],by simp[f15],by simp[f5],by simp[f7],by simp[f22],by rw[hsc];simp[f8],by rw[hsc];simp[f9],hk3.trans (aB.new _ _)⟩
  ·clear f0 f2 f4 f13 f5 fi fn fr
   rintro fr s2 ⟨f0,f2,f4,f13,f14,f15,f5,f7,f22,f8,f9,hk3⟩
   rw[List.take_of_length_le (by simp)]at f8 f9
   have hle:=aDW b F.zipIdx
   generalize hpp:gV b F.zipIdx=pp at *
   obtain⟨p1',p2'⟩:=pp
   simp only at hle f8 f9 hch
   have hn3:=hk3.next
   simp only[aA]at hn3
   have hbx:s2.H s.next=.box 121 2 [wv (mk g.vs b.inner),wv (mk g.vs b.ends)]:=by rw[hk3.H _ (by simp)];simp
   have hR2:s2.H st.next=.box 121 2 [wv 0,wv 0]:=by rw[hk3.H _ (by simp;omega),aG,if_neg x3];exact hR
   have hB2:s2.H (st.next+1)=.box 121 2 [wv (mk g.vs best.inner),wv (mk g.vs best.ends)]:=by rw[hk3.H _ (by simp;omega),aG,if_neg x4];exact hB5
   have hkk:=(hk.trans (aB.new _ _)).trans hk3
   have z1:¬s.next=st.next:=by omega
   have z2:¬st.next+1=st.next:=by omega
   by_cases hn1:p2'≤1
   ·rw[if_pos hn1]at hch
    subst hch
    (repeat' (first|refine qS ?_|(refine qR ?_;simp only[ak,reduceIte];simp[f2,f7,f8,f9,hn1,hbx,hR2,z1])|(refine qC ?_;simp[f2,f7,f8,f9,hn1,hbx,hR2,z1])|(refine w_e [] ?_;intro J hJ;simp only[];simp[f2,f7,f8,f9,hn1,hbx,hR2,z1];(refine hJ _ _ ?_;clear hJ J;simp only[ak,reduceIte]))))
    exact hkk.set (Nat.le_refl _) _
   ·rw[if_neg hn1]at hch
    by_cases hat:at_<0
    ·rw[if_pos hat]at hch
     (repeat' (first|refine qS ?_|(refine qK ?_;simp only[ak,reduceIte])|(refine qC ?_;simp[f4,f5,f7,f8,f9,hn1,hat,hbx,hB2])|(refine w_e [] ?_;intro J hJ;simp only[];simp[f4,f5,f7,f8,f9,hn1,hat,hbx,hB2];(refine hJ _ _ ?_;clear hJ J;simp only[ak,reduceIte]))))
     exact hJO _ _ (by simp[f15]) (by simp[f14]) ⟨by simp[f0],by simp[f2],by simp[f4],by simp[f13],hkk.set (by omega) _,by simp;omega,by(repeat (first|rw[aG,if_neg (α:=aD) (by(try simp only[aC,aA]);omega)]|rw[aE,if_neg (α:=aD) (by omega)]|rw[aG,if_pos (α:=aD) (by(try simp only[aC,aA]))]|rw[aE,if_pos (α:=aD) (by omega)]));exact hR2,b,p1',by simp,by simp,hch⟩
    ·rw[if_neg hat]at hch
     (repeat' (first|refine qS ?_|(refine qK ?_;simp only[ak,reduceIte])|(refine qC ?_;simp[f4,f5,f7,f8,f9,hn1,hat])|(refine w_e [] ?_;intro J hJ;simp only[];simp[f4,f5,f7,f8,f9,hn1,hat];(refine hJ _ _ ?_;clear hJ J;simp only[ak,reduceIte]))))
     exact hJO _ _ (by simp[f15]) (by simp[f14]) ⟨by simp[f0],by simp[f2],by simp[f4],by simp[f13],hkk,by omega,hR2,best,at_,by simp[f5],hB2,hch⟩
 ·rintro fr s ⟨f0,f2,f4,f13,hk,hsn,hR,best,at_,f5,hB5,hch⟩
  rw[List.drop_length,cS]at hch
  subst hch
  have z1:¬st.next+1=st.next:=by omega
  (repeat' (first|refine qS ?_|(refine qR ?_;simp only[ak,reduceIte];simp[f2,f4,f5,hB5,hR,z1])|(refine w_e [] ?_;intro J hJ;simp only[];simp[f2,f4,f5,hB5,hR,z1];(refine hJ _ _ ?_;clear hJ J;simp only[ak,reduceIte]))))
  exact hk.set (Nat.le_refl _) _
theorem uL{α:Type}(f:α→Int):∀ {a b:List α},(a.map f).Pairwise (· < ·)→(b.map f).Pairwise (· < ·)→(∀ x,x∈a↔x∈b)→a=b
 |[],[],_,_,_=>rfl
 |[],y::b,_,_,h=>by have:=(h y).2 (by simp);simp at this
 |x::a,[],_,_,h=>by have:=(h x).1 (by simp);simp at this
 |x::a,y::b,ha,hb,h=>by
  simp only[List.map_cons,List.pairwise_cons,List.mem_map,forall_exists_index,and_imp,forall_apply_eq_imp_iff₂]at ha hb
  have hxy:x=y:=by
   rcases List.mem_cons.1 ((h x).1 (by simp))with h1|h1
   ·exact h1
   ·rcases List.mem_cons.1 ((h y).2 (by simp))with h2|h2
    ·exact h2.symm
    ·have:=ha.1 y h2;have:=hb.1 x h1;omega
  subst hxy
  congr 1
  refine uL f ha.2 hb.2 fun z=>?_
  have hz:=h z
  rw[List.mem_cons,List.mem_cons]at hz
  constructor
  ·intro hza
   rcases hz.1 (.inr hza)with h1|h1
   ·subst h1;have:=ha.1 z hza;omega
   ·exact h1
  ·intro hzb
   rcases hz.2 (.inr hzb)with h1|h1
   ·subst h1;have:=hb.1 z hzb;omega
   ·exact h1
section
variable {α:Type} (f:α→Int)
end
theorem aCN{α:Type}{P:List α→Prop}(h0:P [])(h1:∀ l x,P l→P (l++[x]))(l:List α):P l:=by
 rw[← List.reverse_reverse l]
 generalize l.reverse=r
 induction r with
 |nil=>exact h0
 |cons x r ih=>rw[List.reverse_cons];exact h1 _ _ ih
def bes(x y:Ed):Bool:=decide (x.a=y.a∧x.b=y.b∨x.a=y.b∧x.b=y.a)
theorem uR{x y:Ed}:bes x y=true↔(x.a=y.a∧x.b=y.b∨x.a=y.b∧x.b=y.a):=by simp[bes]
theorem mO{x y:Ed}(h:bes x y=true):bes y x=true:=by
 rw[uR]at h ⊢
 rcases h with⟨h1,h2⟩|⟨h1,h2⟩
 ·exact .inl ⟨h1.symm,h2.symm⟩
 ·exact .inr ⟨h2.symm,h1.symm⟩
theorem aCC(x:Ed):bes x x=true:=by rw[uR];exact .inl ⟨rfl,rfl⟩
theorem sH{x y z:Ed}(h:bes x y=true)(k:bes y z=true):bes x z=true:=by
 rw[uR]at h k ⊢
 rcases h with⟨h1,h2⟩|⟨h1,h2⟩<;>rcases k with⟨k1,k2⟩|⟨k1,k2⟩
 ·exact .inl ⟨h1.trans k1,h2.trans k2⟩
 ·exact .inr ⟨h1.trans k1,h2.trans k2⟩
 ·exact .inr ⟨h1.trans k2,h2.trans k1⟩
 ·exact .inl ⟨h1.trans k2,h2.trans k1⟩
def sE(l:List Ed):List Ed:=l.foldl (fun acc x=>if acc.any (bes x)then acc else acc++[x]) []
theorem kU(l:List Ed)(x:Ed):sE (l++[x])=if(sE l).any (bes x)then sE l else sE l++[x]:=by
 simp[sE,List.foldl_append]
theorem yW(l:List Ed):∀ x∈sE l,x∈l:=by
 induction l using aCN with
 |h0=>simp[sE]
 |h1 l x ih=>
  intro y hy
  rw[kU]at hy
  split at hy
  ·exact List.mem_append_left _ (ih y hy)
  ·rcases List.mem_append.1 hy with h|h
   ·exact List.mem_append_left _ (ih y h)
   ·exact List.mem_append_right _ h
theorem aMU(l:List Ed):∀ x∈l,∃ y∈sE l,bes x y=true:=by
 induction l using aCN with
 |h0=>simp
 |h1 l x ih=>
  intro y hy
  rw[kU]
  rcases List.mem_append.1 hy with h|h
  ·obtain⟨z,h1,h2⟩:=ih y h
   split
   ·exact⟨z,h1,h2⟩
   ·exact⟨z,List.mem_append_left _ h1,h2⟩
  ·rw[List.mem_singleton]at h
   subst h
   split
   ·rename_i ha
    rw[List.any_eq_true]at ha
    obtain⟨z,h1,h2⟩:=ha
    exact⟨z,h1,h2⟩
   ·exact⟨y,List.mem_append_right _ (by simp),aCC y⟩
theorem xO(l:List Ed):(sE l).length≤l.length:=by
 induction l using aCN with
 |h0=>simp[sE]
 |h1 l x ih=>
  rw[kU]
  split
  ·rw[List.length_append];omega
  ·rw[List.length_append,List.length_append];simp only[List.length_cons,List.length_nil];omega
theorem aJH(l:List Ed):(sE l).Pairwise fun x y=>bes x y=false:=by
 induction l using aCN with
 |h0=>simp[sE]
 |h1 l x ih=>
  rw[kU]
  split
  ·exact ih
  ·rename_i ha
   rw[List.pairwise_append]
   refine⟨ih,List.pairwise_singleton _ _,fun y hy z hz=>?_⟩
   rw[List.mem_singleton]at hz
   subst hz
   cases hb:bes y z with
   |false=>rfl
   |true=>exact absurd (List.any_eq_true.2 ⟨y,hy,mO hb⟩) ha
abbrev hf(x:Ed):List (Int×Int):=[(x.a,x.b),(x.b,x.a)]
def hfs(l:List Ed):List (Int×Int):=l.flatMap hf
theorem aJx(l:List Ed)(x:Ed):hfs (l++[x])=hfs l++[(x.a,x.b)]++[(x.b,x.a)]:=by simp[hfs]
theorem aBR(l:List Ed):(hfs l).length=2*l.length:=by
 induction l with
 |nil=>rfl
 |cons x l ih=>simp only[hfs,List.flatMap_cons,List.length_append,List.length_cons,List.length_nil]at ih ⊢;omega
def nbH(v:Int)(H:List (Int×Int)):List Int:=(H.filter fun p=>decide (p.1=v)).map (·.2)
theorem aDi(v:Int)(H:List (Int×Int))(p:Int×Int):nbH v (H++[p])=nbH v H++if p.1=v then [p.2]else []:=by
 unfold nbH
 rw[List.filter_append,List.map_append]
 by_cases h:p.1=v
 ·simp[h]
 ·simp[h]
theorem uX(v:Int)(H:List (Int×Int)):(nbH v H).length≤H.length:=by
 unfold nbH
 rw[List.length_map]
 exact List.length_filter_le _ _
def aGO(x:Int):List Int→List Int
 |[]=>[x]
 |y::l=>if x≤y then x::y::l else y::aGO x l
def srt:List Int→List Int
 |[]=>[]
 |x::l=>aGO x (srt l)
theorem aAs(x:Int)(l:List Int):(aGO x l).Perm (x::l):=by
 induction l with
 |nil=>exact .refl _
 |cons y l ih=>
  unfold aGO
  split
  ·exact .refl _
  ·exact(ih.cons y).trans (.swap x y l)
theorem pO(l:List Int):(srt l).Perm l:=by
 induction l with
 |nil=>exact .refl _
 |cons x l ih=>exact(aAs x _).trans (ih.cons x)
theorem aCe(x:Int){l:List Int}(h:l.Pairwise (·≤·)):(aGO x l).Pairwise (·≤·):=by
 induction l with
 |nil=>exact List.pairwise_singleton _ _
 |cons y l ih=>
  have h':=List.pairwise_cons.1 h
  unfold aGO
  split
  ·rename_i hxy
   refine List.pairwise_cons.2 ⟨fun z hz=>?_,h⟩
   rcases List.mem_cons.1 hz with rfl|hz
   ·exact hxy
   ·have:=h'.1 z hz;omega
  ·rename_i hxy
   refine List.pairwise_cons.2 ⟨fun z hz=>?_,ih h'.2⟩
   rcases List.mem_cons.1 ((aAs x l).mem_iff.1 hz)with rfl|hz
   ·omega
   ·exact h'.1 z hz
theorem aEN(l:List Int):(srt l).Pairwise (·≤·):=by
 induction l with
 |nil=>exact .nil
 |cons x l ih=>exact aCe x ih
theorem oB:∀ {a b:List Int},a.Pairwise (·≤·)→b.Pairwise (·≤·)→a.Perm b→a=b
 |[],b,_,_,h=>by rw[h.nil_eq]
 |x::a,[],_,_,h=>absurd h.symm.nil_eq (by simp)
 |x::a,y::b,ha,hb,h=>by
  obtain⟨a1,a2⟩:=List.pairwise_cons.1 ha
  obtain⟨b1,b2⟩:=List.pairwise_cons.1 hb
  have hxy:x=y:=by
   have h1:x∈y::b:=h.mem_iff.1 (by simp)
   have h2:y∈x::a:=h.mem_iff.2 (by simp)
   rcases List.mem_cons.1 h1 with h1|h1
   ·exact h1
   ·rcases List.mem_cons.1 h2 with h2|h2
    ·exact h2.symm
    ·have:=b1 x h1
     have:=a1 y h2
     omega
  subst hxy
  rw[oB a2 b2 ((List.perm_cons x).1 h)]
theorem aNv{c l:List Int}(h:c.Perm l)(hs:c.Pairwise (·≤·)):c=srt l:=oB hs (aEN l) (h.trans (pO l).symm)
def dG(es:List Ed)(v:Int):List Int:=srt (nbH v (hfs (sE es)))
def adj(es:List Ed)(v w:Int):Prop:=∃ x∈es,(x.a=v∧x.b=w)∨(x.a=w∧x.b=v)
instance (es:List Ed) (v w:Int):Decidable (adj es v w):=by unfold adj;exact inferInstance
theorem aHj(es:List Ed)(v:Int):(dG es v).length≤2*es.length:=by
 have h1:=(pO (nbH v (hfs (sE es)))).length_eq
 have h2:=uX v (hfs (sE es))
 have h3:=aBR (sE es)
 have h4:=xO es
 unfold dG
 omega
abbrev Led:=List (Int×Int)
def lF(A:Led)(v:Int):Option Int:=match A with
 |[]=>none
 |p::A=>if v=p.1 then some p.2 else lF A v
theorem xV{v:Int}:∀ {A:Led},v∉A.map (·.1)→lF A v=none
 |[],_=>rfl
 |p::A,h=>by
  simp only[List.map_cons,List.mem_cons,not_or]at h
  simp only[lF]
  rw[if_neg h.1,xV h.2]
theorem vZ{v:Int}:∀ {A:Led},v∈A.map (·.1)→∃ w,lF A v=some w
 |[],h=>by simp at h
 |p::A,h=>by
  simp only[lF]
  by_cases e:v=p.1
  ·exact⟨p.2,by rw[if_pos e]⟩
  ·rw[if_neg e]
   simp only[List.map_cons,List.mem_cons]at h
   exact vZ (h.resolve_left e)
structure BF where
 A:Led
 Q:List Int
 hit:Bool
def jY(may:Int→Bool)(to v:Int)(S:BF)(u:Int):BF:=
 if S.hit=true then S else if u∈S.A.map (·.1)then S else if u=to then⟨S.A++[(u,v)],S.Q,true⟩else⟨S.A++[(u,v)],if may u=true then S.Q++[u]else S.Q,false⟩
def cW(may:Int→Bool)(to v:Int)(S:BF)(l:List Int):BF:=l.foldl (jY may to v) S
theorem aGV(may:Int→Bool)(to v:Int){S:BF}(h:S.hit=true)(l:List Int):cW may to v S l=S:=by
 induction l with
 |nil=>rfl
 |cons u l ih=>simp only[cW,List.foldl_cons]at ih ⊢;rw[jY,if_pos h];exact ih
theorem aEh(may:Int→Bool)(to v:Int)(S:BF)(l:List Int)(u:Int):cW may to v S (l++[u])=jY may to v (cW may to v S l) u:=by simp[cW,List.foldl_append]
theorem aAp(may:Int→Bool)(to v:Int)(S:BF)(l:List Int):(cW may to v S l).Q.length≤S.Q.length+l.length∧(cW may to v S l).A.length≤S.A.length+l.length:=by
 induction l generalizing S with
 |nil=>simp[cW]
 |cons u l ih=>
  have:=ih (jY may to v S u)
  have h1:(jY may to v S u).Q.length≤S.Q.length+1∧(jY may to v S u).A.length≤S.A.length+1:=by
   unfold jY
   split
   ·omega
   ·split
    ·omega
    ·split
     ·simp
     ·constructor
      ·simp only;split<;>simp
      ·simp
  simp only[cW,List.foldl_cons,List.length_cons]at this ⊢
  omega
def bfs(near:Int→List Int)(may:Int→Bool)(to:Int):Nat→Led→List Int→Option (Option Led)
 |_,_,[]=>some none
 |0,_,_::_=>none
 |n+1,A,v::Q=>if(cW may to v ⟨A,Q,false⟩ (near v)).hit=true then some (some (cW may to v ⟨A,Q,false⟩ (near v)).A)else bfs near may to n (cW may to v ⟨A,Q,false⟩ (near v)).A (cW may to v ⟨A,Q,false⟩ (near v)).Q
def mI(A:Led)(from':Int):Nat→Int→Option (List Int)
 |0,v=>if v=from' then some []else none
 |n+1,v=>if v=from' then some []else(mI A from' n ((lF A v).getD 0)).map fun l=>(lF A v).getD 0::l
theorem aAa{A:Led}{from':Int}:∀ {n:Nat} {v:Int} {l:List Int},mI A from' n v=some l→l.length≤n
 |0,v,l,h=>by
  simp only[mI]at h
  split at h
  ·injection h with h;subst h;simp
  ·cases h
 |n+1,v,l,h=>by
  simp only[mI]at h
  split at h
  ·injection h with h;subst h;simp
  ·rw[Option.map_eq_some_iff]at h
   obtain⟨l',h1,rfl⟩:=h
   have:=aAa h1
   simp only[List.length_cons];omega
def aFM(vs:List Int)(near:Int→List Int)(may:Int→Bool)(from' to:Int)(n:Nat):Option (List Int):=
 if from'∉vs∨to∉vs then some []else if from'=to then some [from']else match bfs near may to n [(from',from')] [from'] with
  |some none=>some []
  |some (some A)=>(mI A from' n to).map fun l=>(to::l).reverse
  |none=>none
def kE(x:Ed):List Int:=[if x.b<x.a then x.b else x.a,if x.a<x.b then x.b else x.a]
theorem aEi(x y:Ed):kE x=kE y↔bes x y=true:=by
 rw[uR]
 unfold kE
 simp only[List.cons.injEq,and_true]
 constructor
 ·rintro⟨h1,h2⟩
  split at h1<;>split at h1<;>split at h2<;>split at h2<;>omega
 ·rintro(⟨h1,h2⟩|⟨h1,h2⟩)
  ·rw[h1,h2];exact⟨rfl,rfl⟩
  ·rw[h1,h2]
   constructor
   ·split<;>split<;>omega
   ·split<;>split<;>omega
def bnd(l:List Ed):List (List Int):=(sE l).map fun y=>(l.filter fun x=>bes y x).map (·.id)
theorem aKU(l:List Ed):(bnd l).length=(sE l).length:=by simp[bnd]
theorem aFz{l:List Ed}{x:Ed}(h:(sE l).any (bes x)=false):sE (l++[x])=sE l++[x]∧bnd (l++[x])=bnd l++[[x.id]]:=by
 have h':∀ y∈sE l,bes x y=false:=fun y hy=>by
  cases hb:bes x y with
  |false=>rfl
  |true=>rw[List.any_eq_true.2 ⟨y,hy,hb⟩]at h;cases h
 have hs:sE (l++[x])=sE l++[x]:=by rw[kU,h];rfl
 refine⟨hs,?_⟩
 unfold bnd
 rw[hs,List.map_append]
 congr 1
 ·refine List.map_congr_left fun y hy=>?_
  have:bes y x=false:=by
   cases hb:bes y x with
   |false=>rfl
   |true=>have:=h' y hy;rw[mO hb]at this;cases this
  rw[List.filter_append]
  simp[this]
 ·have:l.filter (fun z=>bes x z)=[]:=by
   rw[List.filter_eq_nil_iff]
   intro z hz hb
   obtain⟨y,hy,h2⟩:=aMU l z hz
   have:=h' y hy
   rw[sH hb h2]at this;cases this
  simp[List.filter_append,this,aCC]
theorem aLr{l:List Ed}{x:Ed}(h:(sE l).any (bes x)=true):sE (l++[x])=sE l∧∃ L1 y L2 B1 r B2,sE l=L1++y::L2∧bes x y=true∧bnd l=B1++r::B2∧B1.length=L1.length∧bnd (l++[x])=B1++(r++[x.id])::B2∧r.length≤l.length:=by
 have hs:sE (l++[x])=sE l:=by rw[kU,h];rfl
 refine⟨hs,?_⟩
 obtain⟨y,hy,hb⟩:=List.any_eq_true.1 h
 obtain⟨L1,L2,hL⟩:=List.append_of_mem hy
 have hap:=aJH l
 rw[hL,List.pairwise_append,List.pairwise_cons]at hap
 obtain⟨_,⟨p2,_⟩,p3⟩:=hap
 have hno:∀ z,(z∈L1∨z∈L2)→bes z x=false:=by
  intro z hz
  cases hzx:bes z x with
  |false=>rfl
  |true=>
   have hzy:=sH hzx hb
   rcases hz with hz|hz
   ·have:=p3 z hz y (by simp);rw[hzy]at this;cases this
   ·have:=p2 z hz;rw[mO hzy]at this;cases this
 refine⟨L1,y,L2,_,_,_,hL,hb,by unfold bnd;rw[hL,List.map_append,List.map_cons],by simp,?_,?_⟩
 ·unfold bnd
  rw[hs,hL,List.map_append,List.map_cons]
  have e:∀ L:List Ed,(∀ z∈L,bes z x=false)→L.map (fun y=>((l++[x]).filter fun x=>bes y x).map (·.id))=L.map fun y=>(l.filter fun x=>bes y x).map (·.id):=by
   intro L hL
   refine List.map_congr_left fun z hz=>?_
   rw[List.filter_append]
   simp[hL z hz]
  rw[e L1 fun z hz=>hno z (.inl hz),e L2 fun z hz=>hno z (.inr hz)]
  congr 2
  rw[List.filter_append]
  simp[mO hb]
 ·rw[List.length_map];exact List.length_filter_le _ _
structure AtM(l:List Ed)(es:List (List Int×LV)):Prop where
 old:∀ x L1 y L2,sE l=L1++y::L2→bes x y=true→aR es (kE x)=some (i L1.length)
 new:∀ x,(sE l).any (bes x)=false→aR es (kE x)=none
theorem AtM.nil:AtM [] []:=⟨fun x L1 y L2 h _=>by simp[sE]at h,fun x _=>rfl⟩
theorem AtM.keep{l:List Ed}{es:List (List Int×LV)}(h:AtM l es){x:Ed}(hx:sE (l++[x])=sE l):AtM (l++[x]) es:=
 ⟨by rw[hx];exact h.old,by rw[hx];exact h.new⟩
theorem AtM.add{l:List Ed}{es:List (List Int×LV)}(h:AtM l es){x:Ed}(hx:(sE l).any (bes x)=false):AtM (l++[x]) (aS es (kE x) (i (sE l).length)):=by
 have hs:=(aFz hx).1
 constructor
 ·intro z L1 y L2 hL hb
  rw[hs]at hL
  rw[cL]
  rcases List.eq_nil_or_concat L2 with rfl|⟨L2',y',rfl⟩
  ·have:=List.append_inj' hL rfl
   obtain⟨h1,h2⟩:=this
   simp only[List.cons.injEq,and_true]at h2
   subst h1 h2
   rw[if_pos ((aEi _ _).2 hb)]
  ·rw[List.concat_eq_append,show L1++y::(L2'++[y'])=(L1++y::L2')++[y'] by simp]at hL
   obtain⟨h1,h2⟩:=List.append_inj' hL rfl
   rw[if_neg,h.old z L1 y L2' h1 hb]
   intro hk
   have hxy:=sH (mO ((aEi _ _).1 hk)) hb
   rw[List.any_eq_true.2 ⟨y,by rw[h1];simp,hxy⟩]at hx
   cases hx
 ·intro z hz
  rw[hs,List.any_append,Bool.or_eq_false_iff]at hz
  rw[cL,if_neg,h.new z hz.1]
  intro hk
  have:=(aEi _ _).1 hk
  simp[this]at hz
end Go.Proofs.YtempldclppogmaaGreatDoor.Aw
