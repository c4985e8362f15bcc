/- Graphs: Check, by the program and by the document; the law GraphChecks. -/
import Derived.Test.YtbgngpdonpeboaaGreatDoorJb
import Derived.Test.YtbgngpdonpeboaaGreatDoorAwSet
import Derived.Lib.TrailingZeros
set_option linter.unusedVariables false
set_option linter.unusedSimpArgs false
set_option maxHeartbeats 1000000
open Go.Proofs.Tryz
namespace Go.Proofs.YtbgngpdonpeboaaGreatDoor
namespace Aw
open Go Go.RowKit Pl
theorem Check(g:Gr)(st:St)(hv:g.vs.length<=1000)(he:g.es.length<=1000):
 aB prog 48 [.ag (grL g)] st fun r st'=>r=i (chk g)/\aA st st':=by
 have J7:small g.vs:=by unfold small;omega
 refine zN func48 ntmps48 [.tmp 2] ?_;by_cases h1:(64:Int)<(g.vs.length:Int)
 .have:chk g=6:=by unfold chk;rw[aAk oO]
  refine xw2 h1 this ?_;exact aA.new _ _
 by_cases h2:(160:Int)<(g.es.length:Int)
 .have:chk g=6:=by unfold chk;rw[aAk oO]
  refine xw3 h1 h2 this ?_;exact aA.new _ _
 have O8:chk g=if cA (lB g) g.vs.length≠0 then cA (lB g) g.vs.length else cA (lI g) g.es.length:=by unfold chk;rw[aAa oO]
 refine xw2 h1 h2 ?_;refine qL (fun n fr st'=>∃ k:Nat,k<=g.vs.length/\n=g.vs.length-k/\fr 1=.pt st.next 0/\fr 21=.sl 0 g.vs.length (us g.vs)/\fr 22=i g.vs.length/\fr 23=i k/\fr 3=u (if k=0 then 0 else g.vs.getD (k-1) 0)/\st'=st.new (.box 25 2 (grL g))/\∀ j,j<k->lB g j=0) g.vs.length ?_ ?_
 .exact⟨0,oO,oO,sS,sS,sS,sS,sS,rfl,fun j h=>by omega⟩
 rintro n fr st' ⟨k,hk,rfl,f1,f21,f22,f23,f3,rfl,x9⟩ JJ hJJ;by_cases dQ:k<g.vs.length
 .have hd:=qG g.vs k dQ;have hw:=qN k oO;have D6:lB g k=eZ (g.vs.getD k 0) (if k=0 then 0 else g.vs.getD (k-1) 0) (decide (k=0)):=by
   unfold lB;by_cases h0:k=0
   .subst h0;simp[eZ]
   .simp[h0]
  generalize hy:(if k=0 then(0:Int)else g.vs.getD (k-1) 0)=y at *;generalize hx:g.vs.getD k 0=x at *;have J8:((k:Int)==0)=decide (k=0):=by by_cases h0:k=0<;>simp[h0]
  (refine xj9 f1 f21 f22 f23 f3 dQ hd hw J8 ?_;intro J hJ)
  refine qE (number x y (decide (k=0)) _) (by simp[]) ?_;rintro r st' ⟨rfl,rfl⟩;rw[<- D6];by_cases hb:lB g k=0
  .refine nR hJ f23 hw hb ?_;refine hJJ _ _ _ ?_ ⟨k+1,oO,rfl,sF1 f1,sF1 f21,sF1 f22,sS,by rw[aAa oO,aCG,hx];simp,rfl,fun j hj=>?_⟩
   .omega
   .rcases aAK j k with h|h
    .exact x9 j h
    .obtain rfl:j=k:=oO;exact hb
  .have hf:=fU dQ x9 rfl hb;have hr:chk g=lB g k:=by rw[O8,hf,aAk hb]
   refine rR hJ hb ?_;exact⟨hr.symm,aA.new _ _⟩
 have I4:k=g.vs.length:=oO;have hz:cA (lB g) g.vs.length=0:=gW (fun j hj=>x9 j oO);rw[hz]at O8;simp only[ne_eq,not_true_eq_false,aBN]at O8;clear hJJ x9 hz;have hel:=aJ g.es;generalize hy:(if k=0 then(0:Int)else g.vs.getD (k-1) 0)=y at *;refine xw6 f1 f21 f22 f23 f3 dQ ?_;refine qL (fun n fr st'=>∃ k:Nat,k<=g.es.length/\n=g.es.length-k/\fr 1=.pt st.next 0/\fr 39=.sl 0 g.es.length (eds g.es)/\fr 40=i g.es.length/\fr 41=i k/\(∃ z,fr 3=u z/\(k≠0->z=(g.es.getD (k-1) ed0).id))/\aA (st.new (.box 25 2 (grL g))) st'/\∀ j,j<k->lI g j=0) g.es.length ?_ ?_
 .exact⟨0,oO,oO,sF1 f1,sS,sS,sS,⟨y,sF1 f3,sS⟩,aA.refl _,fun j h=>by omega⟩
 clear f1 f21 f22 f23 f3 dQ I4 hk hy y fr k;rintro n fr st1 ⟨k,hk,rfl,f1,f39,f40,f41,⟨z,f3,hz⟩,j5,x9⟩ JJ hJJ;have hgH:st1.H st.next=.box 25 2 (grL g):=by rw[j5.H _ sS];simp
 have D9:¬st.next=st1.next:=by have:=j5.next;simp only[aG]at this;omega
 have V4:=(aA.new st (.box 25 2 (grL g))).trans j5;by_cases dQ:k<g.es.length
 .have hd:=aP g.es k dQ;have hw:=qN k oO;have o9:k*3<g.es.length*3:=oO;have hk30:k*3+3<=g.es.length*3:=oO;have D6:lI g k=(let x:=g.es.getD k ed0;let n:=eZ x.id z (decide (k=0));if n≠0 then n else if x.a=x.b then 20 else if x.a∉g.vs\/x.b∉g.vs then 21 else 0):=by
   unfold lI;by_cases h0:k=0
   .subst h0;simp[eZ]
   .rw[hz h0]
  generalize hx:g.es.getD k ed0=x at *;obtain⟨xi,xa,xb⟩:=x;simp only at hd D6;have J8:((k:Int)==0)=decide (k=0):=by by_cases h0:k=0<;>simp[h0]
  (refine B6 f1 f39 f40 f41 f3 dQ hd hw J8 hel o9 hgH D9 ?_;intro J hJ)
  refine qE (number xi z (decide (k=0)) _) (by simp[]) ?_;rintro r st' ⟨rfl,rfl⟩;by_cases hb:eZ xi z (decide (k=0))=0;rotate_left
  .have hb':lI g k=eZ xi z (decide (k=0)):=by rw[D6,aAk hb]
   have hr:chk g=eZ xi z (decide (k=0)):=by rw[O8];exact fU dQ x9 hb' hb
   refine rR hJ hb ?_;exact⟨hr.symm,V4.trans (aA.new _ _)⟩
  rw[aAa (sF1 hb)]at D6;by_cases x7:xa=xb
  .have hb':lI g k=20:=by rw[D6,aAk x7]
   have hr:chk g=20:=by rw[O8];exact fU dQ x9 hb' (by decide)
   refine nR hJ hb x7 hr ?_;exact V4.trans (aA.new _ _)
  rw[aAa x7]at D6
  (refine Ya hJ hb x7 f1 D9 hgH ?_;intro J hJ)
  refine qE (Uf g xa _ J7) (by simp[]) ?_;rintro r st' ⟨rfl,j7⟩;have S1:st'.H st1.next=.box 36 3 [u xi,u xa,u xb]:=by rw[j7.H _ sS];simp
  have hgH1:st'.H st.next=.box 25 2 (grL g):=by rw[j7.H _ (by have:=j5.next;simp only[aG]at this ⊢;omega),bY,aAa D9];exact hgH
  have N5:=(j5.trans (aA.new _ _)).trans j7;have T8:=(V4.trans (aA.new _ _)).trans j7;by_cases hma:xa∈g.vs;rotate_left
  .rw[BZ hma];have hb':lI g k=21:=by rw[D6,aAk (.inl hma)]
   have hr:chk g=21:=by rw[O8];exact fU dQ x9 hb' (by decide)
   refine WB hJ f1 S1 hgH1 hr ?_;exact T8
  rw[sO hma];have P6:¬((g.vs.idxOf xa:Nat):Int)<0:=oO
  (apply cD;simp[f1,S1,hgH1,P6])
  refine qE (Uf g xb _ J7) (by simp[]) ?_;rintro r st' ⟨rfl,u5⟩;by_cases V3:xb∈g.vs;rotate_left
  .rw[BZ V3];have hb':lI g k=21:=by rw[D6,aAk (.inr V3)]
   have hr:chk g=21:=by rw[O8];exact fU dQ x9 hb' (by decide)
   refine rR hJ hr ?_;exact T8.trans u5
  rw[sO V3];have I2:¬((g.vs.idxOf xb:Nat):Int)<0:=oO;have hb':lI g k=0:=by rw[D6,aAa (sF2 hma V3)]
  refine nR hJ f41 hw I2 ?_;refine hJJ _ _ _ ?_ ⟨k+1,oO,rfl,sF1 f1,sF1 f39,sF1 f40,sS,⟨xi,sS,fun _=>by rw[aCG,hx]⟩,N5.trans u5,fun j hj=>?_⟩
  .omega
  .rcases aAK j k with h|h
   .exact x9 j h
   .obtain rfl:j=k:=oO;exact hb'
 .have hr:chk g=0:=by rw[O8];exact gW (fun j hj=>x9 j oO)
  clear hJJ;refine xw7 f1 f39 f40 f41 f3 dQ hr ?_;exact V4
theorem Ce(g:Gr)(st:St)(hv:g.vs.length<=1000)(he:g.es.length<=1000):
 aB prog 13 [.ag (grL g)] st fun r st'=>r=i (chk g)/\aA st st':=by
 have J7:small g.vs:=by unfold small;omega
 refine zN func13 ntmps13 [.tmp 2] ?_;by_cases h1:(64:Int)<(g.vs.length:Int)
 .have:chk g=6:=by unfold chk;rw[aAk oO]
  refine xw2 h1 this ?_;exact aA.new _ _
 by_cases h2:(160:Int)<(g.es.length:Int)
 .have:chk g=6:=by unfold chk;rw[aAk oO]
  refine xw3 h1 h2 this ?_;exact aA.new _ _
 have O8:chk g=if cA (lB g) g.vs.length≠0 then cA (lB g) g.vs.length else cA (lI g) g.es.length:=by unfold chk;rw[aAa oO]
 refine xw2 h1 h2 ?_;refine qL (fun n fr st'=>∃ k:Nat,k<=g.vs.length/\n=g.vs.length-k/\fr 1=.pt st.next 0/\fr 18=.sl 0 g.vs.length (us g.vs)/\fr 19=i g.vs.length/\fr 20=i k/\st'=st.new (.box 25 2 (grL g))/\∀ j,j<k->lB g j=0) g.vs.length ?_ ?_
 .exact⟨0,oO,oO,sS,sS,sS,sS,rfl,fun j h=>by omega⟩
 rintro n fr st' ⟨k,hk,rfl,f1,f18,f19,f20,rfl,x9⟩ JJ hJJ;by_cases dQ:k<g.vs.length
 .have hd:=qG g.vs k dQ;have hw:=qN k oO;have D6:lB g k=eZ (g.vs.getD k 0) (g.vs.getD (k-1) 0) (decide (k=0)):=rfl;have J9:lB g k=0->∀ j,j<k+1->lB g j=0:=fun hb j hj=>by
   rcases aAK j k with h|h
   .exact x9 j h
   .obtain rfl:j=k:=oO;exact hb
  have U4:∀ v,lB g k=v->v≠0->chk g=v:=fun v h0 h1=>by have hf:=fU dQ x9 h0 h1;rw[O8,hf,aAk h1]
  generalize hx:g.vs.getD k 0=x at *;by_cases hx1:x<1
  .have hr:=U4 2 (by rw[D6];unfold eZ;rw[aAk (.inl hx1)]) (by decide);refine xw9 f1 f18 f19 f20 dQ hd hw hx1 hr ?_;exact aA.new _ _
  by_cases P0:1048576<x
  .have hr:=U4 2 (by rw[D6];unfold eZ;rw[aAk (.inr P0)]) (by decide);refine FU f1 f18 f19 f20 dQ hd hw hx1 P0 hr ?_;exact aA.new _ _
  by_cases h0:k=0
  .have hb:lB g k=0:=by rw[D6];unfold eZ;rw[aAa (sF2 hx1 P0)];simp[h0]
   have J8:¬0<k:=oO;refine FU f1 f18 f19 f20 dQ hd hw hx1 P0 J8 ?_;refine hJJ _ _ _ ?_ ⟨k+1,oO,rfl,sF1 f1,sF1 f18,sF1 f19,sS,rfl,J9 hb⟩;omega
  .have J8:0<k:=oO;have K3:IntKind.i64.wrap ((k:Int)-1)=((k-1:Nat):Int):=zW;have z7:=qG g.vs (k-1) oO;have Q1:k-1<g.vs.length:=oO;generalize hy:g.vs.getD (k-1) 0=y at *;by_cases u9:x<=y
   .have hr:=U4 19 (by rw[D6];unfold eZ;rw[aAa (sF2 hx1 P0),aAk ⟨sF1 h0,u9⟩]) (by decide);refine Zg f1 f18 f19 f20 dQ hd hw hx1 P0 J8 K3 z7 Q1 u9 hr ?_;exact aA.new _ _
   .have hb:lB g k=0:=by rw[D6];unfold eZ;rw[aAa (sF2 hx1 P0),aAa (sF1 u9)]
    refine WL f1 f18 f19 f20 dQ hd hw hx1 P0 J8 K3 z7 Q1 u9 ?_;refine hJJ _ _ _ ?_ ⟨k+1,oO,rfl,sF1 f1,sF1 f18,sF1 f19,sS,rfl,J9 hb⟩;omega
 have I4:k=g.vs.length:=oO;have hz:cA (lB g) g.vs.length=0:=gW (fun j hj=>x9 j oO);rw[hz]at O8;simp only[ne_eq,not_true_eq_false,aBN]at O8;clear hJJ x9 hz;have hel:=aJ g.es;refine xw5 f1 f18 f19 f20 dQ ?_;refine qL (fun n fr st'=>∃ k:Nat,k<=g.es.length/\n=g.es.length-k/\fr 1=.pt st.next 0/\fr 45=.sl 0 g.es.length (eds g.es)/\fr 46=i g.es.length/\fr 47=i k/\aA (st.new (.box 25 2 (grL g))) st'/\∀ j,j<k->lI g j=0) g.es.length ?_ ?_
 .exact⟨0,oO,oO,sF1 f1,sS,sS,sS,aA.refl _,fun j h=>by omega⟩
 clear f1 f18 f19 f20 dQ I4 hk fr k;rintro n fr st1 ⟨k,hk,rfl,f1,f45,f46,f47,j5,x9⟩ JJ hJJ;have hgH:st1.H st.next=.box 25 2 (grL g):=by rw[j5.H _ sS];simp
 have D9:¬st.next=st1.next:=by have:=j5.next;simp only[aG]at this;omega
 have V4:=(aA.new st (.box 25 2 (grL g))).trans j5;by_cases dQ:k<g.es.length
 .have hd:=aP g.es k dQ;have hw:=qN k oO;have o9:k*3<g.es.length*3:=oO;have D6:lI g k=(let x:=g.es.getD k ed0;let n:=eZ x.id (g.es.getD (k-1) ed0).id (decide (k=0));if n≠0 then n else if x.a=x.b then 20 else if x.a∉g.vs\/x.b∉g.vs then 21 else 0):=rfl;have J9:lI g k=0->∀ j,j<k+1->lI g j=0:=fun hb j hj=>by
   rcases aAK j k with h|h
   .exact x9 j h
   .obtain rfl:j=k:=oO;exact hb
  have U4:∀ v,lI g k=v->v≠0->chk g=v:=fun v h0 h1=>by rw[O8];exact fU dQ x9 h0 h1
  generalize hx:g.es.getD k ed0=x at *;obtain⟨xi,xa,xb⟩:=x;simp only at hd D6;have hkn:=V4.trans (aA.new _ (.box 36 3 [u xi,u xa,u xb]));by_cases hx1:xi<1
  .have hn:eZ xi (g.es.getD (k-1) ed0).id (decide (k=0))=2:=by unfold eZ;rw[aAk (.inl hx1)]
   have hr:=U4 2 (by rw[D6,hn];rfl) (by decide);refine Xi f1 f45 f46 f47 dQ hd hw hel o9 hgH D9 hx1 hr ?_;exact hkn
  by_cases P0:1048576<xi
  .have hn:eZ xi (g.es.getD (k-1) ed0).id (decide (k=0))=2:=by unfold eZ;rw[aAk (.inr P0)]
   have hr:=U4 2 (by rw[D6,hn];rfl) (by decide);refine WL f1 f45 f46 f47 dQ hd hw hel o9 hgH D9 hx1 P0 hr ?_;exact hkn
  by_cases hnb:eZ xi (g.es.getD (k-1) ed0).id (decide (k=0))=0;rotate_left
  ·
   have h0:k≠0:=by rintro rfl;apply hnb;unfold eZ;rw[aAa (sF2 hx1 P0)];simp
   have u9:xi<=(g.es.getD (k-1) ed0).id:=by
    unfold eZ at hnb;rw[aAa (sF2 hx1 P0)]at hnb;by_cases h:decide (k=0)=false/\xi<=(g.es.getD (k-1) ed0).id
    .exact h.2
    .rw[aAa h]at hnb;exact absurd rfl hnb
   have hn:eZ xi (g.es.getD (k-1) ed0).id (decide (k=0))=19:=by unfold eZ;rw[aAa (sF2 hx1 P0),aAk ⟨sF1 h0,u9⟩]
   have hr:=U4 19 (by rw[D6,hn];rfl) (by decide);have J8:0<k:=oO;have K3:IntKind.i64.wrap ((k:Int)-1)=((k-1:Nat):Int):=zW;have z7:=aP g.es (k-1) oO;have Q1:k-1<g.es.length:=oO;have G9:(k-1)*3<g.es.length*3:=oO;generalize hy:g.es.getD (k-1) ed0=y at *;obtain⟨yi,ya,yb⟩:=y;simp only at z7 u9;refine ZP f1 f45 f46 f47 dQ hd hw hel o9 hgH D9 hx1 P0 J8 K3 z7 Q1 G9 u9 hr ?_;exact hkn
  rw[aAa (fun h=>h hnb)]at D6;by_cases x7:xa=xb
  .have hr:=U4 20 (by rw[D6,aAk x7]) (by decide);by_cases h0:k=0
   .have J8:¬0<k:=oO;refine PO f1 f45 f46 f47 dQ hd hw hel o9 hgH D9 hx1 P0 J8 x7 hr ?_;exact V4.trans (aA.new _ _)
   .have J8:0<k:=oO;have K3:IntKind.i64.wrap ((k:Int)-1)=((k-1:Nat):Int):=zW;have z7:=aP g.es (k-1) oO;have Q1:k-1<g.es.length:=oO;have G9:(k-1)*3<g.es.length*3:=oO;have u9:¬xi<=(g.es.getD (k-1) ed0).id:=by intro h;unfold eZ at hnb;rw[aAa (sF2 hx1 P0),aAk ⟨sF1 h0,h⟩]at hnb;cases hnb
    generalize hy:g.es.getD (k-1) ed0=y at *;obtain⟨yi,ya,yb⟩:=y;simp only at z7 u9;refine B7 f1 f45 f46 f47 dQ hd hw hel o9 hgH D9 hx1 P0 J8 K3 z7 Q1 G9 u9 x7 hr ?_;exact V4.trans (aA.new _ _)
  rw[aAa x7]at D6;by_cases h0:k=0
  .have J8:¬0<k:=oO
   (refine ZZ f1 f45 f46 f47 dQ hd hw hel o9 hgH D9 hx1 P0 J8 x7 ?_;intro J hJ)
   refine qE (Has g xa _ J7) (by simp[]) ?_;rintro r st' ⟨rfl,j7⟩;have S1:st'.H st1.next=.box 36 3 [u xi,u xa,u xb]:=by rw[j7.H _ sS];simp
   have hgH1:st'.H st.next=.box 25 2 (grL g):=by rw[j7.H _ (by have:=j5.next;simp only[aG]at this ⊢;omega),bY,aAa D9];exact hgH
   have N5:=(j5.trans (aA.new _ _)).trans j7;have T8:=(V4.trans (aA.new _ _)).trans j7;by_cases hma:xa∈g.vs;rotate_left
   .have hr:=U4 21 (by rw[D6,aAk (.inl hma)]) (by decide);refine ON hJ f1 S1 hgH1 hr hma ?_;exact T8
   (apply cD;simp[f1,S1,hgH1,hma])
   refine qE (Has g xb _ J7) (by simp[]) ?_;rintro r st' ⟨rfl,u5⟩;by_cases V3:xb∈g.vs;rotate_left
   .have hr:=U4 21 (by rw[D6,aAk (.inr V3)]) (by decide);refine pX hJ hr V3 ?_;exact T8.trans u5
   have hb':lI g k=0:=by rw[D6,aAa (sF2 hma V3)]
   refine nR hJ f47 hw V3 ?_;refine hJJ _ _ _ ?_ ⟨k+1,oO,rfl,sF1 f1,sF1 f45,sF1 f46,sS,N5.trans u5,J9 hb'⟩;omega
  .have J8:0<k:=oO;have K3:IntKind.i64.wrap ((k:Int)-1)=((k-1:Nat):Int):=zW;have z7:=aP g.es (k-1) oO;have Q1:k-1<g.es.length:=oO;have G9:(k-1)*3<g.es.length*3:=oO;have u9:¬xi<=(g.es.getD (k-1) ed0).id:=by intro h;unfold eZ at hnb;rw[aAa (sF2 hx1 P0),aAk ⟨sF1 h0,h⟩]at hnb;cases hnb
   generalize hy:g.es.getD (k-1) ed0=y at *;obtain⟨yi,ya,yb⟩:=y;simp only at z7 u9
   (refine ZQ f1 f45 f46 f47 dQ hd hw hel o9 hgH D9 hx1 P0 J8 K3 z7 Q1 G9 u9 x7 ?_;intro J hJ)
   refine qE (Has g xa _ J7) (by simp[]) ?_;rintro r st' ⟨rfl,j7⟩;have S1:st'.H st1.next=.box 36 3 [u xi,u xa,u xb]:=by rw[j7.H _ sS];simp
   have hgH1:st'.H st.next=.box 25 2 (grL g):=by rw[j7.H _ (by have:=j5.next;simp only[aG]at this ⊢;omega),bY,aAa D9];exact hgH
   have N5:=(j5.trans (aA.new _ _)).trans j7;have T8:=(V4.trans (aA.new _ _)).trans j7;by_cases hma:xa∈g.vs;rotate_left
   .have hr:=U4 21 (by rw[D6,aAk (.inl hma)]) (by decide);refine ON hJ f1 S1 hgH1 hr hma ?_;exact T8
   (apply cD;simp[f1,S1,hgH1,hma])
   refine qE (Has g xb _ J7) (by simp[]) ?_;rintro r st' ⟨rfl,u5⟩;by_cases V3:xb∈g.vs;rotate_left
   .have hr:=U4 21 (by rw[D6,aAk (.inr V3)]) (by decide);refine pX hJ hr V3 ?_;exact T8.trans u5
   have hb':lI g k=0:=by rw[D6,aAa (sF2 hma V3)]
   refine nR hJ f47 hw V3 ?_;refine hJJ _ _ _ ?_ ⟨k+1,oO,rfl,sF1 f1,sF1 f45,sF1 f46,sS,N5.trans u5,J9 hb'⟩;omega
 .have hr:chk g=0:=by rw[O8];exact gW (fun j hj=>x9 j oO)
  clear hJJ;refine xw6 f1 f45 f46 f47 dQ hr ?_;exact V4
theorem Kf(l:List Ed):(eds l).all iD=true:=by
 induction l with
 |nil=>rfl
 |cons e l ih=>simp only[eds,aAJ,List.all_append,ih,Bool.and_true];rfl
theorem Vi(l:List Ed)(t:Nat)(st:St)(hl:l.length<=1048576):
 aB prog 19 [.sl t l.length (eds l)] st fun r st'=>r=.sl 0 l.length (eds l)/\aA st st':=by
 have E4:=Kf l;have hel:=aJ l;refine cE ?_;refine jH 36 3 ?_;refine zN func19 ntmps19 [.tmp 2] ?_
 (repeat' (first|apply qS|refine qK (zZ ?_)|(refine qR (zZ ?_);simp[E4,hel])|(apply qC;simp[E4,hel])|(refine w_e [5] ?_;intro J hJ;simp only[];simp[E4,hel];(repeat refine ca ?_);((try with_reducible refine⟨?_,?_⟩)<;>(try with_reducible intro u6)<;>refine zJ hJ ?_<;>clear hJ J<;>try subst u6))))
 .exact⟨st.next+1,l.length,⟨rfl,rfl⟩,36,3,eds l,sS,by rw[hel];exact aAl _,⟨rfl,aAt (by rw[hel];exact aAl _)⟩,((aA.new _ _).trans (aA.new _ _)).set oO _⟩
 .exact⟨st.next,0,⟨rfl,rfl⟩,36,3,[],sS,sS,⟨rfl,.inr rfl⟩,(aA.new _ _).set (aAl _) _⟩
theorem copied(g:Gr)(st:St)(hv:g.vs.length<=1048576)(he:g.es.length<=1048576):
 aB prog 109 [.ag (grL g)] st fun r st'=>r=.ag (grL g)/\aA st st':=by
 refine zN func109 ntmps109 [.cell 2 25] ?_;refine xw0 ?_
 (refine zS [] [st.next] [0,2,6,8,4,10,12,15] ?_;intro J hJ;simp[])
 refine qD (QA g.vs 0 _ hv) (by simp[]) ?_;rintro r st' ⟨rfl,j7⟩;have S1:st'.H st.next=.box 25 2 (grL g):=by rw[j7.H _ (by simp;omega)];simp
 have hC1:st'.H (st.next+1)=.box 25 2 [.nil,.nil]:=by rw[j7.H _ sS];simp
 refine⟨fun _=>by simp[S1],?_⟩
 (apply bL;simp[S1])
 have I2:=j7.next;simp only[aG]at I2;refine qD (Vi g.es 0 _ he) (by simp[]) ?_;rintro r st' ⟨rfl,u5⟩;have Z5:=(u5.H st.next oO).trans S1;have hC2:=(u5.H (st.next+1) oO).trans hC1;refine⟨fun _=>by simp[Z5],?_⟩
 (apply bL;simp[Z5,hC2];refine zJ hJ ?_)
 refine xw1 hC2 ?_;exact(((((aA.new _ _).trans (aA.new _ _)).trans j7).trans u5).set oO _)
theorem CW(e s:Nat){P:Program}{f:FuncId}{args:List LV}{st:St}{Q:LV->St->Prop}(pre:List LV)
 (h:aB P f args st fun r st'=>∃ c,r=.ag (pre++[c])/\((c=.nil/\Q (.ag (pre++[.sl 0 0 []])) st')\/∃ l n cs,c=.ms l 0 n/\st'.H l=.box e s cs/\n*s<=cs.length/\Q (.ag (pre++[.sl 0 n (cs.take (n*s))])) (st'.set l .dead))):aB P f args st Q:=by
 refine⟨h.1,fun w g vs hi hr=>(h.2 w g vs hi hr).mono ?_⟩;rintro x w' ⟨v,r,st',g',rfl,⟨c,rfl,hc⟩,C8,D8,he⟩;simp only[Rep]at C8;obtain⟨us1,rfl,hus⟩:=C8;obtain⟨v1,h1,h2⟩:=mQ pre us1 hus;rcases hc with⟨rfl,hq⟩|⟨l,n,cs,rfl,hl,hn,hq⟩
 .refine⟨_,_,st',g',rfl,hq,?_,D8,he⟩
  grind [Rep,Ext.refl]
 .obtain⟨g2,k1,k2,k3⟩:=gZ (fr:=upd (fun _=>.dead) 0 (.ms l 0 n)) 0 rfl hl hn { tmps:=#[v1],defers:=[] } w' g' D8 (by
   intro j;unfold upd;by_cases hj:j=0
   .simp_all
   grind [Rep])
  refine⟨_,_,_,g2,rfl,hq,?_,k1,he.trans k3⟩;simp only[Rep];exact⟨us1,rfl,h2 g2 _ k3 (k2 0)⟩
theorem BP(rs:List (List Int))(k:Nat)(hk:k<rs.length):fF (rs.take (k+1))=fF (rs.take k)++[.sl 0 (rs[k]).length (us rs[k])]:=by
 grind [List.take_succ_eq_append_getElem]
theorem Wi(g:Gr)(q:Nat)(es:List (List Int×LV))(tf:Int->List Int)(st:St)(hv:g.vs.length<=1000)(he:g.es.length<=1000)(hq:q<st.next)(hM:st.H q=.map false [.u32] es)
 (ht:∀ v∈g.vs,∃ x t,(bS es [v]).getD .nil=x/\norm x=.sl t (tf v).length (us (tf v))/\(tf v).length<=1000):
 aB prog 67 [.ag (grL g),.mp q] st fun r st'=>r=.ag (mpL ⟨g,g.vs.map fun v=>nrm (tf v)⟩)/\aA st st':=by
 refine CW 22 1 (grL g) ?_;refine zN func67 ntmps67 [.cell 4 28] ?_
 (refine xj0 ?_;intro J hJ)
 refine qE (copied g _ oO oO) sS ?_;rintro r s1 ⟨rfl,j7⟩;have I2:=j7.next;simp only[aG]at I2;have O2:s1.H st.next=.box 25 2 (grL g):=by rw[j7.H _ (by simp;omega)];simp
 have W9:s1.H q=.map false [.u32] es:=by rw[j7.H q (by simp;omega),bY,aAa (by simp;omega),bY,aAa oO,hM]
 have hR1:s1.H (st.next+1)=.box 28 3 [.nil,.nil,.nil]:=by rw[j7.H _ sS];simp
 have ne1:¬st.next=s1.next:=oO;refine pX hJ O2 ne1 ?_;refine qL (fun n fr st2=>∃ k:Nat,k<=g.vs.length/\n=g.vs.length-k/\fr 1=.mp q/\fr 4=.pt (st.next+1) 0/\fr 5=.pt s1.next 0/\fr 12=.sl 0 g.vs.length (us g.vs)/\fr 13=i g.vs.length/\fr 14=i k/\aA s1 st2/\s1.next<st2.next/\∃ c,st2.H s1.next=.box 28 3 (grL g++[c])/\((k=0/\c=.nil)\/∃ z,c=.ms z 0 k/\s1.next<z/\z<st2.next/\st2.H z=.box 22 1 (fF ((g.vs.map fun v=>nrm (tf v)).take k)))) g.vs.length ?_ ?_
 .exact⟨0,oO,oO,sS,sS,sS,sS,sS,sS,aA.new _ _,sS,.nil,sS,.inl ⟨rfl,rfl⟩⟩
 rintro n fr st2 ⟨k,hk,rfl,f1,f4,f5,f12,f13,f14,j5,I9,c,hB,hcz⟩ JJ hJJ;have Q7:st2.H q=.map false [.u32] es:=by rw[j5.H q oO];exact W9
 by_cases dQ:k<g.vs.length
 .have hd:=qG g.vs k dQ;have hw:=qN k oO;have W5:g.vs.getD k 0∈g.vs:=by rw[bB _ _ dQ];exact aAz dQ
  obtain⟨x,t,hx1,P0,hx3⟩:=ht _ W5;have Ut:=BP (g.vs.map fun v=>nrm (tf v)) k (by grind);have hrk:(g.vs.map fun v=>nrm (tf v))[k]'(by grind)=nrm (tf (g.vs.getD k 0)):=by simp[dQ]
  rw[hrk,cJ]at Ut;generalize hvv:g.vs.getD k 0=v at *;have S7:¬q=s1.next:=oO;have ne2:¬s1.next=st2.next:=oO;have ne3:¬q=st2.next:=by have:=j5.next;omega
  rcases hcz with⟨rfl,rfl⟩|⟨z,rfl,hz1,hz2,hz⟩
  ·(repeat' (first|apply qS|(refine zE ?_;intro J hJ;simp[f12,f13,f14,dQ,hd];(refine zJ hJ ?_;clear hJ J))))
   (apply qC;simp[])
   (repeat' (first|apply qS|apply qB|refine qK (zZ ?_)|(refine zE ?_;intro J hJ;simp[f1,f5,f12,f13,f14,dQ,hd];(refine zJ hJ ?_;clear hJ J))))
   (refine zS [25] [s1.next,q] [0,2,4,6,8,10,12,14,16,19] ?_;intro J hJ;simp[f1,f5,hB,Q7,hx1,S7])
   refine qD (Pr (tf v) t _ (by grind [small])) (by grind) ?_;rintro r s3 ⟨rfl,o9⟩;have hB3:=(o9.H s1.next oO).trans hB;have hM3:=(o9.H q oO).trans Q7;have hn3:=o9.next;have ne4:¬s1.next=s3.next:=oO;have ne5:¬s1.next=s3.next+1:=oO;have ne6:¬q=s3.next+1:=oO;have ne7:¬q=s3.next:=oO;refine⟨fun _=>by simp[hB3,hM3,hB,Q7],?_⟩
   (apply bL;simp[f5,hB3,hM3,hB,Q7,ne4,ne5,ne6,ne7];(repeat refine ca ?_);(refine zJ hJ ?_;clear hJ J))
   have K3:IntKind.i64.wrap 1=1:=by decide
   refine xw4 f5 f14 hw K3 ?_;refine hJJ (g.vs.length-1) _ _ oO ⟨1,oO,rfl,sF1 f1,sF1 f4,sF1 f5,sF1 f12,sF1 f13,sS,(((j5.trans o9).trans (aA.new _ _)).trans (aA.new _ _)).set (aAl _) _,by simp;omega,.ms (s3.next+1) 0 1,sS,.inr ⟨s3.next+1,rfl,oO,sS,?_⟩⟩;rw[Ut,bR,aAa oO];simp
  .generalize hR:fF ((g.vs.map fun v=>nrm (tf v)).take k)=R at *;have hzl:R.length=k:=by rw[<- hR];simp;omega
   (repeat' (first|apply qS|(refine zE ?_;intro J hJ;simp[f12,f13,f14,dQ,hd];(refine zJ hJ ?_;clear hJ J))))
   (apply qC;simp[])
   (repeat' (first|apply qS|apply qB|refine qK (zZ ?_)|(refine zE ?_;intro J hJ;simp[f1,f5,f12,f13,f14,dQ,hd];(refine zJ hJ ?_;clear hJ J))))
   (refine zS [25] [s1.next,q] [0,2,4,6,8,10,12,14,16,19] ?_;intro J hJ;simp[f1,f5,hB,Q7,hx1,S7])
   refine qD (Pr (tf v) t _ (by grind [small])) (by grind) ?_;rintro r s3 ⟨rfl,o9⟩;have hB3:=(o9.H s1.next oO).trans hB;have hM3:=(o9.H q oO).trans Q7;have hz3:=(o9.H z oO).trans hz;have hn3:=o9.next;have ne4:¬s1.next=s3.next:=oO;have ne5:¬s1.next=s3.next+1:=oO;have ne6:¬q=s3.next+1:=oO;have ne7:¬q=s3.next:=oO;have ne8:¬s1.next=z:=oO;have ne9:¬z=s3.next:=oO;have ne10:¬q=z:=oO;have C9:R.take k=R:=aAt oO;refine⟨fun _=>by simp[hB3,hM3,hB,Q7],?_⟩
   (apply bL;simp[f5,hB3,hM3,hB,Q7,ne4,ne5,ne6,ne7,ne8,ne9,ne10,hz3,hzl,C9];(repeat refine ca ?_);(refine zJ hJ ?_;clear hJ J))
   refine xw3 f5 f14 hw ?_;refine hJJ (g.vs.length-(k+1)) _ _ oO ⟨k+1,oO,rfl,sF1 f1,sF1 f4,sF1 f5,sF1 f12,sF1 f13,sS,((((j5.trans o9).trans (aA.new _ _)).set oO _).trans (aA.new _ _)).set (aAl _) _,by simp;omega,.ms (s3.next+1) 0 (k+1),sS,.inr ⟨s3.next+1,rfl,oO,sS,?_⟩⟩;rw[Ut,bR,aAa oO];simp
 .have hkk:k=g.vs.length:=oO;have hBR:¬s1.next=st.next+1:=oO;have hR2:=(j5.H (st.next+1) oO).trans hR1;have hKK:aA st st2:=(((aA.new _ _).trans (aA.new _ _)).trans j7).trans j5;rcases hcz with⟨h0,rfl⟩|⟨z,rfl,hz1,hz2,hz⟩
  .refine xw8 f12 f13 f14 dQ f4 f5 hB hR2 ?_;exact⟨⟨oO,aCn.mp oO⟩,hKK.set oO _⟩
  .refine xw8 f12 f13 f14 dQ f4 f5 hB hR2 ?_;have hmm:(g.vs.map fun v=>nrm (tf v)).take k=g.vs.map fun v=>nrm (tf v):=aAt (by grind);rw[hmm]at hz;exact⟨z,k,⟨rfl,rfl⟩,_,by rw[aAa oO,hz],by grind,⟨hkk,by grind [List.take_of_length_le]⟩,(hKK.set oO _).set oO _⟩
theorem fE{P:Program}{N:Nat}{Q:AQ}{c:Code}{fr:Frm}{st:St}(h:0<st.next->AWp P N c Q fr st):AWp P N c Q fr st:=
 fun a w g hi hr hs hd=>h hi.pos a w g hi hr hs hd
def mX(v:Int)(x:Ed):List Int:=(if x.a=v then [2*x.id]else [])++(if x.b=v then [2*x.id+1]else [])
def ends(es:List Ed)(v:Int):List Int:=es.flatMap (mX v)
theorem It(f:Ed->List Int)(l:List Ed)(k:Nat)(hk:k<l.length):(l.take (k+1)).flatMap f=(l.take k).flatMap f++f (l.getD k ed0):=by rw[aAp hk,aCA,aAg,aAh hk];simp
theorem uJ(v:Int)(x:Ed):(mX v x).length<=2:=by unfold mX;split<;>split<;>simp
theorem tN(f:Ed->List Int)(hf:∀ x,(f x).length<=2)(l:List Ed):(l.flatMap f).length<=2*l.length:=by
 induction l with
 |nil=>simp
 |cons x l ih=>have:=hf x;simp only[aAJ,aAm,List.length_cons];omega
def Mf(es:List Ed):Prop:=∀ x∈es,0<=x.id/\x.id<=1048576
theorem Mf.at{es:List Ed}(h:Mf es)(k:Nat)(hk:k<es.length):0<=(es.getD k ed0).id/\(es.getD k ed0).id<=1048576:=by rw[aAg,aAh hk];exact h _ (aAz hk)
theorem wrap_u32'(n:Int)(h0:0<=n)(h1:n<4294967296):IntKind.u32.wrap n=n:=by rw[wrap_u32];omega
def VH(t:Nat)(lo:St)(l:List Int)(st:St):Prop:=t≠0/\lo.next<=t/\t<st.next/\st.H t=.own 34 1 l.length/\aA lo st
theorem dOf(id e:Int)(st:St)(h0:0<=id)(h1:id<=1048576)(he:e=0\/e=1):aB prog 93 [u id,i e] st fun r st'=>r=u (2*id+e)/\st'=st:=by refine(Of id e st).mono ?_;rintro r st' ⟨rfl,rfl⟩;refine⟨?_,rfl⟩;have h2:id*2 % 4294967296+e % 2=2*id+e:=oO;rw[h2]
theorem Fu(g:Gr)(v:Int)(st:St)(he:g.es.length<=1000)(hid:Mf g.es):
 aB prog 51 [.ag (grL g),u v] st fun r st'=>(∃ t,r=.sl t (ends g.es v).length (us (ends g.es v)))/\aA st st':=by
 obtain⟨vs,l⟩:=g;simp only at he hid ⊢;have hel:=aJ l;have T6:=fun k=>tN (mX v) (uJ v) (l.take k);refine zN func51 ntmps51 [.tmp 4] ?_;refine xw0 ?_;refine fE fun E0=>?_;refine kD 5 34 1 sS ?_;refine qL (fun n fr st2=>∃ k:Nat,k<=l.length/\n=l.length-k/\fr 1=u v/\fr 9=.sl 0 l.length (eds l)/\fr 10=i l.length/\fr 11=i k/\∃ t,fr 5=.sl t (ends (l.take k) v).length (us (ends (l.take k) v))/\VH t st (ends (l.take k) v) st2) l.length ?_ ?_
 .exact⟨0,oO,oO,sS,sS,sS,sS,st.next+1,by simp[ends],oO,oO,sS,by simp[ends],(aA.new _ _).trans (aA.new _ _)⟩
 rintro n fr st2 ⟨k,hk,rfl,f1,f9,f10,f11,t,f5,ht0,htl,htn,htH,j5⟩ JJ hJJ;by_cases dQ:k<l.length;rotate_left
 .clear hJJ;have I4:k=l.length:=oO;rw[I4,aAN]at f5;refine xw4 f10 f11 dQ f5 ?_;exact j5
 have hd:=aP l k dQ;have hw:=qN k oO;have o9:k*3<l.length*3:=oO;obtain⟨hi0,hi1⟩:=hid.at k dQ;have z8:ends (l.take (k+1)) v=ends (l.take k) v++mX v (l.getD k ed0):=It _ _ _ dQ;have u9:=T6 k;rw[aAv]at u9;have hle2:(ends (l.take k) v).length<=2*min k l.length:=u9;generalize hx:l.getD k ed0=x at *;obtain⟨id,a,b⟩:=x;simp only at hi0 hi1 hd;generalize hF:ends (l.take k) v=F at *;have w1:IntKind.u32.wrap (2*id)=2*id:=wrap_u32' _ oO oO;have w2:IntKind.u32.wrap (2*id+1)=2*id+1:=wrap_u32' _ oO oO;have ht2:¬t=st2.next:=oO;have ht3:¬st2.next=t:=oO;have ht4:¬t=st2.next+1:=oO;have ht5:¬t=st2.next+1+1:=oO;have ht6:¬t=st2.next+1+1+1:=oO;have K2:¬st2.next=st2.next+1+1:=oO;have hn3:¬st2.next=st2.next+1+1+1:=oO;have W8:¬st2.next=st2.next+1+1+1+1:=oO;have hn5:¬st2.next+1+1=st2.next+1+1+1:=oO;by_cases ha:a=v
 .by_cases hb:b=v
  .have X0:mX v ⟨id,a,b⟩=[2*id,2*id+1]:=by simp[mX,ha,hb]
   rw[X0]at z8
   (repeat' (first|apply qS|apply qB|refine qK (zZ ?_)|(apply qC;simp[f1,f5,f9,f10,f11,dQ,hd,hw,hel,ha,hb,w1,w2,htH,ht0,ht2,ht3,ht4,K2,hn3,W8,hn5,ht5,ht6])|(refine zE ?_;intro J hJ;simp[f1,f5,f9,f10,f11,dQ,hd,hw,hel,ha,hb,w1,w2,htH,ht0,ht2,ht3,ht4,K2,hn3,W8,hn5,ht5,ht6];(repeat refine ca ?_);refine zJ hJ ?_)))
   refine hJJ (l.length-(k+1)) _ _ oO ⟨k+1,oO,rfl,sF1 f1,sF1 f9,sF1 f10,sS,st2.next+1+1+1+1,by rw[z8];simp[f5],oO,by have:=j5.next;omega,by simp<;>omega,by rw[z8];simp[htH,ht2,ht4,K2,hn3,W8,hn5],?_⟩
   (repeat (first|exact j5|(refine aA.trans ?_ (aA.new _ _))|(refine aA.set ?_ (by have:=j5.next;first|omega|(simp only[aG,bH];omega)) _)))
  .have X0:mX v ⟨id,a,b⟩=[2*id]:=by simp[mX,ha,hb]
   rw[X0]at z8
   (repeat' (first|apply qS|apply qB|refine qK (zZ ?_)|(apply qC;simp[f1,f5,f9,f10,f11,dQ,hd,hw,hel,ha,hb,w1,w2,htH,ht0,ht2,ht3,ht4,K2,hn3,W8,hn5,ht5,ht6])|(refine zE ?_;intro J hJ;simp[f1,f5,f9,f10,f11,dQ,hd,hw,hel,ha,hb,w1,w2,htH,ht0,ht2,ht3,ht4,K2,hn3,W8,hn5,ht5,ht6];(repeat refine ca ?_);refine zJ hJ ?_)))
   refine hJJ (l.length-(k+1)) _ _ oO ⟨k+1,oO,rfl,sF1 f1,sF1 f9,sF1 f10,sS,st2.next+1+1,by rw[z8];simp[f5],oO,by have:=j5.next;omega,by simp<;>omega,by rw[z8];simp[htH,ht2,ht4,K2,hn3,W8,hn5],?_⟩
   (repeat (first|exact j5|(refine aA.trans ?_ (aA.new _ _))|(refine aA.set ?_ (by have:=j5.next;first|omega|(simp only[aG,bH];omega)) _)))
 .by_cases hb:b=v
  .have X0:mX v ⟨id,a,b⟩=[2*id+1]:=by simp[mX,ha,hb]
   rw[X0]at z8
   (repeat' (first|apply qS|apply qB|refine qK (zZ ?_)|(apply qC;simp[f1,f5,f9,f10,f11,dQ,hd,hw,hel,ha,hb,w1,w2,htH,ht0,ht2,ht3,ht4,K2,hn3,W8,hn5,ht5,ht6])|(refine zE ?_;intro J hJ;simp[f1,f5,f9,f10,f11,dQ,hd,hw,hel,ha,hb,w1,w2,htH,ht0,ht2,ht3,ht4,K2,hn3,W8,hn5,ht5,ht6];(repeat refine ca ?_);refine zJ hJ ?_)))
   refine hJJ (l.length-(k+1)) _ _ oO ⟨k+1,oO,rfl,sF1 f1,sF1 f9,sF1 f10,sS,st2.next+1+1,by rw[z8];simp[f5],oO,by have:=j5.next;omega,by simp<;>omega,by rw[z8];simp[htH,ht2,ht4,K2,hn3,W8,hn5],?_⟩
   (repeat (first|exact j5|(refine aA.trans ?_ (aA.new _ _))|(refine aA.set ?_ (by have:=j5.next;first|omega|(simp only[aG,bH];omega)) _)))
  .have X0:mX v ⟨id,a,b⟩=[]:=by simp[mX,ha,hb]
   rw[X0]at z8;refine ZU f1 f5 f9 f10 f11 dQ hd hw hel ha hb w1 w2 htH ht0 ht2 ht3 ht4 K2 hn3 W8 hn5 ht5 ht6 ?_;refine hJJ (l.length-(k+1)) _ _ oO ⟨k+1,oO,rfl,sF1 f1,sF1 f9,sF1 f10,sS,t,by rw[z8];simp[f5],oO,by have:=j5.next;omega,by simp<;>omega,by rw[z8];simp[htH,ht2,ht4,K2,hn3,W8,hn5],?_⟩
   (repeat (first|exact j5|(refine aA.trans ?_ (aA.new _ _))|(refine aA.set ?_ (by have:=j5.next;first|omega|(simp only[aG,bH];omega)) _)))
def JR(v:Int)(x:Ed):List Int:=(if x.a=v then [x.b]else [])++(if x.b=v then [x.a]else [])
def nbr(es:List Ed)(v:Int):List Int:=es.flatMap (JR v)
def alone(g:Gr):Nat:=g.vs.countP fun v=>decide (nbr g.es v=[])
theorem JP(p:Int->Bool)(l:List Int)(k:Nat)(hk:k<l.length):(l.take (k+1)).countP p=(l.take k).countP p+(if p (l.getD k 0)=true then 1 else 0):=by rw[aAp hk,List.countP_append,bB _ _ hk];simp[List.countP_cons]
inductive Reach(es:List Ed)(v:Int):Int->Prop
 |refl:Reach es v v
 |step {u w:Int} (h:Reach es v u) (hw:w∈nbr es u):Reach es v w
theorem dB{es:List Ed}{u w:Int}:w∈nbr es u↔∃ x∈es,(x.a=u/\x.b=w)\/(x.b=u/\x.a=w):=by
 grind [nbr,JR]
theorem mK{es:List Ed}{u w:Int}(h:w∈nbr es u):u∈nbr es w:=by
 grind [dB]
theorem Reach.trans{es:List Ed}{u v w:Int}(h:Reach es u v)(k:Reach es v w):Reach es u w:=by
 induction k with
 |refl=>exact h
 |step _ hw ih=>exact .step ih hw
theorem Reach.symm{es:List Ed}{u v:Int}(h:Reach es u v):Reach es v u:=by
 induction h with
 |refl=>exact .refl
 |step _ hw ih=>exact Reach.trans (.step .refl (mK hw)) ih
theorem Reach.closed{es:List Ed}{v w:Int}{L:Int->Prop}(h:Reach es v w)(hv:L v)(hc:∀ u,L u->∀ w∈nbr es u,L w):L w:=by
 induction h with
 |refl=>omega
 |step _ hw ih=>grind
structure Good(g:Gr):Prop where
 rise:g.vs.Pairwise (· < ·)
 ends:∀ x∈g.es,x.a∈g.vs/\x.b∈g.vs
theorem Good.nbr{g:Gr}(h:Good g){u w:Int}(hw:w∈nbr g.es u):w∈g.vs:=by
 rw[dB]at hw;obtain⟨x,hx,⟨_,rfl⟩|⟨_,rfl⟩⟩:=hw
 .exact(h.ends x hx).2
 .exact(h.ends x hx).1
theorem Good.reach{g:Gr}(h:Good g){v w:Int}(hv:v∈g.vs)(hr:Reach g.es v w):w∈g.vs:=by
 cases hr with
 |refl=>omega
 |step _ hw=>exact h.nbr hw
theorem Good.nodup{g:Gr}(h:Good g):g.vs.Nodup:=h.rise.imp fun h=>by omega
def wM(g:Gr)(v:Int)(c:List Int):Prop:=c.Pairwise (· < ·)/\∀ w,w∈c↔w∈g.vs/\Reach g.es v w
def Seen(g:Gr)(k:Nat)(w:Int):Prop:=∃ u∈g.vs.take k,Reach g.es u w
theorem zA{l:List Int}(h:l.Pairwise (· < ·)){k:Nat}(hk:k<l.length){u:Int}:u∈l.take k↔u∈l/\u<l.getD k 0:=by
 rw[bB _ _ hk];constructor
 .grind [List.getElem_of_mem,List.pairwise_iff_getElem]
 .rintro⟨hu,dQ⟩;obtain⟨j,hj,rfl⟩:=aAA hu
  grind [List.pairwise_iff_getElem,List.mem_take_iff_getElem]
inductive eG(g:Gr):Nat->List (List Int)->Prop
 |zero:eG g 0 []
 |seen {k:Nat} {R:List (List Int)} (h:eG g k R) (hk:k<g.vs.length) (hs:Seen g k (g.vs.getD k 0)):eG g (k+1) R
 |lead {k:Nat} {R:List (List Int)} {c:List Int} (h:eG g k R) (hk:k<g.vs.length) (hs:¬Seen g k (g.vs.getD k 0)) (hc:wM g (g.vs.getD k 0) c):eG g (k+1) (R++[c])
theorem eG.len{g:Gr}{k:Nat}{R:List (List Int)}(h:eG g k R):R.length<=k:=by
 induction h with
 |zero=>simp
 |seen _ _ _ ih=>omega
 |lead _ _ _ _ ih=>grind
abbrev FP(rs:List (List Int)):List LV:=rs.map fun r=>.sl 0 r.length (us r)
theorem JM{P:Program}{f:FuncId}{args:List LV}{st:St}{Q:LV->St->Prop}(h:aB P f args st fun r st'=>∃ t n cs,r=.sl t n cs/\Q (.sl 0 n cs) st'):aB P f args st Q:=by
 refine⟨h.1,fun w g vs hi hr=>(h.2 w g vs hi hr).mono ?_⟩;rintro x w' ⟨v,r,st',g',rfl,⟨t,n,cs,rfl,hq⟩,C8,D8,he⟩;refine⟨v,_,st',g',rfl,hq,?_,D8,he⟩
 grind [Rep]
def InI(es:List (List Int×LV))(S:List Int):Prop:=∀ v,(bS es [v]).getD (bb false)=bb (decide (v∈S))
theorem InI.step{es:List (List Int×LV)}{S:List Int}(h:InI es S)(w:Int):InI (bV es [w] (bb true)) (S++[w]):=by
 intro v;rw[rF];by_cases hv:v=w
 .grind
 .rw[aAa (by grind),h v];simp_all
theorem InI.congr{es:List (List Int×LV)}{S S':List Int}(h:InI es S)(hs:∀ v,v∈S'↔v∈S):InI es S':=fun v=>by rw[h v,show decide (v∈S')=decide (v∈S) from aDN.2 (hs v)]
structure rY(g:Gr)(v:Int)(S:List Int):Prop where
 nodup:S.Nodup
 mem:v∈S
 reach:∀ w∈S,Reach g.es v w
theorem rY.len{g:Gr}(hg:Good g){v:Int}(hv:v∈g.vs){S:List Int}(h:rY g v S):S.length<=g.vs.length:=
 aAy h.nodup fun w hw=>hg.reach hv (h.reach w hw)
theorem rY.push{g:Gr}{v:Int}{S:List Int}(h:rY g v S){x:Ed}(hx:x∈g.es){u w:Int}(hu:u∈S)(hw:w∉S)(hxw:(x.a=u/\x.b=w)\/(x.b=u/\x.a=w)):rY g v (S++[w]):=by
 refine⟨?_,aAr _ h.mem,fun z hz=>?_⟩
 .rw[aAo];refine⟨h.nodup,sS,fun a ha b hb=>?_⟩
  grind
 .rw[aAd,aAi]at hz;rcases hz with hz|rfl
  .exact h.reach z hz
  .exact .step (h.reach u hu) (dB.2 ⟨x,hx,hxw⟩)
def Qk(es:List Ed)(S:List Int):Prop:=∀ x∈es,(x.a∈S↔x.b∈S)
theorem rY.part{g:Gr}(hg:Good g){v:Int}{S:List Int}(h:rY g v S)(he:Qk g.es S):wM g v (g.vs.filter fun w=>decide (w∈S)):=by
 refine⟨hg.rise.filter _,fun w=>?_⟩;rw[aAC,aBr];refine⟨fun hw=>⟨hw.1,h.reach w hw.2⟩,fun hw=>⟨hw.1,?_⟩⟩;refine hw.2.closed (L:=fun w=>w∈S) h.mem fun u hu w hw=>?_;obtain⟨x,hx,⟨rfl,rfl⟩|⟨rfl,rfl⟩⟩:=dB.1 hw
 .exact(he x hx).1 hu
 .exact(he x hx).2 hu
def RpI(ms:Nat)(g:Gr)(st:St)(S:List Int)(fr:Frm)(st2:St):Prop:=
 fr 2=.pt st.next 0/\fr 5=.mp ms/\st.next<ms/\ms<st2.next/\aA st st2/\st2.H st.next=.box 25 2 (grL g)/\∃ es,st2.H ms=.map false [.u32] es/\InI es S
theorem RpI.fr{ms:Nat}{g:Gr}{st:St}{S:List Int}{fr c7:Frm}{st2:St}(h:RpI ms g st S fr st2)(h2:c7 2=fr 2)(h5:c7 5=fr 5):RpI ms g st S c7 st2:=
 ⟨h2.trans h.1,h5.trans h.2.1,h.2.2⟩
theorem Qd(g:Gr)(v:Int)(st:St)(hg:Good g)(hv:g.vs.length<=1000)(he:g.es.length<=1000)(W5:v∈g.vs):
 aB prog 115 [.ag (grL g),u v] st fun r st'=>(∃ c,r=.sl 0 c.length (us c)/\wM g v c)/\aA st st':=by
 refine JM ?_;have hel:=aJ g.es;refine zN func115 ntmps115 [.tmp 4] ?_;refine xw0 ?_;obtain⟨ms,hms⟩:∃ ms,ms=st.next+1:=⟨_,rfl⟩;refine qL (fun z fr st2=>∃(gr:Bool) (S:List Int),z=(if gr=true then g.vs.length+1-S.length else 0)/\fr 6=bb gr/\rY g v S/\(gr=false->Qk g.es S)/\RpI ms g st S fr st2) g.vs.length ?_ ?_
 .refine⟨true,[v],sS,sS,⟨sS,sS,fun w hw=>?_⟩,fun h=>absurd h sS,sS,by simp_all,oO,by simp_all,?_,sS,_,by simp[hms];rfl,fun w=>?_⟩
  .rw[aAi]at hw;subst hw;exact .refl
  .grind [aA.trans,aA.new,aA.set]
  grind [bV,bS]
 rintro z fr st2 ⟨gr,S,rfl,f6,hF,hE,hI⟩ JJ hJJ;cases gr
 .clear hJJ;obtain⟨f2,f5,hm1,hm2,j5,hG,es,hM,hIn⟩:=hI;have hpt:=hF.part hg (hE rfl);refine xw3 f6 f2 hG ?_;refine kD 9 34 1 sS ?_;have hqq:∀ k,(g.vs.take (k+1)).filter (fun w=>decide (w∈S))=if k<g.vs.length then(if g.vs.getD k 0∈S then(g.vs.take k).filter (fun w=>decide (w∈S))++[g.vs.getD k 0]else(g.vs.take k).filter (fun w=>decide (w∈S)))else g.vs.filter (fun w=>decide (w∈S)):=by
   intro k;by_cases hk:k<g.vs.length
   .grind [List.take_succ_eq_append_getElem]
   .grind [List.take_of_length_le]
  refine qL (fun z fr F9=>∃ k:Nat,k<=g.vs.length/\z=g.vs.length-k/\fr 5=.mp ms/\fr 40=.sl 0 g.vs.length (us g.vs)/\fr 41=i g.vs.length/\fr 42=i k/\F9.H ms=.map false [.u32] es/\ms<F9.next/\∃ t,fr 9=.sl t ((g.vs.take k).filter fun w=>decide (w∈S)).length (us ((g.vs.take k).filter fun w=>decide (w∈S)))/\VH t st ((g.vs.take k).filter fun w=>decide (w∈S)) F9) g.vs.length ?_ ?_
  .have a1:¬ms=st2.next:=oO;exact⟨0,oO,oO,by simp_all,sS,sS,sS,by simp_all,by simp;omega,st2.next,sS,oO,oO,sS,sS,j5.trans (aA.new _ _)⟩
  clear f2 f5 f6 hM j5 hG fr;rintro z fr F9 ⟨k,hk,rfl,f5,f40,f41,f42,hM,hm3,t,f9,ht0,htl,htn,htH,j5⟩ JJ hJJ;by_cases dQ:k<g.vs.length;rotate_left
  .clear hJJ;have I4:k=g.vs.length:=oO;rw[I4,aAN]at f9;refine xw4 f9 f41 f42 dQ ?_
   grind
  have hd:=qG g.vs k dQ;have hw:=qN k oO;have z8:=hqq k;rw[aAk dQ]at z8;have u9:=aBf (fun w=>decide (w∈S)) (g.vs.take k);rw[aAv]at u9;generalize hx:g.vs.getD k 0=x at *;generalize hFF:(g.vs.take k).filter (fun w=>decide (w∈S))=F at *;have hIx:=hIn x;have ht2:¬t=F9.next:=oO;by_cases hxS:x∈S
  .rw[aAk hxS]at z8;rw[aBs hxS]at hIx
   (repeat' (first|apply qS|apply qB|refine qK (zZ ?_)|(apply qC;simp[f5,f9,f40,f41,f42,dQ,hd,hw,hM,hIx,htH,ht0,ht2])|(refine zE ?_;intro J hJ;simp[f5,f9,f40,f41,f42,dQ,hd,hw,hM,hIx,htH,ht0,ht2];(repeat refine ca ?_);refine zJ hJ ?_)))
   have a1:¬ms=F9.next:=oO;have a2:¬ms=F9.next+1:=oO;have a3:¬ms=t:=fun h=>by grind
   exact hJJ (g.vs.length-(k+1)) _ _ oO ⟨k+1,oO,rfl,sF1 f5,sF1 f40,sF1 f41,sS,sF4 a1 a2 a3 hM,by simp;omega,F9.next+1,by rw[z8];simp,oO,oO,sS,by rw[z8];simp,(by repeat (first|exact j5|(refine aA.trans ?_ (aA.new _ _))|(refine aA.set ?_ oO _)))⟩
  .rw[aAa hxS]at z8;rw[aBC hxS]at hIx;refine FU f5 f9 f40 f41 f42 dQ hd hw hM hIx ?_;exact hJJ (g.vs.length-(k+1)) _ _ oO ⟨k+1,oO,rfl,sF1 f5,sF1 f40,sF1 f41,sS,hM,hm3,t,by rw[z8];simp[f9],ht0,htl,htn,by grind,j5⟩
 have hSl:=hF.len hg W5;obtain⟨f2,f5,hm1,hm2,j5,hG,es,hM,hIn⟩:=id hI;refine xw3 f6 f2 hG ?_;refine qL (fun z fr st2=>∃(k:Nat) (gr:Bool) (S':List Int),k<=g.es.length/\z=g.es.length-k/\fr 6=bb gr/\fr 17=.sl 0 g.es.length (eds g.es)/\fr 18=i g.es.length/\fr 19=i k/\rY g v S'/\(gr=false->Qk (g.es.take k) S')/\(gr=true->S.length<S'.length)/\S.length<=S'.length/\RpI ms g st S' fr st2) g.es.length ?_ ?_
 .exact⟨0,false,S,oO,oO,sS,sS,sS,sS,hF,fun _ x hx=>by grind,fun h=>absurd h sS,aAl _,hI.fr sS sS⟩
 clear f2 f5 f6 hI hE hF hm1 hm2 j5 hG hM hIn es fr st2;rintro z fr st2 ⟨k,gr,S',hk,rfl,f6,f17,f18,f19,hF,hE,hG2,hSS,hI⟩ J2 S5;have hSl2:=hF.len hg W5;obtain⟨f2,f5,hm1,hm2,j5,hG,es,hM,hIn⟩:=id hI;by_cases dQ:k<g.es.length;rotate_left
 .clear S5;have I4:k=g.es.length:=oO;rw[I4,aAN]at hE;refine xw3 f18 f19 dQ ?_;refine hJJ (if gr=true then g.vs.length+1-S'.length else 0) _ _ ?_ ⟨gr,S',rfl,sF1 f6,hF,hE,hI.fr sS sS⟩
  grind
 clear hJJ;have hd:=aP g.es k dQ;have hw:=qN k oO;have o9:k*3<g.es.length*3:=oO;have O4:g.es.getD k ed0∈g.es:=by rw[aAg,aAh dQ];exact aAz dQ
 have hEn:(gr=false->Qk (g.es.take k) S')->((g.es.getD k ed0).a∈S'↔(g.es.getD k ed0).b∈S')->(gr=false->Qk (g.es.take (k+1)) S'):=by
  intro h1 h2 h3 y hy;rw[aAp dQ,aAd,aAi]at hy;rcases hy with hy|rfl
  .exact h1 h3 y hy
  .grind
 generalize hx:g.es.getD k ed0=x at *;obtain⟨id,a,b⟩:=x;simp only at hd hEn;have hIa:=hIn a;have hIb:=hIn b;have a1:¬ms=st2.next:=oO;have a2:¬st2.next=ms:=oO;have a3:¬st.next=st2.next:=oO;have a4:¬st.next=ms:=oO;by_cases x7:(a∈S'↔b∈S')
 .have hdd:decide (a∈S')=decide (b∈S'):=aDN.2 x7;rw[hdd]at hIa;refine Xi f5 f17 f18 f19 dQ hd hel hw hM hIa hIb a1 a2 ?_;exact S5 (g.es.length-(k+1)) _ _ oO ⟨k+1,gr,S',oO,rfl,sF1 f6,sF1 f17,sF1 f18,sS,hF,hEn hE x7,hG2,hSS,sF1 f2,sF1 f5,hm1,by simp;omega,(by grind [aA.trans,aA.new]),sF2 a3 hG,es,sF2 a1 hM,hIn⟩
 .have hdd:¬decide (a∈S')=decide (b∈S'):=fun h=>x7 (aDN.1 h);have hIn2:=(hIn.step a).step b;obtain⟨S2,hS2,hF2,Y1⟩:∃ S2,(∀ z,z∈S2↔z∈S'++[a]++[b])/\rY g v S2/\S'.length<S2.length:=by
   by_cases ha:a∈S'
   .have hb:b∉S':=fun h=>x7 ⟨fun _=>h,fun _=>ha⟩;refine⟨S'++[b],fun z=>?_,hF.push O4 ha hb (.inl ⟨rfl,rfl⟩),sS⟩
    grind
   .have hb:b∈S':=aAI fun h=>x7 ⟨fun h1=>absurd h1 ha,fun h1=>absurd h1 h⟩;refine⟨S'++[a],fun z=>?_,hF.push O4 hb ha (.inr ⟨rfl,rfl⟩),sS⟩
    grind
  have hIn3:=hIn2.congr hS2;refine WL f5 f17 f18 f19 dQ hd hel hw hM hIa hIb hdd a1 a2 ?_;exact S5 (g.es.length-(k+1)) _ _ oO ⟨k+1,true,S2,oO,rfl,sS,sF1 f17,sF1 f18,sS,hF2,fun h=>absurd h sS,fun _=>by omega,oO,sF1 f2,sF1 f5,hm1,by simp;omega,(by repeat (first|exact j5|(refine aA.trans ?_ (aA.new _ _))|(refine aA.set ?_ oO _))),sF3 a3 a4 hG,_,sS,hIn3⟩
theorem wM.seen{g:Gr}(hg:Good g){k:Nat}(hk:k<g.vs.length){x:Int}{c:List Int}(h:wM g (g.vs.getD k 0) (x::c)):Seen g k (g.vs.getD k 0)↔x≠g.vs.getD k 0:=by
 have W5:g.vs.getD k 0∈g.vs:=by rw[bB _ _ hk];exact aAz hk
 obtain⟨h1,h2⟩:=h;have F8:∀ w∈x::c,x<=w:=by
  intro w hw;rw[aAe]at hw;rcases hw with rfl|hw
  .omega
  .have:=(aBl.1 h1).1 w hw;omega
 have O4:=(h2 x).1 (aAf ..);constructor
 .rintro⟨u,hu,hr⟩ he;obtain⟨k1,k2⟩:=(zA hg.rise hk).1 hu;have:=F8 u ((h2 u).2 ⟨k1,hr.symm⟩);omega
 .intro Zy;have:=F8 _ ((h2 _).2 ⟨W5,.refl⟩);exact⟨x,(zA hg.rise hk).2 ⟨O4.1,oO⟩,O4.2.symm⟩
theorem MG(g:Gr)(st:St)(hg:Good g)(hv:g.vs.length<=1000)(he:g.es.length<=1000):
 aB prog 73 [.ag (grL g)] st fun r st'=>(∃ t R,r=.sl t R.length (FP R)/\eG g g.vs.length R)/\aA st st':=by
 refine zN func73 ntmps73 [.tmp 2] ?_;refine xw0 ?_;refine fE fun E0=>?_;refine kD 3 22 1 sS ?_;refine qL (fun z fr st2=>∃ j:Nat,j<=g.vs.length/\z=g.vs.length-j/\fr 1=.pt st.next 0/\fr 8=.sl 0 g.vs.length (us g.vs)/\fr 9=i g.vs.length/\fr 10=i j/\st.next<st2.next/\st2.H st.next=.box 25 2 (grL g)/\aA st st2/\∃ t R,fr 3=.sl t R.length (FP R)/\eG g j R/\t≠0/\st.next<t/\t<st2.next/\st2.H t=.own 22 1 R.length) g.vs.length ?_ ?_
 .refine⟨0,oO,oO,sS,sS,sS,sS,by simp;omega,sS,?_,st.next+1,[],sS,.zero,oO,oO,sS,sS⟩
  (repeat (first|exact aA.refl _|(refine aA.trans ?_ (aA.new _ _))|(refine aA.set ?_ oO _)))
 rintro z fr st2 ⟨j,hj,rfl,f1,f8,f9,f10,O9,hG,j5,t,R,f3,hPT,ht0,htl,htn,htH⟩ JJ hJJ;by_cases dQ:j<g.vs.length;rotate_left
 .clear hJJ;have hj':j=g.vs.length:=oO;rw[hj']at hPT;refine xw4 f3 f9 f10 dQ ?_;exact⟨⟨t,R,⟨rfl,rfl,rfl⟩,hPT⟩,j5⟩
 have hd:=qG g.vs j dQ;have hw:=qN j oO;have W5:g.vs.getD j 0∈g.vs:=by rw[bB _ _ dQ];exact aAz dQ
 have hps:=fun hs=>eG.seen hPT dQ hs;have M8:=fun(c:List Int) hs hc=>eG.lead (c:=c) hPT dQ hs hc;have hsn2:=fun x c=>@wM.seen g hg j dQ x c;have hRl:=hPT.len;generalize hx:g.vs.getD j 0=v at *
 (refine xj7 f1 f8 f9 f10 dQ hd hG ?_;intro J hJ)
 refine qE (Qd g v st2 hg hv he W5) (sF2 f1 hG) ?_;rintro r s2 ⟨⟨c,rfl,hc⟩,u5⟩;have K2:=u5.next;have hG2:=(u5.H _ O9).trans hG;have htH2:=(u5.H _ htn).trans htH;have hkp2:=j5.trans u5;have a1:¬t=s2.next:=oO;have a2:¬t=s2.next+1:=oO;have a3:¬st.next=s2.next:=oO;have a4:¬st.next=s2.next+1:=oO;have a5:¬st.next=t:=oO;cases c with
 |nil=>exfalso;have:=(hc.2 v).2 ⟨W5,.refl⟩;simp at this
 |cons x c=>
  by_cases hxv:x=v
  .have hns:¬Seen g j v:=fun h=>((hsn2 x c hc).1 h) hxv;have hP2:=M8 _ hns hc
   (repeat' (first|apply qS|(apply qC;simp[f3,f10,hw,hxv,htH2,ht0,a1,a2])|((first|(refine zE ?_;intro J hJ)|(apply cD));simp[f3,f10,hw,hxv,htH2,ht0,a1,a2];(repeat refine ca ?_);(refine zJ hJ ?_;clear hJ J))))
   rw[hxv]at hP2;refine hJJ (g.vs.length-(j+1)) _ _ oO ⟨j+1,oO,rfl,sF1 f1,sF1 f8,sF1 f9,sS,by simp;omega,sF4 a3 a4 a5 hG2,?_,s2.next+1,R++[v::c],sS,hP2,oO,oO,sS,sS⟩
   (repeat (first|exact hkp2|(refine aA.trans ?_ (aA.new _ _))|(refine aA.set ?_ oO _)))
  .have hns:Seen g j v:=(hsn2 x c hc).2 hxv;have hP2:=hps hns;refine WB hJ f3 f10 hw hxv ?_;exact hJJ (g.vs.length-(j+1)) _ _ oO ⟨j+1,oO,rfl,sF1 f1,sF1 f8,sF1 f9,sS,oO,hG2,hkp2,t,R,sF1 f3,hP2,ht0,htl,oO,htH2⟩
def KI(f:FuncId)(GK:List LV)(st:St)(l:List Ed)(p:Ed->Bool):Prop:=∀ x∈l,∀ st2,aA st st2->aB prog f (.ag (edL x)::GK) st2 fun r F9=>r=bb (p x)/\aA st2 F9
theorem EP(l:List Ed)(p:Ed->Bool)(k:Nat)(hk:k<l.length):(l.take (k+1)).filter p=if p (l.getD k ed0)=true then(l.take k).filter p++[l.getD k ed0]else(l.take k).filter p:=by rw[aAp hk,aDd,aAg,aAh hk];by_cases h:p l[k]=true<;>simp[h]
def ZY(X:LV)(F:List Ed):Prop:=(X=.nil/\F=[])\/∃ t,X=.sl t F.length (eds F)
theorem B3(g:Gr)(f:FuncId)(GK:List LV)(p:Ed->Bool)(st:St)(hv:g.vs.length<=1000)(he:g.es.length<=1000)(hp:KI f GK st g.es p):
 aB prog 14 [.ag (grL g),.fn (.func f) GK] st fun r st'=>(∃ X,r=.ag [.sl 0 g.vs.length (us g.vs),X]/\ZY X (g.es.filter p))/\aA st st':=by
 have hel:=aJ g.es;have J7:small g.vs:=by unfold small;omega
 refine zN func14 ntmps14 [.cell 4 25] ?_
 (refine xj0 ?_;intro J hJ)
 refine qE (QA g.vs 0 _ J7) sS ?_;rintro r s1 ⟨rfl,j7⟩;have I2:=j7.next;simp only[aG]at I2;have O2:s1.H st.next=.box 25 2 (grL g):=by rw[j7.H _ (by simp;omega)];simp
 have hC1:s1.H (st.next+1)=.box 25 2 [.nil,.nil]:=by rw[j7.H _ sS];simp
 have e1:¬st.next=s1.next:=oO;refine pX hJ O2 e1 ?_;have N5:aA st s1:=((aA.new _ _).trans (aA.new _ _)).trans j7;obtain⟨q4,hq4⟩:∃ q,q=st.next+1:=⟨_,rfl⟩;obtain⟨q5,hq5⟩:∃ q,q=s1.next:=⟨_,rfl⟩;refine qL (fun n fr st2=>∃ k:Nat,k<=g.es.length/\n=g.es.length-k/\fr 1=.fn (.func f) GK/\fr 4=.pt q4 0/\fr 5=.pt q5 0/\fr 13=.sl 0 g.es.length (eds g.es)/\fr 14=i g.es.length/\fr 15=i k/\aA st st2/\q5<st2.next/\st2.H q4=.box 25 2 [.nil,.nil]/\∃ X,st2.H q5=.box 25 2 [.sl 0 g.vs.length (us g.vs),X]/\((X=.nil/\(g.es.take k).filter p=[])\/∃ t,X=.sl t ((g.es.take k).filter p).length (eds ((g.es.take k).filter p))/\t≠0/\q5<t/\t<st2.next/\st2.H t=.own 36 3 ((g.es.take k).filter p).length)) g.es.length ?_ ?_
 .have e2:¬q4=s1.next:=oO;have e3:¬st.next+1=s1.next:=oO;refine⟨0,oO,oO,sS,sF1 hq4,sF1 hq5,sS,sS,sS,?_,sF1 hq5,sF4 e2 hC1 hq4 e3,.nil,sF1 hq5,.inl ⟨rfl,sS⟩⟩
  (repeat (first|exact N5|(refine aA.trans ?_ (aA.new _ _))|(refine aA.set ?_ oO _)))
 rintro n fr st2 ⟨k,hk,rfl,f1,f4,f5,f13,f14,f15,j5,h5n,hC,X,hX,hXs⟩ JJ hJJ;have e0:¬q4=q5:=oO;by_cases dQ:k<g.es.length;rotate_left
 .clear hJJ;have I4:k=g.es.length:=oO;rw[I4,aAN]at hXs;rcases hXs with⟨rfl,h⟩|⟨t,rfl,h⟩
  .refine xw8 f4 f5 f14 f15 dQ hX hC e0 ?_;exact⟨.inl ⟨rfl,h⟩,(by repeat (first|exact j5|(refine aA.trans ?_ (aA.new _ _))|(refine aA.set ?_ (by have:=j5.next;omega) _)))⟩
  .refine xw8 f4 f5 f14 f15 dQ hX hC e0 ?_;exact⟨.inr ⟨t,rfl⟩,(by repeat (first|exact j5|(refine aA.trans ?_ (aA.new _ _))|(refine aA.set ?_ (by have:=j5.next;omega) _)))⟩
 have hd:=aP g.es k dQ;have hw:=qN k oO;have o9:k*3<g.es.length*3:=oO;have O4:g.es.getD k ed0∈g.es:=by rw[aAg,aAh dQ];exact aAz dQ
 have z8:=EP g.es p k dQ;have u9:=aBf p (g.es.take k);rw[aAv]at u9;have htest:=fun s h=>hp _ O4 s h;generalize hx:g.es.getD k ed0=x at *;generalize hFF:(g.es.take k).filter p=F at *;have hFl:=aJ F;have hFo:(eds F).length=F.length*3:=hFl;obtain⟨d,a,b⟩:=x;simp only at hd htest
 (refine xj7 f1 f13 f14 f15 dQ hd hel ?_;intro J hJ)
 refine qF (htest _ (j5.trans (aA.new _ (.box 36 3 [u d,u a,u b])))) ?_;rintro r s3 ⟨rfl,hk3'⟩;have hn3:=hk3'.next;simp only[aG]at hn3;have hkk:aA st2 s3:=(aA.new _ _).trans hk3';have hX3:=(hkk.H q5 h5n).trans hX;have hC3:=(hkk.H q4 oO).trans hC;have hE3:s3.H st2.next=.box 36 3 [u d,u a,u b]:=by rw[hk3'.H _ sS];simp
 have hkp3:aA st s3:=(j5.trans (aA.new _ _)).trans hk3';have z1:¬q5=s3.next:=oO;have z2:¬q5=s3.next+1:=oO;have z3:¬q4=s3.next:=oO;have z4:¬q4=s3.next+1:=oO;have z5:¬s3.next+1=q5:=oO;by_cases hpx:p ⟨d,a,b⟩=true;rotate_left
 .rw[aAa hpx]at z8;have hpx:p ⟨d,a,b⟩=false:=by simpa using hpx
  refine nR hJ hpx f15 hw ?_;refine hJJ (g.es.length-(k+1)) _ _ oO ⟨k+1,oO,rfl,sF1 f1,sF1 f4,sF1 f5,sF1 f13,sF1 f14,sS,hkp3,oO,hC3,X,hX3,?_⟩;rw[z8];rcases hXs with h|⟨t,h,h0,h1,h2,h3⟩
  .exact .inl h
  .exact .inr ⟨t,h,h0,h1,oO,(hkk.H t h2).trans h3⟩
 rw[aAk hpx]at z8;have hed:eds (F++[⟨d,a,b⟩])=eds F++[u d,u a,u b]:=by simp[eds]
 rcases hXs with⟨rfl,hF0⟩|⟨t,rfl,h0,h1,h2,h3⟩
 ·(repeat' (first|(apply qC;simp[hpx,f5,f15,hw,hX3,hE3,z1,z2])|((first|(refine zE ?_;intro J hJ)|(apply cD));simp[hpx,f5,f15,hw,hX3,hE3,z1,z2];(repeat refine ca ?_);(refine zJ hJ ?_;clear hJ J))))
  refine hJJ (g.es.length-(k+1)) _ _ oO ⟨k+1,oO,rfl,sF1 f1,sF1 f4,sF1 f5,sF1 f13,sF1 f14,sS,?_,by simp;omega,sF4 e0 z3 z4 hC3,_,by simp;rfl,.inr ⟨s3.next+1,by rw[z8,hed,hF0];simp[eds],oO,oO,sS,by rw[z8,hF0];simp[z5]⟩⟩
  (repeat (first|exact hkp3|(refine aA.trans ?_ (aA.new _ _))|(refine aA.set ?_ oO _)))
 .have h3':s3.H t=.own 36 3 F.length:=(hkk.H t h2).trans h3;have y1:¬t=s3.next:=oO;have y2:¬t=s3.next+1:=oO;have y3:¬q5=t:=oO;have y4:¬t=q5:=oO;have y5:¬q4=t:=oO
  (repeat' (first|(apply qC;simp[hpx,f5,f15,hw,hX3,hE3,z1,z2,h3',h0,y1,y2,y3,y4,hFo])|((first|(refine zE ?_;intro J hJ)|(apply cD));simp[hpx,f5,f15,hw,hX3,hE3,z1,z2,h3',h0,y1,y2,y3,y4,hFo];(repeat refine ca ?_);(refine zJ hJ ?_;clear hJ J))))
  refine hJJ (g.es.length-(k+1)) _ _ oO ⟨k+1,oO,rfl,sF1 f1,sF1 f4,sF1 f5,sF1 f13,sF1 f14,sS,?_,by simp;omega,sF5 e0 z3 z4 y5 hC3,_,by simp;rfl,.inr ⟨s3.next+1,by rw[z8,hed];simp,oO,oO,sS,by rw[z8];simp[z5]⟩⟩
  (repeat (first|exact hkp3|(refine aA.trans ?_ (aA.new _ _))|(refine aA.set ?_ oO _)))
theorem pB{f:Nat->Int}{n:Nat}(h:cA f n=0):∀ j,j<n->f j=0:=by
 induction n with
 |zero=>omega
 |succ n ih=>
  grind [cA]
theorem wW{n a:Int}{b:Bool}(h:eZ n a b=0):1<=n/\n<=1048576/\(b=false->a<n):=by
 grind [eZ]
theorem Ta{l:List Int}(h:∀ j,j<l.length->0<j->l.getD (j-1) 0<l.getD j 0):l.Pairwise (· < ·):=by
 rw[aAB];intro a b ha hb x7;induction b with
 |zero=>omega
 |succ b ih=>
  grind
theorem Fq{g:Gr}(h:chk g=0):Good g/\Mf g.es/\g.vs.length<=64/\g.es.length<=160:=by
 unfold chk at h;by_cases h1:64<g.vs.length\/160<g.es.length
 .omega
 .rw[aAa h1]at h;by_cases h2:cA (lB g) g.vs.length=0
  .rw[aAa oO]at h;have hV:=pB h2;have hE:=pB h;have hEx:∀ j,j<g.es.length->(1<=(g.es.getD j ed0).id/\(g.es.getD j ed0).id<=1048576)/\(g.es.getD j ed0).a∈g.vs/\(g.es.getD j ed0).b∈g.vs:=by
    intro j hj;have:=hE j hj;unfold lI at this;simp only at this;by_cases h3:eZ (g.es.getD j ed0).id (g.es.getD (j-1) ed0).id (decide (j=0))=0
    .rw[aAa (fun h=>h h3)]at this;by_cases h4:(g.es.getD j ed0).a=(g.es.getD j ed0).b
     .omega
     .rw[aAa h4]at this;by_cases h5:(g.es.getD j ed0).a∉g.vs\/(g.es.getD j ed0).b∉g.vs
      .grind
      .have h6:=wW h3
       grind
    .omega
   have G8:∀ x∈g.es,∃ j,j<g.es.length/\g.es.getD j ed0=x:=by intro x hx;obtain⟨j,hj,rfl⟩:=aAA hx;exact⟨j,hj,by grind⟩
   refine⟨⟨Ta fun j hj h0=>?_,fun x hx=>?_⟩,fun x hx=>?_,oO,oO⟩
   .have:=(wW (hV j hj)).2.2 (by grind);omega
   .grind
   grind
  omega
theorem oR(es:List Ed)(v:Int):ends es v=[]↔nbr es v=[]:=by
 unfold ends nbr;simp only[List.flatMap_eq_nil_iff];refine forall_congr' fun x=>forall_congr' fun _=>?_
 grind [mX,JR]
end Aw
namespace Aw
open Go Go.RowKit Pl Eu
def aQ(es:List Ed):List Int:=es.flatMap fun x=>[2*x.id,2*x.id+1]
structure GoodE(g:Gr):Prop extends Good g where
 ids:g.es.Pairwise (fun x y=>x.id<y.id)
 pos:∀ x∈g.es,1<=x.id/\x.id<=1048576
 ne:∀ x∈g.es,x.a≠x.b
theorem eH(l:List Ed)(j:Nat)(hj:j<l.length):l.getD j ed0=l[j]:=by
 grind
theorem kF{g:Gr}(h:chk g=0):GoodE g:=by
 obtain⟨hg,_,_,_⟩:=Fq h;unfold chk at h;by_cases h1:64<g.vs.length\/160<g.es.length
 .omega
 rw[aAa h1]at h;by_cases h2:cA (lB g) g.vs.length=0
 .rw[aAa oO]at h;have hE:=pB h;have hEx:∀ j,j<g.es.length->((1<=(g.es.getD j ed0).id/\(g.es.getD j ed0).id<=1048576)/\(0<j->(g.es.getD (j-1) ed0).id<(g.es.getD j ed0).id))/\(g.es.getD j ed0).a≠(g.es.getD j ed0).b:=by
   intro j hj;have:=hE j hj;unfold lI at this;simp only at this;by_cases h3:eZ (g.es.getD j ed0).id (g.es.getD (j-1) ed0).id (decide (j=0))=0
   .rw[aAa (fun h=>h h3)]at this;by_cases h4:(g.es.getD j ed0).a=(g.es.getD j ed0).b
    .omega
    .have h6:=wW h3
     grind
   .omega
  have G8:∀ x∈g.es,∃ j,j<g.es.length/\g.es.getD j ed0=x:=by intro x hx;obtain⟨j,hj,rfl⟩:=aAA hx;exact⟨j,hj,eH _ _ hj⟩
  refine⟨hg,?_,fun x hx=>?_,fun x hx=>?_⟩
  .rw[aAB];intro a b ha hb x7;induction b with
   |zero=>omega
   |succ b ih=>
    grind
  .grind
  grind
 omega
theorem id_eq{es:List Ed}(h:es.Pairwise (fun x y=>x.id<y.id)){x y:Ed}(hx:x∈es)(hy:y∈es)(he:x.id=y.id):x=y:=by
 obtain⟨j,hj,rfl⟩:=aAA hx;obtain⟨k,hk,rfl⟩:=aAA hy;rcases aCk j k with h1|h1|h1
 .grind [List.pairwise_iff_getElem]
 .grind
 grind [List.pairwise_iff_getElem]
theorem cK{es:List Ed}{v d:Int}:d∈ends es v↔∃ x∈es,(x.a=v/\d=2*x.id)\/(x.b=v/\d=2*x.id+1):=by
 grind [ends,mX]
theorem dG{es:List Ed}{d:Int}:d∈aQ es↔∃ x∈es,d=2*x.id\/d=2*x.id+1:=by
 grind [aQ]
theorem iR{es:List Ed}{d:Int}:d∈aQ es↔∃ x∈es,x.id=d / 2:=by
 grind [dG]
theorem nN{es:List Ed}(h:es.Pairwise (fun x y=>x.id<y.id)):(aQ es).Pairwise (· < ·):=by
 grind [aQ]
theorem vA{es:List Ed}(h:es.Pairwise (fun x y=>x.id<y.id))(v:Int):(ends es v).Pairwise (· < ·):=by
 unfold ends;rw[List.pairwise_flatMap];refine⟨fun x _=>?_,h.imp fun {x y} D4 a ha b hb=>?_⟩
 .unfold mX;by_cases h1:x.a=v<;>by_cases h2:x.b=v<;>simp[h1,h2];omega
 grind [mX]
theorem iL{l:List Int}(h:l.Pairwise (· < ·)):l.Nodup:=h.imp fun h=>by omega
theorem nC(es:List Ed):(aQ es).length=2*es.length:=by
 induction es with
 |nil=>rfl
 |cons x l ih=>grind [aQ]
theorem NP(es:List Ed)(k:Nat)(hk:k<es.length):(aQ es).getD (2*k) 0=2*(es.getD k ed0).id/\(aQ es).getD (2*k+1) 0=2*(es.getD k ed0).id+1:=by
 induction es generalizing k with
 |nil=>grind
 |cons x l ih=>
  cases k with
  |zero=>simp[aQ]
  |succ k=>
   grind [aQ]
def Eg(es:List Ed)(v:Int)(t:List Int):Prop:=t.Perm (ends es v)/\nrm t=t
structure bM(m:Mp):Prop where
 g:GoodE m.g
 len:m.rots.length=m.g.vs.length
 ok:∀ k,k<m.g.vs.length->Eg m.g.es (m.g.vs.getD k 0) (m.rots.getD k [])
theorem dY{es:List Ed}(h:es.Pairwise (fun x y=>x.id<y.id)){d v w:Int}(hv:d∈ends es v)(hw:d∈ends es w):v=w:=by
 grind [cK,id_eq]
theorem rL{es:List Ed}{d v:Int}(h:d∈ends es v):d∈aQ es:=by
 grind [cK,dG]
theorem LL{es:List Ed}{d:Int}(h:d∈aQ es):∃ v,d∈ends es v/\∃ x∈es,x.id=d / 2/\(v=x.a\/v=x.b):=by
 grind [dG,cK]
theorem jC(l:List (List Int))(j:Nat)(hj:j<l.length):l.getD j []=l[j]:=by
 grind
section
variable {m:Mp} (h:bM m)
include h
theorem bM.turn{t:List Int}(ht:t∈m.rots):∃ k,k<m.g.vs.length/\t=m.rots.getD k []/\Eg m.g.es (m.g.vs.getD k 0) t:=by
 obtain⟨k,hk,rfl⟩:=aAA ht;have I4:k<m.g.vs.length:=by rw[<- h.len];exact hk
 refine⟨k,I4,(jC _ _ hk).symm,?_⟩;have:=h.ok k I4
 grind
theorem bM.nodup{t:List Int}(ht:t∈m.rots):t.Nodup:=by obtain⟨k,_,_,h1,_⟩:=h.turn ht;exact h1.nodup_iff.2 (iL (vA h.g.ids _))
theorem bM.same{t t':List Int}(ht:t∈m.rots)(U8:t'∈m.rots){d:Int}(hd:d∈t)(I1:d∈t'):t=t':=by obtain⟨k,hk,rfl,h1,_⟩:=h.turn ht;obtain⟨k',I4,rfl,h2,_⟩:=h.turn U8;have:=dY h.g.ids (h1.mem_iff.1 hd) (h2.mem_iff.1 I1);rw[bB _ _ hk,bB _ _ I4]at this;have h3:=congrArg m.g.vs.idxOf this;rw[h.g.toGood.nodup.idxOf_getElem,h.g.toGood.nodup.idxOf_getElem]at h3;rw[h3]
theorem bM.turn_of{d:Int}(hd:d∈aQ m.g.es):∃ t∈m.rots,d∈t:=by
 obtain⟨v,hv,x,hx,_,hvx⟩:=LL hd;have W5:v∈m.g.vs:=by
  rcases hvx with rfl|rfl
  .exact(h.g.ends x hx).1
  .exact(h.g.ends x hx).2
 obtain⟨k,hk,rfl⟩:=aAA W5;have:=h.ok k hk;rw[bB _ _ hk]at this;refine⟨_,?_,this.1.mem_iff.2 hv⟩;rw[jC _ _ (by rw[h.len];omega)]
 grind
theorem bM.turn_dart{t:List Int}(ht:t∈m.rots){d:Int}(hd:d∈t):d∈aQ m.g.es:=by
 obtain⟨k,_,_,h1,_⟩:=h.turn ht
 grind [rL]
theorem bM.row_le{t:List Int}(ht:t∈m.rots):t.length<=2*m.g.es.length:=by obtain⟨k,_,_,h1,_⟩:=h.turn ht;rw[h1.length_eq];exact tN _ (uJ _) _
end
def sg(m:Mp)(d:Int):Int:=match m.rots.find? (fun t=>decide (d∈t)) with
 |some t=>nx t d
 |none=>d
theorem Vw{m:Mp}{d:Int}(h:∀ t∈m.rots,d∉t):sg m d=d:=by
 grind [sg]
theorem Dg{m:Mp}(h:bM m){t:List Int}(ht:t∈m.rots){d:Int}(hd:d∈t):sg m d=nx t d:=by
 unfold sg;cases hf:m.rots.find? (fun t=>decide (d∈t)) with
 |none=>
  grind
 |some t'=>have h1:=aCY hf;have h2:=aCh hf;simp only at h1 ⊢;rw[h.same h2 ht (by grind) hd]
def al(es:List Ed)(d:Int):Int:=if(es.any fun x=>decide (x.id=d / 2))=true then tw d else d
theorem Da{es:List Ed}{d:Int}(h:d∈aQ es):al es d=tw d:=by
 grind [al,iR]
theorem vE{es:List Ed}{d:Int}(h:d∉aQ es):al es d=d:=by
 grind [al,iR]
theorem QK(d:Int):tw d / 2=d / 2:=by grind [tw]
theorem Zp(d:Int):tw (tw d)=d:=by grind [tw]
theorem KA{es:List Ed}{d:Int}:tw d∈aQ es↔d∈aQ es:=by grind [iR,QK]
theorem YT(es:List Ed)(d:Int):al es (al es d)=d:=by
 grind [Da,KA,Zp,vE]
theorem Tv(es:List Ed)(d:Int):al es d / 2=d / 2:=by
 grind [al,QK]
theorem UZ(es es':List Ed)(d:Int):al es d∈aQ es'↔d∈aQ es':=by grind [iR,Tv]
theorem WO(es:List Ed){d e:Int}(h:al es d=al es e):d=e:=by grind [YT]
def fc(m:Mp)(es:List Ed)(d:Int):Int:=sg m (al es d)
section
variable {m:Mp} (h:bM m)
include h
theorem bM.sg_mem{t:List Int}(ht:t∈m.rots){d:Int}(hd:d∈t):sg m d∈t:=by rw[Dg h ht hd];grind [IV]
theorem bM.sg_dart{d:Int}(hd:d∈aQ m.g.es):sg m d∈aQ m.g.es:=by obtain⟨t,ht,X6⟩:=h.turn_of hd;exact h.turn_dart ht (h.sg_mem ht X6)
theorem bM.sg_id{d:Int}(hd:d∉aQ m.g.es):sg m d=d:=Vw fun _ ht X6=>hd (h.turn_dart ht X6)
theorem bM.sg_inj{d e:Int}(he:sg m d=sg m e):d=e:=by
 by_cases h1:d∈aQ m.g.es
 .by_cases h2:e∈aQ m.g.es
  .obtain⟨t,ht,hd⟩:=h.turn_of h1;obtain⟨t',U8,I1⟩:=h.turn_of h2;have:=h.same ht U8 (h.sg_mem ht hd) (he ▸ h.sg_mem U8 I1);subst this;rw[Dg h ht hd,Dg h ht I1]at he;exact PB (h.nodup ht) hd I1 he
  .have:=h.sg_dart h1;rw[he,h.sg_id h2]at this
   grind
 .by_cases h2:e∈aQ m.g.es
  .have:=h.sg_dart h2;rw[<- he,h.sg_id h1]at this
   grind
  .rwa [h.sg_id h1,h.sg_id h2]at he
theorem bM.fc_inj(es:List Ed)(d e:Int)(he:fc m es d=fc m es e):d=e:=WO es (h.sg_inj he)
theorem bM.fc_dart(es:List Ed)(d:Int)(hd:d∈aQ m.g.es):fc m es d∈aQ m.g.es:=h.sg_dart ((UZ es _ d).2 hd)
theorem bM.fc_per(es:List Ed)(hs:∀ x∈es,x∈m.g.es):Per (fc m es):=by
 refine Qz (aQ m.g.es) (fun x hx=>h.fc_dart es x hx) (h.fc_inj es) fun x hx=>?_
 have L9:x∉aQ es:=fun hd=>hx (by
  grind [dG])
 unfold fc;rw[vE L9,h.sg_id hx]
theorem bM.sg_at_v{d v:Int}(hd:d∈ends m.g.es v):sg m d∈ends m.g.es v:=by obtain⟨t,ht,X6⟩:=h.turn_of (rL hd);obtain⟨k,hk,rfl,h1,_⟩:=h.turn ht;have:=dY h.g.ids hd (h1.mem_iff.1 X6);rw[this];exact h1.mem_iff.1 (h.sg_mem ht X6)
theorem bM.orb_reach(es:List Ed)(hs:∀ x∈es,x∈m.g.es)(n:Nat):∀ {d v:Int},d∈ends m.g.es v->∃ w,it (fc m es) n d∈ends m.g.es w/\Reach es v w:=by
 induction n with
 |zero=>intro d v hd;exact⟨v,hd,.refl⟩
 |succ n ih=>
  intro d v hd;have key:∃ w,fc m es d∈ends m.g.es w/\Reach es v w:=by
   by_cases c8:d∈aQ es
   .unfold fc;rw[Da c8];obtain⟨x,hx,hxd⟩:=iR.1 c8;have hxg:=hs x hx;obtain⟨y,hy,hyd⟩:=cK.1 hd;have D4:x=y:=id_eq h.g.ids hxg hy oO;subst D4;rcases hyd with⟨rfl,hdd⟩|⟨rfl,hdd⟩
    .refine⟨x.b,h.sg_at_v (cK.2 ⟨x,hxg,.inr ⟨rfl,?_⟩⟩),.step .refl (dB.2 ⟨x,hx,.inl ⟨rfl,rfl⟩⟩)⟩
     grind [tw]
    .refine⟨x.a,h.sg_at_v (cK.2 ⟨x,hxg,.inl ⟨rfl,?_⟩⟩),.step .refl (dB.2 ⟨x,hx,.inr ⟨rfl,rfl⟩⟩)⟩
     grind [tw]
   .unfold fc;rw[vE c8];exact⟨v,h.sg_at_v hd,.refl⟩
  obtain⟨w,h1,h2⟩:=key;obtain⟨w',h3,h4⟩:=ih h1;exact⟨w',h3,h2.trans h4⟩
end
theorem kH(es:List Ed):Eqv (Reach es):=⟨fun _=>.refl,Reach.symm,Reach.trans⟩
theorem Reach.mono{es es':List Ed}(hs:∀ x∈es,x∈es'){v w:Int}(h:Reach es v w):Reach es' v w:=by
 induction h with
 |refl=>exact .refl
 |step _ hw ih=>
  refine .step ih ?_
  grind [dB]
theorem Jq(es:List Ed)(x:Ed)(v w:Int):Reach (es++[x]) v w↔Eu.Mg (Reach es) x.a x.b v w:=by
 constructor
 .intro h;have hE:=Mg.eqv (kH es) x.a x.b;induction h with
  |refl=>exact hE.refl _
  |step _ hw ih=>
   refine hE.trans ih ?_;obtain⟨y,hy,h1⟩:=dB.1 hw;rw[aAd,aAi]at hy;rcases hy with hy|rfl
   .exact .inl (.step .refl (dB.2 ⟨y,hy,h1⟩))
   .rcases h1 with⟨rfl,rfl⟩|⟨rfl,rfl⟩
    .exact .inr (.inl ⟨.refl,.refl⟩)
    .exact .inr (.inr ⟨.refl,.refl⟩)
 .refine Mg.le (kH _) (.step .refl (dB.2 ⟨x,sS,.inl ⟨rfl,rfl⟩⟩)) fun v w h=>h.mono fun y hy=>by grind
theorem Sj{R:Int->Int->Prop}(hR:∀ x y,R x y->x=y){l:List Int}(hn:l.Nodup):ncl R l=l.length:=by
 induction l with
 |nil=>rfl
 |cons x l ih=>
  grind [aM]
theorem Ny{v w:Int}(h:Reach [] v w):v=w:=by
 induction h with
 |refl=>rfl
 |step _ hw _=>grind [dB]
theorem filter_eq{α β:Type}(p:α->Bool)(q:β->Bool):∀(l:List α) (l':List β),l.length=l'.length->(∀ k (h1:k<l.length) (h2:k<l'.length),p l[k]=!q l'[k])->(l.filter p).length+l'.countP q=l.length
 |[],[],_,_=>rfl
 |[],_::_,h,_=>by grind
 |_::_,[],h,_=>by grind
 |a::l,b::l',h,hk=>by
  have ih:=filter_eq p q l l' (by grind) fun k h1 h2=>hk (k+1) (by grind) (by grind);have h0:=hk 0 sS sS
  grind
section
variable {m:Mp} (h:bM m)
include h
theorem bM.mW:(aQ m.g.es).Perm m.rots.flatten:=by
 refine(aBd (iL (nN h.g.ids)) ?_).2 fun d=>?_
 .unfold List.Nodup;rw[aDZ];refine⟨fun t ht=>h.nodup ht,?_⟩;rw[aAB];intro a b ha hb x7 x hx y hy;rintro rfl;have h1:=h.ok a (by rw[<- h.len];omega);have h2:=h.ok b (by rw[<- h.len];omega);rw[jC _ _ ha]at h1;rw[jC _ _ hb]at h2;have h3:=dY h.g.ids (h1.1.mem_iff.1 hx) (h2.1.mem_iff.1 hy);have ha':a<m.g.vs.length:=by rw[<- h.len];exact ha
  have hb':b<m.g.vs.length:=by rw[<- h.len];exact hb
  rw[bB _ _ ha',bB _ _ hb']at h3;have:=aAB.1 h.g.rise a b ha' hb' x7;omega
 .rw[aAX];exact⟨fun hd=>h.turn_of hd,fun⟨t,ht,hd⟩=>h.turn_dart ht hd⟩
theorem bM.ncl_sg:ncl (Orb (sg m)) (aQ m.g.es)+alone m.g=m.g.vs.length:=by
 have hfc:fc m []=sg m:=by funext d;simp[fc,al]
 have hP:Per (sg m):=by rw[<- hfc];exact h.fc_per [] (fun x hx=>by grind)
 have z8:∀ t∈m.rots,∀ n x,x∈t->it (sg m) n x∈t:=by
  intro t ht n;induction n with
  |zero=>intro x hx;exact hx
  |succ n ih=>intro x hx;exact ih _ (h.sg_mem ht hx)
 have hit:∀ t∈m.rots,∀ n x,x∈t->it (sg m) n x=it (nx t) n x:=by
  intro t ht n;induction n with
  |zero=>intro x hx;rfl
  |succ n ih=>grind [bW,Dg]
 rw[oU hP.eqv h.mW,Bd]
 .have:=filter_eq (fun t=>decide (t≠[])) (fun v=>decide (nbr m.g.es v=[])) m.rots m.g.vs h.len fun k h1 h2=>?_
  .rw[<- h.len];exact this
  .have hk:=h.ok k h2;rw[jC _ _ h1,bB _ _ h2]at hk;have e1:m.rots[k]=[]↔nbr m.g.es m.g.vs[k]=[]:=by
    rw[<- oR];constructor
    .intro h3;have:=hk.1;simp_all
    .intro h3;have:=hk.1;simp_all
   grind
 .intro t ht x hx y hy;obtain⟨n,hn⟩:=Ii (h.nodup ht) hx hy;exact⟨n,by grind⟩
 .rw[aAB];rintro a b ha hb x7 x hx y hy ⟨n,hn⟩;have h4:=z8 _ (aAz hb) n y hy;rw[hn]at h4;have h1:=h.ok a (by rw[<- h.len];omega);have h2:=h.ok b (by rw[<- h.len];omega);rw[jC _ _ ha]at h1;rw[jC _ _ hb]at h2;have h3:=dY h.g.ids (h1.1.mem_iff.1 hx) (h2.1.mem_iff.1 h4);have ha':a<m.g.vs.length:=by rw[<- h.len];exact ha
  have hb':b<m.g.vs.length:=by rw[<- h.len];exact hb
  rw[bB _ _ ha',bB _ _ hb']at h3;have:=aAB.1 h.g.rise a b ha' hb' x7;omega
theorem bM.euler_at(j:Nat)(hj:j<=m.g.es.length):∃ k:Nat,2*ncl (Reach (m.g.es.take j)) m.g.vs+j=2*k+alone m.g+m.g.vs.length+ncl (Orb (fc m (m.g.es.take j))) (aQ m.g.es):=by
 induction j with
 |zero=>
  have hfc:fc m []=sg m:=by funext d;simp[fc,al]
  refine⟨0,?_⟩;rw[List.take_zero,hfc,Sj (fun x y=>Ny) h.g.toGood.nodup];have:=h.ncl_sg;omega
 |succ j ih=>
  obtain⟨k,hk⟩:=ih oO;have hs:∀ i,∀ x∈m.g.es.take i,x∈m.g.es:=fun i x hx=>aCi hx;have hp:=h.fc_per (m.g.es.take j) (hs j);have O1:=h.fc_per (m.g.es.take (j+1)) (hs (j+1));have C9:m.g.es.take (j+1)=m.g.es.take j++[m.g.es[j]]:=aAp oO;have O4:m.g.es[j]∈m.g.es:=aAz _;have hxno:∀ y∈m.g.es.take j,y.id≠m.g.es[j].id:=by intro y hy;obtain⟨i,hi,rfl⟩:=aAA hy;rw[aAv]at hi;rw[aBG];have:=aAB.1 h.g.ids i j oO oO oO;omega
  generalize m.g.es[j]=x at *;have O3:∀ d,fc m (m.g.es.take (j+1)) d=fc m (m.g.es.take j) (sw (2*x.id) (2*x.id+1) d):=by
   intro d;unfold fc
   congr 1
   by_cases h1:d=2*x.id
   .grind [Jv,Da,iR,vE,tw]
   .grind [Om,Da,vE,tw,Br,aQ,List.mem_singleton]
  have ha:2*x.id∈aQ m.g.es:=dG.2 ⟨x,O4,.inl rfl⟩;have hb:2*x.id+1∈aQ m.g.es:=dG.2 ⟨x,O4,.inr rfl⟩;have hR:∀ v w,Reach (m.g.es.take (j+1)) v w↔Eu.Mg (Reach (m.g.es.take j)) x.a x.b v w:=fun v w=>by grind [Jq]
  have hRn:ncl (Reach (m.g.es.take (j+1))) m.g.vs=ncl (Eu.Mg (Reach (m.g.es.take j)) x.a x.b) m.g.vs:=dH fun v _ w _=>hR v w;rw[hRn];by_cases ho:Orb (fc m (m.g.es.take j)) (2*x.id) (2*x.id+1)
  .have h1:=vY hp O1 O3 oO ha hb ho;have hr:Reach (m.g.es.take j) x.a x.b:=by
    obtain⟨n,hn⟩:=ho;obtain⟨w,h2,h3⟩:=h.orb_reach (m.g.es.take j) (hs j) n (cK.2 ⟨x,O4,.inl ⟨rfl,rfl⟩⟩);rw[hn]at h2
    rwa [dY h.g.ids h2 (cK.2 ⟨x,O4,.inr ⟨rfl,rfl⟩⟩)]at h3
   grind [dH,Mg.same,kH]
  .have h1:=AW hp O1 O3 ha hb ho;by_cases hr:Reach (m.g.es.take j) x.a x.b
   .have h2:ncl (Eu.Mg (Reach (m.g.es.take j)) x.a x.b) m.g.vs=ncl (Reach (m.g.es.take j)) m.g.vs:=dH fun v _ w _=>Mg.same (kH _) hr v w;rw[h2];exact⟨k+1,oO⟩
   .have h2:=wX (kH _) hr (h.g.ends x O4).1 (h.g.ends x O4).2
    grind
theorem bM.euler:∃ k:Nat,2*ncl (Reach m.g.es) m.g.vs+m.g.es.length=2*k+alone m.g+m.g.vs.length+ncl (Orb (fc m m.g.es)) (aQ m.g.es):=by
 have:=h.euler_at m.g.es.length (aAl _)
 grind
end
theorem eG.ncl{g:Gr}{k:Nat}{R:List (List Int)}(h:eG g k R):R.length=Eu.ncl (Reach g.es) (g.vs.take k).reverse:=by
 induction h with
 |zero=>rfl
 |@seen k R _ hk hs ih=>
  rw[aAp hk,aCo,aCr,List.singleton_append,aT,ih];obtain⟨u,hu,hr⟩:=hs
  grind
 |@lead k R c _ hk hs _ ih=>
  rw[aAp hk,aCo,aCr,List.singleton_append,aM,aAm,ih]
  .rfl
  .rintro⟨u,hu,hr⟩;rw[<- bB _ _ hk]at hr;exact hs ⟨u,aBh.1 hu,hr⟩
theorem eG.all{g:Gr}{R:List (List Int)}(h:eG g g.vs.length R):R.length=Eu.ncl (Reach g.es) g.vs:=by
 rw[h.ncl,aAN]
 grind [oU,kH]
def Ll(f:Int->Int)(ds:List Int)(k:Nat)(x:Int):Prop:=∃ y∈ds.take k,Orb f y x
inductive rN(f:Int->Int)(ds:List Int):Nat->List (List Int)->Prop
 |zero:rN f ds 0 []
 |seen {k:Nat} {R:List (List Int)} (h:rN f ds k R) (hk:k<ds.length) (hs:Ll f ds k (ds.getD k 0)):rN f ds (k+1) R
 |lead {k:Nat} {R:List (List Int)} {c:List Int} (h:rN f ds k R) (hk:k<ds.length) (hs:¬Ll f ds k (ds.getD k 0)) (hc:kW f (ds.getD k 0) c):rN f ds (k+1) (R++[c])
theorem rN.len{f:Int->Int}{ds:List Int}{k:Nat}{R:List (List Int)}(h:rN f ds k R):R.length<=k:=by
 induction h with
 |zero=>simp
 |seen _ _ _ ih=>omega
 |lead _ _ _ _ ih=>grind
theorem rN.ncl{f:Int->Int}{ds:List Int}{k:Nat}{R:List (List Int)}(h:rN f ds k R):R.length=Eu.ncl (Orb f) (ds.take k).reverse:=by
 induction h with
 |zero=>rfl
 |@seen k R _ hk hs ih=>
  rw[aAp hk,aCo,aCr,List.singleton_append,aT,ih];obtain⟨u,hu,hr⟩:=hs
  grind
 |@lead k R c _ hk hs _ ih=>
  rw[aAp hk,aCo,aCr,List.singleton_append,aM,aAm,ih]
  .rfl
  .rintro⟨u,hu,hr⟩;rw[<- bB _ _ hk]at hr;exact hs ⟨u,aBh.1 hu,hr⟩
theorem rN.all{f:Int->Int}(hf:Per f){ds:List Int}{R:List (List Int)}(h:rN f ds ds.length R):R.length=Eu.ncl (Orb f) ds:=by rw[h.ncl,aAN];exact oU hf.eqv (aBo _)
theorem Rj{f:Int->Int}(hf:Per f){ds:List Int}(hr:ds.Pairwise (· < ·))(hd:∀ x∈ds,f x∈ds){k:Nat}(hk:k<ds.length){c:List Int}(hc:kW f (ds.getD k 0) c):(¬Ll f ds k (ds.getD k 0))↔mn c=ds.getD k 0:=by
 have c8:∀ n x,x∈ds->it f n x∈ds:=by
  intro n;induction n with
  |zero=>intro x hx;exact hx
  |succ n ih=>intro x hx;exact ih _ (hd x hx)
 have hx:ds.getD k 0∈ds:=by rw[bB _ _ hk];exact aAz _
 constructor
 .intro hs;refine VA (hc.mem.2 (Orb.refl _ _)) fun y hy=>?_;obtain⟨n,hn⟩:=hc.mem.1 hy;rcases Int.lt_or_le y (ds.getD k 0)with h1|h1
  .have P8:y∈ds:=by rw[<- hn];exact c8 n _ hx
   exact absurd ⟨y,(zA hr hk).2 ⟨P8,h1⟩,Orb.symm hf ⟨n,hn⟩⟩ hs
  omega
 .rintro hm ⟨y,hy,hr2⟩;have h1:=((zA hr hk).1 hy).2;have:=Kz (hc.mem.2 (Orb.symm hf hr2));omega
theorem GN{c:List Int}{d:Int}{r:List Int}(h:c=d::r)(hm:mn c=d):nrm c=c:=by
 grind [nrm,rt]
theorem kW.head{f:Int->Int}{d:Int}{c:List Int}(h:kW f d c):∃ r,c=d::r:=by obtain⟨p,hp,rfl,_,_⟩:=h;obtain⟨q,rfl⟩:∃ q,p=q+1:=⟨p-1,oO⟩;rw[List.range_succ_eq_map];exact⟨_,rfl⟩
theorem Pt(c:List Int)(h:c≠[]):∃ r,nrm c=mn c::r:=by
 have hm:=sF h;have dQ:=aAR hm;have hl:0<(nrm c).length:=by rw[cJ];omega
 have h0:=KF c 0 oO;simp only[Nat.add_zero,aAM dQ,aBA]at h0;cases hn:nrm c with
 |nil=>grind
 |cons a r=>grind
theorem Ab{R S:Int->Int->Prop}:∀ {l:List Int},(∀ x∈l,∀ y∈l,R x y->S x y)->ncl S l<=ncl R l
 |[],_=>aAl _
 |x::l,h=>by
  have ih:=Ab (R:=R) (S:=S) (l:=l) fun a ha b hb=>h a (aAc _ ha) b (aAc _ hb);by_cases hx:∃ y∈l,S y x
  .rw[aT hx];refine aBg ih ?_;simp only[ncl];exact Nat.le_add_right _ _
  .rw[aM hx,aM fun⟨y,hy,hr⟩=>hx ⟨y,hy,h y (aAc _ hy) x aAf hr⟩];omega
theorem QI{R S:Int->Int->Prop}(hR:Eqv R)(hS:Eqv S){l:List Int}(h:∀ x y,R x y->S x y)(hn:ncl R l<=ncl S l){x y:Int}(hx:x∈l)(hy:y∈l)(hs:S x y):R x y:=by refine aAI fun x9=>?_;have h1:=wX hR x9 hx hy;have h2:=Ab (R:=Eu.Mg R x y) (S:=S) (l:=l) fun a _ b _ k=>Mg.le hS hs h k;omega
theorem tD{α:Type}[DecidableEq α]{R:Int->Int->Prop}(lab:Int->α):∀ {D:List Int},(∀ x∈D,∀ y∈D,R x y->lab x=lab y)->∀ X:List α,X.Nodup->(∀ a∈X,∃ d∈D,lab d=a)->X.length<=ncl R D
 |[],_,X,_,h=>by
  cases X with
  |nil=>exact aBE _
  |cons a X=>obtain⟨d,hd,_⟩:=h a aAf;cases hd
 |d::D,hR,X,hn,h=>by
  have hR':∀ x∈D,∀ y∈D,R x y->lab x=lab y:=fun x hx y hy=>hR x (aAc _ hx) y (aAc _ hy);by_cases hx:∃ y∈D,R y d
  .rw[aT hx];obtain⟨y,hy,hr⟩:=hx;refine tD lab hR' X hn fun a ha=>?_;obtain⟨e,he,rfl⟩:=h a ha;rcases aAe.1 he with rfl|he
   .exact⟨y,hy,hR y (aAc _ hy) _ aAf hr⟩
   .exact⟨e,he,rfl⟩
  .rw[aM hx];have:=tD lab hR' (X.erase (lab d)) (hn.erase _) fun a ha=>by
    obtain⟨h1,h2⟩:=(List.Nodup.mem_erase_iff hn).1 ha;obtain⟨e,he,rfl⟩:=h a h2;rcases aAe.1 he with rfl|he
    .exact absurd rfl h1
    .exact⟨e,he,rfl⟩
   have h2:=List.length_erase_le (a:=lab d) (l:=X);have h3:X.length<=(X.erase (lab d)).length+1:=by rw[List.length_erase];split<;>omega
   omega
structure dW(D:List Int)(f:Int->Int):Prop where
 mem:∀ x∈D,f x∈D
 inj:∀ x y,f x=f y->x=y
 out:∀ x,x∉D->f x=x
theorem dW.per{D:List Int}{f:Int->Int}(h:dW D f):Per f:=Qz D h.mem h.inj h.out
theorem dW.sw{D:List Int}{f:Int->Int}(h:dW D f){a b:Int}(ha:a∈D)(hb:b∈D):dW D fun x=>f (Eu.sw a b x):=by
 refine⟨fun x hx=>h.mem _ ?_,fun x y e=>WD a b (h.inj _ _ e),fun x hx=>?_⟩
 .unfold Eu.sw
  split
  .exact hb
  .split
   .exact ha
   .exact hx
 .rw[Br (fun e=>hx (by rw[e];exact ha)) (fun e=>hx (by rw[e];exact hb))];exact h.out x hx
def swP(s:Int->Int):List (Int×Int)->Int->Int
 |[],x=>s x
 |p::P,x=>swP s P (Eu.sw p.1 p.2 x)
def mgP(R:Int->Int->Prop):List (Int×Int)->Int->Int->Prop
 |[]=>R
 |p::P=>Eu.Mg (mgP R P) p.1 p.2
theorem kL{D:List Int}{s:Int->Int}(hs:dW D s):∀ P:List (Int×Int),(∀ p∈P,p.1∈D/\p.2∈D)->dW D (swP s P)
 |[],_=>hs
 |p::P,h=>(kL hs P fun q hq=>h q (aAc _ hq)).sw (h p aAf).1 (h p aAf).2
theorem dM{R:Int->Int->Prop}(hR:Eqv R):∀ P:List (Int×Int),Eqv (mgP R P)
 |[]=>hR
 |p::P=>Mg.eqv (dM hR P) _ _
theorem fT{R:Int->Int->Prop}:∀(P:List (Int×Int)) {x y:Int},R x y->mgP R P x y
 |[],_,_,h=>h
 |_::P,_,_,h=>.inl (fT P h)
theorem jO{R:Int->Int->Prop}(hR:Eqv R):∀(P:List (Int×Int)) {p:Int×Int},p∈P->mgP R P p.1 p.2
 |q::P,p,h=>by
  rcases aAe.1 h with rfl|h
  .exact .inr (.inl ⟨(dM hR P).refl _,(dM hR P).refl _⟩)
  .exact .inl (jO hR P h)
theorem vU{D:List Int}{s:Int->Int}(hs:dW D s):∀ P:List (Int×Int),(∀ p∈P,p.1∈D/\p.2∈D/\p.1≠p.2)->
 (∀ x y,Orb (swP s P) x y->mgP (Orb s) P x y)/\∃ c,2*ncl (mgP (Orb s) P) D+P.length=2*c+ncl (Orb s) D+ncl (Orb (swP s P)) D
 |[],_=>⟨fun _ _ h=>h,0,by have e:ncl (Orb (swP s [])) D=ncl (Orb s) D:=rfl;have e2:ncl (mgP (Orb s) []) D=ncl (Orb s) D:=rfl;rw[e,e2,List.length_nil];omega⟩
 |p::P,h=>by
  obtain⟨h1,c,h2⟩:=vU hs P fun q hq=>h q (aAc _ hq);obtain⟨ha,hb,x7⟩:=h p aAf;have hq:=kL hs P fun q hq=>⟨(h q (aAc _ hq)).1,(h q (aAc _ hq)).2.1⟩;have hq':dW D (swP s (p::P)):=hq.sw ha hb;have O3:∀ x,swP s (p::P) x=swP s P (Eu.sw p.1 p.2 x):=fun _=>rfl;have hE:=dM hs.per.eqv P;have hE':Eqv (mgP (Orb s) (p::P)):=dM hs.per.eqv (p::P);refine⟨fun x y D4=>?_,?_⟩
  .exact Mg.le hE' (jO hs.per.eqv (p::P) aAf) (fun x y k=>.inl (h1 x y k)) (RK hq.per O3 D4)
  .rw[List.length_cons];by_cases ho:Orb (swP s P) p.1 p.2
   .have e1:=vY hq.per hq'.per O3 x7 ha hb ho;have e2:ncl (mgP (Orb s) (p::P)) D=ncl (mgP (Orb s) P) D:=dH fun x _ y _=>Mg.same hE (h1 _ _ ho) x y;exact⟨c,oO⟩
   .have e1:=AW hq.per hq'.per O3 ha hb ho;by_cases hr:mgP (Orb s) P p.1 p.2
    .have e2:ncl (mgP (Orb s) (p::P)) D=ncl (mgP (Orb s) P) D:=dH fun x _ y _=>Mg.same hE hr x y;exact⟨c+1,oO⟩
    .have e2:ncl (mgP (Orb s) P) D=ncl (mgP (Orb s) (p::P)) D+1:=wX hE hr ha hb;exact⟨c,oO⟩
theorem Uh{R:Int->Int->Prop}{D:List Int}(h:∀ x∈D,∀ y∈D,R x y)(h0:D≠[]):ncl R D=1:=by have:=Df (R:=R) (t:=D) (l:=[]) h (fun _ _ _ hy=>by cases hy);rw[aBc,aAa h0]at this;exact this
def sgR(Rs:List (List Int))(d:Int):Int:=match Rs.find? (fun t=>decide (d∈t)) with
 |some t=>nx t d
 |none=>d
theorem uK{Rs:List (List Int)}{d:Int}(h:d∉Rs.flatten):sgR Rs d=d:=by unfold sgR;rw[aDe.2 fun t ht=>by simpa using fun hd=>h (aAX.2 ⟨t,ht,hd⟩)]
theorem HZ{Rs:List (List Int)}(hn:Rs.flatten.Nodup){t t':List Int}(ht:t∈Rs)(U8:t'∈Rs){d:Int}(hd:d∈t)(I1:d∈t'):t=t':=by
 induction Rs with
 |nil=>cases ht
 |cons r Rs ih=>
  rw[List.flatten_cons,aAo]at hn;rcases aAe.1 ht with e|ht
  .rcases aAe.1 U8 with e'|U8
   .rw[e,e']
   .exact absurd rfl (hn.2.2 d (by rw[<- e];exact hd) d (aAX.2 ⟨t',U8,I1⟩))
  .rcases aAe.1 U8 with e'|U8
   .exact absurd rfl (hn.2.2 d (by rw[<- e'];exact I1) d (aAX.2 ⟨t,ht,hd⟩))
   .exact ih hn.2.1 ht U8
theorem Cg{Rs:List (List Int)}(hn:Rs.flatten.Nodup){t:List Int}(ht:t∈Rs):t.Nodup:=(aBn ht).nodup hn
theorem Bi{Rs:List (List Int)}(hn:Rs.flatten.Nodup){t:List Int}(ht:t∈Rs){d:Int}(hd:d∈t):sgR Rs d=nx t d:=by
 unfold sgR;cases hf:Rs.find? (fun t=>decide (d∈t)) with
 |none=>exact absurd hd (by simpa using aDe.1 hf t ht)
 |some t'=>rw[HZ hn (aCh hf) ht (by simpa using aCY hf) hd]
theorem Bo{Rs:List (List Int)}(hn:Rs.flatten.Nodup):dW Rs.flatten (sgR Rs):=by
 have c8:∀ x t,t∈Rs->x∈t->sgR Rs x∈t:=fun x t ht hx=>by rw[Bi hn ht hx];exact IV hx
 refine⟨fun x hx=>?_,fun x y e=>?_,fun x hx=>uK hx⟩
 .obtain⟨t,ht,hx⟩:=aAX.1 hx;exact aAX.2 ⟨t,ht,c8 x t ht hx⟩
 .by_cases hx:x∈Rs.flatten
  .obtain⟨t,ht,hx⟩:=aAX.1 hx;by_cases hy:y∈Rs.flatten
   .obtain⟨t',U8,hy⟩:=aAX.1 hy;have h1:=c8 x t ht hx;rw[e]at h1;have:=HZ hn ht U8 h1 (c8 y t' U8 hy);subst this;rw[Bi hn ht hx,Bi hn ht hy]at e;exact PB (Cg hn ht) hx hy e
   .rw[uK hy]at e;exact absurd (aAX.2 ⟨t,ht,by rw[<- e];exact c8 x t ht hx⟩) hy
  .by_cases hy:y∈Rs.flatten
   .obtain⟨t',U8,hy'⟩:=aAX.1 hy;rw[uK hx]at e;exact absurd (aAX.2 ⟨t',U8,by rw[e];exact c8 y t' U8 hy'⟩) hx
   .rw[uK hx,uK hy]at e;exact e
theorem Iz{Rs:List (List Int)}(hn:Rs.flatten.Nodup){t:List Int}(ht:t∈Rs){x:Int}(hx:x∈t):∀ n,it (sgR Rs) n x=it (nx t) n x/\it (sgR Rs) n x∈t
 |0=>⟨rfl,hx⟩
 |n+1=>by obtain⟨h1,h2⟩:=Iz hn ht hx n;rw[bW,bW,<- h1,Bi hn ht h2];exact⟨rfl,IV h2⟩
theorem ER{Rs:List (List Int)}(hn:Rs.flatten.Nodup){t:List Int}(ht:t∈Rs){x y:Int}(hx:x∈t):Orb (sgR Rs) x y↔y∈t:=by
 constructor
 .rintro⟨n,rfl⟩;exact(Iz hn ht hx n).2
 .intro hy;obtain⟨n,F4⟩:=Ii (Cg hn ht) hx hy;exact⟨n,by rw[(Iz hn ht hx n).1,F4]⟩
theorem UG{Rs:List (List Int)}(hn:Rs.flatten.Nodup):ncl (Orb (sgR Rs)) Rs.flatten=(Rs.filter fun t=>decide (t≠[])).length:=by
 refine Bd Rs (fun t ht x hx y hy=>(ER hn ht hx).2 hy) ?_;have key:∀ Rs':List (List Int),Rs'.flatten.Nodup->Rs'.Pairwise fun t t'=>∀ x∈t,x∉t':=by
  intro Rs';induction Rs' with
  |nil=>exact fun _=>.nil
  |cons r Rs' ih=>intro F4;rw[List.flatten_cons,aAo]at F4;refine aBl.2 ⟨fun t ht x hx L9=>F4.2.2 x hx x (aAX.2 ⟨t,ht,L9⟩) rfl,ih F4.2.1⟩
 refine(key Rs hn).imp_of_mem fun {t t'} ht U8 h x hx y hy ho=>?_;exact h x hx ((ER hn U8 hy).1 ho)
theorem get_inj{l:List Int}(h:l.Nodup){i j:Nat}(hi:i<l.length)(hj:j<l.length)(e:l[i]=l[j]):i=j:=by
 have:=congrArg l.idxOf e
 rwa [h.idxOf_getElem,h.idxOf_getElem]at this
end Aw
namespace Aw
open Go Go.RowKit Pl
def BQ:List Bool->Nat
 |[]=>0
 |b::l=>(if b then 1 else 0)+2*BQ l
theorem Fi:∀(l:List Bool) (i:Nat),(BQ l).testBit i=l.getD i false
 |[],i=>by simp[BQ]
 |b::l,0=>by
  grind [BQ]
 |b::l,i+1=>by
  rw[BQ,aDM];have:((if b then 1 else 0)+2*BQ l) / 2=BQ l:=by cases b<;>simp<;>omega
  rw[this,Fi l i];simp
theorem KY:∀ l:List Bool,BQ l<2 ^ l.length
 |[]=>by simp[BQ]
 |b::l=>by
  have:=KY l
  grind [BQ]
def mk(vs S:List Int):Nat:=BQ (vs.map fun v=>decide (v∈S))
theorem iK(vs S:List Int)(i:Nat):(mk vs S).testBit i=(decide (i<vs.length)&&decide (vs.getD i 0∈S)):=by
 grind [mk,Fi]
theorem mR(vs S:List Int)(h:vs.length<=64):mk vs S<18446744073709551616:=by
 have h1:=KY (vs.map fun v=>decide (v∈S));rw[aAD]at h1
 exact aAs h1 (by
  have:=aEl (show 0<2 by decide) h
  omega)
theorem mk_congr{vs A B:List Int}(h:∀ v∈vs,(v∈A↔v∈B)):mk vs A=mk vs B:=by
 grind [mk,List.map_congr_left]
theorem VV{vs A B:List Int}(h:mk vs A=mk vs B):∀ v∈vs,(v∈A↔v∈B):=fun v hv=>by
 obtain⟨i,hi,rfl⟩:=aAA hv;have h1:=iK vs A i
 grind [iK]
theorem mk_zero(vs A:List Int):mk vs A=0↔∀ v∈vs,v∉A:=by
 have e:mk vs []=0:=by apply aBM;intro i;rw[iK];simp
 constructor
 .intro h v hv hA;have:=(VV (h.trans e.symm) v hv).1 hA
  grind
 grind [mk_congr]
theorem Um(a b:Nat)(ha:a<18446744073709551616)(hb:b<18446744073709551616):gor .u64 (a:Int) (b:Int)=((a ||| b:Nat):Int):=by
 have hx:a ||| b<2 ^ 64:=Nat.or_lt_two_pow oO oO
 unfold gor;simp only[show IntKind.u64.bits=64 from rfl,BitVec.ofInt_natCast,BitVec.toNat_or,aDc,aAM ha,aAM hb]
 grind [IntKind.wrap_u64]
theorem CH(a b:Nat)(ha:a<18446744073709551616)(hb:b<18446744073709551616):vL .u64 (a:Int) (b:Int)=((a &&& b:Nat):Int):=by
 have hx:a &&& b<2 ^ 64:=Nat.and_lt_two_pow _ oO;unfold vL;simp only[show IntKind.u64.bits=64 from rfl,BitVec.ofInt_natCast,BitVec.toNat_and,aDc,aAM ha,aAM hb]
 grind [IntKind.wrap_u64]
theorem GY(a b:Nat)(ha:a<18446744073709551616)(hb:b<18446744073709551616):gO .u64 (a:Int) (b:Int)=((a &&& (2 ^ 64-(b+1)):Nat):Int):=by
 have hx:a &&& (2 ^ 64-(b+1))<2 ^ 64:=Nat.and_lt_two_pow _ oO;unfold gO;simp only[show IntKind.u64.bits=64 from rfl,BitVec.ofInt_natCast,BitVec.toNat_and,BitVec.toNat_not,aDc,aAM ha,aAM hb]
 grind [IntKind.wrap_u64]
theorem Bt(vs A B:List Int)(h:vs.length<=64):gor .u64 (mk vs A) (mk vs B)=mk vs (A++B):=by
 rw[Um _ _ (mR vs A h) (mR vs B h)]
 congr 1
 apply aBM
 grind [iK]
theorem RD(vs A B:List Int)(h:vs.length<=64):vL .u64 (mk vs A) (mk vs B)=mk vs (A.filter fun v=>decide (v∈B)):=by
 rw[CH _ _ (mR vs A h) (mR vs B h)]
 congr 1
 apply aBM
 grind [iK]
theorem qA(vs A B:List Int)(h:vs.length<=64):gO .u64 (mk vs A) (mk vs B)=mk vs (A.filter fun v=>!decide (v∈B)):=by
 rw[GY _ _ (mR vs A h) (mR vs B h)]
 congr 1
 apply aBM;intro i;rw[Nat.testBit_and,Nat.testBit_two_pow_sub_succ (mR vs B h),iK,iK,iK]
 grind
def fst'(vs S:List Int):Nat:=vs.findIdx fun v=>decide (v∈S)
theorem Mt{x k:Nat}(h1:x.testBit k=true)(h2:∀ j,j<k->x.testBit j=false):∃ m,x=2 ^ k*(2*m+1):=by
 induction k generalizing x with
 |zero=>rw[Nat.testBit_zero]at h1;simp only[aBr]at h1;exact⟨x / 2,oO⟩
 |succ k ih=>
  have h0:=h2 0 oO;rw[Nat.testBit_zero]at h0;simp only[aCb]at h0;rw[aDM]at h1;obtain⟨m,hm⟩:=ih h1 fun j hj=>by grind
  refine⟨m,?_⟩
  grind [Nat.mul_assoc]
theorem Ar{vs S:List Int}(h:fst' vs S<vs.length):∃ m,mk vs S=2 ^ fst' vs S*(2*m+1):=by
 have hp:decide (vs[fst' vs S]∈S)=true:=aEm (w:=h);refine Mt ?_ fun j hj=>?_
 .grind [iK]
 .rw[iK];have hjl:j<vs.length:=oO;have:=aDW hj
  grind
theorem Fz{a b m n:Nat}(h:2 ^ a*(2*m+1)=2 ^ b*(2*n+1)):a=b:=by
 induction a generalizing b with
 |zero=>
  cases b with
  |zero=>rfl
  |succ b=>
   grind
 |succ a ih=>
  cases b with
  |zero=>
   grind
  |succ b=>
   grind
theorem EV{vs S:List Int}(h64:vs.length<=64)(h:fst' vs S<vs.length):Lib.ctz 64 (mk vs S)=fst' vs S:=by
 obtain⟨m,hm⟩:=Ar h;have dQ:=mR vs S h64;have h0:mk vs S≠0:=by rw[hm];exact aDT (by grind) oO
 have e:Lib.ctz 64 (mk vs S)=Lib.ctzFrom 64 (mk vs S):=by simp[Lib.ctz,h0]
 obtain⟨n,hn,_⟩:=Lib.ctzFrom_spec 64 (mk vs S) oO dQ
 grind [Fz]
theorem Ff{vs S:List Int}(h:fst' vs S<vs.length):mk vs S≠0:=by
 grind [Ar]
theorem WK{vs S:List Int}:fst' vs S<vs.length↔∃ v∈vs,v∈S:=by
 grind [fst']
theorem Td{vs S:List Int}(h:fst' vs S<vs.length):vs.getD (fst' vs S) 0∈S/\vs.getD (fst' vs S) 0∈vs:=by
 grind [fst']
theorem Dr{vs:List Int}(hn:vs.Nodup){i j:Nat}(hi:i<vs.length)(hj:j<vs.length):vs[i]=vs[j]↔i=j:=by
 grind [List.pairwise_iff_getElem]
theorem mk_one{vs:List Int}(hn:vs.Nodup){k:Nat}(hk:k<vs.length):mk vs [vs.getD k 0]=2 ^ k:=by
 apply aBM
 grind [iK,Dr]
theorem Vm{vs S:List Int}(h64:vs.length<=64)(hn:vs.Nodup)(h:fst' vs S<vs.length):vL .u64 (mk vs S) (IntKind.u64.wrap (0-(mk vs S:Int)))=mk vs [vs.getD (fst' vs S) 0]:=by
 have dQ:=mR vs S h64;have h0:=Ff h;have e1:IntKind.u64.wrap (0-(mk vs S:Int))=((18446744073709551616-mk vs S:Nat):Int):=by rw[IntKind.wrap_u64];omega
 rw[e1,CH _ _ dQ oO,mk_one hn h];have:=(Lib.lowest_bit 64 (mk vs S) h0 dQ).1
 grind [EV]
theorem Gg(k m:Nat):(2 ^ k*(2*m+1)) &&& (2 ^ k*(2*m+1)-1)=2 ^ k*(2*m):=by
 have hp:=Nat.two_pow_pos k;have e:2 ^ k*(2*m+1)-1=2 ^ k*(2*m)+(2 ^ k-1):=by rw[Nat.mul_add,aDl];omega
 rw[e];apply aBM;intro i;rw[Nat.testBit_and,Nat.testBit_two_pow_mul_add _ (show 2 ^ k-1<2 ^ k by omega)];rw[aBT (2 ^ k),aBT (2 ^ k),aCE,aCE];by_cases hik:i<k
 .grind
 .have h1:k<=i:=oO;simp only[hik,h1,decide_true,Bool.true_and,aBN];cases hj:i-k with
  |zero=>grind
  |succ j=>
   grind
theorem KG{vs S:List Int}(h64:vs.length<=64)(hn:vs.Nodup)(h:fst' vs S<vs.length):vL .u64 (mk vs S) (IntKind.u64.wrap ((mk vs S:Int)-1))=mk vs (S.filter fun w=>decide (w≠vs.getD (fst' vs S) 0)):=by
 have dQ:=mR vs S h64;have h0:=Ff h;have e1:IntKind.u64.wrap ((mk vs S:Int)-1)=((mk vs S-1:Nat):Int):=by rw[IntKind.wrap_u64];omega
 rw[e1,CH _ _ dQ oO]
 congr 1
 obtain⟨m,hm⟩:=Ar h;have h2:mk vs S &&& (mk vs S-1)=mk vs S-2 ^ fst' vs S:=by rw[hm,Gg,Nat.mul_add (2 ^ _) (2*m) 1,aDl];omega
 apply aBM;intro i;have hb:mk vs S &&& (mk vs S-1)=2 ^ fst' vs S*(2*m):=by rw[hm,Gg]
 have hS:(mk vs S).testBit i=(2 ^ fst' vs S*(2*m+1)).testBit i:=by rw[<- hm]
 rw[hb,iK];rw[iK,aBT (2 ^ _),aCE]at hS;rw[aBT (2 ^ _),aCE];by_cases e:i=fst' vs S
 .grind
 .have hv:i<vs.length->vs.getD i 0≠vs.getD (fst' vs S) 0:=fun hi=>by
   grind [Dr]
  have h3:(2*m).testBit (i-fst' vs S)=(2*m+1).testBit (i-fst' vs S)\/i<fst' vs S:=by
   by_cases hi:i<fst' vs S
   .omega
   .left;obtain⟨j,hj⟩:∃ j,i-fst' vs S=j+1:=⟨i-fst' vs S-1,oO⟩
    grind
  grind
theorem KL{vs:List Int}(hn:vs.Nodup)(h64:vs.length<=64){k:Nat}(hk:k<vs.length):Er .u64 1 (k:Int)=mk vs [vs.getD k 0]:=by
 rw[mk_one hn hk];unfold Er;have:min (k:Int).toNat IntKind.u64.bits=k:=by have:IntKind.u64.bits=64:=rfl;omega
 rw[this,Int.one_mul,IntKind.wrap_u64];have h2:2 ^ k<18446744073709551616:=aAs (Nat.pow_lt_pow_right (show 1<2 by decide) (show k<64 by omega)) (aAl _)
 grind
end Aw
end Go.Proofs.YtbgngpdonpeboaaGreatDoor
