/- Graphs: Check, by the program and by the document; the law GraphChecks. -/
import Derived.Test.YtbgngpdonpeboaaGreatDoorJb
set_option linter.unusedVariables false
set_option linter.unusedSimpArgs false
set_option maxHeartbeats 1000000
open Go.Proofs.Tryz
namespace Go.Proofs.YtbgngpdonpeboaaGreatDoor
namespace Aw
open Go Go.RowKit Pl
theorem Check(g:Gr)(st:St)(hv:g.vs.length<=1000)(he:g.es.length<=1000):
 aB prog 48 [.ag (grL g)] st fun r st'=>r=i (chk g)/\aA st st':=by
 have S5:small g.vs:=by unfold small;omega
 refine zN func48 ntmps48 [.tmp 2] ?_;by_cases h1:(64:Int)<(g.vs.length:Int)
 .have:chk g=6:=by unfold chk;rw[aAj oO]
  refine xw2 h1 this ?_;exact aA.new _ _
 by_cases h2:(160:Int)<(g.es.length:Int)
 .have:chk g=6:=by unfold chk;rw[aAj oO]
  refine xw3 h1 h2 this ?_;exact aA.new _ _
 have W8:chk g=if cB (lQ g) g.vs.length≠0 then cB (lQ g) g.vs.length else cB (mD g) g.es.length:=by unfold chk;rw[aAa oO]
 refine xw2 h1 h2 ?_;refine qL (fun n fr st'=>∃ k:Nat,k<=g.vs.length/\n=g.vs.length-k/\fr 1=.pt st.next 0/\fr 21=.sl 0 g.vs.length (us g.vs)/\fr 22=i g.vs.length/\fr 23=i k/\fr 3=u (if k=0 then 0 else g.vs.getD (k-1) 0)/\st'=st.new (.box 25 2 (grL g))/\∀ j,j<k->lQ g j=0) g.vs.length ?_ ?_
 .exact⟨0,oO,oO,sS,sS,sS,sS,sS,rfl,fun j h=>by omega⟩
 rintro n fr st' ⟨k,hk,rfl,f1,f21,f22,f23,f3,rfl,x9⟩ JJ hJJ;by_cases dA:k<g.vs.length
 .have hd:=qG g.vs k dA;have hw:=qN k oO;have M8:lQ g k=fB (g.vs.getD k 0) (if k=0 then 0 else g.vs.getD (k-1) 0) (decide (k=0)):=by
   unfold lQ;by_cases h0:k=0
   .subst h0;simp[fB]
   .simp[h0]
  generalize hy:(if k=0 then(0:Int)else g.vs.getD (k-1) 0)=y at *;generalize hx:g.vs.getD k 0=x at *;have S7:((k:Int)==0)=decide (k=0):=by by_cases h0:k=0<;>simp[h0]
  (refine xj9 f1 f21 f22 f23 f3 dA hd hw S7 ?_;intro J hJ)
  refine qE (number x y (decide (k=0)) _) (by simp[]) ?_;rintro r st' ⟨rfl,rfl⟩;rw[<- M8];by_cases hb:lQ g k=0
  .refine wJ hJ f23 hw hb ?_;refine hJJ _ _ _ ?_ ⟨k+1,oO,rfl,sF1 f1,sF1 f21,sF1 f22,sS,by rw[aAa oO,aBP,hx];simp,rfl,fun j hj=>?_⟩
   .omega
   .rcases aAM j k with h|h
    .exact x9 j h
    .obtain rfl:j=k:=oO;exact hb
  .have hf:=gG dA x9 rfl hb;have hr:chk g=lQ g k:=by rw[W8,hf,aAj hb]
   refine nL hJ hb ?_;exact⟨hr.symm,aA.new _ _⟩
 have P0:k=g.vs.length:=oO;have hz:cB (lQ g) g.vs.length=0:=iL (fun j hj=>x9 j oO);rw[hz]at W8;simp only[ne_eq,not_true_eq_false,aBS]at W8;clear hJJ x9 hz;have hel:=aK g.es;generalize hy:(if k=0 then(0:Int)else g.vs.getD (k-1) 0)=y at *;refine xw6 f1 f21 f22 f23 f3 dA ?_;refine qL (fun n fr st'=>∃ k:Nat,k<=g.es.length/\n=g.es.length-k/\fr 1=.pt st.next 0/\fr 39=.sl 0 g.es.length (eds g.es)/\fr 40=i g.es.length/\fr 41=i k/\(∃ z,fr 3=u z/\(k≠0->z=(g.es.getD (k-1) ed0).id))/\aA (st.new (.box 25 2 (grL g))) st'/\∀ j,j<k->mD g j=0) g.es.length ?_ ?_
 .exact⟨0,oO,oO,sF1 f1,sS,sS,sS,⟨y,sF1 f3,sS⟩,aA.refl _,fun j h=>by omega⟩
 clear f1 f21 f22 f23 f3 dA P0 hk hy y fr k;rintro n fr st1 ⟨k,hk,rfl,f1,f39,f40,f41,⟨z,f3,hz⟩,j8,x9⟩ JJ hJJ;have hgH:st1.H st.next=.box 25 2 (grL g):=by rw[j8.H _ sS];simp
 have M6:¬st.next=st1.next:=by have:=j8.next;simp only[aG]at this;omega
 have hkp0:=(aA.new st (.box 25 2 (grL g))).trans j8;by_cases dA:k<g.es.length
 .have hd:=aR g.es k dA;have hw:=qN k oO;have o8:k*3<g.es.length*3:=oO;have hk30:k*3+3<=g.es.length*3:=oO;have M8:mD g k=(let x:=g.es.getD k ed0;let n:=fB x.id z (decide (k=0));if n≠0 then n else if x.a=x.b then 20 else if x.a∉g.vs\/x.b∉g.vs then 21 else 0):=by
   unfold mD;by_cases h0:k=0
   .subst h0;simp[fB]
   .rw[hz h0]
  generalize hx:g.es.getD k ed0=x at *;obtain⟨xi,xa,xb⟩:=x;simp only at hd M8;have S7:((k:Int)==0)=decide (k=0):=by by_cases h0:k=0<;>simp[h0]
  (refine I5 f1 f39 f40 f41 f3 dA hd hw S7 hel o8 hgH M6 ?_;intro J hJ)
  refine qE (number xi z (decide (k=0)) _) (by simp[]) ?_;rintro r st' ⟨rfl,rfl⟩;by_cases hb:fB xi z (decide (k=0))=0;rotate_left
  .have hb':mD g k=fB xi z (decide (k=0)):=by rw[M8,aAj hb]
   have hr:chk g=fB xi z (decide (k=0)):=by rw[W8];exact gG dA x9 hb' hb
   refine nL hJ hb ?_;exact⟨hr.symm,hkp0.trans (aA.new _ _)⟩
  rw[aAa (sF1 hb)]at M8;by_cases x8:xa=xb
  .have hb':mD g k=20:=by rw[M8,aAj x8]
   have hr:chk g=20:=by rw[W8];exact gG dA x9 hb' (by decide)
   refine wJ hJ hb x8 hr ?_;exact hkp0.trans (aA.new _ _)
  rw[aAa x8]at M8
  (refine Yj hJ hb x8 f1 M6 hgH ?_;intro J hJ)
  refine qE (VZ g xa _ S5) (by simp[]) ?_;rintro r st' ⟨rfl,j7⟩;have Z9:st'.H st1.next=.box 36 3 [u xi,u xa,u xb]:=by rw[j7.H _ sS];simp
  have hgH1:st'.H st.next=.box 25 2 (grL g):=by rw[j7.H _ (by have:=j8.next;simp only[aG]at this ⊢;omega),bY,aAa M6];exact hgH
  have W2:=(j8.trans (aA.new _ _)).trans j7;have hkp01:=(hkp0.trans (aA.new _ _)).trans j7;by_cases hma:xa∈g.vs;rotate_left
  .rw[GD hma];have hb':mD g k=21:=by rw[M8,aAj (.inl hma)]
   have hr:chk g=21:=by rw[W8];exact gG dA x9 hb' (by decide)
   refine ZP hJ f1 Z9 hgH1 hr ?_;exact hkp01
  rw[xY hma];have X9:¬((g.vs.idxOf xa:Nat):Int)<0:=oO
  (apply cI;simp[f1,Z9,hgH1,X9])
  refine qE (VZ g xb _ S5) (by simp[]) ?_;rintro r st' ⟨rfl,u6⟩;by_cases hmb:xb∈g.vs;rotate_left
  .rw[GD hmb];have hb':mD g k=21:=by rw[M8,aAj (.inr hmb)]
   have hr:chk g=21:=by rw[W8];exact gG dA x9 hb' (by decide)
   refine nL hJ hr ?_;exact hkp01.trans u6
  rw[xY hmb];have N6:¬((g.vs.idxOf xb:Nat):Int)<0:=oO;have hb':mD g k=0:=by rw[M8,aAa (sF2 hma hmb)]
  refine wJ hJ f41 hw N6 ?_;refine hJJ _ _ _ ?_ ⟨k+1,oO,rfl,sF1 f1,sF1 f39,sF1 f40,sS,⟨xi,sS,fun _=>by rw[aBP,hx]⟩,W2.trans u6,fun j hj=>?_⟩
  .omega
  .rcases aAM j k with h|h
   .exact x9 j h
   .obtain rfl:j=k:=oO;exact hb'
 .have hr:chk g=0:=by rw[W8];exact iL (fun j hj=>x9 j oO)
  clear hJJ;refine xw7 f1 f39 f40 f41 f3 dA hr ?_;exact hkp0
theorem NK(g:Gr)(st:St)(hv:g.vs.length<=1000)(he:g.es.length<=1000):
 aB prog 13 [.ag (grL g)] st fun r st'=>r=i (chk g)/\aA st st':=by
 have S5:small g.vs:=by unfold small;omega
 refine zN func13 ntmps13 [.tmp 2] ?_;by_cases h1:(64:Int)<(g.vs.length:Int)
 .have:chk g=6:=by unfold chk;rw[aAj oO]
  refine xw2 h1 this ?_;exact aA.new _ _
 by_cases h2:(160:Int)<(g.es.length:Int)
 .have:chk g=6:=by unfold chk;rw[aAj oO]
  refine xw3 h1 h2 this ?_;exact aA.new _ _
 have W8:chk g=if cB (lQ g) g.vs.length≠0 then cB (lQ g) g.vs.length else cB (mD g) g.es.length:=by unfold chk;rw[aAa oO]
 refine xw2 h1 h2 ?_;refine qL (fun n fr st'=>∃ k:Nat,k<=g.vs.length/\n=g.vs.length-k/\fr 1=.pt st.next 0/\fr 18=.sl 0 g.vs.length (us g.vs)/\fr 19=i g.vs.length/\fr 20=i k/\st'=st.new (.box 25 2 (grL g))/\∀ j,j<k->lQ g j=0) g.vs.length ?_ ?_
 .exact⟨0,oO,oO,sS,sS,sS,sS,rfl,fun j h=>by omega⟩
 rintro n fr st' ⟨k,hk,rfl,f1,f18,f19,f20,rfl,x9⟩ JJ hJJ;by_cases dA:k<g.vs.length
 .have hd:=qG g.vs k dA;have hw:=qN k oO;have M8:lQ g k=fB (g.vs.getD k 0) (g.vs.getD (k-1) 0) (decide (k=0)):=rfl;have S1:lQ g k=0->∀ j,j<k+1->lQ g j=0:=fun hb j hj=>by
   rcases aAM j k with h|h
   .exact x9 j h
   .obtain rfl:j=k:=oO;exact hb
  have hret:∀ v,lQ g k=v->v≠0->chk g=v:=fun v h0 h1=>by have hf:=gG dA x9 h0 h1;rw[W8,hf,aAj h1]
  generalize hx:g.vs.getD k 0=x at *;by_cases hx1:x<1
  .have hr:=hret 2 (by rw[M8];unfold fB;rw[aAj (.inl hx1)]) (by decide);refine xw9 f1 f18 f19 f20 dA hd hw hx1 hr ?_;exact aA.new _ _
  by_cases Y3:1048576<x
  .have hr:=hret 2 (by rw[M8];unfold fB;rw[aAj (.inr Y3)]) (by decide);refine Fx f1 f18 f19 f20 dA hd hw hx1 Y3 hr ?_;exact aA.new _ _
  by_cases h0:k=0
  .have hb:lQ g k=0:=by rw[M8];unfold fB;rw[aAa (sF2 hx1 Y3)];simp[h0]
   have S7:¬0<k:=oO;refine Fx f1 f18 f19 f20 dA hd hw hx1 Y3 S7 ?_;refine hJJ _ _ _ ?_ ⟨k+1,oO,rfl,sF1 f1,sF1 f18,sF1 f19,sS,rfl,S1 hb⟩;omega
  .have S7:0<k:=oO;have R6:IntKind.i64.wrap ((k:Int)-1)=((k-1:Nat):Int):=zW;have z7:=qG g.vs (k-1) oO;have Z3:k-1<g.vs.length:=oO;generalize hy:g.vs.getD (k-1) 0=y at *;by_cases u7:x<=y
   .have hr:=hret 19 (by rw[M8];unfold fB;rw[aAa (sF2 hx1 Y3),aAj ⟨sF1 h0,u7⟩]) (by decide);refine E3 f1 f18 f19 f20 dA hd hw hx1 Y3 S7 R6 z7 Z3 u7 hr ?_;exact aA.new _ _
   .have hb:lQ g k=0:=by rw[M8];unfold fB;rw[aAa (sF2 hx1 Y3),aAa (sF1 u7)]
    refine XH f1 f18 f19 f20 dA hd hw hx1 Y3 S7 R6 z7 Z3 u7 ?_;refine hJJ _ _ _ ?_ ⟨k+1,oO,rfl,sF1 f1,sF1 f18,sF1 f19,sS,rfl,S1 hb⟩;omega
 have P0:k=g.vs.length:=oO;have hz:cB (lQ g) g.vs.length=0:=iL (fun j hj=>x9 j oO);rw[hz]at W8;simp only[ne_eq,not_true_eq_false,aBS]at W8;clear hJJ x9 hz;have hel:=aK g.es;refine xw5 f1 f18 f19 f20 dA ?_;refine qL (fun n fr st'=>∃ k:Nat,k<=g.es.length/\n=g.es.length-k/\fr 1=.pt st.next 0/\fr 45=.sl 0 g.es.length (eds g.es)/\fr 46=i g.es.length/\fr 47=i k/\aA (st.new (.box 25 2 (grL g))) st'/\∀ j,j<k->mD g j=0) g.es.length ?_ ?_
 .exact⟨0,oO,oO,sF1 f1,sS,sS,sS,aA.refl _,fun j h=>by omega⟩
 clear f1 f18 f19 f20 dA P0 hk fr k;rintro n fr st1 ⟨k,hk,rfl,f1,f45,f46,f47,j8,x9⟩ JJ hJJ;have hgH:st1.H st.next=.box 25 2 (grL g):=by rw[j8.H _ sS];simp
 have M6:¬st.next=st1.next:=by have:=j8.next;simp only[aG]at this;omega
 have hkp0:=(aA.new st (.box 25 2 (grL g))).trans j8;by_cases dA:k<g.es.length
 .have hd:=aR g.es k dA;have hw:=qN k oO;have o8:k*3<g.es.length*3:=oO;have M8:mD g k=(let x:=g.es.getD k ed0;let n:=fB x.id (g.es.getD (k-1) ed0).id (decide (k=0));if n≠0 then n else if x.a=x.b then 20 else if x.a∉g.vs\/x.b∉g.vs then 21 else 0):=rfl;have S1:mD g k=0->∀ j,j<k+1->mD g j=0:=fun hb j hj=>by
   rcases aAM j k with h|h
   .exact x9 j h
   .obtain rfl:j=k:=oO;exact hb
  have hret:∀ v,mD g k=v->v≠0->chk g=v:=fun v h0 h1=>by rw[W8];exact gG dA x9 h0 h1
  generalize hx:g.es.getD k ed0=x at *;obtain⟨xi,xa,xb⟩:=x;simp only at hd M8;have hkn:=hkp0.trans (aA.new _ (.box 36 3 [u xi,u xa,u xb]));by_cases hx1:xi<1
  .have hn:fB xi (g.es.getD (k-1) ed0).id (decide (k=0))=2:=by unfold fB;rw[aAj (.inl hx1)]
   have hr:=hret 2 (by rw[M8,hn];rfl) (by decide);refine Zf f1 f45 f46 f47 dA hd hw hel o8 hgH M6 hx1 hr ?_;exact hkn
  by_cases Y3:1048576<xi
  .have hn:fB xi (g.es.getD (k-1) ed0).id (decide (k=0))=2:=by unfold fB;rw[aAj (.inr Y3)]
   have hr:=hret 2 (by rw[M8,hn];rfl) (by decide);refine XH f1 f45 f46 f47 dA hd hw hel o8 hgH M6 hx1 Y3 hr ?_;exact hkn
  by_cases hnb:fB xi (g.es.getD (k-1) ed0).id (decide (k=0))=0;rotate_left
  ·
   have h0:k≠0:=by rintro rfl;apply hnb;unfold fB;rw[aAa (sF2 hx1 Y3)];simp
   have u7:xi<=(g.es.getD (k-1) ed0).id:=by
    unfold fB at hnb;rw[aAa (sF2 hx1 Y3)]at hnb;by_cases h:decide (k=0)=false/\xi<=(g.es.getD (k-1) ed0).id
    .exact h.2
    .rw[aAa h]at hnb;exact absurd rfl hnb
   have hn:fB xi (g.es.getD (k-1) ed0).id (decide (k=0))=19:=by unfold fB;rw[aAa (sF2 hx1 Y3),aAj ⟨sF1 h0,u7⟩]
   have hr:=hret 19 (by rw[M8,hn];rfl) (by decide);have S7:0<k:=oO;have R6:IntKind.i64.wrap ((k:Int)-1)=((k-1:Nat):Int):=zW;have z7:=aR g.es (k-1) oO;have Z3:k-1<g.es.length:=oO;have P4:(k-1)*3<g.es.length*3:=oO;generalize hy:g.es.getD (k-1) ed0=y at *;obtain⟨yi,ya,yb⟩:=y;simp only at z7 u7;refine F4 f1 f45 f46 f47 dA hd hw hel o8 hgH M6 hx1 Y3 S7 R6 z7 Z3 P4 u7 hr ?_;exact hkn
  rw[aAa (fun h=>h hnb)]at M8;by_cases x8:xa=xb
  .have hr:=hret 20 (by rw[M8,aAj x8]) (by decide);by_cases h0:k=0
   .have S7:¬0<k:=oO;refine RU f1 f45 f46 f47 dA hd hw hel o8 hgH M6 hx1 Y3 S7 x8 hr ?_;exact hkp0.trans (aA.new _ _)
   .have S7:0<k:=oO;have R6:IntKind.i64.wrap ((k:Int)-1)=((k-1:Nat):Int):=zW;have z7:=aR g.es (k-1) oO;have Z3:k-1<g.es.length:=oO;have P4:(k-1)*3<g.es.length*3:=oO;have u7:¬xi<=(g.es.getD (k-1) ed0).id:=by intro h;unfold fB at hnb;rw[aAa (sF2 hx1 Y3),aAj ⟨sF1 h0,h⟩]at hnb;cases hnb
    generalize hy:g.es.getD (k-1) ed0=y at *;obtain⟨yi,ya,yb⟩:=y;simp only at z7 u7;refine J3 f1 f45 f46 f47 dA hd hw hel o8 hgH M6 hx1 Y3 S7 R6 z7 Z3 P4 u7 x8 hr ?_;exact hkp0.trans (aA.new _ _)
  rw[aAa x8]at M8;by_cases h0:k=0
  .have S7:¬0<k:=oO
   (refine J4 f1 f45 f46 f47 dA hd hw hel o8 hgH M6 hx1 Y3 S7 x8 ?_;intro J hJ)
   refine qE (Has g xa _ S5) (by simp[]) ?_;rintro r st' ⟨rfl,j7⟩;have Z9:st'.H st1.next=.box 36 3 [u xi,u xa,u xb]:=by rw[j7.H _ sS];simp
   have hgH1:st'.H st.next=.box 25 2 (grL g):=by rw[j7.H _ (by have:=j8.next;simp only[aG]at this ⊢;omega),bY,aAa M6];exact hgH
   have W2:=(j8.trans (aA.new _ _)).trans j7;have hkp01:=(hkp0.trans (aA.new _ _)).trans j7;by_cases hma:xa∈g.vs;rotate_left
   .have hr:=hret 21 (by rw[M8,aAj (.inl hma)]) (by decide);refine VT hJ f1 Z9 hgH1 hr hma ?_;exact hkp01
   (apply cI;simp[f1,Z9,hgH1,hma])
   refine qE (Has g xb _ S5) (by simp[]) ?_;rintro r st' ⟨rfl,u6⟩;by_cases hmb:xb∈g.vs;rotate_left
   .have hr:=hret 21 (by rw[M8,aAj (.inr hmb)]) (by decide);refine vP hJ hr hmb ?_;exact hkp01.trans u6
   have hb':mD g k=0:=by rw[M8,aAa (sF2 hma hmb)]
   refine wJ hJ f47 hw hmb ?_;refine hJJ _ _ _ ?_ ⟨k+1,oO,rfl,sF1 f1,sF1 f45,sF1 f46,sS,W2.trans u6,S1 hb'⟩;omega
  .have S7:0<k:=oO;have R6:IntKind.i64.wrap ((k:Int)-1)=((k-1:Nat):Int):=zW;have z7:=aR g.es (k-1) oO;have Z3:k-1<g.es.length:=oO;have P4:(k-1)*3<g.es.length*3:=oO;have u7:¬xi<=(g.es.getD (k-1) ed0).id:=by intro h;unfold fB at hnb;rw[aAa (sF2 hx1 Y3),aAj ⟨sF1 h0,h⟩]at hnb;cases hnb
   generalize hy:g.es.getD (k-1) ed0=y at *;obtain⟨yi,ya,yb⟩:=y;simp only at z7 u7
   (refine G9 f1 f45 f46 f47 dA hd hw hel o8 hgH M6 hx1 Y3 S7 R6 z7 Z3 P4 u7 x8 ?_;intro J hJ)
   refine qE (Has g xa _ S5) (by simp[]) ?_;rintro r st' ⟨rfl,j7⟩;have Z9:st'.H st1.next=.box 36 3 [u xi,u xa,u xb]:=by rw[j7.H _ sS];simp
   have hgH1:st'.H st.next=.box 25 2 (grL g):=by rw[j7.H _ (by have:=j8.next;simp only[aG]at this ⊢;omega),bY,aAa M6];exact hgH
   have W2:=(j8.trans (aA.new _ _)).trans j7;have hkp01:=(hkp0.trans (aA.new _ _)).trans j7;by_cases hma:xa∈g.vs;rotate_left
   .have hr:=hret 21 (by rw[M8,aAj (.inl hma)]) (by decide);refine VT hJ f1 Z9 hgH1 hr hma ?_;exact hkp01
   (apply cI;simp[f1,Z9,hgH1,hma])
   refine qE (Has g xb _ S5) (by simp[]) ?_;rintro r st' ⟨rfl,u6⟩;by_cases hmb:xb∈g.vs;rotate_left
   .have hr:=hret 21 (by rw[M8,aAj (.inr hmb)]) (by decide);refine vP hJ hr hmb ?_;exact hkp01.trans u6
   have hb':mD g k=0:=by rw[M8,aAa (sF2 hma hmb)]
   refine wJ hJ f47 hw hmb ?_;refine hJJ _ _ _ ?_ ⟨k+1,oO,rfl,sF1 f1,sF1 f45,sF1 f46,sS,W2.trans u6,S1 hb'⟩;omega
 .have hr:chk g=0:=by rw[W8];exact iL (fun j hj=>x9 j oO)
  clear hJJ;refine xw6 f1 f45 f46 f47 dA hr ?_;exact hkp0
theorem ME(l:List Ed):(eds l).all iM=true:=by
 induction l with
 |nil=>rfl
 |cons e l ih=>simp only[eds,aAH,List.all_append,ih,Bool.and_true];rfl
theorem XB(l:List Ed)(t:Nat)(st:St)(hl:l.length<=1048576):
 aB prog 19 [.sl t l.length (eds l)] st fun r st'=>r=.sl 0 l.length (eds l)/\aA st st':=by
 have M9:=ME l;have hel:=aK l;refine cD ?_;refine jO 36 3 ?_;refine zN func19 ntmps19 [.tmp 2] ?_
 (repeat' (first|apply qS|refine qK (zZ ?_)|(refine qR (zZ ?_);simp[M9,hel])|(apply qC;simp[M9,hel])|(refine w_e [5] ?_;intro J hJ;simp only[];simp[M9,hel];(repeat refine ca ?_);((try with_reducible refine⟨?_,?_⟩)<;>(try with_reducible intro u9)<;>refine zJ hJ ?_<;>clear hJ J<;>try subst u9))))
 .exact⟨st.next+1,l.length,⟨rfl,rfl⟩,36,3,eds l,sS,by rw[hel];exact aAl _,⟨rfl,aAu (by rw[hel];exact aAl _)⟩,((aA.new _ _).trans (aA.new _ _)).set oO _⟩
 .exact⟨st.next,0,⟨rfl,rfl⟩,36,3,[],sS,sS,⟨rfl,.inr rfl⟩,(aA.new _ _).set (aAl _) _⟩
theorem copied(g:Gr)(st:St)(hv:g.vs.length<=1048576)(he:g.es.length<=1048576):
 aB prog 109 [.ag (grL g)] st fun r st'=>r=.ag (grL g)/\aA st st':=by
 refine zN func109 ntmps109 [.cell 2 25] ?_;refine xw0 ?_
 (refine zS [] [st.next] [0,2,6,8,4,10,12,15] ?_;intro J hJ;simp[])
 refine qD (Qz g.vs 0 _ hv) (by simp[]) ?_;rintro r st' ⟨rfl,j7⟩;have Z9:st'.H st.next=.box 25 2 (grL g):=by rw[j7.H _ (by simp;omega)];simp
 have hC1:st'.H (st.next+1)=.box 25 2 [.nil,.nil]:=by rw[j7.H _ sS];simp
 refine⟨fun _=>by simp[Z9],?_⟩
 (apply bJ;simp[Z9])
 have N6:=j7.next;simp only[aG]at N6;refine qD (XB g.es 0 _ he) (by simp[]) ?_;rintro r st' ⟨rfl,u6⟩;have hB2:=(u6.H st.next oO).trans Z9;have hC2:=(u6.H (st.next+1) oO).trans hC1;refine⟨fun _=>by simp[hB2],?_⟩
 (apply bJ;simp[hB2,hC2];refine zJ hJ ?_)
 refine xw1 hC2 ?_;exact(((((aA.new _ _).trans (aA.new _ _)).trans j7).trans u6).set oO _)
theorem DC(e s:Nat){P:Program}{f:FuncId}{args:List LV}{st:St}{Q:LV->St->Prop}(pre:List LV)
 (h:aB P f args st fun r st'=>∃ c,r=.ag (pre++[c])/\((c=.nil/\Q (.ag (pre++[.sl 0 0 []])) st')\/∃ l n cs,c=.ms l 0 n/\st'.H l=.box e s cs/\n*s<=cs.length/\Q (.ag (pre++[.sl 0 n (cs.take (n*s))])) (st'.set l .dead))):aB P f args st Q:=by
 refine⟨h.1,fun w g vs hi hr=>(h.2 w g vs hi hr).mono ?_⟩;rintro x w' ⟨v,r,st',g',rfl,⟨c,rfl,hc⟩,K9,M4,he⟩;simp only[Rep]at K9;obtain⟨us1,rfl,hus⟩:=K9;obtain⟨v1,h1,h2⟩:=nD pre us1 hus;rcases hc with⟨rfl,hq⟩|⟨l,n,cs,rfl,hl,hn,hq⟩
 .refine⟨_,_,st',g',rfl,hq,?_,M4,he⟩
  grind [Rep,Ext.refl]
 .obtain⟨g2,k1,k2,k3⟩:=iK (fr:=upd (fun _=>.dead) 0 (.ms l 0 n)) 0 rfl hl hn { tmps:=#[v1],defers:=[] } w' g' M4 (by
   intro j;unfold upd;by_cases hj:j=0
   .simp_all
   grind [Rep])
  refine⟨_,_,_,g2,rfl,hq,?_,k1,he.trans k3⟩;simp only[Rep];exact⟨us1,rfl,h2 g2 _ k3 (k2 0)⟩
theorem Bq(rs:List (List Int))(k:Nat)(hk:k<rs.length):eF (rs.take (k+1))=eF (rs.take k)++[.sl 0 (rs[k]).length (us rs[k])]:=by
 grind [List.take_succ_eq_append_getElem]
theorem Wo(g:Gr)(q:Nat)(es:List (List Int×LV))(tf:Int->List Int)(st:St)(hv:g.vs.length<=1000)(he:g.es.length<=1000)(hq:q<st.next)(hM:st.H q=.map false [.u32] es)
 (ht:∀ v∈g.vs,∃ x t,(bS es [v]).getD .nil=x/\norm x=.sl t (tf v).length (us (tf v))/\(tf v).length<=1000):
 aB prog 67 [.ag (grL g),.mp q] st fun r st'=>r=.ag (mpL ⟨g,g.vs.map fun v=>nrm (tf v)⟩)/\aA st st':=by
 refine DC 22 1 (grL g) ?_;refine zN func67 ntmps67 [.cell 4 28] ?_
 (refine xj0 ?_;intro J hJ)
 refine qE (copied g _ oO oO) sS ?_;rintro r s1 ⟨rfl,j7⟩;have N6:=j7.next;simp only[aG]at N6;have X7:s1.H st.next=.box 25 2 (grL g):=by rw[j7.H _ (by simp;omega)];simp
 have hM1:s1.H q=.map false [.u32] es:=by rw[j7.H q (by simp;omega),bY,aAa (by simp;omega),bY,aAa oO,hM]
 have hR1:s1.H (st.next+1)=.box 28 3 [.nil,.nil,.nil]:=by rw[j7.H _ sS];simp
 have ne1:¬st.next=s1.next:=oO;refine vP hJ X7 ne1 ?_;refine qL (fun n fr st2=>∃ k:Nat,k<=g.vs.length/\n=g.vs.length-k/\fr 1=.mp q/\fr 4=.pt (st.next+1) 0/\fr 5=.pt s1.next 0/\fr 12=.sl 0 g.vs.length (us g.vs)/\fr 13=i g.vs.length/\fr 14=i k/\aA s1 st2/\s1.next<st2.next/\∃ c,st2.H s1.next=.box 28 3 (grL g++[c])/\((k=0/\c=.nil)\/∃ z,c=.ms z 0 k/\s1.next<z/\z<st2.next/\st2.H z=.box 22 1 (eF ((g.vs.map fun v=>nrm (tf v)).take k)))) g.vs.length ?_ ?_
 .exact⟨0,oO,oO,sS,sS,sS,sS,sS,sS,aA.new _ _,sS,.nil,sS,.inl ⟨rfl,rfl⟩⟩
 rintro n fr st2 ⟨k,hk,rfl,f1,f4,f5,f12,f13,f14,j8,O3,c,hB,hcz⟩ JJ hJJ;have Y4:st2.H q=.map false [.u32] es:=by rw[j8.H q oO];exact hM1
 by_cases dA:k<g.vs.length
 .have hd:=qG g.vs k dA;have hw:=qN k oO;have hvin:g.vs.getD k 0∈g.vs:=by rw[aW _ _ dA];exact aAE dA
  obtain⟨x,t,hx1,Y3,hx3⟩:=ht _ hvin;have Tf:=Bq (g.vs.map fun v=>nrm (tf v)) k (by grind);have hrk:(g.vs.map fun v=>nrm (tf v))[k]'(by grind)=nrm (tf (g.vs.getD k 0)):=by simp[dA]
  rw[hrk,cA]at Tf;generalize hvv:g.vs.getD k 0=v at *;have hqn:¬q=s1.next:=oO;have ne2:¬s1.next=st2.next:=oO;have ne3:¬q=st2.next:=by have:=j8.next;omega
  rcases hcz with⟨rfl,rfl⟩|⟨z,rfl,hz1,hz2,hz⟩
  ·(repeat' (first|apply qS|(refine zE ?_;intro J hJ;simp[f12,f13,f14,dA,hd];(refine zJ hJ ?_;clear hJ J))))
   (apply qC;simp[])
   (repeat' (first|apply qS|apply qB|refine qK (zZ ?_)|(refine zE ?_;intro J hJ;simp[f1,f5,f12,f13,f14,dA,hd];(refine zJ hJ ?_;clear hJ J))))
   (refine zS [25] [s1.next,q] [0,2,4,6,8,10,12,14,16,19] ?_;intro J hJ;simp[f1,f5,hB,Y4,hx1,hqn])
   refine qD (Rp (tf v) t _ (by grind [small])) (by grind) ?_;rintro r s3 ⟨rfl,o8⟩;have hB3:=(o8.H s1.next oO).trans hB;have hM3:=(o8.H q oO).trans Y4;have hn3:=o8.next;have ne4:¬s1.next=s3.next:=oO;have ne5:¬s1.next=s3.next+1:=oO;have ne6:¬q=s3.next+1:=oO;have ne7:¬q=s3.next:=oO;refine⟨fun _=>by simp[hB3,hM3,hB,Y4],?_⟩
   (apply bJ;simp[f5,hB3,hM3,hB,Y4,ne4,ne5,ne6,ne7];(repeat refine ca ?_);(refine zJ hJ ?_;clear hJ J))
   have R6:IntKind.i64.wrap 1=1:=by decide
   refine xw4 f5 f14 hw R6 ?_;refine hJJ (g.vs.length-1) _ _ oO ⟨1,oO,rfl,sF1 f1,sF1 f4,sF1 f5,sF1 f12,sF1 f13,sS,(((j8.trans o8).trans (aA.new _ _)).trans (aA.new _ _)).set (aAl _) _,by simp;omega,.ms (s3.next+1) 0 1,sS,.inr ⟨s3.next+1,rfl,oO,sS,?_⟩⟩;rw[Tf,bQ,aAa oO];simp
  .generalize hR:eF ((g.vs.map fun v=>nrm (tf v)).take k)=R at *;have hzl:R.length=k:=by rw[<- hR];simp;omega
   (repeat' (first|apply qS|(refine zE ?_;intro J hJ;simp[f12,f13,f14,dA,hd];(refine zJ hJ ?_;clear hJ J))))
   (apply qC;simp[])
   (repeat' (first|apply qS|apply qB|refine qK (zZ ?_)|(refine zE ?_;intro J hJ;simp[f1,f5,f12,f13,f14,dA,hd];(refine zJ hJ ?_;clear hJ J))))
   (refine zS [25] [s1.next,q] [0,2,4,6,8,10,12,14,16,19] ?_;intro J hJ;simp[f1,f5,hB,Y4,hx1,hqn])
   refine qD (Rp (tf v) t _ (by grind [small])) (by grind) ?_;rintro r s3 ⟨rfl,o8⟩;have hB3:=(o8.H s1.next oO).trans hB;have hM3:=(o8.H q oO).trans Y4;have hz3:=(o8.H z oO).trans hz;have hn3:=o8.next;have ne4:¬s1.next=s3.next:=oO;have ne5:¬s1.next=s3.next+1:=oO;have ne6:¬q=s3.next+1:=oO;have ne7:¬q=s3.next:=oO;have ne8:¬s1.next=z:=oO;have ne9:¬z=s3.next:=oO;have ne10:¬q=z:=oO;have L0:R.take k=R:=aAu oO;refine⟨fun _=>by simp[hB3,hM3,hB,Y4],?_⟩
   (apply bJ;simp[f5,hB3,hM3,hB,Y4,ne4,ne5,ne6,ne7,ne8,ne9,ne10,hz3,hzl,L0];(repeat refine ca ?_);(refine zJ hJ ?_;clear hJ J))
   refine xw3 f5 f14 hw ?_;refine hJJ (g.vs.length-(k+1)) _ _ oO ⟨k+1,oO,rfl,sF1 f1,sF1 f4,sF1 f5,sF1 f12,sF1 f13,sS,((((j8.trans o8).trans (aA.new _ _)).set oO _).trans (aA.new _ _)).set (aAl _) _,by simp;omega,.ms (s3.next+1) 0 (k+1),sS,.inr ⟨s3.next+1,rfl,oO,sS,?_⟩⟩;rw[Tf,bQ,aAa oO];simp
 .have hkk:k=g.vs.length:=oO;have hBR:¬s1.next=st.next+1:=oO;have hR2:=(j8.H (st.next+1) oO).trans hR1;have hKK:aA st st2:=(((aA.new _ _).trans (aA.new _ _)).trans j7).trans j8;rcases hcz with⟨h0,rfl⟩|⟨z,rfl,hz1,hz2,hz⟩
  .refine xw8 f12 f13 f14 dA f4 f5 hB hR2 ?_;exact⟨⟨oO,aBt.mp oO⟩,hKK.set oO _⟩
  .refine xw8 f12 f13 f14 dA f4 f5 hB hR2 ?_;have hmm:(g.vs.map fun v=>nrm (tf v)).take k=g.vs.map fun v=>nrm (tf v):=aAu (by grind);rw[hmm]at hz;exact⟨z,k,⟨rfl,rfl⟩,_,by rw[aAa oO,hz],by grind,⟨hkk,by grind [List.take_of_length_le]⟩,(hKK.set oO _).set oO _⟩
theorem eR{P:Program}{N:Nat}{Q:AQ}{c:Code}{fr:Frm}{st:St}(h:0<st.next->AWp P N c Q fr st):AWp P N c Q fr st:=
 fun a w g hi hr hs hd=>h hi.pos a w g hi hr hs hd
def lI(v:Int)(x:Ed):List Int:=(if x.a=v then [2*x.id]else [])++(if x.b=v then [2*x.id+1]else [])
def ends(es:List Ed)(v:Int):List Int:=es.flatMap (lI v)
theorem Jb(f:Ed->List Int)(l:List Ed)(k:Nat)(hk:k<l.length):(l.take (k+1)).flatMap f=(l.take k).flatMap f++f (l.getD k ed0):=by rw[aAp hk,aBX,aAg,aAh hk];simp
theorem qW(v:Int)(x:Ed):(lI v x).length<=2:=by unfold lI;split<;>split<;>simp
theorem rF(f:Ed->List Int)(hf:∀ x,(f x).length<=2)(l:List Ed):(l.flatMap f).length<=2*l.length:=by
 induction l with
 |nil=>simp
 |cons x l ih=>have:=hf x;simp only[aAH,aAn,List.length_cons];omega
def JL(es:List Ed):Prop:=∀ x∈es,0<=x.id/\x.id<=1048576
theorem JL.at{es:List Ed}(h:JL es)(k:Nat)(hk:k<es.length):0<=(es.getD k ed0).id/\(es.getD k ed0).id<=1048576:=by rw[aAg,aAh hk];exact h _ (aAE hk)
theorem wrap_u32'(n:Int)(h0:0<=n)(h1:n<4294967296):IntKind.u32.wrap n=n:=by rw[wrap_u32];omega
def WY(t:Nat)(lo:St)(l:List Int)(st:St):Prop:=t≠0/\lo.next<=t/\t<st.next/\st.H t=.own 34 1 l.length/\aA lo st
theorem dOf(id e:Int)(st:St)(h0:0<=id)(h1:id<=1048576)(he:e=0\/e=1):aB prog 93 [u id,i e] st fun r st'=>r=u (2*id+e)/\st'=st:=by refine(Of id e st).mono ?_;rintro r st' ⟨rfl,rfl⟩;refine⟨?_,rfl⟩;have h2:id*2 % 4294967296+e % 2=2*id+e:=oO;rw[h2]
theorem uT(g:Gr)(v:Int)(st:St)(he:g.es.length<=1000)(hid:JL g.es):
 aB prog 51 [.ag (grL g),u v] st fun r st'=>(∃ t,r=.sl t (ends g.es v).length (us (ends g.es v)))/\aA st st':=by
 obtain⟨vs,l⟩:=g;simp only at he hid ⊢;have hel:=aK l;have hfl:=fun k=>rF (lI v) (qW v) (l.take k);refine zN func51 ntmps51 [.tmp 4] ?_;refine xw0 ?_;refine eR fun M5=>?_;refine kM 5 34 1 sS ?_;refine qL (fun n fr st2=>∃ k:Nat,k<=l.length/\n=l.length-k/\fr 1=u v/\fr 9=.sl 0 l.length (eds l)/\fr 10=i l.length/\fr 11=i k/\∃ t,fr 5=.sl t (ends (l.take k) v).length (us (ends (l.take k) v))/\WY t st (ends (l.take k) v) st2) l.length ?_ ?_
 .exact⟨0,oO,oO,sS,sS,sS,sS,st.next+1,by simp[ends],oO,oO,sS,by simp[ends],(aA.new _ _).trans (aA.new _ _)⟩
 rintro n fr st2 ⟨k,hk,rfl,f1,f9,f10,f11,t,f5,ht0,htl,htn,htH,j8⟩ JJ hJJ;by_cases dA:k<l.length;rotate_left
 .clear hJJ;have P0:k=l.length:=oO;rw[P0,aAU]at f5;refine xw4 f10 f11 dA f5 ?_;exact j8
 have hd:=aR l k dA;have hw:=qN k oO;have o8:k*3<l.length*3:=oO;obtain⟨hi0,hi1⟩:=hid.at k dA;have D3:ends (l.take (k+1)) v=ends (l.take k) v++lI v (l.getD k ed0):=Jb _ _ _ dA;have u7:=hfl k;rw[aAw]at u7;have hle2:(ends (l.take k) v).length<=2*min k l.length:=u7;generalize hx:l.getD k ed0=x at *;obtain⟨id,a,b⟩:=x;simp only at hi0 hi1 hd;generalize hF:ends (l.take k) v=F at *;have w1:IntKind.u32.wrap (2*id)=2*id:=wrap_u32' _ oO oO;have w2:IntKind.u32.wrap (2*id+1)=2*id+1:=wrap_u32' _ oO oO;have ht2:¬t=st2.next:=oO;have ht3:¬st2.next=t:=oO;have ht4:¬t=st2.next+1:=oO;have ht5:¬t=st2.next+1+1:=oO;have ht6:¬t=st2.next+1+1+1:=oO;have O6:¬st2.next=st2.next+1+1:=oO;have hn3:¬st2.next=st2.next+1+1+1:=oO;have hn4:¬st2.next=st2.next+1+1+1+1:=oO;have hn5:¬st2.next+1+1=st2.next+1+1+1:=oO;by_cases ha:a=v
 .by_cases hb:b=v
  .have Z8:lI v ⟨id,a,b⟩=[2*id,2*id+1]:=by simp[lI,ha,hb]
   rw[Z8]at D3
   (repeat' (first|apply qS|apply qB|refine qK (zZ ?_)|(apply qC;simp[f1,f5,f9,f10,f11,dA,hd,hw,hel,ha,hb,w1,w2,htH,ht0,ht2,ht3,ht4,O6,hn3,hn4,hn5,ht5,ht6])|(refine zE ?_;intro J hJ;simp[f1,f5,f9,f10,f11,dA,hd,hw,hel,ha,hb,w1,w2,htH,ht0,ht2,ht3,ht4,O6,hn3,hn4,hn5,ht5,ht6];(repeat refine ca ?_);refine zJ hJ ?_)))
   refine hJJ (l.length-(k+1)) _ _ oO ⟨k+1,oO,rfl,sF1 f1,sF1 f9,sF1 f10,sS,st2.next+1+1+1+1,by rw[D3];simp[f5],oO,by have:=j8.next;omega,by simp<;>omega,by rw[D3];simp[htH,ht2,ht4,O6,hn3,hn4,hn5],?_⟩
   (repeat (first|exact j8|(refine aA.trans ?_ (aA.new _ _))|(refine aA.set ?_ (by have:=j8.next;first|omega|(simp only[aG,bH];omega)) _)))
  .have Z8:lI v ⟨id,a,b⟩=[2*id]:=by simp[lI,ha,hb]
   rw[Z8]at D3
   (repeat' (first|apply qS|apply qB|refine qK (zZ ?_)|(apply qC;simp[f1,f5,f9,f10,f11,dA,hd,hw,hel,ha,hb,w1,w2,htH,ht0,ht2,ht3,ht4,O6,hn3,hn4,hn5,ht5,ht6])|(refine zE ?_;intro J hJ;simp[f1,f5,f9,f10,f11,dA,hd,hw,hel,ha,hb,w1,w2,htH,ht0,ht2,ht3,ht4,O6,hn3,hn4,hn5,ht5,ht6];(repeat refine ca ?_);refine zJ hJ ?_)))
   refine hJJ (l.length-(k+1)) _ _ oO ⟨k+1,oO,rfl,sF1 f1,sF1 f9,sF1 f10,sS,st2.next+1+1,by rw[D3];simp[f5],oO,by have:=j8.next;omega,by simp<;>omega,by rw[D3];simp[htH,ht2,ht4,O6,hn3,hn4,hn5],?_⟩
   (repeat (first|exact j8|(refine aA.trans ?_ (aA.new _ _))|(refine aA.set ?_ (by have:=j8.next;first|omega|(simp only[aG,bH];omega)) _)))
 .by_cases hb:b=v
  .have Z8:lI v ⟨id,a,b⟩=[2*id+1]:=by simp[lI,ha,hb]
   rw[Z8]at D3
   (repeat' (first|apply qS|apply qB|refine qK (zZ ?_)|(apply qC;simp[f1,f5,f9,f10,f11,dA,hd,hw,hel,ha,hb,w1,w2,htH,ht0,ht2,ht3,ht4,O6,hn3,hn4,hn5,ht5,ht6])|(refine zE ?_;intro J hJ;simp[f1,f5,f9,f10,f11,dA,hd,hw,hel,ha,hb,w1,w2,htH,ht0,ht2,ht3,ht4,O6,hn3,hn4,hn5,ht5,ht6];(repeat refine ca ?_);refine zJ hJ ?_)))
   refine hJJ (l.length-(k+1)) _ _ oO ⟨k+1,oO,rfl,sF1 f1,sF1 f9,sF1 f10,sS,st2.next+1+1,by rw[D3];simp[f5],oO,by have:=j8.next;omega,by simp<;>omega,by rw[D3];simp[htH,ht2,ht4,O6,hn3,hn4,hn5],?_⟩
   (repeat (first|exact j8|(refine aA.trans ?_ (aA.new _ _))|(refine aA.set ?_ (by have:=j8.next;first|omega|(simp only[aG,bH];omega)) _)))
  .have Z8:lI v ⟨id,a,b⟩=[]:=by simp[lI,ha,hb]
   rw[Z8]at D3;refine G4 f1 f5 f9 f10 f11 dA hd hw hel ha hb w1 w2 htH ht0 ht2 ht3 ht4 O6 hn3 hn4 hn5 ht5 ht6 ?_;refine hJJ (l.length-(k+1)) _ _ oO ⟨k+1,oO,rfl,sF1 f1,sF1 f9,sF1 f10,sS,t,by rw[D3];simp[f5],oO,by have:=j8.next;omega,by simp<;>omega,by rw[D3];simp[htH,ht2,ht4,O6,hn3,hn4,hn5],?_⟩
   (repeat (first|exact j8|(refine aA.trans ?_ (aA.new _ _))|(refine aA.set ?_ (by have:=j8.next;first|omega|(simp only[aG,bH];omega)) _)))
def KA(v:Int)(x:Ed):List Int:=(if x.a=v then [x.b]else [])++(if x.b=v then [x.a]else [])
def nbr(es:List Ed)(v:Int):List Int:=es.flatMap (KA v)
def alone(g:Gr):Nat:=g.vs.countP fun v=>decide (nbr g.es v=[])
theorem Ju(p:Int->Bool)(l:List Int)(k:Nat)(hk:k<l.length):(l.take (k+1)).countP p=(l.take k).countP p+(if p (l.getD k 0)=true then 1 else 0):=by rw[aAp hk,List.countP_append,aW _ _ hk];simp[List.countP_cons]
inductive Reach(es:List Ed)(v:Int):Int->Prop
 |refl:Reach es v v
 |step {u w:Int} (h:Reach es v u) (hw:w∈nbr es u):Reach es v w
theorem cJ{es:List Ed}{u w:Int}:w∈nbr es u↔∃ x∈es,(x.a=u/\x.b=w)\/(x.b=u/\x.a=w):=by
 grind [nbr,KA]
theorem nV{es:List Ed}{u w:Int}(h:w∈nbr es u):u∈nbr es w:=by
 grind [cJ]
theorem Reach.trans{es:List Ed}{u v w:Int}(h:Reach es u v)(k:Reach es v w):Reach es u w:=by
 induction k with
 |refl=>exact h
 |step _ hw ih=>exact .step ih hw
theorem Reach.symm{es:List Ed}{u v:Int}(h:Reach es u v):Reach es v u:=by
 induction h with
 |refl=>exact .refl
 |step _ hw ih=>exact Reach.trans (.step .refl (nV hw)) ih
theorem Reach.closed{es:List Ed}{v w:Int}{L:Int->Prop}(h:Reach es v w)(hv:L v)(hc:∀ u,L u->∀ w∈nbr es u,L w):L w:=by
 induction h with
 |refl=>omega
 |step _ hw ih=>grind
structure Good(g:Gr):Prop where
 rise:g.vs.Pairwise (· < ·)
 ends:∀ x∈g.es,x.a∈g.vs/\x.b∈g.vs
theorem Good.nbr{g:Gr}(h:Good g){u w:Int}(hw:w∈nbr g.es u):w∈g.vs:=by
 rw[cJ]at hw;obtain⟨x,hx,⟨_,rfl⟩|⟨_,rfl⟩⟩:=hw
 .exact(h.ends x hx).2
 .exact(h.ends x hx).1
theorem Good.reach{g:Gr}(h:Good g){v w:Int}(hv:v∈g.vs)(hr:Reach g.es v w):w∈g.vs:=by
 cases hr with
 |refl=>omega
 |step _ hw=>exact h.nbr hw
theorem Good.nodup{g:Gr}(h:Good g):g.vs.Nodup:=h.rise.imp fun h=>by omega
def wY(g:Gr)(v:Int)(c:List Int):Prop:=c.Pairwise (· < ·)/\∀ w,w∈c↔w∈g.vs/\Reach g.es v w
def Seen(g:Gr)(k:Nat)(w:Int):Prop:=∃ u∈g.vs.take k,Reach g.es u w
theorem AL{l:List Int}(h:l.Pairwise (· < ·)){k:Nat}(hk:k<l.length){u:Int}:u∈l.take k↔u∈l/\u<l.getD k 0:=by
 rw[aW _ _ hk];constructor
 .grind [List.getElem_of_mem,List.pairwise_iff_getElem]
 .rintro⟨hu,dA⟩;obtain⟨j,hj,rfl⟩:=aAA hu
  grind [List.pairwise_iff_getElem,List.mem_take_iff_getElem]
inductive eI(g:Gr):Nat->List (List Int)->Prop
 |zero:eI g 0 []
 |seen {k:Nat} {R:List (List Int)} (h:eI g k R) (hk:k<g.vs.length) (hs:Seen g k (g.vs.getD k 0)):eI g (k+1) R
 |lead {k:Nat} {R:List (List Int)} {c:List Int} (h:eI g k R) (hk:k<g.vs.length) (hs:¬Seen g k (g.vs.getD k 0)) (hc:wY g (g.vs.getD k 0) c):eI g (k+1) (R++[c])
theorem eI.len{g:Gr}{k:Nat}{R:List (List Int)}(h:eI g k R):R.length<=k:=by
 induction h with
 |zero=>simp
 |seen _ _ _ ih=>omega
 |lead _ _ _ _ ih=>grind
abbrev EY(rs:List (List Int)):List LV:=rs.map fun r=>.sl 0 r.length (us r)
theorem JV{P:Program}{f:FuncId}{args:List LV}{st:St}{Q:LV->St->Prop}(h:aB P f args st fun r st'=>∃ t n cs,r=.sl t n cs/\Q (.sl 0 n cs) st'):aB P f args st Q:=by
 refine⟨h.1,fun w g vs hi hr=>(h.2 w g vs hi hr).mono ?_⟩;rintro x w' ⟨v,r,st',g',rfl,⟨t,n,cs,rfl,hq⟩,K9,M4,he⟩;refine⟨v,_,st',g',rfl,hq,?_,M4,he⟩
 grind [Rep]
def InI(es:List (List Int×LV))(S:List Int):Prop:=∀ v,(bS es [v]).getD (bb false)=bb (decide (v∈S))
theorem InI.step{es:List (List Int×LV)}{S:List Int}(h:InI es S)(w:Int):InI (bV es [w] (bb true)) (S++[w]):=by
 intro v;rw[sH];by_cases hv:v=w
 .grind
 .rw[aAa (by grind),h v];simp_all
theorem InI.congr{es:List (List Int×LV)}{S S':List Int}(h:InI es S)(hs:∀ v,v∈S'↔v∈S):InI es S':=fun v=>by rw[h v,show decide (v∈S')=decide (v∈S) from aEa.2 (hs v)]
structure tD(g:Gr)(v:Int)(S:List Int):Prop where
 nodup:S.Nodup
 mem:v∈S
 reach:∀ w∈S,Reach g.es v w
theorem tD.len{g:Gr}(hg:Good g){v:Int}(hv:v∈g.vs){S:List Int}(h:tD g v S):S.length<=g.vs.length:=
 aAy h.nodup fun w hw=>hg.reach hv (h.reach w hw)
theorem tD.push{g:Gr}{v:Int}{S:List Int}(h:tD g v S){x:Ed}(hx:x∈g.es){u w:Int}(hu:u∈S)(hw:w∉S)(hxw:(x.a=u/\x.b=w)\/(x.b=u/\x.a=w)):tD g v (S++[w]):=by
 refine⟨?_,aAr _ h.mem,fun z hz=>?_⟩
 .rw[aAo];refine⟨h.nodup,sS,fun a ha b hb=>?_⟩
  grind
 .rw[aAd,aAk]at hz;rcases hz with hz|rfl
  .exact h.reach z hz
  .exact .step (h.reach u hu) (cJ.2 ⟨x,hx,hxw⟩)
def SL(es:List Ed)(S:List Int):Prop:=∀ x∈es,(x.a∈S↔x.b∈S)
theorem tD.part{g:Gr}(hg:Good g){v:Int}{S:List Int}(h:tD g v S)(he:SL g.es S):wY g v (g.vs.filter fun w=>decide (w∈S)):=by
 refine⟨hg.rise.filter _,fun w=>?_⟩;rw[aAB,aBA];refine⟨fun hw=>⟨hw.1,h.reach w hw.2⟩,fun hw=>⟨hw.1,?_⟩⟩;refine hw.2.closed (L:=fun w=>w∈S) h.mem fun u hu w hw=>?_;obtain⟨x,hx,⟨rfl,rfl⟩|⟨rfl,rfl⟩⟩:=cJ.1 hw
 .exact(he x hx).1 hu
 .exact(he x hx).2 hu
def RpI(ms:Nat)(g:Gr)(st:St)(S:List Int)(fr:Frm)(st2:St):Prop:=
 fr 2=.pt st.next 0/\fr 5=.mp ms/\st.next<ms/\ms<st2.next/\aA st st2/\st2.H st.next=.box 25 2 (grL g)/\∃ es,st2.H ms=.map false [.u32] es/\InI es S
theorem RpI.fr{ms:Nat}{g:Gr}{st:St}{S:List Int}{fr c8:Frm}{st2:St}(h:RpI ms g st S fr st2)(h2:c8 2=fr 2)(h5:c8 5=fr 5):RpI ms g st S c8 st2:=
 ⟨h2.trans h.1,h5.trans h.2.1,h.2.2⟩
theorem Qm(g:Gr)(v:Int)(st:St)(hg:Good g)(hv:g.vs.length<=1000)(he:g.es.length<=1000)(hvin:v∈g.vs):
 aB prog 115 [.ag (grL g),u v] st fun r st'=>(∃ c,r=.sl 0 c.length (us c)/\wY g v c)/\aA st st':=by
 refine JV ?_;have hel:=aK g.es;refine zN func115 ntmps115 [.tmp 4] ?_;refine xw0 ?_;obtain⟨ms,hms⟩:∃ ms,ms=st.next+1:=⟨_,rfl⟩;refine qL (fun z fr st2=>∃(gr:Bool) (S:List Int),z=(if gr=true then g.vs.length+1-S.length else 0)/\fr 6=bb gr/\tD g v S/\(gr=false->SL g.es S)/\RpI ms g st S fr st2) g.vs.length ?_ ?_
 .refine⟨true,[v],sS,sS,⟨sS,sS,fun w hw=>?_⟩,fun h=>absurd h sS,sS,by simp_all,oO,by simp_all,?_,sS,_,by simp[hms];rfl,fun w=>?_⟩
  .rw[aAk]at hw;subst hw;exact .refl
  .grind [aA.trans,aA.new,aA.set]
  grind [bV,bS]
 rintro z fr st2 ⟨gr,S,rfl,f6,hF,hE,hI⟩ JJ hJJ;cases gr
 .clear hJJ;obtain⟨f2,f5,hm1,hm2,j8,hG,es,hM,hIn⟩:=hI;have hpt:=hF.part hg (hE rfl);refine xw3 f6 f2 hG ?_;refine kM 9 34 1 sS ?_;have hqq:∀ k,(g.vs.take (k+1)).filter (fun w=>decide (w∈S))=if k<g.vs.length then(if g.vs.getD k 0∈S then(g.vs.take k).filter (fun w=>decide (w∈S))++[g.vs.getD k 0]else(g.vs.take k).filter (fun w=>decide (w∈S)))else g.vs.filter (fun w=>decide (w∈S)):=by
   intro k;by_cases hk:k<g.vs.length
   .grind [List.take_succ_eq_append_getElem]
   .grind [List.take_of_length_le]
  refine qL (fun z fr O4=>∃ k:Nat,k<=g.vs.length/\z=g.vs.length-k/\fr 5=.mp ms/\fr 40=.sl 0 g.vs.length (us g.vs)/\fr 41=i g.vs.length/\fr 42=i k/\O4.H ms=.map false [.u32] es/\ms<O4.next/\∃ t,fr 9=.sl t ((g.vs.take k).filter fun w=>decide (w∈S)).length (us ((g.vs.take k).filter fun w=>decide (w∈S)))/\WY t st ((g.vs.take k).filter fun w=>decide (w∈S)) O4) g.vs.length ?_ ?_
  .have a1:¬ms=st2.next:=oO;exact⟨0,oO,oO,by simp_all,sS,sS,sS,by simp_all,by simp;omega,st2.next,sS,oO,oO,sS,sS,j8.trans (aA.new _ _)⟩
  clear f2 f5 f6 hM j8 hG fr;rintro z fr O4 ⟨k,hk,rfl,f5,f40,f41,f42,hM,hm3,t,f9,ht0,htl,htn,htH,j8⟩ JJ hJJ;by_cases dA:k<g.vs.length;rotate_left
  .clear hJJ;have P0:k=g.vs.length:=oO;rw[P0,aAU]at f9;refine xw4 f9 f41 f42 dA ?_
   grind
  have hd:=qG g.vs k dA;have hw:=qN k oO;have D3:=hqq k;rw[aAj dA]at D3;have u7:=aBl (fun w=>decide (w∈S)) (g.vs.take k);rw[aAw]at u7;generalize hx:g.vs.getD k 0=x at *;generalize hFF:(g.vs.take k).filter (fun w=>decide (w∈S))=F at *;have hIx:=hIn x;have ht2:¬t=O4.next:=oO;by_cases hxS:x∈S
  .rw[aAj hxS]at D3;rw[aCq hxS]at hIx
   (repeat' (first|apply qS|apply qB|refine qK (zZ ?_)|(apply qC;simp[f5,f9,f40,f41,f42,dA,hd,hw,hM,hIx,htH,ht0,ht2])|(refine zE ?_;intro J hJ;simp[f5,f9,f40,f41,f42,dA,hd,hw,hM,hIx,htH,ht0,ht2];(repeat refine ca ?_);refine zJ hJ ?_)))
   have a1:¬ms=O4.next:=oO;have a2:¬ms=O4.next+1:=oO;have a3:¬ms=t:=fun h=>by grind
   exact hJJ (g.vs.length-(k+1)) _ _ oO ⟨k+1,oO,rfl,sF1 f5,sF1 f40,sF1 f41,sS,sF4 a1 a2 a3 hM,by simp;omega,O4.next+1,by rw[D3];simp,oO,oO,sS,by rw[D3];simp,(by repeat (first|exact j8|(refine aA.trans ?_ (aA.new _ _))|(refine aA.set ?_ oO _)))⟩
  .rw[aAa hxS]at D3;rw[aCn hxS]at hIx;refine Fx f5 f9 f40 f41 f42 dA hd hw hM hIx ?_;exact hJJ (g.vs.length-(k+1)) _ _ oO ⟨k+1,oO,rfl,sF1 f5,sF1 f40,sF1 f41,sS,hM,hm3,t,by rw[D3];simp[f9],ht0,htl,htn,by grind,j8⟩
 have hSl:=hF.len hg hvin;obtain⟨f2,f5,hm1,hm2,j8,hG,es,hM,hIn⟩:=id hI;refine xw3 f6 f2 hG ?_;refine qL (fun z fr st2=>∃(k:Nat) (gr:Bool) (S':List Int),k<=g.es.length/\z=g.es.length-k/\fr 6=bb gr/\fr 17=.sl 0 g.es.length (eds g.es)/\fr 18=i g.es.length/\fr 19=i k/\tD g v S'/\(gr=false->SL (g.es.take k) S')/\(gr=true->S.length<S'.length)/\S.length<=S'.length/\RpI ms g st S' fr st2) g.es.length ?_ ?_
 .exact⟨0,false,S,oO,oO,sS,sS,sS,sS,hF,fun _ x hx=>by grind,fun h=>absurd h sS,aAl _,hI.fr sS sS⟩
 clear f2 f5 f6 hI hE hF hm1 hm2 j8 hG hM hIn es fr st2;rintro z fr st2 ⟨k,gr,S',hk,rfl,f6,f17,f18,f19,hF,hE,hG2,hSS,hI⟩ J2 hJ2;have hSl2:=hF.len hg hvin;obtain⟨f2,f5,hm1,hm2,j8,hG,es,hM,hIn⟩:=id hI;by_cases dA:k<g.es.length;rotate_left
 .clear hJ2;have P0:k=g.es.length:=oO;rw[P0,aAU]at hE;refine xw3 f18 f19 dA ?_;refine hJJ (if gr=true then g.vs.length+1-S'.length else 0) _ _ ?_ ⟨gr,S',rfl,sF1 f6,hF,hE,hI.fr sS sS⟩
  grind
 clear hJJ;have hd:=aR g.es k dA;have hw:=qN k oO;have o8:k*3<g.es.length*3:=oO;have W6:g.es.getD k ed0∈g.es:=by rw[aAg,aAh dA];exact aAE dA
 have hEn:(gr=false->SL (g.es.take k) S')->((g.es.getD k ed0).a∈S'↔(g.es.getD k ed0).b∈S')->(gr=false->SL (g.es.take (k+1)) S'):=by
  intro h1 h2 h3 y hy;rw[aAp dA,aAd,aAk]at hy;rcases hy with hy|rfl
  .exact h1 h3 y hy
  .grind
 generalize hx:g.es.getD k ed0=x at *;obtain⟨id,a,b⟩:=x;simp only at hd hEn;have hIa:=hIn a;have hIb:=hIn b;have a1:¬ms=st2.next:=oO;have a2:¬st2.next=ms:=oO;have a3:¬st.next=st2.next:=oO;have a4:¬st.next=ms:=oO;by_cases x8:(a∈S'↔b∈S')
 .have hdd:decide (a∈S')=decide (b∈S'):=aEa.2 x8;rw[hdd]at hIa;refine Zf f5 f17 f18 f19 dA hd hel hw hM hIa hIb a1 a2 ?_;exact hJ2 (g.es.length-(k+1)) _ _ oO ⟨k+1,gr,S',oO,rfl,sF1 f6,sF1 f17,sF1 f18,sS,hF,hEn hE x8,hG2,hSS,sF1 f2,sF1 f5,hm1,by simp;omega,(by grind [aA.trans,aA.new]),sF2 a3 hG,es,sF2 a1 hM,hIn⟩
 .have hdd:¬decide (a∈S')=decide (b∈S'):=fun h=>x8 (aEa.1 h);have hIn2:=(hIn.step a).step b;obtain⟨S2,hS2,hF2,hl2⟩:∃ S2,(∀ z,z∈S2↔z∈S'++[a]++[b])/\tD g v S2/\S'.length<S2.length:=by
   by_cases ha:a∈S'
   .have hb:b∉S':=fun h=>x8 ⟨fun _=>h,fun _=>ha⟩;refine⟨S'++[b],fun z=>?_,hF.push W6 ha hb (.inl ⟨rfl,rfl⟩),sS⟩
    grind
   .have hb:b∈S':=aAI fun h=>x8 ⟨fun h1=>absurd h1 ha,fun h1=>absurd h1 h⟩;refine⟨S'++[a],fun z=>?_,hF.push W6 hb ha (.inr ⟨rfl,rfl⟩),sS⟩
    grind
  have hIn3:=hIn2.congr hS2;refine XH f5 f17 f18 f19 dA hd hel hw hM hIa hIb hdd a1 a2 ?_;exact hJ2 (g.es.length-(k+1)) _ _ oO ⟨k+1,true,S2,oO,rfl,sS,sF1 f17,sF1 f18,sS,hF2,fun h=>absurd h sS,fun _=>by omega,oO,sF1 f2,sF1 f5,hm1,by simp;omega,(by repeat (first|exact j8|(refine aA.trans ?_ (aA.new _ _))|(refine aA.set ?_ oO _))),sF3 a3 a4 hG,_,sS,hIn3⟩
theorem wY.seen{g:Gr}(hg:Good g){k:Nat}(hk:k<g.vs.length){x:Int}{c:List Int}(h:wY g (g.vs.getD k 0) (x::c)):Seen g k (g.vs.getD k 0)↔x≠g.vs.getD k 0:=by
 have hvin:g.vs.getD k 0∈g.vs:=by rw[aW _ _ hk];exact aAE hk
 obtain⟨h1,h2⟩:=h;have N7:∀ w∈x::c,x<=w:=by
  intro w hw;rw[aAe]at hw;rcases hw with rfl|hw
  .omega
  .have:=(aBf.1 h1).1 w hw;omega
 have W6:=(h2 x).1 (aAf ..);constructor
 .rintro⟨u,hu,hr⟩ he;obtain⟨k1,k2⟩:=(AL hg.rise hk).1 hu;have:=N7 u ((h2 u).2 ⟨k1,hr.symm⟩);omega
 .intro c7;have:=N7 _ ((h2 _).2 ⟨hvin,.refl⟩);exact⟨x,(AL hg.rise hk).2 ⟨W6.1,oO⟩,W6.2.symm⟩
theorem NU(g:Gr)(st:St)(hg:Good g)(hv:g.vs.length<=1000)(he:g.es.length<=1000):
 aB prog 73 [.ag (grL g)] st fun r st'=>(∃ t R,r=.sl t R.length (EY R)/\eI g g.vs.length R)/\aA st st':=by
 refine zN func73 ntmps73 [.tmp 2] ?_;refine xw0 ?_;refine eR fun M5=>?_;refine kM 3 22 1 sS ?_;refine qL (fun z fr st2=>∃ j:Nat,j<=g.vs.length/\z=g.vs.length-j/\fr 1=.pt st.next 0/\fr 8=.sl 0 g.vs.length (us g.vs)/\fr 9=i g.vs.length/\fr 10=i j/\st.next<st2.next/\st2.H st.next=.box 25 2 (grL g)/\aA st st2/\∃ t R,fr 3=.sl t R.length (EY R)/\eI g j R/\t≠0/\st.next<t/\t<st2.next/\st2.H t=.own 22 1 R.length) g.vs.length ?_ ?_
 .refine⟨0,oO,oO,sS,sS,sS,sS,by simp;omega,sS,?_,st.next+1,[],sS,.zero,oO,oO,sS,sS⟩
  (repeat (first|exact aA.refl _|(refine aA.trans ?_ (aA.new _ _))|(refine aA.set ?_ oO _)))
 rintro z fr st2 ⟨j,hj,rfl,f1,f8,f9,f10,X3,hG,j8,t,R,f3,hPT,ht0,htl,htn,htH⟩ JJ hJJ;by_cases dA:j<g.vs.length;rotate_left
 .clear hJJ;have hj':j=g.vs.length:=oO;rw[hj']at hPT;refine xw4 f3 f9 f10 dA ?_;exact⟨⟨t,R,⟨rfl,rfl,rfl⟩,hPT⟩,j8⟩
 have hd:=qG g.vs j dA;have hw:=qN j oO;have hvin:g.vs.getD j 0∈g.vs:=by rw[aW _ _ dA];exact aAE dA
 have hps:=fun hs=>eI.seen hPT dA hs;have U3:=fun(c:List Int) hs hc=>eI.lead (c:=c) hPT dA hs hc;have hsn2:=fun x c=>@wY.seen g hg j dA x c;have hRl:=hPT.len;generalize hx:g.vs.getD j 0=v at *
 (refine xj7 f1 f8 f9 f10 dA hd hG ?_;intro J hJ)
 refine qE (Qm g v st2 hg hv he hvin) (sF2 f1 hG) ?_;rintro r s2 ⟨⟨c,rfl,hc⟩,u6⟩;have O6:=u6.next;have hG2:=(u6.H _ X3).trans hG;have htH2:=(u6.H _ htn).trans htH;have hkp2:=j8.trans u6;have a1:¬t=s2.next:=oO;have a2:¬t=s2.next+1:=oO;have a3:¬st.next=s2.next:=oO;have a4:¬st.next=s2.next+1:=oO;have a5:¬st.next=t:=oO;cases c with
 |nil=>exfalso;have:=(hc.2 v).2 ⟨hvin,.refl⟩;simp at this
 |cons x c=>
  by_cases hxv:x=v
  .have hns:¬Seen g j v:=fun h=>((hsn2 x c hc).1 h) hxv;have hP2:=U3 _ hns hc
   (repeat' (first|apply qS|(apply qC;simp[f3,f10,hw,hxv,htH2,ht0,a1,a2])|((first|(refine zE ?_;intro J hJ)|(apply cI));simp[f3,f10,hw,hxv,htH2,ht0,a1,a2];(repeat refine ca ?_);(refine zJ hJ ?_;clear hJ J))))
   rw[hxv]at hP2;refine hJJ (g.vs.length-(j+1)) _ _ oO ⟨j+1,oO,rfl,sF1 f1,sF1 f8,sF1 f9,sS,by simp;omega,sF4 a3 a4 a5 hG2,?_,s2.next+1,R++[v::c],sS,hP2,oO,oO,sS,sS⟩
   (repeat (first|exact hkp2|(refine aA.trans ?_ (aA.new _ _))|(refine aA.set ?_ oO _)))
  .have hns:Seen g j v:=(hsn2 x c hc).2 hxv;have hP2:=hps hns;refine ZP hJ f3 f10 hw hxv ?_;exact hJJ (g.vs.length-(j+1)) _ _ oO ⟨j+1,oO,rfl,sF1 f1,sF1 f8,sF1 f9,sS,oO,hG2,hkp2,t,R,sF1 f3,hP2,ht0,htl,oO,htH2⟩
def MX(f:FuncId)(Gj:List LV)(st:St)(l:List Ed)(p:Ed->Bool):Prop:=∀ x∈l,∀ st2,aA st st2->aB prog f (.ag (edL x)::Gj) st2 fun r O4=>r=bb (p x)/\aA st2 O4
theorem GH(l:List Ed)(p:Ed->Bool)(k:Nat)(hk:k<l.length):(l.take (k+1)).filter p=if p (l.getD k ed0)=true then(l.take k).filter p++[l.getD k ed0]else(l.take k).filter p:=by rw[aAp hk,aCR,aAg,aAh hk];by_cases h:p l[k]=true<;>simp[h]
def G1(X:LV)(F:List Ed):Prop:=(X=.nil/\F=[])\/∃ t,X=.sl t F.length (eds F)
theorem E7(g:Gr)(f:FuncId)(Gj:List LV)(p:Ed->Bool)(st:St)(hv:g.vs.length<=1000)(he:g.es.length<=1000)(hp:MX f Gj st g.es p):
 aB prog 14 [.ag (grL g),.fn (.func f) Gj] st fun r st'=>(∃ X,r=.ag [.sl 0 g.vs.length (us g.vs),X]/\G1 X (g.es.filter p))/\aA st st':=by
 have hel:=aK g.es;have S5:small g.vs:=by unfold small;omega
 refine zN func14 ntmps14 [.cell 4 25] ?_
 (refine xj0 ?_;intro J hJ)
 refine qE (Qz g.vs 0 _ S5) sS ?_;rintro r s1 ⟨rfl,j7⟩;have N6:=j7.next;simp only[aG]at N6;have X7:s1.H st.next=.box 25 2 (grL g):=by rw[j7.H _ (by simp;omega)];simp
 have hC1:s1.H (st.next+1)=.box 25 2 [.nil,.nil]:=by rw[j7.H _ sS];simp
 have e1:¬st.next=s1.next:=oO;refine vP hJ X7 e1 ?_;have W2:aA st s1:=((aA.new _ _).trans (aA.new _ _)).trans j7;obtain⟨q4,hq4⟩:∃ q,q=st.next+1:=⟨_,rfl⟩;obtain⟨q5,hq5⟩:∃ q,q=s1.next:=⟨_,rfl⟩;refine qL (fun n fr st2=>∃ k:Nat,k<=g.es.length/\n=g.es.length-k/\fr 1=.fn (.func f) Gj/\fr 4=.pt q4 0/\fr 5=.pt q5 0/\fr 13=.sl 0 g.es.length (eds g.es)/\fr 14=i g.es.length/\fr 15=i k/\aA st st2/\q5<st2.next/\st2.H q4=.box 25 2 [.nil,.nil]/\∃ X,st2.H q5=.box 25 2 [.sl 0 g.vs.length (us g.vs),X]/\((X=.nil/\(g.es.take k).filter p=[])\/∃ t,X=.sl t ((g.es.take k).filter p).length (eds ((g.es.take k).filter p))/\t≠0/\q5<t/\t<st2.next/\st2.H t=.own 36 3 ((g.es.take k).filter p).length)) g.es.length ?_ ?_
 .have e2:¬q4=s1.next:=oO;have e3:¬st.next+1=s1.next:=oO;refine⟨0,oO,oO,sS,sF1 hq4,sF1 hq5,sS,sS,sS,?_,sF1 hq5,sF4 e2 hC1 hq4 e3,.nil,sF1 hq5,.inl ⟨rfl,sS⟩⟩
  (repeat (first|exact W2|(refine aA.trans ?_ (aA.new _ _))|(refine aA.set ?_ oO _)))
 rintro n fr st2 ⟨k,hk,rfl,f1,f4,f5,f13,f14,f15,j8,h5n,hC,X,hX,hXs⟩ JJ hJJ;have e0:¬q4=q5:=oO;by_cases dA:k<g.es.length;rotate_left
 .clear hJJ;have P0:k=g.es.length:=oO;rw[P0,aAU]at hXs;rcases hXs with⟨rfl,h⟩|⟨t,rfl,h⟩
  .refine xw8 f4 f5 f14 f15 dA hX hC e0 ?_;exact⟨.inl ⟨rfl,h⟩,(by repeat (first|exact j8|(refine aA.trans ?_ (aA.new _ _))|(refine aA.set ?_ (by have:=j8.next;omega) _)))⟩
  .refine xw8 f4 f5 f14 f15 dA hX hC e0 ?_;exact⟨.inr ⟨t,rfl⟩,(by repeat (first|exact j8|(refine aA.trans ?_ (aA.new _ _))|(refine aA.set ?_ (by have:=j8.next;omega) _)))⟩
 have hd:=aR g.es k dA;have hw:=qN k oO;have o8:k*3<g.es.length*3:=oO;have W6:g.es.getD k ed0∈g.es:=by rw[aAg,aAh dA];exact aAE dA
 have D3:=GH g.es p k dA;have u7:=aBl p (g.es.take k);rw[aAw]at u7;have htest:=fun s h=>hp _ W6 s h;generalize hx:g.es.getD k ed0=x at *;generalize hFF:(g.es.take k).filter p=F at *;have hFl:=aK F;have hFo:(eds F).length=F.length*3:=hFl;obtain⟨d,a,b⟩:=x;simp only at hd htest
 (refine xj7 f1 f13 f14 f15 dA hd hel ?_;intro J hJ)
 refine qF (htest _ (j8.trans (aA.new _ (.box 36 3 [u d,u a,u b])))) ?_;rintro r s3 ⟨rfl,hk3'⟩;have hn3:=hk3'.next;simp only[aG]at hn3;have hkk:aA st2 s3:=(aA.new _ _).trans hk3';have hX3:=(hkk.H q5 h5n).trans hX;have hC3:=(hkk.H q4 oO).trans hC;have hE3:s3.H st2.next=.box 36 3 [u d,u a,u b]:=by rw[hk3'.H _ sS];simp
 have hkp3:aA st s3:=(j8.trans (aA.new _ _)).trans hk3';have z1:¬q5=s3.next:=oO;have z2:¬q5=s3.next+1:=oO;have z3:¬q4=s3.next:=oO;have z4:¬q4=s3.next+1:=oO;have z5:¬s3.next+1=q5:=oO;by_cases hpx:p ⟨d,a,b⟩=true;rotate_left
 .rw[aAa hpx]at D3;have hpx:p ⟨d,a,b⟩=false:=by simpa using hpx
  refine wJ hJ hpx f15 hw ?_;refine hJJ (g.es.length-(k+1)) _ _ oO ⟨k+1,oO,rfl,sF1 f1,sF1 f4,sF1 f5,sF1 f13,sF1 f14,sS,hkp3,oO,hC3,X,hX3,?_⟩;rw[D3];rcases hXs with h|⟨t,h,h0,h1,h2,h3⟩
  .exact .inl h
  .exact .inr ⟨t,h,h0,h1,oO,(hkk.H t h2).trans h3⟩
 rw[aAj hpx]at D3;have hed:eds (F++[⟨d,a,b⟩])=eds F++[u d,u a,u b]:=by simp[eds]
 rcases hXs with⟨rfl,hF0⟩|⟨t,rfl,h0,h1,h2,h3⟩
 ·(repeat' (first|(apply qC;simp[hpx,f5,f15,hw,hX3,hE3,z1,z2])|((first|(refine zE ?_;intro J hJ)|(apply cI));simp[hpx,f5,f15,hw,hX3,hE3,z1,z2];(repeat refine ca ?_);(refine zJ hJ ?_;clear hJ J))))
  refine hJJ (g.es.length-(k+1)) _ _ oO ⟨k+1,oO,rfl,sF1 f1,sF1 f4,sF1 f5,sF1 f13,sF1 f14,sS,?_,by simp;omega,sF4 e0 z3 z4 hC3,_,by simp;rfl,.inr ⟨s3.next+1,by rw[D3,hed,hF0];simp[eds],oO,oO,sS,by rw[D3,hF0];simp[z5]⟩⟩
  (repeat (first|exact hkp3|(refine aA.trans ?_ (aA.new _ _))|(refine aA.set ?_ oO _)))
 .have h3':s3.H t=.own 36 3 F.length:=(hkk.H t h2).trans h3;have y1:¬t=s3.next:=oO;have y2:¬t=s3.next+1:=oO;have y3:¬q5=t:=oO;have y4:¬t=q5:=oO;have y5:¬q4=t:=oO
  (repeat' (first|(apply qC;simp[hpx,f5,f15,hw,hX3,hE3,z1,z2,h3',h0,y1,y2,y3,y4,hFo])|((first|(refine zE ?_;intro J hJ)|(apply cI));simp[hpx,f5,f15,hw,hX3,hE3,z1,z2,h3',h0,y1,y2,y3,y4,hFo];(repeat refine ca ?_);(refine zJ hJ ?_;clear hJ J))))
  refine hJJ (g.es.length-(k+1)) _ _ oO ⟨k+1,oO,rfl,sF1 f1,sF1 f4,sF1 f5,sF1 f13,sF1 f14,sS,?_,by simp;omega,sF5 e0 z3 z4 y5 hC3,_,by simp;rfl,.inr ⟨s3.next+1,by rw[D3,hed];simp,oO,oO,sS,by rw[D3];simp[z5]⟩⟩
  (repeat (first|exact hkp3|(refine aA.trans ?_ (aA.new _ _))|(refine aA.set ?_ oO _)))
theorem qP{f:Nat->Int}{n:Nat}(h:cB f n=0):∀ j,j<n->f j=0:=by
 induction n with
 |zero=>omega
 |succ n ih=>
  grind [cB]
theorem xS{n a:Int}{b:Bool}(h:fB n a b=0):1<=n/\n<=1048576/\(b=false->a<n):=by
 grind [fB]
theorem UU{l:List Int}(h:∀ j,j<l.length->0<j->l.getD (j-1) 0<l.getD j 0):l.Pairwise (· < ·):=by
 rw[aAC];intro a b ha hb x8;induction b with
 |zero=>omega
 |succ b ih=>
  grind
theorem HA{g:Gr}(h:chk g=0):Good g/\JL g.es/\g.vs.length<=64/\g.es.length<=160:=by
 unfold chk at h;by_cases h1:64<g.vs.length\/160<g.es.length
 .omega
 .rw[aAa h1]at h;by_cases h2:cB (lQ g) g.vs.length=0
  .rw[aAa oO]at h;have hV:=qP h2;have hE:=qP h;have hEx:∀ j,j<g.es.length->(1<=(g.es.getD j ed0).id/\(g.es.getD j ed0).id<=1048576)/\(g.es.getD j ed0).a∈g.vs/\(g.es.getD j ed0).b∈g.vs:=by
    intro j hj;have:=hE j hj;unfold mD at this;simp only at this;by_cases h3:fB (g.es.getD j ed0).id (g.es.getD (j-1) ed0).id (decide (j=0))=0
    .rw[aAa (fun h=>h h3)]at this;by_cases h4:(g.es.getD j ed0).a=(g.es.getD j ed0).b
     .omega
     .rw[aAa h4]at this;by_cases h5:(g.es.getD j ed0).a∉g.vs\/(g.es.getD j ed0).b∉g.vs
      .grind
      .have h6:=xS h3
       grind
    .omega
   have P3:∀ x∈g.es,∃ j,j<g.es.length/\g.es.getD j ed0=x:=by intro x hx;obtain⟨j,hj,rfl⟩:=aAA hx;exact⟨j,hj,by grind⟩
   refine⟨⟨UU fun j hj h0=>?_,fun x hx=>?_⟩,fun x hx=>?_,oO,oO⟩
   .have:=(xS (hV j hj)).2.2 (by grind);omega
   .grind
   grind
  omega
theorem rU(es:List Ed)(v:Int):ends es v=[]↔nbr es v=[]:=by
 unfold ends nbr;simp only[List.flatMap_eq_nil_iff];refine forall_congr' fun x=>forall_congr' fun _=>?_
 grind [lI,KA]
end Aw
namespace Aw
open Go Go.RowKit Pl Eu
def aL(es:List Ed):List Int:=es.flatMap fun x=>[2*x.id,2*x.id+1]
structure GoodE(g:Gr):Prop extends Good g where
 ids:g.es.Pairwise (fun x y=>x.id<y.id)
 pos:∀ x∈g.es,1<=x.id/\x.id<=1048576
 ne:∀ x∈g.es,x.a≠x.b
theorem eJ(l:List Ed)(j:Nat)(hj:j<l.length):l.getD j ed0=l[j]:=by
 grind
theorem fL{g:Gr}(h:chk g=0):GoodE g:=by
 obtain⟨hg,_,_,_⟩:=HA h;unfold chk at h;by_cases h1:64<g.vs.length\/160<g.es.length
 .omega
 rw[aAa h1]at h;by_cases h2:cB (lQ g) g.vs.length=0
 .rw[aAa oO]at h;have hE:=qP h;have hEx:∀ j,j<g.es.length->((1<=(g.es.getD j ed0).id/\(g.es.getD j ed0).id<=1048576)/\(0<j->(g.es.getD (j-1) ed0).id<(g.es.getD j ed0).id))/\(g.es.getD j ed0).a≠(g.es.getD j ed0).b:=by
   intro j hj;have:=hE j hj;unfold mD at this;simp only at this;by_cases h3:fB (g.es.getD j ed0).id (g.es.getD (j-1) ed0).id (decide (j=0))=0
   .rw[aAa (fun h=>h h3)]at this;by_cases h4:(g.es.getD j ed0).a=(g.es.getD j ed0).b
    .omega
    .have h6:=xS h3
     grind
   .omega
  have P3:∀ x∈g.es,∃ j,j<g.es.length/\g.es.getD j ed0=x:=by intro x hx;obtain⟨j,hj,rfl⟩:=aAA hx;exact⟨j,hj,eJ _ _ hj⟩
  refine⟨hg,?_,fun x hx=>?_,fun x hx=>?_⟩
  .rw[aAC];intro a b ha hb x8;induction b with
   |zero=>omega
   |succ b ih=>
    grind
  .grind
  grind
 omega
theorem id_eq{es:List Ed}(h:es.Pairwise (fun x y=>x.id<y.id)){x y:Ed}(hx:x∈es)(hy:y∈es)(he:x.id=y.id):x=y:=by
 obtain⟨j,hj,rfl⟩:=aAA hx;obtain⟨k,hk,rfl⟩:=aAA hy;rcases aCs j k with h1|h1|h1
 .grind [List.pairwise_iff_getElem]
 .grind
 grind [List.pairwise_iff_getElem]
theorem cP{es:List Ed}{v d:Int}:d∈ends es v↔∃ x∈es,(x.a=v/\d=2*x.id)\/(x.b=v/\d=2*x.id+1):=by
 grind [ends,lI]
theorem cZ{es:List Ed}{d:Int}:d∈aL es↔∃ x∈es,d=2*x.id\/d=2*x.id+1:=by
 grind [aL]
theorem gB{es:List Ed}{d:Int}:d∈aL es↔∃ x∈es,x.id=d / 2:=by
 grind [cZ]
theorem lY{es:List Ed}(h:es.Pairwise (fun x y=>x.id<y.id)):(aL es).Pairwise (· < ·):=by
 grind [aL]
theorem wT{es:List Ed}(h:es.Pairwise (fun x y=>x.id<y.id))(v:Int):(ends es v).Pairwise (· < ·):=by
 unfold ends;rw[List.pairwise_flatMap];refine⟨fun x _=>?_,h.imp fun {x y} L7 a ha b hb=>?_⟩
 .unfold lI;by_cases h1:x.a=v<;>by_cases h2:x.b=v<;>simp[h1,h2];omega
 grind [lI]
theorem gD{l:List Int}(h:l.Pairwise (· < ·)):l.Nodup:=h.imp fun h=>by omega
theorem oA(es:List Ed):(aL es).length=2*es.length:=by
 induction es with
 |nil=>rfl
 |cons x l ih=>grind [aL]
theorem Nv(es:List Ed)(k:Nat)(hk:k<es.length):(aL es).getD (2*k) 0=2*(es.getD k ed0).id/\(aL es).getD (2*k+1) 0=2*(es.getD k ed0).id+1:=by
 induction es generalizing k with
 |nil=>grind
 |cons x l ih=>
  cases k with
  |zero=>simp[aL]
  |succ k=>
   grind [aL]
def Fp(es:List Ed)(v:Int)(t:List Int):Prop:=t.Perm (ends es v)/\nrm t=t
structure bL(m:Mp):Prop where
 g:GoodE m.g
 len:m.rots.length=m.g.vs.length
 ok:∀ k,k<m.g.vs.length->Fp m.g.es (m.g.vs.getD k 0) (m.rots.getD k [])
theorem dL{es:List Ed}(h:es.Pairwise (fun x y=>x.id<y.id)){d v w:Int}(hv:d∈ends es v)(hw:d∈ends es w):v=w:=by
 grind [cP,id_eq]
theorem nP{es:List Ed}{d v:Int}(h:d∈ends es v):d∈aL es:=by
 grind [cP,cZ]
theorem GL{es:List Ed}{d:Int}(h:d∈aL es):∃ v,d∈ends es v/\∃ x∈es,x.id=d / 2/\(v=x.a\/v=x.b):=by
 grind [cZ,cP]
theorem iN(l:List (List Int))(j:Nat)(hj:j<l.length):l.getD j []=l[j]:=by
 grind
section
variable {m:Mp} (h:bL m)
include h
theorem bL.turn{t:List Int}(ht:t∈m.rots):∃ k,k<m.g.vs.length/\t=m.rots.getD k []/\Fp m.g.es (m.g.vs.getD k 0) t:=by
 obtain⟨k,hk,rfl⟩:=aAA ht;have P0:k<m.g.vs.length:=by rw[<- h.len];exact hk
 refine⟨k,P0,(iN _ _ hk).symm,?_⟩;have:=h.ok k P0
 grind
theorem bL.nodup{t:List Int}(ht:t∈m.rots):t.Nodup:=by obtain⟨k,_,_,h1,_⟩:=h.turn ht;exact h1.nodup_iff.2 (gD (wT h.g.ids _))
theorem bL.same{t t':List Int}(ht:t∈m.rots)(ht':t'∈m.rots){d:Int}(hd:d∈t)(Q6:d∈t'):t=t':=by obtain⟨k,hk,rfl,h1,_⟩:=h.turn ht;obtain⟨k',P0,rfl,h2,_⟩:=h.turn ht';have:=dL h.g.ids (h1.mem_iff.1 hd) (h2.mem_iff.1 Q6);rw[aW _ _ hk,aW _ _ P0]at this;have h3:=congrArg m.g.vs.idxOf this;rw[h.g.toGood.nodup.idxOf_getElem,h.g.toGood.nodup.idxOf_getElem]at h3;rw[h3]
theorem bL.turn_of{d:Int}(hd:d∈aL m.g.es):∃ t∈m.rots,d∈t:=by
 obtain⟨v,hv,x,hx,_,hvx⟩:=GL hd;have hvin:v∈m.g.vs:=by
  rcases hvx with rfl|rfl
  .exact(h.g.ends x hx).1
  .exact(h.g.ends x hx).2
 obtain⟨k,hk,rfl⟩:=aAA hvin;have:=h.ok k hk;rw[aW _ _ hk]at this;refine⟨_,?_,this.1.mem_iff.2 hv⟩;rw[iN _ _ (by rw[h.len];omega)]
 grind
theorem bL.turn_dart{t:List Int}(ht:t∈m.rots){d:Int}(hd:d∈t):d∈aL m.g.es:=by
 obtain⟨k,_,_,h1,_⟩:=h.turn ht
 grind [nP]
theorem bL.row_le{t:List Int}(ht:t∈m.rots):t.length<=2*m.g.es.length:=by obtain⟨k,_,_,h1,_⟩:=h.turn ht;rw[h1.length_eq];exact rF _ (qW _) _
end
def sg(m:Mp)(d:Int):Int:=match m.rots.find? (fun t=>decide (d∈t)) with
 |some t=>nx t d
 |none=>d
theorem XE{m:Mp}{d:Int}(h:∀ t∈m.rots,d∉t):sg m d=d:=by
 grind [sg]
theorem BQ{m:Mp}(h:bL m){t:List Int}(ht:t∈m.rots){d:Int}(hd:d∈t):sg m d=nx t d:=by
 unfold sg;cases hf:m.rots.find? (fun t=>decide (d∈t)) with
 |none=>
  grind
 |some t'=>have h1:=aCS hf;have h2:=aBY hf;simp only at h1 ⊢;rw[h.same h2 ht (by grind) hd]
def al(es:List Ed)(d:Int):Int:=if(es.any fun x=>decide (x.id=d / 2))=true then tw d else d
theorem BG{es:List Ed}{d:Int}(h:d∈aL es):al es d=tw d:=by
 grind [al,gB]
theorem uI{es:List Ed}{d:Int}(h:d∉aL es):al es d=d:=by
 grind [al,gB]
theorem Fv(d:Int):tw d / 2=d / 2:=by grind [tw]
theorem I0(d:Int):tw (tw d)=d:=by grind [tw]
theorem Mt{es:List Ed}{d:Int}:tw d∈aL es↔d∈aL es:=by grind [gB,Fv]
theorem WV(es:List Ed)(d:Int):al es (al es d)=d:=by
 grind [BG,Mt,I0,uI]
theorem VX(es:List Ed)(d:Int):al es d / 2=d / 2:=by
 grind [al,Fv]
theorem Ea(es es':List Ed)(d:Int):al es d∈aL es'↔d∈aL es':=by grind [gB,VX]
theorem Xu(es:List Ed){d e:Int}(h:al es d=al es e):d=e:=by grind [WV]
def fc(m:Mp)(es:List Ed)(d:Int):Int:=sg m (al es d)
section
variable {m:Mp} (h:bL m)
include h
theorem bL.sg_mem{t:List Int}(ht:t∈m.rots){d:Int}(hd:d∈t):sg m d∈t:=by rw[BQ h ht hd];grind [KQ]
theorem bL.sg_dart{d:Int}(hd:d∈aL m.g.es):sg m d∈aL m.g.es:=by obtain⟨t,ht,hdt⟩:=h.turn_of hd;exact h.turn_dart ht (h.sg_mem ht hdt)
theorem bL.sg_id{d:Int}(hd:d∉aL m.g.es):sg m d=d:=XE fun _ ht hdt=>hd (h.turn_dart ht hdt)
theorem bL.sg_inj{d e:Int}(he:sg m d=sg m e):d=e:=by
 by_cases h1:d∈aL m.g.es
 .by_cases h2:e∈aL m.g.es
  .obtain⟨t,ht,hd⟩:=h.turn_of h1;obtain⟨t',ht',Q6⟩:=h.turn_of h2;have:=h.same ht ht' (h.sg_mem ht hd) (he ▸ h.sg_mem ht' Q6);subst this;rw[BQ h ht hd,BQ h ht Q6]at he;exact RD (h.nodup ht) hd Q6 he
  .have:=h.sg_dart h1;rw[he,h.sg_id h2]at this
   grind
 .by_cases h2:e∈aL m.g.es
  .have:=h.sg_dart h2;rw[<- he,h.sg_id h1]at this
   grind
  .rwa [h.sg_id h1,h.sg_id h2]at he
theorem bL.fc_inj(es:List Ed)(d e:Int)(he:fc m es d=fc m es e):d=e:=Xu es (h.sg_inj he)
theorem bL.fc_dart(es:List Ed)(d:Int)(hd:d∈aL m.g.es):fc m es d∈aL m.g.es:=h.sg_dart ((Ea es _ d).2 hd)
theorem bL.fc_per(es:List Ed)(hs:∀ x∈es,x∈m.g.es):Per (fc m es):=by
 refine QO (aL m.g.es) (fun x hx=>h.fc_dart es x hx) (h.fc_inj es) fun x hx=>?_
 have U9:x∉aL es:=fun hd=>hx (by
  grind [cZ])
 unfold fc;rw[uI U9,h.sg_id hx]
theorem bL.sg_at_v{d v:Int}(hd:d∈ends m.g.es v):sg m d∈ends m.g.es v:=by obtain⟨t,ht,hdt⟩:=h.turn_of (nP hd);obtain⟨k,hk,rfl,h1,_⟩:=h.turn ht;have:=dL h.g.ids hd (h1.mem_iff.1 hdt);rw[this];exact h1.mem_iff.1 (h.sg_mem ht hdt)
theorem bL.orb_reach(es:List Ed)(hs:∀ x∈es,x∈m.g.es)(n:Nat):∀ {d v:Int},d∈ends m.g.es v->∃ w,it (fc m es) n d∈ends m.g.es w/\Reach es v w:=by
 induction n with
 |zero=>intro d v hd;exact⟨v,hd,.refl⟩
 |succ n ih=>
  intro d v hd;have key:∃ w,fc m es d∈ends m.g.es w/\Reach es v w:=by
   by_cases j5:d∈aL es
   .unfold fc;rw[BG j5];obtain⟨x,hx,hxd⟩:=gB.1 j5;have hxg:=hs x hx;obtain⟨y,hy,hyd⟩:=cP.1 hd;have L7:x=y:=id_eq h.g.ids hxg hy oO;subst L7;rcases hyd with⟨rfl,hdd⟩|⟨rfl,hdd⟩
    .refine⟨x.b,h.sg_at_v (cP.2 ⟨x,hxg,.inr ⟨rfl,?_⟩⟩),.step .refl (cJ.2 ⟨x,hx,.inl ⟨rfl,rfl⟩⟩)⟩
     grind [tw]
    .refine⟨x.a,h.sg_at_v (cP.2 ⟨x,hxg,.inl ⟨rfl,?_⟩⟩),.step .refl (cJ.2 ⟨x,hx,.inr ⟨rfl,rfl⟩⟩)⟩
     grind [tw]
   .unfold fc;rw[uI j5];exact⟨v,h.sg_at_v hd,.refl⟩
  obtain⟨w,h1,h2⟩:=key;obtain⟨w',h3,h4⟩:=ih h1;exact⟨w',h3,h2.trans h4⟩
end
theorem gT(es:List Ed):Eqv (Reach es):=⟨fun _=>.refl,Reach.symm,Reach.trans⟩
theorem Reach.mono{es es':List Ed}(hs:∀ x∈es,x∈es'){v w:Int}(h:Reach es v w):Reach es' v w:=by
 induction h with
 |refl=>exact .refl
 |step _ hw ih=>
  refine .step ih ?_
  grind [cJ]
theorem Js(es:List Ed)(x:Ed)(v w:Int):Reach (es++[x]) v w↔Eu.Mg (Reach es) x.a x.b v w:=by
 constructor
 .intro h;have hE:=Mg.eqv (gT es) x.a x.b;induction h with
  |refl=>exact hE.refl _
  |step _ hw ih=>
   refine hE.trans ih ?_;obtain⟨y,hy,h1⟩:=cJ.1 hw;rw[aAd,aAk]at hy;rcases hy with hy|rfl
   .exact .inl (.step .refl (cJ.2 ⟨y,hy,h1⟩))
   .rcases h1 with⟨rfl,rfl⟩|⟨rfl,rfl⟩
    .exact .inr (.inl ⟨.refl,.refl⟩)
    .exact .inr (.inr ⟨.refl,.refl⟩)
 .refine Mg.le (gT _) (.step .refl (cJ.2 ⟨x,sS,.inl ⟨rfl,rfl⟩⟩)) fun v w h=>h.mono fun y hy=>by grind
theorem MQ{R:Int->Int->Prop}(hR:∀ x y,R x y->x=y){l:List Int}(hn:l.Nodup):ncl R l=l.length:=by
 induction l with
 |nil=>rfl
 |cons x l ih=>
  grind [aM]
theorem EO{v w:Int}(h:Reach [] v w):v=w:=by
 induction h with
 |refl=>rfl
 |step _ hw _=>grind [cJ]
theorem filter_eq{α β:Type}(p:α->Bool)(q:β->Bool):∀(l:List α) (l':List β),l.length=l'.length->(∀ k (h1:k<l.length) (h2:k<l'.length),p l[k]=!q l'[k])->(l.filter p).length+l'.countP q=l.length
 |[],[],_,_=>rfl
 |[],_::_,h,_=>by grind
 |_::_,[],h,_=>by grind
 |a::l,b::l',h,hk=>by
  have ih:=filter_eq p q l l' (by grind) fun k h1 h2=>hk (k+1) (by grind) (by grind);have h0:=hk 0 sS sS
  grind
section
variable {m:Mp} (h:bL m)
include h
theorem bL.kU:(aL m.g.es).Perm m.rots.flatten:=by
 refine(aAZ (gD (lY h.g.ids)) ?_).2 fun d=>?_
 .unfold List.Nodup;rw[aEn];refine⟨fun t ht=>h.nodup ht,?_⟩;rw[aAC];intro a b ha hb x8 x hx y hy;rintro rfl;have h1:=h.ok a (by rw[<- h.len];omega);have h2:=h.ok b (by rw[<- h.len];omega);rw[iN _ _ ha]at h1;rw[iN _ _ hb]at h2;have h3:=dL h.g.ids (h1.1.mem_iff.1 hx) (h2.1.mem_iff.1 hy);have ha':a<m.g.vs.length:=by rw[<- h.len];exact ha
  have hb':b<m.g.vs.length:=by rw[<- h.len];exact hb
  rw[aW _ _ ha',aW _ _ hb']at h3;have:=aAC.1 h.g.rise a b ha' hb' x8;omega
 .rw[aAT];exact⟨fun hd=>h.turn_of hd,fun⟨t,ht,hd⟩=>h.turn_dart ht hd⟩
theorem bL.ncl_sg:ncl (Orb (sg m)) (aL m.g.es)+alone m.g=m.g.vs.length:=by
 have hfc:fc m []=sg m:=by funext d;simp[fc,al]
 have hP:Per (sg m):=by rw[<- hfc];exact h.fc_per [] (fun x hx=>by grind)
 have D3:∀ t∈m.rots,∀ n x,x∈t->it (sg m) n x∈t:=by
  intro t ht n;induction n with
  |zero=>intro x hx;exact hx
  |succ n ih=>intro x hx;exact ih _ (h.sg_mem ht hx)
 have hit:∀ t∈m.rots,∀ n x,x∈t->it (sg m) n x=it (nx t) n x:=by
  intro t ht n;induction n with
  |zero=>intro x hx;rfl
  |succ n ih=>grind [bT,BQ]
 rw[nM hP.eqv h.kU,Ci]
 .have:=filter_eq (fun t=>decide (t≠[])) (fun v=>decide (nbr m.g.es v=[])) m.rots m.g.vs h.len fun k h1 h2=>?_
  .rw[<- h.len];exact this
  .have hk:=h.ok k h2;rw[iN _ _ h1,aW _ _ h2]at hk;have e1:m.rots[k]=[]↔nbr m.g.es m.g.vs[k]=[]:=by
    rw[<- rU];constructor
    .intro h3;have:=hk.1;simp_all
    .intro h3;have:=hk.1;simp_all
   grind
 .intro t ht x hx y hy;obtain⟨n,hn⟩:=JT (h.nodup ht) hx hy;exact⟨n,by grind⟩
 .rw[aAC];rintro a b ha hb x8 x hx y hy ⟨n,hn⟩;have h4:=D3 _ (aAE hb) n y hy;rw[hn]at h4;have h1:=h.ok a (by rw[<- h.len];omega);have h2:=h.ok b (by rw[<- h.len];omega);rw[iN _ _ ha]at h1;rw[iN _ _ hb]at h2;have h3:=dL h.g.ids (h1.1.mem_iff.1 hx) (h2.1.mem_iff.1 h4);have ha':a<m.g.vs.length:=by rw[<- h.len];exact ha
  have hb':b<m.g.vs.length:=by rw[<- h.len];exact hb
  rw[aW _ _ ha',aW _ _ hb']at h3;have:=aAC.1 h.g.rise a b ha' hb' x8;omega
theorem bL.euler_at(j:Nat)(hj:j<=m.g.es.length):∃ k:Nat,2*ncl (Reach (m.g.es.take j)) m.g.vs+j=2*k+alone m.g+m.g.vs.length+ncl (Orb (fc m (m.g.es.take j))) (aL m.g.es):=by
 induction j with
 |zero=>
  have hfc:fc m []=sg m:=by funext d;simp[fc,al]
  refine⟨0,?_⟩;rw[List.take_zero,hfc,MQ (fun x y=>EO) h.g.toGood.nodup];have:=h.ncl_sg;omega
 |succ j ih=>
  obtain⟨k,hk⟩:=ih oO;have hs:∀ i,∀ x∈m.g.es.take i,x∈m.g.es:=fun i x hx=>aBT hx;have hp:=h.fc_per (m.g.es.take j) (hs j);have U5:=h.fc_per (m.g.es.take (j+1)) (hs (j+1));have L0:m.g.es.take (j+1)=m.g.es.take j++[m.g.es[j]]:=aAp oO;have W6:m.g.es[j]∈m.g.es:=aAE _;have hxno:∀ y∈m.g.es.take j,y.id≠m.g.es[j].id:=by intro y hy;obtain⟨i,hi,rfl⟩:=aAA hy;rw[aAw]at hi;rw[aBK];have:=aAC.1 h.g.ids i j oO oO oO;omega
  generalize m.g.es[j]=x at *;have W4:∀ d,fc m (m.g.es.take (j+1)) d=fc m (m.g.es.take j) (sw (2*x.id) (2*x.id+1) d):=by
   intro d;unfold fc
   congr 1
   by_cases h1:d=2*x.id
   .grind [DH,BG,gB,uI,tw]
   .grind [JK,BG,uI,tw,sX,aL,List.mem_singleton]
  have ha:2*x.id∈aL m.g.es:=cZ.2 ⟨x,W6,.inl rfl⟩;have hb:2*x.id+1∈aL m.g.es:=cZ.2 ⟨x,W6,.inr rfl⟩;have hR:∀ v w,Reach (m.g.es.take (j+1)) v w↔Eu.Mg (Reach (m.g.es.take j)) x.a x.b v w:=fun v w=>by grind [Js]
  have hRn:ncl (Reach (m.g.es.take (j+1))) m.g.vs=ncl (Eu.Mg (Reach (m.g.es.take j)) x.a x.b) m.g.vs:=dI fun v _ w _=>hR v w;rw[hRn];by_cases ho:Orb (fc m (m.g.es.take j)) (2*x.id) (2*x.id+1)
  .have h1:=rX hp U5 W4 oO ha hb ho;have hr:Reach (m.g.es.take j) x.a x.b:=by
    obtain⟨n,hn⟩:=ho;obtain⟨w,h2,h3⟩:=h.orb_reach (m.g.es.take j) (hs j) n (cP.2 ⟨x,W6,.inl ⟨rfl,rfl⟩⟩);rw[hn]at h2
    rwa [dL h.g.ids h2 (cP.2 ⟨x,W6,.inr ⟨rfl,rfl⟩⟩)]at h3
   grind [dI,Mg.same,gT]
  .have h1:=vH hp U5 W4 ha hb ho;by_cases hr:Reach (m.g.es.take j) x.a x.b
   .have h2:ncl (Eu.Mg (Reach (m.g.es.take j)) x.a x.b) m.g.vs=ncl (Reach (m.g.es.take j)) m.g.vs:=dI fun v _ w _=>Mg.same (gT _) hr v w;rw[h2];exact⟨k+1,oO⟩
   .have h2:=tJ (gT _) hr (h.g.ends x W6).1 (h.g.ends x W6).2
    grind
theorem bL.euler:∃ k:Nat,2*ncl (Reach m.g.es) m.g.vs+m.g.es.length=2*k+alone m.g+m.g.vs.length+ncl (Orb (fc m m.g.es)) (aL m.g.es):=by
 have:=h.euler_at m.g.es.length (aAl _)
 grind
end
theorem eI.ncl{g:Gr}{k:Nat}{R:List (List Int)}(h:eI g k R):R.length=Eu.ncl (Reach g.es) (g.vs.take k).reverse:=by
 induction h with
 |zero=>rfl
 |@seen k R _ hk hs ih=>
  rw[aAp hk,aCw,aCA,List.singleton_append,aV,ih];obtain⟨u,hu,hr⟩:=hs
  grind
 |@lead k R c _ hk hs _ ih=>
  rw[aAp hk,aCw,aCA,List.singleton_append,aM,aAn,ih]
  .rfl
  .rintro⟨u,hu,hr⟩;rw[<- aW _ _ hk]at hr;exact hs ⟨u,aBm.1 hu,hr⟩
theorem eI.all{g:Gr}{R:List (List Int)}(h:eI g g.vs.length R):R.length=Eu.ncl (Reach g.es) g.vs:=by
 rw[h.ncl,aAU]
 grind [nM,gT]
def Li(f:Int->Int)(ds:List Int)(k:Nat)(x:Int):Prop:=∃ y∈ds.take k,Orb f y x
inductive sU(f:Int->Int)(ds:List Int):Nat->List (List Int)->Prop
 |zero:sU f ds 0 []
 |seen {k:Nat} {R:List (List Int)} (h:sU f ds k R) (hk:k<ds.length) (hs:Li f ds k (ds.getD k 0)):sU f ds (k+1) R
 |lead {k:Nat} {R:List (List Int)} {c:List Int} (h:sU f ds k R) (hk:k<ds.length) (hs:¬Li f ds k (ds.getD k 0)) (hc:lS f (ds.getD k 0) c):sU f ds (k+1) (R++[c])
theorem sU.len{f:Int->Int}{ds:List Int}{k:Nat}{R:List (List Int)}(h:sU f ds k R):R.length<=k:=by
 induction h with
 |zero=>simp
 |seen _ _ _ ih=>omega
 |lead _ _ _ _ ih=>grind
theorem sU.ncl{f:Int->Int}{ds:List Int}{k:Nat}{R:List (List Int)}(h:sU f ds k R):R.length=Eu.ncl (Orb f) (ds.take k).reverse:=by
 induction h with
 |zero=>rfl
 |@seen k R _ hk hs ih=>
  rw[aAp hk,aCw,aCA,List.singleton_append,aV,ih];obtain⟨u,hu,hr⟩:=hs
  grind
 |@lead k R c _ hk hs _ ih=>
  rw[aAp hk,aCw,aCA,List.singleton_append,aM,aAn,ih]
  .rfl
  .rintro⟨u,hu,hr⟩;rw[<- aW _ _ hk]at hr;exact hs ⟨u,aBm.1 hu,hr⟩
theorem sU.all{f:Int->Int}(hf:Per f){ds:List Int}{R:List (List Int)}(h:sU f ds ds.length R):R.length=Eu.ncl (Orb f) ds:=by rw[h.ncl,aAU];exact nM hf.eqv (aBq _)
theorem Sz{f:Int->Int}(hf:Per f){ds:List Int}(hr:ds.Pairwise (· < ·))(hd:∀ x∈ds,f x∈ds){k:Nat}(hk:k<ds.length){c:List Int}(hc:lS f (ds.getD k 0) c):(¬Li f ds k (ds.getD k 0))↔mn c=ds.getD k 0:=by
 have j5:∀ n x,x∈ds->it f n x∈ds:=by
  intro n;induction n with
  |zero=>intro x hx;exact hx
  |succ n ih=>intro x hx;exact ih _ (hd x hx)
 have hx:ds.getD k 0∈ds:=by rw[aW _ _ hk];exact aAE _
 constructor
 .intro hs;refine LL (hc.mem.2 (Orb.refl _ _)) fun y hy=>?_;obtain⟨n,hn⟩:=hc.mem.1 hy;rcases Int.lt_or_le y (ds.getD k 0)with h1|h1
  .have Y1:y∈ds:=by rw[<- hn];exact j5 n _ hx
   exact absurd ⟨y,(AL hr hk).2 ⟨Y1,h1⟩,Orb.symm hf ⟨n,hn⟩⟩ hs
  omega
 .rintro hm ⟨y,hy,hr2⟩;have h1:=((AL hr hk).1 hy).2;have:=Da (hc.mem.2 (Orb.symm hf hr2));omega
theorem yJ{c:List Int}{d:Int}{r:List Int}(h:c=d::r)(hm:mn c=d):nrm c=c:=by
 grind [nrm,rt]
theorem lS.head{f:Int->Int}{d:Int}{c:List Int}(h:lS f d c):∃ r,c=d::r:=by obtain⟨p,hp,rfl,_,_⟩:=h;obtain⟨q,rfl⟩:∃ q,p=q+1:=⟨p-1,oO⟩;rw[List.range_succ_eq_map];exact⟨_,rfl⟩
theorem IF(c:List Int)(h:c≠[]):∃ r,nrm c=mn c::r:=by
 have hm:=nA h;have dA:=aAO hm;have hl:0<(nrm c).length:=by rw[cA];omega
 have h0:=MD c 0 oO;simp only[Nat.add_zero,aAG dA,aBu]at h0;cases hn:nrm c with
 |nil=>grind
 |cons a r=>grind
theorem rT{R S:Int->Int->Prop}:∀ {l:List Int},(∀ x∈l,∀ y∈l,R x y->S x y)->ncl S l<=ncl R l
 |[],_=>aAl _
 |x::l,h=>by
  have ih:=rT (R:=R) (S:=S) (l:=l) fun a ha b hb=>h a (aAc _ ha) b (aAc _ hb);by_cases hx:∃ y∈l,S y x
  .rw[aV hx];refine aBa ih ?_;simp only[ncl];exact aEb _ _
  .rw[aM hx,aM fun⟨y,hy,hr⟩=>hx ⟨y,hy,h y (aAc _ hy) x aAf hr⟩];omega
theorem Qn{R S:Int->Int->Prop}(hR:Eqv R)(hS:Eqv S){l:List Int}(h:∀ x y,R x y->S x y)(hn:ncl R l<=ncl S l){x y:Int}(hx:x∈l)(hy:y∈l)(hs:S x y):R x y:=by refine aAI fun x9=>?_;have h1:=tJ hR x9 hx hy;have h2:=rT (R:=Eu.Mg R x y) (S:=S) (l:=l) fun a _ b _ k=>Mg.le hS hs h k;omega
theorem oC{α:Type}[DecidableEq α]{R:Int->Int->Prop}(lab:Int->α):∀ {D:List Int},(∀ x∈D,∀ y∈D,R x y->lab x=lab y)->∀ X:List α,X.Nodup->(∀ a∈X,∃ d∈D,lab d=a)->X.length<=ncl R D
 |[],_,X,_,h=>by
  cases X with
  |nil=>exact aBI _
  |cons a X=>obtain⟨d,hd,_⟩:=h a aAf;cases hd
 |d::D,hR,X,hn,h=>by
  have hR':∀ x∈D,∀ y∈D,R x y->lab x=lab y:=fun x hx y hy=>hR x (aAc _ hx) y (aAc _ hy);by_cases hx:∃ y∈D,R y d
  .rw[aV hx];obtain⟨y,hy,hr⟩:=hx;refine oC lab hR' X hn fun a ha=>?_;obtain⟨e,he,rfl⟩:=h a ha;rcases aAe.1 he with rfl|he
   .exact⟨y,hy,hR y (aAc _ hy) _ aAf hr⟩
   .exact⟨e,he,rfl⟩
  .rw[aM hx];have:=oC lab hR' (X.erase (lab d)) (hn.erase _) fun a ha=>by
    obtain⟨h1,h2⟩:=(List.Nodup.mem_erase_iff hn).1 ha;obtain⟨e,he,rfl⟩:=h a h2;rcases aAe.1 he with rfl|he
    .exact absurd rfl h1
    .exact⟨e,he,rfl⟩
   have h2:=List.length_erase_le (a:=lab d) (l:=X);have h3:X.length<=(X.erase (lab d)).length+1:=by rw[List.length_erase];split<;>omega
   omega
structure dB(D:List Int)(f:Int->Int):Prop where
 mem:∀ x∈D,f x∈D
 inj:∀ x y,f x=f y->x=y
 out:∀ x,x∉D->f x=x
theorem dB.per{D:List Int}{f:Int->Int}(h:dB D f):Per f:=QO D h.mem h.inj h.out
theorem dB.sw{D:List Int}{f:Int->Int}(h:dB D f){a b:Int}(ha:a∈D)(hb:b∈D):dB D fun x=>f (Eu.sw a b x):=by
 refine⟨fun x hx=>h.mem _ ?_,fun x y e=>XZ a b (h.inj _ _ e),fun x hx=>?_⟩
 .unfold Eu.sw
  split
  .exact hb
  .split
   .exact ha
   .exact hx
 .rw[sX (fun e=>hx (by rw[e];exact ha)) (fun e=>hx (by rw[e];exact hb))];exact h.out x hx
def swP(s:Int->Int):List (Int×Int)->Int->Int
 |[],x=>s x
 |p::P,x=>swP s P (Eu.sw p.1 p.2 x)
def mgP(R:Int->Int->Prop):List (Int×Int)->Int->Int->Prop
 |[]=>R
 |p::P=>Eu.Mg (mgP R P) p.1 p.2
theorem lM{D:List Int}{s:Int->Int}(hs:dB D s):∀ P:List (Int×Int),(∀ p∈P,p.1∈D/\p.2∈D)->dB D (swP s P)
 |[],_=>hs
 |p::P,h=>(lM hs P fun q hq=>h q (aAc _ hq)).sw (h p aAf).1 (h p aAf).2
theorem dR{R:Int->Int->Prop}(hR:Eqv R):∀ P:List (Int×Int),Eqv (mgP R P)
 |[]=>hR
 |p::P=>Mg.eqv (dR hR P) _ _
theorem fZ{R:Int->Int->Prop}:∀(P:List (Int×Int)) {x y:Int},R x y->mgP R P x y
 |[],_,_,h=>h
 |_::P,_,_,h=>.inl (fZ P h)
theorem jV{R:Int->Int->Prop}(hR:Eqv R):∀(P:List (Int×Int)) {p:Int×Int},p∈P->mgP R P p.1 p.2
 |q::P,p,h=>by
  rcases aAe.1 h with rfl|h
  .exact .inr (.inl ⟨(dR hR P).refl _,(dR hR P).refl _⟩)
  .exact .inl (jV hR P h)
theorem xC{D:List Int}{s:Int->Int}(hs:dB D s):∀ P:List (Int×Int),(∀ p∈P,p.1∈D/\p.2∈D/\p.1≠p.2)->
 (∀ x y,Orb (swP s P) x y->mgP (Orb s) P x y)/\∃ c,2*ncl (mgP (Orb s) P) D+P.length=2*c+ncl (Orb s) D+ncl (Orb (swP s P)) D
 |[],_=>⟨fun _ _ h=>h,0,by have e:ncl (Orb (swP s [])) D=ncl (Orb s) D:=rfl;have e2:ncl (mgP (Orb s) []) D=ncl (Orb s) D:=rfl;rw[e,e2,List.length_nil];omega⟩
 |p::P,h=>by
  obtain⟨h1,c,h2⟩:=xC hs P fun q hq=>h q (aAc _ hq);obtain⟨ha,hb,x8⟩:=h p aAf;have hq:=lM hs P fun q hq=>⟨(h q (aAc _ hq)).1,(h q (aAc _ hq)).2.1⟩;have hq':dB D (swP s (p::P)):=hq.sw ha hb;have W4:∀ x,swP s (p::P) x=swP s P (Eu.sw p.1 p.2 x):=fun _=>rfl;have hE:=dR hs.per.eqv P;have hE':Eqv (mgP (Orb s) (p::P)):=dR hs.per.eqv (p::P);refine⟨fun x y L7=>?_,?_⟩
  .exact Mg.le hE' (jV hs.per.eqv (p::P) aAf) (fun x y k=>.inl (h1 x y k)) (Si hq.per W4 L7)
  .rw[List.length_cons];by_cases ho:Orb (swP s P) p.1 p.2
   .have e1:=rX hq.per hq'.per W4 x8 ha hb ho;have e2:ncl (mgP (Orb s) (p::P)) D=ncl (mgP (Orb s) P) D:=dI fun x _ y _=>Mg.same hE (h1 _ _ ho) x y;exact⟨c,oO⟩
   .have e1:=vH hq.per hq'.per W4 ha hb ho;by_cases hr:mgP (Orb s) P p.1 p.2
    .have e2:ncl (mgP (Orb s) (p::P)) D=ncl (mgP (Orb s) P) D:=dI fun x _ y _=>Mg.same hE hr x y;exact⟨c+1,oO⟩
    .have e2:ncl (mgP (Orb s) P) D=ncl (mgP (Orb s) (p::P)) D+1:=tJ hE hr ha hb;exact⟨c,oO⟩
theorem UO{R:Int->Int->Prop}{D:List Int}(h:∀ x∈D,∀ y∈D,R x y)(h0:D≠[]):ncl R D=1:=by have:=EJ (R:=R) (t:=D) (l:=[]) h (fun _ _ _ hy=>by cases hy);rw[aAS,aAa h0]at this;exact this
theorem Wq{D:List Int}{f:Int->Int}(hf:dB D f){a b:Int}(ha:a∈D)(hb:b∈D):ncl (Orb f) D<=ncl (Orb fun x=>f (Eu.sw a b x)) D+1:=by
 by_cases x8:a=b
 .subst x8;have:(fun x=>f (Eu.sw a a x))=f:=by funext x;unfold Eu.sw;split<;>simp_all
  rw[this];omega
 have hp:=hf.sw ha hb;by_cases ho:Orb f a b
 .have:=rX hf.per hp.per (fun _=>rfl) x8 ha hb ho;omega
 .have:=vH hf.per hp.per (fun _=>rfl) ha hb ho;omega
def sgR(Rs:List (List Int))(d:Int):Int:=match Rs.find? (fun t=>decide (d∈t)) with
 |some t=>nx t d
 |none=>d
theorem mR{Rs:List (List Int)}{d:Int}(h:d∉Rs.flatten):sgR Rs d=d:=by unfold sgR;rw[aCT.2 fun t ht=>by simpa using fun hd=>h (aAT.2 ⟨t,ht,hd⟩)]
theorem JM{Rs:List (List Int)}(hn:Rs.flatten.Nodup){t t':List Int}(ht:t∈Rs)(ht':t'∈Rs){d:Int}(hd:d∈t)(Q6:d∈t'):t=t':=by
 induction Rs with
 |nil=>cases ht
 |cons r Rs ih=>
  rw[List.flatten_cons,aAo]at hn;rcases aAe.1 ht with e|ht
  .rcases aAe.1 ht' with e'|ht'
   .rw[e,e']
   .exact absurd rfl (hn.2.2 d (by rw[<- e];exact hd) d (aAT.2 ⟨t',ht',Q6⟩))
  .rcases aAe.1 ht' with e'|ht'
   .exact absurd rfl (hn.2.2 d (by rw[<- e'];exact Q6) d (aAT.2 ⟨t,ht,hd⟩))
   .exact ih hn.2.1 ht ht'
theorem xJ{Rs:List (List Int)}(hn:Rs.flatten.Nodup){t:List Int}(ht:t∈Rs):t.Nodup:=(aBp ht).nodup hn
theorem gA{Rs:List (List Int)}(hn:Rs.flatten.Nodup){t:List Int}(ht:t∈Rs){d:Int}(hd:d∈t):sgR Rs d=nx t d:=by
 unfold sgR;cases hf:Rs.find? (fun t=>decide (d∈t)) with
 |none=>exact absurd hd (by simpa using aCT.1 hf t ht)
 |some t'=>rw[JM hn (aBY hf) ht (by simpa using aCS hf) hd]
theorem lA{Rs:List (List Int)}(hn:Rs.flatten.Nodup):dB Rs.flatten (sgR Rs):=by
 have j5:∀ x t,t∈Rs->x∈t->sgR Rs x∈t:=fun x t ht hx=>by rw[gA hn ht hx];exact KQ hx
 refine⟨fun x hx=>?_,fun x y e=>?_,fun x hx=>mR hx⟩
 .obtain⟨t,ht,hx⟩:=aAT.1 hx;exact aAT.2 ⟨t,ht,j5 x t ht hx⟩
 .by_cases hx:x∈Rs.flatten
  .obtain⟨t,ht,hx⟩:=aAT.1 hx;by_cases hy:y∈Rs.flatten
   .obtain⟨t',ht',hy⟩:=aAT.1 hy;have h1:=j5 x t ht hx;rw[e]at h1;have:=JM hn ht ht' h1 (j5 y t' ht' hy);subst this;rw[gA hn ht hx,gA hn ht hy]at e;exact RD (xJ hn ht) hx hy e
   .rw[mR hy]at e;exact absurd (aAT.2 ⟨t,ht,by rw[<- e];exact j5 x t ht hx⟩) hy
  .by_cases hy:y∈Rs.flatten
   .obtain⟨t',ht',hy'⟩:=aAT.1 hy;rw[mR hx]at e;exact absurd (aAT.2 ⟨t',ht',by rw[e];exact j5 y t' ht' hy'⟩) hx
   .rw[mR hx,mR hy]at e;exact e
theorem Kh{Rs:List (List Int)}(hn:Rs.flatten.Nodup){t:List Int}(ht:t∈Rs){x:Int}(hx:x∈t):∀ n,it (sgR Rs) n x=it (nx t) n x/\it (sgR Rs) n x∈t
 |0=>⟨rfl,hx⟩
 |n+1=>by obtain⟨h1,h2⟩:=Kh hn ht hx n;rw[bT,bT,<- h1,gA hn ht h2];exact⟨rfl,KQ h2⟩
theorem FJ{Rs:List (List Int)}(hn:Rs.flatten.Nodup){t:List Int}(ht:t∈Rs){x y:Int}(hx:x∈t):Orb (sgR Rs) x y↔y∈t:=by
 constructor
 .rintro⟨n,rfl⟩;exact(Kh hn ht hx n).2
 .intro hy;obtain⟨n,M3⟩:=JT (xJ hn ht) hx hy;exact⟨n,by rw[(Kh hn ht hx n).1,M3]⟩
theorem My{Rs:List (List Int)}(hn:Rs.flatten.Nodup):ncl (Orb (sgR Rs)) Rs.flatten=(Rs.filter fun t=>decide (t≠[])).length:=by
 refine Ci Rs (fun t ht x hx y hy=>(FJ hn ht hx).2 hy) ?_;have key:∀ Rs':List (List Int),Rs'.flatten.Nodup->Rs'.Pairwise fun t t'=>∀ x∈t,x∉t':=by
  intro Rs';induction Rs' with
  |nil=>exact fun _=>.nil
  |cons r Rs' ih=>intro M3;rw[List.flatten_cons,aAo]at M3;refine aBf.2 ⟨fun t ht x hx U9=>M3.2.2 x hx x (aAT.2 ⟨t,ht,U9⟩) rfl,ih M3.2.1⟩
 refine(key Rs hn).imp_of_mem fun {t t'} ht ht' h x hx y hy ho=>?_;exact h x hx ((FJ hn ht' hy).1 ho)
theorem Qx{Rs Rs':List (List Int)}(hn:Rs.flatten.Nodup)(hp:Rs.Perm Rs')(d:Int):sgR Rs d=sgR Rs' d:=by
 have M3:Rs'.flatten.Nodup:=(hp.flatten.nodup_iff).1 hn;by_cases hd:d∈Rs.flatten
 .obtain⟨t,ht,hd⟩:=aAT.1 hd;rw[gA hn ht hd,gA M3 (hp.mem_iff.1 ht) hd]
 .rw[mR hd,mR fun k=>hd (hp.flatten.mem_iff.2 k)]
theorem get_inj{l:List Int}(h:l.Nodup){i j:Nat}(hi:i<l.length)(hj:j<l.length)(e:l[i]=l[j]):i=j:=by
 have:=congrArg l.idxOf e
 rwa [h.idxOf_getElem,h.idxOf_getElem]at this
theorem yA{A B:List Int}(hn:(A++B).Nodup)(hA:A≠[])(hB:B≠[]){x:Int}:(x∈A->nx (A++B) x=if x=A.getLast hA then nx B (B.getLast hB)else nx A x)/\(x∈B->nx (A++B) x=if x=B.getLast hB then nx A (A.getLast hA)else nx B x):=by
 have N6:=(aAo.1 hn).1;have O6:=(aAo.1 hn).2.1;have la:=aBh.2 hA;have lb:=aBh.2 hB;have last:∀(L:List Int) (h:L≠[]),L.Nodup->nx L (L.getLast h)=L[0]'(aBh.2 h):=fun L h hL=>by have:=aBh.2 h;rw[aCv,iD hL];simp[show L.length-1+1=L.length by omega]
 constructor
 .intro hx;obtain⟨k,hk,rfl⟩:=aAA hx;have e:A[k]=(A++B)[k]'(by rw[aAn];omega):=(aCK hk).symm;have hlen:(A++B).length=A.length+B.length:=aAn;rw[last B hB O6];by_cases h:k=A.length-1
  .rw[aAj (by rw[aCv];congr),e,iD hn];have e2:(k+1) % (A++B).length=A.length:=by rw[aAG oO];omega
   simp only[e2];rw[aBB (aAl _)];simp
  .rw[aAa (by rw[aCv];exact fun e3=>h (get_inj N6 _ _ e3)),iD N6,e,iD hn];have e2:(k+1) % (A++B).length=k+1:=aAG oO;have e3:(k+1) % A.length=k+1:=aAG oO;simp only[e2,e3];exact aCK oO
 .intro hx;obtain⟨k,hk,rfl⟩:=aAA hx;have hlen:(A++B).length=A.length+B.length:=aAn;have e:B[k]=(A++B)[A.length+k]'(by omega):=by rw[aBB (aEb _ _)];simp
  rw[last A hA N6];by_cases h:k=B.length-1
  .rw[aAj (by rw[aCv];congr),e,iD hn];have e2:(A.length+k+1) % (A++B).length=0:=by rw[show A.length+k+1=(A++B).length by omega,aDr]
   simp only[e2];exact aCK la
  .rw[aAa (by rw[aCv];exact fun e3=>h (get_inj O6 _ _ e3)),iD O6,e,iD hn];have e2:(A.length+k+1) % (A++B).length=A.length+(k+1):=by rw[aAG oO];omega
   have e3:(k+1) % B.length=k+1:=aAG oO;simp only[e2,e3];rw[aBB (aEb _ _)];simp
theorem VC{A B:List Int}{Rs:List (List Int)}(hn:(A::B::Rs).flatten.Nodup)(hA:A≠[])(hB:B≠[])(d:Int):sgR ((A++B)::Rs) d=sgR (A::B::Rs) (Eu.sw (A.getLast hA) (B.getLast hB) d):=by
 have hf:((A++B)::Rs).flatten=(A::B::Rs).flatten:=sS;have M3:((A++B)::Rs).flatten.Nodup:=by rw[hf];exact hn
 have x8:(A++B).Nodup:=xJ M3 aAf;have hdis:=(aAo.1 x8).2.2;have mA:=List.getLast_mem hA;have mB:=List.getLast_mem hB;by_cases hdA:d∈A
 .rw[gA M3 aAf (aAr _ hdA),(yA x8 hA hB).1 hdA];by_cases e:d=A.getLast hA
  .rw[aAj e,e,DH,gA hn (t:=B) sS mB]
  .rw[aAa e,sX e (fun k=>hdis d hdA _ mB k),gA hn (t:=A) sS hdA]
 .by_cases hdB:d∈B
  .rw[gA M3 aAf (aAx _ hdB),(yA x8 hA hB).2 hdB];by_cases e:d=B.getLast hB
   .rw[aAj e,e,JK,gA hn (t:=A) sS mA]
   .rw[aAa e,sX (fun k=>hdA (by rw[k];exact mA)) e,gA hn (t:=B) sS hdB]
  .rw[sX (fun k=>hdA (by rw[k];exact mA)) (fun k=>hdB (by rw[k];exact mB))];unfold sgR;rw[aCX (sF2 hdA hdB),aCX (sF1 hdA),aCX (sF1 hdB)]
end Aw
end Go.Proofs.YtbgngpdonpeboaaGreatDoor
