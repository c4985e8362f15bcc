/- plane: Around. -/
import Derived.Test.YtempldclppogmaaGreatDoorJh
import Derived.Test.YtempldclppogmaaGreatDoorAwMr2
import Derived.RangeFuncSeq
import Derived.Maps.RangeWalk
import Derived.Test.YtempldclppogmaaGreatDoorAwRg
import Derived.Test.YtempldclppogmaaGreatDoorAwGo
set_option linter.unusedVariables false
set_option linter.unusedSimpArgs false
set_option maxHeartbeats 2000000
open Go.Proofs.Tryz
namespace Go.Proofs.YtempldclppogmaaGreatDoor
namespace Aw
open Go Go.RowKit Pl
abbrev Tn:=List (Int×List (Int×Int))
def oQ(x y:Int):List (Int×Int)->List (Int×Int)
 |[]=>[(x,y)]
 |p::P=>if p.1=x then(x,y)::P else p::oQ x y P
def gN(v x y:Int):Tn->Tn
 |[]=>[(v,[(x,y)])]
 |a::A=>if a.1=v then(v,oQ x y a.2)::A else a::gN v x y A
def iW(n k:Nat):Nat:=if k=0 then n-1 else k-1
def jF(r:List Int)(A:Tn):Nat->Tn
 |0=>A
 |j+1=>gN (r.getD j 0) (r.getD (iW r.length j) 0) (r.getD ((j+1) % r.length) 0) (jF r A j)
def aY(R:List (List Int)):Tn:=R.foldl (fun A r=>jF r A r.length) []
def inL(P:List (Int×Int)):List (List Int×LV):=P.map fun p=>([p.1],u p.2)
theorem EZ(x y:Int):∀ P,bQ (inL P) [x] (u y)=inL (oQ x y P)
 |[]=>rfl
 |p::P=>by
  have ih:=EZ x y P;unfold oQ;simp only[inL,aAj,bQ,aBj,aDo]at ih ⊢;by_cases h:p.1=x
  .rw[aAe h,aAe (by simp[h])];rfl
  .rw[aAa h,aAa (by simpa using fun e=>h e.symm),ih];rfl
def ouL(A:Tn)(loc:Int->Nat):List (List Int×LV):=A.map fun a=>([a.1],.mp (loc a.1))
structure MM(A:Tn)(loc:Int->Nat)(o:Nat)(lo st:St):Prop where
 out:st.H o=.map false [.u32] (ouL A loc)
 olt:lo.next<=o/\o<st.next
 inn:∀ a∈A,st.H (loc a.1)=.map false [.u32] (inL a.2)/\(lo.next<=loc a.1/\loc a.1≠o)/\loc a.1<st.next
 inj:∀ a∈A,∀ b∈A,loc a.1=loc b.1->a.1=b.1
 nd:(A.map (·.1)).Nodup
 kp:aA lo st
theorem EA(A:Tn)(loc:Int->Nat)(v:Int):bR (ouL A loc) [v]=if v∈A.map (·.1)then some (.mp (loc v))else none:=by
 induction A with
 |nil=>rfl
 |cons a A ih=>
  simp only[ouL,aAj,bR,aAf]at ih ⊢;by_cases h:a.1=v
  .rw[aAe (by simp[h]),aAe (.inl h.symm),h]
  .rw[aAa (by simpa using fun e=>h e.symm),ih];have:¬v=a.1:=fun e=>h e.symm;simp only[this,false_or]
theorem Sn{A:Tn}{v:Int}(loc:Int->Nat)(l:Nat)(h:v∉A.map (·.1)):bQ (ouL A loc) [v] (.mp l)=ouL (A++[(v,[])]) (fun x=>if x=v then l else loc x):=by
 rw[BV]
 .unfold ouL;rw[aAv]
  congr 1
  .refine aAW fun a ha=>?_;have:a.1≠v:=fun e=>h (e ▸ aAm.2 ⟨a,ha,rfl⟩);simp only[aAa this]
  .simp
 .intro hm;obtain⟨q,hq,e⟩:=aAm.1 hm;obtain⟨a,ha,rfl⟩:=aAm.1 hq;simp only[aBj,aDo]at e;exact h (e ▸ aAm.2 ⟨a,ha,rfl⟩)
theorem MM.add{A:Tn}{loc:Int->Nat}{o:Nat}{lo s:St}(h:MM A loc o lo s){v:Int}(hv:v∉A.map (·.1)):
 MM (A++[(v,[])]) (fun x=>if x=v then s.next else loc x) o lo ((s.new (.map false [.u32] [])).set o (.map false [.u32] (ouL (A++[(v,[])]) (fun x=>if x=v then s.next else loc x)))):=by
 obtain⟨h1,h2,h3,h4,h5,h6⟩:=h;have Wx:∀ a∈A,a.1≠v:=fun a ha e=>hv (e ▸ aAm.2 ⟨a,ha,rfl⟩);have hn:=h6.next;refine⟨sS,⟨h2.1,by simp;omega⟩,fun a ha=>?_,fun a ha b hb e=>?_,?_,(h6.trans (aA.new _ _)).set h2.1 _⟩
 .rcases aAg.1 ha with ha|ha
  .obtain⟨k1,k2,k3⟩:=h3 a ha;simp only[aAa (Wx a ha)];have e1:¬loc a.1=o:=k2.2;refine⟨?_,k2,by simp;omega⟩;rw[bN,aAa e1,cB,aAa oO];exact k1
  .rw[aAl]at ha;subst ha;simp only[aBn];refine⟨?_,⟨hn,oO⟩,sS⟩;rw[bN,aAa oO,cB,aAe rfl];rfl
 .rcases aAg.1 ha with ha|ha
  .rcases aAg.1 hb with hb|hb
   .simp only[aAa (Wx a ha),aAa (Wx b hb)]at e;exact h4 a ha b hb e
   .rw[aAl]at hb;subst hb;simp only[aAa (Wx a ha),aBn]at e;have:=(h3 a ha).2.2;omega
  .rw[aAl]at ha;subst ha;rcases aAg.1 hb with hb|hb
   .simp only[aAa (Wx b hb),aBn]at e;have:=(h3 b hb).2.2;omega
   .rw[aAl]at hb;subst hb;rfl
 .rw[aAv,aAs];refine⟨h5,sS,fun a ha b hb e=>?_⟩;simp only[aAj,aBz,aAl]at hb;subst hb;subst e;exact hv ha
theorem Cw(v x y:Int):∀ A:Tn,v∈A.map (·.1)->(gN v x y A).map (·.1)=A.map (·.1)
 |a::A,h=>by
  unfold gN;by_cases e:a.1=v
  .rw[aAe e];simp[e]
  .rw[aAa e,aAj,aAj,Cw v x y A];simp only[aAj,aAf]at h;exact h.resolve_left fun h=>e h.symm
theorem FI{v x y:Int}{P:List (Int×Int)}:∀ {A:Tn},(A.map (·.1)).Nodup->(v,P)∈A->∀ a,a∈gN v x y A->a=(v,oQ x y P)\/(a∈A/\a.1≠v)
 |b::A,hn,h,a,ha=>by
  obtain⟨n1,n2⟩:=aAD.1 (by simpa using hn:(b.1::A.map (·.1)).Nodup);unfold gN at ha;by_cases e:b.1=v
  .rw[aAe e]at ha;have hb:(v,P)=b:=by
    rcases aAf.1 h with h|h
    .exact h
    .exact absurd (aAm.2 ⟨_,h,rfl⟩) (e ▸ n1)
   subst hb;rcases aAf.1 ha with ha|ha
   .exact .inl ha
   .exact .inr ⟨aAk _ ha,fun h2=>n1 (aAm.2 ⟨a,ha,h2⟩)⟩
  .rw[aAa e]at ha;rcases aAf.1 ha with ha|ha
   .exact .inr ⟨by simp[ha],by rw[ha];exact e⟩
   .have h2:(v,P)∈A:=by
     rcases aAf.1 h with h|h
     .exact absurd (by rw[<- h]) e
     .exact h
    rcases FI n2 h2 a ha with h3|⟨h3,h4⟩
    .exact .inl h3
    .exact .inr ⟨aAk _ h3,h4⟩
theorem Fg(v x y:Int):∀ A:Tn,v∉A.map (·.1)->gN v x y (A++[(v,[])])=gN v x y A
 |[],_=>by simp[gN,oQ]
 |a::A,h=>by simp only[aAj,aAf,aCv]at h;have e:¬a.1=v:=fun e=>h.1 e.symm;simp only[List.cons_append,gN,aAa e,Fg v x y A h.2]
theorem MM.put{A:Tn}{loc:Int->Nat}{o:Nat}{lo s:St}(h:MM A loc o lo s){v x y:Int}{P:List (Int×Int)}(hv:(v,P)∈A):
 MM (gN v x y A) loc o lo (s.set (loc v) (.map false [.u32] (inL (oQ x y P)))):=by
 obtain⟨h1,h2,h3,h4,h5,h6⟩:=h;have hk:=Cw v x y A (aAm.2 ⟨_,hv,rfl⟩);obtain⟨k1,k2,k3⟩:=h3 _ hv;have Xt:∀ a∈gN v x y A,∃ b∈A,b.1=a.1:=fun a ha=>by
  have:a.1∈A.map (·.1):=by rw[<- hk];exact aAm.2 ⟨a,ha,rfl⟩
  obtain⟨b,hb,e⟩:=aAm.1 this;exact⟨b,hb,e⟩
 have ho:ouL (gN v x y A) loc=ouL A loc:=by
  have e:∀ B:Tn,ouL B loc=(B.map (·.1)).map fun k=>([k],LV.mp (loc k)):=fun B=>by simp[ouL]
  rw[e,e,hk]
 have e1:¬o=loc v:=fun e=>k2.2 e.symm;refine⟨?_,⟨h2.1,h2.2⟩,fun a ha=>?_,fun a ha b hb e=>?_,by rw[hk];exact h5,h6.set k2.1 _⟩
 .rw[bN,aAa e1,h1,ho]
 .rcases FI h5 hv a ha with rfl|⟨ha,Wx⟩
  .exact⟨sS,k2,k3⟩
  .obtain⟨q1,q2,q3⟩:=h3 a ha;refine⟨?_,q2,q3⟩;rw[bN,aAa fun e=>Wx (h4 a ha _ hv e)];exact q1
 .obtain⟨a2,ha2,ea⟩:=Xt a ha;obtain⟨b2,c7,eb⟩:=Xt b hb;rw[<- ea,<- eb]at e ⊢;exact h4 a2 ha2 b2 c7 e
theorem Pu(R:List (List Int))(st:St)(hR:R.length<=300)(hr:∀ r∈R,r.length<=1000):
 aB prog 45 [.sl 0 R.length (dU R)] st fun r st'=>∃ o loc,r=.mp o/\MM (aY R) loc o st st':=by
 refine zN func45 ntmps45 [.tmp 2] ?_
 (repeat' (first|apply qS|apply qB|(refine zE ?_;intro J hJ;simp[];refine zJ hJ ?_)))
 have e0:st.next<st.next+1:=oO;refine bE 12 11 13 50 (R.length) (fun j fr st2=>fr 3=.mp st.next/\fr 10=.sl 0 R.length (dU R)/\∃ loc,MM ((R.take j).foldl (fun A r=>jF r A r.length) []) loc st.next st st2) ?_ ?_ ?_
 .exact⟨sS,sS,fun _=>0,by simp[ouL],sS,sS,sS,sS,aA.new _ _⟩
 .rintro j0 fr s dN ⟨f3,f10,loc,hM⟩ fi fn JO hJO;have hd:=kQ R j0 dN;have YP:(R.take (j0+1)).foldl (fun A r=>jF r A r.length) []=jF (R.getD j0 []) ((R.take j0).foldl (fun A r=>jF r A r.length) []) (R.getD j0 []).length:=by have h1:R.take (j0+1)=R.take j0++[R[j0]]:=aAn dN;rw[h1,aBo,aAc,aAd dN];rfl
  have hl:(R.getD j0 []).length<=1000:=hr _ (by rw[aAc,aAd dN];exact aAu _);generalize (R.take j0).foldl (fun A r=>jF r A r.length) []=A0 at *;generalize R.getD j0 []=r at *;have w1:IntKind.i64.wrap ((r.length:Int)-1)=(r.length:Int)-1:=zW
  (repeat' (first|apply qS|apply qB|(refine zE ?_;intro J hJ;simp[f3,f10,fi,fn,dN,hd,w1];refine zJ hJ ?_)))
  have z8:∀ loc' Xj s',Xj 3=.mp st.next->Xj 10=.sl 0 R.length (dU R)->Xj 12=i j0->Xj 11=i R.length->MM (jF r A0 r.length) loc' st.next st s'->JO Xj s':=fun loc' Xj s' g1 g2 g3 g4 g5=>hJO _ _ g3 g4 ⟨by simp[g1],by simp[g2],loc',by rw[YP];exact g5⟩;clear hJO YP;refine bE 21 20 22 49 (r.length) (fun j fr st2=>(fr 3=.mp st.next/\fr 10=.sl 0 R.length (dU R)/\fr 12=i j0/\fr 11=i R.length)/\fr 5=.sl 0 r.length (us r)/\fr 19=.sl 0 r.length (us r)/\fr 6=i (if j=0 then(r.length:Int)-1 else(j:Int)-1)/\∃ loc,MM (jF r A0 j) loc st.next st st2) ?_ ?_ ?_
  .exact⟨⟨by simp[f3],by simp[f10],by simp[fi],by simp[fn]⟩,sS,sS,sS,loc,hM⟩
  .clear f3 f10 fi fn hM loc s fr;rintro k fr s Zf ⟨⟨f3,f10,f12,f11⟩,f5,f19,f6,loc,hM⟩ fi fn JO2 hJO2;have V3:=qG r k Zf;have hpk:iW r.length k<r.length:=by unfold iW;split<;>omega
   have hpi:(if k=0 then(r.length:Int)-1 else(k:Int)-1)=((iW r.length k:Nat):Int):=by unfold iW;split<;>omega
   rw[hpi]at f6;have hdp:=qG r (iW r.length k) hpk;have hmod:((k:Int)+1).tmod (r.length:Int)=(((k+1) % r.length:Nat):Int):=by rw[aDq oO];exact(Int.natCast_emod _ _).symm
   have ZK:(k+1) % r.length<r.length:=aCj _ oO;have hdm:=qG r ((k+1) % r.length) ZK;have hw:IntKind.i64.wrap ((k:Int)+1)=(k:Int)+1:=zW;have p9:jF r A0 (k+1)=gN (r.getD k 0) (r.getD (iW r.length k) 0) (r.getD ((k+1) % r.length) 0) (jF r A0 k):=rfl;generalize jF r A0 k=A at *;generalize iW r.length k=pk at *;generalize (k+1) % r.length=mk' at *;generalize r.getD k 0=v at *;generalize r.getD pk 0=x at *;generalize r.getD mk' 0=y at *;have G1:¬(r.length:Int)=0:=oO;have hrn:¬r=[]:=fun e=>by rw[e]at Zf;simp at Zf
   have hpk':(pk:Int)<r.length:=oO;have Q1:(mk':Int)<r.length:=oO;have hH:=hM.out;have hg:=EA A loc v;by_cases hv:v∈A.map (·.1)
   .rw[aAe hv]at hg;obtain⟨⟨v',P⟩,hP,rfl⟩:=aAm.1 hv;simp only at hg p9 V3;have hI:=(hM.inn _ hP).1;have D3:=EZ x y P;have Zx:=hM.put (x:=x) (y:=y) hP;simp only at hI;generalize loc v'=lv at *
    (repeat' (first|apply qS|refine qK (zZ ?_)|(apply qC;simp[f3,f5,f19,f6,fi,fn,Zf,V3,hH,hg])|(refine zE ?_;intro J hJ;simp[f3,f5,f19,f6,fi,fn,Zf,V3,hH,hg];refine zJ hJ ?_)))
    (refine zS [] [st.next,lv] [0,2,4,6,8,10,12,14,16,18,20,22,24,26,28,31] ?_;intro J hJ;simp[f3,f5,f19,f6,fi,fn,Zf,V3,hdp,hdm,hpk,ZK,hpk',Q1,G1,hrn,hw,hmod,hH,hg,hI];refine zJ hJ ?_)
    rw[D3]
    (repeat' (refine zE ?_;intro J hJ;simp[];refine zJ hJ ?_))
    refine hJO2 _ _ (by simp[fi]) (by simp[fn]) ⟨⟨by simp[f3],by simp[f10],by simp[f12],by simp[f11]⟩,by simp[f5],by simp[f19],sS,loc,?_⟩;rw[p9];exact Zx
   .rw[aAa hv]at hg;have c1:¬st.next=s.next:=by have:=hM.olt;omega
    have K0:=hM.add hv;have Zk:=Sn loc s.next hv;have hpa:=Fg v x y A hv
    (repeat' (first|apply qS|(apply qC;simp[f3,f5,f19,f6,fi,fn,Zf,V3,hH,hg,c1])|(refine zE ?_;intro J hJ;simp[f3,f5,f19,f6,fi,fn,Zf,V3,hH,hg,c1];refine zJ hJ ?_)))
    rw[Zk];generalize (s.new (.map false [.u32] [])).set st.next (.map false [.u32] (ouL (A++[(v,[])]) fun x=>if x=v then s.next else loc x))=s1 at *;generalize G3:(fun x=>if x=v then s.next else loc x)=loc1 at *;have hP:(v,[])∈A++[(v,([]:List (Int×Int)))]:=sS;have hH:=K0.out;have hg:=EA (A++[(v,[])]) loc1 v;rw[aAe sS]at hg;have hI:=(K0.inn _ hP).1;have D3:=EZ x y [];have Zx:=K0.put (x:=x) (y:=y) hP;rw[hpa]at Zx;simp only at hI;generalize A++[(v,([]:List (Int×Int)))]=A1 at *;generalize loc1 v=lv at *;clear hM
    (refine zS [] [st.next,lv] [0,2,4,6,8,10,12,14,16,18,20,22,24,26,28,31] ?_;intro J hJ;simp[f3,f5,f19,f6,fi,fn,Zf,V3,hdp,hdm,hpk,ZK,hpk',Q1,G1,hrn,hw,hmod,hH,hg,hI];refine zJ hJ ?_)
    rw[D3]
    (repeat' (refine zE ?_;intro J hJ;simp[];refine zJ hJ ?_))
    refine hJO2 _ _ (by simp[fi]) (by simp[fn]) ⟨⟨by simp[f3],by simp[f10],by simp[f12],by simp[f11]⟩,by simp[f5],by simp[f19],sS,loc1,?_⟩;rw[p9];exact Zx
  .clear f3 f10 fi fn hM loc s fr;rintro fr s ⟨⟨f3,f10,f12,f11⟩,f5,f19,f6,loc,hM⟩
   skip
   exact z8 loc _ _ (by simp[f3]) (by simp[f10]) (by simp[f12]) (by simp[f11]) hM
 .rintro fr s ⟨f3,f10,loc,hM⟩;rw[aAQ]at hM
  (repeat' (first|apply qS|(refine qR (zZ ?_);simp[f3])|(refine zE ?_;intro J hJ;simp[f3];refine zJ hJ ?_)))
  exact⟨_,hM⟩
end Aw
namespace Rg
open Go Go.RowKit Go.Shelf
open Go.ChangeMaps (setBlock)
attribute [local go_sem] Oper.semAt_some
section
variable {F:Fence} {n:Nat} {P:Program} (w:World) {ops:Array Oper} {rest:List Oper} {o:Oper} {a:Act} {Q:Exit->Act->World->Prop}
theorem oJ(hg:o.guard=none)(m:Operand)(t k e:TypeId)(u7:o.op=Op.range t m)(ht:P.underlying t=some (.map k e))(b:Nat)(Gz:Array MapEntry)(clock:Nat)(hm:a.eval m=.map (some b))(hb:w.heap[b]?=some (.map Gz clock))
 (hK:∀ w',w'=w.alloc (.mapIter (some b) clock #[] clock)->wpListIn F n P ops Q rest (a.put o.dst (.pointer (some ⟨w.heap.size,0,none⟩))) w'):wpListIn F n P ops Q (o::rest) a w:=by
 refine wpListIn_plain hg fun K' hK'=>?_;have Xv:=run_range_map (P:=P) w t k e b Gz clock ht hb;unfold Oper.wpIn;refine⟨?_,?_⟩
 .simp[Oper.about,u7]
 .rw[Oper.semAt_plain F _ _ (by rw[u7];intro c x8;cases x8)];simp[execOp,u7,hm,Xv,Result.andThen];exact hK' _ _ (hK _ rfl)
theorem oU(hg:o.guard=none)(it:Operand)(u7:o.op=Op.next it false)(r b clock c:Nat)(seen:Array Nat)(Gz:Array MapEntry)(hit:a.eval it=.pointer (some ⟨r,0,none⟩))(hi:w.heap[r]?=some (.mapIter (some b) clock seen c))(hb:w.heap[b]?=some (.map Gz clock))
 (ZY:∀ x∈Gz.toList,x.born<clock) (hnd:(Gz.toList.map (·.born)).Nodup) (hc:clock<=c)
 (hDone:(∀ x∈Gz.toList,seen.contains x.born=true)->wpListIn F n P ops Q rest (a.put o.dst (.tuple #[.bool false])) w)
 (hMore:∀(e:MapEntry) (w1 w2:World),e∈Gz.toList->seen.contains e.born=false->(w1=w\/w1=w.drew)->w2=setBlock w1 r (.mapIter (some b) clock (seen.push e.born) clock)->(Instr.entry (.pointer (some ⟨r,0,none⟩))).run P w2=.ok (.tuple #[e.key,e.val]) w2->wpListIn F n P ops Q rest (a.put o.dst (.tuple #[.bool true,e.key,e.val])) w2):
 wpListIn F n P ops Q (o::rest) a w:=by
 refine wpListIn_plain hg fun K' hK'=>?_;unfold Oper.wpIn;refine⟨by simp[Oper.about,u7],?_⟩;rw[Oper.semAt_plain F _ _ (by rw[u7];intro c x8;cases x8)];rcases run_next_at (P:=P) w o.type r b clock c seen Gz clock hi hb ZY hc with⟨h0,Xv⟩|⟨e,G6,w1,ZE,Xv⟩
 .simp[execOp,u7,hit,Xv,Result.andThen];exact hK' _ _ (hDone fun x hx=>all_seen Gz seen h0 x hx)
 .obtain⟨B7,he2⟩:=mem_left G6;have lr:=(aAt.1 hi).1;have hbr:b≠r:=by rintro rfl;rw[hb]at hi;cases hi
  have hh:w1.heap=w.heap:=by rcases ZE with rfl|rfl<;>rfl
  have hE:=run_entry_at (P:=P) (setBlock w1 r (.mapIter (some b) clock (seen.push e.born) clock)) r b clock seen Gz clock e
   (by simp only[setBlock];rw[aBg,aAe rfl,aAe (by rw[hh];exact lr)]) (by simp only[setBlock];rw[aBg,aAa (fun e=>hbr e.symm),hh];exact hb) B7 hnd
  simp[execOp,u7,hit,Xv,Result.andThen];exact hK' _ _ (hMore e w1 _ B7 he2 ZE rfl hE)
end
theorem DP(w w1:World)(h:w1=w\/w1=w.drew)(r:Nat)(o:Obj):w.grownBy (setBlock w1 r o) (some r):=by
 have hh:w1.heap=w.heap:=by rcases h with rfl|rfl<;>rfl
 have hos:w1.os=w.os/\w1.tape=w.tape/\w1.output=w.output:=by rcases h with rfl|rfl<;>exact⟨rfl,rfl,rfl⟩
 refine⟨hos.1,hos.2.1,hos.2.2,by simp[setBlock,hh],fun b hb Wx=>?_⟩;simp only[setBlock];rw[aBg,aAa (fun e=>Wx (by rw[e])),hh]
def tM(vs:List Int)(Gz:List MapEntry)(seen:Array Nat):List Int:=(Aw.lft (vs.map fun v=>([v],.dead)) Gz seen).map fun e=>e.1.headD 0
theorem Ac{vs:List Int}{Gz:List MapEntry}(h:vs.length=Gz.length):tM vs Gz #[]=vs:=by unfold tM;rw[Aw.vU (by simpa using h),aBf];exact(aAW fun v _=>rfl).trans (aEU vs)
theorem DU{vs:List Int}{Gz:List MapEntry}{seen:Array Nat}{e:MapEntry}(h:vs.length=Gz.length)(Yf:Gz.map (·.key)=vs.map (Value.int .u32))(hn:(Gz.map (·.born)).Nodup)(he:e∈Gz)(hs:seen.contains e.born=false):
 ∃ x L1 L2,e.key=.int .u32 x/\tM vs Gz seen=L1++x::L2/\tM vs Gz (seen.push e.born)=L1++L2:=by
 obtain⟨p,L1,L2,h1,h2,h3⟩:=Aw.HZ (es:=vs.map fun v=>(([v],.dead):List Int×Aw.LV)) (by simpa using h) hn he hs;have hz:∀ q∈(vs.map fun v=>(([v],.dead):List Int×Aw.LV)).zip Gz,∃ x,q.1=([x],.dead)/\q.2.key=.int .u32 x:=by intro q hq;obtain⟨j,hj,rfl⟩:=aEF.1 hq;simp only[List.length_zip,aAA]at hj;rw[List.getElem_zip,aCn];refine⟨vs[j],rfl,?_⟩;have:=congrArg (fun l=>l[j]?) Yf;simp only[aBL,aAd (show j<Gz.length by omega),aAd (show j<vs.length by omega),Option.map_some,aAb]at this;exact this
 obtain⟨x,hx,hk⟩:=hz _ h3;simp only at hx hk;subst hx;exact⟨x,L1.map (fun e=>e.1.headD 0),L2.map (fun e=>e.1.headD 0),hk,by unfold tM;rw[h1];simp,by unfold tM;rw[h2];simp⟩
theorem DN{vs:List Int}{Gz:List MapEntry}{seen:Array Nat}(h:∀ x∈Gz,seen.contains x.born=true):tM vs Gz seen=[]:=by unfold tM;rw[Aw.FW h];rfl
def wW(W:World)(b:Nat)(vs:List Int):Prop:=∃(Gz:List MapEntry) (clock:Nat),W.heap[b]?=some (.map Gz.toArray clock)/\Gz.map (·.key)=vs.map (Value.int .u32)/\(∀ x∈Gz,x.born<clock)/\(Gz.map (·.born)).Nodup
theorem KeepsOthers.walks{W W':World}(h:KeepsOthers W W'):KeepsWalks W W':=⟨h.size,fun k o hk hw=>h.same k o hk (by cases o<;>first|rfl|cases hw)⟩
set_option maxRecDepth 100000 in
theorem SC(F:Fence)(n:Nat)(h7:F.fn 80)(o7:F.round=none)(hn:1<=n)(l Bm b:Nat)(vs:List Int)(W:World)(J Jx:List Int->World->Prop)(hJ:AbidesFrom W.heap.size J)
 (hY:∀ pre x W1,J pre W1->pre.length<vs.length->YieldAt F (n-1) prog l #[.int .u32 x] W1 fun e W'=>
   (e=.returned (.bool true)/\J (pre++[x]) W'/\KeepsWalks W1 W')\/(e=.returned (.bool false)/\Jx (pre++[x]) W'))
 (hm:W.cell? ⟨Bm,0,none⟩=some (.map (some b))) (hB:wW W b vs) (h0:J [] W):
 CallsIn F n prog 80 #[.func (.yield l) #[] #[],.pointer (some ⟨Bm,0,none⟩)] W fun e W'=>(∃ v,e=.returned v)/\
  ((∃ ys:List Int,ys.Perm vs/\J ys W')\/(∃ pre,True/\Jx pre W')):=by
 obtain⟨Gz,clock,hb,Yf,ZY,hnd⟩:=hB;have hlen:vs.length=Gz.length:=by have:=congrArg List.length Yf;simpa using this.symm
 have lb:=(aAt.1 hb).1;refine callsIn_of_wp func80 rfl h7 ?_ o7;simp only[ntmps80,aBd,List.length_cons,List.length_nil,Nat.reduceAdd,Nat.reduceSub,aBF,Array.replicate_zero,aBQ,aBJ,List.nil_append,List.cons_append]
 gi_wp2_with (first
  |(refine oJ _ rfl _ 80 _ _ rfl underlying80 b Gz.toArray clock rfl hb ?_;intro w0 H8)
  |gi_in)
 go_frame
 have hI0:w0.heap[W.heap.size]?=some (.mapIter (some b) clock #[] clock):=by rw[H8];exact World.alloc_heap_new _ _
 have O9:w0.heap[b]?=some (.map Gz.toArray clock):=by rw[H8];exact(Below.heap_alloc _ _ b lb).trans hb
 have hg0:W.grownBy w0 none:=by rw[H8];exact World.grownBy_alloc W _ none
 have z8:J [] w0:=hJ [] W w0 none h0 hg0 (fun r e=>by cases e);clear H8 hg0
 gi_loopw [3] (fun _ wr=>∃(seen:Array Nat) (c:Nat) (ss:List Int),clock<=c/\wr.heap[W.heap.size]?=some (.mapIter (some b) clock seen c)/\wr.heap[b]?=some (.map Gz.toArray clock)/\(ss++tM vs Gz seen).Perm vs/\J ss wr)
  (fun _ wr=>match wr.heap[W.heap.size]? with|some (.mapIter _ _ seen _)=>(tM vs Gz seen).length|_=>0)
 case atStart=>exact⟨#[],clock,[],aAi _,hI0,O9,by rw[Ac hlen];exact .refl _,z8⟩
 case round=>
  obtain⟨seen,c,ss,V5,hit,hbm,Xi,hJs⟩:=hrel
  gi_wp2_with (first
   |(refine oU _ rfl _ rfl W.heap.size b clock c seen Gz.toArray rfl hit hbm (fun x hx=>ZY x (by simpa using hx)) (by simpa using hnd) V5 ?_ ?_)
   |gi_in)
  .intro hall;have Yc:tM vs Gz seen=[]:=DN fun x hx=>by simpa using hall x (by simpa using hx)
   rw[Yc,aAP]at Xi
   gi_wp2
   go_end0
   exact⟨⟨_,rfl⟩,.inl ⟨ss,Xi,hJs⟩⟩
  .intro e w1 w2 he hs ZE ZP hen;obtain⟨x,L1,L2,hx,hL1,N5⟩:=DU (seen:=seen) hlen Yf hnd (by simpa using he) (by simpa using hs);have B6:wr.grownBy w2 (some W.heap.size):=by rw[ZP];exact DP wr w1 ZE _ _
   have v8:J ss w2:=hJ ss wr w2 (some W.heap.size) hJs B6 (fun r e=>by cases e;exact⟨aAi _,_,hit,rfl⟩);have hh:w1.heap=wr.heap:=by rcases ZE with rfl|rfl<;>rfl
   have Wx:b≠W.heap.size:=oO;have hit2:w2.heap[W.heap.size]?=some (.mapIter (some b) clock (seen.push e.born) clock):=by rw[ZP];simp only[setBlock];rw[aBg,aAe rfl,aAe (by rw[hh];exact(aAt.1 hit).1)]
   have hbm2:w2.heap[b]?=some (.map Gz.toArray clock):=by rw[ZP];simp only[setBlock];rw[aBg,aAa (fun e=>Wx e.symm),hh];exact hbm
   have dN:ss.length<vs.length:=by have:=Xi.length_eq;rw[hL1]at this;simp at this;omega
   obtain⟨fn,tmps,assign,body,hy,hR⟩:=hY ss x w2 v8 dN;rw[hx]at hen ⊢;clear ZP B6
   gi_wp2
   refine hR.mono ?_;rintro e3 W3 (⟨rfl,hJ3,Xq⟩|⟨rfl,hJx3⟩)
   .gi_wp2
    have hit3:=Xq.same _ _ hit2 rfl;have hbm3:=Xq.same _ _ hbm2 rfl
    go_roundw
    case rel=>exact⟨seen.push e.born,clock,ss++[x],aAi _,hit3,hbm3,by
     rw[N5];rw[hL1]at Xi;refine List.Perm.trans ?_ Xi;rw[aAF];refine aBT _ ?_;rw[List.singleton_append]
     exact aBW.symm,hJ3⟩
    case measure=>
     rw[hit3,hit];simp only[hL1,N5,aAh,List.length_cons];omega
   .gi_wp2
    refine bodyPost_ret (results_none rfl _ _ _) rfl ?_;exact⟨⟨_,rfl⟩,.inr ⟨_,trivial,hJx3⟩⟩
theorem GH(F:Fence)(n:Nat)(h7:F.fn 80)(o7:F.round=none)(hn:1<=n)(Bm b:Nat)(vs:List Int)(w:World)(hBm:Bm<w.heap.size)(hm:w.cell? ⟨Bm,0,none⟩=some (.map (some b)))(hB:wW w b vs):
 SeqStopsK F n prog 80 #[.pointer (some ⟨Bm,0,none⟩)] (fun x:Int=>#[Value.int .u32 x]) KeepsWalks (fun ys=>ys.Perm vs) (fun _=>True) vs.length w:=fun l J Jx W hW hJ _ hY h0=>by
 have x8:=(hW.cell (p:=⟨Bm,0,none⟩) hBm).trans hm;have X6:wW W b vs:=by obtain⟨Gz,clock,hb,h⟩:=hB;exact⟨Gz,clock,(hW.block b (aAt.1 hb).1).trans hb,h⟩
 exact SC F n h7 o7 hn l Bm b vs W J Jx hJ hY x8 X6 h0
set_option maxRecDepth 100000 in
theorem Ew(F:Fence)(n:Nat)(h3:F.fn 121)(h7:F.fn 80)(o7:F.round=none)(hn:3<=n)(Bm b:Nat)(vs:List Int)(hlen:vs.length<=1048576)(w:World)(hBm:Bm<w.heap.size)
 (hm:w.cell? ⟨Bm,0,none⟩=some (.map (some b))) (hB:wW w b vs):
 CallsIn F n prog 121 #[.slice none 0 0,.func (.func 80) #[] #[.pointer (some ⟨Bm,0,none⟩)]] w fun e W'=>∃ v ys,e=.returned v/\List.Perm ys vs/\W'.ownsRow w.heap.size 34 1 v ys.length (ys.map (Value.int .u32))/\Below w.heap.size w W':=by
 have h1:1<=n:=oO;obtain⟨i0,hi,F4,hz1,hz2⟩:=info_parts Ni;refine callsIn_of_wp_marks func121 rfl h3 ?_ o7;simp only[ntmps121,aBd,List.length_cons,List.length_nil,Nat.reduceAdd,Nat.reduceSub,aBF,Array.replicate_zero,aBQ,aBJ,List.nil_append,List.cons_append]
 gi_wp2
 have bO:=Boxed.new w 22 (.slice none 0 0);have P2:Below w.heap.size w (w.alloc (.cells #[.slice none 0 0] 22)):=(Below.refl _ w).alloc (aAi _) _;have X6:wW (w.alloc (.cells #[.slice none 0 0] 22)) b vs:=by obtain⟨Gz,clock,hb,h⟩:=hB;exact⟨Gz,clock,(P2.block b (aAt.1 hb).1).trans hb,h⟩
 refine wpIn_rangeFunc_ownG o7 h1 (gf:=80) (lb:=#[.pointer (some ⟨Bm,0,none⟩)]) rfl h7 (enters_of func80 (by kernel_rfl) rfl)
  (GH F (n-1) h7 o7 oO Bm b vs _ (by simp;omega) ((P2.cell (p:=⟨Bm,0,none⟩) hBm).trans hm) X6) walksK_t walksK_b (Below.refl _ _) (fun _=>rfl)
  (fun pre W=>(∃ v,Boxed W w.heap.size 22 v/\W.ownsRow w.heap.size 34 1 v pre.length (pre.map (Value.int .u32))/\True)/\Below w.heap.size w W)
  (fun _ _ _=>False)
  (OwnFrom.and (Own.from (holdsRow_own w.heap.size w.heap.size 22 34 1 (fun pre:List Int=>pre.length) (fun pre:List Int=>pre.map (Value.int .u32)) (fun _ _=>True)) _) (ownFrom_below (aAi _) sS))
  (fun _ _ _ _ _ hs _ _=>hs)
  ⟨⟨_,bO,World.ownsRow_nil _ _ _ _,trivial⟩,P2⟩
  (fun x=>{ tmps:=#[.slice none 0 0,.func (.func 80) #[] #[.pointer (some ⟨Bm,0,none⟩)],.pointer (some ⟨w.heap.size,0,none⟩),undef,.slice none 0 0,.int .u32 x,.func (.func 80) #[] #[.pointer (some ⟨Bm,0,none⟩)],.int .u32 x,undef,undef,undef,undef,undef],defers:=[] }) ?assign ?body ?done ?stop
 case assign=>
  intro l x W K hK
  gi_wp2
  exact hK
 case body=>
  rintro l pre x W ⟨⟨v,hv,Rp,_⟩,hB⟩ dN;have hc:=hv.cell
  gi_wp2_with (gi_at_builtin;refine wpListIn_append_own _ rfl _ _ 22 rfl w.heap.size 34 i0 (.int .u32 0) 1 4 underlying22 hi F4 hz1 hz2 rfl (by decide) _ _ _ rfl (Rp.alloc _) ⟨W.heap.size,0,none⟩ 1 1 [.int .u32 x] rfl rfl (cell_one_new _ _ _) (by simp[Value.oneCell']) (by simp only[maxLen];omega) oO (by have:=hB.size;simp;omega) ?_;intro v' w1 E5 n9 _;obtain⟨g',cap',rfl⟩:=ownsRow_succ E5;obtain⟨F9,hv2,Q7,Xx,c7⟩:=hv.appended (by decide) Rp hB.size (aAi _) E5 n9;have A4:=F9.cell;have hf1:=F9.frozen)
  exact⟨Xx.from _,KeepsOthers.walks Xx,⟨_,hv2,by simpa using Q7,trivial⟩,hB.trans c7⟩
 case done=>
  rintro D ys W hD N9 ⟨⟨v,hv,Rp,_⟩,hB⟩ hK;have hc:=hv.cell
  gi_wp2
  refine⟨sS,.inl ⟨_,_,rfl,run_takeDeferred hK,?_⟩⟩;exact⟨_,results_tmp rfl _ _ _,v,ys,rfl,N9,ownsRow_putObj Rp _ hK rfl,hB.trans (belowK_b (w:=w) (aAi _) W D _ _ (by simp at hD;omega) hK rfl rfl)⟩
 case stop=>
  rintro D c pre W _ _ h _;exact h.elim
set_option maxRecDepth 100000 in
theorem CH(F:Fence)(n:Nat)(h2:F.fn 78)(h3:F.fn 121)(h7:F.fn 80)(o7:F.round=none)(hn:4<=n)(Bm b:Nat)(vs:List Int)(hlen:vs.length<=1048576)(w:World)(hBm:Bm<w.heap.size)
 (hm:w.cell? ⟨Bm,0,none⟩=some (.map (some b))) (hB:wW w b vs):
 CallsIn F n prog 78 #[.func (.func 80) #[] #[.pointer (some ⟨Bm,0,none⟩)]] w fun e W'=>∃ v ys,e=.returned v/\List.Perm ys vs/\W'.ownsRow w.heap.size 34 1 v ys.length (ys.map (Value.int .u32))/\Below w.heap.size w W':=by
 have h1:1<=n:=oO;refine callsIn_of_wp func78 rfl h2 ?_ o7;simp only[ntmps78,aBd,List.length_cons,List.length_nil,Nat.reduceAdd,Nat.reduceSub,aBF,Array.replicate_zero,aBQ,aBJ,List.nil_append,List.cons_append]
 gi_wp2_with (gi_at_call 121;refine(Ew F (n-1) h3 h7 o7 oO Bm b vs hlen _ hBm hm hB).mono ?_;rintro e w' ⟨v,ys,rfl,N9,Rp,I3⟩)
 go_ret
 exact⟨v,ys,rfl,N9,Rp,I3⟩
set_option maxRecDepth 100000 in
theorem RO(F:Fence)(n:Nat)(h7:F.fn 123)(o7:F.round=none)(hn:1<=n)(l Bm b:Nat)(vs:List Int)(W:World)(J Jx:List Int->World->Prop)(hJ:AbidesFrom W.heap.size J)
 (hY:∀ pre x W1,J pre W1->pre.length<vs.length->YieldAt F (n-1) prog l #[.int .u32 x] W1 fun e W'=>
   (e=.returned (.bool true)/\J (pre++[x]) W'/\KeepsWalks W1 W')\/(e=.returned (.bool false)/\Jx (pre++[x]) W'))
 (hm:W.cell? ⟨Bm,0,none⟩=some (.map (some b))) (hB:wW W b vs) (h0:J [] W):
 CallsIn F n prog 123 #[.func (.yield l) #[] #[],.pointer (some ⟨Bm,0,none⟩)] W fun e W'=>(∃ v,e=.returned v)/\
  ((∃ ys:List Int,ys.Perm vs/\J ys W')\/(∃ pre,True/\Jx pre W')):=by
 obtain⟨Gz,clock,hb,Yf,ZY,hnd⟩:=hB;have hlen:vs.length=Gz.length:=by have:=congrArg List.length Yf;simpa using this.symm
 have lb:=(aAt.1 hb).1;refine callsIn_of_wp func123 rfl h7 ?_ o7;simp only[ntmps123,aBd,List.length_cons,List.length_nil,Nat.reduceAdd,Nat.reduceSub,aBF,Array.replicate_zero,aBQ,aBJ,List.nil_append,List.cons_append]
 gi_wp2_with (first
  |(refine oJ _ rfl _ 60 _ _ rfl underlying60 b Gz.toArray clock rfl hb ?_;intro w0 H8)
  |gi_in)
 go_frame
 have hI0:w0.heap[W.heap.size]?=some (.mapIter (some b) clock #[] clock):=by rw[H8];exact World.alloc_heap_new _ _
 have O9:w0.heap[b]?=some (.map Gz.toArray clock):=by rw[H8];exact(Below.heap_alloc _ _ b lb).trans hb
 have hg0:W.grownBy w0 none:=by rw[H8];exact World.grownBy_alloc W _ none
 have z8:J [] w0:=hJ [] W w0 none h0 hg0 (fun r e=>by cases e);clear H8 hg0
 gi_loopw [3] (fun _ wr=>∃(seen:Array Nat) (c:Nat) (ss:List Int),clock<=c/\wr.heap[W.heap.size]?=some (.mapIter (some b) clock seen c)/\wr.heap[b]?=some (.map Gz.toArray clock)/\(ss++tM vs Gz seen).Perm vs/\J ss wr)
  (fun _ wr=>match wr.heap[W.heap.size]? with|some (.mapIter _ _ seen _)=>(tM vs Gz seen).length|_=>0)
 case atStart=>exact⟨#[],clock,[],aAi _,hI0,O9,by rw[Ac hlen];exact .refl _,z8⟩
 case round=>
  obtain⟨seen,c,ss,V5,hit,hbm,Xi,hJs⟩:=hrel
  gi_wp2_with (first
   |(refine oU _ rfl _ rfl W.heap.size b clock c seen Gz.toArray rfl hit hbm (fun x hx=>ZY x (by simpa using hx)) (by simpa using hnd) V5 ?_ ?_)
   |gi_in)
  .intro hall;have Yc:tM vs Gz seen=[]:=DN fun x hx=>by simpa using hall x (by simpa using hx)
   rw[Yc,aAP]at Xi
   gi_wp2
   go_end0
   exact⟨⟨_,rfl⟩,.inl ⟨ss,Xi,hJs⟩⟩
  .intro e w1 w2 he hs ZE ZP hen;obtain⟨x,L1,L2,hx,hL1,N5⟩:=DU (seen:=seen) hlen Yf hnd (by simpa using he) (by simpa using hs);have B6:wr.grownBy w2 (some W.heap.size):=by rw[ZP];exact DP wr w1 ZE _ _
   have v8:J ss w2:=hJ ss wr w2 (some W.heap.size) hJs B6 (fun r e=>by cases e;exact⟨aAi _,_,hit,rfl⟩);have hh:w1.heap=wr.heap:=by rcases ZE with rfl|rfl<;>rfl
   have Wx:b≠W.heap.size:=oO;have hit2:w2.heap[W.heap.size]?=some (.mapIter (some b) clock (seen.push e.born) clock):=by rw[ZP];simp only[setBlock];rw[aBg,aAe rfl,aAe (by rw[hh];exact(aAt.1 hit).1)]
   have hbm2:w2.heap[b]?=some (.map Gz.toArray clock):=by rw[ZP];simp only[setBlock];rw[aBg,aAa (fun e=>Wx e.symm),hh];exact hbm
   have dN:ss.length<vs.length:=by have:=Xi.length_eq;rw[hL1]at this;simp at this;omega
   obtain⟨fn,tmps,assign,body,hy,hR⟩:=hY ss x w2 v8 dN;rw[hx]at hen ⊢;clear ZP B6
   gi_wp2
   refine hR.mono ?_;rintro e3 W3 (⟨rfl,hJ3,Xq⟩|⟨rfl,hJx3⟩)
   .gi_wp2
    have hit3:=Xq.same _ _ hit2 rfl;have hbm3:=Xq.same _ _ hbm2 rfl
    go_roundw
    case rel=>exact⟨seen.push e.born,clock,ss++[x],aAi _,hit3,hbm3,by
     rw[N5];rw[hL1]at Xi;refine List.Perm.trans ?_ Xi;rw[aAF];refine aBT _ ?_;rw[List.singleton_append]
     exact aBW.symm,hJ3⟩
    case measure=>
     rw[hit3,hit];simp only[hL1,N5,aAh,List.length_cons];omega
   .gi_wp2
    refine bodyPost_ret (results_none rfl _ _ _) rfl ?_;exact⟨⟨_,rfl⟩,.inr ⟨_,trivial,hJx3⟩⟩
theorem GX(F:Fence)(n:Nat)(h7:F.fn 123)(o7:F.round=none)(hn:1<=n)(Bm b:Nat)(vs:List Int)(w:World)(hBm:Bm<w.heap.size)(hm:w.cell? ⟨Bm,0,none⟩=some (.map (some b)))(hB:wW w b vs):
 SeqStopsK F n prog 123 #[.pointer (some ⟨Bm,0,none⟩)] (fun x:Int=>#[Value.int .u32 x]) KeepsWalks (fun ys=>ys.Perm vs) (fun _=>True) vs.length w:=fun l J Jx W hW hJ _ hY h0=>by
 have x8:=(hW.cell (p:=⟨Bm,0,none⟩) hBm).trans hm;have X6:wW W b vs:=by obtain⟨Gz,clock,hb,h⟩:=hB;exact⟨Gz,clock,(hW.block b (aAt.1 hb).1).trans hb,h⟩
 exact RO F n h7 o7 hn l Bm b vs W J Jx hJ hY x8 X6 h0
set_option maxRecDepth 100000 in
theorem EU(F:Fence)(n:Nat)(h3:F.fn 121)(h7:F.fn 123)(o7:F.round=none)(hn:3<=n)(Bm b:Nat)(vs:List Int)(hlen:vs.length<=1048576)(w:World)(hBm:Bm<w.heap.size)
 (hm:w.cell? ⟨Bm,0,none⟩=some (.map (some b))) (hB:wW w b vs):
 CallsIn F n prog 121 #[.slice none 0 0,.func (.func 123) #[] #[.pointer (some ⟨Bm,0,none⟩)]] w fun e W'=>∃ v ys,e=.returned v/\List.Perm ys vs/\W'.ownsRow w.heap.size 34 1 v ys.length (ys.map (Value.int .u32))/\Below w.heap.size w W':=by
 have h1:1<=n:=oO;obtain⟨i0,hi,F4,hz1,hz2⟩:=info_parts Ni;refine callsIn_of_wp_marks func121 rfl h3 ?_ o7;simp only[ntmps121,aBd,List.length_cons,List.length_nil,Nat.reduceAdd,Nat.reduceSub,aBF,Array.replicate_zero,aBQ,aBJ,List.nil_append,List.cons_append]
 gi_wp2
 have bO:=Boxed.new w 22 (.slice none 0 0);have P2:Below w.heap.size w (w.alloc (.cells #[.slice none 0 0] 22)):=(Below.refl _ w).alloc (aAi _) _;have X6:wW (w.alloc (.cells #[.slice none 0 0] 22)) b vs:=by obtain⟨Gz,clock,hb,h⟩:=hB;exact⟨Gz,clock,(P2.block b (aAt.1 hb).1).trans hb,h⟩
 refine wpIn_rangeFunc_ownG o7 h1 (gf:=123) (lb:=#[.pointer (some ⟨Bm,0,none⟩)]) rfl h7 (enters_of func123 (by kernel_rfl) rfl)
  (GX F (n-1) h7 o7 oO Bm b vs _ (by simp;omega) ((P2.cell (p:=⟨Bm,0,none⟩) hBm).trans hm) X6) walksK_t walksK_b (Below.refl _ _) (fun _=>rfl)
  (fun pre W=>(∃ v,Boxed W w.heap.size 22 v/\W.ownsRow w.heap.size 34 1 v pre.length (pre.map (Value.int .u32))/\True)/\Below w.heap.size w W)
  (fun _ _ _=>False)
  (OwnFrom.and (Own.from (holdsRow_own w.heap.size w.heap.size 22 34 1 (fun pre:List Int=>pre.length) (fun pre:List Int=>pre.map (Value.int .u32)) (fun _ _=>True)) _) (ownFrom_below (aAi _) sS))
  (fun _ _ _ _ _ hs _ _=>hs)
  ⟨⟨_,bO,World.ownsRow_nil _ _ _ _,trivial⟩,P2⟩
  (fun x=>{ tmps:=#[.slice none 0 0,.func (.func 123) #[] #[.pointer (some ⟨Bm,0,none⟩)],.pointer (some ⟨w.heap.size,0,none⟩),undef,.slice none 0 0,.int .u32 x,.func (.func 123) #[] #[.pointer (some ⟨Bm,0,none⟩)],.int .u32 x,undef,undef,undef,undef,undef],defers:=[] }) ?assign ?body ?done ?stop
 case assign=>
  intro l x W K hK
  gi_wp2
  exact hK
 case body=>
  rintro l pre x W ⟨⟨v,hv,Rp,_⟩,hB⟩ dN;have hc:=hv.cell
  gi_wp2_with (gi_at_builtin;refine wpListIn_append_own _ rfl _ _ 22 rfl w.heap.size 34 i0 (.int .u32 0) 1 4 underlying22 hi F4 hz1 hz2 rfl (by decide) _ _ _ rfl (Rp.alloc _) ⟨W.heap.size,0,none⟩ 1 1 [.int .u32 x] rfl rfl (cell_one_new _ _ _) (by simp[Value.oneCell']) (by simp only[maxLen];omega) oO (by have:=hB.size;simp;omega) ?_;intro v' w1 E5 n9 _;obtain⟨g',cap',rfl⟩:=ownsRow_succ E5;obtain⟨F9,hv2,Q7,Xx,c7⟩:=hv.appended (by decide) Rp hB.size (aAi _) E5 n9;have A4:=F9.cell;have hf1:=F9.frozen)
  exact⟨Xx.from _,KeepsOthers.walks Xx,⟨_,hv2,by simpa using Q7,trivial⟩,hB.trans c7⟩
 case done=>
  rintro D ys W hD N9 ⟨⟨v,hv,Rp,_⟩,hB⟩ hK;have hc:=hv.cell
  gi_wp2
  refine⟨sS,.inl ⟨_,_,rfl,run_takeDeferred hK,?_⟩⟩;exact⟨_,results_tmp rfl _ _ _,v,ys,rfl,N9,ownsRow_putObj Rp _ hK rfl,hB.trans (belowK_b (w:=w) (aAi _) W D _ _ (by simp at hD;omega) hK rfl rfl)⟩
 case stop=>
  rintro D c pre W _ _ h _;exact h.elim
set_option maxRecDepth 100000 in
theorem Bx(F:Fence)(n:Nat)(h2:F.fn 78)(h3:F.fn 121)(h7:F.fn 123)(o7:F.round=none)(hn:4<=n)(Bm b:Nat)(vs:List Int)(hlen:vs.length<=1048576)(w:World)(hBm:Bm<w.heap.size)
 (hm:w.cell? ⟨Bm,0,none⟩=some (.map (some b))) (hB:wW w b vs):
 CallsIn F n prog 78 #[.func (.func 123) #[] #[.pointer (some ⟨Bm,0,none⟩)]] w fun e W'=>∃ v ys,e=.returned v/\List.Perm ys vs/\W'.ownsRow w.heap.size 34 1 v ys.length (ys.map (Value.int .u32))/\Below w.heap.size w W':=by
 have h1:1<=n:=oO;refine callsIn_of_wp func78 rfl h2 ?_ o7;simp only[ntmps78,aBd,List.length_cons,List.length_nil,Nat.reduceAdd,Nat.reduceSub,aBF,Array.replicate_zero,aBQ,aBJ,List.nil_append,List.cons_append]
 gi_wp2_with (gi_at_call 121;refine(EU F (n-1) h3 h7 o7 oO Bm b vs hlen _ hBm hm hB).mono ?_;rintro e w' ⟨v,ys,rfl,N9,Rp,I3⟩)
 go_ret
 exact⟨v,ys,rfl,N9,Rp,I3⟩
end Rg
namespace Aw
open Go Go.RowKit
def tU(es:List (List Int×LV)):List Int:=es.map fun e=>e.1.headD 0
theorem Jo{w:World}{g:G}{st:St}(hi:Inv w g st){m:Nat}{es:List (List Int×LV)}(hm:st.H m=.map false [.u32] es):Rg.wW w (g.β m) (tU es):=by
 obtain⟨_,hlen,Gz,clock,h3,h4,_,_,h7,h8⟩:=hi.mp m _ _ _ hm;refine⟨Gz,clock,h3,?_,h7,h8⟩;rw[h4];unfold tU;rw[aBf];refine aAW fun p hp=>?_;have:=hlen p hp
 match h:p.1,this with
 |[x],_=>simp[mkV,mkC,h]
theorem It(m q:Nat)(es:List (List Int×LV))(st:St)(hl:es.length<=1048576)(hH:st.H q=.box 80 1 [.mp m])(hm:st.H m=.map false [.u32] es):
 aB prog 78 [.fn (.func 80) [.pt q 0]] st fun r st'=>∃ ys:List Int,ys.Perm (tU es)/\r=.ms st.next 0 ys.length/\st'=st.new (.box 34 1 (us ys)):=by
 refine⟨enters_of func78 (by kernel_rfl) rfl,fun w g vs hi hr=>?_⟩;simp only[aC,Rep]at hr;obtain⟨v,_,rfl,⟨us1,rfl,v1,_,rfl,⟨rfl,hq⟩,rfl⟩,rfl⟩:=hr;obtain⟨_,b2,b3⟩:=hi.box q _ _ _ hH;have Xl:g.nl q=false:=by
  cases hn:g.nl q with
  |false=>rfl
  |true=>obtain⟨_,h⟩:=b2 hn;cases h
 obtain⟨Xo,k1,k2,k3,k4,k5⟩:=b3 Xl;simp only[List.length_cons,List.length_nil,aBt,aC]at k4 k3;obtain⟨sv,rest,N4,YF,_⟩:=k4;simp only[Rep]at YF;have P1:w.cell? ⟨g.β q,0,none⟩=some (.map (some (g.β m))):=by
  rw[cell_of_row w _ _ _ _ _ k1,<- YF.1];cases Xo with
  |nil=>simp at k3
  |cons a Xo=>simp at N4;simp[N4.1]
 refine(((Rg.CH Fence.wide 4 trivial trivial trivial rfl (aAi _) (g.β q) (g.β m) (tU es) (by simpa[tU]using hl) w (qI P1) P1 (Jo hi hm)).calls room_wide)).mono ?_;rintro e w' ⟨v,ys,rfl,N9,Rp,I3⟩;have hlen:ys.length=(ys.map (Value.int .u32)).length:=sS;rw[hlen]at Rp;obtain⟨g',h1,h2,h3⟩:=wK (cs:=us ys) hi I3 Rp (fun w g=>zF w g ys);rw[<- hlen]at h1;exact⟨v,_,_,g',rfl,⟨ys,N9,rfl,rfl⟩,h1,h2,h3⟩
theorem Iy(m q:Nat)(es:List (List Int×LV))(st:St)(hl:es.length<=1048576)(hH:st.H q=.box 60 1 [.mp m])(hm:st.H m=.map false [.u32] es):
 aB prog 78 [.fn (.func 123) [.pt q 0]] st fun r st'=>∃ ys:List Int,ys.Perm (tU es)/\r=.ms st.next 0 ys.length/\st'=st.new (.box 34 1 (us ys)):=by
 refine⟨enters_of func78 (by kernel_rfl) rfl,fun w g vs hi hr=>?_⟩;simp only[aC,Rep]at hr;obtain⟨v,_,rfl,⟨us1,rfl,v1,_,rfl,⟨rfl,hq⟩,rfl⟩,rfl⟩:=hr;obtain⟨_,b2,b3⟩:=hi.box q _ _ _ hH;have Xl:g.nl q=false:=by
  cases hn:g.nl q with
  |false=>rfl
  |true=>obtain⟨_,h⟩:=b2 hn;cases h
 obtain⟨Xo,k1,k2,k3,k4,k5⟩:=b3 Xl;simp only[List.length_cons,List.length_nil,aBt,aC]at k4 k3;obtain⟨sv,rest,N4,YF,_⟩:=k4;simp only[Rep]at YF;have P1:w.cell? ⟨g.β q,0,none⟩=some (.map (some (g.β m))):=by
  rw[cell_of_row w _ _ _ _ _ k1,<- YF.1];cases Xo with
  |nil=>simp at k3
  |cons a Xo=>simp at N4;simp[N4.1]
 refine(((Rg.Bx Fence.wide 4 trivial trivial trivial rfl (aAi _) (g.β q) (g.β m) (tU es) (by simpa[tU]using hl) w (qI P1) P1 (Jo hi hm)).calls room_wide)).mono ?_;rintro e w' ⟨v,ys,rfl,N9,Rp,I3⟩;have hlen:ys.length=(ys.map (Value.int .u32)).length:=sS;rw[hlen]at Rp;obtain⟨g',h1,h2,h3⟩:=wK (cs:=us ys) hi I3 Rp (fun w g=>zF w g ys);rw[<- hlen]at h1;exact⟨v,_,_,g',rfl,⟨ys,N9,rfl,rfl⟩,h1,h2,h3⟩
end Aw
namespace Aw
open Go Go.RowKit Pl Eu
theorem xC:∀ {a b:List Int},a.Nodup->(∀ x∈a,x∈b)->b.length<=a.length->a.Perm b
 |[],b,_,_,hl=>by have:b=[]:=aAE (by simpa using hl);rw[this]
 |x::a,b,hn,hs,hl=>by
  rw[aAD]at hn;have hxb:x∈b:=hs x aAq;have p1:b.Perm (x::b.erase x):=aDK hxb;refine List.Perm.trans (List.Perm.cons x (xC hn.2 (fun y hy=>?_) ?_)) p1.symm
  .have Wx:y≠x:=by rintro rfl;exact hn.1 hy
   exact(aEA Wx).2 (hs y (aAk _ hy))
  .have:=p1.length_eq;simp only[List.length_cons]at this hl;omega
def rok(m:Mp)(k:Nat):Prop:=Ik m.g.es (m.g.vs.getD k 0) (m.rots.getD k [])
noncomputable def rR(m:Mp):Int:=if chk m.g≠0 then chk m.g else if m.rots.length≠m.g.vs.length then 22 else @ite _ (∀ k,k<m.g.vs.length->rok m k) (Classical.propDecidable _) 0 22
theorem OP{m:Mp}(h:chk m.g≠0):rR m=chk m.g:=by unfold rR;rw[aAe h]
theorem HA{m:Mp}(h:chk m.g=0)(h1:m.rots.length≠m.g.vs.length):rR m=22:=by unfold rR;rw[aAa (fun e=>e h),aAe h1]
theorem FT{m:Mp}(h:chk m.g=0){k:Nat}(hk:k<m.g.vs.length)(h1:¬rok m k):rR m=22:=by
 unfold rR;rw[aAa (fun e=>e h)]
 split
 .rfl
 .rw[aAa (fun e=>h1 (e k hk))]
theorem Kj{m:Mp}(h:chk m.g=0)(h1:m.rots.length=m.g.vs.length)(h2:∀ k,k<m.g.vs.length->rok m k):rR m=0:=by unfold rR;rw[aAa (fun e=>e h),aAa (fun e=>e h1),aAe h2]
theorem Mi{m:Mp}(h:rR m=0):chk m.g=0/\cP m:=by
 by_cases h0:chk m.g=0
 .refine⟨h0,?_⟩;by_cases h1:m.rots.length=m.g.vs.length
  .refine⟨jU h0,h1,fun k hk=>?_⟩;refine aAL fun hn=>?_;rw[FT h0 hk hn]at h;cases h
  .rw[HA h0 h1]at h;cases h
 .rw[OP h0]at h;exact absurd h h0
end Aw
namespace Aw
open Go Go.RowKit Pl
attribute [local simp] Dd Ua La Rq nP pV nC
def nF:List (Int×Int)->Int->Int
 |[],_=>0
 |p::P,x=>if p.1=x then p.2 else nF P x
theorem EH(x:Int):∀ P:List (Int×Int),(bR (inL P) [x]).getD (u 0)=u (nF P x)
 |[]=>rfl
 |p::P=>by
  have ih:=EH x P;unfold nF;simp only[inL,aAj,bR]at ih ⊢;by_cases h:p.1=x
  .rw[aAe h,aAe (by simp[h])];rfl
  .rw[aAa h,aAa (by simpa using fun e=>h e.symm)];exact ih
theorem FQ(P:List (Int×Int)):tU (inL P)=P.map (·.1):=by
 induction P with
 |nil=>rfl
 |cons p P ih=>simp only[inL,aAj,tU]at ih ⊢;rw[ih];rfl
def goR(P:List (Int×Int))(first:Int):Nat->Int->List Int
 |0,_=>[]
 |n+1,x=>x::(if nF P x≠first/\0<n then goR P first n (nF P x)else [])
def bY(P:List (Int×Int)):List Int:=goR P (mn (P.map (·.1))) P.length (mn (P.map (·.1)))
theorem VH(m:Nat)(st:St):aB prog 82 [.mp m] st fun r st'=>r=.fn (.func 123) [.pt st.next 0]/\st'=st.new (.box 60 1 [.mp m]):=by
 refine zN func82 ntmps82 [.tmp 2] ?_
 (repeat' (first|apply qS|(refine qR (zZ ?_);simp[])|(refine zE ?_;intro J hJ;simp[];refine zJ hJ ?_)))
theorem Vu(m:Nat)(st:St):aB prog 47 [.mp m] st fun r st'=>r=.fn (.func 80) [.pt st.next 0]/\st'=st.new (.box 80 1 [.mp m]):=by
 refine zN func47 ntmps47 [.tmp 2] ?_
 (repeat' (first|apply qS|(refine qR (zZ ?_);simp[])|(refine zE ?_;intro J hJ;simp[];refine zJ hJ ?_)))
theorem SF{a b:List Int}(h:a.Perm b)(h0:a≠[]):mn a=mn b:=
 (NG (h.mem_iff.1 (pP h0)) fun x hx=>GG (h.mem_iff.2 hx)).symm
def RoI(P:List (Int×Int))(m:Nat)(st:St)(n:Nat)(fr:Frm)(s:St):Prop:=∃(turn:List Int) (x:Int) (t:Nat),n+turn.length=P.length/\0<n/\turn++goR P (mn (P.map (·.1))) n x=bY P/\fr 0=.mp m/\fr 3=.sl t turn.length (us turn)/\fr 4=u (mn (P.map (·.1)))/\fr 5=u x/\EF t 34 1 turn.length st s/\aA st s
theorem IF{P:Program}{N:Nat}{Q:AQ}{c:Code}{fr:Frm}{st:St}(I:Frm->St->Prop)(h0:I fr st)(h:∀ fr st,I fr st->AWp P N c Q fr st):AWp P N c Q fr st:=h _ _ h0
theorem Un(P:List (Int×Int))(m:Nat)(st:St)(hP:P≠[])(hl:P.length<=1000)(hm:st.H m=.map false [.u32] (inL P))(ZK:m<st.next):
 aB prog 48 [.mp m] st fun r st'=>r=.sl 0 (bY P).length (us (bY P))/\st'=st:=by
 refine qT (Q:=fun r=>r=.sl 0 (bY P).length (us (bY P))) (eE ?_) fun r h=>by subst h;exact⟨.inl rfl,zQ _ _⟩
 have hil:(inL P).length=P.length:=by simp[inL]
 refine zN func48 ntmps48 [.tmp 2] ?_
 (repeat' (first|apply qS|(refine zE ?_;intro J hJ;simp[];refine zJ hJ ?_)))
 refine Bn _ 0 (fun n fr s=>RoI P m st n fr s) rfl ?_ ?_
 .refine eP fun Yi=>?_
  (repeat' (first|apply qS|(refine zE ?_;intro J hJ;simp[];(try refine zJ hJ ?_))))
  refine qE (VH m _) sS ?_;rintro r s1 ⟨rfl,e1⟩;rw[e1];clear e1 s1
  (repeat' (apply aD;simp[]))
  refine qE (Iy m st.next (inL P) _ oO sS (by rw[cB,aAa oO];exact hm)) sS ?_;rintro r s1 ⟨ys,N9,rfl,e1⟩;rw[e1];clear e1 s1;have hyl:ys.length=P.length:=by rw[N9.length_eq,FQ,aAA]
  have S9:ys≠[]:=fun e=>hP (aCz.1 (by rw[<- hyl,e];rfl));have hmn:mn ys=mn (P.map (·.1)):=SF (by rw[<- FQ];exact N9) S9;have Yp:=vI (P:=prog) (pre:=[]) (post:=[]) (l:=st.next+1) (n:=ys.length) (e:=34) (s:=1) (cs:=us ys) (st:=(st.new (.box 60 1 [.mp m])).new (.box 34 1 (us ys))) (f:=81) sS sS (by rw[aAr sS];exact Min ys 0 _ (by unfold small;omega) S9);rw[hmn]at Yp
  (repeat' (apply aD;simp[]))
  refine qE Yp sS ?_;rintro r s1 ⟨rfl,e1⟩;rw[e1];clear e1 s1 Yp;have hPl:0<P.length:=aBi.2 hP
  (repeat' (first|apply qS|((first|(refine zE ?_;intro J hJ)|(apply aD));simp[];refine zJ hJ ?_)))
  refine Cd ?_;simp only[ak];refine jK 3 34 1 sS ?_;refine IF (RoI P m st P.length) ?_ ?_
  .exact⟨[],_,st.next+1+1,sS,hPl,rfl,sS,sS,sS,sS,⟨oO,oO,sS,sS⟩,(((aA.new _ _).trans (aA.new _ _)).set oO _).trans (aA.new _ _)⟩
  obtain⟨n,hn⟩:∃ n,n=P.length:=⟨_,rfl⟩;rw[<- hn];have hJG:∀ n' Xj s',n' < n->RoI P m st n' Xj s'->∃ n,RoI P m st n Xj s':=fun n' _ _ _ h=>⟨n',h⟩;rintro fr s ⟨turn,x,t,h1,h2,h3,f0,f3,f4,f5,⟨t0,t1,t2,tH⟩,hk⟩;have S4:=(hk.H m ZK).trans hm;have hg:=EH x P;obtain⟨n,rfl⟩:∃ k,n=k+1:=⟨n-1,oO⟩;have h4:goR P (mn (P.map (·.1))) (n+1) x=x::(if nF P x≠mn (P.map (·.1))/\0<n then goR P (mn (P.map (·.1))) n (nF P x)else []):=rfl;rw[h4]at h3;clear h4;have hRo:∀(ZO:List Int) (y:Int) (t:Nat) (Xj:Frm) (s':St),n+ZO.length=P.length->0<n->ZO++goR P (mn (P.map (·.1))) n y=bY P->Xj 0=.mp m->Xj 3=.sl t ZO.length (us ZO)->Xj 4=u (mn (P.map (·.1)))->Xj 5=u y->EF t 34 1 ZO.length st s'->aA st s'->RoI P m st n Xj s':=fun ZO y t Xj s' q1 q2 q3 q4 q5 q6 q7 q8 q9=>⟨ZO,y,t,q1,q2,q3,q4,q5,q6,q7,q8,q9⟩;have YK:=fun Xj s' h=>hJG n Xj s' oO h;generalize mn (P.map (·.1))=first at *
  generalize nF P x=y at *;have hkn:=hk.next;have c1:¬t=s.next:=oO;have c2:¬s.next=t:=oO;have c3:¬m=s.next:=oO;have c4:¬m=s.next+1:=oO;have c5:¬m=t:=oO;have Xx:=(((hk.trans (aA.new s (.own 34 1 1))).set t1 .dead).trans (aA.new _ (.own 34 1 (turn.length+1))));by_cases hy:y=first
  .have j7:(y != first)=false:=by simp[hy]
   (repeat' (first|apply qS|refine qK (zZ ?_)|(refine qR (zZ ?_);simp[f0,f3,f4,f5,S4,hg,tH,t0,c1,c2,c3,c4,c5,j7])|(apply qC;simp[f0,f3,f4,f5,S4,hg,tH,t0,c1,c2,c3,c4,c5,j7])|(refine zE ?_;intro J hJ;simp[f0,f3,f4,f5,S4,hg,tH,t0,c1,c2,c3,c4,c5,j7];(repeat refine ca ?_);refine zJ hJ ?_)))
   rw[aAa (fun h=>h.1 hy)]at h3;exact⟨by rw[<- h3];simp[z0,nM],Xx⟩
  .have j7:(y != first)=true:=by simp[hy]
   by_cases p8:0<n
   .have Xy:turn.length+1<(inL P).length:=oO;have ZS:(turn.length:Int)+1<(inL P).length:=oO
    (repeat' (first|apply qS|(apply qC;simp[f0,f3,f4,f5,S4,hg,tH,t0,c1,c2,c3,c4,c5,j7,Xy,ZS])|(refine zE ?_;intro J hJ;simp[f0,f3,f4,f5,S4,hg,tH,t0,c1,c2,c3,c4,c5,j7,Xy,ZS];(repeat refine ca ?_);refine zJ hJ ?_)))
    rw[aAe ⟨hy,p8⟩]at h3;refine HD ?_;simp only[ak,nC,pV,nP,Dd];refine YK _ _ (hRo (turn++[x]) y (s.next+1) _ _ (by simp;omega) p8 (by rw[<- h3];simp) (by simp[f0]) sS (by simp[f4]) sS ⟨oO,oO,sS,sS⟩ Xx)
   .have Xy:¬turn.length+1<(inL P).length:=oO;have ZS:¬(turn.length:Int)+1<(inL P).length:=oO
    (repeat' (first|apply qS|refine qK (zZ ?_)|(refine qR (zZ ?_);simp[f0,f3,f4,f5,S4,hg,tH,t0,c1,c2,c3,c4,c5,j7,Xy,ZS])|(apply qC;simp[f0,f3,f4,f5,S4,hg,tH,t0,c1,c2,c3,c4,c5,j7,Xy,ZS])|(refine zE ?_;intro J hJ;simp[f0,f3,f4,f5,S4,hg,tH,t0,c1,c2,c3,c4,c5,j7,Xy,ZS];(repeat refine ca ?_);refine zJ hJ ?_)))
    rw[aAa (fun h=>p8 h.2)]at h3;exact⟨by rw[<- h3];simp[z0,nM],Xx⟩
 .rintro n fr s ⟨turn,x,t,h1,h2,h3,f0,f3,f4,f5,⟨t0,t1,t2,tH⟩,hk⟩ JG hJG;have S4:=(hk.H m ZK).trans hm;have hg:=EH x P;obtain⟨n,rfl⟩:∃ k,n=k+1:=⟨n-1,oO⟩;have h4:goR P (mn (P.map (·.1))) (n+1) x=x::(if nF P x≠mn (P.map (·.1))/\0<n then goR P (mn (P.map (·.1))) n (nF P x)else []):=rfl;rw[h4]at h3;clear h4;have hRo:∀(ZO:List Int) (y:Int) (t:Nat) (Xj:Frm) (s':St),n+ZO.length=P.length->0<n->ZO++goR P (mn (P.map (·.1))) n y=bY P->Xj 0=.mp m->Xj 3=.sl t ZO.length (us ZO)->Xj 4=u (mn (P.map (·.1)))->Xj 5=u y->EF t 34 1 ZO.length st s'->aA st s'->RoI P m st n Xj s':=fun ZO y t Xj s' q1 q2 q3 q4 q5 q6 q7 q8 q9=>⟨ZO,y,t,q1,q2,q3,q4,q5,q6,q7,q8,q9⟩;have YK:=fun Xj s' h=>hJG n Xj s' oO h;generalize mn (P.map (·.1))=first at *
  generalize nF P x=y at *;have hkn:=hk.next;have c1:¬t=s.next:=oO;have c2:¬s.next=t:=oO;have c3:¬m=s.next:=oO;have c4:¬m=s.next+1:=oO;have c5:¬m=t:=oO;have Xx:=(((hk.trans (aA.new s (.own 34 1 1))).set t1 .dead).trans (aA.new _ (.own 34 1 (turn.length+1))));by_cases hy:y=first
  .have j7:(y != first)=false:=by simp[hy]
   (repeat' (first|apply qS|refine qK (zZ ?_)|(refine qR (zZ ?_);simp[f0,f3,f4,f5,S4,hg,tH,t0,c1,c2,c3,c4,c5,j7])|(apply qC;simp[f0,f3,f4,f5,S4,hg,tH,t0,c1,c2,c3,c4,c5,j7])|(refine zE ?_;intro J hJ;simp[f0,f3,f4,f5,S4,hg,tH,t0,c1,c2,c3,c4,c5,j7];(repeat refine ca ?_);refine zJ hJ ?_)))
   rw[aAa (fun h=>h.1 hy)]at h3;exact⟨by rw[<- h3];simp[z0,nM],Xx⟩
  .have j7:(y != first)=true:=by simp[hy]
   by_cases p8:0<n
   .have Xy:turn.length+1<(inL P).length:=oO;have ZS:(turn.length:Int)+1<(inL P).length:=oO
    (repeat' (first|apply qS|refine qK (zZ ?_)|(apply qC;simp[f0,f3,f4,f5,S4,hg,tH,t0,c1,c2,c3,c4,c5,j7,Xy,ZS])|(refine zE ?_;intro J hJ;simp[f0,f3,f4,f5,S4,hg,tH,t0,c1,c2,c3,c4,c5,j7,Xy,ZS];(repeat refine ca ?_);refine zJ hJ ?_)))
    rw[aAe ⟨hy,p8⟩]at h3;refine HD ?_;simp only[ak,nC,pV,nP,Dd];refine YK _ _ (hRo (turn++[x]) y (s.next+1) _ _ (by simp;omega) p8 (by rw[<- h3];simp) (by simp[f0]) sS (by simp[f4]) sS ⟨oO,oO,sS,sS⟩ Xx)
   .have Xy:¬turn.length+1<(inL P).length:=oO;have ZS:¬(turn.length:Int)+1<(inL P).length:=oO
    (repeat' (first|apply qS|refine qK (zZ ?_)|(refine qR (zZ ?_);simp[f0,f3,f4,f5,S4,hg,tH,t0,c1,c2,c3,c4,c5,j7,Xy,ZS])|(apply qC;simp[f0,f3,f4,f5,S4,hg,tH,t0,c1,c2,c3,c4,c5,j7,Xy,ZS])|(refine zE ?_;intro J hJ;simp[f0,f3,f4,f5,S4,hg,tH,t0,c1,c2,c3,c4,c5,j7,Xy,ZS];(repeat refine ca ?_);refine zJ hJ ?_)))
    rw[aAa (fun h=>p8 h.2)]at h3;exact⟨by rw[<- h3];simp[z0,nM],Xx⟩
end Aw
namespace Aw
open Go Go.RowKit Pl
def pN(l:List Int):List Int:=l.foldr wY []
theorem yW:∀ l,(pN l).Pairwise (· < ·)
 |[]=>.nil
 |x::l=>yX x _ (yW l)
theorem pU(x:Int):∀ l,x∈pN l↔x∈l
 |[]=>by simp[pN]
 |y::l=>by have ih:=pU x l;unfold pN at ih ⊢;rw[List.foldr_cons,pZ,ih,aAf]
theorem OX(A:Tn)(loc:Int->Nat):tU (ouL A loc)=A.map (·.1):=by
 induction A with
 |nil=>rfl
 |cons p P ih=>simp only[ouL,aAj,tU]at ih ⊢;rw[ih];rfl
theorem Qp(m q:Nat)(es:List (List Int×LV))(K:List Int)(st:St)(hl:es.length<=1000)(hH:st.H q=.box 80 1 [.mp m])(hm:st.H m=.map false [.u32] es)(hK:tU es=K)(hn:K.Nodup):
 aB prog 46 [.fn (.func 80) [.pt q 0]] st fun r st'=>r=.sl 0 (pN K).length (us (pN K))/\aA st st':=by
 refine cD ?_;refine zN func46 ntmps46 [.tmp 2] ?_
 (repeat' (first|apply qS|(refine zE ?_;intro J hJ;simp[];(try refine zJ hJ ?_))))
 refine qE (It m q es _ oO hH hm) sS ?_;rintro r s1 ⟨ys,N9,rfl,rfl⟩;have hyl:ys.length=es.length:=by rw[N9.length_eq];simp[tU]
 (repeat' (first|apply qS|((first|(refine zE ?_;intro J hJ)|(apply aD));simp[];(try refine zJ hJ ?_))))
 refine qE (TK ys st.next _ oO sS sS) sS ?_;rintro r s2 ⟨c,hB,hp,hs,Xz⟩;have ZI:=Xz.1;simp only[aF]at ZI;have hKp:aA st s2:=⟨oO,fun l' Yu=>(Xz.2 l' oO (by simp;omega)).trans ((aA.new st _).H l' Yu)⟩;have Xk:=hp.length_eq;have hpK:c.Perm K:=by rw[<- hK];exact hp.trans N9
 have hc:c=pN K:=by
  refine yS id ?_ (by simpa using yW K) fun x=>by rw[pU];exact hpK.mem_iff
  rw[aEU];refine(List.Pairwise.and hs (hpK.nodup_iff.2 hn)).imp fun h=>?_;have:=h.1;have:=h.2;omega
 (repeat' (first|apply qS|(refine qR (zZ ?_);simp[])|((first|(refine zE ?_;intro J hJ)|(apply aD));simp[];refine zJ hJ ?_)))
 rw[<- hc];exact⟨st.next,c.length,⟨rfl,Xk.symm⟩,_,_,_,hB,sS,⟨rfl,by rw[aAr sS]⟩,hKp.set (aAi _) _⟩
def eO(B:List Ed)(v x:Int):List Int:=
 if x<v then(B.map fun e=>2*e.id+if e.b=v then 1 else 0).reverse else B.map fun e=>2*e.id+if e.b=v then 1 else 0
theorem TP(B:List Ed)(v x:Int)(t:Nat)(st:St)(hl:B.length<=1000)(Yi:∀ e∈B,1<=e.id/\e.id<=1048576):
 aB prog 49 [.sl t B.length (eds B),u v,u x] st fun r st'=>r=.sl 0 (eO B v x).length (us (eO B v x))/\st'=st:=by
 refine qT (Q:=fun r=>r=.sl 0 (eO B v x).length (us (eO B v x))) (cD ?_) fun r h=>by subst h;exact⟨.inl rfl,zQ _ _⟩
 have hel:=aK B;refine zN func49 ntmps49 [.tmp 6] ?_
 (repeat' (first|apply qS|apply qB|(refine zE ?_;intro J hJ;simp[];refine zJ hJ ?_)))
 refine tI 7 34 1 sS ?_;refine bE 13 12 14 28 (B.length) (fun j fr st2=>fr 1=u v/\fr 2=u x/\fr 11=.sl t B.length (eds B)/\aA st st2/\∃ q,fr 7=.ms q 0 j/\st.next<=q/\q<st2.next/\st2.H q=.box 34 1 (us ((B.take j).map fun e=>2*e.id+if e.b=v then 1 else 0))) ?_ ?_ ?_
 .exact⟨sS,sS,sS,aA.new _ _,st.next,sS,aAi _,sS,sS⟩
 .rintro j fr s dN ⟨f1,f2,f11,hk,q,f7,q1,q2,hq⟩ fi fn JO hJO;have hd:=aR B j dN;have Xq:j*3<B.length*3:=oO;have YP:((B.take (j+1)).map fun e=>2*e.id+if e.b=v then 1 else 0)=((B.take j).map fun e=>2*e.id+if e.b=v then 1 else 0)++[2*(B.getD j ed0).id+if(B.getD j ed0).b=v then 1 else 0]:=by have h1:B.take (j+1)=B.take j++[B[j]]:=aAn dN;rw[h1,aAv,cV B j dN];rfl
  have hp:=Yi (B.getD j ed0) (by rw[cV B j dN];exact aAu _);have ZK:((B.take j).map fun e=>2*e.id+if e.b=v then(1:Int)else 0).length=j:=by simp;omega
  generalize B.getD j ed0=y at *;generalize ((B.take j).map fun e=>2*e.id+if e.b=v then(1:Int)else 0)=D at *;obtain⟨d,a,b⟩:=y;simp only at YP hp hd;have c1:¬q=s.next:=oO;have c1b:¬q=s.next+1:=oO;have htj:(us D).take j=us D:=aAr (by simp;omega);have Z6:j<=D.length:=oO;have hj1:(j+1)*4<=140737488355328:=oO;have hj2:j+1<=maxLen:=by unfold maxLen;omega
  have Xx:∀(o1 o2 o4:cI),aA st ((((s.new o1).new o2).set q .dead).new o4):=fun o1 o2 o4=>(((hk.trans (aA.new _ _)).trans (aA.new _ _)).set q1 _).trans (aA.new _ _);by_cases hb:b=v
  .have c7:(b==v)=true:=by simp[hb]
   rw[aAe hb]at YP
   (repeat' (first|apply qS|(apply qC;simp[f1,f7,f11,fi,fn,dN,hd,hel,Xq,c7])|(refine zE ?_;intro J hJ;simp[f1,f7,f11,fi,fn,dN,hd,hel,Xq,c7];(try refine zJ hJ ?_))))
   refine qE (dOf d 1 _ oO oO (.inr rfl)) sS ?_;rintro r s1 ⟨rfl,rfl⟩
   (repeat' (apply aD;simp[f7,hq,c1,c1b,htj,Z6,hj1,hj2];refine zJ hJ ?_))
   exact hJO _ _ (by simp[fi]) (by simp[fn]) ⟨by simp[f1],by simp[f2],by simp[f11],Xx _ _ _,s.next+1+1,sS,oO,sS,by rw[YP];simp⟩
  .have c7:(b==v)=false:=by simp[hb]
   rw[aAa hb]at YP
   (repeat' (first|apply qS|refine qK (zZ ?_)|(apply qC;simp[f1,f7,f11,fi,fn,dN,hd,hel,Xq,c7])|(refine zE ?_;intro J hJ;simp[f1,f7,f11,fi,fn,dN,hd,hel,Xq,c7];(try refine zJ hJ ?_))))
   refine qE (dOf d 0 _ oO oO (.inl rfl)) sS ?_;rintro r s1 ⟨rfl,rfl⟩
   (repeat' (apply aD;simp[f7,hq,c1,c1b,htj,Z6,hj1,hj2];refine zJ hJ ?_))
   exact hJO _ _ (by simp[fi]) (by simp[fn]) ⟨by simp[f1],by simp[f2],by simp[f11],Xx _ _ _,s.next+1+1,sS,oO,sS,by rw[YP];simp⟩
 .rintro fr s ⟨f1,f2,f11,hk,q,f7,q1,q2,hq⟩;rw[aAQ]at hq;unfold eO;have ZK:(B.map fun e=>2*e.id+if e.b=v then(1:Int)else 0).length=B.length:=sS;generalize (B.map fun e=>2*e.id+if e.b=v then(1:Int)else 0)=D at *;by_cases hx:x<v
  .rw[aAe hx];rw[<- ZK]at f7
   (repeat' (first|apply qS|(apply qC;simp[f1,f2,f7,hx])|(refine zE ?_;intro J hJ;simp[f1,f2,f7,hx];(try refine zJ hJ ?_))))
   refine qE (zM D q s (by unfold small;omega) hq) sS ?_;rintro r s1 rfl
   (repeat' (first|apply qS|(refine qR (zZ ?_);simp[f7])|((first|(refine zE ?_;intro J hJ)|(apply aD));simp[f7];refine zJ hJ ?_)))
   exact⟨q,D.length,⟨rfl,rfl⟩,_,_,_,aAe rfl,sS,⟨sS,by rw[aAr sS]⟩,(hk.set q1 _).set q1 _⟩
  .rw[aAa hx]
   (repeat' (first|apply qS|refine qK (zZ ?_)|(refine qR (zZ ?_);simp[f1,f2,f7,hx])|(apply qC;simp[f1,f2,f7,hx])|(refine zE ?_;intro J hJ;simp[f1,f2,f7,hx];refine zJ hJ ?_)))
   exact⟨q,B.length,⟨rfl,rfl⟩,_,_,_,hq,by simp;omega,⟨ZK.symm,by rw[aAr (by simp;omega)]⟩,hk.set q1 _⟩
abbrev RM:=List (List Int×Nat×Nat×List LV)
def rmV(a:Nat×Nat×List LV):LV:=.sl a.1 a.2.1 a.2.2
def rmL(A:RM):List (List Int×LV):=A.map fun a=>(a.1,rmV a.2)
def mO(k:List Int)(x:Nat×Nat×List LV):RM->RM
 |[]=>[(k,x)]
 |a::A=>if k==a.1 then(k,x)::A else a::mO k x A
def getM(k:List Int):RM->Option (Nat×Nat×List LV)
 |[]=>none
 |a::A=>if k==a.1 then some a.2 else getM k A
theorem Jk(k:List Int)(x:Nat×Nat×List LV):∀ A,bQ (rmL A) k (rmV x)=rmL (mO k x A)
 |[]=>rfl
 |a::A=>by
  have ih:=Jk k x A;unfold mO;simp only[rmL,aAj,bQ]at ih ⊢
  split<;>simp[ih]
theorem uJ(k:List Int):∀ A,bR (rmL A) k=(getM k A).map rmV
 |[]=>rfl
 |a::A=>by
  have ih:=uJ k A;unfold getM;simp only[rmL,aAj,bR]at ih ⊢
  split<;>simp[ih]
theorem mJ{k:List Int}{x:Nat×Nat×List LV}:∀ {A},getM k A=some x->(k,x)∈A
 |[],h=>by cases h
 |a::A,h=>by
  unfold getM at h
  split at h
  .rename_i e;have e:k=a.1:=by simpa using e
   rw[e,<- aBb h];simp
  .exact aAk _ (mJ h)
theorem getM_none{k:List Int}:∀ {A:RM},getM k A=none->k∉A.map (·.1)
 |[],_=>by simp
 |a::A,h=>by
  unfold getM at h
  split at h
  .cases h
  .rename_i e;simp only[aAj,aAf,aCv];exact⟨by simpa using e,getM_none h⟩
theorem AW{k:List Int}{x:Nat×Nat×List LV}:∀ {A:RM},k∉A.map (·.1)->mO k x A=A++[(k,x)]
 |[],_=>rfl
 |a::A,h=>by simp only[aAj,aAf,aCv]at h;unfold mO;rw[aAa (by simpa using h.1),AW h.2];rfl
theorem vO{k:List Int}{x:Nat×Nat×List LV}:∀ {A:RM},k∈A.map (·.1)->(mO k x A).map (·.1)=A.map (·.1)
 |a::A,h=>by
  unfold mO;by_cases e:k=a.1
  .rw[aAe (by simpa using e)];simp[e]
  .rw[aAa (by simpa using e),aAj,aAj,vO];simp only[aAj,aAf]at h;exact h.resolve_left e
theorem oR{k:List Int}{x:Nat×Nat×List LV}:∀ {A:RM},(A.map (·.1)).Nodup->∀ a∈mO k x A,a=(k,x)\/(a∈A/\a.1≠k)
 |[],_,a,ha=>by simp only[mO,aAl]at ha;exact .inl ha
 |b::A,hn,a,ha=>by
  obtain⟨n1,n2⟩:=aAD.1 (by simpa using hn:(b.1::A.map (·.1)).Nodup);unfold mO at ha;by_cases e:k=b.1
  .rw[aAe (by simpa using e)]at ha;rcases aAf.1 ha with ha|ha
   .exact .inl ha
   .exact .inr ⟨aAk _ ha,fun h2=>n1 (by rw[<- e,<- h2];exact aAm.2 ⟨a,ha,rfl⟩)⟩
  .rw[aAa (by simpa using e)]at ha;rcases aAf.1 ha with ha|ha
   .exact .inr ⟨by simp[ha],by rw[ha];exact fun h=>e h.symm⟩
   .rcases oR n2 a ha with h|⟨h1,h2⟩
    .exact .inl h
    .exact .inr ⟨aAk _ h1,h2⟩
theorem Cn{k:List Int}{t n:Nat}{c:List LV}:∀ {A:RM},(A.map fun a=>a.2.1).Nodup->(∀ a∈A,a.2.1≠t)->((mO k (t,n,c) A).map fun a=>a.2.1).Nodup
 |[],_,_=>by simp[mO]
 |a::A,hn,h=>by
  obtain⟨n1,n2⟩:=aAD.1 (by simpa using hn:(a.2.1::A.map fun a=>a.2.1).Nodup);unfold mO
  split
  .rw[aAj,aAD];refine⟨fun hm=>?_,n2⟩;obtain⟨b,hb,e⟩:=aAm.1 hm;exact h b (aAk _ hb) e
  .rw[aAj,aAD];refine⟨fun hm=>?_,Cn n2 fun b hb=>h b (aAk _ hb)⟩;obtain⟨b,hb,e⟩:=aAm.1 hm;have:b=(k,(t,n,c))\/b∈A:=by
    clear n1 n2 h hn hm;revert hb;clear e;induction A with
    |nil=>intro hb;simp only[mO,aAl]at hb;exact .inl hb
    |cons a2 A ih=>
     intro hb;unfold mO at hb
     split at hb
     .rcases aAf.1 hb with hb|hb
      .exact .inl hb
      .exact .inr (aAk _ hb)
     .rcases aAf.1 hb with hb|hb
      .exact .inr (by simp[hb])
      .exact(ih hb).imp id (aAk _)
   rcases this with rfl|hb
   .exact h a sS e.symm
   .exact n1 (aAm.2 ⟨b,hb,e⟩)
theorem Jv:∀ {A:RM},(A.map fun a=>a.2.1).Nodup->∀ {a b},a∈A->b∈A->a.2.1=b.2.1->a=b
 |[],_,_,_,h,_,_=>by cases h
 |c::A,hn,a,b,ha,hb,e=>by
  obtain⟨n1,n2⟩:=aAD.1 (by simpa using hn:(c.2.1::A.map fun a=>a.2.1).Nodup);rcases aAf.1 ha with ha|ha
  .rcases aAf.1 hb with hb|hb
   .rw[ha,hb]
   .exact absurd (aAm.2 ⟨b,hb,by rw[<- e,ha]⟩) n1
  .rcases aAf.1 hb with hb|hb
   .exact absurd (aAm.2 ⟨a,ha,by rw[e,hb]⟩) n1
   .exact Jv n2 ha hb e
structure yF(ag:Bool)(ks:List IntKind)(e w:Nat)(A:RM)(m lo:Nat)(st:St):Prop where
 map:st.H m=.map ag ks (rmL A)
 mlt:lo<=m/\m<st.next
 tok:∀ a∈A,a.2.1≠0/\lo<=a.2.1/\a.2.1<st.next/\st.H a.2.1=.own e w a.2.2.1
 inj:(A.map fun a=>a.2.1).Nodup
 nd:(A.map (·.1)).Nodup
theorem yF.keep{ag:Bool}{ks:List IntKind}{e w:Nat}{A:RM}{m lo:Nat}{st st':St}(h:yF ag ks e w A m lo st)(k:aA st st'):yF ag ks e w A m lo st':=by have hn:=k.next;have hm:=h.mlt;refine⟨(k.H _ hm.2).trans h.map,⟨hm.1,oO⟩,fun a ha=>?_,h.inj,h.nd⟩;obtain⟨h1,h2,h3,h4⟩:=h.tok a ha;exact⟨h1,h2,oO,(k.H _ h3).trans h4⟩
theorem yF.put{ag:Bool}{ks:List IntKind}{e w:Nat}{A:RM}{m lo:Nat}{st st':St}(h:yF ag ks e w A m lo st){k:List Int}{t n:Nat}{c:List LV}
 (ht:st.next<=t/\t<st'.next) (hn:st.next<=st'.next) (x9:lo<=st.next) (h0:t≠0) (hm:st'.H m=.map ag ks (bQ (rmL A) k (rmV (t,n,c)))) (hT:st'.H t=.own e w n)
 (hK:∀ l,l<st.next->l≠m->(∀ x,getM k A=some x->l≠x.1)->st'.H l=st.H l):yF ag ks e w (mO k (t,n,c) A) m lo st':=by
 have M4:=h.mlt;rw[Jk]at hm;refine⟨hm,⟨M4.1,oO⟩,fun a ha=>?_,Cn h.inj fun a ha=>by have:=(h.tok a ha).2.2.1;omega,?_⟩
 .rcases oR h.nd a ha with rfl|⟨ha,Wx⟩
  .exact⟨h0,aBh x9 ht.1,ht.2,hT⟩
  .obtain⟨h1,h2,h3,h4⟩:=h.tok a ha;refine⟨h1,h2,oO,?_⟩;rw[hK _ h3 (fun q=>by rw[q,h.map]at h4;cases h4) fun x hx q=>?_]
   .exact h4
   .have hx:=mJ hx;refine Wx ?_;exact(by rw[Jv h.inj ha hx q]:a.1=k)
 .by_cases hk:k∈A.map (·.1)
  .rw[vO hk];exact h.nd
  .rw[AW hk,aAv,aAs];refine⟨h.nd,sS,fun a ha b hb e=>?_⟩;simp only[aAj,aBz,aAl]at hb;subst hb;subst e;exact hk ha
abbrev prE(e:Ed):Int×Int:=prP e.a e.b
def jC(E:List Ed)(p:Int×Int):List Ed:=E.filter fun e=>decide (prE e=p)
abbrev iZ(g:Gr)(v x:Int):List Ed:=jC g.es (prP v x)
abbrev TL:=List (Int×List Int)
def oK(v:Int)(ds:List Int):TL->TL
 |[]=>[(v,ds)]
 |p::T=>if p.1=v then(v,p.2++ds)::T else p::oK v ds T
def dS(v:Int):TL->List Int
 |[]=>[]
 |p::T=>if p.1=v then p.2 else dS v T
def dL(g:Gr)(v:Int)(L:List Int)(T:TL):TL:=L.foldl (fun T x=>oK v (eO (iZ g v x) v x) T) T
def dB(v:Int):Tn->List (Int×Int)
 |[]=>[]
 |a::A=>if a.1=v then a.2 else dB v A
def eS(g:Gr)(A:Tn)(K:List Int)(T:TL):TL:=K.foldl (fun T v=>dL g v (bY (dB v A)) T) T
def eV(T:TL):Nat:=(T.map fun p=>p.2.length).sum
def okE(F:List (List Int))(A:Tn)(T:TL):Prop:=F.length<=300/\(∀ r∈F,r.length<=1000)/\A.length<=1000/\(∀ a∈A,a.2.length<=1000)/\eV T<=100000
instance (F:List (List Int)) (A:Tn) (T:TL):Decidable (okE F A T):=by unfold okE;infer_instance
def tZ(g:Gr)(F:List (List Int))(T:TL):TL:=eS g (aY F) (pN ((aY F).map (·.1))) T
def Dl(g:Gr):List (List Ed)->TL->Option (Option TL)
 |[],T=>some (some T)
 |l::bl,T=>(Aq l).bind fun o=>match o with
  |none=>some none
  |some F=>if okE F (aY F) (tZ g F T)then Dl g bl (tZ g F T)else none
def pY(g:Gr)(bl:List (List Ed)):Option (Option Mp):=
 (Dl g bl []).bind fun o=>match o with
   |none=>some none
   |some T=>if ∀ v∈g.vs,(dS v T).length<=1000 then some (some ⟨g,g.vs.map fun v=>nrm (dS v T)⟩)else none
theorem KX(P:List (Int×Int))(f:Int):∀ n x,(goR P f n x).length<=n
 |0,_=>by simp[goR]
 |n+1,x=>by
  unfold goR
  split
  .have:=KX P f n (nF P x);simp;omega
  .simp
theorem IB(P:List (Int×Int)):(bY P).length<=P.length:=KX _ _ _ _
theorem uN(v:Int)(ds:List Int):∀ T:TL,eV (oK v ds T)=eV T+ds.length
 |[]=>by simp[oK,eV]
 |p::T=>by
  have ih:=uN v ds T;unfold oK
  split
  .simp only[eV,aAj,List.sum_cons,aAh]at ih ⊢;omega
  .simp only[eV,aAj,List.sum_cons]at ih ⊢;omega
theorem vZ(g:Gr)(v:Int):∀(L:List Int) (T:TL),eV T<=eV (dL g v L T)
 |[],_=>aAi _
 |x::L,T=>by have h:=vZ g v L (oK v (eO (iZ g v x) v x) T);have h2:=uN v (eO (iZ g v x) v x) T;unfold dL at h ⊢;rw[List.foldl_cons];omega
theorem CP(g:Gr)(A:Tn):∀(K:List Int) (T:TL),eV T<=eV (eS g A K T)
 |[],_=>aAi _
 |v::K,T=>by have h:=CP g A K (dL g v (bY (dB v A)) T);have h2:=vZ g v (bY (dB v A)) T;unfold eS at h ⊢;rw[List.foldl_cons];omega
theorem BG(v:Int):∀ T:TL,(dS v T).length<=eV T
 |[]=>aAi _
 |p::T=>by
  have ih:=BG v T;unfold dS
  split
  .simp only[eV,aAj,List.sum_cons];omega
  .simp only[eV,aAj,List.sum_cons]at ih ⊢;omega
theorem Gq(g:Gr)(A:Tn)(K:List Int)(T:TL)(j:Nat):eS g A K T=eS g A (K.drop j) (eS g A (K.take j) T):=by unfold eS;rw[<- aBo,aAH]
theorem Ft(g:Gr)(v:Int)(L:List Int)(T:TL)(j:Nat):dL g v L T=dL g v (L.drop j) (dL g v (L.take j) T):=by unfold dL;rw[<- aBo,aAH]
theorem Ga{v:Int}:∀ {A:Tn},v∈A.map (·.1)->(v,dB v A)∈A
 |a::A,h=>by
  unfold dB;by_cases e:a.1=v
  .rw[aAe e,<- e];simp
  .rw[aAa e];simp only[aAj,aAf]at h;exact aAk _ (Ga (h.resolve_left fun h=>e h.symm))
theorem Rx(x y:Int)(P:List (Int×Int)):oQ x y P≠[]:=by
 cases P with
 |nil=>simp[oQ]
 |cons p P=>unfold oQ;split<;>simp
theorem KW{v x y:Int}:∀ {A:Tn},(∀ a∈A,a.2≠[])->∀ a∈gN v x y A,a.2≠[]
 |[],_,a,ha=>by simp only[gN,aAl]at ha;rw[ha];simp
 |b::A,h,a,ha=>by
  unfold gN at ha
  split at ha
  .rcases aAf.1 ha with ha|ha
   .rw[ha];exact Rx _ _ _
   .exact h a (aAk _ ha)
  .rcases aAf.1 ha with ha|ha
   .rw[ha];exact h b sS
   .exact KW (fun a ha=>h a (aAk _ ha)) a ha
theorem Gw(r:List Int){A:Tn}(h:∀ a∈A,a.2≠[]):∀ j,∀ a∈jF r A j,a.2≠[]
 |0=>h
 |j+1=>KW (Gw r h j)
theorem JU(R:List (List Int)):∀ a∈aY R,a.2≠[]:=by
 unfold aY;have key:∀(R:List (List Int)) (A:Tn),(∀ a∈A,a.2≠[])->∀ a∈R.foldl (fun A r=>jF r A r.length) A,a.2≠[]:=fun R=>by
  induction R with
  |nil=>exact fun A h=>h
  |cons r R ih=>exact fun A h=>ih _ (Gw r h _)
 exact key R [] sS
structure Ej(E:List Ed)(A:RM):Prop where
 row:∀ a∈A,∃ p,a.1=pk p/\a.2.2.1=(jC E p).length/\a.2.2.2=eds (jC E p)
 all:∀ e∈E,pk (prE e)∈A.map (·.1)
theorem qW(E:List Ed)(x:Ed)(p:Int×Int):jC (E++[x]) p=if prE x=p then jC E p++[x]else jC E p:=by
 unfold jC;rw[aBu];by_cases h:prE x=p
 .rw[aAe h];simp[h]
 .rw[aAa h];simp[h]
theorem Tf{p q:Int×Int}(h:pk p=pk q):p=q:=by simp only[pk,aBj,aDo]at h;exact aDD h.1 h.2
theorem Ej.get{E:List Ed}{A:RM}(h:Ej E A)(hn:(A.map (·.1)).Nodup)(p:Int×Int):
 (jC E p=[]/\getM (pk p) A=none)\/∃ t,getM (pk p) A=some (t,(jC E p).length,eds (jC E p)):=by
 cases hg:getM (pk p) A with
 |none=>refine .inl ⟨?_,rfl⟩;refine aCw.2 fun e he=>?_;obtain⟨h1,h2⟩:=aAz.1 he;exact getM_none hg (by rw[<- aBY h2];exact h.all e h1)
 |some x=>obtain⟨t,n,c⟩:=x;obtain⟨q,h1,h2,h3⟩:=h.row _ (mJ hg);have:=Tf h1;subst this;simp only at h2 h3;exact .inr ⟨t,by rw[h2,h3]⟩
theorem Ej.add{E:List Ed}{A:RM}(h:Ej E A)(hn:(A.map (·.1)).Nodup)(x:Ed)(t:Nat):
 Ej (E++[x]) (mO (pk (prE x)) (t,(jC E (prE x)).length+1,eds (jC E (prE x))++[u x.id,u x.a,u x.b]) A):=by
 refine⟨fun a ha=>?_,fun e he=>?_⟩
 .rcases oR hn a ha with rfl|⟨ha,Wx⟩
  .refine⟨prE x,rfl,?_,?_⟩
   .rw[qW,aAe rfl];simp
   .rw[qW,aAe rfl];simp[eds,edL]
  .obtain⟨p,h1,h2,h3⟩:=h.row a ha;have:¬prE x=p:=fun e=>Wx (by rw[h1,e]);exact⟨p,h1,by rw[qW,aAa this];exact h2,by rw[qW,aAa this];exact h3⟩
 .by_cases hk:pk (prE x)∈A.map (·.1)
  .rw[vO hk];rcases aAg.1 he with he|he
   .exact h.all e he
   .rw[aAl]at he;rw[he];exact hk
  .rw[AW hk,aAv,aAg];rcases aAg.1 he with he|he
   .exact .inl (h.all e he)
   .rw[aAl]at he;rw[he];exact .inr sS
def tF(T:TL)(A:RM):Prop:=A.map (fun a=>(a.1,a.2.2))=T.map fun p=>([p.1],(p.2.length,us p.2))
theorem tF.get{v:Int}:∀ {T:TL} {A:RM},tF T A->(dS v T=[]/\getM [v] A=none)\/∃ t,getM [v] A=some (t,(dS v T).length,us (dS v T))
 |[],[],_=>.inl ⟨rfl,rfl⟩
 |[],a::A,h=>by cases h
 |p::T,[],h=>by cases h
 |p::T,a::A,h=>by
  obtain⟨ak,at',an,ac⟩:=a;simp only[tF,aAj,aBj,aAV]at h;obtain⟨⟨h1,h2,h3⟩,h4⟩:=h;subst h1;subst h2;subst h3;unfold dS getM;by_cases e:p.1=v
  .rw[aAe e,aAe (by simp[e])];exact .inr ⟨at',rfl⟩
  .rw[aAa e,aAa (by simpa using fun h=>e h.symm)];exact tF.get h4
theorem tF.add{v:Int}{ds:List Int}(t:Nat):∀ {T:TL} {A:RM},tF T A->tF (oK v ds T) (mO [v] (t,(dS v T).length+ds.length,us (dS v T)++us ds) A)
 |[],[],_=>by simp[tF,oK,mO,dS]
 |[],a::A,h=>by cases h
 |p::T,[],h=>by cases h
 |p::T,a::A,h=>by
  obtain⟨ak,at',an,ac⟩:=a;simp only[tF,aAj,aBj,aAV]at h;obtain⟨⟨h1,h2,h3⟩,h4⟩:=h;subst h1;subst h2;subst h3;unfold dS oK mO;by_cases e:p.1=v
  .rw[aAe e,aAe e,aAe (by simp[e])];simp only[tF,aAj,aBj,aAV];exact⟨⟨trivial,sS,sS⟩,h4⟩
  .rw[aAa e,aAa e,aAa (by simpa using fun h=>e h.symm)];have:=tF.add (v:=v) (ds:=ds) t (T:=T) (A:=A) h4;simp only[tF,aAj,aBj]at this ⊢;exact⟨trivial,this⟩
end Aw
namespace Aw
open Go Go.RowKit Pl Eu
def PF(F:List (List Int)):List (Int×Int):=F.flatMap prs
def Con(F:List (List Int)):Prop:=∀ R:(Int×Int)->(Int×Int)->Prop,(∀ p q,R p q->R q p)->(∀ p q r,R p q->R q r->R p r)->(∀ r∈F,∀ p∈prs r,∀ q∈prs r,R p q)->(∀ p∈PF F,R p p.swap)->∀ p∈PF F,∀ q∈PF F,R p q
structure Drn(E:List Ed)(h:Sh):Prop where
 nd:(PF h.F).Nodup
 mem:∀ u v,(u,v)∈PF h.F↔u≠v/\prP u v∈h.L
 lnd:h.L.Nodup
 sub:∀ p∈h.L,∃ e∈E,prE e=p
 on:∀ v,v∈h.on↔∃ u,u≠v/\prP u v∈h.L
 cnt:h.F.length+((vsF E).filter fun v=>decide (v∈h.on)).length=h.L.length+2
 con:Con h.F
 ne:∀ r∈h.F,r≠[]
theorem bL(u v:Int):prP u v=prP v u:=by unfold prP;rw[Int.min_comm,Int.max_comm]
theorem cG{u v x y:Int}(h:prP u v=prP x y):(u=x/\v=y)\/(u=y/\v=x):=by unfold prP at h;injection h with h1 h2;omega
theorem fX{F:List (List Int)}{p:Int×Int}:p∈PF F↔∃ r∈F,p∈prs r:=aAT
theorem vD:∀ {w:List Int} {v:Int},2<=w.length->v∈w->∃ u,(u,v)∈lnk w\/(v,u)∈lnk w
 |a::b::l,v,_,h=>by
  rcases aAf.1 h with rfl|h
  .exact⟨b,.inr (by simp[lnk])⟩
  .rcases aAf.1 h with rfl|h'
   .exact⟨a,.inl (by simp[lnk])⟩
   .have h2:2<=(b::l).length:=by have:=aEk h';simp;omega
    obtain⟨u,hu⟩:=vD (w:=b::l) h2 h;exact⟨u,hu.imp (fun k=>aAk _ k) fun k=>aAk _ k⟩
theorem Hu{r:List Int}{v:Int}(h:v∈r):∃ u,(v,u)∈prs r:=by
 obtain⟨A,B,rfl⟩:=aCf h;unfold prs;cases A with
 |nil=>
  rw[List.nil_append,List.cons_append];cases B with
  |nil=>exact⟨v,by simp[lnk]⟩
  |cons b B=>exact⟨b,by simp[lnk]⟩
 |cons a A=>
  have e:(a::A++v::B)++(a::A++v::B).take 1=(a::A)++v::(B++[a]):=sS;rw[e,iO];cases B with
  |nil=>exact⟨a,aAI _ (by simp[lnk])⟩
  |cons b B=>exact⟨b,aAI _ (by simp[lnk])⟩
theorem Um{r:List Int}{x y:Int}(h:(x,y)∈prs r):x∈r/\y∈r:=by unfold prs at h;have:=gA h;rw[aAg,aAg]at this;exact⟨this.1.elim id aCu,this.2.elim id aCu⟩
theorem mM:∀(P L:List (Int×Int)),P.Nodup->(∀ p∈P,p∉L)->P.foldl JL L=L++P
 |[],L,_,_=>by simp
 |p::P,L,hn,h=>by
  obtain⟨h1,h2⟩:=aAD.1 hn
  rw[List.foldl_cons,JL,aAa (h p aAq),mM P (L++[p]) h2 fun q hq hm=>by
   rw[aAg,aAl]at hm;rcases hm with hm|rfl
   .exact h q (aAk _ hq) hm
   .exact h1 hq]
  simp
theorem kK{w:List Int}(h:w.Nodup):(iV w).Nodup:=by
 obtain⟨h1,h2⟩:=gY h;rw[gK,List.nodup_iff_pairwise_ne,aAU];refine h1.imp_of_mem fun {p q} hp hq Wx e=>?_;rcases cG e with⟨e1,e2⟩|⟨e1,e2⟩
 .exact Wx (aDD e1 e2)
 .exact(h2 p.1 p.2 hp).2 (by rw[e1,e2];exact hq)
theorem HK{l M on w:List Int}(hl:l.Nodup)(hM:M.Nodup)(Yn:∀ v∈M,v∈l)(hMo:∀ v∈M,v∉on)(hw:∀ v∈l,v∈w↔v∈M\/(v∈w/\v∈on)):(l.filter fun v=>decide (v∈on++w)).length=(l.filter fun v=>decide (v∈on)).length+M.length:=by
 have hp:(l.filter fun v=>decide (v∈on++w)).Perm ((l.filter fun v=>decide (v∈on))++M):=by
  refine(aBk (hl.sublist aBq) (aAs.2 ⟨hl.sublist aBq,hM,?_⟩)).2 fun v=>?_
  .rintro a ha b hb rfl;rw[aAz,aAO]at ha;exact hMo a hb ha.2
  .rw[aAz,aAO,aAg,aAg,aAz,aAO];constructor
   .rintro⟨h1,h2|h2⟩
    .exact .inl ⟨h1,h2⟩
    .rcases(hw v h1).1 h2 with h|h
     .exact .inr h
     .exact .inl ⟨h1,h.2⟩
   .rintro(⟨h1,h2⟩|h)
    .exact⟨h1,.inl h2⟩
    .exact⟨Yn v h,.inr ((hw v (Yn v h)).2 (.inl h))⟩
 have:=hp.length_eq
 rwa [aAh]at this
theorem wO{w:List Int}(hw:2<=w.length):w=w.getD 0 0::(eT w++[w.getD (w.length-1) 0]):=by
 have hl:w.length-1<w.length:=oO;have a1:w=w.getD 0 0::w.drop 1:=by
  cases w with
  |nil=>simp at hw
  |cons x w=>rfl
 have a2:w.drop 1=eT w++[w.getD (w.length-1) 0]:=by
  have e3:w.drop (w.length-1+1)=[]:=aDf oO;unfold eT
  conv=>lhs;rw[<- aAH (w.length-2) (w.drop 1)]
  rw[aCN,show 1+(w.length-2)=w.length-1 by omega,aAc,aAd hl,Option.getD_some,aAM hl,e3]
 rw[<- a2];exact a1
section
variable {E:List Ed} {h:Sh} (hD:Drn E h)
include hD
theorem Drn.ring_on{r:List Int}(hr:r∈h.F){v:Int}(hv:v∈r):v∈h.on:=by obtain⟨u,hu⟩:=Hu hv;have:=(hD.mem v u).1 (fX.2 ⟨r,hr,hu⟩);exact(hD.on v).2 ⟨u,fun e=>this.1 e.symm,by rw[bL];exact this.2⟩
theorem Drn.on_vs{v:Int}(hv:v∈h.on):v∈vsF E:=by
 obtain⟨u,hu,hm⟩:=(hD.on v).1 hv;obtain⟨e,he,hp⟩:=hD.sub _ hm;rw[bJ];rcases cG hp with⟨e1,e2⟩|⟨e1,e2⟩
 .exact⟨e,he,.inr e2.symm⟩
 .exact⟨e,he,.inl e1.symm⟩
theorem Drn.lay{w:List Int}{at':Nat}(C0:at' < h.F.length)(ZP:2<=w.length)(hwn:w.Nodup)(h1:w.getD 0 0∈h.F.getD at' [])(h2:w.getD (w.length-1) 0∈h.F.getD at' [])(hm:∀ v∈eT w,v∉h.on)
 (hp:∀ x y,(x,y)∈lnk w->prP x y∉h.L/\∃ e∈E,prE e=prP x y):Drn E (rO h w at'):=by
 have ews:=wO ZP;have Wx:w.getD 0 0≠w.getD (w.length-1) 0:=fun e=>by rw[ews,e]at hwn;exact(aAD.1 hwn).1 sS
 obtain⟨a,b,ha,hb,q1,q2,q3⟩:=RV ZP Wx h1 h2;obtain⟨n1,n2⟩:=gY hwn;have hrin:h.F.getD at' []∈h.F:=by rw[aAc,aAd C0];exact aAu _
 have o1:=hD.ring_on hrin h1;have o2:=hD.ring_on hrin h2;have hFs:∃ F1 F2,h.F=F1++h.F.getD at' []::F2/\∀ r,h.F.set at' r=F1++r::F2:=by
  refine⟨h.F.take at',h.F.drop (at'+1),?_,fun r=>?_⟩
  .rw[aAc,aAd C0,Option.getD_some,<- aAM C0,aAH]
  .rw[aBH,aAe C0]
 obtain⟨F1,F2,f1,f2⟩:=hFs;have hlen:(rO h w at').F.length=h.F.length+1:=by simp[rO]
 have hF:(rO h w at').F=(h.F.set at' (jA (h.F.getD at' []) ((h.F.getD at' []).idxOf (w.getD 0 0)) ((h.F.getD at' []).idxOf (w.getD (w.length-1) 0))++(eT w).reverse))++[jA (h.F.getD at' []) ((h.F.getD at' []).idxOf (w.getD (w.length-1) 0)) ((h.F.getD at' []).idxOf (w.getD 0 0))++eT w]:=rfl;rw[f2]at hF;have hL:(rO h w at').L=h.L++iV w:=by
  have:(rO h w at').L=kF h.L w:=rfl;rw[this];exact mM _ _ (kK hwn) fun p W2=>by rw[gK]at W2;obtain⟨q,hq,rfl⟩:=aAm.1 W2;exact(hp q.1 q.2 hq).1
 have hOn:(rO h w at').on=h.on++w:=rfl;generalize rO h w at'=h' at *;generalize jA (h.F.getD at' []) ((h.F.getD at' []).idxOf (w.getD 0 0)) ((h.F.getD at' []).idxOf (w.getD (w.length-1) 0))++(eT w).reverse=r1 at *;generalize jA (h.F.getD at' []) ((h.F.getD at' []).idxOf (w.getD (w.length-1) 0)) ((h.F.getD at' []).idxOf (w.getD 0 0))++eT w=r2 at *;generalize h.F.getD at' []=r at *;have hPF:(PF h'.F).Perm (PF h.F++(lnk w++lnk w.reverse)):=by
  rw[hF,f1];unfold PF;simp only[aCC,aAJ,aDG,aAP];rw[q2,q3];have e1:(List.flatMap prs F1++(a++lnk w.reverse++List.flatMap prs F2)++(b++lnk w)).Perm (List.flatMap prs F1++((a++b)++List.flatMap prs F2)++(lnk w++lnk w.reverse)):=by rw[List.perm_iff_count];intro x;simp only[List.count_append];omega
  refine e1.trans ?_;exact(((q1.symm.append_right _).append_left _).append_right _)
 have I2:∀ u v,prP u v∈iV w↔(u,v)∈lnk w\/(v,u)∈lnk w:=fun u v=>by
  rw[gK,aAm];constructor
  .rintro⟨q,hq,e⟩;rcases cG e with⟨e1,e2⟩|⟨e1,e2⟩
   .left;rw[<- e1,<- e2];exact hq
   .right;rw[<- e1,<- e2];exact hq
  .rintro(k|k)
   .exact⟨_,k,rfl⟩
   .exact⟨_,k,bL _ _⟩
 have M9:∀ u v,(u,v)∈lnk w.reverse↔(v,u)∈lnk w:=fun u v=>by
  rw[(nH w).mem_iff,aAm];constructor
  .rintro⟨q,hq,e⟩;have:q=(v,u):=by rw[<- aEv q,e];rfl
   rw[<- this];exact hq
  .intro k;exact⟨_,k,rfl⟩
 have Zt:∀ u v,(u,v)∈PF h'.F↔u≠v/\prP u v∈h'.L:=fun u v=>by
  rw[hPF.mem_iff,aAg,aAg,hD.mem,M9,hL,aAg,I2];constructor
  .rintro(⟨k1,k2⟩|k|k)
   .exact⟨k1,.inl k2⟩
   .exact⟨(n2 _ _ k).1,.inr (.inl k)⟩
   .exact⟨fun e=>(n2 _ _ k).1 e.symm,.inr (.inr k)⟩
  .rintro⟨k1,k2|k|k⟩
   .exact .inl ⟨k1,k2⟩
   .exact .inr (.inl k)
   .exact .inr (.inr k)
 have hmid:∀ v∈w,v∈eT w\/v∈h.on:=fun v hv=>by
  rw[ews]at hv;rcases aAf.1 hv with e|hv
  .exact .inr (by rw[e];exact o1)
  .rcases aAg.1 hv with hv|hv
   .exact .inl hv
   .exact .inr (by rw[aAl.1 hv];exact o2)
 refine⟨?_,Zt,?_,?_,?_,?_,?_,?_⟩
 .refine hPF.nodup_iff.2 (aAs.2 ⟨hD.nd,aAs.2 ⟨n1,(gY ((aCy w).nodup_iff.2 hwn)).1,?_⟩,?_⟩)
  .rintro⟨x,y⟩ hx _ hy rfl;exact(n2 x y hx).2 ((M9 _ _).1 hy)
  .rintro⟨x,y⟩ hx _ hy rfl;have k:=((hD.mem x y).1 hx).2;rcases aAg.1 hy with hy|hy
   .exact(hp x y hy).1 k
   .exact(hp y x ((M9 _ _).1 hy)).1 (by rw[bL];exact k)
 .rw[hL];refine aAs.2 ⟨hD.lnd,kK hwn,?_⟩;rintro p ZF _ Zg rfl;rw[gK]at Zg;obtain⟨q,hq,rfl⟩:=aAm.1 Zg;exact(hp q.1 q.2 hq).1 ZF
 .intro p Xi;rw[hL]at Xi;rcases aAg.1 Xi with k|k
  .exact hD.sub p k
  .rw[gK]at k;obtain⟨q,hq,rfl⟩:=aAm.1 k;exact(hp q.1 q.2 hq).2
 .intro v;rw[hOn,aAg,hD.on,hL];constructor
  .rintro(⟨u,k1,k2⟩|k)
   .exact⟨u,k1,aAw _ k2⟩
   .obtain⟨u,k|k⟩:=vD ZP k
    .exact⟨u,(n2 _ _ k).1,aAI _ ((I2 u v).2 (.inl k))⟩
    .exact⟨u,fun e=>(n2 _ _ k).1 e.symm,aAI _ ((I2 u v).2 (.inr k))⟩
  .rintro⟨u,k1,k2⟩;rcases aAg.1 k2 with k|k
   .exact .inl ⟨u,k1,k⟩
   .right;rcases(I2 u v).1 k with k|k
    .exact(gA k).2
    .exact(gA k).1
 .have hmn:(eT w).Nodup:=by rw[ews]at hwn;exact(aAs.1 (aAD.1 hwn).2).1
  have hvw:∀ v∈w,v∈vsF E:=fun v hv=>by
   obtain⟨u,k|k⟩:=vD ZP hv
   .obtain⟨e,he,Zb⟩:=(hp _ _ k).2;rw[bJ];rcases cG Zb with⟨e1,e2⟩|⟨e1,e2⟩
    .exact⟨e,he,.inr e2.symm⟩
    .exact⟨e,he,.inl e1.symm⟩
   .obtain⟨e,he,Zb⟩:=(hp _ _ k).2;rw[bJ];rcases cG Zb with⟨e1,e2⟩|⟨e1,e2⟩
    .exact⟨e,he,.inl e1.symm⟩
    .exact⟨e,he,.inr e2.symm⟩
  have hc:=HK (l:=vsF E) (M:=eT w) (on:=h.on) (w:=w) ((kR E).imp fun k=>by omega) hmn (fun v hv=>hvw v (qA hv)) hm fun v _=>⟨fun k=>(hmid v k).imp id fun k2=>⟨k,k2⟩,fun k=>k.elim qA And.left⟩;have ZK:=uD w;have P1:=hD.cnt;have hwl:=mQ w;rw[hlen,hOn,hL,aAh,hc];omega
 ·
  intro R hs ht hr YT;have m1:∀ p∈prs r1,p∈PF h'.F:=fun p k=>fX.2 ⟨r1,by rw[hF];simp,k⟩;have m2:∀ p∈prs r2,p∈PF h'.F:=fun p k=>fX.2 ⟨r2,by rw[hF];simp,k⟩;have w1:=hr r1 (by rw[hF];simp);have w2:=hr r2 (by rw[hF];simp);obtain⟨x0,y0,YH⟩:∃ x y,(x,y)∈lnk w:=by
   obtain⟨u,k|k⟩:=vD ZP (v:=w.getD 0 0) (by rw[aAc,aAd (by omega:0<w.length)];exact aAu _)
   .exact⟨_,_,k⟩
   .exact⟨_,_,k⟩
  have c2:(x0,y0)∈prs r2:=by rw[q3];exact aAI _ YH
  have c1:(y0,x0)∈prs r1:=by rw[q2];exact aAI _ ((M9 _ _).2 YH)
  have cc:R (x0,y0) (y0,x0):=YT _ (m2 _ c2);have both:∀ p,p∈prs r1\/p∈prs r2->R p (x0,y0):=by
   rintro p (k|k)
   .exact ht _ _ _ (w1 p k _ c1) (hs _ _ cc)
   .exact w2 p k _ c2
  have YA:∀ p∈prs r,p∈prs r1\/p∈prs r2:=fun p k=>by
   rcases aAg.1 (q1.mem_iff.1 k)with k|k
   .left;rw[q2];exact aAw _ k
   .right;rw[q3];exact aAw _ k
  have old:∀ p∈PF h.F,∀ q∈PF h.F,R p q:=by
   refine hD.con R hs ht (fun t htF p Zh q P3=>?_) fun p Zh=>YT p (hPF.mem_iff.2 (aAw _ Zh));rw[f1]at htF;rcases aAg.1 htF with k|k
   .exact hr t (by rw[hF];simp[k]) p Zh q P3
   .rcases aAf.1 k with e|k
    .subst e;exact ht _ _ _ (both p (YA p Zh)) (hs _ _ (both q (YA q P3)))
    .exact hr t (by rw[hF];simp[k]) p Zh q P3
  obtain⟨p0,hp0⟩:=aBp a ha;have k0:p0∈prs r:=q1.mem_iff.2 (aAw _ hp0);have k1:p0∈PF h.F:=fX.2 ⟨r,hrin,k0⟩;have z:R p0 (x0,y0):=both p0 (YA p0 k0);have all:∀ p∈PF h'.F,R p (x0,y0):=fun p W2=>by
   rcases aAg.1 (hPF.mem_iff.1 W2)with k|k
   .exact ht _ _ _ (old p k p0 k1) z
   .refine both p ?_;rcases aAg.1 k with k|k
    .right;rw[q3];exact aAI _ k
    .left;rw[q2];exact aAI _ k
  exact fun p Zh q P3=>ht _ _ _ (all p Zh) (hs _ _ (all q P3))
 .intro t ht;rw[hF]at ht;have nil:prs []=[]:=rfl;rcases aAg.1 ht with k|k
  .rcases aAg.1 k with k|k
   .exact hD.ne t (by rw[f1];simp[k])
   .rcases aAf.1 k with e|k
    .rintro e0;rw[<- e,e0,nil]at q2;exact ha (aEo.1 q2.symm).1
    .exact hD.ne t (by rw[f1];simp[k])
  .rw[aAl]at k;rintro e0;rw[<- k,e0,nil]at q3;exact hb (aEo.1 q3.symm).1
end
end Aw
end Go.Proofs.YtempldclppogmaaGreatDoor
