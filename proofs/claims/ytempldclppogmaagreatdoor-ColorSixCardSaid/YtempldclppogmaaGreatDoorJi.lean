/- plane: Around. -/
import Derived.Test.YtempldclppogmaaGreatDoorJh
import Derived.Test.YtempldclppogmaaGreatDoorAwMr2
import Derived.RangeFuncSeq
import Derived.Maps.RangeWalk
import Derived.Test.YtempldclppogmaaGreatDoorAwGo
set_option linter.unusedVariables false
set_option linter.unusedSimpArgs false
set_option maxHeartbeats 2000000
open Go.Proofs.Tryz
namespace Go.Proofs.YtempldclppogmaaGreatDoor
namespace Aw
open Go Go.RowKit Pl
abbrev Tn:=List (Int×List (Int×Int))
def qQ(x y:Int):List (Int×Int)->List (Int×Int)
 |[]=>[(x,y)]
 |p::P=>if p.1=x then(x,y)::P else p::qQ x y P
def gH(v x y:Int):Tn->Tn
 |[]=>[(v,[(x,y)])]
 |a::A=>if a.1=v then(v,qQ x y a.2)::A else a::gH v x y A
def iZ(n k:Nat):Nat:=if k=0 then n-1 else k-1
def jR(r:List Int)(A:Tn):Nat->Tn
 |0=>A
 |j+1=>gH (r.getD j 0) (r.getD (iZ r.length j) 0) (r.getD ((j+1) % r.length) 0) (jR r A j)
def aY(R:List (List Int)):Tn:=R.foldl (fun A r=>jR r A r.length) []
def inL(P:List (Int×Int)):List (List Int×LV):=P.map fun p=>([p.1],u p.2)
theorem FD(x y:Int):∀ P,bP (inL P) [x] (u y)=inL (qQ x y P)
 |[]=>rfl
 |p::P=>by
  have ih:=FD x y P;unfold qQ;simp only[inL,aAi,bP,aBi,aDn]at ih ⊢;by_cases h:p.1=x
  .rw[aAe h,aAe (by simp[h])];rfl
  .rw[aAa h,aAa (by simpa using fun e=>h e.symm),ih];rfl
def ouL(A:Tn)(loc:Int->Nat):List (List Int×LV):=A.map fun a=>([a.1],.mp (loc a.1))
structure MM(A:Tn)(loc:Int->Nat)(o:Nat)(lo st:St):Prop where
 out:st.H o=.map false [.u32] (ouL A loc)
 olt:lo.next<=o/\o<st.next
 inn:∀ a∈A,st.H (loc a.1)=.map false [.u32] (inL a.2)/\(lo.next<=loc a.1/\loc a.1≠o)/\loc a.1<st.next
 inj:∀ a∈A,∀ b∈A,loc a.1=loc b.1->a.1=b.1
 nd:(A.map (·.1)).Nodup
 kp:aA lo st
theorem EA(A:Tn)(loc:Int->Nat)(v:Int):bQ (ouL A loc) [v]=if v∈A.map (·.1)then some (.mp (loc v))else none:=by
 induction A with
 |nil=>rfl
 |cons a A ih=>
  simp only[ouL,aAi,bQ,aAf]at ih ⊢;by_cases h:a.1=v
  .rw[aAe (by simp[h]),aAe (.inl h.symm),h]
  .rw[aAa (by simpa using fun e=>h e.symm),ih];have:¬v=a.1:=fun e=>h e.symm;simp only[this,false_or]
theorem SC{A:Tn}{v:Int}(loc:Int->Nat)(l:Nat)(h:v∉A.map (·.1)):bP (ouL A loc) [v] (.mp l)=ouL (A++[(v,[])]) (fun x=>if x=v then l else loc x):=by
 rw[Ai]
 .unfold ouL;rw[aAu]
  congr 1
  .refine aAU fun a ha=>?_;have:a.1≠v:=fun e=>h (e ▸ aAm.2 ⟨a,ha,rfl⟩);simp only[aAa this]
  .simp
 .intro hm;obtain⟨q,hq,e⟩:=aAm.1 hm;obtain⟨a,ha,rfl⟩:=aAm.1 hq;simp only[aBi,aDn]at e;exact h (e ▸ aAm.2 ⟨a,ha,rfl⟩)
theorem MM.add{A:Tn}{loc:Int->Nat}{o:Nat}{lo s:St}(h:MM A loc o lo s){v:Int}(hv:v∉A.map (·.1)):
 MM (A++[(v,[])]) (fun x=>if x=v then s.next else loc x) o lo ((s.new (.map false [.u32] [])).set o (.map false [.u32] (ouL (A++[(v,[])]) (fun x=>if x=v then s.next else loc x)))):=by
 obtain⟨h1,h2,h3,h4,h5,h6⟩:=h;have Wu:∀ a∈A,a.1≠v:=fun a ha e=>hv (e ▸ aAm.2 ⟨a,ha,rfl⟩);have hn:=h6.next;refine⟨sS,⟨h2.1,by simp;omega⟩,fun a ha=>?_,fun a ha b hb e=>?_,?_,(h6.trans (aA.new _ _)).set h2.1 _⟩
 .rcases aAg.1 ha with ha|ha
  .obtain⟨k1,k2,k3⟩:=h3 a ha;simp only[aAa (Wu a ha)];have e1:¬loc a.1=o:=k2.2;refine⟨?_,k2,by simp;omega⟩;rw[bF,aAa e1,bX,aAa oO];exact k1
  .rw[aAl]at ha;subst ha;simp only[aBq];refine⟨?_,⟨hn,oO⟩,sS⟩;rw[bF,aAa oO,bX,aAe rfl];rfl
 .rcases aAg.1 ha with ha|ha
  .rcases aAg.1 hb with hb|hb
   .simp only[aAa (Wu a ha),aAa (Wu b hb)]at e;exact h4 a ha b hb e
   .rw[aAl]at hb;subst hb;simp only[aAa (Wu a ha),aBq]at e;have:=(h3 a ha).2.2;omega
  .rw[aAl]at ha;subst ha;rcases aAg.1 hb with hb|hb
   .simp only[aAa (Wu b hb),aBq]at e;have:=(h3 b hb).2.2;omega
   .rw[aAl]at hb;subst hb;rfl
 .rw[aAu,aAs];refine⟨h5,sS,fun a ha b hb e=>?_⟩;simp only[aAi,aBt,aAl]at hb;subst hb;subst e;exact hv ha
theorem CZ(v x y:Int):∀ A:Tn,v∈A.map (·.1)->(gH v x y A).map (·.1)=A.map (·.1)
 |a::A,h=>by
  unfold gH;by_cases e:a.1=v
  .rw[aAe e];simp[e]
  .rw[aAa e,aAi,aAi,CZ v x y A];simp only[aAi,aAf]at h;exact h.resolve_left fun h=>e h.symm
theorem Fi{v x y:Int}{P:List (Int×Int)}:∀ {A:Tn},(A.map (·.1)).Nodup->(v,P)∈A->∀ a,a∈gH v x y A->a=(v,qQ x y P)\/(a∈A/\a.1≠v)
 |b::A,hn,h,a,ha=>by
  obtain⟨n1,n2⟩:=aAy.1 (by simpa using hn:(b.1::A.map (·.1)).Nodup);unfold gH at ha;by_cases e:b.1=v
  .rw[aAe e]at ha;have hb:(v,P)=b:=by
    rcases aAf.1 h with h|h
    .exact h
    .exact absurd (aAm.2 ⟨_,h,rfl⟩) (e ▸ n1)
   subst hb;rcases aAf.1 ha with ha|ha
   .exact .inl ha
   .exact .inr ⟨aAj _ ha,fun h2=>n1 (aAm.2 ⟨a,ha,h2⟩)⟩
  .rw[aAa e]at ha;rcases aAf.1 ha with ha|ha
   .exact .inr ⟨by simp[ha],by rw[ha];exact e⟩
   .have h2:(v,P)∈A:=by
     rcases aAf.1 h with h|h
     .exact absurd (by rw[<- h]) e
     .exact h
    rcases Fi n2 h2 a ha with h3|⟨h3,h4⟩
    .exact .inl h3
    .exact .inr ⟨aAj _ h3,h4⟩
theorem Hr(v x y:Int):∀ A:Tn,v∉A.map (·.1)->gH v x y (A++[(v,[])])=gH v x y A
 |[],_=>by simp[gH,qQ]
 |a::A,h=>by simp only[aAi,aAf,aBV]at h;have e:¬a.1=v:=fun e=>h.1 e.symm;simp only[List.cons_append,gH,aAa e,Hr v x y A h.2]
theorem MM.put{A:Tn}{loc:Int->Nat}{o:Nat}{lo s:St}(h:MM A loc o lo s){v x y:Int}{P:List (Int×Int)}(hv:(v,P)∈A):
 MM (gH v x y A) loc o lo (s.set (loc v) (.map false [.u32] (inL (qQ x y P)))):=by
 obtain⟨h1,h2,h3,h4,h5,h6⟩:=h;have hk:=CZ v x y A (aAm.2 ⟨_,hv,rfl⟩);obtain⟨k1,k2,k3⟩:=h3 _ hv;have Xl:∀ a∈gH v x y A,∃ b∈A,b.1=a.1:=fun a ha=>by
  have:a.1∈A.map (·.1):=by rw[<- hk];exact aAm.2 ⟨a,ha,rfl⟩
  obtain⟨b,hb,e⟩:=aAm.1 this;exact⟨b,hb,e⟩
 have ho:ouL (gH v x y A) loc=ouL A loc:=by
  have e:∀ B:Tn,ouL B loc=(B.map (·.1)).map fun k=>([k],LV.mp (loc k)):=fun B=>by simp[ouL]
  rw[e,e,hk]
 have e1:¬o=loc v:=fun e=>k2.2 e.symm;refine⟨?_,⟨h2.1,h2.2⟩,fun a ha=>?_,fun a ha b hb e=>?_,by rw[hk];exact h5,h6.set k2.1 _⟩
 .rw[bF,aAa e1,h1,ho]
 .rcases Fi h5 hv a ha with rfl|⟨ha,Wu⟩
  .exact⟨sS,k2,k3⟩
  .obtain⟨q1,q2,q3⟩:=h3 a ha;refine⟨?_,q2,q3⟩;rw[bF,aAa fun e=>Wu (h4 a ha _ hv e)];exact q1
 .obtain⟨a2,ha2,ea⟩:=Xl a ha;obtain⟨b2,u7,eb⟩:=Xl b hb;rw[<- ea,<- eb]at e ⊢;exact h4 a2 ha2 b2 u7 e
theorem Oa(R:List (List Int))(st:St)(hR:R.length<=300)(hr:∀ r∈R,r.length<=1000):
 aB prog 45 [.sl 0 R.length (eZ R)] st fun r st'=>∃ o loc,r=.mp o/\MM (aY R) loc o st st':=by
 refine zN func45 ntmps45 [.tmp 2] ?_
 (repeat' (first|apply qS|apply qB|(refine zE ?_;intro J hJ;simp[];refine zJ hJ ?_)))
 have e0:st.next<st.next+1:=oO;refine aZ 12 11 13 50 (R.length) (fun j fr st2=>fr 3=.mp st.next/\fr 10=.sl 0 R.length (eZ R)/\∃ loc,MM ((R.take j).foldl (fun A r=>jR r A r.length) []) loc st.next st st2) ?_ ?_ ?_
 .exact⟨sS,sS,fun _=>0,by simp[ouL],sS,sS,sS,sS,aA.new _ _⟩
 .rintro j0 fr s GD ⟨f3,f10,loc,hM⟩ fi fn JO hJO;have hd:=Is R j0 GD;have Xx:(R.take (j0+1)).foldl (fun A r=>jR r A r.length) []=jR (R.getD j0 []) ((R.take j0).foldl (fun A r=>jR r A r.length) []) (R.getD j0 []).length:=by have h1:R.take (j0+1)=R.take j0++[R[j0]]:=aAn GD;rw[h1,aBm,aAc,aAd GD];rfl
  have hl:(R.getD j0 []).length<=1000:=hr _ (by rw[aAc,aAd GD];exact aAA _);generalize (R.take j0).foldl (fun A r=>jR r A r.length) []=A0 at *;generalize R.getD j0 []=r at *;have w1:IntKind.i64.wrap ((r.length:Int)-1)=(r.length:Int)-1:=zW
  (repeat' (first|apply qS|apply qB|(refine zE ?_;intro J hJ;simp[f3,f10,fi,fn,GD,hd,w1];refine zJ hJ ?_)))
  have x9:∀ loc' Xg s',Xg 3=.mp st.next->Xg 10=.sl 0 R.length (eZ R)->Xg 12=i j0->Xg 11=i R.length->MM (jR r A0 r.length) loc' st.next st s'->JO Xg s':=fun loc' Xg s' g1 g2 g3 g4 g5=>hJO _ _ g3 g4 ⟨by simp[g1],by simp[g2],loc',by rw[Xx];exact g5⟩;clear hJO Xx;refine aZ 21 20 22 49 (r.length) (fun j fr st2=>(fr 3=.mp st.next/\fr 10=.sl 0 R.length (eZ R)/\fr 12=i j0/\fr 11=i R.length)/\fr 5=.sl 0 r.length (us r)/\fr 19=.sl 0 r.length (us r)/\fr 6=i (if j=0 then(r.length:Int)-1 else(j:Int)-1)/\∃ loc,MM (jR r A0 j) loc st.next st st2) ?_ ?_ ?_
  .exact⟨⟨by simp[f3],by simp[f10],by simp[fi],by simp[fn]⟩,sS,sS,sS,loc,hM⟩
  .clear f3 f10 fi fn hM loc s fr;rintro k fr s Ze ⟨⟨f3,f10,f12,f11⟩,f5,f19,f6,loc,hM⟩ fi fn JO2 hJO2;have hdk:=qG r k Ze;have hpk:iZ r.length k<r.length:=by unfold iZ;split<;>omega
   have hpi:(if k=0 then(r.length:Int)-1 else(k:Int)-1)=((iZ r.length k:Nat):Int):=by unfold iZ;split<;>omega
   rw[hpi]at f6;have hdp:=qG r (iZ r.length k) hpk;have hmod:((k:Int)+1).tmod (r.length:Int)=(((k+1) % r.length:Nat):Int):=by rw[aEa oO];exact(Int.natCast_emod _ _).symm
   have Yw:(k+1) % r.length<r.length:=aCD _ oO;have hdm:=qG r ((k+1) % r.length) Yw;have hw:IntKind.i64.wrap ((k:Int)+1)=(k:Int)+1:=zW;have Zi:jR r A0 (k+1)=gH (r.getD k 0) (r.getD (iZ r.length k) 0) (r.getD ((k+1) % r.length) 0) (jR r A0 k):=rfl;generalize jR r A0 k=A at *;generalize iZ r.length k=pk at *;generalize (k+1) % r.length=mk' at *;generalize r.getD k 0=v at *;generalize r.getD pk 0=x at *;generalize r.getD mk' 0=y at *;have E4:¬(r.length:Int)=0:=oO;have hrn:¬r=[]:=fun e=>by rw[e]at Ze;simp at Ze
   have hpk':(pk:Int)<r.length:=oO;have Q3:(mk':Int)<r.length:=oO;have hH:=hM.out;have hg:=EA A loc v;by_cases hv:v∈A.map (·.1)
   .rw[aAe hv]at hg;obtain⟨⟨v',P⟩,hP,rfl⟩:=aAm.1 hv;simp only at hg Zi hdk;have hI:=(hM.inn _ hP).1;have C3:=FD x y P;have Zd:=hM.put (x:=x) (y:=y) hP;simp only at hI;generalize loc v'=lv at *
    (repeat' (first|apply qS|refine qK (zZ ?_)|(apply qC;simp[f3,f5,f19,f6,fi,fn,Ze,hdk,hH,hg])|(refine zE ?_;intro J hJ;simp[f3,f5,f19,f6,fi,fn,Ze,hdk,hH,hg];refine zJ hJ ?_)))
    (refine zS [] [st.next,lv] [0,2,4,6,8,10,12,14,16,18,20,22,24,26,28,31] ?_;intro J hJ;simp[f3,f5,f19,f6,fi,fn,Ze,hdk,hdp,hdm,hpk,Yw,hpk',Q3,E4,hrn,hw,hmod,hH,hg,hI];refine zJ hJ ?_)
    rw[C3]
    (repeat' (refine zE ?_;intro J hJ;simp[];refine zJ hJ ?_))
    refine hJO2 _ _ (by simp[fi]) (by simp[fn]) ⟨⟨by simp[f3],by simp[f10],by simp[f12],by simp[f11]⟩,by simp[f5],by simp[f19],sS,loc,?_⟩;rw[Zi];exact Zd
   .rw[aAa hv]at hg;have c1:¬st.next=s.next:=by have:=hM.olt;omega
    have J9:=hM.add hv;have Zo:=SC loc s.next hv;have hpa:=Hr v x y A hv
    (repeat' (first|apply qS|(apply qC;simp[f3,f5,f19,f6,fi,fn,Ze,hdk,hH,hg,c1])|(refine zE ?_;intro J hJ;simp[f3,f5,f19,f6,fi,fn,Ze,hdk,hH,hg,c1];refine zJ hJ ?_)))
    rw[Zo];generalize (s.new (.map false [.u32] [])).set st.next (.map false [.u32] (ouL (A++[(v,[])]) fun x=>if x=v then s.next else loc x))=s1 at *;generalize F6:(fun x=>if x=v then s.next else loc x)=loc1 at *;have hP:(v,[])∈A++[(v,([]:List (Int×Int)))]:=sS;have hH:=J9.out;have hg:=EA (A++[(v,[])]) loc1 v;rw[aAe sS]at hg;have hI:=(J9.inn _ hP).1;have C3:=FD x y [];have Zd:=J9.put (x:=x) (y:=y) hP;rw[hpa]at Zd;simp only at hI;generalize A++[(v,([]:List (Int×Int)))]=A1 at *;generalize loc1 v=lv at *;clear hM
    (refine zS [] [st.next,lv] [0,2,4,6,8,10,12,14,16,18,20,22,24,26,28,31] ?_;intro J hJ;simp[f3,f5,f19,f6,fi,fn,Ze,hdk,hdp,hdm,hpk,Yw,hpk',Q3,E4,hrn,hw,hmod,hH,hg,hI];refine zJ hJ ?_)
    rw[C3]
    (repeat' (refine zE ?_;intro J hJ;simp[];refine zJ hJ ?_))
    refine hJO2 _ _ (by simp[fi]) (by simp[fn]) ⟨⟨by simp[f3],by simp[f10],by simp[f12],by simp[f11]⟩,by simp[f5],by simp[f19],sS,loc1,?_⟩;rw[Zi];exact Zd
  .clear f3 f10 fi fn hM loc s fr;rintro fr s ⟨⟨f3,f10,f12,f11⟩,f5,f19,f6,loc,hM⟩
   skip
   exact x9 loc _ _ (by simp[f3]) (by simp[f10]) (by simp[f12]) (by simp[f11]) hM
 .rintro fr s ⟨f3,f10,loc,hM⟩;rw[aAQ]at hM
  (repeat' (first|apply qS|(refine qR (zZ ?_);simp[f3])|(refine zE ?_;intro J hJ;simp[f3];refine zJ hJ ?_)))
  exact⟨_,hM⟩
end Aw
namespace Rg
open Go Go.RowKit Go.Shelf
open Go.ChangeMaps (setBlock)
attribute [local go_sem] Oper.semAt_some
section
variable {F:Fence} {n:Nat} {P:Program} (w:World) {ops:Array Oper} {rest:List Oper} {o:Oper} {a:Act} {Q:Exit->Act->World->Prop}
theorem oN(hg:o.guard=none)(m:Operand)(t k e:TypeId)(o9:o.op=Op.range t m)(ht:P.underlying t=some (.map k e))(b:Nat)(dX:Array MapEntry)(clock:Nat)(hm:a.eval m=.map (some b))(hb:w.heap[b]?=some (.map dX clock))
 (hK:∀ w',w'=w.alloc (.mapIter (some b) clock #[] clock)->wpListIn F n P ops Q rest (a.put o.dst (.pointer (some ⟨w.heap.size,0,none⟩))) w'):wpListIn F n P ops Q (o::rest) a w:=by
 refine wpListIn_plain hg fun K' hK'=>?_;have Xr:=run_range_map (P:=P) w t k e b dX clock ht hb;unfold Oper.wpIn;refine⟨?_,?_⟩
 .simp[Oper.about,o9]
 .rw[Oper.semAt_plain F _ _ (by rw[o9];intro c C8;cases C8)];simp[execOp,o9,hm,Xr,Result.andThen];exact hK' _ _ (hK _ rfl)
theorem oW(hg:o.guard=none)(it:Operand)(o9:o.op=Op.next it false)(r b clock c:Nat)(seen:Array Nat)(dX:Array MapEntry)(hit:a.eval it=.pointer (some ⟨r,0,none⟩))(hi:w.heap[r]?=some (.mapIter (some b) clock seen c))(hb:w.heap[b]?=some (.map dX clock))
 (ZT:∀ x∈dX.toList,x.born<clock) (hnd:(dX.toList.map (·.born)).Nodup) (hc:clock<=c)
 (hDone:(∀ x∈dX.toList,seen.contains x.born=true)->wpListIn F n P ops Q rest (a.put o.dst (.tuple #[.bool false])) w)
 (hMore:∀(e:MapEntry) (w1 w2:World),e∈dX.toList->seen.contains e.born=false->(w1=w\/w1=w.drew)->w2=setBlock w1 r (.mapIter (some b) clock (seen.push e.born) clock)->(Instr.entry (.pointer (some ⟨r,0,none⟩))).run P w2=.ok (.tuple #[e.key,e.val]) w2->wpListIn F n P ops Q rest (a.put o.dst (.tuple #[.bool true,e.key,e.val])) w2):
 wpListIn F n P ops Q (o::rest) a w:=by
 refine wpListIn_plain hg fun K' hK'=>?_;unfold Oper.wpIn;refine⟨by simp[Oper.about,o9],?_⟩;rw[Oper.semAt_plain F _ _ (by rw[o9];intro c C8;cases C8)];rcases run_next_at (P:=P) w o.type r b clock c seen dX clock hi hb ZT hc with⟨h0,Xr⟩|⟨e,F8,w1,Yt,Xr⟩
 .simp[execOp,o9,hit,Xr,Result.andThen];exact hK' _ _ (hDone fun x hx=>all_seen dX seen h0 x hx)
 .obtain⟨J3,he2⟩:=mem_left F8;have lr:=(aAw.1 hi).1;have hbr:b≠r:=by rintro rfl;rw[hb]at hi;cases hi
  have hh:w1.heap=w.heap:=by rcases Yt with rfl|rfl<;>rfl
  have hE:=run_entry_at (P:=P) (setBlock w1 r (.mapIter (some b) clock (seen.push e.born) clock)) r b clock seen dX clock e
   (by simp only[setBlock];rw[aBe,aAe rfl,aAe (by rw[hh];exact lr)]) (by simp only[setBlock];rw[aBe,aAa (fun e=>hbr e.symm),hh];exact hb) J3 hnd
  simp[execOp,o9,hit,Xr,Result.andThen];exact hK' _ _ (hMore e w1 _ J3 he2 Yt rfl hE)
end
theorem Cj(w w1:World)(h:w1=w\/w1=w.drew)(r:Nat)(o:Obj):w.grownBy (setBlock w1 r o) (some r):=by
 have hh:w1.heap=w.heap:=by rcases h with rfl|rfl<;>rfl
 have hos:w1.os=w.os/\w1.tape=w.tape/\w1.output=w.output:=by rcases h with rfl|rfl<;>exact⟨rfl,rfl,rfl⟩
 refine⟨hos.1,hos.2.1,hos.2.2,by simp[setBlock,hh],fun b hb Wu=>?_⟩;simp only[setBlock];rw[aBe,aAa (fun e=>Wu (by rw[e])),hh]
def uL(vs:List Int)(dX:List MapEntry)(seen:Array Nat):List Int:=(Aw.lft (vs.map fun v=>([v],.dead)) dX seen).map fun e=>e.1.headD 0
theorem Ab{vs:List Int}{dX:List MapEntry}(h:vs.length=dX.length):uL vs dX #[]=vs:=by unfold uL;rw[Aw.wV (by simpa using h),aBd];exact(aAU fun v _=>rfl).trans (aEY vs)
theorem Cc{vs:List Int}{dX:List MapEntry}{seen:Array Nat}{e:MapEntry}(h:vs.length=dX.length)(Yd:dX.map (·.key)=vs.map (Value.int .u32))(hn:(dX.map (·.born)).Nodup)(he:e∈dX)(hs:seen.contains e.born=false):
 ∃ x L1 L2,e.key=.int .u32 x/\uL vs dX seen=L1++x::L2/\uL vs dX (seen.push e.born)=L1++L2:=by
 obtain⟨p,L1,L2,h1,h2,h3⟩:=Aw.HP (es:=vs.map fun v=>(([v],.dead):List Int×Aw.LV)) (by simpa using h) hn he hs;have hz:∀ q∈(vs.map fun v=>(([v],.dead):List Int×Aw.LV)).zip dX,∃ x,q.1=([x],.dead)/\q.2.key=.int .u32 x:=by intro q hq;obtain⟨j,hj,rfl⟩:=aEL.1 hq;simp only[List.length_zip,aAz]at hj;rw[List.getElem_zip,aCl];refine⟨vs[j],rfl,?_⟩;have:=congrArg (fun l=>l[j]?) Yd;simp only[aBN,aAd (show j<dX.length by omega),aAd (show j<vs.length by omega),Option.map_some,aAb]at this;exact this
 obtain⟨x,hx,hk⟩:=hz _ h3;simp only at hx hk;subst hx;exact⟨x,L1.map (fun e=>e.1.headD 0),L2.map (fun e=>e.1.headD 0),hk,by unfold uL;rw[h1];simp,by unfold uL;rw[h2];simp⟩
theorem Dc{vs:List Int}{dX:List MapEntry}{seen:Array Nat}(h:∀ x∈dX,seen.contains x.born=true):uL vs dX seen=[]:=by unfold uL;rw[Aw.GK h];rfl
def wZ(W:World)(b:Nat)(vs:List Int):Prop:=∃(dX:List MapEntry) (clock:Nat),W.heap[b]?=some (.map dX.toArray clock)/\dX.map (·.key)=vs.map (Value.int .u32)/\(∀ x∈dX,x.born<clock)/\(dX.map (·.born)).Nodup
theorem KeepsOthers.walks{W W':World}(h:KeepsOthers W W'):KeepsWalks W W':=⟨h.size,fun k o hk hw=>h.same k o hk (by cases o<;>first|rfl|cases hw)⟩
set_option maxRecDepth 100000 in
theorem RP(F:Fence)(n:Nat)(h7:F.fn 80)(o6:F.round=none)(hn:1<=n)(l Bm b:Nat)(vs:List Int)(W:World)(J Jx:List Int->World->Prop)(hJ:AbidesFrom W.heap.size J)
 (hY:∀ pre x W1,J pre W1->pre.length<vs.length->YieldAt F (n-1) prog l #[.int .u32 x] W1 fun e W'=>
   (e=.returned (.bool true)/\J (pre++[x]) W'/\KeepsWalks W1 W')\/(e=.returned (.bool false)/\Jx (pre++[x]) W'))
 (hm:W.cell? ⟨Bm,0,none⟩=some (.map (some b))) (hB:wZ W b vs) (h0:J [] W):
 CallsIn F n prog 80 #[.func (.yield l) #[] #[],.pointer (some ⟨Bm,0,none⟩)] W fun e W'=>(∃ v,e=.returned v)/\
  ((∃ ys:List Int,ys.Perm vs/\J ys W')\/(∃ pre,True/\Jx pre W')):=by
 obtain⟨dX,clock,hb,Yd,ZT,hnd⟩:=hB;have hlen:vs.length=dX.length:=by have:=congrArg List.length Yd;simpa using this.symm
 have lb:=(aAw.1 hb).1;refine callsIn_of_wp func80 rfl h7 ?_ o6;simp only[ntmps80,aBc,List.length_cons,List.length_nil,Nat.reduceAdd,Nat.reduceSub,aBF,Array.replicate_zero,aBQ,aBK,List.nil_append,List.cons_append]
 gi_wp2_with (first
  |(refine oN _ rfl _ 80 _ _ rfl underlying80 b dX.toArray clock rfl hb ?_;intro w0 G7)
  |gi_in)
 go_frame
 have hI0:w0.heap[W.heap.size]?=some (.mapIter (some b) clock #[] clock):=by rw[G7];exact World.alloc_heap_new _ _
 have z8:w0.heap[b]?=some (.map dX.toArray clock):=by rw[G7];exact(Below.heap_alloc _ _ b lb).trans hb
 have hg0:W.grownBy w0 none:=by rw[G7];exact World.grownBy_alloc W _ none
 have x9:J [] w0:=hJ [] W w0 none h0 hg0 (fun r e=>by cases e);clear G7 hg0
 gi_loopw [3] (fun _ wr=>∃(seen:Array Nat) (c:Nat) (ss:List Int),clock<=c/\wr.heap[W.heap.size]?=some (.mapIter (some b) clock seen c)/\wr.heap[b]?=some (.map dX.toArray clock)/\(ss++uL vs dX seen).Perm vs/\J ss wr)
  (fun _ wr=>match wr.heap[W.heap.size]? with|some (.mapIter _ _ seen _)=>(uL vs dX seen).length|_=>0)
 case atStart=>exact⟨#[],clock,[],aAk _,hI0,z8,by rw[Ab hlen];exact .refl _,x9⟩
 case round=>
  obtain⟨seen,c,ss,W4,hit,T9,Xf,hJs⟩:=hrel
  gi_wp2_with (first
   |(refine oW _ rfl _ rfl W.heap.size b clock c seen dX.toArray rfl hit T9 (fun x hx=>ZT x (by simpa using hx)) (by simpa using hnd) W4 ?_ ?_)
   |gi_in)
  .intro hall;have ZG:uL vs dX seen=[]:=Dc fun x hx=>by simpa using hall x (by simpa using hx)
   rw[ZG,aAK]at Xf
   gi_wp2
   go_end0
   exact⟨⟨_,rfl⟩,.inl ⟨ss,Xf,hJs⟩⟩
  .intro e w1 w2 he hs Yt ZV hen;obtain⟨x,L1,L2,hx,hL1,U5⟩:=Cc (seen:=seen) hlen Yd hnd (by simpa using he) (by simpa using hs);have A7:wr.grownBy w2 (some W.heap.size):=by rw[ZV];exact Cj wr w1 Yt _ _
   have K1:J ss w2:=hJ ss wr w2 (some W.heap.size) hJs A7 (fun r e=>by cases e;exact⟨aAk _,_,hit,rfl⟩);have hh:w1.heap=wr.heap:=by rcases Yt with rfl|rfl<;>rfl
   have Wu:b≠W.heap.size:=oO;have hit2:w2.heap[W.heap.size]?=some (.mapIter (some b) clock (seen.push e.born) clock):=by rw[ZV];simp only[setBlock];rw[aBe,aAe rfl,aAe (by rw[hh];exact(aAw.1 hit).1)]
   have hbm2:w2.heap[b]?=some (.map dX.toArray clock):=by rw[ZV];simp only[setBlock];rw[aBe,aAa (fun e=>Wu e.symm),hh];exact T9
   have GD:ss.length<vs.length:=by have:=Xf.length_eq;rw[hL1]at this;simp at this;omega
   obtain⟨fn,tmps,assign,body,hy,hR⟩:=hY ss x w2 K1 GD;rw[hx]at hen ⊢;clear ZV A7
   gi_wp2
   refine hR.mono ?_;rintro e3 W3 (⟨rfl,hJ3,Xv⟩|⟨rfl,hJx3⟩)
   .gi_wp2
    have hit3:=Xv.same _ _ hit2 rfl;have hbm3:=Xv.same _ _ hbm2 rfl
    go_roundw
    case rel=>exact⟨seen.push e.born,clock,ss++[x],aAk _,hit3,hbm3,by
     rw[U5];rw[hL1]at Xf;refine List.Perm.trans ?_ Xf;rw[aAD];refine aBL _ ?_;rw[List.singleton_append]
     exact aBO.symm,hJ3⟩
    case measure=>
     rw[hit3,hit];simp only[hL1,U5,aAh,List.length_cons];omega
   .gi_wp2
    refine bodyPost_ret (results_none rfl _ _ _) rfl ?_;exact⟨⟨_,rfl⟩,.inr ⟨_,trivial,hJx3⟩⟩
theorem HK(F:Fence)(n:Nat)(h7:F.fn 80)(o6:F.round=none)(hn:1<=n)(Bm b:Nat)(vs:List Int)(w:World)(hBm:Bm<w.heap.size)(hm:w.cell? ⟨Bm,0,none⟩=some (.map (some b)))(hB:wZ w b vs):
 SeqStopsK F n prog 80 #[.pointer (some ⟨Bm,0,none⟩)] (fun x:Int=>#[Value.int .u32 x]) KeepsWalks (fun ys=>ys.Perm vs) (fun _=>True) vs.length w:=fun l J Jx W hW hJ _ hY h0=>by
 have C8:=(hW.cell (p:=⟨Bm,0,none⟩) hBm).trans hm;have W8:wZ W b vs:=by obtain⟨dX,clock,hb,h⟩:=hB;exact⟨dX,clock,(hW.block b (aAw.1 hb).1).trans hb,h⟩
 exact RP F n h7 o6 hn l Bm b vs W J Jx hJ hY C8 W8 h0
set_option maxRecDepth 100000 in
theorem EU(F:Fence)(n:Nat)(h3:F.fn 121)(h7:F.fn 80)(o6:F.round=none)(hn:3<=n)(Bm b:Nat)(vs:List Int)(hlen:vs.length<=1048576)(w:World)(hBm:Bm<w.heap.size)
 (hm:w.cell? ⟨Bm,0,none⟩=some (.map (some b))) (hB:wZ w b vs):
 CallsIn F n prog 121 #[.slice none 0 0,.func (.func 80) #[] #[.pointer (some ⟨Bm,0,none⟩)]] w fun e W'=>∃ v ys,e=.returned v/\List.Perm ys vs/\W'.ownsRow w.heap.size 34 1 v ys.length (ys.map (Value.int .u32))/\Below w.heap.size w W':=by
 have h1:1<=n:=oO;obtain⟨i0,hi,I2,hz1,hz2⟩:=info_parts NW;refine callsIn_of_wp_marks func121 rfl h3 ?_ o6;simp only[ntmps121,aBc,List.length_cons,List.length_nil,Nat.reduceAdd,Nat.reduceSub,aBF,Array.replicate_zero,aBQ,aBK,List.nil_append,List.cons_append]
 gi_wp2
 have bO:=Boxed.new w 22 (.slice none 0 0);have L3:Below w.heap.size w (w.alloc (.cells #[.slice none 0 0] 22)):=(Below.refl _ w).alloc (aAk _) _;have W8:wZ (w.alloc (.cells #[.slice none 0 0] 22)) b vs:=by obtain⟨dX,clock,hb,h⟩:=hB;exact⟨dX,clock,(L3.block b (aAw.1 hb).1).trans hb,h⟩
 refine wpIn_rangeFunc_ownG o6 h1 (gf:=80) (lb:=#[.pointer (some ⟨Bm,0,none⟩)]) rfl h7 (enters_of func80 (by kernel_rfl) rfl)
  (HK F (n-1) h7 o6 oO Bm b vs _ (by simp;omega) ((L3.cell (p:=⟨Bm,0,none⟩) hBm).trans hm) W8) walksK_t walksK_b (Below.refl _ _) (fun _=>rfl)
  (fun pre W=>(∃ v,Boxed W w.heap.size 22 v/\W.ownsRow w.heap.size 34 1 v pre.length (pre.map (Value.int .u32))/\True)/\Below w.heap.size w W)
  (fun _ _ _=>False)
  (OwnFrom.and (Own.from (holdsRow_own w.heap.size w.heap.size 22 34 1 (fun pre:List Int=>pre.length) (fun pre:List Int=>pre.map (Value.int .u32)) (fun _ _=>True)) _) (ownFrom_below (aAk _) sS))
  (fun _ _ _ _ _ hs _ _=>hs)
  ⟨⟨_,bO,World.ownsRow_nil _ _ _ _,trivial⟩,L3⟩
  (fun x=>{ tmps:=#[.slice none 0 0,.func (.func 80) #[] #[.pointer (some ⟨Bm,0,none⟩)],.pointer (some ⟨w.heap.size,0,none⟩),undef,.slice none 0 0,.int .u32 x,.func (.func 80) #[] #[.pointer (some ⟨Bm,0,none⟩)],.int .u32 x,undef,undef,undef,undef,undef],defers:=[] }) ?assign ?body ?done ?stop
 case assign=>
  intro l x W K hK
  gi_wp2
  exact hK
 case body=>
  rintro l pre x W ⟨⟨v,hv,RN,_⟩,hB⟩ GD;have hc:=hv.cell
  gi_wp2_with (gi_at_builtin;refine wpListIn_append_own _ rfl _ _ 22 rfl w.heap.size 34 i0 (.int .u32 0) 1 4 underlying22 hi I2 hz1 hz2 rfl (by decide) _ _ _ rfl (RN.alloc _) ⟨W.heap.size,0,none⟩ 1 1 [.int .u32 x] rfl rfl (cell_one_new _ _ _) (by simp[Value.oneCell']) (by simp only[maxLen];omega) oO (by have:=hB.size;simp;omega) ?_;intro v' w1 E3 c7 _;obtain⟨g',cap',rfl⟩:=ownsRow_succ E3;obtain⟨F5,hv2,V4,Xq,u7⟩:=hv.appended (by decide) RN hB.size (aAk _) E3 c7;have ZK:=F5.cell;have hf1:=F5.frozen)
  exact⟨Xq.from _,KeepsOthers.walks Xq,⟨_,hv2,by simpa using V4,trivial⟩,hB.trans u7⟩
 case done=>
  rintro D ys W hD N0 ⟨⟨v,hv,RN,_⟩,hB⟩ hK;have hc:=hv.cell
  gi_wp2
  refine⟨sS,.inl ⟨_,_,rfl,run_takeDeferred hK,?_⟩⟩;exact⟨_,results_tmp rfl _ _ _,v,ys,rfl,N0,ownsRow_putObj RN _ hK rfl,hB.trans (belowK_b (w:=w) (aAk _) W D _ _ (by simp at hD;omega) hK rfl rfl)⟩
 case stop=>
  rintro D c pre W _ _ h _;exact h.elim
set_option maxRecDepth 100000 in
theorem CF(F:Fence)(n:Nat)(h2:F.fn 78)(h3:F.fn 121)(h7:F.fn 80)(o6:F.round=none)(hn:4<=n)(Bm b:Nat)(vs:List Int)(hlen:vs.length<=1048576)(w:World)(hBm:Bm<w.heap.size)
 (hm:w.cell? ⟨Bm,0,none⟩=some (.map (some b))) (hB:wZ w b vs):
 CallsIn F n prog 78 #[.func (.func 80) #[] #[.pointer (some ⟨Bm,0,none⟩)]] w fun e W'=>∃ v ys,e=.returned v/\List.Perm ys vs/\W'.ownsRow w.heap.size 34 1 v ys.length (ys.map (Value.int .u32))/\Below w.heap.size w W':=by
 have h1:1<=n:=oO;refine callsIn_of_wp func78 rfl h2 ?_ o6;simp only[ntmps78,aBc,List.length_cons,List.length_nil,Nat.reduceAdd,Nat.reduceSub,aBF,Array.replicate_zero,aBQ,aBK,List.nil_append,List.cons_append]
 gi_wp2_with (gi_at_call 121;refine(EU F (n-1) h3 h7 o6 oO Bm b vs hlen _ hBm hm hB).mono ?_;rintro e w' ⟨v,ys,rfl,N0,RN,H8⟩)
 go_ret
 exact⟨v,ys,rfl,N0,RN,H8⟩
set_option maxRecDepth 100000 in
theorem So(F:Fence)(n:Nat)(h7:F.fn 123)(o6:F.round=none)(hn:1<=n)(l Bm b:Nat)(vs:List Int)(W:World)(J Jx:List Int->World->Prop)(hJ:AbidesFrom W.heap.size J)
 (hY:∀ pre x W1,J pre W1->pre.length<vs.length->YieldAt F (n-1) prog l #[.int .u32 x] W1 fun e W'=>
   (e=.returned (.bool true)/\J (pre++[x]) W'/\KeepsWalks W1 W')\/(e=.returned (.bool false)/\Jx (pre++[x]) W'))
 (hm:W.cell? ⟨Bm,0,none⟩=some (.map (some b))) (hB:wZ W b vs) (h0:J [] W):
 CallsIn F n prog 123 #[.func (.yield l) #[] #[],.pointer (some ⟨Bm,0,none⟩)] W fun e W'=>(∃ v,e=.returned v)/\
  ((∃ ys:List Int,ys.Perm vs/\J ys W')\/(∃ pre,True/\Jx pre W')):=by
 obtain⟨dX,clock,hb,Yd,ZT,hnd⟩:=hB;have hlen:vs.length=dX.length:=by have:=congrArg List.length Yd;simpa using this.symm
 have lb:=(aAw.1 hb).1;refine callsIn_of_wp func123 rfl h7 ?_ o6;simp only[ntmps123,aBc,List.length_cons,List.length_nil,Nat.reduceAdd,Nat.reduceSub,aBF,Array.replicate_zero,aBQ,aBK,List.nil_append,List.cons_append]
 gi_wp2_with (first
  |(refine oN _ rfl _ 60 _ _ rfl underlying60 b dX.toArray clock rfl hb ?_;intro w0 G7)
  |gi_in)
 go_frame
 have hI0:w0.heap[W.heap.size]?=some (.mapIter (some b) clock #[] clock):=by rw[G7];exact World.alloc_heap_new _ _
 have z8:w0.heap[b]?=some (.map dX.toArray clock):=by rw[G7];exact(Below.heap_alloc _ _ b lb).trans hb
 have hg0:W.grownBy w0 none:=by rw[G7];exact World.grownBy_alloc W _ none
 have x9:J [] w0:=hJ [] W w0 none h0 hg0 (fun r e=>by cases e);clear G7 hg0
 gi_loopw [3] (fun _ wr=>∃(seen:Array Nat) (c:Nat) (ss:List Int),clock<=c/\wr.heap[W.heap.size]?=some (.mapIter (some b) clock seen c)/\wr.heap[b]?=some (.map dX.toArray clock)/\(ss++uL vs dX seen).Perm vs/\J ss wr)
  (fun _ wr=>match wr.heap[W.heap.size]? with|some (.mapIter _ _ seen _)=>(uL vs dX seen).length|_=>0)
 case atStart=>exact⟨#[],clock,[],aAk _,hI0,z8,by rw[Ab hlen];exact .refl _,x9⟩
 case round=>
  obtain⟨seen,c,ss,W4,hit,T9,Xf,hJs⟩:=hrel
  gi_wp2_with (first
   |(refine oW _ rfl _ rfl W.heap.size b clock c seen dX.toArray rfl hit T9 (fun x hx=>ZT x (by simpa using hx)) (by simpa using hnd) W4 ?_ ?_)
   |gi_in)
  .intro hall;have ZG:uL vs dX seen=[]:=Dc fun x hx=>by simpa using hall x (by simpa using hx)
   rw[ZG,aAK]at Xf
   gi_wp2
   go_end0
   exact⟨⟨_,rfl⟩,.inl ⟨ss,Xf,hJs⟩⟩
  .intro e w1 w2 he hs Yt ZV hen;obtain⟨x,L1,L2,hx,hL1,U5⟩:=Cc (seen:=seen) hlen Yd hnd (by simpa using he) (by simpa using hs);have A7:wr.grownBy w2 (some W.heap.size):=by rw[ZV];exact Cj wr w1 Yt _ _
   have K1:J ss w2:=hJ ss wr w2 (some W.heap.size) hJs A7 (fun r e=>by cases e;exact⟨aAk _,_,hit,rfl⟩);have hh:w1.heap=wr.heap:=by rcases Yt with rfl|rfl<;>rfl
   have Wu:b≠W.heap.size:=oO;have hit2:w2.heap[W.heap.size]?=some (.mapIter (some b) clock (seen.push e.born) clock):=by rw[ZV];simp only[setBlock];rw[aBe,aAe rfl,aAe (by rw[hh];exact(aAw.1 hit).1)]
   have hbm2:w2.heap[b]?=some (.map dX.toArray clock):=by rw[ZV];simp only[setBlock];rw[aBe,aAa (fun e=>Wu e.symm),hh];exact T9
   have GD:ss.length<vs.length:=by have:=Xf.length_eq;rw[hL1]at this;simp at this;omega
   obtain⟨fn,tmps,assign,body,hy,hR⟩:=hY ss x w2 K1 GD;rw[hx]at hen ⊢;clear ZV A7
   gi_wp2
   refine hR.mono ?_;rintro e3 W3 (⟨rfl,hJ3,Xv⟩|⟨rfl,hJx3⟩)
   .gi_wp2
    have hit3:=Xv.same _ _ hit2 rfl;have hbm3:=Xv.same _ _ hbm2 rfl
    go_roundw
    case rel=>exact⟨seen.push e.born,clock,ss++[x],aAk _,hit3,hbm3,by
     rw[U5];rw[hL1]at Xf;refine List.Perm.trans ?_ Xf;rw[aAD];refine aBL _ ?_;rw[List.singleton_append]
     exact aBO.symm,hJ3⟩
    case measure=>
     rw[hit3,hit];simp only[hL1,U5,aAh,List.length_cons];omega
   .gi_wp2
    refine bodyPost_ret (results_none rfl _ _ _) rfl ?_;exact⟨⟨_,rfl⟩,.inr ⟨_,trivial,hJx3⟩⟩
theorem FU(F:Fence)(n:Nat)(h7:F.fn 123)(o6:F.round=none)(hn:1<=n)(Bm b:Nat)(vs:List Int)(w:World)(hBm:Bm<w.heap.size)(hm:w.cell? ⟨Bm,0,none⟩=some (.map (some b)))(hB:wZ w b vs):
 SeqStopsK F n prog 123 #[.pointer (some ⟨Bm,0,none⟩)] (fun x:Int=>#[Value.int .u32 x]) KeepsWalks (fun ys=>ys.Perm vs) (fun _=>True) vs.length w:=fun l J Jx W hW hJ _ hY h0=>by
 have C8:=(hW.cell (p:=⟨Bm,0,none⟩) hBm).trans hm;have W8:wZ W b vs:=by obtain⟨dX,clock,hb,h⟩:=hB;exact⟨dX,clock,(hW.block b (aAw.1 hb).1).trans hb,h⟩
 exact So F n h7 o6 hn l Bm b vs W J Jx hJ hY C8 W8 h0
set_option maxRecDepth 100000 in
theorem Dq(F:Fence)(n:Nat)(h3:F.fn 121)(h7:F.fn 123)(o6:F.round=none)(hn:3<=n)(Bm b:Nat)(vs:List Int)(hlen:vs.length<=1048576)(w:World)(hBm:Bm<w.heap.size)
 (hm:w.cell? ⟨Bm,0,none⟩=some (.map (some b))) (hB:wZ w b vs):
 CallsIn F n prog 121 #[.slice none 0 0,.func (.func 123) #[] #[.pointer (some ⟨Bm,0,none⟩)]] w fun e W'=>∃ v ys,e=.returned v/\List.Perm ys vs/\W'.ownsRow w.heap.size 34 1 v ys.length (ys.map (Value.int .u32))/\Below w.heap.size w W':=by
 have h1:1<=n:=oO;obtain⟨i0,hi,I2,hz1,hz2⟩:=info_parts NW;refine callsIn_of_wp_marks func121 rfl h3 ?_ o6;simp only[ntmps121,aBc,List.length_cons,List.length_nil,Nat.reduceAdd,Nat.reduceSub,aBF,Array.replicate_zero,aBQ,aBK,List.nil_append,List.cons_append]
 gi_wp2
 have bO:=Boxed.new w 22 (.slice none 0 0);have L3:Below w.heap.size w (w.alloc (.cells #[.slice none 0 0] 22)):=(Below.refl _ w).alloc (aAk _) _;have W8:wZ (w.alloc (.cells #[.slice none 0 0] 22)) b vs:=by obtain⟨dX,clock,hb,h⟩:=hB;exact⟨dX,clock,(L3.block b (aAw.1 hb).1).trans hb,h⟩
 refine wpIn_rangeFunc_ownG o6 h1 (gf:=123) (lb:=#[.pointer (some ⟨Bm,0,none⟩)]) rfl h7 (enters_of func123 (by kernel_rfl) rfl)
  (FU F (n-1) h7 o6 oO Bm b vs _ (by simp;omega) ((L3.cell (p:=⟨Bm,0,none⟩) hBm).trans hm) W8) walksK_t walksK_b (Below.refl _ _) (fun _=>rfl)
  (fun pre W=>(∃ v,Boxed W w.heap.size 22 v/\W.ownsRow w.heap.size 34 1 v pre.length (pre.map (Value.int .u32))/\True)/\Below w.heap.size w W)
  (fun _ _ _=>False)
  (OwnFrom.and (Own.from (holdsRow_own w.heap.size w.heap.size 22 34 1 (fun pre:List Int=>pre.length) (fun pre:List Int=>pre.map (Value.int .u32)) (fun _ _=>True)) _) (ownFrom_below (aAk _) sS))
  (fun _ _ _ _ _ hs _ _=>hs)
  ⟨⟨_,bO,World.ownsRow_nil _ _ _ _,trivial⟩,L3⟩
  (fun x=>{ tmps:=#[.slice none 0 0,.func (.func 123) #[] #[.pointer (some ⟨Bm,0,none⟩)],.pointer (some ⟨w.heap.size,0,none⟩),undef,.slice none 0 0,.int .u32 x,.func (.func 123) #[] #[.pointer (some ⟨Bm,0,none⟩)],.int .u32 x,undef,undef,undef,undef,undef],defers:=[] }) ?assign ?body ?done ?stop
 case assign=>
  intro l x W K hK
  gi_wp2
  exact hK
 case body=>
  rintro l pre x W ⟨⟨v,hv,RN,_⟩,hB⟩ GD;have hc:=hv.cell
  gi_wp2_with (gi_at_builtin;refine wpListIn_append_own _ rfl _ _ 22 rfl w.heap.size 34 i0 (.int .u32 0) 1 4 underlying22 hi I2 hz1 hz2 rfl (by decide) _ _ _ rfl (RN.alloc _) ⟨W.heap.size,0,none⟩ 1 1 [.int .u32 x] rfl rfl (cell_one_new _ _ _) (by simp[Value.oneCell']) (by simp only[maxLen];omega) oO (by have:=hB.size;simp;omega) ?_;intro v' w1 E3 c7 _;obtain⟨g',cap',rfl⟩:=ownsRow_succ E3;obtain⟨F5,hv2,V4,Xq,u7⟩:=hv.appended (by decide) RN hB.size (aAk _) E3 c7;have ZK:=F5.cell;have hf1:=F5.frozen)
  exact⟨Xq.from _,KeepsOthers.walks Xq,⟨_,hv2,by simpa using V4,trivial⟩,hB.trans u7⟩
 case done=>
  rintro D ys W hD N0 ⟨⟨v,hv,RN,_⟩,hB⟩ hK;have hc:=hv.cell
  gi_wp2
  refine⟨sS,.inl ⟨_,_,rfl,run_takeDeferred hK,?_⟩⟩;exact⟨_,results_tmp rfl _ _ _,v,ys,rfl,N0,ownsRow_putObj RN _ hK rfl,hB.trans (belowK_b (w:=w) (aAk _) W D _ _ (by simp at hD;omega) hK rfl rfl)⟩
 case stop=>
  rintro D c pre W _ _ h _;exact h.elim
set_option maxRecDepth 100000 in
theorem CL(F:Fence)(n:Nat)(h2:F.fn 78)(h3:F.fn 121)(h7:F.fn 123)(o6:F.round=none)(hn:4<=n)(Bm b:Nat)(vs:List Int)(hlen:vs.length<=1048576)(w:World)(hBm:Bm<w.heap.size)
 (hm:w.cell? ⟨Bm,0,none⟩=some (.map (some b))) (hB:wZ w b vs):
 CallsIn F n prog 78 #[.func (.func 123) #[] #[.pointer (some ⟨Bm,0,none⟩)]] w fun e W'=>∃ v ys,e=.returned v/\List.Perm ys vs/\W'.ownsRow w.heap.size 34 1 v ys.length (ys.map (Value.int .u32))/\Below w.heap.size w W':=by
 have h1:1<=n:=oO;refine callsIn_of_wp func78 rfl h2 ?_ o6;simp only[ntmps78,aBc,List.length_cons,List.length_nil,Nat.reduceAdd,Nat.reduceSub,aBF,Array.replicate_zero,aBQ,aBK,List.nil_append,List.cons_append]
 gi_wp2_with (gi_at_call 121;refine(Dq F (n-1) h3 h7 o6 oO Bm b vs hlen _ hBm hm hB).mono ?_;rintro e w' ⟨v,ys,rfl,N0,RN,H8⟩)
 go_ret
 exact⟨v,ys,rfl,N0,RN,H8⟩
end Rg
namespace Aw
open Go Go.RowKit
def uC(es:List (List Int×LV)):List Int:=es.map fun e=>e.1.headD 0
theorem KE{w:World}{g:G}{st:St}(hi:Inv w g st){m:Nat}{es:List (List Int×LV)}(hm:st.H m=.map false [.u32] es):Rg.wZ w (g.β m) (uC es):=by
 obtain⟨_,hlen,dX,clock,h3,h4,_,_,h7,h8⟩:=hi.mp m _ _ _ hm;refine⟨dX,clock,h3,?_,h7,h8⟩;rw[h4];unfold uC;rw[aBd];refine aAU fun p hp=>?_;have:=hlen p hp
 match h:p.1,this with
 |[x],_=>simp[mkV,mkC,h]
theorem ID(m q:Nat)(es:List (List Int×LV))(st:St)(hl:es.length<=1048576)(hH:st.H q=.box 80 1 [.mp m])(hm:st.H m=.map false [.u32] es):
 aB prog 78 [.fn (.func 80) [.pt q 0]] st fun r st'=>∃ ys:List Int,ys.Perm (uC es)/\r=.ms st.next 0 ys.length/\st'=st.new (.box 34 1 (us ys)):=by
 refine⟨enters_of func78 (by kernel_rfl) rfl,fun w g vs hi hr=>?_⟩;simp only[aC,Rep]at hr;obtain⟨v,_,rfl,⟨us1,rfl,v1,_,rfl,⟨rfl,hq⟩,rfl⟩,rfl⟩:=hr;obtain⟨_,b2,b3⟩:=hi.box q _ _ _ hH;have Xi:g.nl q=false:=by
  cases hn:g.nl q with
  |false=>rfl
  |true=>obtain⟨_,h⟩:=b2 hn;cases h
 obtain⟨Xk,k1,k2,k3,k4,k5⟩:=b3 Xi;simp only[List.length_cons,List.length_nil,aBv,aC]at k4 k3;obtain⟨sv,rest,N4,YF,_⟩:=k4;simp only[Rep]at YF;have O8:w.cell? ⟨g.β q,0,none⟩=some (.map (some (g.β m))):=by
  rw[cell_of_row w _ _ _ _ _ k1,<- YF.1];cases Xk with
  |nil=>simp at k3
  |cons a Xk=>simp at N4;simp[N4.1]
 refine(((Rg.CF Fence.wide 4 trivial trivial trivial rfl (aAk _) (g.β q) (g.β m) (uC es) (by simpa[uC]using hl) w (rG O8) O8 (KE hi hm)).calls room_wide)).mono ?_;rintro e w' ⟨v,ys,rfl,N0,RN,H8⟩;have hlen:ys.length=(ys.map (Value.int .u32)).length:=sS;rw[hlen]at RN;obtain⟨g',h1,h2,h3⟩:=vW (cs:=us ys) hi H8 RN (fun w g=>yU w g ys);rw[<- hlen]at h1;exact⟨v,_,_,g',rfl,⟨ys,N0,rfl,rfl⟩,h1,h2,h3⟩
theorem JH(m q:Nat)(es:List (List Int×LV))(st:St)(hl:es.length<=1048576)(hH:st.H q=.box 60 1 [.mp m])(hm:st.H m=.map false [.u32] es):
 aB prog 78 [.fn (.func 123) [.pt q 0]] st fun r st'=>∃ ys:List Int,ys.Perm (uC es)/\r=.ms st.next 0 ys.length/\st'=st.new (.box 34 1 (us ys)):=by
 refine⟨enters_of func78 (by kernel_rfl) rfl,fun w g vs hi hr=>?_⟩;simp only[aC,Rep]at hr;obtain⟨v,_,rfl,⟨us1,rfl,v1,_,rfl,⟨rfl,hq⟩,rfl⟩,rfl⟩:=hr;obtain⟨_,b2,b3⟩:=hi.box q _ _ _ hH;have Xi:g.nl q=false:=by
  cases hn:g.nl q with
  |false=>rfl
  |true=>obtain⟨_,h⟩:=b2 hn;cases h
 obtain⟨Xk,k1,k2,k3,k4,k5⟩:=b3 Xi;simp only[List.length_cons,List.length_nil,aBv,aC]at k4 k3;obtain⟨sv,rest,N4,YF,_⟩:=k4;simp only[Rep]at YF;have O8:w.cell? ⟨g.β q,0,none⟩=some (.map (some (g.β m))):=by
  rw[cell_of_row w _ _ _ _ _ k1,<- YF.1];cases Xk with
  |nil=>simp at k3
  |cons a Xk=>simp at N4;simp[N4.1]
 refine(((Rg.CL Fence.wide 4 trivial trivial trivial rfl (aAk _) (g.β q) (g.β m) (uC es) (by simpa[uC]using hl) w (rG O8) O8 (KE hi hm)).calls room_wide)).mono ?_;rintro e w' ⟨v,ys,rfl,N0,RN,H8⟩;have hlen:ys.length=(ys.map (Value.int .u32)).length:=sS;rw[hlen]at RN;obtain⟨g',h1,h2,h3⟩:=vW (cs:=us ys) hi H8 RN (fun w g=>yU w g ys);rw[<- hlen]at h1;exact⟨v,_,_,g',rfl,⟨ys,N0,rfl,rfl⟩,h1,h2,h3⟩
end Aw
namespace Aw
open Go Go.RowKit Pl Eu
end Aw
namespace Aw
open Go Go.RowKit Pl
attribute [local simp] qV QX CY Ji eW fZ eT
def nX:List (Int×Int)->Int->Int
 |[],_=>0
 |p::P,x=>if p.1=x then p.2 else nX P x
theorem EG(x:Int):∀ P:List (Int×Int),(bQ (inL P) [x]).getD (u 0)=u (nX P x)
 |[]=>rfl
 |p::P=>by
  have ih:=EG x P;unfold nX;simp only[inL,aAi,bQ]at ih ⊢;by_cases h:p.1=x
  .rw[aAe h,aAe (by simp[h])];rfl
  .rw[aAa h,aAa (by simpa using fun e=>h e.symm)];exact ih
theorem Ft(P:List (Int×Int)):uC (inL P)=P.map (·.1):=by
 induction P with
 |nil=>rfl
 |cons p P ih=>simp only[inL,aAi,uC]at ih ⊢;rw[ih];rfl
def goR(P:List (Int×Int))(first:Int):Nat->Int->List Int
 |0,_=>[]
 |n+1,x=>x::(if nX P x≠first/\0<n then goR P first n (nX P x)else [])
def cA(P:List (Int×Int)):List Int:=goR P (mn (P.map (·.1))) P.length (mn (P.map (·.1)))
theorem Uq(m:Nat)(st:St):aB prog 82 [.mp m] st fun r st'=>r=.fn (.func 123) [.pt st.next 0]/\st'=st.new (.box 60 1 [.mp m]):=by
 refine zN func82 ntmps82 [.tmp 2] ?_
 (repeat' (first|apply qS|(refine qR (zZ ?_);simp[])|(refine zE ?_;intro J hJ;simp[];refine zJ hJ ?_)))
theorem VR(m:Nat)(st:St):aB prog 47 [.mp m] st fun r st'=>r=.fn (.func 80) [.pt st.next 0]/\st'=st.new (.box 80 1 [.mp m]):=by
 refine zN func47 ntmps47 [.tmp 2] ?_
 (repeat' (first|apply qS|(refine qR (zZ ?_);simp[])|(refine zE ?_;intro J hJ;simp[];refine zJ hJ ?_)))
theorem Qp{a b:List Int}(h:a.Perm b)(h0:a≠[]):mn a=mn b:=
 (TH (h.mem_iff.1 (xB h0)) fun x hx=>Pw (h.mem_iff.2 hx)).symm
def RoI(P:List (Int×Int))(m:Nat)(st:St)(n:Nat)(fr:Frm)(s:St):Prop:=∃(turn:List Int) (x:Int) (t:Nat),n+turn.length=P.length/\0<n/\turn++goR P (mn (P.map (·.1))) n x=cA P/\fr 0=.mp m/\fr 3=.sl t turn.length (us turn)/\fr 4=u (mn (P.map (·.1)))/\fr 5=u x/\EH t 34 1 turn.length st s/\aA st s
theorem Ik{P:Program}{N:Nat}{Q:AQ}{c:Code}{fr:Frm}{st:St}(I:Frm->St->Prop)(h0:I fr st)(h:∀ fr st,I fr st->AWp P N c Q fr st):AWp P N c Q fr st:=h _ _ h0
theorem UU(P:List (Int×Int))(m:Nat)(st:St)(hP:P≠[])(hl:P.length<=1000)(hm:st.H m=.map false [.u32] (inL P))(Yw:m<st.next):
 aB prog 48 [.mp m] st fun r st'=>r=.sl 0 (cA P).length (us (cA P))/\st'=st:=by
 refine qT (Q:=fun r=>r=.sl 0 (cA P).length (us (cA P))) (eV ?_) fun r h=>by subst h;exact⟨.inl rfl,zU _ _⟩
 have hil:(inL P).length=P.length:=by simp[inL]
 refine zN func48 ntmps48 [.tmp 2] ?_
 (repeat' (first|apply qS|(refine zE ?_;intro J hJ;simp[];refine zJ hJ ?_)))
 refine qP _ 0 (fun n fr s=>RoI P m st n fr s) rfl ?_ ?_
 .refine jC fun ZA=>?_
  (repeat' (first|apply qS|(refine zE ?_;intro J hJ;simp[];(try refine zJ hJ ?_))))
  refine qE (Uq m _) sS ?_;rintro r s1 ⟨rfl,e1⟩;rw[e1];clear e1 s1
  (repeat' (apply aF;simp[]))
  refine qE (JH m st.next (inL P) _ oO sS (by rw[bX,aAa oO];exact hm)) sS ?_;rintro r s1 ⟨ys,N0,rfl,e1⟩;rw[e1];clear e1 s1;have hyl:ys.length=P.length:=by rw[N0.length_eq,Ft,aAz]
  have Q9:ys≠[]:=fun e=>hP (aCR.1 (by rw[<- hyl,e];rfl));have hmn:mn ys=mn (P.map (·.1)):=Qp (by rw[<- Ft];exact N0) Q9;have ZP:=vZ (P:=prog) (pre:=[]) (post:=[]) (l:=st.next+1) (n:=ys.length) (e:=34) (s:=1) (cs:=us ys) (st:=(st.new (.box 60 1 [.mp m])).new (.box 34 1 (us ys))) (f:=81) sS sS (by rw[aAv sS];exact Min ys 0 _ (by unfold small;omega) Q9);rw[hmn]at ZP
  (repeat' (apply aF;simp[]))
  refine qE ZP sS ?_;rintro r s1 ⟨rfl,e1⟩;rw[e1];clear e1 s1 ZP;have hPl:0<P.length:=aBb.2 hP
  (repeat' (first|apply qS|((first|(refine zE ?_;intro J hJ)|(apply aF));simp[];refine zJ hJ ?_)))
  refine vT ?_;simp only[ak];refine yV 3 34 1 sS ?_;refine Ik (RoI P m st P.length) ?_ ?_
  .exact⟨[],_,st.next+1+1,sS,hPl,rfl,sS,sS,sS,sS,⟨oO,oO,sS,sS⟩,(((aA.new _ _).trans (aA.new _ _)).set oO _).trans (aA.new _ _)⟩
  obtain⟨n,hn⟩:∃ n,n=P.length:=⟨_,rfl⟩;rw[<- hn];have hJG:∀ n' Xg s',n' < n->RoI P m st n' Xg s'->∃ n,RoI P m st n Xg s':=fun n' _ _ _ h=>⟨n',h⟩;rintro fr s ⟨turn,x,t,h1,h2,h3,f0,f3,f4,f5,⟨t0,t1,t2,tH⟩,hk⟩;have P1:=(hk.H m Yw).trans hm;have hg:=EG x P;obtain⟨n,rfl⟩:∃ k,n=k+1:=⟨n-1,oO⟩;have h4:goR P (mn (P.map (·.1))) (n+1) x=x::(if nX P x≠mn (P.map (·.1))/\0<n then goR P (mn (P.map (·.1))) n (nX P x)else []):=rfl;rw[h4]at h3;clear h4;have hRo:∀(ZH:List Int) (y:Int) (t:Nat) (Xg:Frm) (s':St),n+ZH.length=P.length->0<n->ZH++goR P (mn (P.map (·.1))) n y=cA P->Xg 0=.mp m->Xg 3=.sl t ZH.length (us ZH)->Xg 4=u (mn (P.map (·.1)))->Xg 5=u y->EH t 34 1 ZH.length st s'->aA st s'->RoI P m st n Xg s':=fun ZH y t Xg s' q1 q2 q3 q4 q5 q6 q7 q8 q9=>⟨ZH,y,t,q1,q2,q3,q4,q5,q6,q7,q8,q9⟩;have YN:=fun Xg s' h=>hJG n Xg s' oO h;generalize mn (P.map (·.1))=first at *
  generalize nX P x=y at *;have hkn:=hk.next;have c1:¬t=s.next:=oO;have c2:¬s.next=t:=oO;have c3:¬m=s.next:=oO;have c4:¬m=s.next+1:=oO;have c5:¬m=t:=oO;have Xq:=(((hk.trans (aA.new s (.own 34 1 1))).set t1 .dead).trans (aA.new _ (.own 34 1 (turn.length+1))));by_cases hy:y=first
  .have p7:(y != first)=false:=by simp[hy]
   (repeat' (first|apply qS|refine qK (zZ ?_)|(refine qR (zZ ?_);simp[f0,f3,f4,f5,P1,hg,tH,t0,c1,c2,c3,c4,c5,p7])|(apply qC;simp[f0,f3,f4,f5,P1,hg,tH,t0,c1,c2,c3,c4,c5,p7])|(refine zE ?_;intro J hJ;simp[f0,f3,f4,f5,P1,hg,tH,t0,c1,c2,c3,c4,c5,p7];(repeat refine ca ?_);refine zJ hJ ?_)))
   rw[aAa (fun h=>h.1 hy)]at h3;exact⟨by rw[<- h3];simp[z0,nP],Xq⟩
  .have p7:(y != first)=true:=by simp[hy]
   by_cases u9:0<n
   .have YG:turn.length+1<(inL P).length:=oO;have ZN:(turn.length:Int)+1<(inL P).length:=oO
    (repeat' (first|apply qS|(apply qC;simp[f0,f3,f4,f5,P1,hg,tH,t0,c1,c2,c3,c4,c5,p7,YG,ZN])|(refine zE ?_;intro J hJ;simp[f0,f3,f4,f5,P1,hg,tH,t0,c1,c2,c3,c4,c5,p7,YG,ZN];(repeat refine ca ?_);refine zJ hJ ?_)))
    rw[aAe ⟨hy,u9⟩]at h3;refine uV ?_;simp only[ak,eT,fZ,eW,qV];refine YN _ _ (hRo (turn++[x]) y (s.next+1) _ _ (by simp;omega) u9 (by rw[<- h3];simp) (by simp[f0]) sS (by simp[f4]) sS ⟨oO,oO,sS,sS⟩ Xq)
   .have YG:¬turn.length+1<(inL P).length:=oO;have ZN:¬(turn.length:Int)+1<(inL P).length:=oO
    (repeat' (first|apply qS|refine qK (zZ ?_)|(refine qR (zZ ?_);simp[f0,f3,f4,f5,P1,hg,tH,t0,c1,c2,c3,c4,c5,p7,YG,ZN])|(apply qC;simp[f0,f3,f4,f5,P1,hg,tH,t0,c1,c2,c3,c4,c5,p7,YG,ZN])|(refine zE ?_;intro J hJ;simp[f0,f3,f4,f5,P1,hg,tH,t0,c1,c2,c3,c4,c5,p7,YG,ZN];(repeat refine ca ?_);refine zJ hJ ?_)))
    rw[aAa (fun h=>u9 h.2)]at h3;exact⟨by rw[<- h3];simp[z0,nP],Xq⟩
 .rintro n fr s ⟨turn,x,t,h1,h2,h3,f0,f3,f4,f5,⟨t0,t1,t2,tH⟩,hk⟩ JG hJG;have P1:=(hk.H m Yw).trans hm;have hg:=EG x P;obtain⟨n,rfl⟩:∃ k,n=k+1:=⟨n-1,oO⟩;have h4:goR P (mn (P.map (·.1))) (n+1) x=x::(if nX P x≠mn (P.map (·.1))/\0<n then goR P (mn (P.map (·.1))) n (nX P x)else []):=rfl;rw[h4]at h3;clear h4;have hRo:∀(ZH:List Int) (y:Int) (t:Nat) (Xg:Frm) (s':St),n+ZH.length=P.length->0<n->ZH++goR P (mn (P.map (·.1))) n y=cA P->Xg 0=.mp m->Xg 3=.sl t ZH.length (us ZH)->Xg 4=u (mn (P.map (·.1)))->Xg 5=u y->EH t 34 1 ZH.length st s'->aA st s'->RoI P m st n Xg s':=fun ZH y t Xg s' q1 q2 q3 q4 q5 q6 q7 q8 q9=>⟨ZH,y,t,q1,q2,q3,q4,q5,q6,q7,q8,q9⟩;have YN:=fun Xg s' h=>hJG n Xg s' oO h;generalize mn (P.map (·.1))=first at *
  generalize nX P x=y at *;have hkn:=hk.next;have c1:¬t=s.next:=oO;have c2:¬s.next=t:=oO;have c3:¬m=s.next:=oO;have c4:¬m=s.next+1:=oO;have c5:¬m=t:=oO;have Xq:=(((hk.trans (aA.new s (.own 34 1 1))).set t1 .dead).trans (aA.new _ (.own 34 1 (turn.length+1))));by_cases hy:y=first
  .have p7:(y != first)=false:=by simp[hy]
   (repeat' (first|apply qS|refine qK (zZ ?_)|(refine qR (zZ ?_);simp[f0,f3,f4,f5,P1,hg,tH,t0,c1,c2,c3,c4,c5,p7])|(apply qC;simp[f0,f3,f4,f5,P1,hg,tH,t0,c1,c2,c3,c4,c5,p7])|(refine zE ?_;intro J hJ;simp[f0,f3,f4,f5,P1,hg,tH,t0,c1,c2,c3,c4,c5,p7];(repeat refine ca ?_);refine zJ hJ ?_)))
   rw[aAa (fun h=>h.1 hy)]at h3;exact⟨by rw[<- h3];simp[z0,nP],Xq⟩
  .have p7:(y != first)=true:=by simp[hy]
   by_cases u9:0<n
   .have YG:turn.length+1<(inL P).length:=oO;have ZN:(turn.length:Int)+1<(inL P).length:=oO
    (repeat' (first|apply qS|refine qK (zZ ?_)|(apply qC;simp[f0,f3,f4,f5,P1,hg,tH,t0,c1,c2,c3,c4,c5,p7,YG,ZN])|(refine zE ?_;intro J hJ;simp[f0,f3,f4,f5,P1,hg,tH,t0,c1,c2,c3,c4,c5,p7,YG,ZN];(repeat refine ca ?_);refine zJ hJ ?_)))
    rw[aAe ⟨hy,u9⟩]at h3;refine uV ?_;simp only[ak,eT,fZ,eW,qV];refine YN _ _ (hRo (turn++[x]) y (s.next+1) _ _ (by simp;omega) u9 (by rw[<- h3];simp) (by simp[f0]) sS (by simp[f4]) sS ⟨oO,oO,sS,sS⟩ Xq)
   .have YG:¬turn.length+1<(inL P).length:=oO;have ZN:¬(turn.length:Int)+1<(inL P).length:=oO
    (repeat' (first|apply qS|refine qK (zZ ?_)|(refine qR (zZ ?_);simp[f0,f3,f4,f5,P1,hg,tH,t0,c1,c2,c3,c4,c5,p7,YG,ZN])|(apply qC;simp[f0,f3,f4,f5,P1,hg,tH,t0,c1,c2,c3,c4,c5,p7,YG,ZN])|(refine zE ?_;intro J hJ;simp[f0,f3,f4,f5,P1,hg,tH,t0,c1,c2,c3,c4,c5,p7,YG,ZN];(repeat refine ca ?_);refine zJ hJ ?_)))
    rw[aAa (fun h=>u9 h.2)]at h3;exact⟨by rw[<- h3];simp[z0,nP],Xq⟩
end Aw
namespace Aw
open Go Go.RowKit Pl
def oX(l:List Int):List Int:=l.foldr vX []
theorem zH:∀ l,(oX l).Pairwise (· < ·)
 |[]=>.nil
 |x::l=>zA x _ (zH l)
theorem pX(x:Int):∀ l,x∈oX l↔x∈l
 |[]=>by simp[oX]
 |y::l=>by have ih:=pX x l;unfold oX at ih ⊢;rw[List.foldr_cons,pG,ih,aAf]
theorem Pr(A:Tn)(loc:Int->Nat):uC (ouL A loc)=A.map (·.1):=by
 induction A with
 |nil=>rfl
 |cons p P ih=>simp only[ouL,aAi,uC]at ih ⊢;rw[ih];rfl
theorem RA(m q:Nat)(es:List (List Int×LV))(K:List Int)(st:St)(hl:es.length<=1000)(hH:st.H q=.box 80 1 [.mp m])(hm:st.H m=.map false [.u32] es)(hK:uC es=K)(hn:K.Nodup):
 aB prog 46 [.fn (.func 80) [.pt q 0]] st fun r st'=>r=.sl 0 (oX K).length (us (oX K))/\aA st st':=by
 refine cG ?_;refine zN func46 ntmps46 [.tmp 2] ?_
 (repeat' (first|apply qS|(refine zE ?_;intro J hJ;simp[];(try refine zJ hJ ?_))))
 refine qE (ID m q es _ oO hH hm) sS ?_;rintro r s1 ⟨ys,N0,rfl,rfl⟩;have hyl:ys.length=es.length:=by rw[N0.length_eq];simp[uC]
 (repeat' (first|apply qS|((first|(refine zE ?_;intro J hJ)|(apply aF));simp[];(try refine zJ hJ ?_))))
 refine qE (TF ys st.next _ oO sS sS) sS ?_;rintro r s2 ⟨c,hB,hp,hs,Xu⟩;have Zk:=Xu.1;simp only[aJ]at Zk;have hKp:aA st s2:=⟨oO,fun l' Yn=>(Xu.2 l' oO (by simp;omega)).trans ((aA.new st _).H l' Yn)⟩;have Xh:=hp.length_eq;have hpK:c.Perm K:=by rw[<- hK];exact hp.trans N0
 have hc:c=oX K:=by
  refine zD id ?_ (by simpa using zH K) fun x=>by rw[pX];exact hpK.mem_iff
  rw[aEY];refine(List.Pairwise.and hs (hpK.nodup_iff.2 hn)).imp fun h=>?_;have:=h.1;have:=h.2;omega
 (repeat' (first|apply qS|(refine qR (zZ ?_);simp[])|((first|(refine zE ?_;intro J hJ)|(apply aF));simp[];refine zJ hJ ?_)))
 rw[<- hc];exact⟨st.next,c.length,⟨rfl,Xh.symm⟩,_,_,_,hB,sS,⟨rfl,by rw[aAv sS]⟩,hKp.set (aAk _) _⟩
def eS(B:List Ed)(v x:Int):List Int:=
 if x<v then(B.map fun e=>2*e.id+if e.b=v then 1 else 0).reverse else B.map fun e=>2*e.id+if e.b=v then 1 else 0
theorem UR(B:List Ed)(v x:Int)(t:Nat)(st:St)(hl:B.length<=1000)(ZA:∀ e∈B,1<=e.id/\e.id<=1048576):
 aB prog 49 [.sl t B.length (eds B),u v,u x] st fun r st'=>r=.sl 0 (eS B v x).length (us (eS B v x))/\st'=st:=by
 refine qT (Q:=fun r=>r=.sl 0 (eS B v x).length (us (eS B v x))) (cG ?_) fun r h=>by subst h;exact⟨.inl rfl,zU _ _⟩
 have hel:=aN B;refine zN func49 ntmps49 [.tmp 6] ?_
 (repeat' (first|apply qS|apply qB|(refine zE ?_;intro J hJ;simp[];refine zJ hJ ?_)))
 refine uG 7 34 1 sS ?_;refine aZ 13 12 14 28 (B.length) (fun j fr st2=>fr 1=u v/\fr 2=u x/\fr 11=.sl t B.length (eds B)/\aA st st2/\∃ q,fr 7=.ms q 0 j/\st.next<=q/\q<st2.next/\st2.H q=.box 34 1 (us ((B.take j).map fun e=>2*e.id+if e.b=v then 1 else 0))) ?_ ?_ ?_
 .exact⟨sS,sS,sS,aA.new _ _,st.next,sS,aAk _,sS,sS⟩
 .rintro j fr s GD ⟨f1,f2,f11,hk,q,f7,q1,q2,hq⟩ fi fn JO hJO;have hd:=aW B j GD;have Xv:j*3<B.length*3:=oO;have Xx:((B.take (j+1)).map fun e=>2*e.id+if e.b=v then 1 else 0)=((B.take j).map fun e=>2*e.id+if e.b=v then 1 else 0)++[2*(B.getD j ed0).id+if(B.getD j ed0).b=v then 1 else 0]:=by have h1:B.take (j+1)=B.take j++[B[j]]:=aAn GD;rw[h1,aAu,cZ B j GD];rfl
  have hp:=ZA (B.getD j ed0) (by rw[cZ B j GD];exact aAA _);have Yw:((B.take j).map fun e=>2*e.id+if e.b=v then(1:Int)else 0).length=j:=by simp;omega
  generalize B.getD j ed0=y at *;generalize ((B.take j).map fun e=>2*e.id+if e.b=v then(1:Int)else 0)=D at *;obtain⟨d,a,b⟩:=y;simp only at Xx hp hd;have c1:¬q=s.next:=oO;have c1b:¬q=s.next+1:=oO;have htj:(us D).take j=us D:=aAv (by simp;omega);have Y9:j<=D.length:=oO;have hj1:(j+1)*4<=140737488355328:=oO;have hj2:j+1<=maxLen:=by unfold maxLen;omega
  have Xq:∀(o1 o2 o4:cI),aA st ((((s.new o1).new o2).set q .dead).new o4):=fun o1 o2 o4=>(((hk.trans (aA.new _ _)).trans (aA.new _ _)).set q1 _).trans (aA.new _ _);by_cases hb:b=v
  .have u7:(b==v)=true:=by simp[hb]
   rw[aAe hb]at Xx
   (repeat' (first|apply qS|(apply qC;simp[f1,f7,f11,fi,fn,GD,hd,hel,Xv,u7])|(refine zE ?_;intro J hJ;simp[f1,f7,f11,fi,fn,GD,hd,hel,Xv,u7];(try refine zJ hJ ?_))))
   refine qE (dOf d 1 _ oO oO (.inr rfl)) sS ?_;rintro r s1 ⟨rfl,rfl⟩
   (repeat' (apply aF;simp[f7,hq,c1,c1b,htj,Y9,hj1,hj2];refine zJ hJ ?_))
   exact hJO _ _ (by simp[fi]) (by simp[fn]) ⟨by simp[f1],by simp[f2],by simp[f11],Xq _ _ _,s.next+1+1,sS,oO,sS,by rw[Xx];simp⟩
  .have u7:(b==v)=false:=by simp[hb]
   rw[aAa hb]at Xx
   (repeat' (first|apply qS|refine qK (zZ ?_)|(apply qC;simp[f1,f7,f11,fi,fn,GD,hd,hel,Xv,u7])|(refine zE ?_;intro J hJ;simp[f1,f7,f11,fi,fn,GD,hd,hel,Xv,u7];(try refine zJ hJ ?_))))
   refine qE (dOf d 0 _ oO oO (.inl rfl)) sS ?_;rintro r s1 ⟨rfl,rfl⟩
   (repeat' (apply aF;simp[f7,hq,c1,c1b,htj,Y9,hj1,hj2];refine zJ hJ ?_))
   exact hJO _ _ (by simp[fi]) (by simp[fn]) ⟨by simp[f1],by simp[f2],by simp[f11],Xq _ _ _,s.next+1+1,sS,oO,sS,by rw[Xx];simp⟩
 .rintro fr s ⟨f1,f2,f11,hk,q,f7,q1,q2,hq⟩;rw[aAQ]at hq;unfold eS;have Yw:(B.map fun e=>2*e.id+if e.b=v then(1:Int)else 0).length=B.length:=sS;generalize (B.map fun e=>2*e.id+if e.b=v then(1:Int)else 0)=D at *;by_cases hx:x<v
  .rw[aAe hx];rw[<- Yw]at f7
   (repeat' (first|apply qS|(apply qC;simp[f1,f2,f7,hx])|(refine zE ?_;intro J hJ;simp[f1,f2,f7,hx];(try refine zJ hJ ?_))))
   refine qE (tY D q s (by unfold small;omega) hq) sS ?_;rintro r s1 rfl
   (repeat' (first|apply qS|(refine qR (zZ ?_);simp[f7])|((first|(refine zE ?_;intro J hJ)|(apply aF));simp[f7];refine zJ hJ ?_)))
   exact⟨q,D.length,⟨rfl,rfl⟩,_,_,_,aAe rfl,sS,⟨sS,by rw[aAv sS]⟩,(hk.set q1 _).set q1 _⟩
  .rw[aAa hx]
   (repeat' (first|apply qS|refine qK (zZ ?_)|(refine qR (zZ ?_);simp[f1,f2,f7,hx])|(apply qC;simp[f1,f2,f7,hx])|(refine zE ?_;intro J hJ;simp[f1,f2,f7,hx];refine zJ hJ ?_)))
   exact⟨q,B.length,⟨rfl,rfl⟩,_,_,_,hq,by simp;omega,⟨Yw.symm,by rw[aAv (by simp;omega)]⟩,hk.set q1 _⟩
abbrev RM:=List (List Int×Nat×Nat×List LV)
def rmV(a:Nat×Nat×List LV):LV:=.sl a.1 a.2.1 a.2.2
def rmL(A:RM):List (List Int×LV):=A.map fun a=>(a.1,rmV a.2)
def nI(k:List Int)(x:Nat×Nat×List LV):RM->RM
 |[]=>[(k,x)]
 |a::A=>if k==a.1 then(k,x)::A else a::nI k x A
def getM(k:List Int):RM->Option (Nat×Nat×List LV)
 |[]=>none
 |a::A=>if k==a.1 then some a.2 else getM k A
theorem Km(k:List Int)(x:Nat×Nat×List LV):∀ A,bP (rmL A) k (rmV x)=rmL (nI k x A)
 |[]=>rfl
 |a::A=>by
  have ih:=Km k x A;unfold nI;simp only[rmL,aAi,bP]at ih ⊢
  split<;>simp[ih]
theorem tW(k:List Int):∀ A,bQ (rmL A) k=(getM k A).map rmV
 |[]=>rfl
 |a::A=>by
  have ih:=tW k A;unfold getM;simp only[rmL,aAi,bQ]at ih ⊢
  split<;>simp[ih]
theorem mW{k:List Int}{x:Nat×Nat×List LV}:∀ {A},getM k A=some x->(k,x)∈A
 |[],h=>by cases h
 |a::A,h=>by
  unfold getM at h
  split at h
  .rename_i e;have e:k=a.1:=by simpa using e
   rw[e,<- aBf h];simp
  .exact aAj _ (mW h)
theorem getM_none{k:List Int}:∀ {A:RM},getM k A=none->k∉A.map (·.1)
 |[],_=>by simp
 |a::A,h=>by
  unfold getM at h
  split at h
  .cases h
  .rename_i e;simp only[aAi,aAf,aBV];exact⟨by simpa using e,getM_none h⟩
theorem Ay{k:List Int}{x:Nat×Nat×List LV}:∀ {A:RM},k∉A.map (·.1)->nI k x A=A++[(k,x)]
 |[],_=>rfl
 |a::A,h=>by simp only[aAi,aAf,aBV]at h;unfold nI;rw[aAa (by simpa using h.1),Ay h.2];rfl
theorem xC{k:List Int}{x:Nat×Nat×List LV}:∀ {A:RM},k∈A.map (·.1)->(nI k x A).map (·.1)=A.map (·.1)
 |a::A,h=>by
  unfold nI;by_cases e:k=a.1
  .rw[aAe (by simpa using e)];simp[e]
  .rw[aAa (by simpa using e),aAi,aAi,xC];simp only[aAi,aAf]at h;exact h.resolve_left e
theorem pV{k:List Int}{x:Nat×Nat×List LV}:∀ {A:RM},(A.map (·.1)).Nodup->∀ a∈nI k x A,a=(k,x)\/(a∈A/\a.1≠k)
 |[],_,a,ha=>by simp only[nI,aAl]at ha;exact .inl ha
 |b::A,hn,a,ha=>by
  obtain⟨n1,n2⟩:=aAy.1 (by simpa using hn:(b.1::A.map (·.1)).Nodup);unfold nI at ha;by_cases e:k=b.1
  .rw[aAe (by simpa using e)]at ha;rcases aAf.1 ha with ha|ha
   .exact .inl ha
   .exact .inr ⟨aAj _ ha,fun h2=>n1 (by rw[<- e,<- h2];exact aAm.2 ⟨a,ha,rfl⟩)⟩
  .rw[aAa (by simpa using e)]at ha;rcases aAf.1 ha with ha|ha
   .exact .inr ⟨by simp[ha],by rw[ha];exact fun h=>e h.symm⟩
   .rcases pV n2 a ha with h|⟨h1,h2⟩
    .exact .inl h
    .exact .inr ⟨aAj _ h1,h2⟩
theorem Ct{k:List Int}{t n:Nat}{c:List LV}:∀ {A:RM},(A.map fun a=>a.2.1).Nodup->(∀ a∈A,a.2.1≠t)->((nI k (t,n,c) A).map fun a=>a.2.1).Nodup
 |[],_,_=>by simp[nI]
 |a::A,hn,h=>by
  obtain⟨n1,n2⟩:=aAy.1 (by simpa using hn:(a.2.1::A.map fun a=>a.2.1).Nodup);unfold nI
  split
  .rw[aAi,aAy];refine⟨fun hm=>?_,n2⟩;obtain⟨b,hb,e⟩:=aAm.1 hm;exact h b (aAj _ hb) e
  .rw[aAi,aAy];refine⟨fun hm=>?_,Ct n2 fun b hb=>h b (aAj _ hb)⟩;obtain⟨b,hb,e⟩:=aAm.1 hm;have:b=(k,(t,n,c))\/b∈A:=by
    clear n1 n2 h hn hm;revert hb;clear e;induction A with
    |nil=>intro hb;simp only[nI,aAl]at hb;exact .inl hb
    |cons a2 A ih=>
     intro hb;unfold nI at hb
     split at hb
     .rcases aAf.1 hb with hb|hb
      .exact .inl hb
      .exact .inr (aAj _ hb)
     .rcases aAf.1 hb with hb|hb
      .exact .inr (by simp[hb])
      .exact(ih hb).imp id (aAj _)
   rcases this with rfl|hb
   .exact h a sS e.symm
   .exact n1 (aAm.2 ⟨b,hb,e⟩)
theorem Kl:∀ {A:RM},(A.map fun a=>a.2.1).Nodup->∀ {a b},a∈A->b∈A->a.2.1=b.2.1->a=b
 |[],_,_,_,h,_,_=>by cases h
 |c::A,hn,a,b,ha,hb,e=>by
  obtain⟨n1,n2⟩:=aAy.1 (by simpa using hn:(c.2.1::A.map fun a=>a.2.1).Nodup);rcases aAf.1 ha with ha|ha
  .rcases aAf.1 hb with hb|hb
   .rw[ha,hb]
   .exact absurd (aAm.2 ⟨b,hb,by rw[<- e,ha]⟩) n1
  .rcases aAf.1 hb with hb|hb
   .exact absurd (aAm.2 ⟨a,ha,by rw[e,hb]⟩) n1
   .exact Kl n2 ha hb e
structure yL(ag:Bool)(ks:List IntKind)(e w:Nat)(A:RM)(m lo:Nat)(st:St):Prop where
 map:st.H m=.map ag ks (rmL A)
 mlt:lo<=m/\m<st.next
 tok:∀ a∈A,a.2.1≠0/\lo<=a.2.1/\a.2.1<st.next/\st.H a.2.1=.own e w a.2.2.1
 inj:(A.map fun a=>a.2.1).Nodup
 nd:(A.map (·.1)).Nodup
theorem yL.keep{ag:Bool}{ks:List IntKind}{e w:Nat}{A:RM}{m lo:Nat}{st st':St}(h:yL ag ks e w A m lo st)(k:aA st st'):yL ag ks e w A m lo st':=by have hn:=k.next;have hm:=h.mlt;refine⟨(k.H _ hm.2).trans h.map,⟨hm.1,oO⟩,fun a ha=>?_,h.inj,h.nd⟩;obtain⟨h1,h2,h3,h4⟩:=h.tok a ha;exact⟨h1,h2,oO,(k.H _ h3).trans h4⟩
theorem yL.put{ag:Bool}{ks:List IntKind}{e w:Nat}{A:RM}{m lo:Nat}{st st':St}(h:yL ag ks e w A m lo st){k:List Int}{t n:Nat}{c:List LV}
 (ht:st.next<=t/\t<st'.next) (hn:st.next<=st'.next) (C1:lo<=st.next) (h0:t≠0) (hm:st'.H m=.map ag ks (bP (rmL A) k (rmV (t,n,c)))) (hT:st'.H t=.own e w n)
 (hK:∀ l,l<st.next->l≠m->(∀ x,getM k A=some x->l≠x.1)->st'.H l=st.H l):yL ag ks e w (nI k (t,n,c) A) m lo st':=by
 have O3:=h.mlt;rw[Km]at hm;refine⟨hm,⟨O3.1,oO⟩,fun a ha=>?_,Ct h.inj fun a ha=>by have:=(h.tok a ha).2.2.1;omega,?_⟩
 .rcases pV h.nd a ha with rfl|⟨ha,Wu⟩
  .exact⟨h0,aBj C1 ht.1,ht.2,hT⟩
  .obtain⟨h1,h2,h3,h4⟩:=h.tok a ha;refine⟨h1,h2,oO,?_⟩;rw[hK _ h3 (fun q=>by rw[q,h.map]at h4;cases h4) fun x hx q=>?_]
   .exact h4
   .have hx:=mW hx;refine Wu ?_;exact(by rw[Kl h.inj ha hx q]:a.1=k)
 .by_cases hk:k∈A.map (·.1)
  .rw[xC hk];exact h.nd
  .rw[Ay hk,aAu,aAs];refine⟨h.nd,sS,fun a ha b hb e=>?_⟩;simp only[aAi,aBt,aAl]at hb;subst hb;subst e;exact hk ha
abbrev prE(e:Ed):Int×Int:=prP e.a e.b
def jJ(E:List Ed)(p:Int×Int):List Ed:=E.filter fun e=>decide (prE e=p)
abbrev jK(g:Gr)(v x:Int):List Ed:=jJ g.es (prP v x)
abbrev TL:=List (Int×List Int)
def oV(v:Int)(ds:List Int):TL->TL
 |[]=>[(v,ds)]
 |p::T=>if p.1=v then(v,p.2++ds)::T else p::oV v ds T
def dV(v:Int):TL->List Int
 |[]=>[]
 |p::T=>if p.1=v then p.2 else dV v T
def dM(g:Gr)(v:Int)(L:List Int)(T:TL):TL:=L.foldl (fun T x=>oV v (eS (jK g v x) v x) T) T
def dA(v:Int):Tn->List (Int×Int)
 |[]=>[]
 |a::A=>if a.1=v then a.2 else dA v A
def fB(g:Gr)(A:Tn)(K:List Int)(T:TL):TL:=K.foldl (fun T v=>dM g v (cA (dA v A)) T) T
def fF(T:TL):Nat:=(T.map fun p=>p.2.length).sum
def okE(F:List (List Int))(A:Tn)(T:TL):Prop:=F.length<=300/\(∀ r∈F,r.length<=1000)/\A.length<=1000/\(∀ a∈A,a.2.length<=1000)/\fF T<=100000
instance (F:List (List Int)) (A:Tn) (T:TL):Decidable (okE F A T):=by unfold okE;infer_instance
def vB(g:Gr)(F:List (List Int))(T:TL):TL:=fB g (aY F) (oX ((aY F).map (·.1))) T
def FI(g:Gr):List (List Ed)->TL->Option (Option TL)
 |[],T=>some (some T)
 |l::bl,T=>(Au l).bind fun o=>match o with
  |none=>some none
  |some F=>if okE F (aY F) (vB g F T)then FI g bl (vB g F T)else none
def vR(g:Gr)(bl:List (List Ed)):Option (Option Mp):=
 (FI g bl []).bind fun o=>match o with
   |none=>some none
   |some T=>if ∀ v∈g.vs,(dV v T).length<=1000 then some (some ⟨g,g.vs.map fun v=>nrm (dV v T)⟩)else none
theorem Jy(P:List (Int×Int))(f:Int):∀ n x,(goR P f n x).length<=n
 |0,_=>by simp[goR]
 |n+1,x=>by
  unfold goR
  split
  .have:=Jy P f n (nX P x);simp;omega
  .simp
theorem Hx(P:List (Int×Int)):(cA P).length<=P.length:=Jy _ _ _ _
theorem uX(v:Int)(ds:List Int):∀ T:TL,fF (oV v ds T)=fF T+ds.length
 |[]=>by simp[oV,fF]
 |p::T=>by
  have ih:=uX v ds T;unfold oV
  split
  .simp only[fF,aAi,List.sum_cons,aAh]at ih ⊢;omega
  .simp only[fF,aAi,List.sum_cons]at ih ⊢;omega
theorem wR(g:Gr)(v:Int):∀(L:List Int) (T:TL),fF T<=fF (dM g v L T)
 |[],_=>aAk _
 |x::L,T=>by have h:=wR g v L (oV v (eS (jK g v x) v x) T);have h2:=uX v (eS (jK g v x) v x) T;unfold dM at h ⊢;rw[List.foldl_cons];omega
theorem Ca(g:Gr)(A:Tn):∀(K:List Int) (T:TL),fF T<=fF (fB g A K T)
 |[],_=>aAk _
 |v::K,T=>by have h:=Ca g A K (dM g v (cA (dA v A)) T);have h2:=wR g v (cA (dA v A)) T;unfold fB at h ⊢;rw[List.foldl_cons];omega
theorem Ao(v:Int):∀ T:TL,(dV v T).length<=fF T
 |[]=>aAk _
 |p::T=>by
  have ih:=Ao v T;unfold dV
  split
  .simp only[fF,aAi,List.sum_cons];omega
  .simp only[fF,aAi,List.sum_cons]at ih ⊢;omega
theorem HT(g:Gr)(A:Tn)(K:List Int)(T:TL)(j:Nat):fB g A K T=fB g A (K.drop j) (fB g A (K.take j) T):=by unfold fB;rw[<- aBm,aAH]
theorem Fb(g:Gr)(v:Int)(L:List Int)(T:TL)(j:Nat):dM g v L T=dM g v (L.drop j) (dM g v (L.take j) T):=by unfold dM;rw[<- aBm,aAH]
theorem GG{v:Int}:∀ {A:Tn},v∈A.map (·.1)->(v,dA v A)∈A
 |a::A,h=>by
  unfold dA;by_cases e:a.1=v
  .rw[aAe e,<- e];simp
  .rw[aAa e];simp only[aAi,aAf]at h;exact aAj _ (GG (h.resolve_left fun h=>e h.symm))
theorem Qj(x y:Int)(P:List (Int×Int)):qQ x y P≠[]:=by
 cases P with
 |nil=>simp[qQ]
 |cons p P=>unfold qQ;split<;>simp
theorem Ki{v x y:Int}:∀ {A:Tn},(∀ a∈A,a.2≠[])->∀ a∈gH v x y A,a.2≠[]
 |[],_,a,ha=>by simp only[gH,aAl]at ha;rw[ha];simp
 |b::A,h,a,ha=>by
  unfold gH at ha
  split at ha
  .rcases aAf.1 ha with ha|ha
   .rw[ha];exact Qj _ _ _
   .exact h a (aAj _ ha)
  .rcases aAf.1 ha with ha|ha
   .rw[ha];exact h b sS
   .exact Ki (fun a ha=>h a (aAj _ ha)) a ha
theorem GV(r:List Int){A:Tn}(h:∀ a∈A,a.2≠[]):∀ j,∀ a∈jR r A j,a.2≠[]
 |0=>h
 |j+1=>Ki (GV r h j)
theorem Il(R:List (List Int)):∀ a∈aY R,a.2≠[]:=by
 unfold aY;have key:∀(R:List (List Int)) (A:Tn),(∀ a∈A,a.2≠[])->∀ a∈R.foldl (fun A r=>jR r A r.length) A,a.2≠[]:=fun R=>by
  induction R with
  |nil=>exact fun A h=>h
  |cons r R ih=>exact fun A h=>ih _ (GV r h _)
 exact key R [] sS
structure Ec(E:List Ed)(A:RM):Prop where
 row:∀ a∈A,∃ p,a.1=pk p/\a.2.2.1=(jJ E p).length/\a.2.2.2=eds (jJ E p)
 all:∀ e∈E,pk (prE e)∈A.map (·.1)
theorem rM(E:List Ed)(x:Ed)(p:Int×Int):jJ (E++[x]) p=if prE x=p then jJ E p++[x]else jJ E p:=by
 unfold jJ;rw[aBx];by_cases h:prE x=p
 .rw[aAe h];simp[h]
 .rw[aAa h];simp[h]
theorem TX{p q:Int×Int}(h:pk p=pk q):p=q:=by simp only[pk,aBi,aDn]at h;exact aDG h.1 h.2
theorem Ec.get{E:List Ed}{A:RM}(h:Ec E A)(hn:(A.map (·.1)).Nodup)(p:Int×Int):
 (jJ E p=[]/\getM (pk p) A=none)\/∃ t,getM (pk p) A=some (t,(jJ E p).length,eds (jJ E p)):=by
 cases hg:getM (pk p) A with
 |none=>refine .inl ⟨?_,rfl⟩;refine aCw.2 fun e he=>?_;obtain⟨h1,h2⟩:=aAr.1 he;exact getM_none hg (by rw[<- aBR h2];exact h.all e h1)
 |some x=>obtain⟨t,n,c⟩:=x;obtain⟨q,h1,h2,h3⟩:=h.row _ (mW hg);have:=TX h1;subst this;simp only at h2 h3;exact .inr ⟨t,by rw[h2,h3]⟩
theorem Ec.add{E:List Ed}{A:RM}(h:Ec E A)(hn:(A.map (·.1)).Nodup)(x:Ed)(t:Nat):
 Ec (E++[x]) (nI (pk (prE x)) (t,(jJ E (prE x)).length+1,eds (jJ E (prE x))++[u x.id,u x.a,u x.b]) A):=by
 refine⟨fun a ha=>?_,fun e he=>?_⟩
 .rcases pV hn a ha with rfl|⟨ha,Wu⟩
  .refine⟨prE x,rfl,?_,?_⟩
   .rw[rM,aAe rfl];simp
   .rw[rM,aAe rfl];simp[eds,edL]
  .obtain⟨p,h1,h2,h3⟩:=h.row a ha;have:¬prE x=p:=fun e=>Wu (by rw[h1,e]);exact⟨p,h1,by rw[rM,aAa this];exact h2,by rw[rM,aAa this];exact h3⟩
 .by_cases hk:pk (prE x)∈A.map (·.1)
  .rw[xC hk];rcases aAg.1 he with he|he
   .exact h.all e he
   .rw[aAl]at he;rw[he];exact hk
  .rw[Ay hk,aAu,aAg];rcases aAg.1 he with he|he
   .exact .inl (h.all e he)
   .rw[aAl]at he;rw[he];exact .inr sS
def vH(T:TL)(A:RM):Prop:=A.map (fun a=>(a.1,a.2.2))=T.map fun p=>([p.1],(p.2.length,us p.2))
theorem vH.get{v:Int}:∀ {T:TL} {A:RM},vH T A->(dV v T=[]/\getM [v] A=none)\/∃ t,getM [v] A=some (t,(dV v T).length,us (dV v T))
 |[],[],_=>.inl ⟨rfl,rfl⟩
 |[],a::A,h=>by cases h
 |p::T,[],h=>by cases h
 |p::T,a::A,h=>by
  obtain⟨ak,at',an,ac⟩:=a;simp only[vH,aAi,aBi,aAW]at h;obtain⟨⟨h1,h2,h3⟩,h4⟩:=h;subst h1;subst h2;subst h3;unfold dV getM;by_cases e:p.1=v
  .rw[aAe e,aAe (by simp[e])];exact .inr ⟨at',rfl⟩
  .rw[aAa e,aAa (by simpa using fun h=>e h.symm)];exact vH.get h4
theorem vH.add{v:Int}{ds:List Int}(t:Nat):∀ {T:TL} {A:RM},vH T A->vH (oV v ds T) (nI [v] (t,(dV v T).length+ds.length,us (dV v T)++us ds) A)
 |[],[],_=>by simp[vH,oV,nI,dV]
 |[],a::A,h=>by cases h
 |p::T,[],h=>by cases h
 |p::T,a::A,h=>by
  obtain⟨ak,at',an,ac⟩:=a;simp only[vH,aAi,aBi,aAW]at h;obtain⟨⟨h1,h2,h3⟩,h4⟩:=h;subst h1;subst h2;subst h3;unfold dV oV nI;by_cases e:p.1=v
  .rw[aAe e,aAe e,aAe (by simp[e])];simp only[vH,aAi,aBi,aAW];exact⟨⟨trivial,sS,sS⟩,h4⟩
  .rw[aAa e,aAa e,aAa (by simpa using fun h=>e h.symm)];have:=vH.add (v:=v) (ds:=ds) t (T:=T) (A:=A) h4;simp only[vH,aAi,aBi]at this ⊢;exact⟨trivial,this⟩
end Aw
namespace Aw
open Go Go.RowKit Pl Eu
def PF(F:List (List Int)):List (Int×Int):=F.flatMap prs
def Con(F:List (List Int)):Prop:=∀ R:(Int×Int)->(Int×Int)->Prop,(∀ p q,R p q->R q p)->(∀ p q r,R p q->R q r->R p r)->(∀ r∈F,∀ p∈prs r,∀ q∈prs r,R p q)->(∀ p∈PF F,R p p.swap)->∀ p∈PF F,∀ q∈PF F,R p q
structure Drn(E:List Ed)(h:Sh):Prop where
 nd:(PF h.F).Nodup
 mem:∀ u v,(u,v)∈PF h.F↔u≠v/\prP u v∈h.L
 lnd:h.L.Nodup
 sub:∀ p∈h.L,∃ e∈E,prE e=p
 on:∀ v,v∈h.on↔∃ u,u≠v/\prP u v∈h.L
 cnt:h.F.length+((vsF E).filter fun v=>decide (v∈h.on)).length=h.L.length+2
 con:Con h.F
 ne:∀ r∈h.F,r≠[]
theorem bL(u v:Int):prP u v=prP v u:=by unfold prP;rw[Int.min_comm,Int.max_comm]
theorem cH{u v x y:Int}(h:prP u v=prP x y):(u=x/\v=y)\/(u=y/\v=x):=by unfold prP at h;injection h with h1 h2;omega
theorem gN{F:List (List Int)}{p:Int×Int}:p∈PF F↔∃ r∈F,p∈prs r:=aAR
theorem wH:∀ {w:List Int} {v:Int},2<=w.length->v∈w->∃ u,(u,v)∈lnk w\/(v,u)∈lnk w
 |a::b::l,v,_,h=>by
  rcases aAf.1 h with rfl|h
  .exact⟨b,.inr (by simp[lnk])⟩
  .rcases aAf.1 h with rfl|h'
   .exact⟨a,.inl (by simp[lnk])⟩
   .have h2:2<=(b::l).length:=by have:=aEt h';simp;omega
    obtain⟨u,hu⟩:=wH (w:=b::l) h2 h;exact⟨u,hu.imp (fun k=>aAj _ k) fun k=>aAj _ k⟩
theorem JS{r:List Int}{v:Int}(h:v∈r):∃ u,(v,u)∈prs r:=by
 obtain⟨A,B,rfl⟩:=aCd h;unfold prs;cases A with
 |nil=>
  rw[List.nil_append,List.cons_append];cases B with
  |nil=>exact⟨v,by simp[lnk]⟩
  |cons b B=>exact⟨b,by simp[lnk]⟩
 |cons a A=>
  have e:(a::A++v::B)++(a::A++v::B).take 1=(a::A)++v::(B++[a]):=sS;rw[e,iT];cases B with
  |nil=>exact⟨a,aAI _ (by simp[lnk])⟩
  |cons b B=>exact⟨b,aAI _ (by simp[lnk])⟩
theorem TZ{r:List Int}{x y:Int}(h:(x,y)∈prs r):x∈r/\y∈r:=by unfold prs at h;have:=gL h;rw[aAg,aAg]at this;exact⟨this.1.elim id aCv,this.2.elim id aCv⟩
theorem nL:∀(P L:List (Int×Int)),P.Nodup->(∀ p∈P,p∉L)->P.foldl IX L=L++P
 |[],L,_,_=>by simp
 |p::P,L,hn,h=>by
  obtain⟨h1,h2⟩:=aAy.1 hn
  rw[List.foldl_cons,IX,aAa (h p aAo),nL P (L++[p]) h2 fun q hq hm=>by
   rw[aAg,aAl]at hm;rcases hm with hm|rfl
   .exact h q (aAj _ hq) hm
   .exact h1 hq]
  simp
theorem kK{w:List Int}(h:w.Nodup):(jA w).Nodup:=by
 obtain⟨h1,h2⟩:=iG h;rw[gF,aEb,aAV];refine h1.imp_of_mem fun {p q} hp hq Wu e=>?_;rcases cH e with⟨e1,e2⟩|⟨e1,e2⟩
 .exact Wu (aDG e1 e2)
 .exact(h2 p.1 p.2 hp).2 (by rw[e1,e2];exact hq)
theorem Fg{l M on w:List Int}(hl:l.Nodup)(hM:M.Nodup)(Yk:∀ v∈M,v∈l)(hMo:∀ v∈M,v∉on)(hw:∀ v∈l,v∈w↔v∈M\/(v∈w/\v∈on)):(l.filter fun v=>decide (v∈on++w)).length=(l.filter fun v=>decide (v∈on)).length+M.length:=by
 have hp:(l.filter fun v=>decide (v∈on++w)).Perm ((l.filter fun v=>decide (v∈on))++M):=by
  refine(aAZ (hl.sublist aBp) (aAs.2 ⟨hl.sublist aBp,hM,?_⟩)).2 fun v=>?_
  .rintro a ha b hb rfl;rw[aAr,aAL]at ha;exact hMo a hb ha.2
  .rw[aAr,aAL,aAg,aAg,aAr,aAL];constructor
   .rintro⟨h1,h2|h2⟩
    .exact .inl ⟨h1,h2⟩
    .rcases(hw v h1).1 h2 with h|h
     .exact .inr h
     .exact .inl ⟨h1,h.2⟩
   .rintro(⟨h1,h2⟩|h)
    .exact⟨h1,.inl h2⟩
    .exact⟨Yk v h,.inr ((hw v (Yk v h)).2 (.inl h))⟩
 have:=hp.length_eq
 rwa [aAh]at this
theorem xI{w:List Int}(hw:2<=w.length):w=w.getD 0 0::(fD w++[w.getD (w.length-1) 0]):=by
 have hl:w.length-1<w.length:=oO;have a1:w=w.getD 0 0::w.drop 1:=by
  cases w with
  |nil=>simp at hw
  |cons x w=>rfl
 have a2:w.drop 1=fD w++[w.getD (w.length-1) 0]:=by
  have e3:w.drop (w.length-1+1)=[]:=aDc oO;unfold fD
  conv=>lhs;rw[<- aAH (w.length-2) (w.drop 1)]
  rw[aCK,show 1+(w.length-2)=w.length-1 by omega,aAc,aAd hl,Option.getD_some,aAO hl,e3]
 rw[<- a2];exact a1
section
variable {E:List Ed} {h:Sh} (hD:Drn E h)
include hD
theorem Drn.ring_on{r:List Int}(hr:r∈h.F){v:Int}(hv:v∈r):v∈h.on:=by obtain⟨u,hu⟩:=JS hv;have:=(hD.mem v u).1 (gN.2 ⟨r,hr,hu⟩);exact(hD.on v).2 ⟨u,fun e=>this.1 e.symm,by rw[bL];exact this.2⟩
theorem Drn.on_vs{v:Int}(hv:v∈h.on):v∈vsF E:=by
 obtain⟨u,hu,hm⟩:=(hD.on v).1 hv;obtain⟨e,he,hp⟩:=hD.sub _ hm;rw[bM];rcases cH hp with⟨e1,e2⟩|⟨e1,e2⟩
 .exact⟨e,he,.inr e2.symm⟩
 .exact⟨e,he,.inl e1.symm⟩
theorem Drn.lay{w:List Int}{at':Nat}(A5:at' < h.F.length)(ZV:2<=w.length)(hwn:w.Nodup)(h1:w.getD 0 0∈h.F.getD at' [])(h2:w.getD (w.length-1) 0∈h.F.getD at' [])(hm:∀ v∈fD w,v∉h.on)
 (hp:∀ x y,(x,y)∈lnk w->prP x y∉h.L/\∃ e∈E,prE e=prP x y):Drn E (rR h w at'):=by
 have ews:=xI ZV;have Wu:w.getD 0 0≠w.getD (w.length-1) 0:=fun e=>by rw[ews,e]at hwn;exact(aAy.1 hwn).1 sS
 obtain⟨a,b,ha,hb,q1,q2,q3⟩:=Rt ZV Wu h1 h2;obtain⟨n1,n2⟩:=iG hwn;have hrin:h.F.getD at' []∈h.F:=by rw[aAc,aAd A5];exact aAA _
 have o1:=hD.ring_on hrin h1;have o2:=hD.ring_on hrin h2;have hFs:∃ F1 F2,h.F=F1++h.F.getD at' []::F2/\∀ r,h.F.set at' r=F1++r::F2:=by
  refine⟨h.F.take at',h.F.drop (at'+1),?_,fun r=>?_⟩
  .rw[aAc,aAd A5,Option.getD_some,<- aAO A5,aAH]
  .rw[aBG,aAe A5]
 obtain⟨F1,F2,f1,f2⟩:=hFs;have hlen:(rR h w at').F.length=h.F.length+1:=by simp[rR]
 have hF:(rR h w at').F=(h.F.set at' (jI (h.F.getD at' []) ((h.F.getD at' []).idxOf (w.getD 0 0)) ((h.F.getD at' []).idxOf (w.getD (w.length-1) 0))++(fD w).reverse))++[jI (h.F.getD at' []) ((h.F.getD at' []).idxOf (w.getD (w.length-1) 0)) ((h.F.getD at' []).idxOf (w.getD 0 0))++fD w]:=rfl;rw[f2]at hF;have hL:(rR h w at').L=h.L++jA w:=by
  have:(rR h w at').L=kX h.L w:=rfl;rw[this];exact nL _ _ (kK hwn) fun p U8=>by rw[gF]at U8;obtain⟨q,hq,rfl⟩:=aAm.1 U8;exact(hp q.1 q.2 hq).1
 have hOn:(rR h w at').on=h.on++w:=rfl;generalize rR h w at'=h' at *;generalize jI (h.F.getD at' []) ((h.F.getD at' []).idxOf (w.getD 0 0)) ((h.F.getD at' []).idxOf (w.getD (w.length-1) 0))++(fD w).reverse=r1 at *;generalize jI (h.F.getD at' []) ((h.F.getD at' []).idxOf (w.getD (w.length-1) 0)) ((h.F.getD at' []).idxOf (w.getD 0 0))++fD w=r2 at *;generalize h.F.getD at' []=r at *;have hPF:(PF h'.F).Perm (PF h.F++(lnk w++lnk w.reverse)):=by
  rw[hF,f1];unfold PF;simp only[aCN,aAC,aDI,aAK];rw[q2,q3];have e1:(List.flatMap prs F1++(a++lnk w.reverse++List.flatMap prs F2)++(b++lnk w)).Perm (List.flatMap prs F1++((a++b)++List.flatMap prs F2)++(lnk w++lnk w.reverse)):=by rw[List.perm_iff_count];intro x;simp only[List.count_append];omega
  refine e1.trans ?_;exact(((q1.symm.append_right _).append_left _).append_right _)
 have G2:∀ u v,prP u v∈jA w↔(u,v)∈lnk w\/(v,u)∈lnk w:=fun u v=>by
  rw[gF,aAm];constructor
  .rintro⟨q,hq,e⟩;rcases cH e with⟨e1,e2⟩|⟨e1,e2⟩
   .left;rw[<- e1,<- e2];exact hq
   .right;rw[<- e1,<- e2];exact hq
  .rintro(k|k)
   .exact⟨_,k,rfl⟩
   .exact⟨_,k,bL _ _⟩
 have O0:∀ u v,(u,v)∈lnk w.reverse↔(v,u)∈lnk w:=fun u v=>by
  rw[(oI w).mem_iff,aAm];constructor
  .rintro⟨q,hq,e⟩;have:q=(v,u):=by rw[<- aED q,e];rfl
   rw[<- this];exact hq
  .intro k;exact⟨_,k,rfl⟩
 have Yp:∀ u v,(u,v)∈PF h'.F↔u≠v/\prP u v∈h'.L:=fun u v=>by
  rw[hPF.mem_iff,aAg,aAg,hD.mem,O0,hL,aAg,G2];constructor
  .rintro(⟨k1,k2⟩|k|k)
   .exact⟨k1,.inl k2⟩
   .exact⟨(n2 _ _ k).1,.inr (.inl k)⟩
   .exact⟨fun e=>(n2 _ _ k).1 e.symm,.inr (.inr k)⟩
  .rintro⟨k1,k2|k|k⟩
   .exact .inl ⟨k1,k2⟩
   .exact .inr (.inl k)
   .exact .inr (.inr k)
 have hmid:∀ v∈w,v∈fD w\/v∈h.on:=fun v hv=>by
  rw[ews]at hv;rcases aAf.1 hv with e|hv
  .exact .inr (by rw[e];exact o1)
  .rcases aAg.1 hv with hv|hv
   .exact .inl hv
   .exact .inr (by rw[aAl.1 hv];exact o2)
 refine⟨?_,Yp,?_,?_,?_,?_,?_,?_⟩
 .refine hPF.nodup_iff.2 (aAs.2 ⟨hD.nd,aAs.2 ⟨n1,(iG ((aDg w).nodup_iff.2 hwn)).1,?_⟩,?_⟩)
  .rintro⟨x,y⟩ hx _ hy rfl;exact(n2 x y hx).2 ((O0 _ _).1 hy)
  .rintro⟨x,y⟩ hx _ hy rfl;have k:=((hD.mem x y).1 hx).2;rcases aAg.1 hy with hy|hy
   .exact(hp x y hy).1 k
   .exact(hp y x ((O0 _ _).1 hy)).1 (by rw[bL];exact k)
 .rw[hL];refine aAs.2 ⟨hD.lnd,kK hwn,?_⟩;rintro p ZB _ Zt rfl;rw[gF]at Zt;obtain⟨q,hq,rfl⟩:=aAm.1 Zt;exact(hp q.1 q.2 hq).1 ZB
 .intro p Xf;rw[hL]at Xf;rcases aAg.1 Xf with k|k
  .exact hD.sub p k
  .rw[gF]at k;obtain⟨q,hq,rfl⟩:=aAm.1 k;exact(hp q.1 q.2 hq).2
 .intro v;rw[hOn,aAg,hD.on,hL];constructor
  .rintro(⟨u,k1,k2⟩|k)
   .exact⟨u,k1,aAt _ k2⟩
   .obtain⟨u,k|k⟩:=wH ZV k
    .exact⟨u,(n2 _ _ k).1,aAI _ ((G2 u v).2 (.inl k))⟩
    .exact⟨u,fun e=>(n2 _ _ k).1 e.symm,aAI _ ((G2 u v).2 (.inr k))⟩
  .rintro⟨u,k1,k2⟩;rcases aAg.1 k2 with k|k
   .exact .inl ⟨u,k1,k⟩
   .right;rcases(G2 u v).1 k with k|k
    .exact(gL k).2
    .exact(gL k).1
 .have hmn:(fD w).Nodup:=by rw[ews]at hwn;exact(aAs.1 (aAy.1 hwn).2).1
  have hvw:∀ v∈w,v∈vsF E:=fun v hv=>by
   obtain⟨u,k|k⟩:=wH ZV hv
   .obtain⟨e,he,ZZ⟩:=(hp _ _ k).2;rw[bM];rcases cH ZZ with⟨e1,e2⟩|⟨e1,e2⟩
    .exact⟨e,he,.inr e2.symm⟩
    .exact⟨e,he,.inl e1.symm⟩
   .obtain⟨e,he,ZZ⟩:=(hp _ _ k).2;rw[bM];rcases cH ZZ with⟨e1,e2⟩|⟨e1,e2⟩
    .exact⟨e,he,.inl e1.symm⟩
    .exact⟨e,he,.inr e2.symm⟩
  have hc:=Fg (l:=vsF E) (M:=fD w) (on:=h.on) (w:=w) ((kZ E).imp fun k=>by omega) hmn (fun v hv=>hvw v (pC hv)) hm fun v _=>⟨fun k=>(hmid v k).imp id fun k2=>⟨k,k2⟩,fun k=>k.elim pC And.left⟩;have Yw:=tM w;have O8:=hD.cnt;have hwl:=mQ w;rw[hlen,hOn,hL,aAh,hc];omega
 ·
  intro R hs ht hr YP;have m1:∀ p∈prs r1,p∈PF h'.F:=fun p k=>gN.2 ⟨r1,by rw[hF];simp,k⟩;have m2:∀ p∈prs r2,p∈PF h'.F:=fun p k=>gN.2 ⟨r2,by rw[hF];simp,k⟩;have w1:=hr r1 (by rw[hF];simp);have w2:=hr r2 (by rw[hF];simp);obtain⟨x0,y0,YK⟩:∃ x y,(x,y)∈lnk w:=by
   obtain⟨u,k|k⟩:=wH ZV (v:=w.getD 0 0) (by rw[aAc,aAd (by omega:0<w.length)];exact aAA _)
   .exact⟨_,_,k⟩
   .exact⟨_,_,k⟩
  have c2:(x0,y0)∈prs r2:=by rw[q3];exact aAI _ YK
  have c1:(y0,x0)∈prs r1:=by rw[q2];exact aAI _ ((O0 _ _).2 YK)
  have cc:R (x0,y0) (y0,x0):=YP _ (m2 _ c2);have both:∀ p,p∈prs r1\/p∈prs r2->R p (x0,y0):=by
   rintro p (k|k)
   .exact ht _ _ _ (w1 p k _ c1) (hs _ _ cc)
   .exact w2 p k _ c2
  have YC:∀ p∈prs r,p∈prs r1\/p∈prs r2:=fun p k=>by
   rcases aAg.1 (q1.mem_iff.1 k)with k|k
   .left;rw[q2];exact aAt _ k
   .right;rw[q3];exact aAt _ k
  have old:∀ p∈PF h.F,∀ q∈PF h.F,R p q:=by
   refine hD.con R hs ht (fun t htF p ZY q O6=>?_) fun p ZY=>YP p (hPF.mem_iff.2 (aAt _ ZY));rw[f1]at htF;rcases aAg.1 htF with k|k
   .exact hr t (by rw[hF];simp[k]) p ZY q O6
   .rcases aAf.1 k with e|k
    .subst e;exact ht _ _ _ (both p (YC p ZY)) (hs _ _ (both q (YC q O6)))
    .exact hr t (by rw[hF];simp[k]) p ZY q O6
  obtain⟨p0,hp0⟩:=aBo a ha;have k0:p0∈prs r:=q1.mem_iff.2 (aAt _ hp0);have k1:p0∈PF h.F:=gN.2 ⟨r,hrin,k0⟩;have z:R p0 (x0,y0):=both p0 (YC p0 k0);have all:∀ p∈PF h'.F,R p (x0,y0):=fun p U8=>by
   rcases aAg.1 (hPF.mem_iff.1 U8)with k|k
   .exact ht _ _ _ (old p k p0 k1) z
   .refine both p ?_;rcases aAg.1 k with k|k
    .right;rw[q3];exact aAI _ k
    .left;rw[q2];exact aAI _ k
  exact fun p ZY q O6=>ht _ _ _ (all p ZY) (hs _ _ (all q O6))
 .intro t ht;rw[hF]at ht;have nil:prs []=[]:=rfl;rcases aAg.1 ht with k|k
  .rcases aAg.1 k with k|k
   .exact hD.ne t (by rw[f1];simp[k])
   .rcases aAf.1 k with e|k
    .rintro e0;rw[<- e,e0,nil]at q2;exact ha (aEw.1 q2.symm).1
    .exact hD.ne t (by rw[f1];simp[k])
  .rw[aAl]at k;rintro e0;rw[<- k,e0,nil]at q3;exact hb (aEw.1 q3.symm).1
end
theorem Gq(a b:Int)(M:List Int):prs (a::(M++[b]))=lnk (a::(M++[b]))++[(b,a)]:=by
 have e:prs (a::(M++[b]))=lnk ((a::M)++b::[a]):=by unfold prs;simp
 rw[e,iT];rfl
theorem RF{a b m:Int}{M:List Int}(hn:(a::(m::M++[b])).Nodup):(a,b)∉lnk (a::(m::M++[b]))/\(b,a)∉lnk (a::(m::M++[b])):=by
 obtain⟨h1,h2⟩:=aAy.1 hn;have hb:b∈m::M++[b]:=sS;have Zf:m≠b:=fun e=>(aAy.1 h2).1 (by rw[e];simp);have e:lnk (a::(m::M++[b]))=(a,m)::lnk (m::M++[b]):=rfl;rw[e];constructor
 .intro h;rcases aAf.1 h with h|h
  .injection h with _ h;exact Zf h.symm
  .exact h1 (gL h).1
 .intro h;rcases aAf.1 h with h|h
  .injection h with h _;exact h1 (by rw[<- h];exact hb)
  .exact h1 (gL h).2
theorem Drn.start{E:List Ed}{x:Ed}{m:Int}{M ring:List Int}(hx:x∈E)(hr:ring=x.a::(m::M++[x.b]))(hn:ring.Nodup)(hp:∀ u v,(u,v)∈lnk ring->∃ e∈E,prE e=prP u v):
 Drn E ⟨kX (kX [] ring) [x.a,x.b],ring++[x.a,x.b],[ring,ring.reverse]⟩:=by
 obtain⟨n1,n2⟩:=iG hn;have YD:=RF (by rw[<- hr];exact hn);rw[<- hr]at YD;have YC:x.a≠x.b:=fun e=>by rw[hr]at hn;exact(aAy.1 hn).1 (by rw[e];simp)
 have pr1:prs ring=lnk ring++[(x.b,x.a)]:=by
  have:=Gq x.a x.b (m::M)
  rwa [<- hr]at this
 have pr2:prs ring.reverse=lnk ring.reverse++[(x.a,x.b)]:=by
  have e:ring.reverse=x.b::((m::M).reverse++[x.a]):=by rw[hr];simp
  rw[e];exact Gq _ _ _
 have G2:∀ u v,prP u v∈jA ring↔(u,v)∈lnk ring\/(v,u)∈lnk ring:=fun u v=>by
  rw[gF,aAm];constructor
  .rintro⟨q,hq,e⟩;rcases cH e with⟨e1,e2⟩|⟨e1,e2⟩
   .left;rw[<- e1,<- e2];exact hq
   .right;rw[<- e1,<- e2];exact hq
  .rintro(k|k)
   .exact⟨_,k,rfl⟩
   .exact⟨_,k,bL _ _⟩
 have O0:∀ u v,(u,v)∈lnk ring.reverse↔(v,u)∈lnk ring:=fun u v=>by
  rw[(oI ring).mem_iff,aAm];constructor
  .rintro⟨q,hq,e⟩;have:q=(v,u):=by rw[<- aED q,e];rfl
   rw[<- this];exact hq
  .intro k;exact⟨_,k,rfl⟩
 have hL:kX (kX [] ring) [x.a,x.b]=jA ring++[prP x.a x.b]:=by
  have e1:kX [] ring=jA ring:=by
   have:=nL (jA ring) [] (kK hn) fun p _ h=>by cases h
   rw[List.nil_append]at this;exact this
  rw[e1];exact nL [prP x.a x.b] (jA ring) sS fun p ZB Zt=>by rw[aAl]at ZB;subst ZB;exact((G2 _ _).1 Zt).elim YD.1 YD.2
 have ZV:2<=ring.length:=by rw[hr];simp
 have ha:x.a∈ring:=by rw[hr];simp
 have hb:x.b∈ring:=by rw[hr];simp
 have hPF:PF [ring,ring.reverse]=(lnk ring++[(x.b,x.a)])++(lnk ring.reverse++[(x.a,x.b)]):=by simp[PF,pr1,pr2]
 rw[hL];refine⟨?_,fun u v=>?_,?_,?_,fun v=>?_,?_,?_,?_⟩
 .show(PF [ring,ring.reverse]).Nodup;rw[hPF];have n3:=(iG ((aDg ring).nodup_iff.2 hn)).1;refine aAs.2 ⟨aAs.2 ⟨n1,sS,?_⟩,aAs.2 ⟨n3,sS,?_⟩,?_⟩
  .rintro p ZB q hq rfl;rw[aAl]at hq;subst hq;exact YD.2 ZB
  .rintro p ZB q hq rfl;rw[aAl]at hq;subst hq;exact YD.2 ((O0 _ _).1 ZB)
  .rintro⟨u,v⟩ ZB q hq rfl;rcases aAg.1 ZB with k|k
   .rcases aAg.1 hq with k2|k2
    .exact(n2 u v k).2 ((O0 _ _).1 k2)
    .rw[aAl]at k2;injection k2 with e1 e2;subst e1;subst e2;exact YD.1 k
   .rw[aAl]at k;injection k with e1 e2;subst e1;subst e2;rcases aAg.1 hq with k2|k2
    .exact YD.1 ((O0 _ _).1 k2)
    .rw[aAl]at k2;injection k2 with e1 e2;exact YC e2
 .show(u,v)∈PF [ring,ring.reverse]↔u≠v/\prP u v∈jA ring++[prP x.a x.b];rw[hPF];simp only[aAg,aAl,O0,G2,aAW];constructor
  .rintro((k|⟨rfl,rfl⟩)|k|⟨rfl,rfl⟩)
   .exact⟨(n2 _ _ k).1,.inl (.inl k)⟩
   .exact⟨fun e=>YC e.symm,.inr (bL _ _)⟩
   .exact⟨fun e=>(n2 _ _ k).1 e.symm,.inl (.inr k)⟩
   .exact⟨YC,.inr rfl⟩
  .rintro⟨_,(k|k)|k⟩
   .exact .inl (.inl k)
   .exact .inr (.inl k)
   .rcases cH k with⟨e1,e2⟩|⟨e1,e2⟩
    .exact .inr (.inr ⟨e1,e2⟩)
    .exact .inl (.inr ⟨e1,e2⟩)
 .refine aAs.2 ⟨kK hn,sS,?_⟩;rintro p ZB q hq rfl;rw[aAl]at hq;subst hq;exact((G2 _ _).1 ZB).elim YD.1 YD.2
 .intro p Xf;rcases aAg.1 Xf with k|k
  .rw[gF]at k;obtain⟨q,hq,rfl⟩:=aAm.1 k;exact hp _ _ hq
  .exact⟨x,hx,(aAl.1 k).symm⟩
 .show v∈ring++[x.a,x.b]↔∃ u,u≠v/\prP u v∈jA ring++[prP x.a x.b];have e:v∈ring++[x.a,x.b]↔v∈ring:=by
   simp only[aAg,aAf,aBJ,aDa];constructor
   .rintro(k|rfl|rfl)
    .exact k
    .exact ha
    .exact hb
   .exact .inl
  rw[e];constructor
  .intro k;obtain⟨u,k|k⟩:=wH ZV k
   .exact⟨u,(n2 _ _ k).1,aAt _ ((G2 u v).2 (.inl k))⟩
   .exact⟨u,fun e=>(n2 _ _ k).1 e.symm,aAt _ ((G2 u v).2 (.inr k))⟩
  .rintro⟨u,k1,k2⟩;rcases aAg.1 k2 with k|k
   .rcases(G2 u v).1 k with k|k
    .exact(gL k).2
    .exact(gL k).1
   .rcases cH (aAl.1 k)with⟨e1,e2⟩|⟨e1,e2⟩
    .rw[e2];exact hb
    .rw[e2];exact ha
 .have hvw:∀ v∈ring,v∈vsF E:=fun v hv=>by
   obtain⟨u,k|k⟩:=wH ZV hv
   .obtain⟨e,he,ZZ⟩:=hp _ _ k;rw[bM];rcases cH ZZ with⟨e1,e2⟩|⟨e1,e2⟩
    .exact⟨e,he,.inr e2.symm⟩
    .exact⟨e,he,.inl e1.symm⟩
   .obtain⟨e,he,ZZ⟩:=hp _ _ k;rw[bM];rcases cH ZZ with⟨e1,e2⟩|⟨e1,e2⟩
    .exact⟨e,he,.inl e1.symm⟩
    .exact⟨e,he,.inr e2.symm⟩
  have hc:=Fg (l:=vsF E) (M:=ring) (on:=[]) (w:=ring++[x.a,x.b]) ((kZ E).imp fun k=>by omega) hn hvw (fun v _ h=>by cases h) fun v _=>⟨fun k=>by
   rcases aAg.1 k with k|k
   .exact .inl k
   .rcases aAf.1 k with rfl|k
    .exact .inl ha
    .rw[aAl]at k;subst k;exact .inl hb,fun k=>k.elim (aAt _) And.left⟩
  have h0:((vsF E).filter fun v=>decide (v∈([]:List Int)))=[]:=sS;rw[h0,List.nil_append]at hc;have hwl:=mQ ring;show 2+((vsF E).filter fun v=>decide (v∈ring++[x.a,x.b])).length=(jA ring++[prP x.a x.b]).length+2;rw[hc,aAh];simp only[List.length_nil,List.length_cons];omega
 .intro R hs ht j5 YP p ZY q O6;have w1:=j5 ring sS;have w2:=j5 ring.reverse sS;have c1:(x.b,x.a)∈prs ring:=by rw[pr1];simp
  have c2:(x.a,x.b)∈prs ring.reverse:=by rw[pr2];simp
  have cc:R (x.b,x.a) (x.a,x.b):=YP _ (gN.2 ⟨ring,sS,c1⟩);have all:∀ p∈PF [ring,ring.reverse],R p (x.a,x.b):=fun p U8=>by
   obtain⟨t,F0,k⟩:=gN.1 U8;rcases aAf.1 F0 with e|e
   .rw[e]at k;exact ht _ _ _ (w1 p k _ c1) cc
   .rw[aAl.1 e]at k;exact w2 p k _ c2
  exact ht _ _ _ (all p ZY) (hs _ _ (all q O6))
 .intro t ht;rcases aAf.1 ht with rfl|ht
  .rw[hr];simp
  .rw[aAl]at ht;subst ht;rw[hr];simp
theorem BM{α:Type}[DecidableEq α]{A B:List α}(hA:A.Nodup)(hB:B.Nodup)(hs:∀ x∈A,x∈B)(hl:B.length<=A.length):A.Perm B:=by
 refine(aAZ hA hB).2 fun x=>⟨hs x,fun hx=>aAG fun YD=>?_⟩;have:=aAF (aAy.2 ⟨YD,hA⟩) (l₂:=B) fun y hy=>by
  rcases aAf.1 hy with rfl|hy
  .exact hx
  .exact hs y hy
 rw[List.length_cons]at this;omega
structure jH(E:List Ed)(F:List (List Int)):Prop where
 nd:(PF F).Nodup
 mem:∀ u v,(u,v)∈PF F↔∃ e∈E,prE e=prP u v
 cnt:F.length+(vsF E).length=E.length+2
 con:Con F
 ne:∀ r∈F,r≠[]
theorem Drn.done{E:List Ed}{h:Sh}(hD:Drn E h)(Wu:∀ e∈E,e.a≠e.b)(hs:(E.map prE).Nodup)(hl:E.length<=h.L.length):jH E h.F:=by
 have hp:h.L.Perm (E.map prE):=by refine BM hD.lnd hs (fun p hp=>?_) (by rw[aAz];exact hl);obtain⟨e,he,rfl⟩:=hD.sub p hp;exact aAx he
 have hL:∀ p,p∈h.L↔∃ e∈E,prE e=p:=fun p=>by rw[hp.mem_iff,aAm]
 refine⟨hD.nd,fun u v=>?_,?_,hD.con,hD.ne⟩
 .rw[hD.mem,hL];constructor
  .exact And.right
  .rintro⟨e,he,ZZ⟩;refine⟨fun k=>?_,e,he,ZZ⟩;have:=Wu e he;rcases cH ZZ with⟨e1,e2⟩|⟨e1,e2⟩<;>omega
 .have h1:=hD.cnt;have h2:((vsF E).filter fun v=>decide (v∈h.on))=vsF E:=aCA.2 fun v hv=>by
   rw[aAL,hD.on];obtain⟨e,he,k⟩:=(bM v E).1 hv;have:=Wu e he;rcases k with rfl|rfl
   .exact⟨e.b,fun k=>this k.symm,(hL _).2 ⟨e,he,bL _ _⟩⟩
   .exact⟨e.a,this,(hL _).2 ⟨e,he,rfl⟩⟩
  have h3:=hp.length_eq;rw[aAz]at h3;rw[h2]at h1;omega
theorem Nt{e:Ed}(Wu:e.a≠e.b):jH [e] [[e.a,e.b]]:=by
 have hPF:PF [[e.a,e.b]]=[(e.a,e.b),(e.b,e.a)]:=rfl;have hv:(vsF [e]).length=2:=by
  have hp:(vsF [e]).Perm [e.a,e.b]:=(aAZ ((kZ _).imp fun k=>by omega) (by simp[Wu])).2 fun v=>by rw[bM];simp
  rw[hp.length_eq];rfl
 refine⟨by rw[hPF];simp[Wu],fun u v=>?_,by rw[hv];rfl,fun R hs ht hr YP p hp q hq=>?_,sS⟩
 .rw[hPF];simp only[aAf,aBJ,aDa,aAW,exists_eq_left];constructor
  .rintro(⟨rfl,rfl⟩|⟨rfl,rfl⟩)
   .rfl
   .exact bL _ _
  .intro k;rcases cH k with⟨e1,e2⟩|⟨e1,e2⟩
   .exact .inl ⟨e1.symm,e2.symm⟩
   .exact .inr ⟨e2.symm,e1.symm⟩
 .exact hr [e.a,e.b] sS p (by simpa[PF]using hp) q (by simpa[PF]using hq)
end Aw
end Go.Proofs.YtempldclppogmaaGreatDoor
