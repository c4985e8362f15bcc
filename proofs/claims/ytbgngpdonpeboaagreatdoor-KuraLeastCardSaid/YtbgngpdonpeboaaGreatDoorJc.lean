/- Maps, made of turns: Of; the law RotMakes. -/
import Derived.Test.YtbgngpdonpeboaaGreatDoorJb
import Derived.Test.YtbgngpdonpeboaaGreatDoorAwSet
import Derived.Lib.TrailingZeros
import Derived.Test.YtbgngpdonpeboaaGreatDoorAwTd
import Derived.Test.YtbgngpdonpeboaaGreatDoorAwZ
import Derived.Test.YtbgngpdonpeboaaGreatDoorAwRg
import Derived.Test.YtbgngpdonpeboaaGreatDoorAwMr5
import Derived.Test.YtbgngpdonpeboaaGreatDoorAwFn
import Derived.Laws.Bits64b
import Derived.Test.YtbgngpdonpeboaaGreatDoorAwShp
set_option linter.unusedVariables false
set_option linter.unusedSimpArgs false
set_option maxHeartbeats 2000000
open Go.Proofs.Tryz
namespace Go.Proofs.YtbgngpdonpeboaaGreatDoor
namespace Aw
open Go Go.RowKit Pl
theorem Co(e s:Nat){P:Program}{f:FuncId}{args:List LV}{st:St}{Q:LV->St->Prop}(pre:List LV)
 (h:aB P f args st fun r st'=>∃ c,r=.ag (pre++[c])/\((c=.nil/\Q (.ag (pre++[.sl 0 0 []])) st')\/∃ l n cs,c=.ms l 0 n/\st'.H l=.box e s cs/\n*s<=cs.length/\Q (.ag (pre++[.sl 0 n (cs.take (n*s))])) (st'.set l .dead))):aB P f args st Q:=by
 refine⟨h.1,fun w g vs hi hr=>(h.2 w g vs hi hr).mono ?_⟩;rintro x w' ⟨v,r,st',g',rfl,⟨c,rfl,hc⟩,G9,I4,he⟩;simp only[Rep]at G9;obtain⟨us1,rfl,hus⟩:=G9;obtain⟨v1,h1,h2⟩:=nM pre us1 hus;rcases hc with⟨rfl,hq⟩|⟨l,n,cs,rfl,hl,hn,hq⟩
 .refine⟨_,_,st',g',rfl,hq,?_,I4,he⟩
  grind [Rep,Ext.refl]
 .obtain⟨g2,k1,k2,k3⟩:=gZ (fr:=upd (fun _=>.dead) 0 (.ms l 0 n)) 0 rfl hl hn { tmps:=#[v1],defers:=[] } w' g' I4 (by
   intro j;unfold upd;by_cases hj:j=0
   .simp_all
   grind [Rep])
  refine⟨_,_,_,g2,rfl,hq,?_,k1,he.trans k3⟩;simp only[Rep];exact⟨us1,rfl,h2 g2 _ k3 (k2 0)⟩
theorem CI(rs:List (List Int))(k:Nat)(hk:k<rs.length):gJ (rs.take (k+1))=gJ (rs.take k)++[.sl 0 (rs[k]).length (us rs[k])]:=by
 grind [List.take_succ_eq_append_getElem]
theorem WX(g:Gr)(q:Nat)(es:List (List Int×LV))(tf:Int->List Int)(st:St)(hv:g.vs.length<=1000)(he:g.es.length<=1000)(hq:q<st.next)(hM:st.H q=.map false [.u32] es)
 (ht:∀ v∈g.vs,∃ x t,(bN es [v]).getD .nil=x/\norm x=.sl t (tf v).length (us (tf v))/\(tf v).length<=1000):
 aB prog 67 [.ag (grL g),.mp q] st fun r st'=>r=.ag (mpL ⟨g,g.vs.map fun v=>nrm (tf v)⟩)/\aA st st':=by
 refine Co 22 1 (grL g) ?_;refine zN func67 ntmps67 [.cell 4 28] ?_
 (refine xj0 ?_;intro J hJ)
 refine qE (copied g _ oO oO) sS ?_;rintro r s1 ⟨rfl,c8⟩;have I7:=c8.next;simp only[aG]at I7;have V3:s1.H st.next=.box 25 2 (grL g):=by rw[c8.H _ (by simp;omega)];simp
 have hM1:s1.H q=.map false [.u32] es:=by rw[c8.H q (by simp;omega),cE,aAa (by simp;omega),cE,aAa oO,hM]
 have hR1:s1.H (st.next+1)=.box 28 3 [.nil,.nil,.nil]:=by rw[c8.H _ sS];simp
 have ne1:¬st.next=s1.next:=oO;refine pD hJ V3 ne1 ?_;refine qL (fun n fr st2=>∃ k:Nat,k<=g.vs.length/\n=g.vs.length-k/\fr 1=.mp q/\fr 4=.pt (st.next+1) 0/\fr 5=.pt s1.next 0/\fr 12=.sl 0 g.vs.length (us g.vs)/\fr 13=i g.vs.length/\fr 14=i k/\aA s1 st2/\s1.next<st2.next/\∃ c,st2.H s1.next=.box 28 3 (grL g++[c])/\((k=0/\c=.nil)\/∃ z,c=.ms z 0 k/\s1.next<z/\z<st2.next/\st2.H z=.box 22 1 (gJ ((g.vs.map fun v=>nrm (tf v)).take k)))) g.vs.length ?_ ?_
 .exact⟨0,oO,oO,sS,sS,sS,sS,sS,sS,aA.new _ _,sS,.nil,sS,.inl ⟨rfl,rfl⟩⟩
 rintro n fr st2 ⟨k,hk,rfl,f1,f4,f5,f12,f13,f14,o9,M8,c,hB,hcz⟩ JJ hJJ;have Q7:st2.H q=.map false [.u32] es:=by rw[o9.H q oO];exact hM1
 by_cases dG:k<g.vs.length
 .have hd:=qG g.vs k dG;have hw:=qN k oO;have hvin:g.vs.getD k 0∈g.vs:=by rw[bL _ _ dG];exact aAI dG
  obtain⟨x,t,hx1,U1,hx3⟩:=ht _ hvin;have VU:=CI (g.vs.map fun v=>nrm (tf v)) k (by grind);have hrk:(g.vs.map fun v=>nrm (tf v))[k]'(by grind)=nrm (tf (g.vs.getD k 0)):=by simp[dG]
  rw[hrk,nX]at VU;generalize hvv:g.vs.getD k 0=v at *;have V6:¬q=s1.next:=oO;have ne2:¬s1.next=st2.next:=oO;have ne3:¬q=st2.next:=by have:=o9.next;omega
  rcases hcz with⟨rfl,rfl⟩|⟨z,rfl,hz1,hz2,hz⟩
  ·(repeat' (first|apply qS|(refine zE ?_;intro J hJ;simp[f12,f13,f14,dG,hd];(refine zJ hJ ?_;clear hJ J))))
   (apply qC;simp[])
   (repeat' (first|apply qS|apply qB|refine qK (zZ ?_)|(refine zE ?_;intro J hJ;simp[f1,f5,f12,f13,f14,dG,hd];(refine zJ hJ ?_;clear hJ J))))
   (refine zS [25] [s1.next,q] [0,2,4,6,8,10,12,14,16,19] ?_;intro J hJ;simp[f1,f5,hB,Q7,hx1,V6])
   refine qD (Qu (tf v) t _ (by grind [small])) (by grind) ?_;rintro r s3 ⟨rfl,u5⟩;have Z3:=(u5.H s1.next oO).trans hB;have hM3:=(u5.H q oO).trans Q7;have hn3:=u5.next;have ne4:¬s1.next=s3.next:=oO;have ne5:¬s1.next=s3.next+1:=oO;have ne6:¬q=s3.next+1:=oO;have ne7:¬q=s3.next:=oO;refine⟨fun _=>by simp[Z3,hM3,hB,Q7],?_⟩
   (apply bI;simp[f5,Z3,hM3,hB,Q7,ne4,ne5,ne6,ne7];(repeat refine ca ?_);(refine zJ hJ ?_;clear hJ J))
   have N5:IntKind.i64.wrap 1=1:=by decide
   refine xw4 f5 f14 hw N5 ?_;refine hJJ (g.vs.length-1) _ _ oO ⟨1,oO,rfl,sF1 f1,sF1 f4,sF1 f5,sF1 f12,sF1 f13,sS,(((o9.trans u5).trans (aA.new _ _)).trans (aA.new _ _)).set (aAm _) _,by simp;omega,.ms (s3.next+1) 0 1,sS,.inr ⟨s3.next+1,rfl,oO,sS,?_⟩⟩;rw[VU,bU,aAa oO];simp
  .generalize hR:gJ ((g.vs.map fun v=>nrm (tf v)).take k)=R at *;have hzl:R.length=k:=by rw[<- hR];simp;omega
   (repeat' (first|apply qS|(refine zE ?_;intro J hJ;simp[f12,f13,f14,dG,hd];(refine zJ hJ ?_;clear hJ J))))
   (apply qC;simp[])
   (repeat' (first|apply qS|apply qB|refine qK (zZ ?_)|(refine zE ?_;intro J hJ;simp[f1,f5,f12,f13,f14,dG,hd];(refine zJ hJ ?_;clear hJ J))))
   (refine zS [25] [s1.next,q] [0,2,4,6,8,10,12,14,16,19] ?_;intro J hJ;simp[f1,f5,hB,Q7,hx1,V6])
   refine qD (Qu (tf v) t _ (by grind [small])) (by grind) ?_;rintro r s3 ⟨rfl,u5⟩;have Z3:=(u5.H s1.next oO).trans hB;have hM3:=(u5.H q oO).trans Q7;have hz3:=(u5.H z oO).trans hz;have hn3:=u5.next;have ne4:¬s1.next=s3.next:=oO;have ne5:¬s1.next=s3.next+1:=oO;have ne6:¬q=s3.next+1:=oO;have ne7:¬q=s3.next:=oO;have ne8:¬s1.next=z:=oO;have ne9:¬z=s3.next:=oO;have ne10:¬q=z:=oO;have C9:R.take k=R:=aAv oO;refine⟨fun _=>by simp[Z3,hM3,hB,Q7],?_⟩
   (apply bI;simp[f5,Z3,hM3,hB,Q7,ne4,ne5,ne6,ne7,ne8,ne9,ne10,hz3,hzl,C9];(repeat refine ca ?_);(refine zJ hJ ?_;clear hJ J))
   refine xw3 f5 f14 hw ?_;refine hJJ (g.vs.length-(k+1)) _ _ oO ⟨k+1,oO,rfl,sF1 f1,sF1 f4,sF1 f5,sF1 f12,sF1 f13,sS,((((o9.trans u5).trans (aA.new _ _)).set oO _).trans (aA.new _ _)).set (aAm _) _,by simp;omega,.ms (s3.next+1) 0 (k+1),sS,.inr ⟨s3.next+1,rfl,oO,sS,?_⟩⟩;rw[VU,bU,aAa oO];simp
 .have Y7:k=g.vs.length:=oO;have hBR:¬s1.next=st.next+1:=oO;have hR2:=(o9.H (st.next+1) oO).trans hR1;have hKK:aA st st2:=(((aA.new _ _).trans (aA.new _ _)).trans c8).trans o9;rcases hcz with⟨h0,rfl⟩|⟨z,rfl,hz1,hz2,hz⟩
  .refine xw8 f12 f13 f14 dG f4 f5 hB hR2 ?_;exact⟨⟨oO,aCp.mp oO⟩,hKK.set oO _⟩
  .refine xw8 f12 f13 f14 dG f4 f5 hB hR2 ?_;have hmm:(g.vs.map fun v=>nrm (tf v)).take k=g.vs.map fun v=>nrm (tf v):=aAv (by grind);rw[hmm]at hz;exact⟨z,k,⟨rfl,rfl⟩,_,by rw[aAa oO,hz],by grind,⟨Y7,by grind [List.take_of_length_le]⟩,(hKK.set oO _).set oO _⟩
theorem iF{P:Program}{N:Nat}{Q:AQ}{c:Code}{fr:Frm}{st:St}(h:0<st.next->AWp P N c Q fr st):AWp P N c Q fr st:=
 fun a w g hi hr hs hd=>h hi.pos a w g hi hr hs hd
def Ei(v:Int)(x:Ed):List Int:=(if x.a=v then [2*x.id]else [])++(if x.b=v then [2*x.id+1]else [])
def ends(es:List Ed)(v:Int):List Int:=es.flatMap (Ei v)
theorem SU(v:Int)(x:Ed):(Ei v x).length<=2:=by unfold Ei;split<;>split<;>simp
theorem PN(f:Ed->List Int)(hf:∀ x,(f x).length<=2)(l:List Ed):(l.flatMap f).length<=2*l.length:=by
 induction l with
 |nil=>simp
 |cons x l ih=>have:=hf x;simp only[aAF,aAn,List.length_cons];omega
def A5(es:List Ed):Prop:=∀ x∈es,0<=x.id/\x.id<=1048576
theorem wrap_u32'(n:Int)(h0:0<=n)(h1:n<4294967296):IntKind.u32.wrap n=n:=by rw[wrap_u32];omega
theorem dOf(id e:Int)(st:St)(h0:0<=id)(h1:id<=1048576)(he:e=0\/e=1):aB prog 93 [u id,i e] st fun r st'=>r=u (2*id+e)/\st'=st:=by refine(Of id e st).mono ?_;rintro r st' ⟨rfl,rfl⟩;refine⟨?_,rfl⟩;have h2:id*2 % 4294967296+e % 2=2*id+e:=oO;rw[h2]
def JX(v:Int)(x:Ed):List Int:=(if x.a=v then [x.b]else [])++(if x.b=v then [x.a]else [])
def nbr(es:List Ed)(v:Int):List Int:=es.flatMap (JX v)
def alone(g:Gr):Nat:=g.vs.countP fun v=>decide (nbr g.es v=[])
inductive Reach(es:List Ed)(v:Int):Int->Prop
 |refl:Reach es v v
 |step {u w:Int} (h:Reach es v u) (hw:w∈nbr es u):Reach es v w
theorem cT{es:List Ed}{u w:Int}:w∈nbr es u↔∃ x∈es,(x.a=u/\x.b=w)\/(x.b=u/\x.a=w):=by
 grind [nbr,JX]
theorem nI{es:List Ed}{u w:Int}(h:w∈nbr es u):u∈nbr es w:=by
 grind [cT]
theorem Reach.trans{es:List Ed}{u v w:Int}(h:Reach es u v)(k:Reach es v w):Reach es u w:=by
 induction k with
 |refl=>exact h
 |step _ hw ih=>exact .step ih hw
theorem Reach.symm{es:List Ed}{u v:Int}(h:Reach es u v):Reach es v u:=by
 induction h with
 |refl=>exact .refl
 |step _ hw ih=>exact Reach.trans (.step .refl (nI hw)) ih
structure Good(g:Gr):Prop where
 rise:g.vs.Pairwise (· < ·)
 ends:∀ x∈g.es,x.a∈g.vs/\x.b∈g.vs
theorem Good.nbr{g:Gr}(h:Good g){u w:Int}(hw:w∈nbr g.es u):w∈g.vs:=by
 rw[cT]at hw;obtain⟨x,hx,⟨_,rfl⟩|⟨_,rfl⟩⟩:=hw
 .exact(h.ends x hx).2
 .exact(h.ends x hx).1
theorem Good.nodup{g:Gr}(h:Good g):g.vs.Nodup:=h.rise.imp fun h=>by omega
def DV(f:FuncId)(IQ:List LV)(st:St)(l:List Ed)(p:Ed->Bool):Prop:=∀ x∈l,∀ st2,aA st st2->aB prog f (.ag (edL x)::IQ) st2 fun r O0=>r=bb (p x)/\aA st2 O0
theorem GR(l:List Ed)(p:Ed->Bool)(k:Nat)(hk:k<l.length):(l.take (k+1)).filter p=if p (l.getD k ed0)=true then(l.take k).filter p++[l.getD k ed0]else(l.take k).filter p:=by rw[aAs hk,aCy,aAg,aAh hk];by_cases h:p l[k]=true<;>simp[h]
def C5(X:LV)(F:List Ed):Prop:=(X=.nil/\F=[])\/∃ t,X=.sl t F.length (eds F)
theorem C6(g:Gr)(f:FuncId)(IQ:List LV)(p:Ed->Bool)(st:St)(hv:g.vs.length<=1000)(he:g.es.length<=1000)(hp:DV f IQ st g.es p):
 aB prog 14 [.ag (grL g),.fn (.func f) IQ] st fun r st'=>(∃ X,r=.ag [.sl 0 g.vs.length (us g.vs),X]/\C5 X (g.es.filter p))/\aA st st':=by
 have hel:=aI g.es;have Q4:small g.vs:=by unfold small;omega
 refine zN func14 ntmps14 [.cell 4 25] ?_
 (refine xj0 ?_;intro J hJ)
 refine qE (Rz g.vs 0 _ Q4) sS ?_;rintro r s1 ⟨rfl,c8⟩;have I7:=c8.next;simp only[aG]at I7;have V3:s1.H st.next=.box 25 2 (grL g):=by rw[c8.H _ (by simp;omega)];simp
 have hC1:s1.H (st.next+1)=.box 25 2 [.nil,.nil]:=by rw[c8.H _ sS];simp
 have e1:¬st.next=s1.next:=oO;refine pD hJ V3 e1 ?_;have W2:aA st s1:=((aA.new _ _).trans (aA.new _ _)).trans c8;obtain⟨q4,hq4⟩:∃ q,q=st.next+1:=⟨_,rfl⟩;obtain⟨q5,hq5⟩:∃ q,q=s1.next:=⟨_,rfl⟩;refine qL (fun n fr st2=>∃ k:Nat,k<=g.es.length/\n=g.es.length-k/\fr 1=.fn (.func f) IQ/\fr 4=.pt q4 0/\fr 5=.pt q5 0/\fr 13=.sl 0 g.es.length (eds g.es)/\fr 14=i g.es.length/\fr 15=i k/\aA st st2/\q5<st2.next/\st2.H q4=.box 25 2 [.nil,.nil]/\∃ X,st2.H q5=.box 25 2 [.sl 0 g.vs.length (us g.vs),X]/\((X=.nil/\(g.es.take k).filter p=[])\/∃ t,X=.sl t ((g.es.take k).filter p).length (eds ((g.es.take k).filter p))/\t≠0/\q5<t/\t<st2.next/\st2.H t=.own 36 3 ((g.es.take k).filter p).length)) g.es.length ?_ ?_
 .have e2:¬q4=s1.next:=oO;have e3:¬st.next+1=s1.next:=oO;refine⟨0,oO,oO,sS,sF1 hq4,sF1 hq5,sS,sS,sS,?_,sF1 hq5,sF4 e2 hC1 hq4 e3,.nil,sF1 hq5,.inl ⟨rfl,sS⟩⟩
  (repeat (first|exact W2|(refine aA.trans ?_ (aA.new _ _))|(refine aA.set ?_ oO _)))
 rintro n fr st2 ⟨k,hk,rfl,f1,f4,f5,f13,f14,f15,o9,h5n,hC,X,hX,hXs⟩ JJ hJJ;have e0:¬q4=q5:=oO;by_cases dG:k<g.es.length;rotate_left
 .clear hJJ;have Q0:k=g.es.length:=oO;rw[Q0,aBe]at hXs;rcases hXs with⟨rfl,h⟩|⟨t,rfl,h⟩
  .refine xw8 f4 f5 f14 f15 dG hX hC e0 ?_;exact⟨.inl ⟨rfl,h⟩,(by repeat (first|exact o9|(refine aA.trans ?_ (aA.new _ _))|(refine aA.set ?_ (by have:=o9.next;omega) _)))⟩
  .refine xw8 f4 f5 f14 f15 dG hX hC e0 ?_;exact⟨.inr ⟨t,rfl⟩,(by repeat (first|exact o9|(refine aA.trans ?_ (aA.new _ _))|(refine aA.set ?_ (by have:=o9.next;omega) _)))⟩
 have hd:=aL g.es k dG;have hw:=qN k oO;have u5:k*3<g.es.length*3:=oO;have hxin:g.es.getD k ed0∈g.es:=by rw[aAg,aAh dG];exact aAI dG
 have I2:=GR g.es p k dG;have u7:=aAU p (g.es.take k);rw[aAw]at u7;have htest:=fun s h=>hp _ hxin s h;generalize hx:g.es.getD k ed0=x at *;generalize hFF:(g.es.take k).filter p=F at *;have hFl:=aI F;have hFo:(eds F).length=F.length*3:=hFl;obtain⟨d,a,b⟩:=x;simp only at hd htest
 (refine xj7 f1 f13 f14 f15 dG hd hel ?_;intro J hJ)
 refine qF (htest _ (o9.trans (aA.new _ (.box 36 3 [u d,u a,u b])))) ?_;rintro r s3 ⟨rfl,Q6⟩;have hn3:=Q6.next;simp only[aG]at hn3;have Y7:aA st2 s3:=(aA.new _ _).trans Q6;have hX3:=(Y7.H q5 h5n).trans hX;have hC3:=(Y7.H q4 oO).trans hC;have hE3:s3.H st2.next=.box 36 3 [u d,u a,u b]:=by rw[Q6.H _ sS];simp
 have hkp3:aA st s3:=(o9.trans (aA.new _ _)).trans Q6;have z1:¬q5=s3.next:=oO;have z2:¬q5=s3.next+1:=oO;have z3:¬q4=s3.next:=oO;have z4:¬q4=s3.next+1:=oO;have z5:¬s3.next+1=q5:=oO;by_cases hpx:p ⟨d,a,b⟩=true;rotate_left
 .rw[aAa hpx]at I2;have hpx:p ⟨d,a,b⟩=false:=by simpa using hpx
  refine sL hJ hpx f15 hw ?_;refine hJJ (g.es.length-(k+1)) _ _ oO ⟨k+1,oO,rfl,sF1 f1,sF1 f4,sF1 f5,sF1 f13,sF1 f14,sS,hkp3,oO,hC3,X,hX3,?_⟩;rw[I2];rcases hXs with h|⟨t,h,h0,h1,h2,h3⟩
  .exact .inl h
  .exact .inr ⟨t,h,h0,h1,oO,(Y7.H t h2).trans h3⟩
 rw[aAj hpx]at I2;have hed:eds (F++[⟨d,a,b⟩])=eds F++[u d,u a,u b]:=by simp[eds]
 rcases hXs with⟨rfl,hF0⟩|⟨t,rfl,h0,h1,h2,h3⟩
 ·(repeat' (first|(apply qC;simp[hpx,f5,f15,hw,hX3,hE3,z1,z2])|((first|(refine zE ?_;intro J hJ)|(apply cS));simp[hpx,f5,f15,hw,hX3,hE3,z1,z2];(repeat refine ca ?_);(refine zJ hJ ?_;clear hJ J))))
  refine hJJ (g.es.length-(k+1)) _ _ oO ⟨k+1,oO,rfl,sF1 f1,sF1 f4,sF1 f5,sF1 f13,sF1 f14,sS,?_,by simp;omega,sF4 e0 z3 z4 hC3,_,by simp;rfl,.inr ⟨s3.next+1,by rw[I2,hed,hF0];simp[eds],oO,oO,sS,by rw[I2,hF0];simp[z5]⟩⟩
  (repeat (first|exact hkp3|(refine aA.trans ?_ (aA.new _ _))|(refine aA.set ?_ oO _)))
 .have h3':s3.H t=.own 36 3 F.length:=(Y7.H t h2).trans h3;have y1:¬t=s3.next:=oO;have y2:¬t=s3.next+1:=oO;have y3:¬q5=t:=oO;have y4:¬t=q5:=oO;have y5:¬q4=t:=oO
  (repeat' (first|(apply qC;simp[hpx,f5,f15,hw,hX3,hE3,z1,z2,h3',h0,y1,y2,y3,y4,hFo])|((first|(refine zE ?_;intro J hJ)|(apply cS));simp[hpx,f5,f15,hw,hX3,hE3,z1,z2,h3',h0,y1,y2,y3,y4,hFo];(repeat refine ca ?_);(refine zJ hJ ?_;clear hJ J))))
  refine hJJ (g.es.length-(k+1)) _ _ oO ⟨k+1,oO,rfl,sF1 f1,sF1 f4,sF1 f5,sF1 f13,sF1 f14,sS,?_,by simp;omega,sF5 e0 z3 z4 y5 hC3,_,by simp;rfl,.inr ⟨s3.next+1,by rw[I2,hed];simp,oO,oO,sS,by rw[I2];simp[z5]⟩⟩
  (repeat (first|exact hkp3|(refine aA.trans ?_ (aA.new _ _))|(refine aA.set ?_ oO _)))
theorem qV{f:Nat->Int}{n:Nat}(h:bY f n=0):∀ j,j<n->f j=0:=by
 induction n with
 |zero=>omega
 |succ n ih=>
  grind [bY]
theorem wJ{n a:Int}{b:Bool}(h:fE n a b=0):1<=n/\n<=1048576/\(b=false->a<n):=by
 grind [fE]
theorem Tf{l:List Int}(h:∀ j,j<l.length->0<j->l.getD (j-1) 0<l.getD j 0):l.Pairwise (· < ·):=by
 rw[aAz];intro a b ha hb v8;induction b with
 |zero=>omega
 |succ b ih=>
  grind
theorem Ip{g:Gr}(h:chk g=0):Good g/\A5 g.es/\g.vs.length<=64/\g.es.length<=160:=by
 unfold chk at h;by_cases h1:64<g.vs.length\/160<g.es.length
 .omega
 .rw[aAa h1]at h;by_cases h2:bY (kG g) g.vs.length=0
  .rw[aAa oO]at h;have hV:=qV h2;have hE:=qV h;have hEx:∀ j,j<g.es.length->(1<=(g.es.getD j ed0).id/\(g.es.getD j ed0).id<=1048576)/\(g.es.getD j ed0).a∈g.vs/\(g.es.getD j ed0).b∈g.vs:=by
    intro j hj;have:=hE j hj;unfold lQ at this;simp only at this;by_cases h3:fE (g.es.getD j ed0).id (g.es.getD (j-1) ed0).id (decide (j=0))=0
    .rw[aAa (fun h=>h h3)]at this;by_cases h4:(g.es.getD j ed0).a=(g.es.getD j ed0).b
     .omega
     .rw[aAa h4]at this;by_cases h5:(g.es.getD j ed0).a∉g.vs\/(g.es.getD j ed0).b∉g.vs
      .grind
      .have h6:=wJ h3
       grind
    .omega
   have K5:∀ x∈g.es,∃ j,j<g.es.length/\g.es.getD j ed0=x:=by intro x hx;obtain⟨j,hj,rfl⟩:=aAC hx;exact⟨j,hj,by grind⟩
   refine⟨⟨Tf fun j hj h0=>?_,fun x hx=>?_⟩,fun x hx=>?_,oO,oO⟩
   .have:=(wJ (hV j hj)).2.2 (by grind);omega
   .grind
   grind
  omega
theorem uD(es:List Ed)(v:Int):ends es v=[]↔nbr es v=[]:=by
 unfold ends nbr;simp only[List.flatMap_eq_nil_iff];refine forall_congr' fun x=>forall_congr' fun _=>?_
 grind [Ei,JX]
end Aw
namespace Aw
open Go Go.RowKit Pl Eu
def aU(es:List Ed):List Int:=es.flatMap fun x=>[2*x.id,2*x.id+1]
structure GoodE(g:Gr):Prop extends Good g where
 ids:g.es.Pairwise (fun x y=>x.id<y.id)
 pos:∀ x∈g.es,1<=x.id/\x.id<=1048576
 ne:∀ x∈g.es,x.a≠x.b
theorem fB(l:List Ed)(j:Nat)(hj:j<l.length):l.getD j ed0=l[j]:=by
 grind
theorem eT{g:Gr}(h:chk g=0):GoodE g:=by
 obtain⟨hg,_,_,_⟩:=Ip h;unfold chk at h;by_cases h1:64<g.vs.length\/160<g.es.length
 .omega
 rw[aAa h1]at h;by_cases h2:bY (kG g) g.vs.length=0
 .rw[aAa oO]at h;have hE:=qV h;have hEx:∀ j,j<g.es.length->((1<=(g.es.getD j ed0).id/\(g.es.getD j ed0).id<=1048576)/\(0<j->(g.es.getD (j-1) ed0).id<(g.es.getD j ed0).id))/\(g.es.getD j ed0).a≠(g.es.getD j ed0).b:=by
   intro j hj;have:=hE j hj;unfold lQ at this;simp only at this;by_cases h3:fE (g.es.getD j ed0).id (g.es.getD (j-1) ed0).id (decide (j=0))=0
   .rw[aAa (fun h=>h h3)]at this;by_cases h4:(g.es.getD j ed0).a=(g.es.getD j ed0).b
    .omega
    .have h6:=wJ h3
     grind
   .omega
  have K5:∀ x∈g.es,∃ j,j<g.es.length/\g.es.getD j ed0=x:=by intro x hx;obtain⟨j,hj,rfl⟩:=aAC hx;exact⟨j,hj,fB _ _ hj⟩
  refine⟨hg,?_,fun x hx=>?_,fun x hx=>?_⟩
  .rw[aAz];intro a b ha hb v8;induction b with
   |zero=>omega
   |succ b ih=>
    grind
  .grind
  grind
 omega
theorem id_eq{es:List Ed}(h:es.Pairwise (fun x y=>x.id<y.id)){x y:Ed}(hx:x∈es)(hy:y∈es)(he:x.id=y.id):x=y:=by
 obtain⟨j,hj,rfl⟩:=aAC hx;obtain⟨k,hk,rfl⟩:=aAC hy;rcases aCg j k with h1|h1|h1
 .grind [List.pairwise_iff_getElem]
 .grind
 grind [List.pairwise_iff_getElem]
theorem cJ{es:List Ed}{v d:Int}:d∈ends es v↔∃ x∈es,(x.a=v/\d=2*x.id)\/(x.b=v/\d=2*x.id+1):=by
 grind [ends,Ei]
theorem dO{es:List Ed}{d:Int}:d∈aU es↔∃ x∈es,d=2*x.id\/d=2*x.id+1:=by
 grind [aU]
theorem fZ{es:List Ed}{d:Int}:d∈aU es↔∃ x∈es,x.id=d / 2:=by
 grind [dO]
theorem oQ{es:List Ed}(h:es.Pairwise (fun x y=>x.id<y.id)):(aU es).Pairwise (· < ·):=by
 grind [aU]
theorem Di{es:List Ed}(h:es.Pairwise (fun x y=>x.id<y.id))(v:Int):(ends es v).Pairwise (· < ·):=by
 unfold ends;rw[List.pairwise_flatMap];refine⟨fun x _=>?_,h.imp fun {x y} G8 a ha b hb=>?_⟩
 .unfold Ei;by_cases h1:x.a=v<;>by_cases h2:x.b=v<;>simp[h1,h2];omega
 grind [Ei]
theorem iW{l:List Int}(h:l.Pairwise (· < ·)):l.Nodup:=h.imp fun h=>by omega
def Fs(es:List Ed)(v:Int)(t:List Int):Prop:=t.Perm (ends es v)/\nrm t=t
structure bS(m:Mp):Prop where
 g:GoodE m.g
 len:m.rots.length=m.g.vs.length
 ok:∀ k,k<m.g.vs.length->Fs m.g.es (m.g.vs.getD k 0) (m.rots.getD k [])
theorem dL{es:List Ed}(h:es.Pairwise (fun x y=>x.id<y.id)){d v w:Int}(hv:d∈ends es v)(hw:d∈ends es w):v=w:=by
 grind [cJ,id_eq]
theorem nH{es:List Ed}{d v:Int}(h:d∈ends es v):d∈aU es:=by
 grind [cJ,dO]
theorem Ec{es:List Ed}{d:Int}(h:d∈aU es):∃ v,d∈ends es v/\∃ x∈es,x.id=d / 2/\(v=x.a\/v=x.b):=by
 grind [dO,cJ]
theorem lS(l:List (List Int))(j:Nat)(hj:j<l.length):l.getD j []=l[j]:=by
 grind
section
variable {m:Mp} (h:bS m)
include h
theorem bS.turn{t:List Int}(ht:t∈m.rots):∃ k,k<m.g.vs.length/\t=m.rots.getD k []/\Fs m.g.es (m.g.vs.getD k 0) t:=by
 obtain⟨k,hk,rfl⟩:=aAC ht;have Q0:k<m.g.vs.length:=by rw[<- h.len];exact hk
 refine⟨k,Q0,(lS _ _ hk).symm,?_⟩;have:=h.ok k Q0
 grind
theorem bS.nodup{t:List Int}(ht:t∈m.rots):t.Nodup:=by obtain⟨k,_,_,h1,_⟩:=h.turn ht;exact h1.nodup_iff.2 (iW (Di h.g.ids _))
theorem bS.same{t t':List Int}(ht:t∈m.rots)(Y4:t'∈m.rots){d:Int}(hd:d∈t)(K7:d∈t'):t=t':=by obtain⟨k,hk,rfl,h1,_⟩:=h.turn ht;obtain⟨k',Q0,rfl,h2,_⟩:=h.turn Y4;have:=dL h.g.ids (h1.mem_iff.1 hd) (h2.mem_iff.1 K7);rw[bL _ _ hk,bL _ _ Q0]at this;have h3:=congrArg m.g.vs.idxOf this;rw[h.g.toGood.nodup.idxOf_getElem,h.g.toGood.nodup.idxOf_getElem]at h3;rw[h3]
theorem bS.turn_of{d:Int}(hd:d∈aU m.g.es):∃ t∈m.rots,d∈t:=by
 obtain⟨v,hv,x,hx,_,hvx⟩:=Ec hd;have hvin:v∈m.g.vs:=by
  rcases hvx with rfl|rfl
  .exact(h.g.ends x hx).1
  .exact(h.g.ends x hx).2
 obtain⟨k,hk,rfl⟩:=aAC hvin;have:=h.ok k hk;rw[bL _ _ hk]at this;refine⟨_,?_,this.1.mem_iff.2 hv⟩;rw[lS _ _ (by rw[h.len];omega)]
 grind
theorem bS.turn_dart{t:List Int}(ht:t∈m.rots){d:Int}(hd:d∈t):d∈aU m.g.es:=by
 obtain⟨k,_,_,h1,_⟩:=h.turn ht
 grind [nH]
end
def sg(m:Mp)(d:Int):Int:=match m.rots.find? (fun t=>decide (d∈t)) with
 |some t=>nx t d
 |none=>d
theorem Xh{m:Mp}{d:Int}(h:∀ t∈m.rots,d∉t):sg m d=d:=by
 grind [sg]
theorem DE{m:Mp}(h:bS m){t:List Int}(ht:t∈m.rots){d:Int}(hd:d∈t):sg m d=nx t d:=by
 unfold sg;cases hf:m.rots.find? (fun t=>decide (d∈t)) with
 |none=>
  grind
 |some t'=>have h1:=aCM hf;have h2:=aBT hf;simp only at h1 ⊢;rw[h.same h2 ht (by grind) hd]
def al(es:List Ed)(d:Int):Int:=if(es.any fun x=>decide (x.id=d / 2))=true then tw d else d
theorem EC{es:List Ed}{d:Int}(h:d∈aU es):al es d=tw d:=by
 grind [al,fZ]
theorem tV{es:List Ed}{d:Int}(h:d∉aU es):al es d=d:=by
 grind [al,fZ]
theorem Es(d:Int):tw d / 2=d / 2:=by grind [tw]
theorem E0(d:Int):tw (tw d)=d:=by grind [tw]
theorem UF{es:List Ed}{d:Int}:tw d∈aU es↔d∈aU es:=by grind [fZ,Es]
theorem Vk(es:List Ed)(d:Int):al es (al es d)=d:=by
 grind [EC,UF,E0,tV]
theorem VO(es:List Ed)(d:Int):al es d / 2=d / 2:=by
 grind [al,Es]
theorem Ff(es es':List Ed)(d:Int):al es d∈aU es'↔d∈aU es':=by grind [fZ,VO]
theorem WE(es:List Ed){d e:Int}(h:al es d=al es e):d=e:=by grind [Vk]
def fc(m:Mp)(es:List Ed)(d:Int):Int:=sg m (al es d)
section
variable {m:Mp} (h:bS m)
include h
theorem bS.sg_mem{t:List Int}(ht:t∈m.rots){d:Int}(hd:d∈t):sg m d∈t:=by rw[DE h ht hd];grind [KP]
theorem bS.sg_dart{d:Int}(hd:d∈aU m.g.es):sg m d∈aU m.g.es:=by obtain⟨t,ht,hdt⟩:=h.turn_of hd;exact h.turn_dart ht (h.sg_mem ht hdt)
theorem bS.sg_id{d:Int}(hd:d∉aU m.g.es):sg m d=d:=Xh fun _ ht hdt=>hd (h.turn_dart ht hdt)
theorem bS.sg_inj{d e:Int}(he:sg m d=sg m e):d=e:=by
 by_cases h1:d∈aU m.g.es
 .by_cases h2:e∈aU m.g.es
  .obtain⟨t,ht,hd⟩:=h.turn_of h1;obtain⟨t',Y4,K7⟩:=h.turn_of h2;have:=h.same ht Y4 (h.sg_mem ht hd) (he ▸ h.sg_mem Y4 K7);subst this;rw[DE h ht hd,DE h ht K7]at he;exact SY (h.nodup ht) hd K7 he
  .have:=h.sg_dart h1;rw[he,h.sg_id h2]at this
   grind
 .by_cases h2:e∈aU m.g.es
  .have:=h.sg_dart h2;rw[<- he,h.sg_id h1]at this
   grind
  .rwa [h.sg_id h1,h.sg_id h2]at he
theorem bS.fc_inj(es:List Ed)(d e:Int)(he:fc m es d=fc m es e):d=e:=WE es (h.sg_inj he)
theorem bS.fc_dart(es:List Ed)(d:Int)(hd:d∈aU m.g.es):fc m es d∈aU m.g.es:=h.sg_dart ((Ff es _ d).2 hd)
theorem bS.fc_per(es:List Ed)(hs:∀ x∈es,x∈m.g.es):Per (fc m es):=by
 refine Pk (aU m.g.es) (fun x hx=>h.fc_dart es x hx) (h.fc_inj es) fun x hx=>?_
 have P3:x∉aU es:=fun hd=>hx (by
  grind [dO])
 unfold fc;rw[tV P3,h.sg_id hx]
theorem bS.sg_at_v{d v:Int}(hd:d∈ends m.g.es v):sg m d∈ends m.g.es v:=by obtain⟨t,ht,hdt⟩:=h.turn_of (nH hd);obtain⟨k,hk,rfl,h1,_⟩:=h.turn ht;have:=dL h.g.ids hd (h1.mem_iff.1 hdt);rw[this];exact h1.mem_iff.1 (h.sg_mem ht hdt)
theorem bS.orb_reach(es:List Ed)(hs:∀ x∈es,x∈m.g.es)(n:Nat):∀ {d v:Int},d∈ends m.g.es v->∃ w,it (fc m es) n d∈ends m.g.es w/\Reach es v w:=by
 induction n with
 |zero=>intro d v hd;exact⟨v,hd,.refl⟩
 |succ n ih=>
  intro d v hd;have key:∃ w,fc m es d∈ends m.g.es w/\Reach es v w:=by
   by_cases j5:d∈aU es
   .unfold fc;rw[EC j5];obtain⟨x,hx,hxd⟩:=fZ.1 j5;have hxg:=hs x hx;obtain⟨y,hy,hyd⟩:=cJ.1 hd;have G8:x=y:=id_eq h.g.ids hxg hy oO;subst G8;rcases hyd with⟨rfl,hdd⟩|⟨rfl,hdd⟩
    .refine⟨x.b,h.sg_at_v (cJ.2 ⟨x,hxg,.inr ⟨rfl,?_⟩⟩),.step .refl (cT.2 ⟨x,hx,.inl ⟨rfl,rfl⟩⟩)⟩
     grind [tw]
    .refine⟨x.a,h.sg_at_v (cJ.2 ⟨x,hxg,.inl ⟨rfl,?_⟩⟩),.step .refl (cT.2 ⟨x,hx,.inr ⟨rfl,rfl⟩⟩)⟩
     grind [tw]
   .unfold fc;rw[tV j5];exact⟨v,h.sg_at_v hd,.refl⟩
  obtain⟨w,h1,h2⟩:=key;obtain⟨w',h3,h4⟩:=ih h1;exact⟨w',h3,h2.trans h4⟩
end
theorem iS(es:List Ed):Eqv (Reach es):=⟨fun _=>.refl,Reach.symm,Reach.trans⟩
theorem Reach.mono{es es':List Ed}(hs:∀ x∈es,x∈es'){v w:Int}(h:Reach es v w):Reach es' v w:=by
 induction h with
 |refl=>exact .refl
 |step _ hw ih=>
  refine .step ih ?_
  grind [cT]
theorem KD(es:List Ed)(x:Ed)(v w:Int):Reach (es++[x]) v w↔Eu.Mg (Reach es) x.a x.b v w:=by
 constructor
 .intro h;have hE:=Mg.eqv (iS es) x.a x.b;induction h with
  |refl=>exact hE.refl _
  |step _ hw ih=>
   refine hE.trans ih ?_;obtain⟨y,hy,h1⟩:=cT.1 hw;rw[aAd,aAk]at hy;rcases hy with hy|rfl
   .exact .inl (.step .refl (cT.2 ⟨y,hy,h1⟩))
   .rcases h1 with⟨rfl,rfl⟩|⟨rfl,rfl⟩
    .exact .inr (.inl ⟨.refl,.refl⟩)
    .exact .inr (.inr ⟨.refl,.refl⟩)
 .refine Mg.le (iS _) (.step .refl (cT.2 ⟨x,sS,.inl ⟨rfl,rfl⟩⟩)) fun v w h=>h.mono fun y hy=>by grind
theorem LB{R:Int->Int->Prop}(hR:∀ x y,R x y->x=y){l:List Int}(hn:l.Nodup):ncl R l=l.length:=by
 induction l with
 |nil=>rfl
 |cons x l ih=>
  grind [aO]
theorem Dg{v w:Int}(h:Reach [] v w):v=w:=by
 induction h with
 |refl=>rfl
 |step _ hw _=>grind [cT]
theorem filter_eq{α β:Type}(p:α->Bool)(q:β->Bool):∀(l:List α) (l':List β),l.length=l'.length->(∀ k (h1:k<l.length) (h2:k<l'.length),p l[k]=!q l'[k])->(l.filter p).length+l'.countP q=l.length
 |[],[],_,_=>rfl
 |[],_::_,h,_=>by grind
 |_::_,[],h,_=>by grind
 |a::l,b::l',h,hk=>by
  have ih:=filter_eq p q l l' (by grind) fun k h1 h2=>hk (k+1) (by grind) (by grind);have h0:=hk 0 sS sS
  grind
section
variable {m:Mp} (h:bS m)
include h
theorem bS.kL:(aU m.g.es).Perm m.rots.flatten:=by
 refine(aAZ (iW (oQ h.g.ids)) ?_).2 fun d=>?_
 .unfold List.Nodup;rw[aEk];refine⟨fun t ht=>h.nodup ht,?_⟩;rw[aAz];intro a b ha hb v8 x hx y hy;rintro rfl;have h1:=h.ok a (by rw[<- h.len];omega);have h2:=h.ok b (by rw[<- h.len];omega);rw[lS _ _ ha]at h1;rw[lS _ _ hb]at h2;have h3:=dL h.g.ids (h1.1.mem_iff.1 hx) (h2.1.mem_iff.1 hy);have ha':a<m.g.vs.length:=by rw[<- h.len];exact ha
  have hb':b<m.g.vs.length:=by rw[<- h.len];exact hb
  rw[bL _ _ ha',bL _ _ hb']at h3;have:=aAz.1 h.g.rise a b ha' hb' v8;omega
 .rw[aAQ];exact⟨fun hd=>h.turn_of hd,fun⟨t,ht,hd⟩=>h.turn_dart ht hd⟩
theorem bS.ncl_sg:ncl (Orb (sg m)) (aU m.g.es)+alone m.g=m.g.vs.length:=by
 have hfc:fc m []=sg m:=by funext d;simp[fc,al]
 have hP:Per (sg m):=by rw[<- hfc];exact h.fc_per [] (fun x hx=>by grind)
 have I2:∀ t∈m.rots,∀ n x,x∈t->it (sg m) n x∈t:=by
  intro t ht n;induction n with
  |zero=>intro x hx;exact hx
  |succ n ih=>intro x hx;exact ih _ (h.sg_mem ht hx)
 have hit:∀ t∈m.rots,∀ n x,x∈t->it (sg m) n x=it (nx t) n x:=by
  intro t ht n;induction n with
  |zero=>intro x hx;rfl
  |succ n ih=>grind [cA,DE]
 rw[vN hP.eqv h.kL,CD]
 .have:=filter_eq (fun t=>decide (t≠[])) (fun v=>decide (nbr m.g.es v=[])) m.rots m.g.vs h.len fun k h1 h2=>?_
  .rw[<- h.len];exact this
  .have hk:=h.ok k h2;rw[lS _ _ h1,bL _ _ h2]at hk;have e1:m.rots[k]=[]↔nbr m.g.es m.g.vs[k]=[]:=by
    rw[<- uD];constructor
    .intro h3;have:=hk.1;simp_all
    .intro h3;have:=hk.1;simp_all
   grind
 .intro t ht x hx y hy;obtain⟨n,hn⟩:=KY (h.nodup ht) hx hy;exact⟨n,by grind⟩
 .rw[aAz];rintro a b ha hb v8 x hx y hy ⟨n,hn⟩;have h4:=I2 _ (aAI hb) n y hy;rw[hn]at h4;have h1:=h.ok a (by rw[<- h.len];omega);have h2:=h.ok b (by rw[<- h.len];omega);rw[lS _ _ ha]at h1;rw[lS _ _ hb]at h2;have h3:=dL h.g.ids (h1.1.mem_iff.1 hx) (h2.1.mem_iff.1 h4);have ha':a<m.g.vs.length:=by rw[<- h.len];exact ha
  have hb':b<m.g.vs.length:=by rw[<- h.len];exact hb
  rw[bL _ _ ha',bL _ _ hb']at h3;have:=aAz.1 h.g.rise a b ha' hb' v8;omega
theorem bS.euler_at(j:Nat)(hj:j<=m.g.es.length):∃ k:Nat,2*ncl (Reach (m.g.es.take j)) m.g.vs+j=2*k+alone m.g+m.g.vs.length+ncl (Orb (fc m (m.g.es.take j))) (aU m.g.es):=by
 induction j with
 |zero=>
  have hfc:fc m []=sg m:=by funext d;simp[fc,al]
  refine⟨0,?_⟩;rw[List.take_zero,hfc,LB (fun x y=>Dg) h.g.toGood.nodup];have:=h.ncl_sg;omega
 |succ j ih=>
  obtain⟨k,hk⟩:=ih oO;have hs:∀ i,∀ x∈m.g.es.take i,x∈m.g.es:=fun i x hx=>aCm hx;have hp:=h.fc_per (m.g.es.take j) (hs j);have O9:=h.fc_per (m.g.es.take (j+1)) (hs (j+1));have C9:m.g.es.take (j+1)=m.g.es.take j++[m.g.es[j]]:=aAs oO;have hxin:m.g.es[j]∈m.g.es:=aAI _;have hxno:∀ y∈m.g.es.take j,y.id≠m.g.es[j].id:=by intro y hy;obtain⟨i,hi,rfl⟩:=aAC hy;rw[aAw]at hi;rw[aBR];have:=aAz.1 h.g.ids i j oO oO oO;omega
  generalize m.g.es[j]=x at *;have Q8:∀ d,fc m (m.g.es.take (j+1)) d=fc m (m.g.es.take j) (sw (2*x.id) (2*x.id+1) d):=by
   intro d;unfold fc
   congr 1
   by_cases h1:d=2*x.id
   .grind [Cq,EC,fZ,tV,tw]
   .grind [Gt,EC,tV,tw,sP,aU,List.mem_singleton]
  have ha:2*x.id∈aU m.g.es:=dO.2 ⟨x,hxin,.inl rfl⟩;have hb:2*x.id+1∈aU m.g.es:=dO.2 ⟨x,hxin,.inr rfl⟩;have hR:∀ v w,Reach (m.g.es.take (j+1)) v w↔Eu.Mg (Reach (m.g.es.take j)) x.a x.b v w:=fun v w=>by grind [KD]
  have hRn:ncl (Reach (m.g.es.take (j+1))) m.g.vs=ncl (Eu.Mg (Reach (m.g.es.take j)) x.a x.b) m.g.vs:=dQ fun v _ w _=>hR v w;rw[hRn];by_cases ho:Orb (fc m (m.g.es.take j)) (2*x.id) (2*x.id+1)
  .have h1:=sC hp O9 Q8 oO ha hb ho;have hr:Reach (m.g.es.take j) x.a x.b:=by
    obtain⟨n,hn⟩:=ho;obtain⟨w,h2,h3⟩:=h.orb_reach (m.g.es.take j) (hs j) n (cJ.2 ⟨x,hxin,.inl ⟨rfl,rfl⟩⟩);rw[hn]at h2
    rwa [dL h.g.ids h2 (cJ.2 ⟨x,hxin,.inr ⟨rfl,rfl⟩⟩)]at h3
   grind [dQ,Mg.same,iS]
  .have h1:=vH hp O9 Q8 ha hb ho;by_cases hr:Reach (m.g.es.take j) x.a x.b
   .have h2:ncl (Eu.Mg (Reach (m.g.es.take j)) x.a x.b) m.g.vs=ncl (Reach (m.g.es.take j)) m.g.vs:=dQ fun v _ w _=>Mg.same (iS _) hr v w;rw[h2];exact⟨k+1,oO⟩
   .have h2:=tI (iS _) hr (h.g.ends x hxin).1 (h.g.ends x hxin).2
    grind
theorem bS.euler:∃ k:Nat,2*ncl (Reach m.g.es) m.g.vs+m.g.es.length=2*k+alone m.g+m.g.vs.length+ncl (Orb (fc m m.g.es)) (aU m.g.es):=by
 have:=h.euler_at m.g.es.length (aAm _)
 grind
end
def Vw(f:Int->Int)(ds:List Int)(k:Nat)(x:Int):Prop:=∃ y∈ds.take k,Orb f y x
inductive NB(f:Int->Int)(ds:List Int):Nat->List (List Int)->Prop
 |zero:NB f ds 0 []
 |seen {k:Nat} {R:List (List Int)} (h:NB f ds k R) (hk:k<ds.length) (hs:Vw f ds k (ds.getD k 0)):NB f ds (k+1) R
 |lead {k:Nat} {R:List (List Int)} {c:List Int} (h:NB f ds k R) (hk:k<ds.length) (hs:¬Vw f ds k (ds.getD k 0)) (hc:YY f (ds.getD k 0) c):NB f ds (k+1) (R++[c])
theorem HQ{c:List Int}{d:Int}{r:List Int}(h:c=d::r)(hm:mn c=d):nrm c=c:=by
 grind [nrm,rt]
theorem SM(c:List Int)(h:c≠[]):∃ r,nrm c=mn c::r:=by
 have hm:=xM h;have dG:=aBg hm;have hl:0<(nrm c).length:=by rw[nX];omega
 have h0:=US c 0 oO;simp only[Nat.add_zero,aAJ dG,aBL]at h0;cases hn:nrm c with
 |nil=>grind
 |cons a r=>grind
end Aw
namespace Aw
open Go Go.RowKit Pl
def As:List Bool->Nat
 |[]=>0
 |b::l=>(if b then 1 else 0)+2*As l
theorem Hh:∀(l:List Bool) (i:Nat),(As l).testBit i=l.getD i false
 |[],i=>by simp[As]
 |b::l,0=>by
  grind [As]
 |b::l,i+1=>by
  rw[As,aDV];have:((if b then 1 else 0)+2*As l) / 2=As l:=by cases b<;>simp<;>omega
  rw[this,Hh l i];simp
theorem MF:∀ l:List Bool,As l<2 ^ l.length
 |[]=>by simp[As]
 |b::l=>by
  have:=MF l
  grind [As]
def mk(vs S:List Int):Nat:=As (vs.map fun v=>decide (v∈S))
theorem iV(vs S:List Int)(i:Nat):(mk vs S).testBit i=(decide (i<vs.length)&&decide (vs.getD i 0∈S)):=by
 grind [mk,Hh]
theorem nC(vs S:List Int)(h:vs.length<=64):mk vs S<18446744073709551616:=by
 have h1:=MF (vs.map fun v=>decide (v∈S));rw[aAB]at h1
 exact aAr h1 (by
  have:=aEs (show 0<2 by decide) h
  omega)
theorem mk_congr{vs A B:List Int}(h:∀ v∈vs,(v∈A↔v∈B)):mk vs A=mk vs B:=by
 grind [mk,List.map_congr_left]
theorem We{vs A B:List Int}(h:mk vs A=mk vs B):∀ v∈vs,(v∈A↔v∈B):=fun v hv=>by
 obtain⟨i,hi,rfl⟩:=aAC hv;have h1:=iV vs A i
 grind [iV]
theorem mk_zero(vs A:List Int):mk vs A=0↔∀ v∈vs,v∉A:=by
 have e:mk vs []=0:=by apply aBN;intro i;rw[iV];simp
 constructor
 .intro h v hv hA;have:=(We (h.trans e.symm) v hv).1 hA
  grind
 grind [mk_congr]
theorem Ta(a b:Nat)(ha:a<18446744073709551616)(hb:b<18446744073709551616):gor .u64 (a:Int) (b:Int)=((a ||| b:Nat):Int):=by
 have hx:a ||| b<2 ^ 64:=Nat.or_lt_two_pow oO oO
 unfold gor;simp only[show IntKind.u64.bits=64 from rfl,BitVec.ofInt_natCast,BitVec.toNat_or,aDj,aAJ ha,aAJ hb]
 grind [IntKind.wrap_u64]
theorem Bn(a b:Nat)(ha:a<18446744073709551616)(hb:b<18446744073709551616):wM .u64 (a:Int) (b:Int)=((a &&& b:Nat):Int):=by
 have hx:a &&& b<2 ^ 64:=Nat.and_lt_two_pow _ oO;unfold wM;simp only[show IntKind.u64.bits=64 from rfl,BitVec.ofInt_natCast,BitVec.toNat_and,aDj,aAJ ha,aAJ hb]
 grind [IntKind.wrap_u64]
theorem Gm(a b:Nat)(ha:a<18446744073709551616)(hb:b<18446744073709551616):gX .u64 (a:Int) (b:Int)=((a &&& (2 ^ 64-(b+1)):Nat):Int):=by
 have hx:a &&& (2 ^ 64-(b+1))<2 ^ 64:=Nat.and_lt_two_pow _ oO;unfold gX;simp only[show IntKind.u64.bits=64 from rfl,BitVec.ofInt_natCast,BitVec.toNat_and,BitVec.toNat_not,aDj,aAJ ha,aAJ hb]
 grind [IntKind.wrap_u64]
theorem Ag(vs A B:List Int)(h:vs.length<=64):gor .u64 (mk vs A) (mk vs B)=mk vs (A++B):=by
 rw[Ta _ _ (nC vs A h) (nC vs B h)]
 congr 1
 apply aBN
 grind [iV]
theorem SI(vs A B:List Int)(h:vs.length<=64):wM .u64 (mk vs A) (mk vs B)=mk vs (A.filter fun v=>decide (v∈B)):=by
 rw[Bn _ _ (nC vs A h) (nC vs B h)]
 congr 1
 apply aBN
 grind [iV]
theorem sJ(vs A B:List Int)(h:vs.length<=64):gX .u64 (mk vs A) (mk vs B)=mk vs (A.filter fun v=>!decide (v∈B)):=by
 rw[Gm _ _ (nC vs A h) (nC vs B h)]
 congr 1
 apply aBN;intro i;rw[Nat.testBit_and,Nat.testBit_two_pow_sub_succ (nC vs B h),iV,iV,iV]
 grind
def fst'(vs S:List Int):Nat:=vs.findIdx fun v=>decide (v∈S)
theorem NK{x k:Nat}(h1:x.testBit k=true)(h2:∀ j,j<k->x.testBit j=false):∃ m,x=2 ^ k*(2*m+1):=by
 induction k generalizing x with
 |zero=>rw[Nat.testBit_zero]at h1;simp only[aBx]at h1;exact⟨x / 2,oO⟩
 |succ k ih=>
  have h0:=h2 0 oO;rw[Nat.testBit_zero]at h0;simp only[aCf]at h0;rw[aDV]at h1;obtain⟨m,hm⟩:=ih h1 fun j hj=>by grind
  refine⟨m,?_⟩
  grind [Nat.mul_assoc]
theorem Bi{vs S:List Int}(h:fst' vs S<vs.length):∃ m,mk vs S=2 ^ fst' vs S*(2*m+1):=by
 have hp:decide (vs[fst' vs S]∈S)=true:=aEt (w:=h);refine NK ?_ fun j hj=>?_
 .grind [iV]
 .rw[iV];have hjl:j<vs.length:=oO;have:=aEg hj
  grind
theorem Ii{a b m n:Nat}(h:2 ^ a*(2*m+1)=2 ^ b*(2*n+1)):a=b:=by
 induction a generalizing b with
 |zero=>
  cases b with
  |zero=>rfl
  |succ b=>
   grind
 |succ a ih=>
  cases b with
  |zero=>
   grind
  |succ b=>
   grind
theorem Ef{vs S:List Int}(h64:vs.length<=64)(h:fst' vs S<vs.length):Lib.ctz 64 (mk vs S)=fst' vs S:=by
 obtain⟨m,hm⟩:=Bi h;have dG:=nC vs S h64;have h0:mk vs S≠0:=by rw[hm];exact aEd (by grind) oO
 have e:Lib.ctz 64 (mk vs S)=Lib.ctzFrom 64 (mk vs S):=by simp[Lib.ctz,h0]
 obtain⟨n,hn,_⟩:=Lib.ctzFrom_spec 64 (mk vs S) oO dG
 grind [Ii]
theorem EX{vs S:List Int}(h:fst' vs S<vs.length):mk vs S≠0:=by
 grind [Bi]
theorem XV{vs S:List Int}:fst' vs S<vs.length↔∃ v∈vs,v∈S:=by
 grind [fst']
theorem Tg{vs S:List Int}(h:fst' vs S<vs.length):vs.getD (fst' vs S) 0∈S/\vs.getD (fst' vs S) 0∈vs:=by
 grind [fst']
theorem Ex{vs:List Int}(hn:vs.Nodup){i j:Nat}(hi:i<vs.length)(hj:j<vs.length):vs[i]=vs[j]↔i=j:=by
 grind [List.pairwise_iff_getElem]
theorem mk_one{vs:List Int}(hn:vs.Nodup){k:Nat}(hk:k<vs.length):mk vs [vs.getD k 0]=2 ^ k:=by
 apply aBN
 grind [iV,Ex]
theorem Xb{vs S:List Int}(h64:vs.length<=64)(hn:vs.Nodup)(h:fst' vs S<vs.length):wM .u64 (mk vs S) (IntKind.u64.wrap (0-(mk vs S:Int)))=mk vs [vs.getD (fst' vs S) 0]:=by
 have dG:=nC vs S h64;have h0:=EX h;have e1:IntKind.u64.wrap (0-(mk vs S:Int))=((18446744073709551616-mk vs S:Nat):Int):=by rw[IntKind.wrap_u64];omega
 rw[e1,Bn _ _ dG oO,mk_one hn h];have:=(Lib.lowest_bit 64 (mk vs S) h0 dG).1
 grind [Ef]
theorem Hp(k m:Nat):(2 ^ k*(2*m+1)) &&& (2 ^ k*(2*m+1)-1)=2 ^ k*(2*m):=by
 have hp:=Nat.two_pow_pos k;have e:2 ^ k*(2*m+1)-1=2 ^ k*(2*m)+(2 ^ k-1):=by rw[Nat.mul_add,aDt];omega
 rw[e];apply aBN;intro i;rw[Nat.testBit_and,Nat.testBit_two_pow_mul_add _ (show 2 ^ k-1<2 ^ k by omega)];rw[aBY (2 ^ k),aBY (2 ^ k),aCI,aCI];by_cases hik:i<k
 .grind
 .have h1:k<=i:=oO;simp only[hik,h1,decide_true,Bool.true_and,aBE];cases hj:i-k with
  |zero=>grind
  |succ j=>
   grind
theorem LR{vs S:List Int}(h64:vs.length<=64)(hn:vs.Nodup)(h:fst' vs S<vs.length):wM .u64 (mk vs S) (IntKind.u64.wrap ((mk vs S:Int)-1))=mk vs (S.filter fun w=>decide (w≠vs.getD (fst' vs S) 0)):=by
 have dG:=nC vs S h64;have h0:=EX h;have e1:IntKind.u64.wrap ((mk vs S:Int)-1)=((mk vs S-1:Nat):Int):=by rw[IntKind.wrap_u64];omega
 rw[e1,Bn _ _ dG oO]
 congr 1
 obtain⟨m,hm⟩:=Bi h;have h2:mk vs S &&& (mk vs S-1)=mk vs S-2 ^ fst' vs S:=by rw[hm,Hp,Nat.mul_add (2 ^ _) (2*m) 1,aDt];omega
 apply aBN;intro i;have hb:mk vs S &&& (mk vs S-1)=2 ^ fst' vs S*(2*m):=by rw[hm,Hp]
 have hS:(mk vs S).testBit i=(2 ^ fst' vs S*(2*m+1)).testBit i:=by rw[<- hm]
 rw[hb,iV];rw[iV,aBY (2 ^ _),aCI]at hS;rw[aBY (2 ^ _),aCI];by_cases e:i=fst' vs S
 .grind
 .have hv:i<vs.length->vs.getD i 0≠vs.getD (fst' vs S) 0:=fun hi=>by
   grind [Ex]
  have h3:(2*m).testBit (i-fst' vs S)=(2*m+1).testBit (i-fst' vs S)\/i<fst' vs S:=by
   by_cases hi:i<fst' vs S
   .omega
   .left;obtain⟨j,hj⟩:∃ j,i-fst' vs S=j+1:=⟨i-fst' vs S-1,oO⟩
    grind
  grind
theorem Kw{vs:List Int}(hn:vs.Nodup)(h64:vs.length<=64){k:Nat}(hk:k<vs.length):FN .u64 1 (k:Int)=mk vs [vs.getD k 0]:=by
 rw[mk_one hn hk];unfold FN;have:min (k:Int).toNat IntKind.u64.bits=k:=by have:IntKind.u64.bits=64:=rfl;omega
 rw[this,Int.one_mul,IntKind.wrap_u64];have h2:2 ^ k<18446744073709551616:=aAr (Nat.pow_lt_pow_right (show 1<2 by decide) (show k<64 by omega)) (aAm _)
 grind
abbrev wv(n:Nat):LV:=.atom (.int .u64 n)
theorem zU(n:Nat):∀ l:List Int,fW n (us l):=fun l=>by
 induction l with
 |nil=>trivial
 |cons a l ih=>exact⟨trivial,ih⟩
def wQ(vs:List Int):List (List Int×LV):=(List.range vs.length).map fun k=>([vs.getD k 0],i k)
theorem CK{vs:List Int}(hn:vs.Nodup){k:Nat}(hk:k<vs.length):bN (wQ vs) [vs.getD k 0]=some (i k):=by
 have key:∀(L:List Nat),(∀ j∈L,j<vs.length)->k∈L->bN (L.map fun k=>(([vs.getD k 0],i k):List Int×LV)) [vs.getD k 0]=some (i k):=by
  intro L;induction L with
  |nil=>grind
  |cons j L ih=>
   grind [bN,Ex]
 exact key _ (fun j hj=>aBl.1 hj) (aBl.2 hk)
def ShB(vs:List Int)(S pl:Nat)(st:St):Prop:=(∃ a b c d e f,st.H S=.box 136 7 [a,b,c,.mp pl,d,e,f])/\st.H pl=.map false [.u32] (wQ vs)
theorem An{vs:List Int}{v:Int}(hv:v∈vs):vs.idxOf v<vs.length/\vs.getD (vs.idxOf v) 0=v:=by
 grind
theorem UG{vs:List Int}{S pl:Nat}{st:St}(hS:ShB vs S pl st)(hn:vs.Nodup)(h64:vs.length<=64){v:Int}(hv:v∈vs):
 aB prog 137 [.pt S 0,u v] st fun r st'=>r=wv (mk vs [v])/\st'=st:=by
 obtain⟨⟨a,b,c,d,e,f,J6⟩,hP⟩:=hS;obtain⟨hk,hg⟩:=An hv;have h1:=CK hn hk;have h2:=Kw hn h64 hk;rw[hg]at h1 h2;refine zN func137 ntmps137 [.tmp 4] ?_;exact xv4 J6 hP h1 h2
theorem VN(vs l:List Int)(j:Nat)(hj:j<l.length)(h:vs.length<=64):gor .u64 (mk vs (l.take j)) (mk vs [l.getD j 0])=mk vs (l.take (j+1)):=by
 grind [Ag,List.take_succ_eq_append_getElem]
theorem Xj{vs:List Int}{S pl:Nat}{st:St}(hS:ShB vs S pl st)(hn:vs.Nodup)(h64:vs.length<=64)(l:List Int)(t:Nat)(hl:∀ v∈l,v∈vs)(hll:l.length<=1048576):
 aB prog 181 [.pt S 0,.sl t l.length (us l)] st fun r st'=>r=wv (mk vs l)/\st'=st:=by
 refine zN func181 ntmps181 [.tmp 4] ?_;refine xw0 ?_;have h0:mk vs []=0:=(mk_zero vs []).2 fun _ _=>by simp
 refine bD 10 9 11 19 (l.length) (fun j fr st2=>fr 0=.pt S 0/\fr 8=.sl t l.length (us l)/\fr 5=wv (mk vs (l.take j))/\st2=st) ?_ ?_ ?_
 .simp_all
 .rintro j fr s dG ⟨f0,f8,f5,hs⟩ fi fn J hJ;subst hs;have hd:=qG l j dG;have hm:=VN vs l j dG h64;have hv:l.getD j 0∈vs:=hl _ (by grind);generalize l.getD j 0=v at *
  (refine E5 hJ f0 f8 f5 fi fn hd dG ?_;intro J hJ)
  refine xcP (UG hS hn h64 hv) ?_;refine pD hJ fi hm ?_;simp_all
 .rintro fr s ⟨f0,f8,f5,hs⟩;subst hs;rw[aBe]at f5;exact xv1 f5
theorem RK{vs:List Int}{S pl:Nat}{st:St}(hS:ShB vs S pl st)(hSn:S<st.next)(hpn:pl<st.next)(hn:vs.Nodup)(h64:vs.length<=64)(l:List Int)(t:Nat)(hl:∀ v∈l,v∈vs)(hll:l.length<=1048576):
 aB prog 141 [.pt S 0,.sl t l.length (us l)] st fun r st'=>r=.ag [.sl 0 l.length (us l),wv (mk vs l)]/\st'=st:=by
 refine qT (Q:=fun r=>r=.ag [.sl 0 l.length (us l),wv (mk vs l)]) (cZ ?_) fun r h=>by subst h;exact⟨⟨.inl rfl,zU _ _⟩,trivial,trivial⟩
 refine zN func141 ntmps141 [.cell 4 144] ?_
 (refine xj0 ?_;intro J hJ)
 refine qE (Xj (vs:=vs) (S:=S) (pl:=pl) ?_ hn h64 l t hl hll) sS ?_
 .obtain⟨⟨a,b,c,d,e,f,J6⟩,hP⟩:=hS;exact⟨⟨a,b,c,d,e,f,by grind [cE]⟩,by grind [cE]⟩
 rintro r s1 ⟨rfl,h1⟩;rw[h1];clear h1 s1;refine dA hJ ?_;exact⟨by simp[z0,z0L],aA.new _ _⟩
theorem JD{st:St}{m:Nat}{o:cI}(h:st.H m=o):st.set m o=st:=by
 obtain⟨n,H⟩:=st;simp only[St.set,St.mk.injEq,true_and]
 funext y
 by_cases e:y=m
 .subst e;rw[aAj rfl];exact h.symm
 .rw[aAa e]
def prP(a b:Int):Int×Int:=(min a b,max a b)
abbrev pk(p:Int×Int):List Int:=[p.1,p.2]
def JW(L:List (Int×Int))(p:Int×Int):List (Int×Int):=if p∈L then L else L++[p]
def iI:List Int->List (Int×Int)
 |a::b::l=>prP a b::iI (b::l)
 |_=>[]
def jY(L:List (Int×Int))(w:List Int):List (Int×Int):=(iI w).foldl JW L
theorem nJ:∀ w:List Int,(iI w).length=w.length-1
 |[]=>rfl
 |[_]=>rfl
 |a::b::l=>by have:=nJ (b::l);rw[iI,List.length_cons,this];simp
theorem HK:∀(w:List Int) (k:Nat),k+1<w.length->(iI w)[k]?=some (prP (w.getD k 0) (w.getD (k+1) 0))
 |a::b::l,0,_=>by simp[iI]
 |a::b::l,k+1,h=>by rw[iI,List.getElem?_cons_succ,HK (b::l) k (by simpa using h)];simp
 |[],k,h=>by simp at h
 |[_],k,h=>by simp at h
theorem Ny(es:List (List Int×LV))(L:List (Int×Int))(p:Int×Int)(v:LV)(h:es.map (·.1)=L.map pk):(bQ es (pk p) v).map (·.1)=(JW L p).map pk:=by
 have j5:pk p∈L.map pk↔p∈L:=by
  rw[aAi];constructor
  .rintro⟨q,hq,e⟩;simp only[pk,aBt,aEu]at e;obtain⟨e1,e2⟩:=e;have:q=p:=aBZ e1 e2;rw[<- this];exact hq
  .intro hp;exact⟨p,hp,rfl⟩
 have key:∀(es:List (List Int×LV)),(bQ es (pk p) v).map (·.1)=if pk p∈es.map (·.1)then es.map (·.1)else es.map (·.1)++[pk p]:=by
  intro es;induction es with
  |nil=>simp[bQ]
  |cons q es ih=>
   simp only[bQ];by_cases e:pk p=q.1
   .rw[aAj (by simpa using e)];simp[e]
   .rw[aAa (by simpa using e),aAl,ih,aAl];by_cases e2:pk p∈es.map (·.1)
    .rw[aAj e2,aAj (aAc _ e2)]
    .rw[aAa e2,aAa (by simp only[aAe,aCr];exact⟨e,e2⟩)];rfl
 rw[key,h];unfold JW;by_cases e:p∈L
 .rw[aAj e,aAj (j5.2 e)]
 .rw[aAa e,aAa fun k=>e (j5.1 k),aAu];rfl
theorem pair(a b:Int)(st:St):aB prog 58 [u a,u b] st fun r st'=>r=.ag [u (min a b),u (max a b)]/\st'=st:=by
 refine qT (Q:=fun r=>r=.ag [u (min a b),u (max a b)]) ?_ fun r h=>by subst h;exact⟨trivial,trivial,trivial⟩
 refine zN func58 ntmps58 [.cell 4 79] ?_;refine xw0 ?_;exact⟨⟨by split<;>omega,by split<;>omega⟩,aA.new _ _⟩
theorem QG{vs:List Int}{S pl ll:Nat}{st:St}{a b c f:LV}{on:List Int}{le:List (List Int×LV)}{L:List (Int×Int)}(J6:st.H S=.box 136 7 [a,b,c,.mp pl,.mp ll,wv (mk vs on),f])(hP:st.H pl=.map false [.u32] (wQ vs))
 (hL:st.H ll=.map true [.u32,.u32] le) (hk:le.map (·.1)=L.map pk) (S6:¬pl=ll) (hn:vs.Nodup) (h64:vs.length<=64) (w:List Int) (t:Nat) (hw:∀ v∈w,v∈vs) (hwl:w.length<=1000):
 aB prog 140 [.pt S 0,.sl t w.length (us w)] st fun _ st'=>∃ le',st'=(st.set ll (.map true [.u32,.u32] le')).set S (.box 136 7 [a,b,c,.mp pl,.mp ll,wv (mk vs (on++w)),f])/\le'.map (·.1)=(jY L w).map pk:=by
 have n1:¬S=ll:=fun h=>by rw[h,hL]at J6;cases J6
 have n2:¬ll=S:=fun h=>n1 h.symm;have n3:¬pl=S:=fun h=>by rw[h,J6]at hP;cases hP
 refine zN func140 ntmps140 [] ?_;refine xw0 ?_;refine qL (fun n fr st'=>∃ k:Nat,1<=k/\(k=1\/k<=w.length)/\n=w.length-k/\fr 0=.pt S 0/\fr 1=.sl t w.length (us w)/\fr 4=i k/\∃ le',st'=st.set ll (.map true [.u32,.u32] le')/\le'.map (·.1)=(((iI w).take (k-1)).foldl JW L).map pk) (w.length-1) ?_ ?_
 .exact⟨1,oO,.inl rfl,rfl,sS,sS,sS,le,(JD hL).symm,by simpa using hk⟩
 rintro n fr s ⟨k,c8,o8,rfl,f0,f1,f4,le',rfl,u5⟩ JJ hJJ;by_cases dG:k<w.length
 .have N5:=qN k oO;have hd:=qG w k dG;have y9:=qG w (k-1) oO;have hg:=HK w (k-1) oO;have hwl2:=nJ w;have e1:IntKind.i64.wrap ((k:Int)-1)=((k-1:Nat):Int):=zW;have e4:k-1<w.length:=oO;rw[show k-1+1=k by omega]at hg;have Y0:∀ v,(bQ le' (pk (prP (w.getD (k-1) 0) (w.getD k 0))) v).map (·.1)=(((iI w).take (k+1-1)).foldl JW L).map pk:=fun v=>by rw[Ny _ _ _ _ u5,show k+1-1=(k-1)+1 by omega];have M8:k-1<(iI w).length:=oO;rw[aAs M8,aBI];rw[aAh M8,aAb]at hg;rw[hg];rfl
  generalize w.getD (k-1) 0=x at *;generalize w.getD k 0=y at *;refine xw4 f0 f1 f4 dG ?_
  (refine zS [] [S] [0,2,4,6,8,10,12,14,16,18,20,22,24,28,26,31] ?_;intro J hJ;simp[f0,f1,f4,dG,J6,hL,n1,n2,e1,e4,hd,y9])
  refine xdP (pair x y _) ?_;refine⟨fun h=>by first|(cases h;done)|simp,?_⟩
  (apply bI;simp[n1,n2,hL];refine zJ hJ ?_)
  refine xw2 f4 N5 ?_;refine hJJ _ _ _ ?_ ⟨k+1,oO,.inr oO,rfl,sF1 f0,sF1 f1,sS,_,set_set _ _ _ _,Y0 _⟩;omega
 .have Y7:(iI w).take (k-1)=iI w:=aAv (by rw[nJ];omega);rw[Y7]at u5;have hB:ShB vs S pl (st.set ll (.map true [.u32,.u32] le')):=⟨⟨a,b,c,.mp ll,wv (mk vs on),f,by rw[bU,aAa n1];exact J6⟩,by rw[bU,aAa S6];exact hP⟩;have hor:=Ag vs on w h64;refine xw4 f0 f1 f4 dG ?_
  (refine zS [] [S] [0,2,4,6,8,10,12,14,16,18,21] ?_;intro J hJ;simp[f0,f1,J6,n1])
  refine xdP (Xj hB hn h64 w t hw oO) ?_;refine⟨fun h=>by first|(cases h;done)|simp,?_⟩
  (apply bI;simp[J6,n1,hor];refine zJ hJ ?_)
  refine xw0 ?_;exact⟨trivial,le',rfl,u5⟩
end Aw
namespace Aw
open Go Go.RowKit
theorem TC(x k idx:Nat)(w:World)(L8:((x:Int)==0)=false)
 (key:IntKind.u64.wrap (bits BinOp.and IntKind.u64 (x:Int) (IntKind.u64.wrap (-(x:Int)))*285870213051353865) / 288230376151711744=(idx:Int))
 (hi:idx<64) (hk:k<64) (hcell:w.cell? ⟨0,idx,none⟩=some (.int .u8 k)):
 Calls prog 144 #[.int .u64 x] w fun e w'=>e=.returned (.int .i64 k)/\w'=w:=by
 go_enter func144,ntmps144
 go_wp2_with (simp only[key])
 go_ret
 simp_all
theorem Tu(w:World):
 Calls prog 144 #[.int .u64 0] w fun e w'=>e=.returned (.int .i64 64)/\w'=w:=by
 go_enter func144,ntmps144
 go_wp2
 go_ret
 simp_all
theorem WY(x a:Nat)(hx:x<18446744073709551616)(L8:x≠0)(U6:x &&& (18446744073709551616-x)=a):
 IntKind.u64.wrap (bits BinOp.and IntKind.u64 (x:Int) (IntKind.u64.wrap (-(x:Int)))*285870213051353865) / 288230376151711744=((a*285870213051353865 % 18446744073709551616 / 288230376151711744:Nat):Int):=by
 have e1:IntKind.u64.wrap (-(x:Int))=((18446744073709551616-x:Nat):Int):=by rw[IntKind.wrap_u64];omega
 grind [bits_and_u64_nat,IntKind.wrap_u64]
theorem Qe{w:World}{g:G}(h:iD w g)(idx k:Nat)(hi:idx<64)(hk:Lib.deBruijn64tab.getD idx 0=k):w.cell? ⟨0,idx,none⟩=some (.int .u8 k):=by
 have hl:Lib.deBruijn64tab.length=64:=rfl;have h2:Lib.deBruijn64tab[idx]?=some k:=by rw[aAg,aAh oO,Option.getD_some]at hk;rw[aAh oO,hk]
 have h3:=h (0,Lib.deBruijn64tab.map fun(n:Nat)=>.int .u8 n) (aAk.2 rfl) idx (.int .u8 k)
 grind
theorem QC(x:Nat)(hx:x<18446744073709551616){w:World}{g:G}(h:iD w g):Calls prog 144 #[.int .u64 x] w fun e w'=>e=.returned (.int .i64 (Lib.ctz 64 x))/\w'=w:=by
 by_cases L8:x=0
 .subst L8;exact Tu w
 .obtain⟨U6,hk⟩:=Lib.lowest_bit 64 x L8 hx;obtain⟨I4,htab⟩:=Lib.deBruijn64_at _ hk;exact TC x _ _ w (by grind) (WY x _ hx L8 U6) I4 hk (Qe h _ _ I4 htab)
theorem Oa:Enters prog 144:=enters_of func144 (by kernel_rfl) rfl
theorem Tz(x:Nat)(hx:x<18446744073709551616)(st:St):aB prog 144 [.atom (.int .u64 x)] st fun r st'=>r=i (Lib.ctz 64 x)/\st'=st:=by
 refine⟨Oa,fun w g vs hi hr=>?_⟩;simp only[aC,Rep]at hr;obtain⟨v,vs',rfl,rfl,rfl⟩:=hr;refine(QC x hx hi.aside.glob).mono ?_;rintro e w' ⟨rfl,rfl⟩
 grind [Rep,Ext.refl]
end Aw
namespace Aw
open Go Go.RowKit Pl
def mM(g:Gr):List LV:=g.vs.map fun v=>wv (mk g.vs (nbr g.es v))
@[simp] theorem Xx(g:Gr):(mM g).length=g.vs.length:=by simp[mM]
theorem Jy(g:Gr)(k:Nat)(hk:k<g.vs.length):(mM g).drop k=wv (mk g.vs (nbr g.es (g.vs.getD k 0)))::(mM g).drop (k+1):=by unfold mM;rw[aAL (by simpa using hk),aCt,bL _ _ hk]
def arn(g:Gr)(A:List Int):List Int:=A.flatMap (nbr g.es)
theorem Mf{g:Gr}{A B:List Int}(h:∀ v,v∈A↔v∈B):mk g.vs (arn g A)=mk g.vs (arn g B):=mk_congr fun v _=>by unfold arn;rw[aAY,aAY];exact⟨fun⟨x,hx,h2⟩=>⟨x,(h x).1 hx,h2⟩,fun⟨x,hx,h2⟩=>⟨x,(h x).2 hx,h2⟩⟩
theorem UY{g:Gr}{S nl:Nat}{st:St}{a b d e f h:LV}(J6:st.H S=.box 136 7 [a,b,.ms nl 0 g.vs.length,d,e,f,h])(hN:st.H nl=.box 133 1 (mM g))(hn:g.vs.Nodup)(h64:g.vs.length<=64)(A:List Int)(hA:∀ v∈A,v∈g.vs):
 aB prog 182 [.pt S 0,wv (mk g.vs A)] st fun r st'=>r=wv (mk g.vs (arn g A))/\st'=st:=by
 refine zN func182 ntmps182 [.tmp 4] ?_;refine xw0 ?_;have h0:mk g.vs []=0:=(mk_zero g.vs []).2 fun _ _=>by simp
 refine qL (fun n fr st'=>∃ D R:List Int,n=(g.vs.filter fun v=>decide (v∈R)).length/\(∀ v,v∈A↔v∈D\/v∈R)/\fr 0=.pt S 0/\fr 1=wv (mk g.vs R)/\fr 5=wv (mk g.vs (arn g D))/\st'=st) (g.vs.filter fun v=>decide (v∈A)).length ?_ ?_
 .exact⟨[],A,rfl,fun v=>by simp,sS,sS,by simp[arn,h0],rfl⟩
 rintro n fr s ⟨D,R,rfl,hDR,f0,f1,f5,rfl⟩ JJ hJJ;have hRA:∀ v∈R,v∈g.vs:=fun v hv=>hA v ((hDR v).2 (.inr hv));by_cases hR:fst' g.vs R<g.vs.length
 .have Zo:=EX hR;have hb:((mk g.vs R:Int) != 0)=true:=by simpa using Zo
  have hct:=Ef h64 hR;have dG:=nC g.vs R h64;have X6:=Jy g _ hR;obtain⟨X8,hv2⟩:=Tg hR;have hdp:=LR h64 hn hR;have hi0:(0:Int)<=(fst' g.vs R:Int):=oO;have hi1:(fst' g.vs R:Int)<g.vs.length:=oO;have hTz:=fun st=>Tz (mk g.vs R) dG st;rw[hct]at hTz;generalize g.vs.getD (fst' g.vs R) 0=v at *;have hor:=Ag g.vs (arn g D) (nbr g.es v) h64;refine xw2 f1 hb ?_
  (refine zS [] [S,nl] [0,2,4,6,8,10,12,14,16,18,20] ?_;intro J hJ;simp[f0,f1,f5,J6,hN])
  refine xdP (hTz _) ?_;refine⟨fun h=>by first|(cases h;done)|simp,?_⟩
  (apply bI;simp[J6,hN,X6,hi0,hi1,hR,hor];refine zJ hJ ?_)
  refine xw2 f1 hdp ?_;refine hJJ _ _ _ ?_ ⟨D++[v],R.filter fun w=>decide (w≠v),rfl,fun w=>?_,sF1 f0,sS,by simp[arn],rfl⟩
  .have H7:(g.vs.filter fun w=>decide (w∈R.filter fun w=>decide (w≠v)))=(g.vs.filter fun w=>decide (w∈R)).filter fun w=>decide (w≠v):=by rw[List.filter_filter];refine aDR fun w _=>?_;simp only[aAy,aAR,Bool.decide_and];rw[Bool.and_comm]
   rw[H7];refine List.length_filter_lt_length_iff_exists.2 ⟨v,?_,sS⟩;rw[aAy];exact⟨hv2,by simpa using X8⟩
  .rw[hDR,aAd,aAk,aAy,aAR];constructor
   .rintro(h|h)
    .exact .inl (.inl h)
    .by_cases e:w=v
     .exact .inl (.inr e)
     .exact .inr ⟨h,e⟩
   .rintro((h|h)|h)
    .exact .inl h
    .rw[h];exact .inr X8
    .exact .inr h.1
 .have x8:∀ v∈g.vs,v∉R:=fun v hv hvR=>hR (XV.2 ⟨v,hv,hvR⟩);have hz:mk g.vs R=0:=(mk_zero g.vs R).2 x8;have hb:((mk g.vs R:Int) != 0)=false:=by rw[hz];rfl
  have u6:mk g.vs (arn g D)=mk g.vs (arn g A):=Mf fun v=>by rw[hDR];exact⟨.inl,fun h=>h.elim id fun h=>absurd h (x8 v (hRA v h))⟩
  rw[hz]at f1;exact xv3 f1 f5 u6
structure Brg where
 inner:List Int
 ends:List Int
def nrS(vs A:List Int):List Int:=vs.filter fun v=>decide (v∈A)
def off(A B:List Int):List Int:=A.filter fun v=>!decide (v∈B)
def on'(A B:List Int):List Int:=A.filter fun v=>decide (v∈B)
theorem Fc(vs A:List Int):mk vs (nrS vs A)=mk vs A:=mk_congr fun v hv=>by grind [nrS]
def yG(g:Gr)(on:List Int):Nat->List Int->Option Brg
 |0,_=>none
 |n+1,inner=>
  if off (off (nrS g.vs (arn g inner)) on) inner=[]then some ⟨inner,on' (nrS g.vs (arn g inner)) on⟩
  else yG g on n (nrS g.vs (inner++off (nrS g.vs (arn g inner)) on))
def sV(g:Gr)(on:List Int):Nat->List Int->Option (List Brg)
 |_,[]=>some []
 |0,_::_=>none
 |n+1,v::R=>(yG g on (g.vs.length+1) [v]).bind fun b=>(sV g on n (off (v::R) b.inner)).map (b::·)
def pF(g:Gr)(L:List (Int×Int))(on:List Int)(es:List Ed):List Brg:=
 (es.filter fun x=>decide (prP x.a x.b∉L)&&decide (x.a∈on)&&decide (x.b∈on)).map fun x=>⟨[],[x.a,x.b]⟩
def Mi(g:Gr)(L:List (Int×Int))(on:List Int):Option (List Brg):=(sV g on (g.vs.length+1) (off g.vs on)).map fun l=>pF g L on g.es++l
def mZ(vs:List Int)(l:List Brg):List LV:=l.flatMap fun b=>[wv (mk vs b.inner),wv (mk vs b.ends)]
@[simp] theorem Iq(vs:List Int):∀ l:List Brg,(mZ vs l).length=l.length*2
  |[]=>rfl
  |b::l=>by have:=Iq vs l;simp only[mZ,aAF,aAn,List.length_cons,List.length_nil]at this ⊢;omega
theorem Db(vs:List Int)(l:List Brg)(b:Brg):mZ vs l++[wv (mk vs b.inner),wv (mk vs b.ends)]=mZ vs (l++[b]):=by simp[mZ]
theorem QA{es:List (List Int×LV)}{L:List (Int×Int)}(h:es.map (·.1)=L.map pk)(p:Int×Int):(p∈L->∃ v,bN es (pk p)=some v)/\(p∉L->bN es (pk p)=none):=by
 have j5:pk p∈es.map (·.1)↔p∈L:=by
  rw[h,aAi];constructor
  .grind
  .grind
 have key:∀ es:List (List Int×LV),(pk p∈es.map (·.1)->∃ v,bN es (pk p)=some v)/\(pk p∉es.map (·.1)->bN es (pk p)=none):=by
  intro es;induction es with
  |nil=>simp[bN]
  |cons q es ih=>
   grind [bN]
 grind
theorem Nt(g:Gr)(L:List (Int×Int))(on:List Int)(es:List Ed)(j:Nat)(hj:j<es.length):
 pF g L on (es.take (j+1))=pF g L on (es.take j)++if(prP (es.getD j ed0).a (es.getD j ed0).b∉L/\(es.getD j ed0).a∈on)/\(es.getD j ed0).b∈on then [⟨[],[(es.getD j ed0).a,(es.getD j ed0).b]⟩]else []:=by
 grind [pF,List.take_succ_eq_append_getElem]
theorem MC{vs A B:List Int}(hA:∀ v∈A,v∈vs):mk vs (off A B)=0↔off A B=[]:=by
 rw[mk_zero];constructor
 .intro h;exact aBU.2 fun v hv=>h v (hA v (aAy.1 hv).1) hv
 grind
theorem DO:∀ {vs R:List Int} {v:Int},vs.Nodup->(v::R).Sublist vs->vs.getD (fst' vs (v::R)) 0=v/\fst' vs (v::R)<vs.length
 |[],R,v,_,h=>by cases h
 |w::vs,R,v,hn,h=>by
  have N8:=(aAp.1 hn);cases h with
  |cons _ h=>
   have hw:w∉v::R:=fun hw=>N8.1 (h.subset hw);obtain⟨h1,h2⟩:=DO N8.2 h;have e:fst' (w::vs) (v::R)=fst' vs (v::R)+1:=by unfold fst';rw[List.findIdx_cons];simp only[aBx,cond_eq_ite];rw[aAa hw]
   rw[e];exact⟨by simpa using h1,by simpa using h2⟩
  |cons_cons _ h=>
   have e:fst' (w::vs) (w::R)=0:=by unfold fst';rw[List.findIdx_cons];simp
   rw[e];exact⟨sS,sS⟩
theorem XY(vs:List Int)(l:List Brg):(mZ vs l).map z0=mZ vs l:=by
 induction l with
 |nil=>rfl
 |cons b l ih=>simp only[mZ,aAF,aAu]at ih ⊢;rw[ih];rfl
def Fb(t e s n:Nat)(lo:St)(st:St):Prop:=t≠0/\lo.next<=t/\t<st.next/\st.H t=.own e s n
structure ShR(g:Gr)(L:List (Int×Int))(on:List Int)(S nl pl ll:Nat)(f:LV)(le:List (List Int×LV))(st:St):Prop where
 box:st.H S=.box 136 7 [.sl 0 g.vs.length (us g.vs),.sl 0 g.es.length (eds g.es),.ms nl 0 g.vs.length,.mp pl,.mp ll,wv (mk g.vs on),f]
 near:st.H nl=.box 133 1 (mM g)
 plc:st.H pl=.map false [.u32] (wQ g.vs)
 lin:st.H ll=.map true [.u32,.u32] le
 key:le.map (·.1)=L.map pk
 lt:S<st.next/\nl<st.next/\pl<st.next/\ll<st.next
theorem ShR.keep{g:Gr}{L:List (Int×Int)}{on:List Int}{S nl pl ll:Nat}{f:LV}{le:List (List Int×LV)}{st st':St}(h:ShR g L on S nl pl ll f le st)(k:aA st st'):ShR g L on S nl pl ll f le st':=by obtain⟨a,b,c,d,e,f1,f2,f3,f4⟩:=h;have hx:=k.next;exact⟨(k.H _ f1).trans a,(k.H _ f2).trans b,(k.H _ f3).trans c,(k.H _ f4).trans d,e,oO,oO,oO,oO⟩
theorem ShR.b{g:Gr}{L:List (Int×Int)}{on:List Int}{S nl pl ll:Nat}{f:LV}{le:List (List Int×LV)}{st:St}(h:ShR g L on S nl pl ll f le st):ShB g.vs S pl st:=⟨⟨_,_,_,_,_,_,h.box⟩,h.plc⟩
theorem HL{g:Gr}{L:List (Int×Int)}{on:List Int}{S nl pl ll:Nat}{f:LV}{le:List (List Int×LV)}{st:St}(h:ShR g L on S nl pl ll f le st)(hn:g.vs.Nodup)(h64:g.vs.length<=64)(A:List Int)(hA:∀ v∈A,v∈g.vs):
 aB prog 182 [.pt S 0,wv (mk g.vs A)] st fun r st'=>r=wv (mk g.vs (arn g A))/\st'=st:=UY h.box h.near hn h64 A hA
structure GP(g:Gr):Prop extends GoodE g where
 h64:g.vs.length<=64
 he:g.es.length<=200
theorem QB{g:Gr}(hg:GP g){L:List (Int×Int)}{on:List Int}(hon:∀ v∈on,v∈g.vs){S nl pl ll:Nat}{f:LV}{le:List (List Int×LV)}{st:St}(hS:ShR g L on S nl pl ll f le st){B:List Brg}(hB:Mi g L on=some B):
 aB prog 142 [.pt S 0] st fun r st'=>r=.sl 0 B.length (mZ g.vs B)/\st'=st:=by
 refine qT (Q:=fun r=>r=.sl 0 B.length (mZ g.vs B)) (cZ ?_) fun r h=>by
  subst h;refine⟨.inl rfl,?_⟩;clear hB;induction B with
  |nil=>trivial
  |cons b B ih=>exact⟨trivial,trivial,ih⟩
 have hn:g.vs.Nodup:=hg.toGoodE.toGood.nodup;have h64:=hg.h64;have hel:=aI g.es;unfold Mi at hB;obtain⟨l2,hl2,rfl⟩:=aBj.1 hB;obtain⟨J6,hN,hP,hL,J4,q1,q2,q3,q4⟩:=id hS;refine zN func142 ntmps142 [.tmp 2] ?_;refine iF fun M3=>?_;refine xw1 J6 ?_;refine AD 3 138 2 sS ?_;have e0:¬st.next=0:=oO;have he200:=hg.he;refine bD 18 17 19 60 (g.es.length) (fun j fr st2=>fr 0=.pt S 0/\fr 16=.sl 0 g.es.length (eds g.es)/\aA st st2/\∃ t,fr 3=.sl t (pF g L on (g.es.take j)).length (mZ g.vs (pF g L on (g.es.take j)))/\Fb t 138 2 (pF g L on (g.es.take j)).length st st2) ?_ ?_ ?_
 .exact⟨sS,sS,aA.new _ _,st.next,by simp[pF,mZ],e0,aAm _,sS,by simp[pF]⟩
 .rintro j fr s dG ⟨f0,f16,hk,t,f3,t0,t1,t2,tH⟩ fi fn JO hJO;have hd:=aL g.es j dG;have u5:j*3<g.es.length*3:=oO;have T0:=Nt g L on g.es j dG;have M4:=hg.ends _ (show g.es.getD j ed0∈g.es by rw[fB _ _ dG];exact aAI _);generalize g.es.getD j ed0=ee at *;generalize hF:pF g L on (g.es.take j)=F at *;obtain⟨d,a,b⟩:=ee;simp only at T0 M4;have hS1:=(hS.keep hk).keep (aA.new s (.box 36 3 [u d,u a,u b]));obtain⟨hSb1,hN1,hP1,hL1,-,p1,p2,p3,p4⟩:=id hS1;have V5:=fun v hv=>UG (v:=v) hS1.b hn h64 hv;have hor:=Ag g.vs [a] [b] h64;simp only[List.cons_append,List.nil_append]at hor;obtain⟨hgs,hgn⟩:=QA J4 (prP a b);have hnS:¬S=s.next:=by have:=hk.next;omega
  have r8:¬ll=s.next:=by have:=hk.next;omega
  have Z0:=(hS.keep hk).box;have hL0:=(hS.keep hk).lin;have hdf:=sJ g.vs [a,b] on h64;have hwl:(F:List Brg).length<=g.es.length:=by
   have h1:=aAU (fun x=>decide (prP x.a x.b∉L)&&decide (x.a∈on)&&decide (x.b∈on)) (g.es.take j);have h2:F.length=((g.es.take j).filter (fun x=>decide (prP x.a x.b∉L)&&decide (x.a∈on)&&decide (x.b∈on))).length:=by rw[<- hF];unfold pF;rw[aAB]
   rw[aAw]at h1;omega
  refine xw8 f0 f16 fi fn hd hel u5 dG ?_
  (refine zS [] [s.next] [0,2,4,8,10,12,6,14,16,18] ?_;intro J hJ;simp[f0])
  refine xdP (V5 a M4.1) ?_;refine⟨fun h=>by first|(cases h;done)|exact fun _ _=>rfl|simp,?_⟩
  (apply bI;simp[])
  refine xdP (V5 b M4.2) ?_;refine⟨fun h=>by first|(cases h;done)|exact fun _ _=>rfl|simp,?_⟩
  (apply bI;simp[hor];refine zJ hJ ?_)
  (repeat (apply qS))
  (refine zS [] [S,s.next,ll] [0,2,4,6,8,10,12,14,16,18,20,22,24,26,28] ?_;intro J hJ;simp[f0,Z0,hnS])
  refine xdP (pair a b _) ?_;refine⟨fun h=>by first|(cases h;done)|exact fun _ _=>rfl|simp,?_⟩;have c1:¬t=s.next:=oO;have c2:¬t=s.next+1:=oO;have c3:¬s.next=t:=oO;have hFs:=Db g.vs F ⟨[],[a,b]⟩;have hz0:mk g.vs []=0:=(mk_zero g.vs []).2 fun _ _=>by simp
  simp only[hz0]at hFs;by_cases hp:prP a b∈L
  .obtain⟨v,hv⟩:=hgs hp;have hv:bN le [min a b,max a b]=some v:=hv;rw[aAa (sF1 hp),aAO]at T0
   (apply bI;simp[hL0,r8,hv];refine zJ hJ ?_)
   refine xw0 ?_;exact hJO _ _ (sF1 fi) (sF1 fn) ⟨sF1 f0,sF1 f16,hk.trans (aA.new _ _),t,by rw[T0];simp[f3],t0,t1,by simp;omega,by rw[T0];(repeat (first|rw[nHh nOo]|rw[sHh oO]|rw[nIi nQq]|rw[sIi oO]));exact tH⟩
  .have hv:bN le [min a b,max a b]=none:=hgn hp;by_cases hc:a∈on/\b∈on
   .rw[aAj ⟨⟨hp,hc.1⟩,hc.2⟩]at T0;have hz:mk g.vs (off [a,b] on)=0:=(mk_zero _ _).2 fun v _ h=>by
     simp only[off,aAy,aAe,aCa,aDx,Bool.not_eq_true',aCf]at h;rcases h.1 with e|e
     .exact h.2 (by rw[e];exact hc.1)
     .exact h.2 (by rw[e];exact hc.2)
    have hdz:gX .u64 (mk g.vs [a,b]) (mk g.vs on)=0:=by rw[hdf];exact congrArg Int.ofNat hz
    (apply bI;simp[hL0,r8,hv];refine zJ hJ ?_)
    (repeat' (first|apply qS|(apply qC;simp[Z0,f0,hnS,hdz,f3,tH,t0,c1,c2,c3])|(refine zE ?_;intro J hJ;simp[Z0,f0,hnS,hdz,f3,tH,t0,c1,c2,c3];(repeat refine ca ?_);refine zJ hJ ?_)))
    exact hJO _ _ (sF1 fi) (sF1 fn) ⟨sF1 f0,sF1 f16,((hk.trans (aA.new _ _)).trans (aA.new _ _)).set t1 _ |>.trans (aA.new _ _),s.next+2,by rw[T0,<- hFs];simp,oO,oO,sS,by rw[T0];simp⟩
   .rw[aAa (by intro h;exact hc ⟨h.1.2,h.2⟩),aAO]at T0;have hz:mk g.vs (off [a,b] on)≠0:=fun h=>by rw[mk_zero]at h;have ha:=h a M4.1;have hb:=h b M4.2;simp[off]at ha hb;exact hc ⟨ha,hb⟩
    have hdz:(gX .u64 (mk g.vs [a,b]) (mk g.vs on)==0)=false:=by rw[hdf];simpa[off]using hz
    (apply bI;simp[hL0,r8,hv];refine zJ hJ ?_)
    refine xw4 Z0 f0 hnS hdz ?_;exact hJO _ _ (sF1 fi) (sF1 fn) ⟨sF1 f0,sF1 f16,hk.trans (aA.new _ _),t,by rw[T0];simp[f3],t0,t1,by simp;omega,by rw[T0];(repeat (first|rw[nHh nOo]|rw[sHh oO]|rw[nIi nQq]|rw[sIi oO]));exact tH⟩
 .rintro fr s ⟨f0,f16,hk,t,f3,t0,t1,t2,tH⟩;rw[aBe]at f3 tH;have hE1:(pF g L on g.es).length<=200:=by have h1:=aAU (fun x=>decide (prP x.a x.b∉L)&&decide (x.a∈on)&&decide (x.b∈on)) g.es;unfold pF;rw[aAB];omega
  generalize pF g L on g.es=E1 at *;have hSk:=hS.keep hk;have Z0:=hSk.box;have hdf:=sJ g.vs g.vs on h64;have hsv:=fun st' (h:ShB g.vs S pl st')=>Xj h hn h64 g.vs 0 (fun v h=>h) oO;refine xw0 ?_
  (refine zS [] [S] [0,2,4,6,8,10,14,16,18,20,12,22,24] ?_;intro J hJ;simp[f0,Z0])
  refine xdP (hsv _ hSk.b) ?_;refine⟨fun h=>by first|(cases h;done)|exact fun _ _=>rfl|simp,?_⟩
  (apply bI;simp[Z0,hdf];refine zJ hJ ?_)
  (repeat (first|apply qS|apply qB))
  refine qL (fun n fr st'=>∃ R l l2',sV g on n R=some l2'/\l2=l++l2'/\l.length+n<=g.vs.length+1/\R.Sublist g.vs/\fr 0=.pt S 0/\fr 9=wv (mk g.vs R)/\aA st st'/\∃ t,fr 3=.sl t (E1++l).length (mZ g.vs (E1++l))/\Fb t 138 2 (E1++l).length st st') (g.vs.length+1) ?_ ?_
  .exact⟨off g.vs on,[],l2,hl2,rfl,sS,aAP,sF1 f0,by simp[off],hk,t,sF1 f3,t0,t1,t2,by simpa using tH⟩
  .clear f0 f16 hk f3 t0 t1 t2 tH hSk Z0 fr s;rintro n fr s ⟨R,l,l2',hr,rfl,hln,H7,f0,f9,hk,t,f3,t0,t1,t2,tH⟩ JJ hJJ;have hSk:=hS.keep hk;obtain⟨Z0,hN0,-,-,-,p1,p2,p3,p4⟩:=id hSk;have hRv:∀ v∈R,v∈g.vs:=fun v hv=>H7.subset hv;cases R with
   |nil=>
    have hz:mk g.vs []=0:=(mk_zero g.vs []).2 fun _ _=>by simp
    rw[hz]at f9;have hl2':l2'=[]:=by cases n<;>simpa[sV]using hr.symm
    subst hl2';rw[aAO];refine xw2 f9 f3 ?_;exact⟨by simp[z0,oR,XY],hk⟩
   |cons v R=>
    obtain⟨hfv,hflt⟩:=DO hn H7;have Zo:=EX hflt;have hb:((mk g.vs (v::R):Int) != 0)=true:=by simpa using Zo
    have U6:=Xb h64 hn hflt;rw[hfv,Int.zero_sub]at U6;cases n with
    |zero=>simp[sV]at hr
    |succ n=>
     rw[sV]at hr;obtain⟨b,hgb,hr⟩:=aBw.1 hr;obtain⟨l3,hr3,rfl⟩:=aBj.1 hr;have hvv:∀ w∈[v],w∈g.vs:=fun w hw=>by rw[aAk]at hw;rw[hw];exact hRv v sS
     (refine xj4 f0 f9 hb U6 ?_;intro J hJ)
     refine xcP (HL hSk hn h64 [v] hvv) ?_
     (apply cS;simp[];refine zJ hJ ?_)
     (repeat (first|apply qS|apply qB))
     refine qL (fun m fr st'=>∃ inner,yG g on m inner=some b/\(∀ w∈inner,w∈g.vs)/\fr 0=.pt S 0/\fr 9=wv (mk g.vs (v::R))/\fr 3=.sl t (E1++l).length (mZ g.vs (E1++l))/\fr 10=wv (mk g.vs inner)/\fr 11=wv (mk g.vs (arn g inner))/\st'=s) (g.vs.length+1) ?_ ?_
     .exact⟨[v],hgb,hvv,sF1 f0,sF1 f9,sF1 f3,sS,sS,rfl⟩
     .clear f0 f9 f3 fr;rintro m fr s3 ⟨inner,hgi,hiv,f0,f9,f3,f10,f11,hs3⟩ JI hJI;subst hs3;cases m with
      |zero=>simp[yG]at hgi
      |succ m=>
       have hRR:∀ w∈nrS g.vs (arn g inner),w∈g.vs:=fun w hw=>(aAy.1 hw).1;rw[<- Fc]at f11;rw[yG]at hgi;generalize nrS g.vs (arn g inner)=RR at *;have y9:gX .u64 (mk g.vs RR) (mk g.vs on)=mk g.vs (off RR on):=sJ g.vs RR on h64;have K8:gX .u64 (mk g.vs (off RR on)) (mk g.vs inner)=mk g.vs (off (off RR on) inner):=sJ g.vs _ inner h64;by_cases hc:off (off RR on) inner=[]
       .rw[aAj hc]at hgi;have Y2:b=⟨inner,on' RR on⟩:=by simpa using hgi.symm
        subst Y2;have hz:mk g.vs (off (off RR on) inner)=0:=by rw[hc];exact(mk_zero g.vs []).2 fun _ _=>by simp
        have T7:((mk g.vs (off (off RR on) inner):Int) != 0)=false:=by rw[hz];rfl
        have hd3:wM .u64 (mk g.vs RR) (mk g.vs on)=mk g.vs (on' RR on):=SI g.vs RR on h64;have hd4:gX .u64 (mk g.vs (v::R)) (mk g.vs inner)=mk g.vs (off (v::R) inner):=sJ g.vs _ inner h64;have c1:¬t=s3.next:=oO;have c2:¬s3.next=t:=oO;have hFs:=Db g.vs (E1++l) ⟨inner,on' RR on⟩;have u7:(E1++l).length<=300:=by rw[aAn];have:=hg.h64;omega
        rw[aAD]at hFs;have hlen:(E1++l).length+1=(E1++(l++[(⟨inner,on' RR on⟩:Brg)])).length:=by simp;omega
        generalize hEl:E1++l=El at *
        (repeat' (first|apply qS|refine qX (zZ ?_)|(apply qC;simp[f0,f9,f10,f11,f3,Z0,y9,K8,T7,hd3,hd4,tH,t0,c1,c2])|(refine zE ?_;intro J hJ;simp[f0,f9,f10,f11,f3,Z0,y9,K8,T7,hd3,hd4,tH,t0,c1,c2];(repeat refine ca ?_);refine zJ hJ ?_)))
        exact hJJ _ _ _ (aDa n) ⟨off (v::R) inner,l++[⟨inner,on' RR on⟩],l3,hr3,sS,by simp;omega,aAP.trans H7,sF1 f0,sS,((hk.trans (aA.new _ _)).set t1 _).trans (aA.new _ _),s3.next+1,by rw[<- hFs,<- hlen];simp,oO,oO,sS,by rw[<- hlen];simp⟩
       .rw[aAa hc]at hgi;have hz:mk g.vs (off (off RR on) inner)≠0:=fun h=>hc ((MC fun w hw=>hRR w (aAy.1 hw).1).1 h);have T7:((mk g.vs (off (off RR on) inner):Int) != 0)=true:=by simpa using hz
        have hor:gor .u64 (mk g.vs inner) (mk g.vs (off RR on))=mk g.vs (nrS g.vs (inner++off RR on)):=by rw[Ag _ _ _ h64,Fc]
        have hnv:∀ w∈nrS g.vs (inner++off RR on),w∈g.vs:=fun w hw=>(aAy.1 hw).1;generalize nrS g.vs (inner++off RR on)=IN at *
        (refine xj8 f0 f10 f11 Z0 y9 K8 T7 hor ?_;intro J hJ)
        refine xcP (HL hSk hn h64 IN hnv) ?_
        (apply cS;simp[];refine zJ hJ ?_)
        exact hJI _ _ _ (aDa m) ⟨IN,hgi,hnv,sF1 f0,sF1 f9,sF1 f3,sS,sS,rfl⟩
def gW(vs:List Int)(F:List (List Int)):List LV:=F.flatMap fun r=>[.sl 0 r.length (us r),wv (mk vs r)]
@[simp] theorem qI(vs:List Int):∀ F:List (List Int),(gW vs F).length=F.length*2
  |[]=>rfl
  |r::F=>by have:=qI vs F;simp only[gW,aAF,aAn,List.length_cons,List.length_nil]at this ⊢;omega
theorem rQ(vs:List Int):∀(F:List (List Int)) (k:Nat),k<F.length->(gW vs F).drop (k*2)=.sl 0 (F.getD k []).length (us (F.getD k []))::wv (mk vs (F.getD k []))::gW vs (F.drop (k+1))
 |r::F,0,_=>by simp[gW]
 |r::F,k+1,h=>by have:=rQ vs F k (by simpa using h);rw[show(k+1)*2=k*2+2 by omega];simp only[gW,aAF,List.cons_append,List.nil_append,aDK]at this ⊢;rw[this];simp
 |[],k,h=>by simp at h
theorem Df(vs:List Int):∀(B:List Brg) (k:Nat),k<B.length->(mZ vs B).drop (k*2)=wv (mk vs (B.getD k ⟨[],[]⟩).inner)::wv (mk vs (B.getD k ⟨[],[]⟩).ends)::mZ vs (B.drop (k+1))
 |r::F,0,_=>by simp[mZ]
 |r::F,k+1,h=>by have:=Df vs F k (by simpa using h);rw[show(k+1)*2=k*2+2 by omega];simp only[mZ,aAF,List.cons_append,List.nil_append,aDK]at this ⊢;rw[this];simp
 |[],k,h=>by simp at h
def nQ(b:Brg)(p:Int×Int)(r:List Int×Nat):Int×Int:=if off b.ends r.1=[]then(if p.2=0 then(r.2:Int)else p.1,p.2+1)else p
def bZ(b:Brg)(F:List (List Int×Nat)):Int×Int:=F.foldl (nQ b) (-1,0)
def bG(F:List (List Int)):List Brg->Brg×Int->Brg×Int
 |[],J3=>J3
 |b::l,J3=>if(bZ b F.zipIdx).2<=1 then(b,(bZ b F.zipIdx).1)else bG F l (if J3.2<0 then(b,(bZ b F.zipIdx).1)else J3)
theorem Bc(b:Brg)(F:List (List Int))(k:Nat)(hk:k<F.length):bZ b (F.zipIdx.take (k+1))=nQ b (bZ b (F.zipIdx.take k)) (F.getD k [],k):=by
 unfold bZ;have hz:k<F.zipIdx.length:=by simpa using hk
 rw[aAs hz,aBI,List.getElem_zipIdx,aAg,aAh hk];simp
theorem CH(b:Brg):∀(F:List (List Int×Nat)),0<=(bZ b F).2/\(bZ b F).2<=F.length:=by
 have key:∀(F:List (List Int×Nat)) (p:Int×Int),0<=p.2->0<=(F.foldl (nQ b) p).2/\(F.foldl (nQ b) p).2<=p.2+F.length:=by
  intro F;induction F with
  |nil=>intro p h;simpa using h
  |cons r F ih=>
   intro p h;have h1:0<=(nQ b p r).2/\(nQ b p r).2<=p.2+1:=by unfold nQ;by_cases e:off b.ends r.1=[];(· rw[aAj e];simp only;omega);(· rw[aAa e];omega)
   have:=ih (nQ b p r) h1.1;rw[List.foldl_cons,List.length_cons];omega
 intro F;have:=key F (-1,0) sS;unfold bZ;simp only at this;omega
structure ShA(g:Gr)(L:List (Int×Int))(on:List Int)(F:List (List Int))(S nl pl ll fl:Nat)(le:List (List Int×LV))(st:St):Prop where
 r:ShR g L on S nl pl ll (.ms fl 0 F.length) le st
 fac:st.H fl=.box 144 2 (gW g.vs F)
 flt:fl<st.next
 sub:∀ r∈F,∀ v∈r,v∈g.vs
 onv:∀ v∈on,v∈g.vs
 few:F.length<=300
theorem ShA.keep{g:Gr}{L:List (Int×Int)}{on:List Int}{F:List (List Int)}{S nl pl ll fl:Nat}{le:List (List Int×LV)}{st st':St}(h:ShA g L on F S nl pl ll fl le st)(k:aA st st'):ShA g L on F S nl pl ll fl le st':=
 ⟨h.r.keep k,(k.H _ h.flt).trans h.fac,aAr h.flt k.next,h.sub,h.onv,h.few⟩
abbrev TO(vs:List Int)(b:Brg):LV:=.ag [wv (mk vs b.inner),wv (mk vs b.ends)]
theorem TX{g:Gr}(hg:GP g){L:List (Int×Int)}{on:List Int}{F:List (List Int)}{S nl pl ll fl:Nat}{le:List (List Int×LV)}{st:St}(hS:ShA g L on F S nl pl ll fl le st){B:List Brg}(hB:Mi g L on=some B)(hBe:∀ b∈B,∀ v∈b.ends,v∈g.vs)(hBl:B.length<=300):
 aB prog 101 [.pt S 0] st fun r st'=>r=.tu [TO g.vs (bG F B (⟨[],[]⟩,-1)).1,i (bG F B (⟨[],[]⟩,-1)).2]/\st'=st:=by
 refine qT (Q:=fun r=>r=.tu [TO g.vs (bG F B (⟨[],[]⟩,-1)).1,i (bG F B (⟨[],[]⟩,-1)).2]) ?_ fun r h=>by subst h;exact⟨⟨trivial,trivial,trivial⟩,trivial,trivial⟩
 have h64:=hg.h64;have hz:mk g.vs []=0:=(mk_zero g.vs []).2 fun _ _=>by simp
 have hq:=hS.r.lt;refine zN func101 ntmps101 [.cell 2 138,.tmp 3] ?_
 (refine xj0 ?_;intro J hJ)
 refine xcP (QB hg hS.onv (hS.r.keep ((aA.new _ _).trans (aA.new _ _))) hB) ?_;refine dA hJ ?_;have e0:¬st.next=st.next+1:=oO;have P0:=Iq g.vs B;have U4:=qI g.vs F;have hfew:=hS.few;generalize hCC:bG F B (⟨[],[]⟩,-1)=CC;refine bD 15 14 16 49 (B.length) (fun j fr st2=>fr 0=.pt S 0/\fr 2=.pt st.next 0/\fr 4=.pt (st.next+1) 0/\fr 13=.sl 0 B.length (mZ g.vs B)/\aA st st2/\st.next+1<st2.next/\st2.H st.next=.box 138 2 [wv 0,wv 0]/\∃ J3 at_,fr 5=i at_/\st2.H (st.next+1)=.box 138 2 [wv (mk g.vs J3.inner),wv (mk g.vs J3.ends)]/\bG F (B.drop j) (J3,at_)=CC) ?_ ?_ ?_
 .exact⟨sS,sS,sS,sS,(aA.new _ _).trans (aA.new _ _),sS,sF1 e0,⟨[],[]⟩,-1,sS,sF1 hz,hCC⟩
 .rintro jo fr s dG ⟨f0,f2,f4,f13,hk,T0,hR,J3,at_,f5,hB5,S7⟩ fi fn JO hJO;have hd:=Df g.vs B jo dG;have o8:jo*2<B.length*2:=oO;rw[aAL dG,bG]at S7;have hbm:B.getD jo ⟨[],[]⟩=B[jo]:=by rw[aAg,aAh dG];rfl
  have Y2:=hBe _ (aAI dG);rw[hbm]at hd;generalize B[jo]=b at *;have hSk:=hS.keep hk;obtain⟨J6,-,-,-,-,p1,p2,p3,p4⟩:=id hSk.r;have hF:=hSk.fac;have hFl:=hSk.flt;have x1:¬S=s.next:=oO;have x2:¬fl=s.next:=oO;have x3:¬st.next=s.next:=oO;have x4:¬st.next+1=s.next:=oO;refine EW f0 f13 fi fn hd o8 P0 dG J6 x1 ?_;refine bD 24 23 25 40 (F.length) (fun j fr st2=>fr 0=.pt S 0/\fr 2=.pt st.next 0/\fr 4=.pt (st.next+1) 0/\fr 13=.sl 0 B.length (mZ g.vs B)/\fr 14=i B.length/\fr 15=i jo/\fr 5=i at_/\fr 7=.pt s.next 0/\fr 22=.ms fl 0 F.length/\fr 8=i (bZ b (F.zipIdx.take j)).1/\fr 9=i (bZ b (F.zipIdx.take j)).2/\aA (s.new (.box 138 2 [wv (mk g.vs b.inner),wv (mk g.vs b.ends)])) st2) ?_ ?_ ?_
  .exact⟨sF1 f0,sF1 f2,sF1 f4,sF1 f13,sF1 fn,sF1 fi,sF1 f5,sS,sS,by simp[bZ],by simp[bZ],aA.refl _⟩
  .clear f0 f2 f4 f13 f5 fi fn fr;rintro k fr s2 Z4 ⟨f0,f2,f4,f13,f14,f15,f5,f7,f22,f8,f9,u5⟩ fi fn JI hJI;have hn3:=u5.next;simp only[aG]at hn3;have V2:s2.H s.next=.box 138 2 [wv (mk g.vs b.inner),wv (mk g.vs b.ends)]:=by rw[u5.H _ sS];simp
   have hF2:s2.H fl=.box 144 2 (gW g.vs F):=by rw[u5.H _ (by simp;omega),cE,aAa x2];exact hF
   have hdF:=rQ g.vs F k Z4;have K0:=Bc b F k Z4;have u7:=CH b (F.zipIdx.take k);rw[aAw,List.length_zipIdx]at u7;generalize F.getD k []=rr at *;generalize hpp:bZ b (F.zipIdx.take k)=pp at *;obtain⟨p1',p2'⟩:=pp;simp only at u7 f8 f9;have hk22:k*2<F.length*2:=oO;have hdf:gX .u64 (mk g.vs b.ends) (mk g.vs rr)=mk g.vs (off b.ends rr):=sJ g.vs b.ends rr h64;have y1:¬s.next=s2.next:=oO;have y2:¬fl=s2.next:=oO;have hw:=wrap_i64 (p2'+1) oO oO;unfold nQ at K0;by_cases S9:off b.ends rr=[]
   .have hb:((mk g.vs (off b.ends rr):Int) != 0)=false:=by rw[S9,hz];rfl
    rw[aAj S9]at K0;simp only at K0;by_cases h0:p2'=0
    .have hb0:(p2'==0)=true:=by simpa using h0
     rw[aAj h0]at K0;refine Ys f7 f22 f8 f9 fi fn hdF hF2 Z4 hk22 U4 V2 y1 y2 hdf hb hb0 hw ?_;exact hJI _ _ (sF1 fi) (sF1 fn) ⟨sF1 f0,sF1 f2,sF1 f4,sF1 f13,sF1 f14,sF1 f15,sF1 f5,sF1 f7,sF1 f22,by rw[K0];simp,by rw[K0];simp,u5.trans (aA.new _ _)⟩
    .have hb0:(p2'==0)=false:=by simpa using h0
     rw[aAa h0]at K0;refine Ys f7 f22 f8 f9 fi fn hdF hF2 Z4 hk22 U4 V2 y1 y2 hdf hb hb0 hw ?_;exact hJI _ _ (sF1 fi) (sF1 fn) ⟨sF1 f0,sF1 f2,sF1 f4,sF1 f13,sF1 f14,sF1 f15,sF1 f5,sF1 f7,sF1 f22,by rw[K0];simp[f8],by rw[K0];simp,u5.trans (aA.new _ _)⟩
   .have hb:((mk g.vs (off b.ends rr):Int) != 0)=true:=by have:mk g.vs (off b.ends rr)≠0:=fun h=>S9 ((MC Y2).1 h);simpa using this
    rw[aAa S9]at K0;refine PL f7 f22 f8 f9 fi fn hdF hF2 Z4 hk22 U4 V2 y1 y2 hdf hb ?_;exact hJI _ _ (sF1 fi) (sF1 fn) ⟨sF1 f0,sF1 f2,sF1 f4,sF1 f13,sF1 f14,sF1 f15,sF1 f5,sF1 f7,sF1 f22,by rw[K0];simp[f8],by rw[K0];simp[f9],u5.trans (aA.new _ _)⟩
  .clear f0 f2 f4 f13 f5 fi fn fr;rintro fr s2 ⟨f0,f2,f4,f13,f14,f15,f5,f7,f22,f8,f9,u5⟩;rw[aAv sS]at f8 f9;have u7:=CH b F.zipIdx;generalize hpp:bZ b F.zipIdx=pp at *;obtain⟨p1',p2'⟩:=pp;simp only at u7 f8 f9 S7;have hn3:=u5.next;simp only[aG]at hn3;have V2:s2.H s.next=.box 138 2 [wv (mk g.vs b.inner),wv (mk g.vs b.ends)]:=by rw[u5.H _ sS];simp
   have hR2:s2.H st.next=.box 138 2 [wv 0,wv 0]:=by rw[u5.H _ (by simp;omega),cE,aAa x3];exact hR
   have hB2:s2.H (st.next+1)=.box 138 2 [wv (mk g.vs J3.inner),wv (mk g.vs J3.ends)]:=by rw[u5.H _ (by simp;omega),cE,aAa x4];exact hB5
   have Y7:=(hk.trans (aA.new _ _)).trans u5;have z1:¬s.next=st.next:=oO;have z2:¬st.next+1=st.next:=oO;by_cases I7:p2'<=1
   .rw[aAj I7]at S7;subst S7;refine xw8 f2 f7 f8 f9 I7 V2 hR2 z1 ?_;exact Y7.set (aAm _) _
   .rw[aAa I7]at S7;by_cases S8:at_<0
    .rw[aAj S8]at S7;refine xw9 f4 f5 f7 f8 f9 I7 S8 V2 hB2 ?_;exact hJO _ _ (sF1 f15) (sF1 f14) ⟨sF1 f0,sF1 f2,sF1 f4,sF1 f13,Y7.set oO _,by simp;omega,by(repeat (first|rw[nHh nOo]|rw[sHh oO]|rw[nIi nQq]|rw[sIi oO]));exact hR2,b,p1',sS,sS,S7⟩
    .rw[aAa S8]at S7;refine xw7 f4 f5 f7 f8 f9 I7 S8 ?_;exact hJO _ _ (sF1 f15) (sF1 f14) ⟨sF1 f0,sF1 f2,sF1 f4,sF1 f13,Y7,oO,hR2,J3,at_,sF1 f5,hB2,S7⟩
 .rintro fr s ⟨f0,f2,f4,f13,hk,T0,hR,J3,at_,f5,hB5,S7⟩;rw[aDW,bG]at S7;subst S7;have z1:¬st.next+1=st.next:=oO;refine xw6 f2 f4 f5 hB5 hR z1 ?_;exact hk.set (aAm _) _
theorem AR{α:Type}(f:α->Int):∀ {a b:List α},(a.map f).Pairwise (· < ·)->(b.map f).Pairwise (· < ·)->(∀ x,x∈a↔x∈b)->a=b
 |[],[],_,_,_=>rfl
 |[],y::b,_,_,h=>by have:=(h y).2 sS;grind
 |x::a,[],_,_,h=>by have:=(h x).1 sS;grind
 |x::a,y::b,ha,hb,h=>by
  simp only[aAl,aBk,aAi,forall_exists_index,and_imp,forall_apply_eq_imp_iff₂]at ha hb;have G8:x=y:=by
   rcases aAe.1 ((h x).1 sS)with h1|h1
   .omega
   .grind
  subst G8
  congr 1
  refine AR f ha.2 hb.2 fun z=>?_
  grind
section
variable {α:Type} (f:α->Int)
end
theorem yI{α:Type}{P:List α->Prop}(h0:P [])(h1:∀ l x,P l->P (l++[x]))(l:List α):P l:=by
 rw[<- aCC l];generalize l.reverse=r;induction r with
 |nil=>grind
 |cons x r ih=>grind
def bes(x y:Ed):Bool:=decide (x.a=y.a/\x.b=y.b\/x.a=y.b/\x.b=y.a)
theorem rP{x y:Ed}:bes x y=true↔(x.a=y.a/\x.b=y.b\/x.a=y.b/\x.b=y.a):=by simp[bes]
theorem uC{x y:Ed}(h:bes x y=true):bes y x=true:=by
 grind [rP]
theorem Gh(x:Ed):bes x x=true:=by grind [rP]
theorem xQ{x y z:Ed}(h:bes x y=true)(k:bes y z=true):bes x z=true:=by
 rw[rP]at h k ⊢;rcases h with⟨h1,h2⟩|⟨h1,h2⟩<;>rcases k with⟨k1,k2⟩|⟨k1,k2⟩
 .omega
 .omega
 .omega
 omega
def sE(l:List Ed):List Ed:=l.foldl (fun acc x=>if acc.any (bes x)then acc else acc++[x]) []
theorem mC(l:List Ed)(x:Ed):sE (l++[x])=if(sE l).any (bes x)then sE l else sE l++[x]:=by
 grind [sE]
theorem iT(l:List Ed):∀ x∈sE l,x∈l:=by
 induction l using yI with
 |h0=>simp[sE]
 |h1 l x ih=>
  grind [mC]
theorem KX(l:List Ed):∀ x∈l,∃ y∈sE l,bes x y=true:=by
 induction l using yI with
 |h0=>simp
 |h1 l x ih=>
  intro y hy;rw[mC];rcases aAd.1 hy with h|h
  .grind
  .rw[aAk]at h;subst h
   split
   .grind
   .exact⟨y,aAx _ sS,Gh y⟩
theorem oA(l:List Ed):(sE l).length<=l.length:=by
 induction l using yI with
 |h0=>simp[sE]
 |h1 l x ih=>
  grind [mC]
theorem Ho(l:List Ed):(sE l).Pairwise fun x y=>bes x y=false:=by
 induction l using yI with
 |h0=>simp[sE]
 |h1 l x ih=>
  grind [mC,uC]
abbrev hf(x:Ed):List (Int×Int):=[(x.a,x.b),(x.b,x.a)]
def hfs(l:List Ed):List (Int×Int):=l.flatMap hf
theorem PY(l:List Ed)(x:Ed):hfs (l++[x])=hfs l++[(x.a,x.b)]++[(x.b,x.a)]:=by simp[hfs]
theorem FB(l:List Ed):(hfs l).length=2*l.length:=by
 induction l with
 |nil=>rfl
 |cons x l ih=>grind [hfs]
theorem Tb{l:List Ed}{p:Int×Int}:p∈hfs l↔∃ x∈l,(x.a=p.1/\x.b=p.2)\/(x.b=p.1/\x.a=p.2):=by
 grind [hfs]
def nbH(v:Int)(H:List (Int×Int)):List Int:=(H.filter fun p=>decide (p.1=v)).map (·.2)
theorem Hj(v:Int)(H:List (Int×Int))(p:Int×Int):nbH v (H++[p])=nbH v H++if p.1=v then [p.2]else []:=by
 grind [nbH]
theorem AP(v:Int)(H:List (Int×Int)):(nbH v H).length<=H.length:=by
 grind [nbH]
theorem TN{v w:Int}{H:List (Int×Int)}:w∈nbH v H↔(v,w)∈H:=by unfold nbH;simp_all
def NC(x:Int):List Int->List Int
 |[]=>[x]
 |y::l=>if x<=y then x::y::l else y::NC x l
def srt:List Int->List Int
 |[]=>[]
 |x::l=>NC x (srt l)
theorem DJ(x:Int)(l:List Int):(NC x l).Perm (x::l):=by
 induction l with
 |nil=>exact .refl _
 |cons y l ih=>
  grind [NC]
theorem pO(l:List Int):(srt l).Perm l:=by
 induction l with
 |nil=>exact .refl _
 |cons x l ih=>exact(DJ x _).trans (ih.cons x)
theorem GY(x:Int){l:List Int}(h:l.Pairwise (·<=·)):(NC x l).Pairwise (·<=·):=by
 induction l with
 |nil=>exact aDo _ _
 |cons y l ih=>
  grind [List.pairwise_cons,NC,DJ]
theorem Jv(l:List Int):(srt l).Pairwise (·<=·):=by
 induction l with
 |nil=>exact .nil
 |cons x l ih=>exact GY x ih
theorem sX:∀ {a b:List Int},a.Pairwise (·<=·)->b.Pairwise (·<=·)->a.Perm b->a=b
 |[],b,_,_,h=>by simp_all
 |x::a,[],_,_,h=>absurd h.symm.nil_eq sS
 |x::a,y::b,ha,hb,h=>by
  obtain⟨a1,a2⟩:=aBk.1 ha;obtain⟨b1,b2⟩:=aBk.1 hb;have G8:x=y:=by
   have h1:x∈y::b:=h.mem_iff.1 sS;have h2:y∈x::a:=h.mem_iff.2 sS;rcases aAe.1 h1 with h1|h1
   .omega
   .grind
  subst G8;rw[sX a2 b2 ((List.perm_cons x).1 h)]
theorem Wq{c l:List Int}(h:c.Perm l)(hs:c.Pairwise (·<=·)):c=srt l:=sX hs (Jv l) (h.trans (pO l).symm)
def cR(es:List Ed)(v:Int):List Int:=srt (nbH v (hfs (sE es)))
def adj(es:List Ed)(v w:Int):Prop:=∃ x∈es,(x.a=v/\x.b=w)\/(x.a=w/\x.b=v)
theorem Mz{es:List Ed}{v w:Int}:w∈cR es v↔adj es v w:=by
 unfold cR;rw[(pO _).mem_iff,TN,Tb];constructor
 .rintro⟨x,hx,h⟩;refine⟨x,iT _ _ hx,?_⟩;omega
 .rintro⟨x,hx,h⟩;obtain⟨y,hy,hb⟩:=KX _ _ hx;refine⟨y,hy,?_⟩;rw[rP]at hb;rcases h with⟨h1,h2⟩|⟨h1,h2⟩<;>rcases hb with⟨b1,b2⟩|⟨b1,b2⟩
  .omega
  .omega
  .omega
  omega
instance (es:List Ed) (v w:Int):Decidable (adj es v w):=by unfold adj;exact inferInstance
theorem Nb(es:List Ed)(v:Int):(cR es v).length<=2*es.length:=by
 have h1:=(pO (nbH v (hfs (sE es)))).length_eq
 grind [AP,FB,oA,cR]
end Aw
end Go.Proofs.YtbgngpdonpeboaaGreatDoor
