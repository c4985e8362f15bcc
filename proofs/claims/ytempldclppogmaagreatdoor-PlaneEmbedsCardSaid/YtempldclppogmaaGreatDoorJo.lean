/- Blocks: rows of edges and rows of blocks in order. -/
import Derived.Test.YtempldclppogmaaGreatDoorJn
import Derived.Test.YtempldclppogmaaGreatDoorAwFz
import Derived.Test.YtempldclppogmaaGreatDoorAwRg
import Derived.Test.YtempldclppogmaaGreatDoorAwZ
import Derived.Test.YtempldclppogmaaGreatDoorAwFr
set_option linter.unusedVariables false
set_option linter.unusedSimpArgs false
set_option maxHeartbeats 8000000
open Go.Proofs.Tryz
namespace Go.Proofs.YtempldclppogmaaGreatDoor
namespace Aw
open Go Go.RowKit Pl Eu
def nC(x y:Int):Int:=if x<y then -1 else if y<x then 1 else 0
theorem Fe(x y:Int):nC x y<0↔x<y:=by
 unfold nC;by_cases h1:x<y
 .rw[aAe h1];omega
 .rw[aAa h1];by_cases h2:y<x
  .rw[aAe h2];omega
  .rw[aAa h2];omega
theorem HQ(x y:Int)(st:St):aB prog 64 [u x,u y] st fun r st'=>r=i (nC x y)/\st'=st:=by
 refine zN func64 ntmps64 [.tmp 4] ?_
 (repeat' (first|apply qS|(refine zE ?_;intro J hJ;simp[];(try refine zJ hJ ?_))))
 refine qF (isNaN x _) ?_;rintro r st' ⟨rfl,rfl⟩
 (repeat' (first|apply qS|((first|(refine zE ?_;intro J hJ)|(apply aD));simp[];(try refine zJ hJ ?_))))
 refine qF (isNaN y _) ?_;rintro r st' ⟨rfl,rfl⟩;by_cases h1:x<y
 ·(repeat' (first|apply qS|refine qK (zZ ?_)|(refine qR (zZ ?_);simp[h1,nC])|(apply qC;simp[h1,nC])|((first|(refine zE ?_;intro J hJ)|(apply aD));simp[h1,nC];refine zJ hJ ?_)))
 .by_cases h2:y<x
  ·(repeat' (first|apply qS|refine qK (zZ ?_)|(refine qR (zZ ?_);simp[h1,h2,nC])|(apply qC;simp[h1,h2,nC])|((first|(refine zE ?_;intro J hJ)|(apply aD));simp[h1,h2,nC];refine zJ hJ ?_)))
  ·(repeat' (first|apply qS|refine qK (zZ ?_)|(refine qR (zZ ?_);simp[h1,h2,nC])|(apply qC;simp[h1,h2,nC])|((first|(refine zE ?_;intro J hJ)|(apply aD));simp[h1,h2,nC];refine zJ hJ ?_)))
theorem VH(x y:Ed)(st:St):aB prog 146 [.ag (edL x),.ag (edL y)] st fun r st'=>r=i (nC x.id y.id)/\st'=st:=by
 refine qT (Q:=fun r=>r=i (nC x.id y.id)) ?_ fun r h=>by subst h;trivial
 obtain⟨xi,xa,xb⟩:=x;obtain⟨yi,ya,yb⟩:=y;refine zN func146 ntmps146 [.tmp 4] ?_
 (repeat' (first|apply qS|(refine zE ?_;intro J hJ;simp[];(try refine zJ hJ ?_))))
 refine qE (HQ xi yi _) sS ?_;rintro r s1 ⟨rfl,rfl⟩
 (repeat' (first|(refine qR (zZ ?_);simp[nC])|(apply aD;simp[nC];refine zJ hJ ?_)))
 exact(aA.new _ _).trans (aA.new _ _)
theorem OX(x y:Ed)(X Y:List Ed)(st:St):aB prog 72 [.sl 0 (X.length+1) (eds (x::X)),.sl 0 (Y.length+1) (eds (y::Y))] st fun r st'=>r=i (nC x.id y.id)/\st'=st:=by
 refine qT (Q:=fun r=>r=i (nC x.id y.id)) ?_ fun r h=>by subst h;trivial
 obtain⟨xi,xa,xb⟩:=x;obtain⟨yi,ya,yb⟩:=y;have e1:eds (⟨xi,xa,xb⟩::X)=u xi::u xa::u xb::eds X:=rfl;have e2:eds (⟨yi,ya,yb⟩::Y)=u yi::u ya::u yb::eds Y:=rfl;rw[e1,e2];refine zN func72 ntmps72 [.tmp 4] ?_
 (repeat' (first|apply qS|(refine zE ?_;intro J hJ;simp[];refine zJ hJ ?_)))
 (refine zS [] [] [0,2,4,6,8,10,12,14,17,18] ?_;intro J hJ;simp[])
 refine qD (HQ xi yi _) sS ?_;rintro r s1 ⟨rfl,rfl⟩;refine⟨fun h=>by first|(cases h;done)|simp,?_⟩
 (apply aV;simp[];refine zJ hJ ?_)
 (repeat' (refine qR (zZ ?_);simp[nC]))
 exact aA.refl _
section
variable {es:List Ed} (D4:es.Pairwise fun x y=>x.id<y.id)
include D4
theorem TM{a b:Nat}(ha:a<es.length)(hb:b<es.length):(eAt es a).id<(eAt es b).id↔a<b:=by
 unfold eAt;rw[cU _ _ ha,cU _ _ hb];rw[aAG]at D4;rcases aCJ a b with k|k|k
 .exact⟨fun _=>k,fun _=>D4 a b ha hb k⟩
 .subst k;omega
 .have:=D4 b a hb ha k;omega
theorem Sb:CE.fL 146 [] (fun x=>eAt es x.toNat) fun x=>0<=x/\x.toNat<es.length:=
 ⟨fun x y st hx hy=>(VH _ _ st).mono fun r s h=>⟨⟨_,h.1,by rw[Fe,TM D4 hx.2 hy.2];omega⟩,h.2⟩⟩
theorem VR(P:List Nat)(hn:P.Nodup)(hP:∀ i∈P,i<es.length)(q:Nat)(st:St)(hl:P.length<65536)(hq:q<st.next)(hH:st.H q=.box 56 3 (eds (P.map (eAt es)))):
 aB prog 145 [.ms q 0 P.length,.fn (.func 146) []] st fun r st'=>st'.H q=.box 56 3 (eds ((sG es.length P).map (eAt es)))/\bK q st st':=by
 have e:∀ L:List Nat,CE.es3 (fun x=>eAt es x.toNat) (L.map fun k:Nat=>(k:Int))=eds (L.map (eAt es)):=fun L=>by unfold CE.es3;rw[aBf];rfl
 have h:=CE.Nc (Sb D4) (P.map fun k:Nat=>(k:Int)) q st (fun x hx=>by
  obtain⟨k,hk,rfl⟩:=aAm.1 hx
  exact⟨oO,by simpa using hP k hk⟩) (by simpa using hl) hq (by unfold CE.nG;rw[e];exact hH)
 rw[aAA]at h;refine h.mono ?_;rintro r s ⟨c,h1,h2,h3,h4⟩;refine⟨?_,h4⟩;have hc:c=(sG es.length P).map fun k:Nat=>(k:Int):=by refine Ia h3 ?_ (h2.trans ((vT hn hP).map _).symm);rw[aAU];exact(vM _ _).imp fun k=>by omega
 rw[h1,hc];unfold CE.nG;rw[e]
def bkL(es:List Ed)(out:List (List Nat)):List LV:=out.map fun B=>.sl 0 B.length (eds (B.map (eAt es)))
omit D4 in
theorem Bb(es:List Ed)(out:List (List Nat)):(bkL es out).length=out.length:=by simp[bkL]
theorem Qn:CR.fL 72 [] ⟨fun x=>(gQ es x.toNat).length,fun x=>eds ((gQ es x.toNat).map (eAt es))⟩ fun x=>0<=x/\x.toNat<es.length/\(gQ es x.toNat).headD 0=x.toNat:=by
 refine⟨fun x y st hx hy=>?_⟩;have hh:∀ z:Nat,z<es.length->(gQ es z).headD 0=z->∃ R,gQ es z=z::R:=fun z hz he=>by
  have hm:z∈gQ es z:=Fh.2 ⟨hz,.refl⟩;cases hc:gQ es z with
  |nil=>rw[hc]at hm;cases hm
  |cons a R=>rw[hc]at he;simp at he;exact⟨R,by rw[he]⟩
 obtain⟨X,eX⟩:=hh _ hx.2.1 hx.2.2;obtain⟨Y,eY⟩:=hh _ hy.2.1 hy.2.2;simp only[eX,eY];have:=OX (eAt es x.toNat) (eAt es y.toNat) (X.map (eAt es)) (Y.map (eAt es)) st;rw[aAA,aAA]at this;exact this.mono fun r s h=>⟨⟨_,h.1,by rw[Fe,TM D4 hx.2.1 hy.2.1];omega⟩,h.2⟩
theorem VW(out:List (List Nat))(hall:∀ i,i∈out.flatten↔i<es.length)(n9:∀ B∈out,dH es B)(hnd:out.flatten.Nodup)(q:Nat)(st:St)(hl:out.length<65536)(hq:q<st.next)(hH:st.H q=.box 23 1 (bkL es out)):
 aB prog 71 [.ms q 0 out.length,.fn (.func 72) []] st fun r st'=>st'.H q=.box 23 1 (bkL es (fA es))/\(fA es).Perm out/\bK q st st':=by
 obtain⟨L,hL⟩:∃ L:List Int,L=out.map fun B=>((B.headD 0:Nat):Int):=⟨_,rfl⟩;have hB:∀ B∈out,gQ es (B.headD 0)=B:=fun B h=>((n9 B h).cls (head_mem (n9 B h).ne)).symm;have hD:∀ x∈L,0<=x/\x.toNat<es.length/\(gQ es x.toNat).headD 0=x.toNat:=fun x hx=>by
  rw[hL]at hx;obtain⟨B,h,rfl⟩:=aAm.1 hx;refine⟨oO,?_,?_⟩
  .simpa using(n9 B h).lt _ (head_mem (n9 B h).ne)
  .rw[Int.toNat_natCast,hB B h]
 have e:∀ c:List Int,CR.ws ⟨fun x=>(gQ es x.toNat).length,fun x=>eds ((gQ es x.toNat).map (eAt es))⟩ c=bkL es (c.map fun x=>gQ es x.toNat):=fun c=>by unfold bkL CR.ws;rw[aBf];rfl
 have eL:L.map (fun x=>gQ es x.toNat)=out:=by
  rw[hL,aBf];have:∀ B∈out,((fun x:Int=>gQ es x.toNat)∘fun B:List Nat=>((B.headD 0:Nat):Int)) B=B:=fun B h=>by show gQ es ((B.headD 0:Nat):Int).toNat=B;rw[Int.toNat_natCast];exact hB B h
  rw[aAW this,List.map_id']
 have O4:L.Nodup:=by rw[hL];refine aAU.2 ?_;have:=(aEr.1 hnd).2;refine this.imp_of_mem fun {a b} ha hb hd he=>?_;exact hd _ (head_mem (n9 a ha).ne) _ (head_mem (n9 b hb).ne) oO
 have h:=CR.Nc (Qn D4) L q st hD (by rw[hL,aAA];exact hl) hq (by unfold CR.nG;rw[e,eL];exact hH);rw[show L.length=out.length by rw[hL,aAA]]at h;refine h.mono ?_;rintro r s ⟨c,h1,h2,h3,h4⟩;have hcD:∀ x∈c,0<=x/\x.toNat<es.length/\(gQ es x.toNat).headD 0=x.toNat:=fun x hx=>hD x (h2.mem_iff.1 hx);have hp:(c.map fun x=>gQ es x.toNat).Perm out:=by
  have:=h2.map fun x:Int=>gQ es x.toNat
  rwa [eL]at this
 have hr:(c.map fun x=>gQ es x.toNat).Pairwise fun x y=>x.headD 0<y.headD 0:=by rw[aAU];have hcn:=h2.nodup_iff.2 O4;refine(h3.and hcn).imp_of_mem fun {a b} ha hb YA=>?_;have h5:=hcD a ha;have h6:=hcD b hb;rw[h5.2.2,h6.2.2];have:=YA.2;have:=YA.1;omega
 have hled:=Bh hall n9 hp hr;refine⟨by rw[h1];unfold CR.nG;rw[e,hled],by rw[<- hled];exact hp,h4⟩
end
def isN(l:List Nat):List LV:=l.map fun k:Nat=>i (k:Int)
@[simp] theorem kF(l:List Nat):(isN l).length=l.length:=by simp[isN]
theorem Pz(l:List Nat)(k:Nat)(hk:k<l.length):(isN l).drop k=i ((l.getD k 0:Nat):Int)::(isN l).drop (k+1):=by unfold isN;rw[aAM (by simpa using hk)];simp[hk]
theorem PZ(l:List Nat)(k:Nat):(isN l).take k=isN (l.take k):=by simp[isN]
theorem UW{v x:Int}{V:List Int}(h:¬v=x):(v::V).idxOf x=V.idxOf x+1:=by
 have e:(v==x)=false:=by rw[aCQ];exact h
 rw[List.idxOf_cons,e];rfl
def nbF:Nat->List Int->List (List Int×LV)
 |_,[]=>[]
 |k,v::V=>([v],i ((k:Int)+1))::nbF (k+1) V
theorem JQ(V:List Int):∀ k,(nbF k V).length=V.length:=by
 induction V with
 |nil=>intro k;rfl
 |cons v V ih=>intro k;simp[nbF,ih]
theorem PD(V:List Int)(x:Int):∀ k,bR (nbF k V) [x]=if x∈V then some (i ((k:Int)+nmW V x))else none:=by
 induction V with
 |nil=>intro k;rfl
 |cons v V ih=>
  intro k;unfold nbF bR;by_cases e:v=x
  .subst e;simp[nmW]
  .have e2:¬([x]==[v])=true:=by simpa using fun k=>e k.symm
   rw[aAa e2,ih (k+1)];by_cases hx:x∈V
   .rw[aAe hx,aAe (aAk _ hx)];unfold nmW;rw[aAe hx,aAe (aAk _ hx),UW e]
    congr 2
    omega
   .rw[aAa hx,aAa];rw[aAf,aCv];exact⟨fun h=>e h.symm,hx⟩
theorem QO{x:Int}(V:List Int)(h:x∉V):∀ k,bQ (nbF k V) [x] (i ((k:Int)+V.length+1))=nbF k (V++[x]):=by
 induction V with
 |nil=>intro k;simp[nbF,bQ]
 |cons v V ih=>
  intro k;rw[aAf,aCv]at h;have e:¬([x]==[v])=true:=by simpa using h.1
  unfold nbF bQ;simp only[e,aAR,aBB,List.cons_append];have:=ih h.2 (k+1);rw[show((k:Int)+(v::V).length+1)=((k+1:Nat):Int)+V.length+1 by simp;omega,this]
theorem Je(V:List Int)(x:Int):bR (nbF 0 V) [x]=if x∈V then some (i (nmW V x))else none:=by rw[PD];split<;>simp
theorem Se{x:Int}{V:List Int}(h:x∉V):bQ (nbF 0 V) [x] (i ((V.length:Int)+1))=nbF 0 (V++[x]):=by have:=QO V h 0;simpa using this
def lwF:List Int->List Int->List (List Int×LV)
 |v::V,x::L=>([v],i x)::lwF V L
 |_,_=>[]
theorem tO:∀(V L:List Int) (x:Int),L.length=V.length->x∈V->bR (lwF V L) [x]=some (i (L.getD (V.idxOf x) 0))
 |[],_,_,_,h=>by cases h
 |v::V,[],x,hl,_=>by simp at hl
 |v::V,y::L,x,hl,h=>by
  unfold lwF bR;by_cases e:v=x
  .subst e;simp
  .have e2:¬([x]==[v])=true:=by simpa using fun k=>e k.symm
   simp only[e2,aAR,aBB];rw[tO V L x (by simpa using hl) (by rcases aAf.1 h with k|k;exact absurd k.symm e;exact k),UW e];rfl
theorem xA:∀(V L:List Int) (x y:Int),L.length=V.length->x∉V->bQ (lwF V L) [x] (i y)=lwF (V++[x]) (L++[y])
 |[],[],_,_,_,_=>rfl
 |[],_::_,_,_,hl,_=>by simp at hl
 |v::V,[],x,_,hl,_=>by simp at hl
 |v::V,z::L,x,y,hl,h=>by
  rw[aAf,aCv]at h;have e:¬([x]==[v])=true:=by simpa using h.1
  unfold lwF bQ;simp only[e,aAR,aBB,List.cons_append];rw[xA V L x y (by simpa using hl) h.2]
theorem qA:∀(V L:List Int) (x y:Int),L.length=V.length->x∈V->bQ (lwF V L) [x] (i y)=lwF V (L.set (V.idxOf x) y)
 |[],_,_,_,_,h=>by cases h
 |v::V,[],x,_,hl,_=>by simp at hl
 |v::V,z::L,x,y,hl,h=>by
  unfold lwF bQ;by_cases e:v=x
  .subst e;simp[lwF]
  .have e2:¬([x]==[v])=true:=by simpa using fun k=>e k.symm
   simp only[e2,aAR,aBB];rw[qA V L x y (by simpa using hl) (by rcases aAf.1 h with k|k;exact absurd k.symm e;exact k),UW e];rfl
theorem IJ{l:List Nat}{i:Nat}(h:i∈l):iW l i<l.length/\l.getD (iW l i) 0=i/\∀ j,iW l i<j->j<l.length->l.getD j 0≠i:=by
 obtain⟨P,R,rfl,hR⟩:∃ P R,l=P++i::R/\i∉R:=by obtain⟨P,R,e,hR⟩:=List.eq_append_cons_of_mem (aBP.2 h);refine⟨R.reverse,P.reverse,?_,by simpa using hR⟩;have:=congrArg List.reverse e;simpa using this
 rw[vV hR];refine⟨sS,sS,fun j h1 h2 e=>hR ?_⟩;rw[aAc,aBl oO]at e;obtain⟨m,hm⟩:∃ m,j-P.length=m+1:=⟨j-P.length-1,oO⟩;rw[hm,List.getElem?_cons_succ]at e;simp at h2;rw[aAd oO]at e;simp only[Option.getD_some]at e;rw[<- e];exact aAu _
structure rR(g:Gr)(B W a nb lw:Nat)(tk:Int->Nat)(s:Bw)(st:St):Prop where
 ex:∃ tS tB CS ea,st.H W=.box 108 6 [.sl 0 g.es.length (eds g.es),.mp a,.mp nb,.mp lw,.ms tS 0 s.stk.length,.ms tB 0 s.out.length]/\
  (st.H a=.map false [.u32] ea/\∀ v,bR ea [v]=if atP g.es v=[]then none else some (.sl (tk v) (atP g.es v).length (isN (atP g.es v))))/\
  st.H nb=.map false [.u32] (nbF 0 s.vis)/\st.H lw=.map false [.u32] (lwF s.vis s.low)/\(st.H tS=.box 3 1 CS/\CS.take s.stk.length=isN s.stk)/\st.H tB=.box 23 1 (bkL g.es s.out)/\
  (a≠nb/\a≠lw/\nb≠lw)/\(B<=tS/\B<=tB/\tS<st.next/\tB<st.next)
 bd:(B<=W/\B<=a/\B<=nb/\B<=lw)/\(W<st.next/\a<st.next/\nb<st.next/\lw<st.next)
theorem bH{st:St}{a b:Nat}{x y:cI}(ha:st.H a=x)(hb:st.H b=y)(h:x≠y):¬a=b:=fun e=>h (by rw[<- ha,e,hb])
theorem Na{es:List Ed}{P:List Nat}{j:Nat}(hj:j<P.length):(P.take (j+1)).map (eAt es)=(P.take j).map (eAt es)++[eAt es (P.getD j 0)]:=by rw[aAn hj,aAv,aAc,aAd hj];rfl
structure KbB(B:Nat)(st st':St):Prop where
 next:st.next<=st'.next
 H:∀ x,x<B->st'.H x=st.H x
theorem KbB.refl(B:Nat)(st:St):KbB B st st:=⟨aAi _,fun _ _=>rfl⟩
theorem KbB.trans{B:Nat}{a b c:St}(h:KbB B a b)(k:KbB B b c):KbB B a c:=⟨aBh h.next k.next,fun x hx=>by rw[k.H x hx,h.H x hx]⟩
theorem KbB.new{B:Nat}{a b:St}(h:KbB B a b)(hB:B<=b.next)(o:cI):KbB B a (b.new o):=⟨by rw[aF];exact Nat.le_succ_of_le h.next,fun x hx=>by rw[cA,aAa oO];exact h.H x hx⟩
theorem KbB.set{B:Nat}{a b:St}(h:KbB B a b){l:Nat}(hl:B<=l)(o:cI):KbB B a (b.set l o):=⟨h.next,fun x hx=>by rw[bN,aAa oO];exact h.H x hx⟩
theorem Wq(g:Gr)(D4:g.es.Pairwise fun x y=>x.id<y.id)(B W a nb lw:Nat)(tk:Int->Nat)(s:Bw)(i0:Nat)(st:St)(h:rR g B W a nb lw tk s st)(hi:i0∈s.stk)(G8:∀ k∈s.stk.drop (iW s.stk i0),k<g.es.length)(r9:(s.stk.drop (iW s.stk i0)).Nodup)(he:g.es.length<=1000)(Q4:s.stk.length<=60000)(A3:s.out.length<=100000):
 aB prog 104 [.pt W 0,i i0] st fun r st'=>∃ s',GO g.es.length s i0=some s'/\rR g B W a nb lw tk s' st'/\KbB B st st':=by
 obtain⟨E7,C6,L3⟩:=IJ hi;have hcw:GO g.es.length s i0=some { s with stk:=s.stk.take (iW s.stk i0),out:=s.out++[sG g.es.length (s.stk.drop (iW s.stk i0))] }:=by unfold GO;rw[aAe hi]
 rw[hcw];clear hcw;obtain⟨⟨tS,tB,CS,ea,hW,⟨hA,Z6⟩,hN,hL,⟨hS,M4⟩,A5,⟨n1,n2,n3⟩,⟨b1,b2,b3,b4⟩⟩,⟨c1,c2,c3,c4⟩,d1,d2,d3,d4⟩:=h;generalize G9:iW s.stk i0=kl at *;obtain⟨P,hP⟩:∃ P,P=s.stk.drop kl:=⟨_,rfl⟩;rw[<- hP]at G8 r9 ⊢;have hPl:P.length=s.stk.length-kl:=by rw[hP,aAN]
 have hPe:P.length<=g.es.length:=by have:=aAC r9 (fun k hk=>aAX.2 (G8 k hk));rwa [aDz]at this
 have hCS:s.stk.length<=CS.length:=by have:=congrArg List.length M4;rw[aAo,kF]at this;omega
 have hCd:∀ k,k<s.stk.length->CS.drop k=i ((s.stk.getD k 0:Nat):Int)::CS.drop (k+1):=fun k hk=>by
  have e1:CS=isN s.stk++CS.drop s.stk.length:=by rw[<- M4];exact(aAH _ _).symm
  rw[aAM oO]
  congr 1
  have:CS[k]'(by omega)=(isN s.stk)[k]'(by simpa using hk):=by have h2:=List.getElem_of_eq M4 (i:=k) (by rw[aAo];omega);rw[aBE]at h2;exact h2
  rw[this];simp[isN,hk]
 have w1:=aH s.stk.length oO oO;have m1:¬W=tS:=bH hW hS sS;have m2:¬W=tB:=bH hW A5 sS;have m3:¬tS=tB:=bH hS A5 sS;have m4:¬W=a:=bH hW hA sS;have m5:¬W=nb:=bH hW hN sS;have m6:¬W=lw:=bH hW hL sS;have m7:¬a=tS:=bH hA hS sS;have m8:¬a=tB:=bH hA A5 sS;have m9:¬nb=tS:=bH hN hS sS;have m10:¬nb=tB:=bH hN A5 sS;have m11:¬lw=tS:=bH hL hS sS;have m12:¬lw=tB:=bH hL A5 sS;refine zN func104 ntmps104 [] ?_
 (repeat' (first|apply qS|apply qB|(refine zE ?_;intro J hJ;simp[hW,w1];refine zJ hJ ?_)))
 refine qL (fun n fr st2=>∃ k:Nat,n=k/\st2=st/\fr 0=.pt W 0/\fr 1=i i0/\fr 4=i k/\kl<=k/\k<s.stk.length) (s.stk.length-1) ?_ ?_
 .exact⟨s.stk.length-1,rfl,rfl,sS,sS,sS,oO,oO⟩
 rintro k fr st2 ⟨_,rfl,ZF,f0,f1,f4,Xn,Xx⟩ JJ hJJ;rw[ZF];clear ZF st2;have hd:=hCd k Xx;have hkc:k<CS.length:=oO;by_cases hk:k=kl;rotate_left
 .have Wm:=L3 k oO Xx;generalize s.stk.getD k 0=y at *;have K2:((y:Int) != (i0:Int))=true:=by rw[bne_iff_ne];omega
  have w2:=aH k oO oO
  (repeat' (first|apply qS|apply qB|refine qK (zZ ?_)|(apply qC;simp[f0,f1,f4,hW,hS,hd,hkc,Xx,K2,w2])|(refine zE ?_;intro J hJ;simp[f0,f1,f4,hW,hS,hd,hkc,Xx,K2,w2];refine zJ hJ ?_)))
  exact hJJ (k-1) _ _ oO ⟨k-1,rfl,rfl,by simp[f0],by simp[f1],sS,oO,oO⟩
 clear hJJ;subst hk;rw[C6]at hd;have K2:((i0:Int) != (i0:Int))=false:=sS
 (repeat' (first|apply qS|apply qB|refine qX (zZ ?_)|(apply qC;simp[f0,f1,f4,hW,hS,hd,hkc,Xx,K2])|(refine zE ?_;intro J hJ;simp[f0,f1,f4,hW,hS,hd,hkc,Xx,K2];(repeat refine ca ?_);refine zJ hJ ?_)))
 rw[<- hPl];refine uK 5 56 3 sS ?_;have hel:=aK g.es;refine bD 32 31 33 46 (P.length) (fun j fr st2=>fr 0=.pt W 0/\fr 4=i k/\fr 30=.ms tS k P.length/\aA st st2/\∃ q,fr 5=.ms q 0 j/\st2.H q=.box 56 3 (eds ((P.take j).map (eAt g.es)))/\st.next<=q/\q<st2.next) ?_ ?_ ?_
 .refine⟨by simp[f0],by simp[f4],by simp[hPl],aA.new _ _,st.next,sS,by simp[eds],oO,sS⟩
 .clear f0 f1 f4 fr hd K2;rintro j fr s1 dN ⟨g0,g4,g30,Xm,q,g5,hq,X3,Zk⟩ fi fn JO hJO;have hW1:=(Xm.H W d1).trans hW;have hS1:=(Xm.H tS b3).trans hS;have YQ:=hCd (k+j) oO;have hPd:s.stk.getD (k+j) 0=P.getD j 0:=by rw[hP,aAc,aAc,aCo]
  rw[hPd]at YQ;have Zl:P.getD j 0<g.es.length:=G8 _ (by rw[aAc,aAd dN];exact aAu _);have hde:=aR g.es _ Zl;rw[Na dN]at hJO;have hql:(eds ((P.take j).map (eAt g.es))).length=j*3:=by rw[aK,aAA,aAo];congr 1;omega
  have hap:eds ((P.take j).map (eAt g.es)++[eAt g.es (P.getD j 0)])=eds ((P.take j).map (eAt g.es))++edL (eAt g.es (P.getD j 0)):=by simp[eds]
  rw[hap]at hJO;unfold eAt at hJO;generalize U1:P.getD j 0=p0 at *;generalize eds ((P.take j).map (eAt g.es))=RR at *;generalize g.es.getD p0 ed0=x at *;obtain⟨xi,xa,xb⟩:=x;simp only[edL]at hJO;simp only at hde;have U6:k+j<CS.length:=oO;have hp3:p0*3<g.es.length*3:=oO;have y1:¬q=s1.next:=oO;have y2:¬q=0:=oO
  (repeat' (first|apply qS|(refine zE ?_;intro J hJ;simp[g0,g4,g5,g30,fi,fn,hW1,hS1,YQ,hde,dN,hq,hql,U6,Zl,hp3,hel,y1,y2];(repeat refine ca ?_);refine zJ hJ ?_)))
  refine hJO _ _ (by simp[fi]) (by simp[fn]) ⟨by simp[g0],by simp[g4],by simp[g30],?_,s1.next+1,sS,sS,oO,sS⟩
  (repeat (first|exact Xm|(refine aA.trans ?_ (aA.new _ _))|(refine aA.set ?_ oO _)))
 .rintro fr s1 ⟨g0,g4,g30,Xm,q,g5,hq,X3,Zk⟩;rw[aAQ]at hq;have hW1:=(Xm.H W d1).trans hW;have hS1:=(Xm.H tS b3).trans hS;have Yy:k<=s.stk.length:=oO;have YL:=Xm.next;have y1:¬q=W:=oO
  (repeat' (first|apply qS|(refine zE ?_;intro J hJ;simp[g0,g4,g5,hW1,Yy];(try refine zJ hJ ?_))))
  refine qE (VR D4 P r9 G8 q _ oO (by simp;omega) (by simp[y1,hq])) sS ?_;rintro r s2 ⟨Y4,Xz⟩;have ZK:=Xz.1;simp only[bC]at ZK;have old:∀ x,x≠q->x≠W->x<st.next->s2.H x=st.H x:=fun x h1 h2 h3=>by rw[Xz.2 x h1 (by simp;omega),bN,aAa h2];exact Xm.H x h3
  have hW2:=Xz.2 W (fun e=>y1 e.symm) (by simp;omega);rw[bN,aAe rfl]at hW2;have I9:=(old tB oO (fun e=>m2 e.symm) b4).trans A5;have hS2:=(old tS oO (fun e=>m1 e.symm) b3).trans hS;have hA2:=(old a oO (fun e=>m4 e.symm) d2).trans hA;have hN2:=(old nb oO (fun e=>m5 e.symm) d3).trans hN;have N6:=(old lw oO (fun e=>m6 e.symm) d4).trans hL;have ZT:=(vT r9 G8).length_eq;have Xk:(eds ((sG g.es.length P).map (eAt g.es))).length=P.length*3:=by rw[aK,aAA,ZT]
  (apply aD;simp[];refine zJ hJ ?_)
  refine sH 5 (l:=q) (n:=P.length) (by simp[g5]) Y4 (aDv Xk.symm) ?_;rw[aAr (aDv Xk)];have hbL:(bkL g.es s.out).length=s.out.length:=Bb _ _;have z1:¬W=q:=fun e=>y1 e.symm;have z2:¬tB=q:=oO;have z3:¬W=s2.next:=oO;have z4:¬tB=s2.next:=oO;have z5:¬W=s2.next+1:=oO
  (repeat' (refine zE ?_;intro J hJ;simp[g0,hW2,I9,m2,z1,z2,z3,z4,z5,hbL];(repeat refine ca ?_);refine zJ hJ ?_))
  have q1:¬a=q:=oO;have q2:¬nb=q:=oO;have q3:¬lw=q:=oO;have q4:¬tS=q:=oO;have q5:¬a=s2.next:=oO;have q6:¬nb=s2.next:=oO;have q7:¬lw=s2.next:=oO;have q8:¬tS=s2.next:=oO;have q9:¬a=s2.next+1:=oO;have q10:¬nb=s2.next+1:=oO;have q11:¬lw=s2.next+1:=oO;have q12:¬tS=s2.next+1:=oO;have q13:¬s2.next+1=W:=oO;have r1:¬a=W:=fun e=>m4 e.symm;have r2:¬nb=W:=fun e=>m5 e.symm;have r3:¬lw=W:=fun e=>m6 e.symm;have r4:¬tS=W:=fun e=>m1 e.symm;have hbk:bkL g.es (s.out++[sG g.es.length P])=bkL g.es s.out++[.sl 0 P.length (eds ((sG g.es.length P).map (eAt g.es)))]:=by unfold bkL;rw[aAv];simp[ZT]
  have YP:(s.stk.take k).length=k:=by rw[aAo];omega
  refine⟨trivial,⟨⟨tS,s2.next+1,CS,ea,by simp[YP],⟨by simp[z1,z2,z3,z4,z5,q1,q2,q3,q4,q5,q6,q7,q8,q9,q10,q11,q12,q13,r1,r2,r3,r4,m2,m3,m8,m10,m12,hA2],Z6⟩,by simp[z1,z2,z3,z4,z5,q1,q2,q3,q4,q5,q6,q7,q8,q9,q10,q11,q12,q13,r1,r2,r3,r4,m2,m3,m8,m10,m12,hN2],by simp[z1,z2,z3,z4,z5,q1,q2,q3,q4,q5,q6,q7,q8,q9,q10,q11,q12,q13,r1,r2,r3,r4,m2,m3,m8,m10,m12,N6],⟨by simp[z1,z2,z3,z4,z5,q1,q2,q3,q4,q5,q6,q7,q8,q9,q10,q11,q12,q13,r1,r2,r3,r4,m2,m3,m8,m10,m12,hS2],?_⟩,by simp[z1,z2,z3,z4,z5,q1,q2,q3,q4,q5,q6,q7,q8,q9,q10,q11,q12,q13,r1,r2,r3,r4,m2,m3,m8,m10,m12,hbk],⟨n1,n2,n3⟩,b1,oO,by simp;omega,sS⟩,⟨c1,c2,c3,c4⟩,by simp;omega,by simp;omega,by simp;omega,by simp;omega⟩,?_⟩
  .rw[YP,show CS.take k=(CS.take s.stk.length).take k by rw[aBS,aCt Yy],M4,PZ]
  .refine(((((KbB.mk oO fun x hx=>?_:KbB B st s2).set oO _).new ?_ _).set b2 _).new ?_ _).set c1 _
   .exact old x oO oO oO
   .simp;omega
   .simp;omega
theorem DL{P:Program}{N:Nat}{Q:AQ}{k:List fQ}{fr:Frm}{st:St}{x y:Code}(I:Frm->St->Prop)(h1:AWp P N x (AK P N (fun e f s=>e=.normal/\I f s) []) fr st)(h2:∀ fr st,I fr st->AWp P N y (AK P N Q k) fr st):
 AWp P N x (AK P N Q (.code y::k)) fr st:=by
 refine cZ h1 ?_;rintro e Xj st' ⟨rfl,hI⟩;rw[iK];exact h2 _ _ hI
theorem Ku{f:Bw->Nat->Option Bw}:∀(l:List Nat) (i:Nat) (s:Bw),goB f (l++[i]) s=(goB f l s).bind fun s'=>f s' i
 |[],i,s=>by show(f s i).bind (goB f [])=f s i;cases f s i<;>rfl
 |j::l,i,s=>by
  show(f s j).bind (goB f (l++[i]))=((f s j).bind (goB f l)).bind _;cases f s j with
  |none=>rfl
  |some s'=>exact Ku l i s'
theorem BZ{P:List Nat}{n:Nat}(hn:P.Nodup)(h:∀ i∈P,i<n):P.length<=n:=by have:=aAC hn (l₂:=List.range n) fun i hi=>aAX.2 (h i hi);simpa using this
theorem yQ:∀(N:List (List Nat)),(∀ B∈N,B≠[])->N.length<=N.flatten.length
 |[],_=>aAi _
 |B::N,h=>by have h1:=yQ N fun B hB=>h B (aAk _ hB);have h2:=aBi.2 (h B sS);simp only[List.flatten_cons,aAh,List.length_cons];omega
theorem BLp.sz{g:Gr}{s0 s:Bw}{v YO:Int}{Q:List Nat}{D:List Int}{T:List Nat}{N:List (List Nat)}(h:BLp g s0 v YO Q s D T N):T.length<=g.es.length/\N.length<=g.es.length:=by have hl:∀ i∈T++N.flatten,i<g.es.length:=fun i hi=>((h.pl i).1 hi).1;have h1:=BZ h.pn hl;have h2:=yQ N fun B hB=>(h.good B hB).ne;rw[aAh]at h1;omega
def SzB(g:Gr)(s:Bw):Prop:=s.stk.length<=s.vis.length*(g.es.length+1)/\s.out.length<=s.vis.length*(g.es.length+1)
theorem SzB.child{g:Gr}{s0 s:Bw}{v YO:Int}{Q:List Nat}{D:List Int}{T:List Nat}{N:List (List Nat)}(h0:SzB g s0)(h:BLp g s0 v YO Q s D T N):s.stk.length+1<=s.vis.length*(g.es.length+1)/\s.out.length<=s.vis.length*(g.es.length+1):=by
 obtain⟨h1,h2⟩:=h.sz;have h3:(s0.vis.length+1)*(g.es.length+1)<=s.vis.length*(g.es.length+1):=aCh _ (by rw[h.vis,aAh,List.length_cons];omega);rw[aBU,Nat.one_mul]at h3;have e1:s.stk.length=s0.stk.length+T.length:=by rw[h.stk,aAh]
 have e2:s.out.length=s0.out.length+N.length:=by rw[h.out,aAh]
 obtain⟨k1,k2⟩:=h0;omega
theorem Bd{g:Gr}{s:Bw}(hv:g.vs.length<=100)(he:g.es.length<=200)(hnd:s.vis.Nodup)(hs:∀ w∈s.vis,w∈g.vs):s.vis.length<=100/\s.vis.length*(g.es.length+1)<=20100:=by have h1:s.vis.length<=g.vs.length:=aAC hnd hs;exact⟨oO,by have:=Nat.mul_le_mul (show s.vis.length<=100 by omega) (show g.es.length+1<=201 by omega);omega⟩
theorem rR.keeps{g:Gr}{B W a nb lw:Nat}{tk:Int->Nat}{s:Bw}{st st':St}(h:rR g B W a nb lw tk s st)(hk:aA st st'):rR g B W a nb lw tk s st':=by obtain⟨⟨tS,tB,CS,ea,hW,⟨hA,Z6⟩,hN,hL,⟨hS,M4⟩,A5,hn,⟨b1,b2,b3,b4⟩⟩,hc,d1,d2,d3,d4⟩:=h;have hx:=hk.next;exact⟨⟨tS,tB,CS,ea,(hk.H W d1).trans hW,⟨(hk.H a d2).trans hA,Z6⟩,(hk.H nb d3).trans hN,(hk.H lw d4).trans hL,⟨(hk.H tS b3).trans hS,M4⟩,(hk.H tB b4).trans A5,hn,b1,b2,oO,oO⟩,hc,oO,oO,oO,oO⟩
theorem Qm{g:Gr}{B W a nb lw:Nat}{tk:Int->Nat}{s:Bw}{S:St}{tS tB:Nat}{CS:List LV}{ea:List (List Int×LV)}(i0:Nat)
 (hW:S.H W=.box 108 6 [.sl 0 g.es.length (eds g.es),.mp a,.mp nb,.mp lw,.ms tS 0 s.stk.length,.ms tB 0 s.out.length])
 (hA:S.H a=.map false [.u32] ea) (Z6:∀ v,bR ea [v]=if atP g.es v=[]then none else some (.sl (tk v) (atP g.es v).length (isN (atP g.es v))))
 (hN:S.H nb=.map false [.u32] (nbF 0 s.vis)) (hL:S.H lw=.map false [.u32] (lwF s.vis s.low)) (hS:S.H tS=.box 3 1 CS) (A5:S.H tB=.box 23 1 (bkL g.es s.out))
 (hn:a≠nb/\a≠lw/\nb≠lw) (hb:B<=tS/\B<=tB/\tS<S.next/\tB<S.next) (hc:B<=W/\B<=a/\B<=nb/\B<=lw) (hd:W<S.next/\a<S.next/\nb<S.next/\lw<S.next) (o:cI):
 rR g B W a nb lw tk (dZ s i0) ((((S.new o).set tS .dead).new (.box 3 1 (isN s.stk++[i (i0:Int)]))).set W (.box 108 6 [.sl 0 g.es.length (eds g.es),.mp a,.mp nb,.mp lw,.ms (S.next+1) 0 (s.stk.length+1),.ms tB 0 s.out.length]))/\
 KbB B S ((((S.new o).set tS .dead).new (.box 3 1 (isN s.stk++[i (i0:Int)]))).set W (.box 108 6 [.sl 0 g.es.length (eds g.es),.mp a,.mp nb,.mp lw,.ms (S.next+1) 0 (s.stk.length+1),.ms tB 0 s.out.length])):=by
 obtain⟨b1,b2,b3,b4⟩:=hb;obtain⟨c1,c2,c3,c4⟩:=hc;obtain⟨d1,d2,d3,d4⟩:=hd;have m1:¬a=W:=bH hA hW sS;have m2:¬nb=W:=bH hN hW sS;have m3:¬lw=W:=bH hL hW sS;have m4:¬tB=W:=bH A5 hW sS;have m5:¬a=tS:=bH hA hS sS;have m6:¬nb=tS:=bH hN hS sS;have m7:¬lw=tS:=bH hL hS sS;have m8:¬tB=tS:=bH A5 hS sS;have e1:¬a=S.next:=oO;have e2:¬nb=S.next:=oO;have e3:¬lw=S.next:=oO;have e4:¬tB=S.next:=oO;have e5:¬a=S.next+1:=oO;have e6:¬nb=S.next+1:=oO;have e7:¬lw=S.next+1:=oO;have e8:¬tB=S.next+1:=oO;have e9:¬S.next+1=W:=oO;have Zl:(dZ s i0).stk.length=s.stk.length+1:=by simp[dZ]
 have Y5:isN (dZ s i0).stk=isN s.stk++[i (i0:Int)]:=by simp[dZ,isN]
 refine⟨⟨⟨S.next+1,tB,isN s.stk++[i (i0:Int)],ea,by rw[Zl];simp[dZ],⟨by simp[m1,m5,e1,e5,hA],Z6⟩,by simp[m2,m6,e2,e6,hN,dZ],by simp[m3,m7,e3,e7,hL,dZ],⟨by simp[e9],?_⟩,by simp[m4,m8,e4,e8,A5,dZ],hn,oO,b2,sS,by simp;omega⟩,⟨c1,c2,c3,c4⟩,by simp;omega,by simp;omega,by simp;omega,by simp;omega⟩,?_⟩
 .rw[Zl,<- Y5,aAr];rw[kF,Zl];exact aAi _
 .exact(((((KbB.refl B S).new oO _).set b1 _).new (by simp;omega) _).set c1 _)
theorem AO{P:Program}{N:Nat}{Q:AQ}{c:Code}{fr:Frm}{st:St}(I:Frm->St->Prop)(h0:I fr st)(h:∀ fr st,I fr st->AWp P N c Q fr st):AWp P N c Q fr st:=h _ _ h0
theorem Pp{g:Gr}{B W a nb lw:Nat}{tk:Int->Nat}{s:Bw}{T:St}(h:rR g B W a nb lw tk s T)(v x:Int):rR g B W a nb lw tk (mK s v x) (T.set lw (.map false [.u32] (lwF s.vis (s.low.set (s.vis.idxOf v) x)))):=by obtain⟨⟨tS,tB,CS,ea,hW,⟨hA,Z6⟩,hN,hL,⟨hS,M4⟩,A5,⟨n1,n2,n3⟩,⟨b1,b2,b3,b4⟩⟩,hc,d1,d2,d3,d4⟩:=h;have m1:¬W=lw:=bH hW hL sS;have m2:¬tS=lw:=bH hS hL sS;have m3:¬tB=lw:=bH A5 hL sS;have m4:¬a=lw:=n2;have m5:¬nb=lw:=n3;exact⟨⟨tS,tB,CS,ea,by simp[m1,hW,mK],⟨by simp[m4,hA],Z6⟩,by simp[m5,hN,mK],by simp[mK],⟨by simp[m2,hS],M4⟩,by simp[m3,A5,mK],⟨n1,n2,n3⟩,b1,b2,by simpa using b3,by simpa using b4⟩,hc,by simpa using d1,by simpa using d2,by simpa using d3,by simpa using d4⟩
def VsI(g:Gr)(tk:Int->Nat)(F6:Nat->Bw->Bw->Prop)(B W a nb lw:Nat)(s0:Bw)(v YO:Int)(st:St)(j:Nat)(fr:Frm)(st2:St):Prop:=
 fr 0=.pt W 0/\fr 1=u v/\fr 2=i YO/\fr 6=i ((s0.vis.length:Int)+1)/\fr 35=.sl (tk v) (atP g.es v).length (isN (atP g.es v))/\
 ∃ s D T N,F6 j s0 s/\BLp g s0 v YO ((atP g.es v).take j) s D T N/\(∀ w∈s.vis,w∈g.vs)/\rR g B W a nb lw tk s st2/\KbB B st st2
theorem TV(g:Gr)(hg:GoodE g)(B W a nb lw:Nat)(tk:Int->Nat)(hv:g.vs.length<=100)(he:g.es.length<=200):∀(n:Nat) (A:Int->Prop) (s:Bw) (v YO:Int) (st:St),yK g A s v YO->v∈g.vs->(∀ w∈s.vis,w∈g.vs)->g.vs.length<=n+s.vis.length->SzB g s->rR g B W a nb lw tk s st->
 aB prog 70 [.pt W 0,u v,i YO] st fun r st'=>∃ s1,nT g.es n v YO s=some s1/\rR g B W a nb lw tk s1 st'/\KbB B st st':=by
 intro n;induction n with
 |zero=>intro A s v YO st h hvv hs hn _ _;obtain⟨s1,C,T,N,e,_⟩:=Ez hg 0 A s v YO h hvv hs hn;cases e
 |succ n ih=>
  intro A s0 v YO st h0 hvv hs hn ZH Z4;obtain⟨D8,hsb⟩:=Bd hv he h0.nd hs;obtain⟨⟨tS,tB,CS,ea,hW,⟨hA,Z6⟩,hN,hL,⟨hS,M4⟩,A5,⟨n1,n2,n3⟩,⟨b1,b2,b3,b4⟩⟩,⟨c1,c2,c3,c4⟩,d1,d2,d3,d4⟩:=Z4;have m4:¬W=a:=bH hW hA sS;have m5:¬W=nb:=bH hW hN sS;have m6:¬W=lw:=bH hW hL sS;have Xl:=JQ s0.vis 0;have O8:=Se h0.new;have ZJ:=xA s0.vis s0.low v ((s0.vis.length:Int)+1) h0.ln h0.new;have hav:=Z6 v;have w1:IntKind.i64.wrap ((s0.vis.length:Int)+1)=(s0.vis.length:Int)+1:=zW;have r1:¬a=nb:=n1;have r2:¬a=lw:=n2;have r3:¬nb=lw:=n3;have r4:¬lw=nb:=fun e=>n3 e.symm;refine zN func70 ntmps70 [] ?_;have hbs:=h0.start;have hstS:(oM s0 v).stk=s0.stk:=rfl;have P2:rR g B W a nb lw tk (oM s0 v) ((st.set nb (.map false [.u32] (nbF 0 (s0.vis++[v])))).set lw (.map false [.u32] (lwF (s0.vis++[v]) (s0.low++[(s0.vis.length:Int)+1])))):=by have q1:¬W=nb:=m5;have q2:¬tS=nb:=bH hS hN sS;have q3:¬tS=lw:=bH hS hL sS;have q4:¬tB=nb:=bH A5 hN sS;have q5:¬tB=lw:=bH A5 hL sS;exact⟨⟨tS,tB,CS,ea,by simp[m5,m6,hW,oM],⟨by simp[r1,r2,hA],Z6⟩,by simp[r3,oM],by simp[oM],⟨by simp[q2,q3,hS],M4⟩,by simp[q4,q5,A5,oM],⟨n1,n2,n3⟩,b1,b2,by simpa using b3,by simpa using b4⟩,⟨c1,c2,c3,c4⟩,by simpa using d1,by simpa using d2,by simpa using d3,by simpa using d4⟩
  have Yj:KbB B st ((st.set nb (.map false [.u32] (nbF 0 (s0.vis++[v])))).set lw (.map false [.u32] (lwF (s0.vis++[v]) (s0.low++[(s0.vis.length:Int)+1])))):=((KbB.refl B st).set c3 _).set c4 _;have hv0:∀ w∈(oM s0 v).vis,w∈g.vs:=fun w hw=>by
   have hw:w∈s0.vis++[v]:=hw;rcases aAg.1 hw with k|k
   .exact hs w k
   .rw[aAl]at k;rw[k];exact hvv
  by_cases B8:atP g.es v=[]
  .rw[aAe B8]at hav;have D9:nT g.es (n+1) v YO s0=some (oM s0 v):=by unfold nT;rw[B8];rfl
   (repeat' (first|apply qS|apply qB|(refine zE ?_;intro J hJ;simp[hW,hN,hL,hA,m4,m5,m6,Xl,O8,ZJ,hav,w1,r1,r2,r3,r4];refine zJ hJ ?_)))
   refine bD 37 36 38 137 (0) (fun j fr st2=>st2=(st.set nb (.map false [.u32] (nbF 0 (s0.vis++[v])))).set lw (.map false [.u32] (lwF (s0.vis++[v]) (s0.low++[(s0.vis.length:Int)+1])))) ?_ ?_ ?_
   .rfl
   .intro j fr s dN;omega
   .rintro fr s O7;rw[O7]
    skip
    exact⟨trivial,_,D9,P2,Yj⟩
  .rw[aAa B8]at hav;have hnd:(atP g.es v).Nodup:=aCM _ aDH;have hatl:(atP g.es v).length<=g.es.length:=BZ hnd fun i hi=>(aU.1 hi).1
   (repeat' (first|apply qS|apply qB|(refine zE ?_;intro J hJ;simp[hW,hN,hL,hA,m4,m5,m6,Xl,O8,ZJ,hav,w1,r1,r2,r3,r4];refine zJ hJ ?_)))
   clear hW hN hL hA Z6 hS M4 A5 Xl O8 ZJ hav m4 m5 m6 r1 r2 r3 r4 n1 n2 n3 b1 b2 b3 b4 d1 d2 d3 d4;refine bD 37 36 38 137 ((atP g.es v).length) (fun j fr st2=>VsI g tk (fun j s' s=>goB (gD (nT g.es n) g.es v YO ((s0.vis.length:Int)+1)) ((atP g.es v).take j) (oM s' v)=some s) B W a nb lw s0 v YO st j fr st2) ?_ ?_ ?_
   .exact⟨sS,sS,sS,sS,sS,oM s0 v,[],[],[],rfl,hbs,hv0,P2,Yj⟩
   .rintro j fr s1 dN ⟨f0,f1,f2,f6,f35,s,D,T,N,F6,ZT,N7,Z4,B5⟩ fi fn JO hJO;have hgt:(atP g.es v).getD j 0=(atP g.es v)[j]:=by rw[aAc,aAd dN];rfl
    have YP:(atP g.es v).take (j+1)=(atP g.es v).take j++[(atP g.es v).getD j 0]:=by rw[aAn dN,hgt]
    have hi:(atP g.es v).getD j 0∈atP g.es v:=by rw[hgt];exact aAu _
    have hiQ:(atP g.es v).getD j 0∉(atP g.es v).take j:=fun k=>by have h1:=hnd;rw[<- aAH (j+1) (atP g.es v),YP,aAF,aAs]at h1;exact h1.2.2 _ k _ sS rfl
    have hd:=Pz (atP g.es v) j dN;generalize (atP g.es v).getD j 0=i0 at *;obtain⟨hil,hie⟩:=aU.1 hi;have next:∀ s2,gD (nT g.es n) g.es v YO ((s0.vis.length:Int)+1) s i0=some s2->goB (gD (nT g.es n) g.es v YO ((s0.vis.length:Int)+1)) ((atP g.es v).take (j+1)) (oM s0 v)=some s2:=fun s2 e=>by rw[YP,Ku,F6];exact e
    by_cases hb:(i0:Int)=YO
    .have K5:((i0:Int)==YO)=true:=by simpa using hb
     (repeat' (first|apply qS|refine qX (zZ ?_)|(apply qC;simp[f0,f2,f35,fi,fn,hd,dN,K5])|(refine zE ?_;intro J hJ;simp[f0,f2,f35,fi,fn,hd,dN,K5];refine zJ hJ ?_)))
     exact hJO _ _ (by simp[fi]) (by simp[fn]) ⟨by simp[f0],by simp[f1],by simp[f2],by simp[f6],by simp[f35],s,D,T,N,next s (by unfold gD;rw[aAe hb]),by rw[YP];exact ZT.same hg h0 hi hb,N7,Z4,B5⟩
    have K5:((i0:Int)==YO)=false:=by simpa using hb
    have hbw':=Z4;obtain⟨⟨tS,tB,CS,ea,hW,⟨hA,Z6⟩,hN,hL,⟨hS,M4⟩,A5,⟨n1,n2,n3⟩,⟨b1,b2,b3,b4⟩⟩,-,d1,d2,d3,d4⟩:=hbw';have hde:=aR g.es i0 hil;have hel:=aK g.es;have hi3:i0*3<g.es.length*3:=oO;have y1:¬W=s1.next:=oO;have y2:¬nb=s1.next:=oO;have y3:¬lw=s1.next:=oO;have y4:¬tS=s1.next:=oO;have y5:¬a=s1.next:=oO;have y6:¬tB=s1.next:=oO;obtain⟨w,hw⟩:∃ w,w=oth (eAt g.es i0) v:=⟨_,rfl⟩;have ZZ:w=if(g.es.getD i0 ed0).a=v then(g.es.getD i0 ed0).b else(g.es.getD i0 ed0).a:=hw
    (repeat (apply qS));(refine zE ?_;intro J hJ;simp[f35,fi,fn,hd,dN];refine zJ hJ ?_)
    (repeat (apply qS));(refine zE ?_;intro J hJ;simp[f2];refine zJ hJ ?_)
    (apply qC;simp[K5])
    refine qK (zZ ?_)
    (repeat (apply qS));(refine zE ?_;intro J hJ;simp[f0,hW,hde,hil,hi3,hel];refine zJ hJ ?_)
    (repeat (apply qS));(refine zE ?_;intro J hJ;simp[];refine zJ hJ ?_)
    apply qS;refine DL (fun f T=>f 0=.pt W 0/\f 1=u v/\f 2=i YO/\f 6=i ((s0.vis.length:Int)+1)/\f 35=.sl (tk v) (atP g.es v).length (isN (atP g.es v))/\f 36=i (atP g.es v).length/\f 37=i j/\f 8=i i0/\f 10=u w/\∃ o,T=s1.new o) ?_ ?_
    .have hxg:g.es.getD i0 ed0=g.es[i0]:=cU _ _ hil;rw[hxg]at ZZ;by_cases W5:g.es[i0].a=v
     .have hxb:(g.es[i0].a==v)=true:=by simpa using W5
      rw[aAe W5]at ZZ
      (repeat' (first|apply qS|(apply qC;simp[f0,f1,hxb])|(refine zE ?_;intro J hJ;simp[f0,f1,hxb];refine zJ hJ ?_)))
      exact⟨trivial,by simp[f0],by simp[f1],by simp[f2],by simp[f6],by simp[f35],by simp[fn],by simp[fi],sS,by rw[ZZ];simp,_,rfl⟩
     .have hxb:(g.es[i0].a==v)=false:=by simpa using W5
      rw[aAa W5]at ZZ
      (repeat' (first|apply qS|refine qK (zZ ?_)|(apply qC;simp[f0,f1,hxb])|(refine zE ?_;intro J hJ;simp[f0,f1,hxb];refine zJ hJ ?_)))
      exact⟨trivial,by simp[f0],by simp[f1],by simp[f2],by simp[f6],by simp[f35],by simp[fn],by simp[fi],sS,by rw[ZZ];simp,_,rfl⟩
    clear f0 f1 f2 f6 f35 fi fn hd hde ZZ fr;rintro fr T ⟨f0,f1,f2,f6,f35,f36,f37,f8,f10,o,hT⟩;rw[hT];clear hT T;subst hw;have hW':=(show(s1.new o).H W=s1.H W by rw[cA,aAa y1]).trans hW;have hN':=(show(s1.new o).H nb=s1.H nb by rw[cA,aAa y2]).trans hN;have hL':=(show(s1.new o).H lw=s1.H lw by rw[cA,aAa y3]).trans hL;have hS':=(show(s1.new o).H tS=s1.H tS by rw[cA,aAa y4]).trans hS;have M3:=(show(s1.new o).H a=s1.H a by rw[cA,aAa y5]).trans hA;have X6:=(show(s1.new o).H tB=s1.H tB by rw[cA,aAa y6]).trans A5;have hbT:rR g B W a nb lw tk s (s1.new o):=Z4.keeps (aA.new _ _);have hkT:KbB B st (s1.new o):=B5.new oO o;have hTn:(s1.new o).next=s1.next+1:=aF _ _;generalize s1.new o=T1 at *;obtain⟨szp,szo⟩:=ZH.child ZT;obtain⟨vl,sb⟩:=Bd hv he ZT.nd N7;have hm:=Je s.vis (oth (eAt g.es i0) v);have m5:¬W=nb:=bH hW hN sS;have m6:¬W=lw:=bH hW hL sS;have m1:¬W=tS:=bH hW hS sS;have hCS:s.stk.length<=CS.length:=by have:=congrArg List.length M4;rw[aAo,kF]at this;omega
    have t1:¬W=T1.next:=oO;have t2:¬W=T1.next+1:=oO;have t3:¬tS=T1.next:=oO;obtain⟨hpb,hpk⟩:=Qm i0 hW' M3 Z6 hN' hL' hS' X6 ⟨n1,n2,n3⟩ ⟨b1,b2,oO,oO⟩ ⟨c1,c2,c3,c4⟩ ⟨oO,oO,oO,oO⟩ (.own 3 1 1);by_cases Xt:oth (eAt g.es i0) v∈s.vis
    .rw[aAe Xt]at hm;have Yb:1<=nmW s.vis (oth (eAt g.es i0) v):=by unfold nmW;rw[aAe Xt];omega
     by_cases J5:nmW s.vis (oth (eAt g.es i0) v)<(s0.vis.length:Int)+1
     .have W4:=ZT.back hg h0 hi hiQ hb Xt J5;have YJ:gD (nT g.es n) g.es v YO ((s0.vis.length:Int)+1) s i0=some (mK (dZ s i0) v (min (lwW s v) (nmW s.vis (oth (eAt g.es i0) v)))):=by unfold gD;rw[aAa hb,aAe Xt,aAe J5]
      generalize oth (eAt g.es i0) v=w at *;generalize nmW s.vis w=z at *;have hzb:(z==0)=false:=by rw[aCQ];omega
      have F5:¬z=0:=oO
      (repeat' (first|apply qS|apply qB|(apply qC;simp[f0,f1,f6,f8,f10,hW',hN',hm,hzb,F5,J5,hS',M4,hCS,m1,t1,t2,t3])|(refine zE ?_;intro J hJ;simp[f0,f1,f6,f8,f10,hW',hN',hm,hzb,F5,J5,hS',M4,hCS,m1,t1,t2,t3];(repeat refine ca ?_);refine zJ hJ ?_)))
      refine AO (fun f T2=>f 0=.pt W 0/\f 1=u v/\f 2=i YO/\f 6=i ((s0.vis.length:Int)+1)/\f 35=.sl (tk v) (atP g.es v).length (isN (atP g.es v))/\f 36=i (atP g.es v).length/\f 37=i j/\f 11=i z/\rR g B W a nb lw tk (dZ s i0) T2/\KbB B T1 T2) ⟨by simp[f0],by simp[f1],by simp[f2],by simp[f6],by simp[f35],by simp[f36],by simp[f37],sS,hpb,hpk⟩ ?_;clear f0 f1 f2 f6 f35 f36 f37 f8 f10 hpb hpk fr;rintro fr T2 ⟨f0,f1,f2,f6,f35,f36,f37,f11,Zh,Xx⟩;have Zs:=Pp Zh v (min (lwW s v) z);have ZJ:=tO s.vis s.low v ZT.ln (ZT.v_in hg h0);have C5:=qA s.vis s.low v (min (lwW s v) z) ZT.ln (ZT.v_in hg h0);obtain⟨⟨tS2,tB2,CS2,ea2,jW,-,-,jL,-,-,-,-⟩,-,-⟩:=Zh;have jm6:¬W=lw:=bH jW jL sS;have jL:T2.H lw=.map false [.u32] (lwF s.vis s.low):=jL;have ZJ:bR (lwF s.vis s.low) [v]=some (i (lwW s v)):=ZJ
      (refine zS [] [W,lw] [0,2,4,6,8,10,12,14,16,18,20,22,24,27] ?_;intro J hJ;simp[f0,f1,f11,jW,jL,ZJ,C5];refine zJ hJ ?_)
      have Yo:(if z<lwW s v then z else lwW s v)=min (lwW s v) z:=by split<;>omega
      rw[Yo,show bQ (lwF s.vis s.low) [v] (LV.atom (Value.int IntKind.i64 (min (lwW s v) z)))=_ from C5];exact hJO _ _ (by simp[f37]) (by simp[f36]) ⟨by simp[f0],by simp[f1],by simp[f2],by simp[f6],by simp[f35],_,D,T++[i0],N,next _ YJ,by rw[YP];exact W4,N7,Zs,(hkT.trans Xx).set c4 _⟩
     .have hskip:=ZT.skip hg h0 hi Xt J5;have YJ:gD (nT g.es n) g.es v YO ((s0.vis.length:Int)+1) s i0=some s:=by unfold gD;rw[aAa hb,aAe Xt,aAa J5]
      generalize oth (eAt g.es i0) v=w at *;generalize nmW s.vis w=z at *;have hzb:(z==0)=false:=by rw[aCQ];omega
      have F5:¬z=0:=oO
      (repeat' (first|apply qS|apply qB|refine qK (zZ ?_)|(apply qC;simp[f0,f1,f6,f10,hW',hN',hm,hzb,F5,J5])|(refine zE ?_;intro J hJ;simp[f0,f1,f6,f10,hW',hN',hm,hzb,F5,J5];refine zJ hJ ?_)))
      exact hJO _ _ (by simp[f37]) (by simp[f36]) ⟨by simp[f0],by simp[f1],by simp[f2],by simp[f6],by simp[f35],s,D,T,N,next s YJ,by rw[YP];exact hskip,N7,hbT,hkT⟩
    .rw[aAa Xt]at hm;have Y0:=ZT.pre hg h0 hi Xt;have u9:=fun s1 C T' N' hp=>ZT.child hg h0 hi hiQ hb Xt (s1:=s1) (C:=C) (T':=T') (N':=N') hp;have hwv:oth (eAt g.es i0) v∈g.vs:=hg.nbr (lQ hi);have hwne:=tA hg hi;have YJ:gD (nT g.es n) g.es v YO ((s0.vis.length:Int)+1) s i0=(nT g.es n (oth (eAt g.es i0) v) i0 (dZ s i0)).bind (MY g.es.length v ((s0.vis.length:Int)+1) i0 (oth (eAt g.es i0) v)):=by unfold gD;rw[aAa hb,aAa Xt]
     generalize oth (eAt g.es i0) v=w at *
     (repeat' (first|apply qS|apply qB|(apply qC;simp[f0,f1,f6,f8,f10,hW',hN',hm,hS',M4,hCS,m1,t1,t2,t3])|(refine zE ?_;intro J hJ;simp[f0,f1,f6,f8,f10,hW',hN',hm,hS',M4,hCS,m1,t1,t2,t3];(repeat refine ca ?_);(try refine zJ hJ ?_))))
     have hlen:s.vis.length=s0.vis.length+1+D.length:=by rw[ZT.vis,aAh,List.length_cons];omega
     refine qE (ih _ (dZ s i0) w i0 _ Y0 hwv N7 (by show g.vs.length<=n+s.vis.length;omega) ⟨by simpa[dZ]using szp,szo⟩ hpb) sS ?_;rintro r T2 ⟨s2,D9,c7,Xx⟩;obtain⟨s2',C,T',N',hvis',hp,hC⟩:=Ez hg n _ (dZ s i0) w i0 Y0 hwv N7 (by show g.vs.length<=n+s.vis.length;omega);obtain rfl:s2=s2':=by rw[D9]at hvis';exact aBb hvis'
     clear hvis';obtain⟨s3,D2,T3,N2,x8,hbl3⟩:=u9 s2 C T' N' hp;have hst3:gD (nT g.es n) g.es v YO ((s0.vis.length:Int)+1) s i0=some s3:=by rw[YJ,D9];exact x8
     have hkT2:KbB B st T2:=(hkT.trans hpk).trans Xx;have A4:v∈s.vis:=ZT.v_in hg h0;have hvs2:v∈s2.vis:=by rw[hp.vis];exact aAw _ A4
     have hws2:w∈s2.vis:=by rw[hp.vis];exact aAI _ hp.hd
     have hs2v:∀ x∈s2.vis,x∈g.vs:=fun x hx=>by rw[hp.vis,aAg]at hx;exact hx.elim (N7 x) (hC x)
     have hmv:bR (lwF s2.vis s2.low) [v]=some (i (lwW s2 v)):=tO s2.vis s2.low v hp.ln hvs2;have hmw:bR (lwF s2.vis s2.low) [w]=some (i (lwW s2 w)):=tO s2.vis s2.low w hp.ln hws2;have C5:=qA s2.vis s2.low v (min (lwW s2 v) (lwW s2 w)) hp.ln hvs2;have Zs:=Pp c7 v (min (lwW s2 v) (lwW s2 w));have hmw3:bR (lwF s2.vis (s2.low.set (s2.vis.idxOf v) (min (lwW s2 v) (lwW s2 w)))) [w]=some (i (lwW s2 w)):=by have h1:=tO s2.vis (s2.low.set (s2.vis.idxOf v) (min (lwW s2 v) (lwW s2 w))) w (by rw[aCI];exact hp.ln) hws2;have h2:=Dq (x:=min (lwW s2 v) (lwW s2 w)) hp.ln hvs2 hws2;rw[aAa hwne]at h2;rw[h1];exact congrArg (fun y=>some (i y)) h2
     obtain⟨⟨tS2,tB2,CS2,ea2,jW,-,-,jL,-,-,-,-⟩,-,-⟩:=c7;have jm6:¬W=lw:=bH jW jL sS;have Yo:(if lwW s2 w<lwW s2 v then lwW s2 w else lwW s2 v)=min (lwW s2 v) (lwW s2 w):=by split<;>omega
     (apply aD;simp[];refine zJ hJ ?_)
     (repeat (apply qS));(refine zS [] [W,lw] [0,2,4,6,8,10,12,14,16,18,20,22,24,26,28,30,32,34,37] ?_;intro J hJ;simp[f0,f1,f10,jW,jL,hmv,hmw];refine zJ hJ ?_)
     rw[Yo,show bQ (lwF s2.vis s2.low) [v] (LV.atom (Value.int IntKind.i64 (min (lwW s2 v) (lwW s2 w))))=_ from C5];have hW3:(T2.set lw (.map false [.u32] (lwF s2.vis (s2.low.set (s2.vis.idxOf v) (min (lwW s2 v) (lwW s2 w)))))).H W=T2.H W:=by rw[bN,aAa jm6]
     unfold MY at x8;by_cases hc:(s0.vis.length:Int)+1<=lwW s2 w
     .rw[aAe hc]at x8;have S5:s2.stk=s.stk++i0::T':=by rw[hp.stk];show(s.stk++[i0])++T'=_;simp
      have hiT:i0∉T':=fun k=>((hp.pl i0).1 (aAw _ k)).2.1 rfl;have hTn:=(aAs.1 hp.pn).1;have hTl:∀ k∈T',k<g.es.length:=fun k hk=>((hp.pl k).1 (aAw _ hk)).1;have hTlen:=BZ hTn hTl;have hNl:=yQ N' fun B hB=>(hp.good B hB).ne;have hNf:=BZ (aAs.1 hp.pn).2.1 fun k hk=>((hp.pl k).1 (aAI _ hk)).1;have W7:s2.out.length=s.out.length+N'.length:=by rw[hp.out,aAh];rfl
      have hk2l:s2.stk.length=s.stk.length+1+T'.length:=by rw[S5,aAh,List.length_cons];omega
      have B9:iW s2.stk i0=s.stk.length:=by rw[S5];exact vV hiT
      have hdrop:s2.stk.drop (iW s2.stk i0)=i0::T':=by rw[B9,S5,aDw]
      have YS:=Wq g hg.ids B W a nb lw tk (mK s2 v (min (lwW s2 v) (lwW s2 w))) i0 _ Zs (by show i0∈s2.stk;rw[S5];simp)
       (by show ∀ k∈s2.stk.drop (iW s2.stk i0),k<g.es.length
           rw[hdrop];intro k hk;rcases aAf.1 hk with e|e
           .rw[e];exact hil
           .exact hTl k e)
       (by show(s2.stk.drop (iW s2.stk i0)).Nodup
           rw[hdrop];exact aAD.2 ⟨hiT,hTn⟩) oO (by show s2.stk.length<=60000;omega) (by show s2.out.length<=100000;omega)
      (repeat' (first|apply qS|(apply qC;simp[f0,f6,f8,f10,jW,jm6,hmw3,hc])|(refine zE ?_;intro J hJ;simp[f0,f6,f8,f10,jW,jm6,hmw3,hc];(try refine zJ hJ ?_))))
      refine qE YS sS ?_;rintro r T4 ⟨s4,hcw,hb4,Yg⟩;obtain rfl:s4=s3:=by rw[hcw]at x8;exact aBb x8
      have hv4:s4.vis=s2.vis:=by
       unfold GO at hcw
       split at hcw
       .cases hcw;rfl
       .cases hcw
      (repeat' (apply aD;simp[];refine zJ hJ ?_))
      exact hJO _ _ (by simp[f37]) (by simp[f36]) ⟨by simp[f0],by simp[f1],by simp[f2],by simp[f6],by simp[f35],_,D2,T3,N2,next _ hst3,by rw[YP];exact hbl3,fun x hx=>hs2v x (by rw[<- hv4];exact hx),hb4,(hkT2.set c4 _).trans Yg⟩
     .rw[aAa hc]at x8;obtain rfl:=aBb x8
      (repeat' (first|apply qS|refine qK (zZ ?_)|(apply qC;simp[f0,f6,f10,jW,jm6,hmw3,hc])|(refine zE ?_;intro J hJ;simp[f0,f6,f10,jW,jm6,hmw3,hc];refine zJ hJ ?_)))
      exact hJO _ _ (by simp[f37]) (by simp[f36]) ⟨by simp[f0],by simp[f1],by simp[f2],by simp[f6],by simp[f35],_,D2,T3,N2,next _ hst3,by rw[YP];exact hbl3,hs2v,Zs,hkT2.set c4 _⟩
   .rintro fr s1 ⟨f0,f1,f2,f6,f35,s,D,T,N,F6,ZT,N7,Z4,B5⟩;rw[aAQ]at F6
    skip
    exact⟨trivial,s,F6,Z4,B5⟩
theorem NP{P:Program}{N:Nat}{Q:AQ}{k:List fQ}{fr:Frm}{st:St}{x:Code}(I:Frm->St->Prop)(h1:AWp P N x (AK P N (fun e f s=>e=.normal/\I f s) []) fr st)(h2:∀ fr st,I fr st->AK P N Q k .normal fr st):
 AWp P N x (AK P N Q k) fr st:=by
 refine cZ h1 ?_;rintro e Xj st' ⟨rfl,hI⟩;exact h2 _ _ hI
theorem Ci{P:Program}{N:Nat}{Q:AQ}{fr:Frm}{st:St}{c:Code}(q e' s':Nat){e s:Nat}(pre post:List LV)(hH:st.H q=.box e s (pre++.nil::post))
 (h:AWp P N c Q fr ((st.new (.box e' s' [])).set q (.box e s (pre++.ms st.next 0 0::post)))):AWp P N c Q fr st:=by
 refine gU (fun a w g hi hr _=>?_) h;have he:=ext_nil w g;have h1:Inv w g.addNil (st.new (.box e' s' [])):=iN hi _ (.inr ⟨e',s',rfl⟩);have dN:q<st.next:=BA hi hH sS;refine⟨g.addNil,Ak h1 (cs:=pre++.nil::post) (by rw[cA,aAa oO];exact hH) sS (fun vs hv=>?_),hr.mono he,he⟩;obtain⟨v,k1,k2⟩:=mX pre vs hv;refine k2 g.addNil _ (Ext.refl _ _) ?_;simp only[Rep]at k1 ⊢;exact⟨none,0,k1,aAi _,aBr _,fun _=>by simp[G.addNil,hi.next],fun h=>absurd rfl h,by simp[G.addNil,hi.next]⟩
structure AtR(lo:Nat)(ρ:Int->List Nat)(ea:List (List Int×LV))(tk:Int->Nat)(st:St):Prop where
 get:∀ v,bR ea [v]=if ρ v=[]then none else some (.sl (tk v) (ρ v).length (isN (ρ v)))
 own:∀ v,ρ v≠[]->st.H (tk v)=.own 3 1 (ρ v).length/\(tk v≠0/\lo<=tk v/\tk v<st.next)
 inj:∀ v w,ρ v≠[]->ρ w≠[]->tk v=tk w->v=w
def mC(ρ:Int->List Nat)(v:Int)(k:Nat):Int->List Nat:=fun w=>if w=v then ρ v++[k]else ρ w
theorem AtR.put{lo:Nat}{ρ:Int->List Nat}{ea:List (List Int×LV)}{tk:Int->Nat}{st st':St}(h:AtR lo ρ ea tk st)(v:Int)(k:Nat){t n:Nat}(hn:n=(ρ v).length+1)(ht:st.next<=t/\t<st'.next/\t≠0/\lo<=t)(hH:st'.H t=.own 3 1 n)
 (ho:∀ w,w≠v->ρ w≠[]->st'.H (tk w)=st.H (tk w)) (hl:st.next<=st'.next):AtR lo (mC ρ v k) (bQ ea [v] (.sl t n (isN (ρ v)++[i (k:Int)]))) (fun w=>if w=v then t else tk w) st' where
 get:=fun w=>by
  rw[qJ];unfold mC;by_cases e:w=v
  .subst e;rw[aAe rfl,aAe rfl,aAe rfl,aAa sS,hn];simp[isN]
  .rw[aAa (by simpa using e),aAa e,aAa e];exact h.get w
 own:=fun w hw=>by
  unfold mC at hw ⊢;by_cases e:w=v
  .rw[aAe e,aAe e];exact⟨by rw[hH,hn];simp,ht.2.2.1,ht.2.2.2,ht.2.1⟩
  .rw[aAa e]at hw;rw[aAa e,aAa e];obtain⟨h1,h2,h3,h4⟩:=h.own w hw;exact⟨by rw[ho w e hw];exact h1,h2,h3,oO⟩
 inj:=fun x y hx hy he=>by
  unfold mC at hx hy;by_cases e1:x=v
  .by_cases e2:y=v
   .rw[e1,e2]
   .rw[aAa e2]at hy;simp only[aAe e1,aAa e2]at he;have:=(h.own y hy).2.2.2;omega
  .rw[aAa e1]at hx;by_cases e2:y=v
   .simp only[aAa e1,aAe e2]at he;have:=(h.own x hx).2.2.2;omega
   .rw[aAa e2]at hy;simp only[aAa e1,aAa e2]at he;exact h.inj x y hx hy he
theorem AtR.keeps{lo:Nat}{ρ:Int->List Nat}{ea:List (List Int×LV)}{tk:Int->Nat}{st st':St}(h:AtR lo ρ ea tk st)(hk:aA st st'):AtR lo ρ ea tk st':=
 ⟨h.get,fun v hv=>by obtain⟨h1,h2,h3,h4⟩:=h.own v hv;exact⟨by rw[hk.H _ h4];exact h1,h2,h3,by have:=hk.next;omega⟩,h.inj⟩
def atK(es:List Ed)(k:Nat)(v:Int):List Nat:=(List.range k).filter fun i=>decide ((eAt es i).a=v\/(eAt es i).b=v)
theorem Po{es:List Ed}{k:Nat}(Wm:(eAt es k).a≠(eAt es k).b):atK es (k+1)=mC (mC (atK es k) (eAt es k).a k) (eAt es k).b k:=by
 funext v
 unfold atK mC;rw[aDL,aBu];by_cases hb:v=(eAt es k).b
 .subst hb;rw[aAe rfl,aAa (fun e=>Wm e.symm)];simp
 .rw[aAa hb];by_cases ha:v=(eAt es k).a
  .subst ha;simp
  .rw[aAa ha];have:¬((eAt es k).a=v\/(eAt es k).b=v):=oO;rw[aDC,aAa (by simpa using this)];simp
def AtI(g:Gr)(p:Nat)(st:St)(ρ:Int->List Nat)(s:St):Prop:=s.H p=.box 25 2 (grL g)/\s.H (p+4)=.box 108 6 [.sl 0 g.es.length (eds g.es),.mp (p+1),.mp (p+2),.mp (p+3),.ms (p+5) 0 0,.ms (p+6) 0 0]/\s.H (p+2)=.map false [.u32] []/\s.H (p+3)=.map false [.u32] []/\s.H (p+5)=.box 3 1 []/\s.H (p+6)=.box 23 1 []/\p+7<=s.next/\aA st s/\
 ∃ ea tk,s.H (p+1)=.map false [.u32] ea/\AtR (p+7) ρ ea tk s
theorem BV{es:List Ed}{n:Nat}:∀(l:List Int) (v:Int) (s:Bw),tC es n (l++[v]) s=(tC es n l s).bind fun s'=>tC es n [v] s'
 |[],v,s=>rfl
 |w::l,v,s=>by
  simp only[List.cons_append,tC]
  split
  .exact BV l v s
  .cases nT es n w (-1) s with
   |none=>rfl
   |some s'=>exact BV l v s'
theorem JN.sz{g:Gr}{s:Bw}(h:JN g s):SzB g s:=by
 have h1:=yQ s.out fun B hB=>(h.good B hB).ne;have h2:=BZ h.pn fun i hi=>((h.pl i).1 hi).1;unfold SzB;rw[h.stk];refine⟨aBr _,?_⟩;cases hv:s.vis with
 |nil=>
  have:s.out.flatten=[]:=aCw.2 fun i hi=>by have:=((h.pl i).1 hi).2;rw[hv]at this;cases this
  rw[this]at h1;rw[List.length_nil,aDt];exact h1
 |cons w V=>rw[List.length_cons,aBU];omega
theorem AtI.keeps{g:Gr}{p:Nat}{st:St}{ρ:Int->List Nat}{s s':St}(h:AtI g p st ρ s)(hk:aA s s'):AtI g p st ρ s':=by obtain⟨h0,h1,h2,h3,h4,h5,h6,h7,ea,tk,h8,h9⟩:=h;have:=hk.next;exact⟨(hk.H _ oO).trans h0,(hk.H _ oO).trans h1,(hk.H _ oO).trans h2,(hk.H _ oO).trans h3,(hk.H _ oO).trans h4,(hk.H _ oO).trans h5,oO,h7.trans hk,ea,tk,(hk.H _ oO).trans h8,h9.keeps hk⟩
theorem FX:∀ {out:List (List Nat)},(∀ B∈out,B≠[])->out.length<=out.flatten.length
 |[],_=>by simp
 |B::out,h=>by have h1:=FX (out:=out) fun B hB=>h B (aAk _ hB);have h2:=aBi.2 (h B sS);simp only[List.length_cons,List.flatten_cons,aAh];omega
theorem SI{es:List Ed}{out:List (List Nat)}(hall:∀ i,i∈out.flatten↔i<es.length)(n9:∀ B∈out,dH es B)(hnd:out.flatten.Nodup):out.length<=es.length:=by have h1:=FX fun B hB=>(n9 B hB).ne;have h2:=aAC hnd fun k hk=>aAX.2 ((hall k).1 hk);rw[aDz]at h2;omega
theorem Re(g:Gr)(hg:GoodE g)(st:St)(hv:g.vs.length<=100)(he:g.es.length<=200):
 aB prog 43 [.ag (grL g)] st fun r st'=>∃ q,r=.ms q 0 (fA g.es).length/\st'.H q=.box 23 1 (bkL g.es (fA g.es))/\st.next<=q/\q<st'.next/\aA st st':=by
 obtain⟨S,hS,hSk,hSa,hSn,Yl⟩:=rH hg;have hel:=aK g.es;have D4:=hg.ids;refine zN func43 ntmps43 [.tmp 2] ?_;refine eN fun Yh=>?_;have x1:¬st.next=st.next+1:=oO;have x2:¬st.next=st.next+1+1:=oO;have x3:¬st.next=st.next+1+1+1:=oO;have x4:¬st.next=st.next+1+1+1+1:=oO;have x5:¬st.next=st.next+1+1+1+1+1:=oO;have x6:¬st.next=st.next+1+1+1+1+1+1:=oO
 (repeat' (first|apply qS|apply qB|(refine zE ?_;intro J hJ;simp[x1,x2,x3,x4];refine zJ hJ ?_)))
 refine Ci (st.next+1+1+1+1) 3 1 (e:=108) (s:=6) [.sl 0 g.es.length (eds g.es),.mp (st.next+1),.mp (st.next+1+1),.mp (st.next+1+1+1)] [.nil] sS ?_;refine Ci (st.next+1+1+1+1) 23 1 (e:=108) (s:=6) [.sl 0 g.es.length (eds g.es),.mp (st.next+1),.mp (st.next+1+1),.mp (st.next+1+1+1),.ms (st.next+5) 0 0] [] sS ?_;obtain⟨p,hp⟩:∃ p,p=st.next:=⟨_,rfl⟩;refine bD 18 17 19 55 (g.es.length) (fun j fr st2=>fr 1=.pt p 0/\fr 3=.pt (p+4) 0/\fr 16=.sl 0 g.es.length (eds g.es)/\AtI g p st (atK g.es j) st2) ?_ ?_ ?_
 .subst hp;refine⟨sS,sS,sS,?_⟩;refine⟨by simp[x1,x2,x3,x4,x5,x6],?_,sS,sS,sS,sS,sS,?_,[],fun _=>0,sS,⟨fun v=>rfl,fun v hv=>absurd rfl hv,fun v w hv=>absurd rfl hv⟩⟩
  .simp
  ·(repeat (first|exact aA.refl _|(refine aA.trans ?_ (aA.new _ _))|(refine aA.set ?_ oO _)))
 .clear x1 x2 x3 x4 x5 x6;rintro j fr s dN ⟨f1,f3,f16,hI⟩ fi fn JO hJO;have hde:=aR g.es j dN;have hj3:j*3<g.es.length*3:=oO;have Wm:=hg.ne _ (nW dN);have hsu:=Po (es:=g.es) (k:=j) Wm;rw[hsu]at hJO;clear hsu;unfold eAt at hJO;generalize g.es.getD j ed0=x at *;obtain⟨id,xa,xb⟩:=x;simp only at hJO hde;have hρ:∀ w,(atK g.es j w).length<=10000:=fun w=>by have:=aBe (fun i=>decide ((eAt g.es i).a=w\/(eAt g.es i).b=w)) (List.range j);rw[aDz]at this;unfold atK;omega
  generalize atK g.es j=ρ at *;have Y5:p+7<=s.next:=hI.2.2.2.2.2.2.1
  (repeat' (first|apply qS|(refine zE ?_;intro J hJ;simp[f1,f3,f16,fi,fn,hde,dN,hj3,hel];refine zJ hJ ?_)))
  refine AO (fun f T=>f 1=.pt p 0/\f 3=.pt (p+4) 0/\f 4=i j/\f 5=.pt s.next 0/\f 16=.sl 0 g.es.length (eds g.es)/\f 17=i g.es.length/\f 18=i j/\s.next<T.next/\T.H s.next=.box 56 3 [u id,u xa,u xb]/\AtI g p st (ρ) T) ⟨by simp[f1],by simp[f3],sS,sS,by simp[f16],by simp[fn],by simp[fi],sS,sS,hI.keeps (aA.new _ _)⟩ ?_;generalize s.next=X at *;clear f1 f3 f16 fi fn hI fr;rintro fr s2 ⟨f1,f3,f4,f5,f16,fn,fi,hXl,hX,hI⟩;refine DL (fun f T=>f 1=.pt p 0/\f 3=.pt (p+4) 0/\f 4=i j/\f 5=.pt X 0/\f 16=.sl 0 g.es.length (eds g.es)/\f 17=i g.es.length/\f 18=i j/\X<T.next/\T.H X=.box 56 3 [u id,u xa,u xb]/\AtI g p st (mC ρ xa j) T) ?_ ?_
  .obtain⟨hG,hW,hN,hL,hS,hB,YL,Xm,ea,tk,hA,hR⟩:=hI;have Yi:=hR.get xa;have k1:¬X=s2.next:=oO;have k2:¬X=s2.next+1:=oO;have k3:¬X=p+1:=oO;have e0:¬p+4=s2.next:=oO;have e1:¬p+1=s2.next:=oO;have e2:¬p+2=s2.next:=oO;have e3:¬p+3=s2.next:=oO;have e4:¬p=s2.next:=oO;have e5:¬p+5=s2.next:=oO;have e6:¬p+6=s2.next:=oO;have e7:¬p+4=s2.next+1:=oO;have e8:¬p+1=s2.next+1:=oO;have e9:¬p+2=s2.next+1:=oO;have Q8:¬p+3=s2.next+1:=oO;have e11:¬p=s2.next+1:=oO;have e12:¬p+5=s2.next+1:=oO;have e13:¬p+6=s2.next+1:=oO;have e14:¬s2.next+1=p+1:=oO;have e15:¬s2.next=p:=oO;have tkl:∀ w,ρ w≠[]->¬tk w=s2.next/\¬tk w=s2.next+1/\¬tk w=p+1:=fun w hw=>by have:=(hR.own w hw).2;omega
   by_cases hr:ρ xa=[]
   .rw[aAe hr]at Yi
    (refine zS [] [X,p+4,p+1] [0,2,4,6,8,10,12,14,16,18,20,22,24,26,28,30,33] ?_;intro J hJ;simp[f3,f4,f5,hX,hW,hA,Yi,k1,k2,k3,e0,e1,e4,e7,e8,e14,e15];(repeat refine ca ?_);refine zJ hJ ?_)
    have C7:=hR.put xa j (t:=s2.next+1) (n:=1) (st':=(((s2.new (.own 3 1 1)).new (.own 3 1 1)).set (p+1) (.map false [.u32] (bQ ea [xa] (.sl (s2.next+1) 1 [i (j:Int)]))))) (by rw[hr];rfl) ⟨oO,sS,oO,oO⟩ (by simp[e14,e15]) (fun w hw h0=>by obtain⟨t1,t2,t3⟩:=tkl w h0;simp[t1,t2,t3]) (by simp;omega);rw[hr]at C7;refine⟨by trivial,by simp[f1],by simp[f3],by simp[f4],by simp[f5],by simp[f16],by simp[fn],by simp[fi],by simp;omega,by simp[k1,k2,k3,hX],?_⟩;refine⟨by simp[e4,e11,hG],by simp[e0,e7,hW],by simp[e2,e9,hN],by simp[e3,Q8,hL],by simp[e5,e12,hS],by simp[e6,e13,hB],by simp;omega,?_,_,_,by simp<;>rfl,C7⟩
    (repeat (first|exact Xm|(refine aA.trans ?_ (aA.new _ _))|(refine aA.set ?_ oO _)))
   .rw[aAa hr]at Yi;obtain⟨hO,t0,tl,tu⟩:=hR.own xa hr;obtain⟨t1,t2,t3⟩:=tkl xa hr;have t4:¬X=tk xa:=fun e=>by rw[<- e,hX]at hO;cases hO
    have Y7:(isN (ρ xa)).length=(ρ xa).length:=kF _;have hrb:(ρ xa).length<=10000:=hρ _;have p0:¬p=tk xa:=oO;have p1:¬p+1=tk xa:=oO;have p2:¬p+2=tk xa:=oO;have p3:¬p+3=tk xa:=oO;have p4:¬p+4=tk xa:=oO;have p5:¬p+5=tk xa:=oO;have p6:¬p+6=tk xa:=oO
    (refine zS [] [X,p+4,p+1] [0,2,4,6,8,10,12,14,16,18,20,22,24,26,28,30,33] ?_;intro J hJ;simp[f3,f4,f5,hX,hW,hA,Yi,hO,Y7,t0,t1,t4,p1,p4,k1,k2,k3,e0,e1,e4,e7,e8,e14,e15];(repeat refine ca ?_);refine zJ hJ ?_)
    have C7:=hR.put xa j (t:=s2.next+1) (n:=(ρ xa).length+1) (st':=((((s2.new (.own 3 1 1)).set (tk xa) .dead).new (.own 3 1 ((ρ xa).length+1))).set (p+1) (.map false [.u32] (bQ ea [xa] (.sl (s2.next+1) ((ρ xa).length+1) (isN (ρ xa)++[i (j:Int)]))))) ) rfl ⟨oO,sS,oO,oO⟩ (by simp[e14,e15]) (fun w hw h0=>by obtain⟨u1,u2,u3⟩:=tkl w h0;have u4:¬tk w=tk xa:=fun e=>hw (hR.inj w xa h0 hr e);simp[u1,u2,u3,u4]) (by simp;omega);refine⟨by trivial,by simp[f1],by simp[f3],by simp[f4],by simp[f5],by simp[f16],by simp[fn],by simp[fi],by simp;omega,by simp[k1,k2,k3,t4,hX],?_⟩;refine⟨by simp[p0,e4,e11,hG],by simp[p4,e0,e7,hW],by simp[p2,e2,e9,hN],by simp[p3,e3,Q8,hL],by simp[p5,e5,e12,hS],by simp[p6,e6,e13,hB],by simp;omega,?_,_,_,by simp<;>rfl,C7⟩
    (repeat (first|exact Xm|(refine aA.trans ?_ (aA.new _ _))|(refine aA.set ?_ oO _)))
  clear f1 f3 f4 f5 f16 fi fn hXl hX hI fr s2;rintro fr s2 ⟨f1,f3,f4,f5,f16,fn,fi,hXl,hX,hI⟩;have hρ':∀ w,((mC ρ xa j) w).length<=10001:=fun w=>by
   have h1:=hρ xa;have h2:=hρ w;unfold mC
   split
   .rw[aAh,List.length_singleton];omega
   .omega
  refine NP (fun f T=>f 1=.pt p 0/\f 3=.pt (p+4) 0/\f 4=i j/\f 5=.pt X 0/\f 16=.sl 0 g.es.length (eds g.es)/\f 17=i g.es.length/\f 18=i j/\X<T.next/\T.H X=.box 56 3 [u id,u xa,u xb]/\AtI g p st (mC (mC ρ xa j) xb j) T) ?_ ?_
  .obtain⟨hG,hW,hN,hL,hS,hB,YL,Xm,ea,tk,hA,hR⟩:=hI;have Yi:=hR.get xb;have k1:¬X=s2.next:=oO;have k2:¬X=s2.next+1:=oO;have k3:¬X=p+1:=oO;have e0:¬p+4=s2.next:=oO;have e1:¬p+1=s2.next:=oO;have e2:¬p+2=s2.next:=oO;have e3:¬p+3=s2.next:=oO;have e4:¬p=s2.next:=oO;have e5:¬p+5=s2.next:=oO;have e6:¬p+6=s2.next:=oO;have e7:¬p+4=s2.next+1:=oO;have e8:¬p+1=s2.next+1:=oO;have e9:¬p+2=s2.next+1:=oO;have Q8:¬p+3=s2.next+1:=oO;have e11:¬p=s2.next+1:=oO;have e12:¬p+5=s2.next+1:=oO;have e13:¬p+6=s2.next+1:=oO;have e14:¬s2.next+1=p+1:=oO;have e15:¬s2.next=p:=oO;have tkl:∀ w,(mC ρ xa j) w≠[]->¬tk w=s2.next/\¬tk w=s2.next+1/\¬tk w=p+1:=fun w hw=>by have:=(hR.own w hw).2;omega
   by_cases hr:(mC ρ xa j) xb=[]
   .rw[aAe hr]at Yi
    (refine zS [] [X,p+4,p+1] [0,2,4,6,8,10,12,14,16,18,20,22,24,26,28,30,33] ?_;intro J hJ;simp[f3,f4,f5,hX,hW,hA,Yi,k1,k2,k3,e0,e1,e4,e7,e8,e14,e15];(repeat refine ca ?_);refine zJ hJ ?_)
    have C7:=hR.put xb j (t:=s2.next+1) (n:=1) (st':=(((s2.new (.own 3 1 1)).new (.own 3 1 1)).set (p+1) (.map false [.u32] (bQ ea [xb] (.sl (s2.next+1) 1 [i (j:Int)]))))) (by rw[hr];rfl) ⟨oO,sS,oO,oO⟩ (by simp[e14,e15]) (fun w hw h0=>by obtain⟨t1,t2,t3⟩:=tkl w h0;simp[t1,t2,t3]) (by simp;omega);rw[hr]at C7;refine⟨by trivial,by simp[f1],by simp[f3],by simp[f4],by simp[f5],by simp[f16],by simp[fn],by simp[fi],by simp;omega,by simp[k1,k2,k3,hX],?_⟩;refine⟨by simp[e4,e11,hG],by simp[e0,e7,hW],by simp[e2,e9,hN],by simp[e3,Q8,hL],by simp[e5,e12,hS],by simp[e6,e13,hB],by simp;omega,?_,_,_,by simp<;>rfl,C7⟩
    (repeat (first|exact Xm|(refine aA.trans ?_ (aA.new _ _))|(refine aA.set ?_ oO _)))
   .rw[aAa hr]at Yi;obtain⟨hO,t0,tl,tu⟩:=hR.own xb hr;obtain⟨t1,t2,t3⟩:=tkl xb hr;have t4:¬X=tk xb:=fun e=>by rw[<- e,hX]at hO;cases hO
    have Y7:(isN ((mC ρ xa j) xb)).length=((mC ρ xa j) xb).length:=kF _;have hrb:((mC ρ xa j) xb).length<=10001:=hρ' _;have p0:¬p=tk xb:=oO;have p1:¬p+1=tk xb:=oO;have p2:¬p+2=tk xb:=oO;have p3:¬p+3=tk xb:=oO;have p4:¬p+4=tk xb:=oO;have p5:¬p+5=tk xb:=oO;have p6:¬p+6=tk xb:=oO
    (refine zS [] [X,p+4,p+1] [0,2,4,6,8,10,12,14,16,18,20,22,24,26,28,30,33] ?_;intro J hJ;simp[f3,f4,f5,hX,hW,hA,Yi,hO,Y7,t0,t1,t4,p1,p4,k1,k2,k3,e0,e1,e4,e7,e8,e14,e15];(repeat refine ca ?_);refine zJ hJ ?_)
    have C7:=hR.put xb j (t:=s2.next+1) (n:=((mC ρ xa j) xb).length+1) (st':=((((s2.new (.own 3 1 1)).set (tk xb) .dead).new (.own 3 1 (((mC ρ xa j) xb).length+1))).set (p+1) (.map false [.u32] (bQ ea [xb] (.sl (s2.next+1) (((mC ρ xa j) xb).length+1) (isN ((mC ρ xa j) xb)++[i (j:Int)]))))) ) rfl ⟨oO,sS,oO,oO⟩ (by simp[e14,e15]) (fun w hw h0=>by obtain⟨u1,u2,u3⟩:=tkl w h0;have u4:¬tk w=tk xb:=fun e=>hw (hR.inj w xb h0 hr e);simp[u1,u2,u3,u4]) (by simp;omega);refine⟨by trivial,by simp[f1],by simp[f3],by simp[f4],by simp[f5],by simp[f16],by simp[fn],by simp[fi],by simp;omega,by simp[k1,k2,k3,t4,hX],?_⟩;refine⟨by simp[p0,e4,e11,hG],by simp[p4,e0,e7,hW],by simp[p2,e2,e9,hN],by simp[p3,e3,Q8,hL],by simp[p5,e5,e12,hS],by simp[p6,e6,e13,hB],by simp;omega,?_,_,_,by simp<;>rfl,C7⟩
    (repeat (first|exact Xm|(refine aA.trans ?_ (aA.new _ _))|(refine aA.set ?_ oO _)))
  rintro fr s3 ⟨f1,f3,f4,f5,f16,fn,fi,hXl,hX,hI⟩;simp only[ak];exact hJO _ _ (by simp[fi]) (by simp[fn]) ⟨f1,f3,f16,hI⟩
 .clear x1 x2 x3 x4 x5 x6;rintro fr s1 ⟨f1,f3,f16,hI⟩;have hI':=hI;obtain⟨hG,hW,hN,hL,M4,hB,YL,Xm,ea,tk,hA,hR⟩:=hI';have Yi:∀ v,bR ea [v]=if atP g.es v=[]then none else some (.sl (tk v) (atP g.es v).length (isN (atP g.es v))):=hR.get
  have P2:rR g (p+1) (p+4) (p+1) (p+2) (p+3) tk ⟨[],[],[],[]⟩ s1:=by refine⟨⟨p+5,p+6,[],ea,hW,⟨hA,Yi⟩,hN,hL,⟨M4,rfl⟩,hB,⟨oO,oO,oO⟩,oO,oO,oO,oO⟩,⟨oO,oO,oO,oO⟩,oO,oO,oO,oO⟩
  have hall0:JN g ⟨[],[],[],[]⟩:=⟨rfl,.nil,fun w hw=>(by cases hw),fun w hw=>(by cases hw),rfl,fun i=>by simp,sS,fun B hB=>(by cases hB)⟩;clear hW hN hL M4 hB hA hR hI
  (repeat' (first|apply qS|apply qB|(refine zE ?_;intro J hJ;simp[f1,hG];refine zJ hJ ?_)))
  refine bD 59 58 60 73 (g.vs.length) (fun j fr st2=>fr 1=.pt p 0/\fr 3=.pt (p+4) 0/\fr 57=.sl 0 g.vs.length (us g.vs)/\KbB (p+1) s1 st2/\∃ sB,tC g.es g.vs.length (g.vs.take j) ⟨[],[],[],[]⟩=some sB/\JN g sB/\rR g (p+1) (p+4) (p+1) (p+2) (p+3) tk sB st2) ?_ ?_ ?_
  .exact⟨by simp[f1],by simp[f3],sS,KbB.refl _ _,_,rfl,hall0,P2⟩
  .clear f1 f3 f16 P2 hall0 fr;rintro j fr s2 dN ⟨f1,f3,f57,B5,sB,hsB,hall,Z4⟩ fi fn JO hJO;have hd:=qG g.vs j dN;have hvm:g.vs.getD j 0∈g.vs:=by rw[aN _ _ dN];exact aAu _
   have YP:g.vs.take (j+1)=g.vs.take j++[g.vs.getD j 0]:=by rw[aAn dN,aN _ _ dN]
   rw[YP,BV,hsB]at hJO;simp only[Option.bind_some]at hJO;generalize g.vs.getD j 0=v at *;have hm:=Je sB.vis v;have ZH:=hall.sz;obtain⟨s3,e3,hall3,_,_⟩:=EO hg g.vs.length (aAi _) [v] sB (fun w hw=>by rw[aAl]at hw;rw[hw];exact hvm) hall;rw[e3]at hJO;have hbw':=Z4;obtain⟨⟨tS,tB,CS,ea2,jW,-,jN,-,-,-,-,-⟩,-,-⟩:=hbw';by_cases Xt:v∈sB.vis
   .rw[aAe Xt]at hm;have e4:s3=sB:=by unfold tC at e3;rw[aAe Xt]at e3;exact(aBb e3).symm
    have hz1:1<=nmW sB.vis v:=by unfold nmW;rw[aAe Xt];omega
    generalize nmW sB.vis v=z at *;have hzb:(z==0)=false:=by rw[aCQ];omega
    have F5:¬z=0:=oO
    (repeat' (first|apply qS|refine qK (zZ ?_)|(apply qC;simp[f3,f57,fi,fn,hd,dN,jW,jN,hm,hzb,F5])|(refine zE ?_;intro J hJ;simp[f3,f57,fi,fn,hd,dN,jW,jN,hm,hzb,F5];refine zJ hJ ?_)))
    exact hJO _ _ (by simp[fi]) (by simp[fn]) ⟨by simp[f1],by simp[f3],by simp[f57],B5,s3,rfl,hall3,by rw[e4];exact Z4⟩
   .rw[aAa Xt]at hm;have Y0:yK g (fun _=>False) sB v (-1):=⟨hall.ln,hall.nd,fun a ha=>ha.elim,fun w hw _=>hall.fin w hw,Xt,fun a b ha=>ha.elim,.inl ⟨rfl,fun a ha=>ha⟩⟩
    (repeat' (first|apply qS|(apply qC;simp[f3,f57,fi,fn,hd,dN,jW,jN,hm])|(refine zE ?_;intro J hJ;simp[f3,f57,fi,fn,hd,dN,jW,jN,hm];(try refine zJ hJ ?_))))
    refine qE (TV g hg (p+1) (p+4) (p+1) (p+2) (p+3) tk hv he g.vs.length _ sB v (-1) _ Y0 hvm hall.sub oO ZH Z4) sS ?_;rintro r s4 ⟨s5,h5,hb5,V7⟩;have e5:s3=s5:=by unfold tC at e3;rw[aAa Xt,h5]at e3;exact(aBb e3).symm
    (repeat' (apply aD;simp[];refine zJ hJ ?_))
    exact hJO _ _ (by simp[fi]) (by simp[fn]) ⟨by simp[f1],by simp[f3],by simp[f57],B5.trans V7,s3,rfl,hall3,by rw[e5];exact hb5⟩
  .clear f1 f3 f16 P2 hall0 fr;rintro fr s2 ⟨f1,f3,f57,B5,sB,hsB,hall,Z4⟩;rw[aAQ,hS]at hsB;obtain rfl:=aBb hsB;have ZH:=hall.sz;obtain⟨_,sb⟩:=Bd hv he hall.nd hall.sub;obtain⟨⟨tS,tB,CS,ea2,jW,-,jN,-,-,jB,-,b1,b2,b3,b4⟩,-,d1,-⟩:=Z4
   (repeat' (first|apply qS|(refine zE ?_;intro J hJ;simp[f3,jW])))
   refine qE (VW D4 S.out hSa Yl hSn tB _ (by have:=ZH.2;have:=SI hSa Yl hSn;omega) b4 jB) sS ?_;rintro r s4 ⟨h1,h2,h3⟩;have hW4:=(h3.2 (p+4) (bH jW jB sS) d1).trans jW;have Xr:=h2.length_eq
   (repeat' (first|apply qS|(refine qR (zZ ?_);simp[f3,hW4])|((first|(refine zE ?_;intro J hJ)|(apply aD));simp[f3,hW4];refine zJ hJ ?_)))
   refine⟨tB,by simp[Xr],h1,oO,aAp b4 h3.1,?_⟩;refine⟨aBh Xm.next (aBh B5.next h3.1),fun x hx=>?_⟩;rw[h3.2 x oO (by have:=B5.next;omega),B5.H x oO,Xm.H x hx]
theorem Mc(n:Nat):∀ l:List Ed,fG n (eds l):=fun l=>by
 induction l with
 |nil=>simp only[eds,aDG,fG]
 |cons x l ih=>simp only[eds,aAJ,edL,List.cons_append,List.nil_append,fG];exact⟨trivial,trivial,trivial,ih⟩
theorem SR(n:Nat)(es:List Ed):∀ out:List (List Nat),fG n (bkL es out):=fun out=>by
 induction out with
 |nil=>simp only[bkL,aBz,fG]
 |cons B out ih=>simp only[bkL,aAj,fG];exact⟨⟨.inl rfl,Mc _ _⟩,ih⟩
theorem Uj(g:Gr)(hg:GoodE g)(st:St)(hv:g.vs.length<=100)(he:g.es.length<=200):
 aB prog 43 [.ag (grL g)] st fun r st'=>r=.sl 0 (fA g.es).length (bkL g.es (fA g.es))/\st'=st:=by
 refine qT (Q:=fun r=>r=.sl 0 (fA g.es).length (bkL g.es (fA g.es))) (cD ((Re g hg st hv he).mono ?_)) fun r h=>by subst h;exact⟨.inl rfl,SR _ _ _⟩
 rintro r s ⟨q,rfl,hH,hq,Zk,hk⟩;have hl:=Bb g.es (fA g.es);exact⟨q,_,_,_,_,rfl,hH,by rw[hl,aCF];exact aAi _,by rw[aAr (by rw[hl,aCF];exact aAi _)],hk.set hq _⟩
end Aw
end Go.Proofs.YtempldclppogmaaGreatDoor
