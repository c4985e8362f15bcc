/- Blocks: rows of edges and rows of blocks in order. -/
import Derived.Test.YtempldclppogmaaGreatDoorJn
import Derived.Test.YtempldclppogmaaGreatDoorAwFz
import Derived.Test.YtempldclppogmaaGreatDoorAwRg
import Derived.Test.YtempldclppogmaaGreatDoorAwZ
import Derived.Test.YtempldclppogmaaGreatDoorAwFr
set_option linter.unusedVariables false
set_option linter.unusedSimpArgs false
set_option maxHeartbeats 8000000
open Go.Proofs.Tryz
namespace Go.Proofs.YtempldclppogmaaGreatDoor
namespace Aw
open Go Go.RowKit Pl Eu
def oE(x y:Int):Int:=if x<y then -1 else if y<x then 1 else 0
theorem Fy(x y:Int):oE x y<0↔x<y:=by
 unfold oE;by_cases h1:x<y
 .rw[aAe h1];omega
 .rw[aAa h1];by_cases h2:y<x
  .rw[aAe h2];omega
  .rw[aAa h2];omega
theorem HF(x y:Int)(st:St):aB prog 64 [u x,u y] st fun r st'=>r=i (oE x y)/\st'=st:=by
 refine zN func64 ntmps64 [.tmp 4] ?_
 (repeat' (first|apply qS|(refine zE ?_;intro J hJ;simp[];(try refine zJ hJ ?_))))
 refine qF (isNaN x _) ?_;rintro r st' ⟨rfl,rfl⟩
 (repeat' (first|apply qS|((first|(refine zE ?_;intro J hJ)|(apply aF));simp[];(try refine zJ hJ ?_))))
 refine qF (isNaN y _) ?_;rintro r st' ⟨rfl,rfl⟩;by_cases h1:x<y
 ·(repeat' (first|apply qS|refine qK (zZ ?_)|(refine qR (zZ ?_);simp[h1,oE])|(apply qC;simp[h1,oE])|((first|(refine zE ?_;intro J hJ)|(apply aF));simp[h1,oE];refine zJ hJ ?_)))
 .by_cases h2:y<x
  ·(repeat' (first|apply qS|refine qK (zZ ?_)|(refine qR (zZ ?_);simp[h1,h2,oE])|(apply qC;simp[h1,h2,oE])|((first|(refine zE ?_;intro J hJ)|(apply aF));simp[h1,h2,oE];refine zJ hJ ?_)))
  ·(repeat' (first|apply qS|refine qK (zZ ?_)|(refine qR (zZ ?_);simp[h1,h2,oE])|(apply qC;simp[h1,h2,oE])|((first|(refine zE ?_;intro J hJ)|(apply aF));simp[h1,h2,oE];refine zJ hJ ?_)))
theorem Vj(x y:Ed)(st:St):aB prog 146 [.ag (edL x),.ag (edL y)] st fun r st'=>r=i (oE x.id y.id)/\st'=st:=by
 refine qT (Q:=fun r=>r=i (oE x.id y.id)) ?_ fun r h=>by subst h;trivial
 obtain⟨xi,xa,xb⟩:=x;obtain⟨yi,ya,yb⟩:=y;refine zN func146 ntmps146 [.tmp 4] ?_
 (repeat' (first|apply qS|(refine zE ?_;intro J hJ;simp[];(try refine zJ hJ ?_))))
 refine qE (HF xi yi _) sS ?_;rintro r s1 ⟨rfl,rfl⟩
 (repeat' (first|(refine qR (zZ ?_);simp[oE])|(apply aF;simp[oE];refine zJ hJ ?_)))
 exact(aA.new _ _).trans (aA.new _ _)
theorem NL(x y:Ed)(X Y:List Ed)(st:St):aB prog 72 [.sl 0 (X.length+1) (eds (x::X)),.sl 0 (Y.length+1) (eds (y::Y))] st fun r st'=>r=i (oE x.id y.id)/\st'=st:=by
 refine qT (Q:=fun r=>r=i (oE x.id y.id)) ?_ fun r h=>by subst h;trivial
 obtain⟨xi,xa,xb⟩:=x;obtain⟨yi,ya,yb⟩:=y;have e1:eds (⟨xi,xa,xb⟩::X)=u xi::u xa::u xb::eds X:=rfl;have e2:eds (⟨yi,ya,yb⟩::Y)=u yi::u ya::u yb::eds Y:=rfl;rw[e1,e2];refine zN func72 ntmps72 [.tmp 4] ?_
 (repeat' (first|apply qS|(refine zE ?_;intro J hJ;simp[];refine zJ hJ ?_)))
 (refine zS [] [] [0,2,4,6,8,10,12,14,17,18] ?_;intro J hJ;simp[])
 refine qD (HF xi yi _) sS ?_;rintro r s1 ⟨rfl,rfl⟩;refine⟨fun h=>by first|(cases h;done)|simp,?_⟩
 (apply aS;simp[];refine zJ hJ ?_)
 (repeat' (refine qR (zZ ?_);simp[oE]))
 exact aA.refl _
section
variable {es:List Ed} (j9:es.Pairwise fun x y=>x.id<y.id)
include j9
theorem TE{a b:Nat}(ha:a<es.length)(hb:b<es.length):(eAt es a).id<(eAt es b).id↔a<b:=by
 unfold eAt;rw[cZ _ _ ha,cZ _ _ hb];rw[aAJ]at j9;rcases aCx a b with k|k|k
 .exact⟨fun _=>k,fun _=>j9 a b ha hb k⟩
 .subst k;omega
 .have:=j9 b a hb ha k;omega
theorem RI:CE.fR 146 [] (fun x=>eAt es x.toNat) fun x=>0<=x/\x.toNat<es.length:=
 ⟨fun x y st hx hy=>(Vj _ _ st).mono fun r s h=>⟨⟨_,h.1,by rw[Fy,TE j9 hx.2 hy.2];omega⟩,h.2⟩⟩
theorem Vb(P:List Nat)(hn:P.Nodup)(hP:∀ i∈P,i<es.length)(q:Nat)(st:St)(hl:P.length<65536)(hq:q<st.next)(hH:st.H q=.box 56 3 (eds (P.map (eAt es)))):
 aB prog 145 [.ms q 0 P.length,.fn (.func 146) []] st fun r st'=>st'.H q=.box 56 3 (eds ((sR es.length P).map (eAt es)))/\bN q st st':=by
 have e:∀ L:List Nat,CE.es3 (fun x=>eAt es x.toNat) (L.map fun k:Nat=>(k:Int))=eds (L.map (eAt es)):=fun L=>by unfold CE.es3;rw[aBd];rfl
 have h:=CE.QU (RI j9) (P.map fun k:Nat=>(k:Int)) q st (fun x hx=>by
  obtain⟨k,hk,rfl⟩:=aAm.1 hx
  exact⟨oO,by simpa using hP k hk⟩) (by simpa using hl) hq (by unfold CE.oC;rw[e];exact hH)
 rw[aAz]at h;refine h.mono ?_;rintro r s ⟨c,h1,h2,h3,h4⟩;refine⟨?_,h4⟩;have hc:c=(sR es.length P).map fun k:Nat=>(k:Int):=by refine As h3 ?_ (h2.trans ((wT hn hP).map _).symm);rw[aAV];exact(xA _ _).imp fun k=>by omega
 rw[h1,hc];unfold CE.oC;rw[e]
def bkL(es:List Ed)(out:List (List Nat)):List LV:=out.map fun B=>.sl 0 B.length (eds (B.map (eAt es)))
omit j9 in
theorem AL(es:List Ed)(out:List (List Nat)):(bkL es out).length=out.length:=by simp[bkL]
theorem Ra:CR.fR 72 [] ⟨fun x=>(gX es x.toNat).length,fun x=>eds ((gX es x.toNat).map (eAt es))⟩ fun x=>0<=x/\x.toNat<es.length/\(gX es x.toNat).headD 0=x.toNat:=by
 refine⟨fun x y st hx hy=>?_⟩;have hh:∀ z:Nat,z<es.length->(gX es z).headD 0=z->∃ R,gX es z=z::R:=fun z hz he=>by
  have hm:z∈gX es z:=GJ.2 ⟨hz,.refl⟩;cases hc:gX es z with
  |nil=>rw[hc]at hm;cases hm
  |cons a R=>rw[hc]at he;simp at he;exact⟨R,by rw[he]⟩
 obtain⟨X,eX⟩:=hh _ hx.2.1 hx.2.2;obtain⟨Y,eY⟩:=hh _ hy.2.1 hy.2.2;simp only[eX,eY];have:=NL (eAt es x.toNat) (eAt es y.toNat) (X.map (eAt es)) (Y.map (eAt es)) st;rw[aAz,aAz]at this;exact this.mono fun r s h=>⟨⟨_,h.1,by rw[Fy,TE j9 hx.2.1 hy.2.1];omega⟩,h.2⟩
theorem VF(out:List (List Nat))(hall:∀ i,i∈out.flatten↔i<es.length)(v9:∀ B∈out,dF es B)(hnd:out.flatten.Nodup)(q:Nat)(st:St)(hl:out.length<65536)(hq:q<st.next)(hH:st.H q=.box 23 1 (bkL es out)):
 aB prog 71 [.ms q 0 out.length,.fn (.func 72) []] st fun r st'=>st'.H q=.box 23 1 (bkL es (fO es))/\(fO es).Perm out/\bN q st st':=by
 obtain⟨L,hL⟩:∃ L:List Int,L=out.map fun B=>((B.headD 0:Nat):Int):=⟨_,rfl⟩;have hB:∀ B∈out,gX es (B.headD 0)=B:=fun B h=>((v9 B h).cls (head_mem (v9 B h).ne)).symm;have hD:∀ x∈L,0<=x/\x.toNat<es.length/\(gX es x.toNat).headD 0=x.toNat:=fun x hx=>by
  rw[hL]at hx;obtain⟨B,h,rfl⟩:=aAm.1 hx;refine⟨oO,?_,?_⟩
  .simpa using(v9 B h).lt _ (head_mem (v9 B h).ne)
  .rw[Int.toNat_natCast,hB B h]
 have e:∀ c:List Int,CR.ws ⟨fun x=>(gX es x.toNat).length,fun x=>eds ((gX es x.toNat).map (eAt es))⟩ c=bkL es (c.map fun x=>gX es x.toNat):=fun c=>by unfold bkL CR.ws;rw[aBd];rfl
 have eL:L.map (fun x=>gX es x.toNat)=out:=by
  rw[hL,aBd];have:∀ B∈out,((fun x:Int=>gX es x.toNat)∘fun B:List Nat=>((B.headD 0:Nat):Int)) B=B:=fun B h=>by show gX es ((B.headD 0:Nat):Int).toNat=B;rw[Int.toNat_natCast];exact hB B h
  rw[aAU this,List.map_id']
 have R7:L.Nodup:=by rw[hL];refine aAV.2 ?_;have:=(aEz.1 hnd).2;refine this.imp_of_mem fun {a b} ha hb hd he=>?_;exact hd _ (head_mem (v9 a ha).ne) _ (head_mem (v9 b hb).ne) oO
 have h:=CR.QU (Ra j9) L q st hD (by rw[hL,aAz];exact hl) hq (by unfold CR.oC;rw[e,eL];exact hH);rw[show L.length=out.length by rw[hL,aAz]]at h;refine h.mono ?_;rintro r s ⟨c,h1,h2,h3,h4⟩;have hcD:∀ x∈c,0<=x/\x.toNat<es.length/\(gX es x.toNat).headD 0=x.toNat:=fun x hx=>hD x (h2.mem_iff.1 hx);have hp:(c.map fun x=>gX es x.toNat).Perm out:=by
  have:=h2.map fun x:Int=>gX es x.toNat
  rwa [eL]at this
 have hr:(c.map fun x=>gX es x.toNat).Pairwise fun x y=>x.headD 0<y.headD 0:=by rw[aAV];have hcn:=h2.nodup_iff.2 R7;refine(h3.and hcn).imp_of_mem fun {a b} ha hb YC=>?_;have h5:=hcD a ha;have h6:=hcD b hb;rw[h5.2.2,h6.2.2];have:=YC.2;have:=YC.1;omega
 have hled:=IZ hall v9 hp hr;refine⟨by rw[h1];unfold CR.oC;rw[e,hled],by rw[<- hled];exact hp,h4⟩
end
def isN(l:List Nat):List LV:=l.map fun k:Nat=>i (k:Int)
@[simp] theorem kQ(l:List Nat):(isN l).length=l.length:=by simp[isN]
theorem QL(l:List Nat)(k:Nat)(hk:k<l.length):(isN l).drop k=i ((l.getD k 0:Nat):Int)::(isN l).drop (k+1):=by unfold isN;rw[aAO (by simpa using hk)];simp[hk]
theorem QE(l:List Nat)(k:Nat):(isN l).take k=isN (l.take k):=by simp[isN]
theorem TT{v x:Int}{V:List Int}(h:¬v=x):(v::V).idxOf x=V.idxOf x+1:=by
 have e:(v==x)=false:=by rw[aCO];exact h
 rw[List.idxOf_cons,e];rfl
def nbF:Nat->List Int->List (List Int×LV)
 |_,[]=>[]
 |k,v::V=>([v],i ((k:Int)+1))::nbF (k+1) V
theorem IJ(V:List Int):∀ k,(nbF k V).length=V.length:=by
 induction V with
 |nil=>intro k;rfl
 |cons v V ih=>intro k;simp[nbF,ih]
theorem Pk(V:List Int)(x:Int):∀ k,bQ (nbF k V) [x]=if x∈V then some (i ((k:Int)+nmW V x))else none:=by
 induction V with
 |nil=>intro k;rfl
 |cons v V ih=>
  intro k;unfold nbF bQ;by_cases e:v=x
  .subst e;simp[nmW]
  .have e2:¬([x]==[v])=true:=by simpa using fun k=>e k.symm
   rw[aAa e2,ih (k+1)];by_cases hx:x∈V
   .rw[aAe hx,aAe (aAj _ hx)];unfold nmW;rw[aAe hx,aAe (aAj _ hx),TT e]
    congr 2
    omega
   .rw[aAa hx,aAa];rw[aAf,aBV];exact⟨fun h=>e h.symm,hx⟩
theorem Ps{x:Int}(V:List Int)(h:x∉V):∀ k,bP (nbF k V) [x] (i ((k:Int)+V.length+1))=nbF k (V++[x]):=by
 induction V with
 |nil=>intro k;simp[nbF,bP]
 |cons v V ih=>
  intro k;rw[aAf,aBV]at h;have e:¬([x]==[v])=true:=by simpa using h.1
  unfold nbF bP;simp only[e,aAS,aBD,List.cons_append];have:=ih h.2 (k+1);rw[show((k:Int)+(v::V).length+1)=((k+1:Nat):Int)+V.length+1 by simp;omega,this]
theorem Kn(V:List Int)(x:Int):bQ (nbF 0 V) [x]=if x∈V then some (i (nmW V x))else none:=by rw[Pk];split<;>simp
theorem RO{x:Int}{V:List Int}(h:x∉V):bP (nbF 0 V) [x] (i ((V.length:Int)+1))=nbF 0 (V++[x]):=by have:=Ps V h 0;simpa using this
def lwF:List Int->List Int->List (List Int×LV)
 |v::V,x::L=>([v],i x)::lwF V L
 |_,_=>[]
theorem uT:∀(V L:List Int) (x:Int),L.length=V.length->x∈V->bQ (lwF V L) [x]=some (i (L.getD (V.idxOf x) 0))
 |[],_,_,_,h=>by cases h
 |v::V,[],x,hl,_=>by simp at hl
 |v::V,y::L,x,hl,h=>by
  unfold lwF bQ;by_cases e:v=x
  .subst e;simp
  .have e2:¬([x]==[v])=true:=by simpa using fun k=>e k.symm
   simp only[e2,aAS,aBD];rw[uT V L x (by simpa using hl) (by rcases aAf.1 h with k|k;exact absurd k.symm e;exact k),TT e];rfl
theorem xZ:∀(V L:List Int) (x y:Int),L.length=V.length->x∉V->bP (lwF V L) [x] (i y)=lwF (V++[x]) (L++[y])
 |[],[],_,_,_,_=>rfl
 |[],_::_,_,_,hl,_=>by simp at hl
 |v::V,[],x,_,hl,_=>by simp at hl
 |v::V,z::L,x,y,hl,h=>by
  rw[aAf,aBV]at h;have e:¬([x]==[v])=true:=by simpa using h.1
  unfold lwF bP;simp only[e,aAS,aBD,List.cons_append];rw[xZ V L x y (by simpa using hl) h.2]
theorem pR:∀(V L:List Int) (x y:Int),L.length=V.length->x∈V->bP (lwF V L) [x] (i y)=lwF V (L.set (V.idxOf x) y)
 |[],_,_,_,_,h=>by cases h
 |v::V,[],x,_,hl,_=>by simp at hl
 |v::V,z::L,x,y,hl,h=>by
  unfold lwF bP;by_cases e:v=x
  .subst e;simp[lwF]
  .have e2:¬([x]==[v])=true:=by simpa using fun k=>e k.symm
   simp only[e2,aAS,aBD];rw[pR V L x y (by simpa using hl) (by rcases aAf.1 h with k|k;exact absurd k.symm e;exact k),TT e];rfl
theorem Ir{l:List Nat}{i:Nat}(h:i∈l):jG l i<l.length/\l.getD (jG l i) 0=i/\∀ j,jG l i<j->j<l.length->l.getD j 0≠i:=by
 obtain⟨P,R,rfl,hR⟩:∃ P R,l=P++i::R/\i∉R:=by obtain⟨P,R,e,hR⟩:=List.eq_append_cons_of_mem (aCm.2 h);refine⟨R.reverse,P.reverse,?_,by simpa using hR⟩;have:=congrArg List.reverse e;simpa using this
 rw[vL hR];refine⟨sS,sS,fun j h1 h2 e=>hR ?_⟩;rw[aAc,aBk oO]at e;obtain⟨m,hm⟩:∃ m,j-P.length=m+1:=⟨j-P.length-1,oO⟩;rw[hm,List.getElem?_cons_succ]at e;simp at h2;rw[aAd oO]at e;simp only[Option.getD_some]at e;rw[<- e];exact aAA _
structure rU(g:Gr)(B W a nb lw:Nat)(tk:Int->Nat)(s:Bw)(st:St):Prop where
 ex:∃ tS tB CS ea,st.H W=.box 108 6 [.sl 0 g.es.length (eds g.es),.mp a,.mp nb,.mp lw,.ms tS 0 s.stk.length,.ms tB 0 s.out.length]/\
  (st.H a=.map false [.u32] ea/\∀ v,bQ ea [v]=if atP g.es v=[]then none else some (.sl (tk v) (atP g.es v).length (isN (atP g.es v))))/\
  st.H nb=.map false [.u32] (nbF 0 s.vis)/\st.H lw=.map false [.u32] (lwF s.vis s.low)/\(st.H tS=.box 3 1 CS/\CS.take s.stk.length=isN s.stk)/\st.H tB=.box 23 1 (bkL g.es s.out)/\
  (a≠nb/\a≠lw/\nb≠lw)/\(B<=tS/\B<=tB/\tS<st.next/\tB<st.next)
 bd:(B<=W/\B<=a/\B<=nb/\B<=lw)/\(W<st.next/\a<st.next/\nb<st.next/\lw<st.next)
theorem bH{st:St}{a b:Nat}{x y:cI}(ha:st.H a=x)(hb:st.H b=y)(h:x≠y):¬a=b:=fun e=>h (by rw[<- ha,e,hb])
theorem Nm{es:List Ed}{P:List Nat}{j:Nat}(hj:j<P.length):(P.take (j+1)).map (eAt es)=(P.take j).map (eAt es)++[eAt es (P.getD j 0)]:=by rw[aAn hj,aAu,aAc,aAd hj];rfl
structure KbB(B:Nat)(st st':St):Prop where
 next:st.next<=st'.next
 H:∀ x,x<B->st'.H x=st.H x
theorem KbB.refl(B:Nat)(st:St):KbB B st st:=⟨aAk _,fun _ _=>rfl⟩
theorem KbB.trans{B:Nat}{a b c:St}(h:KbB B a b)(k:KbB B b c):KbB B a c:=⟨aBj h.next k.next,fun x hx=>by rw[k.H x hx,h.H x hx]⟩
theorem KbB.new{B:Nat}{a b:St}(h:KbB B a b)(hB:B<=b.next)(o:cI):KbB B a (b.new o):=⟨by rw[aJ];exact Nat.le_succ_of_le h.next,fun x hx=>by rw[bX,aAa oO];exact h.H x hx⟩
theorem KbB.set{B:Nat}{a b:St}(h:KbB B a b){l:Nat}(hl:B<=l)(o:cI):KbB B a (b.set l o):=⟨h.next,fun x hx=>by rw[bF,aAa oO];exact h.H x hx⟩
theorem XF(g:Gr)(j9:g.es.Pairwise fun x y=>x.id<y.id)(B W a nb lw:Nat)(tk:Int->Nat)(s:Bw)(i0:Nat)(st:St)(h:rU g B W a nb lw tk s st)(hi:i0∈s.stk)(D5:∀ k∈s.stk.drop (jG s.stk i0),k<g.es.length)(Zi:(s.stk.drop (jG s.stk i0)).Nodup)(he:g.es.length<=1000)(K7:s.stk.length<=60000)(v8:s.out.length<=100000):
 aB prog 104 [.pt W 0,i i0] st fun r st'=>∃ s',Fj g.es.length s i0=some s'/\rU g B W a nb lw tk s' st'/\KbB B st st':=by
 obtain⟨F6,E0,J7⟩:=Ir hi;have hcw:Fj g.es.length s i0=some { s with stk:=s.stk.take (jG s.stk i0),out:=s.out++[sR g.es.length (s.stk.drop (jG s.stk i0))] }:=by unfold Fj;rw[aAe hi]
 rw[hcw];clear hcw;obtain⟨⟨tS,tB,CS,ea,hW,⟨hA,hAm⟩,hN,hL,⟨hS,L6⟩,z9,⟨n1,n2,n3⟩,⟨b1,b2,b3,b4⟩⟩,⟨c1,c2,c3,c4⟩,d1,d2,d3,d4⟩:=h;generalize Q6:jG s.stk i0=kl at *;obtain⟨P,hP⟩:∃ P,P=s.stk.drop kl:=⟨_,rfl⟩;rw[<- hP]at D5 Zi ⊢;have hPl:P.length=s.stk.length-kl:=by rw[hP,aAP]
 have hPe:P.length<=g.es.length:=by have:=aAF Zi (fun k hk=>aBa.2 (D5 k hk));rwa [aDA]at this
 have hCS:s.stk.length<=CS.length:=by have:=congrArg List.length L6;rw[aAq,kQ]at this;omega
 have hCd:∀ k,k<s.stk.length->CS.drop k=i ((s.stk.getD k 0:Nat):Int)::CS.drop (k+1):=fun k hk=>by
  have e1:CS=isN s.stk++CS.drop s.stk.length:=by rw[<- L6];exact(aAH _ _).symm
  rw[aAO oO]
  congr 1
  have:CS[k]'(by omega)=(isN s.stk)[k]'(by simpa using hk):=by have h2:=List.getElem_of_eq L6 (i:=k) (by rw[aAq];omega);rw[aBP]at h2;exact h2
  rw[this];simp[isN,hk]
 have w1:=aG s.stk.length oO oO;have m1:¬W=tS:=bH hW hS sS;have m2:¬W=tB:=bH hW z9 sS;have m3:¬tS=tB:=bH hS z9 sS;have m4:¬W=a:=bH hW hA sS;have m5:¬W=nb:=bH hW hN sS;have m6:¬W=lw:=bH hW hL sS;have m7:¬a=tS:=bH hA hS sS;have m8:¬a=tB:=bH hA z9 sS;have m9:¬nb=tS:=bH hN hS sS;have m10:¬nb=tB:=bH hN z9 sS;have m11:¬lw=tS:=bH hL hS sS;have m12:¬lw=tB:=bH hL z9 sS;refine zN func104 ntmps104 [] ?_
 (repeat' (first|apply qS|apply qB|(refine zE ?_;intro J hJ;simp[hW,w1];refine zJ hJ ?_)))
 refine qL (fun n fr st2=>∃ k:Nat,n=k/\st2=st/\fr 0=.pt W 0/\fr 1=i i0/\fr 4=i k/\kl<=k/\k<s.stk.length) (s.stk.length-1) ?_ ?_
 .exact⟨s.stk.length-1,rfl,rfl,sS,sS,sS,oO,oO⟩
 rintro k fr st2 ⟨_,rfl,Yx,f0,f1,f4,Xp,Xq⟩ JJ hJJ;rw[Yx];clear Yx st2;have hd:=hCd k Xq;have hkc:k<CS.length:=oO;by_cases hk:k=kl;rotate_left
 .have Wu:=J7 k oO Xq;generalize s.stk.getD k 0=y at *;have H9:((y:Int) != (i0:Int))=true:=by rw[bne_iff_ne];omega
  have w2:=aG k oO oO
  (repeat' (first|apply qS|apply qB|refine qK (zZ ?_)|(apply qC;simp[f0,f1,f4,hW,hS,hd,hkc,Xq,H9,w2])|(refine zE ?_;intro J hJ;simp[f0,f1,f4,hW,hS,hd,hkc,Xq,H9,w2];refine zJ hJ ?_)))
  exact hJJ (k-1) _ _ oO ⟨k-1,rfl,rfl,by simp[f0],by simp[f1],sS,oO,oO⟩
 clear hJJ;subst hk;rw[E0]at hd;have H9:((i0:Int) != (i0:Int))=false:=sS
 (repeat' (first|apply qS|apply qB|refine qX (zZ ?_)|(apply qC;simp[f0,f1,f4,hW,hS,hd,hkc,Xq,H9])|(refine zE ?_;intro J hJ;simp[f0,f1,f4,hW,hS,hd,hkc,Xq,H9];(repeat refine ca ?_);refine zJ hJ ?_)))
 rw[<- hPl];refine uG 5 56 3 sS ?_;have hel:=aN g.es;refine aZ 32 31 33 46 (P.length) (fun j fr st2=>fr 0=.pt W 0/\fr 4=i k/\fr 30=.ms tS k P.length/\aA st st2/\∃ q,fr 5=.ms q 0 j/\st2.H q=.box 56 3 (eds ((P.take j).map (eAt g.es)))/\st.next<=q/\q<st2.next) ?_ ?_ ?_
 .refine⟨by simp[f0],by simp[f4],by simp[hPl],aA.new _ _,st.next,sS,by simp[eds],oO,sS⟩
 .clear f0 f1 f4 fr hd H9;rintro j fr s1 GD ⟨g0,g4,g30,Xt,q,g5,hq,X0,Zg⟩ fi fn JO hJO;have hW1:=(Xt.H W d1).trans hW;have hS1:=(Xt.H tS b3).trans hS;have YM:=hCd (k+j) oO;have hPd:s.stk.getD (k+j) 0=P.getD j 0:=by rw[hP,aAc,aAc,aCp]
  rw[hPd]at YM;have j8:P.getD j 0<g.es.length:=D5 _ (by rw[aAc,aAd GD];exact aAA _);have hde:=aW g.es _ j8;rw[Nm GD]at hJO;have hql:(eds ((P.take j).map (eAt g.es))).length=j*3:=by rw[aN,aAz,aAq];congr 1;omega
  have hap:eds ((P.take j).map (eAt g.es)++[eAt g.es (P.getD j 0)])=eds ((P.take j).map (eAt g.es))++edL (eAt g.es (P.getD j 0)):=by simp[eds]
  rw[hap]at hJO;unfold eAt at hJO;generalize U8:P.getD j 0=p0 at *;generalize eds ((P.take j).map (eAt g.es))=RR at *;generalize g.es.getD p0 ed0=x at *;obtain⟨xi,xa,xb⟩:=x;simp only[edL]at hJO;simp only at hde;have U3:k+j<CS.length:=oO;have hp3:p0*3<g.es.length*3:=oO;have y1:¬q=s1.next:=oO;have y2:¬q=0:=oO
  (repeat' (first|apply qS|(refine zE ?_;intro J hJ;simp[g0,g4,g5,g30,fi,fn,hW1,hS1,YM,hde,GD,hq,hql,U3,j8,hp3,hel,y1,y2];(repeat refine ca ?_);refine zJ hJ ?_)))
  refine hJO _ _ (by simp[fi]) (by simp[fn]) ⟨by simp[g0],by simp[g4],by simp[g30],?_,s1.next+1,sS,sS,oO,sS⟩
  (repeat (first|exact Xt|(refine aA.trans ?_ (aA.new _ _))|(refine aA.set ?_ oO _)))
 .rintro fr s1 ⟨g0,g4,g30,Xt,q,g5,hq,X0,Zg⟩;rw[aAQ]at hq;have hW1:=(Xt.H W d1).trans hW;have hS1:=(Xt.H tS b3).trans hS;have ZU:k<=s.stk.length:=oO;have YN:=Xt.next;have y1:¬q=W:=oO
  (repeat' (first|apply qS|(refine zE ?_;intro J hJ;simp[g0,g4,g5,hW1,ZU];(try refine zJ hJ ?_))))
  refine qE (Vb j9 P Zi D5 q _ oO (by simp;omega) (by simp[y1,hq])) sS ?_;rintro r s2 ⟨V7,Xu⟩;have Zk:=Xu.1;simp only[bS]at Zk;have old:∀ x,x≠q->x≠W->x<st.next->s2.H x=st.H x:=fun x h1 h2 h3=>by rw[Xu.2 x h1 (by simp;omega),bF,aAa h2];exact Xt.H x h3
  have hW2:=Xu.2 W (fun e=>y1 e.symm) (by simp;omega);rw[bF,aAe rfl]at hW2;have I8:=(old tB oO (fun e=>m2 e.symm) b4).trans z9;have hS2:=(old tS oO (fun e=>m1 e.symm) b3).trans hS;have hA2:=(old a oO (fun e=>m4 e.symm) d2).trans hA;have hN2:=(old nb oO (fun e=>m5 e.symm) d3).trans hN;have U5:=(old lw oO (fun e=>m6 e.symm) d4).trans hL;have ZQ:=(wT Zi D5).length_eq;have Xh:(eds ((sR g.es.length P).map (eAt g.es))).length=P.length*3:=by rw[aN,aAz,ZQ]
  (apply aF;simp[];refine zJ hJ ?_)
  refine sK 5 (l:=q) (n:=P.length) (by simp[g5]) V7 (aDu Xh.symm) ?_;rw[aAv (aDu Xh)];have hbL:(bkL g.es s.out).length=s.out.length:=AL _ _;have z1:¬W=q:=fun e=>y1 e.symm;have z2:¬tB=q:=oO;have z3:¬W=s2.next:=oO;have z4:¬tB=s2.next:=oO;have z5:¬W=s2.next+1:=oO
  (repeat' (refine zE ?_;intro J hJ;simp[g0,hW2,I8,m2,z1,z2,z3,z4,z5,hbL];(repeat refine ca ?_);refine zJ hJ ?_))
  have q1:¬a=q:=oO;have q2:¬nb=q:=oO;have q3:¬lw=q:=oO;have q4:¬tS=q:=oO;have q5:¬a=s2.next:=oO;have q6:¬nb=s2.next:=oO;have q7:¬lw=s2.next:=oO;have q8:¬tS=s2.next:=oO;have q9:¬a=s2.next+1:=oO;have q10:¬nb=s2.next+1:=oO;have q11:¬lw=s2.next+1:=oO;have q12:¬tS=s2.next+1:=oO;have q13:¬s2.next+1=W:=oO;have r1:¬a=W:=fun e=>m4 e.symm;have r2:¬nb=W:=fun e=>m5 e.symm;have r3:¬lw=W:=fun e=>m6 e.symm;have r4:¬tS=W:=fun e=>m1 e.symm;have hbk:bkL g.es (s.out++[sR g.es.length P])=bkL g.es s.out++[.sl 0 P.length (eds ((sR g.es.length P).map (eAt g.es)))]:=by unfold bkL;rw[aAu];simp[ZQ]
  have Xx:(s.stk.take k).length=k:=by rw[aAq];omega
  refine⟨trivial,⟨⟨tS,s2.next+1,CS,ea,by simp[Xx],⟨by simp[z1,z2,z3,z4,z5,q1,q2,q3,q4,q5,q6,q7,q8,q9,q10,q11,q12,q13,r1,r2,r3,r4,m2,m3,m8,m10,m12,hA2],hAm⟩,by simp[z1,z2,z3,z4,z5,q1,q2,q3,q4,q5,q6,q7,q8,q9,q10,q11,q12,q13,r1,r2,r3,r4,m2,m3,m8,m10,m12,hN2],by simp[z1,z2,z3,z4,z5,q1,q2,q3,q4,q5,q6,q7,q8,q9,q10,q11,q12,q13,r1,r2,r3,r4,m2,m3,m8,m10,m12,U5],⟨by simp[z1,z2,z3,z4,z5,q1,q2,q3,q4,q5,q6,q7,q8,q9,q10,q11,q12,q13,r1,r2,r3,r4,m2,m3,m8,m10,m12,hS2],?_⟩,by simp[z1,z2,z3,z4,z5,q1,q2,q3,q4,q5,q6,q7,q8,q9,q10,q11,q12,q13,r1,r2,r3,r4,m2,m3,m8,m10,m12,hbk],⟨n1,n2,n3⟩,b1,oO,by simp;omega,sS⟩,⟨c1,c2,c3,c4⟩,by simp;omega,by simp;omega,by simp;omega,by simp;omega⟩,?_⟩
  .rw[Xx,show CS.take k=(CS.take s.stk.length).take k by rw[aBZ,aCu ZU],L6,QE]
  .refine(((((KbB.mk oO fun x hx=>?_:KbB B st s2).set oO _).new ?_ _).set b2 _).new ?_ _).set c1 _
   .exact old x oO oO oO
   .simp;omega
   .simp;omega
theorem DE{P:Program}{N:Nat}{Q:AQ}{k:List fU}{fr:Frm}{st:St}{x y:Code}(I:Frm->St->Prop)(h1:AWp P N x (AK P N (fun e f s=>e=.normal/\I f s) []) fr st)(h2:∀ fr st,I fr st->AWp P N y (AK P N Q k) fr st):
 AWp P N x (AK P N Q (.code y::k)) fr st:=by
 refine cY h1 ?_;rintro e Xg st' ⟨rfl,hI⟩;rw[iR];exact h2 _ _ hI
theorem KZ{f:Bw->Nat->Option Bw}:∀(l:List Nat) (i:Nat) (s:Bw),goB f (l++[i]) s=(goB f l s).bind fun s'=>f s' i
 |[],i,s=>by show(f s i).bind (goB f [])=f s i;cases f s i<;>rfl
 |j::l,i,s=>by
  show(f s j).bind (goB f (l++[i]))=((f s j).bind (goB f l)).bind _;cases f s j with
  |none=>rfl
  |some s'=>exact KZ l i s'
theorem Af{P:List Nat}{n:Nat}(hn:P.Nodup)(h:∀ i∈P,i<n):P.length<=n:=by have:=aAF hn (l₂:=List.range n) fun i hi=>aBa.2 (h i hi);simpa using this
theorem yY:∀(N:List (List Nat)),(∀ B∈N,B≠[])->N.length<=N.flatten.length
 |[],_=>aAk _
 |B::N,h=>by have h1:=yY N fun B hB=>h B (aAj _ hB);have h2:=aBb.2 (h B sS);simp only[List.flatten_cons,aAh,List.length_cons];omega
theorem BLp.sz{g:Gr}{s0 s:Bw}{v YJ:Int}{Q:List Nat}{D:List Int}{T:List Nat}{N:List (List Nat)}(h:BLp g s0 v YJ Q s D T N):T.length<=g.es.length/\N.length<=g.es.length:=by have hl:∀ i∈T++N.flatten,i<g.es.length:=fun i hi=>((h.pl i).1 hi).1;have h1:=Af h.pn hl;have h2:=yY N fun B hB=>(h.good B hB).ne;rw[aAh]at h1;omega
def SzB(g:Gr)(s:Bw):Prop:=s.stk.length<=s.vis.length*(g.es.length+1)/\s.out.length<=s.vis.length*(g.es.length+1)
theorem SzB.child{g:Gr}{s0 s:Bw}{v YJ:Int}{Q:List Nat}{D:List Int}{T:List Nat}{N:List (List Nat)}(h0:SzB g s0)(h:BLp g s0 v YJ Q s D T N):s.stk.length+1<=s.vis.length*(g.es.length+1)/\s.out.length<=s.vis.length*(g.es.length+1):=by
 obtain⟨h1,h2⟩:=h.sz;have h3:(s0.vis.length+1)*(g.es.length+1)<=s.vis.length*(g.es.length+1):=aCf _ (by rw[h.vis,aAh,List.length_cons];omega);rw[aBT,Nat.one_mul]at h3;have e1:s.stk.length=s0.stk.length+T.length:=by rw[h.stk,aAh]
 have e2:s.out.length=s0.out.length+N.length:=by rw[h.out,aAh]
 obtain⟨k1,k2⟩:=h0;omega
theorem AP{g:Gr}{s:Bw}(hv:g.vs.length<=100)(he:g.es.length<=200)(hnd:s.vis.Nodup)(hs:∀ w∈s.vis,w∈g.vs):s.vis.length<=100/\s.vis.length*(g.es.length+1)<=20100:=by have h1:s.vis.length<=g.vs.length:=aAF hnd hs;exact⟨oO,by have:=Nat.mul_le_mul (show s.vis.length<=100 by omega) (show g.es.length+1<=201 by omega);omega⟩
theorem rU.keeps{g:Gr}{B W a nb lw:Nat}{tk:Int->Nat}{s:Bw}{st st':St}(h:rU g B W a nb lw tk s st)(hk:aA st st'):rU g B W a nb lw tk s st':=by obtain⟨⟨tS,tB,CS,ea,hW,⟨hA,hAm⟩,hN,hL,⟨hS,L6⟩,z9,hn,⟨b1,b2,b3,b4⟩⟩,hc,d1,d2,d3,d4⟩:=h;have hx:=hk.next;exact⟨⟨tS,tB,CS,ea,(hk.H W d1).trans hW,⟨(hk.H a d2).trans hA,hAm⟩,(hk.H nb d3).trans hN,(hk.H lw d4).trans hL,⟨(hk.H tS b3).trans hS,L6⟩,(hk.H tB b4).trans z9,hn,b1,b2,oO,oO⟩,hc,oO,oO,oO,oO⟩
theorem Qk{g:Gr}{B W a nb lw:Nat}{tk:Int->Nat}{s:Bw}{S:St}{tS tB:Nat}{CS:List LV}{ea:List (List Int×LV)}(i0:Nat)
 (hW:S.H W=.box 108 6 [.sl 0 g.es.length (eds g.es),.mp a,.mp nb,.mp lw,.ms tS 0 s.stk.length,.ms tB 0 s.out.length])
 (hA:S.H a=.map false [.u32] ea) (hAm:∀ v,bQ ea [v]=if atP g.es v=[]then none else some (.sl (tk v) (atP g.es v).length (isN (atP g.es v))))
 (hN:S.H nb=.map false [.u32] (nbF 0 s.vis)) (hL:S.H lw=.map false [.u32] (lwF s.vis s.low)) (hS:S.H tS=.box 3 1 CS) (z9:S.H tB=.box 23 1 (bkL g.es s.out))
 (hn:a≠nb/\a≠lw/\nb≠lw) (hb:B<=tS/\B<=tB/\tS<S.next/\tB<S.next) (hc:B<=W/\B<=a/\B<=nb/\B<=lw) (hd:W<S.next/\a<S.next/\nb<S.next/\lw<S.next) (o:cI):
 rU g B W a nb lw tk (eF s i0) ((((S.new o).set tS .dead).new (.box 3 1 (isN s.stk++[i (i0:Int)]))).set W (.box 108 6 [.sl 0 g.es.length (eds g.es),.mp a,.mp nb,.mp lw,.ms (S.next+1) 0 (s.stk.length+1),.ms tB 0 s.out.length]))/\
 KbB B S ((((S.new o).set tS .dead).new (.box 3 1 (isN s.stk++[i (i0:Int)]))).set W (.box 108 6 [.sl 0 g.es.length (eds g.es),.mp a,.mp nb,.mp lw,.ms (S.next+1) 0 (s.stk.length+1),.ms tB 0 s.out.length])):=by
 obtain⟨b1,b2,b3,b4⟩:=hb;obtain⟨c1,c2,c3,c4⟩:=hc;obtain⟨d1,d2,d3,d4⟩:=hd;have m1:¬a=W:=bH hA hW sS;have m2:¬nb=W:=bH hN hW sS;have m3:¬lw=W:=bH hL hW sS;have m4:¬tB=W:=bH z9 hW sS;have m5:¬a=tS:=bH hA hS sS;have m6:¬nb=tS:=bH hN hS sS;have m7:¬lw=tS:=bH hL hS sS;have m8:¬tB=tS:=bH z9 hS sS;have e1:¬a=S.next:=oO;have e2:¬nb=S.next:=oO;have e3:¬lw=S.next:=oO;have e4:¬tB=S.next:=oO;have e5:¬a=S.next+1:=oO;have e6:¬nb=S.next+1:=oO;have e7:¬lw=S.next+1:=oO;have e8:¬tB=S.next+1:=oO;have e9:¬S.next+1=W:=oO;have j8:(eF s i0).stk.length=s.stk.length+1:=by simp[eF]
 have Y6:isN (eF s i0).stk=isN s.stk++[i (i0:Int)]:=by simp[eF,isN]
 refine⟨⟨⟨S.next+1,tB,isN s.stk++[i (i0:Int)],ea,by rw[j8];simp[eF],⟨by simp[m1,m5,e1,e5,hA],hAm⟩,by simp[m2,m6,e2,e6,hN,eF],by simp[m3,m7,e3,e7,hL,eF],⟨by simp[e9],?_⟩,by simp[m4,m8,e4,e8,z9,eF],hn,oO,b2,sS,by simp;omega⟩,⟨c1,c2,c3,c4⟩,by simp;omega,by simp;omega,by simp;omega,by simp;omega⟩,?_⟩
 .rw[j8,<- Y6,aAv];rw[kQ,j8];exact aAk _
 .exact(((((KbB.refl B S).new oO _).set b1 _).new (by simp;omega) _).set c1 _)
theorem BJ{P:Program}{N:Nat}{Q:AQ}{c:Code}{fr:Frm}{st:St}(I:Frm->St->Prop)(h0:I fr st)(h:∀ fr st,I fr st->AWp P N c Q fr st):AWp P N c Q fr st:=h _ _ h0
theorem OO{g:Gr}{B W a nb lw:Nat}{tk:Int->Nat}{s:Bw}{T:St}(h:rU g B W a nb lw tk s T)(v x:Int):rU g B W a nb lw tk (nM s v x) (T.set lw (.map false [.u32] (lwF s.vis (s.low.set (s.vis.idxOf v) x)))):=by obtain⟨⟨tS,tB,CS,ea,hW,⟨hA,hAm⟩,hN,hL,⟨hS,L6⟩,z9,⟨n1,n2,n3⟩,⟨b1,b2,b3,b4⟩⟩,hc,d1,d2,d3,d4⟩:=h;have m1:¬W=lw:=bH hW hL sS;have m2:¬tS=lw:=bH hS hL sS;have m3:¬tB=lw:=bH z9 hL sS;have m4:¬a=lw:=n2;have m5:¬nb=lw:=n3;exact⟨⟨tS,tB,CS,ea,by simp[m1,hW,nM],⟨by simp[m4,hA],hAm⟩,by simp[m5,hN,nM],by simp[nM],⟨by simp[m2,hS],L6⟩,by simp[m3,z9,nM],⟨n1,n2,n3⟩,b1,b2,by simpa using b3,by simpa using b4⟩,hc,by simpa using d1,by simpa using d2,by simpa using d3,by simpa using d4⟩
def VsI(g:Gr)(tk:Int->Nat)(I1:Nat->Bw->Bw->Prop)(B W a nb lw:Nat)(s0:Bw)(v YJ:Int)(st:St)(j:Nat)(fr:Frm)(st2:St):Prop:=
 fr 0=.pt W 0/\fr 1=u v/\fr 2=i YJ/\fr 6=i ((s0.vis.length:Int)+1)/\fr 35=.sl (tk v) (atP g.es v).length (isN (atP g.es v))/\
 ∃ s D T N,I1 j s0 s/\BLp g s0 v YJ ((atP g.es v).take j) s D T N/\(∀ w∈s.vis,w∈g.vs)/\rU g B W a nb lw tk s st2/\KbB B st st2
theorem Tt(g:Gr)(hg:GoodE g)(B W a nb lw:Nat)(tk:Int->Nat)(hv:g.vs.length<=100)(he:g.es.length<=200):∀(n:Nat) (A:Int->Prop) (s:Bw) (v YJ:Int) (st:St),yP g A s v YJ->v∈g.vs->(∀ w∈s.vis,w∈g.vs)->g.vs.length<=n+s.vis.length->SzB g s->rU g B W a nb lw tk s st->
 aB prog 70 [.pt W 0,u v,i YJ] st fun r st'=>∃ s1,nT g.es n v YJ s=some s1/\rU g B W a nb lw tk s1 st'/\KbB B st st':=by
 intro n;induction n with
 |zero=>intro A s v YJ st h hvv hs hn _ _;obtain⟨s1,C,T,N,e,_⟩:=Dw hg 0 A s v YJ h hvv hs hn;cases e
 |succ n ih=>
  intro A s0 v YJ st h0 hvv hs hn Yz Z6;obtain⟨Zp,hsb⟩:=AP hv he h0.nd hs;obtain⟨⟨tS,tB,CS,ea,hW,⟨hA,hAm⟩,hN,hL,⟨hS,L6⟩,z9,⟨n1,n2,n3⟩,⟨b1,b2,b3,b4⟩⟩,⟨c1,c2,c3,c4⟩,d1,d2,d3,d4⟩:=Z6;have m4:¬W=a:=bH hW hA sS;have m5:¬W=nb:=bH hW hN sS;have m6:¬W=lw:=bH hW hL sS;have Xi:=IJ s0.vis 0;have K3:=RO h0.new;have Yw:=xZ s0.vis s0.low v ((s0.vis.length:Int)+1) h0.ln h0.new;have hav:=hAm v;have w1:IntKind.i64.wrap ((s0.vis.length:Int)+1)=(s0.vis.length:Int)+1:=zW;have r1:¬a=nb:=n1;have r2:¬a=lw:=n2;have r3:¬nb=lw:=n3;have r4:¬lw=nb:=fun e=>n3 e.symm;refine zN func70 ntmps70 [] ?_;have hbs:=h0.start;have hstS:(oR s0 v).stk=s0.stk:=rfl;have z8:rU g B W a nb lw tk (oR s0 v) ((st.set nb (.map false [.u32] (nbF 0 (s0.vis++[v])))).set lw (.map false [.u32] (lwF (s0.vis++[v]) (s0.low++[(s0.vis.length:Int)+1])))):=by have q1:¬W=nb:=m5;have q2:¬tS=nb:=bH hS hN sS;have q3:¬tS=lw:=bH hS hL sS;have q4:¬tB=nb:=bH z9 hN sS;have q5:¬tB=lw:=bH z9 hL sS;exact⟨⟨tS,tB,CS,ea,by simp[m5,m6,hW,oR],⟨by simp[r1,r2,hA],hAm⟩,by simp[r3,oR],by simp[oR],⟨by simp[q2,q3,hS],L6⟩,by simp[q4,q5,z9,oR],⟨n1,n2,n3⟩,b1,b2,by simpa using b3,by simpa using b4⟩,⟨c1,c2,c3,c4⟩,by simpa using d1,by simpa using d2,by simpa using d3,by simpa using d4⟩
  have Ye:KbB B st ((st.set nb (.map false [.u32] (nbF 0 (s0.vis++[v])))).set lw (.map false [.u32] (lwF (s0.vis++[v]) (s0.low++[(s0.vis.length:Int)+1])))):=((KbB.refl B st).set c3 _).set c4 _;have hv0:∀ w∈(oR s0 v).vis,w∈g.vs:=fun w hw=>by
   have hw:w∈s0.vis++[v]:=hw;rcases aAg.1 hw with k|k
   .exact hs w k
   .rw[aAl]at k;rw[k];exact hvv
  by_cases A5:atP g.es v=[]
  .rw[aAe A5]at hav;have C6:nT g.es (n+1) v YJ s0=some (oR s0 v):=by unfold nT;rw[A5];rfl
   (repeat' (first|apply qS|apply qB|(refine zE ?_;intro J hJ;simp[hW,hN,hL,hA,m4,m5,m6,Xi,K3,Yw,hav,w1,r1,r2,r3,r4];refine zJ hJ ?_)))
   refine aZ 37 36 38 137 (0) (fun j fr st2=>st2=(st.set nb (.map false [.u32] (nbF 0 (s0.vis++[v])))).set lw (.map false [.u32] (lwF (s0.vis++[v]) (s0.low++[(s0.vis.length:Int)+1])))) ?_ ?_ ?_
   .rfl
   .intro j fr s GD;omega
   .rintro fr s I5;rw[I5]
    skip
    exact⟨trivial,_,C6,z8,Ye⟩
  .rw[aAa A5]at hav;have hnd:(atP g.es v).Nodup:=aCJ _ aDo;have hatl:(atP g.es v).length<=g.es.length:=Af hnd fun i hi=>(aT.1 hi).1
   (repeat' (first|apply qS|apply qB|(refine zE ?_;intro J hJ;simp[hW,hN,hL,hA,m4,m5,m6,Xi,K3,Yw,hav,w1,r1,r2,r3,r4];refine zJ hJ ?_)))
   clear hW hN hL hA hAm hS L6 z9 Xi K3 Yw hav m4 m5 m6 r1 r2 r3 r4 n1 n2 n3 b1 b2 b3 b4 d1 d2 d3 d4;refine aZ 37 36 38 137 ((atP g.es v).length) (fun j fr st2=>VsI g tk (fun j s' s=>goB (gQ (nT g.es n) g.es v YJ ((s0.vis.length:Int)+1)) ((atP g.es v).take j) (oR s' v)=some s) B W a nb lw s0 v YJ st j fr st2) ?_ ?_ ?_
   .exact⟨sS,sS,sS,sS,sS,oR s0 v,[],[],[],rfl,hbs,hv0,z8,Ye⟩
   .rintro j fr s1 GD ⟨f0,f1,f2,f6,f35,s,D,T,N,I1,ZQ,N4,Z6,B3⟩ fi fn JO hJO;have hgt:(atP g.es v).getD j 0=(atP g.es v)[j]:=by rw[aAc,aAd GD];rfl
    have Xx:(atP g.es v).take (j+1)=(atP g.es v).take j++[(atP g.es v).getD j 0]:=by rw[aAn GD,hgt]
    have hi:(atP g.es v).getD j 0∈atP g.es v:=by rw[hgt];exact aAA _
    have hiQ:(atP g.es v).getD j 0∉(atP g.es v).take j:=fun k=>by have h1:=hnd;rw[<- aAH (j+1) (atP g.es v),Xx,aAD,aAs]at h1;exact h1.2.2 _ k _ sS rfl
    have hd:=QL (atP g.es v) j GD;generalize (atP g.es v).getD j 0=i0 at *;obtain⟨hil,hie⟩:=aT.1 hi;have next:∀ s2,gQ (nT g.es n) g.es v YJ ((s0.vis.length:Int)+1) s i0=some s2->goB (gQ (nT g.es n) g.es v YJ ((s0.vis.length:Int)+1)) ((atP g.es v).take (j+1)) (oR s0 v)=some s2:=fun s2 e=>by rw[Xx,KZ,I1];exact e
    by_cases hb:(i0:Int)=YJ
    .have J8:((i0:Int)==YJ)=true:=by simpa using hb
     (repeat' (first|apply qS|refine qX (zZ ?_)|(apply qC;simp[f0,f2,f35,fi,fn,hd,GD,J8])|(refine zE ?_;intro J hJ;simp[f0,f2,f35,fi,fn,hd,GD,J8];refine zJ hJ ?_)))
     exact hJO _ _ (by simp[fi]) (by simp[fn]) ⟨by simp[f0],by simp[f1],by simp[f2],by simp[f6],by simp[f35],s,D,T,N,next s (by unfold gQ;rw[aAe hb]),by rw[Xx];exact ZQ.same hg h0 hi hb,N4,Z6,B3⟩
    have J8:((i0:Int)==YJ)=false:=by simpa using hb
    have hbw':=Z6;obtain⟨⟨tS,tB,CS,ea,hW,⟨hA,hAm⟩,hN,hL,⟨hS,L6⟩,z9,⟨n1,n2,n3⟩,⟨b1,b2,b3,b4⟩⟩,-,d1,d2,d3,d4⟩:=hbw';have hde:=aW g.es i0 hil;have hel:=aN g.es;have hi3:i0*3<g.es.length*3:=oO;have y1:¬W=s1.next:=oO;have y2:¬nb=s1.next:=oO;have y3:¬lw=s1.next:=oO;have y4:¬tS=s1.next:=oO;have y5:¬a=s1.next:=oO;have y6:¬tB=s1.next:=oO;obtain⟨w,hw⟩:∃ w,w=oth (eAt g.es i0) v:=⟨_,rfl⟩;have ZX:w=if(g.es.getD i0 ed0).a=v then(g.es.getD i0 ed0).b else(g.es.getD i0 ed0).a:=hw
    (repeat (apply qS));(refine zE ?_;intro J hJ;simp[f35,fi,fn,hd,GD];refine zJ hJ ?_)
    (repeat (apply qS));(refine zE ?_;intro J hJ;simp[f2];refine zJ hJ ?_)
    (apply qC;simp[J8])
    refine qK (zZ ?_)
    (repeat (apply qS));(refine zE ?_;intro J hJ;simp[f0,hW,hde,hil,hi3,hel];refine zJ hJ ?_)
    (repeat (apply qS));(refine zE ?_;intro J hJ;simp[];refine zJ hJ ?_)
    apply qS;refine DE (fun f T=>f 0=.pt W 0/\f 1=u v/\f 2=i YJ/\f 6=i ((s0.vis.length:Int)+1)/\f 35=.sl (tk v) (atP g.es v).length (isN (atP g.es v))/\f 36=i (atP g.es v).length/\f 37=i j/\f 8=i i0/\f 10=u w/\∃ o,T=s1.new o) ?_ ?_
    .have hxg:g.es.getD i0 ed0=g.es[i0]:=cZ _ _ hil;rw[hxg]at ZX;by_cases W7:g.es[i0].a=v
     .have hxb:(g.es[i0].a==v)=true:=by simpa using W7
      rw[aAe W7]at ZX
      (repeat' (first|apply qS|(apply qC;simp[f0,f1,hxb])|(refine zE ?_;intro J hJ;simp[f0,f1,hxb];refine zJ hJ ?_)))
      exact⟨trivial,by simp[f0],by simp[f1],by simp[f2],by simp[f6],by simp[f35],by simp[fn],by simp[fi],sS,by rw[ZX];simp,_,rfl⟩
     .have hxb:(g.es[i0].a==v)=false:=by simpa using W7
      rw[aAa W7]at ZX
      (repeat' (first|apply qS|refine qK (zZ ?_)|(apply qC;simp[f0,f1,hxb])|(refine zE ?_;intro J hJ;simp[f0,f1,hxb];refine zJ hJ ?_)))
      exact⟨trivial,by simp[f0],by simp[f1],by simp[f2],by simp[f6],by simp[f35],by simp[fn],by simp[fi],sS,by rw[ZX];simp,_,rfl⟩
    clear f0 f1 f2 f6 f35 fi fn hd hde ZX fr;rintro fr T ⟨f0,f1,f2,f6,f35,f36,f37,f8,f10,o,hT⟩;rw[hT];clear hT T;subst hw;have hW':=(show(s1.new o).H W=s1.H W by rw[bX,aAa y1]).trans hW;have hN':=(show(s1.new o).H nb=s1.H nb by rw[bX,aAa y2]).trans hN;have hL':=(show(s1.new o).H lw=s1.H lw by rw[bX,aAa y3]).trans hL;have hS':=(show(s1.new o).H tS=s1.H tS by rw[bX,aAa y4]).trans hS;have K4:=(show(s1.new o).H a=s1.H a by rw[bX,aAa y5]).trans hA;have W8:=(show(s1.new o).H tB=s1.H tB by rw[bX,aAa y6]).trans z9;have hbT:rU g B W a nb lw tk s (s1.new o):=Z6.keeps (aA.new _ _);have hkT:KbB B st (s1.new o):=B3.new oO o;have hTn:(s1.new o).next=s1.next+1:=aJ _ _;generalize s1.new o=T1 at *;obtain⟨szp,szo⟩:=Yz.child ZQ;obtain⟨vl,sb⟩:=AP hv he ZQ.nd N4;have hm:=Kn s.vis (oth (eAt g.es i0) v);have m5:¬W=nb:=bH hW hN sS;have m6:¬W=lw:=bH hW hL sS;have m1:¬W=tS:=bH hW hS sS;have hCS:s.stk.length<=CS.length:=by have:=congrArg List.length L6;rw[aAq,kQ]at this;omega
    have t1:¬W=T1.next:=oO;have t2:¬W=T1.next+1:=oO;have t3:¬tS=T1.next:=oO;obtain⟨hpb,hpk⟩:=Qk i0 hW' K4 hAm hN' hL' hS' W8 ⟨n1,n2,n3⟩ ⟨b1,b2,oO,oO⟩ ⟨c1,c2,c3,c4⟩ ⟨oO,oO,oO,oO⟩ (.own 3 1 1);by_cases Xl:oth (eAt g.es i0) v∈s.vis
    .rw[aAe Xl]at hm;have Yi:1<=nmW s.vis (oth (eAt g.es i0) v):=by unfold nmW;rw[aAe Xl];omega
     by_cases I6:nmW s.vis (oth (eAt g.es i0) v)<(s0.vis.length:Int)+1
     .have Y2:=ZQ.back hg h0 hi hiQ hb Xl I6;have YY:gQ (nT g.es n) g.es v YJ ((s0.vis.length:Int)+1) s i0=some (nM (eF s i0) v (min (lwW s v) (nmW s.vis (oth (eAt g.es i0) v)))):=by unfold gQ;rw[aAa hb,aAe Xl,aAe I6]
      generalize oth (eAt g.es i0) v=w at *;generalize nmW s.vis w=z at *;have hzb:(z==0)=false:=by rw[aCO];omega
      have I2:¬z=0:=oO
      (repeat' (first|apply qS|apply qB|(apply qC;simp[f0,f1,f6,f8,f10,hW',hN',hm,hzb,I2,I6,hS',L6,hCS,m1,t1,t2,t3])|(refine zE ?_;intro J hJ;simp[f0,f1,f6,f8,f10,hW',hN',hm,hzb,I2,I6,hS',L6,hCS,m1,t1,t2,t3];(repeat refine ca ?_);refine zJ hJ ?_)))
      refine BJ (fun f T2=>f 0=.pt W 0/\f 1=u v/\f 2=i YJ/\f 6=i ((s0.vis.length:Int)+1)/\f 35=.sl (tk v) (atP g.es v).length (isN (atP g.es v))/\f 36=i (atP g.es v).length/\f 37=i j/\f 11=i z/\rU g B W a nb lw tk (eF s i0) T2/\KbB B T1 T2) ⟨by simp[f0],by simp[f1],by simp[f2],by simp[f6],by simp[f35],by simp[f36],by simp[f37],sS,hpb,hpk⟩ ?_;clear f0 f1 f2 f6 f35 f36 f37 f8 f10 hpb hpk fr;rintro fr T2 ⟨f0,f1,f2,f6,f35,f36,f37,f11,Zt,Xq⟩;have Zs:=OO Zt v (min (lwW s v) z);have Yw:=uT s.vis s.low v ZQ.ln (ZQ.v_in hg h0);have z7:=pR s.vis s.low v (min (lwW s v) z) ZQ.ln (ZQ.v_in hg h0);obtain⟨⟨tS2,tB2,CS2,ea2,jW,-,-,jL,-,-,-,-⟩,-,-⟩:=Zt;have jm6:¬W=lw:=bH jW jL sS;have jL:T2.H lw=.map false [.u32] (lwF s.vis s.low):=jL;have Yw:bQ (lwF s.vis s.low) [v]=some (i (lwW s v)):=Yw
      (refine zS [] [W,lw] [0,2,4,6,8,10,12,14,16,18,20,22,24,27] ?_;intro J hJ;simp[f0,f1,f11,jW,jL,Yw,z7];refine zJ hJ ?_)
      have ZP:(if z<lwW s v then z else lwW s v)=min (lwW s v) z:=by split<;>omega
      rw[ZP,show bP (lwF s.vis s.low) [v] (LV.atom (Value.int IntKind.i64 (min (lwW s v) z)))=_ from z7];exact hJO _ _ (by simp[f37]) (by simp[f36]) ⟨by simp[f0],by simp[f1],by simp[f2],by simp[f6],by simp[f35],_,D,T++[i0],N,next _ YY,by rw[Xx];exact Y2,N4,Zs,(hkT.trans Xq).set c4 _⟩
     .have hskip:=ZQ.skip hg h0 hi Xl I6;have YY:gQ (nT g.es n) g.es v YJ ((s0.vis.length:Int)+1) s i0=some s:=by unfold gQ;rw[aAa hb,aAe Xl,aAa I6]
      generalize oth (eAt g.es i0) v=w at *;generalize nmW s.vis w=z at *;have hzb:(z==0)=false:=by rw[aCO];omega
      have I2:¬z=0:=oO
      (repeat' (first|apply qS|apply qB|refine qK (zZ ?_)|(apply qC;simp[f0,f1,f6,f10,hW',hN',hm,hzb,I2,I6])|(refine zE ?_;intro J hJ;simp[f0,f1,f6,f10,hW',hN',hm,hzb,I2,I6];refine zJ hJ ?_)))
      exact hJO _ _ (by simp[f37]) (by simp[f36]) ⟨by simp[f0],by simp[f1],by simp[f2],by simp[f6],by simp[f35],s,D,T,N,next s YY,by rw[Xx];exact hskip,N4,hbT,hkT⟩
    .rw[aAa Xl]at hm;have Z8:=ZQ.pre hg h0 hi Xl;have r9:=fun s1 C T' N' hp=>ZQ.child hg h0 hi hiQ hb Xl (s1:=s1) (C:=C) (T':=T') (N':=N') hp;have U4:oth (eAt g.es i0) v∈g.vs:=hg.nbr (lW hi);have hwne:=sU hg hi;have YY:gQ (nT g.es n) g.es v YJ ((s0.vis.length:Int)+1) s i0=(nT g.es n (oth (eAt g.es i0) v) i0 (eF s i0)).bind (LM g.es.length v ((s0.vis.length:Int)+1) i0 (oth (eAt g.es i0) v)):=by unfold gQ;rw[aAa hb,aAa Xl]
     generalize oth (eAt g.es i0) v=w at *
     (repeat' (first|apply qS|apply qB|(apply qC;simp[f0,f1,f6,f8,f10,hW',hN',hm,hS',L6,hCS,m1,t1,t2,t3])|(refine zE ?_;intro J hJ;simp[f0,f1,f6,f8,f10,hW',hN',hm,hS',L6,hCS,m1,t1,t2,t3];(repeat refine ca ?_);(try refine zJ hJ ?_))))
     have hlen:s.vis.length=s0.vis.length+1+D.length:=by rw[ZQ.vis,aAh,List.length_cons];omega
     refine qE (ih _ (eF s i0) w i0 _ Z8 U4 N4 (by show g.vs.length<=n+s.vis.length;omega) ⟨by simpa[eF]using szp,szo⟩ hpb) sS ?_;rintro r T2 ⟨s2,C6,u7,Xq⟩;obtain⟨s2',C,T',N',hvis',hp,hC⟩:=Dw hg n _ (eF s i0) w i0 Z8 U4 N4 (by show g.vs.length<=n+s.vis.length;omega);obtain rfl:s2=s2':=by rw[C6]at hvis';exact aBf hvis'
     clear hvis';obtain⟨s3,D2,T3,N2,C1,hbl3⟩:=r9 s2 C T' N' hp;have hst3:gQ (nT g.es n) g.es v YJ ((s0.vis.length:Int)+1) s i0=some s3:=by rw[YY,C6];exact C1
     have hkT2:KbB B st T2:=(hkT.trans hpk).trans Xq;have A3:v∈s.vis:=ZQ.v_in hg h0;have hvs2:v∈s2.vis:=by rw[hp.vis];exact aAt _ A3
     have hws2:w∈s2.vis:=by rw[hp.vis];exact aAI _ hp.hd
     have hs2v:∀ x∈s2.vis,x∈g.vs:=fun x hx=>by rw[hp.vis,aAg]at hx;exact hx.elim (N4 x) (hC x)
     have hmv:bQ (lwF s2.vis s2.low) [v]=some (i (lwW s2 v)):=uT s2.vis s2.low v hp.ln hvs2;have hmw:bQ (lwF s2.vis s2.low) [w]=some (i (lwW s2 w)):=uT s2.vis s2.low w hp.ln hws2;have z7:=pR s2.vis s2.low v (min (lwW s2 v) (lwW s2 w)) hp.ln hvs2;have Zs:=OO u7 v (min (lwW s2 v) (lwW s2 w));have hmw3:bQ (lwF s2.vis (s2.low.set (s2.vis.idxOf v) (min (lwW s2 v) (lwW s2 w)))) [w]=some (i (lwW s2 w)):=by have h1:=uT s2.vis (s2.low.set (s2.vis.idxOf v) (min (lwW s2 v) (lwW s2 w))) w (by rw[aCH];exact hp.ln) hws2;have h2:=EC (x:=min (lwW s2 v) (lwW s2 w)) hp.ln hvs2 hws2;rw[aAa hwne]at h2;rw[h1];exact congrArg (fun y=>some (i y)) h2
     obtain⟨⟨tS2,tB2,CS2,ea2,jW,-,-,jL,-,-,-,-⟩,-,-⟩:=u7;have jm6:¬W=lw:=bH jW jL sS;have ZP:(if lwW s2 w<lwW s2 v then lwW s2 w else lwW s2 v)=min (lwW s2 v) (lwW s2 w):=by split<;>omega
     (apply aF;simp[];refine zJ hJ ?_)
     (repeat (apply qS));(refine zS [] [W,lw] [0,2,4,6,8,10,12,14,16,18,20,22,24,26,28,30,32,34,37] ?_;intro J hJ;simp[f0,f1,f10,jW,jL,hmv,hmw];refine zJ hJ ?_)
     rw[ZP,show bP (lwF s2.vis s2.low) [v] (LV.atom (Value.int IntKind.i64 (min (lwW s2 v) (lwW s2 w))))=_ from z7];have hW3:(T2.set lw (.map false [.u32] (lwF s2.vis (s2.low.set (s2.vis.idxOf v) (min (lwW s2 v) (lwW s2 w)))))).H W=T2.H W:=by rw[bF,aAa jm6]
     unfold LM at C1;by_cases hc:(s0.vis.length:Int)+1<=lwW s2 w
     .rw[aAe hc]at C1;have Q2:s2.stk=s.stk++i0::T':=by rw[hp.stk];show(s.stk++[i0])++T'=_;simp
      have hiT:i0∉T':=fun k=>((hp.pl i0).1 (aAt _ k)).2.1 rfl;have hTn:=(aAs.1 hp.pn).1;have hTl:∀ k∈T',k<g.es.length:=fun k hk=>((hp.pl k).1 (aAt _ hk)).1;have hTlen:=Af hTn hTl;have hNl:=yY N' fun B hB=>(hp.good B hB).ne;have hNf:=Af (aAs.1 hp.pn).2.1 fun k hk=>((hp.pl k).1 (aAI _ hk)).1;have X6:s2.out.length=s.out.length+N'.length:=by rw[hp.out,aAh];rfl
      have hk2l:s2.stk.length=s.stk.length+1+T'.length:=by rw[Q2,aAh,List.length_cons];omega
      have B9:jG s2.stk i0=s.stk.length:=by rw[Q2];exact vL hiT
      have hdrop:s2.stk.drop (jG s2.stk i0)=i0::T':=by rw[B9,Q2,aDv]
      have YO:=XF g hg.ids B W a nb lw tk (nM s2 v (min (lwW s2 v) (lwW s2 w))) i0 _ Zs (by show i0∈s2.stk;rw[Q2];simp)
       (by show ∀ k∈s2.stk.drop (jG s2.stk i0),k<g.es.length
           rw[hdrop];intro k hk;rcases aAf.1 hk with e|e
           .rw[e];exact hil
           .exact hTl k e)
       (by show(s2.stk.drop (jG s2.stk i0)).Nodup
           rw[hdrop];exact aAy.2 ⟨hiT,hTn⟩) oO (by show s2.stk.length<=60000;omega) (by show s2.out.length<=100000;omega)
      (repeat' (first|apply qS|(apply qC;simp[f0,f6,f8,f10,jW,jm6,hmw3,hc])|(refine zE ?_;intro J hJ;simp[f0,f6,f8,f10,jW,jm6,hmw3,hc];(try refine zJ hJ ?_))))
      refine qE YO sS ?_;rintro r T4 ⟨s4,hcw,hb4,Yb⟩;obtain rfl:s4=s3:=by rw[hcw]at C1;exact aBf C1
      have hv4:s4.vis=s2.vis:=by
       unfold Fj at hcw
       split at hcw
       .cases hcw;rfl
       .cases hcw
      (repeat' (apply aF;simp[];refine zJ hJ ?_))
      exact hJO _ _ (by simp[f37]) (by simp[f36]) ⟨by simp[f0],by simp[f1],by simp[f2],by simp[f6],by simp[f35],_,D2,T3,N2,next _ hst3,by rw[Xx];exact hbl3,fun x hx=>hs2v x (by rw[<- hv4];exact hx),hb4,(hkT2.set c4 _).trans Yb⟩
     .rw[aAa hc]at C1;obtain rfl:=aBf C1
      (repeat' (first|apply qS|refine qK (zZ ?_)|(apply qC;simp[f0,f6,f10,jW,jm6,hmw3,hc])|(refine zE ?_;intro J hJ;simp[f0,f6,f10,jW,jm6,hmw3,hc];refine zJ hJ ?_)))
      exact hJO _ _ (by simp[f37]) (by simp[f36]) ⟨by simp[f0],by simp[f1],by simp[f2],by simp[f6],by simp[f35],_,D2,T3,N2,next _ hst3,by rw[Xx];exact hbl3,hs2v,Zs,hkT2.set c4 _⟩
   .rintro fr s1 ⟨f0,f1,f2,f6,f35,s,D,T,N,I1,ZQ,N4,Z6,B3⟩;rw[aAQ]at I1
    skip
    exact⟨trivial,s,I1,Z6,B3⟩
theorem PM{P:Program}{N:Nat}{Q:AQ}{k:List fU}{fr:Frm}{st:St}{x:Code}(I:Frm->St->Prop)(h1:AWp P N x (AK P N (fun e f s=>e=.normal/\I f s) []) fr st)(h2:∀ fr st,I fr st->AK P N Q k .normal fr st):
 AWp P N x (AK P N Q k) fr st:=by
 refine cY h1 ?_;rintro e Xg st' ⟨rfl,hI⟩;exact h2 _ _ hI
theorem Cv{P:Program}{N:Nat}{Q:AQ}{fr:Frm}{st:St}{c:Code}(q e' s':Nat){e s:Nat}(pre post:List LV)(hH:st.H q=.box e s (pre++.nil::post))
 (h:AWp P N c Q fr ((st.new (.box e' s' [])).set q (.box e s (pre++.ms st.next 0 0::post)))):AWp P N c Q fr st:=by
 refine iK (fun a w g hi hr _=>?_) h;have he:=ext_nil w g;have h1:Inv w g.addNil (st.new (.box e' s' [])):=iQ hi _ (.inr ⟨e',s',rfl⟩);have GD:q<st.next:=Bd hi hH sS;refine⟨g.addNil,AR h1 (cs:=pre++.nil::post) (by rw[bX,aAa oO];exact hH) sS (fun vs hv=>?_),hr.mono he,he⟩;obtain⟨v,k1,k2⟩:=mR pre vs hv;refine k2 g.addNil _ (Ext.refl _ _) ?_;simp only[Rep]at k1 ⊢;exact⟨none,0,k1,aAk _,aBs _,fun _=>by simp[G.addNil,hi.next],fun h=>absurd rfl h,by simp[G.addNil,hi.next]⟩
structure AtR(lo:Nat)(ρ:Int->List Nat)(ea:List (List Int×LV))(tk:Int->Nat)(st:St):Prop where
 get:∀ v,bQ ea [v]=if ρ v=[]then none else some (.sl (tk v) (ρ v).length (isN (ρ v)))
 own:∀ v,ρ v≠[]->st.H (tk v)=.own 3 1 (ρ v).length/\(tk v≠0/\lo<=tk v/\tk v<st.next)
 inj:∀ v w,ρ v≠[]->ρ w≠[]->tk v=tk w->v=w
def mJ(ρ:Int->List Nat)(v:Int)(k:Nat):Int->List Nat:=fun w=>if w=v then ρ v++[k]else ρ w
theorem AtR.put{lo:Nat}{ρ:Int->List Nat}{ea:List (List Int×LV)}{tk:Int->Nat}{st st':St}(h:AtR lo ρ ea tk st)(v:Int)(k:Nat){t n:Nat}(hn:n=(ρ v).length+1)(ht:st.next<=t/\t<st'.next/\t≠0/\lo<=t)(hH:st'.H t=.own 3 1 n)
 (ho:∀ w,w≠v->ρ w≠[]->st'.H (tk w)=st.H (tk w)) (hl:st.next<=st'.next):AtR lo (mJ ρ v k) (bP ea [v] (.sl t n (isN (ρ v)++[i (k:Int)]))) (fun w=>if w=v then t else tk w) st' where
 get:=fun w=>by
  rw[wO];unfold mJ;by_cases e:w=v
  .subst e;rw[aAe rfl,aAe rfl,aAe rfl,aAa sS,hn];simp[isN]
  .rw[aAa (by simpa using e),aAa e,aAa e];exact h.get w
 own:=fun w hw=>by
  unfold mJ at hw ⊢;by_cases e:w=v
  .rw[aAe e,aAe e];exact⟨by rw[hH,hn];simp,ht.2.2.1,ht.2.2.2,ht.2.1⟩
  .rw[aAa e]at hw;rw[aAa e,aAa e];obtain⟨h1,h2,h3,h4⟩:=h.own w hw;exact⟨by rw[ho w e hw];exact h1,h2,h3,oO⟩
 inj:=fun x y hx hy he=>by
  unfold mJ at hx hy;by_cases e1:x=v
  .by_cases e2:y=v
   .rw[e1,e2]
   .rw[aAa e2]at hy;simp only[aAe e1,aAa e2]at he;have:=(h.own y hy).2.2.2;omega
  .rw[aAa e1]at hx;by_cases e2:y=v
   .simp only[aAa e1,aAe e2]at he;have:=(h.own x hx).2.2.2;omega
   .rw[aAa e2]at hy;simp only[aAa e1,aAa e2]at he;exact h.inj x y hx hy he
theorem AtR.keeps{lo:Nat}{ρ:Int->List Nat}{ea:List (List Int×LV)}{tk:Int->Nat}{st st':St}(h:AtR lo ρ ea tk st)(hk:aA st st'):AtR lo ρ ea tk st':=
 ⟨h.get,fun v hv=>by obtain⟨h1,h2,h3,h4⟩:=h.own v hv;exact⟨by rw[hk.H _ h4];exact h1,h2,h3,by have:=hk.next;omega⟩,h.inj⟩
def atK(es:List Ed)(k:Nat)(v:Int):List Nat:=(List.range k).filter fun i=>decide ((eAt es i).a=v\/(eAt es i).b=v)
theorem OS{es:List Ed}{k:Nat}(Wu:(eAt es k).a≠(eAt es k).b):atK es (k+1)=mJ (mJ (atK es k) (eAt es k).a k) (eAt es k).b k:=by
 funext v
 unfold atK mJ;rw[aEn,aBx];by_cases hb:v=(eAt es k).b
 .subst hb;rw[aAe rfl,aAa (fun e=>Wu e.symm)];simp
 .rw[aAa hb];by_cases ha:v=(eAt es k).a
  .subst ha;simp
  .rw[aAa ha];have:¬((eAt es k).a=v\/(eAt es k).b=v):=oO;rw[aDF,aAa (by simpa using this)];simp
def AtI(g:Gr)(p:Nat)(st:St)(ρ:Int->List Nat)(s:St):Prop:=s.H p=.box 25 2 (grL g)/\s.H (p+4)=.box 108 6 [.sl 0 g.es.length (eds g.es),.mp (p+1),.mp (p+2),.mp (p+3),.ms (p+5) 0 0,.ms (p+6) 0 0]/\s.H (p+2)=.map false [.u32] []/\s.H (p+3)=.map false [.u32] []/\s.H (p+5)=.box 3 1 []/\s.H (p+6)=.box 23 1 []/\p+7<=s.next/\aA st s/\
 ∃ ea tk,s.H (p+1)=.map false [.u32] ea/\AtR (p+7) ρ ea tk s
theorem AE{es:List Ed}{n:Nat}:∀(l:List Int) (v:Int) (s:Bw),wL es n (l++[v]) s=(wL es n l s).bind fun s'=>wL es n [v] s'
 |[],v,s=>rfl
 |w::l,v,s=>by
  simp only[List.cons_append,wL]
  split
  .exact AE l v s
  .cases nT es n w (-1) s with
   |none=>rfl
   |some s'=>exact AE l v s'
theorem JC.sz{g:Gr}{s:Bw}(h:JC g s):SzB g s:=by
 have h1:=yY s.out fun B hB=>(h.good B hB).ne;have h2:=Af h.pn fun i hi=>((h.pl i).1 hi).1;unfold SzB;rw[h.stk];refine⟨aBs _,?_⟩;cases hv:s.vis with
 |nil=>
  have:s.out.flatten=[]:=aCw.2 fun i hi=>by have:=((h.pl i).1 hi).2;rw[hv]at this;cases this
  rw[this]at h1;rw[List.length_nil,aDs];exact h1
 |cons w V=>rw[List.length_cons,aBT];omega
theorem AtI.keeps{g:Gr}{p:Nat}{st:St}{ρ:Int->List Nat}{s s':St}(h:AtI g p st ρ s)(hk:aA s s'):AtI g p st ρ s':=by obtain⟨h0,h1,h2,h3,h4,h5,h6,h7,ea,tk,h8,h9⟩:=h;have:=hk.next;exact⟨(hk.H _ oO).trans h0,(hk.H _ oO).trans h1,(hk.H _ oO).trans h2,(hk.H _ oO).trans h3,(hk.H _ oO).trans h4,(hk.H _ oO).trans h5,oO,h7.trans hk,ea,tk,(hk.H _ oO).trans h8,h9.keeps hk⟩
theorem FY:∀ {out:List (List Nat)},(∀ B∈out,B≠[])->out.length<=out.flatten.length
 |[],_=>by simp
 |B::out,h=>by have h1:=FY (out:=out) fun B hB=>h B (aAj _ hB);have h2:=aBb.2 (h B sS);simp only[List.length_cons,List.flatten_cons,aAh];omega
theorem Qr{es:List Ed}{out:List (List Nat)}(hall:∀ i,i∈out.flatten↔i<es.length)(v9:∀ B∈out,dF es B)(hnd:out.flatten.Nodup):out.length<=es.length:=by have h1:=FY fun B hB=>(v9 B hB).ne;have h2:=aAF hnd fun k hk=>aBa.2 ((hall k).1 hk);rw[aDA]at h2;omega
theorem Sr(g:Gr)(hg:GoodE g)(st:St)(hv:g.vs.length<=100)(he:g.es.length<=200):
 aB prog 43 [.ag (grL g)] st fun r st'=>∃ q,r=.ms q 0 (fO g.es).length/\st'.H q=.box 23 1 (bkL g.es (fO g.es))/\st.next<=q/\q<st'.next/\aA st st':=by
 obtain⟨S,hS,hSk,hSa,hSn,Yg⟩:=vJ hg;have hel:=aN g.es;have j9:=hg.ids;refine zN func43 ntmps43 [.tmp 2] ?_;refine jC fun ZA=>?_;have x1:¬st.next=st.next+1:=oO;have x2:¬st.next=st.next+1+1:=oO;have x3:¬st.next=st.next+1+1+1:=oO;have x4:¬st.next=st.next+1+1+1+1:=oO;have x5:¬st.next=st.next+1+1+1+1+1:=oO;have x6:¬st.next=st.next+1+1+1+1+1+1:=oO
 (repeat' (first|apply qS|apply qB|(refine zE ?_;intro J hJ;simp[x1,x2,x3,x4];refine zJ hJ ?_)))
 refine Cv (st.next+1+1+1+1) 3 1 (e:=108) (s:=6) [.sl 0 g.es.length (eds g.es),.mp (st.next+1),.mp (st.next+1+1),.mp (st.next+1+1+1)] [.nil] sS ?_;refine Cv (st.next+1+1+1+1) 23 1 (e:=108) (s:=6) [.sl 0 g.es.length (eds g.es),.mp (st.next+1),.mp (st.next+1+1),.mp (st.next+1+1+1),.ms (st.next+5) 0 0] [] sS ?_;obtain⟨p,hp⟩:∃ p,p=st.next:=⟨_,rfl⟩;refine aZ 18 17 19 55 (g.es.length) (fun j fr st2=>fr 1=.pt p 0/\fr 3=.pt (p+4) 0/\fr 16=.sl 0 g.es.length (eds g.es)/\AtI g p st (atK g.es j) st2) ?_ ?_ ?_
 .subst hp;refine⟨sS,sS,sS,?_⟩;refine⟨by simp[x1,x2,x3,x4,x5,x6],?_,sS,sS,sS,sS,sS,?_,[],fun _=>0,sS,⟨fun v=>rfl,fun v hv=>absurd rfl hv,fun v w hv=>absurd rfl hv⟩⟩
  .simp
  ·(repeat (first|exact aA.refl _|(refine aA.trans ?_ (aA.new _ _))|(refine aA.set ?_ oO _)))
 .clear x1 x2 x3 x4 x5 x6;rintro j fr s GD ⟨f1,f3,f16,hI⟩ fi fn JO hJO;have hde:=aW g.es j GD;have hj3:j*3<g.es.length*3:=oO;have Wu:=hg.ne _ (nN GD);have hsu:=OS (es:=g.es) (k:=j) Wu;rw[hsu]at hJO;clear hsu;unfold eAt at hJO;generalize g.es.getD j ed0=x at *;obtain⟨id,xa,xb⟩:=x;simp only at hJO hde;have hρ:∀ w,(atK g.es j w).length<=10000:=fun w=>by have:=aBh (fun i=>decide ((eAt g.es i).a=w\/(eAt g.es i).b=w)) (List.range j);rw[aDA]at this;unfold atK;omega
  generalize atK g.es j=ρ at *;have Y6:p+7<=s.next:=hI.2.2.2.2.2.2.1
  (repeat' (first|apply qS|(refine zE ?_;intro J hJ;simp[f1,f3,f16,fi,fn,hde,GD,hj3,hel];refine zJ hJ ?_)))
  refine BJ (fun f T=>f 1=.pt p 0/\f 3=.pt (p+4) 0/\f 4=i j/\f 5=.pt s.next 0/\f 16=.sl 0 g.es.length (eds g.es)/\f 17=i g.es.length/\f 18=i j/\s.next<T.next/\T.H s.next=.box 56 3 [u id,u xa,u xb]/\AtI g p st (ρ) T) ⟨by simp[f1],by simp[f3],sS,sS,by simp[f16],by simp[fn],by simp[fi],sS,sS,hI.keeps (aA.new _ _)⟩ ?_;generalize s.next=X at *;clear f1 f3 f16 fi fn hI fr;rintro fr s2 ⟨f1,f3,f4,f5,f16,fn,fi,hXl,hX,hI⟩;refine DE (fun f T=>f 1=.pt p 0/\f 3=.pt (p+4) 0/\f 4=i j/\f 5=.pt X 0/\f 16=.sl 0 g.es.length (eds g.es)/\f 17=i g.es.length/\f 18=i j/\X<T.next/\T.H X=.box 56 3 [u id,u xa,u xb]/\AtI g p st (mJ ρ xa j) T) ?_ ?_
  .obtain⟨hG,hW,hN,hL,hS,hB,YN,Xt,ea,tk,hA,hR⟩:=hI;have Yc:=hR.get xa;have k1:¬X=s2.next:=oO;have k2:¬X=s2.next+1:=oO;have k3:¬X=p+1:=oO;have e0:¬p+4=s2.next:=oO;have e1:¬p+1=s2.next:=oO;have e2:¬p+2=s2.next:=oO;have e3:¬p+3=s2.next:=oO;have e4:¬p=s2.next:=oO;have e5:¬p+5=s2.next:=oO;have e6:¬p+6=s2.next:=oO;have e7:¬p+4=s2.next+1:=oO;have e8:¬p+1=s2.next+1:=oO;have e9:¬p+2=s2.next+1:=oO;have P5:¬p+3=s2.next+1:=oO;have e11:¬p=s2.next+1:=oO;have e12:¬p+5=s2.next+1:=oO;have e13:¬p+6=s2.next+1:=oO;have e14:¬s2.next+1=p+1:=oO;have e15:¬s2.next=p:=oO;have tkl:∀ w,ρ w≠[]->¬tk w=s2.next/\¬tk w=s2.next+1/\¬tk w=p+1:=fun w hw=>by have:=(hR.own w hw).2;omega
   by_cases hr:ρ xa=[]
   .rw[aAe hr]at Yc
    (refine zS [] [X,p+4,p+1] [0,2,4,6,8,10,12,14,16,18,20,22,24,26,28,30,33] ?_;intro J hJ;simp[f3,f4,f5,hX,hW,hA,Yc,k1,k2,k3,e0,e1,e4,e7,e8,e14,e15];(repeat refine ca ?_);refine zJ hJ ?_)
    have C3:=hR.put xa j (t:=s2.next+1) (n:=1) (st':=(((s2.new (.own 3 1 1)).new (.own 3 1 1)).set (p+1) (.map false [.u32] (bP ea [xa] (.sl (s2.next+1) 1 [i (j:Int)]))))) (by rw[hr];rfl) ⟨oO,sS,oO,oO⟩ (by simp[e14,e15]) (fun w hw h0=>by obtain⟨t1,t2,t3⟩:=tkl w h0;simp[t1,t2,t3]) (by simp;omega);rw[hr]at C3;refine⟨by trivial,by simp[f1],by simp[f3],by simp[f4],by simp[f5],by simp[f16],by simp[fn],by simp[fi],by simp;omega,by simp[k1,k2,k3,hX],?_⟩;refine⟨by simp[e4,e11,hG],by simp[e0,e7,hW],by simp[e2,e9,hN],by simp[e3,P5,hL],by simp[e5,e12,hS],by simp[e6,e13,hB],by simp;omega,?_,_,_,by simp<;>rfl,C3⟩
    (repeat (first|exact Xt|(refine aA.trans ?_ (aA.new _ _))|(refine aA.set ?_ oO _)))
   .rw[aAa hr]at Yc;obtain⟨hO,t0,tl,tu⟩:=hR.own xa hr;obtain⟨t1,t2,t3⟩:=tkl xa hr;have t4:¬X=tk xa:=fun e=>by rw[<- e,hX]at hO;cases hO
    have hrl:(isN (ρ xa)).length=(ρ xa).length:=kQ _;have hrb:(ρ xa).length<=10000:=hρ _;have p0:¬p=tk xa:=oO;have p1:¬p+1=tk xa:=oO;have p2:¬p+2=tk xa:=oO;have p3:¬p+3=tk xa:=oO;have p4:¬p+4=tk xa:=oO;have p5:¬p+5=tk xa:=oO;have p6:¬p+6=tk xa:=oO
    (refine zS [] [X,p+4,p+1] [0,2,4,6,8,10,12,14,16,18,20,22,24,26,28,30,33] ?_;intro J hJ;simp[f3,f4,f5,hX,hW,hA,Yc,hO,hrl,t0,t1,t4,p1,p4,k1,k2,k3,e0,e1,e4,e7,e8,e14,e15];(repeat refine ca ?_);refine zJ hJ ?_)
    have C3:=hR.put xa j (t:=s2.next+1) (n:=(ρ xa).length+1) (st':=((((s2.new (.own 3 1 1)).set (tk xa) .dead).new (.own 3 1 ((ρ xa).length+1))).set (p+1) (.map false [.u32] (bP ea [xa] (.sl (s2.next+1) ((ρ xa).length+1) (isN (ρ xa)++[i (j:Int)]))))) ) rfl ⟨oO,sS,oO,oO⟩ (by simp[e14,e15]) (fun w hw h0=>by obtain⟨u1,u2,u3⟩:=tkl w h0;have u4:¬tk w=tk xa:=fun e=>hw (hR.inj w xa h0 hr e);simp[u1,u2,u3,u4]) (by simp;omega);refine⟨by trivial,by simp[f1],by simp[f3],by simp[f4],by simp[f5],by simp[f16],by simp[fn],by simp[fi],by simp;omega,by simp[k1,k2,k3,t4,hX],?_⟩;refine⟨by simp[p0,e4,e11,hG],by simp[p4,e0,e7,hW],by simp[p2,e2,e9,hN],by simp[p3,e3,P5,hL],by simp[p5,e5,e12,hS],by simp[p6,e6,e13,hB],by simp;omega,?_,_,_,by simp<;>rfl,C3⟩
    (repeat (first|exact Xt|(refine aA.trans ?_ (aA.new _ _))|(refine aA.set ?_ oO _)))
  clear f1 f3 f4 f5 f16 fi fn hXl hX hI fr s2;rintro fr s2 ⟨f1,f3,f4,f5,f16,fn,fi,hXl,hX,hI⟩;have hρ':∀ w,((mJ ρ xa j) w).length<=10001:=fun w=>by
   have h1:=hρ xa;have h2:=hρ w;unfold mJ
   split
   .rw[aAh,List.length_singleton];omega
   .omega
  refine PM (fun f T=>f 1=.pt p 0/\f 3=.pt (p+4) 0/\f 4=i j/\f 5=.pt X 0/\f 16=.sl 0 g.es.length (eds g.es)/\f 17=i g.es.length/\f 18=i j/\X<T.next/\T.H X=.box 56 3 [u id,u xa,u xb]/\AtI g p st (mJ (mJ ρ xa j) xb j) T) ?_ ?_
  .obtain⟨hG,hW,hN,hL,hS,hB,YN,Xt,ea,tk,hA,hR⟩:=hI;have Yc:=hR.get xb;have k1:¬X=s2.next:=oO;have k2:¬X=s2.next+1:=oO;have k3:¬X=p+1:=oO;have e0:¬p+4=s2.next:=oO;have e1:¬p+1=s2.next:=oO;have e2:¬p+2=s2.next:=oO;have e3:¬p+3=s2.next:=oO;have e4:¬p=s2.next:=oO;have e5:¬p+5=s2.next:=oO;have e6:¬p+6=s2.next:=oO;have e7:¬p+4=s2.next+1:=oO;have e8:¬p+1=s2.next+1:=oO;have e9:¬p+2=s2.next+1:=oO;have P5:¬p+3=s2.next+1:=oO;have e11:¬p=s2.next+1:=oO;have e12:¬p+5=s2.next+1:=oO;have e13:¬p+6=s2.next+1:=oO;have e14:¬s2.next+1=p+1:=oO;have e15:¬s2.next=p:=oO;have tkl:∀ w,(mJ ρ xa j) w≠[]->¬tk w=s2.next/\¬tk w=s2.next+1/\¬tk w=p+1:=fun w hw=>by have:=(hR.own w hw).2;omega
   by_cases hr:(mJ ρ xa j) xb=[]
   .rw[aAe hr]at Yc
    (refine zS [] [X,p+4,p+1] [0,2,4,6,8,10,12,14,16,18,20,22,24,26,28,30,33] ?_;intro J hJ;simp[f3,f4,f5,hX,hW,hA,Yc,k1,k2,k3,e0,e1,e4,e7,e8,e14,e15];(repeat refine ca ?_);refine zJ hJ ?_)
    have C3:=hR.put xb j (t:=s2.next+1) (n:=1) (st':=(((s2.new (.own 3 1 1)).new (.own 3 1 1)).set (p+1) (.map false [.u32] (bP ea [xb] (.sl (s2.next+1) 1 [i (j:Int)]))))) (by rw[hr];rfl) ⟨oO,sS,oO,oO⟩ (by simp[e14,e15]) (fun w hw h0=>by obtain⟨t1,t2,t3⟩:=tkl w h0;simp[t1,t2,t3]) (by simp;omega);rw[hr]at C3;refine⟨by trivial,by simp[f1],by simp[f3],by simp[f4],by simp[f5],by simp[f16],by simp[fn],by simp[fi],by simp;omega,by simp[k1,k2,k3,hX],?_⟩;refine⟨by simp[e4,e11,hG],by simp[e0,e7,hW],by simp[e2,e9,hN],by simp[e3,P5,hL],by simp[e5,e12,hS],by simp[e6,e13,hB],by simp;omega,?_,_,_,by simp<;>rfl,C3⟩
    (repeat (first|exact Xt|(refine aA.trans ?_ (aA.new _ _))|(refine aA.set ?_ oO _)))
   .rw[aAa hr]at Yc;obtain⟨hO,t0,tl,tu⟩:=hR.own xb hr;obtain⟨t1,t2,t3⟩:=tkl xb hr;have t4:¬X=tk xb:=fun e=>by rw[<- e,hX]at hO;cases hO
    have hrl:(isN ((mJ ρ xa j) xb)).length=((mJ ρ xa j) xb).length:=kQ _;have hrb:((mJ ρ xa j) xb).length<=10001:=hρ' _;have p0:¬p=tk xb:=oO;have p1:¬p+1=tk xb:=oO;have p2:¬p+2=tk xb:=oO;have p3:¬p+3=tk xb:=oO;have p4:¬p+4=tk xb:=oO;have p5:¬p+5=tk xb:=oO;have p6:¬p+6=tk xb:=oO
    (refine zS [] [X,p+4,p+1] [0,2,4,6,8,10,12,14,16,18,20,22,24,26,28,30,33] ?_;intro J hJ;simp[f3,f4,f5,hX,hW,hA,Yc,hO,hrl,t0,t1,t4,p1,p4,k1,k2,k3,e0,e1,e4,e7,e8,e14,e15];(repeat refine ca ?_);refine zJ hJ ?_)
    have C3:=hR.put xb j (t:=s2.next+1) (n:=((mJ ρ xa j) xb).length+1) (st':=((((s2.new (.own 3 1 1)).set (tk xb) .dead).new (.own 3 1 (((mJ ρ xa j) xb).length+1))).set (p+1) (.map false [.u32] (bP ea [xb] (.sl (s2.next+1) (((mJ ρ xa j) xb).length+1) (isN ((mJ ρ xa j) xb)++[i (j:Int)]))))) ) rfl ⟨oO,sS,oO,oO⟩ (by simp[e14,e15]) (fun w hw h0=>by obtain⟨u1,u2,u3⟩:=tkl w h0;have u4:¬tk w=tk xb:=fun e=>hw (hR.inj w xb h0 hr e);simp[u1,u2,u3,u4]) (by simp;omega);refine⟨by trivial,by simp[f1],by simp[f3],by simp[f4],by simp[f5],by simp[f16],by simp[fn],by simp[fi],by simp;omega,by simp[k1,k2,k3,t4,hX],?_⟩;refine⟨by simp[p0,e4,e11,hG],by simp[p4,e0,e7,hW],by simp[p2,e2,e9,hN],by simp[p3,e3,P5,hL],by simp[p5,e5,e12,hS],by simp[p6,e6,e13,hB],by simp;omega,?_,_,_,by simp<;>rfl,C3⟩
    (repeat (first|exact Xt|(refine aA.trans ?_ (aA.new _ _))|(refine aA.set ?_ oO _)))
  rintro fr s3 ⟨f1,f3,f4,f5,f16,fn,fi,hXl,hX,hI⟩;simp only[ak];exact hJO _ _ (by simp[fi]) (by simp[fn]) ⟨f1,f3,f16,hI⟩
 .clear x1 x2 x3 x4 x5 x6;rintro fr s1 ⟨f1,f3,f16,hI⟩;have hI':=hI;obtain⟨hG,hW,hN,hL,L6,hB,YN,Xt,ea,tk,hA,hR⟩:=hI';have Yc:∀ v,bQ ea [v]=if atP g.es v=[]then none else some (.sl (tk v) (atP g.es v).length (isN (atP g.es v))):=hR.get
  have z8:rU g (p+1) (p+4) (p+1) (p+2) (p+3) tk ⟨[],[],[],[]⟩ s1:=by refine⟨⟨p+5,p+6,[],ea,hW,⟨hA,Yc⟩,hN,hL,⟨L6,rfl⟩,hB,⟨oO,oO,oO⟩,oO,oO,oO,oO⟩,⟨oO,oO,oO,oO⟩,oO,oO,oO,oO⟩
  have hall0:JC g ⟨[],[],[],[]⟩:=⟨rfl,.nil,fun w hw=>(by cases hw),fun w hw=>(by cases hw),rfl,fun i=>by simp,sS,fun B hB=>(by cases hB)⟩;clear hW hN hL L6 hB hA hR hI
  (repeat' (first|apply qS|apply qB|(refine zE ?_;intro J hJ;simp[f1,hG];refine zJ hJ ?_)))
  refine aZ 59 58 60 73 (g.vs.length) (fun j fr st2=>fr 1=.pt p 0/\fr 3=.pt (p+4) 0/\fr 57=.sl 0 g.vs.length (us g.vs)/\KbB (p+1) s1 st2/\∃ sB,wL g.es g.vs.length (g.vs.take j) ⟨[],[],[],[]⟩=some sB/\JC g sB/\rU g (p+1) (p+4) (p+1) (p+2) (p+3) tk sB st2) ?_ ?_ ?_
  .exact⟨by simp[f1],by simp[f3],sS,KbB.refl _ _,_,rfl,hall0,z8⟩
  .clear f1 f3 f16 z8 hall0 fr;rintro j fr s2 GD ⟨f1,f3,f57,B3,sB,hsB,hall,Z6⟩ fi fn JO hJO;have hd:=qG g.vs j GD;have hvm:g.vs.getD j 0∈g.vs:=by rw[bG _ _ GD];exact aAA _
   have Xx:g.vs.take (j+1)=g.vs.take j++[g.vs.getD j 0]:=by rw[aAn GD,bG _ _ GD]
   rw[Xx,AE,hsB]at hJO;simp only[Option.bind_some]at hJO;generalize g.vs.getD j 0=v at *;have hm:=Kn sB.vis v;have Yz:=hall.sz;obtain⟨s3,e3,hall3,_,_⟩:=Dt hg g.vs.length (aAk _) [v] sB (fun w hw=>by rw[aAl]at hw;rw[hw];exact hvm) hall;rw[e3]at hJO;have hbw':=Z6;obtain⟨⟨tS,tB,CS,ea2,jW,-,jN,-,-,-,-,-⟩,-,-⟩:=hbw';by_cases Xl:v∈sB.vis
   .rw[aAe Xl]at hm;have e4:s3=sB:=by unfold wL at e3;rw[aAe Xl]at e3;exact(aBf e3).symm
    have hz1:1<=nmW sB.vis v:=by unfold nmW;rw[aAe Xl];omega
    generalize nmW sB.vis v=z at *;have hzb:(z==0)=false:=by rw[aCO];omega
    have I2:¬z=0:=oO
    (repeat' (first|apply qS|refine qK (zZ ?_)|(apply qC;simp[f3,f57,fi,fn,hd,GD,jW,jN,hm,hzb,I2])|(refine zE ?_;intro J hJ;simp[f3,f57,fi,fn,hd,GD,jW,jN,hm,hzb,I2];refine zJ hJ ?_)))
    exact hJO _ _ (by simp[fi]) (by simp[fn]) ⟨by simp[f1],by simp[f3],by simp[f57],B3,s3,rfl,hall3,by rw[e4];exact Z6⟩
   .rw[aAa Xl]at hm;have Z8:yP g (fun _=>False) sB v (-1):=⟨hall.ln,hall.nd,fun a ha=>ha.elim,fun w hw _=>hall.fin w hw,Xl,fun a b ha=>ha.elim,.inl ⟨rfl,fun a ha=>ha⟩⟩
    (repeat' (first|apply qS|(apply qC;simp[f3,f57,fi,fn,hd,GD,jW,jN,hm])|(refine zE ?_;intro J hJ;simp[f3,f57,fi,fn,hd,GD,jW,jN,hm];(try refine zJ hJ ?_))))
    refine qE (Tt g hg (p+1) (p+4) (p+1) (p+2) (p+3) tk hv he g.vs.length _ sB v (-1) _ Z8 hvm hall.sub oO Yz Z6) sS ?_;rintro r s4 ⟨s5,h5,hb5,S5⟩;have e5:s3=s5:=by unfold wL at e3;rw[aAa Xl,h5]at e3;exact(aBf e3).symm
    (repeat' (apply aF;simp[];refine zJ hJ ?_))
    exact hJO _ _ (by simp[fi]) (by simp[fn]) ⟨by simp[f1],by simp[f3],by simp[f57],B3.trans S5,s3,rfl,hall3,by rw[e5];exact hb5⟩
  .clear f1 f3 f16 z8 hall0 fr;rintro fr s2 ⟨f1,f3,f57,B3,sB,hsB,hall,Z6⟩;rw[aAQ,hS]at hsB;obtain rfl:=aBf hsB;have Yz:=hall.sz;obtain⟨_,sb⟩:=AP hv he hall.nd hall.sub;obtain⟨⟨tS,tB,CS,ea2,jW,-,jN,-,-,jB,-,b1,b2,b3,b4⟩,-,d1,-⟩:=Z6
   (repeat' (first|apply qS|(refine zE ?_;intro J hJ;simp[f3,jW])))
   refine qE (VF j9 S.out hSa Yg hSn tB _ (by have:=Yz.2;have:=Qr hSa Yg hSn;omega) b4 jB) sS ?_;rintro r s4 ⟨h1,h2,h3⟩;have hW4:=(h3.2 (p+4) (bH jW jB sS) d1).trans jW;have Xm:=h2.length_eq
   (repeat' (first|apply qS|(refine qR (zZ ?_);simp[f3,hW4])|((first|(refine zE ?_;intro J hJ)|(apply aF));simp[f3,hW4];refine zJ hJ ?_)))
   refine⟨tB,by simp[Xm],h1,oO,aAp b4 h3.1,?_⟩;refine⟨aBj Xt.next (aBj B3.next h3.1),fun x hx=>?_⟩;rw[h3.2 x oO (by have:=B3.next;omega),B3.H x oO,Xt.H x hx]
theorem Mr(n:Nat):∀ l:List Ed,fP n (eds l):=fun l=>by
 induction l with
 |nil=>simp only[eds,aDI,fP]
 |cons x l ih=>simp only[eds,aAC,edL,List.cons_append,List.nil_append,fP];exact⟨trivial,trivial,trivial,ih⟩
theorem Rp(n:Nat)(es:List Ed):∀ out:List (List Nat),fP n (bkL es out):=fun out=>by
 induction out with
 |nil=>simp only[bkL,aBt,fP]
 |cons B out ih=>simp only[bkL,aAi,fP];exact⟨⟨.inl rfl,Mr _ _⟩,ih⟩
theorem Tw(g:Gr)(hg:GoodE g)(st:St)(hv:g.vs.length<=100)(he:g.es.length<=200):
 aB prog 43 [.ag (grL g)] st fun r st'=>r=.sl 0 (fO g.es).length (bkL g.es (fO g.es))/\st'=st:=by
 refine qT (Q:=fun r=>r=.sl 0 (fO g.es).length (bkL g.es (fO g.es))) (cG ((Sr g hg st hv he).mono ?_)) fun r h=>by subst h;exact⟨.inl rfl,Rp _ _ _⟩
 rintro r s ⟨q,rfl,hH,hq,Zg,hk⟩;have hl:=AL g.es (fO g.es);exact⟨q,_,_,_,_,rfl,hH,by rw[hl,aCE];exact aAk _,by rw[aAv (by rw[hl,aCE];exact aAk _)],hk.set hq _⟩
end Aw
end Go.Proofs.YtempldclppogmaaGreatDoor
