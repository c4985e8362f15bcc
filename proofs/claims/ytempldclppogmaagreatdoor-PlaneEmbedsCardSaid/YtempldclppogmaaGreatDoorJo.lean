/- Blocks: rows of edges and rows of blocks in order. -/
import Derived.Test.YtempldclppogmaaGreatDoorJn
import Derived.Test.YtempldclppogmaaGreatDoorAwFz
import Derived.Test.YtempldclppogmaaGreatDoorAwRg
import Derived.Test.YtempldclppogmaaGreatDoorAwZ
import Derived.Test.YtempldclppogmaaGreatDoorAwFr
set_option linter.unusedVariables false
set_option linter.unusedSimpArgs false
set_option maxHeartbeats 8000000
open Go.Proofs.Tryz
namespace Go.Proofs.YtempldclppogmaaGreatDoor
namespace Aw
open Go Go.RowKit Pl Eu
def nV(x y:Int):Int:=if x<y then -1 else if y<x then 1 else 0
theorem FM(x y:Int):nV x y<0↔x<y:=by
 unfold nV;by_cases h1:x<y
 .rw[aAe h1];omega
 .rw[aAa h1];by_cases h2:y<x
  .rw[aAe h2];omega
  .rw[aAa h2];omega
theorem Gk(x y:Int)(st:St):aB prog 64 [u x,u y] st fun r st'=>r=i (nV x y)/\st'=st:=by
 refine zN func64 ntmps64 [.tmp 4] ?_
 (repeat' (first|apply qS|(refine zE ?_;intro J hJ;simp[];(try refine zJ hJ ?_))))
 refine qF (isNaN x _) ?_;rintro r st' ⟨rfl,rfl⟩
 (repeat' (first|apply qS|((first|(refine zE ?_;intro J hJ)|(apply aD));simp[];(try refine zJ hJ ?_))))
 refine qF (isNaN y _) ?_;rintro r st' ⟨rfl,rfl⟩;by_cases h1:x<y
 ·(repeat' (first|apply qS|refine qK (zZ ?_)|(refine qR (zZ ?_);simp[h1,nV])|(apply qC;simp[h1,nV])|((first|(refine zE ?_;intro J hJ)|(apply aD));simp[h1,nV];refine zJ hJ ?_)))
 .by_cases h2:y<x
  ·(repeat' (first|apply qS|refine qK (zZ ?_)|(refine qR (zZ ?_);simp[h1,h2,nV])|(apply qC;simp[h1,h2,nV])|((first|(refine zE ?_;intro J hJ)|(apply aD));simp[h1,h2,nV];refine zJ hJ ?_)))
  ·(repeat' (first|apply qS|refine qK (zZ ?_)|(refine qR (zZ ?_);simp[h1,h2,nV])|(apply qC;simp[h1,h2,nV])|((first|(refine zE ?_;intro J hJ)|(apply aD));simp[h1,h2,nV];refine zJ hJ ?_)))
theorem VP(x y:Ed)(st:St):aB prog 146 [.ag (edL x),.ag (edL y)] st fun r st'=>r=i (nV x.id y.id)/\st'=st:=by
 refine qT (Q:=fun r=>r=i (nV x.id y.id)) ?_ fun r h=>by subst h;trivial
 obtain⟨xi,xa,xb⟩:=x;obtain⟨yi,ya,yb⟩:=y;refine zN func146 ntmps146 [.tmp 4] ?_
 (repeat' (first|apply qS|(refine zE ?_;intro J hJ;simp[];(try refine zJ hJ ?_))))
 refine qE (Gk xi yi _) sS ?_;rintro r s1 ⟨rfl,rfl⟩
 (repeat' (first|(refine qR (zZ ?_);simp[nV])|(apply aD;simp[nV];refine zJ hJ ?_)))
 exact(aA.new _ _).trans (aA.new _ _)
theorem PO(x y:Ed)(X Y:List Ed)(st:St):aB prog 72 [.sl 0 (X.length+1) (eds (x::X)),.sl 0 (Y.length+1) (eds (y::Y))] st fun r st'=>r=i (nV x.id y.id)/\st'=st:=by
 refine qT (Q:=fun r=>r=i (nV x.id y.id)) ?_ fun r h=>by subst h;trivial
 obtain⟨xi,xa,xb⟩:=x;obtain⟨yi,ya,yb⟩:=y;have e1:eds (⟨xi,xa,xb⟩::X)=u xi::u xa::u xb::eds X:=rfl;have e2:eds (⟨yi,ya,yb⟩::Y)=u yi::u ya::u yb::eds Y:=rfl;rw[e1,e2];refine zN func72 ntmps72 [.tmp 4] ?_
 (repeat' (first|apply qS|(refine zE ?_;intro J hJ;simp[];refine zJ hJ ?_)))
 (refine zS [] [] [0,2,4,6,8,10,12,14,17,18] ?_;intro J hJ;simp[])
 refine qD (Gk xi yi _) sS ?_;rintro r s1 ⟨rfl,rfl⟩;refine⟨fun h=>by first|(cases h;done)|simp,?_⟩
 (apply aV;simp[];refine zJ hJ ?_)
 (repeat' (refine qR (zZ ?_);simp[nV]))
 exact aA.refl _
section
variable {es:List Ed} (D4:es.Pairwise fun x y=>x.id<y.id)
include D4
theorem TA{a b:Nat}(ha:a<es.length)(hb:b<es.length):(eAt es a).id<(eAt es b).id↔a<b:=by
 unfold eAt;rw[cV _ _ ha,cV _ _ hb];rw[aAG]at D4;rcases aCJ a b with k|k|k
 .exact⟨fun _=>k,fun _=>D4 a b ha hb k⟩
 .subst k;omega
 .have:=D4 b a hb ha k;omega
theorem Rb:CE.fF 146 [] (fun x=>eAt es x.toNat) fun x=>0<=x/\x.toNat<es.length:=
 ⟨fun x y st hx hy=>(VP _ _ st).mono fun r s h=>⟨⟨_,h.1,by rw[FM,TA D4 hx.2 hy.2];omega⟩,h.2⟩⟩
theorem Vl(P:List Nat)(hn:P.Nodup)(hP:∀ i∈P,i<es.length)(q:Nat)(st:St)(hl:P.length<65536)(hq:q<st.next)(hH:st.H q=.box 56 3 (eds (P.map (eAt es)))):
 aB prog 145 [.ms q 0 P.length,.fn (.func 146) []] st fun r st'=>st'.H q=.box 56 3 (eds ((sW es.length P).map (eAt es)))/\bK q st st':=by
 have e:∀ L:List Nat,CE.es3 (fun x=>eAt es x.toNat) (L.map fun k:Nat=>(k:Int))=eds (L.map (eAt es)):=fun L=>by unfold CE.es3;rw[aBf];rfl
 have h:=CE.QI (Rb D4) (P.map fun k:Nat=>(k:Int)) q st (fun x hx=>by
  obtain⟨k,hk,rfl⟩:=aAm.1 hx
  exact⟨oO,by simpa using hP k hk⟩) (by simpa using hl) hq (by unfold CE.nW;rw[e];exact hH)
 rw[aAA]at h;refine h.mono ?_;rintro r s ⟨c,h1,h2,h3,h4⟩;refine⟨?_,h4⟩;have hc:c=(sW es.length P).map fun k:Nat=>(k:Int):=by refine IQ h3 ?_ (h2.trans ((wQ hn hP).map _).symm);rw[aAU];exact(vN _ _).imp fun k=>by omega
 rw[h1,hc];unfold CE.nW;rw[e]
def bkL(es:List Ed)(out:List (List Nat)):List LV:=out.map fun B=>.sl 0 B.length (eds (B.map (eAt es)))
omit D4 in
theorem zU(es:List Ed)(out:List (List Nat)):(bkL es out).length=out.length:=by simp[bkL]
theorem Qt:CR.fF 72 [] ⟨fun x=>(gQ es x.toNat).length,fun x=>eds ((gQ es x.toNat).map (eAt es))⟩ fun x=>0<=x/\x.toNat<es.length/\(gQ es x.toNat).headD 0=x.toNat:=by
 refine⟨fun x y st hx hy=>?_⟩;have hh:∀ z:Nat,z<es.length->(gQ es z).headD 0=z->∃ R,gQ es z=z::R:=fun z hz he=>by
  have hm:z∈gQ es z:=Gj.2 ⟨hz,.refl⟩;cases hc:gQ es z with
  |nil=>rw[hc]at hm;cases hm
  |cons a R=>rw[hc]at he;simp at he;exact⟨R,by rw[he]⟩
 obtain⟨X,eX⟩:=hh _ hx.2.1 hx.2.2;obtain⟨Y,eY⟩:=hh _ hy.2.1 hy.2.2;simp only[eX,eY];have:=PO (eAt es x.toNat) (eAt es y.toNat) (X.map (eAt es)) (Y.map (eAt es)) st;rw[aAA,aAA]at this;exact this.mono fun r s h=>⟨⟨_,h.1,by rw[FM,TA D4 hx.2.1 hy.2.1];omega⟩,h.2⟩
theorem VC(out:List (List Nat))(hall:∀ i,i∈out.flatten↔i<es.length)(j8:∀ B∈out,dJ es B)(hnd:out.flatten.Nodup)(q:Nat)(st:St)(hl:out.length<65536)(hq:q<st.next)(hH:st.H q=.box 23 1 (bkL es out)):
 aB prog 71 [.ms q 0 out.length,.fn (.func 72) []] st fun r st'=>st'.H q=.box 23 1 (bkL es (eZ es))/\(eZ es).Perm out/\bK q st st':=by
 obtain⟨L,hL⟩:∃ L:List Int,L=out.map fun B=>((B.headD 0:Nat):Int):=⟨_,rfl⟩;have hB:∀ B∈out,gQ es (B.headD 0)=B:=fun B h=>((j8 B h).cls (head_mem (j8 B h).ne)).symm;have hD:∀ x∈L,0<=x/\x.toNat<es.length/\(gQ es x.toNat).headD 0=x.toNat:=fun x hx=>by
  rw[hL]at hx;obtain⟨B,h,rfl⟩:=aAm.1 hx;refine⟨oO,?_,?_⟩
  .simpa using(j8 B h).lt _ (head_mem (j8 B h).ne)
  .rw[Int.toNat_natCast,hB B h]
 have e:∀ c:List Int,CR.ws ⟨fun x=>(gQ es x.toNat).length,fun x=>eds ((gQ es x.toNat).map (eAt es))⟩ c=bkL es (c.map fun x=>gQ es x.toNat):=fun c=>by unfold bkL CR.ws;rw[aBf];rfl
 have eL:L.map (fun x=>gQ es x.toNat)=out:=by
  rw[hL,aBf];have:∀ B∈out,((fun x:Int=>gQ es x.toNat)∘fun B:List Nat=>((B.headD 0:Nat):Int)) B=B:=fun B h=>by show gQ es ((B.headD 0:Nat):Int).toNat=B;rw[Int.toNat_natCast];exact hB B h
  rw[aAW this,List.map_id']
 have N8:L.Nodup:=by rw[hL];refine aAU.2 ?_;have:=(aEr.1 hnd).2;refine this.imp_of_mem fun {a b} ha hb hd he=>?_;exact hd _ (head_mem (j8 a ha).ne) _ (head_mem (j8 b hb).ne) oO
 have h:=CR.QI (Qt D4) L q st hD (by rw[hL,aAA];exact hl) hq (by unfold CR.nW;rw[e,eL];exact hH);rw[show L.length=out.length by rw[hL,aAA]]at h;refine h.mono ?_;rintro r s ⟨c,h1,h2,h3,h4⟩;have hcD:∀ x∈c,0<=x/\x.toNat<es.length/\(gQ es x.toNat).headD 0=x.toNat:=fun x hx=>hD x (h2.mem_iff.1 hx);have hp:(c.map fun x=>gQ es x.toNat).Perm out:=by
  have:=h2.map fun x:Int=>gQ es x.toNat
  rwa [eL]at this
 have hr:(c.map fun x=>gQ es x.toNat).Pairwise fun x y=>x.headD 0<y.headD 0:=by rw[aAU];have hcn:=h2.nodup_iff.2 N8;refine(h3.and hcn).imp_of_mem fun {a b} ha hb YA=>?_;have h5:=hcD a ha;have h6:=hcD b hb;rw[h5.2.2,h6.2.2];have:=YA.2;have:=YA.1;omega
 have hled:=BS hall j8 hp hr;refine⟨by rw[h1];unfold CR.nW;rw[e,hled],by rw[<- hled];exact hp,h4⟩
end
def isN(l:List Nat):List LV:=l.map fun k:Nat=>i (k:Int)
@[simp] theorem kU(l:List Nat):(isN l).length=l.length:=by simp[isN]
theorem NS(l:List Nat)(k:Nat)(hk:k<l.length):(isN l).drop k=i ((l.getD k 0:Nat):Int)::(isN l).drop (k+1):=by unfold isN;rw[aAM (by simpa using hk)];simp[hk]
theorem OG(l:List Nat)(k:Nat):(isN l).take k=isN (l.take k):=by simp[isN]
theorem Uf{v x:Int}{V:List Int}(h:¬v=x):(v::V).idxOf x=V.idxOf x+1:=by
 have e:(v==x)=false:=by rw[aCQ];exact h
 rw[List.idxOf_cons,e];rfl
def nbF:Nat->List Int->List (List Int×LV)
 |_,[]=>[]
 |k,v::V=>([v],i ((k:Int)+1))::nbF (k+1) V
theorem JS(V:List Int):∀ k,(nbF k V).length=V.length:=by
 induction V with
 |nil=>intro k;rfl
 |cons v V ih=>intro k;simp[nbF,ih]
theorem NK(V:List Int)(x:Int):∀ k,bR (nbF k V) [x]=if x∈V then some (i ((k:Int)+nmW V x))else none:=by
 induction V with
 |nil=>intro k;rfl
 |cons v V ih=>
  intro k;unfold nbF bR;by_cases e:v=x
  .subst e;simp[nmW]
  .have e2:¬([x]==[v])=true:=by simpa using fun k=>e k.symm
   rw[aAa e2,ih (k+1)];by_cases hx:x∈V
   .rw[aAe hx,aAe (aAk _ hx)];unfold nmW;rw[aAe hx,aAe (aAk _ hx),Uf e]
    congr 2
    omega
   .rw[aAa hx,aAa];rw[aAf,aCv];exact⟨fun h=>e h.symm,hx⟩
theorem OM{x:Int}(V:List Int)(h:x∉V):∀ k,bQ (nbF k V) [x] (i ((k:Int)+V.length+1))=nbF k (V++[x]):=by
 induction V with
 |nil=>intro k;simp[nbF,bQ]
 |cons v V ih=>
  intro k;rw[aAf,aCv]at h;have e:¬([x]==[v])=true:=by simpa using h.1
  unfold nbF bQ;simp only[e,aAR,aBB,List.cons_append];have:=ih h.2 (k+1);rw[show((k:Int)+(v::V).length+1)=((k+1:Nat):Int)+V.length+1 by simp;omega,this]
theorem Km(V:List Int)(x:Int):bR (nbF 0 V) [x]=if x∈V then some (i (nmW V x))else none:=by rw[NK];split<;>simp
theorem SG{x:Int}{V:List Int}(h:x∉V):bQ (nbF 0 V) [x] (i ((V.length:Int)+1))=nbF 0 (V++[x]):=by have:=OM V h 0;simpa using this
def lwF:List Int->List Int->List (List Int×LV)
 |v::V,x::L=>([v],i x)::lwF V L
 |_,_=>[]
theorem uG:∀(V L:List Int) (x:Int),L.length=V.length->x∈V->bR (lwF V L) [x]=some (i (L.getD (V.idxOf x) 0))
 |[],_,_,_,h=>by cases h
 |v::V,[],x,hl,_=>by simp at hl
 |v::V,y::L,x,hl,h=>by
  unfold lwF bR;by_cases e:v=x
  .subst e;simp
  .have e2:¬([x]==[v])=true:=by simpa using fun k=>e k.symm
   simp only[e2,aAR,aBB];rw[uG V L x (by simpa using hl) (by rcases aAf.1 h with k|k;exact absurd k.symm e;exact k),Uf e];rfl
theorem xO:∀(V L:List Int) (x y:Int),L.length=V.length->x∉V->bQ (lwF V L) [x] (i y)=lwF (V++[x]) (L++[y])
 |[],[],_,_,_,_=>rfl
 |[],_::_,_,_,hl,_=>by simp at hl
 |v::V,[],x,_,hl,_=>by simp at hl
 |v::V,z::L,x,y,hl,h=>by
  rw[aAf,aCv]at h;have e:¬([x]==[v])=true:=by simpa using h.1
  unfold lwF bQ;simp only[e,aAR,aBB,List.cons_append];rw[xO V L x y (by simpa using hl) h.2]
theorem oZ:∀(V L:List Int) (x y:Int),L.length=V.length->x∈V->bQ (lwF V L) [x] (i y)=lwF V (L.set (V.idxOf x) y)
 |[],_,_,_,_,h=>by cases h
 |v::V,[],x,_,hl,_=>by simp at hl
 |v::V,z::L,x,y,hl,h=>by
  unfold lwF bQ;by_cases e:v=x
  .subst e;simp[lwF]
  .have e2:¬([x]==[v])=true:=by simpa using fun k=>e k.symm
   simp only[e2,aAR,aBB];rw[oZ V L x y (by simpa using hl) (by rcases aAf.1 h with k|k;exact absurd k.symm e;exact k),Uf e];rfl
theorem II{l:List Nat}{i:Nat}(h:i∈l):iU l i<l.length/\l.getD (iU l i) 0=i/\∀ j,iU l i<j->j<l.length->l.getD j 0≠i:=by
 obtain⟨P,R,rfl,hR⟩:∃ P R,l=P++i::R/\i∉R:=by obtain⟨P,R,e,hR⟩:=List.eq_append_cons_of_mem (aBP.2 h);refine⟨R.reverse,P.reverse,?_,by simpa using hR⟩;have:=congrArg List.reverse e;simpa using this
 rw[wX hR];refine⟨sS,sS,fun j h1 h2 e=>hR ?_⟩;rw[aAc,aBl oO]at e;obtain⟨m,hm⟩:∃ m,j-P.length=m+1:=⟨j-P.length-1,oO⟩;rw[hm,List.getElem?_cons_succ]at e;simp at h2;rw[aAd oO]at e;simp only[Option.getD_some]at e;rw[<- e];exact aAu _
structure rN(g:Gr)(B W a nb lw:Nat)(tk:Int->Nat)(s:Bw)(st:St):Prop where
 ex:∃ tS tB CS ea,st.H W=.box 108 6 [.sl 0 g.es.length (eds g.es),.mp a,.mp nb,.mp lw,.ms tS 0 s.stk.length,.ms tB 0 s.out.length]/\
  (st.H a=.map false [.u32] ea/\∀ v,bR ea [v]=if atP g.es v=[]then none else some (.sl (tk v) (atP g.es v).length (isN (atP g.es v))))/\
  st.H nb=.map false [.u32] (nbF 0 s.vis)/\st.H lw=.map false [.u32] (lwF s.vis s.low)/\(st.H tS=.box 3 1 CS/\CS.take s.stk.length=isN s.stk)/\st.H tB=.box 23 1 (bkL g.es s.out)/\
  (a≠nb/\a≠lw/\nb≠lw)/\(B<=tS/\B<=tB/\tS<st.next/\tB<st.next)
 bd:(B<=W/\B<=a/\B<=nb/\B<=lw)/\(W<st.next/\a<st.next/\nb<st.next/\lw<st.next)
theorem bH{st:St}{a b:Nat}{x y:cI}(ha:st.H a=x)(hb:st.H b=y)(h:x≠y):¬a=b:=fun e=>h (by rw[<- ha,e,hb])
theorem QN{es:List Ed}{P:List Nat}{j:Nat}(hj:j<P.length):(P.take (j+1)).map (eAt es)=(P.take j).map (eAt es)++[eAt es (P.getD j 0)]:=by rw[aAn hj,aAv,aAc,aAd hj];rfl
structure KbB(B:Nat)(st st':St):Prop where
 next:st.next<=st'.next
 H:∀ x,x<B->st'.H x=st.H x
theorem KbB.refl(B:Nat)(st:St):KbB B st st:=⟨aAi _,fun _ _=>rfl⟩
theorem KbB.trans{B:Nat}{a b c:St}(h:KbB B a b)(k:KbB B b c):KbB B a c:=⟨aBh h.next k.next,fun x hx=>by rw[k.H x hx,h.H x hx]⟩
theorem KbB.new{B:Nat}{a b:St}(h:KbB B a b)(hB:B<=b.next)(o:cI):KbB B a (b.new o):=⟨by rw[aF];exact Nat.le_succ_of_le h.next,fun x hx=>by rw[cB,aAa oO];exact h.H x hx⟩
theorem KbB.set{B:Nat}{a b:St}(h:KbB B a b){l:Nat}(hl:B<=l)(o:cI):KbB B a (b.set l o):=⟨h.next,fun x hx=>by rw[bN,aAa oO];exact h.H x hx⟩
theorem Ws(g:Gr)(D4:g.es.Pairwise fun x y=>x.id<y.id)(B W a nb lw:Nat)(tk:Int->Nat)(s:Bw)(i0:Nat)(st:St)(h:rN g B W a nb lw tk s st)(hi:i0∈s.stk)(I1:∀ k∈s.stk.drop (iU s.stk i0),k<g.es.length)(p9:(s.stk.drop (iU s.stk i0)).Nodup)(he:g.es.length<=1000)(P8:s.stk.length<=60000)(A3:s.out.length<=100000):
 aB prog 104 [.pt W 0,i i0] st fun r st'=>∃ s',Gy g.es.length s i0=some s'/\rN g B W a nb lw tk s' st'/\KbB B st st':=by
 obtain⟨G3,C4,K4⟩:=II hi;have hcw:Gy g.es.length s i0=some { s with stk:=s.stk.take (iU s.stk i0),out:=s.out++[sW g.es.length (s.stk.drop (iU s.stk i0))] }:=by unfold Gy;rw[aAe hi]
 rw[hcw];clear hcw;obtain⟨⟨tS,tB,CS,ea,hW,⟨hA,Z5⟩,hN,hL,⟨hS,M6⟩,z9,⟨n1,n2,n3⟩,⟨b1,b2,b3,b4⟩⟩,⟨c1,c2,c3,c4⟩,d1,d2,d3,d4⟩:=h;generalize H7:iU s.stk i0=kl at *;obtain⟨P,hP⟩:∃ P,P=s.stk.drop kl:=⟨_,rfl⟩;rw[<- hP]at I1 p9 ⊢;have hPl:P.length=s.stk.length-kl:=by rw[hP,aAN]
 have hPe:P.length<=g.es.length:=by have:=aAC p9 (fun k hk=>aAX.2 (I1 k hk));rwa [aDz]at this
 have hCS:s.stk.length<=CS.length:=by have:=congrArg List.length M6;rw[aAo,kU]at this;omega
 have hCd:∀ k,k<s.stk.length->CS.drop k=i ((s.stk.getD k 0:Nat):Int)::CS.drop (k+1):=fun k hk=>by
  have e1:CS=isN s.stk++CS.drop s.stk.length:=by rw[<- M6];exact(aAH _ _).symm
  rw[aAM oO]
  congr 1
  have:CS[k]'(by omega)=(isN s.stk)[k]'(by simpa using hk):=by have h2:=List.getElem_of_eq M6 (i:=k) (by rw[aAo];omega);rw[aBE]at h2;exact h2
  rw[this];simp[isN,hk]
 have w1:=aH s.stk.length oO oO;have m1:¬W=tS:=bH hW hS sS;have m2:¬W=tB:=bH hW z9 sS;have m3:¬tS=tB:=bH hS z9 sS;have m4:¬W=a:=bH hW hA sS;have m5:¬W=nb:=bH hW hN sS;have m6:¬W=lw:=bH hW hL sS;have m7:¬a=tS:=bH hA hS sS;have m8:¬a=tB:=bH hA z9 sS;have m9:¬nb=tS:=bH hN hS sS;have m10:¬nb=tB:=bH hN z9 sS;have m11:¬lw=tS:=bH hL hS sS;have m12:¬lw=tB:=bH hL z9 sS;refine zN func104 ntmps104 [] ?_
 (repeat' (first|apply qS|apply qB|(refine zE ?_;intro J hJ;simp[hW,w1];refine zJ hJ ?_)))
 refine qL (fun n fr st2=>∃ k:Nat,n=k/\st2=st/\fr 0=.pt W 0/\fr 1=i i0/\fr 4=i k/\kl<=k/\k<s.stk.length) (s.stk.length-1) ?_ ?_
 .exact⟨s.stk.length-1,rfl,rfl,sS,sS,sS,oO,oO⟩
 rintro k fr st2 ⟨_,rfl,ZG,f0,f1,f4,Xn,Xx⟩ JJ hJJ;rw[ZG];clear ZG st2;have hd:=hCd k Xx;have hkc:k<CS.length:=oO;by_cases hk:k=kl;rotate_left
 .have Wx:=K4 k oO Xx;generalize s.stk.getD k 0=y at *;have K9:((y:Int) != (i0:Int))=true:=by rw[bne_iff_ne];omega
  have w2:=aH k oO oO
  (repeat' (first|apply qS|apply qB|refine qK (zZ ?_)|(apply qC;simp[f0,f1,f4,hW,hS,hd,hkc,Xx,K9,w2])|(refine zE ?_;intro J hJ;simp[f0,f1,f4,hW,hS,hd,hkc,Xx,K9,w2];refine zJ hJ ?_)))
  exact hJJ (k-1) _ _ oO ⟨k-1,rfl,rfl,by simp[f0],by simp[f1],sS,oO,oO⟩
 clear hJJ;subst hk;rw[C4]at hd;have K9:((i0:Int) != (i0:Int))=false:=sS
 (repeat' (first|apply qS|apply qB|refine qX (zZ ?_)|(apply qC;simp[f0,f1,f4,hW,hS,hd,hkc,Xx,K9])|(refine zE ?_;intro J hJ;simp[f0,f1,f4,hW,hS,hd,hkc,Xx,K9];(repeat refine ca ?_);refine zJ hJ ?_)))
 rw[<- hPl];refine tI 5 56 3 sS ?_;have hel:=aK g.es;refine bE 32 31 33 46 (P.length) (fun j fr st2=>fr 0=.pt W 0/\fr 4=i k/\fr 30=.ms tS k P.length/\aA st st2/\∃ q,fr 5=.ms q 0 j/\st2.H q=.box 56 3 (eds ((P.take j).map (eAt g.es)))/\st.next<=q/\q<st2.next) ?_ ?_ ?_
 .refine⟨by simp[f0],by simp[f4],by simp[hPl],aA.new _ _,st.next,sS,by simp[eds],oO,sS⟩
 .clear f0 f1 f4 fr hd K9;rintro j fr s1 dN ⟨g0,g4,g30,Xm,q,g5,hq,X4,Zi⟩ fi fn JO hJO;have hW1:=(Xm.H W d1).trans hW;have hS1:=(Xm.H tS b3).trans hS;have YQ:=hCd (k+j) oO;have hPd:s.stk.getD (k+j) 0=P.getD j 0:=by rw[hP,aAc,aAc,aCo]
  rw[hPd]at YQ;have Zn:P.getD j 0<g.es.length:=I1 _ (by rw[aAc,aAd dN];exact aAu _);have hde:=aR g.es _ Zn;rw[QN dN]at hJO;have hql:(eds ((P.take j).map (eAt g.es))).length=j*3:=by rw[aK,aAA,aAo];congr 1;omega
  have hap:eds ((P.take j).map (eAt g.es)++[eAt g.es (P.getD j 0)])=eds ((P.take j).map (eAt g.es))++edL (eAt g.es (P.getD j 0)):=by simp[eds]
  rw[hap]at hJO;unfold eAt at hJO;generalize W2:P.getD j 0=p0 at *;generalize eds ((P.take j).map (eAt g.es))=RR at *;generalize g.es.getD p0 ed0=x at *;obtain⟨xi,xa,xb⟩:=x;simp only[edL]at hJO;simp only at hde;have V7:k+j<CS.length:=oO;have hp3:p0*3<g.es.length*3:=oO;have y1:¬q=s1.next:=oO;have y2:¬q=0:=oO
  (repeat' (first|apply qS|(refine zE ?_;intro J hJ;simp[g0,g4,g5,g30,fi,fn,hW1,hS1,YQ,hde,dN,hq,hql,V7,Zn,hp3,hel,y1,y2];(repeat refine ca ?_);refine zJ hJ ?_)))
  refine hJO _ _ (by simp[fi]) (by simp[fn]) ⟨by simp[g0],by simp[g4],by simp[g30],?_,s1.next+1,sS,sS,oO,sS⟩
  (repeat (first|exact Xm|(refine aA.trans ?_ (aA.new _ _))|(refine aA.set ?_ oO _)))
 .rintro fr s1 ⟨g0,g4,g30,Xm,q,g5,hq,X4,Zi⟩;rw[aAQ]at hq;have hW1:=(Xm.H W d1).trans hW;have hS1:=(Xm.H tS b3).trans hS;have ZA:k<=s.stk.length:=oO;have YK:=Xm.next;have y1:¬q=W:=oO
  (repeat' (first|apply qS|(refine zE ?_;intro J hJ;simp[g0,g4,g5,hW1,ZA];(try refine zJ hJ ?_))))
  refine qE (Vl D4 P p9 I1 q _ oO (by simp;omega) (by simp[y1,hq])) sS ?_;rintro r s2 ⟨Y8,Xz⟩;have ZI:=Xz.1;simp only[bC]at ZI;have old:∀ x,x≠q->x≠W->x<st.next->s2.H x=st.H x:=fun x h1 h2 h3=>by rw[Xz.2 x h1 (by simp;omega),bN,aAa h2];exact Xm.H x h3
  have hW2:=Xz.2 W (fun e=>y1 e.symm) (by simp;omega);rw[bN,aAe rfl]at hW2;have J4:=(old tB oO (fun e=>m2 e.symm) b4).trans z9;have hS2:=(old tS oO (fun e=>m1 e.symm) b3).trans hS;have hA2:=(old a oO (fun e=>m4 e.symm) d2).trans hA;have hN2:=(old nb oO (fun e=>m5 e.symm) d3).trans hN;have N5:=(old lw oO (fun e=>m6 e.symm) d4).trans hL;have ZR:=(wQ p9 I1).length_eq;have Xk:(eds ((sW g.es.length P).map (eAt g.es))).length=P.length*3:=by rw[aK,aAA,ZR]
  (apply aD;simp[];refine zJ hJ ?_)
  refine sY 5 (l:=q) (n:=P.length) (by simp[g5]) Y8 (aDv Xk.symm) ?_;rw[aAr (aDv Xk)];have hbL:(bkL g.es s.out).length=s.out.length:=zU _ _;have z1:¬W=q:=fun e=>y1 e.symm;have z2:¬tB=q:=oO;have z3:¬W=s2.next:=oO;have z4:¬tB=s2.next:=oO;have z5:¬W=s2.next+1:=oO
  (repeat' (refine zE ?_;intro J hJ;simp[g0,hW2,J4,m2,z1,z2,z3,z4,z5,hbL];(repeat refine ca ?_);refine zJ hJ ?_))
  have q1:¬a=q:=oO;have q2:¬nb=q:=oO;have q3:¬lw=q:=oO;have q4:¬tS=q:=oO;have q5:¬a=s2.next:=oO;have q6:¬nb=s2.next:=oO;have q7:¬lw=s2.next:=oO;have q8:¬tS=s2.next:=oO;have q9:¬a=s2.next+1:=oO;have q10:¬nb=s2.next+1:=oO;have q11:¬lw=s2.next+1:=oO;have q12:¬tS=s2.next+1:=oO;have q13:¬s2.next+1=W:=oO;have r1:¬a=W:=fun e=>m4 e.symm;have r2:¬nb=W:=fun e=>m5 e.symm;have r3:¬lw=W:=fun e=>m6 e.symm;have r4:¬tS=W:=fun e=>m1 e.symm;have hbk:bkL g.es (s.out++[sW g.es.length P])=bkL g.es s.out++[.sl 0 P.length (eds ((sW g.es.length P).map (eAt g.es)))]:=by unfold bkL;rw[aAv];simp[ZR]
  have YP:(s.stk.take k).length=k:=by rw[aAo];omega
  refine⟨trivial,⟨⟨tS,s2.next+1,CS,ea,by simp[YP],⟨by simp[z1,z2,z3,z4,z5,q1,q2,q3,q4,q5,q6,q7,q8,q9,q10,q11,q12,q13,r1,r2,r3,r4,m2,m3,m8,m10,m12,hA2],Z5⟩,by simp[z1,z2,z3,z4,z5,q1,q2,q3,q4,q5,q6,q7,q8,q9,q10,q11,q12,q13,r1,r2,r3,r4,m2,m3,m8,m10,m12,hN2],by simp[z1,z2,z3,z4,z5,q1,q2,q3,q4,q5,q6,q7,q8,q9,q10,q11,q12,q13,r1,r2,r3,r4,m2,m3,m8,m10,m12,N5],⟨by simp[z1,z2,z3,z4,z5,q1,q2,q3,q4,q5,q6,q7,q8,q9,q10,q11,q12,q13,r1,r2,r3,r4,m2,m3,m8,m10,m12,hS2],?_⟩,by simp[z1,z2,z3,z4,z5,q1,q2,q3,q4,q5,q6,q7,q8,q9,q10,q11,q12,q13,r1,r2,r3,r4,m2,m3,m8,m10,m12,hbk],⟨n1,n2,n3⟩,b1,oO,by simp;omega,sS⟩,⟨c1,c2,c3,c4⟩,by simp;omega,by simp;omega,by simp;omega,by simp;omega⟩,?_⟩
  .rw[YP,show CS.take k=(CS.take s.stk.length).take k by rw[aBS,aCt ZA],M6,OG]
  .refine(((((KbB.mk oO fun x hx=>?_:KbB B st s2).set oO _).new ?_ _).set b2 _).new ?_ _).set c1 _
   .exact old x oO oO oO
   .simp;omega
   .simp;omega
theorem DL{P:Program}{N:Nat}{Q:AQ}{k:List fS}{fr:Frm}{st:St}{x y:Code}(I:Frm->St->Prop)(h1:AWp P N x (AK P N (fun e f s=>e=.normal/\I f s) []) fr st)(h2:∀ fr st,I fr st->AWp P N y (AK P N Q k) fr st):
 AWp P N x (AK P N Q (.code y::k)) fr st:=by
 refine cZ h1 ?_;rintro e Xj st' ⟨rfl,hI⟩;rw[iK];exact h2 _ _ hI
theorem Jn{f:Bw->Nat->Option Bw}:∀(l:List Nat) (i:Nat) (s:Bw),goB f (l++[i]) s=(goB f l s).bind fun s'=>f s' i
 |[],i,s=>by show(f s i).bind (goB f [])=f s i;cases f s i<;>rfl
 |j::l,i,s=>by
  show(f s j).bind (goB f (l++[i]))=((f s j).bind (goB f l)).bind _;cases f s j with
  |none=>rfl
  |some s'=>exact Jn l i s'
theorem zR{P:List Nat}{n:Nat}(hn:P.Nodup)(h:∀ i∈P,i<n):P.length<=n:=by have:=aAC hn (l₂:=List.range n) fun i hi=>aAX.2 (h i hi);simpa using this
theorem zD:∀(N:List (List Nat)),(∀ B∈N,B≠[])->N.length<=N.flatten.length
 |[],_=>aAi _
 |B::N,h=>by have h1:=zD N fun B hB=>h B (aAk _ hB);have h2:=aBi.2 (h B sS);simp only[List.flatten_cons,aAh,List.length_cons];omega
theorem BLp.sz{g:Gr}{s0 s:Bw}{v YN:Int}{Q:List Nat}{D:List Int}{T:List Nat}{N:List (List Nat)}(h:BLp g s0 v YN Q s D T N):T.length<=g.es.length/\N.length<=g.es.length:=by have hl:∀ i∈T++N.flatten,i<g.es.length:=fun i hi=>((h.pl i).1 hi).1;have h1:=zR h.pn hl;have h2:=zD N fun B hB=>(h.good B hB).ne;rw[aAh]at h1;omega
def SzB(g:Gr)(s:Bw):Prop:=s.stk.length<=s.vis.length*(g.es.length+1)/\s.out.length<=s.vis.length*(g.es.length+1)
theorem SzB.child{g:Gr}{s0 s:Bw}{v YN:Int}{Q:List Nat}{D:List Int}{T:List Nat}{N:List (List Nat)}(h0:SzB g s0)(h:BLp g s0 v YN Q s D T N):s.stk.length+1<=s.vis.length*(g.es.length+1)/\s.out.length<=s.vis.length*(g.es.length+1):=by
 obtain⟨h1,h2⟩:=h.sz;have h3:(s0.vis.length+1)*(g.es.length+1)<=s.vis.length*(g.es.length+1):=aCh _ (by rw[h.vis,aAh,List.length_cons];omega);rw[aBU,Nat.one_mul]at h3;have e1:s.stk.length=s0.stk.length+T.length:=by rw[h.stk,aAh]
 have e2:s.out.length=s0.out.length+N.length:=by rw[h.out,aAh]
 obtain⟨k1,k2⟩:=h0;omega
theorem Bo{g:Gr}{s:Bw}(hv:g.vs.length<=100)(he:g.es.length<=200)(hnd:s.vis.Nodup)(hs:∀ w∈s.vis,w∈g.vs):s.vis.length<=100/\s.vis.length*(g.es.length+1)<=20100:=by have h1:s.vis.length<=g.vs.length:=aAC hnd hs;exact⟨oO,by have:=Nat.mul_le_mul (show s.vis.length<=100 by omega) (show g.es.length+1<=201 by omega);omega⟩
theorem rN.keeps{g:Gr}{B W a nb lw:Nat}{tk:Int->Nat}{s:Bw}{st st':St}(h:rN g B W a nb lw tk s st)(hk:aA st st'):rN g B W a nb lw tk s st':=by obtain⟨⟨tS,tB,CS,ea,hW,⟨hA,Z5⟩,hN,hL,⟨hS,M6⟩,z9,hn,⟨b1,b2,b3,b4⟩⟩,hc,d1,d2,d3,d4⟩:=h;have hx:=hk.next;exact⟨⟨tS,tB,CS,ea,(hk.H W d1).trans hW,⟨(hk.H a d2).trans hA,Z5⟩,(hk.H nb d3).trans hN,(hk.H lw d4).trans hL,⟨(hk.H tS b3).trans hS,M6⟩,(hk.H tB b4).trans z9,hn,b1,b2,oO,oO⟩,hc,oO,oO,oO,oO⟩
theorem RD{g:Gr}{B W a nb lw:Nat}{tk:Int->Nat}{s:Bw}{S:St}{tS tB:Nat}{CS:List LV}{ea:List (List Int×LV)}(i0:Nat)
 (hW:S.H W=.box 108 6 [.sl 0 g.es.length (eds g.es),.mp a,.mp nb,.mp lw,.ms tS 0 s.stk.length,.ms tB 0 s.out.length])
 (hA:S.H a=.map false [.u32] ea) (Z5:∀ v,bR ea [v]=if atP g.es v=[]then none else some (.sl (tk v) (atP g.es v).length (isN (atP g.es v))))
 (hN:S.H nb=.map false [.u32] (nbF 0 s.vis)) (hL:S.H lw=.map false [.u32] (lwF s.vis s.low)) (hS:S.H tS=.box 3 1 CS) (z9:S.H tB=.box 23 1 (bkL g.es s.out))
 (hn:a≠nb/\a≠lw/\nb≠lw) (hb:B<=tS/\B<=tB/\tS<S.next/\tB<S.next) (hc:B<=W/\B<=a/\B<=nb/\B<=lw) (hd:W<S.next/\a<S.next/\nb<S.next/\lw<S.next) (o:cI):
 rN g B W a nb lw tk (eD s i0) ((((S.new o).set tS .dead).new (.box 3 1 (isN s.stk++[i (i0:Int)]))).set W (.box 108 6 [.sl 0 g.es.length (eds g.es),.mp a,.mp nb,.mp lw,.ms (S.next+1) 0 (s.stk.length+1),.ms tB 0 s.out.length]))/\
 KbB B S ((((S.new o).set tS .dead).new (.box 3 1 (isN s.stk++[i (i0:Int)]))).set W (.box 108 6 [.sl 0 g.es.length (eds g.es),.mp a,.mp nb,.mp lw,.ms (S.next+1) 0 (s.stk.length+1),.ms tB 0 s.out.length])):=by
 obtain⟨b1,b2,b3,b4⟩:=hb;obtain⟨c1,c2,c3,c4⟩:=hc;obtain⟨d1,d2,d3,d4⟩:=hd;have m1:¬a=W:=bH hA hW sS;have m2:¬nb=W:=bH hN hW sS;have m3:¬lw=W:=bH hL hW sS;have m4:¬tB=W:=bH z9 hW sS;have m5:¬a=tS:=bH hA hS sS;have m6:¬nb=tS:=bH hN hS sS;have m7:¬lw=tS:=bH hL hS sS;have m8:¬tB=tS:=bH z9 hS sS;have e1:¬a=S.next:=oO;have e2:¬nb=S.next:=oO;have e3:¬lw=S.next:=oO;have e4:¬tB=S.next:=oO;have e5:¬a=S.next+1:=oO;have e6:¬nb=S.next+1:=oO;have e7:¬lw=S.next+1:=oO;have e8:¬tB=S.next+1:=oO;have e9:¬S.next+1=W:=oO;have Zn:(eD s i0).stk.length=s.stk.length+1:=by simp[eD]
 have hpn:isN (eD s i0).stk=isN s.stk++[i (i0:Int)]:=by simp[eD,isN]
 refine⟨⟨⟨S.next+1,tB,isN s.stk++[i (i0:Int)],ea,by rw[Zn];simp[eD],⟨by simp[m1,m5,e1,e5,hA],Z5⟩,by simp[m2,m6,e2,e6,hN,eD],by simp[m3,m7,e3,e7,hL,eD],⟨by simp[e9],?_⟩,by simp[m4,m8,e4,e8,z9,eD],hn,oO,b2,sS,by simp;omega⟩,⟨c1,c2,c3,c4⟩,by simp;omega,by simp;omega,by simp;omega,by simp;omega⟩,?_⟩
 .rw[Zn,<- hpn,aAr];rw[kU,Zn];exact aAi _
 .exact(((((KbB.refl B S).new oO _).set b1 _).new (by simp;omega) _).set c1 _)
theorem AJ{P:Program}{N:Nat}{Q:AQ}{c:Code}{fr:Frm}{st:St}(I:Frm->St->Prop)(h0:I fr st)(h:∀ fr st,I fr st->AWp P N c Q fr st):AWp P N c Q fr st:=h _ _ h0
theorem Oj{g:Gr}{B W a nb lw:Nat}{tk:Int->Nat}{s:Bw}{T:St}(h:rN g B W a nb lw tk s T)(v x:Int):rN g B W a nb lw tk (mV s v x) (T.set lw (.map false [.u32] (lwF s.vis (s.low.set (s.vis.idxOf v) x)))):=by obtain⟨⟨tS,tB,CS,ea,hW,⟨hA,Z5⟩,hN,hL,⟨hS,M6⟩,z9,⟨n1,n2,n3⟩,⟨b1,b2,b3,b4⟩⟩,hc,d1,d2,d3,d4⟩:=h;have m1:¬W=lw:=bH hW hL sS;have m2:¬tS=lw:=bH hS hL sS;have m3:¬tB=lw:=bH z9 hL sS;have m4:¬a=lw:=n2;have m5:¬nb=lw:=n3;exact⟨⟨tS,tB,CS,ea,by simp[m1,hW,mV],⟨by simp[m4,hA],Z5⟩,by simp[m5,hN,mV],by simp[mV],⟨by simp[m2,hS],M6⟩,by simp[m3,z9,mV],⟨n1,n2,n3⟩,b1,b2,by simpa using b3,by simpa using b4⟩,hc,by simpa using d1,by simpa using d2,by simpa using d3,by simpa using d4⟩
def VsI(g:Gr)(tk:Int->Nat)(F7:Nat->Bw->Bw->Prop)(B W a nb lw:Nat)(s0:Bw)(v YN:Int)(st:St)(j:Nat)(fr:Frm)(st2:St):Prop:=
 fr 0=.pt W 0/\fr 1=u v/\fr 2=i YN/\fr 6=i ((s0.vis.length:Int)+1)/\fr 35=.sl (tk v) (atP g.es v).length (isN (atP g.es v))/\
 ∃ s D T N,F7 j s0 s/\BLp g s0 v YN ((atP g.es v).take j) s D T N/\(∀ w∈s.vis,w∈g.vs)/\rN g B W a nb lw tk s st2/\KbB B st st2
theorem UJ(g:Gr)(hg:GoodE g)(B W a nb lw:Nat)(tk:Int->Nat)(hv:g.vs.length<=100)(he:g.es.length<=200):∀(n:Nat) (A:Int->Prop) (s:Bw) (v YN:Int) (st:St),yI g A s v YN->v∈g.vs->(∀ w∈s.vis,w∈g.vs)->g.vs.length<=n+s.vis.length->SzB g s->rN g B W a nb lw tk s st->
 aB prog 70 [.pt W 0,u v,i YN] st fun r st'=>∃ s1,nO g.es n v YN s=some s1/\rN g B W a nb lw tk s1 st'/\KbB B st st':=by
 intro n;induction n with
 |zero=>intro A s v YN st h hvv hs hn _ _;obtain⟨s1,C,T,N,e,_⟩:=Dx hg 0 A s v YN h hvv hs hn;cases e
 |succ n ih=>
  intro A s0 v YN st h0 hvv hs hn ZH Y4;obtain⟨C7,hsb⟩:=Bo hv he h0.nd hs;obtain⟨⟨tS,tB,CS,ea,hW,⟨hA,Z5⟩,hN,hL,⟨hS,M6⟩,z9,⟨n1,n2,n3⟩,⟨b1,b2,b3,b4⟩⟩,⟨c1,c2,c3,c4⟩,d1,d2,d3,d4⟩:=Y4;have m4:¬W=a:=bH hW hA sS;have m5:¬W=nb:=bH hW hN sS;have m6:¬W=lw:=bH hW hL sS;have Xl:=JS s0.vis 0;have N3:=SG h0.new;have ZK:=xO s0.vis s0.low v ((s0.vis.length:Int)+1) h0.ln h0.new;have hav:=Z5 v;have w1:IntKind.i64.wrap ((s0.vis.length:Int)+1)=(s0.vis.length:Int)+1:=zW;have r1:¬a=nb:=n1;have r2:¬a=lw:=n2;have r3:¬nb=lw:=n3;have r4:¬lw=nb:=fun e=>n3 e.symm;refine zN func70 ntmps70 [] ?_;have hbs:=h0.start;have hstS:(oN s0 v).stk=s0.stk:=rfl;have O9:rN g B W a nb lw tk (oN s0 v) ((st.set nb (.map false [.u32] (nbF 0 (s0.vis++[v])))).set lw (.map false [.u32] (lwF (s0.vis++[v]) (s0.low++[(s0.vis.length:Int)+1])))):=by have q1:¬W=nb:=m5;have q2:¬tS=nb:=bH hS hN sS;have q3:¬tS=lw:=bH hS hL sS;have q4:¬tB=nb:=bH z9 hN sS;have q5:¬tB=lw:=bH z9 hL sS;exact⟨⟨tS,tB,CS,ea,by simp[m5,m6,hW,oN],⟨by simp[r1,r2,hA],Z5⟩,by simp[r3,oN],by simp[oN],⟨by simp[q2,q3,hS],M6⟩,by simp[q4,q5,z9,oN],⟨n1,n2,n3⟩,b1,b2,by simpa using b3,by simpa using b4⟩,⟨c1,c2,c3,c4⟩,by simpa using d1,by simpa using d2,by simpa using d3,by simpa using d4⟩
  have Yj:KbB B st ((st.set nb (.map false [.u32] (nbF 0 (s0.vis++[v])))).set lw (.map false [.u32] (lwF (s0.vis++[v]) (s0.low++[(s0.vis.length:Int)+1])))):=((KbB.refl B st).set c3 _).set c4 _;have hv0:∀ w∈(oN s0 v).vis,w∈g.vs:=fun w hw=>by
   have hw:w∈s0.vis++[v]:=hw;rcases aAg.1 hw with k|k
   .exact hs w k
   .rw[aAl]at k;rw[k];exact hvv
  by_cases C0:atP g.es v=[]
  .rw[aAe C0]at hav;have D9:nO g.es (n+1) v YN s0=some (oN s0 v):=by unfold nO;rw[C0];rfl
   (repeat' (first|apply qS|apply qB|(refine zE ?_;intro J hJ;simp[hW,hN,hL,hA,m4,m5,m6,Xl,N3,ZK,hav,w1,r1,r2,r3,r4];refine zJ hJ ?_)))
   refine bE 37 36 38 137 (0) (fun j fr st2=>st2=(st.set nb (.map false [.u32] (nbF 0 (s0.vis++[v])))).set lw (.map false [.u32] (lwF (s0.vis++[v]) (s0.low++[(s0.vis.length:Int)+1])))) ?_ ?_ ?_
   .rfl
   .intro j fr s dN;omega
   .rintro fr s O5;rw[O5]
    skip
    exact⟨trivial,_,D9,O9,Yj⟩
  .rw[aAa C0]at hav;have hnd:(atP g.es v).Nodup:=aCM _ aDH;have hatl:(atP g.es v).length<=g.es.length:=zR hnd fun i hi=>(aU.1 hi).1
   (repeat' (first|apply qS|apply qB|(refine zE ?_;intro J hJ;simp[hW,hN,hL,hA,m4,m5,m6,Xl,N3,ZK,hav,w1,r1,r2,r3,r4];refine zJ hJ ?_)))
   clear hW hN hL hA Z5 hS M6 z9 Xl N3 ZK hav m4 m5 m6 r1 r2 r3 r4 n1 n2 n3 b1 b2 b3 b4 d1 d2 d3 d4;refine bE 37 36 38 137 ((atP g.es v).length) (fun j fr st2=>VsI g tk (fun j s' s=>goB (fW (nO g.es n) g.es v YN ((s0.vis.length:Int)+1)) ((atP g.es v).take j) (oN s' v)=some s) B W a nb lw s0 v YN st j fr st2) ?_ ?_ ?_
   .exact⟨sS,sS,sS,sS,sS,oN s0 v,[],[],[],rfl,hbs,hv0,O9,Yj⟩
   .rintro j fr s1 dN ⟨f0,f1,f2,f6,f35,s,D,T,N,F7,ZR,N4,Y4,B8⟩ fi fn JO hJO;have hgt:(atP g.es v).getD j 0=(atP g.es v)[j]:=by rw[aAc,aAd dN];rfl
    have YP:(atP g.es v).take (j+1)=(atP g.es v).take j++[(atP g.es v).getD j 0]:=by rw[aAn dN,hgt]
    have hi:(atP g.es v).getD j 0∈atP g.es v:=by rw[hgt];exact aAu _
    have hiQ:(atP g.es v).getD j 0∉(atP g.es v).take j:=fun k=>by have h1:=hnd;rw[<- aAH (j+1) (atP g.es v),YP,aAF,aAs]at h1;exact h1.2.2 _ k _ sS rfl
    have hd:=NS (atP g.es v) j dN;generalize (atP g.es v).getD j 0=i0 at *;obtain⟨hil,hie⟩:=aU.1 hi;have next:∀ s2,fW (nO g.es n) g.es v YN ((s0.vis.length:Int)+1) s i0=some s2->goB (fW (nO g.es n) g.es v YN ((s0.vis.length:Int)+1)) ((atP g.es v).take (j+1)) (oN s0 v)=some s2:=fun s2 e=>by rw[YP,Jn,F7];exact e
    by_cases hb:(i0:Int)=YN
    .have K1:((i0:Int)==YN)=true:=by simpa using hb
     (repeat' (first|apply qS|refine qX (zZ ?_)|(apply qC;simp[f0,f2,f35,fi,fn,hd,dN,K1])|(refine zE ?_;intro J hJ;simp[f0,f2,f35,fi,fn,hd,dN,K1];refine zJ hJ ?_)))
     exact hJO _ _ (by simp[fi]) (by simp[fn]) ⟨by simp[f0],by simp[f1],by simp[f2],by simp[f6],by simp[f35],s,D,T,N,next s (by unfold fW;rw[aAe hb]),by rw[YP];exact ZR.same hg h0 hi hb,N4,Y4,B8⟩
    have K1:((i0:Int)==YN)=false:=by simpa using hb
    have hbw':=Y4;obtain⟨⟨tS,tB,CS,ea,hW,⟨hA,Z5⟩,hN,hL,⟨hS,M6⟩,z9,⟨n1,n2,n3⟩,⟨b1,b2,b3,b4⟩⟩,-,d1,d2,d3,d4⟩:=hbw';have hde:=aR g.es i0 hil;have hel:=aK g.es;have hi3:i0*3<g.es.length*3:=oO;have y1:¬W=s1.next:=oO;have y2:¬nb=s1.next:=oO;have y3:¬lw=s1.next:=oO;have y4:¬tS=s1.next:=oO;have y5:¬a=s1.next:=oO;have y6:¬tB=s1.next:=oO;obtain⟨w,hw⟩:∃ w,w=oth (eAt g.es i0) v:=⟨_,rfl⟩;have Za:w=if(g.es.getD i0 ed0).a=v then(g.es.getD i0 ed0).b else(g.es.getD i0 ed0).a:=hw
    (repeat (apply qS));(refine zE ?_;intro J hJ;simp[f35,fi,fn,hd,dN];refine zJ hJ ?_)
    (repeat (apply qS));(refine zE ?_;intro J hJ;simp[f2];refine zJ hJ ?_)
    (apply qC;simp[K1])
    refine qK (zZ ?_)
    (repeat (apply qS));(refine zE ?_;intro J hJ;simp[f0,hW,hde,hil,hi3,hel];refine zJ hJ ?_)
    (repeat (apply qS));(refine zE ?_;intro J hJ;simp[];refine zJ hJ ?_)
    apply qS;refine DL (fun f T=>f 0=.pt W 0/\f 1=u v/\f 2=i YN/\f 6=i ((s0.vis.length:Int)+1)/\f 35=.sl (tk v) (atP g.es v).length (isN (atP g.es v))/\f 36=i (atP g.es v).length/\f 37=i j/\f 8=i i0/\f 10=u w/\∃ o,T=s1.new o) ?_ ?_
    .have hxg:g.es.getD i0 ed0=g.es[i0]:=cV _ _ hil;rw[hxg]at Za;by_cases W8:g.es[i0].a=v
     .have hxb:(g.es[i0].a==v)=true:=by simpa using W8
      rw[aAe W8]at Za
      (repeat' (first|apply qS|(apply qC;simp[f0,f1,hxb])|(refine zE ?_;intro J hJ;simp[f0,f1,hxb];refine zJ hJ ?_)))
      exact⟨trivial,by simp[f0],by simp[f1],by simp[f2],by simp[f6],by simp[f35],by simp[fn],by simp[fi],sS,by rw[Za];simp,_,rfl⟩
     .have hxb:(g.es[i0].a==v)=false:=by simpa using W8
      rw[aAa W8]at Za
      (repeat' (first|apply qS|refine qK (zZ ?_)|(apply qC;simp[f0,f1,hxb])|(refine zE ?_;intro J hJ;simp[f0,f1,hxb];refine zJ hJ ?_)))
      exact⟨trivial,by simp[f0],by simp[f1],by simp[f2],by simp[f6],by simp[f35],by simp[fn],by simp[fi],sS,by rw[Za];simp,_,rfl⟩
    clear f0 f1 f2 f6 f35 fi fn hd hde Za fr;rintro fr T ⟨f0,f1,f2,f6,f35,f36,f37,f8,f10,o,hT⟩;rw[hT];clear hT T;subst hw;have hW':=(show(s1.new o).H W=s1.H W by rw[cB,aAa y1]).trans hW;have hN':=(show(s1.new o).H nb=s1.H nb by rw[cB,aAa y2]).trans hN;have hL':=(show(s1.new o).H lw=s1.H lw by rw[cB,aAa y3]).trans hL;have hS':=(show(s1.new o).H tS=s1.H tS by rw[cB,aAa y4]).trans hS;have L9:=(show(s1.new o).H a=s1.H a by rw[cB,aAa y5]).trans hA;have X6:=(show(s1.new o).H tB=s1.H tB by rw[cB,aAa y6]).trans z9;have hbT:rN g B W a nb lw tk s (s1.new o):=Y4.keeps (aA.new _ _);have hkT:KbB B st (s1.new o):=B8.new oO o;have hTn:(s1.new o).next=s1.next+1:=aF _ _;generalize s1.new o=T1 at *;obtain⟨szp,szo⟩:=ZH.child ZR;obtain⟨vl,sb⟩:=Bo hv he ZR.nd N4;have hm:=Km s.vis (oth (eAt g.es i0) v);have m5:¬W=nb:=bH hW hN sS;have m6:¬W=lw:=bH hW hL sS;have m1:¬W=tS:=bH hW hS sS;have hCS:s.stk.length<=CS.length:=by have:=congrArg List.length M6;rw[aAo,kU]at this;omega
    have t1:¬W=T1.next:=oO;have t2:¬W=T1.next+1:=oO;have t3:¬tS=T1.next:=oO;obtain⟨hpb,hpk⟩:=RD i0 hW' L9 Z5 hN' hL' hS' X6 ⟨n1,n2,n3⟩ ⟨b1,b2,oO,oO⟩ ⟨c1,c2,c3,c4⟩ ⟨oO,oO,oO,oO⟩ (.own 3 1 1);by_cases Xt:oth (eAt g.es i0) v∈s.vis
    .rw[aAe Xt]at hm;have YZ:1<=nmW s.vis (oth (eAt g.es i0) v):=by unfold nmW;rw[aAe Xt];omega
     by_cases I8:nmW s.vis (oth (eAt g.es i0) v)<(s0.vis.length:Int)+1
     .have W7:=ZR.back hg h0 hi hiQ hb Xt I8;have YL:fW (nO g.es n) g.es v YN ((s0.vis.length:Int)+1) s i0=some (mV (eD s i0) v (min (lwW s v) (nmW s.vis (oth (eAt g.es i0) v)))):=by unfold fW;rw[aAa hb,aAe Xt,aAe I8]
      generalize oth (eAt g.es i0) v=w at *;generalize nmW s.vis w=z at *;have hzb:(z==0)=false:=by rw[aCQ];omega
      have F4:¬z=0:=oO
      (repeat' (first|apply qS|apply qB|(apply qC;simp[f0,f1,f6,f8,f10,hW',hN',hm,hzb,F4,I8,hS',M6,hCS,m1,t1,t2,t3])|(refine zE ?_;intro J hJ;simp[f0,f1,f6,f8,f10,hW',hN',hm,hzb,F4,I8,hS',M6,hCS,m1,t1,t2,t3];(repeat refine ca ?_);refine zJ hJ ?_)))
      refine AJ (fun f T2=>f 0=.pt W 0/\f 1=u v/\f 2=i YN/\f 6=i ((s0.vis.length:Int)+1)/\f 35=.sl (tk v) (atP g.es v).length (isN (atP g.es v))/\f 36=i (atP g.es v).length/\f 37=i j/\f 11=i z/\rN g B W a nb lw tk (eD s i0) T2/\KbB B T1 T2) ⟨by simp[f0],by simp[f1],by simp[f2],by simp[f6],by simp[f35],by simp[f36],by simp[f37],sS,hpb,hpk⟩ ?_;clear f0 f1 f2 f6 f35 f36 f37 f8 f10 hpb hpk fr;rintro fr T2 ⟨f0,f1,f2,f6,f35,f36,f37,f11,Zg,Xx⟩;have Zu:=Oj Zg v (min (lwW s v) z);have ZK:=uG s.vis s.low v ZR.ln (ZR.v_in hg h0);have C6:=oZ s.vis s.low v (min (lwW s v) z) ZR.ln (ZR.v_in hg h0);obtain⟨⟨tS2,tB2,CS2,ea2,jW,-,-,jL,-,-,-,-⟩,-,-⟩:=Zg;have jm6:¬W=lw:=bH jW jL sS;have jL:T2.H lw=.map false [.u32] (lwF s.vis s.low):=jL;have ZK:bR (lwF s.vis s.low) [v]=some (i (lwW s v)):=ZK
      (refine zS [] [W,lw] [0,2,4,6,8,10,12,14,16,18,20,22,24,27] ?_;intro J hJ;simp[f0,f1,f11,jW,jL,ZK,C6];refine zJ hJ ?_)
      have Yp:(if z<lwW s v then z else lwW s v)=min (lwW s v) z:=by split<;>omega
      rw[Yp,show bQ (lwF s.vis s.low) [v] (LV.atom (Value.int IntKind.i64 (min (lwW s v) z)))=_ from C6];exact hJO _ _ (by simp[f37]) (by simp[f36]) ⟨by simp[f0],by simp[f1],by simp[f2],by simp[f6],by simp[f35],_,D,T++[i0],N,next _ YL,by rw[YP];exact W7,N4,Zu,(hkT.trans Xx).set c4 _⟩
     .have hskip:=ZR.skip hg h0 hi Xt I8;have YL:fW (nO g.es n) g.es v YN ((s0.vis.length:Int)+1) s i0=some s:=by unfold fW;rw[aAa hb,aAe Xt,aAa I8]
      generalize oth (eAt g.es i0) v=w at *;generalize nmW s.vis w=z at *;have hzb:(z==0)=false:=by rw[aCQ];omega
      have F4:¬z=0:=oO
      (repeat' (first|apply qS|apply qB|refine qK (zZ ?_)|(apply qC;simp[f0,f1,f6,f10,hW',hN',hm,hzb,F4,I8])|(refine zE ?_;intro J hJ;simp[f0,f1,f6,f10,hW',hN',hm,hzb,F4,I8];refine zJ hJ ?_)))
      exact hJO _ _ (by simp[f37]) (by simp[f36]) ⟨by simp[f0],by simp[f1],by simp[f2],by simp[f6],by simp[f35],s,D,T,N,next s YL,by rw[YP];exact hskip,N4,hbT,hkT⟩
    .rw[aAa Xt]at hm;have Z7:=ZR.pre hg h0 hi Xt;have v5:=fun s1 C T' N' hp=>ZR.child hg h0 hi hiQ hb Xt (s1:=s1) (C:=C) (T':=T') (N':=N') hp;have hwv:oth (eAt g.es i0) v∈g.vs:=hg.nbr (lS hi);have hwne:=sX hg hi;have YL:fW (nO g.es n) g.es v YN ((s0.vis.length:Int)+1) s i0=(nO g.es n (oth (eAt g.es i0) v) i0 (eD s i0)).bind (LY g.es.length v ((s0.vis.length:Int)+1) i0 (oth (eAt g.es i0) v)):=by unfold fW;rw[aAa hb,aAa Xt]
     generalize oth (eAt g.es i0) v=w at *
     (repeat' (first|apply qS|apply qB|(apply qC;simp[f0,f1,f6,f8,f10,hW',hN',hm,hS',M6,hCS,m1,t1,t2,t3])|(refine zE ?_;intro J hJ;simp[f0,f1,f6,f8,f10,hW',hN',hm,hS',M6,hCS,m1,t1,t2,t3];(repeat refine ca ?_);(try refine zJ hJ ?_))))
     have hlen:s.vis.length=s0.vis.length+1+D.length:=by rw[ZR.vis,aAh,List.length_cons];omega
     refine qE (ih _ (eD s i0) w i0 _ Z7 hwv N4 (by show g.vs.length<=n+s.vis.length;omega) ⟨by simpa[eD]using szp,szo⟩ hpb) sS ?_;rintro r T2 ⟨s2,D9,c7,Xx⟩;obtain⟨s2',C,T',N',hvis',hp,hC⟩:=Dx hg n _ (eD s i0) w i0 Z7 hwv N4 (by show g.vs.length<=n+s.vis.length;omega);obtain rfl:s2=s2':=by rw[D9]at hvis';exact aBb hvis'
     clear hvis';obtain⟨s3,D2,T3,N2,x9,hbl3⟩:=v5 s2 C T' N' hp;have hst3:fW (nO g.es n) g.es v YN ((s0.vis.length:Int)+1) s i0=some s3:=by rw[YL,D9];exact x9
     have hkT2:KbB B st T2:=(hkT.trans hpk).trans Xx;have A5:v∈s.vis:=ZR.v_in hg h0;have hvs2:v∈s2.vis:=by rw[hp.vis];exact aAw _ A5
     have hws2:w∈s2.vis:=by rw[hp.vis];exact aAI _ hp.hd
     have hs2v:∀ x∈s2.vis,x∈g.vs:=fun x hx=>by rw[hp.vis,aAg]at hx;exact hx.elim (N4 x) (hC x)
     have hmv:bR (lwF s2.vis s2.low) [v]=some (i (lwW s2 v)):=uG s2.vis s2.low v hp.ln hvs2;have hmw:bR (lwF s2.vis s2.low) [w]=some (i (lwW s2 w)):=uG s2.vis s2.low w hp.ln hws2;have C6:=oZ s2.vis s2.low v (min (lwW s2 v) (lwW s2 w)) hp.ln hvs2;have Zu:=Oj c7 v (min (lwW s2 v) (lwW s2 w));have hmw3:bR (lwF s2.vis (s2.low.set (s2.vis.idxOf v) (min (lwW s2 v) (lwW s2 w)))) [w]=some (i (lwW s2 w)):=by have h1:=uG s2.vis (s2.low.set (s2.vis.idxOf v) (min (lwW s2 v) (lwW s2 w))) w (by rw[aCI];exact hp.ln) hws2;have h2:=FB (x:=min (lwW s2 v) (lwW s2 w)) hp.ln hvs2 hws2;rw[aAa hwne]at h2;rw[h1];exact congrArg (fun y=>some (i y)) h2
     obtain⟨⟨tS2,tB2,CS2,ea2,jW,-,-,jL,-,-,-,-⟩,-,-⟩:=c7;have jm6:¬W=lw:=bH jW jL sS;have Yp:(if lwW s2 w<lwW s2 v then lwW s2 w else lwW s2 v)=min (lwW s2 v) (lwW s2 w):=by split<;>omega
     (apply aD;simp[];refine zJ hJ ?_)
     (repeat (apply qS));(refine zS [] [W,lw] [0,2,4,6,8,10,12,14,16,18,20,22,24,26,28,30,32,34,37] ?_;intro J hJ;simp[f0,f1,f10,jW,jL,hmv,hmw];refine zJ hJ ?_)
     rw[Yp,show bQ (lwF s2.vis s2.low) [v] (LV.atom (Value.int IntKind.i64 (min (lwW s2 v) (lwW s2 w))))=_ from C6];have hW3:(T2.set lw (.map false [.u32] (lwF s2.vis (s2.low.set (s2.vis.idxOf v) (min (lwW s2 v) (lwW s2 w)))))).H W=T2.H W:=by rw[bN,aAa jm6]
     unfold LY at x9;by_cases hc:(s0.vis.length:Int)+1<=lwW s2 w
     .rw[aAe hc]at x9;have Q3:s2.stk=s.stk++i0::T':=by rw[hp.stk];show(s.stk++[i0])++T'=_;simp
      have hiT:i0∉T':=fun k=>((hp.pl i0).1 (aAw _ k)).2.1 rfl;have hTn:=(aAs.1 hp.pn).1;have hTl:∀ k∈T',k<g.es.length:=fun k hk=>((hp.pl k).1 (aAw _ hk)).1;have hTlen:=zR hTn hTl;have hNl:=zD N' fun B hB=>(hp.good B hB).ne;have hNf:=zR (aAs.1 hp.pn).2.1 fun k hk=>((hp.pl k).1 (aAI _ hk)).1;have W4:s2.out.length=s.out.length+N'.length:=by rw[hp.out,aAh];rfl
      have hk2l:s2.stk.length=s.stk.length+1+T'.length:=by rw[Q3,aAh,List.length_cons];omega
      have A8:iU s2.stk i0=s.stk.length:=by rw[Q3];exact wX hiT
      have hdrop:s2.stk.drop (iU s2.stk i0)=i0::T':=by rw[A8,Q3,aDw]
      have YS:=Ws g hg.ids B W a nb lw tk (mV s2 v (min (lwW s2 v) (lwW s2 w))) i0 _ Zu (by show i0∈s2.stk;rw[Q3];simp)
       (by show ∀ k∈s2.stk.drop (iU s2.stk i0),k<g.es.length
           rw[hdrop];intro k hk;rcases aAf.1 hk with e|e
           .rw[e];exact hil
           .exact hTl k e)
       (by show(s2.stk.drop (iU s2.stk i0)).Nodup
           rw[hdrop];exact aAD.2 ⟨hiT,hTn⟩) oO (by show s2.stk.length<=60000;omega) (by show s2.out.length<=100000;omega)
      (repeat' (first|apply qS|(apply qC;simp[f0,f6,f8,f10,jW,jm6,hmw3,hc])|(refine zE ?_;intro J hJ;simp[f0,f6,f8,f10,jW,jm6,hmw3,hc];(try refine zJ hJ ?_))))
      refine qE YS sS ?_;rintro r T4 ⟨s4,hcw,hb4,Yh⟩;obtain rfl:s4=s3:=by rw[hcw]at x9;exact aBb x9
      have hv4:s4.vis=s2.vis:=by
       unfold Gy at hcw
       split at hcw
       .cases hcw;rfl
       .cases hcw
      (repeat' (apply aD;simp[];refine zJ hJ ?_))
      exact hJO _ _ (by simp[f37]) (by simp[f36]) ⟨by simp[f0],by simp[f1],by simp[f2],by simp[f6],by simp[f35],_,D2,T3,N2,next _ hst3,by rw[YP];exact hbl3,fun x hx=>hs2v x (by rw[<- hv4];exact hx),hb4,(hkT2.set c4 _).trans Yh⟩
     .rw[aAa hc]at x9;obtain rfl:=aBb x9
      (repeat' (first|apply qS|refine qK (zZ ?_)|(apply qC;simp[f0,f6,f10,jW,jm6,hmw3,hc])|(refine zE ?_;intro J hJ;simp[f0,f6,f10,jW,jm6,hmw3,hc];refine zJ hJ ?_)))
      exact hJO _ _ (by simp[f37]) (by simp[f36]) ⟨by simp[f0],by simp[f1],by simp[f2],by simp[f6],by simp[f35],_,D2,T3,N2,next _ hst3,by rw[YP];exact hbl3,hs2v,Zu,hkT2.set c4 _⟩
   .rintro fr s1 ⟨f0,f1,f2,f6,f35,s,D,T,N,F7,ZR,N4,Y4,B8⟩;rw[aAQ]at F7
    skip
    exact⟨trivial,s,F7,Y4,B8⟩
theorem Pb{P:Program}{N:Nat}{Q:AQ}{k:List fS}{fr:Frm}{st:St}{x:Code}(I:Frm->St->Prop)(h1:AWp P N x (AK P N (fun e f s=>e=.normal/\I f s) []) fr st)(h2:∀ fr st,I fr st->AK P N Q k .normal fr st):
 AWp P N x (AK P N Q k) fr st:=by
 refine cZ h1 ?_;rintro e Xj st' ⟨rfl,hI⟩;exact h2 _ _ hI
theorem DQ{P:Program}{N:Nat}{Q:AQ}{fr:Frm}{st:St}{c:Code}(q e' s':Nat){e s:Nat}(pre post:List LV)(hH:st.H q=.box e s (pre++.nil::post))
 (h:AWp P N c Q fr ((st.new (.box e' s' [])).set q (.box e s (pre++.ms st.next 0 0::post)))):AWp P N c Q fr st:=by
 refine iG (fun a w g hi hr _=>?_) h;have he:=ext_nil w g;have h1:Inv w g.addNil (st.new (.box e' s' [])):=iP hi _ (.inr ⟨e',s',rfl⟩);have dN:q<st.next:=Bd hi hH sS;refine⟨g.addNil,BB h1 (cs:=pre++.nil::post) (by rw[cB,aAa oO];exact hH) sS (fun vs hv=>?_),hr.mono he,he⟩;obtain⟨v,k1,k2⟩:=mG pre vs hv;refine k2 g.addNil _ (Ext.refl _ _) ?_;simp only[Rep]at k1 ⊢;exact⟨none,0,k1,aAi _,aBr _,fun _=>by simp[G.addNil,hi.next],fun h=>absurd rfl h,by simp[G.addNil,hi.next]⟩
structure AtR(lo:Nat)(ρ:Int->List Nat)(ea:List (List Int×LV))(tk:Int->Nat)(st:St):Prop where
 get:∀ v,bR ea [v]=if ρ v=[]then none else some (.sl (tk v) (ρ v).length (isN (ρ v)))
 own:∀ v,ρ v≠[]->st.H (tk v)=.own 3 1 (ρ v).length/\(tk v≠0/\lo<=tk v/\tk v<st.next)
 inj:∀ v w,ρ v≠[]->ρ w≠[]->tk v=tk w->v=w
def mC(ρ:Int->List Nat)(v:Int)(k:Nat):Int->List Nat:=fun w=>if w=v then ρ v++[k]else ρ w
theorem AtR.put{lo:Nat}{ρ:Int->List Nat}{ea:List (List Int×LV)}{tk:Int->Nat}{st st':St}(h:AtR lo ρ ea tk st)(v:Int)(k:Nat){t n:Nat}(hn:n=(ρ v).length+1)(ht:st.next<=t/\t<st'.next/\t≠0/\lo<=t)(hH:st'.H t=.own 3 1 n)
 (ho:∀ w,w≠v->ρ w≠[]->st'.H (tk w)=st.H (tk w)) (hl:st.next<=st'.next):AtR lo (mC ρ v k) (bQ ea [v] (.sl t n (isN (ρ v)++[i (k:Int)]))) (fun w=>if w=v then t else tk w) st' where
 get:=fun w=>by
  rw[qY];unfold mC;by_cases e:w=v
  .subst e;rw[aAe rfl,aAe rfl,aAe rfl,aAa sS,hn];simp[isN]
  .rw[aAa (by simpa using e),aAa e,aAa e];exact h.get w
 own:=fun w hw=>by
  unfold mC at hw ⊢;by_cases e:w=v
  .rw[aAe e,aAe e];exact⟨by rw[hH,hn];simp,ht.2.2.1,ht.2.2.2,ht.2.1⟩
  .rw[aAa e]at hw;rw[aAa e,aAa e];obtain⟨h1,h2,h3,h4⟩:=h.own w hw;exact⟨by rw[ho w e hw];exact h1,h2,h3,oO⟩
 inj:=fun x y hx hy he=>by
  unfold mC at hx hy;by_cases e1:x=v
  .by_cases e2:y=v
   .rw[e1,e2]
   .rw[aAa e2]at hy;simp only[aAe e1,aAa e2]at he;have:=(h.own y hy).2.2.2;omega
  .rw[aAa e1]at hx;by_cases e2:y=v
   .simp only[aAa e1,aAe e2]at he;have:=(h.own x hx).2.2.2;omega
   .rw[aAa e2]at hy;simp only[aAa e1,aAa e2]at he;exact h.inj x y hx hy he
theorem AtR.keeps{lo:Nat}{ρ:Int->List Nat}{ea:List (List Int×LV)}{tk:Int->Nat}{st st':St}(h:AtR lo ρ ea tk st)(hk:aA st st'):AtR lo ρ ea tk st':=
 ⟨h.get,fun v hv=>by obtain⟨h1,h2,h3,h4⟩:=h.own v hv;exact⟨by rw[hk.H _ h4];exact h1,h2,h3,by have:=hk.next;omega⟩,h.inj⟩
def atK(es:List Ed)(k:Nat)(v:Int):List Nat:=(List.range k).filter fun i=>decide ((eAt es i).a=v\/(eAt es i).b=v)
theorem NN{es:List Ed}{k:Nat}(Wx:(eAt es k).a≠(eAt es k).b):atK es (k+1)=mC (mC (atK es k) (eAt es k).a k) (eAt es k).b k:=by
 funext v
 unfold atK mC;rw[aDL,aBu];by_cases hb:v=(eAt es k).b
 .subst hb;rw[aAe rfl,aAa (fun e=>Wx e.symm)];simp
 .rw[aAa hb];by_cases ha:v=(eAt es k).a
  .subst ha;simp
  .rw[aAa ha];have:¬((eAt es k).a=v\/(eAt es k).b=v):=oO;rw[aDC,aAa (by simpa using this)];simp
def AtI(g:Gr)(p:Nat)(st:St)(ρ:Int->List Nat)(s:St):Prop:=s.H p=.box 25 2 (grL g)/\s.H (p+4)=.box 108 6 [.sl 0 g.es.length (eds g.es),.mp (p+1),.mp (p+2),.mp (p+3),.ms (p+5) 0 0,.ms (p+6) 0 0]/\s.H (p+2)=.map false [.u32] []/\s.H (p+3)=.map false [.u32] []/\s.H (p+5)=.box 3 1 []/\s.H (p+6)=.box 23 1 []/\p+7<=s.next/\aA st s/\
 ∃ ea tk,s.H (p+1)=.map false [.u32] ea/\AtR (p+7) ρ ea tk s
theorem AO{es:List Ed}{n:Nat}:∀(l:List Int) (v:Int) (s:Bw),sN es n (l++[v]) s=(sN es n l s).bind fun s'=>sN es n [v] s'
 |[],v,s=>rfl
 |w::l,v,s=>by
  simp only[List.cons_append,sN]
  split
  .exact AO l v s
  .cases nO es n w (-1) s with
   |none=>rfl
   |some s'=>exact AO l v s'
theorem Iw.sz{g:Gr}{s:Bw}(h:Iw g s):SzB g s:=by
 have h1:=zD s.out fun B hB=>(h.good B hB).ne;have h2:=zR h.pn fun i hi=>((h.pl i).1 hi).1;unfold SzB;rw[h.stk];refine⟨aBr _,?_⟩;cases hv:s.vis with
 |nil=>
  have:s.out.flatten=[]:=aCw.2 fun i hi=>by have:=((h.pl i).1 hi).2;rw[hv]at this;cases this
  rw[this]at h1;rw[List.length_nil,aDt];exact h1
 |cons w V=>rw[List.length_cons,aBU];omega
theorem AtI.keeps{g:Gr}{p:Nat}{st:St}{ρ:Int->List Nat}{s s':St}(h:AtI g p st ρ s)(hk:aA s s'):AtI g p st ρ s':=by obtain⟨h0,h1,h2,h3,h4,h5,h6,h7,ea,tk,h8,h9⟩:=h;have:=hk.next;exact⟨(hk.H _ oO).trans h0,(hk.H _ oO).trans h1,(hk.H _ oO).trans h2,(hk.H _ oO).trans h3,(hk.H _ oO).trans h4,(hk.H _ oO).trans h5,oO,h7.trans hk,ea,tk,(hk.H _ oO).trans h8,h9.keeps hk⟩
theorem GA:∀ {out:List (List Nat)},(∀ B∈out,B≠[])->out.length<=out.flatten.length
 |[],_=>by simp
 |B::out,h=>by have h1:=GA (out:=out) fun B hB=>h B (aAk _ hB);have h2:=aBi.2 (h B sS);simp only[List.length_cons,List.flatten_cons,aAh];omega
theorem Rh{es:List Ed}{out:List (List Nat)}(hall:∀ i,i∈out.flatten↔i<es.length)(j8:∀ B∈out,dJ es B)(hnd:out.flatten.Nodup):out.length<=es.length:=by have h1:=GA fun B hB=>(j8 B hB).ne;have h2:=aAC hnd fun k hk=>aAX.2 ((hall k).1 hk);rw[aDz]at h2;omega
theorem SK(g:Gr)(hg:GoodE g)(st:St)(hv:g.vs.length<=100)(he:g.es.length<=200):
 aB prog 43 [.ag (grL g)] st fun r st'=>∃ q,r=.ms q 0 (eZ g.es).length/\st'.H q=.box 23 1 (bkL g.es (eZ g.es))/\st.next<=q/\q<st'.next/\aA st st':=by
 obtain⟨S,hS,hSk,hSa,hSn,Yl⟩:=rK hg;have hel:=aK g.es;have D4:=hg.ids;refine zN func43 ntmps43 [.tmp 2] ?_;refine eP fun Yi=>?_;have x1:¬st.next=st.next+1:=oO;have x2:¬st.next=st.next+1+1:=oO;have x3:¬st.next=st.next+1+1+1:=oO;have x4:¬st.next=st.next+1+1+1+1:=oO;have x5:¬st.next=st.next+1+1+1+1+1:=oO;have x6:¬st.next=st.next+1+1+1+1+1+1:=oO
 (repeat' (first|apply qS|apply qB|(refine zE ?_;intro J hJ;simp[x1,x2,x3,x4];refine zJ hJ ?_)))
 refine DQ (st.next+1+1+1+1) 3 1 (e:=108) (s:=6) [.sl 0 g.es.length (eds g.es),.mp (st.next+1),.mp (st.next+1+1),.mp (st.next+1+1+1)] [.nil] sS ?_;refine DQ (st.next+1+1+1+1) 23 1 (e:=108) (s:=6) [.sl 0 g.es.length (eds g.es),.mp (st.next+1),.mp (st.next+1+1),.mp (st.next+1+1+1),.ms (st.next+5) 0 0] [] sS ?_;obtain⟨p,hp⟩:∃ p,p=st.next:=⟨_,rfl⟩;refine bE 18 17 19 55 (g.es.length) (fun j fr st2=>fr 1=.pt p 0/\fr 3=.pt (p+4) 0/\fr 16=.sl 0 g.es.length (eds g.es)/\AtI g p st (atK g.es j) st2) ?_ ?_ ?_
 .subst hp;refine⟨sS,sS,sS,?_⟩;refine⟨by simp[x1,x2,x3,x4,x5,x6],?_,sS,sS,sS,sS,sS,?_,[],fun _=>0,sS,⟨fun v=>rfl,fun v hv=>absurd rfl hv,fun v w hv=>absurd rfl hv⟩⟩
  .simp
  ·(repeat (first|exact aA.refl _|(refine aA.trans ?_ (aA.new _ _))|(refine aA.set ?_ oO _)))
 .clear x1 x2 x3 x4 x5 x6;rintro j fr s dN ⟨f1,f3,f16,hI⟩ fi fn JO hJO;have hde:=aR g.es j dN;have hj3:j*3<g.es.length*3:=oO;have Wx:=hg.ne _ (nN dN);have hsu:=NN (es:=g.es) (k:=j) Wx;rw[hsu]at hJO;clear hsu;unfold eAt at hJO;generalize g.es.getD j ed0=x at *;obtain⟨id,xa,xb⟩:=x;simp only at hJO hde;have hρ:∀ w,(atK g.es j w).length<=10000:=fun w=>by have:=aBe (fun i=>decide ((eAt g.es i).a=w\/(eAt g.es i).b=w)) (List.range j);rw[aDz]at this;unfold atK;omega
  generalize atK g.es j=ρ at *;have hpn:p+7<=s.next:=hI.2.2.2.2.2.2.1
  (repeat' (first|apply qS|(refine zE ?_;intro J hJ;simp[f1,f3,f16,fi,fn,hde,dN,hj3,hel];refine zJ hJ ?_)))
  refine AJ (fun f T=>f 1=.pt p 0/\f 3=.pt (p+4) 0/\f 4=i j/\f 5=.pt s.next 0/\f 16=.sl 0 g.es.length (eds g.es)/\f 17=i g.es.length/\f 18=i j/\s.next<T.next/\T.H s.next=.box 56 3 [u id,u xa,u xb]/\AtI g p st (ρ) T) ⟨by simp[f1],by simp[f3],sS,sS,by simp[f16],by simp[fn],by simp[fi],sS,sS,hI.keeps (aA.new _ _)⟩ ?_;generalize s.next=X at *;clear f1 f3 f16 fi fn hI fr;rintro fr s2 ⟨f1,f3,f4,f5,f16,fn,fi,hXl,hX,hI⟩;refine DL (fun f T=>f 1=.pt p 0/\f 3=.pt (p+4) 0/\f 4=i j/\f 5=.pt X 0/\f 16=.sl 0 g.es.length (eds g.es)/\f 17=i g.es.length/\f 18=i j/\X<T.next/\T.H X=.box 56 3 [u id,u xa,u xb]/\AtI g p st (mC ρ xa j) T) ?_ ?_
  .obtain⟨hG,hW,hN,hL,hS,hB,YK,Xm,ea,tk,hA,hR⟩:=hI;have Yg:=hR.get xa;have k1:¬X=s2.next:=oO;have k2:¬X=s2.next+1:=oO;have k3:¬X=p+1:=oO;have e0:¬p+4=s2.next:=oO;have e1:¬p+1=s2.next:=oO;have e2:¬p+2=s2.next:=oO;have e3:¬p+3=s2.next:=oO;have e4:¬p=s2.next:=oO;have e5:¬p+5=s2.next:=oO;have e6:¬p+6=s2.next:=oO;have e7:¬p+4=s2.next+1:=oO;have e8:¬p+1=s2.next+1:=oO;have e9:¬p+2=s2.next+1:=oO;have Q6:¬p+3=s2.next+1:=oO;have e11:¬p=s2.next+1:=oO;have e12:¬p+5=s2.next+1:=oO;have e13:¬p+6=s2.next+1:=oO;have e14:¬s2.next+1=p+1:=oO;have e15:¬s2.next=p:=oO;have tkl:∀ w,ρ w≠[]->¬tk w=s2.next/\¬tk w=s2.next+1/\¬tk w=p+1:=fun w hw=>by have:=(hR.own w hw).2;omega
   by_cases hr:ρ xa=[]
   .rw[aAe hr]at Yg
    (refine zS [] [X,p+4,p+1] [0,2,4,6,8,10,12,14,16,18,20,22,24,26,28,30,33] ?_;intro J hJ;simp[f3,f4,f5,hX,hW,hA,Yg,k1,k2,k3,e0,e1,e4,e7,e8,e14,e15];(repeat refine ca ?_);refine zJ hJ ?_)
    have D3:=hR.put xa j (t:=s2.next+1) (n:=1) (st':=(((s2.new (.own 3 1 1)).new (.own 3 1 1)).set (p+1) (.map false [.u32] (bQ ea [xa] (.sl (s2.next+1) 1 [i (j:Int)]))))) (by rw[hr];rfl) ⟨oO,sS,oO,oO⟩ (by simp[e14,e15]) (fun w hw h0=>by obtain⟨t1,t2,t3⟩:=tkl w h0;simp[t1,t2,t3]) (by simp;omega);rw[hr]at D3;refine⟨by trivial,by simp[f1],by simp[f3],by simp[f4],by simp[f5],by simp[f16],by simp[fn],by simp[fi],by simp;omega,by simp[k1,k2,k3,hX],?_⟩;refine⟨by simp[e4,e11,hG],by simp[e0,e7,hW],by simp[e2,e9,hN],by simp[e3,Q6,hL],by simp[e5,e12,hS],by simp[e6,e13,hB],by simp;omega,?_,_,_,by simp<;>rfl,D3⟩
    (repeat (first|exact Xm|(refine aA.trans ?_ (aA.new _ _))|(refine aA.set ?_ oO _)))
   .rw[aAa hr]at Yg;obtain⟨hO,t0,tl,tu⟩:=hR.own xa hr;obtain⟨t1,t2,t3⟩:=tkl xa hr;have t4:¬X=tk xa:=fun e=>by rw[<- e,hX]at hO;cases hO
    have Z3:(isN (ρ xa)).length=(ρ xa).length:=kU _;have hrb:(ρ xa).length<=10000:=hρ _;have p0:¬p=tk xa:=oO;have p1:¬p+1=tk xa:=oO;have p2:¬p+2=tk xa:=oO;have p3:¬p+3=tk xa:=oO;have p4:¬p+4=tk xa:=oO;have p5:¬p+5=tk xa:=oO;have p6:¬p+6=tk xa:=oO
    (refine zS [] [X,p+4,p+1] [0,2,4,6,8,10,12,14,16,18,20,22,24,26,28,30,33] ?_;intro J hJ;simp[f3,f4,f5,hX,hW,hA,Yg,hO,Z3,t0,t1,t4,p1,p4,k1,k2,k3,e0,e1,e4,e7,e8,e14,e15];(repeat refine ca ?_);refine zJ hJ ?_)
    have D3:=hR.put xa j (t:=s2.next+1) (n:=(ρ xa).length+1) (st':=((((s2.new (.own 3 1 1)).set (tk xa) .dead).new (.own 3 1 ((ρ xa).length+1))).set (p+1) (.map false [.u32] (bQ ea [xa] (.sl (s2.next+1) ((ρ xa).length+1) (isN (ρ xa)++[i (j:Int)]))))) ) rfl ⟨oO,sS,oO,oO⟩ (by simp[e14,e15]) (fun w hw h0=>by obtain⟨u1,u2,u3⟩:=tkl w h0;have u4:¬tk w=tk xa:=fun e=>hw (hR.inj w xa h0 hr e);simp[u1,u2,u3,u4]) (by simp;omega);refine⟨by trivial,by simp[f1],by simp[f3],by simp[f4],by simp[f5],by simp[f16],by simp[fn],by simp[fi],by simp;omega,by simp[k1,k2,k3,t4,hX],?_⟩;refine⟨by simp[p0,e4,e11,hG],by simp[p4,e0,e7,hW],by simp[p2,e2,e9,hN],by simp[p3,e3,Q6,hL],by simp[p5,e5,e12,hS],by simp[p6,e6,e13,hB],by simp;omega,?_,_,_,by simp<;>rfl,D3⟩
    (repeat (first|exact Xm|(refine aA.trans ?_ (aA.new _ _))|(refine aA.set ?_ oO _)))
  clear f1 f3 f4 f5 f16 fi fn hXl hX hI fr s2;rintro fr s2 ⟨f1,f3,f4,f5,f16,fn,fi,hXl,hX,hI⟩;have hρ':∀ w,((mC ρ xa j) w).length<=10001:=fun w=>by
   have h1:=hρ xa;have h2:=hρ w;unfold mC
   split
   .rw[aAh,List.length_singleton];omega
   .omega
  refine Pb (fun f T=>f 1=.pt p 0/\f 3=.pt (p+4) 0/\f 4=i j/\f 5=.pt X 0/\f 16=.sl 0 g.es.length (eds g.es)/\f 17=i g.es.length/\f 18=i j/\X<T.next/\T.H X=.box 56 3 [u id,u xa,u xb]/\AtI g p st (mC (mC ρ xa j) xb j) T) ?_ ?_
  .obtain⟨hG,hW,hN,hL,hS,hB,YK,Xm,ea,tk,hA,hR⟩:=hI;have Yg:=hR.get xb;have k1:¬X=s2.next:=oO;have k2:¬X=s2.next+1:=oO;have k3:¬X=p+1:=oO;have e0:¬p+4=s2.next:=oO;have e1:¬p+1=s2.next:=oO;have e2:¬p+2=s2.next:=oO;have e3:¬p+3=s2.next:=oO;have e4:¬p=s2.next:=oO;have e5:¬p+5=s2.next:=oO;have e6:¬p+6=s2.next:=oO;have e7:¬p+4=s2.next+1:=oO;have e8:¬p+1=s2.next+1:=oO;have e9:¬p+2=s2.next+1:=oO;have Q6:¬p+3=s2.next+1:=oO;have e11:¬p=s2.next+1:=oO;have e12:¬p+5=s2.next+1:=oO;have e13:¬p+6=s2.next+1:=oO;have e14:¬s2.next+1=p+1:=oO;have e15:¬s2.next=p:=oO;have tkl:∀ w,(mC ρ xa j) w≠[]->¬tk w=s2.next/\¬tk w=s2.next+1/\¬tk w=p+1:=fun w hw=>by have:=(hR.own w hw).2;omega
   by_cases hr:(mC ρ xa j) xb=[]
   .rw[aAe hr]at Yg
    (refine zS [] [X,p+4,p+1] [0,2,4,6,8,10,12,14,16,18,20,22,24,26,28,30,33] ?_;intro J hJ;simp[f3,f4,f5,hX,hW,hA,Yg,k1,k2,k3,e0,e1,e4,e7,e8,e14,e15];(repeat refine ca ?_);refine zJ hJ ?_)
    have D3:=hR.put xb j (t:=s2.next+1) (n:=1) (st':=(((s2.new (.own 3 1 1)).new (.own 3 1 1)).set (p+1) (.map false [.u32] (bQ ea [xb] (.sl (s2.next+1) 1 [i (j:Int)]))))) (by rw[hr];rfl) ⟨oO,sS,oO,oO⟩ (by simp[e14,e15]) (fun w hw h0=>by obtain⟨t1,t2,t3⟩:=tkl w h0;simp[t1,t2,t3]) (by simp;omega);rw[hr]at D3;refine⟨by trivial,by simp[f1],by simp[f3],by simp[f4],by simp[f5],by simp[f16],by simp[fn],by simp[fi],by simp;omega,by simp[k1,k2,k3,hX],?_⟩;refine⟨by simp[e4,e11,hG],by simp[e0,e7,hW],by simp[e2,e9,hN],by simp[e3,Q6,hL],by simp[e5,e12,hS],by simp[e6,e13,hB],by simp;omega,?_,_,_,by simp<;>rfl,D3⟩
    (repeat (first|exact Xm|(refine aA.trans ?_ (aA.new _ _))|(refine aA.set ?_ oO _)))
   .rw[aAa hr]at Yg;obtain⟨hO,t0,tl,tu⟩:=hR.own xb hr;obtain⟨t1,t2,t3⟩:=tkl xb hr;have t4:¬X=tk xb:=fun e=>by rw[<- e,hX]at hO;cases hO
    have Z3:(isN ((mC ρ xa j) xb)).length=((mC ρ xa j) xb).length:=kU _;have hrb:((mC ρ xa j) xb).length<=10001:=hρ' _;have p0:¬p=tk xb:=oO;have p1:¬p+1=tk xb:=oO;have p2:¬p+2=tk xb:=oO;have p3:¬p+3=tk xb:=oO;have p4:¬p+4=tk xb:=oO;have p5:¬p+5=tk xb:=oO;have p6:¬p+6=tk xb:=oO
    (refine zS [] [X,p+4,p+1] [0,2,4,6,8,10,12,14,16,18,20,22,24,26,28,30,33] ?_;intro J hJ;simp[f3,f4,f5,hX,hW,hA,Yg,hO,Z3,t0,t1,t4,p1,p4,k1,k2,k3,e0,e1,e4,e7,e8,e14,e15];(repeat refine ca ?_);refine zJ hJ ?_)
    have D3:=hR.put xb j (t:=s2.next+1) (n:=((mC ρ xa j) xb).length+1) (st':=((((s2.new (.own 3 1 1)).set (tk xb) .dead).new (.own 3 1 (((mC ρ xa j) xb).length+1))).set (p+1) (.map false [.u32] (bQ ea [xb] (.sl (s2.next+1) (((mC ρ xa j) xb).length+1) (isN ((mC ρ xa j) xb)++[i (j:Int)]))))) ) rfl ⟨oO,sS,oO,oO⟩ (by simp[e14,e15]) (fun w hw h0=>by obtain⟨u1,u2,u3⟩:=tkl w h0;have u4:¬tk w=tk xb:=fun e=>hw (hR.inj w xb h0 hr e);simp[u1,u2,u3,u4]) (by simp;omega);refine⟨by trivial,by simp[f1],by simp[f3],by simp[f4],by simp[f5],by simp[f16],by simp[fn],by simp[fi],by simp;omega,by simp[k1,k2,k3,t4,hX],?_⟩;refine⟨by simp[p0,e4,e11,hG],by simp[p4,e0,e7,hW],by simp[p2,e2,e9,hN],by simp[p3,e3,Q6,hL],by simp[p5,e5,e12,hS],by simp[p6,e6,e13,hB],by simp;omega,?_,_,_,by simp<;>rfl,D3⟩
    (repeat (first|exact Xm|(refine aA.trans ?_ (aA.new _ _))|(refine aA.set ?_ oO _)))
  rintro fr s3 ⟨f1,f3,f4,f5,f16,fn,fi,hXl,hX,hI⟩;simp only[ak];exact hJO _ _ (by simp[fi]) (by simp[fn]) ⟨f1,f3,f16,hI⟩
 .clear x1 x2 x3 x4 x5 x6;rintro fr s1 ⟨f1,f3,f16,hI⟩;have hI':=hI;obtain⟨hG,hW,hN,hL,M6,hB,YK,Xm,ea,tk,hA,hR⟩:=hI';have Yg:∀ v,bR ea [v]=if atP g.es v=[]then none else some (.sl (tk v) (atP g.es v).length (isN (atP g.es v))):=hR.get
  have O9:rN g (p+1) (p+4) (p+1) (p+2) (p+3) tk ⟨[],[],[],[]⟩ s1:=by refine⟨⟨p+5,p+6,[],ea,hW,⟨hA,Yg⟩,hN,hL,⟨M6,rfl⟩,hB,⟨oO,oO,oO⟩,oO,oO,oO,oO⟩,⟨oO,oO,oO,oO⟩,oO,oO,oO,oO⟩
  have hall0:Iw g ⟨[],[],[],[]⟩:=⟨rfl,.nil,fun w hw=>(by cases hw),fun w hw=>(by cases hw),rfl,fun i=>by simp,sS,fun B hB=>(by cases hB)⟩;clear hW hN hL M6 hB hA hR hI
  (repeat' (first|apply qS|apply qB|(refine zE ?_;intro J hJ;simp[f1,hG];refine zJ hJ ?_)))
  refine bE 59 58 60 73 (g.vs.length) (fun j fr st2=>fr 1=.pt p 0/\fr 3=.pt (p+4) 0/\fr 57=.sl 0 g.vs.length (us g.vs)/\KbB (p+1) s1 st2/\∃ sB,sN g.es g.vs.length (g.vs.take j) ⟨[],[],[],[]⟩=some sB/\Iw g sB/\rN g (p+1) (p+4) (p+1) (p+2) (p+3) tk sB st2) ?_ ?_ ?_
  .exact⟨by simp[f1],by simp[f3],sS,KbB.refl _ _,_,rfl,hall0,O9⟩
  .clear f1 f3 f16 O9 hall0 fr;rintro j fr s2 dN ⟨f1,f3,f57,B8,sB,hsB,hall,Y4⟩ fi fn JO hJO;have hd:=qG g.vs j dN;have hvm:g.vs.getD j 0∈g.vs:=by rw[aN _ _ dN];exact aAu _
   have YP:g.vs.take (j+1)=g.vs.take j++[g.vs.getD j 0]:=by rw[aAn dN,aN _ _ dN]
   rw[YP,AO,hsB]at hJO;simp only[Option.bind_some]at hJO;generalize g.vs.getD j 0=v at *;have hm:=Km sB.vis v;have ZH:=hall.sz;obtain⟨s3,e3,hall3,_,_⟩:=EV hg g.vs.length (aAi _) [v] sB (fun w hw=>by rw[aAl]at hw;rw[hw];exact hvm) hall;rw[e3]at hJO;have hbw':=Y4;obtain⟨⟨tS,tB,CS,ea2,jW,-,jN,-,-,-,-,-⟩,-,-⟩:=hbw';by_cases Xt:v∈sB.vis
   .rw[aAe Xt]at hm;have e4:s3=sB:=by unfold sN at e3;rw[aAe Xt]at e3;exact(aBb e3).symm
    have hz1:1<=nmW sB.vis v:=by unfold nmW;rw[aAe Xt];omega
    generalize nmW sB.vis v=z at *;have hzb:(z==0)=false:=by rw[aCQ];omega
    have F4:¬z=0:=oO
    (repeat' (first|apply qS|refine qK (zZ ?_)|(apply qC;simp[f3,f57,fi,fn,hd,dN,jW,jN,hm,hzb,F4])|(refine zE ?_;intro J hJ;simp[f3,f57,fi,fn,hd,dN,jW,jN,hm,hzb,F4];refine zJ hJ ?_)))
    exact hJO _ _ (by simp[fi]) (by simp[fn]) ⟨by simp[f1],by simp[f3],by simp[f57],B8,s3,rfl,hall3,by rw[e4];exact Y4⟩
   .rw[aAa Xt]at hm;have Z7:yI g (fun _=>False) sB v (-1):=⟨hall.ln,hall.nd,fun a ha=>ha.elim,fun w hw _=>hall.fin w hw,Xt,fun a b ha=>ha.elim,.inl ⟨rfl,fun a ha=>ha⟩⟩
    (repeat' (first|apply qS|(apply qC;simp[f3,f57,fi,fn,hd,dN,jW,jN,hm])|(refine zE ?_;intro J hJ;simp[f3,f57,fi,fn,hd,dN,jW,jN,hm];(try refine zJ hJ ?_))))
    refine qE (UJ g hg (p+1) (p+4) (p+1) (p+2) (p+3) tk hv he g.vs.length _ sB v (-1) _ Z7 hvm hall.sub oO ZH Y4) sS ?_;rintro r s4 ⟨s5,h5,hb5,V4⟩;have e5:s3=s5:=by unfold sN at e3;rw[aAa Xt,h5]at e3;exact(aBb e3).symm
    (repeat' (apply aD;simp[];refine zJ hJ ?_))
    exact hJO _ _ (by simp[fi]) (by simp[fn]) ⟨by simp[f1],by simp[f3],by simp[f57],B8.trans V4,s3,rfl,hall3,by rw[e5];exact hb5⟩
  .clear f1 f3 f16 O9 hall0 fr;rintro fr s2 ⟨f1,f3,f57,B8,sB,hsB,hall,Y4⟩;rw[aAQ,hS]at hsB;obtain rfl:=aBb hsB;have ZH:=hall.sz;obtain⟨_,sb⟩:=Bo hv he hall.nd hall.sub;obtain⟨⟨tS,tB,CS,ea2,jW,-,jN,-,-,jB,-,b1,b2,b3,b4⟩,-,d1,-⟩:=Y4
   (repeat' (first|apply qS|(refine zE ?_;intro J hJ;simp[f3,jW])))
   refine qE (VC D4 S.out hSa Yl hSn tB _ (by have:=ZH.2;have:=Rh hSa Yl hSn;omega) b4 jB) sS ?_;rintro r s4 ⟨h1,h2,h3⟩;have hW4:=(h3.2 (p+4) (bH jW jB sS) d1).trans jW;have Xr:=h2.length_eq
   (repeat' (first|apply qS|(refine qR (zZ ?_);simp[f3,hW4])|((first|(refine zE ?_;intro J hJ)|(apply aD));simp[f3,hW4];refine zJ hJ ?_)))
   refine⟨tB,by simp[Xr],h1,oO,aAp b4 h3.1,?_⟩;refine⟨aBh Xm.next (aBh B8.next h3.1),fun x hx=>?_⟩;rw[h3.2 x oO (by have:=B8.next;omega),B8.H x oO,Xm.H x hx]
theorem Mb(n:Nat):∀ l:List Ed,fG n (eds l):=fun l=>by
 induction l with
 |nil=>simp only[eds,aDG,fG]
 |cons x l ih=>simp only[eds,aAJ,edL,List.cons_append,List.nil_append,fG];exact⟨trivial,trivial,trivial,ih⟩
theorem RH(n:Nat)(es:List Ed):∀ out:List (List Nat),fG n (bkL es out):=fun out=>by
 induction out with
 |nil=>simp only[bkL,aBz,fG]
 |cons B out ih=>simp only[bkL,aAj,fG];exact⟨⟨.inl rfl,Mb _ _⟩,ih⟩
theorem UB(g:Gr)(hg:GoodE g)(st:St)(hv:g.vs.length<=100)(he:g.es.length<=200):
 aB prog 43 [.ag (grL g)] st fun r st'=>r=.sl 0 (eZ g.es).length (bkL g.es (eZ g.es))/\st'=st:=by
 refine qT (Q:=fun r=>r=.sl 0 (eZ g.es).length (bkL g.es (eZ g.es))) (cD ((SK g hg st hv he).mono ?_)) fun r h=>by subst h;exact⟨.inl rfl,RH _ _ _⟩
 rintro r s ⟨q,rfl,hH,hq,Zi,hk⟩;have hl:=zU g.es (eZ g.es);exact⟨q,_,_,_,_,rfl,hH,by rw[hl,aCF];exact aAi _,by rw[aAr (by rw[hl,aCF];exact aAi _)],hk.set hq _⟩
end Aw
end Go.Proofs.YtempldclppogmaaGreatDoor
