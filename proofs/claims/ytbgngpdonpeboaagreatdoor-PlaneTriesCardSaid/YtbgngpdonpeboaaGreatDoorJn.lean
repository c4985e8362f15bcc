/- Blocks: rows of edges and rows of blocks in order. -/
import Derived.Test.YtbgngpdonpeboaaGreatDoorJm
import Derived.Test.YtbgngpdonpeboaaGreatDoorAwFz
import Derived.Test.YtbgngpdonpeboaaGreatDoorAwRg
import Derived.Test.YtbgngpdonpeboaaGreatDoorAwZ
import Derived.Test.YtbgngpdonpeboaaGreatDoorAwFr
set_option linter.unusedVariables false
set_option linter.unusedSimpArgs false
set_option maxHeartbeats 8000000
open Go.Proofs.Tryz
namespace Go.Proofs.YtbgngpdonpeboaaGreatDoor
namespace Aw
open Go Go.RowKit Pl Eu
section
variable {es:List Ed} (hids:es.Pairwise fun x y=>x.id<y.id)
include hids
theorem WT{a b:Nat}(ha:a<es.length)(hb:b<es.length):(eAt es a).id<(eAt es b).id↔a<b:=by
 unfold eAt;rw[eJ _ _ ha,eJ _ _ hb];rw[aAC]at hids;rcases aCs a b with k|k|k
 .exact⟨fun _=>k,fun _=>hids a b ha hb k⟩
 .subst k;omega
 .have:=hids b a hb ha k;omega
theorem Yt(P:List Nat)(hn:P.Nodup)(hP:∀ i∈P,i<es.length)(q:Nat)(st:St)(hl:P.length<65536)(hq:q<st.next)(hH:st.H q=.box 36 3 (eds (P.map (eAt es)))):
 aB prog 169 [.ms q 0 P.length,.fn (.func 170) []] st fun r st'=>st'.H q=.box 36 3 (eds ((tQ es.length P).map (eAt es)))/\bP q st st':=by
 have e:∀ L:List Nat,eds ((L.map fun k:Nat=>(k:Int)).map fun x=>eAt es x.toNat)=eds (L.map (eAt es)):=fun L=>by rw[aAW];rfl
 have h:=Zr (fun x=>eAt es x.toNat) (fun x=>0<=x/\x.toNat<es.length) (fun x y hx hy=>by rw[WT hids hx.2 hy.2];omega) (P.map fun k:Nat=>(k:Int)) (fun x hx=>by
  obtain⟨k,hk,rfl⟩:=aAi.1 hx
  exact⟨oO,by simpa using hP k hk⟩) q st (by rw[aAD];omega) hq (by rw[e];exact hH)
 rw[aAD]at h;refine h.mono ?_;rintro r s ⟨c,h1,h2,h3,h4⟩;refine⟨?_,h4⟩;have hc:c=(tQ es.length P).map fun k:Nat=>(k:Int):=by refine Kl h3 ?_ (h2.trans ((xW hn hP).map _).symm);rw[aAV];exact(wX _ _).imp fun k=>by omega
 rw[h1,hc,e]
def bkL(es:List Ed)(out:List (List Nat)):List LV:=out.map fun B=>.sl 0 B.length (eds (B.map (eAt es)))
omit hids in
theorem Bl(es:List Ed)(out:List (List Nat)):(bkL es out).length=out.length:=by simp[bkL]
omit hids in
theorem Xv{z:Nat}(hz:z<es.length)(he:(iO es z).headD 0=z):∃ R,iO es z=z::R:=by
 have hm:z∈iO es z:=Ip.2 ⟨hz,.refl⟩;cases hc:iO es z with
 |nil=>rw[hc]at hm;cases hm
 |cons a R=>rw[hc]at he;simp at he;exact⟨R,by rw[he]⟩
theorem ZM(out:List (List Nat))(hall:∀ i,i∈out.flatten↔i<es.length)(U6:∀ B∈out,dS es B)(hnd:out.flatten.Nodup)(q:Nat)(st:St)(hl:out.length<65536)(hq:q<st.next)(hH:st.H q=.box 23 1 (bkL es out)):
 aB prog 98 [.ms q 0 out.length,.fn (.func 99) []] st fun r st'=>st'.H q=.box 23 1 (bkL es (fT es))/\(fT es).Perm out/\bP q st st':=by
 obtain⟨L,hL⟩:∃ L:List Int,L=out.map fun B=>((B.headD 0:Nat):Int):=⟨_,rfl⟩;have hB:∀ B∈out,iO es (B.headD 0)=B:=fun B h=>((U6 B h).cls (head_mem (U6 B h).ne)).symm;have hD:∀ x∈L,0<=x/\x.toNat<es.length/\(iO es x.toNat).headD 0=x.toNat:=fun x hx=>by
  rw[hL]at hx;obtain⟨B,h,rfl⟩:=aAi.1 hx;refine⟨oO,?_,?_⟩
  .simpa using(U6 B h).lt _ (head_mem (U6 B h).ne)
  .rw[Int.toNat_natCast,hB B h]
 have e:∀ c:List Int,(c.map fun x=>LV.sl 0 (iO es x.toNat).length (eds ((iO es x.toNat).map (eAt es))))=bkL es (c.map fun x=>iO es x.toNat):=fun c=>by unfold bkL;rw[aAW];rfl
 have eL:L.map (fun x=>iO es x.toNat)=out:=by
  rw[hL,aAW];have:∀ B∈out,((fun x:Int=>iO es x.toNat)∘fun B:List Nat=>((B.headD 0:Nat):Int)) B=B:=fun B h=>by show iO es ((B.headD 0:Nat):Int).toNat=B;rw[Int.toNat_natCast];exact hB B h
  rw[aAQ this,List.map_id']
 have hLn:L.Nodup:=by rw[hL];refine aAV.2 ?_;have:=(aEn.1 hnd).2;refine this.imp_of_mem fun {a b} ha hb hd he=>?_;exact hd _ (head_mem (U6 a ha).ne) _ (head_mem (U6 b hb).ne) oO
 have h:=Zh (fun x=>(iO es x.toNat).length) (fun x=>eds ((iO es x.toNat).map (eAt es))) (fun x=>(eAt es x.toNat).id) (fun x=>0<=x/\x.toNat<es.length/\(iO es x.toNat).headD 0=x.toNat) (fun x hx=>by
  obtain⟨R,hR⟩:=Xv hx.2.1 hx.2.2;rw[hR]
  exact⟨sS,_,rfl⟩) (fun x y hx hy=>by rw[WT hids hx.2.1 hy.2.1];omega) L hD q st (by rw[hL,aAD];omega) hq (by rw[e,eL];exact hH)
 rw[show L.length=out.length by rw[hL,aAD]]at h;refine h.mono ?_;rintro r s ⟨c,h1,h2,h3,h4⟩;have hcD:∀ x∈c,0<=x/\x.toNat<es.length/\(iO es x.toNat).headD 0=x.toNat:=fun x hx=>hD x (h2.mem_iff.1 hx);have hp:(c.map fun x=>iO es x.toNat).Perm out:=by
  have:=h2.map fun x:Int=>iO es x.toNat
  rwa [eL]at this
 have hr:(c.map fun x=>iO es x.toNat).Pairwise fun x y=>x.headD 0<y.headD 0:=by rw[aAV];have hcn:=h2.nodup_iff.2 hLn;refine(h3.and hcn).imp_of_mem fun {a b} ha hb x8=>?_;have h5:=hcD a ha;have h6:=hcD b hb;rw[h5.2.2,h6.2.2];have:=x8.2;have:=x8.1;omega
 have hled:=Ap hall U6 hp hr;refine⟨by rw[h1,e,hled],by rw[<- hled];exact hp,h4⟩
end
def isN(l:List Nat):List LV:=l.map fun k:Nat=>i (k:Int)
@[simp] theorem lE(l:List Nat):(isN l).length=l.length:=by simp[isN]
theorem RS(l:List Nat)(k:Nat)(hk:k<l.length):(isN l).drop k=i ((l.getD k 0:Nat):Int)::(isN l).drop (k+1):=by
 grind [isN,List.drop_eq_getElem_cons]
theorem Qi(l:List Nat)(k:Nat):(isN l).take k=isN (l.take k):=by simp[isN]
theorem Zm{v x:Int}{V:List Int}(h:¬v=x):(v::V).idxOf x=V.idxOf x+1:=by
 grind
def nbF:Nat->List Int->List (List Int×LV)
 |_,[]=>[]
 |k,v::V=>([v],i ((k:Int)+1))::nbF (k+1) V
theorem Jy(V:List Int):∀ k,(nbF k V).length=V.length:=by
 induction V with
 |nil=>intro k;rfl
 |cons v V ih=>grind [nbF]
theorem QI(V:List Int)(x:Int):∀ k,bS (nbF k V) [x]=if x∈V then some (i ((k:Int)+nmW V x))else none:=by
 induction V with
 |nil=>intro k;rfl
 |cons v V ih=>
  grind [nbF,bS,nmW]
theorem QT{x:Int}(V:List Int)(h:x∉V):∀ k,bV (nbF k V) [x] (i ((k:Int)+V.length+1))=nbF k (V++[x]):=by
 induction V with
 |nil=>grind [nbF,bV]
 |cons v V ih=>
  intro k;rw[aAe,aCx]at h
  grind [nbF,bV]
theorem MI(V:List Int)(x:Int):bS (nbF 0 V) [x]=if x∈V then some (i (nmW V x))else none:=by
 grind [QI]
theorem VJ{x:Int}{V:List Int}(h:x∉V):bV (nbF 0 V) [x] (i ((V.length:Int)+1))=nbF 0 (V++[x]):=by
 have:=QT V h 0
 grind
def lwF:List Int->List Int->List (List Int×LV)
 |v::V,x::L=>([v],i x)::lwF V L
 |_,_=>[]
theorem vD:∀(V L:List Int) (x:Int),L.length=V.length->x∈V->bS (lwF V L) [x]=some (i (L.getD (V.idxOf x) 0))
 |[],_,_,_,h=>by cases h
 |v::V,[],x,hl,_=>by grind
 |v::V,y::L,x,hl,h=>by
  unfold lwF bS;by_cases e:v=x
  .grind
  .have e2:¬([x]==[v])=true:=by simpa using fun k=>e k.symm
   simp only[e2,aBg,aBS];rw[vD V L x (by grind) (by grind),Zm e];rfl
theorem yF:∀(V L:List Int) (x y:Int),L.length=V.length->x∉V->bV (lwF V L) [x] (i y)=lwF (V++[x]) (L++[y])
 |[],[],_,_,_,_=>rfl
 |[],_::_,_,_,hl,_=>by grind
 |v::V,[],x,_,hl,_=>by grind
 |v::V,z::L,x,y,hl,h=>by
  rw[aAe,aCx]at h;have e:¬([x]==[v])=true:=by simpa using h.1
  unfold lwF bV;simp only[e,aBg,aBS,List.cons_append];rw[yF V L x y (by grind) h.2]
theorem qY:∀(V L:List Int) (x y:Int),L.length=V.length->x∈V->bV (lwF V L) [x] (i y)=lwF V (L.set (V.idxOf x) y)
 |[],_,_,_,_,h=>by cases h
 |v::V,[],x,_,hl,_=>by grind
 |v::V,z::L,x,y,hl,h=>by
  unfold lwF bV;by_cases e:v=x
  .grind
  .have e2:¬([x]==[v])=true:=by simpa using fun k=>e k.symm
   simp only[e2,aBg,aBS];rw[qY V L x y (by grind) (by grind),Zm e];rfl
theorem KO{l:List Nat}{i:Nat}(h:i∈l):jS l i<l.length/\l.getD (jS l i) 0=i/\∀ j,jS l i<j->j<l.length->l.getD j 0≠i:=by
 obtain⟨P,R,rfl,hR⟩:∃ P R,l=P++i::R/\i∉R:=by
  obtain⟨P,R,e,hR⟩:=List.eq_append_cons_of_mem (aBm.2 h);refine⟨R.reverse,P.reverse,?_,by grind⟩
  grind
 grind [xL]
structure sR(g:Gr)(B W a nb lw:Nat)(tk:Int->Nat)(s:Bw)(st:St):Prop where
 ex:∃ tS tB CS ea,st.H W=.box 126 6 [.sl 0 g.es.length (eds g.es),.mp a,.mp nb,.mp lw,.ms tS 0 s.stk.length,.ms tB 0 s.out.length]/\
  (st.H a=.map false [.u32] ea/\∀ v,bS ea [v]=if atP g.es v=[]then none else some (.sl (tk v) (atP g.es v).length (isN (atP g.es v))))/\
  st.H nb=.map false [.u32] (nbF 0 s.vis)/\st.H lw=.map false [.u32] (lwF s.vis s.low)/\(st.H tS=.box 3 1 CS/\CS.take s.stk.length=isN s.stk)/\st.H tB=.box 23 1 (bkL g.es s.out)/\
  (a≠nb/\a≠lw/\nb≠lw)/\(B<=tS/\B<=tB/\tS<st.next/\tB<st.next)
 bd:(B<=W/\B<=a/\B<=nb/\B<=lw)/\(W<st.next/\a<st.next/\nb<st.next/\lw<st.next)
theorem bC{st:St}{a b:Nat}{x y:cN}(ha:st.H a=x)(hb:st.H b=y)(h:x≠y):¬a=b:=fun e=>h (by rw[<- ha,e,hb])
theorem Se{es:List Ed}{P:List Nat}{j:Nat}(hj:j<P.length):(P.take (j+1)).map (eAt es)=(P.take j).map (eAt es)++[eAt es (P.getD j 0)]:=by rw[aAp hj,aAv,aAg,aAh hj];rfl
structure KbB(B:Nat)(st st':St):Prop where
 next:st.next<=st'.next
 H:∀ x,x<B->st'.H x=st.H x
theorem KbB.refl(B:Nat)(st:St):KbB B st st:=⟨aAl _,fun _ _=>rfl⟩
theorem KbB.trans{B:Nat}{a b c:St}(h:KbB B a b)(k:KbB B b c):KbB B a c:=⟨aBa h.next k.next,fun x hx=>by rw[k.H x hx,h.H x hx]⟩
theorem KbB.new{B:Nat}{a b:St}(h:KbB B a b)(hB:B<=b.next)(o:cN):KbB B a (b.new o):=⟨by rw[aG];exact Nat.le_succ_of_le h.next,fun x hx=>by rw[bY,aAa oO];exact h.H x hx⟩
theorem KbB.set{B:Nat}{a b:St}(h:KbB B a b){l:Nat}(hl:B<=l)(o:cN):KbB B a (b.set l o):=⟨h.next,fun x hx=>by rw[bQ,aAa oO];exact h.H x hx⟩
theorem H8(g:Gr)(hids:g.es.Pairwise fun x y=>x.id<y.id)(B W a nb lw:Nat)(tk:Int->Nat)(s:Bw)(i0:Nat)(st:St)(h:sR g B W a nb lw tk s st)(hi:i0∈s.stk)(hsl:∀ k∈s.stk.drop (jS s.stk i0),k<g.es.length)(X3:(s.stk.drop (jS s.stk i0)).Nodup)(he:g.es.length<=1000)(hkl:s.stk.length<=60000)(Y2:s.out.length<=100000):
 aB prog 135 [.pt W 0,i i0] st fun r st'=>∃ s',Hu g.es.length s i0=some s'/\sR g B W a nb lw tk s' st'/\KbB B st st':=by
 obtain⟨hl1,hl2,hl3⟩:=KO hi;have hcw:Hu g.es.length s i0=some { s with stk:=s.stk.take (jS s.stk i0),out:=s.out++[tQ g.es.length (s.stk.drop (jS s.stk i0))] }:=by unfold Hu;rw[aAj hi]
 rw[hcw];clear hcw;obtain⟨⟨tS,tB,CS,ea,hW,⟨hA,hAm⟩,hN,hL,⟨hS,hSt⟩,Y0,⟨n1,n2,n3⟩,⟨b1,b2,b3,b4⟩⟩,⟨c1,c2,c3,c4⟩,d1,d2,d3,d4⟩:=h;generalize hkk:jS s.stk i0=kl at *;obtain⟨P,hP⟩:∃ P,P=s.stk.drop kl:=⟨_,rfl⟩;rw[<- hP]at hsl X3 ⊢;have hPl:P.length=s.stk.length-kl:=by rw[hP,aAL]
 have hPe:P.length<=g.es.length:=by have:=aAy X3 (fun k hk=>aBi.2 (hsl k hk));rwa [aDx]at this
 have hCS:s.stk.length<=CS.length:=by have:=congrArg List.length hSt;rw[aAw,lE]at this;omega
 have hCd:∀ k,k<s.stk.length->CS.drop k=i ((s.stk.getD k 0:Nat):Int)::CS.drop (k+1):=fun k hk=>by
  have e1:CS=isN s.stk++CS.drop s.stk.length:=by rw[<- hSt];exact(aAz _ _).symm
  rw[aAN oO]
  congr 1
  have:CS[k]'(by omega)=(isN s.stk)[k]'(by simpa using hk):=by have h2:=List.getElem_of_eq hSt (i:=k) (by rw[aAw];omega);rw[aBK]at h2;exact h2
  rw[this];simp[isN,hk]
 have w1:=aU s.stk.length oO oO;have m1:¬W=tS:=bC hW hS sS;have m2:¬W=tB:=bC hW Y0 sS;have m3:¬tS=tB:=bC hS Y0 sS;have m4:¬W=a:=bC hW hA sS;have m5:¬W=nb:=bC hW hN sS;have m6:¬W=lw:=bC hW hL sS;have m7:¬a=tS:=bC hA hS sS;have m8:¬a=tB:=bC hA Y0 sS;have m9:¬nb=tS:=bC hN hS sS;have m10:¬nb=tB:=bC hN Y0 sS;have m11:¬lw=tS:=bC hL hS sS;have m12:¬lw=tB:=bC hL Y0 sS;refine zN func135 ntmps135 [] ?_;refine xw2 hW w1 ?_;refine qL (fun n fr st2=>∃ k:Nat,n=k/\st2=st/\fr 0=.pt W 0/\fr 1=i i0/\fr 4=i k/\kl<=k/\k<s.stk.length) (s.stk.length-1) ?_ ?_
 .exact⟨s.stk.length-1,rfl,rfl,sS,sS,sS,oO,oO⟩
 rintro k fr st2 ⟨_,rfl,Z5,f0,f1,f4,j7,u6⟩ JJ hJJ;rw[Z5];clear Z5 st2;have hd:=hCd k u6;have hkc:k<CS.length:=oO;by_cases hk:k=kl;rotate_left
 .have c7:=hl3 k oO u6;generalize s.stk.getD k 0=y at *;have hnb:((y:Int) != (i0:Int))=true:=by rw[bne_iff_ne];omega
  have w2:=aU k oO oO;refine Fx f0 f1 f4 hW hS hd hkc u6 hnb w2 ?_;exact hJJ (k-1) _ _ oO ⟨k-1,rfl,rfl,sF1 f0,sF1 f1,sS,oO,oO⟩
 clear hJJ;subst hk;rw[hl2]at hd;have hnb:((i0:Int) != (i0:Int))=false:=sS;refine xw9 f0 f1 f4 hW hS hd hkc u6 hnb ?_;rw[<- hPl];refine uN 5 36 3 sS ?_;have hel:=aK g.es;refine aY 32 31 33 46 (P.length) (fun j fr st2=>fr 0=.pt W 0/\fr 4=i k/\fr 30=.ms tS k P.length/\aA st st2/\∃ q,fr 5=.ms q 0 j/\st2.H q=.box 36 3 (eds ((P.take j).map (eAt g.es)))/\st.next<=q/\q<st2.next) ?_ ?_ ?_
 .refine⟨sF1 f0,sF1 f4,sF1 hPl,aA.new _ _,st.next,sS,by simp[eds],oO,sS⟩
 .clear f0 f1 f4 fr hd hnb;rintro j fr s1 dA ⟨g0,g4,g30,j8,q,g5,hq,hq1,S9⟩ fi fn JO hJO;have hW1:=(j8.H W d1).trans hW;have hS1:=(j8.H tS b3).trans hS;have O7:=hCd (k+j) oO;have hPd:s.stk.getD (k+j) 0=P.getD j 0:=by rw[hP,aAg,aAg,aDs]
  rw[hPd]at O7;have U3:P.getD j 0<g.es.length:=hsl _ (by rw[aAg,aAh dA];exact aAE _);have hde:=aR g.es _ U3;rw[Se dA]at hJO;have hql:(eds ((P.take j).map (eAt g.es))).length=j*3:=by rw[aK,aAD,aAw];congr 1;omega
  have hap:eds ((P.take j).map (eAt g.es)++[eAt g.es (P.getD j 0)])=eds ((P.take j).map (eAt g.es))++edL (eAt g.es (P.getD j 0)):=by simp[eds]
  rw[hap]at hJO;unfold eAt at hJO;generalize hpp:P.getD j 0=p0 at *;generalize eds ((P.take j).map (eAt g.es))=RR at *;generalize g.es.getD p0 ed0=x at *;obtain⟨xi,xa,xb⟩:=x;simp only[edL]at hJO;simp only at hde;have hkj:k+j<CS.length:=oO;have hp3:p0*3<g.es.length*3:=oO;have y1:¬q=s1.next:=oO;have y2:¬q=0:=oO
  (repeat' (first|apply qS|(refine zE ?_;intro J hJ;simp[g0,g4,g5,g30,fi,fn,hW1,hS1,O7,hde,dA,hq,hql,hkj,U3,hp3,hel,y1,y2];(repeat refine ca ?_);refine zJ hJ ?_)))
  refine hJO _ _ (sF1 fi) (sF1 fn) ⟨by simp[g0],sF1 g4,sF1 g30,?_,s1.next+1,sS,sS,oO,sS⟩
  (repeat (first|exact j8|(refine aA.trans ?_ (aA.new _ _))|(refine aA.set ?_ oO _)))
 .rintro fr s1 ⟨g0,g4,g30,j8,q,g5,hq,hq1,S9⟩;rw[aAU]at hq;have hW1:=(j8.H W d1).trans hW;have hS1:=(j8.H tS b3).trans hS;have P0:k<=s.stk.length:=oO;have M6:=j8.next;have y1:¬q=W:=oO
  (refine xj5 g0 g4 g5 hW1 P0 ?_;intro J hJ)
  refine qE (Yt hids P X3 hsl q _ oO (by simp;omega) (sF2 y1 hq)) sS ?_;rintro r s2 ⟨hq3,o6⟩;have O6:=o6.1;simp only[bH]at O6;have old:∀ x,x≠q->x≠W->x<st.next->s2.H x=st.H x:=fun x h1 h2 h3=>by rw[o6.2 x h1 (by simp;omega),bQ,aAa h2];exact j8.H x h3
  have hW2:=o6.2 W (fun e=>y1 e.symm) (by simp;omega);rw[bQ,aAj rfl]at hW2;have hB2:=(old tB oO (fun e=>m2 e.symm) b4).trans Y0;have hS2:=(old tS oO (fun e=>m1 e.symm) b3).trans hS;have hA2:=(old a oO (fun e=>m4 e.symm) d2).trans hA;have hN2:=(old nb oO (fun e=>m5 e.symm) d3).trans hN;have hL2:=(old lw oO (fun e=>m6 e.symm) d4).trans hL;have U4:=(xW X3 hsl).length_eq;have r8:(eds ((tQ g.es.length P).map (eAt g.es))).length=P.length*3:=by rw[aK,aAD,U4]
  (apply cI;simp[];refine zJ hJ ?_)
  refine tL 5 (l:=q) (n:=P.length) (sF1 g5) hq3 (aEf r8.symm) ?_;rw[aAu (aEf r8)];have hbL:(bkL g.es s.out).length=s.out.length:=Bl _ _;have z1:¬W=q:=fun e=>y1 e.symm;have z2:¬tB=q:=oO;have z3:¬W=s2.next:=oO;have z4:¬tB=s2.next:=oO;have z5:¬W=s2.next+1:=oO
  (repeat' (refine zE ?_;intro J hJ;simp[g0,hW2,hB2,m2,z1,z2,z3,z4,z5,hbL];(repeat refine ca ?_);refine zJ hJ ?_))
  have q1:¬a=q:=oO;have q2:¬nb=q:=oO;have q3:¬lw=q:=oO;have q4:¬tS=q:=oO;have q5:¬a=s2.next:=oO;have q6:¬nb=s2.next:=oO;have q7:¬lw=s2.next:=oO;have q8:¬tS=s2.next:=oO;have q9:¬a=s2.next+1:=oO;have q10:¬nb=s2.next+1:=oO;have q11:¬lw=s2.next+1:=oO;have q12:¬tS=s2.next+1:=oO;have q13:¬s2.next+1=W:=oO;have r1:¬a=W:=fun e=>m4 e.symm;have r2:¬nb=W:=fun e=>m5 e.symm;have r3:¬lw=W:=fun e=>m6 e.symm;have r4:¬tS=W:=fun e=>m1 e.symm;have hbk:bkL g.es (s.out++[tQ g.es.length P])=bkL g.es s.out++[.sl 0 P.length (eds ((tQ g.es.length P).map (eAt g.es)))]:=by unfold bkL;rw[aAv];simp[U4]
  have L0:(s.stk.take k).length=k:=by rw[aAw];omega
  refine⟨trivial,⟨⟨tS,s2.next+1,CS,ea,sF1 L0,⟨by simp[z1,z2,z3,z4,z5,q1,q2,q3,q4,q5,q6,q7,q8,q9,q10,q11,q12,q13,r1,r2,r3,r4,m2,m3,m8,m10,m12,hA2],hAm⟩,by simp[z1,z2,z3,z4,z5,q1,q2,q3,q4,q5,q6,q7,q8,q9,q10,q11,q12,q13,r1,r2,r3,r4,m2,m3,m8,m10,m12,hN2],by simp[z1,z2,z3,z4,z5,q1,q2,q3,q4,q5,q6,q7,q8,q9,q10,q11,q12,q13,r1,r2,r3,r4,m2,m3,m8,m10,m12,hL2],⟨by simp[z1,z2,z3,z4,z5,q1,q2,q3,q4,q5,q6,q7,q8,q9,q10,q11,q12,q13,r1,r2,r3,r4,m2,m3,m8,m10,m12,hS2],?_⟩,by simp[z1,z2,z3,z4,z5,q1,q2,q3,q4,q5,q6,q7,q8,q9,q10,q11,q12,q13,r1,r2,r3,r4,m2,m3,m8,m10,m12,hbk],⟨n1,n2,n3⟩,b1,oO,by simp;omega,sS⟩,⟨c1,c2,c3,c4⟩,by simp;omega,by simp;omega,by simp;omega,by simp;omega⟩,?_⟩
  .rw[L0,show CS.take k=(CS.take s.stk.length).take k by rw[aCh,aDm P0],hSt,Qi]
  .refine(((((KbB.mk oO fun x hx=>?_:KbB B st s2).set oO _).new ?_ _).set b2 _).new ?_ _).set c1 _
   .exact old x oO oO oO
   .simp;omega
   .simp;omega
theorem Dd{P:Program}{N:Nat}{Q:AQ}{k:List gO}{fr:Frm}{st:St}{x y:Code}(I:Frm->St->Prop)(h1:AWp P N x (AK P N (fun e f s=>e=.normal/\I f s) []) fr st)(h2:∀ fr st,I fr st->AWp P N y (AK P N Q k) fr st):
 AWp P N x (AK P N Q (.code y::k)) fr st:=by
 refine dD h1 ?_;rintro e c8 st' ⟨rfl,hI⟩;rw[jK];exact h2 _ _ hI
theorem MU{f:Bw->Nat->Option Bw}:∀(l:List Nat) (i:Nat) (s:Bw),goB f (l++[i]) s=(goB f l s).bind fun s'=>f s' i
 |[],i,s=>by show(f s i).bind (goB f [])=f s i;cases f s i<;>rfl
 |j::l,i,s=>by
  show(f s j).bind (goB f (l++[i]))=((f s j).bind (goB f l)).bind _;cases f s j with
  |none=>rfl
  |some s'=>exact MU l i s'
theorem An{P:List Nat}{n:Nat}(hn:P.Nodup)(h:∀ i∈P,i<n):P.length<=n:=by have:=aAy hn (l₂:=List.range n) fun i hi=>aBi.2 (h i hi);simpa using this
theorem zT:∀(N:List (List Nat)),(∀ B∈N,B≠[])->N.length<=N.flatten.length
 |[],_=>aAl _
 |B::N,h=>by have h1:=zT N fun B hB=>h B (aAc _ hB);have h2:=aBh.2 (h B sS);simp only[List.flatten_cons,aAn,List.length_cons];omega
theorem BLp.sz{g:Gr}{s0 s:Bw}{v z8:Int}{Q:List Nat}{D:List Int}{T:List Nat}{N:List (List Nat)}(h:BLp g s0 v z8 Q s D T N):T.length<=g.es.length/\N.length<=g.es.length:=by have hl:∀ i∈T++N.flatten,i<g.es.length:=fun i hi=>((h.pl i).1 hi).1;have h1:=An h.pn hl;have h2:=zT N fun B hB=>(h.good B hB).ne;rw[aAn]at h1;omega
def SzB(g:Gr)(s:Bw):Prop:=s.stk.length<=s.vis.length*(g.es.length+1)/\s.out.length<=s.vis.length*(g.es.length+1)
theorem SzB.child{g:Gr}{s0 s:Bw}{v z8:Int}{Q:List Nat}{D:List Int}{T:List Nat}{N:List (List Nat)}(h0:SzB g s0)(h:BLp g s0 v z8 Q s D T N):s.stk.length+1<=s.vis.length*(g.es.length+1)/\s.out.length<=s.vis.length*(g.es.length+1):=by
 obtain⟨h1,h2⟩:=h.sz;have h3:(s0.vis.length+1)*(g.es.length+1)<=s.vis.length*(g.es.length+1):=aCj _ (by rw[h.vis,aAn,List.length_cons];omega);rw[aCg,Nat.one_mul]at h3;have e1:s.stk.length=s0.stk.length+T.length:=by rw[h.stk,aAn]
 have e2:s.out.length=s0.out.length+N.length:=by rw[h.out,aAn]
 obtain⟨k1,k2⟩:=h0;omega
theorem CU{g:Gr}{s:Bw}(hv:g.vs.length<=100)(he:g.es.length<=200)(hnd:s.vis.Nodup)(hs:∀ w∈s.vis,w∈g.vs):s.vis.length<=100/\s.vis.length*(g.es.length+1)<=20100:=by have h1:s.vis.length<=g.vs.length:=aAy hnd hs;exact⟨oO,by have:=Nat.mul_le_mul (show s.vis.length<=100 by omega) (show g.es.length+1<=201 by omega);omega⟩
theorem sR.keeps{g:Gr}{B W a nb lw:Nat}{tk:Int->Nat}{s:Bw}{st st':St}(h:sR g B W a nb lw tk s st)(hk:aA st st'):sR g B W a nb lw tk s st':=by obtain⟨⟨tS,tB,CS,ea,hW,⟨hA,hAm⟩,hN,hL,⟨hS,hSt⟩,Y0,hn,⟨b1,b2,b3,b4⟩⟩,hc,d1,d2,d3,d4⟩:=h;have hx:=hk.next;exact⟨⟨tS,tB,CS,ea,(hk.H W d1).trans hW,⟨(hk.H a d2).trans hA,hAm⟩,(hk.H nb d3).trans hN,(hk.H lw d4).trans hL,⟨(hk.H tS b3).trans hS,hSt⟩,(hk.H tB b4).trans Y0,hn,b1,b2,oO,oO⟩,hc,oO,oO,oO,oO⟩
theorem WB{g:Gr}{B W a nb lw:Nat}{tk:Int->Nat}{s:Bw}{S:St}{tS tB:Nat}{CS:List LV}{ea:List (List Int×LV)}(i0:Nat)
 (hW:S.H W=.box 126 6 [.sl 0 g.es.length (eds g.es),.mp a,.mp nb,.mp lw,.ms tS 0 s.stk.length,.ms tB 0 s.out.length])
 (hA:S.H a=.map false [.u32] ea) (hAm:∀ v,bS ea [v]=if atP g.es v=[]then none else some (.sl (tk v) (atP g.es v).length (isN (atP g.es v))))
 (hN:S.H nb=.map false [.u32] (nbF 0 s.vis)) (hL:S.H lw=.map false [.u32] (lwF s.vis s.low)) (hS:S.H tS=.box 3 1 CS) (Y0:S.H tB=.box 23 1 (bkL g.es s.out))
 (hn:a≠nb/\a≠lw/\nb≠lw) (hb:B<=tS/\B<=tB/\tS<S.next/\tB<S.next) (hc:B<=W/\B<=a/\B<=nb/\B<=lw) (hd:W<S.next/\a<S.next/\nb<S.next/\lw<S.next) (o:cN):
 sR g B W a nb lw tk (eN s i0) ((((S.new o).set tS .dead).new (.box 3 1 (isN s.stk++[i (i0:Int)]))).set W (.box 126 6 [.sl 0 g.es.length (eds g.es),.mp a,.mp nb,.mp lw,.ms (S.next+1) 0 (s.stk.length+1),.ms tB 0 s.out.length]))/\
 KbB B S ((((S.new o).set tS .dead).new (.box 3 1 (isN s.stk++[i (i0:Int)]))).set W (.box 126 6 [.sl 0 g.es.length (eds g.es),.mp a,.mp nb,.mp lw,.ms (S.next+1) 0 (s.stk.length+1),.ms tB 0 s.out.length])):=by
 obtain⟨b1,b2,b3,b4⟩:=hb;obtain⟨c1,c2,c3,c4⟩:=hc;obtain⟨d1,d2,d3,d4⟩:=hd;have m1:¬a=W:=bC hA hW sS;have m2:¬nb=W:=bC hN hW sS;have m3:¬lw=W:=bC hL hW sS;have m4:¬tB=W:=bC Y0 hW sS;have m5:¬a=tS:=bC hA hS sS;have m6:¬nb=tS:=bC hN hS sS;have m7:¬lw=tS:=bC hL hS sS;have m8:¬tB=tS:=bC Y0 hS sS;have e1:¬a=S.next:=oO;have e2:¬nb=S.next:=oO;have e3:¬lw=S.next:=oO;have e4:¬tB=S.next:=oO;have e5:¬a=S.next+1:=oO;have e6:¬nb=S.next+1:=oO;have e7:¬lw=S.next+1:=oO;have e8:¬tB=S.next+1:=oO;have e9:¬S.next+1=W:=oO;have U3:(eN s i0).stk.length=s.stk.length+1:=by simp[eN]
 have hpn:isN (eN s i0).stk=isN s.stk++[i (i0:Int)]:=by simp[eN,isN]
 refine⟨⟨⟨S.next+1,tB,isN s.stk++[i (i0:Int)],ea,by rw[U3];simp[eN],⟨sF5 m1 m5 e1 e5 hA,hAm⟩,by simp[m2,m6,e2,e6,hN,eN],by simp[m3,m7,e3,e7,hL,eN],⟨sF1 e9,?_⟩,by simp[m4,m8,e4,e8,Y0,eN],hn,oO,b2,sS,by simp;omega⟩,⟨c1,c2,c3,c4⟩,by simp;omega,by simp;omega,by simp;omega,by simp;omega⟩,?_⟩
 .rw[U3,<- hpn,aAu];rw[lE,U3];exact aAl _
 .exact(((((KbB.refl B S).new oO _).set b1 _).new (by simp;omega) _).set c1 _)
theorem Bx{P:Program}{N:Nat}{Q:AQ}{c:Code}{fr:Frm}{st:St}(I:Frm->St->Prop)(h0:I fr st)(h:∀ fr st,I fr st->AWp P N c Q fr st):AWp P N c Q fr st:=h _ _ h0
theorem Re{g:Gr}{B W a nb lw:Nat}{tk:Int->Nat}{s:Bw}{T:St}(h:sR g B W a nb lw tk s T)(v x:Int):sR g B W a nb lw tk (nG s v x) (T.set lw (.map false [.u32] (lwF s.vis (s.low.set (s.vis.idxOf v) x)))):=by obtain⟨⟨tS,tB,CS,ea,hW,⟨hA,hAm⟩,hN,hL,⟨hS,hSt⟩,Y0,⟨n1,n2,n3⟩,⟨b1,b2,b3,b4⟩⟩,hc,d1,d2,d3,d4⟩:=h;have m1:¬W=lw:=bC hW hL sS;have m2:¬tS=lw:=bC hS hL sS;have m3:¬tB=lw:=bC Y0 hL sS;have m4:¬a=lw:=n2;have m5:¬nb=lw:=n3;exact⟨⟨tS,tB,CS,ea,by simp[m1,hW,nG],⟨sF2 m4 hA,hAm⟩,by simp[m5,hN,nG],by simp[nG],⟨sF2 m2 hS,hSt⟩,by simp[m3,Y0,nG],⟨n1,n2,n3⟩,b1,b2,by simpa using b3,by simpa using b4⟩,hc,by simpa using d1,by simpa using d2,by simpa using d3,by simpa using d4⟩
def VsI(g:Gr)(tk:Int->Nat)(hgo:Nat->Bw->Bw->Prop)(B W a nb lw:Nat)(s0:Bw)(v z8:Int)(st:St)(j:Nat)(fr:Frm)(st2:St):Prop:=
 fr 0=.pt W 0/\fr 1=u v/\fr 2=i z8/\fr 6=i ((s0.vis.length:Int)+1)/\fr 35=.sl (tk v) (atP g.es v).length (isN (atP g.es v))/\
 ∃ s D T N,hgo j s0 s/\BLp g s0 v z8 ((atP g.es v).take j) s D T N/\(∀ w∈s.vis,w∈g.vs)/\sR g B W a nb lw tk s st2/\KbB B st st2
theorem We(g:Gr)(hg:GoodE g)(B W a nb lw:Nat)(tk:Int->Nat)(hv:g.vs.length<=100)(he:g.es.length<=200):∀(n:Nat) (A:Int->Prop) (s:Bw) (v z8:Int) (st:St),zO g A s v z8->v∈g.vs->(∀ w∈s.vis,w∈g.vs)->g.vs.length<=n+s.vis.length->SzB g s->sR g B W a nb lw tk s st->
 aB prog 97 [.pt W 0,u v,i z8] st fun r st'=>∃ s1,oU g.es n v z8 s=some s1/\sR g B W a nb lw tk s1 st'/\KbB B st st':=by
 intro n;induction n with
 |zero=>intro A s v z8 st h hvv hs hn _ _;obtain⟨s1,C,T,N,e,_⟩:=Ep hg 0 A s v z8 h hvv hs hn;cases e
 |succ n ih=>
  intro A s0 v z8 st h0 hvv hs hn U0 hbw;obtain⟨hvl,hsb⟩:=CU hv he h0.nd hs;obtain⟨⟨tS,tB,CS,ea,hW,⟨hA,hAm⟩,hN,hL,⟨hS,hSt⟩,Y0,⟨n1,n2,n3⟩,⟨b1,b2,b3,b4⟩⟩,⟨c1,c2,c3,c4⟩,d1,d2,d3,d4⟩:=hbw;have m4:¬W=a:=bC hW hA sS;have m5:¬W=nb:=bC hW hN sS;have m6:¬W=lw:=bC hW hL sS;have r9:=Jy s0.vis 0;have hms:=VJ h0.new;have Q7:=yF s0.vis s0.low v ((s0.vis.length:Int)+1) h0.ln h0.new;have hav:=hAm v;have w1:IntKind.i64.wrap ((s0.vis.length:Int)+1)=(s0.vis.length:Int)+1:=zW;have r1:¬a=nb:=n1;have r2:¬a=lw:=n2;have r3:¬nb=lw:=n3;have r4:¬lw=nb:=fun e=>n3 e.symm;refine zN func97 ntmps97 [] ?_;have hbs:=h0.start;have hstS:(pM s0 v).stk=s0.stk:=rfl;have hb0:sR g B W a nb lw tk (pM s0 v) ((st.set nb (.map false [.u32] (nbF 0 (s0.vis++[v])))).set lw (.map false [.u32] (lwF (s0.vis++[v]) (s0.low++[(s0.vis.length:Int)+1])))):=by have q1:¬W=nb:=m5;have q2:¬tS=nb:=bC hS hN sS;have q3:¬tS=lw:=bC hS hL sS;have q4:¬tB=nb:=bC Y0 hN sS;have q5:¬tB=lw:=bC Y0 hL sS;exact⟨⟨tS,tB,CS,ea,by simp[m5,m6,hW,pM],⟨sF3 r1 r2 hA,hAm⟩,by simp[r3,pM],by simp[pM],⟨sF3 q2 q3 hS,hSt⟩,by simp[q4,q5,Y0,pM],⟨n1,n2,n3⟩,b1,b2,by simpa using b3,by simpa using b4⟩,⟨c1,c2,c3,c4⟩,by simpa using d1,by simpa using d2,by simpa using d3,by simpa using d4⟩
  have S7:KbB B st ((st.set nb (.map false [.u32] (nbF 0 (s0.vis++[v])))).set lw (.map false [.u32] (lwF (s0.vis++[v]) (s0.low++[(s0.vis.length:Int)+1])))):=((KbB.refl B st).set c3 _).set c4 _;have hv0:∀ w∈(pM s0 v).vis,w∈g.vs:=fun w hw=>by
   have hw:w∈s0.vis++[v]:=hw;rcases aAd.1 hw with k|k
   .exact hs w k
   .rw[aAk]at k;rw[k];exact hvv
  by_cases W9:atP g.es v=[]
  .rw[aAj W9]at hav;have hvis:oU g.es (n+1) v z8 s0=some (pM s0 v):=by unfold oU;rw[W9];rfl
   refine RU hW hN hL hA m4 m5 m6 r9 hms Q7 hav w1 r1 r2 r3 r4 ?_;refine aY 37 36 38 137 (0) (fun j fr st2=>st2=(st.set nb (.map false [.u32] (nbF 0 (s0.vis++[v])))).set lw (.map false [.u32] (lwF (s0.vis++[v]) (s0.low++[(s0.vis.length:Int)+1])))) ?_ ?_ ?_
   .rfl
   .intro j fr s dA;omega
   .rintro fr s hs2;rw[hs2];refine xw0 ?_;exact⟨trivial,_,hvis,hb0,S7⟩
  .rw[aAa W9]at hav;have hnd:(atP g.es v).Nodup:=aCJ _ aDG;have hatl:(atP g.es v).length<=g.es.length:=An hnd fun i hi=>(aP.1 hi).1;refine RU hW hN hL hA m4 m5 m6 r9 hms Q7 hav w1 r1 r2 r3 r4 ?_;clear hW hN hL hA hAm hS hSt Y0 r9 hms Q7 hav m4 m5 m6 r1 r2 r3 r4 n1 n2 n3 b1 b2 b3 b4 d1 d2 d3 d4;refine aY 37 36 38 137 ((atP g.es v).length) (fun j fr st2=>VsI g tk (fun j s' s=>goB (hU (oU g.es n) g.es v z8 ((s0.vis.length:Int)+1)) ((atP g.es v).take j) (pM s' v)=some s) B W a nb lw s0 v z8 st j fr st2) ?_ ?_ ?_
   .exact⟨sS,sS,sS,sS,sS,pM s0 v,[],[],[],rfl,hbs,hv0,hb0,S7⟩
   .rintro j fr s1 dA ⟨f0,f1,f2,f6,f35,s,D,T,N,hgo,U4,hsv,hbw,hkb⟩ fi fn JO hJO;have hgt:(atP g.es v).getD j 0=(atP g.es v)[j]:=by rw[aAg,aAh dA];rfl
    have L0:(atP g.es v).take (j+1)=(atP g.es v).take j++[(atP g.es v).getD j 0]:=by rw[aAp dA,hgt]
    have hi:(atP g.es v).getD j 0∈atP g.es v:=by rw[hgt];exact aAE _
    have hiQ:(atP g.es v).getD j 0∉(atP g.es v).take j:=fun k=>by have h1:=hnd;rw[<- aAz (j+1) (atP g.es v),L0,aAF,aAo]at h1;exact h1.2.2 _ k _ sS rfl
    have hd:=RS (atP g.es v) j dA;generalize (atP g.es v).getD j 0=i0 at *;obtain⟨hil,hie⟩:=aP.1 hi;have next:∀ s2,hU (oU g.es n) g.es v z8 ((s0.vis.length:Int)+1) s i0=some s2->goB (hU (oU g.es n) g.es v z8 ((s0.vis.length:Int)+1)) ((atP g.es v).take (j+1)) (pM s0 v)=some s2:=fun s2 e=>by rw[L0,MU,hgo];exact e
    by_cases hb:(i0:Int)=z8
    .have hbb:((i0:Int)==z8)=true:=by simpa using hb
     refine xw8 f0 f2 f35 fi fn hd dA hbb ?_;exact hJO _ _ (sF1 fi) (sF1 fn) ⟨sF1 f0,sF1 f1,sF1 f2,sF1 f6,sF1 f35,s,D,T,N,next s (by unfold hU;rw[aAj hb]),by rw[L0];exact U4.same hg h0 hi hb,hsv,hbw,hkb⟩
    have hbb:((i0:Int)==z8)=false:=by simpa using hb
    have hbw':=hbw;obtain⟨⟨tS,tB,CS,ea,hW,⟨hA,hAm⟩,hN,hL,⟨hS,hSt⟩,Y0,⟨n1,n2,n3⟩,⟨b1,b2,b3,b4⟩⟩,-,d1,d2,d3,d4⟩:=hbw';have hde:=aR g.es i0 hil;have hel:=aK g.es;have hi3:i0*3<g.es.length*3:=oO;have y1:¬W=s1.next:=oO;have y2:¬nb=s1.next:=oO;have y3:¬lw=s1.next:=oO;have y4:¬tS=s1.next:=oO;have y5:¬a=s1.next:=oO;have y6:¬tB=s1.next:=oO;obtain⟨w,hw⟩:∃ w,w=oth (eAt g.es i0) v:=⟨_,rfl⟩;have W0:w=if(g.es.getD i0 ed0).a=v then(g.es.getD i0 ed0).b else(g.es.getD i0 ed0).a:=hw
    (repeat (apply qS));(refine zE ?_;intro J hJ;simp[f35,fi,fn,hd,dA];(refine zJ hJ ?_;clear hJ J))
    (repeat (apply qS));(refine zE ?_;intro J hJ;simp[f2];(refine zJ hJ ?_;clear hJ J))
    (apply qC;simp[hbb])
    refine qK (zZ ?_)
    (repeat (apply qS));(refine zE ?_;intro J hJ;simp[f0,hW,hde,hil,hi3,hel];(refine zJ hJ ?_;clear hJ J))
    (repeat (apply qS));(refine zE ?_;intro J hJ;simp[];(refine zJ hJ ?_;clear hJ J))
    apply qS;refine Dd (fun f T=>f 0=.pt W 0/\f 1=u v/\f 2=i z8/\f 6=i ((s0.vis.length:Int)+1)/\f 35=.sl (tk v) (atP g.es v).length (isN (atP g.es v))/\f 36=i (atP g.es v).length/\f 37=i j/\f 8=i i0/\f 10=u w/\∃ o,T=s1.new o) ?_ ?_
    .have hxg:g.es.getD i0 ed0=g.es[i0]:=eJ _ _ hil;rw[hxg]at W0;by_cases hxa:g.es[i0].a=v
     .have hxb:(g.es[i0].a==v)=true:=by simpa using hxa
      rw[aAj hxa]at W0;refine xw3 f0 f1 hxb ?_;exact⟨trivial,sF1 f0,sF1 f1,sF1 f2,sF1 f6,sF1 f35,sF1 fn,sF1 fi,sS,by rw[W0];simp,_,rfl⟩
     .have hxb:(g.es[i0].a==v)=false:=by simpa using hxa
      rw[aAa hxa]at W0;refine xw3 f0 f1 hxb ?_;exact⟨trivial,sF1 f0,sF1 f1,sF1 f2,sF1 f6,sF1 f35,sF1 fn,sF1 fi,sS,by rw[W0];simp,_,rfl⟩
    clear f0 f1 f2 f6 f35 fi fn hd hde W0 fr;rintro fr T ⟨f0,f1,f2,f6,f35,f36,f37,f8,f10,o,hT⟩;rw[hT];clear hT T;subst hw;have hW':=(show(s1.new o).H W=s1.H W by rw[bY,aAa y1]).trans hW;have hN':=(show(s1.new o).H nb=s1.H nb by rw[bY,aAa y2]).trans hN;have hL':=(show(s1.new o).H lw=s1.H lw by rw[bY,aAa y3]).trans hL;have hS':=(show(s1.new o).H tS=s1.H tS by rw[bY,aAa y4]).trans hS;have hA':=(show(s1.new o).H a=s1.H a by rw[bY,aAa y5]).trans hA;have hB':=(show(s1.new o).H tB=s1.H tB by rw[bY,aAa y6]).trans Y0;have hbT:sR g B W a nb lw tk s (s1.new o):=hbw.keeps (aA.new _ _);have hkT:KbB B st (s1.new o):=hkb.new oO o;have hTn:(s1.new o).next=s1.next+1:=aG _ _;generalize s1.new o=T1 at *;obtain⟨szp,szo⟩:=U0.child U4;obtain⟨vl,sb⟩:=CU hv he U4.nd hsv;have hm:=MI s.vis (oth (eAt g.es i0) v);have m5:¬W=nb:=bC hW hN sS;have m6:¬W=lw:=bC hW hL sS;have m1:¬W=tS:=bC hW hS sS;have hCS:s.stk.length<=CS.length:=by have:=congrArg List.length hSt;rw[aAw,lE]at this;omega
    have t1:¬W=T1.next:=oO;have t2:¬W=T1.next+1:=oO;have t3:¬tS=T1.next:=oO;obtain⟨hpb,hpk⟩:=WB i0 hW' hA' hAm hN' hL' hS' hB' ⟨n1,n2,n3⟩ ⟨b1,b2,oO,oO⟩ ⟨c1,c2,c3,c4⟩ ⟨oO,oO,oO,oO⟩ (.own 3 1 1);by_cases j5:oth (eAt g.es i0) v∈s.vis
    .rw[aAj j5]at hm;have N6:1<=nmW s.vis (oth (eAt g.es i0) v):=by unfold nmW;rw[aAj j5];omega
     by_cases hnm:nmW s.vis (oth (eAt g.es i0) v)<(s0.vis.length:Int)+1
     .have hback:=U4.back hg h0 hi hiQ hb j5 hnm;have D3:hU (oU g.es n) g.es v z8 ((s0.vis.length:Int)+1) s i0=some (nG (eN s i0) v (min (lwW s v) (nmW s.vis (oth (eAt g.es i0) v)))):=by unfold hU;rw[aAa hb,aAj j5,aAj hnm]
      generalize oth (eAt g.es i0) v=w at *;generalize nmW s.vis w=z at *;have hzb:(z==0)=false:=by rw[aDl];omega
      have hz0:¬z=0:=oO
      (repeat' (first|apply qS|apply qB|(apply qC;simp[f0,f1,f6,f8,f10,hW',hN',hm,hzb,hz0,hnm,hS',hSt,hCS,m1,t1,t2,t3])|(refine zE ?_;intro J hJ;simp[f0,f1,f6,f8,f10,hW',hN',hm,hzb,hz0,hnm,hS',hSt,hCS,m1,t1,t2,t3];(repeat refine ca ?_);(refine zJ hJ ?_;clear hJ J))))
      refine Bx (fun f T2=>f 0=.pt W 0/\f 1=u v/\f 2=i z8/\f 6=i ((s0.vis.length:Int)+1)/\f 35=.sl (tk v) (atP g.es v).length (isN (atP g.es v))/\f 36=i (atP g.es v).length/\f 37=i j/\f 11=i z/\sR g B W a nb lw tk (eN s i0) T2/\KbB B T1 T2) ⟨sF1 f0,sF1 f1,sF1 f2,sF1 f6,sF1 f35,sF1 f36,sF1 f37,sS,hpb,hpk⟩ ?_;clear f0 f1 f2 f6 f35 f36 f37 f8 f10 hpb hpk fr;rintro fr T2 ⟨f0,f1,f2,f6,f35,f36,f37,f11,Y8,u6⟩;have Z6:=Re Y8 v (min (lwW s v) z);have Q7:=vD s.vis s.low v U4.ln (U4.v_in hg h0);have hmo:=qY s.vis s.low v (min (lwW s v) z) U4.ln (U4.v_in hg h0);obtain⟨⟨tS2,tB2,CS2,ea2,jW,-,-,jL,-,-,-,-⟩,-,-⟩:=Y8;have jm6:¬W=lw:=bC jW jL sS;have jL:T2.H lw=.map false [.u32] (lwF s.vis s.low):=jL;have Q7:bS (lwF s.vis s.low) [v]=some (i (lwW s v)):=Q7
      (refine zS [] [W,lw] [0,2,4,6,8,10,12,14,16,18,20,22,24,27] ?_;intro J hJ;simp[f0,f1,f11,jW,jL,Q7,hmo];(refine zJ hJ ?_;clear hJ J))
      have N7:(if z<lwW s v then z else lwW s v)=min (lwW s v) z:=by split<;>omega
      rw[N7,show bV (lwF s.vis s.low) [v] (LV.atom (Value.int IntKind.i64 (min (lwW s v) z)))=_ from hmo];exact hJO _ _ (sF1 f37) (sF1 f36) ⟨sF1 f0,sF1 f1,sF1 f2,sF1 f6,sF1 f35,_,D,T++[i0],N,next _ D3,by rw[L0];exact hback,hsv,Z6,(hkT.trans u6).set c4 _⟩
     .have hskip:=U4.skip hg h0 hi j5 hnm;have D3:hU (oU g.es n) g.es v z8 ((s0.vis.length:Int)+1) s i0=some s:=by unfold hU;rw[aAa hb,aAj j5,aAa hnm]
      generalize oth (eAt g.es i0) v=w at *;generalize nmW s.vis w=z at *;have hzb:(z==0)=false:=by rw[aDl];omega
      have hz0:¬z=0:=oO;refine Fx f0 f1 f6 f10 hW' hN' hm hzb hz0 hnm ?_;exact hJO _ _ (sF1 f37) (sF1 f36) ⟨sF1 f0,sF1 f1,sF1 f2,sF1 f6,sF1 f35,s,D,T,N,next s D3,by rw[L0];exact hskip,hsv,hbT,hkT⟩
    .rw[aAa j5]at hm;have hpre:=U4.pre hg h0 hi j5;have W8:=fun s1 C T' N' hp=>U4.child hg h0 hi hiQ hb j5 (s1:=s1) (C:=C) (T':=T') (N':=N') hp;have hwv:oth (eAt g.es i0) v∈g.vs:=hg.nbr (mG hi);have hwne:=tZ hg hi;have D3:hU (oU g.es n) g.es v z8 ((s0.vis.length:Int)+1) s i0=(oU g.es n (oth (eAt g.es i0) v) i0 (eN s i0)).bind (OA g.es.length v ((s0.vis.length:Int)+1) i0 (oth (eAt g.es i0) v)):=by unfold hU;rw[aAa hb,aAa j5]
     generalize oth (eAt g.es i0) v=w at *
     (repeat' (first|apply qS|apply qB|(apply qC;simp[f0,f1,f6,f8,f10,hW',hN',hm,hS',hSt,hCS,m1,t1,t2,t3])|(refine zE ?_;intro J hJ;simp[f0,f1,f6,f8,f10,hW',hN',hm,hS',hSt,hCS,m1,t1,t2,t3];(repeat refine ca ?_);(try (refine zJ hJ ?_;clear hJ J)))))
     have hlen:s.vis.length=s0.vis.length+1+D.length:=by rw[U4.vis,aAn,List.length_cons];omega
     refine qE (ih _ (eN s i0) w i0 _ hpre hwv hsv (by show g.vs.length<=n+s.vis.length;omega) ⟨by simpa[eN]using szp,szo⟩ hpb) sS ?_;rintro r T2 ⟨s2,hvis,X6,u6⟩;obtain⟨s2',C,T',N',hvis',hp,hC⟩:=Ep hg n _ (eN s i0) w i0 hpre hwv hsv (by show g.vs.length<=n+s.vis.length;omega);obtain rfl:s2=s2':=by rw[hvis]at hvis';exact aBn hvis'
     clear hvis';obtain⟨s3,D2,T3,N2,hlo,hbl3⟩:=W8 s2 C T' N' hp;have hst3:hU (oU g.es n) g.es v z8 ((s0.vis.length:Int)+1) s i0=some s3:=by rw[D3,hvis];exact hlo
     have hkT2:KbB B st T2:=(hkT.trans hpk).trans u6;have hvs:v∈s.vis:=U4.v_in hg h0;have hvs2:v∈s2.vis:=by rw[hp.vis];exact aAr _ hvs
     have hws2:w∈s2.vis:=by rw[hp.vis];exact aAx _ hp.hd
     have hs2v:∀ x∈s2.vis,x∈g.vs:=fun x hx=>by rw[hp.vis,aAd]at hx;exact hx.elim (hsv x) (hC x)
     have hmv:bS (lwF s2.vis s2.low) [v]=some (i (lwW s2 v)):=vD s2.vis s2.low v hp.ln hvs2;have hmw:bS (lwF s2.vis s2.low) [w]=some (i (lwW s2 w)):=vD s2.vis s2.low w hp.ln hws2;have hmo:=qY s2.vis s2.low v (min (lwW s2 v) (lwW s2 w)) hp.ln hvs2;have Z6:=Re X6 v (min (lwW s2 v) (lwW s2 w));have hmw3:bS (lwF s2.vis (s2.low.set (s2.vis.idxOf v) (min (lwW s2 v) (lwW s2 w)))) [w]=some (i (lwW s2 w)):=by have h1:=vD s2.vis (s2.low.set (s2.vis.idxOf v) (min (lwW s2 v) (lwW s2 w))) w (by rw[aCU];exact hp.ln) hws2;have h2:=GV (x:=min (lwW s2 v) (lwW s2 w)) hp.ln hvs2 hws2;rw[aAa hwne]at h2;rw[h1];exact congrArg (fun y=>some (i y)) h2
     obtain⟨⟨tS2,tB2,CS2,ea2,jW,-,-,jL,-,-,-,-⟩,-,-⟩:=X6;have jm6:¬W=lw:=bC jW jL sS;have N7:(if lwW s2 w<lwW s2 v then lwW s2 w else lwW s2 v)=min (lwW s2 v) (lwW s2 w):=by split<;>omega
     (apply cI;simp[];(refine zJ hJ ?_;clear hJ J))
     (repeat (apply qS));(refine zS [] [W,lw] [0,2,4,6,8,10,12,14,16,18,20,22,24,26,28,30,32,34,37] ?_;intro J hJ;simp[f0,f1,f10,jW,jL,hmv,hmw];(refine zJ hJ ?_;clear hJ J))
     rw[N7,show bV (lwF s2.vis s2.low) [v] (LV.atom (Value.int IntKind.i64 (min (lwW s2 v) (lwW s2 w))))=_ from hmo];have hW3:(T2.set lw (.map false [.u32] (lwF s2.vis (s2.low.set (s2.vis.idxOf v) (min (lwW s2 v) (lwW s2 w)))))).H W=T2.H W:=by rw[bQ,aAa jm6]
     unfold OA at hlo;by_cases hc:(s0.vis.length:Int)+1<=lwW s2 w
     .rw[aAj hc]at hlo;have hstk:s2.stk=s.stk++i0::T':=by rw[hp.stk];show(s.stk++[i0])++T'=_;simp
      have hiT:i0∉T':=fun k=>((hp.pl i0).1 (aAr _ k)).2.1 rfl;have hTn:=(aAo.1 hp.pn).1;have hTl:∀ k∈T',k<g.es.length:=fun k hk=>((hp.pl k).1 (aAr _ hk)).1;have hTlen:=An hTn hTl;have hNl:=zT N' fun B hB=>(hp.good B hB).ne;have hNf:=An (aAo.1 hp.pn).2.1 fun k hk=>((hp.pl k).1 (aAx _ hk)).1;have ho2:s2.out.length=s.out.length+N'.length:=by rw[hp.out,aAn];rfl
      have hk2l:s2.stk.length=s.stk.length+1+T'.length:=by rw[hstk,aAn,List.length_cons];omega
      have hlp:jS s2.stk i0=s.stk.length:=by rw[hstk];exact xL hiT
      have hdrop:s2.stk.drop (jS s2.stk i0)=i0::T':=by rw[hlp,hstk,aDc]
      have L3:=H8 g hg.ids B W a nb lw tk (nG s2 v (min (lwW s2 v) (lwW s2 w))) i0 _ Z6 (by show i0∈s2.stk;rw[hstk];simp)
       (by show ∀ k∈s2.stk.drop (jS s2.stk i0),k<g.es.length
           rw[hdrop];intro k hk;rcases aAe.1 hk with e|e
           .rw[e];exact hil
           .exact hTl k e)
       (by show(s2.stk.drop (jS s2.stk i0)).Nodup
           rw[hdrop];exact aAq.2 ⟨hiT,hTn⟩) oO (by show s2.stk.length<=60000;omega) (by show s2.out.length<=100000;omega)
      (refine xj8 f0 f6 f8 f10 jW jm6 hmw3 hc ?_;intro J hJ)
      refine qE L3 sS ?_;rintro r T4 ⟨s4,hcw,hb4,M7⟩;obtain rfl:s4=s3:=by rw[hcw]at hlo;exact aBn hlo
      have hv4:s4.vis=s2.vis:=by
       unfold Hu at hcw
       split at hcw
       .cases hcw;rfl
       .cases hcw
      refine dQ hJ ?_;exact hJO _ _ (sF1 f37) (sF1 f36) ⟨sF1 f0,sF1 f1,sF1 f2,sF1 f6,sF1 f35,_,D2,T3,N2,next _ hst3,by rw[L0];exact hbl3,fun x hx=>hs2v x (by rw[<- hv4];exact hx),hb4,(hkT2.set c4 _).trans M7⟩
     .rw[aAa hc]at hlo;obtain rfl:=aBn hlo;refine xw7 f0 f6 f10 jW jm6 hmw3 hc ?_;exact hJO _ _ (sF1 f37) (sF1 f36) ⟨sF1 f0,sF1 f1,sF1 f2,sF1 f6,sF1 f35,_,D2,T3,N2,next _ hst3,by rw[L0];exact hbl3,hs2v,Z6,hkT2.set c4 _⟩
   .rintro fr s1 ⟨f0,f1,f2,f6,f35,s,D,T,N,hgo,U4,hsv,hbw,hkb⟩;rw[aAU]at hgo;refine xw0 ?_;exact⟨trivial,s,hgo,hbw,hkb⟩
theorem TK{P:Program}{N:Nat}{Q:AQ}{k:List gO}{fr:Frm}{st:St}{x:Code}(I:Frm->St->Prop)(h1:AWp P N x (AK P N (fun e f s=>e=.normal/\I f s) []) fr st)(h2:∀ fr st,I fr st->AK P N Q k .normal fr st):
 AWp P N x (AK P N Q k) fr st:=by
 refine dD h1 ?_;rintro e c8 st' ⟨rfl,hI⟩;exact h2 _ _ hI
theorem DL{P:Program}{N:Nat}{Q:AQ}{fr:Frm}{st:St}{c:Code}(q e' s':Nat){e s:Nat}(pre post:List LV)(hH:st.H q=.box e s (pre++.nil::post))
 (h:AWp P N c Q fr ((st.new (.box e' s' [])).set q (.box e s (pre++.ms st.next 0 0::post)))):AWp P N c Q fr st:=by
 refine jA (fun a w g hi hr _=>?_) h;have he:=ext_nil w g;have h1:Inv w g.addNil (st.new (.box e' s' [])):=jH hi _ (.inr ⟨e',s',rfl⟩);have dA:q<st.next:=BN hi hH sS;refine⟨g.addNil,Bo h1 (cs:=pre++.nil::post) (by rw[bY,aAa oO];exact hH) sS (fun vs hv=>?_),hr.mono he,he⟩;obtain⟨v,k1,k2⟩:=nD pre vs hv;refine k2 g.addNil _ (Ext.refl _ _) ?_;simp only[Rep]at k1 ⊢;exact⟨none,0,k1,aAl _,aBI _,fun _=>by simp[G.addNil,hi.next],fun h=>absurd rfl h,by simp[G.addNil,hi.next]⟩
structure AtR(lo:Nat)(ρ:Int->List Nat)(ea:List (List Int×LV))(tk:Int->Nat)(st:St):Prop where
 get:∀ v,bS ea [v]=if ρ v=[]then none else some (.sl (tk v) (ρ v).length (isN (ρ v)))
 own:∀ v,ρ v≠[]->st.H (tk v)=.own 3 1 (ρ v).length/\(tk v≠0/\lo<=tk v/\tk v<st.next)
 inj:∀ v w,ρ v≠[]->ρ w≠[]->tk v=tk w->v=w
def mW(ρ:Int->List Nat)(v:Int)(k:Nat):Int->List Nat:=fun w=>if w=v then ρ v++[k]else ρ w
theorem AtR.put{lo:Nat}{ρ:Int->List Nat}{ea:List (List Int×LV)}{tk:Int->Nat}{st st':St}(h:AtR lo ρ ea tk st)(v:Int)(k:Nat){t n:Nat}(hn:n=(ρ v).length+1)(ht:st.next<=t/\t<st'.next/\t≠0/\lo<=t)(hH:st'.H t=.own 3 1 n)
 (ho:∀ w,w≠v->ρ w≠[]->st'.H (tk w)=st.H (tk w)) (hl:st.next<=st'.next):AtR lo (mW ρ v k) (bV ea [v] (.sl t n (isN (ρ v)++[i (k:Int)]))) (fun w=>if w=v then t else tk w) st' where
 get:=fun w=>by
  rw[sH];unfold mW;by_cases e:w=v
  .subst e;rw[aAj rfl,aAj rfl,aAj rfl,aAa sS,hn];simp[isN]
  .rw[aAa (by simpa using e),aAa e,aAa e];exact h.get w
 own:=fun w hw=>by
  unfold mW at hw ⊢;by_cases e:w=v
  .rw[aAj e,aAj e];exact⟨by rw[hH,hn];simp,ht.2.2.1,ht.2.2.2,ht.2.1⟩
  .rw[aAa e]at hw;rw[aAa e,aAa e];obtain⟨h1,h2,h3,h4⟩:=h.own w hw;exact⟨by rw[ho w e hw];exact h1,h2,h3,oO⟩
 inj:=fun x y hx hy he=>by
  unfold mW at hx hy;by_cases e1:x=v
  .by_cases e2:y=v
   .rw[e1,e2]
   .rw[aAa e2]at hy;simp only[aAj e1,aAa e2]at he;have:=(h.own y hy).2.2.2;omega
  .rw[aAa e1]at hx;by_cases e2:y=v
   .simp only[aAa e1,aAj e2]at he;have:=(h.own x hx).2.2.2;omega
   .rw[aAa e2]at hy;simp only[aAa e1,aAa e2]at he;exact h.inj x y hx hy he
theorem AtR.keeps{lo:Nat}{ρ:Int->List Nat}{ea:List (List Int×LV)}{tk:Int->Nat}{st st':St}(h:AtR lo ρ ea tk st)(hk:aA st st'):AtR lo ρ ea tk st':=
 ⟨h.get,fun v hv=>by obtain⟨h1,h2,h3,h4⟩:=h.own v hv;exact⟨by rw[hk.H _ h4];exact h1,h2,h3,by have:=hk.next;omega⟩,h.inj⟩
def atK(es:List Ed)(k:Nat)(v:Int):List Nat:=(List.range k).filter fun i=>decide ((eAt es i).a=v\/(eAt es i).b=v)
theorem QG{es:List Ed}{k:Nat}(c7:(eAt es k).a≠(eAt es k).b):atK es (k+1)=mW (mW (atK es k) (eAt es k).a k) (eAt es k).b k:=by
 funext v
 unfold atK mW;rw[aDM,aCR];by_cases hb:v=(eAt es k).b
 .subst hb;rw[aAj rfl,aAa (fun e=>c7 e.symm)];simp
 .rw[aAa hb];by_cases ha:v=(eAt es k).a
  .subst ha;simp
  .rw[aAa ha];have:¬((eAt es k).a=v\/(eAt es k).b=v):=oO;rw[aDH,aAa (by simpa using this)];simp
def AtI(g:Gr)(p:Nat)(st:St)(ρ:Int->List Nat)(s:St):Prop:=s.H p=.box 25 2 (grL g)/\s.H (p+4)=.box 126 6 [.sl 0 g.es.length (eds g.es),.mp (p+1),.mp (p+2),.mp (p+3),.ms (p+5) 0 0,.ms (p+6) 0 0]/\s.H (p+2)=.map false [.u32] []/\s.H (p+3)=.map false [.u32] []/\s.H (p+5)=.box 3 1 []/\s.H (p+6)=.box 23 1 []/\p+7<=s.next/\aA st s/\
 ∃ ea tk,s.H (p+1)=.map false [.u32] ea/\AtR (p+7) ρ ea tk s
theorem Bt{es:List Ed}{n:Nat}:∀(l:List Int) (v:Int) (s:Bw),uC es n (l++[v]) s=(uC es n l s).bind fun s'=>uC es n [v] s'
 |[],v,s=>rfl
 |w::l,v,s=>by
  simp only[List.cons_append,uC]
  split
  .exact Bt l v s
  .cases oU es n w (-1) s with
   |none=>rfl
   |some s'=>exact Bt l v s'
theorem Jl.sz{g:Gr}{s:Bw}(h:Jl g s):SzB g s:=by
 have h1:=zT s.out fun B hB=>(h.good B hB).ne;have h2:=An h.pn fun i hi=>((h.pl i).1 hi).1;unfold SzB;rw[h.stk];refine⟨aBI _,?_⟩;cases hv:s.vis with
 |nil=>
  have:s.out.flatten=[]:=aBZ.2 fun i hi=>by have:=((h.pl i).1 hi).2;rw[hv]at this;cases this
  rw[this]at h1;rw[List.length_nil,aEJ];exact h1
 |cons w V=>rw[List.length_cons,aCg];omega
theorem AtI.keeps{g:Gr}{p:Nat}{st:St}{ρ:Int->List Nat}{s s':St}(h:AtI g p st ρ s)(hk:aA s s'):AtI g p st ρ s':=by obtain⟨h0,h1,h2,h3,h4,h5,h6,h7,ea,tk,h8,h9⟩:=h;have:=hk.next;exact⟨(hk.H _ oO).trans h0,(hk.H _ oO).trans h1,(hk.H _ oO).trans h2,(hk.H _ oO).trans h3,(hk.H _ oO).trans h4,(hk.H _ oO).trans h5,oO,h7.trans hk,ea,tk,(hk.H _ oO).trans h8,h9.keeps hk⟩
theorem Il:∀ {out:List (List Nat)},(∀ B∈out,B≠[])->out.length<=out.flatten.length
 |[],_=>by simp
 |B::out,h=>by have h1:=Il (out:=out) fun B hB=>h B (aAc _ hB);have h2:=aBh.2 (h B sS);simp only[List.length_cons,List.flatten_cons,aAn];omega
theorem UL{es:List Ed}{out:List (List Nat)}(hall:∀ i,i∈out.flatten↔i<es.length)(U6:∀ B∈out,dS es B)(hnd:out.flatten.Nodup):out.length<=es.length:=by have h1:=Il fun B hB=>(U6 B hB).ne;have h2:=aAy hnd fun k hk=>aBi.2 ((hall k).1 hk);rw[aDx]at h2;omega
theorem VR(g:Gr)(hg:GoodE g)(st:St)(hv:g.vs.length<=100)(he:g.es.length<=200):
 aB prog 60 [.ag (grL g)] st fun r st'=>∃ q,r=.ms q 0 (fT g.es).length/\st'.H q=.box 23 1 (bkL g.es (fT g.es))/\st.next<=q/\q<st'.next/\aA st st':=by
 obtain⟨S,hS,hSk,hSa,hSn,O1⟩:=sN hg;have hel:=aK g.es;have hids:=hg.ids;refine zN func60 ntmps60 [.tmp 2] ?_;refine eR fun M5=>?_;have x1:¬st.next=st.next+1:=oO;have x2:¬st.next=st.next+1+1:=oO;have x3:¬st.next=st.next+1+1+1:=oO;have x4:¬st.next=st.next+1+1+1+1:=oO;have x5:¬st.next=st.next+1+1+1+1+1:=oO;have x6:¬st.next=st.next+1+1+1+1+1+1:=oO;refine xw4 x1 x2 x3 x4 ?_;refine DL (st.next+1+1+1+1) 3 1 (e:=126) (s:=6) [.sl 0 g.es.length (eds g.es),.mp (st.next+1),.mp (st.next+1+1),.mp (st.next+1+1+1)] [.nil] sS ?_;refine DL (st.next+1+1+1+1) 23 1 (e:=126) (s:=6) [.sl 0 g.es.length (eds g.es),.mp (st.next+1),.mp (st.next+1+1),.mp (st.next+1+1+1),.ms (st.next+5) 0 0] [] sS ?_;obtain⟨p,hp⟩:∃ p,p=st.next:=⟨_,rfl⟩;refine aY 18 17 19 55 (g.es.length) (fun j fr st2=>fr 1=.pt p 0/\fr 3=.pt (p+4) 0/\fr 16=.sl 0 g.es.length (eds g.es)/\AtI g p st (atK g.es j) st2) ?_ ?_ ?_
 .subst hp;refine⟨sS,sS,sS,?_⟩;refine⟨sF6 x1 x2 x3 x4 x5 x6,?_,sS,sS,sS,sS,sS,?_,[],fun _=>0,sS,⟨fun v=>rfl,fun v hv=>absurd rfl hv,fun v w hv=>absurd rfl hv⟩⟩
  .simp
  ·(repeat (first|exact aA.refl _|(refine aA.trans ?_ (aA.new _ _))|(refine aA.set ?_ oO _)))
 .clear x1 x2 x3 x4 x5 x6;rintro j fr s dA ⟨f1,f3,f16,hI⟩ fi fn JO hJO;have hde:=aR g.es j dA;have hj3:j*3<g.es.length*3:=oO;have c7:=hg.ne _ (sF dA);have hsu:=QG (es:=g.es) (k:=j) c7;rw[hsu]at hJO;clear hsu;unfold eAt at hJO;generalize g.es.getD j ed0=x at *;obtain⟨id,xa,xb⟩:=x;simp only at hJO hde;have hρ:∀ w,(atK g.es j w).length<=10000:=fun w=>by have:=aBl (fun i=>decide ((eAt g.es i).a=w\/(eAt g.es i).b=w)) (List.range j);rw[aDx]at this;unfold atK;omega
  generalize atK g.es j=ρ at *;have hpn:p+7<=s.next:=hI.2.2.2.2.2.2.1;refine xw9 f1 f3 f16 fi fn hde dA hj3 hel ?_;refine Bx (fun f T=>f 1=.pt p 0/\f 3=.pt (p+4) 0/\f 4=i j/\f 5=.pt s.next 0/\f 16=.sl 0 g.es.length (eds g.es)/\f 17=i g.es.length/\f 18=i j/\s.next<T.next/\T.H s.next=.box 36 3 [u id,u xa,u xb]/\AtI g p st (ρ) T) ⟨sF1 f1,sF1 f3,sS,sS,sF1 f16,sF1 fn,sF1 fi,sS,sS,hI.keeps (aA.new _ _)⟩ ?_;generalize s.next=X at *;clear f1 f3 f16 fi fn hI fr;rintro fr s2 ⟨f1,f3,f4,f5,f16,fn,fi,hXl,hX,hI⟩;refine Dd (fun f T=>f 1=.pt p 0/\f 3=.pt (p+4) 0/\f 4=i j/\f 5=.pt X 0/\f 16=.sl 0 g.es.length (eds g.es)/\f 17=i g.es.length/\f 18=i j/\X<T.next/\T.H X=.box 36 3 [u id,u xa,u xb]/\AtI g p st (mW ρ xa j) T) ?_ ?_
  .obtain⟨hG,hW,hN,hL,hS,hB,M6,j8,ea,tk,hA,hR⟩:=hI;have P3:=hR.get xa;have k1:¬X=s2.next:=oO;have k2:¬X=s2.next+1:=oO;have k3:¬X=p+1:=oO;have e0:¬p+4=s2.next:=oO;have e1:¬p+1=s2.next:=oO;have e2:¬p+2=s2.next:=oO;have e3:¬p+3=s2.next:=oO;have e4:¬p=s2.next:=oO;have e5:¬p+5=s2.next:=oO;have e6:¬p+6=s2.next:=oO;have e7:¬p+4=s2.next+1:=oO;have e8:¬p+1=s2.next+1:=oO;have e9:¬p+2=s2.next+1:=oO;have e10:¬p+3=s2.next+1:=oO;have e11:¬p=s2.next+1:=oO;have e12:¬p+5=s2.next+1:=oO;have e13:¬p+6=s2.next+1:=oO;have e14:¬s2.next+1=p+1:=oO;have e15:¬s2.next=p:=oO;have tkl:∀ w,ρ w≠[]->¬tk w=s2.next/\¬tk w=s2.next+1/\¬tk w=p+1:=fun w hw=>by have:=(hR.own w hw).2;omega
   by_cases hr:ρ xa=[]
   .rw[aAj hr]at P3
    (refine zS [] [X,p+4,p+1] [0,2,4,6,8,10,12,14,16,18,20,22,24,26,28,30,33] ?_;intro J hJ;simp[f3,f4,f5,hX,hW,hA,P3,k1,k2,k3,e0,e1,e4,e7,e8,e14,e15];(repeat refine ca ?_);refine zJ hJ ?_)
    have hput:=hR.put xa j (t:=s2.next+1) (n:=1) (st':=(((s2.new (.own 3 1 1)).new (.own 3 1 1)).set (p+1) (.map false [.u32] (bV ea [xa] (.sl (s2.next+1) 1 [i (j:Int)]))))) (by rw[hr];rfl) ⟨oO,sS,oO,oO⟩ (sF2 e14 e15) (fun w hw h0=>by obtain⟨t1,t2,t3⟩:=tkl w h0;simp[t1,t2,t3]) (by simp;omega);rw[hr]at hput;refine⟨by trivial,sF1 f1,sF1 f3,sF1 f4,sF1 f5,sF1 f16,sF1 fn,sF1 fi,by simp;omega,sF4 k1 k2 k3 hX,?_⟩;refine⟨sF3 e4 e11 hG,sF3 e0 e7 hW,sF3 e2 e9 hN,sF3 e3 e10 hL,sF3 e5 e12 hS,sF3 e6 e13 hB,by simp;omega,?_,_,_,by simp<;>rfl,hput⟩
    (repeat (first|exact j8|(refine aA.trans ?_ (aA.new _ _))|(refine aA.set ?_ oO _)))
   .rw[aAa hr]at P3;obtain⟨hO,t0,tl,tu⟩:=hR.own xa hr;obtain⟨t1,t2,t3⟩:=tkl xa hr;have t4:¬X=tk xa:=fun e=>by rw[<- e,hX]at hO;cases hO
    have hrl:(isN (ρ xa)).length=(ρ xa).length:=lE _;have hrb:(ρ xa).length<=10000:=hρ _;have p0:¬p=tk xa:=oO;have p1:¬p+1=tk xa:=oO;have p2:¬p+2=tk xa:=oO;have p3:¬p+3=tk xa:=oO;have p4:¬p+4=tk xa:=oO;have p5:¬p+5=tk xa:=oO;have p6:¬p+6=tk xa:=oO
    (refine zS [] [X,p+4,p+1] [0,2,4,6,8,10,12,14,16,18,20,22,24,26,28,30,33] ?_;intro J hJ;simp[f3,f4,f5,hX,hW,hA,P3,hO,hrl,t0,t1,t4,p1,p4,k1,k2,k3,e0,e1,e4,e7,e8,e14,e15];(repeat refine ca ?_);refine zJ hJ ?_)
    have hput:=hR.put xa j (t:=s2.next+1) (n:=(ρ xa).length+1) (st':=((((s2.new (.own 3 1 1)).set (tk xa) .dead).new (.own 3 1 ((ρ xa).length+1))).set (p+1) (.map false [.u32] (bV ea [xa] (.sl (s2.next+1) ((ρ xa).length+1) (isN (ρ xa)++[i (j:Int)]))))) ) rfl ⟨oO,sS,oO,oO⟩ (sF2 e14 e15) (fun w hw h0=>by obtain⟨u1,u2,u3⟩:=tkl w h0;have u4:¬tk w=tk xa:=fun e=>hw (hR.inj w xa h0 hr e);simp[u1,u2,u3,u4]) (by simp;omega);refine⟨by trivial,sF1 f1,sF1 f3,sF1 f4,sF1 f5,sF1 f16,sF1 fn,sF1 fi,by simp;omega,sF5 k1 k2 k3 t4 hX,?_⟩;refine⟨sF4 p0 e4 e11 hG,sF4 p4 e0 e7 hW,sF4 p2 e2 e9 hN,sF4 p3 e3 e10 hL,sF4 p5 e5 e12 hS,sF4 p6 e6 e13 hB,by simp;omega,?_,_,_,by simp<;>rfl,hput⟩
    (repeat (first|exact j8|(refine aA.trans ?_ (aA.new _ _))|(refine aA.set ?_ oO _)))
  clear f1 f3 f4 f5 f16 fi fn hXl hX hI fr s2;rintro fr s2 ⟨f1,f3,f4,f5,f16,fn,fi,hXl,hX,hI⟩;have hρ':∀ w,((mW ρ xa j) w).length<=10001:=fun w=>by
   have h1:=hρ xa;have h2:=hρ w;unfold mW
   split
   .rw[aAn,List.length_singleton];omega
   .omega
  refine TK (fun f T=>f 1=.pt p 0/\f 3=.pt (p+4) 0/\f 4=i j/\f 5=.pt X 0/\f 16=.sl 0 g.es.length (eds g.es)/\f 17=i g.es.length/\f 18=i j/\X<T.next/\T.H X=.box 36 3 [u id,u xa,u xb]/\AtI g p st (mW (mW ρ xa j) xb j) T) ?_ ?_
  .obtain⟨hG,hW,hN,hL,hS,hB,M6,j8,ea,tk,hA,hR⟩:=hI;have P3:=hR.get xb;have k1:¬X=s2.next:=oO;have k2:¬X=s2.next+1:=oO;have k3:¬X=p+1:=oO;have e0:¬p+4=s2.next:=oO;have e1:¬p+1=s2.next:=oO;have e2:¬p+2=s2.next:=oO;have e3:¬p+3=s2.next:=oO;have e4:¬p=s2.next:=oO;have e5:¬p+5=s2.next:=oO;have e6:¬p+6=s2.next:=oO;have e7:¬p+4=s2.next+1:=oO;have e8:¬p+1=s2.next+1:=oO;have e9:¬p+2=s2.next+1:=oO;have e10:¬p+3=s2.next+1:=oO;have e11:¬p=s2.next+1:=oO;have e12:¬p+5=s2.next+1:=oO;have e13:¬p+6=s2.next+1:=oO;have e14:¬s2.next+1=p+1:=oO;have e15:¬s2.next=p:=oO;have tkl:∀ w,(mW ρ xa j) w≠[]->¬tk w=s2.next/\¬tk w=s2.next+1/\¬tk w=p+1:=fun w hw=>by have:=(hR.own w hw).2;omega
   by_cases hr:(mW ρ xa j) xb=[]
   .rw[aAj hr]at P3
    (refine zS [] [X,p+4,p+1] [0,2,4,6,8,10,12,14,16,18,20,22,24,26,28,30,33] ?_;intro J hJ;simp[f3,f4,f5,hX,hW,hA,P3,k1,k2,k3,e0,e1,e4,e7,e8,e14,e15];(repeat refine ca ?_);refine zJ hJ ?_)
    have hput:=hR.put xb j (t:=s2.next+1) (n:=1) (st':=(((s2.new (.own 3 1 1)).new (.own 3 1 1)).set (p+1) (.map false [.u32] (bV ea [xb] (.sl (s2.next+1) 1 [i (j:Int)]))))) (by rw[hr];rfl) ⟨oO,sS,oO,oO⟩ (sF2 e14 e15) (fun w hw h0=>by obtain⟨t1,t2,t3⟩:=tkl w h0;simp[t1,t2,t3]) (by simp;omega);rw[hr]at hput;refine⟨by trivial,sF1 f1,sF1 f3,sF1 f4,sF1 f5,sF1 f16,sF1 fn,sF1 fi,by simp;omega,sF4 k1 k2 k3 hX,?_⟩;refine⟨sF3 e4 e11 hG,sF3 e0 e7 hW,sF3 e2 e9 hN,sF3 e3 e10 hL,sF3 e5 e12 hS,sF3 e6 e13 hB,by simp;omega,?_,_,_,by simp<;>rfl,hput⟩
    (repeat (first|exact j8|(refine aA.trans ?_ (aA.new _ _))|(refine aA.set ?_ oO _)))
   .rw[aAa hr]at P3;obtain⟨hO,t0,tl,tu⟩:=hR.own xb hr;obtain⟨t1,t2,t3⟩:=tkl xb hr;have t4:¬X=tk xb:=fun e=>by rw[<- e,hX]at hO;cases hO
    have hrl:(isN ((mW ρ xa j) xb)).length=((mW ρ xa j) xb).length:=lE _;have hrb:((mW ρ xa j) xb).length<=10001:=hρ' _;have p0:¬p=tk xb:=oO;have p1:¬p+1=tk xb:=oO;have p2:¬p+2=tk xb:=oO;have p3:¬p+3=tk xb:=oO;have p4:¬p+4=tk xb:=oO;have p5:¬p+5=tk xb:=oO;have p6:¬p+6=tk xb:=oO
    (refine zS [] [X,p+4,p+1] [0,2,4,6,8,10,12,14,16,18,20,22,24,26,28,30,33] ?_;intro J hJ;simp[f3,f4,f5,hX,hW,hA,P3,hO,hrl,t0,t1,t4,p1,p4,k1,k2,k3,e0,e1,e4,e7,e8,e14,e15];(repeat refine ca ?_);refine zJ hJ ?_)
    have hput:=hR.put xb j (t:=s2.next+1) (n:=((mW ρ xa j) xb).length+1) (st':=((((s2.new (.own 3 1 1)).set (tk xb) .dead).new (.own 3 1 (((mW ρ xa j) xb).length+1))).set (p+1) (.map false [.u32] (bV ea [xb] (.sl (s2.next+1) (((mW ρ xa j) xb).length+1) (isN ((mW ρ xa j) xb)++[i (j:Int)]))))) ) rfl ⟨oO,sS,oO,oO⟩ (sF2 e14 e15) (fun w hw h0=>by obtain⟨u1,u2,u3⟩:=tkl w h0;have u4:¬tk w=tk xb:=fun e=>hw (hR.inj w xb h0 hr e);simp[u1,u2,u3,u4]) (by simp;omega);refine⟨by trivial,sF1 f1,sF1 f3,sF1 f4,sF1 f5,sF1 f16,sF1 fn,sF1 fi,by simp;omega,sF5 k1 k2 k3 t4 hX,?_⟩;refine⟨sF4 p0 e4 e11 hG,sF4 p4 e0 e7 hW,sF4 p2 e2 e9 hN,sF4 p3 e3 e10 hL,sF4 p5 e5 e12 hS,sF4 p6 e6 e13 hB,by simp;omega,?_,_,_,by simp<;>rfl,hput⟩
    (repeat (first|exact j8|(refine aA.trans ?_ (aA.new _ _))|(refine aA.set ?_ oO _)))
  rintro fr s3 ⟨f1,f3,f4,f5,f16,fn,fi,hXl,hX,hI⟩;simp only[ak];exact hJO _ _ (sF1 fi) (sF1 fn) ⟨f1,f3,f16,hI⟩
 .clear x1 x2 x3 x4 x5 x6;rintro fr s1 ⟨f1,f3,f16,hI⟩;have hI':=hI;obtain⟨hG,hW,hN,hL,hSt,hB,M6,j8,ea,tk,hA,hR⟩:=hI';have P3:∀ v,bS ea [v]=if atP g.es v=[]then none else some (.sl (tk v) (atP g.es v).length (isN (atP g.es v))):=hR.get
  have hb0:sR g (p+1) (p+4) (p+1) (p+2) (p+3) tk ⟨[],[],[],[]⟩ s1:=by refine⟨⟨p+5,p+6,[],ea,hW,⟨hA,P3⟩,hN,hL,⟨hSt,rfl⟩,hB,⟨oO,oO,oO⟩,oO,oO,oO,oO⟩,⟨oO,oO,oO,oO⟩,oO,oO,oO,oO⟩
  have hall0:Jl g ⟨[],[],[],[]⟩:=⟨rfl,.nil,fun w hw=>(by cases hw),fun w hw=>(by cases hw),rfl,fun i=>by simp,sS,fun B hB=>(by cases hB)⟩;clear hW hN hL hSt hB hA hR hI;refine xw2 f1 hG ?_;refine aY 59 58 60 73 (g.vs.length) (fun j fr st2=>fr 1=.pt p 0/\fr 3=.pt (p+4) 0/\fr 57=.sl 0 g.vs.length (us g.vs)/\KbB (p+1) s1 st2/\∃ sB,uC g.es g.vs.length (g.vs.take j) ⟨[],[],[],[]⟩=some sB/\Jl g sB/\sR g (p+1) (p+4) (p+1) (p+2) (p+3) tk sB st2) ?_ ?_ ?_
  .exact⟨sF1 f1,sF1 f3,sS,KbB.refl _ _,_,rfl,hall0,hb0⟩
  .clear f1 f3 f16 hb0 hall0 fr;rintro j fr s2 dA ⟨f1,f3,f57,hkb,sB,hsB,hall,hbw⟩ fi fn JO hJO;have hd:=qG g.vs j dA;have hvm:g.vs.getD j 0∈g.vs:=by rw[aW _ _ dA];exact aAE _
   have L0:g.vs.take (j+1)=g.vs.take j++[g.vs.getD j 0]:=by rw[aAp dA,aW _ _ dA]
   rw[L0,Bt,hsB]at hJO;simp only[Option.bind_some]at hJO;generalize g.vs.getD j 0=v at *;have hm:=MI sB.vis v;have U0:=hall.sz;obtain⟨s3,e3,hall3,_,_⟩:=Fk hg g.vs.length (aAl _) [v] sB (fun w hw=>by rw[aAk]at hw;rw[hw];exact hvm) hall;rw[e3]at hJO;have hbw':=hbw;obtain⟨⟨tS,tB,CS,ea2,jW,-,jN,-,-,-,-,-⟩,-,-⟩:=hbw';by_cases j5:v∈sB.vis
   .rw[aAj j5]at hm;have e4:s3=sB:=by unfold uC at e3;rw[aAj j5]at e3;exact(aBn e3).symm
    have hz1:1<=nmW sB.vis v:=by unfold nmW;rw[aAj j5];omega
    generalize nmW sB.vis v=z at *;have hzb:(z==0)=false:=by rw[aDl];omega
    have hz0:¬z=0:=oO;refine YZ f3 f57 fi fn hd dA jW jN hm hzb hz0 ?_;exact hJO _ _ (sF1 fi) (sF1 fn) ⟨sF1 f1,sF1 f3,sF1 f57,hkb,s3,rfl,hall3,by rw[e4];exact hbw⟩
   .rw[aAa j5]at hm;have hpre:zO g (fun _=>False) sB v (-1):=⟨hall.ln,hall.nd,fun a ha=>ha.elim,fun w hw _=>hall.fin w hw,j5,fun a b ha=>ha.elim,.inl ⟨rfl,fun a ha=>ha⟩⟩
    (repeat' (first|apply qS|(apply qC;simp[f3,f57,fi,fn,hd,dA,jW,jN,hm])|(refine zE ?_;intro J hJ;simp[f3,f57,fi,fn,hd,dA,jW,jN,hm];(try refine zJ hJ ?_))))
    refine qE (We g hg (p+1) (p+4) (p+1) (p+2) (p+3) tk hv he g.vs.length _ sB v (-1) _ hpre hvm hall.sub oO U0 hbw) sS ?_;rintro r s4 ⟨s5,h5,hb5,hk5⟩;have e5:s3=s5:=by unfold uC at e3;rw[aAa j5,h5]at e3;exact(aBn e3).symm
    refine xw0 ?_;exact hJO _ _ (sF1 fi) (sF1 fn) ⟨sF1 f1,sF1 f3,sF1 f57,hkb.trans hk5,s3,rfl,hall3,by rw[e5];exact hb5⟩
  .clear f1 f3 f16 hb0 hall0 fr;rintro fr s2 ⟨f1,f3,f57,hkb,sB,hsB,hall,hbw⟩;rw[aAU,hS]at hsB;obtain rfl:=aBn hsB;have U0:=hall.sz;obtain⟨_,sb⟩:=CU hv he hall.nd hall.sub;obtain⟨⟨tS,tB,CS,ea2,jW,-,jN,-,-,jB,-,b1,b2,b3,b4⟩,-,d1,-⟩:=hbw
   (repeat' (first|apply qS|(refine zE ?_;intro J hJ;simp[f3,jW])))
   refine qE (ZM hids S.out hSa O1 hSn tB _ (by have:=U0.2;have:=UL hSa O1 hSn;omega) b4 jB) sS ?_;rintro r s4 ⟨h1,h2,h3⟩;have hW4:=(h3.2 (p+4) (bC jW jB sS) d1).trans jW;have u7:=h2.length_eq;refine xw2 f3 hW4 ?_;refine⟨tB,sF1 u7,h1,oO,aAs b4 h3.1,?_⟩;refine⟨aBa j8.next (aBa hkb.next h3.1),fun x hx=>?_⟩;rw[h3.2 x oO (by have:=hkb.next;omega),hkb.H x oO,j8.H x hx]
theorem OS(n:Nat):∀ l:List Ed,gL n (eds l):=fun l=>by
 induction l with
 |nil=>simp only[eds,aDh,gL]
 |cons x l ih=>simp only[eds,aAH,edL,List.cons_append,List.nil_append,gL];exact⟨trivial,trivial,trivial,ih⟩
theorem Tm(n:Nat)(es:List Ed):∀ out:List (List Nat),gL n (bkL es out):=fun out=>by
 induction out with
 |nil=>simp only[bkL,aCL,gL]
 |cons B out ih=>simp only[bkL,aAm,gL];exact⟨⟨.inl rfl,OS _ _⟩,ih⟩
theorem Wl(g:Gr)(hg:GoodE g)(st:St)(hv:g.vs.length<=100)(he:g.es.length<=200):
 aB prog 60 [.ag (grL g)] st fun r st'=>r=.sl 0 (fT g.es).length (bkL g.es (fT g.es))/\st'=st:=by
 refine qT (Q:=fun r=>r=.sl 0 (fT g.es).length (bkL g.es (fT g.es))) (cD ((VR g hg st hv he).mono ?_)) fun r h=>by subst h;exact⟨.inl rfl,Tm _ _ _⟩
 rintro r s ⟨q,rfl,hH,hq,S9,hk⟩;have hl:=Bl g.es (fT g.es);exact⟨q,_,_,_,_,rfl,hH,by rw[hl,aDz];exact aAl _,by rw[aAu (by rw[hl,aDz];exact aAl _)],hk.set hq _⟩
end Aw
namespace Aw
open Go Go.RowKit Pl
def Jz:Option Mp->LV
 |none=>.tu [.ag [.sl 0 0 [],.sl 0 0 [],.sl 0 0 []],bb false]
 |some m=>.tu [.ag (mpL m),bb true]
noncomputable def aQ(g:Gr):List (List Ed):=(fT (sE g.es)).map fun B=>B.map (eAt (sE g.es))
def sY(l:List (List Ed)):List LV:=l.map fun l=>.sl 0 l.length (eds l)
theorem Je(l:List Ed):(sE l).Sublist l:=by
 induction l using yQ with
 |h0=>exact List.Sublist.refl _
 |h1 l x ih=>
  rw[mK]
  split
  .exact ih.trans (List.sublist_append_left _ _)
  .exact ih.append (List.Sublist.refl _)
theorem GoodE.simple{g:Gr}(h:GoodE g):GoodE ⟨g.vs,sE g.es⟩:=
 ⟨⟨h.rise,fun x hx=>h.ends x (jZ _ x hx)⟩,h.ids.sublist (Je _),fun x hx=>h.pos x (jZ _ x hx),fun x hx=>h.ne x (jZ _ x hx)⟩
theorem Dq(g:Gr):(aQ g).length<=(sE g.es).length:=by unfold aQ fT;rw[aAD,aAD];exact aBa (aBl _ _) (by rw[aDx];exact aAl _)
theorem lV{g:Gr}(hg:GoodE g){B:List Nat}(hB:B∈fT g.es):dS g.es B:=by unfold fT at hB;obtain⟨i,hi,rfl⟩:=aAi.1 hB;rw[aAB,aBi]at hi;obtain⟨s,_,_,h2,_,h3⟩:=sN hg;obtain⟨B,hB,hiB⟩:=aAT.1 ((h2 i).2 hi.1);rw[<- (h3 B hB).cls hiB];exact h3 B hB
theorem nC{g:Gr}(hg:GoodE g){l:List Ed}(hl:l∈aQ g):DrE l/\∀ e∈l,e∈g.es:=by
 unfold aQ at hl;obtain⟨B,hB,rfl⟩:=aAi.1 hl;have Z4:=hg.simple;have hB:dS (sE g.es) B:=lV Z4 hB;have j5:∀ e∈B.map (eAt (sE g.es)),e∈sE g.es:=fun e he=>by obtain⟨i,hi,rfl⟩:=aAi.1 he;have e:eAt (sE g.es) i=(sE g.es)[i]'(hB.lt i hi):=eJ _ _ (hB.lt i hi);rw[e];exact aAE _
 refine⟨⟨?_,fun x hx=>Z4.pos x (j5 x hx),fun x hx=>Z4.ne x (j5 x hx)⟩,fun e he=>jZ _ e (j5 e he)⟩;rw[aAV];refine hB.rise.imp_of_mem fun {i j} hi hj hij=>?_;have e:∀ k,(hk:k∈B)->eAt (sE g.es) k=(sE g.es)[k]'(hB.lt k hk):=fun k hk=>eJ _ _ (hB.lt k hk);rw[e i hi,e j hj];exact aAC.1 Z4.ids i j (hB.lt i hi) (hB.lt j hj) hij
theorem z0m(R:List (List Int)):z0L (R.map fun r=>LV.sl 0 r.length (us r))=R.map fun r=>LV.sl 0 r.length (us r):=by
 induction R with
 |nil=>rfl
 |cons r R ih=>simp only[aAm,z0L,z0,Hg];rw[ih]
theorem Jh(l:List (List Ed))(j:Nat)(h:j<l.length):(sY l).drop j=.sl 0 (l.getD j []).length (eds (l.getD j []))::sY (l.drop (j+1)):=by unfold sY;rw[<- aCQ,aAN h,aAg,aAh h];rfl
theorem JD(x:Int):∀ l,(xZ x l).length<=l.length+1
 |[]=>by simp[xZ]
 |y::l=>by
  have:=JD x l;unfold xZ
  split
  .simp
  .split
   .simp;omega
   .simp
theorem JF:∀ l,(qA l).length<=l.length
 |[]=>by simp[qA]
 |x::l=>by have h:=JF l;have h2:=JD x (qA l);unfold qA at h h2 ⊢;rw[List.foldr_cons,List.length_cons];omega
theorem WE(l:List Ed):(List.map (fun _:Ed=>3) l).sum=l.length*3:=by
 induction l with
 |nil=>rfl
 |cons x l ih=>simp only[aAm,List.sum_cons,List.length_cons,ih];omega
def TI(M1 M2 a:Nat)(s3 s8:St)(T:TL)(st:St):Prop:=aA s3 st/\s8.next<=st.next/\(∀ l,a<=l->l<s8.next->st.H l=s8.H l)/\∃ A,zB false [.u32] 34 1 A M2 M2 st/\vZ T A/\∀ x∈A,x.2.1<a\/s8.next<=x.2.1
theorem KF(g:Gr)(hv:g.vs.length<=1000)(he:g.es.length<=200){o:Option Mp}(ho:(if chk g=0 then jU g (aQ g)else some none)=some o)(st:St):
 aB prog 33 [.ag (grL g)] st fun r st'=>r=Jz o/\aA st st':=by
 refine eU ?_;have hel:=aK g.es;refine zN func33 ntmps33 [.cell 2 28,.tmp 3] ?_;refine eR fun M5=>?_
 (refine xj0 ?_;intro J hJ)
 refine qE (Check g _ hv oO) sS ?_;rintro r s1 ⟨rfl,j7⟩;have N6:=j7.next;simp only[aG]at N6;have X7:s1.H st.next=.box 25 2 (grL g):=by rw[j7.H _ (by simp;omega)];simp
 have hO1:s1.H (st.next+1)=.box 28 3 [.nil,.nil,.nil]:=by rw[j7.H _ sS];simp
 have hK1:aA st s1:=((aA.new _ _).trans (aA.new _ _)).trans j7;by_cases hc:chk g=0
 case neg=>
  rw[aAa hc]at ho;obtain rfl:none=o:=aBn ho;have hc2:(chk g != 0)=true:=by simpa using hc
  refine vP hJ hc2 hO1 ?_;exact⟨by simp[Jz,z0,z0L],hK1.set oO _⟩
 rw[aAj hc]at ho;have hgE:=fL hc;have Z4:=hgE.simple;have hc2:(chk g != 0)=false:=by simpa using hc
 have e1:¬st.next=s1.next:=oO;refine wJ hJ hc2 X7 e1 ?_;refine aY 27 26 28 47 (g.es.length) (fun j fr st2=>fr 1=.pt st.next 0/\fr 2=.pt (st.next+1) 0/\fr 4=.mp s1.next/\fr 25=.sl 0 g.es.length (eds g.es)/\aA s1 st2/\∃ A,zB true [.u32,.u32] 36 3 A s1.next s1.next st2/\Fy (g.es.take j) A) ?_ ?_ ?_
 .exact⟨sS,sS,sS,sS,aA.new _ _,[],⟨by simp[rmL],sS,sS,sS,sS⟩,⟨sS,sS⟩⟩
 .rintro j fr s dA ⟨f1,f2,f4,f25,hk,A,hA,hB⟩ fi fn JO hJO;have hd:=aR g.es j dA;have o8:j*3<g.es.length*3:=oO;have L0:g.es.take (j+1)=g.es.take j++[g.es.getD j ed0]:=by rw[eJ _ _ dA];exact aAp dA
  have P3:=hB.get hA.nd (prE (g.es.getD j ed0));have U7:=hB.add hA.nd (g.es.getD j ed0);rw[<- L0]at U7;have hEl:(g.es.take j).length<=200:=by rw[aAw];omega
  generalize g.es.take j=E at *;generalize g.es.take (j+1)=E' at *;generalize g.es.getD j ed0=x at *;obtain⟨d,a,b⟩:=x;have U4:(jY E (prP a b)).length<=200:=aBa (aBl _ _) hEl;simp only[prE,prP,pk]at P3 U7 U4 hd;have hM:=hA.map;have N0:=uW [min a b,max a b] A;have c0:¬s1.next=s.next:=by have:=hA.mlt;omega
  refine xw7 f25 fi fn dA hd hel o8 ?_;refine Bp (fun f s'=>f 1=.pt st.next 0/\f 2=.pt (st.next+1) 0/\f 4=.mp s1.next/\f 25=.sl 0 g.es.length (eds g.es)/\f 26=i g.es.length/\f 27=i j/\aA s1 s'/\∃ A,zB true [.u32,.u32] 36 3 A s1.next s1.next s'/\Fy E' A) ?_ ?_;rotate_left
  .rintro fr s' ⟨f1,f2,f4,f25,fn,fi,P0,hA'⟩;exact hJO _ _ fi fn ⟨sF1 f1,sF1 f2,sF1 f4,sF1 f25,P0,hA'⟩
  have Q4:¬s.next=s1.next:=fun e=>c0 e.symm;have x1:¬s1.next=s.next+1:=by have:=hA.mlt;omega
  have x2:¬s.next+1=s1.next:=fun e=>x1 e.symm;have x3:¬s1.next=s.next+1+1:=by have:=hA.mlt;omega
  have x4:¬s.next+1+1=s1.next:=fun e=>x3 e.symm;rcases P3 with⟨u9,hgn⟩|⟨t,hgs⟩
  .rw[hgn]at N0;simp only[Option.map_none]at N0;have U7:=U7 (s.next+1+1);rw[u9]at U7;simp only[eds,aDh,List.nil_append,List.length_nil,aBv]at U7
   have v7:∀ f:Frm,f 1=.pt st.next 0->f 2=.pt (st.next+1) 0->f 4=.mp s1.next->f 25=.sl 0 g.es.length (eds g.es)->f 26=i g.es.length->f 27=i j->(f 1=.pt st.next 0/\f 2=.pt (st.next+1) 0/\f 4=.mp s1.next/\f 25=.sl 0 g.es.length (eds g.es)/\f 26=i g.es.length/\f 27=i j/\aA s1 ((((s.new (.box 36 3 [u d,u a,u b])).new (.own 36 3 1)).new (.own 36 3 1)).set s1.next (.map true [.u32,.u32] (bV (rmL A) [min a b,max a b] (.sl (s.next+1+1) 1 [u d,u a,u b]))))/\∃ A',zB true [.u32,.u32] 36 3 A' s1.next s1.next ((((s.new (.box 36 3 [u d,u a,u b])).new (.own 36 3 1)).new (.own 36 3 1)).set s1.next (.map true [.u32,.u32] (bV (rmL A) [min a b,max a b] (.sl (s.next+1+1) 1 [u d,u a,u b]))))/\Fy E' A'):=fun f q1 q2 q3 q4 q5 q6=>
    ⟨q1,q2,q3,q4,q5,q6,(((hk.trans (aA.new _ _)).trans (aA.new _ _)).trans (aA.new _ _)).set (aAl _) _,_,hA.put (k:=[min a b,max a b]) (t:=s.next+1+1) (n:=1) (c:=[u d,u a,u b]) ⟨oO,sS⟩ (by simp;omega) hk.next oO (by simp[rmV]) (sF1 x4) (fun l hl hlm _=>by simp[show ¬l=s.next by omega,show ¬l=s.next+1 by omega,show ¬l=s.next+1+1 by omega,hlm]),U7⟩
   refine w_a [] [s1.next,s.next] ?_;intro J hJ;refine lG 6 [(0,true),(1,true),(2,true),(3,true),(4,true),(6,true),(7,true),(8,true),(9,true),(10,true),(13,true)] ?_;simp[f4,c0,Q4,hM,N0,x1,x2,x3,x4];refine tO 5 (5,true) (14,true) ?_ ?_
   .simp[f4,c0,Q4,hM,N0,x1,x2,x3,x4];refine xdP (pair a b _) ?_;refine⟨fun h=>by first|(cases h;done)|exact fun _ _=>rfl|simp[f4,c0,Q4,hM,N0,x1,x2,x3,x4],?_⟩;refine tO 4 (11,true) (14,true) ?_ ?_
    .simp[f4,c0,Q4,hM,N0,x1,x2,x3,x4];refine xdP (pair a b _) ?_;refine⟨fun h=>by first|(cases h;done)|exact fun _ _=>rfl|simp[f4,c0,Q4,hM,N0,x1,x2,x3,x4],?_⟩;refine lG 0 [(12,true),(14,true),(15,true),(16,false)] ?_;simp[f4,c0,Q4,hM,N0,x1,x2,x3,x4];refine⟨by unfold maxLen;omega,eO (hJ _ _ ?_)⟩;simp only[ak];refine⟨trivial,v7 _ ?_ ?_ ?_ ?_ ?_ ?_⟩<;>simp[f1,f2,f4,f25,fn,fi]
    .simp[f4,c0,Q4,hM,N0,x1,x2,x3,x4];refine lG 0 [(11,true),(12,true),(15,true),(16,false)] ?_;simp[f4,c0,Q4,hM,N0,x1,x2,x3,x4];refine xdP (pair a b _) ?_;refine⟨fun h=>by first|(cases h;done)|exact fun _ _=>rfl|simp[f4,c0,Q4,hM,N0,x1,x2,x3,x4],?_⟩;simp[f4,c0,Q4,hM,N0,x1,x2,x3,x4];refine⟨by unfold maxLen;omega,eO (hJ _ _ ?_)⟩;simp only[ak];refine⟨trivial,v7 _ ?_ ?_ ?_ ?_ ?_ ?_⟩<;>simp[f1,f2,f4,f25,fn,fi]
   .simp[f4,c0,Q4,hM,N0,x1,x2,x3,x4];refine lG 0 [(5,true),(11,true),(12,true),(15,true),(16,false)] ?_;simp[f4,c0,Q4,hM,N0,x1,x2,x3,x4];refine xdP (pair a b _) ?_;refine⟨fun h=>by first|(cases h;done)|exact fun _ _=>rfl|simp[f4,c0,Q4,hM,N0,x1,x2,x3,x4],?_⟩;simp[f4,c0,Q4,hM,N0,x1,x2,x3,x4];refine xdP (pair a b _) ?_;refine⟨fun h=>by first|(cases h;done)|exact fun _ _=>rfl|simp[f4,c0,Q4,hM,N0,x1,x2,x3,x4],?_⟩;simp[f4,c0,Q4,hM,N0,x1,x2,x3,x4];refine⟨by unfold maxLen;omega,eO (hJ _ _ ?_)⟩;simp only[ak];refine⟨trivial,v7 _ ?_ ?_ ?_ ?_ ?_ ?_⟩<;>simp[f1,f2,f4,f25,fn,fi]
  .rw[hgs]at N0;simp only[Option.map_some]at N0;unfold rmV at N0;simp only at N0;obtain⟨k1,k2,k3,k4⟩:=hA.tok _ (nX hgs);simp only at k1 k2 k3 k4;have y1:¬t=s.next:=oO;have y2:¬t=s.next+1:=oO;have y3:¬s.next=t:=oO;have y4:¬s.next+1=t:=oO;have y5:¬s1.next=t:=fun e=>by rw[<- e,hM]at k4;cases k4
   have y6:¬t=s1.next:=fun e=>y5 e.symm;have S5:(List.map (fun _:Ed=>3) (jY E (min a b,max a b))).sum=(jY E (min a b,max a b)).length*3:=WE _;have U7:=U7 (s.next+1+1);have hbe:=aK (jY E (min a b,max a b))
   have v7:∀ f:Frm,f 1=.pt st.next 0->f 2=.pt (st.next+1) 0->f 4=.mp s1.next->f 25=.sl 0 g.es.length (eds g.es)->f 26=i g.es.length->f 27=i j->(f 1=.pt st.next 0/\f 2=.pt (st.next+1) 0/\f 4=.mp s1.next/\f 25=.sl 0 g.es.length (eds g.es)/\f 26=i g.es.length/\f 27=i j/\aA s1 (((((s.new (.box 36 3 [u d,u a,u b])).new (.own 36 3 1)).set t .dead).new (.own 36 3 ((jY E (min a b,max a b)).length+1))).set s1.next (.map true [.u32,.u32] (bV (rmL A) [min a b,max a b] (.sl (s.next+1+1) ((jY E (min a b,max a b)).length+1) (eds (jY E (min a b,max a b))++[u d,u a,u b])))))/\∃ A',zB true [.u32,.u32] 36 3 A' s1.next s1.next (((((s.new (.box 36 3 [u d,u a,u b])).new (.own 36 3 1)).set t .dead).new (.own 36 3 ((jY E (min a b,max a b)).length+1))).set s1.next (.map true [.u32,.u32] (bV (rmL A) [min a b,max a b] (.sl (s.next+1+1) ((jY E (min a b,max a b)).length+1) (eds (jY E (min a b,max a b))++[u d,u a,u b])))))/\Fy E' A'):=fun f q1 q2 q3 q4 q5 q6=>
    ⟨q1,q2,q3,q4,q5,q6,((((hk.trans (aA.new _ _)).trans (aA.new _ _)).set k2 _).trans (aA.new _ _)).set (aAl _) _,_,hA.put (k:=[min a b,max a b]) (t:=s.next+1+1) (n:=(jY E (min a b,max a b)).length+1) (c:=eds (jY E (min a b,max a b))++[u d,u a,u b]) ⟨oO,sS⟩ (by simp;omega) hk.next oO (by simp[rmV]) (sF1 x4) (fun l hl hlm hx=>by
      have:=hx _ hgs;simp only at this
      simp[show ¬l=s.next by omega,show ¬l=s.next+1 by omega,show ¬l=s.next+1+1 by omega,hlm,this]),U7⟩
   refine w_a [] [s1.next,s.next] ?_;intro J hJ;refine lG 6 [(0,true),(1,true),(2,true),(3,true),(4,true),(6,true),(7,true),(8,true),(9,true),(10,true),(13,true)] ?_;simp[f4,c0,Q4,hM,N0,x1,x2,x3,x4,y1,y2,y3,y4,y5,y6,k4,k1,hbe,S5];refine tO 5 (5,true) (14,true) ?_ ?_
   .simp[f4,c0,Q4,hM,N0,x1,x2,x3,x4,y1,y2,y3,y4,y5,y6,k4,k1,hbe,S5];refine xdP (pair a b _) ?_;refine⟨fun h=>by first|(cases h;done)|exact fun _ _=>rfl|simp[f4,c0,Q4,hM,N0,x1,x2,x3,x4,y1,y2,y3,y4,y5,y6,k4,k1,hbe,S5],?_⟩;refine tO 4 (11,true) (14,true) ?_ ?_
    .simp[f4,c0,Q4,hM,N0,x1,x2,x3,x4,y1,y2,y3,y4,y5,y6,k4,k1,hbe,S5];refine xdP (pair a b _) ?_;refine⟨fun h=>by first|(cases h;done)|exact fun _ _=>rfl|simp[f4,c0,Q4,hM,N0,x1,x2,x3,x4,y1,y2,y3,y4,y5,y6,k4,k1,hbe,S5],?_⟩;refine lG 0 [(12,true),(14,true),(15,true),(16,false)] ?_;simp[f4,c0,Q4,hM,N0,x1,x2,x3,x4,y1,y2,y3,y4,y5,y6,k4,k1,hbe,S5];refine⟨by unfold maxLen;omega,eO (hJ _ _ ?_)⟩;simp only[ak];refine⟨trivial,v7 _ ?_ ?_ ?_ ?_ ?_ ?_⟩<;>simp[f1,f2,f4,f25,fn,fi]
    .simp[f4,c0,Q4,hM,N0,x1,x2,x3,x4,y1,y2,y3,y4,y5,y6,k4,k1,hbe,S5];refine lG 0 [(11,true),(12,true),(15,true),(16,false)] ?_;simp[f4,c0,Q4,hM,N0,x1,x2,x3,x4,y1,y2,y3,y4,y5,y6,k4,k1,hbe,S5];refine xdP (pair a b _) ?_;refine⟨fun h=>by first|(cases h;done)|exact fun _ _=>rfl|simp[f4,c0,Q4,hM,N0,x1,x2,x3,x4,y1,y2,y3,y4,y5,y6,k4,k1,hbe,S5],?_⟩;simp[f4,c0,Q4,hM,N0,x1,x2,x3,x4,y1,y2,y3,y4,y5,y6,k4,k1,hbe,S5];refine⟨by unfold maxLen;omega,eO (hJ _ _ ?_)⟩;simp only[ak];refine⟨trivial,v7 _ ?_ ?_ ?_ ?_ ?_ ?_⟩<;>simp[f1,f2,f4,f25,fn,fi]
   .simp[f4,c0,Q4,hM,N0,x1,x2,x3,x4,y1,y2,y3,y4,y5,y6,k4,k1,hbe,S5];refine lG 0 [(5,true),(11,true),(12,true),(15,true),(16,false)] ?_;simp[f4,c0,Q4,hM,N0,x1,x2,x3,x4,y1,y2,y3,y4,y5,y6,k4,k1,hbe,S5];refine xdP (pair a b _) ?_;refine⟨fun h=>by first|(cases h;done)|exact fun _ _=>rfl|simp[f4,c0,Q4,hM,N0,x1,x2,x3,x4,y1,y2,y3,y4,y5,y6,k4,k1,hbe,S5],?_⟩;simp[f4,c0,Q4,hM,N0,x1,x2,x3,x4,y1,y2,y3,y4,y5,y6,k4,k1,hbe,S5];refine xdP (pair a b _) ?_;refine⟨fun h=>by first|(cases h;done)|exact fun _ _=>rfl|simp[f4,c0,Q4,hM,N0,x1,x2,x3,x4,y1,y2,y3,y4,y5,y6,k4,k1,hbe,S5],?_⟩;simp[f4,c0,Q4,hM,N0,x1,x2,x3,x4,y1,y2,y3,y4,y5,y6,k4,k1,hbe,S5];refine⟨by unfold maxLen;omega,eO (hJ _ _ ?_)⟩;simp only[ak];refine⟨trivial,v7 _ ?_ ?_ ?_ ?_ ?_ ?_⟩<;>simp[f1,f2,f4,f25,fn,fi]
 .rintro fr s ⟨f1,f2,f4,f25,hk,A,hA,hB⟩;rw[aAU]at hB;have hkn:=hk.next;have hGs:s.H st.next=.box 25 2 (grL g):=(hk.H _ oO).trans X7;have hOs:s.H (st.next+1)=.box 28 3 [.nil,.nil,.nil]:=(hk.H _ oO).trans hO1
  (refine xj2 f1 hGs ?_;intro J hJ)
  refine qE (QK g s oO oO oO) sS ?_;rintro r s2 ⟨rfl,u6⟩;have hkn2:=u6.next;have hA2:=hA.keep u6;have hK2:=hk.trans u6;have hsl:=oV g.es;have hO2:=(u6.H _ oO).trans hOs;have hG2:=(u6.H _ oO).trans hGs;clear u6 hOs hGs hA hk
  (refine pG hJ ?_;intro J hJ)
  have hbk:=Dq g;have U4:bkL (sE g.es) (fT (sE g.es))=sY (aQ g):=by simp[bkL,sY,aQ]
  have hbn:(fT (sE g.es)).length=(aQ g).length:=by simp[aQ]
  have hblk:=Wl ⟨g.vs,sE g.es⟩ Z4 ((s2.new (.box 25 2 [.sl 0 g.vs.length (us g.vs),.sl 0 (sE g.es).length (eds (sE g.es))])).new (.map false [.u32] [])) (aBa (HA hc).2.2.1 (by decide)) (by simp only;omega);simp only[]at hblk;rw[U4,hbn]at hblk;refine qE hblk (by simp[grL]) ?_;rintro r s3 ⟨rfl,e3⟩;rw[e3];clear e3 s3 hblk;have o8:=aA.new s2 (.box 25 2 [.sl 0 g.vs.length (us g.vs),.sl 0 (sE g.es).length (eds (sE g.es))]);have hn3:(s2.new (.box 25 2 [.sl 0 g.vs.length (us g.vs),.sl 0 (sE g.es).length (eds (sE g.es))])).next=s2.next+1:=rfl;rw[<- hn3];generalize s2.new (.box 25 2 [.sl 0 g.vs.length (us g.vs),.sl 0 (sE g.es).length (eds (sE g.es))])=s3 at *;have hA3:=hA2.keep o8;have hK3:=hK2.trans o8;have hO3:=(o8.H _ oO).trans hO2;have hG3:=(o8.H _ oO).trans hG2;clear hA2 hK2 hO2 hG2 o8;unfold jU at ho;obtain⟨oT,hoT,ho⟩:=aBz.1 ho;have hKt:=hK1.trans hK3;refine dQ hJ ?_;refine aY 57 56 58 104 ((aQ g).length) (fun j fr st2=>fr 1=.pt st.next 0/\fr 2=.pt (st.next+1) 0/\fr 4=.mp s1.next/\fr 9=.mp s3.next/\fr 55=.sl 0 (aQ g).length (sY (aQ g))/\aA s3 st2/\∃ T A2,zI g ((aQ g).drop j) T=some oT/\zB false [.u32] 34 1 A2 s3.next s3.next st2/\vZ T A2/\gW T<=100000) ?_ ?_ ?_
  .exact⟨sF1 f1,sF1 f2,sF1 f4,sS,sS,aA.new _ _,[],[],by simpa using hoT,⟨by simp[rmL],sS,sS,sS,sS⟩,rfl,by simp[gW]⟩
  .clear f1 f2 f4 f25 hoT fr;rintro j0 fr s4 dA ⟨f1,f2,f4,f9,f55,M7,T,A2,hE,hT,hR,htot⟩ fi fn JO hJO;have hd:=Jh (aQ g) j0 dA;have W5:(aQ g).drop j0=(aQ g).getD j0 []::(aQ g).drop (j0+1):=by rw[aAN dA,aAg,aAh dA];rfl
   obtain⟨hdre,L6⟩:=nC hgE (l:=(aQ g).getD j0 []) (by rw[aAg,aAh dA];exact aAE _);rw[W5]at hE;unfold zI at hE;obtain⟨oD,hD,hE⟩:=aBz.1 hE;generalize (aQ g).getD j0 []=l at *;have hkn4:=M7.next;have hM24:=hT.mlt.2;have hel4:(sY (aQ g)).length=(aQ g).length:=by simp[sY]
   (refine xj6 f55 fi fn dA hd hel4 ?_;intro J hJ)
   refine qE (ZB hdre hD s4 oO) sS ?_;rintro r s5 ⟨rfl,hk5⟩;have hO5:=(hk5.H (st.next+1) oO).trans ((M7.H (st.next+1) oO).trans hO3);have hk45:=M7.trans hk5;cases oD with
   |none=>simp only at hE;obtain rfl:none=oT:=aBn hE;simp only at ho;obtain rfl:none=o:=aBn ho;unfold drR;refine vP hJ f2 hO5 ?_;exact⟨by simp[Jz,z0,z0L],(hKt.trans hk45).set oO _⟩
   |some F=>
    simp only at hE
    split at hE
    case isFalse=>cases hE
    rename_i U6;obtain⟨o1,o2,o3,o4,o5⟩:=U6;unfold drR
    (refine NI hJ f2 hO5 ?_;intro J hJ)
    refine qE (Sw F s5 o1 o2) sS ?_;rintro r s6 ⟨M,loc,rfl,hM⟩;have hMk:=hM.kp;have hnd:=hM.nd;have hkeyN:=QZ (aT F) loc
    (refine pG hJ ?_;intro J hJ)
    refine xcP (Ys M _) ?_;have hM7:(s6.new (.box 87 1 [.mp M])).H M=.map false [.u32] (ouL (aT F) loc):=by rw[bY,aAa (by have:=hM.olt;omega)];exact hM.out
    refine dQ hJ ?_;refine qE (US M s6.next (ouL (aT F) loc) ((aT F).map (·.1)) _ (by simpa[ouL]using o3) sS hM7 hkeyN hnd) sS ?_;rintro r s8 ⟨rfl,hk8⟩;have hk68:=(aA.new s6 _).trans hk8;have hn5:=hk5.next;have hn6:=hMk.next;have hn8:=hk68.next;have M0:s8.H M=.map false [.u32] (ouL (aT F) loc):=(hk68.H M hM.olt.2).trans hM.out;have hinn:∀ a∈aT F,s8.H (loc a.1)=.map false [.u32] (inL a.2)/\s5.next<=loc a.1/\loc a.1<s8.next:=fun a ha=>by obtain⟨q1,q2,q3⟩:=hM.inn a ha;exact⟨(hk68.H _ q3).trans q1,q2.1,oO⟩
    have hMo:s5.next<=M/\M<s8.next:=⟨hM.olt.1,by have:=hM.olt.2;omega⟩;have hk48:=(hk5.trans hMk).trans hk68;have hT8:=hT.keep hk48;have hk38:=M7.trans hk48;have hTW:∀ a∈A2,a.2.1<s5.next\/s8.next<=a.2.1:=fun a ha=>.inl (by have:=(hT.tok a ha).2.2.1;omega);have c7:=Ks F;clear hM hM7 hk68 hMk hk48 hT hk8 hk5 hO5 hk45 hkeyN;unfold vA at hE o5;generalize aT F=AF at *;have hKm:=fun x=>qZ x (AF.map (·.1));have hKl:(qA (AF.map (·.1))).length<=1000:=aBa (JF _) (by rw[aAD];exact o3);generalize qA (AF.map (·.1))=K at *;refine dQ hJ ?_;refine aY 75 74 76 103 (K.length) (fun j fr st2=>(fr 1=.pt st.next 0/\fr 2=.pt (st.next+1) 0/\fr 4=.mp s1.next/\fr 9=.mp s3.next/\fr 55=.sl 0 (aQ g).length (sY (aQ g))/\fr 56=i (aQ g).length/\fr 57=i j0/\fr 14=.mp M/\fr 73=.sl 0 K.length (us K))/\TI s1.next s3.next s5.next s3 s8 (fN g AF (K.take j) T) st2) ?_ ?_ ?_
    .exact⟨⟨sF1 f1,sF1 f2,sF1 f4,sF1 f9,sF1 f55,sF1 fn,sF1 fi,sS,sS⟩,hk38,aAl _,fun l _ _=>rfl,A2,hT8,hR,hTW⟩
    .clear f1 f2 f4 f9 f55 fn fi fr hT8 hR hTW;rintro k1 fr s9 Z3 ⟨⟨f1,f2,f4,f9,f55,f56,f57,f14,f73⟩,hTI⟩ fi fn J1 hJ1;have z7:=qG K k1 Z3;have hsn1:fN g AF (K.take (k1+1)) T=dW g (K.getD k1 0) (bX (dH (K.getD k1 0) AF)) (fN g AF (K.take k1) T):=by have h1:K.take (k1+1)=K.take k1++[K[k1]]:=aAp Z3;unfold fN;rw[h1,aBM,aW _ _ Z3];rfl
     have htot1:gW (fN g AF (K.take (k1+1)) T)<=100000:=by have h1:=EP g AF (K.drop (k1+1)) (fN g AF (K.take (k1+1)) T);rw[<- HW]at h1;omega
     have hvK:K.getD k1 0∈AF.map (·.1):=(hKm _).1 (by rw[aW _ _ Z3];exact aAE _);have hvA:=Hf hvK;have hgM:=FU AF loc (K.getD k1 0);rw[aAj hvK]at hgM;rw[hsn1]at htot1 hJ1;clear hsn1;generalize fN g AF (K.take k1) T=Tk at *;generalize K.getD k1 0=v at *;obtain⟨hI1,hI2,hI3⟩:=hinn _ hvA;have hPl:=o4 _ hvA;have hP0:=c7 _ hvA;simp only at hI1 hI2 hI3 hPl hP0;have hLl:=Km (dH v AF);generalize dH v AF=P at *;have hTI':=hTI;obtain⟨hk9,hn9,hW,A9,hT9,hR9,hTW9⟩:=hTI';have hM9:=(hW M hMo.1 hMo.2).trans M0;have hI9:=(hW _ hI2 hI3).trans hI1;clear hT9 hR9 hTW9 hW;generalize loc v=lv at *
     (refine xj8 f73 fi fn Z3 z7 f14 hM9 hgM ?_;intro J hJ)
     refine xcP (Yf P lv s9 hP0 oO hI9 oO) ?_;have hLn:(bX P).length<=1000:=oO;generalize bX P=L at *;refine dQ hJ ?_;refine aY 84 83 85 102 (L.length) (fun j fr st2=>(fr 1=.pt st.next 0/\fr 2=.pt (st.next+1) 0/\fr 4=.mp s1.next/\fr 9=.mp s3.next/\fr 55=.sl 0 (aQ g).length (sY (aQ g))/\fr 56=i (aQ g).length/\fr 57=i j0/\fr 14=.mp M/\fr 73=.sl 0 K.length (us K))/\(fr 74=i K.length/\fr 75=i k1/\fr 16=u v/\fr 82=.sl 0 L.length (us L))/\TI s1.next s3.next s5.next s3 s8 (dW g v (L.take j) Tk) st2) ?_ ?_ ?_
     .exact⟨⟨sF1 f1,sF1 f2,sF1 f4,sF1 f9,sF1 f55,sF1 f56,sF1 f57,sF1 f14,sF1 f73⟩,⟨sF1 fn,sF1 fi,sS,sS⟩,hTI⟩
     .clear f1 f2 f4 f9 f55 f56 f57 f14 f73 fi fn fr hTI hk9 hn9 hM9 hI9 s9;rintro k2 fr s9 O3 ⟨⟨f1,f2,f4,f9,f55,f56,f57,f14,f73⟩,⟨f74,f75,f16,f82⟩,hk9,hn9,hW,A9,hT9,hR9,hTW9⟩ fi fn J2 hJ2;have O7:=qG L k2 O3;have hsn2:dW g v (L.take (k2+1)) Tk=pL v (fP (kN g v (L.getD k2 0)) v (L.getD k2 0)) (dW g v (L.take k2) Tk):=by have h1:L.take (k2+1)=L.take k2++[L[k2]]:=aAp O3;unfold dW;rw[h1,aBM,aW _ _ O3];rfl
      have htot2:gW (dW g v (L.take (k2+1)) Tk)<=100000:=by have h1:=xD g v (L.drop (k2+1)) (dW g v (L.take (k2+1)) Tk);rw[<- IZ]at h1;omega
      rw[hsn2]at htot2 hJ2;clear hsn2;generalize dW g v (L.take k2) Tk=Tq at *;generalize L.getD k2 0=x at *;have hbun:=hB.get hA3.nd (prP v x);have hMB:s9.H s1.next=.map true [.u32,.u32] (rmL A):=(hk9.H _ hA3.mlt.2).trans hA3.map;obtain⟨X,hX,tX,hXn⟩:∃ X,(bS (rmL A) [min v x,max v x]).getD .nil=X/\∃ t,norm X=.sl t (kN g v x).length (eds (kN g v x)):=by
       refine⟨_,rfl,?_⟩;rw[uW];rcases hbun with⟨h1,h2⟩|⟨t,h2⟩
       .refine⟨0,?_⟩;simp only[prP,pk]at h2;rw[h2];unfold kN;rw[h1];rfl
       .refine⟨t,?_⟩;simp only[prP,pk]at h2;rw[h2];rfl
      have hBl:(kN g v x).length<=200:=aBa (aBl _ _) (aBa he oO);have hBp:∀ e∈kN g v x,1<=e.id/\e.id<=1048576:=fun e h=>hgE.pos e (aAB.1 h).1;have hdarts:=fun st=>YO (kN g v x) v x tX st oO hBp;generalize kN g v x=B at *;have hmg:=uW [v] A9;have U7:=hR9.add (v:=v) (ds:=fP B v x);have htq:=Aq v (pL v (fP B v x) Tq);have hgq:=hR9.get (v:=v);generalize hDD:fP B v x=D at *;have hMT:=hT9.map;have z1:¬s1.next=s3.next:=by have:=hA3.mlt;omega
      have z2:¬s3.next=s1.next:=fun e=>z1 e.symm;have hn39:=hk9.next;have hDt:=uL v D Tq;have hDt2:=Aq v Tq;have hD1:D.length*4<=140737488355328:=oO;have hD2:D.length<=maxLen:=by unfold maxLen;omega
      have hm2:=hT9.mlt.2;have z3:¬s3.next=s9.next:=oO;have z4:¬s9.next=s3.next:=oO;have z5:¬s1.next=s9.next:=by have:=hA3.mlt;omega
      have h35:s3.next<s5.next:=oO;refine xw5 f82 fi fn O3 O7 ?_
      (refine zS [] [s1.next,s3.next] [0,2,4,6,8,10,12,14,20,22,16,18,24,26,29] ?_;intro J hJ;simp[f4,f9,f16,hMT,hMB])
      refine xdP (pair v x _) ?_;refine⟨fun h=>by first|(cases h;done)|exact fun _ _=>rfl|simp,?_⟩
      (apply bJ;simp[hMT,hMB,hX])
      refine xdP (hdarts _) ?_ (by simp;exact hXn);refine⟨fun h=>by first|(cases h;done)|exact fun _ _=>rfl|simp,?_⟩;rcases hgq with⟨hq1,S9⟩|⟨t,S9⟩
      .rw[S9]at hmg;simp only[Option.map_none]at hmg
       (apply bJ;simp[hMT,hMB,hX,hmg,hD1,hD2,z3,z4,z5];(refine zJ hJ ?_;clear hJ J))
       refine xw0 ?_;have U7:=U7 s9.next;rw[hq1]at U7;simp only[us,aCL,List.nil_append,List.length_nil,aBv]at U7;refine hJ2 _ _ (sF1 fi) (sF1 fn) ⟨⟨sF1 f1,sF1 f2,sF1 f4,sF1 f9,sF1 f55,sF1 f56,sF1 f57,sF1 f14,sF1 f73⟩,⟨sF1 f74,sF1 f75,sF1 f16,sF1 f82⟩,(hk9.trans (aA.new _ _)).set (aAl _) _,by simp;omega,fun l q1 q2=>?_,_,hT9.put (k:=[v]) (t:=s9.next) (n:=D.length) (c:=us D) ⟨aAl _,sS⟩ sS hn39 oO (by simp[rmV]) (sF1 z4) (fun l hl hlm _=>by simp[show ¬l=s9.next by omega,hlm]),U7,fun y hy=>?_⟩
       .rw[bQ,aAa oO,bY,aAa oO];exact hW l q1 q2
       .rcases rH hT9.nd y hy with rfl|⟨hy,_⟩
        .exact .inr hn9
        .exact hTW9 y hy
      .rw[S9]at hmg;simp only[Option.map_some]at hmg;unfold rmV at hmg;simp only at hmg;obtain⟨g1,g2,g3,g4⟩:=hT9.tok _ (nX S9);simp only at g1 g2 g3 g4;have y5:¬s3.next=t:=fun e=>by rw[<- e,hMT]at g4;cases g4
       have y6:¬t=s3.next:=fun e=>y5 e.symm;have y1:¬t=s9.next:=oO;have y2:¬s9.next=t:=oO;have z6:¬s1.next=t:=by have:=hA3.mlt.2;omega
       have hD3:((eD v Tq).length+D.length)*4<=140737488355328:=oO;have hD4:(eD v Tq).length+D.length<=maxLen:=by unfold maxLen;omega
       (apply bJ;simp[hMT,hMB,hX,hmg,hD1,hD2,z3,z4,z5,z6,y1,y2,y5,y6,g1,g4,hD3,hD4];(refine zJ hJ ?_;clear hJ J))
       refine xw0 ?_;refine hJ2 _ _ (sF1 fi) (sF1 fn) ⟨⟨sF1 f1,sF1 f2,sF1 f4,sF1 f9,sF1 f55,sF1 f56,sF1 f57,sF1 f14,sF1 f73⟩,⟨sF1 f74,sF1 f75,sF1 f16,sF1 f82⟩,((hk9.set g2 _).trans (aA.new _ _)).set (aAl _) _,by simp;omega,fun l q1 q2=>?_,_,hT9.put (k:=[v]) (t:=s9.next) (n:=(eD v Tq).length+D.length) (c:=us (eD v Tq)++us D) ⟨aAl _,sS⟩ sS hn39 oO (by simp[rmV]) (sF1 z4) (fun l hl hlm hx=>?_),U7 s9.next,fun y hy=>?_⟩
       .have:=hTW9 _ (nX S9);simp only at this;rw[bQ,aAa oO,bY,aAa (by simp;omega),bQ,aAa oO];exact hW l q1 q2
       .have:=hx _ S9;simp only at this;simp[show ¬l=s9.next by omega,hlm,this]
       .rcases rH hT9.nd y hy with rfl|⟨hy,_⟩
        .exact .inr hn9
        .exact hTW9 y hy
     .rintro fr s10 ⟨⟨f1,f2,f4,f9,f55,f56,f57,f14,f73⟩,⟨f74,f75,f16,f82⟩,hTI2⟩;rw[aAU]at hTI2;refine xw0 ?_;exact hJ1 _ _ (sF1 f75) (sF1 f74) ⟨⟨sF1 f1,sF1 f2,sF1 f4,sF1 f9,sF1 f55,sF1 f56,sF1 f57,sF1 f14,sF1 f73⟩,hTI2⟩
    .rintro fr s9 ⟨⟨f1,f2,f4,f9,f55,fn,fi,f14,f73⟩,hk9,hn9,_,A9,hT9,hR9,_⟩;rw[aAU]at hR9;refine xw0 ?_;exact hJO _ _ (sF1 fi) (sF1 fn) ⟨sF1 f1,sF1 f2,sF1 f4,sF1 f9,sF1 f55,hk9,_,A9,hE,hT9,hR9,o5⟩
  .clear f1 f2 f4 f25 hoT fr;rintro fr s4 ⟨f1,f2,f4,f9,f55,M7,T,A2,hE,hT,hR,htot⟩;rw[List.drop_length]at hE;obtain rfl:some T=oT:=aBn hE;simp only at ho;by_cases hg1:∀ v∈g.vs,(eD v T).length<=1000
   case neg=>rw[aAa hg1]at ho;cases ho
   rw[aAj hg1]at ho;obtain rfl:some _=o:=aBn ho;have hO4:=(M7.H (st.next+1) oO).trans hO3;have hG4:=(M7.H st.next oO).trans hG3
   (refine xj3 f1 hG4 f9 ?_;intro J hJ)
   refine qE (Wo g s3.next (rmL A2) (fun v=>eD v T) s4 hv oO hT.mlt.2 hT.map fun v hv'=>?_) (by simp[grL]) ?_
   .rw[uW];rcases hR.get (v:=v)with⟨h1,h2⟩|⟨t,h2⟩
    .refine⟨_,0,rfl,?_,hg1 v hv'⟩;rw[h2,h1];rfl
    .refine⟨_,t,rfl,?_,hg1 v hv'⟩;rw[h2];rfl
   rintro r s5 ⟨rfl,hk5⟩;have hO5:=(hk5.H (st.next+1) (by have:=M7.next;omega)).trans hO4;refine vP hJ f2 hO5 ?_;refine⟨?_,((hKt.trans M7).trans hk5).set oO _⟩;rw[<- aAW];simp only[Jz,z0,z0L,Hg,AX,z0m,mpL,grL,aAD,List.cons_append,List.nil_append,eF]
end Aw
end Go.Proofs.YtbgngpdonpeboaaGreatDoor
