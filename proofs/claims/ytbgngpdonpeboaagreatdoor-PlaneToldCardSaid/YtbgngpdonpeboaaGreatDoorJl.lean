/- Blocks: rows of edges and rows of blocks in order. -/
import Derived.Test.YtbgngpdonpeboaaGreatDoorJk
import Derived.Test.YtbgngpdonpeboaaGreatDoorAwFz
import Derived.Test.YtbgngpdonpeboaaGreatDoorAwRg
import Derived.Test.YtbgngpdonpeboaaGreatDoorAwZ
import Derived.Test.YtbgngpdonpeboaaGreatDoorAwFr
set_option linter.unusedVariables false
set_option linter.unusedSimpArgs false
set_option linter.unusedSectionVars false
set_option maxHeartbeats 8000000
open Go.Proofs.Tryz
namespace Go.Proofs.YtbgngpdonpeboaaGreatDoor
namespace Aw
open Go Go.RowKit Pl Eu
section
variable {es:List Ed} (S9:es.Pairwise fun x y=>x.id<y.id)
include S9
theorem VP{a b:Nat}(ha:a<es.length)(hb:b<es.length):(eAt es a).id<(eAt es b).id↔a<b:=by
 unfold eAt;rw[eH _ _ ha,eH _ _ hb];rw[aAB]at S9;rcases aCk a b with k|k|k
 .exact⟨fun _=>k,fun _=>S9 a b ha hb k⟩
 .subst k;omega
 .have:=S9 b a hb ha k;omega
theorem Xd(P:List Nat)(hn:P.Nodup)(hP:∀ i∈P,i<es.length)(q:Nat)(st:St)(hl:P.length<65536)(hq:q<st.next)(hH:st.H q=.box 36 3 (eds (P.map (eAt es)))):
 aB prog 169 [.ms q 0 P.length,.fn (.func 170) []] st fun r st'=>st'.H q=.box 36 3 (eds ((sQ es.length P).map (eAt es)))/\bQ q st st':=by
 have e:∀ L:List Nat,eds ((L.map fun k:Nat=>(k:Int)).map fun x=>eAt es x.toNat)=eds (L.map (eAt es)):=fun L=>by rw[aAZ];rfl
 have h:=Xg (fun x=>eAt es x.toNat) (fun x=>0<=x/\x.toNat<es.length) (fun x y hx hy=>by rw[VP S9 hx.2 hy.2];omega) (P.map fun k:Nat=>(k:Int)) (fun x hx=>by
  obtain⟨k,hk,rfl⟩:=aAj.1 hx
  exact⟨oO,by simpa using hP k hk⟩) q st (by rw[aAD];omega) hq (by rw[e];exact hH)
 rw[aAD]at h;refine h.mono ?_;rintro r s ⟨c,h1,h2,h3,h4⟩;refine⟨?_,h4⟩;have hc:c=(sQ es.length P).map fun k:Nat=>(k:Int):=by refine Jb h3 ?_ (h2.trans ((vF hn hP).map _).symm);rw[aAU];exact(wY _ _).imp fun k=>by omega
 rw[h1,hc,e]
def bkL(es:List Ed)(out:List (List Nat)):List LV:=out.map fun B=>.sl 0 B.length (eds (B.map (eAt es)))
omit S9 in
theorem Bp(es:List Ed)(out:List (List Nat)):(bkL es out).length=out.length:=by simp[bkL]
omit S9 in
theorem Vl{z:Nat}(hz:z<es.length)(he:(iE es z).headD 0=z):∃ R,iE es z=z::R:=by
 have hm:z∈iE es z:=Gh.2 ⟨hz,.refl⟩;cases hc:iE es z with
 |nil=>rw[hc]at hm;cases hm
 |cons a R=>rw[hc]at he;simp at he;exact⟨R,by rw[he]⟩
theorem Xt(out:List (List Nat))(hall:∀ i,i∈out.flatten↔i<es.length)(K8:∀ B∈out,fB es B)(hnd:out.flatten.Nodup)(q:Nat)(st:St)(hl:out.length<65536)(hq:q<st.next)(hH:st.H q=.box 23 1 (bkL es out)):
 aB prog 98 [.ms q 0 out.length,.fn (.func 99) []] st fun r st'=>st'.H q=.box 23 1 (bkL es (gK es))/\(gK es).Perm out/\bQ q st st':=by
 obtain⟨L,hL⟩:∃ L:List Int,L=out.map fun B=>((B.headD 0:Nat):Int):=⟨_,rfl⟩;have hB:∀ B∈out,iE es (B.headD 0)=B:=fun B h=>((K8 B h).cls (head_mem (K8 B h).ne)).symm;have hD:∀ x∈L,0<=x/\x.toNat<es.length/\(iE es x.toNat).headD 0=x.toNat:=fun x hx=>by
  rw[hL]at hx;obtain⟨B,h,rfl⟩:=aAj.1 hx;refine⟨oO,?_,?_⟩
  .simpa using(K8 B h).lt _ (head_mem (K8 B h).ne)
  .rw[Int.toNat_natCast,hB B h]
 have e:∀ c:List Int,(c.map fun x=>LV.sl 0 (iE es x.toNat).length (eds ((iE es x.toNat).map (eAt es))))=bkL es (c.map fun x=>iE es x.toNat):=fun c=>by unfold bkL;rw[aAZ];rfl
 have eL:L.map (fun x=>iE es x.toNat)=out:=by
  rw[hL,aAZ];have:∀ B∈out,((fun x:Int=>iE es x.toNat)∘fun B:List Nat=>((B.headD 0:Nat):Int)) B=B:=fun B h=>by show iE es ((B.headD 0:Nat):Int).toNat=B;rw[Int.toNat_natCast];exact hB B h
  rw[aAP this,List.map_id']
 have hLn:L.Nodup:=by rw[hL];refine aAU.2 ?_;have:=(aDZ.1 hnd).2;refine this.imp_of_mem fun {a b} ha hb hd he=>?_;exact hd _ (head_mem (K8 a ha).ne) _ (head_mem (K8 b hb).ne) oO
 have h:=XP (fun x=>(iE es x.toNat).length) (fun x=>eds ((iE es x.toNat).map (eAt es))) (fun x=>(eAt es x.toNat).id) (fun x=>0<=x/\x.toNat<es.length/\(iE es x.toNat).headD 0=x.toNat) (fun x hx=>by
  obtain⟨R,hR⟩:=Vl hx.2.1 hx.2.2;rw[hR]
  exact⟨sS,_,rfl⟩) (fun x y hx hy=>by rw[VP S9 hx.2.1 hy.2.1];omega) L hD q st (by rw[hL,aAD];omega) hq (by rw[e,eL];exact hH)
 rw[show L.length=out.length by rw[hL,aAD]]at h;refine h.mono ?_;rintro r s ⟨c,h1,h2,h3,h4⟩;have hcD:∀ x∈c,0<=x/\x.toNat<es.length/\(iE es x.toNat).headD 0=x.toNat:=fun x hx=>hD x (h2.mem_iff.1 hx);have hp:(c.map fun x=>iE es x.toNat).Perm out:=by
  have:=h2.map fun x:Int=>iE es x.toNat
  rwa [eL]at this
 have hr:(c.map fun x=>iE es x.toNat).Pairwise fun x y=>x.headD 0<y.headD 0:=by rw[aAU];have hcn:=h2.nodup_iff.2 hLn;refine(h3.and hcn).imp_of_mem fun {a b} ha hb x7=>?_;have h5:=hcD a ha;have h6:=hcD b hb;rw[h5.2.2,h6.2.2];have:=x7.2;have:=x7.1;omega
 have hled:=Bb hall K8 hp hr;refine⟨by rw[h1,e,hled],by rw[<- hled];exact hp,h4⟩
end
def isN(l:List Nat):List LV:=l.map fun k:Nat=>i (k:Int)
@[simp] theorem kT(l:List Nat):(isN l).length=l.length:=by simp[isN]
theorem Qt(l:List Nat)(k:Nat)(hk:k<l.length):(isN l).drop k=i ((l.getD k 0:Nat):Int)::(isN l).drop (k+1):=by
 grind [isN,List.drop_eq_getElem_cons]
theorem Rp(l:List Nat)(k:Nat):(isN l).take k=isN (l.take k):=by simp[isN]
theorem YE{v x:Int}{V:List Int}(h:¬v=x):(v::V).idxOf x=V.idxOf x+1:=by
 grind
def nbF:Nat->List Int->List (List Int×LV)
 |_,[]=>[]
 |k,v::V=>([v],i ((k:Int)+1))::nbF (k+1) V
theorem JE(V:List Int):∀ k,(nbF k V).length=V.length:=by
 induction V with
 |nil=>intro k;rfl
 |cons v V ih=>grind [nbF]
theorem PW(V:List Int)(x:Int):∀ k,bS (nbF k V) [x]=if x∈V then some (i ((k:Int)+nmW V x))else none:=by
 induction V with
 |nil=>intro k;rfl
 |cons v V ih=>
  grind [nbF,bS,nmW]
theorem Qw{x:Int}(V:List Int)(h:x∉V):∀ k,bV (nbF k V) [x] (i ((k:Int)+V.length+1))=nbF k (V++[x]):=by
 induction V with
 |nil=>grind [nbF,bV]
 |cons v V ih=>
  intro k;rw[aAe,aCp]at h
  grind [nbF,bV]
theorem KX(V:List Int)(x:Int):bS (nbF 0 V) [x]=if x∈V then some (i (nmW V x))else none:=by
 grind [PW]
theorem Uj{x:Int}{V:List Int}(h:x∉V):bV (nbF 0 V) [x] (i ((V.length:Int)+1))=nbF 0 (V++[x]):=by
 have:=Qw V h 0
 grind
def lwF:List Int->List Int->List (List Int×LV)
 |v::V,x::L=>([v],i x)::lwF V L
 |_,_=>[]
theorem uQ:∀(V L:List Int) (x:Int),L.length=V.length->x∈V->bS (lwF V L) [x]=some (i (L.getD (V.idxOf x) 0))
 |[],_,_,_,h=>by cases h
 |v::V,[],x,hl,_=>by grind
 |v::V,y::L,x,hl,h=>by
  unfold lwF bS;by_cases e:v=x
  .grind
  .have e2:¬([x]==[v])=true:=by simpa using fun k=>e k.symm
   simp only[e2,aBa,aBN];rw[uQ V L x (by grind) (by grind),YE e];rfl
theorem xP:∀(V L:List Int) (x y:Int),L.length=V.length->x∉V->bV (lwF V L) [x] (i y)=lwF (V++[x]) (L++[y])
 |[],[],_,_,_,_=>rfl
 |[],_::_,_,_,hl,_=>by grind
 |v::V,[],x,_,hl,_=>by grind
 |v::V,z::L,x,y,hl,h=>by
  rw[aAe,aCp]at h;have e:¬([x]==[v])=true:=by simpa using h.1
  unfold lwF bV;simp only[e,aBa,aBN,List.cons_append];rw[xP V L x y (by grind) h.2]
theorem pT:∀(V L:List Int) (x y:Int),L.length=V.length->x∈V->bV (lwF V L) [x] (i y)=lwF V (L.set (V.idxOf x) y)
 |[],_,_,_,_,h=>by cases h
 |v::V,[],x,_,hl,_=>by grind
 |v::V,z::L,x,y,hl,h=>by
  unfold lwF bV;by_cases e:v=x
  .grind
  .have e2:¬([x]==[v])=true:=by simpa using fun k=>e k.symm
   simp only[e2,aBa,aBN];rw[pT V L x y (by grind) (by grind),YE e];rfl
theorem Jp{l:List Nat}{i:Nat}(h:i∈l):jI l i<l.length/\l.getD (jI l i) 0=i/\∀ j,jI l i<j->j<l.length->l.getD j 0≠i:=by
 obtain⟨P,R,rfl,hR⟩:∃ P R,l=P++i::R/\i∉R:=by
  obtain⟨P,R,e,hR⟩:=List.eq_append_cons_of_mem (aBh.2 h);refine⟨R.reverse,P.reverse,?_,by grind⟩
  grind
 grind [wV]
structure rQ(g:Gr)(B W a nb lw:Nat)(tk:Int->Nat)(s:Bw)(st:St):Prop where
 ex:∃ tS tB CS ea,st.H W=.box 126 6 [.sl 0 g.es.length (eds g.es),.mp a,.mp nb,.mp lw,.ms tS 0 s.stk.length,.ms tB 0 s.out.length]/\
  (st.H a=.map false [.u32] ea/\∀ v,bS ea [v]=if atP g.es v=[]then none else some (.sl (tk v) (atP g.es v).length (isN (atP g.es v))))/\
  st.H nb=.map false [.u32] (nbF 0 s.vis)/\st.H lw=.map false [.u32] (lwF s.vis s.low)/\(st.H tS=.box 3 1 CS/\CS.take s.stk.length=isN s.stk)/\st.H tB=.box 23 1 (bkL g.es s.out)/\
  (a≠nb/\a≠lw/\nb≠lw)/\(B<=tS/\B<=tB/\tS<st.next/\tB<st.next)
 bd:(B<=W/\B<=a/\B<=nb/\B<=lw)/\(W<st.next/\a<st.next/\nb<st.next/\lw<st.next)
theorem bC{st:St}{a b:Nat}{x y:cN}(ha:st.H a=x)(hb:st.H b=y)(h:x≠y):¬a=b:=fun e=>h (by rw[<- ha,e,hb])
theorem Ot{es:List Ed}{P:List Nat}{j:Nat}(hj:j<P.length):(P.take (j+1)).map (eAt es)=(P.take j).map (eAt es)++[eAt es (P.getD j 0)]:=by rw[aAp hj,aAu,aAg,aAh hj];rfl
structure KbB(B:Nat)(st st':St):Prop where
 next:st.next<=st'.next
 H:∀ x,x<B->st'.H x=st.H x
theorem KbB.refl(B:Nat)(st:St):KbB B st st:=⟨aAl _,fun _ _=>rfl⟩
theorem KbB.trans{B:Nat}{a b c:St}(h:KbB B a b)(k:KbB B b c):KbB B a c:=⟨aBg h.next k.next,fun x hx=>by rw[k.H x hx,h.H x hx]⟩
theorem KbB.new{B:Nat}{a b:St}(h:KbB B a b)(hB:B<=b.next)(o:cN):KbB B a (b.new o):=⟨by rw[aG];exact Nat.le_succ_of_le h.next,fun x hx=>by rw[bY,aAa oO];exact h.H x hx⟩
theorem KbB.set{B:Nat}{a b:St}(h:KbB B a b){l:Nat}(hl:B<=l)(o:cN):KbB B a (b.set l o):=⟨h.next,fun x hx=>by rw[bR,aAa oO];exact h.H x hx⟩
theorem Zd(g:Gr)(S9:g.es.Pairwise fun x y=>x.id<y.id)(B W a nb lw:Nat)(tk:Int->Nat)(s:Bw)(i0:Nat)(st:St)(h:rQ g B W a nb lw tk s st)(hi:i0∈s.stk)(hsl:∀ k∈s.stk.drop (jI s.stk i0),k<g.es.length)(O9:(s.stk.drop (jI s.stk i0)).Nodup)(he:g.es.length<=1000)(hkl:s.stk.length<=60000)(R7:s.out.length<=100000):
 aB prog 135 [.pt W 0,i i0] st fun r st'=>∃ s',GL g.es.length s i0=some s'/\rQ g B W a nb lw tk s' st'/\KbB B st st':=by
 obtain⟨hl1,Y1,hl3⟩:=Jp hi;have hcw:GL g.es.length s i0=some { s with stk:=s.stk.take (jI s.stk i0),out:=s.out++[sQ g.es.length (s.stk.drop (jI s.stk i0))] }:=by unfold GL;rw[aAk hi]
 rw[hcw];clear hcw;obtain⟨⟨tS,tB,CS,ea,hW,⟨hA,hAm⟩,hN,hL,⟨hS,Y2⟩,P9,⟨n1,n2,n3⟩,⟨b1,b2,b3,b4⟩⟩,⟨c1,c2,c3,c4⟩,d1,d2,d3,d4⟩:=h;generalize hkk:jI s.stk i0=kl at *;obtain⟨P,hP⟩:∃ P,P=s.stk.drop kl:=⟨_,rfl⟩;rw[<- hP]at hsl O9 ⊢;have hPl:P.length=s.stk.length-kl:=by rw[hP,aAO]
 have hPe:P.length<=g.es.length:=by have:=aAy O9 (fun k hk=>aBb.2 (hsl k hk));rwa [aDj]at this
 have hCS:s.stk.length<=CS.length:=by have:=congrArg List.length Y2;rw[aAv,kT]at this;omega
 have hCd:∀ k,k<s.stk.length->CS.drop k=i ((s.stk.getD k 0:Nat):Int)::CS.drop (k+1):=fun k hk=>by
  have e1:CS=isN s.stk++CS.drop s.stk.length:=by rw[<- Y2];exact(aAG _ _).symm
  rw[aAL oO]
  congr 1
  have:CS[k]'(by omega)=(isN s.stk)[k]'(by simpa using hk):=by have h2:=List.getElem_of_eq Y2 (i:=k) (by rw[aAv];omega);rw[aBG]at h2;exact h2
  rw[this];simp[isN,hk]
 have w1:=aU s.stk.length oO oO;have m1:¬W=tS:=bC hW hS sS;have m2:¬W=tB:=bC hW P9 sS;have m3:¬tS=tB:=bC hS P9 sS;have m4:¬W=a:=bC hW hA sS;have m5:¬W=nb:=bC hW hN sS;have m6:¬W=lw:=bC hW hL sS;have m7:¬a=tS:=bC hA hS sS;have m8:¬a=tB:=bC hA P9 sS;have m9:¬nb=tS:=bC hN hS sS;have m10:¬nb=tB:=bC hN P9 sS;have m11:¬lw=tS:=bC hL hS sS;have m12:¬lw=tB:=bC hL P9 sS;refine zN func135 ntmps135 [] ?_;refine xw2 hW w1 ?_;refine qL (fun n fr st2=>∃ k:Nat,n=k/\st2=st/\fr 0=.pt W 0/\fr 1=i i0/\fr 4=i k/\kl<=k/\k<s.stk.length) (s.stk.length-1) ?_ ?_
 .exact⟨s.stk.length-1,rfl,rfl,sS,sS,sS,oO,oO⟩
 rintro k fr st2 ⟨_,rfl,Q9,f0,f1,f4,j7,u5⟩ JJ hJJ;rw[Q9];clear Q9 st2;have hd:=hCd k u5;have hkc:k<CS.length:=oO;by_cases hk:k=kl;rotate_left
 .have Zy:=hl3 k oO u5;generalize s.stk.getD k 0=y at *;have hnb:((y:Int) != (i0:Int))=true:=by rw[bne_iff_ne];omega
  have w2:=aU k oO oO;refine FU f0 f1 f4 hW hS hd hkc u5 hnb w2 ?_;exact hJJ (k-1) _ _ oO ⟨k-1,rfl,rfl,sF1 f0,sF1 f1,sS,oO,oO⟩
 clear hJJ;subst hk;rw[Y1]at hd;have hnb:((i0:Int) != (i0:Int))=false:=sS;refine xw9 f0 f1 f4 hW hS hd hkc u5 hnb ?_;rw[<- hPl];refine tV 5 36 3 sS ?_;have hel:=aJ g.es;refine aY 32 31 33 46 (P.length) (fun j fr st2=>fr 0=.pt W 0/\fr 4=i k/\fr 30=.ms tS k P.length/\aA st st2/\∃ q,fr 5=.ms q 0 j/\st2.H q=.box 36 3 (eds ((P.take j).map (eAt g.es)))/\st.next<=q/\q<st2.next) ?_ ?_ ?_
 .refine⟨sF1 f0,sF1 f4,sF1 hPl,aA.new _ _,st.next,sS,by simp[eds],oO,sS⟩
 .clear f0 f1 f4 fr hd hnb;rintro j fr s1 dQ ⟨g0,g4,g30,j5,q,g5,hq,hq1,K1⟩ fi fn JO hJO;have hW1:=(j5.H W d1).trans hW;have hS1:=(j5.H tS b3).trans hS;have F7:=hCd (k+j) oO;have hPd:s.stk.getD (k+j) 0=P.getD j 0:=by rw[hP,aAg,aAg,aDf]
  rw[hPd]at F7;have M8:P.getD j 0<g.es.length:=hsl _ (by rw[aAg,aAh dQ];exact aAz _);have hde:=aP g.es _ M8;rw[Ot dQ]at hJO;have hql:(eds ((P.take j).map (eAt g.es))).length=j*3:=by rw[aJ,aAD,aAv];congr 1;omega
  have hap:eds ((P.take j).map (eAt g.es)++[eAt g.es (P.getD j 0)])=eds ((P.take j).map (eAt g.es))++edL (eAt g.es (P.getD j 0)):=by simp[eds]
  rw[hap]at hJO;unfold eAt at hJO;generalize X7:P.getD j 0=p0 at *;generalize eds ((P.take j).map (eAt g.es))=RR at *;generalize g.es.getD p0 ed0=x at *;obtain⟨xi,xa,xb⟩:=x;simp only[edL]at hJO;simp only at hde;have hkj:k+j<CS.length:=oO;have hp3:p0*3<g.es.length*3:=oO;have y1:¬q=s1.next:=oO;have y2:¬q=0:=oO
  (repeat' (first|apply qS|(refine zE ?_;intro J hJ;simp[g0,g4,g5,g30,fi,fn,hW1,hS1,F7,hde,dQ,hq,hql,hkj,M8,hp3,hel,y1,y2];(repeat refine ca ?_);refine zJ hJ ?_)))
  refine hJO _ _ (sF1 fi) (sF1 fn) ⟨by simp[g0],sF1 g4,sF1 g30,?_,s1.next+1,sS,sS,oO,sS⟩
  (repeat (first|exact j5|(refine aA.trans ?_ (aA.new _ _))|(refine aA.set ?_ oO _)))
 .rintro fr s1 ⟨g0,g4,g30,j5,q,g5,hq,hq1,K1⟩;rw[aAN]at hq;have hW1:=(j5.H W d1).trans hW;have hS1:=(j5.H tS b3).trans hS;have I4:k<=s.stk.length:=oO;have D9:=j5.next;have y1:¬q=W:=oO
  (refine xj5 g0 g4 g5 hW1 I4 ?_;intro J hJ)
  refine qE (Xd S9 P O9 hsl q _ oO (by simp;omega) (sF2 y1 hq)) sS ?_;rintro r s2 ⟨hq3,n9⟩;have K2:=n9.1;simp only[bH]at K2;have old:∀ x,x≠q->x≠W->x<st.next->s2.H x=st.H x:=fun x h1 h2 h3=>by rw[n9.2 x h1 (by simp;omega),bR,aAa h2];exact j5.H x h3
  have hW2:=n9.2 W (fun e=>y1 e.symm) (by simp;omega);rw[bR,aAk rfl]at hW2;have Z5:=(old tB oO (fun e=>m2 e.symm) b4).trans P9;have hS2:=(old tS oO (fun e=>m1 e.symm) b3).trans hS;have hA2:=(old a oO (fun e=>m4 e.symm) d2).trans hA;have hN2:=(old nb oO (fun e=>m5 e.symm) d3).trans hN;have hL2:=(old lw oO (fun e=>m6 e.symm) d4).trans hL;have L6:=(vF O9 hsl).length_eq;have o8:(eds ((sQ g.es.length P).map (eAt g.es))).length=P.length*3:=by rw[aJ,aAD,L6]
  (apply cD;simp[];refine zJ hJ ?_)
  refine sK 5 (l:=q) (n:=P.length) (sF1 g5) hq3 (aDQ o8.symm) ?_;rw[aAt (aDQ o8)];have hbL:(bkL g.es s.out).length=s.out.length:=Bp _ _;have z1:¬W=q:=fun e=>y1 e.symm;have z2:¬tB=q:=oO;have z3:¬W=s2.next:=oO;have z4:¬tB=s2.next:=oO;have z5:¬W=s2.next+1:=oO
  (repeat' (refine zE ?_;intro J hJ;simp[g0,hW2,Z5,m2,z1,z2,z3,z4,z5,hbL];(repeat refine ca ?_);refine zJ hJ ?_))
  have q1:¬a=q:=oO;have q2:¬nb=q:=oO;have q3:¬lw=q:=oO;have q4:¬tS=q:=oO;have q5:¬a=s2.next:=oO;have q6:¬nb=s2.next:=oO;have q7:¬lw=s2.next:=oO;have q8:¬tS=s2.next:=oO;have q9:¬a=s2.next+1:=oO;have q10:¬nb=s2.next+1:=oO;have q11:¬lw=s2.next+1:=oO;have q12:¬tS=s2.next+1:=oO;have q13:¬s2.next+1=W:=oO;have r1:¬a=W:=fun e=>m4 e.symm;have r2:¬nb=W:=fun e=>m5 e.symm;have r3:¬lw=W:=fun e=>m6 e.symm;have r4:¬tS=W:=fun e=>m1 e.symm;have hbk:bkL g.es (s.out++[sQ g.es.length P])=bkL g.es s.out++[.sl 0 P.length (eds ((sQ g.es.length P).map (eAt g.es)))]:=by unfold bkL;rw[aAu];simp[L6]
  have C9:(s.stk.take k).length=k:=by rw[aAv];omega
  refine⟨trivial,⟨⟨tS,s2.next+1,CS,ea,sF1 C9,⟨by simp[z1,z2,z3,z4,z5,q1,q2,q3,q4,q5,q6,q7,q8,q9,q10,q11,q12,q13,r1,r2,r3,r4,m2,m3,m8,m10,m12,hA2],hAm⟩,by simp[z1,z2,z3,z4,z5,q1,q2,q3,q4,q5,q6,q7,q8,q9,q10,q11,q12,q13,r1,r2,r3,r4,m2,m3,m8,m10,m12,hN2],by simp[z1,z2,z3,z4,z5,q1,q2,q3,q4,q5,q6,q7,q8,q9,q10,q11,q12,q13,r1,r2,r3,r4,m2,m3,m8,m10,m12,hL2],⟨by simp[z1,z2,z3,z4,z5,q1,q2,q3,q4,q5,q6,q7,q8,q9,q10,q11,q12,q13,r1,r2,r3,r4,m2,m3,m8,m10,m12,hS2],?_⟩,by simp[z1,z2,z3,z4,z5,q1,q2,q3,q4,q5,q6,q7,q8,q9,q10,q11,q12,q13,r1,r2,r3,r4,m2,m3,m8,m10,m12,hbk],⟨n1,n2,n3⟩,b1,oO,by simp;omega,sS⟩,⟨c1,c2,c3,c4⟩,by simp;omega,by simp;omega,by simp;omega,by simp;omega⟩,?_⟩
  .rw[C9,show CS.take k=(CS.take s.stk.length).take k by rw[aCf,aCX I4],Y2,Rp]
  .refine(((((KbB.mk oO fun x hx=>?_:KbB B st s2).set oO _).new ?_ _).set b2 _).new ?_ _).set c1 _
   .exact old x oO oO oO
   .simp;omega
   .simp;omega
theorem DH{P:Program}{N:Nat}{Q:AQ}{k:List gF}{fr:Frm}{st:St}{x y:Code}(I:Frm->St->Prop)(h1:AWp P N x (AK P N (fun e f s=>e=.normal/\I f s) []) fr st)(h2:∀ fr st,I fr st->AWp P N y (AK P N Q k) fr st):
 AWp P N x (AK P N Q (.code y::k)) fr st:=by
 refine cW h1 ?_;rintro e c7 st' ⟨rfl,hI⟩;rw[jA];exact h2 _ _ hI
theorem Km{f:Bw->Nat->Option Bw}:∀(l:List Nat) (i:Nat) (s:Bw),goB f (l++[i]) s=(goB f l s).bind fun s'=>f s' i
 |[],i,s=>by show(f s i).bind (goB f [])=f s i;cases f s i<;>rfl
 |j::l,i,s=>by
  show(f s j).bind (goB f (l++[i]))=((f s j).bind (goB f l)).bind _;cases f s j with
  |none=>rfl
  |some s'=>exact Km l i s'
theorem BK{P:List Nat}{n:Nat}(hn:P.Nodup)(h:∀ i∈P,i<n):P.length<=n:=by have:=aAy hn (l₂:=List.range n) fun i hi=>aBb.2 (h i hi);simpa using this
theorem yS:∀(N:List (List Nat)),(∀ B∈N,B≠[])->N.length<=N.flatten.length
 |[],_=>aAl _
 |B::N,h=>by have h1:=yS N fun B hB=>h B (aAc _ hB);have h2:=aBm.2 (h B sS);simp only[List.flatten_cons,aAm,List.length_cons];omega
theorem BLp.sz{g:Gr}{s0 s:Bw}{v y9:Int}{Q:List Nat}{D:List Int}{T:List Nat}{N:List (List Nat)}(h:BLp g s0 v y9 Q s D T N):T.length<=g.es.length/\N.length<=g.es.length:=by have hl:∀ i∈T++N.flatten,i<g.es.length:=fun i hi=>((h.pl i).1 hi).1;have h1:=BK h.pn hl;have h2:=yS N fun B hB=>(h.good B hB).ne;rw[aAm]at h1;omega
def SzB(g:Gr)(s:Bw):Prop:=s.stk.length<=s.vis.length*(g.es.length+1)/\s.out.length<=s.vis.length*(g.es.length+1)
theorem SzB.child{g:Gr}{s0 s:Bw}{v y9:Int}{Q:List Nat}{D:List Int}{T:List Nat}{N:List (List Nat)}(h0:SzB g s0)(h:BLp g s0 v y9 Q s D T N):s.stk.length+1<=s.vis.length*(g.es.length+1)/\s.out.length<=s.vis.length*(g.es.length+1):=by
 obtain⟨h1,h2⟩:=h.sz;have h3:(s0.vis.length+1)*(g.es.length+1)<=s.vis.length*(g.es.length+1):=aCa _ (by rw[h.vis,aAm,List.length_cons];omega);rw[aBX,Nat.one_mul]at h3;have e1:s.stk.length=s0.stk.length+T.length:=by rw[h.stk,aAm]
 have e2:s.out.length=s0.out.length+N.length:=by rw[h.out,aAm]
 obtain⟨k1,k2⟩:=h0;omega
theorem Am{g:Gr}{s:Bw}(hv:g.vs.length<=100)(he:g.es.length<=200)(hnd:s.vis.Nodup)(hs:∀ w∈s.vis,w∈g.vs):s.vis.length<=100/\s.vis.length*(g.es.length+1)<=20100:=by have h1:s.vis.length<=g.vs.length:=aAy hnd hs;exact⟨oO,by have:=Nat.mul_le_mul (show s.vis.length<=100 by omega) (show g.es.length+1<=201 by omega);omega⟩
theorem rQ.keeps{g:Gr}{B W a nb lw:Nat}{tk:Int->Nat}{s:Bw}{st st':St}(h:rQ g B W a nb lw tk s st)(hk:aA st st'):rQ g B W a nb lw tk s st':=by obtain⟨⟨tS,tB,CS,ea,hW,⟨hA,hAm⟩,hN,hL,⟨hS,Y2⟩,P9,hn,⟨b1,b2,b3,b4⟩⟩,hc,d1,d2,d3,d4⟩:=h;have hx:=hk.next;exact⟨⟨tS,tB,CS,ea,(hk.H W d1).trans hW,⟨(hk.H a d2).trans hA,hAm⟩,(hk.H nb d3).trans hN,(hk.H lw d4).trans hL,⟨(hk.H tS b3).trans hS,Y2⟩,(hk.H tB b4).trans P9,hn,b1,b2,oO,oO⟩,hc,oO,oO,oO,oO⟩
theorem TA{g:Gr}{B W a nb lw:Nat}{tk:Int->Nat}{s:Bw}{S:St}{tS tB:Nat}{CS:List LV}{ea:List (List Int×LV)}(i0:Nat)
 (hW:S.H W=.box 126 6 [.sl 0 g.es.length (eds g.es),.mp a,.mp nb,.mp lw,.ms tS 0 s.stk.length,.ms tB 0 s.out.length])
 (hA:S.H a=.map false [.u32] ea) (hAm:∀ v,bS ea [v]=if atP g.es v=[]then none else some (.sl (tk v) (atP g.es v).length (isN (atP g.es v))))
 (hN:S.H nb=.map false [.u32] (nbF 0 s.vis)) (hL:S.H lw=.map false [.u32] (lwF s.vis s.low)) (hS:S.H tS=.box 3 1 CS) (P9:S.H tB=.box 23 1 (bkL g.es s.out))
 (hn:a≠nb/\a≠lw/\nb≠lw) (hb:B<=tS/\B<=tB/\tS<S.next/\tB<S.next) (hc:B<=W/\B<=a/\B<=nb/\B<=lw) (hd:W<S.next/\a<S.next/\nb<S.next/\lw<S.next) (o:cN):
 rQ g B W a nb lw tk (eN s i0) ((((S.new o).set tS .dead).new (.box 3 1 (isN s.stk++[i (i0:Int)]))).set W (.box 126 6 [.sl 0 g.es.length (eds g.es),.mp a,.mp nb,.mp lw,.ms (S.next+1) 0 (s.stk.length+1),.ms tB 0 s.out.length]))/\
 KbB B S ((((S.new o).set tS .dead).new (.box 3 1 (isN s.stk++[i (i0:Int)]))).set W (.box 126 6 [.sl 0 g.es.length (eds g.es),.mp a,.mp nb,.mp lw,.ms (S.next+1) 0 (s.stk.length+1),.ms tB 0 s.out.length])):=by
 obtain⟨b1,b2,b3,b4⟩:=hb;obtain⟨c1,c2,c3,c4⟩:=hc;obtain⟨d1,d2,d3,d4⟩:=hd;have m1:¬a=W:=bC hA hW sS;have m2:¬nb=W:=bC hN hW sS;have m3:¬lw=W:=bC hL hW sS;have m4:¬tB=W:=bC P9 hW sS;have m5:¬a=tS:=bC hA hS sS;have m6:¬nb=tS:=bC hN hS sS;have m7:¬lw=tS:=bC hL hS sS;have m8:¬tB=tS:=bC P9 hS sS;have e1:¬a=S.next:=oO;have e2:¬nb=S.next:=oO;have e3:¬lw=S.next:=oO;have e4:¬tB=S.next:=oO;have e5:¬a=S.next+1:=oO;have e6:¬nb=S.next+1:=oO;have e7:¬lw=S.next+1:=oO;have e8:¬tB=S.next+1:=oO;have e9:¬S.next+1=W:=oO;have M8:(eN s i0).stk.length=s.stk.length+1:=by simp[eN]
 have hpn:isN (eN s i0).stk=isN s.stk++[i (i0:Int)]:=by simp[eN,isN]
 refine⟨⟨⟨S.next+1,tB,isN s.stk++[i (i0:Int)],ea,by rw[M8];simp[eN],⟨sF5 m1 m5 e1 e5 hA,hAm⟩,by simp[m2,m6,e2,e6,hN,eN],by simp[m3,m7,e3,e7,hL,eN],⟨sF1 e9,?_⟩,by simp[m4,m8,e4,e8,P9,eN],hn,oO,b2,sS,by simp;omega⟩,⟨c1,c2,c3,c4⟩,by simp;omega,by simp;omega,by simp;omega,by simp;omega⟩,?_⟩
 .rw[M8,<- hpn,aAt];rw[kT,M8];exact aAl _
 .exact(((((KbB.refl B S).new oO _).set b1 _).new (by simp;omega) _).set c1 _)
theorem Bn{P:Program}{N:Nat}{Q:AQ}{c:Code}{fr:Frm}{st:St}(I:Frm->St->Prop)(h0:I fr st)(h:∀ fr st,I fr st->AWp P N c Q fr st):AWp P N c Q fr st:=h _ _ h0
theorem Oh{g:Gr}{B W a nb lw:Nat}{tk:Int->Nat}{s:Bw}{T:St}(h:rQ g B W a nb lw tk s T)(v x:Int):rQ g B W a nb lw tk (mV s v x) (T.set lw (.map false [.u32] (lwF s.vis (s.low.set (s.vis.idxOf v) x)))):=by obtain⟨⟨tS,tB,CS,ea,hW,⟨hA,hAm⟩,hN,hL,⟨hS,Y2⟩,P9,⟨n1,n2,n3⟩,⟨b1,b2,b3,b4⟩⟩,hc,d1,d2,d3,d4⟩:=h;have m1:¬W=lw:=bC hW hL sS;have m2:¬tS=lw:=bC hS hL sS;have m3:¬tB=lw:=bC P9 hL sS;have m4:¬a=lw:=n2;have m5:¬nb=lw:=n3;exact⟨⟨tS,tB,CS,ea,by simp[m1,hW,mV],⟨sF2 m4 hA,hAm⟩,by simp[m5,hN,mV],by simp[mV],⟨sF2 m2 hS,Y2⟩,by simp[m3,P9,mV],⟨n1,n2,n3⟩,b1,b2,by simpa using b3,by simpa using b4⟩,hc,by simpa using d1,by simpa using d2,by simpa using d3,by simpa using d4⟩
def VsI(g:Gr)(tk:Int->Nat)(Z4:Nat->Bw->Bw->Prop)(B W a nb lw:Nat)(s0:Bw)(v y9:Int)(st:St)(j:Nat)(fr:Frm)(st2:St):Prop:=
 fr 0=.pt W 0/\fr 1=u v/\fr 2=i y9/\fr 6=i ((s0.vis.length:Int)+1)/\fr 35=.sl (tk v) (atP g.es v).length (isN (atP g.es v))/\
 ∃ s D T N,Z4 j s0 s/\BLp g s0 v y9 ((atP g.es v).take j) s D T N/\(∀ w∈s.vis,w∈g.vs)/\rQ g B W a nb lw tk s st2/\KbB B st st2
theorem WU(g:Gr)(hg:GoodE g)(B W a nb lw:Nat)(tk:Int->Nat)(hv:g.vs.length<=100)(he:g.es.length<=200):∀(n:Nat) (A:Int->Prop) (s:Bw) (v y9:Int) (st:St),yH g A s v y9->v∈g.vs->(∀ w∈s.vis,w∈g.vs)->g.vs.length<=n+s.vis.length->SzB g s->rQ g B W a nb lw tk s st->
 aB prog 97 [.pt W 0,u v,i y9] st fun r st'=>∃ s1,nQ g.es n v y9 s=some s1/\rQ g B W a nb lw tk s1 st'/\KbB B st st':=by
 intro n;induction n with
 |zero=>intro A s v y9 st h hvv hs hn _ _;obtain⟨s1,C,T,N,e,_⟩:=EH hg 0 A s v y9 h hvv hs hn;cases e
 |succ n ih=>
  intro A s0 v y9 st h0 hvv hs hn K6 hbw;obtain⟨U9,hsb⟩:=Am hv he h0.nd hs;obtain⟨⟨tS,tB,CS,ea,hW,⟨hA,hAm⟩,hN,hL,⟨hS,Y2⟩,P9,⟨n1,n2,n3⟩,⟨b1,b2,b3,b4⟩⟩,⟨c1,c2,c3,c4⟩,d1,d2,d3,d4⟩:=hbw;have m4:¬W=a:=bC hW hA sS;have m5:¬W=nb:=bC hW hN sS;have m6:¬W=lw:=bC hW hL sS;have r8:=JE s0.vis 0;have hms:=Uj h0.new;have J4:=xP s0.vis s0.low v ((s0.vis.length:Int)+1) h0.ln h0.new;have hav:=hAm v;have w1:IntKind.i64.wrap ((s0.vis.length:Int)+1)=(s0.vis.length:Int)+1:=zW;have r1:¬a=nb:=n1;have r2:¬a=lw:=n2;have r3:¬nb=lw:=n3;have r4:¬lw=nb:=fun e=>n3 e.symm;refine zN func97 ntmps97 [] ?_;have hbs:=h0.start;have hstS:(oE s0 v).stk=s0.stk:=rfl;have hb0:rQ g B W a nb lw tk (oE s0 v) ((st.set nb (.map false [.u32] (nbF 0 (s0.vis++[v])))).set lw (.map false [.u32] (lwF (s0.vis++[v]) (s0.low++[(s0.vis.length:Int)+1])))):=by have q1:¬W=nb:=m5;have q2:¬tS=nb:=bC hS hN sS;have q3:¬tS=lw:=bC hS hL sS;have q4:¬tB=nb:=bC P9 hN sS;have q5:¬tB=lw:=bC P9 hL sS;exact⟨⟨tS,tB,CS,ea,by simp[m5,m6,hW,oE],⟨sF3 r1 r2 hA,hAm⟩,by simp[r3,oE],by simp[oE],⟨sF3 q2 q3 hS,Y2⟩,by simp[q4,q5,P9,oE],⟨n1,n2,n3⟩,b1,b2,by simpa using b3,by simpa using b4⟩,⟨c1,c2,c3,c4⟩,by simpa using d1,by simpa using d2,by simpa using d3,by simpa using d4⟩
  have J8:KbB B st ((st.set nb (.map false [.u32] (nbF 0 (s0.vis++[v])))).set lw (.map false [.u32] (lwF (s0.vis++[v]) (s0.low++[(s0.vis.length:Int)+1])))):=((KbB.refl B st).set c3 _).set c4 _;have hv0:∀ w∈(oE s0 v).vis,w∈g.vs:=fun w hw=>by
   have hw:w∈s0.vis++[v]:=hw;rcases aAd.1 hw with k|k
   .exact hs w k
   .rw[aAi]at k;rw[k];exact hvv
  by_cases O7:atP g.es v=[]
  .rw[aAk O7]at hav;have V9:nQ g.es (n+1) v y9 s0=some (oE s0 v):=by unfold nQ;rw[O7];rfl
   refine PO hW hN hL hA m4 m5 m6 r8 hms J4 hav w1 r1 r2 r3 r4 ?_;refine aY 37 36 38 137 (0) (fun j fr st2=>st2=(st.set nb (.map false [.u32] (nbF 0 (s0.vis++[v])))).set lw (.map false [.u32] (lwF (s0.vis++[v]) (s0.low++[(s0.vis.length:Int)+1])))) ?_ ?_ ?_
   .rfl
   .intro j fr s dQ;omega
   .rintro fr s X2;rw[X2];refine xw0 ?_;exact⟨trivial,_,V9,hb0,J8⟩
  .rw[aAa O7]at hav;have hnd:(atP g.es v).Nodup:=aCw _ aDt;have hatl:(atP g.es v).length<=g.es.length:=BK hnd fun i hi=>(aS.1 hi).1;refine PO hW hN hL hA m4 m5 m6 r8 hms J4 hav w1 r1 r2 r3 r4 ?_;clear hW hN hL hA hAm hS Y2 P9 r8 hms J4 hav m4 m5 m6 r1 r2 r3 r4 n1 n2 n3 b1 b2 b3 b4 d1 d2 d3 d4;refine aY 37 36 38 137 ((atP g.es v).length) (fun j fr st2=>VsI g tk (fun j s' s=>goB (gY (nQ g.es n) g.es v y9 ((s0.vis.length:Int)+1)) ((atP g.es v).take j) (oE s' v)=some s) B W a nb lw s0 v y9 st j fr st2) ?_ ?_ ?_
   .exact⟨sS,sS,sS,sS,sS,oE s0 v,[],[],[],rfl,hbs,hv0,hb0,J8⟩
   .rintro j fr s1 dQ ⟨f0,f1,f2,f6,f35,s,D,T,N,Z4,L6,hsv,hbw,hkb⟩ fi fn JO hJO;have hgt:(atP g.es v).getD j 0=(atP g.es v)[j]:=by rw[aAg,aAh dQ];rfl
    have C9:(atP g.es v).take (j+1)=(atP g.es v).take j++[(atP g.es v).getD j 0]:=by rw[aAp dQ,hgt]
    have hi:(atP g.es v).getD j 0∈atP g.es v:=by rw[hgt];exact aAz _
    have hiQ:(atP g.es v).getD j 0∉(atP g.es v).take j:=fun k=>by have h1:=hnd;rw[<- aAG (j+1) (atP g.es v),C9,aAE,aAo]at h1;exact h1.2.2 _ k _ sS rfl
    have hd:=Qt (atP g.es v) j dQ;generalize (atP g.es v).getD j 0=i0 at *;obtain⟨hil,hie⟩:=aS.1 hi;have next:∀ s2,gY (nQ g.es n) g.es v y9 ((s0.vis.length:Int)+1) s i0=some s2->goB (gY (nQ g.es n) g.es v y9 ((s0.vis.length:Int)+1)) ((atP g.es v).take (j+1)) (oE s0 v)=some s2:=fun s2 e=>by rw[C9,Km,Z4];exact e
    by_cases hb:(i0:Int)=y9
    .have hbb:((i0:Int)==y9)=true:=by simpa using hb
     refine xw8 f0 f2 f35 fi fn hd dQ hbb ?_;exact hJO _ _ (sF1 fi) (sF1 fn) ⟨sF1 f0,sF1 f1,sF1 f2,sF1 f6,sF1 f35,s,D,T,N,next s (by unfold gY;rw[aAk hb]),by rw[C9];exact L6.same hg h0 hi hb,hsv,hbw,hkb⟩
    have hbb:((i0:Int)==y9)=false:=by simpa using hb
    have hbw':=hbw;obtain⟨⟨tS,tB,CS,ea,hW,⟨hA,hAm⟩,hN,hL,⟨hS,Y2⟩,P9,⟨n1,n2,n3⟩,⟨b1,b2,b3,b4⟩⟩,-,d1,d2,d3,d4⟩:=hbw';have hde:=aP g.es i0 hil;have hel:=aJ g.es;have hi3:i0*3<g.es.length*3:=oO;have y1:¬W=s1.next:=oO;have y2:¬nb=s1.next:=oO;have y3:¬lw=s1.next:=oO;have y4:¬tS=s1.next:=oO;have y5:¬a=s1.next:=oO;have y6:¬tB=s1.next:=oO;obtain⟨w,hw⟩:∃ w,w=oth (eAt g.es i0) v:=⟨_,rfl⟩;have N8:w=if(g.es.getD i0 ed0).a=v then(g.es.getD i0 ed0).b else(g.es.getD i0 ed0).a:=hw
    (repeat (apply qS));(refine zE ?_;intro J hJ;simp[f35,fi,fn,hd,dQ];(refine zJ hJ ?_;clear hJ J))
    (repeat (apply qS));(refine zE ?_;intro J hJ;simp[f2];(refine zJ hJ ?_;clear hJ J))
    (apply qC;simp[hbb])
    refine qK (zZ ?_)
    (repeat (apply qS));(refine zE ?_;intro J hJ;simp[f0,hW,hde,hil,hi3,hel];(refine zJ hJ ?_;clear hJ J))
    (repeat (apply qS));(refine zE ?_;intro J hJ;simp[];(refine zJ hJ ?_;clear hJ J))
    apply qS;refine DH (fun f T=>f 0=.pt W 0/\f 1=u v/\f 2=i y9/\f 6=i ((s0.vis.length:Int)+1)/\f 35=.sl (tk v) (atP g.es v).length (isN (atP g.es v))/\f 36=i (atP g.es v).length/\f 37=i j/\f 8=i i0/\f 10=u w/\∃ o,T=s1.new o) ?_ ?_
    .have hxg:g.es.getD i0 ed0=g.es[i0]:=eH _ _ hil;rw[hxg]at N8;by_cases hxa:g.es[i0].a=v
     .have hxb:(g.es[i0].a==v)=true:=by simpa using hxa
      rw[aAk hxa]at N8;refine xw3 f0 f1 hxb ?_;exact⟨trivial,sF1 f0,sF1 f1,sF1 f2,sF1 f6,sF1 f35,sF1 fn,sF1 fi,sS,by rw[N8];simp,_,rfl⟩
     .have hxb:(g.es[i0].a==v)=false:=by simpa using hxa
      rw[aAa hxa]at N8;refine xw3 f0 f1 hxb ?_;exact⟨trivial,sF1 f0,sF1 f1,sF1 f2,sF1 f6,sF1 f35,sF1 fn,sF1 fi,sS,by rw[N8];simp,_,rfl⟩
    clear f0 f1 f2 f6 f35 fi fn hd hde N8 fr;rintro fr T ⟨f0,f1,f2,f6,f35,f36,f37,f8,f10,o,hT⟩;rw[hT];clear hT T;subst hw;have hW':=(show(s1.new o).H W=s1.H W by rw[bY,aAa y1]).trans hW;have hN':=(show(s1.new o).H nb=s1.H nb by rw[bY,aAa y2]).trans hN;have hL':=(show(s1.new o).H lw=s1.H lw by rw[bY,aAa y3]).trans hL;have hS':=(show(s1.new o).H tS=s1.H tS by rw[bY,aAa y4]).trans hS;have hA':=(show(s1.new o).H a=s1.H a by rw[bY,aAa y5]).trans hA;have hB':=(show(s1.new o).H tB=s1.H tB by rw[bY,aAa y6]).trans P9;have hbT:rQ g B W a nb lw tk s (s1.new o):=hbw.keeps (aA.new _ _);have hkT:KbB B st (s1.new o):=hkb.new oO o;have hTn:(s1.new o).next=s1.next+1:=aG _ _;generalize s1.new o=T1 at *;obtain⟨szp,szo⟩:=K6.child L6;obtain⟨vl,sb⟩:=Am hv he L6.nd hsv;have hm:=KX s.vis (oth (eAt g.es i0) v);have m5:¬W=nb:=bC hW hN sS;have m6:¬W=lw:=bC hW hL sS;have m1:¬W=tS:=bC hW hS sS;have hCS:s.stk.length<=CS.length:=by have:=congrArg List.length Y2;rw[aAv,kT]at this;omega
    have t1:¬W=T1.next:=oO;have t2:¬W=T1.next+1:=oO;have t3:¬tS=T1.next:=oO;obtain⟨hpb,hpk⟩:=TA i0 hW' hA' hAm hN' hL' hS' hB' ⟨n1,n2,n3⟩ ⟨b1,b2,oO,oO⟩ ⟨c1,c2,c3,c4⟩ ⟨oO,oO,oO,oO⟩ (.own 3 1 1);by_cases c8:oth (eAt g.es i0) v∈s.vis
    .rw[aAk c8]at hm;have I2:1<=nmW s.vis (oth (eAt g.es i0) v):=by unfold nmW;rw[aAk c8];omega
     by_cases hnm:nmW s.vis (oth (eAt g.es i0) v)<(s0.vis.length:Int)+1
     .have hback:=L6.back hg h0 hi hiQ hb c8 hnm;have z8:gY (nQ g.es n) g.es v y9 ((s0.vis.length:Int)+1) s i0=some (mV (eN s i0) v (min (lwW s v) (nmW s.vis (oth (eAt g.es i0) v)))):=by unfold gY;rw[aAa hb,aAk c8,aAk hnm]
      generalize oth (eAt g.es i0) v=w at *;generalize nmW s.vis w=z at *;have hzb:(z==0)=false:=by rw[aCW];omega
      have hz0:¬z=0:=oO
      (repeat' (first|apply qS|apply qB|(apply qC;simp[f0,f1,f6,f8,f10,hW',hN',hm,hzb,hz0,hnm,hS',Y2,hCS,m1,t1,t2,t3])|(refine zE ?_;intro J hJ;simp[f0,f1,f6,f8,f10,hW',hN',hm,hzb,hz0,hnm,hS',Y2,hCS,m1,t1,t2,t3];(repeat refine ca ?_);(refine zJ hJ ?_;clear hJ J))))
      refine Bn (fun f T2=>f 0=.pt W 0/\f 1=u v/\f 2=i y9/\f 6=i ((s0.vis.length:Int)+1)/\f 35=.sl (tk v) (atP g.es v).length (isN (atP g.es v))/\f 36=i (atP g.es v).length/\f 37=i j/\f 11=i z/\rQ g B W a nb lw tk (eN s i0) T2/\KbB B T1 T2) ⟨sF1 f0,sF1 f1,sF1 f2,sF1 f6,sF1 f35,sF1 f36,sF1 f37,sS,hpb,hpk⟩ ?_;clear f0 f1 f2 f6 f35 f36 f37 f8 f10 hpb hpk fr;rintro fr T2 ⟨f0,f1,f2,f6,f35,f36,f37,f11,R6,u5⟩;have Q5:=Oh R6 v (min (lwW s v) z);have J4:=uQ s.vis s.low v L6.ln (L6.v_in hg h0);have hmo:=pT s.vis s.low v (min (lwW s v) z) L6.ln (L6.v_in hg h0);obtain⟨⟨tS2,tB2,CS2,ea2,jW,-,-,jL,-,-,-,-⟩,-,-⟩:=R6;have jm6:¬W=lw:=bC jW jL sS;have jL:T2.H lw=.map false [.u32] (lwF s.vis s.low):=jL;have J4:bS (lwF s.vis s.low) [v]=some (i (lwW s v)):=J4
      (refine zS [] [W,lw] [0,2,4,6,8,10,12,14,16,18,20,22,24,27] ?_;intro J hJ;simp[f0,f1,f11,jW,jL,J4,hmo];(refine zJ hJ ?_;clear hJ J))
      have F8:(if z<lwW s v then z else lwW s v)=min (lwW s v) z:=by split<;>omega
      rw[F8,show bV (lwF s.vis s.low) [v] (LV.atom (Value.int IntKind.i64 (min (lwW s v) z)))=_ from hmo];exact hJO _ _ (sF1 f37) (sF1 f36) ⟨sF1 f0,sF1 f1,sF1 f2,sF1 f6,sF1 f35,_,D,T++[i0],N,next _ z8,by rw[C9];exact hback,hsv,Q5,(hkT.trans u5).set c4 _⟩
     .have hskip:=L6.skip hg h0 hi c8 hnm;have z8:gY (nQ g.es n) g.es v y9 ((s0.vis.length:Int)+1) s i0=some s:=by unfold gY;rw[aAa hb,aAk c8,aAa hnm]
      generalize oth (eAt g.es i0) v=w at *;generalize nmW s.vis w=z at *;have hzb:(z==0)=false:=by rw[aCW];omega
      have hz0:¬z=0:=oO;refine FU f0 f1 f6 f10 hW' hN' hm hzb hz0 hnm ?_;exact hJO _ _ (sF1 f37) (sF1 f36) ⟨sF1 f0,sF1 f1,sF1 f2,sF1 f6,sF1 f35,s,D,T,N,next s z8,by rw[C9];exact hskip,hsv,hbT,hkT⟩
    .rw[aAa c8]at hm;have hpre:=L6.pre hg h0 hi c8;have O8:=fun s1 C T' N' hp=>L6.child hg h0 hi hiQ hb c8 (s1:=s1) (C:=C) (T':=T') (N':=N') hp;have hwv:oth (eAt g.es i0) v∈g.vs:=hg.nbr (lK hi);have hwne:=vM hg hi;have z8:gY (nQ g.es n) g.es v y9 ((s0.vis.length:Int)+1) s i0=(nQ g.es n (oth (eAt g.es i0) v) i0 (eN s i0)).bind (NK g.es.length v ((s0.vis.length:Int)+1) i0 (oth (eAt g.es i0) v)):=by unfold gY;rw[aAa hb,aAa c8]
     generalize oth (eAt g.es i0) v=w at *
     (repeat' (first|apply qS|apply qB|(apply qC;simp[f0,f1,f6,f8,f10,hW',hN',hm,hS',Y2,hCS,m1,t1,t2,t3])|(refine zE ?_;intro J hJ;simp[f0,f1,f6,f8,f10,hW',hN',hm,hS',Y2,hCS,m1,t1,t2,t3];(repeat refine ca ?_);(try (refine zJ hJ ?_;clear hJ J)))))
     have hlen:s.vis.length=s0.vis.length+1+D.length:=by rw[L6.vis,aAm,List.length_cons];omega
     refine qE (ih _ (eN s i0) w i0 _ hpre hwv hsv (by show g.vs.length<=n+s.vis.length;omega) ⟨by simpa[eN]using szp,szo⟩ hpb) sS ?_;rintro r T2 ⟨s2,V9,P3,u5⟩;obtain⟨s2',C,T',N',hvis',hp,hC⟩:=EH hg n _ (eN s i0) w i0 hpre hwv hsv (by show g.vs.length<=n+s.vis.length;omega);obtain rfl:s2=s2':=by rw[V9]at hvis';exact aBj hvis'
     clear hvis';obtain⟨s3,D2,T3,N2,U1,hbl3⟩:=O8 s2 C T' N' hp;have hst3:gY (nQ g.es n) g.es v y9 ((s0.vis.length:Int)+1) s i0=some s3:=by rw[z8,V9];exact U1
     have hkT2:KbB B st T2:=(hkT.trans hpk).trans u5;have X5:v∈s.vis:=L6.v_in hg h0;have hvs2:v∈s2.vis:=by rw[hp.vis];exact aAr _ X5
     have hws2:w∈s2.vis:=by rw[hp.vis];exact aAx _ hp.hd
     have hs2v:∀ x∈s2.vis,x∈g.vs:=fun x hx=>by rw[hp.vis,aAd]at hx;exact hx.elim (hsv x) (hC x)
     have hmv:bS (lwF s2.vis s2.low) [v]=some (i (lwW s2 v)):=uQ s2.vis s2.low v hp.ln hvs2;have hmw:bS (lwF s2.vis s2.low) [w]=some (i (lwW s2 w)):=uQ s2.vis s2.low w hp.ln hws2;have hmo:=pT s2.vis s2.low v (min (lwW s2 v) (lwW s2 w)) hp.ln hvs2;have Q5:=Oh P3 v (min (lwW s2 v) (lwW s2 w));have hmw3:bS (lwF s2.vis (s2.low.set (s2.vis.idxOf v) (min (lwW s2 v) (lwW s2 w)))) [w]=some (i (lwW s2 w)):=by have h1:=uQ s2.vis (s2.low.set (s2.vis.idxOf v) (min (lwW s2 v) (lwW s2 w))) w (by rw[aCH];exact hp.ln) hws2;have h2:=Et (x:=min (lwW s2 v) (lwW s2 w)) hp.ln hvs2 hws2;rw[aAa hwne]at h2;rw[h1];exact congrArg (fun y=>some (i y)) h2
     obtain⟨⟨tS2,tB2,CS2,ea2,jW,-,-,jL,-,-,-,-⟩,-,-⟩:=P3;have jm6:¬W=lw:=bC jW jL sS;have F8:(if lwW s2 w<lwW s2 v then lwW s2 w else lwW s2 v)=min (lwW s2 v) (lwW s2 w):=by split<;>omega
     (apply cD;simp[];(refine zJ hJ ?_;clear hJ J))
     (repeat (apply qS));(refine zS [] [W,lw] [0,2,4,6,8,10,12,14,16,18,20,22,24,26,28,30,32,34,37] ?_;intro J hJ;simp[f0,f1,f10,jW,jL,hmv,hmw];(refine zJ hJ ?_;clear hJ J))
     rw[F8,show bV (lwF s2.vis s2.low) [v] (LV.atom (Value.int IntKind.i64 (min (lwW s2 v) (lwW s2 w))))=_ from hmo];have hW3:(T2.set lw (.map false [.u32] (lwF s2.vis (s2.low.set (s2.vis.idxOf v) (min (lwW s2 v) (lwW s2 w)))))).H W=T2.H W:=by rw[bR,aAa jm6]
     unfold NK at U1;by_cases hc:(s0.vis.length:Int)+1<=lwW s2 w
     .rw[aAk hc]at U1;have hstk:s2.stk=s.stk++i0::T':=by rw[hp.stk];show(s.stk++[i0])++T'=_;simp
      have hiT:i0∉T':=fun k=>((hp.pl i0).1 (aAr _ k)).2.1 rfl;have hTn:=(aAo.1 hp.pn).1;have hTl:∀ k∈T',k<g.es.length:=fun k hk=>((hp.pl k).1 (aAr _ hk)).1;have hTlen:=BK hTn hTl;have hNl:=yS N' fun B hB=>(hp.good B hB).ne;have hNf:=BK (aAo.1 hp.pn).2.1 fun k hk=>((hp.pl k).1 (aAx _ hk)).1;have ho2:s2.out.length=s.out.length+N'.length:=by rw[hp.out,aAm];rfl
      have hk2l:s2.stk.length=s.stk.length+1+T'.length:=by rw[hstk,aAm,List.length_cons];omega
      have U5:jI s2.stk i0=s.stk.length:=by rw[hstk];exact wV hiT
      have hdrop:s2.stk.drop (jI s2.stk i0)=i0::T':=by rw[U5,hstk,aCN]
      have D3:=Zd g hg.ids B W a nb lw tk (mV s2 v (min (lwW s2 v) (lwW s2 w))) i0 _ Q5 (by show i0∈s2.stk;rw[hstk];simp)
       (by show ∀ k∈s2.stk.drop (jI s2.stk i0),k<g.es.length
           rw[hdrop];intro k hk;rcases aAe.1 hk with e|e
           .rw[e];exact hil
           .exact hTl k e)
       (by show(s2.stk.drop (jI s2.stk i0)).Nodup
           rw[hdrop];exact aAq.2 ⟨hiT,hTn⟩) oO (by show s2.stk.length<=60000;omega) (by show s2.out.length<=100000;omega)
      (refine xj8 f0 f6 f8 f10 jW jm6 hmw3 hc ?_;intro J hJ)
      refine qE D3 sS ?_;rintro r T4 ⟨s4,hcw,hb4,F5⟩;obtain rfl:s4=s3:=by rw[hcw]at U1;exact aBj U1
      have hv4:s4.vis=s2.vis:=by
       unfold GL at hcw
       split at hcw
       .cases hcw;rfl
       .cases hcw
      refine dK hJ ?_;exact hJO _ _ (sF1 f37) (sF1 f36) ⟨sF1 f0,sF1 f1,sF1 f2,sF1 f6,sF1 f35,_,D2,T3,N2,next _ hst3,by rw[C9];exact hbl3,fun x hx=>hs2v x (by rw[<- hv4];exact hx),hb4,(hkT2.set c4 _).trans F5⟩
     .rw[aAa hc]at U1;obtain rfl:=aBj U1;refine xw7 f0 f6 f10 jW jm6 hmw3 hc ?_;exact hJO _ _ (sF1 f37) (sF1 f36) ⟨sF1 f0,sF1 f1,sF1 f2,sF1 f6,sF1 f35,_,D2,T3,N2,next _ hst3,by rw[C9];exact hbl3,hs2v,Q5,hkT2.set c4 _⟩
   .rintro fr s1 ⟨f0,f1,f2,f6,f35,s,D,T,N,Z4,L6,hsv,hbw,hkb⟩;rw[aAN]at Z4;refine xw0 ?_;exact⟨trivial,s,Z4,hbw,hkb⟩
theorem QO{P:Program}{N:Nat}{Q:AQ}{k:List gF}{fr:Frm}{st:St}{x:Code}(I:Frm->St->Prop)(h1:AWp P N x (AK P N (fun e f s=>e=.normal/\I f s) []) fr st)(h2:∀ fr st,I fr st->AK P N Q k .normal fr st):
 AWp P N x (AK P N Q k) fr st:=by
 refine cW h1 ?_;rintro e c7 st' ⟨rfl,hI⟩;exact h2 _ _ hI
theorem DC{P:Program}{N:Nat}{Q:AQ}{fr:Frm}{st:St}{c:Code}(q e' s':Nat){e s:Nat}(pre post:List LV)(hH:st.H q=.box e s (pre++.nil::post))
 (h:AWp P N c Q fr ((st.new (.box e' s' [])).set q (.box e s (pre++.ms st.next 0 0::post)))):AWp P N c Q fr st:=by
 refine iV (fun a w g hi hr _=>?_) h;have he:=ext_nil w g;have h1:Inv w g.addNil (st.new (.box e' s' [])):=jF hi _ (.inr ⟨e',s',rfl⟩);have dQ:q<st.next:=Aq hi hH sS;refine⟨g.addNil,Bc h1 (cs:=pre++.nil::post) (by rw[bY,aAa oO];exact hH) sS (fun vs hv=>?_),hr.mono he,he⟩;obtain⟨v,k1,k2⟩:=mQ pre vs hv;refine k2 g.addNil _ (Ext.refl _ _) ?_;simp only[Rep]at k1 ⊢;exact⟨none,0,k1,aAl _,aBE _,fun _=>by simp[G.addNil,hi.next],fun h=>absurd rfl h,by simp[G.addNil,hi.next]⟩
structure AtR(lo:Nat)(ρ:Int->List Nat)(ea:List (List Int×LV))(tk:Int->Nat)(st:St):Prop where
 get:∀ v,bS ea [v]=if ρ v=[]then none else some (.sl (tk v) (ρ v).length (isN (ρ v)))
 own:∀ v,ρ v≠[]->st.H (tk v)=.own 3 1 (ρ v).length/\(tk v≠0/\lo<=tk v/\tk v<st.next)
 inj:∀ v w,ρ v≠[]->ρ w≠[]->tk v=tk w->v=w
def mB(ρ:Int->List Nat)(v:Int)(k:Nat):Int->List Nat:=fun w=>if w=v then ρ v++[k]else ρ w
theorem AtR.put{lo:Nat}{ρ:Int->List Nat}{ea:List (List Int×LV)}{tk:Int->Nat}{st st':St}(h:AtR lo ρ ea tk st)(v:Int)(k:Nat){t n:Nat}(hn:n=(ρ v).length+1)(ht:st.next<=t/\t<st'.next/\t≠0/\lo<=t)(hH:st'.H t=.own 3 1 n)
 (ho:∀ w,w≠v->ρ w≠[]->st'.H (tk w)=st.H (tk w)) (hl:st.next<=st'.next):AtR lo (mB ρ v k) (bV ea [v] (.sl t n (isN (ρ v)++[i (k:Int)]))) (fun w=>if w=v then t else tk w) st' where
 get:=fun w=>by
  rw[rF];unfold mB;by_cases e:w=v
  .subst e;rw[aAk rfl,aAk rfl,aAk rfl,aAa sS,hn];simp[isN]
  .rw[aAa (by simpa using e),aAa e,aAa e];exact h.get w
 own:=fun w hw=>by
  unfold mB at hw ⊢;by_cases e:w=v
  .rw[aAk e,aAk e];exact⟨by rw[hH,hn];simp,ht.2.2.1,ht.2.2.2,ht.2.1⟩
  .rw[aAa e]at hw;rw[aAa e,aAa e];obtain⟨h1,h2,h3,h4⟩:=h.own w hw;exact⟨by rw[ho w e hw];exact h1,h2,h3,oO⟩
 inj:=fun x y hx hy he=>by
  unfold mB at hx hy;by_cases e1:x=v
  .by_cases e2:y=v
   .rw[e1,e2]
   .rw[aAa e2]at hy;simp only[aAk e1,aAa e2]at he;have:=(h.own y hy).2.2.2;omega
  .rw[aAa e1]at hx;by_cases e2:y=v
   .simp only[aAa e1,aAk e2]at he;have:=(h.own x hx).2.2.2;omega
   .rw[aAa e2]at hy;simp only[aAa e1,aAa e2]at he;exact h.inj x y hx hy he
theorem AtR.keeps{lo:Nat}{ρ:Int->List Nat}{ea:List (List Int×LV)}{tk:Int->Nat}{st st':St}(h:AtR lo ρ ea tk st)(hk:aA st st'):AtR lo ρ ea tk st':=
 ⟨h.get,fun v hv=>by obtain⟨h1,h2,h3,h4⟩:=h.own v hv;exact⟨by rw[hk.H _ h4];exact h1,h2,h3,by have:=hk.next;omega⟩,h.inj⟩
def atK(es:List Ed)(k:Nat)(v:Int):List Nat:=(List.range k).filter fun i=>decide ((eAt es i).a=v\/(eAt es i).b=v)
theorem RL{es:List Ed}{k:Nat}(Zy:(eAt es k).a≠(eAt es k).b):atK es (k+1)=mB (mB (atK es k) (eAt es k).a k) (eAt es k).b k:=by
 funext v
 unfold atK mB;rw[aDy,aDd];by_cases hb:v=(eAt es k).b
 .subst hb;rw[aAk rfl,aAa (fun e=>Zy e.symm)];simp
 .rw[aAa hb];by_cases ha:v=(eAt es k).a
  .subst ha;simp
  .rw[aAa ha];have:¬((eAt es k).a=v\/(eAt es k).b=v):=oO;rw[aDR,aAa (by simpa using this)];simp
def AtI(g:Gr)(p:Nat)(st:St)(ρ:Int->List Nat)(s:St):Prop:=s.H p=.box 25 2 (grL g)/\s.H (p+4)=.box 126 6 [.sl 0 g.es.length (eds g.es),.mp (p+1),.mp (p+2),.mp (p+3),.ms (p+5) 0 0,.ms (p+6) 0 0]/\s.H (p+2)=.map false [.u32] []/\s.H (p+3)=.map false [.u32] []/\s.H (p+5)=.box 3 1 []/\s.H (p+6)=.box 23 1 []/\p+7<=s.next/\aA st s/\
 ∃ ea tk,s.H (p+1)=.map false [.u32] ea/\AtR (p+7) ρ ea tk s
theorem Ae{es:List Ed}{n:Nat}:∀(l:List Int) (v:Int) (s:Bw),sN es n (l++[v]) s=(sN es n l s).bind fun s'=>sN es n [v] s'
 |[],v,s=>rfl
 |w::l,v,s=>by
  simp only[List.cons_append,sN]
  split
  .exact Ae l v s
  .cases nQ es n w (-1) s with
   |none=>rfl
   |some s'=>exact Ae l v s'
theorem JW.sz{g:Gr}{s:Bw}(h:JW g s):SzB g s:=by
 have h1:=yS s.out fun B hB=>(h.good B hB).ne;have h2:=BK h.pn fun i hi=>((h.pl i).1 hi).1;unfold SzB;rw[h.stk];refine⟨aBE _,?_⟩;cases hv:s.vis with
 |nil=>
  have:s.out.flatten=[]:=aBP.2 fun i hi=>by have:=((h.pl i).1 hi).2;rw[hv]at this;cases this
  rw[this]at h1;rw[List.length_nil,aEw];exact h1
 |cons w V=>rw[List.length_cons,aBX];omega
theorem AtI.keeps{g:Gr}{p:Nat}{st:St}{ρ:Int->List Nat}{s s':St}(h:AtI g p st ρ s)(hk:aA s s'):AtI g p st ρ s':=by obtain⟨h0,h1,h2,h3,h4,h5,h6,h7,ea,tk,h8,h9⟩:=h;have:=hk.next;exact⟨(hk.H _ oO).trans h0,(hk.H _ oO).trans h1,(hk.H _ oO).trans h2,(hk.H _ oO).trans h3,(hk.H _ oO).trans h4,(hk.H _ oO).trans h5,oO,h7.trans hk,ea,tk,(hk.H _ oO).trans h8,h9.keeps hk⟩
theorem HO:∀ {out:List (List Nat)},(∀ B∈out,B≠[])->out.length<=out.flatten.length
 |[],_=>by simp
 |B::out,h=>by have h1:=HO (out:=out) fun B hB=>h B (aAc _ hB);have h2:=aBm.2 (h B sS);simp only[List.length_cons,List.flatten_cons,aAm];omega
theorem Tg{es:List Ed}{out:List (List Nat)}(hall:∀ i,i∈out.flatten↔i<es.length)(K8:∀ B∈out,fB es B)(hnd:out.flatten.Nodup):out.length<=es.length:=by have h1:=HO fun B hB=>(K8 B hB).ne;have h2:=aAy hnd fun k hk=>aBb.2 ((hall k).1 hk);rw[aDj]at h2;omega
theorem UM(g:Gr)(hg:GoodE g)(st:St)(hv:g.vs.length<=100)(he:g.es.length<=200):
 aB prog 60 [.ag (grL g)] st fun r st'=>∃ q,r=.ms q 0 (gK g.es).length/\st'.H q=.box 23 1 (bkL g.es (gK g.es))/\st.next<=q/\q<st'.next/\aA st st':=by
 obtain⟨S,hS,hSk,hSa,hSn,G2⟩:=qW hg;have hel:=aJ g.es;have S9:=hg.ids;refine zN func60 ntmps60 [.tmp 2] ?_;refine fE fun E0=>?_;have x1:¬st.next=st.next+1:=oO;have x2:¬st.next=st.next+1+1:=oO;have x3:¬st.next=st.next+1+1+1:=oO;have x4:¬st.next=st.next+1+1+1+1:=oO;have x5:¬st.next=st.next+1+1+1+1+1:=oO;have x6:¬st.next=st.next+1+1+1+1+1+1:=oO;refine xw4 x1 x2 x3 x4 ?_;refine DC (st.next+1+1+1+1) 3 1 (e:=126) (s:=6) [.sl 0 g.es.length (eds g.es),.mp (st.next+1),.mp (st.next+1+1),.mp (st.next+1+1+1)] [.nil] sS ?_;refine DC (st.next+1+1+1+1) 23 1 (e:=126) (s:=6) [.sl 0 g.es.length (eds g.es),.mp (st.next+1),.mp (st.next+1+1),.mp (st.next+1+1+1),.ms (st.next+5) 0 0] [] sS ?_;obtain⟨p,hp⟩:∃ p,p=st.next:=⟨_,rfl⟩;refine aY 18 17 19 55 (g.es.length) (fun j fr st2=>fr 1=.pt p 0/\fr 3=.pt (p+4) 0/\fr 16=.sl 0 g.es.length (eds g.es)/\AtI g p st (atK g.es j) st2) ?_ ?_ ?_
 .subst hp;refine⟨sS,sS,sS,?_⟩;refine⟨sF6 x1 x2 x3 x4 x5 x6,?_,sS,sS,sS,sS,sS,?_,[],fun _=>0,sS,⟨fun v=>rfl,fun v hv=>absurd rfl hv,fun v w hv=>absurd rfl hv⟩⟩
  .simp
  ·(repeat (first|exact aA.refl _|(refine aA.trans ?_ (aA.new _ _))|(refine aA.set ?_ oO _)))
 .clear x1 x2 x3 x4 x5 x6;rintro j fr s dQ ⟨f1,f3,f16,hI⟩ fi fn JO hJO;have hde:=aP g.es j dQ;have hj3:j*3<g.es.length*3:=oO;have Zy:=hg.ne _ (Ec dQ);have hsu:=RL (es:=g.es) (k:=j) Zy;rw[hsu]at hJO;clear hsu;unfold eAt at hJO;generalize g.es.getD j ed0=x at *;obtain⟨id,xa,xb⟩:=x;simp only at hJO hde;have hρ:∀ w,(atK g.es j w).length<=10000:=fun w=>by have:=aBf (fun i=>decide ((eAt g.es i).a=w\/(eAt g.es i).b=w)) (List.range j);rw[aDj]at this;unfold atK;omega
  generalize atK g.es j=ρ at *;have hpn:p+7<=s.next:=hI.2.2.2.2.2.2.1;refine xw9 f1 f3 f16 fi fn hde dQ hj3 hel ?_;refine Bn (fun f T=>f 1=.pt p 0/\f 3=.pt (p+4) 0/\f 4=i j/\f 5=.pt s.next 0/\f 16=.sl 0 g.es.length (eds g.es)/\f 17=i g.es.length/\f 18=i j/\s.next<T.next/\T.H s.next=.box 36 3 [u id,u xa,u xb]/\AtI g p st (ρ) T) ⟨sF1 f1,sF1 f3,sS,sS,sF1 f16,sF1 fn,sF1 fi,sS,sS,hI.keeps (aA.new _ _)⟩ ?_;generalize s.next=X at *;clear f1 f3 f16 fi fn hI fr;rintro fr s2 ⟨f1,f3,f4,f5,f16,fn,fi,hXl,hX,hI⟩;refine DH (fun f T=>f 1=.pt p 0/\f 3=.pt (p+4) 0/\f 4=i j/\f 5=.pt X 0/\f 16=.sl 0 g.es.length (eds g.es)/\f 17=i g.es.length/\f 18=i j/\X<T.next/\T.H X=.box 36 3 [u id,u xa,u xb]/\AtI g p st (mB ρ xa j) T) ?_ ?_
  .obtain⟨hG,hW,hN,hL,hS,hB,D9,j5,ea,tk,hA,hR⟩:=hI;have G8:=hR.get xa;have k1:¬X=s2.next:=oO;have k2:¬X=s2.next+1:=oO;have k3:¬X=p+1:=oO;have e0:¬p+4=s2.next:=oO;have e1:¬p+1=s2.next:=oO;have e2:¬p+2=s2.next:=oO;have e3:¬p+3=s2.next:=oO;have e4:¬p=s2.next:=oO;have e5:¬p+5=s2.next:=oO;have e6:¬p+6=s2.next:=oO;have e7:¬p+4=s2.next+1:=oO;have e8:¬p+1=s2.next+1:=oO;have e9:¬p+2=s2.next+1:=oO;have e10:¬p+3=s2.next+1:=oO;have e11:¬p=s2.next+1:=oO;have e12:¬p+5=s2.next+1:=oO;have e13:¬p+6=s2.next+1:=oO;have e14:¬s2.next+1=p+1:=oO;have e15:¬s2.next=p:=oO;have tkl:∀ w,ρ w≠[]->¬tk w=s2.next/\¬tk w=s2.next+1/\¬tk w=p+1:=fun w hw=>by have:=(hR.own w hw).2;omega
   by_cases hr:ρ xa=[]
   .rw[aAk hr]at G8
    (refine zS [] [X,p+4,p+1] [0,2,4,6,8,10,12,14,16,18,20,22,24,26,28,30,33] ?_;intro J hJ;simp[f3,f4,f5,hX,hW,hA,G8,k1,k2,k3,e0,e1,e4,e7,e8,e14,e15];(repeat refine ca ?_);refine zJ hJ ?_)
    have T0:=hR.put xa j (t:=s2.next+1) (n:=1) (st':=(((s2.new (.own 3 1 1)).new (.own 3 1 1)).set (p+1) (.map false [.u32] (bV ea [xa] (.sl (s2.next+1) 1 [i (j:Int)]))))) (by rw[hr];rfl) ⟨oO,sS,oO,oO⟩ (sF2 e14 e15) (fun w hw h0=>by obtain⟨t1,t2,t3⟩:=tkl w h0;simp[t1,t2,t3]) (by simp;omega);rw[hr]at T0;refine⟨by trivial,sF1 f1,sF1 f3,sF1 f4,sF1 f5,sF1 f16,sF1 fn,sF1 fi,by simp;omega,sF4 k1 k2 k3 hX,?_⟩;refine⟨sF3 e4 e11 hG,sF3 e0 e7 hW,sF3 e2 e9 hN,sF3 e3 e10 hL,sF3 e5 e12 hS,sF3 e6 e13 hB,by simp;omega,?_,_,_,by simp<;>rfl,T0⟩
    (repeat (first|exact j5|(refine aA.trans ?_ (aA.new _ _))|(refine aA.set ?_ oO _)))
   .rw[aAa hr]at G8;obtain⟨hO,t0,tl,tu⟩:=hR.own xa hr;obtain⟨t1,t2,t3⟩:=tkl xa hr;have t4:¬X=tk xa:=fun e=>by rw[<- e,hX]at hO;cases hO
    have hrl:(isN (ρ xa)).length=(ρ xa).length:=kT _;have hrb:(ρ xa).length<=10000:=hρ _;have p0:¬p=tk xa:=oO;have p1:¬p+1=tk xa:=oO;have p2:¬p+2=tk xa:=oO;have p3:¬p+3=tk xa:=oO;have p4:¬p+4=tk xa:=oO;have p5:¬p+5=tk xa:=oO;have p6:¬p+6=tk xa:=oO
    (refine zS [] [X,p+4,p+1] [0,2,4,6,8,10,12,14,16,18,20,22,24,26,28,30,33] ?_;intro J hJ;simp[f3,f4,f5,hX,hW,hA,G8,hO,hrl,t0,t1,t4,p1,p4,k1,k2,k3,e0,e1,e4,e7,e8,e14,e15];(repeat refine ca ?_);refine zJ hJ ?_)
    have T0:=hR.put xa j (t:=s2.next+1) (n:=(ρ xa).length+1) (st':=((((s2.new (.own 3 1 1)).set (tk xa) .dead).new (.own 3 1 ((ρ xa).length+1))).set (p+1) (.map false [.u32] (bV ea [xa] (.sl (s2.next+1) ((ρ xa).length+1) (isN (ρ xa)++[i (j:Int)]))))) ) rfl ⟨oO,sS,oO,oO⟩ (sF2 e14 e15) (fun w hw h0=>by obtain⟨u1,u2,u3⟩:=tkl w h0;have u4:¬tk w=tk xa:=fun e=>hw (hR.inj w xa h0 hr e);simp[u1,u2,u3,u4]) (by simp;omega);refine⟨by trivial,sF1 f1,sF1 f3,sF1 f4,sF1 f5,sF1 f16,sF1 fn,sF1 fi,by simp;omega,sF5 k1 k2 k3 t4 hX,?_⟩;refine⟨sF4 p0 e4 e11 hG,sF4 p4 e0 e7 hW,sF4 p2 e2 e9 hN,sF4 p3 e3 e10 hL,sF4 p5 e5 e12 hS,sF4 p6 e6 e13 hB,by simp;omega,?_,_,_,by simp<;>rfl,T0⟩
    (repeat (first|exact j5|(refine aA.trans ?_ (aA.new _ _))|(refine aA.set ?_ oO _)))
  clear f1 f3 f4 f5 f16 fi fn hXl hX hI fr s2;rintro fr s2 ⟨f1,f3,f4,f5,f16,fn,fi,hXl,hX,hI⟩;have hρ':∀ w,((mB ρ xa j) w).length<=10001:=fun w=>by
   have h1:=hρ xa;have h2:=hρ w;unfold mB
   split
   .rw[aAm,List.length_singleton];omega
   .omega
  refine QO (fun f T=>f 1=.pt p 0/\f 3=.pt (p+4) 0/\f 4=i j/\f 5=.pt X 0/\f 16=.sl 0 g.es.length (eds g.es)/\f 17=i g.es.length/\f 18=i j/\X<T.next/\T.H X=.box 36 3 [u id,u xa,u xb]/\AtI g p st (mB (mB ρ xa j) xb j) T) ?_ ?_
  .obtain⟨hG,hW,hN,hL,hS,hB,D9,j5,ea,tk,hA,hR⟩:=hI;have G8:=hR.get xb;have k1:¬X=s2.next:=oO;have k2:¬X=s2.next+1:=oO;have k3:¬X=p+1:=oO;have e0:¬p+4=s2.next:=oO;have e1:¬p+1=s2.next:=oO;have e2:¬p+2=s2.next:=oO;have e3:¬p+3=s2.next:=oO;have e4:¬p=s2.next:=oO;have e5:¬p+5=s2.next:=oO;have e6:¬p+6=s2.next:=oO;have e7:¬p+4=s2.next+1:=oO;have e8:¬p+1=s2.next+1:=oO;have e9:¬p+2=s2.next+1:=oO;have e10:¬p+3=s2.next+1:=oO;have e11:¬p=s2.next+1:=oO;have e12:¬p+5=s2.next+1:=oO;have e13:¬p+6=s2.next+1:=oO;have e14:¬s2.next+1=p+1:=oO;have e15:¬s2.next=p:=oO;have tkl:∀ w,(mB ρ xa j) w≠[]->¬tk w=s2.next/\¬tk w=s2.next+1/\¬tk w=p+1:=fun w hw=>by have:=(hR.own w hw).2;omega
   by_cases hr:(mB ρ xa j) xb=[]
   .rw[aAk hr]at G8
    (refine zS [] [X,p+4,p+1] [0,2,4,6,8,10,12,14,16,18,20,22,24,26,28,30,33] ?_;intro J hJ;simp[f3,f4,f5,hX,hW,hA,G8,k1,k2,k3,e0,e1,e4,e7,e8,e14,e15];(repeat refine ca ?_);refine zJ hJ ?_)
    have T0:=hR.put xb j (t:=s2.next+1) (n:=1) (st':=(((s2.new (.own 3 1 1)).new (.own 3 1 1)).set (p+1) (.map false [.u32] (bV ea [xb] (.sl (s2.next+1) 1 [i (j:Int)]))))) (by rw[hr];rfl) ⟨oO,sS,oO,oO⟩ (sF2 e14 e15) (fun w hw h0=>by obtain⟨t1,t2,t3⟩:=tkl w h0;simp[t1,t2,t3]) (by simp;omega);rw[hr]at T0;refine⟨by trivial,sF1 f1,sF1 f3,sF1 f4,sF1 f5,sF1 f16,sF1 fn,sF1 fi,by simp;omega,sF4 k1 k2 k3 hX,?_⟩;refine⟨sF3 e4 e11 hG,sF3 e0 e7 hW,sF3 e2 e9 hN,sF3 e3 e10 hL,sF3 e5 e12 hS,sF3 e6 e13 hB,by simp;omega,?_,_,_,by simp<;>rfl,T0⟩
    (repeat (first|exact j5|(refine aA.trans ?_ (aA.new _ _))|(refine aA.set ?_ oO _)))
   .rw[aAa hr]at G8;obtain⟨hO,t0,tl,tu⟩:=hR.own xb hr;obtain⟨t1,t2,t3⟩:=tkl xb hr;have t4:¬X=tk xb:=fun e=>by rw[<- e,hX]at hO;cases hO
    have hrl:(isN ((mB ρ xa j) xb)).length=((mB ρ xa j) xb).length:=kT _;have hrb:((mB ρ xa j) xb).length<=10001:=hρ' _;have p0:¬p=tk xb:=oO;have p1:¬p+1=tk xb:=oO;have p2:¬p+2=tk xb:=oO;have p3:¬p+3=tk xb:=oO;have p4:¬p+4=tk xb:=oO;have p5:¬p+5=tk xb:=oO;have p6:¬p+6=tk xb:=oO
    (refine zS [] [X,p+4,p+1] [0,2,4,6,8,10,12,14,16,18,20,22,24,26,28,30,33] ?_;intro J hJ;simp[f3,f4,f5,hX,hW,hA,G8,hO,hrl,t0,t1,t4,p1,p4,k1,k2,k3,e0,e1,e4,e7,e8,e14,e15];(repeat refine ca ?_);refine zJ hJ ?_)
    have T0:=hR.put xb j (t:=s2.next+1) (n:=((mB ρ xa j) xb).length+1) (st':=((((s2.new (.own 3 1 1)).set (tk xb) .dead).new (.own 3 1 (((mB ρ xa j) xb).length+1))).set (p+1) (.map false [.u32] (bV ea [xb] (.sl (s2.next+1) (((mB ρ xa j) xb).length+1) (isN ((mB ρ xa j) xb)++[i (j:Int)]))))) ) rfl ⟨oO,sS,oO,oO⟩ (sF2 e14 e15) (fun w hw h0=>by obtain⟨u1,u2,u3⟩:=tkl w h0;have u4:¬tk w=tk xb:=fun e=>hw (hR.inj w xb h0 hr e);simp[u1,u2,u3,u4]) (by simp;omega);refine⟨by trivial,sF1 f1,sF1 f3,sF1 f4,sF1 f5,sF1 f16,sF1 fn,sF1 fi,by simp;omega,sF5 k1 k2 k3 t4 hX,?_⟩;refine⟨sF4 p0 e4 e11 hG,sF4 p4 e0 e7 hW,sF4 p2 e2 e9 hN,sF4 p3 e3 e10 hL,sF4 p5 e5 e12 hS,sF4 p6 e6 e13 hB,by simp;omega,?_,_,_,by simp<;>rfl,T0⟩
    (repeat (first|exact j5|(refine aA.trans ?_ (aA.new _ _))|(refine aA.set ?_ oO _)))
  rintro fr s3 ⟨f1,f3,f4,f5,f16,fn,fi,hXl,hX,hI⟩;simp only[ak];exact hJO _ _ (sF1 fi) (sF1 fn) ⟨f1,f3,f16,hI⟩
 .clear x1 x2 x3 x4 x5 x6;rintro fr s1 ⟨f1,f3,f16,hI⟩;have hI':=hI;obtain⟨hG,hW,hN,hL,Y2,hB,D9,j5,ea,tk,hA,hR⟩:=hI';have G8:∀ v,bS ea [v]=if atP g.es v=[]then none else some (.sl (tk v) (atP g.es v).length (isN (atP g.es v))):=hR.get
  have hb0:rQ g (p+1) (p+4) (p+1) (p+2) (p+3) tk ⟨[],[],[],[]⟩ s1:=by refine⟨⟨p+5,p+6,[],ea,hW,⟨hA,G8⟩,hN,hL,⟨Y2,rfl⟩,hB,⟨oO,oO,oO⟩,oO,oO,oO,oO⟩,⟨oO,oO,oO,oO⟩,oO,oO,oO,oO⟩
  have hall0:JW g ⟨[],[],[],[]⟩:=⟨rfl,.nil,fun w hw=>(by cases hw),fun w hw=>(by cases hw),rfl,fun i=>by simp,sS,fun B hB=>(by cases hB)⟩;clear hW hN hL Y2 hB hA hR hI;refine xw2 f1 hG ?_;refine aY 59 58 60 73 (g.vs.length) (fun j fr st2=>fr 1=.pt p 0/\fr 3=.pt (p+4) 0/\fr 57=.sl 0 g.vs.length (us g.vs)/\KbB (p+1) s1 st2/\∃ sB,sN g.es g.vs.length (g.vs.take j) ⟨[],[],[],[]⟩=some sB/\JW g sB/\rQ g (p+1) (p+4) (p+1) (p+2) (p+3) tk sB st2) ?_ ?_ ?_
  .exact⟨sF1 f1,sF1 f3,sS,KbB.refl _ _,_,rfl,hall0,hb0⟩
  .clear f1 f3 f16 hb0 hall0 fr;rintro j fr s2 dQ ⟨f1,f3,f57,hkb,sB,hsB,hall,hbw⟩ fi fn JO hJO;have hd:=qG g.vs j dQ;have hvm:g.vs.getD j 0∈g.vs:=by rw[bB _ _ dQ];exact aAz _
   have C9:g.vs.take (j+1)=g.vs.take j++[g.vs.getD j 0]:=by rw[aAp dQ,bB _ _ dQ]
   rw[C9,Ae,hsB]at hJO;simp only[Option.bind_some]at hJO;generalize g.vs.getD j 0=v at *;have hm:=KX sB.vis v;have K6:=hall.sz;obtain⟨s3,e3,hall3,_,_⟩:=EW hg g.vs.length (aAl _) [v] sB (fun w hw=>by rw[aAi]at hw;rw[hw];exact hvm) hall;rw[e3]at hJO;have hbw':=hbw;obtain⟨⟨tS,tB,CS,ea2,jW,-,jN,-,-,-,-,-⟩,-,-⟩:=hbw';by_cases c8:v∈sB.vis
   .rw[aAk c8]at hm;have e4:s3=sB:=by unfold sN at e3;rw[aAk c8]at e3;exact(aBj e3).symm
    have hz1:1<=nmW sB.vis v:=by unfold nmW;rw[aAk c8];omega
    generalize nmW sB.vis v=z at *;have hzb:(z==0)=false:=by rw[aCW];omega
    have hz0:¬z=0:=oO;refine Wo f3 f57 fi fn hd dQ jW jN hm hzb hz0 ?_;exact hJO _ _ (sF1 fi) (sF1 fn) ⟨sF1 f1,sF1 f3,sF1 f57,hkb,s3,rfl,hall3,by rw[e4];exact hbw⟩
   .rw[aAa c8]at hm;have hpre:yH g (fun _=>False) sB v (-1):=⟨hall.ln,hall.nd,fun a ha=>ha.elim,fun w hw _=>hall.fin w hw,c8,fun a b ha=>ha.elim,.inl ⟨rfl,fun a ha=>ha⟩⟩
    (repeat' (first|apply qS|(apply qC;simp[f3,f57,fi,fn,hd,dQ,jW,jN,hm])|(refine zE ?_;intro J hJ;simp[f3,f57,fi,fn,hd,dQ,jW,jN,hm];(try refine zJ hJ ?_))))
    refine qE (WU g hg (p+1) (p+4) (p+1) (p+2) (p+3) tk hv he g.vs.length _ sB v (-1) _ hpre hvm hall.sub oO K6 hbw) sS ?_;rintro r s4 ⟨s5,h5,hb5,hk5⟩;have e5:s3=s5:=by unfold sN at e3;rw[aAa c8,h5]at e3;exact(aBj e3).symm
    refine xw0 ?_;exact hJO _ _ (sF1 fi) (sF1 fn) ⟨sF1 f1,sF1 f3,sF1 f57,hkb.trans hk5,s3,rfl,hall3,by rw[e5];exact hb5⟩
  .clear f1 f3 f16 hb0 hall0 fr;rintro fr s2 ⟨f1,f3,f57,hkb,sB,hsB,hall,hbw⟩;rw[aAN,hS]at hsB;obtain rfl:=aBj hsB;have K6:=hall.sz;obtain⟨_,sb⟩:=Am hv he hall.nd hall.sub;obtain⟨⟨tS,tB,CS,ea2,jW,-,jN,-,-,jB,-,b1,b2,b3,b4⟩,-,d1,-⟩:=hbw
   (repeat' (first|apply qS|(refine zE ?_;intro J hJ;simp[f3,jW])))
   refine qE (Xt S9 S.out hSa G2 hSn tB _ (by have:=K6.2;have:=Tg hSa G2 hSn;omega) b4 jB) sS ?_;rintro r s4 ⟨h1,h2,h3⟩;have hW4:=(h3.2 (p+4) (bC jW jB sS) d1).trans jW;have u9:=h2.length_eq;refine xw2 f3 hW4 ?_;refine⟨tB,sF1 u9,h1,oO,aAs b4 h3.1,?_⟩;refine⟨aBg j5.next (aBg hkb.next h3.1),fun x hx=>?_⟩;rw[h3.2 x oO (by have:=hkb.next;omega),hkb.H x oO,j5.H x hx]
theorem OC(n:Nat):∀ l:List Ed,fV n (eds l):=fun l=>by
 induction l with
 |nil=>simp only[eds,aCS,fV]
 |cons x l ih=>simp only[eds,aAJ,edL,List.cons_append,List.nil_append,fV];exact⟨trivial,trivial,trivial,ih⟩
theorem Uc(n:Nat)(es:List Ed):∀ out:List (List Nat),fV n (bkL es out):=fun out=>by
 induction out with
 |nil=>simp only[bkL,aCM,fV]
 |cons B out ih=>simp only[bkL,aAn,fV];exact⟨⟨.inl rfl,OC _ _⟩,ih⟩
theorem Vt(g:Gr)(hg:GoodE g)(st:St)(hv:g.vs.length<=100)(he:g.es.length<=200):
 aB prog 60 [.ag (grL g)] st fun r st'=>r=.sl 0 (gK g.es).length (bkL g.es (gK g.es))/\st'=st:=by
 refine qT (Q:=fun r=>r=.sl 0 (gK g.es).length (bkL g.es (gK g.es))) (cE ((UM g hg st hv he).mono ?_)) fun r h=>by subst h;exact⟨.inl rfl,Uc _ _ _⟩
 rintro r s ⟨q,rfl,hH,hq,K1,hk⟩;have hl:=Bp g.es (gK g.es);exact⟨q,_,_,_,_,rfl,hH,by rw[hl,aDl];exact aAl _,by rw[aAt (by rw[hl,aDl];exact aAl _)],hk.set hq _⟩
end Aw
namespace Aw
open Go Go.RowKit Pl
def JB:Option Mp->LV
 |none=>.tu [.ag [.sl 0 0 [],.sl 0 0 [],.sl 0 0 []],bb false]
 |some m=>.tu [.ag (mpL m),bb true]
noncomputable def aX(g:Gr):List (List Ed):=(gK (sE g.es)).map fun B=>B.map (eAt (sE g.es))
def rZ(l:List (List Ed)):List LV:=l.map fun l=>.sl 0 l.length (eds l)
theorem JQ(l:List Ed):(sE l).Sublist l:=by
 induction l using xD with
 |h0=>exact List.Sublist.refl _
 |h1 l x ih=>
  rw[lU]
  split
  .exact ih.trans (List.sublist_append_left _ _)
  .exact ih.append (List.Sublist.refl _)
theorem GoodE.simple{g:Gr}(h:GoodE g):GoodE ⟨g.vs,sE g.es⟩:=
 ⟨⟨h.rise,fun x hx=>h.ends x (vN _ x hx)⟩,h.ids.sublist (JQ _),fun x hx=>h.pos x (vN _ x hx),fun x hx=>h.ne x (vN _ x hx)⟩
theorem DR(g:Gr):(aX g).length<=(sE g.es).length:=by unfold aX gK;rw[aAD,aAD];exact aBg (aBf _ _) (by rw[aDj];exact aAl _)
theorem mP{g:Gr}(hg:GoodE g){B:List Nat}(hB:B∈gK g.es):fB g.es B:=by unfold gK at hB;obtain⟨i,hi,rfl⟩:=aAj.1 hB;rw[aAC,aBb]at hi;obtain⟨s,_,_,h2,_,h3⟩:=qW hg;obtain⟨B,hB,hiB⟩:=aAX.1 ((h2 i).2 hi.1);rw[<- (h3 B hB).cls hiB];exact h3 B hB
theorem pO{g:Gr}(hg:GoodE g){l:List Ed}(hl:l∈aX g):DrE l/\∀ e∈l,e∈g.es:=by
 unfold aX at hl;obtain⟨B,hB,rfl⟩:=aAj.1 hl;have W4:=hg.simple;have hB:fB (sE g.es) B:=mP W4 hB;have c8:∀ e∈B.map (eAt (sE g.es)),e∈sE g.es:=fun e he=>by obtain⟨i,hi,rfl⟩:=aAj.1 he;have e:eAt (sE g.es) i=(sE g.es)[i]'(hB.lt i hi):=eH _ _ (hB.lt i hi);rw[e];exact aAz _
 refine⟨⟨?_,fun x hx=>W4.pos x (c8 x hx),fun x hx=>W4.ne x (c8 x hx)⟩,fun e he=>vN _ e (c8 e he)⟩;rw[aAU];refine hB.rise.imp_of_mem fun {i j} hi hj hij=>?_;have e:∀ k,(hk:k∈B)->eAt (sE g.es) k=(sE g.es)[k]'(hB.lt k hk):=fun k hk=>eH _ _ (hB.lt k hk);rw[e i hi,e j hj];exact aAB.1 W4.ids i j (hB.lt i hi) (hB.lt j hj) hij
theorem z0m(R:List (List Int)):z0L (R.map fun r=>LV.sl 0 r.length (us r))=R.map fun r=>LV.sl 0 r.length (us r):=by
 induction R with
 |nil=>rfl
 |cons r R ih=>simp only[aAn,z0L,z0,Hp];rw[ih]
theorem JL(l:List (List Ed))(j:Nat)(h:j<l.length):(rZ l).drop j=.sl 0 (l.getD j []).length (eds (l.getD j []))::rZ (l.drop (j+1)):=by unfold rZ;rw[<- aCF,aAL h,aAg,aAh h];rfl
theorem HT(x:Int):∀ l,(vS x l).length<=l.length+1
 |[]=>by simp[vS]
 |y::l=>by
  have:=HT x l;unfold vS
  split
  .simp
  .split
   .simp;omega
   .simp
theorem Fj:∀ l,(pK l).length<=l.length
 |[]=>by simp[pK]
 |x::l=>by have h:=Fj l;have h2:=HT x (pK l);unfold pK at h h2 ⊢;rw[List.foldr_cons,List.length_cons];omega
theorem VM(l:List Ed):(List.map (fun _:Ed=>3) l).sum=l.length*3:=by
 induction l with
 |nil=>rfl
 |cons x l ih=>simp only[aAn,List.sum_cons,List.length_cons,ih];omega
def TI(M1 M2 a:Nat)(s3 s8:St)(T:TL)(st:St):Prop:=aA s3 st/\s8.next<=st.next/\(∀ l,a<=l->l<s8.next->st.H l=s8.H l)/\∃ A,yE false [.u32] 34 1 A M2 M2 st/\uA T A/\∀ x∈A,x.2.1<a\/s8.next<=x.2.1
theorem Ja(g:Gr)(hv:g.vs.length<=1000)(he:g.es.length<=200){o:Option Mp}(ho:(if chk g=0 then kR g (aX g)else some none)=some o)(st:St):
 aB prog 33 [.ag (grL g)] st fun r st'=>r=JB o/\aA st st':=by
 refine eR ?_;have hel:=aJ g.es;refine zN func33 ntmps33 [.cell 2 28,.tmp 3] ?_;refine fE fun E0=>?_
 (refine xj0 ?_;intro J hJ)
 refine qE (Check g _ hv oO) sS ?_;rintro r s1 ⟨rfl,j7⟩;have I2:=j7.next;simp only[aG]at I2;have O2:s1.H st.next=.box 25 2 (grL g):=by rw[j7.H _ (by simp;omega)];simp
 have hO1:s1.H (st.next+1)=.box 28 3 [.nil,.nil,.nil]:=by rw[j7.H _ sS];simp
 have hK1:aA st s1:=((aA.new _ _).trans (aA.new _ _)).trans j7;by_cases hc:chk g=0
 case neg=>
  rw[aAa hc]at ho;obtain rfl:none=o:=aBj ho;have hc2:(chk g != 0)=true:=by simpa using hc
  refine pX hJ hc2 hO1 ?_;exact⟨by simp[JB,z0,z0L],hK1.set oO _⟩
 rw[aAk hc]at ho;have hgE:=kF hc;have W4:=hgE.simple;have hc2:(chk g != 0)=false:=by simpa using hc
 have e1:¬st.next=s1.next:=oO;refine nR hJ hc2 O2 e1 ?_;refine aY 27 26 28 47 (g.es.length) (fun j fr st2=>fr 1=.pt st.next 0/\fr 2=.pt (st.next+1) 0/\fr 4=.mp s1.next/\fr 25=.sl 0 g.es.length (eds g.es)/\aA s1 st2/\∃ A,yE true [.u32,.u32] 36 3 A s1.next s1.next st2/\Fh (g.es.take j) A) ?_ ?_ ?_
 .exact⟨sS,sS,sS,sS,aA.new _ _,[],⟨by simp[rmL],sS,sS,sS,sS⟩,⟨sS,sS⟩⟩
 .rintro j fr s dQ ⟨f1,f2,f4,f25,hk,A,hA,hB⟩ fi fn JO hJO;have hd:=aP g.es j dQ;have o9:j*3<g.es.length*3:=oO;have C9:g.es.take (j+1)=g.es.take j++[g.es.getD j ed0]:=by rw[eH _ _ dQ];exact aAp dQ
  have G8:=hB.get hA.nd (prE (g.es.getD j ed0));have L7:=hB.add hA.nd (g.es.getD j ed0);rw[<- C9]at L7;have hEl:(g.es.take j).length<=200:=by rw[aAv];omega
  generalize g.es.take j=E at *;generalize g.es.take (j+1)=E' at *;generalize g.es.getD j ed0=x at *;obtain⟨d,a,b⟩:=x;have L6:(jP E (prP a b)).length<=200:=aBg (aBf _ _) hEl;simp only[prE,prP,pk]at G8 L7 L6 hd;have hM:=hA.map;have E5:=tJ [min a b,max a b] A;have c0:¬s1.next=s.next:=by have:=hA.mlt;omega
  refine xw7 f25 fi fn dQ hd hel o9 ?_;refine Bu (fun f s'=>f 1=.pt st.next 0/\f 2=.pt (st.next+1) 0/\f 4=.mp s1.next/\f 25=.sl 0 g.es.length (eds g.es)/\f 26=i g.es.length/\f 27=i j/\aA s1 s'/\∃ A,yE true [.u32,.u32] 36 3 A s1.next s1.next s'/\Fh E' A) ?_ ?_;rotate_left
  .rintro fr s' ⟨f1,f2,f4,f25,fn,fi,I4,hA'⟩;exact hJO _ _ fi fn ⟨sF1 f1,sF1 f2,sF1 f4,sF1 f25,I4,hA'⟩
  have I6:¬s.next=s1.next:=fun e=>c0 e.symm;have x1:¬s1.next=s.next+1:=by have:=hA.mlt;omega
  have x2:¬s.next+1=s1.next:=fun e=>x1 e.symm;have x3:¬s1.next=s.next+1+1:=by have:=hA.mlt;omega
  have x4:¬s.next+1+1=s1.next:=fun e=>x3 e.symm;rcases G8 with⟨u6,hgn⟩|⟨t,hgs⟩
  .rw[hgn]at E5;simp only[Option.map_none]at E5;have L7:=L7 (s.next+1+1);rw[u6]at L7;simp only[eds,aCS,List.nil_append,List.length_nil,aBv]at L7
   have u7:∀ f:Frm,f 1=.pt st.next 0->f 2=.pt (st.next+1) 0->f 4=.mp s1.next->f 25=.sl 0 g.es.length (eds g.es)->f 26=i g.es.length->f 27=i j->(f 1=.pt st.next 0/\f 2=.pt (st.next+1) 0/\f 4=.mp s1.next/\f 25=.sl 0 g.es.length (eds g.es)/\f 26=i g.es.length/\f 27=i j/\aA s1 ((((s.new (.box 36 3 [u d,u a,u b])).new (.own 36 3 1)).new (.own 36 3 1)).set s1.next (.map true [.u32,.u32] (bV (rmL A) [min a b,max a b] (.sl (s.next+1+1) 1 [u d,u a,u b]))))/\∃ A',yE true [.u32,.u32] 36 3 A' s1.next s1.next ((((s.new (.box 36 3 [u d,u a,u b])).new (.own 36 3 1)).new (.own 36 3 1)).set s1.next (.map true [.u32,.u32] (bV (rmL A) [min a b,max a b] (.sl (s.next+1+1) 1 [u d,u a,u b]))))/\Fh E' A'):=fun f q1 q2 q3 q4 q5 q6=>
    ⟨q1,q2,q3,q4,q5,q6,(((hk.trans (aA.new _ _)).trans (aA.new _ _)).trans (aA.new _ _)).set (aAl _) _,_,hA.put (k:=[min a b,max a b]) (t:=s.next+1+1) (n:=1) (c:=[u d,u a,u b]) ⟨oO,sS⟩ (by simp;omega) hk.next oO (by simp[rmV]) (sF1 x4) (fun l hl X1 _=>by simp[show ¬l=s.next by omega,show ¬l=s.next+1 by omega,show ¬l=s.next+1+1 by omega,X1]),L7⟩
   refine w_a [] [s1.next,s.next] ?_;intro J hJ;refine kP 6 [(0,true),(1,true),(2,true),(3,true),(4,true),(6,true),(7,true),(8,true),(9,true),(10,true),(13,true)] ?_;simp[f4,c0,I6,hM,E5,x1,x2,x3,x4];refine sH 5 (5,true) (14,true) ?_ ?_
   .simp[f4,c0,I6,hM,E5,x1,x2,x3,x4];refine xdP (pair a b _) ?_;refine⟨fun h=>by first|(cases h;done)|exact fun _ _=>rfl|simp[f4,c0,I6,hM,E5,x1,x2,x3,x4],?_⟩;refine sH 4 (11,true) (14,true) ?_ ?_
    .simp[f4,c0,I6,hM,E5,x1,x2,x3,x4];refine xdP (pair a b _) ?_;refine⟨fun h=>by first|(cases h;done)|exact fun _ _=>rfl|simp[f4,c0,I6,hM,E5,x1,x2,x3,x4],?_⟩;refine kP 0 [(12,true),(14,true),(15,true),(16,false)] ?_;simp[f4,c0,I6,hM,E5,x1,x2,x3,x4];refine⟨by unfold maxLen;omega,eK (hJ _ _ ?_)⟩;simp only[ak];refine⟨trivial,u7 _ ?_ ?_ ?_ ?_ ?_ ?_⟩<;>simp[f1,f2,f4,f25,fn,fi]
    .simp[f4,c0,I6,hM,E5,x1,x2,x3,x4];refine kP 0 [(11,true),(12,true),(15,true),(16,false)] ?_;simp[f4,c0,I6,hM,E5,x1,x2,x3,x4];refine xdP (pair a b _) ?_;refine⟨fun h=>by first|(cases h;done)|exact fun _ _=>rfl|simp[f4,c0,I6,hM,E5,x1,x2,x3,x4],?_⟩;simp[f4,c0,I6,hM,E5,x1,x2,x3,x4];refine⟨by unfold maxLen;omega,eK (hJ _ _ ?_)⟩;simp only[ak];refine⟨trivial,u7 _ ?_ ?_ ?_ ?_ ?_ ?_⟩<;>simp[f1,f2,f4,f25,fn,fi]
   .simp[f4,c0,I6,hM,E5,x1,x2,x3,x4];refine kP 0 [(5,true),(11,true),(12,true),(15,true),(16,false)] ?_;simp[f4,c0,I6,hM,E5,x1,x2,x3,x4];refine xdP (pair a b _) ?_;refine⟨fun h=>by first|(cases h;done)|exact fun _ _=>rfl|simp[f4,c0,I6,hM,E5,x1,x2,x3,x4],?_⟩;simp[f4,c0,I6,hM,E5,x1,x2,x3,x4];refine xdP (pair a b _) ?_;refine⟨fun h=>by first|(cases h;done)|exact fun _ _=>rfl|simp[f4,c0,I6,hM,E5,x1,x2,x3,x4],?_⟩;simp[f4,c0,I6,hM,E5,x1,x2,x3,x4];refine⟨by unfold maxLen;omega,eK (hJ _ _ ?_)⟩;simp only[ak];refine⟨trivial,u7 _ ?_ ?_ ?_ ?_ ?_ ?_⟩<;>simp[f1,f2,f4,f25,fn,fi]
  .rw[hgs]at E5;simp only[Option.map_some]at E5;unfold rmV at E5;simp only at E5;obtain⟨k1,k2,k3,k4⟩:=hA.tok _ (mH hgs);simp only at k1 k2 k3 k4;have y1:¬t=s.next:=oO;have y2:¬t=s.next+1:=oO;have y3:¬s.next=t:=oO;have y4:¬s.next+1=t:=oO;have y5:¬s1.next=t:=fun e=>by rw[<- e,hM]at k4;cases k4
   have y6:¬t=s1.next:=fun e=>y5 e.symm;have J7:(List.map (fun _:Ed=>3) (jP E (min a b,max a b))).sum=(jP E (min a b,max a b)).length*3:=VM _;have L7:=L7 (s.next+1+1);have Z6:=aJ (jP E (min a b,max a b))
   have u7:∀ f:Frm,f 1=.pt st.next 0->f 2=.pt (st.next+1) 0->f 4=.mp s1.next->f 25=.sl 0 g.es.length (eds g.es)->f 26=i g.es.length->f 27=i j->(f 1=.pt st.next 0/\f 2=.pt (st.next+1) 0/\f 4=.mp s1.next/\f 25=.sl 0 g.es.length (eds g.es)/\f 26=i g.es.length/\f 27=i j/\aA s1 (((((s.new (.box 36 3 [u d,u a,u b])).new (.own 36 3 1)).set t .dead).new (.own 36 3 ((jP E (min a b,max a b)).length+1))).set s1.next (.map true [.u32,.u32] (bV (rmL A) [min a b,max a b] (.sl (s.next+1+1) ((jP E (min a b,max a b)).length+1) (eds (jP E (min a b,max a b))++[u d,u a,u b])))))/\∃ A',yE true [.u32,.u32] 36 3 A' s1.next s1.next (((((s.new (.box 36 3 [u d,u a,u b])).new (.own 36 3 1)).set t .dead).new (.own 36 3 ((jP E (min a b,max a b)).length+1))).set s1.next (.map true [.u32,.u32] (bV (rmL A) [min a b,max a b] (.sl (s.next+1+1) ((jP E (min a b,max a b)).length+1) (eds (jP E (min a b,max a b))++[u d,u a,u b])))))/\Fh E' A'):=fun f q1 q2 q3 q4 q5 q6=>
    ⟨q1,q2,q3,q4,q5,q6,((((hk.trans (aA.new _ _)).trans (aA.new _ _)).set k2 _).trans (aA.new _ _)).set (aAl _) _,_,hA.put (k:=[min a b,max a b]) (t:=s.next+1+1) (n:=(jP E (min a b,max a b)).length+1) (c:=eds (jP E (min a b,max a b))++[u d,u a,u b]) ⟨oO,sS⟩ (by simp;omega) hk.next oO (by simp[rmV]) (sF1 x4) (fun l hl X1 hx=>by
      have:=hx _ hgs;simp only at this
      simp[show ¬l=s.next by omega,show ¬l=s.next+1 by omega,show ¬l=s.next+1+1 by omega,X1,this]),L7⟩
   refine w_a [] [s1.next,s.next] ?_;intro J hJ;refine kP 6 [(0,true),(1,true),(2,true),(3,true),(4,true),(6,true),(7,true),(8,true),(9,true),(10,true),(13,true)] ?_;simp[f4,c0,I6,hM,E5,x1,x2,x3,x4,y1,y2,y3,y4,y5,y6,k4,k1,Z6,J7];refine sH 5 (5,true) (14,true) ?_ ?_
   .simp[f4,c0,I6,hM,E5,x1,x2,x3,x4,y1,y2,y3,y4,y5,y6,k4,k1,Z6,J7];refine xdP (pair a b _) ?_;refine⟨fun h=>by first|(cases h;done)|exact fun _ _=>rfl|simp[f4,c0,I6,hM,E5,x1,x2,x3,x4,y1,y2,y3,y4,y5,y6,k4,k1,Z6,J7],?_⟩;refine sH 4 (11,true) (14,true) ?_ ?_
    .simp[f4,c0,I6,hM,E5,x1,x2,x3,x4,y1,y2,y3,y4,y5,y6,k4,k1,Z6,J7];refine xdP (pair a b _) ?_;refine⟨fun h=>by first|(cases h;done)|exact fun _ _=>rfl|simp[f4,c0,I6,hM,E5,x1,x2,x3,x4,y1,y2,y3,y4,y5,y6,k4,k1,Z6,J7],?_⟩;refine kP 0 [(12,true),(14,true),(15,true),(16,false)] ?_;simp[f4,c0,I6,hM,E5,x1,x2,x3,x4,y1,y2,y3,y4,y5,y6,k4,k1,Z6,J7];refine⟨by unfold maxLen;omega,eK (hJ _ _ ?_)⟩;simp only[ak];refine⟨trivial,u7 _ ?_ ?_ ?_ ?_ ?_ ?_⟩<;>simp[f1,f2,f4,f25,fn,fi]
    .simp[f4,c0,I6,hM,E5,x1,x2,x3,x4,y1,y2,y3,y4,y5,y6,k4,k1,Z6,J7];refine kP 0 [(11,true),(12,true),(15,true),(16,false)] ?_;simp[f4,c0,I6,hM,E5,x1,x2,x3,x4,y1,y2,y3,y4,y5,y6,k4,k1,Z6,J7];refine xdP (pair a b _) ?_;refine⟨fun h=>by first|(cases h;done)|exact fun _ _=>rfl|simp[f4,c0,I6,hM,E5,x1,x2,x3,x4,y1,y2,y3,y4,y5,y6,k4,k1,Z6,J7],?_⟩;simp[f4,c0,I6,hM,E5,x1,x2,x3,x4,y1,y2,y3,y4,y5,y6,k4,k1,Z6,J7];refine⟨by unfold maxLen;omega,eK (hJ _ _ ?_)⟩;simp only[ak];refine⟨trivial,u7 _ ?_ ?_ ?_ ?_ ?_ ?_⟩<;>simp[f1,f2,f4,f25,fn,fi]
   .simp[f4,c0,I6,hM,E5,x1,x2,x3,x4,y1,y2,y3,y4,y5,y6,k4,k1,Z6,J7];refine kP 0 [(5,true),(11,true),(12,true),(15,true),(16,false)] ?_;simp[f4,c0,I6,hM,E5,x1,x2,x3,x4,y1,y2,y3,y4,y5,y6,k4,k1,Z6,J7];refine xdP (pair a b _) ?_;refine⟨fun h=>by first|(cases h;done)|exact fun _ _=>rfl|simp[f4,c0,I6,hM,E5,x1,x2,x3,x4,y1,y2,y3,y4,y5,y6,k4,k1,Z6,J7],?_⟩;simp[f4,c0,I6,hM,E5,x1,x2,x3,x4,y1,y2,y3,y4,y5,y6,k4,k1,Z6,J7];refine xdP (pair a b _) ?_;refine⟨fun h=>by first|(cases h;done)|exact fun _ _=>rfl|simp[f4,c0,I6,hM,E5,x1,x2,x3,x4,y1,y2,y3,y4,y5,y6,k4,k1,Z6,J7],?_⟩;simp[f4,c0,I6,hM,E5,x1,x2,x3,x4,y1,y2,y3,y4,y5,y6,k4,k1,Z6,J7];refine⟨by unfold maxLen;omega,eK (hJ _ _ ?_)⟩;simp only[ak];refine⟨trivial,u7 _ ?_ ?_ ?_ ?_ ?_ ?_⟩<;>simp[f1,f2,f4,f25,fn,fi]
 .rintro fr s ⟨f1,f2,f4,f25,hk,A,hA,hB⟩;rw[aAN]at hB;have hkn:=hk.next;have hGs:s.H st.next=.box 25 2 (grL g):=(hk.H _ oO).trans O2;have hOs:s.H (st.next+1)=.box 28 3 [.nil,.nil,.nil]:=(hk.H _ oO).trans hO1
  (refine xj2 f1 hGs ?_;intro J hJ)
  refine qE (QE g s oO oO oO) sS ?_;rintro r s2 ⟨rfl,u5⟩;have hkn2:=u5.next;have hA2:=hA.keep u5;have hK2:=hk.trans u5;have hsl:=oH g.es;have hO2:=(u5.H _ oO).trans hOs;have hG2:=(u5.H _ oO).trans hGs;clear u5 hOs hGs hA hk
  (refine nJ hJ ?_;intro J hJ)
  have hbk:=DR g;have L6:bkL (sE g.es) (gK (sE g.es))=rZ (aX g):=by simp[bkL,rZ,aX]
  have hbn:(gK (sE g.es)).length=(aX g).length:=by simp[aX]
  have hblk:=Vt ⟨g.vs,sE g.es⟩ W4 ((s2.new (.box 25 2 [.sl 0 g.vs.length (us g.vs),.sl 0 (sE g.es).length (eds (sE g.es))])).new (.map false [.u32] [])) (aBg (Fq hc).2.2.1 (by decide)) (by simp only;omega);simp only[]at hblk;rw[L6,hbn]at hblk;refine qE hblk (by simp[grL]) ?_;rintro r s3 ⟨rfl,e3⟩;rw[e3];clear e3 s3 hblk;have o9:=aA.new s2 (.box 25 2 [.sl 0 g.vs.length (us g.vs),.sl 0 (sE g.es).length (eds (sE g.es))]);have hn3:(s2.new (.box 25 2 [.sl 0 g.vs.length (us g.vs),.sl 0 (sE g.es).length (eds (sE g.es))])).next=s2.next+1:=rfl;rw[<- hn3];generalize s2.new (.box 25 2 [.sl 0 g.vs.length (us g.vs),.sl 0 (sE g.es).length (eds (sE g.es))])=s3 at *;have hA3:=hA2.keep o9;have hK3:=hK2.trans o9;have hO3:=(o9.H _ oO).trans hO2;have hG3:=(o9.H _ oO).trans hG2;clear hA2 hK2 hO2 hG2 o9;unfold kR at ho;obtain⟨oT,hoT,ho⟩:=aBu.1 ho;have hKt:=hK1.trans hK3;refine dK hJ ?_;refine aY 57 56 58 104 ((aX g).length) (fun j fr st2=>fr 1=.pt st.next 0/\fr 2=.pt (st.next+1) 0/\fr 4=.mp s1.next/\fr 9=.mp s3.next/\fr 55=.sl 0 (aX g).length (rZ (aX g))/\aA s3 st2/\∃ T A2,yC g ((aX g).drop j) T=some oT/\yE false [.u32] 34 1 A2 s3.next s3.next st2/\uA T A2/\gG T<=100000) ?_ ?_ ?_
  .exact⟨sF1 f1,sF1 f2,sF1 f4,sS,sS,aA.new _ _,[],[],by simpa using hoT,⟨by simp[rmL],sS,sS,sS,sS⟩,rfl,by simp[gG]⟩
  .clear f1 f2 f4 f25 hoT fr;rintro j0 fr s4 dQ ⟨f1,f2,f4,f9,f55,F5,T,A2,hE,hT,hR,htot⟩ fi fn JO hJO;have hd:=JL (aX g) j0 dQ;have O0:(aX g).drop j0=(aX g).getD j0 []::(aX g).drop (j0+1):=by rw[aAL dQ,aAg,aAh dQ];rfl
   obtain⟨hdre,D5⟩:=pO hgE (l:=(aX g).getD j0 []) (by rw[aAg,aAh dQ];exact aAz _);rw[O0]at hE;unfold yC at hE;obtain⟨oD,hD,hE⟩:=aBu.1 hE;generalize (aX g).getD j0 []=l at *;have hkn4:=F5.next;have hM24:=hT.mlt.2;have hel4:(rZ (aX g)).length=(aX g).length:=by simp[rZ]
   (refine xj6 f55 fi fn dQ hd hel4 ?_;intro J hJ)
   refine qE (XW hdre hD s4 oO) sS ?_;rintro r s5 ⟨rfl,hk5⟩;have hO5:=(hk5.H (st.next+1) oO).trans ((F5.H (st.next+1) oO).trans hO3);have hk45:=F5.trans hk5;cases oD with
   |none=>simp only at hE;obtain rfl:none=oT:=aBj hE;simp only at ho;obtain rfl:none=o:=aBj ho;unfold drR;refine pX hJ f2 hO5 ?_;exact⟨by simp[JB,z0,z0L],(hKt.trans hk45).set oO _⟩
   |some F=>
    simp only at hE
    split at hE
    case isFalse=>cases hE
    rename_i K8;obtain⟨o1,o2,o3,o4,o5⟩:=K8;unfold drR
    (refine Ij hJ f2 hO5 ?_;intro J hJ)
    refine qE (Oc F s5 o1 o2) sS ?_;rintro r s6 ⟨M,loc,rfl,hM⟩;have hMk:=hM.kp;have hnd:=hM.nd;have hkeyN:=Ql (aV F) loc
    (refine nJ hJ ?_;intro J hJ)
    refine xcP (XO M _) ?_;have hM7:(s6.new (.box 87 1 [.mp M])).H M=.map false [.u32] (ouL (aV F) loc):=by rw[bY,aAa (by have:=hM.olt;omega)];exact hM.out
    refine dK hJ ?_;refine qE (TO M s6.next (ouL (aV F) loc) ((aV F).map (·.1)) _ (by simpa[ouL]using o3) sS hM7 hkeyN hnd) sS ?_;rintro r s8 ⟨rfl,hk8⟩;have hk68:=(aA.new s6 _).trans hk8;have hn5:=hk5.next;have hn6:=hMk.next;have hn8:=hk68.next;have H8:s8.H M=.map false [.u32] (ouL (aV F) loc):=(hk68.H M hM.olt.2).trans hM.out;have hinn:∀ a∈aV F,s8.H (loc a.1)=.map false [.u32] (inL a.2)/\s5.next<=loc a.1/\loc a.1<s8.next:=fun a ha=>by obtain⟨q1,q2,q3⟩:=hM.inn a ha;exact⟨(hk68.H _ q3).trans q1,q2.1,oO⟩
    have hMo:s5.next<=M/\M<s8.next:=⟨hM.olt.1,by have:=hM.olt.2;omega⟩;have hk48:=(hk5.trans hMk).trans hk68;have hT8:=hT.keep hk48;have hk38:=F5.trans hk48;have hTW:∀ a∈A2,a.2.1<s5.next\/s8.next<=a.2.1:=fun a ha=>.inl (by have:=(hT.tok a ha).2.2.1;omega);have Zy:=Jr F;clear hM hM7 hk68 hMk hk48 hT hk8 hk5 hO5 hk45 hkeyN;unfold uC at hE o5;generalize aV F=AF at *;have hKm:=fun x=>oQ x (AF.map (·.1));have hKl:(pK (AF.map (·.1))).length<=1000:=aBg (Fj _) (by rw[aAD];exact o3);generalize pK (AF.map (·.1))=K at *;refine dK hJ ?_;refine aY 75 74 76 103 (K.length) (fun j fr st2=>(fr 1=.pt st.next 0/\fr 2=.pt (st.next+1) 0/\fr 4=.mp s1.next/\fr 9=.mp s3.next/\fr 55=.sl 0 (aX g).length (rZ (aX g))/\fr 56=i (aX g).length/\fr 57=i j0/\fr 14=.mp M/\fr 73=.sl 0 K.length (us K))/\TI s1.next s3.next s5.next s3 s8 (fM g AF (K.take j) T) st2) ?_ ?_ ?_
    .exact⟨⟨sF1 f1,sF1 f2,sF1 f4,sF1 f9,sF1 f55,sF1 fn,sF1 fi,sS,sS⟩,hk38,aAl _,fun l _ _=>rfl,A2,hT8,hR,hTW⟩
    .clear f1 f2 f4 f9 f55 fn fi fr hT8 hR hTW;rintro k1 fr s9 Q1 ⟨⟨f1,f2,f4,f9,f55,f56,f57,f14,f73⟩,hTI⟩ fi fn J1 hJ1;have z7:=qG K k1 Q1;have hsn1:fM g AF (K.take (k1+1)) T=dU g (K.getD k1 0) (cC (dS (K.getD k1 0) AF)) (fM g AF (K.take k1) T):=by have h1:K.take (k1+1)=K.take k1++[K[k1]]:=aAp Q1;unfold fM;rw[h1,aBI,bB _ _ Q1];rfl
     have htot1:gG (fM g AF (K.take (k1+1)) T)<=100000:=by have h1:=Ci g AF (K.drop (k1+1)) (fM g AF (K.take (k1+1)) T);rw[<- GR]at h1;omega
     have hvK:K.getD k1 0∈AF.map (·.1):=(hKm _).1 (by rw[bB _ _ Q1];exact aAz _);have hvA:=Hs hvK;have hgM:=Dv AF loc (K.getD k1 0);rw[aAk hvK]at hgM;rw[hsn1]at htot1 hJ1;clear hsn1;generalize fM g AF (K.take k1) T=Tk at *;generalize K.getD k1 0=v at *;obtain⟨hI1,hI2,hI3⟩:=hinn _ hvA;have hPl:=o4 _ hvA;have hP0:=Zy _ hvA;simp only at hI1 hI2 hI3 hPl hP0;have hLl:=JU (dS v AF);generalize dS v AF=P at *;have hTI':=hTI;obtain⟨hk9,hn9,hW,A9,hT9,hR9,hTW9⟩:=hTI';have hM9:=(hW M hMo.1 hMo.2).trans H8;have hI9:=(hW _ hI2 hI3).trans hI1;clear hT9 hR9 hTW9 hW;generalize loc v=lv at *
     (refine xj8 f73 fi fn Q1 z7 f14 hM9 hgM ?_;intro J hJ)
     refine xcP (Wf P lv s9 hP0 oO hI9 oO) ?_;have hLn:(cC P).length<=1000:=oO;generalize cC P=L at *;refine dK hJ ?_;refine aY 84 83 85 102 (L.length) (fun j fr st2=>(fr 1=.pt st.next 0/\fr 2=.pt (st.next+1) 0/\fr 4=.mp s1.next/\fr 9=.mp s3.next/\fr 55=.sl 0 (aX g).length (rZ (aX g))/\fr 56=i (aX g).length/\fr 57=i j0/\fr 14=.mp M/\fr 73=.sl 0 K.length (us K))/\(fr 74=i K.length/\fr 75=i k1/\fr 16=u v/\fr 82=.sl 0 L.length (us L))/\TI s1.next s3.next s5.next s3 s8 (dU g v (L.take j) Tk) st2) ?_ ?_ ?_
     .exact⟨⟨sF1 f1,sF1 f2,sF1 f4,sF1 f9,sF1 f55,sF1 f56,sF1 f57,sF1 f14,sF1 f73⟩,⟨sF1 fn,sF1 fi,sS,sS⟩,hTI⟩
     .clear f1 f2 f4 f9 f55 f56 f57 f14 f73 fi fn fr hTI hk9 hn9 hM9 hI9 s9;rintro k2 fr s9 I9 ⟨⟨f1,f2,f4,f9,f55,f56,f57,f14,f73⟩,⟨f74,f75,f16,f82⟩,hk9,hn9,hW,A9,hT9,hR9,hTW9⟩ fi fn J2 S5;have F7:=qG L k2 I9;have hsn2:dU g v (L.take (k2+1)) Tk=oC v (gP (sW g v (L.getD k2 0)) v (L.getD k2 0)) (dU g v (L.take k2) Tk):=by have h1:L.take (k2+1)=L.take k2++[L[k2]]:=aAp I9;unfold dU;rw[h1,aBI,bB _ _ I9];rfl
      have htot2:gG (dU g v (L.take (k2+1)) Tk)<=100000:=by have h1:=vX g v (L.drop (k2+1)) (dU g v (L.take (k2+1)) Tk);rw[<- Gl]at h1;omega
      rw[hsn2]at htot2 S5;clear hsn2;generalize dU g v (L.take k2) Tk=Tq at *;generalize L.getD k2 0=x at *;have hbun:=hB.get hA3.nd (prP v x);have hMB:s9.H s1.next=.map true [.u32,.u32] (rmL A):=(hk9.H _ hA3.mlt.2).trans hA3.map;obtain⟨X,hX,tX,hXn⟩:∃ X,(bS (rmL A) [min v x,max v x]).getD .nil=X/\∃ t,norm X=.sl t (sW g v x).length (eds (sW g v x)):=by
       refine⟨_,rfl,?_⟩;rw[tJ];rcases hbun with⟨h1,h2⟩|⟨t,h2⟩
       .refine⟨0,?_⟩;simp only[prP,pk]at h2;rw[h2];unfold sW;rw[h1];rfl
       .refine⟨t,?_⟩;simp only[prP,pk]at h2;rw[h2];rfl
      have hBl:(sW g v x).length<=200:=aBg (aBf _ _) (aBg he oO);have hBp:∀ e∈sW g v x,1<=e.id/\e.id<=1048576:=fun e h=>hgE.pos e (aAC.1 h).1;have hdarts:=fun st=>WA (sW g v x) v x tX st oO hBp;generalize sW g v x=B at *;have hmg:=tJ [v] A9;have L7:=hR9.add (v:=v) (ds:=gP B v x);have htq:=Au v (oC v (gP B v x) Tq);have hgq:=hR9.get (v:=v);generalize hDD:gP B v x=D at *;have hMT:=hT9.map;have z1:¬s1.next=s3.next:=by have:=hA3.mlt;omega
      have z2:¬s3.next=s1.next:=fun e=>z1 e.symm;have hn39:=hk9.next;have hDt:=uS v D Tq;have hDt2:=Au v Tq;have hD1:D.length*4<=140737488355328:=oO;have hD2:D.length<=maxLen:=by unfold maxLen;omega
      have hm2:=hT9.mlt.2;have z3:¬s3.next=s9.next:=oO;have z4:¬s9.next=s3.next:=oO;have z5:¬s1.next=s9.next:=by have:=hA3.mlt;omega
      have h35:s3.next<s5.next:=oO;refine xw5 f82 fi fn I9 F7 ?_
      (refine zS [] [s1.next,s3.next] [0,2,4,6,8,10,12,14,20,22,16,18,24,26,29] ?_;intro J hJ;simp[f4,f9,f16,hMT,hMB])
      refine xdP (pair v x _) ?_;refine⟨fun h=>by first|(cases h;done)|exact fun _ _=>rfl|simp,?_⟩
      (apply bL;simp[hMT,hMB,hX])
      refine xdP (hdarts _) ?_ (by simp;exact hXn);refine⟨fun h=>by first|(cases h;done)|exact fun _ _=>rfl|simp,?_⟩;rcases hgq with⟨hq1,K1⟩|⟨t,K1⟩
      .rw[K1]at hmg;simp only[Option.map_none]at hmg
       (apply bL;simp[hMT,hMB,hX,hmg,hD1,hD2,z3,z4,z5];(refine zJ hJ ?_;clear hJ J))
       refine xw0 ?_;have L7:=L7 s9.next;rw[hq1]at L7;simp only[us,aCM,List.nil_append,List.length_nil,aBv]at L7;refine S5 _ _ (sF1 fi) (sF1 fn) ⟨⟨sF1 f1,sF1 f2,sF1 f4,sF1 f9,sF1 f55,sF1 f56,sF1 f57,sF1 f14,sF1 f73⟩,⟨sF1 f74,sF1 f75,sF1 f16,sF1 f82⟩,(hk9.trans (aA.new _ _)).set (aAl _) _,by simp;omega,fun l q1 q2=>?_,_,hT9.put (k:=[v]) (t:=s9.next) (n:=D.length) (c:=us D) ⟨aAl _,sS⟩ sS hn39 oO (by simp[rmV]) (sF1 z4) (fun l hl X1 _=>by simp[show ¬l=s9.next by omega,X1]),L7,fun y hy=>?_⟩
       .rw[bR,aAa oO,bY,aAa oO];exact hW l q1 q2
       .rcases pV hT9.nd y hy with rfl|⟨hy,_⟩
        .exact .inr hn9
        .exact hTW9 y hy
      .rw[K1]at hmg;simp only[Option.map_some]at hmg;unfold rmV at hmg;simp only at hmg;obtain⟨g1,g2,g3,g4⟩:=hT9.tok _ (mH K1);simp only at g1 g2 g3 g4;have y5:¬s3.next=t:=fun e=>by rw[<- e,hMT]at g4;cases g4
       have y6:¬t=s3.next:=fun e=>y5 e.symm;have y1:¬t=s9.next:=oO;have y2:¬s9.next=t:=oO;have z6:¬s1.next=t:=by have:=hA3.mlt.2;omega
       have hD3:((eD v Tq).length+D.length)*4<=140737488355328:=oO;have hD4:(eD v Tq).length+D.length<=maxLen:=by unfold maxLen;omega
       (apply bL;simp[hMT,hMB,hX,hmg,hD1,hD2,z3,z4,z5,z6,y1,y2,y5,y6,g1,g4,hD3,hD4];(refine zJ hJ ?_;clear hJ J))
       refine xw0 ?_;refine S5 _ _ (sF1 fi) (sF1 fn) ⟨⟨sF1 f1,sF1 f2,sF1 f4,sF1 f9,sF1 f55,sF1 f56,sF1 f57,sF1 f14,sF1 f73⟩,⟨sF1 f74,sF1 f75,sF1 f16,sF1 f82⟩,((hk9.set g2 _).trans (aA.new _ _)).set (aAl _) _,by simp;omega,fun l q1 q2=>?_,_,hT9.put (k:=[v]) (t:=s9.next) (n:=(eD v Tq).length+D.length) (c:=us (eD v Tq)++us D) ⟨aAl _,sS⟩ sS hn39 oO (by simp[rmV]) (sF1 z4) (fun l hl X1 hx=>?_),L7 s9.next,fun y hy=>?_⟩
       .have:=hTW9 _ (mH K1);simp only at this;rw[bR,aAa oO,bY,aAa (by simp;omega),bR,aAa oO];exact hW l q1 q2
       .have:=hx _ K1;simp only at this;simp[show ¬l=s9.next by omega,X1,this]
       .rcases pV hT9.nd y hy with rfl|⟨hy,_⟩
        .exact .inr hn9
        .exact hTW9 y hy
     .rintro fr s10 ⟨⟨f1,f2,f4,f9,f55,f56,f57,f14,f73⟩,⟨f74,f75,f16,f82⟩,hTI2⟩;rw[aAN]at hTI2;refine xw0 ?_;exact hJ1 _ _ (sF1 f75) (sF1 f74) ⟨⟨sF1 f1,sF1 f2,sF1 f4,sF1 f9,sF1 f55,sF1 f56,sF1 f57,sF1 f14,sF1 f73⟩,hTI2⟩
    .rintro fr s9 ⟨⟨f1,f2,f4,f9,f55,fn,fi,f14,f73⟩,hk9,hn9,_,A9,hT9,hR9,_⟩;rw[aAN]at hR9;refine xw0 ?_;exact hJO _ _ (sF1 fi) (sF1 fn) ⟨sF1 f1,sF1 f2,sF1 f4,sF1 f9,sF1 f55,hk9,_,A9,hE,hT9,hR9,o5⟩
  .clear f1 f2 f4 f25 hoT fr;rintro fr s4 ⟨f1,f2,f4,f9,f55,F5,T,A2,hE,hT,hR,htot⟩;rw[List.drop_length]at hE;obtain rfl:some T=oT:=aBj hE;simp only at ho;by_cases hg1:∀ v∈g.vs,(eD v T).length<=1000
   case neg=>rw[aAa hg1]at ho;cases ho
   rw[aAk hg1]at ho;obtain rfl:some _=o:=aBj ho;have hO4:=(F5.H (st.next+1) oO).trans hO3;have hG4:=(F5.H st.next oO).trans hG3
   (refine xj3 f1 hG4 f9 ?_;intro J hJ)
   refine qE (Wi g s3.next (rmL A2) (fun v=>eD v T) s4 hv oO hT.mlt.2 hT.map fun v W6=>?_) (by simp[grL]) ?_
   .rw[tJ];rcases hR.get (v:=v)with⟨h1,h2⟩|⟨t,h2⟩
    .refine⟨_,0,rfl,?_,hg1 v W6⟩;rw[h2,h1];rfl
    .refine⟨_,t,rfl,?_,hg1 v W6⟩;rw[h2];rfl
   rintro r s5 ⟨rfl,hk5⟩;have hO5:=(hk5.H (st.next+1) (by have:=F5.next;omega)).trans hO4;refine pX hJ f2 hO5 ?_;refine⟨?_,((hKt.trans F5).trans hk5).set oO _⟩;rw[<- aAZ];simp only[JB,z0,z0L,Hp,yN,z0m,mpL,grL,aAD,List.cons_append,List.nil_append,fF]
end Aw
namespace Aw
open Go Go.RowKit Pl Eu
section
variable {g:Gr} (hg:GoodE g)
include hg
theorem QU{B:List Nat}{v:Int}(h:v∈vsF (esB g.es B)):∃ i∈B,(eAt g.es i).a=v\/(eAt g.es i).b=v:=by obtain⟨e,he,k⟩:=(bG _ _).1 h;obtain⟨i,hi,rfl⟩:=aAj.1 he;exact⟨i,hi,k.imp Eq.symm Eq.symm⟩
end
theorem Uw(es:List Ed):(gK es).Nodup:=by unfold gK List.Nodup;rw[aAU];refine(aBD.sublist aBF).imp_of_mem fun {i j} hi hj hij e=>?_;rw[aAC,aAT]at hi hj;have:=hi.2;rw[e,hj.2]at this;omega
end Aw
end Go.Proofs.YtbgngpdonpeboaaGreatDoor
