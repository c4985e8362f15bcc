/- plane: Embed, the walk. -/
import Derived.Test.YtempldclppogmaaGreatDoorJo
import Derived.Test.YtempldclppogmaaGreatDoorAwShp
set_option linter.unusedVariables false
set_option linter.unusedSimpArgs false
set_option linter.unusedSectionVars false
set_option maxHeartbeats 8000000
open Go.Proofs.Tryz
namespace Go.Proofs.YtempldclppogmaaGreatDoor
namespace Aw
open Go Go.RowKit Pl
def Oc:Option Mp->LV
 |none=>.tu [.ag [.sl 0 0 [],.sl 0 0 [],.sl 0 0 []],bb false]
 |some m=>.tu [.ag (mpL m),bb true]
noncomputable def bE(g:Gr):List (List Ed):=(fO (sE g.es)).map fun B=>B.map (eAt (sE g.es))
def rZ(l:List (List Ed)):List LV:=l.map fun l=>.sl 0 l.length (eds l)
theorem Ia(l:List Ed):(sE l).Sublist l:=by
 induction l using uQ with
 |h0=>exact List.Sublist.refl _
 |h1 l x ih=>
  rw[jZ]
  split
  .exact ih.trans (List.sublist_append_left _ _)
  .exact ih.append (List.Sublist.refl _)
theorem GoodE.simple{g:Gr}(h:GoodE g):GoodE ⟨g.vs,sE g.es⟩:=
 ⟨⟨h.rise,fun x hx=>h.ends x (mK _ x hx)⟩,h.ids.sublist (Ia _),fun x hx=>h.pos x (mK _ x hx),fun x hx=>h.ne x (mK _ x hx)⟩
theorem LQ(g:Gr):(bE g).length<=(sE g.es).length:=by unfold bE fO;rw[aAz,aAz];exact aBj (aBh _ _) (by rw[aDA];exact aAk _)
theorem kO{g:Gr}(hg:GoodE g){B:List Nat}(hB:B∈fO g.es):dF g.es B:=by unfold fO at hB;obtain⟨i,hi,rfl⟩:=aAm.1 hB;rw[aAr,aBa]at hi;obtain⟨s,_,_,h2,_,h3⟩:=vJ hg;obtain⟨B,hB,hiB⟩:=aAY.1 ((h2 i).2 hi.1);rw[<- (h3 B hB).cls hiB];exact h3 B hB
theorem nH{g:Gr}(hg:GoodE g){l:List Ed}(hl:l∈bE g):DrE l/\∀ e∈l,e∈g.es:=by
 unfold bE at hl;obtain⟨B,hB,rfl⟩:=aAm.1 hl;have A7:=hg.simple;have hB:dF (sE g.es) B:=kO A7 hB;have Xl:∀ e∈B.map (eAt (sE g.es)),e∈sE g.es:=fun e he=>by obtain⟨i,hi,rfl⟩:=aAm.1 he;have e:eAt (sE g.es) i=(sE g.es)[i]'(hB.lt i hi):=cZ _ _ (hB.lt i hi);rw[e];exact aAA _
 refine⟨⟨?_,fun x hx=>A7.pos x (Xl x hx),fun x hx=>A7.ne x (Xl x hx)⟩,fun e he=>mK _ e (Xl e he)⟩;rw[aAV];refine hB.rise.imp_of_mem fun {i j} hi hj hij=>?_;have e:∀ k,(hk:k∈B)->eAt (sE g.es) k=(sE g.es)[k]'(hB.lt k hk):=fun k hk=>cZ _ _ (hB.lt k hk);rw[e i hi,e j hj];exact aAJ.1 A7.ids i j (hB.lt i hi) (hB.lt j hj) hij
theorem z0m(R:List (List Int)):z0L (R.map fun r=>LV.sl 0 r.length (us r))=R.map fun r=>LV.sl 0 r.length (us r):=by
 induction R with
 |nil=>rfl
 |cons r R ih=>simp only[aAi,z0L,z0,Fp];rw[ih]
theorem Iy(l:List (List Ed))(j:Nat)(h:j<l.length):(rZ l).drop j=.sl 0 (l.getD j []).length (eds (l.getD j []))::rZ (l.drop (j+1)):=by unfold rZ;rw[<- aCi,aAO h,aAc,aAd h];rfl
theorem HG(x:Int):∀ l,(vX x l).length<=l.length+1
 |[]=>by simp[vX]
 |y::l=>by
  have:=HG x l;unfold vX
  split
  .simp
  .split
   .simp;omega
   .simp
theorem HI:∀ l,(oX l).length<=l.length
 |[]=>by simp[oX]
 |x::l=>by have h:=HI l;have h2:=HG x (oX l);unfold oX at h h2 ⊢;rw[List.foldr_cons,List.length_cons];omega
theorem VJ(l:List Ed):(List.map (fun _:Ed=>3) l).sum=l.length*3:=by
 induction l with
 |nil=>rfl
 |cons x l ih=>simp only[aAi,List.sum_cons,List.length_cons,ih];omega
def TI(M1 M2 a:Nat)(s3 s8:St)(T:TL)(st:St):Prop:=aA s3 st/\s8.next<=st.next/\(∀ l,a<=l->l<s8.next->st.H l=s8.H l)/\∃ A,yL false [.u32] 34 1 A M2 M2 st/\vH T A/\∀ x∈A,x.2.1<a\/s8.next<=x.2.1
theorem UQ(g:Gr)(hv:g.vs.length<=1000)(he:g.es.length<=200){o:Option Mp}(ho:(if chk g=0 then vR g (bE g)else some none)=some o)(st:St):
 aB prog 17 [.ag (grL g)] st fun r st'=>r=Oc o/\aA st st':=by
 refine eV ?_;have hel:=aN g.es;refine zN func17 ntmps17 [.cell 2 39,.tmp 3] ?_;refine jC fun ZA=>?_
 (repeat' (first|apply qS|(refine zE ?_;intro J hJ;simp[];(try (refine zJ hJ ?_;clear hJ J)))))
 refine qE (Check g _ hv oO) sS ?_;rintro r s1 ⟨rfl,Xp⟩;have Yi:=Xp.next;simp only[aJ]at Yi;have r8:s1.H st.next=.box 25 2 (grL g):=by rw[Xp.H _ (by simp;omega)];simp
 have hO1:s1.H (st.next+1)=.box 39 3 [.nil,.nil,.nil]:=by rw[Xp.H _ sS];simp
 have hK1:aA st s1:=((aA.new _ _).trans (aA.new _ _)).trans Xp;by_cases hc:chk g=0
 case neg=>
  rw[aAa hc]at ho;obtain rfl:none=o:=aBf ho;have T8:(chk g != 0)=true:=by simpa using hc
  (repeat' (first|apply qS|(refine qR (zZ ?_);simp[T8,hO1])|(apply qC;simp[T8,hO1])|((first|(refine zE ?_;intro J hJ)|(apply aF));simp[T8,hO1];(refine zJ hJ ?_;clear hJ J))))
  exact⟨by simp[Oc,z0,z0L],hK1.set oO _⟩
 rw[aAe hc]at ho;have hgE:=DV hc;have A7:=hgE.simple;have T8:(chk g != 0)=false:=by simpa using hc
 have e1:¬st.next=s1.next:=oO
 (repeat' (first|apply qS|apply qB|refine qK (zZ ?_)|(apply qC;simp[T8,r8,e1])|((first|(refine zE ?_;intro J hJ)|(apply aF));simp[T8,r8,e1];(refine zJ hJ ?_;clear hJ J))))
 refine aZ 27 26 28 47 (g.es.length) (fun j fr st2=>fr 1=.pt st.next 0/\fr 2=.pt (st.next+1) 0/\fr 4=.mp s1.next/\fr 25=.sl 0 g.es.length (eds g.es)/\aA s1 st2/\∃ A,yL true [.u32,.u32] 56 3 A s1.next s1.next st2/\Ec (g.es.take j) A) ?_ ?_ ?_
 .exact⟨sS,sS,sS,sS,aA.new _ _,[],⟨by simp[rmL],sS,sS,sS,sS⟩,⟨sS,sS⟩⟩
 .rintro j fr s GD ⟨f1,f2,f4,f25,hk,A,hA,hB⟩ fi fn JO hJO;have hd:=aW g.es j GD;have Xv:j*3<g.es.length*3:=oO;have Xx:g.es.take (j+1)=g.es.take j++[g.es.getD j ed0]:=by rw[cZ _ _ GD];exact aAn GD
  have Yc:=hB.get hA.nd (prE (g.es.getD j ed0));have Zo:=hB.add hA.nd (g.es.getD j ed0);rw[<- Xx]at Zo;have hEl:(g.es.take j).length<=200:=by rw[aAq];omega
  generalize g.es.take j=E at *;generalize g.es.take (j+1)=E' at *;generalize g.es.getD j ed0=x at *;obtain⟨d,a,b⟩:=x;have ZQ:(jJ E (prP a b)).length<=200:=aBj (aBh _ _) hEl;simp only[prE,prP,pk]at Yc Zo ZQ hd;have hM:=hA.map;have Yk:=tW [min a b,max a b] A;have c0:¬s1.next=s.next:=by have:=hA.mlt;omega
  (repeat' (first|apply qS|(refine zE ?_;intro J hJ;simp[f25,fi,fn,GD,hd,hel,Xv];(refine zJ hJ ?_;clear hJ J))))
  refine BI (fun f s'=>f 1=.pt st.next 0/\f 2=.pt (st.next+1) 0/\f 4=.mp s1.next/\f 25=.sl 0 g.es.length (eds g.es)/\f 26=i g.es.length/\f 27=i j/\aA s1 s'/\∃ A,yL true [.u32,.u32] 56 3 A s1.next s1.next s'/\Ec E' A) ?_ ?_;rotate_left
  .rintro fr s' ⟨f1,f2,f4,f25,fn,fi,ZU,K4⟩;exact hJO _ _ fi fn ⟨by simp[f1],by simp[f2],by simp[f4],by simp[f25],ZU,K4⟩
  have ZF:¬s.next=s1.next:=fun e=>c0 e.symm;have x1:¬s1.next=s.next+1:=by have:=hA.mlt;omega
  have x2:¬s.next+1=s1.next:=fun e=>x1 e.symm;have x3:¬s1.next=s.next+1+1:=by have:=hA.mlt;omega
  have x4:¬s.next+1+1=s1.next:=fun e=>x3 e.symm;rcases Yc with⟨ZG,hgn⟩|⟨t,hgs⟩
  .rw[hgn]at Yk;simp only[Option.map_none]at Yk;have Zo:=Zo (s.next+1+1);rw[ZG]at Zo;simp only[eds,aDI,List.nil_append,List.length_nil,aBv]at Zo
   have Xj:∀ f:Frm,f 1=.pt st.next 0->f 2=.pt (st.next+1) 0->f 4=.mp s1.next->f 25=.sl 0 g.es.length (eds g.es)->f 26=i g.es.length->f 27=i j->(f 1=.pt st.next 0/\f 2=.pt (st.next+1) 0/\f 4=.mp s1.next/\f 25=.sl 0 g.es.length (eds g.es)/\f 26=i g.es.length/\f 27=i j/\aA s1 ((((s.new (.box 56 3 [u d,u a,u b])).new (.own 56 3 1)).new (.own 56 3 1)).set s1.next (.map true [.u32,.u32] (bP (rmL A) [min a b,max a b] (.sl (s.next+1+1) 1 [u d,u a,u b]))))/\∃ A',yL true [.u32,.u32] 56 3 A' s1.next s1.next ((((s.new (.box 56 3 [u d,u a,u b])).new (.own 56 3 1)).new (.own 56 3 1)).set s1.next (.map true [.u32,.u32] (bP (rmL A) [min a b,max a b] (.sl (s.next+1+1) 1 [u d,u a,u b]))))/\Ec E' A'):=fun f q1 q2 q3 q4 q5 q6=>
    ⟨q1,q2,q3,q4,q5,q6,(((hk.trans (aA.new _ _)).trans (aA.new _ _)).trans (aA.new _ _)).set (aAk _) _,_,hA.put (k:=[min a b,max a b]) (t:=s.next+1+1) (n:=1) (c:=[u d,u a,u b]) ⟨oO,sS⟩ (by simp;omega) hk.next oO (by simp[rmV]) (by simp[x4]) (fun l hl o8 _=>by simp[show ¬l=s.next by omega,show ¬l=s.next+1 by omega,show ¬l=s.next+1+1 by omega,o8]),Zo⟩
   refine w_a [] [s1.next,s.next] ?_;intro J hJ;refine lF 6 [(0,true),(1,true),(2,true),(3,true),(4,true),(6,true),(7,true),(8,true),(9,true),(10,true),(13,true)] ?_;simp[f4,c0,ZF,hM,Yk,x1,x2,x3,x4];refine sI 5 (5,true) (14,true) ?_ ?_
   .simp[f4,c0,ZF,hM,Yk,x1,x2,x3,x4];refine qD (pair a b _) sS ?_;rintro r s5 ⟨rfl,e5⟩;rw[e5];clear e5 s5;refine⟨fun h=>by first|(cases h;done)|exact fun _ _=>rfl|simp[f4,c0,ZF,hM,Yk,x1,x2,x3,x4],?_⟩;refine sI 4 (11,true) (14,true) ?_ ?_
    .simp[f4,c0,ZF,hM,Yk,x1,x2,x3,x4];refine qD (pair a b _) sS ?_;rintro r s5 ⟨rfl,e5⟩;rw[e5];clear e5 s5;refine⟨fun h=>by first|(cases h;done)|exact fun _ _=>rfl|simp[f4,c0,ZF,hM,Yk,x1,x2,x3,x4],?_⟩;refine lF 0 [(12,true),(14,true),(15,true),(16,false)] ?_;simp[f4,c0,ZF,hM,Yk,x1,x2,x3,x4];refine⟨by unfold maxLen;omega,eD (hJ _ _ ?_)⟩;simp only[ak];refine⟨trivial,Xj _ ?_ ?_ ?_ ?_ ?_ ?_⟩<;>simp[f1,f2,f4,f25,fn,fi]
    .simp[f4,c0,ZF,hM,Yk,x1,x2,x3,x4];refine lF 0 [(11,true),(12,true),(15,true),(16,false)] ?_;simp[f4,c0,ZF,hM,Yk,x1,x2,x3,x4];refine qD (pair a b _) sS ?_;rintro r s5 ⟨rfl,e5⟩;rw[e5];clear e5 s5;refine⟨fun h=>by first|(cases h;done)|exact fun _ _=>rfl|simp[f4,c0,ZF,hM,Yk,x1,x2,x3,x4],?_⟩;simp[f4,c0,ZF,hM,Yk,x1,x2,x3,x4];refine⟨by unfold maxLen;omega,eD (hJ _ _ ?_)⟩;simp only[ak];refine⟨trivial,Xj _ ?_ ?_ ?_ ?_ ?_ ?_⟩<;>simp[f1,f2,f4,f25,fn,fi]
   .simp[f4,c0,ZF,hM,Yk,x1,x2,x3,x4];refine lF 0 [(5,true),(11,true),(12,true),(15,true),(16,false)] ?_;simp[f4,c0,ZF,hM,Yk,x1,x2,x3,x4];refine qD (pair a b _) sS ?_;rintro r s5 ⟨rfl,e5⟩;rw[e5];clear e5 s5;refine⟨fun h=>by first|(cases h;done)|exact fun _ _=>rfl|simp[f4,c0,ZF,hM,Yk,x1,x2,x3,x4],?_⟩;simp[f4,c0,ZF,hM,Yk,x1,x2,x3,x4];refine qD (pair a b _) sS ?_;rintro r s5 ⟨rfl,e5⟩;rw[e5];clear e5 s5;refine⟨fun h=>by first|(cases h;done)|exact fun _ _=>rfl|simp[f4,c0,ZF,hM,Yk,x1,x2,x3,x4],?_⟩;simp[f4,c0,ZF,hM,Yk,x1,x2,x3,x4];refine⟨by unfold maxLen;omega,eD (hJ _ _ ?_)⟩;simp only[ak];refine⟨trivial,Xj _ ?_ ?_ ?_ ?_ ?_ ?_⟩<;>simp[f1,f2,f4,f25,fn,fi]
  .rw[hgs]at Yk;simp only[Option.map_some]at Yk;unfold rmV at Yk;simp only at Yk;obtain⟨k1,k2,k3,k4⟩:=hA.tok _ (mW hgs);simp only at k1 k2 k3 k4;have y1:¬t=s.next:=oO;have y2:¬t=s.next+1:=oO;have y3:¬s.next=t:=oO;have y4:¬s.next+1=t:=oO;have y5:¬s1.next=t:=fun e=>by rw[<- e,hM]at k4;cases k4
   have y6:¬t=s1.next:=fun e=>y5 e.symm;have p8:(List.map (fun _:Ed=>3) (jJ E (min a b,max a b))).sum=(jJ E (min a b,max a b)).length*3:=VJ _;have Zo:=Zo (s.next+1+1);have K0:=aN (jJ E (min a b,max a b))
   have Xj:∀ f:Frm,f 1=.pt st.next 0->f 2=.pt (st.next+1) 0->f 4=.mp s1.next->f 25=.sl 0 g.es.length (eds g.es)->f 26=i g.es.length->f 27=i j->(f 1=.pt st.next 0/\f 2=.pt (st.next+1) 0/\f 4=.mp s1.next/\f 25=.sl 0 g.es.length (eds g.es)/\f 26=i g.es.length/\f 27=i j/\aA s1 (((((s.new (.box 56 3 [u d,u a,u b])).new (.own 56 3 1)).set t .dead).new (.own 56 3 ((jJ E (min a b,max a b)).length+1))).set s1.next (.map true [.u32,.u32] (bP (rmL A) [min a b,max a b] (.sl (s.next+1+1) ((jJ E (min a b,max a b)).length+1) (eds (jJ E (min a b,max a b))++[u d,u a,u b])))))/\∃ A',yL true [.u32,.u32] 56 3 A' s1.next s1.next (((((s.new (.box 56 3 [u d,u a,u b])).new (.own 56 3 1)).set t .dead).new (.own 56 3 ((jJ E (min a b,max a b)).length+1))).set s1.next (.map true [.u32,.u32] (bP (rmL A) [min a b,max a b] (.sl (s.next+1+1) ((jJ E (min a b,max a b)).length+1) (eds (jJ E (min a b,max a b))++[u d,u a,u b])))))/\Ec E' A'):=fun f q1 q2 q3 q4 q5 q6=>
    ⟨q1,q2,q3,q4,q5,q6,((((hk.trans (aA.new _ _)).trans (aA.new _ _)).set k2 _).trans (aA.new _ _)).set (aAk _) _,_,hA.put (k:=[min a b,max a b]) (t:=s.next+1+1) (n:=(jJ E (min a b,max a b)).length+1) (c:=eds (jJ E (min a b,max a b))++[u d,u a,u b]) ⟨oO,sS⟩ (by simp;omega) hk.next oO (by simp[rmV]) (by simp[x4]) (fun l hl o8 hx=>by
      have:=hx _ hgs;simp only at this
      simp[show ¬l=s.next by omega,show ¬l=s.next+1 by omega,show ¬l=s.next+1+1 by omega,o8,this]),Zo⟩
   refine w_a [] [s1.next,s.next] ?_;intro J hJ;refine lF 6 [(0,true),(1,true),(2,true),(3,true),(4,true),(6,true),(7,true),(8,true),(9,true),(10,true),(13,true)] ?_;simp[f4,c0,ZF,hM,Yk,x1,x2,x3,x4,y1,y2,y3,y4,y5,y6,k4,k1,K0,p8];refine sI 5 (5,true) (14,true) ?_ ?_
   .simp[f4,c0,ZF,hM,Yk,x1,x2,x3,x4,y1,y2,y3,y4,y5,y6,k4,k1,K0,p8];refine qD (pair a b _) sS ?_;rintro r s5 ⟨rfl,e5⟩;rw[e5];clear e5 s5;refine⟨fun h=>by first|(cases h;done)|exact fun _ _=>rfl|simp[f4,c0,ZF,hM,Yk,x1,x2,x3,x4,y1,y2,y3,y4,y5,y6,k4,k1,K0,p8],?_⟩;refine sI 4 (11,true) (14,true) ?_ ?_
    .simp[f4,c0,ZF,hM,Yk,x1,x2,x3,x4,y1,y2,y3,y4,y5,y6,k4,k1,K0,p8];refine qD (pair a b _) sS ?_;rintro r s5 ⟨rfl,e5⟩;rw[e5];clear e5 s5;refine⟨fun h=>by first|(cases h;done)|exact fun _ _=>rfl|simp[f4,c0,ZF,hM,Yk,x1,x2,x3,x4,y1,y2,y3,y4,y5,y6,k4,k1,K0,p8],?_⟩;refine lF 0 [(12,true),(14,true),(15,true),(16,false)] ?_;simp[f4,c0,ZF,hM,Yk,x1,x2,x3,x4,y1,y2,y3,y4,y5,y6,k4,k1,K0,p8];refine⟨by unfold maxLen;omega,eD (hJ _ _ ?_)⟩;simp only[ak];refine⟨trivial,Xj _ ?_ ?_ ?_ ?_ ?_ ?_⟩<;>simp[f1,f2,f4,f25,fn,fi]
    .simp[f4,c0,ZF,hM,Yk,x1,x2,x3,x4,y1,y2,y3,y4,y5,y6,k4,k1,K0,p8];refine lF 0 [(11,true),(12,true),(15,true),(16,false)] ?_;simp[f4,c0,ZF,hM,Yk,x1,x2,x3,x4,y1,y2,y3,y4,y5,y6,k4,k1,K0,p8];refine qD (pair a b _) sS ?_;rintro r s5 ⟨rfl,e5⟩;rw[e5];clear e5 s5;refine⟨fun h=>by first|(cases h;done)|exact fun _ _=>rfl|simp[f4,c0,ZF,hM,Yk,x1,x2,x3,x4,y1,y2,y3,y4,y5,y6,k4,k1,K0,p8],?_⟩;simp[f4,c0,ZF,hM,Yk,x1,x2,x3,x4,y1,y2,y3,y4,y5,y6,k4,k1,K0,p8];refine⟨by unfold maxLen;omega,eD (hJ _ _ ?_)⟩;simp only[ak];refine⟨trivial,Xj _ ?_ ?_ ?_ ?_ ?_ ?_⟩<;>simp[f1,f2,f4,f25,fn,fi]
   .simp[f4,c0,ZF,hM,Yk,x1,x2,x3,x4,y1,y2,y3,y4,y5,y6,k4,k1,K0,p8];refine lF 0 [(5,true),(11,true),(12,true),(15,true),(16,false)] ?_;simp[f4,c0,ZF,hM,Yk,x1,x2,x3,x4,y1,y2,y3,y4,y5,y6,k4,k1,K0,p8];refine qD (pair a b _) sS ?_;rintro r s5 ⟨rfl,e5⟩;rw[e5];clear e5 s5;refine⟨fun h=>by first|(cases h;done)|exact fun _ _=>rfl|simp[f4,c0,ZF,hM,Yk,x1,x2,x3,x4,y1,y2,y3,y4,y5,y6,k4,k1,K0,p8],?_⟩;simp[f4,c0,ZF,hM,Yk,x1,x2,x3,x4,y1,y2,y3,y4,y5,y6,k4,k1,K0,p8];refine qD (pair a b _) sS ?_;rintro r s5 ⟨rfl,e5⟩;rw[e5];clear e5 s5;refine⟨fun h=>by first|(cases h;done)|exact fun _ _=>rfl|simp[f4,c0,ZF,hM,Yk,x1,x2,x3,x4,y1,y2,y3,y4,y5,y6,k4,k1,K0,p8],?_⟩;simp[f4,c0,ZF,hM,Yk,x1,x2,x3,x4,y1,y2,y3,y4,y5,y6,k4,k1,K0,p8];refine⟨by unfold maxLen;omega,eD (hJ _ _ ?_)⟩;simp only[ak];refine⟨trivial,Xj _ ?_ ?_ ?_ ?_ ?_ ?_⟩<;>simp[f1,f2,f4,f25,fn,fi]
 .rintro fr s ⟨f1,f2,f4,f25,hk,A,hA,hB⟩;rw[aAQ]at hB;have hkn:=hk.next;have hGs:s.H st.next=.box 25 2 (grL g):=(hk.H _ oO).trans r8;have hOs:s.H (st.next+1)=.box 39 3 [.nil,.nil,.nil]:=(hk.H _ oO).trans hO1
  (repeat' (first|apply qS|(refine zE ?_;intro J hJ;simp[f1,hGs])))
  refine qE (Nx g s oO oO oO) sS ?_;rintro r s2 ⟨rfl,Xq⟩;have hkn2:=Xq.next;have hA2:=hA.keep Xq;have V1:=hk.trans Xq;have D5:=oZ g.es;have hO2:=(Xq.H _ oO).trans hOs;have p9:=(Xq.H _ oO).trans hGs;clear Xq hOs hGs hA hk
  (repeat' (first|apply qS|((first|(refine zE ?_;intro J hJ)|(apply aF));simp[];(try (refine zJ hJ ?_;clear hJ J)))))
  have hbk:=LQ g;have ZQ:bkL (sE g.es) (fO (sE g.es))=rZ (bE g):=by simp[bkL,rZ,bE]
  have hbn:(fO (sE g.es)).length=(bE g).length:=by simp[bE]
  have A6:=Tw ⟨g.vs,sE g.es⟩ A7 ((s2.new (.box 25 2 [.sl 0 g.vs.length (us g.vs),.sl 0 (sE g.es).length (eds (sE g.es))])).new (.map false [.u32] [])) (aBj (FM hc).2.2.1 (by decide)) (by simp only;omega);simp only[]at A6;rw[ZQ,hbn]at A6;refine qE A6 (by simp[grL]) ?_;rintro r s3 ⟨rfl,e3⟩;rw[e3];clear e3 s3 A6;have Xv:=aA.new s2 (.box 25 2 [.sl 0 g.vs.length (us g.vs),.sl 0 (sE g.es).length (eds (sE g.es))]);have hn3:(s2.new (.box 25 2 [.sl 0 g.vs.length (us g.vs),.sl 0 (sE g.es).length (eds (sE g.es))])).next=s2.next+1:=rfl;rw[<- hn3];generalize s2.new (.box 25 2 [.sl 0 g.vs.length (us g.vs),.sl 0 (sE g.es).length (eds (sE g.es))])=s3 at *;have hA3:=hA2.keep Xv;have hK3:=V1.trans Xv;have hO3:=(Xv.H _ oO).trans hO2;have hG3:=(Xv.H _ oO).trans p9;clear hA2 V1 hO2 p9 Xv;unfold vR at ho;obtain⟨oT,hoT,ho⟩:=aBE.1 ho;have hKt:=hK1.trans hK3
  (repeat' (first|apply qB|(apply aF;simp[];(refine zJ hJ ?_;clear hJ J))))
  refine aZ 57 56 58 104 ((bE g).length) (fun j fr st2=>fr 1=.pt st.next 0/\fr 2=.pt (st.next+1) 0/\fr 4=.mp s1.next/\fr 9=.mp s3.next/\fr 55=.sl 0 (bE g).length (rZ (bE g))/\aA s3 st2/\∃ T A2,FI g ((bE g).drop j) T=some oT/\yL false [.u32] 34 1 A2 s3.next s3.next st2/\vH T A2/\fF T<=100000) ?_ ?_ ?_
  .exact⟨by simp[f1],by simp[f2],by simp[f4],sS,sS,aA.new _ _,[],[],by simpa using hoT,⟨by simp[rmL],sS,sS,sS,sS⟩,rfl,by simp[fF]⟩
  .clear f1 f2 f4 f25 hoT fr;rintro j0 fr s4 GD ⟨f1,f2,f4,f9,f55,Yb,T,A2,hE,hT,hR,htot⟩ fi fn JO hJO;have hd:=Iy (bE g) j0 GD;have C4:(bE g).drop j0=(bE g).getD j0 []::(bE g).drop (j0+1):=by rw[aAO GD,aAc,aAd GD];rfl
   obtain⟨hdre,YW⟩:=nH hgE (l:=(bE g).getD j0 []) (by rw[aAc,aAd GD];exact aAA _);rw[C4]at hE;unfold FI at hE;obtain⟨oD,hD,hE⟩:=aBE.1 hE;generalize (bE g).getD j0 []=l at *;have hkn4:=Yb.next;have hM24:=hT.mlt.2;have hel4:(rZ (bE g)).length=(bE g).length:=by simp[rZ]
   (repeat' (first|apply qS|(refine zE ?_;intro J hJ;simp[f55,fi,fn,GD,hd,hel4];(try (refine zJ hJ ?_;clear hJ J)))))
   refine qE (Vo hdre hD s4 oO) sS ?_;rintro r s5 ⟨rfl,S5⟩;have hO5:=(S5.H (st.next+1) oO).trans ((Yb.H (st.next+1) oO).trans hO3);have hk45:=Yb.trans S5;cases oD with
   |none=>
    simp only at hE;obtain rfl:none=oT:=aBf hE;simp only at ho;obtain rfl:none=o:=aBf ho;unfold drR
    (repeat' (first|apply qS|(refine qR (zZ ?_);simp[f2,hO5])|(apply qC;simp[f2,hO5])|((first|(refine zE ?_;intro J hJ)|(apply aF));simp[f2,hO5];(refine zJ hJ ?_;clear hJ J))))
    exact⟨by simp[Oc,z0,z0L],(hKt.trans hk45).set oO _⟩
   |some F=>
    simp only at hE
    split at hE
    case isFalse=>cases hE
    rename_i v9;obtain⟨o1,o2,o3,o4,o5⟩:=v9;unfold drR
    (repeat' (first|apply qS|refine qK (zZ ?_)|(apply qC;simp[f2,hO5])|((first|(refine zE ?_;intro J hJ)|(apply aF));simp[f2,hO5];(try (refine zJ hJ ?_;clear hJ J)))))
    refine qE (Oa F s5 o1 o2) sS ?_;rintro r s6 ⟨M,loc,rfl,hM⟩;have hMk:=hM.kp;have hnd:=hM.nd;have hkeyN:=Pr (aY F) loc
    (repeat' (first|apply qS|((first|(refine zE ?_;intro J hJ)|(apply aF));simp[];(try (refine zJ hJ ?_;clear hJ J)))))
    refine qE (VR M _) sS ?_;rintro r s7 ⟨rfl,e7⟩;rw[e7];clear e7 s7;have hM7:(s6.new (.box 80 1 [.mp M])).H M=.map false [.u32] (ouL (aY F) loc):=by rw[bX,aAa (by have:=hM.olt;omega)];exact hM.out
    (repeat' (apply aF;simp[]))
    refine qE (RA M s6.next (ouL (aY F) loc) ((aY F).map (·.1)) _ (by simpa[ouL]using o3) sS hM7 hkeyN hnd) sS ?_;rintro r s8 ⟨rfl,hk8⟩;have hk68:=(aA.new s6 _).trans hk8;have hn5:=S5.next;have hn6:=hMk.next;have hn8:=hk68.next;have YR:s8.H M=.map false [.u32] (ouL (aY F) loc):=(hk68.H M hM.olt.2).trans hM.out;have hinn:∀ a∈aY F,s8.H (loc a.1)=.map false [.u32] (inL a.2)/\s5.next<=loc a.1/\loc a.1<s8.next:=fun a ha=>by obtain⟨q1,q2,q3⟩:=hM.inn a ha;exact⟨(hk68.H _ q3).trans q1,q2.1,oO⟩
    have hMo:s5.next<=M/\M<s8.next:=⟨hM.olt.1,by have:=hM.olt.2;omega⟩;have hk48:=(S5.trans hMk).trans hk68;have hT8:=hT.keep hk48;have hk38:=Yb.trans hk48;have hTW:∀ a∈A2,a.2.1<s5.next\/s8.next<=a.2.1:=fun a ha=>.inl (by have:=(hT.tok a ha).2.2.1;omega);have Wu:=Il F;clear hM hM7 hk68 hMk hk48 hT hk8 S5 hO5 hk45 hkeyN;unfold vB at hE o5;generalize aY F=AF at *;have hKm:=fun x=>pX x (AF.map (·.1));have hKl:(oX (AF.map (·.1))).length<=1000:=aBj (HI _) (by rw[aAz];exact o3);generalize oX (AF.map (·.1))=K at *
    (repeat' (first|apply qB|(apply aF;simp[];(refine zJ hJ ?_;clear hJ J))))
    refine aZ 75 74 76 103 (K.length) (fun j fr st2=>(fr 1=.pt st.next 0/\fr 2=.pt (st.next+1) 0/\fr 4=.mp s1.next/\fr 9=.mp s3.next/\fr 55=.sl 0 (bE g).length (rZ (bE g))/\fr 56=i (bE g).length/\fr 57=i j0/\fr 14=.mp M/\fr 73=.sl 0 K.length (us K))/\TI s1.next s3.next s5.next s3 s8 (fB g AF (K.take j) T) st2) ?_ ?_ ?_
    .exact⟨⟨by simp[f1],by simp[f2],by simp[f4],by simp[f9],by simp[f55],by simp[fn],by simp[fi],sS,sS⟩,hk38,aAk _,fun l _ _=>rfl,A2,hT8,hR,hTW⟩
    .clear f1 f2 f4 f9 f55 fn fi fr hT8 hR hTW;rintro k1 fr s9 ZO ⟨⟨f1,f2,f4,f9,f55,f56,f57,f14,f73⟩,hTI⟩ fi fn J1 hJ1;have Xn:=qG K k1 ZO;have hsn1:fB g AF (K.take (k1+1)) T=dM g (K.getD k1 0) (cA (dA (K.getD k1 0) AF)) (fB g AF (K.take k1) T):=by have h1:K.take (k1+1)=K.take k1++[K[k1]]:=aAn ZO;unfold fB;rw[h1,aBm,bG _ _ ZO];rfl
     have htot1:fF (fB g AF (K.take (k1+1)) T)<=100000:=by have h1:=Ca g AF (K.drop (k1+1)) (fB g AF (K.take (k1+1)) T);rw[<- HT]at h1;omega
     have hvK:K.getD k1 0∈AF.map (·.1):=(hKm _).1 (by rw[bG _ _ ZO];exact aAA _);have hvA:=GG hvK;have hgM:=EA AF loc (K.getD k1 0);rw[aAe hvK]at hgM;rw[hsn1]at htot1 hJ1;clear hsn1;generalize fB g AF (K.take k1) T=Tk at *;generalize K.getD k1 0=v at *;obtain⟨hI1,hI2,hI3⟩:=hinn _ hvA;have hPl:=o4 _ hvA;have hP0:=Wu _ hvA;simp only at hI1 hI2 hI3 hPl hP0;have hLl:=Hx (dA v AF);generalize dA v AF=P at *;have hTI':=hTI;obtain⟨hk9,hn9,hW,A9,hT9,hR9,hTW9⟩:=hTI';have hM9:=(hW M hMo.1 hMo.2).trans YR;have hI9:=(hW _ hI2 hI3).trans hI1;clear hT9 hR9 hTW9 hW;generalize loc v=lv at *
     (repeat' (first|apply qS|(refine zE ?_;intro J hJ;simp[f73,fi,fn,ZO,Xn,f14,hM9,hgM];(try (refine zJ hJ ?_;clear hJ J)))))
     refine qE (UU P lv s9 hP0 oO hI9 oO) sS ?_;rintro r s10 ⟨rfl,P5⟩;rw[P5];clear P5 s10;have R7:(cA P).length<=1000:=oO;generalize cA P=L at *
     (repeat' (first|apply qB|(apply aF;simp[];(refine zJ hJ ?_;clear hJ J))))
     refine aZ 84 83 85 102 (L.length) (fun j fr st2=>(fr 1=.pt st.next 0/\fr 2=.pt (st.next+1) 0/\fr 4=.mp s1.next/\fr 9=.mp s3.next/\fr 55=.sl 0 (bE g).length (rZ (bE g))/\fr 56=i (bE g).length/\fr 57=i j0/\fr 14=.mp M/\fr 73=.sl 0 K.length (us K))/\(fr 74=i K.length/\fr 75=i k1/\fr 16=u v/\fr 82=.sl 0 L.length (us L))/\TI s1.next s3.next s5.next s3 s8 (dM g v (L.take j) Tk) st2) ?_ ?_ ?_
     .exact⟨⟨by simp[f1],by simp[f2],by simp[f4],by simp[f9],by simp[f55],by simp[f56],by simp[f57],by simp[f14],by simp[f73]⟩,⟨by simp[fn],by simp[fi],sS,sS⟩,hTI⟩
     .clear f1 f2 f4 f9 f55 f56 f57 f14 f73 fi fn fr hTI hk9 hn9 hM9 hI9 s9;rintro k2 fr s9 ZN ⟨⟨f1,f2,f4,f9,f55,f56,f57,f14,f73⟩,⟨f74,f75,f16,f82⟩,hk9,hn9,hW,A9,hT9,hR9,hTW9⟩ fi fn J2 K1;have YM:=qG L k2 ZN;have hsn2:dM g v (L.take (k2+1)) Tk=oV v (eS (jK g v (L.getD k2 0)) v (L.getD k2 0)) (dM g v (L.take k2) Tk):=by have h1:L.take (k2+1)=L.take k2++[L[k2]]:=aAn ZN;unfold dM;rw[h1,aBm,bG _ _ ZN];rfl
      have htot2:fF (dM g v (L.take (k2+1)) Tk)<=100000:=by have h1:=wR g v (L.drop (k2+1)) (dM g v (L.take (k2+1)) Tk);rw[<- Fb]at h1;omega
      rw[hsn2]at htot2 K1;clear hsn2;generalize dM g v (L.take k2) Tk=Tq at *;generalize L.getD k2 0=x at *;have hbun:=hB.get hA3.nd (prP v x);have hMB:s9.H s1.next=.map true [.u32,.u32] (rmL A):=(hk9.H _ hA3.mlt.2).trans hA3.map;obtain⟨X,hX,tX,hXn⟩:∃ X,(bQ (rmL A) [min v x,max v x]).getD .nil=X/\∃ t,norm X=.sl t (jK g v x).length (eds (jK g v x)):=by
       refine⟨_,rfl,?_⟩;rw[tW];rcases hbun with⟨h1,h2⟩|⟨t,h2⟩
       .refine⟨0,?_⟩;simp only[prP,pk]at h2;rw[h2];unfold jK;rw[h1];rfl
       .refine⟨t,?_⟩;simp only[prP,pk]at h2;rw[h2];rfl
      have hBl:(jK g v x).length<=200:=aBj (aBh _ _) (aBj he oO);have hBp:∀ e∈jK g v x,1<=e.id/\e.id<=1048576:=fun e h=>hgE.pos e (aAr.1 h).1;have hdarts:=fun st=>UR (jK g v x) v x tX st oO hBp;generalize jK g v x=B at *;have ZI:=tW [v] A9;have Zo:=hR9.add (v:=v) (ds:=eS B v x);have htq:=Ao v (oV v (eS B v x) Tq);have hgq:=hR9.get (v:=v);generalize hDD:eS B v x=D at *;have hMT:=hT9.map;have z1:¬s1.next=s3.next:=by have:=hA3.mlt;omega
      have z2:¬s3.next=s1.next:=fun e=>z1 e.symm;have hn39:=hk9.next;have hDt:=uX v D Tq;have hDt2:=Ao v Tq;have hD1:D.length*4<=140737488355328:=oO;have hD2:D.length<=maxLen:=by unfold maxLen;omega
      have X4:=hT9.mlt.2;have z3:¬s3.next=s9.next:=oO;have z4:¬s9.next=s3.next:=oO;have z5:¬s1.next=s9.next:=by have:=hA3.mlt;omega
      have h35:s3.next<s5.next:=oO
      (repeat' (first|apply qS|(refine zE ?_;intro J hJ;simp[f82,fi,fn,ZN,YM];(refine zJ hJ ?_;clear hJ J))))
      (refine zS [] [s1.next,s3.next] [0,2,4,6,8,10,12,14,20,22,16,18,24,26,29] ?_;intro J hJ;simp[f4,f9,f16,hMT,hMB])
      refine qD (pair v x _) sS ?_;rintro r s10 ⟨rfl,P5⟩;rw[P5];clear P5 s10;refine⟨fun h=>by first|(cases h;done)|exact fun _ _=>rfl|simp,?_⟩
      (apply aS;simp[hMT,hMB,hX])
      refine qD (hdarts _) (by simp;exact hXn) ?_;rintro r s10 ⟨rfl,P5⟩;rw[P5];clear P5 s10;refine⟨fun h=>by first|(cases h;done)|exact fun _ _=>rfl|simp,?_⟩;rcases hgq with⟨X0,Zg⟩|⟨t,Zg⟩
      .rw[Zg]at ZI;simp only[Option.map_none]at ZI
       (apply aS;simp[hMT,hMB,hX,ZI,hD1,hD2,z3,z4,z5];(refine zJ hJ ?_;clear hJ J))
       skip
       have Zo:=Zo s9.next;rw[X0]at Zo;simp only[us,aBt,List.nil_append,List.length_nil,aBv]at Zo;refine K1 _ _ (by simp[fi]) (by simp[fn]) ⟨⟨by simp[f1],by simp[f2],by simp[f4],by simp[f9],by simp[f55],by simp[f56],by simp[f57],by simp[f14],by simp[f73]⟩,⟨by simp[f74],by simp[f75],by simp[f16],by simp[f82]⟩,(hk9.trans (aA.new _ _)).set (aAk _) _,by simp;omega,fun l q1 q2=>?_,_,hT9.put (k:=[v]) (t:=s9.next) (n:=D.length) (c:=us D) ⟨aAk _,sS⟩ sS hn39 oO (by simp[rmV]) (by simp[z4]) (fun l hl o8 _=>by simp[show ¬l=s9.next by omega,o8]),Zo,fun y hy=>?_⟩
       .rw[bF,aAa oO,bX,aAa oO];exact hW l q1 q2
       .rcases pV hT9.nd y hy with rfl|⟨hy,_⟩
        .exact .inr hn9
        .exact hTW9 y hy
      .rw[Zg]at ZI;simp only[Option.map_some]at ZI;unfold rmV at ZI;simp only at ZI;obtain⟨g1,g2,g3,g4⟩:=hT9.tok _ (mW Zg);simp only at g1 g2 g3 g4;have y5:¬s3.next=t:=fun e=>by rw[<- e,hMT]at g4;cases g4
       have y6:¬t=s3.next:=fun e=>y5 e.symm;have y1:¬t=s9.next:=oO;have y2:¬s9.next=t:=oO;have z6:¬s1.next=t:=by have:=hA3.mlt.2;omega
       have hD3:((dV v Tq).length+D.length)*4<=140737488355328:=oO;have N3:(dV v Tq).length+D.length<=maxLen:=by unfold maxLen;omega
       (apply aS;simp[hMT,hMB,hX,ZI,hD1,hD2,z3,z4,z5,z6,y1,y2,y5,y6,g1,g4,hD3,N3];(refine zJ hJ ?_;clear hJ J))
       skip
       refine K1 _ _ (by simp[fi]) (by simp[fn]) ⟨⟨by simp[f1],by simp[f2],by simp[f4],by simp[f9],by simp[f55],by simp[f56],by simp[f57],by simp[f14],by simp[f73]⟩,⟨by simp[f74],by simp[f75],by simp[f16],by simp[f82]⟩,((hk9.set g2 _).trans (aA.new _ _)).set (aAk _) _,by simp;omega,fun l q1 q2=>?_,_,hT9.put (k:=[v]) (t:=s9.next) (n:=(dV v Tq).length+D.length) (c:=us (dV v Tq)++us D) ⟨aAk _,sS⟩ sS hn39 oO (by simp[rmV]) (by simp[z4]) (fun l hl o8 hx=>?_),Zo s9.next,fun y hy=>?_⟩
       .have:=hTW9 _ (mW Zg);simp only at this;rw[bF,aAa oO,bX,aAa (by simp;omega),bF,aAa oO];exact hW l q1 q2
       .have:=hx _ Zg;simp only at this;simp[show ¬l=s9.next by omega,o8,this]
       .rcases pV hT9.nd y hy with rfl|⟨hy,_⟩
        .exact .inr hn9
        .exact hTW9 y hy
     .rintro fr s10 ⟨⟨f1,f2,f4,f9,f55,f56,f57,f14,f73⟩,⟨f74,f75,f16,f82⟩,hTI2⟩;rw[aAQ]at hTI2
      skip
      exact hJ1 _ _ (by simp[f75]) (by simp[f74]) ⟨⟨by simp[f1],by simp[f2],by simp[f4],by simp[f9],by simp[f55],by simp[f56],by simp[f57],by simp[f14],by simp[f73]⟩,hTI2⟩
    .rintro fr s9 ⟨⟨f1,f2,f4,f9,f55,fn,fi,f14,f73⟩,hk9,hn9,_,A9,hT9,hR9,_⟩;rw[aAQ]at hR9
     skip
     exact hJO _ _ (by simp[fi]) (by simp[fn]) ⟨by simp[f1],by simp[f2],by simp[f4],by simp[f9],by simp[f55],hk9,_,A9,hE,hT9,hR9,o5⟩
  .clear f1 f2 f4 f25 hoT fr;rintro fr s4 ⟨f1,f2,f4,f9,f55,Yb,T,A2,hE,hT,hR,htot⟩;rw[List.drop_length]at hE;obtain rfl:some T=oT:=aBf hE;simp only at ho;by_cases hg1:∀ v∈g.vs,(dV v T).length<=1000
   case neg=>rw[aAa hg1]at ho;cases ho
   rw[aAe hg1]at ho;obtain rfl:some _=o:=aBf ho;have hO4:=(Yb.H (st.next+1) oO).trans hO3;have hG4:=(Yb.H st.next oO).trans hG3
   (repeat' (first|apply qS|(refine zE ?_;intro J hJ;simp[f1,hG4,f9])))
   refine qE (UZ g s3.next (rmL A2) (fun v=>dV v T) s4 hv oO hT.mlt.2 hT.map fun v Q7=>?_) (by simp[grL]) ?_
   .rw[tW];rcases hR.get (v:=v)with⟨h1,h2⟩|⟨t,h2⟩
    .refine⟨_,0,rfl,?_,hg1 v Q7⟩;rw[h2,h1];rfl
    .refine⟨_,t,rfl,?_,hg1 v Q7⟩;rw[h2];rfl
   rintro r s5 ⟨rfl,S5⟩;have hO5:=(S5.H (st.next+1) (by have:=Yb.next;omega)).trans hO4
   (repeat' (first|(refine qR (zZ ?_);simp[f2,hO5])|(apply aF;simp[f2,hO5];(refine zJ hJ ?_;clear hJ J))))
   refine⟨?_,((hKt.trans Yb).trans S5).set oO _⟩;rw[<- aBd];simp only[Oc,z0,z0L,Fp,EZ,z0m,mpL,grL,aAz,List.cons_append,List.nil_append,eZ]
end Aw
namespace Aw
open Go Go.RowKit Pl Eu
theorem Fv{R S:Int->Int->Prop}(hR:Eqv R)(hS:Eqv S)(h:∀ x y,R x y->S x y){l:List Int}{v0:Int}:∀(vs:List Int),v0∈l->(∀ v∈vs,v∈l/\S v0 v)->(v0::vs).Pairwise (fun x y=>¬R x y)->ncl S l+vs.length<=ncl R l
 |[],_,_,_=>by simpa using uB (R:=R) (S:=S) (l:=l) fun x _ y _=>h x y
 |v::vs,h0,hv,hp=>by
  obtain⟨p1,p2⟩:=aBg.1 hp;obtain⟨p3,p4⟩:=aBg.1 p2;obtain⟨v1,v2⟩:=hv v aAo;have e:=sO hR (p1 v aAo) h0 v1;have:=Fv (R:=Eu.Mg R v0 v) (S:=S) (Mg.eqv hR _ _) hS (fun x y k=>Mg.le hS v2 h k) (l:=l) (v0:=v0) vs h0 (fun w hw=>hv w (aAj _ hw)) (aBg.2 ⟨?_,?_⟩)
  .rw[List.length_cons];omega
  .rintro w hw (k|⟨_,k⟩|⟨k,_⟩)
   .exact p1 w (aAj _ hw) k
   .exact p3 w hw k
   .exact p1 v aAo k
  .refine p4.imp_of_mem fun {x y} hx hy YK k=>?_;rcases k with k|⟨k1,k2⟩|⟨k1,k2⟩
   .exact YK k
   .exact p3 y hy k2
   .exact p3 x hx (hR.symm k1)
theorem PY(vs:List Int):∀(Ls:List (List Ed)) (es0:List Ed),(∀ l∈Ls,(vsF l≠[])/\(∀ v∈vsF l,v∈vs)/\∀ u∈vsF l,∀ v∈vsF l,Reach l u v)->(∀ A l B,Ls=A++l::B->∀ u∈vsF l,∀ v∈vsF l,Reach (es0++A.flatten) u v->u=v)->
 ncl (Reach (es0++Ls.flatten)) vs+(Ls.map fun l=>(vsF l).length).sum<=ncl (Reach es0) vs+Ls.length
 |[],es0,_,_=>by simp
 |l::Ls,es0,h1,h2=>by
  obtain⟨k1,k2,k3⟩:=h1 l aAo;have ih:=PY vs Ls (es0++l) (fun l hl=>h1 l (aAj _ hl)) fun A l' B e u hu v hv k=>h2 (l::A) l' B (by rw[e];rfl) u hu v hv (by simpa using k);obtain⟨v0,V,hV⟩:=aCj k1;have hz:=h2 [] l Ls rfl;rw[List.flatten_nil,aAK]at hz
  have st:=Fv (R:=Reach es0) (S:=Reach (es0++l)) (eI _) (eI _) (fun x y k=>k.mono fun x hx=>aAt _ hx) (l:=vs) (v0:=v0) V (k2 v0 (by rw[hV];exact aAo))
   (fun v hv=>⟨k2 v (by rw[hV];exact aAj _ hv),(k3 v0 (by rw[hV];exact aAo) v (by rw[hV];exact aAj _ hv)).mono fun x hx=>aAI _ hx⟩) (by
     rw[<- hV];refine(kZ l).imp_of_mem fun {u v} hu hv huv k=>?_;have:=hz u hu v hv k
     omega)
  have hl:(vsF l).length=V.length+1:=by rw[hV];rfl
  rw[List.flatten_cons,<- aAD,aAi,List.sum_cons,List.length_cons];omega
theorem Qg{es:List Ed}{u v:Int}(h:Reach es u v):v=u\/∃ e∈es,(e.a=u\/e.b=u)/\RIn es (·≠u) (oth e u) v:=by
 induction h with
 |refl=>exact .inl rfl
 |@step y z h hz ih=>
  by_cases hzu:z=u
  .exact .inl hzu
  right;rcases ih with rfl|⟨e,he,h1,h2⟩
  .obtain⟨i,hi,e⟩:=ER hz;have h1:=aT.1 hi;refine⟨_,nN h1.1,h1.2,?_⟩;rw[e];exact .refl hzu
  .exact⟨e,he,h1,.step h2 hz hzu⟩
theorem RIn.emono{es es':List Ed}(hs:∀ x∈es,x∈es'){S:Int->Prop}{x y:Int}(h:RIn es S x y):RIn es' S x y:=by
 induction h with
 |refl h=>exact .refl h
 |step _ hz I3 ih=>refine .step ih ?_ I3;rw[cM]at hz ⊢;obtain⟨x,hx,h⟩:=hz;exact⟨x,hs x hx,h⟩
theorem RIn.reach{es:List Ed}{S:Int->Prop}{x y:Int}(h:RIn es S x y):Reach es x y:=by
 induction h with
 |refl=>exact .refl
 |step _ hz _ ih=>exact .step ih hz
section
variable {g:Gr} (hg:GoodE g)
include hg
theorem sZ{B:List Nat}{v:Int}(h:v∈vsF (esB g.es B)):∃ i∈B,(eAt g.es i).a=v\/(eAt g.es i).b=v:=by obtain⟨e,he,k⟩:=(bM _ _).1 h;obtain⟨i,hi,rfl⟩:=aAm.1 he;exact⟨i,hi,k.imp Eq.symm Eq.symm⟩
theorem dF.reach{B:List Nat}(h:dF g.es B){u v:Int}(hu:u∈vsF (esB g.es B))(hv:v∈vsF (esB g.es B)):Reach (esB g.es B) u v:=by obtain⟨i,hi,iu⟩:=sZ hg hu;obtain⟨j,hj,jv⟩:=sZ hg hv;exact(h.con hg (max u v+1) hi (h.rel i hi j hj) u v iu jv oO oO).reach
theorem dF.cut{B:List Nat}(h:dF g.es B){es:List Ed}(hes:∀ e∈es,∃ j,j<g.es.length/\j∉B/\e=eAt g.es j){u v:Int}(hu:u∈vsF (esB g.es B))(hv:v∈vsF (esB g.es B))(hr:Reach es u v):u=v:=by
 obtain⟨i,hi,iu⟩:=sZ hg hu;obtain⟨k,hk,kv⟩:=sZ hg hv;rcases Qg hr with e|⟨e,he,h1,h2⟩
 .exact e.symm
 refine aAG fun Wu=>?_;obtain⟨j,hj,hjB,rfl⟩:=hes e he;have a:=(h.con hg u hi (h.rel i hi k hk) _ v (lQ _ u) kv (sU hg (aT.2 ⟨h.lt i hi,iu⟩)) fun k=>Wu k.symm).up h.lt;have b:=h2.emono (es':=g.es) fun x hx=>by obtain⟨l,hl,_,rfl⟩:=hes x hx;exact nN hl
 exact hjB (h.all i hi j hj ⟨u,iu,h1,a.trans b.symm⟩)
end
theorem KN(es:List Ed):(fO es).Nodup:=by unfold fO List.Nodup;rw[aAV];refine(aBY.sublist aBp).imp_of_mem fun {i j} hi hj hij e=>?_;rw[aAr,aAL]at hi hj;have:=hi.2;rw[e,hj.2]at this;omega
theorem sA{g:Gr}(hg:GoodE g):ncl (Reach g.es) g.vs+((bE g).map fun l=>(vsF l).length).sum<=g.vs.length+(bE g).length:=by
 have A7:=hg.simple;have hall:∀ B∈fO (sE g.es),dF (sE g.es) B:=fun B hB=>kO A7 hB;have hf:=PY g.vs (bE g) [] (fun l hl=>?_) fun A l B e u hu v hv k=>?_
 .rw[Ko (fun x y=>Cr) hg.toGood.nodup,List.nil_append]at hf
  suffices key:∀ x y,Reach (bE g).flatten x y->Reach g.es x y from aBj (Nat.add_le_add_right (uB fun x _ y _ k=>key x y k) _) hf
  intro x y k;induction k with
  |refl=>exact .refl
  |step _ hz ih=>rw[cM]at hz;obtain⟨x,hx,h⟩:=hz;obtain⟨l,hl,hx⟩:=aAY.1 hx;refine .step ih ?_;rw[cM];exact⟨x,(nH hg hl).2 x hx,h⟩
 .unfold bE at hl;obtain⟨B,hB,rfl⟩:=aAm.1 hl;have hB:=hall B hB;refine⟨?_,fun v hv=>?_,fun u hu v hv=>hB.reach A7 hu hv⟩
  .obtain⟨i,hi⟩:=aBo _ hB.ne;exact aCo ((bM _ _).2 ⟨_,aAx hi,.inl rfl⟩)
  .obtain⟨i,hi,h⟩:=sZ A7 hv;have:=A7.ends _ (nN (hB.lt i hi));rcases h with rfl|rfl
   .exact this.1
   .exact this.2
 .unfold bE at e;obtain⟨A',R,e1,rfl,e2⟩:=aDB.1 e;obtain⟨B0,R',rfl,rfl,e3⟩:=aDR.1 e2;have L3:B0∈fO (sE g.es):=by rw[e1];simp
  have hn:=KN (sE g.es);rw[e1,aAs]at hn;refine(hall B0 L3).cut A7 (fun x hx=>?_) hu hv k;rw[List.nil_append]at hx;obtain⟨l,hl,hx⟩:=aAY.1 hx;obtain⟨B',W8,rfl⟩:=aAm.1 hl;obtain⟨j,hj,rfl⟩:=aAm.1 hx;have hB'':=hall B' (by rw[e1];simp[W8]);refine⟨j,hB''.lt j hj,fun hj0=>?_,rfl⟩;exact hn.2.2 B' W8 B0 sS (dF.eq (g:=⟨g.vs,sE g.es⟩) hB'' (hall B0 L3) hj hj0)
structure Tc(E:List Ed):Prop where
 ids:E.Pairwise fun x y=>x.id<y.id
 ne:∀ e∈E,e.a≠e.b
 sim:(E.map prE).Nodup
 con:∀ w p q,p∈vsF E->q∈vsF E->p≠w->q≠w->RIn E (·≠w) p q
 two:2<=E.length
 few:(vsF E).length<=64/\E.length<=200
theorem mY{es:List Ed}{v w:Int}:w∈aI es v↔∃ e∈es,prE e=prP v w:=by
 rw[iI];constructor
 .rintro⟨x,hx,⟨h1,h2⟩|⟨h1,h2⟩⟩
  .exact⟨x,hx,by show prP _ _=_;rw[h1,h2]⟩
  .exact⟨x,hx,by show prP _ _=_;rw[h1,h2];exact bL _ _⟩
 .rintro⟨x,hx,h⟩;rcases cH h with⟨h1,h2⟩|⟨h1,h2⟩
  .exact⟨x,hx,.inl ⟨h1,h2⟩⟩
  .exact⟨x,hx,.inr ⟨h1,h2⟩⟩
theorem EV{es:List Ed}{v w:Int}:w∈nbr es v↔∃ e∈es,prE e=prP v w:=by
 rw[cM];constructor
 .rintro⟨x,hx,⟨h1,h2⟩|⟨h1,h2⟩⟩
  .exact⟨x,hx,by show prP _ _=_;rw[h1,h2]⟩
  .exact⟨x,hx,by show prP _ _=_;rw[h1,h2];exact bL _ _⟩
 .rintro⟨x,hx,h⟩;rcases cH h with⟨h1,h2⟩|⟨h1,h2⟩
  .exact⟨x,hx,.inl ⟨h1,h2⟩⟩
  .exact⟨x,hx,.inr ⟨h2,h1⟩⟩
theorem map_inj{α β:Type}{F:α->β}:∀ {l:List α},(l.map F).Nodup->∀ {e f:α},e∈l->f∈l->F e=F f->e=f
 |a::l,h0,e,f,he,hf,h=>by
  rw[aAi,aAy]at h0;rcases aAf.1 he with a1|a1
  .rcases aAf.1 hf with b1|b1
   .rw[a1,b1]
   .exact absurd (by rw[<- a1,h];exact aAx b1) h0.1
  .rcases aAf.1 hf with b1|b1
   .exact absurd (by rw[<- b1,<- h];exact aAx a1) h0.1
   .exact map_inj h0.2 a1 b1 h
section
variable {E:List Ed} (hT:Tc E)
include hT
theorem Tc.sim_eq{e f:Ed}(he:e∈E)(hf:f∈E)(h:prE e=prE f):e=f:=map_inj hT.sim he hf h
theorem Tc.start{x:Ed}{R:List Ed}(hE:E=x::R):∃ h,newF ⟨vsF E,E⟩=some h/\Drn E h:=by
 have hx:x∈E:=by rw[hE];exact aAo
 have YC:=hT.ne x hx;have va:x.a∈vsF E:=(bM _ _).2 ⟨x,hx,.inl rfl⟩;have vb:x.b∈vsF E:=(bM _ _).2 ⟨x,hx,.inr rfl⟩;have K2:∀ v,∀ w∈aI (E.filter fun y=>decide (y≠x)) v,w∈vsF E:=fun v w hw=>by obtain⟨e,he,hp⟩:=mY.1 hw;exact(gV (aAr.1 he).1 hp).2
 obtain⟨c,hc,hca,hcb⟩:∃ c∈vsF E,c≠x.a/\c≠x.b:=by
  have h2:=hT.two;obtain⟨y,R',hR⟩:∃ y R',R=y::R':=by
   cases R with
   |nil=>rw[hE]at h2;simp at h2
   |cons y R'=>exact⟨y,R',rfl⟩
  have hy:y∈E:=by rw[hE,hR];simp
  have YV:y≠x:=fun e=>by have:=hT.ids;rw[hE,hR]at this;have:=(aBg.1 this).1 y sS;rw[e]at this;omega
  have hyn:=hT.ne y hy;refine aAG fun YD=>YV (hT.sim_eq hy hx ?_);have ya:y.a=x.a\/y.a=x.b:=aAG fun k=>YD ⟨y.a,(bM _ _).2 ⟨y,hy,.inl rfl⟩,fun e=>k (.inl e),fun e=>k (.inr e)⟩;have yb:y.b=x.a\/y.b=x.b:=aAG fun k=>YD ⟨y.b,(bM _ _).2 ⟨y,hy,.inr rfl⟩,fun e=>k (.inl e),fun e=>k (.inr e)⟩;show prP _ _=prP _ _;rcases ya with a1|a1<;>rcases yb with b1|b1
  .omega
  .rw[a1,b1]
  .rw[a1,b1];exact bL _ _
  .omega
 have along:∀ S:Int->Prop,UL (aI (E.filter fun y=>decide (y≠x))) (fun _=>true) x.a S->∀ w,(w=x.a\/w=x.b)->∀ p q,RIn E (·≠w) p q->S p->S q:=by
  intro S hS w hw p q h hp;induction h with
  |refl=>exact hp
  |@step y z h hz hs ih=>
   obtain⟨e,he,ZZ⟩:=EV.1 hz;have hy:=h.here.2;have hex:e≠x:=fun ex=>by
    rw[ex]at ZZ;rcases cH ZZ with⟨k1,k2⟩|⟨k1,k2⟩
    .rcases hw with e1|e1
     .exact hy (by rw[e1,k1])
     .exact hs (by rw[e1,k2])
    .rcases hw with e1|e1
     .exact hs (by rw[e1,k1])
     .exact hy (by rw[e1,k2])
   exact hS.2 y ih (.inr rfl) z (mY.2 ⟨e,aAr.2 ⟨he,aBB hex⟩,ZZ⟩)
 obtain⟨w,h1,h2,h3,h4,h5,h6,h7,h8,h9⟩:=JX (may:=fun _=>true) K2 va vb YC (n:=1000) (by have:=hT.few.1;omega) fun S hS=>along S hS x.a (.inl rfl) c x.b (hT.con _ _ _ hc vb hca (fun e=>YC e.symm)) (along S hS x.b (.inr rfl) x.a c (hT.con _ _ _ va hc YC hcb) hS.1);have hs:=xI h3;rw[h6,h7]at hs;have YD:∀ e∈E.filter fun y=>decide (y≠x),prE e≠prP x.a x.b:=fun e he k=>by rw[aAr,aAL]at he;exact he.2 (hT.sim_eq he.1 hx k)
 cases hM:fD w with
 |nil=>rw[hM,List.nil_append]at hs;obtain⟨e,he,k⟩:=mY.1 (h8 x.a x.b (by rw[hs];simp[lnk]));exact absurd k (YD e he)
 |cons m M=>
  rw[hM]at hs;refine⟨⟨kX (kX [] w) [x.a,x.b],w++[x.a,x.b],[w,w.reverse]⟩,?_,Drn.start hx hs h2 fun u v huv=>?_⟩
  .have hh:newF ⟨vsF E,E⟩=(tP (vsF E) (aI (E.filter fun y=>decide (y≠x))) (fun _=>true) x.a x.b 1000).bind fun ring=>
    if ring.length<=200/\∀ v∈ring,v∈vsF E then some ⟨kX (kX [] ring) [x.a,x.b],ring++[x.a,x.b],[ring,ring.reverse]⟩else none:=by
    unfold newF;rw[hE]
   rw[hh,h1,Option.bind_some,aAe ⟨by have:=hT.few.1;omega,h5⟩]
  .obtain⟨e,he,k⟩:=mY.1 (h8 u v huv);exact⟨e,(aAr.1 he).1,k⟩
end
theorem iS{A B:List Int}{v:Int}:v∈off A B↔v∈A/\v∉B:=by unfold off;simp
theorem Em{A B:List Int}{v:Int}:v∈on' A B↔v∈A/\v∈B:=by unfold on';simp
theorem lP{vs A:List Int}{v:Int}:v∈nrS vs A↔v∈vs/\v∈A:=by unfold nrS;simp
theorem Ep{g:Gr}{A:List Int}{v:Int}:v∈arn g A↔∃ u∈A,v∈nbr g.es u:=by unfold arn;rw[aAR]
structure Brd(E:List Ed)(L:List (Int×Int))(on:List Int)(b:Brg):Prop where
 en:∀ v∈b.ends,v∈on/\v∈vsF E
 kind:(b.inner=[]/\∃ e∈E,prE e∉L/\b.ends=[e.a,e.b])\/
  (b.inner≠[]/\(∀ v∈b.inner,v∈vsF E/\v∉on)/\(∀ p∈b.inner,∀ q∈b.inner,RIn E (·∈b.inner) p q)/\(∀ p∈b.inner,∀ q∈nbr E p,q∈b.inner\/q∈b.ends)/\∀ q∈b.ends,∃ p∈b.inner,q∈nbr E p)
section
variable {E:List Ed} {on:List Int}
theorem TY{p q:Int}(h:q∈nbr E p):q∈vsF E:=by obtain⟨e,he,k⟩:=EV.1 h;exact(gV he k).2
theorem Jq(v:Int)(hv:v∈vsF E)(hvo:v∉on)(L:List (Int×Int)):∀(n:Nat) (I:List Int),I.Nodup->v∈I->(∀ p∈I,p∈vsF E/\p∉on)->(∀ p∈I,RIn E (·∈I) v p)->(vsF E).length+1<=n+I.length->
 ∃ b,xR ⟨vsF E,E⟩ on n I=some b/\Brd E L on b/\v∈b.inner
 |0,I,hn,_,hI,_,hl=>by have:=aAF hn fun p hp=>(hI p hp).1;omega
 |n+1,I,hn,hvI,hI,hc,hl=>by
  unfold xR
  split
  .rename_i ZG;refine⟨_,rfl,⟨fun q hq=>?_,.inr ⟨aCo hvI,hI,fun p hp q hq=>(hc p hp).symm.trans (hc q hq),fun p hp q hq=>?_,fun q hq=>?_⟩⟩,hvI⟩
   .have h:=Em.1 hq;exact⟨h.2,(lP.1 h.1).1⟩
   .have hqv:=TY hq;have hqa:q∈nrS (vsF E) (arn ⟨vsF E,E⟩ I):=lP.2 ⟨hqv,Ep.2 ⟨p,hp,hq⟩⟩;by_cases h1:q∈on
    .exact .inr (Em.2 ⟨hqa,h1⟩)
    .by_cases h2:q∈I
     .exact .inl h2
     .have:q∈off (off (nrS (vsF E) (arn ⟨vsF E,E⟩ I)) on) I:=iS.2 ⟨iS.2 ⟨hqa,h1⟩,h2⟩;rw[ZG]at this;cases this
   .have h:=Em.1 hq;obtain⟨p,hp,k⟩:=Ep.1 (lP.1 h.1).2;exact⟨p,hp,k⟩
  .rename_i ZG;obtain⟨u,hu⟩:=aBo _ ZG;have X8:=iS.1 hu;have hvsn:(vsF E).Nodup:=(kZ E).imp fun k=>by omega
   have mem':∀ q,q∈nrS (vsF E) (I++off (nrS (vsF E) (arn ⟨vsF E,E⟩ I)) on)↔q∈vsF E/\(q∈I\/(q∈arn ⟨vsF E,E⟩ I/\q∉on)):=fun q=>by
    rw[lP,aAg,iS,lP];constructor
    .rintro⟨h1,h2|h2⟩
     .exact⟨h1,.inl h2⟩
     .exact⟨h1,.inr ⟨h2.1.2,h2.2⟩⟩
    .rintro⟨h1,h2|h2⟩
     .exact⟨h1,.inl h2⟩
     .exact⟨h1,.inr ⟨⟨h1,h2.1⟩,h2.2⟩⟩
   have YW:∀ q∈I,q∈nrS (vsF E) (I++off (nrS (vsF E) (arn ⟨vsF E,E⟩ I)) on):=fun q hq=>(mem' q).2 ⟨(hI q hq).1,.inl hq⟩;have D8:(nrS (vsF E) (I++off (nrS (vsF E) (arn ⟨vsF E,E⟩ I)) on)).Nodup:=hvsn.sublist aBp;refine Jq v hv hvo L n _ D8 (YW v hvI) (fun p hp=>?_) (fun p hp=>?_) ?_
   .obtain⟨h1,h2⟩:=(mem' p).1 hp;exact⟨h1,h2.elim (fun k=>(hI p k).2) And.right⟩
   .have mono:∀ z,RIn E (·∈I) v z->RIn E (·∈nrS (vsF E) (I++off (nrS (vsF E) (arn ⟨vsF E,E⟩ I)) on)) v z:=fun z h=>h.mono YW;obtain⟨h1,h2⟩:=(mem' p).1 hp;rcases h2 with h2|h2
    .exact mono _ (hc p h2)
    .obtain⟨q,hq,k⟩:=Ep.1 h2.1;exact .step (mono _ (hc q hq)) k hp
   .have hul:u∈nrS (vsF E) (I++off (nrS (vsF E) (arn ⟨vsF E,E⟩ I)) on):=(mem' u).2 ⟨(lP.1 (iS.1 X8.1).1).1,.inr ⟨(lP.1 (iS.1 X8.1).1).2,(iS.1 X8.1).2⟩⟩;have:=aAF (aAy.2 ⟨X8.2,hn⟩) (l₂:=nrS (vsF E) (I++off (nrS (vsF E) (arn ⟨vsF E,E⟩ I)) on)) fun q hq=>by
     rcases aAf.1 hq with rfl|hq
     .exact hul
     .exact YW q hq
    rw[List.length_cons]at this;show(vsF E).length+1<=n+(nrS (vsF E) (I++off (nrS (vsF E) (arn ⟨vsF E,E⟩ I)) on)).length;omega
theorem KP(L:List (Int×Int)):∀(n:Nat) (R:List Int),(∀ v∈R,v∈vsF E/\v∉on)->R.length<=n->∃ l,sC ⟨vsF E,E⟩ on n R=some l/\(∀ b∈l,Brd E L on b)/\l.length<=R.length
 |n,[],_,_=>⟨[],by cases n<;>rfl,sS,sS⟩
 |0,v::R,_,h=>by simp at h
 |n+1,v::R,hR,h=>by
  obtain⟨hv,hvo⟩:=hR v aAo;obtain⟨b,h1,h2,h3⟩:=Jq (E:=E) v hv hvo L ((vsF E).length+1) [v] sS sS (fun p hp=>by rw[aAl.1 hp];exact⟨hv,hvo⟩) (fun p hp=>by rw[aAl.1 hp];exact .refl sS) sS;have GD:(off (v::R) b.inner).length<=R.length:=by unfold off;rw[aDF,aAa (by simp[h3])];exact aBh _ _
  obtain⟨l,k1,k2,k3⟩:=KP L n (off (v::R) b.inner) (fun p hp=>hR p (iS.1 hp).1) (by rw[List.length_cons]at h;omega);have e:sC ⟨vsF E,E⟩ on (n+1) (v::R)=(xR ⟨vsF E,E⟩ on ((vsF E).length+1) [v]).bind fun b=>(sC ⟨vsF E,E⟩ on n (off (v::R) b.inner)).map (b::·):=rfl;refine⟨b::l,by rw[e,h1,Option.bind_some,k1];rfl,fun c hc=>?_,by rw[List.length_cons,List.length_cons];omega⟩;rcases aAf.1 hc with rfl|hc
  .exact h2
  .exact k2 c hc
theorem Rf(L:List (Int×Int)):∃ B,Mm ⟨vsF E,E⟩ L on=some B/\(∀ b∈B,Brd E L on b)/\B.length<=E.length+(vsF E).length:=by
 have hlen:(off (vsF E) on).length<=(vsF E).length:=aBh _ _;obtain⟨l,h1,h2,h3⟩:=KP (E:=E) (on:=on) L ((vsF E).length+1) (off (vsF E) on) (fun v hv=>iS.1 hv) oO;refine⟨oS ⟨vsF E,E⟩ L on E++l,?_,fun b hb=>?_,?_⟩
 .unfold Mm;show(sC ⟨vsF E,E⟩ on ((vsF E).length+1) (off (vsF E) on)).map _=_;rw[h1];rfl
 .rcases aAg.1 hb with hb|hb
  .unfold oS at hb;obtain⟨e,he,rfl⟩:=aAm.1 hb;rw[aAr]at he;simp only[aAT,aCa]at he;refine⟨fun v hv=>?_,.inl ⟨rfl,e,he.1,he.2.1.1,rfl⟩⟩;rcases aAf.1 hv with rfl|hv
   .exact⟨he.2.1.2,(bM _ _).2 ⟨e,he.1,.inl rfl⟩⟩
   .rw[aAl.1 hv];exact⟨he.2.2,(bM _ _).2 ⟨e,he.1,.inr rfl⟩⟩
  .exact h2 b hb
 .have:(oS ⟨vsF E,E⟩ L on E).length<=E.length:=by unfold oS;rw[aAz];exact aBh _ _
  rw[aAh];omega
end
theorem Px{vs S:List Int}(h:∃ v∈vs,v∈S):fst' vs S<vs.length/\vs.getD (fst' vs S) 0∈S:=by obtain⟨v,h1,h2⟩:=h;have hl:fst' vs S<vs.length:=List.findIdx_lt_length_of_exists ⟨v,h1,by simpa using h2⟩;refine⟨hl,?_⟩;have:=aDO (w:=hl);rw[aAc,aAd hl];exact aBR this
theorem PX(b:Brg)(F:List (List Int)):(gY b F.zipIdx).1<0\/∃ k:Nat,(gY b F.zipIdx).1=k/\k<F.length/\∀ v∈b.ends,v∈F.getD k []:=by
 have key:∀(l:List (List Int×Nat)) (p:Int×Int),(∀ q∈l,q.2<F.length/\F.getD q.2 []=q.1)->(p.1<0\/∃ k:Nat,p.1=k/\k<F.length/\∀ v∈b.ends,v∈F.getD k [])->
  ((l.foldl (oM b) p).1<0\/∃ k:Nat,(l.foldl (oM b) p).1=k/\k<F.length/\∀ v∈b.ends,v∈F.getD k []):=by
  intro l;induction l with
  |nil=>intro p _ h;exact h
  |cons q l ih=>
   intro p hl hp;rw[List.foldl_cons];refine ih _ (fun r hr=>hl r (aAj _ hr)) ?_;obtain⟨q1,q2⟩:=hl q aAo;unfold oM;by_cases e:off b.ends q.1=[]
   .rw[aAe e];by_cases e2:p.2=0
    .rw[aAe e2];refine .inr ⟨q.2,rfl,q1,fun v hv=>?_⟩;rw[q2];refine aAG fun YD=>?_;have:v∈off b.ends q.1:=iS.2 ⟨hv,YD⟩;rw[e]at this;cases this
    .rw[aAa e2];exact hp
   .rw[aAa e];exact hp
 refine key F.zipIdx (-1,0) (fun q hq=>?_) (.inl sS);obtain⟨r,k⟩:=q;have:=List.mem_zipIdx hq;simp only[aBs,aBv,Nat.sub_zero,true_and]at this;refine⟨this.1,?_⟩;rw[aAc,aAd this.1];exact this.2.symm
section
variable {E:List Ed} (hT:Tc E)
include hT
def Chn(E:List Ed)(h:Sh)(r:Brg×Int):Prop:=(∀ v∈r.1.ends,v∈vsF E)/\(r.2<0\/Brd E h.L h.on r.1/\∃ k:Nat,r.2=k/\k<h.F.length/\∀ v∈r.1.ends,v∈h.F.getD k [])
omit hT in
theorem Cx{h:Sh}:∀(B:List Brg) (Zv:Brg×Int),(∀ b∈B,Brd E h.L h.on b)->Chn E h Zv->Chn E h (cU h.F B Zv)
 |[],Zv,_,hb=>hb
 |b::B,Zv,hB,hb=>by
  have h1:=hB b aAo;have hg:Chn E h (b,(gY b h.F.zipIdx).1):=⟨fun v hv=>(h1.en v hv).2,(PX b h.F).imp id fun k=>⟨h1,k⟩⟩;unfold cU
  split
  .exact hg
  .refine Cx B _ (fun c hc=>hB c (aAj _ hc)) ?_
   split
   .exact hg
   .exact hb
omit hT in
theorem Drn.two{h:Sh}(hD:Drn E h)(Wu:∀ e∈E,e.a≠e.b):∃ u v,u∈h.on/\v∈h.on/\u≠v:=by
 cases hL:h.L with
 |nil=>
  have hon:∀ v,v∉h.on:=fun v hv=>by obtain⟨u,_,k⟩:=(hD.on v).1 hv;rw[hL]at k;cases k
  have h1:=hD.cnt;rw[hL,aDb.2 fun v _=>by simpa using hon v]at h1;cases hF:h.F with
  |nil=>rw[hF]at h1;simp at h1
  |cons r F=>
   have hr:r∈h.F:=by rw[hF];exact aAo
   obtain⟨v,hv⟩:=aBo _ (hD.ne r hr);exact absurd (hD.ring_on hr hv) (hon v)
 |cons p L=>
  obtain⟨e,he,rfl⟩:=hD.sub p (by rw[hL];exact aAo);have hp:prE e∈h.L:=by rw[hL];exact aAo
  have:=Wu e he;exact⟨e.a,e.b,(hD.on _).2 ⟨e.b,fun k=>this k.symm,by rw[bL];exact hp⟩,(hD.on _).2 ⟨e.a,this,hp⟩,this⟩
omit hT in
theorem Drn.link_on{h:Sh}(hD:Drn E h){x y:Int}(YK:x≠y)(hm:prP x y∈h.L):x∈h.on/\y∈h.on:=
 ⟨(hD.on x).2 ⟨y,fun e=>YK e.symm,by rw[bL];exact hm⟩,(hD.on y).2 ⟨x,YK,hm⟩⟩
theorem PW{h:Sh}(hD:Drn E h){b:Brg}(hb:Brd E h.L h.on b):∃ u v,u∈b.ends/\v∈b.ends/\u≠v:=by
 rcases hb.kind with⟨_,e,he,_,k⟩|⟨h0,h1,h2,h3,h4⟩
 .exact⟨e.a,e.b,by rw[k];simp,by rw[k];simp,hT.ne e he⟩
 refine aAG fun YD=>?_;obtain⟨u,v,hu,hv,huv⟩:=hD.two hT.ne;obtain⟨p,hp⟩:=aBo _ h0;obtain⟨c,hc⟩:∃ c,∀ z∈b.ends,z=c:=by
  cases hE:b.ends with
  |nil=>exact⟨0,sS⟩
  |cons c R=>exact⟨c,fun z hz=>aAG fun k=>YD ⟨z,c,by rw[hE];exact hz,by rw[hE];exact aAo,k⟩⟩
 have key:∀ t,t∈h.on->t≠c->p≠c->False:=fun t ht htc hpc=>by have hr:=hT.con c p t (h1 p hp).1 (hD.on_vs ht) hpc htc;have:=hr.closed (L:=fun z=>z∈b.inner) hp fun z hz w hw hwc=>(h3 z hz w hw).resolve_right fun k=>hwc (hc w k);exact(h1 t this).2 ht
 by_cases hpc:p=c
 ·
  have hno2:∀ z∈b.ends,False:=fun z hz=>by have:=(hb.en z hz).1;rw[hc z hz,<- hpc]at this;exact(h1 p hp).2 this
  have hr:=hT.con (max p u+1) p u (h1 p hp).1 (hD.on_vs hu) oO oO;have:=hr.closed (L:=fun z=>z∈b.inner) hp fun z hz w hw _=>(h3 z hz w hw).resolve_right fun k=>hno2 w k;exact(h1 u this).2 hu
 .by_cases huc:u=c
  .exact key v hv (fun k=>huv (by rw[huc,k])) hpc
  .exact key u hu huc hpc
theorem Td{h:Sh}(hD:Drn E h){b:Brg}(hb:Brd E h.L h.on b):∃ w,Lb ⟨vsF E,E⟩ b=some w/\w.Nodup/\2<=w.length/\w.length<=200/\(∀ v∈w,v∈vsF E)/\w.getD 0 0∈b.ends/\w.getD (w.length-1) 0∈b.ends/\(∀ v∈fD w,v∉h.on)/\
 ∀ x y,(x,y)∈lnk w->prP x y∉h.L/\∃ e∈E,prE e=prP x y:=by
 obtain⟨u,v,hu,hv,huv⟩:=PW hT hD hb;obtain⟨f1,f2⟩:=Px (vs:=vsF E) (S:=b.ends) ⟨u,(hb.en u hu).2,hu⟩;have S1:CO ⟨vsF E,E⟩ b=(vsF E).getD (fst' (vsF E) b.ends) 0:=rfl;rw[<- S1]at f2;have h2e:∃ z∈vsF E,z∈kT ⟨vsF E,E⟩ b:=by
  unfold kT;by_cases k:u=CO ⟨vsF E,E⟩ b
  .exact⟨v,(hb.en v hv).2,by rw[aAr];exact⟨hv,by simpa using fun e=>huv (by rw[k,e])⟩⟩
  .exact⟨u,(hb.en u hu).2,by rw[aAr];exact⟨hu,by simpa using k⟩⟩
 obtain⟨g1,g2⟩:=Px h2e;have hto:toW ⟨vsF E,E⟩ b=(vsF E).getD (fst' (vsF E) (kT ⟨vsF E,E⟩ b)) 0:=rfl;rw[<- hto]at g2;unfold kT at g2;rw[aAr,aAL]at g2;have hw:Lb ⟨vsF E,E⟩ b=if nrS (vsF E) b.inner=[]then some [CO ⟨vsF E,E⟩ b,toW ⟨vsF E,E⟩ b]else tP (vsF E) (aI (rW ⟨vsF E,E⟩ b.inner).es) (inW (vsF E) b.inner) (CO ⟨vsF E,E⟩ b) (toW ⟨vsF E,E⟩ b) 1000:=by unfold Lb;rw[aAe ⟨f1,g1⟩]
 rw[hw];generalize CO ⟨vsF E,E⟩ b=fr at *;generalize toW ⟨vsF E,E⟩ b=to at *;have hen1:=hb.en fr f2;have hen2:=hb.en to g2.1;have Wu:fr≠to:=fun e=>g2.2 e.symm;rcases hb.kind with⟨h0,e,he,heL,Yf⟩|⟨h0,h1,h2,h3,h4⟩
 .have u9:nrS (vsF E) b.inner=[]:=by rw[h0];unfold nrS;simp
  rw[aAe u9];refine⟨_,rfl,by simpa using Wu,sS,sS,?_,by simpa using f2,by simpa using g2.1,by simp[fD],fun x y YK=>?_⟩
  .intro z hz;rcases aAf.1 hz with rfl|hz
   .exact hen1.2
   .rw[aAl.1 hz];exact hen2.2
  .simp only[lnk,aAl,aAW]at YK;obtain⟨rfl,rfl⟩:=YK;have k1:=f2;have k2:=g2.1;rw[Yf]at k1 k2;simp at k1 k2;have hp:prE e=prP x y:=by
    show prP e.a e.b=_;rcases k1 with rfl|rfl
    .rcases k2 with rfl|rfl
     .exact absurd rfl Wu
     .rfl
    .rcases k2 with rfl|rfl
     .exact bL _ _
     .exact absurd rfl Wu
   exact⟨by rw[<- hp];exact heL,e,he,hp⟩
 .obtain⟨p0,hp0⟩:=aBo _ h0;have u9:nrS (vsF E) b.inner≠[]:=aCo (lP.2 ⟨(h1 p0 hp0).1,hp0⟩);rw[aAa u9];have Xl:∀ v∈vsF E,inW (vsF E) b.inner v=decide (v∈b.inner):=fun v hv=>by unfold inW LU;rw[aAe hv]
  have hpart:∀ e,e∈(rW ⟨vsF E,E⟩ b.inner).es↔e∈E/\(e.a∈b.inner\/e.b∈b.inner):=fun e=>by
   show e∈E.filter _↔_;rw[aAr];constructor
   .rintro⟨k1,k2⟩;rw[Xl _ ((bM _ _).2 ⟨e,k1,.inl rfl⟩),Xl _ ((bM _ _).2 ⟨e,k1,.inr rfl⟩)]at k2;exact⟨k1,by simpa using k2⟩
   .rintro⟨k1,k2⟩;rw[Xl _ ((bM _ _).2 ⟨e,k1,.inl rfl⟩),Xl _ ((bM _ _).2 ⟨e,k1,.inr rfl⟩)];exact⟨k1,by simpa using k2⟩
  have hnr:∀ x y,(x∈b.inner\/y∈b.inner)->y∈nbr E x->y∈aI (rW ⟨vsF E,E⟩ b.inner).es x:=fun x y YK hn=>by
   obtain⟨e,he,k⟩:=EV.1 hn;refine mY.2 ⟨e,(hpart e).2 ⟨he,?_⟩,k⟩;rcases cH k with⟨k1,k2⟩|⟨k1,k2⟩
   .rw[k1,k2];exact YK
   .rw[k1,k2];exact YK.symm
  have Y2:∀ x y,y∈aI (rW ⟨vsF E,E⟩ b.inner).es x->(∃ e∈E,prE e=prP x y)/\(x∈b.inner\/y∈b.inner):=fun x y hn=>by
   obtain⟨e,he,k⟩:=mY.1 hn;obtain⟨he,hi⟩:=(hpart e).1 he;refine⟨⟨e,he,k⟩,?_⟩;rcases cH k with⟨k1,k2⟩|⟨k1,k2⟩
   .rw[k1,k2]at hi;exact hi
   .rw[k1,k2]at hi;exact hi.symm
  obtain⟨w,w1,w2,w3,w4,w5,w6,w7,w8,w9⟩:=JX (may:=inW (vsF E) b.inner) (fun x y hy=>by obtain⟨⟨e,he,k⟩,_⟩:=Y2 x y hy;exact(gV he k).2) hen1.2 hen2.2 Wu (n:=1000) (by have:=hT.few.1;omega) fun S hS=>by
   obtain⟨p,hp,kp⟩:=h4 fr f2;obtain⟨q,hq,kq⟩:=h4 to g2.1;have sp:S p:=hS.2 fr hS.1 (.inl rfl) p (hnr fr p (.inr hp) (pJ kp));have sq:q∈b.inner/\S q:=(h2 p hp q hq).closed (L:=fun z=>z∈b.inner/\S z) ⟨hp,sp⟩ fun z hz y hy hyi=>by obtain⟨hzi,hz⟩:=hz;exact⟨hyi,hS.2 z hz (.inr (by rw[Xl z (h1 z hzi).1];simpa using hzi)) y (hnr z y (.inl hzi) hy)⟩
   exact hS.2 q sq.2 (.inr (by rw[Xl q (h1 q hq).1];simpa using hq)) to (hnr q to (.inl hq) kq)
  refine⟨w,w1,w2,w3,by have:=hT.few.1;omega,w5,by rw[w6];exact f2,by rw[w7];exact g2.1,fun z hz=>?_,fun x y YK=>?_⟩
  .have k:=w9 z hz;rw[Xl z (w5 z (pC hz))]at k;exact(h1 z (by simpa using k)).2
  .obtain⟨k1,k2⟩:=Y2 x y (w8 x y YK);refine⟨fun hm=>?_,k1⟩;obtain⟨o1,o2⟩:=hD.link_on ((iG w2).2 x y YK).1 hm;rcases k2 with k2|k2
   .exact(h1 x k2).2 o1
   .exact(h1 y k2).2 o2
end
theorem SR(l:List Int):(nrm l).Perm l:=by unfold nrm rt;exact aBS.trans (by rw[aAH])
theorem XN(l:List Int):nrm (nrm l)=nrm l:=by
 by_cases h:l=[]
 .subst h;rfl
 .obtain⟨r,hr⟩:=OA l h;have hm:mn (nrm l)=mn l:=TH ((SR l).mem_iff.2 (xB h)) fun x hx=>Pw ((SR l).mem_iff.1 hx);exact GY hr hm
theorem Qs{A B:List Int}(hn:(A++B).Nodup){x:Int}(hx:x∈A++B):nx (B++A) x=nx (A++B) x:=by
 by_cases hA:A=[]
 .subst hA;simp
 by_cases hB:B=[]
 .subst hB;simp
 have D8:(B++A).Nodup:=aBS.nodup_iff.1 hn;rcases aAg.1 hx with h|h
 .rw[(xH hn hA hB).1 h,(xH D8 hB hA).2 h]
 .rw[(xH hn hA hB).2 h,(xH D8 hB hA).1 h]
theorem Uf{l:List Int}(hn:l.Nodup){x:Int}(hx:x∈l):nx (nrm l) x=nx l x:=by have e:l.take (l.idxOf (mn l))++l.drop (l.idxOf (mn l))=l:=aAH _ _;have:=Qs (A:=l.take (l.idxOf (mn l))) (B:=l.drop (l.idxOf (mn l))) (by rw[e];exact hn) (x:=x) (by rw[e];exact hx);rw[e]at this;exact this
theorem MP{g:Gr}(hg:GoodE g):((fO g.es).flatten).Nodup/\∀ i,i∈(fO g.es).flatten↔i<g.es.length:=by
 have v9:∀ B∈fO g.es,dF g.es B:=fun B hB=>kO hg hB;constructor
 .have:=iX (f:=fun B:List Nat=>B) (KN g.es) (fun B hB=>(v9 B hB).rise.imp fun k=>aBu k) fun B hB B' W8 i h1 h2=>(v9 B hB).eq (g:=g) (v9 B' W8) h1 h2
  rwa [List.flatMap_def,List.map_id']at this
 .intro i;rw[aAY];constructor
  .rintro⟨B,hB,hi⟩;exact(v9 B hB).lt i hi
  .intro hi;obtain⟨s,_,_,h2,_,h3⟩:=vJ hg;obtain⟨B,hB,hiB⟩:=aAY.1 ((h2 i).2 hi);have z9:=h3 B hB;have hh:=head_mem z9.ne;refine⟨B,?_,hiB⟩;unfold fO;rw[z9.cls hh];refine aAm.2 ⟨B.headD 0,?_,rfl⟩;rw[aAr,aBa,aAL,<- z9.cls hh];exact⟨z9.lt _ hh,rfl⟩
theorem iH{g:Gr}(hg:GoodE g):((bE g).flatten).Perm (sE g.es):=by
 have A7:=hg.simple;obtain⟨h1,h2⟩:=MP A7;have hp:(fO (sE g.es)).flatten.Perm (List.range (sE g.es).length):=(aAZ h1 aDo).2 fun i=>by rw[h2,aBa]
 have e:(bE g).flatten=(fO (sE g.es)).flatten.map (eAt (sE g.es)):=by unfold bE;rw[aEl]
 have e2:(List.range (sE g.es).length).map (eAt (sE g.es))=sE g.es:=by refine aEg sS fun i h1 h2=>?_;simp only[aCl,List.getElem_range];exact cZ _ _ h2
 rw[e]
 conv=>rhs;rw[<- e2]
 exact hp.map _
theorem Tp{g:Gr}(hg:GoodE g)(hv:∀ v∈g.vs,0<=v/\v<4194304){Bs:BsT}(hb:Bs.map (·.1)=bE g)(hd:∀ p∈Bs,jH p.1 p.2):Sys g Bs:=by
 have Xl:∀ p∈Bs,p.1∈bE g:=fun p hp=>by rw[<- hb];exact aAx (f:=(·.1)) hp
 have C0:(Bs.flatMap (·.1)).Perm (sE g.es):=by rw[List.flatMap_def,hb];exact iH hg
 refine⟨hg,fun p hp=>⟨hd p hp,⟨(nH hg (Xl p hp)).1.ne,?_,fun v h=>?_⟩,?_⟩,C0⟩
 .have h1:=(C0.map prE).nodup_iff.2 (AG g.es);rw[aEk]at h1;have:∀ {l:BsT},(l.flatMap fun p=>p.1.map prE).Nodup->∀ p∈l,(p.1.map prE).Nodup:=by
   intro l;induction l with
   |nil=>intro _ p h;cases h
   |cons a l ih=>
    intro hn p h;rw[aAC,aAs]at hn;rcases aAf.1 h with rfl|h
    .exact hn.1
    .exact ih hn.2.1 p h
  exact this h1 p hp
 .obtain⟨e,he,k⟩:=(bM v _).1 h;have:=hg.ends e ((nH hg (Xl p hp)).2 e he);rcases k with rfl|rfl
  .exact hv _ this.1
  .exact hv _ this.2
 .have:=Xl p hp;unfold bE at this;obtain⟨B,hB,e⟩:=aAm.1 this;rw[<- e];intro h0;exact(kO hg.simple hB).ne (aCP.1 h0)
abbrev Ev(g:Gr)(Bs:BsT):Mp:=⟨g,g.vs.map fun v=>nrm (kJ g Bs v)⟩
theorem Ot(A B:List (List Int)):fK (A++B)=fK A+fK B:=by unfold fK;rw[aBx,aAh]
theorem KC(Bs:BsT)(f:List Ed×List (List Int)->Int->List Int)(hz:∀ p∈Bs,∀ v,v∉vsF p.1->f p v=[]):∀ vs:List Int,vs.Nodup->fK ((vs.map fun v=>Bs.map fun p=>f p v).flatten)<=(Bs.map fun p=>(vs.filter fun v=>decide (v∈vsF p.1)).length).sum
 |[],_=>by simp[fK]
 |v::vs,hn=>by
  have ih:=KC Bs f hz vs (aAy.1 hn).2;rw[aAi,List.flatten_cons,Ot];have key:∀ l:BsT,(∀ p∈l,p∈Bs)->fK (l.map fun p=>f p v)+(l.map fun p=>(vs.filter fun v=>decide (v∈vsF p.1)).length).sum<=(l.map fun p=>((v::vs).filter fun v=>decide (v∈vsF p.1)).length).sum:=by
   intro l;induction l with
   |nil=>intro _;simp[fK]
   |cons p l ihl=>
    intro hl;have i1:=ihl fun q hq=>hl q (aAj _ hq);have e:fK ((p::l).map fun p=>f p v)=(if f p v≠[]then 1 else 0)+fK (l.map fun p=>f p v):=by
     unfold fK;rw[aAi,aDF];by_cases h:f p v=[]
     .simp[h]
     .simp[h];omega
    rw[e];simp only[aAi,List.sum_cons];by_cases h:v∈vsF p.1
    .have e2:((v::vs).filter fun v=>decide (v∈vsF p.1)).length=(vs.filter fun v=>decide (v∈vsF p.1)).length+1:=by simp[h]
     rw[e2]
     split<;>omega
    .have e2:((v::vs).filter fun v=>decide (v∈vsF p.1)).length=(vs.filter fun v=>decide (v∈vsF p.1)).length:=by simp[h]
     rw[e2,aAa (by simp[hz p (hl p aAo) v h])];omega
  have:=key Bs fun _ h=>h;omega
section
variable {g:Gr} {Bs:BsT} (hS:Sys g Bs)
include hS
theorem Sys.map_ok:cE (Ev g Bs):=by
 refine⟨hS.gE,sS,fun k hk=>?_⟩;have ZU:k<(g.vs.map fun v=>nrm (kJ g Bs v)).length:=by simpa using hk
 have e:(Ev g Bs).rots.getD k []=nrm (kJ g Bs (g.vs.getD k 0)):=by show(g.vs.map fun v=>nrm (kJ g Bs v)).getD k []=_;rw[jV _ _ ZU,aCl,bG _ _ hk]
 rw[e];exact⟨(SR _).trans (hS.turn_perm _),XN _⟩
theorem Sys.sg_eq(d:Int):sg (Ev g Bs) d=sgR ((grp g Bs).map List.flatten) d:=by
 have hm:=hS.map_ok;have hn:((grp g Bs).map List.flatten).flatten.Nodup:=by rw[lB];exact hS.grp_nd
 by_cases hd:d∈aO g.es
 .obtain⟨t,ht,O9⟩:=hm.turn_of hd;rw[DW hm ht O9];obtain⟨v,hv,rfl⟩:=aAm.1 ht;have hdv:d∈kJ g Bs v:=(SR _).mem_iff.1 O9;rw[Uf (hS.turn_nodup v) hdv,fQ hn (t:=kJ g Bs v) (by rw[Gt];exact aAx hv) hdv]
 .rw[hm.sg_id hd,lS];rw[lB];exact fun h=>hd (hS.grp_mem.1 h)
theorem Sys.plane(hb:Bs.map (·.1)=bE g):gn (Ev g Bs)=0:=by
 have hg:=hS.gE;have hm:=hS.map_ok;have h1:=hm.gn;have h2:=hS.faces;have hn:((grp g Bs).map List.flatten).flatten.Nodup:=by rw[lB];exact hS.grp_nd
 have h3:=Ou (al:=al g.es) (D:=aO g.es) ⟨OW g.es,fun d hd=>(EP _ _ _).2 hd⟩ (fun d hd=>eP hd) (grp g Bs) (Rs:=[]) (by rw[aAK];exact hS.grp_nd) (fun d hd=>hS.grp_mem.1 (by rwa [aAK]at hd));rw[aAK,aAK]at h3;have h4:ncl (Orb (fc (Ev g Bs) g.es)) (aO g.es)=fcs (al g.es) (aO g.es) ((grp g Bs).map List.flatten):=by
  unfold fcs;have:fc (Ev g Bs) g.es=fun d=>sgR ((grp g Bs).map List.flatten) (al g.es d):=by
   funext d;unfold fc;exact hS.sg_eq _
  rw[this]
 have h5:fK ((grp g Bs).map List.flatten)+alone g=g.vs.length:=by
  have k1:=hm.ncl_sg;have k2:=Jr hn;have hp:(aO g.es).Perm ((grp g Bs).map List.flatten).flatten:=(aAZ (iN (Ax hg.ids)) hn).2 fun d=>by rw[lB];exact hS.grp_mem.symm
  have e:sg (Ev g Bs)=sgR ((grp g Bs).map List.flatten):=funext hS.sg_eq;rw[e]at k1;have k3:ncl (Orb (sgR ((grp g Bs).map List.flatten))) (aO g.es)=fK ((grp g Bs).map List.flatten):=by rw[uR (lA hn).per.eqv hp];exact k2
  have k4:ncl (Orb (sgR ((grp g Bs).map List.flatten))) (aO g.es)+alone g=g.vs.length:=k1;rw[k3]at k4;exact k4
 have h6:fK (grp g Bs).flatten<=((bE g).map fun l=>(vsF l).length).sum:=by
  refine aBj (KC Bs (fun p v=>bt g p.2 v) (fun p hp v hv=>?_) g.vs hg.toGood.nodup) ?_
  .obtain⟨hO,hE,_⟩:=hS.ok p hp;show bt g p.2 v=[];unfold bt;rw[oJ hO hE hv,mT];rfl
  .rw[<- hb,aBd];have:∀ l:BsT,(l.map fun p=>(g.vs.filter fun v=>decide (v∈vsF p.1)).length).sum<=(l.map ((fun l=>(vsF l).length)∘fun p=>p.1)).sum:=by
    intro l;induction l with
    |nil=>simp
    |cons p l ih=>
     rw[aAi,aAi,List.sum_cons,List.sum_cons];have:(g.vs.filter fun v=>decide (v∈vsF p.1)).length<=(vsF p.1).length:=by refine aAF (hg.toGood.nodup.sublist aBp) fun v hv=>?_;rw[aAr,aAL]at hv;exact hv.2
     simp only[Function.comp_apply];omega
   exact this Bs
 have h7:=sA hg;have h8:(Bs.flatMap (·.2)).length+((bE g).map fun l=>(vsF l).length).sum=(sE g.es).length+2*(bE g).length:=by
  rw[<- (iH hg).length_eq,<- hb];have:∀ l:BsT,(∀ p∈l,p∈Bs)->(l.flatMap (·.2)).length+((l.map (·.1)).map fun l=>(vsF l).length).sum=(l.map (·.1)).flatten.length+2*(l.map (·.1)).length:=by
   intro l;induction l with
   |nil=>intro _;rfl
   |cons p l ih=>intro hl;have i1:=ih fun q hq=>hl q (aAj _ hq);have i2:=(hS.ok p (hl p aAo)).1.cnt;simp only[aAC,aAi,List.sum_cons,List.flatten_cons,aAh,List.length_cons]at i1 ⊢;omega
  exact this Bs fun _ h=>h
 have h9:(sE g.es).length<=g.es.length:=oZ g.es;have e1:(Ev g Bs).g=g:=rfl;rw[e1,h4]at h1;omega
end
theorem Ar{E:List Ed}:∀ {l:List (Int×Int)},l.Nodup->(∀ p∈l,∃ e∈E,prE e=prP p.1 p.2)->l.length<=2*E.length:=by
 intro l hn h;have hl:(E.flatMap fun e=>[(e.a,e.b),(e.b,e.a)]).length=2*E.length:=by
  clear h;induction E with
  |nil=>rfl
  |cons e E ih=>simp only[aAC,aAh,List.length_cons,List.length_nil]at ih ⊢;omega
 rw[<- hl];refine aAF hn fun p hp=>?_;obtain⟨e,he,k⟩:=h p hp;refine aAR.2 ⟨e,he,?_⟩;rcases cH k with⟨k1,k2⟩|⟨k1,k2⟩
 .rw[k1,k2];simp
 .rw[k1,k2];simp
section
variable {E:List Ed} (hT:Tc E)
include hT
omit hT in
theorem Drn.L_le{h:Sh}(hD:Drn E h):h.L.length<=E.length:=by
 have:=aAF hD.lnd (l₂:=E.map prE) fun p hp=>by obtain⟨e,he,rfl⟩:=hD.sub p hp;exact aAx he
 rwa [aAz]at this
omit hT in
theorem Drn.ring_le{h:Sh}(hD:Drn E h){r:List Int}(hr:r∈h.F):r.length<=2*E.length:=by
 rw[<- qU r];have hn:=hD.nd;refine Ar ?_ fun p hp=>?_
 .unfold PF at hn;rw[List.flatMap_def]at hn;exact(aBC (aAx (f:=prs) hr)).nodup hn
 .obtain⟨_,k⟩:=(hD.mem p.1 p.2).1 (gN.2 ⟨r,hr,hp⟩);exact hD.sub _ k
theorem Ng{h:Sh}(hD:Drn E h):Gp ⟨vsF E,E⟩ h=some none\/∃ h',Gp ⟨vsF E,E⟩ h=some (some h')/\Drn E h'/\h.L.length<h'.L.length:=by
 obtain⟨B,b1,b2,b3⟩:=Rf (E:=E) (on:=h.on) h.L;have hc:Chn E h (cU h.F B (⟨[],[]⟩,-1)):=Cx B _ b2 ⟨sS,.inl sS⟩;have V2:=hT.few;unfold Gp;rw[b1,Option.bind_some,aAe ⟨fun b hb v hv=>((b2 b hb).en v hv).2,oO,hc.1⟩];generalize cU h.F B (⟨[],[]⟩,-1)=r at *;by_cases YX:r.2<0
 .rw[aAe YX];exact .inl rfl
 rw[aAa YX];obtain⟨hb,k,hk,K7,o7⟩:=hc.2.resolve_left YX;have hkn:r.2.toNat=k:=oO;rw[hkn];obtain⟨w,w1,w2,w3,w4,w5,w6,w7,w8,w9⟩:=Td hT hD hb;have hrin:h.F.getD k []∈h.F:=by rw[aAc,aAd K7];exact aAA _
 have hrl:=hD.ring_le hrin;have hLl:=hD.L_le;have hcnt:=hD.cnt;have hlay:Kj ⟨vsF E,E⟩ h k w:=⟨K7,w3,w4,w5,oO,o7 _ w6,o7 _ w7,oO⟩;rw[w1,Option.bind_some,aAe hlay];refine .inr ⟨_,rfl,hD.lay K7 w3 w2 (o7 _ w6) (o7 _ w7) w8 w9,?_⟩;have hL:(rR h w k).L=h.L++jA w:=by
  have:(rR h w k).L=kX h.L w:=rfl;rw[this];exact nL _ _ (kK w2) fun p U8=>by rw[gF]at U8;obtain⟨q,hq,rfl⟩:=aAm.1 U8;exact(w9 q.1 q.2 hq).1
 rw[hL,aAh,mQ];omega
theorem Fz:∀(n:Nat) (h:Sh),Drn E h->E.length+1<=n+h.L.length->∃ o,xP ⟨vsF E,E⟩ n h=some o/\∀ h',o=some h'->Drn E h'/\E.length<=h'.L.length
 |0,h,hD,hl=>by have:=hD.L_le;omega
 |n+1,h,hD,hl=>by
  unfold xP;by_cases GD:h.L.length<(⟨vsF E,E⟩:Gr).es.length
  .rw[aAe GD];rcases Ng hT hD with hs|⟨h',hs,hD',Yn⟩
   .rw[hs];exact⟨none,rfl,fun h' e=>by cases e⟩
   .rw[hs,Option.bind_some];exact Fz n h' hD' oO
  .rw[aAa GD];refine⟨some h,rfl,fun h' e=>?_⟩;injection e with e;subst e;exact⟨hD,by show E.length<=_;simp only at GD;omega⟩
theorem Pt:∃ o,Au E=some o/\∀ F,o=some F->jH E F:=by
 have h2:=hT.two;obtain⟨x,y,R,hE⟩:∃ x y R,E=x::y::R:=by
  match E,h2 with
  |x::y::R,_=>exact⟨x,y,R,rfl⟩
 have hd:Au E=if(vsF E).length<=64/\E.length<=200 then
  if(3:Int)*(vsF E).length-6<E.length then some none
  else(newF ⟨vsF E,E⟩).bind fun h=>(xP ⟨vsF E,E⟩ 1000 h).map fun o=>o.map (·.F)
  else none:=by rw[hE];rfl
 rw[hd,aAe hT.few]
 split
 .exact⟨none,rfl,fun F e=>by cases e⟩
 .obtain⟨h,h1,hD⟩:=hT.start hE;obtain⟨o,h3,h4⟩:=Fz hT 1000 h hD (by have:=hT.few.2;omega);rw[h1,Option.bind_some,h3];refine⟨o.map (·.F),rfl,fun F e=>?_⟩;cases o with
  |none=>cases e
  |some h'=>simp only[Option.map_some,aAb]at e;subst e;obtain⟨hD',hl⟩:=h4 h' rfl;exact hD'.done hT.ne hT.sim hl
end
theorem KB{g:Gr}(hg:GoodE g)(hv:g.vs.length<=64)(he:g.es.length<=200){l:List Ed}(hl:l∈bE g):∃ o,Au l=some o/\∀ F,o=some F->jH l F:=by
 have A7:=hg.simple;obtain⟨C4,Xl⟩:=nH hg hl;have YW:∀ v∈vsF l,v∈g.vs:=fun v h=>by
  obtain⟨e,hel,k⟩:=(bM v l).1 h;have:=hg.ends e (Xl e hel);rcases k with rfl|rfl
  .exact this.1
  .exact this.2
 match l,hl,C4,YW with
 |[],hl,_,_=>unfold bE at hl;obtain⟨B,hB,e⟩:=aAm.1 hl;exact absurd (aCP.1 e) (kO A7 hB).ne
 |[e],_,C4,_=>exact⟨_,rfl,fun F k=>by injection k with k;subst k;exact Nt (C4.ne e sS)⟩
 |x::y::R,hl,C4,YW=>
  refine Pt ⟨C4.ids,C4.ne,?_,?_,sS,?_⟩
  .have h1:=((iH hg).map prE).nodup_iff.2 (AG g.es);rw[aEl]at h1;exact(aBC (aAx (f:=List.map prE) hl)).nodup h1
  .unfold bE at hl;obtain⟨B,hB,e⟩:=aAm.1 hl;have z9:=kO A7 hB;intro w p q hp hq hpw hqw;rw[<- e]at hp hq ⊢;obtain⟨i,hi,ip⟩:=sZ A7 hp;obtain⟨j,hj,jq⟩:=sZ A7 hq;exact z9.con A7 w hi (z9.rel i hi j hj) p q ip jq hpw hqw
  .constructor
   .have:=aAF ((kZ (x::y::R)).imp fun k=>by omega) YW;omega
   .have h1:(x::y::R).length<=(bE g).flatten.length:=(aBC hl).length_le;have h2:=(iH hg).length_eq;have h3:=oZ g.es;omega
theorem Gs(x y:Int):∀ P,(qQ x y P).length<=P.length+1
 |[]=>by simp[qQ]
 |p::P=>by have:=Gs x y P;unfold qQ;split<;>simp<;>omega
theorem Fq(v x y:Int)(n:Nat):∀ A:Tn,(∀ a∈A,a.2.length<=n)->(gH v x y A).length<=A.length+1/\∀ a∈gH v x y A,a.2.length<=n+1
 |[],_=>by simp[gH]
 |a::A,h=>by
  obtain⟨h1,h2⟩:=Fq v x y n A fun b hb=>h b (aAj _ hb);unfold gH
  split
  .refine⟨sS,fun b hb=>?_⟩;rcases aAf.1 hb with rfl|hb
   .have:=Gs x y a.2;have:=h a aAo;simp only;omega
   .have:=h b (aAj _ hb);omega
  .refine⟨by simp;omega,fun b hb=>?_⟩;rcases aAf.1 hb with rfl|hb
   .have:=h b aAo;omega
   .exact h2 b hb
theorem QF:∀ T:List (Int×Int×Int),(T.foldl BV []).length<=T.length/\(∀ a∈T.foldl BV [],a.2.length<=T.length)/\∀ v∈(T.foldl BV []).map (·.1),∃ t∈T,t.2.1=v:=by
 intro T;induction T using uQ with
 |h0=>simp
 |h1 T t ih=>
  rw[aBm,List.foldl_cons,List.foldl_nil,aAh,List.length_singleton];have:=Fq t.2.1 t.1 t.2.2 T.length (T.foldl BV []) ih.2.1;refine⟨aBj this.1 oO,this.2,?_⟩;have key:∀ A:Tn,∀ v∈(gH t.2.1 t.1 t.2.2 A).map (·.1),v=t.2.1\/v∈A.map (·.1):=by
   intro A;induction A with
   |nil=>intro v hv;simp[gH]at hv;exact .inl hv
   |cons a A ih=>
    intro v hv;unfold gH at hv
    split at hv
    .rw[aAi]at hv ⊢;rcases aAf.1 hv with h|h
     .exact .inl h
     .exact .inr (aAj _ h)
    .rw[aAi]at hv ⊢;rcases aAf.1 hv with h|h
     .exact .inr (by rw[h];exact aAo)
     .exact(ih v h).imp id fun k=>aAj _ k
  intro v hv;rcases key _ v hv with h|h
  .exact⟨t,sS,h.symm⟩
  .obtain⟨s,hs,e⟩:=ih.2.2 v h;exact⟨s,aAt _ hs,e⟩
theorem HQ(g:Gr)(v:Int):∀(L:List Int) (T:TL),fF (dM g v L T)=fF T+(L.flatMap (seg g v)).length
 |[],T=>by simp[dM]
 |x::L,T=>by have ih:=HQ g v L (oV v (seg g v x) T);have e:dM g v (x::L) T=dM g v L (oV v (seg g v x) T):=rfl;rw[e,ih,uX,aAC,aAh];omega
theorem HY(g:Gr)(A:Tn)(n:Nat):∀(K:List Int) (T:TL),(∀ v∈K,((cA (dA v A)).flatMap (seg g v)).length<=n)->fF (fB g A K T)<=fF T+K.length*n
 |[],T,_=>by simp[fB]
 |v::K,T,h=>by have ih:=HY g A n K (dM g v (cA (dA v A)) T) fun w hw=>h w (aAj _ hw);have e:fB g A (v::K) T=fB g A K (dM g v (cA (dA v A)) T):=rfl;have h0:=h v aAo;rw[HQ]at ih;rw[e,List.length_cons,aBT];omega
theorem IY{g:Gr}(hg:GoodE g)(hv:∀ v∈g.vs,0<=v/\v<4194304){l:List Ed}(hl:l∈bE g):BlE l/\l≠[]/\∀ v∈vsF l,v∈g.vs:=by
 obtain⟨C4,Xl⟩:=nH hg hl;have YW:∀ v∈vsF l,v∈g.vs:=fun v h=>by
  obtain⟨e,hel,k⟩:=(bM v l).1 h;have:=hg.ends e (Xl e hel);rcases k with rfl|rfl
  .exact this.1
  .exact this.2
 refine⟨⟨C4.ne,?_,fun v h=>hv v (YW v h)⟩,?_,YW⟩
 .have h1:=((iH hg).map prE).nodup_iff.2 (AG g.es);rw[aEl]at h1;exact(aBC (aAx (f:=List.map prE) hl)).nodup h1
 .unfold bE at hl;obtain⟨B,hB,e⟩:=aAm.1 hl;rw[<- e];intro h0;exact(kO hg.simple hB).ne (aCP.1 h0)
section
variable {g:Gr} (hg:GoodE g) (hv:∀ v∈g.vs,0<=v/\v<4194304) (hn:g.vs.length<=30) (he:g.es.length<=60)
include hg hv hn he
theorem US{l:List Ed}(hl:l∈bE g):l.length<=60/\(vsF l).length<=30:=by
 obtain⟨_,_,YW⟩:=IY hg hv hl;constructor
 .have h1:l.length<=(bE g).flatten.length:=(aBC hl).length_le;have h2:=(iH hg).length_eq;have h3:=oZ g.es;omega
 .have:=aAF ((kZ l).imp fun k=>by omega) YW;omega
theorem Ql{l:List Ed}(hl:l∈bE g){F:List (List Int)}(hO:jH l F)(T:TL)(hT:fF T+1800<=100000):okE F (aY F) (vB g F T)/\fF (vB g F T)<=fF T+1800:=by
 obtain⟨hE,h0,YW⟩:=IY hg hv hl;obtain⟨l1,l2⟩:=US hg hv hn he hl;have hcnt:=hO.cnt;have hPF:(PF F).length<=120:=by have:=Ar (E:=l) hO.nd fun p hp=>(hO.mem p.1 p.2).1 hp;omega
 obtain⟨a1,a2,a3⟩:=QF (F.flatMap trs);have hTF:(F.flatMap trs).length=(PF F).length:=by
  have:=(wW F).length_eq
  rwa [aAz]at this
 rw[<- xT]at a1 a2 a3;have Yd:∀ v∈(aY F).map (·.1),v∈vsF l:=fun v hk=>by obtain⟨t,ht,rfl⟩:=a3 v hk;have:=(wW F).mem_iff.1 (aAx (f:=fun t:Int×Int×Int=>(t.1,t.2.1)) ht);obtain⟨e,he,k⟩:=(hO.mem t.1 t.2.1).1 this;exact(gV he k).2
 have hKl:(oX ((aY F).map (·.1))).length<=30:=by have:=aAF (l₂:=vsF l) ((zH ((aY F).map (·.1))).imp fun k=>by omega) fun v h=>Yd v ((pX v _).1 h);omega
 have hbt:∀ v,((cA (dA v (aY F))).flatMap (seg g v)).length<=60:=fun v=>by
  by_cases Zp:v∈vsF l
  .have hR:=hO.round hE h0 Zp;have hnd:((cA (dA v (aY F))).flatMap (seg g v)).Nodup:=iX hR.1 (fun x _=>mX hg v x) fun x _ y _ d h1 h2=>by rw[<- (yI hg h1).2,(yI hg h2).2]
   have:=aAF hnd (l₂:=g.es.map (dAt v)) fun d hd=>by obtain⟨x,_,hd⟩:=aAR.1 hd;obtain⟨e,he,_,rfl⟩:=jT.1 hd;exact aAx he
   rw[aAz]at this;omega
  .rw[oJ hO hE Zp,mT];simp
 have htot:fF (vB g F T)<=fF T+1800:=by have:=HY g (aY F) 60 (oX ((aY F).map (·.1))) T fun v _=>hbt v;unfold vB;omega
 refine⟨⟨oO,fun r hr=>?_,oO,fun a ha=>by have:=a2 a ha;omega,oO⟩,htot⟩;have hrn:=hO.nd;unfold PF at hrn;rw[List.flatMap_def]at hrn;have h1:=Ar (E:=l) ((aBC (aAx (f:=prs) hr)).nodup hrn) fun p hp=>(hO.mem p.1 p.2).1 (gN.2 ⟨r,hr,hp⟩);rw[qU]at h1;omega
theorem OK:∀(bl:List (List Ed)) (T:TL),(∀ l∈bl,l∈bE g)->fF T+bl.length*1800<=100000->∃ o,FI g bl T=some o
 |[],T,_,_=>⟨_,rfl⟩
 |l::bl,T,hl,hT=>by
  obtain⟨o,h1,h2⟩:=KB hg oO oO (hl l aAo);unfold FI;rw[h1,Option.bind_some];cases o with
  |none=>exact⟨none,rfl⟩
  |some F=>
   have e1:fF T+1800<=100000/\(∀ t,t<=fF T+1800->t+bl.length*1800<=100000):=by rw[List.length_cons]at hT;clear h1 h2;generalize fF T=a at *;generalize bl.length=b at *;exact⟨oO,fun t h=>by omega⟩
   obtain⟨k1,k2⟩:=Ql hg hv hn he (hl l aAo) (h2 F rfl) T e1.1;simp only;rw[aAe k1];exact OK bl _ (fun x hx=>hl x (aAj _ hx)) (e1.2 _ k2)
end
theorem PU{g:Gr}(hc:chk g=0)(hn:g.vs.length<=30)(he:g.es.length<=60):∃ o,vR g (bE g)=some o/\∀ m,o=some m->m.g=g/\cE m/\Aw.gn m=0:=by
 have hG:=Gn hc;have hg:=DV hc;have hv:∀ v∈g.vs,0<=v/\v<4194304:=fun v h=>by have:=hG.vpos v h;omega
 have ZQ:(bE g).length<=30:=by
  have h1:=sA hg;have h2:∀ L:List (List Ed),(∀ l∈L,l∈bE g)->2*L.length<=(L.map fun l=>(vsF l).length).sum:=fun L=>by
   induction L with
   |nil=>intro _;simp
   |cons l L ih=>
    intro hL;have a:=ih fun x hx=>hL x (aAj _ hx);obtain⟨hE,k0,_⟩:=IY hg hv (hL l aAo);have b:2<=(vsF l).length:=by
     cases l with
     |nil=>exact absurd rfl k0
     |cons x l=>
      have k1:=gV (E:=x::l) (e:=x) aAo (x:=x.a) (y:=x.b) rfl;have Zk:[x.a,x.b].Nodup:=by simpa using hE.ne x aAo
      have:=Zk.length_le_of_subset (l₂:=vsF (x::l)) fun y hy=>by
       simp only[aAf,aBJ,aDa]at hy;rcases hy with rfl|rfl
       .exact k1.1
       .exact k1.2
      simpa using this
    rw[List.length_cons,aAi,List.sum_cons];omega
  have:=h2 (bE g) fun _ k=>k;omega
 have h1:fF ([]:TL)+(bE g).length*1800<=100000:=by have h0:fF ([]:TL)=0:=rfl;rw[h0,aBv];generalize (bE g).length=n at *;omega
 obtain⟨o,ho⟩:=OK hg hv hn he (bE g) [] (fun _ h=>h) h1;unfold vR;rw[ho,Option.bind_some];cases o with
 |none=>exact⟨none,rfl,fun m e=>by cases e⟩
 |some T=>
  obtain⟨Bs,hb,hd,ht⟩:=Bg g (bE g) [] T ho;have hS:Sys g Bs:=Tp hg hv hb fun p hp=>by
   have hl:p.1∈bE g:=by rw[<- hb];exact aAx (f:=(·.1)) hp
   obtain⟨o,h1,h2⟩:=KB hg oO oO hl;rw[hd p hp]at h1;injection h1 with h1;exact h2 p.2 h1.symm
  have hturn:∀ v,dV v T=kJ g Bs v:=fun v=>by rw[ht v];rfl
  have Xm:∀ v,(kJ g Bs v).length<=120:=fun v=>by rw[(hS.turn_perm v).length_eq];have:=NU (CH v) (OH v) g.es;show(g.es.flatMap (CH v)).length<=120;omega
  simp only;rw[aAe fun v _=>by rw[hturn v];exact aBj (Xm v) oO];refine⟨_,rfl,fun m e=>?_⟩;injection e with e;have em:m=Ev g Bs:=by
   rw[<- e];show(⟨g,g.vs.map fun v=>nrm (dV v T)⟩:Mp)=_
   congr 1
   exact aAU fun v _=>by rw[hturn]
  subst em;have hm:=hS.map_ok;have hgn:=hS.plane hb;exact⟨rfl,hm,hgn⟩
end Aw
namespace Aw
open Go Go.RowKit Pl
theorem Ru(g:Gr)(st:St):aB prog 8 [.ag (grL g)] st fun r st'=>r=i (chk g)/\aA st st':=by
 by_cases h1:(64:Int)<(g.vs.length:Int)
 .have:chk g=6:=by unfold chk;rw[aAe oO]
  refine zN func8 ntmps8 [.tmp 2] ?_
  (repeat' (first|apply qS|(refine qR (zZ ?_);simp[h1,this])|(apply qC;simp[h1,this])|(refine zE ?_;intro J hJ;simp[h1,this];refine zJ hJ ?_)))
  exact aA.new _ _
 by_cases h2:(160:Int)<(g.es.length:Int)
 .have:chk g=6:=by unfold chk;rw[aAe oO]
  refine zN func8 ntmps8 [.tmp 2] ?_
  (repeat' (first|apply qS|(refine qR (zZ ?_);simp[h1,h2,this])|(apply qC;simp[h1,h2,this])|(refine zE ?_;intro J hJ;simp[h1,h2,this];refine zJ hJ ?_)))
  exact aA.new _ _
 exact MV g st oO oO
end Aw
namespace Aw
open Go Go.RowKit Pl Eu
theorem Ry(g:Gr)(hv:g.vs.length<=1000)(he:g.es.length<=60){o:Option Mp}(ho:(if chk g=0 then vR g (bE g)else some none)=some o)(st:St):
 aB prog 18 [.ag (grL g)] st fun r st'=>r=bb o.isSome/\aA st st':=by
 refine zN func18 ntmps18 [.tmp 2] ?_
 (repeat' (first|apply qS|(refine zE ?_;intro J hJ;simp[];(try refine zJ hJ ?_))))
 refine qE (UQ g hv oO ho _) sS ?_;rintro r s1 ⟨rfl,Xp⟩;unfold Oc;cases o with
 |none=>
  (repeat' (first|apply qS|(refine qR (zZ ?_);simp[])|((first|(refine zE ?_;intro J hJ)|(apply aF));simp[];refine zJ hJ ?_)))
  exact((aA.new _ _).trans Xp).trans (aA.new _ _)
 |some m=>
  (repeat' (first|apply qS|(refine qR (zZ ?_);simp[])|((first|(refine zE ?_;intro J hJ)|(apply aF));simp[];refine zJ hJ ?_)))
  exact((aA.new _ _).trans Xp).trans (aA.new _ _)
theorem ColorSix(g:Gr)(vl:List Int)(st:St):
 aB prog 6 [.ag (grL g),.sl 0 vl.length (us vl)] st fun r st'=>r=bb true:=by
 have hel:=aN g.es;have Zp:=Ny vl;refine zN func6 ntmps6 [.tmp 4] ?_;refine jC fun ZA=>?_
 (repeat' (first|apply qS|(refine zE ?_;intro J hJ;simp[];(try refine zJ hJ ?_))))
 refine qE (Rq _) (by simp[]) ?_;rintro r st' ⟨rfl,rfl⟩
 (repeat' (first|apply qS|refine qK (zZ ?_)|(apply qC;simp[])|((first|(refine zE ?_;intro J hJ)|(apply aF));simp[];(try refine zJ hJ ?_))))
 refine qE (Ru g _) sS ?_;rintro r s1 ⟨rfl,Xp⟩;have Yi:=Xp.next;simp only[aJ]at Yi;have r8:s1.H st.next=.box 25 2 (grL g):=by rw[Xp.H _ sS];simp
 by_cases hc:chk g=0;rotate_left
 .have ZK:(chk g != 0)=true:=by simpa using hc
  (repeat' (first|apply qS|(refine qR (zZ ?_);simp[hc,ZK,r8])|(apply qC;simp[hc,ZK,r8])|((first|(refine zE ?_;intro J hJ)|(apply aF));simp[hc,ZK,r8];refine zJ hJ ?_)))
 have ZK:(chk g != 0)=false:=by simpa using hc
 have hF:=Gn hc;by_cases h1:60<g.es.length
 .have S3:(60:Int)<g.es.length:=oO
  (repeat' (first|apply qS|(refine qR (zZ ?_);simp[hc,ZK,r8,h1,S3])|(apply qC;simp[hc,ZK,r8,h1,S3])|((first|(refine zE ?_;intro J hJ)|(apply aF));simp[hc,ZK,r8,h1,S3];refine zJ hJ ?_)))
 have S3:¬(60:Int)<g.es.length:=oO;by_cases h2:30<g.vs.length
 .have G1:(30:Int)<g.vs.length:=oO
  (repeat' (first|apply qS|(refine qR (zZ ?_);simp[hc,ZK,r8,h1,S3,h2,G1])|(apply qC;simp[hc,ZK,r8,h1,S3,h2,G1])|((first|(refine zE ?_;intro J hJ)|(apply aF));simp[hc,ZK,r8,h1,S3,h2,G1];refine zJ hJ ?_)))
 have G1:¬(30:Int)<g.vs.length:=oO;by_cases h3:100<vl.length
 .have h3':(100:Int)<vl.length:=oO
  (repeat' (first|apply qS|(refine qR (zZ ?_);simp[hc,ZK,r8,h1,S3,h2,G1,h3,h3'])|(apply qC;simp[hc,ZK,r8,h1,S3,h2,G1,h3,h3'])|((first|(refine zE ?_;intro J hJ)|(apply aF));simp[hc,ZK,r8,h1,S3,h2,G1,h3,h3'];refine zJ hJ ?_)))
 have h3':¬(100:Int)<vl.length:=oO;obtain⟨o,ho,hom⟩:=PU hc oO oO;have ho':(if chk g=0 then vR g (bE g)else some none)=some o:=by rw[aAe hc];exact ho
 have hR1:=Dd hF vl;have L8:=Dd hF (mO g)
 (repeat' (first|apply qS|refine qK (zZ ?_)|(apply qC;simp[hc,ZK,r8,h1,S3,h2,G1,h3,h3'])|((first|(refine zE ?_;intro J hJ)|(apply aF));simp[hc,ZK,r8,h1,S3,h2,G1,h3,h3'];(try refine zJ hJ ?_))))
 refine qE (Color g _ hF) sS ?_;rintro r s2 ⟨M,rfl,m1,m2,hM,Xq⟩;have Zk:=Xq.next;have p9:s2.H st.next=.box 25 2 (grL g):=by rw[Xq.H _ oO];exact r8
 (repeat' (first|apply qS|(apply aF;simp[p9];refine zJ hJ ?_)))
 (refine zS [] [st.next] [0,2,4,6,8,10,12,14,16,18,20,22,24,26,28,30,32,34,36,38,40] ?_;intro J hJ;simp[p9])
 refine qD (OR g vl 0 _ oO oO oO) sS ?_;rintro r s3 ⟨M3,rfl,a1,a2,hM3,Xv⟩;have hn3:=Xv.next;have hG3:s3.H st.next=.box 25 2 (grL g):=by rw[Xv.H _ oO];exact p9
 have hL3:s3.H M=.map false [.u32] (clL (oB g (mO g))):=by rw[Xv.H _ oO];exact hM
 refine⟨fun _=>by simp[hG3,p9],?_⟩
 (apply aS;simp[hG3,p9])
 refine qD (QG g M3 (clL (oB g vl)) (iY (oB g vl)) s3 oO oO hM3 a2 (tV _)) sS ?_;rintro r s4 ⟨rfl,Yb⟩;rw[hR1];have U0:=Yb.next;have hG4:s4.H st.next=.box 25 2 (grL g):=by rw[Yb.H _ oO];exact hG3
 have hL4:s4.H M=.map false [.u32] (clL (oB g (mO g))):=by rw[Yb.H _ oO];exact hL3
 refine⟨fun _=>by simp[hG4,p9],?_⟩
 (apply aS;simp[hG4,p9])
 refine qD (QG g M (clL (oB g (mO g))) (iY (oB g (mO g))) s4 oO oO hL4 oO (tV _)) sS ?_;rintro r s5 ⟨rfl,S5⟩;rw[L8];have hn5:=S5.next;have hG5:s5.H st.next=.box 25 2 (grL g):=by rw[S5.H _ oO];exact hG4
 have hL5:s5.H M=.map false [.u32] (clL (oB g (mO g))):=by rw[S5.H _ oO];exact hL4
 refine⟨fun _=>by simp[hG5,p9],?_⟩
 (apply aS;simp[hG5,p9])
 refine qD (Ry g oO oO ho' _) sS ?_;rintro r s6 ⟨rfl,hk6⟩;have hn6:=hk6.next;have hG6:s6.H st.next=.box 25 2 (grL g):=by rw[hk6.H _ oO];exact hG5
 have hL6:s6.H M=.map false [.u32] (clL (oB g (mO g))):=by rw[hk6.H _ oO];exact hL5
 refine⟨fun _=>by simp[hG6,p9],?_⟩;have hlen:=Rb hF (mO g);cases o with
 |none=>
  (apply aS;simp[hG6,p9];refine zJ hJ ?_)
  (repeat' (refine qR (zZ ?_);simp[]))
 |some m=>
  obtain⟨rfl,hm,hg⟩:=hom m rfl;have hs:=SU hm hg hF
  (apply aS;simp[hG6,p9])
  refine qD (TC M (oB m.g (mO m.g)) s6 hL6 oO oO) sS ?_;rintro r s7 ⟨⟨K,hK,rfl⟩,hk7⟩;have hG7:s7.H st.next=.box 25 2 (grL m.g):=by rw[hk7.H _ oO];exact hG6
  have Xm:=MT hK hs;have ZM:(K.length:Int)<=6:=oO;refine⟨fun _=>by simp[hG7,p9],?_⟩
  (apply aS;simp[hG7,p9,ZM];refine zJ hJ ?_)
  (repeat' (refine qR (zZ ?_);simp[]))
theorem Et(l0 l1:List LV)(st:St)(h0:Shp tab 25 l0)(h1:Shp tab 22 l1):
 aB prog 6 [EJ tab 25 l0,EJ tab 22 l1] st fun r st'=>r=bb true:=by
 obtain⟨g,rfl,_⟩:=UJ h0;obtain⟨vl,rfl,_⟩:=QD h1;exact ColorSix g vl st
end Aw
end Go.Proofs.YtempldclppogmaaGreatDoor
