/- plane: Embed, the walk. -/
import Derived.Test.YtempldclppogmaaGreatDoorJo
set_option linter.unusedVariables false
set_option linter.unusedSimpArgs false
set_option linter.unusedSectionVars false
set_option maxHeartbeats 8000000
open Go.Proofs.Tryz
namespace Go.Proofs.YtempldclppogmaaGreatDoor
namespace Aw
open Go Go.RowKit Pl
def BJ:Option Mp->LV
 |none=>.tu [.ag [.sl 0 0 [],.sl 0 0 [],.sl 0 0 []],bb false]
 |some m=>.tu [.ag (mpL m),bb true]
noncomputable def aZ(g:Gr):List (List Ed):=(eZ (sE g.es)).map fun B=>B.map (eAt (sE g.es))
def rV(l:List (List Ed)):List LV:=l.map fun l=>.sl 0 l.length (eds l)
theorem IJ(l:List Ed):(sE l).Sublist l:=by
 induction l using xA with
 |h0=>exact List.Sublist.refl _
 |h1 l x ih=>
  rw[lO]
  split
  .exact ih.trans (List.sublist_append_left _ _)
  .exact ih.append (List.Sublist.refl _)
theorem GoodE.simple{g:Gr}(h:GoodE g):GoodE ⟨g.vs,sE g.es⟩:=
 ⟨⟨h.rise,fun x hx=>h.ends x (nX _ x hx)⟩,h.ids.sublist (IJ _),fun x hx=>h.pos x (nX _ x hx),fun x hx=>h.ne x (nX _ x hx)⟩
theorem DM(g:Gr):(aZ g).length<=(sE g.es).length:=by unfold aZ eZ;rw[aAA,aAA];exact aBh (aBe _ _) (by rw[aDz];exact aAi _)
theorem kW{g:Gr}(hg:GoodE g){B:List Nat}(hB:B∈eZ g.es):dJ g.es B:=by unfold eZ at hB;obtain⟨i,hi,rfl⟩:=aAm.1 hB;rw[aAz,aAX]at hi;obtain⟨s,_,_,h2,_,h3⟩:=rK hg;obtain⟨B,hB,hiB⟩:=aAZ.1 ((h2 i).2 hi.1);rw[<- (h3 B hB).cls hiB];exact h3 B hB
theorem mH{g:Gr}(hg:GoodE g){l:List Ed}(hl:l∈aZ g):DrE l/\∀ e∈l,e∈g.es:=by
 unfold aZ at hl;obtain⟨B,hB,rfl⟩:=aAm.1 hl;have B6:=hg.simple;have hB:dJ (sE g.es) B:=kW B6 hB;have Xt:∀ e∈B.map (eAt (sE g.es)),e∈sE g.es:=fun e he=>by obtain⟨i,hi,rfl⟩:=aAm.1 he;have e:eAt (sE g.es) i=(sE g.es)[i]'(hB.lt i hi):=cV _ _ (hB.lt i hi);rw[e];exact aAu _
 refine⟨⟨?_,fun x hx=>B6.pos x (Xt x hx),fun x hx=>B6.ne x (Xt x hx)⟩,fun e he=>nX _ e (Xt e he)⟩;rw[aAU];refine hB.rise.imp_of_mem fun {i j} hi hj hij=>?_;have e:∀ k,(hk:k∈B)->eAt (sE g.es) k=(sE g.es)[k]'(hB.lt k hk):=fun k hk=>cV _ _ (hB.lt k hk);rw[e i hi,e j hj];exact aAG.1 B6.ids i j (hB.lt i hi) (hB.lt j hj) hij
theorem z0m(R:List (List Int)):z0L (R.map fun r=>LV.sl 0 r.length (us r))=R.map fun r=>LV.sl 0 r.length (us r):=by
 induction R with
 |nil=>rfl
 |cons r R ih=>simp only[aAj,z0L,z0,HY];rw[ih]
theorem IU(l:List (List Ed))(j:Nat)(h:j<l.length):(rV l).drop j=.sl 0 (l.getD j []).length (eds (l.getD j []))::rV (l.drop (j+1)):=by unfold rV;rw[<- aCk,aAM h,aAc,aAd h];rfl
theorem Gx(x:Int):∀ l,(wY x l).length<=l.length+1
 |[]=>by simp[wY]
 |y::l=>by
  have:=Gx x l;unfold wY
  split
  .simp
  .split
   .simp;omega
   .simp
theorem Gn:∀ l,(pN l).length<=l.length
 |[]=>by simp[pN]
 |x::l=>by have h:=Gn l;have h2:=Gx x (pN l);unfold pN at h h2 ⊢;rw[List.foldr_cons,List.length_cons];omega
theorem Sz(l:List Ed):(List.map (fun _:Ed=>3) l).sum=l.length*3:=by
 induction l with
 |nil=>rfl
 |cons x l ih=>simp only[aAj,List.sum_cons,List.length_cons,ih];omega
def TI(M1 M2 a:Nat)(s3 s8:St)(T:TL)(st:St):Prop:=aA s3 st/\s8.next<=st.next/\(∀ l,a<=l->l<s8.next->st.H l=s8.H l)/\∃ A,yF false [.u32] 34 1 A M2 M2 st/\tF T A/\∀ x∈A,x.2.1<a\/s8.next<=x.2.1
theorem wU(g:Gr)(hv:g.vs.length<=1000)(he:g.es.length<=200){o:Option Mp}(ho:(if chk g=0 then pY g (aZ g)else some none)=some o)(st:St):
 aB prog 17 [.ag (grL g)] st fun r st'=>r=BJ o/\aA st st':=by
 refine eE ?_;have hel:=aK g.es;refine zN func17 ntmps17 [.cell 2 39,.tmp 3] ?_;refine eP fun Yi=>?_
 (repeat' (first|apply qS|(refine zE ?_;intro J hJ;simp[];(try (refine zJ hJ ?_;clear hJ J)))))
 refine qE (Check g _ hv oO) sS ?_;rintro r s1 ⟨rfl,Xn⟩;have YZ:=Xn.next;simp only[aF]at YZ;have ZW:s1.H st.next=.box 25 2 (grL g):=by rw[Xn.H _ (by simp;omega)];simp
 have hO1:s1.H (st.next+1)=.box 39 3 [.nil,.nil,.nil]:=by rw[Xn.H _ sS];simp
 have J6:aA st s1:=((aA.new _ _).trans (aA.new _ _)).trans Xn;by_cases hc:chk g=0
 case neg=>
  rw[aAa hc]at ho;obtain rfl:none=o:=aBb ho;have V6:(chk g != 0)=true:=by simpa using hc
  (repeat' (first|apply qS|(refine qR (zZ ?_);simp[V6,hO1])|(apply qC;simp[V6,hO1])|((first|(refine zE ?_;intro J hJ)|(apply aD));simp[V6,hO1];(refine zJ hJ ?_;clear hJ J))))
  exact⟨by simp[BJ,z0,z0L],J6.set oO _⟩
 rw[aAe hc]at ho;have hgE:=jU hc;have B6:=hgE.simple;have V6:(chk g != 0)=false:=by simpa using hc
 have e1:¬st.next=s1.next:=oO
 (repeat' (first|apply qS|apply qB|refine qK (zZ ?_)|(apply qC;simp[V6,ZW,e1])|((first|(refine zE ?_;intro J hJ)|(apply aD));simp[V6,ZW,e1];(refine zJ hJ ?_;clear hJ J))))
 refine bE 27 26 28 47 (g.es.length) (fun j fr st2=>fr 1=.pt st.next 0/\fr 2=.pt (st.next+1) 0/\fr 4=.mp s1.next/\fr 25=.sl 0 g.es.length (eds g.es)/\aA s1 st2/\∃ A,yF true [.u32,.u32] 56 3 A s1.next s1.next st2/\Ej (g.es.take j) A) ?_ ?_ ?_
 .exact⟨sS,sS,sS,sS,aA.new _ _,[],⟨by simp[rmL],sS,sS,sS,sS⟩,⟨sS,sS⟩⟩
 .rintro j fr s dN ⟨f1,f2,f4,f25,hk,A,hA,hB⟩ fi fn JO hJO;have hd:=aR g.es j dN;have Xq:j*3<g.es.length*3:=oO;have YP:g.es.take (j+1)=g.es.take j++[g.es.getD j ed0]:=by rw[cV _ _ dN];exact aAn dN
  have Yg:=hB.get hA.nd (prE (g.es.getD j ed0));have Zk:=hB.add hA.nd (g.es.getD j ed0);rw[<- YP]at Zk;have hEl:(g.es.take j).length<=200:=by rw[aAo];omega
  generalize g.es.take j=E at *;generalize g.es.take (j+1)=E' at *;generalize g.es.getD j ed0=x at *;obtain⟨d,a,b⟩:=x;have ZR:(jC E (prP a b)).length<=200:=aBh (aBe _ _) hEl;simp only[prE,prP,pk]at Yg Zk ZR hd;have hM:=hA.map;have Yn:=uJ [min a b,max a b] A;have c0:¬s1.next=s.next:=by have:=hA.mlt;omega
  (repeat' (first|apply qS|(refine zE ?_;intro J hJ;simp[f25,fi,fn,dN,hd,hel,Xq];(refine zJ hJ ?_;clear hJ J))))
  refine BL (fun f s'=>f 1=.pt st.next 0/\f 2=.pt (st.next+1) 0/\f 4=.mp s1.next/\f 25=.sl 0 g.es.length (eds g.es)/\f 26=i g.es.length/\f 27=i j/\aA s1 s'/\∃ A,yF true [.u32,.u32] 56 3 A s1.next s1.next s'/\Ej E' A) ?_ ?_;rotate_left
  .rintro fr s' ⟨f1,f2,f4,f25,fn,fi,ZA,L9⟩;exact hJO _ _ fi fn ⟨by simp[f1],by simp[f2],by simp[f4],by simp[f25],ZA,L9⟩
  have ZX:¬s.next=s1.next:=fun e=>c0 e.symm;have x1:¬s1.next=s.next+1:=by have:=hA.mlt;omega
  have x2:¬s.next+1=s1.next:=fun e=>x1 e.symm;have x3:¬s1.next=s.next+1+1:=by have:=hA.mlt;omega
  have x4:¬s.next+1+1=s1.next:=fun e=>x3 e.symm;rcases Yg with⟨Yc,hgn⟩|⟨t,hgs⟩
  .rw[hgn]at Yn;simp only[Option.map_none]at Yn;have Zk:=Zk (s.next+1+1);rw[Yc]at Zk;simp only[eds,aDG,List.nil_append,List.length_nil,aBt]at Zk
   have Xp:∀ f:Frm,f 1=.pt st.next 0->f 2=.pt (st.next+1) 0->f 4=.mp s1.next->f 25=.sl 0 g.es.length (eds g.es)->f 26=i g.es.length->f 27=i j->(f 1=.pt st.next 0/\f 2=.pt (st.next+1) 0/\f 4=.mp s1.next/\f 25=.sl 0 g.es.length (eds g.es)/\f 26=i g.es.length/\f 27=i j/\aA s1 ((((s.new (.box 56 3 [u d,u a,u b])).new (.own 56 3 1)).new (.own 56 3 1)).set s1.next (.map true [.u32,.u32] (bQ (rmL A) [min a b,max a b] (.sl (s.next+1+1) 1 [u d,u a,u b]))))/\∃ A',yF true [.u32,.u32] 56 3 A' s1.next s1.next ((((s.new (.box 56 3 [u d,u a,u b])).new (.own 56 3 1)).new (.own 56 3 1)).set s1.next (.map true [.u32,.u32] (bQ (rmL A) [min a b,max a b] (.sl (s.next+1+1) 1 [u d,u a,u b]))))/\Ej E' A'):=fun f q1 q2 q3 q4 q5 q6=>
    ⟨q1,q2,q3,q4,q5,q6,(((hk.trans (aA.new _ _)).trans (aA.new _ _)).trans (aA.new _ _)).set (aAi _) _,_,hA.put (k:=[min a b,max a b]) (t:=s.next+1+1) (n:=1) (c:=[u d,u a,u b]) ⟨oO,sS⟩ (by simp;omega) hk.next oO (by simp[rmV]) (by simp[x4]) (fun l hl r9 _=>by simp[show ¬l=s.next by omega,show ¬l=s.next+1 by omega,show ¬l=s.next+1+1 by omega,r9]),Zk⟩
   refine w_a [] [s1.next,s.next] ?_;intro J hJ;refine kL 6 [(0,true),(1,true),(2,true),(3,true),(4,true),(6,true),(7,true),(8,true),(9,true),(10,true),(13,true)] ?_;simp[f4,c0,ZX,hM,Yn,x1,x2,x3,x4];refine sK 5 (5,true) (14,true) ?_ ?_
   .simp[f4,c0,ZX,hM,Yn,x1,x2,x3,x4];refine qD (pair a b _) sS ?_;rintro r s5 ⟨rfl,e5⟩;rw[e5];clear e5 s5;refine⟨fun h=>by first|(cases h;done)|exact fun _ _=>rfl|simp[f4,c0,ZX,hM,Yn,x1,x2,x3,x4],?_⟩;refine sK 4 (11,true) (14,true) ?_ ?_
    .simp[f4,c0,ZX,hM,Yn,x1,x2,x3,x4];refine qD (pair a b _) sS ?_;rintro r s5 ⟨rfl,e5⟩;rw[e5];clear e5 s5;refine⟨fun h=>by first|(cases h;done)|exact fun _ _=>rfl|simp[f4,c0,ZX,hM,Yn,x1,x2,x3,x4],?_⟩;refine kL 0 [(12,true),(14,true),(15,true),(16,false)] ?_;simp[f4,c0,ZX,hM,Yn,x1,x2,x3,x4];refine⟨by unfold maxLen;omega,eC (hJ _ _ ?_)⟩;simp only[ak];refine⟨trivial,Xp _ ?_ ?_ ?_ ?_ ?_ ?_⟩<;>simp[f1,f2,f4,f25,fn,fi]
    .simp[f4,c0,ZX,hM,Yn,x1,x2,x3,x4];refine kL 0 [(11,true),(12,true),(15,true),(16,false)] ?_;simp[f4,c0,ZX,hM,Yn,x1,x2,x3,x4];refine qD (pair a b _) sS ?_;rintro r s5 ⟨rfl,e5⟩;rw[e5];clear e5 s5;refine⟨fun h=>by first|(cases h;done)|exact fun _ _=>rfl|simp[f4,c0,ZX,hM,Yn,x1,x2,x3,x4],?_⟩;simp[f4,c0,ZX,hM,Yn,x1,x2,x3,x4];refine⟨by unfold maxLen;omega,eC (hJ _ _ ?_)⟩;simp only[ak];refine⟨trivial,Xp _ ?_ ?_ ?_ ?_ ?_ ?_⟩<;>simp[f1,f2,f4,f25,fn,fi]
   .simp[f4,c0,ZX,hM,Yn,x1,x2,x3,x4];refine kL 0 [(5,true),(11,true),(12,true),(15,true),(16,false)] ?_;simp[f4,c0,ZX,hM,Yn,x1,x2,x3,x4];refine qD (pair a b _) sS ?_;rintro r s5 ⟨rfl,e5⟩;rw[e5];clear e5 s5;refine⟨fun h=>by first|(cases h;done)|exact fun _ _=>rfl|simp[f4,c0,ZX,hM,Yn,x1,x2,x3,x4],?_⟩;simp[f4,c0,ZX,hM,Yn,x1,x2,x3,x4];refine qD (pair a b _) sS ?_;rintro r s5 ⟨rfl,e5⟩;rw[e5];clear e5 s5;refine⟨fun h=>by first|(cases h;done)|exact fun _ _=>rfl|simp[f4,c0,ZX,hM,Yn,x1,x2,x3,x4],?_⟩;simp[f4,c0,ZX,hM,Yn,x1,x2,x3,x4];refine⟨by unfold maxLen;omega,eC (hJ _ _ ?_)⟩;simp only[ak];refine⟨trivial,Xp _ ?_ ?_ ?_ ?_ ?_ ?_⟩<;>simp[f1,f2,f4,f25,fn,fi]
  .rw[hgs]at Yn;simp only[Option.map_some]at Yn;unfold rmV at Yn;simp only at Yn;obtain⟨k1,k2,k3,k4⟩:=hA.tok _ (mJ hgs);simp only at k1 k2 k3 k4;have y1:¬t=s.next:=oO;have y2:¬t=s.next+1:=oO;have y3:¬s.next=t:=oO;have y4:¬s.next+1=t:=oO;have y5:¬s1.next=t:=fun e=>by rw[<- e,hM]at k4;cases k4
   have y6:¬t=s1.next:=fun e=>y5 e.symm;have ZZ:(List.map (fun _:Ed=>3) (jC E (min a b,max a b))).sum=(jC E (min a b,max a b)).length*3:=Sz _;have Zk:=Zk (s.next+1+1);have L8:=aK (jC E (min a b,max a b))
   have Xp:∀ f:Frm,f 1=.pt st.next 0->f 2=.pt (st.next+1) 0->f 4=.mp s1.next->f 25=.sl 0 g.es.length (eds g.es)->f 26=i g.es.length->f 27=i j->(f 1=.pt st.next 0/\f 2=.pt (st.next+1) 0/\f 4=.mp s1.next/\f 25=.sl 0 g.es.length (eds g.es)/\f 26=i g.es.length/\f 27=i j/\aA s1 (((((s.new (.box 56 3 [u d,u a,u b])).new (.own 56 3 1)).set t .dead).new (.own 56 3 ((jC E (min a b,max a b)).length+1))).set s1.next (.map true [.u32,.u32] (bQ (rmL A) [min a b,max a b] (.sl (s.next+1+1) ((jC E (min a b,max a b)).length+1) (eds (jC E (min a b,max a b))++[u d,u a,u b])))))/\∃ A',yF true [.u32,.u32] 56 3 A' s1.next s1.next (((((s.new (.box 56 3 [u d,u a,u b])).new (.own 56 3 1)).set t .dead).new (.own 56 3 ((jC E (min a b,max a b)).length+1))).set s1.next (.map true [.u32,.u32] (bQ (rmL A) [min a b,max a b] (.sl (s.next+1+1) ((jC E (min a b,max a b)).length+1) (eds (jC E (min a b,max a b))++[u d,u a,u b])))))/\Ej E' A'):=fun f q1 q2 q3 q4 q5 q6=>
    ⟨q1,q2,q3,q4,q5,q6,((((hk.trans (aA.new _ _)).trans (aA.new _ _)).set k2 _).trans (aA.new _ _)).set (aAi _) _,_,hA.put (k:=[min a b,max a b]) (t:=s.next+1+1) (n:=(jC E (min a b,max a b)).length+1) (c:=eds (jC E (min a b,max a b))++[u d,u a,u b]) ⟨oO,sS⟩ (by simp;omega) hk.next oO (by simp[rmV]) (by simp[x4]) (fun l hl r9 hx=>by
      have:=hx _ hgs;simp only at this
      simp[show ¬l=s.next by omega,show ¬l=s.next+1 by omega,show ¬l=s.next+1+1 by omega,r9,this]),Zk⟩
   refine w_a [] [s1.next,s.next] ?_;intro J hJ;refine kL 6 [(0,true),(1,true),(2,true),(3,true),(4,true),(6,true),(7,true),(8,true),(9,true),(10,true),(13,true)] ?_;simp[f4,c0,ZX,hM,Yn,x1,x2,x3,x4,y1,y2,y3,y4,y5,y6,k4,k1,L8,ZZ];refine sK 5 (5,true) (14,true) ?_ ?_
   .simp[f4,c0,ZX,hM,Yn,x1,x2,x3,x4,y1,y2,y3,y4,y5,y6,k4,k1,L8,ZZ];refine qD (pair a b _) sS ?_;rintro r s5 ⟨rfl,e5⟩;rw[e5];clear e5 s5;refine⟨fun h=>by first|(cases h;done)|exact fun _ _=>rfl|simp[f4,c0,ZX,hM,Yn,x1,x2,x3,x4,y1,y2,y3,y4,y5,y6,k4,k1,L8,ZZ],?_⟩;refine sK 4 (11,true) (14,true) ?_ ?_
    .simp[f4,c0,ZX,hM,Yn,x1,x2,x3,x4,y1,y2,y3,y4,y5,y6,k4,k1,L8,ZZ];refine qD (pair a b _) sS ?_;rintro r s5 ⟨rfl,e5⟩;rw[e5];clear e5 s5;refine⟨fun h=>by first|(cases h;done)|exact fun _ _=>rfl|simp[f4,c0,ZX,hM,Yn,x1,x2,x3,x4,y1,y2,y3,y4,y5,y6,k4,k1,L8,ZZ],?_⟩;refine kL 0 [(12,true),(14,true),(15,true),(16,false)] ?_;simp[f4,c0,ZX,hM,Yn,x1,x2,x3,x4,y1,y2,y3,y4,y5,y6,k4,k1,L8,ZZ];refine⟨by unfold maxLen;omega,eC (hJ _ _ ?_)⟩;simp only[ak];refine⟨trivial,Xp _ ?_ ?_ ?_ ?_ ?_ ?_⟩<;>simp[f1,f2,f4,f25,fn,fi]
    .simp[f4,c0,ZX,hM,Yn,x1,x2,x3,x4,y1,y2,y3,y4,y5,y6,k4,k1,L8,ZZ];refine kL 0 [(11,true),(12,true),(15,true),(16,false)] ?_;simp[f4,c0,ZX,hM,Yn,x1,x2,x3,x4,y1,y2,y3,y4,y5,y6,k4,k1,L8,ZZ];refine qD (pair a b _) sS ?_;rintro r s5 ⟨rfl,e5⟩;rw[e5];clear e5 s5;refine⟨fun h=>by first|(cases h;done)|exact fun _ _=>rfl|simp[f4,c0,ZX,hM,Yn,x1,x2,x3,x4,y1,y2,y3,y4,y5,y6,k4,k1,L8,ZZ],?_⟩;simp[f4,c0,ZX,hM,Yn,x1,x2,x3,x4,y1,y2,y3,y4,y5,y6,k4,k1,L8,ZZ];refine⟨by unfold maxLen;omega,eC (hJ _ _ ?_)⟩;simp only[ak];refine⟨trivial,Xp _ ?_ ?_ ?_ ?_ ?_ ?_⟩<;>simp[f1,f2,f4,f25,fn,fi]
   .simp[f4,c0,ZX,hM,Yn,x1,x2,x3,x4,y1,y2,y3,y4,y5,y6,k4,k1,L8,ZZ];refine kL 0 [(5,true),(11,true),(12,true),(15,true),(16,false)] ?_;simp[f4,c0,ZX,hM,Yn,x1,x2,x3,x4,y1,y2,y3,y4,y5,y6,k4,k1,L8,ZZ];refine qD (pair a b _) sS ?_;rintro r s5 ⟨rfl,e5⟩;rw[e5];clear e5 s5;refine⟨fun h=>by first|(cases h;done)|exact fun _ _=>rfl|simp[f4,c0,ZX,hM,Yn,x1,x2,x3,x4,y1,y2,y3,y4,y5,y6,k4,k1,L8,ZZ],?_⟩;simp[f4,c0,ZX,hM,Yn,x1,x2,x3,x4,y1,y2,y3,y4,y5,y6,k4,k1,L8,ZZ];refine qD (pair a b _) sS ?_;rintro r s5 ⟨rfl,e5⟩;rw[e5];clear e5 s5;refine⟨fun h=>by first|(cases h;done)|exact fun _ _=>rfl|simp[f4,c0,ZX,hM,Yn,x1,x2,x3,x4,y1,y2,y3,y4,y5,y6,k4,k1,L8,ZZ],?_⟩;simp[f4,c0,ZX,hM,Yn,x1,x2,x3,x4,y1,y2,y3,y4,y5,y6,k4,k1,L8,ZZ];refine⟨by unfold maxLen;omega,eC (hJ _ _ ?_)⟩;simp only[ak];refine⟨trivial,Xp _ ?_ ?_ ?_ ?_ ?_ ?_⟩<;>simp[f1,f2,f4,f25,fn,fi]
 .rintro fr s ⟨f1,f2,f4,f25,hk,A,hA,hB⟩;rw[aAQ]at hB;have hkn:=hk.next;have hGs:s.H st.next=.box 25 2 (grL g):=(hk.H _ oO).trans ZW;have hOs:s.H (st.next+1)=.box 39 3 [.nil,.nil,.nil]:=(hk.H _ oO).trans hO1
  (repeat' (first|apply qS|(refine zE ?_;intro J hJ;simp[f1,hGs])))
  refine qE (Pq g s oO oO oO) sS ?_;rintro r s2 ⟨rfl,Xx⟩;have hkn2:=Xx.next;have hA2:=hA.keep Xx;have Z4:=hk.trans Xx;have I1:=nR g.es;have hO2:=(Xx.H _ oO).trans hOs;have G4:=(Xx.H _ oO).trans hGs;clear Xx hOs hGs hA hk
  (repeat' (first|apply qS|((first|(refine zE ?_;intro J hJ)|(apply aD));simp[];(try (refine zJ hJ ?_;clear hJ J)))))
  have hbk:=DM g;have ZR:bkL (sE g.es) (eZ (sE g.es))=rV (aZ g):=by simp[bkL,rV,aZ]
  have hbn:(eZ (sE g.es)).length=(aZ g).length:=by simp[aZ]
  have C2:=UB ⟨g.vs,sE g.es⟩ B6 ((s2.new (.box 25 2 [.sl 0 g.vs.length (us g.vs),.sl 0 (sE g.es).length (eds (sE g.es))])).new (.map false [.u32] [])) (aBh (Fa hc).2.2.1 (by decide)) (by simp only;omega);simp only[]at C2;rw[ZR,hbn]at C2;refine qE C2 (by simp[grL]) ?_;rintro r s3 ⟨rfl,e3⟩;rw[e3];clear e3 s3 C2;have Xq:=aA.new s2 (.box 25 2 [.sl 0 g.vs.length (us g.vs),.sl 0 (sE g.es).length (eds (sE g.es))]);have hn3:(s2.new (.box 25 2 [.sl 0 g.vs.length (us g.vs),.sl 0 (sE g.es).length (eds (sE g.es))])).next=s2.next+1:=rfl;rw[<- hn3];generalize s2.new (.box 25 2 [.sl 0 g.vs.length (us g.vs),.sl 0 (sE g.es).length (eds (sE g.es))])=s3 at *;have hA3:=hA2.keep Xq;have hK3:=Z4.trans Xq;have hO3:=(Xq.H _ oO).trans hO2;have hG3:=(Xq.H _ oO).trans G4;clear hA2 Z4 hO2 G4 Xq;unfold pY at ho;obtain⟨oT,hoT,ho⟩:=aBD.1 ho;have hKt:=J6.trans hK3
  (repeat' (first|apply qB|(apply aD;simp[];(refine zJ hJ ?_;clear hJ J))))
  refine bE 57 56 58 104 ((aZ g).length) (fun j fr st2=>fr 1=.pt st.next 0/\fr 2=.pt (st.next+1) 0/\fr 4=.mp s1.next/\fr 9=.mp s3.next/\fr 55=.sl 0 (aZ g).length (rV (aZ g))/\aA s3 st2/\∃ T A2,Dl g ((aZ g).drop j) T=some oT/\yF false [.u32] 34 1 A2 s3.next s3.next st2/\tF T A2/\eV T<=100000) ?_ ?_ ?_
  .exact⟨by simp[f1],by simp[f2],by simp[f4],sS,sS,aA.new _ _,[],[],by simpa using hoT,⟨by simp[rmL],sS,sS,sS,sS⟩,rfl,by simp[eV]⟩
  .clear f1 f2 f4 f25 hoT fr;rintro j0 fr s4 dN ⟨f1,f2,f4,f9,f55,Yh,T,A2,hE,hT,hR,htot⟩ fi fn JO hJO;have hd:=IU (aZ g) j0 dN;have Zs:(aZ g).drop j0=(aZ g).getD j0 []::(aZ g).drop (j0+1):=by rw[aAM dN,aAc,aAd dN];rfl
   obtain⟨hdre,Yv⟩:=mH hgE (l:=(aZ g).getD j0 []) (by rw[aAc,aAd dN];exact aAu _);rw[Zs]at hE;unfold Dl at hE;obtain⟨oD,hD,hE⟩:=aBD.1 hE;generalize (aZ g).getD j0 []=l at *;have hkn4:=Yh.next;have hM24:=hT.mlt.2;have hel4:(rV (aZ g)).length=(aZ g).length:=by simp[rV]
   (repeat' (first|apply qS|(refine zE ?_;intro J hJ;simp[f55,fi,fn,dN,hd,hel4];(try (refine zJ hJ ?_;clear hJ J)))))
   refine qE (Vv hdre hD s4 oO) sS ?_;rintro r s5 ⟨rfl,V4⟩;have hO5:=(V4.H (st.next+1) oO).trans ((Yh.H (st.next+1) oO).trans hO3);have hk45:=Yh.trans V4;cases oD with
   |none=>
    simp only at hE;obtain rfl:none=oT:=aBb hE;simp only at ho;obtain rfl:none=o:=aBb ho;unfold drR
    (repeat' (first|apply qS|(refine qR (zZ ?_);simp[f2,hO5])|(apply qC;simp[f2,hO5])|((first|(refine zE ?_;intro J hJ)|(apply aD));simp[f2,hO5];(refine zJ hJ ?_;clear hJ J))))
    exact⟨by simp[BJ,z0,z0L],(hKt.trans hk45).set oO _⟩
   |some F=>
    simp only at hE
    split at hE
    case isFalse=>cases hE
    rename_i j8;obtain⟨o1,o2,o3,o4,o5⟩:=j8;unfold drR
    (repeat' (first|apply qS|refine qK (zZ ?_)|(apply qC;simp[f2,hO5])|((first|(refine zE ?_;intro J hJ)|(apply aD));simp[f2,hO5];(try (refine zJ hJ ?_;clear hJ J)))))
    refine qE (Pu F s5 o1 o2) sS ?_;rintro r s6 ⟨M,loc,rfl,hM⟩;have hMk:=hM.kp;have hnd:=hM.nd;have hkeyN:=OX (aY F) loc
    (repeat' (first|apply qS|((first|(refine zE ?_;intro J hJ)|(apply aD));simp[];(try (refine zJ hJ ?_;clear hJ J)))))
    refine qE (Vu M _) sS ?_;rintro r s7 ⟨rfl,e7⟩;rw[e7];clear e7 s7;have hM7:(s6.new (.box 80 1 [.mp M])).H M=.map false [.u32] (ouL (aY F) loc):=by rw[cB,aAa (by have:=hM.olt;omega)];exact hM.out
    (repeat' (apply aD;simp[]))
    refine qE (Qp M s6.next (ouL (aY F) loc) ((aY F).map (·.1)) _ (by simpa[ouL]using o3) sS hM7 hkeyN hnd) sS ?_;rintro r s8 ⟨rfl,hk8⟩;have hk68:=(aA.new s6 _).trans hk8;have W9:=V4.next;have hn6:=hMk.next;have hn8:=hk68.next;have YY:s8.H M=.map false [.u32] (ouL (aY F) loc):=(hk68.H M hM.olt.2).trans hM.out;have hinn:∀ a∈aY F,s8.H (loc a.1)=.map false [.u32] (inL a.2)/\s5.next<=loc a.1/\loc a.1<s8.next:=fun a ha=>by obtain⟨q1,q2,q3⟩:=hM.inn a ha;exact⟨(hk68.H _ q3).trans q1,q2.1,oO⟩
    have hMo:s5.next<=M/\M<s8.next:=⟨hM.olt.1,by have:=hM.olt.2;omega⟩;have hk48:=(V4.trans hMk).trans hk68;have hT8:=hT.keep hk48;have hk38:=Yh.trans hk48;have hTW:∀ a∈A2,a.2.1<s5.next\/s8.next<=a.2.1:=fun a ha=>.inl (by have:=(hT.tok a ha).2.2.1;omega);have Wx:=JU F;clear hM hM7 hk68 hMk hk48 hT hk8 V4 hO5 hk45 hkeyN;unfold tZ at hE o5;generalize aY F=AF at *;have hKm:=fun x=>pU x (AF.map (·.1));have hKl:(pN (AF.map (·.1))).length<=1000:=aBh (Gn _) (by rw[aAA];exact o3);generalize pN (AF.map (·.1))=K at *
    (repeat' (first|apply qB|(apply aD;simp[];(refine zJ hJ ?_;clear hJ J))))
    refine bE 75 74 76 103 (K.length) (fun j fr st2=>(fr 1=.pt st.next 0/\fr 2=.pt (st.next+1) 0/\fr 4=.mp s1.next/\fr 9=.mp s3.next/\fr 55=.sl 0 (aZ g).length (rV (aZ g))/\fr 56=i (aZ g).length/\fr 57=i j0/\fr 14=.mp M/\fr 73=.sl 0 K.length (us K))/\TI s1.next s3.next s5.next s3 s8 (eS g AF (K.take j) T) st2) ?_ ?_ ?_
    .exact⟨⟨by simp[f1],by simp[f2],by simp[f4],by simp[f9],by simp[f55],by simp[fn],by simp[fi],sS,sS⟩,hk38,aAi _,fun l _ _=>rfl,A2,hT8,hR,hTW⟩
    .clear f1 f2 f4 f9 f55 fn fi fr hT8 hR hTW;rintro k1 fr s9 ZT ⟨⟨f1,f2,f4,f9,f55,f56,f57,f14,f73⟩,hTI⟩ fi fn J1 hJ1;have Xu:=qG K k1 ZT;have hsn1:eS g AF (K.take (k1+1)) T=dL g (K.getD k1 0) (bY (dB (K.getD k1 0) AF)) (eS g AF (K.take k1) T):=by have h1:K.take (k1+1)=K.take k1++[K[k1]]:=aAn ZT;unfold eS;rw[h1,aBo,aN _ _ ZT];rfl
     have htot1:eV (eS g AF (K.take (k1+1)) T)<=100000:=by have h1:=CP g AF (K.drop (k1+1)) (eS g AF (K.take (k1+1)) T);rw[<- Gq]at h1;omega
     have hvK:K.getD k1 0∈AF.map (·.1):=(hKm _).1 (by rw[aN _ _ ZT];exact aAu _);have hvA:=Ga hvK;have hgM:=EA AF loc (K.getD k1 0);rw[aAe hvK]at hgM;rw[hsn1]at htot1 hJ1;clear hsn1;generalize eS g AF (K.take k1) T=Tk at *;generalize K.getD k1 0=v at *;obtain⟨hI1,hI2,hI3⟩:=hinn _ hvA;have hPl:=o4 _ hvA;have hP0:=Wx _ hvA;simp only at hI1 hI2 hI3 hPl hP0;have hLl:=IB (dB v AF);generalize dB v AF=P at *;have hTI':=hTI;obtain⟨hk9,hn9,hW,A9,hT9,hR9,hTW9⟩:=hTI';have hM9:=(hW M hMo.1 hMo.2).trans YY;have hI9:=(hW _ hI2 hI3).trans hI1;clear hT9 hR9 hTW9 hW;generalize loc v=lv at *
     (repeat' (first|apply qS|(refine zE ?_;intro J hJ;simp[f73,fi,fn,ZT,Xu,f14,hM9,hgM];(try (refine zJ hJ ?_;clear hJ J)))))
     refine qE (Un P lv s9 hP0 oO hI9 oO) sS ?_;rintro r s10 ⟨rfl,Q6⟩;rw[Q6];clear Q6 s10;have N8:(bY P).length<=1000:=oO;generalize bY P=L at *
     (repeat' (first|apply qB|(apply aD;simp[];(refine zJ hJ ?_;clear hJ J))))
     refine bE 84 83 85 102 (L.length) (fun j fr st2=>(fr 1=.pt st.next 0/\fr 2=.pt (st.next+1) 0/\fr 4=.mp s1.next/\fr 9=.mp s3.next/\fr 55=.sl 0 (aZ g).length (rV (aZ g))/\fr 56=i (aZ g).length/\fr 57=i j0/\fr 14=.mp M/\fr 73=.sl 0 K.length (us K))/\(fr 74=i K.length/\fr 75=i k1/\fr 16=u v/\fr 82=.sl 0 L.length (us L))/\TI s1.next s3.next s5.next s3 s8 (dL g v (L.take j) Tk) st2) ?_ ?_ ?_
     .exact⟨⟨by simp[f1],by simp[f2],by simp[f4],by simp[f9],by simp[f55],by simp[f56],by simp[f57],by simp[f14],by simp[f73]⟩,⟨by simp[fn],by simp[fi],sS,sS⟩,hTI⟩
     .clear f1 f2 f4 f9 f55 f56 f57 f14 f73 fi fn fr hTI hk9 hn9 hM9 hI9 s9;rintro k2 fr s9 ZS ⟨⟨f1,f2,f4,f9,f55,f56,f57,f14,f73⟩,⟨f74,f75,f16,f82⟩,hk9,hn9,hW,A9,hT9,hR9,hTW9⟩ fi fn J2 v8;have YQ:=qG L k2 ZS;have hsn2:dL g v (L.take (k2+1)) Tk=oK v (eO (iZ g v (L.getD k2 0)) v (L.getD k2 0)) (dL g v (L.take k2) Tk):=by have h1:L.take (k2+1)=L.take k2++[L[k2]]:=aAn ZS;unfold dL;rw[h1,aBo,aN _ _ ZS];rfl
      have htot2:eV (dL g v (L.take (k2+1)) Tk)<=100000:=by have h1:=vZ g v (L.drop (k2+1)) (dL g v (L.take (k2+1)) Tk);rw[<- Ft]at h1;omega
      rw[hsn2]at htot2 v8;clear hsn2;generalize dL g v (L.take k2) Tk=Tq at *;generalize L.getD k2 0=x at *;have hbun:=hB.get hA3.nd (prP v x);have hMB:s9.H s1.next=.map true [.u32,.u32] (rmL A):=(hk9.H _ hA3.mlt.2).trans hA3.map;obtain⟨X,hX,tX,hXn⟩:∃ X,(bR (rmL A) [min v x,max v x]).getD .nil=X/\∃ t,norm X=.sl t (iZ g v x).length (eds (iZ g v x)):=by
       refine⟨_,rfl,?_⟩;rw[uJ];rcases hbun with⟨h1,h2⟩|⟨t,h2⟩
       .refine⟨0,?_⟩;simp only[prP,pk]at h2;rw[h2];unfold iZ;rw[h1];rfl
       .refine⟨t,?_⟩;simp only[prP,pk]at h2;rw[h2];rfl
      have hBl:(iZ g v x).length<=200:=aBh (aBe _ _) (aBh he oO);have hBp:∀ e∈iZ g v x,1<=e.id/\e.id<=1048576:=fun e h=>hgE.pos e (aAz.1 h).1;have hdarts:=fun st=>TP (iZ g v x) v x tX st oO hBp;generalize iZ g v x=B at *;have K8:=uJ [v] A9;have Zk:=hR9.add (v:=v) (ds:=eO B v x);have htq:=BG v (oK v (eO B v x) Tq);have hgq:=hR9.get (v:=v);generalize hDD:eO B v x=D at *;have hMT:=hT9.map;have z1:¬s1.next=s3.next:=by have:=hA3.mlt;omega
      have z2:¬s3.next=s1.next:=fun e=>z1 e.symm;have hn39:=hk9.next;have hDt:=uN v D Tq;have hDt2:=BG v Tq;have hD1:D.length*4<=140737488355328:=oO;have hD2:D.length<=maxLen:=by unfold maxLen;omega
      have P6:=hT9.mlt.2;have z3:¬s3.next=s9.next:=oO;have z4:¬s9.next=s3.next:=oO;have z5:¬s1.next=s9.next:=by have:=hA3.mlt;omega
      have h35:s3.next<s5.next:=oO
      (repeat' (first|apply qS|(refine zE ?_;intro J hJ;simp[f82,fi,fn,ZS,YQ];(refine zJ hJ ?_;clear hJ J))))
      (refine zS [] [s1.next,s3.next] [0,2,4,6,8,10,12,14,20,22,16,18,24,26,29] ?_;intro J hJ;simp[f4,f9,f16,hMT,hMB])
      refine qD (pair v x _) sS ?_;rintro r s10 ⟨rfl,Q6⟩;rw[Q6];clear Q6 s10;refine⟨fun h=>by first|(cases h;done)|exact fun _ _=>rfl|simp,?_⟩
      (apply aV;simp[hMT,hMB,hX])
      refine qD (hdarts _) (by simp;exact hXn) ?_;rintro r s10 ⟨rfl,Q6⟩;rw[Q6];clear Q6 s10;refine⟨fun h=>by first|(cases h;done)|exact fun _ _=>rfl|simp,?_⟩;rcases hgq with⟨X4,Zi⟩|⟨t,Zi⟩
      .rw[Zi]at K8;simp only[Option.map_none]at K8
       (apply aV;simp[hMT,hMB,hX,K8,hD1,hD2,z3,z4,z5];(refine zJ hJ ?_;clear hJ J))
       skip
       have Zk:=Zk s9.next;rw[X4]at Zk;simp only[us,aBz,List.nil_append,List.length_nil,aBt]at Zk;refine v8 _ _ (by simp[fi]) (by simp[fn]) ⟨⟨by simp[f1],by simp[f2],by simp[f4],by simp[f9],by simp[f55],by simp[f56],by simp[f57],by simp[f14],by simp[f73]⟩,⟨by simp[f74],by simp[f75],by simp[f16],by simp[f82]⟩,(hk9.trans (aA.new _ _)).set (aAi _) _,by simp;omega,fun l q1 q2=>?_,_,hT9.put (k:=[v]) (t:=s9.next) (n:=D.length) (c:=us D) ⟨aAi _,sS⟩ sS hn39 oO (by simp[rmV]) (by simp[z4]) (fun l hl r9 _=>by simp[show ¬l=s9.next by omega,r9]),Zk,fun y hy=>?_⟩
       .rw[bN,aAa oO,cB,aAa oO];exact hW l q1 q2
       .rcases oR hT9.nd y hy with rfl|⟨hy,_⟩
        .exact .inr hn9
        .exact hTW9 y hy
      .rw[Zi]at K8;simp only[Option.map_some]at K8;unfold rmV at K8;simp only at K8;obtain⟨g1,g2,g3,g4⟩:=hT9.tok _ (mJ Zi);simp only at g1 g2 g3 g4;have y5:¬s3.next=t:=fun e=>by rw[<- e,hMT]at g4;cases g4
       have y6:¬t=s3.next:=fun e=>y5 e.symm;have y1:¬t=s9.next:=oO;have y2:¬s9.next=t:=oO;have z6:¬s1.next=t:=by have:=hA3.mlt.2;omega
       have hD3:((dS v Tq).length+D.length)*4<=140737488355328:=oO;have O3:(dS v Tq).length+D.length<=maxLen:=by unfold maxLen;omega
       (apply aV;simp[hMT,hMB,hX,K8,hD1,hD2,z3,z4,z5,z6,y1,y2,y5,y6,g1,g4,hD3,O3];(refine zJ hJ ?_;clear hJ J))
       skip
       refine v8 _ _ (by simp[fi]) (by simp[fn]) ⟨⟨by simp[f1],by simp[f2],by simp[f4],by simp[f9],by simp[f55],by simp[f56],by simp[f57],by simp[f14],by simp[f73]⟩,⟨by simp[f74],by simp[f75],by simp[f16],by simp[f82]⟩,((hk9.set g2 _).trans (aA.new _ _)).set (aAi _) _,by simp;omega,fun l q1 q2=>?_,_,hT9.put (k:=[v]) (t:=s9.next) (n:=(dS v Tq).length+D.length) (c:=us (dS v Tq)++us D) ⟨aAi _,sS⟩ sS hn39 oO (by simp[rmV]) (by simp[z4]) (fun l hl r9 hx=>?_),Zk s9.next,fun y hy=>?_⟩
       .have:=hTW9 _ (mJ Zi);simp only at this;rw[bN,aAa oO,cB,aAa (by simp;omega),bN,aAa oO];exact hW l q1 q2
       .have:=hx _ Zi;simp only at this;simp[show ¬l=s9.next by omega,r9,this]
       .rcases oR hT9.nd y hy with rfl|⟨hy,_⟩
        .exact .inr hn9
        .exact hTW9 y hy
     .rintro fr s10 ⟨⟨f1,f2,f4,f9,f55,f56,f57,f14,f73⟩,⟨f74,f75,f16,f82⟩,hTI2⟩;rw[aAQ]at hTI2
      skip
      exact hJ1 _ _ (by simp[f75]) (by simp[f74]) ⟨⟨by simp[f1],by simp[f2],by simp[f4],by simp[f9],by simp[f55],by simp[f56],by simp[f57],by simp[f14],by simp[f73]⟩,hTI2⟩
    .rintro fr s9 ⟨⟨f1,f2,f4,f9,f55,fn,fi,f14,f73⟩,hk9,hn9,_,A9,hT9,hR9,_⟩;rw[aAQ]at hR9
     skip
     exact hJO _ _ (by simp[fi]) (by simp[fn]) ⟨by simp[f1],by simp[f2],by simp[f4],by simp[f9],by simp[f55],hk9,_,A9,hE,hT9,hR9,o5⟩
  .clear f1 f2 f4 f25 hoT fr;rintro fr s4 ⟨f1,f2,f4,f9,f55,Yh,T,A2,hE,hT,hR,htot⟩;rw[List.drop_length]at hE;obtain rfl:some T=oT:=aBb hE;simp only at ho;by_cases hg1:∀ v∈g.vs,(dS v T).length<=1000
   case neg=>rw[aAa hg1]at ho;cases ho
   rw[aAe hg1]at ho;obtain rfl:some _=o:=aBb ho;have hO4:=(Yh.H (st.next+1) oO).trans hO3;have U7:=(Yh.H st.next oO).trans hG3
   (repeat' (first|apply qS|(refine zE ?_;intro J hJ;simp[f1,U7,f9])))
   refine qE (Td g s3.next (rmL A2) (fun v=>dS v T) s4 hv oO hT.mlt.2 hT.map fun v Q4=>?_) (by simp[grL]) ?_
   .rw[uJ];rcases hR.get (v:=v)with⟨h1,h2⟩|⟨t,h2⟩
    .refine⟨_,0,rfl,?_,hg1 v Q4⟩;rw[h2,h1];rfl
    .refine⟨_,t,rfl,?_,hg1 v Q4⟩;rw[h2];rfl
   rintro r s5 ⟨rfl,V4⟩;have hO5:=(V4.H (st.next+1) (by have:=Yh.next;omega)).trans hO4
   (repeat' (first|(refine qR (zZ ?_);simp[f2,hO5])|(apply aD;simp[f2,hO5];(refine zJ hJ ?_;clear hJ J))))
   refine⟨?_,((hKt.trans Yh).trans V4).set oO _⟩;rw[<- aBf];simp only[BJ,z0,z0L,HY,zA,z0m,mpL,grL,aAA,List.cons_append,List.nil_append,dU]
end Aw
namespace Aw
open Go Go.RowKit Pl Eu
theorem HR{R S:Int->Int->Prop}(hR:Eqv R)(hS:Eqv S)(h:∀ x y,R x y->S x y){l:List Int}{v0:Int}:∀(vs:List Int),v0∈l->(∀ v∈vs,v∈l/\S v0 v)->(v0::vs).Pairwise (fun x y=>¬R x y)->ncl S l+vs.length<=ncl R l
 |[],_,_,_=>by simpa using uL (R:=R) (S:=S) (l:=l) fun x _ y _=>h x y
 |v::vs,h0,hv,hp=>by
  obtain⟨p1,p2⟩:=aBc.1 hp;obtain⟨p3,p4⟩:=aBc.1 p2;obtain⟨v1,v2⟩:=hv v aAq;have e:=vL hR (p1 v aAq) h0 v1;have:=HR (R:=Eu.Mg R v0 v) (S:=S) (Mg.eqv hR _ _) hS (fun x y k=>Mg.le hS v2 h k) (l:=l) (v0:=v0) vs h0 (fun w hw=>hv w (aAk _ hw)) (aBc.2 ⟨?_,?_⟩)
  .rw[List.length_cons];omega
  .rintro w hw (k|⟨_,k⟩|⟨k,_⟩)
   .exact p1 w (aAk _ hw) k
   .exact p3 w hw k
   .exact p1 v aAq k
  .refine p4.imp_of_mem fun {x y} hx hy YH k=>?_;rcases k with k|⟨k1,k2⟩|⟨k1,k2⟩
   .exact YH k
   .exact p3 y hy k2
   .exact p3 x hx (hR.symm k1)
theorem Na(vs:List Int):∀(Ls:List (List Ed)) (es0:List Ed),(∀ l∈Ls,(vsF l≠[])/\(∀ v∈vsF l,v∈vs)/\∀ u∈vsF l,∀ v∈vsF l,Reach l u v)->(∀ A l B,Ls=A++l::B->∀ u∈vsF l,∀ v∈vsF l,Reach (es0++A.flatten) u v->u=v)->
 ncl (Reach (es0++Ls.flatten)) vs+(Ls.map fun l=>(vsF l).length).sum<=ncl (Reach es0) vs+Ls.length
 |[],es0,_,_=>by simp
 |l::Ls,es0,h1,h2=>by
  obtain⟨k1,k2,k3⟩:=h1 l aAq;have ih:=Na vs Ls (es0++l) (fun l hl=>h1 l (aAk _ hl)) fun A l' B e u hu v hv k=>h2 (l::A) l' B (by rw[e];rfl) u hu v hv (by simpa using k);obtain⟨v0,V,hV⟩:=aCl k1;have hz:=h2 [] l Ls rfl;rw[List.flatten_nil,aAP]at hz
  have st:=HR (R:=Reach es0) (S:=Reach (es0++l)) (fM _) (fM _) (fun x y k=>k.mono fun x hx=>aAw _ hx) (l:=vs) (v0:=v0) V (k2 v0 (by rw[hV];exact aAq))
   (fun v hv=>⟨k2 v (by rw[hV];exact aAk _ hv),(k3 v0 (by rw[hV];exact aAq) v (by rw[hV];exact aAk _ hv)).mono fun x hx=>aAI _ hx⟩) (by
     rw[<- hV];refine(kR l).imp_of_mem fun {u v} hu hv huv k=>?_;have:=hz u hu v hv k
     omega)
  have hl:(vsF l).length=V.length+1:=by rw[hV];rfl
  rw[List.flatten_cons,<- aAF,aAj,List.sum_cons,List.length_cons];omega
theorem Rl{es:List Ed}{u v:Int}(h:Reach es u v):v=u\/∃ e∈es,(e.a=u\/e.b=u)/\RIn es (·≠u) (oth e u) v:=by
 induction h with
 |refl=>exact .inl rfl
 |@step y z h hz ih=>
  by_cases hzu:z=u
  .exact .inl hzu
  right;rcases ih with rfl|⟨e,he,h1,h2⟩
  .obtain⟨i,hi,e⟩:=Ek hz;have h1:=aU.1 hi;refine⟨_,nN h1.1,h1.2,?_⟩;rw[e];exact .refl hzu
  .exact⟨e,he,h1,.step h2 hz hzu⟩
theorem RIn.emono{es es':List Ed}(hs:∀ x∈es,x∈es'){S:Int->Prop}{x y:Int}(h:RIn es S x y):RIn es' S x y:=by
 induction h with
 |refl h=>exact .refl h
 |step _ hz J5 ih=>refine .step ih ?_ J5;rw[cU]at hz ⊢;obtain⟨x,hx,h⟩:=hz;exact⟨x,hs x hx,h⟩
theorem RIn.reach{es:List Ed}{S:Int->Prop}{x y:Int}(h:RIn es S x y):Reach es x y:=by
 induction h with
 |refl=>exact .refl
 |step _ hz _ ih=>exact .step ih hz
section
variable {g:Gr} (hg:GoodE g)
include hg
theorem sL{B:List Nat}{v:Int}(h:v∈vsF (esB g.es B)):∃ i∈B,(eAt g.es i).a=v\/(eAt g.es i).b=v:=by obtain⟨e,he,k⟩:=(bJ _ _).1 h;obtain⟨i,hi,rfl⟩:=aAm.1 he;exact⟨i,hi,k.imp Eq.symm Eq.symm⟩
theorem dJ.reach{B:List Nat}(h:dJ g.es B){u v:Int}(hu:u∈vsF (esB g.es B))(hv:v∈vsF (esB g.es B)):Reach (esB g.es B) u v:=by obtain⟨i,hi,iu⟩:=sL hg hu;obtain⟨j,hj,jv⟩:=sL hg hv;exact(h.con hg (max u v+1) hi (h.rel i hi j hj) u v iu jv oO oO).reach
theorem dJ.cut{B:List Nat}(h:dJ g.es B){es:List Ed}(T8:∀ e∈es,∃ j,j<g.es.length/\j∉B/\e=eAt g.es j){u v:Int}(hu:u∈vsF (esB g.es B))(hv:v∈vsF (esB g.es B))(hr:Reach es u v):u=v:=by
 obtain⟨i,hi,iu⟩:=sL hg hu;obtain⟨k,hk,kv⟩:=sL hg hv;rcases Rl hr with e|⟨e,he,h1,h2⟩
 .exact e.symm
 refine aAL fun Wx=>?_;obtain⟨j,hj,hjB,rfl⟩:=T8 e he;have a:=(h.con hg u hi (h.rel i hi k hk) _ v (lT _ u) kv (sX hg (aU.2 ⟨h.lt i hi,iu⟩)) fun k=>Wx k.symm).up h.lt;have b:=h2.emono (es':=g.es) fun x hx=>by obtain⟨l,hl,_,rfl⟩:=T8 x hx;exact nN hl
 exact hjB (h.all i hi j hj ⟨u,iu,h1,a.trans b.symm⟩)
end
theorem Ji(es:List Ed):(eZ es).Nodup:=by unfold eZ List.Nodup;rw[aAU];refine(aBN.sublist aBq).imp_of_mem fun {i j} hi hj hij e=>?_;rw[aAz,aAO]at hi hj;have:=hi.2;rw[e,hj.2]at this;omega
theorem Bq{g:Gr}(hg:GoodE g):ncl (Reach g.es) g.vs+((aZ g).map fun l=>(vsF l).length).sum<=g.vs.length+(aZ g).length:=by
 have B6:=hg.simple;have hall:∀ B∈eZ (sE g.es),dJ (sE g.es) B:=fun B hB=>kW B6 hB;have hf:=Na g.vs (aZ g) [] (fun l hl=>?_) fun A l B e u hu v hv k=>?_
 .rw[Jh (fun x y=>CX) hg.toGood.nodup,List.nil_append]at hf
  suffices key:∀ x y,Reach (aZ g).flatten x y->Reach g.es x y from aBh (Nat.add_le_add_right (uL fun x _ y _ k=>key x y k) _) hf
  intro x y k;induction k with
  |refl=>exact .refl
  |step _ hz ih=>rw[cU]at hz;obtain⟨x,hx,h⟩:=hz;obtain⟨l,hl,hx⟩:=aAZ.1 hx;refine .step ih ?_;rw[cU];exact⟨x,(mH hg hl).2 x hx,h⟩
 .unfold aZ at hl;obtain⟨B,hB,rfl⟩:=aAm.1 hl;have hB:=hall B hB;refine⟨?_,fun v hv=>?_,fun u hu v hv=>hB.reach B6 hu hv⟩
  .obtain⟨i,hi⟩:=aBp _ hB.ne;exact aCc ((bJ _ _).2 ⟨_,aAx hi,.inl rfl⟩)
  .obtain⟨i,hi,h⟩:=sL B6 hv;have:=B6.ends _ (nN (hB.lt i hi));rcases h with rfl|rfl
   .exact this.1
   .exact this.2
 .unfold aZ at e;obtain⟨A',R,e1,rfl,e2⟩:=aEn.1 e;obtain⟨B0,R',rfl,rfl,e3⟩:=aED.1 e2;have P2:B0∈eZ (sE g.es):=by rw[e1];simp
  have hn:=Ji (sE g.es);rw[e1,aAs]at hn;refine(hall B0 P2).cut B6 (fun x hx=>?_) hu hv k;rw[List.nil_append]at hx;obtain⟨l,hl,hx⟩:=aAZ.1 hx;obtain⟨B',X6,rfl⟩:=aAm.1 hl;obtain⟨j,hj,rfl⟩:=aAm.1 hx;have hB'':=hall B' (by rw[e1];simp[X6]);refine⟨j,hB''.lt j hj,fun hj0=>?_,rfl⟩;exact hn.2.2 B' X6 B0 sS (dJ.eq (g:=⟨g.vs,sE g.es⟩) hB'' (hall B0 P2) hj hj0)
structure Tc(E:List Ed):Prop where
 ids:E.Pairwise fun x y=>x.id<y.id
 ne:∀ e∈E,e.a≠e.b
 sim:(E.map prE).Nodup
 con:∀ w p q,p∈vsF E->q∈vsF E->p≠w->q≠w->RIn E (·≠w) p q
 two:2<=E.length
 few:(vsF E).length<=64/\E.length<=200
theorem mW{es:List Ed}{v w:Int}:w∈cR es v↔∃ e∈es,prE e=prP v w:=by
 rw[Lm];constructor
 .rintro⟨x,hx,⟨h1,h2⟩|⟨h1,h2⟩⟩
  .exact⟨x,hx,by show prP _ _=_;rw[h1,h2]⟩
  .exact⟨x,hx,by show prP _ _=_;rw[h1,h2];exact bL _ _⟩
 .rintro⟨x,hx,h⟩;rcases cG h with⟨h1,h2⟩|⟨h1,h2⟩
  .exact⟨x,hx,.inl ⟨h1,h2⟩⟩
  .exact⟨x,hx,.inr ⟨h1,h2⟩⟩
theorem FC{es:List Ed}{v w:Int}:w∈nbr es v↔∃ e∈es,prE e=prP v w:=by
 rw[cU];constructor
 .rintro⟨x,hx,⟨h1,h2⟩|⟨h1,h2⟩⟩
  .exact⟨x,hx,by show prP _ _=_;rw[h1,h2]⟩
  .exact⟨x,hx,by show prP _ _=_;rw[h1,h2];exact bL _ _⟩
 .rintro⟨x,hx,h⟩;rcases cG h with⟨h1,h2⟩|⟨h1,h2⟩
  .exact⟨x,hx,.inl ⟨h1,h2⟩⟩
  .exact⟨x,hx,.inr ⟨h2,h1⟩⟩
theorem map_inj{α β:Type}{F:α->β}:∀ {l:List α},(l.map F).Nodup->∀ {e f:α},e∈l->f∈l->F e=F f->e=f
 |a::l,h0,e,f,he,hf,h=>by
  rw[aAj,aAD]at h0;rcases aAf.1 he with a1|a1
  .rcases aAf.1 hf with b1|b1
   .rw[a1,b1]
   .exact absurd (by rw[<- a1,h];exact aAx b1) h0.1
  .rcases aAf.1 hf with b1|b1
   .exact absurd (by rw[<- b1,<- h];exact aAx a1) h0.1
   .exact map_inj h0.2 a1 b1 h
section
variable {E:List Ed} (hT:Tc E)
include hT
theorem Tc.sim_eq{e f:Ed}(he:e∈E)(hf:f∈E)(h:prE e=prE f):e=f:=map_inj hT.sim he hf h
theorem Tc.start{x:Ed}{R:List Ed}(hE:E=x::R):∃ h,newF ⟨vsF E,E⟩=some h/\Drn E h:=by
 have hx:x∈E:=by rw[hE];exact aAq
 have YA:=hT.ne x hx;have va:x.a∈vsF E:=(bJ _ _).2 ⟨x,hx,.inl rfl⟩;have vb:x.b∈vsF E:=(bJ _ _).2 ⟨x,hx,.inr rfl⟩;have M7:∀ v,∀ w∈cR (E.filter fun y=>decide (y≠x)) v,w∈vsF E:=fun v w hw=>by obtain⟨e,he,hp⟩:=mW.1 hw;exact(iT (aAz.1 he).1 hp).2
 obtain⟨c,hc,hca,hcb⟩:∃ c∈vsF E,c≠x.a/\c≠x.b:=by
  have h2:=hT.two;obtain⟨y,R',hR⟩:∃ y R',R=y::R':=by
   cases R with
   |nil=>rw[hE]at h2;simp at h2
   |cons y R'=>exact⟨y,R',rfl⟩
  have hy:y∈E:=by rw[hE,hR];simp
  have YX:y≠x:=fun e=>by have:=hT.ids;rw[hE,hR]at this;have:=(aBc.1 this).1 y sS;rw[e]at this;omega
  have hyn:=hT.ne y hy;refine aAL fun YI=>YX (hT.sim_eq hy hx ?_);have ya:y.a=x.a\/y.a=x.b:=aAL fun k=>YI ⟨y.a,(bJ _ _).2 ⟨y,hy,.inl rfl⟩,fun e=>k (.inl e),fun e=>k (.inr e)⟩;have yb:y.b=x.a\/y.b=x.b:=aAL fun k=>YI ⟨y.b,(bJ _ _).2 ⟨y,hy,.inr rfl⟩,fun e=>k (.inl e),fun e=>k (.inr e)⟩;show prP _ _=prP _ _;rcases ya with a1|a1<;>rcases yb with b1|b1
  .omega
  .rw[a1,b1]
  .rw[a1,b1];exact bL _ _
  .omega
 have along:∀ S:Int->Prop,UI (cR (E.filter fun y=>decide (y≠x))) (fun _=>true) x.a S->∀ w,(w=x.a\/w=x.b)->∀ p q,RIn E (·≠w) p q->S p->S q:=by
  intro S hS w hw p q h hp;induction h with
  |refl=>exact hp
  |@step y z h hz hs ih=>
   obtain⟨e,he,Zb⟩:=FC.1 hz;have hy:=h.here.2;have hex:e≠x:=fun ex=>by
    rw[ex]at Zb;rcases cG Zb with⟨k1,k2⟩|⟨k1,k2⟩
    .rcases hw with e1|e1
     .exact hy (by rw[e1,k1])
     .exact hs (by rw[e1,k2])
    .rcases hw with e1|e1
     .exact hs (by rw[e1,k1])
     .exact hy (by rw[e1,k2])
   exact hS.2 y ih (.inr rfl) z (mW.2 ⟨e,aAz.2 ⟨he,aBy hex⟩,Zb⟩)
 obtain⟨w,h1,h2,h3,h4,h5,h6,h7,h8,h9⟩:=Je (may:=fun _=>true) M7 va vb YA (n:=1000) (by have:=hT.few.1;omega) fun S hS=>along S hS x.a (.inl rfl) c x.b (hT.con _ _ _ hc vb hca (fun e=>YA e.symm)) (along S hS x.b (.inr rfl) x.a c (hT.con _ _ _ va hc YA hcb) hS.1);have hs:=wO h3;rw[h6,h7]at hs;have YI:∀ e∈E.filter fun y=>decide (y≠x),prE e≠prP x.a x.b:=fun e he k=>by rw[aAz,aAO]at he;exact he.2 (hT.sim_eq he.1 hx k)
 cases hM:eT w with
 |nil=>rw[hM,List.nil_append]at hs;obtain⟨e,he,k⟩:=mW.1 (h8 x.a x.b (by rw[hs];simp[lnk]));exact absurd k (YI e he)
 |cons m M=>
  rw[hM]at hs;refine⟨⟨kF (kF [] w) [x.a,x.b],w++[x.a,x.b],[w,w.reverse]⟩,?_,Drn.start hx hs h2 fun u v huv=>?_⟩
  .have hh:newF ⟨vsF E,E⟩=(uO (vsF E) (cR (E.filter fun y=>decide (y≠x))) (fun _=>true) x.a x.b 1000).bind fun ring=>
    if ring.length<=200/\∀ v∈ring,v∈vsF E then some ⟨kF (kF [] ring) [x.a,x.b],ring++[x.a,x.b],[ring,ring.reverse]⟩else none:=by
    unfold newF;rw[hE]
   rw[hh,h1,Option.bind_some,aAe ⟨by have:=hT.few.1;omega,h5⟩]
  .obtain⟨e,he,k⟩:=mW.1 (h8 u v huv);exact⟨e,(aAz.1 he).1,k⟩
end
theorem iJ{A B:List Int}{v:Int}:v∈off A B↔v∈A/\v∉B:=by unfold off;simp
theorem Eb{A B:List Int}{v:Int}:v∈on' A B↔v∈A/\v∈B:=by unfold on';simp
theorem lF{vs A:List Int}{v:Int}:v∈nrS vs A↔v∈vs/\v∈A:=by unfold nrS;simp
theorem Dg{g:Gr}{A:List Int}{v:Int}:v∈arn g A↔∃ u∈A,v∈nbr g.es u:=by unfold arn;rw[aAT]
structure Brd(E:List Ed)(L:List (Int×Int))(on:List Int)(b:Brg):Prop where
 en:∀ v∈b.ends,v∈on/\v∈vsF E
 kind:(b.inner=[]/\∃ e∈E,prE e∉L/\b.ends=[e.a,e.b])\/
  (b.inner≠[]/\(∀ v∈b.inner,v∈vsF E/\v∉on)/\(∀ p∈b.inner,∀ q∈b.inner,RIn E (·∈b.inner) p q)/\(∀ p∈b.inner,∀ q∈nbr E p,q∈b.inner\/q∈b.ends)/\∀ q∈b.ends,∃ p∈b.inner,q∈nbr E p)
section
variable {E:List Ed} {on:List Int}
theorem Ta{p q:Int}(h:q∈nbr E p):q∈vsF E:=by obtain⟨e,he,k⟩:=FC.1 h;exact(iT he k).2
theorem Kf(v:Int)(hv:v∈vsF E)(hvo:v∉on)(L:List (Int×Int)):∀(n:Nat) (I:List Int),I.Nodup->v∈I->(∀ p∈I,p∈vsF E/\p∉on)->(∀ p∈I,RIn E (·∈I) v p)->(vsF E).length+1<=n+I.length->
 ∃ b,xH ⟨vsF E,E⟩ on n I=some b/\Brd E L on b/\v∈b.inner
 |0,I,hn,_,hI,_,hl=>by have:=aAC hn fun p hp=>(hI p hp).1;omega
 |n+1,I,hn,hvI,hI,hc,hl=>by
  unfold xH
  split
  .rename_i Yc;refine⟨_,rfl,⟨fun q hq=>?_,.inr ⟨aCc hvI,hI,fun p hp q hq=>(hc p hp).symm.trans (hc q hq),fun p hp q hq=>?_,fun q hq=>?_⟩⟩,hvI⟩
   .have h:=Eb.1 hq;exact⟨h.2,(lF.1 h.1).1⟩
   .have hqv:=Ta hq;have hqa:q∈nrS (vsF E) (arn ⟨vsF E,E⟩ I):=lF.2 ⟨hqv,Dg.2 ⟨p,hp,hq⟩⟩;by_cases h1:q∈on
    .exact .inr (Eb.2 ⟨hqa,h1⟩)
    .by_cases h2:q∈I
     .exact .inl h2
     .have:q∈off (off (nrS (vsF E) (arn ⟨vsF E,E⟩ I)) on) I:=iJ.2 ⟨iJ.2 ⟨hqa,h1⟩,h2⟩;rw[Yc]at this;cases this
   .have h:=Eb.1 hq;obtain⟨p,hp,k⟩:=Dg.1 (lF.1 h.1).2;exact⟨p,hp,k⟩
  .rename_i Yc;obtain⟨u,hu⟩:=aBp _ Yc;have W6:=iJ.1 hu;have hvsn:(vsF E).Nodup:=(kR E).imp fun k=>by omega
   have mem':∀ q,q∈nrS (vsF E) (I++off (nrS (vsF E) (arn ⟨vsF E,E⟩ I)) on)↔q∈vsF E/\(q∈I\/(q∈arn ⟨vsF E,E⟩ I/\q∉on)):=fun q=>by
    rw[lF,aAg,iJ,lF];constructor
    .rintro⟨h1,h2|h2⟩
     .exact⟨h1,.inl h2⟩
     .exact⟨h1,.inr ⟨h2.1.2,h2.2⟩⟩
    .rintro⟨h1,h2|h2⟩
     .exact⟨h1,.inl h2⟩
     .exact⟨h1,.inr ⟨⟨h1,h2.1⟩,h2.2⟩⟩
   have Yv:∀ q∈I,q∈nrS (vsF E) (I++off (nrS (vsF E) (arn ⟨vsF E,E⟩ I)) on):=fun q hq=>(mem' q).2 ⟨(hI q hq).1,.inl hq⟩;have E6:(nrS (vsF E) (I++off (nrS (vsF E) (arn ⟨vsF E,E⟩ I)) on)).Nodup:=hvsn.sublist aBq;refine Kf v hv hvo L n _ E6 (Yv v hvI) (fun p hp=>?_) (fun p hp=>?_) ?_
   .obtain⟨h1,h2⟩:=(mem' p).1 hp;exact⟨h1,h2.elim (fun k=>(hI p k).2) And.right⟩
   .have mono:∀ z,RIn E (·∈I) v z->RIn E (·∈nrS (vsF E) (I++off (nrS (vsF E) (arn ⟨vsF E,E⟩ I)) on)) v z:=fun z h=>h.mono Yv;obtain⟨h1,h2⟩:=(mem' p).1 hp;rcases h2 with h2|h2
    .exact mono _ (hc p h2)
    .obtain⟨q,hq,k⟩:=Dg.1 h2.1;exact .step (mono _ (hc q hq)) k hp
   .have hul:u∈nrS (vsF E) (I++off (nrS (vsF E) (arn ⟨vsF E,E⟩ I)) on):=(mem' u).2 ⟨(lF.1 (iJ.1 W6.1).1).1,.inr ⟨(lF.1 (iJ.1 W6.1).1).2,(iJ.1 W6.1).2⟩⟩;have:=aAC (aAD.2 ⟨W6.2,hn⟩) (l₂:=nrS (vsF E) (I++off (nrS (vsF E) (arn ⟨vsF E,E⟩ I)) on)) fun q hq=>by
     rcases aAf.1 hq with rfl|hq
     .exact hul
     .exact Yv q hq
    rw[List.length_cons]at this;show(vsF E).length+1<=n+(nrS (vsF E) (I++off (nrS (vsF E) (arn ⟨vsF E,E⟩ I)) on)).length;omega
theorem Kt(L:List (Int×Int)):∀(n:Nat) (R:List Int),(∀ v∈R,v∈vsF E/\v∉on)->R.length<=n->∃ l,rX ⟨vsF E,E⟩ on n R=some l/\(∀ b∈l,Brd E L on b)/\l.length<=R.length
 |n,[],_,_=>⟨[],by cases n<;>rfl,sS,sS⟩
 |0,v::R,_,h=>by simp at h
 |n+1,v::R,hR,h=>by
  obtain⟨hv,hvo⟩:=hR v aAq;obtain⟨b,h1,h2,h3⟩:=Kf (E:=E) v hv hvo L ((vsF E).length+1) [v] sS sS (fun p hp=>by rw[aAl.1 hp];exact⟨hv,hvo⟩) (fun p hp=>by rw[aAl.1 hp];exact .refl sS) sS;have dN:(off (v::R) b.inner).length<=R.length:=by unfold off;rw[aDC,aAa (by simp[h3])];exact aBe _ _
  obtain⟨l,k1,k2,k3⟩:=Kt L n (off (v::R) b.inner) (fun p hp=>hR p (iJ.1 hp).1) (by rw[List.length_cons]at h;omega);have e:rX ⟨vsF E,E⟩ on (n+1) (v::R)=(xH ⟨vsF E,E⟩ on ((vsF E).length+1) [v]).bind fun b=>(rX ⟨vsF E,E⟩ on n (off (v::R) b.inner)).map (b::·):=rfl;refine⟨b::l,by rw[e,h1,Option.bind_some,k1];rfl,fun c hc=>?_,by rw[List.length_cons,List.length_cons];omega⟩;rcases aAf.1 hc with rfl|hc
  .exact h2
  .exact k2 c hc
theorem Ra(L:List (Int×Int)):∃ B,Lg ⟨vsF E,E⟩ L on=some B/\(∀ b∈B,Brd E L on b)/\B.length<=E.length+(vsF E).length:=by
 have hlen:(off (vsF E) on).length<=(vsF E).length:=aBe _ _;obtain⟨l,h1,h2,h3⟩:=Kt (E:=E) (on:=on) L ((vsF E).length+1) (off (vsF E) on) (fun v hv=>iJ.1 hv) oO;refine⟨oM ⟨vsF E,E⟩ L on E++l,?_,fun b hb=>?_,?_⟩
 .unfold Lg;show(rX ⟨vsF E,E⟩ on ((vsF E).length+1) (off (vsF E) on)).map _=_;rw[h1];rfl
 .rcases aAg.1 hb with hb|hb
  .unfold oM at hb;obtain⟨e,he,rfl⟩:=aAm.1 hb;rw[aAz]at he;simp only[aAS,aBX]at he;refine⟨fun v hv=>?_,.inl ⟨rfl,e,he.1,he.2.1.1,rfl⟩⟩;rcases aAf.1 hv with rfl|hv
   .exact⟨he.2.1.2,(bJ _ _).2 ⟨e,he.1,.inl rfl⟩⟩
   .rw[aAl.1 hv];exact⟨he.2.2,(bJ _ _).2 ⟨e,he.1,.inr rfl⟩⟩
  .exact h2 b hb
 .have:(oM ⟨vsF E,E⟩ L on E).length<=E.length:=by unfold oM;rw[aAA];exact aBe _ _
  rw[aAh];omega
end
theorem Nf{vs S:List Int}(h:∃ v∈vs,v∈S):fst' vs S<vs.length/\vs.getD (fst' vs S) 0∈S:=by obtain⟨v,h1,h2⟩:=h;have hl:fst' vs S<vs.length:=List.findIdx_lt_length_of_exists ⟨v,h1,by simpa using h2⟩;refine⟨hl,?_⟩;have:=aDM (w:=hl);rw[aAc,aAd hl];exact aBY this
theorem Oq(b:Brg)(F:List (List Int)):(gS b F.zipIdx).1<0\/∃ k:Nat,(gS b F.zipIdx).1=k/\k<F.length/\∀ v∈b.ends,v∈F.getD k []:=by
 have key:∀(l:List (List Int×Nat)) (p:Int×Int),(∀ q∈l,q.2<F.length/\F.getD q.2 []=q.1)->(p.1<0\/∃ k:Nat,p.1=k/\k<F.length/\∀ v∈b.ends,v∈F.getD k [])->
  ((l.foldl (oG b) p).1<0\/∃ k:Nat,(l.foldl (oG b) p).1=k/\k<F.length/\∀ v∈b.ends,v∈F.getD k []):=by
  intro l;induction l with
  |nil=>intro p _ h;exact h
  |cons q l ih=>
   intro p hl hp;rw[List.foldl_cons];refine ih _ (fun r hr=>hl r (aAk _ hr)) ?_;obtain⟨q1,q2⟩:=hl q aAq;unfold oG;by_cases e:off b.ends q.1=[]
   .rw[aAe e];by_cases e2:p.2=0
    .rw[aAe e2];refine .inr ⟨q.2,rfl,q1,fun v hv=>?_⟩;rw[q2];refine aAL fun YI=>?_;have:v∈off b.ends q.1:=iJ.2 ⟨hv,YI⟩;rw[e]at this;cases this
    .rw[aAa e2];exact hp
   .rw[aAa e];exact hp
 refine key F.zipIdx (-1,0) (fun q hq=>?_) (.inl sS);obtain⟨r,k⟩:=q;have:=List.mem_zipIdx hq;simp only[aBr,aBt,Nat.sub_zero,true_and]at this;refine⟨this.1,?_⟩;rw[aAc,aAd this.1];exact this.2.symm
section
variable {E:List Ed} (hT:Tc E)
include hT
def Chn(E:List Ed)(h:Sh)(r:Brg×Int):Prop:=(∀ v∈r.1.ends,v∈vsF E)/\(r.2<0\/Brd E h.L h.on r.1/\∃ k:Nat,r.2=k/\k<h.F.length/\∀ v∈r.1.ends,v∈h.F.getD k [])
omit hT in
theorem DJ{h:Sh}:∀(B:List Brg) (Zw:Brg×Int),(∀ b∈B,Brd E h.L h.on b)->Chn E h Zw->Chn E h (cS h.F B Zw)
 |[],Zw,_,hb=>hb
 |b::B,Zw,hB,hb=>by
  have h1:=hB b aAq;have hg:Chn E h (b,(gS b h.F.zipIdx).1):=⟨fun v hv=>(h1.en v hv).2,(Oq b h.F).imp id fun k=>⟨h1,k⟩⟩;unfold cS
  split
  .exact hg
  .refine DJ B _ (fun c hc=>hB c (aAk _ hc)) ?_
   split
   .exact hg
   .exact hb
omit hT in
theorem Drn.two{h:Sh}(hD:Drn E h)(Wx:∀ e∈E,e.a≠e.b):∃ u v,u∈h.on/\v∈h.on/\u≠v:=by
 cases hL:h.L with
 |nil=>
  have hon:∀ v,v∉h.on:=fun v hv=>by obtain⟨u,_,k⟩:=(hD.on v).1 hv;rw[hL]at k;cases k
  have h1:=hD.cnt;rw[hL,aDe.2 fun v _=>by simpa using hon v]at h1;cases hF:h.F with
  |nil=>rw[hF]at h1;simp at h1
  |cons r F=>
   have hr:r∈h.F:=by rw[hF];exact aAq
   obtain⟨v,hv⟩:=aBp _ (hD.ne r hr);exact absurd (hD.ring_on hr hv) (hon v)
 |cons p L=>
  obtain⟨e,he,rfl⟩:=hD.sub p (by rw[hL];exact aAq);have hp:prE e∈h.L:=by rw[hL];exact aAq
  have:=Wx e he;exact⟨e.a,e.b,(hD.on _).2 ⟨e.b,fun k=>this k.symm,by rw[bL];exact hp⟩,(hD.on _).2 ⟨e.a,this,hp⟩,this⟩
omit hT in
theorem Drn.link_on{h:Sh}(hD:Drn E h){x y:Int}(YH:x≠y)(hm:prP x y∈h.L):x∈h.on/\y∈h.on:=
 ⟨(hD.on x).2 ⟨y,fun e=>YH e.symm,by rw[bL];exact hm⟩,(hD.on y).2 ⟨x,YH,hm⟩⟩
theorem Nn{h:Sh}(hD:Drn E h){b:Brg}(hb:Brd E h.L h.on b):∃ u v,u∈b.ends/\v∈b.ends/\u≠v:=by
 rcases hb.kind with⟨_,e,he,_,k⟩|⟨h0,h1,h2,h3,h4⟩
 .exact⟨e.a,e.b,by rw[k];simp,by rw[k];simp,hT.ne e he⟩
 refine aAL fun YI=>?_;obtain⟨u,v,hu,hv,huv⟩:=hD.two hT.ne;obtain⟨p,hp⟩:=aBp _ h0;obtain⟨c,hc⟩:∃ c,∀ z∈b.ends,z=c:=by
  cases hE:b.ends with
  |nil=>exact⟨0,sS⟩
  |cons c R=>exact⟨c,fun z hz=>aAL fun k=>YI ⟨z,c,by rw[hE];exact hz,by rw[hE];exact aAq,k⟩⟩
 have key:∀ t,t∈h.on->t≠c->p≠c->False:=fun t ht htc hpc=>by have hr:=hT.con c p t (h1 p hp).1 (hD.on_vs ht) hpc htc;have:=hr.closed (L:=fun z=>z∈b.inner) hp fun z hz w hw hwc=>(h3 z hz w hw).resolve_right fun k=>hwc (hc w k);exact(h1 t this).2 ht
 by_cases hpc:p=c
 ·
  have hno2:∀ z∈b.ends,False:=fun z hz=>by have:=(hb.en z hz).1;rw[hc z hz,<- hpc]at this;exact(h1 p hp).2 this
  have hr:=hT.con (max p u+1) p u (h1 p hp).1 (hD.on_vs hu) oO oO;have:=hr.closed (L:=fun z=>z∈b.inner) hp fun z hz w hw _=>(h3 z hz w hw).resolve_right fun k=>hno2 w k;exact(h1 u this).2 hu
 .by_cases huc:u=c
  .exact key v hv (fun k=>huv (by rw[huc,k])) hpc
  .exact key u hu huc hpc
theorem UE{h:Sh}(hD:Drn E h){b:Brg}(hb:Brd E h.L h.on b):∃ w,ML ⟨vsF E,E⟩ b=some w/\w.Nodup/\2<=w.length/\w.length<=200/\(∀ v∈w,v∈vsF E)/\w.getD 0 0∈b.ends/\w.getD (w.length-1) 0∈b.ends/\(∀ v∈eT w,v∉h.on)/\
 ∀ x y,(x,y)∈lnk w->prP x y∉h.L/\∃ e∈E,prE e=prP x y:=by
 obtain⟨u,v,hu,hv,huv⟩:=Nn hT hD hb;obtain⟨f1,f2⟩:=Nf (vs:=vsF E) (S:=b.ends) ⟨u,(hb.en u hu).2,hu⟩;have T7:CD ⟨vsF E,E⟩ b=(vsF E).getD (fst' (vsF E) b.ends) 0:=rfl;rw[<- T7]at f2;have h2e:∃ z∈vsF E,z∈kV ⟨vsF E,E⟩ b:=by
  unfold kV;by_cases k:u=CD ⟨vsF E,E⟩ b
  .exact⟨v,(hb.en v hv).2,by rw[aAz];exact⟨hv,by simpa using fun e=>huv (by rw[k,e])⟩⟩
  .exact⟨u,(hb.en u hu).2,by rw[aAz];exact⟨hu,by simpa using k⟩⟩
 obtain⟨g1,g2⟩:=Nf h2e;have hto:toW ⟨vsF E,E⟩ b=(vsF E).getD (fst' (vsF E) (kV ⟨vsF E,E⟩ b)) 0:=rfl;rw[<- hto]at g2;unfold kV at g2;rw[aAz,aAO]at g2;have hw:ML ⟨vsF E,E⟩ b=if nrS (vsF E) b.inner=[]then some [CD ⟨vsF E,E⟩ b,toW ⟨vsF E,E⟩ b]else uO (vsF E) (cR (sA ⟨vsF E,E⟩ b.inner).es) (inW (vsF E) b.inner) (CD ⟨vsF E,E⟩ b) (toW ⟨vsF E,E⟩ b) 1000:=by unfold ML;rw[aAe ⟨f1,g1⟩]
 rw[hw];generalize CD ⟨vsF E,E⟩ b=fr at *;generalize toW ⟨vsF E,E⟩ b=to at *;have hen1:=hb.en fr f2;have hen2:=hb.en to g2.1;have Wx:fr≠to:=fun e=>g2.2 e.symm;rcases hb.kind with⟨h0,e,he,heL,ZM⟩|⟨h0,h1,h2,h3,h4⟩
 .have p8:nrS (vsF E) b.inner=[]:=by rw[h0];unfold nrS;simp
  rw[aAe p8];refine⟨_,rfl,by simpa using Wx,sS,sS,?_,by simpa using f2,by simpa using g2.1,by simp[eT],fun x y YH=>?_⟩
  .intro z hz;rcases aAf.1 hz with rfl|hz
   .exact hen1.2
   .rw[aAl.1 hz];exact hen2.2
  .simp only[lnk,aAl,aAV]at YH;obtain⟨rfl,rfl⟩:=YH;have k1:=f2;have k2:=g2.1;rw[ZM]at k1 k2;simp at k1 k2;have hp:prE e=prP x y:=by
    show prP e.a e.b=_;rcases k1 with rfl|rfl
    .rcases k2 with rfl|rfl
     .exact absurd rfl Wx
     .rfl
    .rcases k2 with rfl|rfl
     .exact bL _ _
     .exact absurd rfl Wx
   exact⟨by rw[<- hp];exact heL,e,he,hp⟩
 .obtain⟨p0,hp0⟩:=aBp _ h0;have p8:nrS (vsF E) b.inner≠[]:=aCc (lF.2 ⟨(h1 p0 hp0).1,hp0⟩);rw[aAa p8];have Xt:∀ v∈vsF E,inW (vsF E) b.inner v=decide (v∈b.inner):=fun v hv=>by unfold inW LJ;rw[aAe hv]
  have hpart:∀ e,e∈(sA ⟨vsF E,E⟩ b.inner).es↔e∈E/\(e.a∈b.inner\/e.b∈b.inner):=fun e=>by
   show e∈E.filter _↔_;rw[aAz];constructor
   .rintro⟨k1,k2⟩;rw[Xt _ ((bJ _ _).2 ⟨e,k1,.inl rfl⟩),Xt _ ((bJ _ _).2 ⟨e,k1,.inr rfl⟩)]at k2;exact⟨k1,by simpa using k2⟩
   .rintro⟨k1,k2⟩;rw[Xt _ ((bJ _ _).2 ⟨e,k1,.inl rfl⟩),Xt _ ((bJ _ _).2 ⟨e,k1,.inr rfl⟩)];exact⟨k1,by simpa using k2⟩
  have hnr:∀ x y,(x∈b.inner\/y∈b.inner)->y∈nbr E x->y∈cR (sA ⟨vsF E,E⟩ b.inner).es x:=fun x y YH hn=>by
   obtain⟨e,he,k⟩:=FC.1 hn;refine mW.2 ⟨e,(hpart e).2 ⟨he,?_⟩,k⟩;rcases cG k with⟨k1,k2⟩|⟨k1,k2⟩
   .rw[k1,k2];exact YH
   .rw[k1,k2];exact YH.symm
  have W7:∀ x y,y∈cR (sA ⟨vsF E,E⟩ b.inner).es x->(∃ e∈E,prE e=prP x y)/\(x∈b.inner\/y∈b.inner):=fun x y hn=>by
   obtain⟨e,he,k⟩:=mW.1 hn;obtain⟨he,hi⟩:=(hpart e).1 he;refine⟨⟨e,he,k⟩,?_⟩;rcases cG k with⟨k1,k2⟩|⟨k1,k2⟩
   .rw[k1,k2]at hi;exact hi
   .rw[k1,k2]at hi;exact hi.symm
  obtain⟨w,w1,w2,w3,w4,w5,w6,w7,w8,w9⟩:=Je (may:=inW (vsF E) b.inner) (fun x y hy=>by obtain⟨⟨e,he,k⟩,_⟩:=W7 x y hy;exact(iT he k).2) hen1.2 hen2.2 Wx (n:=1000) (by have:=hT.few.1;omega) fun S hS=>by
   obtain⟨p,hp,kp⟩:=h4 fr f2;obtain⟨q,hq,kq⟩:=h4 to g2.1;have sp:S p:=hS.2 fr hS.1 (.inl rfl) p (hnr fr p (.inr hp) (qH kp));have sq:q∈b.inner/\S q:=(h2 p hp q hq).closed (L:=fun z=>z∈b.inner/\S z) ⟨hp,sp⟩ fun z hz y hy hyi=>by obtain⟨hzi,hz⟩:=hz;exact⟨hyi,hS.2 z hz (.inr (by rw[Xt z (h1 z hzi).1];simpa using hzi)) y (hnr z y (.inl hzi) hy)⟩
   exact hS.2 q sq.2 (.inr (by rw[Xt q (h1 q hq).1];simpa using hq)) to (hnr q to (.inl hq) kq)
  refine⟨w,w1,w2,w3,by have:=hT.few.1;omega,w5,by rw[w6];exact f2,by rw[w7];exact g2.1,fun z hz=>?_,fun x y YH=>?_⟩
  .have k:=w9 z hz;rw[Xt z (w5 z (qA hz))]at k;exact(h1 z (by simpa using k)).2
  .obtain⟨k1,k2⟩:=W7 x y (w8 x y YH);refine⟨fun hm=>?_,k1⟩;obtain⟨o1,o2⟩:=hD.link_on ((gY w2).2 x y YH).1 hm;rcases k2 with k2|k2
   .exact(h1 x k2).2 o1
   .exact(h1 y k2).2 o2
end
theorem RC(l:List Int):(nrm l).Perm l:=by unfold nrm rt;exact aBR.trans (by rw[aAH])
theorem XJ(l:List Int):nrm (nrm l)=nrm l:=by
 by_cases h:l=[]
 .subst h;rfl
 .obtain⟨r,hr⟩:=FZ l h;have hm:mn (nrm l)=mn l:=NG ((RC l).mem_iff.2 (pP h)) fun x hx=>GG ((RC l).mem_iff.1 hx);exact xJ hr hm
theorem Sb{A B:List Int}(hn:(A++B).Nodup){x:Int}(hx:x∈A++B):nx (B++A) x=nx (A++B) x:=by
 by_cases hA:A=[]
 .subst hA;simp
 by_cases hB:B=[]
 .subst hB;simp
 have E6:(B++A).Nodup:=aBR.nodup_iff.1 hn;rcases aAg.1 hx with h|h
 .rw[(uY hn hA hB).1 h,(uY E6 hB hA).2 h]
 .rw[(uY hn hA hB).2 h,(uY E6 hB hA).1 h]
theorem UN{l:List Int}(hn:l.Nodup){x:Int}(hx:x∈l):nx (nrm l) x=nx l x:=by have e:l.take (l.idxOf (mn l))++l.drop (l.idxOf (mn l))=l:=aAH _ _;have:=Sb (A:=l.take (l.idxOf (mn l))) (B:=l.drop (l.idxOf (mn l))) (by rw[e];exact hn) (x:=x) (by rw[e];exact hx);rw[e]at this;exact this
theorem Mv{g:Gr}(hg:GoodE g):((eZ g.es).flatten).Nodup/\∀ i,i∈(eZ g.es).flatten↔i<g.es.length:=by
 have j8:∀ B∈eZ g.es,dJ g.es B:=fun B hB=>kW hg hB;constructor
 .have:=kN (f:=fun B:List Nat=>B) (Ji g.es) (fun B hB=>(j8 B hB).rise.imp fun k=>aBs k) fun B hB B' X6 i h1 h2=>(j8 B hB).eq (g:=g) (j8 B' X6) h1 h2
  rwa [List.flatMap_def,List.map_id']at this
 .intro i;rw[aAZ];constructor
  .rintro⟨B,hB,hi⟩;exact(j8 B hB).lt i hi
  .intro hi;obtain⟨s,_,_,h2,_,h3⟩:=rK hg;obtain⟨B,hB,hiB⟩:=aAZ.1 ((h2 i).2 hi);have z9:=h3 B hB;have hh:=head_mem z9.ne;refine⟨B,?_,hiB⟩;unfold eZ;rw[z9.cls hh];refine aAm.2 ⟨B.headD 0,?_,rfl⟩;rw[aAz,aAX,aAO,<- z9.cls hh];exact⟨z9.lt _ hh,rfl⟩
theorem gZ{g:Gr}(hg:GoodE g):((aZ g).flatten).Perm (sE g.es):=by
 have B6:=hg.simple;obtain⟨h1,h2⟩:=Mv B6;have hp:(eZ (sE g.es)).flatten.Perm (List.range (sE g.es).length):=(aBk h1 aDH).2 fun i=>by rw[h2,aAX]
 have e:(aZ g).flatten=(eZ (sE g.es)).flatten.map (eAt (sE g.es)):=by unfold aZ;rw[aEe]
 have e2:(List.range (sE g.es).length).map (eAt (sE g.es))=sE g.es:=by refine aCO sS fun i h1 h2=>?_;simp only[aCn,List.getElem_range];exact cV _ _ h2
 rw[e]
 conv=>rhs;rw[<- e2]
 exact hp.map _
theorem Tr{g:Gr}(hg:GoodE g)(hv:∀ v∈g.vs,0<=v/\v<4194304){Bs:BsT}(hb:Bs.map (·.1)=aZ g)(hd:∀ p∈Bs,iX p.1 p.2):Sys g Bs:=by
 have Xt:∀ p∈Bs,p.1∈aZ g:=fun p hp=>by rw[<- hb];exact aAx (f:=(·.1)) hp
 have F5:(Bs.flatMap (·.1)).Perm (sE g.es):=by rw[List.flatMap_def,hb];exact gZ hg
 refine⟨hg,fun p hp=>⟨hd p hp,⟨(mH hg (Xt p hp)).1.ne,?_,fun v h=>?_⟩,?_⟩,F5⟩
 .have h1:=(F5.map prE).nodup_iff.2 (AV g.es);rw[aEd]at h1;have:∀ {l:BsT},(l.flatMap fun p=>p.1.map prE).Nodup->∀ p∈l,(p.1.map prE).Nodup:=by
   intro l;induction l with
   |nil=>intro _ p h;cases h
   |cons a l ih=>
    intro hn p h;rw[aAJ,aAs]at hn;rcases aAf.1 h with rfl|h
    .exact hn.1
    .exact ih hn.2.1 p h
  exact this h1 p hp
 .obtain⟨e,he,k⟩:=(bJ v _).1 h;have:=hg.ends e ((mH hg (Xt p hp)).2 e he);rcases k with rfl|rfl
  .exact hv _ this.1
  .exact hv _ this.2
 .have:=Xt p hp;unfold aZ at this;obtain⟨B,hB,e⟩:=aAm.1 this;rw[<- e];intro h0;exact(kW hg.simple hB).ne (aCS.1 h0)
abbrev Bz(g:Gr)(Bs:BsT):Mp:=⟨g,g.vs.map fun v=>nrm (jV g Bs v)⟩
theorem Py(A B:List (List Int)):fK (A++B)=fK A+fK B:=by unfold fK;rw[aBu,aAh]
theorem Ja(Bs:BsT)(f:List Ed×List (List Int)->Int->List Int)(hz:∀ p∈Bs,∀ v,v∉vsF p.1->f p v=[]):∀ vs:List Int,vs.Nodup->fK ((vs.map fun v=>Bs.map fun p=>f p v).flatten)<=(Bs.map fun p=>(vs.filter fun v=>decide (v∈vsF p.1)).length).sum
 |[],_=>by simp[fK]
 |v::vs,hn=>by
  have ih:=Ja Bs f hz vs (aAD.1 hn).2;rw[aAj,List.flatten_cons,Py];have key:∀ l:BsT,(∀ p∈l,p∈Bs)->fK (l.map fun p=>f p v)+(l.map fun p=>(vs.filter fun v=>decide (v∈vsF p.1)).length).sum<=(l.map fun p=>((v::vs).filter fun v=>decide (v∈vsF p.1)).length).sum:=by
   intro l;induction l with
   |nil=>intro _;simp[fK]
   |cons p l ihl=>
    intro hl;have i1:=ihl fun q hq=>hl q (aAk _ hq);have e:fK ((p::l).map fun p=>f p v)=(if f p v≠[]then 1 else 0)+fK (l.map fun p=>f p v):=by
     unfold fK;rw[aAj,aDC];by_cases h:f p v=[]
     .simp[h]
     .simp[h];omega
    rw[e];simp only[aAj,List.sum_cons];by_cases h:v∈vsF p.1
    .have e2:((v::vs).filter fun v=>decide (v∈vsF p.1)).length=(vs.filter fun v=>decide (v∈vsF p.1)).length+1:=by simp[h]
     rw[e2]
     split<;>omega
    .have e2:((v::vs).filter fun v=>decide (v∈vsF p.1)).length=(vs.filter fun v=>decide (v∈vsF p.1)).length:=by simp[h]
     rw[e2,aAa (by simp[hz p (hl p aAq) v h])];omega
  have:=key Bs fun _ h=>h;omega
section
variable {g:Gr} {Bs:BsT} (hS:Sys g Bs)
include hS
theorem Sys.map_ok:cP (Bz g Bs):=by
 refine⟨hS.gE,sS,fun k hk=>?_⟩;have ZA:k<(g.vs.map fun v=>nrm (jV g Bs v)).length:=by simpa using hk
 have e:(Bz g Bs).rots.getD k []=nrm (jV g Bs (g.vs.getD k 0)):=by show(g.vs.map fun v=>nrm (jV g Bs v)).getD k []=_;rw[dA _ _ ZA,aCn,aN _ _ hk]
 rw[e];exact⟨(RC _).trans (hS.turn_perm _),XJ _⟩
theorem Sys.sg_eq(d:Int):sg (Bz g Bs) d=sgR ((grp g Bs).map List.flatten) d:=by
 have hm:=hS.map_ok;have hn:((grp g Bs).map List.flatten).flatten.Nodup:=by rw[lA];exact hS.grp_nd
 by_cases hd:d∈aS g.es
 .obtain⟨t,ht,L0⟩:=hm.turn_of hd;rw[Cb hm ht L0];obtain⟨v,hv,rfl⟩:=aAm.1 ht;have hdv:d∈jV g Bs v:=(RC _).mem_iff.1 L0;rw[UN (hS.turn_nodup v) hdv,fD hn (t:=jV g Bs v) (by rw[FE];exact aAx hv) hdv]
 .rw[hm.sg_id hd,lR];rw[lA];exact fun h=>hd (hS.grp_mem.1 h)
theorem Sys.plane(hb:Bs.map (·.1)=aZ g):gn (Bz g Bs)=0:=by
 have hg:=hS.gE;have hm:=hS.map_ok;have h1:=hm.gn;have h2:=hS.faces;have hn:((grp g Bs).map List.flatten).flatten.Nodup:=by rw[lA];exact hS.grp_nd
 have h3:=QZ (al:=al g.es) (D:=aS g.es) ⟨QS g.es,fun d hd=>(Ds _ _ _).2 hd⟩ (fun d hd=>nG hd) (grp g Bs) (Rs:=[]) (by rw[aAP];exact hS.grp_nd) (fun d hd=>hS.grp_mem.1 (by rwa [aAP]at hd));rw[aAP,aAP]at h3;have h4:ncl (Orb (fc (Bz g Bs) g.es)) (aS g.es)=fcs (al g.es) (aS g.es) ((grp g Bs).map List.flatten):=by
  unfold fcs;have:fc (Bz g Bs) g.es=fun d=>sgR ((grp g Bs).map List.flatten) (al g.es d):=by
   funext d;unfold fc;exact hS.sg_eq _
  rw[this]
 have h5:fK ((grp g Bs).map List.flatten)+alone g=g.vs.length:=by
  have k1:=hm.ncl_sg;have k2:=Jl hn;have hp:(aS g.es).Perm ((grp g Bs).map List.flatten).flatten:=(aBk (kB (tE hg.ids)) hn).2 fun d=>by rw[lA];exact hS.grp_mem.symm
  have e:sg (Bz g Bs)=sgR ((grp g Bs).map List.flatten):=funext hS.sg_eq;rw[e]at k1;have k3:ncl (Orb (sgR ((grp g Bs).map List.flatten))) (aS g.es)=fK ((grp g Bs).map List.flatten):=by rw[mI (kC hn).per.eqv hp];exact k2
  have k4:ncl (Orb (sgR ((grp g Bs).map List.flatten))) (aS g.es)+alone g=g.vs.length:=k1;rw[k3]at k4;exact k4
 have h6:fK (grp g Bs).flatten<=((aZ g).map fun l=>(vsF l).length).sum:=by
  refine aBh (Ja Bs (fun p v=>bt g p.2 v) (fun p hp v hv=>?_) g.vs hg.toGood.nodup) ?_
  .obtain⟨hO,hE,_⟩:=hS.ok p hp;show bt g p.2 v=[];unfold bt;rw[nD hO hE hv,mX];rfl
  .rw[<- hb,aBf];have:∀ l:BsT,(l.map fun p=>(g.vs.filter fun v=>decide (v∈vsF p.1)).length).sum<=(l.map ((fun l=>(vsF l).length)∘fun p=>p.1)).sum:=by
    intro l;induction l with
    |nil=>simp
    |cons p l ih=>
     rw[aAj,aAj,List.sum_cons,List.sum_cons];have:(g.vs.filter fun v=>decide (v∈vsF p.1)).length<=(vsF p.1).length:=by refine aAC (hg.toGood.nodup.sublist aBq) fun v hv=>?_;rw[aAz,aAO]at hv;exact hv.2
     simp only[Function.comp_apply];omega
   exact this Bs
 have h7:=Bq hg;have h8:(Bs.flatMap (·.2)).length+((aZ g).map fun l=>(vsF l).length).sum=(sE g.es).length+2*(aZ g).length:=by
  rw[<- (gZ hg).length_eq,<- hb];have:∀ l:BsT,(∀ p∈l,p∈Bs)->(l.flatMap (·.2)).length+((l.map (·.1)).map fun l=>(vsF l).length).sum=(l.map (·.1)).flatten.length+2*(l.map (·.1)).length:=by
   intro l;induction l with
   |nil=>intro _;rfl
   |cons p l ih=>intro hl;have i1:=ih fun q hq=>hl q (aAk _ hq);have i2:=(hS.ok p (hl p aAq)).1.cnt;simp only[aAJ,aAj,List.sum_cons,List.flatten_cons,aAh,List.length_cons]at i1 ⊢;omega
  exact this Bs fun _ h=>h
 have h9:(sE g.es).length<=g.es.length:=nR g.es;have e1:(Bz g Bs).g=g:=rfl;rw[e1,h4]at h1;omega
end
theorem JQ(m:Mp)(st:St)(hv:m.g.vs.length<=1000)(he:m.g.es.length<=1000)(hr:m.rots.length<=1000):
 aB prog 51 [.ag (mpL m)] st fun r st'=>r=i (rR m)/\aA st st':=by
 refine zN func51 ntmps51 [.tmp 2] ?_
 (repeat' (first|apply qS|(refine zE ?_;intro J hJ;simp[];(try refine zJ hJ ?_))))
 refine qE (CL m.g _ hv he) sS ?_;rintro r s1 ⟨rfl,Xn⟩;have YZ:=Xn.next;simp only[aF]at YZ;have ZW:s1.H st.next=.box 39 3 (mpL m):=by rw[Xn.H _ sS];simp
 have J6:aA st s1:=(aA.new _ _).trans Xn;by_cases hc:chk m.g=0;rotate_left
 .have r8:=OP hc;generalize chk m.g=x at *
  (repeat' (first|apply qS|(refine qR (zZ ?_);simp[hc,r8])|(apply qC;simp[hc,r8])|((first|(refine zE ?_;intro J hJ)|(apply aD));simp[hc,r8];refine zJ hJ ?_)))
  exact J6
 have hgd:=jU hc;have hid:MT m.g.es:=fun x hx=>by have:=hgd.pos x hx;omega
 by_cases hl:m.rots.length=m.g.vs.length;rotate_left
 .have r8:=HA hc hl
  (repeat' (first|apply qS|refine qK (zZ ?_)|(refine qR (zZ ?_);simp[hc,r8,ZW,hl])|(apply qC;simp[hc,r8,ZW,hl];(try with_reducible refine⟨?_,?_⟩)<;>(try with_reducible intro hc)<;>try (exfalso;omega))|((first|(refine zE ?_;intro J hJ)|(apply aD));simp[hc,r8,ZW,hl];refine zJ hJ ?_)))
  exact J6
 (repeat' (first|apply qS|apply qB|refine qK (zZ ?_)|(apply qC;simp[hc,ZW,hl])|((first|(refine zE ?_;intro J hJ)|(apply aD));simp[hc,ZW,hl];refine zJ hJ ?_)))
 refine bE 28 27 29 65 (m.g.vs.length) (fun j fr st2=>fr 1=.pt st.next 0/\fr 26=.sl 0 m.g.vs.length (us m.g.vs)/\st2.H st.next=.box 39 3 (mpL m)/\aA st st2/\st.next<st2.next/\∀ k,k<j->rok m k) ?_ ?_ ?_
 .exact⟨sS,sS,ZW,J6,oO,fun k hk=>by omega⟩
 .rintro j0 fr st2 dN ⟨f1,f26,hG,Xm,p9,j8⟩ fi fn JJ hJJ;have hd:=qG m.g.vs j0 dN;have YQ:=kQ m.rots j0 oO;have hRl:j0<(dU m.rots).length:=by simp;omega
  have htin:m.rots.getD j0 []∈m.rots:=by rw[dA _ _ oO];exact aAu _
  have Yb:=fun h=>FT hc dN h;have YK:rok m j0->∀ k,k<j0+1->rok m k:=fun h k hk=>by
   rcases aAB k j0 with h1|h1
   .exact j8 k h1
   .obtain rfl:k=j0:=oO;exact h
  have hok1:rok m j0↔(m.rots.getD j0 []).Perm (ends m.g.es (m.g.vs.getD j0 0))/\nrm (m.rots.getD j0 [])=m.rots.getD j0 []:=Iff.rfl;have hel:(ends m.g.es (m.g.vs.getD j0 0)).length<=2*m.g.es.length:=tL _ (uE _) _;have M0:=wV hgd.ids (m.g.vs.getD j0 0);generalize rok m j0=OK at *;generalize m.rots.getD j0 []=t at *;generalize m.g.vs.getD j0 0=v at *
  (repeat' (first|apply qS|(refine zE ?_;intro J hJ;simp[f1,f26,fi,fn,hd,dN,hG,YQ,hRl,hl];(try refine zJ hJ ?_))))
  refine qE (Gh m.g v _ he hid) sS ?_;rintro r s3 ⟨⟨te,rfl⟩,Xq⟩;have hn3:=Xq.next;have hG3:=(Xq.H st.next oO).trans hG;have hK3:=Xm.trans Xq;generalize ends m.g.es v=E at *;by_cases h1:t.length=E.length;rotate_left
  .have r8:=Yb fun h=>h1 (hok1.1 h).1.length_eq;have h1b:((t.length:Int) != (E.length:Int))=true:=by simp;omega
   (repeat' (first|apply qS|(refine qR (zZ ?_);simp[h1b,h1,r8])|(apply qC;simp[h1b,h1,r8])|((first|(refine zE ?_;intro J hJ)|(apply aD));simp[h1b,h1,r8];refine zJ hJ ?_)))
   exact hK3
  (repeat' (first|apply qS|((first|(refine zE ?_;intro J hJ)|(apply aD));simp[h1];(try refine zJ hJ ?_))))
  refine qE (Ae t 0 _ (by unfold small;omega)) (by simp[h1]) ?_;rintro r s4 ⟨rfl,Yh⟩;have C5:=Yh.next;have U7:=(Yh.H st.next oO).trans hG3;have hK4:=hK3.trans Yh;have Xl:=cE t
  (repeat' (apply aD;simp[]))
  refine qE (Fi t (nrm t) 0 0 _ (by unfold small;omega)) (by simp[h1,Xl]) ?_;rintro r s5 ⟨rfl,rfl⟩;by_cases h2:t=nrm t;rotate_left
  .have r8:=Yb fun h=>h2 (hok1.1 h).2.symm
   (repeat' (first|apply qS|(refine qR (zZ ?_);simp[h2,r8])|(apply qC;simp[h2,r8])|((first|(refine zE ?_;intro J hJ)|(apply aD));simp[h2,r8];refine zJ hJ ?_)))
   exact hK4
  have I5:decide (t=nrm t)=true:=by simpa using h2
  rw[I5]
  (repeat' (first|apply qS|apply qB|refine qK (zZ ?_)|(apply qC;simp[])|((first|(refine zE ?_;intro J hJ)|(apply aD));simp[];refine zJ hJ ?_)))
  refine bE 56 55 57 64 (E.length) (fun j fr st2=>fr 1=.pt st.next 0/\fr 26=.sl 0 m.g.vs.length (us m.g.vs)/\fr 28=i j0/\fr 27=i m.g.vs.length/\fr 6=.sl 0 t.length (us t)/\fr 54=.sl te E.length (us E)/\st2=s5/\∀ k,k<j->E.getD k 0∈t) ?_ ?_ ?_
  .exact⟨by simp[f1],by simp[f26],by simp[fi],by simp[fn],by simp[h1],sS,rfl,fun k hk=>by omega⟩
  .clear f1 f26 fi fn fr;rintro k fr st6 hk ⟨f1,f26,f28,f27,f6,f54,rfl,hall⟩ fi fn J2 v8;have hd3:=qG E k hk;have Xt:E.getD k 0∈E:=by rw[aN _ _ hk];exact aAu _
   generalize hx:E.getD k 0=x at *
   (repeat' (first|apply qS|(refine zE ?_;intro J hJ;simp[f54,f6,fi,fn,hd3,hk];(try refine zJ hJ ?_))))
   refine qE (Uc t 0 x _ (by unfold small;omega)) (by simp[h1]) ?_;rintro r s7 ⟨rfl,rfl⟩;by_cases Y6:x∈t
   .have hg:=sF Y6
    (repeat' (first|refine qK (zZ ?_)|(apply qC;simp[hg];(try with_reducible refine⟨?_,?_⟩)<;>(try with_reducible intro hc)<;>try (exfalso;omega))|(apply aD;simp[hg];refine zJ hJ ?_)))
    refine v8 _ _ (by simp[fi]) (by simp[fn]) ⟨by simp[f1],by simp[f26],by simp[f28],by simp[f27],by simp[f6],by simp[f54],rfl,fun q hq=>?_⟩;rcases aAB q k with h3|h3
    .exact hall q h3
    .obtain rfl:q=k:=oO;rw[hx];exact Y6
   .have hg:=At Y6;have r8:=Yb fun h=>Y6 ((hok1.1 h).1.mem_iff.2 Xt)
    (repeat' (first|apply qS|(refine qR (zZ ?_);simp[hg,r8])|(apply qC;simp[hg,r8])|((first|(refine zE ?_;intro J hJ)|(apply aD));simp[hg,r8];refine zJ hJ ?_)))
    exact hK4
  .clear f1 f26 fi fn fr;rintro fr st6 ⟨f1,f26,f28,f27,f6,f54,rfl,hall⟩
   skip
   refine hJJ _ _ (by simp[f28]) (by simp[f27]) ⟨by simp[f1],by simp[f26],U7,hK4,oO,YK (hok1.2 ⟨?_,h2.symm⟩)⟩;refine(xC (kB M0) (fun x hx=>?_) oO).symm;obtain⟨q,hq,rfl⟩:=aAy hx;have:=hall q hq
   rwa [aN _ _ hq]at this
 .rintro fr st2 ⟨f1,f26,hG,Xm,p9,j8⟩;have r8:=Kj hc hl j8
  (repeat' (first|apply qS|(refine qR (zZ ?_);simp[r8])|(refine zE ?_;intro J hJ;simp[r8];refine zJ hJ ?_)))
  exact Xm
noncomputable def oB(m:Mp):Int:=if rR m≠0 then rR m else if gn m≠0 then 23 else 0
theorem Ir(m:Mp)(st:St)(hv:m.g.vs.length<=1000)(he:m.g.es.length<=1000)(hr:m.rots.length<=1000):
 aB prog 21 [.ag (mpL m)] st fun r st'=>r=i (oB m)/\aA st st':=by
 refine zN func21 ntmps21 [.tmp 2] ?_
 (repeat' (first|apply qS|(refine zE ?_;intro J hJ;simp[];(try refine zJ hJ ?_))))
 refine qE (JQ m _ hv he hr) sS ?_;rintro r s1 ⟨rfl,Xn⟩;have YZ:=Xn.next;simp only[aF]at YZ;have ZW:s1.H st.next=.box 39 3 (mpL m):=by rw[Xn.H _ sS];simp
 have J6:aA st s1:=(aA.new _ _).trans Xn;by_cases hc:rR m=0;rotate_left
 .have r8:oB m=rR m:=by unfold oB;rw[aAe hc]
  generalize rR m=x at *;have hcb:(x==0)=false:=by simpa using hc
  (repeat' (first|apply qS|refine qK (zZ ?_)|(refine qR (zZ ?_);simp[hcb,hc,r8])|(apply qC;simp[hcb,hc,r8])|((first|(refine zE ?_;intro J hJ)|(apply aD));simp[hcb,hc,r8];refine zJ hJ ?_)))
  exact J6
 (repeat' (first|apply qS|((first|(refine zE ?_;intro J hJ)|(apply aD));simp[hc,ZW];(try refine zJ hJ ?_))))
 refine qE (VA m (Mi hc).2 _ hv he) sS ?_;rintro r s2 ⟨rfl,Xx⟩;by_cases hg:gn m=0
 .have r8:oB m=0:=by unfold oB;rw[aAa (fun e=>e hc),aAa (fun e=>e hg)]
  (repeat' (first|apply qS|refine qK (zZ ?_)|(refine qR (zZ ?_);simp[hg,r8])|(apply qC;simp[hg,r8])|((first|(refine zE ?_;intro J hJ)|(apply aD));simp[hg,r8];refine zJ hJ ?_)))
  exact J6.trans Xx
 .have r8:oB m=23:=by unfold oB;rw[aAa (fun e=>e hc),aAe hg]
  generalize gn m=x at *;have Ys:¬(2*(x:Int)=0):=oO
  (repeat' (first|apply qS|(refine qR (zZ ?_);simp[Ys,hg,r8])|(apply qC;simp[Ys,hg,r8])|((first|(refine zE ?_;intro J hJ)|(apply aD));simp[Ys,hg,r8];refine zJ hJ ?_)))
  exact J6.trans Xx
theorem BX{E:List Ed}:∀ {l:List (Int×Int)},l.Nodup->(∀ p∈l,∃ e∈E,prE e=prP p.1 p.2)->l.length<=2*E.length:=by
 intro l hn h;have hl:(E.flatMap fun e=>[(e.a,e.b),(e.b,e.a)]).length=2*E.length:=by
  clear h;induction E with
  |nil=>rfl
  |cons e E ih=>simp only[aAJ,aAh,List.length_cons,List.length_nil]at ih ⊢;omega
 rw[<- hl];refine aAC hn fun p hp=>?_;obtain⟨e,he,k⟩:=h p hp;refine aAT.2 ⟨e,he,?_⟩;rcases cG k with⟨k1,k2⟩|⟨k1,k2⟩
 .rw[k1,k2];simp
 .rw[k1,k2];simp
section
variable {E:List Ed} (hT:Tc E)
include hT
omit hT in
theorem Drn.L_le{h:Sh}(hD:Drn E h):h.L.length<=E.length:=by
 have:=aAC hD.lnd (l₂:=E.map prE) fun p hp=>by obtain⟨e,he,rfl⟩:=hD.sub p hp;exact aAx he
 rwa [aAA]at this
omit hT in
theorem Drn.ring_le{h:Sh}(hD:Drn E h){r:List Int}(hr:r∈h.F):r.length<=2*E.length:=by
 rw[<- qJ r];have hn:=hD.nd;refine BX ?_ fun p hp=>?_
 .unfold PF at hn;rw[List.flatMap_def]at hn;exact(aBA (aAx (f:=prs) hr)).nodup hn
 .obtain⟨_,k⟩:=(hD.mem p.1 p.2).1 (fX.2 ⟨r,hr,hp⟩);exact hD.sub _ k
theorem NX{h:Sh}(hD:Drn E h):HL ⟨vsF E,E⟩ h=some none\/∃ h',HL ⟨vsF E,E⟩ h=some (some h')/\Drn E h'/\h.L.length<h'.L.length:=by
 obtain⟨B,b1,b2,b3⟩:=Ra (E:=E) (on:=h.on) h.L;have hc:Chn E h (cS h.F B (⟨[],[]⟩,-1)):=DJ B _ b2 ⟨sS,.inl sS⟩;have hfew:=hT.few;unfold HL;rw[b1,Option.bind_some,aAe ⟨fun b hb v hv=>((b2 b hb).en v hv).2,oO,hc.1⟩];generalize cS h.F B (⟨[],[]⟩,-1)=r at *;by_cases Ya:r.2<0
 .rw[aAe Ya];exact .inl rfl
 rw[aAa Ya];obtain⟨hb,k,hk,P8,c8⟩:=hc.2.resolve_left Ya;have hkn:r.2.toNat=k:=oO;rw[hkn];obtain⟨w,w1,w2,w3,w4,w5,w6,w7,w8,w9⟩:=UE hT hD hb;have hrin:h.F.getD k []∈h.F:=by rw[aAc,aAd P8];exact aAu _
 have Z3:=hD.ring_le hrin;have hLl:=hD.L_le;have hcnt:=hD.cnt;have hlay:KV ⟨vsF E,E⟩ h k w:=⟨P8,w3,w4,w5,oO,c8 _ w6,c8 _ w7,oO⟩;rw[w1,Option.bind_some,aAe hlay];refine .inr ⟨_,rfl,hD.lay P8 w3 w2 (c8 _ w6) (c8 _ w7) w8 w9,?_⟩;have hL:(rO h w k).L=h.L++iV w:=by
  have:(rO h w k).L=kF h.L w:=rfl;rw[this];exact mM _ _ (kK w2) fun p W2=>by rw[gK]at W2;obtain⟨q,hq,rfl⟩:=aAm.1 W2;exact(w9 q.1 q.2 hq).1
 rw[hL,aAh,mQ];omega
theorem Gd:∀(n:Nat) (h:Sh),Drn E h->E.length+1<=n+h.L.length->∃ o,xW ⟨vsF E,E⟩ n h=some o/\∀ h',o=some h'->Drn E h'/\E.length<=h'.L.length
 |0,h,hD,hl=>by have:=hD.L_le;omega
 |n+1,h,hD,hl=>by
  unfold xW;by_cases dN:h.L.length<(⟨vsF E,E⟩:Gr).es.length
  .rw[aAe dN];rcases NX hT hD with hs|⟨h',hs,hD',Yu⟩
   .rw[hs];exact⟨none,rfl,fun h' e=>by cases e⟩
   .rw[hs,Option.bind_some];exact Gd n h' hD' oO
  .rw[aAa dN];refine⟨some h,rfl,fun h' e=>?_⟩;injection e with e;subst e;exact⟨hD,by show E.length<=_;simp only at dN;omega⟩
theorem Nb:∃ o,Aq E=some o/\∀ F,o=some F->iX E F:=by
 have h2:=hT.two;obtain⟨x,y,R,hE⟩:∃ x y R,E=x::y::R:=by
  match E,h2 with
  |x::y::R,_=>exact⟨x,y,R,rfl⟩
 have hd:Aq E=if(vsF E).length<=64/\E.length<=200 then
  if(3:Int)*(vsF E).length-6<E.length then some none
  else(newF ⟨vsF E,E⟩).bind fun h=>(xW ⟨vsF E,E⟩ 1000 h).map fun o=>o.map (·.F)
  else none:=by rw[hE];rfl
 rw[hd,aAe hT.few]
 split
 .exact⟨none,rfl,fun F e=>by cases e⟩
 .obtain⟨h,h1,hD⟩:=hT.start hE;obtain⟨o,h3,h4⟩:=Gd hT 1000 h hD (by have:=hT.few.2;omega);rw[h1,Option.bind_some,h3];refine⟨o.map (·.F),rfl,fun F e=>?_⟩;cases o with
  |none=>cases e
  |some h'=>simp only[Option.map_some,aAb]at e;subst e;obtain⟨hD',hl⟩:=h4 h' rfl;exact hD'.done hT.ne hT.sim hl
end
theorem Kh{g:Gr}(hg:GoodE g)(hv:g.vs.length<=64)(he:g.es.length<=200){l:List Ed}(hl:l∈aZ g):∃ o,Aq l=some o/\∀ F,o=some F->iX l F:=by
 have B6:=hg.simple;obtain⟨Zs,Xt⟩:=mH hg hl;have Yv:∀ v∈vsF l,v∈g.vs:=fun v h=>by
  obtain⟨e,hel,k⟩:=(bJ v l).1 h;have:=hg.ends e (Xt e hel);rcases k with rfl|rfl
  .exact this.1
  .exact this.2
 match l,hl,Zs,Yv with
 |[],hl,_,_=>unfold aZ at hl;obtain⟨B,hB,e⟩:=aAm.1 hl;exact absurd (aCS.1 e) (kW B6 hB).ne
 |[e],_,Zs,_=>exact⟨_,rfl,fun F k=>by injection k with k;subst k;exact Oc (Zs.ne e sS)⟩
 |x::y::R,hl,Zs,Yv=>
  refine Nb ⟨Zs.ids,Zs.ne,?_,?_,sS,?_⟩
  .have h1:=((gZ hg).map prE).nodup_iff.2 (AV g.es);rw[aEe]at h1;exact(aBA (aAx (f:=List.map prE) hl)).nodup h1
  .unfold aZ at hl;obtain⟨B,hB,e⟩:=aAm.1 hl;have z9:=kW B6 hB;intro w p q hp hq hpw hqw;rw[<- e]at hp hq ⊢;obtain⟨i,hi,ip⟩:=sL B6 hp;obtain⟨j,hj,jq⟩:=sL B6 hq;exact z9.con B6 w hi (z9.rel i hi j hj) p q ip jq hpw hqw
  .constructor
   .have:=aAC ((kR (x::y::R)).imp fun k=>by omega) Yv;omega
   .have h1:(x::y::R).length<=(aZ g).flatten.length:=(aBA hl).length_le;have h2:=(gZ hg).length_eq;have h3:=nR g.es;omega
theorem Gb(x y:Int):∀ P,(oQ x y P).length<=P.length+1
 |[]=>by simp[oQ]
 |p::P=>by have:=Gb x y P;unfold oQ;split<;>simp<;>omega
theorem GM(v x y:Int)(n:Nat):∀ A:Tn,(∀ a∈A,a.2.length<=n)->(gN v x y A).length<=A.length+1/\∀ a∈gN v x y A,a.2.length<=n+1
 |[],_=>by simp[gN]
 |a::A,h=>by
  obtain⟨h1,h2⟩:=GM v x y n A fun b hb=>h b (aAk _ hb);unfold gN
  split
  .refine⟨sS,fun b hb=>?_⟩;rcases aAf.1 hb with rfl|hb
   .have:=Gb x y a.2;have:=h a aAq;simp only;omega
   .have:=h b (aAk _ hb);omega
  .refine⟨by simp;omega,fun b hb=>?_⟩;rcases aAf.1 hb with rfl|hb
   .have:=h b aAq;omega
   .exact h2 b hb
theorem QU:∀ T:List (Int×Int×Int),(T.foldl Bk []).length<=T.length/\(∀ a∈T.foldl Bk [],a.2.length<=T.length)/\∀ v∈(T.foldl Bk []).map (·.1),∃ t∈T,t.2.1=v:=by
 intro T;induction T using xA with
 |h0=>simp
 |h1 T t ih=>
  rw[aBo,List.foldl_cons,List.foldl_nil,aAh,List.length_singleton];have:=GM t.2.1 t.1 t.2.2 T.length (T.foldl Bk []) ih.2.1;refine⟨aBh this.1 oO,this.2,?_⟩;have key:∀ A:Tn,∀ v∈(gN t.2.1 t.1 t.2.2 A).map (·.1),v=t.2.1\/v∈A.map (·.1):=by
   intro A;induction A with
   |nil=>intro v hv;simp[gN]at hv;exact .inl hv
   |cons a A ih=>
    intro v hv;unfold gN at hv
    split at hv
    .rw[aAj]at hv ⊢;rcases aAf.1 hv with h|h
     .exact .inl h
     .exact .inr (aAk _ h)
    .rw[aAj]at hv ⊢;rcases aAf.1 hv with h|h
     .exact .inr (by rw[h];exact aAq)
     .exact(ih v h).imp id fun k=>aAk _ k
  intro v hv;rcases key _ v hv with h|h
  .exact⟨t,sS,h.symm⟩
  .obtain⟨s,hs,e⟩:=ih.2.2 v h;exact⟨s,aAw _ hs,e⟩
theorem FH(g:Gr)(v:Int):∀(L:List Int) (T:TL),eV (dL g v L T)=eV T+(L.flatMap (seg g v)).length
 |[],T=>by simp[dL]
 |x::L,T=>by have ih:=FH g v L (oK v (seg g v x) T);have e:dL g v (x::L) T=dL g v L (oK v (seg g v x) T):=rfl;rw[e,ih,uN,aAJ,aAh];omega
theorem GU(g:Gr)(A:Tn)(n:Nat):∀(K:List Int) (T:TL),(∀ v∈K,((bY (dB v A)).flatMap (seg g v)).length<=n)->eV (eS g A K T)<=eV T+K.length*n
 |[],T,_=>by simp[eS]
 |v::K,T,h=>by have ih:=GU g A n K (dL g v (bY (dB v A)) T) fun w hw=>h w (aAk _ hw);have e:eS g A (v::K) T=eS g A K (dL g v (bY (dB v A)) T):=rfl;have h0:=h v aAq;rw[FH]at ih;rw[e,List.length_cons,aBU];omega
end Aw
namespace Aw
open Go Go.RowKit Pl
structure GrF(g:Gr):Prop where
 rise:g.vs.Pairwise (· < ·)
 vpos:∀ v∈g.vs,1<=v/\v<=1048576
 ids:g.es.Pairwise fun x y=>x.id<y.id
 pos:∀ x∈g.es,1<=x.id/\x.id<=1048576
 ne:∀ x∈g.es,x.a≠x.b
 ends:∀ x∈g.es,x.a∈g.vs/\x.b∈g.vs
 l1:g.vs.length<=64
 l2:g.es.length<=160
theorem OC{f:Nat->Int}{n:Nat}(h:bW f n=0):∀ j,j<n->f j=0:=by
 induction n with
 |zero=>intro j hj;omega
 |succ n ih=>
  intro j hj;simp only[bW]at h;by_cases h0:bW f n=0
  .rw[aAa (by simp[h0])]at h;rcases aAB j n with h1|h1
   .exact ih h0 j h1
   .obtain rfl:j=n:=oO;exact h
  .rw[aAe h0]at h;exact absurd h h0
theorem rU(n a:Int)(b:Bool):eK n a b=0↔(1<=n/\n<=1048576)/\(b=false->a<n):=by
 unfold eK;by_cases h1:n<1\/1048576<n
 .rw[aAe h1];constructor
  .intro h;cases h
  .rintro⟨h,_⟩;omega
 .rw[aAa h1];by_cases h2:b=false/\n<=a
  .rw[aAe h2];constructor
   .intro h;cases h
   .rintro⟨_,h⟩;have:=h h2.1;omega
  .rw[aAa h2];refine⟨fun _=>⟨oO,fun hb=>?_⟩,fun _=>rfl⟩;rcases aEQ a n with h3|h3
   .exact h3
   .exact absurd ⟨hb,h3⟩ h2
theorem Ct{l:List Int}(h:∀ j,j<l.length->0<j->l.getD (j-1) 0<l.getD j 0):l.Pairwise (· < ·):=by
 have g:∀ j (hj:j<l.length),l.getD j 0=l[j]:=fun j hj=>by rw[aAc,aAd hj];rfl
 rw[aAG];intro a b ha hb YA;induction b with
 |zero=>omega
 |succ b ih=>
  have h1:=h (b+1) hb oO;rw[aCd,g _ hb,g _ oO]at h1;rcases aAB a b with h2|h2
  .have:=ih oO h2;omega
  .obtain rfl:a=b:=oO;exact h1
theorem gE(l:List Ed)(j:Nat)(hj:j<l.length):l.getD j ed0=l[j]:=by rw[aAc,aAd hj];rfl
theorem Ld(g:Gr)(j:Nat)(x:Ed)(hx:g.es.getD j ed0=x):lB g j=0↔((1<=x.id/\x.id<=1048576)/\(0<j->(g.es.getD (j-1) ed0).id<x.id))/\x.a≠x.b/\x.a∈g.vs/\x.b∈g.vs:=by
 unfold lB;simp only[hx];have h0:=rU x.id (g.es.getD (j-1) ed0).id (decide (j=0));have hj:(decide (j=0)=false)↔0<j:=by simp;omega
 rw[hj]at h0;by_cases h1:eK x.id (g.es.getD (j-1) ed0).id (decide (j=0))=0
 .rw[aAa (fun h=>h h1)];have Y1:=h0.1 h1;by_cases h2:x.a=x.b
  .rw[aAe h2];constructor
   .intro h;cases h
   .rintro⟨_,h,_⟩;exact absurd h2 h
  .rw[aAa h2];by_cases h3:x.a∉g.vs\/x.b∉g.vs
   .rw[aAe h3];constructor
    .intro h;cases h
    .rintro⟨_,_,h,h'⟩;rcases h3 with h3|h3
     .exact absurd h h3
     .exact absurd h' h3
   .rw[aAa h3];exact⟨fun _=>⟨Y1,h2,aAL fun h=>h3 (.inl h),aAL fun h=>h3 (.inr h)⟩,fun _=>rfl⟩
 .rw[aAe h1];constructor
  .intro h;exact absurd h h1
  .rintro⟨h,_⟩;exact absurd (h0.2 h) h1
theorem QC{g:Gr}(h:chk g=0):GrF g:=by
 unfold chk at h;by_cases h1:64<g.vs.length\/160<g.es.length
 .rw[aAe h1]at h;cases h
 rw[aAa h1]at h;by_cases h2:bW (jX g) g.vs.length=0;rotate_left
 .rw[aAe h2]at h;exact absurd h h2
 rw[aAa (by simp[h2])]at h;have gI:∀ j (hj:j<g.vs.length),g.vs.getD j 0=g.vs[j]:=fun j hj=>by rw[aAc,aAd hj];rfl
 have hV:=fun j hj=>(rU _ _ _).1 (OC h2 j hj);have hE:=fun j hj=>(Ld g j _ rfl).1 (OC h j hj);have Xt:∀ x∈g.es,∃ j,j<g.es.length/\g.es.getD j ed0=x:=fun x hx=>by obtain⟨j,hj,rfl⟩:=aAy hx;exact⟨j,hj,gE _ _ hj⟩
 refine⟨Ct fun j hj h0=>(hV j hj).2 (by simp;omega),fun v hv=>?_,?_,fun x hx=>?_,fun x hx=>?_,fun x hx=>?_,oO,oO⟩
 .obtain⟨j,hj,rfl⟩:=aAy hv;rw[<- gI j hj];exact(hV j hj).1
 .have:=Ct (l:=g.es.map (·.id)) fun j hj h0=>by rw[aAA]at hj;have:=(hE j hj).1.2 h0;rw[gE _ _ hj,gE _ _ oO]at this;rw[aAc,aAd (by simp;omega),aAc,aAd (by simp;omega)];simpa using this
  rwa [aAU]at this
 .obtain⟨j,hj,rfl⟩:=Xt x hx;exact(hE j hj).1.1
 .obtain⟨j,hj,rfl⟩:=Xt x hx;exact(hE j hj).2.1
 .obtain⟨j,hj,rfl⟩:=Xt x hx;exact(hE j hj).2.2
end Aw
end Go.Proofs.YtempldclppogmaaGreatDoor
