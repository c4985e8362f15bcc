/- plane: Embed, the walk. -/
import Derived.Test.YtempldclppogmaaGreatDoorJk
import Derived.Test.YtempldclppogmaaGreatDoorAwFn
import Derived.Test.YtempldclppogmaaGreatDoorAwZ
import Derived.Test.YtempldclppogmaaGreatDoorAwRg
set_option linter.unusedVariables false
set_option linter.unusedSimpArgs false
namespace Go.Proofs.YtempldclppogmaaGreatDoor.Aw
open Go Go.RowKit Go.Proofs.YtempldclppogmaaGreatDoor.Pl
def aFm:Option Mp→LV
 |none=>.tu [.ag [.sl 0 0 [],.sl 0 0 [],.sl 0 0 []],bb false]
 |some m=>.tu [.ag (mpL m),bb true]
noncomputable def cB(g:Gr):List (List Ed):=(iV (sE g.es)).map fun B=>B.map (eAt (sE g.es))
def nR(l:List (List Ed)):List LV:=l.map fun l=>.sl 0 l.length (eds l)
theorem aEG(l:List Ed):(sE l).Sublist l:=by
 induction l using aCf with
 |h0=>exact List.Sublist.refl _
 |h1 l x ih=>
  rw[kP]
  split
  ·exact ih.trans (List.sublist_append_left _ _)
  ·exact ih.append (List.Sublist.refl _)
theorem GoodE.simple{g:Gr}(h:GoodE g):GoodE ⟨g.vs,sE g.es⟩:=
 ⟨⟨h.rise,fun x hx=>h.ends x (aBN _ x hx)⟩,h.ids.sublist (aEG _),fun x hx=>h.pos x (aBN _ x hx),fun x hx=>h.ne x (aBN _ x hx)⟩
theorem aHV(g:Gr):(cB g).length≤(sE g.es).length:=by
 unfold cB iV
 rw[List.length_map,List.length_map]
 exact Nat.le_trans (List.length_filter_le _ _) (by rw[List.length_range];exact Nat.le_refl _)
theorem aIM{g:Gr}(hg:GoodE g){B:List Nat}(hB:B∈iV g.es):iT g.es B:=by
 unfold iV at hB
 obtain⟨i,hi,rfl⟩:=List.mem_map.1 hB
 rw[List.mem_filter,List.mem_range]at hi
 obtain⟨s,_,_,h2,_,h3⟩:=rK hg
 obtain⟨B,hB,hiB⟩:=List.mem_flatten.1 ((h2 i).2 hi.1)
 rw[← (h3 B hB).cls hiB]
 exact h3 B hB
theorem aKe{g:Gr}(hg:GoodE g){l:List Ed}(hl:l∈cB g):DrE l∧∀ e∈l,e∈g.es:=by
 unfold cB at hl
 obtain⟨B,hB,rfl⟩:=List.mem_map.1 hl
 have hg2:=hg.simple
 have hB:iT (sE g.es) B:=aIM hg2 hB
 have hin:∀ e∈B.map (eAt (sE g.es)),e∈sE g.es:=fun e he=>by
  obtain⟨i,hi,rfl⟩:=List.mem_map.1 he
  have e:eAt (sE g.es) i=(sE g.es)[i]'(hB.lt i hi):=bZ _ _ (hB.lt i hi)
  rw[e]
  exact List.getElem_mem _
 refine⟨⟨?_,fun x hx=>hg2.pos x (hin x hx),fun x hx=>hg2.ne x (hin x hx)⟩,fun e he=>aBN _ e (hin e he)⟩
 rw[List.pairwise_map]
 refine hB.rise.imp_of_mem fun {i j} hi hj hij=>?_
 have e:∀ k,(hk:k∈B)→eAt (sE g.es) k=(sE g.es)[k]'(hB.lt k hk):=fun k hk=>bZ _ _ (hB.lt k hk)
 rw[e i hi,e j hj]
 exact List.pairwise_iff_getElem.1 hg2.ids i j (hB.lt i hi) (hB.lt j hj) hij
theorem z0m(R:List (List Int)):z0L (R.map fun r=>LV.sl 0 r.length (us r))=R.map fun r=>LV.sl 0 r.length (us r):=by
 induction R with
 |nil=>rfl
 |cons r R ih=>simp only[List.map_cons,z0L,z0,sM];rw[ih]
theorem aEQ(l:List (List Ed))(j:Nat)(h:j<l.length):(nR l).drop j=.sl 0 (l.getD j []).length (eds (l.getD j []))::nR (l.drop (j+1)):=by
 unfold nR
 rw[← List.map_drop,List.drop_eq_getElem_cons h,List.getD_eq_getElem?_getD,List.getElem?_eq_getElem h];rfl
theorem aDz(x:Int):∀ l,(qZ x l).length≤l.length+1
 |[]=>by simp[qZ]
 |y::l=>by
  have:=aDz x l
  unfold qZ
  split
  ·simp
  ·split
   ·simp;omega
   ·simp
theorem aBV:∀ l,(pX l).length≤l.length
 |[]=>by simp[pX]
 |x::l=>by
  have h:=aBV l
  have h2:=aDz x (pX l)
  unfold pX at h h2 ⊢
  rw[List.foldr_cons,List.length_cons];omega
theorem aNx(l:List Ed):(List.map (fun _:Ed=>3) l).sum=l.length*3:=by
 induction l with
 |nil=>rfl
 |cons x l ih=>simp only[List.map_cons,List.sum_cons,List.length_cons,ih];omega
def TI(M1 M2 a:Nat)(s3 s8:St)(T:TL)(st:St):Prop:=aA s3 st∧s8.next≤st.next∧(∀ l,a≤l→l<s8.next→st.H l=s8.H l)∧∃ A,tV false [.u32] 34 1 A M2 M2 st∧qW T A∧∀ x∈A,x.2.1<a∨s8.next≤x.2.1
set_option maxHeartbeats 8000000 in
theorem aEv(g:Gr)(hv:g.vs.length≤1000)(he:g.es.length≤10){o:Option Mp}(ho:(if chk g=0 then lR g (cB g)else some none)=some o)(st:St):
 aB Tryz.prog 17 [.ag (grL g)] st fun r st'=>r=aFm o∧aA st st':=by
 refine cQ ?_
 have hel:=aJ g.es
 refine qO aF Tryz.func17 rfl rfl Tryz.ntmps17 (rs:=[.cell 2 39,.tmp 3]) rfl sS ?_
 refine cG fun hpos=>?_
 (repeat' (first|refine qS ?_|(refine w_e [] ?_;intro J hJ;simp only[];simp[];(try (refine hJ _ _ (zZ ?_);clear hJ J)))))
 refine qE (Check g _ hv oO) sS ?_;rintro r s1 ⟨rfl,hk1⟩
 have hn1:=hk1.next
 simp only[aC]at hn1
 have hG1:s1.H st.next=.box 25 2 (grL g):=by rw[hk1.H _ (by simp;omega)];simp
 have hO1:s1.H (st.next+1)=.box 39 3 [.nil,.nil,.nil]:=by rw[hk1.H _ sS];simp
 have hK1:aA st s1:=((aA.new _ _).trans (aA.new _ _)).trans hk1
 by_cases hc:chk g=0
 case neg=>
  rw[if_neg hc]at ho
  obtain rfl:none=o:=Option.some.inj ho
  have hc2:(chk g != 0)=true:=by simpa using hc
  (repeat' (first|refine qS ?_|(refine qR (zZ ?_);simp[hc2,hO1])|(refine qC ?_;simp[hc2,hO1])|((first|(refine w_e [] ?_;intro J hJ;simp only[])|(refine aE ?_));simp[hc2,hO1];(refine hJ _ _ (zZ ?_);clear hJ J))))
  exact⟨by simp[aFm,z0,z0L],hK1.set oO _⟩
 rw[if_pos hc]at ho
 have hgE:=eP hc
 have hg2:=hgE.simple
 have hc2:(chk g != 0)=false:=by simpa using hc
 have e1:¬st.next=s1.next:=oO
 (repeat' (first|refine qS ?_|refine qB ?_|(refine qK (zZ ?_))|(refine qC ?_;simp[hc2,hG1,e1])|((first|(refine w_e [] ?_;intro J hJ;simp only[])|(refine aE ?_));simp[hc2,hG1,e1];(refine hJ _ _ (zZ ?_);clear hJ J))))
 refine aM 27 26 28 47 (g.es.length) (fun j fr st2=>fr 1=.pt st.next 0∧fr 2=.pt (st.next+1) 0∧fr 4=.mp s1.next∧fr 25=.sl 0 g.es.length (eds g.es)∧aA s1 st2∧∃ A,tV true [.u32,.u32] 56 3 A s1.next s1.next st2∧aBK (g.es.take j) A) ?_ ?_ ?_
 ·exact⟨sS,sS,sS,sS,aA.new _ _,[],⟨by simp[rmL],sS,sS,sS,sS⟩,⟨sS,sS⟩⟩
 ·rintro j fr s hlt ⟨f1,f2,f4,f25,hk,A,hA,hB⟩ fi fn JO hJO
  have hd:=aW g.es j hlt
  have hk3:j*3<g.es.length*3:=oO
  have htk:g.es.take (j+1)=g.es.take j++[g.es.getD j ed0]:=by rw[bZ _ _ hlt];exact List.take_succ_eq_append_getElem hlt
  have hget:=hB.get hA.nd (prE (g.es.getD j ed0))
  have hadd:=hB.add hA.nd (g.es.getD j ed0)
  rw[← htk]at hadd
  have hEl:(g.es.take j).length≤200:=by rw[List.length_take];omega
  generalize g.es.take j=E at *
  generalize g.es.take (j+1)=E' at *
  generalize g.es.getD j ed0=x at *
  obtain⟨d,a,b⟩:=x
  have hbl:(gV E (prP a b)).length≤200:=Nat.le_trans (List.length_filter_le _ _) hEl
  simp only[prE,prP,pk]at hget hadd hbl hd
  have hM:=hA.map
  have hMl:=pT [min a b,max a b] A
  have c0:¬s1.next=s.next:=by have:=hA.mlt;omega
  (repeat' (first|refine qS ?_|(refine w_e [] ?_;intro J hJ;simp only[];simp[f25,fi,fn,hlt,hd,hel,hk3];(refine hJ _ _ (zZ ?_);clear hJ J))))
  refine xZ (fun f s'=>f 1=.pt st.next 0∧f 2=.pt (st.next+1) 0∧f 4=.mp s1.next∧f 25=.sl 0 g.es.length (eds g.es)∧f 26=i g.es.length∧f 27=i j∧aA s1 s'∧∃ A,tV true [.u32,.u32] 56 3 A s1.next s1.next s'∧aBK E' A) ?_ ?_
  rotate_left
  ·rintro fr s' ⟨f1,f2,f4,f25,fn,fi,hk',hA'⟩
   exact hJO _ _ fi fn ⟨by simp[f1],by simp[f2],by simp[f4],by simp[f25],hk',hA'⟩
  have hx0:¬s.next=s1.next:=fun e=>c0 e.symm
  have x1:¬s1.next=s.next+1:=by have:=hA.mlt;omega
  have x2:¬s.next+1=s1.next:=fun e=>x1 e.symm
  have x3:¬s1.next=s.next+1+1:=by have:=hA.mlt;omega
  have x4:¬s.next+1+1=s1.next:=fun e=>x3 e.symm
  rcases hget with⟨hnil,hgn⟩|⟨t,hgs⟩
  ·rw[hgn]at hMl
   simp only[Option.map_none]at hMl
   have hadd:=hadd (s.next+1+1)
   rw[hnil]at hadd
   simp only[eds,List.flatMap_nil,List.nil_append,List.length_nil,Nat.zero_add]at hadd
   have hfin:∀ f:Frm,f 1=.pt st.next 0→f 2=.pt (st.next+1) 0→f 4=.mp s1.next→f 25=.sl 0 g.es.length (eds g.es)→f 26=i g.es.length→f 27=i j→(f 1=.pt st.next 0∧f 2=.pt (st.next+1) 0∧f 4=.mp s1.next∧f 25=.sl 0 g.es.length (eds g.es)∧f 26=i g.es.length∧f 27=i j∧aA s1 ((((s.new (.box 56 3 [u d,u a,u b])).new (.own 56 3 1)).new (.own 56 3 1)).set s1.next (.map true [.u32,.u32] (aV (rmL A) [min a b,max a b] (.sl (s.next+1+1) 1 [u d,u a,u b]))))∧∃ A',tV true [.u32,.u32] 56 3 A' s1.next s1.next ((((s.new (.box 56 3 [u d,u a,u b])).new (.own 56 3 1)).new (.own 56 3 1)).set s1.next (.map true [.u32,.u32] (aV (rmL A) [min a b,max a b] (.sl (s.next+1+1) 1 [u d,u a,u b]))))∧aBK E' A'):=fun f q1 q2 q3 q4 q5 q6=>
    ⟨q1,q2,q3,q4,q5,q6,(((hk.trans (aA.new _ _)).trans (aA.new _ _)).trans (aA.new _ _)).set (Nat.le_refl _) _,_,hA.put (k:=[min a b,max a b]) (t:=s.next+1+1) (n:=1) (c:=[u d,u a,u b]) ⟨oO,sS⟩ (by simp;omega) hk.next oO (by simp[rmV]) (by simp[x4]) (fun l hl hlm _=>by simp[show ¬l=s.next by omega,show ¬l=s.next+1 by omega,show ¬l=s.next+1+1 by omega,hlm]),hadd⟩
   refine w_a [] [s1.next,s.next] ?_;intro J hJ
   refine iN 6 [(0,true),(1,true),(2,true),(3,true),(4,true),(6,true),(7,true),(8,true),(9,true),(10,true),(13,true)] ?_
   simp[f4,c0,hx0,hM,hMl,x1,x2,x3,x4]
   refine oM 5 (5,true) (14,true) ?_ ?_
   ·simp[f4,c0,hx0,hM,hMl,x1,x2,x3,x4]
    refine qD (pair a b _) sS ?_;rintro r s5 ⟨rfl,e5⟩
    rw[e5];clear e5 s5
    refine⟨fun h=>by first|(cases h;done)|exact fun _ _=>rfl|simp[f4,c0,hx0,hM,hMl,x1,x2,x3,x4],?_⟩
    refine oM 4 (11,true) (14,true) ?_ ?_
    ·simp[f4,c0,hx0,hM,hMl,x1,x2,x3,x4]
     refine qD (pair a b _) sS ?_;rintro r s5 ⟨rfl,e5⟩
     rw[e5];clear e5 s5
     refine⟨fun h=>by first|(cases h;done)|exact fun _ _=>rfl|simp[f4,c0,hx0,hM,hMl,x1,x2,x3,x4],?_⟩
     refine iN 0 [(12,true),(14,true),(15,true),(16,false)] ?_
     simp[f4,c0,hx0,hM,hMl,x1,x2,x3,x4]
     refine⟨by unfold maxLen;omega,dI (hJ _ _ ?_)⟩
     simp only[ak]
     refine⟨trivial,hfin _ ?_ ?_ ?_ ?_ ?_ ?_⟩<;>simp[f1,f2,f4,f25,fn,fi]
    ·simp[f4,c0,hx0,hM,hMl,x1,x2,x3,x4]
     refine iN 0 [(11,true),(12,true),(15,true),(16,false)] ?_
     simp[f4,c0,hx0,hM,hMl,x1,x2,x3,x4]
     refine qD (pair a b _) sS ?_;rintro r s5 ⟨rfl,e5⟩
     rw[e5];clear e5 s5
     refine⟨fun h=>by first|(cases h;done)|exact fun _ _=>rfl|simp[f4,c0,hx0,hM,hMl,x1,x2,x3,x4],?_⟩
     simp[f4,c0,hx0,hM,hMl,x1,x2,x3,x4]
     refine⟨by unfold maxLen;omega,dI (hJ _ _ ?_)⟩
     simp only[ak]
     refine⟨trivial,hfin _ ?_ ?_ ?_ ?_ ?_ ?_⟩<;>simp[f1,f2,f4,f25,fn,fi]
   ·simp[f4,c0,hx0,hM,hMl,x1,x2,x3,x4]
    refine iN 0 [(5,true),(11,true),(12,true),(15,true),(16,false)] ?_
    simp[f4,c0,hx0,hM,hMl,x1,x2,x3,x4]
    refine qD (pair a b _) sS ?_;rintro r s5 ⟨rfl,e5⟩
    rw[e5];clear e5 s5
    refine⟨fun h=>by first|(cases h;done)|exact fun _ _=>rfl|simp[f4,c0,hx0,hM,hMl,x1,x2,x3,x4],?_⟩
    simp[f4,c0,hx0,hM,hMl,x1,x2,x3,x4]
    refine qD (pair a b _) sS ?_;rintro r s5 ⟨rfl,e5⟩
    rw[e5];clear e5 s5
    refine⟨fun h=>by first|(cases h;done)|exact fun _ _=>rfl|simp[f4,c0,hx0,hM,hMl,x1,x2,x3,x4],?_⟩
    simp[f4,c0,hx0,hM,hMl,x1,x2,x3,x4]
    refine⟨by unfold maxLen;omega,dI (hJ _ _ ?_)⟩
    simp only[ak]
    refine⟨trivial,hfin _ ?_ ?_ ?_ ?_ ?_ ?_⟩<;>simp[f1,f2,f4,f25,fn,fi]
  ·rw[hgs]at hMl
   simp only[Option.map_some]at hMl
   unfold rmV at hMl
   simp only at hMl
   obtain⟨k1,k2,k3,k4⟩:=hA.tok _ (kC hgs)
   simp only at k1 k2 k3 k4
   have y1:¬t=s.next:=oO
   have y2:¬t=s.next+1:=oO
   have y3:¬s.next=t:=oO
   have y4:¬s.next+1=t:=oO
   have y5:¬s1.next=t:=fun e=>by rw[← e,hM]at k4;cases k4
   have y6:¬t=s1.next:=fun e=>y5 e.symm
   have hsm:(List.map (fun _:Ed=>3) (gV E (min a b,max a b))).sum=(gV E (min a b,max a b)).length*3:=aNx _
   have hadd:=hadd (s.next+1+1)
   have hbe:=aJ (gV E (min a b,max a b))
   have hfin:∀ f:Frm,f 1=.pt st.next 0→f 2=.pt (st.next+1) 0→f 4=.mp s1.next→f 25=.sl 0 g.es.length (eds g.es)→f 26=i g.es.length→f 27=i j→(f 1=.pt st.next 0∧f 2=.pt (st.next+1) 0∧f 4=.mp s1.next∧f 25=.sl 0 g.es.length (eds g.es)∧f 26=i g.es.length∧f 27=i j∧aA s1 (((((s.new (.box 56 3 [u d,u a,u b])).new (.own 56 3 1)).set t .dead).new (.own 56 3 ((gV E (min a b,max a b)).length+1))).set s1.next (.map true [.u32,.u32] (aV (rmL A) [min a b,max a b] (.sl (s.next+1+1) ((gV E (min a b,max a b)).length+1) (eds (gV E (min a b,max a b))++[u d,u a,u b])))))∧∃ A',tV true [.u32,.u32] 56 3 A' s1.next s1.next (((((s.new (.box 56 3 [u d,u a,u b])).new (.own 56 3 1)).set t .dead).new (.own 56 3 ((gV E (min a b,max a b)).length+1))).set s1.next (.map true [.u32,.u32] (aV (rmL A) [min a b,max a b] (.sl (s.next+1+1) ((gV E (min a b,max a b)).length+1) (eds (gV E (min a b,max a b))++[u d,u a,u b])))))∧aBK E' A'):=fun f q1 q2 q3 q4 q5 q6=>
    ⟨q1,q2,q3,q4,q5,q6,((((hk.trans (aA.new _ _)).trans (aA.new _ _)).set k2 _).trans (aA.new _ _)).set (Nat.le_refl _) _,_,hA.put (k:=[min a b,max a b]) (t:=s.next+1+1) (n:=(gV E (min a b,max a b)).length+1) (c:=eds (gV E (min a b,max a b))++[u d,u a,u b]) ⟨oO,sS⟩ (by simp;omega) hk.next oO (by simp[rmV]) (by simp[x4]) (fun l hl hlm hx=>by
      have:=hx _ hgs
      simp only at this
      simp[show ¬l=s.next by omega,show ¬l=s.next+1 by omega,show ¬l=s.next+1+1 by omega,hlm,this]),hadd⟩
   refine w_a [] [s1.next,s.next] ?_;intro J hJ
   refine iN 6 [(0,true),(1,true),(2,true),(3,true),(4,true),(6,true),(7,true),(8,true),(9,true),(10,true),(13,true)] ?_
   simp[f4,c0,hx0,hM,hMl,x1,x2,x3,x4,y1,y2,y3,y4,y5,y6,k4,k1,hbe,hsm]
   refine oM 5 (5,true) (14,true) ?_ ?_
   ·simp[f4,c0,hx0,hM,hMl,x1,x2,x3,x4,y1,y2,y3,y4,y5,y6,k4,k1,hbe,hsm]
    refine qD (pair a b _) sS ?_;rintro r s5 ⟨rfl,e5⟩
    rw[e5];clear e5 s5
    refine⟨fun h=>by first|(cases h;done)|exact fun _ _=>rfl|simp[f4,c0,hx0,hM,hMl,x1,x2,x3,x4,y1,y2,y3,y4,y5,y6,k4,k1,hbe,hsm],?_⟩
    refine oM 4 (11,true) (14,true) ?_ ?_
    ·simp[f4,c0,hx0,hM,hMl,x1,x2,x3,x4,y1,y2,y3,y4,y5,y6,k4,k1,hbe,hsm]
     refine qD (pair a b _) sS ?_;rintro r s5 ⟨rfl,e5⟩
     rw[e5];clear e5 s5
     refine⟨fun h=>by first|(cases h;done)|exact fun _ _=>rfl|simp[f4,c0,hx0,hM,hMl,x1,x2,x3,x4,y1,y2,y3,y4,y5,y6,k4,k1,hbe,hsm],?_⟩
     refine iN 0 [(12,true),(14,true),(15,true),(16,false)] ?_
     simp[f4,c0,hx0,hM,hMl,x1,x2,x3,x4,y1,y2,y3,y4,y5,y6,k4,k1,hbe,hsm]
     refine⟨by unfold maxLen;omega,dI (hJ _ _ ?_)⟩
     simp only[ak]
     refine⟨trivial,hfin _ ?_ ?_ ?_ ?_ ?_ ?_⟩<;>simp[f1,f2,f4,f25,fn,fi]
    ·simp[f4,c0,hx0,hM,hMl,x1,x2,x3,x4,y1,y2,y3,y4,y5,y6,k4,k1,hbe,hsm]
     refine iN 0 [(11,true),(12,true),(15,true),(16,false)] ?_
     simp[f4,c0,hx0,hM,hMl,x1,x2,x3,x4,y1,y2,y3,y4,y5,y6,k4,k1,hbe,hsm]
     refine qD (pair a b _) sS ?_;rintro r s5 ⟨rfl,e5⟩
     rw[e5];clear e5 s5
     refine⟨fun h=>by first|(cases h;done)|exact fun _ _=>rfl|simp[f4,c0,hx0,hM,hMl,x1,x2,x3,x4,y1,y2,y3,y4,y5,y6,k4,k1,hbe,hsm],?_⟩
     simp[f4,c0,hx0,hM,hMl,x1,x2,x3,x4,y1,y2,y3,y4,y5,y6,k4,k1,hbe,hsm]
     refine⟨by unfold maxLen;omega,dI (hJ _ _ ?_)⟩
     simp only[ak]
     refine⟨trivial,hfin _ ?_ ?_ ?_ ?_ ?_ ?_⟩<;>simp[f1,f2,f4,f25,fn,fi]
   ·simp[f4,c0,hx0,hM,hMl,x1,x2,x3,x4,y1,y2,y3,y4,y5,y6,k4,k1,hbe,hsm]
    refine iN 0 [(5,true),(11,true),(12,true),(15,true),(16,false)] ?_
    simp[f4,c0,hx0,hM,hMl,x1,x2,x3,x4,y1,y2,y3,y4,y5,y6,k4,k1,hbe,hsm]
    refine qD (pair a b _) sS ?_;rintro r s5 ⟨rfl,e5⟩
    rw[e5];clear e5 s5
    refine⟨fun h=>by first|(cases h;done)|exact fun _ _=>rfl|simp[f4,c0,hx0,hM,hMl,x1,x2,x3,x4,y1,y2,y3,y4,y5,y6,k4,k1,hbe,hsm],?_⟩
    simp[f4,c0,hx0,hM,hMl,x1,x2,x3,x4,y1,y2,y3,y4,y5,y6,k4,k1,hbe,hsm]
    refine qD (pair a b _) sS ?_;rintro r s5 ⟨rfl,e5⟩
    rw[e5];clear e5 s5
    refine⟨fun h=>by first|(cases h;done)|exact fun _ _=>rfl|simp[f4,c0,hx0,hM,hMl,x1,x2,x3,x4,y1,y2,y3,y4,y5,y6,k4,k1,hbe,hsm],?_⟩
    simp[f4,c0,hx0,hM,hMl,x1,x2,x3,x4,y1,y2,y3,y4,y5,y6,k4,k1,hbe,hsm]
    refine⟨by unfold maxLen;omega,dI (hJ _ _ ?_)⟩
    simp only[ak]
    refine⟨trivial,hfin _ ?_ ?_ ?_ ?_ ?_ ?_⟩<;>simp[f1,f2,f4,f25,fn,fi]
 ·rintro fr s ⟨f1,f2,f4,f25,hk,A,hA,hB⟩
  rw[List.take_length]at hB
  have hkn:=hk.next
  have hGs:s.H st.next=.box 25 2 (grL g):=(hk.H _ oO).trans hG1
  have hOs:s.H (st.next+1)=.box 39 3 [.nil,.nil,.nil]:=(hk.H _ oO).trans hO1
  (repeat' (first|refine qS ?_|(refine w_e [] ?_;intro J hJ;simp only[];simp[f1,hGs])))
  refine qE (aJF g s oO oO oO) sS ?_;rintro r s2 ⟨rfl,hk2⟩
  have hkn2:=hk2.next
  have hA2:=hA.keep hk2
  have hK2:=hk.trans hk2
  have hsl:=vQ g.es
  have hO2:=(hk2.H _ oO).trans hOs
  have hG2:=(hk2.H _ oO).trans hGs
  clear hk2 hOs hGs hA hk
  (repeat' (first|refine qS ?_|((first|(refine w_e [] ?_;intro J hJ;simp only[])|(refine aE ?_));simp[];(try (refine hJ _ _ (zZ ?_);clear hJ J)))))
  have hbk:=aHV g
  have hbl:bkL (sE g.es) (iV (sE g.es))=nR (cB g):=by simp[bkL,nR,cB]
  have hbn:(iV (sE g.es)).length=(cB g).length:=by simp[cB]
  have hblk:=aNA ⟨g.vs,sE g.es⟩ hg2 ((s2.new (.box 25 2 [.sl 0 g.vs.length (us g.vs),.sl 0 (sE g.es).length (eds (sE g.es))])).new (.map false [.u32] [])) (Nat.le_trans (aDC hc).2.2.1 (by decide)) (by simp only;omega)
  simp only[]at hblk
  rw[hbl,hbn]at hblk
  refine qE hblk (by simp[grL]) ?_;rintro r s3 ⟨rfl,e3⟩
  rw[e3];clear e3 s3 hblk
  have hk3:=aA.new s2 (.box 25 2 [.sl 0 g.vs.length (us g.vs),.sl 0 (sE g.es).length (eds (sE g.es))])
  have hn3:(s2.new (.box 25 2 [.sl 0 g.vs.length (us g.vs),.sl 0 (sE g.es).length (eds (sE g.es))])).next=s2.next+1:=rfl
  rw[← hn3]
  generalize s2.new (.box 25 2 [.sl 0 g.vs.length (us g.vs),.sl 0 (sE g.es).length (eds (sE g.es))])=s3 at *
  have hA3:=hA2.keep hk3
  have hK3:=hK2.trans hk3
  have hO3:=(hk3.H _ oO).trans hO2
  have hG3:=(hk3.H _ oO).trans hG2
  clear hA2 hK2 hO2 hG2 hk3
  unfold lR at ho
  obtain⟨oT,hoT,ho⟩:=Option.bind_eq_some_iff.1 ho
  have hKt:=hK1.trans hK3
  (repeat' (first|refine qB ?_|(refine aE ?_;simp[];(refine hJ _ _ (zZ ?_);clear hJ J))))
  refine aM 57 56 58 104 ((cB g).length) (fun j fr st2=>fr 1=.pt st.next 0∧fr 2=.pt (st.next+1) 0∧fr 4=.mp s1.next∧fr 9=.mp s3.next∧fr 55=.sl 0 (cB g).length (nR (cB g))∧aA s3 st2∧∃ T A2,aMe g ((cB g).drop j) T=some oT∧tV false [.u32] 34 1 A2 s3.next s3.next st2∧qW T A2∧mK T≤100000) ?_ ?_ ?_
  ·exact⟨by simp[f1],by simp[f2],by simp[f4],sS,sS,aA.new _ _,[],[],by simpa using hoT,⟨by simp[rmL],sS,sS,sS,sS⟩,rfl,by simp[mK]⟩
  ·clear f1 f2 f4 f25 hoT fr
   rintro j0 fr s4 hlt ⟨f1,f2,f4,f9,f55,hk4,T,A2,hE,hT,hR,htot⟩ fi fn JO hJO
   have hd:=aEQ (cB g) j0 hlt
   have hdr:(cB g).drop j0=(cB g).getD j0 []::(cB g).drop (j0+1):=by
    rw[List.drop_eq_getElem_cons hlt,List.getD_eq_getElem?_getD,List.getElem?_eq_getElem hlt];rfl
   obtain⟨hdre,hsub⟩:=aKe hgE (l:=(cB g).getD j0 []) (by rw[List.getD_eq_getElem?_getD,List.getElem?_eq_getElem hlt];exact List.getElem_mem _)
   rw[hdr]at hE
   unfold aMe at hE
   obtain⟨oD,hD,hE⟩:=Option.bind_eq_some_iff.1 hE
   generalize (cB g).getD j0 []=l at *
   have hkn4:=hk4.next
   have hM24:=hT.mlt.2
   have hel4:(nR (cB g)).length=(cB g).length:=by simp[nR]
   (repeat' (first|refine qS ?_|(refine w_e [] ?_;intro J hJ;simp only[];simp[f55,fi,fn,hlt,hd,hel4];(try (refine hJ _ _ (zZ ?_);clear hJ J)))))
   refine qE (aPH hdre hD s4 oO) sS ?_;rintro r s5 ⟨rfl,hk5⟩
   have hO5:=(hk5.H (st.next+1) oO).trans ((hk4.H (st.next+1) oO).trans hO3)
   have hk45:=hk4.trans hk5
   cases oD with
   |none=>
    simp only at hE
    obtain rfl:none=oT:=Option.some.inj hE
    simp only at ho
    obtain rfl:none=o:=Option.some.inj ho
    unfold drR
    (repeat' (first|refine qS ?_|(refine qR (zZ ?_);simp[f2,hO5])|(refine qC ?_;simp[f2,hO5])|((first|(refine w_e [] ?_;intro J hJ;simp only[])|(refine aE ?_));simp[f2,hO5];(refine hJ _ _ (zZ ?_);clear hJ J))))
    exact⟨by simp[aFm,z0,z0L],(hKt.trans hk45).set oO _⟩
   |some F=>
    simp only at hE
    split at hE
    case isFalse=>cases hE
    rename_i hok
    obtain⟨o1,o2,o3,o4,o5⟩:=hok
    unfold drR
    (repeat' (first|refine qS ?_|(refine qK (zZ ?_))|(refine qC ?_;simp[f2,hO5])|((first|(refine w_e [] ?_;intro J hJ;simp only[])|(refine aE ?_));simp[f2,hO5];(try (refine hJ _ _ (zZ ?_);clear hJ J)))))
    refine qE (aJG F s5 o1 o2) sS ?_;rintro r s6 ⟨M,loc,rfl,hM⟩
    have hMk:=hM.kp
    have hnd:=hM.nd
    have hkeyN:=aJU (eA F) loc
    (repeat' (first|refine qS ?_|((first|(refine w_e [] ?_;intro J hJ;simp only[])|(refine aE ?_));simp[];(try (refine hJ _ _ (zZ ?_);clear hJ J)))))
    refine qE (aQi M _) sS ?_;rintro r s7 ⟨rfl,e7⟩
    rw[e7];clear e7 s7
    have hM7:(s6.new (.box 80 1 [.mp M])).H M=.map false [.u32] (ouL (eA F) loc):=by rw[bI,if_neg (by have:=hM.olt;omega)];exact hM.out
    (repeat' (refine aE ?_;simp[]))
    refine qE (aNg M s6.next (ouL (eA F) loc) ((eA F).map (·.1)) _ (by simpa[ouL]using o3) sS hM7 hkeyN hnd) sS ?_;rintro r s8 ⟨rfl,hk8⟩
    have hk68:=(aA.new s6 _).trans hk8
    have hn5:=hk5.next
    have hn6:=hMk.next
    have hn8:=hk68.next
    have hout:s8.H M=.map false [.u32] (ouL (eA F) loc):=(hk68.H M hM.olt.2).trans hM.out
    have hinn:∀ a∈eA F,s8.H (loc a.1)=.map false [.u32] (inL a.2)∧s5.next≤loc a.1∧loc a.1<s8.next:=fun a ha=>by
     obtain⟨q1,q2,q3⟩:=hM.inn a ha
     exact⟨(hk68.H _ q3).trans q1,q2.1,oO⟩
    have hMo:s5.next≤M∧M<s8.next:=⟨hM.olt.1,by have:=hM.olt.2;omega⟩
    have hk48:=(hk5.trans hMk).trans hk68
    have hT8:=hT.keep hk48
    have hk38:=hk4.trans hk48
    have hTW:∀ a∈A2,a.2.1<s5.next∨s8.next≤a.2.1:=fun a ha=>.inl (by have:=(hT.tok a ha).2.2.1;omega)
    have hne:=aEL F
    clear hM hM7 hk68 hMk hk48 hT hk8 hk5 hO5 hk45 hkeyN
    unfold aIP at hE o5
    generalize eA F=AF at *
    have hKm:=fun x=>wU x (AF.map (·.1))
    have hKl:(pX (AF.map (·.1))).length≤1000:=Nat.le_trans (aBV _) (by rw[List.length_map];exact o3)
    generalize pX (AF.map (·.1))=K at *
    (repeat' (first|refine qB ?_|(refine aE ?_;simp[];(refine hJ _ _ (zZ ?_);clear hJ J))))
    refine aM 75 74 76 103 (K.length) (fun j fr st2=>(fr 1=.pt st.next 0∧fr 2=.pt (st.next+1) 0∧fr 4=.mp s1.next∧fr 9=.mp s3.next∧fr 55=.sl 0 (cB g).length (nR (cB g))∧fr 56=i (cB g).length∧fr 57=i j0∧fr 14=.mp M∧fr 73=.sl 0 K.length (us K))∧TI s1.next s3.next s5.next s3 s8 (iX g AF (K.take j) T) st2) ?_ ?_ ?_
    ·exact⟨⟨by simp[f1],by simp[f2],by simp[f4],by simp[f9],by simp[f55],by simp[fn],by simp[fi],sS,sS⟩,hk38,Nat.le_refl _,fun l _ _=>rfl,A2,hT8,hR,hTW⟩
    ·clear f1 f2 f4 f9 f55 fn fi fr hT8 hR hTW
     rintro k1 fr s9 hlt1 ⟨⟨f1,f2,f4,f9,f55,f56,f57,f14,f73⟩,hTI⟩ fi fn J1 hJ1
     have hd1:=qG K k1 hlt1
     have hsn1:iX g AF (K.take (k1+1)) T=gP g (K.getD k1 0) (eT (aBR (K.getD k1 0) AF)) (iX g AF (K.take k1) T):=by
      have h1:K.take (k1+1)=K.take k1++[K[k1]]:=List.take_succ_eq_append_getElem hlt1
      unfold iX
      rw[h1,List.foldl_append,aI _ _ hlt1];rfl
     have htot1:mK (iX g AF (K.take (k1+1)) T)≤100000:=by
      have h1:=aAi g AF (K.drop (k1+1)) (iX g AF (K.take (k1+1)) T)
      rw[← aDE]at h1
      omega
     have hvK:K.getD k1 0∈AF.map (·.1):=(hKm _).1 (by rw[aI _ _ hlt1];exact List.getElem_mem _)
     have hvA:=aDr hvK
     have hgM:=aBg AF loc (K.getD k1 0)
     rw[if_pos hvK]at hgM
     rw[hsn1]at htot1 hJ1
     clear hsn1
     generalize iX g AF (K.take k1) T=Tk at *
     generalize K.getD k1 0=v at *
     obtain⟨hI1,hI2,hI3⟩:=hinn _ hvA
     have hPl:=o4 _ hvA
     have hP0:=hne _ hvA
     simp only at hI1 hI2 hI3 hPl hP0
     have hLl:=aFf (aBR v AF)
     generalize aBR v AF=P at *
     have hTI':=hTI
     obtain⟨hk9,hn9,hW,A9,hT9,hR9,hTW9⟩:=hTI'
     have hM9:=(hW M hMo.1 hMo.2).trans hout
     have hI9:=(hW _ hI2 hI3).trans hI1
     clear hT9 hR9 hTW9 hW
     generalize loc v=lv at *
     (repeat' (first|refine qS ?_|(refine w_e [] ?_;intro J hJ;simp only[];simp[f73,fi,fn,hlt1,hd1,f14,hM9,hgM];(try (refine hJ _ _ (zZ ?_);clear hJ J)))))
     refine qE (aOT P lv s9 hP0 oO hI9 oO) sS ?_;rintro r s10 ⟨rfl,e10⟩
     rw[e10];clear e10 s10
     have hLn:(eT P).length≤1000:=oO
     generalize eT P=L at *
     (repeat' (first|refine qB ?_|(refine aE ?_;simp[];(refine hJ _ _ (zZ ?_);clear hJ J))))
     refine aM 84 83 85 102 (L.length) (fun j fr st2=>(fr 1=.pt st.next 0∧fr 2=.pt (st.next+1) 0∧fr 4=.mp s1.next∧fr 9=.mp s3.next∧fr 55=.sl 0 (cB g).length (nR (cB g))∧fr 56=i (cB g).length∧fr 57=i j0∧fr 14=.mp M∧fr 73=.sl 0 K.length (us K))∧(fr 74=i K.length∧fr 75=i k1∧fr 16=u v∧fr 82=.sl 0 L.length (us L))∧TI s1.next s3.next s5.next s3 s8 (gP g v (L.take j) Tk) st2) ?_ ?_ ?_
     ·exact⟨⟨by simp[f1],by simp[f2],by simp[f4],by simp[f9],by simp[f55],by simp[f56],by simp[f57],by simp[f14],by simp[f73]⟩,⟨by simp[fn],by simp[fi],sS,sS⟩,hTI⟩
     ·clear f1 f2 f4 f9 f55 f56 f57 f14 f73 fi fn fr hTI hk9 hn9 hM9 hI9 s9
      rintro k2 fr s9 hlt2 ⟨⟨f1,f2,f4,f9,f55,f56,f57,f14,f73⟩,⟨f74,f75,f16,f82⟩,hk9,hn9,hW,A9,hT9,hR9,hTW9⟩ fi fn J2 hJ2
      have hd2:=qG L k2 hlt2
      have hsn2:gP g v (L.take (k2+1)) Tk=xR v (gO (yL g v (L.getD k2 0)) v (L.getD k2 0)) (gP g v (L.take k2) Tk):=by
       have h1:L.take (k2+1)=L.take k2++[L[k2]]:=List.take_succ_eq_append_getElem hlt2
       unfold gP
       rw[h1,List.foldl_append,aI _ _ hlt2];rfl
      have htot2:mK (gP g v (L.take (k2+1)) Tk)≤100000:=by
       have h1:=rW g v (L.drop (k2+1)) (gP g v (L.take (k2+1)) Tk)
       rw[← aDT]at h1
       omega
      rw[hsn2]at htot2 hJ2
      clear hsn2
      generalize gP g v (L.take k2) Tk=Tq at *
      generalize L.getD k2 0=x at *
      have hbun:=hB.get hA3.nd (prP v x)
      have hMB:s9.H s1.next=.map true [.u32,.u32] (rmL A):=(hk9.H _ hA3.mlt.2).trans hA3.map
      obtain⟨X,hX,tX,hXn⟩:∃ X,(aY (rmL A) [min v x,max v x]).getD .nil=X∧∃ t,norm X=.sl t (yL g v x).length (eds (yL g v x)):=by
       refine⟨_,rfl,?_⟩
       rw[pT]
       rcases hbun with⟨h1,h2⟩|⟨t,h2⟩
       ·refine⟨0,?_⟩
        simp only[prP,pk]at h2
        rw[h2]
        unfold yL
        rw[h1];rfl
       ·refine⟨t,?_⟩
        simp only[prP,pk]at h2
        rw[h2];rfl
      have hBl:(yL g v x).length≤200:=Nat.le_trans (List.length_filter_le _ _) (Nat.le_trans he oO)
      have hBp:∀ e∈yL g v x,1≤e.id∧e.id≤1048576:=fun e h=>hgE.pos e (List.mem_filter.1 h).1
      have hdarts:=fun st=>aOn (yL g v x) v x tX st oO hBp
      generalize yL g v x=B at *
      have hmg:=pT [v] A9
      have hadd:=hR9.add (v:=v) (ds:=gO B v x)
      have htq:=wZ v (xR v (gO B v x) Tq)
      have hgq:=hR9.get (v:=v)
      generalize hDD:gO B v x=D at *
      have hMT:=hT9.map
      have z1:¬s1.next=s3.next:=by have:=hA3.mlt;omega
      have z2:¬s3.next=s1.next:=fun e=>z1 e.symm
      have hn39:=hk9.next
      have hDt:=xF v D Tq
      have hDt2:=wZ v Tq
      have hD1:D.length*4≤140737488355328:=oO
      have hD2:D.length≤maxLen:=by unfold maxLen;omega
      have hm2:=hT9.mlt.2
      have z3:¬s3.next=s9.next:=oO
      have z4:¬s9.next=s3.next:=oO
      have z5:¬s1.next=s9.next:=by have:=hA3.mlt;omega
      have h35:s3.next<s5.next:=oO
      (repeat' (first|refine qS ?_|(refine w_e [] ?_;intro J hJ;simp only[];simp[f82,fi,fn,hlt2,hd2];(refine hJ _ _ (zZ ?_);clear hJ J))))
      (refine w_s [] [s1.next,s3.next] [(0,true),(1,true),(2,true),(3,true),(4,true),(5,true),(6,true),(7,true),(10,true),(11,true),(8,true),(9,true),(12,true),(13,true),(14,false)] ?_;intro J hJ;simp[f4,f9,f16,hMT,hMB])
      refine qD (pair v x _) sS ?_;rintro r s10 ⟨rfl,e10⟩
      rw[e10];clear e10 s10
      refine⟨fun h=>by first|(cases h;done)|exact fun _ _=>rfl|simp,?_⟩
      (refine bE ?_;simp[hMT,hMB,hX])
      refine qD (hdarts _) (by simp;exact hXn) ?_;rintro r s10 ⟨rfl,e10⟩
      rw[e10];clear e10 s10
      refine⟨fun h=>by first|(cases h;done)|exact fun _ _=>rfl|simp,?_⟩
      rcases hgq with⟨hq1,hq2⟩|⟨t,hq2⟩
      ·rw[hq2]at hmg
       simp only[Option.map_none]at hmg
       (refine bE ?_;simp[hMT,hMB,hX,hmg,hD1,hD2,z3,z4,z5];(refine hJ _ _ (zZ ?_);clear hJ J))
       skip
       have hadd:=hadd s9.next
       rw[hq1]at hadd
       simp only[us,List.map_nil,List.nil_append,List.length_nil,Nat.zero_add]at hadd
       refine hJ2 _ _ (by simp[fi]) (by simp[fn]) ⟨⟨by simp[f1],by simp[f2],by simp[f4],by simp[f9],by simp[f55],by simp[f56],by simp[f57],by simp[f14],by simp[f73]⟩,⟨by simp[f74],by simp[f75],by simp[f16],by simp[f82]⟩,(hk9.trans (aA.new _ _)).set (Nat.le_refl _) _,by simp;omega,fun l q1 q2=>?_,_,hT9.put (k:=[v]) (t:=s9.next) (n:=D.length) (c:=us D) ⟨Nat.le_refl _,sS⟩ sS hn39 oO (by simp[rmV]) (by simp[z4]) (fun l hl hlm _=>by simp[show ¬l=s9.next by omega,hlm]),hadd,fun y hy=>?_⟩
       ·rw[bH,if_neg oO,bI,if_neg oO];exact hW l q1 q2
       ·rcases mP hT9.nd y hy with rfl|⟨hy,_⟩
        ·exact .inr hn9
        ·exact hTW9 y hy
      ·rw[hq2]at hmg
       simp only[Option.map_some]at hmg
       unfold rmV at hmg
       simp only at hmg
       obtain⟨g1,g2,g3,g4⟩:=hT9.tok _ (kC hq2)
       simp only at g1 g2 g3 g4
       have y5:¬s3.next=t:=fun e=>by rw[← e,hMT]at g4;cases g4
       have y6:¬t=s3.next:=fun e=>y5 e.symm
       have y1:¬t=s9.next:=oO
       have y2:¬s9.next=t:=oO
       have z6:¬s1.next=t:=by have:=hA3.mlt.2;omega
       have hD3:((kR v Tq).length+D.length)*4≤140737488355328:=oO
       have hD4:(kR v Tq).length+D.length≤maxLen:=by unfold maxLen;omega
       (refine bE ?_;simp[hMT,hMB,hX,hmg,hD1,hD2,z3,z4,z5,z6,y1,y2,y5,y6,g1,g4,hD3,hD4];(refine hJ _ _ (zZ ?_);clear hJ J))
       skip
       refine hJ2 _ _ (by simp[fi]) (by simp[fn]) ⟨⟨by simp[f1],by simp[f2],by simp[f4],by simp[f9],by simp[f55],by simp[f56],by simp[f57],by simp[f14],by simp[f73]⟩,⟨by simp[f74],by simp[f75],by simp[f16],by simp[f82]⟩,((hk9.set g2 _).trans (aA.new _ _)).set (Nat.le_refl _) _,by simp;omega,fun l q1 q2=>?_,_,hT9.put (k:=[v]) (t:=s9.next) (n:=(kR v Tq).length+D.length) (c:=us (kR v Tq)++us D) ⟨Nat.le_refl _,sS⟩ sS hn39 oO (by simp[rmV]) (by simp[z4]) (fun l hl hlm hx=>?_),hadd s9.next,fun y hy=>?_⟩
       ·have:=hTW9 _ (kC hq2)
        simp only at this
        rw[bH,if_neg oO,bI,if_neg (by simp;omega),bH,if_neg oO];exact hW l q1 q2
       ·have:=hx _ hq2
        simp only at this
        simp[show ¬l=s9.next by omega,hlm,this]
       ·rcases mP hT9.nd y hy with rfl|⟨hy,_⟩
        ·exact .inr hn9
        ·exact hTW9 y hy
     ·rintro fr s10 ⟨⟨f1,f2,f4,f9,f55,f56,f57,f14,f73⟩,⟨f74,f75,f16,f82⟩,hTI2⟩
      rw[List.take_length]at hTI2
      skip
      exact hJ1 _ _ (by simp[f75]) (by simp[f74]) ⟨⟨by simp[f1],by simp[f2],by simp[f4],by simp[f9],by simp[f55],by simp[f56],by simp[f57],by simp[f14],by simp[f73]⟩,hTI2⟩
    ·rintro fr s9 ⟨⟨f1,f2,f4,f9,f55,fn,fi,f14,f73⟩,hk9,hn9,_,A9,hT9,hR9,_⟩
     rw[List.take_length]at hR9
     skip
     exact hJO _ _ (by simp[fi]) (by simp[fn]) ⟨by simp[f1],by simp[f2],by simp[f4],by simp[f9],by simp[f55],hk9,_,A9,hE,hT9,hR9,o5⟩
  ·clear f1 f2 f4 f25 hoT fr
   rintro fr s4 ⟨f1,f2,f4,f9,f55,hk4,T,A2,hE,hT,hR,htot⟩
   rw[List.drop_length]at hE
   obtain rfl:some T=oT:=Option.some.inj hE
   simp only at ho
   by_cases hg1:∀ v∈g.vs,(kR v T).length≤1000
   case neg=>rw[if_neg hg1]at ho;cases ho
   rw[if_pos hg1]at ho
   obtain rfl:some _=o:=Option.some.inj ho
   have hO4:=(hk4.H (st.next+1) oO).trans hO3
   have hG4:=(hk4.H st.next oO).trans hG3
   (repeat' (first|refine qS ?_|(refine w_e [] ?_;intro J hJ;simp only[];simp[f1,hG4,f9])))
   refine qE (aOk g s3.next (rmL A2) (fun v=>kR v T) s4 hv oO hT.mlt.2 hT.map fun v hv'=>?_) (by simp[grL]) ?_
   ·rw[pT]
    rcases hR.get (v:=v)with⟨h1,h2⟩|⟨t,h2⟩
    ·refine⟨_,0,rfl,?_,hg1 v hv'⟩
     rw[h2,h1];rfl
    ·refine⟨_,t,rfl,?_,hg1 v hv'⟩
     rw[h2];rfl
   rintro r s5 ⟨rfl,hk5⟩
   have hO5:=(hk5.H (st.next+1) (by have:=hk4.next;omega)).trans hO4
   (repeat' (first|(refine qR (zZ ?_);simp[f2,hO5])|(refine aE ?_;simp[f2,hO5];(refine hJ _ _ (zZ ?_);clear hJ J))))
   refine⟨?_,((hKt.trans hk4).trans hk5).set oO _⟩
   rw[← List.map_map]
   simp only[aFm,z0,z0L,sM,kW,z0m,mpL,grL,List.length_map,List.cons_append,List.nil_append,cS]
def yR:Gr:=⟨[1,2,3],[⟨1,1,2⟩,⟨2,2,3⟩,⟨3,3,1⟩]⟩
def cY:Gr:=⟨[1,2,3,4,5],[⟨1,1,2⟩,⟨2,1,3⟩,⟨3,1,4⟩,⟨4,1,5⟩,⟨5,2,3⟩,⟨6,2,4⟩,⟨7,2,5⟩,⟨8,3,4⟩,⟨9,3,5⟩,⟨10,4,5⟩]⟩
theorem aJS{g:Gr}(hg:GoodE g){s:Bw}(h:nN g.es g.vs.length g.vs ⟨[],[],[],[]⟩=some s){B:List (List Nat)}(hp:B.Perm s.out)(hr:B.Pairwise fun x y=>x.headD 0<y.headD 0):iV g.es=B:=by
 obtain⟨s',h1,_,h2,_,h3⟩:=rK hg
 rw[h]at h1
 obtain rfl:=Option.some.inj h1
 exact(yF h2 h3 hp hr).symm
theorem nK{g:Gr}(hg:GoodE g){out:List (List Nat)}(h:(nN (sE g.es) g.vs.length g.vs ⟨[],[],[],[]⟩).map (·.out)=some out){B:List (List Nat)}(hp:B.Perm out)(hr:B.Pairwise fun x y=>x.headD 0<y.headD 0):cB g=B.map fun B=>B.map (eAt (sE g.es)):=by
 obtain⟨s,h1,rfl⟩:=Option.map_eq_some_iff.1 h
 unfold cB
 rw[aJS (g:=⟨g.vs,sE g.es⟩) hg.simple h1 hp hr]
theorem aCN:chk yR=0:=by decide +kernel
theorem nF:chk cY=0:=by decide +kernel
theorem aIc:cB yR=[yR.es]:=by
 rw[nK (eP aCN) (out:=[[0,1,2]]) (by decide +kernel) (List.Perm.refl _) (by decide)]
 decide +kernel
theorem aFj:cB cY=[cY.es]:=by
 rw[nK (eP nF) (out:=[[0,1,2,3,4,5,6,7,8,9]]) (by decide +kernel) (List.Perm.refl _) (by decide)]
 decide +kernel
theorem rM:(if chk cY=0 then lR cY (cB cY)else some none)=some none:=by
 rw[if_pos nF,aFj]
 rfl
theorem aJx:(if chk yR=0 then lR yR (cB yR)else some none)=some (some ⟨yR,[[2,7],[3,4],[5,6]]⟩):=by
 rw[if_pos aCN,aIc]
 rfl
def lO(a b:Nat):List Ed:=cY.es.filter fun e=>decide (e.a<a)||(decide (e.a=a)&&decide (e.b<b))
theorem aHP(a b:Nat)(h1:1≤a)(h2:a<b)(h3:b≤5):lO a (b+1)=lO a b++[⟨(lO a b).length+1,a,b⟩]:=by
 have h:∀ a:Fin 6,∀ b:Fin 6,1≤a.1→a.1<b.1→lO a.1 (b.1+1)=lO a.1 b.1++[⟨(lO a.1 b.1).length+1,a.1,b.1⟩]:=by decide +kernel
 exact h ⟨a,oO⟩ ⟨b,oO⟩ h1 h2
theorem aHR(a:Nat)(h1:1≤a)(h2:a≤5):lO a 6=lO (a+1) (a+2):=by
 have h:∀ a:Fin 6,1≤a.1→lO a.1 6=lO (a.1+1) (a.1+2):=by decide +kernel
 exact h ⟨a,oO⟩ h1
theorem aNa(a b:Nat):(lO a b).length≤10:=List.length_filter_le _ _
def FvS(st:St)(a b:Nat)(s:St):Prop:=s.H st.next=.box 25 2 [.nil,.nil]∧aA st s∧∃ tv t,s.H (st.next+2)=.box 25 2 [.sl tv 5 (us [1,2,3,4,5]),.sl t (lO a b).length (eds (lO a b))]∧t≠0∧st.next+2<t∧t<s.next∧s.H t=.own 56 3 (lO a b).length
set_option maxHeartbeats 1000000 in
theorem aJy(st:St):aB Tryz.prog 27 [] st fun r st'=>r=.ag (grL cY)∧aA st st':=by
 refine cQ ?_
 refine qO aF Tryz.func27 rfl rfl Tryz.ntmps27 (rs:=[.cell 0 25]) rfl sS ?_
 refine cG fun hpos=>?_
 (repeat' (first|refine qS ?_|refine qB ?_|(refine w_e [] ?_;intro J hJ;simp only[];simp[];refine hJ _ _ (zZ ?_))))
 refine wE (st.next+2) 56 3 (e:=25) (s:=2) [.sl (st.next+1) 5 (us [1,2,3,4,5])] [] sS ?_
 refine qL (fun n fr s=>∃ a:Nat,1≤a∧a≤6∧n=6-a∧fr 0=.pt st.next 0∧fr 1=.pt (st.next+2) 0∧fr 2=u a∧FvS st a (a+1) s) 5 ?_ ?_
 ·refine⟨1,oO,oO,rfl,sS,sS,sS,?_,?_,st.next+1,st.next+3,?_,oO,oO,sS,?_⟩
  ·(repeat (first|rw[nHh nOo]|rw[sHh oO]|rw[nIi nQq]|rw[sIi oO]))
  ·exact(((((aA.new _ _).trans (aA.new _ _)).trans (aA.new _ _)).set oO _).trans (aA.new _ _)).set oO _
  ·have:lO 1 (1+1)=[]:=by decide +kernel
   rw[this];(repeat (first|rw[nHh nOo]|rw[sHh oO]|rw[nIi nQq]|rw[sIi oO]));simp[us,eds]
  ·have:lO 1 (1+1)=[]:=by decide +kernel
   rw[this];(repeat (first|rw[nHh nOo]|rw[sHh oO]|rw[nIi nQq]|rw[sIi oO]));simp
 rintro n fr s ⟨a,a1,a2,rfl,f0,f1,f2,hS⟩ JJ hJJ
 by_cases ha:a≤5
 ·have hw:IntKind.u32.wrap ((a:Int)+1)=((a+1:Nat):Int):=by rw[wrap_u32' _ oO oO];omega
  have ha2:(a:Int)≤5:=oO
  (repeat' (first|refine qS ?_|refine qB ?_|(refine qK (zZ ?_))|(refine qC ?_;simp[f2,ha2,hw])|(refine w_e [] ?_;intro J hJ;simp only[];simp[f2,ha2,hw];refine hJ _ _ (zZ ?_))))
  refine qL (fun n fr s=>∃ b:Nat,a<b∧b≤6∧n=6-b∧fr 0=.pt st.next 0∧fr 1=.pt (st.next+2) 0∧fr 2=u a∧fr 3=u b∧FvS st a b s) (6-(a+1)) ?_ ?_
  ·exact⟨a+1,oO,oO,rfl,by simp[f0],by simp[f1],by simp[f2],sS,hS⟩
  clear f0 f1 f2 hS fr s
  rintro n fr s ⟨b,b1,b2,rfl,f0,f1,f2,f3,hS⟩ J2 hJ2
  by_cases hb:b≤5
  ·have hwb:IntKind.u32.wrap ((b:Int)+1)=((b+1:Nat):Int):=by rw[wrap_u32' _ oO oO];omega
   have hb2:(b:Int)≤5:=oO
   obtain⟨hR,hk,tv,t,hB,t0,t1,t2,tH⟩:=hS
   have hst:=aHP a b a1 b1 hb
   have hpl:=aNa a b
   generalize lO a b=E at *
   have w1:IntKind.i64.wrap ((E.length:Int)+1)=(E.length:Int)+1:=wrap_i64 _ oO oO
   have w2:IntKind.u32.wrap ((E.length:Int)+1)=(E.length:Int)+1:=wrap_u32' _ oO oO
   have hel:=aJ E
   have hsm:=aNx E
   have c1:¬t=s.next:=oO
   have c2:¬s.next=t:=oO
   have c3:¬st.next+2=s.next:=oO
   have c4:¬st.next+2=t:=oO
   have c5:¬st.next+2=s.next+1:=oO
   have c6:¬s.next=st.next+2:=oO
   (repeat' (first|refine qS ?_|refine qB ?_|(refine qK (zZ ?_))|(refine qC ?_;simp[f0,f1,f2,f3,hb2,hwb,hB,tH,t0,w1,w2,hel,hsm,c1,c2,c3,c4,c5,c6])|(refine w_e [] ?_;intro J hJ;simp only[];simp[f0,f1,f2,f3,hb2,hwb,hB,tH,t0,w1,w2,hel,hsm,c1,c2,c3,c4,c5,c6];(repeat refine ca ?_);refine hJ _ _ (zZ ?_))))
   refine hJ2 (6-(b+1)) _ _ oO ⟨b+1,oO,oO,rfl,by simp[f0],by simp[f1],by simp[f2],sS,?_,?_,tv,s.next+1,?_,oO,oO,sS,?_⟩
   ·(repeat (first|rw[nHh nOo]|rw[sHh oO]|rw[nIi nQq]|rw[sIi oO]));exact hR
   ·exact(((hk.trans (aA.new _ _)).set oO _).trans (aA.new _ _)).set oO _
   ·rw[hst];(repeat (first|rw[nHh nOo]|rw[sHh oO]|rw[nIi nQq]|rw[sIi oO]));simp[eds,edL]
   ·rw[hst];(repeat (first|rw[nHh nOo]|rw[sHh oO]|rw[nIi nQq]|rw[sIi oO]));simp
  ·obtain rfl:b=6:=oO
   have hb2:¬((6:Nat):Int)≤5:=oO
   unfold FvS at hS hJJ
   rw[aHR a a1 ha]at hS
   (repeat' (first|refine qS ?_|(refine qX (zZ ?_))|(refine qC ?_;simp[f3,f2,hw])|(refine w_e [] ?_;intro J hJ;simp only[];simp[f3,f2,hw];refine hJ _ _ (zZ ?_))))
   exact hJJ _ _ _ oO ⟨a+1,oO,oO,rfl,by simp[f0],by simp[f1],sS,hS⟩
 ·obtain rfl:a=6:=oO
  clear hJJ
  obtain⟨hR,hk,tv,t,hB,t0,t1,t2,tH⟩:=hS
  have hp:lO 6 (6+1)=cY.es:=by decide +kernel
  rw[hp]at hB tH
  (repeat' (first|refine qS ?_|(refine qX (zZ ?_))|(refine qR (zZ ?_);simp[f0,f1,f2,hB,hR])|(refine qC ?_;simp[f0,f1,f2,hB,hR])|(refine w_e [] ?_;intro J hJ;simp only[];simp[f0,f1,f2,hB,hR];refine hJ _ _ (zZ ?_))))
  exact⟨by simp only[z0,z0L,kW];rfl,hk.set oO _⟩
end Go.Proofs.YtempldclppogmaaGreatDoor.Aw
namespace Go.Proofs.YtempldclppogmaaGreatDoor.Aw
open Go Go.RowKit
end Go.Proofs.YtempldclppogmaaGreatDoor.Aw
namespace Go.Proofs.YtempldclppogmaaGreatDoor.Aw
open Go Go.RowKit Go.Proofs.YtempldclppogmaaGreatDoor.Pl
mutual
def iQ:LV→Bool
 |.sl t _ cs=>t==0&&nV cs
 |.nil=>true
 |.ag cs=>nV cs
 |.tu cs=>nV cs
 |.atom _=>true
 |_=>false
def nV:List LV→Bool
 |[]=>true
 |c::cs=>iQ c&&nV cs
end
abbrev G0:G:=⟨1,fun _=>none,fun _=>0,fun _=>0,fun _=>false⟩
theorem aQk(b o:Nat):G0.ok b o:=by simp[G.ok]
mutual
theorem aCd{w:World}{g:G}:∀(lv:LV) (v:Value),iQ lv=true→Rep w g lv v→Rep w G0 lv v
 |.sl t n cs,v,hp,h=>by
  simp only[iQ,Bool.and_eq_true,beq_iff_eq]at hp
  obtain⟨rfl,hp⟩:=hp
  simp only[Rep]at h ⊢
  obtain⟨A,cap,h1,h2,h3,_,h5⟩:=h
  refine⟨A,cap,h1,h2,h3,fun h=>absurd rfl h,fun hne=>?_⟩
  obtain⟨b,o,h6,h7⟩:=h5 hne
  exact⟨b,o,h6,sY b cs o hp h7⟩
 |.nil,v,_,h=>by simpa only[Rep]using h
 |.ag cs,v,hp,h=>by
  simp only[iQ]at hp
  simp only[Rep]at h ⊢
  obtain⟨vs,h1,h2⟩:=h
  exact⟨vs,h1,nD cs vs hp h2⟩
 |.tu cs,v,hp,h=>by
  simp only[iQ]at hp
  simp only[Rep]at h ⊢
  obtain⟨vs,h1,h2⟩:=h
  exact⟨vs,h1,nD cs vs hp h2⟩
 |.atom _,_,_,h=>by simpa only[Rep]using h
 |.emp,_,hp,_=>by simp[iQ]at hp
 |.dead,_,hp,_=>by simp[iQ]at hp
 |.ms _ _ _,_,hp,_=>by simp[iQ]at hp
 |.pt _ _,_,hp,_=>by simp[iQ]at hp
 |.ep _,_,hp,_=>by simp[iQ]at hp
 |.mp _,_,hp,_=>by simp[iQ]at hp
 |.fn _ _,_,hp,_=>by simp[iQ]at hp
 |.qu _ _ _ _,_,hp,_=>by simp[iQ]at hp
 |.pe _ _,_,hp,_=>by simp[iQ]at hp
 |.kap _ _ _,_,hp,_=>by simp[iQ]at hp
theorem nD{w:World}{g:G}:∀(cs:List LV) (vs:List Value),nV cs=true→aG w g cs vs→aG w G0 cs vs
 |[],vs,_,h=>h
 |c::cs,vs,hp,h=>by
  simp only[nV,Bool.and_eq_true]at hp
  simp only[aG]at h ⊢
  obtain⟨v,vs',rfl,h1,h2⟩:=h
  exact⟨v,vs',rfl,aCd c v hp.1 h1,nD cs vs' hp.2 h2⟩
theorem sY{w:World}{g:G}(b:Nat):∀(cs:List LV) (o:Nat),nV cs=true→aN w g b cs o→aN w G0 b cs o
 |[],_,_,h=>h
 |c::cs,o,hp,h=>by
  simp only[nV,Bool.and_eq_true]at hp
  simp only[aN]at h ⊢
  obtain⟨⟨v,h1,h2,h3⟩,h4⟩:=h
  exact⟨⟨v,h1,aCd c v hp.1 h2,aQk b o⟩,sY b cs (o+1) hp.2 h4⟩
end
theorem zA{P:Program}{f:FuncId}{args:List LV}{r0:LV}{st:St}(ha:nV args=true)(hr:∀(w:World) (g g':G) v,Rep w g r0 v→Rep w g' r0 v)
 (h:aB P f args ⟨1,fun _=>.dead⟩ fun r _=>r=r0):aB P f args st fun r st'=>r=r0∧st'=st:=by
 refine⟨h.1,fun w g vs hi hrp=>?_⟩
 have hi0:Inv w G0 ⟨1,fun _=>.dead⟩:=by
  refine⟨rfl,by decide,fun _ _=>rfl,fun l hl=>hl.elim,fun l l' hl=>hl.elim,fun l e s n hl=>(by cases hl),fun l e s cs hl=>(by cases hl),fun l ag ks es hl=>(by cases hl),fun l e n hl=>(by cases hl),oV (hi.aside.glob.phi fun _ _ _ _ _=>rfl) fun _=>rfl⟩
 refine(h.2 w _ vs hi0 (nD _ _ ha hrp)).mono ?_
 rintro e w' ⟨v,r,st',g',rfl,rfl,hrep,_,he⟩
 have hB:Below w.heap.size w w':=⟨he.os,he.tape,he.output,he.size,fun k hk=>(he.still k hk rfl).2⟩
 exact⟨v,_,st,g,rfl,⟨rfl,rfl⟩,hr _ _ _ _ hrep,zP hi hB,rX g hB⟩
def aPD(k:Int)(p:LV×St):Bool:=match p.1 with
 |.atom (.int .i64 n)=>n==k
 |_=>false
def xIP(k:Int)(r:Option (List (LV×St))):Bool:=match r with
 |some l=>l.all (aPD k)
 |none=>false
theorem tP{T:Tab}{fns:FuncId→Option Func}{pr:fO}(hT:bC Tryz.prog T)(hf:zO Tryz.prog fns)(hp:jM Tryz.prog pr)(hm:Tryz.prog.follows .mixedOrders=true)(n:Nat){f:FuncId}{args:List LV}{k:Int}{st:St}(ha:nV args=true)
 (h:xIP k (lT T fns pr n f args ⟨1,fun _=>.dead⟩)=true):aB Tryz.prog f args st fun r st'=>r=i k∧st'=st:=by
 cases hx:lT T fns pr n f args ⟨1,fun _=>.dead⟩ with
 |none=>rw[hx]at h;simp[xIP]at h
 |some l=>
  rw[hx]at h
  simp only[xIP]at h
  rw[List.all_eq_true]at h
  have:=kM hT hf hp (fun N c fr st L hx=>tA hT hf hp hm n N c fr st L hx) f args _ l hx
  refine zA ha (fun w g g' v h=>by simp only[Rep]at h ⊢;exact h) (this.mono ?_)
  intro r1 st1 hmm
  have hb:=h _ hmm
  unfold aPD at hb
  split at hb
  ·rename_i m c
   simp only at c
   rw[c,eq_of_beq hb]
  ·cases hb
def aLh:Mp:=⟨yR,[[2,7],[3,4],[5,6]]⟩
theorem aES(st:St):aB Tryz.prog 21 [.ag (mpL aLh)] st fun r st'=>r=i 0∧st'=st:=
 tP aF aFS uX mixed 1000000 (by kernel_rfl) (by kernel_rfl)
theorem aJb(st:St):aB Tryz.prog 39 [] st fun r st'=>r=bb true∧st'=st:=by
 refine qO aF Tryz.func39 rfl rfl Tryz.ntmps39 (rs:=[.tmp 0]) rfl sS ?_
 (repeat' (first|refine qS ?_|(refine w_e [] ?_;intro J hJ;simp only[];simp[];(try refine hJ _ _ (zZ ?_)))))
 refine qE (aMV _) (by simp[]) ?_;rintro r st' ⟨rfl,rfl⟩
 (repeat' (first|(refine qR (zZ ?_);simp[])|(refine aE ?_;simp[];refine hJ _ _ (zZ ?_))))
theorem aJr(st:St):aB Tryz.prog 40 [] st fun r st'=>r=bb true∧st'=st:=by
 refine qO aF Tryz.func40 rfl rfl Tryz.ntmps40 (rs:=[.tmp 0]) rfl sS ?_
 (repeat' (first|refine qS ?_|(refine w_e [] ?_;intro J hJ;simp only[];simp[];(try refine hJ _ _ (zZ ?_)))))
 refine qE (aLW _) (by simp[]) ?_;rintro r st' ⟨rfl,rfl⟩
 (repeat' (first|(refine qR (zZ ?_);simp[])|(refine aE ?_;simp[];refine hJ _ _ (zZ ?_))))
set_option maxHeartbeats 1000000 in
theorem aMm(st:St):aB Tryz.prog 15 [] st fun r st'=>r=bb true∧st'=st:=by
 refine qT (Q:=fun r=>r=bb true) ?_ fun r h=>by subst h;trivial
 have hE1:=aEv yR (by decide) (by decide) aJx
 have hE2:=aEv cY (by decide) (by decide) rM
 have hR:=fun s=>aES s
 refine qO aF Tryz.func15 rfl rfl Tryz.ntmps15 (rs:=[.tmp 0]) rfl sS ?_
 (repeat' (first|refine qS ?_|(refine w_e [] ?_;intro J hJ;simp only[];simp[];(try refine hJ _ _ (zZ ?_)))))
 refine aAa (hE1 _) (by simp[z0,z0L,grL,yR,us,eds,edL]) ?_;rintro r s1 ⟨rfl,hk1⟩
 unfold aFm
 have hn1:=hk1.next
 simp only[aC]at hn1
 (repeat' (first|refine qS ?_|((first|(refine w_e [] ?_;intro J hJ;simp only[])|(refine aE ?_));simp[];(try refine hJ _ _ (zZ ?_)))))
 refine qE (aJy _) sS ?_;rintro r s2 ⟨rfl,hk2⟩
 have hn2:=hk2.next
 simp only[aC]at hn2
 have hB2:s2.H s1.next=.box 39 3 (mpL aLh):=by rw[hk2.H _ sS];simp[aLh]
 have hK2:aA st s2:=((((aA.new _ _).trans (aA.new _ _)).trans hk1).trans (aA.new _ _)).trans hk2
 (repeat' (refine aE ?_;simp[]))
 refine qE (hE2 _) sS ?_;rintro r s3 ⟨rfl,hk3⟩
 unfold aFm
 have hn3:=hk3.next
 have hB3:=(hk3.H s1.next oO).trans hB2
 have c1:¬s1.next=s3.next:=oO
 have h3:aLh.g.es.length=3:=rfl
 (repeat' (first|refine qS ?_|((first|(refine w_e [] ?_;intro J hJ;simp only[])|(refine aE ?_));simp[hB3,c1];(try refine hJ _ _ (zZ ?_)))))
 refine qE (hR _) (by simp[mpL,grL]) ?_;rintro r s4 ⟨rfl,e4⟩
 rw[e4];clear e4 s4
 (repeat' (refine aE ?_;simp[hB3,c1,h3]))
 refine qE (aJb _) sS ?_;rintro r s4 ⟨rfl,e4⟩
 rw[e4];clear e4 s4
 (repeat' (refine aE ?_;simp[hB3,c1,h3]))
 refine qE (aJr _) sS ?_;rintro r s4 ⟨rfl,e4⟩
 rw[e4];clear e4 s4
 (repeat' (first|(refine qR (zZ ?_);simp[hB3,c1,h3])|(refine aE ?_;simp[hB3,c1,h3];refine hJ _ _ (zZ ?_))))
 exact(hK2.trans hk3).trans (aA.new _ _)
theorem aHq(l:List Ed)(p:Ed→Bool)(k:Nat)(hk:k<l.length):(l.take (k+1)).any p=((l.take k).any p||p (l.getD k ed0)):=by
 rw[List.take_succ_eq_append_getElem hk,List.any_append,List.getD_eq_getElem?_getD,List.getElem?_eq_getElem hk]
 simp
theorem aBy(l:List Int)(p:Int→Bool)(k:Nat)(hk:k<l.length):(l.take (k+1)).filter p=(l.take k).filter p++if p (l.getD k 0)=true then [l.getD k 0]else []:=by
 rw[List.take_succ_eq_append_getElem hk,List.filter_append,List.getD_eq_getElem?_getD,List.getElem?_eq_getElem hk]
 by_cases h:p l[k]=true<;>simp[h]
theorem aBk{st:St}{a b:Nat}{x y:cA}(ha:st.H a=x)(hb:st.H b=y)(h:x≠y):¬a=b:=fun e=>h (by rw[← ha,e,hb])
def aRU(t:Nat)(lo:St)(l:List Int)(st:St):Prop:=t≠0∧lo.next≤t∧t<st.next∧st.H t=.own 34 1 l.length
def aQc(l:List Int):LV:=.sl 0 l.length (us l)
def aIt(R:List (List Int)):List LV:=R.map aQc
@[simp] theorem aOw(R:List (List Int)):(aIt R).length=R.length:=by simp[aIt]
def lH(v:Int)(x:Ed):Bool:=x.a==v||x.b==v
def CU(p:Int→Bool)(B:Int)(mes:List (List Int×LV)):Prop:=∀ v,∃ c:Int,(aY mes [v]).getD (i 0)=i c∧0≤c∧c≤B∧(0<c↔p v=true)
theorem CU.one{p:Int→Bool}{B:Int}{mes:List (List Int×LV)}(h:CU p B mes)(a:Int){c:Int}(hc:(aY mes [a]).getD (i 0)=i c):CU (fun v=>p v||v==a) (B+1) (aV mes [a] (i (c+1))):=by
 intro v
 obtain⟨c0,h1,h2,h3,h4⟩:=h v
 rw[dA]
 by_cases hv:v=a
 ·subst hv
  rw[hc]at h1
  have hcc:c=c0:=by injection h1 with h1;injection h1
  subst hcc
  exact⟨c+1,sS,oO,oO,by simp;omega⟩
 ·rw[if_neg (by simpa using hv)]
  refine⟨c0,h1,h2,oO,?_⟩
  simp[hv,h4]
set_option maxHeartbeats 1000000 in
theorem aRf(g:Gr)(st:St)(hv:g.vs.length≤1000)(he:g.es.length≤1000)(hp:0<st.next):
 aB Tryz.prog 181 [.ag (grL g)] st fun r st'=>r=.ag (grL ⟨g.vs.filter fun v=>g.es.any (lH v),g.es⟩)∧aA st st':=by
 refine cQ ?_
 have hel:=aJ g.es
 refine qO aF Tryz.func181 rfl rfl Tryz.ntmps181 (rs:=[.cell 2 25]) rfl sS ?_
 (repeat' (first|refine qS ?_|refine qB ?_|(refine w_e [] ?_;intro J hJ;simp only[];simp[];(refine hJ _ _ (zZ ?_);clear hJ J))))
 refine aM 13 12 14 27 (g.es.length) (fun j fr st2=>fr 1=.pt st.next 0∧fr 2=.pt (st.next+1) 0∧fr 3=.mp (st.next+2)∧fr 11=.sl 0 g.es.length (eds g.es)∧st2.H st.next=.box 25 2 (grL g)∧st2.H (st.next+1)=.box 25 2 [.nil,.nil]∧st.next+2<st2.next∧aA st st2∧∃ mes,st2.H (st.next+2)=.map false [.u32] mes∧CU (fun v=>(g.es.take j).any (lH v)) (2*j) mes) ?_ ?_ ?_
 ·have e1:¬st.next=st.next+1+1:=oO
  refine⟨sS,sS,sS,sS,by simp[e1],sS,sS,((aA.new _ _).trans (aA.new _ _)).trans (aA.new _ _),[],sS,fun v=>⟨0,by simp[aY],oO,oO,sS⟩⟩
 ·rintro j fr s hlt ⟨f1,f2,f3,f11,hG,h2,hsn,hkp,mes,hM,hC⟩ fi fn J hJ
  have hd:=aW g.es j hlt
  have hk3:j*3<g.es.length*3:=oO
  have han:=fun v=>aHq g.es (lH v) j hlt
  generalize g.es.getD j ed0=x at *
  obtain⟨d,a,b⟩:=x
  obtain⟨c,c1,c2,c3,-⟩:=hC a
  have hC2:=hC.one a c1
  obtain⟨c',c1',c2',c3',-⟩:=hC2 b
  have hC3:=hC2.one b c1'
  have w1:IntKind.i64.wrap (c+1)=c+1:=wrap_i64 _ oO oO
  have w2:IntKind.i64.wrap (c'+1)=c'+1:=wrap_i64 _ oO oO
  have e1:¬st.next+2=s.next:=oO
  have e2:¬s.next=st.next+2:=oO
  (repeat' (first|refine qS ?_|(refine w_e [] ?_;intro J hJ;simp only[];simp[f1,f3,f11,fi,fn,hd,hel,hk3,hlt,hM,c1,c1',w1,w2,e1,e2];(refine hJ _ _ (zZ ?_);clear hJ J))))
  refine hJ _ _ (by simp[fi]) (by simp[fn]) ⟨by simp[f1],by simp[f2],by simp[f3],by simp[f11],?_,?_,by simp;omega,?_,aV (aV mes [a] (i (c+1))) [b] (i (c'+1)),sS,fun v=>?_⟩
  ·(repeat (first|rw[nHh nOo]|rw[sHh oO]|rw[nIi nQq]|rw[sIi oO]));exact hG
  ·(repeat (first|rw[nHh nOo]|rw[sHh oO]|rw[nIi nQq]|rw[sIi oO]));exact h2
  ·refine⟨by have:=hkp.next;simp;omega,fun l hl=>?_⟩
   (repeat (first|rw[nHh nOo]|rw[sHh oO]|rw[nIi nQq]|rw[sIi oO]));exact hkp.H l hl
  ·obtain⟨cv,k1,k2,k3,k4⟩:=hC3 v
   refine⟨cv,k1,k2,oO,?_⟩
   rw[k4]
   dsimp only
   rw[han v]
   simp only[lH,Bool.or_assoc]
   rw[show(v==a)=(a==v) from by rw[Bool.eq_iff_iff];simp;exact eq_comm,show(v==b)=(b==v) from by rw[Bool.eq_iff_iff];simp;exact eq_comm]
 ·rintro fr s ⟨f1,f2,f3,f11,hG,h2,hsn,hkp,mes,hM,hC⟩
  rw[List.take_length]at hC
  (repeat' (first|refine qS ?_|(refine w_e [] ?_;intro J hJ;simp only[];simp[f1,hG])))
  refine qE (aJD g.es 0 _ oO) sS ?_;rintro r s1 ⟨rfl,hk1⟩
  have hn1:=hk1.next
  have hG1:=(hk1.H st.next oO).trans hG
  have h21:=(hk1.H (st.next+1) oO).trans h2
  have hM1:=(hk1.H (st.next+2) oO).trans hM
  have hs1:st.next+2<s1.next:=oO
  have e1:¬st.next=s1.next:=oO
  have e2:¬st.next+1=s1.next:=oO
  have e3:¬st.next+2=s1.next:=oO
  have e4:¬st.next=s1.next+1:=oO
  (repeat' (first|refine qS ?_|refine qB ?_|((first|(refine w_e [] ?_;intro J hJ;simp only[])|(refine aE ?_));simp[hG1,e1,f1];(refine hJ _ _ (zZ ?_);clear hJ J))))
  refine wE s1.next 34 1 (e:=25) (s:=2) [] [.sl 0 g.es.length (eds g.es)] sS ?_
  refine aM 35 34 36 49 (g.vs.length) (fun j fr st2=>fr 2=.pt (st.next+1) 0∧fr 3=.mp (st.next+2)∧fr 6=.pt s1.next 0∧fr 33=.sl 0 g.vs.length (us g.vs)∧st2.H (st.next+1)=.box 25 2 [.nil,.nil]∧st2.H (st.next+2)=.map false [.u32] mes∧s1.next<st2.next∧aA st st2∧∃ t,st2.H s1.next=.box 25 2 [.sl t ((g.vs.take j).filter fun v=>g.es.any (lH v)).length (us ((g.vs.take j).filter fun v=>g.es.any (lH v))),.sl 0 g.es.length (eds g.es)]∧aRU t st ((g.vs.take j).filter fun v=>g.es.any (lH v)) st2) ?_ ?_ ?_
  ·refine⟨by simp[f2],by simp[f3],sS,sS,?_,?_,by simp;omega,?_,s1.next+1,sS,⟨oO,oO,sS,sS⟩⟩
   ·(repeat (first|rw[nHh nOo]|rw[sHh oO]|rw[nIi nQq]|rw[sIi oO]));exact h21
   ·(repeat (first|rw[nHh nOo]|rw[sHh oO]|rw[nIi nQq]|rw[sIi oO]));exact hM1
   ·refine⟨by have:=hkp.next;simp;omega,fun l hl=>?_⟩
    have:=hkp.next
    (repeat (first|rw[nHh nOo]|rw[sHh oO]|rw[nIi nQq]|rw[sIi oO]));rw[hk1.H l oO];exact hkp.H l hl
  ·clear f1 f2 f3 f11 hG h2 hsn hkp hM fr
   rintro j fr s2 hlt ⟨f2,f3,f6,f33,h22,hM2,hs2,hkp,t,hB,t1,t2,t3,t4⟩ fi fn J hJ
   have hd:=qG g.vs j hlt
   have htk:=aBy g.vs (fun v=>g.es.any (lH v)) j hlt
   have hfl:=List.length_filter_le (fun v=>g.es.any (lH v)) (g.vs.take j)
   rw[List.length_take]at hfl
   generalize g.vs.getD j 0=v at *
   generalize (g.vs.take j).filter (fun v=>g.es.any (lH v))=F at *
   obtain⟨c,c1,c2,c3,c4⟩:=hC v
   cases hany:g.es.any (lH v)
   ·have hc:¬0<c:=fun h=>by have h2:=c4.1 h;simp only[hany]at h2;cases h2
    rw[hany,if_neg sS,List.append_nil]at htk
    (repeat' (first|refine qS ?_|(refine qK (zZ ?_))|(refine qC ?_;simp[f3,f33,fi,fn,hd,hlt,hM2,c1,hc])|(refine w_e [] ?_;intro J hJ;simp only[];simp[f3,f33,fi,fn,hd,hlt,hM2,c1,hc];(refine hJ _ _ (zZ ?_);clear hJ J))))
    exact hJ _ _ (by simp[fi]) (by simp[fn]) ⟨by simp[f2],by simp[f3],by simp[f6],by simp[f33],h22,hM2,hs2,hkp,t,by rw[htk];exact hB,by rw[htk];exact⟨t1,t2,t3,t4⟩⟩
   ·have hc:0<c:=c4.2 hany
    rw[hany,if_pos rfl]at htk
    have q1:¬t=s2.next:=oO
    have q2:¬s1.next=s2.next:=oO
    have q3:¬s1.next=s2.next+1:=oO
    have q4:¬s1.next=t:=aBk hB t4 sS
    have q5:¬st.next+1=t:=aBk h22 t4 sS
    have q6:¬st.next+2=t:=aBk hM2 t4 sS
    (repeat' (first|refine qS ?_|(refine qC ?_;simp[f3,f6,f33,fi,fn,hd,hlt,hM2,c1,hc,hB,t4,q1,q2,q3,q4,t1])|(refine w_e [] ?_;intro J hJ;simp only[];simp[f3,f6,f33,fi,fn,hd,hlt,hM2,c1,hc,hB,t4,q1,q2,q3,q4,t1];(repeat refine ca ?_);(refine hJ _ _ (zZ ?_);clear hJ J))))
    refine hJ _ _ (by simp[fi]) (by simp[fn]) ⟨by simp[f2],by simp[f3],by simp[f6],by simp[f33],?_,?_,by simp;omega,?_,s2.next+1,by rw[htk];simp,by rw[htk];exact⟨oO,oO,sS,by(repeat (first|rw[nHh nOo]|rw[sHh oO]|rw[nIi nQq]|rw[sIi oO]));simp⟩⟩
    ·(repeat (first|rw[nHh nOo]|rw[sHh oO]|rw[nIi nQq]|rw[sIi oO]));exact h22
    ·(repeat (first|rw[nHh nOo]|rw[sHh oO]|rw[nIi nQq]|rw[sIi oO]));exact hM2
    ·refine⟨by have:=hkp.next;simp;omega,fun l hl=>?_⟩
     have:=hkp.next
     (repeat (first|rw[nHh nOo]|rw[sHh oO]|rw[nIi nQq]|rw[sIi oO]));exact hkp.H l hl
  ·clear f1 f2 f3 f11 hG h2 hsn hkp hM fr
   rintro fr s2 ⟨f2,f3,f6,f33,h22,hM2,hs2,hkp,t,hB,t1,t2,t3,t4⟩
   rw[List.take_length]at hB
   (repeat' (first|refine qS ?_|(refine qR (zZ ?_);simp[f2,f6,h22,hB,e2])|(refine w_e [] ?_;intro J hJ;simp only[];simp[f2,f6,h22,hB,e2];(refine hJ _ _ (zZ ?_);clear hJ J))))
   refine⟨?_,hkp.set oO _⟩
   simp only[z0,z0L,sM,kW]
def gG(L:Gr)(x:Ed):Gr:=⟨L.vs,L.es.filter fun y=>decide (y≠x)⟩
def iR(P:Gr→Bool):Gr→List Ed→Gr
 |L,[]=>L
 |L,x::xs=>iR P (if P (gG L x)=true then gG L x else L) xs
def sQ(P:Gr→Bool)(D:Gr→Prop):Gr→List Ed→Prop
 |_,[]=>True
 |L,x::xs=>D (gG L x)∧sQ P D (if P (gG L x)=true then gG L x else L) xs
def aDO(g:Gr):Gr:=⟨g.vs.filter fun v=>g.es.any (lH v),g.es⟩
theorem aFF(g:Gr)(hv:g.vs.length≤1000)(he:g.es.length≤10){o:Option Mp}(ho:(if chk g=0 then lR g (cB g)else some none)=some o)(st:St):
 aB Tryz.prog 18 [.ag (grL g)] st fun r st'=>r=bb o.isSome∧aA st st':=by
 refine qO aF Tryz.func18 rfl rfl Tryz.ntmps18 (rs:=[.tmp 2]) rfl sS ?_
 (repeat' (first|refine qS ?_|(refine w_e [] ?_;intro J hJ;simp only[];simp[];(try refine hJ _ _ (zZ ?_)))))
 refine qE (aEv g hv he ho _) sS ?_;rintro r s1 ⟨rfl,hk1⟩
 unfold aFm
 cases o with
 |none=>
  (repeat' (first|refine qS ?_|(refine qR (zZ ?_);simp[])|((first|(refine w_e [] ?_;intro J hJ;simp only[])|(refine aE ?_));simp[];refine hJ _ _ (zZ ?_))))
  exact((aA.new _ _).trans hk1).trans (aA.new _ _)
 |some m=>
  (repeat' (first|refine qS ?_|(refine qR (zZ ?_);simp[])|((first|(refine w_e [] ?_;intro J hJ;simp only[])|(refine aE ?_));simp[];refine hJ _ _ (zZ ?_))))
  exact((aA.new _ _).trans hk1).trans (aA.new _ _)
def aPi(f:FuncId)(caps:List LV)(st:St)(D:Gr→Prop)(P:Gr→Bool):Prop:=∀ g,D g→∀ s,aA st s→aB Tryz.prog f (.ag (grL g)::caps) s fun r s'=>r=bb (P g)∧aA s s'
theorem aMY(x:Ed)(st:St):aB Tryz.prog 179 [.ag (edL x)] st fun r st'=>r=bb true∧aA st st':=by
 obtain⟨d,a,b⟩:=x
 refine qO aF Tryz.func179 rfl rfl Tryz.ntmps179 (rs:=[.tmp 2]) rfl sS ?_
 (repeat' (first|refine qS ?_|(refine qR (zZ ?_);simp[])|(refine w_e [] ?_;intro J hJ;simp only[];simp[];refine hJ _ _ (zZ ?_))))
 exact aA.new _ _
theorem aLs(x y:Ed)(q:Nat)(st:St)(hq:st.H q=.box 56 3 (edL x))(hqn:q<st.next):
 aB Tryz.prog 180 [.ag (edL y),.pt q 0] st fun r st'=>r=bb (decide (y≠x))∧aA st st':=by
 obtain⟨d,a,b⟩:=x
 obtain⟨d',a',b'⟩:=y
 have h1:¬q=st.next:=oO
 refine qO aF Tryz.func180 rfl rfl Tryz.ntmps180 (rs:=[.tmp 3]) rfl sS ?_
 (repeat' (first|refine qS ?_|(refine qR (zZ ?_);simp[hq,h1])|(refine w_e [] ?_;intro J hJ;simp only[];simp[hq,h1];refine hJ _ _ (zZ ?_))))
 exact⟨rfl,aA.new _ _⟩
set_option maxHeartbeats 1000000 in
theorem aOJ(g:Gr)(f:FuncId)(caps:List LV)(P:Gr→Bool)(D:Gr→Prop)(st:St)(hv:g.vs.length≤1000)(he:g.es.length≤1000)(hp:0<st.next)(hT:aPi f caps st D P)(hD:D g)(hA:P g=true→sQ P D g g.es):
 aB Tryz.prog 128 [.ag (grL g),.fn (.func f) caps] st fun r st'=>r=.ag (grL (if P g=true then aDO (iR P g g.es)else⟨[],[]⟩))∧aA st st':=by
 refine cQ ?_
 have hel:=aJ g.es
 refine qO aF Tryz.func128 rfl rfl Tryz.ntmps128 (rs:=[.cell 4 25]) rfl sS ?_
 (repeat' (first|refine qS ?_|(refine w_e [] ?_;intro J hJ;simp only[];simp[];(try refine hJ _ _ (zZ ?_)))))
 refine qE (aFG g _ [] (fun _=>true) _ hv he (fun x _ s _=>aMY x s)) (by simp[grL]) ?_;rintro r s1 ⟨rfl,hk1⟩
 rw[List.filter_eq_self.2 (fun _ _=>rfl)]
 have hn1:=hk1.next
 simp only[aC]at hn1
 have hG1:s1.H st.next=.box 25 2 (grL g):=by rw[hk1.H _ (by simp;omega)];simp
 have hR1:s1.H (st.next+1)=.box 25 2 [.nil,.nil]:=by rw[hk1.H _ sS];simp
 have hK1:aA st s1:=((aA.new _ _).trans (aA.new _ _)).trans hk1
 have a1:¬st.next=s1.next:=oO
 have a2:¬st.next+1=s1.next:=oO
 clear hk1
 (repeat' (first|refine qS ?_|((first|(refine w_e [] ?_;intro J hJ;simp only[])|(refine aE ?_));simp[];(try refine hJ _ _ (zZ ?_)))))
 refine qF (hT g hD _ (hK1.trans (aA.new _ (.box 25 2 (grL g))))) ?_;rintro r s2 ⟨rfl,hk2⟩
 have hn2:=hk2.next
 simp only[aC]at hn2
 have hG2:s2.H st.next=.box 25 2 (grL g):=by rw[hk2.H _ (by simp;omega)];simp[a1,hG1]
 have hR2:s2.H (st.next+1)=.box 25 2 [.nil,.nil]:=by rw[hk2.H _ (by simp;omega)];simp[a2,hR1]
 have hL2:s2.H s1.next=.box 25 2 (grL g):=by rw[hk2.H _ sS];simp
 have hK2:aA st s2:=(hK1.trans (aA.new _ _)).trans hk2
 clear hk2 hG1 hR1
 cases hP:P g with
 |false=>
  (repeat' (first|refine qS ?_|(refine qR (zZ ?_);simp[hP,hR2])|(refine qC ?_;simp[hP,hR2])|((first|(refine w_e [] ?_;intro J hJ;simp only[])|(refine aE ?_));simp[hP,hR2];refine hJ _ _ (zZ ?_))))
  refine⟨by simp[z0,z0L,grL],hK2.set oO _⟩
 |true=>
 (repeat' (first|refine qS ?_|refine qB ?_|(refine qK (zZ ?_))|(refine qC ?_;simp[hP,hG2])|((first|(refine w_e [] ?_;intro J hJ;simp only[])|(refine aE ?_));simp[hP,hG2];refine hJ _ _ (zZ ?_))))
 refine aM 19 18 20 30 (g.es.length) (fun j fr st2=>fr 1=.fn (.func f) caps∧fr 4=.pt (st.next+1) 0∧fr 5=.pt s1.next 0∧fr 17=.sl 0 g.es.length (eds g.es)∧st2.H (st.next+1)=.box 25 2 [.nil,.nil]∧s1.next<st2.next∧aA st st2∧∃ L:Gr,st2.H s1.next=.box 25 2 (grL L)∧L.vs.length≤g.vs.length∧L.es.length≤g.es.length∧sQ P D L (g.es.drop j)∧iR P L (g.es.drop j)=iR P g g.es) ?_ ?_ ?_
 ·exact⟨sS,sS,sS,sS,hR2,oO,hK2,g,hL2,Nat.le_refl _,Nat.le_refl _,by simpa using hA hP,sS⟩
 ·clear hG2 hR2 hL2
  rintro j fr s hlt ⟨f1,f4,f5,f17,hR,hsn,hK,L,hL,hLv,hLe,hAs,hLe2⟩ fi fn JO hJO
  have hd:=aW g.es j hlt
  have hdr:g.es.drop j=g.es.getD j ed0::g.es.drop (j+1):=by
   rw[List.getD_eq_getElem?_getD,List.getElem?_eq_getElem hlt];exact List.drop_eq_getElem_cons hlt
  rw[hdr]at hAs hLe2
  have hk3:j*3<g.es.length*3:=oO
  generalize g.es.getD j ed0=x at *
  obtain⟨hDx,hAs⟩:=hAs
  simp only[iR]at hLe2
  have b1:¬s1.next=s.next:=oO
  have hfl:=List.length_filter_le (fun y:Ed=>decide (y≠x)) L.es
  have hTe:aCc 180 [.pt s.next 0] (s.new (.box 56 3 (edL x))) L.es fun y=>decide (y≠x):=fun y _ s2 h2=>aLs x y s.next s2 (by rw[h2.H _ sS];simp) (by have:=h2.next;simp at this;omega)
  obtain⟨dx,ax,bx⟩:=x
  (repeat' (first|refine qS ?_|(refine w_e [] ?_;intro J hJ;simp only[];simp[f1,f5,f17,fi,fn,hd,hel,hlt,hk3,hL,b1];(try refine hJ _ _ (zZ ?_)))))
  refine qE (aFG L _ _ _ _ oO oO hTe) (by simp[grL]) ?_;rintro r s3 ⟨rfl,hk3'⟩
  have hn3:=hk3'.next
  simp only[aC]at hn3
  have hR3:s3.H (st.next+1)=.box 25 2 [.nil,.nil]:=by rw[hk3'.H _ (by simp;omega)];simp[show ¬st.next+1=s.next by omega,hR]
  have hL3:s3.H s1.next=.box 25 2 (grL L):=by rw[hk3'.H _ (by simp;omega)];simp[b1,hL]
  have hK3:aA st s3:=(hK.trans (aA.new _ _)).trans hk3'
  clear hk3' hL hR
  have c1:¬s1.next=s3.next:=oO
  have c2:¬st.next+1=s3.next:=oO
  change sQ P D (if P (gG L ⟨dx,ax,bx⟩)=true then gG L ⟨dx,ax,bx⟩else L) (g.es.drop (j+1))at hAs
  have hlg:(⟨L.vs,L.es.filter fun y=>decide (y≠⟨dx,ax,bx⟩)⟩:Gr)=gG L ⟨dx,ax,bx⟩:=rfl
  have hlv:(gG L ⟨dx,ax,bx⟩).vs.length≤g.vs.length:=hLv
  have hle:(gG L ⟨dx,ax,bx⟩).es.length≤g.es.length:=by unfold gG;simp only;omega
  rw[hlg]
  generalize gG L ⟨dx,ax,bx⟩=L' at *
  (repeat' (first|refine qS ?_|((first|(refine w_e [] ?_;intro J hJ;simp only[])|(refine aE ?_));simp[f1];(try refine hJ _ _ (zZ ?_)))))
  refine qF (hT L' hDx _ (hK3.trans (aA.new _ (.box 25 2 (grL L'))))) ?_;rintro r s4 ⟨rfl,hk4⟩
  have hn4:=hk4.next
  simp only[aC]at hn4
  have hR4:s4.H (st.next+1)=.box 25 2 [.nil,.nil]:=by rw[hk4.H _ (by simp;omega)];simp[c2,hR3]
  have hL4:s4.H s1.next=.box 25 2 (grL L):=by rw[hk4.H _ (by simp;omega)];simp[c1,hL3]
  have hX4:s4.H s3.next=.box 25 2 (grL L'):=by rw[hk4.H _ sS];simp
  have hK4:aA st s4:=(hK3.trans (aA.new _ _)).trans hk4
  clear hk4
  cases hPx:P L' with
  |false=>
   rw[hPx,if_neg sS]at hAs hLe2
   (repeat' (first|(refine qK (zZ ?_))|(refine qC ?_;simp[])|(refine aE ?_;simp[];refine hJ _ _ (zZ ?_))))
   exact hJO _ _ (by simp[fi]) (by simp[fn]) ⟨by simp[f1],by simp[f4],by simp[f5],by simp[f17],hR4,oO,hK4,L,hL4,hLv,hLe,hAs,hLe2⟩
  |true=>
   rw[hPx,if_pos rfl]at hAs hLe2
   have c3:¬st.next+1=s1.next:=oO
   (repeat' (first|(refine qC ?_;simp[f5,hX4,hL4])|((first|(refine w_e [] ?_;intro J hJ;simp only[])|(refine aE ?_));simp[f5,hX4,hL4];refine hJ _ _ (zZ ?_))))
   exact hJO _ _ (by simp[fi]) (by simp[fn]) ⟨by simp[f1],by simp[f4],by simp[f5],by simp[f17],by simp[c3,hR4],by simp;omega,hK4.set oO _,L',sS,hlv,hle,hAs,hLe2⟩
 ·rintro fr s ⟨f1,f4,f5,f17,hR,hsn,hK,L,hL,hLv,hLe,hAs,hLe2⟩
  rw[List.drop_length]at hLe2
  simp only[iR]at hLe2
  rw[← hLe2]
  (repeat' (first|refine qS ?_|(refine w_e [] ?_;intro J hJ;simp only[];simp[f5,hL])))
  refine qE (aRf L _ oO oO oO) (by simp[grL]) ?_;rintro r s3 ⟨rfl,hk3⟩
  have hR3:=(hk3.H (st.next+1) oO).trans hR
  (repeat' (first|(refine qR (zZ ?_);simp[f4,hR3])|(refine aE ?_;simp[f4,hR3];refine hJ _ _ (zZ ?_))))
  refine⟨by simp only[z0,z0L,grL,aDO,sM,kW],(hK.trans hk3).set oO _⟩
noncomputable def aCr(g:Gr):Option (Option Mp):=if chk g=0 then lR g (cB g)else some none
noncomputable def jO(g:Gr):Bool:=!((aCr g).getD none).isSome
def aIw(g:Gr):Prop:=g.vs.length≤1000∧g.es.length≤10∧∃ o,aCr g=some o
theorem aOs(g:Gr)(hD:aIw g)(st:St):aB Tryz.prog 129 [.ag (grL g)] st fun r st'=>r=bb (jO g)∧aA st st':=by
 obtain⟨hv,he,o,ho⟩:=hD
 have hn:jO g=!o.isSome:=by unfold jO;rw[ho];rfl
 rw[hn]
 refine qO aF Tryz.func129 rfl rfl Tryz.ntmps129 (rs:=[.tmp 2]) rfl sS ?_
 (repeat' (first|refine qS ?_|(refine w_e [] ?_;intro J hJ;simp only[];simp[];(try refine hJ _ _ (zZ ?_)))))
 refine qE (aFF g hv he ho _) sS ?_;rintro r s1 ⟨rfl,hk1⟩
 (repeat' (first|(refine qR (zZ ?_);simp[])|(refine aE ?_;simp[];refine hJ _ _ (zZ ?_))))
 exact(aA.new _ _).trans hk1
noncomputable def qA(g:Gr):LV:=.tu [.ag (grL (if chk g=0∧jO g=true then aDO (iR jO g g.es)else⟨[],[]⟩)),bb (decide (chk g=0)&&jO g)]
theorem aNn(g:Gr)(hD:aIw g)(hA:jO g=true→sQ jO aIw g g.es)(st:St)(hp:0<st.next):
 aB Tryz.prog 92 [.ag (grL g)] st fun r st'=>r=qA g∧aA st st':=by
 obtain⟨hv,he,o,ho⟩:=hD
 have hn:jO g=!o.isSome:=by unfold jO;rw[ho];rfl
 refine cQ ?_
 refine qO aF Tryz.func92 rfl rfl Tryz.ntmps92 (rs:=[.cell 2 25,.tmp 3]) rfl sS ?_
 (repeat' (first|refine qS ?_|(refine w_e [] ?_;intro J hJ;simp only[];simp[];(try refine hJ _ _ (zZ ?_)))))
 refine qE (Check g _ hv oO) sS ?_;rintro r s1 ⟨rfl,hk1⟩
 have hn1:=hk1.next
 simp only[aC]at hn1
 have hG1:s1.H st.next=.box 25 2 (grL g):=by rw[hk1.H _ (by simp;omega)];simp
 have hR1:s1.H (st.next+1)=.box 25 2 [.nil,.nil]:=by rw[hk1.H _ sS];simp
 have hK1:aA st s1:=((aA.new _ _).trans (aA.new _ _)).trans hk1
 clear hk1
 by_cases hc:chk g=0
 rotate_left
 ·have hc2:(chk g != 0)=true:=by simpa using hc
  have hfr:qA g=.tu [.ag (grL ⟨[],[]⟩),bb false]:=by unfold qA;rw[if_neg fun h=>hc h.1,decide_eq_false hc];rfl
  (repeat' (first|refine qS ?_|(refine qR (zZ ?_);simp[hc2,hR1])|(refine qC ?_;simp[hc2,hR1])|((first|(refine w_e [] ?_;intro J hJ;simp only[])|(refine aE ?_));simp[hc2,hR1];refine hJ _ _ (zZ ?_))))
  refine⟨by rw[hfr];simp[z0,z0L,grL],hK1.set oO _⟩
 have hc2:(chk g != 0)=false:=by simpa using hc
 (repeat' (refine aE ?_;simp[hc2,hG1]))
 refine qE (aFF g hv he ho _) sS ?_;rintro r s2 ⟨rfl,hk2⟩
 have hn2:=hk2.next
 have hG2:s2.H st.next=.box 25 2 (grL g):=(hk2.H _ oO).trans hG1
 have hR2:s2.H (st.next+1)=.box 25 2 [.nil,.nil]:=(hk2.H _ oO).trans hR1
 have hK2:aA st s2:=hK1.trans hk2
 clear hk2
 cases o with
 |some m=>
  have hnf:jO g=false:=hn
  have hfr:qA g=.tu [.ag (grL ⟨[],[]⟩),bb false]:=by unfold qA;rw[if_neg fun h=>by rw[hnf]at h;exact absurd h.2 sS,hnf];simp
  (repeat' (first|refine qS ?_|(refine qR (zZ ?_);simp[hc2,hR2])|(refine qC ?_;simp[hc2,hR2])|((first|(refine w_e [] ?_;intro J hJ;simp only[])|(refine aE ?_));simp[hc2,hR2];refine hJ _ _ (zZ ?_))))
  refine⟨by rw[hfr];simp[z0,z0L,grL],hK2.set oO _⟩
 |none=>
  have hnt:jO g=true:=hn
  have hfr:qA g=.tu [.ag (grL (aDO (iR jO g g.es))),bb true]:=by unfold qA;rw[if_pos ⟨hc,hnt⟩,hnt,decide_eq_true hc];rfl
  (repeat' (first|refine qS ?_|(refine qK (zZ ?_))|(refine qC ?_;simp[hc2,hG2])|((first|(refine w_e [] ?_;intro J hJ;simp only[])|(refine aE ?_));simp[hc2,hG2];(try refine hJ _ _ (zZ ?_)))))
  refine qE (aOJ g 129 [] jO aIw _ hv oO oO (fun g' hg' s _=>aOs g' hg' s) ⟨hv,he,none,ho⟩ hA) sS ?_;rintro r s3 ⟨rfl,hk3⟩
  rw[if_pos hnt]
  have hR3:s3.H (st.next+1)=.box 25 2 [.nil,.nil]:=(hk3.H _ oO).trans hR2
  (repeat' (first|(refine qR (zZ ?_);simp[hR3])|(refine aE ?_;simp[hR3];refine hJ _ _ (zZ ?_))))
  refine⟨by rw[hfr];simp only[z0,z0L,grL,sM,kW],(hK2.trans hk3).set oO _⟩
theorem aAw{P:Gr→Bool}{D:Gr→Prop}{L:Gr}:∀ {xs:List Ed},(∀ x∈xs,D (gG L x)∧P (gG L x)=false)→sQ P D L xs∧iR P L xs=L
 |[],_=>⟨trivial,rfl⟩
 |x::xs,h=>by
  obtain⟨h1,h2⟩:=h x sS
  have ih:=aAw (L:=L) fun y hy=>h y (List.mem_cons_of_mem _ hy)
  simp only[sQ,iR,h2,Bool.false_eq_true,if_false]
  exact⟨⟨h1,ih.1⟩,ih.2⟩
def aOf(g:Gr):Bool:=decide (chk g=0)&&decide ((nN (sE g.es) g.vs.length g.vs ⟨[],[],[],[]⟩).map (·.out)=some [List.range (sE g.es).length])&&decide ((List.range (sE g.es).length).map (eAt (sE g.es))=g.es)&&decide (((lR g [g.es]).map Option.isSome)=some true)
theorem aIp{g:Gr}(h:aOf g=true):∃ m,aCr g=some (some m):=by
 unfold aOf at h
 simp only[Bool.and_eq_true,decide_eq_true_eq]at h
 obtain⟨⟨⟨h1,h2⟩,h3⟩,h4⟩:=h
 unfold aCr
 rw[if_pos h1,nK (eP h1) h2 (List.Perm.refl _) sS]
 simp only[List.map_cons,List.map_nil,h3]
 cases he:lR g [g.es] with
 |none=>rw[he]at h4;cases h4
 |some o=>
  rw[he]at h4
  cases o with
  |none=>cases h4
  |some m=>exact⟨m,rfl⟩
theorem aHE:(cY.es.all fun x=>aOf (gG cY x))=true:=by decide +kernel
theorem zU:jO cY=true:=by
 unfold jO aCr;rw[rM];rfl
theorem aAo:sQ jO aIw cY cY.es∧iR jO cY cY.es=cY:=by
 refine aAw fun x hx=>?_
 obtain⟨m,hm⟩:=aIp (List.all_eq_true.1 aHE x hx)
 have hl:=List.length_filter_le (fun y:Ed=>decide (y≠x)) cY.es
 have hl2:cY.es.length=10:=rfl
 have hl3:(gG cY x).vs.length=5:=rfl
 refine⟨⟨oO,by simp only[gG];omega,_,hm⟩,?_⟩
 unfold jO;rw[hm];rfl
theorem aIg:aDO cY=cY:=by decide
def aIb:Gr:=⟨[1],[]⟩
theorem aCy:chk aIb=0:=by decide +kernel
theorem aCw:aCr aIb=some (some ⟨aIb,[[]]⟩):=by
 unfold aCr
 rw[if_pos aCy,nK (eP aCy) (out:=[]) (by decide +kernel) (List.Perm.refl _) (by decide)]
 rfl
theorem vR:jO aIb=false:=by unfold jO;rw[aCw];rfl
theorem aLi(st:St):aB Tryz.prog 93 [] st fun r st'=>r=bb true∧st'=st:=by
 refine qO aF Tryz.func93 rfl rfl Tryz.ntmps93 (rs:=[.tmp 0]) rfl sS ?_
 (repeat' (first|refine qS ?_|(refine w_e [] ?_;intro J hJ;simp only[];simp[];(try refine hJ _ _ (zZ ?_)))))
 refine qE (aMm _) (by simp[]) ?_;rintro r st' ⟨rfl,rfl⟩
 (repeat' (first|(refine qR (zZ ?_);simp[])|(refine aE ?_;simp[];refine hJ _ _ (zZ ?_))))
set_option maxHeartbeats 1000000 in
theorem aMM(st:St):aB Tryz.prog 58 [] st fun r st'=>r=bb true∧st'=st:=by
 refine qT (Q:=fun r=>r=bb true) ?_ fun r h=>by subst h;trivial
 refine qO aF Tryz.func58 rfl rfl Tryz.ntmps58 (rs:=[.tmp 0]) rfl sS ?_
 refine cG fun hpos=>?_
 (repeat' (first|refine qS ?_|(refine w_e [] ?_;intro J hJ;simp only[];simp[];(try refine hJ _ _ (zZ ?_)))))
 refine qE (aJy _) sS ?_;rintro r s1 ⟨rfl,hk1⟩
 have hn1:=hk1.next
 have hF:=aNn cY ⟨by decide,by decide,none,by unfold aCr;exact rM⟩ (fun _=>aAo.1) s1 oO
 unfold qA at hF
 rw[if_pos ⟨nF,zU⟩,zU,aAo.2,aIg,decide_eq_true nF]at hF
 (repeat' (refine aE ?_;simp[]))
 refine qE hF sS ?_;rintro r s2 ⟨rfl,hk2⟩
 have hn2:=hk2.next
 have hF1:=fun st hp=>aNn aIb ⟨by decide,by decide,_,aCw⟩ (fun h=>by rw[vR]at h;cases h) st hp
 unfold qA at hF1
 rw[if_neg fun h=>by rw[vR]at h;exact absurd h.2 sS,vR,Bool.and_false]at hF1
 (repeat' (first|refine qS ?_|((first|(refine w_e [] ?_;intro J hJ;simp only[])|(refine aE ?_));simp[];(try refine hJ _ _ (zZ ?_)))))
 refine aAa (hF1 _ sS) (by simp[z0,z0L,grL,aIb,us,eds]) ?_;rintro r s3 ⟨rfl,hk3⟩
 have hn3:=hk3.next
 simp only[aC]at hn3
 have hB3:s3.H s2.next=.box 25 2 (grL cY):=by rw[hk3.H _ (by simp;omega)];simp[show ¬s2.next=s2.next+1 by omega]
 have hK3:aA st s3:=((hk1.trans hk2).trans ((aA.new _ _).trans (aA.new _ _))).trans hk3
 have b1:¬s2.next=s3.next:=oO
 (repeat' (first|refine qS ?_|(refine aE ?_;simp[];refine hJ _ _ (zZ ?_))))
 (refine w_s [] [s2.next] [(0,true),(1,true),(2,true),(3,true),(4,false),(5,true),(6,true),(7,true),(8,true),(9,true),(10,true),(11,true),(12,true),(13,true)] ?_;intro J hJ;simp[hB3,b1])
 refine qD (aJy _) sS ?_;rintro r s4 ⟨rfl,hk4⟩
 have hn4:=hk4.next
 simp only[aC]at hn4
 have hB4:s4.H s2.next=.box 25 2 (grL cY):=by rw[hk4.H _ (by simp;omega)];simp[b1,hB3]
 refine⟨fun _=>by simp[hB4,hB3,b1],?_⟩
 (refine bE ?_;simp[hB4])
 refine qD (aAs cY cY _ (by decide) (by decide)) sS ?_;rintro r s5 ⟨rfl,hk5⟩
 have hB5:=(hk5.H s2.next oO).trans hB4
 refine⟨fun _=>by simp[hB5,hB3,b1],?_⟩
 (refine bE ?_;simp[hB5])
 refine qD (aLi _) sS ?_;rintro r s6 ⟨rfl,e6⟩
 rw[e6];clear e6 s6
 refine⟨fun _=>by simp[hB5,hB3,b1],?_⟩
 (refine bE ?_;simp[hB5];refine hJ _ _ (zZ ?_))
 (repeat' (refine qR (zZ ?_);simp[]))
 exact((hK3.trans (aA.new _ _)).trans hk4).trans hk5
theorem aMW(st:St):aB Tryz.prog 28 [] st fun r st'=>r=bb true∧st'=st:=by
 refine qO aF Tryz.func28 rfl rfl Tryz.ntmps28 (rs:=[.tmp 0]) rfl sS ?_
 (repeat' (first|refine qS ?_|(refine w_e [] ?_;intro J hJ;simp only[];simp[];(try refine hJ _ _ (zZ ?_)))))
 refine qE (aMM _) (by simp[]) ?_;rintro r st' ⟨rfl,rfl⟩
 (repeat' (first|(refine qR (zZ ?_);simp[])|(refine aE ?_;simp[];refine hJ _ _ (zZ ?_))))
def aNq:fO:=fun f args st=>if f=28 then match args with
 |[]=>some [(bb true,st)]
 |_=>none
 else aOj f args st
theorem aIq:jM Tryz.prog aNq:=by
 intro f args st rs h
 unfold aNq at h
 split at h
 ·rename_i hf
  subst hf
  split at h
  ·simp only[Option.some.injEq]at h;subst h
   refine aB.mono (aMW st) ?_
   rintro r st' ⟨rfl,rfl⟩
   exact List.mem_singleton.2 rfl
  ·cases h
 ·exact uX f args st rs h
theorem aLO(st:St):aB Tryz.prog 7 [] st fun r st'=>r=bb true∧st'=st:=
 hU aF aFS aIq mixed 1000000 true (by kernel_rfl)
end Go.Proofs.YtempldclppogmaaGreatDoor.Aw
namespace Go.Proofs.YtempldclppogmaaGreatDoor.Aw
open Go Go.RowKit Go.Proofs.YtempldclppogmaaGreatDoor.Pl Go.Proofs.YtempldclppogmaaGreatDoor.Eu
theorem wJ{m:Mp}(h:bY m){d:Int}(hd:d∈aU m.g.es):2≤d∧d≤2097153:=by
 obtain⟨x,hx,h1⟩:=fZ.1 hd
 have:=h.g.pos x hx
 omega
theorem bY.cyc_le{m:Mp}(h:bY m){d:Int}(hd:d∈aU m.g.es){L:List Int}(hc:fP (fc m m.g.es) d L):(∀ x∈L,x∈aU m.g.es)∧L.length≤2*m.g.es.length:=by
 have hdk:∀ k,it (fc m m.g.es) k d∈aU m.g.es:=by
  intro k
  induction k with
  |zero=>exact hd
  |succ k ih=>rw[dZ];exact h.fc_dart _ _ ih
 have hs:∀ x∈L,x∈aU m.g.es:=fun x hx=>by
  obtain⟨n,rfl⟩:=hc.mem.1 hx
  exact hdk n
 have:=List.Nodup.length_le_of_subset (hc.nodup (h.fc_inj _)) (l₂:=aU m.g.es) hs
 rw[fD]at this
 exact⟨hs,this⟩
def aQu(m:Mp)(d:Int)(S:Int→Prop)(ms:Nat)(st:St)(r:LV)(st':St):Prop:=
 (∃ t L,r=.sl t L.length (us L)∧fP (fc m m.g.es) d L)∧bN ms st st'∧∃ es,st'.H ms=.map false [.u32] es∧lN es (fun x=>S x∨Orb (fc m m.g.es) d x)
def itL(f:Int→Int)(d:Int)(k:Nat):List Int:=(List.range k).map fun j=>it f j d
theorem aCp(f:Int→Int)(d:Int)(k:Nat):itL f d (k+1)=itL f d k++[it f k d]:=by unfold itL;rw[List.range_succ];simp
@[simp] theorem pM(f:Int→Int)(d:Int)(k:Nat):(itL f d k).length=k:=by simp[itL]
theorem aRr(m:Mp)(h:bY m)(d:Int)(q5 q4 ms ma:Nat)(es5 es4:List (List Int×LV))(S:Int→Prop)(st:St)(he:m.g.es.length≤1000)(hd:d∈aU m.g.es)
 (h5:st.H q5=.box 49 1 [.mp ms]) (h4:st.H q4=.box 60 1 [.mp ma]) (hms:st.H ms=.map false [.u32] es5) (hma:st.H ma=.map false [.u32] es4) (hlt:(q5<st.next∧q4<st.next)∧ms<st.next∧ma<st.next) (hmm:ms≠ma)
 (hSI:lN es5 S) (hB:aEl m es4 m.rots.flatten) (hS:∀ x,Orb (fc m m.g.es) d x→¬S x):
 aB Tryz.prog 143 [u d,.pt q5 0,.pt q4 0] st (aQu m d S ms st):=by
 obtain⟨⟨l5,l4⟩,ls,la⟩:=hlt
 have n1:¬q5=ms:=by rintro rfl;rw[h5]at hms;cases hms
 have n2:¬q4=ms:=by rintro rfl;rw[h4]at hms;cases hms
 have hmm':¬ma=ms:=fun e=>hmm e.symm
 have hP:=h.fc_per m.g.es (fun x hx=>hx)
 obtain⟨L,p,hp,hL,hp1,hp2⟩:=aDs hP d
 have hcyc:fP (fc m m.g.es) d L:=⟨p,hp,hL,hp1,hp2⟩
 have hL':L=itL (fc m m.g.es) d p:=hL
 have hdk:∀ k,it (fc m m.g.es) k d∈aU m.g.es:=by
  intro k
  induction k with
  |zero=>exact hd
  |succ k ih=>rw[dZ];exact h.fc_dart _ _ ih
 have hpl:p≤2*m.g.es.length:=by
  have:=(h.cyc_le hd hcyc).2
  rwa [hL',pM]at this
 refine qO aF Tryz.func143 rfl rfl Tryz.ntmps143 (rs:=[.tmp 4]) rfl sS ?_
 (repeat' (first|refine qS ?_|refine qB ?_|(refine w_e [] ?_;intro J hJ;simp only[];simp[];refine hJ _ _ (zZ ?_))))
 refine cG fun hpos=>?_
 refine dW 5 34 1 sS ?_
 generalize hf:fc m m.g.es=f at *
 refine qL (fun n fr st2=>∃ k:Nat,k≤p∧n=p-k∧fr 0=u (it f k d)∧fr 1=.pt q5 0∧fr 2=.pt q4 0∧∃ t es,fr 5=.sl t k (us (itL f d k))∧(t≠0∧st.next≤t∧t<st2.next)∧st2.H t=.own 34 1 k∧bN ms st st2∧st2.H ms=.map false [.u32] es∧lN es (fun x=>S x∨∃ i,i<k∧x=it f i d)) p ?_ ?_
 ·exact⟨0,oO,oO,by simp[it],sS,sS,st.next,es5,by simp[itL],⟨oO,oO,sS⟩,sS,(bN.refl ms st).keeps (aA.new _ _),by simp[show ¬ms=st.next by omega,hms],hSI.congr fun v=>⟨fun h=>h.elim id fun⟨_,h,_⟩=>by omega,.inl⟩⟩
 rintro n fr st2 ⟨k,hk,rfl,f0,f1,f2,t,es,f5,⟨ht0,htl,htn⟩,htH,hoff,hM,hSk⟩ JJ hJJ
 have hn2:=hoff.1
 have h5':=(hoff.2 q5 n1 l5).trans h5
 have h4':=(hoff.2 q4 n2 l4).trans h4
 have ha':=(hoff.2 ma hmm' la).trans hma
 by_cases hkp:k<p
 rotate_left
 ·clear hJJ
  obtain rfl:k=p:=oO
  have hs1:=(hSk (it f k d)).1 (.inr ⟨0,hp,by rw[hp1];rfl⟩)
  (repeat' (first|refine qS ?_|(refine qX (zZ ?_))|(refine qR (zZ ?_);simp[f0,f1,h5',hM,hs1,f5])|(refine qC ?_;simp[f0,f1,h5',hM,hs1,f5])|(refine w_e [] ?_;intro J hJ;simp only[];simp[f0,f1,h5',hM,hs1,f5];refine hJ _ _ (zZ ?_))))
  refine⟨⟨t,L,by rw[hL'];simp,?_⟩,hoff,es,hM,hSk.congr fun v=>?_⟩
  ·rw[hf];exact hcyc
  ·rw[hf]
   refine or_congr Iff.rfl ?_
   rw[← hcyc.mem,hL]
   simp only[List.mem_map,List.mem_range]
   exact⟨fun⟨a,b,c⟩=>⟨a,b,c.symm⟩,fun⟨a,b,c⟩=>⟨a,b,c.symm⟩⟩
 have hs0:¬(S (it f k d)∨∃ i,i<k∧it f k d=it f i d):=by
  rintro(h1|⟨j,h1,h2⟩)
  ·exact hS _ ⟨k,rfl⟩ h1
  ·have e:k=j+(k-j):=oO
   rw[e,oH]at h2
   exact hp2 (k-j) oO oO (aEM (fun x y=>by rw[← hf];exact h.fc_inj _ x y) j h2)
 have hs1:=(hSk (it f k d)).2 hs0
 have hSn:=hSk.step (P':=fun x=>S x∨∃ i,i<k+1∧x=it f i d) (it f k d) fun v=>by
  constructor
  ·rintro(h1|⟨j,h1,h2⟩)
   ·exact .inl (.inl h1)
   ·rcases Nat.lt_or_ge j k with h3|h3
    ·exact .inl (.inr ⟨j,h3,h2⟩)
    ·obtain rfl:j=k:=oO
     exact .inr h2
  ·rintro((h1|⟨j,h1,h2⟩)|h1)
   ·exact .inl h1
   ·exact .inr ⟨j,oO,h2⟩
   ·exact .inr ⟨k,oO,h1⟩
 have hxd:=hdk k
 have hx1:=wJ h hxd
 have hxl:(aY es4 [tw (it f k d)]).getD (u 0)=u (it f (k+1) d):=by
  rw[hB,if_pos (by rw[← (h.flat_perm).mem_iff];exact aBw.2 hxd),dZ,← hf]
  simp only[Option.getD_some,fc]
  rw[qI (by rw[hf];exact hxd),hf]
 have hLn:=aCp f d k
 have hLl:=pM f d k
 generalize itL f d k=Lk at *
 generalize hxe:it f k d=x at *
 generalize hye:it f (k+1) d=y at *
 have t1:¬t=ms:=by rintro rfl;rw[hM]at htH;cases htH
 have t2:¬t=st2.next:=oO
 have t3:¬ms=st2.next:=oO
 have t4:¬ms=st2.next+1:=oO
 have t5:¬q4=st2.next:=oO
 have t6:¬q4=st2.next+1:=oO
 have t7:¬ma=st2.next:=oO
 have t8:¬ma=st2.next+1:=oO
 have t9:¬q4=t:=by rintro rfl;rw[h4']at htH;cases htH
 have t10:¬ma=t:=by rintro rfl;rw[ha']at htH;cases htH
 have t11:¬ms=t:=fun e=>t1 e.symm
 (repeat' (first|refine qS ?_|refine qB ?_|(refine qK (zZ ?_))|(refine qC ?_;simp[f0,f1,f2,f5,h5',hM,hs1,n1,n2,htH,ht0,t1,t2,t3,t4,hLl])|(refine w_e [] ?_;intro J hJ;simp only[];simp[f0,f1,f2,f5,h5',hM,hs1,n1,n2,htH,ht0,t1,t2,t3,t4,hLl];(repeat refine ca ?_);refine hJ _ _ (zZ ?_))))
 (refine w_s [] [q4,ma] [(0,true),(1,true),(2,true),(3,true),(4,true)] ?_;intro J hJ;simp[f2,f0,h4',ha',t5,t6,t7,t8,t9,t10,n2,hmm'])
 refine qD (Twin x _ oO oO) sS ?_;rintro r s3 ⟨rfl,rfl⟩
 refine⟨fun _=>by simp[h4',ha',t5,t6,t7,t8,t9,t10,n2,hmm'],?_⟩
 (refine bE ?_;simp[f2,f0,h4',ha',t5,t6,t7,t8,t9,t10,n2,hmm',hxl];refine hJ _ _ (zZ ?_))
 skip
 refine hJJ (p-(k+1)) _ _ oO ⟨k+1,oO,rfl,by simp[hye],by simp[f1],by simp[f2],st2.next+1,_,by simp[hLn],⟨oO,oO,sS⟩,sS,?_,by simp[t11,t3,t4],hSn⟩
 exact(((hoff.set _).keeps (aA.new _ _)).set' htl _).keeps (aA.new _ _)
section
variable {f:Int→Int} (hf:Per f) {ds:List Int} (hd:∀ x∈ds,f x∈ds)
include hf hd
end
def tix(rs:List (List Int))(d:Int):Int:=if(rs.any fun t=>decide (d∈t))=true then(rs.findIdx fun t=>decide (d∈t):Int)else -1
theorem aCV{rs:List (List Int)}{d:Int}{k:Nat}(hk:k<rs.length)(h:d∈rs.getD k [])(hn:∀ j,j<k→d∉rs.getD j []):tix rs d=k:=by
 rw[cI _ _ hk]at h
 unfold tix
 rw[if_pos (List.any_eq_true.2 ⟨_,List.getElem_mem hk,by simpa using h⟩)]
 congr 1
 refine(List.findIdx_eq hk).2 ⟨by simpa using h,fun j hj=>?_⟩
 have:=hn j hj
 rw[cI _ _ oO]at this
 simpa using this
theorem aDb{rs:List (List Int)}{d:Int}(hn:∀ j,j<rs.length→d∉rs.getD j []):tix rs d = -1:=by
 unfold tix
 rw[if_neg]
 intro h
 obtain⟨t,ht,hp⟩:=List.any_eq_true.1 h
 obtain⟨j,hj,rfl⟩:=List.getElem_of_mem ht
 have:=hn j hj
 rw[cI _ _ hj]at this
 exact this (by simpa using hp)
theorem aKi{rs:List (List Int)}{d:Int}(h:∃ t∈rs,d∈t):∃ k,k<rs.length∧tix rs d=(k:Int)∧d∈rs.getD k []:=by
 obtain⟨t,ht,hd⟩:=h
 obtain⟨j,hj,rfl⟩:=List.getElem_of_mem ht
 obtain⟨k,hk,hmin⟩:=least (P:=fun k=>k<rs.length∧d∈rs.getD k []) ⟨hj,by rw[cI _ _ hj];exact hd⟩
 exact⟨k,hk.1,aCV hk.1 hk.2 fun i hi hd=>hmin i hi ⟨oO,hd⟩,hk.2⟩
theorem aKY{rs:List (List Int)}{d:Int}(h:∀ t∈rs,d∉t):tix rs d = -1:=aDb fun j hj=>by rw[cI _ _ hj];exact h _ (List.getElem_mem _)
theorem xJ(m:Mp)(d:Int)(st:St)(hr:m.rots.length≤1000)(hs:∀ t∈m.rots,small t):
 aB Tryz.prog 176 [.ag (mpL m),u d] st fun r st'=>r=i (tix m.rots d)∧aA st st':=by
 refine qO aF Tryz.func176 rfl rfl Tryz.ntmps176 (rs:=[.tmp 4]) rfl sS ?_
 (repeat' (first|refine qS ?_|refine qB ?_|(refine w_e [] ?_;intro J hJ;simp only[];simp[];refine hJ _ _ (zZ ?_))))
 refine aM 9 8 10 21 (m.rots.length) (fun j fr st2=>fr 1=u d∧fr 2=.pt st.next 0∧st2.H st.next=.box 39 3 (mpL m)∧aA st st2∧∀ k,k<j→d∉m.rots.getD k []) ?_ ?_ ?_
 ·exact⟨sS,sS,sS,aA.new _ _,fun k hk=>by omega⟩
 ·rintro j fr st2 hlt ⟨f1,f2,hG,hkp,hno⟩ fi fn JJ hJJ
  have hd:=eE m.rots j hlt
  have hRl:j<(cS m.rots).length:=by simpa using hlt
  have htin:m.rots.getD j []∈m.rots:=by rw[cI _ _ hlt];exact List.getElem_mem _
  have hsm:=hs _ htin
  have hso:=fun h=>aCV (d:=d) hlt h hno
  have hnn:d∉m.rots.getD j []→∀ k,k<j+1→d∉m.rots.getD k []:=fun h k hk=>by
   rcases Nat.lt_or_ge k j with h1|h1
   ·exact hno k h1
   ·obtain rfl:k=j:=oO
    exact h
  generalize m.rots.getD j []=t at *
  (repeat' (first|refine qS ?_|(refine w_e [] ?_;intro J hJ;simp only[];simp[f1,f2,hG,fi,fn,hd,hRl,hlt];(try refine hJ _ _ (zZ ?_)))))
  refine qE (aNS t 0 d _ hsm) sS ?_;rintro r s3 ⟨rfl,rfl⟩
  by_cases hdt:d∈t
  ·have hr:=hso hdt
   have hg:=oU hdt
   (repeat' (first|refine qS ?_|(refine qR (zZ ?_);simp[hg,hr])|(refine qC ?_;simp[hg,hr])|((first|(refine w_e [] ?_;intro J hJ;simp only[])|(refine aE ?_));simp[hg,hr];refine hJ _ _ (zZ ?_))))
   exact hkp
  ·have hg:=yI hdt
   (repeat' (first|(refine qK (zZ ?_))|(refine qC ?_;simp[hg])|(refine aE ?_;simp[hg];refine hJ _ _ (zZ ?_))))
   exact hJJ _ _ (by simp[fi]) (by simp[fn]) ⟨by simp[f1],by simp[f2],hG,hkp,hnn hdt⟩
 ·rintro fr st2 ⟨f1,f2,hG,hkp,hno⟩
  have hr:=aDb hno
  (repeat' (first|refine qS ?_|(refine qR (zZ ?_);simp[hr])|(refine w_e [] ?_;intro J hJ;simp only[];simp[hr];refine hJ _ _ (zZ ?_))))
  exact hkp
theorem aKM(d:Int)(st:St)(h0:0≤d)(h1:d<4294967295):aB Tryz.prog 177 [u d] st fun r st'=>r=u (tw d)∧st'=st:=by
 have hm:d.tmod 2=d % 2:=Int.tmod_eq_emod_of_nonneg h0
 by_cases hp:d % 2=0
 ·have ht:tw d=d+1:=by unfold tw;rw[if_pos hp]
  have hw:IntKind.u32.wrap (d+1)=d+1:=wrap_u32' _ oO oO
  refine qO aF Tryz.func177 rfl rfl Tryz.ntmps177 (rs:=[.tmp 2]) rfl sS ?_
  (repeat' (first|refine qS ?_|(refine qR (zZ ?_);simp[hm,hp,ht,hw])|(refine qC ?_;simp[hm,hp,ht,hw])|(refine w_e [] ?_;intro J hJ;simp only[];simp[hm,hp,ht,hw];refine hJ _ _ (zZ ?_))))
 ·have ht:tw d=d-1:=by unfold tw;rw[if_neg hp]
  have hw:IntKind.u32.wrap (d-1)=d-1:=wrap_u32' _ oO oO
  refine qO aF Tryz.func177 rfl rfl Tryz.ntmps177 (rs:=[.tmp 2]) rfl sS ?_
  (repeat' (first|refine qS ?_|(refine qK (zZ ?_))|(refine qR (zZ ?_);simp[hm,hp,ht,hw])|(refine qC ?_;simp[hm,hp,ht,hw])|(refine w_e [] ?_;intro J hJ;simp only[];simp[hm,hp,ht,hw];refine hJ _ _ (zZ ?_))))
end Go.Proofs.YtempldclppogmaaGreatDoor.Aw
