/- Rows of numbers, in place: the insertion sort by numbers. -/
import Derived.Test.YtempldclppogmaaGreatDoorJg
import Derived.Test.YtempldclppogmaaGreatDoorAwRg
import Derived.Test.YtempldclppogmaaGreatDoorAwAlt
set_option linter.unusedVariables false
set_option linter.unusedSimpArgs false
namespace Go.Proofs.YtempldclppogmaaGreatDoor.Aw.U
open Go Go.RowKit Go.Proofs.YtempldclppogmaaGreatDoor.Pl
def sA(x y:Int):Int:=if x<y then -1 else if y<x then 1 else 0
theorem yA(x y:Int):decide (sA x y<0)=decide (x<y):=by
 unfold sA
 by_cases h:x<y
 ·simp[h]
 ·rw[if_neg h]
  by_cases h2:y<x<;>simp[h,h2]
structure mR(fid:FuncId)(caps:List LV)(q:Nat)(Pc:St→Prop):Prop where
 keep:∀ st st',Pc st→bN q st st'→Pc st'
 call:∀ st x y,Pc st→aB Tryz.prog fid ([u x,u y]++caps) st fun r st'=>r=i (sA x y)∧aA st st'
def Ris(l:List Int):Prop:=l.Pairwise fun x y=>x≤y
theorem get_at(U:List Int)(x:Int)(W:List Int){j:Nat}(hj:j=U.length):(U++x::W).getD j 0=x:=by subst hj;exact wM _ _ _
theorem yN(U:List Int)(x y:Int)(W:List Int){j:Nat}(hj:j=U.length):(U++x::W).set j y=U++y::W:=by subst hj;exact aBm _ _ _ _
def aOi(P X S:List Int)(q:Nat)(st:St)(r:LV)(st':St):Prop:=∃ Y,Y.Perm X∧Ris Y∧st'.H q=.box 34 1 (us (P++Y++S))∧bN q st st'
theorem aBP{A B:List Int}{x:Int}(h:Ris (A++B))(h1:∀ y∈A,y≤x)(h2:∀ y∈B,x≤y):Ris (A++x::B):=by
 unfold Ris at h ⊢
 rw[List.pairwise_append]at h ⊢
 refine⟨h.1,List.pairwise_cons.2 ⟨h2,h.2.1⟩,fun a ha b hb=>?_⟩
 rcases List.mem_cons.1 hb with rfl|hb
 ·exact h1 a ha
 ·exact h.2.2 a ha b hb
theorem vU{A:List Int}{y:Int}(h:Ris (A++[y])):∀ a∈A,a≤y:=by
 unfold Ris at h
 rw[List.pairwise_append]at h
 exact fun a ha=>h.2.2 a ha y sS
set_option maxHeartbeats 1000000 in
theorem aBM(P X S:List Int)(q:Nat)(fid:FuncId)(caps:List LV)(Pc:St→Prop)(st:St)(hcmp:mR fid caps q Pc)(hPc:Pc st)(hq:q<st.next)(hl:(P++X++S).length≤100000)(hH:st.H q=.box 34 1 (us (P++X++S))):
 aB Tryz.prog 209 [.ms q 0 (P++X++S).length,i P.length,i (P.length+X.length:Nat),.fn (.func fid) caps] st (aOi P X S q st):=by
 generalize hL:(P++X++S).length=L at *
 have hLl:L=P.length+X.length+S.length:=by rw[← hL];simp only[List.length_append]
 generalize hp:P.length=p at *
 have wp:IntKind.i64.wrap ((p:Int)+1)=((p+1:Nat):Int):=by rw[iE _ oO oO];omega
 refine qO aF Tryz.func209 rfl rfl Tryz.ntmps209 (rs:=[]) rfl sS ?_
 (repeat' (first|refine qS ?_|refine qB ?_|(refine w_e [] ?_;intro J hJ;simp only[];simp[wp];refine hJ _ _ (zZ ?_))))
 refine qL (fun z fr st2=>∃ Y Z:List Int,Z.length≤z∧fr 0=.ms q 0 L∧fr 1=i p∧fr 2=i (p+X.length:Nat)∧fr 3=.fn (.func fid) caps∧(X=[]∧Y=[]∧fr 8=i (p+1:Nat)∨Y≠[]∧fr 8=i (p+Y.length:Nat))∧(Y++Z).Perm X∧Ris Y∧st2.H q=.box 34 1 (us (P++Y++Z++S))∧bN q st st2) X.length ?_ ?_
 ·cases X with
  |nil=>exact⟨[],[],sS,sS,sS,sS,sS,.inl ⟨rfl,rfl,sS⟩,.refl _,.nil,by simpa using hH,bN.refl _ _⟩
  |cons x X => 
   refine⟨[x],X,sS,sS,sS,sS,sS,.inr ⟨sS,sS⟩,.refl _,List.pairwise_singleton _ _,?_,bN.refl _ _⟩
   rw[hH];simp
 rintro z fr st2 ⟨Y,Z,hz,f0,f1,f2,f3,f8,hpm,hris,hB,hoff⟩ JJ hJJ
 have hpl:=hpm.length_eq
 simp only[List.length_append]at hpl
 cases Z with
 |nil=>
  clear hJJ
  simp only[List.length_nil,Nat.add_zero]at hpl
  rw[List.append_nil]at hpm hB
  have hex:∃ e:Nat,fr 8=i e∧¬((e:Int)<(p+X.length:Nat)):=by
   rcases f8 with⟨h1,h2,h3⟩|⟨h1,h2⟩
   ·exact⟨p+1,h3,by rw[h1];simp;omega⟩
   ·exact⟨p+Y.length,h2,by rw[hpl];omega⟩
  obtain⟨e,g8,he⟩:=hex
  (repeat' (first|refine qS ?_|(refine qX (zZ ?_))|(refine qC ?_;simp[f2,g8,he];(try with_reducible refine⟨?_,?_⟩)<;>(try with_reducible intro hc)<;>try (exfalso;omega))|(refine w_e [] ?_;intro J hJ;simp only[];simp[f2,g8,he];refine hJ _ _ (zZ ?_))))
  simp
  exact⟨Y,hpm,hris,hB,hoff⟩
 |cons x Z=>
 have hYne:Y≠[]∧fr 8=i (p+Y.length:Nat):=by
  rcases f8 with⟨h1,h2,h3⟩|h
  ·subst h1;simp at hpl
  ·exact h
 obtain⟨hYn,g8⟩:=hYne
 clear f8
 have hY0:=List.length_pos_iff.2 hYn
 simp only[List.length_cons]at hpl hz
 have hlt:(((p+Y.length:Nat):Int))<((p+X.length:Nat):Int):=oO
 (repeat' (first|refine qS ?_|refine qB ?_|(refine qK (zZ ?_))|(refine qC ?_;simp[f2,g8,hlt];(try with_reducible refine⟨?_,?_⟩)<;>(try with_reducible intro hc)<;>try (exfalso;omega))|(refine w_e [] ?_;intro J hJ;simp only[];simp[f2,g8,hlt];refine hJ _ _ (zZ ?_))))
 refine qL (fun z fr st3=>∃ A B:List Int,z=A.length∧A++B=Y∧(∀ y∈B,x≤y)∧fr 0=.ms q 0 L∧fr 1=i p∧fr 2=i (p+X.length:Nat)∧fr 3=.fn (.func fid) caps∧fr 8=i (p+Y.length:Nat)∧fr 9=i (p+A.length:Nat)∧st3.H q=.box 34 1 (us (P++A++x::(B++Z++S)))∧bN q st st3) Y.length ?_ ?_
 ·exact⟨Y,[],rfl,sS,sS,by simp[f0],by simp[f1],by simp[f2],by simp[f3],by simp[g8],sS,by rw[hB];simp,hoff⟩
 clear f0 f1 f2 f3 g8 hB hoff fr st2
 rintro z' fr st3 ⟨A,B,rfl,rfl,hxB,f0,f1,f2,f3,f8,f9,hB,hoff⟩ J2 hJ2
 have hP3:=hcmp.keep _ _ hPc hoff
 have hfin:(∀ y∈A,y≤x)→Ris (A++x::B):=fun h1=>aBP hris h1 hxB
 have hpm2:((A++x::B)++Z).Perm X:=by
  refine List.Perm.trans ?_ hpm
  rw[List.append_assoc,List.append_assoc]
  refine List.Perm.append_left A ?_
  rw[List.cons_append]
  exact List.perm_middle.symm
 have hAB:(A++x::B).length=(A++B).length+1:=by simp;omega
 simp only[List.length_append]at hpl hY0
 have w8:IntKind.i64.wrap (((p+(A++B).length:Nat):Int)+1)=((p+(A++x::B).length:Nat):Int):=by rw[hAB,iE _ (by simp only[List.length_append];omega) (by simp only[List.length_append];omega)];omega
 have hnext:∀ fr' st4,(fr' 0=.ms q 0 L∧fr' 1=i p∧fr' 2=i (p+X.length:Nat)∧fr' 3=.fn (.func fid) caps∧fr' 8=i (p+(A++x::B).length:Nat))→(∀ y∈A,y≤x)→st4.H q=.box 34 1 (us (P++A++x::(B++Z++S)))→bN q st st4→JJ fr' st4:=by
  rintro fr' st4 ⟨g0,g1,g2,g3,g8⟩ h1 h2 h3
  refine hJJ Z.length _ _ oO ⟨A++x::B,Z,Nat.le_refl _,g0,g1,g2,g3,.inr ⟨sS,g8⟩,hpm2,hfin h1,?_,h3⟩
  rw[h2];simp
 have hrisA:Ris A:=by
  unfold Ris at hris ⊢
  exact(List.pairwise_append.1 hris).1
 clear hJJ hfin hpm2 hpm hris hAB
 generalize (A++B).length=lab at *
 generalize (A++x::B).length=laxb at *
 have w8':IntKind.i64.wrap ((p:Int)+lab+1)=(p:Int)+laxb:=by have h:=w8;rw[Int.natCast_add,Int.natCast_add]at h;exact h
 rcases List.eq_nil_or_concat A with rfl|⟨W,y,hWy⟩
 ·simp only[List.length_nil,Nat.add_zero]at f9
  (repeat' refine qS ?_)
  (refine w_s [] [q] [(0,true),(1,true),(2,true),(3,true),(4,true),(5,true),(6,true),(7,true),(8,true),(9,true),(10,true),(11,true),(12,true),(13,true),(14,false),(15,true),(16,true)] ?_;intro J hJ;simp[f0,f1,f3,f9];refine hJ _ _ (zZ ?_))
  (repeat' (first|(refine qX (zZ ?_))|(refine qC ?_;simp[f8,w8'])|(refine w_e [] ?_;intro J hJ;simp only[];simp[f8,w8'];refine hJ _ _ (zZ ?_))))
  exact hnext _ _ ⟨by simp[f0],by simp[f1],by simp[f2],by simp[f3],sS⟩ sS hB hoff
 rw[List.concat_eq_append]at hWy
 subst hWy
 have hWl:(W++[y]).length=W.length+1:=sS
 rw[hWl,← Nat.add_assoc]at f9
 have hce:P++(W++[y])++x::(B++Z++S)=(P++W)++y::x::(B++Z++S):=sS
 have hUl:(P++W).length=p+W.length:=by simp[hp]
 have hcl:((P++W)++y::x::(B++Z++S)).length=L:=by
  simp only[List.length_append,List.length_cons,List.length_nil,hp]at hpl hz ⊢
  omega
 rw[hce]at hB hnext
 have g1:=get_at (P++W) y (x::(B++Z++S)) (j:=p+W.length) hUl.symm
 have g2:((P++W)++y::x::(B++Z++S)).getD (p+W.length+1) 0=x:=by
  rw[show(P++W)++y::x::(B++Z++S)=(P++W++[y])++x::(B++Z++S) by simp]
  exact get_at _ _ _ (by simp[hp];omega)
 have s1:(((P++W)++y::x::(B++Z++S)).set (p+W.length+1) y).set (p+W.length) x=P++W++x::(y::B++Z++S):=by
  rw[show(P++W)++y::x::(B++Z++S)=(P++W++[y])++x::(B++Z++S) by simp,yN _ _ _ _ (by simp[hp];omega)]
  rw[show(P++W++[y])++y::(B++Z++S)=(P++W)++y::(y::(B++Z++S)) by simp,yN _ _ _ _ hUl.symm]
  simp
 have hstep:x<y→∀ y'∈y::B,x≤y':=fun h1 y' hy'=>by
  rcases List.mem_cons.1 hy' with rfl|h2
  ·omega
  ·exact hxB y' h2
 have hstop:¬x<y→∀ y'∈W++[y],y'≤x:=fun h1 y' hy'=>by
  rcases List.mem_append.1 hy' with h2|h2
  ·have:=vU (hrisA) y' h2;omega
  ·rw[List.mem_singleton]at h2;subst h2;omega
 generalize (P++W)++y::x::(B++Z++S)=c at *
 generalize hjx:p+W.length=jx at *
 have hel:=aOc c
 have da:=qG c (jx+1) oO
 have db:=qG c jx oO
 rw[g2]at da
 rw[g1]at db
 have wj:IntKind.i64.wrap (((jx+1:Nat):Int)-1)=(jx:Int):=by rw[iE _ oO oO];omega
 obtain⟨xi,rfl⟩:∃ xi,xi=x:=⟨_,rfl⟩
 obtain⟨yi,rfl⟩:∃ yi,yi=y:=⟨_,rfl⟩
 try simp only at da db hstep hstop
 have hgt:(p:Int)<(jx:Int)+1:=oO
 have hcm:=hcmp.call st3 xi yi hP3
 have hneg:=yA xi yi
 try simp only at hneg
 generalize sA xi yi=cv at *
 have wj':IntKind.i64.wrap (jx:Int)=(jx:Int):=iE _ oO oO
 have hA4:jx+1<L:=oO
 have hB4:jx<L:=oO
 (repeat' refine qS ?_)
 (refine w_s [] [q] [(0,true),(1,true),(2,true),(3,true),(4,true),(5,true),(6,true),(7,true),(8,true),(9,true),(10,true),(11,true),(12,true),(13,true),(14,false),(15,true),(16,true)] ?_;intro J hJ;simp[f0,f1,f3,f9,hgt,hB,da,db,hel,hcl,wj'];(repeat refine ca ?_))
 refine aO hcm ?_;rintro r s4 ⟨rfl,hk4⟩
 have hq3:q<st3.next:=by have:=hoff.1;omega
 have hB4':=(hk4.H q hq3).trans hB
 have hoff4:=hoff.keeps hk4
 refine⟨fun _=>by simp[hB4',hB],?_⟩
 by_cases hlt3:xi<yi
 ·have hcv:cv<0:=by rw[decide_eq_true hlt3]at hneg;exact of_decide_eq_true hneg
  (refine bE ?_;simp[hcv,hB4',hB];refine hJ _ _ (zZ ?_))
  (repeat' (first|refine qS ?_|refine qB ?_|(refine qK (zZ ?_))|(refine qC ?_;simp[])))
  (refine w_s [] [q] [(0,true),(1,true),(2,true),(3,true),(4,true),(5,true),(6,true),(7,true),(8,true),(9,true),(10,true),(11,true),(12,true),(13,true),(14,true),(15,false),(16,true),(17,false)] ?_;intro J hJ;simp[f0,f9,hB4',da,db,hel,hcl,wj'];(repeat refine ca ?_);refine hJ _ _ (zZ ?_))
  have e1:=vI c (jx+1) yi oO
  have e2:=vI (c.set (jx+1) yi) jx xi (by simp;omega)
  try simp only at e1 e2
  rw[e1,e2,s1,St.set_set]
  (repeat' (refine w_e [] ?_;intro J hJ;simp only[];simp[f9,wj'];refine hJ _ _ (zZ ?_)))
  refine hJ2 W.length _ _ sS ⟨W,yi::B,rfl,sS,hstep hlt3,by simp[f0],by simp[f1],by simp[f2],by simp[f3],by simp[f8],by simp[hjx],?_,hoff4.set _⟩
  simp
 ·have hcv:¬cv<0:=by rw[decide_eq_false hlt3]at hneg;exact of_decide_eq_false hneg
  (refine bE ?_;simp[hcv,hB4',hB];refine hJ _ _ (zZ ?_))
  (repeat' (first|(refine qX (zZ ?_))|(refine qC ?_;simp[f8,w8'])|(refine w_e [] ?_;intro J hJ;simp only[];simp[f8,w8'];refine hJ _ _ (zZ ?_))))
  exact hnext _ _ ⟨by simp[f0],by simp[f1],by simp[f2],by simp[f3],sS⟩ (hstop hlt3) hB4' hoff4
theorem aBq{l:List Int}(h:Ris l){j k:Nat}(hjk:j≤k)(hk:k<l.length):(l.getD j 0)≤(l.getD k 0):=by
 rw[nQ _ _ hk,nQ _ _ oO]
 rcases Nat.lt_or_ge j k with h1|h1
 ·exact List.pairwise_iff_getElem.1 h j k oO hk h1
 ·obtain rfl:j=k:=oO
  exact Int.le_refl _
theorem aEn(U W:List Int)(j:Nat):(U++W).getD (U.length+j) 0=W.getD j 0:=by
 rw[List.getD_eq_getElem?_getD,List.getElem?_append_right oO,Nat.add_sub_cancel_left,← List.getD_eq_getElem?_getD]
theorem xE(U W:List Int)(j:Nat)(h:j<U.length):(U++W).getD j 0=U.getD j 0:=by
 rw[List.getD_eq_getElem?_getD,List.getElem?_append_left h,← List.getD_eq_getElem?_getD]
structure Mgd(D D':List Int)(lo hi:Nat):Prop where
 len:D'.length=D.length
 perm:D'.Perm D
 out:∀ j,j<lo∨hi≤j→D'.getD j 0=D.getD j 0
 inn:∀ j k,lo≤j→j≤k→k<hi→(D'.getD j 0)≤(D'.getD k 0)
theorem mgd{D P X S C:List Int}(hD:P++X++S=D)(hC:C.Perm X)(hr:Ris C){lo hi:Nat}(h1:P.length=lo)(h2:hi=lo+X.length):Mgd D (P++C++S) lo hi:=by
 have hl:=hC.length_eq
 subst hD
 refine⟨by simp[hl],List.Perm.append_right _ (List.Perm.append_left _ hC),fun j hj=>?_,fun j k hj hjk hk=>?_⟩
 ·rcases Nat.lt_or_ge j lo with h|h
  ·rw[xE _ _ _ (by simp;omega),xE _ _ _ oO,xE _ _ _ (by simp;omega),xE _ _ _ oO]
  ·have e1:=aEn (P++C) S (j-hi)
   have e2:=aEn (P++X) S (j-hi)
   have l1:(P++C).length+(j-hi)=j:=by simp;omega
   have l2:(P++X).length+(j-hi)=j:=by simp;omega
   rw[l1]at e1
   rw[l2]at e2
   rw[e1,e2]
 ·have e:∀ x,lo≤x→x<hi→(P++C++S).getD x 0=C.getD (x-lo) 0:=fun x g1 g2=>by
   have e1:=aEn P (C++S) (x-lo)
   rw[show P.length+(x-lo)=x by omega,xE C S (x-lo) oO]at e1
   rw[← e1];simp
  rw[e j hj oO,e k oO hk]
  exact aBq hr oO oO
theorem aNV(D:List Int)(lo hi:Nat)(h:lo≤hi):D.take lo++(D.drop lo).take (hi-lo)++D.drop hi=D:=by
 have e:(D.drop lo).drop (hi-lo)=D.drop hi:=by rw[List.drop_drop];congr 1;omega
 rw[List.append_assoc,← e,List.take_append_drop,List.take_append_drop]
theorem aBd{D:List Int}{lo hi:Nat}(hh:hi≤D.length)(h:∀ j k,lo≤j→j≤k→k<hi→(D.getD j 0)≤(D.getD k 0)):Ris ((D.drop lo).take (hi-lo)):=by
 refine List.pairwise_iff_getElem.2 fun a b ha hb hab=>?_
 simp only[List.length_take,List.length_drop]at ha hb
 rw[List.getElem_take,List.getElem_take,List.getElem_drop,List.getElem_drop,← nQ D (lo+a) oO,← nQ D (lo+b) oO]
 exact h _ _ oO oO oO
section
variable (q L:Nat) (fid:FuncId) (caps:List LV) (Pc:St→Prop) (hcmp:mR fid caps q Pc) (hl:L≤100000)
include hcmp hl
theorem aCq(D:List Int)(a b:Nat)(st:St)(hD:D.length=L)(ha:a≤b)(hb:b≤L)(hPc:Pc st)(hq:q<st.next)(hH:st.H q=.box 34 1 (us D)):
 aB Tryz.prog 209 [.ms q 0 L,i a,i b,.fn (.func fid) caps] st fun r st'=>∃ D',st'.H q=.box 34 1 (us D')∧Mgd D D' a b∧bN q st st':=by
 have hc:=aNV D a b ha
 have l1:(D.take a).length=a:=by rw[List.length_take];omega
 have l2:((D.drop a).take (b-a)).length=b-a:=by rw[List.length_take,List.length_drop];omega
 have h:=aBM (D.take a) ((D.drop a).take (b-a)) (D.drop b) q fid caps Pc st hcmp hPc hq (by rw[hc];omega) (by rw[hc];exact hH)
 rw[hc,hD,l1,l2,show a+(b-a)=b by omega]at h
 refine h.mono ?_
 rintro r st' ⟨Y,h1,h2,h3,h4⟩
 exact⟨_,h3,mgd hc h1 h2 l1 oO,h4⟩
end
def Bs(s lo hi:Nat)(D:List Int):Prop:=∀ j k,lo≤j→j≤k→k<hi→j / s=k / s→(D.getD j 0)≤(D.getD k 0)
theorem Bs.ext{s a b t:Nat}{D D':List Int}(h:Bs s 0 a D)(hm:Mgd D D' a b)(hs:0<s)(ht:a=s*t):Bs s 0 b D':=by
 intro j k _ hjk hk he
 rcases Nat.lt_or_ge k a with h1|h1
 ·rw[hm.out j (.inl oO),hm.out k (.inl h1)]
  exact h j k (Nat.zero_le _) hjk h1 he
 ·rcases Nat.lt_or_ge j a with h2|h2
  ·have h3:j / s<t:=Nat.div_lt_of_lt_mul oO
   have h4:t≤k / s:=(Nat.le_div_iff_mul_le hs).2 (by rw[Nat.mul_comm];omega)
   omega
  ·exact hm.inn j k h2 hjk hk
theorem Bs.all{s L:Nat}{D:List Int}(h:Bs s 0 L D)(hs:L≤s)(hD:D.length=L):Ris D:=by
 have:=aBd (D:=D) (lo:=0) (hi:=L) oO fun j k h1 h2 h3=>h j k h1 h2 h3 (by rw[Nat.div_eq_of_lt oO,Nat.div_eq_of_lt oO])
 rwa [List.drop_zero,List.take_of_length_le oO]at this
theorem Mgd.from{D D':List Int}{a b:Nat}(h:Mgd D D' a b){D0:List Int}(k:D.Perm D0):D'.Perm D0:=h.perm.trans k
def xH(D0:List Int)(q L:Nat)(st st2:St)(D:List Int):Prop:=D.length=L∧D.Perm D0∧st2.H q=.box 34 1 (us D)∧bN q st st2
theorem xH.step{D0:List Int}{q L:Nat}{st st2 st3:St}{D D':List Int}{a b:Nat}(h:xH D0 q L st st2 D)(hm:Mgd D D' a b)(h1:st3.H q=.box 34 1 (us D'))(h2:bN q st2 st3):xH D0 q L st st3 D':=
 ⟨hm.len.trans h.1,hm.from h.2.1,h1,h.2.2.2.trans h2⟩
set_option maxHeartbeats 1000000 in
theorem aFd(D0:List Int)(q L:Nat)(fid:FuncId)(caps:List LV)(Pc:St→Prop)(st:St)(hcmp:mR fid caps q Pc)(hPc:Pc st)(hq:q<st.next)(hL:D0.length=L)(hl:L≤20)(hH:st.H q=.box 34 1 (us D0)):
 aB Tryz.prog 192 [.ms q 0 L,i L,.fn (.func fid) caps] st fun r st'=>∃ D,D.Perm D0∧Ris D∧st'.H q=.box 34 1 (us D)∧bN q st st':=by
 refine qO aF Tryz.func192 rfl rfl Tryz.ntmps192 (rs:=[]) rfl sS ?_
 (repeat' (first|refine qS ?_|refine qB ?_|(refine w_e [] ?_;intro J hJ;simp only[];simp[];refine hJ _ _ (zZ ?_))))
 refine qL (fun z fr st2=>∃(t a:Nat) (D:List Int),a=20*t∧a≤L∧z=L-a∧fr 0=.ms q 0 L∧fr 1=i L∧fr 2=.fn (.func fid) caps∧fr 6=i 20∧fr 7=i a∧fr 8=i (a+20:Nat)∧Bs 20 0 a D∧xH D0 q L st st2 D) L ?_ ?_
 ·exact⟨0,0,D0,rfl,oO,rfl,sS,sS,sS,sS,sS,sS,fun j k _ _ h=>by omega,hL,.refl _,hH,bN.refl _ _⟩
 rintro z fr st2 ⟨t,a,D,ht,ha,rfl,f0,f1,f2,f6,f7,f8,hB,hI⟩ JJ hJJ
 have hP2:=hcmp.keep _ _ hPc hI.2.2.2
 have hq2:q<st2.next:=by have:=hI.2.2.2.1;omega
 by_cases hle:a+20≤L
 ·have hle':(a:Int)+20≤L:=oO
  have hc:=aCq q L fid caps Pc hcmp oO D a (a+20) st2 hI.1 oO hle hP2 hq2 hI.2.2.1
  have w1:IntKind.i64.wrap ((a:Int)+20+20)=((a+20+20:Nat):Int):=by rw[iE _ oO oO];omega
  (repeat' (first|refine qS ?_|refine qB ?_|(refine qK (zZ ?_))|(refine qC ?_;simp[f0,f1,f2,f7,f8,hle'])|(refine w_e [] ?_;intro J hJ;simp only[];simp[f0,f1,f2,f7,f8,hle'];(try refine hJ _ _ (zZ ?_)))))
  refine qE hc sS ?_;rintro r s3 ⟨D',k1,k2,k3⟩
  (repeat' (first|refine qS ?_|((first|(refine w_e [] ?_;intro J hJ;simp only[])|(refine aE ?_));simp[f8,f6,w1];refine hJ _ _ (zZ ?_))))
  exact hJJ (L-(a+20)) _ _ oO ⟨t+1,a+20,D',oO,hle,rfl,by simp[f0],by simp[f1],by simp[f2],by simp[f6],sS,sS,hB.ext k2 oO ht,hI.step k2 k1 k3⟩
 clear hJJ
 have hle':¬(a:Int)+20≤L:=oO
 have hc:=aCq q L fid caps Pc hcmp oO D a L st2 hI.1 ha (Nat.le_refl _) hP2 hq2 hI.2.2.1
 (repeat' (first|refine qS ?_|(refine qX (zZ ?_))|(refine qC ?_;simp[f0,f1,f2,f7,f8,hle'])|(refine w_e [] ?_;intro J hJ;simp only[];simp[f0,f1,f2,f7,f8,hle'];(try refine hJ _ _ (zZ ?_)))))
 refine qE hc sS ?_;rintro r s3 ⟨D',k1,k2,k3⟩
 have hB2:=hB.ext k2 oO ht
 have hI2:=hI.step k2 k1 k3
 (repeat' (first|refine qB ?_|(refine aE ?_;simp[];refine hJ _ _ (zZ ?_))))
 refine qL (fun z fr st2=>∃(s:Nat) (D:List Int),20≤s∧s≤200040∧z=L-s∧fr 0=.ms q 0 L∧fr 1=i L∧fr 2=.fn (.func fid) caps∧fr 6=i s∧Bs s 0 L D∧xH D0 q L st st2 D) (L-20) ?_ ?_
 ·exact⟨20,D',oO,oO,rfl,by simp[f0],by simp[f1],by simp[f2],by simp[f6],hB2,hI2⟩
 clear hB2 hI2 k1 k2 k3 hc hI hB f0 f1 f2 f6 f7 f8 hP2 hq2 hle hle' ht ha fr
 rintro z fr st3 ⟨s,D,hs0,hs1,rfl,f0,f1,f2,f6,hB,hI⟩ JJ hJJ
 by_cases hlt:s<L
 rotate_left
 ·clear hJJ
  have hlt':¬(s:Int)<L:=oO
  (repeat' (first|refine qS ?_|(refine qX (zZ ?_))|(refine qC ?_;simp[f1,f6,hlt,hlt'])|(refine w_e [] ?_;intro J hJ;simp only[];simp[f1,f6,hlt,hlt'];refine hJ _ _ (zZ ?_))))
  exact⟨trivial,D,hI.2.1,hB.all oO hI.1,hI.2.2⟩
 exact absurd hlt oO
end Go.Proofs.YtempldclppogmaaGreatDoor.Aw.U
namespace Go.Proofs.YtempldclppogmaaGreatDoor.Aw
open Go Go.RowKit Go.Proofs.YtempldclppogmaaGreatDoor.Pl
theorem aFL(x y:Int)(st:St):aB Tryz.prog 64 [u x,u y] st fun r st'=>r=i (if x<y then -1 else if y<x then 1 else 0)∧st'=st:=by
 refine qO aF Tryz.func64 rfl rfl Tryz.ntmps64 (rs:=[.tmp 4]) rfl sS ?_
 (repeat' (first|refine qS ?_|(refine w_e [] ?_;intro J hJ;simp only[];simp[];(try refine hJ _ _ (zZ ?_)))))
 refine qF (isNaN x _) ?_;rintro r st' ⟨rfl,rfl⟩
 (repeat' (first|refine qS ?_|((first|(refine w_e [] ?_;intro J hJ;simp only[])|(refine aE ?_));simp[];(try refine hJ _ _ (zZ ?_)))))
 refine qF (isNaN y _) ?_;rintro r st' ⟨rfl,rfl⟩
 by_cases h1:x<y
 ·(repeat' (first|refine qS ?_|(refine qK (zZ ?_))|(refine qR (zZ ?_);simp[h1])|(refine qC ?_;simp[h1])|((first|(refine w_e [] ?_;intro J hJ;simp only[])|(refine aE ?_));simp[h1];refine hJ _ _ (zZ ?_))))
 ·by_cases h2:y<x
  ·(repeat' (first|refine qS ?_|(refine qK (zZ ?_))|(refine qR (zZ ?_);simp[h1,h2])|(refine qC ?_;simp[h1,h2])|((first|(refine w_e [] ?_;intro J hJ;simp only[])|(refine aE ?_));simp[h1,h2];refine hJ _ _ (zZ ?_))))
  ·(repeat' (first|refine qS ?_|(refine qK (zZ ?_))|(refine qR (zZ ?_);simp[h1,h2])|(refine qC ?_;simp[h1,h2])|((first|(refine w_e [] ?_;intro J hJ;simp only[])|(refine aE ?_));simp[h1,h2];refine hJ _ _ (zZ ?_))))
theorem aAJ(a:List Int)(t:Nat)(st:St)(hl:a.length≤100000):
 aB Tryz.prog 69 [.sl t a.length (us a)] st fun r st'=>∃ l,r=.ms l 0 a.length∧st.next≤l∧l<st'.next∧st'.H l=.box 34 1 (us a)∧aA st st':=by
 refine gJ 34 1 ?_
 have hone:=aEf a
 refine qO aF Tryz.func69 rfl rfl Tryz.ntmps69 (rs:=[.tmp 2]) rfl sS ?_
 (repeat' (first|refine qS ?_|(refine qK (zZ ?_))|(refine qR (zZ ?_);simp[hone])|(refine qC ?_;simp[hone])|(refine w_e [5] ?_;intro J hJ;simp only[];simp[hone];(repeat refine ca ?_);((try with_reducible refine⟨?_,?_⟩)<;>(try with_reducible intro hnil)<;>refine hJ _ _ ?_<;>clear hJ J<;>simp only[ak,reduceIte]<;>try subst hnil))))
 ·exact(aA.new _ _).trans (aA.new _ _)
 ·exact aA.new _ _
theorem aLc(l:List Ed)(t:Nat)(st:St)(hl:l.length≤100000):
 aB Tryz.prog 124 [.sl t l.length (eds l)] st fun r st'=>∃ q,r=.ms q 0 l.length∧st.next≤q∧q<st'.next∧st'.H q=.box 56 3 (eds l)∧aA st st':=by
 have hone:=aFA l
 have hel:=aJ l
 refine gJ 56 3 ?_
 refine qO aF Tryz.func124 rfl rfl Tryz.ntmps124 (rs:=[.tmp 2]) rfl sS ?_
 (repeat' (first|refine qS ?_|(refine qK (zZ ?_))|(refine qR (zZ ?_);simp[hone,hel])|(refine qC ?_;simp[hone,hel])|(refine w_e [5] ?_;intro J hJ;simp only[];simp[hone,hel];(repeat refine ca ?_);((try with_reducible refine⟨?_,?_⟩)<;>(try with_reducible intro hnil)<;>refine hJ _ _ ?_<;>clear hJ J<;>simp only[ak,reduceIte]<;>try subst hnil))))
 ·exact(aA.new _ _).trans (aA.new _ _)
 ·exact aA.new _ _
def aNp(fid:FuncId)(caps:List LV)(Pc:St→Prop):Prop:=(∀ st st',Pc st→aA st st'→Pc st')∧∀ st x y,Pc st→aB Tryz.prog fid ([u x,u y]++caps) st fun r st'=>r=bb (decide (x=y))∧aA st st'
def aNw(fid:FuncId)(caps:List LV)(Pc:St→Prop):Prop:=(∀ st st',Pc st→aA st st'→Pc st')∧∀ st x y,Pc st→aB Tryz.prog fid ([.ag (edL x),.ag (edL y)]++caps) st fun r st'=>r=bb (decide (x.id=y.id))∧aA st st'
set_option maxHeartbeats 1000000 in
theorem aJo(c:List Ed)(q:Nat)(fid:FuncId)(caps:List LV)(Pc:St→Prop)(st:St)(heq:aNw fid caps Pc)(hPc:Pc st)(hl:c.length≤100000)(hne:∀ j,j+1<c.length→(c.getD (j+1) ed0).id≠(c.getD j ed0).id)(hq:q<st.next)(hH:st.H q=.box 56 3 (eds c)):
 aB Tryz.prog 161 [.ms q 0 c.length,.fn (.func fid) caps] st fun r st'=>r=.ms q 0 c.length∧aA st st':=by
 have hel:=aJ c
 refine qO aF Tryz.func161 rfl rfl Tryz.ntmps161 (rs:=[.tmp 4]) rfl sS ?_
 by_cases h2:c.length<2
 ·have h2':(c.length:Int)<2:=oO
  (repeat' (first|refine qS ?_|(refine qR (zZ ?_);simp[h2',h2])|(refine qC ?_;simp[h2',h2])|(refine w_e [] ?_;intro J hJ;simp only[];simp[h2',h2];refine hJ _ _ (zZ ?_))))
  exact aA.refl _
 have h2':¬(c.length:Int)<2:=oO
 (repeat' (first|refine qS ?_|refine qB ?_|(refine qK (zZ ?_))|(refine qC ?_;simp[h2',h2])|(refine w_e [] ?_;intro J hJ;simp only[];simp[h2',h2];refine hJ _ _ (zZ ?_))))
 refine qL (fun z fr st2=>∃ k:Nat,0<k∧k≤c.length∧z=c.length-k∧fr 0=.ms q 0 c.length∧fr 1=.fn (.func fid) caps∧fr 5=i k∧aA st st2) (c.length-1) ?_ ?_
 ·exact⟨1,oO,oO,rfl,sS,sS,sS,aA.refl _⟩
 rintro z fr st2 ⟨k,hk0,hkl,rfl,f0,f1,f5,hkp⟩ JJ hJJ
 by_cases hlt:k<c.length
 rotate_left
 ·clear hJJ
  (repeat' (first|refine qS ?_|(refine qX (zZ ?_))|(refine qR (zZ ?_);simp[f0,f5,hlt])|(refine qC ?_;simp[f0,f5,hlt])|(refine w_e [] ?_;intro J hJ;simp only[];simp[f0,f5,hlt];refine hJ _ _ (zZ ?_))))
  exact hkp
 obtain⟨k1,rfl⟩:∃ k1,k=k1+1:=⟨k-1,oO⟩
 have hd:=aW c (k1+1) hlt
 have hd1:=aW c k1 oO
 have w1:IntKind.i64.wrap (k1:Int)=(k1:Int):=wrap_i64 _ oO oO
 have w2':IntKind.i64.wrap ((k1:Int)+1+1)=(k1:Int)+1+1:=wrap_i64 _ oO oO
 have hkl1:k1<c.length:=oO
 have hlt':(k1:Int)+1<c.length:=oO
 have hn:=hne k1 hlt
 have hH2:=(hkp.H q hq).trans hH
 have hc:=heq.2 st2 (c.getD (k1+1) ed0) (c.getD k1 ed0) (heq.1 _ _ hPc hkp)
 rw[decide_eq_false hn]at hc
 generalize c.getD (k1+1) ed0=x at *
 generalize c.getD k1 ed0=y at *
 obtain⟨xi,xa,xb⟩:=x
 obtain⟨yi,ya,yb⟩:=y
 simp only at hd hd1 hn
 (repeat' (first|refine qS ?_|refine qB ?_|(refine qK (zZ ?_))|(refine qC ?_;simp[f0,f5,hlt,hlt'])|(refine w_e [] ?_;intro J hJ;simp only[];simp[f0,f5,hlt,hlt'];refine hJ _ _ (zZ ?_))))
 (refine w_s [] [q] [(0,true),(1,true),(2,true),(3,true),(4,true),(5,true),(6,true),(7,true),(8,true),(9,true),(10,false)] ?_;intro J hJ;simp[f0,f1,f5,hlt,hlt',hd,hd1,w1,hkl1,hH2,hel];(repeat refine ca ?_))
 refine aO hc ?_;rintro r s3 ⟨rfl,hk3⟩
 have hH3:=(hk3.H q (Nat.lt_of_lt_of_le hq hkp.next)).trans hH2
 refine⟨fun _=>by simp[hH3,hH2],?_⟩
 (refine bE ?_;simp[hH3,hH2];refine hJ _ _ (zZ ?_))
 (repeat' (first|(refine qK (zZ ?_))|(refine qC ?_;simp[f5,w2'])|(refine w_e [] ?_;intro J hJ;simp only[];simp[f5,w2'];refine hJ _ _ (zZ ?_))))
 exact hJJ (c.length-(k1+1+1)) _ _ oO ⟨k1+1+1,oO,oO,rfl,by simp[f0],by simp[f1],sS,hkp.trans hk3⟩
structure Sh where
 L:List (Int×Int)
 on:List Int
 F:List (List Int)
def tM(w:List Int):List Int:=(w.drop 1).take (w.length-2)
def aHG(h:Sh)(w:List Int)(at':Nat):Sh:=
 ⟨aFn h.L w,h.on++w,h.F.set at' (sK (h.F.getD at' []) ((h.F.getD at' []).idxOf (w.getD 0 0)) ((h.F.getD at' []).idxOf (w.getD (w.length-1) 0))++(tM w).reverse)++
   [sK (h.F.getD at' []) ((h.F.getD at' []).idxOf (w.getD (w.length-1) 0)) ((h.F.getD at' []).idxOf (w.getD 0 0))++tM w]⟩
theorem aCR(vs:List Int):∀(F:List (List Int)) (k:Nat) (R:List Int),k<F.length→(fK vs F).take (k*2)++([.sl 0 R.length (us R),wv (mk vs R)]++(fK vs F).drop (k*2+2))=fK vs (F.set k R)
 |r::F,0,R,_=>by simp[fK]
 |r::F,k+1,R,h=>by
  have:=aCR vs F k R (by simpa using h)
  rw[show(k+1)*2=k*2+2 by omega]
  simp only[fK,List.flatMap_cons,List.cons_append,List.nil_append,List.take_succ_cons,List.drop_succ_cons,List.set_cons_succ]at this ⊢
  rw[← this]
 |[],k,R,h=>by simp at h
theorem aGA(vs:List Int)(F:List (List Int))(R:List Int):fK vs F++[.sl 0 R.length (us R),wv (mk vs R)]=fK vs (F++[R]):=by simp[fK]
theorem aCW{r:List Int}{i j:Nat}{v:Int}(h:v∈sK r i j):v∈r:=by
 have:=List.mem_of_mem_drop (List.mem_of_mem_take h)
 rw[List.mem_append]at this
 exact this.elim id id
theorem aKR{w:List Int}{v:Int}(h:v∈tM w):v∈w:=List.mem_of_mem_drop (List.mem_of_mem_take h)
theorem yH(w:List Int):(tM w).length=w.length-2:=by unfold tM;rw[List.length_take,List.length_drop];omega
theorem aNW(w:List Int):((us w).drop 1).take (w.length-1-1)=us (tM w):=by
 unfold tM
 rw[us,← List.map_drop,← List.map_take,show w.length-1-1=w.length-2 by omega]
structure KM(M:List Nat)(a b:St):Prop where
 next:a.next≤b.next
 H:∀ l,l<a.next→l∉M→b.H l=a.H l
theorem KM.keeps{M:List Nat}{a b c:St}(h:KM M a b)(k:aA b c):KM M a c:=⟨Nat.le_trans h.next k.next,fun l hl hm=>(k.H l (Nat.lt_of_lt_of_le hl h.next)).trans (h.H l hl hm)⟩
theorem KM.set{M:List Nat}{a b:St}(h:KM M a b){q:Nat}(hq:a.next≤q∨q∈M)(o:cA):KM M a (b.set q o):=⟨h.next,fun l hl hm=>by
 rw[bH,if_neg (by rcases hq with h1|h1;(· omega);(· intro e;exact hm (by rw[e];exact h1)))];exact h.H l hl hm⟩
theorem KM.of{M:List Nat}{a b:St}(h:aA a b):KM M a b:=⟨h.next,fun l hl _=>h.H l hl⟩
set_option maxHeartbeats 4000000 in
theorem aRm{g:Gr}(hg:GP g){h:Sh}{S nl pl ll fl:Nat}{le:List (List Int×LV)}{st:St}(hS:ShA g h.L h.on h.F S nl pl ll fl le st){w:List Int}{at':Nat}(hat:at' < h.F.length)(hw2:2≤w.length)(hwl:w.length≤200)(hwv:∀ v∈w,v∈g.vs)
 (hrl:(h.F.getD at' []).length≤1000) (h1:w.getD 0 0∈h.F.getD at' []) (h2:w.getD (w.length-1) 0∈h.F.getD at' []) (hfew:h.F.length<300) (hpos:0<st.next):
 aB Tryz.prog 76 [.pt S 0,.sl 0 w.length (us w),i at'] st fun _ st'=>∃ fl' le',ShA g (aHG h w at').L (aHG h w at').on (aHG h w at').F S nl pl ll fl' le' st'∧(fl'=fl∨st.next≤fl')∧KM [S,ll,fl] st st':=by
 have h64:=hg.h64
 have hn:g.vs.Nodup:=hg.toGoodE.toGood.nodup
 have hSb:=hS.r.box
 have hF:=hS.fac
 have hlt:=hS.r.lt
 have hflt:=hS.flt
 have hfl:=lS g.vs h.F
 have hd:=nB g.vs h.F at' hat
 have hrv:∀ v∈h.F.getD at' [],v∈g.vs:=hS.sub _ (by rw[List.getD_eq_getElem?_getD,List.getElem?_eq_getElem hat];exact List.getElem_mem _)
 have hk2:at' * 2<h.F.length*2:=oO
 have hati:(at':Int)<h.F.length:=oO
 have hsetF:=fun R=>aCR g.vs h.F at' R hat
 unfold aHG
 generalize hr:h.F.getD at' []=r at *
 have hd0:=qG w 0 oO
 have hdl:=qG w (w.length-1) oO
 have hh0:hdL (us w)=u (w.getD 0 0):=by rw[show us w=(us w).drop 0 from rfl,hd0];rfl
 have g1:=oU h1
 have g2:=oU h2
 have hi1:=List.idxOf_lt_length_of_mem h1
 have hi2:=List.idxOf_lt_length_of_mem h2
 have hmid:(us w).tail.take (tM w).length=us (tM w):=by have:=aNW w;rw[yH,show w.length-2=w.length-1-1 by omega,← List.drop_one];exact this
 have hml2:w.length-1-1=(tM w).length:=by rw[yH];omega
 have hml:=yH w
 have hmm:∀ v∈tM w,v∈g.vs:=fun v hv=>hwv v (aKR hv)
 have hwi:IntKind.i64.wrap ((w.length:Int)-1)=((w.length-1:Nat):Int):=by rw[wrap_i64 _ oO oO];omega
 generalize w.getD 0 0=x0 at *
 generalize w.getD (w.length-1) 0=xl at *
 generalize r.idxOf x0=i0 at *
 generalize r.idxOf xl=il at *
 have hw0:(0:Int)<w.length:=oO
 have hw1:((w.length-1:Nat):Int)<w.length:=oO
 have hw3:w.length-1<w.length:=oO
 have hw4:0<w.length:=oO
 refine qO aF Tryz.func76 rfl rfl Tryz.ntmps76 (rs:=[]) rfl sS ?_
 (repeat' (first|refine qS ?_|(refine w_e [] ?_;intro J hJ;simp only[];simp[hSb,hF,hd,hk2,hati,hat,hfl,hw0,hw4,hh0];(try (refine hJ _ _ (zZ ?_);clear hJ J)))))
 refine qE (Index r 0 x0 _ (by unfold small;omega)) sS ?_;rintro v s1 ⟨rfl,e1⟩
 rw[e1];clear e1 s1
 have hms:((w.length-1:Nat):Int)=(w.length:Int)-1:=oO
 have hm1:(1:Int)≤((w.length-1:Nat):Int):=oO
 have hm2:1≤w.length-1:=oO
 (repeat' (first|refine qS ?_|((first|(refine w_e [] ?_;intro J hJ;simp only[])|(refine aE ?_));simp[g1,hwi,hw1,hw3,hdl];(try (refine hJ _ _ (zZ ?_);clear hJ J)))))
 refine qE (Index r 0 xl _ (by unfold small;omega)) sS ?_;rintro v s1 ⟨rfl,e1⟩
 rw[e1];clear e1 s1
 generalize tM w=m at *
 have hmle:m.length≤200:=oO
 (repeat' (first|refine qS ?_|((first|(refine w_e [] ?_;intro J hJ;simp only[])|(refine aE ?_));simp[g2,hwi,hw1,hw3,hm1,hm2,hml2,hmid];(try (refine hJ _ _ (zZ ?_);clear hJ J)))))
 refine qE (aAJ m 0 _ oO) sS ?_;rintro v s1 ⟨q,rfl,q1,q2,hq,hk1⟩
 (repeat' (first|refine qS ?_|((first|(refine w_e [] ?_;intro J hJ;simp only[])|(refine aE ?_));simp[];(try (refine hJ _ _ (zZ ?_);clear hJ J)))))
 refine qE (uR m q s1 (by unfold small;omega) hq) sS ?_;rintro v s2 e2
 have hk2':aA st s2:=by rw[e2];exact hk1.set q1 _
 have hn2:s1.next=s2.next:=by rw[e2];rfl
 have hq2:s2.H q=.box 34 1 (us m.reverse):=by rw[e2];simp
 clear e2 hk1 hq
 have hS2:=hS.keep hk2'
 have n0:¬pl=ll:=fun e=>by have h3:=hS.r.plc;rw[e,hS.r.lin]at h3;cases h3
 (repeat' (first|refine qS ?_|((first|(refine w_e [] ?_;intro J hJ;simp only[])|(refine aE ?_));simp[];(try (refine hJ _ _ (zZ ?_);clear hJ J)))))
 refine qE (aJh hS2.r.box hS2.r.plc hS2.r.lin hS2.r.key n0 hn h64 w 0 hwv oO) sS ?_;rintro v s3 ⟨le',e3,hkey⟩
 have hn3:s3.next=s2.next:=by rw[e3];rfl
 have m1:¬fl=S:=fun e=>by have h3:=hS.fac;rw[e,hS.r.box]at h3;cases h3
 have m2:¬fl=ll:=fun e=>by have h3:=hS.fac;rw[e,hS.r.lin]at h3;cases h3
 have m3:¬ll=S:=fun e=>by have h3:=hS.r.lin;rw[e,hS.r.box]at h3;cases h3
 have m4:¬nl=S:=fun e=>by have h3:=hS.r.near;rw[e,hS.r.box]at h3;cases h3
 have m5:¬nl=ll:=fun e=>by have h3:=hS.r.near;rw[e,hS.r.lin]at h3;cases h3
 have m6:¬nl=fl:=fun e=>by have h3:=hS.r.near;rw[e,hS.fac]at h3;cases h3
 have m7:¬pl=S:=fun e=>by have h3:=hS.r.plc;rw[e,hS.r.box]at h3;cases h3
 have m8:¬pl=fl:=fun e=>by have h3:=hS.r.plc;rw[e,hS.fac]at h3;cases h3
 have hn2':=hk2'.next
 have hSb3:s3.H S=.box 119 7 [.sl 0 g.vs.length (us g.vs),.sl 0 g.es.length (eds g.es),.ms nl 0 g.vs.length,.mp pl,.mp ll,wv (mk g.vs (h.on++w)),.ms fl 0 h.F.length]:=by rw[e3];simp
 have hP3:s3.H pl=.map false [.u32] (sC g.vs):=by rw[e3];simp[m7,n0,hS2.r.plc]
 have hL3:s3.H ll=.map true [.u32,.u32] le':=by rw[e3];simp[m3]
 have hN3:s3.H nl=.box 116 1 (jA g):=by rw[e3];simp[m4,m5,hS2.r.near]
 have hF3:s3.H fl=.box 127 2 (fK g.vs h.F):=by rw[e3];simp[m1,m2,hS2.fac]
 have hq3:s3.H q=.box 34 1 (us m.reverse):=by rw[e3];simp[show ¬q=S by omega,show ¬q=ll by omega,hq2]
 have hK3:KM [S,ll,fl] st s3:=by rw[e3];exact((KM.of hk2').set (.inr sS) _).set (.inr sS) _
 clear e3 hS2 hq2
 have hb3:ShB g.vs S pl s3:=⟨⟨_,_,_,_,_,_,hSb3⟩,hP3⟩
 (refine aE ?_;simp[];(refine hJ _ _ (zZ ?_);clear hJ J))
 (repeat (refine qS ?_))
 (refine w_s [] [S] [(0,true),(1,true),(2,true),(3,true),(4,true),(5,true),(6,true),(7,true),(8,true),(10,true),(9,true),(11,true),(12,true),(13,true),(14,false)] ?_;intro J hJ;simp[hSb3])
 refine qD (aPW r i0 il s3 hi1 hi2 hrl oO) sS ?_;rintro v s4 ⟨⟨t,rfl,t0,t1,t2,tH⟩,hk4⟩
 refine⟨fun _ l hl=>?_,?_⟩
 ·rw[List.mem_singleton]at hl;rw[hl];exact hk4.H S oO
 have hal:=xS r i0 il hi1 hi2
 have hsl:=uH hi1 hi2
 have hn4:=hk4.next
 have hq4:=(hk4.H q oO).trans hq3
 have c1:¬q=t:=oO
 have c2:¬t=q:=oO
 have hAv:∀ v∈sK r i0 il++m.reverse,v∈g.vs:=fun v hv=>by
  rw[List.mem_append,List.mem_reverse]at hv
  exact hv.elim (fun h=>hrv v (aCW h)) (hmm v)
 have hSb4:=(hk4.H S oO).trans hSb3
 have hP4:=(hk4.H pl oO).trans hP3
 have hF4:=(hk4.H fl oO).trans hF3
 generalize sK r i0 il=A1 at *
 (refine bE ?_;simp[tH,t0,hq4,c1,c2];(repeat refine ca ?_))
 have c3:¬S=s4.next:=oO
 have c4:¬S=t:=oO
 refine⟨(if_neg c3).trans ((if_neg c4).trans (hk4.H S oO)),?_⟩
 have hk4':aA s3 ((s4.set t cA.dead).new (.own 34 1 (A1.length+m.length))):=(hk4.set t1 _).trans (aA.new _ _)
 have hn4':((s4.set t cA.dead).new (.own 34 1 (A1.length+m.length))).next=s4.next+1:=sS
 generalize hs5:(s4.set t cA.dead).new (.own 34 1 (A1.length+m.length))=s5 at *
 have hSb5:=(hk4'.H S oO).trans hSb3
 have hP5:=(hk4'.H pl oO).trans hP3
 have hF5:=(hk4'.H fl oO).trans hF3
 refine qD (aJR (vs:=g.vs) (S:=S) (pl:=pl) ⟨⟨_,_,_,_,_,_,hSb5⟩,hP5⟩ oO oO hn h64 (A1++m.reverse) s4.next hAv (by simp;omega)) sS ?_;rintro v s6 ⟨rfl,e6⟩
 rw[e6];clear e6 s6
 refine⟨fun _ l hl=>?_,?_⟩
 ·rw[List.mem_singleton]at hl;rw[hl];exact hk4'.H S oO
 (refine bE ?_;simp[hF5,hat,hati,hk2,hfl];(repeat refine ca ?_);(refine hJ _ _ (zZ ?_);clear hJ J))
 have hcell:(fK g.vs h.F).take (at' * 2)++LV.sl 0 (A1.length+m.length) (List.map u A1++(List.map u m).reverse)::wv (mk g.vs (A1++m.reverse))::(fK g.vs h.F).drop (at' * 2+2)=fK g.vs (h.F.set at' (A1++m.reverse)):=by
  have:=hsetF (A1++m.reverse)
  simpa using this
 rw[hcell]
 clear hcell
 have hFl:(h.F.set at' (A1++m.reverse)).length=h.F.length:=sS
 have hFs:∀ r∈h.F.set at' (A1++m.reverse),∀ v∈r,v∈g.vs:=fun r hr v hv=>by
  rcases List.mem_or_eq_of_mem_set hr with h1|h1
  ·exact hS.sub r h1 v hv
  ·rw[h1]at hv;exact hAv v hv
 have hK5:KM [S,ll,fl] st (s5.set fl (.box 127 2 (fK g.vs (h.F.set at' (A1++m.reverse))))):=(hK3.keeps hk4').set (.inr sS) _
 have hL5:=(hk4'.H ll oO).trans hL3
 have hN5:=(hk4'.H nl oO).trans hN3
 generalize hF':h.F.set at' (A1++m.reverse)=F1 at *
 have n7:¬S=fl:=fun e=>m1 e.symm
 have n8:¬ll=fl:=fun e=>m2 e.symm
 generalize hs7:s5.set fl (.box 127 2 (fK g.vs F1))=s7 at *
 have hn7:s7.next=s5.next:=by rw[← hs7];rfl
 have hSb7:s7.H S=.box 119 7 [.sl 0 g.vs.length (us g.vs),.sl 0 g.es.length (eds g.es),.ms nl 0 g.vs.length,.mp pl,.mp ll,wv (mk g.vs (h.on++w)),.ms fl 0 h.F.length]:=by rw[← hs7,bH,if_neg n7];exact hSb5
 have hP7:s7.H pl=.map false [.u32] (sC g.vs):=by rw[← hs7,bH,if_neg m8];exact hP5
 have hL7:s7.H ll=.map true [.u32,.u32] le':=by rw[← hs7,bH,if_neg n8];exact hL5
 have hN7:s7.H nl=.box 116 1 (jA g):=by rw[← hs7,bH,if_neg m6];exact hN5
 have hF7:s7.H fl=.box 127 2 (fK g.vs F1):=by rw[← hs7];simp
 clear hs7 hSb5 hP5 hF5 hL5 hN5 hSb4 hP4 hF4 hSb3 hP3 hF3 hL3 hN3 hk4' hk4 hs5 tH t0 t1 t2 hq4 hq3 hb3
 have hFl7:=lS g.vs F1
 (repeat (refine qS ?_))
 (refine w_s [] [S] [(0,true),(1,true),(2,true),(3,true),(4,true),(5,true),(6,true),(7,true),(8,true),(10,true),(9,true),(11,true),(12,true),(13,true),(14,false),(15,true),(16,true),(17,false)] ?_;intro J hJ;simp[hSb7])
 refine qD (aPW r il i0 s7 hi2 hi1 hrl oO) sS ?_;rintro v s8 ⟨⟨t',rfl,t0,t1,t2,tH⟩,hk8⟩
 refine⟨fun _ l hl=>?_,?_⟩
 ·rw[List.mem_singleton]at hl;rw[hl];exact hk8.H S oO
 have hal2:=xS r il i0 hi2 hi1
 have hsl2:=uH hi2 hi1
 have hn8:=hk8.next
 have d1:¬S=s8.next:=oO
 have d2:¬S=t':=oO
 have hBv:∀ v∈sK r il i0++m,v∈g.vs:=fun v hv=>by
  rw[List.mem_append]at hv
  exact hv.elim (fun h=>hrv v (aCW h)) (hmm v)
 generalize sK r il i0=A2 at *
 (refine bE ?_;simp[tH,t0];(repeat refine ca ?_))
 refine⟨(if_neg d1).trans ((if_neg d2).trans (hk8.H S oO)),?_⟩
 have hk8':aA s7 ((s8.set t' cA.dead).new (.own 34 1 (A2.length+m.length))):=(hk8.set t1 _).trans (aA.new _ _)
 have hn8':((s8.set t' cA.dead).new (.own 34 1 (A2.length+m.length))).next=s8.next+1:=sS
 generalize hs9:(s8.set t' cA.dead).new (.own 34 1 (A2.length+m.length))=s9 at *
 have hSb9:=(hk8'.H S oO).trans hSb7
 have hP9:=(hk8'.H pl oO).trans hP7
 have hF9:=(hk8'.H fl oO).trans hF7
 have hL9:=(hk8'.H ll oO).trans hL7
 have hN9:=(hk8'.H nl oO).trans hN7
 refine qD (aJR (vs:=g.vs) (S:=S) (pl:=pl) ⟨⟨_,_,_,_,_,_,hSb9⟩,hP9⟩ oO oO hn h64 (A2++m) s8.next hBv (by simp;omega)) sS ?_;rintro v s6 ⟨rfl,e6⟩
 rw[e6];clear e6 s6
 refine⟨fun _ l hl=>?_,?_⟩
 ·rw[List.mem_singleton]at hl;rw[hl];exact hk8'.H S oO
 have z1:¬fl=s9.next:=oO
 have z2:¬S=s9.next:=oO
 have z3:¬S=s9.next+1:=oO
 have z4:¬s9.next=fl:=oO
 (refine bE ?_;simp[hF9,hSb9,hFl,hFl7,z1,z2,z3,z4,n7,m1])
 refine⟨hSb7.symm,⟨oO,by unfold maxLen;omega⟩,hJ _ _ ?_⟩
 clear hJ J
 simp only[ak]
 have hfs:fK g.vs F1++[LV.sl 0 (A2.length+m.length) (List.map u A2++List.map u m),wv (mk g.vs (A2++m))]=fK g.vs (F1++[A2++m]):=by
  have:=aGA g.vs F1 (A2++m)
  simpa using this
 have hFl2:(F1++[A2++m]).length=h.F.length+1:=by rw[List.length_append,hFl];rfl
 rw[hfs,← hFl2]
 clear hfs
 skip
 simp only[tO]
 have hs10:KM [S,ll,fl] st ((((s9.new (.own 127 2 1)).set fl .dead).new (.box 127 2 (fK g.vs (F1++[A2++m])))).set S (.box 119 7 [.sl 0 g.vs.length (us g.vs),.sl 0 g.es.length (eds g.es),.ms nl 0 g.vs.length,.mp pl,.mp ll,wv (mk g.vs (h.on++w)),.ms (s9.next+1) 0 (F1++[A2++m]).length])):=by
  have:=(((hK5.keeps hk8').keeps (aA.new _ (.own 127 2 1))).set (q:=fl) (.inr sS) .dead)
  exact(this.keeps (aA.new _ _)).set (.inr sS) _
 refine⟨trivial,s9.next+1,le',⟨⟨sS,?_,?_,?_,hkey,?_⟩,?_,sS,?_,?_,by rw[hFl2];omega⟩,.inr (by have:=(hK5.keeps hk8').next;omega),hs10⟩
 ·(repeat (first|rw[nHh nOo]|rw[sHh oO]|rw[nIi nQq]|rw[sIi oO]));exact hN9
 ·(repeat (first|rw[nHh nOo]|rw[sHh oO]|rw[nIi nQq]|rw[sIi oO]));exact hP9
 ·(repeat (first|rw[nHh nOo]|rw[sHh oO]|rw[nIi nQq]|rw[sIi oO]));exact hL9
 ·simp only[aQ,aC];omega
 ·(repeat (first|rw[nHh nOo]|rw[sHh oO]|rw[nIi nQq]|rw[sIi oO]))
 ·intro r hr v hv
  rw[List.mem_append,List.mem_singleton]at hr
  rcases hr with hr|hr
  ·exact hFs r hr v hv
  ·rw[hr]at hv;exact hBv v hv
 ·intro v hv
  rw[List.mem_append]at hv
  exact hv.elim (hS.onv v) (hwv v)
theorem aOD{ops:Array Oper}{M B:List Nat}{st0:St}{J:Frm→St→Prop}{listed:Array Bool}{fr:Frm}{st:St}{k:Nat}(n:Nat)(p q r:Nat×Bool)(h1:dM Tryz.prog tab ops M B st0 (fun fr st=>gN Tryz.prog tab ops M (SB B st0) J n (listed.setIfInBounds p.1 true) fr st) (pick ops [p]) fr st)
 (h2:dM Tryz.prog tab ops M B st0 (fun fr st=>gN Tryz.prog tab ops M (SB B st0) J n (listed.setIfInBounds q.1 true) fr st) (pick ops [q]) fr st)
 (h3:dM Tryz.prog tab ops M B st0 (fun fr st=>gN Tryz.prog tab ops M (SB B st0) J n (listed.setIfInBounds r.1 true) fr st) (pick ops [r]) fr st) (hn:k=n+1:=by rfl) (hk:aGm ops [p,q,r] listed=true:=by kernel_rfl):gN Tryz.prog tab ops M (SB B st0) J k listed fr st:=by
 subst hn
 refine aCn n [p,q,r] hk fun x hx=>?_
 simp only[List.mem_cons,List.not_mem_nil,or_false]at hx
 rcases hx with rfl|rfl|rfl
 ·exact h1
 ·exact h2
 ·exact h3
structure NeI(g:Gr)(lo S nl pl ll:Nat)(f6:LV)(st0 s:St)(near:List LV)(pm lm:List (List Int×LV))(on:Nat):Prop where
 gr:s.H lo=.box 25 2 (grL g)
 box:s.H S=.box 119 7 [.sl 0 g.vs.length (us g.vs),.sl 0 g.es.length (eds g.es),.ms nl 0 g.vs.length,.mp pl,.mp ll,wv on,f6]
 near:s.H nl=.box 116 1 near
 plc:s.H pl=.map false [.u32] pm
 lin:s.H ll=.map true [.u32,.u32] lm
 b:st0.next≤lo∧lo<s.next∧st0.next≤S∧S<s.next∧st0.next≤nl∧nl<s.next∧st0.next≤pl∧pl<s.next∧st0.next≤ll∧ll<s.next
 kp:aA st0 s
theorem fS(n:Nat):cZ [.atom (.int .u64 0)] n=List.replicate n (wv 0):=by
 induction n with
 |zero=>rfl
 |succ n ih=>rw[List.replicate_succ,← ih];rfl
def aGx(vs:List Int)(j:Nat):List (List Int×LV):=(List.range j).map fun k=>([vs.getD k 0],i k)
theorem xO:∀(L:List (List Int×LV)) (k:List Int) (x:LV),k∉L.map (·.1)→aV L k x=L++[(k,x)]
 |[],k,x,_=>rfl
 |q::L,k,x,h=>by
  simp only[List.map_cons,List.mem_cons,not_or]at h
  simp only[aV]
  rw[if_neg (by simpa using h.1),xO L k x h.2];rfl
theorem aHn{vs:List Int}(hn:vs.Nodup){j:Nat}(hj:j<vs.length):aV (aGx vs j) [vs.getD j 0] (i j)=aGx vs (j+1):=by
 rw[xO]
 ·unfold aGx;rw[List.range_succ,List.map_append];rfl
 ·unfold aGx
  rw[List.map_map]
  intro h
  obtain⟨k,hk,e⟩:=List.mem_map.1 h
  have hk:=List.mem_range.1 hk
  simp only[Function.comp,List.cons.injEq,and_true]at e
  rw[aI _ _ hj,aI _ _ (show k<vs.length by omega),aBp hn oO hj]at e
  omega
def jV(g:Gr)(j:Nat):List LV:=g.vs.map fun v=>wv (mk g.vs (nbr (g.es.take j) v))
@[simp] theorem aAd(g:Gr)(j:Nat):(jV g j).length=g.vs.length:=by simp[jV]
theorem aEK(g:Gr):jV g 0=List.replicate g.vs.length (wv 0):=by
 have hz:mk g.vs []=0:=(mk_zero g.vs []).2 fun _ _=>by simp
 unfold jV
 rw[List.eq_replicate_iff]
 refine⟨sS,fun b hb=>?_⟩
 obtain⟨v,_,rfl⟩:=List.mem_map.1 hb
 simp[nbr,hz]
theorem aGt(g:Gr):jV g g.es.length=jA g:=by unfold jV jA;rw[List.take_length]
theorem mY(g:Gr)(j k:Nat)(hk:k<g.vs.length):(jV g j)[k]?=some (wv (mk g.vs (nbr (g.es.take j) (g.vs.getD k 0)))):=by
 unfold jV
 rw[List.getElem?_map,List.getElem?_eq_getElem hk,aI _ _ hk];rfl
theorem aKl(es:List Ed)(x:Ed)(v:Int):nbr (es++[x]) v=nbr es v++rQ v x:=by simp[nbr]
theorem aEr{g:Gr}(hn:g.vs.Nodup){j:Nat}(hj:j<g.es.length){d a b:Int}(hx:g.es.getD j ed0=⟨d,a,b⟩)(hab:a≠b)(ha:a∈g.vs)(hb:b∈g.vs):
 ((jV g j).set (g.vs.idxOf a) (wv (mk g.vs (nbr (g.es.take j) a++[b])))).set (g.vs.idxOf b) (wv (mk g.vs (nbr (g.es.take j) b++[a])))=jV g (j+1):=by
 obtain⟨ia,ga⟩:=wX ha
 obtain⟨ib,gb⟩:=wX hb
 have htk:g.es.take (j+1)=g.es.take j++[⟨d,a,b⟩]:=by
  rw[List.take_succ_eq_append_getElem hj,← bZ _ _ hj,hx]
 refine List.ext_getElem? fun k=>?_
 by_cases hk:k<g.vs.length
 ·rw[mY g (j+1) k hk,htk,aKl,List.getElem?_set,List.getElem?_set,mY g j k hk]
  simp only[List.length_set,aAd]
  by_cases e1:g.vs.idxOf b=k
  ·rw[if_pos e1,if_pos oO,← e1,gb]
   simp[rQ,hab]
  ·rw[if_neg e1]
   by_cases e2:g.vs.idxOf a=k
   ·rw[if_pos e2,if_pos oO,← e2,ga]
    simp[rQ,Ne.symm hab]
   ·rw[if_neg e2]
    have v1:¬a=g.vs.getD k 0:=fun e=>e2 (by rw[e,aI _ _ hk];exact hn.idxOf_getElem k hk)
    have v2:¬b=g.vs.getD k 0:=fun e=>e1 (by rw[e,aI _ _ hk];exact hn.idxOf_getElem k hk)
    unfold rQ
    rw[if_neg v1,if_neg v2];simp
 ·rw[List.getElem?_eq_none (by simp;omega),List.getElem?_eq_none (by simp;omega)]
theorem aRg(x y:Ed)(q:Nat)(st:St)(hq:st.H q=.box 56 3 (edL x))(hqn:q<st.next):
 aB Tryz.prog 112 [.ag (edL y),.pt q 0] st fun r st'=>r=bb (decide (y≠x))∧aA st st':=by
 obtain⟨d,a,b⟩:=x
 obtain⟨d',a',b'⟩:=y
 have h1:¬q=st.next:=oO
 refine qO aF Tryz.func112 rfl rfl Tryz.ntmps112 (rs:=[.tmp 3]) rfl sS ?_
 (repeat' (first|refine qS ?_|(refine qR (zZ ?_);simp[hq,h1])|(refine w_e [] ?_;intro J hJ;simp only[];simp[hq,h1];refine hJ _ _ (zZ ?_))))
 exact⟨rfl,aA.new _ _⟩
def newF(g:Gr):Option Sh:=match g.es with
 |[]=>none
 |x::_=>(aGe g.vs (dS (g.es.filter fun y=>decide (y≠x))) (fun _=>true) x.a x.b 1000).bind fun ring=>
  if ring.length≤200∧∀ v∈ring,v∈g.vs then some ⟨aFn (aFn [] ring) [x.a,x.b],ring++[x.a,x.b],[ring,ring.reverse]⟩else none
set_option maxHeartbeats 4000000 in
theorem aJB{g:Gr}(hg:GP g){h:Sh}(hh:newF g=some h)(st:St):aB Tryz.prog 74 [.ag (grL g)] st fun r st'=>∃ S nl pl ll fl le,r=.pt S 0∧ShA g h.L h.on h.F S nl pl ll fl le st'∧(st.next≤S∧st.next≤ll∧st.next≤fl)∧aA st st':=by
 have he:=hg.he
 have h64:=hg.h64
 refine qO aF Tryz.func74 rfl rfl Tryz.ntmps74 (rs:=[.tmp 2]) rfl sS ?_
 refine cG fun hpos=>?_
 (repeat' (first|refine qS ?_|(refine w_e [] ?_;intro J hJ;simp only[];simp[];(refine hJ _ _ (zZ ?_);clear hJ J))))
 refine xZ (fun f s=>∃ S nl pl ll,f 1=.pt st.next 0∧f 3=.pt S 0∧NeI g st.next S nl pl ll .nil st s (List.replicate g.vs.length (wv 0)) [] [] 0) ?_ ?_
 ·refine w_a [] [st.next] ?_;intro J hJ
  refine iN 6 [(0,true),(1,true),(2,true),(3,true)] ?_
  simp
  refine aOD 5 (4,true) (5,true) (6,true) ?_ ?_ ?_
  ·simp
   refine⟨⟨oO,oO⟩,?_⟩
   refine oM 4 (5,true) (6,true) ?_ ?_
   ·simp
    refine iN 0 [(6,true),(7,true),(8,true),(9,true)] ?_
    simp
    refine dI (hJ _ _ ?_)
    simp only[ak]
    refine⟨trivial,st.next+4,st.next+1,st.next+2,st.next+3,sS,sS,⟨?_,?_,?_,?_,?_,?_,?_⟩⟩
    ·(repeat (first|rw[nHh nOo]|rw[sHh oO]|rw[nIi nQq]|rw[sIi oO]))
    ·(repeat (first|rw[nHh nOo]|rw[sHh oO]|rw[nIi nQq]|rw[sIi oO]));rfl
    ·(repeat (first|rw[nHh nOo]|rw[sHh oO]|rw[nIi nQq]|rw[sIi oO]));rw[fS]
    ·(repeat (first|rw[nHh nOo]|rw[sHh oO]|rw[nIi nQq]|rw[sIi oO]))
    ·(repeat (first|rw[nHh nOo]|rw[sHh oO]|rw[nIi nQq]|rw[sIi oO]))
    ·simp only[aC];omega
    ·(repeat (first|exact aA.refl _|(refine aA.trans ?_ (aA.new _ _))))
   ·simp
    refine iN 0 [(5,true),(7,true),(8,true),(9,true)] ?_
    simp
    refine dI (hJ _ _ ?_)
    simp only[ak]
    refine⟨trivial,st.next+4,st.next+1,st.next+3,st.next+2,sS,sS,⟨?_,?_,?_,?_,?_,?_,?_⟩⟩
    ·(repeat (first|rw[nHh nOo]|rw[sHh oO]|rw[nIi nQq]|rw[sIi oO]))
    ·(repeat (first|rw[nHh nOo]|rw[sHh oO]|rw[nIi nQq]|rw[sIi oO]));rfl
    ·(repeat (first|rw[nHh nOo]|rw[sHh oO]|rw[nIi nQq]|rw[sIi oO]));rw[fS]
    ·(repeat (first|rw[nHh nOo]|rw[sHh oO]|rw[nIi nQq]|rw[sIi oO]))
    ·(repeat (first|rw[nHh nOo]|rw[sHh oO]|rw[nIi nQq]|rw[sIi oO]))
    ·simp only[aC];omega
    ·(repeat (first|exact aA.refl _|(refine aA.trans ?_ (aA.new _ _))))
  ·simp
   refine oM 4 (4,true) (6,true) ?_ ?_
   ·simp
    refine⟨⟨oO,oO⟩,?_⟩
    refine iN 0 [(6,true),(7,true),(8,true),(9,true)] ?_
    simp
    refine dI (hJ _ _ ?_)
    simp only[ak]
    refine⟨trivial,st.next+4,st.next+2,st.next+1,st.next+3,sS,sS,⟨?_,?_,?_,?_,?_,?_,?_⟩⟩
    ·(repeat (first|rw[nHh nOo]|rw[sHh oO]|rw[nIi nQq]|rw[sIi oO]))
    ·(repeat (first|rw[nHh nOo]|rw[sHh oO]|rw[nIi nQq]|rw[sIi oO]));rfl
    ·(repeat (first|rw[nHh nOo]|rw[sHh oO]|rw[nIi nQq]|rw[sIi oO]));rw[fS]
    ·(repeat (first|rw[nHh nOo]|rw[sHh oO]|rw[nIi nQq]|rw[sIi oO]))
    ·(repeat (first|rw[nHh nOo]|rw[sHh oO]|rw[nIi nQq]|rw[sIi oO]))
    ·simp only[aC];omega
    ·(repeat (first|exact aA.refl _|(refine aA.trans ?_ (aA.new _ _))))
   ·simp
    refine iN 0 [(4,true),(7,true),(8,true),(9,true)] ?_
    simp
    refine⟨⟨oO,oO⟩,?_⟩
    refine dI (hJ _ _ ?_)
    simp only[ak]
    refine⟨trivial,st.next+4,st.next+3,st.next+1,st.next+2,sS,sS,⟨?_,?_,?_,?_,?_,?_,?_⟩⟩
    ·(repeat (first|rw[nHh nOo]|rw[sHh oO]|rw[nIi nQq]|rw[sIi oO]))
    ·(repeat (first|rw[nHh nOo]|rw[sHh oO]|rw[nIi nQq]|rw[sIi oO]));rfl
    ·(repeat (first|rw[nHh nOo]|rw[sHh oO]|rw[nIi nQq]|rw[sIi oO]));rw[fS]
    ·(repeat (first|rw[nHh nOo]|rw[sHh oO]|rw[nIi nQq]|rw[sIi oO]))
    ·(repeat (first|rw[nHh nOo]|rw[sHh oO]|rw[nIi nQq]|rw[sIi oO]))
    ·simp only[aC];omega
    ·(repeat (first|exact aA.refl _|(refine aA.trans ?_ (aA.new _ _))))
  ·simp
   refine oM 4 (4,true) (5,true) ?_ ?_
   ·simp
    refine⟨⟨oO,oO⟩,?_⟩
    refine iN 0 [(5,true),(7,true),(8,true),(9,true)] ?_
    simp
    refine dI (hJ _ _ ?_)
    simp only[ak]
    refine⟨trivial,st.next+4,st.next+2,st.next+3,st.next+1,sS,sS,⟨?_,?_,?_,?_,?_,?_,?_⟩⟩
    ·(repeat (first|rw[nHh nOo]|rw[sHh oO]|rw[nIi nQq]|rw[sIi oO]))
    ·(repeat (first|rw[nHh nOo]|rw[sHh oO]|rw[nIi nQq]|rw[sIi oO]));rfl
    ·(repeat (first|rw[nHh nOo]|rw[sHh oO]|rw[nIi nQq]|rw[sIi oO]));rw[fS]
    ·(repeat (first|rw[nHh nOo]|rw[sHh oO]|rw[nIi nQq]|rw[sIi oO]))
    ·(repeat (first|rw[nHh nOo]|rw[sHh oO]|rw[nIi nQq]|rw[sIi oO]))
    ·simp only[aC];omega
    ·(repeat (first|exact aA.refl _|(refine aA.trans ?_ (aA.new _ _))))
   ·simp
    refine iN 0 [(4,true),(7,true),(8,true),(9,true)] ?_
    simp
    refine⟨⟨oO,oO⟩,?_⟩
    refine dI (hJ _ _ ?_)
    simp only[ak]
    refine⟨trivial,st.next+4,st.next+3,st.next+2,st.next+1,sS,sS,⟨?_,?_,?_,?_,?_,?_,?_⟩⟩
    ·(repeat (first|rw[nHh nOo]|rw[sHh oO]|rw[nIi nQq]|rw[sIi oO]))
    ·(repeat (first|rw[nHh nOo]|rw[sHh oO]|rw[nIi nQq]|rw[sIi oO]));rfl
    ·(repeat (first|rw[nHh nOo]|rw[sHh oO]|rw[nIi nQq]|rw[sIi oO]));rw[fS]
    ·(repeat (first|rw[nHh nOo]|rw[sHh oO]|rw[nIi nQq]|rw[sIi oO]))
    ·(repeat (first|rw[nHh nOo]|rw[sHh oO]|rw[nIi nQq]|rw[sIi oO]))
    ·simp only[aC];omega
    ·(repeat (first|exact aA.refl _|(refine aA.trans ?_ (aA.new _ _))))
 ·rintro fr s ⟨S,nl,pl,ll,f1,f3,hI⟩
  have hn:g.vs.Nodup:=hg.toGoodE.toGood.nodup
  have hG:=hI.gr
  (repeat' (first|refine qS ?_|refine qB ?_|(refine w_e [] ?_;intro J hJ;simp only[];simp[f1,hG];(refine hJ _ _ (zZ ?_);clear hJ J))))
  refine aM 24 23 25 35 (g.vs.length) (fun j fr st2=>fr 1=.pt st.next 0∧fr 3=.pt S 0∧fr 22=.sl 0 g.vs.length (us g.vs)∧NeI g st.next S nl pl ll .nil st st2 (List.replicate g.vs.length (wv 0)) (aGx g.vs j) [] 0) ?_ ?_ ?_
  ·exact⟨by simp[f1],by simp[f3],sS,hI⟩
  ·clear f1 f3 hI hG fr s
   rintro j fr s hlt ⟨f1,f3,f22,hI⟩ fi fn JO hJO
   have hd:=qG g.vs j hlt
   have hps:=aHn hn hlt
   generalize g.vs.getD j 0=v at *
   obtain⟨hG,hSb,hN,hP,hL,hb,hk⟩:=id hI
   have a1:¬st.next=pl:=fun e=>by rw[e,hP]at hG;cases hG
   have a2:¬S=pl:=fun e=>by rw[e,hP]at hSb;cases hSb
   have a3:¬nl=pl:=fun e=>by rw[e,hP]at hN;cases hN
   have a4:¬ll=pl:=fun e=>by rw[e,hP]at hL;cases hL
   (repeat' (first|refine qS ?_|(refine w_e [] ?_;intro J hJ;simp only[];simp[f3,f22,fi,fn,hd,hlt,hSb,hP,hps];(refine hJ _ _ (zZ ?_);clear hJ J))))
   exact hJO _ _ (by simp[fi]) (by simp[fn]) ⟨by simp[f1],by simp[f3],by simp[f22],⟨by(repeat (first|rw[nHh nOo]|rw[sHh oO]|rw[nIi nQq]|rw[sIi oO]));exact hG,by(repeat (first|rw[nHh nOo]|rw[sHh oO]|rw[nIi nQq]|rw[sIi oO]));exact hSb,by(repeat (first|rw[nHh nOo]|rw[sHh oO]|rw[nIi nQq]|rw[sIi oO]));exact hN,by(repeat (first|rw[nHh nOo]|rw[sHh oO]|rw[nIi nQq]|rw[sIi oO])),by(repeat (first|rw[nHh nOo]|rw[sHh oO]|rw[nIi nQq]|rw[sIi oO]));exact hL,by simp only[aQ];exact hb,hk.set oO _⟩⟩
  ·clear f1 f3 hI hG fr s
   rintro fr s ⟨f1,f3,f22,hI⟩
   have hG:=hI.gr
   have hel:=aJ g.es
   (repeat' (first|refine qS ?_|refine qB ?_|(refine w_e [] ?_;intro J hJ;simp only[];simp[f1,hG];(refine hJ _ _ (zZ ?_);clear hJ J))))
   rw[← aEK]at hI
   have hplc:aGx g.vs g.vs.length=sC g.vs:=rfl
   rw[hplc]at hI
   clear hplc
   refine aM 39 38 40 81 (g.es.length) (fun j fr st2=>fr 1=.pt st.next 0∧fr 3=.pt S 0∧fr 37=.sl 0 g.es.length (eds g.es)∧NeI g st.next S nl pl ll .nil st st2 (jV g j) (sC g.vs) [] 0) ?_ ?_ ?_
   ·exact⟨by simp[f1],by simp[f3],sS,hI⟩
   ·clear f1 f3 f22 hI hG fr s
    rintro j fr s hlt ⟨f1,f3,f37,hI⟩ fi fn JO hJO
    have hde:=aW g.es j hlt
    have hj3:j*3<g.es.length*3:=oO
    have hm:g.es.getD j ed0∈g.es:=by rw[bZ _ _ hlt];exact List.getElem_mem _
    have hends:=hg.ends _ hm
    have hne:=hg.ne _ hm
    generalize hx:g.es.getD j ed0=x at *
    obtain⟨d,a,b⟩:=x
    simp only at hends hne
    have hsu:=aEr hn hlt hx hne hends.1 hends.2
    obtain⟨ia,ga⟩:=wX hends.1
    obtain⟨ib,gb⟩:=wX hends.2
    have pa:=wC hn ia
    have pb:=wC hn ib
    rw[ga]at pa
    rw[gb]at pb
    have na:=mY g j _ ia
    rw[ga]at na
    have oa:=vO g.vs (nbr (g.es.take j) a) [b] h64
    have ob:=vO g.vs (nbr (g.es.take j) b) [a] h64
    have nb:=mY g j _ ib
    rw[gb]at nb
    have hidx:¬g.vs.idxOf a=g.vs.idxOf b:=fun e=>hne (by rw[← ga,← gb,e])
    have nb2:((jV g j).set (g.vs.idxOf a) (wv (mk g.vs (nbr (g.es.take j) a++[b]))))[g.vs.idxOf b]?=some (wv (mk g.vs (nbr (g.es.take j) b))):=by
     rw[List.getElem?_set,if_neg hidx];exact nb
    have hl:=aAd g j
    generalize jV g j=N at *
    generalize g.vs.idxOf a=ka at *
    generalize g.vs.idxOf b=kb at *
    generalize mk g.vs (nbr (g.es.take j) a)=ma at *
    generalize mk g.vs (nbr (g.es.take j) b)=mb at *
    obtain⟨hG,hSb,hN,hP,hL,hb,hk⟩:=id hI
    have a1:¬st.next=s.next:=oO
    have a2:¬S=s.next:=oO
    have a3:¬nl=s.next:=oO
    have a4:¬ll=s.next:=oO
    have a5:¬pl=s.next:=oO
    have da:N.drop ka=wv ma::N.drop (ka+1):=by
     rw[List.drop_eq_getElem_cons oO]
     rw[List.getElem?_eq_getElem oO,Option.some.injEq]at na
     rw[na]
    have ka1:(ka:Int)<g.vs.length:=oO
    have kb1:(kb:Int)<g.vs.length:=oO
    (repeat' (first|refine qS ?_|(refine w_e [] ?_;intro J hJ;simp only[];simp[f37,fi,fn,hde,hel,hj3,hlt];(refine hJ _ _ (zZ ?_);clear hJ J))))
    (refine w_s [] [S,s.next,nl,pl] [(0,true),(1,true),(2,true),(3,true),(4,true),(5,true),(6,true),(7,true),(8,true),(9,true),(10,true),(11,true),(12,true),(13,true),(14,true),(15,true),(16,true),(17,true),(18,true),(19,false)] ?_;intro J hJ;simp[f3,hSb,hN,hP,a1,a2,a3,a4,a5,pa,da,ia,ka1,hl])
    have hBb:∀ {v:Int} {s':St},v∈g.vs→s'.H S=.box 119 7 [.sl 0 g.vs.length (us g.vs),.sl 0 g.es.length (eds g.es),.ms nl 0 g.vs.length,.mp pl,.mp ll,wv 0,.nil]→s'.H pl=.map false [.u32] (sC g.vs)→aB Tryz.prog 110 [.pt S 0,u v] s' fun r st'=>r=wv (mk g.vs [v])∧st'=s':=
     fun {v s'} hv h1 h2=>aMC ⟨⟨_,_,_,_,_,_,h1⟩,h2⟩ hn h64 hv
    refine qD (hBb hends.2 (by rw[bI,if_neg a2];exact hSb) (by rw[bI,if_neg a5];exact hP)) sS ?_;rintro r s1 ⟨rfl,h1⟩
    rw[h1];clear h1 s1
    refine⟨fun h=>by first|(cases h;done)|exact fun _ _=>rfl|simp,?_⟩
    have hset:∀(M:List LV) (k:Nat) (y:LV),k<M.length→M.take k++y::M.drop (k+1)=M.set k y:=fun M k y h=>by rw[List.set_eq_take_append_cons_drop,if_pos h]
    have hs1:=hset N ka (wv (mk g.vs (nbr (g.es.take j) a++[b]))) oO
    have b1:¬S=nl:=fun e=>by rw[e,hN]at hSb;cases hSb
    have b2:¬pl=nl:=fun e=>by rw[e,hN]at hP;cases hP
    have b3:¬s.next=nl:=oO
    have b4:¬ll=nl:=fun e=>by rw[e,hN]at hL;cases hL
    have b5:¬st.next=nl:=fun e=>by rw[e,hN]at hG;cases hG
    (refine bE ?_;simp[hSb,hN,hP,a1,a2,a3,a4,a5,ia,ka1,hl,oa];(repeat refine ca ?_);(refine hJ _ _ (zZ ?_);clear hJ J))
    rw[hs1]
    have hl2:(N.set ka (wv (mk g.vs (nbr (g.es.take j) a++[b])))).length=g.vs.length:=by rw[List.length_set,hl]
    generalize N.set ka (wv (mk g.vs (nbr (g.es.take j) a++[b])))=N2 at *
    have db:N2.drop kb=wv mb::N2.drop (kb+1):=by
     rw[List.drop_eq_getElem_cons oO]
     rw[List.getElem?_eq_getElem oO,Option.some.injEq]at nb2
     rw[nb2]
    have hs2:=hset N2 kb (wv (mk g.vs (nbr (g.es.take j) b++[a]))) oO
    (repeat (refine qS ?_))
    (refine w_s [] [S,s.next,nl,pl] [(0,true),(1,true),(2,true),(3,true),(4,true),(5,true),(6,true),(7,true),(8,true),(9,true),(10,true),(11,true),(12,true),(13,true),(14,true),(15,true),(16,true),(17,true),(18,true),(19,false)] ?_;intro J hJ;simp[f3,hSb,hP,a1,a2,a3,a4,a5,b1,b2,b3,b4,pb,db,ib,kb1,hl2])
    refine qD (hBb hends.1 (by rw[bH,if_neg b1,bI,if_neg a2];exact hSb) (by rw[bH,if_neg b2,bI,if_neg a5];exact hP)) sS ?_;rintro r s1 ⟨rfl,h1⟩
    rw[h1];clear h1 s1
    refine⟨fun h=>by first|(cases h;done)|exact fun _ _=>rfl|simp,?_⟩
    (refine bE ?_;simp[hSb,hP,a1,a2,a3,a4,a5,b1,b2,b3,b4,ib,kb1,hl2,ob];(repeat refine ca ?_);(refine hJ _ _ (zZ ?_);clear hJ J))
    rw[hs2,hsu]
    skip
    refine hJO _ _ (by simp[fi]) (by simp[fn]) ⟨by simp[f1],by simp[f3],by simp[f37],⟨by(repeat (first|rw[nHh nOo]|rw[sHh oO]|rw[nIi nQq]|rw[sIi oO]));exact hG,by(repeat (first|rw[nHh nOo]|rw[sHh oO]|rw[nIi nQq]|rw[sIi oO]));exact hSb,by(repeat (first|rw[nHh nOo]|rw[sHh oO]|rw[nIi nQq]|rw[sIi oO])),by(repeat (first|rw[nHh nOo]|rw[sHh oO]|rw[nIi nQq]|rw[sIi oO]));exact hP,by(repeat (first|rw[nHh nOo]|rw[sHh oO]|rw[nIi nQq]|rw[sIi oO]));exact hL,by simp only[aQ,aC];omega,?_⟩⟩
    exact((hk.trans (aA.new _ _)).set oO _).set oO _
   ·clear f1 f3 f22 hI hG fr s
    rintro fr s ⟨f1,f3,f37,hI⟩
    rw[aGt]at hI
    unfold newF at hh
    cases hes:g.es with
    |nil=>rw[hes]at hh;cases hh
    |cons x es'=>
     rw[hes]at hh
     simp only at hh
     obtain⟨ring,hring,hh⟩:=Option.bind_eq_some_iff.1 hh
     by_cases hc:ring.length≤200∧∀ v∈ring,v∈g.vs
     case neg=>rw[if_neg hc]at hh;cases hh
     rw[if_pos hc,Option.some.injEq]at hh
     subst hh
     obtain⟨hrl,hrv⟩:=hc
     obtain⟨hG,hSb,hN,hP,hL,hb,hk⟩:=id hI
     simp only[ak]
     have hT3:(eds g.es).take 3=edL x:=by rw[hes];simp[eds,edL]
     have hlp:0<g.es.length:=by rw[hes];simp
     have hlp3:0<g.es.length*3:=oO
     have hlp4:3≤g.es.length*3:=oO
     have hlpi:(0:Int)<g.es.length:=oO
     have a1:¬st.next=s.next:=oO
     obtain⟨dx,ax,bx⟩:=x
     have hTe:∀ s2,aA s s2→s.next<s2.next→s2.H s.next=.box 56 3 (edL ⟨dx,ax,bx⟩)→aCc 112 [.pt s.next 0] s2 g.es fun y=>decide (y≠⟨dx,ax,bx⟩):=fun s2 h1 h2 h3 y _ s3 h4=>aRg _ y s.next s3 ((h4.H _ h2).trans h3) (Nat.lt_of_lt_of_le h2 h4.next)
     (repeat' (first|refine qS ?_|(refine w_e [] ?_;intro J hJ;simp only[];simp[f1,hG,hel,hT3,hlp,hlp3,hlp4,hlpi,a1];(try (refine hJ _ _ (zZ ?_);clear hJ J)))))
     refine qE (aFG g _ _ _ _ oO oO (hTe _ (aA.new _ _) sS sS)) (by simp[grL]) ?_;rintro r s1 ⟨rfl,hk1⟩
     have hn1:=hk1.next
     simp only[aC]at hn1
     have hX1:s1.H s.next=.box 56 3 (edL ⟨dx,ax,bx⟩):=by rw[hk1.H _ sS];simp
     have hK1:aA s s1:=(aA.new _ _).trans hk1
     clear hk1
     have hfl:(g.es.filter fun y=>decide (y≠⟨dx,ax,bx⟩)).length≤1000:=by have:=List.length_filter_le (fun y:Ed=>decide (y≠⟨dx,ax,bx⟩)) g.es;omega
     have hmay:∀ s,aJL (.atom .nilFunc) (fun _=>true) s:=fun s=>.inl ⟨rfl,fun _=>rfl⟩
     rw[← hes]at hring
     have b1:¬s.next=s1.next:=oO
     (repeat' (first|refine qS ?_|((first|(refine w_e [] ?_;intro J hJ;simp only[])|(refine aE ?_));simp[hX1,b1];(try (refine hJ _ _ (zZ ?_);clear hJ J)))))
     refine qE (Path ⟨g.vs,g.es.filter fun y=>decide (y≠⟨dx,ax,bx⟩)⟩ ax bx _ (fun _=>true) 1000 ring _ (by simp only;omega) hfl oO (hmay _) hring) (by simp[grL]) ?_;rintro r s2 ⟨rfl,hk2⟩
     have hn2:=hk2.next
     simp only[aC]at hn2
     have hX2:s2.H s.next=.box 56 3 (edL ⟨dx,ax,bx⟩):=by rw[hk2.H _ (by simp;omega),bI,if_neg b1];exact hX1
     have hK2:aA s s2:=(hK1.trans (aA.new _ _)).trans hk2
     clear hk2
     (repeat' (first|refine qS ?_|((first|(refine w_e [] ?_;intro J hJ;simp only[])|(refine aE ?_));simp[];(try (refine hJ _ _ (zZ ?_);clear hJ J)))))
     refine qE (aAJ ring 0 _ oO) sS ?_;rintro r s3 ⟨q,rfl,q1,q2,hq,hk3⟩
     (repeat' (first|refine qS ?_|((first|(refine w_e [] ?_;intro J hJ;simp only[])|(refine aE ?_));simp[];(try (refine hJ _ _ (zZ ?_);clear hJ J)))))
     refine qE (uR ring q s3 (by unfold small;omega) hq) sS ?_;rintro r s4 e4
     have hK4:aA s s4:=by rw[e4];exact(hK2.trans hk3).set (by have:=hK2.next;omega) _
     have hn4:s4.next=s3.next:=by rw[e4];rfl
     have hn3:=hk3.next
     have hq4:s4.H q=.box 34 1 (us ring.reverse):=by rw[e4];simp
     have hX4:s4.H s.next=.box 56 3 (edL ⟨dx,ax,bx⟩):=by rw[e4,bH,if_neg oO,hk3.H _ oO];exact hX2
     clear e4 hq hk3
     have hz:mk g.vs []=0:=(mk_zero g.vs []).2 fun _ _=>by simp
     have hSb4:s4.H S=.box 119 7 [.sl 0 g.vs.length (us g.vs),.sl 0 g.es.length (eds g.es),.ms nl 0 g.vs.length,.mp pl,.mp ll,wv (mk g.vs []),.nil]:=by rw[hz];exact(hK4.H S oO).trans hSb
     have hN4:=(hK4.H nl oO).trans hN
     have hP4:=(hK4.H pl oO).trans hP
     have hL4:=(hK4.H ll oO).trans hL
     have c1:¬pl=ll:=fun e=>by rw[e,hL]at hP;cases hP
     have c2:¬nl=ll:=fun e=>by rw[e,hL]at hN;cases hN
     have c3:¬nl=S:=fun e=>by rw[e,hSb]at hN;cases hN
     have c4:¬pl=S:=fun e=>by rw[e,hSb]at hP;cases hP
     have c5:¬ll=S:=fun e=>by rw[e,hSb]at hL;cases hL
     have c6:¬S=ll:=fun e=>c5 e.symm
     have hn5:=hK4.next
     (repeat' (first|refine qS ?_|((first|(refine w_e [] ?_;intro J hJ;simp only[])|(refine aE ?_));simp[f3];(try (refine hJ _ _ (zZ ?_);clear hJ J)))))
     refine qE (aJh hSb4 hP4 hL4 (L:=[]) rfl c1 hn h64 ring 0 hrv oO) sS ?_;rintro r s5 ⟨le1,e5,hk5⟩
     rw[List.nil_append]at e5
     have n5:s5.next=s4.next:=by rw[e5];rfl
     have hSb5:s5.H S=.box 119 7 [.sl 0 g.vs.length (us g.vs),.sl 0 g.es.length (eds g.es),.ms nl 0 g.vs.length,.mp pl,.mp ll,wv (mk g.vs ring),.nil]:=by rw[e5];simp
     have hN5:s5.H nl=.box 116 1 (jA g):=by rw[e5];simp[c3,c2,hN4]
     have hP5:s5.H pl=.map false [.u32] (sC g.vs):=by rw[e5];simp[c4,c1,hP4]
     have hL5:s5.H ll=.map true [.u32,.u32] le1:=by rw[e5];simp[c5]
     have hq5:s5.H q=.box 34 1 (us ring.reverse):=by rw[e5];simp[show ¬q=S by omega,show ¬q=ll by omega,hq4]
     have hX5:s5.H s.next=.box 56 3 (edL ⟨dx,ax,bx⟩):=by rw[e5];simp[show ¬s.next=S by omega,show ¬s.next=ll by omega,hX4]
     have hK5:aA st s5:=by rw[e5];exact((hk.trans hK4).set oO _).set oO _
     clear e5 hSb4 hN4 hP4 hL4 hq4 hX4
     have hab:=hg.ends ⟨dx,ax,bx⟩ (by rw[hes];simp)
     simp only at hab
     have hv2:∀ v∈[ax,bx],v∈g.vs:=fun v hv=>by
      simp only[List.mem_cons,List.not_mem_nil,or_false]at hv
      rcases hv with e|e
      ·rw[e];exact hab.1
      ·rw[e];exact hab.2
     (repeat' (first|refine qS ?_|((first|(refine w_e [] ?_;intro J hJ;simp only[])|(refine aE ?_));simp[hX5,f3];(try (refine hJ _ _ (zZ ?_);clear hJ J)))))
     have hk6:=aA.new s5 (.own 34 1 2)
     refine qE (aJh ((hk6.H S oO).trans hSb5) ((hk6.H pl oO).trans hP5) ((hk6.H ll oO).trans hL5) hk5 c1 hn h64 [ax,bx] s5.next hv2 sS) sS ?_;rintro r s7 ⟨le2,e7,hk7⟩
     have n7:s7.next=s5.next+1:=by rw[e7];simp
     have hSb7:s7.H S=.box 119 7 [.sl 0 g.vs.length (us g.vs),.sl 0 g.es.length (eds g.es),.ms nl 0 g.vs.length,.mp pl,.mp ll,wv (mk g.vs (ring++[ax,bx])),.nil]:=by rw[e7];simp
     have d1:¬nl=s5.next:=oO
     have d2:¬pl=s5.next:=oO
     have d3:¬ll=s5.next:=oO
     have hN7:s7.H nl=.box 116 1 (jA g):=by rw[e7];simp[c3,c2,d1,hN5]
     have hP7:s7.H pl=.map false [.u32] (sC g.vs):=by rw[e7];simp[c4,c1,d2,hP5]
     have hL7:s7.H ll=.map true [.u32,.u32] le2:=by rw[e7];simp[c5]
     have hq7:s7.H q=.box 34 1 (us ring.reverse):=by rw[e7];simp[show ¬q=S by omega,show ¬q=ll by omega,show ¬q=s5.next by omega,hq5]
     have hK7:aA st s7:=by rw[e7];exact((hK5.trans hk6).set oO _).set oO _
     clear e7 hSb5 hN5 hP5 hL5 hq5 hX5
     (refine aE ?_;simp[];(refine hJ _ _ (zZ ?_);clear hJ J))
     refine lG 11 (l:=q) (n:=ring.length) sS hq7 sS ?_
     have htk:(us ring.reverse).take (ring.length*1)=us ring.reverse:=by rw[List.take_of_length_le sS]
     rw[htk]
     have hrv2:∀ v∈ring.reverse,v∈g.vs:=fun v hv=>hrv v (List.mem_reverse.1 hv)
     have hrl2:ring.length=ring.reverse.length:=sS
     have e1:¬S=q:=oO
     have hk8:aA st (s7.set q .dead):=hK7.set oO _
     have n8:(s7.set q .dead).next=s7.next:=rfl
     have hSb8:(s7.set q .dead).H S=.box 119 7 [.sl 0 g.vs.length (us g.vs),.sl 0 g.es.length (eds g.es),.ms nl 0 g.vs.length,.mp pl,.mp ll,wv (mk g.vs (ring++[ax,bx])),.nil]:=by rw[bH,if_neg e1];exact hSb7
     have hN8:(s7.set q .dead).H nl=.box 116 1 (jA g):=by rw[bH,if_neg oO];exact hN7
     have hP8:(s7.set q .dead).H pl=.map false [.u32] (sC g.vs):=by rw[bH,if_neg oO];exact hP7
     have hL8:(s7.set q .dead).H ll=.map true [.u32,.u32] le2:=by rw[bH,if_neg oO];exact hL7
     generalize s7.set q .dead=s8 at *
     have hB8:ShB g.vs S pl s8:=⟨⟨_,_,_,_,_,_,hSb8⟩,hP8⟩
     have hFa:=fun(l:List Int) (hl:∀ v∈l,v∈g.vs) (hll:l.length≤1048576)=>aJR hB8 oO oO hn h64 l 0 hl hll
     have hF2:=hFa ring.reverse hrv2 (by simp;omega)
     rw[← hrl2]at hF2
     (repeat (refine qS ?_))
     (refine w_e [116] ?_;intro J hJ;simp only[];simp[f3])
     refine qE (hFa ring hrv oO) sS ?_;rintro r s9 ⟨rfl,e9⟩
     rw[e9];clear e9 s9
     (refine aE ?_;simp[f3])
     refine qE hF2 sS ?_;rintro r s9 ⟨rfl,e9⟩
     rw[e9];clear e9 s9
     have z1:¬S=s8.next:=oO
     (repeat' (first|refine qS ?_|(refine qR (zZ ?_);simp[hSb8,z1,f3])|((first|(refine w_e [] ?_;intro J hJ;simp only[])|(refine aE ?_));simp[hSb8,z1,f3];(refine hJ _ _ (zZ ?_);clear hJ J))))
     have hfac:[LV.sl 0 ring.length (us ring),wv (mk g.vs ring),LV.sl 0 ring.length (List.map u ring).reverse,wv (mk g.vs ring.reverse)]=fK g.vs [ring,ring.reverse]:=by simp[fK]
     rw[hfac]
     refine⟨nl,pl,ll,s8.next,⟨le2,⟨⟨sS,?_,?_,?_,hk7,?_⟩,?_,?_,?_,?_,sS⟩⟩,⟨oO,oO,by have:=hk8.next;omega⟩,(hk8.trans (aA.new _ _)).set oO _⟩
     ·(repeat (first|rw[nHh nOo]|rw[sHh oO]|rw[nIi nQq]|rw[sIi oO]));exact hN8
     ·(repeat (first|rw[nHh nOo]|rw[sHh oO]|rw[nIi nQq]|rw[sIi oO]));exact hP8
     ·(repeat (first|rw[nHh nOo]|rw[sHh oO]|rw[nIi nQq]|rw[sIi oO]));exact hL8
     ·simp only[aQ,aC];omega
     ·(repeat (first|rw[nHh nOo]|rw[sHh oO]|rw[nIi nQq]|rw[sIi oO]))
     ·simp only[aQ,aC];omega
     ·intro r hr v hv
      simp only[List.mem_cons,List.not_mem_nil,or_false]at hr
      rcases hr with e|e
      ·rw[e]at hv;exact hrv v hv
      ·rw[e]at hv;exact hrv2 v hv
     ·intro v hv
      rw[List.mem_append]at hv
      exact hv.elim (hrv v) (hv2 v)
theorem aBF(x:Int)(st:St):aB Tryz.prog 107 [u x] st fun r st'=>r=u x∧aA st st':=by
 refine qO aF Tryz.func107 rfl rfl Tryz.ntmps107 (rs:=[.tmp 2]) rfl sS ?_
 (repeat' (first|refine qS ?_|(refine qR (zZ ?_);simp[])|(refine w_e [] ?_;intro J hJ;simp only[];simp[];refine hJ _ _ (zZ ?_))))
 exact aA.refl _
theorem aAT(x:Ed)(st:St):aB Tryz.prog 109 [.ag (edL x)] st fun r st'=>r=u x.id∧aA st st':=by
 obtain⟨d,a,b⟩:=x
 refine qO aF Tryz.func109 rfl rfl Tryz.ntmps109 (rs:=[.tmp 2]) rfl sS ?_
 (repeat' (first|refine qS ?_|(refine qR (zZ ?_);simp[])|(refine w_e [] ?_;intro J hJ;simp only[];simp[];refine hJ _ _ (zZ ?_))))
 exact aA.new _ _
@[simp] def aIn(fn:FuncId):cA:=.box 140 1 [.fn (.func fn) []]
@[simp] def vN(fn:FuncId):cA:=.box 148 1 [.fn (.func fn) []]
def PcU(b:Nat)(st:St):Prop:=b<st.next∧st.H b=aIn 107
def PcE(b:Nat)(st:St):Prop:=b<st.next∧st.H b=vN 109
theorem aJg(b:Nat)(x y:Int)(st:St)(h:PcU b st):aB Tryz.prog 156 [u x,u y,.pt b 0] st fun r st'=>r=i (U.sA x y)∧aA st st':=by
 obtain⟨hb,hH⟩:=h
 simp only[aIn]at hH
 refine qO aF Tryz.func156 rfl rfl Tryz.ntmps156 (rs:=[.tmp 5]) rfl sS ?_
 (repeat' (first|refine qS ?_|(refine w_e [] ?_;intro J hJ;simp only[];simp[];refine hJ _ _ (zZ ?_))))
 (refine w_s [] [b] [(0,true),(1,true),(3,true),(4,true),(2,true),(5,true),(6,true),(7,true)] ?_;intro J hJ;simp[hH])
 refine aO (aBF x st) ?_;rintro r s1 ⟨rfl,hk1⟩
 have hH1:=(hk1.H b hb).trans hH
 refine⟨fun _=>by simp[hH1,hH],?_⟩
 (refine bE ?_;simp[hH1,hH])
 refine aO (aBF y s1) ?_;rintro r s2 ⟨rfl,hk2⟩
 have hH2:=(hk2.H b (Nat.lt_of_lt_of_le hb hk1.next)).trans hH1
 refine⟨fun _=>by simp[hH2,hH],?_⟩
 (refine bE ?_;simp[hH2,hH])
 refine aO (aFL x y s2) ?_;rintro r s3 ⟨rfl,rfl⟩
 refine⟨fun _=>by simp[hH2,hH],?_⟩
 (refine bE ?_;simp[hH2,hH];refine hJ _ _ (zZ ?_))
 (repeat' (refine qR (zZ ?_);simp[U.sA]))
 exact hk1.trans hk2
theorem aJW(b:Nat)(x y:Int)(st:St)(h:PcU b st):aB Tryz.prog 158 [u x,u y,.pt b 0] st fun r st'=>r=bb (decide (x=y))∧aA st st':=by
 obtain⟨hb,hH⟩:=h
 simp only[aIn]at hH
 refine qO aF Tryz.func158 rfl rfl Tryz.ntmps158 (rs:=[.tmp 5]) rfl sS ?_
 (repeat' (first|refine qS ?_|(refine w_e [] ?_;intro J hJ;simp only[];simp[];refine hJ _ _ (zZ ?_))))
 (refine w_s [] [b] [(0,true),(1,true),(3,true),(4,true),(2,true),(5,true),(6,true),(7,true)] ?_;intro J hJ;simp[hH])
 refine aO (aBF x st) ?_;rintro r s1 ⟨rfl,hk1⟩
 have hH1:=(hk1.H b hb).trans hH
 refine⟨fun _=>by simp[hH1,hH],?_⟩
 (refine bE ?_;simp[hH1,hH])
 refine aO (aBF y s1) ?_;rintro r s2 ⟨rfl,hk2⟩
 have hH2:=(hk2.H b (Nat.lt_of_lt_of_le hb hk1.next)).trans hH1
 refine⟨fun _=>by simp[hH2,hH],?_⟩
 (refine bE ?_;simp[hH2,hH];refine hJ _ _ (zZ ?_))
 (repeat' (refine qR (zZ ?_);simp[]))
 exact⟨by by_cases h:x=y<;>simp[h],hk1.trans hk2⟩
theorem aGv(b:Nat)(x y:Ed)(st:St)(h:PcE b st):aB Tryz.prog 160 [.ag (edL x),.ag (edL y),.pt b 0] st fun r st'=>r=i (sA x y)∧aA st st':=by
 obtain⟨hb,hH⟩:=h
 obtain⟨xi,xa,xb⟩:=x
 obtain⟨yi,ya,yb⟩:=y
 simp only[vN]at hH
 have b1:¬b=st.next:=oO
 have b2:¬b=st.next+1:=oO
 refine qO aF Tryz.func160 rfl rfl Tryz.ntmps160 (rs:=[.tmp 5]) rfl sS ?_
 (repeat' (first|refine qS ?_|(refine w_e [] ?_;intro J hJ;simp only[];simp[];refine hJ _ _ (zZ ?_))))
 (refine w_s [] [b,st.next,st.next+1] [(0,true),(1,true),(3,true),(4,true),(2,true),(5,true),(6,true),(7,true)] ?_;intro J hJ;simp[hH,b1,b2])
 refine aO (aAT ⟨xi,xa,xb⟩ _) ?_;rintro r s1 ⟨rfl,hk1⟩
 have hn1:=hk1.next
 simp only[aC]at hn1
 have hH1:s1.H b=vN 109:=by rw[hk1.H b (by simp;omega)];simp[b1,b2,hH]
 have hX1:s1.H st.next=.box 56 3 [u xi,u xa,u xb]:=by rw[hk1.H _ (by simp;omega)];simp
 have hY1:s1.H (st.next+1)=.box 56 3 [u yi,u ya,u yb]:=by rw[hk1.H _ sS];simp
 simp only[vN]at hH1
 refine⟨fun _=>by simp[hH1,hH,hX1,hY1,b1,b2],?_⟩
 (refine bE ?_;simp[hH1,hH,hX1,hY1])
 refine aO (aAT ⟨yi,ya,yb⟩ s1) ?_;rintro r s2 ⟨rfl,hk2⟩
 have hH2:=(hk2.H b oO).trans hH1
 have hX2:=(hk2.H st.next oO).trans hX1
 have hY2:=(hk2.H (st.next+1) oO).trans hY1
 refine⟨fun _=>by simp[hH2,hH,hX2,hY2,b1,b2],?_⟩
 (refine bE ?_;simp[hH2,hH,hX2,hY2])
 refine aO (aFL xi yi s2) ?_;rintro r s3 ⟨rfl,rfl⟩
 refine⟨fun _=>by simp[hH2,hH,hX2,hY2,b1,b2],?_⟩
 (refine bE ?_;simp[hH2,hH,hX2,hY2];refine hJ _ _ (zZ ?_))
 (repeat' (refine qR (zZ ?_);simp[sA]))
 exact(((aA.new _ _).trans (aA.new _ _)).trans hk1).trans hk2
theorem aGH(b:Nat)(x y:Ed)(st:St)(h:PcE b st):aB Tryz.prog 162 [.ag (edL x),.ag (edL y),.pt b 0] st fun r st'=>r=bb (decide (x.id=y.id))∧aA st st':=by
 obtain⟨hb,hH⟩:=h
 obtain⟨xi,xa,xb⟩:=x
 obtain⟨yi,ya,yb⟩:=y
 simp only[vN]at hH
 have b1:¬b=st.next:=oO
 have b2:¬b=st.next+1:=oO
 refine qO aF Tryz.func162 rfl rfl Tryz.ntmps162 (rs:=[.tmp 5]) rfl sS ?_
 (repeat' (first|refine qS ?_|(refine w_e [] ?_;intro J hJ;simp only[];simp[];refine hJ _ _ (zZ ?_))))
 (refine w_s [] [b,st.next,st.next+1] [(0,true),(1,true),(3,true),(4,true),(2,true),(5,true),(6,true),(7,true)] ?_;intro J hJ;simp[hH,b1,b2])
 refine aO (aAT ⟨xi,xa,xb⟩ _) ?_;rintro r s1 ⟨rfl,hk1⟩
 have hn1:=hk1.next
 simp only[aC]at hn1
 have hH1:s1.H b=vN 109:=by rw[hk1.H b (by simp;omega)];simp[b1,b2,hH]
 have hX1:s1.H st.next=.box 56 3 [u xi,u xa,u xb]:=by rw[hk1.H _ (by simp;omega)];simp
 have hY1:s1.H (st.next+1)=.box 56 3 [u yi,u ya,u yb]:=by rw[hk1.H _ sS];simp
 simp only[vN]at hH1
 refine⟨fun _=>by simp[hH1,hH,hX1,hY1,b1,b2],?_⟩
 (refine bE ?_;simp[hH1,hH,hX1,hY1])
 refine aO (aAT ⟨yi,ya,yb⟩ s1) ?_;rintro r s2 ⟨rfl,hk2⟩
 have hH2:=(hk2.H b oO).trans hH1
 have hX2:=(hk2.H st.next oO).trans hX1
 have hY2:=(hk2.H (st.next+1) oO).trans hY1
 refine⟨fun _=>by simp[hH2,hH,hX2,hY2,b1,b2],?_⟩
 (refine bE ?_;simp[hH2,hH,hX2,hY2];refine hJ _ _ (zZ ?_))
 (repeat' (refine qR (zZ ?_);simp[]))
 exact⟨by by_cases h:xi=yi<;>simp[h],(((aA.new _ _).trans (aA.new _ _)).trans hk1).trans hk2⟩
theorem aOI(b q:Nat)(hbq:b≠q):U.mR 156 [.pt b 0] q (PcU b):=
 ⟨fun st st' h hof=>⟨Nat.lt_of_lt_of_le h.1 hof.1,(hof.2 b hbq h.1).trans h.2⟩,fun st x y h=>aJg b x y st h⟩
theorem aPo(b q:Nat)(hbq:b≠q):mR 160 [.pt b 0] q (PcE b):=
 ⟨fun st st' h hof=>⟨Nat.lt_of_lt_of_le h.1 hof.1,(hof.2 b hbq h.1).trans h.2⟩,fun st x y h=>aGv b x y st h⟩
theorem eqU(b:Nat):aNp 158 [.pt b 0] (PcU b):=
 ⟨fun st st' h hk=>⟨Nat.lt_of_lt_of_le h.1 hk.next,(hk.H b h.1).trans h.2⟩,fun st x y h=>aJW b x y st h⟩
theorem eqE(b:Nat):aNw 162 [.pt b 0] (PcE b):=
 ⟨fun st st' h hk=>⟨Nat.lt_of_lt_of_le h.1 hk.next,(hk.H b h.1).trans h.2⟩,fun st x y h=>aGH b x y st h⟩
theorem aKZ(D0:List Int)(q:Nat)(fid:FuncId)(caps:List LV)(Pc:St→Prop)(st:St)(hcmp:U.mR fid caps q Pc)(hPc:Pc st)(hq:q<st.next)(hl:D0.length≤20)(hH:st.H q=.box 34 1 (us D0)):
 aB Tryz.prog 155 [.ms q 0 D0.length,.fn (.func fid) caps] st fun r st'=>∃ D,D.Perm D0∧U.Ris D∧st'.H q=.box 34 1 (us D)∧bN q st st':=by
 have hc:=U.aFd D0 q _ fid caps Pc st hcmp hPc hq rfl hl hH
 refine qO aF Tryz.func155 rfl rfl Tryz.ntmps155 (rs:=[]) rfl sS ?_
 (repeat' (refine w_e [] ?_;intro J hJ;simp only[];simp[]))
 refine qE hc sS ?_;rintro r s1 h
 (repeat' (refine aE ?_;simp[];refine hJ _ _ (zZ ?_)))
 exact⟨trivial,h⟩
theorem aMI(D0:List Ed)(q:Nat)(fid:FuncId)(caps:List LV)(Pc:St→Prop)(st:St)(hcmp:mR fid caps q Pc)(hPc:Pc st)(hq:q<st.next)(hl:D0.length≤20)(hH:st.H q=.box 56 3 (eds D0)):
 aB Tryz.prog 159 [.ms q 0 D0.length,.fn (.func fid) caps] st fun r st'=>∃ D,D.Perm D0∧Ris D∧st'.H q=.box 56 3 (eds D)∧bN q st st':=by
 have hc:=aFd D0 q _ fid caps Pc st hcmp hPc hq rfl hl hH
 refine qO aF Tryz.func159 rfl rfl Tryz.ntmps159 (rs:=[]) rfl sS ?_
 (repeat' (refine w_e [] ?_;intro J hJ;simp only[];simp[]))
 refine qE hc sS ?_;rintro r s1 h
 (repeat' (refine aE ?_;simp[];refine hJ _ _ (zZ ?_)))
 exact⟨trivial,h⟩
theorem aLd(l:List Ed)(t:Nat)(st:St)(hl:l.length≤20)(hn:(l.map (·.id)).Nodup):
 aB Tryz.prog 108 [.sl t l.length (eds l),.fn (.func 109) []] st fun r st'=>(∃ E:List Ed,E.Perm l∧(E.map (·.id)).Pairwise (· < ·)∧r=.sl 0 E.length (eds E))∧aA st st':=by
 refine bQ ?_
 have hel:=aJ l
 refine qO aF Tryz.func108 rfl rfl Tryz.ntmps108 (rs:=[.tmp 4]) rfl sS ?_
 (repeat' (first|refine qS ?_|(refine w_e [] ?_;intro J hJ;simp only[];simp[];(try refine hJ _ _ (zZ ?_)))))
 refine qE (aLc l t _ oO) sS ?_;rintro r s1 ⟨q,rfl,hq1,hq2,hB1,hk1⟩
 have hn1:=hk1.next
 simp only[aC]at hn1 hq1
 have hF1:PcE st.next s1:=⟨oO,by rw[hk1.H _ sS];simp⟩
 have k1:aA st s1:=(aA.new _ _).trans hk1
 (repeat' (first|refine qS ?_|((first|(refine w_e [] ?_;intro J hJ;simp only[])|(refine aE ?_));simp[];(try refine hJ _ _ (zZ ?_)))))
 refine qE (aMI l q _ [.pt st.next 0] (PcE st.next) s1 (aPo st.next q oO) hF1 hq2 oO hB1) sS ?_;rintro r s2 ⟨D,hp,hr,hB2,hof⟩
 have hn2:=hof.1
 have lD:=hp.length_eq
 have hF2:=(aPo st.next q oO).keep _ _ hF1 hof
 have k2:aA st s2:=⟨by have:=k1.next;omega,fun l hl=>(hof.2 l oO (by have:=k1.next;omega)).trans (k1.H l hl)⟩
 have hlt:(D.map (·.id)).Pairwise (· < ·):=by
  have hnd:(D.map (·.id)).Nodup:=(hp.map (·.id)).nodup_iff.2 hn
  have hr2:(D.map (·.id)).Pairwise (·≤·):=by rw[List.pairwise_map];exact hr
  refine(List.Pairwise.and hr2 hnd).imp fun h=>?_
  have:=h.1
  have:=h.2
  omega
 have hne:∀ j,j+1<D.length→(D.getD (j+1) ed0).id≠(D.getD j ed0).id:=fun j hj=>by
  have:=List.pairwise_iff_getElem.1 hlt j (j+1) (by simp;omega) (by simpa using hj) oO
  simp only[List.getElem_map]at this
  rw[List.getD_eq_getElem?_getD,List.getD_eq_getElem?_getD,List.getElem?_eq_getElem hj,List.getElem?_eq_getElem (by omega:j<D.length)]
  simp only[Option.getD_some];omega
 (repeat' (first|refine qS ?_|((first|(refine w_e [] ?_;intro J hJ;simp only[])|(refine aE ?_));simp[];(try refine hJ _ _ (zZ ?_)))))
 refine qE (aJo D q _ [.pt st.next 0] (PcE st.next) s2 (eqE st.next) hF2 oO hne oO hB2) (by simp[lD]) ?_;rintro r s3 ⟨rfl,hk3⟩
 have hB3:=(hk3.H q oO).trans hB2
 have helD:=aJ D
 (repeat' (first|(refine qR (zZ ?_);simp[])|(refine aE ?_;simp[];refine hJ _ _ (zZ ?_))))
 exact⟨q,D.length,⟨rfl,rfl⟩,56,3,eds D,hB3,oO,⟨D,hp,hlt,rfl,by rw[List.take_of_length_le oO]⟩,(k2.trans hk3).set oO _⟩
end Go.Proofs.YtempldclppogmaaGreatDoor.Aw
