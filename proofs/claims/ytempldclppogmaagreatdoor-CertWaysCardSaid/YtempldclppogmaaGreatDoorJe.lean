/- Rows of edges, in place: the insertion sort by numbers. -/
import Derived.Test.YtempldclppogmaaGreatDoorJd
import Derived.Test.YtempldclppogmaaGreatDoorAwRg
set_option linter.unusedVariables false
set_option linter.unusedSimpArgs false
namespace Go.Proofs.YtempldclppogmaaGreatDoor.Aw
open Go Go.RowKit Go.Proofs.YtempldclppogmaaGreatDoor.Pl
def rS(x y:Ed):Int:=if x.id<y.id then -1 else if y.id<x.id then 1 else 0
theorem xI(x y:Ed):decide (rS x y<0)=decide (x.id<y.id):=by
 unfold rS
 by_cases h:x.id<y.id
 ·simp[h]
 ·rw[if_neg h]
  by_cases h2:y.id<x.id<;>simp[h,h2]
structure lO(fid:FuncId)(caps:List LV)(q:Nat)(Pc:St→Prop):Prop where
 keep:∀ st st',Pc st→bQ q st st'→Pc st'
 call:∀ st x y,Pc st→aF Tryz.prog fid ([.ag (edL x),.ag (edL y)]++caps) st fun r st'=>r=i (rS x y)∧aB st st'
def Ris(l:List Ed):Prop:=l.Pairwise fun x y=>x.id≤y.id
theorem get_at(U:List Ed)(x:Ed)(W:List Ed){j:Nat}(hj:j=U.length):(U++x::W).getD j ed0=x:=by subst hj;exact wP _ _ _
theorem xE(U:List Ed)(x y:Ed)(W:List Ed){j:Nat}(hj:j=U.length):(U++x::W).set j y=U++y::W:=by subst hj;exact aAU _ _ _ _
def aNT(P X S:List Ed)(q:Nat)(st:St)(r:LV)(st':St):Prop:=∃ Y,Y.Perm X∧Ris Y∧st'.H q=.box 56 3 (eds (P++Y++S))∧bQ q st st'
theorem aAQ{A B:List Ed}{x:Ed}(h:Ris (A++B))(h1:∀ y∈A,y.id≤x.id)(h2:∀ y∈B,x.id≤y.id):Ris (A++x::B):=by
 unfold Ris at h ⊢
 rw[List.pairwise_append]at h ⊢
 refine⟨h.1,List.pairwise_cons.2 ⟨h2,h.2.1⟩,fun a ha b hb=>?_⟩
 rcases List.mem_cons.1 hb with rfl|hb
 ·exact h1 a ha
 ·exact h.2.2 a ha b hb
theorem xN{A:List Ed}{y:Ed}(h:Ris (A++[y])):∀ a∈A,a.id≤y.id:=by
 unfold Ris at h
 rw[List.pairwise_append]at h
 exact fun a ha=>h.2.2 a ha y (by simp)
set_option maxHeartbeats 1000000 in
theorem aBV(P X S:List Ed)(q:Nat)(fid:FuncId)(caps:List LV)(Pc:St→Prop)(st:St)(hcmp:lO fid caps q Pc)(hPc:Pc st)(hq:q<st.next)(hl:(P++X++S).length≤100000)(hH:st.H q=.box 56 3 (eds (P++X++S))):
 aF Tryz.prog 200 [.ms q 0 (P++X++S).length,i P.length,i (P.length+X.length:Nat),.fn (.func fid) caps] st (aNT P X S q st):=by
 generalize hL:(P++X++S).length=L at *
 have hLl:L=P.length+X.length+S.length:=by rw[← hL];simp only[List.length_append]
 generalize hp:P.length=p at *
 have wp:IntKind.i64.wrap ((p:Int)+1)=((p+1:Nat):Int):=by rw[gU _ (by omega) (by omega)];omega
 refine qO aK Tryz.func200 rfl rfl Tryz.ntmps200 (rs:=[]) rfl (by simp) ?_
 (repeat' (first|refine qS ?_|refine qB ?_|(refine w_e [] ?_;intro J hJ;simp only[];simp[wp];(refine hJ _ _ ?_;clear hJ J;simp only[ak,reduceIte]))))
 refine qL (fun z fr st2=>∃ Y Z:List Ed,Z.length≤z∧fr 0=.ms q 0 L∧fr 1=i p∧fr 2=i (p+X.length:Nat)∧fr 3=.fn (.func fid) caps∧(X=[]∧Y=[]∧fr 8=i (p+1:Nat)∨Y≠[]∧fr 8=i (p+Y.length:Nat))∧(Y++Z).Perm X∧Ris Y∧st2.H q=.box 56 3 (eds (P++Y++Z++S))∧bQ q st st2) X.length ?_ ?_
 ·cases X with
  |nil=>exact⟨[],[],by simp,by simp,by simp,by simp,by simp,.inl ⟨rfl,rfl,by simp⟩,.refl _,.nil,by simpa using hH,bQ.refl _ _⟩
  |cons x X => 
   refine⟨[x],X,by simp,by simp,by simp,by simp,by simp,.inr ⟨by simp,by simp⟩,.refl _,List.pairwise_singleton _ _,?_,bQ.refl _ _⟩
   rw[hH];simp
 rintro z fr st2 ⟨Y,Z,hz,f0,f1,f2,f3,f8,hpm,hris,hB,hoff⟩ JJ hJJ
 have hpl:=hpm.length_eq
 simp only[List.length_append]at hpl
 cases Z with
 |nil=>
  clear hJJ
  simp only[List.length_nil,Nat.add_zero]at hpl
  rw[List.append_nil]at hpm hB
  have hex:∃ e:Nat,fr 8=i e∧¬((e:Int)<(p+X.length:Nat)):=by
   rcases f8 with⟨h1,h2,h3⟩|⟨h1,h2⟩
   ·exact⟨p+1,h3,by rw[h1];simp;omega⟩
   ·exact⟨p+Y.length,h2,by rw[hpl];omega⟩
  obtain⟨e,g8,he⟩:=hex
  (repeat' (first|refine qS ?_|(refine qX ?_;simp only[ak,reduceIte])|(refine qC ?_;simp[f2,g8,he];(try with_reducible refine⟨?_,?_⟩)<;>(try with_reducible intro hc)<;>try (exfalso;omega))|(refine w_e [] ?_;intro J hJ;simp only[];simp[f2,g8,he];(refine hJ _ _ ?_;clear hJ J;simp only[ak,reduceIte]))))
  simp
  exact⟨Y,hpm,hris,hB,hoff⟩
 |cons x Z=>
 have hYne:Y≠[]∧fr 8=i (p+Y.length:Nat):=by
  rcases f8 with⟨h1,h2,h3⟩|h
  ·subst h1;simp at hpl
  ·exact h
 obtain⟨hYn,g8⟩:=hYne
 clear f8
 have hY0:=List.length_pos_iff.2 hYn
 simp only[List.length_cons]at hpl hz
 have hlt:(((p+Y.length:Nat):Int))<((p+X.length:Nat):Int):=by omega
 (repeat' (first|refine qS ?_|refine qB ?_|(refine qK ?_;simp only[ak,reduceIte])|(refine qC ?_;simp[f2,g8,hlt];(try with_reducible refine⟨?_,?_⟩)<;>(try with_reducible intro hc)<;>try (exfalso;omega))|(refine w_e [] ?_;intro J hJ;simp only[];simp[f2,g8,hlt];(refine hJ _ _ ?_;clear hJ J;simp only[ak,reduceIte]))))
 refine qL (fun z fr st3=>∃ A B:List Ed,z=A.length∧A++B=Y∧(∀ y∈B,x.id≤y.id)∧fr 0=.ms q 0 L∧fr 1=i p∧fr 2=i (p+X.length:Nat)∧fr 3=.fn (.func fid) caps∧fr 8=i (p+Y.length:Nat)∧fr 9=i (p+A.length:Nat)∧st3.H q=.box 56 3 (eds (P++A++x::(B++Z++S)))∧bQ q st st3) Y.length ?_ ?_
 ·exact⟨Y,[],rfl,by simp,by simp,by simp[f0],by simp[f1],by simp[f2],by simp[f3],by simp[g8],by simp,by rw[hB];simp,hoff⟩
 clear f0 f1 f2 f3 g8 hB hoff fr st2
 rintro z' fr st3 ⟨A,B,rfl,rfl,hxB,f0,f1,f2,f3,f8,f9,hB,hoff⟩ J2 hJ2
 have hP3:=hcmp.keep _ _ hPc hoff
 have hfin:(∀ y∈A,y.id≤x.id)→Ris (A++x::B):=fun h1=>aAQ hris h1 hxB
 have hpm2:((A++x::B)++Z).Perm X:=by
  refine List.Perm.trans ?_ hpm
  rw[List.append_assoc,List.append_assoc]
  refine List.Perm.append_left A ?_
  rw[List.cons_append]
  exact List.perm_middle.symm
 have hAB:(A++x::B).length=(A++B).length+1:=by simp;omega
 simp only[List.length_append]at hpl hY0
 have w8:IntKind.i64.wrap (((p+(A++B).length:Nat):Int)+1)=((p+(A++x::B).length:Nat):Int):=by rw[hAB,gU _ (by simp only[List.length_append];omega) (by simp only[List.length_append];omega)];omega
 have hnext:∀ fr' st4,(fr' 0=.ms q 0 L∧fr' 1=i p∧fr' 2=i (p+X.length:Nat)∧fr' 3=.fn (.func fid) caps∧fr' 8=i (p+(A++x::B).length:Nat))→(∀ y∈A,y.id≤x.id)→st4.H q=.box 56 3 (eds (P++A++x::(B++Z++S)))→bQ q st st4→JJ fr' st4:=by
  rintro fr' st4 ⟨g0,g1,g2,g3,g8⟩ h1 h2 h3
  refine hJJ Z.length _ _ (by omega) ⟨A++x::B,Z,Nat.le_refl _,g0,g1,g2,g3,.inr ⟨by simp,g8⟩,hpm2,hfin h1,?_,h3⟩
  rw[h2];simp
 have hrisA:Ris A:=by
  unfold Ris at hris ⊢
  exact(List.pairwise_append.1 hris).1
 clear hJJ hfin hpm2 hpm hris hAB
 generalize (A++B).length=lab at *
 generalize (A++x::B).length=laxb at *
 have w8':IntKind.i64.wrap ((p:Int)+lab+1)=(p:Int)+laxb:=by have h:=w8;rw[Int.natCast_add,Int.natCast_add]at h;exact h
 rcases List.eq_nil_or_concat A with rfl|⟨W,y,hWy⟩
 ·simp only[List.length_nil,Nat.add_zero]at f9
  (repeat' refine qS ?_)
  (refine w_s [] [q] [(0,true),(1,true),(2,true),(3,true),(4,true),(5,true),(6,true),(7,true),(8,true),(9,true),(10,true),(11,true),(12,true),(13,true),(14,false),(15,true),(16,true)] ?_;intro J hJ;simp[f0,f1,f3,f9];(refine hJ _ _ ?_;clear hJ J;simp only[ak,reduceIte]))
  (repeat' (first|(refine qX ?_;simp only[ak,reduceIte])|(refine qC ?_;simp[f8,w8'])|(refine w_e [] ?_;intro J hJ;simp only[];simp[f8,w8'];(refine hJ _ _ ?_;clear hJ J;simp only[ak,reduceIte]))))
  exact hnext _ _ ⟨by simp[f0],by simp[f1],by simp[f2],by simp[f3],by simp⟩ (by simp) hB hoff
 rw[List.concat_eq_append]at hWy
 subst hWy
 have hWl:(W++[y]).length=W.length+1:=by simp
 rw[hWl,← Nat.add_assoc]at f9
 have hce:P++(W++[y])++x::(B++Z++S)=(P++W)++y::x::(B++Z++S):=by simp
 have hUl:(P++W).length=p+W.length:=by simp[hp]
 have hcl:((P++W)++y::x::(B++Z++S)).length=L:=by
  simp only[List.length_append,List.length_cons,List.length_nil,hp]at hpl hz ⊢
  omega
 rw[hce]at hB hnext
 have g1:=get_at (P++W) y (x::(B++Z++S)) (j:=p+W.length) hUl.symm
 have g2:((P++W)++y::x::(B++Z++S)).getD (p+W.length+1) ed0=x:=by
  rw[show(P++W)++y::x::(B++Z++S)=(P++W++[y])++x::(B++Z++S) by simp]
  exact get_at _ _ _ (by simp[hp];omega)
 have s1:(((P++W)++y::x::(B++Z++S)).set (p+W.length+1) y).set (p+W.length) x=P++W++x::(y::B++Z++S):=by
  rw[show(P++W)++y::x::(B++Z++S)=(P++W++[y])++x::(B++Z++S) by simp,xE _ _ _ _ (by simp[hp];omega)]
  rw[show(P++W++[y])++y::(B++Z++S)=(P++W)++y::(y::(B++Z++S)) by simp,xE _ _ _ _ hUl.symm]
  simp
 have hstep:x.id<y.id→∀ y'∈y::B,x.id≤y'.id:=fun h1 y' hy'=>by
  rcases List.mem_cons.1 hy' with rfl|h2
  ·omega
  ·exact hxB y' h2
 have hstop:¬x.id<y.id→∀ y'∈W++[y],y'.id≤x.id:=fun h1 y' hy'=>by
  rcases List.mem_append.1 hy' with h2|h2
  ·have:=xN (hrisA) y' h2;omega
  ·rw[List.mem_singleton]at h2;subst h2;omega
 generalize (P++W)++y::x::(B++Z++S)=c at *
 generalize hjx:p+W.length=jx at *
 have hel:=aO c
 have da:=bE c (jx+1) (by omega)
 have db:=bE c jx (by omega)
 rw[g2]at da
 rw[g1]at db
 have wj:IntKind.i64.wrap (((jx+1:Nat):Int)-1)=(jx:Int):=by rw[gU _ (by omega) (by omega)];omega
 obtain⟨xi,xa,xb⟩:=x
 obtain⟨yi,ya,yb⟩:=y
 simp only at da db hstep hstop
 have hgt:(p:Int)<(jx:Int)+1:=by omega
 have hcm:=hcmp.call st3 ⟨xi,xa,xb⟩ ⟨yi,ya,yb⟩ hP3
 have hneg:=xI ⟨xi,xa,xb⟩ ⟨yi,ya,yb⟩
 simp only at hneg
 generalize rS ⟨xi,xa,xb⟩ ⟨yi,ya,yb⟩=cv at *
 have wj':IntKind.i64.wrap (jx:Int)=(jx:Int):=gU _ (by omega) (by omega)
 have hA4:jx+1<L:=by omega
 have hB4:jx<L:=by omega
 (repeat' refine qS ?_)
 (refine w_s [] [q] [(0,true),(1,true),(2,true),(3,true),(4,true),(5,true),(6,true),(7,true),(8,true),(9,true),(10,true),(11,true),(12,true),(13,true),(14,false),(15,true),(16,true)] ?_;intro J hJ;simp[f0,f1,f3,f9,hgt,hB,da,db,hel,hcl,wj'];(repeat refine ca ?_))
 refine bF hcm ?_;rintro r s4 ⟨rfl,hk4⟩
 have hq3:q<st3.next:=by have:=hoff.1;omega
 have hB4':=(hk4.H q hq3).trans hB
 have hoff4:=hoff.keeps hk4
 refine⟨fun _=>by simp[hB4',hB],?_⟩
 by_cases hlt3:xi<yi
 ·have hcv:cv<0:=by rw[decide_eq_true hlt3]at hneg;exact of_decide_eq_true hneg
  (refine bN ?_;simp[hcv,hB4',hB];(refine hJ _ _ ?_;clear hJ J;simp only[ak,reduceIte]))
  (repeat' (first|refine qS ?_|refine qB ?_|(refine qK ?_;simp only[ak,reduceIte])|(refine qC ?_;simp[])))
  (refine w_s [] [q] [(0,true),(1,true),(2,true),(3,true),(4,true),(5,true),(6,true),(7,true),(8,true),(9,true),(10,true),(11,true),(12,true),(13,true),(14,true),(15,false),(16,true),(17,false)] ?_;intro J hJ;simp[f0,f9,hB4',da,db,hel,hcl,wj'];(repeat refine ca ?_);(refine hJ _ _ ?_;clear hJ J;simp only[ak,reduceIte]))
  have e1:=aBA c (jx+1) ⟨yi,ya,yb⟩ (by omega)
  have e2:=aBA (c.set (jx+1) ⟨yi,ya,yb⟩) jx ⟨xi,xa,xb⟩ (by simp;omega)
  simp only at e1 e2
  rw[e1,e2,s1,St.set_set]
  (repeat' (refine w_e [] ?_;intro J hJ;simp only[];simp[f9,wj'];(refine hJ _ _ ?_;clear hJ J;simp only[ak,reduceIte])))
  refine hJ2 W.length _ _ (by simp) ⟨W,⟨yi,ya,yb⟩::B,rfl,by simp,hstep hlt3,by simp[f0],by simp[f1],by simp[f2],by simp[f3],by simp[f8],by simp[hjx],?_,hoff4.set _⟩
  simp
 ·have hcv:¬cv<0:=by rw[decide_eq_false hlt3]at hneg;exact of_decide_eq_false hneg
  (refine bN ?_;simp[hcv,hB4',hB];(refine hJ _ _ ?_;clear hJ J;simp only[ak,reduceIte]))
  (repeat' (first|(refine qX ?_;simp only[ak,reduceIte])|(refine qC ?_;simp[f8,w8'])|(refine w_e [] ?_;intro J hJ;simp only[];simp[f8,w8'];(refine hJ _ _ ?_;clear hJ J;simp only[ak,reduceIte]))))
  exact hnext _ _ ⟨by simp[f0],by simp[f1],by simp[f2],by simp[f3],by simp⟩ (hstop hlt3) hB4' hoff4
theorem aBr{l:List Ed}(h:Ris l){j k:Nat}(hjk:j≤k)(hk:k<l.length):(l.getD j ed0).id≤(l.getD k ed0).id:=by
 rw[oC _ _ hk,oC _ _ (by omega)]
 rcases Nat.lt_or_ge j k with h1|h1
 ·exact List.pairwise_iff_getElem.1 h j k (by omega) hk h1
 ·obtain rfl:j=k:=by omega
  exact Int.le_refl _
theorem aEF(U W:List Ed)(j:Nat):(U++W).getD (U.length+j) ed0=W.getD j ed0:=by
 rw[List.getD_eq_getElem?_getD,List.getElem?_append_right (by omega),Nat.add_sub_cancel_left,← List.getD_eq_getElem?_getD]
theorem xP(U W:List Ed)(j:Nat)(h:j<U.length):(U++W).getD j ed0=U.getD j ed0:=by
 rw[List.getD_eq_getElem?_getD,List.getElem?_append_left h,← List.getD_eq_getElem?_getD]
structure Mgd(D D':List Ed)(lo hi:Nat):Prop where
 len:D'.length=D.length
 perm:D'.Perm D
 out:∀ j,j<lo∨hi≤j→D'.getD j ed0=D.getD j ed0
 inn:∀ j k,lo≤j→j≤k→k<hi→(D'.getD j ed0).id≤(D'.getD k ed0).id
theorem mgd{D P X S C:List Ed}(hD:P++X++S=D)(hC:C.Perm X)(hr:Ris C){lo hi:Nat}(h1:P.length=lo)(h2:hi=lo+X.length):Mgd D (P++C++S) lo hi:=by
 have hl:=hC.length_eq
 subst hD
 refine⟨by simp[hl],List.Perm.append_right _ (List.Perm.append_left _ hC),fun j hj=>?_,fun j k hj hjk hk=>?_⟩
 ·rcases Nat.lt_or_ge j lo with h|h
  ·rw[xP _ _ _ (by simp;omega),xP _ _ _ (by omega),xP _ _ _ (by simp;omega),xP _ _ _ (by omega)]
  ·have e1:=aEF (P++C) S (j-hi)
   have e2:=aEF (P++X) S (j-hi)
   have l1:(P++C).length+(j-hi)=j:=by simp;omega
   have l2:(P++X).length+(j-hi)=j:=by simp;omega
   rw[l1]at e1
   rw[l2]at e2
   rw[e1,e2]
 ·have e:∀ x,lo≤x→x<hi→(P++C++S).getD x ed0=C.getD (x-lo) ed0:=fun x g1 g2=>by
   have e1:=aEF P (C++S) (x-lo)
   rw[show P.length+(x-lo)=x by omega,xP C S (x-lo) (by omega)]at e1
   rw[← e1];simp
  rw[e j hj (by omega),e k (by omega) hk]
  exact aBr hr (by omega) (by omega)
theorem aNB(D:List Ed)(lo hi:Nat)(h:lo≤hi):D.take lo++(D.drop lo).take (hi-lo)++D.drop hi=D:=by
 have e:(D.drop lo).drop (hi-lo)=D.drop hi:=by rw[List.drop_drop];congr 1;omega
 rw[List.append_assoc,← e,List.take_append_drop,List.take_append_drop]
theorem aAT{D:List Ed}{lo hi:Nat}(hh:hi≤D.length)(h:∀ j k,lo≤j→j≤k→k<hi→(D.getD j ed0).id≤(D.getD k ed0).id):Ris ((D.drop lo).take (hi-lo)):=by
 refine List.pairwise_iff_getElem.2 fun a b ha hb hab=>?_
 simp only[List.length_take,List.length_drop]at ha hb
 rw[List.getElem_take,List.getElem_take,List.getElem_drop,List.getElem_drop,← oC D (lo+a) (by omega),← oC D (lo+b) (by omega)]
 exact h _ _ (by omega) (by omega) (by omega)
section
variable (q L:Nat) (fid:FuncId) (caps:List LV) (Pc:St→Prop) (hcmp:lO fid caps q Pc) (hl:L≤100000)
include hcmp hl
theorem aDu(D:List Ed)(a b:Nat)(st:St)(hD:D.length=L)(ha:a≤b)(hb:b≤L)(hPc:Pc st)(hq:q<st.next)(hH:st.H q=.box 56 3 (eds D)):
 aF Tryz.prog 200 [.ms q 0 L,i a,i b,.fn (.func fid) caps] st fun r st'=>∃ D',st'.H q=.box 56 3 (eds D')∧Mgd D D' a b∧bQ q st st':=by
 have hc:=aNB D a b ha
 have l1:(D.take a).length=a:=by rw[List.length_take];omega
 have l2:((D.drop a).take (b-a)).length=b-a:=by rw[List.length_take,List.length_drop];omega
 have h:=aBV (D.take a) ((D.drop a).take (b-a)) (D.drop b) q fid caps Pc st hcmp hPc hq (by rw[hc];omega) (by rw[hc];exact hH)
 rw[hc,hD,l1,l2,show a+(b-a)=b by omega]at h
 refine h.mono ?_
 rintro r st' ⟨Y,h1,h2,h3,h4⟩
 exact⟨_,h3,mgd hc h1 h2 l1 (by omega),h4⟩
end
def Bs(s lo hi:Nat)(D:List Ed):Prop:=∀ j k,lo≤j→j≤k→k<hi→j / s=k / s→(D.getD j ed0).id≤(D.getD k ed0).id
theorem Bs.ext{s a b t:Nat}{D D':List Ed}(h:Bs s 0 a D)(hm:Mgd D D' a b)(hs:0<s)(ht:a=s*t):Bs s 0 b D':=by
 intro j k _ hjk hk he
 rcases Nat.lt_or_ge k a with h1|h1
 ·rw[hm.out j (.inl (by omega)),hm.out k (.inl h1)]
  exact h j k (Nat.zero_le _) hjk h1 he
 ·rcases Nat.lt_or_ge j a with h2|h2
  ·have h3:j / s<t:=Nat.div_lt_of_lt_mul (by omega)
   have h4:t≤k / s:=(Nat.le_div_iff_mul_le hs).2 (by rw[Nat.mul_comm];omega)
   omega
  ·exact hm.inn j k h2 hjk hk
theorem Bs.all{s L:Nat}{D:List Ed}(h:Bs s 0 L D)(hs:L≤s)(hD:D.length=L):Ris D:=by
 have:=aAT (D:=D) (lo:=0) (hi:=L) (by omega) fun j k h1 h2 h3=>h j k h1 h2 h3 (by rw[Nat.div_eq_of_lt (by omega),Nat.div_eq_of_lt (by omega)])
 rwa [List.drop_zero,List.take_of_length_le (by omega)]at this
theorem Mgd.from{D D':List Ed}{a b:Nat}(h:Mgd D D' a b){D0:List Ed}(k:D.Perm D0):D'.Perm D0:=h.perm.trans k
def vO(D0:List Ed)(q L:Nat)(st st2:St)(D:List Ed):Prop:=D.length=L∧D.Perm D0∧st2.H q=.box 56 3 (eds D)∧bQ q st st2
theorem vO.step{D0:List Ed}{q L:Nat}{st st2 st3:St}{D D':List Ed}{a b:Nat}(h:vO D0 q L st st2 D)(hm:Mgd D D' a b)(h1:st3.H q=.box 56 3 (eds D'))(h2:bQ q st2 st3):vO D0 q L st st3 D':=
 ⟨hm.len.trans h.1,hm.from h.2.1,h1,h.2.2.2.trans h2⟩
set_option maxHeartbeats 1000000 in
theorem aED(D0:List Ed)(q L:Nat)(fid:FuncId)(caps:List LV)(Pc:St→Prop)(st:St)(hcmp:lO fid caps q Pc)(hPc:Pc st)(hq:q<st.next)(hL:D0.length=L)(hl:L≤20)(hH:st.H q=.box 56 3 (eds D0)):
 aF Tryz.prog 193 [.ms q 0 L,i L,.fn (.func fid) caps] st fun r st'=>∃ D,D.Perm D0∧Ris D∧st'.H q=.box 56 3 (eds D)∧bQ q st st':=by
 refine qO aK Tryz.func193 rfl rfl Tryz.ntmps193 (rs:=[]) rfl (by simp) ?_
 (repeat' (first|refine qS ?_|refine qB ?_|(refine w_e [] ?_;intro J hJ;simp only[];simp[];(refine hJ _ _ ?_;clear hJ J;simp only[ak,reduceIte]))))
 refine qL (fun z fr st2=>∃(t a:Nat) (D:List Ed),a=20*t∧a≤L∧z=L-a∧fr 0=.ms q 0 L∧fr 1=i L∧fr 2=.fn (.func fid) caps∧fr 6=i 20∧fr 7=i a∧fr 8=i (a+20:Nat)∧Bs 20 0 a D∧vO D0 q L st st2 D) L ?_ ?_
 ·exact⟨0,0,D0,rfl,by omega,rfl,by simp,by simp,by simp,by simp,by simp,by simp,fun j k _ _ h=>by omega,hL,.refl _,hH,bQ.refl _ _⟩
 rintro z fr st2 ⟨t,a,D,ht,ha,rfl,f0,f1,f2,f6,f7,f8,hB,hI⟩ JJ hJJ
 have hP2:=hcmp.keep _ _ hPc hI.2.2.2
 have hq2:q<st2.next:=by have:=hI.2.2.2.1;omega
 by_cases hle:a+20≤L
 ·have hle':(a:Int)+20≤L:=by omega
  have hc:=aDu q L fid caps Pc hcmp (by omega) D a (a+20) st2 hI.1 (by omega) hle hP2 hq2 hI.2.2.1
  have w1:IntKind.i64.wrap ((a:Int)+20+20)=((a+20+20:Nat):Int):=by rw[gU _ (by omega) (by omega)];omega
  (repeat' (first|refine qS ?_|refine qB ?_|(refine qK ?_;simp only[ak,reduceIte])|(refine qC ?_;simp[f0,f1,f2,f7,f8,hle'])|(refine w_e [] ?_;intro J hJ;simp only[];simp[f0,f1,f2,f7,f8,hle'];(try (refine hJ _ _ ?_;clear hJ J;simp only[ak,reduceIte])))))
  refine qE hc (by simp) ?_;rintro r s3 ⟨D',k1,k2,k3⟩
  (repeat' (first|refine qS ?_|((first|(refine w_e [] ?_;intro J hJ;simp only[])|(refine aL ?_));simp[f8,f6,w1];(refine hJ _ _ ?_;clear hJ J;simp only[ak,reduceIte]))))
  exact hJJ (L-(a+20)) _ _ (by omega) ⟨t+1,a+20,D',by omega,hle,rfl,by simp[f0],by simp[f1],by simp[f2],by simp[f6],by simp,by simp,hB.ext k2 (by omega) ht,hI.step k2 k1 k3⟩
 clear hJJ
 have hle':¬(a:Int)+20≤L:=by omega
 have hc:=aDu q L fid caps Pc hcmp (by omega) D a L st2 hI.1 ha (Nat.le_refl _) hP2 hq2 hI.2.2.1
 (repeat' (first|refine qS ?_|(refine qX ?_;simp only[ak,reduceIte])|(refine qC ?_;simp[f0,f1,f2,f7,f8,hle'])|(refine w_e [] ?_;intro J hJ;simp only[];simp[f0,f1,f2,f7,f8,hle'];(try (refine hJ _ _ ?_;clear hJ J;simp only[ak,reduceIte])))))
 refine qE hc (by simp) ?_;rintro r s3 ⟨D',k1,k2,k3⟩
 have hB2:=hB.ext k2 (by omega) ht
 have hI2:=hI.step k2 k1 k3
 (repeat' (first|refine qB ?_|(refine aL ?_;simp[];(refine hJ _ _ ?_;clear hJ J;simp only[ak,reduceIte]))))
 refine qL (fun z fr st2=>∃(s:Nat) (D:List Ed),20≤s∧s≤200040∧z=L-s∧fr 0=.ms q 0 L∧fr 1=i L∧fr 2=.fn (.func fid) caps∧fr 6=i s∧Bs s 0 L D∧vO D0 q L st st2 D) (L-20) ?_ ?_
 ·exact⟨20,D',by omega,by omega,rfl,by simp[f0],by simp[f1],by simp[f2],by simp[f6],hB2,hI2⟩
 clear hB2 hI2 k1 k2 k3 hc hI hB f0 f1 f2 f6 f7 f8 hP2 hq2 hle hle' ht ha fr
 rintro z fr st3 ⟨s,D,hs0,hs1,rfl,f0,f1,f2,f6,hB,hI⟩ JJ hJJ
 by_cases hlt:s<L
 rotate_left
 ·clear hJJ
  have hlt':¬(s:Int)<L:=by omega
  (repeat' (first|refine qS ?_|(refine qX ?_;simp only[ak,reduceIte])|(refine qC ?_;simp[f1,f6,hlt,hlt'])|(refine w_e [] ?_;intro J hJ;simp only[];simp[f1,f6,hlt,hlt'];(refine hJ _ _ ?_;clear hJ J;simp only[ak,reduceIte]))))
  exact⟨trivial,D,hI.2.1,hB.all (by omega) hI.1,hI.2.2⟩
 exact absurd hlt (by omega)
end Go.Proofs.YtempldclppogmaaGreatDoor.Aw
namespace Go.Proofs.YtempldclppogmaaGreatDoor.Aw.U
open Go Go.RowKit Go.Proofs.YtempldclppogmaaGreatDoor.Pl
def be(st:St)(q:Nat)(c:List Int):St:=st.set q (.box 34 1 (us c))
@[simp] theorem aMs(st:St)(q:Nat)(c:List Int):(be st q c).next=st.next:=rfl
@[simp] theorem aQR(st:St)(q:Nat)(c:List Int):(be st q c).H q=.box 34 1 (us c):=by simp[be]
theorem oC(l:List Int)(j:Nat)(hj:j<l.length):l.getD j 0=l[j]:=by
 rw[List.getD_eq_getElem?_getD,List.getElem?_eq_getElem hj];rfl
theorem aAU(U:List Int)(x y:Int)(W:List Int):(U++x::W).set U.length y=U++y::W:=by
 rw[List.set_append_right _ _ (Nat.le_refl _)];simp
theorem wP(U:List Int)(x:Int)(W:List Int):(U++x::W).getD U.length 0=x:=by
 rw[List.getD_eq_getElem?_getD,List.getElem?_append_right (Nat.le_refl _)];simp
theorem gU(n:Int)(h0 : -9223372036854775808≤n)(h1:n≤9223372036854775807):IntKind.i64.wrap n=n:=by
 simp only[IntKind.wrap,IntKind.signed,IntKind.bits]
 simp
 split<;>omega
def rS(x y:Int):Int:=if x<y then -1 else if y<x then 1 else 0
theorem xI(x y:Int):decide (rS x y<0)=decide (x<y):=by
 unfold rS
 by_cases h:x<y
 ·simp[h]
 ·rw[if_neg h]
  by_cases h2:y<x<;>simp[h,h2]
structure lO(fid:FuncId)(caps:List LV)(q:Nat)(Pc:St→Prop):Prop where
 keep:∀ st st',Pc st→bQ q st st'→Pc st'
 call:∀ st x y,Pc st→aF Tryz.prog fid ([u x,u y]++caps) st fun r st'=>r=i (rS x y)∧aB st st'
def Ris(l:List Int):Prop:=l.Pairwise fun x y=>x≤y
theorem get_at(U:List Int)(x:Int)(W:List Int){j:Nat}(hj:j=U.length):(U++x::W).getD j 0=x:=by subst hj;exact wP _ _ _
theorem xE(U:List Int)(x y:Int)(W:List Int){j:Nat}(hj:j=U.length):(U++x::W).set j y=U++y::W:=by subst hj;exact aAU _ _ _ _
def aNT(P X S:List Int)(q:Nat)(st:St)(r:LV)(st':St):Prop:=∃ Y,Y.Perm X∧Ris Y∧st'.H q=.box 34 1 (us (P++Y++S))∧bQ q st st'
theorem aAQ{A B:List Int}{x:Int}(h:Ris (A++B))(h1:∀ y∈A,y≤x)(h2:∀ y∈B,x≤y):Ris (A++x::B):=by
 unfold Ris at h ⊢
 rw[List.pairwise_append]at h ⊢
 refine⟨h.1,List.pairwise_cons.2 ⟨h2,h.2.1⟩,fun a ha b hb=>?_⟩
 rcases List.mem_cons.1 hb with rfl|hb
 ·exact h1 a ha
 ·exact h.2.2 a ha b hb
theorem xN{A:List Int}{y:Int}(h:Ris (A++[y])):∀ a∈A,a≤y:=by
 unfold Ris at h
 rw[List.pairwise_append]at h
 exact fun a ha=>h.2.2 a ha y (by simp)
set_option maxHeartbeats 1000000 in
theorem aBV(P X S:List Int)(q:Nat)(fid:FuncId)(caps:List LV)(Pc:St→Prop)(st:St)(hcmp:lO fid caps q Pc)(hPc:Pc st)(hq:q<st.next)(hl:(P++X++S).length≤100000)(hH:st.H q=.box 34 1 (us (P++X++S))):
 aF Tryz.prog 209 [.ms q 0 (P++X++S).length,i P.length,i (P.length+X.length:Nat),.fn (.func fid) caps] st (aNT P X S q st):=by
 generalize hL:(P++X++S).length=L at *
 have hLl:L=P.length+X.length+S.length:=by rw[← hL];simp only[List.length_append]
 generalize hp:P.length=p at *
 have wp:IntKind.i64.wrap ((p:Int)+1)=((p+1:Nat):Int):=by rw[gU _ (by omega) (by omega)];omega
 refine qO aK Tryz.func209 rfl rfl Tryz.ntmps209 (rs:=[]) rfl (by simp) ?_
 (repeat' (first|refine qS ?_|refine qB ?_|(refine w_e [] ?_;intro J hJ;simp only[];simp[wp];(refine hJ _ _ ?_;clear hJ J;simp only[ak,reduceIte]))))
 refine qL (fun z fr st2=>∃ Y Z:List Int,Z.length≤z∧fr 0=.ms q 0 L∧fr 1=i p∧fr 2=i (p+X.length:Nat)∧fr 3=.fn (.func fid) caps∧(X=[]∧Y=[]∧fr 8=i (p+1:Nat)∨Y≠[]∧fr 8=i (p+Y.length:Nat))∧(Y++Z).Perm X∧Ris Y∧st2.H q=.box 34 1 (us (P++Y++Z++S))∧bQ q st st2) X.length ?_ ?_
 ·cases X with
  |nil=>exact⟨[],[],by simp,by simp,by simp,by simp,by simp,.inl ⟨rfl,rfl,by simp⟩,.refl _,.nil,by simpa using hH,bQ.refl _ _⟩
  |cons x X => 
   refine⟨[x],X,by simp,by simp,by simp,by simp,by simp,.inr ⟨by simp,by simp⟩,.refl _,List.pairwise_singleton _ _,?_,bQ.refl _ _⟩
   rw[hH];simp
 rintro z fr st2 ⟨Y,Z,hz,f0,f1,f2,f3,f8,hpm,hris,hB,hoff⟩ JJ hJJ
 have hpl:=hpm.length_eq
 simp only[List.length_append]at hpl
 cases Z with
 |nil=>
  clear hJJ
  simp only[List.length_nil,Nat.add_zero]at hpl
  rw[List.append_nil]at hpm hB
  have hex:∃ e:Nat,fr 8=i e∧¬((e:Int)<(p+X.length:Nat)):=by
   rcases f8 with⟨h1,h2,h3⟩|⟨h1,h2⟩
   ·exact⟨p+1,h3,by rw[h1];simp;omega⟩
   ·exact⟨p+Y.length,h2,by rw[hpl];omega⟩
  obtain⟨e,g8,he⟩:=hex
  (repeat' (first|refine qS ?_|(refine qX ?_;simp only[ak,reduceIte])|(refine qC ?_;simp[f2,g8,he];(try with_reducible refine⟨?_,?_⟩)<;>(try with_reducible intro hc)<;>try (exfalso;omega))|(refine w_e [] ?_;intro J hJ;simp only[];simp[f2,g8,he];(refine hJ _ _ ?_;clear hJ J;simp only[ak,reduceIte]))))
  simp
  exact⟨Y,hpm,hris,hB,hoff⟩
 |cons x Z=>
 have hYne:Y≠[]∧fr 8=i (p+Y.length:Nat):=by
  rcases f8 with⟨h1,h2,h3⟩|h
  ·subst h1;simp at hpl
  ·exact h
 obtain⟨hYn,g8⟩:=hYne
 clear f8
 have hY0:=List.length_pos_iff.2 hYn
 simp only[List.length_cons]at hpl hz
 have hlt:(((p+Y.length:Nat):Int))<((p+X.length:Nat):Int):=by omega
 (repeat' (first|refine qS ?_|refine qB ?_|(refine qK ?_;simp only[ak,reduceIte])|(refine qC ?_;simp[f2,g8,hlt];(try with_reducible refine⟨?_,?_⟩)<;>(try with_reducible intro hc)<;>try (exfalso;omega))|(refine w_e [] ?_;intro J hJ;simp only[];simp[f2,g8,hlt];(refine hJ _ _ ?_;clear hJ J;simp only[ak,reduceIte]))))
 refine qL (fun z fr st3=>∃ A B:List Int,z=A.length∧A++B=Y∧(∀ y∈B,x≤y)∧fr 0=.ms q 0 L∧fr 1=i p∧fr 2=i (p+X.length:Nat)∧fr 3=.fn (.func fid) caps∧fr 8=i (p+Y.length:Nat)∧fr 9=i (p+A.length:Nat)∧st3.H q=.box 34 1 (us (P++A++x::(B++Z++S)))∧bQ q st st3) Y.length ?_ ?_
 ·exact⟨Y,[],rfl,by simp,by simp,by simp[f0],by simp[f1],by simp[f2],by simp[f3],by simp[g8],by simp,by rw[hB];simp,hoff⟩
 clear f0 f1 f2 f3 g8 hB hoff fr st2
 rintro z' fr st3 ⟨A,B,rfl,rfl,hxB,f0,f1,f2,f3,f8,f9,hB,hoff⟩ J2 hJ2
 have hP3:=hcmp.keep _ _ hPc hoff
 have hfin:(∀ y∈A,y≤x)→Ris (A++x::B):=fun h1=>aAQ hris h1 hxB
 have hpm2:((A++x::B)++Z).Perm X:=by
  refine List.Perm.trans ?_ hpm
  rw[List.append_assoc,List.append_assoc]
  refine List.Perm.append_left A ?_
  rw[List.cons_append]
  exact List.perm_middle.symm
 have hAB:(A++x::B).length=(A++B).length+1:=by simp;omega
 simp only[List.length_append]at hpl hY0
 have w8:IntKind.i64.wrap (((p+(A++B).length:Nat):Int)+1)=((p+(A++x::B).length:Nat):Int):=by rw[hAB,gU _ (by simp only[List.length_append];omega) (by simp only[List.length_append];omega)];omega
 have hnext:∀ fr' st4,(fr' 0=.ms q 0 L∧fr' 1=i p∧fr' 2=i (p+X.length:Nat)∧fr' 3=.fn (.func fid) caps∧fr' 8=i (p+(A++x::B).length:Nat))→(∀ y∈A,y≤x)→st4.H q=.box 34 1 (us (P++A++x::(B++Z++S)))→bQ q st st4→JJ fr' st4:=by
  rintro fr' st4 ⟨g0,g1,g2,g3,g8⟩ h1 h2 h3
  refine hJJ Z.length _ _ (by omega) ⟨A++x::B,Z,Nat.le_refl _,g0,g1,g2,g3,.inr ⟨by simp,g8⟩,hpm2,hfin h1,?_,h3⟩
  rw[h2];simp
 have hrisA:Ris A:=by
  unfold Ris at hris ⊢
  exact(List.pairwise_append.1 hris).1
 clear hJJ hfin hpm2 hpm hris hAB
 generalize (A++B).length=lab at *
 generalize (A++x::B).length=laxb at *
 have w8':IntKind.i64.wrap ((p:Int)+lab+1)=(p:Int)+laxb:=by have h:=w8;rw[Int.natCast_add,Int.natCast_add]at h;exact h
 rcases List.eq_nil_or_concat A with rfl|⟨W,y,hWy⟩
 ·simp only[List.length_nil,Nat.add_zero]at f9
  (repeat' refine qS ?_)
  (refine w_s [] [q] [(0,true),(1,true),(2,true),(3,true),(4,true),(5,true),(6,true),(7,true),(8,true),(9,true),(10,true),(11,true),(12,true),(13,true),(14,false),(15,true),(16,true)] ?_;intro J hJ;simp[f0,f1,f3,f9];(refine hJ _ _ ?_;clear hJ J;simp only[ak,reduceIte]))
  (repeat' (first|(refine qX ?_;simp only[ak,reduceIte])|(refine qC ?_;simp[f8,w8'])|(refine w_e [] ?_;intro J hJ;simp only[];simp[f8,w8'];(refine hJ _ _ ?_;clear hJ J;simp only[ak,reduceIte]))))
  exact hnext _ _ ⟨by simp[f0],by simp[f1],by simp[f2],by simp[f3],by simp⟩ (by simp) hB hoff
 rw[List.concat_eq_append]at hWy
 subst hWy
 have hWl:(W++[y]).length=W.length+1:=by simp
 rw[hWl,← Nat.add_assoc]at f9
 have hce:P++(W++[y])++x::(B++Z++S)=(P++W)++y::x::(B++Z++S):=by simp
 have hUl:(P++W).length=p+W.length:=by simp[hp]
 have hcl:((P++W)++y::x::(B++Z++S)).length=L:=by
  simp only[List.length_append,List.length_cons,List.length_nil,hp]at hpl hz ⊢
  omega
 rw[hce]at hB hnext
 have g1:=get_at (P++W) y (x::(B++Z++S)) (j:=p+W.length) hUl.symm
 have g2:((P++W)++y::x::(B++Z++S)).getD (p+W.length+1) 0=x:=by
  rw[show(P++W)++y::x::(B++Z++S)=(P++W++[y])++x::(B++Z++S) by simp]
  exact get_at _ _ _ (by simp[hp];omega)
 have s1:(((P++W)++y::x::(B++Z++S)).set (p+W.length+1) y).set (p+W.length) x=P++W++x::(y::B++Z++S):=by
  rw[show(P++W)++y::x::(B++Z++S)=(P++W++[y])++x::(B++Z++S) by simp,xE _ _ _ _ (by simp[hp];omega)]
  rw[show(P++W++[y])++y::(B++Z++S)=(P++W)++y::(y::(B++Z++S)) by simp,xE _ _ _ _ hUl.symm]
  simp
 have hstep:x<y→∀ y'∈y::B,x≤y':=fun h1 y' hy'=>by
  rcases List.mem_cons.1 hy' with rfl|h2
  ·omega
  ·exact hxB y' h2
 have hstop:¬x<y→∀ y'∈W++[y],y'≤x:=fun h1 y' hy'=>by
  rcases List.mem_append.1 hy' with h2|h2
  ·have:=xN (hrisA) y' h2;omega
  ·rw[List.mem_singleton]at h2;subst h2;omega
 generalize (P++W)++y::x::(B++Z++S)=c at *
 generalize hjx:p+W.length=jx at *
 have hel:=aMX c
 have da:=qG c (jx+1) (by omega)
 have db:=qG c jx (by omega)
 rw[g2]at da
 rw[g1]at db
 have wj:IntKind.i64.wrap (((jx+1:Nat):Int)-1)=(jx:Int):=by rw[gU _ (by omega) (by omega)];omega
 obtain⟨xi,rfl⟩:∃ xi,xi=x:=⟨_,rfl⟩
 obtain⟨yi,rfl⟩:∃ yi,yi=y:=⟨_,rfl⟩
 try simp only at da db hstep hstop
 have hgt:(p:Int)<(jx:Int)+1:=by omega
 have hcm:=hcmp.call st3 xi yi hP3
 have hneg:=xI xi yi
 try simp only at hneg
 generalize rS xi yi=cv at *
 have wj':IntKind.i64.wrap (jx:Int)=(jx:Int):=gU _ (by omega) (by omega)
 have hA4:jx+1<L:=by omega
 have hB4:jx<L:=by omega
 (repeat' refine qS ?_)
 (refine w_s [] [q] [(0,true),(1,true),(2,true),(3,true),(4,true),(5,true),(6,true),(7,true),(8,true),(9,true),(10,true),(11,true),(12,true),(13,true),(14,false),(15,true),(16,true)] ?_;intro J hJ;simp[f0,f1,f3,f9,hgt,hB,da,db,hel,hcl,wj'];(repeat refine ca ?_))
 refine bF hcm ?_;rintro r s4 ⟨rfl,hk4⟩
 have hq3:q<st3.next:=by have:=hoff.1;omega
 have hB4':=(hk4.H q hq3).trans hB
 have hoff4:=hoff.keeps hk4
 refine⟨fun _=>by simp[hB4',hB],?_⟩
 by_cases hlt3:xi<yi
 ·have hcv:cv<0:=by rw[decide_eq_true hlt3]at hneg;exact of_decide_eq_true hneg
  (refine bN ?_;simp[hcv,hB4',hB];(refine hJ _ _ ?_;clear hJ J;simp only[ak,reduceIte]))
  (repeat' (first|refine qS ?_|refine qB ?_|(refine qK ?_;simp only[ak,reduceIte])|(refine qC ?_;simp[])))
  (refine w_s [] [q] [(0,true),(1,true),(2,true),(3,true),(4,true),(5,true),(6,true),(7,true),(8,true),(9,true),(10,true),(11,true),(12,true),(13,true),(14,true),(15,false),(16,true),(17,false)] ?_;intro J hJ;simp[f0,f9,hB4',da,db,hel,hcl,wj'];(repeat refine ca ?_);(refine hJ _ _ ?_;clear hJ J;simp only[ak,reduceIte]))
  have e1:=vT c (jx+1) yi (by omega)
  have e2:=vT (c.set (jx+1) yi) jx xi (by simp;omega)
  try simp only at e1 e2
  rw[e1,e2,s1,St.set_set]
  (repeat' (refine w_e [] ?_;intro J hJ;simp only[];simp[f9,wj'];(refine hJ _ _ ?_;clear hJ J;simp only[ak,reduceIte])))
  refine hJ2 W.length _ _ (by simp) ⟨W,yi::B,rfl,by simp,hstep hlt3,by simp[f0],by simp[f1],by simp[f2],by simp[f3],by simp[f8],by simp[hjx],?_,hoff4.set _⟩
  simp
 ·have hcv:¬cv<0:=by rw[decide_eq_false hlt3]at hneg;exact of_decide_eq_false hneg
  (refine bN ?_;simp[hcv,hB4',hB];(refine hJ _ _ ?_;clear hJ J;simp only[ak,reduceIte]))
  (repeat' (first|(refine qX ?_;simp only[ak,reduceIte])|(refine qC ?_;simp[f8,w8'])|(refine w_e [] ?_;intro J hJ;simp only[];simp[f8,w8'];(refine hJ _ _ ?_;clear hJ J;simp only[ak,reduceIte]))))
  exact hnext _ _ ⟨by simp[f0],by simp[f1],by simp[f2],by simp[f3],by simp⟩ (hstop hlt3) hB4' hoff4
theorem aBr{l:List Int}(h:Ris l){j k:Nat}(hjk:j≤k)(hk:k<l.length):(l.getD j 0)≤(l.getD k 0):=by
 rw[oC _ _ hk,oC _ _ (by omega)]
 rcases Nat.lt_or_ge j k with h1|h1
 ·exact List.pairwise_iff_getElem.1 h j k (by omega) hk h1
 ·obtain rfl:j=k:=by omega
  exact Int.le_refl _
theorem aEF(U W:List Int)(j:Nat):(U++W).getD (U.length+j) 0=W.getD j 0:=by
 rw[List.getD_eq_getElem?_getD,List.getElem?_append_right (by omega),Nat.add_sub_cancel_left,← List.getD_eq_getElem?_getD]
theorem xP(U W:List Int)(j:Nat)(h:j<U.length):(U++W).getD j 0=U.getD j 0:=by
 rw[List.getD_eq_getElem?_getD,List.getElem?_append_left h,← List.getD_eq_getElem?_getD]
structure Mgd(D D':List Int)(lo hi:Nat):Prop where
 len:D'.length=D.length
 perm:D'.Perm D
 out:∀ j,j<lo∨hi≤j→D'.getD j 0=D.getD j 0
 inn:∀ j k,lo≤j→j≤k→k<hi→(D'.getD j 0)≤(D'.getD k 0)
theorem mgd{D P X S C:List Int}(hD:P++X++S=D)(hC:C.Perm X)(hr:Ris C){lo hi:Nat}(h1:P.length=lo)(h2:hi=lo+X.length):Mgd D (P++C++S) lo hi:=by
 have hl:=hC.length_eq
 subst hD
 refine⟨by simp[hl],List.Perm.append_right _ (List.Perm.append_left _ hC),fun j hj=>?_,fun j k hj hjk hk=>?_⟩
 ·rcases Nat.lt_or_ge j lo with h|h
  ·rw[xP _ _ _ (by simp;omega),xP _ _ _ (by omega),xP _ _ _ (by simp;omega),xP _ _ _ (by omega)]
  ·have e1:=aEF (P++C) S (j-hi)
   have e2:=aEF (P++X) S (j-hi)
   have l1:(P++C).length+(j-hi)=j:=by simp;omega
   have l2:(P++X).length+(j-hi)=j:=by simp;omega
   rw[l1]at e1
   rw[l2]at e2
   rw[e1,e2]
 ·have e:∀ x,lo≤x→x<hi→(P++C++S).getD x 0=C.getD (x-lo) 0:=fun x g1 g2=>by
   have e1:=aEF P (C++S) (x-lo)
   rw[show P.length+(x-lo)=x by omega,xP C S (x-lo) (by omega)]at e1
   rw[← e1];simp
  rw[e j hj (by omega),e k (by omega) hk]
  exact aBr hr (by omega) (by omega)
theorem aNB(D:List Int)(lo hi:Nat)(h:lo≤hi):D.take lo++(D.drop lo).take (hi-lo)++D.drop hi=D:=by
 have e:(D.drop lo).drop (hi-lo)=D.drop hi:=by rw[List.drop_drop];congr 1;omega
 rw[List.append_assoc,← e,List.take_append_drop,List.take_append_drop]
theorem aAT{D:List Int}{lo hi:Nat}(hh:hi≤D.length)(h:∀ j k,lo≤j→j≤k→k<hi→(D.getD j 0)≤(D.getD k 0)):Ris ((D.drop lo).take (hi-lo)):=by
 refine List.pairwise_iff_getElem.2 fun a b ha hb hab=>?_
 simp only[List.length_take,List.length_drop]at ha hb
 rw[List.getElem_take,List.getElem_take,List.getElem_drop,List.getElem_drop,← oC D (lo+a) (by omega),← oC D (lo+b) (by omega)]
 exact h _ _ (by omega) (by omega) (by omega)
section
variable (q L:Nat) (fid:FuncId) (caps:List LV) (Pc:St→Prop) (hcmp:lO fid caps q Pc) (hl:L≤100000)
include hcmp hl
theorem aDu(D:List Int)(a b:Nat)(st:St)(hD:D.length=L)(ha:a≤b)(hb:b≤L)(hPc:Pc st)(hq:q<st.next)(hH:st.H q=.box 34 1 (us D)):
 aF Tryz.prog 209 [.ms q 0 L,i a,i b,.fn (.func fid) caps] st fun r st'=>∃ D',st'.H q=.box 34 1 (us D')∧Mgd D D' a b∧bQ q st st':=by
 have hc:=aNB D a b ha
 have l1:(D.take a).length=a:=by rw[List.length_take];omega
 have l2:((D.drop a).take (b-a)).length=b-a:=by rw[List.length_take,List.length_drop];omega
 have h:=aBV (D.take a) ((D.drop a).take (b-a)) (D.drop b) q fid caps Pc st hcmp hPc hq (by rw[hc];omega) (by rw[hc];exact hH)
 rw[hc,hD,l1,l2,show a+(b-a)=b by omega]at h
 refine h.mono ?_
 rintro r st' ⟨Y,h1,h2,h3,h4⟩
 exact⟨_,h3,mgd hc h1 h2 l1 (by omega),h4⟩
end
def Bs(s lo hi:Nat)(D:List Int):Prop:=∀ j k,lo≤j→j≤k→k<hi→j / s=k / s→(D.getD j 0)≤(D.getD k 0)
theorem Bs.ext{s a b t:Nat}{D D':List Int}(h:Bs s 0 a D)(hm:Mgd D D' a b)(hs:0<s)(ht:a=s*t):Bs s 0 b D':=by
 intro j k _ hjk hk he
 rcases Nat.lt_or_ge k a with h1|h1
 ·rw[hm.out j (.inl (by omega)),hm.out k (.inl h1)]
  exact h j k (Nat.zero_le _) hjk h1 he
 ·rcases Nat.lt_or_ge j a with h2|h2
  ·have h3:j / s<t:=Nat.div_lt_of_lt_mul (by omega)
   have h4:t≤k / s:=(Nat.le_div_iff_mul_le hs).2 (by rw[Nat.mul_comm];omega)
   omega
  ·exact hm.inn j k h2 hjk hk
theorem Bs.all{s L:Nat}{D:List Int}(h:Bs s 0 L D)(hs:L≤s)(hD:D.length=L):Ris D:=by
 have:=aAT (D:=D) (lo:=0) (hi:=L) (by omega) fun j k h1 h2 h3=>h j k h1 h2 h3 (by rw[Nat.div_eq_of_lt (by omega),Nat.div_eq_of_lt (by omega)])
 rwa [List.drop_zero,List.take_of_length_le (by omega)]at this
theorem Mgd.from{D D':List Int}{a b:Nat}(h:Mgd D D' a b){D0:List Int}(k:D.Perm D0):D'.Perm D0:=h.perm.trans k
def vO(D0:List Int)(q L:Nat)(st st2:St)(D:List Int):Prop:=D.length=L∧D.Perm D0∧st2.H q=.box 34 1 (us D)∧bQ q st st2
theorem vO.step{D0:List Int}{q L:Nat}{st st2 st3:St}{D D':List Int}{a b:Nat}(h:vO D0 q L st st2 D)(hm:Mgd D D' a b)(h1:st3.H q=.box 34 1 (us D'))(h2:bQ q st2 st3):vO D0 q L st st3 D':=
 ⟨hm.len.trans h.1,hm.from h.2.1,h1,h.2.2.2.trans h2⟩
set_option maxHeartbeats 1000000 in
theorem aED(D0:List Int)(q L:Nat)(fid:FuncId)(caps:List LV)(Pc:St→Prop)(st:St)(hcmp:lO fid caps q Pc)(hPc:Pc st)(hq:q<st.next)(hL:D0.length=L)(hl:L≤20)(hH:st.H q=.box 34 1 (us D0)):
 aF Tryz.prog 192 [.ms q 0 L,i L,.fn (.func fid) caps] st fun r st'=>∃ D,D.Perm D0∧Ris D∧st'.H q=.box 34 1 (us D)∧bQ q st st':=by
 refine qO aK Tryz.func192 rfl rfl Tryz.ntmps192 (rs:=[]) rfl (by simp) ?_
 (repeat' (first|refine qS ?_|refine qB ?_|(refine w_e [] ?_;intro J hJ;simp only[];simp[];(refine hJ _ _ ?_;clear hJ J;simp only[ak,reduceIte]))))
 refine qL (fun z fr st2=>∃(t a:Nat) (D:List Int),a=20*t∧a≤L∧z=L-a∧fr 0=.ms q 0 L∧fr 1=i L∧fr 2=.fn (.func fid) caps∧fr 6=i 20∧fr 7=i a∧fr 8=i (a+20:Nat)∧Bs 20 0 a D∧vO D0 q L st st2 D) L ?_ ?_
 ·exact⟨0,0,D0,rfl,by omega,rfl,by simp,by simp,by simp,by simp,by simp,by simp,fun j k _ _ h=>by omega,hL,.refl _,hH,bQ.refl _ _⟩
 rintro z fr st2 ⟨t,a,D,ht,ha,rfl,f0,f1,f2,f6,f7,f8,hB,hI⟩ JJ hJJ
 have hP2:=hcmp.keep _ _ hPc hI.2.2.2
 have hq2:q<st2.next:=by have:=hI.2.2.2.1;omega
 by_cases hle:a+20≤L
 ·have hle':(a:Int)+20≤L:=by omega
  have hc:=aDu q L fid caps Pc hcmp (by omega) D a (a+20) st2 hI.1 (by omega) hle hP2 hq2 hI.2.2.1
  have w1:IntKind.i64.wrap ((a:Int)+20+20)=((a+20+20:Nat):Int):=by rw[gU _ (by omega) (by omega)];omega
  (repeat' (first|refine qS ?_|refine qB ?_|(refine qK ?_;simp only[ak,reduceIte])|(refine qC ?_;simp[f0,f1,f2,f7,f8,hle'])|(refine w_e [] ?_;intro J hJ;simp only[];simp[f0,f1,f2,f7,f8,hle'];(try (refine hJ _ _ ?_;clear hJ J;simp only[ak,reduceIte])))))
  refine qE hc (by simp) ?_;rintro r s3 ⟨D',k1,k2,k3⟩
  (repeat' (first|refine qS ?_|((first|(refine w_e [] ?_;intro J hJ;simp only[])|(refine aL ?_));simp[f8,f6,w1];(refine hJ _ _ ?_;clear hJ J;simp only[ak,reduceIte]))))
  exact hJJ (L-(a+20)) _ _ (by omega) ⟨t+1,a+20,D',by omega,hle,rfl,by simp[f0],by simp[f1],by simp[f2],by simp[f6],by simp,by simp,hB.ext k2 (by omega) ht,hI.step k2 k1 k3⟩
 clear hJJ
 have hle':¬(a:Int)+20≤L:=by omega
 have hc:=aDu q L fid caps Pc hcmp (by omega) D a L st2 hI.1 ha (Nat.le_refl _) hP2 hq2 hI.2.2.1
 (repeat' (first|refine qS ?_|(refine qX ?_;simp only[ak,reduceIte])|(refine qC ?_;simp[f0,f1,f2,f7,f8,hle'])|(refine w_e [] ?_;intro J hJ;simp only[];simp[f0,f1,f2,f7,f8,hle'];(try (refine hJ _ _ ?_;clear hJ J;simp only[ak,reduceIte])))))
 refine qE hc (by simp) ?_;rintro r s3 ⟨D',k1,k2,k3⟩
 have hB2:=hB.ext k2 (by omega) ht
 have hI2:=hI.step k2 k1 k3
 (repeat' (first|refine qB ?_|(refine aL ?_;simp[];(refine hJ _ _ ?_;clear hJ J;simp only[ak,reduceIte]))))
 refine qL (fun z fr st2=>∃(s:Nat) (D:List Int),20≤s∧s≤200040∧z=L-s∧fr 0=.ms q 0 L∧fr 1=i L∧fr 2=.fn (.func fid) caps∧fr 6=i s∧Bs s 0 L D∧vO D0 q L st st2 D) (L-20) ?_ ?_
 ·exact⟨20,D',by omega,by omega,rfl,by simp[f0],by simp[f1],by simp[f2],by simp[f6],hB2,hI2⟩
 clear hB2 hI2 k1 k2 k3 hc hI hB f0 f1 f2 f6 f7 f8 hP2 hq2 hle hle' ht ha fr
 rintro z fr st3 ⟨s,D,hs0,hs1,rfl,f0,f1,f2,f6,hB,hI⟩ JJ hJJ
 by_cases hlt:s<L
 rotate_left
 ·clear hJJ
  have hlt':¬(s:Int)<L:=by omega
  (repeat' (first|refine qS ?_|(refine qX ?_;simp only[ak,reduceIte])|(refine qC ?_;simp[f1,f6,hlt,hlt'])|(refine w_e [] ?_;intro J hJ;simp only[];simp[f1,f6,hlt,hlt'];(refine hJ _ _ ?_;clear hJ J;simp only[ak,reduceIte]))))
  exact⟨trivial,D,hI.2.1,hB.all (by omega) hI.1,hI.2.2⟩
 exact absurd hlt (by omega)
end Go.Proofs.YtempldclppogmaaGreatDoor.Aw.U
namespace Go.Proofs.YtempldclppogmaaGreatDoor.Aw
open Go Go.RowKit Go.Proofs.YtempldclppogmaaGreatDoor.Pl
theorem aFP(x y:Int)(st:St):aF Tryz.prog 64 [u x,u y] st fun r st'=>r=i (if x<y then -1 else if y<x then 1 else 0)∧st'=st:=by
 refine qO aK Tryz.func64 rfl rfl Tryz.ntmps64 (rs:=[.tmp 4]) rfl (by simp) ?_
 (repeat' (first|refine qS ?_|(refine w_e [] ?_;intro J hJ;simp only[];simp[];(try (refine hJ _ _ ?_;clear hJ J;simp only[ak,reduceIte])))))
 refine qF (isNaN x _) ?_;rintro r st' ⟨rfl,rfl⟩
 (repeat' (first|refine qS ?_|((first|(refine w_e [] ?_;intro J hJ;simp only[])|(refine aL ?_));simp[];(try (refine hJ _ _ ?_;clear hJ J;simp only[ak,reduceIte])))))
 refine qF (isNaN y _) ?_;rintro r st' ⟨rfl,rfl⟩
 by_cases h1:x<y
 ·(repeat' (first|refine qS ?_|(refine qK ?_;simp only[ak,reduceIte])|(refine qR ?_;simp only[ak,reduceIte];simp[h1])|(refine qC ?_;simp[h1])|((first|(refine w_e [] ?_;intro J hJ;simp only[])|(refine aL ?_));simp[h1];(refine hJ _ _ ?_;clear hJ J;simp only[ak,reduceIte]))))
 ·by_cases h2:y<x
  ·(repeat' (first|refine qS ?_|(refine qK ?_;simp only[ak,reduceIte])|(refine qR ?_;simp only[ak,reduceIte];simp[h1,h2])|(refine qC ?_;simp[h1,h2])|((first|(refine w_e [] ?_;intro J hJ;simp only[])|(refine aL ?_));simp[h1,h2];(refine hJ _ _ ?_;clear hJ J;simp only[ak,reduceIte]))))
  ·(repeat' (first|refine qS ?_|(refine qK ?_;simp only[ak,reduceIte])|(refine qR ?_;simp only[ak,reduceIte];simp[h1,h2])|(refine qC ?_;simp[h1,h2])|((first|(refine w_e [] ?_;intro J hJ;simp only[])|(refine aL ?_));simp[h1,h2];(refine hJ _ _ ?_;clear hJ J;simp only[ak,reduceIte]))))
theorem aBe(a:List Int)(t:Nat)(st:St)(hl:a.length≤100000):
 aF Tryz.prog 69 [.sl t a.length (us a)] st fun r st'=>∃ l,r=.ms l 0 a.length∧st.next≤l∧l<st'.next∧st'.H l=.box 34 1 (us a)∧aB st st':=by
 refine fT 34 1 ?_
 have hone:=aFc a
 refine qO aK Tryz.func69 rfl rfl Tryz.ntmps69 (rs:=[.tmp 2]) rfl (by simp) ?_
 (repeat' (first|refine qS ?_|(refine qK ?_;simp only[ak,reduceIte])|(refine qR ?_;simp only[ak,reduceIte];simp[hone])|(refine qC ?_;simp[hone])|(refine w_e [5] ?_;intro J hJ;simp only[];simp[hone];(repeat refine ca ?_);((try with_reducible refine⟨?_,?_⟩)<;>(try with_reducible intro hnil)<;>refine hJ _ _ ?_<;>clear hJ J<;>simp only[ak,reduceIte]<;>try subst hnil))))
 ·exact(aB.new _ _).trans (aB.new _ _)
 ·exact aB.new _ _
theorem aLf(l:List Ed)(t:Nat)(st:St)(hl:l.length≤100000):
 aF Tryz.prog 124 [.sl t l.length (eds l)] st fun r st'=>∃ q,r=.ms q 0 l.length∧st.next≤q∧q<st'.next∧st'.H q=.box 56 3 (eds l)∧aB st st':=by
 have hone:=aFY l
 have hel:=aO l
 refine fT 56 3 ?_
 refine qO aK Tryz.func124 rfl rfl Tryz.ntmps124 (rs:=[.tmp 2]) rfl (by simp) ?_
 (repeat' (first|refine qS ?_|(refine qK ?_;simp only[ak,reduceIte])|(refine qR ?_;simp only[ak,reduceIte];simp[hone,hel])|(refine qC ?_;simp[hone,hel])|(refine w_e [5] ?_;intro J hJ;simp only[];simp[hone,hel];(repeat refine ca ?_);((try with_reducible refine⟨?_,?_⟩)<;>(try with_reducible intro hnil)<;>refine hJ _ _ ?_<;>clear hJ J<;>simp only[ak,reduceIte]<;>try subst hnil))))
 ·exact(aB.new _ _).trans (aB.new _ _)
 ·exact aB.new _ _
def aMQ(fid:FuncId)(caps:List LV)(Pc:St→Prop):Prop:=(∀ st st',Pc st→aB st st'→Pc st')∧∀ st x y,Pc st→aF Tryz.prog fid ([u x,u y]++caps) st fun r st'=>r=bb (decide (x=y))∧aB st st'
def aMD(fid:FuncId)(caps:List LV)(Pc:St→Prop):Prop:=(∀ st st',Pc st→aB st st'→Pc st')∧∀ st x y,Pc st→aF Tryz.prog fid ([.ag (edL x),.ag (edL y)]++caps) st fun r st'=>r=bb (decide (x.id=y.id))∧aB st st'
set_option maxHeartbeats 1000000 in
theorem aJB(c:List Ed)(q:Nat)(fid:FuncId)(caps:List LV)(Pc:St→Prop)(st:St)(heq:aMD fid caps Pc)(hPc:Pc st)(hl:c.length≤100000)(hne:∀ j,j+1<c.length→(c.getD (j+1) ed0).id≠(c.getD j ed0).id)(hq:q<st.next)(hH:st.H q=.box 56 3 (eds c)):
 aF Tryz.prog 161 [.ms q 0 c.length,.fn (.func fid) caps] st fun r st'=>r=.ms q 0 c.length∧aB st st':=by
 have hel:=aO c
 refine qO aK Tryz.func161 rfl rfl Tryz.ntmps161 (rs:=[.tmp 4]) rfl (by simp) ?_
 by_cases h2:c.length<2
 ·have h2':(c.length:Int)<2:=by omega
  (repeat' (first|refine qS ?_|(refine qR ?_;simp only[ak,reduceIte];simp[h2',h2])|(refine qC ?_;simp[h2',h2])|(refine w_e [] ?_;intro J hJ;simp only[];simp[h2',h2];(refine hJ _ _ ?_;clear hJ J;simp only[ak,reduceIte]))))
  exact aB.refl _
 have h2':¬(c.length:Int)<2:=by omega
 (repeat' (first|refine qS ?_|refine qB ?_|(refine qK ?_;simp only[ak,reduceIte])|(refine qC ?_;simp[h2',h2])|(refine w_e [] ?_;intro J hJ;simp only[];simp[h2',h2];(refine hJ _ _ ?_;clear hJ J;simp only[ak,reduceIte]))))
 refine qL (fun z fr st2=>∃ k:Nat,0<k∧k≤c.length∧z=c.length-k∧fr 0=.ms q 0 c.length∧fr 1=.fn (.func fid) caps∧fr 5=i k∧aB st st2) (c.length-1) ?_ ?_
 ·exact⟨1,by omega,by omega,rfl,by simp,by simp,by simp,aB.refl _⟩
 rintro z fr st2 ⟨k,hk0,hkl,rfl,f0,f1,f5,hkp⟩ JJ hJJ
 by_cases hlt:k<c.length
 rotate_left
 ·clear hJJ
  (repeat' (first|refine qS ?_|(refine qX ?_;simp only[ak,reduceIte])|(refine qR ?_;simp only[ak,reduceIte];simp[f0,f5,hlt])|(refine qC ?_;simp[f0,f5,hlt])|(refine w_e [] ?_;intro J hJ;simp only[];simp[f0,f5,hlt];(refine hJ _ _ ?_;clear hJ J;simp only[ak,reduceIte]))))
  exact hkp
 obtain⟨k1,rfl⟩:∃ k1,k=k1+1:=⟨k-1,by omega⟩
 have hd:=bE c (k1+1) hlt
 have hd1:=bE c k1 (by omega)
 have w1:IntKind.i64.wrap (k1:Int)=(k1:Int):=wrap_i64 _ (by omega) (by omega)
 have w2':IntKind.i64.wrap ((k1:Int)+1+1)=(k1:Int)+1+1:=wrap_i64 _ (by omega) (by omega)
 have hkl1:k1<c.length:=by omega
 have hlt':(k1:Int)+1<c.length:=by omega
 have hn:=hne k1 hlt
 have hH2:=(hkp.H q hq).trans hH
 have hc:=heq.2 st2 (c.getD (k1+1) ed0) (c.getD k1 ed0) (heq.1 _ _ hPc hkp)
 rw[decide_eq_false hn]at hc
 generalize c.getD (k1+1) ed0=x at *
 generalize c.getD k1 ed0=y at *
 obtain⟨xi,xa,xb⟩:=x
 obtain⟨yi,ya,yb⟩:=y
 simp only at hd hd1 hn
 (repeat' (first|refine qS ?_|refine qB ?_|(refine qK ?_;simp only[ak,reduceIte])|(refine qC ?_;simp[f0,f5,hlt,hlt'])|(refine w_e [] ?_;intro J hJ;simp only[];simp[f0,f5,hlt,hlt'];(refine hJ _ _ ?_;clear hJ J;simp only[ak,reduceIte]))))
 (refine w_s [] [q] [(0,true),(1,true),(2,true),(3,true),(4,true),(5,true),(6,true),(7,true),(8,true),(9,true),(10,false)] ?_;intro J hJ;simp[f0,f1,f5,hlt,hlt',hd,hd1,w1,hkl1,hH2,hel];(repeat refine ca ?_))
 refine bF hc ?_;rintro r s3 ⟨rfl,hk3⟩
 have hH3:=(hk3.H q (Nat.lt_of_lt_of_le hq hkp.next)).trans hH2
 refine⟨fun _=>by simp[hH3,hH2],?_⟩
 (refine bN ?_;simp[hH3,hH2];(refine hJ _ _ ?_;clear hJ J;simp only[ak,reduceIte]))
 (repeat' (first|(refine qK ?_;simp only[ak,reduceIte])|(refine qC ?_;simp[f5,w2'])|(refine w_e [] ?_;intro J hJ;simp only[];simp[f5,w2'];(refine hJ _ _ ?_;clear hJ J;simp only[ak,reduceIte]))))
 exact hJJ (c.length-(k1+1+1)) _ _ (by omega) ⟨k1+1+1,by omega,by omega,rfl,by simp[f0],by simp[f1],by simp,hkp.trans hk3⟩
structure Sh where
 L:List (Int×Int)
 on:List Int
 F:List (List Int)
def tV(w:List Int):List Int:=(w.drop 1).take (w.length-2)
def aHW(h:Sh)(w:List Int)(at':Nat):Sh:=
 ⟨aFo h.L w,h.on++w,h.F.set at' (rE (h.F.getD at' []) ((h.F.getD at' []).idxOf (w.getD 0 0)) ((h.F.getD at' []).idxOf (w.getD (w.length-1) 0))++(tV w).reverse)++
   [rE (h.F.getD at' []) ((h.F.getD at' []).idxOf (w.getD (w.length-1) 0)) ((h.F.getD at' []).idxOf (w.getD 0 0))++tV w]⟩
theorem aCf(vs:List Int):∀(F:List (List Int)) (k:Nat) (R:List Int),k<F.length→(eN vs F).take (k*2)++([.sl 0 R.length (us R),wv (mk vs R)]++(eN vs F).drop (k*2+2))=eN vs (F.set k R)
 |r::F,0,R,_=>by simp[eN]
 |r::F,k+1,R,h=>by
  have:=aCf vs F k R (by simpa using h)
  rw[show(k+1)*2=k*2+2 by omega]
  simp only[eN,List.flatMap_cons,List.cons_append,List.nil_append,List.take_succ_cons,List.drop_succ_cons,List.set_cons_succ]at this ⊢
  rw[← this]
 |[],k,R,h=>by simp at h
theorem aGt(vs:List Int)(F:List (List Int))(R:List Int):eN vs F++[.sl 0 R.length (us R),wv (mk vs R)]=eN vs (F++[R]):=by simp[eN]
theorem aDT{r:List Int}{i j:Nat}{v:Int}(h:v∈rE r i j):v∈r:=by
 have:=List.mem_of_mem_drop (List.mem_of_mem_take h)
 rw[List.mem_append]at this
 exact this.elim id id
theorem aKt{w:List Int}{v:Int}(h:v∈tV w):v∈w:=List.mem_of_mem_drop (List.mem_of_mem_take h)
theorem xJ(w:List Int):(tV w).length=w.length-2:=by unfold tV;rw[List.length_take,List.length_drop];omega
theorem aNZ(w:List Int):((us w).drop 1).take (w.length-1-1)=us (tV w):=by
 unfold tV
 rw[us,← List.map_drop,← List.map_take,show w.length-1-1=w.length-2 by omega]
structure KM(M:List Nat)(a b:St):Prop where
 next:a.next≤b.next
 H:∀ l,l<a.next→l∉M→b.H l=a.H l
theorem KM.keeps{M:List Nat}{a b c:St}(h:KM M a b)(k:aB b c):KM M a c:=⟨Nat.le_trans h.next k.next,fun l hl hm=>(k.H l (Nat.lt_of_lt_of_le hl h.next)).trans (h.H l hl hm)⟩
theorem KM.set{M:List Nat}{a b:St}(h:KM M a b){q:Nat}(hq:a.next≤q∨q∈M)(o:aD):KM M a (b.set q o):=⟨h.next,fun l hl hm=>by
 rw[aE,if_neg (by rcases hq with h1|h1;(· omega);(· intro e;exact hm (by rw[e];exact h1)))];exact h.H l hl hm⟩
theorem KM.of{M:List Nat}{a b:St}(h:aB a b):KM M a b:=⟨h.next,fun l hl _=>h.H l hl⟩
set_option maxHeartbeats 4000000 in
theorem aQh{g:Gr}(hg:GP g){h:Sh}{S nl pl ll fl:Nat}{le:List (List Int×LV)}{st:St}(hS:ShA g h.L h.on h.F S nl pl ll fl le st){w:List Int}{at':Nat}(hat:at' < h.F.length)(hw2:2≤w.length)(hwl:w.length≤200)(hwv:∀ v∈w,v∈g.vs)
 (hrl:(h.F.getD at' []).length≤1000) (h1:w.getD 0 0∈h.F.getD at' []) (h2:w.getD (w.length-1) 0∈h.F.getD at' []) (hfew:h.F.length<300) (hpos:0<st.next):
 aF Tryz.prog 76 [.pt S 0,.sl 0 w.length (us w),i at'] st fun _ st'=>∃ fl' le',ShA g (aHW h w at').L (aHW h w at').on (aHW h w at').F S nl pl ll fl' le' st'∧(fl'=fl∨st.next≤fl')∧KM [S,ll,fl] st st':=by
 have h64:=hg.h64
 have hn:g.vs.Nodup:=hg.toGoodE.toGood.nodup
 have hSb:=hS.r.box
 have hF:=hS.fac
 have hlt:=hS.r.lt
 have hflt:=hS.flt
 have hfl:=lX g.vs h.F
 have hd:=nG g.vs h.F at' hat
 have hrv:∀ v∈h.F.getD at' [],v∈g.vs:=hS.sub _ (by rw[List.getD_eq_getElem?_getD,List.getElem?_eq_getElem hat];exact List.getElem_mem _)
 have hk2:at' * 2<h.F.length*2:=by omega
 have hati:(at':Int)<h.F.length:=by omega
 have hsetF:=fun R=>aCf g.vs h.F at' R hat
 unfold aHW
 generalize hr:h.F.getD at' []=r at *
 have hd0:=qG w 0 (by omega)
 have hdl:=qG w (w.length-1) (by omega)
 have hh0:hdL (us w)=u (w.getD 0 0):=by rw[show us w=(us w).drop 0 from rfl,hd0];rfl
 have g1:=aBH h1
 have g2:=aBH h2
 have hi1:=List.idxOf_lt_length_of_mem h1
 have hi2:=List.idxOf_lt_length_of_mem h2
 have hmid:(us w).tail.take (tV w).length=us (tV w):=by have:=aNZ w;rw[xJ,show w.length-2=w.length-1-1 by omega,← List.drop_one];exact this
 have hml2:w.length-1-1=(tV w).length:=by rw[xJ];omega
 have hml:=xJ w
 have hmm:∀ v∈tV w,v∈g.vs:=fun v hv=>hwv v (aKt hv)
 have hwi:IntKind.i64.wrap ((w.length:Int)-1)=((w.length-1:Nat):Int):=by rw[wrap_i64 _ (by omega) (by omega)];omega
 generalize w.getD 0 0=x0 at *
 generalize w.getD (w.length-1) 0=xl at *
 generalize r.idxOf x0=i0 at *
 generalize r.idxOf xl=il at *
 have hw0:(0:Int)<w.length:=by omega
 have hw1:((w.length-1:Nat):Int)<w.length:=by omega
 have hw3:w.length-1<w.length:=by omega
 have hw4:0<w.length:=by omega
 refine qO aK Tryz.func76 rfl rfl Tryz.ntmps76 (rs:=[]) rfl (by simp) ?_
 (repeat' (first|refine qS ?_|(refine w_e [] ?_;intro J hJ;simp only[];simp[hSb,hF,hd,hk2,hati,hat,hfl,hw0,hw4,hh0];(try (refine hJ _ _ ?_;clear hJ J;simp only[ak,reduceIte])))))
 refine qE (Index r 0 x0 _ (by unfold small;omega)) (by simp) ?_;rintro v s1 ⟨rfl,e1⟩
 rw[e1];clear e1 s1
 have hms:((w.length-1:Nat):Int)=(w.length:Int)-1:=by omega
 have hm1:(1:Int)≤((w.length-1:Nat):Int):=by omega
 have hm2:1≤w.length-1:=by omega
 (repeat' (first|refine qS ?_|((first|(refine w_e [] ?_;intro J hJ;simp only[])|(refine aL ?_));simp[g1,hwi,hw1,hw3,hdl];(try (refine hJ _ _ ?_;clear hJ J;simp only[ak,reduceIte])))))
 refine qE (Index r 0 xl _ (by unfold small;omega)) (by simp) ?_;rintro v s1 ⟨rfl,e1⟩
 rw[e1];clear e1 s1
 generalize tV w=m at *
 have hmle:m.length≤200:=by omega
 (repeat' (first|refine qS ?_|((first|(refine w_e [] ?_;intro J hJ;simp only[])|(refine aL ?_));simp[g2,hwi,hw1,hw3,hm1,hm2,hml2,hmid];(try (refine hJ _ _ ?_;clear hJ J;simp only[ak,reduceIte])))))
 refine qE (aBe m 0 _ (by omega)) (by simp) ?_;rintro v s1 ⟨q,rfl,q1,q2,hq,hk1⟩
 (repeat' (first|refine qS ?_|((first|(refine w_e [] ?_;intro J hJ;simp only[])|(refine aL ?_));simp[];(try (refine hJ _ _ ?_;clear hJ J;simp only[ak,reduceIte])))))
 refine qE (uO m q s1 (by unfold small;omega) hq) (by simp) ?_;rintro v s2 e2
 have hk2':aB st s2:=by rw[e2];exact hk1.set q1 _
 have hn2:s1.next=s2.next:=by rw[e2];rfl
 have hq2:s2.H q=.box 34 1 (us m.reverse):=by rw[e2];simp
 clear e2 hk1 hq
 have hS2:=hS.keep hk2'
 have n0:¬pl=ll:=fun e=>by have h3:=hS.r.plc;rw[e,hS.r.lin]at h3;cases h3
 (repeat' (first|refine qS ?_|((first|(refine w_e [] ?_;intro J hJ;simp only[])|(refine aL ?_));simp[];(try (refine hJ _ _ ?_;clear hJ J;simp only[ak,reduceIte])))))
 refine qE (aJK hS2.r.box hS2.r.plc hS2.r.lin hS2.r.key n0 hn h64 w 0 hwv (by omega)) (by simp) ?_;rintro v s3 ⟨le',e3,hkey⟩
 have hn3:s3.next=s2.next:=by rw[e3];rfl
 have m1:¬fl=S:=fun e=>by have h3:=hS.fac;rw[e,hS.r.box]at h3;cases h3
 have m2:¬fl=ll:=fun e=>by have h3:=hS.fac;rw[e,hS.r.lin]at h3;cases h3
 have m3:¬ll=S:=fun e=>by have h3:=hS.r.lin;rw[e,hS.r.box]at h3;cases h3
 have m4:¬nl=S:=fun e=>by have h3:=hS.r.near;rw[e,hS.r.box]at h3;cases h3
 have m5:¬nl=ll:=fun e=>by have h3:=hS.r.near;rw[e,hS.r.lin]at h3;cases h3
 have m6:¬nl=fl:=fun e=>by have h3:=hS.r.near;rw[e,hS.fac]at h3;cases h3
 have m7:¬pl=S:=fun e=>by have h3:=hS.r.plc;rw[e,hS.r.box]at h3;cases h3
 have m8:¬pl=fl:=fun e=>by have h3:=hS.r.plc;rw[e,hS.fac]at h3;cases h3
 have hn2':=hk2'.next
 have hSb3:s3.H S=.box 119 7 [.sl 0 g.vs.length (us g.vs),.sl 0 g.es.length (eds g.es),.ms nl 0 g.vs.length,.mp pl,.mp ll,wv (mk g.vs (h.on++w)),.ms fl 0 h.F.length]:=by rw[e3];simp
 have hP3:s3.H pl=.map false [.u32] (rI g.vs):=by rw[e3];simp[m7,n0,hS2.r.plc]
 have hL3:s3.H ll=.map true [.u32,.u32] le':=by rw[e3];simp[m3]
 have hN3:s3.H nl=.box 116 1 (iU g):=by rw[e3];simp[m4,m5,hS2.r.near]
 have hF3:s3.H fl=.box 127 2 (eN g.vs h.F):=by rw[e3];simp[m1,m2,hS2.fac]
 have hq3:s3.H q=.box 34 1 (us m.reverse):=by rw[e3];simp[show ¬q=S by omega,show ¬q=ll by omega,hq2]
 have hK3:KM [S,ll,fl] st s3:=by rw[e3];exact((KM.of hk2').set (.inr (by simp)) _).set (.inr (by simp)) _
 clear e3 hS2 hq2
 have hb3:ShB g.vs S pl s3:=⟨⟨_,_,_,_,_,_,hSb3⟩,hP3⟩
 (refine aL ?_;simp[];(refine hJ _ _ ?_;clear hJ J;simp only[ak,reduceIte]))
 (repeat (refine qS ?_))
 (refine w_s [] [S] [(0,true),(1,true),(2,true),(3,true),(4,true),(5,true),(6,true),(7,true),(8,true),(10,true),(9,true),(11,true),(12,true),(13,true),(14,false)] ?_;intro J hJ;simp[hSb3])
 refine qD (aOU r i0 il s3 hi1 hi2 hrl (by omega)) (by simp) ?_;rintro v s4 ⟨⟨t,rfl,t0,t1,t2,tH⟩,hk4⟩
 refine⟨fun _ l hl=>?_,?_⟩
 ·rw[List.mem_singleton]at hl;rw[hl];exact hk4.H S (by omega)
 have hal:=xH r i0 il hi1 hi2
 have hsl:=uE hi1 hi2
 have hn4:=hk4.next
 have hq4:=(hk4.H q (by omega)).trans hq3
 have c1:¬q=t:=by omega
 have c2:¬t=q:=by omega
 have hAv:∀ v∈rE r i0 il++m.reverse,v∈g.vs:=fun v hv=>by
  rw[List.mem_append,List.mem_reverse]at hv
  exact hv.elim (fun h=>hrv v (aDT h)) (hmm v)
 have hSb4:=(hk4.H S (by omega)).trans hSb3
 have hP4:=(hk4.H pl (by omega)).trans hP3
 have hF4:=(hk4.H fl (by omega)).trans hF3
 generalize rE r i0 il=A1 at *
 (refine bN ?_;simp[tH,t0,hq4,c1,c2];(repeat refine ca ?_))
 have c3:¬S=s4.next:=by omega
 have c4:¬S=t:=by omega
 refine⟨(if_neg c3).trans ((if_neg c4).trans (hk4.H S (by omega))),?_⟩
 have hk4':aB s3 ((s4.set t aD.dead).new (.own 34 1 (A1.length+m.length))):=(hk4.set t1 _).trans (aB.new _ _)
 have hn4':((s4.set t aD.dead).new (.own 34 1 (A1.length+m.length))).next=s4.next+1:=by simp
 generalize hs5:(s4.set t aD.dead).new (.own 34 1 (A1.length+m.length))=s5 at *
 have hSb5:=(hk4'.H S (by omega)).trans hSb3
 have hP5:=(hk4'.H pl (by omega)).trans hP3
 have hF5:=(hk4'.H fl (by omega)).trans hF3
 refine qD (aIx (vs:=g.vs) (S:=S) (pl:=pl) ⟨⟨_,_,_,_,_,_,hSb5⟩,hP5⟩ (by omega) (by omega) hn h64 (A1++m.reverse) s4.next hAv (by simp;omega)) (by simp) ?_;rintro v s6 ⟨rfl,e6⟩
 rw[e6];clear e6 s6
 refine⟨fun _ l hl=>?_,?_⟩
 ·rw[List.mem_singleton]at hl;rw[hl];exact hk4'.H S (by omega)
 (refine bN ?_;simp[hF5,hat,hati,hk2,hfl];(repeat refine ca ?_);(refine hJ _ _ ?_;clear hJ J;simp only[ak,reduceIte]))
 have hcell:(eN g.vs h.F).take (at' * 2)++LV.sl 0 (A1.length+m.length) (List.map u A1++(List.map u m).reverse)::wv (mk g.vs (A1++m.reverse))::(eN g.vs h.F).drop (at' * 2+2)=eN g.vs (h.F.set at' (A1++m.reverse)):=by
  have:=hsetF (A1++m.reverse)
  simpa using this
 rw[hcell]
 clear hcell
 have hFl:(h.F.set at' (A1++m.reverse)).length=h.F.length:=by simp
 have hFs:∀ r∈h.F.set at' (A1++m.reverse),∀ v∈r,v∈g.vs:=fun r hr v hv=>by
  rcases List.mem_or_eq_of_mem_set hr with h1|h1
  ·exact hS.sub r h1 v hv
  ·rw[h1]at hv;exact hAv v hv
 have hK5:KM [S,ll,fl] st (s5.set fl (.box 127 2 (eN g.vs (h.F.set at' (A1++m.reverse))))):=(hK3.keeps hk4').set (.inr (by simp)) _
 have hL5:=(hk4'.H ll (by omega)).trans hL3
 have hN5:=(hk4'.H nl (by omega)).trans hN3
 generalize hF':h.F.set at' (A1++m.reverse)=F1 at *
 have n7:¬S=fl:=fun e=>m1 e.symm
 have n8:¬ll=fl:=fun e=>m2 e.symm
 generalize hs7:s5.set fl (.box 127 2 (eN g.vs F1))=s7 at *
 have hn7:s7.next=s5.next:=by rw[← hs7];rfl
 have hSb7:s7.H S=.box 119 7 [.sl 0 g.vs.length (us g.vs),.sl 0 g.es.length (eds g.es),.ms nl 0 g.vs.length,.mp pl,.mp ll,wv (mk g.vs (h.on++w)),.ms fl 0 h.F.length]:=by rw[← hs7,aE,if_neg n7];exact hSb5
 have hP7:s7.H pl=.map false [.u32] (rI g.vs):=by rw[← hs7,aE,if_neg m8];exact hP5
 have hL7:s7.H ll=.map true [.u32,.u32] le':=by rw[← hs7,aE,if_neg n8];exact hL5
 have hN7:s7.H nl=.box 116 1 (iU g):=by rw[← hs7,aE,if_neg m6];exact hN5
 have hF7:s7.H fl=.box 127 2 (eN g.vs F1):=by rw[← hs7];simp
 clear hs7 hSb5 hP5 hF5 hL5 hN5 hSb4 hP4 hF4 hSb3 hP3 hF3 hL3 hN3 hk4' hk4 hs5 tH t0 t1 t2 hq4 hq3 hb3
 have hFl7:=lX g.vs F1
 (repeat (refine qS ?_))
 (refine w_s [] [S] [(0,true),(1,true),(2,true),(3,true),(4,true),(5,true),(6,true),(7,true),(8,true),(10,true),(9,true),(11,true),(12,true),(13,true),(14,false),(15,true),(16,true),(17,false)] ?_;intro J hJ;simp[hSb7])
 refine qD (aOU r il i0 s7 hi2 hi1 hrl (by omega)) (by simp) ?_;rintro v s8 ⟨⟨t',rfl,t0,t1,t2,tH⟩,hk8⟩
 refine⟨fun _ l hl=>?_,?_⟩
 ·rw[List.mem_singleton]at hl;rw[hl];exact hk8.H S (by omega)
 have hal2:=xH r il i0 hi2 hi1
 have hsl2:=uE hi2 hi1
 have hn8:=hk8.next
 have d1:¬S=s8.next:=by omega
 have d2:¬S=t':=by omega
 have hBv:∀ v∈rE r il i0++m,v∈g.vs:=fun v hv=>by
  rw[List.mem_append]at hv
  exact hv.elim (fun h=>hrv v (aDT h)) (hmm v)
 generalize rE r il i0=A2 at *
 (refine bN ?_;simp[tH,t0];(repeat refine ca ?_))
 refine⟨(if_neg d1).trans ((if_neg d2).trans (hk8.H S (by omega))),?_⟩
 have hk8':aB s7 ((s8.set t' aD.dead).new (.own 34 1 (A2.length+m.length))):=(hk8.set t1 _).trans (aB.new _ _)
 have hn8':((s8.set t' aD.dead).new (.own 34 1 (A2.length+m.length))).next=s8.next+1:=by simp
 generalize hs9:(s8.set t' aD.dead).new (.own 34 1 (A2.length+m.length))=s9 at *
 have hSb9:=(hk8'.H S (by omega)).trans hSb7
 have hP9:=(hk8'.H pl (by omega)).trans hP7
 have hF9:=(hk8'.H fl (by omega)).trans hF7
 have hL9:=(hk8'.H ll (by omega)).trans hL7
 have hN9:=(hk8'.H nl (by omega)).trans hN7
 refine qD (aIx (vs:=g.vs) (S:=S) (pl:=pl) ⟨⟨_,_,_,_,_,_,hSb9⟩,hP9⟩ (by omega) (by omega) hn h64 (A2++m) s8.next hBv (by simp;omega)) (by simp) ?_;rintro v s6 ⟨rfl,e6⟩
 rw[e6];clear e6 s6
 refine⟨fun _ l hl=>?_,?_⟩
 ·rw[List.mem_singleton]at hl;rw[hl];exact hk8'.H S (by omega)
 have z1:¬fl=s9.next:=by omega
 have z2:¬S=s9.next:=by omega
 have z3:¬S=s9.next+1:=by omega
 have z4:¬s9.next=fl:=by omega
 (refine bN ?_;simp[hF9,hSb9,hFl,hFl7,z1,z2,z3,z4,n7,m1])
 refine⟨hSb7.symm,⟨by omega,by unfold maxLen;omega⟩,hJ _ _ ?_⟩
 clear hJ J
 simp only[ak]
 have hfs:eN g.vs F1++[LV.sl 0 (A2.length+m.length) (List.map u A2++List.map u m),wv (mk g.vs (A2++m))]=eN g.vs (F1++[A2++m]):=by
  have:=aGt g.vs F1 (A2++m)
  simpa using this
 have hFl2:(F1++[A2++m]).length=h.F.length+1:=by rw[List.length_append,hFl];rfl
 rw[hfs,← hFl2]
 clear hfs
 skip
 simp only[tK]
 have hs10:KM [S,ll,fl] st ((((s9.new (.own 127 2 1)).set fl .dead).new (.box 127 2 (eN g.vs (F1++[A2++m])))).set S (.box 119 7 [.sl 0 g.vs.length (us g.vs),.sl 0 g.es.length (eds g.es),.ms nl 0 g.vs.length,.mp pl,.mp ll,wv (mk g.vs (h.on++w)),.ms (s9.next+1) 0 (F1++[A2++m]).length])):=by
  have:=(((hK5.keeps hk8').keeps (aB.new _ (.own 127 2 1))).set (q:=fl) (.inr (by simp)) .dead)
  exact(this.keeps (aB.new _ _)).set (.inr (by simp)) _
 refine⟨trivial,s9.next+1,le',⟨⟨by simp,?_,?_,?_,hkey,?_⟩,?_,by simp,?_,?_,by rw[hFl2];omega⟩,.inr (by have:=(hK5.keeps hk8').next;omega),hs10⟩
 ·(repeat (first|rw[aG,if_neg (α:=aD) (by(try simp only[aC,aA]);omega)]|rw[aE,if_neg (α:=aD) (by omega)]|rw[aG,if_pos (α:=aD) (by(try simp only[aC,aA]))]|rw[aE,if_pos (α:=aD) (by omega)]));exact hN9
 ·(repeat (first|rw[aG,if_neg (α:=aD) (by(try simp only[aC,aA]);omega)]|rw[aE,if_neg (α:=aD) (by omega)]|rw[aG,if_pos (α:=aD) (by(try simp only[aC,aA]))]|rw[aE,if_pos (α:=aD) (by omega)]));exact hP9
 ·(repeat (first|rw[aG,if_neg (α:=aD) (by(try simp only[aC,aA]);omega)]|rw[aE,if_neg (α:=aD) (by omega)]|rw[aG,if_pos (α:=aD) (by(try simp only[aC,aA]))]|rw[aE,if_pos (α:=aD) (by omega)]));exact hL9
 ·simp only[aC,aA];omega
 ·(repeat (first|rw[aG,if_neg (α:=aD) (by(try simp only[aC,aA]);omega)]|rw[aE,if_neg (α:=aD) (by omega)]|rw[aG,if_pos (α:=aD) (by(try simp only[aC,aA]))]|rw[aE,if_pos (α:=aD) (by omega)]))
 ·intro r hr v hv
  rw[List.mem_append,List.mem_singleton]at hr
  rcases hr with hr|hr
  ·exact hFs r hr v hv
  ·rw[hr]at hv;exact hBv v hv
 ·intro v hv
  rw[List.mem_append]at hv
  exact hv.elim (hS.onv v) (hwv v)
end Go.Proofs.YtempldclppogmaaGreatDoor.Aw
