/- Rows of edges, in place: the insertion sort by numbers. -/
import Derived.Test.YtkcokoefodgigaaGreatJf
namespace Go.Proofs.YtkcokoefodgigaaGreat.Aw
open Go Go.RowKit Go.Proofs.YtkcokoefodgigaaGreat.Pl
set_option linter.unusedSimpArgs false
set_option linter.unusedVariables false
def cmpK (x y:Ed):Int:=if x.id < y.id then -1 else if y.id < x.id then 1 else 0
theorem cmpK_neg (x y:Ed):decide (cmpK x y < 0)=decide (x.id < y.id):=by
 unfold cmpK
 by_cases h:x.id < y.id
 ·simp [h]
 ·rw [if_neg h]
  by_cases h2:y.id < x.id<;>simp [h,h2]
structure CmpAt (fid:FuncId) (caps:List LV) (q:Nat) (Pc:St→Prop):Prop where
 keep:∀ st st',Pc st→OffS q st st'→Pc st'
 call:∀ st x y,Pc st→ACalls Tryz.prog fid ([.ag (edL x),.ag (edL y)]++caps) st fun r st'=>r=i (cmpK x y)∧Keeps st st'
def Ris (l:List Ed):Prop:=l.Pairwise fun x y=>x.id≤y.id
theorem get_at (U:List Ed) (x:Ed) (W:List Ed) {j:Nat} (hj:j=U.length):(U++x::W).getD j ed0=x:=by subst hj;exact getD_mid _ _ _
theorem set_at (U:List Ed) (x y:Ed) (W:List Ed) {j:Nat} (hj:j=U.length):(U++x::W).set j y=U++y::W:=by subst hj;exact set_mid _ _ _ _
def InsP (P X S:List Ed) (q:Nat) (st:St) (r:LV) (st':St):Prop:=∃ Y,Y.Perm X∧Ris Y∧st'.H q=.box 34 3 (eds (P++Y++S))∧OffS q st st'
theorem ris_ins {A B:List Ed} {x:Ed} (h:Ris (A++B)) (h1:∀ y∈A,y.id≤x.id) (h2:∀ y∈B,x.id≤y.id):Ris (A++x::B):=by
 unfold Ris at h ⊢
 rw [List.pairwise_append] at h ⊢
 refine ⟨h.1,List.pairwise_cons.2 ⟨h2,h.2.1⟩,fun a ha b hb=>?_⟩
 rcases List.mem_cons.1 hb with rfl | hb
 ·exact h1 a ha
 ·exact h.2.2 a ha b hb
theorem ris_last {A:List Ed} {y:Ed} (h:Ris (A++[y])):∀ a∈A,a.id≤y.id:=by
 unfold Ris at h
 rw [List.pairwise_append] at h
 exact fun a ha=>h.2.2 a ha y (by simp)
set_option maxHeartbeats 1000000 in
theorem insSort (P X S:List Ed) (q:Nat) (fid:FuncId) (caps:List LV) (Pc:St→Prop) (st:St) (hcmp:CmpAt fid caps q Pc) (hPc:Pc st) (hq:q < st.next) (hl:(P++X++S).length≤100000) (hH:st.H q=.box 34 3 (eds (P++X++S))):
 ACalls Tryz.prog 82 [.ms q 0 (P++X++S).length,i P.length,i (P.length+X.length:Nat),.fn (.func fid) caps] st (InsP P X S q st):=by
 generalize hL:(P++X++S).length=L at *
 have hLl:L=P.length+X.length+S.length:=by rw [← hL];simp only [List.length_append]
 generalize hp:P.length=p at *
 have wp:IntKind.i64.wrap ((p:Int)+1)=((p+1:Nat):Int):=by rw [wrap_s _ (by omega) (by omega)];omega
 refine qO tabOk Tryz.func82 rfl rfl Tryz.ntmps82 (rs:=[]) rfl (by simp) ?_
 (repeat' (first | refine qS ?_ | refine qB ?_ | (refine w_e [] ?_;intro J hJ;simp only [];simp [wp];(refine hJ _ _ ?_;clear hJ J;simp only [ak,reduceIte]))))
 refine qL (fun z fr st2=>∃ Y Z:List Ed,Z.length≤z∧fr 0=.ms q 0 L∧fr 1=i p∧fr 2=i (p+X.length:Nat)∧fr 3=.fn (.func fid) caps∧(X=[]∧Y=[]∧fr 8=i (p+1:Nat)∨Y≠[]∧fr 8=i (p+Y.length:Nat))∧(Y++Z).Perm X∧Ris Y∧st2.H q=.box 34 3 (eds (P++Y++Z++S))∧OffS q st st2) X.length ?_ ?_
 ·cases X with
  | nil=>exact ⟨[],[],by simp,by simp,by simp,by simp,by simp,.inl ⟨rfl,rfl,by simp⟩,.refl _,.nil,by simpa using hH,OffS.refl _ _⟩
  | cons x X => 
    refine ⟨[x],X,by simp,by simp,by simp,by simp,by simp,.inr ⟨by simp,by simp⟩,.refl _,List.pairwise_singleton _ _,?_,OffS.refl _ _⟩
    rw [hH];simp
 rintro z fr st2 ⟨Y,Z,hz,f0,f1,f2,f3,f8,hpm,hris,hB,hoff⟩ JJ hJJ
 have hpl:=hpm.length_eq
 simp only [List.length_append] at hpl
 cases Z with
 | nil=>
   clear hJJ
   simp only [List.length_nil,Nat.add_zero] at hpl
   rw [List.append_nil] at hpm hB
   have hex:∃ e:Nat,fr 8=i e∧¬ ((e:Int) < (p+X.length:Nat)):=by
    rcases f8 with ⟨h1,h2,h3⟩ | ⟨h1,h2⟩
    ·exact ⟨p+1,h3,by rw [h1];simp;omega⟩
    ·exact ⟨p+Y.length,h2,by rw [hpl];omega⟩
   obtain ⟨e,g8,he⟩:=hex
   (repeat' (first | refine qS ?_ | (refine qX ?_;simp only [ak,reduceIte]) | (refine qC ?_;simp [f2,g8,he];(try with_reducible refine ⟨?_,?_⟩)<;>(try with_reducible intro hc)<;>try (exfalso;omega)) | (refine w_e [] ?_;intro J hJ;simp only [];simp [f2,g8,he];(refine hJ _ _ ?_;clear hJ J;simp only [ak,reduceIte]))))
   simp
   exact ⟨Y,hpm,hris,hB,hoff⟩
 | cons x Z=>
 have hYne:Y≠[]∧fr 8=i (p+Y.length:Nat):=by
  rcases f8 with ⟨h1,h2,h3⟩ | h
  ·subst h1;simp at hpl
  ·exact h
 obtain ⟨hYn,g8⟩:=hYne
 clear f8
 have hY0:=List.length_pos_iff.2 hYn
 simp only [List.length_cons] at hpl hz
 have hlt:(((p+Y.length:Nat):Int)) < ((p+X.length:Nat):Int):=by omega
 (repeat' (first | refine qS ?_ | refine qB ?_ | (refine qK ?_;simp only [ak,reduceIte]) | (refine qC ?_;simp [f2,g8,hlt];(try with_reducible refine ⟨?_,?_⟩)<;>(try with_reducible intro hc)<;>try (exfalso;omega)) | (refine w_e [] ?_;intro J hJ;simp only [];simp [f2,g8,hlt];(refine hJ _ _ ?_;clear hJ J;simp only [ak,reduceIte]))))
 refine qL (fun z fr st3=>∃ A B:List Ed,z=A.length∧A++B=Y∧(∀ y∈B,x.id≤y.id)∧fr 0=.ms q 0 L∧fr 1=i p∧fr 2=i (p+X.length:Nat)∧fr 3=.fn (.func fid) caps∧fr 8=i (p+Y.length:Nat)∧fr 9=i (p+A.length:Nat)∧st3.H q=.box 34 3 (eds (P++A++x::(B++Z++S)))∧OffS q st st3) Y.length ?_ ?_
 ·exact ⟨Y,[],rfl,by simp,by simp,by simp [f0],by simp [f1],by simp [f2],by simp [f3],by simp [g8],by simp,by rw [hB];simp,hoff⟩
 clear f0 f1 f2 f3 g8 hB hoff fr st2
 rintro z' fr st3 ⟨A,B,rfl,rfl,hxB,f0,f1,f2,f3,f8,f9,hB,hoff⟩ J2 hJ2
 have hP3:=hcmp.keep _ _ hPc hoff
 have hfin:(∀ y∈A,y.id≤x.id)→Ris (A++x::B):=fun h1=>ris_ins hris h1 hxB
 have hpm2:((A++x::B)++Z).Perm X:=by
  refine List.Perm.trans ?_ hpm
  rw [List.append_assoc,List.append_assoc]
  refine List.Perm.append_left A ?_
  rw [List.cons_append]
  exact List.perm_middle.symm
 have hAB:(A++x::B).length=(A++B).length+1:=by simp;omega
 simp only [List.length_append] at hpl hY0
 have w8:IntKind.i64.wrap (((p+(A++B).length:Nat):Int)+1)=((p+(A++x::B).length:Nat):Int):=by rw [hAB,wrap_s _ (by simp only [List.length_append];omega) (by simp only [List.length_append];omega)];omega
 have hnext:∀ fr' st4,(fr' 0=.ms q 0 L∧fr' 1=i p∧fr' 2=i (p+X.length:Nat)∧fr' 3=.fn (.func fid) caps∧fr' 8=i (p+(A++x::B).length:Nat))→(∀ y∈A,y.id≤x.id)→st4.H q=.box 34 3 (eds (P++A++x::(B++Z++S)))→OffS q st st4→JJ fr' st4:=by
  rintro fr' st4 ⟨g0,g1,g2,g3,g8⟩ h1 h2 h3
  refine hJJ Z.length _ _ (by omega) ⟨A++x::B,Z,Nat.le_refl _,g0,g1,g2,g3,.inr ⟨by simp,g8⟩,hpm2,hfin h1,?_,h3⟩
  rw [h2];simp
 have hrisA:Ris A:=by
  unfold Ris at hris ⊢
  exact (List.pairwise_append.1 hris).1
 clear hJJ hfin hpm2 hpm hris hAB
 generalize (A++B).length=lab at *
 generalize (A++x::B).length=laxb at *
 have w8':IntKind.i64.wrap ((p:Int)+lab+1)=(p:Int)+laxb:=by have h:=w8;rw [Int.natCast_add,Int.natCast_add] at h;exact h
 rcases List.eq_nil_or_concat A with rfl | ⟨W,y,hWy⟩
 ·simp only [List.length_nil,Nat.add_zero] at f9
  (repeat' refine qS ?_)
  (refine w_s [] [q] [(0,true),(1,true),(2,true),(3,true),(4,true),(5,true),(6,true),(7,true),(8,true),(9,true),(10,true),(11,true),(12,true),(13,true),(14,false),(15,true),(16,true)] ?_;intro J hJ;simp [f0,f1,f3,f9];(refine hJ _ _ ?_;clear hJ J;simp only [ak,reduceIte]))
  (repeat' (first | (refine qX ?_;simp only [ak,reduceIte]) | (refine qC ?_;simp [f8,w8']) | (refine w_e [] ?_;intro J hJ;simp only [];simp [f8,w8'];(refine hJ _ _ ?_;clear hJ J;simp only [ak,reduceIte]))))
  exact hnext _ _ ⟨by simp [f0],by simp [f1],by simp [f2],by simp [f3],by simp⟩ (by simp) hB hoff
 rw [List.concat_eq_append] at hWy
 subst hWy
 have hWl:(W++[y]).length=W.length+1:=by simp
 rw [hWl,← Nat.add_assoc] at f9
 have hce:P++(W++[y])++x::(B++Z++S)=(P++W)++y::x::(B++Z++S):=by simp
 have hUl:(P++W).length=p+W.length:=by simp [hp]
 have hcl:((P++W)++y::x::(B++Z++S)).length=L:=by
  simp only [List.length_append,List.length_cons,List.length_nil,hp] at hpl hz ⊢
  omega
 rw [hce] at hB hnext
 have g1:=get_at (P++W) y (x::(B++Z++S)) (j:=p+W.length) hUl.symm
 have g2:((P++W)++y::x::(B++Z++S)).getD (p+W.length+1) ed0=x:=by
  rw [show (P++W)++y::x::(B++Z++S)=(P++W++[y])++x::(B++Z++S) by simp]
  exact get_at _ _ _ (by simp [hp];omega)
 have s1:(((P++W)++y::x::(B++Z++S)).set (p+W.length+1) y).set (p+W.length) x=P++W++x::(y::B++Z++S):=by
  rw [show (P++W)++y::x::(B++Z++S)=(P++W++[y])++x::(B++Z++S) by simp,set_at _ _ _ _ (by simp [hp];omega)]
  rw [show (P++W++[y])++y::(B++Z++S)=(P++W)++y::(y::(B++Z++S)) by simp,set_at _ _ _ _ hUl.symm]
  simp
 have hstep:x.id < y.id→∀ y'∈y::B,x.id≤y'.id:=fun h1 y' hy'=>by
  rcases List.mem_cons.1 hy' with rfl | h2
  ·omega
  ·exact hxB y' h2
 have hstop:¬ x.id < y.id→∀ y'∈W++[y],y'.id≤x.id:=fun h1 y' hy'=>by
  rcases List.mem_append.1 hy' with h2 | h2
  ·have:=ris_last (hrisA) y' h2;omega
  ·rw [List.mem_singleton] at h2;subst h2;omega
 generalize (P++W)++y::x::(B++Z++S)=c at *
 generalize hjx:p+W.length=jx at *
 have hel:=eds_length c
 have da:=eds_drop c (jx+1) (by omega)
 have db:=eds_drop c jx (by omega)
 rw [g2] at da
 rw [g1] at db
 have wj:IntKind.i64.wrap (((jx+1:Nat):Int) - 1)=(jx:Int):=by rw [wrap_s _ (by omega) (by omega)];omega
 obtain ⟨xi,xa,xb⟩:=x
 obtain ⟨yi,ya,yb⟩:=y
 simp only at da db hstep hstop
 have hgt:(p:Int) < (jx:Int)+1:=by omega
 have hcm:=hcmp.call st3 ⟨xi,xa,xb⟩ ⟨yi,ya,yb⟩ hP3
 have hneg:=cmpK_neg ⟨xi,xa,xb⟩ ⟨yi,ya,yb⟩
 simp only at hneg
 generalize cmpK ⟨xi,xa,xb⟩ ⟨yi,ya,yb⟩=cv at *
 have wj':IntKind.i64.wrap (jx:Int)=(jx:Int):=wrap_s _ (by omega) (by omega)
 have hA4:jx+1 < L:=by omega
 have hB4:jx < L:=by omega
 (repeat' refine qS ?_)
 (refine w_s [] [q] [(0,true),(1,true),(2,true),(3,true),(4,true),(5,true),(6,true),(7,true),(8,true),(9,true),(10,true),(11,true),(12,true),(13,true),(14,false),(15,true),(16,true)] ?_;intro J hJ;simp [f0,f1,f3,f9,hgt,hB,da,db,hel,hcl,wj'];(repeat refine ca ?_))
 refine dcallK_of hcm ?_;rintro r s4 ⟨rfl,hk4⟩
 have hq3:q < st3.next:=by have:=hoff.1;omega
 have hB4':=(hk4.H q hq3).trans hB
 have hoff4:=hoff.keeps hk4
 refine ⟨fun _=>by simp [hB4',hB],?_⟩
 by_cases hlt3:xi < yi
 ·have hcv:cv < 0:=by rw [decide_eq_true hlt3] at hneg;exact of_decide_eq_true hneg
  (refine d_go ?_;simp [hcv,hB4',hB];(refine hJ _ _ ?_;clear hJ J;simp only [ak,reduceIte]))
  (repeat' (first | refine qS ?_ | refine qB ?_ | (refine qK ?_;simp only [ak,reduceIte]) | (refine qC ?_;simp [])))
  (refine w_s [] [q] [(0,true),(1,true),(2,true),(3,true),(4,true),(5,true),(6,true),(7,true),(8,true),(9,true),(10,true),(11,true),(12,true),(13,true),(14,true),(15,false),(16,true),(17,false)] ?_;intro J hJ;simp [f0,f9,hB4',da,db,hel,hcl,wj'];(repeat refine ca ?_);(refine hJ _ _ ?_;clear hJ J;simp only [ak,reduceIte]))
  have e1:=eds_set c (jx+1) ⟨yi,ya,yb⟩ (by omega)
  have e2:=eds_set (c.set (jx+1) ⟨yi,ya,yb⟩) jx ⟨xi,xa,xb⟩ (by simp;omega)
  simp only at e1 e2
  rw [e1,e2,s1,St.set_set]
  (repeat' (refine w_e [] ?_;intro J hJ;simp only [];simp [f9,wj'];(refine hJ _ _ ?_;clear hJ J;simp only [ak,reduceIte])))
  refine hJ2 W.length _ _ (by simp) ⟨W,⟨yi,ya,yb⟩::B,rfl,by simp,hstep hlt3,by simp [f0],by simp [f1],by simp [f2],by simp [f3],by simp [f8],by simp [hjx],?_,hoff4.set _⟩
  simp
 ·have hcv:¬ cv < 0:=by rw [decide_eq_false hlt3] at hneg;exact of_decide_eq_false hneg
  (refine d_go ?_;simp [hcv,hB4',hB];(refine hJ _ _ ?_;clear hJ J;simp only [ak,reduceIte]))
  (repeat' (first | (refine qX ?_;simp only [ak,reduceIte]) | (refine qC ?_;simp [f8,w8']) | (refine w_e [] ?_;intro J hJ;simp only [];simp [f8,w8'];(refine hJ _ _ ?_;clear hJ J;simp only [ak,reduceIte]))))
  exact hnext _ _ ⟨by simp [f0],by simp [f1],by simp [f2],by simp [f3],by simp⟩ (hstop hlt3) hB4' hoff4
theorem ris_get {l:List Ed} (h:Ris l) {j k:Nat} (hjk:j≤k) (hk:k < l.length):(l.getD j ed0).id≤(l.getD k ed0).id:=by
 rw [getDE _ _ hk,getDE _ _ (by omega)]
 rcases Nat.lt_or_ge j k with h1 | h1
 ·exact List.pairwise_iff_getElem.1 h j k (by omega) hk h1
 ·obtain rfl:j=k:=by omega
  exact Int.le_refl _
structure Cut (A B:List Ed) (s e:Nat):Prop where
 hs:s≤A.length
 he:e≤B.length
 ab:s=0∨e=B.length∨(A.getD (s - 1) ed0).id≤(B.getD e ed0).id
 ba:e=0∨s=A.length∨(B.getD (e - 1) ed0).id≤(A.getD s ed0).id
theorem Cut.le {A B:List Ed} (hA:Ris A) (hB:Ris B) {s e:Nat} (h:Cut A B s e):∀ x∈A.take s++B.take e,∀ y∈A.drop s++B.drop e,x.id≤y.id:=by
 intro x hx y hy
 obtain ⟨h1,h2,h3,h4⟩:=h
 rw [List.mem_append] at hx hy
 rcases hx with hx | hx<;>rcases hy with hy | hy
 ·obtain ⟨j,hj,rfl⟩:=List.getElem_of_mem hx
  obtain ⟨k,hk,rfl⟩:=List.getElem_of_mem hy
  simp only [List.length_take,List.length_drop] at hj hk
  rw [List.getElem_take,List.getElem_drop]
  exact List.pairwise_iff_getElem.1 hA j (s+k) (by omega) (by omega) (by omega)
 ·obtain ⟨j,hj,rfl⟩:=List.getElem_of_mem hx
  obtain ⟨k,hk,rfl⟩:=List.getElem_of_mem hy
  simp only [List.length_take,List.length_drop] at hj hk
  rw [List.getElem_take,List.getElem_drop]
  have e1:=ris_get hA (j:=j) (k:=s - 1) (by omega) (by omega)
  have e2:=ris_get hB (j:=e) (k:=e+k) (by omega) (by omega)
  rw [getDE A j (by omega)] at e1
  rw [getDE B (e+k) (by omega)] at e2
  omega
 ·obtain ⟨j,hj,rfl⟩:=List.getElem_of_mem hx
  obtain ⟨k,hk,rfl⟩:=List.getElem_of_mem hy
  simp only [List.length_take,List.length_drop] at hj hk
  rw [List.getElem_take,List.getElem_drop]
  have e1:=ris_get hB (j:=j) (k:=e - 1) (by omega) (by omega)
  have e2:=ris_get hA (j:=s) (k:=s+k) (by omega) (by omega)
  rw [getDE B j (by omega)] at e1
  rw [getDE A (s+k) (by omega)] at e2
  omega
 ·obtain ⟨j,hj,rfl⟩:=List.getElem_of_mem hx
  obtain ⟨k,hk,rfl⟩:=List.getElem_of_mem hy
  simp only [List.length_take,List.length_drop] at hj hk
  rw [List.getElem_take,List.getElem_drop]
  exact List.pairwise_iff_getElem.1 hB j (e+k) (by omega) (by omega) (by omega)
theorem Cut.join {A B C D:List Ed} (hA:Ris A) (hB:Ris B) {s e:Nat} (h:Cut A B s e) (hC:C.Perm (A.take s++B.take e)) (hD:D.Perm (A.drop s++B.drop e)) (rC:Ris C) (rD:Ris D):(C++D).Perm (A++B)∧Ris (C++D):=by
 refine ⟨?_,List.pairwise_append.2 ⟨rC,rD,fun x hx y hy=>h.le hA hB x (hC.mem_iff.1 hx) y (hD.mem_iff.1 hy)⟩⟩
 refine (hC.append hD).trans ?_
 have e1:A++B=(A.take s++A.drop s)++(B.take e++B.drop e):=by rw [List.take_append_drop,List.take_append_drop]
 rw [e1,List.append_assoc,List.append_assoc]
 refine List.Perm.append_left _ ?_
 rw [← List.append_assoc,← List.append_assoc]
 exact List.Perm.append_right _ List.perm_append_comm
theorem half_s (n h:Nat) (hh:h=n / 2):gshr .u64 (n:Int) 1=(h:Int):=by
 show (n:Int).fdiv 2=(h:Int)
 rw [Int.fdiv_eq_ediv_of_nonneg _ (by omega)];omega
theorem wrap_us (n:Nat) (hn:n≤1000000):IntKind.u64.wrap (n:Int)=(n:Int):=by
 simp only [IntKind.wrap,IntKind.signed,IntKind.bits]
 simp
 omega
theorem getR (U W:List Ed) (j:Nat):(U++W).getD (U.length+j) ed0=W.getD j ed0:=by
 rw [List.getD_eq_getElem?_getD,List.getElem?_append_right (by omega),Nat.add_sub_cancel_left,← List.getD_eq_getElem?_getD]
theorem getL (U W:List Ed) (j:Nat) (h:j < U.length):(U++W).getD j ed0=U.getD j ed0:=by
 rw [List.getD_eq_getElem?_getD,List.getElem?_append_left h,← List.getD_eq_getElem?_getD]
theorem cut_at (B:List Ed) (t:Nat) (h:t < B.length):B.drop t=B.getD t ed0::B.drop (t+1):=by
 rw [getDE _ _ h];exact List.drop_eq_getElem_cons h
theorem tk_at (B:List Ed) (t:Nat) (h:t < B.length):B.take (t+1)=B.take t++[B.getD t ed0]:=by
 rw [getDE _ _ h];exact List.take_succ_eq_append_getElem h
def SymP (P A B S:List Ed) (q:Nat) (st:St) (r:LV) (st':St):Prop:=∃ C,C.Perm (A++B)∧Ris C∧st'.H q=.box 34 3 (eds (P++C++S))∧OffS q st st'
theorem ris_one {B:List Ed} (hB:Ris B) {x:Ed} {k:Nat} (hk:k≤B.length) (h1:∀ j,j < k→(B.getD j ed0).id≤x.id) (h2:∀ j,k≤j→j < B.length→x.id≤(B.getD j ed0).id):Ris (B.take k++x::B.drop k):=by
 refine ris_ins (by rwa [List.take_append_drop]) (fun y hy=>?_) fun y hy=>?_
 ·obtain ⟨j,hj,rfl⟩:=List.getElem_of_mem hy
  simp only [List.length_take] at hj
  rw [List.getElem_take,← getDE B j (by omega)]
  exact h1 j (by omega)
 ·obtain ⟨j,hj,rfl⟩:=List.getElem_of_mem hy
  simp only [List.length_drop] at hj
  rw [List.getElem_drop,← getDE B (k+j) (by omega)]
  exact h2 (k+j) (by omega) (by omega)
set_option maxHeartbeats 1000000 in
theorem sym1 (P:List Ed) (x:Ed) (B S:List Ed) (q L p m:Nat) (fid:FuncId) (caps:List LV) (Pc:St→Prop) (st:St) (hcmp:CmpAt fid caps q Pc) (hPc:Pc st) (hq:q < st.next) (hB:Ris B) (hL:(P++x::B++S).length=L) (hl:L≤100000) (hp:P.length=p) (hm:m=p+1) (hH:st.H q=.box 34 3 (eds (P++x::B++S))):
 ACalls Tryz.prog 83 [.ms q 0 L,i p,i m,i (m+B.length:Nat),.fn (.func fid) caps] st (SymP P [x] B S q st):=by
 have hLl:L=p+(B.length+1)+S.length:=by rw [← hL,← hp];simp only [List.length_append,List.length_cons]
 have e1:IntKind.i64.wrap ((m:Int) - p)=1:=by rw [wrap_s _ (by omega) (by omega)];omega
 refine qO tabOk Tryz.func83 rfl rfl Tryz.ntmps83 (rs:=[]) rfl (by simp) ?_
 (repeat' (first | refine qS ?_ | refine qB ?_ | (refine qC ?_;simp [e1]) | (refine w_e [] ?_;intro J hJ;simp only [];simp [e1];(refine hJ _ _ ?_;clear hJ J;simp only [ak,reduceIte]))))
 refine qL (fun z fr st2=>∃ k v:Nat,k≤v∧v≤B.length∧z=v - k∧fr 0=.ms q 0 L∧fr 1=i p∧fr 4=.fn (.func fid) caps∧fr 10=i (m+k:Nat)∧fr 11=i (m+v:Nat)∧(∀ j,j < k→(B.getD j ed0).id < x.id)∧(∀ j,v≤j→j < B.length→x.id≤(B.getD j ed0).id)∧st2.H q=.box 34 3 (eds (P++x::B++S))∧OffS q st st2) B.length ?_ ?_
 ·exact ⟨0,B.length,by omega,Nat.le_refl _,rfl,by simp,by simp,by simp,by simp,by simp,fun j h=>by omega,fun j h1 h2=>by omega,hH,OffS.refl _ _⟩
 rintro z fr st2 ⟨k,v,hkv,hvB,rfl,f0,f1,f4,f10,f11,h1,h2,hD,hoff⟩ JJ hJJ
 have hP3:=hcmp.keep _ _ hPc hoff
 have hq2:q < st2.next:=by have:=hoff.1;omega
 by_cases hlt:k < v
 ·obtain ⟨s,hs⟩:∃ s:Nat,s=(m+k)+(m+v):=⟨_,rfl⟩
  obtain ⟨h,hh⟩:∃ h:Nat,m+h=s / 2:=⟨s / 2 - m,by omega⟩
  have wA:IntKind.i64.wrap ((m:Int)+k+(m+v))=(s:Int):=by rw [wrap_s _ (by omega) (by omega)];omega
  have wB:=wrap_us s (by omega)
  obtain ⟨ph,hph⟩:∃ ph:Nat,ph=m+h:=⟨_,rfl⟩
  have wC:=half_s s ph (by omega)
  have wD:IntKind.i64.wrap (ph:Int)=(ph:Int):=wrap_s _ (by omega) (by omega)
  have wE:IntKind.i64.wrap ((ph:Int)+1)=((m+(h+1):Nat):Int):=by rw [wrap_s _ (by omega) (by omega)];omega
  have g1:(P++x::B++S).getD p ed0=x:=by rw [List.append_assoc];exact get_at _ _ _ hp.symm
  have g2:(P++x::B++S).getD ph ed0=B.getD h ed0:=by
   rw [show P++x::B++S=(P++[x])++(B++S) by simp,show ph=(P++[x]).length+h by simp;omega,getR,getL _ _ _ (by omega)]
  have hgo:(B.getD h ed0).id < x.id→∀ j,j < h+1→(B.getD j ed0).id < x.id:=fun h3 j hj=>by
   have:=ris_get hB (j:=j) (k:=h) (by omega) (by omega);omega
  have hst:¬ (B.getD h ed0).id < x.id→∀ j,h≤j→j < B.length→x.id≤(B.getD j ed0).id:=fun h3 j hj hj2=>by
   have:=ris_get hB (j:=h) (k:=j) hj hj2;omega
  have hel:=eds_length (P++x::B++S)
  have da:=eds_drop (P++x::B++S) p (by omega)
  have db:=eds_drop (P++x::B++S) ph (by omega)
  rw [g1] at da
  rw [g2] at db
  rw [hL] at hel
  have hfr:∀ fr' st3,st3.H q=st2.H q→OffS q st st3→fr' 0=.ms q 0 L∧fr' 1=i p∧fr' 4=.fn (.func fid) caps→(((B.getD h ed0).id < x.id∧fr' 10=i (m+(h+1):Nat)∧fr' 11=i (m+v:Nat))∨(¬ (B.getD h ed0).id < x.id∧fr' 10=i (m+k:Nat)∧fr' 11=i (m+h:Nat)))→JJ fr' st3:=by
   rintro fr' st3 k1 k2 ⟨k3,k4,k5⟩ (⟨k6,k7,k8⟩ | ⟨k6,k7,k8⟩)
   ·exact hJJ (v - (h+1)) _ _ (by omega) ⟨h+1,v,by omega,hvB,rfl,k3,k4,k5,k7,k8,hgo k6,h2,k1.trans hD,k2⟩
   ·exact hJJ (h - k) _ _ (by omega) ⟨k,h,by omega,by omega,rfl,k3,k4,k5,k7,k8,h1,hst k6,k1.trans hD,k2⟩
  clear hJJ hgo hst h1 h2
  have hcm:=hcmp.call st2 (B.getD h ed0) x hP3
  have hneg:=cmpK_neg (B.getD h ed0) x
  generalize hy:B.getD h ed0=y at *
  generalize hc:P++x::B++S=c at *
  obtain ⟨xi,xa,xb⟩:=x
  obtain ⟨yi,ya,yb⟩:=y
  simp only at da db hneg hfr
  generalize cmpK ⟨yi,ya,yb⟩ ⟨xi,xa,xb⟩=cv at *
  have hA4:ph < L:=by omega
  have hB4:p < L:=by omega
  have hkv':(m:Int)+k < m+v:=by omega
  (repeat' (first | refine qS ?_ | refine qB ?_ | (refine qK ?_;simp only [ak,reduceIte]) | (refine qC ?_;simp [f10,f11,hkv',hlt,wA,wB,wC,wD]) | (refine w_e [] ?_;intro J hJ;simp only [];simp [f10,f11,hkv',hlt,wA,wB,wC,wD];(refine hJ _ _ ?_;clear hJ J;simp only [ak,reduceIte]))))
  (refine w_s [] [q] [(0,true),(1,true),(2,true),(3,true),(4,true),(5,true),(6,true),(7,true),(8,true),(9,false),(10,true)] ?_;intro J hJ;simp [f0,f1,f4,hD,da,db,hel];(repeat refine ca ?_))
  refine dcallK_of hcm ?_;rintro r s4 ⟨rfl,hk4⟩
  have hD4:=hk4.H q hq2
  refine ⟨fun _=>by simp [hD4,hD],?_⟩
  by_cases hlt3:yi < xi
  ·have hcv:cv < 0:=by rw [decide_eq_true hlt3] at hneg;exact of_decide_eq_true hneg
   (refine d_go ?_;simp [hcv,hD4,hD];(refine hJ _ _ ?_;clear hJ J;simp only [ak,reduceIte]))
   (repeat' (first | (refine qC ?_;simp [wE]) | (refine w_e [] ?_;intro J hJ;simp only [];simp [wE];(refine hJ _ _ ?_;clear hJ J;simp only [ak,reduceIte]))))
   exact hfr _ _ hD4 (hoff.keeps hk4) ⟨by simp [f0],by simp [f1],by simp [f4]⟩ (.inl ⟨hlt3,by simp,by simp [f11]⟩)
  ·have hcv:¬ cv < 0:=by rw [decide_eq_false hlt3] at hneg;exact of_decide_eq_false hneg
   (refine d_go ?_;simp [hcv,hD4,hD];(refine hJ _ _ ?_;clear hJ J;simp only [ak,reduceIte]))
   (repeat' (first | (refine qC ?_;simp []) | (refine w_e [] ?_;intro J hJ;simp only [];simp [];(refine hJ _ _ ?_;clear hJ J;simp only [ak,reduceIte]))))
   exact hfr _ _ hD4 (hoff.keeps hk4) ⟨by simp [f0],by simp [f1],by simp [f4]⟩ (.inr ⟨hlt3,by simp [f10],by simp [hph]⟩)
 clear hJJ
 obtain rfl:k=v:=by omega
 have hR:=ris_one hB hvB (fun j hj=>by have:=h1 j hj;omega) h2
 clear h1 h2
 have wF:IntKind.i64.wrap ((m:Int)+k - 1)=((p+k:Nat):Int):=by rw [wrap_s _ (by omega) (by omega)];omega
 (repeat' (first | refine qS ?_ | refine qB ?_ | (refine qX ?_;simp only [ak,reduceIte]) | (refine qC ?_;simp [f1,f10,f11]) | (refine w_e [] ?_;intro J hJ;simp only [];simp [f1,f10,f11];(refine hJ _ _ ?_;clear hJ J;simp only [ak,reduceIte]))))
 refine qL (fun z fr st3=>∃ t:Nat,t≤k∧z=k - t∧fr 0=.ms q 0 L∧fr 10=i (m+k:Nat)∧fr 13=i (p+t:Nat)∧st3.H q=.box 34 3 (eds (P++B.take t++x::(B.drop t++S)))∧OffS q st st3) k ?_ ?_
 ·exact ⟨0,by omega,by omega,by simp [f0],by simp [f10],by simp,by simp;rw [hD];simp,hoff⟩
 clear f0 f1 f4 f10 f11 hD hoff hP3 hq2 fr st2
 rintro z fr st2 ⟨t,htk,rfl,f0,f10,f13,hD,hoff⟩ JJ hJJ
 by_cases hlt:t < k
 rotate_left
 ·clear hJJ
  obtain rfl:t=k:=by omega
  have hnl:¬ ((p:Int)+t < p+t):=by omega
  (repeat' (first | refine qS ?_ | (refine qX ?_;simp only [ak,reduceIte]) | (refine qR ?_;simp only [ak,reduceIte];simp [f10,f13,wF,hnl]) | (refine qC ?_;simp [f10,f13,wF,hnl]) | (refine w_e [] ?_;intro J hJ;simp only [];simp [f10,f13,wF,hnl];(refine hJ _ _ ?_;clear hJ J;simp only [ak,reduceIte]))))
  refine ⟨_,?_,hR,by rw [hD];simp,hoff⟩
  refine List.perm_middle.trans ?_
  rw [List.take_append_drop];rfl
 have hlt':(p:Int)+t < p+k:=by omega
 have hce:P++B.take t++x::(B.drop t++S)=(P++B.take t)++x::B.getD t ed0::(B.drop (t+1)++S):=by rw [cut_at B t (by omega)];simp
 have hUl:(P++B.take t).length=p+t:=by simp [hp];omega
 have hnx:(((P++B.take t)++x::B.getD t ed0::(B.drop (t+1)++S)).set (p+t) (B.getD t ed0)).set (p+t+1) x=P++B.take (t+1)++x::(B.drop (t+1)++S):=by
  rw [set_at _ _ _ _ hUl.symm]
  rw [show (P++B.take t)++B.getD t ed0::B.getD t ed0::(B.drop (t+1)++S)=(P++B.take t++[B.getD t ed0])++B.getD t ed0::(B.drop (t+1)++S) by simp]
  rw [set_at _ _ _ _ (by simp [hp];omega),tk_at B t (by omega)]
  simp
 have g1:=get_at (P++B.take t) x (B.getD t ed0::(B.drop (t+1)++S)) (j:=p+t) hUl.symm
 have g2:((P++B.take t)++x::B.getD t ed0::(B.drop (t+1)++S)).getD (p+t+1) ed0=B.getD t ed0:=by
  rw [show (P++B.take t)++x::B.getD t ed0::(B.drop (t+1)++S)=(P++B.take t++[x])++B.getD t ed0::(B.drop (t+1)++S) by simp]
  exact get_at _ _ _ (by simp [hp];omega)
 have hcl:((P++B.take t)++x::B.getD t ed0::(B.drop (t+1)++S)).length=L:=by
  rw [← hce];simp only [List.length_append,List.length_cons,List.length_take,List.length_drop];omega
 rw [hce] at hD
 generalize B.getD t ed0=y at *
 generalize hc:(P++B.take t)++x::y::(B.drop (t+1)++S)=c at *
 obtain ⟨k1,hk1⟩:∃ k1:Nat,k1=p+t:=⟨_,rfl⟩
 rw [← hk1] at g1 g2 hnx
 have hel:=eds_length c
 have da:=eds_drop c k1 (by omega)
 have db:=eds_drop c (k1+1) (by omega)
 rw [g1] at da
 rw [g2] at db
 rw [hcl] at hel
 have wG:IntKind.i64.wrap ((k1:Int)+1)=((k1+1:Nat):Int):=by rw [wrap_s _ (by omega) (by omega)];omega
 have wG':IntKind.i64.wrap ((k1:Int)+1)=(k1:Int)+1:=wrap_s _ (by omega) (by omega)
 have hk1':(p:Int)+t=(k1:Int):=by omega
 have f13':fr 13=i k1:=by rw [f13,hk1]
 obtain ⟨xi,xa,xb⟩:=x
 obtain ⟨yi,ya,yb⟩:=y
 simp only at da db hnx
 have hA4:k1+1 < L:=by omega
 have hB4:k1 < L:=by omega
 rw [hk1'] at hlt'
 (repeat' (first | refine qS ?_ | refine qB ?_ | (refine qK ?_;simp only [ak,reduceIte]) | (refine qC ?_;simp [f10,f13',wF,hlt']) | (refine w_e [] ?_;intro J hJ;simp only [];simp [f10,f13',wF,hlt'];(refine hJ _ _ ?_;clear hJ J;simp only [ak,reduceIte]))))
 (refine w_s [] [q] [(0,true),(1,true),(2,true),(3,true),(4,true),(5,true),(6,true),(7,true),(8,true),(9,true),(10,true),(11,true),(12,true),(13,true),(14,true),(15,false),(16,true),(17,false)] ?_;intro J hJ;simp [f0,f13',hD,da,db,hel,hcl,wG'];(repeat refine ca ?_);(refine hJ _ _ ?_;clear hJ J;simp only [ak,reduceIte]))
 have e1:=eds_set c k1 ⟨yi,ya,yb⟩ (by omega)
 have e2:=eds_set (c.set k1 ⟨yi,ya,yb⟩) (k1+1) ⟨xi,xa,xb⟩ (by simp;omega)
 simp only at e1 e2
 rw [e1,e2,hnx,St.set_set]
 (repeat' (refine w_e [] ?_;intro J hJ;simp only [];simp [f13',wG'];(refine hJ _ _ ?_;clear hJ J;simp only [ak,reduceIte])))
 exact hJJ (k - (t+1)) _ _ (by omega) ⟨t+1,by omega,rfl,by simp [f0],by simp [f10],by simp;omega,by simp,hoff.set _⟩
end Go.Proofs.YtkcokoefodgigaaGreat.Aw
namespace Go.Proofs.YtkcokoefodgigaaGreat.Aw
open Go Go.RowKit Go.Proofs.YtkcokoefodgigaaGreat.Pl
set_option linter.unusedSimpArgs false
set_option linter.unusedVariables false
set_option maxHeartbeats 1000000 in
theorem sym2 (P A:List Ed) (y:Ed) (S:List Ed) (q L p m:Nat) (fid:FuncId) (caps:List LV) (Pc:St→Prop) (st:St) (hcmp:CmpAt fid caps q Pc) (hPc:Pc st) (hq:q < st.next) (hA:Ris A) (hA2:A.length≠1) (hL:(P++A++y::S).length=L) (hl:L≤100000) (hp:P.length=p) (hm:m=p+A.length) (hH:st.H q=.box 34 3 (eds (P++A++y::S))):
 ACalls Tryz.prog 83 [.ms q 0 L,i p,i m,i (m+1:Nat),.fn (.func fid) caps] st (SymP P A [y] S q st):=by
 have hLl:L=p+A.length+(1+S.length):=by rw [← hL,← hp];simp only [List.length_append,List.length_cons];omega
 have e1:IntKind.i64.wrap ((m:Int) - p)=(A.length:Int):=by rw [wrap_s _ (by omega) (by omega)];omega
 have e2:IntKind.i64.wrap ((m:Int)+1 - m)=1:=by rw [wrap_s _ (by omega) (by omega)];omega
 have e3:¬ (A.length:Int)=1:=by omega
 refine qO tabOk Tryz.func83 rfl rfl Tryz.ntmps83 (rs:=[]) rfl (by simp) ?_
 (repeat' (first | refine qS ?_ | refine qB ?_ | (refine qK ?_;simp only [ak,reduceIte]) | (refine qC ?_;simp [e1,e2,e3,hA2]) | (refine w_e [] ?_;intro J hJ;simp only [];simp [e1,e2,e3,hA2];(refine hJ _ _ ?_;clear hJ J;simp only [ak,reduceIte]))))
 refine qL (fun z fr st2=>∃ k v:Nat,k≤v∧v≤A.length∧z=v - k∧fr 0=.ms q 0 L∧fr 2=i m∧fr 4=.fn (.func fid) caps∧fr 14=i (p+k:Nat)∧fr 15=i (p+v:Nat)∧(∀ j,j < k→(A.getD j ed0).id≤y.id)∧(∀ j,v≤j→j < A.length→y.id < (A.getD j ed0).id)∧st2.H q=.box 34 3 (eds (P++A++y::S))∧OffS q st st2) A.length ?_ ?_
 ·exact ⟨0,A.length,by omega,Nat.le_refl _,rfl,by simp,by simp,by simp,by simp,by simp [hm],fun j h=>by omega,fun j h1 h2=>by omega,hH,OffS.refl _ _⟩
 rintro z fr st2 ⟨k,v,hkv,hvB,rfl,f0,f2,f4,f14,f15,h1,h2,hD,hoff⟩ JJ hJJ
 have hP3:=hcmp.keep _ _ hPc hoff
 have hq2:q < st2.next:=by have:=hoff.1;omega
 by_cases hlt:k < v
 ·obtain ⟨s,hs⟩:∃ s:Nat,s=(p+k)+(p+v):=⟨_,rfl⟩
  obtain ⟨h,hh⟩:∃ h:Nat,p+h=s / 2:=⟨s / 2 - p,by omega⟩
  have wA:IntKind.i64.wrap ((p:Int)+k+(p+v))=(s:Int):=by rw [wrap_s _ (by omega) (by omega)];omega
  have wB:=wrap_us s (by omega)
  obtain ⟨ph,hph⟩:∃ ph:Nat,ph=p+h:=⟨_,rfl⟩
  have wC:=half_s s ph (by omega)
  have wD:IntKind.i64.wrap (ph:Int)=(ph:Int):=wrap_s _ (by omega) (by omega)
  have wE:IntKind.i64.wrap ((ph:Int)+1)=((p+(h+1):Nat):Int):=by rw [wrap_s _ (by omega) (by omega)];omega
  have g1:(P++A++y::S).getD m ed0=y:=get_at _ _ _ (by simp [hp,hm])
  have g2:(P++A++y::S).getD ph ed0=A.getD h ed0:=by
   rw [show P++A++y::S=P++(A++y::S) by simp,show ph=P.length+h by omega,getR,getL _ _ _ (by omega)]
  have hgo:¬ y.id < (A.getD h ed0).id→∀ j,j < h+1→(A.getD j ed0).id≤y.id:=fun h3 j hj=>by
   have:=ris_get hA (j:=j) (k:=h) (by omega) (by omega);omega
  have hst:y.id < (A.getD h ed0).id→∀ j,h≤j→j < A.length→y.id < (A.getD j ed0).id:=fun h3 j hj hj2=>by
   have:=ris_get hA (j:=h) (k:=j) hj hj2;omega
  have hel:=eds_length (P++A++y::S)
  have da:=eds_drop (P++A++y::S) m (by omega)
  have db:=eds_drop (P++A++y::S) ph (by omega)
  rw [g1] at da
  rw [g2] at db
  rw [hL] at hel
  have hfr:∀ fr' st3,st3.H q=st2.H q→OffS q st st3→fr' 0=.ms q 0 L∧fr' 2=i m∧fr' 4=.fn (.func fid) caps→((¬ y.id < (A.getD h ed0).id∧fr' 14=i (p+(h+1):Nat)∧fr' 15=i (p+v:Nat))∨(y.id < (A.getD h ed0).id∧fr' 14=i (p+k:Nat)∧fr' 15=i (p+h:Nat)))→JJ fr' st3:=by
   rintro fr' st3 k1 k2 ⟨k3,k4,k5⟩ (⟨k6,k7,k8⟩ | ⟨k6,k7,k8⟩)
   ·exact hJJ (v - (h+1)) _ _ (by omega) ⟨h+1,v,by omega,hvB,rfl,k3,k4,k5,k7,k8,hgo k6,h2,k1.trans hD,k2⟩
   ·exact hJJ (h - k) _ _ (by omega) ⟨k,h,by omega,by omega,rfl,k3,k4,k5,k7,k8,h1,hst k6,k1.trans hD,k2⟩
  clear hJJ hgo hst h1 h2
  have hcm:=hcmp.call st2 y (A.getD h ed0) hP3
  have hneg:=cmpK_neg y (A.getD h ed0)
  generalize hx:A.getD h ed0=x at *
  generalize hc:P++A++y::S=c at *
  obtain ⟨xi,xa,xb⟩:=x
  obtain ⟨yi,ya,yb⟩:=y
  simp only at da db hneg hfr
  generalize cmpK ⟨yi,ya,yb⟩ ⟨xi,xa,xb⟩=cv at *
  have hA4:ph < L:=by omega
  have hB4:m < L:=by omega
  have hkv':(p:Int)+k < p+v:=by omega
  (repeat' (first | refine qS ?_ | refine qB ?_ | (refine qK ?_;simp only [ak,reduceIte]) | (refine qC ?_;simp [f14,f15,hkv',hlt,wA,wB,wC,wD]) | (refine w_e [] ?_;intro J hJ;simp only [];simp [f14,f15,hkv',hlt,wA,wB,wC,wD];(refine hJ _ _ ?_;clear hJ J;simp only [ak,reduceIte]))))
  (refine w_s [] [q] [(0,true),(1,true),(2,true),(3,true),(4,true),(5,true),(6,true),(7,true),(8,true),(9,false),(10,true),(11,true)] ?_;intro J hJ;simp [f0,f2,f4,hD,da,db,hel];(repeat refine ca ?_))
  refine dcallK_of hcm ?_;rintro r s4 ⟨rfl,hk4⟩
  have hD4:=hk4.H q hq2
  refine ⟨fun _=>by simp [hD4,hD],?_⟩
  by_cases hlt3:yi < xi
  ·have hcv:cv < 0:=by rw [decide_eq_true hlt3] at hneg;exact of_decide_eq_true hneg
   (refine d_go ?_;simp [hcv,hD4,hD];(refine hJ _ _ ?_;clear hJ J;simp only [ak,reduceIte]))
   (repeat' (first | (refine qC ?_;simp []) | (refine w_e [] ?_;intro J hJ;simp only [];simp [];(refine hJ _ _ ?_;clear hJ J;simp only [ak,reduceIte]))))
   exact hfr _ _ hD4 (hoff.keeps hk4) ⟨by simp [f0],by simp [f2],by simp [f4]⟩ (.inr ⟨hlt3,by simp [f14],by simp [hph]⟩)
  ·have hcv:¬ cv < 0:=by rw [decide_eq_false hlt3] at hneg;exact of_decide_eq_false hneg
   (refine d_go ?_;simp [hcv,hD4,hD];(refine hJ _ _ ?_;clear hJ J;simp only [ak,reduceIte]))
   (repeat' (first | (refine qC ?_;simp [wE]) | (refine w_e [] ?_;intro J hJ;simp only [];simp [wE];(refine hJ _ _ ?_;clear hJ J;simp only [ak,reduceIte]))))
   exact hfr _ _ hD4 (hoff.keeps hk4) ⟨by simp [f0],by simp [f2],by simp [f4]⟩ (.inl ⟨hlt3,by simp,by simp [f15]⟩)
 clear hJJ
 obtain rfl:k=v:=by omega
 have hR:=ris_one hA hvB h1 (fun j hj hj2=>by have:=h2 j hj hj2;omega)
 clear h1 h2
 (repeat' (first | refine qS ?_ | refine qB ?_ | (refine qX ?_;simp only [ak,reduceIte]) | (refine qC ?_;simp [f2,f14,f15]) | (refine w_e [] ?_;intro J hJ;simp only [];simp [f2,f14,f15];(refine hJ _ _ ?_;clear hJ J;simp only [ak,reduceIte]))))
 refine qL (fun z fr st3=>∃ t:Nat,k≤t∧t≤A.length∧z=t∧fr 0=.ms q 0 L∧fr 14=i (p+k:Nat)∧fr 17=i (p+t:Nat)∧st3.H q=.box 34 3 (eds (P++A.take t++y::(A.drop t++S)))∧OffS q st st3) A.length ?_ ?_
 ·exact ⟨A.length,by omega,by omega,rfl,by simp [f0],by simp [f14],by simp [hm],by simp;rw [hD];simp,hoff⟩
 clear f0 f2 f4 f14 f15 hD hoff hP3 hq2 fr st2
 rintro t fr st2 ⟨t0,hkt,htA,rfl,f0,f14,f17,hD,hoff⟩ JJ hJJ
 by_cases hlt:k < t
 rotate_left
 ·clear hJJ
  obtain rfl:t=k:=by omega
  have hnl:¬ ((p:Int)+t < p+t):=by omega
  (repeat' (first | refine qS ?_ | (refine qX ?_;simp only [ak,reduceIte]) | (refine qR ?_;simp only [ak,reduceIte];simp [f14,f17,hnl]) | (refine qC ?_;simp [f14,f17,hnl]) | (refine w_e [] ?_;intro J hJ;simp only [];simp [f14,f17,hnl];(refine hJ _ _ ?_;clear hJ J;simp only [ak,reduceIte]))))
  refine ⟨_,?_,hR,by rw [hD];simp,hoff⟩
  refine List.perm_middle.trans ?_
  rw [List.take_append_drop]
  exact (List.perm_append_singleton y A).symm
 obtain ⟨t',rfl⟩:∃ t',t=t'+1:=⟨t - 1,by omega⟩
 have hce:P++A.take (t'+1)++y::(A.drop (t'+1)++S)=(P++A.take t')++A.getD t' ed0::y::(A.drop (t'+1)++S):=by rw [tk_at A t' (by omega)];simp
 have hUl:(P++A.take t').length=p+t':=by simp [hp];omega
 have hnx:(((P++A.take t')++A.getD t' ed0::y::(A.drop (t'+1)++S)).set (p+t'+1) (A.getD t' ed0)).set (p+t') y=P++A.take t'++y::(A.drop t'++S):=by
  rw [show (P++A.take t')++A.getD t' ed0::y::(A.drop (t'+1)++S)=(P++A.take t'++[A.getD t' ed0])++y::(A.drop (t'+1)++S) by simp]
  rw [set_at _ _ _ _ (by simp [hp];omega)]
  rw [show (P++A.take t'++[A.getD t' ed0])++A.getD t' ed0::(A.drop (t'+1)++S)=(P++A.take t')++A.getD t' ed0::(A.getD t' ed0::(A.drop (t'+1)++S)) by simp]
  rw [set_at _ _ _ _ hUl.symm,cut_at A t' (by omega)]
  simp
 have g1:=get_at (P++A.take t') (A.getD t' ed0) (y::(A.drop (t'+1)++S)) (j:=p+t') hUl.symm
 have g2:((P++A.take t')++A.getD t' ed0::y::(A.drop (t'+1)++S)).getD (p+t'+1) ed0=y:=by
  rw [show (P++A.take t')++A.getD t' ed0::y::(A.drop (t'+1)++S)=(P++A.take t'++[A.getD t' ed0])++y::(A.drop (t'+1)++S) by simp]
  exact get_at _ _ _ (by simp [hp];omega)
 have hcl:((P++A.take t')++A.getD t' ed0::y::(A.drop (t'+1)++S)).length=L:=by
  rw [← hce];simp only [List.length_append,List.length_cons,List.length_take,List.length_drop];omega
 rw [hce] at hD
 generalize A.getD t' ed0=x at *
 generalize hc:(P++A.take t')++x::y::(A.drop (t'+1)++S)=c at *
 obtain ⟨k1,hk1⟩:∃ k1:Nat,k1=p+t':=⟨_,rfl⟩
 rw [← hk1] at g1 g2 hnx
 have hel:=eds_length c
 have da:=eds_drop c k1 (by omega)
 have db:=eds_drop c (k1+1) (by omega)
 rw [g1] at da
 rw [g2] at db
 rw [hcl] at hel
 have wG':IntKind.i64.wrap (k1:Int)=(k1:Int):=wrap_s _ (by omega) (by omega)
 have f17':fr 17=i ((k1:Int)+1):=by rw [f17,hk1];simp;omega
 obtain ⟨xi,xa,xb⟩:=x
 obtain ⟨yi,ya,yb⟩:=y
 simp only at da db hnx
 have hA4:k1+1 < L:=by omega
 have hB4:k1 < L:=by omega
 have hgt:(p:Int)+k < (k1:Int)+1:=by omega
 (repeat' (first | refine qS ?_ | refine qB ?_ | (refine qK ?_;simp only [ak,reduceIte]) | (refine qC ?_;simp [f14,f17',hgt]) | (refine w_e [] ?_;intro J hJ;simp only [];simp [f14,f17',hgt];(refine hJ _ _ ?_;clear hJ J;simp only [ak,reduceIte]))))
 (refine w_s [] [q] [(0,true),(1,true),(2,true),(3,true),(4,true),(5,true),(6,true),(7,true),(8,true),(9,true),(10,true),(11,true),(12,true),(13,true),(14,true),(15,false),(16,true),(17,false)] ?_;intro J hJ;simp [f0,f17',hD,da,db,hel,hcl,wG'];(repeat refine ca ?_);(refine hJ _ _ ?_;clear hJ J;simp only [ak,reduceIte]))
 have e1:=eds_set c (k1+1) ⟨xi,xa,xb⟩ (by omega)
 have e2:=eds_set (c.set (k1+1) ⟨xi,xa,xb⟩) k1 ⟨yi,ya,yb⟩ (by simp;omega)
 simp only at e1 e2
 rw [e1,e2,hnx,St.set_set]
 (repeat' (refine w_e [] ?_;intro J hJ;simp only [];simp [f17',wG'];(refine hJ _ _ ?_;clear hJ J;simp only [ak,reduceIte])))
 exact hJJ t' _ _ (by omega) ⟨t',by omega,by omega,rfl,by simp [f0],by simp [f14],by simp;omega,by simp,hoff.set _⟩
end Go.Proofs.YtkcokoefodgigaaGreat.Aw
namespace Go.Proofs.YtkcokoefodgigaaGreat.Aw
open Go Go.RowKit Go.Proofs.YtkcokoefodgigaaGreat.Pl
set_option linter.unusedSimpArgs false
set_option linter.unusedVariables false
def SymL (P A1 B1 R:List Ed) (q:Nat) (st st2:St):Prop:=SymP P A1 B1 R q st (.tu []) st2
theorem awp_cutK {P:Program} {N:Nat} {Q:AQ} {k:List AItem} {fr:Frm} {st:St} {x:Code} (I:Frm→St→Prop) (h1:AWp P N x (AK P N (fun e f s=>e=.normal∧I f s) []) fr st) (h2:∀ fr st,I fr st→AK P N Q k .normal fr st):AWp P N x (AK P N Q k) fr st:=by
 refine awp_mono h1 ?_
 rintro e fr' st' ⟨rfl,hI⟩
 exact h2 _ _ hI
set_option maxHeartbeats 2000000 in
theorem symMerge (q L:Nat) (fid:FuncId) (caps:List LV) (Pc:St→Prop) (hcmp:CmpAt fid caps q Pc) (hl:L≤100000):∀ (n:Nat) (P A B S:List Ed) (p m b:Nat) (st:St),A.length+B.length≤n→A≠[]→B≠[]→Ris A→Ris B→(P++A++B++S).length=L→P.length=p→m=p+A.length→b=m+B.length→Pc st→q < st.next→st.H q=.box 34 3 (eds (P++A++B++S))→
 ACalls Tryz.prog 83 [.ms q 0 L,i p,i m,i b,.fn (.func fid) caps] st (SymP P A B S q st):=by
 intro n
 induction n with
 | zero=>
   intro P A B S p m b st hn hA
   have:=List.length_pos_iff.2 hA
   omega
 | succ n ih=>
 intro P A B S p m b st hn hA hB rA rB hL hp hm hb hPc hq hH
 have hA0:=List.length_pos_iff.2 hA
 have hB0:=List.length_pos_iff.2 hB
 by_cases hA1:A.length=1
 ·obtain ⟨x,rfl⟩:∃ x,A=[x]:=List.length_eq_one_iff.1 hA1
  have e:P++[x]++B++S=P++x::B++S:=by simp
  rw [e] at hH hL
  subst hb
  exact sym1 P x B S q L p m fid caps Pc st hcmp hPc hq rB hL hl hp (by simpa using hm) hH
 by_cases hB1:B.length=1
 ·obtain ⟨y,rfl⟩:∃ y,B=[y]:=List.length_eq_one_iff.1 hB1
  have e:P++A++[y]++S=P++A++y::S:=by simp
  rw [e] at hH hL
  subst hb
  exact sym2 P A y S q L p m fid caps Pc st hcmp hPc hq rA hA1 hL hl hp hm hH
 have hLl:L=p+A.length+B.length+S.length:=by rw [← hL,← hp];simp only [List.length_append]
 obtain ⟨s,hs⟩:∃ s:Nat,s=p+b:=⟨_,rfl⟩
 obtain ⟨mid,hmid⟩:∃ mid:Nat,mid=s / 2:=⟨_,rfl⟩
 obtain ⟨nn,hnn⟩:∃ nn:Nat,nn=mid+m:=⟨_,rfl⟩
 obtain ⟨pp,hpp⟩:∃ pp:Nat,nn=pp+1:=⟨nn - 1,by omega⟩
 have e1:IntKind.i64.wrap ((m:Int) - p)=(A.length:Int):=by rw [wrap_s _ (by omega) (by omega)];omega
 have e2:IntKind.i64.wrap ((b:Int) - m)=(B.length:Int):=by rw [wrap_s _ (by omega) (by omega)];omega
 have wA:IntKind.i64.wrap ((p:Int)+b)=(s:Int):=by rw [wrap_s _ (by omega) (by omega)];omega
 have wB:=wrap_us s (by omega)
 have wC:=half_s s mid hmid
 have wD:IntKind.i64.wrap (mid:Int)=(mid:Int):=wrap_s _ (by omega) (by omega)
 have wN:IntKind.i64.wrap ((mid:Int)+m)=(nn:Int):=by rw [wrap_s _ (by omega) (by omega)];omega
 have wP:IntKind.i64.wrap ((nn:Int) - 1)=(pp:Int):=by rw [wrap_s _ (by omega) (by omega)];omega
 obtain ⟨s0,hs0⟩:∃ s0:Nat,s0=if mid < m then nn - b else p:=⟨_,rfl⟩
 obtain ⟨r0,hr0⟩:∃ r0:Nat,r0=if mid < m then mid else m:=⟨_,rfl⟩
 have hsr:p≤s0∧s0≤r0∧r0≤m∧r0≤mid∧nn≤s0+b:=by
  by_cases h:mid < m
  ·rw [if_pos h] at hs0 hr0;omega
  ·rw [if_neg h] at hs0 hr0;omega
 refine qO tabOk Tryz.func83 rfl rfl Tryz.ntmps83 (rs:=[]) rfl (by simp) ?_
 (repeat' (first | refine qS ?_ | (refine w_e [] ?_;intro J hJ;simp only [];simp [e1];(refine hJ _ _ ?_;clear hJ J;simp only [ak,reduceIte]))))
 (refine qC ?_;simp [hA1];(try with_reducible refine ⟨?_,?_⟩)<;>(try with_reducible intro hc)<;>try (exfalso;omega))
 (repeat' (first | refine qS ?_ | (refine qK ?_;simp only [ak,reduceIte]) | (refine w_e [] ?_;intro J hJ;simp only [];simp [e2];(refine hJ _ _ ?_;clear hJ J;simp only [ak,reduceIte]))))
 (refine qC ?_;simp [hB1];(try with_reducible refine ⟨?_,?_⟩)<;>(try with_reducible intro hc)<;>try (exfalso;omega))
 (repeat' (first | refine qS ?_ | (refine qK ?_;simp only [ak,reduceIte]) | (refine w_e [] ?_;intro J hJ;simp only [];simp [wA,wB,wC,wD,wN];(refine hJ _ _ ?_;clear hJ J;simp only [ak,reduceIte]))))
 refine awp_cut1 (fun fr st2=>fr 0=.ms q 0 L∧fr 1=i p∧fr 2=i m∧fr 3=i b∧fr 4=.fn (.func fid) caps∧fr 18=i mid∧fr 19=i nn∧fr 20=i s0∧fr 21=i r0∧st2=st) ?_ ?_
 ·by_cases h:mid < m
  ·rw [if_pos h] at hs0 hr0
   have w1:IntKind.i64.wrap ((nn:Int) - b)=(s0:Int):=by rw [wrap_s _ (by omega) (by omega)];omega
   (repeat' (first | refine qS ?_ | (refine qC ?_;simp [h,w1,hr0]) | (refine w_e [] ?_;intro J hJ;simp only [];simp [h,w1,hr0];(refine hJ _ _ ?_;clear hJ J;simp only [ak,reduceIte]))))
   simp [hr0]
  ·rw [if_neg h] at hs0 hr0
   (repeat' (first | refine qS ?_ | (refine qC ?_;simp [h,hs0,hr0]) | (refine w_e [] ?_;intro J hJ;simp only [];simp [h,hs0,hr0];(refine hJ _ _ ?_;clear hJ J;simp only [ak,reduceIte]))))
   simp [hs0,hr0]
 rintro fr st2 ⟨f0,f1,f2,f3,f4,f18,f19,f20,f21,rfl⟩
 (repeat' (first | refine qS ?_ | refine qB ?_ | (refine w_e [] ?_;intro J hJ;simp only [];simp [f19,wP];(refine hJ _ _ ?_;clear hJ J;simp only [ak,reduceIte]))))
 refine qL (fun z fr st3=>∃ k v:Nat,s0≤k∧k≤v∧v≤r0∧z=v - k∧fr 0=.ms q 0 L∧fr 1=i p∧fr 2=i m∧fr 3=i b∧fr 4=.fn (.func fid) caps∧fr 18=i mid∧fr 19=i nn∧fr 20=i k∧fr 21=i v∧fr 22=i pp∧(s0 < k→(A.getD (k - 1 - p) ed0).id≤(B.getD (mid - k) ed0).id)∧(v < r0→(B.getD (mid - v - 1) ed0).id < (A.getD (v - p) ed0).id)∧st3.H q=.box 34 3 (eds (P++A++B++S))∧OffS q st2 st3) (r0 - s0) ?_ ?_
 ·exact ⟨s0,r0,Nat.le_refl _,by omega,Nat.le_refl _,rfl,by simp [f0],by simp [f1],by simp [f2],by simp [f3],by simp [f4],by simp [f18],by simp [f19],by simp [f20],by simp [f21],by simp,fun h=>by omega,fun h=>by omega,hH,OffS.refl _ _⟩
 clear f0 f1 f2 f3 f4 f18 f19 f20 f21 fr
 rintro z fr st3 ⟨k,v,hk0,hkv,hv0,rfl,f0,f1,f2,f3,f4,f18,f19,f20,f21,f22,h1,h2,hD,hoff⟩ JJ hJJ
 have hP3:=hcmp.keep _ _ hPc hoff
 have hq3:q < st3.next:=by have:=hoff.1;omega
 by_cases hlt:k < v
 ·obtain ⟨s',hs'⟩:∃ s':Nat,s'=k+v:=⟨_,rfl⟩
  obtain ⟨c,hc⟩:∃ c:Nat,c=s' / 2:=⟨_,rfl⟩
  obtain ⟨d,hd⟩:∃ d:Nat,d=pp - c:=⟨_,rfl⟩
  have w1:IntKind.i64.wrap ((k:Int)+v)=(s':Int):=by rw [wrap_s _ (by omega) (by omega)];omega
  have w2:=wrap_us s' (by omega)
  have w3:=half_s s' c hc
  have w4:IntKind.i64.wrap (c:Int)=(c:Int):=wrap_s _ (by omega) (by omega)
  have w5:IntKind.i64.wrap ((pp:Int) - c)=(d:Int):=by rw [wrap_s _ (by omega) (by omega)];omega
  have w6:IntKind.i64.wrap ((c:Int)+1)=((c+1:Nat):Int):=by rw [wrap_s _ (by omega) (by omega)];omega
  have g1:(P++A++B++S).getD d ed0=B.getD (mid - c - 1) ed0:=by
   rw [show P++A++B++S=(P++A)++(B++S) by simp,show d=(P++A).length+(mid - c - 1) by simp;omega,getR,getL _ _ _ (by omega)]
  have g2:(P++A++B++S).getD c ed0=A.getD (c - p) ed0:=by
   have h3:=getR P (A++(B++S)) (c - p)
   rw [getL A (B++S) (c - p) (by omega),hp,show p+(c - p)=c by omega] at h3
   rw [← h3];simp
  have hel:=eds_length (P++A++B++S)
  have da:=eds_drop (P++A++B++S) d (by omega)
  have db:=eds_drop (P++A++B++S) c (by omega)
  rw [g1] at da
  rw [g2] at db
  rw [hL] at hel
  have hfr:∀ fr' st4,st4.H q=st3.H q→OffS q st2 st4→(fr' 0=.ms q 0 L∧fr' 1=i p∧fr' 2=i m∧fr' 3=i b∧fr' 4=.fn (.func fid) caps∧fr' 18=i mid∧fr' 19=i nn∧fr' 22=i pp)→((¬ (B.getD (mid - c - 1) ed0).id < (A.getD (c - p) ed0).id∧fr' 20=i (c+1:Nat)∧fr' 21=i v)∨((B.getD (mid - c - 1) ed0).id < (A.getD (c - p) ed0).id∧fr' 20=i k∧fr' 21=i c))→JJ fr' st4:=by
   rintro fr' st4 k1 k2 ⟨k3,k4,k5,k6,k7,k8,k9,k10⟩ (⟨j1,j2,j3⟩ | ⟨j1,j2,j3⟩)
   ·exact hJJ (v - (c+1)) _ _ (by omega) ⟨c+1,v,by omega,by omega,hv0,rfl,k3,k4,k5,k6,k7,k8,k9,j2,j3,k10,fun _=>by rw [Nat.add_sub_cancel,← Nat.sub_sub];omega,h2,k1.trans hD,k2⟩
   ·exact hJJ (c - k) _ _ (by omega) ⟨k,c,hk0,by omega,by omega,rfl,k3,k4,k5,k6,k7,k8,k9,j2,j3,k10,h1,fun _=>j1,k1.trans hD,k2⟩
  clear hJJ h1 h2
  have hcm:=hcmp.call st3 (B.getD (mid - c - 1) ed0) (A.getD (c - p) ed0) hP3
  have hneg:=cmpK_neg (B.getD (mid - c - 1) ed0) (A.getD (c - p) ed0)
  generalize B.getD (mid - c - 1) ed0=y at *
  generalize A.getD (c - p) ed0=x at *
  generalize hce:P++A++B++S=cc at *
  obtain ⟨xi,xa,xb⟩:=x
  obtain ⟨yi,ya,yb⟩:=y
  simp only at da db hneg hfr
  generalize cmpK ⟨yi,ya,yb⟩ ⟨xi,xa,xb⟩=cv at *
  have hA4:d < L:=by omega
  have hB4:c < L:=by omega
  (repeat' (first | refine qS ?_ | refine qB ?_ | (refine qK ?_;simp only [ak,reduceIte]) | (refine qC ?_;simp [f20,f21,hlt,w1,w2,w3,w4]) | (refine w_e [] ?_;intro J hJ;simp only [];simp [f20,f21,hlt,w1,w2,w3,w4];(refine hJ _ _ ?_;clear hJ J;simp only [ak,reduceIte]))))
  (refine w_s [] [q] [(0,true),(1,true),(2,true),(3,true),(4,true),(5,true),(6,true),(7,true),(8,true),(9,true),(10,true),(11,false),(12,true),(13,true)] ?_;intro J hJ;simp [f0,f4,f22,hD,da,db,hel,w5];(repeat refine ca ?_))
  refine dcallK_of hcm ?_;rintro r s4 ⟨rfl,hk4⟩
  have hD4:=hk4.H q hq3
  refine ⟨fun _=>by simp [hD4,hD],?_⟩
  by_cases hlt3:yi < xi
  ·have hcv:cv < 0:=by rw [decide_eq_true hlt3] at hneg;exact of_decide_eq_true hneg
   (refine d_go ?_;simp [hcv,hD4,hD];(refine hJ _ _ ?_;clear hJ J;simp only [ak,reduceIte]))
   (repeat' (first | (refine qC ?_;simp []) | (refine w_e [] ?_;intro J hJ;simp only [];simp [];(refine hJ _ _ ?_;clear hJ J;simp only [ak,reduceIte]))))
   exact hfr _ _ hD4 (hoff.keeps hk4) ⟨by simp [f0],by simp [f1],by simp [f2],by simp [f3],by simp [f4],by simp [f18],by simp [f19],by simp [f22]⟩ (.inr ⟨hlt3,by simp [f20],by simp⟩)
  ·have hcv:¬ cv < 0:=by rw [decide_eq_false hlt3] at hneg;exact of_decide_eq_false hneg
   (refine d_go ?_;simp [hcv,hD4,hD];(refine hJ _ _ ?_;clear hJ J;simp only [ak,reduceIte]))
   (repeat' (first | (refine qC ?_;simp [w6]) | (refine w_e [] ?_;intro J hJ;simp only [];simp [w6];(refine hJ _ _ ?_;clear hJ J;simp only [ak,reduceIte]))))
   exact hfr _ _ hD4 (hoff.keeps hk4) ⟨by simp [f0],by simp [f1],by simp [f2],by simp [f3],by simp [f4],by simp [f18],by simp [f19],by simp [f22]⟩ (.inl ⟨hlt3,by simp,by simp [f21]⟩)
 clear hJJ
 obtain rfl:k=v:=by omega
 have hcut:Cut A B (k - p) (mid - k):=by
  refine ⟨by omega,by omega,?_,?_⟩
  ·by_cases h:s0 < k
   ·refine .inr (.inr ?_)
    have:=h1 h
    rwa [show k - 1 - p=k - p - 1 by omega] at this
   ·by_cases h3:mid < m
    ·rw [if_pos h3] at hs0;exact .inr (.inl (by omega))
    ·rw [if_neg h3] at hs0;exact .inl (by omega)
  ·by_cases h:k < r0
   ·refine .inr (.inr ?_)
    have:=h2 h
    omega
   ·by_cases h3:mid < m
    ·rw [if_pos h3] at hr0;exact .inl (by omega)
    ·rw [if_neg h3] at hr0;exact .inr (.inl (by omega))
 have hj:=fun C D=>Cut.join (C:=C) (D:=D) rA rB hcut
 have rA1:Ris (A.take (k - p)):=List.Pairwise.sublist (List.take_sublist _ _) rA
 have rA2:Ris (A.drop (k - p)):=List.Pairwise.sublist (List.drop_sublist _ _) rA
 have rB1:Ris (B.take (mid - k)):=List.Pairwise.sublist (List.take_sublist _ _) rB
 have rB2:Ris (B.drop (mid - k)):=List.Pairwise.sublist (List.drop_sublist _ _) rB
 have lA1:(A.take (k - p)).length=k - p:=by rw [List.length_take];omega
 have lA2:(A.drop (k - p)).length=m - k:=by rw [List.length_drop];omega
 have lB1:(B.take (mid - k)).length=mid - k:=by rw [List.length_take];omega
 have lB2:(B.drop (mid - k)).length=b - m - (mid - k):=by rw [List.length_drop];omega
 have eA:=List.take_append_drop (k - p) A
 have eB:=List.take_append_drop (mid - k) B
 obtain ⟨ed,hed⟩:∃ ed:Nat,ed=nn - k:=⟨_,rfl⟩
 have wE:IntKind.i64.wrap ((nn:Int) - k)=(ed:Int):=by rw [wrap_s _ (by omega) (by omega)];omega
 clear hcut h1 h2
 generalize A.take (k - p)=A1 at *
 generalize A.drop (k - p)=A2 at *
 generalize B.take (mid - k)=B1 at *
 generalize B.drop (mid - k)=B2 at *
 have nz:∀ {l:List Ed} {j:Nat},l.length=j→0 < j→l≠[]:=fun h1 h2 h3=>by subst h3;simp at h1;omega
 have zz:∀ {l:List Ed} {j:Nat},l.length=j→j=0→l=[]:=fun h1 h2=>List.eq_nil_of_length_eq_zero (by omega)
 have hD':st3.H q=.box 34 3 (eds ((P++A1)++A2++B1++(B2++S))):=by rw [hD,← eA,← eB];simp
 have hL2:((P++A1)++A2++B1++(B2++S)).length=L:=by simp only [List.length_append];omega
 have hpA:(P++A1).length=k:=by simp only [List.length_append];omega
 clear hD
 have hlt':¬ (k:Int) < k:=by omega
 (repeat' (first | refine qS ?_ | (refine w_e [] ?_;intro J hJ;simp only [];simp [f20,f21];(refine hJ _ _ ?_;clear hJ J;simp only [ak,reduceIte]))))
 (refine qC ?_;simp [hlt'])
 refine qX ?_
 simp only [ak,reduceIte]
 (repeat (refine qS ?_))
 (refine w_e [] ?_;intro J hJ;simp only [];simp [f19,f20,wE];(refine hJ _ _ ?_;clear hJ J;simp only [ak,reduceIte]))
 (repeat (refine qS ?_))
 refine awp_cutK (fun fr' st4=>(fr' 0=.ms q 0 L∧fr' 1=i p∧fr' 2=i m∧fr' 3=i b∧fr' 4=.fn (.func fid) caps∧fr' 18=i mid∧fr' 20=i k∧fr' 24=i ed∧fr' 185=bb (decide (k < m∧m < ed)))∧st4=st3) ?_ ?_
 ·by_cases c1:k < m
  ·by_cases c2:m < ed
   ·(refine w_e [] ?_;intro J hJ;simp only [];simp [f20,f2,c1,c2];(refine hJ _ _ ?_;clear hJ J;simp only [ak,reduceIte]))
    simp [f0,f1,f2,f3,f4,f18,f20,c1,c2]
   ·(refine w_e [] ?_;intro J hJ;simp only [];simp [f20,f2,c1,c2];(refine hJ _ _ ?_;clear hJ J;simp only [ak,reduceIte]))
    simp [f0,f1,f2,f3,f4,f18,f20,c1,c2]
  ·(refine w_e [] ?_;intro J hJ;simp only [];simp [f20,f2,c1];(refine hJ _ _ ?_;clear hJ J;simp only [ak,reduceIte]))
   simp [f0,f1,f2,f3,f4,f18,f20,c1]
 clear f0 f1 f2 f3 f4 f18 f19 f20 f21 f22 fr
 rintro fr st4 ⟨⟨f0,f1,f2,f3,f4,f18,f20,f24,f185⟩,rfl⟩
 simp only [ak]
 (repeat (refine qS ?_))
 refine awp_cut1 (fun fr' st5=>(fr' 0=.ms q 0 L∧fr' 1=i p∧fr' 3=i b∧fr' 4=.fn (.func fid) caps∧fr' 18=i mid∧fr' 20=i k∧fr' 24=i ed)∧st5.H q=.box 34 3 (eds (P++A1++B1++(A2++B2++S)))∧OffS q st2 st5) ?_ ?_
 ·by_cases c:k < m∧m < ed
  ·rw [decide_eq_true c] at f185
   have hcall:=rotate (P++A1) A2 B1 (B2++S) q (.func fid) caps st4 (nz lA2 (by omega)) (nz lB1 (by omega)) (by omega) hD'
   rw [hpA,lA2,lB1,show k+(m - k)=m by omega,show m+(mid - k)=ed by omega,hL2] at hcall
   have e9:P++A1++B1++A2++(B2++S)=P++A1++B1++(A2++B2++S):=by simp
   rw [e9] at hcall
   generalize P++A1++B1++(A2++B2++S)=cc at *
   (repeat' (first | (refine qC ?_;simp [f185,f0,f20,f2,f24,f4]) | (refine w_e [] ?_;intro J hJ;simp only [];simp [f185,f0,f20,f2,f24,f4])))
   refine qE hcall (by simp) ?_;rintro r s5 rfl
   (repeat' (refine e_go ?_;simp [];(refine hJ _ _ ?_;clear hJ J;simp only [ak,reduceIte])))
   simp [f0,f1,f3,f4,f18,f20,f24]
   exact hoff.set _
  ·rw [decide_eq_false c] at f185
   have e9:(P++A1)++A2++B1++(B2++S)=P++A1++B1++(A2++B2++S):=by
    by_cases c1:k < m
    ·rw [zz lB1 (by omega)];simp
    ·rw [zz lA2 (by omega)];simp
   rw [e9] at hD'
   generalize P++A1++B1++(A2++B2++S)=cc at *
   (repeat' (first | (refine qK ?_;simp only [ak,reduceIte]) | (refine qC ?_;simp [f185])))
   simp [f0,f1,f3,f4,f18,f20,f24,hD',hoff]
 clear f0 f1 f2 f3 f4 f18 f20 f24 f185 hD' hoff hq3 hP3 fr
 rintro fr st5 ⟨⟨f0,f1,f3,f4,f18,f20,f24⟩,hD,hoff⟩
 (repeat (refine qS ?_))
 refine awp_cutK (fun fr' st6=>(fr' 0=.ms q 0 L∧fr' 1=i p∧fr' 3=i b∧fr' 4=.fn (.func fid) caps∧fr' 18=i mid∧fr' 20=i k∧fr' 24=i ed∧fr' 199=bb (decide (p < k∧k < mid)))∧st6=st5) ?_ ?_
 ·by_cases c1:p < k
  ·by_cases c2:k < mid
   ·(refine w_e [] ?_;intro J hJ;simp only [];simp [f20,f1,f18,c1,c2];(refine hJ _ _ ?_;clear hJ J;simp only [ak,reduceIte]))
    simp [f0,f1,f3,f4,f18,f20,f24,c1,c2]
   ·(refine w_e [] ?_;intro J hJ;simp only [];simp [f20,f1,f18,c1,c2];(refine hJ _ _ ?_;clear hJ J;simp only [ak,reduceIte]))
    simp [f0,f1,f3,f4,f18,f20,f24,c1,c2]
  ·(refine w_e [] ?_;intro J hJ;simp only [];simp [f20,f1,c1];(refine hJ _ _ ?_;clear hJ J;simp only [ak,reduceIte]))
   simp [f0,f1,f3,f4,f18,f20,f24,c1]
 clear f0 f1 f3 f4 f18 f20 f24 fr
 rintro fr st6 ⟨⟨f0,f1,f3,f4,f18,f20,f24,f199⟩,rfl⟩
 simp only [ak]
 (repeat (refine qS ?_))
 refine awp_cut1 (fun fr' st7=>(fr' 0=.ms q 0 L∧fr' 3=i b∧fr' 4=.fn (.func fid) caps∧fr' 18=i mid∧fr' 24=i ed)∧SymL P A1 B1 (A2++B2++S) q st2 st7) ?_ ?_
 ·have hP6:=hcmp.keep _ _ hPc hoff
  have hq6:q < st6.next:=by have:=hoff.1;omega
  by_cases c:p < k∧k < mid
  ·rw [decide_eq_true c] at f199
   have hcall:=ih P A1 B1 (A2++B2++S) p k mid st6 (by omega) (nz lA1 (by omega)) (nz lB1 (by omega)) rA1 rB1 (by simp only [List.length_append];omega) hp (by omega) (by omega) hP6 hq6 hD
   (repeat' (first | (refine qC ?_;simp [f199,f0,f1,f20,f18,f4]) | (refine w_e [] ?_;intro J hJ;simp only [];simp [f199,f0,f1,f20,f18,f4])))
   refine qE hcall (by simp) ?_;rintro r s7 ⟨C,k1,k2,k3,k4⟩
   (repeat' (refine e_go ?_;simp [];(refine hJ _ _ ?_;clear hJ J;simp only [ak,reduceIte])))
   simp [f0,f3,f4,f18,f24]
   exact ⟨C,k1,k2,by rw [k3];simp,hoff.trans k4⟩
  ·rw [decide_eq_false c] at f199
   have e9:Ris (A1++B1):=by
    by_cases c1:p < k
    ·rw [zz lB1 (by omega),List.append_nil];exact rA1
    ·rw [zz lA1 (by omega),List.nil_append];exact rB1
   (repeat' (first | (refine qK ?_;simp only [ak,reduceIte]) | (refine qC ?_;simp [f199])))
   simp [f0,f3,f4,f18,f24]
   exact ⟨A1++B1,.refl _,e9,by rw [hD];simp,hoff⟩
 clear f0 f1 f3 f4 f18 f20 f24 f199 hD hoff fr
 rintro fr st7 ⟨⟨f0,f3,f4,f18,f24⟩,C,c1,c2,hD,hoff⟩
 have lC:=c1.length_eq
 rw [List.length_append,lA1,lB1] at lC
 have hD:st7.H q=.box 34 3 (eds (P++C++A2++B2++S)):=by rw [hD];simp
 (repeat (refine qS ?_))
 refine awp_cutK (fun fr' st8=>(fr' 0=.ms q 0 L∧fr' 3=i b∧fr' 4=.fn (.func fid) caps∧fr' 18=i mid∧fr' 24=i ed∧fr' 213=bb (decide (mid < ed∧ed < b)))∧st8=st7) ?_ ?_
 ·by_cases c1:mid < ed
  ·by_cases c2:ed < b
   ·(refine w_e [] ?_;intro J hJ;simp only [];simp [f24,f3,f18,c1,c2];(refine hJ _ _ ?_;clear hJ J;simp only [ak,reduceIte]))
    simp [f0,f3,f4,f18,f24,c1,c2]
   ·(refine w_e [] ?_;intro J hJ;simp only [];simp [f24,f3,f18,c1,c2];(refine hJ _ _ ?_;clear hJ J;simp only [ak,reduceIte]))
    simp [f0,f3,f4,f18,f24,c1,c2]
  ·(refine w_e [] ?_;intro J hJ;simp only [];simp [f24,f18,c1];(refine hJ _ _ ?_;clear hJ J;simp only [ak,reduceIte]))
   simp [f0,f3,f4,f18,f24,c1]
 clear f0 f3 f4 f18 f24 fr
 rintro fr st8 ⟨⟨f0,f3,f4,f18,f24,f213⟩,rfl⟩
 simp only [ak]
 have hP8:=hcmp.keep _ _ hPc hoff
 have hq8:q < st8.next:=by have:=hoff.1;omega
 by_cases c:mid < ed∧ed < b
 ·rw [decide_eq_true c] at f213
  have hcall:=ih (P++C) A2 B2 S mid ed b st8 (by omega) (nz lA2 (by omega)) (nz lB2 (by omega)) rA2 rB2 (by simp only [List.length_append];omega) (by simp only [List.length_append];omega) (by omega) (by omega) hP8 hq8 hD
  (repeat' (first | (refine qC ?_;simp [f213,f0,f3,f24,f18,f4]) | (refine w_e [] ?_;intro J hJ;simp only [];simp [f213,f0,f3,f24,f18,f4])))
  refine qE hcall (by simp) ?_;rintro r s9 ⟨D,k1,k2,k3,k4⟩
  (repeat' (refine e_go ?_;simp [];(refine hJ _ _ ?_;clear hJ J;simp only [ak,reduceIte])))
  obtain ⟨j1,j2⟩:=hj C D c1 k1 c2 k2
  exact ⟨trivial,C++D,j1,j2,by rw [k3];simp,hoff.trans k4⟩
 ·rw [decide_eq_false c] at f213
  have e9:Ris (A2++B2):=by
   by_cases c1:mid < ed
   ·rw [zz lB2 (by omega),List.append_nil];exact rA2
   ·rw [zz lA2 (by omega),List.nil_append];exact rB2
  (repeat' (first | (refine qK ?_;simp only [ak,reduceIte]) | (refine qC ?_;simp [f213])))
  obtain ⟨j1,j2⟩:=hj C (A2++B2) c1 (.refl _) c2 e9
  exact ⟨trivial,C++(A2++B2),j1,j2,by rw [hD];simp,hoff⟩
structure Mgd (D D':List Ed) (lo hi:Nat):Prop where
 len:D'.length=D.length
 perm:D'.Perm D
 out:∀ j,j < lo∨hi≤j→D'.getD j ed0=D.getD j ed0
 inn:∀ j k,lo≤j→j≤k→k < hi→(D'.getD j ed0).id≤(D'.getD k ed0).id
theorem mgd {D P X S C:List Ed} (hD:P++X++S=D) (hC:C.Perm X) (hr:Ris C) {lo hi:Nat} (h1:P.length=lo) (h2:hi=lo+X.length):Mgd D (P++C++S) lo hi:=by
 have hl:=hC.length_eq
 subst hD
 refine ⟨by simp [hl],List.Perm.append_right _ (List.Perm.append_left _ hC),fun j hj=>?_,fun j k hj hjk hk=>?_⟩
 ·rcases Nat.lt_or_ge j lo with h | h
  ·rw [getL _ _ _ (by simp;omega),getL _ _ _ (by omega),getL _ _ _ (by simp;omega),getL _ _ _ (by omega)]
  ·have e1:=getR (P++C) S (j - hi)
   have e2:=getR (P++X) S (j - hi)
   have l1:(P++C).length+(j - hi)=j:=by simp;omega
   have l2:(P++X).length+(j - hi)=j:=by simp;omega
   rw [l1] at e1
   rw [l2] at e2
   rw [e1,e2]
 ·have e:∀ x,lo≤x→x < hi→(P++C++S).getD x ed0=C.getD (x - lo) ed0:=fun x g1 g2=>by
   have e1:=getR P (C++S) (x - lo)
   rw [show P.length+(x - lo)=x by omega,getL C S (x - lo) (by omega)] at e1
   rw [← e1];simp
  rw [e j hj (by omega),e k (by omega) hk]
  exact ris_get hr (by omega) (by omega)
theorem cut3 (D:List Ed) (lo hi:Nat) (h:lo≤hi):D.take lo++(D.drop lo).take (hi - lo)++D.drop hi=D:=by
 have e:(D.drop lo).drop (hi - lo)=D.drop hi:=by rw [List.drop_drop];congr 1;omega
 rw [List.append_assoc,← e,List.take_append_drop,List.take_append_drop]
theorem ris_cut {D:List Ed} {lo hi:Nat} (hh:hi≤D.length) (h:∀ j k,lo≤j→j≤k→k < hi→(D.getD j ed0).id≤(D.getD k ed0).id):Ris ((D.drop lo).take (hi - lo)):=by
 refine List.pairwise_iff_getElem.2 fun a b ha hb hab=>?_
 simp only [List.length_take,List.length_drop] at ha hb
 rw [List.getElem_take,List.getElem_take,List.getElem_drop,List.getElem_drop,← getDE D (lo+a) (by omega),← getDE D (lo+b) (by omega)]
 exact h _ _ (by omega) (by omega) (by omega)
section
variable (q L:Nat) (fid:FuncId) (caps:List LV) (Pc:St→Prop) (hcmp:CmpAt fid caps q Pc) (hl:L≤100000)
include hcmp hl
theorem insAt (D:List Ed) (a b:Nat) (st:St) (hD:D.length=L) (ha:a≤b) (hb:b≤L) (hPc:Pc st) (hq:q < st.next) (hH:st.H q=.box 34 3 (eds D)):
 ACalls Tryz.prog 82 [.ms q 0 L,i a,i b,.fn (.func fid) caps] st fun r st'=>∃ D',st'.H q=.box 34 3 (eds D')∧Mgd D D' a b∧OffS q st st':=by
 have hc:=cut3 D a b ha
 have l1:(D.take a).length=a:=by rw [List.length_take];omega
 have l2:((D.drop a).take (b - a)).length=b - a:=by rw [List.length_take,List.length_drop];omega
 have h:=insSort (D.take a) ((D.drop a).take (b - a)) (D.drop b) q fid caps Pc st hcmp hPc hq (by rw [hc];omega) (by rw [hc];exact hH)
 rw [hc,hD,l1,l2,show a+(b - a)=b by omega] at h
 refine h.mono ?_
 rintro r st' ⟨Y,h1,h2,h3,h4⟩
 exact ⟨_,h3,mgd hc h1 h2 l1 (by omega),h4⟩
theorem symAt (D:List Ed) (a m b:Nat) (st:St) (hD:D.length=L) (ha:a < m) (hm:m < b) (hb:b≤L) (h1:∀ j k,a≤j→j≤k→k < m→(D.getD j ed0).id≤(D.getD k ed0).id) (h2:∀ j k,m≤j→j≤k→k < b→(D.getD j ed0).id≤(D.getD k ed0).id) (hPc:Pc st) (hq:q < st.next) (hH:st.H q=.box 34 3 (eds D)):
 ACalls Tryz.prog 83 [.ms q 0 L,i a,i m,i b,.fn (.func fid) caps] st fun r st'=>∃ D',st'.H q=.box 34 3 (eds D')∧Mgd D D' a b∧OffS q st st':=by
 have hc1:=cut3 D m b (by omega)
 have hc2:=cut3 (D.take m) a m (by omega)
 have e1:((D.take m).drop a).take (m - a)=(D.drop a).take (m - a):=by rw [List.drop_take,List.take_take,Nat.min_self]
 have e2:(D.take m).drop m=[]:=by rw [List.drop_eq_nil_iff,List.length_take];omega
 have e3:(D.take m).take a=D.take a:=by rw [List.take_take,Nat.min_eq_left (by omega)]
 rw [e1,e2,e3,List.append_nil] at hc2
 have hc:D.take a++(D.drop a).take (m - a)++(D.drop m).take (b - m)++D.drop b=D:=by rw [hc2,hc1]
 have l1:(D.take a).length=a:=by rw [List.length_take];omega
 have l2:((D.drop a).take (m - a)).length=m - a:=by rw [List.length_take,List.length_drop];omega
 have l3:((D.drop m).take (b - m)).length=b - m:=by rw [List.length_take,List.length_drop];omega
 have r1:=ris_cut (D:=D) (lo:=a) (hi:=m) (by omega) h1
 have r2:=ris_cut (D:=D) (lo:=m) (hi:=b) (by omega) h2
 have h:=symMerge q L fid caps Pc hcmp hl _ (D.take a) ((D.drop a).take (m - a)) ((D.drop m).take (b - m)) (D.drop b) a m b st (Nat.le_refl _) (fun e=>by rw [e] at l2;simp at l2;omega) (fun e=>by rw [e] at l3;simp at l3;omega) r1 r2 (by rw [hc];exact hD) l1 (by omega) (by omega) hPc hq (by rw [hc];exact hH)
 refine h.mono ?_
 rintro r st' ⟨C,k1,k2,k3,k4⟩
 refine ⟨_,k3,mgd (X:=(D.drop a).take (m - a)++(D.drop m).take (b - m)) (by rw [← List.append_assoc (D.take a)];exact hc) k1 k2 l1 (by simp only [List.length_append];omega),k4⟩
end
def Bs (s lo hi:Nat) (D:List Ed):Prop:=∀ j k,lo≤j→j≤k→k < hi→j / s=k / s→(D.getD j ed0).id≤(D.getD k ed0).id
theorem div_in {s t j:Nat} (h1:s * t≤j) (h2:j < s * t+s):j / s=t:=by
 refine Nat.div_eq_of_lt_le ?_ ?_
 ·rw [Nat.mul_comm];exact h1
 ·rw [Nat.mul_comm,Nat.mul_succ];exact h2
theorem Bs.ext {s a b t:Nat} {D D':List Ed} (h:Bs s 0 a D) (hm:Mgd D D' a b) (hs:0 < s) (ht:a=s * t):Bs s 0 b D':=by
 intro j k _ hjk hk he
 rcases Nat.lt_or_ge k a with h1 | h1
 ·rw [hm.out j (.inl (by omega)),hm.out k (.inl h1)]
  exact h j k (Nat.zero_le _) hjk h1 he
 ·rcases Nat.lt_or_ge j a with h2 | h2
  ·have h3:j / s < t:=Nat.div_lt_of_lt_mul (by omega)
   have h4:t≤k / s:=(Nat.le_div_iff_mul_le hs).2 (by rw [Nat.mul_comm];omega)
   omega
  ·exact hm.inn j k h2 hjk hk
theorem Bs.rest {s a b:Nat} {L:Nat} {D D':List Ed} (h:Bs s a L D) (hm:Mgd D D' a b) (hab:a≤b):Bs s b L D':=by
 intro j k h1 hjk hk he
 rw [hm.out j (.inr h1),hm.out k (.inr (by omega))]
 exact h j k (by omega) hjk hk he
theorem Bs.block {s a L t:Nat} {D:List Ed} (h:Bs s a L D) {c:Nat} (hc:s * t=c) (hac:a≤c) {j k:Nat} (h1:c≤j) (h2:j≤k) (h3:k < c+s) (h4:k < L):(D.getD j ed0).id≤(D.getD k ed0).id:=
 h j k (by omega) h2 h4 ((div_in (t:=t) (by omega) (by omega)).trans (div_in (by omega) (by omega)).symm)
theorem Bs.all {s L:Nat} {D:List Ed} (h:Bs s 0 L D) (hs:L≤s) (hD:D.length=L):Ris D:=by
 have:=ris_cut (D:=D) (lo:=0) (hi:=L) (by omega) fun j k h1 h2 h3=>h j k h1 h2 h3 (by rw [Nat.div_eq_of_lt (by omega),Nat.div_eq_of_lt (by omega)])
 rwa [List.drop_zero,List.take_of_length_le (by omega)] at this
theorem Mgd.from {D D':List Ed} {a b:Nat} (h:Mgd D D' a b) {D0:List Ed} (k:D.Perm D0):D'.Perm D0:=h.perm.trans k
def StbI (D0:List Ed) (q L:Nat) (st st2:St) (D:List Ed):Prop:=D.length=L∧D.Perm D0∧st2.H q=.box 34 3 (eds D)∧OffS q st st2
theorem StbI.step {D0:List Ed} {q L:Nat} {st st2 st3:St} {D D':List Ed} {a b:Nat} (h:StbI D0 q L st st2 D) (hm:Mgd D D' a b) (h1:st3.H q=.box 34 3 (eds D')) (h2:OffS q st2 st3):StbI D0 q L st st3 D':=
 ⟨hm.len.trans h.1,hm.from h.2.1,h1,h.2.2.2.trans h2⟩
set_option maxHeartbeats 1000000 in
theorem stable (D0:List Ed) (q L:Nat) (fid:FuncId) (caps:List LV) (Pc:St→Prop) (st:St) (hcmp:CmpAt fid caps q Pc) (hPc:Pc st) (hq:q < st.next) (hL:D0.length=L) (hl:L≤100000) (hH:st.H q=.box 34 3 (eds D0)):
 ACalls Tryz.prog 59 [.ms q 0 L,i L,.fn (.func fid) caps] st fun r st'=>∃ D,D.Perm D0∧Ris D∧st'.H q=.box 34 3 (eds D)∧OffS q st st':=by
 refine qO tabOk Tryz.func59 rfl rfl Tryz.ntmps59 (rs:=[]) rfl (by simp) ?_
 (repeat' (first | refine qS ?_ | refine qB ?_ | (refine w_e [] ?_;intro J hJ;simp only [];simp [];(refine hJ _ _ ?_;clear hJ J;simp only [ak,reduceIte]))))
 refine qL (fun z fr st2=>∃ (t a:Nat) (D:List Ed),a=20 * t∧a≤L∧z=L - a∧fr 0=.ms q 0 L∧fr 1=i L∧fr 2=.fn (.func fid) caps∧fr 6=i 20∧fr 7=i a∧fr 8=i (a+20:Nat)∧Bs 20 0 a D∧StbI D0 q L st st2 D) L ?_ ?_
 ·exact ⟨0,0,D0,rfl,by omega,rfl,by simp,by simp,by simp,by simp,by simp,by simp,fun j k _ _ h=>by omega,hL,.refl _,hH,OffS.refl _ _⟩
 rintro z fr st2 ⟨t,a,D,ht,ha,rfl,f0,f1,f2,f6,f7,f8,hB,hI⟩ JJ hJJ
 have hP2:=hcmp.keep _ _ hPc hI.2.2.2
 have hq2:q < st2.next:=by have:=hI.2.2.2.1;omega
 by_cases hle:a+20≤L
 ·have hle':(a:Int)+20≤L:=by omega
  have hc:=insAt q L fid caps Pc hcmp (by omega) D a (a+20) st2 hI.1 (by omega) hle hP2 hq2 hI.2.2.1
  have w1:IntKind.i64.wrap ((a:Int)+20+20)=((a+20+20:Nat):Int):=by rw [wrap_s _ (by omega) (by omega)];omega
  (repeat' (first | refine qS ?_ | refine qB ?_ | (refine qK ?_;simp only [ak,reduceIte]) | (refine qC ?_;simp [f0,f1,f2,f7,f8,hle']) | (refine w_e [] ?_;intro J hJ;simp only [];simp [f0,f1,f2,f7,f8,hle'];(try (refine hJ _ _ ?_;clear hJ J;simp only [ak,reduceIte])))))
  refine qE hc (by simp) ?_;rintro r s3 ⟨D',k1,k2,k3⟩
  (repeat' (first | refine qS ?_ | ((first | (refine w_e [] ?_;intro J hJ;simp only []) | (refine e_go ?_));simp [f8,f6,w1];(refine hJ _ _ ?_;clear hJ J;simp only [ak,reduceIte]))))
  exact hJJ (L - (a+20)) _ _ (by omega) ⟨t+1,a+20,D',by omega,hle,rfl,by simp [f0],by simp [f1],by simp [f2],by simp [f6],by simp,by simp,hB.ext k2 (by omega) ht,hI.step k2 k1 k3⟩
 clear hJJ
 have hle':¬ (a:Int)+20≤L:=by omega
 have hc:=insAt q L fid caps Pc hcmp (by omega) D a L st2 hI.1 ha (Nat.le_refl _) hP2 hq2 hI.2.2.1
 (repeat' (first | refine qS ?_ | (refine qX ?_;simp only [ak,reduceIte]) | (refine qC ?_;simp [f0,f1,f2,f7,f8,hle']) | (refine w_e [] ?_;intro J hJ;simp only [];simp [f0,f1,f2,f7,f8,hle'];(try (refine hJ _ _ ?_;clear hJ J;simp only [ak,reduceIte])))))
 refine qE hc (by simp) ?_;rintro r s3 ⟨D',k1,k2,k3⟩
 have hB2:=hB.ext k2 (by omega) ht
 have hI2:=hI.step k2 k1 k3
 (repeat' (first | refine qB ?_ | (refine e_go ?_;simp [];(refine hJ _ _ ?_;clear hJ J;simp only [ak,reduceIte]))))
 refine qL (fun z fr st2=>∃ (s:Nat) (D:List Ed),0 < s∧s≤200040∧z=L - s∧fr 0=.ms q 0 L∧fr 1=i L∧fr 2=.fn (.func fid) caps∧fr 6=i s∧Bs s 0 L D∧StbI D0 q L st st2 D) (L - 20) ?_ ?_
 ·exact ⟨20,D',by omega,by omega,rfl,by simp [f0],by simp [f1],by simp [f2],by simp [f6],hB2,hI2⟩
 clear hB2 hI2 k1 k2 k3 hc hI hB f0 f1 f2 f6 f7 f8 hP2 hq2 hle hle' ht ha fr
 rintro z fr st3 ⟨s,D,hs0,hs1,rfl,f0,f1,f2,f6,hB,hI⟩ JJ hJJ
 by_cases hlt:s < L
 rotate_left
 ·clear hJJ
  have hlt':¬ (s:Int) < L:=by omega
  (repeat' (first | refine qS ?_ | (refine qX ?_;simp only [ak,reduceIte]) | (refine qC ?_;simp [f1,f6,hlt,hlt']) | (refine w_e [] ?_;intro J hJ;simp only [];simp [f1,f6,hlt,hlt'];(refine hJ _ _ ?_;clear hJ J;simp only [ak,reduceIte]))))
  exact ⟨trivial,D,hI.2.1,hB.all (by omega) hI.1,hI.2.2⟩
 have hlt':(s:Int) < L:=by omega
 have w2:IntKind.i64.wrap (2 * (s:Int))=((2 * s:Nat):Int):=by rw [wrap_s _ (by omega) (by omega)];omega
 have w2':IntKind.i64.wrap ((s:Int) * 2)=((2 * s:Nat):Int):=by rw [wrap_s _ (by omega) (by omega)];omega
 obtain ⟨s2,hs2⟩:∃ s2:Nat,s2=2 * s:=⟨_,rfl⟩
 rw [← hs2] at w2 w2'
 (repeat' (first | refine qS ?_ | refine qB ?_ | (refine qK ?_;simp only [ak,reduceIte]) | (refine qC ?_;simp [f1,f6,hlt,hlt',w2]) | (refine w_e [] ?_;intro J hJ;simp only [];simp [f1,f6,hlt,hlt',w2];(refine hJ _ _ ?_;clear hJ J;simp only [ak,reduceIte]))))
 refine qL (fun z fr st2=>∃ (t a:Nat) (D:List Ed),a=s2 * t∧a≤L∧z=L - a∧fr 0=.ms q 0 L∧fr 1=i L∧fr 2=.fn (.func fid) caps∧fr 6=i s∧fr 7=i a∧fr 8=i (a+s2:Nat)∧Bs s2 0 a D∧Bs s a L D∧StbI D0 q L st st2 D) L ?_ ?_
 ·exact ⟨0,0,D,by omega,by omega,rfl,by simp [f0],by simp [f1],by simp [f2],by simp [f6],by simp,by simp,fun j k _ _ h=>by omega,hB,hI⟩
 clear f0 f1 f2 f6 hB hI fr D
 rintro z fr st4 ⟨t,a,D,ht,ha,rfl,f0,f1,f2,f6,f7,f8,hB,hR,hI⟩ J2 hJ2
 have hP4:=hcmp.keep _ _ hPc hI.2.2.2
 have hq4:q < st4.next:=by have:=hI.2.2.2.1;omega
 have e0:s * (2 * t)=a:=by rw [ht,hs2,Nat.mul_comm 2 s,Nat.mul_assoc]
 have e1:s * (2 * t+1)=a+s:=by rw [Nat.mul_succ,e0]
 have w3:IntKind.i64.wrap ((a:Int)+s)=((a+s:Nat):Int):=by rw [wrap_s _ (by omega) (by omega)];omega
 obtain ⟨m,hm⟩:∃ m:Nat,m=a+s:=⟨_,rfl⟩
 rw [← hm] at w3
 by_cases hle:a+s2≤L
 ·have hle':(a:Int)+s2≤L:=by omega
  have hc:=symAt q L fid caps Pc hcmp hl D a m (a+s2) st4 hI.1 (by omega) (by omega) hle (fun j k h1 h2 h3=>hR.block e0 (Nat.le_refl _) h1 h2 (by omega) (by omega)) (fun j k h1 h2 h3=>hR.block e1 (by omega) (by omega) h2 (by omega) (by omega)) hP4 hq4 hI.2.2.1
  have w1:IntKind.i64.wrap ((a:Int)+s2+s2)=((a+s2+s2:Nat):Int):=by rw [wrap_s _ (by omega) (by omega)];omega
  (repeat' (first | refine qS ?_ | refine qB ?_ | (refine qK ?_;simp only [ak,reduceIte]) | (refine qC ?_;simp [f0,f1,f2,f6,f7,f8,hle',w3]) | (refine w_e [] ?_;intro J hJ;simp only [];simp [f0,f1,f2,f6,f7,f8,hle',w3];(try (refine hJ _ _ ?_;clear hJ J;simp only [ak,reduceIte])))))
  refine qE hc (by simp) ?_;rintro r s3 ⟨D',k1,k2,k3⟩
  (repeat' (first | refine qS ?_ | ((first | (refine w_e [] ?_;intro J hJ;simp only []) | (refine e_go ?_));simp [f8,f6,w2,w1];(refine hJ _ _ ?_;clear hJ J;simp only [ak,reduceIte]))))
  exact hJ2 (L - (a+s2)) _ _ (by omega) ⟨t+1,a+s2,D',by rw [Nat.mul_succ];omega,hle,rfl,by simp [f0],by simp [f1],by simp [f2],by simp [f6],by simp,by simp,hB.ext k2 (by omega) ht,hR.rest k2 (by omega),hI.step k2 k1 k3⟩
 clear hJ2
 have hle':¬ (a:Int)+s2≤L:=by omega
 have hfin:∀ fr' st5 D',fr' 0=.ms q 0 L∧fr' 1=i L∧fr' 2=.fn (.func fid) caps∧fr' 6=i s2→Bs s2 0 L D'→StbI D0 q L st st5 D'→JJ fr' st5:=by
  rintro fr' st5 D' ⟨g0,g1,g2,g6⟩ h1 h2
  exact hJJ (L - s2) _ _ (by omega) ⟨s2,D',by omega,by omega,rfl,g0,g1,g2,g6,h1,h2⟩
 by_cases hml:m < L
 ·have hml':(m:Int) < L:=by omega
  have hc:=symAt q L fid caps Pc hcmp hl D a m L st4 hI.1 (by omega) hml (Nat.le_refl _) (fun j k h1 h2 h3=>hR.block e0 (Nat.le_refl _) h1 h2 (by omega) (by omega)) (fun j k h1 h2 h3=>hR.block e1 (by omega) (by omega) h2 (by omega) (by omega)) hP4 hq4 hI.2.2.1
  (repeat' (first | refine qS ?_ | (refine qX ?_;simp only [ak,reduceIte]) | (refine qC ?_;simp [f0,f1,f2,f6,f7,f8,hle',w3,hml,hml']) | (refine w_e [] ?_;intro J hJ;simp only [];simp [f0,f1,f2,f6,f7,f8,hle',w3,hml,hml'];(try (refine hJ _ _ ?_;clear hJ J;simp only [ak,reduceIte])))))
  refine qE hc (by simp) ?_;rintro r s3 ⟨D',k1,k2,k3⟩
  (repeat' ((first | (refine w_e [] ?_;intro J hJ;simp only []) | (refine e_go ?_));simp [f6,w2'];(refine hJ _ _ ?_;clear hJ J;simp only [ak,reduceIte])))
  exact hfin _ _ D' ⟨by simp [f0],by simp [f1],by simp [f2],by simp⟩ (hB.ext k2 (by omega) ht) (hI.step k2 k1 k3)
 ·have hml':¬ (m:Int) < L:=by omega
  (repeat' (first | refine qS ?_ | (refine qK ?_;simp only [ak,reduceIte]) | (refine qX ?_;simp only [ak,reduceIte]) | (refine qC ?_;simp [f0,f1,f2,f6,f7,f8,hle',w3,hml,hml',w2']) | (refine w_e [] ?_;intro J hJ;simp only [];simp [f0,f1,f2,f6,f7,f8,hle',w3,hml,hml',w2'];(refine hJ _ _ ?_;clear hJ J;simp only [ak,reduceIte]))))
  refine hfin _ _ D ⟨by simp [f0],by simp [f1],by simp [f2],by simp⟩ (fun j k h0 hjk hk he=>?_) hI
  rcases Nat.lt_or_ge k a with h1 | h1
  ·exact hB j k h0 hjk h1 he
  ·rcases Nat.lt_or_ge j a with h2 | h2
   ·have h3:j / s2 < t:=Nat.div_lt_of_lt_mul (by omega)
    have h4:t≤k / s2:=(Nat.le_div_iff_mul_le (by omega)).2 (by rw [Nat.mul_comm];omega)
    omega
   ·exact hR.block e0 (Nat.le_refl _) h2 hjk (by omega) hk
end Go.Proofs.YtkcokoefodgigaaGreat.Aw
namespace Go.Proofs.YtkcokoefodgigaaGreat.Aw.U
open Go Go.RowKit Go.Proofs.YtkcokoefodgigaaGreat.Pl
set_option linter.unusedSimpArgs false
set_option linter.unusedVariables false
def be (st:St) (q:Nat) (c:List Int):St:=st.set q (.box 32 1 (us c))
@[simp] theorem be_next (st:St) (q:Nat) (c:List Int):(be st q c).next=st.next:=rfl
@[simp] theorem be_H (st:St) (q:Nat) (c:List Int):(be st q c).H q=.box 32 1 (us c):=by simp [be]
theorem be_ne (st:St) (q l:Nat) (c:List Int) (h:l≠q):(be st q c).H l=st.H l:=by simp [be,h]
theorem be_be (st:St) (q:Nat) (c d:List Int):be (be st q c) q d=be st q d:=by unfold be;exact St.set_set _ _ _ _
theorem be_self {st:St} {q:Nat} {c:List Int} (h:st.H q=.box 32 1 (us c)):be st q c=st:=St.ext' rfl fun y=>by
 by_cases hy:y=q
 ·subst hy;rw [be_H,h]
 ·rw [be_ne _ _ _ _ hy]
theorem be_set (st:St) (q:Nat) (c:List Int) (k:Nat) (x:Int) (hk:k < c.length):(be st q c).set q (.box 32 1 ((us c).take k++(u x::(us c).drop (k+1))))=be st q (c.set k x):=by
 rw [us_set _ _ _ hk];unfold be;exact St.set_set _ _ _ _
theorem be_put (st:St) (q:Nat) (c d:List Int):(be st q c).set q (.box 32 1 (us d))=be st q d:=by unfold be;exact St.set_set _ _ _ _
theorem getDE (l:List Int) (j:Nat) (hj:j < l.length):l.getD j 0=l[j]:=by
 rw [List.getD_eq_getElem?_getD,List.getElem?_eq_getElem hj];rfl
def swR (c:List Int) (a b:Nat):Nat→List Int
 | 0=>c
 | n+1=>swR ((c.set a (c.getD b 0)).set b (c.getD a 0)) (a+1) (b+1) n
theorem set_mid (U:List Int) (x y:Int) (W:List Int):(U++x::W).set U.length y=U++y::W:=by
 rw [List.set_append_right _ _ (Nat.le_refl _)];simp
theorem getD_mid (U:List Int) (x:Int) (W:List Int):(U++x::W).getD U.length 0=x:=by
 rw [List.getD_eq_getElem?_getD,List.getElem?_append_right (Nat.le_refl _)];simp
theorem swR_blocks:∀ (n:Nat) (U A M B V:List Int),A.length=n→B.length=n→swR (U++A++M++B++V) U.length (U.length+n+M.length) n=U++B++M++A++V
 | 0,U,A,M,B,V,hA,hB=>by
   rw [List.eq_nil_of_length_eq_zero hA,List.eq_nil_of_length_eq_zero hB];rfl
 | n+1,U,x::A,M,y::B,V,hA,hB=>by
   simp only [List.length_cons,Nat.add_right_cancel_iff] at hA hB
   rw [swR]
   have e1:U++x::A++M++y::B++V=U++x::(A++M++y::B++V):=by simp
   have e2:U++x::(A++M++y::B++V)=(U++x::A++M)++y::(B++V):=by simp
   have l2:U.length+(n+1)+M.length=(U++x::A++M).length:=by simp [hA];omega
   have g1:(U++x::A++M++y::B++V).getD U.length 0=x:=by rw [e1,getD_mid]
   have g2:(U++x::A++M++y::B++V).getD (U.length+(n+1)+M.length) 0=y:=by rw [e1,e2,l2,getD_mid]
   rw [g1,g2,e1,set_mid]
   have e3:U++y::(A++M++y::B++V)=(U++y::A++M)++y::(B++V):=by simp
   have l3:U.length+(n+1)+M.length=(U++y::A++M).length:=by simp [hA];omega
   rw [e3,l3,set_mid,← l3]
   have e4:U++y::A++M++x::(B++V)=(U++[y])++A++(M++[x])++B++V:=by simp
   have l4:U.length+(n+1)+M.length+1=(U++[y]).length+n+(M++[x]).length:=by simp;omega
   have l5:U.length+1=(U++[y]).length:=by simp
   rw [e4,l4,l5,swR_blocks n (U++[y]) A (M++[x]) B V hA hB]
   simp
theorem wrap_s (n:Int) (h0 : -9223372036854775808≤n) (h1:n≤9223372036854775807):IntKind.i64.wrap n=n:=by
 simp only [IntKind.wrap,IntKind.signed,IntKind.bits]
 simp
 split<;>omega
theorem swapRange (c:List Int) (q a b n:Nat) (F:Fn) (caps:List LV) (st:St) (hc:c.length≤100000) (hab:a+n≤b) (hb:b+n≤c.length) (hH:st.H q=.box 32 1 (us c)):
 ACalls Tryz.prog 108 [.ms q 0 c.length,i a,i b,i n,.fn F caps] st fun r st'=>st'=be st q (swR c a b n):=by
 refine qO tabOk Tryz.func108 rfl rfl Tryz.ntmps108 (rs:=[]) rfl (by simp) ?_
 (repeat' (first | refine qS ?_ | refine qB ?_ | (refine w_e [] ?_;intro J hJ;simp only [];simp [];(refine hJ _ _ ?_;clear hJ J;simp only [ak,reduceIte]))))
 refine qL (fun z fr st2=>∃ (k:Nat) (d:List Int),k≤n∧z=n - k∧fr 0=.ms q 0 c.length∧fr 1=i a∧fr 2=i b∧fr 3=i n∧fr 10=i k∧st2=be st q d∧d.length=c.length∧swR d (a+k) (b+k) (n - k)=swR c a b n) n ?_ ?_
 ·exact ⟨0,c,by omega,by omega,by simp,by simp,by simp,by simp,by simp,(be_self hH).symm,rfl,rfl⟩
 rintro z fr st2 ⟨k,d,hk,rfl,f0,f1,f2,f3,f10,rfl,hdl,hsw⟩ JJ hJJ
 by_cases hlt:k < n
 rotate_left
 ·clear hJJ
  obtain rfl:k=n:=by omega
  rw [Nat.sub_self] at hsw
  (repeat' (first | refine qS ?_ | (refine qX ?_;simp only [ak,reduceIte]) | (refine qC ?_;simp [f3,f10]) | (refine w_e [] ?_;intro J hJ;simp only [];simp [f3,f10];(refine hJ _ _ ?_;clear hJ J;simp only [ak,reduceIte]))))
  simp
  rw [← hsw];rfl
 have hw:=wrap_s ((k:Int)+1) (by omega) (by omega)
 have wa:IntKind.i64.wrap ((a:Int)+k)=((a+k:Nat):Int):=by rw [wrap_s _ (by omega) (by omega)];omega
 have wb:IntKind.i64.wrap ((b:Int)+k)=((b+k:Nat):Int):=by rw [wrap_s _ (by omega) (by omega)];omega
 have hel:=us_len d
 have da:=qG d (a+k) (by omega)
 have db:=qG d (b+k) (by omega)
 have hsn:swR ((d.set (a+k) (d.getD (b+k) 0)).set (b+k) (d.getD (a+k) 0)) (a+(k+1)) (b+(k+1)) (n - (k+1))=swR c a b n:=by
  rw [← hsw,show n - k=(n - (k+1))+1 by omega,swR];rfl
 have s1:=fun x=>be_set st q d (a+k) x (by omega)
 have s2:=fun x y=>be_set st q (d.set (a+k) y) (b+k) x (by simp;omega)
 generalize ha:a+k=pa at *
 generalize hbk:b+k=pb at *
 have hne:¬ pa=pb:=by omega
 generalize hxe:d.getD pa 0=x at *
 generalize hye:d.getD pb 0=y at *
 have hA3:pa  + 1≤d.length  := by omega
 have hB3:pb  + 1≤d.length  := by omega
 have hA4:pa < d.length:=by omega
 have hB4:pb < d.length:=by omega
 obtain ⟨xi,rfl⟩:∃ xi,xi=x:=⟨_,rfl⟩
 obtain ⟨yi,rfl⟩:∃ yi,yi=y:=⟨_,rfl⟩
 have s1':=s1 yi
 have s2':=s2 xi yi
 try simp only at da db s1' s2'
 have hel2:=us_len (d.set pa yi)
 rw [List.length_set] at hel2
 (repeat' (first | refine qS ?_ | refine qB ?_ | (refine qK ?_;simp only [ak,reduceIte]) | (refine qC ?_;simp [f0,f1,f2,f3,f10,hlt]) | (refine w_e [] ?_;intro J hJ;simp only [];simp [f0,f1,f2,f3,f10,hlt];(refine hJ _ _ ?_;clear hJ J;simp only [ak,reduceIte]))))
 (refine w_s [] [q] [(0,true),(1,true),(2,true),(3,true),(4,true),(5,true),(6,true),(7,true),(8,true),(9,true),(10,true),(11,true),(12,true),(13,true),(14,true),(15,true),(16,true),(17,true),(18,true),(19,true),(20,true),(21,false),(22,true),(23,false)] ?_;intro J hJ;simp [f0,f1,f2,f10,wa,wb,hdl,da,db,hel];(repeat refine ca ?_);(refine hJ _ _ ?_;clear hJ J;simp only [ak,reduceIte]))
 have e1:=us_set d pa yi hA4
 try simp only at e1
 rw [e1,be_put,s2']
 (repeat' (refine w_e [] ?_;intro J hJ;simp only [];simp [f10,hw];(refine hJ _ _ ?_;clear hJ J;simp only [ak,reduceIte])))
 exact hJJ (n - (k+1)) _ _ (by omega) ⟨k+1,_,by omega,rfl,by simp [f0],by simp [f1],by simp [f2],by simp [f3],by simp,rfl,by simp [hdl],hsn⟩
theorem rotate (P X Y S:List Int) (q:Nat) (F:Fn) (caps:List LV) (st:St) (hX:X≠[]) (hY:Y≠[]) (hl:(P++X++Y++S).length≤100000) (hH:st.H q=.box 32 1 (us (P++X++Y++S))):
 ACalls Tryz.prog 100 [.ms q 0 (P++X++Y++S).length,i P.length,i (P.length+X.length:Nat),i (P.length+X.length+Y.length:Nat),.fn F caps] st fun r st'=>st'=be st q (P++Y++X++S):=by
 generalize hL:(P++X++Y++S).length=L at *
 have hLl:L=P.length+X.length+Y.length+S.length:=by rw [← hL];simp only [List.length_append]
 generalize hm:P.length+X.length=m at *
 have hX0:0 < X.length:=List.length_pos_iff.2 hX
 have hY0:0 < Y.length:=List.length_pos_iff.2 hY
 refine qO tabOk Tryz.func100 rfl rfl Tryz.ntmps100 (rs:=[]) rfl (by simp) ?_
 have w1:IntKind.i64.wrap ((m:Int) - P.length)=(X.length:Int):=by rw [wrap_s _ (by omega) (by omega)];omega
 have w2:IntKind.i64.wrap ((m:Int)+Y.length - m)=(Y.length:Int):=by rw [wrap_s _ (by omega) (by omega)];omega
 (repeat' (first | refine qS ?_ | refine qB ?_ | (refine w_e [] ?_;intro J hJ;simp only [];simp [w1,w2];(refine hJ _ _ ?_;clear hJ J;simp only [ak,reduceIte]))))
 refine qL (fun z fr st2=>∃ U A B V:List Int,z=A.length+B.length∧(A≠[]∧B≠[])∧U.length+A.length=m∧U++B++A++V=P++Y++X++S∧(U++A++B++V).length=L∧st2=be st q (U++A++B++V)∧fr 0=.ms q 0 L∧fr 2=i m∧fr 4=.fn F caps∧fr 10=i A.length∧fr 11=i B.length) (X.length+Y.length) ?_ ?_
 ·exact ⟨P,X,Y,S,rfl,⟨hX,hY⟩,hm,rfl,hL,(be_self hH).symm,by simp,by simp,by simp,by simp,by simp⟩
 rintro z fr st2 ⟨U,A,B,V,rfl,⟨hA,hB⟩,hUm,htg,hcl,rfl,f0,f2,f4,f10,f11⟩ JJ hJJ
 have hA0:0 < A.length:=List.length_pos_iff.2 hA
 have hB0:0 < B.length:=List.length_pos_iff.2 hB
 have hcl':L=U.length+A.length+B.length+V.length:=by rw [← hcl];simp only [List.length_append]
 have wa:IntKind.i64.wrap ((m:Int) - A.length)=(U.length:Int):=by rw [wrap_s _ (by omega) (by omega)];omega
 by_cases hEq:A.length=B.length
 ·clear hJJ
  have hcall:=swapRange (U++A++B++V) q U.length m A.length F caps (be st q (U++A++B++V)) (by omega) (by omega) (by omega) (by simp)
  have hsw:=swR_blocks A.length U A [] B V rfl hEq.symm
  simp only [List.length_nil,Nat.add_zero,List.append_nil] at hsw
  rw [hcl,← hUm,hsw,hUm,be_be,htg] at hcall
  generalize U++A++B++V=c0 at *
  generalize P++Y++X++S=c1 at *
  have wa':=wa
  rw [hEq] at wa'
  (repeat' (first | refine qS ?_ | (refine qX ?_;simp only [ak,reduceIte]) | (refine qC ?_;simp [f0,f2,f4,f10,f11,hEq,wa,wa']) | (refine w_e [] ?_;intro J hJ;simp only [];simp [f0,f2,f4,f10,f11,hEq,wa,wa'];(try (refine hJ _ _ ?_;clear hJ J;simp only [ak,reduceIte])))))
  refine qE hcall (by simp [hEq]) ?_;rintro r s3 rfl
  (repeat' (refine e_go ?_;simp [];(refine hJ _ _ ?_;clear hJ J;simp only [ak,reduceIte])))
  simp
 ·have hEq':¬ (A.length:Int)=B.length:=by omega
  by_cases hgt:B.length < A.length
  ·have hA1:(A.take B.length).length=B.length:=by simp;omega
   have hAd:A.take B.length++A.drop B.length=A:=List.take_append_drop _ _
   have hA2:(A.drop B.length).length=A.length - B.length:=by simp
   generalize A.take B.length=A1 at *
   generalize A.drop B.length=A2 at *
   have hcall:=swapRange (U++A++B++V) q U.length m B.length F caps (be st q (U++A++B++V)) (by omega) (by omega) (by omega) (by simp)
   have hsw:=swR_blocks B.length U A1 A2 B V hA1 rfl
   have e1:U++A1++A2++B++V=U++A++B++V:=by rw [← hAd];simp
   have e2:U.length+B.length+A2.length=m:=by omega
   rw [e1,e2] at hsw
   rw [hcl,hsw,be_be] at hcall
   have hgt':(B.length:Int) < A.length:=by omega
   have wb:IntKind.i64.wrap ((A.length:Int) - B.length)=(A2.length:Int):=by rw [wrap_s _ (by omega) (by omega)];omega
   generalize U++A++B++V=c0 at *
   generalize hc1:U++B++A2++A1++V=c1 at hcall
   (repeat' (first | refine qS ?_ | refine qB ?_ | (refine qK ?_;simp only [ak,reduceIte]) | (refine qC ?_;simp [f0,f2,f4,f10,f11,hEq',hgt',hEq,hgt,wa,wb]) | (refine w_e [] ?_;intro J hJ;simp only [];simp [f0,f2,f4,f10,f11,hEq',hgt',hEq,hgt,wa,wb];(try (refine hJ _ _ ?_;clear hJ J;simp only [ak,reduceIte])))))
   refine qE hcall (by simp) ?_;rintro r s3 rfl
   (repeat' ((first | (refine w_e [] ?_;intro J hJ;simp only []) | (refine e_go ?_));simp [f10,f11,wb];(refine hJ _ _ ?_;clear hJ J;simp only [ak,reduceIte])))
   refine hJJ (A2.length+A1.length) _ _ (by omega) ⟨U++B,A2,A1,V,rfl,⟨?_,?_⟩,by simp;omega,?_,?_,by rw [hc1],by simp [f0],by simp [f2],by simp [f4],by simp,by simp [f11,hA1]⟩
   ·rintro rfl;simp at hA2;omega
   ·rintro rfl;simp at hA1;omega
   ·rw [← htg,← hAd];simp
   ·simp only [List.length_append];omega
  ·have hB1:(B.take (B.length - A.length)).length=B.length - A.length:=by simp
   have hBd:B.take (B.length - A.length)++B.drop (B.length - A.length)=B:=List.take_append_drop _ _
   have hB2:(B.drop (B.length - A.length)).length=A.length:=by simp;omega
   generalize B.take (B.length - A.length)=B1 at *
   generalize B.drop (B.length - A.length)=B2 at *
   have hcall:=swapRange (U++A++B++V) q U.length (m+B1.length) A.length F caps (be st q (U++A++B++V)) (by omega) (by omega) (by omega) (by simp)
   have hsw:=swR_blocks A.length U A B1 B2 V rfl hB2
   have e1:U++A++B1++B2++V=U++A++B++V:=by rw [← hBd];simp
   have e2:U.length+A.length+B1.length=m+B1.length:=by omega
   rw [e1,e2] at hsw
   rw [hcl,hsw,be_be] at hcall
   have hgt':¬ (B.length:Int) < A.length:=by omega
   have wb:IntKind.i64.wrap ((B.length:Int) - A.length)=(B1.length:Int):=by rw [wrap_s _ (by omega) (by omega)];omega
   have wc:IntKind.i64.wrap ((m:Int)+B.length)=(m:Int)+B.length:=wrap_s _ (by omega) (by omega)
   have wd:IntKind.i64.wrap ((m:Int)+B.length - A.length)=((m+B1.length:Nat):Int):=by rw [wrap_s _ (by omega) (by omega)];omega
   generalize U++A++B++V=c0 at *
   generalize hc1:U++B2++B1++A++V=c1 at hcall
   (repeat' (first | refine qS ?_ | refine qB ?_ | (refine qK ?_;simp only [ak,reduceIte]) | (refine qC ?_;simp [f0,f2,f4,f10,f11,hEq',hgt',hEq,hgt,wa,wc,wd]) | (refine w_e [] ?_;intro J hJ;simp only [];simp [f0,f2,f4,f10,f11,hEq',hgt',hEq,hgt,wa,wc,wd];(try (refine hJ _ _ ?_;clear hJ J;simp only [ak,reduceIte])))))
   refine qE hcall (by simp) ?_;rintro r s3 rfl
   (repeat' ((first | (refine w_e [] ?_;intro J hJ;simp only []) | (refine e_go ?_));simp [f10,f11,wb];(refine hJ _ _ ?_;clear hJ J;simp only [ak,reduceIte])))
   refine hJJ (B2.length+B1.length) _ _ (by omega) ⟨U,B2,B1,A++V,rfl,⟨?_,?_⟩,by omega,?_,?_,by rw [← hc1,List.append_assoc _ A V],by simp [f0],by simp [f2],by simp [f4],by simp [f10,hB2],by simp⟩
   ·rintro rfl;simp at hB2;omega
   ·rintro rfl;simp at hB1;omega
   ·rw [← htg,← hBd];simp
   ·simp only [List.length_append];omega
def cmpK (x y:Int):Int:=if x < y then -1 else if y < x then 1 else 0
theorem cmpK_neg (x y:Int):decide (cmpK x y < 0)=decide (x < y):=by
 unfold cmpK
 by_cases h:x < y
 ·simp [h]
 ·rw [if_neg h]
  by_cases h2:y < x<;>simp [h,h2]
structure CmpAt (fid:FuncId) (caps:List LV) (q:Nat) (Pc:St→Prop):Prop where
 keep:∀ st st',Pc st→OffS q st st'→Pc st'
 call:∀ st x y,Pc st→ACalls Tryz.prog fid ([u x,u y]++caps) st fun r st'=>r=i (cmpK x y)∧Keeps st st'
def Ris (l:List Int):Prop:=l.Pairwise fun x y=>x≤y
theorem get_at (U:List Int) (x:Int) (W:List Int) {j:Nat} (hj:j=U.length):(U++x::W).getD j 0=x:=by subst hj;exact getD_mid _ _ _
theorem set_at (U:List Int) (x y:Int) (W:List Int) {j:Nat} (hj:j=U.length):(U++x::W).set j y=U++y::W:=by subst hj;exact set_mid _ _ _ _
def InsP (P X S:List Int) (q:Nat) (st:St) (r:LV) (st':St):Prop:=∃ Y,Y.Perm X∧Ris Y∧st'.H q=.box 32 1 (us (P++Y++S))∧OffS q st st'
theorem ris_ins {A B:List Int} {x:Int} (h:Ris (A++B)) (h1:∀ y∈A,y≤x) (h2:∀ y∈B,x≤y):Ris (A++x::B):=by
 unfold Ris at h ⊢
 rw [List.pairwise_append] at h ⊢
 refine ⟨h.1,List.pairwise_cons.2 ⟨h2,h.2.1⟩,fun a ha b hb=>?_⟩
 rcases List.mem_cons.1 hb with rfl | hb
 ·exact h1 a ha
 ·exact h.2.2 a ha b hb
theorem ris_last {A:List Int} {y:Int} (h:Ris (A++[y])):∀ a∈A,a≤y:=by
 unfold Ris at h
 rw [List.pairwise_append] at h
 exact fun a ha=>h.2.2 a ha y (by simp)
set_option maxHeartbeats 1000000 in
theorem insSort (P X S:List Int) (q:Nat) (fid:FuncId) (caps:List LV) (Pc:St→Prop) (st:St) (hcmp:CmpAt fid caps q Pc) (hPc:Pc st) (hq:q < st.next) (hl:(P++X++S).length≤100000) (hH:st.H q=.box 32 1 (us (P++X++S))):
 ACalls Tryz.prog 80 [.ms q 0 (P++X++S).length,i P.length,i (P.length+X.length:Nat),.fn (.func fid) caps] st (InsP P X S q st):=by
 generalize hL:(P++X++S).length=L at *
 have hLl:L=P.length+X.length+S.length:=by rw [← hL];simp only [List.length_append]
 generalize hp:P.length=p at *
 have wp:IntKind.i64.wrap ((p:Int)+1)=((p+1:Nat):Int):=by rw [wrap_s _ (by omega) (by omega)];omega
 refine qO tabOk Tryz.func80 rfl rfl Tryz.ntmps80 (rs:=[]) rfl (by simp) ?_
 (repeat' (first | refine qS ?_ | refine qB ?_ | (refine w_e [] ?_;intro J hJ;simp only [];simp [wp];(refine hJ _ _ ?_;clear hJ J;simp only [ak,reduceIte]))))
 refine qL (fun z fr st2=>∃ Y Z:List Int,Z.length≤z∧fr 0=.ms q 0 L∧fr 1=i p∧fr 2=i (p+X.length:Nat)∧fr 3=.fn (.func fid) caps∧(X=[]∧Y=[]∧fr 8=i (p+1:Nat)∨Y≠[]∧fr 8=i (p+Y.length:Nat))∧(Y++Z).Perm X∧Ris Y∧st2.H q=.box 32 1 (us (P++Y++Z++S))∧OffS q st st2) X.length ?_ ?_
 ·cases X with
  | nil=>exact ⟨[],[],by simp,by simp,by simp,by simp,by simp,.inl ⟨rfl,rfl,by simp⟩,.refl _,.nil,by simpa using hH,OffS.refl _ _⟩
  | cons x X => 
    refine ⟨[x],X,by simp,by simp,by simp,by simp,by simp,.inr ⟨by simp,by simp⟩,.refl _,List.pairwise_singleton _ _,?_,OffS.refl _ _⟩
    rw [hH];simp
 rintro z fr st2 ⟨Y,Z,hz,f0,f1,f2,f3,f8,hpm,hris,hB,hoff⟩ JJ hJJ
 have hpl:=hpm.length_eq
 simp only [List.length_append] at hpl
 cases Z with
 | nil=>
   clear hJJ
   simp only [List.length_nil,Nat.add_zero] at hpl
   rw [List.append_nil] at hpm hB
   have hex:∃ e:Nat,fr 8=i e∧¬ ((e:Int) < (p+X.length:Nat)):=by
    rcases f8 with ⟨h1,h2,h3⟩ | ⟨h1,h2⟩
    ·exact ⟨p+1,h3,by rw [h1];simp;omega⟩
    ·exact ⟨p+Y.length,h2,by rw [hpl];omega⟩
   obtain ⟨e,g8,he⟩:=hex
   (repeat' (first | refine qS ?_ | (refine qX ?_;simp only [ak,reduceIte]) | (refine qC ?_;simp [f2,g8,he];(try with_reducible refine ⟨?_,?_⟩)<;>(try with_reducible intro hc)<;>try (exfalso;omega)) | (refine w_e [] ?_;intro J hJ;simp only [];simp [f2,g8,he];(refine hJ _ _ ?_;clear hJ J;simp only [ak,reduceIte]))))
   simp
   exact ⟨Y,hpm,hris,hB,hoff⟩
 | cons x Z=>
 have hYne:Y≠[]∧fr 8=i (p+Y.length:Nat):=by
  rcases f8 with ⟨h1,h2,h3⟩ | h
  ·subst h1;simp at hpl
  ·exact h
 obtain ⟨hYn,g8⟩:=hYne
 clear f8
 have hY0:=List.length_pos_iff.2 hYn
 simp only [List.length_cons] at hpl hz
 have hlt:(((p+Y.length:Nat):Int)) < ((p+X.length:Nat):Int):=by omega
 (repeat' (first | refine qS ?_ | refine qB ?_ | (refine qK ?_;simp only [ak,reduceIte]) | (refine qC ?_;simp [f2,g8,hlt];(try with_reducible refine ⟨?_,?_⟩)<;>(try with_reducible intro hc)<;>try (exfalso;omega)) | (refine w_e [] ?_;intro J hJ;simp only [];simp [f2,g8,hlt];(refine hJ _ _ ?_;clear hJ J;simp only [ak,reduceIte]))))
 refine qL (fun z fr st3=>∃ A B:List Int,z=A.length∧A++B=Y∧(∀ y∈B,x≤y)∧fr 0=.ms q 0 L∧fr 1=i p∧fr 2=i (p+X.length:Nat)∧fr 3=.fn (.func fid) caps∧fr 8=i (p+Y.length:Nat)∧fr 9=i (p+A.length:Nat)∧st3.H q=.box 32 1 (us (P++A++x::(B++Z++S)))∧OffS q st st3) Y.length ?_ ?_
 ·exact ⟨Y,[],rfl,by simp,by simp,by simp [f0],by simp [f1],by simp [f2],by simp [f3],by simp [g8],by simp,by rw [hB];simp,hoff⟩
 clear f0 f1 f2 f3 g8 hB hoff fr st2
 rintro z' fr st3 ⟨A,B,rfl,rfl,hxB,f0,f1,f2,f3,f8,f9,hB,hoff⟩ J2 hJ2
 have hP3:=hcmp.keep _ _ hPc hoff
 have hfin:(∀ y∈A,y≤x)→Ris (A++x::B):=fun h1=>ris_ins hris h1 hxB
 have hpm2:((A++x::B)++Z).Perm X:=by
  refine List.Perm.trans ?_ hpm
  rw [List.append_assoc,List.append_assoc]
  refine List.Perm.append_left A ?_
  rw [List.cons_append]
  exact List.perm_middle.symm
 have hAB:(A++x::B).length=(A++B).length+1:=by simp;omega
 simp only [List.length_append] at hpl hY0
 have w8:IntKind.i64.wrap (((p+(A++B).length:Nat):Int)+1)=((p+(A++x::B).length:Nat):Int):=by rw [hAB,wrap_s _ (by simp only [List.length_append];omega) (by simp only [List.length_append];omega)];omega
 have hnext:∀ fr' st4,(fr' 0=.ms q 0 L∧fr' 1=i p∧fr' 2=i (p+X.length:Nat)∧fr' 3=.fn (.func fid) caps∧fr' 8=i (p+(A++x::B).length:Nat))→(∀ y∈A,y≤x)→st4.H q=.box 32 1 (us (P++A++x::(B++Z++S)))→OffS q st st4→JJ fr' st4:=by
  rintro fr' st4 ⟨g0,g1,g2,g3,g8⟩ h1 h2 h3
  refine hJJ Z.length _ _ (by omega) ⟨A++x::B,Z,Nat.le_refl _,g0,g1,g2,g3,.inr ⟨by simp,g8⟩,hpm2,hfin h1,?_,h3⟩
  rw [h2];simp
 have hrisA:Ris A:=by
  unfold Ris at hris ⊢
  exact (List.pairwise_append.1 hris).1
 clear hJJ hfin hpm2 hpm hris hAB
 generalize (A++B).length=lab at *
 generalize (A++x::B).length=laxb at *
 have w8':IntKind.i64.wrap ((p:Int)+lab+1)=(p:Int)+laxb:=by have h:=w8;rw [Int.natCast_add,Int.natCast_add] at h;exact h
 rcases List.eq_nil_or_concat A with rfl | ⟨W,y,hWy⟩
 ·simp only [List.length_nil,Nat.add_zero] at f9
  (repeat' refine qS ?_)
  (refine w_s [] [q] [(0,true),(1,true),(2,true),(3,true),(4,true),(5,true),(6,true),(7,true),(8,true),(9,true),(10,true),(11,true),(12,true),(13,true),(14,false),(15,true),(16,true)] ?_;intro J hJ;simp [f0,f1,f3,f9];(refine hJ _ _ ?_;clear hJ J;simp only [ak,reduceIte]))
  (repeat' (first | (refine qX ?_;simp only [ak,reduceIte]) | (refine qC ?_;simp [f8,w8']) | (refine w_e [] ?_;intro J hJ;simp only [];simp [f8,w8'];(refine hJ _ _ ?_;clear hJ J;simp only [ak,reduceIte]))))
  exact hnext _ _ ⟨by simp [f0],by simp [f1],by simp [f2],by simp [f3],by simp⟩ (by simp) hB hoff
 rw [List.concat_eq_append] at hWy
 subst hWy
 have hWl:(W++[y]).length=W.length+1:=by simp
 rw [hWl,← Nat.add_assoc] at f9
 have hce:P++(W++[y])++x::(B++Z++S)=(P++W)++y::x::(B++Z++S):=by simp
 have hUl:(P++W).length=p+W.length:=by simp [hp]
 have hcl:((P++W)++y::x::(B++Z++S)).length=L:=by
  simp only [List.length_append,List.length_cons,List.length_nil,hp] at hpl hz ⊢
  omega
 rw [hce] at hB hnext
 have g1:=get_at (P++W) y (x::(B++Z++S)) (j:=p+W.length) hUl.symm
 have g2:((P++W)++y::x::(B++Z++S)).getD (p+W.length+1) 0=x:=by
  rw [show (P++W)++y::x::(B++Z++S)=(P++W++[y])++x::(B++Z++S) by simp]
  exact get_at _ _ _ (by simp [hp];omega)
 have s1:(((P++W)++y::x::(B++Z++S)).set (p+W.length+1) y).set (p+W.length) x=P++W++x::(y::B++Z++S):=by
  rw [show (P++W)++y::x::(B++Z++S)=(P++W++[y])++x::(B++Z++S) by simp,set_at _ _ _ _ (by simp [hp];omega)]
  rw [show (P++W++[y])++y::(B++Z++S)=(P++W)++y::(y::(B++Z++S)) by simp,set_at _ _ _ _ hUl.symm]
  simp
 have hstep:x < y→∀ y'∈y::B,x≤y':=fun h1 y' hy'=>by
  rcases List.mem_cons.1 hy' with rfl | h2
  ·omega
  ·exact hxB y' h2
 have hstop:¬ x < y→∀ y'∈W++[y],y'≤x:=fun h1 y' hy'=>by
  rcases List.mem_append.1 hy' with h2 | h2
  ·have:=ris_last (hrisA) y' h2;omega
  ·rw [List.mem_singleton] at h2;subst h2;omega
 generalize (P++W)++y::x::(B++Z++S)=c at *
 generalize hjx:p+W.length=jx at *
 have hel:=us_len c
 have da:=qG c (jx+1) (by omega)
 have db:=qG c jx (by omega)
 rw [g2] at da
 rw [g1] at db
 have wj:IntKind.i64.wrap (((jx+1:Nat):Int) - 1)=(jx:Int):=by rw [wrap_s _ (by omega) (by omega)];omega
 obtain ⟨xi,rfl⟩:∃ xi,xi=x:=⟨_,rfl⟩
 obtain ⟨yi,rfl⟩:∃ yi,yi=y:=⟨_,rfl⟩
 try simp only at da db hstep hstop
 have hgt:(p:Int) < (jx:Int)+1:=by omega
 have hcm:=hcmp.call st3 xi yi hP3
 have hneg:=cmpK_neg xi yi
 try simp only at hneg
 generalize cmpK xi yi=cv at *
 have wj':IntKind.i64.wrap (jx:Int)=(jx:Int):=wrap_s _ (by omega) (by omega)
 have hA4:jx+1 < L:=by omega
 have hB4:jx < L:=by omega
 (repeat' refine qS ?_)
 (refine w_s [] [q] [(0,true),(1,true),(2,true),(3,true),(4,true),(5,true),(6,true),(7,true),(8,true),(9,true),(10,true),(11,true),(12,true),(13,true),(14,false),(15,true),(16,true)] ?_;intro J hJ;simp [f0,f1,f3,f9,hgt,hB,da,db,hel,hcl,wj'];(repeat refine ca ?_))
 refine dcallK_of hcm ?_;rintro r s4 ⟨rfl,hk4⟩
 have hq3:q < st3.next:=by have:=hoff.1;omega
 have hB4':=(hk4.H q hq3).trans hB
 have hoff4:=hoff.keeps hk4
 refine ⟨fun _=>by simp [hB4',hB],?_⟩
 by_cases hlt3:xi < yi
 ·have hcv:cv < 0:=by rw [decide_eq_true hlt3] at hneg;exact of_decide_eq_true hneg
  (refine d_go ?_;simp [hcv,hB4',hB];(refine hJ _ _ ?_;clear hJ J;simp only [ak,reduceIte]))
  (repeat' (first | refine qS ?_ | refine qB ?_ | (refine qK ?_;simp only [ak,reduceIte]) | (refine qC ?_;simp [])))
  (refine w_s [] [q] [(0,true),(1,true),(2,true),(3,true),(4,true),(5,true),(6,true),(7,true),(8,true),(9,true),(10,true),(11,true),(12,true),(13,true),(14,true),(15,false),(16,true),(17,false)] ?_;intro J hJ;simp [f0,f9,hB4',da,db,hel,hcl,wj'];(repeat refine ca ?_);(refine hJ _ _ ?_;clear hJ J;simp only [ak,reduceIte]))
  have e1:=us_set c (jx+1) yi (by omega)
  have e2:=us_set (c.set (jx+1) yi) jx xi (by simp;omega)
  try simp only at e1 e2
  rw [e1,e2,s1,St.set_set]
  (repeat' (refine w_e [] ?_;intro J hJ;simp only [];simp [f9,wj'];(refine hJ _ _ ?_;clear hJ J;simp only [ak,reduceIte])))
  refine hJ2 W.length _ _ (by simp) ⟨W,yi::B,rfl,by simp,hstep hlt3,by simp [f0],by simp [f1],by simp [f2],by simp [f3],by simp [f8],by simp [hjx],?_,hoff4.set _⟩
  simp
 ·have hcv:¬ cv < 0:=by rw [decide_eq_false hlt3] at hneg;exact of_decide_eq_false hneg
  (refine d_go ?_;simp [hcv,hB4',hB];(refine hJ _ _ ?_;clear hJ J;simp only [ak,reduceIte]))
  (repeat' (first | (refine qX ?_;simp only [ak,reduceIte]) | (refine qC ?_;simp [f8,w8']) | (refine w_e [] ?_;intro J hJ;simp only [];simp [f8,w8'];(refine hJ _ _ ?_;clear hJ J;simp only [ak,reduceIte]))))
  exact hnext _ _ ⟨by simp [f0],by simp [f1],by simp [f2],by simp [f3],by simp⟩ (hstop hlt3) hB4' hoff4
theorem ris_get {l:List Int} (h:Ris l) {j k:Nat} (hjk:j≤k) (hk:k < l.length):(l.getD j 0)≤(l.getD k 0):=by
 rw [getDE _ _ hk,getDE _ _ (by omega)]
 rcases Nat.lt_or_ge j k with h1 | h1
 ·exact List.pairwise_iff_getElem.1 h j k (by omega) hk h1
 ·obtain rfl:j=k:=by omega
  exact Int.le_refl _
structure Cut (A B:List Int) (s e:Nat):Prop where
 hs:s≤A.length
 he:e≤B.length
 ab:s=0∨e=B.length∨(A.getD (s - 1) 0)≤(B.getD e 0)
 ba:e=0∨s=A.length∨(B.getD (e - 1) 0)≤(A.getD s 0)
theorem Cut.le {A B:List Int} (hA:Ris A) (hB:Ris B) {s e:Nat} (h:Cut A B s e):∀ x∈A.take s++B.take e,∀ y∈A.drop s++B.drop e,x≤y:=by
 intro x hx y hy
 obtain ⟨h1,h2,h3,h4⟩:=h
 rw [List.mem_append] at hx hy
 rcases hx with hx | hx<;>rcases hy with hy | hy
 ·obtain ⟨j,hj,rfl⟩:=List.getElem_of_mem hx
  obtain ⟨k,hk,rfl⟩:=List.getElem_of_mem hy
  simp only [List.length_take,List.length_drop] at hj hk
  rw [List.getElem_take,List.getElem_drop]
  exact List.pairwise_iff_getElem.1 hA j (s+k) (by omega) (by omega) (by omega)
 ·obtain ⟨j,hj,rfl⟩:=List.getElem_of_mem hx
  obtain ⟨k,hk,rfl⟩:=List.getElem_of_mem hy
  simp only [List.length_take,List.length_drop] at hj hk
  rw [List.getElem_take,List.getElem_drop]
  have e1:=ris_get hA (j:=j) (k:=s - 1) (by omega) (by omega)
  have e2:=ris_get hB (j:=e) (k:=e+k) (by omega) (by omega)
  rw [getDE A j (by omega)] at e1
  rw [getDE B (e+k) (by omega)] at e2
  omega
 ·obtain ⟨j,hj,rfl⟩:=List.getElem_of_mem hx
  obtain ⟨k,hk,rfl⟩:=List.getElem_of_mem hy
  simp only [List.length_take,List.length_drop] at hj hk
  rw [List.getElem_take,List.getElem_drop]
  have e1:=ris_get hB (j:=j) (k:=e - 1) (by omega) (by omega)
  have e2:=ris_get hA (j:=s) (k:=s+k) (by omega) (by omega)
  rw [getDE B j (by omega)] at e1
  rw [getDE A (s+k) (by omega)] at e2
  omega
 ·obtain ⟨j,hj,rfl⟩:=List.getElem_of_mem hx
  obtain ⟨k,hk,rfl⟩:=List.getElem_of_mem hy
  simp only [List.length_take,List.length_drop] at hj hk
  rw [List.getElem_take,List.getElem_drop]
  exact List.pairwise_iff_getElem.1 hB j (e+k) (by omega) (by omega) (by omega)
theorem Cut.join {A B C D:List Int} (hA:Ris A) (hB:Ris B) {s e:Nat} (h:Cut A B s e) (hC:C.Perm (A.take s++B.take e)) (hD:D.Perm (A.drop s++B.drop e)) (rC:Ris C) (rD:Ris D):(C++D).Perm (A++B)∧Ris (C++D):=by
 refine ⟨?_,List.pairwise_append.2 ⟨rC,rD,fun x hx y hy=>h.le hA hB x (hC.mem_iff.1 hx) y (hD.mem_iff.1 hy)⟩⟩
 refine (hC.append hD).trans ?_
 have e1:A++B=(A.take s++A.drop s)++(B.take e++B.drop e):=by rw [List.take_append_drop,List.take_append_drop]
 rw [e1,List.append_assoc,List.append_assoc]
 refine List.Perm.append_left _ ?_
 rw [← List.append_assoc,← List.append_assoc]
 exact List.Perm.append_right _ List.perm_append_comm
end Go.Proofs.YtkcokoefodgigaaGreat.Aw.U
