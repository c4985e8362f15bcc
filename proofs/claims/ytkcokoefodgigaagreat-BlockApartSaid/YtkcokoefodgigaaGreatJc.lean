/- The library's sort: partialInsertionSort. -/
import Derived.Test.YtkcokoefodgigaaGreatJb
import Derived.Test.YtkcokoefodgigaaGreatAwX
import Derived.Test.YtkcokoefodgigaaGreatAwSet
import Derived.Test.YtkcokoefodgigaaGreatAwFn
import Derived.Test.YtkcokoefodgigaaGreatAwShp
namespace Go.Proofs.YtkcokoefodgigaaGreat.Aw.CB
open Go Go.RowKit Go.Proofs.YtkcokoefodgigaaGreat.Pl
set_option linter.unusedSimpArgs false
set_option linter.unusedVariables false
def Ahead (l:List Int) (a b:Nat):Prop:=0 < a→∀ j,a≤j→j < b→l.getD (a - 1) 0≤l.getD j 0
theorem Ahead.pm {l c:List Int} {a b:Nat} (h:Ahead l a b) (k:Pm a b l c):Ahead c a b:=by
 intro h0 j h1 h2
 rw [k.out (a - 1) (by omega)]
 exact k.all (fun x=>l.getD (a - 1) 0≤x) (fun j h1 h2=>h h0 j h1 h2) j h1 h2
def Falls (c:List Int) (k b:Nat):Prop:=k < b→c.getD k 0 < c.getD (k - 1) 0
def SrtIf (p:Bool) (a b:Nat) (c:List Int):Prop:=p=true→Srt a b c
def PinI (fid:FuncId) (caps:List LV) (en:Int→Nat) (ec:Int→List LV) (q a b k j:Nat) (l:List Int) (st:St) (fr:Frm) (st2:St):Prop:=∃ c:List Int,(fr 0=.ms q 0 l.length∧fr 3=.fn (.func fid) caps)∧fr 1=i a∧fr 2=i b∧fr 9=i k∧fr 10=i j∧st2=bx en ec st q c∧Pm a b l c∧Srt a k c
theorem partialInsertionSort {fid:FuncId} {caps:List LV} {en:Int→Nat} {ec:Int→List LV} {Dm:Int→Prop} (hC:CmpW fid caps en ec Dm) (l:List Int) (q a b:Nat) (st:St) (hD:∀ x∈l,Dm x) (hl:small l) (ha:a < b) (hb:b≤l.length) (hah:Ahead l a b) (hH:st.H q=.box 23 1 (ws en ec l)):
 ACalls Tryz.prog 53 [.ms q 0 l.length,i a,i b,.fn (.func fid) caps] st fun r st'=>∃ c p,r=bb p∧st'=bx en ec st q c∧Pm a b l c∧SrtIf p a b c:=by
 unfold small at hl
 refine qO tabOk Tryz.func53 rfl rfl Tryz.ntmps53 (rs:=[.tmp 8]) rfl (by simp) ?_
 have hw0:=qN a (by omega)
 (repeat' (first | refine qS ?_ | refine qB ?_ | (refine w_e [] ?_;intro J hJ;simp only [];simp [hw0];(refine hJ _ _ ?_;clear hJ J;simp only [ak,reduceIte]))))
 refine qL (fun n fr st2=>∃ (j k:Nat) (c:List Int),j≤5∧n=5 - j∧a < k∧k≤b∧(fr 0=.ms q 0 l.length∧fr 3=.fn (.func fid) caps)∧fr 1=i a∧fr 2=i b∧fr 9=i k∧fr 10=i j∧st2=bx en ec st q c∧Pm a b l c∧Srt a k c) 5 ?_ ?_
 ·exact ⟨0,a+1,l,by omega,rfl,by omega,by omega,by simp,by simp,by simp,by simp,by simp,bx_self hH,.refl,fun p q h1 h2 h3=>by omega⟩
 rintro n fr st2 ⟨j,k,c,hj,rfl,hak,hkb,⟨f0,fC⟩,f1,f2,f7,f8,rfl,hpm,hs⟩ J0 hJ0
 by_cases hj5:(j:Int) < 5
 rotate_left
 ·clear hJ0
  (repeat' (first | refine qS ?_ | (refine qX ?_;simp only [ak,reduceIte]) | (refine qR ?_;simp only [ak,reduceIte];simp [f8,hj5]) | (refine qC ?_;simp [f8,hj5]) | (refine w_e [] ?_;intro J hJ;simp only [];simp [f8,hj5];(refine hJ _ _ ?_;clear hJ J;simp only [ak,reduceIte]))))
  exact ⟨c,rfl,hpm,fun h=>by cases h⟩
 have hcl:=hpm.len
 have hDc:=dm_pm hD hpm
 (repeat (refine qS ?_));(refine w_e [] ?_;intro J hJ;simp only [];simp [f8,hj5];(refine hJ _ _ ?_;clear hJ J;simp only [ak,reduceIte]))
 (refine qC ?_;simp [])
 refine qK ?_;simp only [ak,reduceIte]
 refine qS ?_
 refine qB ?_
 refine qS ?_
 refine awp_cut1 (fun fr st2=>∃ k:Nat,a < k∧k≤b∧(fr 0=.ms q 0 l.length∧fr 3=.fn (.func fid) caps)∧fr 1=i a∧fr 2=i b∧fr 9=i k∧fr 10=i j∧st2=bx en ec st q c∧Srt a k c∧Falls c k b) ?_ ?_
 ·refine qB ?_
  refine qL (fun n fr st2=>∃ k:Nat,n=b - k∧a < k∧k≤b∧(fr 0=.ms q 0 l.length∧fr 3=.fn (.func fid) caps)∧fr 1=i a∧fr 2=i b∧fr 9=i k∧fr 10=i j∧st2=bx en ec st q c∧Srt a k c) (b - k) ?_ ?_
  ·exact ⟨k,rfl,hak,hkb,by simp [f0,fC],by simp [f1],by simp [f2],by simp [f7],by simp [f8],rfl,hs⟩
  clear f0 fC f1 f2 f7 f8 hs hak hkb fr k
  rintro n fr st2 ⟨k,rfl,hak,hkb,⟨f0,fC⟩,f1,f2,f7,f8,rfl,hs⟩ JJ hJJ
  by_cases hlt:k < b
  rotate_left
  ·clear hJJ
   (repeat (refine qS ?_));(refine w_s [] [q] [(0,true),(1,true),(2,true),(3,true),(4,true),(5,true),(6,true),(7,true),(8,true),(9,true),(10,true),(11,true),(12,true),(13,true),(14,false),(15,true),(16,true),(17,true)] ?_;intro J hJ;simp [f0,fC,f2,f7,hlt];(refine hJ _ _ ?_;clear hJ J;simp only [ak,reduceIte]))
   (repeat' (first | (refine qX ?_;simp only [ak,reduceIte]) | (refine qC ?_;simp [])))
   exact ⟨trivial,k,by omega,by omega,by simp [f0,fC],by simp [f1],by simp [f2],by simp [f7],by simp [f8],by trivial,hs,fun h=>absurd h hlt⟩
  have w1:=qN k (by omega)
  have w2:=nat_sub_one k (by omega) (by omega)
  have hd1:=ws_drop en ec c k (by omega)
  have hd2:=ws_drop en ec c (k - 1) (by omega)
  have hl1:k < l.length:=by omega
  have hl2:k - 1 < l.length:=by omega
  have hin:=hs.ins.done (by omega)
  generalize hx:c.getD k 0=x at *
  generalize hy:c.getD (k - 1) 0=y at *
  (repeat (refine qS ?_));(refine w_s [] [q] [(0,true),(1,true),(2,true),(3,true),(4,true),(5,true),(6,true),(7,true),(8,true),(9,true),(10,true),(11,true),(12,true),(13,true),(14,false),(15,true),(16,true),(17,true)] ?_;intro J hJ;simp [f0,fC,f2,f7,hlt,w2,hl1,hl2,hcl,hd1,hd2])
  refine dcallK_of (hC.call x y _ (by first | assumption | (subst_vars;exact dm_get (by assumption) (by omega))) (by first | assumption | (subst_vars;exact dm_get (by assumption) (by omega)))) ?_;rintro r s2 ⟨⟨nv,rfl,hnv⟩,rfl⟩
  refine ⟨fun _=>by simp,?_⟩
  by_cases hxy:x < y
  ·clear hJJ
   (refine d_go ?_;simp [hnv,hxy];(refine hJ _ _ ?_;clear hJ J;simp only [ak,reduceIte]))
   (repeat' (first | (refine qX ?_;simp only [ak,reduceIte]) | (refine qC ?_;simp [])))
   exact ⟨trivial,k,by omega,by omega,by simp [f0,fC],by simp [f1],by simp [f2],by simp [f7],by simp [f8],by trivial,hs,fun h=>by rw [hx,hy];exact hxy⟩
  ·(refine d_go ?_;simp [hnv,hxy];(refine hJ _ _ ?_;clear hJ J;simp only [ak,reduceIte]))
   (repeat' (first | refine qB ?_ | (refine qK ?_;simp only [ak,reduceIte]) | (refine qC ?_;simp [f7,w1]) | (refine w_e [] ?_;intro J hJ;simp only [];simp [f7,w1];(refine hJ _ _ ?_;clear hJ J;simp only [ak,reduceIte]))))
   exact hJJ (b - (k+1)) _ _ (by omega) ⟨k+1,rfl,by omega,by omega,by simp [f0,fC],by simp [f1],by simp [f2],by simp,by simp [f8],rfl,hin (.inr hxy)⟩
 clear f0 fC f1 f2 f7 f8 hs hak hkb fr k
 rintro fr st2 ⟨k,hak,hkb,⟨f0,fC⟩,f1,f2,f7,f8,rfl,hs,hfall⟩
 by_cases hkb2:k=b
 ·clear hJ0
  have hkb3:(k:Int)=(b:Int):=by omega
  (repeat' (first | refine qS ?_ | (refine qR ?_;simp only [ak,reduceIte];simp [f2,f7,hkb3]) | (refine qC ?_;simp [f2,f7,hkb3]) | (refine w_e [] ?_;intro J hJ;simp only [];simp [f2,f7,hkb3];(refine hJ _ _ ?_;clear hJ J;simp only [ak,reduceIte]))))
  exact ⟨c,rfl,hpm,fun _=>by rw [← hkb2];exact hs⟩
 have hkb3:¬ (k:Int)=(b:Int):=by omega
 have w1:IntKind.i64.wrap ((b:Int) - (a:Int))=(b:Int) - (a:Int):=wrap_i64 _ (by omega) (by omega)
 by_cases h50:(b:Int) - (a:Int) < 50
 ·clear hJ0
  (repeat' (first | refine qS ?_ | (refine qK ?_;simp only [ak,reduceIte]) | (refine qR ?_;simp only [ak,reduceIte];simp [f1,f2,f7,hkb3,w1,h50]) | (refine qC ?_;simp [f1,f2,f7,hkb3,w1,h50]) | (refine w_e [] ?_;intro J hJ;simp only [];simp [f1,f2,f7,hkb3,w1,h50];(refine hJ _ _ ?_;clear hJ J;simp only [ak,reduceIte]))))
  exact ⟨c,rfl,hpm,fun h=>by cases h⟩
 have w2:=nat_sub_one k (by omega) (by omega)
 have hd1:=ws_drop en ec c k (by omega)
 have hd2:=ws_drop en ec c (k - 1) (by omega)
 have hl1:k < l.length:=by omega
 have hl2:k - 1 < l.length:=by omega
 have hsw:=fun x y=>bx_sw en ec st q c k (k - 1) (x:=x) (y:=y) (by omega) (by omega)
 have hs1:Srt a (k - 1) (sw c k (k - 1)):=by
  intro p q h1 h2 h3
  rw [sw_get _ _ _ _ (by omega) (by omega),sw_get _ _ _ _ (by omega) (by omega),if_neg (by omega),if_neg (by omega),if_neg (by omega),if_neg (by omega)]
  exact hs p q h1 h2 (by omega)
 have hpm1:=hpm.step k (k - 1) (by omega) (by omega) (by omega) (by omega) (by omega)
 generalize hx:c.getD k 0=x at *
 generalize hy:c.getD (k - 1) 0=y at *
 have hsw':=hsw x y rfl rfl
 (repeat' (first | refine qS ?_ | (refine qK ?_;simp only [ak,reduceIte]) | (refine qC ?_;simp [f1,f2,f7,hkb3,w1,h50]) | (refine w_e [] ?_;intro J hJ;simp only [];simp [f1,f2,f7,hkb3,w1,h50];(refine hJ _ _ ?_;clear hJ J;simp only [ak,reduceIte]))))
 (refine w_s [] [q] [(0,true),(1,true),(2,true),(3,true),(4,true),(5,true),(6,true),(7,true),(8,true),(9,true),(10,true),(11,true),(12,true),(13,true),(14,true),(15,false),(16,true),(17,false)] ?_;intro J hJ;simp [f0,fC,f7,w2,hl1,hl2,hcl,hd1,hd2];(repeat refine ca ?_);(refine hJ _ _ ?_;clear hJ J;simp only [ak,reduceIte]))
 rw [hsw']
 clear hsw hsw' hd1 hd2 hx hy hs hfall
 generalize hc1:sw c k (k - 1)=c1 at *
 have hcl1:=hpm1.len
 clear hc1 hpm hcl hDc c
 have w3:IntKind.i64.wrap ((k:Int) - (a:Int))=(k:Int) - (a:Int):=wrap_i64 _ (by omega) (by omega)
 refine qS ?_
 refine awp_cut1 (PinI fid caps en ec q a b k j l st) ?_ ?_
 ·by_cases hk2:(2:Int)≤(k:Int) - (a:Int)
  rotate_left
  ·(repeat' (first | refine qS ?_ | (refine qK ?_;simp only [ak,reduceIte]) | (refine qC ?_;simp [f1,f7,w3,hk2]) | (refine w_e [] ?_;intro J hJ;simp only [];simp [f1,f7,w3,hk2];(refine hJ _ _ ?_;clear hJ J;simp only [ak,reduceIte]))))
   refine ⟨by trivial,?_⟩;unfold PinI;exact ⟨c1,by simp [f0,fC],by simp [f1],by simp [f2],by simp [f7],by simp [f8],by trivial,hpm1,fun p q h1 h2 h3=>by omega⟩
  (repeat' (first | refine qS ?_ | refine qB ?_ | (refine qC ?_;simp [f1,f7,w3,hk2,w2]) | (refine w_e [] ?_;intro J hJ;simp only [];simp [f1,f7,w3,hk2,w2];(refine hJ _ _ ?_;clear hJ J;simp only [ak,reduceIte]))))
  refine qL (fun n fr st2=>∃ (m:Nat) (c:List Int),a≤m∧m≤k - 1∧m=n∧(fr 0=.ms q 0 l.length∧fr 3=.fn (.func fid) caps)∧fr 1=i a∧fr 2=i b∧fr 9=i k∧fr 10=i j∧fr 11=i m∧st2=bx en ec st q c∧Pm a b l c∧Ins a m (k - 1) c) (k - 1) ?_ ?_
  ·exact ⟨k - 1,c1,by omega,by omega,rfl,by simp [f0,fC],by simp [f1],by simp [f2],by simp [f7],by simp [f8],by simp,rfl,hpm1,hs1.ins⟩
  clear f0 fC f1 f2 f7 f8 hpm1 hs1 hcl1 c1 fr
  rintro n fr st2 ⟨m,c,ham,hmk,rfl,⟨f0,fC⟩,f1,f2,f7,f8,f9,rfl,hpm,hI⟩ JJ hJJ
  have hcl:=hpm.len
  have hDc:=dm_pm hD hpm
  have hk1:k - 1+1=k:=by omega
  by_cases hm1:(1:Int)≤(m:Int)
  rotate_left
  ·clear hJJ
   (repeat' (first | refine qS ?_ | (refine qX ?_;simp only [ak,reduceIte]) | (refine qC ?_;simp [f9,hm1]) | (refine w_e [] ?_;intro J hJ;simp only [];simp [f9,hm1];(refine hJ _ _ ?_;clear hJ J;simp only [ak,reduceIte]))))
   refine ⟨by trivial,?_⟩;unfold PinI;refine ⟨c,by simp [f0,fC],by simp [f1],by simp [f2],by simp [f7],by simp [f8],by trivial,hpm,?_⟩
   have:=hI.done ham (.inl (by omega));rwa [hk1] at this
  have w4:=nat_sub_one m (by omega) (by omega)
  have hd1:=ws_drop en ec c m (by omega)
  have hd2:=ws_drop en ec c (m - 1) (by omega)
  have hl3:m < l.length:=by omega
  have hl4:m - 1 < l.length:=by omega
  have hsw:=fun x y=>bx_sw en ec st q c m (m - 1) (x:=x) (y:=y) (by omega) (by omega)
  have hahm:m=a→¬ c.getD m 0 < c.getD (m - 1) 0:=by
   rintro rfl
   have:=hah.pm hpm (by omega) m (by omega) (by omega)
   omega
  have hdone:=hI.done ham
  rw [hk1] at hdone
  have hstep:=fun h=>hI.step h hmk (by omega)
  generalize hx:c.getD m 0=x at *
  generalize hy:c.getD (m - 1) 0=y at *
  have hsw':=hsw x y rfl rfl
  (repeat' (first | refine qS ?_ | refine qB ?_ | (refine qK ?_;simp only [ak,reduceIte]) | (refine qC ?_;simp [f9,hm1]) | (refine w_e [] ?_;intro J hJ;simp only [];simp [f9,hm1];(refine hJ _ _ ?_;clear hJ J;simp only [ak,reduceIte]))))
  (refine w_s [] [q] [(0,true),(1,true),(2,true),(3,true),(4,true),(5,true),(6,true),(7,true),(8,true),(9,true),(10,false),(11,true),(12,true)] ?_;intro J hJ;simp [f0,fC,f9,w4,hl3,hl4,hcl,hd1,hd2])
  refine dcallK_of (hC.call x y _ (by first | assumption | (subst_vars;exact dm_get (by assumption) (by omega))) (by first | assumption | (subst_vars;exact dm_get (by assumption) (by omega)))) ?_;rintro r s2 ⟨⟨nv,rfl,hnv⟩,rfl⟩
  refine ⟨fun _=>by simp,?_⟩
  by_cases hxy:x < y
  rotate_left
  ·clear hJJ
   (refine d_go ?_;simp [hnv,hxy];(refine hJ _ _ ?_;clear hJ J;simp only [ak,reduceIte]))
   (repeat' (first | (refine qX ?_;simp only [ak,reduceIte]) | (refine qC ?_;simp [])))
   refine ⟨by trivial,?_⟩;unfold PinI;exact ⟨c,by simp [f0,fC],by simp [f1],by simp [f2],by simp [f7],by simp [f8],by trivial,hpm,hdone (.inr hxy)⟩
  have hma:a < m:=by
   rcases Nat.lt_or_ge a m with h | h
   ·exact h
   ·exact absurd hxy (hahm (by omega))
  have hpm2:=hpm.step m (m - 1) (by omega) (by omega) (by omega) (by omega) (by omega)
  (refine d_go ?_;simp [hnv,hxy];(refine hJ _ _ ?_;clear hJ J;simp only [ak,reduceIte]))
  (repeat' (first | (refine qK ?_;simp only [ak,reduceIte]) | (refine qC ?_;simp [])))
  (refine w_s [] [q] [(0,true),(1,true),(2,true),(3,true),(4,true),(5,true),(6,true),(7,true),(8,true),(9,true),(10,true),(11,true),(12,true),(13,true),(14,true),(15,false),(16,true),(17,false)] ?_;intro J hJ;simp [f0,fC,f9,w4,hl3,hl4,hcl,hd1,hd2];(repeat refine ca ?_);(refine hJ _ _ ?_;clear hJ J;simp only [ak,reduceIte]))
  (repeat' (refine w_e [] ?_;intro J hJ;simp only [];simp [f9,w4];(refine hJ _ _ ?_;clear hJ J;simp only [ak,reduceIte])))
  exact hJJ (m - 1) _ _ (by omega) ⟨m - 1,sw c m (m - 1),by omega,by omega,rfl,by simp [f0,fC],by simp [f1],by simp [f2],by simp [f7],by simp [f8],by simp,hsw',hpm2,hstep hma hxy⟩
 clear f0 fC f1 f2 f7 f8 hpm1 hs1 hcl1 c1 fr
 rintro fr st2 ⟨c,⟨f0,fC⟩,f1,f2,f7,f8,rfl,hpm,hs⟩
 have hcl:=hpm.len
 have hDc:=dm_pm hD hpm
 have w5:IntKind.i64.wrap ((b:Int) - (k:Int))=(b:Int) - (k:Int):=wrap_i64 _ (by omega) (by omega)
 have w6:=qN j (by omega)
 have w7:=qN k (by omega)
 by_cases hk2:(2:Int)≤(b:Int) - (k:Int)
 rotate_left
 ·(repeat' (first | refine qS ?_ | (refine qK ?_;simp only [ak,reduceIte]) | (refine qC ?_;simp [f2,f7,w5,hk2,f8,w6]) | (refine w_e [] ?_;intro J hJ;simp only [];simp [f2,f7,w5,hk2,f8,w6];(refine hJ _ _ ?_;clear hJ J;simp only [ak,reduceIte]))))
  exact hJ0 (5 - (j+1)) _ _ (by omega) ⟨j+1,k,c,by omega,rfl,hak,hkb,by simp [f0,fC],by simp [f1],by simp [f2],by simp [f7],by simp,rfl,hpm,hs⟩
 (repeat' (first | refine qS ?_ | refine qB ?_ | (refine qC ?_;simp [f2,f7,w5,hk2,w7]) | (refine w_e [] ?_;intro J hJ;simp only [];simp [f2,f7,w5,hk2,w7];(refine hJ _ _ ?_;clear hJ J;simp only [ak,reduceIte]))))
 refine qL (fun n fr st2=>∃ (m:Nat) (c:List Int),k < m∧m≤b∧n=b - m∧(fr 0=.ms q 0 l.length∧fr 3=.fn (.func fid) caps)∧fr 1=i a∧fr 2=i b∧fr 9=i k∧fr 10=i j∧fr 12=i m∧st2=bx en ec st q c∧Pm a b l c∧Srt a k c) (b - (k+1)) ?_ ?_
 ·exact ⟨k+1,c,by omega,by omega,rfl,by simp [f0,fC],by simp [f1],by simp [f2],by simp [f7],by simp [f8],by simp,rfl,hpm,hs⟩
 clear f0 fC f1 f2 f7 f8 hpm hs hcl hDc c fr
 rintro n fr st2 ⟨m,c,hkm,hmb,rfl,⟨f0,fC⟩,f1,f2,f7,f8,f10,rfl,hpm,hs⟩ JJ hJJ
 have hcl:=hpm.len
 have hDc:=dm_pm hD hpm
 by_cases hlt:m < b
 rotate_left
 ·clear hJJ
  (repeat' (first | refine qS ?_ | (refine qX ?_;simp only [ak,reduceIte]) | (refine qC ?_;simp [f2,f10,hlt,f8,w6]) | (refine w_e [] ?_;intro J hJ;simp only [];simp [f2,f10,hlt,f8,w6];(refine hJ _ _ ?_;clear hJ J;simp only [ak,reduceIte]))))
  exact hJ0 (5 - (j+1)) _ _ (by omega) ⟨j+1,k,c,by omega,rfl,hak,hkb,by simp [f0,fC],by simp [f1],by simp [f2],by simp [f7],by simp,rfl,hpm,hs⟩
 have w4:=nat_sub_one m (by omega) (by omega)
 have w8:=qN m (by omega)
 have hd1:=ws_drop en ec c m (by omega)
 have hd2:=ws_drop en ec c (m - 1) (by omega)
 have hl3:m < l.length:=by omega
 have hl4:m - 1 < l.length:=by omega
 have hsw:=fun x y=>bx_sw en ec st q c m (m - 1) (x:=x) (y:=y) (by omega) (by omega)
 have hpm2:=hpm.step m (m - 1) (by omega) (by omega) (by omega) (by omega) (by omega)
 have hs2:Srt a k (sw c m (m - 1)):=by
  intro p q h1 h2 h3
  rw [sw_get _ _ _ _ (by omega) (by omega),sw_get _ _ _ _ (by omega) (by omega),if_neg (by omega),if_neg (by omega),if_neg (by omega),if_neg (by omega)]
  exact hs p q h1 h2 (by omega)
 generalize hx:c.getD m 0=x at *
 generalize hy:c.getD (m - 1) 0=y at *
 have hsw':=hsw x y rfl rfl
 (repeat' (first | refine qS ?_ | refine qB ?_ | (refine qK ?_;simp only [ak,reduceIte]) | (refine qC ?_;simp [f2,f10,hlt]) | (refine w_e [] ?_;intro J hJ;simp only [];simp [f2,f10,hlt];(refine hJ _ _ ?_;clear hJ J;simp only [ak,reduceIte]))))
 (refine w_s [] [q] [(0,true),(1,true),(2,true),(3,true),(4,true),(5,true),(6,true),(7,true),(8,true),(9,true),(10,false),(11,true),(12,true)] ?_;intro J hJ;simp [f0,fC,f10,w4,hl3,hl4,hcl,hd1,hd2])
 refine dcallK_of (hC.call x y _ (by first | assumption | (subst_vars;exact dm_get (by assumption) (by omega))) (by first | assumption | (subst_vars;exact dm_get (by assumption) (by omega)))) ?_;rintro r s2 ⟨⟨nv,rfl,hnv⟩,rfl⟩
 refine ⟨fun _=>by simp,?_⟩
 by_cases hxy:x < y
 rotate_left
 ·clear hJJ
  (refine d_go ?_;simp [hnv,hxy];(refine hJ _ _ ?_;clear hJ J;simp only [ak,reduceIte]))
  (repeat' (first | (refine qX ?_;simp only [ak,reduceIte]) | (refine qC ?_;simp [f8,w6]) | (refine w_e [] ?_;intro J hJ;simp only [];simp [f8,w6];(refine hJ _ _ ?_;clear hJ J;simp only [ak,reduceIte]))))
  exact hJ0 (5 - (j+1)) _ _ (by omega) ⟨j+1,k,c,by omega,rfl,hak,hkb,by simp [f0,fC],by simp [f1],by simp [f2],by simp [f7],by simp,rfl,hpm,hs⟩
 (refine d_go ?_;simp [hnv,hxy];(refine hJ _ _ ?_;clear hJ J;simp only [ak,reduceIte]))
 (repeat' (first | (refine qK ?_;simp only [ak,reduceIte]) | (refine qC ?_;simp [])))
 (refine w_s [] [q] [(0,true),(1,true),(2,true),(3,true),(4,true),(5,true),(6,true),(7,true),(8,true),(9,true),(10,true),(11,true),(12,true),(13,true),(14,true),(15,false),(16,true),(17,false)] ?_;intro J hJ;simp [f0,fC,f10,w4,hl3,hl4,hcl,hd1,hd2];(repeat refine ca ?_);(refine hJ _ _ ?_;clear hJ J;simp only [ak,reduceIte]))
 (repeat' (refine w_e [] ?_;intro J hJ;simp only [];simp [f10,w8];(refine hJ _ _ ?_;clear hJ J;simp only [ak,reduceIte])))
 exact hJJ (b - (m+1)) _ _ (by omega) ⟨m+1,sw c m (m - 1),by omega,by omega,rfl,by simp [f0,fC],by simp [f1],by simp [f2],by simp [f7],by simp [f8],by simp,hsw',hpm2,hs2⟩
abbrev ix (st:St) (p:Nat) (s:Int):St:=st.set p (.box 3 1 [i s])
theorem ix_self {st:St} {p:Nat} {s:Int} (h:st.H p=.box 3 1 [i s]):st=ix st p s:=
 St.ext' rfl fun x=>by by_cases hx:x=p<;>simp [hx,h]
theorem ix_ix (st:St) (p:Nat) (s s':Int):ix (ix st p s) p s'=ix st p s':=St.set_set _ _ _ _
theorem order2 {fid:FuncId} {caps:List LV} {en:Int→Nat} {ec:Int→List LV} {Dm:Int→Prop} (hC:CmpW fid caps en ec Dm) (l:List Int) (q p a b:Nat) (s:Int) (st:St) (hD:∀ x∈l,Dm x) (hl:small l) (ha:a < l.length) (hb:b < l.length) (hpq:q≠p) (hH:st.H q=.box 23 1 (ws en ec l)) (hp:st.H p=.box 3 1 [i s]):
 ACalls Tryz.prog 99 [.ms q 0 l.length,i a,i b,.pt p 0,.fn (.func fid) caps] st fun r st'=>∃ (x y:Nat) (s':Int),r=.tu [i x,i y]∧st'=ix st p s'∧((x=a∧y=b)∨(x=b∧y=a)):=by
 unfold small at hl
 have hDa:=dm_get hD ha
 have hDb:=dm_get hD hb
 have hd1:=ws_drop en ec l a ha
 have hd2:=ws_drop en ec l b hb
 generalize l.getD a 0=x at *
 generalize l.getD b 0=y at *
 refine qO tabOk Tryz.func99 rfl rfl Tryz.ntmps99 (rs:=[.tmp 10,.tmp 11]) rfl (by simp) ?_
 (repeat (refine qS ?_));(refine w_e [] ?_;intro J hJ;simp only [];simp [];(refine hJ _ _ ?_;clear hJ J;simp only [ak,reduceIte]))
 (repeat (refine qS ?_));(refine w_s [] [q] [(0,true),(1,true),(2,true),(3,true),(4,true),(5,true),(6,true),(7,true),(8,true),(9,false),(10,true)] ?_;intro J hJ;simp [hH,ha,hb,hd1,hd2])
 refine dcallK_of (hC.call y x _ (by first | assumption | (subst_vars;exact dm_get (by assumption) (by omega))) (by first | assumption | (subst_vars;exact dm_get (by assumption) (by omega)))) ?_;rintro r s2 ⟨⟨nv,rfl,hnv⟩,rfl⟩
 refine ⟨fun _=>by simp [hH],?_⟩
 by_cases hyx:y < x
 ·(refine d_go ?_;simp [hnv,hyx];(refine hJ _ _ ?_;clear hJ J;simp only [ak,reduceIte]))
  (repeat' (first | refine qS ?_ | (refine qR ?_;simp only [ak,reduceIte];simp [hp]) | (refine qC ?_;simp [hp]) | (refine w_e [] ?_;intro J hJ;simp only [];simp [hp];(refine hJ _ _ ?_;clear hJ J;simp only [ak,reduceIte]))))
  exact ⟨b,a,⟨rfl,rfl⟩,⟨_,rfl⟩,.inr ⟨rfl,rfl⟩⟩
 ·(refine d_go ?_;simp [hnv,hyx];(refine hJ _ _ ?_;clear hJ J;simp only [ak,reduceIte]))
  (repeat' (first | refine qS ?_ | (refine qK ?_;simp only [ak,reduceIte]) | (refine qR ?_;simp only [ak,reduceIte];simp []) | (refine qC ?_;simp []) | (refine w_e [] ?_;intro J hJ;simp only [];simp [];(refine hJ _ _ ?_;clear hJ J;simp only [ak,reduceIte]))))
  exact ⟨a,b,⟨rfl,rfl⟩,⟨s,ix_self hp⟩,.inl ⟨rfl,rfl⟩⟩
theorem median {fid:FuncId} {caps:List LV} {en:Int→Nat} {ec:Int→List LV} {Dm:Int→Prop} (hC:CmpW fid caps en ec Dm) (l:List Int) (q p a b c:Nat) (s:Int) (st:St) (hD:∀ x∈l,Dm x) (hl:small l) (ha:a < l.length) (hb:b < l.length) (hc:c < l.length) (hpq:q≠p) (hH:st.H q=.box 23 1 (ws en ec l)) (hp:st.H p=.box 3 1 [i s]):
 ACalls Tryz.prog 79 [.ms q 0 l.length,i a,i b,i c,.pt p 0,.fn (.func fid) caps] st fun r st'=>∃ (x:Nat) (s':Int),r=i x∧st'=ix st p s'∧(x=a∨x=b∨x=c):=by
 refine qO tabOk Tryz.func79 rfl rfl Tryz.ntmps79 (rs:=[.tmp 12]) rfl (by simp) ?_
 (repeat' (first | refine qS ?_ | (refine w_e [] ?_;intro J hJ;simp only [];simp [];(try (refine hJ _ _ ?_;clear hJ J;simp only [ak,reduceIte])))))
 refine qF (order2 hC l q p a b s _ hD hl ha hb hpq hH hp) ?_;rintro r st' ⟨x,y,s1,rfl,rfl,h1⟩
 (repeat' (first | refine qS ?_ | ((first | (refine w_e [] ?_;intro J hJ;simp only []) | (refine e_go ?_));simp [];(try (refine hJ _ _ ?_;clear hJ J;simp only [ak,reduceIte])))))
 refine qF (order2 hC l q p y c s1 _ hD hl (by omega) hc hpq (by simp [hpq,hH]) (by simp)) ?_;rintro r st' ⟨x2,y2,s2,rfl,rfl,h2⟩
 (repeat' (first | refine qS ?_ | ((first | (refine w_e [] ?_;intro J hJ;simp only []) | (refine e_go ?_));simp [];(try (refine hJ _ _ ?_;clear hJ J;simp only [ak,reduceIte])))))
 refine qF (order2 hC l q p x x2 s2 _ hD hl (by omega) (by omega) hpq (by simp [hpq,hH]) (by simp)) ?_;rintro r st' ⟨x3,y3,s3,rfl,rfl,h3⟩
 (repeat' (first | refine qS ?_ | (refine qR ?_;simp only [ak,reduceIte];simp []) | ((first | (refine w_e [] ?_;intro J hJ;simp only []) | (refine e_go ?_));simp [];(refine hJ _ _ ?_;clear hJ J;simp only [ak,reduceIte]))))
 refine ⟨y3,rfl,⟨s3,?_⟩,by omega⟩
 rw [ix_ix,ix_ix]
theorem medianAdjacent {fid:FuncId} {caps:List LV} {en:Int→Nat} {ec:Int→List LV} {Dm:Int→Prop} (hC:CmpW fid caps en ec Dm) (l:List Int) (q p a:Nat) (s:Int) (st:St) (hD:∀ x∈l,Dm x) (hl:small l) (h0:0 < a) (ha:a+1 < l.length) (hpq:q≠p) (hH:st.H q=.box 23 1 (ws en ec l)) (hp:st.H p=.box 3 1 [i s]):
 ACalls Tryz.prog 78 [.ms q 0 l.length,i a,.pt p 0,.fn (.func fid) caps] st fun r st'=>∃ (x:Nat) (s':Int),r=i x∧st'=ix st p s'∧a - 1≤x∧x≤a+1:=by
 have hl':=hl
 unfold small at hl'
 have w1:=qN a (by omega)
 have w2:=nat_sub_one a (by omega) (by omega)
 refine qO tabOk Tryz.func78 rfl rfl Tryz.ntmps78 (rs:=[.tmp 8]) rfl (by simp) ?_
 (repeat' (first | refine qS ?_ | (refine w_e [] ?_;intro J hJ;simp only [];simp [w1,w2];(try (refine hJ _ _ ?_;clear hJ J;simp only [ak,reduceIte])))))
 refine qF (median hC l q p (a - 1) a (a+1) s _ hD hl (by omega) (by omega) (by omega) hpq hH hp) ?_;rintro r st' ⟨x,s1,rfl,rfl,h1⟩
 (repeat' (first | (refine qR ?_;simp only [ak,reduceIte];simp []) | (refine e_go ?_;simp [];(refine hJ _ _ ?_;clear hJ J;simp only [ak,reduceIte]))))
 exact ⟨x,rfl,⟨s1,rfl⟩,by omega⟩
def PivI (fid:FuncId) (caps:List LV) (en:Int→Nat) (ec:Int→List LV) (q n a b:Nat) (st:St) (fr:Frm) (st2:St):Prop:=∃ (j1 j2 j3:Nat) (s:Int),(fr 0=.ms q 0 n∧fr 3=.fn (.func fid) caps)∧fr 11=.pt st.next 0∧fr 12=i j1∧fr 13=i j2∧fr 14=i j3∧a≤j1∧j1 < b∧a≤j2∧j2 < b∧a≤j3∧j3 < b∧st2=ix (st.new (.box 3 1 [i 0])) st.next s
set_option maxHeartbeats 1000000 in
theorem choosePivot {fid:FuncId} {caps:List LV} {en:Int→Nat} {ec:Int→List LV} {Dm:Int→Prop} (hC:CmpW fid caps en ec Dm) (l:List Int) (q a b:Nat) (st:St) (hD:∀ x∈l,Dm x) (hl:small l) (hab:a+8≤b) (hb:b≤l.length) (hqn:q < st.next) (hH:st.H q=.box 23 1 (ws en ec l)):
 ACalls Tryz.prog 51 [.ms q 0 l.length,i a,i b,.fn (.func fid) caps] st fun r st'=>∃ (x:Nat) (h:Int),r=.tu [i x,i h]∧a≤x∧x < b∧Keeps st st':=by
 have hl':=hl
 unfold small at hl'
 obtain ⟨n,hn⟩:∃ n:Nat,n=b - a:=⟨_,rfl⟩
 obtain ⟨n4,hn4⟩:∃ m:Nat,m=n / 4:=⟨_,rfl⟩
 obtain ⟨k1,hk1⟩:∃ m:Nat,m=a+n4:=⟨_,rfl⟩
 obtain ⟨k2,hk2⟩:∃ m:Nat,m=a+n4 * 2:=⟨_,rfl⟩
 obtain ⟨k3,hk3⟩:∃ m:Nat,m=a+n4 * 3:=⟨_,rfl⟩
 have w1:IntKind.i64.wrap ((b:Int) - (a:Int))=(n:Int):=by rw [wrap_i64 _ (by omega) (by omega)];omega
 have w2:IntKind.i64.wrap ((n:Int) / 4)=(n4:Int):=by
  rw [show (n:Int) / 4=((n / 4:Nat):Int) from rfl,← hn4]
  exact wrap_i64 _ (by omega) (by omega)
 have w3:IntKind.i64.wrap (n4:Int)=(n4:Int):=wrap_i64 _ (by omega) (by omega)
 have w4:IntKind.i64.wrap ((n4:Int) * 2)=((n4 * 2:Nat):Int):=by rw [wrap_i64 _ (by omega) (by omega)];omega
 have w5:IntKind.i64.wrap ((n4:Int) * 3)=((n4 * 3:Nat):Int):=by rw [wrap_i64 _ (by omega) (by omega)];omega
 have w6:IntKind.i64.wrap ((a:Int)+(n4:Int))=(k1:Int):=by rw [wrap_i64 _ (by omega) (by omega)];omega
 have w7:IntKind.i64.wrap ((a:Int)+((n4 * 2:Nat):Int))=(k2:Int):=by rw [wrap_i64 _ (by omega) (by omega)];omega
 have w8:IntKind.i64.wrap ((a:Int)+((n4 * 3:Nat):Int))=(k3:Int):=by rw [wrap_i64 _ (by omega) (by omega)];omega
 have h8:(8:Int)≤(n:Int):=by omega
 have hqn':q≠st.next:=by omega
 generalize ((n4 * 2:Nat):Int)=e2 at *
 generalize ((n4 * 3:Nat):Int)=e3 at *
 refine qO tabOk Tryz.func51 rfl rfl Tryz.ntmps51 (rs:=[.tmp 8,.tmp 9]) rfl (by simp) ?_
 (repeat' (first | refine qS ?_ | (refine w_e [] ?_;intro J hJ;simp only [];simp [w1,w2,w3,w4,w5,w6,w7,w8,h8];(refine hJ _ _ ?_;clear hJ J;simp only [ak,reduceIte]))))
 refine qC ?_;simp [h8]
 refine qS ?_
 refine awp_cut1 (PivI fid caps en ec q l.length a b st) ?_ ?_
 ·by_cases h50:(50:Int)≤(n:Int)
  ·(repeat' (first | refine qS ?_ | (refine qC ?_;simp [h50]) | (refine w_e [] ?_;intro J hJ;simp only [];simp [h50];(try (refine hJ _ _ ?_;clear hJ J;simp only [ak,reduceIte])))))
   refine qF (medianAdjacent hC l q st.next k1 0 _ hD hl (by omega) (by omega) hqn' (by simp [hqn',hH]) (by simp)) ?_;rintro r st' ⟨x1,s1,rfl,rfl,h1⟩
   (repeat' (first | refine qS ?_ | ((first | (refine w_e [] ?_;intro J hJ;simp only []) | (refine e_go ?_));simp [];(try (refine hJ _ _ ?_;clear hJ J;simp only [ak,reduceIte])))))
   refine qF (medianAdjacent hC l q st.next k2 s1 _ hD hl (by omega) (by omega) hqn' (by simp [hqn',hH]) (by simp)) ?_;rintro r st' ⟨x2,s2,rfl,rfl,h2⟩
   (repeat' ((first | (refine w_e [] ?_;intro J hJ;simp only []) | (refine e_go ?_));simp [];(try (refine hJ _ _ ?_;clear hJ J;simp only [ak,reduceIte]))))
   refine qF (medianAdjacent hC l q st.next k3 s2 _ hD hl (by omega) (by omega) hqn' (by simp [hqn',hH]) (by simp)) ?_;rintro r st' ⟨x3,s3,rfl,rfl,h3⟩
   (repeat' (refine e_go ?_;simp [];(refine hJ _ _ ?_;clear hJ J;simp only [ak,reduceIte])))
   refine ⟨by trivial,?_⟩;unfold PivI;exact ⟨x1,x2,x3,s3,by simp,by simp,by simp,by simp,by simp,by omega,by omega,by omega,by omega,by omega,by omega,by rw [ix_ix,ix_ix]⟩
  ·(repeat' (first | refine qS ?_ | (refine qK ?_;simp only [ak,reduceIte]) | (refine qC ?_;simp [h50]) | (refine w_e [] ?_;intro J hJ;simp only [];simp [h50];(refine hJ _ _ ?_;clear hJ J;simp only [ak,reduceIte]))))
   refine ⟨by trivial,?_⟩;unfold PivI;exact ⟨k1,k2,k3,0,by simp,by simp,by simp,by simp,by simp,by omega,by omega,by omega,by omega,by omega,by omega,ix_self (by simp)⟩
 rintro fr st2 ⟨j1,j2,j3,s,⟨f0,fC⟩,f9,f10,f11,f12,h1,h2,h3,h4,h5,h6,rfl⟩
 (repeat' (refine w_e [] ?_;intro J hJ;simp only [];simp [f0,fC,f9,f10,f11,f12]))
 refine qF (median hC l q st.next j1 j2 j3 s _ hD hl (by omega) (by omega) (by omega) hqn' (by simp [hqn',hH]) (by simp)) ?_;rintro r st' ⟨x,s1,rfl,rfl,hx⟩
 have hkp:Keeps st (ix (ix (st.new (.box 3 1 [i 0])) st.next s) st.next s1):=((Keeps.new _ _).set (Nat.le_refl _) _).set (Nat.le_refl _) _
 have hax:a≤x∧x < b:=by omega
 (repeat' (first | refine qS ?_ | refine qB ?_ | (refine qR ?_;simp only [ak,reduceIte];simp [f9]) | (refine qC ?_;simp [f9];(try with_reducible refine ⟨?_,?_⟩)<;>(try with_reducible intro hc)) | ((first | (refine w_e [] ?_;intro J hJ;simp only []) | (refine e_go ?_));simp [f9];(refine hJ _ _ ?_;clear hJ J;simp only [ak,reduceIte]))))
 all_goals exact ⟨x,rfl,hax.1,hax.2,hkp⟩
def BrkI (fid:FuncId) (caps:List LV) (en:Int→Nat) (ec:Int→List LV) (q p a b n m k:Nat) (l:List Int) (st:St) (fr:Frm) (st2:St):Prop:=(fr 0=.ms q 0 l.length∧fr 3=.fn (.func fid) caps)∧fr 1=i a∧fr 8=i n∧fr 9=.pt p 0∧fr 10=uw m∧fr 11=i k∧p < st2.next∧OffS q st st2∧(∃ s,st2.H p=.box 100 1 [uw s])∧∃ c,st2.H q=.box 23 1 (ws en ec c)∧Pm a b l c
def BrkJ (fid:FuncId) (caps:List LV) (en:Int→Nat) (ec:Int→List LV) (q p a b n m k:Nat) (l:List Int) (st:St) (fr:Frm) (st2:St):Prop:=BrkI fid caps en ec q p a b n m k l st fr st2∧∃ o:Nat,o < n∧fr 12=i o
set_option maxHeartbeats 1000000 in
theorem breakPatterns {fid:FuncId} {caps:List LV} {en:Int→Nat} {ec:Int→List LV} {Dm:Int→Prop} (hC:CmpW fid caps en ec Dm) (l:List Int) (q a b:Nat) (st:St) (hD:∀ x∈l,Dm x) (hl:l.length < 65536) (hab:a+8≤b) (hb:b≤l.length) (hqn:q < st.next) (hH:st.H q=.box 23 1 (ws en ec l)):
 ACalls Tryz.prog 50 [.ms q 0 l.length,i a,i b,.fn (.func fid) caps] st fun r st'=>∃ c,st'.H q=.box 23 1 (ws en ec c)∧Pm a b l c∧OffS q st st':=by
 obtain ⟨n,hn⟩:∃ n:Nat,n=b - a:=⟨_,rfl⟩
 obtain ⟨n4,hn4⟩:∃ m:Nat,m=n / 4:=⟨_,rfl⟩
 obtain ⟨k0,hk0⟩:∃ m:Nat,m=a+n4 * 2:=⟨_,rfl⟩
 have w1:IntKind.i64.wrap ((b:Int) - (a:Int))=(n:Int):=by rw [wrap_i64 _ (by omega) (by omega)];omega
 have w2:IntKind.i64.wrap ((n:Int) / 4)=(n4:Int):=by
  rw [show (n:Int) / 4=((n / 4:Nat):Int) from rfl,← hn4]
  exact wrap_i64 _ (by omega) (by omega)
 have w4:IntKind.i64.wrap ((n4:Int) * 2)=((n4 * 2:Nat):Int):=by rw [wrap_i64 _ (by omega) (by omega)];omega
 have w7:IntKind.i64.wrap ((a:Int)+((n4 * 2:Nat):Int))=(k0:Int):=by rw [wrap_i64 _ (by omega) (by omega)];omega
 have w8:=nat_sub_one k0 (by omega) (by omega)
 obtain ⟨k1,hk1⟩:∃ m:Nat,m=k0+1:=⟨_,rfl⟩
 have w9:IntKind.i64.wrap ((k0:Int)+1)=(k1:Int):=by rw [qN k0 (by omega),hk1]
 have w10:IntKind.u64.wrap (n:Int)=(n:Int):=wrap_u64 _ (by omega) (by omega)
 have h8:(8:Int)≤(n:Int):=by omega
 have hbl:=(blen_at n (by omega)).2 (by omega)
 obtain ⟨m,hm⟩:∃ m:Nat,m=2 ^ blen n:=⟨_,rfl⟩
 rw [← hm] at hbl
 have w11:IntKind.u64.wrap ((m:Int) - 1)=((m - 1:Nat):Int):=by rw [wrap_u64 _ (by omega) (by omega)];omega
 generalize ((n4 * 2:Nat):Int)=e2 at *
 refine qO tabOk Tryz.func50 rfl rfl Tryz.ntmps50 (rs:=[]) rfl (by simp) ?_
 (repeat' (first | refine qS ?_ | (refine w_e [] ?_;intro J hJ;simp only [];simp [w1];(refine hJ _ _ ?_;clear hJ J;simp only [ak,reduceIte]))))
 refine qC ?_;simp [h8]
 (repeat' (first | refine qS ?_ | (refine w_e [] ?_;intro J hJ;simp only [];simp [w10,w1];(try (refine hJ _ _ ?_;clear hJ J;simp only [ak,reduceIte])))))
 refine qF (nextPowerOfTwo n _ (by omega)) ?_;rintro r st' ⟨rfl,rfl⟩
 rw [← hm]
 (repeat' (first | refine qS ?_ | refine qB ?_ | ((first | (refine w_e [] ?_;intro J hJ;simp only []) | (refine e_go ?_));simp [w2,w4,w7,w8];(refine hJ _ _ ?_;clear hJ J;simp only [ak,reduceIte]))))
 refine qL (fun z fr st2=>∃ k:Nat,k0≤k+1∧k≤k0+2∧z=k0+2 - k∧BrkI fid caps en ec q st.next a b n m k l st fr st2) 3 ?_ ?_
 ·refine ⟨k0 - 1,by omega,by omega,by omega,?_⟩
  unfold BrkI
  have hne:¬ q=st.next:=by omega
  refine ⟨by simp,by simp,by simp,by simp,by simp,by simp,by simp,?_,⟨n,by simp⟩,l,by simp [hne,hH],.refl⟩
  exact ((OffS.refl q st).keeps (Keeps.new _ _)).set' (Nat.le_refl _) _
 rintro z fr st2 ⟨k,hkl,hku,rfl,⟨f0,fC⟩,f1,f6,f7,f8,f9,hpn,hof,⟨s,hs⟩,c,hcq,hpm⟩ JJ hJJ
 have hcl:=hpm.len
 have hDc:=dm_pm hD hpm
 by_cases hlt:(k:Int)≤(k1:Int)
 rotate_left
 ·clear hJJ
  (repeat' (first | refine qS ?_ | (refine qX ?_;simp only [ak,reduceIte]) | (refine qC ?_;simp [f1,f6,f9,w2,w4,w7,w9,hlt]) | (refine w_e [] ?_;intro J hJ;simp only [];simp [f1,f6,f9,w2,w4,w7,w9,hlt];(refine hJ _ _ ?_;clear hJ J;simp only [ak,reduceIte]))))
  exact ⟨trivial,c,hcq,hpm,hof⟩
 (repeat (refine qS ?_));(refine w_e [] ?_;intro J hJ;simp only [];simp [f1,f6,f9,w2,w4,w7,w9,hlt];(refine hJ _ _ ?_;clear hJ J;simp only [ak,reduceIte]))
 refine qC ?_;simp [hlt]
 refine qK ?_;simp only [ak,reduceIte]
 refine qS ?_
 refine qB ?_
 refine qS ?_
 (refine w_e [] ?_;intro J hJ;simp only [];simp [f7])
 refine qF (xNext st.next s _ hs) ?_;rintro r st' ⟨s1,rfl,rfl⟩
 obtain ⟨o,ho,hgo⟩:=gand_lt s1 m (by omega) (by omega)
 have w12:IntKind.i64.wrap (o:Int)=(o:Int):=wrap_i64 _ (by omega) (by omega)
 (refine e_go ?_;simp [f8,w11,hgo,w12];(refine hJ _ _ ?_;clear hJ J;simp only [ak,reduceIte]))
 refine qS ?_
 refine awp_cut1 (BrkJ fid caps en ec q st.next a b n m k l st) ?_ ?_
 ·have hqne:¬ q=st.next:=by omega
  have hI:∀ fr2:Frm,(fr2 0=fr 0∧fr2 3=fr 3)→fr2 1=fr 1→fr2 8=fr 8→fr2 9=fr 9→fr2 10=fr 10→fr2 11=fr 11→BrkI fid caps en ec q st.next a b n m k l st fr2 (xx st2 st.next s1):=by
   intro fr2 g0 g1 g6 g7 g8 g9
   exact ⟨⟨by rw [g0.1,f0],by rw [g0.2,fC]⟩,by rw [g1,f1],by rw [g6,f6],by rw [g7,f7],by rw [g8,f8],by rw [g9,f9],by simpa using hpn,hof.set' (Nat.le_refl _) _,⟨s1,by simp⟩,c,by simp [hqne,hcq],hpm⟩
  by_cases hge:(n:Int)≤(o:Int)
  ·have w13:IntKind.i64.wrap ((o:Int) - (n:Int))=((o - n:Nat):Int):=by rw [wrap_i64 _ (by omega) (by omega)];omega
   (repeat' (first | refine qS ?_ | (refine qC ?_;simp [f6,hge,w13]) | (refine w_e [] ?_;intro J hJ;simp only [];simp [f6,hge,w13];(refine hJ _ _ ?_;clear hJ J;simp only [ak,reduceIte]))))
   refine ⟨by trivial,?_⟩
   exact ⟨hI _ (by simp) (by simp) (by simp) (by simp) (by simp) (by simp),o - n,by omega,by simp⟩
  ·(repeat' (first | refine qS ?_ | (refine qK ?_;simp only [ak,reduceIte]) | (refine qC ?_;simp [f6,hge]) | (refine w_e [] ?_;intro J hJ;simp only [];simp [f6,hge];(refine hJ _ _ ?_;clear hJ J;simp only [ak,reduceIte]))))
   refine ⟨by trivial,?_⟩
   exact ⟨hI _ (by simp) (by simp) (by simp) (by simp) (by simp) (by simp),o,by omega,by simp⟩
 clear f0 fC f1 f6 f7 f8 f9 hpn hof hs hcq hpm hcl hDc hgo w12 ho o s s1 c st2 fr
 rintro fr st2 ⟨⟨⟨f0,fC⟩,f1,f6,f7,f8,f9,hpn,hof,⟨s,hs⟩,c,hcq,hpm⟩,o,ho,f10⟩
 have hcl:=hpm.len
 have hDc:=dm_pm hD hpm
 obtain ⟨x,hx⟩:∃ x:Nat,x=a+o:=⟨_,rfl⟩
 have w12:IntKind.i64.wrap ((a:Int)+(o:Int))=(x:Int):=by rw [wrap_i64 _ (by omega) (by omega)];omega
 have w13:=qN k (by omega)
 have hd1:=ws_drop en ec c k (by omega)
 have hd2:=ws_drop en ec c x (by omega)
 have hl3:k < l.length:=by omega
 have hl4:x < l.length:=by omega
 have hsw:=fun v y=>bx_sw' en ec st2 q c k x (x:=v) (y:=y) (by omega) (by omega)
 have hpm2:=hpm.step k x (by omega) (by omega) (by omega) (by omega) (by omega)
 generalize hv:c.getD k 0=v at *
 generalize hy:c.getD x 0=y at *
 have hsw':=hsw v y rfl rfl
 (refine w_s [] [q] [(0,true),(1,true),(2,true),(3,true),(4,true),(5,true),(6,true),(7,true),(8,true),(9,true),(10,true),(11,true),(12,true),(13,true),(14,true),(15,true),(16,true),(17,false),(18,true),(19,false)] ?_;intro J hJ;simp [f0,fC,f1,f9,f10,w12,hl3,hl4,hcl,hcq,hd1,hd2];(repeat refine ca ?_);(refine hJ _ _ ?_;clear hJ J;simp only [ak,reduceIte]))
 (repeat' (refine w_e [] ?_;intro J hJ;simp only [];simp [f9,w13];(refine hJ _ _ ?_;clear hJ J;simp only [ak,reduceIte])))
 have hqne:¬ st.next=q:=by omega
 rw [hsw']
 exact hJJ (k0+2 - (k+1)) _ _ (by omega) ⟨k+1,by omega,by omega,rfl,by simp [f0,fC],by simp [f1],by simp [f6],by simp [f7],by simp [f8],by simp,by simpa using hpn,hof.set _,⟨s,by simp [hqne,hs]⟩,_,by simp,hpm2⟩
theorem Srt.out {a m:Nat} {c d:List Int} (h:Srt a m c) (e:∀ j,a≤j→j < m→d.getD j 0=c.getD j 0):Srt a m d:=by
 intro p q h1 h2 h3
 rw [e p h1 (by omega),e q (by omega) h3];exact h p q h1 h2 h3
theorem Ahead.less {d:List Int} {a m b:Nat} (h:Ahead d a b) (hm:m≤b):Ahead d a m:=fun h0 j g1 g2=>h h0 j g1 (by omega)
theorem eq_glue {c d:List Int} {a m b:Nat} {x:Int} (h:PartedEq c a m b x) (hlow:∀ j,a≤j→j < m→x≤c.getD j 0) (k:Pm m b c d) (hs:Srt m b d):Srt a b d:=by
 intro p q h1 h2 h3
 by_cases hq:q < m
 ·rw [k.out p (by omega),k.out q (by omega)]
  have:=h.1 p h1 (by omega);have:=hlow q (by omega) hq;omega
 ·by_cases hp:p < m
  ·rw [k.out p (by omega)]
   have g:=h.1 p h1 hp
   have:x < d.getD q 0:=k.all (fun v=>x < v) h.2 q (by omega) h3
   omega
  ·exact hs p q (by omega) h2 h3
def Fin9 (a b a' b':Nat) (c:List Int):Prop:=∀ d,Pm a' b' c d→Srt a' b' d→Srt a b d
theorem Fin9.pm {a b a' b':Nat} {c d:List Int} (h:Fin9 a b a' b' c) (k:Pm a' b' c d):Fin9 a b a' b' d:=fun e h1 h2=>h e (k.trans h1) h2
def PdI (fid:FuncId) (caps:List LV) (en:Int→Nat) (ec:Int→List LV) (q:Nat) (l:List Int) (st:St) (a b a' b':Nat) (wb wp:Bool) (lim n:Nat) (fr:Frm) (st2:St):Prop:=
 (fr 0=.ms q 0 l.length∧fr 4=.fn (.func fid) caps)∧fr 1=i a'∧fr 2=i b'∧fr 3=i lim∧fr 10=bb wb∧fr 11=bb wp∧fr 12=i n∧lim < 1000000∧q < st2.next∧OffS q st st2∧∃ c,st2.H q=.box 23 1 (ws en ec c)∧Pm a b l c∧Ahead c a' b'∧Fin9 a b a' b' c
theorem PdI.mk {fid:FuncId} {caps:List LV} {en:Int→Nat} {ec:Int→List LV} {q:Nat} {l:List Int} {st:St} {a b a' b':Nat} {wb wp:Bool} {lim n:Nat} {fr:Frm} {st2:St} {c:List Int} (f0:(fr 0=.ms q 0 l.length∧fr 4=.fn (.func fid) caps)) (f1:fr 1=i a') (f2:fr 2=i b') (f3:fr 3=i lim) (f8:fr 10=bb wb) (f9:fr 11=bb wp) (f10:fr 12=i n) (hlm:lim < 1000000) (hqn:q < st2.next) (ho:OffS q st st2) (hc:st2.H q=.box 23 1 (ws en ec c)) (hp:Pm a b l c) (ha:Ahead c a' b') (hf:Fin9 a b a' b' c):PdI fid caps en ec q l st a b a' b' wb wp lim n fr st2:=
 ⟨f0,f1,f2,f3,f8,f9,f10,hlm,hqn,ho,c,hc,hp,ha,hf⟩
def PdJ (fid:FuncId) (caps:List LV) (en:Int→Nat) (ec:Int→List LV) (q:Nat) (l:List Int) (st:St) (a b a' b':Nat) (wb wp:Bool) (n:Nat) (fr:Frm) (st2:St):Prop:=∃ lim,PdI fid caps en ec q l st a b a' b' wb wp lim n fr st2
def PdK (fid:FuncId) (caps:List LV) (en:Int→Nat) (ec:Int→List LV) (q:Nat) (l:List Int) (st:St) (a b a' b':Nat) (wb wp:Bool) (n:Nat) (fr:Frm) (st2:St):Prop:=∃ lim,PdI fid caps en ec q l st a b a' b' wb wp lim n fr st2∧∃ (pv:Nat) (h:Int),a'≤pv∧pv < b'∧fr 13=i pv∧fr 14=i h
set_option maxHeartbeats 4000000 in
theorem pdqsort_upto {fid:FuncId} {caps:List LV} {en:Int→Nat} {ec:Int→List LV} {Dm:Int→Prop} (hC:CmpW fid caps en ec Dm) (Z:Nat):∀ (l:List Int) (q a b lim:Nat) (st:St),(∀ x∈l,Dm x)→l.length < 65536→a≤b→b≤l.length→b - a < Z→Ahead l a b→lim < 1000000→q < st.next→st.H q=.box 23 1 (ws en ec l)→
 ACalls Tryz.prog 28 [.ms q 0 l.length,i a,i b,i lim,.fn (.func fid) caps] st fun r st'=>∃ c,st'.H q=.box 23 1 (ws en ec c)∧Pm a b l c∧Srt a b c∧OffS q st st':=by
 induction Z with
 | zero=>intro l q a b lim st _ _ _ _ h;omega
 | succ Z ih=>
 intro l q a b lim st hD hl hab hb hZ hah hlim hqn hH
 have hsm:small l:=by unfold small;omega
 refine qO tabOk Tryz.func28 rfl rfl Tryz.ntmps28 (rs:=[]) rfl (by simp) ?_
 (repeat' (first | refine qS ?_ | refine qB ?_ | (refine w_e [] ?_;intro J hJ;simp only [];simp [];(refine hJ _ _ ?_;clear hJ J;simp only [ak,reduceIte]))))
 refine qL (fun z fr st2=>∃ (a' b' lim:Nat) (wb wp:Bool) (n:LV),a≤a'∧a'≤b'∧b'≤b∧z=b' - a'∧PdI fid caps en ec q l st a b a' b' wb wp lim 0 (upd fr 12 (i (0:Nat))) st2) (b - a) ?_ ?_
 ·refine ⟨a,b,lim,true,true,.nil,by omega,by omega,by omega,rfl,?_⟩
  exact PdI.mk (by simp) (by simp) (by simp) (by simp) (by simp) (by simp) (by simp) hlim hqn (.refl _ _) hH .refl hah fun d h1 h2=>h2
 rintro z fr st2 ⟨a',b',lim,wb,wp,-,ha1,ha2,hb2,rfl,⟨f0,fC⟩,f1,f2,f3,f8,f9,-,hlm,hqn2,hof,c,hc,hpm,hah2,hfin⟩ JJ hJJ
 rw [upd_at,if_neg (by omega)] at f0 fC f1 f2 f3 f8 f9
 have hcl:=hpm.len
 have hDc:=dm_pm hD hpm
 have hsc:small c:=by unfold small;omega
 obtain ⟨n,hn⟩:∃ n:Nat,n=b' - a':=⟨_,rfl⟩
 have w1:IntKind.i64.wrap ((b':Int) - (a':Int))=(n:Int):=by rw [wrap_i64 _ (by omega) (by omega)];omega
 refine qB ?_
 (repeat' (first | refine qS ?_ | (refine w_e [] ?_;intro J hJ;simp only [];simp [f1,f2,w1];(refine hJ _ _ ?_;clear hJ J;simp only [ak,reduceIte]))))
 by_cases hn12:(n:Int)≤12
 ·clear hJJ
  refine qC ?_;simp [hn12]
  (repeat' (first | refine qS ?_ | (refine w_e [] ?_;intro J hJ;simp only [];simp [f0,fC,f1,f2])))
  refine qE (insertionSort hC c q a' b' st2 (by first | assumption | exact dm_pm hD ‹Pm _ _ l c›) hsc (by omega) (by omega) hc) (by simp [f0,fC,f1,f2,hcl]) ?_;rintro r st' ⟨d,rfl,k1,k2⟩
  (repeat' (first | (refine qR ?_;simp only [ak,reduceIte];simp []) | (refine e_go ?_;simp [];(refine hJ _ _ ?_;clear hJ J;simp only [ak,reduceIte]))))
  exact ⟨d,rfl,hpm.trans (k1.wide (by omega) (by omega) (by omega)),hfin d k1 k2,hof.set _⟩
 refine qC ?_;simp [hn12]
 (repeat' (first | refine qS ?_ | (refine qK ?_;simp only [ak,reduceIte]) | (refine w_e [] ?_;intro J hJ;simp only [];simp [f3];(refine hJ _ _ ?_;clear hJ J;simp only [ak,reduceIte]))))
 by_cases hl0:lim=0
 ·clear hJJ
  refine qC ?_;simp [hl0]
  (repeat' (first | refine qS ?_ | (refine w_e [] ?_;intro J hJ;simp only [];simp [f0,fC,f1,f2])))
  refine qE (heapSort hC c q a' b' st2 (by first | assumption | exact dm_pm hD ‹Pm _ _ l c›) hsc (by omega) (by omega) hc) (by simp [f0,fC,f1,f2,hcl]) ?_;rintro r st' ⟨d,rfl,k1,k2⟩
  (repeat' (first | (refine qR ?_;simp only [ak,reduceIte];simp []) | (refine e_go ?_;simp [];(refine hJ _ _ ?_;clear hJ J;simp only [ak,reduceIte]))))
  exact ⟨d,rfl,hpm.trans (k1.wide (by omega) (by omega) (by omega)),hfin d k1 k2,hof.set _⟩
 refine qC ?_;simp [hl0]
 refine qK ?_;simp only [ak,reduceIte]
 refine qS ?_
 refine awp_cut1 (PdJ fid caps en ec q l st a b a' b' wb wp n) ?_ ?_
 ·clear hJJ
  cases wb
  ·(repeat' (first | refine qS ?_ | (refine qC ?_;simp [f0,fC,f1,f2,f8]) | (refine w_e [] ?_;intro J hJ;simp only [];simp [f0,fC,f1,f2,f8];(try (refine hJ _ _ ?_;clear hJ J;simp only [ak,reduceIte])))))
   refine qE (breakPatterns hC c q a' b' st2 (by first | assumption | exact dm_pm hD ‹Pm _ _ l c›) (by omega) (by omega) (by omega) hqn2 hc) (by simp [f0,fC,f1,f2,hcl]) ?_;rintro r st' ⟨d,k0,k1,k2⟩
   have w2:=nat_sub_one lim (by omega) (by omega)
   (repeat' ((first | (refine w_e [] ?_;intro J hJ;simp only []) | (refine e_go ?_));simp [f3,w2];(refine hJ _ _ ?_;clear hJ J;simp only [ak,reduceIte])))
   refine ⟨by trivial,?_⟩
   exact ⟨lim - 1,PdI.mk (by simp [f0,fC]) (by simp [f1]) (by simp [f2]) (by simp) (by simp [f8]) (by simp [f9]) (by simp) (by omega) (Nat.lt_of_lt_of_le hqn2 k2.1) (hof.trans k2) k0 (hpm.trans (k1.wide (by omega) (by omega) (by omega))) (hah2.pm k1) (hfin.pm k1)⟩
  ·(repeat' (first | refine qS ?_ | (refine qK ?_;simp only [ak,reduceIte]) | (refine qC ?_;simp [f8]) | (refine w_e [] ?_;intro J hJ;simp only [];simp [f8];(refine hJ _ _ ?_;clear hJ J;simp only [ak,reduceIte]))))
   refine ⟨by trivial,?_⟩
   exact ⟨lim,PdI.mk (by simp [f0,fC]) (by simp [f1]) (by simp [f2]) (by simp [f3]) (by simp [f8]) (by simp [f9]) (by simp) (by omega) hqn2 hof hc hpm hah2 hfin⟩
 clear f0 fC f1 f2 f3 f8 f9 hlm hqn2 hof hc hpm hah2 hfin hcl hDc hsc c st2 fr hl0 lim
 rintro fr st2 ⟨lim,⟨f0,fC⟩,f1,f2,f3,f8,f9,f10,hlm,hqn2,hof,c,hc,hpm,hah2,hfin⟩
 have hcl:=hpm.len
 have hDc:=dm_pm hD hpm
 have hsc:small c:=by unfold small;omega
 refine qS ?_
 (refine w_e [] ?_;intro J hJ;simp only [];simp [f0,fC,f1,f2])
 refine qE (choosePivot hC c q a' b' st2 (by first | assumption | exact dm_pm hD ‹Pm _ _ l c›) hsc (by omega) (by omega) hqn2 hc) (by simp [f0,fC,f1,f2,hcl]) ?_;rintro r st' ⟨pv,h,rfl,hp1,hp2,k0⟩
 have hc':st'.H q=.box 23 1 (ws en ec c):=by rw [k0.H q hqn2];exact hc
 have hqn3:q < st'.next:=Nat.lt_of_lt_of_le hqn2 k0.next
 have hof2:=hof.keeps k0
 clear hc hqn2 hof k0
 (refine e_go ?_;simp [];(refine hJ _ _ ?_;clear hJ J;simp only [ak,reduceIte]))
 refine qS ?_
 refine awp_cut1 (PdK fid caps en ec q l st a b a' b' wb wp n) ?_ ?_
 ·clear hJJ
  by_cases hh:h=2
  ·(repeat' (first | refine qS ?_ | (refine qC ?_;simp [hh,f0,fC,f1,f2]) | (refine w_e [] ?_;intro J hJ;simp only [];simp [hh,f0,fC,f1,f2];(try (refine hJ _ _ ?_;clear hJ J;simp only [ak,reduceIte])))))
   refine qE (reverseRange hC c q a' b' st' (by first | assumption | exact dm_pm hD ‹Pm _ _ l c›) hsc (by omega) (by omega) (by omega) hc') (by simp [f0,fC,f1,f2,hcl]) ?_;rintro r st' ⟨d,rfl,k1⟩
   have w2:=nat_sub_one b' (by omega) (by omega)
   obtain ⟨x1,hx1⟩:∃ x,x=b' - 1:=⟨_,rfl⟩
   obtain ⟨x2,hx2⟩:∃ x,x=pv - a':=⟨_,rfl⟩
   obtain ⟨x3,hx3⟩:∃ x,x=x1 - x2:=⟨_,rfl⟩
   have w3:IntKind.i64.wrap ((pv:Int) - (a':Int))=(x2:Int):=by rw [wrap_i64 _ (by omega) (by omega)];omega
   have w4:IntKind.i64.wrap ((x1:Int) - (x2:Int))=(x3:Int):=by rw [wrap_i64 _ (by omega) (by omega)];omega
   rw [← hx1] at w2
   (repeat' (first | refine qS ?_ | ((first | (refine w_e [] ?_;intro J hJ;simp only []) | (refine e_go ?_));simp [f1,f2,w2,w3,w4];(refine hJ _ _ ?_;clear hJ J;simp only [ak,reduceIte]))))
   refine ⟨by trivial,?_⟩
   exact ⟨lim,PdI.mk (by simp [f0,fC]) (by simp [f1]) (by simp [f2]) (by simp [f3]) (by simp [f8]) (by simp [f9]) (by simp [f10]) (by omega) hqn3 (hof2.set _) (by simp) (hpm.trans (k1.wide (by omega) (by omega) (by omega))) (hah2.pm k1) (hfin.pm k1),x3,1,by omega,by omega,by simp,by simp⟩
  ·(repeat' (first | refine qS ?_ | (refine qK ?_;simp only [ak,reduceIte]) | (refine qC ?_;simp [hh]) | (refine w_e [] ?_;intro J hJ;simp only [];simp [hh];(refine hJ _ _ ?_;clear hJ J;simp only [ak,reduceIte]))))
   refine ⟨by trivial,?_⟩
   exact ⟨lim,PdI.mk (by simp [f0,fC]) (by simp [f1]) (by simp [f2]) (by simp [f3]) (by simp [f8]) (by simp [f9]) (by simp [f10]) (by omega) hqn3 hof2 hc' hpm hah2 hfin,pv,h,by omega,by omega,by simp,by simp⟩
 clear f0 fC f1 f2 f3 f8 f9 f10 hlm hqn3 hof2 hc' hpm hah2 hfin hcl hDc hsc c st2 fr lim h hp1 hp2 pv
 rintro fr st2 ⟨lim,⟨⟨f0,fC⟩,f1,f2,f3,f8,f9,f10,hlm,hqn2,hof,c,hc,hpm,hah2,hfin⟩,pv,h,hp1,hp2,f11,f12⟩
 have hcl:=hpm.len
 have hDc:=dm_pm hD hpm
 have hsc:small c:=by unfold small;omega
 refine qS ?_
 refine awp_cutR (PdK fid caps en ec q l st a b a' b' wb wp n) ?_ ?_
 ·clear hJJ
  cases wb
  ·(repeat' (first | refine qS ?_ | (refine qK ?_;simp only [ak,reduceIte]) | (refine qC ?_;simp [f8]) | (refine w_e [] ?_;intro J hJ;simp only [];simp [f8];(refine hJ _ _ ?_;clear hJ J;simp only [ak,reduceIte]))))
   refine .inl ⟨by trivial,?_⟩
   exact ⟨lim,PdI.mk (by simp [f0,fC]) (by simp [f1]) (by simp [f2]) (by simp [f3]) (by simp [f8]) (by simp [f9]) (by simp [f10]) (by omega) hqn2 hof hc hpm hah2 hfin,pv,h,by omega,by omega,by simp [f11],by simp [f12]⟩
  cases wp
  ·(repeat' (first | refine qS ?_ | (refine qK ?_;simp only [ak,reduceIte]) | (refine qC ?_;simp [f8,f9]) | (refine w_e [] ?_;intro J hJ;simp only [];simp [f8,f9];(refine hJ _ _ ?_;clear hJ J;simp only [ak,reduceIte]))))
   refine .inl ⟨by trivial,?_⟩
   exact ⟨lim,PdI.mk (by simp [f0,fC]) (by simp [f1]) (by simp [f2]) (by simp [f3]) (by simp [f8]) (by simp [f9]) (by simp [f10]) (by omega) hqn2 hof hc hpm hah2 hfin,pv,h,by omega,by omega,by simp [f11],by simp [f12]⟩
  by_cases hh:h=1
  rotate_left
  ·(repeat' (first | refine qS ?_ | (refine qK ?_;simp only [ak,reduceIte]) | (refine qC ?_;simp [f8,f9,f12,hh]) | (refine w_e [] ?_;intro J hJ;simp only [];simp [f8,f9,f12,hh];(refine hJ _ _ ?_;clear hJ J;simp only [ak,reduceIte]))))
   refine .inl ⟨by trivial,?_⟩
   exact ⟨lim,PdI.mk (by simp [f0,fC]) (by simp [f1]) (by simp [f2]) (by simp [f3]) (by simp [f8]) (by simp [f9]) (by simp [f10]) (by omega) hqn2 hof hc hpm hah2 hfin,pv,h,by omega,by omega,by simp [f11],by simp [f12]⟩
  (repeat' (first | refine qS ?_ | (refine qC ?_;simp [f8,f9,f12,hh,f0,fC,f1,f2]) | (refine w_e [] ?_;intro J hJ;simp only [];simp [f8,f9,f12,hh,f0,fC,f1,f2];(try (refine hJ _ _ ?_;clear hJ J;simp only [ak,reduceIte])))))
  refine qE (partialInsertionSort hC c q a' b' st2 (by first | assumption | exact dm_pm hD ‹Pm _ _ l c›) hsc (by omega) (by omega) hah2 hc) (by simp [f0,fC,f1,f2,hcl]) ?_;rintro r st' ⟨d,p,rfl,rfl,k1,k2⟩
  cases p
  ·(repeat' (first | (refine qK ?_;simp only [ak,reduceIte]) | (refine qC ?_;simp []) | (refine e_go ?_;simp [];(refine hJ _ _ ?_;clear hJ J;simp only [ak,reduceIte]))))
   refine .inl ⟨by trivial,?_⟩
   exact ⟨lim,PdI.mk (by simp [f0,fC]) (by simp [f1]) (by simp [f2]) (by simp [f3]) (by simp [f8]) (by simp [f9]) (by simp [f10]) (by omega) hqn2 (hof.set _) (by simp) (hpm.trans (k1.wide (by omega) (by omega) (by omega))) (hah2.pm k1) (hfin.pm k1),pv,h,by omega,by omega,by simp [f11],by simp [f12]⟩
  ·(repeat' (first | (refine qR ?_;simp only [ak,reduceIte];simp []) | (refine qC ?_;simp []) | (refine e_go ?_;simp [];(refine hJ _ _ ?_;clear hJ J;simp only [ak,reduceIte]))))
   exact ⟨d,rfl,hpm.trans (k1.wide (by omega) (by omega) (by omega)),hfin d k1 (k2 rfl),hof.set _⟩
 clear f0 fC f1 f2 f3 f8 f9 f10 f11 f12 hlm hqn2 hof hc hpm hah2 hfin hcl hDc hsc c st2 fr lim h hp1 hp2 pv
 rintro fr st2 ⟨lim,⟨⟨f0,fC⟩,f1,f2,f3,f8,f9,f10,hlm,hqn2,hof,c,hc,hpm,hah2,hfin⟩,pv,h,hp1,hp2,f11,f12⟩
 have hcl:=hpm.len
 have hDc:=dm_pm hD hpm
 have hsc:small c:=by unfold small;omega
 refine qS ?_
 refine awp_cutX (PdK fid caps en ec q l st a b a' b' wb wp n) ?_ ?_
 ·by_cases h0:a'=0
  ·clear hJJ
   have h0':¬ (0:Int) < (a':Int):=by omega
   (repeat (refine qS ?_));(refine w_s [] [q] [(0,true),(1,true),(2,true),(3,true),(4,true),(5,true),(6,true),(7,true),(8,true),(9,true),(10,true),(11,true),(12,true),(13,false),(14,true),(15,true),(16,true)] ?_;intro J hJ;simp [f0,fC,f1,h0];(refine hJ _ _ ?_;clear hJ J;simp only [ak,reduceIte]))
   (repeat' (first | (refine qK ?_;simp only [ak,reduceIte]) | (refine qC ?_;simp [])))
   refine .inl ⟨by trivial,?_⟩
   exact ⟨lim,PdI.mk (by simp [f0,fC]) (by simp [f1]) (by simp [f2]) (by simp [f3]) (by simp [f8]) (by simp [f9]) (by simp [f10]) (by omega)  hqn2 hof hc hpm hah2 hfin,pv,h,by omega,by omega,by simp [f11],by simp [f12]⟩
  have h0':0 < a':=by omega
  have w2:=nat_sub_one a' (by omega) (by omega)
  have hd1:=ws_drop en ec c (a' - 1) (by omega)
  have hd2:=ws_drop en ec c pv (by omega)
  have hl3:a' - 1 < l.length:=by omega
  have hl4:pv < l.length:=by omega
  have hlow:∀ j,a'≤j→j < b'→c.getD (a' - 1) 0≤c.getD j 0:=hah2 h0'
  generalize hx:c.getD (a' - 1) 0=x at *
  generalize hy:c.getD pv 0=y at *
  (repeat (refine qS ?_));(refine w_s [] [q] [(0,true),(1,true),(2,true),(3,true),(4,true),(5,true),(6,true),(7,true),(8,true),(9,true),(10,true),(11,true),(12,true),(13,false),(14,true),(15,true),(16,true)] ?_;intro J hJ;simp [f0,fC,f1,f11,h0',w2,hl3,hl4,hcl,hc,hd1,hd2])
  refine dcallK_of (hC.call x y _ (by first | assumption | (subst_vars;exact dm_get (by assumption) (by omega))) (by first | assumption | (subst_vars;exact dm_get (by assumption) (by omega)))) ?_;rintro r s2 ⟨⟨nv,rfl,hnv⟩,rfl⟩
  refine ⟨fun _=>by simp,?_⟩
  by_cases hxy:x < y
  ·clear hJJ
   (refine d_go ?_;simp [hnv,hxy];(refine hJ _ _ ?_;clear hJ J;simp only [ak,reduceIte]))
   (repeat' (first | (refine qK ?_;simp only [ak,reduceIte]) | (refine qC ?_;simp [])))
   refine .inl ⟨by trivial,?_⟩
   exact ⟨lim,PdI.mk (by simp [f0,fC]) (by simp [f1]) (by simp [f2]) (by simp [f3]) (by simp [f8]) (by simp [f9]) (by simp [f10]) (by omega)  hqn2 hof hc hpm hah2 hfin,pv,h,by omega,by omega,by simp [f11],by simp [f12]⟩
  (refine d_go ?_;simp [hnv,hxy];(refine hJ _ _ ?_;clear hJ J;simp only [ak,reduceIte]))
  (repeat' (first | refine qS ?_ | (refine qC ?_;simp [f0,fC,f1,f2,f11]) | (refine w_e [] ?_;intro J hJ;simp only [];simp [f0,fC,f1,f2,f11])))
  refine qE (partitionEqual hC c q a' b' pv _ (by first | assumption | exact dm_pm hD ‹Pm _ _ l c›) hsc (by omega) (by omega) hp1 hp2 hc) (by simp [f0,fC,f1,f2,f11,hcl]) ?_;rintro r st' ⟨d,mid,rfl,rfl,k1,k2,k3,k4⟩
  (repeat' (first | refine qS ?_ | (refine qX ?_;simp only [ak,reduceIte]) | ((first | (refine w_e [] ?_;intro J hJ;simp only []) | (refine e_go ?_));simp [];(refine hJ _ _ ?_;clear hJ J;simp only [ak,reduceIte]))))
  refine .inr ⟨by simp,?_⟩
  refine hJJ (b' - mid) _ _ (by omega) ⟨mid,b',lim,wb,wp,.nil,by omega,by omega,by omega,rfl,?_⟩
  rw [hy] at k4
  refine PdI.mk (by simp [f0,fC]) (by simp) (by simp [f2]) (by simp [f3]) (by simp [f8]) (by simp [f9]) (by simp) (by omega) hqn2 (hof.set _) (by simp) (hpm.trans (k1.wide (by omega) (by omega) (by omega))) ?_ ?_
  ·intro _ j g1 g2
   have e1:=k4.1 (mid - 1) (by omega) (by omega)
   have e2:=k4.2 j g1 g2
   omega
  ·intro e g1 g2
   refine hfin e (k1.trans (g1.wide (by omega) (by omega) (by have:=k1.len;omega))) (eq_glue k4 (fun j e1 e2=>?_) g1 g2)
   have:=k1.all (fun v=>x≤v) hlow j e1 (by omega)
   omega
 clear f0 fC f1 f2 f3 f8 f9 f10 f11 f12 hlm hqn2 hof hc hpm hah2 hfin hcl hDc hsc c st2 fr lim h hp1 hp2 pv
 rintro fr st2 ⟨lim,⟨⟨f0,fC⟩,f1,f2,f3,f8,f9,f10,hlm,hqn2,hof,c,hc,hpm,hah2,hfin⟩,pv,h,hp1,hp2,f11,f12⟩
 have hcl:=hpm.len
 have hDc:=dm_pm hD hpm
 have hsc:small c:=by unfold small;omega
 (repeat' (first | refine qS ?_ | (refine w_e [] ?_;intro J hJ;simp only [];simp [f0,fC,f1,f2,f11])))
 refine qE (partition hC c q a' b' pv _ (by first | assumption | exact dm_pm hD ‹Pm _ _ l c›) hsc (by omega) (by omega) hp1 hp2 hc) (by simp [f0,fC,f1,f2,f11,hcl]) ?_;rintro r st' ⟨d,mid,p,rfl,rfl,k1,k2,k3,k4⟩
 have hdl:=k1.len
 have k4:PartedAt d a' mid b':=k4
 have hpm':=hpm.trans (k1.wide ha1 hb2 (by omega))
 have hah':=hah2.pm k1
 have hfin':=hfin.pm k1
 have hof':=hof.set (q:=q) (.box 23 1 (ws en ec d))
 have w3:IntKind.i64.wrap ((mid:Int) - (a':Int))=((mid - a':Nat):Int):=by rw [wrap_i64 _ (by omega) (by omega)];omega
 have w4:IntKind.i64.wrap ((b':Int) - (mid:Int))=((b' - mid:Nat):Int):=by rw [wrap_i64 _ (by omega) (by omega)];omega
 have w5:IntKind.i64.wrap ((n:Int) / 8)=((n / 8:Nat):Int):=by
  rw [show (n:Int) / 8=((n / 8:Nat):Int) from rfl]
  exact wrap_i64 _ (by omega) (by omega)
 obtain ⟨z1,hz1⟩:∃ x:Nat,x=mid - a':=⟨_,rfl⟩
 obtain ⟨z2,hz2⟩:∃ x:Nat,x=b' - mid:=⟨_,rfl⟩
 obtain ⟨z3,hz3⟩:∃ x:Nat,x=n / 8:=⟨_,rfl⟩
 obtain ⟨m1,hm1⟩:∃ x:Nat,x=mid+1:=⟨_,rfl⟩
 rw [← hz1] at w3;rw [← hz2] at w4;rw [← hz3] at w5
 have w6:IntKind.i64.wrap ((mid:Int)+1)=(m1:Int):=by rw [qN mid (by omega),hm1]
 clear hc hpm hah2 hfin hof
 (repeat' (first | refine qS ?_ | ((first | (refine w_e [] ?_;intro J hJ;simp only []) | (refine e_go ?_));simp [f1,f2,f10,w3,w4,w5];(refine hJ _ _ ?_;clear hJ J;simp only [ak,reduceIte]))))
 refine qC ?_
 by_cases hzz:z1 < z2
 ·simp [hzz]
  (repeat' (first | refine qS ?_ | (refine w_e [] ?_;intro J hJ;simp only [];simp [f0,fC,f1,f3];(try (refine hJ _ _ ?_;clear hJ J;simp only [ak,reduceIte])))))
  refine qE (ih d q a' mid lim (bx en ec st2 q d) (by first | assumption | exact dm_pm hD ‹Pm _ _ l d›) (by omega) (by omega) (by omega) (by omega) (hah'.less (by omega)) (by omega) hqn2 (by simp)) (by simp [f0,fC,f1,f2,f3,hdl,hcl]) ?_;rintro r st' ⟨e,j0,j1,j2,j3⟩
  (repeat' ((first | (refine w_e [] ?_;intro J hJ;simp only []) | (refine e_go ?_));simp [w6];(refine hJ _ _ ?_;clear hJ J;simp only [ak,reduceIte])))
  refine hJJ (b' - m1) _ _ (by omega) ⟨m1,b',lim,decide (z3≤z1),p,.nil,by omega,by omega,by omega,rfl,?_⟩
  refine PdI.mk (by simp [f0,fC]) (by simp) (by simp [f2]) (by simp [f3]) (by simp) (by simp) (by simp) (by omega) (Nat.lt_of_lt_of_le hqn2 j3.1) (hof'.trans j3) j0 (hpm'.trans (j1.wide (by omega) (by omega) (by omega))) ?_ ?_
  ·rw [hm1];exact (k4.pmL j1).aheadR
  ·intro y g1 g2
   rw [hm1] at g1 g2
   refine hfin' y ((j1.wide (by omega) (by omega) (by omega)).trans (g1.wide (by omega) (by omega) (by have:=j1.len;omega))) (((k4.pmL j1).pmR g1).glue (Srt.out j2 fun j e1 e2=>g1.out j (by omega)) g2)
 ·simp [hzz]
  (repeat' (first | refine qS ?_ | (refine w_e [] ?_;intro J hJ;simp only [];simp [f0,fC,f2,f3,w6];(try (refine hJ _ _ ?_;clear hJ J;simp only [ak,reduceIte])))))
  refine qE (ih d q m1 b' lim (bx en ec st2 q d) (by first | assumption | exact dm_pm hD ‹Pm _ _ l d›) (by omega) (by omega) (by omega) (by omega) (by rw [hm1];exact k4.aheadR) (by omega) hqn2 (by simp)) (by simp [f0,fC,f1,f2,f3,hdl,hcl]) ?_;rintro r st' ⟨e,j0,j1,j2,j3⟩
  (repeat' ((first | (refine w_e [] ?_;intro J hJ;simp only []) | (refine e_go ?_));simp [];(refine hJ _ _ ?_;clear hJ J;simp only [ak,reduceIte])))
  rw [hm1] at j1 j2
  refine hJJ (mid - a') _ _ (by omega) ⟨a',mid,lim,decide (z3≤z2),p,.nil,by omega,by omega,by omega,rfl,?_⟩
  refine PdI.mk (by simp [f0,fC]) (by simp [f1]) (by simp) (by simp [f3]) (by simp) (by simp) (by simp) (by omega) (Nat.lt_of_lt_of_le hqn2 j3.1) (hof'.trans j3) j0 (hpm'.trans (j1.wide (by omega) (by omega) (by omega))) ?_ ?_
  ·exact (hah'.pm (j1.wide (by omega) (by omega) (by omega))).less (by omega)
  ·intro y g1 g2
   refine hfin' y ((j1.wide (by omega) (by omega) (by omega)).trans (g1.wide (by omega) (by omega) (by have:=j1.len;omega))) (((k4.pmR j1).pmL g1).glue g2 (Srt.out j2 fun j e1 e2=>g1.out j (by omega)))
theorem SortW {fid:FuncId} {caps:List LV} {en:Int→Nat} {ec:Int→List LV} {Dm:Int→Prop} (hC:CmpW fid caps en ec Dm) (l:List Int) (q:Nat) (st:St) (hD:∀ x∈l,Dm x) (hl:l.length < 65536) (hqn:q < st.next) (hH:st.H q=.box 23 1 (ws en ec l)):
 ACalls Tryz.prog 16 [.ms q 0 l.length,.fn (.func fid) caps] st fun r st'=>∃ c,st'.H q=.box 23 1 (ws en ec c)∧c.Perm l∧c.Pairwise (·≤·)∧OffS q st st':=by
 have w1:IntKind.u64.wrap (l.length:Int)=(l.length:Int):=wrap_u64 _ (by omega) (by omega)
 have hbl:=(blen_at l.length hl).1
 refine qO tabOk Tryz.func16 rfl rfl Tryz.ntmps16 (rs:=[]) rfl (by simp) ?_
 (repeat' (first | refine qS ?_ | (refine w_e [] ?_;intro J hJ;simp only [];simp [w1];(try (refine hJ _ _ ?_;clear hJ J;simp only [ak,reduceIte])))))
 refine qF (Len l.length _ hl) ?_;rintro r st' ⟨rfl,rfl⟩
 (repeat' (refine e_go ?_;simp []))
 refine qE (pdqsort_upto hC (l.length+1) l q 0 l.length (blen l.length) _ hD hl (by omega) (by omega) (by omega) (fun h=>absurd h (by omega)) (by omega) hqn hH) (by simp []) ?_;rintro r st' ⟨c,k1,k2,k3,k4⟩
 (repeat' (refine e_go ?_;simp [];(refine hJ _ _ ?_;clear hJ J;simp only [ak,reduceIte])))
 have hcl:=k2.len
 exact ⟨trivial,c,k1,k2.perm,srt_pair (by rw [hcl];exact k3),k4⟩
end Go.Proofs.YtkcokoefodgigaaGreat.Aw.CB
namespace Go.Proofs.YtkcokoefodgigaaGreat.Aw
open Go Go.RowKit
set_option linter.unusedSimpArgs false
set_option linter.unusedVariables false
theorem below_ext {w w':World} (g:G) (h:Below w.heap.size w w'):Ext w g w' g:=
 ⟨h.os,h.tape,h.output,h.size,Nat.le_refl _,fun _ _=>rfl,fun _ _=>rfl,fun _ _=>rfl,fun b hb hn=>⟨hn,h.block b hb⟩,fun b k hb hk=>⟨k,hk,Nat.le_refl _,fun o _=>World.cell?_of_block (w:=w) (h.block b hb)⟩⟩
theorem inv_below {w w':World} {g:G} {st:St} (hi:Inv w g st) (h:Below w.heap.size w w'):Inv w' g st:=by
 have he':=below_ext g h
 refine ⟨hi.next,hi.pos,hi.fresh,fun l hl=>Nat.lt_of_lt_of_le (hi.lt l hl) h.size,hi.inj,?_,?_,?_,?_,hi.aside.keep he' fun _ _=>rfl⟩
 ·intro l e s n hl
  obtain ⟨h1,h2,h3,h4⟩:=hi.own l e s n hl
  refine ⟨h1,h2,h3,fun hnl=>?_⟩
  obtain ⟨cur,k1,k2,k3⟩:=h4 hnl
  exact ⟨cur,by rw [h.block _ (Array.getElem?_eq_some_iff.1 k1).1];exact k1,k2,k3⟩
 ·intro l e s cs hl
  obtain ⟨h1,h2,h3⟩:=hi.box l e s cs hl
  refine ⟨h1,h2,fun hnl=>?_⟩
  obtain ⟨cur,k1,k2,k3,k4,k5⟩:=h3 hnl
  exact ⟨cur,by rw [h.block _ (Array.getElem?_eq_some_iff.1 k1).1];exact k1,k2,k3,RepL.mono he' _ _ k4,k5⟩
 ·intro l ag ks es hl
  have hm:=hi.mp l ag ks es hl
  exact hm.keep he' (hi.map_lt hl) (h.block _ hm.blk_lt) rfl
 ·intro l e n hl
  have hm:=hi.qu l e n hl
  exact hm.keep he' (hi.que_lt hl) (h.block _ hm.blk_lt) rfl
def prim:XCall:=fun _ _ _=>none
theorem prim_ok:CallOk Tryz.prog prim:=fun _ _ _ _ h=>by cases h
theorem awake13 (st:St):ACalls Tryz.prog 5 [] st fun r st'=>r=bb true∧st'=st:=
 acalls_closed tabOk fnsOk prim_ok mixed 1000000 true (by kernel_rfl)
structure Mp where
 g:Gr
 rots:List (List Int)
 deriving DecidableEq
theorem mget_mset (es:List (List Int×LV)) (a x:List Int) (v:LV):mget (mset es a v) x=if x=a then some v else mget es x:=by
 induction es with
 | nil=>
   simp only [mset,mget,beq_iff_eq]
 | cons p es ih=>
   by_cases h:a=p.1
   ·have:mset (p::es) a v=(a,v)::es:=by simp [mset,h]
    rw [this]
    simp only [mget,beq_iff_eq]
    by_cases hx:x=a
    ·simp [hx]
    ·have:¬ x=p.1:=by rw [← h];exact hx
     simp [hx,this]
   ·have:mset (p::es) a v=p::mset es a v:=by simp [mset,h]
    rw [this]
    simp only [mget,beq_iff_eq]
    by_cases hx:x=p.1
    ·have:¬ x=a:=fun h'=>h (by rw [← h',hx])
     rw [if_pos hx,if_neg this,if_pos hx]
    ·simp [hx,ih]
end Go.Proofs.YtkcokoefodgigaaGreat.Aw
namespace Go.Proofs.YtkcokoefodgigaaGreat.Aw
open Go Go.RowKit Go.Proofs.YtkcokoefodgigaaGreat.Pl
set_option linter.unusedSimpArgs false
set_option linter.unusedVariables false
@[simp] theorem new_set (st:St) (a b:LObj):(st.new a).set st.next b=st.new b:=St.ext' rfl fun y=>by by_cases hy:y=st.next<;>simp [hy]
theorem eds_length (l:List Ed):(eds l).length=l.length * 3:=by
 induction l with
 | nil=>rfl
 | cons e l ih=>simp only [eds,List.flatMap_cons,List.length_append,List.length_cons,List.length_nil] at ih ⊢;omega
abbrev ed0:Ed:=⟨0,0,0⟩
theorem eds_drop (l:List Ed) (k:Nat) (hk:k < l.length):(eds l).drop (k * 3)=u (l.getD k ed0).id::u (l.getD k ed0).a::u (l.getD k ed0).b::eds (l.drop (k+1)):=by
 induction l generalizing k with
 | nil=>simp at hk
 | cons e l ih=>
   cases k with
   | zero=>rfl
   | succ k=>
     have:(k+1) * 3=k * 3+1+1+1:=by omega
     rw [this]
     simp only [eds,List.flatMap_cons,edL,List.cons_append,List.drop_succ_cons,List.nil_append,List.getD_cons_succ]
     exact ih k (by simpa using hk)
def firstNZ (f:Nat→Int):Nat→Int
 | 0=>0
 | n+1=>if firstNZ f n≠0 then firstNZ f n else f n
theorem firstNZ_zero {f:Nat→Int} {n:Nat} (h:∀ j,j < n→f j=0):firstNZ f n=0:=by
 induction n with
 | zero=>rfl
 | succ n ih=>simp [firstNZ,ih (fun j hj=>h j (by omega)),h n (by omega)]
theorem firstNZ_eq {f:Nat→Int} {n k:Nat} {v:Int} (hk:k < n) (h:∀ j,j < k→f j=0) (hv:f k=v) (h0:v≠0):firstNZ f n=v:=by
 induction n with
 | zero=>omega
 | succ n ih=>
   rcases Nat.lt_or_ge k n with h1 | h1
   ·have:=ih h1
    simp [firstNZ,this,h0]
   ·have:k=n:=by omega
    subst this
    simp [firstNZ,firstNZ_zero h,hv]
def numb (n ahead:Int) (first:Bool):Int:=if n < 1∨1048576 < n then 2 else if first=false∧n≤ahead then 19 else 0
def badV (g:Gr) (k:Nat):Int:=numb (g.vs.getD k 0) (g.vs.getD (k - 1) 0) (decide (k=0))
def badE (g:Gr) (k:Nat):Int:=
 let x:=g.es.getD k ed0
 let n:=numb x.id (g.es.getD (k - 1) ed0).id (decide (k=0))
 if n≠0 then n else if x.a=x.b then 20 else if x.a∉g.vs∨x.b∉g.vs then 21 else 0
def chk (g:Gr):Int:=if 64 < g.vs.length∨160 < g.es.length then 6 else if firstNZ (badV g) g.vs.length≠0 then firstNZ (badV g) g.vs.length else firstNZ (badE g) g.es.length
theorem Has (g:Gr) (v:Int) (st:St) (hl:small g.vs):
 ACalls Tryz.prog 14 [.ag (grL g),u v] st fun r st'=>r=bb (decide (v∈g.vs))∧Keeps st st':=by
 obtain ⟨l,es⟩:=g
 simp only at hl ⊢
 unfold small at hl
 refine qO tabOk Tryz.func14 rfl rfl Tryz.ntmps14 (rs:=[.tmp 4]) rfl (by simp) ?_
 (repeat' (first | refine qS ?_ | refine qB ?_ | (refine w_e [] ?_;intro J hJ;simp only [];simp [];(refine hJ _ _ ?_;clear hJ J;simp only [ak,reduceIte]))))
 refine qL (fun n fr st'=>∃ k:Nat,k≤l.length∧n=l.length - k∧fr 8=.sl 0 l.length (us l)∧fr 1=u v∧fr 9=i l.length∧fr 10=i k∧Keeps st st'∧∀ j (hj:j < l.length),j < k→l[j]≠v) l.length ?_ ?_
 ·exact ⟨0,by omega,by omega,by simp,by simp,by simp,by simp,Keeps.new _ _,fun j _ h=>by omega⟩
 rintro n fr st' ⟨k,hk,rfl,h8,h1,h9,h10,hkp,hno⟩ JJ hJJ
 by_cases hlt:k < l.length
 ·have hd:=us_drop_head l k hlt
  have hw:=qN k (by omega)
  (repeat' (first | refine qS ?_ | refine qB ?_ | (refine qK ?_;simp only [ak,reduceIte]) | (refine qR ?_;simp only [ak,reduceIte];simp [h8,h1,h9,h10,hlt,hd,hw]) | (refine qC ?_;simp [h8,h1,h9,h10,hlt,hd,hw];(try with_reducible refine ⟨?_,?_⟩)<;>(try with_reducible intro hc)) | (refine w_e [] ?_;intro J hJ;simp only [];simp [h8,h1,h9,h10,hlt,hd,hw];(refine hJ _ _ ?_;clear hJ J;simp only [ak,reduceIte]))))
  ·exact ⟨by rw [← hc];exact List.getElem_mem hlt,hkp⟩
  ·refine hJJ _ _ _ ?_ ⟨k+1,by omega,rfl,by simp [h8],by simp [h1],by simp [h9],by simp,hkp,fun j hj hjk=>?_⟩
   ·omega
   ·rcases Nat.lt_or_ge j k with h | h
    ·exact hno j hj h
    ·obtain rfl:j=k:=by omega
     exact hc
 ·(repeat' (first | refine qS ?_ | (refine qX ?_;simp only [ak,reduceIte]) | (refine qR ?_;simp only [ak,reduceIte];simp [h8,h1,h9,h10,hlt]) | (refine qC ?_;simp [h8,h1,h9,h10,hlt]) | (refine w_e [] ?_;intro J hJ;simp only [];simp [h8,h1,h9,h10,hlt];(refine hJ _ _ ?_;clear hJ J;simp only [ak,reduceIte]))))
  refine ⟨fun hm=>?_,hkp⟩
  obtain ⟨j,hj,rfl⟩:=List.getElem_of_mem hm
  exact hno j hj (by omega) rfl
theorem number (n ahead:Int) (first:Bool) (st:St):
 ACalls Tryz.prog 71 [u n,u ahead,bb first] st fun r st'=>r=i (numb n ahead first)∧st'=st:=by
 unfold numb
 refine qO tabOk Tryz.func71 rfl rfl Tryz.ntmps71 (rs:=[.tmp 6]) rfl (by simp) ?_
 by_cases h1:n < 1
 ·(repeat' (first | refine qS ?_ | refine qB ?_ | (refine qR ?_;simp only [ak,reduceIte];simp [h1]) | (refine qC ?_;simp [h1]) | (refine w_e [] ?_;intro J hJ;simp only [];simp [h1];(refine hJ _ _ ?_;clear hJ J;simp only [ak,reduceIte]))))
 by_cases h2:1048576 < n
 ·(repeat' (first | refine qS ?_ | refine qB ?_ | (refine qR ?_;simp only [ak,reduceIte];simp [h1,h2]) | (refine qC ?_;simp [h1,h2]) | (refine w_e [] ?_;intro J hJ;simp only [];simp [h1,h2];(refine hJ _ _ ?_;clear hJ J;simp only [ak,reduceIte]))))
 cases first
 ·by_cases h3:n≤ahead
  ·(repeat' (first | refine qS ?_ | refine qB ?_ | (refine qR ?_;simp only [ak,reduceIte];simp [h1,h2,h3]) | (refine qC ?_;simp [h1,h2,h3]) | (refine w_e [] ?_;intro J hJ;simp only [];simp [h1,h2,h3];(refine hJ _ _ ?_;clear hJ J;simp only [ak,reduceIte]))))
  ·(repeat' (first | refine qS ?_ | refine qB ?_ | (refine qK ?_;simp only [ak,reduceIte]) | (refine qR ?_;simp only [ak,reduceIte];simp [h1,h2,h3]) | (refine qC ?_;simp [h1,h2,h3]) | (refine w_e [] ?_;intro J hJ;simp only [];simp [h1,h2,h3];(refine hJ _ _ ?_;clear hJ J;simp only [ak,reduceIte]))))
 ·(repeat' (first | refine qS ?_ | refine qB ?_ | (refine qK ?_;simp only [ak,reduceIte]) | (refine qR ?_;simp only [ak,reduceIte];simp [h1,h2]) | (refine qC ?_;simp [h1,h2]) | (refine w_e [] ?_;intro J hJ;simp only [];simp [h1,h2];(refine hJ _ _ ?_;clear hJ J;simp only [ak,reduceIte]))))
theorem ref_Check (g:Gr) (st:St) (hv:g.vs.length≤1000) (he:g.es.length≤1000):
 ACalls Tryz.prog 6 [.ag (grL g)] st fun r st'=>r=i (chk g)∧Keeps st st':=by
 have hsm:small g.vs:=by unfold small;omega
 refine qO tabOk Tryz.func6 rfl rfl Tryz.ntmps6 (rs:=[.tmp 2]) rfl (by simp) ?_
 by_cases h1:(64:Int) < (g.vs.length:Int)
 ·have:chk g=6:=by unfold chk;rw [if_pos (by omega)]
  (repeat' (first | refine qS ?_ | (refine qR ?_;simp only [ak,reduceIte];simp [h1,this]) | (refine qC ?_;simp [h1,this]) | (refine w_e [] ?_;intro J hJ;simp only [];simp [h1,this];(refine hJ _ _ ?_;clear hJ J;simp only [ak,reduceIte]))))
  exact Keeps.new _ _
 by_cases h2:(160:Int) < (g.es.length:Int)
 ·have:chk g=6:=by unfold chk;rw [if_pos (by omega)]
  (repeat' (first | refine qS ?_ | (refine qR ?_;simp only [ak,reduceIte];simp [h1,h2,this]) | (refine qC ?_;simp [h1,h2,this]) | (refine w_e [] ?_;intro J hJ;simp only [];simp [h1,h2,this];(refine hJ _ _ ?_;clear hJ J;simp only [ak,reduceIte]))))
  exact Keeps.new _ _
 have hch:chk g=if firstNZ (badV g) g.vs.length≠0 then firstNZ (badV g) g.vs.length else firstNZ (badE g) g.es.length:=by unfold chk;rw [if_neg (by omega)]
 (repeat' (first | refine qS ?_ | refine qB ?_ | (refine qK ?_;simp only [ak,reduceIte]) | (refine qC ?_;simp [h1,h2]) | (refine w_e [] ?_;intro J hJ;simp only [];simp [h1,h2];(refine hJ _ _ ?_;clear hJ J;simp only [ak,reduceIte]))))
 refine qL (fun n fr st'=>∃ k:Nat,k≤g.vs.length∧n=g.vs.length - k∧fr 1=.pt st.next 0∧fr 18=.sl 0 g.vs.length (us g.vs)∧fr 19=i g.vs.length∧fr 20=i k∧st'=st.new (.box 25 2 (grL g))∧∀ j,j < k→badV g j=0) g.vs.length ?_ ?_
 ·exact ⟨0,by omega,by omega,by simp,by simp,by simp,by simp,rfl,fun j h=>by omega⟩
 rintro n fr st' ⟨k,hk,rfl,f1,f18,f19,f20,rfl,hno⟩ JJ hJJ
 by_cases hlt:k < g.vs.length
 ·have hd:=qG g.vs k hlt
  have hw:=qN k (by omega)
  have hbad:badV g k=numb (g.vs.getD k 0) (g.vs.getD (k - 1) 0) (decide (k=0)):=rfl
  have hnext:badV g k=0→∀ j,j < k+1→badV g j=0:=fun hb j hj=>by
   rcases Nat.lt_or_ge j k with h | h
   ·exact hno j h
   ·obtain rfl:j=k:=by omega
    exact hb
  have hret:∀ v,badV g k=v→v≠0→chk g=v:=fun v h0 h1=>by
   have hf:=firstNZ_eq hlt hno h0 h1
   rw [hch,hf,if_pos h1]
  generalize hx:g.vs.getD k 0=x at *
  by_cases hx1:x < 1
  ·have hr:=hret 2 (by rw [hbad];unfold numb;rw [if_pos (.inl hx1)]) (by decide)
   (repeat' (first | refine qS ?_ | refine qB ?_ | (refine qK ?_;simp only [ak,reduceIte]) | (refine qR ?_;simp only [ak,reduceIte];simp [f1,f18,f19,f20,hlt,hd,hw,hx1,hr]) | (refine qC ?_;simp [f1,f18,f19,f20,hlt,hd,hw,hx1,hr]) | (refine w_e [] ?_;intro J hJ;simp only [];simp [f1,f18,f19,f20,hlt,hd,hw,hx1,hr];(refine hJ _ _ ?_;clear hJ J;simp only [ak,reduceIte]))))
   exact Keeps.new _ _
  by_cases hx2:1048576 < x
  ·have hr:=hret 2 (by rw [hbad];unfold numb;rw [if_pos (.inr hx2)]) (by decide)
   (repeat' (first | refine qS ?_ | refine qB ?_ | (refine qK ?_;simp only [ak,reduceIte]) | (refine qR ?_;simp only [ak,reduceIte];simp [f1,f18,f19,f20,hlt,hd,hw,hx1,hx2,hr]) | (refine qC ?_;simp [f1,f18,f19,f20,hlt,hd,hw,hx1,hx2,hr]) | (refine w_e [] ?_;intro J hJ;simp only [];simp [f1,f18,f19,f20,hlt,hd,hw,hx1,hx2,hr];(refine hJ _ _ ?_;clear hJ J;simp only [ak,reduceIte]))))
   exact Keeps.new _ _
  by_cases h0:k=0
  ·have hb:badV g k=0:=by rw [hbad];unfold numb;rw [if_neg (by simp [hx1,hx2])];simp [h0]
   have hk0:¬ 0 < k:=by omega
   (repeat' (first | refine qS ?_ | refine qB ?_ | (refine qK ?_;simp only [ak,reduceIte]) | (refine qC ?_;simp [f1,f18,f19,f20,hlt,hd,hw,hx1,hx2,hk0]) | (refine w_e [] ?_;intro J hJ;simp only [];simp [f1,f18,f19,f20,hlt,hd,hw,hx1,hx2,hk0];(refine hJ _ _ ?_;clear hJ J;simp only [ak,reduceIte]))))
   refine hJJ _ _ _ ?_ ⟨k+1,by omega,rfl,by simp [f1],by simp [f18],by simp [f19],by simp,rfl,hnext hb⟩
   omega
  ·have hk0:0 < k:=by omega
   have hw1:IntKind.i64.wrap ((k:Int) - 1)=((k - 1:Nat):Int):=by rw [wrap_i64 _ (by omega) (by omega)];omega
   have hd1:=qG g.vs (k - 1) (by omega)
   have hlt1:k - 1 < g.vs.length:=by omega
   generalize hy:g.vs.getD (k - 1) 0=y at *
   by_cases hle:x≤y
   ·have hr:=hret 19 (by rw [hbad];unfold numb;rw [if_neg (by simp [hx1,hx2]),if_pos ⟨by simp [h0],hle⟩]) (by decide)
    (repeat' (first | refine qS ?_ | refine qB ?_ | (refine qK ?_;simp only [ak,reduceIte]) | (refine qR ?_;simp only [ak,reduceIte];simp [f1,f18,f19,f20,hlt,hd,hw,hx1,hx2,hk0,hw1,hd1,hlt1,hle,hr]) | (refine qC ?_;simp [f1,f18,f19,f20,hlt,hd,hw,hx1,hx2,hk0,hw1,hd1,hlt1,hle,hr]) | (refine w_e [] ?_;intro J hJ;simp only [];simp [f1,f18,f19,f20,hlt,hd,hw,hx1,hx2,hk0,hw1,hd1,hlt1,hle,hr];(refine hJ _ _ ?_;clear hJ J;simp only [ak,reduceIte]))))
    exact Keeps.new _ _
   ·have hb:badV g k=0:=by rw [hbad];unfold numb;rw [if_neg (by simp [hx1,hx2]),if_neg (by simp [hle])]
    (repeat' (first | refine qS ?_ | refine qB ?_ | (refine qK ?_;simp only [ak,reduceIte]) | (refine qC ?_;simp [f1,f18,f19,f20,hlt,hd,hw,hx1,hx2,hk0,hw1,hd1,hlt1,hle]) | (refine w_e [] ?_;intro J hJ;simp only [];simp [f1,f18,f19,f20,hlt,hd,hw,hx1,hx2,hk0,hw1,hd1,hlt1,hle];(refine hJ _ _ ?_;clear hJ J;simp only [ak,reduceIte]))))
    refine hJJ _ _ _ ?_ ⟨k+1,by omega,rfl,by simp [f1],by simp [f18],by simp [f19],by simp,rfl,hnext hb⟩
    omega
 have hk':k=g.vs.length:=by omega
 have hz:firstNZ (badV g) g.vs.length=0:=firstNZ_zero (fun j hj=>hno j (by omega))
 rw [hz] at hch
 simp only [ne_eq,not_true_eq_false,if_false] at hch
 clear hJJ hno hz
 have hel:=eds_length g.es
 (repeat' (first | refine qS ?_ | refine qB ?_ | (refine qX ?_;simp only [ak,reduceIte]) | (refine qC ?_;simp [f1,f18,f19,f20,hlt]) | (refine w_e [] ?_;intro J hJ;simp only [];simp [f1,f18,f19,f20,hlt];(refine hJ _ _ ?_;clear hJ J;simp only [ak,reduceIte]))))
 refine qL (fun n fr st'=>∃ k:Nat,k≤g.es.length∧n=g.es.length - k∧fr 1=.pt st.next 0∧fr 45=.sl 0 g.es.length (eds g.es)∧fr 46=i g.es.length∧fr 47=i k∧Keeps (st.new (.box 25 2 (grL g))) st'∧∀ j,j < k→badE g j=0) g.es.length ?_ ?_
 ·exact ⟨0,by omega,by omega,by simp [f1],by simp,by simp,by simp,Keeps.refl _,fun j h=>by omega⟩
 clear f1 f18 f19 f20 hlt hk' hk fr k
 rintro n fr st1 ⟨k,hk,rfl,f1,f45,f46,f47,hkp,hno⟩ JJ hJJ
 have hgH:st1.H st.next=.box 25 2 (grL g):=by rw [hkp.H _ (by simp)];simp
 have hnx:¬ st.next=st1.next:=by have:=hkp.next;simp only [new_next] at this;omega
 have hkp0:=(Keeps.new st (.box 25 2 (grL g))).trans hkp
 by_cases hlt:k < g.es.length
 ·have hd:=eds_drop g.es k hlt
  have hw:=qN k (by omega)
  have hk3:k * 3 < g.es.length * 3:=by omega
  have hbad:badE g k=(let x:=g.es.getD k ed0;let n:=numb x.id (g.es.getD (k - 1) ed0).id (decide (k=0));if n≠0 then n else if x.a=x.b then 20 else if x.a∉g.vs∨x.b∉g.vs then 21 else 0):=rfl
  have hnext:badE g k=0→∀ j,j < k+1→badE g j=0:=fun hb j hj=>by
   rcases Nat.lt_or_ge j k with h | h
   ·exact hno j h
   ·obtain rfl:j=k:=by omega
    exact hb
  have hret:∀ v,badE g k=v→v≠0→chk g=v:=fun v h0 h1=>by
   rw [hch];exact firstNZ_eq hlt hno h0 h1
  generalize hx:g.es.getD k ed0=x at *
  obtain ⟨xi,xa,xb⟩:=x
  simp only at hd hbad
  have hkn:=hkp0.trans (Keeps.new _ (.box 34 3 [u xi,u xa,u xb]))
  by_cases hx1:xi < 1
  ·have hn:numb xi (g.es.getD (k - 1) ed0).id (decide (k=0))=2:=by unfold numb;rw [if_pos (.inl hx1)]
   have hr:=hret 2 (by rw [hbad,hn];rfl) (by decide)
   (repeat' (first | refine qS ?_ | refine qB ?_ | (refine qK ?_;simp only [ak,reduceIte]) | (refine qR ?_;simp only [ak,reduceIte];simp [f1,f45,f46,f47,hlt,hd,hw,hel,hk3,hgH,hnx,hx1,hr]) | (refine qC ?_;simp [f1,f45,f46,f47,hlt,hd,hw,hel,hk3,hgH,hnx,hx1,hr]) | (refine w_e [] ?_;intro J hJ;simp only [];simp [f1,f45,f46,f47,hlt,hd,hw,hel,hk3,hgH,hnx,hx1,hr];(refine hJ _ _ ?_;clear hJ J;simp only [ak,reduceIte]))))
   exact hkn
  by_cases hx2:1048576 < xi
  ·have hn:numb xi (g.es.getD (k - 1) ed0).id (decide (k=0))=2:=by unfold numb;rw [if_pos (.inr hx2)]
   have hr:=hret 2 (by rw [hbad,hn];rfl) (by decide)
   (repeat' (first | refine qS ?_ | refine qB ?_ | (refine qK ?_;simp only [ak,reduceIte]) | (refine qR ?_;simp only [ak,reduceIte];simp [f1,f45,f46,f47,hlt,hd,hw,hel,hk3,hgH,hnx,hx1,hx2,hr]) | (refine qC ?_;simp [f1,f45,f46,f47,hlt,hd,hw,hel,hk3,hgH,hnx,hx1,hx2,hr]) | (refine w_e [] ?_;intro J hJ;simp only [];simp [f1,f45,f46,f47,hlt,hd,hw,hel,hk3,hgH,hnx,hx1,hx2,hr];(refine hJ _ _ ?_;clear hJ J;simp only [ak,reduceIte]))))
   exact hkn
  by_cases hnb:numb xi (g.es.getD (k - 1) ed0).id (decide (k=0))=0
  rotate_left
  ·
   have h0:k≠0:=by rintro rfl;apply hnb;unfold numb;rw [if_neg (by simp [hx1,hx2])];simp
   have hle:xi≤(g.es.getD (k - 1) ed0).id:=by
    unfold numb at hnb
    rw [if_neg (by simp [hx1,hx2])] at hnb
    by_cases h:decide (k=0)=false∧xi≤(g.es.getD (k - 1) ed0).id
    ·exact h.2
    ·rw [if_neg h] at hnb;exact absurd rfl hnb
   have hn:numb xi (g.es.getD (k - 1) ed0).id (decide (k=0))=19:=by unfold numb;rw [if_neg (by simp [hx1,hx2]),if_pos ⟨by simp [h0],hle⟩]
   have hr:=hret 19 (by rw [hbad,hn];rfl) (by decide)
   have hk0:0 < k:=by omega
   have hw1:IntKind.i64.wrap ((k:Int) - 1)=((k - 1:Nat):Int):=by rw [wrap_i64 _ (by omega) (by omega)];omega
   have hd1:=eds_drop g.es (k - 1) (by omega)
   have hlt1:k - 1 < g.es.length:=by omega
   have hlt3:(k - 1) * 3 < g.es.length * 3:=by omega
   generalize hy:g.es.getD (k - 1) ed0=y at *
   obtain ⟨yi,ya,yb⟩:=y
   simp only at hd1 hle
   (repeat' (first | refine qS ?_ | refine qB ?_ | (refine qK ?_;simp only [ak,reduceIte]) | (refine qR ?_;simp only [ak,reduceIte];simp [f1,f45,f46,f47,hlt,hd,hw,hel,hk3,hgH,hnx,hx1,hx2,hk0,hw1,hd1,hlt1,hlt3,hle,hr]) | (refine qC ?_;simp [f1,f45,f46,f47,hlt,hd,hw,hel,hk3,hgH,hnx,hx1,hx2,hk0,hw1,hd1,hlt1,hlt3,hle,hr]) | ((first | (refine w_e [] ?_;intro J hJ;simp only []) | (refine w_q ?_;intro J hJ));simp [f1,f45,f46,f47,hlt,hd,hw,hel,hk3,hgH,hnx,hx1,hx2,hk0,hw1,hd1,hlt1,hlt3,hle,hr];(refine hJ _ _ ?_;clear hJ J;simp only [ak,reduceIte]))))
   exact hkn
  rw [if_neg (fun h=>h hnb)] at hbad
  by_cases hab:xa=xb
  ·have hr:=hret 20 (by rw [hbad,if_pos hab]) (by decide)
   by_cases h0:k=0
   ·have hk0:¬ 0 < k:=by omega
    (repeat' (first | refine qS ?_ | refine qB ?_ | (refine qK ?_;simp only [ak,reduceIte]) | (refine qR ?_;simp only [ak,reduceIte];simp [f1,f45,f46,f47,hlt,hd,hw,hel,hk3,hgH,hnx,hx1,hx2,hk0,hab,hr]) | (refine qC ?_;simp [f1,f45,f46,f47,hlt,hd,hw,hel,hk3,hgH,hnx,hx1,hx2,hk0,hab,hr]) | ((first | (refine w_e [] ?_;intro J hJ;simp only []) | (refine w_q ?_;intro J hJ));simp [f1,f45,f46,f47,hlt,hd,hw,hel,hk3,hgH,hnx,hx1,hx2,hk0,hab,hr];(refine hJ _ _ ?_;clear hJ J;simp only [ak,reduceIte]))))
    exact hkp0.trans (Keeps.new _ _)
   ·have hk0:0 < k:=by omega
    have hw1:IntKind.i64.wrap ((k:Int) - 1)=((k - 1:Nat):Int):=by rw [wrap_i64 _ (by omega) (by omega)];omega
    have hd1:=eds_drop g.es (k - 1) (by omega)
    have hlt1:k - 1 < g.es.length:=by omega
    have hlt3:(k - 1) * 3 < g.es.length * 3:=by omega
    have hle:¬ xi≤(g.es.getD (k - 1) ed0).id:=by
     intro h
     unfold numb at hnb
     rw [if_neg (by simp [hx1,hx2]),if_pos ⟨by simp [h0],h⟩] at hnb
     cases hnb
    generalize hy:g.es.getD (k - 1) ed0=y at *
    obtain ⟨yi,ya,yb⟩:=y
    simp only at hd1 hle
    (repeat' (first | refine qS ?_ | refine qB ?_ | (refine qK ?_;simp only [ak,reduceIte]) | (refine qR ?_;simp only [ak,reduceIte];simp [f1,f45,f46,f47,hlt,hd,hw,hel,hk3,hgH,hnx,hx1,hx2,hk0,hw1,hd1,hlt1,hlt3,hle,hab,hr]) | (refine qC ?_;simp [f1,f45,f46,f47,hlt,hd,hw,hel,hk3,hgH,hnx,hx1,hx2,hk0,hw1,hd1,hlt1,hlt3,hle,hab,hr]) | ((first | (refine w_e [] ?_;intro J hJ;simp only []) | (refine w_q ?_;intro J hJ));simp [f1,f45,f46,f47,hlt,hd,hw,hel,hk3,hgH,hnx,hx1,hx2,hk0,hw1,hd1,hlt1,hlt3,hle,hab,hr];(refine hJ _ _ ?_;clear hJ J;simp only [ak,reduceIte]))))
    exact hkp0.trans (Keeps.new _ _)
  rw [if_neg hab] at hbad
  by_cases h0:k=0
  ·have hk0:¬ 0 < k:=by omega
   (repeat' (first | refine qS ?_ | refine qB ?_ | (refine qK ?_;simp only [ak,reduceIte]) | (refine qC ?_;simp [f1,f45,f46,f47,hlt,hd,hw,hel,hk3,hgH,hnx,hx1,hx2,hk0,hab]) | ((first | (refine w_e [] ?_;intro J hJ;simp only []) | (refine w_q ?_;intro J hJ));simp [f1,f45,f46,f47,hlt,hd,hw,hel,hk3,hgH,hnx,hx1,hx2,hk0,hab];(try (refine hJ _ _ ?_;clear hJ J;simp only [ak,reduceIte])))))
   refine qE (Has g xa _ hsm) (by simp []) ?_;rintro r st' ⟨rfl,hk1⟩
   have hB1:st'.H st1.next=.box 34 3 [u xi,u xa,u xb]:=by rw [hk1.H _ (by simp)];simp
   have hgH1:st'.H st.next=.box 25 2 (grL g):=by
    rw [hk1.H _ (by have:=hkp.next;simp only [new_next] at this ⊢;omega),new_H,if_neg hnx];exact hgH
   have hkp1:=(hkp.trans (Keeps.new _ _)).trans hk1
   have hkp01:=(hkp0.trans (Keeps.new _ _)).trans hk1
   by_cases hma:xa∈g.vs
   rotate_left
   ·have hr:=hret 21 (by rw [hbad,if_pos (.inl hma)]) (by decide)
    (repeat' (first | refine qS ?_ | (refine qR ?_;simp only [ak,reduceIte];simp [f1,hB1,hgH1,hr,hma]) | (refine qC ?_;simp [f1,hB1,hgH1,hr,hma]) | ((first | (refine w_e [] ?_;intro J hJ;simp only []) | (refine e_go ?_));simp [f1,hB1,hgH1,hr,hma];(refine hJ _ _ ?_;clear hJ J;simp only [ak,reduceIte]))))
    exact hkp01
   (refine e_go ?_;simp [f1,hB1,hgH1,hma])
   refine qE (Has g xb _ hsm) (by simp []) ?_;rintro r st' ⟨rfl,hk2⟩
   by_cases hmb:xb∈g.vs
   rotate_left
   ·have hr:=hret 21 (by rw [hbad,if_pos (.inr hmb)]) (by decide)
    (repeat' (first | refine qS ?_ | (refine qR ?_;simp only [ak,reduceIte];simp [hr,hmb]) | (refine qC ?_;simp [hr,hmb]) | ((first | (refine w_e [] ?_;intro J hJ;simp only []) | (refine e_go ?_));simp [hr,hmb];(refine hJ _ _ ?_;clear hJ J;simp only [ak,reduceIte]))))
    exact hkp01.trans hk2
   have hb':badE g k=0:=by rw [hbad,if_neg (by simp [hma,hmb])]
   (repeat' (first | (refine qK ?_;simp only [ak,reduceIte]) | (refine qC ?_;simp [f47,hw,hmb]) | ((first | (refine w_e [] ?_;intro J hJ;simp only []) | (refine e_go ?_));simp [f47,hw,hmb];(refine hJ _ _ ?_;clear hJ J;simp only [ak,reduceIte]))))
   refine hJJ _ _ _ ?_ ⟨k+1,by omega,rfl,by simp [f1],by simp [f45],by simp [f46],by simp,hkp1.trans hk2,hnext hb'⟩
   omega
  ·have hk0:0 < k:=by omega
   have hw1:IntKind.i64.wrap ((k:Int) - 1)=((k - 1:Nat):Int):=by rw [wrap_i64 _ (by omega) (by omega)];omega
   have hd1:=eds_drop g.es (k - 1) (by omega)
   have hlt1:k - 1 < g.es.length:=by omega
   have hlt3:(k - 1) * 3 < g.es.length * 3:=by omega
   have hle:¬ xi≤(g.es.getD (k - 1) ed0).id:=by
    intro h
    unfold numb at hnb
    rw [if_neg (by simp [hx1,hx2]),if_pos ⟨by simp [h0],h⟩] at hnb
    cases hnb
   generalize hy:g.es.getD (k - 1) ed0=y at *
   obtain ⟨yi,ya,yb⟩:=y
   simp only at hd1 hle
   (repeat' (first | refine qS ?_ | refine qB ?_ | (refine qK ?_;simp only [ak,reduceIte]) | (refine qC ?_;simp [f1,f45,f46,f47,hlt,hd,hw,hel,hk3,hgH,hnx,hx1,hx2,hk0,hw1,hd1,hlt1,hlt3,hle,hab]) | ((first | (refine w_e [] ?_;intro J hJ;simp only []) | (refine w_q ?_;intro J hJ));simp [f1,f45,f46,f47,hlt,hd,hw,hel,hk3,hgH,hnx,hx1,hx2,hk0,hw1,hd1,hlt1,hlt3,hle,hab];(try (refine hJ _ _ ?_;clear hJ J;simp only [ak,reduceIte])))))
   refine qE (Has g xa _ hsm) (by simp []) ?_;rintro r st' ⟨rfl,hk1⟩
   have hB1:st'.H st1.next=.box 34 3 [u xi,u xa,u xb]:=by rw [hk1.H _ (by simp)];simp
   have hgH1:st'.H st.next=.box 25 2 (grL g):=by
    rw [hk1.H _ (by have:=hkp.next;simp only [new_next] at this ⊢;omega),new_H,if_neg hnx];exact hgH
   have hkp1:=(hkp.trans (Keeps.new _ _)).trans hk1
   have hkp01:=(hkp0.trans (Keeps.new _ _)).trans hk1
   by_cases hma:xa∈g.vs
   rotate_left
   ·have hr:=hret 21 (by rw [hbad,if_pos (.inl hma)]) (by decide)
    (repeat' (first | refine qS ?_ | (refine qR ?_;simp only [ak,reduceIte];simp [f1,hB1,hgH1,hr,hma]) | (refine qC ?_;simp [f1,hB1,hgH1,hr,hma]) | ((first | (refine w_e [] ?_;intro J hJ;simp only []) | (refine e_go ?_));simp [f1,hB1,hgH1,hr,hma];(refine hJ _ _ ?_;clear hJ J;simp only [ak,reduceIte]))))
    exact hkp01
   (refine e_go ?_;simp [f1,hB1,hgH1,hma])
   refine qE (Has g xb _ hsm) (by simp []) ?_;rintro r st' ⟨rfl,hk2⟩
   by_cases hmb:xb∈g.vs
   rotate_left
   ·have hr:=hret 21 (by rw [hbad,if_pos (.inr hmb)]) (by decide)
    (repeat' (first | refine qS ?_ | (refine qR ?_;simp only [ak,reduceIte];simp [hr,hmb]) | (refine qC ?_;simp [hr,hmb]) | ((first | (refine w_e [] ?_;intro J hJ;simp only []) | (refine e_go ?_));simp [hr,hmb];(refine hJ _ _ ?_;clear hJ J;simp only [ak,reduceIte]))))
    exact hkp01.trans hk2
   have hb':badE g k=0:=by rw [hbad,if_neg (by simp [hma,hmb])]
   (repeat' (first | (refine qK ?_;simp only [ak,reduceIte]) | (refine qC ?_;simp [f47,hw,hmb]) | ((first | (refine w_e [] ?_;intro J hJ;simp only []) | (refine e_go ?_));simp [f47,hw,hmb];(refine hJ _ _ ?_;clear hJ J;simp only [ak,reduceIte]))))
   refine hJJ _ _ _ ?_ ⟨k+1,by omega,rfl,by simp [f1],by simp [f45],by simp [f46],by simp,hkp1.trans hk2,hnext hb'⟩
   omega
 ·have hr:chk g=0:=by rw [hch];exact firstNZ_zero (fun j hj=>hno j (by omega))
  clear hJJ
  (repeat' (first | refine qS ?_ | (refine qX ?_;simp only [ak,reduceIte]) | (refine qR ?_;simp only [ak,reduceIte];simp [f1,f45,f46,f47,hlt,hr]) | (refine qC ?_;simp [f1,f45,f46,f47,hlt,hr]) | (refine w_e [] ?_;intro J hJ;simp only [];simp [f1,f45,f46,f47,hlt,hr];(refine hJ _ _ ?_;clear hJ J;simp only [ak,reduceIte]))))
  exact hkp0
theorem eds_one (l:List Ed):(eds l).all oneL=true:=by
 induction l with
 | nil=>rfl
 | cons e l ih=>simp only [eds,List.flatMap_cons,List.all_append,ih,Bool.and_true];rfl
theorem ref_CheckA (g:Gr) (st:St):ACalls Tryz.prog 6 [.ag (grL g)] st fun r st'=>r=i (chk g)∧Keeps st st':=by
 by_cases h1:(64:Int) < (g.vs.length:Int)
 ·have:chk g=6:=by unfold chk;rw [if_pos (by omega)]
  refine qO tabOk Tryz.func6 rfl rfl Tryz.ntmps6 (rs:=[.tmp 2]) rfl (by simp) ?_
  (repeat' (first | refine qS ?_ | (refine qR ?_;simp only [ak,reduceIte];simp [h1,this]) | (refine qC ?_;simp [h1,this]) | (refine w_e [] ?_;intro J hJ;simp only [];simp [h1,this];(refine hJ _ _ ?_;clear hJ J;simp only [ak,reduceIte]))))
  exact Keeps.new _ _
 by_cases h2:(160:Int) < (g.es.length:Int)
 ·have:chk g=6:=by unfold chk;rw [if_pos (by omega)]
  refine qO tabOk Tryz.func6 rfl rfl Tryz.ntmps6 (rs:=[.tmp 2]) rfl (by simp) ?_
  (repeat' (first | refine qS ?_ | (refine qR ?_;simp only [ak,reduceIte];simp [h1,h2,this]) | (refine qC ?_;simp [h1,h2,this]) | (refine w_e [] ?_;intro J hJ;simp only [];simp [h1,h2,this];(refine hJ _ _ ?_;clear hJ J;simp only [ak,reduceIte]))))
  exact Keeps.new _ _
 exact ref_Check g st (by omega) (by omega)
theorem awp_posG {P:Program} {N:Nat} {Q:AQ} {c:Code} {fr:Frm} {st:St} (h:0 < st.next→AWp P N c Q fr st):AWp P N c Q fr st:=
 fun a w g hi hr hs hd=>h hi.pos a w g hi hr hs hd
def end1 (v:Int) (x:Ed):List Int:=(if x.a=v then [2 * x.id] else [])++(if x.b=v then [2 * x.id+1] else [])
def ends (es:List Ed) (v:Int):List Int:=es.flatMap (end1 v)
theorem flat_takeE (f:Ed→List Int) (l:List Ed) (k:Nat) (hk:k < l.length):(l.take (k+1)).flatMap f=(l.take k).flatMap f++f (l.getD k ed0):=by
 rw [List.take_succ_eq_append_getElem hk,List.flatMap_append,List.getD_eq_getElem?_getD,List.getElem?_eq_getElem hk];simp
theorem flat_len (f:Ed→List Int) (hf:∀ x,(f x).length≤2) (l:List Ed):(l.flatMap f).length≤2 * l.length:=by
 induction l with
 | nil=>simp
 | cons x l ih=>have:=hf x;simp only [List.flatMap_cons,List.length_append,List.length_cons];omega
def idOk (es:List Ed):Prop:=∀ x∈es,0≤x.id∧x.id≤1048576
def nbr1 (v:Int) (x:Ed):List Int:=(if x.a=v then [x.b] else [])++(if x.b=v then [x.a] else [])
def nbr (es:List Ed) (v:Int):List Int:=es.flatMap (nbr1 v)
theorem nbr1_len (v:Int) (x:Ed):(nbr1 v x).length≤2:=by
 unfold nbr1;split<;>split<;>simp
def NearI (lo m:Nat) (es:List (List Int×LV)) (st:St) (f:Int→List Int) (tok:Int→Nat):Prop:=
 ∀ v,(tok v=0→f v=[]∧mget es [v]=none)∧(tok v≠0→mget es [v]=some (.sl (tok v) (f v).length (us (f v)))∧lo≤tok v∧tok v < st.next∧tok v≠m∧st.H (tok v)=.own 32 1 (f v).length∧∀ w,tok w=tok v→w=v)
theorem NearI.step {lo m:Nat} {es:List (List Int×LV)} {st st':St} {f:Int→List Int} {tok:Int→Nat} (h:NearI lo m es st f tok) (a x:Int) (N:Nat) (hN:st.next≤N) (hN':N < st'.next) (hm:m < st.next) (h0:0 < st.next) (hlo:lo≤st.next)
 (hH:∀ l,l≠tok a→l≠m→l < st.next→st'.H l=st.H l) (hO:st'.H N=.own 32 1 ((f a).length+1)):
 NearI lo m (mset es [a] (.sl N ((f a).length+1) (us (f a++[x])))) st' (fun v=>if v=a then f a++[x] else f v) (fun v=>if v=a then N else tok v):=by
 intro v
 by_cases hv:v=a
 ·subst hv
  simp only [if_true]
  refine ⟨fun h1=>by omega,fun _=>⟨by rw [mget_mset];simp,by omega,hN',by omega,by rw [hO];simp,fun w hw=>?_⟩⟩
  by_cases hwv:w=v
  ·exact hwv
  ·rw [if_neg hwv] at hw
   by_cases h1:tok w=0
   ·omega
   ·have:=((h w).2 h1).2.2.1;omega
 ·simp only [if_neg hv]
  have hne:¬ ([v]:List Int)=[a]:=by simpa using hv
  refine ⟨fun h1=>⟨((h v).1 h1).1,by rw [mget_mset,if_neg hne];exact ((h v).1 h1).2⟩,fun h1=>?_⟩
  obtain ⟨k1,k2,k3,k4,k5,k6⟩:=(h v).2 h1
  refine ⟨by rw [mget_mset,if_neg hne];exact k1,k2,by omega,k4,?_,fun w hw=>?_⟩
  ·rw [hH (tok v) (fun e=>hv (k6 a e.symm).symm) k4 k3];exact k5
  ·by_cases hwa:w=a
   ·subst hwa;simp only [if_true] at hw;omega
   ·rw [if_neg hwa] at hw;exact k6 w hw
def RowsAt (es:List (List Int×LV)) (f:Int→List Int):Prop:=∀ v,∃ t,norm ((mget es [v]).getD .nil)=.sl t (f v).length (us (f v))
def NearJ (n0 m:Nat) (st:St) (l:List Ed) (k:Nat) (id a b:Int) (f:Int→List Int) (fr:Frm) (st2:St):Prop:=
 fr 3=.mp (m)∧fr 8=.sl 0 l.length (eds l)∧fr 9=i l.length∧fr 10=i k∧Keeps st st2∧m < st2.next∧(∃ q,fr 5=.pt q 0∧st2.H q=.box 34 3 [u id,u a,u b]∧q < st2.next)∧∃ es tok,st2.H (m)=.map false [.u32] es∧NearI n0 m es st2 f tok
theorem near (g:Gr) (st:St) (he:g.es.length≤1000):
 ACalls Tryz.prog 23 [.ag (grL g)] st fun r st'=>∃ m es,r=.mp m∧st.next≤m∧m < st'.next∧st'.H m=.map false [.u32] es∧Keeps st st'∧RowsAt es (nbr g.es):=by
 obtain ⟨vs,l⟩:=g
 simp only at he ⊢
 have hel:=eds_length l
 have hfl:=fun v k=>flat_len (nbr1 v) (nbr1_len v) (l.take k)
 refine qO tabOk Tryz.func23 rfl rfl Tryz.ntmps23 (rs:=[.tmp 2]) rfl (by simp) ?_
 (repeat' (first | refine qS ?_ | refine qB ?_ | (refine w_e [] ?_;intro J hJ;simp only [];simp [];(refine hJ _ _ ?_;clear hJ J;simp only [ak,reduceIte]))))
 refine awp_posG fun hpos=>?_
 obtain ⟨m,hm⟩:∃ m,m=st.next+1:=⟨_,rfl⟩
 refine qL (fun n fr st2=>∃ k:Nat,k≤l.length∧n=l.length - k∧fr 3=.mp m∧fr 8=.sl 0 l.length (eds l)∧fr 9=i l.length∧fr 10=i k∧Keeps st st2∧m < st2.next∧∃ es tok,st2.H m=.map false [.u32] es∧NearI st.next m es st2 (nbr (l.take k)) tok) l.length ?_ ?_
 ·exact ⟨0,by omega,by omega,by simp [hm],by simp,by simp,by simp,(Keeps.new _ _).trans (Keeps.new _ _),by simp [hm],[],fun _=>0,by simp [hm],fun v=>⟨fun _=>⟨by simp [nbr],rfl⟩,fun h=>absurd rfl h⟩⟩
 rintro n fr st2 ⟨k,hk,rfl,f3,f8,f9,f10,hkp,hmn,es,tok,hM,hN⟩ JJ hJJ
 by_cases hlt:k < l.length
 rotate_left
 ·clear hJJ
  have hk':k=l.length:=by omega
  rw [hk',List.take_length] at hN
  (repeat' (first | refine qS ?_ | (refine qX ?_;simp only [ak,reduceIte]) | (refine qR ?_;simp only [ak,reduceIte];simp [f3,f9,f10,hlt]) | (refine qC ?_;simp [f3,f9,f10,hlt]) | (refine w_e [] ?_;intro J hJ;simp only [];simp [f3,f9,f10,hlt];(refine hJ _ _ ?_;clear hJ J;simp only [ak,reduceIte]))))
  refine ⟨by omega,hmn,es,hM,hkp,fun v=>?_⟩
  by_cases h0:tok v=0
  ·obtain ⟨h1,h2⟩:=(hN v).1 h0
   exact ⟨0,by rw [h1,h2];rfl⟩
  ·obtain ⟨h1,-⟩:=(hN v).2 h0
   exact ⟨tok v,by rw [h1];rfl⟩
 have hd:=eds_drop l k hlt
 have hw:=qN k (by omega)
 have hk3:k * 3 < l.length * 3:=by omega
 have hst:∀ v,nbr (l.take (k+1)) v=nbr (l.take k) v++nbr1 v (l.getD k ed0):=fun v=>flat_takeE _ _ _ hlt
 have hle:∀ v,(nbr (l.take k) v).length≤2 * k:=fun v=>by have:=hfl v k;rw [List.length_take] at this;unfold nbr;omega
 generalize hx:l.getD k ed0=x at *
 obtain ⟨id,a,b⟩:=x
 simp only at hd
 generalize hF:nbr (l.take k)=f at *
 (repeat' (first | refine qS ?_ | refine qB ?_ | (refine qK ?_;simp only [ak,reduceIte]) | (refine qC ?_;simp [f8,f9,f10,hlt,hd,hel]) | (refine w_e [] ?_;intro J hJ;simp only [];simp [f8,f9,f10,hlt,hd,hel];(refine hJ _ _ ?_;clear hJ J;simp only [ak,reduceIte]))))
 have hm2:¬ m=st2.next:=by omega
 have hm3:¬ st2.next=m:=by omega
 have hm4:¬ m=st2.next+1:=by omega
 have hm5:¬ m=st2.next+1+1:=by omega
 have hn2:¬ st2.next=st2.next+1+1:=by omega
 refine awp_cut1 (NearJ st.next m st l k id a b (fun v=>if v=a then f a++[b] else f v)) ?_ ?_
 ·clear hJJ
  have hla:=hle a
  by_cases h0:tok a=0
  ·obtain ⟨h1,h2⟩:=(hN a).1 h0
   (refine w_s [] [st2.next,m] [(0,true),(1,true),(2,true),(3,true),(4,true),(5,true),(6,true),(7,true),(8,true),(9,true),(10,true),(11,false)] ?_;intro J hJ;simp [f3,hM,h2,hm2,hm3,hm4,hm5,hn2];(repeat refine ca ?_);(refine hJ _ _ ?_;clear hJ J;simp only [ak,reduceIte]))
   refine ⟨by trivial,?_⟩
   have e:LV.sl (st2.next+1+1) ((f a).length+1) (us (f a++[b]))=.sl (st2.next+1+1) 1 [u b]:=by rw [h1];rfl
   refine ⟨by simp [f3],by simp [f8],by simp [f9],by simp [f10],(by repeat (first | exact hkp | (refine Keeps.trans ?_ (Keeps.new _ _)) | (refine Keeps.set ?_ (by have:=hkp.next;omega) _))),by simp;omega,⟨st2.next,by simp,by simp [hm3,hn2],by simp;omega⟩,_,fun v=>if v=a then st2.next+1+1 else tok v,by simp;rfl,?_⟩
   rw [← e]
   refine hN.step a b (st2.next+1+1) (by omega) (by simp) hmn (by omega) (by have:=hkp.next;omega) (fun l e1 e2 e3=>?_) (by rw [h1];simp [Ne.symm hm5])
   have a1:¬ l=st2.next:=by omega
   have a2:¬ l=st2.next+1:=by omega
   have a3:¬ l=st2.next+1+1:=by omega
   simp [a1,a2,a3,e1,e2]
  ·obtain ⟨h1,h2,h3,h4,h5,h6⟩:=(hN a).2 h0
   have ht1:¬ tok a=st2.next:=by omega
   have ht2:¬ st2.next=tok a:=by omega
   have ht3:¬ tok a=st2.next+1:=by omega
   have ht4:¬ m=tok a:=fun h=>h4 h.symm
   (refine w_s [] [st2.next,m] [(0,true),(1,true),(2,true),(3,true),(4,true),(5,true),(6,true),(7,true),(8,true),(9,true),(10,true),(11,false)] ?_;intro J hJ;simp [f3,hM,h1,h5,h0,hm2,hm3,hm4,hm5,hn2,ht1,ht2,ht3,ht4];(repeat refine ca ?_);(refine hJ _ _ ?_;clear hJ J;simp only [ak,reduceIte]))
   refine ⟨by trivial,?_⟩
   have e:LV.sl (st2.next+1+1) ((f a).length+1) (us (f a++[b]))=.sl (st2.next+1+1) ((f a).length+1) (us (f a)++[u b]):=by simp
   refine ⟨by simp [f3],by simp [f8],by simp [f9],by simp [f10],(by repeat (first | exact hkp | (refine Keeps.trans ?_ (Keeps.new _ _)) | (refine Keeps.set ?_ (by have:=hkp.next;omega) _))),by simp;omega,⟨st2.next,by simp,by simp [hm3,hn2,ht2],by simp;omega⟩,_,fun v=>if v=a then st2.next+1+1 else tok v,by simp;rfl,?_⟩
   rw [← e]
   refine hN.step a b (st2.next+1+1) (by omega) (by simp) hmn (by omega) (by have:=hkp.next;omega) (fun l e1 e2 e3=>?_) (by simp [Ne.symm hm5])
   have a1:¬ l=st2.next:=by omega
   have a2:¬ l=st2.next+1:=by omega
   have a3:¬ l=st2.next+1+1:=by omega
   simp [a1,a2,a3,e1,e2]
 clear f3 f8 f9 f10 hkp hmn hM hN hm2 hm3 hm4 hm5 hn2 tok es st2 fr
 rintro fr st2 ⟨f3,f8,f9,f10,hkp,hmn,⟨q,f5,hq,hqn⟩,es,tok,hM,hN⟩
 generalize hf2:(fun v=>if v=a then f a++[b] else f v)=f2 at *
 have hle2:(f2 b).length≤2 * k+1:=by
  rw [← hf2]
  simp only
  split
  ·have:=hle a;simp;omega
  ·have:=hle b;omega
 have hfin:∀ v,nbr (l.take (k+1)) v=(if v=b then f2 b++[a] else f2 v):=by
  intro v
  rw [hst v,← hf2]
  unfold nbr1
  simp only
  by_cases hva:v=a
  ·subst hva
   by_cases hvb:v=b
   ·subst hvb;simp
   ·simp [hvb,Ne.symm hvb]
  ·by_cases hvb:v=b
   ·subst hvb;simp [hva,Ne.symm hva]
   ·simp [hva,hvb,Ne.symm hva,Ne.symm hvb]
 have hfin':nbr (l.take (k+1))=fun v=>if v=b then f2 b++[a] else f2 v:=funext hfin
 have hm2:¬ m=st2.next:=by omega
 have hm5:¬ m=st2.next+1:=by omega
 have hq2:¬ q=st2.next:=by omega
 have hqm:¬ q=m:=fun h=>by rw [h,hM] at hq;cases hq
 by_cases h0:tok b=0
 ·obtain ⟨h1,h2⟩:=(hN b).1 h0
  (refine w_s [] [q,m] [(0,true),(1,true),(2,true),(3,true),(4,true),(5,true),(6,true),(7,true),(8,true),(9,true),(10,true),(11,false)] ?_;intro J hJ;simp [f3,f5,hq,hM,h2,hm2,hm5,hq2,hqm];(repeat refine ca ?_);(refine hJ _ _ ?_;clear hJ J;simp only [ak,reduceIte]))
  (repeat' (refine w_e [] ?_;intro J hJ;simp only [];simp [f10,hw];(refine hJ _ _ ?_;clear hJ J;simp only [ak,reduceIte])))
  have e:LV.sl (st2.next+1) ((f2 b).length+1) (us (f2 b++[a]))=.sl (st2.next+1) 1 [u a]:=by rw [h1];rfl
  refine hJJ (l.length - (k+1)) _ _ (by omega) ⟨k+1,by omega,rfl,by simp [f3],by simp [f8],by simp [f9],by simp,(by repeat (first | exact hkp | (refine Keeps.trans ?_ (Keeps.new _ _)) | (refine Keeps.set ?_ (by have:=hkp.next;omega) _))),by simp;omega,_,fun v=>if v=b then st2.next+1 else tok v,by simp;rfl,?_⟩
  rw [← e,hfin']
  refine hN.step b a (st2.next+1) (by omega) (by simp) hmn (by omega) (by have:=hkp.next;omega) (fun l e1 e2 e3=>?_) (by rw [h1];simp [Ne.symm hm5])
  have a1:¬ l=st2.next:=by omega
  have a2:¬ l=st2.next+1:=by omega
  simp [a1,a2,e1,e2]
 ·obtain ⟨h1,h2,h3,h4,h5,h6⟩:=(hN b).2 h0
  have ht1:¬ tok b=st2.next:=by omega
  have ht2:¬ st2.next=tok b:=by omega
  have ht4:¬ m=tok b:=fun h=>h4 h.symm
  have ht5:¬ q=tok b:=fun h=>by rw [h,h5] at hq;cases hq
  (refine w_s [] [q,m] [(0,true),(1,true),(2,true),(3,true),(4,true),(5,true),(6,true),(7,true),(8,true),(9,true),(10,true),(11,false)] ?_;intro J hJ;simp [f3,f5,hq,hM,h1,h5,h0,hm2,hm5,hq2,hqm,ht1,ht2,ht4,ht5];(repeat refine ca ?_);(refine hJ _ _ ?_;clear hJ J;simp only [ak,reduceIte]))
  (repeat' (refine w_e [] ?_;intro J hJ;simp only [];simp [f10,hw];(refine hJ _ _ ?_;clear hJ J;simp only [ak,reduceIte])))
  have e:LV.sl (st2.next+1) ((f2 b).length+1) (us (f2 b++[a]))=.sl (st2.next+1) ((f2 b).length+1) (us (f2 b)++[u a]):=by simp
  refine hJJ (l.length - (k+1)) _ _ (by omega) ⟨k+1,by omega,rfl,by simp [f3],by simp [f8],by simp [f9],by simp,(by repeat (first | exact hkp | (refine Keeps.trans ?_ (Keeps.new _ _)) | (refine Keeps.set ?_ (by have:=hkp.next;omega) _))),by simp;omega,_,fun v=>if v=b then st2.next+1 else tok v,by simp;rfl,?_⟩
  rw [← e,hfin']
  refine hN.step b a (st2.next+1) (by omega) (by simp) hmn (by omega) (by have:=hkp.next;omega) (fun l e1 e2 e3=>?_) (by simp [Ne.symm hm5])
  have a1:¬ l=st2.next:=by omega
  have a2:¬ l=st2.next+1:=by omega
  simp [a1,a2,e1,e2]
theorem RowsAt.cases {es:List (List Int×LV)} {f:Int→List Int} (h:RowsAt es f) (v:Int):((mget es [v]).getD .nil=.nil∧f v=[])∨∃ t,(mget es [v]).getD .nil=.sl t (f v).length (us (f v)):=by
 obtain ⟨t,ht⟩:=h v
 cases hx:(mget es [v]).getD .nil with
 | nil=>
   rw [hx] at ht
   left
   refine ⟨rfl,?_⟩
   simp only [norm,LV.sl.injEq] at ht
   exact List.eq_nil_of_length_eq_zero ht.2.1.symm
 | _=>rw [hx] at ht;simp [norm] at ht<;>exact .inr ⟨t,by simp [ht]⟩
end Go.Proofs.YtkcokoefodgigaaGreat.Aw
