/- The library's sort: partitionEqual. Written by gensort.py. -/
import Derived.Test.YtiiejclelbilkaaGreatDoorJa
import Derived.Test.YtiiejclelbilkaaGreatDoorAwTd
import Derived.Test.YtiiejclelbilkaaGreatDoorAwX
import Derived.Test.YtiiejclelbilkaaGreatDoorAwSet
import Derived.Test.YtiiejclelbilkaaGreatDoorAwFn
namespace Go.Proofs.YtiiejclelbilkaaGreatDoor.Aw
open Go Go.RowKit Go.Proofs.YtiiejclelbilkaaGreatDoor.Pl
set_option linter.unusedSimpArgs false
set_option linter.unusedVariables false
theorem partitionEqual (l:List Int) (q a b pv:Nat) (st:St) (hl:small l) (hab:a < b) (hb:b≤l.length) (hp1:a≤pv) (hp2:pv < b) (hH:st.H q=.box 26 1 (us l)):
 ACalls Tryz.prog 179 [.ms q 0 l.length,i a,i b,i pv] st fun r st'=>∃ (c:List Int) (mid:Nat),r=i mid∧st'=bx st q c∧Pm a b l c∧a < mid∧mid≤b∧PartedEq c a mid b (l.getD pv 0):=by
 unfold small at hl
 refine qO tabOk Tryz.func179 rfl rfl Tryz.ntmps179 (rs:=[.tmp 8]) rfl (by simp) ?_
 (repeat (refine qS ?_));(refine w_e [] ?_;intro J hJ;simp only [];simp [];(refine hJ _ _ ?_;clear hJ J;simp only [ak,reduceIte]))
 have hla:a < l.length:=by omega
 have hlp:pv < l.length:=by omega
 have hsw:=fun x y=>bx_sw' st q l a pv (x:=x) (y:=y) (by omega) (by omega)
 have hd0:=qG l a (by omega)
 have hd1:=qG l pv (by omega)
 have hpm:Pm a b l (sw l a pv):=Pm.one a pv (by omega) (by omega) (by omega) (by omega) (by omega)
 have hx:(sw l a pv).getD a 0=l.getD pv 0:=by
  rw [sw_get _ _ _ _ (by omega) (by omega)]
  by_cases e:a=pv
  ·rw [if_pos e,e]
  ·rw [if_neg e,if_pos rfl]
 generalize hy0:l.getD a 0=y0 at *
 generalize hy1:l.getD pv 0=x at *
 have hsw':=hsw y0 x rfl rfl
 (repeat (refine qS ?_));(refine w_s [] [q] [(0,true),(1,true),(2,true),(3,true),(4,true),(5,true),(6,true),(7,true),(8,true),(9,true),(10,true),(11,true),(12,true),(13,false),(14,true),(15,false)] ?_;intro J hJ;simp [hH,hla,hlp,hd0,hd1];(repeat refine ca ?_);(refine hJ _ _ ?_;clear hJ J;simp only [ak,reduceIte]))
 rw [hsw']
 clear hsw hsw' hd0 hd1 hy0
 generalize hc:sw l a pv=c at *
 clear hc
 have hcl:=hpm.len
 have w1:=qN a (by omega)
 have w2:=nat_sub_one b (by omega) (by omega)
 obtain ⟨P,hPd⟩:∃ P:Int→Bool,∀ v,P v=!decide (x < v):=⟨_,fun _=>rfl⟩
 refine qS ?_
 refine awp_cut1 (fun fr st2=>fr 0=.ms q 0 l.length∧fr 1=i a∧fr 9=i ((a+1:Nat):Int)∧fr 10=i ((b - 1:Nat):Int)∧st2=bx st q c) (by (refine w_e [] ?_;intro J hJ;simp only [];simp [w1,w2];(refine hJ _ _ ?_;clear hJ J;simp only [ak,reduceIte]));simp) ?_
 rintro fr st2 ⟨f0,f1,fI,fJ,rfl⟩
 have hai:a < a+1:=by omega
 have hij:a+1≤b - 1+1:=by omega
 have hjb:b - 1 < b:=by omega
 have hLo:Lo P c a (a+1):=fun p h1 h2=>by omega
 have hHi:Hi P c (b - 1) b:=fun p h1 h2=>by omega
 generalize a+1=ii at *
 generalize b - 1=jj at *
 clear w1 w2
 have hd0:=qG c a (by omega)
 rw [hx] at hd0
 refine qS ?_
 refine qB ?_
 refine qL (fun m fr st2=>∃ (ii jj:Nat) (c:List Int),a < ii∧ii≤jj+1∧jj < b∧jj=m∧fr 0=.ms q 0 l.length∧fr 1=i a∧fr 9=i ii∧fr 10=i jj∧st2=bx st q c∧Pm a b l c∧c.getD a 0=x∧Lo P c a ii∧Hi P c jj b) jj ?_ ?_
 ·exact ⟨ii,jj,c,by omega,by omega,by omega,rfl,f0,f1,fI,fJ,rfl,hpm,hx,hLo,hHi⟩
 clear f0 f1 fI fJ hLo hHi hpm hx hcl hd0 hai hij hjb ii jj c fr
 rintro m fr st2 ⟨ii,jj,c,hai,hij,hjb,rfl,f0,f1,fI,fJ,rfl,hpm,hx,hLo,hHi⟩ JJ0 hJ0
 have hcl:=hpm.len
 have hd0:=qG c a (by omega)
 rw [hx] at hd0
 refine qB ?_
 refine qS ?_
 refine awp_cut1 (fun fr st2=>∃ ii:Nat,a < ii∧ii≤jj+1∧fr 0=.ms q 0 l.length∧fr 1=i a∧fr 9=i ii∧fr 10=i jj∧st2=bx st q c∧Lo P c a ii∧StU P c ii jj) ?_ ?_
 ·refine qB ?_
  refine qL (fun m fr st2=>∃ ii:Nat,a < ii∧ii≤jj+1∧m=jj+1 - ii∧fr 0=.ms q 0 l.length∧fr 1=i a∧fr 9=i ii∧fr 10=i jj∧st2=bx st q c∧Lo P c a ii) (jj+1 - ii) ?_ ?_
  ·exact ⟨ii,by omega,by omega,rfl,by simp [f0],by simp [f1],by simp [fI],by simp [fJ],rfl,hLo⟩
  clear f0 f1 fI fJ hLo hai hij fr ii
  rintro m fr st2 ⟨ii,hai,hij,rfl,f0,f1,fI,fJ,rfl,hLo⟩ JJ hJJ
  have hia:=qN ii (by omega)
  by_cases hle:ii≤jj
  rotate_left
  ·clear hJJ
   (repeat (refine qS ?_));(refine w_s [] [q] [(0,true),(1,true),(2,true),(3,true),(4,true),(5,true),(6,true),(7,true),(8,true),(9,true),(10,true),(11,true),(12,false),(13,true),(14,true)] ?_;intro J hJ;simp [f0,f1,fI,fJ,hle];(refine hJ _ _ ?_;clear hJ J;simp only [ak,reduceIte]))
   (repeat' (first | (refine qX ?_;simp only [ak,reduceIte]) | (refine qC ?_;simp [])))
   exact ⟨trivial,ii,by omega,by omega,by simp [f0],by simp [f1],by simp [fI],by simp [fJ],by trivial,hLo,fun h=>absurd h hle⟩
  have hli:ii < l.length:=by omega
  have hd1:=qG c ii (by omega)
  have hmo:=hLo.more
  generalize hy:c.getD ii 0=y at *
  (repeat (refine qS ?_));(refine w_s [] [q] [(0,true),(1,true),(2,true),(3,true),(4,true),(5,true),(6,true),(7,true),(8,true),(9,true),(10,true),(11,true),(12,false),(13,true),(14,true)] ?_;intro J hJ;simp [f0,f1,fI,fJ,hle,hli,hla,hcl,hd0,hd1])
  refine dcallK_of (Less x y _) ?_;rintro r s2 ⟨rfl,rfl⟩
  refine ⟨fun _=>by simp,?_⟩
  have hP:=hPd y
  by_cases hyx:x < y
  ·clear hJJ
   (refine d_go ?_;simp [hyx];(refine hJ _ _ ?_;clear hJ J;simp only [ak,reduceIte]))
   (repeat' (first | (refine qX ?_;simp only [ak,reduceIte]) | (refine qC ?_;simp [])))
   exact ⟨trivial,ii,by omega,by omega,by simp [f0],by simp [f1],by simp [fI],by simp [fJ],by trivial,hLo,fun _=>by rw [hy,hP];simp [hyx]⟩
  ·(refine d_go ?_;simp [hyx];(refine hJ _ _ ?_;clear hJ J;simp only [ak,reduceIte]))
   (repeat' (first | refine qB ?_ | (refine qK ?_;simp only [ak,reduceIte]) | (refine qC ?_;simp [fI,hia]) | (refine w_e [] ?_;intro J hJ;simp only [];simp [fI,hia];(refine hJ _ _ ?_;clear hJ J;simp only [ak,reduceIte]))))
   exact hJJ (jj+1 - (ii+1)) _ _ (by omega) ⟨ii+1,by omega,by omega,rfl,by simp [f0],by simp [f1],by simp,by simp [fJ],rfl,hmo (by rw [hP];simp [hyx])⟩
 clear f0 f1 fI fJ hLo hai hij fr ii
 rintro fr st2 ⟨ii,hai,hij,f0,f1,fI,fJ,rfl,hLo,hst⟩
 refine qS ?_
 refine awp_cut1 (fun fr st2=>∃ kk:Nat,a≤kk∧kk≤jj∧ii≤kk+1∧fr 0=.ms q 0 l.length∧fr 1=i a∧fr 9=i ii∧fr 10=i kk∧st2=bx st q c∧Hi P c kk b∧StD P c ii kk) ?_ ?_
 ·refine qB ?_
  refine qL (fun m fr st2=>∃ kk:Nat,a≤kk∧kk≤jj∧ii≤kk+1∧kk=m∧fr 0=.ms q 0 l.length∧fr 1=i a∧fr 9=i ii∧fr 10=i kk∧st2=bx st q c∧Hi P c kk b) jj ?_ ?_
  ·exact ⟨jj,by omega,by omega,by omega,rfl,by simp [f0],by simp [f1],by simp [fI],by simp [fJ],rfl,hHi⟩
  clear f0 f1 fI fJ hHi fr
  rintro m fr st2 ⟨kk,hak,hkj,hik,rfl,f0,f1,fI,fJ,rfl,hHi⟩ JJ hJJ
  by_cases hle:ii≤kk
  rotate_left
  ·clear hJJ
   (repeat (refine qS ?_));(refine w_s [] [q] [(0,true),(1,true),(2,true),(3,true),(4,true),(5,true),(6,true),(7,true),(8,true),(9,true),(10,true),(11,true),(12,false),(13,true)] ?_;intro J hJ;simp [f0,f1,fI,fJ,hle];(refine hJ _ _ ?_;clear hJ J;simp only [ak,reduceIte]))
   (repeat' (first | (refine qX ?_;simp only [ak,reduceIte]) | (refine qC ?_;simp [])))
   exact ⟨trivial,kk,by omega,by omega,by omega,by simp [f0],by simp [f1],by simp [fI],by simp [fJ],by trivial,hHi,fun h=>absurd h hle⟩
  have hja:=nat_sub_one kk (by omega) (by omega)
  have hlj:kk < l.length:=by omega
  have hd1:=qG c kk (by omega)
  have hmo:=hHi.more
  generalize hy:c.getD kk 0=y at *
  (repeat (refine qS ?_));(refine w_s [] [q] [(0,true),(1,true),(2,true),(3,true),(4,true),(5,true),(6,true),(7,true),(8,true),(9,true),(10,true),(11,true),(12,false),(13,true)] ?_;intro J hJ;simp [f0,f1,fI,fJ,hle,hlj,hla,hcl,hd0,hd1])
  refine dcallK_of (Less x y _) ?_;rintro r s2 ⟨rfl,rfl⟩
  refine ⟨fun _=>by simp,?_⟩
  have hP:=hPd y
  by_cases hyx:x < y
  ·(refine d_go ?_;simp [hyx];(refine hJ _ _ ?_;clear hJ J;simp only [ak,reduceIte]))
   (repeat' (first | refine qB ?_ | (refine qK ?_;simp only [ak,reduceIte]) | (refine qC ?_;simp [fJ,hja]) | (refine w_e [] ?_;intro J hJ;simp only [];simp [fJ,hja];(refine hJ _ _ ?_;clear hJ J;simp only [ak,reduceIte]))))
   exact hJJ (kk - 1) _ _ (by omega) ⟨kk - 1,by omega,by omega,by omega,rfl,by simp [f0],by simp [f1],by simp [fI],by simp,rfl,hmo (by omega) (by rw [hP];simp [hyx])⟩
  ·clear hJJ
   (refine d_go ?_;simp [hyx];(refine hJ _ _ ?_;clear hJ J;simp only [ak,reduceIte]))
   (repeat' (first | (refine qX ?_;simp only [ak,reduceIte]) | (refine qC ?_;simp [])))
   exact ⟨trivial,kk,by omega,by omega,by omega,by simp [f0],by simp [f1],by simp [fI],by simp [fJ],by trivial,hHi,fun _=>by rw [hy,hP];simp [hyx]⟩
 clear f0 f1 fI fJ hHi fr
 rintro fr st2 ⟨kk,hak,hkj,hik,f0,f1,fI,fJ,rfl,hHi,hst2⟩
 by_cases hle:ii≤kk
 rotate_left
 ·clear hJ0
  (repeat' (first | refine qS ?_ | (refine qX ?_;simp only [ak,reduceIte]) | (refine qR ?_;simp only [ak,reduceIte];simp [f0,f1,fI,fJ,hle]) | (refine qC ?_;simp [f0,f1,fI,fJ,hle];(try with_reducible intro hc)) | (refine w_e [] ?_;intro J hJ;simp only [];simp [f0,f1,fI,fJ,hle];(refine hJ _ _ ?_;clear hJ J;simp only [ak,reduceIte]))))
  refine ⟨c,ii,rfl,rfl,hpm,by omega,by omega,fun p h1 h2=>?_,fun p h1 h2=>?_⟩
  ·by_cases e:p=a
   ·rw [e,hx];exact Int.le_refl _
   ·have:=hLo p (by omega) h2;rw [hPd] at this;simpa using this
  ·have:=hHi p (by omega) h2;rw [hPd] at this;simpa using this
 have hik2:ii < kk:=by
  rcases Nat.lt_or_ge ii kk with h | h
  ·exact h
  ·exfalso
   have e:ii=kk:=by omega
   have h1:=hst (by omega)
   have h2:=hst2 hle
   rw [e,h2] at h1;cases h1
 have hLo2:=hLo.swp hik2 (by omega) (hst2 hle)
 have hHi2:=hHi.swp hik2 (by omega) (hst (by omega))
 have hpm2:=hpm.step ii kk (by omega) (by omega) (by omega) (by omega) (by omega)
 have hxx:(sw c ii kk).getD a 0=x:=by rw [sw_get _ _ _ _ (by omega) (by omega),if_neg (by omega),if_neg (by omega)];exact hx
 have hli:ii < l.length:=by omega
 have hlk:kk < l.length:=by omega
 have hd1:=qG c ii (by omega)
 have hd2:=qG c kk (by omega)
 have hsw:=fun x y=>bx_sw st q c ii kk (x:=x) (y:=y) (by omega) (by omega)
 have hia:=qN ii (by omega)
 have hka:=nat_sub_one kk (by omega) (by omega)
 clear hst hst2
 generalize hy1:c.getD ii 0=y1 at *
 generalize hy2:c.getD kk 0=y2 at *
 have hsw':=hsw y1 y2 rfl rfl
 (repeat' (first | refine qS ?_ | (refine qK ?_;simp only [ak,reduceIte]) | (refine qC ?_;simp [f0,f1,fI,fJ,hle];(try with_reducible refine ⟨?_,?_⟩)<;>(try with_reducible intro hc)<;>try (exfalso;omega)) | (refine w_e [] ?_;intro J hJ;simp only [];simp [f0,f1,fI,fJ,hle];(refine hJ _ _ ?_;clear hJ J;simp only [ak,reduceIte]))))
 (refine w_s [] [q] [(0,true),(1,true),(2,true),(3,true),(4,true),(5,true),(6,true),(7,true),(8,true),(9,true),(10,true),(11,true),(12,true),(13,false),(14,true),(15,false)] ?_;intro J hJ;simp [f0,f1,fI,fJ,hli,hlk,hcl,hd1,hd2];(repeat refine ca ?_);(refine hJ _ _ ?_;clear hJ J;simp only [ak,reduceIte]))
 (repeat' (first | refine qS ?_ | (refine w_e [] ?_;intro J hJ;simp only [];simp [fI,fJ,hia,hka];(refine hJ _ _ ?_;clear hJ J;simp only [ak,reduceIte]))))
 exact hJ0 (kk - 1) _ _ (by omega) ⟨ii+1,kk - 1,sw c ii kk,by omega,by omega,by omega,rfl,by simp [f0],by simp [f1],by simp,by simp,hsw',hpm2,hxx,hLo2,hHi2⟩
def Ahead (l:List Int) (a b:Nat):Prop:=0 < a→∀ j,a≤j→j < b→l.getD (a - 1) 0≤l.getD j 0
theorem Ahead.pm {l c:List Int} {a b:Nat} (h:Ahead l a b) (k:Pm a b l c):Ahead c a b:=by
 intro h0 j h1 h2
 rw [k.out (a - 1) (by omega)]
 exact k.all (fun x=>l.getD (a - 1) 0≤x) (fun j h1 h2=>h h0 j h1 h2) j h1 h2
def Falls (c:List Int) (k b:Nat):Prop:=k < b→c.getD k 0 < c.getD (k - 1) 0
def SrtIf (p:Bool) (a b:Nat) (c:List Int):Prop:=p=true→Srt a b c
def PinI (q a b k j:Nat) (l:List Int) (st:St) (fr:Frm) (st2:St):Prop:=∃ c:List Int,fr 0=.ms q 0 l.length∧fr 1=i a∧fr 2=i b∧fr 7=i k∧fr 8=i j∧st2=bx st q c∧Pm a b l c∧Srt a k c
theorem partialInsertionSort (l:List Int) (q a b:Nat) (st:St) (hl:small l) (ha:a < b) (hb:b≤l.length) (hah:Ahead l a b) (hH:st.H q=.box 26 1 (us l)):
 ACalls Tryz.prog 177 [.ms q 0 l.length,i a,i b] st fun r st'=>∃ c p,r=bb p∧st'=bx st q c∧Pm a b l c∧SrtIf p a b c:=by
 unfold small at hl
 refine qO tabOk Tryz.func177 rfl rfl Tryz.ntmps177 (rs:=[.tmp 6]) rfl (by simp) ?_
 have hw0:=qN a (by omega)
 (repeat' (first | refine qS ?_ | refine qB ?_ | (refine w_e [] ?_;intro J hJ;simp only [];simp [hw0];(refine hJ _ _ ?_;clear hJ J;simp only [ak,reduceIte]))))
 refine qL (fun n fr st2=>∃ (j k:Nat) (c:List Int),j≤5∧n=5 - j∧a < k∧k≤b∧fr 0=.ms q 0 l.length∧fr 1=i a∧fr 2=i b∧fr 7=i k∧fr 8=i j∧st2=bx st q c∧Pm a b l c∧Srt a k c) 5 ?_ ?_
 ·exact ⟨0,a+1,l,by omega,rfl,by omega,by omega,by simp,by simp,by simp,by simp,by simp,bx_self hH,.refl,fun p q h1 h2 h3=>by omega⟩
 rintro n fr st2 ⟨j,k,c,hj,rfl,hak,hkb,f0,f1,f2,f7,f8,rfl,hpm,hs⟩ J0 hJ0
 by_cases hj5:(j:Int) < 5
 rotate_left
 ·clear hJ0
  (repeat' (first | refine qS ?_ | (refine qX ?_;simp only [ak,reduceIte]) | (refine qR ?_;simp only [ak,reduceIte];simp [f8,hj5]) | (refine qC ?_;simp [f8,hj5]) | (refine w_e [] ?_;intro J hJ;simp only [];simp [f8,hj5];(refine hJ _ _ ?_;clear hJ J;simp only [ak,reduceIte]))))
  exact ⟨c,rfl,hpm,fun h=>by cases h⟩
 have hcl:=hpm.len
 (repeat (refine qS ?_));(refine w_e [] ?_;intro J hJ;simp only [];simp [f8,hj5];(refine hJ _ _ ?_;clear hJ J;simp only [ak,reduceIte]))
 (refine qC ?_;simp [])
 refine qK ?_;simp only [ak,reduceIte]
 refine qS ?_
 refine qB ?_
 refine qS ?_
 refine awp_cut1 (fun fr st2=>∃ k:Nat,a < k∧k≤b∧fr 0=.ms q 0 l.length∧fr 1=i a∧fr 2=i b∧fr 7=i k∧fr 8=i j∧st2=bx st q c∧Srt a k c∧Falls c k b) ?_ ?_
 ·refine qB ?_
  refine qL (fun n fr st2=>∃ k:Nat,n=b - k∧a < k∧k≤b∧fr 0=.ms q 0 l.length∧fr 1=i a∧fr 2=i b∧fr 7=i k∧fr 8=i j∧st2=bx st q c∧Srt a k c) (b - k) ?_ ?_
  ·exact ⟨k,rfl,hak,hkb,by simp [f0],by simp [f1],by simp [f2],by simp [f7],by simp [f8],rfl,hs⟩
  clear f0 f1 f2 f7 f8 hs hak hkb fr k
  rintro n fr st2 ⟨k,rfl,hak,hkb,f0,f1,f2,f7,f8,rfl,hs⟩ JJ hJJ
  by_cases hlt:k < b
  rotate_left
  ·clear hJJ
   (repeat (refine qS ?_));(refine w_s [] [q] [(0,true),(1,true),(2,true),(3,true),(4,true),(5,true),(6,true),(7,true),(8,true),(9,true),(10,true),(11,true),(12,true),(13,false),(14,true),(15,true)] ?_;intro J hJ;simp [f0,f2,f7,hlt];(refine hJ _ _ ?_;clear hJ J;simp only [ak,reduceIte]))
   (repeat' (first | (refine qX ?_;simp only [ak,reduceIte]) | (refine qC ?_;simp [])))
   exact ⟨trivial,k,by omega,by omega,by simp [f0],by simp [f1],by simp [f2],by simp [f7],by simp [f8],by trivial,hs,fun h=>absurd h hlt⟩
  have w1:=qN k (by omega)
  have w2:=nat_sub_one k (by omega) (by omega)
  have hd1:=qG c k (by omega)
  have hd2:=qG c (k - 1) (by omega)
  have hl1:k < l.length:=by omega
  have hl2:k - 1 < l.length:=by omega
  have hin:=hs.ins.done (by omega)
  generalize hx:c.getD k 0=x at *
  generalize hy:c.getD (k - 1) 0=y at *
  (repeat (refine qS ?_));(refine w_s [] [q] [(0,true),(1,true),(2,true),(3,true),(4,true),(5,true),(6,true),(7,true),(8,true),(9,true),(10,true),(11,true),(12,true),(13,false),(14,true),(15,true)] ?_;intro J hJ;simp [f0,f2,f7,hlt,w2,hl1,hl2,hcl,hd1,hd2])
  refine dcallK_of (Less x y _) ?_;rintro r s2 ⟨rfl,rfl⟩
  refine ⟨fun _=>by simp,?_⟩
  by_cases hxy:x < y
  ·clear hJJ
   (refine d_go ?_;simp [hxy];(refine hJ _ _ ?_;clear hJ J;simp only [ak,reduceIte]))
   (repeat' (first | (refine qX ?_;simp only [ak,reduceIte]) | (refine qC ?_;simp [])))
   exact ⟨trivial,k,by omega,by omega,by simp [f0],by simp [f1],by simp [f2],by simp [f7],by simp [f8],by trivial,hs,fun h=>by rw [hx,hy];exact hxy⟩
  ·(refine d_go ?_;simp [hxy];(refine hJ _ _ ?_;clear hJ J;simp only [ak,reduceIte]))
   (repeat' (first | refine qB ?_ | (refine qK ?_;simp only [ak,reduceIte]) | (refine qC ?_;simp [f7,w1]) | (refine w_e [] ?_;intro J hJ;simp only [];simp [f7,w1];(refine hJ _ _ ?_;clear hJ J;simp only [ak,reduceIte]))))
   exact hJJ (b - (k+1)) _ _ (by omega) ⟨k+1,rfl,by omega,by omega,by simp [f0],by simp [f1],by simp [f2],by simp,by simp [f8],rfl,hin (.inr hxy)⟩
 clear f0 f1 f2 f7 f8 hs hak hkb fr k
 rintro fr st2 ⟨k,hak,hkb,f0,f1,f2,f7,f8,rfl,hs,hfall⟩
 by_cases hkb2:k=b
 ·clear hJ0
  have hkb3:(k:Int)=(b:Int):=by omega
  (repeat' (first | refine qS ?_ | (refine qR ?_;simp only [ak,reduceIte];simp [f2,f7,hkb3]) | (refine qC ?_;simp [f2,f7,hkb3]) | (refine w_e [] ?_;intro J hJ;simp only [];simp [f2,f7,hkb3];(refine hJ _ _ ?_;clear hJ J;simp only [ak,reduceIte]))))
  exact ⟨c,rfl,hpm,fun _=>by rw [← hkb2];exact hs⟩
 have hkb3:¬ (k:Int)=(b:Int):=by omega
 have w1:IntKind.i64.wrap ((b:Int) - (a:Int))=(b:Int) - (a:Int):=wrap_i64 _ (by omega) (by omega)
 by_cases h50:(b:Int) - (a:Int) < 50
 ·clear hJ0
  (repeat' (first | refine qS ?_ | (refine qK ?_;simp only [ak,reduceIte]) | (refine qR ?_;simp only [ak,reduceIte];simp [f1,f2,f7,hkb3,w1,h50]) | (refine qC ?_;simp [f1,f2,f7,hkb3,w1,h50]) | (refine w_e [] ?_;intro J hJ;simp only [];simp [f1,f2,f7,hkb3,w1,h50];(refine hJ _ _ ?_;clear hJ J;simp only [ak,reduceIte]))))
  exact ⟨c,rfl,hpm,fun h=>by cases h⟩
 have w2:=nat_sub_one k (by omega) (by omega)
 have hd1:=qG c k (by omega)
 have hd2:=qG c (k - 1) (by omega)
 have hl1:k < l.length:=by omega
 have hl2:k - 1 < l.length:=by omega
 have hsw:=fun x y=>bx_sw st q c k (k - 1) (x:=x) (y:=y) (by omega) (by omega)
 have hs1:Srt a (k - 1) (sw c k (k - 1)):=by
  intro p q h1 h2 h3
  rw [sw_get _ _ _ _ (by omega) (by omega),sw_get _ _ _ _ (by omega) (by omega),if_neg (by omega),if_neg (by omega),if_neg (by omega),if_neg (by omega)]
  exact hs p q h1 h2 (by omega)
 have hpm1:=hpm.step k (k - 1) (by omega) (by omega) (by omega) (by omega) (by omega)
 generalize hx:c.getD k 0=x at *
 generalize hy:c.getD (k - 1) 0=y at *
 have hsw':=hsw x y rfl rfl
 (repeat' (first | refine qS ?_ | (refine qK ?_;simp only [ak,reduceIte]) | (refine qC ?_;simp [f1,f2,f7,hkb3,w1,h50]) | (refine w_e [] ?_;intro J hJ;simp only [];simp [f1,f2,f7,hkb3,w1,h50];(refine hJ _ _ ?_;clear hJ J;simp only [ak,reduceIte]))))
 (refine w_s [] [q] [(0,true),(1,true),(2,true),(3,true),(4,true),(5,true),(6,true),(7,true),(8,true),(9,true),(10,true),(11,true),(12,true),(13,true),(14,true),(15,false),(16,true),(17,false)] ?_;intro J hJ;simp [f0,f7,w2,hl1,hl2,hcl,hd1,hd2];(repeat refine ca ?_);(refine hJ _ _ ?_;clear hJ J;simp only [ak,reduceIte]))
 rw [hsw']
 clear hsw hsw' hd1 hd2 hx hy hs hfall
 generalize hc1:sw c k (k - 1)=c1 at *
 have hcl1:=hpm1.len
 clear hc1 hpm hcl c
 have w3:IntKind.i64.wrap ((k:Int) - (a:Int))=(k:Int) - (a:Int):=wrap_i64 _ (by omega) (by omega)
 refine qS ?_
 refine awp_cut1 (PinI q a b k j l st) ?_ ?_
 ·by_cases hk2:(2:Int)≤(k:Int) - (a:Int)
  rotate_left
  ·(repeat' (first | refine qS ?_ | (refine qK ?_;simp only [ak,reduceIte]) | (refine qC ?_;simp [f1,f7,w3,hk2]) | (refine w_e [] ?_;intro J hJ;simp only [];simp [f1,f7,w3,hk2];(refine hJ _ _ ?_;clear hJ J;simp only [ak,reduceIte]))))
   refine ⟨by trivial,?_⟩;unfold PinI;exact ⟨c1,by simp [f0],by simp [f1],by simp [f2],by simp [f7],by simp [f8],by trivial,hpm1,fun p q h1 h2 h3=>by omega⟩
  (repeat' (first | refine qS ?_ | refine qB ?_ | (refine qC ?_;simp [f1,f7,w3,hk2,w2]) | (refine w_e [] ?_;intro J hJ;simp only [];simp [f1,f7,w3,hk2,w2];(refine hJ _ _ ?_;clear hJ J;simp only [ak,reduceIte]))))
  refine qL (fun n fr st2=>∃ (m:Nat) (c:List Int),a≤m∧m≤k - 1∧m=n∧fr 0=.ms q 0 l.length∧fr 1=i a∧fr 2=i b∧fr 7=i k∧fr 8=i j∧fr 9=i m∧st2=bx st q c∧Pm a b l c∧Ins a m (k - 1) c) (k - 1) ?_ ?_
  ·exact ⟨k - 1,c1,by omega,by omega,rfl,by simp [f0],by simp [f1],by simp [f2],by simp [f7],by simp [f8],by simp,rfl,hpm1,hs1.ins⟩
  clear f0 f1 f2 f7 f8 hpm1 hs1 hcl1 c1 fr
  rintro n fr st2 ⟨m,c,ham,hmk,rfl,f0,f1,f2,f7,f8,f9,rfl,hpm,hI⟩ JJ hJJ
  have hcl:=hpm.len
  have hk1:k - 1+1=k:=by omega
  by_cases hm1:(1:Int)≤(m:Int)
  rotate_left
  ·clear hJJ
   (repeat' (first | refine qS ?_ | (refine qX ?_;simp only [ak,reduceIte]) | (refine qC ?_;simp [f9,hm1]) | (refine w_e [] ?_;intro J hJ;simp only [];simp [f9,hm1];(refine hJ _ _ ?_;clear hJ J;simp only [ak,reduceIte]))))
   refine ⟨by trivial,?_⟩;unfold PinI;refine ⟨c,by simp [f0],by simp [f1],by simp [f2],by simp [f7],by simp [f8],by trivial,hpm,?_⟩
   have:=hI.done ham (.inl (by omega));rwa [hk1] at this
  have w4:=nat_sub_one m (by omega) (by omega)
  have hd1:=qG c m (by omega)
  have hd2:=qG c (m - 1) (by omega)
  have hl3:m < l.length:=by omega
  have hl4:m - 1 < l.length:=by omega
  have hsw:=fun x y=>bx_sw st q c m (m - 1) (x:=x) (y:=y) (by omega) (by omega)
  have hahm:m=a→¬ c.getD m 0 < c.getD (m - 1) 0:=by
   rintro rfl
   have:=hah.pm hpm (by omega) m (by omega) (by omega)
   omega
  have hdone:=hI.done ham
  rw [hk1] at hdone
  have hstep:=fun h=>hI.step h hmk (by omega)
  generalize hx:c.getD m 0=x at *
  generalize hy:c.getD (m - 1) 0=y at *
  have hsw':=hsw x y rfl rfl
  (repeat' (first | refine qS ?_ | refine qB ?_ | (refine qK ?_;simp only [ak,reduceIte]) | (refine qC ?_;simp [f9,hm1]) | (refine w_e [] ?_;intro J hJ;simp only [];simp [f9,hm1];(refine hJ _ _ ?_;clear hJ J;simp only [ak,reduceIte]))))
  (refine w_s [] [q] [(0,true),(1,true),(2,true),(3,true),(4,true),(5,true),(6,true),(7,true),(8,true),(9,false),(10,true)] ?_;intro J hJ;simp [f0,f9,w4,hl3,hl4,hcl,hd1,hd2])
  refine dcallK_of (Less x y _) ?_;rintro r s2 ⟨rfl,rfl⟩
  refine ⟨fun _=>by simp,?_⟩
  by_cases hxy:x < y
  rotate_left
  ·clear hJJ
   (refine d_go ?_;simp [hxy];(refine hJ _ _ ?_;clear hJ J;simp only [ak,reduceIte]))
   (repeat' (first | (refine qX ?_;simp only [ak,reduceIte]) | (refine qC ?_;simp [])))
   refine ⟨by trivial,?_⟩;unfold PinI;exact ⟨c,by simp [f0],by simp [f1],by simp [f2],by simp [f7],by simp [f8],by trivial,hpm,hdone (.inr hxy)⟩
  have hma:a < m:=by
   rcases Nat.lt_or_ge a m with h | h
   ·exact h
   ·exact absurd hxy (hahm (by omega))
  have hpm2:=hpm.step m (m - 1) (by omega) (by omega) (by omega) (by omega) (by omega)
  (refine d_go ?_;simp [hxy];(refine hJ _ _ ?_;clear hJ J;simp only [ak,reduceIte]))
  (repeat' (first | (refine qK ?_;simp only [ak,reduceIte]) | (refine qC ?_;simp [])))
  (refine w_s [] [q] [(0,true),(1,true),(2,true),(3,true),(4,true),(5,true),(6,true),(7,true),(8,true),(9,true),(10,true),(11,true),(12,true),(13,true),(14,true),(15,false),(16,true),(17,false)] ?_;intro J hJ;simp [f0,f9,w4,hl3,hl4,hcl,hd1,hd2];(repeat refine ca ?_);(refine hJ _ _ ?_;clear hJ J;simp only [ak,reduceIte]))
  (repeat' (refine w_e [] ?_;intro J hJ;simp only [];simp [f9,w4];(refine hJ _ _ ?_;clear hJ J;simp only [ak,reduceIte])))
  exact hJJ (m - 1) _ _ (by omega) ⟨m - 1,sw c m (m - 1),by omega,by omega,rfl,by simp [f0],by simp [f1],by simp [f2],by simp [f7],by simp [f8],by simp,hsw',hpm2,hstep hma hxy⟩
 clear f0 f1 f2 f7 f8 hpm1 hs1 hcl1 c1 fr
 rintro fr st2 ⟨c,f0,f1,f2,f7,f8,rfl,hpm,hs⟩
 have hcl:=hpm.len
 have w5:IntKind.i64.wrap ((b:Int) - (k:Int))=(b:Int) - (k:Int):=wrap_i64 _ (by omega) (by omega)
 have w6:=qN j (by omega)
 have w7:=qN k (by omega)
 by_cases hk2:(2:Int)≤(b:Int) - (k:Int)
 rotate_left
 ·(repeat' (first | refine qS ?_ | (refine qK ?_;simp only [ak,reduceIte]) | (refine qC ?_;simp [f2,f7,w5,hk2,f8,w6]) | (refine w_e [] ?_;intro J hJ;simp only [];simp [f2,f7,w5,hk2,f8,w6];(refine hJ _ _ ?_;clear hJ J;simp only [ak,reduceIte]))))
  exact hJ0 (5 - (j+1)) _ _ (by omega) ⟨j+1,k,c,by omega,rfl,hak,hkb,by simp [f0],by simp [f1],by simp [f2],by simp [f7],by simp,rfl,hpm,hs⟩
 (repeat' (first | refine qS ?_ | refine qB ?_ | (refine qC ?_;simp [f2,f7,w5,hk2,w7]) | (refine w_e [] ?_;intro J hJ;simp only [];simp [f2,f7,w5,hk2,w7];(refine hJ _ _ ?_;clear hJ J;simp only [ak,reduceIte]))))
 refine qL (fun n fr st2=>∃ (m:Nat) (c:List Int),k < m∧m≤b∧n=b - m∧fr 0=.ms q 0 l.length∧fr 1=i a∧fr 2=i b∧fr 7=i k∧fr 8=i j∧fr 10=i m∧st2=bx st q c∧Pm a b l c∧Srt a k c) (b - (k+1)) ?_ ?_
 ·exact ⟨k+1,c,by omega,by omega,rfl,by simp [f0],by simp [f1],by simp [f2],by simp [f7],by simp [f8],by simp,rfl,hpm,hs⟩
 clear f0 f1 f2 f7 f8 hpm hs hcl c fr
 rintro n fr st2 ⟨m,c,hkm,hmb,rfl,f0,f1,f2,f7,f8,f10,rfl,hpm,hs⟩ JJ hJJ
 have hcl:=hpm.len
 by_cases hlt:m < b
 rotate_left
 ·clear hJJ
  (repeat' (first | refine qS ?_ | (refine qX ?_;simp only [ak,reduceIte]) | (refine qC ?_;simp [f2,f10,hlt,f8,w6]) | (refine w_e [] ?_;intro J hJ;simp only [];simp [f2,f10,hlt,f8,w6];(refine hJ _ _ ?_;clear hJ J;simp only [ak,reduceIte]))))
  exact hJ0 (5 - (j+1)) _ _ (by omega) ⟨j+1,k,c,by omega,rfl,hak,hkb,by simp [f0],by simp [f1],by simp [f2],by simp [f7],by simp,rfl,hpm,hs⟩
 have w4:=nat_sub_one m (by omega) (by omega)
 have w8:=qN m (by omega)
 have hd1:=qG c m (by omega)
 have hd2:=qG c (m - 1) (by omega)
 have hl3:m < l.length:=by omega
 have hl4:m - 1 < l.length:=by omega
 have hsw:=fun x y=>bx_sw st q c m (m - 1) (x:=x) (y:=y) (by omega) (by omega)
 have hpm2:=hpm.step m (m - 1) (by omega) (by omega) (by omega) (by omega) (by omega)
 have hs2:Srt a k (sw c m (m - 1)):=by
  intro p q h1 h2 h3
  rw [sw_get _ _ _ _ (by omega) (by omega),sw_get _ _ _ _ (by omega) (by omega),if_neg (by omega),if_neg (by omega),if_neg (by omega),if_neg (by omega)]
  exact hs p q h1 h2 (by omega)
 generalize hx:c.getD m 0=x at *
 generalize hy:c.getD (m - 1) 0=y at *
 have hsw':=hsw x y rfl rfl
 (repeat' (first | refine qS ?_ | refine qB ?_ | (refine qK ?_;simp only [ak,reduceIte]) | (refine qC ?_;simp [f2,f10,hlt]) | (refine w_e [] ?_;intro J hJ;simp only [];simp [f2,f10,hlt];(refine hJ _ _ ?_;clear hJ J;simp only [ak,reduceIte]))))
 (refine w_s [] [q] [(0,true),(1,true),(2,true),(3,true),(4,true),(5,true),(6,true),(7,true),(8,true),(9,false),(10,true)] ?_;intro J hJ;simp [f0,f10,w4,hl3,hl4,hcl,hd1,hd2])
 refine dcallK_of (Less x y _) ?_;rintro r s2 ⟨rfl,rfl⟩
 refine ⟨fun _=>by simp,?_⟩
 by_cases hxy:x < y
 rotate_left
 ·clear hJJ
  (refine d_go ?_;simp [hxy];(refine hJ _ _ ?_;clear hJ J;simp only [ak,reduceIte]))
  (repeat' (first | (refine qX ?_;simp only [ak,reduceIte]) | (refine qC ?_;simp [f8,w6]) | (refine w_e [] ?_;intro J hJ;simp only [];simp [f8,w6];(refine hJ _ _ ?_;clear hJ J;simp only [ak,reduceIte]))))
  exact hJ0 (5 - (j+1)) _ _ (by omega) ⟨j+1,k,c,by omega,rfl,hak,hkb,by simp [f0],by simp [f1],by simp [f2],by simp [f7],by simp,rfl,hpm,hs⟩
 (refine d_go ?_;simp [hxy];(refine hJ _ _ ?_;clear hJ J;simp only [ak,reduceIte]))
 (repeat' (first | (refine qK ?_;simp only [ak,reduceIte]) | (refine qC ?_;simp [])))
 (refine w_s [] [q] [(0,true),(1,true),(2,true),(3,true),(4,true),(5,true),(6,true),(7,true),(8,true),(9,true),(10,true),(11,true),(12,true),(13,true),(14,true),(15,false),(16,true),(17,false)] ?_;intro J hJ;simp [f0,f10,w4,hl3,hl4,hcl,hd1,hd2];(repeat refine ca ?_);(refine hJ _ _ ?_;clear hJ J;simp only [ak,reduceIte]))
 (repeat' (refine w_e [] ?_;intro J hJ;simp only [];simp [f10,w8];(refine hJ _ _ ?_;clear hJ J;simp only [ak,reduceIte])))
 exact hJJ (b - (m+1)) _ _ (by omega) ⟨m+1,sw c m (m - 1),by omega,by omega,rfl,by simp [f0],by simp [f1],by simp [f2],by simp [f7],by simp [f8],by simp,hsw',hpm2,hs2⟩
abbrev ix (st:St) (p:Nat) (s:Int):St:=st.set p (.box 3 1 [i s])
theorem ix_self {st:St} {p:Nat} {s:Int} (h:st.H p=.box 3 1 [i s]):st=ix st p s:=
 St.ext' rfl fun x=>by by_cases hx:x=p<;>simp [hx,h]
theorem ix_ix (st:St) (p:Nat) (s s':Int):ix (ix st p s) p s'=ix st p s':=St.set_set _ _ _ _
theorem order2 (l:List Int) (q p a b:Nat) (s:Int) (st:St) (hl:small l) (ha:a < l.length) (hb:b < l.length) (hpq:q≠p) (hH:st.H q=.box 26 1 (us l)) (hp:st.H p=.box 3 1 [i s]):
 ACalls Tryz.prog 215 [.ms q 0 l.length,i a,i b,.pt p 0] st fun r st'=>∃ (x y:Nat) (s':Int),r=.tu [i x,i y]∧st'=ix st p s'∧((x=a∧y=b)∨(x=b∧y=a)):=by
 unfold small at hl
 have hd1:=qG l a ha
 have hd2:=qG l b hb
 generalize l.getD a 0=x at *
 generalize l.getD b 0=y at *
 refine qO tabOk Tryz.func215 rfl rfl Tryz.ntmps215 (rs:=[.tmp 8,.tmp 9]) rfl (by simp) ?_
 (repeat (refine qS ?_));(refine w_e [] ?_;intro J hJ;simp only [];simp [];(refine hJ _ _ ?_;clear hJ J;simp only [ak,reduceIte]))
 (repeat (refine qS ?_));(refine w_s [] [q] [(0,true),(1,true),(2,true),(3,true),(4,true),(5,true),(6,true),(7,true),(8,false)] ?_;intro J hJ;simp [hH,ha,hb,hd1,hd2])
 refine dcallK_of (Less y x _) ?_;rintro r s2 ⟨rfl,rfl⟩
 refine ⟨fun _=>by simp [hH],?_⟩
 by_cases hyx:y < x
 ·(refine d_go ?_;simp [hyx];(refine hJ _ _ ?_;clear hJ J;simp only [ak,reduceIte]))
  (repeat' (first | refine qS ?_ | (refine qR ?_;simp only [ak,reduceIte];simp [hp]) | (refine qC ?_;simp [hp]) | (refine w_e [] ?_;intro J hJ;simp only [];simp [hp];(refine hJ _ _ ?_;clear hJ J;simp only [ak,reduceIte]))))
  exact ⟨b,a,⟨rfl,rfl⟩,⟨_,rfl⟩,.inr ⟨rfl,rfl⟩⟩
 ·(refine d_go ?_;simp [hyx];(refine hJ _ _ ?_;clear hJ J;simp only [ak,reduceIte]))
  (repeat' (first | refine qS ?_ | (refine qK ?_;simp only [ak,reduceIte]) | (refine qR ?_;simp only [ak,reduceIte];simp []) | (refine qC ?_;simp []) | (refine w_e [] ?_;intro J hJ;simp only [];simp [];(refine hJ _ _ ?_;clear hJ J;simp only [ak,reduceIte]))))
  exact ⟨a,b,⟨rfl,rfl⟩,⟨s,ix_self hp⟩,.inl ⟨rfl,rfl⟩⟩
theorem median (l:List Int) (q p a b c:Nat) (s:Int) (st:St) (hl:small l) (ha:a < l.length) (hb:b < l.length) (hc:c < l.length) (hpq:q≠p) (hH:st.H q=.box 26 1 (us l)) (hp:st.H p=.box 3 1 [i s]):
 ACalls Tryz.prog 199 [.ms q 0 l.length,i a,i b,i c,.pt p 0] st fun r st'=>∃ (x:Nat) (s':Int),r=i x∧st'=ix st p s'∧(x=a∨x=b∨x=c):=by
 refine qO tabOk Tryz.func199 rfl rfl Tryz.ntmps199 (rs:=[.tmp 10]) rfl (by simp) ?_
 (repeat' (first | refine qS ?_ | (refine w_e [] ?_;intro J hJ;simp only [];simp [];(try (refine hJ _ _ ?_;clear hJ J;simp only [ak,reduceIte])))))
 refine qF (order2 l q p a b s _ hl ha hb hpq hH hp) ?_;rintro r st' ⟨x,y,s1,rfl,rfl,h1⟩
 (repeat' (first | refine qS ?_ | ((first | (refine w_e [] ?_;intro J hJ;simp only []) | (refine e_go ?_));simp [];(try (refine hJ _ _ ?_;clear hJ J;simp only [ak,reduceIte])))))
 refine qF (order2 l q p y c s1 _ hl (by omega) hc hpq (by simp [hpq,hH]) (by simp)) ?_;rintro r st' ⟨x2,y2,s2,rfl,rfl,h2⟩
 (repeat' (first | refine qS ?_ | ((first | (refine w_e [] ?_;intro J hJ;simp only []) | (refine e_go ?_));simp [];(try (refine hJ _ _ ?_;clear hJ J;simp only [ak,reduceIte])))))
 refine qF (order2 l q p x x2 s2 _ hl (by omega) (by omega) hpq (by simp [hpq,hH]) (by simp)) ?_;rintro r st' ⟨x3,y3,s3,rfl,rfl,h3⟩
 (repeat' (first | refine qS ?_ | (refine qR ?_;simp only [ak,reduceIte];simp []) | ((first | (refine w_e [] ?_;intro J hJ;simp only []) | (refine e_go ?_));simp [];(refine hJ _ _ ?_;clear hJ J;simp only [ak,reduceIte]))))
 refine ⟨y3,rfl,⟨s3,?_⟩,by omega⟩
 rw [ix_ix,ix_ix]
theorem medianAdjacent (l:List Int) (q p a:Nat) (s:Int) (st:St) (hl:small l) (h0:0 < a) (ha:a+1 < l.length) (hpq:q≠p) (hH:st.H q=.box 26 1 (us l)) (hp:st.H p=.box 3 1 [i s]):
 ACalls Tryz.prog 198 [.ms q 0 l.length,i a,.pt p 0] st fun r st'=>∃ (x:Nat) (s':Int),r=i x∧st'=ix st p s'∧a - 1≤x∧x≤a+1:=by
 have hl':=hl
 unfold small at hl'
 have w1:=qN a (by omega)
 have w2:=nat_sub_one a (by omega) (by omega)
 refine qO tabOk Tryz.func198 rfl rfl Tryz.ntmps198 (rs:=[.tmp 6]) rfl (by simp) ?_
 (repeat' (first | refine qS ?_ | (refine w_e [] ?_;intro J hJ;simp only [];simp [w1,w2];(try (refine hJ _ _ ?_;clear hJ J;simp only [ak,reduceIte])))))
 refine qF (median l q p (a - 1) a (a+1) s _ hl (by omega) (by omega) (by omega) hpq hH hp) ?_;rintro r st' ⟨x,s1,rfl,rfl,h1⟩
 (repeat' (first | (refine qR ?_;simp only [ak,reduceIte];simp []) | (refine e_go ?_;simp [];(refine hJ _ _ ?_;clear hJ J;simp only [ak,reduceIte]))))
 exact ⟨x,rfl,⟨s1,rfl⟩,by omega⟩
def PivI (q n a b:Nat) (st:St) (fr:Frm) (st2:St):Prop:=∃ (j1 j2 j3:Nat) (s:Int),fr 0=.ms q 0 n∧fr 9=.pt st.next 0∧fr 10=i j1∧fr 11=i j2∧fr 12=i j3∧a≤j1∧j1 < b∧a≤j2∧j2 < b∧a≤j3∧j3 < b∧st2=ix (st.new (.box 3 1 [i 0])) st.next s
set_option maxHeartbeats 1000000 in
theorem choosePivot (l:List Int) (q a b:Nat) (st:St) (hl:small l) (hab:a+8≤b) (hb:b≤l.length) (hqn:q < st.next) (hH:st.H q=.box 26 1 (us l)):
 ACalls Tryz.prog 175 [.ms q 0 l.length,i a,i b] st fun r st'=>∃ (x:Nat) (h:Int),r=.tu [i x,i h]∧a≤x∧x < b∧Keeps st st':=by
 have hl':=hl
 unfold small at hl'
 obtain ⟨n,hn⟩:∃ n:Nat,n=b - a:=⟨_,rfl⟩
 obtain ⟨n4,hn4⟩:∃ m:Nat,m=n / 4:=⟨_,rfl⟩
 obtain ⟨k1,hk1⟩:∃ m:Nat,m=a+n4:=⟨_,rfl⟩
 obtain ⟨k2,hk2⟩:∃ m:Nat,m=a+n4 * 2:=⟨_,rfl⟩
 obtain ⟨k3,hk3⟩:∃ m:Nat,m=a+n4 * 3:=⟨_,rfl⟩
 have w1:IntKind.i64.wrap ((b:Int) - (a:Int))=(n:Int):=by rw [wrap_i64 _ (by omega) (by omega)];omega
 have w2:IntKind.i64.wrap ((n:Int) / 4)=(n4:Int):=by
  rw [show (n:Int) / 4=((n / 4:Nat):Int) from rfl,← hn4]
  exact wrap_i64 _ (by omega) (by omega)
 have w3:IntKind.i64.wrap (n4:Int)=(n4:Int):=wrap_i64 _ (by omega) (by omega)
 have w4:IntKind.i64.wrap ((n4:Int) * 2)=((n4 * 2:Nat):Int):=by rw [wrap_i64 _ (by omega) (by omega)];omega
 have w5:IntKind.i64.wrap ((n4:Int) * 3)=((n4 * 3:Nat):Int):=by rw [wrap_i64 _ (by omega) (by omega)];omega
 have w6:IntKind.i64.wrap ((a:Int)+(n4:Int))=(k1:Int):=by rw [wrap_i64 _ (by omega) (by omega)];omega
 have w7:IntKind.i64.wrap ((a:Int)+((n4 * 2:Nat):Int))=(k2:Int):=by rw [wrap_i64 _ (by omega) (by omega)];omega
 have w8:IntKind.i64.wrap ((a:Int)+((n4 * 3:Nat):Int))=(k3:Int):=by rw [wrap_i64 _ (by omega) (by omega)];omega
 have h8:(8:Int)≤(n:Int):=by omega
 have hqn':q≠st.next:=by omega
 generalize ((n4 * 2:Nat):Int)=e2 at *
 generalize ((n4 * 3:Nat):Int)=e3 at *
 refine qO tabOk Tryz.func175 rfl rfl Tryz.ntmps175 (rs:=[.tmp 6,.tmp 7]) rfl (by simp) ?_
 (repeat' (first | refine qS ?_ | (refine w_e [] ?_;intro J hJ;simp only [];simp [w1,w2,w3,w4,w5,w6,w7,w8,h8];(refine hJ _ _ ?_;clear hJ J;simp only [ak,reduceIte]))))
 refine qC ?_;simp [h8]
 refine qS ?_
 refine awp_cut1 (PivI q l.length a b st) ?_ ?_
 ·by_cases h50:(50:Int)≤(n:Int)
  ·(repeat' (first | refine qS ?_ | (refine qC ?_;simp [h50]) | (refine w_e [] ?_;intro J hJ;simp only [];simp [h50];(try (refine hJ _ _ ?_;clear hJ J;simp only [ak,reduceIte])))))
   refine qF (medianAdjacent l q st.next k1 0 _ hl (by omega) (by omega) hqn' (by simp [hqn',hH]) (by simp)) ?_;rintro r st' ⟨x1,s1,rfl,rfl,h1⟩
   (repeat' (first | refine qS ?_ | ((first | (refine w_e [] ?_;intro J hJ;simp only []) | (refine e_go ?_));simp [];(try (refine hJ _ _ ?_;clear hJ J;simp only [ak,reduceIte])))))
   refine qF (medianAdjacent l q st.next k2 s1 _ hl (by omega) (by omega) hqn' (by simp [hqn',hH]) (by simp)) ?_;rintro r st' ⟨x2,s2,rfl,rfl,h2⟩
   (repeat' ((first | (refine w_e [] ?_;intro J hJ;simp only []) | (refine e_go ?_));simp [];(try (refine hJ _ _ ?_;clear hJ J;simp only [ak,reduceIte]))))
   refine qF (medianAdjacent l q st.next k3 s2 _ hl (by omega) (by omega) hqn' (by simp [hqn',hH]) (by simp)) ?_;rintro r st' ⟨x3,s3,rfl,rfl,h3⟩
   (repeat' (refine e_go ?_;simp [];(refine hJ _ _ ?_;clear hJ J;simp only [ak,reduceIte])))
   refine ⟨by trivial,?_⟩;unfold PivI;exact ⟨x1,x2,x3,s3,by simp,by simp,by simp,by simp,by simp,by omega,by omega,by omega,by omega,by omega,by omega,by rw [ix_ix,ix_ix]⟩
  ·(repeat' (first | refine qS ?_ | (refine qK ?_;simp only [ak,reduceIte]) | (refine qC ?_;simp [h50]) | (refine w_e [] ?_;intro J hJ;simp only [];simp [h50];(refine hJ _ _ ?_;clear hJ J;simp only [ak,reduceIte]))))
   refine ⟨by trivial,?_⟩;unfold PivI;exact ⟨k1,k2,k3,0,by simp,by simp,by simp,by simp,by simp,by omega,by omega,by omega,by omega,by omega,by omega,ix_self (by simp)⟩
 rintro fr st2 ⟨j1,j2,j3,s,f0,f9,f10,f11,f12,h1,h2,h3,h4,h5,h6,rfl⟩
 (repeat' (refine w_e [] ?_;intro J hJ;simp only [];simp [f0,f9,f10,f11,f12]))
 refine qF (median l q st.next j1 j2 j3 s _ hl (by omega) (by omega) (by omega) hqn' (by simp [hqn',hH]) (by simp)) ?_;rintro r st' ⟨x,s1,rfl,rfl,hx⟩
 have hkp:Keeps st (ix (ix (st.new (.box 3 1 [i 0])) st.next s) st.next s1):=((Keeps.new _ _).set (Nat.le_refl _) _).set (Nat.le_refl _) _
 have hax:a≤x∧x < b:=by omega
 (repeat' (first | refine qS ?_ | refine qB ?_ | (refine qR ?_;simp only [ak,reduceIte];simp [f9]) | (refine qC ?_;simp [f9];(try with_reducible refine ⟨?_,?_⟩)<;>(try with_reducible intro hc)) | ((first | (refine w_e [] ?_;intro J hJ;simp only []) | (refine e_go ?_));simp [f9];(refine hJ _ _ ?_;clear hJ J;simp only [ak,reduceIte]))))
 all_goals exact ⟨x,rfl,hax.1,hax.2,hkp⟩
abbrev uw (n:Int):LV:=.atom (.int .u64 n)
def lenTab (m:Nat):Nat:=if m=0 then 0 else Nat.log2 m+1
def blen (n:Nat):Nat:=if 256≤n then 8+lenTab (n / 256) else lenTab n
theorem wrap_u64 (n:Int) (h1:0≤n) (h2:n < 18446744073709551616):IntKind.u64.wrap n=n:=by
 simp [IntKind.wrap,IntKind.signed,IntKind.bits];omega
theorem wrap_u8 (n:Int) (h1:0≤n) (h2:n < 256):IntKind.u8.wrap n=n:=by
 simp [IntKind.wrap,IntKind.signed,IntKind.bits];omega
abbrev lenStr:ByteArray:={ data:=((List.append [0,1,2,2,3,3,3,3,4,4,4,4,4,4,4,4,5,5,5,5,5,5,5,5,5,5,5,5,5,5,5,5,6,6,6,6,6,6,6,6,6,6,6,6,6,6,6,6,6,6,6,6,6,6,6,6,6,6,6,6,6,6,6,6] [7,7,7,7,7,7,7,7,7,7,7,7,7,7,7,7,7,7,7,7,7,7,7,7,7,7,7,7,7,7,7,7,7,7,7,7,7,7,7,7,7,7,7,7,7,7,7,7,7,7,7,7,7,7,7,7,7,7,7,7,7,7,7,7]).append (List.append [8,8,8,8,8,8,8,8,8,8,8,8,8,8,8,8,8,8,8,8,8,8,8,8,8,8,8,8,8,8,8,8,8,8,8,8,8,8,8,8,8,8,8,8,8,8,8,8,8,8,8,8,8,8,8,8,8,8,8,8,8,8,8,8] [8,8,8,8,8,8,8,8,8,8,8,8,8,8,8,8,8,8,8,8,8,8,8,8,8,8,8,8,8,8,8,8,8,8,8,8,8,8,8,8,8,8,8,8,8,8,8,8,8,8,8,8,8,8,8,8,8,8,8,8,8,8,8,8])).toArray }
theorem lenStr_at:∀ m:Fin 256,((lenStr[m.val]?).isSome=true∧((lenStr[m.val]?).getD 0).toNat=lenTab m.val):=by decide +kernel
theorem lenTab_at:∀ m:Fin 256,lenTab m.val≤8∧(0 < m.val→m.val < 2 ^ lenTab m.val∧2 ^ lenTab m.val≤2 * m.val):=by decide +kernel
theorem blen_at (n:Nat) (hn:n < 65536):blen n≤16∧(0 < n→n < 2 ^ blen n∧2 ^ blen n≤2 * n):=by
 unfold blen
 by_cases h:256≤n
 ·rw [if_pos h]
  have h1:=lenTab_at ⟨n / 256,by omega⟩
  simp only at h1
  obtain ⟨h2,h3⟩:=h1.2 (by omega)
  refine ⟨by omega,fun _=>?_⟩
  rw [Nat.pow_add]
  generalize 2 ^ lenTab (n / 256)=e at *
  omega
 ·rw [if_neg h]
  have h1:=lenTab_at ⟨n,by omega⟩
  simp only at h1
  exact ⟨by omega,h1.2⟩
theorem Len64 (n:Nat) (st:St) (hn:n < 65536):ACalls Tryz.prog 149 [uw n] st fun r st'=>r=i (blen n)∧st'=st:=by
 refine qO tabOk Tryz.func149 rfl rfl Tryz.ntmps149 (rs:=[.tmp 2]) rfl (by simp) ?_
 have h1:¬ (4294967296:Int)≤(n:Int):=by omega
 have h2:¬ (65536:Int)≤(n:Int):=by omega
 have hs:∀ m,m < 256→(lenStr[m]?).isSome=true∧((lenStr[m]?).getD 0).toNat=lenTab m:=fun m h=>lenStr_at ⟨m,h⟩
 generalize hq:({ data:=((List.append [0,1,2,2,3,3,3,3,4,4,4,4,4,4,4,4,5,5,5,5,5,5,5,5,5,5,5,5,5,5,5,5,6,6,6,6,6,6,6,6,6,6,6,6,6,6,6,6,6,6,6,6,6,6,6,6,6,6,6,6,6,6,6,6] [7,7,7,7,7,7,7,7,7,7,7,7,7,7,7,7,7,7,7,7,7,7,7,7,7,7,7,7,7,7,7,7,7,7,7,7,7,7,7,7,7,7,7,7,7,7,7,7,7,7,7,7,7,7,7,7,7,7,7,7,7,7,7,7]).append (List.append [8,8,8,8,8,8,8,8,8,8,8,8,8,8,8,8,8,8,8,8,8,8,8,8,8,8,8,8,8,8,8,8,8,8,8,8,8,8,8,8,8,8,8,8,8,8,8,8,8,8,8,8,8,8,8,8,8,8,8,8,8,8,8,8] [8,8,8,8,8,8,8,8,8,8,8,8,8,8,8,8,8,8,8,8,8,8,8,8,8,8,8,8,8,8,8,8,8,8,8,8,8,8,8,8,8,8,8,8,8,8,8,8,8,8,8,8,8,8,8,8,8,8,8,8,8,8,8,8])).toArray }:ByteArray)=s
 rw [show lenStr=s from hq] at hs
 clear hq
 by_cases h3:(256:Int)≤(n:Int)
 ·obtain ⟨m,hm⟩:∃ m,m=n / 256:=⟨_,rfl⟩
  have w1:(n:Int).fdiv (2 ^ min 8 IntKind.u64.bits)=(m:Int):=by
   show (n:Int).fdiv 256=(m:Int)
   rw [Int.fdiv_eq_ediv_of_nonneg _ (by omega)];omega
  have w2:=wrap_u8 m (by omega) (by omega)
  have hb:blen n=8+lenTab m:=by unfold blen;rw [if_pos (by omega),hm]
  have h4:lenTab m≤8:=(lenTab_at ⟨m,by omega⟩).1
  have hm2:=hs m (by omega)
  have hz:m < s.size:=by simpa using hm2.1
  have hv:=hm2.2
  rw [hb]
  generalize lenTab m=e at *
  have w3:IntKind.i64.wrap (8+(e:Int))=((8+e:Nat):Int):=by rw [wrap_i64 _ (by omega) (by omega)];omega
  have w4:IntKind.i64.wrap (e:Int)=(e:Int):=by rw [wrap_i64 _ (by omega) (by omega)]
  have w5:IntKind.i64.wrap (8:Int)=8:=rfl
  simp [hz] at hv
  (repeat' (first | refine qS ?_ | (refine qK ?_;simp only [ak,reduceIte]) | (refine qR ?_;simp only [ak,reduceIte];simp [h1,h2,h3,gshr,w1,w2,hz,hv,w3,w4,w5]) | (refine qC ?_;simp [h1,h2,h3,gshr,w1,w2,hz,hv,w3,w4,w5]) | (refine w_e [] ?_;intro J hJ;simp only [];simp [h1,h2,h3,gshr,w1,w2,hz,hv,w3,w4,w5];(refine hJ _ _ ?_;clear hJ J;simp only [ak,reduceIte]))))
 ·have w2:=wrap_u8 n (by omega) (by omega)
  have hb:blen n=lenTab n:=by unfold blen;rw [if_neg (by omega)]
  have h4:lenTab n≤8:=(lenTab_at ⟨n,by omega⟩).1
  have hm2:=hs n (by omega)
  have hz:n < s.size:=by simpa using hm2.1
  have hv:=hm2.2
  rw [hb]
  generalize lenTab n=e at *
  have w4:IntKind.i64.wrap (e:Int)=(e:Int):=by rw [wrap_i64 _ (by omega) (by omega)]
  simp [hz] at hv
  (repeat' (first | refine qS ?_ | (refine qK ?_;simp only [ak,reduceIte]) | (refine qR ?_;simp only [ak,reduceIte];simp [h1,h2,h3,w2,hz,hv,w4]) | (refine qC ?_;simp [h1,h2,h3,w2,hz,hv,w4]) | (refine w_e [] ?_;intro J hJ;simp only [];simp [h1,h2,h3,w2,hz,hv,w4];(refine hJ _ _ ?_;clear hJ J;simp only [ak,reduceIte]))))
theorem Len (n:Nat) (st:St) (hn:n < 65536):ACalls Tryz.prog 112 [uw n] st fun r st'=>r=i (blen n)∧st'=st:=by
 refine qO tabOk Tryz.func112 rfl rfl Tryz.ntmps112 (rs:=[.tmp 2]) rfl (by simp) ?_
 (repeat' (first | refine qS ?_ | (refine qK ?_;simp only [ak,reduceIte]) | (refine qC ?_;simp []) | (refine w_e [] ?_;intro J hJ;simp only [];simp [];(try (refine hJ _ _ ?_;clear hJ J;simp only [ak,reduceIte])))))
 refine qF (Len64 n _ hn) ?_;rintro r st' ⟨rfl,rfl⟩
 (repeat' (first | (refine qR ?_;simp only [ak,reduceIte];simp []) | (refine e_go ?_;simp [];(refine hJ _ _ ?_;clear hJ J;simp only [ak,reduceIte]))))
theorem nextPowerOfTwo (n:Nat) (st:St) (hn:n < 65536):ACalls Tryz.prog 187 [i n] st fun r st'=>r=uw ((2 ^ blen n:Nat):Int)∧st'=st:=by
 have h1:=(blen_at n hn).1
 have w1:IntKind.u64.wrap (n:Int)=(n:Int):=wrap_u64 _ (by omega) (by omega)
 have w2:gshl .u64 1 (blen n)=((2 ^ blen n:Nat):Int):=by
  unfold gshl
  have h2:(2:Nat) ^ blen n≤2 ^ 16:=Nat.pow_le_pow_right (by omega) h1
  have h3:min ((blen n:Int).toNat) IntKind.u64.bits=blen n:=by simp [IntKind.bits];omega
  rw [h3,Int.one_mul]
  rw [show ((2:Int) ^ blen n)=((2 ^ blen n:Nat):Int) by simp]
  generalize (2:Nat) ^ blen n=z at *
  exact wrap_u64 _ (by omega) (by omega)
 refine qO tabOk Tryz.func187 rfl rfl Tryz.ntmps187 (rs:=[.tmp 2]) rfl (by simp) ?_
 (repeat' (first | refine qS ?_ | (refine w_e [] ?_;intro J hJ;simp only [];simp [w1];(try (refine hJ _ _ ?_;clear hJ J;simp only [ak,reduceIte])))))
 refine qF (Len n _ hn) ?_;rintro r st' ⟨rfl,rfl⟩
 generalize ((2 ^ blen n:Nat):Int)=e2 at *
 (repeat' (first | (refine qR ?_;simp only [ak,reduceIte];simp [w2]) | (refine e_go ?_;simp [w2];(refine hJ _ _ ?_;clear hJ J;simp only [ak,reduceIte]))))
abbrev xx (st:St) (p:Nat) (s:Int):St:=st.set p (.box 200 1 [uw s])
theorem xNext (p:Nat) (s:Int) (st:St) (hp:st.H p=.box 200 1 [uw s]):ACalls Tryz.prog 188 [.pt p 0] st fun r st'=>∃ s',r=uw s'∧st'=xx st p s':=by
 refine qO tabOk Tryz.func188 rfl rfl Tryz.ntmps188 (rs:=[.tmp 2]) rfl (by simp) ?_
 (repeat (refine qS ?_));(refine w_e [] ?_;intro J hJ;simp only [];simp [];(refine hJ _ _ ?_;clear hJ J;simp only [ak,reduceIte]))
 (repeat (refine qS ?_));(refine w_s [] [p] [(0,true),(1,true),(2,true),(3,true),(4,true),(5,true),(6,true),(7,true),(8,true),(9,false)] ?_;intro J hJ;simp [hp];(refine hJ _ _ ?_;clear hJ J;simp only [ak,reduceIte]))
 generalize gxor _ _ _=s1
 (repeat (refine qS ?_));(refine w_s [] [p] [(0,true),(1,true),(2,true),(3,true),(4,true),(5,true),(6,true),(7,true),(8,true),(9,false)] ?_;intro J hJ;simp [hp];(refine hJ _ _ ?_;clear hJ J;simp only [ak,reduceIte]))
 generalize gxor _ _ _=s2
 (repeat (refine qS ?_));(refine w_s [] [p] [(0,true),(1,true),(2,true),(3,true),(4,true),(5,true),(6,true),(7,true),(8,true),(9,false)] ?_;intro J hJ;simp [hp];(refine hJ _ _ ?_;clear hJ J;simp only [ak,reduceIte]))
 generalize gxor _ _ _=s3
 (repeat' (first | refine qS ?_ | (refine qR ?_;simp only [ak,reduceIte];simp []) | (refine w_e [] ?_;intro J hJ;simp only [];simp [];(refine hJ _ _ ?_;clear hJ J;simp only [ak,reduceIte]))))
 rw [St.set_set,St.set_set]
theorem gand_lt (s:Int) (m:Nat) (h0:0 < m) (hm:m≤131072):∃ o:Nat,o < m∧gand .u64 s (((m - 1:Nat)):Int)=(o:Int):=by
 unfold gand
 generalize hx:BitVec.ofInt IntKind.u64.bits s=x
 have h1:(BitVec.ofInt IntKind.u64.bits ((m - 1:Nat):Int)).toNat=m - 1:=by
  rw [BitVec.ofInt_natCast,BitVec.toNat_ofNat]
  show (m - 1) % 2 ^ 64=m - 1
  exact Nat.mod_eq_of_lt (by omega)
 refine ⟨(x &&& BitVec.ofInt IntKind.u64.bits ((m - 1:Nat):Int)).toNat,?_,?_⟩
 ·have h2:(x &&& BitVec.ofInt IntKind.u64.bits ((m - 1:Nat):Int)).toNat≤(BitVec.ofInt IntKind.u64.bits ((m - 1:Nat):Int)).toNat:=by
   rw [BitVec.toNat_and];exact Nat.and_le_right
  omega
 ·have h2:(x &&& BitVec.ofInt IntKind.u64.bits ((m - 1:Nat):Int)).toNat≤(BitVec.ofInt IntKind.u64.bits ((m - 1:Nat):Int)).toNat:=by
   rw [BitVec.toNat_and];exact Nat.and_le_right
  exact wrap_u64 _ (by omega) (by omega)
def OffS (q:Nat) (st st':St):Prop:=st.next≤st'.next∧∀ l,l≠q→l < st.next→st'.H l=st.H l
theorem OffS.refl (q:Nat) (st:St):OffS q st st:=⟨Nat.le_refl _,fun _ _ _=>rfl⟩
theorem OffS.trans {q:Nat} {a b c:St} (h:OffS q a b) (k:OffS q b c):OffS q a c:=⟨Nat.le_trans h.1 k.1,fun l hl hn=>(k.2 l hl (Nat.lt_of_lt_of_le hn h.1)).trans (h.2 l hl hn)⟩
theorem OffS.keeps {q:Nat} {a b c:St} (h:OffS q a b) (k:Keeps b c):OffS q a c:=⟨Nat.le_trans h.1 k.next,fun l hl hn=>(k.H l (Nat.lt_of_lt_of_le hn h.1)).trans (h.2 l hl hn)⟩
theorem OffS.set {q:Nat} {a b:St} (h:OffS q a b) (o:LObj):OffS q a (b.set q o):=⟨h.1,fun l hl hn=>by rw [set_H,if_neg hl];exact h.2 l hl hn⟩
theorem OffS.set' {q p:Nat} {a b:St} (h:OffS q a b) (hp:a.next≤p) (o:LObj):OffS q a (b.set p o):=⟨h.1,fun l hl hn=>by rw [set_H,if_neg (by omega)];exact h.2 l hl hn⟩
def BrkI (q p a b n m k:Nat) (l:List Int) (st:St) (fr:Frm) (st2:St):Prop:=fr 0=.ms q 0 l.length∧fr 1=i a∧fr 6=i n∧fr 7=.pt p 0∧fr 8=uw m∧fr 9=i k∧p < st2.next∧OffS q st st2∧(∃ s,st2.H p=.box 200 1 [uw s])∧∃ c,st2.H q=.box 26 1 (us c)∧Pm a b l c
def BrkJ (q p a b n m k:Nat) (l:List Int) (st:St) (fr:Frm) (st2:St):Prop:=BrkI q p a b n m k l st fr st2∧∃ o:Nat,o < n∧fr 10=i o
set_option maxHeartbeats 1000000 in
theorem breakPatterns (l:List Int) (q a b:Nat) (st:St) (hl:l.length < 65536) (hab:a+8≤b) (hb:b≤l.length) (hqn:q < st.next) (hH:st.H q=.box 26 1 (us l)):
 ACalls Tryz.prog 174 [.ms q 0 l.length,i a,i b] st fun r st'=>∃ c,st'.H q=.box 26 1 (us c)∧Pm a b l c∧OffS q st st':=by
 obtain ⟨n,hn⟩:∃ n:Nat,n=b - a:=⟨_,rfl⟩
 obtain ⟨n4,hn4⟩:∃ m:Nat,m=n / 4:=⟨_,rfl⟩
 obtain ⟨k0,hk0⟩:∃ m:Nat,m=a+n4 * 2:=⟨_,rfl⟩
 have w1:IntKind.i64.wrap ((b:Int) - (a:Int))=(n:Int):=by rw [wrap_i64 _ (by omega) (by omega)];omega
 have w2:IntKind.i64.wrap ((n:Int) / 4)=(n4:Int):=by
  rw [show (n:Int) / 4=((n / 4:Nat):Int) from rfl,← hn4]
  exact wrap_i64 _ (by omega) (by omega)
 have w4:IntKind.i64.wrap ((n4:Int) * 2)=((n4 * 2:Nat):Int):=by rw [wrap_i64 _ (by omega) (by omega)];omega
 have w7:IntKind.i64.wrap ((a:Int)+((n4 * 2:Nat):Int))=(k0:Int):=by rw [wrap_i64 _ (by omega) (by omega)];omega
 have w8:=nat_sub_one k0 (by omega) (by omega)
 obtain ⟨k1,hk1⟩:∃ m:Nat,m=k0+1:=⟨_,rfl⟩
 have w9:IntKind.i64.wrap ((k0:Int)+1)=(k1:Int):=by rw [qN k0 (by omega),hk1]
 have w10:IntKind.u64.wrap (n:Int)=(n:Int):=wrap_u64 _ (by omega) (by omega)
 have h8:(8:Int)≤(n:Int):=by omega
 have hbl:=(blen_at n (by omega)).2 (by omega)
 obtain ⟨m,hm⟩:∃ m:Nat,m=2 ^ blen n:=⟨_,rfl⟩
 rw [← hm] at hbl
 have w11:IntKind.u64.wrap ((m:Int) - 1)=((m - 1:Nat):Int):=by rw [wrap_u64 _ (by omega) (by omega)];omega
 generalize ((n4 * 2:Nat):Int)=e2 at *
 refine qO tabOk Tryz.func174 rfl rfl Tryz.ntmps174 (rs:=[]) rfl (by simp) ?_
 (repeat' (first | refine qS ?_ | (refine w_e [] ?_;intro J hJ;simp only [];simp [w1];(refine hJ _ _ ?_;clear hJ J;simp only [ak,reduceIte]))))
 refine qC ?_;simp [h8]
 (repeat' (first | refine qS ?_ | (refine w_e [] ?_;intro J hJ;simp only [];simp [w10,w1];(try (refine hJ _ _ ?_;clear hJ J;simp only [ak,reduceIte])))))
 refine qF (nextPowerOfTwo n _ (by omega)) ?_;rintro r st' ⟨rfl,rfl⟩
 rw [← hm]
 (repeat' (first | refine qS ?_ | refine qB ?_ | ((first | (refine w_e [] ?_;intro J hJ;simp only []) | (refine e_go ?_));simp [w2,w4,w7,w8];(refine hJ _ _ ?_;clear hJ J;simp only [ak,reduceIte]))))
 refine qL (fun z fr st2=>∃ k:Nat,k0≤k+1∧k≤k0+2∧z=k0+2 - k∧BrkI q st.next a b n m k l st fr st2) 3 ?_ ?_
 ·refine ⟨k0 - 1,by omega,by omega,by omega,?_⟩
  unfold BrkI
  have hne:¬ q=st.next:=by omega
  refine ⟨by simp,by simp,by simp,by simp,by simp,by simp,by simp,?_,⟨n,by simp⟩,l,by simp [hne,hH],.refl⟩
  exact ((OffS.refl q st).keeps (Keeps.new _ _)).set' (Nat.le_refl _) _
 rintro z fr st2 ⟨k,hkl,hku,rfl,f0,f1,f6,f7,f8,f9,hpn,hof,⟨s,hs⟩,c,hcq,hpm⟩ JJ hJJ
 have hcl:=hpm.len
 by_cases hlt:(k:Int)≤(k1:Int)
 rotate_left
 ·clear hJJ
  (repeat' (first | refine qS ?_ | (refine qX ?_;simp only [ak,reduceIte]) | (refine qC ?_;simp [f1,f6,f9,w2,w4,w7,w9,hlt]) | (refine w_e [] ?_;intro J hJ;simp only [];simp [f1,f6,f9,w2,w4,w7,w9,hlt];(refine hJ _ _ ?_;clear hJ J;simp only [ak,reduceIte]))))
  exact ⟨trivial,c,hcq,hpm,hof⟩
 (repeat (refine qS ?_));(refine w_e [] ?_;intro J hJ;simp only [];simp [f1,f6,f9,w2,w4,w7,w9,hlt];(refine hJ _ _ ?_;clear hJ J;simp only [ak,reduceIte]))
 refine qC ?_;simp [hlt]
 refine qK ?_;simp only [ak,reduceIte]
 refine qS ?_
 refine qB ?_
 refine qS ?_
 (refine w_e [] ?_;intro J hJ;simp only [];simp [f7])
 refine qF (xNext st.next s _ hs) ?_;rintro r st' ⟨s1,rfl,rfl⟩
 obtain ⟨o,ho,hgo⟩:=gand_lt s1 m (by omega) (by omega)
 have w12:IntKind.i64.wrap (o:Int)=(o:Int):=wrap_i64 _ (by omega) (by omega)
 (refine e_go ?_;simp [f8,w11,hgo,w12];(refine hJ _ _ ?_;clear hJ J;simp only [ak,reduceIte]))
 refine qS ?_
 refine awp_cut1 (BrkJ q st.next a b n m k l st) ?_ ?_
 ·have hqne:¬ q=st.next:=by omega
  have hI:∀ fr2:Frm,fr2 0=fr 0→fr2 1=fr 1→fr2 6=fr 6→fr2 7=fr 7→fr2 8=fr 8→fr2 9=fr 9→BrkI q st.next a b n m k l st fr2 (xx st2 st.next s1):=by
   intro fr2 g0 g1 g6 g7 g8 g9
   exact ⟨by rw [g0,f0],by rw [g1,f1],by rw [g6,f6],by rw [g7,f7],by rw [g8,f8],by rw [g9,f9],by simpa using hpn,hof.set' (Nat.le_refl _) _,⟨s1,by simp⟩,c,by simp [hqne,hcq],hpm⟩
  by_cases hge:(n:Int)≤(o:Int)
  ·have w13:IntKind.i64.wrap ((o:Int) - (n:Int))=((o - n:Nat):Int):=by rw [wrap_i64 _ (by omega) (by omega)];omega
   (repeat' (first | refine qS ?_ | (refine qC ?_;simp [f6,hge,w13]) | (refine w_e [] ?_;intro J hJ;simp only [];simp [f6,hge,w13];(refine hJ _ _ ?_;clear hJ J;simp only [ak,reduceIte]))))
   refine ⟨by trivial,?_⟩
   exact ⟨hI _ (by simp) (by simp) (by simp) (by simp) (by simp) (by simp),o - n,by omega,by simp⟩
  ·(repeat' (first | refine qS ?_ | (refine qK ?_;simp only [ak,reduceIte]) | (refine qC ?_;simp [f6,hge]) | (refine w_e [] ?_;intro J hJ;simp only [];simp [f6,hge];(refine hJ _ _ ?_;clear hJ J;simp only [ak,reduceIte]))))
   refine ⟨by trivial,?_⟩
   exact ⟨hI _ (by simp) (by simp) (by simp) (by simp) (by simp) (by simp),o,by omega,by simp⟩
 clear f0 f1 f6 f7 f8 f9 hpn hof hs hcq hpm hcl hgo w12 ho o s s1 c st2 fr
 rintro fr st2 ⟨⟨f0,f1,f6,f7,f8,f9,hpn,hof,⟨s,hs⟩,c,hcq,hpm⟩,o,ho,f10⟩
 have hcl:=hpm.len
 obtain ⟨x,hx⟩:∃ x:Nat,x=a+o:=⟨_,rfl⟩
 have w12:IntKind.i64.wrap ((a:Int)+(o:Int))=(x:Int):=by rw [wrap_i64 _ (by omega) (by omega)];omega
 have w13:=qN k (by omega)
 have hd1:=qG c k (by omega)
 have hd2:=qG c x (by omega)
 have hl3:k < l.length:=by omega
 have hl4:x < l.length:=by omega
 have hsw:=fun v y=>bx_sw' st2 q c k x (x:=v) (y:=y) (by omega) (by omega)
 have hpm2:=hpm.step k x (by omega) (by omega) (by omega) (by omega) (by omega)
 generalize hv:c.getD k 0=v at *
 generalize hy:c.getD x 0=y at *
 have hsw':=hsw v y rfl rfl
 (refine w_s [] [q] [(0,true),(1,true),(2,true),(3,true),(4,true),(5,true),(6,true),(7,true),(8,true),(9,true),(10,true),(11,true),(12,true),(13,true),(14,true),(15,true),(16,true),(17,false),(18,true),(19,false)] ?_;intro J hJ;simp [f0,f1,f9,f10,w12,hl3,hl4,hcl,hcq,hd1,hd2];(repeat refine ca ?_);(refine hJ _ _ ?_;clear hJ J;simp only [ak,reduceIte]))
 (repeat' (refine w_e [] ?_;intro J hJ;simp only [];simp [f9,w13];(refine hJ _ _ ?_;clear hJ J;simp only [ak,reduceIte])))
 have hqne:¬ st.next=q:=by omega
 rw [hsw']
 exact hJJ (k0+2 - (k+1)) _ _ (by omega) ⟨k+1,by omega,by omega,rfl,by simp [f0],by simp [f1],by simp [f6],by simp [f7],by simp [f8],by simp,by simpa using hpn,hof.set _,⟨s,by simp [hqne,hs]⟩,_,by simp,hpm2⟩
theorem Srt.out {a m:Nat} {c d:List Int} (h:Srt a m c) (e:∀ j,a≤j→j < m→d.getD j 0=c.getD j 0):Srt a m d:=by
 intro p q h1 h2 h3
 rw [e p h1 (by omega),e q (by omega) h3];exact h p q h1 h2 h3
theorem _root_.Go.Proofs.YtiiejclelbilkaaGreatDoor.Pl.PartedAt.pmL {c d:List Int} {a m b:Nat} (h:PartedAt c a m b) (k:Pm a m c d):PartedAt d a m b:=by
 unfold PartedAt at h ⊢
 have e:d.getD m 0=c.getD m 0:=k.out m (by omega)
 rw [e]
 refine ⟨fun p h1 h2=>k.all (fun v=>decide (v < c.getD m 0)=true) h.1 p h1 h2,fun p h1 h2=>?_⟩
 rw [k.out p (by omega)];exact h.2 p h1 h2
theorem _root_.Go.Proofs.YtiiejclelbilkaaGreatDoor.Pl.PartedAt.pmR {c d:List Int} {a m b:Nat} (h:PartedAt c a m b) (k:Pm (m+1) b c d):PartedAt d a m b:=by
 unfold PartedAt at h ⊢
 have e:d.getD m 0=c.getD m 0:=k.out m (by omega)
 rw [e]
 refine ⟨fun p h1 h2=>?_,fun p h1 h2=>k.all (fun v=>decide (v < c.getD m 0)=false) (fun j g1 g2=>h.2 j (by omega) g2) p (by omega) h2⟩
 rw [k.out p (by omega)];exact h.1 p h1 h2
theorem _root_.Go.Proofs.YtiiejclelbilkaaGreatDoor.Pl.PartedAt.glue {d:List Int} {a m b:Nat} (h:PartedAt d a m b) (h1:Srt a m d) (h2:Srt (m+1) b d):Srt a b d:=by
 refine srt_glue h1 h2 (fun p g1 g2=>?_) fun q g1 g2=>?_
 ·have:=h.1 p g1 g2;simp only [decide_eq_true_eq] at this;omega
 ·have:=h.2 q g1 g2;simp only [decide_eq_false_iff_not] at this;omega
theorem _root_.Go.Proofs.YtiiejclelbilkaaGreatDoor.Pl.PartedAt.aheadR {d:List Int} {a m b:Nat} (h:PartedAt d a m b):Ahead d (m+1) b:=by
 intro _ j g1 g2
 have:=h.2 j (by omega) g2;simp only [decide_eq_false_iff_not] at this
 rw [Nat.add_sub_cancel];omega
theorem Ahead.less {d:List Int} {a m b:Nat} (h:Ahead d a b) (hm:m≤b):Ahead d a m:=fun h0 j g1 g2=>h h0 j g1 (by omega)
theorem eq_glue {c d:List Int} {a m b:Nat} {x:Int} (h:PartedEq c a m b x) (hlow:∀ j,a≤j→j < m→x≤c.getD j 0) (k:Pm m b c d) (hs:Srt m b d):Srt a b d:=by
 intro p q h1 h2 h3
 by_cases hq:q < m
 ·rw [k.out p (by omega),k.out q (by omega)]
  have:=h.1 p h1 (by omega);have:=hlow q (by omega) hq;omega
 ·by_cases hp:p < m
  ·rw [k.out p (by omega)]
   have g:=h.1 p h1 hp
   have:x < d.getD q 0:=k.all (fun v=>x < v) h.2 q (by omega) h3
   omega
  ·exact hs p q (by omega) h2 h3
def Fin9 (a b a' b':Nat) (c:List Int):Prop:=∀ d,Pm a' b' c d→Srt a' b' d→Srt a b d
theorem Fin9.pm {a b a' b':Nat} {c d:List Int} (h:Fin9 a b a' b' c) (k:Pm a' b' c d):Fin9 a b a' b' d:=fun e h1 h2=>h e (k.trans h1) h2
theorem awp_cutR {P:Program} {N:Nat} {Q:AQ} {k:List AItem} {fr:Frm} {st:St} {x y:Code} (I:Frm→St→Prop) (h1:AWp P N x (AK P N (fun e f s=>(e=.normal∧I f s)∨(e=.ret∧AK P N Q k .ret f s)) []) fr st) (h2:∀ fr st,I fr st→AWp P N y (AK P N Q k) fr st):
 AWp P N x (AK P N Q (.code y::k)) fr st:=by
 refine awp_mono h1 ?_
 rintro e fr' st' (⟨rfl,hI⟩ | ⟨rfl,hI⟩)
 ·rw [ak_code]
  exact h2 _ _ hI
 ·rw [ak_code_ret]
  exact hI
theorem awp_cutX {P:Program} {N:Nat} {Q:AQ} {k:List AItem} {fr:Frm} {st:St} {x y:Code} (I:Frm→St→Prop) (h1:AWp P N x (AK P N (fun e f s=>(e=.normal∧I f s)∨(e≠.normal∧AK P N Q k e f s)) []) fr st) (h2:∀ fr st,I fr st→AWp P N y (AK P N Q k) fr st):
 AWp P N x (AK P N Q (.code y::k)) fr st:=by
 refine awp_mono h1 ?_
 rintro e fr' st' (⟨rfl,hI⟩ | ⟨hne,hI⟩)
 ·rw [ak_code]
  exact h2 _ _ hI
 ·cases e<;>first | exact absurd rfl hne | exact hI
def PdI (q:Nat) (l:List Int) (st:St) (a b a' b':Nat) (wb wp:Bool) (lim n:Nat) (fr:Frm) (st2:St):Prop:=
 fr 0=.ms q 0 l.length∧fr 1=i a'∧fr 2=i b'∧fr 3=i lim∧fr 8=bb wb∧fr 9=bb wp∧fr 10=i n∧lim < 1000000∧q < st2.next∧OffS q st st2∧∃ c,st2.H q=.box 26 1 (us c)∧Pm a b l c∧Ahead c a' b'∧Fin9 a b a' b' c
theorem PdI.mk {q:Nat} {l:List Int} {st:St} {a b a' b':Nat} {wb wp:Bool} {lim n:Nat} {fr:Frm} {st2:St} {c:List Int} (f0:fr 0=.ms q 0 l.length) (f1:fr 1=i a') (f2:fr 2=i b') (f3:fr 3=i lim) (f8:fr 8=bb wb) (f9:fr 9=bb wp) (f10:fr 10=i n) (hlm:lim < 1000000) (hqn:q < st2.next) (ho:OffS q st st2) (hc:st2.H q=.box 26 1 (us c)) (hp:Pm a b l c) (ha:Ahead c a' b') (hf:Fin9 a b a' b' c):PdI q l st a b a' b' wb wp lim n fr st2:=
 ⟨f0,f1,f2,f3,f8,f9,f10,hlm,hqn,ho,c,hc,hp,ha,hf⟩
def PdJ (q:Nat) (l:List Int) (st:St) (a b a' b':Nat) (wb wp:Bool) (n:Nat) (fr:Frm) (st2:St):Prop:=∃ lim,PdI q l st a b a' b' wb wp lim n fr st2
def PdK (q:Nat) (l:List Int) (st:St) (a b a' b':Nat) (wb wp:Bool) (n:Nat) (fr:Frm) (st2:St):Prop:=∃ lim,PdI q l st a b a' b' wb wp lim n fr st2∧∃ (pv:Nat) (h:Int),a'≤pv∧pv < b'∧fr 11=i pv∧fr 12=i h
set_option maxHeartbeats 4000000 in
theorem pdqsort_upto (Z:Nat):∀ (l:List Int) (q a b lim:Nat) (st:St),l.length < 65536→a≤b→b≤l.length→b - a < Z→Ahead l a b→lim < 1000000→q < st.next→st.H q=.box 26 1 (us l)→
 ACalls Tryz.prog 131 [.ms q 0 l.length,i a,i b,i lim] st fun r st'=>∃ c,st'.H q=.box 26 1 (us c)∧Pm a b l c∧Srt a b c∧OffS q st st':=by
 induction Z with
 | zero=>intro l q a b lim st _ _ _ h;omega
 | succ Z ih=>
 intro l q a b lim st hl hab hb hZ hah hlim hqn hH
 have hsm:small l:=by unfold small;omega
 refine qO tabOk Tryz.func131 rfl rfl Tryz.ntmps131 (rs:=[]) rfl (by simp) ?_
 (repeat' (first | refine qS ?_ | refine qB ?_ | (refine w_e [] ?_;intro J hJ;simp only [];simp [];(refine hJ _ _ ?_;clear hJ J;simp only [ak,reduceIte]))))
 refine qL (fun z fr st2=>∃ (a' b' lim:Nat) (wb wp:Bool) (n:LV),a≤a'∧a'≤b'∧b'≤b∧z=b' - a'∧PdI q l st a b a' b' wb wp lim 0 (upd fr 10 (i (0:Nat))) st2) (b - a) ?_ ?_
 ·refine ⟨a,b,lim,true,true,.nil,by omega,by omega,by omega,rfl,?_⟩
  exact PdI.mk (by simp) (by simp) (by simp) (by simp) (by simp) (by simp) (by simp) hlim hqn (.refl _ _) hH .refl hah fun d h1 h2=>h2
 rintro z fr st2 ⟨a',b',lim,wb,wp,-,ha1,ha2,hb2,rfl,f0,f1,f2,f3,f8,f9,-,hlm,hqn2,hof,c,hc,hpm,hah2,hfin⟩ JJ hJJ
 rw [upd_at,if_neg (by omega)] at f0 f1 f2 f3 f8 f9
 have hcl:=hpm.len
 have hsc:small c:=by unfold small;omega
 obtain ⟨n,hn⟩:∃ n:Nat,n=b' - a':=⟨_,rfl⟩
 have w1:IntKind.i64.wrap ((b':Int) - (a':Int))=(n:Int):=by rw [wrap_i64 _ (by omega) (by omega)];omega
 refine qB ?_
 (repeat' (first | refine qS ?_ | (refine w_e [] ?_;intro J hJ;simp only [];simp [f1,f2,w1];(refine hJ _ _ ?_;clear hJ J;simp only [ak,reduceIte]))))
 by_cases hn12:(n:Int)≤12
 ·clear hJJ
  refine qC ?_;simp [hn12]
  (repeat' (first | refine qS ?_ | (refine w_e [] ?_;intro J hJ;simp only [];simp [f0,f1,f2])))
  refine qE (insertionSort c q a' b' st2 hsc (by omega) (by omega) hc) (by simp [f0,f1,f2,hcl]) ?_;rintro r st' ⟨d,rfl,k1,k2⟩
  (repeat' (first | (refine qR ?_;simp only [ak,reduceIte];simp []) | (refine e_go ?_;simp [];(refine hJ _ _ ?_;clear hJ J;simp only [ak,reduceIte]))))
  exact ⟨d,rfl,hpm.trans (k1.wide (by omega) (by omega) (by omega)),hfin d k1 k2,hof.set _⟩
 refine qC ?_;simp [hn12]
 (repeat' (first | refine qS ?_ | (refine qK ?_;simp only [ak,reduceIte]) | (refine w_e [] ?_;intro J hJ;simp only [];simp [f3];(refine hJ _ _ ?_;clear hJ J;simp only [ak,reduceIte]))))
 by_cases hl0:lim=0
 ·clear hJJ
  refine qC ?_;simp [hl0]
  (repeat' (first | refine qS ?_ | (refine w_e [] ?_;intro J hJ;simp only [];simp [f0,f1,f2])))
  refine qE (heapSort c q a' b' st2 hsc (by omega) (by omega) hc) (by simp [f0,f1,f2,hcl]) ?_;rintro r st' ⟨d,rfl,k1,k2⟩
  (repeat' (first | (refine qR ?_;simp only [ak,reduceIte];simp []) | (refine e_go ?_;simp [];(refine hJ _ _ ?_;clear hJ J;simp only [ak,reduceIte]))))
  exact ⟨d,rfl,hpm.trans (k1.wide (by omega) (by omega) (by omega)),hfin d k1 k2,hof.set _⟩
 refine qC ?_;simp [hl0]
 refine qK ?_;simp only [ak,reduceIte]
 refine qS ?_
 refine awp_cut1 (PdJ q l st a b a' b' wb wp n) ?_ ?_
 ·clear hJJ
  cases wb
  ·(repeat' (first | refine qS ?_ | (refine qC ?_;simp [f0,f1,f2,f8]) | (refine w_e [] ?_;intro J hJ;simp only [];simp [f0,f1,f2,f8];(try (refine hJ _ _ ?_;clear hJ J;simp only [ak,reduceIte])))))
   refine qE (breakPatterns c q a' b' st2 (by omega) (by omega) (by omega) hqn2 hc) (by simp [f0,f1,f2,hcl]) ?_;rintro r st' ⟨d,k0,k1,k2⟩
   have w2:=nat_sub_one lim (by omega) (by omega)
   (repeat' ((first | (refine w_e [] ?_;intro J hJ;simp only []) | (refine e_go ?_));simp [f3,w2];(refine hJ _ _ ?_;clear hJ J;simp only [ak,reduceIte])))
   refine ⟨by trivial,?_⟩
   exact ⟨lim - 1,PdI.mk (by simp [f0]) (by simp [f1]) (by simp [f2]) (by simp) (by simp [f8]) (by simp [f9]) (by simp) (by omega) (Nat.lt_of_lt_of_le hqn2 k2.1) (hof.trans k2) k0 (hpm.trans (k1.wide (by omega) (by omega) (by omega))) (hah2.pm k1) (hfin.pm k1)⟩
  ·(repeat' (first | refine qS ?_ | (refine qK ?_;simp only [ak,reduceIte]) | (refine qC ?_;simp [f8]) | (refine w_e [] ?_;intro J hJ;simp only [];simp [f8];(refine hJ _ _ ?_;clear hJ J;simp only [ak,reduceIte]))))
   refine ⟨by trivial,?_⟩
   exact ⟨lim,PdI.mk (by simp [f0]) (by simp [f1]) (by simp [f2]) (by simp [f3]) (by simp [f8]) (by simp [f9]) (by simp) (by omega) hqn2 hof hc hpm hah2 hfin⟩
 clear f0 f1 f2 f3 f8 f9 hlm hqn2 hof hc hpm hah2 hfin hcl hsc c st2 fr hl0 lim
 rintro fr st2 ⟨lim,f0,f1,f2,f3,f8,f9,f10,hlm,hqn2,hof,c,hc,hpm,hah2,hfin⟩
 have hcl:=hpm.len
 have hsc:small c:=by unfold small;omega
 refine qS ?_
 (refine w_e [] ?_;intro J hJ;simp only [];simp [f0,f1,f2])
 refine qE (choosePivot c q a' b' st2 hsc (by omega) (by omega) hqn2 hc) (by simp [f0,f1,f2,hcl]) ?_;rintro r st' ⟨pv,h,rfl,hp1,hp2,k0⟩
 have hc':st'.H q=.box 26 1 (us c):=by rw [k0.H q hqn2];exact hc
 have hqn3:q < st'.next:=Nat.lt_of_lt_of_le hqn2 k0.next
 have hof2:=hof.keeps k0
 clear hc hqn2 hof k0
 (refine e_go ?_;simp [];(refine hJ _ _ ?_;clear hJ J;simp only [ak,reduceIte]))
 refine qS ?_
 refine awp_cut1 (PdK q l st a b a' b' wb wp n) ?_ ?_
 ·clear hJJ
  by_cases hh:h=2
  ·(repeat' (first | refine qS ?_ | (refine qC ?_;simp [hh,f0,f1,f2]) | (refine w_e [] ?_;intro J hJ;simp only [];simp [hh,f0,f1,f2];(try (refine hJ _ _ ?_;clear hJ J;simp only [ak,reduceIte])))))
   refine qE (reverseRange c q a' b' st' hsc (by omega) (by omega) (by omega) hc') (by simp [f0,f1,f2,hcl]) ?_;rintro r st' ⟨d,rfl,k1⟩
   have w2:=nat_sub_one b' (by omega) (by omega)
   obtain ⟨x1,hx1⟩:∃ x,x=b' - 1:=⟨_,rfl⟩
   obtain ⟨x2,hx2⟩:∃ x,x=pv - a':=⟨_,rfl⟩
   obtain ⟨x3,hx3⟩:∃ x,x=x1 - x2:=⟨_,rfl⟩
   have w3:IntKind.i64.wrap ((pv:Int) - (a':Int))=(x2:Int):=by rw [wrap_i64 _ (by omega) (by omega)];omega
   have w4:IntKind.i64.wrap ((x1:Int) - (x2:Int))=(x3:Int):=by rw [wrap_i64 _ (by omega) (by omega)];omega
   rw [← hx1] at w2
   (repeat' (first | refine qS ?_ | ((first | (refine w_e [] ?_;intro J hJ;simp only []) | (refine e_go ?_));simp [f1,f2,w2,w3,w4];(refine hJ _ _ ?_;clear hJ J;simp only [ak,reduceIte]))))
   refine ⟨by trivial,?_⟩
   exact ⟨lim,PdI.mk (by simp [f0]) (by simp [f1]) (by simp [f2]) (by simp [f3]) (by simp [f8]) (by simp [f9]) (by simp [f10]) (by omega) hqn3 (hof2.set _) (by simp) (hpm.trans (k1.wide (by omega) (by omega) (by omega))) (hah2.pm k1) (hfin.pm k1),x3,1,by omega,by omega,by simp,by simp⟩
  ·(repeat' (first | refine qS ?_ | (refine qK ?_;simp only [ak,reduceIte]) | (refine qC ?_;simp [hh]) | (refine w_e [] ?_;intro J hJ;simp only [];simp [hh];(refine hJ _ _ ?_;clear hJ J;simp only [ak,reduceIte]))))
   refine ⟨by trivial,?_⟩
   exact ⟨lim,PdI.mk (by simp [f0]) (by simp [f1]) (by simp [f2]) (by simp [f3]) (by simp [f8]) (by simp [f9]) (by simp [f10]) (by omega) hqn3 hof2 hc' hpm hah2 hfin,pv,h,by omega,by omega,by simp,by simp⟩
 clear f0 f1 f2 f3 f8 f9 f10 hlm hqn3 hof2 hc' hpm hah2 hfin hcl hsc c st2 fr lim h hp1 hp2 pv
 rintro fr st2 ⟨lim,⟨f0,f1,f2,f3,f8,f9,f10,hlm,hqn2,hof,c,hc,hpm,hah2,hfin⟩,pv,h,hp1,hp2,f11,f12⟩
 have hcl:=hpm.len
 have hsc:small c:=by unfold small;omega
 refine qS ?_
 refine awp_cutR (PdK q l st a b a' b' wb wp n) ?_ ?_
 ·clear hJJ
  cases wb
  ·(repeat' (first | refine qS ?_ | (refine qK ?_;simp only [ak,reduceIte]) | (refine qC ?_;simp [f8]) | (refine w_e [] ?_;intro J hJ;simp only [];simp [f8];(refine hJ _ _ ?_;clear hJ J;simp only [ak,reduceIte]))))
   refine .inl ⟨by trivial,?_⟩
   exact ⟨lim,PdI.mk (by simp [f0]) (by simp [f1]) (by simp [f2]) (by simp [f3]) (by simp [f8]) (by simp [f9]) (by simp [f10]) (by omega) hqn2 hof hc hpm hah2 hfin,pv,h,by omega,by omega,by simp [f11],by simp [f12]⟩
  cases wp
  ·(repeat' (first | refine qS ?_ | (refine qK ?_;simp only [ak,reduceIte]) | (refine qC ?_;simp [f8,f9]) | (refine w_e [] ?_;intro J hJ;simp only [];simp [f8,f9];(refine hJ _ _ ?_;clear hJ J;simp only [ak,reduceIte]))))
   refine .inl ⟨by trivial,?_⟩
   exact ⟨lim,PdI.mk (by simp [f0]) (by simp [f1]) (by simp [f2]) (by simp [f3]) (by simp [f8]) (by simp [f9]) (by simp [f10]) (by omega) hqn2 hof hc hpm hah2 hfin,pv,h,by omega,by omega,by simp [f11],by simp [f12]⟩
  by_cases hh:h=1
  rotate_left
  ·(repeat' (first | refine qS ?_ | (refine qK ?_;simp only [ak,reduceIte]) | (refine qC ?_;simp [f8,f9,f12,hh]) | (refine w_e [] ?_;intro J hJ;simp only [];simp [f8,f9,f12,hh];(refine hJ _ _ ?_;clear hJ J;simp only [ak,reduceIte]))))
   refine .inl ⟨by trivial,?_⟩
   exact ⟨lim,PdI.mk (by simp [f0]) (by simp [f1]) (by simp [f2]) (by simp [f3]) (by simp [f8]) (by simp [f9]) (by simp [f10]) (by omega) hqn2 hof hc hpm hah2 hfin,pv,h,by omega,by omega,by simp [f11],by simp [f12]⟩
  (repeat' (first | refine qS ?_ | (refine qC ?_;simp [f8,f9,f12,hh,f0,f1,f2]) | (refine w_e [] ?_;intro J hJ;simp only [];simp [f8,f9,f12,hh,f0,f1,f2];(try (refine hJ _ _ ?_;clear hJ J;simp only [ak,reduceIte])))))
  refine qE (partialInsertionSort c q a' b' st2 hsc (by omega) (by omega) hah2 hc) (by simp [f0,f1,f2,hcl]) ?_;rintro r st' ⟨d,p,rfl,rfl,k1,k2⟩
  cases p
  ·(repeat' (first | (refine qK ?_;simp only [ak,reduceIte]) | (refine qC ?_;simp []) | (refine e_go ?_;simp [];(refine hJ _ _ ?_;clear hJ J;simp only [ak,reduceIte]))))
   refine .inl ⟨by trivial,?_⟩
   exact ⟨lim,PdI.mk (by simp [f0]) (by simp [f1]) (by simp [f2]) (by simp [f3]) (by simp [f8]) (by simp [f9]) (by simp [f10]) (by omega) hqn2 (hof.set _) (by simp) (hpm.trans (k1.wide (by omega) (by omega) (by omega))) (hah2.pm k1) (hfin.pm k1),pv,h,by omega,by omega,by simp [f11],by simp [f12]⟩
  ·(repeat' (first | (refine qR ?_;simp only [ak,reduceIte];simp []) | (refine qC ?_;simp []) | (refine e_go ?_;simp [];(refine hJ _ _ ?_;clear hJ J;simp only [ak,reduceIte]))))
   exact ⟨d,rfl,hpm.trans (k1.wide (by omega) (by omega) (by omega)),hfin d k1 (k2 rfl),hof.set _⟩
 clear f0 f1 f2 f3 f8 f9 f10 f11 f12 hlm hqn2 hof hc hpm hah2 hfin hcl hsc c st2 fr lim h hp1 hp2 pv
 rintro fr st2 ⟨lim,⟨f0,f1,f2,f3,f8,f9,f10,hlm,hqn2,hof,c,hc,hpm,hah2,hfin⟩,pv,h,hp1,hp2,f11,f12⟩
 have hcl:=hpm.len
 have hsc:small c:=by unfold small;omega
 refine qS ?_
 refine awp_cutX (PdK q l st a b a' b' wb wp n) ?_ ?_
 ·by_cases h0:a'=0
  ·clear hJJ
   have h0':¬ (0:Int) < (a':Int):=by omega
   (repeat (refine qS ?_));(refine w_s [] [q] [(0,true),(1,true),(2,true),(3,true),(4,true),(5,true),(6,true),(7,true),(8,true),(9,true),(10,true),(11,true),(12,false),(13,true),(14,true)] ?_;intro J hJ;simp [f0,f1,h0];(refine hJ _ _ ?_;clear hJ J;simp only [ak,reduceIte]))
   (repeat' (first | (refine qK ?_;simp only [ak,reduceIte]) | (refine qC ?_;simp [])))
   refine .inl ⟨by trivial,?_⟩
   exact ⟨lim,PdI.mk (by simp [f0]) (by simp [f1]) (by simp [f2]) (by simp [f3]) (by simp [f8]) (by simp [f9]) (by simp [f10]) (by omega)  hqn2 hof hc hpm hah2 hfin,pv,h,by omega,by omega,by simp [f11],by simp [f12]⟩
  have h0':0 < a':=by omega
  have w2:=nat_sub_one a' (by omega) (by omega)
  have hd1:=qG c (a' - 1) (by omega)
  have hd2:=qG c pv (by omega)
  have hl3:a' - 1 < l.length:=by omega
  have hl4:pv < l.length:=by omega
  have hlow:∀ j,a'≤j→j < b'→c.getD (a' - 1) 0≤c.getD j 0:=hah2 h0'
  generalize hx:c.getD (a' - 1) 0=x at *
  generalize hy:c.getD pv 0=y at *
  (repeat (refine qS ?_));(refine w_s [] [q] [(0,true),(1,true),(2,true),(3,true),(4,true),(5,true),(6,true),(7,true),(8,true),(9,true),(10,true),(11,true),(12,false),(13,true),(14,true)] ?_;intro J hJ;simp [f0,f1,f11,h0',w2,hl3,hl4,hcl,hc,hd1,hd2])
  refine dcallK_of (Less x y _) ?_;rintro r s2 ⟨rfl,rfl⟩
  refine ⟨fun _=>by simp,?_⟩
  by_cases hxy:x < y
  ·clear hJJ
   (refine d_go ?_;simp [hxy];(refine hJ _ _ ?_;clear hJ J;simp only [ak,reduceIte]))
   (repeat' (first | (refine qK ?_;simp only [ak,reduceIte]) | (refine qC ?_;simp [])))
   refine .inl ⟨by trivial,?_⟩
   exact ⟨lim,PdI.mk (by simp [f0]) (by simp [f1]) (by simp [f2]) (by simp [f3]) (by simp [f8]) (by simp [f9]) (by simp [f10]) (by omega)  hqn2 hof hc hpm hah2 hfin,pv,h,by omega,by omega,by simp [f11],by simp [f12]⟩
  (refine d_go ?_;simp [hxy];(refine hJ _ _ ?_;clear hJ J;simp only [ak,reduceIte]))
  (repeat' (first | refine qS ?_ | (refine qC ?_;simp [f0,f1,f2,f11]) | (refine w_e [] ?_;intro J hJ;simp only [];simp [f0,f1,f2,f11])))
  refine qE (partitionEqual c q a' b' pv _ hsc (by omega) (by omega) hp1 hp2 hc) (by simp [f0,f1,f2,f11,hcl]) ?_;rintro r st' ⟨d,mid,rfl,rfl,k1,k2,k3,k4⟩
  (repeat' (first | refine qS ?_ | (refine qX ?_;simp only [ak,reduceIte]) | ((first | (refine w_e [] ?_;intro J hJ;simp only []) | (refine e_go ?_));simp [];(refine hJ _ _ ?_;clear hJ J;simp only [ak,reduceIte]))))
  refine .inr ⟨by simp,?_⟩
  refine hJJ (b' - mid) _ _ (by omega) ⟨mid,b',lim,wb,wp,.nil,by omega,by omega,by omega,rfl,?_⟩
  rw [hy] at k4
  refine PdI.mk (by simp [f0]) (by simp) (by simp [f2]) (by simp [f3]) (by simp [f8]) (by simp [f9]) (by simp) (by omega) hqn2 (hof.set _) (by simp) (hpm.trans (k1.wide (by omega) (by omega) (by omega))) ?_ ?_
  ·intro _ j g1 g2
   have e1:=k4.1 (mid - 1) (by omega) (by omega)
   have e2:=k4.2 j g1 g2
   omega
  ·intro e g1 g2
   refine hfin e (k1.trans (g1.wide (by omega) (by omega) (by have:=k1.len;omega))) (eq_glue k4 (fun j e1 e2=>?_) g1 g2)
   have:=k1.all (fun v=>x≤v) hlow j e1 (by omega)
   omega
 clear f0 f1 f2 f3 f8 f9 f10 f11 f12 hlm hqn2 hof hc hpm hah2 hfin hcl hsc c st2 fr lim h hp1 hp2 pv
 rintro fr st2 ⟨lim,⟨f0,f1,f2,f3,f8,f9,f10,hlm,hqn2,hof,c,hc,hpm,hah2,hfin⟩,pv,h,hp1,hp2,f11,f12⟩
 have hcl:=hpm.len
 have hsc:small c:=by unfold small;omega
 (repeat' (first | refine qS ?_ | (refine w_e [] ?_;intro J hJ;simp only [];simp [f0,f1,f2,f11])))
 refine qE (partition c q a' b' pv _ hsc (by omega) (by omega) hp1 hp2 hc) (by simp [f0,f1,f2,f11,hcl]) ?_;rintro r st' ⟨d,mid,p,rfl,rfl,k1,k2,k3,k4⟩
 have hdl:=k1.len
 have k4:PartedAt d a' mid b':=k4
 have hpm':=hpm.trans (k1.wide ha1 hb2 (by omega))
 have hah':=hah2.pm k1
 have hfin':=hfin.pm k1
 have hof':=hof.set (q:=q) (.box 26 1 (us d))
 have w3:IntKind.i64.wrap ((mid:Int) - (a':Int))=((mid - a':Nat):Int):=by rw [wrap_i64 _ (by omega) (by omega)];omega
 have w4:IntKind.i64.wrap ((b':Int) - (mid:Int))=((b' - mid:Nat):Int):=by rw [wrap_i64 _ (by omega) (by omega)];omega
 have w5:IntKind.i64.wrap ((n:Int) / 8)=((n / 8:Nat):Int):=by
  rw [show (n:Int) / 8=((n / 8:Nat):Int) from rfl]
  exact wrap_i64 _ (by omega) (by omega)
 obtain ⟨z1,hz1⟩:∃ x:Nat,x=mid - a':=⟨_,rfl⟩
 obtain ⟨z2,hz2⟩:∃ x:Nat,x=b' - mid:=⟨_,rfl⟩
 obtain ⟨z3,hz3⟩:∃ x:Nat,x=n / 8:=⟨_,rfl⟩
 obtain ⟨m1,hm1⟩:∃ x:Nat,x=mid+1:=⟨_,rfl⟩
 rw [← hz1] at w3;rw [← hz2] at w4;rw [← hz3] at w5
 have w6:IntKind.i64.wrap ((mid:Int)+1)=(m1:Int):=by rw [qN mid (by omega),hm1]
 clear hc hpm hah2 hfin hof
 (repeat' (first | refine qS ?_ | ((first | (refine w_e [] ?_;intro J hJ;simp only []) | (refine e_go ?_));simp [f1,f2,f10,w3,w4,w5];(refine hJ _ _ ?_;clear hJ J;simp only [ak,reduceIte]))))
 refine qC ?_
 by_cases hzz:z1 < z2
 ·simp [hzz]
  (repeat' (first | refine qS ?_ | (refine w_e [] ?_;intro J hJ;simp only [];simp [f0,f1,f3];(try (refine hJ _ _ ?_;clear hJ J;simp only [ak,reduceIte])))))
  refine qE (ih d q a' mid lim (bx st2 q d) (by omega) (by omega) (by omega) (by omega) (hah'.less (by omega)) (by omega) hqn2 (by simp)) (by simp [f0,f1,f2,f3,hdl,hcl]) ?_;rintro r st' ⟨e,j0,j1,j2,j3⟩
  (repeat' ((first | (refine w_e [] ?_;intro J hJ;simp only []) | (refine e_go ?_));simp [w6];(refine hJ _ _ ?_;clear hJ J;simp only [ak,reduceIte])))
  refine hJJ (b' - m1) _ _ (by omega) ⟨m1,b',lim,decide (z3≤z1),p,.nil,by omega,by omega,by omega,rfl,?_⟩
  refine PdI.mk (by simp [f0]) (by simp) (by simp [f2]) (by simp [f3]) (by simp) (by simp) (by simp) (by omega) (Nat.lt_of_lt_of_le hqn2 j3.1) (hof'.trans j3) j0 (hpm'.trans (j1.wide (by omega) (by omega) (by omega))) ?_ ?_
  ·rw [hm1];exact (k4.pmL j1).aheadR
  ·intro y g1 g2
   rw [hm1] at g1 g2
   refine hfin' y ((j1.wide (by omega) (by omega) (by omega)).trans (g1.wide (by omega) (by omega) (by have:=j1.len;omega))) (((k4.pmL j1).pmR g1).glue (Srt.out j2 fun j e1 e2=>g1.out j (by omega)) g2)
 ·simp [hzz]
  (repeat' (first | refine qS ?_ | (refine w_e [] ?_;intro J hJ;simp only [];simp [f0,f2,f3,w6];(try (refine hJ _ _ ?_;clear hJ J;simp only [ak,reduceIte])))))
  refine qE (ih d q m1 b' lim (bx st2 q d) (by omega) (by omega) (by omega) (by omega) (by rw [hm1];exact k4.aheadR) (by omega) hqn2 (by simp)) (by simp [f0,f1,f2,f3,hdl,hcl]) ?_;rintro r st' ⟨e,j0,j1,j2,j3⟩
  (repeat' ((first | (refine w_e [] ?_;intro J hJ;simp only []) | (refine e_go ?_));simp [];(refine hJ _ _ ?_;clear hJ J;simp only [ak,reduceIte])))
  rw [hm1] at j1 j2
  refine hJJ (mid - a') _ _ (by omega) ⟨a',mid,lim,decide (z3≤z2),p,.nil,by omega,by omega,by omega,rfl,?_⟩
  refine PdI.mk (by simp [f0]) (by simp [f1]) (by simp) (by simp [f3]) (by simp) (by simp) (by simp) (by omega) (Nat.lt_of_lt_of_le hqn2 j3.1) (hof'.trans j3) j0 (hpm'.trans (j1.wide (by omega) (by omega) (by omega))) ?_ ?_
  ·exact (hah'.pm (j1.wide (by omega) (by omega) (by omega))).less (by omega)
  ·intro y g1 g2
   refine hfin' y ((j1.wide (by omega) (by omega) (by omega)).trans (g1.wide (by omega) (by omega) (by have:=j1.len;omega))) (((k4.pmR j1).pmL g1).glue g2 (Srt.out j2 fun j e1 e2=>g1.out j (by omega)))
theorem SortU (l:List Int) (q:Nat) (st:St) (hl:l.length < 65536) (hqn:q < st.next) (hH:st.H q=.box 26 1 (us l)):
 ACalls Tryz.prog 94 [.ms q 0 l.length] st fun r st'=>∃ c,st'.H q=.box 26 1 (us c)∧c.Perm l∧c.Pairwise (·≤·)∧OffS q st st':=by
 have w1:IntKind.u64.wrap (l.length:Int)=(l.length:Int):=wrap_u64 _ (by omega) (by omega)
 have hbl:=(blen_at l.length hl).1
 refine qO tabOk Tryz.func94 rfl rfl Tryz.ntmps94 (rs:=[]) rfl (by simp) ?_
 (repeat' (first | refine qS ?_ | (refine w_e [] ?_;intro J hJ;simp only [];simp [w1];(try (refine hJ _ _ ?_;clear hJ J;simp only [ak,reduceIte])))))
 refine qF (Len l.length _ hl) ?_;rintro r st' ⟨rfl,rfl⟩
 (repeat' (refine e_go ?_;simp []))
 refine qE (pdqsort_upto (l.length+1) l q 0 l.length (blen l.length) _ hl (by omega) (by omega) (by omega) (fun h=>absurd h (by omega)) (by omega) hqn hH) (by simp []) ?_;rintro r st' ⟨c,k1,k2,k3,k4⟩
 (repeat' (refine e_go ?_;simp [];(refine hJ _ _ ?_;clear hJ J;simp only [ak,reduceIte])))
 have hcl:=k2.len
 exact ⟨trivial,c,k1,k2.perm,srt_pair (by rw [hcl];exact k3),k4⟩
end Go.Proofs.YtiiejclelbilkaaGreatDoor.Aw
namespace Go.Proofs.YtiiejclelbilkaaGreatDoor.Aw.CB
open Go Go.RowKit Go.Proofs.YtiiejclelbilkaaGreatDoor.Pl
set_option linter.unusedSimpArgs false
set_option linter.unusedVariables false
structure CmpW (fid:FuncId) (caps:List LV) (en:Int→Nat) (ec:Int→List LV) (Dm:Int→Prop):Prop where
 call:∀ x y st,Dm x→Dm y→ACalls Tryz.prog fid ([.sl 0 (en x) (ec x),.sl 0 (en y) (ec y)]++caps) st fun r st'=>(∃ n,r=i n∧(n < 0↔x < y))∧st'=st
abbrev ws (en:Int→Nat) (ec:Int→List LV) (c:List Int):List LV:=c.map fun x=>.sl 0 (en x) (ec x)
theorem ws_drop (en:Int→Nat) (ec:Int→List LV) (l:List Int) (j:Nat) (hj:j < l.length):(ws en ec l).drop j=.sl 0 (en (l.getD j 0)) (ec (l.getD j 0))::ws en ec (l.drop (j+1)):=by
 rw [getD_lt _ _ hj,ws,ws,← List.map_drop,List.drop_eq_getElem_cons hj];rfl
theorem ws_set (en:Int→Nat) (ec:Int→List LV) (c:List Int) (k:Nat) (x:Int) (hk:k < c.length):(ws en ec c).take k++.sl 0 (en x) (ec x)::(ws en ec c).drop (k+1)=ws en ec (c.set k x):=by
 simp only [ws]
 rw [← List.map_take,← List.map_drop,List.set_eq_take_append_cons_drop,if_pos hk]
 simp
theorem dm_get {Dm:Int→Prop} {l:List Int} (h:∀ x∈l,Dm x) {k:Nat} (hk:k < l.length):Dm (l.getD k 0):=h _ (by rw [getD_lt _ _ hk];exact List.getElem_mem _)
theorem dm_pm {Dm:Int→Prop} {a b:Nat} {l c:List Int} (h:∀ x∈l,Dm x) (k:Pm a b l c):∀ x∈c,Dm x:=fun x hx=>h x (k.perm.mem_iff.1 hx)
abbrev bx (en:Int→Nat) (ec:Int→List LV) (st:St) (q:Nat) (c:List Int):St:=st.set q (.box 33 1 (ws en ec c))
theorem bx_self {en:Int→Nat} {ec:Int→List LV} {st:St} {q:Nat} {c:List Int} (h:st.H q=.box 33 1 (ws en ec c)):st=bx en ec st q c:=
 St.ext' rfl fun x=>by by_cases hx:x=q<;>simp [hx,h]
theorem bx_sw (en:Int→Nat) (ec:Int→List LV) (st:St) (q:Nat) (c:List Int) (k m:Nat) {x y:Int} (hk:k < c.length) (hm:m < c.length) (hx:c.getD k 0=x) (hy:c.getD m 0=y):
 ((bx en ec st q c).set q (.box 33 1 (List.take k (ws en ec c)++.sl 0 (en y) (ec y)::List.drop (k+1) (ws en ec c)))).set q
   (.box 33 1 (List.take m (List.take k (ws en ec c)++.sl 0 (en y) (ec y)::List.drop (k+1) (ws en ec c))++.sl 0 (en x) (ec x)::List.drop (m+1) (List.take k (ws en ec c)++.sl 0 (en y) (ec y)::List.drop (k+1) (ws en ec c))))=bx en ec st q (sw c k m):=by
 have e:List.take k (ws en ec c)++.sl 0 (en y) (ec y)::List.drop (k+1) (ws en ec c)=ws en ec (c.set k y):=ws_set en ec c k y hk
 rw [e,ws_set en ec (c.set k y) m x (by simpa using hm)]
 unfold bx sw
 rw [hx,hy]
 exact St.ext' rfl fun z=>by by_cases hz:z=q<;>simp [hz]
theorem insertionSort {fid:FuncId} {caps:List LV} {en:Int→Nat} {ec:Int→List LV} {Dm:Int→Prop} (hC:CmpW fid caps en ec Dm) (l:List Int) (q a b:Nat) (st:St) (hD:∀ x∈l,Dm x) (hl:small l) (ha:a≤b) (hb:b≤l.length) (hH:st.H q=.box 33 1 (ws en ec l)):
 ACalls Tryz.prog 152 [.ms q 0 l.length,i a,i b,.fn (.func fid) caps] st fun r st'=>∃ c,st'=bx en ec st q c∧Pm a b l c∧Srt a b c:=by
 unfold small at hl
 refine qO tabOk Tryz.func152 rfl rfl Tryz.ntmps152 (rs:=[]) rfl (by simp) ?_
 have hw0:=qN a (by omega)
 (repeat' (first | refine qS ?_ | refine qB ?_ | (refine w_e [] ?_;intro J hJ;simp only [];simp [hw0];(refine hJ _ _ ?_;clear hJ J;simp only [ak,reduceIte]))))
 refine qL (fun n fr st'=>∃ (k:Nat) (c:List Int),a < k∧n=b - k∧(fr 0=.ms q 0 l.length∧fr 3=.fn (.func fid) caps)∧fr 1=i a∧fr 2=i b∧fr 8=i k∧st'=bx en ec st q c∧Pm a b l c∧Srt a k c) (b - (a+1)) ?_ ?_
 ·exact ⟨a+1,l,by omega,rfl,by simp,by simp,by simp,by simp,bx_self hH,.refl,fun p q h1 h2 h3=>by omega⟩
 rintro n fr st1 ⟨k,c,hak,rfl,⟨f0,fC⟩,f1,f2,f6,rfl,hpm,hs⟩ JJ hJJ
 have hcl:=hpm.len
 have hDc:=dm_pm hD hpm
 by_cases hlt:k < b
 rotate_left
 ·clear hJJ
  have hlt':¬ (k:Int) < (b:Int):=by omega
  (repeat' (first | refine qS ?_ | (refine qX ?_;simp only [ak,reduceIte]) | (refine qC ?_;simp [f0,fC,f1,f2,f6,hlt]) | (refine w_e [] ?_;intro J hJ;simp only [];simp [f0,fC,f1,f2,f6,hlt];(refine hJ _ _ ?_;clear hJ J;simp only [ak,reduceIte]))))
  exact ⟨trivial,c,rfl,hpm,fun p q h1 h2 h3=>hs p q h1 h2 (by omega)⟩
 have hw1:=qN k (by omega)
 (repeat' (first | refine qS ?_ | refine qB ?_ | (refine qK ?_;simp only [ak,reduceIte]) | (refine qC ?_;simp [f0,fC,f1,f2,f6,hlt]) | (refine w_e [] ?_;intro J hJ;simp only [];simp [f0,fC,f1,f2,f6,hlt];(refine hJ _ _ ?_;clear hJ J;simp only [ak,reduceIte]))))
 refine qL (fun n fr st'=>∃ (j:Nat) (c:List Int),a≤j∧j≤k∧j=n∧(fr 0=.ms q 0 l.length∧fr 3=.fn (.func fid) caps)∧fr 1=i a∧fr 2=i b∧fr 8=i k∧fr 9=i j∧st'=bx en ec st q c∧Pm a b l c∧Ins a j k c) k ?_ ?_
 ·exact ⟨k,c,by omega,by omega,rfl,by simp [f0,fC],by simp [f1],by simp [f2],by simp [f6],by simp,rfl,hpm,hs.ins⟩
 clear f0 fC f1 f2 f6 hs hpm hcl hDc c fr
 rintro n fr st1 ⟨j,c,haj,hjk,rfl,⟨f0,fC⟩,f1,f2,f6,f7,rfl,hpm,hI⟩ JJ2 hJ2
 have hcl:=hpm.len
 have hDc:=dm_pm hD hpm
 by_cases hj:a < j
 rotate_left
 ·clear hJ2
  have hj':¬ (a:Int) < (j:Int):=by omega
  (repeat (refine qS ?_));(refine w_s [] [q] [(0,true),(1,true),(2,true),(3,true),(4,true),(5,true),(6,true),(7,true),(8,true),(9,true),(10,true),(11,true),(12,true),(13,true),(14,false),(15,true),(16,true)] ?_;intro J hJ;simp [f0,fC,f1,f2,f6,f7,hj];(refine hJ _ _ ?_;clear hJ J;simp only [ak,reduceIte]))
  (repeat' (first | (refine qX ?_;simp only [ak,reduceIte]) | (refine qC ?_;simp [f6,hw1]) | (refine w_e [] ?_;intro J hJ;simp only [];simp [f6,hw1];(refine hJ _ _ ?_;clear hJ J;simp only [ak,reduceIte]))))
  exact hJJ (b - (k+1)) _ _ (by omega) ⟨k+1,c,by omega,rfl,by simp [f0,fC],by simp [f1],by simp [f2],by simp,rfl,hpm,hI.done haj (.inl (by omega))⟩
 have hw2:=nat_sub_one j (by omega) (by omega)
 have hjl:j < l.length:=by omega
 have hjl1:j - 1 < l.length:=by omega
 have hd:=ws_drop en ec c j (by omega)
 have hd2:=ws_drop en ec c (j - 1) (by omega)
 have hI1:=hI.step hj hjk (by omega)
 have hI2:=hI.done haj
 have hpm1:=hpm.step j (j - 1) (by omega) (by omega) (by omega) (by omega) (by omega)
 generalize hx:c.getD j 0=x at *
 generalize hy:c.getD (j - 1) 0=y at *
 (repeat (refine qS ?_));(refine w_s [] [q] [(0,true),(1,true),(2,true),(3,true),(4,true),(5,true),(6,true),(7,true),(8,true),(9,true),(10,true),(11,true),(12,true),(13,true),(14,false),(15,true),(16,true)] ?_;intro J hJ;simp [f0,fC,f1,f2,f6,f7,hj,hw2,hjl,hjl1,hcl,hd,hd2])
 refine dcallK_of (hC.call x y _ (by first | assumption | (subst_vars;exact dm_get (by assumption) (by omega))) (by first | assumption | (subst_vars;exact dm_get (by assumption) (by omega)))) ?_;rintro r s2 ⟨⟨nv,rfl,hnv⟩,rfl⟩
 refine ⟨fun _=>by simp,?_⟩
 by_cases hcd:x < y
 rotate_left
 ·clear hJ2
  (refine d_go ?_;simp [hnv,hcd];(refine hJ _ _ ?_;clear hJ J;simp only [ak,reduceIte]))
  (repeat' (first | (refine qX ?_;simp only [ak,reduceIte]) | (refine qC ?_;simp [f6,hw1]) | (refine w_e [] ?_;intro J hJ;simp only [];simp [f6,hw1];(refine hJ _ _ ?_;clear hJ J;simp only [ak,reduceIte]))))
  exact hJJ (b - (k+1)) _ _ (by omega) ⟨k+1,c,by omega,rfl,by simp [f0,fC],by simp [f1],by simp [f2],by simp,rfl,hpm,hI2 (.inr hcd)⟩
 clear hJJ
 (refine d_go ?_;simp [hnv,hcd];(refine hJ _ _ ?_;clear hJ J;simp only [ak,reduceIte]))
 (repeat' (first | refine qS ?_ | refine qB ?_ | (refine qK ?_;simp only [ak,reduceIte]) | (refine qC ?_;simp [])))
 (refine w_s [] [q] [(0,true),(1,true),(2,true),(3,true),(4,true),(5,true),(6,true),(7,true),(8,true),(9,true),(10,true),(11,true),(12,true),(13,true),(14,true),(15,false),(16,true),(17,false)] ?_;intro J hJ;simp [f0,fC,f1,f2,f6,f7,hw2,hjl,hjl1,hcl,hd,hd2];(repeat refine ca ?_);(refine hJ _ _ ?_;clear hJ J;simp only [ak,reduceIte]))
 (repeat' (refine w_e [] ?_;intro J hJ;simp only [];simp [f7,hw2];(refine hJ _ _ ?_;clear hJ J;simp only [ak,reduceIte])))
 exact hJ2 (j - 1) _ _ (by omega) ⟨j - 1,sw c j (j - 1),by omega,by omega,rfl,by simp [f0,fC],by simp [f1],by simp [f2],by simp [f6],by simp,bx_sw en ec st q c j (j - 1) (by omega) (by omega) hx hy,hpm1,hI1 hcd⟩
def Ahead (l:List Int) (a b:Nat):Prop:=0 < a→∀ j,a≤j→j < b→l.getD (a - 1) 0≤l.getD j 0
def Fin9 (a b a' b':Nat) (c:List Int):Prop:=∀ d,Pm a' b' c d→Srt a' b' d→Srt a b d
def PdI (fid:FuncId) (caps:List LV) (en:Int→Nat) (ec:Int→List LV) (q:Nat) (l:List Int) (st:St) (a b a' b':Nat) (wb wp:Bool) (lim n:Nat) (fr:Frm) (st2:St):Prop:=
 (fr 0=.ms q 0 l.length∧fr 4=.fn (.func fid) caps)∧fr 1=i a'∧fr 2=i b'∧fr 3=i lim∧fr 10=bb wb∧fr 11=bb wp∧fr 12=i n∧lim < 1000000∧q < st2.next∧OffS q st st2∧∃ c,st2.H q=.box 33 1 (ws en ec c)∧Pm a b l c∧Ahead c a' b'∧Fin9 a b a' b' c
theorem PdI.mk {fid:FuncId} {caps:List LV} {en:Int→Nat} {ec:Int→List LV} {q:Nat} {l:List Int} {st:St} {a b a' b':Nat} {wb wp:Bool} {lim n:Nat} {fr:Frm} {st2:St} {c:List Int} (f0:(fr 0=.ms q 0 l.length∧fr 4=.fn (.func fid) caps)) (f1:fr 1=i a') (f2:fr 2=i b') (f3:fr 3=i lim) (f8:fr 10=bb wb) (f9:fr 11=bb wp) (f10:fr 12=i n) (hlm:lim < 1000000) (hqn:q < st2.next) (ho:OffS q st st2) (hc:st2.H q=.box 33 1 (ws en ec c)) (hp:Pm a b l c) (ha:Ahead c a' b') (hf:Fin9 a b a' b' c):PdI fid caps en ec q l st a b a' b' wb wp lim n fr st2:=
 ⟨f0,f1,f2,f3,f8,f9,f10,hlm,hqn,ho,c,hc,hp,ha,hf⟩
set_option maxHeartbeats 4000000 in
theorem pdqsort_upto {fid:FuncId} {caps:List LV} {en:Int→Nat} {ec:Int→List LV} {Dm:Int→Prop} (hC:CmpW fid caps en ec Dm) (Z:Nat):∀ (l:List Int) (q a b lim:Nat) (st:St),(∀ x∈l,Dm x)→l.length≤12→a≤b→b≤l.length→b - a < Z→Ahead l a b→lim < 1000000→q < st.next→st.H q=.box 33 1 (ws en ec l)→
 ACalls Tryz.prog 115 [.ms q 0 l.length,i a,i b,i lim,.fn (.func fid) caps] st fun r st'=>∃ c,st'.H q=.box 33 1 (ws en ec c)∧Pm a b l c∧Srt a b c∧OffS q st st':=by
 induction Z with
 | zero=>intro l q a b lim st _ _ _ _ h;omega
 | succ Z ih=>
 intro l q a b lim st hD hl hab hb hZ hah hlim hqn hH
 have hsm:small l:=by unfold small;omega
 refine qO tabOk Tryz.func115 rfl rfl Tryz.ntmps115 (rs:=[]) rfl (by simp) ?_
 (repeat' (first | refine qS ?_ | refine qB ?_ | (refine w_e [] ?_;intro J hJ;simp only [];simp [];(refine hJ _ _ ?_;clear hJ J;simp only [ak,reduceIte]))))
 refine qL (fun z fr st2=>∃ (a' b' lim:Nat) (wb wp:Bool) (n:LV),a≤a'∧a'≤b'∧b'≤b∧z=b' - a'∧PdI fid caps en ec q l st a b a' b' wb wp lim 0 (upd fr 12 (i (0:Nat))) st2) (b - a) ?_ ?_
 ·refine ⟨a,b,lim,true,true,.nil,by omega,by omega,by omega,rfl,?_⟩
  exact PdI.mk (by simp) (by simp) (by simp) (by simp) (by simp) (by simp) (by simp) hlim hqn (.refl _ _) hH .refl hah fun d h1 h2=>h2
 rintro z fr st2 ⟨a',b',lim,wb,wp,-,ha1,ha2,hb2,rfl,⟨f0,fC⟩,f1,f2,f3,f8,f9,-,hlm,hqn2,hof,c,hc,hpm,hah2,hfin⟩ JJ hJJ
 rw [upd_at,if_neg (by omega)] at f0 fC f1 f2 f3 f8 f9
 have hcl:=hpm.len
 have hDc:=dm_pm hD hpm
 have hsc:small c:=by unfold small;omega
 obtain ⟨n,hn⟩:∃ n:Nat,n=b' - a':=⟨_,rfl⟩
 have w1:IntKind.i64.wrap ((b':Int) - (a':Int))=(n:Int):=by rw [wrap_i64 _ (by omega) (by omega)];omega
 refine qB ?_
 (repeat' (first | refine qS ?_ | (refine w_e [] ?_;intro J hJ;simp only [];simp [f1,f2,w1];(refine hJ _ _ ?_;clear hJ J;simp only [ak,reduceIte]))))
 by_cases hn12:(n:Int)≤12
 ·clear hJJ
  refine qC ?_;simp [hn12]
  (repeat' (first | refine qS ?_ | (refine w_e [] ?_;intro J hJ;simp only [];simp [f0,fC,f1,f2])))
  refine qE (insertionSort hC c q a' b' st2 (by first | assumption | exact dm_pm hD ‹Pm _ _ l c›) hsc (by omega) (by omega) hc) (by simp [f0,fC,f1,f2,hcl]) ?_;rintro r st' ⟨d,rfl,k1,k2⟩
  (repeat' (first | (refine qR ?_;simp only [ak,reduceIte];simp []) | (refine e_go ?_;simp [];(refine hJ _ _ ?_;clear hJ J;simp only [ak,reduceIte]))))
  exact ⟨d,rfl,hpm.trans (k1.wide (by omega) (by omega) (by omega)),hfin d k1 k2,hof.set _⟩
 exact absurd (show (n:Int)≤12 by omega) hn12
theorem SortW {fid:FuncId} {caps:List LV} {en:Int→Nat} {ec:Int→List LV} {Dm:Int→Prop} (hC:CmpW fid caps en ec Dm) (l:List Int) (q:Nat) (st:St) (hD:∀ x∈l,Dm x) (hl:l.length≤12) (hqn:q < st.next) (hH:st.H q=.box 33 1 (ws en ec l)):
 ACalls Tryz.prog 86 [.ms q 0 l.length,.fn (.func fid) caps] st fun r st'=>∃ c,st'.H q=.box 33 1 (ws en ec c)∧c.Perm l∧c.Pairwise (·≤·)∧OffS q st st':=by
 have w1:IntKind.u64.wrap (l.length:Int)=(l.length:Int):=wrap_u64 _ (by omega) (by omega)
 have hbl:=(blen_at l.length (by omega)).1
 refine qO tabOk Tryz.func86 rfl rfl Tryz.ntmps86 (rs:=[]) rfl (by simp) ?_
 (repeat' (first | refine qS ?_ | (refine w_e [] ?_;intro J hJ;simp only [];simp [w1];(try (refine hJ _ _ ?_;clear hJ J;simp only [ak,reduceIte])))))
 refine qF (Len l.length _ (by omega)) ?_;rintro r st' ⟨rfl,rfl⟩
 (repeat' (refine e_go ?_;simp []))
 refine qE (pdqsort_upto hC (l.length+1) l q 0 l.length (blen l.length) _ hD hl (by omega) (by omega) (by omega) (fun h=>absurd h (by omega)) (by omega) hqn hH) (by simp []) ?_;rintro r st' ⟨c,k1,k2,k3,k4⟩
 (repeat' (refine e_go ?_;simp [];(refine hJ _ _ ?_;clear hJ J;simp only [ak,reduceIte])))
 have hcl:=k2.len
 exact ⟨trivial,c,k1,k2.perm,srt_pair (by rw [hcl];exact k3),k4⟩
end Go.Proofs.YtiiejclelbilkaaGreatDoor.Aw.CB
namespace Go.Proofs.YtiiejclelbilkaaGreatDoor.Aw
open Go Go.RowKit
set_option linter.unusedSimpArgs false
set_option linter.unusedVariables false
theorem below_ext {w w':World} (g:G) (h:Below w.heap.size w w'):Ext w g w' g:=
 ⟨h.os,h.tape,h.output,h.size,Nat.le_refl _,fun _ _=>rfl,fun _ _=>rfl,fun _ _=>rfl,fun b hb hn=>⟨hn,h.block b hb⟩,fun b k hb hk=>⟨k,hk,Nat.le_refl _,fun o _=>World.cell?_of_block (w:=w) (h.block b hb)⟩⟩
theorem inv_below {w w':World} {g:G} {st:St} (hi:Inv w g st) (h:Below w.heap.size w w'):Inv w' g st:=by
 have he':=below_ext g h
 refine ⟨hi.next,hi.pos,hi.fresh,fun l hl=>Nat.lt_of_lt_of_le (hi.lt l hl) h.size,hi.inj,?_,?_,?_,?_,hi.aside.keep he' fun _ _=>rfl⟩
 ·intro l e s n hl
  obtain ⟨h1,h2,h3,h4⟩:=hi.own l e s n hl
  refine ⟨h1,h2,h3,fun hnl=>?_⟩
  obtain ⟨cur,k1,k2,k3⟩:=h4 hnl
  exact ⟨cur,by rw [h.block _ (Array.getElem?_eq_some_iff.1 k1).1];exact k1,k2,k3⟩
 ·intro l e s cs hl
  obtain ⟨h1,h2,h3⟩:=hi.box l e s cs hl
  refine ⟨h1,h2,fun hnl=>?_⟩
  obtain ⟨cur,k1,k2,k3,k4,k5⟩:=h3 hnl
  exact ⟨cur,by rw [h.block _ (Array.getElem?_eq_some_iff.1 k1).1];exact k1,k2,k3,RepL.mono he' _ _ k4,k5⟩
 ·intro l ag ks es hl
  have hm:=hi.mp l ag ks es hl
  exact hm.keep he' (hi.map_lt hl) (h.block _ hm.blk_lt) rfl
 ·intro l e n hl
  have hm:=hi.qu l e n hl
  exact hm.keep he' (hi.que_lt hl) (h.block _ hm.blk_lt) rfl
theorem adopt_row {w w':World} {g:G} {st:St} (hi:Inv w g st) (h:Below w.heap.size w w') {e:TypeId} {v:Value} {zs:List Value} {cs:List LV} (hrow:w'.ownsRow w.heap.size e 1 v zs.length zs) (hr:∀ w g,RepL w g cs zs):
 ∃ g',Rep w' g' (.ms st.next 0 zs.length) v∧Inv w' g' (st.new (.box e 1 cs))∧Ext w g w' g':=by
 have hi':=inv_below hi h
 have hcl:cs.length=zs.length:=repL_length _ _ (hr w g)
 rcases hrow.2 with ⟨rfl,hn⟩ | ⟨b,cap,cur,rfl,hb,hcur,h1,h2,h3,h4⟩
 ·have hcs:cs=[]:=List.eq_nil_of_length_eq_zero (by omega)
  subst hcs
  refine ⟨g.addNil,?_,inv_nil hi' _ (.inr ⟨_,_,rfl⟩),(below_ext g h).trans (ext_nil w' g)⟩
  simp only [Rep,hn]
  exact ⟨none,0,rfl,Nat.le_refl _,Nat.zero_le _,by simp [G.addNil,hi.next],by simp,by simp [G.addNil,hi.next]⟩
 ·have hnx:=hi.next
  have hext:Ext w g w' (g.add b 0 cap false):=by
   refine ⟨h.os,h.tape,h.output,h.size,Nat.le_succ _,?_,?_,?_,?_,?_⟩
   ·intro l hl;simp [G.add,Nat.ne_of_lt hl]
   ·intro l hl;simp [G.add,Nat.ne_of_lt hl]
   ·intro l hl;simp [G.add,Nat.ne_of_lt hl]
   ·intro x hx hn;exact ⟨by simp only [G.add];rw [if_neg (by omega)];exact hn,h.block x hx⟩
   ·intro x k hx hk;exact ⟨k,by simp only [G.add];rw [if_neg (by omega)];exact hk,Nat.le_refl _,fun o _=>World.cell?_of_block (w:=w) (h.block x hx)⟩
  have hold:∀ l,blk g st l→g.β l≠b:=fun l hl=>by have:=hi.lt l hl;omega
  have hblt:b < w'.heap.size:=(Array.getElem?_eq_some_iff.1 hcur).1
  refine ⟨g.add b 0 cap false,?_,?_,hext⟩
  ·simp only [Rep,G.add,hnx,if_pos]
   exact ⟨_,cap,rfl,h1,h2,fun _=>⟨rfl,fun _=>rfl⟩,fun _=>rfl,Nat.lt_succ_self _⟩
  ·refine ⟨by simp [G.add,St.new,hnx],by simp [St.new],?_,?_,?_,?_,?_,?_,?_,hi.aside.keep hext (frz_new rfl)⟩
   ·intro l hl
    simp only [St.new] at hl ⊢
    rw [if_neg (by omega)]
    exact hi.fresh l (by omega)
   ·intro l hl
    by_cases e0:l=st.next
    ·subst e0;simp [G.add,hnx,hblt]
    ·rw [blk_old hnx e0] at hl
     have:=hi'.lt l hl
     simp only [G.add,hnx,if_neg e0];exact this
   ·intro l l' hl hl' hbb
    by_cases e0:l=st.next<;>by_cases e1:l'=st.next
    ·omega
    ·rw [blk_old hnx e1] at hl'
     simp only [G.add,hnx,if_pos e0,if_neg e1] at hbb
     exact absurd hbb.symm (hold l' hl')
    ·rw [blk_old hnx e0] at hl
     simp only [G.add,hnx,if_pos e1,if_neg e0] at hbb
     exact absurd hbb (hold l hl)
    ·rw [blk_old hnx e0] at hl
     rw [blk_old hnx e1] at hl'
     simp only [G.add,hnx,if_neg e1,if_neg e0] at hbb
     exact hi.inj l l' hl hl' hbb
   ·intro l e' s n hl
    by_cases e0:l=st.next
    ·simp [St.new,e0] at hl
    ·simp only [St.new,if_neg e0] at hl
     obtain ⟨q1,q2,q3,q4⟩:=hi'.own l e' s n hl
     simp only [G.add,hnx,if_neg e0]
     refine ⟨q1,q2,q3,fun hnl=>?_⟩
     obtain ⟨c',k1,k2,k3⟩:=q4 hnl
     have hne:=hold l (by unfold blk;rw [hl];exact hnl)
     exact ⟨c',k1,k2,by rw [if_neg hne];exact k3⟩
   ·intro l e' s' cs' hl
    by_cases e0:l=st.next
    ·simp only [St.new,if_pos e0] at hl
     injection hl with a1 a2 a3
     subst a1 a2 a3
     refine ⟨?_,?_,fun _=>⟨cur.toList,?_,?_,?_,?_,?_⟩⟩
     ·simp only [G.add,hnx,if_pos e0];exact h2
     ·simp [G.add,hnx,e0]
     ·simp only [G.add,hnx,if_pos e0];simpa using hcur
     ·simp only [G.add,hnx,if_pos e0];simpa using h3
     ·simp only [Array.length_toList];omega
     ·have:cur.toList.take cs.length=zs:=by rw [hcl];simpa using h4
      rw [this];exact hr _ _
     ·simp [G.add,hnx,e0]
    ·simp only [St.new,if_neg e0] at hl
     obtain ⟨k3,k0,k'⟩:=hi'.box l e' s' cs' hl
     refine ⟨?_,?_,fun hnl=>?_⟩
     ·simp only [G.add,hnx,if_neg e0];exact k3
     ·simp only [G.add,hnx,if_neg e0];exact k0
     simp only [G.add,hnx,if_neg e0] at hnl
     obtain ⟨cur',k1,k2,k4,k5,k6⟩:=k' hnl
     have hne:=hold l (by unfold blk;rw [hl];exact hnl)
     obtain ⟨_,_,k'⟩:=hi.box l e' s' cs' hl
     obtain ⟨cur2,m1,m2,m4,m5,m6⟩:=k' hnl
     have hlt:=(Array.getElem?_eq_some_iff.1 m1).1
     refine ⟨cur2,?_,?_,m4,RepL.mono hext _ _ m5,?_⟩
     ·simp only [G.add,hnx,if_neg e0];rw [h.block _ hlt];exact m1
     ·simp only [G.add,hnx,if_neg e0];exact m2
     ·simp only [G.add,hnx,if_neg e0];rw [if_neg hne];exact m6
   ·intro l ag ks es hl
    by_cases e0:l=st.next
    ·simp [St.new,e0] at hl
    ·simp only [St.new,if_neg e0] at hl
     have hm:=hi.mp l ag ks es hl
     exact hm.keep hext (hi.map_lt hl) (h.block _ hm.blk_lt) (by simp only [G.add];rw [if_neg (hold l (hi.map_blk hl))])
   ·intro l e' n hl
    by_cases e0:l=st.next
    ·simp [St.new,e0] at hl
    ·simp only [St.new,if_neg e0] at hl
     have hm:=hi.qu l e' n hl
     exact hm.keep hext (hi.que_lt hl) (h.block _ hm.blk_lt) (by simp only [G.add];rw [if_neg (hold l (hi.que_blk hl))])
theorem repL_us (w:World) (g:G):∀ l:List Int,RepL w g (us l) (l.map (Value.int .u32))
 | []=>by simp [RepL]
 | a::l=>by simp only [List.map_cons,RepL,Rep];exact ⟨_,_,rfl,rfl,repL_us w g l⟩
theorem us_vals {w:World} {g:G}:∀ (l:List Int) (ws:List Value),RepL w g (us l) ws→ws=l.map (Value.int .u32)
 | [],ws,h=>by simpa [RepL] using h
 | a::l,ws,h=>by
   simp only [List.map_cons,RepL,Rep] at h
   obtain ⟨v,ws',rfl,rfl,h2⟩:=h
   rw [us_vals l ws' h2];rfl
theorem Collect (l:List Int) (x:LV) (q:Nat) (st:St) (hl:l.length≤1048576) (hH:st.H q=.box 25 1 [x]) (hx:srcT tab 25 st x=some (l.length,us l)):
 ACalls Tryz.prog 93 [.fn (.func 139) [.pt q 0]] st fun r st'=>r=.ms st.next 0 l.length∧st'=st.new (.box 26 1 (us l)):=by
 refine ⟨enters_of Tryz.func93 (by kernel_rfl) rfl,fun w g vs hi hr=>?_⟩
 simp only [RepL,Rep] at hr
 obtain ⟨v,_,rfl,⟨us1,rfl,v1,_,rfl,⟨rfl,hq⟩,rfl⟩,rfl⟩:=hr
 obtain ⟨_,b2,b3⟩:=hi.box q _ _ _ hH
 have hnl:g.nl q=false:=by
  cases hn:g.nl q with
  | false=>rfl
  | true=>obtain ⟨_,h⟩:=b2 hn;cases h
 obtain ⟨cur,k1,k2,k3,k4,k5⟩:=b3 hnl
 simp only [List.length_cons,List.length_nil,Nat.zero_add,RepL] at k4 k3
 obtain ⟨sv,rest,hsv,hrep,_⟩:=k4
 have hc0:w.cell? ⟨g.β q,0,none⟩=some sv:=by
  rw [cell_of_row w _ _ _ _ _ k1]
  cases cur with
  | nil=>simp at k3
  | cons a cur=>simp at hsv;simp [hsv.1]
 have hI:Rg.Ints w.heap.size w sv l:=by
  obtain ⟨A,cap,rfl,hrw⟩:=src_sound hi hx hrep
  by_cases hl0:l=[]
  ·subst hl0;exact .inl ⟨rfl,A,cap,rfl⟩
  ·obtain ⟨b,o,ws,rfl,m1,m2⟩:=hrw (by cases l with | nil=>exact absurd rfl hl0 | cons a l=>simp)
   have hws:=us_vals l ws m1
   refine .inr ⟨b,o,cap,rfl,?_,fun j hj=>?_⟩
   ·have h0:=m2 0 (by cases l with | nil=>exact absurd rfl hl0 | cons a l=>simp)
    rw [hws] at h0
    cases l with
    | nil=>exact absurd rfl hl0
    | cons a l=>exact cell_lt (a:=⟨b,o+0,none⟩) (v:=.int .u32 a) (by simpa using h0)
   ·rw [m2 j (by simpa using hj),hws]
    simp [hj]
 refine (((Rg.collect_in Fence.wide 4 trivial trivial trivial rfl (Nat.le_refl _) (g.β q) sv l hl w (cell_lt hc0) hc0 hI).calls room_wide)).mono ?_
 rintro e w' ⟨v,rfl,hrow,hbel⟩
 have hlen:l.length=(l.map (Value.int .u32)).length:=by simp
 rw [hlen] at hrow
 obtain ⟨g',h1,h2,h3⟩:=adopt_row (cs:=us l) hi hbel hrow (fun w g=>repL_us w g l)
 rw [← hlen] at h1
 exact ⟨v,_,_,g',rfl,⟨rfl,rfl⟩,h1,h2,h3⟩
def prim:XCall:=fun f args st=>if f=93 then match args with
 | [.fn (.func g) [.pt q 0]]=>if g=139 then match st.H q with
     | .box e s [x]=>if e=25∧s=1 then match srcT tab 25 st x with
        | some (n,ds)=>match intsL ds with
          | some (ks,ns)=>if (ks.all fun k=>decide (k=.u32))=true∧ns.length=n∧n≤1048576 then some [(.ms st.next 0 n,st.new (.box 26 1 (us ns)))] else none
          | none=>none
        | none=>none
       else none
     | _=>none
   else none
 | _=>none
 else none
theorem intsL_us:∀ (ds:List LV) (ks:List IntKind) (ns:List Int),intsL ds=some (ks,ns)→(ks.all fun k=>decide (k=.u32))=true→ds=us ns
 | [],ks,ns,h,_=>by simp only [intsL,Option.some.injEq,Prod.mk.injEq] at h;obtain ⟨rfl,rfl⟩:=h;rfl
 | c::ds,ks,ns,h,ha=>by
   cases c with
   | atom x=>
     cases x with
     | int k n=>
       simp only [intsL] at h
       cases hi:intsL ds with
       | none=>simp [hi] at h
       | some p=>
         obtain ⟨ks',ns'⟩:=p
         simp only [hi,Option.some.injEq,Prod.mk.injEq] at h
         obtain ⟨rfl,rfl⟩:=h
         simp only [List.all_cons,Bool.and_eq_true,decide_eq_true_eq] at ha
         obtain ⟨rfl,ha⟩:=ha
         rw [intsL_us ds ks' ns' hi ha];rfl
     | _=>simp [intsL] at h
   | _=>simp [intsL] at h
theorem prim_ok:CallOk Tryz.prog prim:=by
 intro f args st rs h
 unfold prim at h
 split at h
 ·rename_i hf
  subst hf
  split at h
  ·rename_i g q
   split at h
   ·rename_i hg
    subst hg
    split at h
    ·rename_i e s x hH
     split at h
     ·rename_i hes
      obtain ⟨rfl,rfl⟩:=hes
      split at h
      ·rename_i n ds hsrc
       split at h
       ·rename_i ks ns hin
        split at h
        ·rename_i hc
         obtain ⟨c1,rfl,c3⟩:=hc
         injection h with h
         subst h
         have:=intsL_us ds ks ns hin c1
         subst this
         exact (Collect ns x q st c3 hH hsrc).mono (by rintro r st' ⟨rfl,rfl⟩;simp)
        ·cases h
       ·cases h
      ·cases h
     ·cases h
    ·cases h
   ·cases h
  ·cases h
 ·cases h
theorem awake10 (st:St):ACalls Tryz.prog 67 [] st fun r st'=>r=bb true∧st'=st:=
 acalls_closed tabOk fnsOk prim_ok mixed 1000000 true (by kernel_rfl)
theorem awake13 (st:St):ACalls Tryz.prog 68 [] st fun r st'=>r=bb true∧st'=st:=
 acalls_closed tabOk fnsOk prim_ok mixed 1000000 true (by kernel_rfl)
end Go.Proofs.YtiiejclelbilkaaGreatDoor.Aw
