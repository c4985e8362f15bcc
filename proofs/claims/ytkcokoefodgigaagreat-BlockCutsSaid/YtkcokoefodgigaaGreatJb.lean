/- The library's sort: partition. Written by gensort.py. -/
import Derived.Test.YtkcokoefodgigaaGreatJa
namespace Go.Proofs.YtkcokoefodgigaaGreat.Aw.CB
open Go Go.RowKit Go.Proofs.YtkcokoefodgigaaGreat.Pl
set_option linter.unusedSimpArgs false
set_option linter.unusedVariables false
def StU (P:Int→Bool) (c:List Int) (ii jj:Nat):Prop:=ii≤jj→P (c.getD ii 0)=false
def StD (P:Int→Bool) (c:List Int) (ii kk:Nat):Prop:=ii≤kk→P (c.getD kk 0)=true
theorem partition {fid:FuncId} {caps:List LV} {en:Int→Nat} {ec:Int→List LV} {Dm:Int→Prop} (hC:CmpW fid caps en ec Dm) (l:List Int) (q a b pv:Nat) (st:St) (hD:∀ x∈l,Dm x) (hl:small l) (hab:a < b) (hb:b≤l.length) (hp1:a≤pv) (hp2:pv < b) (hH:st.H q=.box 23 1 (ws en ec l)):
 ACalls Tryz.prog 55 [.ms q 0 l.length,i a,i b,i pv,.fn (.func fid) caps] st fun r st'=>∃ (c:List Int) (mid:Nat) (p:Bool),r=.tu [i mid,bb p]∧st'=bx en ec st q c∧Pm a b l c∧a≤mid∧mid < b∧PartedAt c a mid b:=by
 unfold small at hl
 refine qO tabOk Tryz.func55 rfl rfl Tryz.ntmps55 (rs:=[.tmp 10,.tmp 11]) rfl (by simp) ?_
 (repeat (refine qS ?_));(refine w_e [] ?_;intro J hJ;simp only [];simp [];(repeat refine ca ?_);(try ((try with_reducible refine ⟨?_,?_⟩)<;>(try with_reducible intro hnil)<;>refine hJ _ _ ?_<;>clear hJ J<;>simp only [ak,reduceIte]<;>try subst hnil)))
 have hla:a < l.length:=by omega
 have hlp:pv < l.length:=by omega
 have hsw:=fun x y=>bx_sw' en ec st q l a pv (x:=x) (y:=y) (by omega) (by omega)
 have hd0:=ws_drop en ec l a (by omega)
 have hd1:=ws_drop en ec l pv (by omega)
 have hpm:Pm a b l (sw l a pv):=Pm.one a pv (by omega) (by omega) (by omega) (by omega) (by omega)
 have hx:(sw l a pv).getD a 0=l.getD pv 0:=by
  rw [sw_get _ _ _ _ (by omega) (by omega)]
  by_cases e:a=pv
  ·rw [if_pos e,e]
  ·rw [if_neg e,if_pos rfl]
 generalize hy0:l.getD a 0=y0 at *
 generalize hy1:l.getD pv 0=x at *
 have hsw':=hsw y0 x rfl rfl
 (repeat (refine qS ?_));(refine w_s [] [q] [(0,true),(1,true),(2,true),(3,true),(4,true),(5,true),(6,true),(7,true),(8,true),(9,true),(10,true),(11,true),(12,true),(13,false),(14,true),(15,false)] ?_;intro J hJ;simp [hH,hla,hlp,hd0,hd1];(repeat refine ca ?_);(try ((try with_reducible refine ⟨?_,?_⟩)<;>(try with_reducible intro hnil)<;>refine hJ _ _ ?_<;>clear hJ J<;>simp only [ak,reduceIte]<;>try subst hnil)))
 rw [hsw']
 clear hsw hsw' hd0 hd1 hy0
 generalize hc:sw l a pv=c at *
 clear hc
 have hcl:=hpm.len
 have hDc:=dm_pm hD hpm
 have w1:=qN a (by omega)
 have w2:=nat_sub_one b (by omega) (by omega)
 obtain ⟨P,hPd⟩:∃ P:Int→Bool,∀ v,P v=decide (v < x):=⟨_,fun _=>rfl⟩
 refine qS ?_
 refine awp_cut1 (fun fr st2=>(fr 0=.ms q 0 l.length∧fr 4=.fn (.func fid) caps)∧fr 1=i a∧fr 12=i ((a+1:Nat):Int)∧fr 13=i ((b - 1:Nat):Int)∧st2=bx en ec st q c) (by (refine w_e [] ?_;intro J hJ;simp only [];simp [w1,w2];(repeat refine ca ?_);(try ((try with_reducible refine ⟨?_,?_⟩)<;>(try with_reducible intro hnil)<;>refine hJ _ _ ?_<;>clear hJ J<;>simp only [ak,reduceIte]<;>try subst hnil)));simp) ?_
 rintro fr st2 ⟨⟨f0,fC⟩,f1,fI,fJ,rfl⟩
 have hai:a < a+1:=by omega
 have hij:a+1≤b - 1+1:=by omega
 have hjb:b - 1 < b:=by omega
 have hLo:Lo P c a (a+1):=fun p h1 h2=>by omega
 have hHi:Hi P c (b - 1) b:=fun p h1 h2=>by omega
 generalize a+1=ii at *
 generalize b - 1=jj at *
 clear w1 w2
 have hd0:=ws_drop en ec c a (by omega)
 rw [hx] at hd0
 refine qS ?_
 refine awp_cut1 (fun fr st2=>∃ ii:Nat,a < ii∧ii≤jj+1∧(fr 0=.ms q 0 l.length∧fr 4=.fn (.func fid) caps)∧fr 1=i a∧fr 12=i ii∧fr 13=i jj∧st2=bx en ec st q c∧Lo P c a ii∧StU P c ii jj) ?_ ?_
 ·refine qB ?_
  refine qL (fun m fr st2=>∃ ii:Nat,a < ii∧ii≤jj+1∧m=jj+1 - ii∧(fr 0=.ms q 0 l.length∧fr 4=.fn (.func fid) caps)∧fr 1=i a∧fr 12=i ii∧fr 13=i jj∧st2=bx en ec st q c∧Lo P c a ii) (jj+1 - ii) ?_ ?_
  ·exact ⟨ii,by omega,by omega,rfl,by simp [f0,fC],by simp [f1],by simp [fI],by simp [fJ],rfl,hLo⟩
  clear f0 fC f1 fI fJ hLo hai hij fr ii
  rintro m fr st2 ⟨ii,hai,hij,rfl,⟨f0,fC⟩,f1,fI,fJ,rfl,hLo⟩ JJ hJJ
  have hia:=qN ii (by omega)
  by_cases hle:ii≤jj
  rotate_left
  ·clear hJJ
   (repeat (refine qS ?_));(refine w_s [] [q] [(0,true),(1,true),(2,true),(3,true),(4,true),(5,true),(6,true),(7,true),(8,true),(9,true),(10,true),(11,true),(12,true),(13,false),(14,true),(15,true)] ?_;intro J hJ;simp [f0,fC,f1,fI,fJ,hle];(repeat refine ca ?_);(try ((try with_reducible refine ⟨?_,?_⟩)<;>(try with_reducible intro hnil)<;>refine hJ _ _ ?_<;>clear hJ J<;>simp only [ak,reduceIte]<;>try subst hnil)))
   (repeat' (first | refine qS ?_ | refine qB ?_ | ((first | refine qK ?_ | refine qX ?_);simp only [ak,reduceIte]) | (refine qR ?_;simp only [ak,reduceIte];simp []) | (refine qC ?_;simp [];(try with_reducible refine ⟨?_,?_⟩)<;>(try with_reducible intro hc)<;>try (exfalso;omega)) | ((first | (refine w_e [] ?_;intro J hJ;simp only []) | (refine w_q ?_;intro J hJ) | refine e_go ?_);simp [];(repeat refine ca ?_);(try ((try with_reducible refine ⟨?_,?_⟩)<;>(try with_reducible intro hnil)<;>refine hJ _ _ ?_<;>clear hJ J<;>simp only [ak,reduceIte]<;>try subst hnil)))))
   exact ⟨trivial,ii,by omega,by omega,by simp [f0,fC],by simp [f1],by simp [fI],by simp [fJ],by trivial,hLo,fun h=>absurd h hle⟩
  have hli:ii < l.length:=by omega
  have hd1:=ws_drop en ec c ii (by omega)
  have hmo:=hLo.more
  generalize hy:c.getD ii 0=y at *
  (repeat (refine qS ?_));(refine w_s [] [q] [(0,true),(1,true),(2,true),(3,true),(4,true),(5,true),(6,true),(7,true),(8,true),(9,true),(10,true),(11,true),(12,true),(13,false),(14,true),(15,true)] ?_;intro J hJ;simp [f0,fC,f1,fI,fJ,hle,hli,hla,hcl,hd0,hd1];(repeat refine ca ?_);(try ((try with_reducible refine ⟨?_,?_⟩)<;>(try with_reducible intro hnil)<;>refine hJ _ _ ?_<;>clear hJ J<;>simp only [ak,reduceIte]<;>try subst hnil)))
  refine dcallK_of (hC.call y x _ (by first | assumption | (subst_vars;exact dm_get (by assumption) (by omega))) (by first | assumption | (subst_vars;exact dm_get (by assumption) (by omega)))) ?_;rintro r s2 ⟨⟨nv,rfl,hnv⟩,rfl⟩
  refine ⟨fun _=>by simp,?_⟩
  have hP:=hPd y
  by_cases hyx:y < x
  ·(refine d_go ?_;simp [hnv,hyx];(repeat refine ca ?_);(try ((try with_reducible refine ⟨?_,?_⟩)<;>(try with_reducible intro hnil)<;>refine hJ _ _ ?_<;>clear hJ J<;>simp only [ak,reduceIte]<;>try subst hnil)))
   (repeat' (first | refine qS ?_ | refine qB ?_ | ((first | refine qK ?_ | refine qX ?_);simp only [ak,reduceIte]) | (refine qR ?_;simp only [ak,reduceIte];simp [fI,hia]) | (refine qC ?_;simp [fI,hia];(try with_reducible refine ⟨?_,?_⟩)<;>(try with_reducible intro hc)<;>try (exfalso;omega)) | ((first | (refine w_e [] ?_;intro J hJ;simp only []) | (refine w_q ?_;intro J hJ) | refine e_go ?_);simp [fI,hia];(repeat refine ca ?_);(try ((try with_reducible refine ⟨?_,?_⟩)<;>(try with_reducible intro hnil)<;>refine hJ _ _ ?_<;>clear hJ J<;>simp only [ak,reduceIte]<;>try subst hnil)))))
   exact hJJ (jj+1 - (ii+1)) _ _ (by omega) ⟨ii+1,by omega,by omega,rfl,by simp [f0,fC],by simp [f1],by simp,by simp [fJ],rfl,hmo (by rw [hP];simp [hyx])⟩
  ·clear hJJ
   (refine d_go ?_;simp [hnv,hyx];(repeat refine ca ?_);(try ((try with_reducible refine ⟨?_,?_⟩)<;>(try with_reducible intro hnil)<;>refine hJ _ _ ?_<;>clear hJ J<;>simp only [ak,reduceIte]<;>try subst hnil)))
   (repeat' (first | refine qS ?_ | refine qB ?_ | ((first | refine qK ?_ | refine qX ?_);simp only [ak,reduceIte]) | (refine qR ?_;simp only [ak,reduceIte];simp []) | (refine qC ?_;simp [];(try with_reducible refine ⟨?_,?_⟩)<;>(try with_reducible intro hc)<;>try (exfalso;omega)) | ((first | (refine w_e [] ?_;intro J hJ;simp only []) | (refine w_q ?_;intro J hJ) | refine e_go ?_);simp [];(repeat refine ca ?_);(try ((try with_reducible refine ⟨?_,?_⟩)<;>(try with_reducible intro hnil)<;>refine hJ _ _ ?_<;>clear hJ J<;>simp only [ak,reduceIte]<;>try subst hnil)))))
   exact ⟨trivial,ii,by omega,by omega,by simp [f0,fC],by simp [f1],by simp [fI],by simp [fJ],by trivial,hLo,fun _=>by rw [hy,hP];simp [hyx]⟩
 clear f0 fC f1 fI fJ hLo hai hij fr ii
 rintro fr st2 ⟨ii,hai,hij,⟨f0,fC⟩,f1,fI,fJ,rfl,hLo,hst⟩
 refine qS ?_
 refine awp_cut1 (fun fr st2=>∃ kk:Nat,a≤kk∧kk≤jj∧ii≤kk+1∧(fr 0=.ms q 0 l.length∧fr 4=.fn (.func fid) caps)∧fr 1=i a∧fr 12=i ii∧fr 13=i kk∧st2=bx en ec st q c∧Hi P c kk b∧StD P c ii kk) ?_ ?_
 ·refine qB ?_
  refine qL (fun m fr st2=>∃ kk:Nat,a≤kk∧kk≤jj∧ii≤kk+1∧kk=m∧(fr 0=.ms q 0 l.length∧fr 4=.fn (.func fid) caps)∧fr 1=i a∧fr 12=i ii∧fr 13=i kk∧st2=bx en ec st q c∧Hi P c kk b) jj ?_ ?_
  ·exact ⟨jj,by omega,by omega,by omega,rfl,by simp [f0,fC],by simp [f1],by simp [fI],by simp [fJ],rfl,hHi⟩
  clear f0 fC f1 fI fJ hHi fr
  rintro m fr st2 ⟨kk,hak,hkj,hik,rfl,⟨f0,fC⟩,f1,fI,fJ,rfl,hHi⟩ JJ hJJ
  by_cases hle:ii≤kk
  rotate_left
  ·clear hJJ
   (repeat (refine qS ?_));(refine w_s [] [q] [(0,true),(1,true),(2,true),(3,true),(4,true),(5,true),(6,true),(7,true),(8,true),(9,true),(10,true),(11,true),(12,true),(13,false),(14,true),(15,true),(16,true)] ?_;intro J hJ;simp [f0,fC,f1,fI,fJ,hle];(repeat refine ca ?_);(try ((try with_reducible refine ⟨?_,?_⟩)<;>(try with_reducible intro hnil)<;>refine hJ _ _ ?_<;>clear hJ J<;>simp only [ak,reduceIte]<;>try subst hnil)))
   (repeat' (first | refine qS ?_ | refine qB ?_ | ((first | refine qK ?_ | refine qX ?_);simp only [ak,reduceIte]) | (refine qR ?_;simp only [ak,reduceIte];simp []) | (refine qC ?_;simp [];(try with_reducible refine ⟨?_,?_⟩)<;>(try with_reducible intro hc)<;>try (exfalso;omega)) | ((first | (refine w_e [] ?_;intro J hJ;simp only []) | (refine w_q ?_;intro J hJ) | refine e_go ?_);simp [];(repeat refine ca ?_);(try ((try with_reducible refine ⟨?_,?_⟩)<;>(try with_reducible intro hnil)<;>refine hJ _ _ ?_<;>clear hJ J<;>simp only [ak,reduceIte]<;>try subst hnil)))))
   exact ⟨trivial,kk,by omega,by omega,by omega,by simp [f0,fC],by simp [f1],by simp [fI],by simp [fJ],by trivial,hHi,fun h=>absurd h hle⟩
  have hja:=nat_sub_one kk (by omega) (by omega)
  have hlj:kk < l.length:=by omega
  have hd1:=ws_drop en ec c kk (by omega)
  have hmo:=hHi.more
  generalize hy:c.getD kk 0=y at *
  (repeat (refine qS ?_));(refine w_s [] [q] [(0,true),(1,true),(2,true),(3,true),(4,true),(5,true),(6,true),(7,true),(8,true),(9,true),(10,true),(11,true),(12,true),(13,false),(14,true),(15,true),(16,true)] ?_;intro J hJ;simp [f0,fC,f1,fI,fJ,hle,hlj,hla,hcl,hd0,hd1];(repeat refine ca ?_);(try ((try with_reducible refine ⟨?_,?_⟩)<;>(try with_reducible intro hnil)<;>refine hJ _ _ ?_<;>clear hJ J<;>simp only [ak,reduceIte]<;>try subst hnil)))
  refine dcallK_of (hC.call y x _ (by first | assumption | (subst_vars;exact dm_get (by assumption) (by omega))) (by first | assumption | (subst_vars;exact dm_get (by assumption) (by omega)))) ?_;rintro r s2 ⟨⟨nv,rfl,hnv⟩,rfl⟩
  refine ⟨fun _=>by simp,?_⟩
  have hP:=hPd y
  by_cases hyx:y < x
  ·clear hJJ
   (refine d_go ?_;simp [hnv,hyx];(repeat refine ca ?_);(try ((try with_reducible refine ⟨?_,?_⟩)<;>(try with_reducible intro hnil)<;>refine hJ _ _ ?_<;>clear hJ J<;>simp only [ak,reduceIte]<;>try subst hnil)))
   (repeat' (first | refine qS ?_ | refine qB ?_ | ((first | refine qK ?_ | refine qX ?_);simp only [ak,reduceIte]) | (refine qR ?_;simp only [ak,reduceIte];simp []) | (refine qC ?_;simp [];(try with_reducible refine ⟨?_,?_⟩)<;>(try with_reducible intro hc)<;>try (exfalso;omega)) | ((first | (refine w_e [] ?_;intro J hJ;simp only []) | (refine w_q ?_;intro J hJ) | refine e_go ?_);simp [];(repeat refine ca ?_);(try ((try with_reducible refine ⟨?_,?_⟩)<;>(try with_reducible intro hnil)<;>refine hJ _ _ ?_<;>clear hJ J<;>simp only [ak,reduceIte]<;>try subst hnil)))))
   exact ⟨trivial,kk,by omega,by omega,by omega,by simp [f0,fC],by simp [f1],by simp [fI],by simp [fJ],by trivial,hHi,fun _=>by rw [hy,hP];simp [hyx]⟩
  ·(refine d_go ?_;simp [hnv,hyx];(repeat refine ca ?_);(try ((try with_reducible refine ⟨?_,?_⟩)<;>(try with_reducible intro hnil)<;>refine hJ _ _ ?_<;>clear hJ J<;>simp only [ak,reduceIte]<;>try subst hnil)))
   (repeat' (first | refine qS ?_ | refine qB ?_ | ((first | refine qK ?_ | refine qX ?_);simp only [ak,reduceIte]) | (refine qR ?_;simp only [ak,reduceIte];simp [fJ,hja]) | (refine qC ?_;simp [fJ,hja];(try with_reducible refine ⟨?_,?_⟩)<;>(try with_reducible intro hc)<;>try (exfalso;omega)) | ((first | (refine w_e [] ?_;intro J hJ;simp only []) | (refine w_q ?_;intro J hJ) | refine e_go ?_);simp [fJ,hja];(repeat refine ca ?_);(try ((try with_reducible refine ⟨?_,?_⟩)<;>(try with_reducible intro hnil)<;>refine hJ _ _ ?_<;>clear hJ J<;>simp only [ak,reduceIte]<;>try subst hnil)))))
   exact hJJ (kk - 1) _ _ (by omega) ⟨kk - 1,by omega,by omega,by omega,rfl,by simp [f0,fC],by simp [f1],by simp [fI],by simp,rfl,hmo (by omega) (by rw [hP];simp [hyx])⟩
 clear f0 fC f1 fI fJ hHi fr
 rintro fr st2 ⟨kk,hak,hkj,hik,⟨f0,fC⟩,f1,fI,fJ,rfl,hHi,hst2⟩
 by_cases hle:ii≤kk
 rotate_left
 ·have hke:ii=kk+1:=by omega
  have hpl:=parted_last (hke ▸ hLo) hHi (by omega) (by omega) (by omega)
  have hpm2:=hpm.step kk a (by omega) (by omega) (by omega) (by omega) (by omega)
  have hlk:kk < l.length:=by omega
  have hd1:=ws_drop en ec c kk (by omega)
  have hsw:=fun x y=>bx_sw en ec st q c kk a (x:=x) (y:=y) (by omega) (by omega)
  generalize hy1:c.getD kk 0=y1 at *
  have hsw':=hsw y1 x rfl hx
  (repeat' (first | refine qS ?_ | refine qB ?_ | ((first | refine qK ?_ | refine qX ?_);simp only [ak,reduceIte]) | (refine qR ?_;simp only [ak,reduceIte];simp [f0,fC,f1,fI,fJ,hle]) | (refine qC ?_;simp [f0,fC,f1,fI,fJ,hle];(try with_reducible refine ⟨?_,?_⟩)<;>(try with_reducible intro hc)<;>try (exfalso;omega)) | ((first | (refine w_e [] ?_;intro J hJ;simp only []) | (refine w_q ?_;intro J hJ) | refine e_go ?_);simp [f0,fC,f1,fI,fJ,hle];(repeat refine ca ?_);(try ((try with_reducible refine ⟨?_,?_⟩)<;>(try with_reducible intro hnil)<;>refine hJ _ _ ?_<;>clear hJ J<;>simp only [ak,reduceIte]<;>try subst hnil)))))
  (refine w_s [] [q] [(0,true),(1,true),(2,true),(3,true),(4,true),(5,true),(6,true),(7,true),(8,true),(9,true),(10,true),(11,true),(12,true),(13,false),(14,true),(15,false)] ?_;intro J hJ;simp [f0,fC,f1,fI,fJ,hla,hlk,hcl,hd0,hd1];(repeat refine ca ?_);(try ((try with_reducible refine ⟨?_,?_⟩)<;>(try with_reducible intro hnil)<;>refine hJ _ _ ?_<;>clear hJ J<;>simp only [ak,reduceIte]<;>try subst hnil)))
  (repeat' (first | refine qS ?_ | refine qB ?_ | ((first | refine qK ?_ | refine qX ?_);simp only [ak,reduceIte]) | (refine qR ?_;simp only [ak,reduceIte];simp [f0,fC,f1,fI,fJ]) | (refine qC ?_;simp [f0,fC,f1,fI,fJ];(try with_reducible refine ⟨?_,?_⟩)<;>(try with_reducible intro hc)<;>try (exfalso;omega)) | ((first | (refine w_e [] ?_;intro J hJ;simp only []) | (refine w_q ?_;intro J hJ) | refine e_go ?_);simp [f0,fC,f1,fI,fJ];(repeat refine ca ?_);(try ((try with_reducible refine ⟨?_,?_⟩)<;>(try with_reducible intro hnil)<;>refine hJ _ _ ?_<;>clear hJ J<;>simp only [ak,reduceIte]<;>try subst hnil)))))
  exact ⟨_,kk,rfl,hsw',hpm2,by omega,by omega,by unfold PartedAt;rw [hpl.2,hx];have h:=hpl.1;rwa [show P=_ from funext hPd] at h⟩
 have hik2:ii < kk:=by
  rcases Nat.lt_or_ge ii kk with h | h
  ·exact h
  ·exfalso
   have e:ii=kk:=by omega
   have h1:=hst (by omega)
   have h2:=hst2 hle
   rw [e,h2] at h1;cases h1
 have hLo2:=hLo.swp hik2 (by omega) (hst2 hle)
 have hHi2:=hHi.swp hik2 (by omega) (hst (by omega))
 have hpm2:=hpm.step ii kk (by omega) (by omega) (by omega) (by omega) (by omega)
 have hxx:(sw c ii kk).getD a 0=x:=by rw [sw_get _ _ _ _ (by omega) (by omega),if_neg (by omega),if_neg (by omega)];exact hx
 have hli:ii < l.length:=by omega
 have hlk:kk < l.length:=by omega
 have hd1:=ws_drop en ec c ii (by omega)
 have hd2:=ws_drop en ec c kk (by omega)
 have hsw:=fun x y=>bx_sw en ec st q c ii kk (x:=x) (y:=y) (by omega) (by omega)
 have hia:=qN ii (by omega)
 have hka:=nat_sub_one kk (by omega) (by omega)
 clear hst hst2
 generalize hy1:c.getD ii 0=y1 at *
 generalize hy2:c.getD kk 0=y2 at *
 have hsw':=hsw y1 y2 rfl rfl
 (repeat' (first | refine qS ?_ | refine qB ?_ | ((first | refine qK ?_ | refine qX ?_);simp only [ak,reduceIte]) | (refine qR ?_;simp only [ak,reduceIte];simp [f0,fC,f1,fI,fJ,hle]) | (refine qC ?_;simp [f0,fC,f1,fI,fJ,hle];(try with_reducible refine ⟨?_,?_⟩)<;>(try with_reducible intro hc)<;>try (exfalso;omega)) | ((first | (refine w_e [] ?_;intro J hJ;simp only []) | (refine w_q ?_;intro J hJ) | refine e_go ?_);simp [f0,fC,f1,fI,fJ,hle];(repeat refine ca ?_);(try ((try with_reducible refine ⟨?_,?_⟩)<;>(try with_reducible intro hnil)<;>refine hJ _ _ ?_<;>clear hJ J<;>simp only [ak,reduceIte]<;>try subst hnil)))))
 (refine w_s [] [q] [(0,true),(1,true),(2,true),(3,true),(4,true),(5,true),(6,true),(7,true),(8,true),(9,true),(10,true),(11,true),(12,true),(13,false),(14,true),(15,false)] ?_;intro J hJ;simp [f0,fC,f1,fI,fJ,hli,hlk,hcl,hd1,hd2];(repeat refine ca ?_);(try ((try with_reducible refine ⟨?_,?_⟩)<;>(try with_reducible intro hnil)<;>refine hJ _ _ ?_<;>clear hJ J<;>simp only [ak,reduceIte]<;>try subst hnil)))
 (repeat' (first | refine qS ?_ | refine qB ?_ | ((first | refine qK ?_ | refine qX ?_);simp only [ak,reduceIte]) | (refine qR ?_;simp only [ak,reduceIte];simp [fI,fJ,hia,hka]) | (refine qC ?_;simp [fI,fJ,hia,hka];(try with_reducible refine ⟨?_,?_⟩)<;>(try with_reducible intro hc)<;>try (exfalso;omega)) | ((first | (refine w_e [] ?_;intro J hJ;simp only []) | (refine w_q ?_;intro J hJ) | refine e_go ?_);simp [fI,fJ,hia,hka];(repeat refine ca ?_);(try ((try with_reducible refine ⟨?_,?_⟩)<;>(try with_reducible intro hnil)<;>refine hJ _ _ ?_<;>clear hJ J<;>simp only [ak,reduceIte]<;>try subst hnil)))))
 rw [hsw']
 refine qL (fun m fr st2=>∃ (ii jj:Nat) (c:List Int),a < ii∧ii≤jj+1∧jj < b∧jj=m∧(fr 0=.ms q 0 l.length∧fr 4=.fn (.func fid) caps)∧fr 1=i a∧fr 12=i ii∧fr 13=i jj∧st2=bx en ec st q c∧Pm a b l c∧c.getD a 0=x∧Lo P c a ii∧Hi P c jj b) (kk - 1) ?_ ?_
 ·exact ⟨ii+1,kk - 1,sw c ii kk,by omega,by omega,by omega,rfl,by simp [f0,fC],by simp [f1],by simp,by simp,rfl,hpm2,hxx,hLo2,hHi2⟩
 clear f0 fC f1 fI fJ hLo hHi hLo2 hHi2 hpm hpm2 hx hxx hcl hDc hd0 hd1 hd2 hsw hsw' hy1 hy2 y1 y2 hai hij hak hik hik2 hli hlk hia hka hle hkj hjb ii jj kk c fr
 rintro m fr st2 ⟨ii,jj,c,hai,hij,hjb,rfl,⟨f0,fC⟩,f1,fI,fJ,rfl,hpm,hx,hLo,hHi⟩ JJ0 hJ0
 have hcl:=hpm.len
 have hDc:=dm_pm hD hpm
 have hd0:=ws_drop en ec c a (by omega)
 rw [hx] at hd0
 refine qB ?_
 refine qS ?_
 refine awp_cut1 (fun fr st2=>∃ ii:Nat,a < ii∧ii≤jj+1∧(fr 0=.ms q 0 l.length∧fr 4=.fn (.func fid) caps)∧fr 1=i a∧fr 12=i ii∧fr 13=i jj∧st2=bx en ec st q c∧Lo P c a ii∧StU P c ii jj) ?_ ?_
 ·refine qB ?_
  refine qL (fun m fr st2=>∃ ii:Nat,a < ii∧ii≤jj+1∧m=jj+1 - ii∧(fr 0=.ms q 0 l.length∧fr 4=.fn (.func fid) caps)∧fr 1=i a∧fr 12=i ii∧fr 13=i jj∧st2=bx en ec st q c∧Lo P c a ii) (jj+1 - ii) ?_ ?_
  ·exact ⟨ii,by omega,by omega,rfl,by simp [f0,fC],by simp [f1],by simp [fI],by simp [fJ],rfl,hLo⟩
  clear f0 fC f1 fI fJ hLo hai hij fr ii
  rintro m fr st2 ⟨ii,hai,hij,rfl,⟨f0,fC⟩,f1,fI,fJ,rfl,hLo⟩ JJ hJJ
  have hia:=qN ii (by omega)
  by_cases hle:ii≤jj
  rotate_left
  ·clear hJJ
   (repeat (refine qS ?_));(refine w_s [] [q] [(0,true),(1,true),(2,true),(3,true),(4,true),(5,true),(6,true),(7,true),(8,true),(9,true),(10,true),(11,true),(12,true),(13,false),(14,true),(15,true)] ?_;intro J hJ;simp [f0,fC,f1,fI,fJ,hle];(repeat refine ca ?_);(try ((try with_reducible refine ⟨?_,?_⟩)<;>(try with_reducible intro hnil)<;>refine hJ _ _ ?_<;>clear hJ J<;>simp only [ak,reduceIte]<;>try subst hnil)))
   (repeat' (first | refine qS ?_ | refine qB ?_ | ((first | refine qK ?_ | refine qX ?_);simp only [ak,reduceIte]) | (refine qR ?_;simp only [ak,reduceIte];simp []) | (refine qC ?_;simp [];(try with_reducible refine ⟨?_,?_⟩)<;>(try with_reducible intro hc)<;>try (exfalso;omega)) | ((first | (refine w_e [] ?_;intro J hJ;simp only []) | (refine w_q ?_;intro J hJ) | refine e_go ?_);simp [];(repeat refine ca ?_);(try ((try with_reducible refine ⟨?_,?_⟩)<;>(try with_reducible intro hnil)<;>refine hJ _ _ ?_<;>clear hJ J<;>simp only [ak,reduceIte]<;>try subst hnil)))))
   exact ⟨trivial,ii,by omega,by omega,by simp [f0,fC],by simp [f1],by simp [fI],by simp [fJ],by trivial,hLo,fun h=>absurd h hle⟩
  have hli:ii < l.length:=by omega
  have hd1:=ws_drop en ec c ii (by omega)
  have hmo:=hLo.more
  generalize hy:c.getD ii 0=y at *
  (repeat (refine qS ?_));(refine w_s [] [q] [(0,true),(1,true),(2,true),(3,true),(4,true),(5,true),(6,true),(7,true),(8,true),(9,true),(10,true),(11,true),(12,true),(13,false),(14,true),(15,true)] ?_;intro J hJ;simp [f0,fC,f1,fI,fJ,hle,hli,hla,hcl,hd0,hd1];(repeat refine ca ?_);(try ((try with_reducible refine ⟨?_,?_⟩)<;>(try with_reducible intro hnil)<;>refine hJ _ _ ?_<;>clear hJ J<;>simp only [ak,reduceIte]<;>try subst hnil)))
  refine dcallK_of (hC.call y x _ (by first | assumption | (subst_vars;exact dm_get (by assumption) (by omega))) (by first | assumption | (subst_vars;exact dm_get (by assumption) (by omega)))) ?_;rintro r s2 ⟨⟨nv,rfl,hnv⟩,rfl⟩
  refine ⟨fun _=>by simp,?_⟩
  have hP:=hPd y
  by_cases hyx:y < x
  ·(refine d_go ?_;simp [hnv,hyx];(repeat refine ca ?_);(try ((try with_reducible refine ⟨?_,?_⟩)<;>(try with_reducible intro hnil)<;>refine hJ _ _ ?_<;>clear hJ J<;>simp only [ak,reduceIte]<;>try subst hnil)))
   (repeat' (first | refine qS ?_ | refine qB ?_ | ((first | refine qK ?_ | refine qX ?_);simp only [ak,reduceIte]) | (refine qR ?_;simp only [ak,reduceIte];simp [fI,hia]) | (refine qC ?_;simp [fI,hia];(try with_reducible refine ⟨?_,?_⟩)<;>(try with_reducible intro hc)<;>try (exfalso;omega)) | ((first | (refine w_e [] ?_;intro J hJ;simp only []) | (refine w_q ?_;intro J hJ) | refine e_go ?_);simp [fI,hia];(repeat refine ca ?_);(try ((try with_reducible refine ⟨?_,?_⟩)<;>(try with_reducible intro hnil)<;>refine hJ _ _ ?_<;>clear hJ J<;>simp only [ak,reduceIte]<;>try subst hnil)))))
   exact hJJ (jj+1 - (ii+1)) _ _ (by omega) ⟨ii+1,by omega,by omega,rfl,by simp [f0,fC],by simp [f1],by simp,by simp [fJ],rfl,hmo (by rw [hP];simp [hyx])⟩
  ·clear hJJ
   (refine d_go ?_;simp [hnv,hyx];(repeat refine ca ?_);(try ((try with_reducible refine ⟨?_,?_⟩)<;>(try with_reducible intro hnil)<;>refine hJ _ _ ?_<;>clear hJ J<;>simp only [ak,reduceIte]<;>try subst hnil)))
   (repeat' (first | refine qS ?_ | refine qB ?_ | ((first | refine qK ?_ | refine qX ?_);simp only [ak,reduceIte]) | (refine qR ?_;simp only [ak,reduceIte];simp []) | (refine qC ?_;simp [];(try with_reducible refine ⟨?_,?_⟩)<;>(try with_reducible intro hc)<;>try (exfalso;omega)) | ((first | (refine w_e [] ?_;intro J hJ;simp only []) | (refine w_q ?_;intro J hJ) | refine e_go ?_);simp [];(repeat refine ca ?_);(try ((try with_reducible refine ⟨?_,?_⟩)<;>(try with_reducible intro hnil)<;>refine hJ _ _ ?_<;>clear hJ J<;>simp only [ak,reduceIte]<;>try subst hnil)))))
   exact ⟨trivial,ii,by omega,by omega,by simp [f0,fC],by simp [f1],by simp [fI],by simp [fJ],by trivial,hLo,fun _=>by rw [hy,hP];simp [hyx]⟩
 clear f0 fC f1 fI fJ hLo hai hij fr ii
 rintro fr st2 ⟨ii,hai,hij,⟨f0,fC⟩,f1,fI,fJ,rfl,hLo,hst⟩
 refine qS ?_
 refine awp_cut1 (fun fr st2=>∃ kk:Nat,a≤kk∧kk≤jj∧ii≤kk+1∧(fr 0=.ms q 0 l.length∧fr 4=.fn (.func fid) caps)∧fr 1=i a∧fr 12=i ii∧fr 13=i kk∧st2=bx en ec st q c∧Hi P c kk b∧StD P c ii kk) ?_ ?_
 ·refine qB ?_
  refine qL (fun m fr st2=>∃ kk:Nat,a≤kk∧kk≤jj∧ii≤kk+1∧kk=m∧(fr 0=.ms q 0 l.length∧fr 4=.fn (.func fid) caps)∧fr 1=i a∧fr 12=i ii∧fr 13=i kk∧st2=bx en ec st q c∧Hi P c kk b) jj ?_ ?_
  ·exact ⟨jj,by omega,by omega,by omega,rfl,by simp [f0,fC],by simp [f1],by simp [fI],by simp [fJ],rfl,hHi⟩
  clear f0 fC f1 fI fJ hHi fr
  rintro m fr st2 ⟨kk,hak,hkj,hik,rfl,⟨f0,fC⟩,f1,fI,fJ,rfl,hHi⟩ JJ hJJ
  by_cases hle:ii≤kk
  rotate_left
  ·clear hJJ
   (repeat (refine qS ?_));(refine w_s [] [q] [(0,true),(1,true),(2,true),(3,true),(4,true),(5,true),(6,true),(7,true),(8,true),(9,true),(10,true),(11,true),(12,true),(13,false),(14,true),(15,true),(16,true)] ?_;intro J hJ;simp [f0,fC,f1,fI,fJ,hle];(repeat refine ca ?_);(try ((try with_reducible refine ⟨?_,?_⟩)<;>(try with_reducible intro hnil)<;>refine hJ _ _ ?_<;>clear hJ J<;>simp only [ak,reduceIte]<;>try subst hnil)))
   (repeat' (first | refine qS ?_ | refine qB ?_ | ((first | refine qK ?_ | refine qX ?_);simp only [ak,reduceIte]) | (refine qR ?_;simp only [ak,reduceIte];simp []) | (refine qC ?_;simp [];(try with_reducible refine ⟨?_,?_⟩)<;>(try with_reducible intro hc)<;>try (exfalso;omega)) | ((first | (refine w_e [] ?_;intro J hJ;simp only []) | (refine w_q ?_;intro J hJ) | refine e_go ?_);simp [];(repeat refine ca ?_);(try ((try with_reducible refine ⟨?_,?_⟩)<;>(try with_reducible intro hnil)<;>refine hJ _ _ ?_<;>clear hJ J<;>simp only [ak,reduceIte]<;>try subst hnil)))))
   exact ⟨trivial,kk,by omega,by omega,by omega,by simp [f0,fC],by simp [f1],by simp [fI],by simp [fJ],by trivial,hHi,fun h=>absurd h hle⟩
  have hja:=nat_sub_one kk (by omega) (by omega)
  have hlj:kk < l.length:=by omega
  have hd1:=ws_drop en ec c kk (by omega)
  have hmo:=hHi.more
  generalize hy:c.getD kk 0=y at *
  (repeat (refine qS ?_));(refine w_s [] [q] [(0,true),(1,true),(2,true),(3,true),(4,true),(5,true),(6,true),(7,true),(8,true),(9,true),(10,true),(11,true),(12,true),(13,false),(14,true),(15,true),(16,true)] ?_;intro J hJ;simp [f0,fC,f1,fI,fJ,hle,hlj,hla,hcl,hd0,hd1];(repeat refine ca ?_);(try ((try with_reducible refine ⟨?_,?_⟩)<;>(try with_reducible intro hnil)<;>refine hJ _ _ ?_<;>clear hJ J<;>simp only [ak,reduceIte]<;>try subst hnil)))
  refine dcallK_of (hC.call y x _ (by first | assumption | (subst_vars;exact dm_get (by assumption) (by omega))) (by first | assumption | (subst_vars;exact dm_get (by assumption) (by omega)))) ?_;rintro r s2 ⟨⟨nv,rfl,hnv⟩,rfl⟩
  refine ⟨fun _=>by simp,?_⟩
  have hP:=hPd y
  by_cases hyx:y < x
  ·clear hJJ
   (refine d_go ?_;simp [hnv,hyx];(repeat refine ca ?_);(try ((try with_reducible refine ⟨?_,?_⟩)<;>(try with_reducible intro hnil)<;>refine hJ _ _ ?_<;>clear hJ J<;>simp only [ak,reduceIte]<;>try subst hnil)))
   (repeat' (first | refine qS ?_ | refine qB ?_ | ((first | refine qK ?_ | refine qX ?_);simp only [ak,reduceIte]) | (refine qR ?_;simp only [ak,reduceIte];simp []) | (refine qC ?_;simp [];(try with_reducible refine ⟨?_,?_⟩)<;>(try with_reducible intro hc)<;>try (exfalso;omega)) | ((first | (refine w_e [] ?_;intro J hJ;simp only []) | (refine w_q ?_;intro J hJ) | refine e_go ?_);simp [];(repeat refine ca ?_);(try ((try with_reducible refine ⟨?_,?_⟩)<;>(try with_reducible intro hnil)<;>refine hJ _ _ ?_<;>clear hJ J<;>simp only [ak,reduceIte]<;>try subst hnil)))))
   exact ⟨trivial,kk,by omega,by omega,by omega,by simp [f0,fC],by simp [f1],by simp [fI],by simp [fJ],by trivial,hHi,fun _=>by rw [hy,hP];simp [hyx]⟩
  ·(refine d_go ?_;simp [hnv,hyx];(repeat refine ca ?_);(try ((try with_reducible refine ⟨?_,?_⟩)<;>(try with_reducible intro hnil)<;>refine hJ _ _ ?_<;>clear hJ J<;>simp only [ak,reduceIte]<;>try subst hnil)))
   (repeat' (first | refine qS ?_ | refine qB ?_ | ((first | refine qK ?_ | refine qX ?_);simp only [ak,reduceIte]) | (refine qR ?_;simp only [ak,reduceIte];simp [fJ,hja]) | (refine qC ?_;simp [fJ,hja];(try with_reducible refine ⟨?_,?_⟩)<;>(try with_reducible intro hc)<;>try (exfalso;omega)) | ((first | (refine w_e [] ?_;intro J hJ;simp only []) | (refine w_q ?_;intro J hJ) | refine e_go ?_);simp [fJ,hja];(repeat refine ca ?_);(try ((try with_reducible refine ⟨?_,?_⟩)<;>(try with_reducible intro hnil)<;>refine hJ _ _ ?_<;>clear hJ J<;>simp only [ak,reduceIte]<;>try subst hnil)))))
   exact hJJ (kk - 1) _ _ (by omega) ⟨kk - 1,by omega,by omega,by omega,rfl,by simp [f0,fC],by simp [f1],by simp [fI],by simp,rfl,hmo (by omega) (by rw [hP];simp [hyx])⟩
 clear f0 fC f1 fI fJ hHi fr
 rintro fr st2 ⟨kk,hak,hkj,hik,⟨f0,fC⟩,f1,fI,fJ,rfl,hHi,hst2⟩
 by_cases hle:ii≤kk
 rotate_left
 ·clear hJ0
  have hke:ii=kk+1:=by omega
  have hpl:=parted_last (hke ▸ hLo) hHi (by omega) (by omega) (by omega)
  have hpm2:=hpm.step kk a (by omega) (by omega) (by omega) (by omega) (by omega)
  have hlk:kk < l.length:=by omega
  have hd1:=ws_drop en ec c kk (by omega)
  have hsw:=fun x y=>bx_sw en ec st q c kk a (x:=x) (y:=y) (by omega) (by omega)
  generalize hy1:c.getD kk 0=y1 at *
  have hsw':=hsw y1 x rfl hx
  (repeat' (first | refine qS ?_ | refine qB ?_ | ((first | refine qK ?_ | refine qX ?_);simp only [ak,reduceIte]) | (refine qR ?_;simp only [ak,reduceIte];simp [f0,fC,f1,fI,fJ,hle]) | (refine qC ?_;simp [f0,fC,f1,fI,fJ,hle];(try with_reducible refine ⟨?_,?_⟩)<;>(try with_reducible intro hc)<;>try (exfalso;omega)) | ((first | (refine w_e [] ?_;intro J hJ;simp only []) | (refine w_q ?_;intro J hJ) | refine e_go ?_);simp [f0,fC,f1,fI,fJ,hle];(repeat refine ca ?_);(try ((try with_reducible refine ⟨?_,?_⟩)<;>(try with_reducible intro hnil)<;>refine hJ _ _ ?_<;>clear hJ J<;>simp only [ak,reduceIte]<;>try subst hnil)))))
  (refine w_s [] [q] [(0,true),(1,true),(2,true),(3,true),(4,true),(5,true),(6,true),(7,true),(8,true),(9,true),(10,true),(11,true),(12,true),(13,false),(14,true),(15,false)] ?_;intro J hJ;simp [f0,fC,f1,fI,fJ,hla,hlk,hcl,hd0,hd1];(repeat refine ca ?_);(try ((try with_reducible refine ⟨?_,?_⟩)<;>(try with_reducible intro hnil)<;>refine hJ _ _ ?_<;>clear hJ J<;>simp only [ak,reduceIte]<;>try subst hnil)))
  (repeat' (first | refine qS ?_ | refine qB ?_ | ((first | refine qK ?_ | refine qX ?_);simp only [ak,reduceIte]) | (refine qR ?_;simp only [ak,reduceIte];simp [f0,fC,f1,fI,fJ]) | (refine qC ?_;simp [f0,fC,f1,fI,fJ];(try with_reducible refine ⟨?_,?_⟩)<;>(try with_reducible intro hc)<;>try (exfalso;omega)) | ((first | (refine w_e [] ?_;intro J hJ;simp only []) | (refine w_q ?_;intro J hJ) | refine e_go ?_);simp [f0,fC,f1,fI,fJ];(repeat refine ca ?_);(try ((try with_reducible refine ⟨?_,?_⟩)<;>(try with_reducible intro hnil)<;>refine hJ _ _ ?_<;>clear hJ J<;>simp only [ak,reduceIte]<;>try subst hnil)))))
  exact ⟨_,kk,rfl,hsw',hpm2,by omega,by omega,by unfold PartedAt;rw [hpl.2,hx];have h:=hpl.1;rwa [show P=_ from funext hPd] at h⟩
 have hik2:ii < kk:=by
  rcases Nat.lt_or_ge ii kk with h | h
  ·exact h
  ·exfalso
   have e:ii=kk:=by omega
   have h1:=hst (by omega)
   have h2:=hst2 hle
   rw [e,h2] at h1;cases h1
 have hLo2:=hLo.swp hik2 (by omega) (hst2 hle)
 have hHi2:=hHi.swp hik2 (by omega) (hst (by omega))
 have hpm2:=hpm.step ii kk (by omega) (by omega) (by omega) (by omega) (by omega)
 have hxx:(sw c ii kk).getD a 0=x:=by rw [sw_get _ _ _ _ (by omega) (by omega),if_neg (by omega),if_neg (by omega)];exact hx
 have hli:ii < l.length:=by omega
 have hlk:kk < l.length:=by omega
 have hd1:=ws_drop en ec c ii (by omega)
 have hd2:=ws_drop en ec c kk (by omega)
 have hsw:=fun x y=>bx_sw en ec st q c ii kk (x:=x) (y:=y) (by omega) (by omega)
 have hia:=qN ii (by omega)
 have hka:=nat_sub_one kk (by omega) (by omega)
 clear hst hst2
 generalize hy1:c.getD ii 0=y1 at *
 generalize hy2:c.getD kk 0=y2 at *
 have hsw':=hsw y1 y2 rfl rfl
 (repeat' (first | refine qS ?_ | refine qB ?_ | ((first | refine qK ?_ | refine qX ?_);simp only [ak,reduceIte]) | (refine qR ?_;simp only [ak,reduceIte];simp [f0,fC,f1,fI,fJ,hle]) | (refine qC ?_;simp [f0,fC,f1,fI,fJ,hle];(try with_reducible refine ⟨?_,?_⟩)<;>(try with_reducible intro hc)<;>try (exfalso;omega)) | ((first | (refine w_e [] ?_;intro J hJ;simp only []) | (refine w_q ?_;intro J hJ) | refine e_go ?_);simp [f0,fC,f1,fI,fJ,hle];(repeat refine ca ?_);(try ((try with_reducible refine ⟨?_,?_⟩)<;>(try with_reducible intro hnil)<;>refine hJ _ _ ?_<;>clear hJ J<;>simp only [ak,reduceIte]<;>try subst hnil)))))
 (refine w_s [] [q] [(0,true),(1,true),(2,true),(3,true),(4,true),(5,true),(6,true),(7,true),(8,true),(9,true),(10,true),(11,true),(12,true),(13,false),(14,true),(15,false)] ?_;intro J hJ;simp [f0,fC,f1,fI,fJ,hli,hlk,hcl,hd1,hd2];(repeat refine ca ?_);(try ((try with_reducible refine ⟨?_,?_⟩)<;>(try with_reducible intro hnil)<;>refine hJ _ _ ?_<;>clear hJ J<;>simp only [ak,reduceIte]<;>try subst hnil)))
 (repeat' (first | refine qS ?_ | refine qB ?_ | ((first | refine qK ?_ | refine qX ?_);simp only [ak,reduceIte]) | (refine qR ?_;simp only [ak,reduceIte];simp [fI,fJ,hia,hka]) | (refine qC ?_;simp [fI,fJ,hia,hka];(try with_reducible refine ⟨?_,?_⟩)<;>(try with_reducible intro hc)<;>try (exfalso;omega)) | ((first | (refine w_e [] ?_;intro J hJ;simp only []) | (refine w_q ?_;intro J hJ) | refine e_go ?_);simp [fI,fJ,hia,hka];(repeat refine ca ?_);(try ((try with_reducible refine ⟨?_,?_⟩)<;>(try with_reducible intro hnil)<;>refine hJ _ _ ?_<;>clear hJ J<;>simp only [ak,reduceIte]<;>try subst hnil)))))
 exact hJ0 (kk - 1) _ _ (by omega) ⟨ii+1,kk - 1,sw c ii kk,by omega,by omega,by omega,rfl,by simp [f0,fC],by simp [f1],by simp,by simp,hsw',hpm2,hxx,hLo2,hHi2⟩
theorem partitionEqual {fid:FuncId} {caps:List LV} {en:Int→Nat} {ec:Int→List LV} {Dm:Int→Prop} (hC:CmpW fid caps en ec Dm) (l:List Int) (q a b pv:Nat) (st:St) (hD:∀ x∈l,Dm x) (hl:small l) (hab:a < b) (hb:b≤l.length) (hp1:a≤pv) (hp2:pv < b) (hH:st.H q=.box 23 1 (ws en ec l)):
 ACalls Tryz.prog 54 [.ms q 0 l.length,i a,i b,i pv,.fn (.func fid) caps] st fun r st'=>∃ (c:List Int) (mid:Nat),r=i mid∧st'=bx en ec st q c∧Pm a b l c∧a < mid∧mid≤b∧PartedEq c a mid b (l.getD pv 0):=by
 unfold small at hl
 refine qO tabOk Tryz.func54 rfl rfl Tryz.ntmps54 (rs:=[.tmp 10]) rfl (by simp) ?_
 (repeat (refine qS ?_));(refine w_e [] ?_;intro J hJ;simp only [];simp [];(repeat refine ca ?_);(try ((try with_reducible refine ⟨?_,?_⟩)<;>(try with_reducible intro hnil)<;>refine hJ _ _ ?_<;>clear hJ J<;>simp only [ak,reduceIte]<;>try subst hnil)))
 have hla:a < l.length:=by omega
 have hlp:pv < l.length:=by omega
 have hsw:=fun x y=>bx_sw' en ec st q l a pv (x:=x) (y:=y) (by omega) (by omega)
 have hd0:=ws_drop en ec l a (by omega)
 have hd1:=ws_drop en ec l pv (by omega)
 have hpm:Pm a b l (sw l a pv):=Pm.one a pv (by omega) (by omega) (by omega) (by omega) (by omega)
 have hx:(sw l a pv).getD a 0=l.getD pv 0:=by
  rw [sw_get _ _ _ _ (by omega) (by omega)]
  by_cases e:a=pv
  ·rw [if_pos e,e]
  ·rw [if_neg e,if_pos rfl]
 generalize hy0:l.getD a 0=y0 at *
 generalize hy1:l.getD pv 0=x at *
 have hsw':=hsw y0 x rfl rfl
 (repeat (refine qS ?_));(refine w_s [] [q] [(0,true),(1,true),(2,true),(3,true),(4,true),(5,true),(6,true),(7,true),(8,true),(9,true),(10,true),(11,true),(12,true),(13,false),(14,true),(15,false)] ?_;intro J hJ;simp [hH,hla,hlp,hd0,hd1];(repeat refine ca ?_);(try ((try with_reducible refine ⟨?_,?_⟩)<;>(try with_reducible intro hnil)<;>refine hJ _ _ ?_<;>clear hJ J<;>simp only [ak,reduceIte]<;>try subst hnil)))
 rw [hsw']
 clear hsw hsw' hd0 hd1 hy0
 generalize hc:sw l a pv=c at *
 clear hc
 have hcl:=hpm.len
 have hDc:=dm_pm hD hpm
 have w1:=qN a (by omega)
 have w2:=nat_sub_one b (by omega) (by omega)
 obtain ⟨P,hPd⟩:∃ P:Int→Bool,∀ v,P v=!decide (x < v):=⟨_,fun _=>rfl⟩
 refine qS ?_
 refine awp_cut1 (fun fr st2=>(fr 0=.ms q 0 l.length∧fr 4=.fn (.func fid) caps)∧fr 1=i a∧fr 11=i ((a+1:Nat):Int)∧fr 12=i ((b - 1:Nat):Int)∧st2=bx en ec st q c) (by (refine w_e [] ?_;intro J hJ;simp only [];simp [w1,w2];(repeat refine ca ?_);(try ((try with_reducible refine ⟨?_,?_⟩)<;>(try with_reducible intro hnil)<;>refine hJ _ _ ?_<;>clear hJ J<;>simp only [ak,reduceIte]<;>try subst hnil)));simp) ?_
 rintro fr st2 ⟨⟨f0,fC⟩,f1,fI,fJ,rfl⟩
 have hai:a < a+1:=by omega
 have hij:a+1≤b - 1+1:=by omega
 have hjb:b - 1 < b:=by omega
 have hLo:Lo P c a (a+1):=fun p h1 h2=>by omega
 have hHi:Hi P c (b - 1) b:=fun p h1 h2=>by omega
 generalize a+1=ii at *
 generalize b - 1=jj at *
 clear w1 w2
 have hd0:=ws_drop en ec c a (by omega)
 rw [hx] at hd0
 refine qS ?_
 refine qB ?_
 refine qL (fun m fr st2=>∃ (ii jj:Nat) (c:List Int),a < ii∧ii≤jj+1∧jj < b∧jj=m∧(fr 0=.ms q 0 l.length∧fr 4=.fn (.func fid) caps)∧fr 1=i a∧fr 11=i ii∧fr 12=i jj∧st2=bx en ec st q c∧Pm a b l c∧c.getD a 0=x∧Lo P c a ii∧Hi P c jj b) jj ?_ ?_
 ·exact ⟨ii,jj,c,by omega,by omega,by omega,rfl,⟨f0,fC⟩,f1,fI,fJ,rfl,hpm,hx,hLo,hHi⟩
 clear f0 fC f1 fI fJ hLo hHi hpm hx hcl hDc hd0 hai hij hjb ii jj c fr
 rintro m fr st2 ⟨ii,jj,c,hai,hij,hjb,rfl,⟨f0,fC⟩,f1,fI,fJ,rfl,hpm,hx,hLo,hHi⟩ JJ0 hJ0
 have hcl:=hpm.len
 have hDc:=dm_pm hD hpm
 have hd0:=ws_drop en ec c a (by omega)
 rw [hx] at hd0
 refine qB ?_
 refine qS ?_
 refine awp_cut1 (fun fr st2=>∃ ii:Nat,a < ii∧ii≤jj+1∧(fr 0=.ms q 0 l.length∧fr 4=.fn (.func fid) caps)∧fr 1=i a∧fr 11=i ii∧fr 12=i jj∧st2=bx en ec st q c∧Lo P c a ii∧StU P c ii jj) ?_ ?_
 ·refine qB ?_
  refine qL (fun m fr st2=>∃ ii:Nat,a < ii∧ii≤jj+1∧m=jj+1 - ii∧(fr 0=.ms q 0 l.length∧fr 4=.fn (.func fid) caps)∧fr 1=i a∧fr 11=i ii∧fr 12=i jj∧st2=bx en ec st q c∧Lo P c a ii) (jj+1 - ii) ?_ ?_
  ·exact ⟨ii,by omega,by omega,rfl,by simp [f0,fC],by simp [f1],by simp [fI],by simp [fJ],rfl,hLo⟩
  clear f0 fC f1 fI fJ hLo hai hij fr ii
  rintro m fr st2 ⟨ii,hai,hij,rfl,⟨f0,fC⟩,f1,fI,fJ,rfl,hLo⟩ JJ hJJ
  have hia:=qN ii (by omega)
  by_cases hle:ii≤jj
  rotate_left
  ·clear hJJ
   (repeat (refine qS ?_));(refine w_s [] [q] [(0,true),(1,true),(2,true),(3,true),(4,true),(5,true),(6,true),(7,true),(8,true),(9,true),(10,true),(11,true),(12,true),(13,false),(14,true),(15,true),(16,true)] ?_;intro J hJ;simp [f0,fC,f1,fI,fJ,hle];(repeat refine ca ?_);(try ((try with_reducible refine ⟨?_,?_⟩)<;>(try with_reducible intro hnil)<;>refine hJ _ _ ?_<;>clear hJ J<;>simp only [ak,reduceIte]<;>try subst hnil)))
   (repeat' (first | refine qS ?_ | refine qB ?_ | ((first | refine qK ?_ | refine qX ?_);simp only [ak,reduceIte]) | (refine qR ?_;simp only [ak,reduceIte];simp []) | (refine qC ?_;simp [];(try with_reducible refine ⟨?_,?_⟩)<;>(try with_reducible intro hc)<;>try (exfalso;omega)) | ((first | (refine w_e [] ?_;intro J hJ;simp only []) | (refine w_q ?_;intro J hJ) | refine e_go ?_);simp [];(repeat refine ca ?_);(try ((try with_reducible refine ⟨?_,?_⟩)<;>(try with_reducible intro hnil)<;>refine hJ _ _ ?_<;>clear hJ J<;>simp only [ak,reduceIte]<;>try subst hnil)))))
   exact ⟨trivial,ii,by omega,by omega,by simp [f0,fC],by simp [f1],by simp [fI],by simp [fJ],by trivial,hLo,fun h=>absurd h hle⟩
  have hli:ii < l.length:=by omega
  have hd1:=ws_drop en ec c ii (by omega)
  have hmo:=hLo.more
  generalize hy:c.getD ii 0=y at *
  (repeat (refine qS ?_));(refine w_s [] [q] [(0,true),(1,true),(2,true),(3,true),(4,true),(5,true),(6,true),(7,true),(8,true),(9,true),(10,true),(11,true),(12,true),(13,false),(14,true),(15,true),(16,true)] ?_;intro J hJ;simp [f0,fC,f1,fI,fJ,hle,hli,hla,hcl,hd0,hd1];(repeat refine ca ?_);(try ((try with_reducible refine ⟨?_,?_⟩)<;>(try with_reducible intro hnil)<;>refine hJ _ _ ?_<;>clear hJ J<;>simp only [ak,reduceIte]<;>try subst hnil)))
  refine dcallK_of (hC.call x y _ (by first | assumption | (subst_vars;exact dm_get (by assumption) (by omega))) (by first | assumption | (subst_vars;exact dm_get (by assumption) (by omega)))) ?_;rintro r s2 ⟨⟨nv,rfl,hnv⟩,rfl⟩
  refine ⟨fun _=>by simp,?_⟩
  have hP:=hPd y
  by_cases hyx:x < y
  ·clear hJJ
   (refine d_go ?_;simp [hnv,hyx];(repeat refine ca ?_);(try ((try with_reducible refine ⟨?_,?_⟩)<;>(try with_reducible intro hnil)<;>refine hJ _ _ ?_<;>clear hJ J<;>simp only [ak,reduceIte]<;>try subst hnil)))
   (repeat' (first | refine qS ?_ | refine qB ?_ | ((first | refine qK ?_ | refine qX ?_);simp only [ak,reduceIte]) | (refine qR ?_;simp only [ak,reduceIte];simp []) | (refine qC ?_;simp [];(try with_reducible refine ⟨?_,?_⟩)<;>(try with_reducible intro hc)<;>try (exfalso;omega)) | ((first | (refine w_e [] ?_;intro J hJ;simp only []) | (refine w_q ?_;intro J hJ) | refine e_go ?_);simp [];(repeat refine ca ?_);(try ((try with_reducible refine ⟨?_,?_⟩)<;>(try with_reducible intro hnil)<;>refine hJ _ _ ?_<;>clear hJ J<;>simp only [ak,reduceIte]<;>try subst hnil)))))
   exact ⟨trivial,ii,by omega,by omega,by simp [f0,fC],by simp [f1],by simp [fI],by simp [fJ],by trivial,hLo,fun _=>by rw [hy,hP];simp [hyx]⟩
  ·(refine d_go ?_;simp [hnv,hyx];(repeat refine ca ?_);(try ((try with_reducible refine ⟨?_,?_⟩)<;>(try with_reducible intro hnil)<;>refine hJ _ _ ?_<;>clear hJ J<;>simp only [ak,reduceIte]<;>try subst hnil)))
   (repeat' (first | refine qS ?_ | refine qB ?_ | ((first | refine qK ?_ | refine qX ?_);simp only [ak,reduceIte]) | (refine qR ?_;simp only [ak,reduceIte];simp [fI,hia]) | (refine qC ?_;simp [fI,hia];(try with_reducible refine ⟨?_,?_⟩)<;>(try with_reducible intro hc)<;>try (exfalso;omega)) | ((first | (refine w_e [] ?_;intro J hJ;simp only []) | (refine w_q ?_;intro J hJ) | refine e_go ?_);simp [fI,hia];(repeat refine ca ?_);(try ((try with_reducible refine ⟨?_,?_⟩)<;>(try with_reducible intro hnil)<;>refine hJ _ _ ?_<;>clear hJ J<;>simp only [ak,reduceIte]<;>try subst hnil)))))
   exact hJJ (jj+1 - (ii+1)) _ _ (by omega) ⟨ii+1,by omega,by omega,rfl,by simp [f0,fC],by simp [f1],by simp,by simp [fJ],rfl,hmo (by rw [hP];simp [hyx])⟩
 clear f0 fC f1 fI fJ hLo hai hij fr ii
 rintro fr st2 ⟨ii,hai,hij,⟨f0,fC⟩,f1,fI,fJ,rfl,hLo,hst⟩
 refine qS ?_
 refine awp_cut1 (fun fr st2=>∃ kk:Nat,a≤kk∧kk≤jj∧ii≤kk+1∧(fr 0=.ms q 0 l.length∧fr 4=.fn (.func fid) caps)∧fr 1=i a∧fr 11=i ii∧fr 12=i kk∧st2=bx en ec st q c∧Hi P c kk b∧StD P c ii kk) ?_ ?_
 ·refine qB ?_
  refine qL (fun m fr st2=>∃ kk:Nat,a≤kk∧kk≤jj∧ii≤kk+1∧kk=m∧(fr 0=.ms q 0 l.length∧fr 4=.fn (.func fid) caps)∧fr 1=i a∧fr 11=i ii∧fr 12=i kk∧st2=bx en ec st q c∧Hi P c kk b) jj ?_ ?_
  ·exact ⟨jj,by omega,by omega,by omega,rfl,by simp [f0,fC],by simp [f1],by simp [fI],by simp [fJ],rfl,hHi⟩
  clear f0 fC f1 fI fJ hHi fr
  rintro m fr st2 ⟨kk,hak,hkj,hik,rfl,⟨f0,fC⟩,f1,fI,fJ,rfl,hHi⟩ JJ hJJ
  by_cases hle:ii≤kk
  rotate_left
  ·clear hJJ
   (repeat (refine qS ?_));(refine w_s [] [q] [(0,true),(1,true),(2,true),(3,true),(4,true),(5,true),(6,true),(7,true),(8,true),(9,true),(10,true),(11,true),(12,true),(13,false),(14,true),(15,true)] ?_;intro J hJ;simp [f0,fC,f1,fI,fJ,hle];(repeat refine ca ?_);(try ((try with_reducible refine ⟨?_,?_⟩)<;>(try with_reducible intro hnil)<;>refine hJ _ _ ?_<;>clear hJ J<;>simp only [ak,reduceIte]<;>try subst hnil)))
   (repeat' (first | refine qS ?_ | refine qB ?_ | ((first | refine qK ?_ | refine qX ?_);simp only [ak,reduceIte]) | (refine qR ?_;simp only [ak,reduceIte];simp []) | (refine qC ?_;simp [];(try with_reducible refine ⟨?_,?_⟩)<;>(try with_reducible intro hc)<;>try (exfalso;omega)) | ((first | (refine w_e [] ?_;intro J hJ;simp only []) | (refine w_q ?_;intro J hJ) | refine e_go ?_);simp [];(repeat refine ca ?_);(try ((try with_reducible refine ⟨?_,?_⟩)<;>(try with_reducible intro hnil)<;>refine hJ _ _ ?_<;>clear hJ J<;>simp only [ak,reduceIte]<;>try subst hnil)))))
   exact ⟨trivial,kk,by omega,by omega,by omega,by simp [f0,fC],by simp [f1],by simp [fI],by simp [fJ],by trivial,hHi,fun h=>absurd h hle⟩
  have hja:=nat_sub_one kk (by omega) (by omega)
  have hlj:kk < l.length:=by omega
  have hd1:=ws_drop en ec c kk (by omega)
  have hmo:=hHi.more
  generalize hy:c.getD kk 0=y at *
  (repeat (refine qS ?_));(refine w_s [] [q] [(0,true),(1,true),(2,true),(3,true),(4,true),(5,true),(6,true),(7,true),(8,true),(9,true),(10,true),(11,true),(12,true),(13,false),(14,true),(15,true)] ?_;intro J hJ;simp [f0,fC,f1,fI,fJ,hle,hlj,hla,hcl,hd0,hd1];(repeat refine ca ?_);(try ((try with_reducible refine ⟨?_,?_⟩)<;>(try with_reducible intro hnil)<;>refine hJ _ _ ?_<;>clear hJ J<;>simp only [ak,reduceIte]<;>try subst hnil)))
  refine dcallK_of (hC.call x y _ (by first | assumption | (subst_vars;exact dm_get (by assumption) (by omega))) (by first | assumption | (subst_vars;exact dm_get (by assumption) (by omega)))) ?_;rintro r s2 ⟨⟨nv,rfl,hnv⟩,rfl⟩
  refine ⟨fun _=>by simp,?_⟩
  have hP:=hPd y
  by_cases hyx:x < y
  ·(refine d_go ?_;simp [hnv,hyx];(repeat refine ca ?_);(try ((try with_reducible refine ⟨?_,?_⟩)<;>(try with_reducible intro hnil)<;>refine hJ _ _ ?_<;>clear hJ J<;>simp only [ak,reduceIte]<;>try subst hnil)))
   (repeat' (first | refine qS ?_ | refine qB ?_ | ((first | refine qK ?_ | refine qX ?_);simp only [ak,reduceIte]) | (refine qR ?_;simp only [ak,reduceIte];simp [fJ,hja]) | (refine qC ?_;simp [fJ,hja];(try with_reducible refine ⟨?_,?_⟩)<;>(try with_reducible intro hc)<;>try (exfalso;omega)) | ((first | (refine w_e [] ?_;intro J hJ;simp only []) | (refine w_q ?_;intro J hJ) | refine e_go ?_);simp [fJ,hja];(repeat refine ca ?_);(try ((try with_reducible refine ⟨?_,?_⟩)<;>(try with_reducible intro hnil)<;>refine hJ _ _ ?_<;>clear hJ J<;>simp only [ak,reduceIte]<;>try subst hnil)))))
   exact hJJ (kk - 1) _ _ (by omega) ⟨kk - 1,by omega,by omega,by omega,rfl,by simp [f0,fC],by simp [f1],by simp [fI],by simp,rfl,hmo (by omega) (by rw [hP];simp [hyx])⟩
  ·clear hJJ
   (refine d_go ?_;simp [hnv,hyx];(repeat refine ca ?_);(try ((try with_reducible refine ⟨?_,?_⟩)<;>(try with_reducible intro hnil)<;>refine hJ _ _ ?_<;>clear hJ J<;>simp only [ak,reduceIte]<;>try subst hnil)))
   (repeat' (first | refine qS ?_ | refine qB ?_ | ((first | refine qK ?_ | refine qX ?_);simp only [ak,reduceIte]) | (refine qR ?_;simp only [ak,reduceIte];simp []) | (refine qC ?_;simp [];(try with_reducible refine ⟨?_,?_⟩)<;>(try with_reducible intro hc)<;>try (exfalso;omega)) | ((first | (refine w_e [] ?_;intro J hJ;simp only []) | (refine w_q ?_;intro J hJ) | refine e_go ?_);simp [];(repeat refine ca ?_);(try ((try with_reducible refine ⟨?_,?_⟩)<;>(try with_reducible intro hnil)<;>refine hJ _ _ ?_<;>clear hJ J<;>simp only [ak,reduceIte]<;>try subst hnil)))))
   exact ⟨trivial,kk,by omega,by omega,by omega,by simp [f0,fC],by simp [f1],by simp [fI],by simp [fJ],by trivial,hHi,fun _=>by rw [hy,hP];simp [hyx]⟩
 clear f0 fC f1 fI fJ hHi fr
 rintro fr st2 ⟨kk,hak,hkj,hik,⟨f0,fC⟩,f1,fI,fJ,rfl,hHi,hst2⟩
 by_cases hle:ii≤kk
 rotate_left
 ·clear hJ0
  (repeat' (first | refine qS ?_ | refine qB ?_ | ((first | refine qK ?_ | refine qX ?_);simp only [ak,reduceIte]) | (refine qR ?_;simp only [ak,reduceIte];simp [f0,fC,f1,fI,fJ,hle]) | (refine qC ?_;simp [f0,fC,f1,fI,fJ,hle];(try with_reducible refine ⟨?_,?_⟩)<;>(try with_reducible intro hc)<;>try (exfalso;omega)) | ((first | (refine w_e [] ?_;intro J hJ;simp only []) | (refine w_q ?_;intro J hJ) | refine e_go ?_);simp [f0,fC,f1,fI,fJ,hle];(repeat refine ca ?_);(try ((try with_reducible refine ⟨?_,?_⟩)<;>(try with_reducible intro hnil)<;>refine hJ _ _ ?_<;>clear hJ J<;>simp only [ak,reduceIte]<;>try subst hnil)))))
  refine ⟨c,ii,rfl,rfl,hpm,by omega,by omega,fun p h1 h2=>?_,fun p h1 h2=>?_⟩
  ·by_cases e:p=a
   ·rw [e,hx];exact Int.le_refl _
   ·have:=hLo p (by omega) h2;rw [hPd] at this;simpa using this
  ·have:=hHi p (by omega) h2;rw [hPd] at this;simpa using this
 have hik2:ii < kk:=by
  rcases Nat.lt_or_ge ii kk with h | h
  ·exact h
  ·exfalso
   have e:ii=kk:=by omega
   have h1:=hst (by omega)
   have h2:=hst2 hle
   rw [e,h2] at h1;cases h1
 have hLo2:=hLo.swp hik2 (by omega) (hst2 hle)
 have hHi2:=hHi.swp hik2 (by omega) (hst (by omega))
 have hpm2:=hpm.step ii kk (by omega) (by omega) (by omega) (by omega) (by omega)
 have hxx:(sw c ii kk).getD a 0=x:=by rw [sw_get _ _ _ _ (by omega) (by omega),if_neg (by omega),if_neg (by omega)];exact hx
 have hli:ii < l.length:=by omega
 have hlk:kk < l.length:=by omega
 have hd1:=ws_drop en ec c ii (by omega)
 have hd2:=ws_drop en ec c kk (by omega)
 have hsw:=fun x y=>bx_sw en ec st q c ii kk (x:=x) (y:=y) (by omega) (by omega)
 have hia:=qN ii (by omega)
 have hka:=nat_sub_one kk (by omega) (by omega)
 clear hst hst2
 generalize hy1:c.getD ii 0=y1 at *
 generalize hy2:c.getD kk 0=y2 at *
 have hsw':=hsw y1 y2 rfl rfl
 (repeat' (first | refine qS ?_ | refine qB ?_ | ((first | refine qK ?_ | refine qX ?_);simp only [ak,reduceIte]) | (refine qR ?_;simp only [ak,reduceIte];simp [f0,fC,f1,fI,fJ,hle]) | (refine qC ?_;simp [f0,fC,f1,fI,fJ,hle];(try with_reducible refine ⟨?_,?_⟩)<;>(try with_reducible intro hc)<;>try (exfalso;omega)) | ((first | (refine w_e [] ?_;intro J hJ;simp only []) | (refine w_q ?_;intro J hJ) | refine e_go ?_);simp [f0,fC,f1,fI,fJ,hle];(repeat refine ca ?_);(try ((try with_reducible refine ⟨?_,?_⟩)<;>(try with_reducible intro hnil)<;>refine hJ _ _ ?_<;>clear hJ J<;>simp only [ak,reduceIte]<;>try subst hnil)))))
 (refine w_s [] [q] [(0,true),(1,true),(2,true),(3,true),(4,true),(5,true),(6,true),(7,true),(8,true),(9,true),(10,true),(11,true),(12,true),(13,false),(14,true),(15,false)] ?_;intro J hJ;simp [f0,fC,f1,fI,fJ,hli,hlk,hcl,hd1,hd2];(repeat refine ca ?_);(try ((try with_reducible refine ⟨?_,?_⟩)<;>(try with_reducible intro hnil)<;>refine hJ _ _ ?_<;>clear hJ J<;>simp only [ak,reduceIte]<;>try subst hnil)))
 (repeat' (first | refine qS ?_ | refine qB ?_ | ((first | refine qK ?_ | refine qX ?_);simp only [ak,reduceIte]) | (refine qR ?_;simp only [ak,reduceIte];simp [fI,fJ,hia,hka]) | (refine qC ?_;simp [fI,fJ,hia,hka];(try with_reducible refine ⟨?_,?_⟩)<;>(try with_reducible intro hc)<;>try (exfalso;omega)) | ((first | (refine w_e [] ?_;intro J hJ;simp only []) | (refine w_q ?_;intro J hJ) | refine e_go ?_);simp [fI,fJ,hia,hka];(repeat refine ca ?_);(try ((try with_reducible refine ⟨?_,?_⟩)<;>(try with_reducible intro hnil)<;>refine hJ _ _ ?_<;>clear hJ J<;>simp only [ak,reduceIte]<;>try subst hnil)))))
 exact hJ0 (kk - 1) _ _ (by omega) ⟨ii+1,kk - 1,sw c ii kk,by omega,by omega,by omega,rfl,by simp [f0,fC],by simp [f1],by simp,by simp,hsw',hpm2,hxx,hLo2,hHi2⟩
def Ahead (l:List Int) (a b:Nat):Prop:=0 < a→∀ j,a≤j→j < b→l.getD (a - 1) 0≤l.getD j 0
theorem Ahead.pm {l c:List Int} {a b:Nat} (h:Ahead l a b) (k:Pm a b l c):Ahead c a b:=by
 intro h0 j h1 h2
 rw [k.out (a - 1) (by omega)]
 exact k.all (fun x=>l.getD (a - 1) 0≤x) (fun j h1 h2=>h h0 j h1 h2) j h1 h2
def Falls (c:List Int) (k b:Nat):Prop:=k < b→c.getD k 0 < c.getD (k - 1) 0
def SrtIf (p:Bool) (a b:Nat) (c:List Int):Prop:=p=true→Srt a b c
def PinI (fid:FuncId) (caps:List LV) (en:Int→Nat) (ec:Int→List LV) (q a b k j:Nat) (l:List Int) (st:St) (fr:Frm) (st2:St):Prop:=∃ c:List Int,(fr 0=.ms q 0 l.length∧fr 3=.fn (.func fid) caps)∧fr 1=i a∧fr 2=i b∧fr 9=i k∧fr 10=i j∧st2=bx en ec st q c∧Pm a b l c∧Srt a k c
theorem partialInsertionSort {fid:FuncId} {caps:List LV} {en:Int→Nat} {ec:Int→List LV} {Dm:Int→Prop} (hC:CmpW fid caps en ec Dm) (l:List Int) (q a b:Nat) (st:St) (hD:∀ x∈l,Dm x) (hl:small l) (ha:a < b) (hb:b≤l.length) (hah:Ahead l a b) (hH:st.H q=.box 23 1 (ws en ec l)):
 ACalls Tryz.prog 53 [.ms q 0 l.length,i a,i b,.fn (.func fid) caps] st fun r st'=>∃ c p,r=bb p∧st'=bx en ec st q c∧Pm a b l c∧SrtIf p a b c:=by
 unfold small at hl
 refine qO tabOk Tryz.func53 rfl rfl Tryz.ntmps53 (rs:=[.tmp 8]) rfl (by simp) ?_
 have hw0:=qN a (by omega)
 (repeat' (first | refine qS ?_ | refine qB ?_ | ((first | refine qK ?_ | refine qX ?_);simp only [ak,reduceIte]) | (refine qR ?_;simp only [ak,reduceIte];simp [hw0]) | (refine qC ?_;simp [hw0];(try with_reducible refine ⟨?_,?_⟩)<;>(try with_reducible intro hc)<;>try (exfalso;omega)) | ((first | (refine w_e [] ?_;intro J hJ;simp only []) | (refine w_q ?_;intro J hJ) | refine e_go ?_);simp [hw0];(repeat refine ca ?_);(try ((try with_reducible refine ⟨?_,?_⟩)<;>(try with_reducible intro hnil)<;>refine hJ _ _ ?_<;>clear hJ J<;>simp only [ak,reduceIte]<;>try subst hnil)))))
 refine qL (fun n fr st2=>∃ (j k:Nat) (c:List Int),j≤5∧n=5 - j∧a < k∧k≤b∧(fr 0=.ms q 0 l.length∧fr 3=.fn (.func fid) caps)∧fr 1=i a∧fr 2=i b∧fr 9=i k∧fr 10=i j∧st2=bx en ec st q c∧Pm a b l c∧Srt a k c) 5 ?_ ?_
 ·exact ⟨0,a+1,l,by omega,rfl,by omega,by omega,by simp,by simp,by simp,by simp,by simp,bx_self hH,.refl,fun p q h1 h2 h3=>by omega⟩
 rintro n fr st2 ⟨j,k,c,hj,rfl,hak,hkb,⟨f0,fC⟩,f1,f2,f7,f8,rfl,hpm,hs⟩ J0 hJ0
 by_cases hj5:(j:Int) < 5
 rotate_left
 ·clear hJ0
  (repeat' (first | refine qS ?_ | refine qB ?_ | ((first | refine qK ?_ | refine qX ?_);simp only [ak,reduceIte]) | (refine qR ?_;simp only [ak,reduceIte];simp [f8,hj5]) | (refine qC ?_;simp [f8,hj5];(try with_reducible refine ⟨?_,?_⟩)<;>(try with_reducible intro hc)<;>try (exfalso;omega)) | ((first | (refine w_e [] ?_;intro J hJ;simp only []) | (refine w_q ?_;intro J hJ) | refine e_go ?_);simp [f8,hj5];(repeat refine ca ?_);(try ((try with_reducible refine ⟨?_,?_⟩)<;>(try with_reducible intro hnil)<;>refine hJ _ _ ?_<;>clear hJ J<;>simp only [ak,reduceIte]<;>try subst hnil)))))
  exact ⟨c,rfl,hpm,fun h=>by cases h⟩
 have hcl:=hpm.len
 have hDc:=dm_pm hD hpm
 (repeat (refine qS ?_));(refine w_e [] ?_;intro J hJ;simp only [];simp [f8,hj5];(repeat refine ca ?_);(try ((try with_reducible refine ⟨?_,?_⟩)<;>(try with_reducible intro hnil)<;>refine hJ _ _ ?_<;>clear hJ J<;>simp only [ak,reduceIte]<;>try subst hnil)))
 (refine qC ?_;simp [];(try with_reducible refine ⟨?_,?_⟩)<;>(try with_reducible intro hc)<;>try (exfalso;omega))
 refine qK ?_;simp only [ak,reduceIte]
 refine qS ?_
 refine qB ?_
 refine qS ?_
 refine awp_cut1 (fun fr st2=>∃ k:Nat,a < k∧k≤b∧(fr 0=.ms q 0 l.length∧fr 3=.fn (.func fid) caps)∧fr 1=i a∧fr 2=i b∧fr 9=i k∧fr 10=i j∧st2=bx en ec st q c∧Srt a k c∧Falls c k b) ?_ ?_
 ·refine qB ?_
  refine qL (fun n fr st2=>∃ k:Nat,n=b - k∧a < k∧k≤b∧(fr 0=.ms q 0 l.length∧fr 3=.fn (.func fid) caps)∧fr 1=i a∧fr 2=i b∧fr 9=i k∧fr 10=i j∧st2=bx en ec st q c∧Srt a k c) (b - k) ?_ ?_
  ·exact ⟨k,rfl,hak,hkb,by simp [f0,fC],by simp [f1],by simp [f2],by simp [f7],by simp [f8],rfl,hs⟩
  clear f0 fC f1 f2 f7 f8 hs hak hkb fr k
  rintro n fr st2 ⟨k,rfl,hak,hkb,⟨f0,fC⟩,f1,f2,f7,f8,rfl,hs⟩ JJ hJJ
  by_cases hlt:k < b
  rotate_left
  ·clear hJJ
   (repeat (refine qS ?_));(refine w_s [] [q] [(0,true),(1,true),(2,true),(3,true),(4,true),(5,true),(6,true),(7,true),(8,true),(9,true),(10,true),(11,true),(12,true),(13,true),(14,false),(15,true),(16,true),(17,true)] ?_;intro J hJ;simp [f0,fC,f2,f7,hlt];(repeat refine ca ?_);(try ((try with_reducible refine ⟨?_,?_⟩)<;>(try with_reducible intro hnil)<;>refine hJ _ _ ?_<;>clear hJ J<;>simp only [ak,reduceIte]<;>try subst hnil)))
   (repeat' (first | refine qS ?_ | refine qB ?_ | ((first | refine qK ?_ | refine qX ?_);simp only [ak,reduceIte]) | (refine qR ?_;simp only [ak,reduceIte];simp []) | (refine qC ?_;simp [];(try with_reducible refine ⟨?_,?_⟩)<;>(try with_reducible intro hc)<;>try (exfalso;omega)) | ((first | (refine w_e [] ?_;intro J hJ;simp only []) | (refine w_q ?_;intro J hJ) | refine e_go ?_);simp [];(repeat refine ca ?_);(try ((try with_reducible refine ⟨?_,?_⟩)<;>(try with_reducible intro hnil)<;>refine hJ _ _ ?_<;>clear hJ J<;>simp only [ak,reduceIte]<;>try subst hnil)))))
   exact ⟨trivial,k,by omega,by omega,by simp [f0,fC],by simp [f1],by simp [f2],by simp [f7],by simp [f8],by trivial,hs,fun h=>absurd h hlt⟩
  have w1:=qN k (by omega)
  have w2:=nat_sub_one k (by omega) (by omega)
  have hd1:=ws_drop en ec c k (by omega)
  have hd2:=ws_drop en ec c (k - 1) (by omega)
  have hl1:k < l.length:=by omega
  have hl2:k - 1 < l.length:=by omega
  have hin:=hs.ins.done (by omega)
  generalize hx:c.getD k 0=x at *
  generalize hy:c.getD (k - 1) 0=y at *
  (repeat (refine qS ?_));(refine w_s [] [q] [(0,true),(1,true),(2,true),(3,true),(4,true),(5,true),(6,true),(7,true),(8,true),(9,true),(10,true),(11,true),(12,true),(13,true),(14,false),(15,true),(16,true),(17,true)] ?_;intro J hJ;simp [f0,fC,f2,f7,hlt,w2,hl1,hl2,hcl,hd1,hd2];(repeat refine ca ?_);(try ((try with_reducible refine ⟨?_,?_⟩)<;>(try with_reducible intro hnil)<;>refine hJ _ _ ?_<;>clear hJ J<;>simp only [ak,reduceIte]<;>try subst hnil)))
  refine dcallK_of (hC.call x y _ (by first | assumption | (subst_vars;exact dm_get (by assumption) (by omega))) (by first | assumption | (subst_vars;exact dm_get (by assumption) (by omega)))) ?_;rintro r s2 ⟨⟨nv,rfl,hnv⟩,rfl⟩
  refine ⟨fun _=>by simp,?_⟩
  by_cases hxy:x < y
  ·clear hJJ
   (refine d_go ?_;simp [hnv,hxy];(repeat refine ca ?_);(try ((try with_reducible refine ⟨?_,?_⟩)<;>(try with_reducible intro hnil)<;>refine hJ _ _ ?_<;>clear hJ J<;>simp only [ak,reduceIte]<;>try subst hnil)))
   (repeat' (first | refine qS ?_ | refine qB ?_ | ((first | refine qK ?_ | refine qX ?_);simp only [ak,reduceIte]) | (refine qR ?_;simp only [ak,reduceIte];simp []) | (refine qC ?_;simp [];(try with_reducible refine ⟨?_,?_⟩)<;>(try with_reducible intro hc)<;>try (exfalso;omega)) | ((first | (refine w_e [] ?_;intro J hJ;simp only []) | (refine w_q ?_;intro J hJ) | refine e_go ?_);simp [];(repeat refine ca ?_);(try ((try with_reducible refine ⟨?_,?_⟩)<;>(try with_reducible intro hnil)<;>refine hJ _ _ ?_<;>clear hJ J<;>simp only [ak,reduceIte]<;>try subst hnil)))))
   exact ⟨trivial,k,by omega,by omega,by simp [f0,fC],by simp [f1],by simp [f2],by simp [f7],by simp [f8],by trivial,hs,fun h=>by rw [hx,hy];exact hxy⟩
  ·(refine d_go ?_;simp [hnv,hxy];(repeat refine ca ?_);(try ((try with_reducible refine ⟨?_,?_⟩)<;>(try with_reducible intro hnil)<;>refine hJ _ _ ?_<;>clear hJ J<;>simp only [ak,reduceIte]<;>try subst hnil)))
   (repeat' (first | refine qS ?_ | refine qB ?_ | ((first | refine qK ?_ | refine qX ?_);simp only [ak,reduceIte]) | (refine qR ?_;simp only [ak,reduceIte];simp [f7,w1]) | (refine qC ?_;simp [f7,w1];(try with_reducible refine ⟨?_,?_⟩)<;>(try with_reducible intro hc)<;>try (exfalso;omega)) | ((first | (refine w_e [] ?_;intro J hJ;simp only []) | (refine w_q ?_;intro J hJ) | refine e_go ?_);simp [f7,w1];(repeat refine ca ?_);(try ((try with_reducible refine ⟨?_,?_⟩)<;>(try with_reducible intro hnil)<;>refine hJ _ _ ?_<;>clear hJ J<;>simp only [ak,reduceIte]<;>try subst hnil)))))
   exact hJJ (b - (k+1)) _ _ (by omega) ⟨k+1,rfl,by omega,by omega,by simp [f0,fC],by simp [f1],by simp [f2],by simp,by simp [f8],rfl,hin (.inr hxy)⟩
 clear f0 fC f1 f2 f7 f8 hs hak hkb fr k
 rintro fr st2 ⟨k,hak,hkb,⟨f0,fC⟩,f1,f2,f7,f8,rfl,hs,hfall⟩
 by_cases hkb2:k=b
 ·clear hJ0
  have hkb3:(k:Int)=(b:Int):=by omega
  (repeat' (first | refine qS ?_ | refine qB ?_ | ((first | refine qK ?_ | refine qX ?_);simp only [ak,reduceIte]) | (refine qR ?_;simp only [ak,reduceIte];simp [f2,f7,hkb3]) | (refine qC ?_;simp [f2,f7,hkb3];(try with_reducible refine ⟨?_,?_⟩)<;>(try with_reducible intro hc)<;>try (exfalso;omega)) | ((first | (refine w_e [] ?_;intro J hJ;simp only []) | (refine w_q ?_;intro J hJ) | refine e_go ?_);simp [f2,f7,hkb3];(repeat refine ca ?_);(try ((try with_reducible refine ⟨?_,?_⟩)<;>(try with_reducible intro hnil)<;>refine hJ _ _ ?_<;>clear hJ J<;>simp only [ak,reduceIte]<;>try subst hnil)))))
  exact ⟨c,rfl,hpm,fun _=>by rw [← hkb2];exact hs⟩
 have hkb3:¬ (k:Int)=(b:Int):=by omega
 have w1:IntKind.i64.wrap ((b:Int) - (a:Int))=(b:Int) - (a:Int):=wrap_i64 _ (by omega) (by omega)
 by_cases h50:(b:Int) - (a:Int) < 50
 ·clear hJ0
  (repeat' (first | refine qS ?_ | refine qB ?_ | ((first | refine qK ?_ | refine qX ?_);simp only [ak,reduceIte]) | (refine qR ?_;simp only [ak,reduceIte];simp [f1,f2,f7,hkb3,w1,h50]) | (refine qC ?_;simp [f1,f2,f7,hkb3,w1,h50];(try with_reducible refine ⟨?_,?_⟩)<;>(try with_reducible intro hc)<;>try (exfalso;omega)) | ((first | (refine w_e [] ?_;intro J hJ;simp only []) | (refine w_q ?_;intro J hJ) | refine e_go ?_);simp [f1,f2,f7,hkb3,w1,h50];(repeat refine ca ?_);(try ((try with_reducible refine ⟨?_,?_⟩)<;>(try with_reducible intro hnil)<;>refine hJ _ _ ?_<;>clear hJ J<;>simp only [ak,reduceIte]<;>try subst hnil)))))
  exact ⟨c,rfl,hpm,fun h=>by cases h⟩
 have w2:=nat_sub_one k (by omega) (by omega)
 have hd1:=ws_drop en ec c k (by omega)
 have hd2:=ws_drop en ec c (k - 1) (by omega)
 have hl1:k < l.length:=by omega
 have hl2:k - 1 < l.length:=by omega
 have hsw:=fun x y=>bx_sw en ec st q c k (k - 1) (x:=x) (y:=y) (by omega) (by omega)
 have hs1:Srt a (k - 1) (sw c k (k - 1)):=by
  intro p q h1 h2 h3
  rw [sw_get _ _ _ _ (by omega) (by omega),sw_get _ _ _ _ (by omega) (by omega),if_neg (by omega),if_neg (by omega),if_neg (by omega),if_neg (by omega)]
  exact hs p q h1 h2 (by omega)
 have hpm1:=hpm.step k (k - 1) (by omega) (by omega) (by omega) (by omega) (by omega)
 generalize hx:c.getD k 0=x at *
 generalize hy:c.getD (k - 1) 0=y at *
 have hsw':=hsw x y rfl rfl
 (repeat' (first | refine qS ?_ | refine qB ?_ | ((first | refine qK ?_ | refine qX ?_);simp only [ak,reduceIte]) | (refine qR ?_;simp only [ak,reduceIte];simp [f1,f2,f7,hkb3,w1,h50]) | (refine qC ?_;simp [f1,f2,f7,hkb3,w1,h50];(try with_reducible refine ⟨?_,?_⟩)<;>(try with_reducible intro hc)<;>try (exfalso;omega)) | ((first | (refine w_e [] ?_;intro J hJ;simp only []) | (refine w_q ?_;intro J hJ) | refine e_go ?_);simp [f1,f2,f7,hkb3,w1,h50];(repeat refine ca ?_);(try ((try with_reducible refine ⟨?_,?_⟩)<;>(try with_reducible intro hnil)<;>refine hJ _ _ ?_<;>clear hJ J<;>simp only [ak,reduceIte]<;>try subst hnil)))))
 (refine w_s [] [q] [(0,true),(1,true),(2,true),(3,true),(4,true),(5,true),(6,true),(7,true),(8,true),(9,true),(10,true),(11,true),(12,true),(13,true),(14,true),(15,false),(16,true),(17,false)] ?_;intro J hJ;simp [f0,fC,f7,w2,hl1,hl2,hcl,hd1,hd2];(repeat refine ca ?_);(try ((try with_reducible refine ⟨?_,?_⟩)<;>(try with_reducible intro hnil)<;>refine hJ _ _ ?_<;>clear hJ J<;>simp only [ak,reduceIte]<;>try subst hnil)))
 rw [hsw']
 clear hsw hsw' hd1 hd2 hx hy hs hfall
 generalize hc1:sw c k (k - 1)=c1 at *
 have hcl1:=hpm1.len
 clear hc1 hpm hcl hDc c
 have w3:IntKind.i64.wrap ((k:Int) - (a:Int))=(k:Int) - (a:Int):=wrap_i64 _ (by omega) (by omega)
 refine qS ?_
 refine awp_cut1 (PinI fid caps en ec q a b k j l st) ?_ ?_
 ·by_cases hk2:(2:Int)≤(k:Int) - (a:Int)
  rotate_left
  ·(repeat' (first | refine qS ?_ | refine qB ?_ | ((first | refine qK ?_ | refine qX ?_);simp only [ak,reduceIte]) | (refine qR ?_;simp only [ak,reduceIte];simp [f1,f7,w3,hk2]) | (refine qC ?_;simp [f1,f7,w3,hk2];(try with_reducible refine ⟨?_,?_⟩)<;>(try with_reducible intro hc)<;>try (exfalso;omega)) | ((first | (refine w_e [] ?_;intro J hJ;simp only []) | (refine w_q ?_;intro J hJ) | refine e_go ?_);simp [f1,f7,w3,hk2];(repeat refine ca ?_);(try ((try with_reducible refine ⟨?_,?_⟩)<;>(try with_reducible intro hnil)<;>refine hJ _ _ ?_<;>clear hJ J<;>simp only [ak,reduceIte]<;>try subst hnil)))))
   refine ⟨by trivial,?_⟩;unfold PinI;exact ⟨c1,by simp [f0,fC],by simp [f1],by simp [f2],by simp [f7],by simp [f8],by trivial,hpm1,fun p q h1 h2 h3=>by omega⟩
  (repeat' (first | refine qS ?_ | refine qB ?_ | ((first | refine qK ?_ | refine qX ?_);simp only [ak,reduceIte]) | (refine qR ?_;simp only [ak,reduceIte];simp [f1,f7,w3,hk2,w2]) | (refine qC ?_;simp [f1,f7,w3,hk2,w2];(try with_reducible refine ⟨?_,?_⟩)<;>(try with_reducible intro hc)<;>try (exfalso;omega)) | ((first | (refine w_e [] ?_;intro J hJ;simp only []) | (refine w_q ?_;intro J hJ) | refine e_go ?_);simp [f1,f7,w3,hk2,w2];(repeat refine ca ?_);(try ((try with_reducible refine ⟨?_,?_⟩)<;>(try with_reducible intro hnil)<;>refine hJ _ _ ?_<;>clear hJ J<;>simp only [ak,reduceIte]<;>try subst hnil)))))
  refine qL (fun n fr st2=>∃ (m:Nat) (c:List Int),a≤m∧m≤k - 1∧m=n∧(fr 0=.ms q 0 l.length∧fr 3=.fn (.func fid) caps)∧fr 1=i a∧fr 2=i b∧fr 9=i k∧fr 10=i j∧fr 11=i m∧st2=bx en ec st q c∧Pm a b l c∧Ins a m (k - 1) c) (k - 1) ?_ ?_
  ·exact ⟨k - 1,c1,by omega,by omega,rfl,by simp [f0,fC],by simp [f1],by simp [f2],by simp [f7],by simp [f8],by simp,rfl,hpm1,hs1.ins⟩
  clear f0 fC f1 f2 f7 f8 hpm1 hs1 hcl1 c1 fr
  rintro n fr st2 ⟨m,c,ham,hmk,rfl,⟨f0,fC⟩,f1,f2,f7,f8,f9,rfl,hpm,hI⟩ JJ hJJ
  have hcl:=hpm.len
  have hDc:=dm_pm hD hpm
  have hk1:k - 1+1=k:=by omega
  by_cases hm1:(1:Int)≤(m:Int)
  rotate_left
  ·clear hJJ
   (repeat' (first | refine qS ?_ | refine qB ?_ | ((first | refine qK ?_ | refine qX ?_);simp only [ak,reduceIte]) | (refine qR ?_;simp only [ak,reduceIte];simp [f9,hm1]) | (refine qC ?_;simp [f9,hm1];(try with_reducible refine ⟨?_,?_⟩)<;>(try with_reducible intro hc)<;>try (exfalso;omega)) | ((first | (refine w_e [] ?_;intro J hJ;simp only []) | (refine w_q ?_;intro J hJ) | refine e_go ?_);simp [f9,hm1];(repeat refine ca ?_);(try ((try with_reducible refine ⟨?_,?_⟩)<;>(try with_reducible intro hnil)<;>refine hJ _ _ ?_<;>clear hJ J<;>simp only [ak,reduceIte]<;>try subst hnil)))))
   refine ⟨by trivial,?_⟩;unfold PinI;refine ⟨c,by simp [f0,fC],by simp [f1],by simp [f2],by simp [f7],by simp [f8],by trivial,hpm,?_⟩
   have:=hI.done ham (.inl (by omega));rwa [hk1] at this
  have w4:=nat_sub_one m (by omega) (by omega)
  have hd1:=ws_drop en ec c m (by omega)
  have hd2:=ws_drop en ec c (m - 1) (by omega)
  have hl3:m < l.length:=by omega
  have hl4:m - 1 < l.length:=by omega
  have hsw:=fun x y=>bx_sw en ec st q c m (m - 1) (x:=x) (y:=y) (by omega) (by omega)
  have hahm:m=a→¬ c.getD m 0 < c.getD (m - 1) 0:=by
   rintro rfl
   have:=hah.pm hpm (by omega) m (by omega) (by omega)
   omega
  have hdone:=hI.done ham
  rw [hk1] at hdone
  have hstep:=fun h=>hI.step h hmk (by omega)
  generalize hx:c.getD m 0=x at *
  generalize hy:c.getD (m - 1) 0=y at *
  have hsw':=hsw x y rfl rfl
  (repeat' (first | refine qS ?_ | refine qB ?_ | ((first | refine qK ?_ | refine qX ?_);simp only [ak,reduceIte]) | (refine qR ?_;simp only [ak,reduceIte];simp [f9,hm1]) | (refine qC ?_;simp [f9,hm1];(try with_reducible refine ⟨?_,?_⟩)<;>(try with_reducible intro hc)<;>try (exfalso;omega)) | ((first | (refine w_e [] ?_;intro J hJ;simp only []) | (refine w_q ?_;intro J hJ) | refine e_go ?_);simp [f9,hm1];(repeat refine ca ?_);(try ((try with_reducible refine ⟨?_,?_⟩)<;>(try with_reducible intro hnil)<;>refine hJ _ _ ?_<;>clear hJ J<;>simp only [ak,reduceIte]<;>try subst hnil)))))
  (refine w_s [] [q] [(0,true),(1,true),(2,true),(3,true),(4,true),(5,true),(6,true),(7,true),(8,true),(9,true),(10,false),(11,true),(12,true)] ?_;intro J hJ;simp [f0,fC,f9,w4,hl3,hl4,hcl,hd1,hd2];(repeat refine ca ?_);(try ((try with_reducible refine ⟨?_,?_⟩)<;>(try with_reducible intro hnil)<;>refine hJ _ _ ?_<;>clear hJ J<;>simp only [ak,reduceIte]<;>try subst hnil)))
  refine dcallK_of (hC.call x y _ (by first | assumption | (subst_vars;exact dm_get (by assumption) (by omega))) (by first | assumption | (subst_vars;exact dm_get (by assumption) (by omega)))) ?_;rintro r s2 ⟨⟨nv,rfl,hnv⟩,rfl⟩
  refine ⟨fun _=>by simp,?_⟩
  by_cases hxy:x < y
  rotate_left
  ·clear hJJ
   (refine d_go ?_;simp [hnv,hxy];(repeat refine ca ?_);(try ((try with_reducible refine ⟨?_,?_⟩)<;>(try with_reducible intro hnil)<;>refine hJ _ _ ?_<;>clear hJ J<;>simp only [ak,reduceIte]<;>try subst hnil)))
   (repeat' (first | refine qS ?_ | refine qB ?_ | ((first | refine qK ?_ | refine qX ?_);simp only [ak,reduceIte]) | (refine qR ?_;simp only [ak,reduceIte];simp []) | (refine qC ?_;simp [];(try with_reducible refine ⟨?_,?_⟩)<;>(try with_reducible intro hc)<;>try (exfalso;omega)) | ((first | (refine w_e [] ?_;intro J hJ;simp only []) | (refine w_q ?_;intro J hJ) | refine e_go ?_);simp [];(repeat refine ca ?_);(try ((try with_reducible refine ⟨?_,?_⟩)<;>(try with_reducible intro hnil)<;>refine hJ _ _ ?_<;>clear hJ J<;>simp only [ak,reduceIte]<;>try subst hnil)))))
   refine ⟨by trivial,?_⟩;unfold PinI;exact ⟨c,by simp [f0,fC],by simp [f1],by simp [f2],by simp [f7],by simp [f8],by trivial,hpm,hdone (.inr hxy)⟩
  have hma:a < m:=by
   rcases Nat.lt_or_ge a m with h | h
   ·exact h
   ·exact absurd hxy (hahm (by omega))
  have hpm2:=hpm.step m (m - 1) (by omega) (by omega) (by omega) (by omega) (by omega)
  (refine d_go ?_;simp [hnv,hxy];(repeat refine ca ?_);(try ((try with_reducible refine ⟨?_,?_⟩)<;>(try with_reducible intro hnil)<;>refine hJ _ _ ?_<;>clear hJ J<;>simp only [ak,reduceIte]<;>try subst hnil)))
  (repeat' (first | refine qS ?_ | refine qB ?_ | ((first | refine qK ?_ | refine qX ?_);simp only [ak,reduceIte]) | (refine qR ?_;simp only [ak,reduceIte];simp []) | (refine qC ?_;simp [];(try with_reducible refine ⟨?_,?_⟩)<;>(try with_reducible intro hc)<;>try (exfalso;omega)) | ((first | (refine w_e [] ?_;intro J hJ;simp only []) | (refine w_q ?_;intro J hJ) | refine e_go ?_);simp [];(repeat refine ca ?_);(try ((try with_reducible refine ⟨?_,?_⟩)<;>(try with_reducible intro hnil)<;>refine hJ _ _ ?_<;>clear hJ J<;>simp only [ak,reduceIte]<;>try subst hnil)))))
  (refine w_s [] [q] [(0,true),(1,true),(2,true),(3,true),(4,true),(5,true),(6,true),(7,true),(8,true),(9,true),(10,true),(11,true),(12,true),(13,true),(14,true),(15,false),(16,true),(17,false)] ?_;intro J hJ;simp [f0,fC,f9,w4,hl3,hl4,hcl,hd1,hd2];(repeat refine ca ?_);(try ((try with_reducible refine ⟨?_,?_⟩)<;>(try with_reducible intro hnil)<;>refine hJ _ _ ?_<;>clear hJ J<;>simp only [ak,reduceIte]<;>try subst hnil)))
  (repeat' (first | refine qS ?_ | refine qB ?_ | ((first | refine qK ?_ | refine qX ?_);simp only [ak,reduceIte]) | (refine qR ?_;simp only [ak,reduceIte];simp [f9,w4]) | (refine qC ?_;simp [f9,w4];(try with_reducible refine ⟨?_,?_⟩)<;>(try with_reducible intro hc)<;>try (exfalso;omega)) | ((first | (refine w_e [] ?_;intro J hJ;simp only []) | (refine w_q ?_;intro J hJ) | refine e_go ?_);simp [f9,w4];(repeat refine ca ?_);(try ((try with_reducible refine ⟨?_,?_⟩)<;>(try with_reducible intro hnil)<;>refine hJ _ _ ?_<;>clear hJ J<;>simp only [ak,reduceIte]<;>try subst hnil)))))
  exact hJJ (m - 1) _ _ (by omega) ⟨m - 1,sw c m (m - 1),by omega,by omega,rfl,by simp [f0,fC],by simp [f1],by simp [f2],by simp [f7],by simp [f8],by simp,hsw',hpm2,hstep hma hxy⟩
 clear f0 fC f1 f2 f7 f8 hpm1 hs1 hcl1 c1 fr
 rintro fr st2 ⟨c,⟨f0,fC⟩,f1,f2,f7,f8,rfl,hpm,hs⟩
 have hcl:=hpm.len
 have hDc:=dm_pm hD hpm
 have w5:IntKind.i64.wrap ((b:Int) - (k:Int))=(b:Int) - (k:Int):=wrap_i64 _ (by omega) (by omega)
 have w6:=qN j (by omega)
 have w7:=qN k (by omega)
 by_cases hk2:(2:Int)≤(b:Int) - (k:Int)
 rotate_left
 ·(repeat' (first | refine qS ?_ | refine qB ?_ | ((first | refine qK ?_ | refine qX ?_);simp only [ak,reduceIte]) | (refine qR ?_;simp only [ak,reduceIte];simp [f2,f7,w5,hk2,f8,w6]) | (refine qC ?_;simp [f2,f7,w5,hk2,f8,w6];(try with_reducible refine ⟨?_,?_⟩)<;>(try with_reducible intro hc)<;>try (exfalso;omega)) | ((first | (refine w_e [] ?_;intro J hJ;simp only []) | (refine w_q ?_;intro J hJ) | refine e_go ?_);simp [f2,f7,w5,hk2,f8,w6];(repeat refine ca ?_);(try ((try with_reducible refine ⟨?_,?_⟩)<;>(try with_reducible intro hnil)<;>refine hJ _ _ ?_<;>clear hJ J<;>simp only [ak,reduceIte]<;>try subst hnil)))))
  exact hJ0 (5 - (j+1)) _ _ (by omega) ⟨j+1,k,c,by omega,rfl,hak,hkb,by simp [f0,fC],by simp [f1],by simp [f2],by simp [f7],by simp,rfl,hpm,hs⟩
 (repeat' (first | refine qS ?_ | refine qB ?_ | ((first | refine qK ?_ | refine qX ?_);simp only [ak,reduceIte]) | (refine qR ?_;simp only [ak,reduceIte];simp [f2,f7,w5,hk2,w7]) | (refine qC ?_;simp [f2,f7,w5,hk2,w7];(try with_reducible refine ⟨?_,?_⟩)<;>(try with_reducible intro hc)<;>try (exfalso;omega)) | ((first | (refine w_e [] ?_;intro J hJ;simp only []) | (refine w_q ?_;intro J hJ) | refine e_go ?_);simp [f2,f7,w5,hk2,w7];(repeat refine ca ?_);(try ((try with_reducible refine ⟨?_,?_⟩)<;>(try with_reducible intro hnil)<;>refine hJ _ _ ?_<;>clear hJ J<;>simp only [ak,reduceIte]<;>try subst hnil)))))
 refine qL (fun n fr st2=>∃ (m:Nat) (c:List Int),k < m∧m≤b∧n=b - m∧(fr 0=.ms q 0 l.length∧fr 3=.fn (.func fid) caps)∧fr 1=i a∧fr 2=i b∧fr 9=i k∧fr 10=i j∧fr 12=i m∧st2=bx en ec st q c∧Pm a b l c∧Srt a k c) (b - (k+1)) ?_ ?_
 ·exact ⟨k+1,c,by omega,by omega,rfl,by simp [f0,fC],by simp [f1],by simp [f2],by simp [f7],by simp [f8],by simp,rfl,hpm,hs⟩
 clear f0 fC f1 f2 f7 f8 hpm hs hcl hDc c fr
 rintro n fr st2 ⟨m,c,hkm,hmb,rfl,⟨f0,fC⟩,f1,f2,f7,f8,f10,rfl,hpm,hs⟩ JJ hJJ
 have hcl:=hpm.len
 have hDc:=dm_pm hD hpm
 by_cases hlt:m < b
 rotate_left
 ·clear hJJ
  (repeat' (first | refine qS ?_ | refine qB ?_ | ((first | refine qK ?_ | refine qX ?_);simp only [ak,reduceIte]) | (refine qR ?_;simp only [ak,reduceIte];simp [f2,f10,hlt,f8,w6]) | (refine qC ?_;simp [f2,f10,hlt,f8,w6];(try with_reducible refine ⟨?_,?_⟩)<;>(try with_reducible intro hc)<;>try (exfalso;omega)) | ((first | (refine w_e [] ?_;intro J hJ;simp only []) | (refine w_q ?_;intro J hJ) | refine e_go ?_);simp [f2,f10,hlt,f8,w6];(repeat refine ca ?_);(try ((try with_reducible refine ⟨?_,?_⟩)<;>(try with_reducible intro hnil)<;>refine hJ _ _ ?_<;>clear hJ J<;>simp only [ak,reduceIte]<;>try subst hnil)))))
  exact hJ0 (5 - (j+1)) _ _ (by omega) ⟨j+1,k,c,by omega,rfl,hak,hkb,by simp [f0,fC],by simp [f1],by simp [f2],by simp [f7],by simp,rfl,hpm,hs⟩
 have w4:=nat_sub_one m (by omega) (by omega)
 have w8:=qN m (by omega)
 have hd1:=ws_drop en ec c m (by omega)
 have hd2:=ws_drop en ec c (m - 1) (by omega)
 have hl3:m < l.length:=by omega
 have hl4:m - 1 < l.length:=by omega
 have hsw:=fun x y=>bx_sw en ec st q c m (m - 1) (x:=x) (y:=y) (by omega) (by omega)
 have hpm2:=hpm.step m (m - 1) (by omega) (by omega) (by omega) (by omega) (by omega)
 have hs2:Srt a k (sw c m (m - 1)):=by
  intro p q h1 h2 h3
  rw [sw_get _ _ _ _ (by omega) (by omega),sw_get _ _ _ _ (by omega) (by omega),if_neg (by omega),if_neg (by omega),if_neg (by omega),if_neg (by omega)]
  exact hs p q h1 h2 (by omega)
 generalize hx:c.getD m 0=x at *
 generalize hy:c.getD (m - 1) 0=y at *
 have hsw':=hsw x y rfl rfl
 (repeat' (first | refine qS ?_ | refine qB ?_ | ((first | refine qK ?_ | refine qX ?_);simp only [ak,reduceIte]) | (refine qR ?_;simp only [ak,reduceIte];simp [f2,f10,hlt]) | (refine qC ?_;simp [f2,f10,hlt];(try with_reducible refine ⟨?_,?_⟩)<;>(try with_reducible intro hc)<;>try (exfalso;omega)) | ((first | (refine w_e [] ?_;intro J hJ;simp only []) | (refine w_q ?_;intro J hJ) | refine e_go ?_);simp [f2,f10,hlt];(repeat refine ca ?_);(try ((try with_reducible refine ⟨?_,?_⟩)<;>(try with_reducible intro hnil)<;>refine hJ _ _ ?_<;>clear hJ J<;>simp only [ak,reduceIte]<;>try subst hnil)))))
 (refine w_s [] [q] [(0,true),(1,true),(2,true),(3,true),(4,true),(5,true),(6,true),(7,true),(8,true),(9,true),(10,false),(11,true),(12,true)] ?_;intro J hJ;simp [f0,fC,f10,w4,hl3,hl4,hcl,hd1,hd2];(repeat refine ca ?_);(try ((try with_reducible refine ⟨?_,?_⟩)<;>(try with_reducible intro hnil)<;>refine hJ _ _ ?_<;>clear hJ J<;>simp only [ak,reduceIte]<;>try subst hnil)))
 refine dcallK_of (hC.call x y _ (by first | assumption | (subst_vars;exact dm_get (by assumption) (by omega))) (by first | assumption | (subst_vars;exact dm_get (by assumption) (by omega)))) ?_;rintro r s2 ⟨⟨nv,rfl,hnv⟩,rfl⟩
 refine ⟨fun _=>by simp,?_⟩
 by_cases hxy:x < y
 rotate_left
 ·clear hJJ
  (refine d_go ?_;simp [hnv,hxy];(repeat refine ca ?_);(try ((try with_reducible refine ⟨?_,?_⟩)<;>(try with_reducible intro hnil)<;>refine hJ _ _ ?_<;>clear hJ J<;>simp only [ak,reduceIte]<;>try subst hnil)))
  (repeat' (first | refine qS ?_ | refine qB ?_ | ((first | refine qK ?_ | refine qX ?_);simp only [ak,reduceIte]) | (refine qR ?_;simp only [ak,reduceIte];simp [f8,w6]) | (refine qC ?_;simp [f8,w6];(try with_reducible refine ⟨?_,?_⟩)<;>(try with_reducible intro hc)<;>try (exfalso;omega)) | ((first | (refine w_e [] ?_;intro J hJ;simp only []) | (refine w_q ?_;intro J hJ) | refine e_go ?_);simp [f8,w6];(repeat refine ca ?_);(try ((try with_reducible refine ⟨?_,?_⟩)<;>(try with_reducible intro hnil)<;>refine hJ _ _ ?_<;>clear hJ J<;>simp only [ak,reduceIte]<;>try subst hnil)))))
  exact hJ0 (5 - (j+1)) _ _ (by omega) ⟨j+1,k,c,by omega,rfl,hak,hkb,by simp [f0,fC],by simp [f1],by simp [f2],by simp [f7],by simp,rfl,hpm,hs⟩
 (refine d_go ?_;simp [hnv,hxy];(repeat refine ca ?_);(try ((try with_reducible refine ⟨?_,?_⟩)<;>(try with_reducible intro hnil)<;>refine hJ _ _ ?_<;>clear hJ J<;>simp only [ak,reduceIte]<;>try subst hnil)))
 (repeat' (first | refine qS ?_ | refine qB ?_ | ((first | refine qK ?_ | refine qX ?_);simp only [ak,reduceIte]) | (refine qR ?_;simp only [ak,reduceIte];simp []) | (refine qC ?_;simp [];(try with_reducible refine ⟨?_,?_⟩)<;>(try with_reducible intro hc)<;>try (exfalso;omega)) | ((first | (refine w_e [] ?_;intro J hJ;simp only []) | (refine w_q ?_;intro J hJ) | refine e_go ?_);simp [];(repeat refine ca ?_);(try ((try with_reducible refine ⟨?_,?_⟩)<;>(try with_reducible intro hnil)<;>refine hJ _ _ ?_<;>clear hJ J<;>simp only [ak,reduceIte]<;>try subst hnil)))))
 (refine w_s [] [q] [(0,true),(1,true),(2,true),(3,true),(4,true),(5,true),(6,true),(7,true),(8,true),(9,true),(10,true),(11,true),(12,true),(13,true),(14,true),(15,false),(16,true),(17,false)] ?_;intro J hJ;simp [f0,fC,f10,w4,hl3,hl4,hcl,hd1,hd2];(repeat refine ca ?_);(try ((try with_reducible refine ⟨?_,?_⟩)<;>(try with_reducible intro hnil)<;>refine hJ _ _ ?_<;>clear hJ J<;>simp only [ak,reduceIte]<;>try subst hnil)))
 (repeat' (first | refine qS ?_ | refine qB ?_ | ((first | refine qK ?_ | refine qX ?_);simp only [ak,reduceIte]) | (refine qR ?_;simp only [ak,reduceIte];simp [f10,w8]) | (refine qC ?_;simp [f10,w8];(try with_reducible refine ⟨?_,?_⟩)<;>(try with_reducible intro hc)<;>try (exfalso;omega)) | ((first | (refine w_e [] ?_;intro J hJ;simp only []) | (refine w_q ?_;intro J hJ) | refine e_go ?_);simp [f10,w8];(repeat refine ca ?_);(try ((try with_reducible refine ⟨?_,?_⟩)<;>(try with_reducible intro hnil)<;>refine hJ _ _ ?_<;>clear hJ J<;>simp only [ak,reduceIte]<;>try subst hnil)))))
 exact hJJ (b - (m+1)) _ _ (by omega) ⟨m+1,sw c m (m - 1),by omega,by omega,rfl,by simp [f0,fC],by simp [f1],by simp [f2],by simp [f7],by simp [f8],by simp,hsw',hpm2,hs2⟩
abbrev ix (st:St) (p:Nat) (s:Int):St:=st.set p (.box 3 1 [i s])
theorem ix_self {st:St} {p:Nat} {s:Int} (h:st.H p=.box 3 1 [i s]):st=ix st p s:=
 St.ext' rfl fun x=>by by_cases hx:x=p<;>simp [hx,h]
theorem ix_ix (st:St) (p:Nat) (s s':Int):ix (ix st p s) p s'=ix st p s':=St.set_set _ _ _ _
theorem order2 {fid:FuncId} {caps:List LV} {en:Int→Nat} {ec:Int→List LV} {Dm:Int→Prop} (hC:CmpW fid caps en ec Dm) (l:List Int) (q p a b:Nat) (s:Int) (st:St) (hD:∀ x∈l,Dm x) (hl:small l) (ha:a < l.length) (hb:b < l.length) (hpq:q≠p) (hH:st.H q=.box 23 1 (ws en ec l)) (hp:st.H p=.box 3 1 [i s]):
 ACalls Tryz.prog 99 [.ms q 0 l.length,i a,i b,.pt p 0,.fn (.func fid) caps] st fun r st'=>∃ (x y:Nat) (s':Int),r=.tu [i x,i y]∧st'=ix st p s'∧((x=a∧y=b)∨(x=b∧y=a)):=by
 unfold small at hl
 have hDa:=dm_get hD ha
 have hDb:=dm_get hD hb
 have hd1:=ws_drop en ec l a ha
 have hd2:=ws_drop en ec l b hb
 generalize l.getD a 0=x at *
 generalize l.getD b 0=y at *
 refine qO tabOk Tryz.func99 rfl rfl Tryz.ntmps99 (rs:=[.tmp 10,.tmp 11]) rfl (by simp) ?_
 (repeat (refine qS ?_));(refine w_e [] ?_;intro J hJ;simp only [];simp [];(repeat refine ca ?_);(try ((try with_reducible refine ⟨?_,?_⟩)<;>(try with_reducible intro hnil)<;>refine hJ _ _ ?_<;>clear hJ J<;>simp only [ak,reduceIte]<;>try subst hnil)))
 (repeat (refine qS ?_));(refine w_s [] [q] [(0,true),(1,true),(2,true),(3,true),(4,true),(5,true),(6,true),(7,true),(8,true),(9,false),(10,true)] ?_;intro J hJ;simp [hH,ha,hb,hd1,hd2];(repeat refine ca ?_);(try ((try with_reducible refine ⟨?_,?_⟩)<;>(try with_reducible intro hnil)<;>refine hJ _ _ ?_<;>clear hJ J<;>simp only [ak,reduceIte]<;>try subst hnil)))
 refine dcallK_of (hC.call y x _ (by first | assumption | (subst_vars;exact dm_get (by assumption) (by omega))) (by first | assumption | (subst_vars;exact dm_get (by assumption) (by omega)))) ?_;rintro r s2 ⟨⟨nv,rfl,hnv⟩,rfl⟩
 refine ⟨fun _=>by simp [hH],?_⟩
 by_cases hyx:y < x
 ·(refine d_go ?_;simp [hnv,hyx];(repeat refine ca ?_);(try ((try with_reducible refine ⟨?_,?_⟩)<;>(try with_reducible intro hnil)<;>refine hJ _ _ ?_<;>clear hJ J<;>simp only [ak,reduceIte]<;>try subst hnil)))
  (repeat' (first | refine qS ?_ | refine qB ?_ | ((first | refine qK ?_ | refine qX ?_);simp only [ak,reduceIte]) | (refine qR ?_;simp only [ak,reduceIte];simp [hp]) | (refine qC ?_;simp [hp];(try with_reducible refine ⟨?_,?_⟩)<;>(try with_reducible intro hc)<;>try (exfalso;omega)) | ((first | (refine w_e [] ?_;intro J hJ;simp only []) | (refine w_q ?_;intro J hJ) | refine e_go ?_);simp [hp];(repeat refine ca ?_);(try ((try with_reducible refine ⟨?_,?_⟩)<;>(try with_reducible intro hnil)<;>refine hJ _ _ ?_<;>clear hJ J<;>simp only [ak,reduceIte]<;>try subst hnil)))))
  exact ⟨b,a,⟨rfl,rfl⟩,⟨_,rfl⟩,.inr ⟨rfl,rfl⟩⟩
 ·(refine d_go ?_;simp [hnv,hyx];(repeat refine ca ?_);(try ((try with_reducible refine ⟨?_,?_⟩)<;>(try with_reducible intro hnil)<;>refine hJ _ _ ?_<;>clear hJ J<;>simp only [ak,reduceIte]<;>try subst hnil)))
  (repeat' (first | refine qS ?_ | refine qB ?_ | ((first | refine qK ?_ | refine qX ?_);simp only [ak,reduceIte]) | (refine qR ?_;simp only [ak,reduceIte];simp []) | (refine qC ?_;simp [];(try with_reducible refine ⟨?_,?_⟩)<;>(try with_reducible intro hc)<;>try (exfalso;omega)) | ((first | (refine w_e [] ?_;intro J hJ;simp only []) | (refine w_q ?_;intro J hJ) | refine e_go ?_);simp [];(repeat refine ca ?_);(try ((try with_reducible refine ⟨?_,?_⟩)<;>(try with_reducible intro hnil)<;>refine hJ _ _ ?_<;>clear hJ J<;>simp only [ak,reduceIte]<;>try subst hnil)))))
  exact ⟨a,b,⟨rfl,rfl⟩,⟨s,ix_self hp⟩,.inl ⟨rfl,rfl⟩⟩
theorem median {fid:FuncId} {caps:List LV} {en:Int→Nat} {ec:Int→List LV} {Dm:Int→Prop} (hC:CmpW fid caps en ec Dm) (l:List Int) (q p a b c:Nat) (s:Int) (st:St) (hD:∀ x∈l,Dm x) (hl:small l) (ha:a < l.length) (hb:b < l.length) (hc:c < l.length) (hpq:q≠p) (hH:st.H q=.box 23 1 (ws en ec l)) (hp:st.H p=.box 3 1 [i s]):
 ACalls Tryz.prog 79 [.ms q 0 l.length,i a,i b,i c,.pt p 0,.fn (.func fid) caps] st fun r st'=>∃ (x:Nat) (s':Int),r=i x∧st'=ix st p s'∧(x=a∨x=b∨x=c):=by
 refine qO tabOk Tryz.func79 rfl rfl Tryz.ntmps79 (rs:=[.tmp 12]) rfl (by simp) ?_
 (repeat' (first | refine qS ?_ | refine qB ?_ | ((first | refine qK ?_ | refine qX ?_);simp only [ak,reduceIte]) | (refine qR ?_;simp only [ak,reduceIte];simp []) | (refine qC ?_;simp [];(try with_reducible refine ⟨?_,?_⟩)<;>(try with_reducible intro hc)<;>try (exfalso;omega)) | ((first | (refine w_e [] ?_;intro J hJ;simp only []) | (refine w_q ?_;intro J hJ) | refine e_go ?_);simp [];(repeat refine ca ?_);(try ((try with_reducible refine ⟨?_,?_⟩)<;>(try with_reducible intro hnil)<;>refine hJ _ _ ?_<;>clear hJ J<;>simp only [ak,reduceIte]<;>try subst hnil)))))
 refine qF (order2 hC l q p a b s _ hD hl ha hb hpq hH hp) ?_;rintro r st' ⟨x,y,s1,rfl,rfl,h1⟩
 (repeat' (first | refine qS ?_ | refine qB ?_ | ((first | refine qK ?_ | refine qX ?_);simp only [ak,reduceIte]) | (refine qR ?_;simp only [ak,reduceIte];simp []) | (refine qC ?_;simp [];(try with_reducible refine ⟨?_,?_⟩)<;>(try with_reducible intro hc)<;>try (exfalso;omega)) | ((first | (refine w_e [] ?_;intro J hJ;simp only []) | (refine w_q ?_;intro J hJ) | refine e_go ?_);simp [];(repeat refine ca ?_);(try ((try with_reducible refine ⟨?_,?_⟩)<;>(try with_reducible intro hnil)<;>refine hJ _ _ ?_<;>clear hJ J<;>simp only [ak,reduceIte]<;>try subst hnil)))))
 refine qF (order2 hC l q p y c s1 _ hD hl (by omega) hc hpq (by simp [hpq,hH]) (by simp)) ?_;rintro r st' ⟨x2,y2,s2,rfl,rfl,h2⟩
 (repeat' (first | refine qS ?_ | refine qB ?_ | ((first | refine qK ?_ | refine qX ?_);simp only [ak,reduceIte]) | (refine qR ?_;simp only [ak,reduceIte];simp []) | (refine qC ?_;simp [];(try with_reducible refine ⟨?_,?_⟩)<;>(try with_reducible intro hc)<;>try (exfalso;omega)) | ((first | (refine w_e [] ?_;intro J hJ;simp only []) | (refine w_q ?_;intro J hJ) | refine e_go ?_);simp [];(repeat refine ca ?_);(try ((try with_reducible refine ⟨?_,?_⟩)<;>(try with_reducible intro hnil)<;>refine hJ _ _ ?_<;>clear hJ J<;>simp only [ak,reduceIte]<;>try subst hnil)))))
 refine qF (order2 hC l q p x x2 s2 _ hD hl (by omega) (by omega) hpq (by simp [hpq,hH]) (by simp)) ?_;rintro r st' ⟨x3,y3,s3,rfl,rfl,h3⟩
 (repeat' (first | refine qS ?_ | refine qB ?_ | ((first | refine qK ?_ | refine qX ?_);simp only [ak,reduceIte]) | (refine qR ?_;simp only [ak,reduceIte];simp []) | (refine qC ?_;simp [];(try with_reducible refine ⟨?_,?_⟩)<;>(try with_reducible intro hc)<;>try (exfalso;omega)) | ((first | (refine w_e [] ?_;intro J hJ;simp only []) | (refine w_q ?_;intro J hJ) | refine e_go ?_);simp [];(repeat refine ca ?_);(try ((try with_reducible refine ⟨?_,?_⟩)<;>(try with_reducible intro hnil)<;>refine hJ _ _ ?_<;>clear hJ J<;>simp only [ak,reduceIte]<;>try subst hnil)))))
 refine ⟨y3,rfl,⟨s3,?_⟩,by omega⟩
 rw [ix_ix,ix_ix]
theorem medianAdjacent {fid:FuncId} {caps:List LV} {en:Int→Nat} {ec:Int→List LV} {Dm:Int→Prop} (hC:CmpW fid caps en ec Dm) (l:List Int) (q p a:Nat) (s:Int) (st:St) (hD:∀ x∈l,Dm x) (hl:small l) (h0:0 < a) (ha:a+1 < l.length) (hpq:q≠p) (hH:st.H q=.box 23 1 (ws en ec l)) (hp:st.H p=.box 3 1 [i s]):
 ACalls Tryz.prog 78 [.ms q 0 l.length,i a,.pt p 0,.fn (.func fid) caps] st fun r st'=>∃ (x:Nat) (s':Int),r=i x∧st'=ix st p s'∧a - 1≤x∧x≤a+1:=by
 have hl':=hl
 unfold small at hl'
 have w1:=qN a (by omega)
 have w2:=nat_sub_one a (by omega) (by omega)
 refine qO tabOk Tryz.func78 rfl rfl Tryz.ntmps78 (rs:=[.tmp 8]) rfl (by simp) ?_
 (repeat' (first | refine qS ?_ | refine qB ?_ | ((first | refine qK ?_ | refine qX ?_);simp only [ak,reduceIte]) | (refine qR ?_;simp only [ak,reduceIte];simp [w1,w2]) | (refine qC ?_;simp [w1,w2];(try with_reducible refine ⟨?_,?_⟩)<;>(try with_reducible intro hc)<;>try (exfalso;omega)) | ((first | (refine w_e [] ?_;intro J hJ;simp only []) | (refine w_q ?_;intro J hJ) | refine e_go ?_);simp [w1,w2];(repeat refine ca ?_);(try ((try with_reducible refine ⟨?_,?_⟩)<;>(try with_reducible intro hnil)<;>refine hJ _ _ ?_<;>clear hJ J<;>simp only [ak,reduceIte]<;>try subst hnil)))))
 refine qF (median hC l q p (a - 1) a (a+1) s _ hD hl (by omega) (by omega) (by omega) hpq hH hp) ?_;rintro r st' ⟨x,s1,rfl,rfl,h1⟩
 (repeat' (first | refine qS ?_ | refine qB ?_ | ((first | refine qK ?_ | refine qX ?_);simp only [ak,reduceIte]) | (refine qR ?_;simp only [ak,reduceIte];simp []) | (refine qC ?_;simp [];(try with_reducible refine ⟨?_,?_⟩)<;>(try with_reducible intro hc)<;>try (exfalso;omega)) | ((first | (refine w_e [] ?_;intro J hJ;simp only []) | (refine w_q ?_;intro J hJ) | refine e_go ?_);simp [];(repeat refine ca ?_);(try ((try with_reducible refine ⟨?_,?_⟩)<;>(try with_reducible intro hnil)<;>refine hJ _ _ ?_<;>clear hJ J<;>simp only [ak,reduceIte]<;>try subst hnil)))))
 exact ⟨x,rfl,⟨s1,rfl⟩,by omega⟩
def PivI (fid:FuncId) (caps:List LV) (en:Int→Nat) (ec:Int→List LV) (q n a b:Nat) (st:St) (fr:Frm) (st2:St):Prop:=∃ (j1 j2 j3:Nat) (s:Int),(fr 0=.ms q 0 n∧fr 3=.fn (.func fid) caps)∧fr 11=.pt st.next 0∧fr 12=i j1∧fr 13=i j2∧fr 14=i j3∧a≤j1∧j1 < b∧a≤j2∧j2 < b∧a≤j3∧j3 < b∧st2=ix (st.new (.box 3 1 [i 0])) st.next s
set_option maxHeartbeats 1000000 in
theorem choosePivot {fid:FuncId} {caps:List LV} {en:Int→Nat} {ec:Int→List LV} {Dm:Int→Prop} (hC:CmpW fid caps en ec Dm) (l:List Int) (q a b:Nat) (st:St) (hD:∀ x∈l,Dm x) (hl:small l) (hab:a+8≤b) (hb:b≤l.length) (hqn:q < st.next) (hH:st.H q=.box 23 1 (ws en ec l)):
 ACalls Tryz.prog 51 [.ms q 0 l.length,i a,i b,.fn (.func fid) caps] st fun r st'=>∃ (x:Nat) (h:Int),r=.tu [i x,i h]∧a≤x∧x < b∧Keeps st st':=by
 have hl':=hl
 unfold small at hl'
 obtain ⟨n,hn⟩:∃ n:Nat,n=b - a:=⟨_,rfl⟩
 obtain ⟨n4,hn4⟩:∃ m:Nat,m=n / 4:=⟨_,rfl⟩
 obtain ⟨k1,hk1⟩:∃ m:Nat,m=a+n4:=⟨_,rfl⟩
 obtain ⟨k2,hk2⟩:∃ m:Nat,m=a+n4 * 2:=⟨_,rfl⟩
 obtain ⟨k3,hk3⟩:∃ m:Nat,m=a+n4 * 3:=⟨_,rfl⟩
 have w1:IntKind.i64.wrap ((b:Int) - (a:Int))=(n:Int):=by rw [wrap_i64 _ (by omega) (by omega)];omega
 have w2:IntKind.i64.wrap ((n:Int) / 4)=(n4:Int):=by
  rw [show (n:Int) / 4=((n / 4:Nat):Int) from rfl,← hn4]
  exact wrap_i64 _ (by omega) (by omega)
 have w3:IntKind.i64.wrap (n4:Int)=(n4:Int):=wrap_i64 _ (by omega) (by omega)
 have w4:IntKind.i64.wrap ((n4:Int) * 2)=((n4 * 2:Nat):Int):=by rw [wrap_i64 _ (by omega) (by omega)];omega
 have w5:IntKind.i64.wrap ((n4:Int) * 3)=((n4 * 3:Nat):Int):=by rw [wrap_i64 _ (by omega) (by omega)];omega
 have w6:IntKind.i64.wrap ((a:Int)+(n4:Int))=(k1:Int):=by rw [wrap_i64 _ (by omega) (by omega)];omega
 have w7:IntKind.i64.wrap ((a:Int)+((n4 * 2:Nat):Int))=(k2:Int):=by rw [wrap_i64 _ (by omega) (by omega)];omega
 have w8:IntKind.i64.wrap ((a:Int)+((n4 * 3:Nat):Int))=(k3:Int):=by rw [wrap_i64 _ (by omega) (by omega)];omega
 have h8:(8:Int)≤(n:Int):=by omega
 have hqn':q≠st.next:=by omega
 generalize ((n4 * 2:Nat):Int)=e2 at *
 generalize ((n4 * 3:Nat):Int)=e3 at *
 refine qO tabOk Tryz.func51 rfl rfl Tryz.ntmps51 (rs:=[.tmp 8,.tmp 9]) rfl (by simp) ?_
 (repeat' (first | refine qS ?_ | refine qB ?_ | ((first | refine qK ?_ | refine qX ?_);simp only [ak,reduceIte]) | (refine qR ?_;simp only [ak,reduceIte];simp [w1,w2,w3,w4,w5,w6,w7,w8,h8]) | ((first | (refine w_e [] ?_;intro J hJ;simp only []) | (refine w_q ?_;intro J hJ) | refine e_go ?_);simp [w1,w2,w3,w4,w5,w6,w7,w8,h8];(repeat refine ca ?_);(try ((try with_reducible refine ⟨?_,?_⟩)<;>(try with_reducible intro hnil)<;>refine hJ _ _ ?_<;>clear hJ J<;>simp only [ak,reduceIte]<;>try subst hnil)))))
 refine qC ?_;simp [h8]
 refine qS ?_
 refine awp_cut1 (PivI fid caps en ec q l.length a b st) ?_ ?_
 ·by_cases h50:(50:Int)≤(n:Int)
  ·(repeat' (first | refine qS ?_ | refine qB ?_ | ((first | refine qK ?_ | refine qX ?_);simp only [ak,reduceIte]) | (refine qR ?_;simp only [ak,reduceIte];simp [h50]) | (refine qC ?_;simp [h50];(try with_reducible refine ⟨?_,?_⟩)<;>(try with_reducible intro hc)<;>try (exfalso;omega)) | ((first | (refine w_e [] ?_;intro J hJ;simp only []) | (refine w_q ?_;intro J hJ) | refine e_go ?_);simp [h50];(repeat refine ca ?_);(try ((try with_reducible refine ⟨?_,?_⟩)<;>(try with_reducible intro hnil)<;>refine hJ _ _ ?_<;>clear hJ J<;>simp only [ak,reduceIte]<;>try subst hnil)))))
   refine qF (medianAdjacent hC l q st.next k1 0 _ hD hl (by omega) (by omega) hqn' (by simp [hqn',hH]) (by simp)) ?_;rintro r st' ⟨x1,s1,rfl,rfl,h1⟩
   (repeat' (first | refine qS ?_ | refine qB ?_ | ((first | refine qK ?_ | refine qX ?_);simp only [ak,reduceIte]) | (refine qR ?_;simp only [ak,reduceIte];simp []) | (refine qC ?_;simp [];(try with_reducible refine ⟨?_,?_⟩)<;>(try with_reducible intro hc)<;>try (exfalso;omega)) | ((first | (refine w_e [] ?_;intro J hJ;simp only []) | (refine w_q ?_;intro J hJ) | refine e_go ?_);simp [];(repeat refine ca ?_);(try ((try with_reducible refine ⟨?_,?_⟩)<;>(try with_reducible intro hnil)<;>refine hJ _ _ ?_<;>clear hJ J<;>simp only [ak,reduceIte]<;>try subst hnil)))))
   refine qF (medianAdjacent hC l q st.next k2 s1 _ hD hl (by omega) (by omega) hqn' (by simp [hqn',hH]) (by simp)) ?_;rintro r st' ⟨x2,s2,rfl,rfl,h2⟩
   (repeat' (first | refine qS ?_ | refine qB ?_ | ((first | refine qK ?_ | refine qX ?_);simp only [ak,reduceIte]) | (refine qR ?_;simp only [ak,reduceIte];simp []) | (refine qC ?_;simp [];(try with_reducible refine ⟨?_,?_⟩)<;>(try with_reducible intro hc)<;>try (exfalso;omega)) | ((first | (refine w_e [] ?_;intro J hJ;simp only []) | (refine w_q ?_;intro J hJ) | refine e_go ?_);simp [];(repeat refine ca ?_);(try ((try with_reducible refine ⟨?_,?_⟩)<;>(try with_reducible intro hnil)<;>refine hJ _ _ ?_<;>clear hJ J<;>simp only [ak,reduceIte]<;>try subst hnil)))))
   refine qF (medianAdjacent hC l q st.next k3 s2 _ hD hl (by omega) (by omega) hqn' (by simp [hqn',hH]) (by simp)) ?_;rintro r st' ⟨x3,s3,rfl,rfl,h3⟩
   (repeat' (first | refine qS ?_ | refine qB ?_ | ((first | refine qK ?_ | refine qX ?_);simp only [ak,reduceIte]) | (refine qR ?_;simp only [ak,reduceIte];simp []) | (refine qC ?_;simp [];(try with_reducible refine ⟨?_,?_⟩)<;>(try with_reducible intro hc)<;>try (exfalso;omega)) | ((first | (refine w_e [] ?_;intro J hJ;simp only []) | (refine w_q ?_;intro J hJ) | refine e_go ?_);simp [];(repeat refine ca ?_);(try ((try with_reducible refine ⟨?_,?_⟩)<;>(try with_reducible intro hnil)<;>refine hJ _ _ ?_<;>clear hJ J<;>simp only [ak,reduceIte]<;>try subst hnil)))))
   refine ⟨by trivial,?_⟩;unfold PivI;exact ⟨x1,x2,x3,s3,by simp,by simp,by simp,by simp,by simp,by omega,by omega,by omega,by omega,by omega,by omega,by rw [ix_ix,ix_ix]⟩
  ·(repeat' (first | refine qS ?_ | refine qB ?_ | ((first | refine qK ?_ | refine qX ?_);simp only [ak,reduceIte]) | (refine qR ?_;simp only [ak,reduceIte];simp [h50]) | (refine qC ?_;simp [h50];(try with_reducible refine ⟨?_,?_⟩)<;>(try with_reducible intro hc)<;>try (exfalso;omega)) | ((first | (refine w_e [] ?_;intro J hJ;simp only []) | (refine w_q ?_;intro J hJ) | refine e_go ?_);simp [h50];(repeat refine ca ?_);(try ((try with_reducible refine ⟨?_,?_⟩)<;>(try with_reducible intro hnil)<;>refine hJ _ _ ?_<;>clear hJ J<;>simp only [ak,reduceIte]<;>try subst hnil)))))
   refine ⟨by trivial,?_⟩;unfold PivI;exact ⟨k1,k2,k3,0,by simp,by simp,by simp,by simp,by simp,by omega,by omega,by omega,by omega,by omega,by omega,ix_self (by simp)⟩
 rintro fr st2 ⟨j1,j2,j3,s,⟨f0,fC⟩,f9,f10,f11,f12,h1,h2,h3,h4,h5,h6,rfl⟩
 (repeat' (first | refine qS ?_ | refine qB ?_ | ((first | refine qK ?_ | refine qX ?_);simp only [ak,reduceIte]) | (refine qR ?_;simp only [ak,reduceIte];simp [f0,fC,f9,f10,f11,f12]) | (refine qC ?_;simp [f0,fC,f9,f10,f11,f12];(try with_reducible refine ⟨?_,?_⟩)<;>(try with_reducible intro hc)<;>try (exfalso;omega)) | ((first | (refine w_e [] ?_;intro J hJ;simp only []) | (refine w_q ?_;intro J hJ) | refine e_go ?_);simp [f0,fC,f9,f10,f11,f12];(repeat refine ca ?_);(try ((try with_reducible refine ⟨?_,?_⟩)<;>(try with_reducible intro hnil)<;>refine hJ _ _ ?_<;>clear hJ J<;>simp only [ak,reduceIte]<;>try subst hnil)))))
 refine qF (median hC l q st.next j1 j2 j3 s _ hD hl (by omega) (by omega) (by omega) hqn' (by simp [hqn',hH]) (by simp)) ?_;rintro r st' ⟨x,s1,rfl,rfl,hx⟩
 have hkp:Keeps st (ix (ix (st.new (.box 3 1 [i 0])) st.next s) st.next s1):=((Keeps.new _ _).set (Nat.le_refl _) _).set (Nat.le_refl _) _
 have hax:a≤x∧x < b:=by omega
 (repeat' (first | refine qS ?_ | refine qB ?_ | ((first | refine qK ?_ | refine qX ?_);simp only [ak,reduceIte]) | (refine qR ?_;simp only [ak,reduceIte];simp [f9]) | (refine qC ?_;simp [f9];(try with_reducible refine ⟨?_,?_⟩)<;>(try with_reducible intro hc)<;>try (exfalso;omega)) | ((first | (refine w_e [] ?_;intro J hJ;simp only []) | (refine w_q ?_;intro J hJ) | refine e_go ?_);simp [f9];(repeat refine ca ?_);(try ((try with_reducible refine ⟨?_,?_⟩)<;>(try with_reducible intro hnil)<;>refine hJ _ _ ?_<;>clear hJ J<;>simp only [ak,reduceIte]<;>try subst hnil)))))
 all_goals exact ⟨x,rfl,hax.1,hax.2,hkp⟩
end Go.Proofs.YtkcokoefodgigaaGreat.Aw.CB
