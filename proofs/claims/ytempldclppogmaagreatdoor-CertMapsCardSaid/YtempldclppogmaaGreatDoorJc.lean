/- The library's sort: pdqsort, Sort. -/
import Derived.Test.YtempldclppogmaaGreatDoorJb
import Derived.Test.YtempldclppogmaaGreatDoorAwTd
import Derived.Test.YtempldclppogmaaGreatDoorAwX
import Derived.Test.YtempldclppogmaaGreatDoorAwSet
import Derived.Test.YtempldclppogmaaGreatDoorAwShp
import Derived.Test.YtempldclppogmaaGreatDoorAwAlt
import Derived.Test.YtempldclppogmaaGreatDoorAwFn
set_option linter.unusedVariables false
set_option linter.unusedSimpArgs false
namespace Go.Proofs.YtempldclppogmaaGreatDoor.Aw
open Go Go.RowKit Go.Proofs.YtempldclppogmaaGreatDoor.Pl
theorem Srt.out{a m:Nat}{c d:List Int}(h:Srt a m c)(e:∀ j,a≤j→j<m→d.getD j 0=c.getD j 0):Srt a m d:=by
 intro p q h1 h2 h3
 rw[e p h1 oO,e q oO h3];exact h p q h1 h2 h3
theorem _root_.Go.Proofs.YtempldclppogmaaGreatDoor.Pl.cN.pmL{c d:List Int}{a m b:Nat}(h:cN c a m b)(k:Pm a m c d):cN d a m b:=by
 unfold cN at h ⊢
 have e:d.getD m 0=c.getD m 0:=k.out m oO
 rw[e]
 refine⟨fun p h1 h2=>k.all (fun v=>decide (v<c.getD m 0)=true) h.1 p h1 h2,fun p h1 h2=>?_⟩
 rw[k.out p oO];exact h.2 p h1 h2
theorem _root_.Go.Proofs.YtempldclppogmaaGreatDoor.Pl.cN.pmR{c d:List Int}{a m b:Nat}(h:cN c a m b)(k:Pm (m+1) b c d):cN d a m b:=by
 unfold cN at h ⊢
 have e:d.getD m 0=c.getD m 0:=k.out m oO
 rw[e]
 refine⟨fun p h1 h2=>?_,fun p h1 h2=>k.all (fun v=>decide (v<c.getD m 0)=false) (fun j g1 g2=>h.2 j oO g2) p oO h2⟩
 rw[k.out p oO];exact h.1 p h1 h2
theorem _root_.Go.Proofs.YtempldclppogmaaGreatDoor.Pl.cN.glue{d:List Int}{a m b:Nat}(h:cN d a m b)(h1:Srt a m d)(h2:Srt (m+1) b d):Srt a b d:=by
 refine aJe h1 h2 (fun p g1 g2=>?_) fun q g1 g2=>?_
 ·have:=h.1 p g1 g2;simp only[decide_eq_true_eq]at this;omega
 ·have:=h.2 q g1 g2;simp only[decide_eq_false_iff_not]at this;omega
theorem _root_.Go.Proofs.YtempldclppogmaaGreatDoor.Pl.cN.aheadR{d:List Int}{a m b:Nat}(h:cN d a m b):eV d (m+1) b:=by
 intro _ j g1 g2
 have:=h.2 j oO g2;simp only[decide_eq_false_iff_not]at this
 rw[Nat.add_sub_cancel];omega
theorem eV.less{d:List Int}{a m b:Nat}(h:eV d a b)(hm:m≤b):eV d a m:=fun h0 j g1 g2=>h h0 j g1 oO
theorem aMd{c d:List Int}{a m b:Nat}{x:Int}(h:aDN c a m b x)(hlow:∀ j,a≤j→j<m→x≤c.getD j 0)(k:Pm m b c d)(hs:Srt m b d):Srt a b d:=by
 intro p q h1 h2 h3
 by_cases hq:q<m
 ·rw[k.out p oO,k.out q oO]
  have:=h.1 p h1 oO;have:=hlow q oO hq;omega
 ·by_cases hp:p<m
  ·rw[k.out p oO]
   have g:=h.1 p h1 hp
   have:x<d.getD q 0:=k.all (fun v=>x<v) h.2 q oO h3
   omega
  ·exact hs p q oO h2 h3
def vK(a b a' b':Nat)(c:List Int):Prop:=∀ d,Pm a' b' c d→Srt a' b' d→Srt a b d
theorem vK.pm{a b a' b':Nat}{c d:List Int}(h:vK a b a' b' c)(k:Pm a' b' c d):vK a b a' b' d:=fun e h1 h2=>h e (k.trans h1) h2
theorem aJQ{P:Program}{N:Nat}{Q:AQ}{k:List eM}{fr:Frm}{st:St}{x y:Code}(I:Frm→St→Prop)(h1:AWp P N x (AK P N (fun e f s=>(e=.normal∧I f s)∨(e=.ret∧AK P N Q k .ret f s)) []) fr st)(h2:∀ fr st,I fr st→AWp P N y (AK P N Q k) fr st):
 AWp P N x (AK P N Q (.code y::k)) fr st:=by
 refine cR h1 ?_
 rintro e fr' st' (⟨rfl,hI⟩|⟨rfl,hI⟩)
 ·rw[eD]
  exact h2 _ _ hI
 ·rw[tF]
  exact hI
theorem aJC{P:Program}{N:Nat}{Q:AQ}{k:List eM}{fr:Frm}{st:St}{x y:Code}(I:Frm→St→Prop)(h1:AWp P N x (AK P N (fun e f s=>(e=.normal∧I f s)∨(e≠.normal∧AK P N Q k e f s)) []) fr st)(h2:∀ fr st,I fr st→AWp P N y (AK P N Q k) fr st):
 AWp P N x (AK P N Q (.code y::k)) fr st:=by
 refine cR h1 ?_
 rintro e fr' st' (⟨rfl,hI⟩|⟨hne,hI⟩)
 ·rw[eD]
  exact h2 _ _ hI
 ·cases e<;>first|exact absurd rfl hne|exact hI
def PdI(q:Nat)(l:List Int)(st:St)(a b a' b':Nat)(wb wp:Bool)(lim n:Nat)(fr:Frm)(st2:St):Prop:=
 fr 0=.ms q 0 l.length∧fr 1=i a'∧fr 2=i b'∧fr 3=i lim∧fr 8=bb wb∧fr 9=bb wp∧fr 10=i n∧lim<1000000∧q<st2.next∧bN q st st2∧∃ c,st2.H q=.box 34 1 (us c)∧Pm a b l c∧eV c a' b'∧vK a b a' b' c
theorem PdI.mk{q:Nat}{l:List Int}{st:St}{a b a' b':Nat}{wb wp:Bool}{lim n:Nat}{fr:Frm}{st2:St}{c:List Int}(f0:fr 0=.ms q 0 l.length)(f1:fr 1=i a')(f2:fr 2=i b')(f3:fr 3=i lim)(f8:fr 8=bb wb)(f9:fr 9=bb wp)(f10:fr 10=i n)(hlm:lim<1000000)(hqn:q<st2.next)(ho:bN q st st2)(hc:st2.H q=.box 34 1 (us c))(hp:Pm a b l c)(ha:eV c a' b')(hf:vK a b a' b' c):PdI q l st a b a' b' wb wp lim n fr st2:=
 ⟨f0,f1,f2,f3,f8,f9,f10,hlm,hqn,ho,c,hc,hp,ha,hf⟩
def PdJ(q:Nat)(l:List Int)(st:St)(a b a' b':Nat)(wb wp:Bool)(n:Nat)(fr:Frm)(st2:St):Prop:=∃ lim,PdI q l st a b a' b' wb wp lim n fr st2
def PdK(q:Nat)(l:List Int)(st:St)(a b a' b':Nat)(wb wp:Bool)(n:Nat)(fr:Frm)(st2:St):Prop:=∃ lim,PdI q l st a b a' b' wb wp lim n fr st2∧∃(pv:Nat) (h:Int),a'≤pv∧pv<b'∧fr 11=i pv∧fr 12=i h
set_option maxHeartbeats 4000000 in
theorem fE(Z:Nat):∀(l:List Int) (q a b lim:Nat) (st:St),l.length<65536→a≤b→b≤l.length→b-a<Z→eV l a b→lim<1000000→q<st.next→st.H q=.box 34 1 (us l)→
 aB Tryz.prog 122 [.ms q 0 l.length,i a,i b,i lim] st fun r st'=>∃ c,st'.H q=.box 34 1 (us c)∧Pm a b l c∧Srt a b c∧bN q st st':=by
 induction Z with
 |zero=>intro l q a b lim st _ _ _ h;omega
 |succ Z ih=>
 intro l q a b lim st hl hab hb hZ hah hlim hqn hH
 have hsm:small l:=by unfold small;omega
 refine qO aF Tryz.func122 rfl rfl Tryz.ntmps122 (rs:=[]) rfl sS ?_
 (repeat' (first|refine qS ?_|refine qB ?_|(refine w_e [] ?_;intro J hJ;simp only[];simp[];refine hJ _ _ (zZ ?_))))
 refine qL (fun z fr st2=>∃(a' b' lim:Nat) (wb wp:Bool) (n:LV),a≤a'∧a'≤b'∧b'≤b∧z=b' - a'∧PdI q l st a b a' b' wb wp lim 0 (upd fr 10 (i (0:Nat))) st2) (b-a) ?_ ?_
 ·refine⟨a,b,lim,true,true,.nil,oO,oO,oO,rfl,?_⟩
  exact PdI.mk sS sS sS sS sS sS sS hlim hqn (.refl _ _) hH .refl hah fun d h1 h2=>h2
 rintro z fr st2 ⟨a',b',lim,wb,wp,-,ha1,ha2,hb2,rfl,f0,f1,f2,f3,f8,f9,-,hlm,hqn2,hof,c,hc,hpm,hah2,hfin⟩ JJ hJJ
 rw[oG,if_neg oO]at f0 f1 f2 f3 f8 f9
 have hcl:=hpm.len
 have hsc:small c:=by unfold small;omega
 obtain⟨n,hn⟩:∃ n:Nat,n=b' - a':=⟨_,rfl⟩
 have w1:IntKind.i64.wrap ((b':Int)-(a':Int))=(n:Int):=by rw[wrap_i64 _ oO oO];omega
 refine qB ?_
 (repeat' (first|refine qS ?_|(refine w_e [] ?_;intro J hJ;simp only[];simp[f1,f2,w1];refine hJ _ _ (zZ ?_))))
 by_cases hn12:(n:Int)≤12
 ·clear hJJ
  refine qC ?_;simp[hn12]
  (repeat' (first|refine qS ?_|(refine w_e [] ?_;intro J hJ;simp only[];simp[f0,f1,f2])))
  refine qE (insertionSort c q a' b' st2 hsc oO oO hc) (by simp[f0,f1,f2,hcl]) ?_;rintro r st' ⟨d,rfl,k1,k2⟩
  (repeat' (first|(refine qR (zZ ?_);simp[])|(refine aE ?_;simp[];refine hJ _ _ (zZ ?_))))
  exact⟨d,rfl,hpm.trans (k1.wide oO oO oO),hfin d k1 k2,hof.set _⟩
 refine qC ?_;simp[hn12]
 (repeat' (first|refine qS ?_|(refine qK (zZ ?_))|(refine w_e [] ?_;intro J hJ;simp only[];simp[f3];refine hJ _ _ (zZ ?_))))
 by_cases hl0:lim=0
 ·clear hJJ
  refine qC ?_;simp[hl0]
  (repeat' (first|refine qS ?_|(refine w_e [] ?_;intro J hJ;simp only[];simp[f0,f1,f2])))
  refine qE (aIE c q a' b' st2 hsc oO oO hc) (by simp[f0,f1,f2,hcl]) ?_;rintro r st' ⟨d,rfl,k1,k2⟩
  (repeat' (first|(refine qR (zZ ?_);simp[])|(refine aE ?_;simp[];refine hJ _ _ (zZ ?_))))
  exact⟨d,rfl,hpm.trans (k1.wide oO oO oO),hfin d k1 k2,hof.set _⟩
 refine qC ?_;simp[hl0]
 refine qK (zZ ?_)
 refine qS ?_
 refine bU (PdJ q l st a b a' b' wb wp n) ?_ ?_
 ·clear hJJ
  cases wb
  ·(repeat' (first|refine qS ?_|(refine qC ?_;simp[f0,f1,f2,f8])|(refine w_e [] ?_;intro J hJ;simp only[];simp[f0,f1,f2,f8];(try refine hJ _ _ (zZ ?_)))))
   refine qE (yP c q a' b' st2 oO oO oO hqn2 hc) (by simp[f0,f1,f2,hcl]) ?_;rintro r st' ⟨d,k0,k1,k2⟩
   have w2:=aR lim oO oO
   (repeat' ((first|(refine w_e [] ?_;intro J hJ;simp only[])|(refine aE ?_));simp[f3,w2];refine hJ _ _ (zZ ?_)))
   refine⟨by trivial,?_⟩
   exact⟨lim-1,PdI.mk (by simp[f0]) (by simp[f1]) (by simp[f2]) sS (by simp[f8]) (by simp[f9]) sS oO (Nat.lt_of_lt_of_le hqn2 k2.1) (hof.trans k2) k0 (hpm.trans (k1.wide oO oO oO)) (hah2.pm k1) (hfin.pm k1)⟩
  ·(repeat' (first|refine qS ?_|(refine qK (zZ ?_))|(refine qC ?_;simp[f8])|(refine w_e [] ?_;intro J hJ;simp only[];simp[f8];refine hJ _ _ (zZ ?_))))
   refine⟨by trivial,?_⟩
   exact⟨lim,PdI.mk (by simp[f0]) (by simp[f1]) (by simp[f2]) (by simp[f3]) (by simp[f8]) (by simp[f9]) sS oO hqn2 hof hc hpm hah2 hfin⟩
 clear f0 f1 f2 f3 f8 f9 hlm hqn2 hof hc hpm hah2 hfin hcl hsc c st2 fr hl0 lim
 rintro fr st2 ⟨lim,f0,f1,f2,f3,f8,f9,f10,hlm,hqn2,hof,c,hc,hpm,hah2,hfin⟩
 have hcl:=hpm.len
 have hsc:small c:=by unfold small;omega
 refine qS ?_
 (refine w_e [] ?_;intro J hJ;simp only[];simp[f0,f1,f2])
 refine qE (aDp c q a' b' st2 hsc oO oO hqn2 hc) (by simp[f0,f1,f2,hcl]) ?_;rintro r st' ⟨pv,h,rfl,hp1,hp2,k0⟩
 have hc':st'.H q=.box 34 1 (us c):=by rw[k0.H q hqn2];exact hc
 have hqn3:q<st'.next:=Nat.lt_of_lt_of_le hqn2 k0.next
 have hof2:=hof.keeps k0
 clear hc hqn2 hof k0
 (refine aE ?_;simp[];refine hJ _ _ (zZ ?_))
 refine qS ?_
 refine bU (PdK q l st a b a' b' wb wp n) ?_ ?_
 ·clear hJJ
  by_cases hh:h=2
  ·(repeat' (first|refine qS ?_|(refine qC ?_;simp[hh,f0,f1,f2])|(refine w_e [] ?_;intro J hJ;simp only[];simp[hh,f0,f1,f2];(try refine hJ _ _ (zZ ?_)))))
   refine qE (aBL c q a' b' st' hsc oO oO oO hc') (by simp[f0,f1,f2,hcl]) ?_;rintro r st' ⟨d,rfl,k1⟩
   have w2:=aR b' oO oO
   obtain⟨x1,hx1⟩:∃ x,x=b' - 1:=⟨_,rfl⟩
   obtain⟨x2,hx2⟩:∃ x,x=pv-a':=⟨_,rfl⟩
   obtain⟨x3,hx3⟩:∃ x,x=x1-x2:=⟨_,rfl⟩
   have w3:IntKind.i64.wrap ((pv:Int)-(a':Int))=(x2:Int):=by rw[wrap_i64 _ oO oO];omega
   have w4:IntKind.i64.wrap ((x1:Int)-(x2:Int))=(x3:Int):=by rw[wrap_i64 _ oO oO];omega
   rw[← hx1]at w2
   (repeat' (first|refine qS ?_|((first|(refine w_e [] ?_;intro J hJ;simp only[])|(refine aE ?_));simp[f1,f2,w2,w3,w4];refine hJ _ _ (zZ ?_))))
   refine⟨by trivial,?_⟩
   exact⟨lim,PdI.mk (by simp[f0]) (by simp[f1]) (by simp[f2]) (by simp[f3]) (by simp[f8]) (by simp[f9]) (by simp[f10]) oO hqn3 (hof2.set _) sS (hpm.trans (k1.wide oO oO oO)) (hah2.pm k1) (hfin.pm k1),x3,1,oO,oO,sS,sS⟩
  ·(repeat' (first|refine qS ?_|(refine qK (zZ ?_))|(refine qC ?_;simp[hh])|(refine w_e [] ?_;intro J hJ;simp only[];simp[hh];refine hJ _ _ (zZ ?_))))
   refine⟨by trivial,?_⟩
   exact⟨lim,PdI.mk (by simp[f0]) (by simp[f1]) (by simp[f2]) (by simp[f3]) (by simp[f8]) (by simp[f9]) (by simp[f10]) oO hqn3 hof2 hc' hpm hah2 hfin,pv,h,oO,oO,sS,sS⟩
 clear f0 f1 f2 f3 f8 f9 f10 hlm hqn3 hof2 hc' hpm hah2 hfin hcl hsc c st2 fr lim h hp1 hp2 pv
 rintro fr st2 ⟨lim,⟨f0,f1,f2,f3,f8,f9,f10,hlm,hqn2,hof,c,hc,hpm,hah2,hfin⟩,pv,h,hp1,hp2,f11,f12⟩
 have hcl:=hpm.len
 have hsc:small c:=by unfold small;omega
 refine qS ?_
 refine aJQ (PdK q l st a b a' b' wb wp n) ?_ ?_
 ·clear hJJ
  cases wb
  ·(repeat' (first|refine qS ?_|(refine qK (zZ ?_))|(refine qC ?_;simp[f8])|(refine w_e [] ?_;intro J hJ;simp only[];simp[f8];refine hJ _ _ (zZ ?_))))
   refine .inl ⟨by trivial,?_⟩
   exact⟨lim,PdI.mk (by simp[f0]) (by simp[f1]) (by simp[f2]) (by simp[f3]) (by simp[f8]) (by simp[f9]) (by simp[f10]) oO hqn2 hof hc hpm hah2 hfin,pv,h,oO,oO,by simp[f11],by simp[f12]⟩
  cases wp
  ·(repeat' (first|refine qS ?_|(refine qK (zZ ?_))|(refine qC ?_;simp[f8,f9])|(refine w_e [] ?_;intro J hJ;simp only[];simp[f8,f9];refine hJ _ _ (zZ ?_))))
   refine .inl ⟨by trivial,?_⟩
   exact⟨lim,PdI.mk (by simp[f0]) (by simp[f1]) (by simp[f2]) (by simp[f3]) (by simp[f8]) (by simp[f9]) (by simp[f10]) oO hqn2 hof hc hpm hah2 hfin,pv,h,oO,oO,by simp[f11],by simp[f12]⟩
  by_cases hh:h=1
  rotate_left
  ·(repeat' (first|refine qS ?_|(refine qK (zZ ?_))|(refine qC ?_;simp[f8,f9,f12,hh])|(refine w_e [] ?_;intro J hJ;simp only[];simp[f8,f9,f12,hh];refine hJ _ _ (zZ ?_))))
   refine .inl ⟨by trivial,?_⟩
   exact⟨lim,PdI.mk (by simp[f0]) (by simp[f1]) (by simp[f2]) (by simp[f3]) (by simp[f8]) (by simp[f9]) (by simp[f10]) oO hqn2 hof hc hpm hah2 hfin,pv,h,oO,oO,by simp[f11],by simp[f12]⟩
  (repeat' (first|refine qS ?_|(refine qC ?_;simp[f8,f9,f12,hh,f0,f1,f2])|(refine w_e [] ?_;intro J hJ;simp only[];simp[f8,f9,f12,hh,f0,f1,f2];(try refine hJ _ _ (zZ ?_)))))
  refine qE (mM c q a' b' st2 hsc oO oO hah2 hc) (by simp[f0,f1,f2,hcl]) ?_;rintro r st' ⟨d,p,rfl,rfl,k1,k2⟩
  cases p
  ·(repeat' (first|(refine qK (zZ ?_))|(refine qC ?_;simp[])|(refine aE ?_;simp[];refine hJ _ _ (zZ ?_))))
   refine .inl ⟨by trivial,?_⟩
   exact⟨lim,PdI.mk (by simp[f0]) (by simp[f1]) (by simp[f2]) (by simp[f3]) (by simp[f8]) (by simp[f9]) (by simp[f10]) oO hqn2 (hof.set _) sS (hpm.trans (k1.wide oO oO oO)) (hah2.pm k1) (hfin.pm k1),pv,h,oO,oO,by simp[f11],by simp[f12]⟩
  ·(repeat' (first|(refine qR (zZ ?_);simp[])|(refine qC ?_;simp[])|(refine aE ?_;simp[];refine hJ _ _ (zZ ?_))))
   exact⟨d,rfl,hpm.trans (k1.wide oO oO oO),hfin d k1 (k2 rfl),hof.set _⟩
 clear f0 f1 f2 f3 f8 f9 f10 f11 f12 hlm hqn2 hof hc hpm hah2 hfin hcl hsc c st2 fr lim h hp1 hp2 pv
 rintro fr st2 ⟨lim,⟨f0,f1,f2,f3,f8,f9,f10,hlm,hqn2,hof,c,hc,hpm,hah2,hfin⟩,pv,h,hp1,hp2,f11,f12⟩
 have hcl:=hpm.len
 have hsc:small c:=by unfold small;omega
 refine qS ?_
 refine aJC (PdK q l st a b a' b' wb wp n) ?_ ?_
 ·by_cases h0:a'=0
  ·clear hJJ
   have h0':¬(0:Int)<(a':Int):=oO
   (repeat (refine qS ?_));(refine w_s [] [q] [(0,true),(1,true),(2,true),(3,true),(4,true),(5,true),(6,true),(7,true),(8,true),(9,true),(10,true),(11,true),(12,false),(13,true),(14,true)] ?_;intro J hJ;simp[f0,f1,h0];refine hJ _ _ (zZ ?_))
   (repeat' (first|(refine qK (zZ ?_))|(refine qC ?_;simp[])))
   refine .inl ⟨by trivial,?_⟩
   exact⟨lim,PdI.mk (by simp[f0]) (by simp[f1]) (by simp[f2]) (by simp[f3]) (by simp[f8]) (by simp[f9]) (by simp[f10]) oO  hqn2 hof hc hpm hah2 hfin,pv,h,oO,oO,by simp[f11],by simp[f12]⟩
  have h0':0<a':=oO
  have w2:=aR a' oO oO
  have hd1:=qG c (a' - 1) oO
  have hd2:=qG c pv oO
  have hl3:a' - 1<l.length:=oO
  have hl4:pv<l.length:=oO
  have hlow:∀ j,a'≤j→j<b'→c.getD (a' - 1) 0≤c.getD j 0:=hah2 h0'
  generalize hx:c.getD (a' - 1) 0=x at *
  generalize hy:c.getD pv 0=y at *
  (repeat (refine qS ?_));(refine w_s [] [q] [(0,true),(1,true),(2,true),(3,true),(4,true),(5,true),(6,true),(7,true),(8,true),(9,true),(10,true),(11,true),(12,false),(13,true),(14,true)] ?_;intro J hJ;simp[f0,f1,f11,h0',w2,hl3,hl4,hcl,hc,hd1,hd2])
  refine aO (pF x y _) ?_;rintro r s2 ⟨rfl,rfl⟩
  refine⟨fun _=>by simp,?_⟩
  by_cases hxy:x<y
  ·clear hJJ
   (refine bE ?_;simp[hxy];refine hJ _ _ (zZ ?_))
   (repeat' (first|(refine qK (zZ ?_))|(refine qC ?_;simp[])))
   refine .inl ⟨by trivial,?_⟩
   exact⟨lim,PdI.mk (by simp[f0]) (by simp[f1]) (by simp[f2]) (by simp[f3]) (by simp[f8]) (by simp[f9]) (by simp[f10]) oO  hqn2 hof hc hpm hah2 hfin,pv,h,oO,oO,by simp[f11],by simp[f12]⟩
  (refine bE ?_;simp[hxy];refine hJ _ _ (zZ ?_))
  (repeat' (first|refine qS ?_|(refine qC ?_;simp[f0,f1,f2,f11])|(refine w_e [] ?_;intro J hJ;simp only[];simp[f0,f1,f2,f11])))
  refine qE (wN c q a' b' pv _ hsc oO oO hp1 hp2 hc) (by simp[f0,f1,f2,f11,hcl]) ?_;rintro r st' ⟨d,mid,rfl,rfl,k1,k2,k3,k4⟩
  (repeat' (first|refine qS ?_|(refine qX (zZ ?_))|((first|(refine w_e [] ?_;intro J hJ;simp only[])|(refine aE ?_));simp[];refine hJ _ _ (zZ ?_))))
  refine .inr ⟨sS,?_⟩
  refine hJJ (b' - mid) _ _ oO ⟨mid,b',lim,wb,wp,.nil,oO,oO,oO,rfl,?_⟩
  rw[hy]at k4
  refine PdI.mk (by simp[f0]) sS (by simp[f2]) (by simp[f3]) (by simp[f8]) (by simp[f9]) sS oO hqn2 (hof.set _) sS (hpm.trans (k1.wide oO oO oO)) ?_ ?_
  ·intro _ j g1 g2
   have e1:=k4.1 (mid-1) oO oO
   have e2:=k4.2 j g1 g2
   omega
  ·intro e g1 g2
   refine hfin e (k1.trans (g1.wide oO oO (by have:=k1.len;omega))) (aMd k4 (fun j e1 e2=>?_) g1 g2)
   have:=k1.all (fun v=>x≤v) hlow j e1 oO
   omega
 clear f0 f1 f2 f3 f8 f9 f10 f11 f12 hlm hqn2 hof hc hpm hah2 hfin hcl hsc c st2 fr lim h hp1 hp2 pv
 rintro fr st2 ⟨lim,⟨f0,f1,f2,f3,f8,f9,f10,hlm,hqn2,hof,c,hc,hpm,hah2,hfin⟩,pv,h,hp1,hp2,f11,f12⟩
 have hcl:=hpm.len
 have hsc:small c:=by unfold small;omega
 (repeat' (first|refine qS ?_|(refine w_e [] ?_;intro J hJ;simp only[];simp[f0,f1,f2,f11])))
 refine qE (partition c q a' b' pv _ hsc oO oO hp1 hp2 hc) (by simp[f0,f1,f2,f11,hcl]) ?_;rintro r st' ⟨d,mid,p,rfl,rfl,k1,k2,k3,k4⟩
 have hdl:=k1.len
 have k4:cN d a' mid b':=k4
 have hpm':=hpm.trans (k1.wide ha1 hb2 oO)
 have hah':=hah2.pm k1
 have hfin':=hfin.pm k1
 have hof':=hof.set (q:=q) (.box 34 1 (us d))
 have w3:IntKind.i64.wrap ((mid:Int)-(a':Int))=((mid-a':Nat):Int):=by rw[wrap_i64 _ oO oO];omega
 have w4:IntKind.i64.wrap ((b':Int)-(mid:Int))=((b' - mid:Nat):Int):=by rw[wrap_i64 _ oO oO];omega
 have w5:IntKind.i64.wrap ((n:Int) / 8)=((n / 8:Nat):Int):=by
  rw[show(n:Int) / 8=((n / 8:Nat):Int) from rfl]
  exact wrap_i64 _ oO oO
 obtain⟨z1,hz1⟩:∃ x:Nat,x=mid-a':=⟨_,rfl⟩
 obtain⟨z2,hz2⟩:∃ x:Nat,x=b' - mid:=⟨_,rfl⟩
 obtain⟨z3,hz3⟩:∃ x:Nat,x=n / 8:=⟨_,rfl⟩
 obtain⟨m1,hm1⟩:∃ x:Nat,x=mid+1:=⟨_,rfl⟩
 rw[← hz1]at w3;rw[← hz2]at w4;rw[← hz3]at w5
 have w6:IntKind.i64.wrap ((mid:Int)+1)=(m1:Int):=by rw[qN mid oO,hm1]
 clear hc hpm hah2 hfin hof
 (repeat' (first|refine qS ?_|((first|(refine w_e [] ?_;intro J hJ;simp only[])|(refine aE ?_));simp[f1,f2,f10,w3,w4,w5];refine hJ _ _ (zZ ?_))))
 refine qC ?_
 by_cases hzz:z1<z2
 ·simp[hzz]
  (repeat' (first|refine qS ?_|(refine w_e [] ?_;intro J hJ;simp only[];simp[f0,f1,f3];(try refine hJ _ _ (zZ ?_)))))
  refine qE (ih d q a' mid lim (bx st2 q d) oO oO oO oO (hah'.less oO) oO hqn2 sS) (by simp[f0,f1,f2,f3,hdl,hcl]) ?_;rintro r st' ⟨e,j0,j1,j2,j3⟩
  (repeat' ((first|(refine w_e [] ?_;intro J hJ;simp only[])|(refine aE ?_));simp[w6];refine hJ _ _ (zZ ?_)))
  refine hJJ (b' - m1) _ _ oO ⟨m1,b',lim,decide (z3≤z1),p,.nil,oO,oO,oO,rfl,?_⟩
  refine PdI.mk (by simp[f0]) sS (by simp[f2]) (by simp[f3]) sS sS sS oO (Nat.lt_of_lt_of_le hqn2 j3.1) (hof'.trans j3) j0 (hpm'.trans (j1.wide oO oO oO)) ?_ ?_
  ·rw[hm1];exact(k4.pmL j1).aheadR
  ·intro y g1 g2
   rw[hm1]at g1 g2
   refine hfin' y ((j1.wide oO oO oO).trans (g1.wide oO oO (by have:=j1.len;omega))) (((k4.pmL j1).pmR g1).glue (Srt.out j2 fun j e1 e2=>g1.out j oO) g2)
 ·simp[hzz]
  (repeat' (first|refine qS ?_|(refine w_e [] ?_;intro J hJ;simp only[];simp[f0,f2,f3,w6];(try refine hJ _ _ (zZ ?_)))))
  refine qE (ih d q m1 b' lim (bx st2 q d) oO oO oO oO (by rw[hm1];exact k4.aheadR) oO hqn2 sS) (by simp[f0,f1,f2,f3,hdl,hcl]) ?_;rintro r st' ⟨e,j0,j1,j2,j3⟩
  (repeat' ((first|(refine w_e [] ?_;intro J hJ;simp only[])|(refine aE ?_));simp[];refine hJ _ _ (zZ ?_)))
  rw[hm1]at j1 j2
  refine hJJ (mid-a') _ _ oO ⟨a',mid,lim,decide (z3≤z2),p,.nil,oO,oO,oO,rfl,?_⟩
  refine PdI.mk (by simp[f0]) (by simp[f1]) sS (by simp[f3]) sS sS sS oO (Nat.lt_of_lt_of_le hqn2 j3.1) (hof'.trans j3) j0 (hpm'.trans (j1.wide oO oO oO)) ?_ ?_
  ·exact(hah'.pm (j1.wide oO oO oO)).less oO
  ·intro y g1 g2
   refine hfin' y ((j1.wide oO oO oO).trans (g1.wide oO oO (by have:=j1.len;omega))) (((k4.pmR j1).pmL g1).glue g2 (Srt.out j2 fun j e1 e2=>g1.out j oO))
theorem aGl(l:List Int)(q:Nat)(st:St)(hl:l.length<65536)(hqn:q<st.next)(hH:st.H q=.box 34 1 (us l)):
 aB Tryz.prog 79 [.ms q 0 l.length] st fun r st'=>∃ c,st'.H q=.box 34 1 (us c)∧c.Perm l∧c.Pairwise (·≤·)∧bN q st st':=by
 have w1:IntKind.u64.wrap (l.length:Int)=(l.length:Int):=wrap_u64 _ oO oO
 have hbl:=(pU l.length oO).1
 refine qO aF Tryz.func79 rfl rfl Tryz.ntmps79 (rs:=[]) rfl sS ?_
 (repeat' (first|refine qS ?_|(refine w_e [] ?_;intro J hJ;simp only[];simp[w1];(try refine hJ _ _ (zZ ?_)))))
 refine qF (Len l.length _ oO) ?_;rintro r st' ⟨rfl,rfl⟩
 (repeat' (refine aE ?_;simp[]))
 refine qE (fE (l.length+1) l q 0 l.length (gU l.length) _ hl oO oO oO (fun h=>absurd h oO) oO hqn hH) (by simp[]) ?_;rintro r st' ⟨c,k1,k2,k3,k4⟩
 (repeat' (refine aE ?_;simp[];refine hJ _ _ (zZ ?_)))
 have hcl:=k2.len
 exact⟨trivial,c,k1,k2.perm,yE (by rw[hcl];exact k3),k4⟩
end Go.Proofs.YtempldclppogmaaGreatDoor.Aw
namespace Go.Proofs.YtempldclppogmaaGreatDoor.Aw.CB
open Go Go.RowKit Go.Proofs.YtempldclppogmaaGreatDoor.Pl
structure aAZ(fid:FuncId)(caps:List LV)(en:Int→Nat)(ec:Int→List LV)(Dm:Int→Prop):Prop where
 call:∀ x y st,Dm x→Dm y→aB Tryz.prog fid ([.sl 0 (en x) (ec x),.sl 0 (en y) (ec y)]++caps) st fun r st'=>(∃ n,r=i n∧(n<0↔x<y))∧st'=st
abbrev ws(en:Int→Nat)(ec:Int→List LV)(c:List Int):List LV:=c.map fun x=>.sl 0 (en x) (ec x)
theorem pH(en:Int→Nat)(ec:Int→List LV)(l:List Int)(j:Nat)(hj:j<l.length):(ws en ec l).drop j=.sl 0 (en (l.getD j 0)) (ec (l.getD j 0))::ws en ec (l.drop (j+1)):=by
 rw[aI _ _ hj,ws,ws,← List.map_drop,List.drop_eq_getElem_cons hj];rfl
theorem wV(en:Int→Nat)(ec:Int→List LV)(c:List Int)(k:Nat)(x:Int)(hk:k<c.length):(ws en ec c).take k++.sl 0 (en x) (ec x)::(ws en ec c).drop (k+1)=ws en ec (c.set k x):=by
 simp only[ws]
 rw[← List.map_take,← List.map_drop,List.set_eq_take_append_cons_drop,if_pos hk]
 simp
theorem xG{Dm:Int→Prop}{l:List Int}(h:∀ x∈l,Dm x){k:Nat}(hk:k<l.length):Dm (l.getD k 0):=h _ (by rw[aI _ _ hk];exact List.getElem_mem _)
theorem pV{Dm:Int→Prop}{a b:Nat}{l c:List Int}(h:∀ x∈l,Dm x)(k:Pm a b l c):∀ x∈c,Dm x:=fun x hx=>h x (k.perm.mem_iff.1 hx)
abbrev bx(en:Int→Nat)(ec:Int→List LV)(st:St)(q:Nat)(c:List Int):St:=st.set q (.box 23 1 (ws en ec c))
theorem gT{en:Int→Nat}{ec:Int→List LV}{st:St}{q:Nat}{c:List Int}(h:st.H q=.box 23 1 (ws en ec c)):st=bx en ec st q c:=
 St.ext' rfl fun x=>by by_cases hx:x=q<;>simp[hx,h]
theorem gF(en:Int→Nat)(ec:Int→List LV)(st:St)(q:Nat)(c:List Int)(k m:Nat){x y:Int}(hk:k<c.length)(hm:m<c.length)(hx:c.getD k 0=x)(hy:c.getD m 0=y):
 ((bx en ec st q c).set q (.box 23 1 (List.take k (ws en ec c)++.sl 0 (en y) (ec y)::List.drop (k+1) (ws en ec c)))).set q
   (.box 23 1 (List.take m (List.take k (ws en ec c)++.sl 0 (en y) (ec y)::List.drop (k+1) (ws en ec c))++.sl 0 (en x) (ec x)::List.drop (m+1) (List.take k (ws en ec c)++.sl 0 (en y) (ec y)::List.drop (k+1) (ws en ec c))))=bx en ec st q (sw c k m):=by
 have e:List.take k (ws en ec c)++.sl 0 (en y) (ec y)::List.drop (k+1) (ws en ec c)=ws en ec (c.set k y):=wV en ec c k y hk
 rw[e,wV en ec (c.set k y) m x (by simpa using hm)]
 unfold bx sw
 rw[hx,hy]
 exact St.ext' rfl fun z=>by by_cases hz:z=q<;>simp[hz]
theorem insertionSort{fid:FuncId}{caps:List LV}{en:Int→Nat}{ec:Int→List LV}{Dm:Int→Prop}(hC:aAZ fid caps en ec Dm)(l:List Int)(q a b:Nat)(st:St)(hD:∀ x∈l,Dm x)(hl:small l)(ha:a≤b)(hb:b≤l.length)(hH:st.H q=.box 23 1 (ws en ec l)):
 aB Tryz.prog 147 [.ms q 0 l.length,i a,i b,.fn (.func fid) caps] st fun r st'=>∃ c,st'=bx en ec st q c∧Pm a b l c∧Srt a b c:=by
 unfold small at hl
 refine qO aF Tryz.func147 rfl rfl Tryz.ntmps147 (rs:=[]) rfl sS ?_
 have hw0:=qN a oO
 (repeat' (first|refine qS ?_|refine qB ?_|(refine w_e [] ?_;intro J hJ;simp only[];simp[hw0];refine hJ _ _ (zZ ?_))))
 refine qL (fun n fr st'=>∃(k:Nat) (c:List Int),a<k∧n=b-k∧(fr 0=.ms q 0 l.length∧fr 3=.fn (.func fid) caps)∧fr 1=i a∧fr 2=i b∧fr 8=i k∧st'=bx en ec st q c∧Pm a b l c∧Srt a k c) (b-(a+1)) ?_ ?_
 ·exact⟨a+1,l,oO,rfl,sS,sS,sS,sS,gT hH,.refl,fun p q h1 h2 h3=>by omega⟩
 rintro n fr st1 ⟨k,c,hak,rfl,⟨f0,fC⟩,f1,f2,f6,rfl,hpm,hs⟩ JJ hJJ
 have hcl:=hpm.len
 have hDc:=pV hD hpm
 by_cases hlt:k<b
 rotate_left
 ·clear hJJ
  have hlt':¬(k:Int)<(b:Int):=oO
  (repeat' (first|refine qS ?_|(refine qX (zZ ?_))|(refine qC ?_;simp[f0,fC,f1,f2,f6,hlt])|(refine w_e [] ?_;intro J hJ;simp only[];simp[f0,fC,f1,f2,f6,hlt];refine hJ _ _ (zZ ?_))))
  exact⟨trivial,c,rfl,hpm,fun p q h1 h2 h3=>hs p q h1 h2 oO⟩
 have hw1:=qN k oO
 (repeat' (first|refine qS ?_|refine qB ?_|(refine qK (zZ ?_))|(refine qC ?_;simp[f0,fC,f1,f2,f6,hlt])|(refine w_e [] ?_;intro J hJ;simp only[];simp[f0,fC,f1,f2,f6,hlt];refine hJ _ _ (zZ ?_))))
 refine qL (fun n fr st'=>∃(j:Nat) (c:List Int),a≤j∧j≤k∧j=n∧(fr 0=.ms q 0 l.length∧fr 3=.fn (.func fid) caps)∧fr 1=i a∧fr 2=i b∧fr 8=i k∧fr 9=i j∧st'=bx en ec st q c∧Pm a b l c∧Ins a j k c) k ?_ ?_
 ·exact⟨k,c,oO,oO,rfl,by simp[f0,fC],by simp[f1],by simp[f2],by simp[f6],sS,rfl,hpm,hs.ins⟩
 clear f0 fC f1 f2 f6 hs hpm hcl hDc c fr
 rintro n fr st1 ⟨j,c,haj,hjk,rfl,⟨f0,fC⟩,f1,f2,f6,f7,rfl,hpm,hI⟩ JJ2 hJ2
 have hcl:=hpm.len
 have hDc:=pV hD hpm
 by_cases hj:a<j
 rotate_left
 ·clear hJ2
  have hj':¬(a:Int)<(j:Int):=oO
  (repeat (refine qS ?_));(refine w_s [] [q] [(0,true),(1,true),(2,true),(3,true),(4,true),(5,true),(6,true),(7,true),(8,true),(9,true),(10,true),(11,true),(12,true),(13,true),(14,false),(15,true),(16,true)] ?_;intro J hJ;simp[f0,fC,f1,f2,f6,f7,hj];refine hJ _ _ (zZ ?_))
  (repeat' (first|(refine qX (zZ ?_))|(refine qC ?_;simp[f6,hw1])|(refine w_e [] ?_;intro J hJ;simp only[];simp[f6,hw1];refine hJ _ _ (zZ ?_))))
  exact hJJ (b-(k+1)) _ _ oO ⟨k+1,c,oO,rfl,by simp[f0,fC],by simp[f1],by simp[f2],sS,rfl,hpm,hI.done haj (.inl oO)⟩
 have hw2:=aR j oO oO
 have hjl:j<l.length:=oO
 have hjl1:j-1<l.length:=oO
 have hd:=pH en ec c j oO
 have hd2:=pH en ec c (j-1) oO
 have hI1:=hI.step hj hjk oO
 have hI2:=hI.done haj
 have hpm1:=hpm.step j (j-1) oO oO oO oO oO
 generalize hx:c.getD j 0=x at *
 generalize hy:c.getD (j-1) 0=y at *
 (repeat (refine qS ?_));(refine w_s [] [q] [(0,true),(1,true),(2,true),(3,true),(4,true),(5,true),(6,true),(7,true),(8,true),(9,true),(10,true),(11,true),(12,true),(13,true),(14,false),(15,true),(16,true)] ?_;intro J hJ;simp[f0,fC,f1,f2,f6,f7,hj,hw2,hjl,hjl1,hcl,hd,hd2])
 refine aO (hC.call x y _ (by first|assumption|(subst_vars;exact xG (by assumption) oO)) (by first|assumption|(subst_vars;exact xG (by assumption) oO))) ?_;rintro r s2 ⟨⟨nv,rfl,hnv⟩,rfl⟩
 refine⟨fun _=>by simp,?_⟩
 by_cases hcd:x<y
 rotate_left
 ·clear hJ2
  (refine bE ?_;simp[hnv,hcd];refine hJ _ _ (zZ ?_))
  (repeat' (first|(refine qX (zZ ?_))|(refine qC ?_;simp[f6,hw1])|(refine w_e [] ?_;intro J hJ;simp only[];simp[f6,hw1];refine hJ _ _ (zZ ?_))))
  exact hJJ (b-(k+1)) _ _ oO ⟨k+1,c,oO,rfl,by simp[f0,fC],by simp[f1],by simp[f2],sS,rfl,hpm,hI2 (.inr hcd)⟩
 clear hJJ
 (refine bE ?_;simp[hnv,hcd];refine hJ _ _ (zZ ?_))
 (repeat' (first|refine qS ?_|refine qB ?_|(refine qK (zZ ?_))|(refine qC ?_;simp[])))
 (refine w_s [] [q] [(0,true),(1,true),(2,true),(3,true),(4,true),(5,true),(6,true),(7,true),(8,true),(9,true),(10,true),(11,true),(12,true),(13,true),(14,true),(15,false),(16,true),(17,false)] ?_;intro J hJ;simp[f0,fC,f1,f2,f6,f7,hw2,hjl,hjl1,hcl,hd,hd2];(repeat refine ca ?_);refine hJ _ _ (zZ ?_))
 (repeat' (refine w_e [] ?_;intro J hJ;simp only[];simp[f7,hw2];refine hJ _ _ (zZ ?_)))
 exact hJ2 (j-1) _ _ oO ⟨j-1,sw c j (j-1),oO,oO,rfl,by simp[f0,fC],by simp[f1],by simp[f2],by simp[f6],sS,gF en ec st q c j (j-1) oO oO hx hy,hpm1,hI1 hcd⟩
def eV(l:List Int)(a b:Nat):Prop:=0<a→∀ j,a≤j→j<b→l.getD (a-1) 0≤l.getD j 0
def vK(a b a' b':Nat)(c:List Int):Prop:=∀ d,Pm a' b' c d→Srt a' b' d→Srt a b d
def PdI(fid:FuncId)(caps:List LV)(en:Int→Nat)(ec:Int→List LV)(q:Nat)(l:List Int)(st:St)(a b a' b':Nat)(wb wp:Bool)(lim n:Nat)(fr:Frm)(st2:St):Prop:=
 (fr 0=.ms q 0 l.length∧fr 4=.fn (.func fid) caps)∧fr 1=i a'∧fr 2=i b'∧fr 3=i lim∧fr 10=bb wb∧fr 11=bb wp∧fr 12=i n∧lim<1000000∧q<st2.next∧bN q st st2∧∃ c,st2.H q=.box 23 1 (ws en ec c)∧Pm a b l c∧eV c a' b'∧vK a b a' b' c
theorem PdI.mk{fid:FuncId}{caps:List LV}{en:Int→Nat}{ec:Int→List LV}{q:Nat}{l:List Int}{st:St}{a b a' b':Nat}{wb wp:Bool}{lim n:Nat}{fr:Frm}{st2:St}{c:List Int}(f0:(fr 0=.ms q 0 l.length∧fr 4=.fn (.func fid) caps))(f1:fr 1=i a')(f2:fr 2=i b')(f3:fr 3=i lim)(f8:fr 10=bb wb)(f9:fr 11=bb wp)(f10:fr 12=i n)(hlm:lim<1000000)(hqn:q<st2.next)(ho:bN q st st2)(hc:st2.H q=.box 23 1 (ws en ec c))(hp:Pm a b l c)(ha:eV c a' b')(hf:vK a b a' b' c):PdI fid caps en ec q l st a b a' b' wb wp lim n fr st2:=
 ⟨f0,f1,f2,f3,f8,f9,f10,hlm,hqn,ho,c,hc,hp,ha,hf⟩
set_option maxHeartbeats 4000000 in
theorem fE{fid:FuncId}{caps:List LV}{en:Int→Nat}{ec:Int→List LV}{Dm:Int→Prop}(hC:aAZ fid caps en ec Dm)(Z:Nat):∀(l:List Int) (q a b lim:Nat) (st:St),(∀ x∈l,Dm x)→l.length≤12→a≤b→b≤l.length→b-a<Z→eV l a b→lim<1000000→q<st.next→st.H q=.box 23 1 (ws en ec l)→
 aB Tryz.prog 105 [.ms q 0 l.length,i a,i b,i lim,.fn (.func fid) caps] st fun r st'=>∃ c,st'.H q=.box 23 1 (ws en ec c)∧Pm a b l c∧Srt a b c∧bN q st st':=by
 induction Z with
 |zero=>intro l q a b lim st _ _ _ _ h;omega
 |succ Z ih=>
 intro l q a b lim st hD hl hab hb hZ hah hlim hqn hH
 have hsm:small l:=by unfold small;omega
 refine qO aF Tryz.func105 rfl rfl Tryz.ntmps105 (rs:=[]) rfl sS ?_
 (repeat' (first|refine qS ?_|refine qB ?_|(refine w_e [] ?_;intro J hJ;simp only[];simp[];refine hJ _ _ (zZ ?_))))
 refine qL (fun z fr st2=>∃(a' b' lim:Nat) (wb wp:Bool) (n:LV),a≤a'∧a'≤b'∧b'≤b∧z=b' - a'∧PdI fid caps en ec q l st a b a' b' wb wp lim 0 (upd fr 12 (i (0:Nat))) st2) (b-a) ?_ ?_
 ·refine⟨a,b,lim,true,true,.nil,oO,oO,oO,rfl,?_⟩
  exact PdI.mk sS sS sS sS sS sS sS hlim hqn (.refl _ _) hH .refl hah fun d h1 h2=>h2
 rintro z fr st2 ⟨a',b',lim,wb,wp,-,ha1,ha2,hb2,rfl,⟨f0,fC⟩,f1,f2,f3,f8,f9,-,hlm,hqn2,hof,c,hc,hpm,hah2,hfin⟩ JJ hJJ
 rw[oG,if_neg oO]at f0 fC f1 f2 f3 f8 f9
 have hcl:=hpm.len
 have hDc:=pV hD hpm
 have hsc:small c:=by unfold small;omega
 obtain⟨n,hn⟩:∃ n:Nat,n=b' - a':=⟨_,rfl⟩
 have w1:IntKind.i64.wrap ((b':Int)-(a':Int))=(n:Int):=by rw[wrap_i64 _ oO oO];omega
 refine qB ?_
 (repeat' (first|refine qS ?_|(refine w_e [] ?_;intro J hJ;simp only[];simp[f1,f2,w1];refine hJ _ _ (zZ ?_))))
 by_cases hn12:(n:Int)≤12
 ·clear hJJ
  refine qC ?_;simp[hn12]
  (repeat' (first|refine qS ?_|(refine w_e [] ?_;intro J hJ;simp only[];simp[f0,fC,f1,f2])))
  refine qE (insertionSort hC c q a' b' st2 (by first|assumption|exact pV hD ‹Pm _ _ l c›) hsc oO oO hc) (by simp[f0,fC,f1,f2,hcl]) ?_;rintro r st' ⟨d,rfl,k1,k2⟩
  (repeat' (first|(refine qR (zZ ?_);simp[])|(refine aE ?_;simp[];refine hJ _ _ (zZ ?_))))
  exact⟨d,rfl,hpm.trans (k1.wide oO oO oO),hfin d k1 k2,hof.set _⟩
 exact absurd (show(n:Int)≤12 by omega) hn12
theorem aKr{fid:FuncId}{caps:List LV}{en:Int→Nat}{ec:Int→List LV}{Dm:Int→Prop}(hC:aAZ fid caps en ec Dm)(l:List Int)(q:Nat)(st:St)(hD:∀ x∈l,Dm x)(hl:l.length≤12)(hqn:q<st.next)(hH:st.H q=.box 23 1 (ws en ec l)):
 aB Tryz.prog 71 [.ms q 0 l.length,.fn (.func fid) caps] st fun r st'=>∃ c,st'.H q=.box 23 1 (ws en ec c)∧c.Perm l∧c.Pairwise (·≤·)∧bN q st st':=by
 have w1:IntKind.u64.wrap (l.length:Int)=(l.length:Int):=wrap_u64 _ oO oO
 have hbl:=(pU l.length oO).1
 refine qO aF Tryz.func71 rfl rfl Tryz.ntmps71 (rs:=[]) rfl sS ?_
 (repeat' (first|refine qS ?_|(refine w_e [] ?_;intro J hJ;simp only[];simp[w1];(try refine hJ _ _ (zZ ?_)))))
 refine qF (Len l.length _ oO) ?_;rintro r st' ⟨rfl,rfl⟩
 (repeat' (refine aE ?_;simp[]))
 refine qE (fE hC (l.length+1) l q 0 l.length (gU l.length) _ hD hl oO oO oO (fun h=>absurd h oO) oO hqn hH) (by simp[]) ?_;rintro r st' ⟨c,k1,k2,k3,k4⟩
 (repeat' (refine aE ?_;simp[];refine hJ _ _ (zZ ?_)))
 have hcl:=k2.len
 exact⟨trivial,c,k1,k2.perm,yE (by rw[hcl];exact k3),k4⟩
end Go.Proofs.YtempldclppogmaaGreatDoor.Aw.CB
namespace Go.Proofs.YtempldclppogmaaGreatDoor.Aw
open Go Go.RowKit
theorem rX{w w':World}(g:G)(h:Below w.heap.size w w'):Ext w g w' g:=
 ⟨h.os,h.tape,h.output,h.size,Nat.le_refl _,fun _ _=>rfl,fun _ _=>rfl,fun _ _=>rfl,fun b hb hn=>⟨hn,h.block b hb⟩,fun b k hb hk=>⟨k,hk,Nat.le_refl _,fun o _=>World.cell?_of_block (w:=w) (h.block b hb)⟩⟩
theorem zP{w w':World}{g:G}{st:St}(hi:Inv w g st)(h:Below w.heap.size w w'):Inv w' g st:=by
 have he':=rX g h
 refine⟨hi.next,hi.pos,hi.fresh,fun l hl=>Nat.lt_of_lt_of_le (hi.lt l hl) h.size,hi.inj,?_,?_,?_,?_,hi.aside.keep he' fun _ _=>rfl⟩
 ·intro l e s n hl
  obtain⟨h1,h2,h3,h4⟩:=hi.own l e s n hl
  refine⟨h1,h2,h3,fun hnl=>?_⟩
  obtain⟨cur,k1,k2,k3⟩:=h4 hnl
  exact⟨cur,by rw[h.block _ (Array.getElem?_eq_some_iff.1 k1).1];exact k1,k2,k3⟩
 ·intro l e s cs hl
  obtain⟨h1,h2,h3⟩:=hi.box l e s cs hl
  refine⟨h1,h2,fun hnl=>?_⟩
  obtain⟨cur,k1,k2,k3,k4,k5⟩:=h3 hnl
  exact⟨cur,by rw[h.block _ (Array.getElem?_eq_some_iff.1 k1).1];exact k1,k2,k3,aG.mono he' _ _ k4,k5⟩
 ·intro l ag ks es hl
  have hm:=hi.mp l ag ks es hl
  exact hm.keep he' (hi.map_lt hl) (h.block _ hm.blk_lt) rfl
 ·intro l e n hl
  have hm:=hi.qu l e n hl
  exact hm.keep he' (hi.que_lt hl) (h.block _ hm.blk_lt) rfl
theorem rG{w w':World}{g:G}{st:St}(hi:Inv w g st)(h:Below w.heap.size w w'){e:TypeId}{v:Value}{zs:List Value}{cs:List LV}(hrow:w'.ownsRow w.heap.size e 1 v zs.length zs)(hr:∀ w g,aG w g cs zs):
 ∃ g',Rep w' g' (.ms st.next 0 zs.length) v∧Inv w' g' (st.new (.box e 1 cs))∧Ext w g w' g':=by
 have hi':=zP hi h
 have hcl:cs.length=zs.length:=aK _ _ (hr w g)
 rcases hrow.2 with⟨rfl,hn⟩|⟨b,cap,cur,rfl,hb,hcur,h1,h2,h3,h4⟩
 ·have hcs:cs=[]:=List.eq_nil_of_length_eq_zero oO
  subst hcs
  refine⟨g.addNil,?_,gD hi' _ (.inr ⟨_,_,rfl⟩),(rX g h).trans (ext_nil w' g)⟩
  simp only[Rep,hn]
  exact⟨none,0,rfl,Nat.le_refl _,Nat.zero_le _,by simp[G.addNil,hi.next],sS,by simp[G.addNil,hi.next]⟩
 ·have hnx:=hi.next
  have hext:Ext w g w' (g.add b 0 cap false):=by
   refine⟨h.os,h.tape,h.output,h.size,Nat.le_succ _,?_,?_,?_,?_,?_⟩
   ·intro l hl;simp[G.add,Nat.ne_of_lt hl]
   ·intro l hl;simp[G.add,Nat.ne_of_lt hl]
   ·intro l hl;simp[G.add,Nat.ne_of_lt hl]
   ·intro x hx hn;exact⟨by simp only[G.add];rw[if_neg oO];exact hn,h.block x hx⟩
   ·intro x k hx hk;exact⟨k,by simp only[G.add];rw[if_neg oO];exact hk,Nat.le_refl _,fun o _=>World.cell?_of_block (w:=w) (h.block x hx)⟩
  have hold:∀ l,blk g st l→g.β l≠b:=fun l hl=>by have:=hi.lt l hl;omega
  have hblt:b<w'.heap.size:=(Array.getElem?_eq_some_iff.1 hcur).1
  refine⟨g.add b 0 cap false,?_,?_,hext⟩
  ·simp only[Rep,G.add,hnx,if_pos]
   exact⟨_,cap,rfl,h1,h2,fun _=>⟨rfl,fun _=>rfl⟩,fun _=>rfl,Nat.lt_succ_self _⟩
  ·refine⟨by simp[G.add,St.new,hnx],by simp[St.new],?_,?_,?_,?_,?_,?_,?_,hi.aside.keep hext (kN rfl)⟩
   ·intro l hl
    simp only[St.new]at hl ⊢
    rw[if_neg oO]
    exact hi.fresh l oO
   ·intro l hl
    by_cases e0:l=st.next
    ·subst e0;simp[G.add,hnx,hblt]
    ·rw[cJ hnx e0]at hl
     have:=hi'.lt l hl
     simp only[G.add,hnx,if_neg e0];exact this
   ·intro l l' hl hl' hbb
    by_cases e0:l=st.next<;>by_cases e1:l'=st.next
    ·omega
    ·rw[cJ hnx e1]at hl'
     simp only[G.add,hnx,if_pos e0,if_neg e1]at hbb
     exact absurd hbb.symm (hold l' hl')
    ·rw[cJ hnx e0]at hl
     simp only[G.add,hnx,if_pos e1,if_neg e0]at hbb
     exact absurd hbb (hold l hl)
    ·rw[cJ hnx e0]at hl
     rw[cJ hnx e1]at hl'
     simp only[G.add,hnx,if_neg e1,if_neg e0]at hbb
     exact hi.inj l l' hl hl' hbb
   ·intro l e' s n hl
    by_cases e0:l=st.next
    ·simp[St.new,e0]at hl
    ·simp only[St.new,if_neg e0]at hl
     obtain⟨q1,q2,q3,q4⟩:=hi'.own l e' s n hl
     simp only[G.add,hnx,if_neg e0]
     refine⟨q1,q2,q3,fun hnl=>?_⟩
     obtain⟨c',k1,k2,k3⟩:=q4 hnl
     have hne:=hold l (by unfold blk;rw[hl];exact hnl)
     exact⟨c',k1,k2,by rw[if_neg hne];exact k3⟩
   ·intro l e' s' cs' hl
    by_cases e0:l=st.next
    ·simp only[St.new,if_pos e0]at hl
     injection hl with a1 a2 a3
     subst a1 a2 a3
     refine⟨?_,?_,fun _=>⟨cur.toList,?_,?_,?_,?_,?_⟩⟩
     ·simp only[G.add,hnx,if_pos e0];exact h2
     ·simp[G.add,hnx,e0]
     ·simp only[G.add,hnx,if_pos e0];simpa using hcur
     ·simp only[G.add,hnx,if_pos e0];simpa using h3
     ·simp only[Array.length_toList];omega
     ·have:cur.toList.take cs.length=zs:=by rw[hcl];simpa using h4
      rw[this];exact hr _ _
     ·simp[G.add,hnx,e0]
    ·simp only[St.new,if_neg e0]at hl
     obtain⟨k3,k0,k'⟩:=hi'.box l e' s' cs' hl
     refine⟨?_,?_,fun hnl=>?_⟩
     ·simp only[G.add,hnx,if_neg e0];exact k3
     ·simp only[G.add,hnx,if_neg e0];exact k0
     simp only[G.add,hnx,if_neg e0]at hnl
     obtain⟨cur',k1,k2,k4,k5,k6⟩:=k' hnl
     have hne:=hold l (by unfold blk;rw[hl];exact hnl)
     obtain⟨_,_,k'⟩:=hi.box l e' s' cs' hl
     obtain⟨cur2,m1,m2,m4,m5,m6⟩:=k' hnl
     have hlt:=(Array.getElem?_eq_some_iff.1 m1).1
     refine⟨cur2,?_,?_,m4,aG.mono hext _ _ m5,?_⟩
     ·simp only[G.add,hnx,if_neg e0];rw[h.block _ hlt];exact m1
     ·simp only[G.add,hnx,if_neg e0];exact m2
     ·simp only[G.add,hnx,if_neg e0];rw[if_neg hne];exact m6
   ·intro l ag ks es hl
    by_cases e0:l=st.next
    ·simp[St.new,e0]at hl
    ·simp only[St.new,if_neg e0]at hl
     have hm:=hi.mp l ag ks es hl
     exact hm.keep hext (hi.map_lt hl) (h.block _ hm.blk_lt) (by simp only[G.add];rw[if_neg (hold l (hi.map_blk hl))])
   ·intro l e' n hl
    by_cases e0:l=st.next
    ·simp[St.new,e0]at hl
    ·simp only[St.new,if_neg e0]at hl
     have hm:=hi.qu l e' n hl
     exact hm.keep hext (hi.que_lt hl) (h.block _ hm.blk_lt) (by simp only[G.add];rw[if_neg (hold l (hi.que_blk hl))])
theorem uK(w:World)(g:G):∀ l:List Int,aG w g (us l) (l.map (Value.int .u32))
 |[]=>by simp[aG]
 |a::l=>by simp only[List.map_cons,aG,Rep];exact⟨_,_,rfl,rfl,uK w g l⟩
theorem aFO{w:World}{g:G}:∀(l:List Int) (ws:List Value),aG w g (us l) ws→ws=l.map (Value.int .u32)
 |[],ws,h=>by simpa[aG]using h
 |a::l,ws,h=>by
  simp only[List.map_cons,aG,Rep]at h
  obtain⟨v,ws',rfl,rfl,h2⟩:=h
  rw[aFO l ws' h2];rfl
theorem aGi(l:List Int)(x:LV)(q:Nat)(st:St)(hl:l.length≤1048576)(hH:st.H q=.box 22 1 [x])(hx:yY tab 22 st x=some (l.length,us l)):
 aB Tryz.prog 78 [.fn (.func 140) [.pt q 0]] st fun r st'=>r=.ms st.next 0 l.length∧st'=st.new (.box 34 1 (us l)):=by
 refine⟨enters_of Tryz.func78 (by kernel_rfl) rfl,fun w g vs hi hr=>?_⟩
 simp only[aG,Rep]at hr
 obtain⟨v,_,rfl,⟨us1,rfl,v1,_,rfl,⟨rfl,hq⟩,rfl⟩,rfl⟩:=hr
 obtain⟨_,b2,b3⟩:=hi.box q _ _ _ hH
 have hnl:g.nl q=false:=by
  cases hn:g.nl q with
  |false=>rfl
  |true=>obtain⟨_,h⟩:=b2 hn;cases h
 obtain⟨cur,k1,k2,k3,k4,k5⟩:=b3 hnl
 simp only[List.length_cons,List.length_nil,Nat.zero_add,aG]at k4 k3
 obtain⟨sv,rest,hsv,hrep,_⟩:=k4
 have hc0:w.cell? ⟨g.β q,0,none⟩=some sv:=by
  rw[cell_of_row w _ _ _ _ _ k1]
  cases cur with
  |nil=>simp at k3
  |cons a cur=>simp at hsv;simp[hsv.1]
 have hI:Rg.aFh w.heap.size w sv l:=by
  obtain⟨A,cap,rfl,hrw⟩:=mX hi hx hrep
  by_cases hl0:l=[]
  ·subst hl0;exact .inl ⟨rfl,A,cap,rfl⟩
  ·obtain⟨b,o,ws,rfl,m1,m2⟩:=hrw (by cases l with|nil=>exact absurd rfl hl0|cons a l=>simp)
   have hws:=aFO l ws m1
   refine .inr ⟨b,o,cap,rfl,?_,fun j hj=>?_⟩
   ·have h0:=m2 0 (by cases l with|nil=>exact absurd rfl hl0|cons a l=>simp)
    rw[hws]at h0
    cases l with
    |nil=>exact absurd rfl hl0
    |cons a l=>exact nC (a:=⟨b,o+0,none⟩) (v:=.int .u32 a) (by simpa using h0)
   ·rw[m2 j (by simpa using hj),hws]
    simp[hj]
 refine(((Rg.aDZ Fence.wide 4 trivial trivial trivial rfl (Nat.le_refl _) (g.β q) sv l hl w (nC hc0) hc0 hI).calls room_wide)).mono ?_
 rintro e w' ⟨v,rfl,hrow,hbel⟩
 have hlen:l.length=(l.map (Value.int .u32)).length:=sS
 rw[hlen]at hrow
 obtain⟨g',h1,h2,h3⟩:=rG (cs:=us l) hi hbel hrow (fun w g=>uK w g l)
 rw[← hlen]at h1
 exact⟨v,_,_,g',rfl,⟨rfl,rfl⟩,h1,h2,h3⟩
def aOj:fO:=fun f args st=>if f=78 then match args with
 |[.fn (.func g) [.pt q 0]]=>if g=140 then match st.H q with
    |.box e s [x]=>if e=22∧s=1 then match yY tab 22 st x with
      |some (n,ds)=>match eW ds with
       |some (ks,ns)=>if(ks.all fun k=>decide (k=.u32))=true∧ns.length=n∧n≤1048576 then some [(.ms st.next 0 n,st.new (.box 34 1 (us ns)))]else none
       |none=>none
      |none=>none
     else none
    |_=>none
  else none
 |_=>none
 else none
theorem aDR:∀(ds:List LV) (ks:List IntKind) (ns:List Int),eW ds=some (ks,ns)→(ks.all fun k=>decide (k=.u32))=true→ds=us ns
 |[],ks,ns,h,_=>by simp only[eW,Option.some.injEq,Prod.mk.injEq]at h;obtain⟨rfl,rfl⟩:=h;rfl
 |c::ds,ks,ns,h,ha=>by
  cases c with
  |atom x=>
   cases x with
   |int k n=>
    simp only[eW]at h
    cases hi:eW ds with
    |none=>simp[hi]at h
    |some p=>
     obtain⟨ks',ns'⟩:=p
     simp only[hi,Option.some.injEq,Prod.mk.injEq]at h
     obtain⟨rfl,rfl⟩:=h
     simp only[List.all_cons,Bool.and_eq_true,decide_eq_true_eq]at ha
     obtain⟨rfl,ha⟩:=ha
     rw[aDR ds ks' ns' hi ha];rfl
   |_=>simp[eW]at h
  |_=>simp[eW]at h
theorem uX:jM Tryz.prog aOj:=by
 intro f args st rs h
 unfold aOj at h
 split at h
 ·rename_i hf
  subst hf
  split at h
  ·rename_i g q
   split at h
   ·rename_i hg
    subst hg
    split at h
    ·rename_i e s x hH
     split at h
     ·rename_i hes
      obtain⟨rfl,rfl⟩:=hes
      split at h
      ·rename_i n ds hsrc
       split at h
       ·rename_i ks ns hin
        split at h
        ·rename_i hc
         obtain⟨c1,rfl,c3⟩:=hc
         injection h with h
         subst h
         have:=aDR ds ks ns hin c1
         subst this
         exact(aGi ns x q st c3 hH hsrc).mono (by rintro r st' ⟨rfl,rfl⟩;simp)
        ·cases h
       ·cases h
      ·cases h
     ·cases h
    ·cases h
   ·cases h
  ·cases h
 ·cases h
structure Mp where
 g:Gr
 rots:List (List Int)
 deriving DecidableEq
abbrev cS(rs:List (List Int)):List LV:=rs.map fun r=>.sl 0 r.length (us r)
abbrev mpL(m:Mp):List LV:=grL m.g++[.sl 0 m.rots.length (cS m.rots)]
theorem eE(rs:List (List Int))(k:Nat)(hk:k<rs.length):(cS rs).drop k=.sl 0 (rs.getD k []).length (us (rs.getD k []))::(cS rs).drop (k+1):=by
 unfold cS
 rw[List.drop_eq_getElem_cons (by simpa using hk)]
 simp[hk]
def Mp.ok(m:Mp):Prop:=m.g.ok∧m.rots.length≤maxLen∧∀ r∈m.rots,r.length≤maxLen∧∀ x∈r,U32 x
theorem aNU{lvs:List LV}(h:Shp tab 39 lvs):∃ m:Mp,lvs=mpL m∧m.ok:=by
 obtain⟨ps,rfl,h1,h2⟩:=oI rfl rfl h
 match ps,h1 with
 |[p,q],_=>
  obtain⟨g,rfl,k1⟩:=aJl (h2 0 _ p rfl rfl)
  obtain⟨l,rfl,k3,k4⟩:=aMq (h2 1 _ q rfl rfl)
  exact⟨⟨g,l⟩,rfl,k1,k3,k4⟩
theorem dA(es:List (List Int×LV))(a x:List Int)(v:LV):aY (aV es a v) x=if x=a then some v else aY es x:=by
 induction es with
 |nil=>
  simp only[aV,aY,beq_iff_eq]
 |cons p es ih=>
  by_cases h:a=p.1
  ·have:aV (p::es) a v=(a,v)::es:=by simp[aV,h]
   rw[this]
   simp only[aY,beq_iff_eq]
   by_cases hx:x=a
   ·simp[hx]
   ·have:¬x=p.1:=by rw[← h];exact hx
    simp[hx,this]
  ·have:aV (p::es) a v=p::aV es a v:=by simp[aV,h]
   rw[this]
   simp only[aY,beq_iff_eq]
   by_cases hx:x=p.1
   ·have:¬x=a:=fun h'=>h (by rw[← h',hx])
    rw[if_pos hx,if_neg this,if_pos hx]
   ·simp[hx,ih]
section
variable {P:Program} {T:Tab} {w:World} {g:G} {st:St}
theorem zE{xs1:List Int}{lv:LV}:∀ {es:List (List Int×LV)},aY es xs1=some lv→aV es xs1 lv=es
 |[],h=>by simp[aY]at h
 |p::es,h=>by
  simp only[aY]at h
  split at h
  ·rename_i hq
   simp only[aV,if_pos hq]
   obtain⟨k,v⟩:=p
   simp only[Option.some.injEq]at h
   simp only[beq_iff_eq]at hq
   rw[hq,h]
  ·rename_i hne
   simp only[aV,if_neg hne,zE h]
def aJc(w:World)(b:Nat)(xs1:List Int)(es:List (List Int×LV))(born:Nat):Prop:=
 ∃(ents:List MapEntry) (clock j:Nat) (en:MapEntry),w.heap[b]?=some (.map ents.toArray clock)∧ents[j]?=some en∧en.born=born∧fnd xs1 es ents 0=some (0+j,en.val)
theorem aCA{xs1:List Int}{lv:LV}{e:MapEntry}:∀(es:List (List Int×LV)) (ents:List MapEntry) (i:Nat),aY es xs1=none→es.length=ents.length→fnd xs1 (aV es xs1 lv) (ents++[e]) i=some (i+ents.length,e.val)
 |[],[],i,_,_=>by simp[aV,fnd]
 |[],_::_,_,_,h=>by simp at h
 |_::_,[],_,_,h=>by simp at h
 |p::es,e'::ents,i,h1,h2=>by
  simp only[aY]at h1
  split at h1
  ·cases h1
  ·rename_i hne
   simp only[aV,if_neg hne,List.cons_append,fnd]
   rw[aCA es ents (i+1) h1 (by simpa using h2)]
   simp only[List.length_cons]
   congr 2;omega
theorem aBj(hT:bC P T)(hi:Inv w g st){t k e l:Nat}{rk re:bG}{ks:List IntKind}{es:List (List Int×LV)}{xs1:List Int}(hm:gK T t=some (k,e))(hk:T k=some rk)(hz:T e=some re)(hck:rk.ck=some ks)(hl:st.H l=.map rk.agg ks es)(hlen:xs1.length=ks.length):
 ∃(v:Value) (born:Nat) (w':World),(Instr.mapEntry t (.map (some (g.β l))) (mkV rk.agg ks xs1)).run P w=.ok (.tuple #[v,goInt born]) w'∧Inv w' g (st.set l (.map rk.agg ks (aV es xs1 ((aY es xs1).getD (jX re)))))∧Ext w g w' g∧aJc w' (g.β l) xs1 (aV es xs1 ((aY es xs1).getD (jX re))) born:=by
 have hu:=kD hT hm
 have E:=(hT k rk hk).eqk _ hck
 obtain⟨m0,m1,ents,clock,m2,m3,m4,m5,m6,m7⟩:=hi.mp l _ _ es hl
 have hlt:g.β l<w.heap.size:=(Array.getElem?_eq_some_iff.1 m2).1
 have hrun:=gM (w:=w) E hlen es ents m3 m1
 have hchk:=fun em=>E.chk w em xs1 hlen
 cases hg:aY es xs1 with
 |none=>
  obtain⟨z,hz1,hz2⟩:∃ z,(zeroValue e).run P w=.ok z w∧Rep w g (jX re) z:=⟨_,(hT e re hz).zeroValue w,aAz (hT e re hz)⟩
  have hf:=mJ xs1 es ents 0 hg
  obtain⟨a1,a2⟩:=uZ (ag:=rk.agg) (ks:=ks) clock hz2 es ents hg m3 m4
  obtain⟨b1,b2⟩:=eF (clock':=clock+1) hi hl (pZ m1 hlen) a1 a2 (fun z hz=>by
   rcases List.mem_append.1 hz with hz|hz
   ·have:=m6 z hz;omega
   ·simp at hz;subst hz;simp) (by
   rw[List.map_append,List.nodup_append]
   refine⟨m7,sS,?_⟩
   intro a ha b hb
   simp at hb;subst hb
   obtain⟨z,hz,rfl⟩:=List.mem_map.1 ha
   have:=m6 z hz
   omega)
  refine⟨z,clock,_,?_,b1,b2,ents++[⟨mkV rk.agg ks xs1,z,clock⟩],clock+1,ents.length,⟨mkV rk.agg ks xs1,z,clock⟩,?_,List.getElem?_concat_length,rfl,?_⟩
  ·unfold Instr.mapEntry
   simp only[Sem.run_bind,run_underlying hu,Result.andThen_ok,MapKept.run_getObj_map m2,hchk,hrun,hf,hz1]
   rw[MapKept.run_setObj_map _ m2]
   simp
  ·simp[Array.getElem?_setIfInBounds,hlt]
  ·have:=aCA (lv:=jX re) (e:=⟨mkV rk.agg ks xs1,z,clock⟩) es ents 0 hg (by have:=congrArg List.length m3;simpa using this.symm)
   simpa using this
 |some lv=>
  obtain⟨j,en,hf,hen,hrep,hkey⟩:=mG (w:=w) (g:=g) xs1 es ents 0 lv m4 hg
  simp only[Option.getD_some]
  rw[zE hg]
  obtain⟨b1,b2⟩:=eF (clock':=clock) hi hl m1 m3 m4 m6 m7
  have hek:en.key=mkV rk.agg ks xs1:=by
   have h1:(ents.map (·.key))[j]?=some en.key:=by simp[hen]
   rw[m3,List.getElem?_map]at h1
   cases hej:es[j]? with
   |none=>simp[hej]at hkey
   |some q=>simp[hej]at hkey h1;rw[← h1,hkey]
  have hmod:ents.toArray.modify (0+j) (fun e=>{ e with key:=mkV rk.agg ks xs1 })=ents.toArray:=by
   rw[Nat.zero_add,List.modify_toArray]
   congr 1
   apply List.ext_getElem?
   intro n
   rw[List.getElem?_modify]
   by_cases hjn:j=n
   ·subst hjn
    rw[hen]
    simp only[if_pos,Option.map_eq_map,Option.map_some]
    rw[← hek]
   ·simp[hjn]
  refine⟨en.val,en.born,_,?_,b1,b2,ents,clock,j,en,?_,hen,rfl,hf⟩
  ·unfold Instr.mapEntry
   simp only[Sem.run_bind,run_underlying hu,Result.andThen_ok,MapKept.run_getObj_map m2,hchk,hrun,hf]
   have hst:(Instr.keyThatStays (((ents.toArray[0+j]?).map (·.key)).getD (mkV rk.agg ks xs1)) (mkV rk.agg ks xs1)).run P w=.ok (mkV rk.agg ks xs1) w:=by
    have:(((ents.toArray[0+j]?).map (·.key)).getD (mkV rk.agg ks xs1))=mkV rk.agg ks xs1:=by simp[hen,hek]
    rw[this]
    unfold Instr.keyThatStays
    rw[pA E.one hlen]
    simp
   rw[hst]
   simp only[Result.andThen_ok]
   rw[MapKept.run_setObj_map _ m2,hmod]
   simp[hen]
  ·simp[Array.getElem?_setIfInBounds,hlt]
theorem aGo{xs1:List Int}:∀(es:List (List Int×LV)) (ents:List MapEntry) (i j:Nat) (v:Value),fnd xs1 es ents i=some (i+j,v)→(es[j]?).map (·.1)=some xs1
 |[],_,_,_,_,h=>by simp[fnd]at h
 |_::_,[],_,_,_,h=>by simp[fnd]at h
 |p::es,e::ents,i,j,v,h=>by
  simp only[fnd]at h
  split at h
  ·rename_i hq
   simp only[Option.some.injEq,Prod.mk.injEq]at h
   obtain rfl:j=0:=oO
   simpa using(beq_iff_eq.1 hq).symm
  ·cases j with
   |zero=>
    exfalso
    have:∀(es:List (List Int×LV)) (ents:List MapEntry) (i m:Nat) (v:Value),fnd xs1 es ents i=some (m,v)→i≤m:=by
     intro es
     induction es with
     |nil=>intro ents i m v h;simp[fnd]at h
     |cons p es ih=>
      intro ents i m v h
      cases ents with
      |nil=>simp[fnd]at h
      |cons e ents=>
       simp only[fnd]at h
       split at h
       ·simp at h;omega
       ·have:=ih _ _ _ _ h;omega
    have:=this _ _ _ _ _ h
    omega
   |succ j=>
    have:=aGo es ents (i+1) j v (by rw[h];congr 2;omega)
    simpa using this
theorem aET{ents:List MapEntry}{j:Nat}{en:MapEntry}{k v:Value}(h:ents[j]?=some en)(hk:en.key=k):ents.toArray.modify j (fun e=>{ e with val:=v })=(ents.modify j fun e=>{ e with key:=k,val:=v }).toArray:=by
 rw[List.modify_toArray]
 congr 1
 apply List.ext_getElem?
 intro n
 rw[List.getElem?_modify,List.getElem?_modify]
 by_cases hjn:j=n
 ·subst hjn
  rw[h]
  simp[hk]
 ·simp[hjn]
theorem yW{l:List MapEntry}(hn:(l.map (·.born)).Nodup){j:Nat}{e0:MapEntry}(h:l[j]?=some e0):l.findIdx? (fun e=>(e.born:Int)==(e0.born:Int))=some j:=by
 obtain⟨hj,he⟩:=List.getElem?_eq_some_iff.1 h
 rw[List.findIdx?_eq_some_iff_getElem]
 refine⟨hj,by rw[he];simp,fun i hi=>?_⟩
 simp only[beq_iff_eq,Int.natCast_inj]
 intro hb
 have h1:=(List.pairwise_iff_getElem.1 hn) i j (by simp;omega) (by simpa using hj) hi
 apply h1
 simp[hb,he]
theorem vM(hi:Inv w g st){t l born:Nat}{ag:Bool}{ks:List IntKind}{es:List (List Int×LV)}{xs1:List Int}(hl:st.H l=.map ag ks es)(hlen:xs1.length=ks.length)(ho:aJc w (g.β l) xs1 es born){y:LV}{v:Value}(hv:Rep w g y v):
 ∃ w',(Instr.entryStore t (.map (some (g.β l))) (goInt born) v).run P w=.ok () w'∧Inv w' g (st.set l (.map ag ks (aV es xs1 y)))∧Ext w g w' g:=by
 obtain⟨m0,m1,ents,clock,m2,m3,m4,m5,m6,m7⟩:=hi.mp l _ _ es hl
 obtain⟨ents',clock',j,en,h1,h2,rfl,h4⟩:=ho
 rw[m2]at h1
 injection h1 with h1
 injection h1 with h1 h1'
 have h1:=congrArg Array.toList h1
 simp only at h1
 subst h1 h1'
 obtain⟨a1,a2,a3⟩:=vJ (ag:=ag) (ks:=ks) hv es ents 0 j en.val h4 m3 m4
 obtain⟨b1,b2⟩:=eF (clock':=clock) hi hl (pZ m1 hlen) a1 a2 (fun z hz=>by
  have:z.born∈(ents.map (·.born)):=by rw[← a3];exact List.mem_map.2 ⟨z,hz,rfl⟩
  obtain⟨z',hz',hb⟩:=List.mem_map.1 this
  rw[← hb];exact m6 z' hz') (by rw[a3];exact m7)
 refine⟨_,?_,b1,b2⟩
 unfold Instr.entryStore
 simp only[Sem.run_bind,Result.andThen_ok,MapKept.run_getObj_map m2]
 have hb:(asInt (goInt (en.born:Int))).run P w=.ok (en.born:Int) w:=by simp[asInt,goInt,asIntOf]
 rw[hb]
 simp only[Result.andThen_ok]
 have hf:ents.toArray.findIdx? (fun e=>(e.born:Int)==(en.born:Int))=some j:=by
  have:=yW m7 h2
  simpa using this
 rw[hf]
 simp only
 rw[MapKept.run_setObj_map _ m2]
 have hkey:=aGo es ents 0 j en.val h4
 have hek:en.key=mkV ag ks xs1:=by
  have h1:(ents.map (·.key))[j]?=some en.key:=by simp[h2]
  rw[m3,List.getElem?_map]at h1
  cases hej:es[j]? with
  |none=>simp[hej]at hkey
  |some q=>simp[hej]at hkey h1;rw[← h1,hkey]
 rw[aET h2 hek]
end
theorem aGr(es:List (List Int×LV))(k:List Int)(v v':LV):aV (aV es k v) k v'=aV es k v':=by
 induction es with
 |nil=>simp[aV]
 |cons p es ih=>
  by_cases h:k=p.1
  ·simp[aV,h]
  ·simp[aV,h,ih]
theorem aKn(st:St)(l:Nat)(a b:cA):(st.set l a).set l b=st.set l b:=by
 unfold St.set
 congr 1
 funext x
 by_cases h:x=l<;>simp[h]
theorem bS.loose{w:World}{g:G}{a:Act}{fr fr':Frm}(h:bS w g a fr)(hl:∀ t,fr' t=fr t∨fr' t=.dead):bS w g a fr':=fun t=>by
 rcases hl t with e|e
 ·rw[e];exact h t
 ·rw[e];simp only[Rep]
def jI(ops:Array Oper)(i:Nat)(op:Op)(d:Option Nat):Prop:=∃ o,ops[i]?=some o∧o.op=op∧o.dst=d∧o.guard=none
section
variable {P:Program} {T:Tab} {ops:Array Oper} {N:Nat} {X:Act→World→Prop}
theorem fU{i:Nat}{op:Op}{d:Nat}{v:Value}{fuel:Nat}{listed:Array Bool}{a:Act}{w:World}(ho:jI ops i op (some d))(hs:Region.noSelect ops=true)(hf:Region.free .any ops listed i=true)(hr:(Region.ready .any ops listed).contains i=true)
 (hrun:∀(o:Oper) (w:World),o.op=op→(execOp a.eval o).run P w=.ok (.value v) w) (h:wpAny P .any ops (fun e a w=>e=.normal∧X a w) fuel (listed.setIfInBounds i true) (a.put (some d) v) w):wpAny P .any ops (fun e a w=>e=.normal∧X a w) (fuel+1) listed a w:=by
 obtain⟨o,h1,h2,h3,h4⟩:=ho
 refine wpAny_take (v:=v) h1 hs hf hr (fun c a w h=>by cases h.1) (.inl ⟨?_,fun w=>hrun o w h2⟩) (by rw[h3];exact h)
 simp[Region.wanted,h4]
theorem kO{i:Nat}{op:Op}{d:Option Nat}{v:Value}{a:Act}{w w':World}{Q:Exit→Act→World→Prop}{K:Act→World→Prop}(ho:jI ops i op d)(hrun:∀ o:Oper,o.op=op→(execOp a.eval o).run P w=.ok (.value v) w')(h:K (a.put d v) w'):wpOp P ops Q i K a w:=by
 obtain⟨o,h1,h2,h3,h4⟩:=ho
 unfold wpOp
 simp only[h1]
 rw[if_pos (by simp[Region.wanted,h4])]
 left
 unfold Oper.wp
 rw[hrun o h2,Oper.upon_value,h3]
 exact h
theorem step_skip{i:Nat}{op:Op}{a:Act}{w w':World}{Q:Exit→Act→World→Prop}{K:Act→World→Prop}(ho:jI ops i op none)(hrun:∀ o:Oper,o.op=op→(execOp a.eval o).run P w=.ok .skip w')(h:K a w'):wpOp P ops Q i K a w:=by
 obtain⟨o,h1,h2,h3,h4⟩:=ho
 unfold wpOp
 simp only[h1]
 rw[if_pos (by simp[Region.wanted,h4])]
 left
 unfold Oper.wp
 rw[hrun o h2,Oper.upon_skip]
 simpa[h3,Act.put]using h
def aKz(ops:Array Oper):Bool:=
 let R:=fun L=>Region.ready .any ops L
 let F:=fun L i=>Region.free .any ops L i&&(R L).contains i
 Region.noSelect ops&&F #[false,false,false,false,false,false,false,false,false] 0&&F #[true,false,false,false,false,false,false,false,false] 1&&F #[true,true,false,false,false,false,false,false,false] 2&&
  (R #[true,true,true,false,false,false,false,false,false]==[3])&&(R #[true,true,true,true,false,false,false,false,false]==[4,6])&&F #[true,true,true,true,true,false,false,false,false] 5&&(R #[true,true,true,true,true,true,false,false,false]==[6])&&
  F #[true,true,true,true,true,true,true,false,false] 7&&(R #[true,true,true,true,true,true,true,true,false]==[8])&&(R #[true,true,true,true,true,true,true,true,true]==[])&&F #[true,true,true,true,false,false,true,false,false] 7&&
  (R #[true,true,true,true,false,false,true,true,false]==[4])&&F #[true,true,true,true,true,false,true,true,false] 5
end
section
variable {ops:Array Oper} {N:Nat}
theorem aMR{Q:AQ}{id l:Nat}{fr:Frm}{st:St}{es:List (List Int×LV)}{a b c:Int}(hsz:ops.size=9)
 (h0:jI ops 0 (.move (.tmp 9)) (some 53)) (h1:jI ops 1 (.move (.tmp 11)) (some 54)) (h2:jI ops 2 (.move (.tmp 15)) (some 55)) (h3:jI ops 3 (.build 73 #[(0,.tmp 54),(1,.tmp 55)]) (some 56))
 (h4:jI ops 4 (.lookup 97 (.tmp 53) (.tmp 56) false) (some 57)) (h5:jI ops 5 (.binOp .add 3 (.tmp 57) (.const (.int .i64 1)) 3) (some 58))
 (h6:jI ops 6 (.mapEntry 97 (.tmp 53) (.tmp 56)) (some 59)) (h7:jI ops 7 (.extract (.tmp 59) 1) (some 60)) (h8:jI ops 8 (.entryStore 97 (.tmp 53) (.tmp 60) (.tmp 58)) none)
 (hreg:cE N ops ops.toList=true) (hN:60<N) (hk:aKz ops=true)
 (f9:fr 9=.mp l) (f11:fr 11=u a) (f15:fr 15=u b) (hM:st.H l=.map true [.u32,.u32] es) (hc:(aY es [a,b]).getD (i 0)=i c) (hw:IntKind.i64.wrap (c+1)=c+1)
 (hQ:∀ fr',(∀ t,t<53∨60<t→fr' t=fr t)→Q .normal fr' (st.set l (.map true [.u32,.u32] (aV es [a,b] (i (c+1)))))) (hm:Tryz.prog.follows .mixedOrders=true:=by kernel_rfl):
 AWp Tryz.prog N (.region id ops true) Q fr st:=by
 intro A w g hi hr hsz2 hd
 refine Code.wp_mono (Q:=fun e a' w'=>e=.normal∧∃ fr' g',(∀ t,t<53∨60<t→fr' t=fr t)∧Inv w' g' (st.set l (.map true [.u32,.u32] (aV es [a,b] (i (c+1)))))∧bS w' g' a' fr'∧a'.tmps.size=N∧a'.defers=[]∧Ext w g w' g') ?_ ?_
 ·rintro e a' w' ⟨rfl,fr',g',k1,k2,k3,k4,k5,k6⟩
  exact⟨fr',_,g',hQ fr' k1,k2,k3,k4,k5,k6⟩
 refine wp_region_any hm ?_
 rw[hsz]
 simp only[aKz,Bool.and_eq_true,beq_iff_eq]at hk
 obtain⟨⟨⟨⟨⟨⟨⟨⟨⟨⟨⟨⟨⟨hs,k0a,k0b⟩,k1a,k1b⟩,k2a,k2b⟩,k3⟩,k4⟩,k5a,k5b⟩,k6⟩,k7a,k7b⟩,k8⟩,k9⟩,j7a,j7b⟩,j4⟩,j5a,j5b⟩:=hk
 have he0:=cT w g
 have hi0:=hi.drew
 have r0:=hr.mono he0
 change wpAny _ _ _ _ 9 _ A w.drew
 generalize w.drew=w0 at *
 have v9:A.eval (.tmp 9)=.map (some (g.β l)):=by have:=aD r0 (.tmp 9);simp only[aH,f9,Rep]at this;exact this.1
 refine fU (v:=A.eval (.tmp 9)) h0 hs k0a k0b (fun o w ho=>by simp[execOp,ho]) ?_
 have r1:bS w0 g (A.put (some 53) (A.eval (.tmp 9))) (upd fr 53 (.mp l)):=r0.put oO (by have:=aD r0 (.tmp 9);simpa only[aH,f9]using this)
 have s1:=(aT A (some 53) (A.eval (.tmp 9))).trans hsz2
 have d1:=(put_defers A (some 53) (A.eval (.tmp 9))).trans hd
 generalize A.put (some 53) (A.eval (.tmp 9))=A1 at *
 refine fU (v:=A1.eval (.tmp 11)) h1 hs k1a k1b (fun o w ho=>by simp[execOp,ho]) ?_
 have r2:bS w0 g (A1.put (some 54) (A1.eval (.tmp 11))) (upd (upd fr 53 (.mp l)) 54 (u a)):=r1.put oO (by have:=aD r1 (.tmp 11);simpa[aH,upd,f11]using this)
 have s2:=(aT A1 (some 54) (A1.eval (.tmp 11))).trans s1
 have d2:=(put_defers A1 (some 54) (A1.eval (.tmp 11))).trans d1
 generalize A1.put (some 54) (A1.eval (.tmp 11))=A2 at *
 refine fU (v:=A2.eval (.tmp 15)) h2 hs k2a k2b (fun o w ho=>by simp[execOp,ho]) ?_
 have r3:bS w0 g (A2.put (some 55) (A2.eval (.tmp 15))) (upd (upd (upd fr 53 (.mp l)) 54 (u a)) 55 (u b)):=r2.put oO (by have:=aD r2 (.tmp 15);simpa[aH,upd,f15]using this)
 have s3:=(aT A2 (some 55) (A2.eval (.tmp 15))).trans s2
 have d3:=(put_defers A2 (some 55) (A2.eval (.tmp 15))).trans d2
 generalize A2.put (some 55) (A2.eval (.tmp 15))=A3 at *
 refine wpAny_all k3 sS fun i hmem=>?_
 obtain rfl:i=3:=by simpa using hmem
 obtain⟨o3,q1,q2,q3,q4⟩:=h3
 have hko:jR N o3.dst=true∧gE N ops o3.guard=true:=by
  unfold cE at hreg
  rw[List.all_eq_true]at hreg
  have:=hreg o3 (Array.mem_toList_iff.2 (Array.mem_of_getElem? q1))
  simpa using this
 refine tC (N:=N) (T:=tab) (M:=[]) (K:=fun fr' st'=>fr'=upd (upd (upd (upd fr 53 (.mp l)) 54 (u a)) 55 (u b)) 56 (.ag [u a,u b])∧st'=st) aF q1 hko.1 hko.2 hi0 r3 s3 d3 he0 (fun fr' st' A4 w1 g1 hi1 r4 s4 d4 he1 hK=>?_) ?_
 rotate_left
 ·unfold gR
  simp only[q4,bB,q2,q3]
  refine⟨fun _=>?_,fun h=>by cases h⟩
  have e:aop tab (inM [] (some 56)) o3 (upd (upd (upd fr 53 (.mp l)) 54 (u a)) 55 (u b)) st=xL tab 73 [(0,u a),(1,u b)] st:=by
   unfold aop;rw[q2];rfl
  rw[e]
  exact⟨rfl,rfl,rfl⟩
 obtain⟨rfl,rfl⟩:=hK
 clear r0 r1 r2 r3 s1 s2 s3 d1 d2 d3 hi0 he0 hr hi hd hsz2 v9
 change wpAny _ _ _ _ 5 #[true,true,true,true,false,false,false,false,false] A4 w1
 obtain⟨F,hF⟩:∃ F,F=upd (upd (upd (upd fr 53 (.mp l)) 54 (u a)) 55 (u b)) 56 (.ag [u a,u b]):=⟨_,rfl⟩
 rw[← hF]at r4
 have F53:F 53=.mp l:=by rw[hF];simp[upd]
 have F56:F 56=.ag [u a,u b]:=by rw[hF];simp[upd]
 have Fo:∀ t,t<53∨60<t→F t=fr t:=fun t ht=>by rw[hF];simp[upd,show t≠53 by omega,show t≠54 by omega,show t≠55 by omega,show t≠56 by omega]
 clear hF
 obtain⟨rk,hrk,hck,hag⟩:∃ rk,tab 73=some rk∧rk.ck=some [.u32,.u32]∧rk.agg=true:=⟨_,rfl,rfl,rfl⟩
 obtain⟨re,hre,hze⟩:∃ re,tab 3=some re∧jX re=i 0:=⟨_,rfl,rfl⟩
 have hme:gK tab 97=some (73,3):=rfl
 obtain⟨vE,born,w2,e1,e2,e3,e4⟩:=aBj (xs1:=[a,b]) aF hi1 hme hrk hre hck (by rw[hag];exact hM) rfl
 rw[hag]at e1
 rw[hag,hze,hc]at e2
 rw[hze,hc]at e4
 have hM2:(st'.set l (.map true [.u32,.u32] (aV es [a,b] (i c)))).H l=.map true [.u32,.u32] (aV es [a,b] (i c)):=sS
 obtain⟨w3,x1,x2,x3⟩:=vM (P:=Tryz.prog) (t:=97) e2 hM2 rfl e4 (y:=i (c+1)) (v:=.int .i64 (c+1)) (by simp only[Rep])
 rw[aKn,aGr]at x2
 have key:∀(A:Act) (G:Frm),bS w1 g1 A G→G 53=.mp l→G 56=.ag [u a,u b]→A.eval (.tmp 53)=.map (some (g1.β l))∧A.eval (.tmp 56)=mkV true [.u32,.u32] [a,b]:=fun A G h k1 k2=>by
  have q1:=aD h (.tmp 53)
  have q2:=aD h (.tmp 56)
  simp only[aH,k1,k2]at q1 q2
  refine⟨by simp only[Rep]at q1;exact q1.1,(kL (ag:=true) (ks:=[.u32,.u32]) (xs1:=[a,b]) rfl q2).1⟩
 have he3:Ext w g w3 g1:=(he1.trans e3).trans x3
 have hadd:∀(A:Act) (w:World) (o:Oper),A.eval (.tmp 57)=.int .i64 c→o.op=.binOp .add 3 (.tmp 57) (.const (.int .i64 1)) 3→(execOp A.eval o).run Tryz.prog w=.ok (.value (.int .i64 (c+1))) w:=fun A w o hv ho=>by
  obtain⟨_,z,hz,hr⟩:=sP (w:=w) (g:=g1) (st:=st') (T:=tab) aF (op:=.add) (t:=3) (x:=i c) (y:=i 1) (v:=.int .i64 c) (u:=.int .i64 1) (.tmp 57) (.const (.int .i64 1)) rfl rfl (by simp only[Rep]) (by simp only[Rep])
  have hz2:z=.int .i64 (c+1):=by
   simp only[Rep]at hr
   rw[hr,hw]
  rw[hz2]at hz
  have hv':A.tmps.getD 57 undef=.int .i64 c:=hv
  simp only[execOp,ho,Sem.run_bind,Act.eval]at hz ⊢
  rw[hv',hz]
  simp
 have hlook:∀ {w:World} {s:St} {es':List (List Int×LV)} (A:Act) (G:Frm),Inv w g1 s→s.H l=.map true [.u32,.u32] es'→(aY es' [a,b]).getD (i 0)=i c→bS w g1 A G→G 53=.mp l→G 56=.ag [u a,u b]→∀ o:Oper,o.op=.lookup 97 (.tmp 53) (.tmp 56) false→(execOp A.eval o).run Tryz.prog w=.ok (.value (.int .i64 c)) w:=fun {w s es'} A G hi hH hg hr k1 k2 o ho=>by
  have q1:=aD hr (.tmp 53)
  have q2:=aD hr (.tmp 56)
  simp only[aH,k1,k2]at q1 q2
  obtain⟨r,he,hrc,hrv⟩:∃ r,lB tab 97 (.mp l) (.ag [u a,u b]) false s=some r∧r.c∧r.v=(aY es' [a,b]).getD (jX re):=by
   unfold lB
   rw[hme]
   simp only[hrk,hre,show rA (.ag [u a,u b])=some (true,[.u32,.u32],[a,b]) from rfl,hH]
   exact⟨_,rfl,⟨hck,hag,trivial,trivial⟩,rfl⟩
  obtain⟨_,z,hz,hzr⟩:=oY (P:=Tryz.prog) (T:=tab) aF hi he hrc q1 q2
  rw[hrv]at hzr
  simp only[hze,hg,Rep]at hzr
  rw[hzr]at hz
  simp only[execOp,ho,Sem.run_bind]
  rw[hz]
  simp
 have hcd:(aY (aV es [a,b] (i c)) [a,b]).getD (i 0)=i c:=by rw[dA,if_pos rfl];rfl
 refine wpAny_all k4 sS fun i hmem=>?_
 have hi46:i=4∨i=6:=by simpa using hmem
 rcases hi46 with rfl|rfl
 ·refine kO (v:=.int .i64 c) h4 (hlook A4 F hi1 hM hc r4 F53 F56) ?_
  have r5:bS w1 g1 (A4.put (some 57) (.int .i64 c)) (upd F 57 (Aw.i c)):=r4.put oO (by simp only[Rep])
  have s5:=(aT A4 (some 57) (.int .i64 c)).trans s4
  have d5:=(put_defers A4 (some 57) (.int .i64 c)).trans d4
  generalize A4.put (some 57) (.int .i64 c)=A5 at *
  change wpAny _ _ _ _ 4 #[true,true,true,true,true,false,false,false,false] A5 w1
  have v57:A5.eval (.tmp 57)=.int .i64 c:=by have:=aD r5 (.tmp 57);simpa[aH,upd,Rep]using this
  refine fU (v:=.int .i64 (c+1)) h5 hs k5a k5b (fun o w ho=>hadd A5 w o v57 ho) ?_
  have r6:bS w1 g1 (A5.put (some 58) (.int .i64 (c+1))) (upd (upd F 57 (Aw.i c)) 58 (Aw.i (c+1))):=r5.put oO (by simp only[Rep])
  have s6:=(aT A5 (some 58) (.int .i64 (c+1))).trans s5
  have d6:=(put_defers A5 (some 58) (.int .i64 (c+1))).trans d5
  generalize A5.put (some 58) (.int .i64 (c+1))=A6 at *
  change wpAny _ _ _ _ 3 #[true,true,true,true,true,true,false,false,false] A6 w1
  refine wpAny_all k6 sS fun i hmem=>?_
  obtain rfl:i=6:=by simpa using hmem
  obtain⟨v53,v56⟩:=key A6 _ r6 (by simp[upd,F53]) (by simp[upd,F56])
  refine kO (w':=w2) (v:=.tuple #[vE,goInt born]) h6 (fun o ho=>by simp only[execOp,ho,Sem.run_bind,v53,v56];rw[e1];simp) ?_
  have r7:bS w2 g1 (A6.put (some 59) (.tuple #[vE,goInt born])) (upd (upd (upd F 57 (Aw.i c)) 58 (Aw.i (c+1))) 59 (.tu [.dead,.atom (goInt born)])):=(r6.mono e3).put oO (by simp only[Rep,aG];exact⟨[vE,goInt born],rfl,_,_,rfl,trivial,_,_,rfl,rfl,rfl⟩)
  have s7:=(aT A6 (some 59) (.tuple #[vE,goInt born])).trans s6
  have d7:=(put_defers A6 (some 59) (.tuple #[vE,goInt born])).trans d6
  have v59:(A6.put (some 59) (.tuple #[vE,goInt born])).eval (.tmp 59)=.tuple #[vE,goInt born]:=by simp[Act.put,Act.eval,Array.getD_eq_getD_getElem?,show 59<A6.tmps.size by omega]
  generalize A6.put (some 59) (.tuple #[vE,goInt born])=A7 at *
  change wpAny _ _ _ _ 2 #[true,true,true,true,true,true,true,false,false] A7 w2
  refine fU (v:=goInt born) h7 hs k7a k7b (fun o w ho=>by simp[execOp,ho,v59,Instr.extract]) ?_
  have r8:bS w2 g1 (A7.put (some 60) (goInt born)) (upd (upd (upd (upd F 57 (Aw.i c)) 58 (Aw.i (c+1))) 59 (.tu [.dead,.atom (goInt born)])) 60 (.atom (goInt born))):=r7.put oO (by simp only[Rep])
  have s8:=(aT A7 (some 60) (goInt born)).trans s7
  have d8:=(put_defers A7 (some 60) (goInt born)).trans d7
  generalize A7.put (some 60) (goInt born)=A8 at *
  change wpAny _ _ _ _ 1 #[true,true,true,true,true,true,true,true,false] A8 w2
  refine wpAny_all k8 sS fun i hmem=>?_
  obtain rfl:i=8:=by simpa using hmem
  have v53:A8.eval (.tmp 53)=.map (some (g1.β l)):=by have:=aD r8 (.tmp 53);simp[aH,upd,F53,Rep]at this;exact this.1
  have v60:A8.eval (.tmp 60)=goInt born:=by have:=aD r8 (.tmp 60);simpa[aH,upd,Rep]using this
  have v58:A8.eval (.tmp 58)=.int .i64 (c+1):=by have:=aD r8 (.tmp 58);simpa[aH,upd,Rep]using this
  refine step_skip (w':=w3) h8 (fun o ho=>by simp only[execOp,ho,Sem.run_bind,v53,v60,v58];rw[x1];simp) ?_
  refine⟨k9,rfl,fun t=>if t<53∨60<t then fr t else .dead,g1,fun t ht=>if_pos ht,x2,(r8.mono x3).loose fun t=>?_,s8,d8,he3⟩
  by_cases ht:t<53∨60<t
  ·left
   rw[if_pos ht]
   simp only[upd]
   rw[if_neg oO,if_neg oO,if_neg oO,if_neg oO]
   exact(Fo t ht).symm
  ·exact .inr (if_neg ht)
 ·obtain⟨v53,v56⟩:=key A4 _ r4 F53 F56
  refine kO (w':=w2) (v:=.tuple #[vE,goInt born]) h6 (fun o ho=>by simp only[execOp,ho,Sem.run_bind,v53,v56];rw[e1];simp) ?_
  have r5:bS w2 g1 (A4.put (some 59) (.tuple #[vE,goInt born])) (upd F 59 (.tu [.dead,.atom (goInt born)])):=(r4.mono e3).put oO (by simp only[Rep,aG];exact⟨[vE,goInt born],rfl,_,_,rfl,trivial,_,_,rfl,rfl,rfl⟩)
  have s5:=(aT A4 (some 59) (.tuple #[vE,goInt born])).trans s4
  have d5:=(put_defers A4 (some 59) (.tuple #[vE,goInt born])).trans d4
  have v59:(A4.put (some 59) (.tuple #[vE,goInt born])).eval (.tmp 59)=.tuple #[vE,goInt born]:=by simp[Act.put,Act.eval,Array.getD_eq_getD_getElem?,show 59<A4.tmps.size by omega]
  generalize A4.put (some 59) (.tuple #[vE,goInt born])=A5 at *
  change wpAny _ _ _ _ 4 #[true,true,true,true,false,false,true,false,false] A5 w2
  refine fU (v:=goInt born) h7 hs j7a j7b (fun o w ho=>by simp[execOp,ho,v59,Instr.extract]) ?_
  have r6:bS w2 g1 (A5.put (some 60) (goInt born)) (upd (upd F 59 (.tu [.dead,.atom (goInt born)])) 60 (.atom (goInt born))):=r5.put oO (by simp only[Rep])
  have s6:=(aT A5 (some 60) (goInt born)).trans s5
  have d6:=(put_defers A5 (some 60) (goInt born)).trans d5
  generalize A5.put (some 60) (goInt born)=A6 at *
  change wpAny _ _ _ _ 3 #[true,true,true,true,false,false,true,true,false] A6 w2
  refine wpAny_all j4 sS fun i hmem=>?_
  obtain rfl:i=4:=by simpa using hmem
  refine kO (w':=w2) (v:=.int .i64 c) h4 (hlook A6 _ e2 hM2 hcd r6 (by simp[upd,F53]) (by simp[upd,F56])) ?_
  have r7:bS w2 g1 (A6.put (some 57) (.int .i64 c)) (upd (upd (upd F 59 (.tu [.dead,.atom (goInt born)])) 60 (.atom (goInt born))) 57 (Aw.i c)):=r6.put oO (by simp only[Rep])
  have s7:=(aT A6 (some 57) (.int .i64 c)).trans s6
  have d7:=(put_defers A6 (some 57) (.int .i64 c)).trans d6
  generalize A6.put (some 57) (.int .i64 c)=A7 at *
  change wpAny _ _ _ _ 2 #[true,true,true,true,true,false,true,true,false] A7 w2
  have v57:A7.eval (.tmp 57)=.int .i64 c:=by have:=aD r7 (.tmp 57);simpa[aH,upd,Rep]using this
  refine fU (v:=.int .i64 (c+1)) h5 hs j5a j5b (fun o w ho=>hadd A7 w o v57 ho) ?_
  have r8:bS w2 g1 (A7.put (some 58) (.int .i64 (c+1))) (upd (upd (upd (upd F 59 (.tu [.dead,.atom (goInt born)])) 60 (.atom (goInt born))) 57 (Aw.i c)) 58 (Aw.i (c+1))):=r7.put oO (by simp only[Rep])
  have s8:=(aT A7 (some 58) (.int .i64 (c+1))).trans s7
  have d8:=(put_defers A7 (some 58) (.int .i64 (c+1))).trans d7
  generalize A7.put (some 58) (.int .i64 (c+1))=A8 at *
  change wpAny _ _ _ _ 1 #[true,true,true,true,true,true,true,true,false] A8 w2
  refine wpAny_all k8 sS fun i hmem=>?_
  obtain rfl:i=8:=by simpa using hmem
  have v53:A8.eval (.tmp 53)=.map (some (g1.β l)):=by have:=aD r8 (.tmp 53);simp[aH,upd,F53,Rep]at this;exact this.1
  have v60:A8.eval (.tmp 60)=goInt born:=by have:=aD r8 (.tmp 60);simpa[aH,upd,Rep]using this
  have v58:A8.eval (.tmp 58)=.int .i64 (c+1):=by have:=aD r8 (.tmp 58);simpa[aH,upd,Rep]using this
  refine step_skip (w':=w3) h8 (fun o ho=>by simp only[execOp,ho,Sem.run_bind,v53,v60,v58];rw[x1];simp) ?_
  refine⟨k9,rfl,fun t=>if t<53∨60<t then fr t else .dead,g1,fun t ht=>if_pos ht,x2,(r8.mono x3).loose fun t=>?_,s8,d8,he3⟩
  by_cases ht:t<53∨60<t
  ·left
   rw[if_pos ht]
   simp only[upd]
   rw[if_neg oO,if_neg oO,if_neg oO,if_neg oO]
   exact(Fo t ht).symm
  ·exact .inr (if_neg ht)
end
def aNZ(o:Option Oper):Bool:=match o with
 |some { dst:=some 53,op:=.move (.tmp 9),guard:=none,.. }=>true
 |_=>false
theorem aMA{ops:Array Oper}(h:aNZ ops[0]?=true):jI ops 0 (.move (.tmp 9)) (some 53):=by
 unfold aNZ at h
 split at h
 ·rename_i h1;exact⟨_,h1,rfl,rfl,rfl⟩
 ·cases h
def aOK(o:Option Oper):Bool:=match o with
 |some { dst:=some 54,op:=.move (.tmp 11),guard:=none,.. }=>true
 |_=>false
theorem aMO{ops:Array Oper}(h:aOK ops[1]?=true):jI ops 1 (.move (.tmp 11)) (some 54):=by
 unfold aOK at h
 split at h
 ·rename_i h1;exact⟨_,h1,rfl,rfl,rfl⟩
 ·cases h
def aOH(o:Option Oper):Bool:=match o with
 |some { dst:=some 55,op:=.move (.tmp 15),guard:=none,.. }=>true
 |_=>false
theorem aMy{ops:Array Oper}(h:aOH ops[2]?=true):jI ops 2 (.move (.tmp 15)) (some 55):=by
 unfold aOH at h
 split at h
 ·rename_i h1;exact⟨_,h1,rfl,rfl,rfl⟩
 ·cases h
def aNT(o:Option Oper):Bool:=match o with
 |some { dst:=some 56,op:=.build ty ps,guard:=none,.. }=>decide (ty=73)&&match ps.toList with
  |[(0,.tmp 54),(1,.tmp 55)]=>true
  |_=>false
 |_=>false
theorem aMg{ops:Array Oper}(h:aNT ops[3]?=true):jI ops 3 (.build 73 #[(0,.tmp 54),(1,.tmp 55)]) (some 56):=by
 unfold aNT at h
 split at h
 ·rename_i h1
  rw[Bool.and_eq_true,decide_eq_true_eq]at h
  obtain⟨h0,h⟩:=h
  split at h
  ·rename_i h2
   subst h0
   exact⟨_,h1,congrArg _ (Array.ext' h2),rfl,rfl⟩
  ·cases h
 ·cases h
def aOx(o:Option Oper):Bool:=match o with
 |some { dst:=some 57,op:=.lookup 97 (.tmp 53) (.tmp 56) false,guard:=none,.. }=>true
 |_=>false
theorem aMs{ops:Array Oper}(h:aOx ops[4]?=true):jI ops 4 (.lookup 97 (.tmp 53) (.tmp 56) false) (some 57):=by
 unfold aOx at h
 split at h
 ·rename_i h1;exact⟨_,h1,rfl,rfl,rfl⟩
 ·cases h
def aOz(o:Option Oper):Bool:=match o with
 |some { dst:=some 58,op:=.binOp .add 3 (.tmp 57) (.const (.int .i64 1)) 3,guard:=none,.. }=>true
 |_=>false
theorem aLM{ops:Array Oper}(h:aOz ops[5]?=true):jI ops 5 (.binOp .add 3 (.tmp 57) (.const (.int .i64 1)) 3) (some 58):=by
 unfold aOz at h
 split at h
 ·rename_i h1;exact⟨_,h1,rfl,rfl,rfl⟩
 ·cases h
def aOa(o:Option Oper):Bool:=match o with
 |some { dst:=some 59,op:=.mapEntry 97 (.tmp 53) (.tmp 56),guard:=none,.. }=>true
 |_=>false
theorem aLw{ops:Array Oper}(h:aOa ops[6]?=true):jI ops 6 (.mapEntry 97 (.tmp 53) (.tmp 56)) (some 59):=by
 unfold aOa at h
 split at h
 ·rename_i h1;exact⟨_,h1,rfl,rfl,rfl⟩
 ·cases h
def aNH(o:Option Oper):Bool:=match o with
 |some { dst:=some 60,op:=.extract (.tmp 59) 1,guard:=none,.. }=>true
 |_=>false
theorem aMG{ops:Array Oper}(h:aNH ops[7]?=true):jI ops 7 (.extract (.tmp 59) 1) (some 60):=by
 unfold aNH at h
 split at h
 ·rename_i h1;exact⟨_,h1,rfl,rfl,rfl⟩
 ·cases h
def aOZ(o:Option Oper):Bool:=match o with
 |some { dst:=none,op:=.entryStore 97 (.tmp 53) (.tmp 60) (.tmp 58),guard:=none,.. }=>true
 |_=>false
theorem aMf{ops:Array Oper}(h:aOZ ops[8]?=true):jI ops 8 (.entryStore 97 (.tmp 53) (.tmp 60) (.tmp 58)) (none):=by
 unfold aOZ at h
 split at h
 ·rename_i h1;exact⟨_,h1,rfl,rfl,rfl⟩
 ·cases h
def aNm(ops:Array Oper):Bool:=ops.size==9&&aNZ ops[0]?&&aOK ops[1]?&&aOH ops[2]?&&aNT ops[3]?&&aOx ops[4]?&&aOz ops[5]?&&aOa ops[6]?&&aNH ops[7]?&&aOZ ops[8]?&&aKz ops
def aIs(fr:Frm):Frm:=fun t=>if t<53∨60<t then fr t else .dead
def aPs(fr:Frm)(st:St):Option (List (Frm×St)):=match fr 9,fr 11,fr 15 with
 |.mp l,.atom (.int .u32 a),.atom (.int .u32 b)=>match st.H l with
  |.map true [.u32,.u32] es=>match(aY es [a,b]).getD (i 0) with
   |.atom (.int .i64 c)=>if IntKind.i64.wrap (c+1)=c+1 then some [(aIs fr,st.set l (.map true [.u32,.u32] (aV es [a,b] (i (c+1)))))]else none
   |_=>none
  |_=>none
 |_,_,_=>none
def aGn(N:Nat)(ops:Array Oper)(dr:Bool)(fr:Frm)(st:St)(o:Option (List (Frm×St))):Option (List (Frm×St)):=
 if(dr&&aNm ops&&cE N ops ops.toList&&decide (60<N))=true then aPs fr st else o
theorem aHM{N:Nat}{Q Q':AQ}{c:Code}{fr:Frm}{st:St}(h:AWp Tryz.prog N c Q' fr st)(hq:∀ e f s,Q' e f s→∃ f',Q e f' s∧∀(w:World) (g:G) (a:Act),bS w g a f→bS w g a f'):AWp Tryz.prog N c Q fr st:=by
 intro a w g hi hr hs hd
 refine Code.wp_mono (fun e a2 w2 p=>?_) (h a w g hi hr hs hd)
 obtain⟨f2,s2,g2,k1,k2,k3,k4,k5,k6⟩:=p
 obtain⟨f3,j1,j2⟩:=hq _ _ _ k1
 exact⟨f3,s2,g2,j1,k2,j2 _ _ _ k3,k4,k5,k6⟩
theorem aKG{N id:Nat}{ops:Array Oper}{dr:Bool}{fr:Frm}{st:St}{o:Option (List (Frm×St))}{l:List (Frm×St)}(hm:Tryz.prog.follows .mixedOrders=true)(h:aGn N ops dr fr st o=some l):
 (∀ Q:AQ,(∀ f s,(f,s)∈l→Q .normal f s)→AWp Tryz.prog N (.region id ops dr) Q fr st)∨o=some l:=by
 unfold aGn at h
 split at h
 ·rename_i hc
  left
  intro Q hQ
  simp only[Bool.and_eq_true,decide_eq_true_eq,aNm,beq_iff_eq]at hc
  obtain⟨⟨⟨hdr,⟨⟨⟨⟨⟨⟨⟨⟨⟨⟨hsz,c0⟩,c1⟩,c2⟩,c3⟩,c4⟩,c5⟩,c6⟩,c7⟩,c8⟩,c9⟩⟩,hreg⟩,hN⟩:=hc
  subst hdr
  unfold aPs at h
  split at h
  ·rename_i q a b f9 f11 f15
   split at h
   ·rename_i es hM
    split at h
    ·rename_i c hcc
     split at h
     ·rename_i hw
      injection h with h
      subst h
      refine aHM (Q':=fun e f s=>e=.normal∧(∀ t,t<53∨60<t→f t=fr t)∧s=st.set q (.map true [.u32,.u32] (aV es [a,b] (i (c+1))))) (aMR hsz (aMA c0) (aMO c1) (aMy c2) (aMg c3) (aMs c4) (aLM c5) (aLw c6) (aMG c7) (aMf c8) hreg hN c9 f9 f11 f15 hM hcc hw (fun fr2 hfr2=>⟨rfl,hfr2,rfl⟩) hm) ?_
      rintro e f s ⟨rfl,hf,rfl⟩
      refine⟨aIs fr,hQ _ _ (List.mem_singleton.2 rfl),fun w g a hr t=>?_⟩
      unfold aIs
      split
      ·rename_i ht;rw[← hf t ht];exact hr t
      ·simp only[Rep]
     ·cases h
    ·cases h
   ·cases h
  ·cases h
 ·exact .inr h
section
variable {T:Tab} {fns:FuncId→Option Func} {pr:fO}
def dD(T:Tab)(fns:FuncId→Option Func)(pr:fO):Nat→Nat→Code→Frm→St→Option (List XR)
 |0,_,_,_,_=>none
 |n+1,N,c,fr,st=>match c with
  |.skip=>some [(.normal,fr,st)]
  |.label _=>some [(.normal,fr,st)]
  |.exit i=>some [(.exit i,fr,st)]
  |.ret=>some [(.ret,fr,st)]
  |.seq a b=>aFw (fun fr' st'=>dD T fns pr n N b fr' st') (dD T fns pr n N a fr st)
  |.block id c=>match dD T fns pr n N c fr st with
   |some l=>some (l.map (aNe id))
   |none=>none
  |.scope c=>match dD T fns pr n N c fr st with
   |some l=>if l.all noGoto then some l else none
   |none=>none
  |.cond x a b=>match aH fr x with
   |.atom (.bool true)=>dD T fns pr n N a fr st
   |.atom (.bool false)=>dD T fns pr n N b fr st
   |_=>none
  |.loop c=>aFw (fun fr' st'=>dD T fns pr n N (.loop c) fr' st') (dD T fns pr n N c fr st)
  |.region _ ops dr=>match aGn N ops dr fr st (aNK T (fun f args st=>match pr f args st with
    |some r=>some r
    |none=>match fns f with
     |some fn=>match fn.body with
      |some c=>if args.length≤fn.ntmps then aFR T fn.results.toList (dD T fns pr n fn.ntmps c (rE args) st)else none
      |none=>none
     |none=>none) N ops dr fr st) with
   |some l=>some (l.map fun p=>(.normal,p.1,p.2))
   |none=>none
  |_=>none
def lT(T:Tab)(fns:FuncId→Option Func)(pr:fO)(n:Nat):fO:=fun f args st=>match pr f args st with
 |some r=>some r
 |none=>match fns f with
  |some fn=>match fn.body with
   |some c=>if args.length≤fn.ntmps then aFR T fn.results.toList (dD T fns pr n fn.ntmps c (rE args) st)else none
   |none=>none
  |none=>none
theorem kM(hT:bC Tryz.prog T)(hf:zO Tryz.prog fns)(hp:jM Tryz.prog pr){n:Nat}(ih:∀ N c fr st L,dD T fns pr n N c fr st=some L→AWp Tryz.prog N c (gS L) fr st):jM Tryz.prog (lT T fns pr n):=by
 intro f args st rs h
 unfold lT at h
 split at h
 ·rename_i q hq
  injection h with h
  subst h
  exact hp _ _ _ _ hq
 split at h
 ·rename_i fn hfn
  obtain⟨h1,h2⟩:=hf f fn hfn
  split at h
  ·rename_i c hb
   split at h
   ·rename_i hlen
    cases hx:dD T fns pr n fn.ntmps c (rE args) st with
    |none=>rw[hx]at h;simp[aFR]at h
    |some L=>
     rw[hx]at h
     simp only[aFR]at h
     have all:=gW h
     refine qO hT h1 hb h2 rfl rfl hlen (cR (ih _ _ _ _ _ hx) ?_)
     intro e fr1 st1 hm
     obtain⟨y,g1,g2⟩:=all (e,fr1,st1) hm
     rw[oP]
     have key:(match aDq T fr1 st1 fn.results.toList with|some l=>some [(one l,st1)]|none=>none)=some y→tO T (fun r1 st3=>(r1,st3)∈rs) fr1 st1 fn.results.toList:=by
      intro hres
      cases hr:aDq T fr1 st1 fn.results.toList with
      |none=>simp[hr]at hres
      |some l=>
       simp only[hr,Option.some.injEq]at hres
       subst hres
       obtain⟨cc,k1,k2⟩:=vL _ _ hr
       unfold tO
       rw[k1]
       exact⟨k2,g2 _ sS⟩
     unfold aPh at g1
     cases e with
     |normal=>exact key g1
     |ret=>exact key g1
     |_=>cases g1
   ·cases h
  ·cases h
 ·cases h
theorem tA(hT:bC Tryz.prog T)(hf:zO Tryz.prog fns)(hp:jM Tryz.prog pr)(hm:Tryz.prog.follows .mixedOrders=true):∀(n N:Nat) (c:Code) (fr:Frm) (st:St) (L:List XR),dD T fns pr n N c fr st=some L→AWp Tryz.prog N c (gS L) fr st:=by
 intro n
 induction n using Nat.strongRecOn with
 |ind n ihs=>
  intro N c fr st L h
  cases n with
  |zero=>simp[dD]at h
  |succ n=>
  have ih:=ihs n (Nat.lt_succ_self n)
  cases c with
  |skip=>simp only[dD,Option.some.injEq]at h;subst h;exact qK (Q:=gS _) (k:=[]) (by simp[oP,gS])
  |label l=>simp only[dD,Option.some.injEq]at h;subst h;exact aAl (Q:=gS _) (k:=[]) (by simp[oP,gS])
  |exit i=>simp only[dD,Option.some.injEq]at h;subst h;exact qX (Q:=gS _) (k:=[]) (by simp[oP,gS])
  |ret=>simp only[dD,Option.some.injEq]at h;subst h;exact qR (Q:=gS _) (k:=[]) (by simp[oP,gS])
  |seq x y=>
   refine qS (Q:=gS L) (k:=[]) ?_
   simp only[dD]at h
   obtain⟨l,hx,all⟩:=wG h
   refine cR (ih _ _ _ _ _ hx) ?_
   intro e fr2 st2 hmm
   obtain⟨z,g1,g2⟩:=all _ hmm
   cases e with
   |normal=>
    rw[eD]
    exact cR (ih _ _ _ _ _ g1) (fun e f s hh=>g2 _ hh)
   |_=>injection g1 with g1;subst g1;exact g2 _ sS
  |block id x=>
   refine qB (Q:=gS L) (k:=[]) ?_
   simp only[dD]at h
   split at h
   ·rename_i l hx
    injection h with h
    subst h
    refine cR (ih _ _ _ _ _ hx) ?_
    intro e fr2 st2 hmm
    have hin:aNe id (e,fr2,st2)∈l.map (aNe id):=List.mem_map.2 ⟨_,hmm,rfl⟩
    cases e with
    |exit i=>
     rw[jE]
     simp only[aNe]at hin
     split
     ·rename_i hi;rw[if_pos hi]at hin;exact hin
     ·rename_i hi;rw[if_neg hi]at hin;exact hin
    |_=>exact hin
   ·cases h
  |scope x=>
   simp only[dD]at h
   split at h
   ·rename_i l hx
    split at h
    ·rename_i hall
     injection h with h
     subst h
     refine aHr (Q:=gS l) (k:=[]) (ih _ _ _ _ _ hx) ?_
     intro k fr2 st2 hmm
     have:=List.all_eq_true.1 hall _ hmm
     simp[noGoto]at this
    ·cases h
   ·cases h
  |cond x a b=>
   refine qC (Q:=gS L) (k:=[]) ?_
   simp only[dD]at h
   split at h
   ·rename_i hx
    rw[hx,fQ]
    exact⟨fun _=>ih _ _ _ _ _ h,(fun hb=>by cases hb)⟩
   ·rename_i hx
    rw[hx,fQ]
    exact⟨(fun hb=>by cases hb),fun _=>ih _ _ _ _ _ h⟩
   ·cases h
  |loop x=>
   refine qL (Q:=gS L) (k:=[]) (fun m fr st=>m≤n+1∧∃ L',dD T fns pr m N (.loop x) fr st=some L'∧∀ p∈L',p∈L) (n+1) ⟨Nat.le_refl _,L,h,fun p hp=>hp⟩ ?_
   rintro m fr1 st1 ⟨hle,L',hI,hsub⟩ J hJ
   cases m with
   |zero=>simp[dD]at hI
   |succ m=>
    have ihm:=ihs m oO
    simp only[dD]at hI
    obtain⟨l,hx,all⟩:=wG hI
    refine cR (ihm _ _ _ _ _ hx) ?_
    intro e fr2 st2 hmm
    obtain⟨z,g1,g2⟩:=all _ hmm
    cases e with
    |normal=>
     rw[uA]
     exact hJ m _ _ (Nat.lt_succ_self m) ⟨oO,z,g1,fun p hp=>hsub p (g2 p hp)⟩
    |_=>injection g1 with g1;subst g1;exact hsub _ (g2 _ sS)
  |region id ops dr=>
   simp only[dD]at h
   have hcall:jM Tryz.prog (lT T fns pr n):=kM hT hf hp (fun N c fr st L hx=>ih N c fr st L hx)
   split at h
   ·rename_i l hx
    injection h with h
    subst h
    have hx':aGn N ops dr fr st (aNK T (lT T fns pr n) N ops dr fr st)=some l:=hx
    have fin:∀ f s,(f,s)∈l→gS (l.map fun p=>(Exit.normal,p.1,p.2)) .normal f s:=fun f s hh=>List.mem_map.2 ⟨(f,s),hh,rfl⟩
    rcases aKG hm hx' with hx'|hx'
    ·exact hx' _ fin
    unfold aNK at hx'
    split at hx'
    ·rename_i hk
     cases dr with
     |false=>
      simp only at hx'
      refine eN hT (List.range N) hk fun J hJ=>?_
      exact aEe (fun f s hh=>hJ _ _ (fin f s hh)) _ _ _ (wQ (N:=N) (R:=l) hcall _ _ _ l hk hx' (fun p hp=>hp))
     |true=>
      simp only at hx'
      unfold aQn at hx'
      split at hx'
      ·rename_i L1 hxa
       split at hx'
       ·rename_i hall
        injection hx' with hx'
        subst hx'
        intro a w g hi hr hs hd
        refine wp_region_any hm ?_
        have hA:=wT (N:=N) (B:=L1.flatMap fun q=>q.2.2.1) (st0:=st) (R:=L1.map fun p=>(p.1,p.2.1)) hcall hk _ _ fr st L1 hxa (fun p hp=>⟨List.mem_map.2 ⟨p,hp,rfl⟩,fun l' hl'=>List.mem_flatMap.2 ⟨p,hp,hl'⟩,fun s hs'=>by
         rw[List.all_eq_true]at hall
         have:=hall p hp
         rw[List.all_eq_true]at this
         exact aHh (this s hs')⟩)
        have hdr:Ext w g { w with drawn:=w.drawn+1 } g:=cT w g
        exact kX hT hk (fun f s hh=>fin f s hh) _ _ fr st a { w with drawn:=w.drawn+1 } g hi.drew (hr.mono hdr) hs hd hdr hA
       ·cases hx'
      ·cases hx'
    ·cases hx'
   ·cases h
  |_=>simp[dD]at h
theorem hU{T:Tab}{fns:FuncId→Option Func}{pr:fO}(hT:bC Tryz.prog T)(hf:zO Tryz.prog fns)(hp:jM Tryz.prog pr)(hm:Tryz.prog.follows .mixedOrders=true)(n:Nat){f:FuncId}(b:Bool){st:St}
 (h:aIr (lT T fns pr n f [] ⟨1,fun _=>.dead⟩) b=true):aB Tryz.prog f [] st fun r st'=>r=.atom (.bool b)∧st'=st:=by
 cases hx:lT T fns pr n f [] ⟨1,fun _=>.dead⟩ with
 |none=>rw[hx]at h;simp[aIr]at h
 |some l=>
  rw[hx]at h
  simp only[aIr]at h
  rw[List.all_eq_true]at h
  have:=kM hT hf hp (fun N c fr st L hx=>tA hT hf hp hm n N c fr st L hx) f [] _ l hx
  refine(aBA (R:=fun v=>v=.bool b) (this.mono ?_)).mono ?_
  ·intro r1 st1 hmm
   have hb:=h _ hmm
   unfold isB at hb
   split at hb
   ·rename_i c hc
    simp only at hc
    simp at hb
    exact⟨_,hc,by rw[hb]⟩
   ·cases hb
  ·rintro r1 st1 ⟨⟨v,rfl,rfl⟩,rfl⟩;exact⟨rfl,rfl⟩
end
theorem aMV(st:St):aB Tryz.prog 67 [] st fun r st'=>r=bb true∧st'=st:=
 hU aF aFS uX mixed 1000000 true (by kernel_rfl)
theorem aLW(st:St):aB Tryz.prog 68 [] st fun r st'=>r=bb true∧st'=st:=
 hU aF aFS uX mixed 1000000 true (by kernel_rfl)
end Go.Proofs.YtempldclppogmaaGreatDoor.Aw
namespace Go.Proofs.YtempldclppogmaaGreatDoor.Aw
open Go Go.RowKit Go.Proofs.YtempldclppogmaaGreatDoor.Pl
@[simp] theorem aQD(st:St)(a b:cA):(st.new a).set st.next b=st.new b:=St.ext' rfl fun y=>by by_cases hy:y=st.next<;>simp[hy]
theorem aJ(l:List Ed):(eds l).length=l.length*3:=by
 induction l with
 |nil=>rfl
 |cons e l ih=>simp only[eds,List.flatMap_cons,List.length_append,List.length_cons,List.length_nil]at ih ⊢;omega
abbrev ed0:Ed:=⟨0,0,0⟩
theorem aW(l:List Ed)(k:Nat)(hk:k<l.length):(eds l).drop (k*3)=u (l.getD k ed0).id::u (l.getD k ed0).a::u (l.getD k ed0).b::eds (l.drop (k+1)):=by
 induction l generalizing k with
 |nil=>simp at hk
 |cons e l ih=>
  cases k with
  |zero=>rfl
  |succ k=>
   have:(k+1)*3=k*3+1+1+1:=oO
   rw[this]
   simp only[eds,List.flatMap_cons,edL,List.cons_append,List.drop_succ_cons,List.nil_append,List.getD_cons_succ]
   exact ih k (by simpa using hk)
def bT(f:Nat→Int):Nat→Int
 |0=>0
 |n+1=>if bT f n≠0 then bT f n else f n
theorem fG{f:Nat→Int}{n:Nat}(h:∀ j,j<n→f j=0):bT f n=0:=by
 induction n with
 |zero=>rfl
 |succ n ih=>simp[bT,ih (fun j hj=>h j oO),h n oO]
theorem eJ{f:Nat→Int}{n k:Nat}{v:Int}(hk:k<n)(h:∀ j,j<k→f j=0)(hv:f k=v)(h0:v≠0):bT f n=v:=by
 induction n with
 |zero=>omega
 |succ n ih=>
  rcases Nat.lt_or_ge k n with h1|h1
  ·have:=ih h1
   simp[bT,this,h0]
  ·have:k=n:=oO
   subst this
   simp[bT,fG h,hv]
def eB(n ahead:Int)(first:Bool):Int:=if n<1∨1048576<n then 2 else if first=false∧n≤ahead then 19 else 0
def iW(g:Gr)(k:Nat):Int:=eB (g.vs.getD k 0) (g.vs.getD (k-1) 0) (decide (k=0))
def jS(g:Gr)(k:Nat):Int:=
 let x:=g.es.getD k ed0
 let n:=eB x.id (g.es.getD (k-1) ed0).id (decide (k=0))
 if n≠0 then n else if x.a=x.b then 20 else if x.a∉g.vs∨x.b∉g.vs then 21 else 0
def chk(g:Gr):Int:=if 64<g.vs.length∨160<g.es.length then 6 else if bT (iW g) g.vs.length≠0 then bT (iW g) g.vs.length else bT (jS g) g.es.length
theorem Has(g:Gr)(v:Int)(st:St)(hl:small g.vs):
 aB Tryz.prog 29 [.ag (grL g),u v] st fun r st'=>r=bb (decide (v∈g.vs))∧aA st st':=by
 obtain⟨l,es⟩:=g
 simp only at hl ⊢
 unfold small at hl
 refine qO aF Tryz.func29 rfl rfl Tryz.ntmps29 (rs:=[.tmp 4]) rfl sS ?_
 (repeat' (first|refine qS ?_|refine qB ?_|(refine w_e [] ?_;intro J hJ;simp only[];simp[];refine hJ _ _ (zZ ?_))))
 refine qL (fun n fr st'=>∃ k:Nat,k≤l.length∧n=l.length-k∧fr 8=.sl 0 l.length (us l)∧fr 1=u v∧fr 9=i l.length∧fr 10=i k∧aA st st'∧∀ j (hj:j<l.length),j<k→l[j]≠v) l.length ?_ ?_
 ·exact⟨0,oO,oO,sS,sS,sS,sS,aA.new _ _,fun j _ h=>by omega⟩
 rintro n fr st' ⟨k,hk,rfl,h8,h1,h9,h10,hkp,hno⟩ JJ hJJ
 by_cases hlt:k<l.length
 ·have hd:=cO l k hlt
  have hw:=qN k oO
  (repeat' (first|refine qS ?_|refine qB ?_|(refine qK (zZ ?_))|(refine qR (zZ ?_);simp[h8,h1,h9,h10,hlt,hd,hw])|(refine qC ?_;simp[h8,h1,h9,h10,hlt,hd,hw];(try with_reducible refine⟨?_,?_⟩)<;>(try with_reducible intro hc))|(refine w_e [] ?_;intro J hJ;simp only[];simp[h8,h1,h9,h10,hlt,hd,hw];refine hJ _ _ (zZ ?_))))
  ·exact⟨by rw[← hc];exact List.getElem_mem hlt,hkp⟩
  ·refine hJJ _ _ _ ?_ ⟨k+1,oO,rfl,by simp[h8],by simp[h1],by simp[h9],sS,hkp,fun j hj hjk=>?_⟩
   ·omega
   ·rcases Nat.lt_or_ge j k with h|h
    ·exact hno j hj h
    ·obtain rfl:j=k:=oO
     exact hc
 ·(repeat' (first|refine qS ?_|(refine qX (zZ ?_))|(refine qR (zZ ?_);simp[h8,h1,h9,h10,hlt])|(refine qC ?_;simp[h8,h1,h9,h10,hlt])|(refine w_e [] ?_;intro J hJ;simp only[];simp[h8,h1,h9,h10,hlt];refine hJ _ _ (zZ ?_))))
  refine⟨fun hm=>?_,hkp⟩
  obtain⟨j,hj,rfl⟩:=List.getElem_of_mem hm
  exact hno j hj oO rfl
theorem aLJ(g:Gr)(v:Int)(st:St)(hl:small g.vs):
 aB Tryz.prog 55 [.ag (grL g),u v] st fun r st'=>r=i (gi g.vs v)∧aA st st':=by
 obtain⟨l,es⟩:=g
 simp only at hl ⊢
 refine qO aF Tryz.func55 rfl rfl Tryz.ntmps55 (rs:=[.tmp 4]) rfl sS ?_
 (repeat' (first|refine qS ?_|(refine w_e [] ?_;intro J hJ;simp only[];simp[];(try refine hJ _ _ (zZ ?_)))))
 refine qE (Index l 0 v _ hl) (by simp[]) ?_;rintro r st' ⟨rfl,rfl⟩
 (repeat' (first|(refine qR (zZ ?_);simp[])|(refine aE ?_;simp[];refine hJ _ _ (zZ ?_))))
 exact aA.new _ _
theorem number(n ahead:Int)(first:Bool)(st:St):
 aB Tryz.prog 59 [u n,u ahead,bb first] st fun r st'=>r=i (eB n ahead first)∧st'=st:=by
 unfold eB
 refine qO aF Tryz.func59 rfl rfl Tryz.ntmps59 (rs:=[.tmp 6]) rfl sS ?_
 by_cases h1:n<1
 ·(repeat' (first|refine qS ?_|refine qB ?_|(refine qR (zZ ?_);simp[h1])|(refine qC ?_;simp[h1])|(refine w_e [] ?_;intro J hJ;simp only[];simp[h1];refine hJ _ _ (zZ ?_))))
 by_cases h2:1048576<n
 ·(repeat' (first|refine qS ?_|refine qB ?_|(refine qR (zZ ?_);simp[h1,h2])|(refine qC ?_;simp[h1,h2])|(refine w_e [] ?_;intro J hJ;simp only[];simp[h1,h2];refine hJ _ _ (zZ ?_))))
 cases first
 ·by_cases h3:n≤ahead
  ·(repeat' (first|refine qS ?_|refine qB ?_|(refine qR (zZ ?_);simp[h1,h2,h3])|(refine qC ?_;simp[h1,h2,h3])|(refine w_e [] ?_;intro J hJ;simp only[];simp[h1,h2,h3];refine hJ _ _ (zZ ?_))))
  ·(repeat' (first|refine qS ?_|refine qB ?_|(refine qK (zZ ?_))|(refine qR (zZ ?_);simp[h1,h2,h3])|(refine qC ?_;simp[h1,h2,h3])|(refine w_e [] ?_;intro J hJ;simp only[];simp[h1,h2,h3];refine hJ _ _ (zZ ?_))))
 ·(repeat' (first|refine qS ?_|refine qB ?_|(refine qK (zZ ?_))|(refine qR (zZ ?_);simp[h1,h2])|(refine qC ?_;simp[h1,h2])|(refine w_e [] ?_;intro J hJ;simp only[];simp[h1,h2];refine hJ _ _ (zZ ?_))))
end Go.Proofs.YtempldclppogmaaGreatDoor.Aw
