/- Graphs: Check, by the program and by the document; the law GraphChecks. -/
import Derived.Test.YtempldclppogmaaGreatDoorJc
set_option linter.unusedVariables false
set_option linter.unusedSimpArgs false
namespace Go.Proofs.YtempldclppogmaaGreatDoor.Aw
open Go Go.RowKit Go.Proofs.YtempldclppogmaaGreatDoor.Pl
theorem Check(g:Gr)(st:St)(hv:g.vs.length≤1000)(he:g.es.length≤1000):
 aB Tryz.prog 30 [.ag (grL g)] st fun r st'=>r=i (chk g)∧aA st st':=by
 have hsm:small g.vs:=by unfold small;omega
 refine qO aF Tryz.func30 rfl rfl Tryz.ntmps30 (rs:=[.tmp 2]) rfl sS ?_
 by_cases h1:(64:Int)<(g.vs.length:Int)
 ·have:chk g=6:=by unfold chk;rw[if_pos oO]
  (repeat' (first|refine qS ?_|(refine qR (zZ ?_);simp[h1,this])|(refine qC ?_;simp[h1,this])|(refine w_e [] ?_;intro J hJ;simp only[];simp[h1,this];refine hJ _ _ (zZ ?_))))
  exact aA.new _ _
 by_cases h2:(160:Int)<(g.es.length:Int)
 ·have:chk g=6:=by unfold chk;rw[if_pos oO]
  (repeat' (first|refine qS ?_|(refine qR (zZ ?_);simp[h1,h2,this])|(refine qC ?_;simp[h1,h2,this])|(refine w_e [] ?_;intro J hJ;simp only[];simp[h1,h2,this];refine hJ _ _ (zZ ?_))))
  exact aA.new _ _
 have hch:chk g=if bT (iW g) g.vs.length≠0 then bT (iW g) g.vs.length else bT (jS g) g.es.length:=by unfold chk;rw[if_neg oO]
 (repeat' (first|refine qS ?_|refine qB ?_|(refine qK (zZ ?_))|(refine qC ?_;simp[h1,h2])|(refine w_e [] ?_;intro J hJ;simp only[];simp[h1,h2];refine hJ _ _ (zZ ?_))))
 refine qL (fun n fr st'=>∃ k:Nat,k≤g.vs.length∧n=g.vs.length-k∧fr 1=.pt st.next 0∧fr 21=.sl 0 g.vs.length (us g.vs)∧fr 22=i g.vs.length∧fr 23=i k∧fr 3=u (if k=0 then 0 else g.vs.getD (k-1) 0)∧st'=st.new (.box 25 2 (grL g))∧∀ j,j<k→iW g j=0) g.vs.length ?_ ?_
 ·exact⟨0,oO,oO,sS,sS,sS,sS,sS,rfl,fun j h=>by omega⟩
 rintro n fr st' ⟨k,hk,rfl,f1,f21,f22,f23,f3,rfl,hno⟩ JJ hJJ
 by_cases hlt:k<g.vs.length
 ·have hd:=qG g.vs k hlt
  have hw:=qN k oO
  have hbad:iW g k=eB (g.vs.getD k 0) (if k=0 then 0 else g.vs.getD (k-1) 0) (decide (k=0)):=by
   unfold iW
   by_cases h0:k=0
   ·subst h0;simp[eB]
   ·simp[h0]
  generalize hy:(if k=0 then(0:Int)else g.vs.getD (k-1) 0)=y at *
  generalize hx:g.vs.getD k 0=x at *
  have hk0:((k:Int)==0)=decide (k=0):=by by_cases h0:k=0<;>simp[h0]
  (repeat' (first|refine qS ?_|refine qB ?_|(refine qK (zZ ?_))|(refine qC ?_;simp[f1,f21,f22,f23,f3,hlt,hd,hw,hk0])|(refine w_e [] ?_;intro J hJ;simp only[];simp[f1,f21,f22,f23,f3,hlt,hd,hw,hk0];(try refine hJ _ _ (zZ ?_)))))
  refine qE (number x y (decide (k=0)) _) (by simp[]) ?_;rintro r st' ⟨rfl,rfl⟩
  rw[← hbad]
  by_cases hb:iW g k=0
  ·(repeat' (first|refine qS ?_|(refine qK (zZ ?_))|(refine qC ?_;simp[f23,hw,hb])|((first|(refine w_e [] ?_;intro J hJ;simp only[])|(refine aE ?_));simp[f23,hw,hb];refine hJ _ _ (zZ ?_))))
   refine hJJ _ _ _ ?_ ⟨k+1,oO,rfl,by simp[f1],by simp[f21],by simp[f22],sS,by rw[if_neg oO,Nat.add_sub_cancel,hx];simp,rfl,fun j hj=>?_⟩
   ·omega
   ·rcases Nat.lt_or_ge j k with h|h
    ·exact hno j h
    ·obtain rfl:j=k:=oO
     exact hb
  ·have hf:=eJ hlt hno rfl hb
   have hr:chk g=iW g k:=by rw[hch,hf,if_pos hb]
   (repeat' (first|refine qS ?_|(refine qR (zZ ?_);simp[hb])|(refine qC ?_;simp[hb])|((first|(refine w_e [] ?_;intro J hJ;simp only[])|(refine aE ?_));simp[hb];refine hJ _ _ (zZ ?_))))
   exact⟨hr.symm,aA.new _ _⟩
 have hk':k=g.vs.length:=oO
 have hz:bT (iW g) g.vs.length=0:=fG (fun j hj=>hno j oO)
 rw[hz]at hch
 simp only[ne_eq,not_true_eq_false,if_false]at hch
 clear hJJ hno hz
 have hel:=aJ g.es
 generalize hy:(if k=0 then(0:Int)else g.vs.getD (k-1) 0)=y at *
 (repeat' (first|refine qS ?_|refine qB ?_|(refine qX (zZ ?_))|(refine qC ?_;simp[f1,f21,f22,f23,f3,hlt])|(refine w_e [] ?_;intro J hJ;simp only[];simp[f1,f21,f22,f23,f3,hlt];refine hJ _ _ (zZ ?_))))
 refine qL (fun n fr st'=>∃ k:Nat,k≤g.es.length∧n=g.es.length-k∧fr 1=.pt st.next 0∧fr 39=.sl 0 g.es.length (eds g.es)∧fr 40=i g.es.length∧fr 41=i k∧(∃ z,fr 3=u z∧(k≠0→z=(g.es.getD (k-1) ed0).id))∧aA (st.new (.box 25 2 (grL g))) st'∧∀ j,j<k→jS g j=0) g.es.length ?_ ?_
 ·exact⟨0,oO,oO,by simp[f1],sS,sS,sS,⟨y,by simp[f3],sS⟩,aA.refl _,fun j h=>by omega⟩
 clear f1 f21 f22 f23 f3 hlt hk' hk hy y fr k
 rintro n fr st1 ⟨k,hk,rfl,f1,f39,f40,f41,⟨z,f3,hz⟩,hkp,hno⟩ JJ hJJ
 have hgH:st1.H st.next=.box 25 2 (grL g):=by rw[hkp.H _ sS];simp
 have hnx:¬st.next=st1.next:=by have:=hkp.next;simp only[aC]at this;omega
 have hkp0:=(aA.new st (.box 25 2 (grL g))).trans hkp
 by_cases hlt:k<g.es.length
 ·have hd:=aW g.es k hlt
  have hw:=qN k oO
  have hk3:k*3<g.es.length*3:=oO
  have hk30:k*3+3≤g.es.length*3:=oO
  have hbad:jS g k=(let x:=g.es.getD k ed0;let n:=eB x.id z (decide (k=0));if n≠0 then n else if x.a=x.b then 20 else if x.a∉g.vs∨x.b∉g.vs then 21 else 0):=by
   unfold jS
   by_cases h0:k=0
   ·subst h0;simp[eB]
   ·rw[hz h0]
  generalize hx:g.es.getD k ed0=x at *
  obtain⟨xi,xa,xb⟩:=x
  simp only at hd hbad
  have hk0:((k:Int)==0)=decide (k=0):=by by_cases h0:k=0<;>simp[h0]
  (repeat' (first|refine qS ?_|refine qB ?_|(refine qK (zZ ?_))|(refine qC ?_;simp[f1,f39,f40,f41,f3,hlt,hd,hw,hk0,hel,hk3,hgH,hnx])|(refine w_e [] ?_;intro J hJ;simp only[];simp[f1,f39,f40,f41,f3,hlt,hd,hw,hk0,hel,hk3,hgH,hnx];(try refine hJ _ _ (zZ ?_)))))
  refine qE (number xi z (decide (k=0)) _) (by simp[]) ?_;rintro r st' ⟨rfl,rfl⟩
  by_cases hb:eB xi z (decide (k=0))=0
  rotate_left
  ·have hb':jS g k=eB xi z (decide (k=0)):=by rw[hbad,if_pos hb]
   have hr:chk g=eB xi z (decide (k=0)):=by rw[hch];exact eJ hlt hno hb' hb
   (repeat' (first|refine qS ?_|(refine qR (zZ ?_);simp[hb])|(refine qC ?_;simp[hb])|((first|(refine w_e [] ?_;intro J hJ;simp only[])|(refine aE ?_));simp[hb];refine hJ _ _ (zZ ?_))))
   exact⟨hr.symm,hkp0.trans (aA.new _ _)⟩
  rw[if_neg (by simp[hb])]at hbad
  by_cases hab:xa=xb
  ·have hb':jS g k=20:=by rw[hbad,if_pos hab]
   have hr:chk g=20:=by rw[hch];exact eJ hlt hno hb' (by decide)
   (repeat' (first|refine qS ?_|(refine qK (zZ ?_))|(refine qR (zZ ?_);simp[hb,hab,hr])|(refine qC ?_;simp[hb,hab,hr])|((first|(refine w_e [] ?_;intro J hJ;simp only[])|(refine aE ?_));simp[hb,hab,hr];refine hJ _ _ (zZ ?_))))
   exact hkp0.trans (aA.new _ _)
  rw[if_neg hab]at hbad
  (repeat' (first|refine qS ?_|(refine qK (zZ ?_))|(refine qC ?_;simp[hb,hab,f1,hnx,hgH])|((first|(refine w_e [] ?_;intro J hJ;simp only[])|(refine aE ?_));simp[hb,hab,f1,hnx,hgH];(try refine hJ _ _ (zZ ?_)))))
  refine qE (aLJ g xa _ hsm) (by simp[]) ?_;rintro r st' ⟨rfl,hk1⟩
  have hB1:st'.H st1.next=.box 56 3 [u xi,u xa,u xb]:=by rw[hk1.H _ sS];simp
  have hgH1:st'.H st.next=.box 25 2 (grL g):=by
   rw[hk1.H _ (by have:=hkp.next;simp only[aC]at this ⊢;omega),bI,if_neg hnx];exact hgH
  have hkp1:=(hkp.trans (aA.new _ _)).trans hk1
  have hkp01:=(hkp0.trans (aA.new _ _)).trans hk1
  by_cases hma:xa∈g.vs
  rotate_left
  ·rw[yI hma]
   have hb':jS g k=21:=by rw[hbad,if_pos (.inl hma)]
   have hr:chk g=21:=by rw[hch];exact eJ hlt hno hb' (by decide)
   (repeat' (first|refine qS ?_|(refine qR (zZ ?_);simp[f1,hB1,hgH1,hr])|(refine qC ?_;simp[f1,hB1,hgH1,hr])|((first|(refine w_e [] ?_;intro J hJ;simp only[])|(refine aE ?_));simp[f1,hB1,hgH1,hr];refine hJ _ _ (zZ ?_))))
   exact hkp01
  rw[oU hma]
  have hn0:¬((g.vs.idxOf xa:Nat):Int)<0:=oO
  (refine aE ?_;simp[f1,hB1,hgH1,hn0])
  refine qE (aLJ g xb _ hsm) (by simp[]) ?_;rintro r st' ⟨rfl,hk2⟩
  by_cases hmb:xb∈g.vs
  rotate_left
  ·rw[yI hmb]
   have hb':jS g k=21:=by rw[hbad,if_pos (.inr hmb)]
   have hr:chk g=21:=by rw[hch];exact eJ hlt hno hb' (by decide)
   (repeat' (first|refine qS ?_|(refine qR (zZ ?_);simp[hr])|(refine qC ?_;simp[hr])|((first|(refine w_e [] ?_;intro J hJ;simp only[])|(refine aE ?_));simp[hr];refine hJ _ _ (zZ ?_))))
   exact hkp01.trans hk2
  rw[oU hmb]
  have hn1:¬((g.vs.idxOf xb:Nat):Int)<0:=oO
  have hb':jS g k=0:=by rw[hbad,if_neg (by simp[hma,hmb])]
  (repeat' (first|(refine qK (zZ ?_))|(refine qC ?_;simp[f41,hw,hn1])|((first|(refine w_e [] ?_;intro J hJ;simp only[])|(refine aE ?_));simp[f41,hw,hn1];refine hJ _ _ (zZ ?_))))
  refine hJJ _ _ _ ?_ ⟨k+1,oO,rfl,by simp[f1],by simp[f39],by simp[f40],sS,⟨xi,sS,fun _=>by rw[Nat.add_sub_cancel,hx]⟩,hkp1.trans hk2,fun j hj=>?_⟩
  ·omega
  ·rcases Nat.lt_or_ge j k with h|h
   ·exact hno j h
   ·obtain rfl:j=k:=oO
    exact hb'
 ·have hr:chk g=0:=by rw[hch];exact fG (fun j hj=>hno j oO)
  clear hJJ
  (repeat' (first|refine qS ?_|(refine qX (zZ ?_))|(refine qR (zZ ?_);simp[f1,f39,f40,f41,f3,hlt,hr])|(refine qC ?_;simp[f1,f39,f40,f41,f3,hlt,hr])|(refine w_e [] ?_;intro J hJ;simp only[];simp[f1,f39,f40,f41,f3,hlt,hr];refine hJ _ _ (zZ ?_))))
  exact hkp0
theorem aHI(g:Gr)(st:St)(hv:g.vs.length≤1000)(he:g.es.length≤1000):
 aB Tryz.prog 8 [.ag (grL g)] st fun r st'=>r=i (chk g)∧aA st st':=by
 have hsm:small g.vs:=by unfold small;omega
 refine qO aF Tryz.func8 rfl rfl Tryz.ntmps8 (rs:=[.tmp 2]) rfl sS ?_
 by_cases h1:(64:Int)<(g.vs.length:Int)
 ·have:chk g=6:=by unfold chk;rw[if_pos oO]
  (repeat' (first|refine qS ?_|(refine qR (zZ ?_);simp[h1,this])|(refine qC ?_;simp[h1,this])|(refine w_e [] ?_;intro J hJ;simp only[];simp[h1,this];refine hJ _ _ (zZ ?_))))
  exact aA.new _ _
 by_cases h2:(160:Int)<(g.es.length:Int)
 ·have:chk g=6:=by unfold chk;rw[if_pos oO]
  (repeat' (first|refine qS ?_|(refine qR (zZ ?_);simp[h1,h2,this])|(refine qC ?_;simp[h1,h2,this])|(refine w_e [] ?_;intro J hJ;simp only[];simp[h1,h2,this];refine hJ _ _ (zZ ?_))))
  exact aA.new _ _
 have hch:chk g=if bT (iW g) g.vs.length≠0 then bT (iW g) g.vs.length else bT (jS g) g.es.length:=by unfold chk;rw[if_neg oO]
 (repeat' (first|refine qS ?_|refine qB ?_|(refine qK (zZ ?_))|(refine qC ?_;simp[h1,h2])|(refine w_e [] ?_;intro J hJ;simp only[];simp[h1,h2];refine hJ _ _ (zZ ?_))))
 refine qL (fun n fr st'=>∃ k:Nat,k≤g.vs.length∧n=g.vs.length-k∧fr 1=.pt st.next 0∧fr 18=.sl 0 g.vs.length (us g.vs)∧fr 19=i g.vs.length∧fr 20=i k∧st'=st.new (.box 25 2 (grL g))∧∀ j,j<k→iW g j=0) g.vs.length ?_ ?_
 ·exact⟨0,oO,oO,sS,sS,sS,sS,rfl,fun j h=>by omega⟩
 rintro n fr st' ⟨k,hk,rfl,f1,f18,f19,f20,rfl,hno⟩ JJ hJJ
 by_cases hlt:k<g.vs.length
 ·have hd:=qG g.vs k hlt
  have hw:=qN k oO
  have hbad:iW g k=eB (g.vs.getD k 0) (g.vs.getD (k-1) 0) (decide (k=0)):=rfl
  have hnext:iW g k=0→∀ j,j<k+1→iW g j=0:=fun hb j hj=>by
   rcases Nat.lt_or_ge j k with h|h
   ·exact hno j h
   ·obtain rfl:j=k:=oO
    exact hb
  have hret:∀ v,iW g k=v→v≠0→chk g=v:=fun v h0 h1=>by
   have hf:=eJ hlt hno h0 h1
   rw[hch,hf,if_pos h1]
  generalize hx:g.vs.getD k 0=x at *
  by_cases hx1:x<1
  ·have hr:=hret 2 (by rw[hbad];unfold eB;rw[if_pos (.inl hx1)]) (by decide)
   (repeat' (first|refine qS ?_|refine qB ?_|(refine qK (zZ ?_))|(refine qR (zZ ?_);simp[f1,f18,f19,f20,hlt,hd,hw,hx1,hr])|(refine qC ?_;simp[f1,f18,f19,f20,hlt,hd,hw,hx1,hr])|(refine w_e [] ?_;intro J hJ;simp only[];simp[f1,f18,f19,f20,hlt,hd,hw,hx1,hr];refine hJ _ _ (zZ ?_))))
   exact aA.new _ _
  by_cases hx2:1048576<x
  ·have hr:=hret 2 (by rw[hbad];unfold eB;rw[if_pos (.inr hx2)]) (by decide)
   (repeat' (first|refine qS ?_|refine qB ?_|(refine qK (zZ ?_))|(refine qR (zZ ?_);simp[f1,f18,f19,f20,hlt,hd,hw,hx1,hx2,hr])|(refine qC ?_;simp[f1,f18,f19,f20,hlt,hd,hw,hx1,hx2,hr])|(refine w_e [] ?_;intro J hJ;simp only[];simp[f1,f18,f19,f20,hlt,hd,hw,hx1,hx2,hr];refine hJ _ _ (zZ ?_))))
   exact aA.new _ _
  by_cases h0:k=0
  ·have hb:iW g k=0:=by rw[hbad];unfold eB;rw[if_neg (by simp[hx1,hx2])];simp[h0]
   have hk0:¬0<k:=oO
   (repeat' (first|refine qS ?_|refine qB ?_|(refine qK (zZ ?_))|(refine qC ?_;simp[f1,f18,f19,f20,hlt,hd,hw,hx1,hx2,hk0])|(refine w_e [] ?_;intro J hJ;simp only[];simp[f1,f18,f19,f20,hlt,hd,hw,hx1,hx2,hk0];refine hJ _ _ (zZ ?_))))
   refine hJJ _ _ _ ?_ ⟨k+1,oO,rfl,by simp[f1],by simp[f18],by simp[f19],sS,rfl,hnext hb⟩
   omega
  ·have hk0:0<k:=oO
   have hw1:IntKind.i64.wrap ((k:Int)-1)=((k-1:Nat):Int):=by rw[wrap_i64 _ oO oO];omega
   have hd1:=qG g.vs (k-1) oO
   have hlt1:k-1<g.vs.length:=oO
   generalize hy:g.vs.getD (k-1) 0=y at *
   by_cases hle:x≤y
   ·have hr:=hret 19 (by rw[hbad];unfold eB;rw[if_neg (by simp[hx1,hx2]),if_pos ⟨by simp[h0],hle⟩]) (by decide)
    (repeat' (first|refine qS ?_|refine qB ?_|(refine qK (zZ ?_))|(refine qR (zZ ?_);simp[f1,f18,f19,f20,hlt,hd,hw,hx1,hx2,hk0,hw1,hd1,hlt1,hle,hr])|(refine qC ?_;simp[f1,f18,f19,f20,hlt,hd,hw,hx1,hx2,hk0,hw1,hd1,hlt1,hle,hr])|(refine w_e [] ?_;intro J hJ;simp only[];simp[f1,f18,f19,f20,hlt,hd,hw,hx1,hx2,hk0,hw1,hd1,hlt1,hle,hr];refine hJ _ _ (zZ ?_))))
    exact aA.new _ _
   ·have hb:iW g k=0:=by rw[hbad];unfold eB;rw[if_neg (by simp[hx1,hx2]),if_neg (by simp[hle])]
    (repeat' (first|refine qS ?_|refine qB ?_|(refine qK (zZ ?_))|(refine qC ?_;simp[f1,f18,f19,f20,hlt,hd,hw,hx1,hx2,hk0,hw1,hd1,hlt1,hle])|(refine w_e [] ?_;intro J hJ;simp only[];simp[f1,f18,f19,f20,hlt,hd,hw,hx1,hx2,hk0,hw1,hd1,hlt1,hle];refine hJ _ _ (zZ ?_))))
    refine hJJ _ _ _ ?_ ⟨k+1,oO,rfl,by simp[f1],by simp[f18],by simp[f19],sS,rfl,hnext hb⟩
    omega
 have hk':k=g.vs.length:=oO
 have hz:bT (iW g) g.vs.length=0:=fG (fun j hj=>hno j oO)
 rw[hz]at hch
 simp only[ne_eq,not_true_eq_false,if_false]at hch
 clear hJJ hno hz
 have hel:=aJ g.es
 (repeat' (first|refine qS ?_|refine qB ?_|(refine qX (zZ ?_))|(refine qC ?_;simp[f1,f18,f19,f20,hlt])|(refine w_e [] ?_;intro J hJ;simp only[];simp[f1,f18,f19,f20,hlt];refine hJ _ _ (zZ ?_))))
 refine qL (fun n fr st'=>∃ k:Nat,k≤g.es.length∧n=g.es.length-k∧fr 1=.pt st.next 0∧fr 45=.sl 0 g.es.length (eds g.es)∧fr 46=i g.es.length∧fr 47=i k∧aA (st.new (.box 25 2 (grL g))) st'∧∀ j,j<k→jS g j=0) g.es.length ?_ ?_
 ·exact⟨0,oO,oO,by simp[f1],sS,sS,sS,aA.refl _,fun j h=>by omega⟩
 clear f1 f18 f19 f20 hlt hk' hk fr k
 rintro n fr st1 ⟨k,hk,rfl,f1,f45,f46,f47,hkp,hno⟩ JJ hJJ
 have hgH:st1.H st.next=.box 25 2 (grL g):=by rw[hkp.H _ sS];simp
 have hnx:¬st.next=st1.next:=by have:=hkp.next;simp only[aC]at this;omega
 have hkp0:=(aA.new st (.box 25 2 (grL g))).trans hkp
 by_cases hlt:k<g.es.length
 ·have hd:=aW g.es k hlt
  have hw:=qN k oO
  have hk3:k*3<g.es.length*3:=oO
  have hbad:jS g k=(let x:=g.es.getD k ed0;let n:=eB x.id (g.es.getD (k-1) ed0).id (decide (k=0));if n≠0 then n else if x.a=x.b then 20 else if x.a∉g.vs∨x.b∉g.vs then 21 else 0):=rfl
  have hnext:jS g k=0→∀ j,j<k+1→jS g j=0:=fun hb j hj=>by
   rcases Nat.lt_or_ge j k with h|h
   ·exact hno j h
   ·obtain rfl:j=k:=oO
    exact hb
  have hret:∀ v,jS g k=v→v≠0→chk g=v:=fun v h0 h1=>by
   rw[hch];exact eJ hlt hno h0 h1
  generalize hx:g.es.getD k ed0=x at *
  obtain⟨xi,xa,xb⟩:=x
  simp only at hd hbad
  have hkn:=hkp0.trans (aA.new _ (.box 56 3 [u xi,u xa,u xb]))
  by_cases hx1:xi<1
  ·have hn:eB xi (g.es.getD (k-1) ed0).id (decide (k=0))=2:=by unfold eB;rw[if_pos (.inl hx1)]
   have hr:=hret 2 (by rw[hbad,hn];rfl) (by decide)
   (repeat' (first|refine qS ?_|refine qB ?_|(refine qK (zZ ?_))|(refine qR (zZ ?_);simp[f1,f45,f46,f47,hlt,hd,hw,hel,hk3,hgH,hnx,hx1,hr])|(refine qC ?_;simp[f1,f45,f46,f47,hlt,hd,hw,hel,hk3,hgH,hnx,hx1,hr])|(refine w_e [] ?_;intro J hJ;simp only[];simp[f1,f45,f46,f47,hlt,hd,hw,hel,hk3,hgH,hnx,hx1,hr];refine hJ _ _ (zZ ?_))))
   exact hkn
  by_cases hx2:1048576<xi
  ·have hn:eB xi (g.es.getD (k-1) ed0).id (decide (k=0))=2:=by unfold eB;rw[if_pos (.inr hx2)]
   have hr:=hret 2 (by rw[hbad,hn];rfl) (by decide)
   (repeat' (first|refine qS ?_|refine qB ?_|(refine qK (zZ ?_))|(refine qR (zZ ?_);simp[f1,f45,f46,f47,hlt,hd,hw,hel,hk3,hgH,hnx,hx1,hx2,hr])|(refine qC ?_;simp[f1,f45,f46,f47,hlt,hd,hw,hel,hk3,hgH,hnx,hx1,hx2,hr])|(refine w_e [] ?_;intro J hJ;simp only[];simp[f1,f45,f46,f47,hlt,hd,hw,hel,hk3,hgH,hnx,hx1,hx2,hr];refine hJ _ _ (zZ ?_))))
   exact hkn
  by_cases hnb:eB xi (g.es.getD (k-1) ed0).id (decide (k=0))=0
  rotate_left
  ·
   have h0:k≠0:=by rintro rfl;apply hnb;unfold eB;rw[if_neg (by simp[hx1,hx2])];simp
   have hle:xi≤(g.es.getD (k-1) ed0).id:=by
    unfold eB at hnb
    rw[if_neg (by simp[hx1,hx2])]at hnb
    by_cases h:decide (k=0)=false∧xi≤(g.es.getD (k-1) ed0).id
    ·exact h.2
    ·rw[if_neg h]at hnb;exact absurd rfl hnb
   have hn:eB xi (g.es.getD (k-1) ed0).id (decide (k=0))=19:=by unfold eB;rw[if_neg (by simp[hx1,hx2]),if_pos ⟨by simp[h0],hle⟩]
   have hr:=hret 19 (by rw[hbad,hn];rfl) (by decide)
   have hk0:0<k:=oO
   have hw1:IntKind.i64.wrap ((k:Int)-1)=((k-1:Nat):Int):=by rw[wrap_i64 _ oO oO];omega
   have hd1:=aW g.es (k-1) oO
   have hlt1:k-1<g.es.length:=oO
   have hlt3:(k-1)*3<g.es.length*3:=oO
   generalize hy:g.es.getD (k-1) ed0=y at *
   obtain⟨yi,ya,yb⟩:=y
   simp only at hd1 hle
   (repeat' (first|refine qS ?_|refine qB ?_|(refine qK (zZ ?_))|(refine qR (zZ ?_);simp[f1,f45,f46,f47,hlt,hd,hw,hel,hk3,hgH,hnx,hx1,hx2,hk0,hw1,hd1,hlt1,hlt3,hle,hr])|(refine qC ?_;simp[f1,f45,f46,f47,hlt,hd,hw,hel,hk3,hgH,hnx,hx1,hx2,hk0,hw1,hd1,hlt1,hlt3,hle,hr])|((first|(refine w_e [] ?_;intro J hJ;simp only[])|(refine w_q ?_;intro J hJ));simp[f1,f45,f46,f47,hlt,hd,hw,hel,hk3,hgH,hnx,hx1,hx2,hk0,hw1,hd1,hlt1,hlt3,hle,hr];refine hJ _ _ (zZ ?_))))
   exact hkn
  rw[if_neg (fun h=>h hnb)]at hbad
  by_cases hab:xa=xb
  ·have hr:=hret 20 (by rw[hbad,if_pos hab]) (by decide)
   by_cases h0:k=0
   ·have hk0:¬0<k:=oO
    (repeat' (first|refine qS ?_|refine qB ?_|(refine qK (zZ ?_))|(refine qR (zZ ?_);simp[f1,f45,f46,f47,hlt,hd,hw,hel,hk3,hgH,hnx,hx1,hx2,hk0,hab,hr])|(refine qC ?_;simp[f1,f45,f46,f47,hlt,hd,hw,hel,hk3,hgH,hnx,hx1,hx2,hk0,hab,hr])|((first|(refine w_e [] ?_;intro J hJ;simp only[])|(refine w_q ?_;intro J hJ));simp[f1,f45,f46,f47,hlt,hd,hw,hel,hk3,hgH,hnx,hx1,hx2,hk0,hab,hr];refine hJ _ _ (zZ ?_))))
    exact hkp0.trans (aA.new _ _)
   ·have hk0:0<k:=oO
    have hw1:IntKind.i64.wrap ((k:Int)-1)=((k-1:Nat):Int):=by rw[wrap_i64 _ oO oO];omega
    have hd1:=aW g.es (k-1) oO
    have hlt1:k-1<g.es.length:=oO
    have hlt3:(k-1)*3<g.es.length*3:=oO
    have hle:¬xi≤(g.es.getD (k-1) ed0).id:=by
     intro h
     unfold eB at hnb
     rw[if_neg (by simp[hx1,hx2]),if_pos ⟨by simp[h0],h⟩]at hnb
     cases hnb
    generalize hy:g.es.getD (k-1) ed0=y at *
    obtain⟨yi,ya,yb⟩:=y
    simp only at hd1 hle
    (repeat' (first|refine qS ?_|refine qB ?_|(refine qK (zZ ?_))|(refine qR (zZ ?_);simp[f1,f45,f46,f47,hlt,hd,hw,hel,hk3,hgH,hnx,hx1,hx2,hk0,hw1,hd1,hlt1,hlt3,hle,hab,hr])|(refine qC ?_;simp[f1,f45,f46,f47,hlt,hd,hw,hel,hk3,hgH,hnx,hx1,hx2,hk0,hw1,hd1,hlt1,hlt3,hle,hab,hr])|((first|(refine w_e [] ?_;intro J hJ;simp only[])|(refine w_q ?_;intro J hJ));simp[f1,f45,f46,f47,hlt,hd,hw,hel,hk3,hgH,hnx,hx1,hx2,hk0,hw1,hd1,hlt1,hlt3,hle,hab,hr];refine hJ _ _ (zZ ?_))))
    exact hkp0.trans (aA.new _ _)
  rw[if_neg hab]at hbad
  by_cases h0:k=0
  ·have hk0:¬0<k:=oO
   (repeat' (first|refine qS ?_|refine qB ?_|(refine qK (zZ ?_))|(refine qC ?_;simp[f1,f45,f46,f47,hlt,hd,hw,hel,hk3,hgH,hnx,hx1,hx2,hk0,hab])|((first|(refine w_e [] ?_;intro J hJ;simp only[])|(refine w_q ?_;intro J hJ));simp[f1,f45,f46,f47,hlt,hd,hw,hel,hk3,hgH,hnx,hx1,hx2,hk0,hab];(try refine hJ _ _ (zZ ?_)))))
   refine qE (Has g xa _ hsm) (by simp[]) ?_;rintro r st' ⟨rfl,hk1⟩
   have hB1:st'.H st1.next=.box 56 3 [u xi,u xa,u xb]:=by rw[hk1.H _ sS];simp
   have hgH1:st'.H st.next=.box 25 2 (grL g):=by
    rw[hk1.H _ (by have:=hkp.next;simp only[aC]at this ⊢;omega),bI,if_neg hnx];exact hgH
   have hkp1:=(hkp.trans (aA.new _ _)).trans hk1
   have hkp01:=(hkp0.trans (aA.new _ _)).trans hk1
   by_cases hma:xa∈g.vs
   rotate_left
   ·have hr:=hret 21 (by rw[hbad,if_pos (.inl hma)]) (by decide)
    (repeat' (first|refine qS ?_|(refine qR (zZ ?_);simp[f1,hB1,hgH1,hr,hma])|(refine qC ?_;simp[f1,hB1,hgH1,hr,hma])|((first|(refine w_e [] ?_;intro J hJ;simp only[])|(refine aE ?_));simp[f1,hB1,hgH1,hr,hma];refine hJ _ _ (zZ ?_))))
    exact hkp01
   (refine aE ?_;simp[f1,hB1,hgH1,hma])
   refine qE (Has g xb _ hsm) (by simp[]) ?_;rintro r st' ⟨rfl,hk2⟩
   by_cases hmb:xb∈g.vs
   rotate_left
   ·have hr:=hret 21 (by rw[hbad,if_pos (.inr hmb)]) (by decide)
    (repeat' (first|refine qS ?_|(refine qR (zZ ?_);simp[hr,hmb])|(refine qC ?_;simp[hr,hmb])|((first|(refine w_e [] ?_;intro J hJ;simp only[])|(refine aE ?_));simp[hr,hmb];refine hJ _ _ (zZ ?_))))
    exact hkp01.trans hk2
   have hb':jS g k=0:=by rw[hbad,if_neg (by simp[hma,hmb])]
   (repeat' (first|(refine qK (zZ ?_))|(refine qC ?_;simp[f47,hw,hmb])|((first|(refine w_e [] ?_;intro J hJ;simp only[])|(refine aE ?_));simp[f47,hw,hmb];refine hJ _ _ (zZ ?_))))
   refine hJJ _ _ _ ?_ ⟨k+1,oO,rfl,by simp[f1],by simp[f45],by simp[f46],sS,hkp1.trans hk2,hnext hb'⟩
   omega
  ·have hk0:0<k:=oO
   have hw1:IntKind.i64.wrap ((k:Int)-1)=((k-1:Nat):Int):=by rw[wrap_i64 _ oO oO];omega
   have hd1:=aW g.es (k-1) oO
   have hlt1:k-1<g.es.length:=oO
   have hlt3:(k-1)*3<g.es.length*3:=oO
   have hle:¬xi≤(g.es.getD (k-1) ed0).id:=by
    intro h
    unfold eB at hnb
    rw[if_neg (by simp[hx1,hx2]),if_pos ⟨by simp[h0],h⟩]at hnb
    cases hnb
   generalize hy:g.es.getD (k-1) ed0=y at *
   obtain⟨yi,ya,yb⟩:=y
   simp only at hd1 hle
   (repeat' (first|refine qS ?_|refine qB ?_|(refine qK (zZ ?_))|(refine qC ?_;simp[f1,f45,f46,f47,hlt,hd,hw,hel,hk3,hgH,hnx,hx1,hx2,hk0,hw1,hd1,hlt1,hlt3,hle,hab])|((first|(refine w_e [] ?_;intro J hJ;simp only[])|(refine w_q ?_;intro J hJ));simp[f1,f45,f46,f47,hlt,hd,hw,hel,hk3,hgH,hnx,hx1,hx2,hk0,hw1,hd1,hlt1,hlt3,hle,hab];(try refine hJ _ _ (zZ ?_)))))
   refine qE (Has g xa _ hsm) (by simp[]) ?_;rintro r st' ⟨rfl,hk1⟩
   have hB1:st'.H st1.next=.box 56 3 [u xi,u xa,u xb]:=by rw[hk1.H _ sS];simp
   have hgH1:st'.H st.next=.box 25 2 (grL g):=by
    rw[hk1.H _ (by have:=hkp.next;simp only[aC]at this ⊢;omega),bI,if_neg hnx];exact hgH
   have hkp1:=(hkp.trans (aA.new _ _)).trans hk1
   have hkp01:=(hkp0.trans (aA.new _ _)).trans hk1
   by_cases hma:xa∈g.vs
   rotate_left
   ·have hr:=hret 21 (by rw[hbad,if_pos (.inl hma)]) (by decide)
    (repeat' (first|refine qS ?_|(refine qR (zZ ?_);simp[f1,hB1,hgH1,hr,hma])|(refine qC ?_;simp[f1,hB1,hgH1,hr,hma])|((first|(refine w_e [] ?_;intro J hJ;simp only[])|(refine aE ?_));simp[f1,hB1,hgH1,hr,hma];refine hJ _ _ (zZ ?_))))
    exact hkp01
   (refine aE ?_;simp[f1,hB1,hgH1,hma])
   refine qE (Has g xb _ hsm) (by simp[]) ?_;rintro r st' ⟨rfl,hk2⟩
   by_cases hmb:xb∈g.vs
   rotate_left
   ·have hr:=hret 21 (by rw[hbad,if_pos (.inr hmb)]) (by decide)
    (repeat' (first|refine qS ?_|(refine qR (zZ ?_);simp[hr,hmb])|(refine qC ?_;simp[hr,hmb])|((first|(refine w_e [] ?_;intro J hJ;simp only[])|(refine aE ?_));simp[hr,hmb];refine hJ _ _ (zZ ?_))))
    exact hkp01.trans hk2
   have hb':jS g k=0:=by rw[hbad,if_neg (by simp[hma,hmb])]
   (repeat' (first|(refine qK (zZ ?_))|(refine qC ?_;simp[f47,hw,hmb])|((first|(refine w_e [] ?_;intro J hJ;simp only[])|(refine aE ?_));simp[f47,hw,hmb];refine hJ _ _ (zZ ?_))))
   refine hJJ _ _ _ ?_ ⟨k+1,oO,rfl,by simp[f1],by simp[f45],by simp[f46],sS,hkp1.trans hk2,hnext hb'⟩
   omega
 ·have hr:chk g=0:=by rw[hch];exact fG (fun j hj=>hno j oO)
  clear hJJ
  (repeat' (first|refine qS ?_|(refine qX (zZ ?_))|(refine qR (zZ ?_);simp[f1,f45,f46,f47,hlt,hr])|(refine qC ?_;simp[f1,f45,f46,f47,hlt,hr])|(refine w_e [] ?_;intro J hJ;simp only[];simp[f1,f45,f46,f47,hlt,hr];refine hJ _ _ (zZ ?_))))
  exact hkp0
theorem aFA(l:List Ed):(eds l).all fM=true:=by
 induction l with
 |nil=>rfl
 |cons e l ih=>simp only[eds,List.flatMap_cons,List.all_append,ih,Bool.and_true];rfl
theorem aJD(l:List Ed)(t:Nat)(st:St)(hl:l.length≤1048576):
 aB Tryz.prog 124 [.sl t l.length (eds l)] st fun r st'=>r=.sl 0 l.length (eds l)∧aA st st':=by
 have hone:=aFA l
 have hel:=aJ l
 refine bQ ?_
 refine gJ 56 3 ?_
 refine qO aF Tryz.func124 rfl rfl Tryz.ntmps124 (rs:=[.tmp 2]) rfl sS ?_
 (repeat' (first|refine qS ?_|(refine qK (zZ ?_))|(refine qR (zZ ?_);simp[hone,hel])|(refine qC ?_;simp[hone,hel])|(refine w_e [5] ?_;intro J hJ;simp only[];simp[hone,hel];(repeat refine ca ?_);((try with_reducible refine⟨?_,?_⟩)<;>(try with_reducible intro hnil)<;>refine hJ _ _ ?_<;>clear hJ J<;>simp only[ak,reduceIte]<;>try subst hnil))))
 ·exact⟨st.next+1,l.length,⟨rfl,rfl⟩,56,3,eds l,sS,by rw[hel];exact Nat.le_refl _,⟨rfl,List.take_of_length_le (by rw[hel];exact Nat.le_refl _)⟩,((aA.new _ _).trans (aA.new _ _)).set oO _⟩
 ·exact⟨st.next,0,⟨rfl,rfl⟩,56,3,[],sS,sS,⟨rfl,.inr rfl⟩,(aA.new _ _).set (Nat.le_refl _) _⟩
theorem copied(g:Gr)(st:St)(hv:g.vs.length≤1048576)(he:g.es.length≤1048576):
 aB Tryz.prog 84 [.ag (grL g)] st fun r st'=>r=.ag (grL g)∧aA st st':=by
 refine qO aF Tryz.func84 rfl rfl Tryz.ntmps84 (rs:=[.cell 2 25]) rfl sS ?_
 (repeat' (first|refine qS ?_|(refine w_e [] ?_;intro J hJ;simp only[];simp[];refine hJ _ _ (zZ ?_))))
 (refine w_s [] [st.next] [(0,true),(1,true),(3,true),(4,true),(2,true),(5,true),(6,true),(7,false)] ?_;intro J hJ;simp[])
 refine qD (aJq g.vs 0 _ hv) (by simp[]) ?_;rintro r st' ⟨rfl,hk1⟩
 have hB1:st'.H st.next=.box 25 2 (grL g):=by rw[hk1.H _ (by simp;omega)];simp
 have hC1:st'.H (st.next+1)=.box 25 2 [.nil,.nil]:=by rw[hk1.H _ sS];simp
 refine⟨fun _=>by simp[hB1],?_⟩
 (refine bE ?_;simp[hB1])
 have hn1:=hk1.next
 simp only[aC]at hn1
 refine qD (aJD g.es 0 _ he) (by simp[]) ?_;rintro r st' ⟨rfl,hk2⟩
 have hB2:=(hk2.H st.next oO).trans hB1
 have hC2:=(hk2.H (st.next+1) oO).trans hC1
 refine⟨fun _=>by simp[hB2],?_⟩
 (refine bE ?_;simp[hB2,hC2];refine hJ _ _ (zZ ?_))
 (repeat' (refine qR (zZ ?_);simp[hC2]))
 exact(((((aA.new _ _).trans (aA.new _ _)).trans hk1).trans hk2).set oO _)
theorem aNb(a b:List Ed)(hab:a.length=b.length)(h:∀ j,j<a.length→a.getD j ed0=b.getD j ed0):a=b:=by
 apply List.ext_getElem hab
 intro j h1 h2
 have:=h j h1
 rw[List.getD_eq_getElem?_getD,List.getD_eq_getElem?_getD,List.getElem?_eq_getElem h1,List.getElem?_eq_getElem h2]at this
 exact this
theorem aIW(a b:List Int)(hab:a.length=b.length)(h:∀ j,j<a.length→a.getD j 0=b.getD j 0):a=b:=by
 apply List.ext_getElem hab
 intro j h1 h2
 have:=h j h1
 rw[aI _ _ h1,aI _ _ h2]at this
 exact this
theorem aAs(a b:Gr)(st:St)(hv:a.vs.length≤1048576)(he:a.es.length≤1048576):
 aB Tryz.prog 20 [.ag (grL a),.ag (grL b)] st fun r st'=>r=bb (decide (a=b))∧aA st st':=by
 have hkk:aA st ((st.new (.box 25 2 (grL a))).new (.box 25 2 (grL b))):=(aA.new _ _).trans (aA.new _ _)
 refine qO aF Tryz.func20 rfl rfl Tryz.ntmps20 (rs:=[.tmp 4]) rfl sS ?_
 by_cases h1:a.vs.length=b.vs.length
 rotate_left
 ·have h1':((a.vs.length:Int) != b.vs.length)=true:=by simp;omega
  have hne:¬a=b:=fun h=>h1 (by rw[h])
  (repeat' (first|refine qS ?_|(refine qR (zZ ?_);simp[h1',hne])|(refine qC ?_;simp[h1',hne])|(refine w_e [] ?_;intro J hJ;simp only[];simp[h1',hne];refine hJ _ _ (zZ ?_))))
  exact hkk
 have h1':((a.vs.length:Int) != b.vs.length)=false:=by simp;omega
 by_cases h2:a.es.length=b.es.length
 rotate_left
 ·have h2':((a.es.length:Int) != b.es.length)=true:=by simp;omega
  have hne:¬a=b:=fun h=>h2 (by rw[h])
  (repeat' (first|refine qS ?_|(refine qR (zZ ?_);simp[h1',h2',hne])|(refine qC ?_;simp[h1',h2',hne])|(refine w_e [] ?_;intro J hJ;simp only[];simp[h1',h2',hne];refine hJ _ _ (zZ ?_))))
  exact hkk
 have h2':((a.es.length:Int) != b.es.length)=false:=by simp;omega
 (repeat' (first|refine qS ?_|refine qB ?_|(refine qK (zZ ?_))|(refine qC ?_;simp[h1',h2'])|(refine w_e [] ?_;intro J hJ;simp only[];simp[h1',h2'];refine hJ _ _ (zZ ?_))))
 refine qL (fun n fr st'=>∃ k:Nat,k≤a.vs.length∧n=a.vs.length-k∧fr 2=.pt st.next 0∧fr 3=.pt (st.next+1) 0∧fr 25=i a.vs.length∧fr 26=i k∧st'=(st.new (.box 25 2 (grL a))).new (.box 25 2 (grL b))∧∀ j,j<k→a.vs.getD j 0=b.vs.getD j 0) a.vs.length ?_ ?_
 ·exact⟨0,oO,oO,sS,sS,sS,sS,rfl,fun j h=>by omega⟩
 rintro n fr st' ⟨k,hk,rfl,f2,f3,f25,f26,rfl,hno⟩ JJ hJJ
 by_cases hlt:k<a.vs.length
 ·have hd:=qG a.vs k hlt
  have hlt':k<b.vs.length:=oO
  have hd':=qG b.vs k hlt'
  have hw:=qN k oO
  generalize hx:a.vs.getD k 0=x at *
  generalize hy:b.vs.getD k 0=y at *
  by_cases hxy:x=y
  ·(repeat' (first|refine qS ?_|refine qB ?_|(refine qK (zZ ?_))|(refine qC ?_;simp[f2,f3,f25,f26,hlt,hlt',hd,hd',hw,hxy])|((first|(refine w_e [] ?_;intro J hJ;simp only[])|(refine w_q ?_;intro J hJ));simp[f2,f3,f25,f26,hlt,hlt',hd,hd',hw,hxy];refine hJ _ _ (zZ ?_))))
   refine hJJ _ _ _ ?_ ⟨k+1,oO,rfl,by simp[f2],by simp[f3],by simp[f25],sS,rfl,fun j hj=>?_⟩
   ·omega
   ·rcases Nat.lt_or_ge j k with h|h
    ·exact hno j h
    ·obtain rfl:j=k:=oO
     rw[hx,hy];exact hxy
  ·have hne:¬a=b:=fun h=>hxy (by rw[← hx,← hy,h])
   (repeat' (first|refine qS ?_|refine qB ?_|(refine qK (zZ ?_))|(refine qR (zZ ?_);simp[f2,f3,f25,f26,hlt,hlt',hd,hd',hw,hxy,hne])|(refine qC ?_;simp[f2,f3,f25,f26,hlt,hlt',hd,hd',hw,hxy,hne])|((first|(refine w_e [] ?_;intro J hJ;simp only[])|(refine w_q ?_;intro J hJ));simp[f2,f3,f25,f26,hlt,hlt',hd,hd',hw,hxy,hne];refine hJ _ _ (zZ ?_))))
   exact hkk
 have hvs:=aIW a.vs b.vs h1 (fun j hj=>hno j oO)
 clear hJJ hno
 have hela:=aJ a.es
 have helb:=aJ b.es
 (repeat' (first|refine qS ?_|refine qB ?_|(refine qX (zZ ?_))|(refine qC ?_;simp[f2,f3,f25,f26,hlt])|(refine w_e [] ?_;intro J hJ;simp only[];simp[f2,f3,f25,f26,hlt];refine hJ _ _ (zZ ?_))))
 refine qL (fun n fr st'=>∃ k:Nat,k≤a.es.length∧n=a.es.length-k∧fr 2=.pt st.next 0∧fr 3=.pt (st.next+1) 0∧fr 43=i a.es.length∧fr 44=i k∧st'=(st.new (.box 25 2 (grL a))).new (.box 25 2 (grL b))∧∀ j,j<k→a.es.getD j ed0=b.es.getD j ed0) a.es.length ?_ ?_
 ·exact⟨0,oO,oO,by simp[f2],by simp[f3],sS,sS,rfl,fun j h=>by omega⟩
 clear f2 f3 f25 f26 hlt hk fr k
 rintro n fr st' ⟨k,hk,rfl,f2,f3,f43,f44,rfl,hno⟩ JJ hJJ
 by_cases hlt:k<a.es.length
 ·have hd:=aW a.es k hlt
  have hlt':k<b.es.length:=oO
  have hd':=aW b.es k hlt'
  have hw:=qN k oO
  have hk3:k*3<a.es.length*3:=oO
  have hk3':k*3<b.es.length*3:=oO
  generalize hx:a.es.getD k ed0=x at *
  generalize hy:b.es.getD k ed0=y at *
  obtain⟨x1,x2,x3⟩:=x
  obtain⟨y1,y2,y3⟩:=y
  simp only at hd hd'
  by_cases hxy:([x1,x2,x3]==[y1,y2,y3])=true
  ·have hxy':([x1,x2,x3]:List Int)=[y1,y2,y3]:=by simpa using hxy
   injection hxy' with e1 e2;injection e2 with e2 e3;injection e3 with e3 _
   subst e1 e2 e3
   (repeat' (first|refine qS ?_|refine qB ?_|(refine qK (zZ ?_))|(refine qC ?_;simp[f2,f3,f43,f44,hlt,hlt',hd,hd',hw,hela,helb,hk3,hk3'])|((first|(refine w_e [] ?_;intro J hJ;simp only[])|(refine w_q ?_;intro J hJ));simp[f2,f3,f43,f44,hlt,hlt',hd,hd',hw,hela,helb,hk3,hk3'];refine hJ _ _ (zZ ?_))))
   refine hJJ _ _ _ ?_ ⟨k+1,oO,rfl,by simp[f2],by simp[f3],by simp[f43],sS,rfl,fun j hj=>?_⟩
   ·omega
   ·rcases Nat.lt_or_ge j k with h|h
    ·exact hno j h
    ·obtain rfl:j=k:=oO
     rw[hx,hy]
  ·have hne:¬a=b:=fun h=>hxy (by rw[h]at hx;rw[hx]at hy;injection hy with e1 e2 e3;subst e1 e2 e3;simp)
   have hxyf:([x1,x2,x3]==[y1,y2,y3])=false:=by simpa using hxy
   (repeat' (first|refine qS ?_|refine qB ?_|(refine qK (zZ ?_))|(refine qR (zZ ?_);simp[f2,f3,f43,f44,hlt,hlt',hd,hd',hw,hela,helb,hk3,hk3',hxyf,hne])|(refine qC ?_;simp[f2,f3,f43,f44,hlt,hlt',hd,hd',hw,hela,helb,hk3,hk3',hxyf,hne])|((first|(refine w_e [] ?_;intro J hJ;simp only[])|(refine w_q ?_;intro J hJ));simp[f2,f3,f43,f44,hlt,hlt',hd,hd',hw,hela,helb,hk3,hk3',hxyf,hne];refine hJ _ _ (zZ ?_))))
   exact hkk
 ·have hes:=aNb a.es b.es h2 (fun j hj=>hno j oO)
  have heq:a=b:=by cases a;cases b;simp only at hvs hes;subst hvs hes;rfl
  clear hJJ
  subst heq
  (repeat' (first|refine qS ?_|(refine qX (zZ ?_))|(refine qR (zZ ?_);simp[f2,f3,f43,f44,hlt])|(refine qC ?_;simp[f2,f3,f43,f44,hlt])|(refine w_e [] ?_;intro J hJ;simp only[];simp[f2,f3,f43,f44,hlt];refine hJ _ _ (zZ ?_))))
  exact hkk
theorem yQ(e s:Nat){P:Program}{f:FuncId}{args:List LV}{st:St}{Q:LV→St→Prop}(pre:List LV)
 (h:aB P f args st fun r st'=>∃ c,r=.ag (pre++[c])∧((c=.nil∧Q (.ag (pre++[.sl 0 0 []])) st')∨∃ l n cs,c=.ms l 0 n∧st'.H l=.box e s cs∧n*s≤cs.length∧Q (.ag (pre++[.sl 0 n (cs.take (n*s))])) (st'.set l .dead))):aB P f args st Q:=by
 refine⟨h.1,fun w g vs hi hr=>(h.2 w g vs hi hr).mono ?_⟩
 rintro x w' ⟨v,r,st',g',rfl,⟨c,rfl,hc⟩,hrep,hi',he⟩
 simp only[Rep]at hrep
 obtain⟨us1,rfl,hus⟩:=hrep
 obtain⟨v1,h1,h2⟩:=kA pre us1 hus
 rcases hc with⟨rfl,hq⟩|⟨l,n,cs,rfl,hl,hn,hq⟩
 ·refine⟨_,_,st',g',rfl,hq,?_,hi',he⟩
  simp only[Rep]
  exact⟨us1,rfl,h2 g' _ (Ext.refl _ _) (pI h1)⟩
 ·obtain⟨g2,k1,k2,k3⟩:=eZ (fr:=upd (fun _=>.dead) 0 (.ms l 0 n)) 0 rfl hl hn { tmps:=#[v1],defers:=[] } w' g' hi' (by
   intro j
   unfold upd
   by_cases hj:j=0
   ·subst hj;rw[if_pos rfl];exact h1
   ·rw[if_neg hj];simp only[Rep])
  refine⟨_,_,_,g2,rfl,hq,?_,k1,he.trans k3⟩
  simp only[Rep]
  exact⟨us1,rfl,h2 g2 _ k3 (k2 0)⟩
theorem vY(rs:List (List Int))(k:Nat)(hk:k<rs.length):cS (rs.take (k+1))=cS (rs.take k)++[.sl 0 (rs[k]).length (us rs[k])]:=by
 unfold cS
 rw[List.take_succ_eq_append_getElem hk,List.map_append];rfl
theorem aOk(g:Gr)(q:Nat)(es:List (List Int×LV))(tf:Int→List Int)(st:St)(hv:g.vs.length≤1000)(he:g.es.length≤1000)(hq:q<st.next)(hM:st.H q=.map false [.u32] es)
 (ht:∀ v∈g.vs,∃ x t,(aY es [v]).getD .nil=x∧norm x=.sl t (tf v).length (us (tf v))∧(tf v).length≤1000):
 aB Tryz.prog 50 [.ag (grL g),.mp q] st fun r st'=>r=.ag (mpL ⟨g,g.vs.map fun v=>nrm (tf v)⟩)∧aA st st':=by
 refine yQ 22 1 (grL g) ?_
 refine qO aF Tryz.func50 rfl rfl Tryz.ntmps50 (rs:=[.cell 4 39]) rfl sS ?_
 (repeat' (first|refine qS ?_|(refine w_e [] ?_;intro J hJ;simp only[];simp[];(try refine hJ _ _ (zZ ?_)))))
 refine qE (copied g _ oO oO) sS ?_;rintro r s1 ⟨rfl,hk1⟩
 have hn1:=hk1.next
 simp only[aC]at hn1
 have hG1:s1.H st.next=.box 25 2 (grL g):=by rw[hk1.H _ (by simp;omega)];simp
 have hM1:s1.H q=.map false [.u32] es:=by
  rw[hk1.H q (by simp;omega),bI,if_neg (by simp;omega),bI,if_neg oO,hM]
 have hR1:s1.H (st.next+1)=.box 39 3 [.nil,.nil,.nil]:=by rw[hk1.H _ sS];simp
 have ne1:¬st.next=s1.next:=oO
 (repeat' (first|refine qS ?_|refine qB ?_|((first|(refine w_e [] ?_;intro J hJ;simp only[])|(refine aE ?_));simp[hG1,ne1];refine hJ _ _ (zZ ?_))))
 refine qL (fun n fr st2=>∃ k:Nat,k≤g.vs.length∧n=g.vs.length-k∧fr 1=.mp q∧fr 4=.pt (st.next+1) 0∧fr 5=.pt s1.next 0∧fr 12=.sl 0 g.vs.length (us g.vs)∧fr 13=i g.vs.length∧fr 14=i k∧aA s1 st2∧s1.next<st2.next∧∃ c,st2.H s1.next=.box 39 3 (grL g++[c])∧((k=0∧c=.nil)∨∃ z,c=.ms z 0 k∧s1.next<z∧z<st2.next∧st2.H z=.box 22 1 (cS ((g.vs.map fun v=>nrm (tf v)).take k)))) g.vs.length ?_ ?_
 ·exact⟨0,oO,oO,sS,sS,sS,sS,sS,sS,aA.new _ _,sS,.nil,sS,.inl ⟨rfl,rfl⟩⟩
 rintro n fr st2 ⟨k,hk,rfl,f1,f4,f5,f12,f13,f14,hkp,hlt2,c,hB,hcz⟩ JJ hJJ
 have hM2:st2.H q=.map false [.u32] es:=by rw[hkp.H q oO];exact hM1
 by_cases hlt:k<g.vs.length
 ·have hd:=qG g.vs k hlt
  have hw:=qN k oO
  have hvin:g.vs.getD k 0∈g.vs:=by rw[aI _ _ hlt];exact List.getElem_mem hlt
  obtain⟨x,t,hx1,hx2,hx3⟩:=ht _ hvin
  have hrow:=vY (g.vs.map fun v=>nrm (tf v)) k (by simpa using hlt)
  have hrk:(g.vs.map fun v=>nrm (tf v))[k]'(by simpa using hlt)=nrm (tf (g.vs.getD k 0)):=by simp[hlt]
  rw[hrk,bX]at hrow
  generalize hvv:g.vs.getD k 0=v at *
  have hqn:¬q=s1.next:=oO
  have ne2:¬s1.next=st2.next:=oO
  have ne3:¬q=st2.next:=by have:=hkp.next;omega
  rcases hcz with⟨rfl,rfl⟩|⟨z,rfl,hz1,hz2,hz⟩
  ·(repeat' (first|refine qS ?_|(refine w_e [] ?_;intro J hJ;simp only[];simp[f12,f13,f14,hlt,hd];refine hJ _ _ (zZ ?_))))
   (refine qC ?_;simp[])
   (repeat' (first|refine qS ?_|refine qB ?_|(refine qK (zZ ?_))|(refine w_e [] ?_;intro J hJ;simp only[];simp[f1,f5,f12,f13,f14,hlt,hd];refine hJ _ _ (zZ ?_))))
   (refine w_s [25] [s1.next,q] [(0,true),(1,true),(2,true),(3,true),(4,true),(5,true),(6,true),(7,true),(8,true),(9,false)] ?_;intro J hJ;simp[f1,f5,hB,hM2,hx1,hqn])
   refine qD (aEq (tf v) t _ (by simp only[small];omega)) (by simp only[List.map_cons,List.map_nil,hx2]) ?_;rintro r s3 ⟨rfl,hk3⟩
   have hB3:=(hk3.H s1.next oO).trans hB
   have hM3:=(hk3.H q (by have:=hkp.next;omega)).trans hM2
   have hn3:=hk3.next
   have ne4:¬s1.next=s3.next:=oO
   have ne5:¬s1.next=s3.next+1:=oO
   have ne6:¬q=s3.next+1:=oO
   have ne7:¬q=s3.next:=oO
   refine⟨fun _=>by simp[hB3,hM3,hB,hM2],?_⟩
   (refine bE ?_;simp[f5,hB3,hM3,hB,hM2,ne4,ne5,ne6,ne7];(repeat refine ca ?_);refine hJ _ _ (zZ ?_))
   have hw1:IntKind.i64.wrap 1=1:=by decide
   (repeat' (refine w_e [] ?_;intro J hJ;simp only[];simp[f5,f14,hw,hw1];refine hJ _ _ (zZ ?_)))
   refine hJJ (g.vs.length-1) _ _ oO ⟨1,oO,rfl,by simp[f1],by simp[f4],by simp[f5],by simp[f12],by simp[f13],sS,(((hkp.trans hk3).trans (aA.new _ _)).trans (aA.new _ _)).set (Nat.le_refl _) _,by simp;omega,.ms (s3.next+1) 0 1,sS,.inr ⟨s3.next+1,rfl,oO,sS,?_⟩⟩
   rw[hrow,bH,if_neg oO]
   simp
  ·generalize hR:cS ((g.vs.map fun v=>nrm (tf v)).take k)=R at *
   have hzl:R.length=k:=by rw[← hR];simp;omega
   (repeat' (first|refine qS ?_|(refine w_e [] ?_;intro J hJ;simp only[];simp[f12,f13,f14,hlt,hd];refine hJ _ _ (zZ ?_))))
   (refine qC ?_;simp[])
   (repeat' (first|refine qS ?_|refine qB ?_|(refine qK (zZ ?_))|(refine w_e [] ?_;intro J hJ;simp only[];simp[f1,f5,f12,f13,f14,hlt,hd];refine hJ _ _ (zZ ?_))))
   (refine w_s [25] [s1.next,q] [(0,true),(1,true),(2,true),(3,true),(4,true),(5,true),(6,true),(7,true),(8,true),(9,false)] ?_;intro J hJ;simp[f1,f5,hB,hM2,hx1,hqn])
   refine qD (aEq (tf v) t _ (by simp only[small];omega)) (by simp only[List.map_cons,List.map_nil,hx2]) ?_;rintro r s3 ⟨rfl,hk3⟩
   have hB3:=(hk3.H s1.next oO).trans hB
   have hM3:=(hk3.H q (by have:=hkp.next;omega)).trans hM2
   have hz3:=(hk3.H z oO).trans hz
   have hn3:=hk3.next
   have ne4:¬s1.next=s3.next:=oO
   have ne5:¬s1.next=s3.next+1:=oO
   have ne6:¬q=s3.next+1:=oO
   have ne7:¬q=s3.next:=oO
   have ne8:¬s1.next=z:=oO
   have ne9:¬z=s3.next:=oO
   have ne10:¬q=z:=oO
   have htk:R.take k=R:=List.take_of_length_le oO
   refine⟨fun _=>by simp[hB3,hM3,hB,hM2],?_⟩
   (refine bE ?_;simp[f5,hB3,hM3,hB,hM2,ne4,ne5,ne6,ne7,ne8,ne9,ne10,hz3,hzl,htk];(repeat refine ca ?_);refine hJ _ _ (zZ ?_))
   (repeat' (refine w_e [] ?_;intro J hJ;simp only[];simp[f5,f14,hw];refine hJ _ _ (zZ ?_)))
   refine hJJ (g.vs.length-(k+1)) _ _ oO ⟨k+1,oO,rfl,by simp[f1],by simp[f4],by simp[f5],by simp[f12],by simp[f13],sS,((((hkp.trans hk3).trans (aA.new _ _)).set oO _).trans (aA.new _ _)).set (Nat.le_refl _) _,by simp;omega,.ms (s3.next+1) 0 (k+1),sS,.inr ⟨s3.next+1,rfl,oO,sS,?_⟩⟩
   rw[hrow,bH,if_neg oO]
   simp
 ·have hkk:k=g.vs.length:=oO
  have hBR:¬s1.next=st.next+1:=oO
  have hR2:=(hkp.H (st.next+1) oO).trans hR1
  have hKK:aA st st2:=(((aA.new _ _).trans (aA.new _ _)).trans hk1).trans hkp
  rcases hcz with⟨h0,rfl⟩|⟨z,rfl,hz1,hz2,hz⟩
  ·(repeat' (first|refine qS ?_|(refine qX (zZ ?_))|(refine qR (zZ ?_);simp[f12,f13,f14,hlt,f4,f5,hB,hR2])|(refine qC ?_;simp[f12,f13,f14,hlt,f4,f5,hB,hR2])|(refine w_e [] ?_;intro J hJ;simp only[];simp[f12,f13,f14,hlt,f4,f5,hB,hR2];refine hJ _ _ (zZ ?_))))
   exact⟨⟨oO,List.length_eq_zero_iff.mp oO⟩,hKK.set oO _⟩
  ·(repeat' (first|refine qS ?_|(refine qX (zZ ?_))|(refine qR (zZ ?_);simp[f12,f13,f14,hlt,f4,f5,hB,hR2])|(refine qC ?_;simp[f12,f13,f14,hlt,f4,f5,hB,hR2])|(refine w_e [] ?_;intro J hJ;simp only[];simp[f12,f13,f14,hlt,f4,f5,hB,hR2];refine hJ _ _ (zZ ?_))))
   have hmm:(g.vs.map fun v=>nrm (tf v)).take k=g.vs.map fun v=>nrm (tf v):=List.take_of_length_le (by simp;omega)
   rw[hmm]at hz
   exact⟨z,k,⟨rfl,rfl⟩,_,by rw[if_neg oO,hz],by simp;omega,⟨hkk,by rw[List.take_of_length_le (by simp;omega)];simp⟩,(hKK.set oO _).set oO _⟩
theorem cG{P:Program}{N:Nat}{Q:AQ}{c:Code}{fr:Frm}{st:St}(h:0<st.next→AWp P N c Q fr st):AWp P N c Q fr st:=
 fun a w g hi hr hs hd=>h hi.pos a w g hi hr hs hd
def fV(v:Int)(x:Ed):List Int:=(if x.a=v then [2*x.id]else [])++(if x.b=v then [2*x.id+1]else [])
def ends(es:List Ed)(v:Int):List Int:=es.flatMap (fV v)
theorem nZ(f:Ed→List Int)(l:List Ed)(k:Nat)(hk:k<l.length):(l.take (k+1)).flatMap f=(l.take k).flatMap f++f (l.getD k ed0):=by
 rw[List.take_succ_eq_append_getElem hk,List.flatMap_append,List.getD_eq_getElem?_getD,List.getElem?_eq_getElem hk];simp
theorem mL(v:Int)(x:Ed):(fV v x).length≤2:=by
 unfold fV;split<;>split<;>simp
theorem iA(f:Ed→List Int)(hf:∀ x,(f x).length≤2)(l:List Ed):(l.flatMap f).length≤2*l.length:=by
 induction l with
 |nil=>simp
 |cons x l ih=>have:=hf x;simp only[List.flatMap_cons,List.length_append,List.length_cons];omega
def aDd(es:List Ed):Prop:=∀ x∈es,0≤x.id∧x.id≤1048576
theorem aDd.at{es:List Ed}(h:aDd es)(k:Nat)(hk:k<es.length):0≤(es.getD k ed0).id∧(es.getD k ed0).id≤1048576:=by
 rw[List.getD_eq_getElem?_getD,List.getElem?_eq_getElem hk];exact h _ (List.getElem_mem hk)
theorem wrap_u32'(n:Int)(h0:0≤n)(h1:n<4294967296):IntKind.u32.wrap n=n:=by
 rw[wrap_u32];omega
def aIZ(t:Nat)(lo:St)(l:List Int)(st:St):Prop:=t≠0∧lo.next≤t∧t<st.next∧st.H t=.own 34 1 l.length∧aA lo st
theorem dOf(id e:Int)(st:St)(h0:0≤id)(h1:id≤1048576)(he:e=0∨e=1):aB Tryz.prog 32 [u id,i e] st fun r st'=>r=u (2*id+e)∧st'=st:=by
 refine(Of id e st).mono ?_
 rintro r st' ⟨rfl,rfl⟩
 refine⟨?_,rfl⟩
 have h2:id*2 % 4294967296+e % 2=2*id+e:=oO
 rw[h2]
theorem aCY(g:Gr)(v:Int)(st:St)(he:g.es.length≤1000)(hid:aDd g.es):
 aB Tryz.prog 35 [.ag (grL g),u v] st fun r st'=>(∃ t,r=.sl t (ends g.es v).length (us (ends g.es v)))∧aA st st':=by
 obtain⟨vs,l⟩:=g
 simp only at he hid ⊢
 have hel:=aJ l
 have hfl:=fun k=>iA (fV v) (mL v) (l.take k)
 refine qO aF Tryz.func35 rfl rfl Tryz.ntmps35 (rs:=[.tmp 4]) rfl sS ?_
 (repeat' (first|refine qS ?_|refine qB ?_|(refine w_e [] ?_;intro J hJ;simp only[];simp[];refine hJ _ _ (zZ ?_))))
 refine cG fun hpos=>?_
 refine dW 5 34 1 sS ?_
 refine qL (fun n fr st2=>∃ k:Nat,k≤l.length∧n=l.length-k∧fr 1=u v∧fr 9=.sl 0 l.length (eds l)∧fr 10=i l.length∧fr 11=i k∧∃ t,fr 5=.sl t (ends (l.take k) v).length (us (ends (l.take k) v))∧aIZ t st (ends (l.take k) v) st2) l.length ?_ ?_
 ·exact⟨0,oO,oO,sS,sS,sS,sS,st.next+1,by simp[ends],oO,oO,sS,by simp[ends],(aA.new _ _).trans (aA.new _ _)⟩
 rintro n fr st2 ⟨k,hk,rfl,f1,f9,f10,f11,t,f5,ht0,htl,htn,htH,hkp⟩ JJ hJJ
 by_cases hlt:k<l.length
 rotate_left
 ·clear hJJ
  have hk':k=l.length:=oO
  rw[hk',List.take_length]at f5
  (repeat' (first|refine qS ?_|(refine qX (zZ ?_))|(refine qR (zZ ?_);simp[f10,f11,hlt,f5])|(refine qC ?_;simp[f10,f11,hlt,f5])|(refine w_e [] ?_;intro J hJ;simp only[];simp[f10,f11,hlt,f5];refine hJ _ _ (zZ ?_))))
  exact hkp
 have hd:=aW l k hlt
 have hw:=qN k oO
 have hk3:k*3<l.length*3:=oO
 obtain⟨hi0,hi1⟩:=hid.at k hlt
 have hst:ends (l.take (k+1)) v=ends (l.take k) v++fV v (l.getD k ed0):=nZ _ _ _ hlt
 have hle:=hfl k
 rw[List.length_take]at hle
 have hle2:(ends (l.take k) v).length≤2*min k l.length:=hle
 generalize hx:l.getD k ed0=x at *
 obtain⟨id,a,b⟩:=x
 simp only at hi0 hi1 hd
 generalize hF:ends (l.take k) v=F at *
 have w1:IntKind.u32.wrap (2*id)=2*id:=wrap_u32' _ oO oO
 have w2:IntKind.u32.wrap (2*id+1)=2*id+1:=wrap_u32' _ oO oO
 have ht2:¬t=st2.next:=oO
 have ht3:¬st2.next=t:=oO
 have ht4:¬t=st2.next+1:=oO
 have ht5:¬t=st2.next+1+1:=oO
 have ht6:¬t=st2.next+1+1+1:=oO
 have hn2:¬st2.next=st2.next+1+1:=oO
 have hn3:¬st2.next=st2.next+1+1+1:=oO
 have hn4:¬st2.next=st2.next+1+1+1+1:=oO
 have hn5:¬st2.next+1+1=st2.next+1+1+1:=oO
 by_cases ha:a=v
 ·by_cases hb:b=v
  ·have he1:fV v ⟨id,a,b⟩=[2*id,2*id+1]:=by simp[fV,ha,hb]
   rw[he1]at hst
   (repeat' (first|refine qS ?_|refine qB ?_|(refine qK (zZ ?_))|(refine qC ?_;simp[f1,f5,f9,f10,f11,hlt,hd,hw,hel,ha,hb,w1,w2,htH,ht0,ht2,ht3,ht4,hn2,hn3,hn4,hn5,ht5,ht6])|(refine w_e [] ?_;intro J hJ;simp only[];simp[f1,f5,f9,f10,f11,hlt,hd,hw,hel,ha,hb,w1,w2,htH,ht0,ht2,ht3,ht4,hn2,hn3,hn4,hn5,ht5,ht6];(repeat refine ca ?_);refine hJ _ _ (zZ ?_))))
   refine hJJ (l.length-(k+1)) _ _ oO ⟨k+1,oO,rfl,by simp[f1],by simp[f9],by simp[f10],sS,st2.next+1+1+1+1,by rw[hst];simp[f5],oO,by have:=hkp.next;omega,by simp<;>omega,by rw[hst];simp[htH,ht2,ht4,hn2,hn3,hn4,hn5],?_⟩
   (repeat (first|exact hkp|(refine aA.trans ?_ (aA.new _ _))|(refine aA.set ?_ (by have:=hkp.next;first|omega|(simp only[aC,aQ];omega)) _)))
  ·have he1:fV v ⟨id,a,b⟩=[2*id]:=by simp[fV,ha,hb]
   rw[he1]at hst
   (repeat' (first|refine qS ?_|refine qB ?_|(refine qK (zZ ?_))|(refine qC ?_;simp[f1,f5,f9,f10,f11,hlt,hd,hw,hel,ha,hb,w1,w2,htH,ht0,ht2,ht3,ht4,hn2,hn3,hn4,hn5,ht5,ht6])|(refine w_e [] ?_;intro J hJ;simp only[];simp[f1,f5,f9,f10,f11,hlt,hd,hw,hel,ha,hb,w1,w2,htH,ht0,ht2,ht3,ht4,hn2,hn3,hn4,hn5,ht5,ht6];(repeat refine ca ?_);refine hJ _ _ (zZ ?_))))
   refine hJJ (l.length-(k+1)) _ _ oO ⟨k+1,oO,rfl,by simp[f1],by simp[f9],by simp[f10],sS,st2.next+1+1,by rw[hst];simp[f5],oO,by have:=hkp.next;omega,by simp<;>omega,by rw[hst];simp[htH,ht2,ht4,hn2,hn3,hn4,hn5],?_⟩
   (repeat (first|exact hkp|(refine aA.trans ?_ (aA.new _ _))|(refine aA.set ?_ (by have:=hkp.next;first|omega|(simp only[aC,aQ];omega)) _)))
 ·by_cases hb:b=v
  ·have he1:fV v ⟨id,a,b⟩=[2*id+1]:=by simp[fV,ha,hb]
   rw[he1]at hst
   (repeat' (first|refine qS ?_|refine qB ?_|(refine qK (zZ ?_))|(refine qC ?_;simp[f1,f5,f9,f10,f11,hlt,hd,hw,hel,ha,hb,w1,w2,htH,ht0,ht2,ht3,ht4,hn2,hn3,hn4,hn5,ht5,ht6])|(refine w_e [] ?_;intro J hJ;simp only[];simp[f1,f5,f9,f10,f11,hlt,hd,hw,hel,ha,hb,w1,w2,htH,ht0,ht2,ht3,ht4,hn2,hn3,hn4,hn5,ht5,ht6];(repeat refine ca ?_);refine hJ _ _ (zZ ?_))))
   refine hJJ (l.length-(k+1)) _ _ oO ⟨k+1,oO,rfl,by simp[f1],by simp[f9],by simp[f10],sS,st2.next+1+1,by rw[hst];simp[f5],oO,by have:=hkp.next;omega,by simp<;>omega,by rw[hst];simp[htH,ht2,ht4,hn2,hn3,hn4,hn5],?_⟩
   (repeat (first|exact hkp|(refine aA.trans ?_ (aA.new _ _))|(refine aA.set ?_ (by have:=hkp.next;first|omega|(simp only[aC,aQ];omega)) _)))
  ·have he1:fV v ⟨id,a,b⟩=[]:=by simp[fV,ha,hb]
   rw[he1]at hst
   (repeat' (first|refine qS ?_|refine qB ?_|(refine qK (zZ ?_))|(refine qC ?_;simp[f1,f5,f9,f10,f11,hlt,hd,hw,hel,ha,hb,w1,w2,htH,ht0,ht2,ht3,ht4,hn2,hn3,hn4,hn5,ht5,ht6])|(refine w_e [] ?_;intro J hJ;simp only[];simp[f1,f5,f9,f10,f11,hlt,hd,hw,hel,ha,hb,w1,w2,htH,ht0,ht2,ht3,ht4,hn2,hn3,hn4,hn5,ht5,ht6];refine hJ _ _ (zZ ?_))))
   refine hJJ (l.length-(k+1)) _ _ oO ⟨k+1,oO,rfl,by simp[f1],by simp[f9],by simp[f10],sS,t,by rw[hst];simp[f5],oO,by have:=hkp.next;omega,by simp<;>omega,by rw[hst];simp[htH,ht2,ht4,hn2,hn3,hn4,hn5],?_⟩
   (repeat (first|exact hkp|(refine aA.trans ?_ (aA.new _ _))|(refine aA.set ?_ (by have:=hkp.next;first|omega|(simp only[aC,aQ];omega)) _)))
theorem Ends(g:Gr)(v:Int)(st:St)(he:g.es.length≤1000)(hid:aDd g.es):
 aB Tryz.prog 98 [.ag (grL g),u v] st fun r st'=>(∃ t,r=.sl t (ends g.es v).length (us (ends g.es v)))∧aA st st':=by
 obtain⟨vs,l⟩:=g
 simp only at he hid ⊢
 have hel:=aJ l
 have hfl:=fun k=>iA (fV v) (mL v) (l.take k)
 refine qO aF Tryz.func98 rfl rfl Tryz.ntmps98 (rs:=[.tmp 4]) rfl sS ?_
 (repeat' (first|refine qS ?_|refine qB ?_|(refine w_e [] ?_;intro J hJ;simp only[];simp[];refine hJ _ _ (zZ ?_))))
 refine cG fun hpos=>?_
 refine dW 5 34 1 sS ?_
 refine qL (fun n fr st2=>∃ k:Nat,k≤l.length∧n=l.length-k∧fr 1=u v∧fr 9=.sl 0 l.length (eds l)∧fr 10=i l.length∧fr 11=i k∧∃ t,fr 5=.sl t (ends (l.take k) v).length (us (ends (l.take k) v))∧aIZ t st (ends (l.take k) v) st2) l.length ?_ ?_
 ·exact⟨0,oO,oO,sS,sS,sS,sS,st.next+1,by simp[ends],oO,oO,sS,by simp[ends],(aA.new _ _).trans (aA.new _ _)⟩
 rintro n fr st2 ⟨k,hk,rfl,f1,f9,f10,f11,t,f5,ht0,htl,htn,htH,hkp⟩ JJ hJJ
 by_cases hlt:k<l.length
 rotate_left
 ·clear hJJ
  have hk':k=l.length:=oO
  rw[hk',List.take_length]at f5
  (repeat' (first|refine qS ?_|(refine qX (zZ ?_))|(refine qR (zZ ?_);simp[f10,f11,hlt,f5])|(refine qC ?_;simp[f10,f11,hlt,f5])|(refine w_e [] ?_;intro J hJ;simp only[];simp[f10,f11,hlt,f5];refine hJ _ _ (zZ ?_))))
  exact hkp
 have hd:=aW l k hlt
 have hw:=qN k oO
 have hk3:k*3<l.length*3:=oO
 obtain⟨hi0,hi1⟩:=hid.at k hlt
 have hst:ends (l.take (k+1)) v=ends (l.take k) v++fV v (l.getD k ed0):=nZ _ _ _ hlt
 have hle:=hfl k
 rw[List.length_take]at hle
 have hle2:(ends (l.take k) v).length≤2*min k l.length:=hle
 generalize hx:l.getD k ed0=x at *
 obtain⟨id,a,b⟩:=x
 simp only at hi0 hi1 hd
 generalize hF:ends (l.take k) v=F at *
 have w1:IntKind.u32.wrap (2*id)=2*id:=wrap_u32' _ oO oO
 have w2:IntKind.u32.wrap (2*id+1)=2*id+1:=wrap_u32' _ oO oO
 have ht2:¬t=st2.next:=oO
 have ht3:¬st2.next=t:=oO
 have ht4:¬t=st2.next+1:=oO
 have ht5:¬t=st2.next+1+1:=oO
 have ht6:¬t=st2.next+1+1+1:=oO
 have hn2:¬st2.next=st2.next+1+1:=oO
 have hn3:¬st2.next=st2.next+1+1+1:=oO
 have hn4:¬st2.next=st2.next+1+1+1+1:=oO
 have hn5:¬st2.next+1+1=st2.next+1+1+1:=oO
 by_cases ha:a=v
 ·by_cases hb:b=v
  ·have he1:fV v ⟨id,a,b⟩=[2*id,2*id+1]:=by simp[fV,ha,hb]
   rw[he1]at hst
   (repeat' (first|refine qS ?_|refine qB ?_|(refine qK (zZ ?_))|(refine qC ?_;simp[f1,f5,f9,f10,f11,hlt,hd,hw,hel,ha,hb,w1,w2,htH,ht0,ht2,ht3,ht4,hn2,hn3,hn4,hn5,ht5,ht6])|(refine w_e [] ?_;intro J hJ;simp only[];simp[f1,f5,f9,f10,f11,hlt,hd,hw,hel,ha,hb,w1,w2,htH,ht0,ht2,ht3,ht4,hn2,hn3,hn4,hn5,ht5,ht6];(try refine hJ _ _ (zZ ?_)))))
   refine qF (dOf id 0 _ hi0 hi1 (.inl rfl)) ?_;rintro r st' ⟨rfl,rfl⟩
   (repeat' (first|refine qS ?_|(refine qC ?_;simp[f1,f5,f9,f10,f11,hlt,hd,hw,hel,ha,hb,w1,w2,htH,ht0,ht2,ht3,ht4,hn2,hn3,hn4,hn5,ht5,ht6])|((first|(refine w_e [] ?_;intro J hJ;simp only[])|(refine aE ?_));simp[f1,f5,f9,f10,f11,hlt,hd,hw,hel,ha,hb,w1,w2,htH,ht0,ht2,ht3,ht4,hn2,hn3,hn4,hn5,ht5,ht6];(repeat refine ca ?_);(try refine hJ _ _ (zZ ?_)))))
   refine qF (dOf id 1 _ hi0 hi1 (.inr rfl)) ?_;rintro r st' ⟨rfl,rfl⟩
   (repeat' ((first|(refine w_e [] ?_;intro J hJ;simp only[])|(refine aE ?_));simp[f1,f5,f9,f10,f11,hlt,hd,hw,hel,ha,hb,w1,w2,htH,ht0,ht2,ht3,ht4,hn2,hn3,hn4,hn5,ht5,ht6];(repeat refine ca ?_);refine hJ _ _ (zZ ?_)))
   refine hJJ (l.length-(k+1)) _ _ oO ⟨k+1,oO,rfl,by simp[f1],by simp[f9],by simp[f10],sS,st2.next+1+1+1+1,by rw[hst];simp[f5],oO,by have:=hkp.next;omega,by simp<;>omega,by rw[hst];simp[htH,ht2,ht4,hn2,hn3,hn4,hn5],?_⟩
   (repeat (first|exact hkp|(refine aA.trans ?_ (aA.new _ _))|(refine aA.set ?_ (by have:=hkp.next;first|omega|(simp only[aC,aQ];omega)) _)))
  ·have he1:fV v ⟨id,a,b⟩=[2*id]:=by simp[fV,ha,hb]
   rw[he1]at hst
   (repeat' (first|refine qS ?_|refine qB ?_|(refine qK (zZ ?_))|(refine qC ?_;simp[f1,f5,f9,f10,f11,hlt,hd,hw,hel,ha,hb,w1,w2,htH,ht0,ht2,ht3,ht4,hn2,hn3,hn4,hn5,ht5,ht6])|(refine w_e [] ?_;intro J hJ;simp only[];simp[f1,f5,f9,f10,f11,hlt,hd,hw,hel,ha,hb,w1,w2,htH,ht0,ht2,ht3,ht4,hn2,hn3,hn4,hn5,ht5,ht6];(try refine hJ _ _ (zZ ?_)))))
   refine qF (dOf id 0 _ hi0 hi1 (.inl rfl)) ?_;rintro r st' ⟨rfl,rfl⟩
   (repeat' (first|refine qS ?_|(refine qK (zZ ?_))|(refine qC ?_;simp[f1,f5,f9,f10,f11,hlt,hd,hw,hel,ha,hb,w1,w2,htH,ht0,ht2,ht3,ht4,hn2,hn3,hn4,hn5,ht5,ht6])|((first|(refine w_e [] ?_;intro J hJ;simp only[])|(refine aE ?_));simp[f1,f5,f9,f10,f11,hlt,hd,hw,hel,ha,hb,w1,w2,htH,ht0,ht2,ht3,ht4,hn2,hn3,hn4,hn5,ht5,ht6];(repeat refine ca ?_);refine hJ _ _ (zZ ?_))))
   refine hJJ (l.length-(k+1)) _ _ oO ⟨k+1,oO,rfl,by simp[f1],by simp[f9],by simp[f10],sS,st2.next+1+1,by rw[hst];simp[f5],oO,by have:=hkp.next;omega,by simp<;>omega,by rw[hst];simp[htH,ht2,ht4,hn2,hn3,hn4,hn5],?_⟩
   (repeat (first|exact hkp|(refine aA.trans ?_ (aA.new _ _))|(refine aA.set ?_ (by have:=hkp.next;first|omega|(simp only[aC,aQ];omega)) _)))
 ·by_cases hb:b=v
  ·have he1:fV v ⟨id,a,b⟩=[2*id+1]:=by simp[fV,ha,hb]
   rw[he1]at hst
   (repeat' (first|refine qS ?_|refine qB ?_|(refine qK (zZ ?_))|(refine qC ?_;simp[f1,f5,f9,f10,f11,hlt,hd,hw,hel,ha,hb,w1,w2,htH,ht0,ht2,ht3,ht4,hn2,hn3,hn4,hn5,ht5,ht6])|(refine w_e [] ?_;intro J hJ;simp only[];simp[f1,f5,f9,f10,f11,hlt,hd,hw,hel,ha,hb,w1,w2,htH,ht0,ht2,ht3,ht4,hn2,hn3,hn4,hn5,ht5,ht6];(try refine hJ _ _ (zZ ?_)))))
   refine qF (dOf id 1 _ hi0 hi1 (.inr rfl)) ?_;rintro r st' ⟨rfl,rfl⟩
   (repeat' ((first|(refine w_e [] ?_;intro J hJ;simp only[])|(refine aE ?_));simp[f1,f5,f9,f10,f11,hlt,hd,hw,hel,ha,hb,w1,w2,htH,ht0,ht2,ht3,ht4,hn2,hn3,hn4,hn5,ht5,ht6];(repeat refine ca ?_);refine hJ _ _ (zZ ?_)))
   refine hJJ (l.length-(k+1)) _ _ oO ⟨k+1,oO,rfl,by simp[f1],by simp[f9],by simp[f10],sS,st2.next+1+1,by rw[hst];simp[f5],oO,by have:=hkp.next;omega,by simp<;>omega,by rw[hst];simp[htH,ht2,ht4,hn2,hn3,hn4,hn5],?_⟩
   (repeat (first|exact hkp|(refine aA.trans ?_ (aA.new _ _))|(refine aA.set ?_ (by have:=hkp.next;first|omega|(simp only[aC,aQ];omega)) _)))
  ·have he1:fV v ⟨id,a,b⟩=[]:=by simp[fV,ha,hb]
   rw[he1]at hst
   (repeat' (first|refine qS ?_|refine qB ?_|(refine qK (zZ ?_))|(refine qC ?_;simp[f1,f5,f9,f10,f11,hlt,hd,hw,hel,ha,hb,w1,w2,htH,ht0,ht2,ht3,ht4,hn2,hn3,hn4,hn5,ht5,ht6])|(refine w_e [] ?_;intro J hJ;simp only[];simp[f1,f5,f9,f10,f11,hlt,hd,hw,hel,ha,hb,w1,w2,htH,ht0,ht2,ht3,ht4,hn2,hn3,hn4,hn5,ht5,ht6];refine hJ _ _ (zZ ?_))))
   refine hJJ (l.length-(k+1)) _ _ oO ⟨k+1,oO,rfl,by simp[f1],by simp[f9],by simp[f10],sS,t,by rw[hst];simp[f5],oO,by have:=hkp.next;omega,by simp<;>omega,by rw[hst];simp[htH,ht2,ht4,hn2,hn3,hn4,hn5],?_⟩
   (repeat (first|exact hkp|(refine aA.trans ?_ (aA.new _ _))|(refine aA.set ?_ (by have:=hkp.next;first|omega|(simp only[aC,aQ];omega)) _)))
def rQ(v:Int)(x:Ed):List Int:=(if x.a=v then [x.b]else [])++(if x.b=v then [x.a]else [])
def nbr(es:List Ed)(v:Int):List Int:=es.flatMap (rQ v)
theorem aDt(v:Int)(x:Ed):(rQ v x).length≤2:=by
 unfold rQ;split<;>split<;>simp
def aCL(lo m:Nat)(es:List (List Int×LV))(st:St)(f:Int→List Int)(tok:Int→Nat):Prop:=
 ∀ v,(tok v=0→f v=[]∧aY es [v]=none)∧(tok v≠0→aY es [v]=some (.sl (tok v) (f v).length (us (f v)))∧lo≤tok v∧tok v<st.next∧tok v≠m∧st.H (tok v)=.own 34 1 (f v).length∧∀ w,tok w=tok v→w=v)
theorem aCL.step{lo m:Nat}{es:List (List Int×LV)}{st st':St}{f:Int→List Int}{tok:Int→Nat}(h:aCL lo m es st f tok)(a x:Int)(N:Nat)(hN:st.next≤N)(hN':N<st'.next)(hm:m<st.next)(h0:0<st.next)(hlo:lo≤st.next)
 (hH:∀ l,l≠tok a→l≠m→l<st.next→st'.H l=st.H l) (hO:st'.H N=.own 34 1 ((f a).length+1)):
 aCL lo m (aV es [a] (.sl N ((f a).length+1) (us (f a++[x])))) st' (fun v=>if v=a then f a++[x]else f v) (fun v=>if v=a then N else tok v):=by
 intro v
 by_cases hv:v=a
 ·subst hv
  simp only[if_true]
  refine⟨fun h1=>by omega,fun _=>⟨by rw[dA];simp,oO,hN',oO,by rw[hO];simp,fun w hw=>?_⟩⟩
  by_cases hwv:w=v
  ·exact hwv
  ·rw[if_neg hwv]at hw
   by_cases h1:tok w=0
   ·omega
   ·have:=((h w).2 h1).2.2.1;omega
 ·simp only[if_neg hv]
  have hne:¬([v]:List Int)=[a]:=by simpa using hv
  refine⟨fun h1=>⟨((h v).1 h1).1,by rw[dA,if_neg hne];exact((h v).1 h1).2⟩,fun h1=>?_⟩
  obtain⟨k1,k2,k3,k4,k5,k6⟩:=(h v).2 h1
  refine⟨by rw[dA,if_neg hne];exact k1,k2,oO,k4,?_,fun w hw=>?_⟩
  ·rw[hH (tok v) (fun e=>hv (k6 a e.symm).symm) k4 k3];exact k5
  ·by_cases hwa:w=a
   ·subst hwa;simp only[if_true]at hw;omega
   ·rw[if_neg hwa]at hw;exact k6 w hw
def aEb(es:List (List Int×LV))(f:Int→List Int):Prop:=∀ v,∃ t,norm ((aY es [v]).getD .nil)=.sl t (f v).length (us (f v))
def aPl(n0 m:Nat)(st:St)(l:List Ed)(k:Nat)(id a b:Int)(f:Int→List Int)(fr:Frm)(st2:St):Prop:=
 fr 3=.mp (m)∧fr 8=.sl 0 l.length (eds l)∧fr 9=i l.length∧fr 10=i k∧aA st st2∧m<st2.next∧(∃ q,fr 5=.pt q 0∧st2.H q=.box 56 3 [u id,u a,u b]∧q<st2.next)∧∃ es tok,st2.H (m)=.map false [.u32] es∧aCL n0 m es st2 f tok
theorem near(g:Gr)(st:St)(he:g.es.length≤1000):
 aB Tryz.prog 141 [.ag (grL g)] st fun r st'=>∃ m es,r=.mp m∧st.next≤m∧m<st'.next∧st'.H m=.map false [.u32] es∧aA st st'∧aEb es (nbr g.es):=by
 obtain⟨vs,l⟩:=g
 simp only at he ⊢
 have hel:=aJ l
 have hfl:=fun v k=>iA (rQ v) (aDt v) (l.take k)
 refine qO aF Tryz.func141 rfl rfl Tryz.ntmps141 (rs:=[.tmp 2]) rfl sS ?_
 (repeat' (first|refine qS ?_|refine qB ?_|(refine w_e [] ?_;intro J hJ;simp only[];simp[];refine hJ _ _ (zZ ?_))))
 refine cG fun hpos=>?_
 obtain⟨m,hm⟩:∃ m,m=st.next+1:=⟨_,rfl⟩
 refine qL (fun n fr st2=>∃ k:Nat,k≤l.length∧n=l.length-k∧fr 3=.mp m∧fr 8=.sl 0 l.length (eds l)∧fr 9=i l.length∧fr 10=i k∧aA st st2∧m<st2.next∧∃ es tok,st2.H m=.map false [.u32] es∧aCL st.next m es st2 (nbr (l.take k)) tok) l.length ?_ ?_
 ·exact⟨0,oO,oO,by simp[hm],sS,sS,sS,(aA.new _ _).trans (aA.new _ _),by simp[hm],[],fun _=>0,by simp[hm],fun v=>⟨fun _=>⟨by simp[nbr],rfl⟩,fun h=>absurd rfl h⟩⟩
 rintro n fr st2 ⟨k,hk,rfl,f3,f8,f9,f10,hkp,hmn,es,tok,hM,hN⟩ JJ hJJ
 by_cases hlt:k<l.length
 rotate_left
 ·clear hJJ
  have hk':k=l.length:=oO
  rw[hk',List.take_length]at hN
  (repeat' (first|refine qS ?_|(refine qX (zZ ?_))|(refine qR (zZ ?_);simp[f3,f9,f10,hlt])|(refine qC ?_;simp[f3,f9,f10,hlt])|(refine w_e [] ?_;intro J hJ;simp only[];simp[f3,f9,f10,hlt];refine hJ _ _ (zZ ?_))))
  refine⟨oO,hmn,es,hM,hkp,fun v=>?_⟩
  by_cases h0:tok v=0
  ·obtain⟨h1,h2⟩:=(hN v).1 h0
   exact⟨0,by rw[h1,h2];rfl⟩
  ·obtain⟨h1,-⟩:=(hN v).2 h0
   exact⟨tok v,by rw[h1];rfl⟩
 have hd:=aW l k hlt
 have hw:=qN k oO
 have hk3:k*3<l.length*3:=oO
 have hst:∀ v,nbr (l.take (k+1)) v=nbr (l.take k) v++rQ v (l.getD k ed0):=fun v=>nZ _ _ _ hlt
 have hle:∀ v,(nbr (l.take k) v).length≤2*k:=fun v=>by have:=hfl v k;rw[List.length_take]at this;unfold nbr;omega
 generalize hx:l.getD k ed0=x at *
 obtain⟨id,a,b⟩:=x
 simp only at hd
 generalize hF:nbr (l.take k)=f at *
 (repeat' (first|refine qS ?_|refine qB ?_|(refine qK (zZ ?_))|(refine qC ?_;simp[f8,f9,f10,hlt,hd,hel])|(refine w_e [] ?_;intro J hJ;simp only[];simp[f8,f9,f10,hlt,hd,hel];refine hJ _ _ (zZ ?_))))
 have hm2:¬m=st2.next:=oO
 have hm3:¬st2.next=m:=oO
 have hm4:¬m=st2.next+1:=oO
 have hm5:¬m=st2.next+1+1:=oO
 have hn2:¬st2.next=st2.next+1+1:=oO
 refine bU (aPl st.next m st l k id a b (fun v=>if v=a then f a++[b]else f v)) ?_ ?_
 ·clear hJJ
  have hla:=hle a
  by_cases h0:tok a=0
  ·obtain⟨h1,h2⟩:=(hN a).1 h0
   (refine w_s [] [st2.next,m] [(0,true),(1,true),(2,true),(3,true),(4,true),(5,true),(6,true),(7,true),(8,true),(9,true),(10,true),(11,false)] ?_;intro J hJ;simp[f3,hM,h2,hm2,hm3,hm4,hm5,hn2];(repeat refine ca ?_);refine hJ _ _ (zZ ?_))
   refine⟨by trivial,?_⟩
   have e:LV.sl (st2.next+1+1) ((f a).length+1) (us (f a++[b]))=.sl (st2.next+1+1) 1 [u b]:=by rw[h1];rfl
   refine⟨by simp[f3],by simp[f8],by simp[f9],by simp[f10],(by repeat (first|exact hkp|(refine aA.trans ?_ (aA.new _ _))|(refine aA.set ?_ (by have:=hkp.next;omega) _))),by simp;omega,⟨st2.next,sS,by simp[hm3,hn2],by simp;omega⟩,_,fun v=>if v=a then st2.next+1+1 else tok v,by simp;rfl,?_⟩
   rw[← e]
   refine hN.step a b (st2.next+1+1) oO sS hmn oO (by have:=hkp.next;omega) (fun l e1 e2 e3=>?_) (by rw[h1];simp[Ne.symm hm5])
   have a1:¬l=st2.next:=oO
   have a2:¬l=st2.next+1:=oO
   have a3:¬l=st2.next+1+1:=oO
   simp[a1,a2,a3,e1,e2]
  ·obtain⟨h1,h2,h3,h4,h5,h6⟩:=(hN a).2 h0
   have ht1:¬tok a=st2.next:=oO
   have ht2:¬st2.next=tok a:=oO
   have ht3:¬tok a=st2.next+1:=oO
   have ht4:¬m=tok a:=fun h=>h4 h.symm
   (refine w_s [] [st2.next,m] [(0,true),(1,true),(2,true),(3,true),(4,true),(5,true),(6,true),(7,true),(8,true),(9,true),(10,true),(11,false)] ?_;intro J hJ;simp[f3,hM,h1,h5,h0,hm2,hm3,hm4,hm5,hn2,ht1,ht2,ht3,ht4];(repeat refine ca ?_);refine hJ _ _ (zZ ?_))
   refine⟨by trivial,?_⟩
   have e:LV.sl (st2.next+1+1) ((f a).length+1) (us (f a++[b]))=.sl (st2.next+1+1) ((f a).length+1) (us (f a)++[u b]):=sS
   refine⟨by simp[f3],by simp[f8],by simp[f9],by simp[f10],(by repeat (first|exact hkp|(refine aA.trans ?_ (aA.new _ _))|(refine aA.set ?_ (by have:=hkp.next;omega) _))),by simp;omega,⟨st2.next,sS,by simp[hm3,hn2,ht2],by simp;omega⟩,_,fun v=>if v=a then st2.next+1+1 else tok v,by simp;rfl,?_⟩
   rw[← e]
   refine hN.step a b (st2.next+1+1) oO sS hmn oO (by have:=hkp.next;omega) (fun l e1 e2 e3=>?_) (by simp[Ne.symm hm5])
   have a1:¬l=st2.next:=oO
   have a2:¬l=st2.next+1:=oO
   have a3:¬l=st2.next+1+1:=oO
   simp[a1,a2,a3,e1,e2]
 clear f3 f8 f9 f10 hkp hmn hM hN hm2 hm3 hm4 hm5 hn2 tok es st2 fr
 rintro fr st2 ⟨f3,f8,f9,f10,hkp,hmn,⟨q,f5,hq,hqn⟩,es,tok,hM,hN⟩
 generalize hf2:(fun v=>if v=a then f a++[b]else f v)=f2 at *
 have hle2:(f2 b).length≤2*k+1:=by
  rw[← hf2]
  simp only
  split
  ·have:=hle a;simp;omega
  ·have:=hle b;omega
 have hfin:∀ v,nbr (l.take (k+1)) v=(if v=b then f2 b++[a]else f2 v):=by
  intro v
  rw[hst v,← hf2]
  unfold rQ
  simp only
  by_cases hva:v=a
  ·subst hva
   by_cases hvb:v=b
   ·subst hvb;simp
   ·simp[hvb,Ne.symm hvb]
  ·by_cases hvb:v=b
   ·subst hvb;simp[hva,Ne.symm hva]
   ·simp[hva,hvb,Ne.symm hva,Ne.symm hvb]
 have hfin':nbr (l.take (k+1))=fun v=>if v=b then f2 b++[a]else f2 v:=funext hfin
 have hm2:¬m=st2.next:=oO
 have hm5:¬m=st2.next+1:=oO
 have hq2:¬q=st2.next:=oO
 have hqm:¬q=m:=fun h=>by rw[h,hM]at hq;cases hq
 by_cases h0:tok b=0
 ·obtain⟨h1,h2⟩:=(hN b).1 h0
  (refine w_s [] [q,m] [(0,true),(1,true),(2,true),(3,true),(4,true),(5,true),(6,true),(7,true),(8,true),(9,true),(10,true),(11,false)] ?_;intro J hJ;simp[f3,f5,hq,hM,h2,hm2,hm5,hq2,hqm];(repeat refine ca ?_);refine hJ _ _ (zZ ?_))
  (repeat' (refine w_e [] ?_;intro J hJ;simp only[];simp[f10,hw];refine hJ _ _ (zZ ?_)))
  have e:LV.sl (st2.next+1) ((f2 b).length+1) (us (f2 b++[a]))=.sl (st2.next+1) 1 [u a]:=by rw[h1];rfl
  refine hJJ (l.length-(k+1)) _ _ oO ⟨k+1,oO,rfl,by simp[f3],by simp[f8],by simp[f9],sS,(by repeat (first|exact hkp|(refine aA.trans ?_ (aA.new _ _))|(refine aA.set ?_ (by have:=hkp.next;omega) _))),by simp;omega,_,fun v=>if v=b then st2.next+1 else tok v,by simp;rfl,?_⟩
  rw[← e,hfin']
  refine hN.step b a (st2.next+1) oO sS hmn oO (by have:=hkp.next;omega) (fun l e1 e2 e3=>?_) (by rw[h1];simp[Ne.symm hm5])
  have a1:¬l=st2.next:=oO
  have a2:¬l=st2.next+1:=oO
  simp[a1,a2,e1,e2]
 ·obtain⟨h1,h2,h3,h4,h5,h6⟩:=(hN b).2 h0
  have ht1:¬tok b=st2.next:=oO
  have ht2:¬st2.next=tok b:=oO
  have ht4:¬m=tok b:=fun h=>h4 h.symm
  have ht5:¬q=tok b:=fun h=>by rw[h,h5]at hq;cases hq
  (refine w_s [] [q,m] [(0,true),(1,true),(2,true),(3,true),(4,true),(5,true),(6,true),(7,true),(8,true),(9,true),(10,true),(11,false)] ?_;intro J hJ;simp[f3,f5,hq,hM,h1,h5,h0,hm2,hm5,hq2,hqm,ht1,ht2,ht4,ht5];(repeat refine ca ?_);refine hJ _ _ (zZ ?_))
  (repeat' (refine w_e [] ?_;intro J hJ;simp only[];simp[f10,hw];refine hJ _ _ (zZ ?_)))
  have e:LV.sl (st2.next+1) ((f2 b).length+1) (us (f2 b++[a]))=.sl (st2.next+1) ((f2 b).length+1) (us (f2 b)++[u a]):=sS
  refine hJJ (l.length-(k+1)) _ _ oO ⟨k+1,oO,rfl,by simp[f3],by simp[f8],by simp[f9],sS,(by repeat (first|exact hkp|(refine aA.trans ?_ (aA.new _ _))|(refine aA.set ?_ (by have:=hkp.next;omega) _))),by simp;omega,_,fun v=>if v=b then st2.next+1 else tok v,by simp;rfl,?_⟩
  rw[← e,hfin']
  refine hN.step b a (st2.next+1) oO sS hmn oO (by have:=hkp.next;omega) (fun l e1 e2 e3=>?_) (by simp[Ne.symm hm5])
  have a1:¬l=st2.next:=oO
  have a2:¬l=st2.next+1:=oO
  simp[a1,a2,e1,e2]
theorem aEb.cases{es:List (List Int×LV)}{f:Int→List Int}(h:aEb es f)(v:Int):((aY es [v]).getD .nil=.nil∧f v=[])∨∃ t,(aY es [v]).getD .nil=.sl t (f v).length (us (f v)):=by
 obtain⟨t,ht⟩:=h v
 cases hx:(aY es [v]).getD .nil with
 |nil=>
  rw[hx]at ht
  left
  refine⟨rfl,?_⟩
  simp only[norm,LV.sl.injEq]at ht
  exact List.eq_nil_of_length_eq_zero ht.2.1.symm
 |_=>rw[hx]at ht;simp[norm]at ht<;>exact .inr ⟨t,by simp[ht]⟩
def alone(g:Gr):Nat:=g.vs.countP fun v=>decide (nbr g.es v=[])
theorem vX(p:Int→Bool)(l:List Int)(k:Nat)(hk:k<l.length):(l.take (k+1)).countP p=(l.take k).countP p+(if p (l.getD k 0)=true then 1 else 0):=by
 rw[List.take_succ_eq_append_getElem hk,List.countP_append,aI _ _ hk]
 simp[List.countP_cons]
theorem aPV(g:Gr)(st:St)(hv:g.vs.length≤1000)(he:g.es.length≤1000):
 aB Tryz.prog 101 [.ag (grL g)] st fun r st'=>r=i (alone g)∧aA st st':=by
 obtain⟨p,hp⟩:∃ p:Int→Bool,p=fun v=>decide (nbr g.es v=[]):=⟨_,rfl⟩
 have hal:alone g=g.vs.countP p:=by rw[hp];rfl
 refine qO aF Tryz.func101 rfl rfl Tryz.ntmps101 (rs:=[.tmp 2]) rfl sS ?_
 (repeat' (first|refine qS ?_|(refine w_e [] ?_;intro J hJ;simp only[];simp[];(try refine hJ _ _ (zZ ?_)))))
 refine qE (near g _ he) sS ?_;rintro r s1 ⟨m,es,rfl,hm1,hm2,hM,hk1,hR⟩
 have hG1:s1.H st.next=.box 25 2 (grL g):=by rw[hk1.H _ sS];simp
 (repeat' (first|refine qS ?_|refine qB ?_|((first|(refine w_e [] ?_;intro J hJ;simp only[])|(refine aE ?_));simp[hG1];refine hJ _ _ (zZ ?_))))
 refine qL (fun n fr st2=>∃ k:Nat,k≤g.vs.length∧n=g.vs.length-k∧fr 4=.mp m∧fr 10=.sl 0 g.vs.length (us g.vs)∧fr 11=i g.vs.length∧fr 12=i k∧fr 3=i ((g.vs.take k).countP p)∧st2=s1) g.vs.length ?_ ?_
 ·exact⟨0,oO,oO,sS,sS,sS,sS,sS,rfl⟩
 rintro n fr st2 ⟨k,hk,rfl,f4,f10,f11,f12,f3,rfl⟩ JJ hJJ
 by_cases hlt:k<g.vs.length
 rotate_left
 ·clear hJJ
  have hk':k=g.vs.length:=oO
  rw[hk',List.take_length]at f3
  (repeat' (first|refine qS ?_|(refine qX (zZ ?_))|(refine qR (zZ ?_);simp[f3,f11,f12,hlt])|(refine qC ?_;simp[f3,f11,f12,hlt])|(refine w_e [] ?_;intro J hJ;simp only[];simp[f3,f11,f12,hlt];refine hJ _ _ (zZ ?_))))
  exact⟨by rw[hal],(aA.new _ _).trans hk1⟩
 have hd:=qG g.vs k hlt
 have hw:=qN k oO
 have hct:=vX p g.vs k hlt
 have hcl:(g.vs.take k).countP p≤k:=by have:=List.countP_le_length (p:=p) (l:=g.vs.take k);rw[List.length_take]at this;omega
 generalize hx:g.vs.getD k 0=x at *
 generalize (g.vs.take k).countP p=z at *
 have hz:=qN z oO
 rcases hR.cases x with⟨h1,h2⟩|⟨t,h1⟩
 ·have hpx:p x=true:=by rw[hp];simp[h2]
  rw[hpx]at hct
  (repeat' (first|refine qS ?_|refine qB ?_|(refine qK (zZ ?_))|(refine qC ?_;simp[f3,f4,f10,f11,f12,hlt,hd,hw,hM,h1,hz])|(refine w_e [] ?_;intro J hJ;simp only[];simp[f3,f4,f10,f11,f12,hlt,hd,hw,hM,h1,hz];refine hJ _ _ (zZ ?_))))
  refine hJJ (g.vs.length-(k+1)) _ _ oO ⟨k+1,oO,rfl,by simp[f4],by simp[f10],by simp[f11],sS,by rw[hct];simp,rfl⟩
 ·by_cases h2:nbr g.es x=[]
  ·have hpx:p x=true:=by rw[hp];simp[h2]
   rw[hpx]at hct
   rw[h2]at h1
   (repeat' (first|refine qS ?_|refine qB ?_|(refine qK (zZ ?_))|(refine qC ?_;simp[f3,f4,f10,f11,f12,hlt,hd,hw,hM,h1,hz])|(refine w_e [] ?_;intro J hJ;simp only[];simp[f3,f4,f10,f11,f12,hlt,hd,hw,hM,h1,hz];refine hJ _ _ (zZ ?_))))
   refine hJJ (g.vs.length-(k+1)) _ _ oO ⟨k+1,oO,rfl,by simp[f4],by simp[f10],by simp[f11],sS,by rw[hct];simp,rfl⟩
  ·have hpx:p x=false:=by rw[hp];simp[h2]
   rw[hpx]at hct
   have h3:¬(nbr g.es x).length=0:=fun h=>h2 (List.eq_nil_of_length_eq_zero h)
   generalize nbr g.es x=y at *
   (repeat' (first|refine qS ?_|refine qB ?_|(refine qK (zZ ?_))|(refine qC ?_;simp[f3,f4,f10,f11,f12,hlt,hd,hw,hM,h1,hz,h2,h3])|(refine w_e [] ?_;intro J hJ;simp only[];simp[f3,f4,f10,f11,f12,hlt,hd,hw,hM,h1,hz,h2,h3];refine hJ _ _ (zZ ?_))))
   refine hJJ (g.vs.length-(k+1)) _ _ oO ⟨k+1,oO,rfl,by simp[f4],by simp[f10],by simp[f11],sS,by rw[hct];simp[f3],rfl⟩
inductive Reach(es:List Ed)(v:Int):Int→Prop
 |refl:Reach es v v
 |step {u w:Int} (h:Reach es v u) (hw:w∈nbr es u):Reach es v w
theorem dX{es:List Ed}{u w:Int}:w∈nbr es u↔∃ x∈es,(x.a=u∧x.b=w)∨(x.b=u∧x.a=w):=by
 unfold nbr rQ
 simp only[List.mem_flatMap,List.mem_append]
 constructor
 ·rintro⟨x,hx,h|h⟩
  ·refine⟨x,hx,.inl ?_⟩
   split at h
   ·rename_i h1;simp at h;exact⟨h1,h.symm⟩
   ·cases h
  ·refine⟨x,hx,.inr ?_⟩
   split at h
   ·rename_i h1;simp at h;exact⟨h1,h.symm⟩
   ·cases h
 ·rintro⟨x,hx,⟨h1,h2⟩|⟨h1,h2⟩⟩
  ·exact⟨x,hx,.inl (by simp[h1,h2])⟩
  ·exact⟨x,hx,.inr (by simp[h1,h2])⟩
theorem pY{es:List Ed}{u w:Int}(h:w∈nbr es u):u∈nbr es w:=by
 rw[dX]at h ⊢
 obtain⟨x,hx,⟨h1,h2⟩|⟨h1,h2⟩⟩:=h
 ·exact⟨x,hx,.inr ⟨h2,h1⟩⟩
 ·exact⟨x,hx,.inl ⟨h2,h1⟩⟩
theorem Reach.trans{es:List Ed}{u v w:Int}(h:Reach es u v)(k:Reach es v w):Reach es u w:=by
 induction k with
 |refl=>exact h
 |step _ hw ih=>exact .step ih hw
theorem Reach.symm{es:List Ed}{u v:Int}(h:Reach es u v):Reach es v u:=by
 induction h with
 |refl=>exact .refl
 |step _ hw ih=>exact Reach.trans (.step .refl (pY hw)) ih
theorem Reach.closed{es:List Ed}{v w:Int}{L:Int→Prop}(h:Reach es v w)(hv:L v)(hc:∀ u,L u→∀ w∈nbr es u,L w):L w:=by
 induction h with
 |refl=>exact hv
 |step _ hw ih=>exact hc _ ih _ hw
structure Good(g:Gr):Prop where
 rise:g.vs.Pairwise (· < ·)
 ends:∀ x∈g.es,x.a∈g.vs∧x.b∈g.vs
theorem Good.nbr{g:Gr}(h:Good g){u w:Int}(hw:w∈nbr g.es u):w∈g.vs:=by
 rw[dX]at hw
 obtain⟨x,hx,⟨_,rfl⟩|⟨_,rfl⟩⟩:=hw
 ·exact(h.ends x hx).2
 ·exact(h.ends x hx).1
theorem Good.reach{g:Gr}(h:Good g){v w:Int}(hv:v∈g.vs)(hr:Reach g.es v w):w∈g.vs:=by
 cases hr with
 |refl=>exact hv
 |step _ hw=>exact h.nbr hw
theorem Good.nodup{g:Gr}(h:Good g):g.vs.Nodup:=h.rise.imp fun h=>by omega
def nY(g:Gr)(v:Int)(c:List Int):Prop:=c.Pairwise (· < ·)∧∀ w,w∈c↔w∈g.vs∧Reach g.es v w
theorem aLC{g:Gr}(h:Good g){v:Int}(hv:v∈g.vs){L c:List Int}(hn:L.Nodup)(hL:∀ w,w∈L↔Reach g.es v w)(hp:c.Perm L)(hs:c.Pairwise (·≤·)):nY g v c:=by
 have hcn:c.Nodup:=hp.nodup_iff.2 hn
 refine⟨?_,fun w=>?_⟩
 ·refine(List.Pairwise.and hs hcn).imp ?_
  rintro a b ⟨h1,h2⟩
  have:a≠b:=h2
  omega
 ·rw[hp.mem_iff,hL]
  exact⟨fun hr=>⟨h.reach hv hr,hr⟩,fun hr=>hr.2⟩
def Seen(g:Gr)(k:Nat)(w:Int):Prop:=∃ u∈g.vs.take k,Reach g.es u w
theorem uI{l:List Int}(h:l.Pairwise (· < ·)){k:Nat}(hk:k<l.length){u:Int}:u∈l.take k↔u∈l∧u<l.getD k 0:=by
 rw[aI _ _ hk]
 constructor
 ·intro hu
  obtain⟨j,hj,rfl⟩:=List.getElem_of_mem hu
  rw[List.length_take]at hj
  rw[List.getElem_take]
  exact⟨List.getElem_mem _,List.pairwise_iff_getElem.1 h j k oO hk oO⟩
 ·rintro⟨hu,hlt⟩
  obtain⟨j,hj,rfl⟩:=List.getElem_of_mem hu
  have hjk:j<k:=by
   rcases Nat.lt_trichotomy j k with h1|h1|h1
   ·exact h1
   ·subst h1;omega
   ·have:=List.pairwise_iff_getElem.1 h k j hk hj h1;omega
  rw[List.mem_take_iff_getElem]
  exact⟨j,oO,rfl⟩
theorem Seen.reach{g:Gr}{k:Nat}{u w:Int}(h:Seen g k u)(hr:Reach g.es u w):Seen g k w:=by
 obtain⟨x,hx,hy⟩:=h
 exact⟨x,hx,hy.trans hr⟩
theorem zK{g:Gr}{k:Nat}(hk:k<g.vs.length){w:Int}:Seen g (k+1) w↔Seen g k w∨Reach g.es (g.vs.getD k 0) w:=by
 unfold Seen
 rw[List.take_succ_eq_append_getElem hk,aI _ _ hk]
 constructor
 ·rintro⟨u,hu,hr⟩
  rw[List.mem_append,List.mem_singleton]at hu
  rcases hu with hu|rfl
  ·exact .inl ⟨u,hu,hr⟩
  ·exact .inr hr
 ·rintro(⟨u,hu,hr⟩|hr)
  ·exact⟨u,List.mem_append_left _ hu,hr⟩
  ·exact⟨_,List.mem_append_right _ (List.mem_singleton.2 rfl),hr⟩
theorem aHN{g:Gr}{k:Nat}(hk:k<g.vs.length)(hs:Seen g k (g.vs.getD k 0)){w:Int}:Seen g (k+1) w↔Seen g k w:=by
 rw[zK hk]
 exact⟨fun h=>h.elim id hs.reach,.inl⟩
inductive cH(g:Gr):Nat→List (List Int)→Prop
 |zero:cH g 0 []
 |seen {k:Nat} {R:List (List Int)} (h:cH g k R) (hk:k<g.vs.length) (hs:Seen g k (g.vs.getD k 0)):cH g (k+1) R
 |lead {k:Nat} {R:List (List Int)} {c:List Int} (h:cH g k R) (hk:k<g.vs.length) (hs:¬Seen g k (g.vs.getD k 0)) (hc:nY g (g.vs.getD k 0) c):cH g (k+1) (R++[c])
theorem cH.len{g:Gr}{k:Nat}{R:List (List Int)}(h:cH g k R):R.length≤k:=by
 induction h with
 |zero=>simp
 |seen _ _ _ ih=>omega
 |lead _ _ _ _ ih=>simp;omega
structure aAX(g:Gr)(n:Nat)(v:Int)(L:List Int)(k:Nat):Prop where
 nodup:L.Nodup
 reach:∀ w∈L,Reach g.es v w
 mem:v∈L
 done:∀ u∈L.take k,∀ w∈nbr g.es u,w∈L
theorem aAX.all{g:Gr}{n:Nat}{v:Int}{L:List Int}(h:aAX g n v L L.length):∀ w,w∈L↔Reach g.es v w:=by
 intro w
 refine⟨h.reach w,fun hr=>?_⟩
 exact hr.closed (L:=fun w=>w∈L) h.mem fun u hu w hw=>h.done u (by rw[List.take_length];exact hu) w hw
theorem aAX.sub{g:Gr}(hg:Good g){n:Nat}{v:Int}{L:List Int}{k:Nat}(h:aAX g n v L k)(hv:v∈g.vs):L.length≤g.vs.length:=by
 exact List.Nodup.length_le_of_subset h.nodup fun w hw=>hg.reach hv (h.reach w hw)
end Go.Proofs.YtempldclppogmaaGreatDoor.Aw
