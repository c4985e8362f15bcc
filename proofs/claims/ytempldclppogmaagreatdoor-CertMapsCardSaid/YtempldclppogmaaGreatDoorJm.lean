/- Maps, the document's: Face. -/
import Derived.Test.YtempldclppogmaaGreatDoorJl
import Derived.Test.YtempldclppogmaaGreatDoorAwRg
import Derived.Test.YtempldclppogmaaGreatDoorAwShp
set_option linter.unusedVariables false
set_option linter.unusedSimpArgs false
namespace Go.Proofs.YtempldclppogmaaGreatDoor.Aw
open Go Go.RowKit Go.Proofs.YtempldclppogmaaGreatDoor.Pl Go.Proofs.YtempldclppogmaaGreatDoor.Eu
def aPc(m:Mp)(d:Int)(c:List Int):Prop:=(d∈aU m.g.es∧∃ L,fP (fc m m.g.es) d L∧c=nrm L)∨(d∉aU m.g.es∧c=[])
def aPR(m:Mp)(d:Int)(st:St)(r:LV)(st':St):Prop:=(∃ c,r=.sl 0 c.length (us c)∧aPc m d c)∧aA st st'
theorem aKD(m:Mp)(h:bY m)(d:Int)(st:St)(hv:m.g.vs.length≤1000)(he:m.g.es.length≤1000):
 aB Tryz.prog 127 [.ag (mpL m),u d] st (aPR m d st):=by
 have hsm:∀ t∈m.rots,small t:=fun t ht=>by have:=h.row_le ht;unfold small;omega
 have hrl:=h.len
 refine tG ?_
 by_cases hd:d∈aU m.g.es
 rotate_left
 ·have ht:=aKY (rs:=m.rots) fun t ht hdt=>hd (h.turn_dart ht hdt)
  refine qO aF Tryz.func127 rfl rfl Tryz.ntmps127 (rs:=[.tmp 4]) rfl sS ?_
  (repeat' (first|refine qS ?_|(refine w_e [] ?_;intro J hJ;simp only[];simp[];(try refine hJ _ _ (zZ ?_)))))
  refine qE (xJ m d _ oO hsm) sS ?_;rintro r s1 ⟨rfl,hk1⟩
  (repeat' (first|refine qS ?_|(refine qR (zZ ?_);simp[ht])|(refine qC ?_;simp[ht])|((first|(refine w_e [] ?_;intro J hJ;simp only[])|(refine aE ?_));simp[ht];refine hJ _ _ (zZ ?_))))
  exact⟨⟨[],rfl,.inr ⟨hd,rfl⟩⟩,(aA.new _ _).trans hk1⟩
 have hP:=h.fc_per m.g.es (fun x hx=>hx)
 obtain⟨L,p,hp,hL,hp1,hp2⟩:=aDs hP d
 have hcyc:fP (fc m m.g.es) d L:=⟨p,hp,hL,hp1,hp2⟩
 have hL':L=itL (fc m m.g.es) d p:=hL
 have hdk:∀ k,it (fc m m.g.es) k d∈aU m.g.es:=by
  intro k
  induction k with
  |zero=>exact hd
  |succ k ih=>rw[dZ];exact h.fc_dart _ _ ih
 have hpl:p≤2*m.g.es.length:=by
  have:=(h.cyc_le hd hcyc).2
  rwa [hL',pM]at this
 obtain⟨k0,hk0,ht0,_⟩:=aKi (h.turn_of hd)
 have hfx:∀ x,x∈aU m.g.es→fc m m.g.es x=sg m (tw x):=fun x hx=>by unfold fc;rw[qI hx]
 refine qO aF Tryz.func127 rfl rfl Tryz.ntmps127 (rs:=[.tmp 4]) rfl sS ?_
 (repeat' (first|refine qS ?_|(refine w_e [] ?_;intro J hJ;simp only[];simp[];(try refine hJ _ _ (zZ ?_)))))
 refine qE (xJ m d _ oO hsm) sS ?_;rintro r s1 ⟨rfl,hk1⟩
 have hn1:=hk1.next
 simp only[aC]at hn1
 have hG1:s1.H st.next=.box 39 3 (mpL m):=by rw[hk1.H _ sS];simp
 (repeat' (first|refine qS ?_|refine qB ?_|(refine qK (zZ ?_))|(refine qC ?_;simp[ht0];(try with_reducible refine⟨?_,?_⟩)<;>(try with_reducible intro hc)<;>try (exfalso;omega))|((first|(refine w_e [] ?_;intro J hJ;simp only[])|(refine aE ?_));simp[ht0];refine hJ _ _ (zZ ?_))))
 refine cG fun hpos=>?_
 refine dW 5 34 1 sS ?_
 generalize hf:fc m m.g.es=f at *
 refine qL (fun n fr st2=>∃ k:Nat,k<p∧n=p-k∧fr 1=u d∧fr 2=.pt st.next 0∧fr 6=u (it f k d)∧st2.H st.next=.box 39 3 (mpL m)∧∃ t,fr 5=.sl t k (us (itL f d k))∧(t≠0∧st.next<t∧t<st2.next)∧st2.H t=.own 34 1 k∧aA st st2) p ?_ ?_
 ·exact⟨0,oO,oO,sS,sS,by simp[it],by simp[show ¬st.next=s1.next by omega,hG1],s1.next,by simp[itL],⟨oO,oO,sS⟩,sS,((aA.new _ _).trans hk1).trans (aA.new _ _)⟩
 rintro n fr st2 ⟨k,hk,rfl,f1,f2,f6,hG,t,f5,⟨t0,t1,t2⟩,htH,hkp⟩ JJ hJJ
 have hn2:=hkp.next
 have hxd:=hdk k
 have hx1:=wJ h hxd
 obtain⟨kt,hkt,htx,hmem⟩:=aKi (h.turn_of (aBw.2 hxd))
 have hdr:=eE m.rots kt hkt
 have hRl:kt<(cS m.rots).length:=by simpa using hkt
 have htin:m.rots.getD kt []∈m.rots:=by rw[cI _ _ hkt];exact List.getElem_mem _
 have hsmt:=hsm _ htin
 have hnx:nx (m.rots.getD kt []) (tw (it f k d))=it f (k+1) d:=by rw[dZ,hfx _ hxd,zJ h htin hmem]
 have hLn:=aCp f d k
 have hLl:=pM f d k
 have hstop:it f (k+1) d=d→k+1=p:=fun e=>by
  rcases Nat.lt_or_ge (k+1) p with h1|h1
  ·exact absurd e (hp2 _ oO h1)
  ·omega
 have hgo:¬it f (k+1) d=d→k+1<p:=fun e=>by
  rcases Nat.lt_or_ge (k+1) p with h1|h1
  ·exact h1
  ·exact absurd (by rw[show k+1=p by omega];exact hp1) e
 generalize itL f d k=Lk at *
 generalize m.rots.getD kt []=tt at *
 generalize hxe:it f k d=x at *
 generalize hye:it f (k+1) d=y at *
 have m1:¬t=st2.next:=oO
 have m2:¬st.next=st2.next:=oO
 have m3:¬st.next=st2.next+1:=oO
 have m4:¬st.next=t:=oO
 (repeat' (first|refine qS ?_|refine qB ?_|(refine w_e [] ?_;intro J hJ;simp only[];simp[f1,f2,f5,f6,htH,t0,m1,hLl];(repeat refine ca ?_);(try refine hJ _ _ (zZ ?_)))))
 refine qE (aKM x _ oO oO) sS ?_;rintro r s3 ⟨rfl,rfl⟩
 (repeat' (first|refine qS ?_|(refine aE ?_;simp[];refine hJ _ _ (zZ ?_))))
 (refine w_s [] [st.next] [(0,true),(1,true),(2,true),(3,true),(7,true),(4,true),(5,true),(6,true),(8,true),(9,true)] ?_;intro J hJ;simp[f2,hG,m2,m3,m4])
 refine qD (xJ m (tw x) _ oO hsm) sS ?_;rintro r s4 ⟨rfl,hk4⟩
 have hn4:=hk4.next
 have hG4:=hk4.H st.next (by simp;omega)
 simp[m2,m3,m4,hG]at hG4
 refine⟨fun _=>by simp[m2,m3,m4,hG,hG4],?_⟩
 rw[htx]
 (refine bE ?_;simp[f2,hG4,hdr,hkt,hRl,m2,m3,m4,hG])
 refine qD (aKm tt 0 (tw x) _ hsmt) rfl ?_;rintro r s5 ⟨rfl,rfl⟩
 rw[hnx]
 refine⟨fun _=>by simp[m2,m3,m4,hG,hG4],?_⟩
 (refine bE ?_;simp[hG4,m2,m3,m4,hG];refine hJ _ _ (zZ ?_))
 have hkp4:aA st s5:=(((hkp.trans (aA.new _ _)).set oO _).trans (aA.new _ _)).trans hk4
 have htH4:=hk4.H (st2.next+1) sS
 simp at htH4 hn4
 by_cases hyd:y=d
 ·have hkp1:=hstop hyd
  (repeat' (first|refine qS ?_|(refine qC ?_;simp[hyd,f1])|(refine w_e [] ?_;intro J hJ;simp only[];simp[hyd,f1];(try refine hJ _ _ (zZ ?_)))))
  refine qE (wH L (st2.next+1) _ (by rw[hL',small,pM];omega)) ?_ ?_
  ·rw[hL',← hkp1,hLn]
   simp[hLl]
  rintro r s6 ⟨rfl,hk6⟩
  (repeat' (first|(refine qR (zZ ?_);simp[])|(refine aE ?_;simp[];refine hJ _ _ (zZ ?_))))
  exact⟨⟨nrm L,by rw[bX],.inl ⟨hd,L,by rw[hf];exact hcyc,rfl⟩⟩,hkp4.trans hk6⟩
 ·have hkp1:=hgo hyd
  (repeat' (first|refine qS ?_|(refine qK (zZ ?_))|(refine qC ?_;simp[hyd,f1])|(refine w_e [] ?_;intro J hJ;simp only[];simp[hyd,f1];refine hJ _ _ (zZ ?_))))
  refine hJJ (p-(k+1)) _ _ oO ⟨k+1,hkp1,rfl,by simp[f1],by simp[f2],by simp[hye],hG4,st2.next+1,by simp[hLn],⟨oO,oO,oO⟩,htH4,hkp4⟩
def aKB(m:Mp)(st:St)(r:LV)(st':St):Prop:=(∃ t R,r=.sl t R.length (nX R)∧mE (fc m m.g.es) (aU m.g.es) (aU m.g.es).length R)∧aA st st'
structure FcI(m:Mp)(q4 q5 ms ma:Nat)(es4:List (List Int×LV))(st:St)(K:Nat)(fr:Frm)(st2:St):Prop where
 f5:fr 5=.pt q5 0
 f6:fr 6=.fn (.func 143) [.pt q5 0,.pt q4 0]
 h5:st2.H q5=.box 49 1 [.mp ms]
 h4:st2.H q4=.box 60 1 [.mp ma]
 ha:st2.H ma=.map false [.u32] es4
 hs:∃ es,st2.H ms=.map false [.u32] es∧lN es (kI (fc m m.g.es) (aU m.g.es) K)
 kp:aA st st2
 lt:(q5<st2.next∧q4<st2.next)∧ms<st2.next∧ma<st2.next
 lo:(st.next≤q5∧st.next≤q4)∧st.next≤ms∧st.next≤ma
 rows:∃ t R,fr 3=.sl t R.length (nX R)∧mE (fc m m.g.es) (aU m.g.es) K R∧(t≠0∧st.next≤t∧t<st2.next)∧st2.H t=.own 22 1 R.length
theorem FcI.fr{m:Mp}{q4 q5 ms ma:Nat}{es4:List (List Int×LV)}{st:St}{K:Nat}{fr fr':Frm}{st2 st3:St}(h:FcI m q4 q5 ms ma es4 st K fr st2)(h3:fr' 3=fr 3)(h5:fr' 5=fr 5)(h6:fr' 6=fr 6)(hk:aA st2 st3):FcI m q4 q5 ms ma es4 st K fr' st3:=by
 obtain⟨f5,f6,a5,a4,aa,⟨es,as1,as2⟩,kp,⟨⟨l1,l2⟩,l3,l4⟩,lo,t,R,f3,hL,⟨t0,t1,t2⟩,hH⟩:=h
 have:=hk.next
 exact⟨h5.trans f5,h6.trans f6,(hk.H _ l1).trans a5,(hk.H _ l2).trans a4,(hk.H _ l4).trans aa,⟨es,(hk.H _ l3).trans as1,as2⟩,kp.trans hk,⟨⟨oO,oO⟩,oO,oO⟩,lo,t,R,h3.trans f3,hL,⟨t0,t1,oO⟩,(hk.H _ t2).trans hH⟩
theorem aPx(m:Mp)(h:bY m)(st:St)(hv:m.g.vs.length≤1000)(he:m.g.es.length≤1000):
 aB Tryz.prog 102 [.ag (mpL m)] st (aKB m st):=by
 have hel:=aJ m.g.es
 have hdl:=fD m.g.es
 have hP:=h.fc_per m.g.es (fun x hx=>hx)
 refine qO aF Tryz.func102 rfl rfl Tryz.ntmps102 (rs:=[.tmp 2]) rfl sS ?_
 (repeat' (first|refine qS ?_|(refine w_e [] ?_;intro J hJ;simp only[];simp[];(try refine hJ _ _ (zZ ?_)))))
 refine qE (behind m h _ hv he) sS ?_;rintro r s1 ⟨ma,es4,rfl,hm1,hm2,hMa,hk1,hB⟩
 have hn1:=hk1.next
 simp only[aC]at hn1 hm1
 have hG1:s1.H st.next=.box 39 3 (mpL m):=by rw[hk1.H _ sS];simp
 have a1:¬st.next=s1.next:=oO
 have a2:¬st.next=s1.next+1:=oO
 have a3:¬st.next=s1.next+1+1:=oO
 have a4:¬ma=s1.next:=oO
 have a5:¬ma=s1.next+1:=oO
 have a6:¬ma=s1.next+1+1:=oO
 have a7:¬ma=s1.next+1+1+1:=oO
 (repeat' (first|refine qS ?_|refine qB ?_|((first|(refine w_e [] ?_;intro J hJ;simp only[])|(refine aE ?_));simp[hG1,a1,a2,a3];refine hJ _ _ (zZ ?_))))
 refine cG fun hpos=>?_
 refine dW 3 22 1 sS ?_
 refine aM 19 18 20 42 (m.g.es.length) (fun j fr st2=>fr 17=.sl 0 m.g.es.length (eds m.g.es)∧FcI m s1.next (s1.next+1+1) (s1.next+1) ma es4 st (2*j) fr st2) ?_ ?_ ?_
 ·refine⟨sS,sS,sS,sS,sS,by simp[a4,a5,a6,a7,hMa],⟨[],sS,fun v=>⟨?_,fun _=>rfl⟩⟩,?_,by simp;omega,oO,s1.next+1+1+1,[],sS,.zero,⟨oO,oO,sS⟩,sS⟩
  ·rintro⟨y,hy,_⟩;simp at hy
  ·(repeat (first|exact aA.refl _|exact(aA.new _ _).trans hk1|(refine aA.trans ?_ (aA.new _ _))|(refine aA.set ?_ oO _)))
 ·rintro j0 fr st2' hlt ⟨f17,hI⟩ fi fn JJ hJJ
  have hd:=aW m.g.es j0 hlt
  have hk3:j0*3<m.g.es.length*3:=oO
  have hxin:m.g.es.getD j0 ed0∈m.g.es:=by rw[bZ _ _ hlt];exact List.getElem_mem _
  have hpos:=h.g.pos _ hxin
  have hg:=aAt m.g.es j0 hlt
  generalize hx:m.g.es.getD j0 ed0=x at *
  obtain⟨id,a,b⟩:=x
  simp only at hpos hd hg
  (repeat' (first|refine qS ?_|refine qB ?_|(refine w_e [] ?_;intro J hJ;simp only[];simp[fi,fn,f17,hd,hel,hk3];(repeat refine ca ?_);refine hJ _ _ (zZ ?_))))
  refine aDW 23 24 41 2 (fun j fr st2=>fr 17=.sl 0 m.g.es.length (eds m.g.es)∧fr 19=i j0∧fr 18=i m.g.es.length∧fr 8=.pt st2'.next 0∧st2.H st2'.next=.box 56 3 (edL ⟨id,a,b⟩)∧st2'.next<st2.next∧FcI m s1.next (s1.next+1+1) (s1.next+1) ma es4 st (2*j0+j) fr st2) ?_ ?_ ?_
  ·exact⟨by simp[f17],by simp[fi],by simp[fn],sS,sS,sS,hI.fr sS sS sS (aA.new _ _)⟩
  ·clear f17 fi fn hI fr
   rintro e fr st2 hle ⟨f17,f19,f18,f8,hX,hXl,hI⟩ fi J2 hJ2
   have hK:2*j0+e<(aU m.g.es).length:=oO
   have hKd:(aU m.g.es).getD (2*j0+e) 0=2*id+e:=by
    rcases Nat.lt_or_ge e 1 with h1|h1
    ·obtain rfl:e=0:=oO
     rw[Nat.add_zero,hg.1];omega
    ·obtain rfl:e=1:=oO
     rw[hg.2];rfl
   have hdin:2*id+(e:Int)∈aU m.g.es:=by rw[← hKd,aI _ _ hK];exact List.getElem_mem _
   obtain⟨f5,f6,h5,h4,ha,⟨es,hM,hSI⟩,hkp,hlt5,hlo5,t,R,f3,hL,⟨t0,t1,t2⟩,hH⟩:=hI
   (repeat' (first|refine qS ?_|(refine w_e [] ?_;intro J hJ;simp only[];simp[f8,hX,fi];(try refine hJ _ _ (zZ ?_)))))
   refine qE (dOf id e _ oO oO oO) sS ?_;rintro r s3 ⟨rfl,rfl⟩
   by_cases hs:kI (fc m m.g.es) (aU m.g.es) (2*j0+e) (2*id+e)
   ·have hg1:=(hSI _).1 hs
    have hs':=hs
    rw[← hKd]at hs'
    (repeat' (first|refine qS ?_|(refine qK (zZ ?_))|(refine qC ?_;simp[f5,h5,hM,hg1])|((first|(refine w_e [] ?_;intro J hJ;simp only[])|(refine aE ?_));simp[f5,h5,hM,hg1];refine hJ _ _ (zZ ?_))))
    refine hJ2 _ _ (by simp[fi]) ⟨by simp[f17],by simp[f19],by simp[f18],by simp[f8],hX,hXl,by simp[f5],by simp[f6],h5,h4,ha,⟨es,hM,hSI.congr fun v=>aDX hK hs'⟩,hkp,hlt5,hlo5,t,R,by simp[f3],.seen hL hK hs',⟨t0,t1,t2⟩,hH⟩
   ·have hg1:=(hSI _).2 hs
    have hs':=hs
    rw[← hKd]at hs'
    (repeat' (first|refine qS ?_|(refine qC ?_;simp[f5,h5,hM,hg1,f6,f3])|((first|(refine w_e [] ?_;intro J hJ;simp only[])|(refine aE ?_));simp[f5,h5,hM,hg1,f6,f3];(try refine hJ _ _ (zZ ?_)))))
    refine qE (aRr m h (2*id+e) _ _ _ _ es es4 _ _ he hdin h5 h4 hM ha hlt5 oO hSI hB fun x hx hx2=>?_) sS ?_
    ·obtain⟨y,hy,hr⟩:=hx2
     exact hs ⟨y,hy,hr.trans (Orb.symm hP hx)⟩
    rintro r s4 ⟨⟨t',L,rfl,hc⟩,hoff,es',hM',hSI'⟩
    have hn4:=hoff.1
    have hLl:=(h.cyc_le hdin hc).2
    obtain⟨Lr,hLr⟩:=fP.head hc
    rw[← hKd]at hc
    have hmn:=(aDn hP (oJ h.g.ids) (h.fc_dart _) hK hc).1 hs'
    have hnL:nrm L=L:=mW hLr (hmn.trans hKd)
    have hSn:lN es' (kI (fc m m.g.es) (aU m.g.es) (2*j0+e+1)):=hSI'.congr fun v=>by rw[xB hK,hKd]
    have hRl:=hL.len
    have hL2:=mE.lead hL hK hs' hc
    obtain⟨⟨l5,l4⟩,ls,la⟩:=hlt5
    obtain⟨⟨o5,o4⟩,os,oa⟩:=hlo5
    have n1:¬t=s1.next+1:=by rintro rfl;rw[hM]at hH;cases hH
    (repeat' (refine aE ?_;simp[f6,f3]))
    refine qE (aEq L t' _ (by unfold small;omega)) sS ?_;rintro r s5 ⟨rfl,hk5⟩
    have hn5:=hk5.next
    have g5:=(hk5.H _ oO).trans ((hoff.2 _ oO l5).trans h5)
    have g4:=(hk5.H _ oO).trans ((hoff.2 _ oO l4).trans h4)
    have ga:=(hk5.H _ oO).trans ((hoff.2 _ oO la).trans ha)
    have gs:=(hk5.H _ oO).trans hM'
    have gt:=(hk5.H _ oO).trans ((hoff.2 _ n1 t2).trans hH)
    have n2:¬st2'.next=s1.next+1:=by intro e;rw[e,hM]at hX;cases hX
    have gX:=(hk5.H _ oO).trans ((hoff.2 _ n2 hXl).trans hX)
    have m1:¬t=s5.next:=oO
    have m2:¬t=s1.next:=by rintro rfl;rw[h4]at hH;cases hH
    have m3:¬t=s1.next+1+1:=by rintro rfl;rw[h5]at hH;cases hH
    have m4:¬t=ma:=by rintro rfl;rw[ha]at hH;cases hH
    have m5:¬st2'.next=t:=by rintro rfl;rw[hX]at hH;cases hH
    rw[hnL]
    (repeat' (refine aE ?_;simp[f3,gt,t0,m1];(repeat refine ca ?_);refine hJ _ _ (zZ ?_)))
    refine hJ2 _ _ (by simp[fi]) ⟨by simp[f17],by simp[f19],by simp[f18],by simp[f8],?_,by simp;omega,by simp[f5],by simp[f6],?_,?_,?_,⟨es',?_,hSn⟩,?_,by simp;omega,oO,s5.next+1,R++[L],sS,hL2,⟨oO,oO,sS⟩,sS⟩
    ·rw[bI,if_neg (by simp only[aQ,aC];omega),bH,if_neg oO,bI,if_neg oO];exact gX
    ·rw[bI,if_neg (by simp only[aQ,aC];omega),bH,if_neg oO,bI,if_neg oO];exact g5
    ·rw[bI,if_neg (by simp only[aQ,aC];omega),bH,if_neg oO,bI,if_neg oO];exact g4
    ·rw[bI,if_neg (by simp only[aQ,aC];omega),bH,if_neg oO,bI,if_neg oO];exact ga
    ·rw[bI,if_neg (by simp only[aQ,aC];omega),bH,if_neg oO,bI,if_neg oO];exact gs
    ·have hK3:aA st s5:=⟨by have:=hkp.next;omega,fun l hl=>(hk5.H l (by have:=hkp.next;omega)).trans ((hoff.2 l oO (by have:=hkp.next;omega)).trans (hkp.H l hl))⟩
     exact((hK3.trans (aA.new _ _)).set t1 _).trans (aA.new _ _)
  ·clear f17 fi fn hI fr
   rintro fr st2 ⟨f17,f19,f18,f8,hX,hXl,hI⟩
   skip
   exact hJJ _ _ (by simp[f19]) (by simp[f18]) ⟨by simp[f17],hI.fr sS sS sS (aA.refl _)⟩
 ·rintro fr st2 ⟨f17,hI⟩
  obtain⟨t,R,f3,hL,_⟩:=hI.rows
  (repeat' (first|refine qS ?_|(refine qR (zZ ?_);simp[f3])|(refine w_e [] ?_;intro J hJ;simp only[];simp[f3];refine hJ _ _ (zZ ?_))))
  exact⟨⟨t,R,rfl,by rw[hdl];exact hL⟩,hI.kp⟩
structure RfI(m:Mp)(st:St)(K:Nat)(fr:Frm)(st2:St):Prop where
 f1:fr 1=.pt st.next 0
 hG:st2.H st.next=.box 39 3 (mpL m)
 kp:aA st st2
 lt:st.next<st2.next
 rows:∃ t R,fr 3=.sl t R.length (nX R)∧mE (fc m m.g.es) (aU m.g.es) K R∧(t≠0∧st.next<t∧t<st2.next)∧st2.H t=.own 22 1 R.length
theorem RfI.fr{m:Mp}{st:St}{K:Nat}{fr fr':Frm}{st2 st3:St}(h:RfI m st K fr st2)(h3:fr' 3=fr 3)(h1:fr' 1=fr 1)(hk:aA st2 st3):RfI m st K fr' st3:=by
 obtain⟨f1,hG,kp,lt,t,R,f3,hL,⟨t0,t1,t2⟩,hH⟩:=h
 have:=hk.next
 exact⟨h1.trans f1,(hk.H _ lt).trans hG,kp.trans hk,oO,t,R,h3.trans f3,hL,⟨t0,t1,oO⟩,(hk.H _ t2).trans hH⟩
theorem aIk(m:Mp)(h:bY m)(st:St)(hv:m.g.vs.length≤1000)(he:m.g.es.length≤1000):
 aB Tryz.prog 89 [.ag (mpL m)] st (aKB m st):=by
 have hel:=aJ m.g.es
 have hdl:=fD m.g.es
 have hP:=h.fc_per m.g.es (fun x hx=>hx)
 refine qO aF Tryz.func89 rfl rfl Tryz.ntmps89 (rs:=[.tmp 2]) rfl sS ?_
 (repeat' (first|refine qS ?_|refine qB ?_|(refine w_e [] ?_;intro J hJ;simp only[];simp[];refine hJ _ _ (zZ ?_))))
 refine cG fun hpos=>?_
 refine dW 3 22 1 sS ?_
 refine aM 12 11 13 39 (m.g.es.length) (fun j fr st2=>fr 10=.sl 0 m.g.es.length (eds m.g.es)∧RfI m st (2*j) fr st2) ?_ ?_ ?_
 ·exact⟨sS,sS,sS,(aA.new _ _).trans (aA.new _ _),by simp;omega,st.next+1,[],sS,.zero,⟨oO,oO,sS⟩,sS⟩
 ·rintro j fr s2 hlt ⟨f10,hI⟩ fi fn JJ hJJ
  have hd:=aW m.g.es j hlt
  have hk3:j*3<m.g.es.length*3:=oO
  have hxin:m.g.es.getD j ed0∈m.g.es:=by rw[bZ _ _ hlt];exact List.getElem_mem _
  have hpos:=h.g.pos _ hxin
  have hg:=aAt m.g.es j hlt
  generalize hx:m.g.es.getD j ed0=x at *
  obtain⟨id,a,b⟩:=x
  simp only at hpos hd hg
  have w1:IntKind.u32.wrap (2*id)=2*id:=wrap_u32' _ oO oO
  have w2:IntKind.u32.wrap (2*id+2)=2*id+2:=wrap_u32' _ oO oO
  (repeat' (first|refine qS ?_|refine qB ?_|(refine w_e [] ?_;intro J hJ;simp only[];simp[fi,fn,f10,hd,hel,hk3,w1,w2];(repeat refine ca ?_);refine hJ _ _ (zZ ?_))))
  refine qL (fun n fr st2=>∃ e:Nat,e≤2∧n=2-e∧fr 6=u (2*id+e)∧fr 5=.pt s2.next 0∧fr 10=.sl 0 m.g.es.length (eds m.g.es)∧fr 12=i j∧fr 11=i m.g.es.length∧st2.H s2.next=.box 56 3 (edL ⟨id,a,b⟩)∧s2.next<st2.next∧RfI m st (2*j+e) fr st2) 2 ?_ ?_
  ·exact⟨0,oO,oO,sS,sS,by simp[f10],by simp[fi],by simp[fn],sS,sS,hI.fr sS sS (aA.new _ _)⟩
  clear f10 fi fn hI fr
  rintro n fr st2 ⟨e,hle,rfl,f6,f5,f10,f12,f11,hX,hXl,hI⟩ J2 hJ2
  rcases Nat.lt_or_ge e 2 with he2|he2
  rotate_left
  ·clear hJ2
   obtain rfl:e=2:=oO
   (repeat' (first|refine qS ?_|(refine qX (zZ ?_))|(refine qC ?_;simp[f6,f5,hX,w1,w2])|(refine w_e [] ?_;intro J hJ;simp only[];simp[f6,f5,hX,w1,w2];refine hJ _ _ (zZ ?_))))
   exact hJJ _ _ (by simp[f12]) (by simp[f11]) ⟨by simp[f10],hI.fr sS sS (aA.refl _)⟩
  clear hJJ
  have hK:2*j+e<(aU m.g.es).length:=oO
  have hKd:(aU m.g.es).getD (2*j+e) 0=2*id+e:=by
   rcases Nat.lt_or_ge e 1 with h1|h1
   ·obtain rfl:e=0:=oO
    rw[Nat.add_zero,hg.1];omega
   ·obtain rfl:e=1:=oO
    rw[hg.2];rfl
  have hdin:2*id+(e:Int)∈aU m.g.es:=by rw[← hKd,aI _ _ hK];exact List.getElem_mem _
  have w3:IntKind.u32.wrap (2*id+e+1)=2*id+((e+1:Nat):Int):=by rw[wrap_u32' _ oO oO];omega
  have hcmp:2*id+(e:Int)<2*id+2:=oO
  obtain⟨f1,hG,hkp,hlo,t,R,f3,hL,⟨t0,t1,t2⟩,hH⟩:=hI
  have hRl:=hL.len
  (repeat' (first|refine qS ?_|refine qB ?_|(refine qK (zZ ?_))|(refine qC ?_;simp[f6,f5,hX,w1,w2,f1,hG,hcmp])|(refine w_e [] ?_;intro J hJ;simp only[];simp[f6,f5,hX,w1,w2,f1,hG,hcmp];(try refine hJ _ _ (zZ ?_)))))
  refine qE (aKD m h (2*id+e) _ hv he) sS ?_;rintro r s3 ⟨⟨c,rfl,hc⟩,hk3⟩
  rcases hc with⟨_,L,hc,rfl⟩|⟨hno,_⟩
  rotate_left
  ·exact absurd hdin hno
  have hcl:=(h.cyc_le hdin hc).2
  obtain⟨Lr,hLr⟩:=fP.head hc
  obtain⟨nr,hnr⟩:=aBY L hc.ne
  have hnl:(nrm L).length=L.length:=bX L
  have hc':=hc
  rw[← hKd]at hc'
  have hld:=aDn hP (oJ h.g.ids) (h.fc_dart _) hK hc'
  rw[hKd]at hld
  have hL0:0<(nrm L).length:=by rw[hnr];simp
  have hn3:=hk3.next
  have gX:=(hk3.H _ hXl).trans hX
  have gH:=(hk3.H _ t2).trans hH
  have m1:¬t=s3.next:=oO
  have m5:¬s2.next=t:=by rintro rfl;rw[hX]at hH;cases hH
  by_cases hs:kI (fc m m.g.es) (aU m.g.es) (2*j+e) (2*id+e)
  ·have hmn:¬mn L=2*id+e:=fun e1=>(hld.2 e1) hs
   have hL2:=mE.seen hL hK (by rw[hKd];exact hs)
   (repeat' (first|refine qS ?_|(refine qK (zZ ?_))|(refine qC ?_;simp[f6,hnr,hmn,hL0,w3])|((first|(refine w_e [] ?_;intro J hJ;simp only[])|(refine aE ?_));simp[f6,hnr,hmn,hL0,w3];refine hJ _ _ (zZ ?_))))
   exact hJ2 (2-(e+1)) _ _ oO ⟨e+1,oO,rfl,sS,by simp[f5],by simp[f10],by simp[f12],by simp[f11],gX,oO,by simp[f1],(hk3.H _ hlo).trans hG,hkp.trans hk3,oO,t,R,by simp[f3],hL2,⟨t0,t1,oO⟩,gH⟩
  ·have hmn:=hld.1 hs
   have hnL:nrm L=L:=mW hLr hmn
   have hL2:=mE.lead hL hK (by rw[hKd];exact hs) hc'
   rw[hnL]
   subst hLr
   (repeat' (first|refine qS ?_|(refine qC ?_;simp[f6,w3,f3,gH,t0,m1])|((first|(refine w_e [] ?_;intro J hJ;simp only[])|(refine aE ?_));simp[f6,w3,f3,gH,t0,m1];(repeat refine ca ?_);refine hJ _ _ (zZ ?_))))
   exact hJ2 (2-(e+1)) _ _ oO ⟨e+1,oO,rfl,sS,by simp[f5],by simp[f10],by simp[f12],by simp[f11],by rw[bI,if_neg (by simp only[aQ,aC];omega),bH,if_neg m5,bI,if_neg oO];exact gX,by simp;omega,by simp[f1],by rw[bI,if_neg (by simp only[aQ,aC];omega),bH,if_neg oO,bI,if_neg oO];exact(hk3.H _ hlo).trans hG,(((hkp.trans hk3).trans (aA.new _ _)).set oO _).trans (aA.new _ _),by simp;omega,s3.next+1,R++[(2*id+e)::Lr],sS,hL2,⟨oO,oO,sS⟩,sS⟩
 ·rintro fr st2 ⟨f10,hI⟩
  obtain⟨t,R,f3,hL,_⟩:=hI.rows
  (repeat' (first|refine qS ?_|(refine qR (zZ ?_);simp[f3])|(refine w_e [] ?_;intro J hJ;simp only[];simp[f3];refine hJ _ _ (zZ ?_))))
  exact⟨⟨t,R,rfl,by rw[hdl];exact hL⟩,hI.kp⟩
noncomputable def gn(m:Mp):Nat:=(2*ncl (Reach m.g.es) m.g.vs+m.g.es.length-(alone m.g+m.g.vs.length+ncl (Orb (fc m m.g.es)) (aU m.g.es))) / 2
theorem bY.gn{m:Mp}(h:bY m):2*ncl (Reach m.g.es) m.g.vs+m.g.es.length=2*gn m+alone m.g+m.g.vs.length+ncl (Orb (fc m m.g.es)) (aU m.g.es):=by
 obtain⟨k,hk⟩:=h.euler
 have:Aw.gn m=k:=by unfold Aw.gn;omega
 omega
set_option maxHeartbeats 1000000 in
theorem aPQ(m:Mp)(h:bY m)(st:St)(hv:m.g.vs.length≤1000)(he:m.g.es.length≤1000):
 aB Tryz.prog 66 [.ag (mpL m)] st fun r st'=>r=i (gn m)∧aA st st':=by
 have hP:=h.fc_per m.g.es (fun x hx=>hx)
 have hgn:=h.gn
 have hal:alone m.g≤m.g.vs.length:=List.countP_le_length
 have hdl:=fD m.g.es
 refine qO aF Tryz.func66 rfl rfl Tryz.ntmps66 (rs:=[.tmp 2]) rfl sS ?_
 (repeat' (first|refine qS ?_|(refine w_e [] ?_;intro J hJ;simp only[];simp[];refine hJ _ _ (zZ ?_))))
 (refine w_s [] [st.next] [(0,true),(1,true),(4,true),(5,true),(2,true),(3,true),(6,true),(7,true),(8,true)] ?_;intro J hJ;simp[])
 refine qD (aPJ m.g _ h.g.toGood hv he) sS ?_;rintro r s1 ⟨⟨t,R,rfl,hR⟩,hk1⟩
 have hn1:=hk1.next
 simp only[aC]at hn1
 have hG1:=hk1.H st.next sS
 simp at hG1
 refine⟨fun _=>by simp[hG1],?_⟩
 (refine bE ?_;simp[hG1])
 refine qD (aPV m.g _ hv he) sS ?_;rintro r s2 ⟨rfl,hk2⟩
 have hn2:=hk2.next
 have hG2:=(hk2.H st.next oO).trans hG1
 refine⟨fun _=>by simp[hG2],?_⟩
 (refine bE ?_;simp[hG2];refine hJ _ _ (zZ ?_))
 have hRn:=hR.all
 have hRl:=hR.len
 generalize R.length=p at *
 generalize alone m.g=al at *
 refine qS ?_
 (refine w_s [] [st.next] [(0,true),(1,true),(2,true),(3,true),(4,true),(5,true),(6,true),(7,true),(8,true),(9,true),(10,true),(11,true),(12,true),(13,true),(14,true),(15,true),(16,true),(17,true),(18,true),(19,true)] ?_;intro J hJ;simp[hG2])
 refine qD (aPx m h _ hv he) sS ?_;rintro r s3 ⟨⟨t3,F,rfl,hF⟩,hk3⟩
 have hG3:=(hk3.H st.next oO).trans hG2
 refine⟨fun _=>by simp[hG3,hG2],?_⟩
 have hFn:=hF.all hP
 have hFl:=hF.len
 generalize F.length=f at *
 have w1:IntKind.i64.wrap (2*(p:Int))=2*p:=wrap_i64 _ oO oO
 have w2:IntKind.i64.wrap (2*(p:Int)-al)=2*p-al:=wrap_i64 _ oO oO
 have w3:IntKind.i64.wrap (2*(p:Int)-al-m.g.vs.length)=2*p-al-m.g.vs.length:=wrap_i64 _ oO oO
 have w4:IntKind.i64.wrap (2*(p:Int)-al-m.g.vs.length+m.g.es.length)=2*p-al-m.g.vs.length+m.g.es.length:=wrap_i64 _ oO oO
 have w5:IntKind.i64.wrap (2*(p:Int)-al-m.g.vs.length+m.g.es.length-f)=2*(gn m:Int):=by rw[wrap_i64 _ oO oO];omega
 have w6:IntKind.i64.wrap ((2*(gn m:Int)).tdiv 2)=(gn m:Int):=by
  rw[Int.mul_comm,Int.mul_tdiv_cancel _ oO]
  exact wrap_i64 _ oO oO
 (refine bE ?_;simp[hG3,hG2,w1,w2,w3,w4,w5,w6];refine hJ _ _ (zZ ?_))
 (repeat' (refine qR (zZ ?_);simp[]))
 exact⟨wrap_i64 _ oO oO,(((aA.new _ _).trans hk1).trans hk2).trans hk3⟩
theorem aGu(es:List Ed)(v:Int):(ends es v).length=0↔nbr es v=[]:=by rw[List.length_eq_zero_iff,aCx]
set_option maxHeartbeats 1000000 in
theorem aPv(m:Mp)(h:bY m)(st:St)(hv:m.g.vs.length≤1000)(he:m.g.es.length≤1000):
 aB Tryz.prog 52 [.ag (mpL m)] st fun r st'=>r=i (2*gn m)∧aA st st':=by
 have hP:=h.fc_per m.g.es (fun x hx=>hx)
 have hgn:=h.gn
 have hal:alone m.g≤m.g.vs.length:=List.countP_le_length
 have hdl:=fD m.g.es
 have hid:aDd m.g.es:=fun x hx=>by have:=h.g.pos x hx;omega
 refine qO aF Tryz.func52 rfl rfl Tryz.ntmps52 (rs:=[.tmp 2]) rfl sS ?_
 (repeat' (first|refine qS ?_|refine qB ?_|(refine w_e [] ?_;intro J hJ;simp only[];simp[];refine hJ _ _ (zZ ?_))))
 refine aM 10 9 11 22 (m.g.vs.length) (fun j fr st2=>fr 1=.pt st.next 0∧fr 8=.sl 0 m.g.vs.length (us m.g.vs)∧fr 3=i ((m.g.vs.take j).countP fun v=>decide (nbr m.g.es v=[]):Nat)∧st2.H st.next=.box 39 3 (mpL m)∧aA st st2∧st.next<st2.next) ?_ ?_ ?_
 ·exact⟨sS,sS,sS,sS,aA.new _ _,sS⟩
 ·rintro j fr st2 hlt ⟨f1,f8,f3,hG,hkp,hsn⟩ fi fn JJ hJJ
  have hd:=qG m.g.vs j hlt
  have hct:=vX (fun v=>decide (nbr m.g.es v=[])) m.g.vs j hlt
  have hle:(m.g.vs.take j).countP (fun v=>decide (nbr m.g.es v=[]))≤j:=Nat.le_trans List.countP_le_length (by simp;omega)
  generalize m.g.vs.getD j 0=v at *
  generalize (m.g.vs.take j).countP (fun v=>decide (nbr m.g.es v=[]))=c at *
  (repeat' (first|refine qS ?_|(refine w_e [] ?_;intro J hJ;simp only[];simp[f1,f8,fi,fn,hd,hG,hlt];(try refine hJ _ _ (zZ ?_)))))
  refine qE (aCY m.g v _ he hid) sS ?_;rintro r s3 ⟨⟨t,rfl⟩,hk3⟩
  have hn3:=hk3.next
  have e0:=aGu m.g.es v
  have hw:=qN c oO
  by_cases h0:nbr m.g.es v=[]
  ·have e1:=e0.2 h0
   rw[if_pos (by simpa using h0)]at hct
   (repeat' (first|(refine qC ?_;simp[e1,f3,hw])|((first|(refine w_e [] ?_;intro J hJ;simp only[])|(refine aE ?_));simp[e1,f3,hw];refine hJ _ _ (zZ ?_))))
   exact hJJ _ _ (by simp[fi]) (by simp[fn]) ⟨by simp[f1],by simp[f8],by simp[hct],(hk3.H _ hsn).trans hG,hkp.trans hk3,oO⟩
  ·have e1:¬(ends m.g.es v).length=0:=fun e=>h0 (e0.1 e)
   rw[if_neg (by simpa using h0)]at hct
   generalize (ends m.g.es v).length=el at *
   (repeat' (first|(refine qK (zZ ?_))|(refine qC ?_;simp[e1,f3])|(refine aE ?_;simp[e1,f3];refine hJ _ _ (zZ ?_))))
   exact hJJ _ _ (by simp[fi]) (by simp[fn]) ⟨by simp[f1],by simp[f8],by simp[hct,f3],(hk3.H _ hsn).trans hG,hkp.trans hk3,oO⟩
 rintro fr st2 ⟨f1,f8,f3,hG,hkp,hsn⟩
 rw[List.take_length]at f3
 have f3':fr 3=i (alone m.g):=f3
 clear f3
 (repeat' refine qS ?_)
 (refine w_s [] [st.next] [(0,true),(1,true),(5,true),(7,true),(8,true),(9,true),(10,true),(12,true),(13,true),(14,true),(15,true),(17,true),(2,true),(3,true),(4,true),(6,true),(11,true),(16,true),(18,true),(19,true),(20,true),(21,true)] ?_;intro J hJ;simp[f1,f3',hG])
 refine qD (aHX m.g _ h.g.toGood hv he) sS ?_;rintro r s1 ⟨⟨t,R,rfl,hR⟩,hk1⟩
 have hn1:=hk1.next
 have hG1:=(hk1.H st.next oO).trans hG
 refine⟨fun _=>by simp[hG1,hG],?_⟩
 have hRn:=hR.all
 have hRl:=hR.len
 generalize R.length=p at *
 generalize alone m.g=al at *
 have w1:IntKind.i64.wrap (2*(p:Int))=2*p:=wrap_i64 _ oO oO
 have w2:IntKind.i64.wrap (2*(p:Int)-al)=2*p-al:=wrap_i64 _ oO oO
 have w3:IntKind.i64.wrap (2*(p:Int)-al-m.g.vs.length)=2*p-al-m.g.vs.length:=wrap_i64 _ oO oO
 have w4:IntKind.i64.wrap (2*(p:Int)-al-m.g.vs.length+m.g.es.length)=2*p-al-m.g.vs.length+m.g.es.length:=wrap_i64 _ oO oO
 (refine bE ?_;simp[hG1,hG,f1,f3',w1,w2,w3,w4])
 refine qD (aIk m h _ hv he) sS ?_;rintro r s3 ⟨⟨t3,F,rfl,hF⟩,hk3⟩
 have hG3:=(hk3.H st.next oO).trans hG1
 refine⟨fun _=>by simp[hG3,hG1,hG],?_⟩
 have hFn:=hF.all hP
 have hFl:=hF.len
 generalize F.length=f at *
 have w5:IntKind.i64.wrap (2*(p:Int)-al-m.g.vs.length+m.g.es.length-f)=2*(gn m:Int):=by rw[wrap_i64 _ oO oO];omega
 (refine bE ?_;simp[hG3,hG1,hG,w1,w2,w3,w4,w5,f1,f3'];refine hJ _ _ (zZ ?_))
 (repeat' (refine qR (zZ ?_);simp[]))
 exact(hkp.trans hk1).trans hk3
end Go.Proofs.YtempldclppogmaaGreatDoor.Aw
namespace Go.Proofs.YtempldclppogmaaGreatDoor.Aw
open Go Go.RowKit Go.Proofs.YtempldclppogmaaGreatDoor.Pl Go.Proofs.YtempldclppogmaaGreatDoor.Eu
set_option maxHeartbeats 1000000 in
theorem aEx(m:Mp)(st:St)(hv:m.g.vs.length≤1000)(he:m.g.es.length≤1000)(hr:m.rots.length≤1000):
 aB Tryz.prog 51 [.ag (mpL m)] st fun r st'=>r=i (kK m)∧aA st st':=by
 refine qO aF Tryz.func51 rfl rfl Tryz.ntmps51 (rs:=[.tmp 2]) rfl sS ?_
 (repeat' (first|refine qS ?_|(refine w_e [] ?_;intro J hJ;simp only[];simp[];(try refine hJ _ _ (zZ ?_)))))
 refine qE (aHI m.g _ hv he) sS ?_;rintro r s1 ⟨rfl,hk1⟩
 have hn1:=hk1.next
 simp only[aC]at hn1
 have hG1:s1.H st.next=.box 39 3 (mpL m):=by rw[hk1.H _ sS];simp
 have hK1:aA st s1:=(aA.new _ _).trans hk1
 by_cases hc:chk m.g=0
 rotate_left
 ·have hrc:=aEg hc
  generalize chk m.g=x at *
  (repeat' (first|refine qS ?_|(refine qR (zZ ?_);simp[hc,hrc])|(refine qC ?_;simp[hc,hrc])|((first|(refine w_e [] ?_;intro J hJ;simp only[])|(refine aE ?_));simp[hc,hrc];refine hJ _ _ (zZ ?_))))
  exact hK1
 have hgd:=eP hc
 have hid:aDd m.g.es:=fun x hx=>by have:=hgd.pos x hx;omega
 by_cases hl:m.rots.length=m.g.vs.length
 rotate_left
 ·have hrc:=wK hc hl
  (repeat' (first|refine qS ?_|(refine qK (zZ ?_))|(refine qR (zZ ?_);simp[hc,hrc,hG1,hl])|(refine qC ?_;simp[hc,hrc,hG1,hl];(try with_reducible refine⟨?_,?_⟩)<;>(try with_reducible intro hc)<;>try (exfalso;omega))|((first|(refine w_e [] ?_;intro J hJ;simp only[])|(refine aE ?_));simp[hc,hrc,hG1,hl];refine hJ _ _ (zZ ?_))))
  exact hK1
 (repeat' (first|refine qS ?_|refine qB ?_|(refine qK (zZ ?_))|(refine qC ?_;simp[hc,hG1,hl])|((first|(refine w_e [] ?_;intro J hJ;simp only[])|(refine aE ?_));simp[hc,hG1,hl];refine hJ _ _ (zZ ?_))))
 refine aM 28 27 29 65 (m.g.vs.length) (fun j fr st2=>fr 1=.pt st.next 0∧fr 26=.sl 0 m.g.vs.length (us m.g.vs)∧st2.H st.next=.box 39 3 (mpL m)∧aA st st2∧st.next<st2.next∧∀ k,k<j→rok m k) ?_ ?_ ?_
 ·exact⟨sS,sS,hG1,hK1,oO,fun k hk=>by omega⟩
 ·rintro j0 fr st2 hlt ⟨f1,f26,hG,hkp,hsn,hok⟩ fi fn JJ hJJ
  have hd:=qG m.g.vs j0 hlt
  have hd2:=eE m.rots j0 oO
  have hRl:j0<(cS m.rots).length:=by simp;omega
  have htin:m.rots.getD j0 []∈m.rots:=by rw[cI _ _ oO];exact List.getElem_mem _
  have hbad:=fun h=>vP hc hlt h
  have hnx:rok m j0→∀ k,k<j0+1→rok m k:=fun h k hk=>by
   rcases Nat.lt_or_ge k j0 with h1|h1
   ·exact hok k h1
   ·obtain rfl:k=j0:=oO
    exact h
  have hok1:rok m j0↔(m.rots.getD j0 []).Perm (ends m.g.es (m.g.vs.getD j0 0))∧nrm (m.rots.getD j0 [])=m.rots.getD j0 []:=Iff.rfl
  have hel:(ends m.g.es (m.g.vs.getD j0 0)).length≤2*m.g.es.length:=iA _ (mL _) _
  have hrise:=jT hgd.ids (m.g.vs.getD j0 0)
  generalize rok m j0=OK at *
  generalize m.rots.getD j0 []=t at *
  generalize m.g.vs.getD j0 0=v at *
  (repeat' (first|refine qS ?_|(refine w_e [] ?_;intro J hJ;simp only[];simp[f1,f26,fi,fn,hd,hlt,hG,hd2,hRl,hl];(try refine hJ _ _ (zZ ?_)))))
  refine qE (aCY m.g v _ he hid) sS ?_;rintro r s3 ⟨⟨te,rfl⟩,hk3⟩
  have hn3:=hk3.next
  have hG3:=(hk3.H st.next oO).trans hG
  have hK3:=hkp.trans hk3
  generalize ends m.g.es v=E at *
  by_cases h1:t.length=E.length
  rotate_left
  ·have hrc:=hbad fun h=>h1 (hok1.1 h).1.length_eq
   have h1b:((t.length:Int) != (E.length:Int))=true:=by simp;omega
   (repeat' (first|refine qS ?_|(refine qR (zZ ?_);simp[h1b,h1,hrc])|(refine qC ?_;simp[h1b,h1,hrc])|((first|(refine w_e [] ?_;intro J hJ;simp only[])|(refine aE ?_));simp[h1b,h1,hrc];refine hJ _ _ (zZ ?_))))
   exact hK3
  (repeat' (first|refine qS ?_|((first|(refine w_e [] ?_;intro J hJ;simp only[])|(refine aE ?_));simp[h1];(try refine hJ _ _ (zZ ?_)))))
  refine qE (wH t 0 _ (by unfold small;omega)) (by simp[h1]) ?_;rintro r s4 ⟨rfl,hk4⟩
  have hn4:=hk4.next
  have hG4:=(hk4.H st.next oO).trans hG3
  have hK4:=hK3.trans hk4
  have hnl:=bX t
  (repeat' (refine aE ?_;simp[]))
  refine qE (aIK t (nrm t) 0 0 _ (by unfold small;omega)) (by simp[h1,hnl]) ?_;rintro r s5 ⟨rfl,rfl⟩
  by_cases h2:t=nrm t
  rotate_left
  ·have hrc:=hbad fun h=>h2 (hok1.1 h).2.symm
   (repeat' (first|refine qS ?_|(refine qR (zZ ?_);simp[h2,hrc])|(refine qC ?_;simp[h2,hrc])|((first|(refine w_e [] ?_;intro J hJ;simp only[])|(refine aE ?_));simp[h2,hrc];refine hJ _ _ (zZ ?_))))
   exact hK4
  have h2':decide (t=nrm t)=true:=by simpa using h2
  rw[h2']
  (repeat' (first|refine qS ?_|refine qB ?_|(refine qK (zZ ?_))|(refine qC ?_;simp[])|((first|(refine w_e [] ?_;intro J hJ;simp only[])|(refine aE ?_));simp[];refine hJ _ _ (zZ ?_))))
  refine aM 56 55 57 64 (E.length) (fun j fr st2=>fr 1=.pt st.next 0∧fr 26=.sl 0 m.g.vs.length (us m.g.vs)∧fr 28=i j0∧fr 27=i m.g.vs.length∧fr 6=.sl 0 t.length (us t)∧fr 54=.sl te E.length (us E)∧st2=s5∧∀ k,k<j→E.getD k 0∈t) ?_ ?_ ?_
  ·exact⟨by simp[f1],by simp[f26],by simp[fi],by simp[fn],by simp[h1],sS,rfl,fun k hk=>by omega⟩
  ·clear f1 f26 fi fn fr
   rintro k fr st6 hk ⟨f1,f26,f28,f27,f6,f54,rfl,hall⟩ fi fn J2 hJ2
   have hd3:=qG E k hk
   have hin:E.getD k 0∈E:=by rw[aI _ _ hk];exact List.getElem_mem _
   generalize hx:E.getD k 0=x at *
   (repeat' (first|refine qS ?_|(refine w_e [] ?_;intro J hJ;simp only[];simp[f54,f6,fi,fn,hd3,hk];(try refine hJ _ _ (zZ ?_)))))
   refine qE (aNS t 0 x _ (by unfold small;omega)) (by simp[h1]) ?_;rintro r s7 ⟨rfl,rfl⟩
   by_cases hxt:x∈t
   ·have hg:=oU hxt
    (repeat' (first|(refine qK (zZ ?_))|(refine qC ?_;simp[hg];(try with_reducible refine⟨?_,?_⟩)<;>(try with_reducible intro hc)<;>try (exfalso;omega))|(refine aE ?_;simp[hg];refine hJ _ _ (zZ ?_))))
    refine hJ2 _ _ (by simp[fi]) (by simp[fn]) ⟨by simp[f1],by simp[f26],by simp[f28],by simp[f27],by simp[f6],by simp[f54],rfl,fun q hq=>?_⟩
    rcases Nat.lt_or_ge q k with h3|h3
    ·exact hall q h3
    ·obtain rfl:q=k:=oO
     rw[hx];exact hxt
   ·have hg:=yI hxt
    have hrc:=hbad fun h=>hxt ((hok1.1 h).1.mem_iff.2 hin)
    (repeat' (first|refine qS ?_|(refine qR (zZ ?_);simp[hg,hrc])|(refine qC ?_;simp[hg,hrc])|((first|(refine w_e [] ?_;intro J hJ;simp only[])|(refine aE ?_));simp[hg,hrc];refine hJ _ _ (zZ ?_))))
    exact hK4
  ·clear f1 f26 fi fn fr
   rintro fr st6 ⟨f1,f26,f28,f27,f6,f54,rfl,hall⟩
   skip
   refine hJJ _ _ (by simp[f28]) (by simp[f27]) ⟨by simp[f1],by simp[f26],hG4,hK4,oO,hnx (hok1.2 ⟨?_,h2.symm⟩)⟩
   refine(tE (oA hrise) (fun x hx=>?_) oO).symm
   obtain⟨q,hq,rfl⟩:=List.getElem_of_mem hx
   have:=hall q hq
   rwa [aI _ _ hq]at this
 ·rintro fr st2 ⟨f1,f26,hG,hkp,hsn,hok⟩
  have hrc:=aGf hc hl hok
  (repeat' (first|refine qS ?_|(refine qR (zZ ?_);simp[hrc])|(refine w_e [] ?_;intro J hJ;simp only[];simp[hrc];refine hJ _ _ (zZ ?_))))
  exact hkp
noncomputable def cM(m:Mp):Int:=if kK m≠0 then kK m else if gn m≠0 then 23 else 0
theorem aNM(m:Mp)(st:St)(hv:m.g.vs.length≤1000)(he:m.g.es.length≤1000)(hr:m.rots.length≤1000)(hs:∀ t∈m.rots,t.length≤1000):
 aB Tryz.prog 36 [.ag (mpL m)] st fun r st'=>r=i (cM m)∧aA st st':=by
 refine qO aF Tryz.func36 rfl rfl Tryz.ntmps36 (rs:=[.tmp 2]) rfl sS ?_
 (repeat' (first|refine qS ?_|(refine w_e [] ?_;intro J hJ;simp only[];simp[];(try refine hJ _ _ (zZ ?_)))))
 refine qE (aOU m _ hv he hr hs) sS ?_;rintro r s1 ⟨rfl,hk1⟩
 have hn1:=hk1.next
 simp only[aC]at hn1
 have hG1:s1.H st.next=.box 39 3 (mpL m):=by rw[hk1.H _ sS];simp
 have hK1:aA st s1:=(aA.new _ _).trans hk1
 by_cases hc:kK m=0
 rotate_left
 ·have hrc:cM m=kK m:=by unfold cM;rw[if_pos hc]
  generalize kK m=x at *
  (repeat' (first|refine qS ?_|(refine qR (zZ ?_);simp[hc,hrc])|(refine qC ?_;simp[hc,hrc])|((first|(refine w_e [] ?_;intro J hJ;simp only[])|(refine aE ?_));simp[hc,hrc];refine hJ _ _ (zZ ?_))))
  exact hK1
 (repeat' (first|refine qS ?_|(refine qK (zZ ?_))|(refine qC ?_;simp[hc,hG1])|((first|(refine w_e [] ?_;intro J hJ;simp only[])|(refine aE ?_));simp[hc,hG1];(try refine hJ _ _ (zZ ?_)))))
 refine qE (aPQ m (aAy hc).2 _ hv he) sS ?_;rintro r s2 ⟨rfl,hk2⟩
 by_cases hg:gn m=0
 ·have hrc:cM m=0:=by unfold cM;rw[if_neg (fun e=>e hc),if_neg (fun e=>e hg)]
  (repeat' (first|refine qS ?_|(refine qK (zZ ?_))|(refine qR (zZ ?_);simp[hg,hrc])|(refine qC ?_;simp[hg,hrc])|((first|(refine w_e [] ?_;intro J hJ;simp only[])|(refine aE ?_));simp[hg,hrc];refine hJ _ _ (zZ ?_))))
  exact hK1.trans hk2
 ·have hrc:cM m=23:=by unfold cM;rw[if_neg (fun e=>e hc),if_pos hg]
  generalize gn m=x at *
  (repeat' (first|refine qS ?_|(refine qR (zZ ?_);simp[hg,hrc])|(refine qC ?_;simp[hg,hrc])|((first|(refine w_e [] ?_;intro J hJ;simp only[])|(refine aE ?_));simp[hg,hrc];refine hJ _ _ (zZ ?_))))
  exact hK1.trans hk2
theorem aFg(m:Mp)(st:St)(hv:m.g.vs.length≤1000)(he:m.g.es.length≤1000)(hr:m.rots.length≤1000):
 aB Tryz.prog 21 [.ag (mpL m)] st fun r st'=>r=i (cM m)∧aA st st':=by
 refine qO aF Tryz.func21 rfl rfl Tryz.ntmps21 (rs:=[.tmp 2]) rfl sS ?_
 (repeat' (first|refine qS ?_|(refine w_e [] ?_;intro J hJ;simp only[];simp[];(try refine hJ _ _ (zZ ?_)))))
 refine qE (aEx m _ hv he hr) sS ?_;rintro r s1 ⟨rfl,hk1⟩
 have hn1:=hk1.next
 simp only[aC]at hn1
 have hG1:s1.H st.next=.box 39 3 (mpL m):=by rw[hk1.H _ sS];simp
 have hK1:aA st s1:=(aA.new _ _).trans hk1
 by_cases hc:kK m=0
 rotate_left
 ·have hrc:cM m=kK m:=by unfold cM;rw[if_pos hc]
  generalize kK m=x at *
  have hcb:(x==0)=false:=by simpa using hc
  (repeat' (first|refine qS ?_|(refine qK (zZ ?_))|(refine qR (zZ ?_);simp[hcb,hc,hrc])|(refine qC ?_;simp[hcb,hc,hrc])|((first|(refine w_e [] ?_;intro J hJ;simp only[])|(refine aE ?_));simp[hcb,hc,hrc];refine hJ _ _ (zZ ?_))))
  exact hK1
 (repeat' (first|refine qS ?_|((first|(refine w_e [] ?_;intro J hJ;simp only[])|(refine aE ?_));simp[hc,hG1];(try refine hJ _ _ (zZ ?_)))))
 refine qE (aPv m (aAy hc).2 _ hv he) sS ?_;rintro r s2 ⟨rfl,hk2⟩
 by_cases hg:gn m=0
 ·have hrc:cM m=0:=by unfold cM;rw[if_neg (fun e=>e hc),if_neg (fun e=>e hg)]
  (repeat' (first|refine qS ?_|(refine qK (zZ ?_))|(refine qR (zZ ?_);simp[hg,hrc])|(refine qC ?_;simp[hg,hrc])|((first|(refine w_e [] ?_;intro J hJ;simp only[])|(refine aE ?_));simp[hg,hrc];refine hJ _ _ (zZ ?_))))
  exact hK1.trans hk2
 ·have hrc:cM m=23:=by unfold cM;rw[if_neg (fun e=>e hc),if_pos hg]
  generalize gn m=x at *
  have hx2:¬(2*(x:Int)=0):=oO
  (repeat' (first|refine qS ?_|(refine qR (zZ ?_);simp[hx2,hg,hrc])|(refine qC ?_;simp[hx2,hg,hrc])|((first|(refine w_e [] ?_;intro J hJ;simp only[])|(refine aE ?_));simp[hx2,hg,hrc];refine hJ _ _ (zZ ?_))))
  exact hK1.trans hk2
end Go.Proofs.YtempldclppogmaaGreatDoor.Aw
namespace Go.Proofs.YtempldclppogmaaGreatDoor.Aw
open Go Go.RowKit Go.Proofs.YtempldclppogmaaGreatDoor.Pl
theorem aLQ(a b:List Ed)(t t':Nat)(st:St)(hl:a.length≤1048576):
 aB Tryz.prog 38 [.sl t a.length (eds a),.sl t' b.length (eds b)] st fun r st'=>r=bb (decide (a=b))∧st'=st:=by
 have hea:=aJ a
 have heb:=aJ b
 refine qO aF Tryz.func38 rfl rfl Tryz.ntmps38 (rs:=[.tmp 4]) rfl sS ?_
 by_cases hab:a.length=b.length
 rotate_left
 ·have hne:¬a=b:=fun h=>hab (by rw[h])
  have hab':((a.length:Int) != b.length)=true:=by simp;omega
  (repeat' (first|refine qS ?_|(refine qR (zZ ?_);simp[hab,hab',hne])|(refine qC ?_;simp[hab,hab',hne])|(refine w_e [] ?_;intro J hJ;simp only[];simp[hab,hab',hne];(refine hJ _ _ (zZ ?_);clear hJ J))))
 have hab':((a.length:Int) != b.length)=false:=by simp;omega
 (repeat' (first|refine qS ?_|refine qB ?_|(refine qK (zZ ?_))|(refine qC ?_;simp[hab,hab'])|(refine w_e [] ?_;intro J hJ;simp only[];simp[hab,hab'];(refine hJ _ _ (zZ ?_);clear hJ J))))
 refine aM 13 12 14 25 (b.length) (fun j fr st2=>fr 0=.sl t a.length (eds a)∧fr 1=.sl t' b.length (eds b)∧st2=st∧∀ k,k<j→a.getD k ed0=b.getD k ed0) ?_ ?_ ?_
 ·exact⟨by simp[hab],sS,rfl,fun k hk=>by omega⟩
 ·rintro j fr s hlt ⟨f0,f1,rfl,hno⟩ fi fn J hJ
  have hlb:j<b.length:=hlt
  have hlt:j<a.length:=oO
  have hd:=aW a j hlt
  have hd':=aW b j hlb
  have hk3:j*3<a.length*3:=oO
  have hk4:j*3<b.length*3:=oO
  have hnx:a.getD j ed0=b.getD j ed0→∀ k,k<j+1→a.getD k ed0=b.getD k ed0:=fun h k hk=>by
   by_cases e:k=j
   ·subst e;exact h
   ·exact hno k oO
  have hne:a.getD j ed0≠b.getD j ed0→¬a=b:=fun h e=>h (by rw[e])
  generalize a.getD j ed0=x at *
  generalize b.getD j ed0=y at *
  obtain⟨d,p,q⟩:=x
  obtain⟨d',p',q'⟩:=y
  simp only at hd hd'
  by_cases he:d=d'∧p=p'∧q=q'
  ·obtain⟨rfl,rfl,rfl⟩:=he
   have hn:=hnx rfl
   (repeat' (first|refine qS ?_|(refine qK (zZ ?_))|(refine qC ?_;simp[f0,f1,fi,fn,hlt,hlb,hd,hd',hea,heb,hk3,hk4])|((first|(refine w_e [] ?_;intro J hJ;simp only[])|(refine w_q ?_;intro J hJ));simp[f0,f1,fi,fn,hlt,hlb,hd,hd',hea,heb,hk3,hk4];(refine hJ _ _ (zZ ?_);clear hJ J))))
   exact hJ _ _ (by simp[fi]) (by simp[fn]) ⟨by simp[f0],by simp[f1],rfl,hn⟩
  ·have hn:=hne fun e=>he (by simp at e;exact e)
   by_cases c1:d=d'
   ·subst c1
    by_cases c2:p=p'
    ·subst c2
     have c3:¬q=q':=fun e=>he ⟨rfl,rfl,e⟩
     (repeat' (first|refine qS ?_|(refine qR (zZ ?_);simp[f0,f1,fi,fn,hlt,hlb,hd,hd',hea,heb,hk3,hk4,c3,hn])|(refine qC ?_;simp[f0,f1,fi,fn,hlt,hlb,hd,hd',hea,heb,hk3,hk4,c3,hn])|((first|(refine w_e [] ?_;intro J hJ;simp only[])|(refine w_q ?_;intro J hJ));simp[f0,f1,fi,fn,hlt,hlb,hd,hd',hea,heb,hk3,hk4,c3,hn];(refine hJ _ _ (zZ ?_);clear hJ J))))
    ·(repeat' (first|refine qS ?_|(refine qR (zZ ?_);simp[f0,f1,fi,fn,hlt,hlb,hd,hd',hea,heb,hk3,hk4,c2,hn])|(refine qC ?_;simp[f0,f1,fi,fn,hlt,hlb,hd,hd',hea,heb,hk3,hk4,c2,hn])|((first|(refine w_e [] ?_;intro J hJ;simp only[])|(refine w_q ?_;intro J hJ));simp[f0,f1,fi,fn,hlt,hlb,hd,hd',hea,heb,hk3,hk4,c2,hn];(refine hJ _ _ (zZ ?_);clear hJ J))))
   ·(repeat' (first|refine qS ?_|(refine qR (zZ ?_);simp[f0,f1,fi,fn,hlt,hlb,hd,hd',hea,heb,hk3,hk4,c1,hn])|(refine qC ?_;simp[f0,f1,fi,fn,hlt,hlb,hd,hd',hea,heb,hk3,hk4,c1,hn])|((first|(refine w_e [] ?_;intro J hJ;simp only[])|(refine w_q ?_;intro J hJ));simp[f0,f1,fi,fn,hlt,hlb,hd,hd',hea,heb,hk3,hk4,c1,hn];(refine hJ _ _ (zZ ?_);clear hJ J))))
 ·rintro fr s ⟨f0,f1,rfl,hno⟩
  have he:a=b:=List.ext_getElem hab fun k h1 h2=>by
   have:=hno k oO
   rwa [bZ _ _ h1,bZ _ _ h2]at this
  (repeat' (first|refine qS ?_|(refine qR (zZ ?_);simp[he])|(refine w_e [] ?_;intro J hJ;simp only[];simp[he];(refine hJ _ _ (zZ ?_);clear hJ J))))
end Go.Proofs.YtempldclppogmaaGreatDoor.Aw
namespace Go.Proofs.YtempldclppogmaaGreatDoor.Aw
open Go Go.RowKit Go.Proofs.YtempldclppogmaaGreatDoor.Pl Go.Proofs.YtempldclppogmaaGreatDoor.Eu
noncomputable def nW(g:Gr)(m:Mp):Int:=if cM m≠0 then cM m else if g=m.g then 0 else 26
theorem aQe(g:Gr)(m:Mp)(st:St)(hgv:small g.vs)(hge:g.es.length≤1000)(hv:m.g.vs.length≤1000)(he:m.g.es.length≤1000)(hr:m.rots.length≤1000)(hs:∀ t∈m.rots,t.length≤1000):
 aB Tryz.prog 13 [.ag (grL g),.ag (mpL m)] st fun r st'=>r=i (nW g m)∧aA st st':=by
 refine qO aF Tryz.func13 rfl rfl Tryz.ntmps13 (rs:=[.tmp 4]) rfl sS ?_
 (repeat' (first|refine qS ?_|(refine w_e [] ?_;intro J hJ;simp only[];simp[];(try refine hJ _ _ (zZ ?_)))))
 refine qE (aNM m _ hv he hr hs) sS ?_;rintro r s1 ⟨rfl,hk1⟩
 have hn1:=hk1.next
 simp only[aC]at hn1
 have hG1:s1.H st.next=.box 25 2 (grL g):=by rw[hk1.H _ (by simp;omega)];simp
 have hM1:s1.H (st.next+1)=.box 39 3 (mpL m):=by rw[hk1.H _ sS];simp
 have hK1:aA st s1:=((aA.new _ _).trans (aA.new _ _)).trans hk1
 clear hk1
 by_cases hc:cM m=0
 rotate_left
 ·have hcm:nW g m=cM m:=by unfold nW;rw[if_pos hc]
  have hc2:(cM m != 0)=true:=by simpa using hc
  generalize cM m=x at *
  (repeat' (first|refine qS ?_|(refine qR (zZ ?_);simp[hc2,hcm])|(refine qC ?_;simp[hc2,hcm])|((first|(refine w_e [] ?_;intro J hJ;simp only[])|(refine aE ?_));simp[hc2,hcm];refine hJ _ _ (zZ ?_))))
  exact hK1
 have hc2:(cM m != 0)=false:=by simpa using hc
 have hcm:nW g m=if g=m.g then 0 else 26:=by unfold nW;rw[if_neg (fun e=>e hc)]
 (repeat' (first|refine qS ?_|(refine qK (zZ ?_))|(refine qC ?_;simp[hc2,hG1,hM1])|((first|(refine w_e [] ?_;intro J hJ;simp only[])|(refine aE ?_));simp[hc2,hG1,hM1];(try refine hJ _ _ (zZ ?_)))))
 refine qE (aJw g.vs m.g.vs 0 0 _ hgv) sS ?_;rintro r s2 ⟨rfl,e2⟩
 rw[e2];clear e2 s2
 by_cases h1:g.vs=m.g.vs
 rotate_left
 ·have hne:¬g=m.g:=fun e=>h1 (by rw[e])
  rw[if_neg hne]at hcm
  (repeat' (first|refine qS ?_|(refine qR (zZ ?_);simp[h1,hcm])|(refine qC ?_;simp[h1,hcm])|((first|(refine w_e [] ?_;intro J hJ;simp only[])|(refine aE ?_));simp[h1,hcm];refine hJ _ _ (zZ ?_))))
  exact hK1
 (repeat' (refine aE ?_;simp[h1,hG1,hM1]))
 refine qE (aLQ g.es m.g.es 0 0 _ oO) sS ?_;rintro r s2 ⟨rfl,e2⟩
 rw[e2];clear e2 s2
 by_cases h2:g.es=m.g.es
 ·have hne:g=m.g:=by
   obtain⟨a,b⟩:=g
   simp only at h1 h2
   rw[h1,h2]
  rw[if_pos hne]at hcm
  (repeat' (first|refine qS ?_|(refine qK (zZ ?_))|(refine qR (zZ ?_);simp[h2,hcm])|(refine qC ?_;simp[h2,hcm])|((first|(refine w_e [] ?_;intro J hJ;simp only[])|(refine aE ?_));simp[h2,hcm];refine hJ _ _ (zZ ?_))))
  exact hK1
 ·have hne:¬g=m.g:=fun e=>h2 (by rw[e])
  rw[if_neg hne]at hcm
  (repeat' (first|refine qS ?_|(refine qR (zZ ?_);simp[h2,hcm])|(refine qC ?_;simp[h2,hcm])|((first|(refine w_e [] ?_;intro J hJ;simp only[])|(refine aE ?_));simp[h2,hcm];refine hJ _ _ (zZ ?_))))
  exact hK1
theorem aDi(g:Gr)(m:Mp)(st:St)(hgv:g.vs.length≤1000)(hge:g.es.length≤1000)(hv:m.g.vs.length≤1000)(he:m.g.es.length≤1000)(hr:m.rots.length≤1000):
 aB Tryz.prog 14 [.ag (grL g),.ag (mpL m)] st fun r st'=>r=i (nW g m)∧aA st st':=by
 refine qO aF Tryz.func14 rfl rfl Tryz.ntmps14 (rs:=[.tmp 4]) rfl sS ?_
 (repeat' (first|refine qS ?_|(refine w_e [] ?_;intro J hJ;simp only[];simp[];(try refine hJ _ _ (zZ ?_)))))
 refine qE (aFg m _ hv he hr) sS ?_;rintro r s1 ⟨rfl,hk1⟩
 have hn1:=hk1.next
 simp only[aC]at hn1
 have hG1:s1.H st.next=.box 25 2 (grL g):=by rw[hk1.H _ (by simp;omega)];simp
 have hM1:s1.H (st.next+1)=.box 39 3 (mpL m):=by rw[hk1.H _ sS];simp
 have hK1:aA st s1:=((aA.new _ _).trans (aA.new _ _)).trans hk1
 clear hk1
 by_cases hc:cM m=0
 rotate_left
 ·have hcm:nW g m=cM m:=by unfold nW;rw[if_pos hc]
  have hc2:(cM m==0)=false:=by simpa using hc
  generalize cM m=x at *
  (repeat' (first|refine qS ?_|(refine qK (zZ ?_))|(refine qR (zZ ?_);simp[hc2,hcm])|(refine qC ?_;simp[hc2,hcm])|((first|(refine w_e [] ?_;intro J hJ;simp only[])|(refine aE ?_));simp[hc2,hcm];refine hJ _ _ (zZ ?_))))
  exact hK1
 have hcm:nW g m=if g=m.g then 0 else 26:=by unfold nW;rw[if_neg (fun e=>e hc)]
 (repeat' (first|refine qS ?_|((first|(refine w_e [] ?_;intro J hJ;simp only[])|(refine aE ?_));simp[hc,hG1,hM1];(try refine hJ _ _ (zZ ?_)))))
 refine qE (aAs g m.g _ oO oO) (by simp[mpL,grL]) ?_;rintro r s2 ⟨rfl,hk2⟩
 by_cases h1:g=m.g
 ·rw[if_pos h1]at hcm
  (repeat' (first|refine qS ?_|(refine qK (zZ ?_))|(refine qR (zZ ?_);simp[h1,hcm,hc])|(refine qC ?_;simp[h1,hcm,hc])|((first|(refine w_e [] ?_;intro J hJ;simp only[])|(refine aE ?_));simp[h1,hcm,hc];refine hJ _ _ (zZ ?_))))
  exact⟨by rw[← h1];exact hcm.symm,hK1.trans hk2⟩
 ·rw[if_neg h1]at hcm
  (repeat' (first|refine qS ?_|(refine qR (zZ ?_);simp[h1,hcm])|(refine qC ?_;simp[h1,hcm])|((first|(refine w_e [] ?_;intro J hJ;simp only[])|(refine aE ?_));simp[h1,hcm];refine hJ _ _ (zZ ?_))))
  exact hK1.trans hk2
end Go.Proofs.YtempldclppogmaaGreatDoor.Aw
namespace Go.Proofs.YtempldclppogmaaGreatDoor.Aw
open Go Go.RowKit Go.Proofs.YtempldclppogmaaGreatDoor.Pl Go.Proofs.YtempldclppogmaaGreatDoor.Eu
set_option maxHeartbeats 1000000 in
theorem CertMaps(g:Gr)(m:Mp)(st:St):aB Tryz.prog 4 [.ag (grL g),.ag (mpL m)] st fun r st'=>r=bb true:=by
 refine qO aF Tryz.func4 rfl rfl Tryz.ntmps4 (rs:=[.tmp 4]) rfl sS ?_
 (repeat' (first|refine qS ?_|(refine w_e [] ?_;intro J hJ;simp only[];simp[];(try refine hJ _ _ (zZ ?_)))))
 refine qE (aLO _) sS ?_;rintro r s1 ⟨rfl,q1⟩
 rw[q1];clear q1 s1
 by_cases h1:(70:Int)<m.g.vs.length
 ·(repeat' (first|refine qS ?_|(refine qK (zZ ?_))|(refine qR (zZ ?_);simp[h1])|(refine qC ?_;simp[h1])|((first|(refine w_e [] ?_;intro J hJ;simp only[])|(refine aE ?_));simp[h1];refine hJ _ _ (zZ ?_))))
 by_cases h2:(60:Int)<m.g.es.length
 ·(repeat' (first|refine qS ?_|(refine qK (zZ ?_))|(refine qR (zZ ?_);simp[h1,h2])|(refine qC ?_;simp[h1,h2])|((first|(refine w_e [] ?_;intro J hJ;simp only[])|(refine aE ?_));simp[h1,h2];refine hJ _ _ (zZ ?_))))
 by_cases h3:(80:Int)<m.rots.length
 ·(repeat' (first|refine qS ?_|(refine qK (zZ ?_))|(refine qR (zZ ?_);simp[h1,h2,h3])|(refine qC ?_;simp[h1,h2,h3])|((first|(refine w_e [] ?_;intro J hJ;simp only[])|(refine aE ?_));simp[h1,h2,h3];refine hJ _ _ (zZ ?_))))
 by_cases h4:(70:Int)<g.vs.length
 ·(repeat' (first|refine qS ?_|(refine qK (zZ ?_))|(refine qR (zZ ?_);simp[h1,h2,h3,h4])|(refine qC ?_;simp[h1,h2,h3,h4])|((first|(refine w_e [] ?_;intro J hJ;simp only[])|(refine aE ?_));simp[h1,h2,h3,h4];refine hJ _ _ (zZ ?_))))
 by_cases h5:(60:Int)<g.es.length
 ·(repeat' (first|refine qS ?_|(refine qK (zZ ?_))|(refine qR (zZ ?_);simp[h1,h2,h3,h4,h5])|(refine qC ?_;simp[h1,h2,h3,h4,h5])|((first|(refine w_e [] ?_;intro J hJ;simp only[])|(refine aE ?_));simp[h1,h2,h3,h4,h5];refine hJ _ _ (zZ ?_))))
 (repeat' (first|refine qS ?_|refine qB ?_|(refine qK (zZ ?_))|(refine qC ?_;simp[h1,h2,h3,h4,h5])|((first|(refine w_e [] ?_;intro J hJ;simp only[])|(refine aE ?_));simp[h1,h2,h3,h4,h5];refine hJ _ _ (zZ ?_))))
 obtain⟨S,hS⟩:∃ S,S=(st.new (.box 25 2 (grL g))).new (.box 39 3 (mpL m)):=⟨_,rfl⟩
 have hG0:S.H st.next=.box 25 2 (grL g):=by rw[hS];simp
 have hM0:S.H (st.next+1)=.box 39 3 (mpL m):=by rw[hS];simp
 have hn0:st.next+1<S.next:=by rw[hS];simp
 refine aM 42 41 43 49 (m.rots.length) (fun j fr st2=>fr 2=.pt st.next 0∧fr 3=.pt (st.next+1) 0∧fr 40=.sl 0 m.rots.length (cS m.rots)∧st2=S∧∀ k,k<j→(m.rots.getD k []).length≤300) ?_ ?_ ?_
 ·exact⟨sS,sS,sS,hS.symm,fun k hk=>by omega⟩
 ·rintro j fr st2 hlt ⟨f2,f3,f40,rfl,hall⟩ fi fn JJ hJJ
  have hd:=eE m.rots j hlt
  have hRl:j<(cS m.rots).length:=by simpa using hlt
  by_cases h300:(300:Int)<((m.rots.getD j []).length:Int)
  ·generalize m.rots.getD j []=t at *
   (repeat' (first|refine qS ?_|(refine qR (zZ ?_);simp[f40,fi,fn,hd,hRl,h300])|(refine qC ?_;simp[f40,fi,fn,hd,hRl,h300])|(refine w_e [] ?_;intro J hJ;simp only[];simp[f40,fi,fn,hd,hRl,h300];(repeat refine ca ?_);refine hJ _ _ (zZ ?_))))
  ·have hnx:∀ k,k<j+1→(m.rots.getD k []).length≤300:=fun k hk=>by
    rcases Nat.lt_or_ge k j with h1|h1
    ·exact hall k h1
    ·obtain rfl:k=j:=oO
     omega
   generalize m.rots.getD j []=t at *
   (repeat' (first|refine qS ?_|(refine qK (zZ ?_))|(refine qC ?_;simp[f40,fi,fn,hd,hRl,h300])|(refine w_e [] ?_;intro J hJ;simp only[];simp[f40,fi,fn,hd,hRl,h300];(repeat refine ca ?_);refine hJ _ _ (zZ ?_))))
   exact hJJ _ _ (by simp[fi]) (by simp[fn]) ⟨by simp[f2],by simp[f3],by simp[f40],rfl,hnx⟩
 rintro fr st2 ⟨f2,f3,f40,rfl,hall⟩
 clear hS
 have hs:∀ t∈m.rots,t.length≤1000:=fun t ht=>by
  obtain⟨k,hk,rfl⟩:=List.getElem_of_mem ht
  have:=hall k hk
  rw[cI _ _ hk]at this
  omega
 have hsg:small g.vs:=by unfold small;omega
 have hsm:small m.g.vs:=by unfold small;omega
 (repeat' refine qS ?_)
 (refine w_s [] [st.next,st.next+1] [(0,true),(1,true),(3,true),(4,true),(2,true),(5,true),(6,true),(7,true),(8,true),(9,true),(10,true),(12,true),(13,true),(14,true),(11,true),(15,true),(16,true),(17,true),(18,true)] ?_;intro J hJ;simp[f2,f3,hG0,hM0])
 refine qD (aQe g m _ hsg oO oO oO oO hs) sS ?_;rintro r s1 ⟨rfl,hk1⟩
 have hG1:=(hk1.H st.next oO).trans hG0
 have hM1:=(hk1.H (st.next+1) hn0).trans hM0
 have hn1:=hk1.next
 refine⟨fun _=>by simp[hG1,hM1,hG0,hM0],?_⟩
 (refine bE ?_;simp[f2,f3,hG1,hM1])
 refine qD (aDi g m _ oO oO oO oO oO) sS ?_;rintro r s2 ⟨rfl,hk2⟩
 have hG2:=(hk2.H st.next oO).trans hG1
 have hM2:=(hk2.H (st.next+1) oO).trans hM1
 have hn2:=hk2.next
 refine⟨fun _=>by simp[hG2,hM2,hG0,hM0],?_⟩
 (refine bE ?_;simp[f2,f3,hG2,hM2])
 refine⟨⟨hG0.symm,hM0.symm⟩,?_⟩
 refine qD (aQe m.g m _ hsm oO oO oO oO hs) (by simp[mpL,grL]) ?_;rintro r s3 ⟨rfl,hk3⟩
 have hG3:=(hk3.H st.next oO).trans hG2
 have hM3:=(hk3.H (st.next+1) oO).trans hM2
 have hn3:=hk3.next
 refine⟨fun _=>by simp[hG3,hM3,hG0,hM0],?_⟩
 (refine bE ?_;simp[f2,f3,hG3,hM3])
 refine qD (aDi m.g m _ oO oO oO oO oO) (by simp[mpL,grL]) ?_;rintro r s4 ⟨rfl,hk4⟩
 have hG4:=(hk4.H st.next oO).trans hG3
 have hM4:=(hk4.H (st.next+1) oO).trans hM3
 refine⟨fun _=>by simp[hG4,hM4,hG0,hM0],?_⟩
 (refine bE ?_;simp[f2,f3,hG4,hM4];refine hJ _ _ (zZ ?_))
 (repeat' (refine qR (zZ ?_);simp[]))
theorem aAF(l0 l1:List LV)(st:St)(h0:Shp tab 25 l0)(h1:Shp tab 39 l1):aB Tryz.prog 4 [aBO tab 25 l0,aBO tab 39 l1] st fun r st'=>r=bb true:=by
 obtain⟨g,rfl,_⟩:=aJl h0
 obtain⟨m,rfl,_⟩:=aNU h1
 exact CertMaps g m st
end Go.Proofs.YtempldclppogmaaGreatDoor.Aw
