/- Maps, the document's: Face. -/
import Derived.Test.YtglkgindpjdoiaaGreatJe
import Derived.Test.YtglkgindpjdoiaaGreatAwZ
import Derived.Test.YtglkgindpjdoiaaGreatAwFn
import Derived.Test.YtglkgindpjdoiaaGreatAwTd
import Derived.Test.YtglkgindpjdoiaaGreatAwMr5
import Derived.Test.YtglkgindpjdoiaaGreatAwLd
namespace Go.Proofs.YtglkgindpjdoiaaGreat.Aw
open Go Go.RowKit Go.Proofs.YtglkgindpjdoiaaGreat.Pl Go.Proofs.YtglkgindpjdoiaaGreat.Eu
set_option linter.unusedSimpArgs false
set_option linter.unusedVariables false
def IsFace (m:Mp) (d:Int) (c:List Int):Prop:=(d∈darts m.g.es∧∃ L,IsCyc (fc m m.g.es) d L∧c=nrm L)∨(d∉darts m.g.es∧c=[])
def FaceP (m:Mp) (d:Int) (st:St) (r:LV) (st':St):Prop:=(∃ c,r=.sl 0 c.length (us c)∧IsFace m d c)∧Keeps st st'
theorem ref_Face (m:Mp) (h:MapOk m) (d:Int) (st:St) (hv:m.g.vs.length≤1000) (he:m.g.es.length≤1000):
 ACalls Tryz.prog 92 [.ag (mpL m),u d] st (FaceP m d st):=by
 have hsm:∀ t∈m.rots,small t:=fun t ht=>by have:=h.row_le ht;unfold small;omega
 have hrl:=h.len
 refine acalls_norm ?_
 by_cases hd:d∈darts m.g.es
 rotate_left
 ·have ht:=tix_out (rs:=m.rots) fun t ht hdt=>hd (h.turn_dart ht hdt)
  refine qO tabOk Tryz.func92 rfl rfl Tryz.ntmps92 (rs:=[.tmp 4]) rfl (by simp) ?_
  (repeat' (first | refine qS ?_ | (refine w_e [] ?_;intro J hJ;simp only [];simp [];(try (refine hJ _ _ ?_;clear hJ J;simp only [ak,reduceIte])))))
  refine qE (ref_Turn m d _ (by omega) hsm) (by simp) ?_;rintro r s1 ⟨rfl,hk1⟩
  (repeat' (first | refine qS ?_ | (refine qR ?_;simp only [ak,reduceIte];simp [ht]) | (refine qC ?_;simp [ht]) | ((first | (refine w_e [] ?_;intro J hJ;simp only []) | (refine e_go ?_));simp [ht];(refine hJ _ _ ?_;clear hJ J;simp only [ak,reduceIte]))))
  exact ⟨⟨[],rfl,.inr ⟨hd,rfl⟩⟩,(Keeps.new _ _).trans hk1⟩
 have hP:=h.fc_per m.g.es (fun x hx=>hx)
 obtain ⟨L,p,hp,hL,hp1,hp2⟩:=isCyc_ex hP d
 have hcyc:IsCyc (fc m m.g.es) d L:=⟨p,hp,hL,hp1,hp2⟩
 have hL':L=itL (fc m m.g.es) d p:=hL
 have hdk:∀ k,it (fc m m.g.es) k d∈darts m.g.es:=by
  intro k
  induction k with
  | zero=>exact hd
  | succ k ih=>rw [it_succ];exact h.fc_dart _ _ ih
 have hpl:p≤2 * m.g.es.length:=by
  have:=(h.cyc_le hd hcyc).2
  rwa [hL',itL_len] at this
 obtain ⟨k0,hk0,ht0,_⟩:=tix_in (h.turn_of hd)
 have hfx:∀ x,x∈darts m.g.es→fc m m.g.es x=sg m (tw x):=fun x hx=>by unfold fc;rw [al_in hx]
 refine qO tabOk Tryz.func92 rfl rfl Tryz.ntmps92 (rs:=[.tmp 4]) rfl (by simp) ?_
 (repeat' (first | refine qS ?_ | (refine w_e [] ?_;intro J hJ;simp only [];simp [];(try (refine hJ _ _ ?_;clear hJ J;simp only [ak,reduceIte])))))
 refine qE (ref_Turn m d _ (by omega) hsm) (by simp) ?_;rintro r s1 ⟨rfl,hk1⟩
 have hn1:=hk1.next
 simp only [new_next] at hn1
 have hG1:s1.H st.next=.box 28 3 (mpL m):=by rw [hk1.H _ (by simp)];simp
 (repeat' (first | refine qS ?_ | refine qB ?_ | (refine qK ?_;simp only [ak,reduceIte]) | (refine qC ?_;simp [ht0];(try with_reducible refine ⟨?_,?_⟩)<;>(try with_reducible intro hc)<;>try (exfalso;omega)) | ((first | (refine w_e [] ?_;intro J hJ;simp only []) | (refine e_go ?_));simp [ht0];(refine hJ _ _ ?_;clear hJ J;simp only [ak,reduceIte]))))
 refine awp_posG fun hpos=>?_
 refine awp_own 5 29 1 (by simp) ?_
 generalize hf:fc m m.g.es=f at *
 refine qL (fun n fr st2=>∃ k:Nat,k < p∧n=p - k∧fr 1=u d∧fr 2=.pt st.next 0∧fr 6=u (it f k d)∧st2.H st.next=.box 28 3 (mpL m)∧∃ t,fr 5=.sl t k (us (itL f d k))∧(t≠0∧st.next < t∧t < st2.next)∧st2.H t=.own 29 1 k∧Keeps st st2) p ?_ ?_
 ·exact ⟨0,by omega,by omega,by simp,by simp,by simp [it],by simp [show ¬ st.next=s1.next by omega,hG1],s1.next,by simp [itL],⟨by omega,by omega,by simp⟩,by simp,((Keeps.new _ _).trans hk1).trans (Keeps.new _ _)⟩
 rintro n fr st2 ⟨k,hk,rfl,f1,f2,f6,hG,t,f5,⟨t0,t1,t2⟩,htH,hkp⟩ JJ hJJ
 have hn2:=hkp.next
 have hxd:=hdk k
 have hx1:=dart_range h hxd
 obtain ⟨kt,hkt,htx,hmem⟩:=tix_in (h.turn_of (tw_dart.2 hxd))
 have hdr:=rowsL_drop m.rots kt hkt
 have hRl:kt < (rowsL m.rots).length:=by simpa using hkt
 have htin:m.rots.getD kt []∈m.rots:=by rw [getR_lt _ _ hkt];exact List.getElem_mem _
 have hsmt:=hsm _ htin
 have hnx:nx (m.rots.getD kt []) (tw (it f k d))=it f (k+1) d:=by rw [it_succ,hfx _ hxd,sg_at h htin hmem]
 have hLn:=itL_succ f d k
 have hLl:=itL_len f d k
 have hstop:it f (k+1) d=d→k+1=p:=fun e=>by
  rcases Nat.lt_or_ge (k+1) p with h1 | h1
  ·exact absurd e (hp2 _ (by omega) h1)
  ·omega
 have hgo:¬ it f (k+1) d=d→k+1 < p:=fun e=>by
  rcases Nat.lt_or_ge (k+1) p with h1 | h1
  ·exact h1
  ·exact absurd (by rw [show k+1=p by omega];exact hp1) e
 generalize itL f d k=Lk at *
 generalize m.rots.getD kt []=tt at *
 generalize hxe:it f k d=x at *
 generalize hye:it f (k+1) d=y at *
 have m1:¬ t=st2.next:=by omega
 have m2:¬ st.next=st2.next:=by omega
 have m3:¬ st.next=st2.next+1:=by omega
 have m4:¬ st.next=t:=by omega
 (repeat' (first | refine qS ?_ | refine qB ?_ | (refine w_e [] ?_;intro J hJ;simp only [];simp [f1,f2,f5,f6,htH,t0,m1,hLl];(repeat refine ca ?_);(try (refine hJ _ _ ?_;clear hJ J;simp only [ak,reduceIte])))))
 refine qE (ref_twin x _ (by omega) (by omega)) (by simp) ?_;rintro r s3 ⟨rfl,rfl⟩
 (repeat' (first | refine qS ?_ | (refine e_go ?_;simp [];(refine hJ _ _ ?_;clear hJ J;simp only [ak,reduceIte]))))
 (refine w_s [] [st.next] [(0,true),(1,true),(2,true),(3,true),(7,true),(4,true),(5,true),(6,true),(8,true),(9,true)] ?_;intro J hJ;simp [f2,hG,m2,m3,m4])
 refine qD (ref_Turn m (tw x) _ (by omega) hsm) (by simp) ?_;rintro r s4 ⟨rfl,hk4⟩
 have hn4:=hk4.next
 have hG4:=hk4.H st.next (by simp;omega)
 simp [m2,m3,m4,hG] at hG4
 refine ⟨fun _=>by simp [m2,m3,m4,hG,hG4],?_⟩
 rw [htx]
 (refine d_go ?_;simp [f2,hG4,hdr,hkt,hRl,m2,m3,m4,hG])
 refine qD (ref_Next tt 0 (tw x) _ hsmt) rfl ?_;rintro r s5 ⟨rfl,rfl⟩
 rw [hnx]
 refine ⟨fun _=>by simp [m2,m3,m4,hG,hG4],?_⟩
 (refine d_go ?_;simp [hG4,m2,m3,m4,hG];(refine hJ _ _ ?_;clear hJ J;simp only [ak,reduceIte]))
 have hkp4:Keeps st s5:=(((hkp.trans (Keeps.new _ _)).set (by omega) _).trans (Keeps.new _ _)).trans hk4
 have htH4:=hk4.H (st2.next+1) (by simp)
 simp at htH4 hn4
 by_cases hyd:y=d
 ·have hkp1:=hstop hyd
  (repeat' (first | refine qS ?_ | (refine qC ?_;simp [hyd,f1]) | (refine w_e [] ?_;intro J hJ;simp only [];simp [hyd,f1];(try (refine hJ _ _ ?_;clear hJ J;simp only [ak,reduceIte])))))
  refine qE (ref_Normal L (st2.next+1) _ (by rw [hL',small,itL_len];omega)) ?_ ?_
  ·rw [hL',← hkp1,hLn]
   simp [hLl]
  rintro r s6 ⟨rfl,hk6⟩
  (repeat' (first | (refine qR ?_;simp only [ak,reduceIte];simp []) | (refine e_go ?_;simp [];(refine hJ _ _ ?_;clear hJ J;simp only [ak,reduceIte]))))
  exact ⟨⟨nrm L,by rw [nrm_length],.inl ⟨hd,L,by rw [hf];exact hcyc,rfl⟩⟩,hkp4.trans hk6⟩
 ·have hkp1:=hgo hyd
  (repeat' (first | refine qS ?_ | (refine qK ?_;simp only [ak,reduceIte]) | (refine qC ?_;simp [hyd,f1]) | (refine w_e [] ?_;intro J hJ;simp only [];simp [hyd,f1];(refine hJ _ _ ?_;clear hJ J;simp only [ak,reduceIte]))))
  refine hJJ (p - (k+1)) _ _ (by omega) ⟨k+1,hkp1,rfl,by simp [f1],by simp [f2],by simp [hye],hG4,st2.next+1,by simp [hLn],⟨by omega,by omega,by omega⟩,htH4,hkp4⟩
def FacesP (m:Mp) (st:St) (r:LV) (st':St):Prop:=(∃ t R,r=.sl t R.length (rowsL3 R)∧Lead (fc m m.g.es) (darts m.g.es) (darts m.g.es).length R)∧Keeps st st'
structure FcI (m:Mp) (q4 q5 ms ma:Nat) (es4:List (List Int×LV)) (st:St) (K:Nat) (fr:Frm) (st2:St):Prop where
 f5:fr 5=.pt q5 0
 f6:fr 6=.fn (.func 32) [.pt q5 0,.pt q4 0]
 h5:st2.H q5=.box 65 1 [.mp ms]
 h4:st2.H q4=.box 63 1 [.mp ma]
 ha:st2.H ma=.map false [.u32] es4
 hs:∃ es,st2.H ms=.map false [.u32] es∧SeenI es (SeenD (fc m m.g.es) (darts m.g.es) K)
 kp:Keeps st st2
 lt:(q5 < st2.next∧q4 < st2.next)∧ms < st2.next∧ma < st2.next
 lo:(st.next≤q5∧st.next≤q4)∧st.next≤ms∧st.next≤ma
 rows:∃ t R,fr 3=.sl t R.length (rowsL3 R)∧Lead (fc m m.g.es) (darts m.g.es) K R∧(t≠0∧st.next≤t∧t < st2.next)∧st2.H t=.own 22 1 R.length
theorem FcI.fr {m:Mp} {q4 q5 ms ma:Nat} {es4:List (List Int×LV)} {st:St} {K:Nat} {fr fr':Frm} {st2 st3:St} (h:FcI m q4 q5 ms ma es4 st K fr st2) (h3:fr' 3=fr 3) (h5:fr' 5=fr 5) (h6:fr' 6=fr 6) (hk:Keeps st2 st3):FcI m q4 q5 ms ma es4 st K fr' st3:=by
 obtain ⟨f5,f6,a5,a4,aa,⟨es,as1,as2⟩,kp,⟨⟨l1,l2⟩,l3,l4⟩,lo,t,R,f3,hL,⟨t0,t1,t2⟩,hH⟩:=h
 have:=hk.next
 exact ⟨h5.trans f5,h6.trans f6,(hk.H _ l1).trans a5,(hk.H _ l2).trans a4,(hk.H _ l4).trans aa,⟨es,(hk.H _ l3).trans as1,as2⟩,kp.trans hk,⟨⟨by omega,by omega⟩,by omega,by omega⟩,lo,t,R,h3.trans f3,hL,⟨t0,t1,by omega⟩,(hk.H _ t2).trans hH⟩
theorem Faces (m:Mp) (h:MapOk m) (st:St) (hv:m.g.vs.length≤1000) (he:m.g.es.length≤1000):
 ACalls Tryz.prog 12 [.ag (mpL m)] st (FacesP m st):=by
 have hel:=eds_length m.g.es
 have hdl:=darts_length m.g.es
 have hP:=h.fc_per m.g.es (fun x hx=>hx)
 refine qO tabOk Tryz.func12 rfl rfl Tryz.ntmps12 (rs:=[.tmp 2]) rfl (by simp) ?_
 (repeat' (first | refine qS ?_ | (refine w_e [] ?_;intro J hJ;simp only [];simp [];(try (refine hJ _ _ ?_;clear hJ J;simp only [ak,reduceIte])))))
 refine qE (behind m h _ hv he) (by simp) ?_;rintro r s1 ⟨ma,es4,rfl,hm1,hm2,hMa,hk1,hB⟩
 have hn1:=hk1.next
 simp only [new_next] at hn1 hm1
 have hG1:s1.H st.next=.box 28 3 (mpL m):=by rw [hk1.H _ (by simp)];simp
 have a1:¬ st.next=s1.next:=by omega
 have a2:¬ st.next=s1.next+1:=by omega
 have a3:¬ st.next=s1.next+1+1:=by omega
 have a4:¬ ma=s1.next:=by omega
 have a5:¬ ma=s1.next+1:=by omega
 have a6:¬ ma=s1.next+1+1:=by omega
 have a7:¬ ma=s1.next+1+1+1:=by omega
 (repeat' (first | refine qS ?_ | refine qB ?_ | ((first | (refine w_e [] ?_;intro J hJ;simp only []) | (refine e_go ?_));simp [hG1,a1,a2,a3];(refine hJ _ _ ?_;clear hJ J;simp only [ak,reduceIte]))))
 refine awp_posG fun hpos=>?_
 refine awp_own 3 22 1 (by simp) ?_
 refine awp_range 19 18 20 42 (m.g.es.length) (fun j fr st2=>fr 17=.sl 0 m.g.es.length (eds m.g.es)∧FcI m s1.next (s1.next+1+1) (s1.next+1) ma es4 st (2 * j) fr st2) ?_ ?_ ?_
 ·refine ⟨by simp,by simp,by simp,by simp,by simp,by simp [a4,a5,a6,a7,hMa],⟨[],by simp,fun v=>⟨?_,fun _=>rfl⟩⟩,?_,by simp;omega,by omega,s1.next+1+1+1,[],by simp,.zero,⟨by omega,by omega,by simp⟩,by simp⟩
  ·rintro ⟨y,hy,_⟩;simp at hy
  ·(repeat (first | exact Keeps.refl _ | exact (Keeps.new _ _).trans hk1 | (refine Keeps.trans ?_ (Keeps.new _ _)) | (refine Keeps.set ?_ (by omega) _)))
 ·rintro j0 fr st2' hlt ⟨f17,hI⟩ fi fn JJ hJJ
  have hd:=eds_drop m.g.es j0 hlt
  have hk3:j0 * 3 < m.g.es.length * 3:=by omega
  have hxin:m.g.es.getD j0 ed0∈m.g.es:=by rw [getE_lt _ _ hlt];exact List.getElem_mem _
  have hpos:=h.g.pos _ hxin
  have hg:=darts_get m.g.es j0 hlt
  generalize hx:m.g.es.getD j0 ed0=x at *
  obtain ⟨id,a,b⟩:=x
  simp only at hpos hd hg
  (repeat' (first | refine qS ?_ | refine qB ?_ | (refine w_e [] ?_;intro J hJ;simp only [];simp [fi,fn,f17,hd,hel,hk3];(repeat refine ca ?_);(refine hJ _ _ ?_;clear hJ J;simp only [ak,reduceIte]))))
  refine awp_rangeC 23 24 41 2 (fun j fr st2=>fr 17=.sl 0 m.g.es.length (eds m.g.es)∧fr 19=i j0∧fr 18=i m.g.es.length∧fr 8=.pt st2'.next 0∧st2.H st2'.next=.box 31 3 (edL ⟨id,a,b⟩)∧st2'.next < st2.next∧FcI m s1.next (s1.next+1+1) (s1.next+1) ma es4 st (2 * j0+j) fr st2) ?_ ?_ ?_
  ·exact ⟨by simp [f17],by simp [fi],by simp [fn],by simp,by simp,by simp,hI.fr (by simp) (by simp) (by simp) (Keeps.new _ _)⟩
  ·clear f17 fi fn hI fr
   rintro e fr st2 hle ⟨f17,f19,f18,f8,hX,hXl,hI⟩ fi J2 hJ2
   have hK:2 * j0+e < (darts m.g.es).length:=by omega
   have hKd:(darts m.g.es).getD (2 * j0+e) 0=2 * id+e:=by
    rcases Nat.lt_or_ge e 1 with h1 | h1
    ·obtain rfl:e=0:=by omega
     rw [Nat.add_zero,hg.1];omega
    ·obtain rfl:e=1:=by omega
     rw [hg.2];rfl
   have hdin:2 * id+(e:Int)∈darts m.g.es:=by rw [← hKd,getD_lt _ _ hK];exact List.getElem_mem _
   obtain ⟨f5,f6,h5,h4,ha,⟨es,hM,hSI⟩,hkp,hlt5,hlo5,t,R,f3,hL,⟨t0,t1,t2⟩,hH⟩:=hI
   (repeat' (first | refine qS ?_ | (refine w_e [] ?_;intro J hJ;simp only [];simp [f8,hX,fi];(try (refine hJ _ _ ?_;clear hJ J;simp only [ak,reduceIte])))))
   refine qE (dOf id e _ (by omega) (by omega) (by omega)) (by simp) ?_;rintro r s3 ⟨rfl,rfl⟩
   by_cases hs:SeenD (fc m m.g.es) (darts m.g.es) (2 * j0+e) (2 * id+e)
   ·have hg1:=(hSI _).1 hs
    have hs':=hs
    rw [← hKd] at hs'
    (repeat' (first | refine qS ?_ | (refine qK ?_;simp only [ak,reduceIte]) | (refine qC ?_;simp [f5,h5,hM,hg1]) | ((first | (refine w_e [] ?_;intro J hJ;simp only []) | (refine e_go ?_));simp [f5,h5,hM,hg1];(refine hJ _ _ ?_;clear hJ J;simp only [ak,reduceIte]))))
    refine hJ2 _ _ (by simp [fi]) ⟨by simp [f17],by simp [f19],by simp [f18],by simp [f8],hX,hXl,by simp [f5],by simp [f6],h5,h4,ha,⟨es,hM,hSI.congr fun v=>seenD_same hK hs'⟩,hkp,hlt5,hlo5,t,R,by simp [f3],.seen hL hK hs',⟨t0,t1,t2⟩,hH⟩
   ·have hg1:=(hSI _).2 hs
    have hs':=hs
    rw [← hKd] at hs'
    (repeat' (first | refine qS ?_ | (refine qC ?_;simp [f5,h5,hM,hg1,f6,f3]) | ((first | (refine w_e [] ?_;intro J hJ;simp only []) | (refine e_go ?_));simp [f5,h5,hM,hg1,f6,f3];(try (refine hJ _ _ ?_;clear hJ J;simp only [ak,reduceIte])))))
    refine qE (Walk m h (2 * id+e) _ _ _ _ es es4 _ _ he hdin h5 h4 hM ha hlt5 (by omega) hSI hB fun x hx hx2=>?_) (by simp) ?_
    ·obtain ⟨y,hy,hr⟩:=hx2
     exact hs ⟨y,hy,hr.trans (Orb.symm hP hx)⟩
    rintro r s4 ⟨⟨t',L,rfl,hc⟩,hoff,es',hM',hSI'⟩
    have hn4:=hoff.1
    have hLl:=(h.cyc_le hdin hc).2
    obtain ⟨Lr,hLr⟩:=IsCyc.head hc
    rw [← hKd] at hc
    have hmn:=(cyc_lead hP (darts_rise h.g.ids) (h.fc_dart _) hK hc).1 hs'
    have hnL:nrm L=L:=nrm_of_head hLr (hmn.trans hKd)
    have hSn:SeenI es' (SeenD (fc m m.g.es) (darts m.g.es) (2 * j0+e+1)):=hSI'.congr fun v=>by rw [seenD_succ hK,hKd]
    have hRl:=hL.len
    have hL2:=Lead.lead hL hK hs' hc
    obtain ⟨⟨l5,l4⟩,ls,la⟩:=hlt5
    obtain ⟨⟨o5,o4⟩,os,oa⟩:=hlo5
    have n1:¬ t=s1.next+1:=by rintro rfl;rw [hM] at hH;cases hH
    (repeat' (refine e_go ?_;simp [f6,f3]))
    refine qE (Normal L t' _ (by unfold small;omega)) (by simp) ?_;rintro r s5 ⟨rfl,hk5⟩
    have hn5:=hk5.next
    have g5:=(hk5.H _ (by omega)).trans ((hoff.2 _ (by omega) l5).trans h5)
    have g4:=(hk5.H _ (by omega)).trans ((hoff.2 _ (by omega) l4).trans h4)
    have ga:=(hk5.H _ (by omega)).trans ((hoff.2 _ (by omega) la).trans ha)
    have gs:=(hk5.H _ (by omega)).trans hM'
    have gt:=(hk5.H _ (by omega)).trans ((hoff.2 _ n1 t2).trans hH)
    have n2:¬ st2'.next=s1.next+1:=by intro e;rw [e,hM] at hX;cases hX
    have gX:=(hk5.H _ (by omega)).trans ((hoff.2 _ n2 hXl).trans hX)
    have m1:¬ t=s5.next:=by omega
    have m2:¬ t=s1.next:=by rintro rfl;rw [h4] at hH;cases hH
    have m3:¬ t=s1.next+1+1:=by rintro rfl;rw [h5] at hH;cases hH
    have m4:¬ t=ma:=by rintro rfl;rw [ha] at hH;cases hH
    have m5:¬ st2'.next=t:=by rintro rfl;rw [hX] at hH;cases hH
    rw [hnL]
    (repeat' (refine e_go ?_;simp [f3,gt,t0,m1];(repeat refine ca ?_);(refine hJ _ _ ?_;clear hJ J;simp only [ak,reduceIte])))
    refine hJ2 _ _ (by simp [fi]) ⟨by simp [f17],by simp [f19],by simp [f18],by simp [f8],?_,by simp;omega,by simp [f5],by simp [f6],?_,?_,?_,⟨es',?_,hSn⟩,?_,by simp;omega,by omega,s5.next+1,R++[L],by simp,hL2,⟨by omega,by omega,by simp⟩,by simp⟩
    ·rw [new_H,if_neg (by simp only [set_next,new_next];omega),set_H,if_neg (by omega),new_H,if_neg (by omega)];exact gX
    ·rw [new_H,if_neg (by simp only [set_next,new_next];omega),set_H,if_neg (by omega),new_H,if_neg (by omega)];exact g5
    ·rw [new_H,if_neg (by simp only [set_next,new_next];omega),set_H,if_neg (by omega),new_H,if_neg (by omega)];exact g4
    ·rw [new_H,if_neg (by simp only [set_next,new_next];omega),set_H,if_neg (by omega),new_H,if_neg (by omega)];exact ga
    ·rw [new_H,if_neg (by simp only [set_next,new_next];omega),set_H,if_neg (by omega),new_H,if_neg (by omega)];exact gs
    ·have hK3:Keeps st s5:=⟨by have:=hkp.next;omega,fun l hl=>(hk5.H l (by have:=hkp.next;omega)).trans ((hoff.2 l (by omega) (by have:=hkp.next;omega)).trans (hkp.H l hl))⟩
     exact ((hK3.trans (Keeps.new _ _)).set t1 _).trans (Keeps.new _ _)
  ·clear f17 fi fn hI fr
   rintro fr st2 ⟨f17,f19,f18,f8,hX,hXl,hI⟩
   skip
   exact hJJ _ _ (by simp [f19]) (by simp [f18]) ⟨by simp [f17],hI.fr (by simp) (by simp) (by simp) (Keeps.refl _)⟩
 ·rintro fr st2 ⟨f17,hI⟩
  obtain ⟨t,R,f3,hL,_⟩:=hI.rows
  (repeat' (first | refine qS ?_ | (refine qR ?_;simp only [ak,reduceIte];simp [f3]) | (refine w_e [] ?_;intro J hJ;simp only [];simp [f3];(refine hJ _ _ ?_;clear hJ J;simp only [ak,reduceIte]))))
  exact ⟨⟨t,R,rfl,by rw [hdl];exact hL⟩,hI.kp⟩
structure RfI (m:Mp) (st:St) (K:Nat) (fr:Frm) (st2:St):Prop where
 f1:fr 1=.pt st.next 0
 hG:st2.H st.next=.box 28 3 (mpL m)
 kp:Keeps st st2
 lt:st.next < st2.next
 rows:∃ t R,fr 3=.sl t R.length (rowsL3 R)∧Lead (fc m m.g.es) (darts m.g.es) K R∧(t≠0∧st.next < t∧t < st2.next)∧st2.H t=.own 22 1 R.length
theorem RfI.fr {m:Mp} {st:St} {K:Nat} {fr fr':Frm} {st2 st3:St} (h:RfI m st K fr st2) (h3:fr' 3=fr 3) (h1:fr' 1=fr 1) (hk:Keeps st2 st3):RfI m st K fr' st3:=by
 obtain ⟨f1,hG,kp,lt,t,R,f3,hL,⟨t0,t1,t2⟩,hH⟩:=h
 have:=hk.next
 exact ⟨h1.trans f1,(hk.H _ lt).trans hG,kp.trans hk,by omega,t,R,h3.trans f3,hL,⟨t0,t1,by omega⟩,(hk.H _ t2).trans hH⟩
theorem ref_Faces (m:Mp) (h:MapOk m) (st:St) (hv:m.g.vs.length≤1000) (he:m.g.es.length≤1000):
 ACalls Tryz.prog 59 [.ag (mpL m)] st (FacesP m st):=by
 have hel:=eds_length m.g.es
 have hdl:=darts_length m.g.es
 have hP:=h.fc_per m.g.es (fun x hx=>hx)
 refine qO tabOk Tryz.func59 rfl rfl Tryz.ntmps59 (rs:=[.tmp 2]) rfl (by simp) ?_
 (repeat' (first | refine qS ?_ | refine qB ?_ | (refine w_e [] ?_;intro J hJ;simp only [];simp [];(refine hJ _ _ ?_;clear hJ J;simp only [ak,reduceIte]))))
 refine awp_posG fun hpos=>?_
 refine awp_own 3 22 1 (by simp) ?_
 refine awp_range 12 11 13 39 (m.g.es.length) (fun j fr st2=>fr 10=.sl 0 m.g.es.length (eds m.g.es)∧RfI m st (2 * j) fr st2) ?_ ?_ ?_
 ·exact ⟨by simp,by simp,by simp,(Keeps.new _ _).trans (Keeps.new _ _),by simp;omega,st.next+1,[],by simp,.zero,⟨by omega,by omega,by simp⟩,by simp⟩
 ·rintro j fr s2 hlt ⟨f10,hI⟩ fi fn JJ hJJ
  have hd:=eds_drop m.g.es j hlt
  have hk3:j * 3 < m.g.es.length * 3:=by omega
  have hxin:m.g.es.getD j ed0∈m.g.es:=by rw [getE_lt _ _ hlt];exact List.getElem_mem _
  have hpos:=h.g.pos _ hxin
  have hg:=darts_get m.g.es j hlt
  generalize hx:m.g.es.getD j ed0=x at *
  obtain ⟨id,a,b⟩:=x
  simp only at hpos hd hg
  have w1:IntKind.u32.wrap (2 * id)=2 * id:=wrap_u32' _ (by omega) (by omega)
  have w2:IntKind.u32.wrap (2 * id+2)=2 * id+2:=wrap_u32' _ (by omega) (by omega)
  (repeat' (first | refine qS ?_ | refine qB ?_ | (refine w_e [] ?_;intro J hJ;simp only [];simp [fi,fn,f10,hd,hel,hk3,w1,w2];(repeat refine ca ?_);(refine hJ _ _ ?_;clear hJ J;simp only [ak,reduceIte]))))
  refine qL (fun n fr st2=>∃ e:Nat,e≤2∧n=2 - e∧fr 6=u (2 * id+e)∧fr 5=.pt s2.next 0∧fr 10=.sl 0 m.g.es.length (eds m.g.es)∧fr 12=i j∧fr 11=i m.g.es.length∧st2.H s2.next=.box 31 3 (edL ⟨id,a,b⟩)∧s2.next < st2.next∧RfI m st (2 * j+e) fr st2) 2 ?_ ?_
  ·exact ⟨0,by omega,by omega,by simp,by simp,by simp [f10],by simp [fi],by simp [fn],by simp,by simp,hI.fr (by simp) (by simp) (Keeps.new _ _)⟩
  clear f10 fi fn hI fr
  rintro n fr st2 ⟨e,hle,rfl,f6,f5,f10,f12,f11,hX,hXl,hI⟩ J2 hJ2
  rcases Nat.lt_or_ge e 2 with he2 | he2
  rotate_left
  ·clear hJ2
   obtain rfl:e=2:=by omega
   (repeat' (first | refine qS ?_ | (refine qX ?_;simp only [ak,reduceIte]) | (refine qC ?_;simp [f6,f5,hX,w1,w2]) | (refine w_e [] ?_;intro J hJ;simp only [];simp [f6,f5,hX,w1,w2];(refine hJ _ _ ?_;clear hJ J;simp only [ak,reduceIte]))))
   exact hJJ _ _ (by simp [f12]) (by simp [f11]) ⟨by simp [f10],hI.fr (by simp) (by simp) (Keeps.refl _)⟩
  clear hJJ
  have hK:2 * j+e < (darts m.g.es).length:=by omega
  have hKd:(darts m.g.es).getD (2 * j+e) 0=2 * id+e:=by
   rcases Nat.lt_or_ge e 1 with h1 | h1
   ·obtain rfl:e=0:=by omega
    rw [Nat.add_zero,hg.1];omega
   ·obtain rfl:e=1:=by omega
    rw [hg.2];rfl
  have hdin:2 * id+(e:Int)∈darts m.g.es:=by rw [← hKd,getD_lt _ _ hK];exact List.getElem_mem _
  have w3:IntKind.u32.wrap (2 * id+e+1)=2 * id+((e+1:Nat):Int):=by rw [wrap_u32' _ (by omega) (by omega)];omega
  have hcmp:2 * id+(e:Int) < 2 * id+2:=by omega
  obtain ⟨f1,hG,hkp,hlo,t,R,f3,hL,⟨t0,t1,t2⟩,hH⟩:=hI
  have hRl:=hL.len
  (repeat' (first | refine qS ?_ | refine qB ?_ | (refine qK ?_;simp only [ak,reduceIte]) | (refine qC ?_;simp [f6,f5,hX,w1,w2,f1,hG,hcmp]) | (refine w_e [] ?_;intro J hJ;simp only [];simp [f6,f5,hX,w1,w2,f1,hG,hcmp];(try (refine hJ _ _ ?_;clear hJ J;simp only [ak,reduceIte])))))
  refine qE (ref_Face m h (2 * id+e) _ hv he) (by simp) ?_;rintro r s3 ⟨⟨c,rfl,hc⟩,hk3⟩
  rcases hc with ⟨_,L,hc,rfl⟩ | ⟨hno,_⟩
  rotate_left
  ·exact absurd hdin hno
  have hcl:=(h.cyc_le hdin hc).2
  obtain ⟨Lr,hLr⟩:=IsCyc.head hc
  obtain ⟨nr,hnr⟩:=nrm_head L hc.ne
  have hnl:(nrm L).length=L.length:=nrm_length L
  have hc':=hc
  rw [← hKd] at hc'
  have hld:=cyc_lead hP (darts_rise h.g.ids) (h.fc_dart _) hK hc'
  rw [hKd] at hld
  have hL0:0 < (nrm L).length:=by rw [hnr];simp
  have hn3:=hk3.next
  have gX:=(hk3.H _ hXl).trans hX
  have gH:=(hk3.H _ t2).trans hH
  have m1:¬ t=s3.next:=by omega
  have m5:¬ s2.next=t:=by rintro rfl;rw [hX] at hH;cases hH
  by_cases hs:SeenD (fc m m.g.es) (darts m.g.es) (2 * j+e) (2 * id+e)
  ·have hmn:¬ mn L=2 * id+e:=fun e1=>(hld.2 e1) hs
   have hL2:=Lead.seen hL hK (by rw [hKd];exact hs)
   (repeat' (first | refine qS ?_ | (refine qK ?_;simp only [ak,reduceIte]) | (refine qC ?_;simp [f6,hnr,hmn,hL0,w3]) | ((first | (refine w_e [] ?_;intro J hJ;simp only []) | (refine e_go ?_));simp [f6,hnr,hmn,hL0,w3];(refine hJ _ _ ?_;clear hJ J;simp only [ak,reduceIte]))))
   exact hJ2 (2 - (e+1)) _ _ (by omega) ⟨e+1,by omega,rfl,by simp,by simp [f5],by simp [f10],by simp [f12],by simp [f11],gX,by omega,by simp [f1],(hk3.H _ hlo).trans hG,hkp.trans hk3,by omega,t,R,by simp [f3],hL2,⟨t0,t1,by omega⟩,gH⟩
  ·have hmn:=hld.1 hs
   have hnL:nrm L=L:=nrm_of_head hLr hmn
   have hL2:=Lead.lead hL hK (by rw [hKd];exact hs) hc'
   rw [hnL]
   subst hLr
   (repeat' (first | refine qS ?_ | (refine qC ?_;simp [f6,w3,f3,gH,t0,m1]) | ((first | (refine w_e [] ?_;intro J hJ;simp only []) | (refine e_go ?_));simp [f6,w3,f3,gH,t0,m1];(repeat refine ca ?_);(refine hJ _ _ ?_;clear hJ J;simp only [ak,reduceIte]))))
   exact hJ2 (2 - (e+1)) _ _ (by omega) ⟨e+1,by omega,rfl,by simp,by simp [f5],by simp [f10],by simp [f12],by simp [f11],by rw [new_H,if_neg (by simp only [set_next,new_next];omega),set_H,if_neg m5,new_H,if_neg (by omega)];exact gX,by simp;omega,by simp [f1],by rw [new_H,if_neg (by simp only [set_next,new_next];omega),set_H,if_neg (by omega),new_H,if_neg (by omega)];exact (hk3.H _ hlo).trans hG,(((hkp.trans hk3).trans (Keeps.new _ _)).set (by omega) _).trans (Keeps.new _ _),by simp;omega,s3.next+1,R++[(2 * id+e)::Lr],by simp,hL2,⟨by omega,by omega,by simp⟩,by simp⟩
 ·rintro fr st2 ⟨f10,hI⟩
  obtain ⟨t,R,f3,hL,_⟩:=hI.rows
  (repeat' (first | refine qS ?_ | (refine qR ?_;simp only [ak,reduceIte];simp [f3]) | (refine w_e [] ?_;intro J hJ;simp only [];simp [f3];(refine hJ _ _ ?_;clear hJ J;simp only [ak,reduceIte]))))
  exact ⟨⟨t,R,rfl,by rw [hdl];exact hL⟩,hI.kp⟩
def FacesOf (m:Mp) (R:List (List Int)):Prop:=Lead (fc m m.g.es) (darts m.g.es) (darts m.g.es).length R
section
variable {m:Mp} (h:MapOk m) {R:List (List Int)} (hR:FacesOf m R)
include h hR
theorem faces_perm:R.flatten.Perm (darts m.g.es):=Lead.count (h.fc_per m.g.es fun x hx=>hx) (h.fc_dart _) (rise_nodup (darts_rise h.g.ids)) hR
theorem faces_cyc {c:List Int} (hc:c∈R):∃ e∈darts m.g.es,IsCyc (fc m m.g.es) e c∧mn c=e:=Lead.cyc (h.fc_per m.g.es fun x hx=>hx) (h.fc_dart _) (darts_rise h.g.ids) hR c hc
theorem faces_in {d:Int} (hd:d∈darts m.g.es):∃ k,k < R.length∧tix R d=(k:Int)∧d∈R.getD k []:=by
 refine tix_in ?_
 have:=(faces_perm h hR).mem_iff.2 hd
 obtain ⟨t,ht,h1⟩:=List.mem_flatten.1 this
 exact ⟨t,ht,h1⟩
end
def turnOf (rs:List (List Int)) (d:Int):List Int:=if 0≤tix rs d then rs.getD (tix rs d).toNat [] else []
theorem turnOf_some {rs:List (List Int)} {d:Int} {k:Nat} (h:tix rs d=(k:Int)):turnOf rs d=rs.getD k []:=by
 unfold turnOf;rw [h,if_pos (by omega)];rfl
theorem turnOf_none {rs:List (List Int)} {d:Int} (h:tix rs d = -1):turnOf rs d=[]:=by
 unfold turnOf;rw [h,if_neg (by omega)]
def rFaceP (m:Mp) (d:Int) (st:St) (r:LV) (st':St):Prop:=(∃ R t,FacesOf m R∧r=.sl t (turnOf R d).length (us (turnOf R d)))∧Keeps st st'
theorem rFace (m:Mp) (h:MapOk m) (d:Int) (st:St) (hv:m.g.vs.length≤1000) (he:m.g.es.length≤1000):
 ACalls Tryz.prog 14 [.ag (mpL m),u d] st (rFaceP m d st):=by
 refine acalls_norm ?_
 refine qO tabOk Tryz.func14 rfl rfl Tryz.ntmps14 (rs:=[.tmp 4]) rfl (by simp) ?_
 (repeat' (first | refine qS ?_ | (refine w_e [] ?_;intro J hJ;simp only [];simp [];(try (refine hJ _ _ ?_;clear hJ J;simp only [ak,reduceIte])))))
 refine qE (Faces m h _ hv he) (by simp) ?_;rintro r s1 ⟨⟨t0,R,rfl,hR⟩,hk1⟩
 have hRl:=hR.len
 have hdl:=darts_length m.g.es
 have hrow:∀ c∈R,small c:=fun c hc=>by
  obtain ⟨e,he',h1,_⟩:=faces_cyc h hR hc
  have:=(h.cyc_le he' h1).2
  unfold small;omega
 (repeat' (first | refine qB ?_ | (refine e_go ?_;simp [];(refine hJ _ _ ?_;clear hJ J;simp only [ak,reduceIte]))))
 refine awp_range 10 9 11 18 (R.length) (fun j fr st2=>fr 1=u d∧fr 8=.sl t0 R.length (rowsL3 R)∧Keeps st st2∧∀ k,k < j→d∉R.getD k []) ?_ ?_ ?_
 ·exact ⟨by simp,by simp,(Keeps.new _ _).trans hk1,fun k hk=>by omega⟩
 ·rintro j fr st2 hlt ⟨f1,f8,hkp,hno⟩ fi fn JJ hJJ
  have hd:=rowsL_drop R j hlt
  have hRl:j < (rowsL R).length:=by simpa using hlt
  have htin:R.getD j []∈R:=by rw [getR_lt _ _ hlt];exact List.getElem_mem _
  have hsm:=hrow _ htin
  have hso:=fun h=>turnOf_some (tix_some (d:=d) hlt h hno)
  have hnn:d∉R.getD j []→∀ k,k < j+1→d∉R.getD k []:=fun h k hk=>by
   rcases Nat.lt_or_ge k j with h1 | h1
   ·exact hno k h1
   ·obtain rfl:k=j:=by omega
    exact h
  generalize R.getD j []=t at *
  (repeat' (first | refine qS ?_ | (refine w_e [] ?_;intro J hJ;simp only [];simp [f1,f8,fi,fn,hd,hRl,hlt];(try (refine hJ _ _ ?_;clear hJ J;simp only [ak,reduceIte])))))
  refine qE (Contains t 0 d _ hsm) (by simp) ?_;rintro r s3 ⟨rfl,rfl⟩
  by_cases hdt:d∈t
  ·have hr:=hso hdt
   (repeat' (first | refine qS ?_ | (refine qR ?_;simp only [ak,reduceIte];simp [hdt]) | (refine qC ?_;simp [hdt]) | ((first | (refine w_e [] ?_;intro J hJ;simp only []) | (refine e_go ?_));simp [hdt];(refine hJ _ _ ?_;clear hJ J;simp only [ak,reduceIte]))))
   exact ⟨⟨R,_,hR,by rw [hr]⟩,hkp⟩
  ·(repeat' (first | (refine qK ?_;simp only [ak,reduceIte]) | (refine qC ?_;simp [hdt]) | (refine e_go ?_;simp [hdt];(refine hJ _ _ ?_;clear hJ J;simp only [ak,reduceIte]))))
   exact hJJ _ _ (by simp [fi]) (by simp [fn]) ⟨by simp [f1],by simp [f8],hkp,hnn hdt⟩
 ·rintro fr st2 ⟨f1,f8,hkp,hno⟩
  have hr:=turnOf_none (tix_none hno)
  (repeat' (first | refine qS ?_ | (refine qR ?_;simp only [ak,reduceIte];simp []) | (refine w_e [] ?_;intro J hJ;simp only [];simp [];(refine hJ _ _ ?_;clear hJ J;simp only [ak,reduceIte]))))
  exact ⟨⟨R,0,hR,by rw [hr];rfl⟩,hkp⟩
theorem turn_of_dart {m:Mp} (h:MapOk m) {d:Int} (hd:d∈darts m.g.es):turnOf m.rots d∈m.rots∧d∈turnOf m.rots d:=by
 obtain ⟨t,ht,hdt⟩:=h.turn_of hd
 obtain ⟨k,hk,h1,h2⟩:=tix_in ⟨t,ht,hdt⟩
 rw [turnOf_some h1]
 exact ⟨by rw [getR_lt _ _ hk];exact List.getElem_mem _,h2⟩
end Go.Proofs.YtglkgindpjdoiaaGreat.Aw
namespace Go.Proofs.YtglkgindpjdoiaaGreat.Aw
open Go Go.RowKit Go.Proofs.YtglkgindpjdoiaaGreat.Pl
set_option linter.unusedSimpArgs false
set_option linter.unusedVariables false
end Go.Proofs.YtglkgindpjdoiaaGreat.Aw
namespace Go.Proofs.YtglkgindpjdoiaaGreat.Aw
open Go Go.RowKit Go.Proofs.YtglkgindpjdoiaaGreat.Pl Go.Proofs.YtglkgindpjdoiaaGreat.Eu
set_option linter.unusedSimpArgs false
set_option linter.unusedVariables false
theorem getD_mem {l:List Int} {k:Nat} (h:k < l.length):l.getD k 0∈l:=by rw [getD_lt _ _ h];exact List.getElem_mem _
structure Iso (a b:Mp) (P:Int→Prop) (φ:Int→Int):Prop where
 dart:∀ x,P x→x∈darts a.g.es
 to:∀ x,P x→φ x∈darts b.g.es
 inj:∀ x y,P x→P y→φ x=φ y→x=y
 tw:∀ x,P x→P (tw x)∧φ (tw x)=tw (φ x)
 sg:∀ x,P x→P (sg a x)∧φ (sg a x)=sg b (φ x)
section
variable {a b:Mp} (ha:MapOk a) (hb:MapOk b) {P:Int→Prop} {φ:Int→Int} (h:Iso a b P φ)
include h
include ha hb
end
end Go.Proofs.YtglkgindpjdoiaaGreat.Aw
namespace Go.Proofs.YtglkgindpjdoiaaGreat.Aw
open Go Go.RowKit Go.Proofs.YtglkgindpjdoiaaGreat.Pl
set_option linter.unusedSimpArgs false
set_option linter.unusedVariables false
end Go.Proofs.YtglkgindpjdoiaaGreat.Aw
namespace Go.Proofs.YtglkgindpjdoiaaGreat.Aw
open Go Go.RowKit Go.Proofs.YtglkgindpjdoiaaGreat.Pl Go.Proofs.YtglkgindpjdoiaaGreat.Eu
set_option linter.unusedSimpArgs false
set_option linter.unusedVariables false
end Go.Proofs.YtglkgindpjdoiaaGreat.Aw
namespace Go.Proofs.YtglkgindpjdoiaaGreat.Aw
open Go Go.RowKit Go.Proofs.YtglkgindpjdoiaaGreat.Pl
set_option linter.unusedSimpArgs false
set_option linter.unusedVariables false
end Go.Proofs.YtglkgindpjdoiaaGreat.Aw
namespace Go.Proofs.YtglkgindpjdoiaaGreat.Aw
open Go Go.RowKit
set_option linter.unusedSimpArgs false
set_option linter.unusedVariables false
end Go.Proofs.YtglkgindpjdoiaaGreat.Aw
namespace Go.Proofs.YtglkgindpjdoiaaGreat.Aw
open Go Go.RowKit Go.Proofs.YtglkgindpjdoiaaGreat.Pl
set_option linter.unusedSimpArgs false
set_option linter.unusedVariables false
theorem ref_Chk (g:Gr) (st:St):ACalls Tryz.prog 54 [.ag (grL g)] st fun r st'=>r=i (chk g)∧Keeps st st':=by
 by_cases h1:(64:Int) < (g.vs.length:Int)
 ·have:chk g=6:=by unfold chk;rw [if_pos (by omega)]
  refine qO tabOk Tryz.func54 rfl rfl Tryz.ntmps54 (rs:=[.tmp 2]) rfl (by simp) ?_
  (repeat' (first | refine qS ?_ | (refine qR ?_;simp only [ak,reduceIte];simp [h1,this]) | (refine qC ?_;simp [h1,this]) | (refine w_e [] ?_;intro J hJ;simp only [];simp [h1,this];(refine hJ _ _ ?_;clear hJ J;simp only [ak,reduceIte]))))
  exact Keeps.new _ _
 by_cases h2:(160:Int) < (g.es.length:Int)
 ·have:chk g=6:=by unfold chk;rw [if_pos (by omega)]
  refine qO tabOk Tryz.func54 rfl rfl Tryz.ntmps54 (rs:=[.tmp 2]) rfl (by simp) ?_
  (repeat' (first | refine qS ?_ | (refine qR ?_;simp only [ak,reduceIte];simp [h1,h2,this]) | (refine qC ?_;simp [h1,h2,this]) | (refine w_e [] ?_;intro J hJ;simp only [];simp [h1,h2,this];(refine hJ _ _ ?_;clear hJ J;simp only [ak,reduceIte]))))
  exact Keeps.new _ _
 exact ref_Check g st (by omega) (by omega)
end Go.Proofs.YtglkgindpjdoiaaGreat.Aw
namespace Go.Proofs.YtglkgindpjdoiaaGreat.Aw
open Go Go.RowKit Go.Proofs.YtglkgindpjdoiaaGreat.Pl Go.Proofs.YtglkgindpjdoiaaGreat.Eu
set_option linter.unusedSimpArgs false
set_option linter.unusedVariables false
theorem perm_of_sub:∀ {a b:List Int},a.Nodup→(∀ x∈a,x∈b)→b.length≤a.length→a.Perm b
 | [],b,_,_,hl=>by
   have:b=[]:=List.eq_nil_of_length_eq_zero (by simpa using hl)
   rw [this]
 | x::a,b,hn,hs,hl=>by
   rw [List.nodup_cons] at hn
   have hxb:x∈b:=hs x List.mem_cons_self
   have p1:b.Perm (x::b.erase x):=List.perm_cons_erase hxb
   refine List.Perm.trans (List.Perm.cons x (perm_of_sub hn.2 (fun y hy=>?_) ?_)) p1.symm
   ·have hne:y≠x:=by rintro rfl;exact hn.1 hy
    exact (List.mem_erase_of_ne hne).2 (hs y (List.mem_cons_of_mem _ hy))
   ·have:=p1.length_eq
    simp only [List.length_cons] at this hl
    omega
theorem okTurn.head {es:List Ed} (hi:es.Pairwise (fun x y=>x.id < y.id)) {v:Int} {t:List Int} (h:okTurn es v t):t.getD 0 0=(ends es v).getD 0 0:=by
 cases he:ends es v with
 | nil=>have:=h.1;rw [he] at this;rw [this.eq_nil]
 | cons a r=>
   have hr:=ends_rise hi v
   rw [he,List.pairwise_cons] at hr
   have hp:=h.1
   rw [he] at hp
   have hne:t≠[]:=by rintro rfl;have:=hp.length_eq;simp at this
   obtain ⟨z,hz⟩:=nrm_head t hne
   rw [h.2] at hz
   have hm:mn t=a:=by
    refine mn_eq (hp.mem_iff.2 List.mem_cons_self) fun x hx=>?_
    rcases List.mem_cons.1 (hp.mem_iff.1 hx) with rfl | h1
    ·exact Int.le_refl _
    ·have:=hr.1 x h1;omega
   rw [hz,hm];rfl
theorem okTurn.of {es:List Ed} (hi:es.Pairwise (fun x y=>x.id < y.id)) {v:Int} {t:List Int} (h0:t≠[]→t.getD 0 0=(ends es v).getD 0 0) (hp:t.Perm (ends es v)):okTurn es v t:=by
 refine ⟨hp,?_⟩
 cases t with
 | nil=>rfl
 | cons a r=>
   refine nrm_of_head rfl (mn_eq List.mem_cons_self fun x hx=>?_)
   have h1:=h0 (by simp)
   cases he:ends es v with
   | nil=>rw [he] at hp;have:=hp.length_eq;simp at this
   | cons b s=>
     have hr:=ends_rise hi v
     rw [he] at h1 hp
     rw [he,List.pairwise_cons] at hr
     have h1:a=b:=by simpa using h1
     subst h1
     rcases List.mem_cons.1 (hp.mem_iff.1 hx) with rfl | h2
     ·exact Int.le_refl _
     ·have:=hr.1 x h2;omega
def rok (m:Mp) (k:Nat):Prop:=okTurn m.g.es (m.g.vs.getD k 0) (m.rots.getD k [])
noncomputable def rchk (m:Mp):Int:=if chk m.g≠0 then chk m.g else if m.rots.length≠m.g.vs.length then 22 else @ite _ (∀ k,k < m.g.vs.length→rok m k) (Classical.propDecidable _) 0 22
theorem rchk_g {m:Mp} (h:chk m.g≠0):rchk m=chk m.g:=by unfold rchk;rw [if_pos h]
theorem rchk_len {m:Mp} (h:chk m.g=0) (h1:m.rots.length≠m.g.vs.length):rchk m=22:=by unfold rchk;rw [if_neg (fun e=>e h),if_pos h1]
theorem rchk_bad {m:Mp} (h:chk m.g=0) {k:Nat} (hk:k < m.g.vs.length) (h1:¬ rok m k):rchk m=22:=by
 unfold rchk
 rw [if_neg (fun e=>e h)]
 split
 ·rfl
 ·rw [if_neg (fun e=>h1 (e k hk))]
theorem rchk_ok {m:Mp} (h:chk m.g=0) (h1:m.rots.length=m.g.vs.length) (h2:∀ k,k < m.g.vs.length→rok m k):rchk m=0:=by
 unfold rchk
 rw [if_neg (fun e=>e h),if_neg (fun e=>e h1),if_pos h2]
theorem rchk_zero {m:Mp} (h:rchk m=0):chk m.g=0∧MapOk m:=by
 by_cases h0:chk m.g=0
 ·refine ⟨h0,?_⟩
  by_cases h1:m.rots.length=m.g.vs.length
  ·refine ⟨chk_goodE h0,h1,fun k hk=>?_⟩
   refine Classical.byContradiction fun hn=>?_
   rw [rchk_bad h0 hk hn] at h;cases h
  ·rw [rchk_len h0 h1] at h;cases h
 ·rw [rchk_g h0] at h;exact absurd h h0
theorem Values (l:List Int) (t:Nat) (st:St):ACalls Tryz.prog 85 [.sl t l.length (us l)] st fun r st'=>r=.fn (.func 116) [.pt st.next 0]∧st'=st.new (.box 22 1 [.sl t l.length (us l)]):=by
 refine qO tabOk Tryz.func85 rfl rfl Tryz.ntmps85 (rs:=[.tmp 2]) rfl (by simp) ?_
 (repeat' (first | refine qS ?_ | (refine qR ?_;simp only [ak,reduceIte];simp []) | (refine w_e [] ?_;intro J hJ;simp only [];simp [];(refine hJ _ _ ?_;clear hJ J;simp only [ak,reduceIte]))))
theorem Sorted (l:List Int) (t q:Nat) (st:St) (hl:l.length < 65536) (hH:st.H q=.box 22 1 [.sl t l.length (us l)]):
 ACalls Tryz.prog 84 [.fn (.func 116) [.pt q 0]] st fun r st'=>∃ c,r=.sl 0 c.length (us c)∧c.Perm l∧c.Pairwise (·≤·)∧Keeps st st':=by
 refine acalls_freeze ?_
 refine qO tabOk Tryz.func84 rfl rfl Tryz.ntmps84 (rs:=[.tmp 2]) rfl (by simp) ?_
 (repeat' (first | refine qS ?_ | (refine w_e [] ?_;intro J hJ;simp only [];simp [];(try (refine hJ _ _ ?_;clear hJ J;simp only [ak,reduceIte])))))
 refine qE (Collect l (.sl t l.length (us l)) q _ (by omega) hH rfl) (by simp) ?_;rintro r s1 ⟨rfl,rfl⟩
 (repeat' (first | refine qS ?_ | ((first | (refine w_e [] ?_;intro J hJ;simp only []) | (refine e_go ?_));simp [];(try (refine hJ _ _ ?_;clear hJ J;simp only [ak,reduceIte])))))
 refine qE (SortU l st.next _ hl (by simp) (by simp)) (by simp) ?_;rintro r s2 ⟨c,hB,hp,hs,hoff⟩
 have hn2:=hoff.1
 simp only [new_next] at hn2
 have hK:Keeps st s2:=⟨by omega,fun l' hl'=>(hoff.2 l' (by omega) (by simp;omega)).trans ((Keeps.new st _).H l' hl')⟩
 have hcl:=hp.length_eq
 (repeat' (first | refine qS ?_ | (refine qR ?_;simp only [ak,reduceIte];simp []) | ((first | (refine w_e [] ?_;intro J hJ;simp only []) | (refine e_go ?_));simp [];(refine hJ _ _ ?_;clear hJ J;simp only [ak,reduceIte]))))
 refine ⟨st.next,l.length,⟨rfl,rfl⟩,_,_,_,hB,by simp;omega,c,?_,hp,hs,hK.set (Nat.le_refl _) _⟩
 rw [List.take_of_length_le (by simp;omega)]
 simp [hcl]
set_option maxHeartbeats 1000000 in
theorem rCheck (m:Mp) (st:St) (hv:m.g.vs.length≤1000) (he:m.g.es.length≤1000) (hr:m.rots.length≤1000) (hs:∀ t∈m.rots,t.length≤1000):
 ACalls Tryz.prog 51 [.ag (mpL m)] st fun r st'=>r=i (rchk m)∧Keeps st st':=by
 refine qO tabOk Tryz.func51 rfl rfl Tryz.ntmps51 (rs:=[.tmp 2]) rfl (by simp) ?_
 (repeat' (first | refine qS ?_ | (refine w_e [] ?_;intro J hJ;simp only [];simp [];(try (refine hJ _ _ ?_;clear hJ J;simp only [ak,reduceIte])))))
 refine qE (Check m.g _ hv he) (by simp) ?_;rintro r s1 ⟨rfl,hk1⟩
 have hn1:=hk1.next
 simp only [new_next] at hn1
 have hG1:s1.H st.next=.box 28 3 (mpL m):=by rw [hk1.H _ (by simp)];simp
 have hK1:Keeps st s1:=(Keeps.new _ _).trans hk1
 by_cases hc:chk m.g=0
 rotate_left
 ·have hrc:=rchk_g hc
  generalize chk m.g=x at *
  (repeat' (first | refine qS ?_ | (refine qR ?_;simp only [ak,reduceIte];simp [hc,hrc]) | (refine qC ?_;simp [hc,hrc]) | ((first | (refine w_e [] ?_;intro J hJ;simp only []) | (refine e_go ?_));simp [hc,hrc];(refine hJ _ _ ?_;clear hJ J;simp only [ak,reduceIte]))))
  exact hK1
 have hgd:=chk_goodE hc
 have hid:idOk m.g.es:=fun x hx=>by have:=hgd.pos x hx;omega
 by_cases hl:m.rots.length=m.g.vs.length
 rotate_left
 ·have hrc:=rchk_len hc hl
  (repeat' (first | refine qS ?_ | (refine qK ?_;simp only [ak,reduceIte]) | (refine qR ?_;simp only [ak,reduceIte];simp [hc,hrc,hG1,hl]) | (refine qC ?_;simp [hc,hrc,hG1,hl];(try with_reducible refine ⟨?_,?_⟩)<;>(try with_reducible intro hc)<;>try (exfalso;omega)) | ((first | (refine w_e [] ?_;intro J hJ;simp only []) | (refine e_go ?_));simp [hc,hrc,hG1,hl];(refine hJ _ _ ?_;clear hJ J;simp only [ak,reduceIte]))))
  exact hK1
 (repeat' (first | refine qS ?_ | refine qB ?_ | (refine qK ?_;simp only [ak,reduceIte]) | (refine qC ?_;simp [hc,hG1,hl]) | ((first | (refine w_e [] ?_;intro J hJ;simp only []) | (refine e_go ?_));simp [hc,hG1,hl];(refine hJ _ _ ?_;clear hJ J;simp only [ak,reduceIte]))))
 refine awp_range 26 25 27 63 (m.g.vs.length) (fun j fr st2=>fr 1=.pt st.next 0∧fr 24=.sl 0 m.g.vs.length (us m.g.vs)∧st2.H st.next=.box 28 3 (mpL m)∧Keeps st st2∧st.next < st2.next∧∀ k,k < j→rok m k) ?_ ?_ ?_
 ·exact ⟨by simp,by simp,hG1,hK1,by omega,fun k hk=>by omega⟩
 ·rintro j fr st2 hlt ⟨f1,f24,hG,hkp,hsn,hok⟩ fi fn JJ hJJ
  have hd:=qG m.g.vs j hlt
  have hd2:=rowsL_drop m.rots j (by omega)
  have hRl:j < (rowsL m.rots).length:=by simp;omega
  have htin:m.rots.getD j []∈m.rots:=by rw [getR_lt _ _ (by omega)];exact List.getElem_mem _
  have htl:=hs _ htin
  have hbad:=fun h=>rchk_bad hc hlt h
  have hnx:rok m j→∀ k,k < j+1→rok m k:=fun h k hk=>by
   rcases Nat.lt_or_ge k j with h1 | h1
   ·exact hok k h1
   ·obtain rfl:k=j:=by omega
    exact h
  unfold rok at hbad hnx
  have hel:(ends m.g.es (m.g.vs.getD j 0)).length≤2 * m.g.es.length:=flat_len _ (end1_len _) _
  have hhd:=@okTurn.head m.g.es hgd.ids (m.g.vs.getD j 0) (m.rots.getD j [])
  have hof:=@okTurn.of m.g.es hgd.ids (m.g.vs.getD j 0) (m.rots.getD j [])
  have hrise:=ends_rise hgd.ids (m.g.vs.getD j 0)
  have hpm:okTurn m.g.es (m.g.vs.getD j 0) (m.rots.getD j [])→(m.rots.getD j []).Perm (ends m.g.es (m.g.vs.getD j 0)):=fun h=>h.1
  generalize okTurn m.g.es (m.g.vs.getD j 0) (m.rots.getD j [])=OK at *
  generalize m.rots.getD j []=t at *
  generalize m.g.vs.getD j 0=v at *
  (repeat' (first | refine qS ?_ | (refine w_e [] ?_;intro J hJ;simp only [];simp [f24,fi,fn,hd,hlt];(refine hJ _ _ ?_;clear hJ J;simp only [ak,reduceIte]))))
  (refine w_s [] [st.next] [(0,true),(1,true),(2,true),(3,true),(4,true),(5,true),(6,true),(7,true),(8,true),(9,true),(10,true)] ?_;intro J hJ;simp [f1,fi,hG,hd2,hRl,hlt,hl])
  refine qD (Ends m.g v _ he hid) (by simp) ?_;rintro r s3 ⟨⟨te,rfl⟩,hk3⟩
  have hn3:=hk3.next
  have hG3:=(hk3.H st.next (by omega)).trans hG
  have hK3:=hkp.trans hk3
  refine ⟨fun _=>by simp [hG3,hG],?_⟩
  (refine d_go ?_;simp [f1,fi,hG3,hG,hd2,hRl,hlt,hl];(refine hJ _ _ ?_;clear hJ J;simp only [ak,reduceIte]))
  generalize ends m.g.es v=E at *
  by_cases h1:t.length=E.length
  rotate_left
  ·have hrc:=hbad fun h=>h1 (hpm h).length_eq
   (repeat' (first | refine qS ?_ | (refine qR ?_;simp only [ak,reduceIte];simp [h1,hrc]) | (refine qC ?_;simp [h1,hrc];(try with_reducible refine ⟨?_,?_⟩)<;>(try with_reducible intro hc)<;>try (exfalso;omega)) | (refine w_e [] ?_;intro J hJ;simp only [];simp [h1,hrc];(refine hJ _ _ ?_;clear hJ J;simp only [ak,reduceIte]))))
   exact hK3
  by_cases hb:t.length≠0∧t.getD 0 0≠E.getD 0 0
  ·have h0:0 < t.length:=by omega
   have h0':0 < E.length:=by omega
   have e1:=us_head t h0
   have e2:=us_head E h0'
   have e3:¬ t[0]=E[0]:=by have:=hb.2;rwa [getD_lt _ _ h0,getD_lt _ _ h0'] at this
   have hrc:=hbad fun h=>hb.2 (hhd h)
   (repeat' (first | refine qS ?_ | (refine qK ?_;simp only [ak,reduceIte]) | (refine qR ?_;simp only [ak,reduceIte];simp [h1,hrc,e1,e2,e3,h0',h0]) | (refine qC ?_;simp [h1,hrc,e1,e2,e3,h0',h0]) | ((first | (refine w_e [] ?_;intro J hJ;simp only []) | (refine w_q ?_;intro J hJ));simp [h1,hrc,e1,e2,e3,h0',h0];(refine hJ _ _ ?_;clear hJ J;simp only [ak,reduceIte]))))
   exact hK3
  have hof2:=hof fun hne=>Classical.byContradiction fun e=>hb ⟨fun h=>hne (List.eq_nil_of_length_eq_zero h),e⟩
  rcases Nat.eq_zero_or_pos t.length with h0 | h0
  ·have h0e:E.length=0:=by omega
   (repeat' (first | refine qS ?_ | (refine qK ?_;simp only [ak,reduceIte]) | (refine qC ?_;simp [h0,h0e]) | ((first | (refine w_e [] ?_;intro J hJ;simp only []) | (refine w_q ?_;intro J hJ));simp [h0,h0e];(try (refine hJ _ _ ?_;clear hJ J;simp only [ak,reduceIte])))))
   refine qE (Values t 0 _) (by simp<;>omega) ?_;rintro r s4 ⟨rfl,rfl⟩
   (repeat' (refine e_go ?_;simp []))
   refine qE (Sorted t 0 s3.next _ (by omega) (by simp)) (by simp) ?_;rintro r s5 ⟨c,rfl,hp,hsrt,hk5⟩
   have hK5:=(hK3.trans (Keeps.new _ _)).trans hk5
   have hn5:=hk5.next
   have hG5:=(hk5.H st.next (by simp;omega)).trans (((Keeps.new s3 _).H st.next (by omega)).trans hG3)
   simp only [new_next] at hn5
   (repeat' (refine e_go ?_;simp []))
   refine qE (Equal c E 0 te _ (by have:=hp.length_eq;unfold small;omega)) (by simp<;>omega) ?_;rintro r s6 ⟨rfl,rfl⟩
   by_cases h3:c=E
   ·(repeat' (first | (refine qK ?_;simp only [ak,reduceIte]) | (refine qC ?_;simp [h3]) | (refine e_go ?_;simp [h3];(refine hJ _ _ ?_;clear hJ J;simp only [ak,reduceIte]))))
    exact hJJ _ _ (by simp [fi]) (by simp [fn]) ⟨by simp [f1],by simp [f24],hG5,hK5,by omega,hnx (hof2 (h3 ▸ hp.symm))⟩
   ·have hrc:=hbad fun h=>h3 (srt_unique hsrt (hrise.imp fun h=>by omega) (hp.trans (hpm h)))
    (repeat' (first | refine qS ?_ | (refine qR ?_;simp only [ak,reduceIte];simp [h3,hrc]) | (refine qC ?_;simp [h3,hrc]) | ((first | (refine w_e [] ?_;intro J hJ;simp only []) | (refine e_go ?_));simp [h3,hrc];(refine hJ _ _ ?_;clear hJ J;simp only [ak,reduceIte]))))
    exact hK5
  ·have h0':0 < E.length:=by omega
   have e1:=us_head t h0
   have e2:=us_head E h0'
   have e3:t[0]=E[0]:=Classical.byContradiction fun h=>hb ⟨by omega,by rwa [getD_lt _ _ h0,getD_lt _ _ h0']⟩
   (repeat' (first | refine qS ?_ | (refine qK ?_;simp only [ak,reduceIte]) | (refine qC ?_;simp [h1,e1,e2,e3,h0',h0]) | ((first | (refine w_e [] ?_;intro J hJ;simp only []) | (refine w_q ?_;intro J hJ));simp [h1,e1,e2,e3,h0',h0];(try (refine hJ _ _ ?_;clear hJ J;simp only [ak,reduceIte])))))
   refine qE (Values t 0 _) (by simp<;>omega) ?_;rintro r s4 ⟨rfl,rfl⟩
   (repeat' (refine e_go ?_;simp []))
   refine qE (Sorted t 0 s3.next _ (by omega) (by simp)) (by simp) ?_;rintro r s5 ⟨c,rfl,hp,hsrt,hk5⟩
   have hK5:=(hK3.trans (Keeps.new _ _)).trans hk5
   have hn5:=hk5.next
   have hG5:=(hk5.H st.next (by simp;omega)).trans (((Keeps.new s3 _).H st.next (by omega)).trans hG3)
   simp only [new_next] at hn5
   (repeat' (refine e_go ?_;simp []))
   refine qE (Equal c E 0 te _ (by have:=hp.length_eq;unfold small;omega)) (by simp<;>omega) ?_;rintro r s6 ⟨rfl,rfl⟩
   by_cases h3:c=E
   ·(repeat' (first | (refine qK ?_;simp only [ak,reduceIte]) | (refine qC ?_;simp [h3]) | (refine e_go ?_;simp [h3];(refine hJ _ _ ?_;clear hJ J;simp only [ak,reduceIte]))))
    exact hJJ _ _ (by simp [fi]) (by simp [fn]) ⟨by simp [f1],by simp [f24],hG5,hK5,by omega,hnx (hof2 (h3 ▸ hp.symm))⟩
   ·have hrc:=hbad fun h=>h3 (srt_unique hsrt (hrise.imp fun h=>by omega) (hp.trans (hpm h)))
    (repeat' (first | refine qS ?_ | (refine qR ?_;simp only [ak,reduceIte];simp [h3,hrc]) | (refine qC ?_;simp [h3,hrc]) | ((first | (refine w_e [] ?_;intro J hJ;simp only []) | (refine e_go ?_));simp [h3,hrc];(refine hJ _ _ ?_;clear hJ J;simp only [ak,reduceIte]))))
    exact hK5
 ·rintro fr st2 ⟨f1,f24,hG,hkp,hsn,hok⟩
  have hrc:=rchk_ok hc hl hok
  (repeat' (first | refine qS ?_ | (refine qR ?_;simp only [ak,reduceIte];simp [hrc]) | (refine w_e [] ?_;intro J hJ;simp only [];simp [hrc];(refine hJ _ _ ?_;clear hJ J;simp only [ak,reduceIte]))))
  exact hkp
noncomputable def gn (m:Mp):Nat:=(2 * ncl (Reach m.g.es) m.g.vs+m.g.es.length - (alone m.g+m.g.vs.length+ncl (Orb (fc m m.g.es)) (darts m.g.es))) / 2
theorem MapOk.gn {m:Mp} (h:MapOk m):2 * ncl (Reach m.g.es) m.g.vs+m.g.es.length=2 * gn m+alone m.g+m.g.vs.length+ncl (Orb (fc m m.g.es)) (darts m.g.es):=by
 obtain ⟨k,hk⟩:=h.euler
 have:Aw.gn m=k:=by unfold Aw.gn;omega
 omega
set_option maxHeartbeats 1000000 in
theorem Genus (m:Mp) (h:MapOk m) (st:St) (hv:m.g.vs.length≤1000) (he:m.g.es.length≤1000):
 ACalls Tryz.prog 52 [.ag (mpL m)] st fun r st'=>r=i (gn m)∧Keeps st st':=by
 have hP:=h.fc_per m.g.es (fun x hx=>hx)
 have hgn:=h.gn
 have hal:alone m.g≤m.g.vs.length:=List.countP_le_length
 have hdl:=darts_length m.g.es
 refine qO tabOk Tryz.func52 rfl rfl Tryz.ntmps52 (rs:=[.tmp 2]) rfl (by simp) ?_
 (repeat' (first | refine qS ?_ | (refine w_e [] ?_;intro J hJ;simp only [];simp [];(refine hJ _ _ ?_;clear hJ J;simp only [ak,reduceIte]))))
 (refine w_s [] [st.next] [(0,true),(1,true),(4,true),(5,true),(2,true),(3,true),(6,true),(7,true),(8,true)] ?_;intro J hJ;simp [])
 refine qD (Parts m.g _ h.g.toGood hv he) (by simp) ?_;rintro r s1 ⟨⟨t,R,rfl,hR⟩,hk1⟩
 have hn1:=hk1.next
 simp only [new_next] at hn1
 have hG1:=hk1.H st.next (by simp)
 simp at hG1
 refine ⟨fun _=>by simp [hG1],?_⟩
 (refine d_go ?_;simp [hG1])
 refine qD (Alone m.g _ hv he) (by simp) ?_;rintro r s2 ⟨rfl,hk2⟩
 have hn2:=hk2.next
 have hG2:=(hk2.H st.next (by omega)).trans hG1
 refine ⟨fun _=>by simp [hG2],?_⟩
 (refine d_go ?_;simp [hG2];(refine hJ _ _ ?_;clear hJ J;simp only [ak,reduceIte]))
 have hRn:=hR.all
 have hRl:=hR.len
 generalize R.length=p at *
 generalize alone m.g=al at *
 refine qS ?_
 (refine w_s [] [st.next] [(0,true),(1,true),(2,true),(3,true),(4,true),(5,true),(6,true),(7,true),(8,true),(9,true),(10,true),(11,true),(12,true),(13,true),(14,true),(15,true),(16,true),(17,true),(18,true),(19,true)] ?_;intro J hJ;simp [hG2])
 refine qD (Faces m h _ hv he) (by simp) ?_;rintro r s3 ⟨⟨t3,F,rfl,hF⟩,hk3⟩
 have hG3:=(hk3.H st.next (by omega)).trans hG2
 refine ⟨fun _=>by simp [hG3,hG2],?_⟩
 have hFn:=hF.all hP
 have hFl:=hF.len
 generalize F.length=f at *
 have w1:IntKind.i64.wrap (2 * (p:Int))=2 * p:=wrap_i64 _ (by omega) (by omega)
 have w2:IntKind.i64.wrap (2 * (p:Int) - al)=2 * p - al:=wrap_i64 _ (by omega) (by omega)
 have w3:IntKind.i64.wrap (2 * (p:Int) - al - m.g.vs.length)=2 * p - al - m.g.vs.length:=wrap_i64 _ (by omega) (by omega)
 have w4:IntKind.i64.wrap (2 * (p:Int) - al - m.g.vs.length+m.g.es.length)=2 * p - al - m.g.vs.length+m.g.es.length:=wrap_i64 _ (by omega) (by omega)
 have w5:IntKind.i64.wrap (2 * (p:Int) - al - m.g.vs.length+m.g.es.length - f)=2 * (gn m:Int):=by rw [wrap_i64 _ (by omega) (by omega)];omega
 have w6:IntKind.i64.wrap ((2 * (gn m:Int)).tdiv 2)=(gn m:Int):=by
  rw [Int.mul_comm,Int.mul_tdiv_cancel _ (by omega)]
  exact wrap_i64 _ (by omega) (by omega)
 (refine d_go ?_;simp [hG3,hG2,w1,w2,w3,w4,w5,w6];(refine hJ _ _ ?_;clear hJ J;simp only [ak,reduceIte]))
 (repeat' (refine qR ?_;simp only [ak,reduceIte];simp []))
 exact ⟨wrap_i64 _ (by omega) (by omega),(((Keeps.new _ _).trans hk1).trans hk2).trans hk3⟩
theorem ends_len0 (es:List Ed) (v:Int):(ends es v).length=0↔nbr es v=[]:=by rw [List.length_eq_zero_iff,ends_nil]
set_option maxHeartbeats 1000000 in
theorem Twice (m:Mp) (h:MapOk m) (st:St) (hv:m.g.vs.length≤1000) (he:m.g.es.length≤1000):
 ACalls Tryz.prog 28 [.ag (mpL m)] st fun r st'=>r=i (2 * gn m)∧Keeps st st':=by
 have hP:=h.fc_per m.g.es (fun x hx=>hx)
 have hgn:=h.gn
 have hal:alone m.g≤m.g.vs.length:=List.countP_le_length
 have hdl:=darts_length m.g.es
 have hid:idOk m.g.es:=fun x hx=>by have:=h.g.pos x hx;omega
 refine qO tabOk Tryz.func28 rfl rfl Tryz.ntmps28 (rs:=[.tmp 2]) rfl (by simp) ?_
 (repeat' (first | refine qS ?_ | refine qB ?_ | (refine w_e [] ?_;intro J hJ;simp only [];simp [];(refine hJ _ _ ?_;clear hJ J;simp only [ak,reduceIte]))))
 refine awp_range 10 9 11 22 (m.g.vs.length) (fun j fr st2=>fr 1=.pt st.next 0∧fr 8=.sl 0 m.g.vs.length (us m.g.vs)∧fr 3=i ((m.g.vs.take j).countP fun v=>decide (nbr m.g.es v=[]):Nat)∧st2.H st.next=.box 28 3 (mpL m)∧Keeps st st2∧st.next < st2.next) ?_ ?_ ?_
 ·exact ⟨by simp,by simp,by simp,by simp,Keeps.new _ _,by simp⟩
 ·rintro j fr st2 hlt ⟨f1,f8,f3,hG,hkp,hsn⟩ fi fn JJ hJJ
  have hd:=qG m.g.vs j hlt
  have hct:=count_take (fun v=>decide (nbr m.g.es v=[])) m.g.vs j hlt
  have hle:(m.g.vs.take j).countP (fun v=>decide (nbr m.g.es v=[]))≤j:=Nat.le_trans List.countP_le_length (by simp;omega)
  generalize m.g.vs.getD j 0=v at *
  generalize (m.g.vs.take j).countP (fun v=>decide (nbr m.g.es v=[]))=c at *
  (repeat' (first | refine qS ?_ | (refine w_e [] ?_;intro J hJ;simp only [];simp [f1,f8,fi,fn,hd,hG,hlt];(try (refine hJ _ _ ?_;clear hJ J;simp only [ak,reduceIte])))))
  refine qE (ref_Ends m.g v _ he hid) (by simp) ?_;rintro r s3 ⟨⟨t,rfl⟩,hk3⟩
  have hn3:=hk3.next
  have e0:=ends_len0 m.g.es v
  have hw:=qN c (by omega)
  by_cases h0:nbr m.g.es v=[]
  ·have e1:=e0.2 h0
   rw [if_pos (by simpa using h0)] at hct
   (repeat' (first | (refine qC ?_;simp [e1,f3,hw]) | ((first | (refine w_e [] ?_;intro J hJ;simp only []) | (refine e_go ?_));simp [e1,f3,hw];(refine hJ _ _ ?_;clear hJ J;simp only [ak,reduceIte]))))
   exact hJJ _ _ (by simp [fi]) (by simp [fn]) ⟨by simp [f1],by simp [f8],by simp [hct],(hk3.H _ hsn).trans hG,hkp.trans hk3,by omega⟩
  ·have e1:¬ (ends m.g.es v).length=0:=fun e=>h0 (e0.1 e)
   rw [if_neg (by simpa using h0)] at hct
   generalize (ends m.g.es v).length=el at *
   (repeat' (first | (refine qK ?_;simp only [ak,reduceIte]) | (refine qC ?_;simp [e1,f3]) | (refine e_go ?_;simp [e1,f3];(refine hJ _ _ ?_;clear hJ J;simp only [ak,reduceIte]))))
   exact hJJ _ _ (by simp [fi]) (by simp [fn]) ⟨by simp [f1],by simp [f8],by simp [hct,f3],(hk3.H _ hsn).trans hG,hkp.trans hk3,by omega⟩
 rintro fr st2 ⟨f1,f8,f3,hG,hkp,hsn⟩
 rw [List.take_length] at f3
 have f3':fr 3=i (alone m.g):=f3
 clear f3
 (repeat' refine qS ?_)
 (refine w_s [] [st.next] [(0,true),(1,true),(5,true),(7,true),(8,true),(9,true),(10,true),(12,true),(13,true),(14,true),(15,true),(17,true),(2,true),(3,true),(4,true),(6,true),(11,true),(16,true),(18,true),(19,true),(20,true),(21,true)] ?_;intro J hJ;simp [f1,f3',hG])
 refine qD (ref_Parts m.g _ h.g.toGood hv he) (by simp) ?_;rintro r s1 ⟨⟨t,R,rfl,hR⟩,hk1⟩
 have hn1:=hk1.next
 have hG1:=(hk1.H st.next (by omega)).trans hG
 refine ⟨fun _=>by simp [hG1,hG],?_⟩
 have hRn:=hR.all
 have hRl:=hR.len
 generalize R.length=p at *
 generalize alone m.g=al at *
 have w1:IntKind.i64.wrap (2 * (p:Int))=2 * p:=wrap_i64 _ (by omega) (by omega)
 have w2:IntKind.i64.wrap (2 * (p:Int) - al)=2 * p - al:=wrap_i64 _ (by omega) (by omega)
 have w3:IntKind.i64.wrap (2 * (p:Int) - al - m.g.vs.length)=2 * p - al - m.g.vs.length:=wrap_i64 _ (by omega) (by omega)
 have w4:IntKind.i64.wrap (2 * (p:Int) - al - m.g.vs.length+m.g.es.length)=2 * p - al - m.g.vs.length+m.g.es.length:=wrap_i64 _ (by omega) (by omega)
 (refine d_go ?_;simp [hG1,hG,f1,f3',w1,w2,w3,w4])
 refine qD (ref_Faces m h _ hv he) (by simp) ?_;rintro r s3 ⟨⟨t3,F,rfl,hF⟩,hk3⟩
 have hG3:=(hk3.H st.next (by omega)).trans hG1
 refine ⟨fun _=>by simp [hG3,hG1,hG],?_⟩
 have hFn:=hF.all hP
 have hFl:=hF.len
 generalize F.length=f at *
 have w5:IntKind.i64.wrap (2 * (p:Int) - al - m.g.vs.length+m.g.es.length - f)=2 * (gn m:Int):=by rw [wrap_i64 _ (by omega) (by omega)];omega
 (refine d_go ?_;simp [hG3,hG1,hG,w1,w2,w3,w4,w5,f1,f3'];(refine hJ _ _ ?_;clear hJ J;simp only [ak,reduceIte]))
 (repeat' (refine qR ?_;simp only [ak,reduceIte];simp []))
 exact (hkp.trans hk1).trans hk3
end Go.Proofs.YtglkgindpjdoiaaGreat.Aw
namespace Go.Proofs.YtglkgindpjdoiaaGreat.Aw
open Go Go.RowKit Go.Proofs.YtglkgindpjdoiaaGreat.Pl Go.Proofs.YtglkgindpjdoiaaGreat.Eu
set_option linter.unusedSimpArgs false
set_option linter.unusedVariables false
set_option maxHeartbeats 1000000 in
theorem ref_rCheck (m:Mp) (st:St) (hv:m.g.vs.length≤1000) (he:m.g.es.length≤1000) (hr:m.rots.length≤1000):
 ACalls Tryz.prog 27 [.ag (mpL m)] st fun r st'=>r=i (rchk m)∧Keeps st st':=by
 refine qO tabOk Tryz.func27 rfl rfl Tryz.ntmps27 (rs:=[.tmp 2]) rfl (by simp) ?_
 (repeat' (first | refine qS ?_ | (refine w_e [] ?_;intro J hJ;simp only [];simp [];(try (refine hJ _ _ ?_;clear hJ J;simp only [ak,reduceIte])))))
 refine qE (ref_Check m.g _ hv he) (by simp) ?_;rintro r s1 ⟨rfl,hk1⟩
 have hn1:=hk1.next
 simp only [new_next] at hn1
 have hG1:s1.H st.next=.box 28 3 (mpL m):=by rw [hk1.H _ (by simp)];simp
 have hK1:Keeps st s1:=(Keeps.new _ _).trans hk1
 by_cases hc:chk m.g=0
 rotate_left
 ·have hrc:=rchk_g hc
  generalize chk m.g=x at *
  (repeat' (first | refine qS ?_ | (refine qR ?_;simp only [ak,reduceIte];simp [hc,hrc]) | (refine qC ?_;simp [hc,hrc]) | ((first | (refine w_e [] ?_;intro J hJ;simp only []) | (refine e_go ?_));simp [hc,hrc];(refine hJ _ _ ?_;clear hJ J;simp only [ak,reduceIte]))))
  exact hK1
 have hgd:=chk_goodE hc
 have hid:idOk m.g.es:=fun x hx=>by have:=hgd.pos x hx;omega
 by_cases hl:m.rots.length=m.g.vs.length
 rotate_left
 ·have hrc:=rchk_len hc hl
  (repeat' (first | refine qS ?_ | (refine qK ?_;simp only [ak,reduceIte]) | (refine qR ?_;simp only [ak,reduceIte];simp [hc,hrc,hG1,hl]) | (refine qC ?_;simp [hc,hrc,hG1,hl];(try with_reducible refine ⟨?_,?_⟩)<;>(try with_reducible intro hc)<;>try (exfalso;omega)) | ((first | (refine w_e [] ?_;intro J hJ;simp only []) | (refine e_go ?_));simp [hc,hrc,hG1,hl];(refine hJ _ _ ?_;clear hJ J;simp only [ak,reduceIte]))))
  exact hK1
 (repeat' (first | refine qS ?_ | refine qB ?_ | (refine qK ?_;simp only [ak,reduceIte]) | (refine qC ?_;simp [hc,hG1,hl]) | ((first | (refine w_e [] ?_;intro J hJ;simp only []) | (refine e_go ?_));simp [hc,hG1,hl];(refine hJ _ _ ?_;clear hJ J;simp only [ak,reduceIte]))))
 refine awp_range 28 27 29 65 (m.g.vs.length) (fun j fr st2=>fr 1=.pt st.next 0∧fr 26=.sl 0 m.g.vs.length (us m.g.vs)∧st2.H st.next=.box 28 3 (mpL m)∧Keeps st st2∧st.next < st2.next∧∀ k,k < j→rok m k) ?_ ?_ ?_
 ·exact ⟨by simp,by simp,hG1,hK1,by omega,fun k hk=>by omega⟩
 ·rintro j0 fr st2 hlt ⟨f1,f26,hG,hkp,hsn,hok⟩ fi fn JJ hJJ
  have hd:=qG m.g.vs j0 hlt
  have hd2:=rowsL_drop m.rots j0 (by omega)
  have hRl:j0 < (rowsL m.rots).length:=by simp;omega
  have htin:m.rots.getD j0 []∈m.rots:=by rw [getR_lt _ _ (by omega)];exact List.getElem_mem _
  have hbad:=fun h=>rchk_bad hc hlt h
  have hnx:rok m j0→∀ k,k < j0+1→rok m k:=fun h k hk=>by
   rcases Nat.lt_or_ge k j0 with h1 | h1
   ·exact hok k h1
   ·obtain rfl:k=j0:=by omega
    exact h
  have hok1:rok m j0↔(m.rots.getD j0 []).Perm (ends m.g.es (m.g.vs.getD j0 0))∧nrm (m.rots.getD j0 [])=m.rots.getD j0 []:=Iff.rfl
  have hel:(ends m.g.es (m.g.vs.getD j0 0)).length≤2 * m.g.es.length:=flat_len _ (end1_len _) _
  have hrise:=ends_rise hgd.ids (m.g.vs.getD j0 0)
  generalize rok m j0=OK at *
  generalize m.rots.getD j0 []=t at *
  generalize m.g.vs.getD j0 0=v at *
  (repeat' (first | refine qS ?_ | (refine w_e [] ?_;intro J hJ;simp only [];simp [f1,f26,fi,fn,hd,hlt,hG,hd2,hRl,hl];(try (refine hJ _ _ ?_;clear hJ J;simp only [ak,reduceIte])))))
  refine qE (ref_Ends m.g v _ he hid) (by simp) ?_;rintro r s3 ⟨⟨te,rfl⟩,hk3⟩
  have hn3:=hk3.next
  have hG3:=(hk3.H st.next (by omega)).trans hG
  have hK3:=hkp.trans hk3
  generalize ends m.g.es v=E at *
  by_cases h1:t.length=E.length
  rotate_left
  ·have hrc:=hbad fun h=>h1 (hok1.1 h).1.length_eq
   have h1b:((t.length:Int) != (E.length:Int))=true:=by simp;omega
   (repeat' (first | refine qS ?_ | (refine qR ?_;simp only [ak,reduceIte];simp [h1b,h1,hrc]) | (refine qC ?_;simp [h1b,h1,hrc]) | ((first | (refine w_e [] ?_;intro J hJ;simp only []) | (refine e_go ?_));simp [h1b,h1,hrc];(refine hJ _ _ ?_;clear hJ J;simp only [ak,reduceIte]))))
   exact hK3
  (repeat' (first | refine qS ?_ | ((first | (refine w_e [] ?_;intro J hJ;simp only []) | (refine e_go ?_));simp [h1];(try (refine hJ _ _ ?_;clear hJ J;simp only [ak,reduceIte])))))
  refine qE (ref_Normal t 0 _ (by unfold small;omega)) (by simp [h1]) ?_;rintro r s4 ⟨rfl,hk4⟩
  have hn4:=hk4.next
  have hG4:=(hk4.H st.next (by omega)).trans hG3
  have hK4:=hK3.trans hk4
  have hnl:=nrm_length t
  (repeat' (refine e_go ?_;simp []))
  refine qE (ref_Same t (nrm t) 0 0 _ (by unfold small;omega)) (by simp [h1,hnl]) ?_;rintro r s5 ⟨rfl,rfl⟩
  by_cases h2:t=nrm t
  rotate_left
  ·have hrc:=hbad fun h=>h2 (hok1.1 h).2.symm
   (repeat' (first | refine qS ?_ | (refine qR ?_;simp only [ak,reduceIte];simp [h2,hrc]) | (refine qC ?_;simp [h2,hrc]) | ((first | (refine w_e [] ?_;intro J hJ;simp only []) | (refine e_go ?_));simp [h2,hrc];(refine hJ _ _ ?_;clear hJ J;simp only [ak,reduceIte]))))
   exact hK4
  have h2':decide (t=nrm t)=true:=by simpa using h2
  rw [h2']
  (repeat' (first | refine qS ?_ | refine qB ?_ | (refine qK ?_;simp only [ak,reduceIte]) | (refine qC ?_;simp []) | ((first | (refine w_e [] ?_;intro J hJ;simp only []) | (refine e_go ?_));simp [];(refine hJ _ _ ?_;clear hJ J;simp only [ak,reduceIte]))))
  refine awp_range 56 55 57 64 (E.length) (fun j fr st2=>fr 1=.pt st.next 0∧fr 26=.sl 0 m.g.vs.length (us m.g.vs)∧fr 28=i j0∧fr 27=i m.g.vs.length∧fr 6=.sl 0 t.length (us t)∧fr 54=.sl te E.length (us E)∧st2=s5∧∀ k,k < j→E.getD k 0∈t) ?_ ?_ ?_
  ·exact ⟨by simp [f1],by simp [f26],by simp [fi],by simp [fn],by simp [h1],by simp,rfl,fun k hk=>by omega⟩
  ·clear f1 f26 fi fn fr
   rintro k fr st6 hk ⟨f1,f26,f28,f27,f6,f54,rfl,hall⟩ fi fn J2 hJ2
   have hd3:=qG E k hk
   have hin:E.getD k 0∈E:=by rw [getD_lt _ _ hk];exact List.getElem_mem _
   generalize hx:E.getD k 0=x at *
   (repeat' (first | refine qS ?_ | (refine w_e [] ?_;intro J hJ;simp only [];simp [f54,f6,fi,fn,hd3,hk];(try (refine hJ _ _ ?_;clear hJ J;simp only [ak,reduceIte])))))
   refine qE (Find t 0 x _ (by unfold small;omega)) (by simp [h1]) ?_;rintro r s7 ⟨rfl,rfl⟩
   by_cases hxt:x∈t
   ·have hg:=gi_mem hxt
    (repeat' (first | (refine qK ?_;simp only [ak,reduceIte]) | (refine qC ?_;simp [hg];(try with_reducible refine ⟨?_,?_⟩)<;>(try with_reducible intro hc)<;>try (exfalso;omega)) | (refine e_go ?_;simp [hg];(refine hJ _ _ ?_;clear hJ J;simp only [ak,reduceIte]))))
    refine hJ2 _ _ (by simp [fi]) (by simp [fn]) ⟨by simp [f1],by simp [f26],by simp [f28],by simp [f27],by simp [f6],by simp [f54],rfl,fun q hq=>?_⟩
    rcases Nat.lt_or_ge q k with h3 | h3
    ·exact hall q h3
    ·obtain rfl:q=k:=by omega
     rw [hx];exact hxt
   ·have hg:=gi_not hxt
    have hrc:=hbad fun h=>hxt ((hok1.1 h).1.mem_iff.2 hin)
    (repeat' (first | refine qS ?_ | (refine qR ?_;simp only [ak,reduceIte];simp [hg,hrc]) | (refine qC ?_;simp [hg,hrc]) | ((first | (refine w_e [] ?_;intro J hJ;simp only []) | (refine e_go ?_));simp [hg,hrc];(refine hJ _ _ ?_;clear hJ J;simp only [ak,reduceIte]))))
    exact hK4
  ·clear f1 f26 fi fn fr
   rintro fr st6 ⟨f1,f26,f28,f27,f6,f54,rfl,hall⟩
   skip
   refine hJJ _ _ (by simp [f28]) (by simp [f27]) ⟨by simp [f1],by simp [f26],hG4,hK4,by omega,hnx (hok1.2 ⟨?_,h2.symm⟩)⟩
   refine (perm_of_sub (rise_nodup hrise) (fun x hx=>?_) (by omega)).symm
   obtain ⟨q,hq,rfl⟩:=List.getElem_of_mem hx
   have:=hall q hq
   rwa [getD_lt _ _ hq] at this
 ·rintro fr st2 ⟨f1,f26,hG,hkp,hsn,hok⟩
  have hrc:=rchk_ok hc hl hok
  (repeat' (first | refine qS ?_ | (refine qR ?_;simp only [ak,reduceIte];simp [hrc]) | (refine w_e [] ?_;intro J hJ;simp only [];simp [hrc];(refine hJ _ _ ?_;clear hJ J;simp only [ak,reduceIte]))))
  exact hkp
noncomputable def rright (m:Mp):Int:=if rchk m≠0 then rchk m else if gn m≠0 then 23 else 0
theorem rRight (m:Mp) (st:St) (hv:m.g.vs.length≤1000) (he:m.g.es.length≤1000) (hr:m.rots.length≤1000) (hs:∀ t∈m.rots,t.length≤1000):
 ACalls Tryz.prog 25 [.ag (mpL m)] st fun r st'=>r=i (rright m)∧Keeps st st':=by
 refine qO tabOk Tryz.func25 rfl rfl Tryz.ntmps25 (rs:=[.tmp 2]) rfl (by simp) ?_
 (repeat' (first | refine qS ?_ | (refine w_e [] ?_;intro J hJ;simp only [];simp [];(try (refine hJ _ _ ?_;clear hJ J;simp only [ak,reduceIte])))))
 refine qE (rCheck m _ hv he hr hs) (by simp) ?_;rintro r s1 ⟨rfl,hk1⟩
 have hn1:=hk1.next
 simp only [new_next] at hn1
 have hG1:s1.H st.next=.box 28 3 (mpL m):=by rw [hk1.H _ (by simp)];simp
 have hK1:Keeps st s1:=(Keeps.new _ _).trans hk1
 by_cases hc:rchk m=0
 rotate_left
 ·have hrc:rright m=rchk m:=by unfold rright;rw [if_pos hc]
  generalize rchk m=x at *
  (repeat' (first | refine qS ?_ | (refine qR ?_;simp only [ak,reduceIte];simp [hc,hrc]) | (refine qC ?_;simp [hc,hrc]) | ((first | (refine w_e [] ?_;intro J hJ;simp only []) | (refine e_go ?_));simp [hc,hrc];(refine hJ _ _ ?_;clear hJ J;simp only [ak,reduceIte]))))
  exact hK1
 (repeat' (first | refine qS ?_ | (refine qK ?_;simp only [ak,reduceIte]) | (refine qC ?_;simp [hc,hG1]) | ((first | (refine w_e [] ?_;intro J hJ;simp only []) | (refine e_go ?_));simp [hc,hG1];(try (refine hJ _ _ ?_;clear hJ J;simp only [ak,reduceIte])))))
 refine qE (Genus m (rchk_zero hc).2 _ hv he) (by simp) ?_;rintro r s2 ⟨rfl,hk2⟩
 by_cases hg:gn m=0
 ·have hrc:rright m=0:=by unfold rright;rw [if_neg (fun e=>e hc),if_neg (fun e=>e hg)]
  (repeat' (first | refine qS ?_ | (refine qK ?_;simp only [ak,reduceIte]) | (refine qR ?_;simp only [ak,reduceIte];simp [hg,hrc]) | (refine qC ?_;simp [hg,hrc]) | ((first | (refine w_e [] ?_;intro J hJ;simp only []) | (refine e_go ?_));simp [hg,hrc];(refine hJ _ _ ?_;clear hJ J;simp only [ak,reduceIte]))))
  exact hK1.trans hk2
 ·have hrc:rright m=23:=by unfold rright;rw [if_neg (fun e=>e hc),if_pos hg]
  generalize gn m=x at *
  (repeat' (first | refine qS ?_ | (refine qR ?_;simp only [ak,reduceIte];simp [hg,hrc]) | (refine qC ?_;simp [hg,hrc]) | ((first | (refine w_e [] ?_;intro J hJ;simp only []) | (refine e_go ?_));simp [hg,hrc];(refine hJ _ _ ?_;clear hJ J;simp only [ak,reduceIte]))))
  exact hK1.trans hk2
theorem ref_rRight (m:Mp) (st:St) (hv:m.g.vs.length≤1000) (he:m.g.es.length≤1000) (hr:m.rots.length≤1000):
 ACalls Tryz.prog 9 [.ag (mpL m)] st fun r st'=>r=i (rright m)∧Keeps st st':=by
 refine qO tabOk Tryz.func9 rfl rfl Tryz.ntmps9 (rs:=[.tmp 2]) rfl (by simp) ?_
 (repeat' (first | refine qS ?_ | (refine w_e [] ?_;intro J hJ;simp only [];simp [];(try (refine hJ _ _ ?_;clear hJ J;simp only [ak,reduceIte])))))
 refine qE (ref_rCheck m _ hv he hr) (by simp) ?_;rintro r s1 ⟨rfl,hk1⟩
 have hn1:=hk1.next
 simp only [new_next] at hn1
 have hG1:s1.H st.next=.box 28 3 (mpL m):=by rw [hk1.H _ (by simp)];simp
 have hK1:Keeps st s1:=(Keeps.new _ _).trans hk1
 by_cases hc:rchk m=0
 rotate_left
 ·have hrc:rright m=rchk m:=by unfold rright;rw [if_pos hc]
  generalize rchk m=x at *
  have hcb:(x==0)=false:=by simpa using hc
  (repeat' (first | refine qS ?_ | (refine qK ?_;simp only [ak,reduceIte]) | (refine qR ?_;simp only [ak,reduceIte];simp [hcb,hc,hrc]) | (refine qC ?_;simp [hcb,hc,hrc]) | ((first | (refine w_e [] ?_;intro J hJ;simp only []) | (refine e_go ?_));simp [hcb,hc,hrc];(refine hJ _ _ ?_;clear hJ J;simp only [ak,reduceIte]))))
  exact hK1
 (repeat' (first | refine qS ?_ | ((first | (refine w_e [] ?_;intro J hJ;simp only []) | (refine e_go ?_));simp [hc,hG1];(try (refine hJ _ _ ?_;clear hJ J;simp only [ak,reduceIte])))))
 refine qE (Twice m (rchk_zero hc).2 _ hv he) (by simp) ?_;rintro r s2 ⟨rfl,hk2⟩
 by_cases hg:gn m=0
 ·have hrc:rright m=0:=by unfold rright;rw [if_neg (fun e=>e hc),if_neg (fun e=>e hg)]
  (repeat' (first | refine qS ?_ | (refine qK ?_;simp only [ak,reduceIte]) | (refine qR ?_;simp only [ak,reduceIte];simp [hg,hrc]) | (refine qC ?_;simp [hg,hrc]) | ((first | (refine w_e [] ?_;intro J hJ;simp only []) | (refine e_go ?_));simp [hg,hrc];(refine hJ _ _ ?_;clear hJ J;simp only [ak,reduceIte]))))
  exact hK1.trans hk2
 ·have hrc:rright m=23:=by unfold rright;rw [if_neg (fun e=>e hc),if_pos hg]
  generalize gn m=x at *
  have hx2:¬ (2 * (x:Int)=0):=by omega
  (repeat' (first | refine qS ?_ | (refine qR ?_;simp only [ak,reduceIte];simp [hx2,hg,hrc]) | (refine qC ?_;simp [hx2,hg,hrc]) | ((first | (refine w_e [] ?_;intro J hJ;simp only []) | (refine e_go ?_));simp [hx2,hg,hrc];(refine hJ _ _ ?_;clear hJ J;simp only [ak,reduceIte]))))
  exact hK1.trans hk2
end Go.Proofs.YtglkgindpjdoiaaGreat.Aw
namespace Go.Proofs.YtglkgindpjdoiaaGreat.Aw
open Go Go.RowKit Go.Proofs.YtglkgindpjdoiaaGreat.Pl Go.Proofs.YtglkgindpjdoiaaGreat.Eu
set_option linter.unusedSimpArgs false
set_option linter.unusedVariables false
theorem chk_smallC {m:Mp} (h:rchk m=0):m.g.vs.length≤64:=by
 obtain ⟨_,_,h3,_⟩:=chk_good (rchk_zero h).1
 exact h3
theorem ref_rCheckC (m:Mp) (st:St) (hr:m.rots.length≤1000) (he:m.g.es.length≤1000):ACalls Tryz.prog 27 [.ag (mpL m)] st fun r st'=>r=i (rchk m)∧Keeps st st':=by
 by_cases hv:m.g.vs.length≤1000
 ·exact ref_rCheck m st hv he hr
 ·have hc:chk m.g=6:=by unfold chk;rw [if_pos (by omega)]
  have hrc:rchk m=6:=by rw [rchk_g (by rw [hc];decide),hc]
  refine qO tabOk Tryz.func27 rfl rfl Tryz.ntmps27 (rs:=[.tmp 2]) rfl (by simp) ?_
  (repeat' (first | refine qS ?_ | (refine w_e [] ?_;intro J hJ;simp only [];simp [];(try (refine hJ _ _ ?_;clear hJ J;simp only [ak,reduceIte])))))
  refine qE (ref_Chk m.g _) (by simp) ?_;rintro r s1 ⟨rfl,hk1⟩
  rw [hc]
  (repeat' (first | refine qS ?_ | (refine qR ?_;simp only [ak,reduceIte];simp [hrc]) | (refine qC ?_;simp [hrc]) | ((first | (refine w_e [] ?_;intro J hJ;simp only []) | (refine e_go ?_));simp [hrc];(refine hJ _ _ ?_;clear hJ J;simp only [ak,reduceIte]))))
  exact (Keeps.new _ _).trans hk1
theorem parts_mem {g:Gr} {k:Nat} {R:List (List Int)} (h:PartsTo g k R):∀ c∈R,∃ v∈g.vs,IsPart g v c:=by
 induction h with
 | zero=>intro c hc;simp at hc
 | seen _ _ _ ih=>exact ih
 | lead _ hk _ hc ih=>
   intro c hc'
   rcases List.mem_append.1 hc' with h1 | h1
   ·exact ih c h1
   ·rw [List.mem_singleton] at h1;subst h1
    exact ⟨_,getD_mem hk,hc⟩
section
variable {a b:Mp} (ha:MapOk a) (hb:MapOk b)
include ha hb
end
theorem belL_us (n:Nat):∀ l:List Int,belL n (us l):=fun l=>by
 induction l with
 | nil=>simp only [us,List.map_nil,belL]
 | cons x l ih=>simp only [us,List.map_cons,belL];exact ⟨trivial,ih⟩
theorem belL_rows3 (n:Nat):∀ R:List (List Int),belL n (rowsL3 R):=fun R=>by
 induction R with
 | nil=>simp only [rowsL3,List.map_nil,belL]
 | cons x l ih=>simp only [rowsL3,List.map_cons,belL];exact ⟨⟨.inl rfl,belL_us _ _⟩,ih⟩
theorem belL_eds (n:Nat):∀ l:List Ed,belL n (eds l):=fun l=>by
 induction l with
 | nil=>simp only [eds,List.flatMap_nil,belL]
 | cons x l ih=>simp only [eds,List.flatMap_cons] at ih ⊢;exact ⟨trivial,trivial,trivial,ih⟩
theorem bel_mpL (n:Nat) (m:Mp):bel n (.ag (mpL m)):=⟨⟨.inl rfl,belL_us _ _⟩,⟨.inl rfl,belL_eds _ _⟩,⟨.inl rfl,belL_rows3 _ _⟩,trivial⟩
theorem z0L_rowsF (f:List Int→List Int):∀ R:List (List Int),z0L (R.map ((fun r=>LV.sl 0 r.length (us r))∘f))=R.map ((fun r=>LV.sl 0 r.length (us r))∘f):=fun R=>by
 induction R with
 | nil=>rfl
 | cons x l ih=>simp only [List.map_cons,z0L,z0,Function.comp_apply,z0_us] at ih ⊢;rw [ih]
theorem z0L_edsD (l:List Ed):z0L (eds l)=eds l:=by
 rw [z0L_map]
 induction l with
 | nil=>rfl
 | cons e l ih=>simp only [eds,List.flatMap_cons,List.map_append] at ih ⊢;rw [ih];rfl
theorem uClone' (l:List Int) (t:Nat) (st:St) (hl:small l):
 ACalls Tryz.prog 37 [.sl t l.length (us l)] st fun r st'=>r=.sl 0 l.length (us l)∧st'=st:=
 qT (Q:=fun r=>r=.sl 0 l.length (us l)) (Clone l t st hl) fun r h=>by subst h;exact ⟨.inl rfl,belL_us _ _⟩
end Go.Proofs.YtglkgindpjdoiaaGreat.Aw
namespace Go.Proofs.YtglkgindpjdoiaaGreat.Aw
open Go Go.RowKit Go.Proofs.YtglkgindpjdoiaaGreat.Pl
set_option linter.unusedSimpArgs false
set_option linter.unusedVariables false
theorem awp_cellM {P:Program} {N:Nat} {Q:AQ} {fr:Frm} {st:St} {c:Code} (q e' s':Nat) {e s:Nat} (pre post:List LV) (hH:st.H q=.box e s (pre++.nil::post))
 (h:AWp P N c Q fr ((st.new (.box e' s' [])).set q (.box e s (pre++.ms st.next 0 0::post)))):AWp P N c Q fr st:=by
 refine awp_ghost (fun a w g hi hr _=>?_) h
 have he:=ext_nil w g
 have h1:Inv w g.addNil (st.new (.box e' s' [])):=inv_nil hi _ (.inr ⟨e',s',rfl⟩)
 have hlt:q < st.next:=box_lt hi hH (by simp)
 refine ⟨g.addNil,inv_recell h1 (cs:=pre++.nil::post) (by rw [new_H,if_neg (by omega)];exact hH) (by simp) (fun vs hv=>?_),hr.mono he,he⟩
 obtain ⟨v,k1,k2⟩:=repL_mid pre vs hv
 refine k2 g.addNil _ (Ext.refl _ _) ?_
 simp only [Rep] at k1 ⊢
 exact ⟨none,0,k1,Nat.le_refl _,Nat.zero_le _,fun _=>by simp [G.addNil,hi.next],fun h=>absurd rfl h,by simp [G.addNil,hi.next]⟩
def mpM (lv le lr:Nat) (m:Mp):List LV:=[.ms lv 0 m.g.vs.length,.ms le 0 m.g.es.length,.ms lr 0 m.rots.length]
structure MpAt (m:Mp) (lv le lr:Nat) (st:St):Prop where
 v:st.H lv=.box 29 1 (us m.g.vs)
 e:st.H le=.box 31 3 (eds m.g.es)
 r:st.H lr=.box 22 1 (rowsL m.rots)
 v0:lv < st.next
 e0:le < st.next
 r0:lr < st.next
theorem copiedM (g:Gr) (st:St) (hv:g.vs.length≤100000) (he:g.es.length≤100000):
 ACalls Tryz.prog 60 [.ag (grL g)] st fun r st'=>∃ lv le,r=.ag [.ms lv 0 g.vs.length,.ms le 0 g.es.length]∧st.next≤lv∧lv < st'.next∧st.next≤le∧le < st'.next∧st'.H lv=.box 29 1 (us g.vs)∧st'.H le=.box 31 3 (eds g.es)∧Keeps st st':=by
 refine qO tabOk Tryz.func60 rfl rfl Tryz.ntmps60 (rs:=[.cell 2 25]) rfl (by simp) ?_
 (repeat' (first | refine qS ?_ | (refine w_e [] ?_;intro J hJ;simp only [];simp [];(refine hJ _ _ ?_;clear hJ J;simp only [ak,reduceIte]))))
 (refine w_s [] [st.next] [(0,true),(1,true),(3,true),(4,true),(2,true),(5,true),(6,true),(7,false)] ?_;intro J hJ;simp [])
 refine qD (CloneMU g.vs 0 _ hv) (by simp) ?_;rintro r s1 ⟨lv,rfl,l1,l2,hv1,hk1⟩
 simp only [new_next] at l1
 have hB1:s1.H st.next=.box 25 2 (grL g):=by rw [hk1.H _ (by simp;omega)];simp
 have hC1:s1.H (st.next+1)=.box 25 2 [.nil,.nil]:=by rw [hk1.H _ (by simp)];simp
 refine ⟨fun _=>by simp [hB1],?_⟩
 (refine d_go ?_;simp [hB1])
 have hn1:=hk1.next
 simp only [new_next] at hn1
 refine qD (CloneME g.es 0 _ he) (by simp) ?_;rintro r s2 ⟨le,rfl,l3,l4,hv2,hk2⟩
 have hB2:=(hk2.H st.next (by omega)).trans hB1
 have hC2:=(hk2.H (st.next+1) (by omega)).trans hC1
 have hv3:=(hk2.H lv l2).trans hv1
 have hn2:=hk2.next
 refine ⟨fun _=>by simp [hB2],?_⟩
 (refine d_go ?_;simp [hB2,hC2];(refine hJ _ _ ?_;clear hJ J;simp only [ak,reduceIte]))
 (repeat' (refine qR ?_;simp only [ak,reduceIte];simp [hC2]))
 refine ⟨lv,le,⟨rfl,rfl⟩,by omega,by omega,by omega,by omega,?_,?_,?_⟩
 ·simp [show ¬ lv=st.next+1 by omega,hv3]
 ·simp [show ¬ le=st.next+1 by omega,hv2]
 ·exact (((((Keeps.new _ _).trans (Keeps.new _ _)).trans hk1).trans hk2).set (by omega) _)
set_option maxHeartbeats 1000000 in
theorem rCloneM (m:Mp) (st:St) (hv:m.g.vs.length≤1000) (he:m.g.es.length≤1000) (hr:m.rots.length≤1000) (hs:∀ t∈m.rots,small t):
 ACalls Tryz.prog 29 [.ag (mpL m)] st fun r st'=>∃ lv le lr,r=.ag (mpM lv le lr m)∧MpAt m lv le lr st'∧st.next≤lv∧st.next≤le∧st.next≤lr∧Keeps st st':=by
 refine qO tabOk Tryz.func29 rfl rfl Tryz.ntmps29 (rs:=[.cell 2 28]) rfl (by simp) ?_
 refine awp_posG fun hpos=>?_
 (repeat' (first | refine qS ?_ | (refine w_e [] ?_;intro J hJ;simp only [];simp [];(try (refine hJ _ _ ?_;clear hJ J;simp only [ak,reduceIte])))))
 refine qE (copiedM m.g _ (by omega) (by omega)) (by simp) ?_;rintro r s1 ⟨lv,le,rfl,l1,l2,l3,l4,hv1,he1,hk1⟩
 simp only [new_next] at l1 l3
 have hn1:=hk1.next
 simp only [new_next] at hn1
 have hB1:s1.H st.next=.box 28 3 (mpL m):=by rw [hk1.H _ (by simp;omega)];simp
 have hC1:s1.H (st.next+1)=.box 28 3 [.nil,.nil,.nil]:=by rw [hk1.H _ (by simp)];simp
 have e0:¬ st.next=s1.next:=by omega
 (repeat' (first | refine qS ?_ | refine qB ?_ | ((first | (refine w_e [] ?_;intro J hJ;simp only []) | (refine e_go ?_));simp [hB1,e0];(refine hJ _ _ ?_;clear hJ J;simp only [ak,reduceIte]))))
 obtain ⟨c,hc⟩:∃ c,c=s1.next:=⟨_,rfl⟩
 refine awp_cellM c 22 1 (e:=28) (s:=3) [.ms lv 0 m.g.vs.length,.ms le 0 m.g.es.length] [] (by subst hc;simp) ?_
 have hF:∀ j,j < m.rots.length→rowsL (m.rots.take (j+1))=rowsL (m.rots.take j)++[.sl 0 (m.rots.getD j []).length (us (m.rots.getD j []))]:=fun j hj=>by
  rw [List.take_succ_eq_append_getElem hj,getR_lt _ _ hj];simp only [rowsL,List.map_append,List.map_cons,List.map_nil]
 have hkp1:Keeps st s1:=((Keeps.new _ _).trans (Keeps.new _ _)).trans hk1
 refine awp_range 13 12 14 24 (m.rots.length) (fun j fr st2=>fr 2=.pt (st.next+1) 0∧fr 3=.pt c 0∧fr 11=.sl 0 m.rots.length (rowsL m.rots)∧Keeps st st2∧st2.H (st.next+1)=.box 28 3 [.nil,.nil,.nil]∧st2.H lv=.box 29 1 (us m.g.vs)∧st2.H le=.box 31 3 (eds m.g.es)∧∃ lr,st2.H c=.box 28 3 [.ms lv 0 m.g.vs.length,.ms le 0 m.g.es.length,.ms lr 0 j]∧st2.H lr=.box 22 1 (rowsL (m.rots.take j))∧c < lr∧lr < st2.next) ?_ ?_ ?_
 ·refine ⟨by simp,by simp [hc],by simp,?_,?_,?_,?_,c+1,?_,?_,by omega,?_⟩
  ·subst hc;(repeat (first | exact hkp1 | (refine Keeps.trans ?_ (Keeps.new _ _)) | (refine Keeps.set ?_ (by first | omega | (simp;done) | (simp;omega)) _)))
  ·subst hc;simp [show ¬ st.next+1=s1.next by omega,show ¬ st.next+1=s1.next+1 by omega,hC1,show ¬ st.next=s1.next by omega]
  ·subst hc;simp [show ¬ lv=s1.next by omega,show ¬ lv=s1.next+1 by omega,hv1]
  ·subst hc;simp [show ¬ le=s1.next by omega,show ¬ le=s1.next+1 by omega,he1]
  ·subst hc;simp
  ·subst hc;simp
  ·subst hc;simp
 ·rintro j fr s hlt ⟨f2,f3,f11,hkp,hR,hv,he,lr,hB,hO,hlo,hhi⟩ fi fn JO hJO
  have hd:=rowsL_drop m.rots j hlt
  have hFj:=hF j hlt
  have hst:=hs _ (show m.rots.getD j []∈m.rots by rw [getR_lt _ _ hlt];exact List.getElem_mem _)
  have hjl:(rowsL (m.rots.take j)).length=j:=by simp [rowsL];omega
  simp only [hFj] at hJO
  generalize m.rots.getD j []=t at *
  generalize rowsL (m.rots.take j)=R at *
  (repeat' (first | refine qS ?_ | (refine w_e [] ?_;intro J hJ;simp only [];simp [f11,fi,fn,hd,hlt];(refine hJ _ _ ?_;clear hJ J;simp only [ak,reduceIte]))))
  (refine w_s [] [c] [(0,true),(1,true),(2,true),(3,true),(4,true),(5,false),(6,true),(7,false)] ?_;intro J hJ;simp [f3,hB])
  refine qD (uClone' t 0 _ hst) (by simp) ?_;rintro r s2 ⟨rfl,h1⟩
  rw [h1];clear h1 s2
  refine ⟨fun h=>by first | (cases h;done) | simp [hB],?_⟩
  have e2:¬ lr=s.next:=by omega
  have e3:¬ c=lr:=by omega
  have e4:¬ c=s.next:=by omega
  have e5:¬ c=s.next+1:=by omega
  (refine d_go ?_;simp [f3,hB,hO,e2,e3,e4,e5,hjl];(repeat refine ca ?_);(refine hJ _ _ ?_;clear hJ J;simp only [ak,reduceIte]))
  refine hJO _ _ (by simp [fi]) (by simp [fn]) ⟨by simp [f2],by simp [f3],by simp [f11],?_,?_,?_,?_,s.next+1,by simp,by simp [show ¬ s.next+1=c by omega,show ¬ s.next=c by omega],by omega,by simp⟩
  ·(repeat (first | exact hkp | (refine Keeps.trans ?_ (Keeps.new _ _)) | (refine Keeps.set ?_ (by omega) _)))
  ·simp [show ¬ st.next+1=c by omega,show ¬ st.next=s.next by omega,show ¬ st.next+1=lr by omega,show ¬ st.next+1=s.next by omega,hR]
  ·simp [show ¬ lv=c by omega,show ¬ lv=s.next+1 by omega,show ¬ lv=lr by omega,show ¬ lv=s.next by omega,hv]
  ·simp [show ¬ le=c by omega,show ¬ le=s.next+1 by omega,show ¬ le=lr by omega,show ¬ le=s.next by omega,he]
 ·rintro fr s ⟨f2,f3,f11,hkp,hR,hv,he,lr,hB,hO,hlo,hhi⟩
  rw [List.take_length] at hO
  (repeat' (first | refine qS ?_ | (refine qR ?_;simp only [ak,reduceIte];simp [f2,f3,hB,hR]) | (refine w_e [] ?_;intro J hJ;simp only [];simp [f2,f3,hB,hR];(refine hJ _ _ ?_;clear hJ J;simp only [ak,reduceIte]))))
  refine ⟨lv,le,lr,rfl,⟨?_,?_,?_,by simp;omega,by simp;omega,by simp;omega⟩,by omega,by omega,by omega,hkp.set (by omega) _⟩
  ·simp [show ¬ lv=st.next+1 by omega,hv]
  ·simp [show ¬ le=st.next+1 by omega,he]
  ·simp [show ¬ lr=st.next+1 by omega,hO]
def lss (l:List Int) (v:Int):Nat:=(l.filter fun x=>decide (x < v)).length
theorem lss_at {l:List Int} {v:Int} {k:Nat} (hk:k≤l.length) (h1:∀ j (h:j < l.length),j < k→l[j] < v) (h2:∀ j (h:j < l.length),k≤j→v≤l[j]):lss l v=k:=by
 unfold lss
 rw [← List.take_append_drop k l,List.filter_append,List.length_append]
 have e1:(l.take k).filter (fun x=>decide (x < v))=l.take k:=List.filter_eq_self.2 fun x hx=>by
  obtain ⟨j,hj,rfl⟩:=List.getElem_of_mem hx
  rw [List.length_take] at hj
  rw [List.getElem_take]
  simpa using h1 j (by omega) (by omega)
 have e2:(l.drop k).filter (fun x=>decide (x < v))=[]:=List.filter_eq_nil_iff.2 fun x hx=>by
  obtain ⟨j,hj,rfl⟩:=List.getElem_of_mem hx
  rw [List.length_drop] at hj
  rw [List.getElem_drop]
  simpa using h2 (k+j) (by omega) (by omega)
 rw [e1,e2,List.length_take];simp;omega
theorem lss_le (l:List Int) (v:Int):lss l v≤l.length:=List.length_filter_le _ _
theorem isNaNS (x:Int) (st:St):ACalls Tryz.prog 122 [u x] st fun r st'=>r=bb false∧st'=st:=by
 refine qO tabOk Tryz.func122 rfl rfl Tryz.ntmps122 (rs:=[.tmp 2]) rfl (by simp) ?_
 (repeat' (first | refine qS ?_ | (refine qR ?_;simp only [ak,reduceIte];simp []) | (refine w_e [] ?_;intro J hJ;simp only [];simp [];(refine hJ _ _ ?_;clear hJ J;simp only [ak,reduceIte]))))
theorem BinarySearch (l:List Int) (t:Nat) (v:Int) (st:St) (hl:l.length≤100000) (hr:l.Pairwise (· < ·)):
 ACalls Tryz.prog 95 [.sl t l.length (us l),u v] st fun r st'=>r=.tu [i (lss l v),bb (decide (v∈l))]∧st'=st:=by
 refine qO tabOk Tryz.func95 rfl rfl Tryz.ntmps95 (rs:=[.tmp 4,.tmp 5]) rfl (by simp) ?_
 (repeat' (first | refine qS ?_ | refine qB ?_ | (refine w_e [] ?_;intro J hJ;simp only [];simp [];(refine hJ _ _ ?_;clear hJ J;simp only [ak,reduceIte]))))
 refine qL (fun n fr st'=>∃ a b:Nat,a≤b∧b≤l.length∧n=b - a∧fr 0=.sl t l.length (us l)∧fr 1=u v∧fr 6=i l.length∧fr 7=i a∧fr 8=i b∧st'=st∧(∀ j (h:j < l.length),j < a→l[j] < v)∧∀ j (h:j < l.length),b≤j→v≤l[j]) l.length ?_ ?_
 ·exact ⟨0,l.length,by omega,by omega,by omega,by simp,by simp,by simp,by simp,by simp,rfl,fun j _ h=>by omega,fun j h1 h2=>by omega⟩
 rintro n fr st' ⟨a,b,hab,hb,rfl,f0,f1,f6,f7,f8,rfl,h1,h2⟩ JJ hJJ
 by_cases hlt:a < b
 rotate_left
 ·have hba:b=a:=by omega
  subst hba
  clear hJJ
  have hlt':¬ (b:Int) < b:=by omega
  have hls:=lss_at hb h1 h2
  by_cases hlb:b < l.length
  ·have hd:=us_drop_head l b hlb
   have hlb':(b:Int) < l.length:=by omega
   by_cases hv:l[b]=v
   ·have hin:v∈l:=hv ▸ List.getElem_mem hlb
    (repeat' (first | refine qS ?_ | (refine qX ?_;simp only [ak,reduceIte]) | (refine qR ?_;simp only [ak,reduceIte];simp [f0,f1,f6,f7,f8,hlt',hlb',hlb,hd,hv,hls,hin]) | (refine qC ?_;simp [f0,f1,f6,f7,f8,hlt',hlb',hlb,hd,hv,hls,hin]) | (refine w_e [] ?_;intro J hJ;simp only [];simp [f0,f1,f6,f7,f8,hlt',hlb',hlb,hd,hv,hls,hin];(refine hJ _ _ ?_;clear hJ J;simp only [ak,reduceIte]))))
   ·have hin:v∉l:=fun hm=>by
     obtain ⟨j,hj,e⟩:=List.getElem_of_mem hm
     rcases Nat.lt_trichotomy j b with h | h | h
     ·have:=h1 j hj h;omega
     ·subst h;exact hv e
     ·have h3:=List.pairwise_iff_getElem.1 hr b j hlb hj h
      have h4:=h2 b hlb (Nat.le_refl _)
      omega
    have hvb:(l[b]==v)=false:=by simpa using hv
    (repeat' (first | refine qS ?_ | (refine qX ?_;simp only [ak,reduceIte]) | (refine qC ?_;simp [f0,f1,f6,f7,f8,hlt',hlb',hlb,hd,hv,hvb,hls,hin]) | (refine w_e [] ?_;intro J hJ;simp only [];simp [f0,f1,f6,f7,f8,hlt',hlb',hlb,hd,hv,hvb,hls,hin];(try (refine hJ _ _ ?_;clear hJ J;simp only [ak,reduceIte])))))
    refine qE (isNaNS l[b] _) (by simp) ?_;rintro r s1 ⟨rfl,rfl⟩
    (repeat' (first | (refine qR ?_;simp only [ak,reduceIte];simp [hls,hin]) | (refine e_go ?_;simp [hls,hin];(refine hJ _ _ ?_;clear hJ J;simp only [ak,reduceIte]))))
  ·have hlb':¬ (b:Int) < l.length:=by omega
   have hin:v∉l:=fun hm=>by
    obtain ⟨j,hj,e⟩:=List.getElem_of_mem hm
    have:=h1 j hj (by omega)
    omega
   (repeat' (first | refine qS ?_ | (refine qX ?_;simp only [ak,reduceIte]) | (refine qR ?_;simp only [ak,reduceIte];simp [f0,f1,f6,f7,f8,hlt',hlb',hls,hin]) | (refine qC ?_;simp [f0,f1,f6,f7,f8,hlt',hlb',hls,hin]) | (refine w_e [] ?_;intro J hJ;simp only [];simp [f0,f1,f6,f7,f8,hlt',hlb',hls,hin];(refine hJ _ _ ?_;clear hJ J;simp only [ak,reduceIte]))))
 ·obtain ⟨h,hh⟩:∃ h,h=(a+b) / 2:=⟨_,rfl⟩
  have hw1:IntKind.i64.wrap ((a:Int)+b)=((a+b:Nat):Int):=by rw [wrap_small _ (by omega) (by omega)];omega
  have hw2:IntKind.u64.wrap ((a+b:Nat):Int)=((a+b:Nat):Int):=wrap_u64 _ (by omega) (by omega)
  have hw3:=half_s (a+b) h hh
  have hw4:IntKind.i64.wrap (h:Int)=h:=wrap_small _ (by omega) (by omega)
  have hw5:=qN h (by omega)
  have hlt':(a:Int) < b:=by omega
  have hhl:h < l.length:=by omega
  have hhl':(h:Int) < l.length:=by omega
  have hd:=us_drop_head l h hhl
  have hca:((a+b:Nat):Int)=(a:Int)+b:=by omega
  rw [hca] at hw1 hw2 hw3
  (repeat' (first | refine qS ?_ | refine qB ?_ | (refine qK ?_;simp only [ak,reduceIte]) | (refine qC ?_;simp [f0,f1,f7,f8,hlt',hw1,hw2,hw3,hw4,hhl,hhl',hd]) | (refine w_e [] ?_;intro J hJ;simp only [];simp [f0,f1,f7,f8,hlt',hw1,hw2,hw3,hw4,hhl,hhl',hd];(try (refine hJ _ _ ?_;clear hJ J;simp only [ak,reduceIte])))))
  refine qE (Less l[h] v _) (by simp) ?_;rintro r s1 ⟨rfl,rfl⟩
  by_cases hc:l[h] < v
  ·(repeat' (first | (refine qC ?_;simp [hc,hw5]) | ((first | (refine w_e [] ?_;intro J hJ;simp only []) | (refine e_go ?_));simp [hc,hw5];(refine hJ _ _ ?_;clear hJ J;simp only [ak,reduceIte]))))
   refine hJJ (b - (h+1)) _ _ (by omega) ⟨h+1,b,by omega,hb,rfl,by simp [f0],by simp [f1],by simp [f6],by simp,by simp [f8],rfl,fun j hj hjh=>?_,h2⟩
   rcases Nat.lt_or_ge j h with h3 | h3
   ·have:=List.pairwise_iff_getElem.1 hr j h hj hhl h3;omega
   ·obtain rfl:j=h:=by omega
    exact hc
  ·(repeat' (first | (refine qC ?_;simp [hc]) | ((first | (refine w_e [] ?_;intro J hJ;simp only []) | (refine e_go ?_));simp [hc];(refine hJ _ _ ?_;clear hJ J;simp only [ak,reduceIte]))))
   refine hJJ (h - a) _ _ (by omega) ⟨a,h,by omega,by omega,rfl,by simp [f0],by simp [f1],by simp [f6],by simp [f7],by simp,rfl,h1,fun j hj hjh=>?_⟩
   rcases Nat.lt_or_ge h j with h3 | h3
   ·have:=List.pairwise_iff_getElem.1 hr h j hhl hj h3;omega
   ·obtain rfl:j=h:=by omega
    omega
def rowW (m:Mp) (v:Int):List Int:=if v∈m.g.vs then m.rots.getD (m.g.vs.idxOf v) [] else []
def tnW (m:Mp) (v:Int) (ids:List Int):List Int:=(rowW m v).filter fun d=>decide (d / 2∈ids)
def sameW (a b:Mp) (ids:List Int) (v:Int):Bool:=decide (nrm (tnW a v ids)=nrm (tnW b v ids))
def keep1 (a b:Mp) (K:List Int) (x:Ed):List Int:=if x∈b.g.es∧sameW a b (K++[x.id]) x.a=true∧sameW a b (K++[x.id]) x.b=true then K++[x.id] else K
def keptW (a b:Mp):List Int:=a.g.es.foldl (keep1 a b) []
def alikeW (a b:Mp) (ids:List Int):Bool:=(a.g.vs.all fun v=>sameW a b ids v)&&(b.g.vs.all fun v=>sameW a b ids v)
def keepR (a b:Mp) (K:List Int) (x:Ed):List Int:=if x∈b.g.es∧alikeW a b (K++[x.id])=true then K++[x.id] else K
def keptR (a b:Mp):List Int:=a.g.es.foldl (keepR a b) []
theorem row_ends {m:Mp} (h:MapOk m) {v d:Int}:d∈rowW m v↔d∈ends m.g.es v:=by
 unfold rowW
 split
 ·rename_i hv
  have hk:=List.idxOf_lt_length_of_mem hv
  have ho:=h.ok _ hk
  have e:m.g.vs.getD (m.g.vs.idxOf v) 0=v:=by rw [getD_lt _ _ hk];exact List.getElem_idxOf hk
  rw [e] at ho
  exact ho.1.mem_iff
 ·rename_i hv
  constructor
  ·intro hd;simp at hd
  ·intro hd
   obtain ⟨x,hx,h1 | h1⟩:=mem_ends.1 hd
   ·exact absurd (h1.1 ▸ (h.g.ends x hx).1) hv
   ·exact absurd (h1.1 ▸ (h.g.ends x hx).2) hv
theorem row_nodup {m:Mp} (h:MapOk m) (v:Int):(rowW m v).Nodup:=by
 unfold rowW
 split
 ·rename_i hv
  have hk:=List.idxOf_lt_length_of_mem hv
  rw [getR_lt _ _ (by rw [h.len];exact hk)]
  exact h.nodup (List.getElem_mem _)
 ·simp
theorem tn_nodup {m:Mp} (h:MapOk m) (v:Int) (ids:List Int):(tnW m v ids).Nodup:=(row_nodup h v).filter _
theorem tn_other {m:Mp} (h:MapOk m) {x:Ed} (hx:x∈m.g.es) {v:Int} (ha:v≠x.a) (hb:v≠x.b) (K:List Int):tnW m v (K++[x.id])=tnW m v K:=by
 unfold tnW
 refine List.filter_congr fun d hd=>?_
 have hde:=(row_ends h).1 hd
 have hne:d / 2≠x.id:=fun e=>by
  obtain ⟨y,hy,h1⟩:=mem_ends.1 hde
  have:x=y:=id_eq h.g.ids hx hy (by omega)
  subst this
  rcases h1 with h1 | h1
  ·exact ha h1.1.symm
  ·exact hb h1.1.symm
 simp [hne]
theorem same_all {a b:Mp} (ha:MapOk a) (hb:MapOk b) {K:List Int} (hK:∀ v,sameW a b K v=true) {x:Ed} (hx:x∈a.g.es) (hy:x∈b.g.es):(sameW a b (K++[x.id]) x.a=true∧sameW a b (K++[x.id]) x.b=true)↔∀ v,sameW a b (K++[x.id]) v=true:=by
 constructor
 ·rintro ⟨h1,h2⟩ v
  by_cases e1:v=x.a
  ·rw [e1];exact h1
  ·by_cases e2:v=x.b
   ·rw [e2];exact h2
   ·have:=hK v
    unfold sameW at this ⊢
    rw [tn_other ha hx e1 e2,tn_other hb hy e1 e2];exact this
 ·intro h;exact ⟨h _,h _⟩
theorem alike_all {a b:Mp} {ids:List Int}:alikeW a b ids=true↔∀ v,sameW a b ids v=true:=by
 unfold alikeW
 rw [Bool.and_eq_true,List.all_eq_true,List.all_eq_true]
 constructor
 ·rintro ⟨h1,h2⟩ v
  by_cases e1:v∈a.g.vs
  ·exact h1 v e1
  ·by_cases e2:v∈b.g.vs
   ·exact h2 v e2
   ·unfold sameW tnW rowW
    rw [if_neg e1,if_neg e2];simp
 ·intro h;exact ⟨fun v _=>h v,fun v _=>h v⟩
theorem kept_same {a b:Mp} (ha:MapOk a) (hb:MapOk b):keptW a b=keptR a b:=by
 have key:∀ (l:List Ed) (K:List Int),(∀ x∈l,x∈a.g.es)→(∀ v,sameW a b K v=true)→l.foldl (keep1 a b) K=l.foldl (keepR a b) K:=by
  intro l
  induction l with
  | nil=>intro K _ _;rfl
  | cons x l ih=>
    intro K hl hK
    have hx:=hl x (by simp)
    have hl2:=fun y hy=>hl y (List.mem_cons_of_mem x hy)
    rw [List.foldl_cons,List.foldl_cons]
    by_cases hy:x∈b.g.es
    ·have hs:=same_all ha hb hK hx hy
     by_cases hal:∀ v,sameW a b (K++[x.id]) v=true
     ·have e1:keep1 a b K x=K++[x.id]:=by unfold keep1;rw [if_pos ⟨hy,hs.2 hal⟩]
      have e2:keepR a b K x=K++[x.id]:=by unfold keepR;rw [if_pos ⟨hy,alike_all.2 hal⟩]
      rw [e1,e2]
      exact ih _ hl2 hal
     ·have e1:keep1 a b K x=K:=by unfold keep1;rw [if_neg fun h=>hal (hs.1 h.2)]
      have e2:keepR a b K x=K:=by unfold keepR;rw [if_neg fun h=>hal (alike_all.1 h.2)]
      rw [e1,e2]
      exact ih _ hl2 hK
    ·have e1:keep1 a b K x=K:=by unfold keep1;rw [if_neg fun h=>hy h.1]
     have e2:keepR a b K x=K:=by unfold keepR;rw [if_neg fun h=>hy h.1]
     rw [e1,e2]
     exact ih _ hl2 hK
 exact key a.g.es [] (fun x hx=>hx) fun v=>by
  have e:∀ m:Mp,tnW m v []=[]:=fun m=>by unfold tnW;rw [List.filter_eq_nil_iff];intro d _;simp
  unfold sameW;rw [e,e];simp
theorem keep1_len (a b:Mp) (l:List Ed):∀ K,(l.foldl (keep1 a b) K).length≤K.length+l.length:=by
 induction l with
 | nil=>intro K;simp
 | cons x l ih=>
   intro K
   have:=ih (keep1 a b K x)
   have h2:(keep1 a b K x).length≤K.length+1:=by unfold keep1;split<;>simp
   rw [List.foldl_cons,List.length_cons];omega
structure Sp where
 k:Int
 id:Int
 a:Int
 b:Int
 pa:Int
 pb:Int
def aheadW (b:Mp) (v d:Int) (T:List Int):Int:=if (tnW b v T).length=1 then 0 else pv (tnW b v T) d
def aheadR (b:Mp) (v d:Int) (T:List Int):Int:=if (nrm (tnW b v T)).length < 2 then 0 else pv (nrm (tnW b v T)) d
theorem tn_dart {b:Mp} (hb:MapOk b) {x:Ed} (hx:x∈b.g.es) {T:List Int} (hT:x.id∈T):2 * x.id∈tnW b x.a T∧2 * x.id+1∈tnW b x.b T:=by
 unfold tnW
 rw [List.mem_filter,List.mem_filter]
 refine ⟨⟨(row_ends hb).2 (mem_ends.2 ⟨x,hx,.inl ⟨rfl,rfl⟩⟩),?_⟩,⟨(row_ends hb).2 (mem_ends.2 ⟨x,hx,.inr ⟨rfl,rfl⟩⟩),?_⟩⟩
 ·rw [show 2 * x.id / 2=x.id by omega];simpa using hT
 ·rw [show (2 * x.id+1) / 2=x.id by omega];simpa using hT
structure Lk where
 T:List Int
 out:List Sp
def link1 (b:Mp) (K:List Int) (S:Lk) (x:Ed):Lk:=if x.id∈K then S else ⟨S.T++[x.id],S.out++[⟨3,x.id,x.a,x.b,aheadW b x.a (2 * x.id) (S.T++[x.id]),aheadW b x.b (2 * x.id+1) (S.T++[x.id])⟩]⟩
def links (b:Mp) (K:List Int) (l:List Ed):Lk:=l.foldl (link1 b K) ⟨K,[]⟩
def gone (a:Mp) (K:List Int):List Sp:=(a.g.es.filter fun x=>decide (x.id∉K)).map fun x=>⟨4,x.id,0,0,0,0⟩
def lessV (a b:Mp):List Sp:=(a.g.vs.filter fun v=>decide (v∉b.g.vs)).map fun v=>⟨2,v,0,0,0,0⟩
def moreV (a b:Mp):List Sp:=(b.g.vs.filter fun v=>decide (v∉a.g.vs)).map fun v=>⟨1,v,0,0,0,0⟩
def diffW (a b:Mp) (K:List Int):List Sp:=gone a K++lessV a b++moreV a b++(links b K b.g.es).out
theorem link_mem {b:Mp} (K:List Int) (l:List Ed):∀ (S:Lk) (y:Int),y∈(l.foldl (link1 b K) S).T→y∈S.T∨∃ x∈l,x.id=y:=by
 induction l with
 | nil=>intro S y h;exact .inl h
 | cons x l ih=>
   intro S y h
   rcases ih _ _ h with h1 | ⟨z,hz,e⟩
   ·unfold link1 at h1
    split at h1
    ·exact .inl h1
    ·simp only [List.mem_append,List.mem_singleton] at h1
     rcases h1 with h1 | h1
     ·exact .inl h1
     ·exact .inr ⟨x,by simp,h1.symm⟩
   ·exact .inr ⟨z,by simp [hz],e⟩
end Go.Proofs.YtglkgindpjdoiaaGreat.Aw
