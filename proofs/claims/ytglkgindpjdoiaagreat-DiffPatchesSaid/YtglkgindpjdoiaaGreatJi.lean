/- Drawing on a map: link. -/
import Derived.Test.YtglkgindpjdoiaaGreatJh
import Derived.Test.YtglkgindpjdoiaaGreatAwShp
import Derived.Test.YtglkgindpjdoiaaGreatAwAlt
namespace Go.Proofs.YtglkgindpjdoiaaGreat.Aw
open Go Go.RowKit Go.Proofs.YtglkgindpjdoiaaGreat.Pl Go.Proofs.YtglkgindpjdoiaaGreat.Eu
set_option linter.unusedSimpArgs false
set_option linter.unusedVariables false
theorem awp_cutL {P:Program} {N:Nat} {Q:AQ} {k:List AItem} {fr:Frm} {st:St} {x y:Code} (I:Frm→St→Prop) (h1:AWp P N x (AK P N (fun e f s=>(e=.normal∧I f s)∨(e=.ret∧AK P N Q k .ret f s)) []) fr st) (h2:∀ fr st,I fr st→AWp P N y (AK P N Q k) fr st):
 AWp P N x (AK P N Q (.code y::k)) fr st:=by
 refine awp_mono h1 ?_
 rintro e fr' st' (⟨rfl,hI⟩ | ⟨rfl,hI⟩)
 ·rw [ak_code]
  exact h2 _ _ hI
 ·rw [ak_code_ret]
  exact hI
theorem awp_cutN {P:Program} {N:Nat} {Q:AQ} {k:List AItem} {fr:Frm} {st:St} {x y:Code} (I:Frm→St→Prop) (h1:AWp P N x (AK P N (fun e f s=>e=.normal∧I f s) []) fr st) (h2:∀ fr st,I fr st→AWp P N y (AK P N Q k) fr st):
 AWp P N x (AK P N Q (.code y::k)) fr st:=by
 refine awp_mono h1 ?_
 rintro e fr' st' ⟨rfl,hI⟩
 rw [ak_code]
 exact h2 _ _ hI
theorem awp_lend2 {P:Program} {N:Nat} {c:Code} {Q:AQ} {k:List AItem} {fr:Frm} {st:St} (j0 j3:Nat) (x0 x3:LV) (I:Exit→Frm→Prop) (h0:Lend st (fr j0) x0) (h3:Lend st (fr j3) x3)
 (h:AWp P N c (AK P N (fun e f _=>I e f) []) (upd (upd fr j0 x0) j3 x3) st.bare) (hk:∀ e f n,I e f→st.next≤n→AK P N Q k e (fun i=>giveB st.next (f i)) (st.back n)):AWp P N c (AK P N Q k) fr st:=by
 intro a w g hi hr hs hd
 refine Code.wp_mono (fun e a' w' p=>?_) (h a w g.still (inv_bare hi) (fun i=>?_) hs hd)
 ·obtain ⟨f,s,g',hq,hi',hr',hs',hd',he⟩:=p
  have hn:st.next≤s.next:=by have:=he.next;rw [hi'.next] at this;have h2:g.still.next=st.next:=hi.next;omega
  refine ⟨_,_,g.back g' w,hk e f s.next hq hn,inv_back hi he hi',fun i=>?_,hs',hd',ext_back he⟩
  rw [← hi.next]
  exact rep_giveB he (hr' i)
 ·unfold upd
  by_cases e3:i=j3
  ·subst e3;rw [if_pos rfl];exact h3 w g _ hi (hr i)
  ·rw [if_neg e3]
   by_cases e0:i=j0
   ·subst e0;rw [if_pos rfl];exact h0 w g _ hi (hr i)
   ·rw [if_neg e0];exact lend_same st _ w g _ hi (hr i)
def LkI (D q ka kb:Nat) (y:Int) (s0:St) (f:Frm) (s:St):Prop:=f 0=.pt D 0∧f 3=.pt q 0∧f 5=i ka∧f 6=i kb∧s.H=s0.H∧s0.next≤s.next∧y=0
def LkP (D q ka kb pl:Nat) (s1:St) (f:Frm) (s:St):Prop:=f 0=.pt D 0∧f 3=.pt q 0∧f 5=i ka∧f 6=i kb∧f 8=i pl∧s=s1
theorem eds_insE (l:List Ed) (x:Ed):(eds l).take (plE l x.id * 3)++([u x.id,u x.a,u x.b]++(eds l).drop (plE l x.id * 3))=eds (insE l x):=by
 have h:=plE_le l x.id
 unfold insE
 generalize plE l x.id=k at *
 have h1:eds l=eds (l.take k)++eds (l.drop k):=by rw [← eds_append,List.take_append_drop]
 have h2:(eds (l.take k)).length=k * 3:=by rw [eds_length,List.length_take];omega
 rw [eds_append,h1,List.take_left' h2,List.drop_left' h2]
 rfl
theorem rowsL_set (R:List (List Int)) (k:Nat) (hk:k < R.length) (t:List Int) (n:Nat) (hn:n=t.length):(rowsL R).take k++.sl 0 n (us t)::(rowsL R).drop (k+1)=rowsL (R.set k t):=by
 subst hn
 rw [List.set_eq_take_append_cons_drop,if_pos hk]
 simp [rowsL]
structure LkW (B D q lv lr ka kb:Nat) (m:Mp) (x:Ed) (R:List (List Int)) (st:St) (f:Frm) (s:St):Prop where
 f0:f 0=.pt D 0
 f3:f 3=.pt q 0
 f5:f 5=i ka
 f6:f 6=i kb
 ex:∃ l',s.H D=.box 61 3 [.ms lv 0 m.g.vs.length,.ms l' 0 (m.g.es.length+1),.ms lr 0 m.rots.length]∧s.H l'=.box 31 3 (eds (insE m.g.es x))∧l' < s.next∧B≤l'∧l'≠D∧l'≠q∧l'≠lv∧l'≠lr
 v:s.H lv=.box 29 1 (us m.g.vs)
 r:s.H lr=.box 22 1 (rowsL R)
 k:KB B st s
 n:q < s.next∧lv < s.next∧lr < s.next∧D < s.next
def LkE (D q ka kb:Nat) (y:Int) (cD cq:List LV) (e:Exit) (f:Frm):Prop:=(e=.normal∧f 0=.pe D cD∧f 3=.pe q cq∧f 5=i ka∧f 6=i kb∧y=0)∨(e=.ret∧f 4=i 24∧y=24)
set_option maxHeartbeats 8000000 in
theorem linkS (B D:Nat) (m:Mp) (s:Sp) (st:St) (h:DrB B D m st) (ho:Ord m) (hm:MapOk m) (hs:∀ t∈m.rots,small t) (hid:1≤s.id∧s.id≤1048576):
 ACalls Tryz.prog 64 [.pt D 0,.ag (spL s)] st fun r st'=>r=i (linkW m s)∧(linkW m s=0→DrB B D (linkM m ⟨s.id,s.a,s.b⟩ s.pa s.pb) st')∧KB B st st':=by
 obtain ⟨⟨lv,le,lr,hI,b1,b2,b3⟩,hB0⟩:=h
 obtain ⟨d1,d2,d3,d4,d5,d6⟩:=hI.ne
 obtain ⟨hD,hat,hD0⟩:=hI
 obtain ⟨y,hy⟩:∃ y,y=linkW m s:=⟨_,rfl⟩
 rw [← hy]
 unfold linkW at hy
 have hvl:=ho.vl
 have hel:=ho.el
 have hlen:=ho.len
 have n1:=hat.v0
 have n2:=hat.e0
 have n3:=hat.r0
 obtain ⟨q,hq⟩:∃ q,q=st.next:=⟨_,rfl⟩
 obtain ⟨s0,hs0⟩:∃ s0,s0=st.new (.box 38 6 (spL s)):=⟨_,rfl⟩
 have hI1:DrI D lv le lr m s0:=by
  subst hs0
  exact ⟨by simp [show ¬ D=st.next by omega,hD],⟨by simp [show ¬ lv=st.next by omega,hat.v],by simp [show ¬ le=st.next by omega,hat.e],by simp [show ¬ lr=st.next by omega,hat.r],by simp;omega,by simp;omega,by simp;omega⟩,by simp;omega⟩
 have hat1:=hI1.at'
 have hq0:s0.H q=.box 38 6 (spL s):=by subst hs0 hq;simp
 have hk0:KB B st s0:=by subst hs0;exact (Keeps.new _ _).kb (by omega)
 have hq1:s0.next=q+1:=by subst hs0 hq;rfl
 have hD1:=hI1.d
 unfold mpM at hD1
 obtain ⟨k,id,sa,sb,pa,pb⟩:=s
 simp only [spL] at *
 refine qO tabOk Tryz.func64 rfl rfl Tryz.ntmps64 (rs:=[.tmp 4]) rfl (by simp) ?_
 refine awp_posG fun hpos=>?_
 (repeat' (first | refine qS ?_ | (refine w_e [] ?_;intro J hJ;simp only [];simp [];(refine hJ _ _ ?_;clear hJ J;simp only [ak,reduceIte]))))
 rw [← hs0,← hq]
 (refine w_s [] [D,q] [(0,true),(1,true),(2,true),(3,true),(4,true),(5,true),(6,true),(7,false),(8,true)] ?_;intro J hJ;simp [hD1,hq0])
 refine qD (EdgeM m lv le lr id _ hel hat1) (by simp) ?_;rintro r s1 ⟨rfl,h1⟩
 rw [h1];clear h1 s1
 refine ⟨fun h=>by first | (cases h;done) | simp,?_⟩
 by_cases hin:fe m.g.es id < 0
 rotate_left
 ·rw [if_pos hin] at hy
  subst hy
  have hin':0≤fe m.g.es id:=by omega
  generalize fe m.g.es id=gg at *
  (refine d_go ?_;simp [hin];(refine hJ _ _ ?_;clear hJ J;simp only [ak,reduceIte]))
  (repeat' (first | refine qS ?_ | (refine qR ?_;simp only [ak,reduceIte];simp [hin']) | (refine qC ?_;simp [hin']) | (refine w_e [] ?_;intro J hJ;simp only [];simp [hin'];(refine hJ _ _ ?_;clear hJ J;simp only [ak,reduceIte]))))
  exact hk0
 rw [if_neg (fun h=>h hin)] at hy
 have hnew:=fe_neg.1 hin
 have hin':¬ 0≤fe m.g.es id:=by omega
 generalize fe m.g.es id=gg at *
 (refine d_go ?_;simp [hin'];(refine hJ _ _ ?_;clear hJ J;simp only [ak,reduceIte]))
 by_cases hmany:160≤m.g.es.length
 ·rw [if_pos hmany] at hy
  subst hy
  have hm':(160:Int)≤m.g.es.length:=by omega
  (repeat' (first | refine qS ?_ | (refine qK ?_;simp only [ak,reduceIte]) | (refine qR ?_;simp only [ak,reduceIte];simp [hin',hD1,hq0,hm',hmany]) | (refine qC ?_;simp [hin',hD1,hq0,hm',hmany]) | (refine w_e [] ?_;intro J hJ;simp only [];simp [hin',hD1,hq0,hm',hmany];(refine hJ _ _ ?_;clear hJ J;simp only [ak,reduceIte]))))
  exact hk0
 rw [if_neg hmany] at hy
 have hm':¬ (160:Int)≤m.g.es.length:=by omega
 by_cases hab:sa=sb
 ·rw [if_pos hab] at hy
  subst hy
  have hab':(sa==sb)=true:=by simpa using hab
  (repeat' (first | refine qS ?_ | (refine qK ?_;simp only [ak,reduceIte]) | (refine qR ?_;simp only [ak,reduceIte];simp [hin',hD1,hq0,hm',hmany,hab,hab']) | (refine qC ?_;simp [hin',hD1,hq0,hm',hmany,hab,hab']) | (refine w_e [] ?_;intro J hJ;simp only [];simp [hin',hD1,hq0,hm',hmany,hab,hab'];(refine hJ _ _ ?_;clear hJ J;simp only [ak,reduceIte]))))
  exact hk0
 rw [if_neg hab] at hy
 have hab':(sa==sb)=false:=by simpa using hab
 (repeat' (first | refine qS ?_ | (refine qK ?_;simp only [ak,reduceIte]) | (refine qC ?_;simp [hin',hD1,hq0,hm',hmany,hab,hab']) | (refine w_e [] ?_;intro J hJ;simp only [];simp [hin',hD1,hq0,hm',hmany,hab,hab'];(refine hJ _ _ ?_;clear hJ J;simp only [ak,reduceIte]))))
 (refine w_s [] [D,q] [(0,true),(1,true),(2,true),(3,true),(4,true),(5,true),(6,true),(8,true),(9,true),(10,true),(11,true),(12,true),(13,true),(14,true),(7,true),(15,true),(16,true),(17,true)] ?_;intro J hJ;simp [hD1,hq0])
 refine qD (VertM m lv le lr sa _ (by unfold small;omega) hat1) (by simp) ?_;rintro r s1 ⟨rfl,h1⟩
 rw [h1];clear h1 s1
 refine ⟨fun h=>by first | (cases h;done) | simp,?_⟩
 (refine d_go ?_;simp [hD1,hq0])
 refine qD (VertM m lv le lr sb _ (by unfold small;omega) hat1) (by simp) ?_;rintro r s1 ⟨rfl,h1⟩
 rw [h1];clear h1 s1
 refine ⟨fun h=>by first | (cases h;done) | simp,?_⟩
 by_cases hav:sa∈m.g.vs
 rotate_left
 ·rw [if_pos (.inl hav)] at hy
  subst hy
  have hgn:=(gi_neg m.g.vs sa).2 hav
  generalize gi m.g.vs sa=ga at *
  generalize gi m.g.vs sb=gb at *
  (refine d_go ?_;simp [];(refine hJ _ _ ?_;clear hJ J;simp only [ak,reduceIte]))
  (repeat' (first | refine qS ?_ | (refine qR ?_;simp only [ak,reduceIte];simp [hgn]) | (refine qC ?_;simp [hgn]) | (refine w_e [] ?_;intro J hJ;simp only [];simp [hgn];(refine hJ _ _ ?_;clear hJ J;simp only [ak,reduceIte]))))
  exact hk0
 by_cases hbv:sb∈m.g.vs
 rotate_left
 ·rw [if_pos (.inr hbv)] at hy
  subst hy
  have hgn:=(gi_neg m.g.vs sb).2 hbv
  have hga:¬ gi m.g.vs sa < 0:=fun h=>(gi_neg m.g.vs sa).1 h hav
  generalize gi m.g.vs sa=ga at *
  generalize gi m.g.vs sb=gb at *
  (refine d_go ?_;simp [];(refine hJ _ _ ?_;clear hJ J;simp only [ak,reduceIte]))
  (repeat' (first | refine qS ?_ | (refine qR ?_;simp only [ak,reduceIte];simp [hga,hgn]) | (refine qC ?_;simp [hga,hgn]) | (refine w_e [] ?_;intro J hJ;simp only [];simp [hga,hgn];(refine hJ _ _ ?_;clear hJ J;simp only [ak,reduceIte]))))
  exact hk0
 rw [if_neg (by rintro (h | h)<;>exact h (by assumption))] at hy
 rw [gi_mem hav,gi_mem hbv]
 have ia:=List.idxOf_lt_length_of_mem hav
 have ib:=List.idxOf_lt_length_of_mem hbv
 have hiab:m.g.vs.idxOf sa≠m.g.vs.idxOf sb:=fun e=>hab (by
  have h1:=List.getElem_idxOf ia
  have h2:=List.getElem_idxOf ib
  rw [← h1,← h2];congr 1)
 generalize hka:m.g.vs.idxOf sa=ka at *
 generalize hkb:m.g.vs.idxOf sb=kb at *
 have ga:¬ (ka:Int) < 0:=by omega
 have gb:¬ (kb:Int) < 0:=by omega
 have hra:ka < m.rots.length:=by omega
 have hrb:kb < m.rots.length:=by omega
 have hra':(ka:Int) < m.rots.length:=by omega
 have hrb':(kb:Int) < m.rots.length:=by omega
 have hda:=rowsL_drop m.rots ka hra
 have hdb:=rowsL_drop m.rots kb hrb
 have hsa:=hs _ (show m.rots.getD ka []∈m.rots by rw [getR_lt _ _ hra];exact List.getElem_mem _)
 have hsb:=hs _ (show m.rots.getD kb []∈m.rots by rw [getR_lt _ _ hrb];exact List.getElem_mem _)
 have hRr:=hat1.r
 obtain ⟨ta,hta⟩:∃ t,t=m.rots.getD ka []:=⟨_,rfl⟩
 obtain ⟨tb,htb⟩:∃ t,t=m.rots.getD kb []:=⟨_,rfl⟩
 rw [← hta] at hda hsa hy
 rw [← htb] at hdb hsb hy
 (refine d_go ?_;simp [];(refine hJ _ _ ?_;clear hJ J;simp only [ak,reduceIte]))
 (repeat' (first | refine qS ?_ | (refine qK ?_;simp only [ak,reduceIte]) | (refine qC ?_;simp [ga,gb]) | (refine w_e [] ?_;intro J hJ;simp only [];simp [ga,gb];(refine hJ _ _ ?_;clear hJ J;simp only [ak,reduceIte]))))
 (refine w_s [] [D,q,lr] [(0,true),(1,true),(2,true),(3,true),(4,true),(5,true),(6,true),(7,true),(8,true),(9,true),(10,true),(11,true),(12,true),(13,true),(14,true),(15,true),(16,true),(17,true),(18,true),(19,true),(20,true),(21,true),(22,true),(23,true),(24,true),(25,true)] ?_;intro J hJ;simp [hD1,hq0,hRr,hra,hra',hda])
 refine qD (stands ta 0 pa _ hsa) (by simp) ?_;rintro r s1 ⟨rfl,h1⟩
 rw [h1];clear h1 s1
 refine ⟨fun h=>by first | (cases h;done) | simp,?_⟩
 by_cases h1:standsW ta pa
 rotate_left
 ·rw [if_pos (.inl h1)] at hy
  subst hy
  (refine d_go ?_;simp [h1];(refine hJ _ _ ?_;clear hJ J;simp only [ak,reduceIte]))
  (repeat' (first | refine qS ?_ | (refine qR ?_;simp only [ak,reduceIte];simp [h1]) | (refine qC ?_;simp [h1]) | (refine w_e [] ?_;intro J hJ;simp only [];simp [h1];(refine hJ _ _ ?_;clear hJ J;simp only [ak,reduceIte]))))
  exact hk0
 (refine d_go ?_;simp [h1,hD1,hq0,hRr,hrb,hrb',hdb])
 refine qD (stands tb 0 pb _ hsb) (by simp) ?_;rintro r s1 ⟨rfl,h2⟩
 rw [h2];clear h2 s1
 refine ⟨fun h=>by first | (cases h;done) | simp,?_⟩
 by_cases h2:standsW tb pb
 rotate_left
 ·rw [if_pos (.inr h2)] at hy
  subst hy
  (refine d_go ?_;simp [h2];(refine hJ _ _ ?_;clear hJ J;simp only [ak,reduceIte]))
  (repeat' (first | refine qS ?_ | (refine qR ?_;simp only [ak,reduceIte];simp [h2]) | (refine qC ?_;simp [h2]) | (refine w_e [] ?_;intro J hJ;simp only [];simp [h2];(refine hJ _ _ ?_;clear hJ J;simp only [ak,reduceIte]))))
  exact hk0
 rw [if_neg (by rintro (h | h)<;>exact h (by assumption))] at hy
 (refine d_go ?_;simp [h2];(refine hJ _ _ ?_;clear hJ J;simp only [ak,reduceIte]))
 (repeat' (first | refine qS ?_ | (refine qK ?_;simp only [ak,reduceIte]) | (refine qC ?_;simp [h2,hq0]) | (refine w_e [] ?_;intro J hJ;simp only [];simp [h2,hq0])))
 refine qE (together hI1 sa sb hm.g.toGood (by omega) (by omega) hav hbv) (by simp) ?_;rintro r s1 ⟨rfl,h3⟩
 rw [h3];clear h3 s1
 obtain ⟨cr,hcr⟩:∃ c,c=cdec (Reach m.g.es sa sb):=⟨_,rfl⟩
 rw [← hcr] at hy ⊢
 (refine e_go ?_;simp [];(refine hJ _ _ ?_;clear hJ J;simp only [ak,reduceIte]))
 refine awp_cutL (LkI D q ka kb y s0) ?_ ?_
 ·cases cr with
  | false=>
    rw [if_neg (by simp)] at hy
    (repeat' (first | (refine qK ?_;simp only [ak,reduceIte]) | (refine qC ?_;simp [])))
    exact .inl (by first | exact ⟨by simp,by simp,by simp,by simp,rfl,Nat.le_refl _,hy⟩ | exact ⟨trivial,by simp,by simp,by simp,by simp,rfl,Nat.le_refl _,hy⟩)
  | true=>
    have hr:Reach m.g.es sa sb:=Classical.byContradiction fun h=>by rw [cdec_f h] at hcr;cases hcr
    (refine qC ?_;simp [])
    refine awp_lend2 0 3 (.pe D (mpL m)) (.pe q [i k,u id,u sa,u sb,u pa,u pb]) (LkE D q ka kb y (mpL m) [i k,u id,u sa,u sb,u pa,u pb]) (dr_lend hI1) (lend_pt hq0 (lendL_same _ _)) ?_ ?_
    ·have hna:ta≠[]:=fun e=>by
      have o:=(hm.ok ka ia).1
      rw [← hta,e,← hka,getD_lt _ _ (by rw [hka];exact ia),List.getElem_idxOf] at o
      exact hab (reach_alone ((ends_nil _ _).1 o.symm.eq_nil) hr)
     have hpa:pa∈ta:=by rcases h1 with ⟨h,_⟩ | h;exact absurd h hna;exact h
     have htin:ta∈m.rots:=by rw [hta,getR_lt _ _ hra];exact List.getElem_mem _
     have hdd:=hm.turn_dart htin (nx_mem hpa)
     simp only [true_and] at hy
     generalize hdx:nx ta pa=dx at *
     refine qS ?_
     (refine w_s [] [] [(0,true),(1,true),(2,true),(3,true),(4,true),(5,true),(6,true),(7,true),(8,true),(9,true),(10,true),(11,true),(12,true),(13,true),(14,true),(15,true),(16,true)] ?_;intro J hJ;simp [hra,hra',hda])
     refine qD (Next ta 0 pa _ hsa) (by simp) ?_;rintro r s1 ⟨rfl,h1⟩
     rw [h1];clear h1 s1
     refine ⟨fun h=>by first | (cases h;done) | simp,?_⟩
     rw [hdx]
     (refine d_go ?_;simp [])
     refine qD (rFace m hm dx _ (by omega) hel) (by simp) ?_;rintro r s1 ⟨⟨R,tt,hR,rfl⟩,hk1⟩
     refine ⟨fun h=>by first | (cases h;done) | simp,?_⟩
     have hfo:=face_orb hm hR hdd (d':=nx tb pb)
     have hfl:=face_len hm hR hel dx
     generalize turnOf R dx=F at *
     (refine d_go ?_;simp [];(refine hJ _ _ ?_;clear hJ J;simp only [ak,reduceIte]))
     refine qS ?_
     (refine w_s [] [] [(0,true),(1,true),(2,true),(3,true),(4,true),(5,true),(6,true),(7,true),(8,true),(9,true),(10,true),(11,true),(12,true),(13,true)] ?_;intro J hJ;simp [hrb,hrb',hdb])
     refine qD (Next tb 0 pb _ hsb) (by simp) ?_;rintro r s2 ⟨rfl,h1⟩
     rw [h1];clear h1 s2
     refine ⟨fun h=>by first | (cases h;done) | simp,?_⟩
     generalize nx tb pb=dy at *
     (refine d_go ?_;simp [])
     refine qD (Contains F tt dy _ hfl) (by simp) ?_;rintro r s2 ⟨rfl,h1⟩
     rw [h1];clear h1 s2
     refine ⟨fun h=>by first | (cases h;done) | simp,?_⟩
     by_cases hc:dy∈F
     ·rw [cdec_t (hfo.1 hc),if_neg (by simp)] at hy
      (refine d_go ?_;simp [hc];(refine hJ _ _ ?_;clear hJ J;simp only [ak,reduceIte]))
      (repeat' (first | (refine qK ?_;simp only [ak,reduceIte]) | (refine qC ?_;simp [hc])))
      exact .inl ⟨rfl,by simp,by simp,by simp,by simp,hy⟩
     ·rw [cdec_f (fun h=>hc (hfo.2 h)),if_pos rfl] at hy
      (refine d_go ?_;simp [hc];(refine hJ _ _ ?_;clear hJ J;simp only [ak,reduceIte]))
      (repeat' (first | refine qS ?_ | (refine qR ?_;simp only [ak,reduceIte];simp [hc]) | (refine qC ?_;simp [hc]) | (refine w_e [] ?_;intro J hJ;simp only [];simp [hc];(refine hJ _ _ ?_;clear hJ J;simp only [ak,reduceIte]))))
      refine qR ?_
      simp only [ak,reduceIte]
      exact .inr ⟨rfl,by simp,hy⟩
    ·rintro e f n (⟨rfl,f0,f3,f5,f6,h0⟩ | ⟨rfl,f4,h0⟩) hn
     ·refine .inl ⟨rfl,?_,?_,?_,?_,rfl,hn,h0⟩
      ·simp [f0,giveB,show D < s0.next by omega]
      ·simp [f3,giveB,show q < s0.next by omega]
      ·simp [f5,giveB,flatV]
      ·simp [f6,giveB,flatV]
     ·refine .inr ⟨rfl,?_,fun h=>by omega,?_⟩
      ·simp [f4,giveB,flatV,h0]
      ·exact hk0.trans ⟨hn,fun _ _=>rfl⟩
 rintro fr s1 ⟨f0,f3,f5,f6,hH,hn,rfl⟩
 clear hy
 have hD2:s1.H D=.box 61 3 [.ms lv 0 m.g.vs.length,.ms le 0 m.g.es.length,.ms lr 0 m.rots.length]:=by rw [hH];exact hD1
 have hq2:s1.H q=.box 38 6 [i k,u id,u sa,u sb,u pa,u pb]:=by rw [hH];exact hq0
 have hat2:MpAt m lv le lr s1:=⟨by rw [hH];exact hat1.v,by rw [hH];exact hat1.e,by rw [hH];exact hat1.r,by omega,by omega,by omega⟩
 have hk1:KB B st s1:=hk0.trans ⟨hn,fun _ _=>by rw [hH]⟩
 (repeat' (first | refine qS ?_ | (refine w_e [] ?_;intro J hJ;simp only [];simp [f0,f3,hD2,hq2])))
 refine qE (link_at m lv le lr q ⟨k,id,sa,sb,pa,pb⟩ _ hel hat2 hq2) (by simp) ?_;rintro r s2 ⟨rfl,h3⟩
 rw [h3];clear h3 s2
 rw [fx_pl]
 have hpl:=plE_le m.g.es id
 generalize hpe:plE m.g.es id=pl at *
 (refine e_go ?_;simp [];(refine hJ _ _ ?_;clear hJ J;simp only [ak,reduceIte]))
 refine qS ?_
 refine awp_cutN (LkP D q ka kb pl s1) ?_ ?_
 ·by_cases hlt:pl < m.g.es.length
  ·have hge:¬ (pl:Int) < 0:=by omega
   rw [if_pos hlt]
   (repeat' (first | refine qS ?_ | (refine qK ?_;simp only [ak,reduceIte]) | (refine qC ?_;simp [hge]) | (refine w_e [] ?_;intro J hJ;simp only [];simp [hge];(refine hJ _ _ ?_;clear hJ J;simp only [ak,reduceIte]))))
   exact ⟨by trivial,by simp [f0],by simp [f3],by simp [f5],by simp [f6],by simp,rfl⟩
  ·rw [if_neg hlt]
   obtain rfl:pl=m.g.es.length:=by omega
   (repeat' (first | refine qS ?_ | (refine qC ?_;simp [f0,hD2]) | (refine w_e [] ?_;intro J hJ;simp only [];simp [f0,hD2];(refine hJ _ _ ?_;clear hJ J;simp only [ak,reduceIte]))))
   exact ⟨by trivial,by simp [f0],by simp [f3],by simp [f5],by simp [f6],by simp,rfl⟩
 clear f0 f3 f5 f6 fr
 rintro fr s' ⟨f0,f3,f5,f6,f8,hs'⟩
 rw [hs'];clear hs' s'
 have hqn:q < s1.next:=by omega
 have hEl:=eds_length m.g.es
 refine qS ?_
 refine awp_cutN (fun f s=>LkW B D q lv lr ka kb m ⟨id,sa,sb⟩ m.rots st f s∧s.H q=.box 38 6 [i k,u id,u sa,u sb,u pa,u pb]) ?_ ?_
 (refine w_s [] [D,q] [(0,true),(1,true),(2,true),(3,true),(4,true),(5,true),(6,true),(7,true),(8,true),(9,true),(10,true),(11,true),(12,true),(13,true),(14,true),(15,true),(16,true),(17,true),(18,true),(19,true),(20,true),(21,false)] ?_;intro J hJ;simp [f0,f3,f8,hD2,hq2,show ¬ D=s1.next by omega,show ¬ q=s1.next by omega])
 refine qD (InsertE le m.g.es.length pl s1.next (eds m.g.es) [u id,u sa,u sb] _ (by omega) hpl (eds_length _) rfl (eds_one _) rfl (by omega) (by simp) (by simp [show ¬ le=s1.next by omega,hat2.e]) (by simp;omega)) (by simp) ?_;rintro r s2 ⟨⟨l',rfl,q1,q2,q3,q4⟩,q5⟩
 simp only [new_next] at q3 q4 q5
 have hD3:s2.H D=.box 61 3 [.ms lv 0 m.g.vs.length,.ms le 0 m.g.es.length,.ms lr 0 m.rots.length]:=by rw [q4 D (by omega) d2];simp [show ¬ D=s1.next by omega,hD2]
 have hq3:s2.H q=.box 38 6 [i k,u id,u sa,u sb,u pa,u pb]:=by rw [q4 q (by omega) (by omega)];simp [show ¬ q=s1.next by omega,hq2]
 refine ⟨fun _=>by simp [hD3,hD2,hq3,hq2],?_⟩
 (refine d_go ?_;simp [f0,hD3];(refine hJ _ _ ?_;clear hJ J;simp only [ak,reduceIte]))
 have hins:=eds_insE m.g.es ⟨id,sa,sb⟩
 simp only [hpe] at hins
 have c1:l'≠D:=by omega
 have c2:l'≠q:=by omega
 have c3:l'≠lv:=by omega
 have c4:l'≠lr:=by omega
 refine ⟨by trivial,⟨by simp [f0],by simp [f3],by simp [f5],by simp [f6],⟨l',by simp,?_,by simpa using q2,by omega,c1,c2,c3,c4⟩,?_,?_,?_,?_⟩,?_⟩
 ·rw [set_H,if_neg c1,q1,hins]
 ·rw [set_H,if_neg (Ne.symm d1),q4 lv (by omega) d4];simp [show ¬ lv=s1.next by omega,hat2.v]
 ·rw [set_H,if_neg (Ne.symm d3),q4 lr (by omega) (Ne.symm d6)];simp [show ¬ lr=s1.next by omega,hat2.r]
 ·refine hk1.trans ⟨by simp;omega,fun x hx=>?_⟩
  rw [set_H,if_neg (by omega),q4 x (by omega) (by omega),new_H,if_neg (by omega)]
 ·simp only [set_next];omega
 ·rw [set_H,if_neg (by omega)];exact hq3
 clear f0 f3 f5 f6 f8 fr
 rintro fr s2 ⟨⟨f0,f3,f5,f6,⟨l',hD3,hl',g1,g2,c1,c2,c3,c4⟩,hv3,hr3,hk3,g3,g4,g5,g6⟩,hq3⟩
 have hRl:(rowsL m.rots).length=m.rots.length:=by simp [rowsL]
 have hsm1:∀ z:Int,small [z]:=fun z=>by simp [small]
 have hln:∀ (t:List Int) (p z:Int),t.length+1=(nrm (ins t p [z])).length:=fun t p z=>by rw [nrm_length,ins_length];rfl
 have lta:ta.length≤2000:=by have:=hm.row_le (show ta∈m.rots by rw [hta,getR_lt _ _ hra];exact List.getElem_mem _);omega
 have ltb:tb.length≤2000:=by have:=hm.row_le (show tb∈m.rots by rw [htb,getR_lt _ _ hrb];exact List.getElem_mem _);omega
 refine qS ?_
 refine awp_cutN (fun f s=>LkW B D q lv lr ka kb m ⟨id,sa,sb⟩ (m.rots.set ka (nrm (ins ta pa [2 * id]))) st f s∧s.H q=.box 38 6 [i k,u id,u sa,u sb,u pa,u pb]) ?_ ?_
 ·have a1:¬ D=s2.next:=by omega
  have a2:¬ q=s2.next:=by omega
  have a3:¬ lr=s2.next:=by omega
  (refine w_s [] [D,q,lr] [(0,true),(1,true),(2,true),(3,true),(4,true),(5,true),(6,true),(7,true),(8,true),(9,true),(10,true),(11,true),(12,true),(13,true),(14,true),(15,true),(16,true),(17,true),(18,true),(19,true),(20,true),(21,true),(22,false)] ?_;intro J hJ;simp [f0,f3,f5,hD3,hq3,hr3,hra,hra',hda,a1,a2,a3,hRl])
  refine qD (dOf0 id _ hid) (by simp) ?_;rintro r s3 ⟨rfl,h3⟩
  rw [h3];clear h3 s3
  refine ⟨fun h=>by first | (cases h;done) | simp,?_⟩
  (refine d_go ?_;simp [f0,f3,f5,hD3,hq3,hr3,hra,hra',hda,a1,a2,a3,hRl])
  refine qD (Insert ta [2 * id] pa 0 s2.next _ hsa (hsm1 _) (by simp only [List.length_cons,List.length_nil];omega)) (by simp) ?_;rintro r s3 ⟨rfl,hk4⟩
  have e1:=hk4.H D (by simp;omega)
  have e2:=hk4.H q (by simp;omega)
  have e3:=hk4.H lr (by simp;omega)
  have e4:=hk4.H lv (by simp;omega)
  have e5:=hk4.H l' (by simp;omega)
  simp only [new_H,a1,a2,a3,show ¬ lv=s2.next by omega,show ¬ l'=s2.next by omega,if_false,hD3,hq3,hr3,hv3,hl'] at e1 e2 e3 e4 e5
  have hn4:=hk4.next
  simp only [new_next] at hn4
  refine ⟨fun _=>by simp [e1,e2,e3,hD3,hq3,hr3],?_⟩
  (refine d_go ?_;simp [e3,hra,hra',hRl];(repeat refine ca ?_);(refine hJ _ _ ?_;clear hJ J;simp only [ak,reduceIte]))
  refine ⟨by trivial,⟨by simp [f0],by simp [f3],by simp [f5],by simp [f6],⟨l',?_,?_,by simp only [set_next];omega,g2,c1,c2,c3,c4⟩,?_,?_,?_,?_⟩,?_⟩
  ·rw [set_H,if_neg d3];exact e1
  ·rw [set_H,if_neg c4];exact e5
  ·rw [set_H,if_neg d5];exact e4
  ·rw [set_H,if_pos rfl,rowsL_set _ _ hra _ _ (hln ta pa _)]
  ·refine hk3.trans ⟨by simp only [set_next];omega,fun x hx=>?_⟩
   rw [set_H,if_neg (by omega),hk4.H x (by simp;omega),new_H,if_neg (by omega)]
  ·simp only [set_next];omega
  ·rw [set_H,if_neg (by omega)];exact e2
 clear f0 f3 f5 f6 fr hD3 hl' hv3 hr3 hk3 hq3 g1 g2 g3 g4 g5 g6 c1 c2 c3 c4 l'
 rintro fr s2 ⟨⟨f0,f3,f5,f6,⟨l',hD3,hl',g1,g2,c1,c2,c3,c4⟩,hv3,hr3,hk3,g3,g4,g5,g6⟩,hq3⟩
 have hdb2:=rowsL_drop (m.rots.set ka (nrm (ins ta pa [2 * id]))) kb (by simp;omega)
 have htb2:(m.rots.set ka (nrm (ins ta pa [2 * id]))).getD kb []=tb:=by
  rw [htb,List.getD_eq_getElem?_getD,List.getD_eq_getElem?_getD,List.getElem?_set,if_neg hiab]
 rw [htb2] at hdb2
 obtain ⟨R2,hR2⟩:∃ R2,R2=m.rots.set ka (nrm (ins ta pa [2 * id])):=⟨_,rfl⟩
 have hR2l:R2.length=m.rots.length:=by rw [hR2];simp
 rw [← hR2] at hr3 hdb2
 have hRl2:(rowsL R2).length=m.rots.length:=by simp [rowsL,hR2l]
 refine qS ?_
 refine awp_cutN (fun f s=>LkW B D q lv lr ka kb m ⟨id,sa,sb⟩ (R2.set kb (nrm (ins tb pb [2 * id+1]))) st f s) ?_ ?_
 ·have a1:¬ D=s2.next:=by omega
  have a2:¬ q=s2.next:=by omega
  have a3:¬ lr=s2.next:=by omega
  (refine w_s [] [D,q,lr] [(0,true),(1,true),(2,true),(3,true),(4,true),(5,true),(6,true),(7,true),(8,true),(9,true),(10,true),(11,true),(12,true),(13,true),(14,true),(15,true),(16,true),(17,true),(18,true),(19,true),(20,true),(21,true),(22,false)] ?_;intro J hJ;simp [f0,f3,f6,hD3,hq3,hr3,hrb,hrb',hdb2,a1,a2,a3,hRl2])
  refine qD (dOf1 id _ hid) (by simp) ?_;rintro r s3 ⟨rfl,h3⟩
  rw [h3];clear h3 s3
  refine ⟨fun h=>by first | (cases h;done) | simp,?_⟩
  (refine d_go ?_;simp [f0,f3,f6,hD3,hq3,hr3,hrb,hrb',hdb2,a1,a2,a3,hRl2])
  refine qD (Insert tb [2 * id+1] pb 0 s2.next _ hsb (hsm1 _) (by simp only [List.length_cons,List.length_nil];omega)) (by simp) ?_;rintro r s3 ⟨rfl,hk4⟩
  have e1:=hk4.H D (by simp;omega)
  have e2:=hk4.H q (by simp;omega)
  have e3:=hk4.H lr (by simp;omega)
  have e4:=hk4.H lv (by simp;omega)
  have e5:=hk4.H l' (by simp;omega)
  simp only [new_H,a1,a2,a3,show ¬ lv=s2.next by omega,show ¬ l'=s2.next by omega,if_false,hD3,hq3,hr3,hv3,hl'] at e1 e2 e3 e4 e5
  have hn4:=hk4.next
  simp only [new_next] at hn4
  refine ⟨fun _=>by simp [e1,e2,e3,hD3,hq3,hr3],?_⟩
  (refine d_go ?_;simp [e3,hrb,hrb',hRl2];(repeat refine ca ?_);(refine hJ _ _ ?_;clear hJ J;simp only [ak,reduceIte]))
  refine ⟨by trivial,⟨by simp [f0],by simp [f3],by simp [f5],by simp [f6],⟨l',?_,?_,by simp only [set_next];omega,g2,c1,c2,c3,c4⟩,?_,?_,?_,?_⟩⟩
  ·rw [set_H,if_neg d3];exact e1
  ·rw [set_H,if_neg c4];exact e5
  ·rw [set_H,if_neg d5];exact e4
  ·rw [set_H,if_pos rfl,rowsL_set _ _ (by omega) _ _ (hln tb pb _)]
  ·refine hk3.trans ⟨by simp only [set_next];omega,fun x hx=>?_⟩
   rw [set_H,if_neg (by omega),hk4.H x (by simp;omega),new_H,if_neg (by omega)]
  ·simp only [set_next];omega
 clear f0 f3 f5 f6 fr hD3 hl' hv3 hr3 hk3 hq3 g1 g2 g3 g4 g5 g6 c1 c2 c3 c4 l'
 rintro fr s2 ⟨f0,f3,f5,f6,⟨l',hD3,hl',g1,g2,c1,c2,c3,c4⟩,hv3,hr3,hk3,g3,g4,g5,g6⟩
 have hlk:linkM m ⟨id,sa,sb⟩ pa pb=⟨⟨m.g.vs,insE m.g.es ⟨id,sa,sb⟩⟩,R2.set kb (nrm (ins tb pb [2 * id+1]))⟩:=by
  unfold linkM
  simp only [hka,hkb,← hta,← htb,← hR2]
 have hil:(insE m.g.es ⟨id,sa,sb⟩).length=m.g.es.length+1:=by rw [(insE_perm _ _).length_eq];simp
 (repeat' (first | refine qS ?_ | (refine qR ?_;simp only [ak,reduceIte];simp []) | (refine w_e [] ?_;intro J hJ;simp only [];simp [];(refine hJ _ _ ?_;clear hJ J;simp only [ak,reduceIte]))))
 refine ⟨⟨⟨lv,l',lr,⟨?_,⟨?_,?_,?_,by omega,g1,by omega⟩,by omega⟩,b1,g2,b3⟩,hB0⟩,hk3⟩
 ·rw [hlk];simp [mpM,hil,hR2l,hD3]
 ·rw [hlk];exact hv3
 ·rw [hlk];exact hl'
 ·rw [hlk];exact hr3
end Go.Proofs.YtglkgindpjdoiaaGreat.Aw
namespace Go.Proofs.YtglkgindpjdoiaaGreat.Aw
open Go Go.RowKit Go.Proofs.YtglkgindpjdoiaaGreat.Pl
set_option linter.unusedSimpArgs false
set_option linter.unusedVariables false
structure GrF (g:Gr):Prop where
 rise:g.vs.Pairwise (· < ·)
 vpos:∀ v∈g.vs,1≤v∧v≤1048576
 ids:g.es.Pairwise fun x y=>x.id < y.id
 pos:∀ x∈g.es,1≤x.id∧x.id≤1048576
 ne:∀ x∈g.es,x.a≠x.b
 ends:∀ x∈g.es,x.a∈g.vs∧x.b∈g.vs
 l1:g.vs.length≤64
 l2:g.es.length≤160
theorem nz_all {f:Nat→Int} {n:Nat} (h:firstNZ f n=0):∀ j,j < n→f j=0:=by
 induction n with
 | zero=>intro j hj;omega
 | succ n ih=>
   intro j hj
   simp only [firstNZ] at h
   by_cases h0:firstNZ f n=0
   ·rw [if_neg (by simp [h0])] at h
    rcases Nat.lt_or_ge j n with h1 | h1
    ·exact ih h0 j h1
    ·obtain rfl:j=n:=by omega
     exact h
   ·rw [if_pos h0] at h;exact absurd h h0
theorem numb_zero_iff (n a:Int) (b:Bool):numb n a b=0↔(1≤n∧n≤1048576)∧(b=false→a < n):=by
 unfold numb
 by_cases h1:n < 1∨1048576 < n
 ·rw [if_pos h1]
  constructor
  ·intro h;cases h
  ·rintro ⟨h,_⟩;omega
 ·rw [if_neg h1]
  by_cases h2:b=false∧n≤a
  ·rw [if_pos h2]
   constructor
   ·intro h;cases h
   ·rintro ⟨_,h⟩;have:=h h2.1;omega
  ·rw [if_neg h2]
   refine ⟨fun _=>⟨by omega,fun hb=>?_⟩,fun _=>rfl⟩
   rcases Int.lt_or_le a n with h3 | h3
   ·exact h3
   ·exact absurd ⟨hb,h3⟩ h2
theorem rise_step {l:List Int} (h:∀ j,j < l.length→0 < j→l.getD (j - 1) 0 < l.getD j 0):l.Pairwise (· < ·):=by
 have g:∀ j (hj:j < l.length),l.getD j 0=l[j]:=fun j hj=>by rw [List.getD_eq_getElem?_getD,List.getElem?_eq_getElem hj];rfl
 rw [List.pairwise_iff_getElem]
 intro a b ha hb hab
 induction b with
 | zero=>omega
 | succ b ih=>
   have h1:=h (b+1) hb (by omega)
   rw [Nat.add_sub_cancel,g _ hb,g _ (by omega)] at h1
   rcases Nat.lt_or_ge a b with h2 | h2
   ·have:=ih (by omega) h2;omega
   ·obtain rfl:a=b:=by omega
    exact h1
theorem gE (l:List Ed) (j:Nat) (hj:j < l.length):l.getD j ed0=l[j]:=by
 rw [List.getD_eq_getElem?_getD,List.getElem?_eq_getElem hj];rfl
theorem badE_zero (g:Gr) (j:Nat) (x:Ed) (hx:g.es.getD j ed0=x):badE g j=0↔((1≤x.id∧x.id≤1048576)∧(0 < j→(g.es.getD (j - 1) ed0).id < x.id))∧x.a≠x.b∧x.a∈g.vs∧x.b∈g.vs:=by
 unfold badE
 simp only [hx]
 have h0:=numb_zero_iff x.id (g.es.getD (j - 1) ed0).id (decide (j=0))
 have hj:(decide (j=0)=false)↔0 < j:=by simp;omega
 rw [hj] at h0
 by_cases h1:numb x.id (g.es.getD (j - 1) ed0).id (decide (j=0))=0
 ·rw [if_neg (fun h=>h h1)]
  have h1':=h0.1 h1
  by_cases h2:x.a=x.b
  ·rw [if_pos h2]
   constructor
   ·intro h;cases h
   ·rintro ⟨_,h,_⟩;exact absurd h2 h
  ·rw [if_neg h2]
   by_cases h3:x.a∉g.vs∨x.b∉g.vs
   ·rw [if_pos h3]
    constructor
    ·intro h;cases h
    ·rintro ⟨_,_,h,h'⟩
     rcases h3 with h3 | h3
     ·exact absurd h h3
     ·exact absurd h' h3
   ·rw [if_neg h3]
    exact ⟨fun _=>⟨h1',h2,Classical.byContradiction fun h=>h3 (.inl h),Classical.byContradiction fun h=>h3 (.inr h)⟩,fun _=>rfl⟩
 ·rw [if_pos h1]
  constructor
  ·intro h;exact absurd h h1
  ·rintro ⟨h,_⟩;exact absurd (h0.2 h) h1
theorem chk_full {g:Gr} (h:chk g=0):GrF g:=by
 unfold chk at h
 by_cases h1:64 < g.vs.length∨160 < g.es.length
 ·rw [if_pos h1] at h;cases h
 rw [if_neg h1] at h
 by_cases h2:firstNZ (badV g) g.vs.length=0
 rotate_left
 ·rw [if_pos h2] at h;exact absurd h h2
 rw [if_neg (by simp [h2])] at h
 have gI:∀ j (hj:j < g.vs.length),g.vs.getD j 0=g.vs[j]:=fun j hj=>by rw [List.getD_eq_getElem?_getD,List.getElem?_eq_getElem hj];rfl
 have hV:=fun j hj=>(numb_zero_iff _ _ _).1 (nz_all h2 j hj)
 have hE:=fun j hj=>(badE_zero g j _ rfl).1 (nz_all h j hj)
 have hin:∀ x∈g.es,∃ j,j < g.es.length∧g.es.getD j ed0=x:=fun x hx=>by
  obtain ⟨j,hj,rfl⟩:=List.getElem_of_mem hx
  exact ⟨j,hj,gE _ _ hj⟩
 refine ⟨rise_step fun j hj h0=>(hV j hj).2 (by simp;omega),fun v hv=>?_,?_,fun x hx=>?_,fun x hx=>?_,fun x hx=>?_,by omega,by omega⟩
 ·obtain ⟨j,hj,rfl⟩:=List.getElem_of_mem hv
  rw [← gI j hj];exact (hV j hj).1
 ·have:=rise_step (l:=g.es.map (·.id)) fun j hj h0=>by
   rw [List.length_map] at hj
   have:=(hE j hj).1.2 h0
   rw [gE _ _ hj,gE _ _ (by omega)] at this
   rw [List.getD_eq_getElem?_getD,List.getElem?_eq_getElem (by simp;omega),List.getD_eq_getElem?_getD,List.getElem?_eq_getElem (by simp;omega)]
   simpa using this
  rwa [List.pairwise_map] at this
 ·obtain ⟨j,hj,rfl⟩:=hin x hx;exact (hE j hj).1.1
 ·obtain ⟨j,hj,rfl⟩:=hin x hx;exact (hE j hj).2.1
 ·obtain ⟨j,hj,rfl⟩:=hin x hx;exact (hE j hj).2.2
end Go.Proofs.YtglkgindpjdoiaaGreat.Aw
namespace Go.Proofs.YtglkgindpjdoiaaGreat.Aw
open Go Go.RowKit Go.Proofs.YtglkgindpjdoiaaGreat.Pl Go.Proofs.YtglkgindpjdoiaaGreat.Eu
set_option linter.unusedSimpArgs false
set_option linter.unusedVariables false
structure Drw (m:Mp):Prop where
 ok:MapOk m
 vp:∀ v∈m.g.vs,1≤v∧v≤1048576
 v:m.g.vs.length≤64
 e:m.g.es.length≤160
theorem drw_right {m:Mp}:rright m=0↔Drw m∧gn m=0:=by
 constructor
 ·intro h
  unfold rright at h
  by_cases h1:rchk m=0
  ·rw [if_neg (fun k=>k h1)] at h
   obtain ⟨h2,h3⟩:=rchk_zero h1
   refine ⟨⟨h3,(chk_full h2).vpos,(chk_good h2).2.2.1,(chk_good h2).2.2.2⟩,?_⟩
   by_cases h4:gn m=0
   ·exact h4
   ·rw [if_pos h4] at h;cases h
  ·rw [if_pos h1] at h;exact absurd h h1
 ·rintro ⟨h,hg⟩
  have hc:=chk_of h.ok.g h.vp h.v h.e
  have:=rchk_ok hc h.ok.len h.ok.ok
  unfold rright
  rw [if_neg (fun k=>k this),if_neg (fun k=>k hg)]
theorem Drw.ord {m:Mp} (h:Drw m):Ord m:=⟨h.ok.g.rise,h.ok.len,by have:=h.v;omega,by have:=h.e;omega⟩
theorem Drw.sm {m:Mp} (h:Drw m):∀ t∈m.rots,small t:=fun t ht=>by have:=h.ok.row_le ht;have:=h.e;unfold small;omega
theorem lss_split {l:List Int} (v:Int) (h:l.Pairwise (· < ·)):(∀ y∈l.take (lss l v),y < v)∧(∀ y∈l.drop (lss l v),v≤y):=by
 induction l with
 | nil=>simp
 | cons x l ih=>
   rw [List.pairwise_cons] at h
   by_cases hx:x < v
   ·have e:lss (x::l) v=lss l v+1:=by unfold lss;rw [List.filter_cons,if_pos (by simpa using hx)];rfl
    rw [e,List.take_succ_cons,List.drop_succ_cons]
    refine ⟨fun y hy=>?_,(ih h.2).2⟩
    rw [List.mem_cons] at hy
    rcases hy with rfl | hy
    ·exact hx
    ·exact (ih h.2).1 y hy
   ·have e:lss (x::l) v=0:=by
     unfold lss
     rw [List.length_eq_zero_iff,List.filter_eq_nil_iff]
     intro y hy
     rw [List.mem_cons] at hy
     rcases hy with rfl | hy
     ·simpa using hx
     ·have:=h.1 y hy;simp;omega
    rw [e]
    refine ⟨by simp,fun y hy=>?_⟩
    rw [List.drop_zero,List.mem_cons] at hy
    rcases hy with rfl | hy
    ·omega
    ·have:=h.1 y hy;omega
theorem ins_rise {l:List Int} {v:Int} (h:l.Pairwise (· < ·)) (hv:v∉l):(l.take (lss l v)++v::l.drop (lss l v)).Pairwise (· < ·):=by
 obtain ⟨h1,h2⟩:=lss_split v h
 have h3:=h
 have hd:=List.take_append_drop (lss l v) l
 rw [← hd,List.pairwise_append] at h3
 rw [List.pairwise_append]
 refine ⟨h3.1,List.pairwise_cons.2 ⟨fun y hy=>?_,h3.2.1⟩,fun a ha b hb=>?_⟩
 ·have:=h2 y hy
  have hne:y≠v:=fun e=>hv (e ▸ List.mem_of_mem_drop hy)
  omega
 ·rw [List.mem_cons] at hb
  rcases hb with rfl | hb
  ·exact h1 a ha
  ·exact h3.2.2 a ha b hb
theorem mid_perm (l:List Int) (k:Nat) (v:Int):(l.take k++v::l.drop k).Perm (v::l):=by
 have:=@List.perm_middle _ v (l.take k) (l.drop k)
 rwa [List.take_append_drop] at this
theorem ok_zip {es:List Ed} {vs:List Int} {rs:List (List Int)} (hl:rs.length=vs.length):(∀ k,k < vs.length→okTurn es (vs.getD k 0) (rs.getD k []))↔∀ p∈vs.zip rs,okTurn es p.1 p.2:=by
 constructor
 ·intro h p hp
  obtain ⟨k,hk,rfl⟩:=List.getElem_of_mem hp
  rw [List.length_zip] at hk
  have:=h k (by omega)
  rw [getD_lt _ _ (by omega),getR_lt _ _ (by omega)] at this
  rw [List.getElem_zip]
  exact this
 ·intro h k hk
  rw [getD_lt _ _ hk,getR_lt _ _ (by omega)]
  have:=h ((vs.zip rs)[k]'(by rw [List.length_zip];omega)) (List.getElem_mem _)
  rw [List.getElem_zip] at this
  exact this
theorem zip_mid {a b:List Int} {c d:List (List Int)} (v:Int) (t:List Int) (h:a.length=c.length):(a++v::b).zip (c++t::d)=a.zip c++(v,t)::b.zip d:=by
 rw [List.zip_append h,List.zip_cons_cons]
theorem zip_two {a b:List Int} {c d:List (List Int)} (h:a.length=c.length):(a++b).zip (c++d)=a.zip c++b.zip d:=List.zip_append h
theorem sg_mid (g g':Gr) (a b:List (List Int)) (d:Int):sg ⟨g,a++[]::b⟩ d=sg ⟨g',a++b⟩ d:=by
 unfold sg
 simp only [List.find?_append,List.find?_cons,List.not_mem_nil,decide_false]
theorem gn_more {m m':Mp} (h:MapOk m) (h':MapOk m') {v:Int} (he:m'.g.es=m.g.es) (hs:∀ d,sg m' d=sg m d) (hp:m'.g.vs.Perm (v::m.g.vs)) (hv:v∉m.g.vs) (hn:nbr m.g.es v=[]):gn m'=gn m:=by
 have g1:=h.gn
 have g2:=h'.gn
 have hf:fc m' m.g.es=fc m m.g.es:=funext fun d=>hs _
 rw [he,hf] at g2
 have hc:ncl (Reach m.g.es) m'.g.vs=ncl (Reach m.g.es) m.g.vs+1:=by
  rw [ncl_perm (reach_eqv _) hp,ncl_cons_new]
  rintro ⟨y,hy,hr⟩
  exact hv (reach_alone hn hr.symm ▸ hy)
 have ha:alone m'.g=alone m.g+1:=by
  unfold alone
  rw [he,hp.countP_eq,List.countP_cons,if_pos (by simpa using hn)]
 have hl:=hp.length_eq
 rw [List.length_cons] at hl
 omega
section
variable {m:Mp} (h:Drw m) {v:Int}
include h
theorem alone_out {v:Int} (hv:v∉m.g.vs):ends m.g.es v=[]:=by
 rw [List.eq_nil_iff_forall_not_mem]
 intro d hd
 obtain ⟨x,hx,k⟩:=mem_ends.1 hd
 have:=h.ok.g.ends x hx
 rcases k with ⟨rfl,_⟩ | ⟨rfl,_⟩
 ·exact hv this.1
 ·exact hv this.2
theorem addV_ok (hv:v∉m.g.vs):MapOk (addV m v):=by
 have hlen:=h.ok.len
 have hk:=lss_le m.g.vs v
 have hp:=mid_perm m.g.vs (lss m.g.vs v) v
 have hl:(addV m v).rots.length=(addV m v).g.vs.length:=by simp only [addV,List.length_append,List.length_cons,List.length_take,List.length_drop];omega
 refine ⟨⟨⟨ins_rise h.ok.g.rise hv,fun x hx=>?_⟩,h.ok.g.ids,h.ok.g.pos,h.ok.g.ne⟩,hl,(ok_zip hl).2 ?_⟩
 ·have:=h.ok.g.ends x hx
  exact ⟨hp.mem_iff.2 (List.mem_cons_of_mem _ this.1),hp.mem_iff.2 (List.mem_cons_of_mem _ this.2)⟩
 ·have h0:=(ok_zip hlen).1 h.ok.ok
  have e1:=zip_two (a:=m.g.vs.take (lss m.g.vs v)) (b:=m.g.vs.drop (lss m.g.vs v)) (c:=m.rots.take (lss m.g.vs v)) (d:=m.rots.drop (lss m.g.vs v)) (by simp only [List.length_take];omega)
  rw [List.take_append_drop,List.take_append_drop] at e1
  rw [e1] at h0
  unfold addV
  simp only
  rw [zip_mid _ _ (by simp only [List.length_take];omega)]
  intro p hp2
  rw [List.mem_append,List.mem_cons] at hp2
  rcases hp2 with k | rfl | k
  ·exact h0 p (List.mem_append_left _ k)
  ·refine ⟨?_,rfl⟩
   simp only
   rw [alone_out h hv]
  ·exact h0 p (List.mem_append_right _ k)
theorem addV_sg (d:Int):sg (addV m v) d=sg m d:=by
 have _:=h
 unfold addV
 have e:=sg_mid ⟨m.g.vs.take (lss m.g.vs v)++v::m.g.vs.drop (lss m.g.vs v),m.g.es⟩ m.g (m.rots.take (lss m.g.vs v)) (m.rots.drop (lss m.g.vs v)) d
 rw [List.take_append_drop] at e
 exact e
theorem addV_drw (hv:v∉m.g.vs) (hn:1≤v∧v≤1048576) (h64:m.g.vs.length < 64):Drw (addV m v)∧gn (addV m v)=gn m:=by
 have hp:=mid_perm m.g.vs (lss m.g.vs v) v
 have ho:=addV_ok h hv
 refine ⟨⟨ho,fun w hw=>?_,?_,h.e⟩,gn_more h.ok ho rfl (addV_sg h) hp hv ((ends_nil _ _).1 (alone_out h hv))⟩
 ·have:=hp.mem_iff.1 hw
  rw [List.mem_cons] at this
  rcases this with rfl | k
  ·exact hn
  ·exact h.vp w k
 ·have:=hp.length_eq
  rw [List.length_cons] at this
  show (m.g.vs.take _++v::m.g.vs.drop _).length≤64
  omega
variable (hv:v∈m.g.vs) (h0:m.rots.getD (m.g.vs.idxOf v) []=[])
include hv h0
theorem del_split:m.g.vs=m.g.vs.take (m.g.vs.idxOf v)++v::m.g.vs.drop (m.g.vs.idxOf v+1)∧m.rots=m.rots.take (m.g.vs.idxOf v)++[]::m.rots.drop (m.g.vs.idxOf v+1):=by
 have hi:=List.idxOf_lt_length_of_mem hv
 have hlen:=h.ok.len
 constructor
 ·have h1:=List.drop_eq_getElem_cons hi
  rw [List.getElem_idxOf] at h1
  rw [← h1,List.take_append_drop]
 ·have hi2:m.g.vs.idxOf v < m.rots.length:=by omega
  have h1:=List.drop_eq_getElem_cons hi2
  rw [getR_lt _ _ hi2] at h0
  rw [h0] at h1
  rw [← h1,List.take_append_drop]
theorem del_alone:ends m.g.es v=[]:=by
 have hi:=List.idxOf_lt_length_of_mem hv
 have:=(h.ok.ok _ hi).1
 rw [h0,getD_lt _ _ hi,List.getElem_idxOf] at this
 exact this.symm.eq_nil
theorem del_perm:m.g.vs.Perm (v::(delV m v).g.vs):=by
 have h1:=(del_split h hv h0).1
 have:=@List.perm_middle _ v (m.g.vs.take (m.g.vs.idxOf v)) (m.g.vs.drop (m.g.vs.idxOf v+1))
 rw [← h1] at this
 exact this
theorem del_out:v∉(delV m v).g.vs:=by
 have h1:=(del_perm h hv h0).nodup_iff.1 (rise_nodup h.ok.g.rise)
 exact (List.nodup_cons.1 h1).1
theorem delV_sg (d:Int):sg m d=sg (delV m v) d:=by
 have h1:=(del_split h hv h0).2
 have e:=sg_mid m.g (delV m v).g (m.rots.take (m.g.vs.idxOf v)) (m.rots.drop (m.g.vs.idxOf v+1)) d
 rw [← h1] at e
 exact e
theorem delV_ok:MapOk (delV m v):=by
 obtain ⟨e1,e2⟩:=del_split h hv h0
 have hlen:=h.ok.len
 have hi:=List.idxOf_lt_length_of_mem hv
 have hl:(delV m v).rots.length=(delV m v).g.vs.length:=by simp only [delV,List.length_append,List.length_take,List.length_drop];omega
 have hp:=del_perm h hv h0
 have ha:=del_alone h hv h0
 have hend:∀ w,w∈m.g.vs→w≠v→w∈(delV m v).g.vs:=fun w hw hne=>by
  have:=hp.mem_iff.1 hw
  rw [List.mem_cons] at this
  rcases this with k | k
  ·exact absurd k hne
  ·exact k
 refine ⟨⟨⟨?_,fun x hx=>?_⟩,h.ok.g.ids,h.ok.g.pos,h.ok.g.ne⟩,hl,(ok_zip hl).2 ?_⟩
 ·have h3:=h.ok.g.rise
  rw [e1,List.pairwise_append] at h3
  show (m.g.vs.take _++m.g.vs.drop _).Pairwise (· < ·)
  rw [List.pairwise_append]
  exact ⟨h3.1,(List.pairwise_cons.1 h3.2.1).2,fun a ha b hb=>h3.2.2 a ha b (List.mem_cons_of_mem _ hb)⟩
 ·have:=h.ok.g.ends x hx
  refine ⟨hend _ this.1 fun e=>?_,hend _ this.2 fun e=>?_⟩
  ·have:2 * x.id∈ends m.g.es v:=mem_ends.2 ⟨x,hx,.inl ⟨e,rfl⟩⟩
   rw [ha] at this;simp at this
  ·have:2 * x.id+1∈ends m.g.es v:=mem_ends.2 ⟨x,hx,.inr ⟨e,rfl⟩⟩
   rw [ha] at this;simp at this
 ·have h2:=(ok_zip hlen).1 h.ok.ok
  have e3:m.g.vs.zip m.rots=(m.g.vs.take (m.g.vs.idxOf v)++v::m.g.vs.drop (m.g.vs.idxOf v+1)).zip (m.rots.take (m.g.vs.idxOf v)++[]::m.rots.drop (m.g.vs.idxOf v+1)):=by rw [← e1,← e2]
  rw [zip_mid _ _ (by simp only [List.length_take];omega)] at e3
  rw [e3] at h2
  unfold delV
  simp only
  rw [zip_two (by simp only [List.length_take];omega)]
  intro p hp2
  rw [List.mem_append] at hp2
  rcases hp2 with k | k
  ·exact h2 p (List.mem_append_left _ k)
  ·exact h2 p (List.mem_append_right _ (List.mem_cons_of_mem _ k))
theorem delV_drw:Drw (delV m v)∧gn (delV m v)=gn m:=by
 have hp:=del_perm h hv h0
 have ho:=delV_ok h hv h0
 refine ⟨⟨ho,fun w hw=>h.vp w (hp.mem_iff.2 (List.mem_cons_of_mem _ hw)),?_,h.e⟩,(gn_more ho h.ok rfl (delV_sg h hv h0) hp (del_out h hv h0) ((ends_nil _ _).1 (del_alone h hv h0))).symm⟩
 have:=hp.length_eq
 rw [List.length_cons] at this
 have:=h.v
 omega
end
theorem insE_len (l:List Ed) (x:Ed):(insE l x).length=l.length+1:=by rw [(insE_perm l x).length_eq];simp
theorem lessM_drw {m:Mp} (h:Drw m) (id:Int):Drw (lessM m id):=⟨less_ok h.ok id,h.vp,h.v,Nat.le_trans (List.length_filter_le _ _) h.e⟩
theorem less_none {m:Mp} (h:MapOk m) {id:Int} (hn:∀ x∈m.g.es,x.id≠id):lessM m id=m:=by
 obtain ⟨⟨vs,es⟩,rs⟩:=m
 unfold lessM
 congr 1
 ·congr 1
  exact List.filter_eq_self.2 fun x hx=>by simpa using hn x hx
 ·conv=>rhs;rw [← List.map_id rs]
  refine List.map_congr_left fun t ht=>?_
  rw [wo_half,List.filter_eq_self.2 fun d hd=>?_]
  ·obtain ⟨k,hk,rfl,ho⟩:=h.turn ht
   exact ho.2
  ·obtain ⟨x,hx,e⟩:=darts_half.1 (h.turn_dart ht hd)
   have:=hn x hx
   simp;omega
theorem less_plane {m:Mp} (h:MapOk m) (hg:gn m=0) (id:Int):gn (lessM m id)=0:=by
 by_cases hx:∃ x∈m.g.es,x.id=id
 ·obtain ⟨x,hx,rfl⟩:=hx
  obtain ⟨A,B,hA⟩:=h.ahd hx
  have:=h.less_gn hx hA
  omega
 ·rw [less_none h fun x hx' e=>hx ⟨x,hx',e⟩];exact hg
theorem linkW_zero {m:Mp} (h:Drw m) {s:Sp} (hid:1≤s.id∧s.id≤1048576) (h0:linkW m s=0):LinkOk m ⟨s.id,s.a,s.b⟩ s.pa s.pb∧m.g.es.length < 160∧(Reach m.g.es s.a s.b→Orb (fc m m.g.es) (nx (m.rots.getD (m.g.vs.idxOf s.a) []) s.pa) (nx (m.rots.getD (m.g.vs.idxOf s.b) []) s.pb)):=by
 unfold linkW at h0
 by_cases h1:fe m.g.es s.id < 0
 rotate_left
 ·rw [if_pos h1] at h0;cases h0
 rw [if_neg (fun k=>k h1)] at h0
 by_cases h2:160≤m.g.es.length
 ·rw [if_pos h2] at h0;cases h0
 rw [if_neg h2] at h0
 by_cases h3:s.a=s.b
 ·rw [if_pos h3] at h0;cases h0
 rw [if_neg h3] at h0
 by_cases h4:s.a∉m.g.vs∨s.b∉m.g.vs
 ·rw [if_pos h4] at h0;cases h0
 rw [if_neg h4] at h0
 by_cases h5:¬ standsW (m.rots.getD (m.g.vs.idxOf s.a) []) s.pa∨¬ standsW (m.rots.getD (m.g.vs.idxOf s.b) []) s.pb
 ·rw [if_pos h5] at h0;cases h0
 rw [if_neg h5] at h0
 have ha:s.a∈m.g.vs:=Classical.byContradiction fun k=>h4 (.inl k)
 have hb:s.b∈m.g.vs:=Classical.byContradiction fun k=>h4 (.inr k)
 have sa:standsW (m.rots.getD (m.g.vs.idxOf s.a) []) s.pa:=Classical.byContradiction fun k=>h5 (.inl k)
 have sb:standsW (m.rots.getD (m.g.vs.idxOf s.b) []) s.pb:=Classical.byContradiction fun k=>h5 (.inr k)
 refine ⟨⟨ha,hb,h3,fe_neg.1 h1,hid,sa,sb⟩,by omega,fun hr=>Classical.byContradiction fun hno=>?_⟩
 rw [if_pos ⟨cdec_t hr,cdec_f hno⟩] at h0
 cases h0
theorem linkW_mk {m:Mp} {s:Sp} (hl:LinkOk m ⟨s.id,s.a,s.b⟩ s.pa s.pb) (h160:m.g.es.length < 160) (hf:Reach m.g.es s.a s.b→Orb (fc m m.g.es) (nx (m.rots.getD (m.g.vs.idxOf s.a) []) s.pa) (nx (m.rots.getD (m.g.vs.idxOf s.b) []) s.pb)):linkW m s=0:=by
 unfold linkW
 have ha:=hl.a
 have hb:=hl.b
 simp only at ha hb
 rw [if_neg (fun k=>k (fe_neg.2 hl.new)),if_neg (by omega),if_neg hl.ne,if_neg (by rintro (k | k)<;>contradiction),if_neg (by
  rintro (k | k)
  ·exact k hl.sa
  ·exact k hl.sb),if_neg]
 rintro ⟨k1,k2⟩
 have hr:Reach m.g.es s.a s.b:=Classical.byContradiction fun k=>by rw [cdec_f k] at k1;cases k1
 rw [cdec_t (hf hr)] at k2
 cases k2
section
variable {m:Mp} (h:MapOk m) {x:Ed} {pa pb:Int} (hl:LinkOk m x pa pb)
include h hl
theorem link_row_at {v p:Int} (hv:v∈m.g.vs) (hp:p∈m.rots.getD (m.g.vs.idxOf v) []):sg m p=nx (m.rots.getD (m.g.vs.idxOf v) []) p:=by
 have _:=hl
 have hi:=List.idxOf_lt_length_of_mem hv
 have hlen:=h.len
 exact sg_at h (by rw [getR_lt _ _ (by omega)];exact List.getElem_mem _) hp
theorem link_gn (hf:Reach m.g.es x.a x.b→Orb (fc m m.g.es) (nx (m.rots.getD (m.g.vs.idxOf x.a) []) pa) (nx (m.rots.getD (m.g.vs.idxOf x.b) []) pb)):gn (linkM m x pa pb)=gn m:=by
 have ho:=link_ok h hl
 have hin:=link_in h hl
 have hA:=link_ahd h hl
 have hg:=ho.less_gn hin hA
 have hp:=fun k=>ho.less_part hin hA k
 rw [link_less h hl] at hg hp
 by_cases hr:Reach m.g.es x.a x.b
 ·obtain ⟨p1,p2⟩:=hp hr
  have na:m.rots.getD (m.g.vs.idxOf x.a) []≠[]:=fun e=>p1 (by rw [if_pos e])
  have nb:m.rots.getD (m.g.vs.idxOf x.b) []≠[]:=fun e=>p2 (by rw [if_pos e])
  rw [if_neg na,if_neg nb] at hg
  have ma:pa∈m.rots.getD (m.g.vs.idxOf x.a) []:=by rcases hl.sa with k | k;exact absurd k.1 na;exact k
  have mb:pb∈m.rots.getD (m.g.vs.idxOf x.b) []:=by rcases hl.sb with k | k;exact absurd k.1 nb;exact k
  rw [link_row_at h hl hl.a ma,link_row_at h hl hl.b mb,if_neg (fun k=>k.2 (hf hr))] at hg
  exact hg
 ·rw [if_neg (fun k=>hr k.1)] at hg
  exact hg
end
noncomputable def stpW (m:Mp) (s:Sp):Int:=if formW s≠0 then formW s else if s.k=1 then vertexW m s.id else if s.k=2 then noVertexW m s.id else if s.k=3 then linkW m s else noLinkW m s.id
def stpM (m:Mp) (s:Sp):Mp:=if s.k=1 then addV m s.id else if s.k=2 then delV m s.id else if s.k=3 then linkM m ⟨s.id,s.a,s.b⟩ s.pa s.pb else lessM m s.id
theorem formW_id {s:Sp} (h:formW s=0):1≤s.id∧s.id≤1048576:=by
 unfold formW at h
 split at h
 ·cases h
 split at h
 ·cases h
 split at h
 ·cases h
 ·rename_i k
  exact Classical.byContradiction fun hn=>k (.inl hn)
theorem vertexW_zero {m:Mp} {v:Int} (h:vertexW m v=0):v∉m.g.vs∧m.g.vs.length < 64:=by
 unfold vertexW at h
 split at h
 ·cases h
 ·split at h
  ·cases h
  ·rename_i h1 h2;exact ⟨h1,by omega⟩
theorem noVertexW_zero {m:Mp} {v:Int} (h:noVertexW m v=0):v∈m.g.vs∧m.rots.getD (m.g.vs.idxOf v) []=[]:=by
 unfold noVertexW at h
 by_cases h1:v∈m.g.vs
 ·rw [if_neg (fun k=>k h1)] at h
  by_cases h2:m.rots.getD (m.g.vs.idxOf v) []=[]
  ·exact ⟨h1,h2⟩
  ·rw [if_pos h2] at h;cases h
 ·rw [if_pos h1] at h;cases h
theorem step_drw {m:Mp} (h:Drw m) {s:Sp} (h0:stpW m s=0):Drw (stpM m s)∧(gn m=0→gn (stpM m s)=0):=by
 unfold stpW at h0
 by_cases hf:formW s=0
 rotate_left
 ·rw [if_pos hf] at h0;exact absurd h0 hf
 rw [if_neg (fun k=>k hf)] at h0
 have hid:=formW_id hf
 unfold stpM
 by_cases h1:s.k=1
 ·rw [if_pos h1] at h0 ⊢
  obtain ⟨k1,k2⟩:=vertexW_zero h0
  have:=addV_drw h k1 hid k2
  exact ⟨this.1,fun k=>by rw [this.2,k]⟩
 rw [if_neg h1] at h0 ⊢
 by_cases h2:s.k=2
 ·rw [if_pos h2] at h0 ⊢
  obtain ⟨k1,k2⟩:=noVertexW_zero h0
  have:=delV_drw h k1 k2
  exact ⟨this.1,fun k=>by rw [this.2,k]⟩
 rw [if_neg h2] at h0 ⊢
 by_cases h3:s.k=3
 ·rw [if_pos h3] at h0 ⊢
  obtain ⟨hl,h160,hr⟩:=linkW_zero h hid h0
  refine ⟨⟨link_ok h.ok hl,h.vp,h.v,?_⟩,fun k=>by rw [link_gn h.ok hl hr,k]⟩
  show (insE _ _).length≤160
  rw [insE_len];omega
 ·rw [if_neg h3] at h0 ⊢
  exact ⟨lessM_drw h _,fun k=>less_plane h.ok k _⟩
end Go.Proofs.YtglkgindpjdoiaaGreat.Aw
namespace Go.Proofs.YtglkgindpjdoiaaGreat.Aw
open Go Go.RowKit Go.Proofs.YtglkgindpjdoiaaGreat.Pl Go.Proofs.YtglkgindpjdoiaaGreat.Eu
set_option linter.unusedSimpArgs false
set_option linter.unusedVariables false
set_option maxHeartbeats 2000000 in
theorem stepS (B D:Nat) (m:Mp) (s:Sp) (st:St) (h:DrB B D m st) (hB:B≤st.next) (hm:Drw m):
 ACalls Tryz.prog 30 [.pt D 0,.ag (spL s)] st fun r st'=>r=i (stpW m s)∧(stpW m s=0→DrB B D (stpM m s) st')∧KB B st st':=by
 have ho:=hm.ord
 have hsm:=hm.sm
 have hq:∀ c:LObj,DrB B D m (st.new c):=fun c=>by
  obtain ⟨⟨lv,le,lr,⟨h1,h2,h3⟩,b1,b2,b3⟩,hB0⟩:=h
  have n1:=h2.v0
  have n2:=h2.e0
  have n3:=h2.r0
  exact ⟨⟨lv,le,lr,⟨by simp [show ¬ D=st.next by omega,h1],⟨by simp [show ¬ lv=st.next by omega,h2.v],by simp [show ¬ le=st.next by omega,h2.e],by simp [show ¬ lr=st.next by omega,h2.r],by simp;omega,by simp;omega,by simp;omega⟩,by simp;omega⟩,b1,b2,b3⟩,hB0⟩
 have hk0:∀ c:LObj,KB B st (st.new c):=fun c=>(Keeps.new st c).kb hB
 obtain ⟨y,hy⟩:∃ y,y=stpW m s:=⟨_,rfl⟩
 obtain ⟨m',hm'⟩:∃ m',m'=stpM m s:=⟨_,rfl⟩
 rw [← hy,← hm']
 unfold stpW at hy
 unfold stpM at hm'
 have hform:=fun st=>form s st
 have hlink:=fun st h hid=>linkS B D m s st h ho hm.ok hsm hid
 have hfid:=fun h=>formW_id (s:=s) h
 obtain ⟨k,id,sa,sb,pa,pb⟩:=s
 simp only [spL] at *
 refine qO tabOk Tryz.func30 rfl rfl Tryz.ntmps30 (rs:=[.tmp 4]) rfl (by simp) ?_
 refine awp_posG fun hpos=>?_
 (repeat' (first | refine qS ?_ | (refine w_e [] ?_;intro J hJ;simp only [];simp [];(try (refine hJ _ _ ?_;clear hJ J;simp only [ak,reduceIte])))))
 refine qE (hform _) (by simp) ?_;rintro r s1 ⟨rfl,h1⟩
 rw [h1];clear h1 s1
 by_cases hf:formW ⟨k,id,sa,sb,pa,pb⟩=0
 rotate_left
 ·rw [if_pos hf] at hy
  rw [← hy] at hf ⊢
  have hfb:(y != 0)=true:=by simpa using hf
  (repeat' (first | refine qS ?_ | (refine qR ?_;simp only [ak,reduceIte];simp [hf,hfb]) | (refine qC ?_;simp [hf,hfb]) | ((first | (refine w_e [] ?_;intro J hJ;simp only []) | (refine e_go ?_));simp [hf,hfb];(refine hJ _ _ ?_;clear hJ J;simp only [ak,reduceIte]))))
  exact hk0 _
 rw [if_neg (fun k=>k hf)] at hy
 have hid:=hfid hf
 rw [hf]
 clear hform
 by_cases h1:k=1
 ·subst h1
  rw [if_pos rfl] at hy hm'
  subst hm'
  (repeat' (first | refine qS ?_ | refine qB ?_ | (refine qK ?_;simp only [ak,reduceIte]) | (refine qC ?_;simp []) | ((first | (refine w_e [] ?_;intro J hJ;simp only []) | (refine e_go ?_));simp [];(try (refine hJ _ _ ?_;clear hJ J;simp only [ak,reduceIte])))))
  refine qE (vertexS B D m id _ (hq _) ho) (by simp) ?_;rintro r s1 ⟨rfl,h2,h3⟩
  rw [← hy] at h2 ⊢
  (repeat' (first | (refine qR ?_;simp only [ak,reduceIte];simp []) | (refine e_go ?_;simp [];(refine hJ _ _ ?_;clear hJ J;simp only [ak,reduceIte]))))
  exact ⟨h2,(hk0 _).trans h3⟩
 rw [if_neg h1] at hy hm'
 have h1b:(k==1)=false:=by simpa using h1
 by_cases h2:k=2
 ·subst h2
  rw [if_pos rfl] at hy hm'
  subst hm'
  (repeat' (first | refine qS ?_ | refine qB ?_ | (refine qK ?_;simp only [ak,reduceIte]) | (refine qC ?_;simp []) | ((first | (refine w_e [] ?_;intro J hJ;simp only []) | (refine e_go ?_));simp [];(try (refine hJ _ _ ?_;clear hJ J;simp only [ak,reduceIte])))))
  refine qE (noVertexS B D m id _ (hq _) ho) (by simp) ?_;rintro r s1 ⟨rfl,h2,h3⟩
  rw [← hy] at h2 ⊢
  (repeat' (first | (refine qR ?_;simp only [ak,reduceIte];simp []) | (refine e_go ?_;simp [];(refine hJ _ _ ?_;clear hJ J;simp only [ak,reduceIte]))))
  exact ⟨h2,(hk0 _).trans h3⟩
 rw [if_neg h2] at hy hm'
 have h2b:(k==2)=false:=by simpa using h2
 by_cases h3:k=3
 ·subst h3
  rw [if_pos rfl] at hy hm'
  subst hm'
  (repeat' (first | refine qS ?_ | refine qB ?_ | (refine qK ?_;simp only [ak,reduceIte]) | (refine qC ?_;simp []) | ((first | (refine w_e [] ?_;intro J hJ;simp only []) | (refine e_go ?_));simp [];(try (refine hJ _ _ ?_;clear hJ J;simp only [ak,reduceIte])))))
  refine qE (hlink _ (hq _) hid) (by simp) ?_;rintro r s1 ⟨rfl,h2,h3⟩
  rw [← hy] at h2 ⊢
  (repeat' (first | (refine qR ?_;simp only [ak,reduceIte];simp []) | (refine e_go ?_;simp [];(refine hJ _ _ ?_;clear hJ J;simp only [ak,reduceIte]))))
  exact ⟨h2,(hk0 _).trans h3⟩
 rw [if_neg h3] at hy hm'
 have h3b:(k==3)=false:=by simpa using h3
 subst hm'
 (repeat' (first | refine qS ?_ | refine qB ?_ | (refine qK ?_;simp only [ak,reduceIte]) | (refine qC ?_;simp [h1,h2,h3,h1b,h2b,h3b]) | ((first | (refine w_e [] ?_;intro J hJ;simp only []) | (refine e_go ?_));simp [h1,h2,h3,h1b,h2b,h3b];(try (refine hJ _ _ ?_;clear hJ J;simp only [ak,reduceIte])))))
 refine qE (noLinkS B D m id _ (hq _) ho hsm hm.ok.g.pos) (by simp) ?_;rintro r s1 ⟨rfl,h2,h3⟩
 rw [keptP_less hm.ok] at h2
 rw [← hy] at h2 ⊢
 (repeat' (first | (refine qR ?_;simp only [ak,reduceIte];simp []) | (refine e_go ?_;simp [];(refine hJ _ _ ?_;clear hJ J;simp only [ak,reduceIte]))))
 exact ⟨h2,(hk0 _).trans h3⟩
end Go.Proofs.YtglkgindpjdoiaaGreat.Aw
namespace Go.Proofs.YtglkgindpjdoiaaGreat.Aw
open Go Go.RowKit Go.Proofs.YtglkgindpjdoiaaGreat.Pl Go.Proofs.YtglkgindpjdoiaaGreat.Eu
set_option linter.unusedSimpArgs false
set_option linter.unusedVariables false
def aft (m:Mp) (l:List Sp):Mp:=l.foldl stpM m
def nilMp:Mp:=⟨⟨[],[]⟩,[]⟩
def DoTo (m:Mp) (l:List Sp) (j:Nat):Prop:=∀ i,i < j→stpW (aft m (l.take i)) (l.getD i sp0)=0
theorem aft_take {m:Mp} {l:List Sp} {j:Nat} (hj:j < l.length):aft m (l.take (j+1))=stpM (aft m (l.take j)) (l.getD j sp0):=by
 unfold aft
 rw [List.take_succ_eq_append_getElem hj,List.foldl_append,List.getD_eq_getElem?_getD,List.getElem?_eq_getElem hj]
 rfl
theorem DoTo.drw {m:Mp} {l:List Sp} (hm:Drw m):∀ j,j≤l.length→DoTo m l j→Drw (aft m (l.take j))∧(gn m=0→gn (aft m (l.take j))=0)
 | 0,_,_=>⟨hm,fun h=>h⟩
 | j+1,hj,h=>by
   obtain ⟨h1,h2⟩:=DoTo.drw hm j (by omega) fun i hi=>h i (by omega)
   obtain ⟨k1,k2⟩:=step_drw h1 (h j (by omega))
   rw [aft_take (by omega)]
   exact ⟨k1,fun hg=>k2 (h2 hg)⟩
theorem DoTo.succ {m:Mp} {l:List Sp} {j:Nat} (h:DoTo m l j) (k:stpW (aft m (l.take j)) (l.getD j sp0)=0):DoTo m l (j+1):=fun i hi=>by
 rcases Nat.lt_or_ge i j with h1 | h1
 ·exact h i h1
 ·obtain rfl:i=j:=by omega
  exact k
theorem frz_norm (st:St) (x:LV):Frz st st x (norm x):=fun w g _ hi hr=>⟨g,hi,rep_norm hr,Ext.refl w g⟩
theorem DrB.keeps {B D:Nat} {m:Mp} {st st':St} (h:DrB B D m st) (hk:Keeps st st'):DrB B D m st':=by
 obtain ⟨⟨lv,le,lr,⟨h1,h2,h3⟩,b⟩,hB0⟩:=h
 have hn:=hk.next
 exact ⟨⟨lv,le,lr,⟨by rw [hk.H _ h3];exact h1,⟨by rw [hk.H _ h2.v0];exact h2.v,by rw [hk.H _ h2.e0];exact h2.e,by rw [hk.H _ h2.r0];exact h2.r,Nat.lt_of_lt_of_le h2.v0 hn,Nat.lt_of_lt_of_le h2.e0 hn,Nat.lt_of_lt_of_le h2.r0 hn⟩,Nat.lt_of_lt_of_le h3 hn⟩,b⟩,hB0⟩
def DoQ (m:Mp) (l:List Sp) (r:LV):Prop:=(DoTo m l l.length∧r=.tu [.ag (mpL (aft m l)),i l.length,i 0])∨∃ j,j < l.length∧DoTo m l j∧stpW (aft m (l.take j)) (l.getD j sp0)≠0∧r=.tu [.ag (mpL nilMp),i j,i (stpW (aft m (l.take j)) (l.getD j sp0))]
set_option maxHeartbeats 4000000 in
theorem DoK (m:Mp) (l:List Sp) (t:Nat) (st:St) (hm:Drw m) (hl:l.length≤100000):
 ACalls Tryz.prog 10 [.ag (mpL m),.sl t l.length (sps l)] st fun r st'=>DoQ m l r∧Keeps st st':=by
 have hv:=hm.v
 have he:=hm.e
 have hsl:=sps_length l
 have hr:m.rots.length≤1000:=by rw [hm.ok.len];omega
 refine acalls_frzR ?_
 refine qO tabOk Tryz.func10 rfl rfl Tryz.ntmps10 (rs:=[.cell 4 28,.tmp 5,.tmp 6]) rfl (by simp) ?_
 refine awp_posG fun hpos=>?_
 (repeat' (first | refine qS ?_ | (refine w_e [] ?_;intro J hJ;simp only [];simp [];(try (refine hJ _ _ ?_;clear hJ J;simp only [ak,reduceIte])))))
 refine qE (rCloneM m _ (by omega) (by omega) hr hm.sm) (by simp) ?_;rintro r s1 ⟨lv,le,lr,rfl,hat,l1,l2,l3,hk1⟩
 simp only [new_next] at l1 l2 l3
 have hn1:=hk1.next
 simp only [new_next] at hn1
 have hR1:s1.H (st.next+1)=.box 28 3 [.nil,.nil,.nil]:=by rw [hk1.H _ (by simp)];simp
 have hkp1:Keeps st s1:=((Keeps.new _ _).trans (Keeps.new _ _)).trans hk1
 have h1:=hat.v0
 have h2:=hat.e0
 have h3:=hat.r0
 have hdr:DrB (st.next+2) s1.next m (s1.new (.box 61 3 (mpM lv le lr m))):=⟨⟨lv,le,lr,⟨by simp,⟨by simp [show ¬ lv=s1.next by omega,hat.v],by simp [show ¬ le=s1.next by omega,hat.e],by simp [show ¬ lr=s1.next by omega,hat.r],by simp;omega,by simp;omega,by simp;omega⟩,by simp⟩,by omega,by omega,by omega⟩,by omega⟩
 have hk2:KB (st.next+2) s1 (s1.new (.box 61 3 (mpM lv le lr m))):=(Keeps.new _ _).kb (by omega)
 obtain ⟨D,hD⟩:∃ D,D=s1.next:=⟨_,rfl⟩
 obtain ⟨s2,hs2⟩:∃ s2,s2=s1.new (.box 61 3 (mpM lv le lr m)):=⟨_,rfl⟩
 rw [← hs2,← hD] at hdr
 rw [← hs2] at hk2
 have hn2:s2.next=D+1:=by rw [hs2,hD];rfl
 unfold mpM at hs2 ⊢
 (repeat' (first | refine qS ?_ | refine qB ?_ | ((first | (refine w_e [] ?_;intro J hJ;simp only []) | (refine e_go ?_));simp [];(refine hJ _ _ ?_;clear hJ J;simp only [ak,reduceIte]))))
 rw [← hs2,← hD]
 have hR2:s2.H (st.next+1)=.box 28 3 [.nil,.nil,.nil]:=by rw [hk2.H _ (by omega)];exact hR1
 have hk3:Keeps st s2:=⟨Nat.le_trans hkp1.next hk2.next,fun x hx=>(hk2.H x (by omega)).trans (hkp1.H x hx)⟩
 clear hs2 hk2 hR1 hkp1 hn1 hk1 hat h1 h2 h3 l1 l2 l3
 refine awp_range 17 16 18 30 (l.length) (fun j fr st2=>fr 4=.pt (st.next+1) 0∧fr 7=.pt D 0∧fr 1=.sl t l.length (sps l)∧fr 15=.sl t l.length (sps l)∧DrB (st.next+2) D (aft m (l.take j)) st2∧DoTo m l j∧st2.H (st.next+1)=.box 28 3 [.nil,.nil,.nil]∧Keeps st st2∧D < st2.next) ?_ ?_ ?_
 ·exact ⟨by simp,by simp,by simp,by simp,hdr,fun i hi=>by omega,hR2,hk3,by omega⟩
 ·clear hR2 hk3 hdr
  rintro j fr s hlt ⟨f4,f7,f1,f15,hdr,hto,hR,hkp,hDn⟩ fi fn JO hJO
  have hd:=sps_drop l j hlt
  have hj6:j * 6 < l.length * 6:=by omega
  have hdw:=(hto.drw hm j (by omega)).1
  have hax:=aft_take (m:=m) hlt
  have hsc:=hto.succ (j:=j)
  have hB0:=hdr.B0
  have hstp:=fun st' h hB=>stepS (st.next+2) D (aft m (l.take j)) (l.getD j sp0) st' h hB hdw
  have herr:stpW (aft m (l.take j)) (l.getD j sp0)≠0→DoQ m l (.tu [.ag (mpL nilMp),i j,i (stpW (aft m (l.take j)) (l.getD j sp0))]):=fun hne=>.inr ⟨j,hlt,hto,hne,rfl⟩
  rw [hax] at hJO
  generalize l.getD j sp0=y at *
  generalize hmj:aft m (l.take j)=mj at *
  obtain ⟨y1,y2,y3,y4,y5,y6⟩:=y
  simp only [spL] at hd hstp
  (repeat' (first | refine qS ?_ | (refine w_e [] ?_;intro J hJ;simp only [];simp [f4,f7,f1,f15,fi,fn,hd,hj6,hlt,hsl];(try (refine hJ _ _ ?_;clear hJ J;simp only [ak,reduceIte])))))
  refine qE (hstp _ (hdr.keeps (Keeps.new _ _)) (by simp;omega)) (by simp) ?_;rintro r s3 ⟨rfl,k1,k2⟩
  have hn3:=k2.next
  simp only [new_next] at hn3
  have hR3:s3.H (st.next+1)=.box 28 3 [.nil,.nil,.nil]:=by rw [k2.H _ (by omega)];simp [show ¬ st.next+1=s.next by omega,hR]
  have hkp3:Keeps st s3:=⟨by have:=hkp.next;omega,fun x hx=>by rw [k2.H x (by omega),new_H,if_neg (by have:=hkp.next;omega)];exact hkp.H x hx⟩
  by_cases hz:stpW mj ⟨y1,y2,y3,y4,y5,y6⟩=0
  ·have h1:=k1 hz
   have h2:=hsc hz
   rw [hz]
   (repeat' (first | refine qS ?_ | (refine qK ?_;simp only [ak,reduceIte]) | (refine qC ?_;simp []) | ((first | (refine w_e [] ?_;intro J hJ;simp only []) | (refine e_go ?_));simp [];(refine hJ _ _ ?_;clear hJ J;simp only [ak,reduceIte]))))
   exact hJO _ _ (by simp [fi]) (by simp [fn]) ⟨by simp [f4],by simp [f7],by simp [f1],by simp [f15],h1,h2,hR3,hkp3,by omega⟩
  ·have hE:=herr hz
   generalize stpW mj ⟨y1,y2,y3,y4,y5,y6⟩=e at *
   have hzb:(e != 0)=true:=by simpa using hz
   (repeat' (first | refine qS ?_ | (refine qR ?_;simp only [ak,reduceIte];simp [hz,hzb,f4,hR3]) | (refine qC ?_;simp [hz,hzb,f4,hR3]) | ((first | (refine w_e [] ?_;intro J hJ;simp only []) | (refine e_go ?_));simp [hz,hzb,f4,hR3];(refine hJ _ _ ?_;clear hJ J;simp only [ak,reduceIte]))))
   exact ⟨_,_,frz_tu (frzL_cons (frz_ag (frzL_cons (frz_norm _ _) (frzL_cons (frz_norm _ _) (frzL_cons (frz_norm _ _) (frzL_same _ _))))) (frzL_same _ _)),hE,hkp3.set (by omega) _⟩
 ·clear hR2 hk3 hdr
  rintro fr s ⟨f4,f7,f1,f15,⟨⟨lv',le',lr',hI,b⟩,hB0⟩,hto,hR,hkp,hDn⟩
  rw [List.take_length] at hI
  have hne:=hI.ne
  have hD1:=hI.d
  unfold mpM at hD1
  obtain ⟨d1,d2,d3,d4,d5,d6⟩:=hne
  have hat:=hI.at'
  have n1:=hat.v0
  have n2:=hat.e0
  have n3:=hat.r0
  (repeat' (first | refine qS ?_ | (refine qR ?_;simp only [ak,reduceIte];simp [f1,f4,f7,hD1,hR]) | (refine w_e [] ?_;intro J hJ;simp only [];simp [f1,f4,f7,hD1,hR];(refine hJ _ _ ?_;clear hJ J;simp only [ak,reduceIte]))))
  refine ⟨_,_,frz_tu (frzL_cons (frz_mp (m:=aft m l) ⟨?_,?_,?_,?_,?_,?_⟩ d4 d5 d6) (frzL_same _ _)),.inl ⟨hto,rfl⟩,⟨?_,fun x hx=>?_⟩⟩
  ·rw [set_H,if_neg (by omega)];exact hat.v
  ·rw [set_H,if_neg (by omega)];exact hat.e
  ·rw [set_H,if_neg (by omega)];exact hat.r
  ·simpa using n1
  ·simpa using n2
  ·simpa using n3
  ·simp only [set_next];exact hkp.next
  ·rw [set_H,if_neg (by omega),set_H,if_neg (by omega),set_H,if_neg (by omega),set_H,if_neg (by omega)]
   exact hkp.H x hx
theorem Do (m:Mp) (l:List Sp) (t:Nat) (st:St) (hm:Drw m) (hl:l.length≤100000):
 ACalls Tryz.prog 10 [.ag (mpL m),.sl t l.length (sps l)] st fun r st'=>DoQ m l r∧st'=st:=
 qT (Q:=DoQ m l) (DoK m l t st hm hl) fun r h=>by
  rcases h with ⟨_,rfl⟩ | ⟨j,_,_,_,rfl⟩
  ·exact ⟨bel_mpL _ _,trivial,trivial,trivial⟩
  ·exact ⟨bel_mpL _ _,trivial,trivial,trivial⟩
end Go.Proofs.YtglkgindpjdoiaaGreat.Aw
namespace Go.Proofs.YtglkgindpjdoiaaGreat.Aw
open Go Go.RowKit Go.Proofs.YtglkgindpjdoiaaGreat.Pl
set_option linter.unusedSimpArgs false
set_option linter.unusedVariables false
theorem awake17 (st:St):ACalls Tryz.prog 19 [] st fun r st'=>r=bb true∧st'=st:=
 acalls_closed tabOk fnsOk prim_ok mixed 1000000 true (by kernel_rfl)
theorem ref_rRightC (m:Mp) (st:St) (hr:m.rots.length≤1000) (he:m.g.es.length≤1000):ACalls Tryz.prog 9 [.ag (mpL m)] st fun r st'=>r=i (rright m)∧Keeps st st':=by
 by_cases hv:m.g.vs.length≤1000
 ·exact ref_rRight m st hv he hr
 ·have hc:rchk m≠0:=fun h=>hv (Nat.le_trans (chk_smallC h) (by omega))
  have hrc:rright m=rchk m:=by unfold rright;rw [if_pos hc]
  refine qO tabOk Tryz.func9 rfl rfl Tryz.ntmps9 (rs:=[.tmp 2]) rfl (by simp) ?_
  (repeat' (first | refine qS ?_ | (refine w_e [] ?_;intro J hJ;simp only [];simp [];(try (refine hJ _ _ ?_;clear hJ J;simp only [ak,reduceIte])))))
  refine qE (ref_rCheckC m _ hr he) (by simp) ?_;rintro r s1 ⟨rfl,hk1⟩
  generalize rchk m=x at *
  have hcb:(x==0)=false:=by simpa using hc
  (repeat' (first | refine qS ?_ | (refine qK ?_;simp only [ak,reduceIte]) | (refine qR ?_;simp only [ak,reduceIte];simp [hcb,hc,hrc]) | (refine qC ?_;simp [hcb,hc,hrc]) | ((first | (refine w_e [] ?_;intro J hJ;simp only []) | (refine e_go ?_));simp [hcb,hc,hrc];(refine hJ _ _ ?_;clear hJ J;simp only [ak,reduceIte]))))
  exact (Keeps.new _ _).trans hk1
theorem rRightC' (m:Mp) (st:St) (hr:m.rots.length≤1000) (he:m.g.es.length≤1000):
 ACalls Tryz.prog 9 [.ag (mpL m)] st fun r st'=>r=i (rright m)∧st'=st:=
 qT (Q:=fun r=>r=i (rright m)) (ref_rRightC m st hr he) fun r h=>by subst h;trivial
theorem light17K (m:Mp) (st:St):ACalls Tryz.prog 20 [.ag (mpL m)] st fun r st'=>r=bb (lit17 m)∧Keeps st st':=by
 refine qO tabOk Tryz.func20 rfl rfl Tryz.ntmps20 (rs:=[.tmp 2]) rfl (by simp) ?_
 by_cases h1:(m.g.es.length:Int)≤30
 rotate_left
 ·have hf:lit17 m=false:=by unfold lit17;simp;omega
  (repeat' (first | refine qS ?_ | (refine qR ?_;simp only [ak,reduceIte];simp [h1,hf]) | (refine w_e [] ?_;intro J hJ;simp only [];simp [h1,hf];(refine hJ _ _ ?_;clear hJ J;simp only [ak,reduceIte]))))
  exact Keeps.new _ _
 by_cases h2:(m.rots.length:Int)≤64
 rotate_left
 ·have hf:lit17 m=false:=by unfold lit17;simp;omega
  (repeat' (first | refine qS ?_ | (refine qR ?_;simp only [ak,reduceIte];simp [h1,h2,hf]) | (refine w_e [] ?_;intro J hJ;simp only [];simp [h1,h2,hf];(refine hJ _ _ ?_;clear hJ J;simp only [ak,reduceIte]))))
  exact Keeps.new _ _
 (repeat' (first | refine qS ?_ | (refine w_e [] ?_;intro J hJ;simp only [];simp [h1,h2];(try (refine hJ _ _ ?_;clear hJ J;simp only [ak,reduceIte])))))
 refine qE (rRightC' m _ (by omega) (by omega)) (by simp) ?_;rintro r s1 ⟨rfl,h1⟩
 rw [h1];clear h1 s1
 have hf:lit17 m=decide (rright m=0):=by
  unfold lit17
  rw [decide_eq_true (by omega),decide_eq_true (by omega)];rfl
 by_cases hc:rright m=0
 ·(repeat' (first | (refine qR ?_;simp only [ak,reduceIte];simp [hc,hf]) | (refine e_go ?_;simp [hc,hf];(refine hJ _ _ ?_;clear hJ J;simp only [ak,reduceIte]))))
  exact Keeps.new _ _
 ·rw [decide_eq_false hc] at hf
  generalize rright m=x at *
  have hcb:(x==0)=false:=by simpa using hc
  (repeat' (first | (refine qR ?_;simp only [ak,reduceIte];simp [hcb,hc,hf]) | (refine e_go ?_;simp [hcb,hc,hf];(refine hJ _ _ ?_;clear hJ J;simp only [ak,reduceIte]))))
  exact Keeps.new _ _
theorem light17 (m:Mp) (st:St):ACalls Tryz.prog 20 [.ag (mpL m)] st fun r st'=>r=bb (lit17 m)∧st'=st:=
 qT (Q:=fun r=>r=bb (lit17 m)) (light17K m st) fun r h=>by subst h;trivial
theorem lit17_of {m:Mp} (h:lit17 m=true):m.g.es.length≤30∧m.rots.length≤64∧rchk m=0∧gn m=0:=by
 unfold lit17 at h
 simp only [Bool.and_eq_true,decide_eq_true_eq] at h
 obtain ⟨⟨h1,h2⟩,h3⟩:=h
 unfold rright at h3
 by_cases hc:rchk m=0
 ·rw [if_neg (fun e=>e hc)] at h3
  by_cases hg:gn m=0
  ·exact ⟨h1,h2,hc,hg⟩
  ·rw [if_pos hg] at h3;cases h3
 ·rw [if_pos hc] at h3;exact absurd h3 hc
end Go.Proofs.YtglkgindpjdoiaaGreat.Aw
namespace Go.Proofs.YtglkgindpjdoiaaGreat.Aw
open Go Go.RowKit Go.Proofs.YtglkgindpjdoiaaGreat.Pl Go.Proofs.YtglkgindpjdoiaaGreat.Eu
set_option linter.unusedSimpArgs false
set_option linter.unusedVariables false
section
variable {m:Mp} (h:MapOk m) {x:Ed} {pa pb:Int} (hl:LinkOk m x pa pb)
include h hl
end
def ahdW (n:Mp) (d:Int):Int:=if pv (turnOf n.rots d) d=d then 0 else pv (turnOf n.rots d) d
theorem ahd_pv {n:Mp} (h:MapOk n) {x:Ed} (hx:x∈n.g.es) {A B:Int} (hA:Ahd n x A B):pv (turnOf n.rots (2 * x.id)) (2 * x.id)=A∧pv (turnOf n.rots (2 * x.id+1)) (2 * x.id+1)=B:=by
 obtain ⟨d0,d1⟩:=h.dart0 hx
 obtain ⟨t1,t2⟩:=turn_of_dart h d0
 obtain ⟨t3,t4⟩:=turn_of_dart h d1
 have a3:=(h.less_end hx (.inl ⟨rfl,rfl⟩) t1 t2).2.2.1
 have b3:=(h.less_end hx (.inr ⟨rfl,rfl⟩) t3 t4).2.2.1
 exact ⟨h.sg_inj (a3.trans hA.a.symm),h.sg_inj (b3.trans hA.b.symm)⟩
theorem ahd_eq {n:Mp} (h:MapOk n) {x:Ed} (hx:x∈n.g.es) {A B:Int} (hA:Ahd n x A B):ahdW n (2 * x.id)=(if A=2 * x.id then 0 else A)∧ahdW n (2 * x.id+1)=(if B=2 * x.id+1 then 0 else B):=by
 obtain ⟨e1,e2⟩:=ahd_pv h hx hA
 unfold ahdW
 rw [e1,e2]
 exact ⟨rfl,rfl⟩
theorem form3 {s:Sp} (hk:s.k=3) (h1:numI s.id) (h2:numI s.a) (h3:numI s.b):formW s=0:=by
 unfold formW
 rw [if_neg (by omega),if_neg (fun k=>k.1 hk),if_neg]
 rintro (k | ⟨_,k | k⟩)
 ·exact k h1
 ·exact k h2
 ·exact k h3
theorem form0 {k id:Int} (hk:k=1∨k=2∨k=4) (h1:numI id):formW ⟨k,id,0,0,0,0⟩=0:=by
 unfold formW
 simp only
 rw [if_neg (by omega),if_neg (by simp),if_neg]
 rintro (q | ⟨q,_⟩)
 ·exact q h1
 ·omega
theorem back_ok {n:Mp} (h:Drw n) (hg:gn n=0) {x:Ed} (hx:x∈n.g.es):stpW (lessM n x.id) ⟨3,x.id,x.a,x.b,ahdW n (2 * x.id),ahdW n (2 * x.id+1)⟩=0∧stpM (lessM n x.id) ⟨3,x.id,x.a,x.b,ahdW n (2 * x.id),ahdW n (2 * x.id+1)⟩=n:=by
 obtain ⟨A,B,hA⟩:=h.ok.ahd hx
 obtain ⟨e1,e2⟩:=ahd_eq h.ok hx hA
 rw [e1,e2]
 have hl:=less_linkOk h.ok hx hA
 have ho:=less_ok h.ok x.id
 obtain ⟨va,vb,vab⟩:=h.ok.edge_vs hx
 constructor
 ·unfold stpW
  have hf:formW ⟨3,x.id,x.a,x.b,if A=2 * x.id then 0 else A,if B=2 * x.id+1 then 0 else B⟩=0:=form3 rfl (h.ok.g.pos x hx) (h.vp _ va) (h.vp _ vb)
  rw [if_neg (fun k=>k hf),if_neg (show ¬ (3:Int)=1 by decide),if_neg (show ¬ (3:Int)=2 by decide),if_pos rfl]
  refine linkW_mk hl ?_ fun hr=>?_
  ·have:=h.ok.len_less hx
   have:=h.e
   omega
  ·simp only at hr ⊢
   obtain ⟨na,nb⟩:=h.ok.less_part hx hA hr
   have hgn:=h.ok.less_gn hx hA
   rw [hg] at hgn
   have hS:Orb (fc (lessM n x.id) (lessM n x.id).g.es) (sg (lessM n x.id) A) (sg (lessM n x.id) B):=Classical.byContradiction fun hS=>by
    rw [if_pos ⟨hr,hS⟩] at hgn
    omega
   have sa:=hl.sa
   have sb:=hl.sb
   rw [if_neg na] at sa ⊢
   rw [if_neg nb] at sb ⊢
   obtain ⟨l0,l1⟩:=less_nil h.ok hx hA
   have ma:A∈(lessM n x.id).rots.getD ((lessM n x.id).g.vs.idxOf x.a) []:=by rcases sa with k | k;exact absurd (l0.1 k.1) na;exact k
   have mb:B∈(lessM n x.id).rots.getD ((lessM n x.id).g.vs.idxOf x.b) []:=by rcases sb with k | k;exact absurd (l1.1 k.1) nb;exact k
   rw [← link_row_at ho hl hl.a ma,← link_row_at ho hl hl.b mb]
   exact hS
 ·unfold stpM
  rw [if_neg (show ¬ (3:Int)=1 by decide),if_neg (show ¬ (3:Int)=2 by decide),if_pos rfl]
  exact less_back h.ok hx hA
theorem noLinkW_mk {m:Mp} {x:Ed} (hx:x∈m.g.es):noLinkW m x.id=0:=by
 unfold noLinkW
 rw [if_neg]
 intro k
 exact fe_neg.1 k x hx rfl
def DoAll:Mp→List Sp→Prop
 | _,[]=>True
 | m,s::l=>stpW m s=0∧DoAll (stpM m s) l
theorem aft_cons (m:Mp) (s:Sp) (l:List Sp):aft m (s::l)=aft (stpM m s) l:=rfl
theorem aft_append (m:Mp) (l l':List Sp):aft m (l++l')=aft (aft m l) l':=by unfold aft;rw [List.foldl_append]
theorem doAll_append:∀ (m:Mp) (l l':List Sp),DoAll m (l++l')↔DoAll m l∧DoAll (aft m l) l'
 | m,[],l'=>by simp [DoAll,aft]
 | m,s::l,l'=>by
   rw [List.cons_append]
   simp only [DoAll]
   rw [doAll_append (stpM m s) l l',aft_cons,and_assoc]
theorem doAll_to:∀ (m:Mp) (l:List Sp),DoTo m l l.length↔DoAll m l
 | m,[]=>⟨fun _=>trivial,fun _ i hi=>by simp at hi⟩
 | m,s::l=>by
   simp only [DoAll]
   rw [← doAll_to (stpM m s) l]
   constructor
   ·intro h
    refine ⟨h 0 (by simp),fun i hi=>?_⟩
    have:=h (i+1) (by simpa using hi)
    rw [List.take_succ_cons,aft_cons,List.getD_cons_succ] at this
    exact this
   ·rintro ⟨h1,h2⟩ i hi
    cases i with
    | zero=>exact h1
    | succ i=>
      rw [List.take_succ_cons,aft_cons,List.getD_cons_succ]
      exact h2 i (by simpa using hi)
theorem doAll_drw:∀ {m:Mp} {l:List Sp},Drw m→DoAll m l→Drw (aft m l)∧(gn m=0→gn (aft m l)=0)
 | m,[],h,_=>⟨h,fun k=>k⟩
 | m,s::l,h,hd=>by
   obtain ⟨k1,k2⟩:=step_drw h hd.1
   obtain ⟨q1,q2⟩:=doAll_drw k1 hd.2
   rw [aft_cons]
   exact ⟨q1,fun hg=>q2 (k2 hg)⟩
theorem cyc_filter {a b:List Int} (h:Cyc a b) (p:Int→Bool):Cyc (a.filter p) (b.filter p):=by
 obtain ⟨k,hk,rfl⟩:=h
 refine ⟨((a.take k).filter p).length,?_,?_⟩
 ·have:=List.take_append_drop k a
  conv=>rhs;rw [← this,List.filter_append,List.length_append]
  omega
 ·unfold rt
  have e:a.filter p=(a.take k).filter p++(a.drop k).filter p:=by rw [← List.filter_append,List.take_append_drop]
  rw [List.filter_append,e,List.drop_left,List.take_left]
theorem kept_congr {m:Mp} (h:MapOk m) {I J:List Int} (hIJ:∀ x∈m.g.es,(x.id∈I↔x.id∈J)):keptM m I=keptM m J:=by
 unfold keptM
 congr 1
 ·congr 1
  exact List.filter_congr fun x hx=>decide_eq_decide.2 (hIJ x hx)
 ·refine List.map_congr_left fun t ht=>?_
  congr 1
  refine List.filter_congr fun d hd=>?_
  obtain ⟨x,hx,e⟩:=darts_half.1 (h.turn_dart ht hd)
  rw [← e]
  exact decide_eq_decide.2 (hIJ x hx)
theorem kept_all {m:Mp} (h:MapOk m) {I:List Int} (hI:∀ x∈m.g.es,x.id∈I):keptM m I=m:=by
 obtain ⟨⟨vs,es⟩,rs⟩:=m
 unfold keptM
 congr 1
 ·congr 1
  exact List.filter_eq_self.2 fun x hx=>by simpa using hI x hx
 ·conv=>rhs;rw [← List.map_id rs]
  refine List.map_congr_left fun t ht=>?_
  rw [List.filter_eq_self.2 fun d hd=>?_]
  ·obtain ⟨k,hk,rfl,ho⟩:=h.turn ht
   exact ho.2
  ·obtain ⟨x,hx,e⟩:=darts_half.1 (h.turn_dart ht hd)
   rw [← e]
   simpa using hI x hx
theorem less_kept2 {m:Mp} (h:MapOk m) (I:List Int) (id:Int):lessM (keptM m I) id=keptM m (I.filter fun y=>decide (y≠id)):=by
 unfold lessM keptM
 simp only [List.map_map]
 congr 1
 ·congr 1
  rw [List.filter_filter]
  refine List.filter_congr fun x _=>?_
  rw [Bool.eq_iff_iff]
  simp only [Bool.and_eq_true,decide_eq_true_eq,List.mem_filter]
  exact and_comm
 ·refine List.map_congr_left fun t ht=>?_
  simp only [Function.comp]
  rw [wo_half]
  have hc:=cyc_filter (cyc_nrm (t.filter fun d=>decide (d / 2∈I))) fun d=>decide (d / 2≠id)
  rw [nrm_cyc hc (((h.nodup ht).filter _).filter _),List.filter_filter]
  congr 1
  refine List.filter_congr fun d _=>?_
  rw [Bool.eq_iff_iff]
  simp only [Bool.and_eq_true,decide_eq_true_eq,List.mem_filter]
  exact and_comm
theorem gone_all {m:Mp} (h:MapOk m):∀ (L:List Ed) (I:List Int),(∀ x∈L,x∈m.g.es∧x.id∈I)→L.Pairwise (fun x y=>x.id≠y.id)→
 DoAll (keptM m I) (L.map fun x=>⟨4,x.id,0,0,0,0⟩)∧aft (keptM m I) (L.map fun x=>⟨4,x.id,0,0,0,0⟩)=keptM m (I.filter fun y=>decide (y∉L.map (·.id)))
 | [],I,_,_=>⟨trivial,by
   show keptM m I=_
   congr 1
   exact (List.filter_eq_self.2 fun y _=>by simp).symm⟩
 | x::L,I,hL,hn=>by
   rw [List.pairwise_cons] at hn
   obtain ⟨hx,hxI⟩:=hL x (by simp)
   have hin:x∈(keptM m I).g.es:=List.mem_filter.2 ⟨hx,by simpa using hxI⟩
   have e1:stpM (keptM m I) ⟨4,x.id,0,0,0,0⟩=keptM m (I.filter fun y=>decide (y≠x.id)):=by
    rw [← less_kept2 h]
    unfold stpM
    rw [if_neg (show ¬ (4:Int)=1 by decide),if_neg (show ¬ (4:Int)=2 by decide),if_neg (show ¬ (4:Int)=3 by decide)]
   have e2:stpW (keptM m I) ⟨4,x.id,0,0,0,0⟩=0:=by
    unfold stpW
    rw [if_neg (fun k=>k (form0 (.inr (.inr rfl)) (h.g.pos x hx))),if_neg (show ¬ (4:Int)=1 by decide),if_neg (show ¬ (4:Int)=2 by decide),if_neg (show ¬ (4:Int)=3 by decide)]
    exact noLinkW_mk hin
   obtain ⟨k1,k2⟩:=gone_all h L (I.filter fun y=>decide (y≠x.id)) (fun y hy=>⟨(hL y (List.mem_cons_of_mem _ hy)).1,List.mem_filter.2 ⟨(hL y (List.mem_cons_of_mem _ hy)).2,by simpa using Ne.symm (hn.1 y hy)⟩⟩) hn.2
   rw [List.map_cons]
   simp only [DoAll]
   rw [aft_cons,e1,e2,k2,List.filter_filter]
   refine ⟨⟨rfl,k1⟩,kept_congr h fun y _=>?_⟩
   simp only [List.mem_filter,List.map_cons,List.mem_cons,not_or,Bool.and_eq_true,decide_eq_true_eq]
   constructor
   ·rintro ⟨q1,q2,q3⟩;exact ⟨q1,q3,q2⟩
   ·rintro ⟨q1,q2,q3⟩;exact ⟨q1,q3,q2⟩
theorem ids_ne {es:List Ed} (h:es.Pairwise fun x y=>x.id < y.id):es.Pairwise fun x y=>x.id≠y.id:=h.imp fun k=>by omega
theorem kept_drw {m:Mp} (h:Drw m) (I:List Int):Drw (keptM m I)∧(gn m=0→gn (keptM m I)=0):=by
 have hg:=gone_all h.ok (m.g.es.filter fun x=>decide (x.id∉I)) (m.g.es.map (·.id)) (fun x hx=>⟨(List.mem_filter.1 hx).1,List.mem_map_of_mem (List.mem_filter.1 hx).1⟩) ((ids_ne h.ok.g.ids).sublist List.filter_sublist)
 rw [kept_all h.ok fun x hx=>List.mem_map_of_mem hx] at hg
 have e:keptM m ((m.g.es.map (·.id)).filter fun y=>decide (y∉(m.g.es.filter fun x=>decide (x.id∉I)).map (·.id)))=keptM m I:=kept_congr h.ok fun x hx=>by
  simp only [List.mem_filter,List.mem_map,decide_eq_true_eq,not_exists,not_and]
  constructor
  ·rintro ⟨_,k⟩
   exact Classical.byContradiction fun hn=>k x ⟨hx,hn⟩ rfl
  ·intro hI
   refine ⟨⟨x,hx,rfl⟩,fun y hy hyx=>hy.2 (by rw [hyx];exact hI)⟩
 rw [e] at hg
 have:=doAll_drw h hg.1
 rw [hg.2] at this
 exact this
theorem less_vs:∀ (L:List Int) {m:Mp},Drw m→L.Nodup→(∀ v∈L,v∈m.g.vs∧ends m.g.es v=[])→
 DoAll m (L.map fun v=>⟨2,v,0,0,0,0⟩)∧(aft m (L.map fun v=>⟨2,v,0,0,0,0⟩)).g.es=m.g.es∧(∀ d,sg (aft m (L.map fun v=>⟨2,v,0,0,0,0⟩)) d=sg m d)∧∀ w,w∈(aft m (L.map fun v=>⟨2,v,0,0,0,0⟩)).g.vs↔w∈m.g.vs∧w∉L
 | [],m,_,_,_=>⟨trivial,rfl,fun _=>rfl,fun w=>by simp [aft]⟩
 | v::L,m,h,hn,hL=>by
   rw [List.nodup_cons] at hn
   obtain ⟨hv,he⟩:=hL v (by simp)
   have h0:m.rots.getD (m.g.vs.idxOf v) []=[]:=by
    have hi:=List.idxOf_lt_length_of_mem hv
    have:=(h.ok.ok _ hi).1
    rw [getD_lt _ _ hi,List.getElem_idxOf hi,he] at this
    exact this.eq_nil
   have e1:stpM m ⟨2,v,0,0,0,0⟩=delV m v:=by
    unfold stpM
    rw [if_neg (show ¬ (2:Int)=1 by decide),if_pos rfl]
   have e2:stpW m ⟨2,v,0,0,0,0⟩=0:=by
    unfold stpW
    rw [if_neg (fun k=>k (form0 (.inr (.inl rfl)) (h.vp v hv))),if_neg (show ¬ (2:Int)=1 by decide),if_pos rfl]
    unfold noVertexW
    rw [if_neg (fun k=>k hv),if_neg (fun k=>k h0)]
   have hp:=del_perm h hv h0
   have hout:=del_out h hv h0
   obtain ⟨k1,k2,k3,k4⟩:=less_vs L (delV_drw h hv h0).1 hn.2 fun w hw=>by
    obtain ⟨q1,q2⟩:=hL w (List.mem_cons_of_mem _ hw)
    have:=hp.mem_iff.1 q1
    rw [List.mem_cons] at this
    rcases this with rfl | k
    ·exact absurd hw hn.1
    ·exact ⟨k,q2⟩
   rw [List.map_cons]
   simp only [DoAll]
   rw [aft_cons,e1,e2]
   refine ⟨⟨rfl,k1⟩,k2,fun d=>by rw [k3,delV_sg h hv h0],fun w=>?_⟩
   rw [k4,hp.mem_iff,List.mem_cons,List.mem_cons,not_or]
   constructor
   ·rintro ⟨q1,q2⟩
    exact ⟨.inr q1,fun e=>hout (e ▸ q1),q2⟩
   ·rintro ⟨q1 | q1,q2,q3⟩
    ·exact absurd q1 q2
    ·exact ⟨q1,q3⟩
theorem more_vs:∀ (L:List Int) {m:Mp},Drw m→L.Nodup→(∀ v∈L,v∉m.g.vs∧1≤v∧v≤1048576)→m.g.vs.length+L.length≤64→
 DoAll m (L.map fun v=>⟨1,v,0,0,0,0⟩)∧(aft m (L.map fun v=>⟨1,v,0,0,0,0⟩)).g.es=m.g.es∧(∀ d,sg (aft m (L.map fun v=>⟨1,v,0,0,0,0⟩)) d=sg m d)∧∀ w,w∈(aft m (L.map fun v=>⟨1,v,0,0,0,0⟩)).g.vs↔w∈m.g.vs∨w∈L
 | [],m,_,_,_,_=>⟨trivial,rfl,fun _=>rfl,fun w=>by simp [aft]⟩
 | v::L,m,h,hn,hL,h64=>by
   rw [List.nodup_cons] at hn
   rw [List.length_cons] at h64
   obtain ⟨hv,hr⟩:=hL v (by simp)
   have e1:stpM m ⟨1,v,0,0,0,0⟩=addV m v:=by
    unfold stpM
    rw [if_pos rfl]
   have e2:stpW m ⟨1,v,0,0,0,0⟩=0:=by
    unfold stpW
    rw [if_neg (fun k=>k (form0 (.inl rfl) hr)),if_pos rfl]
    unfold vertexW
    rw [if_neg hv,if_neg (by omega)]
   have hp:=mid_perm m.g.vs (lss m.g.vs v) v
   have hpl:=hp.length_eq
   rw [List.length_cons] at hpl
   obtain ⟨k1,k2,k3,k4⟩:=more_vs L (addV_drw h hv hr (by omega)).1 hn.2 (fun w hw=>by
    obtain ⟨q1,q2⟩:=hL w (List.mem_cons_of_mem _ hw)
    refine ⟨fun k=>?_,q2⟩
    have:=hp.mem_iff.1 k
    rw [List.mem_cons] at this
    rcases this with rfl | k
    ·exact hn.1 hw
    ·exact q1 k) (by show (m.g.vs.take _++v::m.g.vs.drop _).length+_≤64;omega)
   rw [List.map_cons]
   simp only [DoAll]
   rw [aft_cons,e1,e2]
   refine ⟨⟨rfl,k1⟩,k2,fun d=>by rw [k3,addV_sg h],fun w=>?_⟩
   rw [k4,show (w∈(addV m v).g.vs↔w∈v::m.g.vs) from hp.mem_iff,List.mem_cons,List.mem_cons]
   constructor
   ·rintro ((q | q) | q)
    ·exact .inr (.inl q)
    ·exact .inl q
    ·exact .inr (.inr q)
   ·rintro (q | q | q)
    ·exact .inl (.inr q)
    ·exact .inl (.inl q)
    ·exact .inr q
theorem keptR_facts (a b:Mp):(∀ i∈keptR a b,∃ x∈a.g.es,x∈b.g.es∧x.id=i)∧∀ v,sameW a b (keptR a b) v=true:=by
 have key:∀ (l:List Ed) (K:List Int),(∀ x∈l,x∈a.g.es)→(∀ i∈K,∃ x∈a.g.es,x∈b.g.es∧x.id=i)→(∀ v,sameW a b K v=true)→
  (∀ i∈l.foldl (keepR a b) K,∃ x∈a.g.es,x∈b.g.es∧x.id=i)∧∀ v,sameW a b (l.foldl (keepR a b) K) v=true:=by
  intro l
  induction l with
  | nil=>intro K _ h1 h2;exact ⟨h1,h2⟩
  | cons x l ih=>
    intro K hl h1 h2
    rw [List.foldl_cons]
    have hl2:=fun y hy=>hl y (List.mem_cons_of_mem x hy)
    by_cases hc:x∈b.g.es∧alikeW a b (K++[x.id])=true
    ·have e:keepR a b K x=K++[x.id]:=by unfold keepR;rw [if_pos hc]
     rw [e]
     refine ih _ hl2 (fun i hi=>?_) (alike_all.1 hc.2)
     rw [List.mem_append,List.mem_singleton] at hi
     rcases hi with hi | rfl
     ·exact h1 i hi
     ·exact ⟨x,hl x (by simp),hc.1,rfl⟩
    ·have e:keepR a b K x=K:=by unfold keepR;rw [if_neg hc]
     rw [e]
     exact ih _ hl2 h1 h2
 exact key a.g.es [] (fun x hx=>hx) (by simp) fun v=>by
  have e:∀ m:Mp,tnW m v []=[]:=fun m=>by unfold tnW;rw [List.filter_eq_nil_iff];intro d _;simp
  unfold sameW;rw [e,e];simp
theorem sg_kept {m:Mp} (h:MapOk m) {K:List Int} {v d:Int} (hd:d∈tnW m v K):sg (keptM m K) d=nx (nrm (tnW m v K)) d∧turnOf (keptM m K).rots d=nrm (tnW m v K):=by
 have hr:d∈rowW m v:=(List.mem_filter.1 hd).1
 have hv:v∈m.g.vs:=by
  unfold rowW at hr
  split at hr
  ·assumption
  ·simp at hr
 have hi:=List.idxOf_lt_length_of_mem hv
 have hlen:=h.len
 have hrow:rowW m v=m.rots.getD (m.g.vs.idxOf v) []:=by unfold rowW;rw [if_pos hv]
 have hin:nrm (tnW m v K)∈(keptM m K).rots:=by
  unfold keptM tnW
  rw [hrow]
  exact List.mem_map.2 ⟨_,by rw [getR_lt _ _ (by omega)];exact List.getElem_mem _,rfl⟩
 have ho:=kept_ok h K
 have hdn:d∈nrm (tnW m v K):=(nrm_mem _ _).2 hd
 refine ⟨sg_at ho hin hdn,?_⟩
 obtain ⟨h1,h2⟩:=turn_of_dart ho (ho.turn_dart hin hdn)
 exact ho.same h1 hin h2 hdn
theorem dart_tn {m:Mp} (h:MapOk m) {K:List Int} {d:Int} (hd:d∈darts (keptM m K).g.es):∃ v,d∈tnW m v K:=by
 obtain ⟨x,hx,e⟩:=darts_half.1 hd
 obtain ⟨hx1,hx2⟩:=List.mem_filter.1 hx
 obtain ⟨v,hv,_⟩:=dart_at (darts_half.2 ⟨x,hx1,e⟩)
 refine ⟨v,List.mem_filter.2 ⟨(row_ends h).2 hv,?_⟩⟩
 rw [← e];simpa using hx2
section
variable {a b:Mp} (ha:Drw a) (hb:Drw b)
include ha hb
theorem kept_es:(keptM a (keptR a b)).g.es=(keptM b (keptR a b)).g.es:=by
 obtain ⟨k1,_⟩:=keptR_facts a b
 refine es_ext (kept_ok ha.ok _).g.ids (kept_ok hb.ok _).g.ids fun y=>?_
 show y∈a.g.es.filter _↔y∈b.g.es.filter _
 rw [List.mem_filter,List.mem_filter]
 constructor
 ·rintro ⟨h1,h2⟩
  obtain ⟨x,hx,hx2,e⟩:=k1 y.id (by simpa using h2)
  have:=id_eq ha.ok.g.ids h1 hx e.symm
  exact ⟨this ▸ hx2,h2⟩
 ·rintro ⟨h1,h2⟩
  obtain ⟨x,hx,hx2,e⟩:=k1 y.id (by simpa using h2)
  have:=id_eq hb.ok.g.ids h1 hx2 e.symm
  exact ⟨this ▸ hx,h2⟩
theorem kept_sg (d:Int):sg (keptM a (keptR a b)) d=sg (keptM b (keptR a b)) d:=by
 obtain ⟨_,k2⟩:=keptR_facts a b
 have he:=kept_es ha hb
 by_cases hd:d∈darts (keptM a (keptR a b)).g.es
 ·obtain ⟨v,hv⟩:=dart_tn ha.ok hd
  have hs:nrm (tnW a v (keptR a b))=nrm (tnW b v (keptR a b)):=by have:=k2 v;unfold sameW at this;simpa using this
  have hv2:d∈tnW b v (keptR a b):=(nrm_mem _ _).1 (hs ▸ (nrm_mem _ _).2 hv)
  rw [(sg_kept ha.ok hv).1,(sg_kept hb.ok hv2).1,hs]
 ·rw [(kept_ok ha.ok _).sg_id hd,(kept_ok hb.ok _).sg_id (he ▸ hd)]
theorem diff_mid:DoAll a (gone a (keptR a b)++lessV a b++moreV a b)∧aft a (gone a (keptR a b)++lessV a b++moreV a b)=keptM b (keptR a b):=by
 obtain ⟨k1,k2⟩:=keptR_facts a b
 have hg:=gone_all ha.ok (a.g.es.filter fun x=>decide (x.id∉keptR a b)) (a.g.es.map (·.id)) (fun x hx=>⟨(List.mem_filter.1 hx).1,List.mem_map_of_mem (List.mem_filter.1 hx).1⟩) ((ids_ne ha.ok.g.ids).sublist List.filter_sublist)
 rw [kept_all ha.ok fun x hx=>List.mem_map_of_mem hx] at hg
 have e:keptM a ((a.g.es.map (·.id)).filter fun y=>decide (y∉(a.g.es.filter fun x=>decide (x.id∉keptR a b)).map (·.id)))=keptM a (keptR a b):=kept_congr ha.ok fun x hx=>by
  simp only [List.mem_filter,List.mem_map,decide_eq_true_eq,not_exists,not_and]
  constructor
  ·rintro ⟨_,k⟩
   exact Classical.byContradiction fun hn=>k x ⟨hx,hn⟩ rfl
  ·intro hI
   refine ⟨⟨x,hx,rfl⟩,fun y hy hyx=>hy.2 (by rw [hyx];exact hI)⟩
 rw [e] at hg
 obtain ⟨g1,g2⟩:=hg
 have hk:=(kept_drw ha (keptR a b)).1
 have hes:=kept_es ha hb
 obtain ⟨l1,l2,l3,l4⟩:=less_vs (a.g.vs.filter fun v=>decide (v∉b.g.vs)) hk ((rise_nodup ha.ok.g.rise).filter _) fun v hv=>by
  obtain ⟨q1,q2⟩:=List.mem_filter.1 hv
  have q2':v∉b.g.vs:=by simpa using q2
  refine ⟨q1,?_⟩
  rw [hes]
  exact alone_out (kept_drw hb (keptR a b)).1 q2'
 have hm2:=(doAll_drw hk l1).1
 generalize hM2:aft (keptM a (keptR a b)) ((a.g.vs.filter fun v=>decide (v∉b.g.vs)).map fun v=>⟨2,v,0,0,0,0⟩)=m2 at *
 have hmem:∀ w,w∈m2.g.vs↔w∈a.g.vs∧w∈b.g.vs:=fun w=>by
  rw [l4,List.mem_filter]
  show w∈a.g.vs∧¬ (w∈a.g.vs∧_)↔_
  simp only [decide_eq_true_eq,not_and,Classical.not_not]
  constructor
  ·rintro ⟨q1,q2⟩;exact ⟨q1,q2 q1⟩
  ·rintro ⟨q1,q2⟩;exact ⟨q1,fun _=>q2⟩
 have hlen:m2.g.vs.length+(b.g.vs.filter fun v=>decide (v∉a.g.vs)).length≤64:=by
  have hp:(m2.g.vs++b.g.vs.filter fun v=>decide (v∉a.g.vs)).Perm b.g.vs:=by
   refine (List.perm_ext_iff_of_nodup ?_ (rise_nodup hb.ok.g.rise)).2 fun w=>?_
   ·rw [List.nodup_append]
    refine ⟨rise_nodup hm2.ok.g.rise,(rise_nodup hb.ok.g.rise).filter _,fun x hx y hy e=>?_⟩
    have:=(List.mem_filter.1 hy).2
    simp only [decide_eq_true_eq] at this
    exact this (e ▸ ((hmem x).1 hx).1)
   ·rw [List.mem_append,hmem,List.mem_filter]
    simp only [decide_eq_true_eq]
    constructor
    ·rintro (q | q)
     ·exact q.2
     ·exact q.1
    ·intro q
     by_cases qa:w∈a.g.vs
     ·exact .inl ⟨qa,q⟩
     ·exact .inr ⟨q,qa⟩
  have:=hp.length_eq
  rw [List.length_append] at this
  have:=hb.v
  omega
 obtain ⟨n1,n2,n3,n4⟩:=more_vs (b.g.vs.filter fun v=>decide (v∉a.g.vs)) hm2 ((rise_nodup hb.ok.g.rise).filter _) (fun v hv=>by
  obtain ⟨q1,q2⟩:=List.mem_filter.1 hv
  have q2':v∉a.g.vs:=by simpa using q2
  exact ⟨fun k=>q2' ((hmem v).1 k).1,hb.vp v q1⟩) hlen
 have hm3:=(doAll_drw hm2 n1).1
 have e2:aft m2 ((b.g.vs.filter fun v=>decide (v∉a.g.vs)).map fun v=>⟨1,v,0,0,0,0⟩)=keptM b (keptR a b):=by
  refine map_ext hm3.ok (kept_ok hb.ok _) (rise_unique hm3.ok.g.rise hb.ok.g.rise fun w=>?_) ?_ fun d=>?_
  ·rw [n4,hmem,List.mem_filter]
   simp only [decide_eq_true_eq]
   constructor
   ·rintro (q | q)
    ·exact q.2
    ·exact q.1
   ·intro q
    by_cases qa:w∈a.g.vs
    ·exact .inl ⟨qa,q⟩
    ·exact .inr ⟨q,qa⟩
  ·rw [n2,l2,hes]
  ·rw [n3,l3,kept_sg ha hb]
 have g1':DoAll a (gone a (keptR a b)):=g1
 have g2':aft a (gone a (keptR a b))=keptM a (keptR a b):=g2
 have l1':DoAll (keptM a (keptR a b)) (lessV a b):=l1
 have hM2':aft (keptM a (keptR a b)) (lessV a b)=m2:=hM2
 have n1':DoAll m2 (moreV a b):=n1
 have e2':aft m2 (moreV a b)=keptM b (keptR a b):=e2
 rw [doAll_append,doAll_append,aft_append a (gone a (keptR a b)++lessV a b),aft_append a (gone a (keptR a b)),g2',hM2',e2']
 exact ⟨⟨⟨g1',l1'⟩,n1'⟩,rfl⟩
end
theorem pv_self {l:List Int} (hn:l.Nodup) {d:Int} (hd:d∈l):pv l d=d↔l.length=1:=by
 have hi:=List.idxOf_lt_length_of_mem hd
 have hj:=Nat.mod_lt (l.idxOf d+(l.length - 1)) (show 0 < l.length by omega)
 have e1:pv l d=l[(l.idxOf d+(l.length - 1)) % l.length]:=by unfold pv;rw [if_pos hd,getD_lt _ _ hj]
 rw [e1]
 constructor
 ·intro h
  have h2:l.idxOf l[(l.idxOf d+(l.length - 1)) % l.length]=l.idxOf d:=by rw [h]
  rw [idx_get hn hj] at h2
  rcases Nat.eq_zero_or_pos (l.idxOf d) with h0 | h0
  ·rw [h0,Nat.zero_add,Nat.mod_eq_of_lt (by omega)] at h2;omega
  ·rw [show l.idxOf d+(l.length - 1)=(l.idxOf d - 1)+l.length by omega,Nat.add_mod_right,Nat.mod_eq_of_lt (by omega)] at h2;omega
 ·intro h
  have h0:l.idxOf d=0:=by omega
  have:(l.idxOf d+(l.length - 1)) % l.length=l.idxOf d:=by rw [h0,h]
  have h3:=List.getElem_idxOf hi
  simp only [this]
  exact h3
theorem ahead_kept {b:Mp} (hb:MapOk b) {T:List Int} {v d:Int} (hd:d∈tnW b v T):ahdW (keptM b T) d=aheadW b v d T:=by
 have hn:=tn_nodup hb v T
 have ht:=(sg_kept hb hd).2
 unfold ahdW aheadW
 rw [ht,cyc_pv (cyc_nrm _) hn]
 by_cases h1:(tnW b v T).length=1
 ·rw [if_pos h1,if_pos ((pv_self hn hd).2 h1)]
 ·rw [if_neg h1,if_neg fun k=>h1 ((pv_self hn hd).1 k)]
def lkW (b:Mp) (K:List Int):List Int→List Ed→List Sp
 | _,[]=>[]
 | T,x::l=>if x.id∈K then lkW b K T l else ⟨3,x.id,x.a,x.b,aheadW b x.a (2 * x.id) (T++[x.id]),aheadW b x.b (2 * x.id+1) (T++[x.id])⟩::lkW b K (T++[x.id]) l
theorem lkW_cons (b:Mp) (K T:List Int) (x:Ed) (l:List Ed):lkW b K T (x::l)=if x.id∈K then lkW b K T l else ⟨3,x.id,x.a,x.b,aheadW b x.a (2 * x.id) (T++[x.id]),aheadW b x.b (2 * x.id+1) (T++[x.id])⟩::lkW b K (T++[x.id]) l:=rfl
theorem lk_out (b:Mp) (K:List Int):∀ (l:List Ed) (S:Lk),(l.foldl (link1 b K) S).out=S.out++lkW b K S.T l
 | [],S=>by simp [lkW]
 | x::l,S=>by
   rw [List.foldl_cons,lk_out b K l,lkW_cons]
   unfold link1
   by_cases h:x.id∈K
   ·rw [if_pos h,if_pos h]
   ·rw [if_neg h,if_neg h]
    simp
theorem lk_all {b:Mp} (hb:Drw b) (hg:gn b=0) (K:List Int):∀ (l:List Ed) (T:List Int),(∀ x∈l,x∈b.g.es)→l.Pairwise (fun x y=>x.id≠y.id)→(∀ x∈l,x.id∈K∧x.id∈T∨x.id∉K∧x.id∉T)→
 DoAll (keptM b T) (lkW b K T l)∧∃ T',aft (keptM b T) (lkW b K T l)=keptM b T'∧(∀ i∈T,i∈T')∧∀ x∈l,x.id∈T'
 | [],T,_,_,_=>⟨trivial,T,rfl,fun i h=>h,by simp⟩
 | x::l,T,hl,hn,hK=>by
   rw [List.pairwise_cons] at hn
   have hx:=hl x (by simp)
   have hl2:=fun y hy=>hl y (List.mem_cons_of_mem x hy)
   rw [lkW_cons]
   rcases hK x (by simp) with ⟨k1,k2⟩ | ⟨k1,k2⟩
   ·rw [if_pos k1]
    obtain ⟨q1,T',q2,q3,q4⟩:=lk_all hb hg K l T hl2 hn.2 fun y hy=>hK y (List.mem_cons_of_mem _ hy)
    refine ⟨q1,T',q2,q3,fun y hy=>?_⟩
    rw [List.mem_cons] at hy
    rcases hy with rfl | hy
    ·exact q3 _ k2
    ·exact q4 y hy
   ·rw [if_neg k1]
    obtain ⟨q1,T',q2,q3,q4⟩:=lk_all hb hg K l (T++[x.id]) hl2 hn.2 fun y hy=>by
     have hne:=hn.1 y hy
     rcases hK y (List.mem_cons_of_mem _ hy) with ⟨h1,h2⟩ | ⟨h1,h2⟩
     ·exact .inl ⟨h1,List.mem_append_left _ h2⟩
     ·refine .inr ⟨h1,fun h=>?_⟩
      rw [List.mem_append,List.mem_singleton] at h
      rcases h with h | h
      ·exact h2 h
      ·exact hne h.symm
    obtain ⟨hnd,hng⟩:=kept_drw hb (T++[x.id])
    have hin:x∈(keptM b (T++[x.id])).g.es:=List.mem_filter.2 ⟨hx,by simp⟩
    obtain ⟨b1,b2⟩:=back_ok hnd (hng hg) hin
    obtain ⟨t1,t2⟩:=tn_dart hb.ok hx (T:=T++[x.id]) (by simp)
    rw [ahead_kept hb.ok t1,ahead_kept hb.ok t2] at b1 b2
    have e:lessM (keptM b (T++[x.id])) x.id=keptM b T:=by
     rw [less_kept2 hb.ok]
     refine kept_congr hb.ok fun y hy=>?_
     simp only [List.mem_filter,List.mem_append,List.mem_singleton,decide_eq_true_eq]
     constructor
     ·rintro ⟨h | h,h2⟩
      ·exact h
      ·exact absurd h h2
     ·intro h
      exact ⟨.inl h,fun h2=>k2 (h2 ▸ h)⟩
    rw [e] at b1 b2
    simp only [DoAll]
    rw [aft_cons,b1,b2]
    refine ⟨⟨rfl,q1⟩,T',q2,fun i hi=>q3 i (List.mem_append_left _ hi),fun y hy=>?_⟩
    rw [List.mem_cons] at hy
    rcases hy with rfl | hy
    ·exact q3 _ (by simp)
    ·exact q4 y hy
theorem diff_all {a b:Mp} (ha:Drw a) (hb:Drw b) (hg:gn b=0):DoAll a (diffW a b (keptR a b))∧aft a (diffW a b (keptR a b))=b:=by
 obtain ⟨m1,m2⟩:=diff_mid ha hb
 have ho:=lk_out b (keptR a b) b.g.es ⟨keptR a b,[]⟩
 simp only [List.nil_append] at ho
 obtain ⟨l1,T',l2,l3,l4⟩:=lk_all hb hg (keptR a b) b.g.es (keptR a b) (fun x hx=>hx) (ids_ne hb.ok.g.ids) fun x _=>by
  by_cases h:x.id∈keptR a b
  ·exact .inl ⟨h,h⟩
  ·exact .inr ⟨h,h⟩
 unfold diffW links
 rw [ho,doAll_append,aft_append a (gone a (keptR a b)++lessV a b++moreV a b),m2,l2,kept_all hb.ok l4]
 exact ⟨⟨m1,l1⟩,rfl⟩
theorem kept_full {a m:Mp} (hs:∀ K:List Int,(∀ i∈K,∃ x∈a.g.es,x∈m.g.es∧x.id=i)→∀ v,sameW a m K v=true):keptR a m=(a.g.es.filter fun x=>decide (x∈m.g.es)).map (·.id):=by
 have key:∀ (l:List Ed) (K:List Int),(∀ x∈l,x∈a.g.es)→(∀ i∈K,∃ x∈a.g.es,x∈m.g.es∧x.id=i)→l.foldl (keepR a m) K=K++(l.filter fun x=>decide (x∈m.g.es)).map (·.id):=by
  intro l
  induction l with
  | nil=>intro K _ _;simp
  | cons x l ih=>
    intro K hl hK
    have hl2:=fun y hy=>hl y (List.mem_cons_of_mem x hy)
    rw [List.foldl_cons]
    by_cases hx:x∈m.g.es
    ·have hK2:∀ i∈K++[x.id],∃ y∈a.g.es,y∈m.g.es∧y.id=i:=fun i hi=>by
      rw [List.mem_append,List.mem_singleton] at hi
      rcases hi with hi | rfl
      ·exact hK i hi
      ·exact ⟨x,hl x (by simp),hx,rfl⟩
     have e:keepR a m K x=K++[x.id]:=by unfold keepR;rw [if_pos ⟨hx,alike_all.2 (hs _ hK2)⟩]
     rw [e,ih _ hl2 hK2,List.filter_cons,if_pos (by simpa using hx)]
     simp
    ·have e:keepR a m K x=K:=by unfold keepR;rw [if_neg fun q=>hx q.1]
     rw [e,ih _ hl2 hK,List.filter_cons,if_neg (by simpa using hx)]
 have:=key a.g.es [] (fun x hx=>hx) (by simp)
 simpa [keptR] using this
theorem lk_skip {b:Mp} {K:List Int}:∀ (l:List Ed) (T:List Int) (r:List Ed),(∀ y∈l,y.id∈K)→lkW b K T (l++r)=lkW b K T r
 | [],_,_,_=>rfl
 | y::l,T,r,h=>by
   rw [List.cons_append,lkW_cons,if_pos (h y (by simp))]
   exact lk_skip l T r fun z hz=>h z (List.mem_cons_of_mem _ hz)
theorem lk_none {b:Mp} {K:List Int} {l:List Ed} (T:List Int) (h:∀ y∈l,y.id∈K):lkW b K T l=[]:=by
 have:=lk_skip (b:=b) l T [] h
 rwa [List.append_nil] at this
theorem links_eq (b:Mp) (K:List Int) (l:List Ed):(links b K l).out=lkW b K K l:=by
 have:=lk_out b K l ⟨K,[]⟩
 simpa [links] using this
theorem awp_weakS {P:Program} {N:Nat} {Q:AQ} {c:Code} {fr:Frm} {st:St} (I:Frm→St→Prop) (h0:I fr st) (h:∀ fr st,I fr st→AWp P N c Q fr st):AWp P N c Q fr st:=h _ _ h0
theorem rSame10K (a:Mp) (st:St) (hv:a.g.vs.length≤1000) (he:a.g.es.length≤1000) (hr:a.rots.length≤1000) (hs:∀ t∈a.rots,small t):
 ACalls Tryz.prog 18 [.ag (mpL a),.ag (mpL a)] st fun r st'=>r=bb true∧Keeps st st':=by
 refine qO tabOk Tryz.func18 rfl rfl Tryz.ntmps18 (rs:=[.tmp 4]) rfl (by simp) ?_
 (repeat' (first | refine qS ?_ | (refine w_e [] ?_;intro J hJ;simp only [];simp [];(try (refine hJ _ _ ?_;clear hJ J;simp only [ak,reduceIte])))))
 refine qE (ref_SameG a.g a.g _ (by omega) (by omega)) (by simp) ?_;rintro r s1 ⟨rfl,hk1⟩
 have hn1:=hk1.next
 simp only [new_next] at hn1
 have hA1:s1.H st.next=.box 28 3 (mpL a):=by rw [hk1.H _ (by simp;omega)];simp
 have hB1:s1.H (st.next+1)=.box 28 3 (mpL a):=by rw [hk1.H _ (by simp)];simp
 have hK1:Keeps st s1:=((Keeps.new _ _).trans (Keeps.new _ _)).trans hk1
 (repeat' (first | refine qS ?_ | refine qB ?_ | (refine qK ?_;simp only [ak,reduceIte]) | (refine qC ?_;simp [hA1,hB1]) | ((first | (refine w_e [] ?_;intro J hJ;simp only []) | (refine e_go ?_));simp [hA1,hB1];(refine hJ _ _ ?_;clear hJ J;simp only [ak,reduceIte]))))
 refine awp_range 24 23 25 39 (a.rots.length) (fun j fr st2=>fr 2=.pt st.next 0∧fr 3=.pt (st.next+1) 0∧st2=s1) ?_ ?_ ?_
 ·exact ⟨by simp,by simp,rfl⟩
 ·rintro j fr s2 hlt ⟨f2,f3,rfl⟩ fi fn JJ hJJ
  have hd:=rowsL_drop a.rots j hlt
  have hRl2:j < (rowsL a.rots).length:=by simpa using hlt
  have hsk:=hs (a.rots.getD j []) (by rw [getR_lt _ _ hlt];exact List.getElem_mem _)
  generalize a.rots.getD j []=c at *
  (repeat' (first | refine qS ?_ | (refine w_e [] ?_;intro J hJ;simp only [];simp [fi,fn];(refine hJ _ _ ?_;clear hJ J;simp only [ak,reduceIte]))))
  (refine w_s [] [st.next,st.next+1] [(0,true),(1,true),(2,true),(3,true),(4,true),(5,true),(6,true),(7,true),(8,true),(9,true),(10,true),(11,true)] ?_;intro J hJ;simp [f2,f3,hA1,hB1,hd,hRl2,hlt])
  refine qD (ref_Same c c 0 0 _ hsk) (by simp) ?_;rintro r s3 ⟨rfl,rfl⟩
  refine ⟨fun _=>by simp,?_⟩
  (refine d_go ?_;simp [];(refine hJ _ _ ?_;clear hJ J;simp only [ak,reduceIte]))
  (repeat' (first | (refine qK ?_;simp only [ak,reduceIte]) | (refine qC ?_;simp [])))
  exact hJJ _ _ (by simp [fi]) (by simp [fn]) ⟨by simp [f2],by simp [f3],rfl⟩
 ·rintro fr s2 ⟨f2,f3,rfl⟩
  (repeat' (first | refine qS ?_ | (refine qR ?_;simp only [ak,reduceIte];simp []) | (refine w_e [] ?_;intro J hJ;simp only [];simp [];(refine hJ _ _ ?_;clear hJ J;simp only [ak,reduceIte]))))
  exact hK1
theorem rSame10 (a:Mp) (st:St) (h:Drw a):ACalls Tryz.prog 18 [.ag (mpL a),.ag (mpL a)] st fun r st'=>r=bb true∧st'=st:=
 qT (Q:=fun r=>r=bb true) (rSame10K a st (by have:=h.v;omega) (by have:=h.e;omega) (by have:=h.v;rw [h.ok.len];omega) h.sm) fun r h=>by subst h;trivial
theorem rRightP (m:Mp) (h:Drw m) (st:St):ACalls Tryz.prog 25 [.ag (mpL m)] st fun r st'=>r=i (rright m)∧st'=st:=
 qT (Q:=fun r=>r=i (rright m)) (rRight m st (by have:=h.v;omega) (by have:=h.e;omega) (by have:=h.v;rw [h.ok.len];omega) fun t ht=>by have:=h.ok.row_le ht;have:=h.e;omega) fun r h=>by subst h;trivial
theorem doQ_bel {m:Mp} {l:List Sp} {n:Nat} {r:LV} (h:DoQ m l r):bel n r:=by
 rcases h with ⟨_,rfl⟩ | ⟨j,_,_,_,rfl⟩
 ·exact ⟨bel_mpL _ _,trivial,trivial,trivial⟩
 ·exact ⟨bel_mpL _ _,trivial,trivial,trivial⟩
theorem doQ_tu {m:Mp} {l:List Sp} {r:LV} (h:DoQ m l r):∃ n k e,r=.tu [.ag (mpL n),i k,i e]:=by
 rcases h with ⟨_,rfl⟩ | ⟨j,_,_,_,rfl⟩
 ·exact ⟨_,_,_,rfl⟩
 ·exact ⟨_,_,_,rfl⟩
theorem sPatch (m:Mp) (l:List Sp) (t:Nat) (st:St) (hm:Drw m) (hg:gn m=0) (hl:l.length≤100000):
 ACalls Tryz.prog 22 [.ag (mpL m),.sl t l.length (sps l)] st fun r st'=>DoQ m l r∧st'=st:=by
 refine qT (Q:=DoQ m l) ?_ fun r h=>doQ_bel h
 have hr:rright m=0:=drw_right.2 ⟨hm,hg⟩
 have hsl:=sps_length l
 refine qO tabOk Tryz.func22 rfl rfl Tryz.ntmps22 (rs:=[.cell 4 28,.tmp 5,.tmp 6]) rfl (by simp) ?_
 refine awp_posG fun hpos=>?_
 have e1:¬ st.next+1=st.next:=by omega
 (repeat' (first | refine qS ?_ | (refine w_e [] ?_;intro J hJ;simp only [];simp [e1];(try (refine hJ _ _ ?_;clear hJ J;simp only [ak,reduceIte])))))
 refine qE (rRightP m hm _) (by simp) ?_;rintro r s1 ⟨rfl,h7⟩
 rw [h7,hr];clear h7 s1
 (repeat' (first | refine qS ?_ | (refine qK ?_;simp only [ak,reduceIte]) | (refine qC ?_;simp [e1]) | ((first | (refine w_e [] ?_;intro J hJ;simp only []) | (refine e_go ?_));simp [e1];(try (refine hJ _ _ ?_;clear hJ J;simp only [ak,reduceIte])))))
 refine qE (Do m l t _ hm hl) (by simp) ?_;rintro r s1 ⟨hq,h7⟩
 rw [h7];clear h7 s1
 obtain ⟨n,k,e,rfl⟩:=doQ_tu hq
 (repeat' (first | (refine qR ?_;simp only [ak,reduceIte];simp [e1]) | (refine e_go ?_;simp [e1];(refine hJ _ _ ?_;clear hJ J;simp only [ak,reduceIte]))))
 exact ⟨hq,((Keeps.new _ _).trans (Keeps.new _ _)).set (by omega) _⟩
theorem lit_drw {m:Mp} (h:lit17 m=true):Drw m∧gn m=0∧m.g.es.length≤30:=by
 obtain ⟨h1,h2,h3,h4⟩:=lit17_of h
 have h0:rright m=0:=by unfold rright;rw [if_neg (fun k=>k h3),if_neg (fun k=>k h4)]
 exact ⟨(drw_right.1 h0).1,h4,h1⟩
theorem diff_len (a b:Mp) (K:List Int):(diffW a b K).length≤a.g.es.length+a.g.vs.length+b.g.vs.length+b.g.es.length:=by
 have h1:∀ (l:List Ed) (S:Lk),(l.foldl (link1 b K) S).out.length≤S.out.length+l.length:=by
  intro l
  induction l with
  | nil=>intro S;simp
  | cons x l ih=>
    intro S
    rw [List.foldl_cons]
    refine Nat.le_trans (ih _) ?_
    unfold link1
    split<;>simp<;>omega
 have h2:=h1 b.g.es ⟨K,[]⟩
 have h3:=List.length_filter_le (fun x:Ed=>decide (x.id∉K)) a.g.es
 have h4:=List.length_filter_le (fun v=>decide (v∉b.g.vs)) a.g.vs
 have h5:=List.length_filter_le (fun v=>decide (v∉a.g.vs)) b.g.vs
 unfold diffW gone lessV moreV links
 simp only [List.length_append,List.length_map,List.length_nil] at h2 ⊢
 omega
theorem patch_to {a c:Mp} (ha:Drw a) (hg:gn a=0) {l:List Sp} (h1:DoAll a l) (h2:aft a l=c) (hl:l.length≤100000) (t:Nat) (st:St):
 ACalls Tryz.prog 22 [.ag (mpL a),.sl t l.length (sps l)] st fun r st'=>r=.tu [.ag (mpL c),i l.length,i 0]∧st'=st:=
 (sPatch a l t st ha hg hl).mono fun r s h=>by
   obtain ⟨hq,h7⟩:=h
   refine ⟨?_,h7⟩
   rcases hq with ⟨_,rfl⟩ | ⟨j,hj,_,hne,_⟩
   ·rw [h2]
   ·exact absurd ((doAll_to a l).2 h1 j hj) hne
end Go.Proofs.YtglkgindpjdoiaaGreat.Aw
