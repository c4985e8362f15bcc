/- The law CanonLess: the document's Keep of a map. -/
import Derived.Test.YtglkgindpjdoiaaGreatJf
import Derived.Test.YtglkgindpjdoiaaGreatAwAlt
import Derived.Test.YtglkgindpjdoiaaGreatAwShp
import Derived.Test.YtglkgindpjdoiaaGreatAwFr
namespace Go.Proofs.YtglkgindpjdoiaaGreat.Aw
open Go Go.RowKit Go.Proofs.YtglkgindpjdoiaaGreat.Pl Go.Proofs.YtglkgindpjdoiaaGreat.Eu
set_option linter.unusedSimpArgs false
set_option linter.unusedVariables false
def keptM (m:Mp) (I:List Int):Mp:=⟨⟨m.g.vs,m.g.es.filter fun x=>decide (x.id∈I)⟩,m.rots.map fun t=>nrm (t.filter fun d=>decide (d / 2∈I))⟩
theorem filter_takeI (l:List Int) (p:Int→Bool) (k:Nat) (hk:k < l.length):(l.take (k+1)).filter p=if p (l.getD k 0)=true then (l.take k).filter p++[l.getD k 0] else (l.take k).filter p:=by
 rw [List.take_succ_eq_append_getElem hk,List.filter_append,List.getD_eq_getElem?_getD,List.getElem?_eq_getElem hk]
 by_cases h:p l[k]=true<;>simp [h]
theorem refNormal' (l:List Int) (t:Nat) (st:St) (hl:small l):
 ACalls Tryz.prog 56 [.sl t l.length (us l)] st fun r st'=>r=.sl 0 l.length (us (nrm l))∧st'=st:=
 qT (Q:=fun r=>r=.sl 0 l.length (us (nrm l))) (ref_Normal l t st hl) fun r h=>by subst h;exact ⟨.inl rfl,belL_us _ _⟩
set_option maxHeartbeats 8000000 in
theorem rKeepK (m:Mp) (I:List Int) (ti:Nat) (st:St) (hv:m.g.vs.length≤1000) (he:m.g.es.length≤1000) (hr:m.rots.length≤1000) (hs:∀ t∈m.rots,t.length≤1000) (hI:small I) (hd0:∀ t∈m.rots,∀ d∈t,0≤d∧d < 4294967296):
 ACalls Tryz.prog 78 [.ag (mpL m),.sl ti I.length (us I)] st fun r st'=>r=.ag (mpL (keptM m I))∧Keeps st st':=by
 refine acalls_z0 ?_
 refine qO tabOk Tryz.func78 rfl rfl Tryz.ntmps78 (rs:=[.cell 4 28]) rfl (by simp) ?_
 refine awp_posG fun hpos=>?_
 (repeat (refine qS ?_));(refine w_e [] ?_;intro J hJ;simp only [];simp [];(refine hJ _ _ ?_;clear hJ J;simp only [ak,reduceIte]))
 (repeat (refine qS ?_));(refine w_e [] ?_;intro J hJ;simp only [];simp [];(refine hJ _ _ ?_;clear hJ J;simp only [ak,reduceIte]))
 refine awp_cell (st.next+2) 29 1 (e:=28) (s:=3) [] [.nil,.nil] (by simp) ?_
 refine awp_cell (st.next+2) 31 3 (e:=28) (s:=3) [.sl (st.next+3) 0 []] [.nil] (by simp) ?_
 refine awp_cell (st.next+2) 22 1 (e:=28) (s:=3) [.sl (st.next+3) 0 [],.sl (st.next+4) 0 []] [] (by simp) ?_
 have g1:¬ st.next=st.next+1+1:=by omega
 have g2:¬ st.next=st.next+3:=by omega
 have g3:¬ st.next=st.next+2:=by omega
 have g4:¬ st.next=st.next+1+1+1+1+1+1:=by omega
 have g5:¬ st.next=st.next+1+1+1+1+1:=by omega
 have g6:¬ st.next=st.next+1+1+1+1:=by omega
 have g7:¬ st.next=st.next+1+1+1:=by omega
 have h1:¬ st.next+1+1=st.next+3:=by omega
 (repeat' (first | refine qS ?_ | refine qB ?_ | (refine w_e [] ?_;intro J hJ;simp only [];simp [g1,g2,g3,g4,g5,g6,g7];(repeat refine ca ?_);(refine hJ _ _ ?_;clear hJ J;simp only [ak,reduceIte]))))
 refine awp_range 26 25 27 43 (m.g.es.length) (fun j fr st2=>fr 1=.sl ti I.length (us I)∧fr 2=.pt st.next 0∧fr 4=.pt (st.next+1) 0∧fr 5=.pt (st.next+2) 0∧fr 24=.sl 0 m.g.es.length (eds m.g.es)∧st2.H st.next=.box 28 3 (mpL m)∧st2.H (st.next+1)=.box 28 3 [.nil,.nil,.nil]∧Keeps st st2∧∃ tv te tr,st2.H (st.next+2)=.box 28 3 [.sl tv m.g.vs.length (us m.g.vs),.sl te ((m.g.es.take j).filter fun x=>decide (x.id∈I)).length (eds ((m.g.es.take j).filter fun x=>decide (x.id∈I))),.sl tr 0 []]∧st2.H te=.own 31 3 ((m.g.es.take j).filter fun x=>decide (x.id∈I)).length∧st2.H tr=.own 22 1 0∧te≠tr∧st.next+2 < te∧st.next+2 < tr∧te < st2.next∧tr < st2.next) ?_ ?_ ?_
 ·refine ⟨by simp,by simp,by simp,by simp,by simp,by simp [g1,g2,g3,g4,g5,g6,g7],?_,?_,st.next+6,st.next+4,st.next+5,by simp [eds],?_,?_,by omega,by omega,by omega,by simp,by simp⟩
  ·simp
  ·(repeat (first | exact Keeps.refl _ | (refine Keeps.trans ?_ (Keeps.new _ _)) | (refine Keeps.set ?_ (by first | omega | (simp;done) | (simp;omega)) _)))
  ·simp
  ·simp
 ·rintro j fr s hlt ⟨f1,f2,f4,f5,f24,hG,hN,hkp,tv,te,tr,hB,hOe,hOr,hne,le,lr,ue,ur⟩ fi fn JO hJO
  have hd:=eds_drop m.g.es j hlt
  have hel:=eds_length m.g.es
  have hj3:j * 3 < m.g.es.length * 3:=by omega
  have hst:=filter_takeE m.g.es (fun x=>decide (x.id∈I)) j hlt
  have hle:=List.length_filter_le (fun x:Ed=>decide (x.id∈I)) (m.g.es.take j)
  rw [List.length_take] at hle
  simp only [hst] at hJO
  clear hst
  generalize (m.g.es.take j).filter (fun x=>decide (x.id∈I))=F at *
  generalize m.g.es.getD j ed0=x at *
  obtain ⟨d,a,b⟩:=x
  simp only at hd hJO
  have hFo:(eds F).length=F.length * 3:=eds_length F
  (repeat' (first | refine qS ?_ | (refine w_e [] ?_;intro J hJ;simp only [];simp [f1,f24,fi,fn,hd,hlt,hel];(try (refine hJ _ _ ?_;clear hJ J;simp only [ak,reduceIte])))))
  refine qE (Find I ti d _ hI) (by simp) ?_;rintro r s1 ⟨rfl,h1⟩
  rw [h1];clear h1 s1
  have e1:¬ st.next+2=s.next:=by omega
  have e2:¬ te=s.next:=by omega
  have e3:¬ te=0:=by omega
  have e4:¬ st.next+2=s.next+1:=by omega
  have e5:¬ st.next+2=te:=by omega
  have e6:¬ te=s.next+1:=by omega
  have e7:¬ st.next=s.next:=by omega
  have e8:¬ s.next=s.next+1:=by omega
  by_cases hin:d∈I
  rotate_left
  ·have hge:¬ (0:Int)≤gi I d:=by have:=(gi_neg I d).2 hin;omega
   have hge':gi I d < 0:=(gi_neg I d).2 hin
   rw [if_neg (by simpa using hin)] at hJO
   generalize gi I d=gg at *
   (repeat' (first | (refine qK ?_;simp only [ak,reduceIte]) | (refine qC ?_;simp [hge,hge']) | (refine e_go ?_;simp [hge,hge'];(refine hJ _ _ ?_;clear hJ J;simp only [ak,reduceIte]))))
   refine hJO _ _ (by simp [fi]) (by simp [fn]) ⟨by simp [f1],by simp [f2],by simp [f4],by simp [f5],by simp [f24],by simp [e7,hG],by simp [show ¬ st.next+1=s.next by omega,hN],hkp.trans (Keeps.new _ _),tv,te,tr,by simp [e1,hB],by simp [e2,hOe],by simp [show ¬ tr=s.next by omega,hOr],hne,le,lr,by simp;omega,by simp;omega⟩
  ·have hge:(0:Int)≤gi I d:=by have:=(gi_neg I d).1;exact Int.not_lt.1 fun h=>this h hin
   have hge':¬ gi I d < 0:=by omega
   rw [if_pos (by simpa using hin)] at hJO
   generalize gi I d=gg at *
   have hed:eds (F++[⟨d,a,b⟩])=eds F++[u d,u a,u b]:=by simp [eds]
   (repeat' (first | (refine qC ?_;simp [hge,hge',f5,hB,hOe,e1,e2,e3,e4,e5,e6,e7,e8,hFo]) | ((first | (refine w_e [] ?_;intro J hJ;simp only []) | (refine e_go ?_));simp [hge,hge',f5,hB,hOe,e1,e2,e3,e4,e5,e6,e7,e8,hFo];(repeat refine ca ?_);(refine hJ _ _ ?_;clear hJ J;simp only [ak,reduceIte]))))
   refine hJO _ _ (by simp [fi]) (by simp [fn]) ⟨by simp [f1],by simp [f2],by simp [f4],by simp [f5],by simp [f24],by simp [e7,show ¬ st.next=s.next+1 by omega,show ¬ st.next=s.next+1+1 by omega,show ¬ st.next=te by omega,hG],by simp [show ¬ st.next+1=s.next by omega,e7,show ¬ st.next=s.next+1 by omega,show ¬ st.next+1=te by omega,hN],?_,tv,s.next+1+1,tr,by simp [hed],by simp [show ¬ s.next=st.next by omega],by simp [show ¬ tr=s.next by omega,show ¬ tr=s.next+1 by omega,show ¬ tr=s.next+1+1 by omega,show ¬ tr=st.next+2 by omega,show ¬ tr=te by omega,hOr],by omega,by omega,lr,by simp,by simp;omega⟩
   (repeat (first | exact hkp | (refine Keeps.trans ?_ (Keeps.new _ _)) | (refine Keeps.set ?_ (by omega) _)))
 clear g1 g2 g3 g4 g5 g6 g7 h1
 rintro fr s ⟨f1,f2,f4,f5,f24,hG,hN,hkp,tv,te,tr,hB,hOe,hOr,hne,le,lr,ue,ur⟩
 rw [List.take_length] at hB
 clear f24 hOe hne ue
 (repeat' (first | refine qS ?_ | refine qB ?_ | (refine w_e [] ?_;intro J hJ;simp only [];simp [f2,hG];(refine hJ _ _ ?_;clear hJ J;simp only [ak,reduceIte]))))
 have hF2:∀ j,j < m.rots.length→rowsL ((m.rots.take (j+1)).map fun t=>nrm (t.filter fun d=>decide (d / 2∈I)))=rowsL ((m.rots.take j).map fun t=>nrm (t.filter fun d=>decide (d / 2∈I)))++[.sl 0 (nrm ((m.rots.getD j []).filter fun d=>decide (d / 2∈I))).length (us (nrm ((m.rots.getD j []).filter fun d=>decide (d / 2∈I))))]:=fun j hj=>by
  rw [List.take_succ_eq_append_getElem hj,getR_lt _ _ hj];simp only [rowsL,List.map_append,List.map_cons,List.map_nil]
 refine awp_range 47 46 48 74 (m.rots.length) (fun j fr st2=>fr 1=.sl ti I.length (us I)∧fr 2=.pt st.next 0∧fr 4=.pt (st.next+1) 0∧fr 5=.pt (st.next+2) 0∧fr 45=.sl 0 m.rots.length (rowsL m.rots)∧st2.H st.next=.box 28 3 (mpL m)∧st2.H (st.next+1)=.box 28 3 [.nil,.nil,.nil]∧Keeps st st2∧∃ tr,st2.H (st.next+2)=.box 28 3 [.sl tv m.g.vs.length (us m.g.vs),.sl te (m.g.es.filter fun x=>decide (x.id∈I)).length (eds (m.g.es.filter fun x=>decide (x.id∈I))),.sl tr j (rowsL ((m.rots.take j).map fun t=>nrm (t.filter fun d=>decide (d / 2∈I))))]∧st2.H tr=.own 22 1 j∧st.next+2 < tr∧tr < st2.next) ?_ ?_ ?_
 ·exact ⟨by simp [f1],by simp [f2],by simp [f4],by simp [f5],by simp,hG,hN,hkp,tr,by simpa using hB,hOr,lr,ur⟩
 ·clear f1 f2 f4 f5 hG hN hkp hB hOr lr ur tr s fr
  rintro jo fr s hlt ⟨f1,f2,f4,f5,f45,hG,hN,hkp,tr,hB,hOr,lr,ur⟩ fi fn JO hJO
  have hd:=rowsL_drop m.rots jo hlt
  have hFj:=hF2 jo hlt
  have hmem:m.rots.getD jo []∈m.rots:=by rw [getR_lt _ _ hlt];exact List.getElem_mem _
  have htl:=hs _ hmem
  have ht0:=hd0 _ hmem
  have hjl:(rowsL ((m.rots.take jo).map fun t=>nrm (t.filter fun d=>decide (d / 2∈I)))).length=jo:=by simp;omega
  simp only [hFj] at hJO
  generalize m.rots.getD jo []=t at *
  generalize rowsL ((m.rots.take jo).map fun t=>nrm (t.filter fun d=>decide (d / 2∈I)))=R at *
  generalize m.g.es.filter (fun x=>decide (x.id∈I))=EF at *
  (repeat' (first | refine qS ?_ | refine qB ?_ | (refine w_e [] ?_;intro J hJ;simp only [];simp [f45,fi,fn,hd,hlt];(refine hJ _ _ ?_;clear hJ J;simp only [ak,reduceIte]))))
  refine awp_own 10 29 1 (by simp) ?_
  refine awp_range 53 52 54 66 (t.length) (fun j fr st2=>fr 1=.sl ti I.length (us I)∧fr 2=.pt st.next 0∧fr 4=.pt (st.next+1) 0∧fr 5=.pt (st.next+2) 0∧fr 45=.sl 0 m.rots.length (rowsL m.rots)∧fr 46=i m.rots.length∧fr 47=i jo∧fr 51=.sl 0 t.length (us t)∧st2.H st.next=.box 28 3 (mpL m)∧st2.H (st.next+1)=.box 28 3 [.nil,.nil,.nil]∧Keeps st st2∧st2.H (st.next+2)=.box 28 3 [.sl tv m.g.vs.length (us m.g.vs),.sl te EF.length (eds EF),.sl tr jo R]∧st2.H tr=.own 22 1 jo∧tr < st2.next∧∃ tt,fr 10=.sl tt ((t.take j).filter fun d=>decide (d / 2∈I)).length (us ((t.take j).filter fun d=>decide (d / 2∈I)))∧st2.H tt=.own 29 1 ((t.take j).filter fun d=>decide (d / 2∈I)).length∧st.next+2 < tt∧tt < st2.next∧tt≠tr) ?_ ?_ ?_
  ·have hn:=hkp.next
   refine ⟨by simp [f1],by simp [f2],by simp [f4],by simp [f5],by simp [f45],by simp [fn],by simp [fi],by simp,by simp [show ¬ st.next=s.next by omega,hG],by simp [show ¬ st.next+1=s.next by omega,hN],hkp.trans (Keeps.new _ _),by simp [show ¬ st.next+2=s.next by omega,hB],by simp [show ¬ tr=s.next by omega,hOr],by simp;omega,s.next,by simp,by simp,by omega,by simp,by omega⟩
  ·clear f1 f2 f4 f5 f45 fi fn hG hN hkp hB hOr ur fr s hJO hd
   rintro k fr s hlk ⟨f1,f2,f4,f5,f45,f46,f47,f51,hG,hN,hkp,hB,hOr,ur,tt,f10,hOt,lt,ut,hne⟩ fi fn JI hJI
   have hd:=qG t k hlk
   have hst:=filter_takeI t (fun d=>decide (d / 2∈I)) k hlk
   have hd0':=ht0 _ (getD_mem hlk)
   have hgl:=List.length_filter_le (fun d=>decide (d / 2∈I)) (t.take k)
   rw [List.length_take] at hgl
   simp only [hst] at hJI
   clear hst
   generalize (t.take k).filter (fun d=>decide (d / 2∈I))=G at *
   generalize t.getD k 0=d at *
   have hq:d.tdiv 2=d / 2:=Int.tdiv_eq_ediv_of_nonneg hd0'.1
   have hwr:IntKind.u32.wrap (d / 2)=d / 2:=wrap_u32' _ (by omega) (by omega)
   generalize d / 2=dd at *
   (repeat' (first | refine qS ?_ | (refine w_e [] ?_;intro J hJ;simp only [];simp [f1,f51,fi,fn,hd,hlk,hq,hwr];(try (refine hJ _ _ ?_;clear hJ J;simp only [ak,reduceIte])))))
   refine qE (Find I ti dd _ hI) (by simp [hwr]) ?_;rintro r s1 ⟨rfl,h1⟩
   rw [h1];clear h1 s1
   by_cases hin:dd∈I
   rotate_left
   ·have hge':gi I dd < 0:=(gi_neg I dd).2 hin
    have hge:¬ (0:Int)≤gi I dd:=by omega
    rw [if_neg (by simpa using hin)] at hJI
    generalize gi I dd=gg at *
    (repeat' (first | (refine qK ?_;simp only [ak,reduceIte]) | (refine qC ?_;simp [hge,hge']) | (refine e_go ?_;simp [hge,hge'];(refine hJ _ _ ?_;clear hJ J;simp only [ak,reduceIte]))))
    exact hJI _ _ (by simp [fi]) (by simp [fn]) ⟨by simp [f1],by simp [f2],by simp [f4],by simp [f5],by simp [f45],by simp [f46],by simp [f47],by simp [f51],hG,hN,hkp,hB,hOr,ur,tt,by simp [f10],hOt,lt,ut,hne⟩
   ·have hge':¬ gi I dd < 0:=fun h=>(gi_neg I dd).1 h hin
    have hge:(0:Int)≤gi I dd:=by omega
    rw [if_pos (by simpa using hin)] at hJI
    generalize gi I dd=gg at *
    have e1:¬ tt=s.next:=by omega
    have e2:¬ tt=0:=by omega
    (repeat' (first | (refine qC ?_;simp [hge,hge',f10,hOt,e1,e2]) | ((first | (refine w_e [] ?_;intro J hJ;simp only []) | (refine e_go ?_));simp [hge,hge',f10,hOt,e1,e2];(repeat refine ca ?_);(refine hJ _ _ ?_;clear hJ J;simp only [ak,reduceIte]))))
    refine hJI _ _ (by simp [fi]) (by simp [fn]) ⟨by simp [f1],by simp [f2],by simp [f4],by simp [f5],by simp [f45],by simp [f46],by simp [f47],by simp [f51],by simp [show ¬ st.next=s.next by omega,show ¬ st.next=s.next+1 by omega,show ¬ st.next=tt by omega,hG],by simp [show ¬ st.next=s.next by omega,show ¬ st.next+1=s.next by omega,show ¬ st.next+1=tt by omega,hN],?_,by simp [show ¬ st.next+1=s.next by omega,show ¬ st.next+2=s.next by omega,show ¬ st.next+2=tt by omega,hB],by simp [show ¬ tr=s.next by omega,show ¬ tr=s.next+1 by omega,show ¬ tr=tt by omega,hOr],by simp;omega,s.next+1,by simp,by simp,by omega,by simp,by omega⟩
    (repeat (first | exact hkp | (refine Keeps.trans ?_ (Keeps.new _ _)) | (refine Keeps.set ?_ (by omega) _)))
  ·clear f1 f2 f4 f5 f45 fi fn hG hN hkp hB hOr ur fr s hd
   rintro fr s ⟨f1,f2,f4,f5,f45,f46,f47,f51,hG,hN,hkp,hB,hOr,ur,tt,f10,hOt,lt,ut,hne⟩
   rw [List.take_length] at f10
   have hgl:small (t.filter fun d=>decide (d / 2∈I)):=by
    have:=List.length_filter_le (fun d=>decide (d / 2∈I)) t
    unfold small;omega
   generalize t.filter (fun d=>decide (d / 2∈I))=G at *
   skip
   (refine w_s [] [st.next+2] [(0,true),(1,true),(2,true),(3,true),(4,true),(5,false),(6,true),(7,false)] ?_;intro J hJ;simp [f5,f10,hB])
   refine qD (refNormal' G tt _ hgl) (by simp) ?_;rintro r s1 ⟨rfl,h1⟩
   rw [h1];clear h1 s1
   refine ⟨fun h=>by first | (cases h;done) | simp [hB],?_⟩
   have e1:¬ tr=0:=by omega
   have e2:¬ tr=s.next:=by omega
   have e3:¬ st.next+2=tr:=by omega
   have e4:¬ st.next+2=s.next:=by omega
   have e5:¬ st.next+2=s.next+1:=by omega
   (refine d_go ?_;simp [f5,hB,hOr,e1,e2,e3,e4,e5,hjl];(repeat refine ca ?_);(refine hJ _ _ ?_;clear hJ J;simp only [ak,reduceIte]))
   refine hJO _ _ (by simp [f47]) (by simp [f46]) ⟨by simp [f1],by simp [f2],by simp [f4],by simp [f5],by simp [f45],by simp [show ¬ st.next=s.next by omega,show ¬ st.next=s.next+1 by omega,show ¬ st.next=tr by omega,hG],by simp [show ¬ st.next=s.next by omega,show ¬ st.next+1=s.next by omega,show ¬ st.next+1=tr by omega,hN],?_,s.next+1,by simp [nrm_length],by simp [show ¬ s.next=st.next+1 by omega],by omega,by simp⟩
   (repeat (first | exact hkp | (refine Keeps.trans ?_ (Keeps.new _ _)) | (refine Keeps.set ?_ (by omega) _)))
 ·clear f1 f2 f4 f5 hG hN hkp hB hOr lr ur tr s fr
  rintro fr s ⟨f1,f2,f4,f5,f45,hG,hN,hkp,tr,hB,hOr,lr,ur⟩
  rw [List.take_length] at hB
  (repeat' (first | refine qS ?_ | (refine qR ?_;simp only [ak,reduceIte];simp [f4,f5,hB,hN]) | (refine w_e [] ?_;intro J hJ;simp only [];simp [f4,f5,hB,hN];(refine hJ _ _ ?_;clear hJ J;simp only [ak,reduceIte]))))
  refine ⟨?_,hkp.set (by omega) _⟩
  simp only [z0,z0L,z0_us,z0L_edsD]
  rw [z0L_rowsF]
  simp [keptM]
theorem rKeep (m:Mp) (I:List Int) (ti:Nat) (st:St) (hv:m.g.vs.length≤1000) (he:m.g.es.length≤1000) (hr:m.rots.length≤1000) (hs:∀ t∈m.rots,t.length≤1000) (hI:small I) (hd0:∀ t∈m.rots,∀ d∈t,0≤d∧d < 4294967296):
 ACalls Tryz.prog 78 [.ag (mpL m),.sl ti I.length (us I)] st fun r st'=>r=.ag (mpL (keptM m I))∧st'=st:=
 qT (Q:=fun r=>r=.ag (mpL (keptM m I))) (rKeepK m I ti st hv he hr hs hI hd0) fun r h=>by subst h;exact bel_mpL _ _
end Go.Proofs.YtglkgindpjdoiaaGreat.Aw
namespace Go.Proofs.YtglkgindpjdoiaaGreat.Aw
open Go Go.RowKit Go.Proofs.YtglkgindpjdoiaaGreat.Pl
set_option linter.unusedSimpArgs false
set_option linter.unusedVariables false
theorem nrm_sameW (a b:Mp) (I:List Int) (v:Int):decide (nrm (tnW a v I)=nrm (tnW b v I))=sameW a b I v:=rfl
theorem tnW_len {m:Mp} (ho:MapOk m) (v:Int) (I:List Int):(tnW m v I).length≤2 * m.g.es.length:=by
 have h1:(tnW m v I).length≤(rowW m v).length:=List.length_filter_le _ _
 refine Nat.le_trans h1 ?_
 unfold rowW
 split
 ·rename_i hv
  have hk:=List.idxOf_lt_length_of_mem hv
  have h:m.g.vs.idxOf v < m.rots.length:=by rw [ho.len];exact hk
  have hmem:m.rots.getD (m.g.vs.idxOf v) []∈m.rots:=by rw [getR_lt _ _ h];exact List.getElem_mem _
  exact ho.row_le hmem
 ·simp
def InM (MM:List (List Int×LV)) (I:List Int):Prop:=∀ x,(x∈I→mget MM [x]=some (i 1))∧(x∉I→mget MM [x]=none)
theorem Vert' (g:Gr) (v:Int) (st:St) (hl:small g.vs):
 ACalls Tryz.prog 45 [.ag (grL g),u v] st fun r st'=>r=i (gi g.vs v)∧st'=st:=
 qT (Q:=fun r=>r=i (gi g.vs v)) (Vert g v st hl) fun r h=>by subst h;trivial
set_option maxHeartbeats 4000000 in
theorem dTurnK (m:Mp) (ho:MapOk m) (v:Int) (I:List Int) (q:Nat) (MM:List (List Int×LV)) (st:St) (hv:m.g.vs.length≤100) (he:m.g.es.length≤100) (hq:q < st.next) (hM:st.H q=.map false [.u32] MM) (hI:InM MM I):
 ACalls Tryz.prog 48 [.ag (mpL m),u v,.mp q] st fun r st'=>r=.sl 0 (tnW m v I).length (us (tnW m v I))∧Keeps st st':=by
 have hrl:=ho.len
 have hsm:small m.g.vs:=by unfold small;omega
 obtain ⟨G0,hG0⟩:∃ G0,G0=tnW m v I:=⟨_,rfl⟩
 rw [← hG0]
 refine acalls_z0 ?_
 refine qO tabOk Tryz.func48 rfl rfl Tryz.ntmps48 (rs:=[.tmp 6]) rfl (by simp) ?_
 refine awp_posG fun hpos=>?_
 (repeat' (first | refine qS ?_ | (refine w_e [] ?_;intro J hJ;simp only [];simp [];(try (refine hJ _ _ ?_;clear hJ J;simp only [ak,reduceIte])))))
 refine qE (Vert' m.g v _ hsm) (by simp) ?_;rintro r s1 ⟨rfl,h1⟩
 rw [h1];clear h1 s1
 by_cases hin:v∈m.g.vs
 rotate_left
 ·have hge:¬ (0:Int)≤gi m.g.vs v:=by have:=(gi_neg m.g.vs v).2 hin;omega
  have hge':gi m.g.vs v < 0:=(gi_neg m.g.vs v).2 hin
  have ht:tnW m v I=[]:=by unfold tnW rowW;rw [if_neg hin];rfl
  obtain rfl:G0=[]:=hG0.trans ht
  generalize gi m.g.vs v=g at *
  (repeat' (first | refine qS ?_ | (refine qK ?_;simp only [ak,reduceIte]) | (refine qR ?_;simp only [ak,reduceIte];simp [hge,hge']) | (refine qC ?_;simp [hge,hge']) | ((first | (refine w_e [] ?_;intro J hJ;simp only []) | (refine e_go ?_));simp [hge,hge'];(refine hJ _ _ ?_;clear hJ J;simp only [ak,reduceIte]))))
  exact ⟨by simp [z0],Keeps.new _ _⟩
 rw [gi_mem hin]
 have hk:m.g.vs.idxOf v < m.rots.length:=by rw [hrl];exact List.idxOf_lt_length_of_mem hin
 have hrow:tnW m v I=(m.rots.getD (m.g.vs.idxOf v) []).filter fun d=>decide (d / 2∈I):=by
  unfold tnW rowW;rw [if_pos hin]
 rw [hrow] at hG0
 clear hrow
 generalize m.g.vs.idxOf v=k at *
 have hdR:=rowsL_drop m.rots k hk
 have hmem:m.rots.getD k []∈m.rots:=by rw [getR_lt _ _ hk];exact List.getElem_mem _
 have htl:(m.rots.getD k []).length≤200:=by have:=ho.row_le hmem;omega
 have htd:∀ d∈m.rots.getD k [],2≤d∧d≤2097153:=fun d hd=>dart_range ho (ho.turn_dart hmem hd)
 generalize m.rots.getD k []=t at *
 have hk0:(0:Int)≤(k:Int):=by omega
 (repeat' (first | refine qS ?_ | refine qB ?_ | (refine qC ?_;simp [hk0,hdR,hk]) | ((first | (refine w_e [] ?_;intro J hJ;simp only []) | (refine e_go ?_));simp [hk0,hdR,hk];(refine hJ _ _ ?_;clear hJ J;simp only [ak,reduceIte]))))
 refine awp_own 7 29 1 (by simp) ?_
 refine awp_range 23 22 24 36 (t.length) (fun j fr st2=>fr 2=.mp q∧fr 21=.sl 0 t.length (us t)∧st2.H q=.map false [.u32] MM∧Keeps st st2∧st.next < st2.next∧∃ tt,fr 7=.sl tt ((t.take j).filter fun d=>decide (d / 2∈I)).length (us ((t.take j).filter fun d=>decide (d / 2∈I)))∧st2.H tt=.own 29 1 ((t.take j).filter fun d=>decide (d / 2∈I)).length∧st.next < tt∧tt < st2.next) ?_ ?_ ?_
 ·exact ⟨by simp,by simp,by simp [show ¬ q=st.next by omega,show ¬ q=st.next+1 by omega,hM],(Keeps.new _ _).trans (Keeps.new _ _),by simp;omega,st.next+1,by simp,by simp,by omega,by simp⟩
 ·rintro k fr s hlk ⟨f2,f21,hMs,hkp,hsn,tt,f7,hO,lt,ut⟩ fi fn JI hJI
  have hd:=qG t k hlk
  have hst:=filter_takeI t (fun d=>decide (d / 2∈I)) k hlk
  have hgl:=List.length_filter_le (fun d=>decide (d / 2∈I)) (t.take k)
  rw [List.length_take] at hgl
  simp only [hst] at hJI
  clear hst
  generalize (t.take k).filter (fun d=>decide (d / 2∈I))=G at *
  generalize t.getD k 0=d at *
  generalize hdd:d / 2=dd at *
  (repeat' (first | refine qS ?_ | (refine w_e [] ?_;intro J hJ;simp only [];simp [f21,fi,fn,hd,hlk,f2];(try (refine hJ _ _ ?_;clear hJ J;simp only [ak,reduceIte])))))
  refine qE (Edge d _) (by simp) ?_;rintro r s1 ⟨rfl,h1⟩
  rw [h1];clear h1 s1
  rw [hdd]
  have e1:¬ tt=s.next:=by omega
  have e2:¬ tt=0:=by omega
  by_cases hin2:dd∈I
  rotate_left
  ·have hg:=(hI dd).2 hin2
   rw [if_neg (by simpa using hin2)] at hJI
   (repeat' (first | (refine qK ?_;simp only [ak,reduceIte]) | (refine qC ?_;simp [hMs,hg]) | (refine e_go ?_;simp [hMs,hg];(refine hJ _ _ ?_;clear hJ J;simp only [ak,reduceIte]))))
   exact hJI _ _ (by simp [fi]) (by simp [fn]) ⟨by simp [f2],by simp [f21],hMs,hkp,hsn,tt,by simp [f7],hO,lt,ut⟩
  ·have hg:=(hI dd).1 hin2
   rw [if_pos (by simpa using hin2)] at hJI
   (repeat' (first | (refine qC ?_;simp [hMs,hg,f7,hO,e1,e2]) | ((first | (refine w_e [] ?_;intro J hJ;simp only []) | (refine e_go ?_));simp [hMs,hg,f7,hO,e1,e2];(repeat refine ca ?_);(refine hJ _ _ ?_;clear hJ J;simp only [ak,reduceIte]))))
   refine hJI _ _ (by simp [fi]) (by simp [fn]) ⟨by simp [f2],by simp [f21],by simp [show ¬ q=s.next by omega,show ¬ q=s.next+1 by omega,show ¬ q=tt by omega,hMs],?_,by simp;omega,s.next+1,by simp,by simp,by omega,by simp⟩
   (repeat (first | exact hkp | (refine Keeps.trans ?_ (Keeps.new _ _)) | (refine Keeps.set ?_ (by omega) _)))
 ·rintro fr s ⟨f2,f21,hMs,hkp,hsn,tt,f7,hO,lt,ut⟩
  rw [List.take_length,← hG0] at f7
  (repeat' (first | refine qS ?_ | (refine qR ?_;simp only [ak,reduceIte];simp [f7]) | (refine w_e [] ?_;intro J hJ;simp only [];simp [f7];(refine hJ _ _ ?_;clear hJ J;simp only [ak,reduceIte]))))
  exact ⟨by simp [z0,z0L_map],hkp⟩
theorem dTurn (m:Mp) (ho:MapOk m) (v:Int) (I:List Int) (q:Nat) (MM:List (List Int×LV)) (st:St) (hv:m.g.vs.length≤100) (he:m.g.es.length≤100) (hq:q < st.next) (hM:st.H q=.map false [.u32] MM) (hI:InM MM I):
 ACalls Tryz.prog 48 [.ag (mpL m),u v,.mp q] st fun r st'=>r=.sl 0 (tnW m v I).length (us (tnW m v I))∧st'=st:=
 qT (Q:=fun r=>r=.sl 0 (tnW m v I).length (us (tnW m v I))) (dTurnK m ho v I q MM st hv he hq hM hI) fun r h=>by subst h;exact ⟨.inl rfl,belL_us _ _⟩
theorem foldl_takeE {β:Type} (f:β→Ed→β) (b:β) (l:List Ed) (k:Nat) (hk:k < l.length):(l.take (k+1)).foldl f b=f ((l.take k).foldl f b) (l.getD k ed0):=by
 rw [List.take_succ_eq_append_getElem hk,List.foldl_append,getE_lt _ _ hk];rfl
theorem dSame' (a b:List Int) (t t':Nat) (st:St) (ha:small a) (hb:small b):
 ACalls Tryz.prog 71 [.sl t a.length (us a),.sl t' b.length (us b)] st fun r st'=>r=bb (decide (nrm a=nrm b))∧st'=st:=
 qT (Q:=fun r=>r=bb (decide (nrm a=nrm b))) (Same a b t t' st ha hb) fun r h=>by subst h;trivial
theorem Kept_1K (a b:Mp) (ha:MapOk a) (hb:MapOk b) (v:Int) (I:List Int) (qa qm qb q:Nat) (MM:List (List Int×LV)) (st:St) (hva:a.g.vs.length≤100) (hea:a.g.es.length≤100) (hvb:b.g.vs.length≤100) (heb:b.g.es.length≤100)
 (h1:st.H qa=.box 28 3 (mpL a)) (h2:st.H qm=.box 65 1 [.mp q]) (h3:st.H qb=.box 28 3 (mpL b)) (h4:st.H q=.map false [.u32] MM) (hq:q < st.next) (hI:InM MM I):
 ACalls Tryz.prog 70 [u v,.pt qa 0,.pt qm 0,.pt qb 0] st fun r st'=>r=bb (sameW a b I v)∧Keeps st st':=by
 have s1:small (tnW a v I):=by have:=tnW_len ha v I;unfold small;omega
 have s2:small (tnW b v I):=by have:=tnW_len hb v I;unfold small;omega
 refine qO tabOk Tryz.func70 rfl rfl Tryz.ntmps70 (rs:=[.tmp 5]) rfl (by simp) ?_
 (repeat' (first | refine qS ?_ | (refine w_e [] ?_;intro J hJ;simp only [];simp [];(refine hJ _ _ ?_;clear hJ J;simp only [ak,reduceIte]))))
 (refine w_s [] [qa,qm,qb] [(0,true),(1,true),(2,true),(4,true),(5,true),(6,true),(3,true),(7,true),(8,true),(9,true)] ?_;intro J hJ;simp [h1,h2,h3])
 refine qD (dTurn a ha v I q MM _ hva hea hq h4 hI) (by simp) ?_;rintro r s1 ⟨rfl,h1'⟩
 rw [h1'];clear h1' s1
 refine ⟨fun h=>by first | (cases h;done) | simp [h1,h2,h3],?_⟩
 (refine d_go ?_;simp [h1,h2,h3])
 refine qD (dTurn b hb v I q MM _ hvb heb hq h4 hI) (by simp) ?_;rintro r s1 ⟨rfl,h1'⟩
 rw [h1'];clear h1' s1
 refine ⟨fun h=>by first | (cases h;done) | simp [h1,h2,h3],?_⟩
 (refine d_go ?_;simp [h1,h2,h3])
 refine qD (dSame' _ _ 0 0 _ s1 s2) (by simp) ?_;rintro r s1 ⟨rfl,h1'⟩
 rw [h1',nrm_sameW];clear h1' s1
 refine ⟨fun h=>by first | (cases h;done) | simp [h1,h2,h3],?_⟩
 (refine d_go ?_;simp [];(refine hJ _ _ ?_;clear hJ J;simp only [ak,reduceIte]))
 (repeat' (refine qR ?_;simp only [ak,reduceIte];simp []))
 exact Keeps.refl _
theorem Kept_1 (a b:Mp) (ha:MapOk a) (hb:MapOk b) (v:Int) (I:List Int) (qa qm qb q:Nat) (MM:List (List Int×LV)) (st:St) (hva:a.g.vs.length≤100) (hea:a.g.es.length≤100) (hvb:b.g.vs.length≤100) (heb:b.g.es.length≤100)
 (h1:st.H qa=.box 28 3 (mpL a)) (h2:st.H qm=.box 65 1 [.mp q]) (h3:st.H qb=.box 28 3 (mpL b)) (h4:st.H q=.map false [.u32] MM) (hq:q < st.next) (hI:InM MM I):
 ACalls Tryz.prog 70 [u v,.pt qa 0,.pt qm 0,.pt qb 0] st fun r st'=>r=bb (sameW a b I v)∧st'=st:=
 qT (Q:=fun r=>r=bb (sameW a b I v)) (Kept_1K a b ha hb v I qa qm qb q MM st hva hea hvb heb h1 h2 h3 h4 hq hI) fun r h=>by subst h;trivial
theorem IndexE (l:List Ed) (t:Nat) (x:Ed) (st:St) (hl:l.length≤1000):
 ACalls Tryz.prog 110 [.sl t l.length (eds l),.ag (edL x)] st fun r st'=>(∃ k:Int,r=i k∧(0≤k↔x∈l))∧Keeps st st':=by
 obtain ⟨d,p,q⟩:=x
 refine qO tabOk Tryz.func110 rfl rfl Tryz.ntmps110 (rs:=[.tmp 4]) rfl (by simp) ?_
 (repeat' (first | refine qS ?_ | refine qB ?_ | (refine w_e [] ?_;intro J hJ;simp only [];simp [];(refine hJ _ _ ?_;clear hJ J;simp only [ak,reduceIte]))))
 refine awp_range 8 7 9 18 (l.length) (fun j fr st2=>fr 0=.sl t l.length (eds l)∧fr 3=.pt st.next 0∧st2.H st.next=.box 31 3 [u d,u p,u q]∧Keeps st st2∧∀ i,i < j→l.getD i ed0≠⟨d,p,q⟩) ?_ ?_ ?_
 ·exact ⟨by simp,by simp,by simp,Keeps.new _ _,fun i hi=>by omega⟩
 ·rintro j fr s hlt ⟨f0,f3,hG,hkp,hno⟩ fi fn JO hJO
  have hd:=eds_drop l j hlt
  have hel:=eds_length l
  have hj3:j * 3 < l.length * 3:=by omega
  have hin:l.getD j ed0∈l:=by rw [getE_lt _ _ hlt];exact List.getElem_mem hlt
  have hnx:l.getD j ed0≠⟨d,p,q⟩→∀ i,i < j+1→l.getD i ed0≠⟨d,p,q⟩:=fun h i hi=>by
   by_cases e:i=j
   ·subst e;exact h
   ·exact hno i (by omega)
  generalize l.getD j ed0=y at *
  obtain ⟨d',p',q'⟩:=y
  simp only at hd
  have hj0:(0:Int)≤(j:Int):=by omega
  by_cases he:d=d'∧p=p'∧q=q'
  ·obtain ⟨rfl,rfl,rfl⟩:=he
   (repeat' (first | refine qS ?_ | (refine qR ?_;simp only [ak,reduceIte];simp [f0,f3,fi,fn,hd,hlt,hel,hj3,hG]) | (refine qC ?_;simp [f0,f3,fi,fn,hd,hlt,hel,hj3,hG]) | ((first | (refine w_e [] ?_;intro J hJ;simp only []) | (refine w_q ?_;intro J hJ));simp [f0,f3,fi,fn,hd,hlt,hel,hj3,hG];(refine hJ _ _ ?_;clear hJ J;simp only [ak,reduceIte]))))
   exact ⟨hin,hkp⟩
  ·have hn:=hnx fun e=>he (by simp at e;exact ⟨e.1.symm,e.2.1.symm,e.2.2.symm⟩)
   by_cases c1:d=d'
   ·subst c1
    by_cases c2:p=p'
    ·subst c2
     have c3:¬ q=q':=fun e=>he ⟨rfl,rfl,e⟩
     (repeat' (first | refine qS ?_ | (refine qK ?_;simp only [ak,reduceIte]) | (refine qC ?_;simp [f0,f3,fi,fn,hd,hlt,hel,hj3,hG,c3]) | ((first | (refine w_e [] ?_;intro J hJ;simp only []) | (refine w_q ?_;intro J hJ));simp [f0,f3,fi,fn,hd,hlt,hel,hj3,hG,c3];(refine hJ _ _ ?_;clear hJ J;simp only [ak,reduceIte]))))
     exact hJO _ _ (by simp [fi]) (by simp [fn]) ⟨by simp [f0],by simp [f3],hG,hkp,hn⟩
    ·(repeat' (first | refine qS ?_ | (refine qK ?_;simp only [ak,reduceIte]) | (refine qC ?_;simp [f0,f3,fi,fn,hd,hlt,hel,hj3,hG,c2]) | ((first | (refine w_e [] ?_;intro J hJ;simp only []) | (refine w_q ?_;intro J hJ));simp [f0,f3,fi,fn,hd,hlt,hel,hj3,hG,c2];(refine hJ _ _ ?_;clear hJ J;simp only [ak,reduceIte]))))
     exact hJO _ _ (by simp [fi]) (by simp [fn]) ⟨by simp [f0],by simp [f3],hG,hkp,hn⟩
   ·(repeat' (first | refine qS ?_ | (refine qK ?_;simp only [ak,reduceIte]) | (refine qC ?_;simp [f0,f3,fi,fn,hd,hlt,hel,hj3,hG,c1]) | ((first | (refine w_e [] ?_;intro J hJ;simp only []) | (refine w_q ?_;intro J hJ));simp [f0,f3,fi,fn,hd,hlt,hel,hj3,hG,c1];(refine hJ _ _ ?_;clear hJ J;simp only [ak,reduceIte]))))
    exact hJO _ _ (by simp [fi]) (by simp [fn]) ⟨by simp [f0],by simp [f3],hG,hkp,hn⟩
 ·rintro fr s ⟨f0,f3,hG,hkp,hno⟩
  (repeat' (first | refine qS ?_ | (refine qR ?_;simp only [ak,reduceIte];simp []) | (refine w_e [] ?_;intro J hJ;simp only [];simp [];(refine hJ _ _ ?_;clear hJ J;simp only [ak,reduceIte]))))
  refine ⟨fun h=>?_,hkp⟩
  obtain ⟨k,hk,e⟩:=List.mem_iff_getElem.1 h
  exact absurd (by rw [getE_lt _ _ hk,e]) (hno k hk)
theorem ContainsE (l:List Ed) (t:Nat) (x:Ed) (st:St) (hl:l.length≤1000):
 ACalls Tryz.prog 72 [.sl t l.length (eds l),.ag (edL x)] st fun r st'=>r=bb (decide (x∈l))∧st'=st:=by
 refine qT (Q:=fun r=>r=bb (decide (x∈l))) ?_ fun r h=>by subst h;trivial
 have hi:=fun st=>qT (Q:=fun r=>∃ k:Int,r=i k∧(0≤k↔x∈l)) (IndexE l t x st hl) fun r h=>by obtain ⟨k,rfl,_⟩:=h;trivial
 obtain ⟨d,p,q⟩:=x
 have hdd:∀ k:Int,(0≤k↔(⟨d,p,q⟩:Ed)∈l)→decide (0≤k)=decide ((⟨d,p,q⟩:Ed)∈l):=fun k h=>decide_eq_decide.2 h
 generalize decide ((⟨d,p,q⟩:Ed)∈l)=res at *
 refine qO tabOk Tryz.func72 rfl rfl Tryz.ntmps72 (rs:=[.tmp 4]) rfl (by simp) ?_
 (repeat' (first | refine qS ?_ | (refine w_e [] ?_;intro J hJ;simp only [];simp [];(try (refine hJ _ _ ?_;clear hJ J;simp only [ak,reduceIte])))))
 refine qE (hi _) (by simp) ?_;rintro r s1 ⟨⟨k,rfl,hk⟩,h1⟩
 rw [h1];clear h1 s1
 have:=hdd k hk
 subst this
 (repeat' (first | (refine qR ?_;simp only [ak,reduceIte];simp []) | (refine e_go ?_;simp [];(refine hJ _ _ ?_;clear hJ J;simp only [ak,reduceIte]))))
 exact Keeps.new _ _
theorem InM.add {MM:List (List Int×LV)} {I:List Int} (h:InM MM I) (a:Int):InM (mset MM [a] (i 1)) (I++[a]):=fun x=>by
 rw [mget_mset]
 by_cases e:x=a
 ·subst e
  rw [if_pos rfl]
  exact ⟨fun _=>rfl,fun h=>absurd (by simp) h⟩
 ·rw [if_neg (by simpa using e)]
  refine ⟨fun hx=>(h x).1 ?_,fun hx=>(h x).2 fun h2=>hx (by simp [h2])⟩
  simp only [List.mem_append,List.mem_singleton] at hx
  exact hx.resolve_right e
theorem mdel_mset {es:List (List Int×LV)} {a:List Int} (v:LV) (h:mget es a=none):mdel (mset es a v) a=es:=by
 induction es with
 | nil=>simp [mset,mdel]
 | cons p es ih=>
   obtain ⟨k,w⟩:=p
   unfold mget at h
   by_cases e:a=k
   ·subst e;simp at h
   ·have e1:(a==k)=false:=by simpa using e
    rw [e1] at h
    unfold mset
    rw [e1]
    simp only [Bool.false_eq_true,if_false] at h ⊢
    unfold mdel
    rw [e1]
    simp only [Bool.false_eq_true,if_false]
    rw [ih h]
theorem keep1_in (a b:Mp) (l:List Ed):∀ K y,y∈l.foldl (keep1 a b) K→y∈K∨∃ x∈l,x.id=y:=by
 induction l with
 | nil=>intro K y h;exact .inl h
 | cons x l ih=>
   intro K y h
   rcases ih _ _ h with h1 | ⟨z,hz,e⟩
   ·unfold keep1 at h1
    split at h1
    ·simp only [List.mem_append,List.mem_singleton] at h1
     rcases h1 with h1 | h1
     ·exact .inl h1
     ·exact .inr ⟨x,by simp,h1.symm⟩
    ·exact .inl h1
   ·exact .inr ⟨z,by simp [hz],e⟩
theorem keep1_new {a b:Mp} (ha:MapOk a) {j:Nat} (hj:j < a.g.es.length):(a.g.es.getD j ed0).id∉(a.g.es.take j).foldl (keep1 a b) []:=fun h=>by
 rcases keep1_in a b _ _ _ h with h1 | ⟨z,hz,e⟩
 ·simp at h1
 ·obtain ⟨k,hk,rfl⟩:=List.mem_iff_getElem.1 hz
  have hk2:k < j:=by rw [List.length_take] at hk;omega
  rw [List.getElem_take] at e
  have:=List.pairwise_iff_getElem.1 ha.g.ids k j (by omega) hj hk2
  rw [getE_lt _ _ hj] at e
  omega
set_option maxHeartbeats 4000000 in
theorem KeptDK (a b:Mp) (ha:MapOk a) (hb:MapOk b) (st:St) (hva:a.g.vs.length≤100) (hea:a.g.es.length≤100) (hvb:b.g.vs.length≤100) (heb:b.g.es.length≤100):
 ACalls Tryz.prog 43 [.ag (mpL a),.ag (mpL b)] st fun r st'=>r=.sl 0 (keptW a b).length (us (keptW a b))∧Keeps st st':=by
 obtain ⟨G0,hG0⟩:∃ G0,G0=keptW a b:=⟨_,rfl⟩
 rw [← hG0]
 refine acalls_z0 ?_
 refine qO tabOk Tryz.func43 rfl rfl Tryz.ntmps43 (rs:=[.tmp 4]) rfl (by simp) ?_
 refine awp_posG fun hpos=>?_
 (repeat' (first | refine qS ?_ | refine qB ?_ | (refine w_e [] ?_;intro J hJ;simp only [];simp [];(refine hJ _ _ ?_;clear hJ J;simp only [ak,reduceIte]))))
 refine awp_own 7 29 1 (by simp) ?_
 refine awp_range 16 15 17 47 (a.g.es.length) (fun j fr st2=>fr 2=.pt st.next 0∧fr 3=.pt (st.next+1) 0∧fr 5=.pt (st.next+3) 0∧fr 6=.fn (.func 70) [.pt st.next 0,.pt (st.next+3) 0,.pt (st.next+1) 0]∧fr 14=.sl 0 a.g.es.length (eds a.g.es)∧st2.H st.next=.box 28 3 (mpL a)∧st2.H (st.next+1)=.box 28 3 (mpL b)∧st2.H (st.next+3)=.box 65 1 [.mp (st.next+2)]∧Keeps st st2∧∃ MM K tt,K=(a.g.es.take j).foldl (keep1 a b) []∧K.length≤j∧st2.H (st.next+2)=.map false [.u32] MM∧InM MM K∧fr 7=.sl tt K.length (us K)∧st2.H tt=.own 29 1 K.length∧st.next+3 < tt∧tt < st2.next) ?_ ?_ ?_
 ·refine ⟨by simp,by simp,by simp,by simp,by simp,by simp,by simp,by simp,?_,[],[],st.next+4,by simp,by simp,by simp,fun x=>⟨fun h=>by simp at h,fun _=>rfl⟩,by simp,by simp,by omega,by simp⟩
  (repeat (first | exact Keeps.refl _ | (refine Keeps.trans ?_ (Keeps.new _ _)) | (refine Keeps.set ?_ (by first | omega | (simp;done) | (simp;omega)) _)))
 ·rintro j fr s hlt ⟨f2,f3,f5,f6,f14,hG,hG2,hB,hkp,MM,K,tt,hK,hKl,hM,hI,f7,hO,lt,ut⟩ fi fn JO hJO
  have hd:=eds_drop a.g.es j hlt
  have hel:=eds_length a.g.es
  have hj3:j * 3 < a.g.es.length * 3:=by omega
  have hst:=foldl_takeE (keep1 a b) [] a.g.es j hlt
  have hnew:=keep1_new (b:=b) ha hlt
  rw [← hK] at hst hnew
  simp only [hst] at hJO
  clear hst hK
  generalize a.g.es.getD j ed0=x at *
  obtain ⟨d,p,q⟩:=x
  simp only at hd hnew
  have e1:¬ st.next=s.next:=by omega
  have e2:¬ st.next+1=s.next:=by omega
  have e3:¬ st.next+2=s.next:=by omega
  have e4:¬ st.next+3=s.next:=by omega
  have e5:¬ tt=s.next:=by omega
  have hmn:=(hI d).2 hnew
  have hI2:=hI.add d
  have hdel:=mdel_mset (i 1) hmn
  (repeat' (first | refine qS ?_ | (refine w_e [] ?_;intro J hJ;simp only [];simp [f14,fi,fn,hd,hlt,hel,hj3,f3,hG2,e2];(try (refine hJ _ _ ?_;clear hJ J;simp only [ak,reduceIte])))))
  refine qE (ContainsE b.g.es 0 ⟨d,p,q⟩ _ (by omega)) (by simp) ?_;rintro r s1 ⟨rfl,h1⟩
  rw [h1];clear h1 s1
  by_cases hin:(⟨d,p,q⟩:Ed)∈b.g.es
  rotate_left
  ·have hkeep:keep1 a b K ⟨d,p,q⟩=K:=by unfold keep1;rw [if_neg fun h=>hin h.1]
   rw [hkeep] at hJO
   rw [decide_eq_false hin]
   (repeat' (first | (refine qX ?_;simp only [ak,reduceIte]) | (refine qC ?_;simp []) | (refine e_go ?_;simp [];(refine hJ _ _ ?_;clear hJ J;simp only [ak,reduceIte]))))
   exact hJO _ _ (by simp [fi]) (by simp [fn]) ⟨by simp [f2],by simp [f3],by simp [f5],by simp [f6],by simp [f14],by simp [e1,hG],by simp [e2,hG2],by simp [e4,hB],hkp.trans (Keeps.new _ _),MM,K,tt,rfl,by omega,by simp [e3,hM],hI,by simp [f7],by simp [e5,hO],lt,by simp;omega⟩
  ·rw [decide_eq_true hin]
   have e6:¬ s.next=st.next+2:=by omega
   (repeat' (first | refine qS ?_ | (refine qK ?_;simp only [ak,reduceIte]) | (refine qC ?_;simp [f5,f6,hB,e4,hM,e3,e6]) | ((first | (refine w_e [] ?_;intro J hJ;simp only []) | (refine e_go ?_));simp [f5,f6,hB,e4,hM,e3,e6];(try (refine hJ _ _ ?_;clear hJ J;simp only [ak,reduceIte])))))
   refine qE (Kept_1 a b ha hb p (K++[d]) st.next (st.next+3) (st.next+1) (st.next+2) _ _ hva hea hvb heb (by simp [e1,hG]) (by simp [e4,hB]) (by simp [e2,hG2]) (by simp) (by simp;omega) hI2) (by simp) ?_;rintro r s1 ⟨rfl,h1⟩
   rw [h1];clear h1 s1
   cases hs1:sameW a b (K++[d]) p with
   | false=>
     have hkeep:keep1 a b K ⟨d,p,q⟩=K:=by unfold keep1;rw [if_neg fun h=>by rw [hs1] at h;exact absurd h.2.1 (by simp)]
     rw [hkeep] at hJO
     (repeat' (first | (refine qC ?_;simp [f5,hB,e4,e6]) | ((first | (refine w_e [] ?_;intro J hJ;simp only []) | (refine e_go ?_));simp [f5,hB,e4,e6];(refine hJ _ _ ?_;clear hJ J;simp only [ak,reduceIte]))))
     exact hJO _ _ (by simp [fi]) (by simp [fn]) ⟨by simp [f2],by simp [f3],by simp [f5],by simp [f6],by simp [f14],by simp [e1,hG],by simp [e2,hG2],by simp [e4,hB],((hkp.trans (Keeps.new _ _)).set (by omega) _).set (by omega) _,MM,K,tt,rfl,by omega,by simp [hdel],hI,by simp [f7],by simp [e5,show ¬ tt=st.next+2 by omega,hO],lt,by simp;omega⟩
   | true=>
     (repeat' (refine e_go ?_;simp [f6,e6]))
     refine qE (Kept_1 a b ha hb q (K++[d]) st.next (st.next+3) (st.next+1) (st.next+2) _ _ hva hea hvb heb (by simp [e1,hG]) (by simp [e4,hB]) (by simp [e2,hG2]) (by simp) (by simp;omega) hI2) (by simp) ?_;rintro r s1 ⟨rfl,h1⟩
     rw [h1];clear h1 s1
     cases hs2:sameW a b (K++[d]) q with
     | false=>
       have hkeep:keep1 a b K ⟨d,p,q⟩=K:=by unfold keep1;rw [if_neg fun h=>by rw [hs2] at h;exact absurd h.2.2 (by simp)]
       rw [hkeep] at hJO
       (repeat' (first | (refine qC ?_;simp [f5,hB,e4,e6]) | ((first | (refine w_e [] ?_;intro J hJ;simp only []) | (refine e_go ?_));simp [f5,hB,e4,e6];(refine hJ _ _ ?_;clear hJ J;simp only [ak,reduceIte]))))
       exact hJO _ _ (by simp [fi]) (by simp [fn]) ⟨by simp [f2],by simp [f3],by simp [f5],by simp [f6],by simp [f14],by simp [e1,hG],by simp [e2,hG2],by simp [e4,hB],((hkp.trans (Keeps.new _ _)).set (by omega) _).set (by omega) _,MM,K,tt,rfl,by omega,by simp [hdel],hI,by simp [f7],by simp [e5,show ¬ tt=st.next+2 by omega,hO],lt,by simp;omega⟩
     | true=>
       have hkeep:keep1 a b K ⟨d,p,q⟩=K++[d]:=by unfold keep1;rw [if_pos ⟨hin,hs1,hs2⟩]
       rw [hkeep] at hJO
       have e7:¬ tt=0:=by omega
       have e8:¬ tt=st.next+2:=by omega
       (repeat' (first | (refine qC ?_;simp [f7,hO,e5,e6,e7,e8,show ¬ tt=s.next+1 by omega]) | ((first | (refine w_e [] ?_;intro J hJ;simp only []) | (refine e_go ?_));simp [f7,hO,e5,e6,e7,e8,show ¬ tt=s.next+1 by omega];(repeat refine ca ?_);(refine hJ _ _ ?_;clear hJ J;simp only [ak,reduceIte]))))
       refine hJO _ _ (by simp [fi]) (by simp [fn]) ⟨by simp [f2],by simp [f3],by simp [f5],by simp [f6],by simp [f14],by simp [e1,show ¬ st.next=s.next+1 by omega,show ¬ st.next=s.next+1+1 by omega,show ¬ st.next=tt by omega,hG],by simp [e1,e2,show ¬ st.next=s.next+1 by omega,show ¬ st.next+1=tt by omega,hG2],by simp [e3,e4,show ¬ st.next+2=s.next+1 by omega,show ¬ st.next+1=s.next by omega,show ¬ st.next+3=tt by omega,hB],?_,mset MM [d] (i 1),K++[d],s.next+1+1,rfl,by simp;omega,by simp [e3,show ¬ st.next+1=s.next by omega,show ¬ st.next=s.next by omega,show ¬ st.next+2=tt by omega],hI2,by simp,by simp,by omega,by simp⟩
       (repeat (first | exact hkp | (refine Keeps.trans ?_ (Keeps.new _ _)) | (refine Keeps.set ?_ (by omega) _)))
 ·rintro fr s ⟨f2,f3,f5,f6,f14,hG,hG2,hB,hkp,MM,K,tt,hK,hKl,hM,hI,f7,hO,lt,ut⟩
  rw [List.take_length] at hK
  obtain rfl:K=G0:=hK.trans hG0.symm
  (repeat' (first | refine qS ?_ | (refine qR ?_;simp only [ak,reduceIte];simp [f7]) | (refine w_e [] ?_;intro J hJ;simp only [];simp [f7];(refine hJ _ _ ?_;clear hJ J;simp only [ak,reduceIte]))))
  exact ⟨by simp [z0,z0L_map],hkp⟩
theorem KeptD (a b:Mp) (ha:MapOk a) (hb:MapOk b) (st:St) (hva:a.g.vs.length≤100) (hea:a.g.es.length≤100) (hvb:b.g.vs.length≤100) (heb:b.g.es.length≤100):
 ACalls Tryz.prog 43 [.ag (mpL a),.ag (mpL b)] st fun r st'=>r=.sl 0 (keptW a b).length (us (keptW a b))∧st'=st:=
 qT (Q:=fun r=>r=.sl 0 (keptW a b).length (us (keptW a b))) (KeptDK a b ha hb st hva hea hvb heb) fun r h=>by subst h;exact ⟨.inl rfl,belL_us _ _⟩
end Go.Proofs.YtglkgindpjdoiaaGreat.Aw
namespace Go.Proofs.YtglkgindpjdoiaaGreat.Aw
open Go Go.RowKit
set_option linter.unusedSimpArgs false
set_option linter.unusedVariables false
def stp (k id a b pa pb:Int):LV:=.ag [i k,u id,u a,u b,u pa,u pb]
theorem Link (x:Ed) (pa pb:Int) (st:St):ACalls Tryz.prog 11 [.ag (edL x),u pa,u pb] st fun r st'=>r=stp 3 x.id x.a x.b pa pb∧Keeps st st':=by
 obtain ⟨xi,xa,xb⟩:=x
 refine qO tabOk Tryz.func11 rfl rfl Tryz.ntmps11 (rs:=[.cell 6 38]) rfl (by simp) ?_
 (repeat' (first | refine qS ?_ | (refine qR ?_;simp only [ak,reduceIte];simp []) | (refine w_e [] ?_;intro J hJ;simp only [];simp [];(refine hJ _ _ ?_;clear hJ J;simp only [ak,reduceIte]))))
 first | exact ⟨rfl,(Keeps.new _ _).trans (Keeps.new _ _)⟩ | exact (Keeps.new _ _).trans (Keeps.new _ _) | exact ⟨rfl,((Keeps.new _ _).trans (Keeps.new _ _)).set (by simp) _⟩
theorem NoLink (n:Int) (st:St):ACalls Tryz.prog 44 [u n] st fun r st'=>r=stp 4 n 0 0 0 0∧Keeps st st':=by
 refine qO tabOk Tryz.func44 rfl rfl Tryz.ntmps44 (rs:=[.cell 2 38]) rfl (by simp) ?_
 (repeat' (first | refine qS ?_ | (refine qR ?_;simp only [ak,reduceIte];simp []) | (refine w_e [] ?_;intro J hJ;simp only [];simp [];(refine hJ _ _ ?_;clear hJ J;simp only [ak,reduceIte]))))
 first | exact ⟨rfl,Keeps.new _ _⟩ | exact Keeps.new _ _
theorem Vertex (n:Int) (st:St):ACalls Tryz.prog 24 [u n] st fun r st'=>r=stp 1 n 0 0 0 0∧Keeps st st':=by
 refine qO tabOk Tryz.func24 rfl rfl Tryz.ntmps24 (rs:=[.cell 2 38]) rfl (by simp) ?_
 (repeat' (first | refine qS ?_ | (refine qR ?_;simp only [ak,reduceIte];simp []) | (refine w_e [] ?_;intro J hJ;simp only [];simp [];(refine hJ _ _ ?_;clear hJ J;simp only [ak,reduceIte]))))
 first | exact ⟨rfl,Keeps.new _ _⟩ | exact Keeps.new _ _
theorem NoVertex (n:Int) (st:St):ACalls Tryz.prog 46 [u n] st fun r st'=>r=stp 2 n 0 0 0 0∧Keeps st st':=by
 refine qO tabOk Tryz.func46 rfl rfl Tryz.ntmps46 (rs:=[.cell 2 38]) rfl (by simp) ?_
 (repeat' (first | refine qS ?_ | (refine qR ?_;simp only [ak,reduceIte];simp []) | (refine w_e [] ?_;intro J hJ;simp only [];simp [];(refine hJ _ _ ?_;clear hJ J;simp only [ak,reduceIte]))))
 first | exact ⟨rfl,Keeps.new _ _⟩ | exact Keeps.new _ _
end Go.Proofs.YtglkgindpjdoiaaGreat.Aw
namespace Go.Proofs.YtglkgindpjdoiaaGreat.Aw
open Go Go.RowKit Go.Proofs.YtglkgindpjdoiaaGreat.Pl
set_option linter.unusedSimpArgs false
set_option linter.unusedVariables false
def sp0:Sp:=⟨0,0,0,0,0,0⟩
def spL (s:Sp):List LV:=[i s.k,u s.id,u s.a,u s.b,u s.pa,u s.pb]
def sps (l:List Sp):List LV:=l.flatMap spL
theorem sps_length (l:List Sp):(sps l).length=l.length * 6:=by
 induction l with
 | nil=>rfl
 | cons s l ih=>simp only [sps,List.flatMap_cons,List.length_append,List.length_cons] at ih ⊢;rw [ih];simp [spL];omega
theorem sps_drop (l:List Sp) (k:Nat) (hk:k < l.length):(sps l).drop (k * 6)=i (l.getD k sp0).k::u (l.getD k sp0).id::u (l.getD k sp0).a::u (l.getD k sp0).b::u (l.getD k sp0).pa::u (l.getD k sp0).pb::sps (l.drop (k+1)):=by
 induction l generalizing k with
 | nil=>simp at hk
 | cons s l ih=>
   cases k with
   | zero=>rfl
   | succ k=>
     have:=ih k (by simpa using hk)
     rw [show (k+1) * 6=k * 6+6 by omega]
     simp only [sps,List.flatMap_cons] at this ⊢
     show (spL s++l.flatMap spL).drop (k * 6+6)=_
     rw [show k * 6+6=(spL s).length+k * 6 by simp [spL];omega,← List.drop_drop,List.drop_left,this]
     simp
def numI (n:Int):Prop:=1≤n∧n≤1048576
instance (n:Int):Decidable (numI n):=by unfold numI;infer_instance
theorem numberS (n:Int) (st:St):ACalls Tryz.prog 94 [u n] st fun r st'=>r=bb (decide (numI n))∧st'=st:=by
 refine qO tabOk Tryz.func94 rfl rfl Tryz.ntmps94 (rs:=[.tmp 2]) rfl (by simp) ?_
 by_cases h1:1≤n
 ·by_cases h2:n≤1048576
  ·have h:numI n:=⟨h1,h2⟩
   (repeat' (first | refine qS ?_ | (refine qR ?_;simp only [ak,reduceIte];simp [h1,h2,h]) | (refine w_e [] ?_;intro J hJ;simp only [];simp [h1,h2,h];(refine hJ _ _ ?_;clear hJ J;simp only [ak,reduceIte]))))
  ·have h:¬ numI n:=fun h=>h2 h.2
   (repeat' (first | refine qS ?_ | (refine qR ?_;simp only [ak,reduceIte];simp [h1,h2,h]) | (refine w_e [] ?_;intro J hJ;simp only [];simp [h1,h2,h];(refine hJ _ _ ?_;clear hJ J;simp only [ak,reduceIte]))))
 ·have h:¬ numI n:=fun h=>h1 h.1
  (repeat' (first | refine qS ?_ | (refine qR ?_;simp only [ak,reduceIte];simp [h1,h]) | (refine w_e [] ?_;intro J hJ;simp only [];simp [h1,h];(refine hJ _ _ ?_;clear hJ J;simp only [ak,reduceIte]))))
def formW (s:Sp):Int:=
 if s.k < 1∨4 < s.k then 11
 else if s.k≠3∧(s.a≠0∨s.b≠0∨s.pa≠0∨s.pb≠0) then 4
 else if ¬ numI s.id∨(s.k=3∧(¬ numI s.a∨¬ numI s.b)) then 2 else 0
set_option maxHeartbeats 2000000 in
theorem formK (s:Sp) (st:St):ACalls Tryz.prog 61 [.ag (spL s)] st fun r st'=>r=i (formW s)∧Keeps st st':=by
 obtain ⟨y,hy⟩:∃ y,y=formW s:=⟨_,rfl⟩
 rw [← hy]
 unfold formW at hy
 obtain ⟨k,id,a,b,pa,pb⟩:=s
 simp only at hy
 simp only [spL]
 refine qO tabOk Tryz.func61 rfl rfl Tryz.ntmps61 (rs:=[.tmp 2]) rfl (by simp) ?_
 by_cases h1:k < 1∨4 < k
 ·rw [if_pos h1] at hy
  subst hy
  by_cases h2:k < 1
  ·(repeat' (first | refine qS ?_ | (refine qR ?_;simp only [ak,reduceIte];simp [h2]) | (refine qC ?_;simp [h2]) | (refine w_e [] ?_;intro J hJ;simp only [];simp [h2];(refine hJ _ _ ?_;clear hJ J;simp only [ak,reduceIte]))))
   exact Keeps.new _ _
  ·have h3:4 < k:=by omega
   (repeat' (first | refine qS ?_ | (refine qR ?_;simp only [ak,reduceIte];simp [h2,h3]) | (refine qC ?_;simp [h2,h3]) | (refine w_e [] ?_;intro J hJ;simp only [];simp [h2,h3];(refine hJ _ _ ?_;clear hJ J;simp only [ak,reduceIte]))))
   exact Keeps.new _ _
 rw [if_neg h1] at hy
 have h2:¬ k < 1:=by omega
 have h3:¬ 4 < k:=by omega
 clear h1
 by_cases hk:k=3
 ·subst hk
  rw [if_neg (by simp)] at hy
  (repeat' (first | refine qS ?_ | (refine qK ?_;simp only [ak,reduceIte]) | (refine qC ?_;simp [h2,h3]) | (refine w_e [] ?_;intro J hJ;simp only [];simp [h2,h3];(try (refine hJ _ _ ?_;clear hJ J;simp only [ak,reduceIte])))))
  refine qE (numberS id _) (by simp) ?_;rintro r s1 ⟨rfl,h1⟩
  rw [h1];clear h1 s1
  by_cases hi:numI id
  rotate_left
  ·rw [if_pos (.inl hi)] at hy
   subst hy
   (repeat' (first | refine qS ?_ | (refine qR ?_;simp only [ak,reduceIte];simp [hi]) | (refine qC ?_;simp [hi]) | ((first | (refine w_e [] ?_;intro J hJ;simp only []) | (refine e_go ?_));simp [hi];(refine hJ _ _ ?_;clear hJ J;simp only [ak,reduceIte]))))
   exact Keeps.new _ _
  (repeat' (refine e_go ?_;simp [hi]))
  refine qE (numberS a _) (by simp) ?_;rintro r s1 ⟨rfl,h1⟩
  rw [h1];clear h1 s1
  by_cases ha:numI a
  rotate_left
  ·rw [if_pos (.inr ⟨rfl,.inl ha⟩)] at hy
   subst hy
   (repeat' (first | refine qS ?_ | (refine qR ?_;simp only [ak,reduceIte];simp [ha]) | (refine qC ?_;simp [ha]) | ((first | (refine w_e [] ?_;intro J hJ;simp only []) | (refine e_go ?_));simp [ha];(refine hJ _ _ ?_;clear hJ J;simp only [ak,reduceIte]))))
   exact Keeps.new _ _
  (repeat' (refine e_go ?_;simp [ha]))
  refine qE (numberS b _) (by simp) ?_;rintro r s1 ⟨rfl,h1⟩
  rw [h1];clear h1 s1
  by_cases hb:numI b
  rotate_left
  ·rw [if_pos (.inr ⟨rfl,.inr hb⟩)] at hy
   subst hy
   (repeat' (first | refine qS ?_ | (refine qR ?_;simp only [ak,reduceIte];simp [hb]) | (refine qC ?_;simp [hb]) | ((first | (refine w_e [] ?_;intro J hJ;simp only []) | (refine e_go ?_));simp [hb];(refine hJ _ _ ?_;clear hJ J;simp only [ak,reduceIte]))))
   exact Keeps.new _ _
  rw [if_neg (by rintro (h | ⟨_,h | h⟩)<;>contradiction)] at hy
  subst hy
  (repeat' (first | refine qS ?_ | (refine qK ?_;simp only [ak,reduceIte]) | (refine qR ?_;simp only [ak,reduceIte];simp [hb]) | (refine qC ?_;simp [hb]) | ((first | (refine w_e [] ?_;intro J hJ;simp only []) | (refine e_go ?_));simp [hb];(refine hJ _ _ ?_;clear hJ J;simp only [ak,reduceIte]))))
  exact Keeps.new _ _
 have hkb:(k==3)=false:=by simpa using hk
 have hkn:(k != 3)=true:=by simpa using hk
 by_cases hz:a≠0∨b≠0∨pa≠0∨pb≠0
 ·rw [if_pos ⟨hk,hz⟩] at hy
  subst hy
  by_cases ha:a=0
  rotate_left
  ·have hab:(a != 0)=true:=by simpa using ha
   (repeat' (first | refine qS ?_ | (refine qK ?_;simp only [ak,reduceIte]) | (refine qR ?_;simp only [ak,reduceIte];simp [h2,h3,hk,hkb,hkn,ha,hab]) | (refine qC ?_;simp [h2,h3,hk,hkb,hkn,ha,hab]) | (refine w_e [] ?_;intro J hJ;simp only [];simp [h2,h3,hk,hkb,hkn,ha,hab];(refine hJ _ _ ?_;clear hJ J;simp only [ak,reduceIte]))))
   exact Keeps.new _ _
  subst ha
  by_cases hb:b=0
  rotate_left
  ·have hab:(b != 0)=true:=by simpa using hb
   (repeat' (first | refine qS ?_ | (refine qK ?_;simp only [ak,reduceIte]) | (refine qR ?_;simp only [ak,reduceIte];simp [h2,h3,hk,hkb,hkn,hb,hab]) | (refine qC ?_;simp [h2,h3,hk,hkb,hkn,hb,hab]) | (refine w_e [] ?_;intro J hJ;simp only [];simp [h2,h3,hk,hkb,hkn,hb,hab];(refine hJ _ _ ?_;clear hJ J;simp only [ak,reduceIte]))))
   exact Keeps.new _ _
  subst hb
  by_cases hp:pa=0
  rotate_left
  ·have hab:(pa != 0)=true:=by simpa using hp
   (repeat' (first | refine qS ?_ | (refine qK ?_;simp only [ak,reduceIte]) | (refine qR ?_;simp only [ak,reduceIte];simp [h2,h3,hk,hkb,hkn,hp,hab]) | (refine qC ?_;simp [h2,h3,hk,hkb,hkn,hp,hab]) | (refine w_e [] ?_;intro J hJ;simp only [];simp [h2,h3,hk,hkb,hkn,hp,hab];(refine hJ _ _ ?_;clear hJ J;simp only [ak,reduceIte]))))
   exact Keeps.new _ _
  subst hp
  have hq:pb≠0:=by simpa using hz
  have hab:(pb != 0)=true:=by simpa using hq
  (repeat' (first | refine qS ?_ | (refine qK ?_;simp only [ak,reduceIte]) | (refine qR ?_;simp only [ak,reduceIte];simp [h2,h3,hk,hkb,hkn,hq,hab]) | (refine qC ?_;simp [h2,h3,hk,hkb,hkn,hq,hab]) | (refine w_e [] ?_;intro J hJ;simp only [];simp [h2,h3,hk,hkb,hkn,hq,hab];(refine hJ _ _ ?_;clear hJ J;simp only [ak,reduceIte]))))
  exact Keeps.new _ _
 rw [if_neg (fun h=>hz h.2)] at hy
 obtain ⟨ha,hb,hp,hq⟩:a=0∧b=0∧pa=0∧pb=0:=by
  refine ⟨?_,?_,?_,?_⟩<;>(refine Classical.byContradiction fun h=>hz ?_)<;>simp [h]
 subst ha hb hp hq
 (repeat' (first | refine qS ?_ | (refine qK ?_;simp only [ak,reduceIte]) | (refine qC ?_;simp [h2,h3,hk,hkb,hkn]) | (refine w_e [] ?_;intro J hJ;simp only [];simp [h2,h3,hk,hkb,hkn];(try (refine hJ _ _ ?_;clear hJ J;simp only [ak,reduceIte])))))
 refine qE (numberS id _) (by simp) ?_;rintro r s1 ⟨rfl,h1⟩
 rw [h1];clear h1 s1
 by_cases hi:numI id
 ·rw [if_neg (by rintro (h | ⟨h,_⟩)<;>contradiction)] at hy
  subst hy
  (repeat' (first | refine qS ?_ | (refine qK ?_;simp only [ak,reduceIte]) | (refine qR ?_;simp only [ak,reduceIte];simp [hi,hk,hkb]) | (refine qC ?_;simp [hi,hk,hkb]) | ((first | (refine w_e [] ?_;intro J hJ;simp only []) | (refine e_go ?_));simp [hi,hk,hkb];(refine hJ _ _ ?_;clear hJ J;simp only [ak,reduceIte]))))
  exact Keeps.new _ _
 ·rw [if_pos (.inl hi)] at hy
  subst hy
  (repeat' (first | refine qS ?_ | (refine qR ?_;simp only [ak,reduceIte];simp [hi]) | (refine qC ?_;simp [hi]) | ((first | (refine w_e [] ?_;intro J hJ;simp only []) | (refine e_go ?_));simp [hi];(refine hJ _ _ ?_;clear hJ J;simp only [ak,reduceIte]))))
  exact Keeps.new _ _
theorem form (s:Sp) (st:St):ACalls Tryz.prog 61 [.ag (spL s)] st fun r st'=>r=i (formW s)∧st'=st:=
 qT (Q:=fun r=>r=i (formW s)) (formK s st) fun r h=>by subst h;trivial
def standsW (t:List Int) (p:Int):Prop:=(t=[]∧p=0)∨p∈t
instance (t:List Int) (p:Int):Decidable (standsW t p):=by unfold standsW;infer_instance
theorem stands (l:List Int) (t:Nat) (p:Int) (st:St) (hl:small l):ACalls Tryz.prog 100 [.sl t l.length (us l),u p] st fun r st'=>r=bb (decide (standsW l p))∧st'=st:=by
 obtain ⟨y,hy⟩:∃ y,y=decide (standsW l p):=⟨_,rfl⟩
 rw [← hy]
 unfold standsW at hy
 refine qO tabOk Tryz.func100 rfl rfl Tryz.ntmps100 (rs:=[.tmp 4]) rfl (by simp) ?_
 by_cases h0:l=[]
 ·subst h0
  by_cases hp:p=0
  ·subst hp
   simp at hy
   subst hy
   (repeat' (first | refine qS ?_ | (refine qR ?_;simp only [ak,reduceIte];simp []) | (refine qC ?_;simp []) | (refine w_e [] ?_;intro J hJ;simp only [];simp [];(refine hJ _ _ ?_;clear hJ J;simp only [ak,reduceIte]))))
  ·have hpb:(p==0)=false:=by simpa using hp
   simp [hp] at hy
   subst hy
   (repeat' (first | refine qS ?_ | (refine qR ?_;simp only [ak,reduceIte];simp [hp,hpb]) | (refine qC ?_;simp [hp,hpb]) | (refine w_e [] ?_;intro J hJ;simp only [];simp [hp,hpb];(refine hJ _ _ ?_;clear hJ J;simp only [ak,reduceIte]))))
 ·have hlen:¬ l.length=0:=fun h=>h0 (List.eq_nil_of_length_eq_zero h)
  have hlen':¬ (l.length:Int)=0:=by omega
  simp [h0] at hy
  subst hy
  (repeat' (first | refine qS ?_ | (refine qK ?_;simp only [ak,reduceIte]) | (refine qC ?_;simp [hlen,hlen',h0]) | (refine w_e [] ?_;intro J hJ;simp only [];simp [hlen,hlen',h0];(try (refine hJ _ _ ?_;clear hJ J;simp only [ak,reduceIte])))))
  refine qE (Contains l t p _ hl) (by simp) ?_;rintro r s1 ⟨rfl,rfl⟩
  (repeat' (first | (refine qR ?_;simp only [ak,reduceIte];simp []) | (refine e_go ?_;simp [];(refine hJ _ _ ?_;clear hJ J;simp only [ak,reduceIte]))))
theorem acalls_cellN {P:Program} {f:FuncId} {args:List LV} {st:St} {Q:LV→St→Prop} (h:ACalls P f args st fun r st'=>Q r st'∨∃ q e s pre post,st'.H q=.box e s (pre++.nil::post)∧Q r (st'.set q (.box e s (pre++.sl 0 0 []::post)))):ACalls P f args st Q:=by
 refine ⟨h.1,fun w g vs hi hr=>(h.2 w g vs hi hr).mono ?_⟩
 rintro x w' ⟨v,r,st',g',rfl,hq,hrep,hi',he⟩
 rcases hq with hq | ⟨q,e,s,pre,post,hl,hq⟩
 ·exact ⟨v,r,st',g',rfl,hq,hrep,hi',he⟩
 ·refine ⟨v,r,_,g',rfl,hq,hrep,inv_recell hi' (cs:=pre++.nil::post) hl (by simp) (fun vs hv=>?_),he⟩
  obtain ⟨v,k1,k2⟩:=repL_mid pre vs hv
  exact k2 g' _ (Ext.refl _ _) (rep_norm k1)
theorem lend_row {st:St} {l n e s:Nat} {cs:List LV} (hl:st.H l=.box e s cs) (hn:cs.length=n * s):Lend st (.ms l 0 n) (.sl 0 n cs):=by
 have:=lend_ms hl (Nat.le_of_eq hn.symm) (lendL_same st (cs.take (n * s)))
 rwa [List.take_of_length_le (Nat.le_of_eq hn)] at this
structure DrI (D lv le lr:Nat) (m:Mp) (st:St):Prop where
 d:st.H D=.box 61 3 (mpM lv le lr m)
 at':MpAt m lv le lr st
 D0:D < st.next
theorem DrI.ne {D lv le lr:Nat} {m:Mp} {st:St} (h:DrI D lv le lr m st):D≠lv∧D≠le∧D≠lr∧lv≠le∧lv≠lr∧le≠lr:=by
 have h1:=h.d
 have h2:=h.at'.v
 have h3:=h.at'.e
 have h4:=h.at'.r
 refine ⟨?_,?_,?_,?_,?_,?_⟩
 ·rintro rfl;rw [h1] at h2;cases h2
 ·rintro rfl;rw [h1] at h3;cases h3
 ·rintro rfl;rw [h1] at h4;cases h4
 ·rintro rfl;rw [h2] at h3;cases h3
 ·rintro rfl;rw [h2] at h4;cases h4
 ·rintro rfl;rw [h3] at h4;cases h4
structure DrB (B D:Nat) (m:Mp) (st:St):Prop where
 ex:∃ lv le lr,DrI D lv le lr m st∧B≤lv∧B≤le∧B≤lr
 B0:B≤D
structure KB (B:Nat) (st st':St):Prop where
 next:st.next≤st'.next
 H:∀ x,x < B→st'.H x=st.H x
theorem KB.refl (B:Nat) (st:St):KB B st st:=⟨Nat.le_refl _,fun _ _=>rfl⟩
theorem KB.trans {B:Nat} {a b c:St} (h:KB B a b) (k:KB B b c):KB B a c:=⟨Nat.le_trans h.next k.next,fun x hx=>(k.H x hx).trans (h.H x hx)⟩
theorem Keeps.kb {B:Nat} {a b:St} (h:Keeps a b) (hB:B≤a.next):KB B a b:=⟨h.next,fun x hx=>h.H x (by omega)⟩
theorem gr_lend {m:Mp} {lv le lr:Nat} {st:St} (h:MpAt m lv le lr st):Lend st (.ag [.ms lv 0 m.g.vs.length,.ms le 0 m.g.es.length]) (.ag (grL m.g)):=
 lend_ag (lendL_cons (lend_row h.v (by simp)) (lendL_cons (lend_row h.e (eds_length _)) (lendL_nil st)))
theorem BinarySearchM (l:List Int) (q:Nat) (v:Int) (st:St) (hl:l.length≤100000) (hr:l.Pairwise (· < ·)) (hq:st.H q=.box 29 1 (us l)):
 ACalls Tryz.prog 95 [.ms q 0 l.length,u v] st fun r st'=>r=.tu [i (lss l v),bb (decide (v∈l))]∧st'=st:=
 acalls_lend (Q:=fun r=>r=.tu [i (lss l v),bb (decide (v∈l))]) (lendL_cons (lend_row hq (by simp)) (lendL_same st _)) ((BinarySearch l 0 v st.bare hl hr).mono fun r s h=>h.1) fun r h=>by subst h;rfl
theorem VertM (m:Mp) (lv le lr:Nat) (v:Int) (st:St) (hl:small m.g.vs) (h:MpAt m lv le lr st):
 ACalls Tryz.prog 45 [.ag [.ms lv 0 m.g.vs.length,.ms le 0 m.g.es.length],u v] st fun r st'=>r=i (gi m.g.vs v)∧st'=st:=
 acalls_lend (Q:=fun r=>r=i (gi m.g.vs v)) (lendL_cons (gr_lend h) (lendL_same st _)) ((Vert' m.g v st.bare hl).mono fun r s h=>h.1) fun r h=>by subst h;rfl
theorem EdgeM (m:Mp) (lv le lr:Nat) (id:Int) (st:St) (hl:m.g.es.length≤1000) (h:MpAt m lv le lr st):
 ACalls Tryz.prog 68 [.ag [.ms lv 0 m.g.vs.length,.ms le 0 m.g.es.length],u id] st fun r st'=>r=i (fe m.g.es id)∧st'=st:=
 acalls_lend (Q:=fun r=>r=i (fe m.g.es id)) (lendL_cons (gr_lend h) (lendL_same st _)) ((gEdge m.g id st.bare hl).mono fun r s h=>h.1) fun r h=>by subst h;rfl
def addV (m:Mp) (v:Int):Mp:=⟨⟨m.g.vs.take (lss m.g.vs v)++v::m.g.vs.drop (lss m.g.vs v),m.g.es⟩,m.rots.take (lss m.g.vs v)++[]::m.rots.drop (lss m.g.vs v)⟩
def vertexW (m:Mp) (v:Int):Int:=if v∈m.g.vs then 17 else if 64≤m.g.vs.length then 6 else 0
theorem us_mid (a:List Int) (v:Int) (b:List Int):us a++u v::us b=us (a++v::b):=by simp [us]
theorem rowsL_mid (a:List (List Int)) (b:List (List Int)):rowsL a++.sl 0 0 []::rowsL b=rowsL (a++[]::b):=by simp [rowsL,us]
structure Ord (m:Mp):Prop where
 rise:m.g.vs.Pairwise (· < ·)
 len:m.rots.length=m.g.vs.length
 vl:m.g.vs.length≤1000
 el:m.g.es.length≤1000
theorem us_take' (l:List Int) (k:Nat):(us l).take k=us (l.take k):=by simp [us]
theorem us_drop' (l:List Int) (k:Nat):(us l).drop k=us (l.drop k):=by simp [us]
theorem rowsL_take' (l:List (List Int)) (k:Nat):(rowsL l).take k=rowsL (l.take k):=by simp [rowsL]
theorem rowsL_drop' (l:List (List Int)) (k:Nat):(rowsL l).drop k=rowsL (l.drop k):=by simp [rowsL]
set_option maxHeartbeats 2000000 in
theorem vertexS (B D:Nat) (m:Mp) (v:Int) (st:St) (h:DrB B D m st) (ho:Ord m):
 ACalls Tryz.prog 62 [.pt D 0,u v] st fun r st'=>r=i (vertexW m v)∧(vertexW m v=0→DrB B D (addV m v) st')∧KB B st st':=by
 obtain ⟨⟨lv,le,lr,⟨hD,hat,hD0⟩,b1,b2,b3⟩,hB0⟩:=h
 obtain ⟨d1,d2,d3,d4,d5,d6⟩:=DrI.ne ⟨hD,hat,hD0⟩
 obtain ⟨y,hy⟩:∃ y,y=vertexW m v:=⟨_,rfl⟩
 rw [← hy]
 unfold vertexW at hy
 have hvl:=ho.vl
 have hlen:=ho.len
 unfold mpM at hD
 refine acalls_cellN ?_
 refine qO tabOk Tryz.func62 rfl rfl Tryz.ntmps62 (rs:=[.tmp 4]) rfl (by simp) ?_
 refine awp_posG fun hpos=>?_
 (repeat' (first | refine qS ?_ | (refine w_e [] ?_;intro J hJ;simp only [];simp [hD];(try (refine hJ _ _ ?_;clear hJ J;simp only [ak,reduceIte])))))
 refine qE (BinarySearchM m.g.vs lv v _ (by omega) ho.rise hat.v) (by simp) ?_;rintro r s1 ⟨rfl,h1⟩
 rw [h1];clear h1 s1
 by_cases hin:v∈m.g.vs
 ·rw [if_pos hin] at hy
  subst hy
  (repeat' (first | refine qS ?_ | (refine qR ?_;simp only [ak,reduceIte];simp [hin]) | (refine qC ?_;simp [hin]) | ((first | (refine w_e [] ?_;intro J hJ;simp only []) | (refine e_go ?_));simp [hin];(refine hJ _ _ ?_;clear hJ J;simp only [ak,reduceIte]))))
  exact .inl (KB.refl _ _)
 rw [if_neg hin] at hy
 by_cases hmany:64≤m.g.vs.length
 ·rw [if_pos hmany] at hy
  subst hy
  have hm:(64:Int)≤m.g.vs.length:=by omega
  (repeat' (first | refine qS ?_ | (refine qK ?_;simp only [ak,reduceIte]) | (refine qR ?_;simp only [ak,reduceIte];simp [hin,hD,hm,hmany]) | (refine qC ?_;simp [hin,hD,hm,hmany]) | ((first | (refine w_e [] ?_;intro J hJ;simp only []) | (refine e_go ?_));simp [hin,hD,hm,hmany];(refine hJ _ _ ?_;clear hJ J;simp only [ak,reduceIte]))))
  exact .inl (KB.refl _ _)
 rw [if_neg hmany] at hy
 subst hy
 have hm:¬ (64:Int)≤m.g.vs.length:=by omega
 have hkl:=lss_le m.g.vs v
 generalize hk:lss m.g.vs v=k at *
 (repeat' (first | refine qS ?_ | (refine qK ?_;simp only [ak,reduceIte]) | (refine qC ?_;simp [hin,hD,hm,hmany]) | ((first | (refine w_e [] ?_;intro J hJ;simp only []) | (refine e_go ?_));simp [hin,hD,hm,hmany];(try (refine hJ _ _ ?_;clear hJ J;simp only [ak,reduceIte])))))
 have hB:B≤st.next:=by omega
 have n1:=hat.v0
 have n2:=hat.e0
 have n3:=hat.r0
 refine qE (InsertU lv m.g.vs.length k st.next (us m.g.vs) [u v] _ (by omega) hkl (by simp) rfl (us_one _) rfl (by omega) (by simp) (by simp [show ¬ lv=st.next by omega,hat.v]) (by simp;omega)) (by simp) ?_;rintro r s1 ⟨⟨l',rfl,q1,q2,q3,q4⟩,q5⟩
 simp only [new_next] at q3 q4 q5
 have hl':l'=lv∨st.next < l':=by omega
 have hD1:s1.H D=.box 61 3 (mpM lv le lr m):=by rw [q4 D (by omega) d1];simp [show ¬ D=st.next by omega,hD,mpM]
 have he1:s1.H le=.box 31 3 (eds m.g.es):=by rw [q4 le (by omega) (Ne.symm d4)];simp [show ¬ le=st.next by omega,hat.e]
 have hr1:s1.H lr=.box 22 1 (rowsL m.rots):=by rw [q4 lr (by omega) (Ne.symm d5)];simp [show ¬ lr=st.next by omega,hat.r]
 have hk1:KB B st s1:=⟨by omega,fun x hx=>by rw [q4 x (by omega) (by omega)];simp [show ¬ x=st.next by omega]⟩
 unfold mpM at hD1
 have d7:¬ l'=D:=by omega
 have d8:¬ l'=le:=by omega
 have d9:¬ l'=lr:=by omega
 have d3':¬ lr=D:=Ne.symm d3
 have d2':¬ le=D:=Ne.symm d2
 (repeat' (first | refine qS ?_ | ((first | (refine w_e [] ?_;intro J hJ;simp only []) | (refine e_go ?_));simp [hD1];(try (refine hJ _ _ ?_;clear hJ J;simp only [ak,reduceIte])))))
 have hrl:(rowsL m.rots).all oneL=true:=by simp [rowsL,oneL]
 refine qE (InsertR lr m.rots.length k s1.next (rowsL m.rots) [.nil] _ (by omega) (by omega) (by simp [rowsL]) rfl hrl rfl (by omega) (by simp) (by simp [show ¬ lr=s1.next by omega,d3',hr1]) (by simp;omega)) (by simp) ?_;rintro r s2 ⟨⟨m',rfl,p1,p2,p3,p4⟩,p5⟩
 simp only [new_next,set_next] at p3 p4 p5
 have hm':m'=lr∨s1.next < m':=by omega
 have hD2:s2.H D=.box 61 3 [.ms l' 0 (m.g.vs.length+1),.ms le 0 m.g.es.length,.ms lr 0 m.rots.length]:=by rw [p4 D (by omega) d3];simp [show ¬ D=s1.next by omega]
 have he2:s2.H le=.box 31 3 (eds m.g.es):=by rw [p4 le (by omega) d6];simp [show ¬ le=s1.next by omega,d2',he1]
 have hv2:s2.H l'=.box 29 1 (us (addV m v).g.vs):=by
  rw [p4 l' (by omega) d9]
  simp only [set_H,new_H,show ¬ l'=s1.next by omega,d7,if_false,q1,addV,hk,us_take',us_drop',List.cons_append,List.nil_append,us_mid,set_next]
 have hk2:KB B s1 s2:=⟨by omega,fun x hx=>by rw [p4 x (by omega) (by omega)];simp [show ¬ x=s1.next by omega,show ¬ x=D by omega]⟩
 have f7:¬ m'=D:=by omega
 have f8:¬ m'=le:=by omega
 have f9:¬ m'=l':=by omega
 (repeat' (first | refine qS ?_ | (refine qR ?_;simp only [ak,reduceIte];simp [hD2,f7,Ne.symm f7]) | ((first | (refine w_e [] ?_;intro J hJ;simp only []) | (refine e_go ?_));simp [hD2,f7,Ne.symm f7];(refine hJ _ _ ?_;clear hJ J;simp only [ak,reduceIte]))))
 refine .inr ⟨m',_,_,(rowsL m.rots).take k,(rowsL m.rots).drop k,by simp [f7,p1];exact ⟨rfl,rfl⟩,?_⟩
 refine ⟨⟨⟨l',le,m',⟨?_,⟨?_,?_,?_,?_,?_,?_⟩,?_⟩,by omega,by omega,by omega⟩,by omega⟩,?_⟩
 ·simp [show ¬ D=m' by omega,mpM,addV,hk];omega
 ·simp [d7,Ne.symm f9,hv2,show ¬ l'=m' by omega]
 ·simp [d2',show ¬ le=m' by omega,he2,addV]
 ·simp only [set_H,if_pos,addV,hk,rowsL_take',rowsL_drop',rowsL_mid]
 ·simp;omega
 ·simp;omega
 ·simp;omega
 ·simp;omega
 ·refine (hk1.trans hk2).trans ⟨by simp,fun x hx=>?_⟩
  simp [show ¬ x=D by omega,show ¬ x=m' by omega]
def delV (m:Mp) (v:Int):Mp:=⟨⟨m.g.vs.take (m.g.vs.idxOf v)++m.g.vs.drop (m.g.vs.idxOf v+1),m.g.es⟩,m.rots.take (m.g.vs.idxOf v)++m.rots.drop (m.g.vs.idxOf v+1)⟩
def noVertexW (m:Mp) (v:Int):Int:=if v∉m.g.vs then 16 else if m.rots.getD (m.g.vs.idxOf v) []≠[] then 25 else 0
theorem rowsL_append' (a b:List (List Int)):rowsL a++rowsL b=rowsL (a++b):=by simp [rowsL]
set_option maxHeartbeats 2000000 in
theorem noVertexS (B D:Nat) (m:Mp) (v:Int) (st:St) (h:DrB B D m st) (ho:Ord m):
 ACalls Tryz.prog 63 [.pt D 0,u v] st fun r st'=>r=i (noVertexW m v)∧(noVertexW m v=0→DrB B D (delV m v) st')∧KB B st st':=by
 obtain ⟨⟨lv,le,lr,hI,b1,b2,b3⟩,hB0⟩:=h
 obtain ⟨d1,d2,d3,d4,d5,d6⟩:=hI.ne
 obtain ⟨hD,hat,hD0⟩:=hI
 obtain ⟨y,hy⟩:∃ y,y=noVertexW m v:=⟨_,rfl⟩
 rw [← hy]
 unfold noVertexW at hy
 have hvl:=ho.vl
 have hlen:=ho.len
 unfold mpM at hD
 refine qO tabOk Tryz.func63 rfl rfl Tryz.ntmps63 (rs:=[.tmp 4]) rfl (by simp) ?_
 refine awp_posG fun hpos=>?_
 (repeat' (first | refine qS ?_ | (refine w_e [] ?_;intro J hJ;simp only [];simp [hD];(try (refine hJ _ _ ?_;clear hJ J;simp only [ak,reduceIte])))))
 refine qE (VertM m lv le lr v _ (by unfold small;omega) hat) (by simp) ?_;rintro r s1 ⟨rfl,h1⟩
 rw [h1];clear h1 s1
 by_cases hin:v∈m.g.vs
 rotate_left
 ·rw [if_pos hin] at hy
  subst hy
  have hge:gi m.g.vs v < 0:=(gi_neg _ v).2 hin
  generalize gi m.g.vs v=gg at *
  (repeat' (first | refine qS ?_ | (refine qR ?_;simp only [ak,reduceIte];simp [hge]) | (refine qC ?_;simp [hge]) | ((first | (refine w_e [] ?_;intro J hJ;simp only []) | (refine e_go ?_));simp [hge];(refine hJ _ _ ?_;clear hJ J;simp only [ak,reduceIte]))))
  exact KB.refl _ _
 rw [if_neg (fun h=>h hin)] at hy
 rw [gi_mem hin]
 have hkl:=List.idxOf_lt_length_of_mem hin
 generalize hk:m.g.vs.idxOf v=k at *
 have hkr:k < m.rots.length:=by omega
 have hge:¬ (k:Int) < 0:=by omega
 have hd:=rowsL_drop m.rots k hkr
 have hkr':(k:Int) < m.rots.length:=by omega
 by_cases hr:m.rots.getD k []=[]
 rotate_left
 ·rw [if_pos hr] at hy
  subst hy
  have hpos:0 < (m.rots.getD k []).length:=List.length_pos_iff.2 hr
  have hpos':(0:Int) < ((m.rots.getD k []).length:Int):=by omega
  generalize m.rots.getD k []=t at *
  (repeat' (first | refine qS ?_ | (refine qK ?_;simp only [ak,reduceIte]) | (refine qR ?_;simp only [ak,reduceIte];simp [hge,hD,hat.r,hkr,hkr',hd,hpos,hpos',hr]) | (refine qC ?_;simp [hge,hD,hat.r,hkr,hkr',hd,hpos,hpos',hr]) | ((first | (refine w_e [] ?_;intro J hJ;simp only []) | (refine e_go ?_));simp [hge,hD,hat.r,hkr,hkr',hd,hpos,hpos',hr];(refine hJ _ _ ?_;clear hJ J;simp only [ak,reduceIte]))))
  exact KB.refl _ _
 rw [if_neg (fun h=>h hr)] at hy
 subst hy
 rw [hr] at hd
 have hw:=qN k (by omega)
 (repeat' (first | refine qS ?_ | (refine qK ?_;simp only [ak,reduceIte]) | (refine qC ?_;simp [hge,hD,hat.r,hkr,hkr',hd,hw]) | ((first | (refine w_e [] ?_;intro J hJ;simp only []) | (refine e_go ?_));simp [hge,hD,hat.r,hkr,hkr',hd,hw];(try (refine hJ _ _ ?_;clear hJ J;simp only [ak,reduceIte])))))
 have n1:=hat.v0
 have n2:=hat.e0
 have n3:=hat.r0
 refine qE (DeleteU lv m.g.vs.length k (us m.g.vs) _ (by omega) hkl (by simp) (us_one _) hat.v) (by simp) ?_;rintro r s1 ⟨rfl,h1⟩
 rw [h1];clear h1 s1
 have d1':¬ lv=D:=Ne.symm d1
 have d2':¬ le=D:=Ne.symm d2
 have d3':¬ lr=D:=Ne.symm d3
 have d5':¬ lr=lv:=Ne.symm d5
 have d4':¬ le=lv:=Ne.symm d4
 (repeat' (first | refine qS ?_ | ((first | (refine w_e [] ?_;intro J hJ;simp only []) | (refine e_go ?_));simp [hD,d1,hw];(try (refine hJ _ _ ?_;clear hJ J;simp only [ak,reduceIte])))))
 refine qE (DeleteR lr m.rots.length k (rowsL m.rots) _ (by omega) hkr (by simp [rowsL]) (by simp [rowsL,oneL]) (by simp [d3',d5',hat.r])) (by simp) ?_;rintro r s1 ⟨rfl,h1⟩
 rw [h1];clear h1 s1
 (repeat' (first | refine qS ?_ | (refine qR ?_;simp only [ak,reduceIte];simp [hD,d1,d3]) | ((first | (refine w_e [] ?_;intro J hJ;simp only []) | (refine e_go ?_));simp [hD,d1,d3];(refine hJ _ _ ?_;clear hJ J;simp only [ak,reduceIte]))))
 refine ⟨⟨⟨lv,le,lr,⟨?_,⟨?_,?_,?_,?_,?_,?_⟩,?_⟩,b1,b2,b3⟩,hB0⟩,?_⟩
 ·simp [mpM,delV,hk];omega
 ·simp only [set_H,d1',d5,if_false,if_pos,delV,hk,us_take',us_drop',us_append]
 ·simp [d2',d6,d4',hat.e,delV]
 ·simp only [set_H,d3',if_false,if_pos,delV,hk,rowsL_take',rowsL_drop',rowsL_append']
 ·simp;omega
 ·simp;omega
 ·simp;omega
 ·simp;omega
 ·refine ⟨by simp,fun x hx=>?_⟩
  simp [show ¬ x=D by omega,show ¬ x=lr by omega,show ¬ x=lv by omega]
def TestX (f:FuncId) (caps:List LV) (st:St) (l:List Ed) (p:Ed→Bool):Prop:=∀ x∈l,∀ st2,Keeps st st2→ACalls Tryz.prog f (.ag (edL x)::caps) st2 fun r st3=>r=bb (p x)∧st3=st2
theorem TestX.keeps {f:FuncId} {caps:List LV} {st st1:St} {l:List Ed} {p:Ed→Bool} (h:TestX f caps st l p) (hk:Keeps st st1):TestX f caps st1 l p:=fun x hx st2 h2=>h x hx st2 (hk.trans h2)
theorem gr_lend' {g:Gr} {lv le:Nat} {st:St} (hv:st.H lv=.box 29 1 (us g.vs)) (he:st.H le=.box 31 3 (eds g.es)):Lend st (.ag [.ms lv 0 g.vs.length,.ms le 0 g.es.length]) (.ag (grL g)):=
 lend_ag (lendL_cons (lend_row hv (by simp)) (lendL_cons (lend_row he (eds_length _)) (lendL_nil st)))
theorem EdgeG (g:Gr) (lv le:Nat) (id:Int) (st:St) (hl:g.es.length≤1000) (hv:st.H lv=.box 29 1 (us g.vs)) (he:st.H le=.box 31 3 (eds g.es)):
 ACalls Tryz.prog 68 [.ag [.ms lv 0 g.vs.length,.ms le 0 g.es.length],u id] st fun r st'=>r=i (fe g.es id)∧st'=st:=
 acalls_lend (Q:=fun r=>r=i (fe g.es id)) (lendL_cons (gr_lend' hv he) (lendL_same st _)) ((gEdge g id st.bare hl).mono fun r s h=>h.1) fun r h=>by subst h;rfl
set_option maxHeartbeats 2000000 in
theorem KeepM (g:Gr) (f:FuncId) (caps:List LV) (p:Ed→Bool) (st:St) (hv:g.vs.length≤1000) (he:g.es.length≤1000) (hp:TestX f caps st g.es p):
 ACalls Tryz.prog 131 [.ag (grL g),.fn (.func f) caps] st fun r st'=>∃ lv le,r=.ag [.ms lv 0 g.vs.length,.ms le 0 (g.es.filter p).length]∧st.next≤lv∧lv < st'.next∧st.next≤le∧le < st'.next∧st'.H lv=.box 29 1 (us g.vs)∧st'.H le=.box 31 3 (eds (g.es.filter p))∧Keeps st st':=by
 refine qO tabOk Tryz.func131 rfl rfl Tryz.ntmps131 (rs:=[.cell 4 25]) rfl (by simp) ?_
 refine awp_posG fun hpos=>?_
 (repeat' (first | refine qS ?_ | (refine w_e [] ?_;intro J hJ;simp only [];simp [];(try (refine hJ _ _ ?_;clear hJ J;simp only [ak,reduceIte])))))
 refine qE (CloneMU g.vs 0 _ (by omega)) (by simp) ?_;rintro r s1 ⟨lv,rfl,l1,l2,hv1,hk1⟩
 simp only [new_next] at l1
 have hn1:=hk1.next
 simp only [new_next] at hn1
 have hG1:s1.H st.next=.box 25 2 (grL g):=by rw [hk1.H _ (by simp;omega)];simp
 have hC1:s1.H (st.next+1)=.box 25 2 [.nil,.nil]:=by rw [hk1.H _ (by simp)];simp
 have hkp1:Keeps st s1:=((Keeps.new _ _).trans (Keeps.new _ _)).trans hk1
 have e0:¬ st.next=s1.next:=by omega
 (repeat' (first | refine qS ?_ | refine qB ?_ | ((first | (refine w_e [] ?_;intro J hJ;simp only []) | (refine e_go ?_));simp [hG1,e0];(refine hJ _ _ ?_;clear hJ J;simp only [ak,reduceIte]))))
 obtain ⟨c,hc⟩:∃ c,c=s1.next:=⟨_,rfl⟩
 refine awp_cellM c 31 3 (e:=25) (s:=2) [.ms lv 0 g.vs.length] [] (by subst hc;simp) ?_
 refine awp_range 15 14 16 28 (g.es.length) (fun j fr st2=>fr 1=.fn (.func f) caps∧fr 4=.pt (st.next+1) 0∧fr 5=.pt c 0∧fr 13=.sl 0 g.es.length (eds g.es)∧Keeps st st2∧st2.H (st.next+1)=.box 25 2 [.nil,.nil]∧st2.H lv=.box 29 1 (us g.vs)∧∃ le F,F=(g.es.take j).filter p∧F.length≤j∧st2.H c=.box 25 2 [.ms lv 0 g.vs.length,.ms le 0 F.length]∧st2.H le=.box 31 3 (eds F)∧c < le∧le < st2.next) ?_ ?_ ?_
 ·refine ⟨by simp,by simp,by simp [hc],by simp,?_,?_,?_,c+1,[],by simp,by simp,?_,?_,by omega,?_⟩
  ·subst hc;(repeat (first | exact hkp1 | (refine Keeps.trans ?_ (Keeps.new _ _)) | (refine Keeps.set ?_ (by first | omega | (simp;done) | (simp;omega)) _)))
  ·subst hc;simp [show ¬ st.next+1=s1.next by omega,show ¬ st.next=s1.next by omega,hC1]
  ·subst hc;simp [show ¬ lv=s1.next by omega,show ¬ lv=s1.next+1 by omega,hv1]
  ·subst hc;simp
  ·subst hc;simp [eds]
  ·subst hc;simp
 ·rintro j fr s hlt ⟨f1,f4,f5,f13,hkp,hR,hv,le,F,hF,hFl,hB,hO,hlo,hhi⟩ fi fn JO hJO
  have hd:=eds_drop g.es j hlt
  have hel:=eds_length g.es
  have hj3:j * 3 < g.es.length * 3:=by omega
  have hxin:g.es.getD j ed0∈g.es:=by rw [getDE _ _ hlt];exact List.getElem_mem hlt
  have hst:=filter_takeE g.es p j hlt
  rw [← hF] at hst
  simp only [hst] at hJO
  clear hst hF
  have htest:=fun s h=>hp _ hxin s h
  generalize g.es.getD j ed0=x at *
  obtain ⟨d,a,b⟩:=x
  simp only at hd htest
  have hFo:(eds F).length=F.length * 3:=eds_length F
  have a1:¬ c=s.next:=by omega
  have a2:¬ le=s.next:=by omega
  (repeat' (first | refine qS ?_ | (refine w_e [] ?_;intro J hJ;simp only [];simp [f1,f13,fi,fn,hd,hlt,hel,hj3];(try (refine hJ _ _ ?_;clear hJ J;simp only [ak,reduceIte])))))
  refine qF (htest _ (hkp.trans (Keeps.new _ (.box 31 3 [u d,u a,u b])))) ?_;rintro r s2 ⟨rfl,h1⟩
  rw [h1];clear h1 s2
  cases hpx:p ⟨d,a,b⟩ with
  | false=>
    rw [hpx] at hJO
    simp only [Bool.false_eq_true,if_false] at hJO
    (repeat' (first | (refine qK ?_;simp only [ak,reduceIte]) | (refine qC ?_;simp []) | (refine e_go ?_;simp [];(refine hJ _ _ ?_;clear hJ J;simp only [ak,reduceIte]))))
    exact hJO _ _ (by simp [fi]) (by simp [fn]) ⟨by simp [f1],by simp [f4],by simp [f5],by simp [f13],hkp.trans (Keeps.new _ _),by simp [show ¬ st.next+1=s.next by omega,hR],by simp [show ¬ lv=s.next by omega,hv],le,F,rfl,by omega,by simp [a1,hB],by simp [a2,hO],hlo,by simp;omega⟩
  | true=>
    rw [hpx] at hJO
    simp only [if_true] at hJO
    have a3:¬ c=s.next+1:=by omega
    have a4:¬ c=le:=by omega
    have a5:¬ le=s.next+1:=by omega
    have a6:¬ c=s.next+1+1:=by omega
    (repeat' (first | (refine qC ?_;simp [f5,hB,hO,a1,a2,a3,a4,a5,a6,hFo]) | ((first | (refine w_e [] ?_;intro J hJ;simp only []) | (refine e_go ?_));simp [f5,hB,hO,a1,a2,a3,a4,a5,a6,hFo];(repeat refine ca ?_);(refine hJ _ _ ?_;clear hJ J;simp only [ak,reduceIte]))))
    refine hJO _ _ (by simp [fi]) (by simp [fn]) ⟨by simp [f1],by simp [f4],by simp [f5],by simp [f13],?_,by simp [show ¬ st.next+1=s.next by omega,show ¬ st.next+1=c by omega,show ¬ st.next=s.next by omega,show ¬ st.next=s.next+1 by omega,show ¬ st.next+1=le by omega,hR],by simp [show ¬ lv=s.next by omega,show ¬ lv=c by omega,show ¬ lv=s.next+1 by omega,show ¬ lv=s.next+1+1 by omega,show ¬ lv=le by omega,hv],s.next+1+1,_,rfl,by simp;omega,by simp,?_,by omega,by simp⟩
    ·(repeat (first | exact hkp | (refine Keeps.trans ?_ (Keeps.new _ _)) | (refine Keeps.set ?_ (by omega) _)))
    ·simp [show ¬ s.next+1+1=c by omega,eds,edL]
 ·rintro fr s ⟨f1,f4,f5,f13,hkp,hR,hv,le,F,hF,hFl,hB,hO,hlo,hhi⟩
  rw [List.take_length] at hF
  subst hF
  (repeat' (first | refine qS ?_ | (refine qR ?_;simp only [ak,reduceIte];simp [f4,f5,hR,hB,show ¬ c=st.next+1 by omega]) | (refine w_e [] ?_;intro J hJ;simp only [];simp [f4,f5,hR,hB,show ¬ c=st.next+1 by omega];(refine hJ _ _ ?_;clear hJ J;simp only [ak,reduceIte]))))
  refine ⟨lv,le,⟨rfl,rfl⟩,by omega,by omega,by omega,by omega,?_,?_,hkp.set (by omega) _⟩
  ·simp [show ¬ lv=st.next+1 by omega,hv]
  ·simp [show ¬ le=st.next+1 by omega,hO]
theorem Diff_1K (b:Mp) (hb:MapOk b) (v d:Int) (I:List Int) (qb qm q:Nat) (MM:List (List Int×LV)) (st:St) (hvb:b.g.vs.length≤100) (heb:b.g.es.length≤100)
 (h2:st.H qm=.box 65 1 [.mp q]) (h3:st.H qb=.box 28 3 (mpL b)) (h4:st.H q=.map false [.u32] MM) (hq:q < st.next) (hI:InM MM I):
 ACalls Tryz.prog 47 [u v,u d,.pt qb 0,.pt qm 0] st fun r st'=>r=u (aheadW b v d I)∧Keeps st st':=by
 have s2:small (tnW b v I):=by have:=tnW_len hb v I;unfold small;omega
 obtain ⟨y,hy⟩:∃ y,y=aheadW b v d I:=⟨_,rfl⟩
 rw [← hy]
 unfold aheadW at hy
 refine qO tabOk Tryz.func47 rfl rfl Tryz.ntmps47 (rs:=[.tmp 6]) rfl (by simp) ?_
 (repeat' (first | refine qS ?_ | (refine w_e [] ?_;intro J hJ;simp only [];simp [h2,h3];(try (refine hJ _ _ ?_;clear hJ J;simp only [ak,reduceIte])))))
 refine qE (dTurn b hb v I q MM _ hvb heb hq h4 hI) (by simp) ?_;rintro r s1 ⟨rfl,h1⟩
 rw [h1];clear h1 s1
 generalize tnW b v I=L at *
 by_cases h:L.length=1
 ·have h':(L.length:Int)=1:=by omega
  rw [if_pos h] at hy
  subst hy
  (repeat' (first | refine qS ?_ | (refine qR ?_;simp only [ak,reduceIte];simp [h',h]) | (refine qC ?_;simp [h',h]) | ((first | (refine w_e [] ?_;intro J hJ;simp only []) | (refine e_go ?_));simp [h',h];(refine hJ _ _ ?_;clear hJ J;simp only [ak,reduceIte]))))
  exact Keeps.refl _
 ·have h':¬ (L.length:Int)=1:=by omega
  rw [if_neg h] at hy
  subst hy
  (repeat' (first | refine qS ?_ | (refine qK ?_;simp only [ak,reduceIte]) | (refine qC ?_;simp [h',h]) | ((first | (refine w_e [] ?_;intro J hJ;simp only []) | (refine e_go ?_));simp [h',h];(try (refine hJ _ _ ?_;clear hJ J;simp only [ak,reduceIte])))))
  refine qE (Prev L 0 d _ s2) (by simp) ?_;rintro r s1 ⟨rfl,h1⟩
  rw [h1];clear h1 s1
  (repeat' (first | (refine qR ?_;simp only [ak,reduceIte];simp []) | (refine e_go ?_;simp [];(refine hJ _ _ ?_;clear hJ J;simp only [ak,reduceIte]))))
  exact Keeps.refl _
theorem Diff_1 (b:Mp) (hb:MapOk b) (v d:Int) (I:List Int) (qb qm q:Nat) (MM:List (List Int×LV)) (st:St) (hvb:b.g.vs.length≤100) (heb:b.g.es.length≤100)
 (h2:st.H qm=.box 65 1 [.mp q]) (h3:st.H qb=.box 28 3 (mpL b)) (h4:st.H q=.map false [.u32] MM) (hq:q < st.next) (hI:InM MM I):
 ACalls Tryz.prog 47 [u v,u d,.pt qb 0,.pt qm 0] st fun r st'=>r=u (aheadW b v d I)∧st'=st:=
 qT (Q:=fun r=>r=u (aheadW b v d I)) (Diff_1K b hb v d I qb qm q MM st hvb heb h2 h3 h4 hq hI) fun r h=>by subst h;trivial
theorem rRight' (m:Mp) (st:St) (hv:m.g.vs.length≤1000) (he:m.g.es.length≤1000) (hr:m.rots.length≤1000):
 ACalls Tryz.prog 9 [.ag (mpL m)] st fun r st'=>r=i (rright m)∧st'=st:=
 qT (Q:=fun r=>r=i (rright m)) (ref_rRight m st hv he hr) fun r h=>by subst h;trivial
noncomputable def lit17 (m:Mp):Bool:=decide (m.g.es.length≤30)&&decide (m.rots.length≤64)&&decide (rright m=0)
theorem sps_snoc (l:List Sp) (s:Sp):sps (l++[s])=sps l++spL s:=by simp [sps]
theorem gone_take (a:Mp) (K:List Int) (j:Nat) (hj:j < a.g.es.length):((a.g.es.take (j+1)).filter fun x=>decide (x.id∉K)).map (fun x=>(⟨4,x.id,0,0,0,0⟩:Sp))=((a.g.es.take j).filter fun x=>decide (x.id∉K)).map (fun x=>(⟨4,x.id,0,0,0,0⟩:Sp))++(if (a.g.es.getD j ed0).id∈K then [] else [⟨4,(a.g.es.getD j ed0).id,0,0,0,0⟩]):=by
 rw [filter_takeE _ _ j hj]
 by_cases h:(a.g.es.getD j ed0).id∈K
 ·rw [if_neg (by simpa using h),if_pos h];simp
 ·rw [if_pos (by simpa using h),if_neg h];simp
theorem vs_take (l L:List Int) (k:Int) (j:Nat) (hj:j < l.length):((l.take (j+1)).filter fun v=>decide (v∉L)).map (fun v=>(⟨k,v,0,0,0,0⟩:Sp))=((l.take j).filter fun v=>decide (v∉L)).map (fun v=>(⟨k,v,0,0,0,0⟩:Sp))++(if l.getD j 0∈L then [] else [⟨k,l.getD j 0,0,0,0,0⟩]):=by
 rw [filter_takeI _ _ j hj]
 by_cases h:l.getD j 0∈L
 ·rw [if_neg (by simpa using h),if_pos h];simp
 ·rw [if_pos (by simpa using h),if_neg h];simp
theorem stp_bel (n:Nat) (k a b c d e:Int):bel n (stp k a b c d e):=by simp [stp,bel,belL]
theorem Link' (x:Ed) (pa pb:Int) (st:St):ACalls Tryz.prog 11 [.ag (edL x),u pa,u pb] st fun r st'=>r=stp 3 x.id x.a x.b pa pb∧st'=st:=
 qT (Q:=fun r=>r=stp 3 x.id x.a x.b pa pb) (Link x pa pb st) fun r h=>by subst h;exact stp_bel _ _ _ _ _ _ _
theorem NoLink' (n:Int) (st:St):ACalls Tryz.prog 44 [u n] st fun r st'=>r=stp 4 n 0 0 0 0∧st'=st:=
 qT (Q:=fun r=>r=stp 4 n 0 0 0 0) (NoLink n st) fun r h=>by subst h;exact stp_bel _ _ _ _ _ _ _
theorem Vertex' (n:Int) (st:St):ACalls Tryz.prog 24 [u n] st fun r st'=>r=stp 1 n 0 0 0 0∧st'=st:=
 qT (Q:=fun r=>r=stp 1 n 0 0 0 0) (Vertex n st) fun r h=>by subst h;exact stp_bel _ _ _ _ _ _ _
theorem NoVertex' (n:Int) (st:St):ACalls Tryz.prog 46 [u n] st fun r st'=>r=stp 2 n 0 0 0 0∧st'=st:=
 qT (Q:=fun r=>r=stp 2 n 0 0 0 0) (NoVertex n st) fun r h=>by subst h;exact stp_bel _ _ _ _ _ _ _
theorem belL_sps (n:Nat) (l:List Sp):belL n (sps l):=by
 induction l with
 | nil=>trivial
 | cons x l ih=>simp only [sps,List.flatMap_cons] at ih ⊢;exact ⟨trivial,trivial,trivial,trivial,trivial,trivial,ih⟩
theorem dOf0 (d:Int) (st:St) (h0:1≤d∧d≤1048576):ACalls Tryz.prog 34 [u d,i 0] st fun r st'=>r=u (2 * d)∧st'=st:=
 (dOf d 0 st (by omega) h0.2 (.inl rfl)).mono fun r s h=>by rw [show 2 * d+0=2 * d by omega] at h;exact h
theorem dOf1 (d:Int) (st:St) (h0:1≤d∧d≤1048576):ACalls Tryz.prog 34 [u d,i 1] st fun r st'=>r=u (2 * d+1)∧st'=st:=dOf d 1 st (by omega) h0.2 (.inr rfl)
theorem link_out {b:Mp} (hb:MapOk b) (K:List Int) (j:Nat) (hj:j < b.g.es.length):(b.g.es.getD j ed0).id∈((b.g.es.take j).foldl (link1 b K) ⟨K,[]⟩).T↔(b.g.es.getD j ed0).id∈K:=by
 have mono:∀ (l:List Ed) (S:Lk),∀ y∈S.T,y∈(l.foldl (link1 b K) S).T:=by
  intro l
  induction l with
  | nil=>intro S y h;exact h
  | cons x l ih=>
    intro S y h
    rw [List.foldl_cons]
    refine ih _ _ ?_
    unfold link1
    split
    ·exact h
    ·exact List.mem_append_left _ h
 constructor
 ·intro h
  rcases link_mem K _ _ _ h with h1 | ⟨x,hx,h1⟩
  ·exact h1
  ·exfalso
   obtain ⟨i,hi,rfl⟩:=List.getElem_of_mem hx
   rw [List.length_take] at hi
   rw [List.getElem_take,getE_lt _ _ hj] at h1
   have:=List.pairwise_iff_getElem.1 hb.g.ids i j (by omega) hj (by omega)
   omega
 ·exact mono _ ⟨K,[]⟩ _
set_option maxHeartbeats 4000000 in
theorem dDiffT (a b:Mp) (ha:MapOk a) (hb:MapOk b) (st:St) (hva:a.g.vs.length≤100) (hea:a.g.es.length≤100) (hvb:b.g.vs.length≤100) (heb:b.g.es.length≤100):
 ACalls Tryz.prog 21 [.ag (mpL a),.ag (mpL b)] st fun r st'=>∃ t,r=.sl t (diffW a b (keptW a b)).length (sps (diffW a b (keptW a b)))∧st'.H t=.own 38 6 (diffW a b (keptW a b)).length∧t≠0∧st.next≤t∧t < st'.next∧Keeps st st':=by
 have hKl:(keptW a b).length≤a.g.es.length:=by have:=keep1_len a b a.g.es [];simpa [keptW] using this
 obtain ⟨K,hK⟩:∃ K,K=keptW a b:=⟨_,rfl⟩
 rw [← hK] at hKl ⊢
 obtain ⟨G0,hG0⟩:∃ G0,G0=diffW a b K:=⟨_,rfl⟩
 rw [← hG0]
 refine qO tabOk Tryz.func21 rfl rfl Tryz.ntmps21 (rs:=[.tmp 4]) rfl (by simp) ?_
 refine awp_posG fun hpos=>?_
 (repeat' (first | refine qS ?_ | (refine w_e [] ?_;intro J hJ;simp only [];simp [];(try (refine hJ _ _ ?_;clear hJ J;simp only [ak,reduceIte])))))
 refine qE (KeptD a b ha hb _ hva hea hvb heb) (by simp) ?_;rintro r s1 ⟨rfl,h1⟩
 rw [h1,← hK];clear h1 s1
 (repeat' (first | refine qB ?_ | (refine e_go ?_;simp [];(refine hJ _ _ ?_;clear hJ J;simp only [ak,reduceIte]))))
 refine awp_range 25 24 26 31 (K.length) (fun j fr st2=>fr 2=.pt st.next 0∧fr 3=.pt (st.next+1) 0∧fr 5=.pt (st.next+3) 0∧fr 23=.sl 0 K.length (us K)∧st2.H st.next=.box 28 3 (mpL a)∧st2.H (st.next+1)=.box 28 3 (mpL b)∧st2.H (st.next+3)=.box 65 1 [.mp (st.next+2)]∧Keeps st st2∧st.next+3 < st2.next∧∃ MM,st2.H (st.next+2)=.map false [.u32] MM∧InM MM (K.take j)) ?_ ?_ ?_
 ·refine ⟨by simp,by simp,by simp,by simp,by simp,by simp,by simp,?_,by simp,[],by simp,fun x=>by simp [mget]⟩
  (repeat (first | exact Keeps.refl _ | (refine Keeps.trans ?_ (Keeps.new _ _)) | (refine Keeps.set ?_ (by first | omega | (simp;done) | (simp;omega)) _)))
 ·rintro j fr s hlt ⟨f2,f3,f5,f23,hG,hG2,hB,hkp,hsn,MM,hM,hI⟩ fi fn JO hJO
  have hd:=qG K j hlt
  have htk:K.take (j+1)=K.take j++[K.getD j 0]:=by rw [List.take_succ_eq_append_getElem hlt,getD_lt _ _ hlt]
  simp only [htk] at hJO
  have hI2:=hI.add (K.getD j 0)
  generalize K.getD j 0=v at *
  (repeat' (first | refine qS ?_ | (refine w_e [] ?_;intro J hJ;simp only [];simp [f5,f23,fi,fn,hd,hlt,hB,hM];(refine hJ _ _ ?_;clear hJ J;simp only [ak,reduceIte]))))
  exact hJO _ _ (by simp [fi]) (by simp [fn]) ⟨by simp [f2],by simp [f3],by simp [f5],by simp [f23],by simp [hG],by simp [hG2],by simp [hB],hkp.set (by omega) _,by simp;omega,_,by simp,hI2⟩
 rintro fr s ⟨f2,f3,f5,f23,hG,hG2,hB,hkp,hsn,MM,hM,hI⟩
 rw [List.take_length] at hI
 clear f23
 simp only [ak,reduceIte]
 (repeat (refine qS ?_));(refine w_e [] ?_;intro J hJ;simp only [];simp [];(refine hJ _ _ ?_;clear hJ J;simp only [ak,reduceIte]))
 refine awp_own 8 38 6 (by simp) ?_
 have a1:¬ st.next=s.next:=by omega
 have a2:¬ st.next+1=s.next:=by omega
 have a3:¬ st.next+2=s.next:=by omega
 have a4:¬ st.next+3=s.next:=by omega
 (repeat' (first | refine qS ?_ | refine qB ?_ | (refine w_e [] ?_;intro J hJ;simp only [];simp [f2,hG,a1];(refine hJ _ _ ?_;clear hJ J;simp only [ak,reduceIte]))))
 refine awp_range 36 35 37 51 (a.g.es.length) (fun j fr st2=>fr 2=.pt st.next 0∧fr 3=.pt (st.next+1) 0∧fr 5=.pt (st.next+3) 0∧fr 34=.sl 0 a.g.es.length (eds a.g.es)∧st2.H st.next=.box 28 3 (mpL a)∧st2.H (st.next+1)=.box 28 3 (mpL b)∧st2.H (st.next+3)=.box 65 1 [.mp (st.next+2)]∧Keeps st st2∧st2.H (st.next+2)=.map false [.u32] MM∧∃ tt O,O=((a.g.es.take j).filter fun x=>decide (x.id∉K)).map (fun x=>(⟨4,x.id,0,0,0,0⟩:Sp))∧O.length≤j∧fr 8=.sl tt O.length (sps O)∧st2.H tt=.own 38 6 O.length∧st.next+3 < tt∧tt < st2.next) ?_ ?_ ?_
 ·exact ⟨by simp [f2],by simp [f3],by simp [f5],by simp,by simp [a1,hG],by simp [a2,hG2],by simp [a4,hB],hkp.trans (Keeps.new _ _),by simp [a3,hM],s.next,[],by simp,by simp,by simp [sps],by simp,by omega,by simp⟩
 ·clear f2 f3 f5 hG hG2 hB hkp hsn hM a1 a2 a3 a4 fr s
  rintro j fr s hlt ⟨f2,f3,f5,fs,hG,hG2,hB,hkp,hM,tt,O,hO1,hOl,f8,hO,lt,ut⟩ fi fn JO hJO
  have hd:=eds_drop a.g.es j hlt
  have hel:=eds_length a.g.es
  have hj3:j * 3 < a.g.es.length * 3:=by omega
  have hst:=gone_take a K j hlt
  rw [← hO1] at hst
  simp only [hst] at hJO
  clear hst hO1
  generalize a.g.es.getD j ed0=x at *
  obtain ⟨d,p,q⟩:=x
  simp only at hd hJO
  have hol:=sps_length O
  have hId:=hI d
  have e1:¬ st.next=s.next:=by omega
  have e2:¬ st.next+1=s.next:=by omega
  have e3:¬ st.next+2=s.next:=by omega
  have e4:¬ st.next+3=s.next:=by omega
  have e5:¬ tt=s.next:=by omega
  have e6:¬ tt=0:=by omega
  have e7:¬ tt=s.next+1:=by omega
  by_cases hin:d∈K
  ·have hmg:=hId.1 hin
   rw [if_pos hin,List.append_nil] at hJO
   (repeat' (first | refine qS ?_ | (refine qK ?_;simp only [ak,reduceIte]) | (refine qC ?_;simp [f5,fs,fi,fn,hd,hlt,hel,hj3,hB,hM,e3,e4,hmg]) | (refine w_e [] ?_;intro J hJ;simp only [];simp [f5,fs,fi,fn,hd,hlt,hel,hj3,hB,hM,e3,e4,hmg];(refine hJ _ _ ?_;clear hJ J;simp only [ak,reduceIte]))))
   exact hJO _ _ (by simp [fi]) (by simp [fn]) ⟨by simp [f2],by simp [f3],by simp [f5],by simp [fs],by simp [e1,hG],by simp [e2,hG2],by simp [e4,hB],hkp.trans (Keeps.new _ _),by simp [e3,hM],tt,O,by simp,by omega,by simp [f8],by simp [e5,hO],lt,by simp;omega⟩
  ·have hmg:=hId.2 hin
   rw [if_neg hin] at hJO
   (repeat' (first | refine qS ?_ | (refine qC ?_;simp [f5,fs,fi,fn,hd,hlt,hel,hj3,hB,hM,e3,e4,hmg]) | (refine w_e [] ?_;intro J hJ;simp only [];simp [f5,fs,fi,fn,hd,hlt,hel,hj3,hB,hM,e3,e4,hmg];(try (refine hJ _ _ ?_;clear hJ J;simp only [ak,reduceIte])))))
   refine qE (NoLink' d _) (by simp) ?_;rintro r s1 ⟨rfl,h1⟩
   rw [h1];clear h1 s1
   (repeat' (refine e_go ?_;simp [f8,hO,e5,e6,e7,hol,stp];(repeat refine ca ?_);(refine hJ _ _ ?_;clear hJ J;simp only [ak,reduceIte])))
   refine hJO _ _ (by simp [fi]) (by simp [fn]) ⟨by simp [f2],by simp [f3],by simp [f5],by simp [fs],by simp [e1,show ¬ st.next=s.next+1 by omega,show ¬ st.next=s.next+1+1 by omega,show ¬ st.next=tt by omega,hG],by simp [e1,e2,show ¬ st.next=s.next+1 by omega,show ¬ st.next+1=tt by omega,hG2],by simp [e1,e2,e3,e4,show ¬ st.next+1=s.next by omega,show ¬ st.next+2=s.next by omega,show ¬ st.next+3=tt by omega,hB],?_,by simp [e1,e2,e3,show ¬ st.next+1=s.next by omega,show ¬ st.next+2=tt by omega,hM],s.next+1+1,_,rfl,by simp;omega,by simp [sps_snoc,spL],by simp,by omega,by simp⟩
   (repeat (first | exact hkp | (refine Keeps.trans ?_ (Keeps.new _ _)) | (refine Keeps.set ?_ (by omega) _)))
 clear f2 f3 f5 hG hG2 hB hkp hsn hM a1 a2 a3 a4 fr s
 rintro fr s ⟨f2,f3,f5,fs,hG,hG2,hB,hkp,hM,tt,O,hO1,hOl,f8,hO,lt,ut⟩
 rw [List.take_length] at hO1
 clear fs
 (repeat' (first | refine qS ?_ | refine qB ?_ | (refine w_e [] ?_;intro J hJ;simp only [];simp [f2,hG];(refine hJ _ _ ?_;clear hJ J;simp only [ak,reduceIte]))))
 refine awp_range 56 55 57 70 (a.g.vs.length) (fun j fr st2=>fr 2=.pt st.next 0∧fr 3=.pt (st.next+1) 0∧fr 5=.pt (st.next+3) 0∧fr 54=.sl 0 a.g.vs.length (us a.g.vs)∧st2.H st.next=.box 28 3 (mpL a)∧st2.H (st.next+1)=.box 28 3 (mpL b)∧st2.H (st.next+3)=.box 65 1 [.mp (st.next+2)]∧Keeps st st2∧st2.H (st.next+2)=.map false [.u32] MM∧∃ tt O,O=gone a K++((a.g.vs.take j).filter fun v=>decide (v∉b.g.vs)).map (fun v=>(⟨2,v,0,0,0,0⟩:Sp))∧O.length≤a.g.es.length+j∧fr 8=.sl tt O.length (sps O)∧st2.H tt=.own 38 6 O.length∧st.next+3 < tt∧tt < st2.next) ?_ ?_ ?_
 ·exact ⟨by simp [f2],by simp [f3],by simp [f5],by simp,hG,hG2,hB,hkp,hM,tt,O,by rw [hO1];simp [gone,lessV],by omega,by simp [f8],hO,lt,ut⟩
 ·clear f2 f3 f5 f8 hG hG2 hB hkp hM hO lt ut hO1 hOl fr s tt O
  rintro j fr s hlt ⟨f2,f3,f5,fs,hG,hG2,hB,hkp,hM,tt,O,hO1,hOl,f8,hO,lt,ut⟩ fi fn JO hJO
  have hd:=qG a.g.vs j hlt
  have hst:=vs_take a.g.vs b.g.vs 2 j hlt
  simp only [hst,← List.append_assoc,← hO1] at hJO
  clear hst hO1
  generalize a.g.vs.getD j 0=v at *
  have hol:=sps_length O
  have e5:¬ tt=s.next:=by omega
  have e6:¬ tt=0:=by omega
  have e7:¬ tt=s.next+1:=by omega
  (repeat' (first | refine qS ?_ | (refine w_e [] ?_;intro J hJ;simp only [];simp [f3,hG2,fs,fi,fn,hd,hlt];(try (refine hJ _ _ ?_;clear hJ J;simp only [ak,reduceIte])))))
  refine qE (Vert' b.g v _ (by unfold small;omega)) (by simp) ?_;rintro r s1 ⟨rfl,h1⟩
  rw [h1];clear h1 s1
  by_cases hin:v∈b.g.vs
  ·have hge:¬ gi b.g.vs v < 0:=fun h=>(gi_neg _ v).1 h hin
   rw [if_pos hin,List.append_nil] at hJO
   generalize gi b.g.vs v=gg at *
   (repeat' (first | (refine qK ?_;simp only [ak,reduceIte]) | (refine qC ?_;simp [hge]) | (refine e_go ?_;simp [hge];(refine hJ _ _ ?_;clear hJ J;simp only [ak,reduceIte]))))
   exact hJO _ _ (by simp [fi]) (by simp [fn]) ⟨by simp [f2],by simp [f3],by simp [f5],by simp [fs],hG,hG2,hB,hkp,hM,tt,O,rfl,by omega,by simp [f8],hO,lt,ut⟩
  ·have hge:gi b.g.vs v < 0:=(gi_neg _ v).2 hin
   rw [if_neg hin] at hJO
   generalize gi b.g.vs v=gg at *
   (repeat' (first | (refine qC ?_;simp [hge]) | ((first | (refine w_e [] ?_;intro J hJ;simp only []) | (refine e_go ?_));simp [hge];(try (refine hJ _ _ ?_;clear hJ J;simp only [ak,reduceIte])))))
   refine qE (NoVertex' v _) (by simp) ?_;rintro r s1 ⟨rfl,h1⟩
   rw [h1];clear h1 s1
   (repeat' (refine e_go ?_;simp [f8,hO,e5,e6,e7,hol,stp];(repeat refine ca ?_);(refine hJ _ _ ?_;clear hJ J;simp only [ak,reduceIte])))
   refine hJO _ _ (by simp [fi]) (by simp [fn]) ⟨by simp [f2],by simp [f3],by simp [f5],by simp [fs],by simp [show ¬ st.next=s.next by omega,show ¬ st.next=s.next+1 by omega,show ¬ st.next=tt by omega,hG],by simp [show ¬ st.next=s.next by omega,show ¬ st.next+1=s.next by omega,show ¬ st.next+1=tt by omega,hG2],by simp [show ¬ st.next+3=s.next by omega,show ¬ st.next+2=s.next by omega,show ¬ st.next+3=tt by omega,hB],?_,by simp [show ¬ st.next+1=s.next by omega,show ¬ st.next+2=s.next by omega,show ¬ st.next+2=tt by omega,hM],s.next+1,_,rfl,by simp;omega,by simp [sps_snoc,spL],by simp,by omega,by simp⟩
   (repeat (first | exact hkp | (refine Keeps.trans ?_ (Keeps.new _ _)) | (refine Keeps.set ?_ (by omega) _)))
 clear f2 f3 f5 f8 hG hG2 hB hkp hM hO lt ut hO1 hOl fr s tt O
 rintro fr s ⟨f2,f3,f5,fs,hG,hG2,hB,hkp,hM,tt,O,hO1,hOl,f8,hO,lt,ut⟩
 rw [List.take_length] at hO1
 clear fs
 (repeat' (first | refine qS ?_ | refine qB ?_ | (refine w_e [] ?_;intro J hJ;simp only [];simp [f3,hG2];(refine hJ _ _ ?_;clear hJ J;simp only [ak,reduceIte]))))
 refine awp_range 75 74 76 89 (b.g.vs.length) (fun j fr st2=>fr 2=.pt st.next 0∧fr 3=.pt (st.next+1) 0∧fr 5=.pt (st.next+3) 0∧fr 73=.sl 0 b.g.vs.length (us b.g.vs)∧st2.H st.next=.box 28 3 (mpL a)∧st2.H (st.next+1)=.box 28 3 (mpL b)∧st2.H (st.next+3)=.box 65 1 [.mp (st.next+2)]∧Keeps st st2∧st2.H (st.next+2)=.map false [.u32] MM∧∃ tt O,O=(gone a K++lessV a b)++((b.g.vs.take j).filter fun v=>decide (v∉a.g.vs)).map (fun v=>(⟨1,v,0,0,0,0⟩:Sp))∧O.length≤a.g.es.length+a.g.vs.length+j∧fr 8=.sl tt O.length (sps O)∧st2.H tt=.own 38 6 O.length∧st.next+3 < tt∧tt < st2.next) ?_ ?_ ?_
 ·exact ⟨by simp [f2],by simp [f3],by simp [f5],by simp,hG,hG2,hB,hkp,hM,tt,O,by rw [hO1];simp [gone,lessV],by omega,by simp [f8],hO,lt,ut⟩
 ·clear f2 f3 f5 f8 hG hG2 hB hkp hM hO lt ut hO1 hOl fr s tt O
  rintro j fr s hlt ⟨f2,f3,f5,fs,hG,hG2,hB,hkp,hM,tt,O,hO1,hOl,f8,hO,lt,ut⟩ fi fn JO hJO
  have hd:=qG b.g.vs j hlt
  have hst:=vs_take b.g.vs a.g.vs 1 j hlt
  simp only [hst,← List.append_assoc,← hO1] at hJO
  clear hst hO1
  generalize b.g.vs.getD j 0=v at *
  have hol:=sps_length O
  have e5:¬ tt=s.next:=by omega
  have e6:¬ tt=0:=by omega
  have e7:¬ tt=s.next+1:=by omega
  (repeat' (first | refine qS ?_ | (refine w_e [] ?_;intro J hJ;simp only [];simp [f2,hG,fs,fi,fn,hd,hlt];(try (refine hJ _ _ ?_;clear hJ J;simp only [ak,reduceIte])))))
  refine qE (Vert' a.g v _ (by unfold small;omega)) (by simp) ?_;rintro r s1 ⟨rfl,h1⟩
  rw [h1];clear h1 s1
  by_cases hin:v∈a.g.vs
  ·have hge:¬ gi a.g.vs v < 0:=fun h=>(gi_neg _ v).1 h hin
   rw [if_pos hin,List.append_nil] at hJO
   generalize gi a.g.vs v=gg at *
   (repeat' (first | (refine qK ?_;simp only [ak,reduceIte]) | (refine qC ?_;simp [hge]) | (refine e_go ?_;simp [hge];(refine hJ _ _ ?_;clear hJ J;simp only [ak,reduceIte]))))
   exact hJO _ _ (by simp [fi]) (by simp [fn]) ⟨by simp [f2],by simp [f3],by simp [f5],by simp [fs],hG,hG2,hB,hkp,hM,tt,O,rfl,by omega,by simp [f8],hO,lt,ut⟩
  ·have hge:gi a.g.vs v < 0:=(gi_neg _ v).2 hin
   rw [if_neg hin] at hJO
   generalize gi a.g.vs v=gg at *
   (repeat' (first | (refine qC ?_;simp [hge]) | ((first | (refine w_e [] ?_;intro J hJ;simp only []) | (refine e_go ?_));simp [hge];(try (refine hJ _ _ ?_;clear hJ J;simp only [ak,reduceIte])))))
   refine qE (Vertex' v _) (by simp) ?_;rintro r s1 ⟨rfl,h1⟩
   rw [h1];clear h1 s1
   (repeat' (refine e_go ?_;simp [f8,hO,e5,e6,e7,hol,stp];(repeat refine ca ?_);(refine hJ _ _ ?_;clear hJ J;simp only [ak,reduceIte])))
   refine hJO _ _ (by simp [fi]) (by simp [fn]) ⟨by simp [f2],by simp [f3],by simp [f5],by simp [fs],by simp [show ¬ st.next=s.next by omega,show ¬ st.next=s.next+1 by omega,show ¬ st.next=tt by omega,hG],by simp [show ¬ st.next=s.next by omega,show ¬ st.next+1=s.next by omega,show ¬ st.next+1=tt by omega,hG2],by simp [show ¬ st.next+3=s.next by omega,show ¬ st.next+2=s.next by omega,show ¬ st.next+3=tt by omega,hB],?_,by simp [show ¬ st.next+1=s.next by omega,show ¬ st.next+2=s.next by omega,show ¬ st.next+2=tt by omega,hM],s.next+1,_,rfl,by simp;omega,by simp [sps_snoc,spL],by simp,by omega,by simp⟩
   (repeat (first | exact hkp | (refine Keeps.trans ?_ (Keeps.new _ _)) | (refine Keeps.set ?_ (by omega) _)))
 clear f2 f3 f5 f8 hG hG2 hB hkp hM hO lt ut hO1 hOl fr s tt O
 rintro fr s ⟨f2,f3,f5,fs,hG,hG2,hB,hkp,hM,tt,O,hO1,hOl,f8,hO,lt,ut⟩
 rw [List.take_length] at hO1
 clear fs
 (repeat' (first | refine qS ?_ | refine qB ?_ | (refine w_e [] ?_;intro J hJ;simp only [];simp [f3,f5,hG2];(refine hJ _ _ ?_;clear hJ J;simp only [ak,reduceIte]))))
 refine awp_range 95 94 96 128 (b.g.es.length) (fun j fr st2=>fr 3=.pt (st.next+1) 0∧fr 5=.pt (st.next+3) 0∧fr 15=.fn (.func 47) [.pt (st.next+1) 0,.pt (st.next+3) 0]∧fr 93=.sl 0 b.g.es.length (eds b.g.es)∧st2.H (st.next+1)=.box 28 3 (mpL b)∧st2.H (st.next+3)=.box 65 1 [.mp (st.next+2)]∧Keeps st st2∧∃ MM tt S,S=(b.g.es.take j).foldl (link1 b K) ⟨K,[]⟩∧S.out.length≤j∧st2.H (st.next+2)=.map false [.u32] MM∧InM MM S.T∧fr 8=.sl tt (O.length+S.out.length) (sps (O++S.out))∧st2.H tt=.own 38 6 (O.length+S.out.length)∧st.next+3 < tt∧tt < st2.next) ?_ ?_ ?_
 ·exact ⟨by simp [f3],by simp [f5],by simp,by simp,hG2,hB,hkp,MM,tt,⟨K,[]⟩,by simp,by simp,hM,hI,by simp [f8],by simpa using hO,lt,ut⟩
 ·clear f2 f3 f5 f8 hG hG2 hB hkp hM hO lt ut hI fr s tt MM
  rintro j fr s hlt ⟨f3,f5,f15,f93,hG2,hB,hkp,MM,tt,S,hS,hS1,hM,hI,f8,hO,lt,ut⟩ fi fn JO hJO
  have hd:=eds_drop b.g.es j hlt
  have hel:=eds_length b.g.es
  have hj3:j * 3 < b.g.es.length * 3:=by omega
  have hxin:b.g.es.getD j ed0∈b.g.es:=by rw [getE_lt _ _ hlt];exact List.getElem_mem hlt
  have hst:=foldl_takeE (link1 b K) ⟨K,[]⟩ b.g.es j hlt
  have hiff:=link_out hb K j hlt
  rw [← hS] at hst hiff
  simp only [hst] at hJO
  clear hst hS
  generalize b.g.es.getD j ed0=x at *
  have hx1:=hb.g.pos x hxin
  obtain ⟨d,p,q⟩:=x
  obtain ⟨T,out⟩:=S
  simp only at hd hx1 hS1 hI f8 hO hiff
  have hId:=hI d
  have e1:¬ st.next+1=s.next:=by omega
  have e2:¬ st.next+2=s.next:=by omega
  have e3:¬ st.next+3=s.next:=by omega
  have e4:¬ tt=s.next:=by omega
  by_cases hin:d∈K
  ·have hmg:=hId.1 (hiff.2 hin)
   have hlk:link1 b K ⟨T,out⟩ ⟨d,p,q⟩=⟨T,out⟩:=by unfold link1;rw [if_pos hin]
   rw [hlk] at hJO
   (repeat' (first | refine qS ?_ | (refine qK ?_;simp only [ak,reduceIte]) | (refine qC ?_;simp [f5,f93,fi,fn,hd,hlt,hel,hj3,hB,hM,e2,e3,hmg]) | (refine w_e [] ?_;intro J hJ;simp only [];simp [f5,f93,fi,fn,hd,hlt,hel,hj3,hB,hM,e2,e3,hmg];(refine hJ _ _ ?_;clear hJ J;simp only [ak,reduceIte]))))
   exact hJO _ _ (by simp [fi]) (by simp [fn]) ⟨by simp [f3],by simp [f5],by simp [f15],by simp [f93],by simp [e1,hG2],by simp [e3,hB],hkp.trans (Keeps.new _ _),MM,tt,⟨T,out⟩,rfl,by simp;omega,by simp [e2,hM],hI,by simp [f8],by simp [e4,hO],lt,by simp;omega⟩
  ·have hmg:=hId.2 fun h=>hin (hiff.1 h)
   have hlk:link1 b K ⟨T,out⟩ ⟨d,p,q⟩=⟨T++[d],out++[⟨3,d,p,q,aheadW b p (2 * d) (T++[d]),aheadW b q (2 * d+1) (T++[d])⟩]⟩:=by unfold link1;rw [if_neg hin]
   rw [hlk] at hJO
   have hI2:=hI.add d
   have e5:¬ s.next=st.next+2:=by omega
   (repeat' (first | refine qS ?_ | (refine qC ?_;simp [f5,f93,fi,fn,hd,hlt,hel,hj3,hB,hM,e2,e3,hmg]) | (refine w_e [] ?_;intro J hJ;simp only [];simp [f5,f93,fi,fn,hd,hlt,hel,hj3,hB,hM,e2,e3,hmg];(refine hJ _ _ ?_;clear hJ J;simp only [ak,reduceIte]))))
   (refine w_s [] [s.next] [(0,true),(1,true),(2,true),(3,true),(4,true),(5,true),(6,true),(7,true)] ?_;intro J hJ;simp [f15,e5])
   refine qD (dOf0 d _ hx1) (by simp) ?_;rintro r s1 ⟨rfl,h1⟩
   rw [h1];clear h1 s1
   refine ⟨fun h=>by first | (cases h;done) | simp [e5],?_⟩
   (refine d_go ?_;simp [e5])
   refine qD (Diff_1 b hb p (2 * d) (T++[d]) (st.next+1) (st.next+3) (st.next+2) _ _ hvb heb (by simp [e3,hB]) (by simp [e1,hG2]) (by simp) (by simp;omega) hI2) (by simp) ?_;rintro r s1 ⟨rfl,h1⟩
   rw [h1];clear h1 s1
   refine ⟨fun h=>by first | (cases h;done) | simp [e5],?_⟩
   (refine d_go ?_;simp [e5];(refine hJ _ _ ?_;clear hJ J;simp only [ak,reduceIte]))
   (repeat (refine qS ?_))
   (refine w_s [] [s.next] [(0,true),(1,true),(2,true),(3,true),(4,true),(5,true),(6,true),(7,true)] ?_;intro J hJ;simp [f15,e5])
   refine qD (dOf1 d _ hx1) (by simp) ?_;rintro r s1 ⟨rfl,h1⟩
   rw [h1];clear h1 s1
   refine ⟨fun h=>by first | (cases h;done) | simp [e5],?_⟩
   (refine d_go ?_;simp [e5])
   refine qD (Diff_1 b hb q (2 * d+1) (T++[d]) (st.next+1) (st.next+3) (st.next+2) _ _ hvb heb (by simp [e3,hB]) (by simp [e1,hG2]) (by simp) (by simp;omega) hI2) (by simp) ?_;rintro r s1 ⟨rfl,h1⟩
   rw [h1];clear h1 s1
   refine ⟨fun h=>by first | (cases h;done) | simp [e5],?_⟩
   (refine d_go ?_;simp [e5];(refine hJ _ _ ?_;clear hJ J;simp only [ak,reduceIte]))
   generalize aheadW b p (2 * d) (T++[d])=pa at *
   generalize aheadW b q (2 * d+1) (T++[d])=pb at *
   have hol:=sps_length (O++out)
   rw [List.length_append] at hol
   have e6:¬ tt=st.next+2:=by omega
   have e7:¬ tt=0:=by omega
   have e8:¬ tt=s.next+1:=by omega
   (repeat' (refine w_e [] ?_;intro J hJ;simp only [];simp [f8,e5]))
   refine qE (Link' ⟨d,p,q⟩ pa pb _) (by simp) ?_;rintro r s1 ⟨rfl,h1⟩
   rw [h1];clear h1 s1
   (repeat' (refine e_go ?_;simp [f8,hO,e4,e6,e7,e8,hol,stp];(repeat refine ca ?_);(refine hJ _ _ ?_;clear hJ J;simp only [ak,reduceIte])))
   refine hJO _ _ (by simp [fi]) (by simp [fn]) ⟨by simp [f3],by simp [f5],by simp [f15],by simp [f93],by simp [e1,show ¬ st.next+1=s.next+1 by omega,show ¬ st.next=s.next+1 by omega,show ¬ st.next=s.next by omega,show ¬ st.next+1=tt by omega,hG2],by simp [e3,show ¬ st.next+2=s.next by omega,show ¬ st.next+1=s.next by omega,show ¬ st.next+3=tt by omega,hB],?_,_,s.next+1+1,_,rfl,by simp;omega,by simp [e2,show ¬ st.next+1=s.next by omega,show ¬ st.next=s.next by omega,show ¬ st.next+2=tt by omega],hI2,?_,?_,by omega,by simp⟩
   ·(repeat (first | exact hkp | (refine Keeps.trans ?_ (Keeps.new _ _)) | (refine Keeps.set ?_ (by omega) _)))
   ·simp [sps_snoc,spL,← List.append_assoc];omega
   ·simp;omega
 ·rintro fr s2 ⟨f3',f5',f15',f93',hG2',hB',hkp',MM',tt',S,hS,hS1,hM',hI',f8',hO',l1,l2⟩
  rw [List.take_length] at hS
  have hfin:O++S.out=G0:=by
   rw [hG0,hO1,hS];simp [diffW,moreV,links]
  have hfl:O.length+S.out.length=G0.length:=by rw [← hfin,List.length_append]
  rw [hfin,hfl] at f8'
  (repeat' (first | refine qS ?_ | (refine qR ?_;simp only [ak,reduceIte];simp [f8']) | (refine w_e [] ?_;intro J hJ;simp only [];simp [f8'];(refine hJ _ _ ?_;clear hJ J;simp only [ak,reduceIte]))))
  refine ⟨?_,by omega,by omega,l2,hkp'⟩
  rw [hO',hfl]
theorem dDiffK (a b:Mp) (ha:MapOk a) (hb:MapOk b) (st:St) (hva:a.g.vs.length≤100) (hea:a.g.es.length≤100) (hvb:b.g.vs.length≤100) (heb:b.g.es.length≤100):
 ACalls Tryz.prog 21 [.ag (mpL a),.ag (mpL b)] st fun r st'=>r=.sl 0 (diffW a b (keptW a b)).length (sps (diffW a b (keptW a b)))∧Keeps st st':=
 acalls_frzR ((dDiffT a b ha hb st hva hea hvb heb).mono fun r s hr=>by
  obtain ⟨t,rfl,_,_,_,_,hk⟩:=hr
  exact ⟨_,s,frz_tok s t _ _,rfl,hk⟩)
theorem dDiff (a b:Mp) (ha:MapOk a) (hb:MapOk b) (st:St) (hva:a.g.vs.length≤100) (hea:a.g.es.length≤100) (hvb:b.g.vs.length≤100) (heb:b.g.es.length≤100):
 ACalls Tryz.prog 21 [.ag (mpL a),.ag (mpL b)] st fun r st'=>r=.sl 0 (diffW a b (keptW a b)).length (sps (diffW a b (keptW a b)))∧st'=st:=
 qT (Q:=fun r=>r=.sl 0 (diffW a b (keptW a b)).length (sps (diffW a b (keptW a b)))) (dDiffK a b ha hb st hva hea hvb heb) fun r h=>by subst h;exact ⟨.inl rfl,belL_sps _ _⟩
end Go.Proofs.YtglkgindpjdoiaaGreat.Aw
