/- The document's step, where it can be done. -/
import Derived.Test.YtglkgindpjdoiaaGreatJj
namespace Go.Proofs.YtglkgindpjdoiaaGreat.Aw
open Go Go.RowKit Go.Proofs.YtglkgindpjdoiaaGreat.Pl Go.Proofs.YtglkgindpjdoiaaGreat.Eu
set_option linter.unusedSimpArgs false
set_option linter.unusedVariables false
theorem awp_z0 {P:Program} {N:Nat} {Q:AQ} {fr:Frm} {st:St} {c:Code} (d:Nat) (h:AWp P N c Q (upd fr d (z0 (fr d))) st):AWp P N c Q fr st:=
 awp_ghost (fun _ w g hi hr _=>⟨g,hi,repF_upd hr d (rep_z0 _ _ (hr d)),Ext.refl w g⟩) h
def StI (p:Nat) (m:Mp) (s:Sp) (st:St) (f:Frm) (S:St):Prop:=f 2=.pt p 0∧f 3=.pt (p+1) 0∧f 4=.pt (p+2) 0∧f 6=i (gi m.g.vs s.id)∧S.H p=.box 28 3 (mpL m)∧S.H (p+1)=.box 38 6 (spL s)∧S.H (p+2)=.box 28 3 [.nil,.nil,.nil]∧p+3≤S.next∧Keeps st S
def StJ (p c:Nat) (m:Mp) (vs es:List LV) (nv ne:Nat) (st:St) (f:Frm) (S:St):Prop:=f 2=.pt p 0∧f 4=.pt (p+2) 0∧f 7=.pt c 0∧S.H p=.box 28 3 (mpL m)∧S.H (p+2)=.box 28 3 [.nil,.nil,.nil]∧S.H c=.box 28 3 [.sl 0 nv vs,.sl 0 ne es,.nil]∧(p+3≤c∧c < S.next)∧Keeps st S
theorem er_step {α:Type} (l:List α) (x:α) (j k:Nat) (hl:l.length=j):(l++[x]).eraseIdx k=if j=k then l.eraseIdx k else l.eraseIdx k++[x]:=by
 rcases Nat.lt_trichotomy k j with h | h | h
 ·rw [if_neg (by omega),List.eraseIdx_append_of_lt_length (by omega)]
 ·have e:k - l.length=0:=by omega
  rw [if_pos h.symm,List.eraseIdx_append_of_length_le (by omega),e,List.eraseIdx_of_length_le (l:=l) (by omega)]
  simp
 ·rw [if_neg (by omega),List.eraseIdx_of_length_le (by simp;omega),List.eraseIdx_of_length_le (l:=l) (by omega)]
theorem drt_u32 {m:Mp} (hm:Drw m):∀ t∈m.rots,∀ d∈t,0≤d∧d < 4294967296:=fun t ht d hd=>by
 have:=dart_range hm.ok (hm.ok.turn_dart ht hd);omega
set_option maxHeartbeats 8000000 in
theorem refStep4 (m:Mp) (id:Int) (st:St) (hm:Drw m) (hid:numI id) (h0:noLinkW m id=0):
 ACalls Tryz.prog 50 [.ag (mpL m),.ag (spL ⟨4,id,0,0,0,0⟩)] st fun r st'=>r=.tu [.ag (mpL (lessM m id)),i 0]∧Keeps st st':=by
 have hvl:=hm.v
 have hel:=hm.e
 have hfe:¬ fe m.g.es id < 0:=by unfold noLinkW at h0;split at h0;cases h0;assumption
 obtain ⟨s0,hs0⟩:∃ s:Sp,s=⟨4,id,0,0,0,0⟩:=⟨_,rfl⟩
 have hdr:=drt_u32 hm
 have hK:=fun Z ti st hI=>rKeep m Z ti st (by omega) (by omega) (by have:=hm.ok.len;omega) (fun t ht=>by have:=hm.ok.row_le ht;omega) hI hdr
 have hles:=less_kept hm.ok id
 have hZs:small ((m.g.es.filter fun y=>decide (y.id≠id)).map (·.id)):=by unfold small;rw [List.length_map];exact Nat.le_trans (List.length_filter_le _ _) (by omega)
 refine qO tabOk Tryz.func50 rfl rfl Tryz.ntmps50 (rs:=[.cell 4 28,.tmp 5]) rfl (by simp) ?_
 refine awp_posG fun hpos=>?_
 obtain ⟨p,hp⟩:∃ p,p=st.next:=⟨_,rfl⟩
 have x1:¬ st.next=st.next+1:=by omega
 have x2:¬ st.next=st.next+1+1:=by omega
 have x3:¬ st.next+1=st.next+1+1:=by omega
 (repeat' (first | refine qS ?_ | (refine qK ?_;simp only [ak,reduceIte]) | (refine qC ?_;simp [spL,x1,x2,x3]) | (refine w_e [] ?_;intro J hJ;simp only [];simp [spL,x1,x2,x3];(try (refine hJ _ _ ?_;clear hJ J;simp only [ak,reduceIte])))))
 refine qE (refBad id _ hid) (by simp) ?_;rintro r s1 ⟨rfl,h7⟩
 rw [h7];clear h7 s1
 (repeat' (first | refine qS ?_ | (refine qK ?_;simp only [ak,reduceIte]) | (refine qC ?_;simp [x1,x2,x3]) | ((first | (refine w_e [] ?_;intro J hJ;simp only []) | (refine e_go ?_));simp [x1,x2,x3];(try (refine hJ _ _ ?_;clear hJ J;simp only [ak,reduceIte])))))
 refine qE (refPlace m id _ (by omega)) (by simp) ?_;rintro r s1 ⟨rfl,h7⟩
 rw [h7];clear h7 s1
 (refine e_go ?_;simp [];(refine hJ _ _ ?_;clear hJ J;simp only [ak,reduceIte]))
 refine awp_weakS (StI p m s0 st) ?_ ?_
 ·subst hp
  rw [hs0]
  exact ⟨by simp,by simp,by simp,by simp,by simp [x1,x2,x3],by simp [x1,x2,x3,spL],by simp,by simp,((Keeps.new _ _).trans (Keeps.new _ _)).trans (Keeps.new _ _)⟩
 clear x1 x2 x3
 rintro fr S ⟨f2,f3,f4,f6,hA,hB,hC,hn,hk⟩
 rw [hs0] at f6 hB
 simp only [spL] at hB
 simp only at f6
 have hids:=refIds m id
 generalize (m.g.es.filter fun y=>decide (y.id≠id)).map (·.id)=Z at *
 (repeat' (first | refine qS ?_ | refine qB ?_ | (refine qC ?_;simp [f2,f3,f4,f6,hA,hB]) | (refine w_e [] ?_;intro J hJ;simp only [];simp [f2,f3,f4,f6,hA,hB];(try (refine hJ _ _ ?_;clear hJ J;simp only [ak,reduceIte])))))
 refine qE (refFind' m.g id _ (by omega)) (by simp [grL]) ?_;rintro r s1 ⟨rfl,h7⟩
 rw [h7];clear h7 s1
 generalize fe m.g.es id=ff at *
 (repeat' (first | refine qS ?_ | (refine qK ?_;simp only [ak,reduceIte]) | (refine qC ?_;simp [f2,f3,f4,f6,hA,hB,hfe]) | (refine e_go ?_;simp [f2,f3,f4,f6,hA,hB,hfe];(refine hJ _ _ ?_;clear hJ J;simp only [ak,reduceIte]))))
 (refine w_s [] [p,p+1] [(0,true),(1,true),(2,true),(3,true),(4,true),(5,true),(6,false),(7,true)] ?_;intro J hJ;simp [f2,f3,f4,f6,hA,hB])
 refine qD (hids _ (by omega)) (by simp) ?_;rintro r s1 ⟨rfl,h7⟩
 rw [h7];clear h7 s1
 refine ⟨fun h=>by first | (cases h;done) | simp,?_⟩
 (refine d_go ?_;simp [f2,f3,f4,f6,hA,hB])
 refine qD (hK Z 0 _ hZs) (by simp [mpL]) ?_;rintro r s1 ⟨rfl,h7⟩
 rw [h7];clear h7 s1
 refine ⟨fun h=>by first | (cases h;done) | simp,?_⟩
 rw [← hles]
 (refine d_go ?_;simp [f2,f3,f4,f6,hA,hB,hC];(refine hJ _ _ ?_;clear hJ J;simp only [ak,reduceIte]))
 (repeat' (refine qR ?_;simp only [ak,reduceIte];simp [f4]))
 exact hk.set (by omega) _
set_option maxHeartbeats 8000000 in
theorem refStep3 (m:Mp) (id a b pa pb:Int) (st:St) (hm:Drw m) (hid:numI id) (hna:numI a) (hnb:numI b) (h0:linkW m ⟨3,id,a,b,pa,pb⟩=0):
 ACalls Tryz.prog 50 [.ag (mpL m),.ag (spL ⟨3,id,a,b,pa,pb⟩)] st fun r st'=>r=.tu [.ag (mpL (linkM m ⟨id,a,b⟩ pa pb)),i 0]∧Keeps st st':=by
 have hvl:=hm.v
 have hel:=hm.e
 obtain ⟨s0,hs0⟩:∃ s:Sp,s=⟨3,id,a,b,pa,pb⟩:=⟨_,rfl⟩
 have hL:=fun st=>refLink m ⟨3,id,a,b,pa,pb⟩ st hm hid h0
 refine qO tabOk Tryz.func50 rfl rfl Tryz.ntmps50 (rs:=[.cell 4 28,.tmp 5]) rfl (by simp) ?_
 refine awp_posG fun hpos=>?_
 obtain ⟨p,hp⟩:∃ p,p=st.next:=⟨_,rfl⟩
 have x1:¬ st.next=st.next+1:=by omega
 have x2:¬ st.next=st.next+1+1:=by omega
 have x3:¬ st.next+1=st.next+1+1:=by omega
 (repeat' (first | refine qS ?_ | (refine qK ?_;simp only [ak,reduceIte]) | (refine qC ?_;simp [spL,x1,x2,x3]) | (refine w_e [] ?_;intro J hJ;simp only [];simp [spL,x1,x2,x3];(try (refine hJ _ _ ?_;clear hJ J;simp only [ak,reduceIte])))))
 refine qE (refBad id _ hid) (by simp) ?_;rintro r s1 ⟨rfl,h7⟩
 rw [h7];clear h7 s1
 (repeat' (refine e_go ?_;simp [x1,x2,x3]))
 refine qE (refBad a _ hna) (by simp) ?_;rintro r s1 ⟨rfl,h7⟩
 rw [h7];clear h7 s1
 (repeat' (refine e_go ?_;simp [x1,x2,x3]))
 refine qE (refBad b _ hnb) (by simp) ?_;rintro r s1 ⟨rfl,h7⟩
 rw [h7];clear h7 s1
 (repeat' (first | refine qS ?_ | (refine qK ?_;simp only [ak,reduceIte]) | (refine qC ?_;simp [x1,x2,x3]) | ((first | (refine w_e [] ?_;intro J hJ;simp only []) | (refine e_go ?_));simp [x1,x2,x3];(try (refine hJ _ _ ?_;clear hJ J;simp only [ak,reduceIte])))))
 refine qE (refPlace m id _ (by omega)) (by simp) ?_;rintro r s1 ⟨rfl,h7⟩
 rw [h7];clear h7 s1
 (refine e_go ?_;simp [];(refine hJ _ _ ?_;clear hJ J;simp only [ak,reduceIte]))
 refine awp_weakS (StI p m s0 st) ?_ ?_
 ·subst hp
  rw [hs0]
  exact ⟨by simp,by simp,by simp,by simp,by simp [x1,x2,x3],by simp [x1,x2,x3,spL],by simp,by simp,((Keeps.new _ _).trans (Keeps.new _ _)).trans (Keeps.new _ _)⟩
 clear x1 x2 x3
 rintro fr S ⟨f2,f3,f4,f6,hA,hB,hC,hn,hk⟩
 rw [hs0] at f6 hB
 simp only [spL] at hB
 simp only at f6
 simp only [spL] at hL
 (repeat' (first | refine qS ?_ | refine qB ?_ | (refine qK ?_;simp only [ak,reduceIte]) | (refine qC ?_;simp [f2,f3,f4,f6,hA,hB]) | (refine w_e [] ?_;intro J hJ;simp only [];simp [f2,f3,f4,f6,hA,hB];(try (refine hJ _ _ ?_;clear hJ J;simp only [ak,reduceIte])))))
 refine qE (hL _) (by simp) ?_;rintro r s1 ⟨rfl,h7⟩
 rw [h7];clear h7 s1
 (repeat' (first | (refine qR ?_;simp only [ak,reduceIte];simp [f2,f3,f4,f6,hA,hB,hC]) | (refine e_go ?_;simp [f2,f3,f4,f6,hA,hB,hC];(refine hJ _ _ ?_;clear hJ J;simp only [ak,reduceIte]))))
 exact hk.set (by omega) _
set_option maxHeartbeats 8000000 in
theorem refStep2 (m:Mp) (id:Int) (st:St) (hm:Drw m) (hid:numI id) (h0:noVertexW m id=0):
 ACalls Tryz.prog 50 [.ag (mpL m),.ag (spL ⟨2,id,0,0,0,0⟩)] st fun r st'=>∃ y s',Frz st' s' r y∧y=.tu [.ag (mpL (delV m id)),i 0]∧Keeps st s':=by
 have hvl:=hm.v
 have hel:=hm.e
 have hlen:=hm.ok.len
 obtain ⟨hv,hr0⟩:=noVertexW_zero h0
 have hgi:=gi_mem hv
 have hki:m.g.vs.idxOf id < m.g.vs.length:=List.idxOf_lt_length_of_mem hv
 obtain ⟨s0,hs0⟩:∃ s:Sp,s=⟨2,id,0,0,0,0⟩:=⟨_,rfl⟩
 refine qO tabOk Tryz.func50 rfl rfl Tryz.ntmps50 (rs:=[.cell 4 28,.tmp 5]) rfl (by simp) ?_
 refine awp_posG fun hpos=>?_
 obtain ⟨p,hp⟩:∃ p,p=st.next:=⟨_,rfl⟩
 have x1:¬ st.next=st.next+1:=by omega
 have x2:¬ st.next=st.next+1+1:=by omega
 have x3:¬ st.next+1=st.next+1+1:=by omega
 (repeat' (first | refine qS ?_ | (refine qK ?_;simp only [ak,reduceIte]) | (refine qC ?_;simp [spL,x1,x2,x3]) | (refine w_e [] ?_;intro J hJ;simp only [];simp [spL,x1,x2,x3];(try (refine hJ _ _ ?_;clear hJ J;simp only [ak,reduceIte])))))
 refine qE (refBad id _ hid) (by simp) ?_;rintro r s1 ⟨rfl,h7⟩
 rw [h7];clear h7 s1
 (repeat' (first | refine qS ?_ | (refine qK ?_;simp only [ak,reduceIte]) | (refine qC ?_;simp [x1,x2,x3]) | ((first | (refine w_e [] ?_;intro J hJ;simp only []) | (refine e_go ?_));simp [x1,x2,x3];(try (refine hJ _ _ ?_;clear hJ J;simp only [ak,reduceIte])))))
 refine qE (refPlace m id _ (by omega)) (by simp) ?_;rintro r s1 ⟨rfl,h7⟩
 rw [h7];clear h7 s1
 (refine e_go ?_;simp [];(refine hJ _ _ ?_;clear hJ J;simp only [ak,reduceIte]))
 refine awp_weakS (StI p m s0 st) ?_ ?_
 ·subst hp
  rw [hs0]
  exact ⟨by simp,by simp,by simp,by simp,by simp [x1,x2,x3],by simp [x1,x2,x3,spL],by simp,by simp,((Keeps.new _ _).trans (Keeps.new _ _)).trans (Keeps.new _ _)⟩
 clear x1 x2 x3
 rintro fr S ⟨f2,f3,f4,f6,hA,hB,hC,hn,hk⟩
 rw [hs0] at f6 hB
 simp only [spL] at hB
 simp only at f6
 rw [hgi] at f6
 generalize hkd:m.g.vs.idxOf id=k at *
 have ik:k < m.rots.length:=by omega
 have ik':(k:Int) < m.rots.length:=by omega
 have hk0:¬ (k:Int) < 0:=by omega
 have hda:=rowsL_drop m.rots k ik
 rw [hr0] at hda
 have hDv:(delV m id).g.vs=m.g.vs.eraseIdx k:=by unfold delV;rw [List.eraseIdx_eq_take_drop_succ,hkd]
 have hDr:(delV m id).rots=m.rots.eraseIdx k:=by unfold delV;rw [List.eraseIdx_eq_take_drop_succ,hkd]
 have hDe:(delV m id).g.es=m.g.es:=rfl
 have n1:¬ p=S.next:=by omega
 have n2:¬ p+2=S.next:=by omega
 (repeat' (first | refine qS ?_ | refine qB ?_ | (refine qK ?_;simp only [ak,reduceIte]) | (refine qC ?_;simp [f2,f3,f4,f6,hA,hB,hk0,hda,ik,ik',n1,n2]) | (refine w_e [] ?_;intro J hJ;simp only [];simp [f2,f3,f4,f6,hA,hB,hk0,hda,ik,ik',n1,n2];(refine hJ _ _ ?_;clear hJ J;simp only [ak,reduceIte]))))
 refine awp_cell S.next 29 1 (e:=28) (s:=3) [] [.sl 0 m.g.es.length (eds m.g.es),.nil] (by simp) ?_
 refine awp_cell S.next 22 1 (e:=28) (s:=3) [.sl (S.next+1) 0 [],.sl 0 m.g.es.length (eds m.g.es)] [] (by simp) ?_
 refine awp_range 146 145 147 172 (m.g.vs.length) (fun j fr st2=>fr 2=.pt p 0∧fr 4=.pt (p+2) 0∧fr 6=i k∧fr 12=.pt S.next 0∧fr 144=.sl 0 m.g.vs.length (us m.g.vs)∧st2.H p=.box 28 3 (mpL m)∧st2.H (p+2)=.box 28 3 [.nil,.nil,.nil]∧Keeps st st2∧∃ tv tr,st2.H S.next=.box 28 3 [.sl tv ((m.g.vs.take j).eraseIdx k).length (us ((m.g.vs.take j).eraseIdx k)),.sl 0 m.g.es.length (eds m.g.es),.sl tr ((m.rots.take j).eraseIdx k).length (rowsL ((m.rots.take j).eraseIdx k))]∧st2.H tv=.own 29 1 ((m.g.vs.take j).eraseIdx k).length∧st2.H tr=.own 22 1 ((m.rots.take j).eraseIdx k).length∧tv≠tr∧S.next < tv∧S.next < tr∧tv < st2.next∧tr < st2.next) ?_ ?_ ?_
 ·refine ⟨by simp [f2],by simp [f4],by simp [f6],by simp,by simp,by simp [n1,hA,show ¬ p=S.next+1 by omega,show ¬ p=S.next+1+1 by omega],by simp [n2,hC,show ¬ p+1=S.next by omega,show ¬ p=S.next by omega],?_,S.next+1,S.next+1+1,by simp [us],by simp [show ¬ S.next+1+1=S.next by omega],by simp [show ¬ S.next+1+1=S.next by omega],by omega,by omega,by omega,by simp,by simp⟩
  (repeat (first | exact hk | (refine Keeps.trans ?_ (Keeps.new _ _)) | (refine Keeps.set ?_ (by first | omega | (simp;done) | (simp;omega)) _)))
 ·rintro j fr s hlt ⟨g2,g4,g6,g12,g144,hA,hC,hkp,tv,tr,hD,hOv,hOr,hne,lv,lr,uv,ur⟩ fi fn JO hJO
  have hlr:j < m.rots.length:=by omega
  have hd:=qG m.g.vs j hlt
  have hdr:=rowsL_drop m.rots j hlr
  have s1:(m.g.vs.take (j+1)).eraseIdx k=if j=k then (m.g.vs.take j).eraseIdx k else (m.g.vs.take j).eraseIdx k++[m.g.vs.getD j 0]:=by
   rw [List.take_succ_eq_append_getElem hlt,er_step _ _ j k (by simp;omega),getD_lt _ _ hlt]
  have s2:(m.rots.take (j+1)).eraseIdx k=if j=k then (m.rots.take j).eraseIdx k else (m.rots.take j).eraseIdx k++[m.rots.getD j []]:=by
   rw [List.take_succ_eq_append_getElem hlr,er_step _ _ j k (by simp;omega),getR_lt _ _ hlr]
  have z1:=List.length_eraseIdx_le (m.g.vs.take j) k
  have z2:=List.length_eraseIdx_le (m.rots.take j) k
  rw [List.length_take] at z1 z2
  rw [s1,s2] at hJO
  clear s1 s2
  generalize (m.g.vs.take j).eraseIdx k=V at *
  generalize (m.rots.take j).eraseIdx k=F at *
  generalize m.g.vs.getD j 0=v at *
  generalize m.rots.getD j []=t at *
  have y1:¬ S.next=s.next:=by omega
  have y2:¬ S.next=tv:=by omega
  have y3:¬ S.next=tr:=by omega
  have y4:¬ tv=0:=by omega
  have y5:¬ tr=0:=by omega
  have y6:¬ tv=s.next:=by omega
  have y7:¬ tr=s.next:=by omega
  have y8:¬ S.next=s.next+1:=by omega
  have y9:¬ tr=s.next+1:=by omega
  have y10:¬ tr=tv:=fun e=>hne e.symm
  have y11:¬ p=s.next:=by omega
  have y12:¬ p=s.next+1:=by omega
  have y13:¬ p=tv:=by omega
  have y14:¬ p=tr:=by omega
  have y15:¬ p=s.next+1+1:=by omega
  have y16:¬ p=s.next+1+1+1:=by omega
  have y17:¬ S.next=s.next+1+1:=by omega
  have y18:¬ S.next=s.next+1+1+1:=by omega
  have y19:¬ tr=s.next+1+1:=by omega
  have y20:¬ tr=S.next:=by omega
  have y21:¬ tv=S.next:=by omega
  have y22:¬ p+2=s.next:=by omega
  have y23:¬ p+2=s.next+1:=by omega
  have y24:¬ p+2=tv:=by omega
  have y25:¬ p+2=tr:=by omega
  have y26:¬ p+1=s.next:=by omega
  have y27:¬ s.next+1=S.next:=by omega
  have y28:¬ s.next+1+1+1=S.next:=by omega
  have y29:¬ s.next+1=tr:=by omega
  have hFl:(rowsL F).length=F.length:=by simp
  have hlr':(j:Int) < m.rots.length:=by omega
  by_cases hjk:j=k
  ·have hb:((j:Int) != (k:Int))=false:=by rw [bne_eq_false_iff_eq,hjk]
   rw [if_pos hjk,if_pos hjk] at hJO
   (repeat' (first | refine qS ?_ | (refine qK ?_;simp only [ak,reduceIte]) | (refine qC ?_;simp [g2,g4,g6,g12,g144,fi,fn,hd,hlt,hb]) | (refine w_e [] ?_;intro J hJ;simp only [];simp [g2,g4,g6,g12,g144,fi,fn,hd,hlt,hb];(refine hJ _ _ ?_;clear hJ J;simp only [ak,reduceIte]))))
   exact hJO _ _ (by simp [fi]) (by simp [fn]) ⟨by simp [g2],by simp [g4],by simp [g6],by simp [g12],by simp [g144],hA,hC,hkp,tv,tr,hD,hOv,hOr,hne,lv,lr,uv,ur⟩
  ·have hb:((j:Int) != (k:Int))=true:=by simp;omega
   rw [if_neg hjk,if_neg hjk] at hJO
   (repeat' (first | refine qS ?_ | (refine qC ?_;simp [g2,g4,g6,g12,g144,fi,fn,hd,hlt,hb,hA,hD,hOv,y1,y2,y3,y4,y5,y6,y7,y8,y9,y10]) | (refine w_e [] ?_;intro J hJ;simp only [];simp [g2,g4,g6,g12,g144,fi,fn,hd,hlt,hb,hA,hD,hOv,y1,y2,y3,y4,y5,y6,y7,y8,y9,y10];(repeat refine ca ?_);(refine hJ _ _ ?_;clear hJ J;simp only [ak,reduceIte]))))
   (refine w_s [] [p,S.next] [(0,true),(1,true),(2,true),(3,true),(4,true),(5,true),(6,true),(7,true),(8,true),(9,true),(10,false)] ?_;intro J hJ;simp [g2,g12,hA,hdr,hlr,hlr',hD,hOr,hFl,n1,n2,y1,y2,y3,y4,y5,y6,y7,y8,y9,y10,y11,y12,y13,y14,y15,y16,y17,y18,y19,y20];(repeat refine ca ?_);(refine hJ _ _ ?_;clear hJ J;simp only [ak,reduceIte]))
   refine hJO _ _ (by simp [fi]) (by simp [fn]) ⟨by simp [g2],by simp [g4],by simp [g6],by simp [g12],by simp [g144],by simp [n1,n2,y1,y2,y3,y4,y5,y6,y7,y8,y9,y10,y11,y12,y13,y14,y15,y16,y17,y18,y19,y20,y21,y22,y23,y24,y25,y26,y27,y28,y29,hA],by simp [n1,n2,y1,y2,y3,y4,y5,y6,y7,y8,y9,y10,y11,y12,y13,y14,y15,y16,y17,y18,y19,y20,y21,y22,y23,y24,y25,y26,y27,y28,y29,hC],?_,s.next+1,s.next+1+1+1,by simp [us,rowsL],by simp [n1,n2,y1,y2,y3,y4,y5,y6,y7,y8,y9,y10,y11,y12,y13,y14,y15,y16,y17,y18,y19,y20,y21,y22,y23,y24,y25,y26,y27,y28,y29],by simp [n1,n2,y1,y2,y3,y4,y5,y6,y7,y8,y9,y10,y11,y12,y13,y14,y15,y16,y17,y18,y19,y20,y21,y22,y23,y24,y25,y26,y27,y28,y29],by omega,by omega,by omega,by simp<;>omega,by simp<;>omega⟩
   (repeat (first | exact hkp | (refine Keeps.trans ?_ (Keeps.new _ _)) | (refine Keeps.set ?_ (by first | omega | (simp;done) | (simp;omega)) _)))
 ·rintro fr s ⟨g2,g4,g6,g12,g144,hA,hC,hkp,tv,tr,hD,hOv,hOr,hne,lv,lr,uv,ur⟩
  rw [List.take_length,show m.rots.take m.g.vs.length=m.rots from List.take_of_length_le (by omega),← hDv,← hDr,← hDe] at hD
  (repeat' (first | refine qS ?_ | (refine qR ?_;simp only [ak,reduceIte];simp [g12,g4,hD,hC]) | (refine w_e [] ?_;intro J hJ;simp only [];simp [g12,g4,hD,hC];(refine hJ _ _ ?_;clear hJ J;simp only [ak,reduceIte]))))
  exact ⟨_,_,frz_tu (frzL_cons (frz_ag (frzL_cons (frz_tok _ _ _ _) (frzL_cons (frz_same _ _) (frzL_cons (frz_tok _ _ _ _) (frzL_same _ []))))) (frzL_same _ _)),rfl,hkp.set (by omega) _⟩
set_option maxHeartbeats 16000000 in
theorem refStep1 (m:Mp) (id:Int) (st:St) (hm:Drw m) (hid:numI id) (h0:vertexW m id=0):
 ACalls Tryz.prog 50 [.ag (mpL m),.ag (spL ⟨1,id,0,0,0,0⟩)] st fun r st'=>∃ y s',Frz st' s' r y∧y=.tu [.ag (mpL (addV m id)),i 0]∧Keeps st s':=by
 have hvl:=hm.v
 have hel:=hm.e
 have hlen:=hm.ok.len
 obtain ⟨hv,h64⟩:=vertexW_zero h0
 have hgi:gi m.g.vs id < 0:=(gi_neg _ _).2 hv
 have hgi':¬ 0≤gi m.g.vs id:=by omega
 have h64':¬ (64:Int)≤m.g.vs.length:=by omega
 have hVs:=insV_more hm.ok.g.rise hv
 have hEs:=insE_same hm.ok.g.ids
 have hRs:=addV_rows hm.ok hv
 have hVe:(addV m id).g.es=m.g.es:=rfl
 have hVl:(addV m id).g.vs.length=m.g.vs.length+1:=by unfold addV;simp;have:=lss_le m.g.vs id;omega
 obtain ⟨s0,hs0⟩:∃ s:Sp,s=⟨1,id,0,0,0,0⟩:=⟨_,rfl⟩
 refine qO tabOk Tryz.func50 rfl rfl Tryz.ntmps50 (rs:=[.cell 4 28,.tmp 5]) rfl (by simp) ?_
 refine awp_posG fun hpos=>?_
 obtain ⟨p,hp⟩:∃ p,p=st.next:=⟨_,rfl⟩
 have x1:¬ st.next=st.next+1:=by omega
 have x2:¬ st.next=st.next+1+1:=by omega
 have x3:¬ st.next+1=st.next+1+1:=by omega
 (repeat' (first | refine qS ?_ | (refine qK ?_;simp only [ak,reduceIte]) | (refine qC ?_;simp [spL,x1,x2,x3]) | (refine w_e [] ?_;intro J hJ;simp only [];simp [spL,x1,x2,x3];(try (refine hJ _ _ ?_;clear hJ J;simp only [ak,reduceIte])))))
 refine qE (refBad id _ hid) (by simp) ?_;rintro r s1 ⟨rfl,h7⟩
 rw [h7];clear h7 s1
 (repeat' (first | refine qS ?_ | (refine qK ?_;simp only [ak,reduceIte]) | (refine qC ?_;simp [x1,x2,x3]) | ((first | (refine w_e [] ?_;intro J hJ;simp only []) | (refine e_go ?_));simp [x1,x2,x3];(try (refine hJ _ _ ?_;clear hJ J;simp only [ak,reduceIte])))))
 refine qE (refPlace m id _ (by omega)) (by simp) ?_;rintro r s1 ⟨rfl,h7⟩
 rw [h7];clear h7 s1
 (refine e_go ?_;simp [];(refine hJ _ _ ?_;clear hJ J;simp only [ak,reduceIte]))
 refine awp_weakS (StI p m s0 st) ?_ ?_
 ·subst hp
  rw [hs0]
  exact ⟨by simp,by simp,by simp,by simp,by simp [x1,x2,x3],by simp [x1,x2,x3,spL],by simp,by simp,((Keeps.new _ _).trans (Keeps.new _ _)).trans (Keeps.new _ _)⟩
 clear x1 x2 x3
 rintro fr S ⟨f2,f3,f4,f6,hA,hB,hC,hn,hk⟩
 rw [hs0] at f6 hB
 simp only [spL] at hB
 simp only at f6
 generalize hgg:gi m.g.vs id=gg at *
 have hMk:∀ (tv te:Nat) (S:St),ACalls Tryz.prog 76 [.sl tv (m.g.vs.length+1) (us m.g.vs++[u id]),.sl te m.g.es.length (eds m.g.es)] S fun r S'=>r=.ag [.sl 0 (addV m id).g.vs.length (us (addV m id).g.vs),.sl 0 m.g.es.length (eds m.g.es)]∧S'=S:=fun tv te S=>by
  have:=refMake' (m.g.vs++[id]) m.g.es tv te S (by simp;omega) (by omega)
  rw [hVs,hEs] at this
  simpa [us,grL] using this
 rw [hRs,List.length_map,hVe]
 clear hVs hEs hRs hVe
 generalize (addV m id).g.vs=V at *
 have hL:z0L (us m.g.vs)=us m.g.vs:=z0M_us _
 have hL2:(us m.g.vs).length=m.g.vs.length:=by simp [us]
 have hone:(1:Nat)+0=1:=rfl
 have k2:∀ n:Nat,¬ n+1+1=n:=fun n=>by omega
 have k3:∀ n:Nat,¬ n+1+1+1=n:=fun n=>by omega
 have k4:∀ n:Nat,¬ n+1+1+1+1=n:=fun n=>by omega
 have k5:∀ n:Nat,¬ n=n+1+1:=fun n=>by omega
 have k6:∀ n:Nat,¬ n=n+1+1+1:=fun n=>by omega
 have k7:∀ n:Nat,¬ n=n+1+1+1+1:=fun n=>by omega
 have g1:¬ p=S.next:=by omega
 have g2:¬ p=S.next+1:=by omega
 have g3:¬ p=S.next+1+1:=by omega
 have g4:¬ p=S.next+1+1+1:=by omega
 have g5:¬ p=S.next+1+1+1+1:=by omega
 have g6:¬ p+1=S.next:=by omega
 have g7:¬ p+1=S.next+1:=by omega
 have g8:¬ p+1=S.next+1+1:=by omega
 have g9:¬ p+1=S.next+1+1+1:=by omega
 have g10:¬ p+1=S.next+1+1+1+1:=by omega
 have g11:¬ p+2=S.next:=by omega
 have g12:¬ p+2=S.next+1:=by omega
 have g13:¬ p+2=S.next+1+1:=by omega
 have g14:¬ p+2=S.next+1+1+1:=by omega
 have g15:¬ p+2=S.next+1+1+1+1:=by omega
 (repeat' (first | refine qS ?_ | refine qB ?_ | (refine qK ?_;simp only [ak,reduceIte]) | (refine qC ?_;simp [f2,f3,f4,f6,hA,hB,hgi',h64']) | (refine w_e [] ?_;intro J hJ;simp only [];simp [f2,f3,f4,f6,hA,hB,hgi',h64'];(refine hJ _ _ ?_;clear hJ J;simp only [ak,reduceIte]))))
 have hF:=And.intro f2 ( And.intro f3 ( And.intro hA ( And.intro hB ( And.intro hL ( And.intro hL2 ( And.intro hone ( And.intro k2 ( And.intro k3 ( And.intro k4 ( And.intro k5 ( And.intro k6 ( And.intro k7 ( And.intro g1 ( And.intro g2 ( And.intro g3 ( And.intro g4 ( And.intro g5 ( And.intro g6 ( And.intro g7 ( And.intro g8 (And.intro g9 g10)))))))))))))))))))))
 have hG:=And.intro g11 ( And.intro g12 ( And.intro g13 ( And.intro g14 (And.intro g15 hC))))
 refine awp_cutN (fun f T=>∃ c,StJ p c m (us V) (eds m.g.es) V.length m.g.es.length st f T) ?_ ?_
 ·skip
  refine w_a [] [p,p+1] ?_;intro J hJ
  refine a_pre 8 [(1,true),(2,true),(3,true),(5,true),(6,true),(9,true),(10,true),(11,true)] ?_
  simp [hF]
  (repeat refine ca ?_)
  refine a_alt3 7 (0,true) (7,true) (14,true) ?_ ?_ ?_
  ·simp [hF]
   (repeat refine ca ?_)
   refine a_alt3 6 (4,true) (7,true) (14,true) ?_ ?_ ?_
   ·simp [hF]
    (repeat refine ca ?_)
    refine a_alt2 5 (7,true) (14,true) ?_ ?_
    ·simp [hF]
     (repeat refine ca ?_)
     refine a_alt2 4 (8,true) (14,true) ?_ ?_
     ·simp [hF]
      (repeat refine ca ?_)
      refine a_alt2 3 (12,true) (14,true) ?_ ?_
      ·simp [hF]
       (repeat refine ca ?_)
       refine qD (hMk _ _ _) (by simp<;>exact ⟨rfl,rfl⟩) ?_;rintro r s1 ⟨rfl,h7⟩
       rw [h7];clear h7 s1
       refine ⟨fun h=>by first | (cases h;done) | simp [hF],?_⟩
       (try simp [hF])
       (repeat refine ca ?_)
       refine a_pre 0 [(13,true),(14,true),(15,true)] ?_
       simp [hF]
       refine aany_end (hJ _ _ ?_)
       simp only [ak]
       refine ⟨by trivial,S.next+1+1+1+1,by simp [f2],by simp [f4],by simp,by simp [hF],by simp [hF,hG],by simp [hF],⟨by omega,by simp<;>omega⟩,?_⟩
       (repeat (first | exact hk | (refine Keeps.trans ?_ (Keeps.new _ _)) | (refine Keeps.set ?_ (by first | omega | (simp;done) | (simp;omega)) _)))
      ·simp [hF]
       (repeat refine ca ?_)
       refine a_pre 0 [(12,true),(13,true),(15,true)] ?_
       simp [hF]
       (repeat refine ca ?_)
       refine qD (hMk _ _ _) (by simp<;>exact ⟨rfl,rfl⟩) ?_;rintro r s1 ⟨rfl,h7⟩
       rw [h7];clear h7 s1
       refine ⟨fun h=>by first | (cases h;done) | simp [hF],?_⟩
       (try simp [hF])
       refine aany_end (hJ _ _ ?_)
       simp only [ak]
       refine ⟨by trivial,S.next+1+1+1+1,by simp [f2],by simp [f4],by simp,by simp [hF],by simp [hF,hG],by simp [hF],⟨by omega,by simp<;>omega⟩,?_⟩
       (repeat (first | exact hk | (refine Keeps.trans ?_ (Keeps.new _ _)) | (refine Keeps.set ?_ (by first | omega | (simp;done) | (simp;omega)) _)))
     ·simp [hF]
      (repeat refine ca ?_)
      refine a_pre 0 [(8,true),(12,true),(13,true),(15,true)] ?_
      simp [hF]
      (repeat refine ca ?_)
      refine qD (hMk _ _ _) (by simp<;>exact ⟨rfl,rfl⟩) ?_;rintro r s1 ⟨rfl,h7⟩
      rw [h7];clear h7 s1
      refine ⟨fun h=>by first | (cases h;done) | simp [hF],?_⟩
      (try simp [hF])
      refine aany_end (hJ _ _ ?_)
      simp only [ak]
      refine ⟨by trivial,S.next+1+1+1,by simp [f2],by simp [f4],by simp,by simp [hF],by simp [hF,hG],by simp [hF],⟨by omega,by simp<;>omega⟩,?_⟩
      (repeat (first | exact hk | (refine Keeps.trans ?_ (Keeps.new _ _)) | (refine Keeps.set ?_ (by first | omega | (simp;done) | (simp;omega)) _)))
    ·simp [hF]
     (repeat refine ca ?_)
     refine a_pre 0 [(7,true),(8,true),(12,true),(13,true),(15,true)] ?_
     simp [hF]
     (repeat refine ca ?_)
     refine qD (hMk _ _ _) (by simp<;>exact ⟨rfl,rfl⟩) ?_;rintro r s1 ⟨rfl,h7⟩
     rw [h7];clear h7 s1
     refine ⟨fun h=>by first | (cases h;done) | simp [hF],?_⟩
     (try simp [hF])
     refine aany_end (hJ _ _ ?_)
     simp only [ak]
     refine ⟨by trivial,S.next+1+1,by simp [f2],by simp [f4],by simp,by simp [hF],by simp [hF,hG],by simp [hF],⟨by omega,by simp<;>omega⟩,?_⟩
     (repeat (first | exact hk | (refine Keeps.trans ?_ (Keeps.new _ _)) | (refine Keeps.set ?_ (by first | omega | (simp;done) | (simp;omega)) _)))
   ·simp [hF]
    (repeat refine ca ?_)
    refine a_alt2 5 (4,true) (14,true) ?_ ?_
    ·simp [hF]
     (repeat refine ca ?_)
     refine a_alt2 4 (8,true) (14,true) ?_ ?_
     ·simp [hF]
      (repeat refine ca ?_)
      refine a_alt2 3 (12,true) (14,true) ?_ ?_
      ·simp [hF]
       (repeat refine ca ?_)
       refine qD (hMk _ _ _) (by simp<;>exact ⟨rfl,rfl⟩) ?_;rintro r s1 ⟨rfl,h7⟩
       rw [h7];clear h7 s1
       refine ⟨fun h=>by first | (cases h;done) | simp [hF],?_⟩
       (try simp [hF])
       (repeat refine ca ?_)
       refine a_pre 0 [(13,true),(14,true),(15,true)] ?_
       simp [hF]
       refine aany_end (hJ _ _ ?_)
       simp only [ak]
       refine ⟨by trivial,S.next+1+1+1+1,by simp [f2],by simp [f4],by simp,by simp [hF],by simp [hF,hG],by simp [hF],⟨by omega,by simp<;>omega⟩,?_⟩
       (repeat (first | exact hk | (refine Keeps.trans ?_ (Keeps.new _ _)) | (refine Keeps.set ?_ (by first | omega | (simp;done) | (simp;omega)) _)))
      ·simp [hF]
       (repeat refine ca ?_)
       refine a_pre 0 [(12,true),(13,true),(15,true)] ?_
       simp [hF]
       (repeat refine ca ?_)
       refine qD (hMk _ _ _) (by simp<;>exact ⟨rfl,rfl⟩) ?_;rintro r s1 ⟨rfl,h7⟩
       rw [h7];clear h7 s1
       refine ⟨fun h=>by first | (cases h;done) | simp [hF],?_⟩
       (try simp [hF])
       refine aany_end (hJ _ _ ?_)
       simp only [ak]
       refine ⟨by trivial,S.next+1+1+1+1,by simp [f2],by simp [f4],by simp,by simp [hF],by simp [hF,hG],by simp [hF],⟨by omega,by simp<;>omega⟩,?_⟩
       (repeat (first | exact hk | (refine Keeps.trans ?_ (Keeps.new _ _)) | (refine Keeps.set ?_ (by first | omega | (simp;done) | (simp;omega)) _)))
     ·simp [hF]
      (repeat refine ca ?_)
      refine a_pre 0 [(8,true),(12,true),(13,true),(15,true)] ?_
      simp [hF]
      (repeat refine ca ?_)
      refine qD (hMk _ _ _) (by simp<;>exact ⟨rfl,rfl⟩) ?_;rintro r s1 ⟨rfl,h7⟩
      rw [h7];clear h7 s1
      refine ⟨fun h=>by first | (cases h;done) | simp [hF],?_⟩
      (try simp [hF])
      refine aany_end (hJ _ _ ?_)
      simp only [ak]
      refine ⟨by trivial,S.next+1+1+1,by simp [f2],by simp [f4],by simp,by simp [hF],by simp [hF,hG],by simp [hF],⟨by omega,by simp<;>omega⟩,?_⟩
      (repeat (first | exact hk | (refine Keeps.trans ?_ (Keeps.new _ _)) | (refine Keeps.set ?_ (by first | omega | (simp;done) | (simp;omega)) _)))
    ·simp [hF]
     (repeat refine ca ?_)
     refine a_pre 0 [(4,true),(8,true),(12,true),(13,true),(15,true)] ?_
     simp [hF]
     (repeat refine ca ?_)
     refine qD (hMk _ _ _) (by simp<;>exact ⟨rfl,rfl⟩) ?_;rintro r s1 ⟨rfl,h7⟩
     rw [h7];clear h7 s1
     refine ⟨fun h=>by first | (cases h;done) | simp [hF],?_⟩
     (try simp [hF])
     refine aany_end (hJ _ _ ?_)
     simp only [ak]
     refine ⟨by trivial,S.next+1+1,by simp [f2],by simp [f4],by simp,by simp [hF],by simp [hF,hG],by simp [hF],⟨by omega,by simp<;>omega⟩,?_⟩
     (repeat (first | exact hk | (refine Keeps.trans ?_ (Keeps.new _ _)) | (refine Keeps.set ?_ (by first | omega | (simp;done) | (simp;omega)) _)))
   ·simp [hF]
    (repeat refine ca ?_)
    refine a_alt2 5 (4,true) (7,true) ?_ ?_
    ·simp [hF]
     (repeat refine ca ?_)
     refine a_pre 0 [(7,true),(8,true),(12,true),(13,true),(15,true)] ?_
     simp [hF]
     (repeat refine ca ?_)
     refine qD (hMk _ _ _) (by simp<;>exact ⟨rfl,rfl⟩) ?_;rintro r s1 ⟨rfl,h7⟩
     rw [h7];clear h7 s1
     refine ⟨fun h=>by first | (cases h;done) | simp [hF],?_⟩
     (try simp [hF])
     refine aany_end (hJ _ _ ?_)
     simp only [ak]
     refine ⟨by trivial,S.next+1,by simp [f2],by simp [f4],by simp,by simp [hF],by simp [hF,hG],by simp [hF],⟨by omega,by simp<;>omega⟩,?_⟩
     (repeat (first | exact hk | (refine Keeps.trans ?_ (Keeps.new _ _)) | (refine Keeps.set ?_ (by first | omega | (simp;done) | (simp;omega)) _)))
    ·simp [hF]
     (repeat refine ca ?_)
     refine a_pre 0 [(4,true),(8,true),(12,true),(13,true),(15,true)] ?_
     simp [hF]
     (repeat refine ca ?_)
     refine qD (hMk _ _ _) (by simp<;>exact ⟨rfl,rfl⟩) ?_;rintro r s1 ⟨rfl,h7⟩
     rw [h7];clear h7 s1
     refine ⟨fun h=>by first | (cases h;done) | simp [hF],?_⟩
     (try simp [hF])
     refine aany_end (hJ _ _ ?_)
     simp only [ak]
     refine ⟨by trivial,S.next+1,by simp [f2],by simp [f4],by simp,by simp [hF],by simp [hF,hG],by simp [hF],⟨by omega,by simp<;>omega⟩,?_⟩
     (repeat (first | exact hk | (refine Keeps.trans ?_ (Keeps.new _ _)) | (refine Keeps.set ?_ (by first | omega | (simp;done) | (simp;omega)) _)))
  ·simp [hF]
   (repeat refine ca ?_)
   refine a_alt2 6 (0,true) (14,true) ?_ ?_
   ·simp [hF]
    (repeat refine ca ?_)
    refine a_alt2 5 (4,true) (14,true) ?_ ?_
    ·simp [hF]
     (repeat refine ca ?_)
     refine a_alt2 4 (8,true) (14,true) ?_ ?_
     ·simp [hF]
      (repeat refine ca ?_)
      refine a_alt2 3 (12,true) (14,true) ?_ ?_
      ·simp [hF]
       (repeat refine ca ?_)
       refine qD (hMk _ _ _) (by simp<;>exact ⟨rfl,rfl⟩) ?_;rintro r s1 ⟨rfl,h7⟩
       rw [h7];clear h7 s1
       refine ⟨fun h=>by first | (cases h;done) | simp [hF],?_⟩
       (try simp [hF])
       (repeat refine ca ?_)
       refine a_pre 0 [(13,true),(14,true),(15,true)] ?_
       simp [hF]
       refine aany_end (hJ _ _ ?_)
       simp only [ak]
       refine ⟨by trivial,S.next+1+1+1+1,by simp [f2],by simp [f4],by simp,by simp [hF],by simp [hF,hG],by simp [hF],⟨by omega,by simp<;>omega⟩,?_⟩
       (repeat (first | exact hk | (refine Keeps.trans ?_ (Keeps.new _ _)) | (refine Keeps.set ?_ (by first | omega | (simp;done) | (simp;omega)) _)))
      ·simp [hF]
       (repeat refine ca ?_)
       refine a_pre 0 [(12,true),(13,true),(15,true)] ?_
       simp [hF]
       (repeat refine ca ?_)
       refine qD (hMk _ _ _) (by simp<;>exact ⟨rfl,rfl⟩) ?_;rintro r s1 ⟨rfl,h7⟩
       rw [h7];clear h7 s1
       refine ⟨fun h=>by first | (cases h;done) | simp [hF],?_⟩
       (try simp [hF])
       refine aany_end (hJ _ _ ?_)
       simp only [ak]
       refine ⟨by trivial,S.next+1+1+1+1,by simp [f2],by simp [f4],by simp,by simp [hF],by simp [hF,hG],by simp [hF],⟨by omega,by simp<;>omega⟩,?_⟩
       (repeat (first | exact hk | (refine Keeps.trans ?_ (Keeps.new _ _)) | (refine Keeps.set ?_ (by first | omega | (simp;done) | (simp;omega)) _)))
     ·simp [hF]
      (repeat refine ca ?_)
      refine a_pre 0 [(8,true),(12,true),(13,true),(15,true)] ?_
      simp [hF]
      (repeat refine ca ?_)
      refine qD (hMk _ _ _) (by simp<;>exact ⟨rfl,rfl⟩) ?_;rintro r s1 ⟨rfl,h7⟩
      rw [h7];clear h7 s1
      refine ⟨fun h=>by first | (cases h;done) | simp [hF],?_⟩
      (try simp [hF])
      refine aany_end (hJ _ _ ?_)
      simp only [ak]
      refine ⟨by trivial,S.next+1+1+1,by simp [f2],by simp [f4],by simp,by simp [hF],by simp [hF,hG],by simp [hF],⟨by omega,by simp<;>omega⟩,?_⟩
      (repeat (first | exact hk | (refine Keeps.trans ?_ (Keeps.new _ _)) | (refine Keeps.set ?_ (by first | omega | (simp;done) | (simp;omega)) _)))
    ·simp [hF]
     (repeat refine ca ?_)
     refine a_pre 0 [(4,true),(8,true),(12,true),(13,true),(15,true)] ?_
     simp [hF]
     (repeat refine ca ?_)
     refine qD (hMk _ _ _) (by simp<;>exact ⟨rfl,rfl⟩) ?_;rintro r s1 ⟨rfl,h7⟩
     rw [h7];clear h7 s1
     refine ⟨fun h=>by first | (cases h;done) | simp [hF],?_⟩
     (try simp [hF])
     refine aany_end (hJ _ _ ?_)
     simp only [ak]
     refine ⟨by trivial,S.next+1+1,by simp [f2],by simp [f4],by simp,by simp [hF],by simp [hF,hG],by simp [hF],⟨by omega,by simp<;>omega⟩,?_⟩
     (repeat (first | exact hk | (refine Keeps.trans ?_ (Keeps.new _ _)) | (refine Keeps.set ?_ (by first | omega | (simp;done) | (simp;omega)) _)))
   ·simp [hF]
    (repeat refine ca ?_)
    refine a_pre 0 [(0,true),(4,true),(8,true),(12,true),(13,true),(15,true)] ?_
    simp [hF]
    (repeat refine ca ?_)
    refine qD (hMk _ _ _) (by simp<;>exact ⟨rfl,rfl⟩) ?_;rintro r s1 ⟨rfl,h7⟩
    rw [h7];clear h7 s1
    refine ⟨fun h=>by first | (cases h;done) | simp [hF],?_⟩
    (try simp [hF])
    refine aany_end (hJ _ _ ?_)
    simp only [ak]
    refine ⟨by trivial,S.next+1,by simp [f2],by simp [f4],by simp,by simp [hF],by simp [hF,hG],by simp [hF],⟨by omega,by simp<;>omega⟩,?_⟩
    (repeat (first | exact hk | (refine Keeps.trans ?_ (Keeps.new _ _)) | (refine Keeps.set ?_ (by first | omega | (simp;done) | (simp;omega)) _)))
  ·simp [hF]
   (repeat refine ca ?_)
   refine a_alt2 6 (0,true) (7,true) ?_ ?_
   ·simp [hF]
    (repeat refine ca ?_)
    refine a_alt2 5 (4,true) (7,true) ?_ ?_
    ·simp [hF]
     (repeat refine ca ?_)
     refine a_pre 0 [(7,true),(8,true),(12,true),(13,true),(15,true)] ?_
     simp [hF]
     (repeat refine ca ?_)
     refine qD (hMk _ _ _) (by simp<;>exact ⟨rfl,rfl⟩) ?_;rintro r s1 ⟨rfl,h7⟩
     rw [h7];clear h7 s1
     refine ⟨fun h=>by first | (cases h;done) | simp [hF],?_⟩
     (try simp [hF])
     refine aany_end (hJ _ _ ?_)
     simp only [ak]
     refine ⟨by trivial,S.next,by simp [f2],by simp [f4],by simp,by simp [hF],by simp [hF,hG],by simp [hF],⟨by omega,by simp<;>omega⟩,?_⟩
     (repeat (first | exact hk | (refine Keeps.trans ?_ (Keeps.new _ _)) | (refine Keeps.set ?_ (by first | omega | (simp;done) | (simp;omega)) _)))
    ·simp [hF]
     (repeat refine ca ?_)
     refine a_pre 0 [(4,true),(8,true),(12,true),(13,true),(15,true)] ?_
     simp [hF]
     (repeat refine ca ?_)
     refine qD (hMk _ _ _) (by simp<;>exact ⟨rfl,rfl⟩) ?_;rintro r s1 ⟨rfl,h7⟩
     rw [h7];clear h7 s1
     refine ⟨fun h=>by first | (cases h;done) | simp [hF],?_⟩
     (try simp [hF])
     refine aany_end (hJ _ _ ?_)
     simp only [ak]
     refine ⟨by trivial,S.next,by simp [f2],by simp [f4],by simp,by simp [hF],by simp [hF,hG],by simp [hF],⟨by omega,by simp<;>omega⟩,?_⟩
     (repeat (first | exact hk | (refine Keeps.trans ?_ (Keeps.new _ _)) | (refine Keeps.set ?_ (by first | omega | (simp;done) | (simp;omega)) _)))
   ·simp [hF]
    (repeat refine ca ?_)
    refine a_pre 0 [(0,true),(4,true),(8,true),(12,true),(13,true),(15,true)] ?_
    simp [hF]
    (repeat refine ca ?_)
    refine qD (hMk _ _ _) (by simp<;>exact ⟨rfl,rfl⟩) ?_;rintro r s1 ⟨rfl,h7⟩
    rw [h7];clear h7 s1
    refine ⟨fun h=>by first | (cases h;done) | simp [hF],?_⟩
    (try simp [hF])
    refine aany_end (hJ _ _ ?_)
    simp only [ak]
    refine ⟨by trivial,S.next,by simp [f2],by simp [f4],by simp,by simp [hF],by simp [hF,hG],by simp [hF],⟨by omega,by simp<;>omega⟩,?_⟩
    (repeat (first | exact hk | (refine Keeps.trans ?_ (Keeps.new _ _)) | (refine Keeps.set ?_ (by first | omega | (simp;done) | (simp;omega)) _)))
 rintro fr T ⟨c,f2,f4,f7,hA,hC,hD,⟨hc1,hc2⟩,hk2⟩
 clear hF hG hMk hL hL2 hone k2 k3 k4 k5 k6 k7 g1 g2 g3 g4 g5 g6 g7 g8 g9 g10 g11 g12 g13 g14 g15
 have n1:¬ p=c:=by omega
 have n2:¬ p=T.next:=by omega
 have n3:¬ p+2=c:=by omega
 have n4:¬ p+2=T.next:=by omega
 have n5:¬ T.next=c:=by omega
 refine awp_cell c 22 1 (e:=28) (s:=3) [.sl 0 V.length (us V),.sl 0 m.g.es.length (eds m.g.es)] [] hD ?_
 (repeat' (first | refine qS ?_ | refine qB ?_ | (refine w_e [] ?_;intro J hJ;simp only [];simp [f7,n5];(refine hJ _ _ ?_;clear hJ J;simp only [ak,reduceIte]))))
 refine awp_range 102 101 103 122 (V.length) (fun j fr st2=>fr 2=.pt p 0∧fr 4=.pt (p+2) 0∧fr 7=.pt c 0∧fr 100=.sl 0 V.length (us V)∧st2.H p=.box 28 3 (mpL m)∧st2.H (p+2)=.box 28 3 [.nil,.nil,.nil]∧Keeps st st2∧∃ tr,st2.H c=.box 28 3 [.sl 0 V.length (us V),.sl 0 m.g.es.length (eds m.g.es),.sl tr j (rowsL ((V.take j).map (rowW m)))]∧st2.H tr=.own 22 1 j∧c < tr∧tr < st2.next) ?_ ?_ ?_
 ·refine ⟨by simp [f2],by simp [f4],by simp [f7],by simp,by simp [n1,n2,hA],by simp [n3,n4,hC],?_,T.next,by simp [rowsL],by simp [n5],by omega,by simp⟩
  (repeat (first | exact hk2 | (refine Keeps.trans ?_ (Keeps.new _ _)) | (refine Keeps.set ?_ (by omega) _)))
 ·clear f2 f4 f7 hA hC hD hc2 hk2 n2 n4 n5 fr
  rintro j fr s hlt ⟨f2,f4,f7,f100,hA,hC,hkp,tr,hD,hO,l1,l2⟩ fi fn JO hJO
  have hd:=qG V j hlt
  have hFj:rowsL ((V.take (j+1)).map (rowW m))=rowsL ((V.take j).map (rowW m))++[.sl 0 (rowW m (V.getD j 0)).length (us (rowW m (V.getD j 0)))]:=by
   rw [List.take_succ_eq_append_getElem hlt,getD_lt _ _ hlt];simp only [rowsL,List.map_append,List.map_cons,List.map_nil]
  have hjl:(rowsL ((V.take j).map (rowW m))).length=j:=by simp;omega
  rw [hFj] at hJO
  clear hFj
  generalize V.getD j 0=v at *
  generalize rowsL ((V.take j).map (rowW m))=RR at *
  have e1:¬ tr=0:=by omega
  have e2:¬ tr=s.next:=by omega
  have e3:¬ c=tr:=by omega
  have e4:¬ c=s.next:=by omega
  have e5:¬ c=s.next+1:=by omega
  have e6:¬ p=s.next:=by omega
  have e7:¬ p=s.next+1:=by omega
  have e8:¬ tr=s.next+1:=by omega
  have e9:¬ p=tr:=by omega
  have e10:¬ p+2=tr:=by omega
  have e11:¬ p+2=s.next:=by omega
  have e12:¬ p+2=s.next+1:=by omega
  have e13:¬ p+1=s.next:=by omega
  have e14:¬ s.next+1=c:=by omega
  (repeat' (first | refine qS ?_ | (refine w_e [] ?_;intro J hJ;simp only [];simp [f2,f4,f7,f100,fi,fn,hd,hlt,hA];(try (refine hJ _ _ ?_;clear hJ J;simp only [ak,reduceIte])))))
  refine qE (refPlace m v _ (by omega)) (by simp) ?_;rintro r s1 ⟨rfl,h7⟩
  rw [h7];clear h7 s1
  by_cases hvm:v∈m.g.vs
  ·have hg:=gi_mem hvm
   have hik:m.g.vs.idxOf v < m.g.vs.length:=List.idxOf_lt_length_of_mem hvm
   have hdr:=rowsL_drop m.rots (m.g.vs.idxOf v) (by omega)
   rw [show rowW m v=m.rots.getD (m.g.vs.idxOf v) [] from by unfold rowW;rw [if_pos hvm]] at hJO
   rw [hg]
   generalize m.g.vs.idxOf v=k at *
   generalize m.rots.getD k []=t at *
   have hkr:k < m.rots.length:=by omega
   have hkr':(k:Int) < m.rots.length:=by omega
   (repeat' (first | refine qS ?_ | (refine qC ?_;simp [f2,f7,hA,hdr,hkr,hkr',hD,hO,hjl,n1,n3,e1,e2,e3,e4,e5,e6,e7,e8,e9,e10,e11,e12,e13,e14]) | ((first | (refine w_e [] ?_;intro J hJ;simp only []) | (refine e_go ?_));simp [f2,f7,hA,hdr,hkr,hkr',hD,hO,hjl,n1,n3,e1,e2,e3,e4,e5,e6,e7,e8,e9,e10,e11,e12,e13,e14];(repeat refine ca ?_);(refine hJ _ _ ?_;clear hJ J;simp only [ak,reduceIte]))))
   refine hJO _ _ (by simp [fi]) (by simp [fn]) ⟨by simp [f2],by simp [f4],by simp [f7],by simp [f100],by simp [n1,n3,e1,e2,e3,e4,e5,e6,e7,e8,e9,e10,e11,e12,e13,e14,hA],by simp [n1,n3,e1,e2,e3,e4,e5,e6,e7,e8,e9,e10,e11,e12,e13,e14,hC],?_,s.next+1,by simp,by simp [n1,n3,e1,e2,e3,e4,e5,e6,e7,e8,e9,e10,e11,e12,e13,e14],by omega,by simp⟩
   (repeat (first | exact hkp | (refine Keeps.trans ?_ (Keeps.new _ _)) | (refine Keeps.set ?_ (by first | omega | (simp;done) | (simp;omega)) _)))
  ·have hg:=(gi_neg m.g.vs v).2 hvm
   have hg':¬ 0≤gi m.g.vs v:=by omega
   rw [show rowW m v=[] from by unfold rowW;rw [if_neg hvm]] at hJO
   generalize gi m.g.vs v=k at *
   (refine e_go ?_;simp [];(refine hJ _ _ ?_;clear hJ J;simp only [ak,reduceIte]))
   refine qS ?_
   (refine w_e [] ?_;intro J hJ;simp only [];simp [];(refine hJ _ _ ?_;clear hJ J;simp only [ak,reduceIte]))
   (refine qC ?_;simp [hg'])
   refine awp_z0 10 ?_
   have hz:z0 .nil=.sl 0 0 []:=rfl
   (repeat' (first | (refine qK ?_;simp only [ak,reduceIte]) | (refine w_e [] ?_;intro J hJ;simp only [];simp [hz,f2,f7,hA,hD,hO,hjl,n1,n3,e1,e2,e3,e4,e5,e6,e7,e8,e9,e10,e11,e12,e13,e14];(repeat refine ca ?_);(refine hJ _ _ ?_;clear hJ J;simp only [ak,reduceIte]))))
   refine hJO _ _ (by simp [fi]) (by simp [fn]) ⟨by simp [f2],by simp [f4],by simp [f7],by simp [f100],by simp [n1,n3,e1,e2,e3,e4,e5,e6,e7,e8,e9,e10,e11,e12,e13,e14,hA],by simp [n1,n3,e1,e2,e3,e4,e5,e6,e7,e8,e9,e10,e11,e12,e13,e14,hC],?_,s.next+1,by simp [us],by simp [n1,n3,e1,e2,e3,e4,e5,e6,e7,e8,e9,e10,e11,e12,e13,e14],by omega,by simp⟩
   (repeat (first | exact hkp | (refine Keeps.trans ?_ (Keeps.new _ _)) | (refine Keeps.set ?_ (by first | omega | (simp;done) | (simp;omega)) _)))
 ·clear f2 f4 f7 hA hC hD hc2 hk2 n2 n4 n5 fr
  rintro fr s ⟨f2,f4,f7,f100,hA,hC,hkp,tr,hD,hO,l1,l2⟩
  rw [List.take_length] at hD
  (repeat' (first | refine qS ?_ | (refine qR ?_;simp only [ak,reduceIte];simp [f7,f4,hD,hC]) | (refine w_e [] ?_;intro J hJ;simp only [];simp [f7,f4,hD,hC];(refine hJ _ _ ?_;clear hJ J;simp only [ak,reduceIte]))))
  exact ⟨_,_,frz_tu (frzL_cons (frz_ag (frzL_cons (frz_same _ _) (frzL_cons (frz_same _ _) (frzL_cons (frz_tok _ _ _ _) (frzL_same _ []))))) (frzL_same _ _)),rfl,hkp.set (by omega) _⟩
theorem refStep (m:Mp) (s:Sp) (st:St) (hm:Drw m) (h0:stpW m s=0):
 ACalls Tryz.prog 50 [.ag (mpL m),.ag (spL s)] st fun r st'=>r=.tu [.ag (mpL (stpM m s)),i 0]∧st'=st:=by
 refine qT (Q:=fun r=>r=.tu [.ag (mpL (stpM m s)),i 0]) ?_ fun r h=>by subst h;exact ⟨bel_mpL _ _,trivial,trivial⟩
 obtain ⟨k,id,a,b,pa,pb⟩:=s
 have hf:formW ⟨k,id,a,b,pa,pb⟩=0:=by
  unfold stpW at h0
  split at h0
  ·next h=>exact absurd h0 h
  ·next h=>exact Classical.not_not.1 h
 have hid:=formW_id hf
 unfold stpW at h0
 rw [if_neg (fun h=>h hf)] at h0
 unfold formW at hf
 simp only at hf h0 hid
 split at hf
 ·cases hf
 split at hf
 ·cases hf
 split at hf
 ·cases hf
 next q1 q2 q3=>
 by_cases h3:k=3
 ·subst h3
  rw [if_neg (by decide),if_neg (by decide),if_pos rfl] at h0
  have h4:numI a∧numI b:=by
   refine ⟨Classical.byContradiction fun h=>q3 (.inr ⟨rfl,.inl h⟩),Classical.byContradiction fun h=>q3 (.inr ⟨rfl,.inr h⟩)⟩
  exact refStep3 m id a b pa pb st hm hid h4.1 h4.2 h0
 have ha:a=0:=Classical.byContradiction fun h=>q2 ⟨h3,.inl h⟩
 have hb:b=0:=Classical.byContradiction fun h=>q2 ⟨h3,.inr (.inl h)⟩
 have hpa:pa=0:=Classical.byContradiction fun h=>q2 ⟨h3,.inr (.inr (.inl h))⟩
 have hpb:pb=0:=Classical.byContradiction fun h=>q2 ⟨h3,.inr (.inr (.inr h))⟩
 subst ha hb hpa hpb
 by_cases h1:k=1
 ·subst h1
  rw [if_pos rfl] at h0
  exact acalls_frzR (refStep1 m id st hm hid h0)
 by_cases h2:k=2
 ·subst h2
  rw [if_neg (by decide),if_pos rfl] at h0
  exact acalls_frzR (refStep2 m id st hm hid h0)
 ·obtain rfl:k=4:=by omega
  rw [if_neg (by decide),if_neg (by decide),if_neg (by decide)] at h0
  exact refStep4 m id st hm hid h0
theorem refWayK (m:Mp) (l:List Sp) (t:Nat) (st:St) (hm:Drw m) (hg:gn m=0) (hl:l.length≤100000) (hD:DoTo m l l.length):
 ACalls Tryz.prog 23 [.ag (mpL m),.sl t l.length (sps l)] st fun r st'=>r=.tu [.ag (mpL (aft m l)),bb true]∧Keeps st st':=by
 have hsl:=sps_length l
 refine qO tabOk Tryz.func23 rfl rfl Tryz.ntmps23 (rs:=[.cell 4 28,.tmp 5]) rfl (by simp) ?_
 refine awp_posG fun hpos=>?_
 obtain ⟨p,hp⟩:∃ p,p=st.next:=⟨_,rfl⟩
 have x1:¬ st.next=st.next+1:=by omega
 (repeat' (first | refine qS ?_ | refine qB ?_ | (refine w_e [] ?_;intro J hJ;simp only [];simp [];(refine hJ _ _ ?_;clear hJ J;simp only [ak,reduceIte]))))
 refine awp_range 12 11 13 31 (l.length) (fun j fr st2=>fr 2=.pt p 0∧fr 4=.pt (p+1) 0∧fr 10=.sl t l.length (sps l)∧st2.H p=.box 28 3 (mpL (aft m (l.take j)))∧st2.H (p+1)=.box 28 3 [.nil,.nil,.nil]∧Keeps st st2∧p+2≤st2.next) ?_ ?_ ?_
 ·subst hp
  refine ⟨by simp,by simp,by simp,by simp [x1,aft],by simp,?_,by simp⟩
  exact (Keeps.new _ _).trans (Keeps.new _ _)
 ·rintro j fr s hlt ⟨f2,f4,f10,hA,hB,hkp,hn⟩ fi fn JO hJO
  have hd:=sps_drop l j hlt
  have hDj:DoTo m l j:=fun i hi=>hD i (by omega)
  have hdr:=(DoTo.drw hm j (by omega) hDj)
  have h0:=hD j hlt
  have hst:=fun st=>refStep (aft m (l.take j)) (l.getD j sp0) st hdr.1 h0
  have hdn:=step_drw hdr.1 h0
  have hR:rright (stpM (aft m (l.take j)) (l.getD j sp0))=0:=drw_right.2 ⟨hdn.1,hdn.2 (hdr.2 hg)⟩
  rw [aft_take hlt] at hJO
  clear hDj hdr h0
  generalize aft m (l.take j)=M at *
  obtain ⟨⟨k,id,a,b,pa,pb⟩,hs⟩:∃ s,s=l.getD j sp0:=⟨_,rfl⟩
  rw [← hs] at hd hst hdn hR hJO
  simp only [spL] at hst hd
  have hdr:=hdn.1
  have hvl:=hdr.v
  have hel:=hdr.e
  have hrl:=hdr.ok.len
  clear hs hdn
  generalize stpM M ⟨k,id,a,b,pa,pb⟩=M' at *
  have hj6:j * 6 < l.length * 6:=by omega
  have y1:¬ p=s.next:=by omega
  have y2:¬ p=s.next+1:=by omega
  have y3:¬ p+1=s.next:=by omega
  have y4:¬ p+1=s.next+1:=by omega
  (repeat' (first | refine qS ?_ | (refine w_e [] ?_;intro J hJ;simp only [];simp [f2,f4,f10,fi,fn,hd,hlt,hj6,hsl,y1,hA];(try (refine hJ _ _ ?_;clear hJ J;simp only [ak,reduceIte])))))
  refine qE (hst _) (by simp) ?_;rintro r s1 ⟨rfl,h7⟩
  rw [h7];clear h7 s1
  (repeat' (first | refine qS ?_ | ((first | (refine w_e [] ?_;intro J hJ;simp only []) | (refine e_go ?_));simp [f2,f4,y1,y2,hA];(try (refine hJ _ _ ?_;clear hJ J;simp only [ak,reduceIte])))))
  refine qE (rRight' M' _ (by omega) (by omega) (by omega)) (by simp [mpL]) ?_;rintro r s1 ⟨rfl,h7⟩
  rw [h7,hR];clear h7 s1
  (repeat' (first | (refine qK ?_;simp only [ak,reduceIte]) | (refine qC ?_;simp [f2,f4,y1,y2,hA]) | ((first | (refine w_e [] ?_;intro J hJ;simp only []) | (refine e_go ?_));simp [f2,f4,y1,y2,hA];(refine hJ _ _ ?_;clear hJ J;simp only [ak,reduceIte]))))
  refine hJO _ _ (by simp [fi]) (by simp [fn]) ⟨by simp [f2],by simp [f4],by simp [f10],by simp [y1,y2],by simp [y1,y2,y3,y4,hB],?_,by simp;omega⟩
  (repeat (first | exact hkp | (refine Keeps.trans ?_ (Keeps.new _ _)) | (refine Keeps.set ?_ (by first | omega | (simp;done) | (simp;omega)) _)))
 ·rintro fr s ⟨f2,f4,f10,hA,hB,hkp,hn⟩
  rw [List.take_length] at hA
  (repeat' (first | refine qS ?_ | (refine qR ?_;simp only [ak,reduceIte];simp [f2,f4,hA,hB]) | (refine w_e [] ?_;intro J hJ;simp only [];simp [f2,f4,hA,hB];(refine hJ _ _ ?_;clear hJ J;simp only [ak,reduceIte]))))
  exact hkp.set (by omega) _
theorem refWay (m:Mp) (l:List Sp) (t:Nat) (st:St) (hm:Drw m) (hg:gn m=0) (hl:l.length≤100000) (hD:DoTo m l l.length):
 ACalls Tryz.prog 23 [.ag (mpL m),.sl t l.length (sps l)] st fun r st'=>r=.tu [.ag (mpL (aft m l)),bb true]∧st'=st:=
 qT (Q:=fun r=>r=.tu [.ag (mpL (aft m l)),bb true]) (refWayK m l t st hm hg hl hD) fun r h=>by subst h;exact ⟨bel_mpL _ _,trivial,trivial⟩
theorem diff_self (b:Mp):diffW b b (keptR b b)=[]:=by
 have hK:keptR b b=b.g.es.map (·.id):=by
  rw [kept_full (fun K _ v=>by unfold sameW;exact decide_eq_true rfl)]
  rw [List.filter_eq_self.2 fun x hx=>by simpa using hx]
 unfold diffW gone lessV moreV
 rw [hK,links_eq,lk_none _ fun y hy=>List.mem_map_of_mem hy]
 simp only [List.append_nil]
 rw [List.filter_eq_nil_iff.2 fun x hx=>by simp;exact ⟨x,hx,rfl⟩,List.filter_eq_nil_iff.2 fun v hv=>by simpa using hv]
 rfl
set_option maxHeartbeats 8000000 in
theorem DiffPatches (a b:Mp) (st:St):ACalls Tryz.prog 5 [.ag (mpL a),.ag (mpL b)] st fun r st'=>r=bb true:=by
 refine qO tabOk Tryz.func5 rfl rfl Tryz.ntmps5 (rs:=[.tmp 4]) rfl (by simp) ?_
 refine awp_posG fun hpos=>?_
 have x1:¬ st.next=st.next+1:=by omega
 (repeat' (first | refine qS ?_ | (refine w_e [] ?_;intro J hJ;simp only [];simp [];(try (refine hJ _ _ ?_;clear hJ J;simp only [ak,reduceIte])))))
 refine qE (awake17 _) (by simp []) ?_;rintro r st' ⟨rfl,rfl⟩
 (repeat' (first | refine qS ?_ | (refine qK ?_;simp only [ak,reduceIte]) | (refine qC ?_;simp [x1]) | ((first | (refine w_e [] ?_;intro J hJ;simp only []) | (refine e_go ?_));simp [x1];(try (refine hJ _ _ ?_;clear hJ J;simp only [ak,reduceIte])))))
 refine qE (light17 a _) (by simp) ?_;rintro r s1 ⟨rfl,h1⟩
 rw [h1];clear h1 s1
 cases hf:lit17 a
 ·(repeat' (first | refine qS ?_ | (refine qR ?_;simp only [ak,reduceIte];simp []) | (refine qC ?_;simp []) | ((first | (refine w_e [] ?_;intro J hJ;simp only []) | (refine e_go ?_));simp [];(refine hJ _ _ ?_;clear hJ J;simp only [ak,reduceIte]))))
 (repeat' (refine e_go ?_;simp [x1]))
 refine qE (light17 b _) (by simp) ?_;rintro r s1 ⟨rfl,h1⟩
 rw [h1];clear h1 s1
 cases hf2:lit17 b
 ·(repeat' (first | refine qS ?_ | (refine qR ?_;simp only [ak,reduceIte];simp []) | (refine qC ?_;simp []) | ((first | (refine w_e [] ?_;intro J hJ;simp only []) | (refine e_go ?_));simp [];(refine hJ _ _ ?_;clear hJ J;simp only [ak,reduceIte]))))
 obtain ⟨ha,hga,la⟩:=lit_drw hf
 obtain ⟨hb,hgb,lb⟩:=lit_drw hf2
 have va:=ha.v
 have vb:=hb.v
 clear hf hf2
 have D1:=fun st=>dDiff a b ha.ok hb.ok st (by omega) (by omega) (by omega) (by omega)
 have D2:=fun st=>dDiff b b hb.ok hb.ok st (by omega) (by omega) (by omega) (by omega)
 rw [kept_same ha.ok hb.ok] at D1
 rw [kept_same hb.ok hb.ok,diff_self] at D2
 have L1:=diff_len a b (keptR a b)
 obtain ⟨w1,w2⟩:=diff_all ha hb hgb
 generalize diffW a b (keptR a b)=l1 at *
 have hP:=fun t st=>patch_to ha hga w1 w2 (by omega) t st
 have hW:=fun t st=>refWay a l1 t st ha hga (by omega) ((doAll_to a l1).2 w1)
 rw [w2] at hW
 have hS:=fun st=>rSame10 b st hb
 obtain ⟨p,hp⟩:∃ p,p=st.next:=⟨_,rfl⟩
 (repeat' (first | refine qS ?_ | (refine qK ?_;simp only [ak,reduceIte]) | (refine qC ?_;simp [x1]) | ((first | (refine w_e [] ?_;intro J hJ;simp only []) | (refine e_go ?_));simp [x1];(try (refine hJ _ _ ?_;clear hJ J;simp only [ak,reduceIte])))))
 refine qE (D1 _) (by simp) ?_;rintro r s1 ⟨rfl,h1⟩
 rw [h1];clear h1 s1
 (repeat' (first | refine qS ?_ | ((first | (refine w_e [] ?_;intro J hJ;simp only []) | (refine e_go ?_));simp [x1];(try (refine hJ _ _ ?_;clear hJ J;simp only [ak,reduceIte])))))
 refine qE (hP _ _) (by simp<;>exact rfl) ?_;rintro r s1 ⟨rfl,h1⟩
 rw [h1];clear h1 s1
 (repeat' (first | refine qS ?_ | ((first | (refine w_e [] ?_;intro J hJ;simp only []) | (refine e_go ?_));simp [x1];(try (refine hJ _ _ ?_;clear hJ J;simp only [ak,reduceIte])))))
 refine qE (hW _ _) (by simp<;>exact rfl) ?_;rintro r s1 ⟨rfl,h1⟩
 rw [h1];clear h1 s1
 have y1:¬ st.next+1=st.next+1+1:=by omega
 have y2:¬ st.next+1=st.next+1+1+1:=by omega
 have y3:¬ st.next+1+1=st.next+1+1+1:=by omega
 (repeat' (first | refine qS ?_ | ((first | (refine w_e [] ?_;intro J hJ;simp only []) | (refine e_go ?_));simp [x1,y1,y2,y3];(try (refine hJ _ _ ?_;clear hJ J;simp only [ak,reduceIte])))))
 refine qE (hS _) (by simp) ?_;rintro r s1 ⟨rfl,h1⟩
 rw [h1];clear h1 s1
 (repeat' (refine e_go ?_;simp [x1,y1,y2,y3]))
 refine qE (hS _) (by simp) ?_;rintro r s1 ⟨rfl,h1⟩
 rw [h1];clear h1 s1
 (repeat' (refine e_go ?_;simp [x1,y1,y2,y3]))
 refine qE (D2 _) (by simp) ?_;rintro r s1 ⟨rfl,h1⟩
 rw [h1];clear h1 s1
 (repeat' (first | (refine qR ?_;simp only [ak,reduceIte];simp [x1,y1,y2,y3]) | (refine e_go ?_;simp [x1,y1,y2,y3];(refine hJ _ _ ?_;clear hJ J;simp only [ak,reduceIte]))))
theorem DiffPatches_shp (l0 l1:List LV) (st:St) (h0:Shp tab 28 l0) (h1:Shp tab 28 l1):ACalls Tryz.prog 5 [argT tab 28 l0,argT tab 28 l1] st fun r st'=>r=bb true:=by
 obtain ⟨a,rfl,_⟩:=shp_mp h0
 obtain ⟨b,rfl,_⟩:=shp_mp h1
 exact DiffPatches a b st
end Go.Proofs.YtglkgindpjdoiaaGreat.Aw
