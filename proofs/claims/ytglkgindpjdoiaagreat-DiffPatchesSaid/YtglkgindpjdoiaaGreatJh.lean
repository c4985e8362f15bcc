/- Drawing on a map: an edge less. -/
import Derived.Test.YtglkgindpjdoiaaGreatJg
import Derived.Test.YtglkgindpjdoiaaGreatAwFr
namespace Go.Proofs.YtglkgindpjdoiaaGreat.Aw
open Go Go.RowKit Go.Proofs.YtglkgindpjdoiaaGreat.Pl
set_option linter.unusedSimpArgs false
set_option linter.unusedVariables false
theorem Without' (l m:List Int) (t t':Nat) (st:St) (hl:small l) (hm:small m):
 ACalls Tryz.prog 132 [.sl t l.length (us l),.sl t' m.length (us m)] st fun r st'=>r=.sl 0 (wo l m).length (us (nrm (wo l m)))∧st'=st:=
 qT (Q:=fun r=>r=.sl 0 (wo l m).length (us (nrm (wo l m)))) (Without l m t t' st hl hm) fun r h=>by subst h;exact ⟨.inl rfl,belL_us _ _⟩
def goneL (l:List Ed) (K:List Ed):List Int:=(l.filter fun x=>decide (fe K x.id < 0)).flatMap fun x=>[2 * x.id,2 * x.id+1]
def keptP (m:Mp) (p:Ed→Bool):Mp:=⟨⟨m.g.vs,m.g.es.filter p⟩,m.rots.map fun t=>nrm (wo t (goneL m.g.es (m.g.es.filter p)))⟩
theorem goneL_len (l K:List Ed):(goneL l K).length≤2 * l.length:=by
 induction l with
 | nil=>simp [goneL]
 | cons x l ih=>
   unfold goneL at ih ⊢
   rw [List.filter_cons]
   split
   ·rw [List.flatMap_cons,List.length_append,List.length_cons,List.length_cons,List.length_cons];simp only [List.length_nil];omega
   ·rw [List.length_cons];omega
theorem goneL_take (l K:List Ed) (j:Nat) (hj:j < l.length):goneL (l.take (j+1)) K=if fe K (l.getD j ed0).id < 0 then goneL (l.take j) K++[2 * (l.getD j ed0).id,2 * (l.getD j ed0).id+1] else goneL (l.take j) K:=by
 unfold goneL
 rw [filter_takeE _ _ j hj]
 by_cases h:fe K (l.getD j ed0).id < 0
 ·rw [if_pos (by simpa using h),if_pos h];simp
 ·rw [if_neg (by simpa using h),if_neg h]
set_option maxHeartbeats 4000000 in
theorem rKeepM (m:Mp) (f:FuncId) (caps:List LV) (p:Ed→Bool) (st:St) (hv:m.g.vs.length≤1000) (he:m.g.es.length≤1000) (hr:m.rots.length≤1000) (hs:∀ t∈m.rots,small t) (hid:∀ x∈m.g.es,1≤x.id∧x.id≤1048576) (hp:TestX f caps st m.g.es p):
 ACalls Tryz.prog 106 [.ag (mpL m),.fn (.func f) caps] st fun r st'=>∃ lv le lr,r=.ag (mpM lv le lr (keptP m p))∧MpAt (keptP m p) lv le lr st'∧st.next≤lv∧st.next≤le∧st.next≤lr∧Keeps st st':=by
 have hkp:keptP m p=⟨⟨m.g.vs,m.g.es.filter p⟩,m.rots.map fun t=>nrm (wo t (goneL m.g.es (m.g.es.filter p)))⟩:=rfl
 rw [hkp]
 obtain ⟨K,hK⟩:∃ K,K=m.g.es.filter p:=⟨_,rfl⟩
 rw [← hK]
 have hKl:K.length≤1000:=by rw [hK];exact Nat.le_trans (List.length_filter_le _ _) he
 refine qO tabOk Tryz.func106 rfl rfl Tryz.ntmps106 (rs:=[.cell 4 28]) rfl (by simp) ?_
 refine awp_posG fun hpos=>?_
 (repeat' (first | refine qS ?_ | (refine w_e [] ?_;intro J hJ;simp only [];simp [];(try (refine hJ _ _ ?_;clear hJ J;simp only [ak,reduceIte])))))
 refine qF (KeepM m.g f caps p _ hv he (hp.keeps ((Keeps.new _ _).trans (Keeps.new _ _)))) ?_;rw [← hK];rintro r s1 ⟨lv,le,rfl,l1,l2,l3,l4,hv1,he1,hk1⟩
 simp only [new_next] at l1 l3
 have hn1:=hk1.next
 simp only [new_next] at hn1
 have hB1:s1.H st.next=.box 28 3 (mpL m):=by rw [hk1.H _ (by simp;omega)];simp
 have hC1:s1.H (st.next+1)=.box 28 3 [.nil,.nil,.nil]:=by rw [hk1.H _ (by simp)];simp
 have hkp1:Keeps st s1:=((Keeps.new _ _).trans (Keeps.new _ _)).trans hk1
 have e0:¬ st.next=s1.next:=by omega
 obtain ⟨c,hc⟩:∃ c,c=s1.next:=⟨_,rfl⟩
 (refine e_go ?_;simp [];(refine hJ _ _ ?_;clear hJ J;simp only [ak,reduceIte]))
 (repeat (refine qS ?_));(refine w_e [] ?_;intro J hJ;simp only [];simp [];(refine hJ _ _ ?_;clear hJ J;simp only [ak,reduceIte]))
 refine awp_own 6 29 1 (by simp) ?_
 (repeat' (first | refine qS ?_ | refine qB ?_ | (refine w_e [] ?_;intro J hJ;simp only [];simp [hB1,e0,show ¬ st.next=s1.next+1 by omega];(refine hJ _ _ ?_;clear hJ J;simp only [ak,reduceIte]))))
 have hgl:=goneL_len m.g.es K
 refine awp_range 20 19 21 39 (m.g.es.length) (fun j fr st2=>fr 2=.pt st.next 0∧fr 4=.pt (st.next+1) 0∧fr 5=.pt c 0∧fr 18=.sl 0 m.g.es.length (eds m.g.es)∧Keeps st st2∧st2.H st.next=.box 28 3 (mpL m)∧st2.H (st.next+1)=.box 28 3 [.nil,.nil,.nil]∧st2.H c=.box 28 3 [.ms lv 0 m.g.vs.length,.ms le 0 K.length,.nil]∧st2.H lv=.box 29 1 (us m.g.vs)∧st2.H le=.box 31 3 (eds K)∧∃ tt G,G=goneL (m.g.es.take j) K∧G.length≤2 * j∧fr 6=.sl tt G.length (us G)∧st2.H tt=.own 29 1 G.length∧c < tt∧tt < st2.next) ?_ ?_ ?_
 ·subst hc
  refine ⟨by simp,by simp,by simp,by simp,?_,?_,?_,?_,?_,?_,s1.next+1,[],by simp [goneL],by simp,by simp,by simp,by omega,by simp⟩
  ·(repeat (first | exact hkp1 | (refine Keeps.trans ?_ (Keeps.new _ _)) | (refine Keeps.set ?_ (by first | omega | (simp;done) | (simp;omega)) _)))
  ·simp [show ¬ st.next=s1.next by omega,show ¬ st.next=s1.next+1 by omega,hB1]
  ·simp [show ¬ st.next+1=s1.next by omega,show ¬ st.next=s1.next by omega,hC1]
  ·simp
  ·simp [show ¬ lv=s1.next by omega,show ¬ lv=s1.next+1 by omega,hv1]
  ·simp [show ¬ le=s1.next by omega,show ¬ le=s1.next+1 by omega,he1]
 ·rintro j fr s hlt ⟨f2,f4,f5,f18,hkp,hA,hR,hC,hv2,he2,tt,G,hG,hGl,f6,hO,hlo,hhi⟩ fi fn JO hJO
  have hd:=eds_drop m.g.es j hlt
  have hel:=eds_length m.g.es
  have hj3:j * 3 < m.g.es.length * 3:=by omega
  have hxin:m.g.es.getD j ed0∈m.g.es:=by rw [getDE _ _ hlt];exact List.getElem_mem hlt
  have hst:=goneL_take m.g.es K j hlt
  rw [← hG] at hst
  simp only [hst] at hJO
  clear hst hG
  have hx1:=hid _ hxin
  generalize m.g.es.getD j ed0=x at *
  obtain ⟨d,a,b⟩:=x
  simp only at hd hx1 hJO
  have a1:¬ c=s.next:=by omega
  have a2:¬ tt=s.next:=by omega
  have a3:¬ lv=s.next:=by omega
  have a4:¬ le=s.next:=by omega
  (repeat' (first | refine qS ?_ | (refine w_e [] ?_;intro J hJ;simp only [];simp [f5,f18,fi,fn,hd,hlt,hel,hj3,hC,a1];(try (refine hJ _ _ ?_;clear hJ J;simp only [ak,reduceIte])))))
  refine qE (EdgeG ⟨m.g.vs,K⟩ lv le d _ hKl (by simp [a3,hv2]) (by simp [a4,he2])) (by simp) ?_;rintro r s2 ⟨rfl,h1⟩
  rw [h1];clear h1 s2
  simp only at hJO ⊢
  by_cases hfe:fe K d < 0
  rotate_left
  ·rw [if_neg hfe] at hJO
   generalize fe K d=gg at *
   (repeat' (first | (refine qK ?_;simp only [ak,reduceIte]) | (refine qC ?_;simp [hfe]) | (refine e_go ?_;simp [hfe];(refine hJ _ _ ?_;clear hJ J;simp only [ak,reduceIte]))))
   exact hJO _ _ (by simp [fi]) (by simp [fn]) ⟨by simp [f2],by simp [f4],by simp [f5],by simp [f18],hkp.trans (Keeps.new _ _),by simp [show ¬ st.next=s.next by omega,hA],by simp [show ¬ st.next+1=s.next by omega,hR],by simp [a1,hC],by simp [a3,hv2],by simp [a4,he2],tt,G,rfl,by omega,by simp [f6],by simp [a2,hO],hlo,by simp;omega⟩
  ·rw [if_pos hfe] at hJO
   generalize fe K d=gg at *
   have a5:¬ tt=0:=by omega
   have a6:¬ tt=s.next+1:=by omega
   have hone:=us_one G
   (repeat' (first | (refine qC ?_;simp [hfe]) | (refine e_go ?_;simp [hfe];(refine hJ _ _ ?_;clear hJ J;simp only [ak,reduceIte]))))
   (refine w_s [] [s.next] [(0,true),(1,true),(2,true),(4,true),(5,true),(3,true),(6,true),(7,true),(8,true),(9,true)] ?_;intro J hJ;simp [f6])
   refine qD (dOf0 d _ hx1) (by simp) ?_;rintro r s2 ⟨rfl,h1⟩
   rw [h1];clear h1 s2
   refine ⟨fun h=>by first | (cases h;done) | simp,?_⟩
   (refine d_go ?_;simp [])
   refine qD (dOf1 d _ hx1) (by simp) ?_;rintro r s2 ⟨rfl,h1⟩
   rw [h1];clear h1 s2
   refine ⟨fun h=>by first | (cases h;done) | simp,?_⟩
   (refine d_go ?_;simp [f6,hO,a2,a5,a6];(repeat refine ca ?_);(refine hJ _ _ ?_;clear hJ J;simp only [ak,reduceIte]))
   refine hJO _ _ (by simp [fi]) (by simp [fn]) ⟨by simp [f2],by simp [f4],by simp [f5],by simp [f18],?_,by simp [show ¬ st.next=s.next by omega,show ¬ st.next=s.next+1 by omega,show ¬ st.next=s.next+1+1 by omega,show ¬ st.next=tt by omega,hA],by simp [show ¬ st.next+1=s.next by omega,show ¬ st.next=s.next by omega,show ¬ st.next=s.next+1 by omega,show ¬ st.next+1=tt by omega,hR],by simp [a1,show ¬ c=s.next+1 by omega,show ¬ c=s.next+1+1 by omega,show ¬ c=tt by omega,hC],by simp [a3,show ¬ lv=s.next+1 by omega,show ¬ lv=s.next+1+1 by omega,show ¬ lv=tt by omega,hv2],by simp [a4,show ¬ le=s.next+1 by omega,show ¬ le=s.next+1+1 by omega,show ¬ le=tt by omega,he2],s.next+1+1,_,rfl,by simp;omega,by simp [us],by simp,by omega,by simp⟩
   (repeat (first | exact hkp | (refine Keeps.trans ?_ (Keeps.new _ _)) | (refine Keeps.set ?_ (by omega) _)))
 rintro fr s ⟨f2,f4,f5,f18,hkp,hA,hR,hC,hv2,he2,tt,G,hG,hGl,f6,hO,hlo,hhi⟩
 rw [List.take_length] at hG
 rw [← hG]
 clear f18 hO
 simp only [ak,reduceIte]
 refine awp_cellM c 22 1 (e:=28) (s:=3) [.ms lv 0 m.g.vs.length,.ms le 0 K.length] [] hC ?_
 have hF:∀ j,j < m.rots.length→rowsL ((m.rots.take (j+1)).map fun t=>nrm (wo t G))=rowsL ((m.rots.take j).map fun t=>nrm (wo t G))++[.sl 0 (nrm (wo (m.rots.getD j []) G)).length (us (nrm (wo (m.rots.getD j []) G)))]:=fun j hj=>by
  rw [List.take_succ_eq_append_getElem hj,getR_lt _ _ hj];simp only [rowsL,List.map_append,List.map_cons,List.map_nil]
 (repeat' (first | refine qS ?_ | refine qB ?_ | (refine w_e [] ?_;intro J hJ;simp only [];simp [f2,hA,show ¬ st.next=s.next by omega,show ¬ st.next=c by omega];(refine hJ _ _ ?_;clear hJ J;simp only [ak,reduceIte]))))
 refine awp_range 43 42 44 55 (m.rots.length) (fun j fr st2=>fr 4=.pt (st.next+1) 0∧fr 5=.pt c 0∧fr 6=.sl tt G.length (us G)∧fr 41=.sl 0 m.rots.length (rowsL m.rots)∧Keeps st st2∧st2.H (st.next+1)=.box 28 3 [.nil,.nil,.nil]∧st2.H lv=.box 29 1 (us m.g.vs)∧st2.H le=.box 31 3 (eds K)∧∃ lr,st2.H c=.box 28 3 [.ms lv 0 m.g.vs.length,.ms le 0 K.length,.ms lr 0 j]∧st2.H lr=.box 22 1 (rowsL ((m.rots.take j).map fun t=>nrm (wo t G)))∧c < lr∧lr < st2.next) ?_ ?_ ?_
 ·refine ⟨by simp [f4],by simp [f5],by simp [f6],by simp,?_,?_,?_,?_,s.next,?_,?_,by omega,by simp⟩
  ·(repeat (first | exact hkp | (refine Keeps.trans ?_ (Keeps.new _ _)) | (refine Keeps.set ?_ (by omega) _)))
  ·simp [show ¬ st.next+1=s.next by omega,show ¬ st.next+1=c by omega,hR]
  ·simp [show ¬ lv=s.next by omega,show ¬ lv=c by omega,hv2]
  ·simp [show ¬ le=s.next by omega,show ¬ le=c by omega,he2]
  ·simp
  ·simp [show ¬ s.next=c by omega,rowsL]
 ·clear f2 f4 f5 f6 hkp hA hR hC hv2 he2 fr s hhi
  rintro j fr s hlt ⟨f4,f5,f6,f41,hkp,hR,hv2,he2,lr,hB,hO,hlo',hhi⟩ fi fn JO hJO
  have hd:=rowsL_drop m.rots j hlt
  have hFj:=hF j hlt
  have hst:=hs _ (show m.rots.getD j []∈m.rots by rw [getR_lt _ _ hlt];exact List.getElem_mem _)
  have hjl:(rowsL ((m.rots.take j).map fun t=>nrm (wo t G))).length=j:=by simp [rowsL];omega
  simp only [hFj] at hJO
  generalize m.rots.getD j []=t at *
  generalize rowsL ((m.rots.take j).map fun t=>nrm (wo t G))=R at *
  have hGs:small G:=by unfold small;omega
  (repeat' (first | refine qS ?_ | (refine w_e [] ?_;intro J hJ;simp only [];simp [f41,fi,fn,hd,hlt];(refine hJ _ _ ?_;clear hJ J;simp only [ak,reduceIte]))))
  (refine w_s [] [c] [(0,true),(1,true),(2,true),(3,true),(4,true),(5,true),(6,false),(7,true),(8,false)] ?_;intro J hJ;simp [f5,f6,hB])
  refine qD (Without' t G 0 tt _ hst hGs) (by simp) ?_;rintro r s2 ⟨rfl,h1⟩
  rw [h1];clear h1 s2
  refine ⟨fun h=>by first | (cases h;done) | simp [hB],?_⟩
  have e2:¬ lr=s.next:=by omega
  have e3:¬ c=lr:=by omega
  have e4:¬ c=s.next:=by omega
  have e5:¬ c=s.next+1:=by omega
  (refine d_go ?_;simp [f5,hB,hO,e2,e3,e4,e5,hjl];(repeat refine ca ?_);(refine hJ _ _ ?_;clear hJ J;simp only [ak,reduceIte]))
  refine hJO _ _ (by simp [fi]) (by simp [fn]) ⟨by simp [f4],by simp [f5],by simp [f6],by simp [f41],?_,?_,?_,?_,s.next+1,by simp,by simp [show ¬ s.next+1=c by omega,show ¬ s.next=c by omega,nrm_length],by omega,by simp⟩
  ·(repeat (first | exact hkp | (refine Keeps.trans ?_ (Keeps.new _ _)) | (refine Keeps.set ?_ (by omega) _)))
  ·simp [show ¬ st.next+1=c by omega,show ¬ st.next=s.next by omega,show ¬ st.next+1=lr by omega,show ¬ st.next+1=s.next by omega,hR]
  ·simp [show ¬ lv=c by omega,show ¬ lv=s.next+1 by omega,show ¬ lv=lr by omega,show ¬ lv=s.next by omega,hv2]
  ·simp [show ¬ le=c by omega,show ¬ le=s.next+1 by omega,show ¬ le=lr by omega,show ¬ le=s.next by omega,he2]
 ·clear f2 f4 f5 f6 hkp hA hR hC hv2 he2 fr s hhi
  rintro fr s ⟨f4,f5,f6,f41,hkp,hR,hv2,he2,lr,hB,hO,hlo',hhi⟩
  rw [List.take_length] at hO
  (repeat' (first | refine qS ?_ | (refine qR ?_;simp only [ak,reduceIte];simp [f4,f5,hB,hR]) | (refine w_e [] ?_;intro J hJ;simp only [];simp [f4,f5,hB,hR];(refine hJ _ _ ?_;clear hJ J;simp only [ak,reduceIte]))))
  refine ⟨lv,le,lr,by simp [mpM],⟨?_,?_,?_,by simp;omega,by simp;omega,by simp;omega⟩,by omega,by omega,by omega,hkp.set (by omega) _⟩
  ·simp [show ¬ lv=st.next+1 by omega,hv2]
  ·simp [show ¬ le=st.next+1 by omega,he2]
  ·simp [show ¬ lr=st.next+1 by omega,hO]
end Go.Proofs.YtglkgindpjdoiaaGreat.Aw
namespace Go.Proofs.YtglkgindpjdoiaaGreat.Aw
open Go Go.RowKit Go.Proofs.YtglkgindpjdoiaaGreat.Pl Go.Proofs.YtglkgindpjdoiaaGreat.Eu
set_option linter.unusedSimpArgs false
set_option linter.unusedVariables false
theorem nrm_perm (l:List Int):(nrm l).Perm l:=by
 unfold nrm rt
 exact List.perm_append_comm.trans (by rw [List.take_append_drop])
theorem nrm_nrm (l:List Int):nrm (nrm l)=nrm l:=by
 by_cases h:l=[]
 ·subst h;rfl
 ·obtain ⟨r,hr⟩:=nrm_head l h
  have hm:mn (nrm l)=mn l:=mn_eq ((nrm_perm l).mem_iff.2 (mn_mem h)) fun x hx=>mn_le ((nrm_perm l).mem_iff.1 hx)
  exact nrm_of_head hr hm
theorem ends_filter (I:List Int) (v:Int):∀ es:List Ed,ends (es.filter fun x=>decide (x.id∈I)) v=(ends es v).filter fun d=>decide (d / 2∈I)
 | []=>rfl
 | x::es=>by
   have ih:=ends_filter I v es
   have h1:(2 * x.id) / 2=x.id:=by omega
   have h2:(2 * x.id+1) / 2=x.id:=by omega
   have hx:(end1 v x).filter (fun d=>decide (d / 2∈I))=if x.id∈I then end1 v x else []:=by
    unfold end1
    by_cases hi:x.id∈I
    ·rw [if_pos hi,List.filter_eq_self]
     intro d hd
     have:d=2 * x.id∨d=2 * x.id+1:=by
      revert hd;split<;>split<;>simp<;>omega
     rcases this with rfl | rfl
     ·rw [h1];simpa using hi
     ·rw [h2];simpa using hi
    ·rw [if_neg hi,List.filter_eq_nil_iff]
     intro d hd
     have:d=2 * x.id∨d=2 * x.id+1:=by
      revert hd;split<;>split<;>simp<;>omega
     rcases this with rfl | rfl
     ·rw [h1];simpa using hi
     ·rw [h2];simpa using hi
   unfold ends at ih ⊢
   rw [List.flatMap_cons,List.filter_append,hx,List.filter_cons]
   by_cases hi:x.id∈I
   ·rw [if_pos (by simpa using hi),if_pos hi,List.flatMap_cons,ih]
   ·rw [if_neg (by simpa using hi),if_neg hi,ih,List.nil_append]
theorem kept_ok {m:Mp} (ho:MapOk m) (I:List Int):MapOk (keptM m I):=by
 refine ⟨⟨⟨ho.g.rise,fun x hx=>ho.g.ends x (List.mem_filter.1 hx).1⟩,ho.g.ids.sublist List.filter_sublist,fun x hx=>ho.g.pos x (List.mem_filter.1 hx).1,fun x hx=>ho.g.ne x (List.mem_filter.1 hx).1⟩,by simpa [keptM] using ho.len,fun k hk=>?_⟩
 have hk':k < m.rots.length:=by rw [ho.len];exact hk
 have e:(keptM m I).rots.getD k []=nrm ((m.rots.getD k []).filter fun d=>decide (d / 2∈I)):=by simp [keptM,List.getD_eq_getElem?_getD,hk']
 rw [e]
 refine ⟨(nrm_perm _).trans ?_,nrm_nrm _⟩
 show List.Perm _ (ends (m.g.es.filter fun x=>decide (x.id∈I)) _)
 rw [ends_filter]
 exact (ho.ok k hk).1.filter _
theorem chk_of {g:Gr} (h:GoodE g) (hv:∀ v∈g.vs,1≤v∧v≤1048576) (h1:g.vs.length≤64) (h2:g.es.length≤160):chk g=0:=by
 unfold chk
 rw [if_neg (by omega)]
 have hV:firstNZ (badV g) g.vs.length=0:=firstNZ_zero fun j hj=>by
  unfold badV numb
  have hin:g.vs.getD j 0∈g.vs:=by rw [getD_lt _ _ hj];exact List.getElem_mem _
  have:=hv _ hin
  rw [if_neg (by omega),if_neg]
  rintro ⟨h3,h4⟩
  have hj0:j≠0:=by simpa using h3
  have:=List.pairwise_iff_getElem.1 h.rise (j - 1) j (by omega) hj (by omega)
  rw [getD_lt _ _ hj,getD_lt _ _ (by omega)] at h4
  omega
 rw [if_neg (by rw [hV];decide)]
 refine firstNZ_zero fun j hj=>?_
 have hin:g.es.getD j ed0∈g.es:=by rw [getE_lt _ _ hj];exact List.getElem_mem _
 have h3:=h.pos _ hin
 have h4:=h.ne _ hin
 have h5:=h.ends _ hin
 have h6:numb (g.es.getD j ed0).id (g.es.getD (j - 1) ed0).id (decide (j=0))=0:=by
  unfold numb
  rw [if_neg (by omega),if_neg]
  rintro ⟨h7,h8⟩
  have hj0:j≠0:=by simpa using h7
  have:=List.pairwise_iff_getElem.1 h.ids (j - 1) j (by omega) hj (by omega)
  rw [getE_lt _ _ hj,getE_lt _ _ (by omega)] at h8
  omega
 unfold badE
 simp only
 rw [if_neg (fun e=>e h6),if_neg h4,if_neg]
 rintro (h7 | h7)
 ·exact h7 h5.1
 ·exact h7 h5.2
section
variable {m:Mp} (h:MapOk m)
include h
theorem MapOk.turn_it {t:List Int} (ht:t∈m.rots) (n:Nat):∀ x,x∈t→it (sg m) n x∈t∧it (sg m) n x=it (nx t) n x:=by
 induction n with
 | zero=>intro x hx;exact ⟨hx,rfl⟩
 | succ n ih=>
   intro x hx
   obtain ⟨h1,h2⟩:=ih x hx
   rw [it_succ,it_succ]
   refine ⟨h.sg_mem ht h1,?_⟩
   rw [sg_at h ht h1,h2]
theorem MapOk.turn_orb {x y v:Int} (hx:x∈ends m.g.es v) (hy:y∈ends m.g.es v):Orb (sg m) x y:=by
 obtain ⟨t,ht,hxt⟩:=h.turn_of (ends_dart hx)
 obtain ⟨k,hk,rfl,h1,_⟩:=h.turn ht
 have hv:=at_unique h.g.ids hx (h1.mem_iff.1 hxt)
 have hyt:=h1.mem_iff.2 (hv ▸ hy)
 obtain ⟨n,hn⟩:=nx_orb (h.nodup ht) hxt hyt
 exact ⟨n,by rw [(h.turn_it ht n x hxt).2,hn]⟩
theorem MapOk.turn_cyc {t r:List Int} {a:Int} (ht:t∈m.rots) (hr:t=a::r):IsCyc (sg m) a t:=by
 have hn:=h.nodup ht
 have hl:0 < t.length:=by rw [hr];simp
 have h0:t[0]=a:=by simp [hr]
 have ha:a∈t:=by rw [hr];simp
 have hit:∀ k,it (sg m) k a=t[k % t.length]'(Nat.mod_lt _ hl):=fun k=>by
  rw [(h.turn_it ht k a ha).2]
  have:=nx_it hn hl k
  rw [h0] at this
  rw [this]
  congr 1
  rw [Nat.zero_add]
 refine ⟨t.length,hl,?_,?_,fun q hq hql e=>?_⟩
 ·refine List.ext_getElem (by simp) fun k h1 h2=>?_
  simp only [List.getElem_map,List.getElem_range]
  rw [hit k]
  congr 1
  rw [Nat.mod_eq_of_lt h1]
 ·rw [hit];simp only [Nat.mod_self];exact h0
 ·rw [hit q] at e
  simp only [Nat.mod_eq_of_lt hql] at e
  rw [← h0] at e
  have:=congrArg t.idxOf e
  rw [hn.idxOf_getElem,hn.idxOf_getElem] at this
  omega
end
theorem reach_alone {es:List Ed} {v w:Int} (hn:nbr es v=[]) (h:Reach es v w):v=w:=by
 induction h with
 | refl=>rfl
 | step _ hw ih=>rw [← ih,hn] at hw;cases hw
section
variable {m:Mp} (h:MapOk m)
include h
variable {R:List (List Int)} (hR:FacesOf m R) (hb:∀ x∈m.g.es,tix R (2 * x.id)≠tix R (2 * x.id+1))
include hR hb
end
def lessM (n:Mp) (i:Int):Mp:=⟨⟨n.g.vs,n.g.es.filter fun y=>decide (y.id≠i)⟩,n.rots.map fun t=>nrm (wo t [2 * i,2 * i+1])⟩
theorem wo_half (t:List Int) (i:Int):wo t [2 * i,2 * i+1]=t.filter fun d=>decide (d / 2≠i):=by
 unfold wo
 refine List.filter_congr fun d _=>?_
 rw [← decide_not]
 refine decide_eq_decide.2 ?_
 simp only [List.mem_cons,List.not_mem_nil,or_false]
 omega
theorem less_kept {n:Mp} (h:MapOk n) (i:Int):lessM n i=keptM n ((n.g.es.filter fun y=>decide (y.id≠i)).map (·.id)):=by
 have hm:∀ x∈n.g.es,(x.id∈(n.g.es.filter fun y=>decide (y.id≠i)).map (·.id))↔x.id≠i:=fun x hx=>by
  rw [List.mem_map]
  constructor
  ·rintro ⟨y,hy,e⟩;rw [List.mem_filter] at hy;rw [← e];simpa using hy.2
  ·intro hne;exact ⟨x,List.mem_filter.2 ⟨hx,by simpa using hne⟩,rfl⟩
 unfold lessM keptM
 congr 1
 ·congr 1
  refine List.filter_congr fun x hx=>?_
  exact decide_eq_decide.2 (hm x hx).symm
 ·refine List.map_congr_left fun t ht=>?_
  rw [wo_half]
  congr 1
  refine List.filter_congr fun d hd=>?_
  obtain ⟨x,hx,e⟩:=darts_half.1 (h.turn_dart ht hd)
  rw [← e]
  exact decide_eq_decide.2 (hm x hx).symm
theorem less_ok {n:Mp} (h:MapOk n) (i:Int):MapOk (lessM n i):=by rw [less_kept h];exact kept_ok h _
theorem less_dart {n:Mp} {i d:Int}:d∈darts (lessM n i).g.es↔d∈darts n.g.es∧d / 2≠i:=by
 rw [darts_half,darts_half]
 constructor
 ·rintro ⟨x,hx,e⟩
  have:=List.mem_filter.1 hx
  exact ⟨⟨x,this.1,e⟩,by rw [← e];simpa using this.2⟩
 ·rintro ⟨⟨x,hx,e⟩,hne⟩
  exact ⟨x,List.mem_filter.2 ⟨hx,by rw [e];simpa using hne⟩,e⟩
theorem nx_at (p q:List Int) (d:Int) (hn:(p++d::q).Nodup):nx (p++d::q) d=(q++p++[d]).headD 0:=by
 have hp:d∉p:=fun h=>by
  rw [List.nodup_append] at hn
  exact hn.2.2 d h d (by simp) rfl
 have hi:(p++d::q).idxOf d=p.length:=by
  rw [List.idxOf_append,if_neg hp];simp
 unfold nx
 rw [if_pos (by simp),hi]
 cases q with
 | nil=>
   have:(p++[d]).length=p.length+1:=by simp
   rw [this,Nat.mod_self]
   cases p<;>simp
 | cons y q=>
   rw [Nat.mod_eq_of_lt (by simp)]
   simp [List.getD_eq_getElem?_getD,List.getElem?_append_right]
theorem nx_less {t:List Int} (hn:t.Nodup) {e:Int} (h0:e∈t):∃ r,Cyc t (e::r)∧((r=[]∧pv t e=e∧nx t e=e)∨((∃ r',r=r'++[pv t e])∧pv t e≠e∧nx t (pv t e)=e∧nx r (pv t e)=nx t e∧∀ d∈r,d≠pv t e→nx r d=nx t d)):=by
 have hi:=List.idxOf_lt_length_of_mem h0
 obtain ⟨r,hr⟩:∃ r,rt t (t.idxOf e)=e::r:=by
  unfold rt
  rw [List.drop_eq_getElem_cons hi,List.getElem_idxOf hi]
  exact ⟨_,rfl⟩
 have hc:Cyc t (e::r):=⟨_,Nat.le_of_lt hi,hr.symm⟩
 have hn2:=hc.nodup hn
 refine ⟨r,hc,?_⟩
 rw [← cyc_pv hc hn]
 have hx:∀ d,nx t d=nx (e::r) d:=fun d=>(cyc_nx hc hn d).symm
 simp only [hx]
 rcases List.eq_nil_or_concat r with rfl | ⟨r',z,rfl⟩
 ·exact .inl ⟨rfl,by simp [pv],by simp [nx]⟩
 rw [List.concat_eq_append] at *
 have h1:nx (e::(r'++[z])) z=e:=by
  have:=nx_at (e::r') [] z (by simpa using hn2)
  simpa using this
 have hp:pv (e::(r'++[z])) e=z:=by
  have:=pv_nx hn2 (d:=z) (by simp)
  rwa [h1] at this
 rw [hp]
 have hze:z≠e:=fun h=>by subst h;rw [List.nodup_cons] at hn2;exact hn2.1 (by simp)
 have hn3:(r'++[z]).Nodup:=(List.nodup_cons.1 hn2).2
 refine .inr ⟨⟨r',rfl⟩,hze,h1,?_,fun d hd hdz=>?_⟩
 ·have a1:=nx_at r' [] z hn3
  have a2:=nx_at [] (r'++[z]) e hn2
  rw [a1,show e::(r'++[z])=[]++e::(r'++[z]) from rfl,a2]
  cases r'<;>simp
 ·obtain ⟨p,q,hpq⟩:=List.append_of_mem hd
  rw [hpq] at hn3 hn2 ⊢
  have a1:=nx_at p q d hn3
  have a2:=nx_at (e::p) q d (by simpa using hn2)
  rw [a1]
  rw [show e::(p++d::q)=e::p++d::q from rfl,a2]
  cases q with
  | nil=>
    have:d=z:=by
     have:=congrArg (fun l=>l.getLast?) hpq
     simpa using this.symm
    exact absurd this hdz
  | cons y q=>simp
section
variable {n:Mp} (h:MapOk n) {x:Ed} (hx:x∈n.g.es)
include h hx
theorem MapOk.dart0:2 * x.id∈darts n.g.es∧2 * x.id+1∈darts n.g.es:=have _:=h;⟨mem_darts.2 ⟨x,hx,.inl rfl⟩,mem_darts.2 ⟨x,hx,.inr rfl⟩⟩
theorem MapOk.apart {t:List Int} (ht:t∈n.rots) (h0:2 * x.id∈t):2 * x.id+1∉t:=fun h1=>by
 obtain ⟨k,hk,rfl,ho⟩:=h.turn ht
 have e0:=at_unique h.g.ids (ho.1.mem_iff.1 h0) (mem_ends.2 ⟨x,hx,.inl ⟨rfl,rfl⟩⟩)
 have e1:=at_unique h.g.ids (ho.1.mem_iff.1 h1) (mem_ends.2 ⟨x,hx,.inr ⟨rfl,rfl⟩⟩)
 exact h.g.ne x hx (e0.symm.trans e1)
theorem MapOk.sg_less_at {t:List Int} (ht:t∈n.rots) {d:Int} (hd:d∈t) (hne:d / 2≠x.id):sg (lessM n x.id) d=nx (wo t [2 * x.id,2 * x.id+1]) d:=by
 have ho:=less_ok h x.id
 have _:=hx
 have hm:d∈wo t [2 * x.id,2 * x.id+1]:=by rw [wo_half];exact List.mem_filter.2 ⟨hd,by simpa using hne⟩
 rw [sg_at ho (t:=nrm (wo t [2 * x.id,2 * x.id+1])) (List.mem_map_of_mem ht) ((nrm_mem _ _).2 hm)]
 refine cyc_nx (cyc_nrm _) ?_ d
 unfold wo
 exact (h.nodup ht).filter _
theorem MapOk.less_end {e e':Int} (he:(e=2 * x.id∧e'=2 * x.id+1)∨(e=2 * x.id+1∧e'=2 * x.id)) {t:List Int} (ht:t∈n.rots) (h0:e∈t):
 e'∉t∧pv t e∈t∧sg n (pv t e)=e∧(∀ d∈t,d≠e→d≠pv t e→sg (lessM n x.id) d=sg n d)∧(pv t e=e∧sg n e=e∧sg (lessM n x.id) e=e∨pv t e≠e∧sg (lessM n x.id) (pv t e)=sg n e):=by
 have hn:=h.nodup ht
 have ho:=less_ok h x.id
 have h1:e'∉t:=by
  rcases he with ⟨rfl,rfl⟩ | ⟨rfl,rfl⟩
  ·exact h.apart hx ht h0
  ·exact fun k=>h.apart hx ht k h0
 obtain ⟨r,hc,hr⟩:=nx_less hn h0
 have hw:Cyc (wo t [2 * x.id,2 * x.id+1]) r:=by
  have h2:=wo_cyc hc [2 * x.id,2 * x.id+1]
  have hn2:=hc.nodup hn
  have e1:wo (e::r) [2 * x.id,2 * x.id+1]=r:=by
   unfold wo
   rw [List.filter_cons,if_neg (by rcases he with ⟨rfl,_⟩ | ⟨rfl,_⟩<;>simp),List.filter_eq_self]
   intro y hy
   have hy1:y≠e:=fun k=>by subst k;exact (List.nodup_cons.1 hn2).1 hy
   have hy2:y≠e':=fun k=>by subst k;exact h1 ((hc.mem y).1 (List.mem_cons_of_mem _ hy))
   rcases he with ⟨rfl,rfl⟩ | ⟨rfl,rfl⟩<;>simp [hy1,hy2]
  rwa [e1] at h2
 have hwn:(wo t [2 * x.id,2 * x.id+1]).Nodup:=by unfold wo;exact hn.filter _
 have hhalf:∀ d∈t,d≠e→d / 2≠x.id:=fun d hd hde k=>by
  have:d=e∨d=e':=by rcases he with ⟨rfl,rfl⟩ | ⟨rfl,rfl⟩<;>omega
  rcases this with rfl | rfl
  ·exact hde rfl
  ·exact h1 hd
 have hsm:∀ d∈t,d≠e→sg (lessM n x.id) d=nx r d:=fun d hd hde=>by
  rw [h.sg_less_at hx ht hd (hhalf d hd hde)];exact (cyc_nx hw hwn d).symm
 have hsn:∀ d∈t,sg n d=nx t d:=fun d hd=>sg_at h ht hd
 have hgone:sg (lessM n x.id) e=e:=ho.sg_id fun k=>(less_dart.1 k).2 (by rcases he with ⟨rfl,_⟩ | ⟨rfl,_⟩<;>omega)
 have hin:∀ d∈t,d≠e→d∈r:=fun d hd hde=>by
  have:=(hc.mem d).2 hd
  rcases List.mem_cons.1 this with k | k
  ·exact absurd k hde
  ·exact k
 rcases hr with ⟨rfl,k1,k2⟩ | ⟨⟨r',rfl⟩,k1,k2,k3,k4⟩
 ·refine ⟨h1,by rw [k1];exact h0,by rw [k1,hsn e h0,k2],fun d hd hde _=>?_,.inl ⟨k1,by rw [hsn e h0,k2],hgone⟩⟩
  exact absurd (hin d hd hde) (by simp)
 ·have hpt:pv t e∈t:=(hc.mem _).1 (by simp)
  refine ⟨h1,hpt,by rw [hsn _ hpt,k2],fun d hd hde hdp=>?_,.inr ⟨k1,?_⟩⟩
  ·rw [hsm d hd hde,hsn d hd,k4 d (hin d hd hde) hdp]
  ·rw [hsm _ hpt k1,k3,hsn e h0]
theorem MapOk.less_sg:∃ A B,sg n A=2 * x.id∧sg n B=2 * x.id+1∧A∈darts n.g.es∧B∈darts n.g.es∧A≠B∧A≠2 * x.id+1∧B≠2 * x.id∧
 (∀ d,sg n d=sg (lessM n x.id) (sw A (2 * x.id) (sw B (2 * x.id+1) d))):=by
 have ho:=less_ok h x.id
 obtain ⟨q0,q1⟩:=h.dart0 hx
 obtain ⟨ta,hta,ha0⟩:=h.turn_of q0
 obtain ⟨tb,htb,hb0⟩:=h.turn_of q1
 obtain ⟨a1,a2,a3,a4,a5⟩:=h.less_end hx (.inl ⟨rfl,rfl⟩) hta ha0
 obtain ⟨b1,b2,b3,b4,b5⟩:=h.less_end hx (.inr ⟨rfl,rfl⟩) htb hb0
 have hne:∀ d,d∈ta→d∈tb→False:=fun d h1 h2=>by
  have e:=h.same hta htb h1 h2
  exact a1 (e ▸ hb0)
 have hd01:(2 * x.id:Int)≠2 * x.id+1:=by omega
 have g0:sg (lessM n x.id) (2 * x.id)=2 * x.id:=ho.sg_id fun k=>(less_dart.1 k).2 (by omega)
 have g1:sg (lessM n x.id) (2 * x.id+1)=2 * x.id+1:=ho.sg_id fun k=>(less_dart.1 k).2 (by omega)
 generalize pv ta (2 * x.id)=A at *
 generalize pv tb (2 * x.id+1)=B at *
 have hAB:A≠B:=fun k=>hne A a2 (k ▸ b2)
 have hA1:A≠2 * x.id+1:=fun k=>hne A a2 (k ▸ hb0)
 have hB0:B≠2 * x.id:=fun k=>hne B (k ▸ ha0) b2
 refine ⟨A,B,a3,b3,h.turn_dart hta a2,h.turn_dart htb b2,hAB,hA1,hB0,fun d=>?_⟩
 by_cases e0:d=2 * x.id
 ·subst e0
  rw [sw_o (Ne.symm hB0) hd01,sw_b]
  rcases a5 with ⟨k1,k2,k3⟩ | ⟨k1,k2⟩
  ·rw [k1,g0,k2]
  ·exact k2.symm
 by_cases e1:d=2 * x.id+1
 ·subst e1
  rw [sw_b,sw_o (Ne.symm hAB) hB0]
  rcases b5 with ⟨k1,k2,k3⟩ | ⟨k1,k2⟩
  ·rw [k1,g1,k2]
  ·exact k2.symm
 by_cases eA:d=A
 ·subst eA
  rw [sw_o hAB e1,sw_a,a3,g0]
 by_cases eB:d=B
 ·subst eB
  rw [sw_a,sw_o (Ne.symm hA1) (Ne.symm hd01),b3,g1]
 rw [sw_o eB e1,sw_o eA e0]
 by_cases hd:d∈darts n.g.es
 ·obtain ⟨t,ht,hdt⟩:=h.turn_of hd
  by_cases h0:2 * x.id∈t
  ·obtain rfl:=h.same ht hta h0 ha0
   exact (a4 d hdt e0 eA).symm
  by_cases h1:2 * x.id+1∈t
  ·obtain rfl:=h.same ht htb h1 hb0
   exact (b4 d hdt e1 eB).symm
  rw [h.sg_less_at hx ht hdt (by omega),sg_at h ht hdt]
  congr 1
  unfold wo
  refine (List.filter_eq_self.2 fun y hy=>?_).symm
  simp only [List.mem_cons,List.not_mem_nil,or_false,Bool.not_eq_true',decide_eq_false_iff_not,not_or]
  exact ⟨fun k=>h0 (k ▸ hy),fun k=>h1 (k ▸ hy)⟩
 ·rw [h.sg_id hd,ho.sg_id fun k=>hd (less_dart.1 k).1]
end
end Go.Proofs.YtglkgindpjdoiaaGreat.Aw
namespace Go.Proofs.YtglkgindpjdoiaaGreat.Aw
open Go Go.RowKit Go.Proofs.YtglkgindpjdoiaaGreat.Pl
set_option linter.unusedSimpArgs false
set_option linter.unusedVariables false
theorem frz_mp {m:Mp} {lv le lr:Nat} {st:St} (h:MpAt m lv le lr st) (h1:lv≠le) (h2:lv≠lr) (h3:le≠lr):Frz st (((st.set lv .dead).set le .dead).set lr .dead) (.ag (mpM lv le lr m)) (.ag (mpL m)):=
 frz_ag (frzL_cons (frz_row h.v (by simp)) (frzL_cons (frz_row (e:=31) (s:=3) (cs:=eds m.g.es) (by simp [Ne.symm h1,h.e]) (eds_length _)) (frzL_cons (frz_row (e:=22) (s:=1) (cs:=rowsL m.rots) (by simp [Ne.symm h2,Ne.symm h3,h.r]) (by simp [rowsL])) (frzL_same _ _))))
theorem noLink_1 (x:Ed) (q:Nat) (id:Int) (st:St) (hq:st.H q=.box 29 1 [u id]) (hqn:q < st.next):
 ACalls Tryz.prog 107 [.ag (edL x),.pt q 0] st fun r st'=>r=bb (decide (x.id≠id))∧st'=st:=by
 refine qT (Q:=fun r=>r=bb (decide (x.id≠id))) ?_ fun r h=>by subst h;trivial
 have a1:¬ q=st.next:=by omega
 obtain ⟨d,a,b⟩:=x
 refine qO tabOk Tryz.func107 rfl rfl Tryz.ntmps107 (rs:=[.tmp 3]) rfl (by simp) ?_
 by_cases hd:d=id
 ·(repeat' (first | refine qS ?_ | (refine qR ?_;simp only [ak,reduceIte];simp [hq,a1,hd]) | (refine w_e [] ?_;intro J hJ;simp only [];simp [hq,a1,hd];(refine hJ _ _ ?_;clear hJ J;simp only [ak,reduceIte]))))
  exact Keeps.new _ _
 ·have hdn:(d != id)=true:=by simpa using hd
  (repeat' (first | refine qS ?_ | (refine qR ?_;simp only [ak,reduceIte];simp [hq,a1,hd,hdn]) | (refine w_e [] ?_;intro J hJ;simp only [];simp [hq,a1,hd,hdn];(refine hJ _ _ ?_;clear hJ J;simp only [ak,reduceIte]))))
  exact Keeps.new _ _
def noLinkW (m:Mp) (id:Int):Int:=if fe m.g.es id < 0 then 16 else 0
set_option maxHeartbeats 2000000 in
theorem noLinkS (B D:Nat) (m:Mp) (id:Int) (st:St) (h:DrB B D m st) (ho:Ord m) (hs:∀ t∈m.rots,small t) (hid:∀ x∈m.g.es,1≤x.id∧x.id≤1048576):
 ACalls Tryz.prog 65 [.pt D 0,u id] st fun r st'=>r=i (noLinkW m id)∧(noLinkW m id=0→DrB B D (keptP m fun x=>decide (x.id≠id)) st')∧KB B st st':=by
 obtain ⟨⟨lv,le,lr,hI,b1,b2,b3⟩,hB0⟩:=h
 obtain ⟨d1,d2,d3,d4,d5,d6⟩:=hI.ne
 obtain ⟨hD,hat,hD0⟩:=hI
 obtain ⟨y,hy⟩:∃ y,y=noLinkW m id:=⟨_,rfl⟩
 rw [← hy]
 unfold noLinkW at hy
 have hvl:=ho.vl
 have hel:=ho.el
 have hlen:=ho.len
 have n1:=hat.v0
 have n2:=hat.e0
 have n3:=hat.r0
 have hat1:MpAt m lv le lr (st.new (.box 29 1 [u id])):=⟨by simp [show ¬ lv=st.next by omega,hat.v],by simp [show ¬ le=st.next by omega,hat.e],by simp [show ¬ lr=st.next by omega,hat.r],by simp;omega,by simp;omega,by simp;omega⟩
 unfold mpM at hD
 have e1:¬ D=st.next:=by omega
 refine qO tabOk Tryz.func65 rfl rfl Tryz.ntmps65 (rs:=[.tmp 4]) rfl (by simp) ?_
 refine awp_posG fun hpos=>?_
 (repeat' (first | refine qS ?_ | (refine w_e [] ?_;intro J hJ;simp only [];simp [hD,e1];(refine hJ _ _ ?_;clear hJ J;simp only [ak,reduceIte]))))
 (refine w_s [] [D,st.next] [(0,true),(1,true),(2,true),(3,true),(4,true),(5,true),(6,false),(7,true)] ?_;intro J hJ;simp [hD,e1])
 refine qD (EdgeM m lv le lr id _ hel hat1) (by simp) ?_;rintro r s1 ⟨rfl,h1⟩
 rw [h1];clear h1 s1
 refine ⟨fun h=>by first | (cases h;done) | simp,?_⟩
 by_cases hin:fe m.g.es id < 0
 ·rw [if_pos hin] at hy
  subst hy
  generalize fe m.g.es id=gg at *
  (refine d_go ?_;simp [hin];(refine hJ _ _ ?_;clear hJ J;simp only [ak,reduceIte]))
  (repeat' (first | refine qS ?_ | (refine qR ?_;simp only [ak,reduceIte];simp [hin]) | (refine qC ?_;simp [hin]) | (refine w_e [] ?_;intro J hJ;simp only [];simp [hin];(refine hJ _ _ ?_;clear hJ J;simp only [ak,reduceIte]))))
  exact (Keeps.new _ _).kb (by omega)
 rw [if_neg hin] at hy
 subst hy
 generalize fe m.g.es id=gg at *
 (refine d_go ?_;simp [hin];(refine hJ _ _ ?_;clear hJ J;simp only [ak,reduceIte]))
 (repeat' (first | refine qS ?_ | (refine qK ?_;simp only [ak,reduceIte]) | (refine qC ?_;simp [hin,hD,e1]) | (refine w_e [] ?_;intro J hJ;simp only [];simp [hin,hD,e1])))
 refine qE (acalls_frzA (frzL_cons (frz_mp hat1 d4 d5 d6) (frzL_same _ _)) (rKeepM m 107 [.pt st.next 0] (fun x=>decide (x.id≠id)) _ (by omega) (by omega) (by omega) hs hid fun x _ st2 hk=>noLink_1 x st.next id st2 (by rw [hk.H _ (by simp)];simp [show ¬ st.next=lr by omega,show ¬ st.next=le by omega,show ¬ st.next=lv by omega]) (Nat.lt_of_lt_of_le (by simp) hk.next))) (by simp [mpM]) ?_;rintro r s1 ⟨lv',le',lr',rfl,hat',l1,l2,l3,hk1⟩
 simp only [set_next,new_next] at l1 l2 l3
 have hD1:s1.H D=.box 61 3 [.ms lv 0 m.g.vs.length,.ms le 0 m.g.es.length,.ms lr 0 m.rots.length]:=by
  rw [hk1.H _ (by simp;omega)]
  simp [d1,d2,d3,e1,hD]
 have hn1:=hk1.next
 simp only [set_next,new_next] at hn1
 unfold mpM
 (repeat' (first | refine qS ?_ | (refine qR ?_;simp only [ak,reduceIte];simp [hD1]) | ((first | (refine w_e [] ?_;intro J hJ;simp only []) | (refine e_go ?_));simp [hD1];(refine hJ _ _ ?_;clear hJ J;simp only [ak,reduceIte]))))
 refine ⟨⟨⟨lv',le',lr',⟨?_,⟨?_,?_,?_,?_,?_,?_⟩,?_⟩,by omega,by omega,by omega⟩,hB0⟩,⟨?_,fun x hx=>?_⟩⟩
 ·simp [mpM]
 ·simp [show ¬ lv'=D by omega,hat'.v]
 ·simp [show ¬ le'=D by omega,hat'.e]
 ·simp [show ¬ lr'=D by omega,hat'.r]
 ·simp [hat'.v0]
 ·simp [hat'.e0]
 ·simp [hat'.r0]
 ·simp;omega
 ·simp;omega
 ·rw [set_H,if_neg (by omega),hk1.H x (by simp;omega)]
  simp [show ¬ x=lr by omega,show ¬ x=le by omega,show ¬ x=lv by omega,show ¬ x=st.next by omega]
theorem goneL_mem {es K:List Ed} {d:Int}:d∈goneL es K↔∃ x∈es,fe K x.id < 0∧x.id=d / 2:=by
 unfold goneL
 rw [List.mem_flatMap]
 constructor
 ·rintro ⟨x,hx,hd⟩
  have:=List.mem_filter.1 hx
  refine ⟨x,this.1,by simpa using this.2,?_⟩
  simp only [List.mem_cons,List.not_mem_nil,or_false] at hd
  omega
 ·rintro ⟨x,hx,h1,h2⟩
  refine ⟨x,List.mem_filter.2 ⟨hx,by simpa using h1⟩,?_⟩
  simp only [List.mem_cons,List.not_mem_nil,or_false]
  omega
theorem fe_neg {l:List Ed} {id:Int}:fe l id < 0↔∀ x∈l,x.id≠id:=by
 unfold fe
 split
 ·rename_i h
  obtain ⟨x,hx,h1⟩:=List.any_eq_true.1 h
  constructor
  ·intro k;omega
  ·intro k;exact absurd (by simpa using h1) (k x hx)
 ·rename_i h
  refine ⟨fun _ x hx e=>h (List.any_eq_true.2 ⟨x,hx,by simpa using e⟩),fun _=>by omega⟩
theorem keptP_less {m:Mp} (h:MapOk m) (id:Int):keptP m (fun x=>decide (x.id≠id))=lessM m id:=by
 unfold keptP lessM
 congr 1
 refine List.map_congr_left fun t ht=>?_
 congr 1
 unfold wo
 refine List.filter_congr fun d hd=>?_
 congr 1
 refine decide_eq_decide.2 ?_
 rw [goneL_mem]
 obtain ⟨x,hx,e⟩:=darts_half.1 (h.turn_dart ht hd)
 simp only [List.mem_cons,List.not_mem_nil,or_false]
 constructor
 ·rintro ⟨y,hy,h1,h2⟩
  rw [fe_neg] at h1
  have:y.id=id:=Classical.byContradiction fun k=>h1 y (List.mem_filter.2 ⟨hy,by simpa using k⟩) rfl
  omega
 ·intro hd2
  refine ⟨x,hx,fe_neg.2 fun z hz k=>?_,e⟩
  have:=(List.mem_filter.1 hz).2
  simp only [ne_eq,decide_not,Bool.not_eq_true',decide_eq_false_iff_not] at this
  omega
def fx {α:Type} (l:List α) (p:α→Bool):Int:=if l.any p then (l.findIdx p:Int) else -1
theorem fx_some {α:Type} {l:List α} {p:α→Bool} {k:Nat} (hk:k < l.length) (h:p l[k]=true) (hn:∀ j (hj:j < l.length),j < k→p l[j]=false):fx l p=k:=by
 unfold fx
 rw [if_pos (List.any_eq_true.2 ⟨_,List.getElem_mem hk,h⟩)]
 congr 1
 exact (List.findIdx_eq hk).2 ⟨h,fun j hj=>hn j (by omega) hj⟩
theorem fx_none {α:Type} {l:List α} {p:α→Bool} (hn:∀ j (hj:j < l.length),p l[j]=false):fx l p = -1:=by
 unfold fx
 rw [if_neg]
 intro h
 obtain ⟨x,hx,hp⟩:=List.any_eq_true.1 h
 obtain ⟨j,hj,rfl⟩:=List.getElem_of_mem hx
 rw [hn j hj] at hp
 cases hp
theorem fx_neg {α:Type} (l:List α) (p:α→Bool):(0≤fx l p)↔l.any p=true:=by
 unfold fx
 split
 ·rename_i h;exact ⟨fun _=>h,fun _=>by omega⟩
 ·rename_i h;exact ⟨fun k=>by omega,fun k=>absurd k h⟩
theorem IndexFuncX (l:List Ed) (t:Nat) (f:FuncId) (caps:List LV) (p:Ed→Bool) (st:St) (hl:l.length≤1000) (hp:∀ x∈l,ACalls Tryz.prog f (.ag (edL x)::caps) st fun r st'=>r=bb (p x)∧st'=st):
 ACalls Tryz.prog 102 [.sl t l.length (eds l),.fn (.func f) caps] st fun r st'=>r=i (fx l p)∧st'=st:=by
 have hel:=eds_length l
 refine qO tabOk Tryz.func102 rfl rfl Tryz.ntmps102 (rs:=[.tmp 4]) rfl (by simp) ?_
 (repeat' (first | refine qS ?_ | refine qB ?_ | (refine w_e [] ?_;intro J hJ;simp only [];simp [];(refine hJ _ _ ?_;clear hJ J;simp only [ak,reduceIte]))))
 refine awp_range 8 7 9 18 (l.length) (fun j fr st2=>fr 0=.sl t l.length (eds l)∧fr 1=.fn (.func f) caps∧st2=st∧∀ k (hk:k < l.length),k < j→p l[k]=false) ?_ ?_ ?_
 ·exact ⟨by simp,by simp,rfl,fun k hk h=>by omega⟩
 ·rintro j fr st2 hlt ⟨f0,f1,rfl,hno⟩ fi fn JJ hJJ
  have hd:=eds_drop l j hlt
  rw [getDE _ _ hlt] at hd
  have hj3:j * 3 < l.length * 3:=by omega
  have hso:=fun h=>fx_some (p:=p) hlt h hno
  have htest:=hp _ (List.getElem_mem hlt)
  have hnx:p l[j]=false→∀ k (hk:k < l.length),k < j+1→p l[k]=false:=fun h k hk hkj=>by
   rcases Nat.lt_or_ge k j with h1 | h1
   ·exact hno k hk h1
   ·obtain rfl:k=j:=by omega
    exact h
  generalize l[j]=x at *
  obtain ⟨d,a,b⟩:=x
  simp only at hd htest
  (repeat' (first | refine qS ?_ | (refine w_e [] ?_;intro J hJ;simp only [];simp [f0,f1,fi,fn,hlt,hd,hel,hj3];(try (refine hJ _ _ ?_;clear hJ J;simp only [ak,reduceIte])))))
  refine qF htest ?_;rintro r s3 ⟨rfl,h3⟩
  rw [h3];clear h3 s3
  cases hpx:p ⟨d,a,b⟩ with
  | true=>
    have hr:=hso hpx
    (repeat' (first | refine qS ?_ | (refine qR ?_;simp only [ak,reduceIte];simp [hr,fi]) | (refine qC ?_;simp [hr,fi]) | ((first | (refine w_e [] ?_;intro J hJ;simp only []) | (refine e_go ?_));simp [hr,fi];(refine hJ _ _ ?_;clear hJ J;simp only [ak,reduceIte]))))
  | false=>
    (repeat' (first | (refine qK ?_;simp only [ak,reduceIte]) | (refine qC ?_;simp [fi]) | (refine e_go ?_;simp [fi];(refine hJ _ _ ?_;clear hJ J;simp only [ak,reduceIte]))))
    exact hJJ _ _ (by simp [fi]) (by simp [fn]) ⟨by simp [f0],by simp [f1],rfl,hnx hpx⟩
 ·rintro fr st2 ⟨f0,f1,rfl,hno⟩
  have hr:=fx_none (p:=p) fun j hj=>hno j hj hj
  (repeat' (first | refine qS ?_ | (refine qR ?_;simp only [ak,reduceIte];simp [hr]) | (refine w_e [] ?_;intro J hJ;simp only [];simp [hr];(refine hJ _ _ ?_;clear hJ J;simp only [ak,reduceIte]))))
theorem IndexFuncR (R:List (List Int)) (t:Nat) (f:FuncId) (caps:List LV) (p:List Int→Bool) (st:St) (hl:R.length≤1000) (hp:∀ x∈R,ACalls Tryz.prog f (.sl 0 x.length (us x)::caps) st fun r st'=>r=bb (p x)∧st'=st):
 ACalls Tryz.prog 142 [.sl t R.length (rowsL R),.fn (.func f) caps] st fun r st'=>r=i (fx R p)∧st'=st:=by
 refine qO tabOk Tryz.func142 rfl rfl Tryz.ntmps142 (rs:=[.tmp 4]) rfl (by simp) ?_
 (repeat' (first | refine qS ?_ | refine qB ?_ | (refine w_e [] ?_;intro J hJ;simp only [];simp [];(refine hJ _ _ ?_;clear hJ J;simp only [ak,reduceIte]))))
 refine awp_range 8 7 9 18 (R.length) (fun j fr st2=>fr 0=.sl t R.length (rowsL R)∧fr 1=.fn (.func f) caps∧st2=st∧∀ k (hk:k < R.length),k < j→p R[k]=false) ?_ ?_ ?_
 ·exact ⟨by simp,by simp,rfl,fun k hk h=>by omega⟩
 ·rintro j fr st2 hlt ⟨f0,f1,rfl,hno⟩ fi fn JJ hJJ
  have hd:=rowsL_drop R j hlt
  have hRl:j < (rowsL R).length:=by simpa using hlt
  rw [getR_lt _ _ hlt] at hd
  have hso:=fun h=>fx_some (p:=p) hlt h hno
  have htest:=hp _ (List.getElem_mem hlt)
  have hnx:p R[j]=false→∀ k (hk:k < R.length),k < j+1→p R[k]=false:=fun h k hk hkj=>by
   rcases Nat.lt_or_ge k j with h1 | h1
   ·exact hno k hk h1
   ·obtain rfl:k=j:=by omega
    exact h
  generalize R[j]=x at *
  (repeat' (first | refine qS ?_ | (refine w_e [] ?_;intro J hJ;simp only [];simp [f0,f1,fi,fn,hlt,hd,hRl];(try (refine hJ _ _ ?_;clear hJ J;simp only [ak,reduceIte])))))
  refine qF htest ?_;rintro r s3 ⟨rfl,h3⟩
  rw [h3];clear h3 s3
  cases hpx:p x with
  | true=>
    have hr:=hso hpx
    (repeat' (first | refine qS ?_ | (refine qR ?_;simp only [ak,reduceIte];simp [hr,fi]) | (refine qC ?_;simp [hr,fi]) | ((first | (refine w_e [] ?_;intro J hJ;simp only []) | (refine e_go ?_));simp [hr,fi];(refine hJ _ _ ?_;clear hJ J;simp only [ak,reduceIte]))))
  | false=>
    (repeat' (first | (refine qK ?_;simp only [ak,reduceIte]) | (refine qC ?_;simp [fi]) | (refine e_go ?_;simp [fi];(refine hJ _ _ ?_;clear hJ J;simp only [ak,reduceIte]))))
    exact hJJ _ _ (by simp [fi]) (by simp [fn]) ⟨by simp [f0],by simp [f1],rfl,hnx hpx⟩
 ·rintro fr st2 ⟨f0,f1,rfl,hno⟩
  have hr:=fx_none (p:=p) fun j hj=>hno j hj hj
  (repeat' (first | refine qS ?_ | (refine qR ?_;simp only [ak,reduceIte];simp [hr]) | (refine w_e [] ?_;intro J hJ;simp only [];simp [hr];(refine hJ _ _ ?_;clear hJ J;simp only [ak,reduceIte]))))
theorem ContainsFuncR (R:List (List Int)) (t:Nat) (f:FuncId) (caps:List LV) (p:List Int→Bool) (st:St) (hl:R.length≤1000) (hp:∀ x∈R,ACalls Tryz.prog f (.sl 0 x.length (us x)::caps) st fun r st'=>r=bb (p x)∧st'=st):
 ACalls Tryz.prog 127 [.sl t R.length (rowsL R),.fn (.func f) caps] st fun r st'=>r=bb (R.any p)∧st'=st:=by
 have hb:bb (decide (0≤fx R p))=bb (R.any p):=by
  congr 1
  cases h:R.any p with
  | true=>exact decide_eq_true ((fx_neg R p).2 h)
  | false=>
    refine decide_eq_false fun k=>?_
    rw [fx_neg,h] at k
    cases k
 rw [← hb]
 refine qO tabOk Tryz.func127 rfl rfl Tryz.ntmps127 (rs:=[.tmp 4]) rfl (by simp) ?_
 (repeat' (first | refine qS ?_ | (refine w_e [] ?_;intro J hJ;simp only [];simp [];(try (refine hJ _ _ ?_;clear hJ J;simp only [ak,reduceIte])))))
 refine qF (IndexFuncR R t f caps p _ hl hp) ?_;rintro r s3 ⟨rfl,rfl⟩
 (repeat' (first | (refine qR ?_;simp only [ak,reduceIte];simp []) | (refine e_go ?_;simp [];(refine hJ _ _ ?_;clear hJ J;simp only [ak,reduceIte]))))
theorem together_1 (l:List Int) (t q q':Nat) (a b:Int) (st:St) (hl:small l) (hq:st.H q=.box 29 1 [u a]) (hq':st.H q'=.box 29 1 [u b]):
 ACalls Tryz.prog 128 [.sl t l.length (us l),.pt q 0,.pt q' 0] st fun r st'=>r=bb (decide (a∈l)&&decide (b∈l))∧st'=st:=by
 refine qO tabOk Tryz.func128 rfl rfl Tryz.ntmps128 (rs:=[.tmp 4]) rfl (by simp) ?_
 (repeat' (first | refine qS ?_ | (refine w_e [] ?_;intro J hJ;simp only [];simp [hq];(try (refine hJ _ _ ?_;clear hJ J;simp only [ak,reduceIte])))))
 refine qE (Contains l t a _ hl) (by simp) ?_;rintro r s3 ⟨rfl,rfl⟩
 by_cases ha:a∈l
 ·(refine e_go ?_;simp [ha,hq'])
  refine qE (Contains l t b _ hl) (by simp) ?_;rintro r s3 ⟨rfl,rfl⟩
  (repeat' (first | (refine qR ?_;simp only [ak,reduceIte];simp [ha]) | (refine e_go ?_;simp [ha];(refine hJ _ _ ?_;clear hJ J;simp only [ak,reduceIte]))))
 ·(repeat' (first | (refine qR ?_;simp only [ak,reduceIte];simp [ha]) | (refine e_go ?_;simp [ha];(refine hJ _ _ ?_;clear hJ J;simp only [ak,reduceIte]))))
end Go.Proofs.YtglkgindpjdoiaaGreat.Aw
namespace Go.Proofs.YtglkgindpjdoiaaGreat.Aw
open Go Go.RowKit Go.Proofs.YtglkgindpjdoiaaGreat.Pl Go.Proofs.YtglkgindpjdoiaaGreat.Eu
set_option linter.unusedSimpArgs false
set_option linter.unusedVariables false
structure Ahd (n:Mp) (x:Ed) (A B:Int):Prop where
 a:sg n A=2 * x.id
 b:sg n B=2 * x.id+1
 ad:A∈darts n.g.es
 bd:B∈darts n.g.es
 ne:A≠B
 a1:A≠2 * x.id+1
 b0:B≠2 * x.id
 s:∀ d,sg n d=sg (lessM n x.id) (Eu.sw A (2 * x.id) (Eu.sw B (2 * x.id+1) d))
theorem MapOk.ahd {n:Mp} (h:MapOk n) {x:Ed} (hx:x∈n.g.es):∃ A B,Ahd n x A B:=by
 obtain ⟨A,B,h1,h2,h3,h4,h5,h6,h7,h8⟩:=h.less_sg hx
 exact ⟨A,B,h1,h2,h3,h4,h5,h6,h7,h8⟩
theorem sw_al (es:List Ed) (a b d:Int):Eu.sw a b (al es d)=al es (Eu.sw (al es a) (al es b) d):=by
 by_cases h1:d=al es a
 ·subst h1;rw [al_al,Eu.sw_a,Eu.sw_a,al_al]
 by_cases h2:d=al es b
 ·subst h2;rw [al_al,Eu.sw_b,Eu.sw_b,al_al]
 rw [Eu.sw_o (fun h=>h1 (by rw [← h,al_al])) (fun h=>h2 (by rw [← h,al_al])),Eu.sw_o h1 h2]
theorem sw_self (a d:Int):Eu.sw a a d=d:=by unfold Eu.sw;split<;>simp_all
theorem countP_two {p q:Int→Bool} {a b:Int} {l:List Int} (hn:l.Nodup) (ha:a∈l) (hb:b∈l) (hab:a≠b) (h1:∀ v∈l,v≠a→v≠b→p v=q v) (qa:q a=false) (qb:q b=false):
 l.countP p=l.countP q+(if p a=true then 1 else 0)+(if p b=true then 1 else 0):=by
 have hb':b∈l.erase a:=(List.mem_erase_of_ne (Ne.symm hab)).2 hb
 have e1:=(List.perm_cons_erase ha).trans ((List.perm_cons_erase hb').cons a)
 rw [e1.countP_eq p,e1.countP_eq q,List.countP_cons,List.countP_cons,List.countP_cons,List.countP_cons,qa,qb]
 have:((l.erase a).erase b).countP p=((l.erase a).erase b).countP q:=List.countP_congr fun v hv=>by
  have hn2:=hn.erase a
  obtain ⟨v1,v2⟩:=(hn2.mem_erase_iff).1 hv
  obtain ⟨v3,v4⟩:=(hn.mem_erase_iff).1 v2
  rw [h1 v v4 v3 v1]
 rw [this]
 simp
 omega
section
variable {n:Mp} (h:MapOk n) {x:Ed} (hx:x∈n.g.es)
include h hx
theorem al_less {d:Int} (hd:d∈darts (lessM n x.id).g.es):al (lessM n x.id).g.es d=al n.g.es d:=by
 have _:=h
 have _:=hx
 rw [al_in hd,al_in (less_dart.1 hd).1]
theorem al_end0:al n.g.es (2 * x.id)=2 * x.id+1:=by rw [al_in (h.dart0 hx).1];unfold tw;split<;>omega
theorem al_end1:al n.g.es (2 * x.id+1)=2 * x.id:=by rw [al_in (h.dart0 hx).2];unfold tw;split<;>omega
theorem psi_in {d:Int} (hd:d∈darts (lessM n x.id).g.es):fc (lessM n x.id) n.g.es d=fc (lessM n x.id) (lessM n x.id).g.es d:=by
 unfold fc;rw [al_less h hx hd]
theorem psi_0:fc (lessM n x.id) n.g.es (2 * x.id)=2 * x.id+1:=by
 unfold fc;rw [al_end0 h hx];exact (less_ok h x.id).sg_id fun k=>(less_dart.1 k).2 (by omega)
theorem psi_1:fc (lessM n x.id) n.g.es (2 * x.id+1)=2 * x.id:=by
 unfold fc;rw [al_end1 h hx];exact (less_ok h x.id).sg_id fun k=>(less_dart.1 k).2 (by omega)
theorem psi_inj {d e:Int} (k:fc (lessM n x.id) n.g.es d=fc (lessM n x.id) n.g.es e):d=e:=have _:=hx;(less_ok h x.id).fc_inj _ _ _ k
theorem psi_dart {d:Int} (hd:d∈darts (lessM n x.id).g.es):fc (lessM n x.id) n.g.es d∈darts (lessM n x.id).g.es:=have _:=hx;(less_ok h x.id).fc_dart _ _ hd
theorem dart_cases {d:Int} (hd:d∈darts n.g.es):d=2 * x.id∨d=2 * x.id+1∨d∈darts (lessM n x.id).g.es:=by
 have _:=h
 have _:=hx
 by_cases h1:d / 2=x.id
 ·omega
 ·exact .inr (.inr (less_dart.2 ⟨hd,h1⟩))
theorem psi_mem {d:Int} (hd:d∈darts n.g.es):fc (lessM n x.id) n.g.es d∈darts n.g.es:=by
 rcases dart_cases h hx hd with rfl | rfl | k
 ·rw [psi_0 h hx];exact (h.dart0 hx).2
 ·rw [psi_1 h hx];exact (h.dart0 hx).1
 ·exact (less_dart.1 (psi_dart h hx k)).1
theorem psi_out {d:Int} (hd:d∉darts n.g.es):fc (lessM n x.id) n.g.es d=d:=by
 have _:=hx
 unfold fc
 rw [al_out hd]
 exact (less_ok h x.id).sg_id fun k=>hd (less_dart.1 k).1
theorem psi_per:Per (fc (lessM n x.id) n.g.es):=per_of (darts n.g.es) (fun _=>psi_mem h hx) (fun _ _=>psi_inj h hx) fun _=>psi_out h hx
theorem psi_it {d:Int} (hd:d∈darts (lessM n x.id).g.es) (k:Nat):it (fc (lessM n x.id) n.g.es) k d=it (fc (lessM n x.id) (lessM n x.id).g.es) k d∧it (fc (lessM n x.id) n.g.es) k d∈darts (lessM n x.id).g.es:=by
 induction k with
 | zero=>exact ⟨rfl,hd⟩
 | succ k ih=>
   rw [it_succ,it_succ,← ih.1]
   exact ⟨psi_in h hx ih.2,psi_dart h hx ih.2⟩
theorem psi_orb {d e:Int} (hd:d∈darts (lessM n x.id).g.es):Orb (fc (lessM n x.id) n.g.es) d e↔Orb (fc (lessM n x.id) (lessM n x.id).g.es) d e:=by
 constructor
 ·rintro ⟨k,hk⟩;exact ⟨k,by rw [← (psi_it h hx hd k).1,hk]⟩
 ·rintro ⟨k,hk⟩;exact ⟨k,by rw [(psi_it h hx hd k).1,hk]⟩
theorem psi_stay {d e:Int} (hd:d∈darts (lessM n x.id).g.es) (ho:Orb (fc (lessM n x.id) n.g.es) d e):e∈darts (lessM n x.id).g.es:=by
 obtain ⟨k,hk⟩:=ho
 rw [← hk];exact (psi_it h hx hd k).2
theorem not0:(2 * x.id:Int)∉darts (lessM n x.id).g.es∧(2 * x.id+1:Int)∉darts (lessM n x.id).g.es:=have _:=h;have _:=hx;⟨fun k=>(less_dart.1 k).2 (by omega),fun k=>(less_dart.1 k).2 (by omega)⟩
theorem darts_less:(darts n.g.es).Perm ([2 * x.id,2 * x.id+1]++darts (lessM n x.id).g.es):=by
 have h1:=rise_nodup (darts_rise h.g.ids)
 have h2:=rise_nodup (darts_rise (less_ok h x.id).g.ids)
 refine (List.perm_ext_iff_of_nodup h1 ?_).2 fun d=>?_
 ·simp only [List.cons_append,List.nil_append,List.nodup_cons,List.mem_cons,not_or]
  exact ⟨⟨by omega,(not0 h hx).1⟩,(not0 h hx).2,h2⟩
 ·simp only [List.cons_append,List.nil_append,List.mem_cons]
  constructor
  ·exact dart_cases h hx
  ·rintro (rfl | rfl | k)
   ·exact (h.dart0 hx).1
   ·exact (h.dart0 hx).2
   ·exact (less_dart.1 k).1
theorem psi_ncl:ncl (Orb (fc (lessM n x.id) n.g.es)) (darts n.g.es)=ncl (Orb (fc (lessM n x.id) (lessM n x.id).g.es)) (darts (lessM n x.id).g.es)+1:=by
 have hp:=psi_per h hx
 have h01:Orb (fc (lessM n x.id) n.g.es) (2 * x.id) (2 * x.id+1):=⟨1,psi_0 h hx⟩
 rw [ncl_perm hp.eqv (darts_less h hx),ncl_block (fun a ha b hb=>?_) (fun a ha b hb k=>?_),if_neg (by simp)]
 ·congr 1
  exact ncl_congr fun a ha b hb=>psi_orb h hx ha
 ·simp only [List.mem_cons,List.not_mem_nil,or_false] at ha hb
  rcases ha with rfl | rfl<;>rcases hb with rfl | rfl
  ·exact Orb.refl _ _
  ·exact h01
  ·exact Orb.symm hp h01
  ·exact Orb.refl _ _
 ·have:=psi_stay h hx hb k
  simp only [List.mem_cons,List.not_mem_nil,or_false] at ha
  rcases ha with rfl | rfl
  ·exact (not0 h hx).1 this
  ·exact (not0 h hx).2 this
variable {A B:Int} (hA:Ahd n x A B)
include hA
theorem fc_two (d:Int):fc n n.g.es d=fc (lessM n x.id) n.g.es (Eu.sw (al n.g.es A) (2 * x.id+1) (Eu.sw (al n.g.es B) (2 * x.id) d)):=by
 unfold fc
 rw [hA.s,sw_al,sw_al,al_end0 h hx,al_end1 h hx]
theorem ahd_alA:al n.g.es A∈darts n.g.es:=have _:=h;have _:=hx;(al_dart _ _ _).2 hA.ad
theorem ahd_alB:al n.g.es B∈darts n.g.es:=have _:=h;have _:=hx;(al_dart _ _ _).2 hA.bd
theorem ahd_A (h0:A≠2 * x.id):A∈darts (lessM n x.id).g.es:=have _:=h;have _:=hx;less_dart.2 ⟨hA.ad,fun k=>by have:=hA.a1;omega⟩
theorem ahd_B (h0:B≠2 * x.id+1):B∈darts (lessM n x.id).g.es:=have _:=h;have _:=hx;less_dart.2 ⟨hA.bd,fun k=>by have:=hA.b0;omega⟩
theorem MapOk.less_faces:(A=2 * x.id→B=2 * x.id+1→ncl (Orb (fc n n.g.es)) (darts n.g.es)=ncl (Orb (fc (lessM n x.id) (lessM n x.id).g.es)) (darts (lessM n x.id).g.es)+1)∧
 (A=2 * x.id→B≠2 * x.id+1→ncl (Orb (fc n n.g.es)) (darts n.g.es)=ncl (Orb (fc (lessM n x.id) (lessM n x.id).g.es)) (darts (lessM n x.id).g.es))∧
 (A≠2 * x.id→B=2 * x.id+1→ncl (Orb (fc n n.g.es)) (darts n.g.es)=ncl (Orb (fc (lessM n x.id) (lessM n x.id).g.es)) (darts (lessM n x.id).g.es))∧
 (A≠2 * x.id→B≠2 * x.id+1→Orb (fc (lessM n x.id) (lessM n x.id).g.es) (sg (lessM n x.id) A) (sg (lessM n x.id) B)→ncl (Orb (fc n n.g.es)) (darts n.g.es)=ncl (Orb (fc (lessM n x.id) (lessM n x.id).g.es)) (darts (lessM n x.id).g.es)+1)∧
 (A≠2 * x.id→B≠2 * x.id+1→¬ Orb (fc (lessM n x.id) (lessM n x.id).g.es) (sg (lessM n x.id) A) (sg (lessM n x.id) B)→ncl (Orb (fc n n.g.es)) (darts n.g.es)+1=ncl (Orb (fc (lessM n x.id) (lessM n x.id).g.es)) (darts (lessM n x.id).g.es)):=by
 have hp:=psi_per h hx
 have hn:=psi_ncl h hx
 have hpn:Per (fc n n.g.es):=h.fc_per _ fun _ h=>h
 have h2:=fc_two h hx hA
 have d0:=h.dart0 hx
 have hAd:=ahd_alA h hx hA
 have hBd:=ahd_alB h hx hA
 have e0:=al_end0 h hx
 have e1:=al_end1 h hx
 have hno:∀ d,d∈darts (lessM n x.id).g.es→¬ Orb (fc (lessM n x.id) n.g.es) d (2 * x.id)∧¬ Orb (fc (lessM n x.id) n.g.es) d (2 * x.id+1):=fun d hd=>⟨fun k=>(not0 h hx).1 (psi_stay h hx hd k),fun k=>(not0 h hx).2 (psi_stay h hx hd k)⟩
 have hal:∀ d,d∈darts (lessM n x.id).g.es→al n.g.es d∈darts (lessM n x.id).g.es:=fun d hd=>(al_dart _ _ _).2 hd
 refine ⟨fun ha hb=>?_,fun ha hb=>?_,fun ha hb=>?_,fun ha hb hS=>?_,fun ha hb hS=>?_⟩
 ·rw [← hn]
  refine congrArg (fun f=>ncl (Orb f) (darts n.g.es)) (funext fun d=>?_)
  rw [h2,ha,hb,e0,e1,sw_self,sw_self]
 ·have hb':=ahd_B h hx hA hb
  have:=ncl_join (D:=darts n.g.es) hp hpn (a:=al n.g.es B) (b:=2 * x.id) (fun d=>by rw [h2,ha,e0,sw_self]) hBd d0.1 (hno _ (hal _ hb')).1
  omega
 ·have ha':=ahd_A h hx hA ha
  have:=ncl_join (D:=darts n.g.es) hp hpn (a:=al n.g.es A) (b:=2 * x.id+1) (fun d=>by rw [h2,hb,e1,sw_self]) hAd d0.2 (hno _ (hal _ ha')).2
  omega
 all_goals
  have ha':=ahd_A h hx hA ha
  have hb':=ahd_B h hx hA hb
  obtain ⟨f,hf⟩:∃ f:Int→Int,∀ d,f d=fc (lessM n x.id) n.g.es (Eu.sw (al n.g.es A) (2 * x.id+1) d):=⟨_,fun _=>rfl⟩
  have hpf:Per f:=by
   refine per_of (darts n.g.es) (fun d hd=>?_) (fun d e k=>?_) fun d hd=>?_
   ·rw [hf]
    refine psi_mem h hx ?_
    unfold Eu.sw
    split
    ·exact d0.2
    ·split
     ·exact hAd
     ·exact hd
   ·rw [hf,hf] at k
    exact Eu.sw_inj _ _ (psi_inj h hx k)
   ·rw [hf,Eu.sw_o (show d≠_ from fun k=>hd (by rw [k];exact hAd)) (show d≠_ from fun k=>hd (by rw [k];exact d0.2)),psi_out h hx hd]
  have hj:=ncl_join (D:=darts n.g.es) hp hpf hf hAd d0.2 (hno _ (hal _ ha')).2
  have ho1:∀ y z,Orb f y z↔Mg (Orb (fc (lessM n x.id) n.g.es)) (al n.g.es A) (2 * x.id+1) y z:=fun y z=>by
   rw [mg_same hp hpf hf]
   have hab:Orb f (al n.g.es A) (2 * x.id+1):=join_cyc hp hf fun k=>(hno _ (hal _ ha')).2 (Orb.symm hp k)
   exact (Mg.same hpf.eqv hab y z).symm
  have hS2:Orb f (al n.g.es B) (2 * x.id)↔Orb (fc (lessM n x.id) (lessM n x.id).g.es) (sg (lessM n x.id) A) (sg (lessM n x.id) B):=by
   have hpm:Per (fc (lessM n x.id) (lessM n x.id).g.es):=(less_ok h x.id).fc_per _ fun _ h=>h
   have st:∀ d,d∈darts (lessM n x.id).g.es→Orb (fc (lessM n x.id) (lessM n x.id).g.es) (al n.g.es d) (sg (lessM n x.id) d):=fun d hd=>⟨1,by
    show fc _ _ _=_
    rw [← psi_in h hx (hal _ hd)];unfold fc;rw [al_al]⟩
   rw [ho1]
   constructor
   ·rintro (k | ⟨k,_⟩ | ⟨k,_⟩)
    ·exact absurd k (hno _ (hal _ hb')).1
    ·have k2:=(psi_orb h hx (hal _ hb')).1 k
     exact (Orb.symm hpm (((Orb.symm hpm (st _ hb')).trans k2).trans (st _ ha')))
    ·exact absurd k (hno _ (hal _ hb')).2
   ·intro k
    refine .inr (.inl ⟨(psi_orb h hx (hal _ hb')).2 (((st _ hb').trans (Orb.symm hpm k)).trans (Orb.symm hpm (st _ ha'))),⟨1,psi_1 h hx⟩⟩)
  have h3:∀ d,fc n n.g.es d=f (Eu.sw (al n.g.es B) (2 * x.id) d):=fun d=>by rw [hf,h2]
  have hne:al n.g.es B≠2 * x.id:=fun k=>(not0 h hx).1 (k ▸ hal _ hb')
 ·have:=ncl_split (D:=darts n.g.es) hpf hpn h3 hne hBd d0.1 (hS2.2 hS)
  omega
 ·have:=ncl_join (D:=darts n.g.es) hpf hpn h3 hBd d0.1 fun k=>hS (hS2.1 k)
  omega
omit hA
theorem MapOk.less_reach (v w:Int):Reach n.g.es v w↔Mg (Reach (lessM n x.id).g.es) x.a x.b v w:=by
 rw [← reach_snoc]
 have hm:∀ y,y∈n.g.es↔y∈(lessM n x.id).g.es++[x]:=fun y=>by
  rw [List.mem_append,List.mem_singleton]
  constructor
  ·intro hy
   by_cases e:y.id=x.id
   ·exact .inr (id_eq h.g.ids hy hx e)
   ·exact .inl (List.mem_filter.2 ⟨hy,by simpa using e⟩)
  ·rintro (k | rfl)
   ·exact (List.mem_filter.1 k).1
   ·exact hx
 exact ⟨Reach.mono fun y hy=>(hm y).1 hy,Reach.mono fun y hy=>(hm y).2 hy⟩
theorem MapOk.ends_less {v d:Int}:d∈ends (lessM n x.id).g.es v↔d∈ends n.g.es v∧d / 2≠x.id:=by
 have _:=h
 have _:=hx
 rw [mem_ends,mem_ends]
 constructor
 ·rintro ⟨y,hy,k⟩
  have:=List.mem_filter.1 hy
  have h2:y.id≠x.id:=by simpa using this.2
  exact ⟨⟨y,this.1,k⟩,by rcases k with ⟨_,rfl⟩ | ⟨_,rfl⟩<;>omega⟩
 ·rintro ⟨⟨y,hy,k⟩,hne⟩
  exact ⟨y,List.mem_filter.2 ⟨hy,by have:y.id≠x.id:=(by rcases k with ⟨_,rfl⟩ | ⟨_,rfl⟩<;>omega);simpa using this⟩,k⟩
theorem MapOk.ends0:2 * x.id∈ends n.g.es x.a∧2 * x.id+1∈ends n.g.es x.b:=have _:=h;⟨mem_ends.2 ⟨x,hx,.inl ⟨rfl,rfl⟩⟩,mem_ends.2 ⟨x,hx,.inr ⟨rfl,rfl⟩⟩⟩
theorem MapOk.len_less:(lessM n x.id).g.es.length+1=n.g.es.length:=by
 have:=(darts_less h hx).length_eq
 rw [darts_length,List.length_append,darts_length] at this
 simp at this
 omega
include hA
theorem MapOk.ahd_ends:A∈ends n.g.es x.a∧B∈ends n.g.es x.b:=by
 obtain ⟨e0,e1⟩:=h.ends0 hx
 obtain ⟨v,hv,_⟩:=dart_at hA.ad
 obtain ⟨w,hw,_⟩:=dart_at hA.bd
 have k1:=h.sg_at_v hv
 have k2:=h.sg_at_v hw
 rw [hA.a] at k1
 rw [hA.b] at k2
 rw [at_unique h.g.ids e0 k1,at_unique h.g.ids e1 k2]
 exact ⟨hv,hw⟩
theorem MapOk.less_alone:(nbr (lessM n x.id).g.es x.a=[]↔A=2 * x.id)∧(nbr (lessM n x.id).g.es x.b=[]↔B=2 * x.id+1):=by
 obtain ⟨e0,e1⟩:=h.ends0 hx
 obtain ⟨k0,k1⟩:=h.ahd_ends hx hA
 have hfix:∀ y,sg n y=y→∀ k,it (sg n) k y=y:=fun y hy k=>by
  induction k with
  | zero=>rfl
  | succ k ih=>rw [it_succ,ih,hy]
 rw [← ends_nil,← ends_nil]
 constructor
 ·constructor
  ·intro hn
   refine Classical.byContradiction fun hne=>?_
   have:A∈ends (lessM n x.id).g.es x.a:=(h.ends_less hx).2 ⟨k0,fun k=>by have:=hA.a1;omega⟩
   rw [hn] at this;simp at this
  ·intro he
   rw [List.eq_nil_iff_forall_not_mem]
   intro d hd
   obtain ⟨d1,d2⟩:=(h.ends_less hx).1 hd
   obtain ⟨k,hk⟩:=h.turn_orb e0 d1
   have hs:=hA.a
   rw [he] at hs
   rw [hfix _ hs] at hk
   omega
 ·constructor
  ·intro hn
   refine Classical.byContradiction fun hne=>?_
   have:B∈ends (lessM n x.id).g.es x.b:=(h.ends_less hx).2 ⟨k1,fun k=>by have:=hA.b0;omega⟩
   rw [hn] at this;simp at this
  ·intro he
   rw [List.eq_nil_iff_forall_not_mem]
   intro d hd
   obtain ⟨d1,d2⟩:=(h.ends_less hx).1 hd
   obtain ⟨k,hk⟩:=h.turn_orb e1 d1
   have hs:=hA.b
   rw [he] at hs
   rw [hfix _ hs] at hk
   omega
omit hA
theorem MapOk.edge_vs:x.a∈n.g.vs∧x.b∈n.g.vs∧x.a≠x.b:=⟨(h.g.ends x hx).1,(h.g.ends x hx).2,h.g.ne x hx⟩
include hA
theorem MapOk.alone_less:alone (lessM n x.id).g=alone n.g+(if A=2 * x.id then 1 else 0)+(if B=2 * x.id+1 then 1 else 0):=by
 obtain ⟨ha,hb,hab⟩:=h.edge_vs hx
 obtain ⟨e0,e1⟩:=h.ends0 hx
 obtain ⟨l0,l1⟩:=h.less_alone hx hA
 have:=countP_two (p:=fun v=>decide (nbr (lessM n x.id).g.es v=[])) (q:=fun v=>decide (nbr n.g.es v=[])) (rise_nodup h.g.rise) ha hb hab (fun v hv h1 h2=>?_) ?_ ?_
 ·unfold alone
  rw [show (lessM n x.id).g.vs=n.g.vs from rfl,this]
  simp only [decide_eq_true_eq,l0,l1]
 ·refine decide_eq_decide.2 ?_
  rw [← ends_nil,← ends_nil,List.eq_nil_iff_forall_not_mem,List.eq_nil_iff_forall_not_mem]
  refine forall_congr' fun d=>not_congr ?_
  rw [h.ends_less hx]
  refine ⟨fun k=>k.1,fun k=>⟨k,fun hd=>?_⟩⟩
  have:d=2 * x.id∨d=2 * x.id+1:=by omega
  rcases this with rfl | rfl
  ·exact h1 (at_unique h.g.ids k e0)
  ·exact h2 (at_unique h.g.ids k e1)
 ·simp only [decide_eq_false_iff_not]
  rw [← ends_nil]
  intro k;rw [k] at e0;simp at e0
 ·simp only [decide_eq_false_iff_not]
  rw [← ends_nil]
  intro k;rw [k] at e1;simp at e1
theorem MapOk.less_part (hr:Reach (lessM n x.id).g.es x.a x.b):A≠2 * x.id∧B≠2 * x.id+1:=by
 obtain ⟨l0,l1⟩:=h.less_alone hx hA
 have hab:=(h.edge_vs hx).2.2
 exact ⟨fun k=>hab (reach_alone (l0.2 k) hr),fun k=>hab (reach_alone (l1.2 k) hr.symm).symm⟩
theorem MapOk.face_part (ha:A≠2 * x.id) (hb:B≠2 * x.id+1) (hS:Orb (fc (lessM n x.id) (lessM n x.id).g.es) (sg (lessM n x.id) A) (sg (lessM n x.id) B)):Reach (lessM n x.id).g.es x.a x.b:=by
 have ho:=less_ok h x.id
 obtain ⟨k0,k1⟩:=h.ahd_ends hx hA
 have q0:A∈ends (lessM n x.id).g.es x.a:=(h.ends_less hx).2 ⟨k0,fun k=>by have:=hA.a1;omega⟩
 have q1:B∈ends (lessM n x.id).g.es x.b:=(h.ends_less hx).2 ⟨k1,fun k=>by have:=hA.b0;omega⟩
 obtain ⟨k,hk⟩:=hS
 obtain ⟨w,w1,w2⟩:=ho.orb_reach _ (fun _ h=>h) k (ho.sg_at_v q0)
 rw [hk] at w1
 rw [at_unique ho.g.ids (ho.sg_at_v q1) w1]
 exact w2
theorem MapOk.less_gn:Aw.gn n=Aw.gn (lessM n x.id)+@ite Nat (Reach (lessM n x.id).g.es x.a x.b∧¬ Orb (fc (lessM n x.id) (lessM n x.id).g.es) (sg (lessM n x.id) A) (sg (lessM n x.id) B)) (Classical.propDecidable _) 1 0:=by
 have ho:=less_ok h x.id
 have g1:=h.gn
 have g2:=ho.gn
 have hl:=h.len_less hx
 have hal:=h.alone_less hx hA
 obtain ⟨f1,f2,f3,f4,f5⟩:=h.less_faces hx hA
 obtain ⟨va,vb,vab⟩:=h.edge_vs hx
 have hvs:(lessM n x.id).g.vs=n.g.vs:=rfl
 rw [hvs] at g2
 have hc:=ncl_congr (R:=Reach n.g.es) (S:=Mg (Reach (lessM n x.id).g.es) x.a x.b) (l:=n.g.vs) fun v _ w _=>h.less_reach hx v w
 by_cases hr:Reach (lessM n x.id).g.es x.a x.b
 ·obtain ⟨na,nb⟩:=h.less_part hx hA hr
  have hc2:=ncl_congr (R:=Mg (Reach (lessM n x.id).g.es) x.a x.b) (S:=Reach (lessM n x.id).g.es) (l:=n.g.vs) fun v _ w _=>Mg.same (reach_eqv _) hr v w
  rw [if_neg na,if_neg nb] at hal
  by_cases hS:Orb (fc (lessM n x.id) (lessM n x.id).g.es) (sg (lessM n x.id) A) (sg (lessM n x.id) B)
  ·rw [if_neg (fun k=>k.2 hS)]
   have:=f4 na nb hS
   omega
  ·rw [if_pos ⟨hr,hS⟩]
   have:=f5 na nb hS
   omega
 ·rw [if_neg (fun k=>hr k.1)]
  have hc2:=ncl_mg (reach_eqv _) hr va vb
  by_cases na:A=2 * x.id<;>by_cases nb:B=2 * x.id+1
  ·have:=f1 na nb
   rw [if_pos na,if_pos nb] at hal
   omega
  ·have:=f2 na nb
   rw [if_pos na,if_neg nb] at hal
   omega
  ·have:=f3 na nb
   rw [if_neg na,if_pos nb] at hal
   omega
  ·have:=f5 na nb fun hS=>hr (h.face_part hx hA na nb hS)
   rw [if_neg na,if_neg nb] at hal
   omega
end
theorem es_ext:∀ {l l':List Ed},l.Pairwise (fun x y=>x.id < y.id)→l'.Pairwise (fun x y=>x.id < y.id)→(∀ y,y∈l↔y∈l')→l=l'
 | [],[],_,_,_=>rfl
 | [],y::l',_,_,h=>absurd ((h y).2 (by simp)) (by simp)
 | x::l,[],_,_,h=>absurd ((h x).1 (by simp)) (by simp)
 | x::l,y::l',h1,h2,h=>by
   rw [List.pairwise_cons] at h1 h2
   have hxy:x=y:=by
    have hx:=(h x).1 (by simp)
    have hy:=(h y).2 (by simp)
    rw [List.mem_cons] at hx hy
    rcases hx with hx | hx
    ·exact hx
    rcases hy with hy | hy
    ·exact hy.symm
    have k1:=h1.1 _ hy
    have k2:=h2.1 _ hx
    omega
   subst hxy
   rw [es_ext h1.2 h2.2 fun z=>?_]
   have:=h z
   rw [List.mem_cons,List.mem_cons] at this
   constructor
   ·intro hz
    rcases this.1 (.inr hz) with rfl | k
    ·exact absurd (h1.1 _ hz) (by omega)
    ·exact k
   ·intro hz
    rcases this.2 (.inr hz) with rfl | k
    ·exact absurd (h2.1 _ hz) (by omega)
    ·exact k
theorem mn_same {a b:List Int} (h:∀ x,x∈a↔x∈b) (h0:a≠[]):mn a=mn b:=by
 have hb:b≠[]:=by
  rintro rfl
  have:=(h _).1 (mn_mem h0)
  simp at this
 have k1:=mn_le ((h _).1 (mn_mem h0))
 have k2:=mn_le ((h _).2 (mn_mem hb))
 omega
theorem head_mn {t:List Int} (hn:nrm t=t) (h0:t≠[]):∃ r,t=mn t::r:=by
 obtain ⟨r,hr⟩:=nrm_head t h0
 rw [hn] at hr
 exact ⟨r,hr⟩
theorem map_ext {m m':Mp} (h:MapOk m) (h':MapOk m') (hv:m.g.vs=m'.g.vs) (he:m.g.es=m'.g.es) (hs:∀ d,sg m d=sg m' d):m=m':=by
 obtain ⟨⟨vs,es⟩,rs⟩:=m
 obtain ⟨⟨vs',es'⟩,rs'⟩:=m'
 simp only at hv he
 subst hv he
 have hsf:sg ⟨⟨vs,es⟩,rs⟩=sg ⟨⟨vs,es⟩,rs'⟩:=funext hs
 congr 1
 have l1:=h.len
 have l2:=h'.len
 simp only at l1 l2
 refine List.ext_getElem (by omega) fun k h1 h2=>?_
 have o1:=h.ok k (by simp only;omega)
 have o2:=h'.ok k (by simp only;omega)
 simp only at o1 o2
 rw [getR_lt _ _ h1] at o1
 rw [getR_lt _ _ h2] at o2
 have t1:rs[k]∈(⟨⟨vs,es⟩,rs⟩:Mp).rots:=List.getElem_mem _
 have t2:rs'[k]∈(⟨⟨vs,es⟩,rs'⟩:Mp).rots:=List.getElem_mem _
 generalize rs[k]=t at *
 generalize rs'[k]=t' at *
 have hm:∀ x,x∈t↔x∈t':=fun x=>by rw [o1.1.mem_iff,o2.1.mem_iff]
 by_cases h0:t=[]
 ·subst h0
  symm
  rw [List.eq_nil_iff_forall_not_mem]
  intro x hx
  have:=(hm x).2 hx
  simp at this
 have h0':t'≠[]:=by
  rintro rfl
  have:=(hm _).1 (mn_mem h0)
  simp at this
 obtain ⟨r,hr⟩:=head_mn o1.2 h0
 obtain ⟨r',hr'⟩:=head_mn o2.2 h0'
 have c1:=h.turn_cyc t1 hr
 have c2:=h'.turn_cyc t2 hr'
 rw [← mn_same hm h0,← hsf] at c2
 exact c1.unique c2
theorem ins_perm (l m:List Int) (b:Int):(ins l b m).Perm (l++m):=by
 unfold ins
 split
 ·have h:=List.take_append_drop (l.idxOf b+1) l
  generalize l.take (l.idxOf b+1)=p at *
  generalize l.drop (l.idxOf b+1)=q at *
  rw [← h,List.append_assoc,List.append_assoc]
  exact List.Perm.append_left _ List.perm_append_comm
 ·exact List.Perm.refl _
theorem wo_ins2 {a:List Int} {d e:Int} {m:List Int} (he:e∈m) (ha:∀ y∈a,y∉m):wo (ins a d [e]) m=a:=by
 have hw:∀ l:List Int,(∀ y∈l,y∉m)→wo l m=l:=fun l hl=>by
  unfold wo
  rw [List.filter_eq_self]
  intro y hy
  simp [hl y hy]
 have h1:wo [e] m=[]:=by simp [wo,he]
 unfold ins
 split
 ·rw [wo_append,wo_append,h1,hw _ (fun y h=>ha y (List.mem_of_mem_take h)),hw _ (fun y h=>ha y (List.mem_of_mem_drop h)),List.append_nil,List.take_append_drop]
 ·rw [wo_append,h1,hw _ ha,List.append_nil]
def plE (l:List Ed) (id:Int):Nat:=l.findIdx fun y=>decide (id < y.id)
def insE (l:List Ed) (x:Ed):List Ed:=l.take (plE l x.id)++x::l.drop (plE l x.id)
theorem plE_le (l:List Ed) (id:Int):plE l id≤l.length:=List.findIdx_le_length
theorem insE_perm (l:List Ed) (x:Ed):(insE l x).Perm (l++[x]):=by
 unfold insE
 have h:=List.take_append_drop (plE l x.id) l
 generalize l.take (plE l x.id)=p at *
 generalize l.drop (plE l x.id)=q at *
 rw [← h,List.append_assoc]
 exact List.Perm.append_left _ (List.perm_append_singleton _ _).symm
theorem insE_rise {l:List Ed} (h:l.Pairwise (fun x y=>x.id < y.id)) {x:Ed} (hx:∀ y∈l,y.id≠x.id):(insE l x).Pairwise (fun x y=>x.id < y.id):=by
 unfold insE
 have h2:=h
 have hd:=List.take_append_drop (plE l x.id) l
 have hlo:∀ y∈l.take (plE l x.id),y.id < x.id:=fun y hy=>by
  obtain ⟨j,hj,rfl⟩:=List.getElem_of_mem hy
  rw [List.length_take] at hj
  rw [List.getElem_take]
  have hjl:j < plE l x.id:=by omega
  have:=List.not_of_lt_findIdx (p:=fun y:Ed=>decide (x.id < y.id)) (xs:=l) hjl
  have hne:=hx _ (List.getElem_mem (show j < l.length by omega))
  have h3:¬ x.id < (l[j]'(by omega)).id:=by simpa using this
  omega
 have hhi:∀ y∈l.drop (plE l x.id),x.id < y.id:=fun y hy=>by
  obtain ⟨j,hj,rfl⟩:=List.getElem_of_mem hy
  rw [List.length_drop] at hj
  have hlt:plE l x.id < l.length:=by omega
  rw [List.getElem_drop]
  have h0:=List.findIdx_getElem (p:=fun y:Ed=>decide (x.id < y.id)) (xs:=l) (w:=hlt)
  simp only [decide_eq_true_eq] at h0
  rcases Nat.eq_zero_or_pos j with rfl | hj0
  ·exact h0
  ·have:=List.pairwise_iff_getElem.1 h (plE l x.id) (plE l x.id+j) hlt (by omega) (by omega)
   have h1:x.id < l[plE l x.id].id:=h0
   omega
 rw [← hd,List.pairwise_append] at h2
 rw [List.pairwise_append]
 refine ⟨h2.1,List.pairwise_cons.2 ⟨hhi,h2.2.1⟩,fun a ha b hb=>?_⟩
 rw [List.mem_cons] at hb
 rcases hb with rfl | hb
 ·exact hlo a ha
 ·exact h2.2.2 a ha b hb
def linkM (m:Mp) (x:Ed) (pa pb:Int):Mp:=
 ⟨⟨m.g.vs,insE m.g.es x⟩,(m.rots.set (m.g.vs.idxOf x.a) (nrm (ins (m.rots.getD (m.g.vs.idxOf x.a) []) pa [2 * x.id]))).set (m.g.vs.idxOf x.b) (nrm (ins (m.rots.getD (m.g.vs.idxOf x.b) []) pb [2 * x.id+1]))⟩
structure LinkOk (m:Mp) (x:Ed) (pa pb:Int):Prop where
 a:x.a∈m.g.vs
 b:x.b∈m.g.vs
 ne:x.a≠x.b
 new:∀ y∈m.g.es,y.id≠x.id
 pos:1≤x.id∧x.id≤1048576
 sa:(m.rots.getD (m.g.vs.idxOf x.a) []=[]∧pa=0)∨pa∈m.rots.getD (m.g.vs.idxOf x.a) []
 sb:(m.rots.getD (m.g.vs.idxOf x.b) []=[]∧pb=0)∨pb∈m.rots.getD (m.g.vs.idxOf x.b) []
theorem end1_perm (es:List Ed) (x:Ed) (v:Int):(ends (insE es x) v).Perm (ends es v++end1 v x):=by
 have:=(insE_perm es x).flatMap_right (end1 v)
 rw [List.flatMap_append,List.flatMap_singleton] at this
 exact this
section
variable {m:Mp} (h:MapOk m) {x:Ed} {pa pb:Int} (hl:LinkOk m x pa pb)
include h hl
theorem link_idx:m.g.vs.idxOf x.a < m.rots.length∧m.g.vs.idxOf x.b < m.rots.length∧m.g.vs.idxOf x.a≠m.g.vs.idxOf x.b:=by
 have ia:=List.idxOf_lt_length_of_mem hl.a
 have ib:=List.idxOf_lt_length_of_mem hl.b
 have hlen:=h.len
 refine ⟨by omega,by omega,fun e=>hl.ne ?_⟩
 have h1:=List.getElem_idxOf ia
 have h2:=List.getElem_idxOf ib
 rw [← h1,← h2]
 congr 1
theorem link_row (k:Nat) (hk:k < m.rots.length):(linkM m x pa pb).rots.getD k []=if k=m.g.vs.idxOf x.b then nrm (ins (m.rots.getD k []) pb [2 * x.id+1]) else if k=m.g.vs.idxOf x.a then nrm (ins (m.rots.getD k []) pa [2 * x.id]) else m.rots.getD k []:=by
 have _:=h
 have _:=hl
 unfold linkM
 simp only [List.getD_eq_getElem?_getD,List.getElem?_set]
 by_cases h1:k=m.g.vs.idxOf x.b
 ·subst h1;simp [hk]
 ·rw [if_neg (Ne.symm h1),if_neg h1]
  by_cases h2:k=m.g.vs.idxOf x.a
  ·subst h2;simp [hk]
  ·rw [if_neg (Ne.symm h2),if_neg h2]
theorem link_vs (k:Nat) (hk:k < m.g.vs.length):(k=m.g.vs.idxOf x.a↔m.g.vs.getD k 0=x.a)∧(k=m.g.vs.idxOf x.b↔m.g.vs.getD k 0=x.b):=by
 have hn:=rise_nodup h.g.rise
 have key:∀ v,v∈m.g.vs→(k=m.g.vs.idxOf v↔m.g.vs.getD k 0=v):=fun v hv=>by
  rw [getD_lt _ _ hk]
  constructor
  ·rintro rfl;exact List.getElem_idxOf hk
  ·intro e;rw [← e,hn.idxOf_getElem]
 exact ⟨key _ hl.a,key _ hl.b⟩
theorem link_ok:MapOk (linkM m x pa pb):=by
 obtain ⟨ia,ib,iab⟩:=link_idx h hl
 have hp:=insE_perm m.g.es x
 refine ⟨⟨⟨h.g.rise,fun y hy=>?_⟩,insE_rise h.g.ids hl.new,fun y hy=>?_,fun y hy=>?_⟩,?_,fun k hk=>?_⟩
 ·have:=hp.mem_iff.1 hy
  rw [List.mem_append,List.mem_singleton] at this
  rcases this with k | rfl
  ·exact h.g.ends y k
  ·exact ⟨hl.a,hl.b⟩
 ·have:=hp.mem_iff.1 hy
  rw [List.mem_append,List.mem_singleton] at this
  rcases this with k | rfl
  ·exact h.g.pos y k
  ·exact hl.pos
 ·have:=hp.mem_iff.1 hy
  rw [List.mem_append,List.mem_singleton] at this
  rcases this with k | rfl
  ·exact h.g.ne y k
  ·exact hl.ne
 ·unfold linkM;simp [h.len]
 ·have hk':k < m.g.vs.length:=hk
  obtain ⟨o1,o2⟩:=h.ok k hk'
  obtain ⟨va,vb⟩:=link_vs h hl k hk'
  rw [link_row h hl k (by rw [h.len];exact hk')]
  show okTurn (insE m.g.es x) (m.g.vs.getD k 0) _
  have he:=end1_perm m.g.es x (m.g.vs.getD k 0)
  have hab:=hl.ne
  by_cases h1:k=m.g.vs.idxOf x.b
  ·rw [if_pos h1]
   have e1:=vb.1 h1
   refine ⟨((nrm_perm _).trans (ins_perm _ _ _)).trans ((List.Perm.append_right _ o1).trans (List.Perm.trans ?_ he.symm)),nrm_nrm _⟩
   rw [e1];unfold end1
   rw [if_neg hab,if_pos rfl]
   exact List.Perm.refl _
  rw [if_neg h1]
  have e1:¬ x.b=m.g.vs.getD k 0:=fun e=>h1 (vb.2 e.symm)
  by_cases h2:k=m.g.vs.idxOf x.a
  ·rw [if_pos h2]
   have e2:=va.1 h2
   refine ⟨((nrm_perm _).trans (ins_perm _ _ _)).trans ((List.Perm.append_right _ o1).trans (List.Perm.trans ?_ he.symm)),nrm_nrm _⟩
   unfold end1
   rw [if_pos e2.symm,if_neg e1]
   simp
  rw [if_neg h2]
  have e2:¬ x.a=m.g.vs.getD k 0:=fun e=>h2 (va.2 e.symm)
  refine ⟨o1.trans (List.Perm.trans ?_ he.symm),o2⟩
  unfold end1
  rw [if_neg e2,if_neg e1]
  simp
theorem link_in:x∈(linkM m x pa pb).g.es:=have _:=h;have _:=hl;(insE_perm m.g.es x).mem_iff.2 (by simp)
theorem link_half {t:List Int} (ht:t∈m.rots):∀ y∈t,y∉[2 * x.id,2 * x.id+1]:=fun y hy k=>by
 obtain ⟨z,hz,e⟩:=darts_half.1 (h.turn_dart ht hy)
 have:=hl.new z hz
 simp only [List.mem_cons,List.not_mem_nil,or_false] at k
 omega
theorem link_less:lessM (linkM m x pa pb) x.id=m:=by
 have ho:=link_ok h hl
 have hp:=insE_perm m.g.es x
 have he:(lessM (linkM m x pa pb) x.id).g.es=m.g.es:=es_ext (less_ok ho x.id).g.ids h.g.ids fun y=>by
  show y∈(insE m.g.es x).filter _↔_
  rw [List.mem_filter,hp.mem_iff,List.mem_append,List.mem_singleton]
  constructor
  ·rintro ⟨k | rfl,hne⟩
   ·exact k
   ·simp at hne
  ·intro hy
   exact ⟨.inl hy,by simpa using hl.new y hy⟩
 have hr:(lessM (linkM m x pa pb) x.id).rots=m.rots:=by
  have hlen:(linkM m x pa pb).rots.length=m.rots.length:=by unfold linkM;simp
  refine List.ext_getElem (by unfold lessM;simp [hlen]) fun k h1 h2=>?_
  have hk:k < m.g.vs.length:=by have:=h.len;omega
  have e0:(lessM (linkM m x pa pb) x.id).rots[k]=nrm (wo ((linkM m x pa pb).rots[k]'(by omega)) [2 * x.id,2 * x.id+1]):=by simp only [lessM,List.getElem_map]
  rw [e0]
  have hrow:=link_row h hl k h2
  rw [getR_lt _ _ (by omega)] at hrow
  rw [hrow]
  obtain ⟨o1,o2⟩:=h.ok k hk
  have htin:m.rots[k]∈m.rots:=List.getElem_mem _
  rw [getR_lt _ _ h2] at o1 o2 ⊢
  have hh:=link_half h hl htin
  have hn:=h.nodup htin
  generalize m.rots[k]=t at *
  have hnew:2 * x.id∉t∧2 * x.id+1∉t:=⟨fun k=>hh _ k (by simp),fun k=>hh _ k (by simp)⟩
  split
  ·have hc:=wo_cyc (cyc_nrm (ins t pb [2 * x.id+1])) [2 * x.id,2 * x.id+1]
   rw [wo_ins2 (by simp) hh] at hc
   rw [nrm_cyc hc hn,o2]
  ·split
   ·have hc:=wo_cyc (cyc_nrm (ins t pa [2 * x.id])) [2 * x.id,2 * x.id+1]
    rw [wo_ins2 (by simp) hh] at hc
    rw [nrm_cyc hc hn,o2]
   ·have hw:wo t [2 * x.id,2 * x.id+1]=t:=by
     unfold wo
     rw [List.filter_eq_self]
     intro y hy
     simp [hh y hy]
    rw [hw,o2]
 have hv:(lessM (linkM m x pa pb) x.id).g.vs=m.g.vs:=rfl
 generalize lessM (linkM m x pa pb) x.id=mm at *
 obtain ⟨⟨vs,es⟩,rs⟩:=mm
 obtain ⟨⟨vs',es'⟩,rs'⟩:=m
 simp only at he hr hv
 subst he hr hv
 rfl
theorem link_turn {e p:Int} {k:Nat} (hk:k < m.rots.length) (hrow:(linkM m x pa pb).rots.getD k []=nrm (ins (m.rots.getD k []) p [e])) (he:e=2 * x.id∨e=2 * x.id+1) (hs:(m.rots.getD k []=[]∧p=0)∨p∈m.rots.getD k []):sg (linkM m x pa pb) (if m.rots.getD k []=[] then e else p)=e:=by
 have ho:=link_ok h hl
 have hlen:(linkM m x pa pb).rots.length=m.rots.length:=by unfold linkM;simp
 have htin:m.rots.getD k []∈m.rots:=by rw [getR_lt _ _ hk];exact List.getElem_mem _
 have hnin:(linkM m x pa pb).rots.getD k []∈(linkM m x pa pb).rots:=by rw [getR_lt _ _ (by omega)];exact List.getElem_mem _
 rw [hrow] at hnin
 have hn:=h.nodup htin
 have hh:=link_half h hl htin
 generalize m.rots.getD k []=t at *
 have hne:e∉t:=fun q=>hh _ q (by rcases he with rfl | rfl<;>simp)
 rcases hs with ⟨rfl,rfl⟩ | hs
 ·rw [if_pos rfl]
  have e1:nrm (ins [] 0 [e])=[e]:=by simp [ins,nrm,rt,mn]
  rw [e1] at hnin
  rw [sg_at ho hnin (by simp)]
  simp [nx]
 ·have h0:t≠[]:=fun q=>by rw [q] at hs;simp at hs
  rw [if_neg h0]
  have hp:p∈nrm (ins t p [e]):=(nrm_mem _ _).2 ((ins_perm _ _ _).mem_iff.2 (by simp [hs]))
  rw [sg_at ho hnin hp,cyc_nx (cyc_nrm _) (ins_nodup hn hne),nx_ins hn hs hne]
theorem link_ahd:Ahd (linkM m x pa pb) x (if m.rots.getD (m.g.vs.idxOf x.a) []=[] then 2 * x.id else pa) (if m.rots.getD (m.g.vs.idxOf x.b) []=[] then 2 * x.id+1 else pb):=by
 have ho:=link_ok h hl
 obtain ⟨ia,ib,iab⟩:=link_idx h hl
 obtain ⟨A,B,hA⟩:=ho.ahd (link_in h hl)
 have e1:=link_turn h hl ia (by rw [link_row h hl _ ia,if_neg iab,if_pos rfl]) (.inl rfl) hl.sa
 have e2:=link_turn h hl ib (by rw [link_row h hl _ ib,if_pos rfl]) (.inr rfl) hl.sb
 rw [ho.sg_inj (e1.trans hA.a.symm),ho.sg_inj (e2.trans hA.b.symm)]
 exact hA
end
theorem less_linkOk {n:Mp} (h:MapOk n) {x:Ed} (hx:x∈n.g.es) {A B:Int} (hA:Ahd n x A B):LinkOk (lessM n x.id) x (if A=2 * x.id then 0 else A) (if B=2 * x.id+1 then 0 else B):=by
 have ho:=less_ok h x.id
 obtain ⟨va,vb,vab⟩:=h.edge_vs hx
 obtain ⟨k0,k1⟩:=h.ahd_ends hx hA
 obtain ⟨l0,l1⟩:=h.less_alone hx hA
 have hrow:∀ v∈n.g.vs,((lessM n x.id).rots.getD (n.g.vs.idxOf v) []).Perm (ends (lessM n x.id).g.es v):=fun v hv=>by
  have hi:=List.idxOf_lt_length_of_mem hv
  have:=(ho.ok (n.g.vs.idxOf v) hi).1
  rwa [show (lessM n x.id).g.vs=n.g.vs from rfl,getD_lt _ _ hi,List.getElem_idxOf hi] at this
 refine ⟨va,vb,vab,fun y hy=>?_,h.g.pos x hx,?_,?_⟩
 ·have:=(List.mem_filter.1 hy).2
  simpa using this
 ·show ((lessM n x.id).rots.getD (n.g.vs.idxOf x.a) []=[]∧_)∨_∈(lessM n x.id).rots.getD (n.g.vs.idxOf x.a) []
  have hr:=hrow _ va
  by_cases e:A=2 * x.id
  ·rw [if_pos e]
   have:=l0.2 e
   rw [← ends_nil] at this
   rw [this] at hr
   exact .inl ⟨hr.eq_nil,rfl⟩
  ·rw [if_neg e]
   exact .inr (hr.mem_iff.2 ((h.ends_less hx).2 ⟨k0,fun k=>by have:=hA.a1;omega⟩))
 ·show ((lessM n x.id).rots.getD (n.g.vs.idxOf x.b) []=[]∧_)∨_∈(lessM n x.id).rots.getD (n.g.vs.idxOf x.b) []
  have hr:=hrow _ vb
  by_cases e:B=2 * x.id+1
  ·rw [if_pos e]
   have:=l1.2 e
   rw [← ends_nil] at this
   rw [this] at hr
   exact .inl ⟨hr.eq_nil,rfl⟩
  ·rw [if_neg e]
   exact .inr (hr.mem_iff.2 ((h.ends_less hx).2 ⟨k1,fun k=>by have:=hA.b0;omega⟩))
theorem less_nil {n:Mp} (h:MapOk n) {x:Ed} (hx:x∈n.g.es) {A B:Int} (hA:Ahd n x A B):((lessM n x.id).rots.getD (n.g.vs.idxOf x.a) []=[]↔A=2 * x.id)∧((lessM n x.id).rots.getD (n.g.vs.idxOf x.b) []=[]↔B=2 * x.id+1):=by
 have ho:=less_ok h x.id
 obtain ⟨va,vb,vab⟩:=h.edge_vs hx
 obtain ⟨l0,l1⟩:=h.less_alone hx hA
 have hrow:∀ v∈n.g.vs,((lessM n x.id).rots.getD (n.g.vs.idxOf v) []=[]↔nbr (lessM n x.id).g.es v=[]):=fun v hv=>by
  have hi:=List.idxOf_lt_length_of_mem hv
  have:=(ho.ok (n.g.vs.idxOf v) hi).1
  rw [show (lessM n x.id).g.vs=n.g.vs from rfl,getD_lt _ _ hi,List.getElem_idxOf hi] at this
  rw [← ends_nil]
  constructor
  ·intro e;rw [e] at this;exact this.symm.eq_nil
  ·intro e;rw [e] at this;exact this.eq_nil
 rw [hrow _ va,hrow _ vb]
 exact ⟨l0,l1⟩
theorem less_back {n:Mp} (h:MapOk n) {x:Ed} (hx:x∈n.g.es) {A B:Int} (hA:Ahd n x A B):linkM (lessM n x.id) x (if A=2 * x.id then 0 else A) (if B=2 * x.id+1 then 0 else B)=n:=by
 have ho:=less_ok h x.id
 have hl:=less_linkOk h hx hA
 have hk:=link_ok ho hl
 have hk2:=link_ahd ho hl
 have hk3:=link_less ho hl
 obtain ⟨l0',l1'⟩:=less_nil h hx hA
 have l0:(lessM n x.id).rots.getD ((lessM n x.id).g.vs.idxOf x.a) []=[]↔A=2 * x.id:=l0'
 have l1:(lessM n x.id).rots.getD ((lessM n x.id).g.vs.idxOf x.b) []=[]↔B=2 * x.id+1:=l1'
 have hA':(if (lessM n x.id).rots.getD ((lessM n x.id).g.vs.idxOf x.a) []=[] then 2 * x.id else if A=2 * x.id then 0 else A)=A:=by
  by_cases e:A=2 * x.id
  ·rw [if_pos (l0.2 e),e]
  ·rw [if_neg (fun k=>e (l0.1 k)),if_neg e]
 have hB':(if (lessM n x.id).rots.getD ((lessM n x.id).g.vs.idxOf x.b) []=[] then 2 * x.id+1 else if B=2 * x.id+1 then 0 else B)=B:=by
  by_cases e:B=2 * x.id+1
  ·rw [if_pos (l1.2 e),e]
  ·rw [if_neg (fun k=>e (l1.1 k)),if_neg e]
 rw [hA',hB'] at hk2
 refine map_ext hk h rfl (es_ext hk.g.ids h.g.ids fun y=>?_) fun d=>?_
 ·show y∈insE _ _↔_
  rw [(insE_perm _ _).mem_iff,List.mem_append,List.mem_singleton]
  show y∈n.g.es.filter _∨_↔_
  rw [List.mem_filter]
  constructor
  ·rintro (⟨k,_⟩ | rfl)
   ·exact k
   ·exact hx
  ·intro hy
   by_cases e:y.id=x.id
   ·exact .inr (id_eq h.g.ids hy hx e)
   ·exact .inl ⟨hy,by simpa using e⟩
 ·rw [hk2.s,hA.s,hk3]
noncomputable def cdec (p:Prop):Bool:=@decide p (Classical.propDecidable p)
theorem cdec_t {p:Prop} (h:p):cdec p=true:=by unfold cdec;exact @decide_eq_true p (Classical.propDecidable p) h
theorem cdec_f {p:Prop} (h:¬ p):cdec p=false:=by unfold cdec;exact @decide_eq_false p (Classical.propDecidable p) h
theorem parts_any {g:Gr} (hg:Good g) {R:List (List Int)} (hR:PartsTo g g.vs.length R) {a b:Int} (ha:a∈g.vs) (hb:b∈g.vs):(R.any fun l=>decide (a∈l)&&decide (b∈l))=cdec (Reach g.es a b):=by
 by_cases h:Reach g.es a b
 ·rw [cdec_t h,List.any_eq_true]
  have hf:=((PartsTo.flat hg hR).2 a).2 ⟨ha,a,by rw [List.take_length];exact ha,.refl⟩
  obtain ⟨c,hc,hac⟩:=List.mem_flatten.1 hf
  obtain ⟨v,hv,hp⟩:=parts_mem hR c hc
  have h1:=(hp.2 a).1 hac
  have h2:=(hp.2 b).2 ⟨hb,h1.2.trans h⟩
  exact ⟨c,hc,by simp [hac,h2]⟩
 ·rw [cdec_f h,List.any_eq_false]
  intro c hc k
  simp only [Bool.and_eq_true,decide_eq_true_eq] at k
  obtain ⟨v,hv,hp⟩:=parts_mem hR c hc
  exact h ((((hp.2 a).1 k.1).2.symm).trans ((hp.2 b).1 k.2).2)
theorem togetherE (m:Mp) (D:Nat) (a b:Int) (st:St) (hg:Good m.g) (hv:m.g.vs.length≤1000) (he:m.g.es.length≤1000) (ha:a∈m.g.vs) (hb:b∈m.g.vs):
 ACalls Tryz.prog 101 [.pe D (mpL m),u a,u b] st fun r st'=>r=bb (cdec (Reach m.g.es a b))∧Keeps st st':=by
 obtain ⟨y,hy⟩:∃ y,y=cdec (Reach m.g.es a b):=⟨_,rfl⟩
 rw [← hy]
 refine qO tabOk Tryz.func101 rfl rfl Tryz.ntmps101 (rs:=[.tmp 6]) rfl (by simp) ?_
 (repeat' (first | refine qS ?_ | (refine w_e [] ?_;intro J hJ;simp only [];simp [];(try (refine hJ _ _ ?_;clear hJ J;simp only [ak,reduceIte])))))
 refine qE (Parts m.g _ hg hv he) (by simp) ?_;rintro r s1 ⟨⟨t,R,rfl,hR⟩,hk1⟩
 have hn1:=hk1.next
 simp only [new_next] at hn1
 have q1:s1.H st.next=.box 29 1 [u a]:=by rw [hk1.H _ (by simp;omega)];simp
 have q2:s1.H (st.next+1)=.box 29 1 [u b]:=by rw [hk1.H _ (by simp)];simp
 (repeat' (refine e_go ?_;simp []))
 have hRl:=hR.len
 refine qE (ContainsFuncR R t 128 [.pt st.next 0,.pt (st.next+1) 0] (fun l=>decide (a∈l)&&decide (b∈l)) _ (by omega) fun x hx=>together_1 x 0 _ _ a b _ (by have:=PartsTo.row_le hg hR x hx;unfold small;omega) q1 q2) (by simp) ?_;rintro r s2 ⟨rfl,rfl⟩
 rw [parts_any hg hR ha hb,← hy]
 (repeat' (first | (refine qR ?_;simp only [ak,reduceIte];simp []) | (refine e_go ?_;simp [];(refine hJ _ _ ?_;clear hJ J;simp only [ak,reduceIte]))))
 exact ((Keeps.new _ _).trans (Keeps.new _ _)).trans hk1
theorem mp_lendL {m:Mp} {lv le lr:Nat} {st:St} (h:MpAt m lv le lr st):LendL st (mpM lv le lr m) (mpL m):=
 lendL_cons (lend_row h.v (by simp)) (lendL_cons (lend_row h.e (eds_length _)) (lendL_cons (lend_row h.r (by simp [rowsL])) (lendL_nil st)))
theorem dr_lend {D lv le lr:Nat} {m:Mp} {st:St} (h:DrI D lv le lr m st):Lend st (.pt D 0) (.pe D (mpL m)):=lend_pt h.d (mp_lendL h.at')
theorem together {D lv le lr:Nat} {m:Mp} {st:St} (h:DrI D lv le lr m st) (a b:Int) (hg:Good m.g) (hv:m.g.vs.length≤1000) (he:m.g.es.length≤1000) (ha:a∈m.g.vs) (hb:b∈m.g.vs):
 ACalls Tryz.prog 101 [.pt D 0,u a,u b] st fun r st'=>r=bb (cdec (Reach m.g.es a b))∧st'=st:=
 acalls_lend (Q:=fun r=>r=bb (cdec (Reach m.g.es a b))) (lendL_cons (dr_lend h) (lendL_same st _)) ((togetherE m D a b st.bare hg hv he ha hb).mono fun r s h=>h.1) fun r h=>by subst h;rfl
theorem link_1 (x:Ed) (q:Nat) (s:Sp) (st:St):
 ACalls Tryz.prog 103 [.ag (edL x),.pe q (spL s)] st fun r st'=>r=bb (decide (s.id < x.id))∧st'=st:=by
 refine qT (Q:=fun r=>r=bb (decide (s.id < x.id))) ?_ fun r h=>by subst h;trivial
 obtain ⟨d,a,b⟩:=x
 obtain ⟨k,id,sa,sb,pa,pb⟩:=s
 simp only [spL]
 refine qO tabOk Tryz.func103 rfl rfl Tryz.ntmps103 (rs:=[.tmp 3]) rfl (by simp) ?_
 by_cases hd:id < d
 ·(repeat' (first | refine qS ?_ | (refine qR ?_;simp only [ak,reduceIte];simp [hd]) | (refine w_e [] ?_;intro J hJ;simp only [];simp [hd];(refine hJ _ _ ?_;clear hJ J;simp only [ak,reduceIte]))))
  exact Keeps.new _ _
 ·(repeat' (first | refine qS ?_ | (refine qR ?_;simp only [ak,reduceIte];simp [hd]) | (refine w_e [] ?_;intro J hJ;simp only [];simp [hd];(refine hJ _ _ ?_;clear hJ J;simp only [ak,reduceIte]))))
  exact Keeps.new _ _
theorem link_at (m:Mp) (lv le lr q:Nat) (s:Sp) (st:St) (he:m.g.es.length≤1000) (hat:MpAt m lv le lr st) (hq:st.H q=.box 38 6 (spL s)):
 ACalls Tryz.prog 102 [.ms le 0 m.g.es.length,.fn (.func 103) [.pt q 0]] st fun r st'=>r=i (fx m.g.es fun y=>decide (s.id < y.id))∧st'=st:=
 acalls_lend (Q:=fun r=>r=i (fx m.g.es fun y=>decide (s.id < y.id))) (lendL_cons (lend_row hat.e (eds_length _)) (lendL_cons (lend_fn (lendL_cons (lend_pt hq (lendL_same st _)) (lendL_nil st))) (lendL_nil st)))
  ((IndexFuncX m.g.es 0 103 [.pe q (spL s)] (fun y=>decide (s.id < y.id)) st.bare he fun x _=>link_1 x q s st.bare).mono fun r s h=>h.1) fun r h=>by subst h;rfl
theorem fx_pl (l:List Ed) (id:Int):fx l (fun y=>decide (id < y.id))=if plE l id < l.length then (plE l id:Int) else -1:=by
 unfold fx plE
 by_cases h:l.findIdx (fun y=>decide (id < y.id)) < l.length
 ·rw [if_pos h,if_pos]
  rw [List.findIdx_lt_length] at h
  exact List.any_eq_true.2 h
 ·rw [if_neg h,if_neg]
  rw [List.findIdx_lt_length] at h
  exact fun k=>h (List.any_eq_true.1 k)
theorem face_orb {m:Mp} (h:MapOk m) {R:List (List Int)} (hR:FacesOf m R) {d d':Int} (hd:d∈darts m.g.es):d'∈turnOf R d↔Orb (fc m m.g.es) d d':=by
 obtain ⟨k,hk,h1,h2⟩:=faces_in h hR hd
 rw [turnOf_some h1]
 obtain ⟨e,_,h3,h4⟩:=faces_cyc h hR (c:=R.getD k []) (by rw [getR_lt _ _ hk];exact List.getElem_mem _)
 have hp:=h.fc_per m.g.es fun x hx=>hx
 have h5:=h3.mem.1 h2
 rw [h3.mem]
 exact ⟨fun k=>(Orb.symm hp h5).trans k,fun k=>h5.trans k⟩
theorem face_len {m:Mp} (h:MapOk m) {R:List (List Int)} (hR:FacesOf m R) (he:m.g.es.length≤1000) (d:Int):small (turnOf R d):=by
 unfold turnOf
 split
 ·by_cases hk:(tix R d).toNat < R.length
  ·rw [getR_lt _ _ hk]
   obtain ⟨e,he',h1,_⟩:=faces_cyc h hR (List.getElem_mem hk)
   have:=(h.cyc_le he' h1).2
   have hdl:=darts_length m.g.es
   unfold small;omega
  ·rw [List.getD_eq_getElem?_getD,List.getElem?_eq_none (by omega)];simp [small]
 ·simp [small]
noncomputable def linkW (m:Mp) (s:Sp):Int:=
 if ¬ fe m.g.es s.id < 0 then 17 else if 160≤m.g.es.length then 6 else if s.a=s.b then 20 else if s.a∉m.g.vs∨s.b∉m.g.vs then 21
 else if ¬ standsW (m.rots.getD (m.g.vs.idxOf s.a) []) s.pa∨¬ standsW (m.rots.getD (m.g.vs.idxOf s.b) []) s.pb then 22
 else if cdec (Reach m.g.es s.a s.b)=true∧cdec (Orb (fc m m.g.es) (nx (m.rots.getD (m.g.vs.idxOf s.a) []) s.pa) (nx (m.rots.getD (m.g.vs.idxOf s.b) []) s.pb))=false then 24 else 0
end Go.Proofs.YtglkgindpjdoiaaGreat.Aw
