/- plane: awake. -/
import Derived.Test.YtiiejclelbilkaaGreatDoorJi
import Derived.Test.YtiiejclelbilkaaGreatDoorAwMr6
import Derived.Test.YtiiejclelbilkaaGreatDoorAwShp
namespace Go.Proofs.YtiiejclelbilkaaGreatDoor.Aw
open Go Go.RowKit Go.Proofs.YtiiejclelbilkaaGreatDoor.Pl
set_option linter.unusedSimpArgs false
set_option linter.unusedVariables false
theorem Awake10P (st:St):ACalls Tryz.prog 32 [] st fun r st'=>r=bb true∧st'=st:=by
 refine qO tabOk Tryz.func32 rfl rfl Tryz.ntmps32 (rs:=[.tmp 0]) rfl (by simp) ?_
 (repeat' (first | refine qS ?_ | (refine w_e [] ?_;intro J hJ;simp only [];simp [];(try (refine hJ _ _ ?_;clear hJ J;simp only [ak,reduceIte])))))
 refine qE (awake10 _) (by simp []) ?_;rintro r st' ⟨rfl,rfl⟩
 (repeat' (first | (refine qR ?_;simp only [ak,reduceIte];simp []) | (refine e_go ?_;simp [];(refine hJ _ _ ?_;clear hJ J;simp only [ak,reduceIte]))))
theorem Awake13P (st:St):ACalls Tryz.prog 33 [] st fun r st'=>r=bb true∧st'=st:=by
 refine qO tabOk Tryz.func33 rfl rfl Tryz.ntmps33 (rs:=[.tmp 0]) rfl (by simp) ?_
 (repeat' (first | refine qS ?_ | (refine w_e [] ?_;intro J hJ;simp only [];simp [];(try (refine hJ _ _ ?_;clear hJ J;simp only [ak,reduceIte])))))
 refine qE (awake13 _) (by simp []) ?_;rintro r st' ⟨rfl,rfl⟩
 (repeat' (first | (refine qR ?_;simp only [ak,reduceIte];simp []) | (refine e_go ?_;simp [];(refine hJ _ _ ?_;clear hJ J;simp only [ak,reduceIte]))))
set_option maxHeartbeats 1000000 in
theorem awake14 (st:St):ACalls Tryz.prog 8 [] st fun r st'=>r=bb true∧st'=st:=by
 refine qT (Q:=fun r=>r=bb true) ?_ fun r h=>by subst h;trivial
 have hE1:=sEmbed triP (by decide) (by decide) triP_emb
 have hE2:=sEmbed fiveP (by decide) (by decide) fiveP_emb
 have hR:=fun s=>triM_right s
 refine qO tabOk Tryz.func8 rfl rfl Tryz.ntmps8 (rs:=[.tmp 0]) rfl (by simp) ?_
 (repeat' (first | refine qS ?_ | (refine w_e [] ?_;intro J hJ;simp only [];simp [];(try (refine hJ _ _ ?_;clear hJ J;simp only [ak,reduceIte])))))
 refine callK_of0 (hE1 _) (by simp [z0,z0L,grL,triP,us,eds,edL]) ?_;rintro r s1 ⟨rfl,hk1⟩
 unfold embR
 have hn1:=hk1.next
 simp only [new_next] at hn1
 (repeat' (first | refine qS ?_ | ((first | (refine w_e [] ?_;intro J hJ;simp only []) | (refine e_go ?_));simp [];(try (refine hJ _ _ ?_;clear hJ J;simp only [ak,reduceIte])))))
 refine qE (sFive _) (by simp) ?_;rintro r s2 ⟨rfl,hk2⟩
 have hn2:=hk2.next
 simp only [new_next] at hn2
 have hB2:s2.H s1.next=.box 46 3 (mpL triM):=by rw [hk2.H _ (by simp)];simp [triM]
 have hK2:Keeps st s2:=((((Keeps.new _ _).trans (Keeps.new _ _)).trans hk1).trans (Keeps.new _ _)).trans hk2
 (repeat' (refine e_go ?_;simp []))
 refine qE (hE2 _) (by simp) ?_;rintro r s3 ⟨rfl,hk3⟩
 unfold embR
 have hn3:=hk3.next
 have hB3:=(hk3.H s1.next (by omega)).trans hB2
 have c1:¬ s1.next=s3.next:=by omega
 have h3:triM.g.es.length=3:=rfl
 (repeat' (first | refine qS ?_ | ((first | (refine w_e [] ?_;intro J hJ;simp only []) | (refine e_go ?_));simp [hB3,c1];(try (refine hJ _ _ ?_;clear hJ J;simp only [ak,reduceIte])))))
 refine qE (hR _) (by simp [mpL,grL]) ?_;rintro r s4 ⟨rfl,e4⟩
 rw [e4];clear e4 s4
 (repeat' (refine e_go ?_;simp [hB3,c1,h3]))
 refine qE (Awake10P _) (by simp) ?_;rintro r s4 ⟨rfl,e4⟩
 rw [e4];clear e4 s4
 (repeat' (refine e_go ?_;simp [hB3,c1,h3]))
 refine qE (Awake13P _) (by simp) ?_;rintro r s4 ⟨rfl,e4⟩
 rw [e4];clear e4 s4
 (repeat' (first | (refine qR ?_;simp only [ak,reduceIte];simp [hB3,c1,h3]) | (refine e_go ?_;simp [hB3,c1,h3];(refine hJ _ _ ?_;clear hJ J;simp only [ak,reduceIte]))))
 exact (hK2.trans hk3).trans (Keeps.new _ _)
def putG {κ:Type} [DecidableEq κ] (k:κ) (y:Int):List (κ×Int)→List (κ×Int)
 | []=>[(k,y)]
 | p::W=>if p.1=k then (k,y)::W else p::putG k y W
section
variable {κ:Type} [DecidableEq κ]
theorem putG_perm (k:κ) (y:Int):∀ {W:List (κ×Int)},(W.map (·.1)).Nodup→(putG k y W).Perm ((k,y)::W.filter fun p=>decide (p.1≠k))
 | [],_=>by simp [putG]
 | p::W,h=>by
   obtain ⟨n1,n2⟩:=List.nodup_cons.1 (by simpa using h:(p.1::W.map (·.1)).Nodup)
   unfold putG
   by_cases e:p.1=k
   ·rw [if_pos e,List.filter_cons_of_neg (by simpa using e)]
    have:W.filter (fun p=>decide (p.1≠k))=W:=by
     rw [List.filter_eq_self]
     intro q hq
     have:q.1≠k:=fun h2=>n1 (List.mem_map.2 ⟨q,hq,by rw [h2,e]⟩)
     simpa using this
    rw [this]
   ·rw [if_neg e,List.filter_cons_of_pos (by simpa using e)]
    exact ((putG_perm k y n2).cons p).trans (List.Perm.swap _ _ _)
theorem putG_nodup (k:κ) (y:Int) {W:List (κ×Int)} (h:(W.map (·.1)).Nodup):((putG k y W).map (·.1)).Nodup:=by
 have hp:=(putG_perm k y h).map (·.1)
 rw [hp.nodup_iff,List.map_cons,List.nodup_cons]
 refine ⟨fun hm=>?_,(List.Sublist.map _ List.filter_sublist).nodup h⟩
 obtain ⟨q,hq,e⟩:=List.mem_map.1 hm
 have:=(List.mem_filter.1 hq).2
 simp [e] at this
end
theorem putP_eq (x y:Int):∀ P,putP x y P=putG x y P
 | []=>rfl
 | p::P=>by unfold putP putG;rw [putP_eq x y P]
def flatA (A:Tn):List ((Int×Int)×Int):=A.flatMap fun a=>a.2.map fun p=>((a.1,p.1),p.2)
structure FlOk (A:Tn):Prop where
 out:(A.map (·.1)).Nodup
 inn:∀ a∈A,(a.2.map (·.1)).Nodup
theorem flat_keys {A:Tn} {k:Int×Int} (h:k∈(flatA A).map (·.1)):k.1∈A.map (·.1):=by
 obtain ⟨q,hq,rfl⟩:=List.mem_map.1 h
 obtain ⟨a,ha,hq⟩:=List.mem_flatMap.1 hq
 obtain ⟨p,hp,rfl⟩:=List.mem_map.1 hq
 exact List.mem_map.2 ⟨a,ha,rfl⟩
theorem flat_put (v x y:Int):∀ {A:Tn},FlOk A→(flatA (putA v x y A)).Perm (((v,x),y)::(flatA A).filter fun p=>decide (p.1≠(v,x)))
 | [],_=>by simp [flatA,putA]
 | a::A,h=>by
   obtain ⟨n1,n2⟩:=List.nodup_cons.1 (by simpa using h.out:(a.1::A.map (·.1)).Nodup)
   have hA:FlOk A:=⟨n2,fun b hb=>h.inn b (List.mem_cons_of_mem _ hb)⟩
   have hf:flatA (a::A)=(a.2.map fun p=>((a.1,p.1),p.2))++flatA A:=rfl
   unfold putA
   by_cases e:a.1=v
   ·rw [if_pos e,hf,List.filter_append]
    have h1:(flatA A).filter (fun p=>decide (p.1≠(v,x)))=flatA A:=by
     rw [List.filter_eq_self]
     intro q hq
     have:q.1≠(v,x):=fun h2=>n1 (by rw [e];have:=flat_keys (List.mem_map.2 ⟨q,hq,h2⟩);exact this)
     simpa using this
    have h2:flatA ((v,putP x y a.2)::A)=((putP x y a.2).map fun p=>((v,p.1),p.2))++flatA A:=rfl
    rw [h1,h2,← List.cons_append]
    refine List.Perm.append_right _ ?_
    rw [putP_eq]
    refine ((putG_perm x y (h.inn a (by simp))).map _).trans ?_
    rw [List.map_cons,List.filter_map,e]
    refine List.Perm.cons _ ?_
    have:(a.2.filter fun p=>decide (p.1≠x))=a.2.filter ((fun p:(Int×Int)×Int=>decide (p.1≠(v,x)))∘fun p=>((v,p.1),p.2)):=by
     refine List.filter_congr fun p _=>?_
     simp
    rw [this]
   ·rw [if_neg e,hf,List.filter_append]
    have h2:flatA (a::putA v x y A)=(a.2.map fun p=>((a.1,p.1),p.2))++flatA (putA v x y A):=rfl
    have h1:(a.2.map fun p=>((a.1,p.1),p.2)).filter (fun p=>decide (p.1≠(v,x)))=a.2.map fun p=>((a.1,p.1),p.2):=by
     rw [List.filter_eq_self]
     intro q hq
     obtain ⟨p,_,rfl⟩:=List.mem_map.1 hq
     simp [e]
    rw [h1,h2]
    exact ((flat_put v x y hA).append_left _).trans List.perm_middle
theorem putA_ok (v x y:Int) {A:Tn} (h:FlOk A):FlOk (putA v x y A):=by
 by_cases hv:v∈A.map (·.1)
 ·refine ⟨by rw [putA_keys v x y A hv];exact h.out,fun a ha=>?_⟩
  rcases putA_mem h.out (getA_mem hv) a ha with rfl | ⟨ha,_⟩
  ·rw [putP_eq];exact putG_nodup _ _ (h.inn _ (getA_mem hv))
  ·exact h.inn a ha
 ·have hadd:=putA_add v x y A hv
  have h2:FlOk (A++[(v,[])]):=⟨by
   rw [List.map_append,List.nodup_append]
   refine ⟨h.out,by simp,fun a ha b hb e=>?_⟩
   simp only [List.map_cons,List.map_nil,List.mem_singleton] at hb
   subst hb;subst e
   exact hv ha,fun a ha=>by
   rcases List.mem_append.1 ha with ha | ha
   ·exact h.inn a ha
   ·rw [List.mem_singleton] at ha;rw [ha];simp⟩
  have hv2:v∈(A++[(v,([]:List (Int×Int)))]).map (·.1):=by simp
  rw [← hadd]
  refine ⟨by rw [putA_keys v x y _ hv2];exact h2.out,fun a ha=>?_⟩
  rcases putA_mem h2.out (getA_mem hv2) a ha with rfl | ⟨ha,_⟩
  ·rw [putP_eq];exact putG_nodup _ _ (h2.inn _ (getA_mem hv2))
  ·exact h2.inn a ha
def ringW (r:List Int) (W:List ((Int×Int)×Int)):Nat→List ((Int×Int)×Int)
 | 0=>W
 | j+1=>putG (r.getD j 0,r.getD (prevI r.length j) 0) (r.getD ((j+1) % r.length) 0) (ringW r W j)
def wantF (R:List (List Int)):List ((Int×Int)×Int):=R.foldl (fun W r=>ringW r W r.length) []
structure Same (A:Tn) (W:List ((Int×Int)×Int)):Prop where
 ok:FlOk A
 nd:(W.map (·.1)).Nodup
 pm:(flatA A).Perm W
theorem Same.put {A:Tn} {W:List ((Int×Int)×Int)} (h:Same A W) (v x y:Int):Same (putA v x y A) (putG (v,x) y W):=
 ⟨putA_ok v x y h.ok,putG_nodup _ _ h.nd,(flat_put v x y h.ok).trans ((List.Perm.cons _ (h.pm.filter _)).trans (putG_perm (v,x) y h.nd).symm)⟩
theorem Same.ring {A:Tn} {W:List ((Int×Int)×Int)} (h:Same A W) (r:List Int):∀ j,Same (ringA r A j) (ringW r W j)
 | 0=>h
 | j+1=>(Same.ring h r j).put _ _ _
theorem same_all (R:List (List Int)):Same (aroundF R) (wantF R):=by
 unfold aroundF wantF
 have key:∀ (R:List (List Int)) (A:Tn) (W:List ((Int×Int)×Int)),Same A W→Same (R.foldl (fun A r=>ringA r A r.length) A) (R.foldl (fun W r=>ringW r W r.length) W):=fun R=>by
  induction R with
  | nil=>exact fun A W h=>h
  | cons r R ih=>exact fun A W h=>ih _ _ (h.ring r _)
 exact key R [] [] ⟨⟨by simp,by simp⟩,by simp,by simp [flatA]⟩
def wL (W:List ((Int×Int)×Int)):List (List Int×LV):=W.map fun p=>([p.1.1,p.1.2],u p.2)
theorem wL_set (k:Int×Int) (y:Int):∀ W,mset (wL W) [k.1,k.2] (u y)=wL (putG k y W)
 | []=>rfl
 | p::W=>by
   have ih:=wL_set k y W
   unfold putG
   simp only [wL,List.map_cons,mset] at ih ⊢
   by_cases h:p.1=k
   ·rw [if_pos h,if_pos (by simp [h])];rfl
   ·rw [if_neg h,if_neg (by
     intro e
     have e:k.1=p.1.1∧k.2=p.1.2:=by simpa using e
     exact h (Prod.ext e.1.symm e.2.symm)),ih];rfl
theorem wL_get {k:Int×Int} {y:Int}:∀ {W},(W.map (·.1)).Nodup→(k,y)∈W→mget (wL W) [k.1,k.2]=some (u y)
 | p::W,hn,h=>by
   obtain ⟨n1,n2⟩:=List.nodup_cons.1 (by simpa using hn:(p.1::W.map (·.1)).Nodup)
   simp only [wL,List.map_cons,mget]
   rcases List.mem_cons.1 h with h | h
   ·rw [if_pos (by simp [← h])];rw [← h]
   ·rw [if_neg (by
     intro e
     have e:k.1=p.1.1∧k.2=p.1.2:=by simpa using e
     exact n1 (List.mem_map.2 ⟨_,h,Prod.ext e.1 e.2⟩))]
    exact wL_get n2 h
theorem putG_len {κ:Type} [DecidableEq κ] (k:κ) (y:Int):∀ W:List (κ×Int),(putG k y W).length≤W.length+1
 | []=>by simp [putG]
 | p::W=>by
   have:=putG_len k y W
   unfold putG
   split<;>simp<;>omega
theorem ringW_len (r:List Int) (W:List ((Int×Int)×Int)):∀ j,(ringW r W j).length≤W.length+j
 | 0=>Nat.le_refl _
 | j+1=>by
   have h:=ringW_len r W j
   have h2:=putG_len (r.getD j 0,r.getD (prevI r.length j) 0) (r.getD ((j+1) % r.length) 0) (ringW r W j)
   unfold ringW
   omega
theorem wantF_len {R:List (List Int)} (h:∀ r∈R,r.length≤30):(wantF R).length≤30 * R.length:=by
 have key:∀ (R:List (List Int)) (W:List ((Int×Int)×Int)),(∀ r∈R,r.length≤30)→(R.foldl (fun W r=>ringW r W r.length) W).length≤W.length+30 * R.length:=fun R=>by
  induction R with
  | nil=>exact fun W _=>Nat.le_refl _
  | cons r R ih=>
    intro W h
    have h1:=ih (ringW r W r.length) fun r hr=>h r (List.mem_cons_of_mem _ hr)
    have h2:=ringW_len r W r.length
    have h3:=h r (by simp)
    rw [List.foldl_cons,List.length_cons]
    omega
 have:=key R [] h
 unfold wantF
 simpa using this
theorem flatA_len (A:Tn):(flatA A).length=(A.map fun a=>a.2.length).sum:=by
 induction A with
 | nil=>rfl
 | cons a A ih=>simp only [flatA,List.flatMap_cons,List.length_append,List.length_map,List.map_cons,List.sum_cons] at ih ⊢;rw [ih]
end Go.Proofs.YtiiejclelbilkaaGreatDoor.Aw
namespace Go.Proofs.YtiiejclelbilkaaGreatDoor.Aw
open Go Go.RowKit Go.Proofs.YtiiejclelbilkaaGreatDoor.Pl
set_option linter.unusedSimpArgs false
set_option linter.unusedVariables false
set_option maxHeartbeats 4000000 in
theorem PlaneAround_walk (R:List (List Int)) (st:St) (hRl:R.length≤maxLen) (hrl:∀ r∈R,r.length≤maxLen):
 ACalls Tryz.prog 3 [.sl 0 R.length (rowsL R)] st fun r st'=>r=bb true:=by
 refine qO tabOk Tryz.func3 rfl rfl Tryz.ntmps3 (rs:=[.tmp 2]) rfl (by simp) ?_
 (repeat' (first | refine qS ?_ | (refine w_e [] ?_;intro J hJ;simp only [];simp [];(try (refine hJ _ _ ?_;clear hJ J;simp only [ak,reduceIte])))))
 refine qE (awake14 _) (by simp) ?_;rintro r s1 ⟨rfl,e1⟩
 rw [e1];clear e1 s1
 by_cases h20:(20:Int) < R.length
 ·(repeat' (first | refine qS ?_ | (refine qK ?_;simp only [ak,reduceIte]) | (refine qR ?_;simp only [ak,reduceIte];simp [h20]) | (refine qC ?_;simp [h20]) | ((first | (refine w_e [] ?_;intro J hJ;simp only []) | (refine e_go ?_));simp [h20];(refine hJ _ _ ?_;clear hJ J;simp only [ak,reduceIte]))))
 have hR20:R.length≤20:=by omega
 (repeat' (first | refine qS ?_ | refine qB ?_ | (refine qK ?_;simp only [ak,reduceIte]) | (refine qC ?_;simp [h20]) | ((first | (refine w_e [] ?_;intro J hJ;simp only []) | (refine e_go ?_));simp [h20];(refine hJ _ _ ?_;clear hJ J;simp only [ak,reduceIte]))))
 refine awp_range 25 24 26 71 (R.length) (fun j fr st2=>fr 0=.sl 0 R.length (rowsL R)∧fr 23=.sl 0 R.length (rowsL R)∧fr 3=.mp st.next∧st2.H st.next=.map true [.u32,.u32] (wL ((R.take j).foldl (fun W r=>ringW r W r.length) []))∧st2.next=st.next+1∧∀ r∈R.take j,r.length≤30) ?_ ?_ ?_
 ·exact ⟨by simp,by simp,by simp,by simp [wL],by simp,by simp⟩
 ·rintro j0 fr s hlt ⟨f0,f23,f3,hH,hn,h30⟩ fi fn JO hJO
  have hd:=rowsL_drop R j0 hlt
  have hgd:R.getD j0 []=R[j0]:=by rw [List.getD_eq_getElem?_getD,List.getElem?_eq_getElem hlt];rfl
  have h1:R.take (j0+1)=R.take j0++[R[j0]]:=List.take_succ_eq_append_getElem hlt
  have htk:(R.take (j0+1)).foldl (fun W r=>ringW r W r.length) []=ringW R[j0] ((R.take j0).foldl (fun W r=>ringW r W r.length) []) R[j0].length:=by
   rw [h1,List.foldl_append];rfl
  have hml:R[j0].length≤maxLen:=hrl _ (List.getElem_mem _)
  rw [hgd] at hd
  have h30':R[j0].length≤30→∀ r∈R.take (j0+1),r.length≤30:=fun h r hr=>by
   rw [h1,List.mem_append,List.mem_singleton] at hr
   rcases hr with hr | hr
   ·exact h30 r hr
   ·rw [hr];exact h
  rw [htk] at hJO
  clear htk h1 h30 hgd
  generalize (R.take j0).foldl (fun W r=>ringW r W r.length) []=W0 at *
  generalize R[j0]=r at *
  by_cases hr30:(30:Int) < r.length
  ·(repeat' (first | refine qS ?_ | (refine qR ?_;simp only [ak,reduceIte];simp [f23,fi,fn,hlt,hd,hr30]) | (refine qC ?_;simp [f23,fi,fn,hlt,hd,hr30]) | (refine w_e [] ?_;intro J hJ;simp only [];simp [f23,fi,fn,hlt,hd,hr30];(refine hJ _ _ ?_;clear hJ J;simp only [ak,reduceIte]))))
  have hr30':r.length≤30:=by omega
  have h30'':=h30' hr30'
  (repeat' (first | refine qS ?_ | refine qB ?_ | (refine qK ?_;simp only [ak,reduceIte]) | (refine qC ?_;simp [f23,fi,fn,hlt,hd,hr30]) | (refine w_e [] ?_;intro J hJ;simp only [];simp [f23,fi,fn,hlt,hd,hr30];(refine hJ _ _ ?_;clear hJ J;simp only [ak,reduceIte]))))
  refine awp_range 34 33 35 70 (r.length) (fun j fr st2=>(fr 0=.sl 0 R.length (rowsL R)∧fr 23=.sl 0 R.length (rowsL R)∧fr 25=i j0∧fr 24=i R.length)∧fr 3=.mp st.next∧fr 5=.sl 0 r.length (us r)∧fr 32=.sl 0 r.length (us r)∧st2.H st.next=.map true [.u32,.u32] (wL (ringW r W0 j))∧st2.next=st.next+1) ?_ ?_ ?_
  ·exact ⟨⟨by simp [f0],by simp [f23],by simp [fi],by simp [fn]⟩,by simp [f3],by simp,by simp,hH,hn⟩
  ·clear f0 f23 f3 fi fn hH hn fr s
   rintro k fr s hlk ⟨⟨f0,f23,f25,f24⟩,f3,f5,f32,hH,hn⟩ fi fn J2 hJ2
   have hdk:=qG r k hlk
   have hdl:=qG r (r.length - 1) (by omega)
   have hd0:=qG r 0 (by omega)
   have hsn:ringW r W0 (k+1)=putG (r.getD k 0,r.getD (prevI r.length k) 0) (r.getD ((k+1) % r.length) 0) (ringW r W0 k):=rfl
   have hset:=wL_set (r.getD k 0,r.getD (prevI r.length k) 0) (r.getD ((k+1) % r.length) 0) (ringW r W0 k)
   rw [← hsn] at hset
   simp only at hset
   have w1:IntKind.i64.wrap ((r.length:Int) - 1)=((r.length - 1:Nat):Int):=by rw [wrap_i64 _ (by omega) (by omega)];omega
   have w2:IntKind.i64.wrap ((k:Int)+1)=(k:Int)+1:=wrap_i64 _ (by omega) (by omega)
   have hr0:0 < r.length:=by omega
   have hr1:r.length - 1 < r.length:=by omega
   have hr1':((r.length - 1:Nat):Int) < r.length:=by omega
   have hh0:hdL (us r)=u (r.getD 0 0):=by rw [show us r=(us r).drop 0 from rfl,hd0];rfl
   have hr0':(0:Int) < r.length:=by omega
   have hJ3:∀ fr' s',fr' 0=.sl 0 R.length (rowsL R)→fr' 23=.sl 0 R.length (rowsL R)→fr' 25=i j0→fr' 24=i R.length→fr' 3=.mp st.next→fr' 5=.sl 0 r.length (us r)→fr' 32=.sl 0 r.length (us r)→fr' 34=i k→fr' 33=i r.length→s'.H st.next=.map true [.u32,.u32] (wL (ringW r W0 (k+1)))→s'.next=st.next+1→J2 fr' s':=fun fr' s' q1 q2 q3 q4 q5 q6 q7 q8 q9 q10 q11=>hJ2 _ _ q8 q9 ⟨⟨by simp [q1],by simp [q2],by simp [q3],by simp [q4]⟩,by simp [q5],by simp [q6],by simp [q7],q10,q11⟩
   clear hJ2
   rw [← hset] at hJ3
   have hlk':(k:Int) < r.length:=by omega
   by_cases hk0:k=0
   ·have hp:prevI r.length k=r.length - 1:=by rw [hk0];rfl
    rw [hp] at hJ3
    have hkp:¬ 0 < k:=by omega
    have hkp':¬ (0:Int) < (k:Int):=by omega
    by_cases hkn:k+1 < r.length
    ·have hmod:(k+1) % r.length=k+1:=Nat.mod_eq_of_lt hkn
     rw [hmod] at hJ3
     have hdn:=qG r (k+1) hkn
     have hkn':(k:Int)+1 < r.length:=by omega
     clear hset hsn
     generalize ringW r W0 k=W at *
     generalize r.getD k 0=v at *
     generalize r.getD (r.length - 1) 0=x at *
     generalize r.getD (k+1) 0=y at *
     generalize r.getD 0 0=z at *
     (repeat' (first | refine qS ?_ | (refine qK ?_;simp only [ak,reduceIte]) | (refine qC ?_;simp [f3,f32,f5,fi,fn,hlk,hdk,w1,w2,hr0,hr1,hr1',hdl,hh0,hr0',hkp,hkp',hkn,hkn',hdn,hH]) | ((first | (refine w_e [] ?_;intro J hJ;simp only []) | (refine w_q ?_;intro J hJ));simp [f3,f32,f5,fi,fn,hlk,hdk,w1,w2,hr0,hr1,hr1',hdl,hh0,hr0',hkp,hkp',hkn,hkn',hdn,hH];(repeat refine ca ?_);(refine hJ _ _ ?_;clear hJ J;simp only [ak,reduceIte]))))
     exact hJ3 _ _ (by simp [f0]) (by simp [f23]) (by simp [f25]) (by simp [f24]) (by simp [f3]) (by simp [f5]) (by simp [f32]) (by simp [fi]) (by simp [fn]) (by simp) (by simp [hn])
    ·have hmod:(k+1) % r.length=0:=by rw [show k+1=r.length by omega,Nat.mod_self]
     rw [hmod] at hJ3
     have hkn':¬ (k:Int)+1 < r.length:=by omega
     clear hset hsn
     generalize ringW r W0 k=W at *
     generalize r.getD k 0=v at *
     generalize r.getD (r.length - 1) 0=x at *
     generalize r.getD 0 0=z at *
     (repeat' (first | refine qS ?_ | (refine qK ?_;simp only [ak,reduceIte]) | (refine qC ?_;simp [f3,f32,f5,fi,fn,hlk,hdk,w1,w2,hr0,hr1,hr1',hdl,hh0,hr0',hkp,hkp',hkn,hkn',hH]) | ((first | (refine w_e [] ?_;intro J hJ;simp only []) | (refine w_q ?_;intro J hJ));simp [f3,f32,f5,fi,fn,hlk,hdk,w1,w2,hr0,hr1,hr1',hdl,hh0,hr0',hkp,hkp',hkn,hkn',hH];(refine hJ _ _ ?_;clear hJ J;simp only [ak,reduceIte]))))
     exact hJ3 _ _ (by simp [f0]) (by simp [f23]) (by simp [f25]) (by simp [f24]) (by simp [f3]) (by simp [f5]) (by simp [f32]) (by simp [fi]) (by simp [fn]) (by simp) (by simp [hn])
   ·have hp:prevI r.length k=k - 1:=by unfold prevI;rw [if_neg hk0]
    rw [hp] at hJ3
    have hkp:0 < k:=by omega
    have hkp':(0:Int) < (k:Int):=by omega
    have w3:IntKind.i64.wrap ((k:Int) - 1)=((k - 1:Nat):Int):=by rw [wrap_i64 _ (by omega) (by omega)];omega
    have hk1:k - 1 < r.length:=by omega
    have hk1':((k - 1:Nat):Int) < r.length:=by omega
    have hdp:=qG r (k - 1) hk1
    by_cases hkn:k+1 < r.length
    ·have hmod:(k+1) % r.length=k+1:=Nat.mod_eq_of_lt hkn
     rw [hmod] at hJ3
     have hdn:=qG r (k+1) hkn
     have hkn':(k:Int)+1 < r.length:=by omega
     clear hset hsn
     generalize ringW r W0 k=W at *
     generalize r.getD k 0=v at *
     generalize r.getD (k - 1) 0=x at *
     generalize r.getD (r.length - 1) 0=x2 at *
     generalize r.getD (k+1) 0=y at *
     generalize r.getD 0 0=z at *
     (repeat' (first | refine qS ?_ | (refine qC ?_;simp [f3,f32,f5,fi,fn,hlk,hdk,w1,w2,w3,hr0,hr1,hr1',hdl,hh0,hr0',hkp,hkp',hkn,hkn',hdn,hdp,hk1,hk1',hH]) | ((first | (refine w_e [] ?_;intro J hJ;simp only []) | (refine w_q ?_;intro J hJ));simp [f3,f32,f5,fi,fn,hlk,hdk,w1,w2,w3,hr0,hr1,hr1',hdl,hh0,hr0',hkp,hkp',hkn,hkn',hdn,hdp,hk1,hk1',hH];(repeat refine ca ?_);(refine hJ _ _ ?_;clear hJ J;simp only [ak,reduceIte]))))
     exact hJ3 _ _ (by simp [f0]) (by simp [f23]) (by simp [f25]) (by simp [f24]) (by simp [f3]) (by simp [f5]) (by simp [f32]) (by simp [fi]) (by simp [fn]) (by simp) (by simp [hn])
    ·have hmod:(k+1) % r.length=0:=by rw [show k+1=r.length by omega,Nat.mod_self]
     rw [hmod] at hJ3
     have hkn':¬ (k:Int)+1 < r.length:=by omega
     clear hset hsn
     generalize ringW r W0 k=W at *
     generalize r.getD k 0=v at *
     generalize r.getD (k - 1) 0=x at *
     generalize r.getD (r.length - 1) 0=x2 at *
     generalize r.getD 0 0=z at *
     (repeat' (first | refine qS ?_ | (refine qK ?_;simp only [ak,reduceIte]) | (refine qC ?_;simp [f3,f32,f5,fi,fn,hlk,hdk,w1,w2,w3,hr0,hr1,hr1',hdl,hh0,hr0',hkp,hkp',hkn,hkn',hdp,hk1,hk1',hH]) | ((first | (refine w_e [] ?_;intro J hJ;simp only []) | (refine w_q ?_;intro J hJ));simp [f3,f32,f5,fi,fn,hlk,hdk,w1,w2,w3,hr0,hr1,hr1',hdl,hh0,hr0',hkp,hkp',hkn,hkn',hdp,hk1,hk1',hH];(refine hJ _ _ ?_;clear hJ J;simp only [ak,reduceIte]))))
     exact hJ3 _ _ (by simp [f0]) (by simp [f23]) (by simp [f25]) (by simp [f24]) (by simp [f3]) (by simp [f5]) (by simp [f32]) (by simp [fi]) (by simp [fn]) (by simp) (by simp [hn])
  ·rintro fr s ⟨⟨f0,f23,f25,f24⟩,f3,f5,f32,hH,hn⟩
   skip
   exact hJO _ _ (by simp [f25]) (by simp [f24]) ⟨by simp [f0],by simp [f23],by simp [f3],hH,hn,h30''⟩
 ·rintro fr s ⟨f0,f23,f3,hH,hn,h30⟩
  rw [List.take_length] at hH h30
  have hSame:=same_all R
  have hwle:=wantF_len h30
  change s.H st.next=.map true [.u32,.u32] (wL (wantF R)) at hH
  simp only [ak]
  refine qS ?_
  (refine w_e [] ?_;intro J hJ;simp only [];simp [];(refine hJ _ _ ?_;clear hJ J;simp only [ak,reduceIte]))
  refine qS ?_
  refine awp_mapRangeC tabOk [] (fun f s2=>∃ M loc,f 73=.mp M∧MM (aroundF R) loc M s s2∧f 3=.mp st.next∧f 10=i 0) ?_ ?_ Tryz.underlying28
  ·refine e_go ?_
   simp [f0]
   refine qE (sAroundF R s (by omega) fun r hr=>by have:=h30 r hr;omega) (by simp) ?_;rintro r s2 ⟨M,loc,rfl,hM⟩
   simp [f3]
   exact ⟨loc,hM⟩
  ·rintro fr s2 ⟨M,loc,f73,hM,f3,f10⟩
   refine ⟨M,false,[.u32],ouL (aroundF R) loc,fun L f x=>∃ (rem:Tn) (n:Nat),L=ouL rem loc∧(∀ a∈rem,a∈aroundF R)∧f 3=.mp st.next∧f 10=i n∧n+(rem.map fun a=>a.2.length).sum=(wantF R).length∧x=s2.set M (.frz false [.u32] (ouL (aroundF R) loc)),f73,hM.out,?_,?_,?_⟩
   ·intro r
    exact ⟨aroundF R,0,rfl,fun a ha=>ha,by simp [f3],by simp [f10],by rw [Nat.zero_add,← flatA_len,hSame.pm.length_eq],rfl⟩
   ·rintro r L1 p L2 fr x ⟨rem,n,hL,hsub,f3,f10,hcnt,rfl⟩ ft J hJ
    obtain ⟨R1,R2',hrem,h1,h2⟩:=List.map_eq_append_iff.1 hL.symm
    obtain ⟨a,R2,rfl,ha,h3⟩:=List.map_eq_cons_iff.1 h2
    subst hrem;subst ha;subst h1;subst h3
    have haA:=hsub a (by simp)
    obtain ⟨k1,k2,k3⟩:=hM.inn a haA
    have hlM:¬ loc a.1=M:=k2.2
    have hMl:¬ M=loc a.1:=fun e=>hlM e.symm
    have hol:=hM.olt
    have c1:¬ st.next=M:=by omega
    have c2:¬ st.next=loc a.1:=by omega
    have hW2:s2.H st.next=.map true [.u32,.u32] (wL (wantF R)):=(hM.kp.H _ (by omega)).trans hH
    have hsum:n+a.2.length+((R1++R2).map fun a=>a.2.length).sum=(wantF R).length:=by
     rw [← hcnt];simp only [List.map_append,List.sum_append,List.map_cons,List.sum_cons];omega
    have hget:∀ q∈a.2,mget (wL (wantF R)) [a.1,q.1]=some (u q.2):=fun q hq=>
     wL_get (k:=(a.1,q.1)) hSame.nd (hSame.pm.mem_iff.1 (List.mem_flatMap.2 ⟨a,haA,List.mem_map.2 ⟨q,hq,rfl⟩⟩))
    have hJ2:∀ f':Frm,f' 3=.mp st.next→f' 10=i (n+a.2.length:Nat)→f' 74=itr r→J f' (s2.set M (.frz false [.u32] (ouL (aroundF R) loc))):=fun f' q1 q2 q3=>
     hJ _ _ ⟨R1++R2,n+a.2.length,by simp [ouL],fun b hb=>hsub b (by rcases List.mem_append.1 hb with hb | hb<;>simp [hb]),q1,q2,hsum,rfl⟩ q3 (by simp)
    clear hJ
    refine e_go ?_
    simp [keyV,mkC]
    refine awp_mapRange tabOk [] (fun L f y=>∃ (rem2:List (Int×Int)) (n2:Nat),L=inL rem2∧(∀ q∈rem2,q∈a.2)∧f 3=.mp st.next∧f 10=i n2∧f 11=u a.1∧f 74=itr r∧n2+rem2.length=n+a.2.length∧y=(s2.set M (.frz false [.u32] (ouL (aroundF R) loc))).set (loc a.1) (.frz false [.u32] (inL a.2))) (m:=loc a.1) (ag:=false) (ks:=[.u32]) (es:=inL a.2) (by simp) (by rw [set_H,if_neg hlM];exact k1) ?_ ?_ ?_ Tryz.underlying30
    ·intro r2
     exact ⟨a.2,n,rfl,fun q hq=>hq,by simp [f3],by simp [f10],by simp,by simp [ft],rfl,rfl⟩
    ·rintro r2 L1 p L2 fr x ⟨rem2,n2,hL2,hsub2,f3,f10,f11,f74,hcnt2,rfl⟩ ft2 J3 hJ3
     obtain ⟨P1,P2',hrem,h1,h2⟩:=List.map_eq_append_iff.1 hL2.symm
     obtain ⟨q,P2,rfl,ha,h3⟩:=List.map_eq_cons_iff.1 h2
     subst hrem;subst ha;subst h1;subst h3
     have hg:=hget q (hsub2 q (by simp))
     have hcn:n2+1+(P1++P2).length=n+a.2.length:=by simp at hcnt2 ⊢;omega
     refine e_go ?_
     simp [keyV,mkC]
     have hwn:IntKind.i64.wrap ((n2:Int)+1)=((n2+1:Nat):Int):=qN n2 (by omega)
     have hJ4:∀ f':Frm,f' 3=.mp st.next→f' 10=i (n2+1:Nat)→f' 11=u a.1→f' 74=itr r→f' 81=itr r2→J3 f' ((s2.set M (.frz false [.u32] (ouL (aroundF R) loc))).set (loc a.1) (.frz false [.u32] (inL a.2))):=fun f' q1 q2 q3 q4 q5=>
      hJ3 _ _ ⟨P1++P2,n2+1,by simp [inL],fun b hb=>hsub2 b (by rcases List.mem_append.1 hb with hb | hb<;>simp [hb]),q1,q2,q3,q4,hcn,rfl⟩ q5 (by simp)
     (repeat' (first | refine qS ?_ | (refine qK ?_;simp only [ak,reduceIte]) | (refine qC ?_;simp [f3,f10,f11,hW2,c1,c2,hg,hwn]) | (refine w_e [] ?_;intro J hJ;simp only [];simp [f3,f10,f11,hW2,c1,c2,hg,hwn];(refine hJ _ _ ?_;clear hJ J;simp only [ak,reduceIte]))))
     exact hJ4 _ (by simp [f3]) (by simp) (by simp [f11]) (by simp [f74]) (by simp [ft2])
    ·rintro fr x ⟨rem2,n2,hL2,hsub2,f3,f10,f11,f74,hcnt2,rfl⟩
     obtain rfl:rem2=[]:=List.map_eq_nil_iff.1 hL2.symm
     simp only [List.length_nil,Nat.add_zero] at hcnt2
     rw [hcnt2] at f10
     have hse:((s2.set M (.frz false [.u32] (ouL (aroundF R) loc))).set (loc a.1) (.frz false [.u32] (inL a.2))).set (loc a.1) (.map false [.u32] (inL a.2))=s2.set M (.frz false [.u32] (ouL (aroundF R) loc)):=St.ext' rfl fun y=>by
      by_cases hy:y=loc a.1
      ·simp [hy,hlM,k1]
      ·simp [hy]
     rw [hse]
     skip
     exact hJ2 _ (by simp [f3]) (by simp [f10]) (by simp [f74])
   ·rintro fr x ⟨rem,n,hL,hsub,f3,f10,hcnt,rfl⟩
    obtain rfl:rem=[]:=List.map_eq_nil_iff.1 hL.symm
    simp only [List.map_nil,List.sum_nil,Nat.add_zero] at hcnt
    have hol:=hM.olt
    have c1:¬ st.next=M:=by omega
    have hW2:s2.H st.next=.map true [.u32,.u32] (wL (wantF R)):=(hM.kp.H _ (by omega)).trans hH
    have hwl:(wL (wantF R)).length=n:=by simp [wL,hcnt]
    (repeat' (first | refine qS ?_ | (refine qR ?_;simp only [ak,reduceIte];simp [f3,f10,hW2,c1,hwl]) | (refine w_e [] ?_;intro J hJ;simp only [];simp [f3,f10,hW2,c1,hwl];(refine hJ _ _ ?_;clear hJ J;simp only [ak,reduceIte]))))
end Go.Proofs.YtiiejclelbilkaaGreatDoor.Aw
namespace Go.Proofs.YtiiejclelbilkaaGreatDoor.Aw
open Go Go.RowKit Go.Proofs.YtiiejclelbilkaaGreatDoor.Pl
set_option linter.unusedSimpArgs false
set_option linter.unusedVariables false
theorem PlaneAround_shp (l0:List LV) (st:St) (h0:Shp tab 22 l0):ACalls Tryz.prog 3 [argT tab 22 l0] st fun r st'=>r=bb true:=by
 obtain ⟨R,rfl,hl,hr⟩:=shp_uss h0
 exact PlaneAround_walk R st hl fun r h=>(hr r h).1
end Go.Proofs.YtiiejclelbilkaaGreatDoor.Aw
