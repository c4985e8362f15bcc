/- kura: Least; plane.Planar: contracts. -/
import Derived.Test.YtiiejclelbilkaaGreatDoorJj
import Derived.Test.YtiiejclelbilkaaGreatDoorAwRg
import Derived.Test.YtiiejclelbilkaaGreatDoorAwShp
namespace Go.Proofs.YtiiejclelbilkaaGreatDoor.Aw
open Go Go.RowKit Go.Proofs.YtiiejclelbilkaaGreatDoor.Pl
set_option linter.unusedSimpArgs false
set_option linter.unusedVariables false
theorem sPlanar (g:Gr) (hv:g.vs.length≤1000) (he:g.es.length≤10) {o:Option Mp} (ho:(if chk g=0 then embedF g (blksG g) else some none)=some o) (st:St):
 ACalls Tryz.prog 69 [.ag (grL g)] st fun r st'=>r=bb o.isSome∧Keeps st st':=by
 refine qO tabOk Tryz.func69 rfl rfl Tryz.ntmps69 (rs:=[.tmp 2]) rfl (by simp) ?_
 (repeat' (first | refine qS ?_ | (refine w_e [] ?_;intro J hJ;simp only [];simp [];(try (refine hJ _ _ ?_;clear hJ J;simp only [ak,reduceIte])))))
 refine qE (sEmbed g hv he ho _) (by simp) ?_;rintro r s1 ⟨rfl,hk1⟩
 unfold embR
 cases o with
 | none=>
   (repeat' (first | refine qS ?_ | (refine qR ?_;simp only [ak,reduceIte];simp []) | ((first | (refine w_e [] ?_;intro J hJ;simp only []) | (refine e_go ?_));simp [];(refine hJ _ _ ?_;clear hJ J;simp only [ak,reduceIte]))))
   exact ((Keeps.new _ _).trans hk1).trans (Keeps.new _ _)
 | some m=>
   (repeat' (first | refine qS ?_ | (refine qR ?_;simp only [ak,reduceIte];simp []) | ((first | (refine w_e [] ?_;intro J hJ;simp only []) | (refine e_go ?_));simp [];(refine hJ _ _ ?_;clear hJ J;simp only [ak,reduceIte]))))
   exact ((Keeps.new _ _).trans hk1).trans (Keeps.new _ _)
def TestG (f:FuncId) (caps:List LV) (st:St) (D:Gr→Prop) (P:Gr→Bool):Prop:=∀ g,D g→∀ s,Keeps st s→ACalls Tryz.prog f (.ag (grL g)::caps) s fun r s'=>r=bb (P g)∧Keeps s s'
theorem Least_1 (x:Ed) (st:St):ACalls Tryz.prog 39 [.ag (edL x)] st fun r st'=>r=bb true∧Keeps st st':=by
 obtain ⟨d,a,b⟩:=x
 refine qO tabOk Tryz.func39 rfl rfl Tryz.ntmps39 (rs:=[.tmp 2]) rfl (by simp) ?_
 (repeat' (first | refine qS ?_ | (refine qR ?_;simp only [ak,reduceIte];simp []) | (refine w_e [] ?_;intro J hJ;simp only [];simp [];(refine hJ _ _ ?_;clear hJ J;simp only [ak,reduceIte]))))
 exact Keeps.new _ _
theorem Least_2 (x y:Ed) (q:Nat) (st:St) (hq:st.H q=.box 38 3 (edL x)) (hqn:q < st.next):
 ACalls Tryz.prog 40 [.ag (edL y),.pt q 0] st fun r st'=>r=bb (decide (y≠x))∧Keeps st st':=by
 obtain ⟨d,a,b⟩:=x
 obtain ⟨d',a',b'⟩:=y
 have h1:¬ q=st.next:=by omega
 refine qO tabOk Tryz.func40 rfl rfl Tryz.ntmps40 (rs:=[.tmp 3]) rfl (by simp) ?_
 (repeat' (first | refine qS ?_ | (refine qR ?_;simp only [ak,reduceIte];simp [hq,h1]) | (refine w_e [] ?_;intro J hJ;simp only [];simp [hq,h1];(refine hJ _ _ ?_;clear hJ J;simp only [ak,reduceIte]))))
 exact ⟨rfl,Keeps.new _ _⟩
set_option maxHeartbeats 1000000 in
theorem sLeast (g:Gr) (f:FuncId) (caps:List LV) (P:Gr→Bool) (D:Gr→Prop) (st:St) (hv:g.vs.length≤1000) (he:g.es.length≤1000) (hp:0 < st.next) (hT:TestG f caps st D P) (hD:D g) (hA:P g=true→asksF P D g g.es):
 ACalls Tryz.prog 14 [.ag (grL g),.fn (.func f) caps] st fun r st'=>r=.ag (grL (if P g=true then bareF (leastF P g g.es) else ⟨[],[]⟩))∧Keeps st st':=by
 refine acalls_z0 ?_
 have hel:=eds_length g.es
 refine qO tabOk Tryz.func14 rfl rfl Tryz.ntmps14 (rs:=[.cell 4 35]) rfl (by simp) ?_
 (repeat' (first | refine qS ?_ | (refine w_e [] ?_;intro J hJ;simp only [];simp [];(try (refine hJ _ _ ?_;clear hJ J;simp only [ak,reduceIte])))))
 refine qE (KeepP g _ [] (fun _=>true) _ hv he (fun x _ s _=>Least_1 x s)) (by simp [grL]) ?_;rintro r s1 ⟨rfl,hk1⟩
 rw [List.filter_eq_self.2 (fun _ _=>rfl)]
 have hn1:=hk1.next
 simp only [new_next] at hn1
 have hG1:s1.H st.next=.box 35 2 (grL g):=by rw [hk1.H _ (by simp;omega)];simp
 have hR1:s1.H (st.next+1)=.box 35 2 [.nil,.nil]:=by rw [hk1.H _ (by simp)];simp
 have hK1:Keeps st s1:=((Keeps.new _ _).trans (Keeps.new _ _)).trans hk1
 have a1:¬ st.next=s1.next:=by omega
 have a2:¬ st.next+1=s1.next:=by omega
 clear hk1
 (repeat' (first | refine qS ?_ | ((first | (refine w_e [] ?_;intro J hJ;simp only []) | (refine e_go ?_));simp [];(try (refine hJ _ _ ?_;clear hJ J;simp only [ak,reduceIte])))))
 refine qF (hT g hD _ (hK1.trans (Keeps.new _ (.box 35 2 (grL g))))) ?_;rintro r s2 ⟨rfl,hk2⟩
 have hn2:=hk2.next
 simp only [new_next] at hn2
 have hG2:s2.H st.next=.box 35 2 (grL g):=by rw [hk2.H _ (by simp;omega)];simp [a1,hG1]
 have hR2:s2.H (st.next+1)=.box 35 2 [.nil,.nil]:=by rw [hk2.H _ (by simp;omega)];simp [a2,hR1]
 have hL2:s2.H s1.next=.box 35 2 (grL g):=by rw [hk2.H _ (by simp)];simp
 have hK2:Keeps st s2:=(hK1.trans (Keeps.new _ _)).trans hk2
 clear hk2 hG1 hR1
 cases hP:P g with
 | false=>
   (repeat' (first | refine qS ?_ | (refine qR ?_;simp only [ak,reduceIte];simp [hP,hR2]) | (refine qC ?_;simp [hP,hR2]) | ((first | (refine w_e [] ?_;intro J hJ;simp only []) | (refine e_go ?_));simp [hP,hR2];(refine hJ _ _ ?_;clear hJ J;simp only [ak,reduceIte]))))
   refine ⟨by simp [z0,z0L,grL],hK2.set (by omega) _⟩
 | true=>
 (repeat' (first | refine qS ?_ | refine qB ?_ | (refine qK ?_;simp only [ak,reduceIte]) | (refine qC ?_;simp [hP,hG2]) | ((first | (refine w_e [] ?_;intro J hJ;simp only []) | (refine e_go ?_));simp [hP,hG2];(refine hJ _ _ ?_;clear hJ J;simp only [ak,reduceIte]))))
 refine awp_range 19 18 20 30 (g.es.length) (fun j fr st2=>fr 1=.fn (.func f) caps∧fr 4=.pt (st.next+1) 0∧fr 5=.pt s1.next 0∧fr 17=.sl 0 g.es.length (eds g.es)∧st2.H (st.next+1)=.box 35 2 [.nil,.nil]∧s1.next < st2.next∧Keeps st st2∧∃ L:Gr,st2.H s1.next=.box 35 2 (grL L)∧L.vs.length≤g.vs.length∧L.es.length≤g.es.length∧asksF P D L (g.es.drop j)∧leastF P L (g.es.drop j)=leastF P g g.es) ?_ ?_ ?_
 ·exact ⟨by simp,by simp,by simp,by simp,hR2,by omega,hK2,g,hL2,Nat.le_refl _,Nat.le_refl _,by simpa using hA hP,by simp⟩
 ·clear hG2 hR2 hL2
  rintro j fr s hlt ⟨f1,f4,f5,f17,hR,hsn,hK,L,hL,hLv,hLe,hAs,hLe2⟩ fi fn JO hJO
  have hd:=eds_drop g.es j hlt
  have hdr:g.es.drop j=g.es.getD j ed0::g.es.drop (j+1):=by
   rw [List.getD_eq_getElem?_getD,List.getElem?_eq_getElem hlt];exact List.drop_eq_getElem_cons hlt
  rw [hdr] at hAs hLe2
  have hk3:j * 3 < g.es.length * 3:=by omega
  generalize g.es.getD j ed0=x at *
  obtain ⟨hDx,hAs⟩:=hAs
  simp only [leastF] at hLe2
  have b1:¬ s1.next=s.next:=by omega
  have hfl:=List.length_filter_le (fun y:Ed=>decide (y≠x)) L.es
  have hTe:TestE 40 [.pt s.next 0] (s.new (.box 38 3 (edL x))) L.es fun y=>decide (y≠x):=fun y _ s2 h2=>Least_2 x y s.next s2 (by rw [h2.H _ (by simp)];simp) (by have:=h2.next;simp at this;omega)
  obtain ⟨dx,ax,bx⟩:=x
  (repeat' (first | refine qS ?_ | (refine w_e [] ?_;intro J hJ;simp only [];simp [f1,f5,f17,fi,fn,hd,hel,hlt,hk3,hL,b1];(try (refine hJ _ _ ?_;clear hJ J;simp only [ak,reduceIte])))))
  refine qE (KeepP L _ _ _ _ (by omega) (by omega) hTe) (by simp [grL]) ?_;rintro r s3 ⟨rfl,hk3'⟩
  have hn3:=hk3'.next
  simp only [new_next] at hn3
  have hR3:s3.H (st.next+1)=.box 35 2 [.nil,.nil]:=by rw [hk3'.H _ (by simp;omega)];simp [show ¬ st.next+1=s.next by omega,hR]
  have hL3:s3.H s1.next=.box 35 2 (grL L):=by rw [hk3'.H _ (by simp;omega)];simp [b1,hL]
  have hK3:Keeps st s3:=(hK.trans (Keeps.new _ _)).trans hk3'
  clear hk3' hL hR
  have c1:¬ s1.next=s3.next:=by omega
  have c2:¬ st.next+1=s3.next:=by omega
  change asksF P D (if P (lessG L ⟨dx,ax,bx⟩)=true then lessG L ⟨dx,ax,bx⟩ else L) (g.es.drop (j+1)) at hAs
  have hlg:(⟨L.vs,L.es.filter fun y=>decide (y≠⟨dx,ax,bx⟩)⟩:Gr)=lessG L ⟨dx,ax,bx⟩:=rfl
  have hlv:(lessG L ⟨dx,ax,bx⟩).vs.length≤g.vs.length:=hLv
  have hle:(lessG L ⟨dx,ax,bx⟩).es.length≤g.es.length:=by unfold lessG;simp only;omega
  rw [hlg]
  generalize lessG L ⟨dx,ax,bx⟩=L' at *
  (repeat' (first | refine qS ?_ | ((first | (refine w_e [] ?_;intro J hJ;simp only []) | (refine e_go ?_));simp [f1];(try (refine hJ _ _ ?_;clear hJ J;simp only [ak,reduceIte])))))
  refine qF (hT L' hDx _ (hK3.trans (Keeps.new _ (.box 35 2 (grL L'))))) ?_;rintro r s4 ⟨rfl,hk4⟩
  have hn4:=hk4.next
  simp only [new_next] at hn4
  have hR4:s4.H (st.next+1)=.box 35 2 [.nil,.nil]:=by rw [hk4.H _ (by simp;omega)];simp [c2,hR3]
  have hL4:s4.H s1.next=.box 35 2 (grL L):=by rw [hk4.H _ (by simp;omega)];simp [c1,hL3]
  have hX4:s4.H s3.next=.box 35 2 (grL L'):=by rw [hk4.H _ (by simp)];simp
  have hK4:Keeps st s4:=(hK3.trans (Keeps.new _ _)).trans hk4
  clear hk4
  cases hPx:P L' with
  | false=>
    rw [hPx,if_neg (by simp)] at hAs hLe2
    (repeat' (first | (refine qK ?_;simp only [ak,reduceIte]) | (refine qC ?_;simp []) | (refine e_go ?_;simp [];(refine hJ _ _ ?_;clear hJ J;simp only [ak,reduceIte]))))
    exact hJO _ _ (by simp [fi]) (by simp [fn]) ⟨by simp [f1],by simp [f4],by simp [f5],by simp [f17],hR4,by omega,hK4,L,hL4,hLv,hLe,hAs,hLe2⟩
  | true=>
    rw [hPx,if_pos rfl] at hAs hLe2
    have c3:¬ st.next+1=s1.next:=by omega
    (repeat' (first | (refine qC ?_;simp [f5,hX4,hL4]) | ((first | (refine w_e [] ?_;intro J hJ;simp only []) | (refine e_go ?_));simp [f5,hX4,hL4];(refine hJ _ _ ?_;clear hJ J;simp only [ak,reduceIte]))))
    exact hJO _ _ (by simp [fi]) (by simp [fn]) ⟨by simp [f1],by simp [f4],by simp [f5],by simp [f17],by simp [c3,hR4],by simp;omega,hK4.set (by omega) _,L',by simp,hlv,hle,hAs,hLe2⟩
 ·rintro fr s ⟨f1,f4,f5,f17,hR,hsn,hK,L,hL,hLv,hLe,hAs,hLe2⟩
  rw [List.drop_length] at hLe2
  simp only [leastF] at hLe2
  rw [← hLe2]
  (repeat' (first | refine qS ?_ | (refine w_e [] ?_;intro J hJ;simp only [];simp [f5,hL])))
  refine qE (Bare L _ (by omega) (by omega) (by omega)) (by simp [grL]) ?_;rintro r s3 ⟨rfl,hk3⟩
  have hR3:=(hk3.H (st.next+1) (by omega)).trans hR
  (repeat' (first | (refine qR ?_;simp only [ak,reduceIte];simp [f4,hR3]) | (refine e_go ?_;simp [f4,hR3];(refine hJ _ _ ?_;clear hJ J;simp only [ak,reduceIte]))))
  refine ⟨by simp only [z0,z0L,grL,bareF,z0_us,z0_edsB],(hK.trans hk3).set (by omega) _⟩
noncomputable def emb1 (g:Gr):Option (Option Mp):=if chk g=0 then embedF g (blksG g) else some none
noncomputable def notP (g:Gr):Bool:=!((emb1 g).getD none).isSome
def DrwD (g:Gr):Prop:=g.vs.length≤1000∧g.es.length≤10∧∃ o,emb1 g=some o
theorem Find_1 (g:Gr) (hD:DrwD g) (st:St):ACalls Tryz.prog 70 [.ag (grL g)] st fun r st'=>r=bb (notP g)∧Keeps st st':=by
 obtain ⟨hv,he,o,ho⟩:=hD
 have hn:notP g=!o.isSome:=by unfold notP;rw [ho];rfl
 rw [hn]
 refine qO tabOk Tryz.func70 rfl rfl Tryz.ntmps70 (rs:=[.tmp 2]) rfl (by simp) ?_
 (repeat' (first | refine qS ?_ | (refine w_e [] ?_;intro J hJ;simp only [];simp [];(try (refine hJ _ _ ?_;clear hJ J;simp only [ak,reduceIte])))))
 refine qE (sPlanar g hv he ho _) (by simp) ?_;rintro r s1 ⟨rfl,hk1⟩
 (repeat' (first | (refine qR ?_;simp only [ak,reduceIte];simp []) | (refine e_go ?_;simp [];(refine hJ _ _ ?_;clear hJ J;simp only [ak,reduceIte]))))
 exact (Keeps.new _ _).trans hk1
noncomputable def findR (g:Gr):LV:=.tu [.ag (grL (if chk g=0∧notP g=true then bareF (leastF notP g g.es) else ⟨[],[]⟩)),bb (decide (chk g=0)&&notP g)]
theorem sFind (g:Gr) (hD:DrwD g) (hA:notP g=true→asksF notP DrwD g g.es) (st:St) (hp:0 < st.next):
 ACalls Tryz.prog 34 [.ag (grL g)] st fun r st'=>r=findR g∧Keeps st st':=by
 obtain ⟨hv,he,o,ho⟩:=hD
 have hn:notP g=!o.isSome:=by unfold notP;rw [ho];rfl
 refine acalls_z0 ?_
 refine qO tabOk Tryz.func34 rfl rfl Tryz.ntmps34 (rs:=[.cell 2 35,.tmp 3]) rfl (by simp) ?_
 (repeat' (first | refine qS ?_ | (refine w_e [] ?_;intro J hJ;simp only [];simp [];(try (refine hJ _ _ ?_;clear hJ J;simp only [ak,reduceIte])))))
 refine qE (Check g _ hv (by omega)) (by simp) ?_;rintro r s1 ⟨rfl,hk1⟩
 have hn1:=hk1.next
 simp only [new_next] at hn1
 have hG1:s1.H st.next=.box 35 2 (grL g):=by rw [hk1.H _ (by simp;omega)];simp
 have hR1:s1.H (st.next+1)=.box 35 2 [.nil,.nil]:=by rw [hk1.H _ (by simp)];simp
 have hK1:Keeps st s1:=((Keeps.new _ _).trans (Keeps.new _ _)).trans hk1
 clear hk1
 by_cases hc:chk g=0
 rotate_left
 ·have hc2:(chk g != 0)=true:=by simpa using hc
  have hfr:findR g=.tu [.ag (grL ⟨[],[]⟩),bb false]:=by unfold findR;rw [if_neg fun h=>hc h.1,decide_eq_false hc];rfl
  (repeat' (first | refine qS ?_ | (refine qR ?_;simp only [ak,reduceIte];simp [hc2,hR1]) | (refine qC ?_;simp [hc2,hR1]) | ((first | (refine w_e [] ?_;intro J hJ;simp only []) | (refine e_go ?_));simp [hc2,hR1];(refine hJ _ _ ?_;clear hJ J;simp only [ak,reduceIte]))))
  refine ⟨by rw [hfr];simp [z0,z0L,grL],hK1.set (by omega) _⟩
 have hc2:(chk g != 0)=false:=by simpa using hc
 (repeat' (refine e_go ?_;simp [hc2,hG1]))
 refine qE (sPlanar g hv he ho _) (by simp) ?_;rintro r s2 ⟨rfl,hk2⟩
 have hn2:=hk2.next
 have hG2:s2.H st.next=.box 35 2 (grL g):=(hk2.H _ (by omega)).trans hG1
 have hR2:s2.H (st.next+1)=.box 35 2 [.nil,.nil]:=(hk2.H _ (by omega)).trans hR1
 have hK2:Keeps st s2:=hK1.trans hk2
 clear hk2
 cases o with
 | some m=>
   have hnf:notP g=false:=hn
   have hfr:findR g=.tu [.ag (grL ⟨[],[]⟩),bb false]:=by unfold findR;rw [if_neg fun h=>by rw [hnf] at h;exact absurd h.2 (by simp),hnf];simp
   (repeat' (first | refine qS ?_ | (refine qR ?_;simp only [ak,reduceIte];simp [hc2,hR2]) | (refine qC ?_;simp [hc2,hR2]) | ((first | (refine w_e [] ?_;intro J hJ;simp only []) | (refine e_go ?_));simp [hc2,hR2];(refine hJ _ _ ?_;clear hJ J;simp only [ak,reduceIte]))))
   refine ⟨by rw [hfr];simp [z0,z0L,grL],hK2.set (by omega) _⟩
 | none=>
   have hnt:notP g=true:=hn
   have hfr:findR g=.tu [.ag (grL (bareF (leastF notP g g.es))),bb true]:=by unfold findR;rw [if_pos ⟨hc,hnt⟩,hnt,decide_eq_true hc];rfl
   (repeat' (first | refine qS ?_ | (refine qK ?_;simp only [ak,reduceIte]) | (refine qC ?_;simp [hc2,hG2]) | ((first | (refine w_e [] ?_;intro J hJ;simp only []) | (refine e_go ?_));simp [hc2,hG2];(try (refine hJ _ _ ?_;clear hJ J;simp only [ak,reduceIte])))))
   refine qE (sLeast g 70 [] notP DrwD _ hv (by omega) (by omega) (fun g' hg' s _=>Find_1 g' hg' s) ⟨hv,he,none,ho⟩ hA) (by simp) ?_;rintro r s3 ⟨rfl,hk3⟩
   rw [if_pos hnt]
   have hR3:s3.H (st.next+1)=.box 35 2 [.nil,.nil]:=(hk3.H _ (by omega)).trans hR2
   (repeat' (first | (refine qR ?_;simp only [ak,reduceIte];simp [hR3]) | (refine e_go ?_;simp [hR3];(refine hJ _ _ ?_;clear hJ J;simp only [ak,reduceIte]))))
   refine ⟨by rw [hfr];simp only [z0,z0L,grL,z0_us,z0_edsB],(hK2.trans hk3).set (by omega) _⟩
theorem asks_stay {P:Gr→Bool} {D:Gr→Prop} {L:Gr}:∀ {xs:List Ed},(∀ x∈xs,D (lessG L x)∧P (lessG L x)=false)→asksF P D L xs∧leastF P L xs=L
 | [],_=>⟨trivial,rfl⟩
 | x::xs,h=>by
   obtain ⟨h1,h2⟩:=h x (by simp)
   have ih:=asks_stay (L:=L) fun y hy=>h y (List.mem_cons_of_mem _ hy)
   simp only [asksF,leastF,h2,Bool.false_eq_true,if_false]
   exact ⟨⟨h1,ih.1⟩,ih.2⟩
def oneB (g:Gr):Bool:=decide (chk g=0)&&decide ((allB (sE g.es) g.vs.length g.vs ⟨[],[],[],[]⟩).map (·.out)=some [List.range (sE g.es).length])&&decide ((List.range (sE g.es).length).map (eAt (sE g.es))=g.es)&&decide (((embedF g [g.es]).map Option.isSome)=some true)
theorem oneB_emb {g:Gr} (h:oneB g=true):∃ m,emb1 g=some (some m):=by
 unfold oneB at h
 simp only [Bool.and_eq_true,decide_eq_true_eq] at h
 obtain ⟨⟨⟨h1,h2⟩,h3⟩,h4⟩:=h
 unfold emb1
 rw [if_pos h1,blks_eval (chk_goodE h1) h2 (List.Perm.refl _) (by simp)]
 simp only [List.map_cons,List.map_nil,h3]
 cases he:embedF g [g.es] with
 | none=>rw [he] at h4;cases h4
 | some o=>
   rw [he] at h4
   cases o with
   | none=>cases h4
   | some m=>exact ⟨m,rfl⟩
theorem five_oneB:(fiveP.es.all fun x=>oneB (lessG fiveP x))=true:=by decide +kernel
theorem five_notP:notP fiveP=true:=by
 unfold notP emb1;rw [fiveP_emb];rfl
theorem five_stay:asksF notP DrwD fiveP fiveP.es∧leastF notP fiveP fiveP.es=fiveP:=by
 refine asks_stay fun x hx=>?_
 obtain ⟨m,hm⟩:=oneB_emb (List.all_eq_true.1 five_oneB x hx)
 have hl:=List.length_filter_le (fun y:Ed=>decide (y≠x)) fiveP.es
 have hl2:fiveP.es.length=10:=rfl
 have hl3:(lessG fiveP x).vs.length=5:=rfl
 refine ⟨⟨by omega,by simp only [lessG];omega,_,hm⟩,?_⟩
 unfold notP;rw [hm];rfl
theorem five_bare:bareF fiveP=fiveP:=by decide
def oneP:Gr:=⟨[1],[]⟩
theorem oneP_chk:chk oneP=0:=by decide +kernel
theorem oneP_emb:emb1 oneP=some (some ⟨oneP,[[]]⟩):=by
 unfold emb1
 rw [if_pos oneP_chk,blks_eval (chk_goodE oneP_chk) (out:=[]) (by decide +kernel) (List.Perm.refl _) (by decide)]
 rfl
theorem one_notP:notP oneP=false:=by unfold notP;rw [oneP_emb];rfl
theorem Awake14 (st:St):ACalls Tryz.prog 35 [] st fun r st'=>r=bb true∧st'=st:=by
 refine qO tabOk Tryz.func35 rfl rfl Tryz.ntmps35 (rs:=[.tmp 0]) rfl (by simp) ?_
 (repeat' (first | refine qS ?_ | (refine w_e [] ?_;intro J hJ;simp only [];simp [];(try (refine hJ _ _ ?_;clear hJ J;simp only [ak,reduceIte])))))
 refine qE (awake14 _) (by simp []) ?_;rintro r st' ⟨rfl,rfl⟩
 (repeat' (first | (refine qR ?_;simp only [ak,reduceIte];simp []) | (refine e_go ?_;simp [];(refine hJ _ _ ?_;clear hJ J;simp only [ak,reduceIte]))))
set_option maxHeartbeats 1000000 in
theorem awake15 (st:St):ACalls Tryz.prog 10 [] st fun r st'=>r=bb true∧st'=st:=by
 refine qT (Q:=fun r=>r=bb true) ?_ fun r h=>by subst h;trivial
 refine qO tabOk Tryz.func10 rfl rfl Tryz.ntmps10 (rs:=[.tmp 0]) rfl (by simp) ?_
 refine awp_posG fun hpos=>?_
 (repeat' (first | refine qS ?_ | (refine w_e [] ?_;intro J hJ;simp only [];simp [];(try (refine hJ _ _ ?_;clear hJ J;simp only [ak,reduceIte])))))
 refine qE (sFive _) (by simp) ?_;rintro r s1 ⟨rfl,hk1⟩
 have hn1:=hk1.next
 have hF:=sFind fiveP ⟨by decide,by decide,none,by unfold emb1;exact fiveP_emb⟩ (fun _=>five_stay.1) s1 (by omega)
 unfold findR at hF
 rw [if_pos ⟨fiveP_chk,five_notP⟩,five_notP,five_stay.2,five_bare,decide_eq_true fiveP_chk] at hF
 (repeat' (refine e_go ?_;simp []))
 refine qE hF (by simp) ?_;rintro r s2 ⟨rfl,hk2⟩
 have hn2:=hk2.next
 have hF1:=fun st hp=>sFind oneP ⟨by decide,by decide,_,oneP_emb⟩ (fun h=>by rw [one_notP] at h;cases h) st hp
 unfold findR at hF1
 rw [if_neg fun h=>by rw [one_notP] at h;exact absurd h.2 (by simp),one_notP,Bool.and_false] at hF1
 (repeat' (first | refine qS ?_ | ((first | (refine w_e [] ?_;intro J hJ;simp only []) | (refine e_go ?_));simp [];(try (refine hJ _ _ ?_;clear hJ J;simp only [ak,reduceIte])))))
 refine callK_of0 (hF1 _ (by simp)) (by simp [z0,z0L,grL,oneP,us,eds]) ?_;rintro r s3 ⟨rfl,hk3⟩
 have hn3:=hk3.next
 simp only [new_next] at hn3
 have hB3:s3.H s2.next=.box 35 2 (grL fiveP):=by rw [hk3.H _ (by simp;omega)];simp [show ¬ s2.next=s2.next+1 by omega]
 have hK3:Keeps st s3:=((hk1.trans hk2).trans ((Keeps.new _ _).trans (Keeps.new _ _))).trans hk3
 have b1:¬ s2.next=s3.next:=by omega
 (repeat' (first | refine qS ?_ | (refine e_go ?_;simp [];(refine hJ _ _ ?_;clear hJ J;simp only [ak,reduceIte]))))
 (refine w_s [] [s2.next] [(0,true),(1,true),(2,true),(3,true),(4,false),(5,true),(6,true),(7,true),(8,true),(9,true),(10,true),(11,true),(12,true),(13,true)] ?_;intro J hJ;simp [hB3,b1])
 refine qD (sFive _) (by simp) ?_;rintro r s4 ⟨rfl,hk4⟩
 have hn4:=hk4.next
 simp only [new_next] at hn4
 have hB4:s4.H s2.next=.box 35 2 (grL fiveP):=by rw [hk4.H _ (by simp;omega)];simp [b1,hB3]
 refine ⟨fun _=>by simp [hB4,hB3,b1],?_⟩
 (refine d_go ?_;simp [hB4])
 refine qD (ref_SameG fiveP fiveP _ (by decide) (by decide)) (by simp) ?_;rintro r s5 ⟨rfl,hk5⟩
 have hB5:=(hk5.H s2.next (by omega)).trans hB4
 refine ⟨fun _=>by simp [hB5,hB3,b1],?_⟩
 (refine d_go ?_;simp [hB5])
 refine qD (Awake14 _) (by simp) ?_;rintro r s6 ⟨rfl,e6⟩
 rw [e6];clear e6 s6
 refine ⟨fun _=>by simp [hB5,hB3,b1],?_⟩
 (refine d_go ?_;simp [hB5];(refine hJ _ _ ?_;clear hJ J;simp only [ak,reduceIte]))
 (repeat' (refine qR ?_;simp only [ak,reduceIte];simp []))
 exact ((hK3.trans (Keeps.new _ _)).trans hk4).trans hk5
theorem EqualE2 (a b:List Ed) (t t':Nat) (st:St) (hl:a.length≤1048576):
 ACalls Tryz.prog 17 [.sl t a.length (eds a),.sl t' b.length (eds b)] st fun r st'=>r=bb (decide (a=b))∧st'=st:=by
 have hea:=eds_length a
 have heb:=eds_length b
 refine qO tabOk Tryz.func17 rfl rfl Tryz.ntmps17 (rs:=[.tmp 4]) rfl (by simp) ?_
 by_cases hab:a.length=b.length
 rotate_left
 ·have hne:¬ a=b:=fun h=>hab (by rw [h])
  have hab':((a.length:Int) != b.length)=true:=by simp;omega
  (repeat' (first | refine qS ?_ | (refine qR ?_;simp only [ak,reduceIte];simp [hab,hab',hne]) | (refine qC ?_;simp [hab,hab',hne]) | (refine w_e [] ?_;intro J hJ;simp only [];simp [hab,hab',hne];(refine hJ _ _ ?_;clear hJ J;simp only [ak,reduceIte]))))
 have hab':((a.length:Int) != b.length)=false:=by simp;omega
 (repeat' (first | refine qS ?_ | refine qB ?_ | (refine qK ?_;simp only [ak,reduceIte]) | (refine qC ?_;simp [hab,hab']) | (refine w_e [] ?_;intro J hJ;simp only [];simp [hab,hab'];(refine hJ _ _ ?_;clear hJ J;simp only [ak,reduceIte]))))
 refine awp_range 13 12 14 25 (b.length) (fun j fr st2=>fr 0=.sl t a.length (eds a)∧fr 1=.sl t' b.length (eds b)∧st2=st∧∀ k,k < j→a.getD k ed0=b.getD k ed0) ?_ ?_ ?_
 ·exact ⟨by simp [hab],by simp,rfl,fun k hk=>by omega⟩
 ·rintro j fr s hlt ⟨f0,f1,rfl,hno⟩ fi fn J hJ
  have hlb:j < b.length:=hlt
  have hlt:j < a.length:=by omega
  have hd:=eds_drop a j hlt
  have hd':=eds_drop b j hlb
  have hk3:j * 3 < a.length * 3:=by omega
  have hk4:j * 3 < b.length * 3:=by omega
  have hnx:a.getD j ed0=b.getD j ed0→∀ k,k < j+1→a.getD k ed0=b.getD k ed0:=fun h k hk=>by
   by_cases e:k=j
   ·subst e;exact h
   ·exact hno k (by omega)
  have hne:a.getD j ed0≠b.getD j ed0→¬ a=b:=fun h e=>h (by rw [e])
  generalize a.getD j ed0=x at *
  generalize b.getD j ed0=y at *
  obtain ⟨d,p,q⟩:=x
  obtain ⟨d',p',q'⟩:=y
  simp only at hd hd'
  by_cases he:d=d'∧p=p'∧q=q'
  ·obtain ⟨rfl,rfl,rfl⟩:=he
   have hn:=hnx rfl
   (repeat' (first | refine qS ?_ | (refine qK ?_;simp only [ak,reduceIte]) | (refine qC ?_;simp [f0,f1,fi,fn,hlt,hlb,hd,hd',hea,heb,hk3,hk4]) | ((first | (refine w_e [] ?_;intro J hJ;simp only []) | (refine w_q ?_;intro J hJ));simp [f0,f1,fi,fn,hlt,hlb,hd,hd',hea,heb,hk3,hk4];(refine hJ _ _ ?_;clear hJ J;simp only [ak,reduceIte]))))
   exact hJ _ _ (by simp [fi]) (by simp [fn]) ⟨by simp [f0],by simp [f1],rfl,hn⟩
  ·have hn:=hne fun e=>he (by simp at e;exact e)
   by_cases c1:d=d'
   ·subst c1
    by_cases c2:p=p'
    ·subst c2
     have c3:¬ q=q':=fun e=>he ⟨rfl,rfl,e⟩
     (repeat' (first | refine qS ?_ | (refine qR ?_;simp only [ak,reduceIte];simp [f0,f1,fi,fn,hlt,hlb,hd,hd',hea,heb,hk3,hk4,c3,hn]) | (refine qC ?_;simp [f0,f1,fi,fn,hlt,hlb,hd,hd',hea,heb,hk3,hk4,c3,hn]) | ((first | (refine w_e [] ?_;intro J hJ;simp only []) | (refine w_q ?_;intro J hJ));simp [f0,f1,fi,fn,hlt,hlb,hd,hd',hea,heb,hk3,hk4,c3,hn];(refine hJ _ _ ?_;clear hJ J;simp only [ak,reduceIte]))))
    ·(repeat' (first | refine qS ?_ | (refine qR ?_;simp only [ak,reduceIte];simp [f0,f1,fi,fn,hlt,hlb,hd,hd',hea,heb,hk3,hk4,c2,hn]) | (refine qC ?_;simp [f0,f1,fi,fn,hlt,hlb,hd,hd',hea,heb,hk3,hk4,c2,hn]) | ((first | (refine w_e [] ?_;intro J hJ;simp only []) | (refine w_q ?_;intro J hJ));simp [f0,f1,fi,fn,hlt,hlb,hd,hd',hea,heb,hk3,hk4,c2,hn];(refine hJ _ _ ?_;clear hJ J;simp only [ak,reduceIte]))))
   ·(repeat' (first | refine qS ?_ | (refine qR ?_;simp only [ak,reduceIte];simp [f0,f1,fi,fn,hlt,hlb,hd,hd',hea,heb,hk3,hk4,c1,hn]) | (refine qC ?_;simp [f0,f1,fi,fn,hlt,hlb,hd,hd',hea,heb,hk3,hk4,c1,hn]) | ((first | (refine w_e [] ?_;intro J hJ;simp only []) | (refine w_q ?_;intro J hJ));simp [f0,f1,fi,fn,hlt,hlb,hd,hd',hea,heb,hk3,hk4,c1,hn];(refine hJ _ _ ?_;clear hJ J;simp only [ak,reduceIte]))))
 ·rintro fr s ⟨f0,f1,rfl,hno⟩
  have he:a=b:=List.ext_getElem hab fun k h1 h2=>by
   have:=hno k (by omega)
   rwa [getE_lt _ _ h1,getE_lt _ _ h2] at this
  (repeat' (first | refine qS ?_ | (refine qR ?_;simp only [ak,reduceIte];simp [he]) | (refine w_e [] ?_;intro J hJ;simp only [];simp [he];(refine hJ _ _ ?_;clear hJ J;simp only [ak,reduceIte]))))
end Go.Proofs.YtiiejclelbilkaaGreatDoor.Aw
namespace Go.Proofs.YtiiejclelbilkaaGreatDoor.Aw
open Go Go.RowKit Go.Proofs.YtiiejclelbilkaaGreatDoor.Pl
set_option linter.unusedSimpArgs false
set_option linter.unusedVariables false
set_option maxHeartbeats 1000000 in
theorem count_c (g:Gr) (ids:List Int) (q t:Nat) (st:St) (he:g.es.length≤1000) (hi:small ids) (hq:st.H q=.box 25 1 [.sl t ids.length (us ids)]) (hqn:q < st.next):
 ACalls Tryz.prog 12 [.ag (grL g),.pt q 0] st fun r st'=>r=i (cntG ids g)∧Keeps st st':=by
 have hel:=eds_length g.es
 have e1:¬ q=st.next:=by omega
 refine qO tabOk Tryz.func12 rfl rfl Tryz.ntmps12 (rs:=[.tmp 3]) rfl (by simp) ?_
 (repeat' (first | refine qS ?_ | refine qB ?_ | (refine w_e [] ?_;intro J hJ;simp only [];simp [];(refine hJ _ _ ?_;clear hJ J;simp only [ak,reduceIte]))))
 refine awp_range 10 9 11 20 (g.es.length) (fun j fr st2=>fr 1=.pt q 0∧fr 8=.sl 0 g.es.length (eds g.es)∧fr 4=i ((g.es.take j).filter (pickP ids)).length∧Keeps st st2) ?_ ?_ ?_
 ·exact ⟨by simp,by simp,by simp,Keeps.new _ _⟩
 ·rintro j fr s hlt ⟨f1,f8,f4,hK⟩ fi fn J hJ
  have hd:=eds_drop g.es j hlt
  have hk3:j * 3 < g.es.length * 3:=by omega
  have htk:=filter_takeE g.es (pickP ids) j hlt
  have hln:=List.length_filter_le (pickP ids) (g.es.take j)
  rw [List.length_take] at hln
  have hqs:=(hK.H q hqn).trans hq
  have hsn:=hK.next
  have e2:¬ q=s.next:=by omega
  generalize g.es.getD j ed0=x at *
  generalize (g.es.take j).filter (pickP ids)=F at *
  obtain ⟨d,a,b⟩:=x
  have w1:IntKind.i64.wrap ((F.length:Int)+1)=(F.length:Int)+1:=wrap_i64 _ (by omega) (by omega)
  (repeat' (first | refine qS ?_ | (refine w_e [] ?_;intro J hJ;simp only [];simp [f1,f8,fi,fn,hd,hel,hlt,hk3,hqs,e2];(try (refine hJ _ _ ?_;clear hJ J;simp only [ak,reduceIte])))))
  refine qE (Contains ids t d _ hi) (by simp) ?_;rintro r s2 ⟨rfl,e3⟩
  rw [e3];clear e3 s2
  by_cases hp:d∈ids
  ·rw [if_pos (by simpa [pickP] using hp)] at htk
   (repeat' (first | (refine qC ?_;simp [hp,f4,w1]) | ((first | (refine w_e [] ?_;intro J hJ;simp only []) | (refine e_go ?_));simp [hp,f4,w1];(refine hJ _ _ ?_;clear hJ J;simp only [ak,reduceIte]))))
   exact hJ _ _ (by simp [fi]) (by simp [fn]) ⟨by simp [f1],by simp [f8],by rw [htk];simp,hK.trans (Keeps.new _ _)⟩
  ·rw [if_neg (by simpa [pickP] using hp)] at htk
   (repeat' (first | (refine qK ?_;simp only [ak,reduceIte]) | (refine qC ?_;simp [hp,f4]) | (refine e_go ?_;simp [hp,f4];(refine hJ _ _ ?_;clear hJ J;simp only [ak,reduceIte]))))
   exact hJ _ _ (by simp [fi]) (by simp [fn]) ⟨by simp [f1],by simp [f8],by rw [htk];simp [f4],hK.trans (Keeps.new _ _)⟩
 ·rintro fr s ⟨f1,f8,f4,hK⟩
  rw [List.take_length] at f4
  (repeat' (first | refine qS ?_ | (refine qR ?_;simp only [ak,reduceIte];simp [f4]) | (refine w_e [] ?_;intro J hJ;simp only [];simp [f4];(refine hJ _ _ ?_;clear hJ J;simp only [ak,reduceIte]))))
  exact ⟨rfl,hK⟩
theorem so_c (g:Gr) (ids:List Int) (most:Nat) (q q7 q8 t:Nat) (st:St) (he:g.es.length≤1000) (hi:small ids) (hq:st.H q=.box 25 1 [.sl t ids.length (us ids)]) (hqn:q < st.next)
 (h7:st.H q7=.box 36 1 [.fn (.func 12) [.pt q 0]]) (h7n:q7 < st.next) (h8:st.H q8=.box 3 1 [i most]) (h8n:q8 < st.next):
 ACalls Tryz.prog 15 [.ag (grL g),.pt q7 0,.pt q8 0] st fun r st'=>r=bb (mostP ids most g)∧Keeps st st':=by
 have e1:¬ q=st.next:=by omega
 have e7:¬ q7=st.next:=by omega
 have e8:¬ q8=st.next:=by omega
 have hmp:mostP ids most g=decide ((most:Int)≤(cntG ids g:Int)):=by unfold mostP;rw [decide_eq_decide];omega
 rw [hmp]
 refine qO tabOk Tryz.func15 rfl rfl Tryz.ntmps15 (rs:=[.tmp 4]) rfl (by simp) ?_
 (repeat' (first | refine qS ?_ | (refine w_e [] ?_;intro J hJ;simp only [];simp [];(refine hJ _ _ ?_;clear hJ J;simp only [ak,reduceIte]))))
 (refine w_s [] [q7,q8,st.next] [(0,true),(1,true),(3,true),(2,true),(4,true),(5,true)] ?_;intro J hJ;simp [e7,e8,h7,h8])
 refine qD (count_c g ids q t _ he hi (by simp [e1,hq]) (by simp;omega)) (by simp) ?_;rintro r s1 ⟨rfl,hk1⟩
 have h81:s1.H q8=.box 3 1 [i most]:=by rw [hk1.H _ (by simp;omega)];simp [e8,h8]
 have h71:=(hk1.H q7 (by simp;omega))
 have hG1:=(hk1.H st.next (by simp))
 refine ⟨fun _=>by simp [h81,h71,hG1,e7,e8,h7,h8],?_⟩
 (refine d_go ?_;simp [h81,h71,hG1];(refine hJ _ _ ?_;clear hJ J;simp only [ak,reduceIte]))
 (repeat' (refine qR ?_;simp only [ak,reduceIte];simp []))
 exact (Keeps.new _ _).trans hk1
theorem wrap_u8K (n:Int) (h1:0≤n) (h2:n < 256):IntKind.u8.wrap n=n:=by
 simp [IntKind.wrap,IntKind.signed,IntKind.bits];omega
theorem asks_len (P:Gr→Bool):∀ (xs:List Ed) (L:Gr),L.es.length≤1000→asksF P (fun g=>g.es.length≤1000) L xs
 | [],_,_=>trivial
 | x::xs,L,h=>by
   have h1:(lessG L x).es.length≤1000:=by have:=List.length_filter_le (fun y:Ed=>decide (y≠x)) L.es;simp only [lessG];omega
   refine ⟨h1,asks_len P xs _ ?_⟩
   split
   ·exact h1
   ·exact h
set_option maxHeartbeats 2000000 in
theorem KuraPicks (g:Gr) (ids:List Int) (n:Int) (st:St) (hid:ids.length≤maxLen) (h0:0≤n) (h1:n < 256):ACalls Tryz.prog 4 [.ag (grL g),.sl 0 ids.length (us ids),.atom (.int .u8 n)] st fun r st'=>r=bb true:=by
 refine qO tabOk Tryz.func4 rfl rfl Tryz.ntmps4 (rs:=[.tmp 6]) rfl (by simp) ?_
 refine awp_posG fun hpos=>?_
 (repeat' (first | refine qS ?_ | (refine w_e [] ?_;intro J hJ;simp only [];simp [];(try (refine hJ _ _ ?_;clear hJ J;simp only [ak,reduceIte])))))
 refine qE (awake15 _) (by simp) ?_;rintro r s1 ⟨rfl,e1⟩
 rw [e1];clear e1 s1
 (repeat' (first | refine qS ?_ | (refine qK ?_;simp only [ak,reduceIte]) | (refine qC ?_;simp []) | ((first | (refine w_e [] ?_;intro J hJ;simp only []) | (refine e_go ?_));simp [];(try (refine hJ _ _ ?_;clear hJ J;simp only [ak,reduceIte])))))
 refine qE (ref_CheckA g _) (by simp) ?_;rintro r s1 ⟨rfl,hk1⟩
 have hn1:=hk1.next
 simp only [new_next] at hn1
 have hG1:s1.H st.next=.box 35 2 (grL g):=by rw [hk1.H _ (by simp;omega)];simp
 have hI1:s1.H (st.next+1)=.box 25 1 [.sl 0 ids.length (us ids)]:=by rw [hk1.H _ (by simp)];simp
 clear hk1
 by_cases hc:chk g=0
 rotate_left
 ·have hc2:(chk g != 0)=true:=by simpa using hc
  (repeat' (first | refine qS ?_ | (refine qR ?_;simp only [ak,reduceIte];simp [hc2]) | (refine qC ?_;simp [hc2]) | ((first | (refine w_e [] ?_;intro J hJ;simp only []) | (refine e_go ?_));simp [hc2];(refine hJ _ _ ?_;clear hJ J;simp only [ak,reduceIte]))))
 have hc2:(chk g != 0)=false:=by simpa using hc
 by_cases he:(60:Int) < g.es.length
 ·(repeat' (first | refine qS ?_ | (refine qR ?_;simp only [ak,reduceIte];simp [hc2,he,hG1]) | (refine qC ?_;simp [hc2,he,hG1]) | ((first | (refine w_e [] ?_;intro J hJ;simp only []) | (refine e_go ?_));simp [hc2,he,hG1];(refine hJ _ _ ?_;clear hJ J;simp only [ak,reduceIte]))))
 by_cases hi:(60:Int) < ids.length
 ·(repeat' (first | refine qS ?_ | (refine qR ?_;simp only [ak,reduceIte];simp [hc2,he,hG1,hI1,hi]) | (refine qC ?_;simp [hc2,he,hG1,hI1,hi]) | ((first | (refine w_e [] ?_;intro J hJ;simp only []) | (refine e_go ?_));simp [hc2,he,hG1,hI1,hi];(refine hJ _ _ ?_;clear hJ J;simp only [ak,reduceIte]))))
 have hF:=chk_full hc
 have hvl:=hF.l1
 have hsi:small ids:=by unfold small;omega
 obtain ⟨most,hm⟩:∃ most:Nat,n.tmod 8=most:=⟨(n.tmod 8).toNat,by rw [Int.tmod_eq_emod_of_nonneg h0];omega⟩
 have hm8:most < 8:=by rw [Int.tmod_eq_emod_of_nonneg h0] at hm;omega
 have w1:IntKind.u8.wrap (most:Int)=most:=wrap_u8K _ (by omega) (by omega)
 have w2:IntKind.i64.wrap (most:Int)=most:=wrap_i64 _ (by omega) (by omega)
 have a1:¬ st.next=s1.next+1:=by omega
 have a2:¬ st.next=s1.next:=by omega
 have a3:¬ st.next+1=s1.next+1:=by omega
 have a4:¬ st.next+1=s1.next:=by omega
 (repeat' (first | refine qS ?_ | (refine qK ?_;simp only [ak,reduceIte]) | (refine qC ?_;simp [hc2,he,hG1,hI1,hi,hm,w1,w2,a1,a2]) | ((first | (refine w_e [] ?_;intro J hJ;simp only []) | (refine e_go ?_));simp [hc2,he,hG1,hI1,hi,hm,w1,w2,a1,a2];(try (refine hJ _ _ ?_;clear hJ J;simp only [ak,reduceIte])))))
 obtain ⟨q,hq⟩:∃ q,q=st.next+1:=⟨_,rfl⟩
 obtain ⟨q8,hq8⟩:∃ q,q=s1.next+1:=⟨_,rfl⟩
 simp only [← hq,← hq8]
 generalize hS:((s1.new (.box 36 1 [.fn (.func 12) [.pt q 0]])).new (.box 3 1 [i 0])).set q8 (.box 3 1 [i most])=S
 have hSn:S.next=s1.next+2:=by rw [← hS];simp
 have hSq:S.H q=.box 25 1 [.sl 0 ids.length (us ids)]:=by rw [← hS];simp [show ¬ q=q8 by omega,show ¬ q=s1.next+1 by omega,show ¬ q=s1.next by omega];rw [hq];exact hI1
 have hSG:S.H st.next=.box 35 2 (grL g):=by rw [← hS];simp [show ¬ st.next=q8 by omega,a1,a2];exact hG1
 have hS7:S.H s1.next=.box 36 1 [.fn (.func 12) [.pt q 0]]:=by rw [← hS];simp [show ¬ s1.next=q8 by omega]
 have hS8:S.H q8=.box 3 1 [i most]:=by rw [← hS];simp
 have hqS:q < S.next:=by omega
 have hq8S:q8 < S.next:=by omega
 have h7S:s1.next < S.next:=by omega
 clear hS hI1 hG1
 refine qE (sLeast g 15 [.pt s1.next 0,.pt q8 0] (mostP ids most) (fun g=>g.es.length≤1000) S (by omega) (by omega) (by omega) (fun g' hg' s hk=>so_c g' ids most q s1.next q8 0 s hg' hsi ((hk.H q hqS).trans hSq) (Nat.lt_of_lt_of_le hqS hk.next) ((hk.H _ h7S).trans hS7) (Nat.lt_of_lt_of_le h7S hk.next) ((hk.H _ hq8S).trans hS8) (Nat.lt_of_lt_of_le hq8S hk.next)) (by omega) (fun _=>asks_len _ _ _ (by omega))) (by simp [grL]) ?_;rintro r s2 ⟨rfl,hk2⟩
 have hn2:=hk2.next
 have hq2:=(hk2.H q hqS).trans hSq
 have hG2:=(hk2.H st.next (by omega)).trans hSG
 have h72:=(hk2.H _ h7S).trans hS7
 have h82:=(hk2.H _ hq8S).trans hS8
 clear hk2 hSq hSG hS7 hS8
 generalize hL:(if mostP ids most g=true then bareF (leastF (mostP ids most) g g.es) else ⟨[],[]⟩)=L
 have b1:¬ st.next=s2.next:=by omega
 have b2:¬ q=s2.next:=by omega
 have b3:¬ s1.next=s2.next:=by omega
 have b4:¬ q8=s2.next:=by omega
 (repeat' (first | refine qS ?_ | (refine e_go ?_;simp [];(refine hJ _ _ ?_;clear hJ J;simp only [ak,reduceIte]))))
 (refine w_s [] [st.next,s1.next,q8] [(0,true),(1,true),(3,true),(2,true),(4,true)] ?_;intro J hJ;simp [b1,b2,b3,b4,hG2,h72,h82])
 refine qD (count_c g ids q 0 _ (by omega) hsi (by simp [b2,hq2]) (by simp;omega)) (by simp [grL]) ?_;rintro r s3 ⟨rfl,hk3⟩
 have hn3:=hk3.next
 simp only [new_next] at hn3
 have hq3:s3.H q=.box 25 1 [.sl 0 ids.length (us ids)]:=by rw [hk3.H _ (by simp;omega)];simp [b2,hq2]
 have hG3:s3.H st.next=.box 35 2 (grL g):=by rw [hk3.H _ (by simp;omega)];simp [b1,hG2]
 have h83:s3.H q8=.box 3 1 [i most]:=by rw [hk3.H _ (by simp;omega)];simp [b4,h82]
 have h73:=hk3.H s1.next (by simp;omega)
 have hL3:s3.H s2.next=.box 35 2 (grL L):=by rw [hk3.H _ (by simp)];simp
 refine ⟨fun _=>by simp [hG3,h83,h73,b1,b3,b4,hG2,h72,h82],?_⟩
 (refine d_go ?_;simp [h83,hG3];(refine hJ _ _ ?_;clear hJ J;simp only [ak,reduceIte]))
 clear h73 hk3 h72 h82 hq2 hG2
 by_cases hcm:cntG ids g < most
 ·have hmf:mostP ids most g=false:=by unfold mostP;rw [decide_eq_false (by omega)]
  rw [hmf,if_neg (by simp)] at hL
  subst hL
  (repeat' (first | refine qS ?_ | (refine qC ?_;simp [hcm,hL3]) | (refine w_e [] ?_;intro J hJ;simp only [];simp [hcm,hL3])))
  refine callK_of0 (ref_SameG ⟨[],[]⟩ ⟨[],[]⟩ _ (by simp) (by simp)) (by simp [z0,z0L,grL,us,eds]) ?_;rintro r s4 ⟨rfl,hk4⟩
  (repeat' (first | (refine qR ?_;simp only [ak,reduceIte];simp []) | (refine e_go ?_;simp [];(refine hJ _ _ ?_;clear hJ J;simp only [ak,reduceIte]))))
 have hmt:mostP ids most g=true:=by unfold mostP;rw [decide_eq_true (by omega)]
 rw [hmt,if_pos rfl,least_picks hF ids most (by omega)] at hL
 have hLe:L.es=lastF ids most g.es.reverse []:=by rw [← hL,last_drop];rfl
 have hLc:chk L=0:=by rw [← hL];exact bare_chk hF ((List.drop_sublist _ _).trans List.filter_sublist)
 have hLa:alone L=0:=by rw [← hL];exact bare_alone _
 obtain ⟨hLv,hLl⟩:=chk_vs hLc
 clear hL
 have hel:=eds_length g.es
 have w3:IntKind.i64.wrap ((g.es.length:Int) - 1)=(g.es.length:Int) - 1:=wrap_i64 _ (by omega) (by omega)
 (repeat' (first | refine qS ?_ | refine qB ?_ | (refine qK ?_;simp only [ak,reduceIte]) | (refine qC ?_;simp [hcm,hG3,w3]) | (refine w_e [] ?_;intro J hJ;simp only [];simp [hcm,hG3,w3];(refine hJ _ _ ?_;clear hJ J;simp only [ak,reduceIte]))))
 refine qL (fun k fr s=>k≤g.es.length∧fr 3=.pt st.next 0∧fr 4=.pt q 0∧fr 8=.pt q8 0∧fr 9=.pt s2.next 0∧fr 11=i ((k:Int) - 1)∧Keeps s3 s∧∃ W:List Ed,lastF ids most (g.es.take k).reverse W=L.es∧W.length≤most∧((fr 10=.nil∧W=[])∨∃ t,fr 10=.sl t W.length (eds W))) g.es.length ?_ ?_
 ·exact ⟨Nat.le_refl _,by simp,by simp,by simp,by simp,by simp,Keeps.refl _,[],by rw [List.take_length];exact hLe.symm,by simp,.inl ⟨by simp,rfl⟩⟩
 rintro k fr s ⟨hk,f3,f4,f8,f9,f11,hK,W,hW,hWl,hX⟩ J hJ
 have hn4:=hK.next
 have hG4:=(hK.H st.next (by omega)).trans hG3
 have hq4:=(hK.H q (by omega)).trans hq3
 have h84:=(hK.H q8 (by omega)).trans h83
 have hL4:=(hK.H s2.next (by omega)).trans hL3
 cases k with
 | zero=>
   clear hJ
   have hWL:W=L.es:=by simpa [lastF] using hW
   have f11:fr 11=i (-1):=f11
   rcases hX with ⟨hX,hW0⟩ | ⟨t,hX⟩
   ·have hLn:L.es=[]:=hWL.symm.trans hW0
    (repeat' (first | refine qS ?_ | (refine qX ?_;simp only [ak,reduceIte]) | (refine qC ?_;simp [hcm,f8,f9,f11,hX,h84,hL4]) | (refine w_e [] ?_;intro J hJ;simp only [];simp [hcm,f8,f9,f11,hX,h84,hL4];(try (refine hJ _ _ ?_;clear hJ J;simp only [ak,reduceIte])))))
    refine qE (EqualE2 L.es [] 0 0 _ (by omega)) (by simp [grL,eds]) ?_;rintro r s5 ⟨rfl,e5⟩
    rw [e5];clear e5 s5
    (repeat' (refine e_go ?_;simp [hLn,f9,hL4]))
    refine qE (ref_CheckA L _) (by simp [grL]) ?_;rintro r s5 ⟨rfl,hk5⟩
    have hL5:=(hk5.H s2.next (by omega)).trans hL4
    (repeat' (refine e_go ?_;simp [hLc,f9,hL5]))
    refine qE (Alone L _ (by omega) (by omega)) (by simp [grL]) ?_;rintro r s6 ⟨rfl,hk6⟩
    (repeat' (first | (refine qR ?_;simp only [ak,reduceIte];simp [hLa]) | (refine e_go ?_;simp [hLa];(refine hJ _ _ ?_;clear hJ J;simp only [ak,reduceIte]))))
   ·subst hWL
    (repeat' (first | refine qS ?_ | (refine qX ?_;simp only [ak,reduceIte]) | (refine qC ?_;simp [hcm,f8,f9,f11,hX,h84,hL4]) | (refine w_e [] ?_;intro J hJ;simp only [];simp [hcm,f8,f9,f11,hX,h84,hL4];(try (refine hJ _ _ ?_;clear hJ J;simp only [ak,reduceIte])))))
    refine qE (EqualE2 L.es L.es 0 t _ (by omega)) (by simp [grL,eds]) ?_;rintro r s5 ⟨rfl,e5⟩
    rw [e5];clear e5 s5
    (repeat' (refine e_go ?_;simp [f9,hL4]))
    refine qE (ref_CheckA L _) (by simp [grL]) ?_;rintro r s5 ⟨rfl,hk5⟩
    have hL5:=(hk5.H s2.next (by omega)).trans hL4
    (repeat' (refine e_go ?_;simp [hLc,f9,hL5]))
    refine qE (Alone L _ (by omega) (by omega)) (by simp [grL]) ?_;rintro r s6 ⟨rfl,hk6⟩
    (repeat' (first | (refine qR ?_;simp only [ak,reduceIte];simp [hLa]) | (refine e_go ?_;simp [hLa];(refine hJ _ _ ?_;clear hJ J;simp only [ak,reduceIte]))))
 | succ k=>
 have hlt:k < g.es.length:=by omega
 have hk1:((k+1:Nat):Int) - 1=k:=by omega
 rw [hk1] at f11
 rw [List.take_succ_eq_append_getElem hlt,List.reverse_append,List.reverse_singleton,List.singleton_append] at hW
 unfold lastF at hW
 have hk0:(0:Int)≤k:=by omega
 by_cases hwm:W.length < most
 rotate_left
 ·rw [if_neg hwm] at hW
  clear hJ
  have hWL:W=L.es:=hW
  rcases hX with ⟨hX,hW0⟩ | ⟨t,hX⟩
  ·have hLn:L.es=[]:=hWL.symm.trans hW0
   have hm0:¬ 0 < most:=by rw [hW0] at hwm;exact hwm
   have hm0':¬ (0:Int) < most:=by omega
   (repeat' (first | refine qS ?_ | (refine qX ?_;simp only [ak,reduceIte]) | (refine qC ?_;simp [hm0,hm0',hk0,f8,f9,f11,hX,h84,hL4]) | (refine w_e [] ?_;intro J hJ;simp only [];simp [hm0,hm0',hk0,f8,f9,f11,hX,h84,hL4];(try (refine hJ _ _ ?_;clear hJ J;simp only [ak,reduceIte])))))
   refine qE (EqualE2 L.es [] 0 0 _ (by omega)) (by simp [grL,eds]) ?_;rintro r s5 ⟨rfl,e5⟩
   rw [e5];clear e5 s5
   (repeat' (refine e_go ?_;simp [hLn,f9,hL4]))
   refine qE (ref_CheckA L _) (by simp [grL]) ?_;rintro r s5 ⟨rfl,hk5⟩
   have hL5:=(hk5.H s2.next (by omega)).trans hL4
   (repeat' (refine e_go ?_;simp [hLc,f9,hL5]))
   refine qE (Alone L _ (by omega) (by omega)) (by simp [grL]) ?_;rintro r s6 ⟨rfl,hk6⟩
   (repeat' (first | (refine qR ?_;simp only [ak,reduceIte];simp [hLa]) | (refine e_go ?_;simp [hLa];(refine hJ _ _ ?_;clear hJ J;simp only [ak,reduceIte]))))
  ·subst hWL
   (repeat' (first | refine qS ?_ | (refine qX ?_;simp only [ak,reduceIte]) | (refine qC ?_;simp [hwm,hk0,f8,f9,f11,hX,h84,hL4]) | (refine w_e [] ?_;intro J hJ;simp only [];simp [hwm,hk0,f8,f9,f11,hX,h84,hL4];(try (refine hJ _ _ ?_;clear hJ J;simp only [ak,reduceIte])))))
   refine qE (EqualE2 L.es L.es 0 t _ (by omega)) (by simp [grL,eds]) ?_;rintro r s5 ⟨rfl,e5⟩
   rw [e5];clear e5 s5
   (repeat' (refine e_go ?_;simp [f9,hL4]))
   refine qE (ref_CheckA L _) (by simp [grL]) ?_;rintro r s5 ⟨rfl,hk5⟩
   have hL5:=(hk5.H s2.next (by omega)).trans hL4
   (repeat' (refine e_go ?_;simp [hLc,f9,hL5]))
   refine qE (Alone L _ (by omega) (by omega)) (by simp [grL]) ?_;rintro r s6 ⟨rfl,hk6⟩
   (repeat' (first | (refine qR ?_;simp only [ak,reduceIte];simp [hLa]) | (refine e_go ?_;simp [hLa];(refine hJ _ _ ?_;clear hJ J;simp only [ak,reduceIte]))))
 rw [if_pos hwm] at hW
 have hd:=eds_drop g.es k hlt
 have hk3:k * 3 < g.es.length * 3:=by omega
 have hge:g.es[k]=g.es.getD k ed0:=(getE_lt _ _ hlt).symm
 rw [hge] at hW
 generalize g.es.getD k ed0=x at *
 obtain ⟨d,a,b⟩:=x
 have w4:IntKind.i64.wrap ((k:Int) - 1)=(k:Int) - 1:=wrap_i64 _ (by omega) (by omega)
 have hXn:∃ X,fr 10=X∧((X=.nil∧W=[])∨∃ t,X=.sl t W.length (eds W)):=⟨_,rfl,hX⟩
 have hwm':(W.length:Int) < most:=by omega
 have hJ':∀ f s5,f 3=.pt st.next 0→f 4=.pt q 0→f 8=.pt q8 0→f 9=.pt s2.next 0→f 11=i ((k:Int) - 1)→Keeps s3 s5→∀ W':List Ed,(if pickP ids ⟨d,a,b⟩=true then ⟨d,a,b⟩::W else W)=W'→((f 10=.nil∧W'=[])∨∃ t,f 10=.sl t W'.length (eds W'))→J f s5:=fun f s5 g1 g2 g3 g4 g5 g6 W' g7 g8=>by
  rw [g7] at hW
  refine hJ k f s5 (by omega) ⟨by omega,g1,g2,g3,g4,g5,g6,W',hW,?_,g8⟩
  rw [← g7];split
  ·simp only [List.length_cons];omega
  ·omega
 clear hJ hW hge
 rcases hX with ⟨hX,hW0⟩ | ⟨t,hX⟩
 ·subst hW0
  have hm0:0 < most:=hwm
  have hm0':(0:Int) < most:=by omega
  (repeat' (first | refine qS ?_ | refine qB ?_ | (refine qK ?_;simp only [ak,reduceIte]) | (refine qC ?_;simp [f3,f4,f8,f11,hX,h84,hk0,hm0,hm0']) | (refine w_e [] ?_;intro J hJ;simp only [];simp [f3,f4,f8,f11,hX,h84,hk0,hm0,hm0'];(refine hJ _ _ ?_;clear hJ J;simp only [ak,reduceIte]))))
  (refine w_s [] [st.next,q] [(0,true),(1,true),(2,true),(3,true),(4,true),(5,true),(6,true),(7,true)] ?_;intro J hJ;simp [f3,f4,f11,hG4,hq4,hd,hlt,hel,hk3])
  refine qD (Contains ids 0 d _ hsi) (by simp) ?_;rintro r s5 ⟨rfl,e5⟩
  rw [e5];clear e5 s5
  refine ⟨fun _=>by simp,?_⟩
  (refine d_go ?_;simp [];(refine hJ _ _ ?_;clear hJ J;simp only [ak,reduceIte]))
  by_cases hp:d∈ids
  ·(repeat' (first | (refine qC ?_;simp [hp,f3,f11,hX,hG4,hd,hlt,hel,hk3,w4]) | (refine w_e [] ?_;intro J hJ;simp only [];simp [hp,f3,f11,hX,hG4,hd,hlt,hel,hk3,w4];(repeat refine ca ?_);(refine hJ _ _ ?_;clear hJ J;simp only [ak,reduceIte]))))
   exact hJ' _ _ (by simp [f3]) (by simp [f4]) (by simp [f8]) (by simp [f9]) (by simp) ((hK.trans (Keeps.new _ _)).trans (Keeps.new _ _)) [⟨d,a,b⟩] (by simp [pickP,hp]) (.inr ⟨s.next+1,by simp [eds,edL]⟩)
  ·(repeat' (first | (refine qK ?_;simp only [ak,reduceIte]) | (refine qC ?_;simp [hp,f11,w4]) | (refine w_e [] ?_;intro J hJ;simp only [];simp [hp,f11,w4];(refine hJ _ _ ?_;clear hJ J;simp only [ak,reduceIte]))))
   exact hJ' _ _ (by simp [f3]) (by simp [f4]) (by simp [f8]) (by simp [f9]) (by simp) hK [] (by simp [pickP,hp]) (.inl ⟨by simp [hX],rfl⟩)
 ·(repeat' (first | refine qS ?_ | refine qB ?_ | (refine qK ?_;simp only [ak,reduceIte]) | (refine qC ?_;simp [f3,f4,f8,f11,hX,h84,hk0,hwm,hwm']) | (refine w_e [] ?_;intro J hJ;simp only [];simp [f3,f4,f8,f11,hX,h84,hk0,hwm,hwm'];(refine hJ _ _ ?_;clear hJ J;simp only [ak,reduceIte]))))
  (refine w_s [] [st.next,q] [(0,true),(1,true),(2,true),(3,true),(4,true),(5,true),(6,true),(7,true)] ?_;intro J hJ;simp [f3,f4,f11,hG4,hq4,hd,hlt,hel,hk3])
  refine qD (Contains ids 0 d _ hsi) (by simp) ?_;rintro r s5 ⟨rfl,e5⟩
  rw [e5];clear e5 s5
  refine ⟨fun _=>by simp,?_⟩
  (refine d_go ?_;simp [];(refine hJ _ _ ?_;clear hJ J;simp only [ak,reduceIte]))
  by_cases hp:d∈ids
  ·(repeat' (first | (refine qC ?_;simp [hp,f3,f11,hX,hG4,hd,hlt,hel,hk3,w4]) | (refine w_e [] ?_;intro J hJ;simp only [];simp [hp,f3,f11,hX,hG4,hd,hlt,hel,hk3,w4])))
   refine ⟨⟨by omega,sum3 W,by omega,by unfold maxLen;omega⟩,hJ _ _ ?_⟩
   simp only [ak,reduceIte]
   (repeat' (refine w_e [] ?_;intro J hJ;simp only [];simp [f11,w4];(refine hJ _ _ ?_;clear hJ J;simp only [ak,reduceIte])))
   refine hJ' _ _ ?_ ?_ ?_ ?_ ?_ ?_ (⟨d,a,b⟩::W) ?_ ?_
   ·simp [f3]
   ·simp [f4]
   ·simp [f8]
   ·simp [f9]
   ·simp
   ·exact (hK.trans (Keeps.new _ _)).trans (Keeps.new _ _)
   ·simp [pickP,hp]
   ·exact .inr ⟨s.next+1,by simp [eds,edL,Nat.add_comm]⟩
  ·(repeat' (first | (refine qK ?_;simp only [ak,reduceIte]) | (refine qC ?_;simp [hp,f11,w4]) | (refine w_e [] ?_;intro J hJ;simp only [];simp [hp,f11,w4];(refine hJ _ _ ?_;clear hJ J;simp only [ak,reduceIte]))))
   exact hJ' _ _ (by simp [f3]) (by simp [f4]) (by simp [f8]) (by simp [f9]) (by simp) hK W (by simp [pickP,hp]) (.inr ⟨t,by simp [hX]⟩)
theorem KuraPicks_shp (l0 l1 l2:List LV) (st:St) (h0:Shp tab 35 l0) (h1:Shp tab 25 l1) (h2:Shp tab 5 l2):ACalls Tryz.prog 4 [argT tab 35 l0,argT tab 25 l1,argT tab 5 l2] st fun r st'=>r=bb true:=by
 obtain ⟨g,rfl,_⟩:=shp_gr h0
 obtain ⟨l,rfl,hl,_⟩:=shp_us h1
 obtain ⟨n,rfl,hw⟩:=shp_int (k:=.u8) rfl rfl h2
 simp [Lit.wf,show IntKind.u8.min=0 from rfl,show IntKind.u8.max=255 from rfl] at hw
 exact KuraPicks g l n st hl hw.1 (by omega)
end Go.Proofs.YtiiejclelbilkaaGreatDoor.Aw
