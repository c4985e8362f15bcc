/- Maps as values. -/
import Derived.Test.YtiiejclelbilkaaGreatDoorJb
import Derived.Test.YtiiejclelbilkaaGreatDoorAwShp
namespace Go.Proofs.YtiiejclelbilkaaGreatDoor.Aw
open Go Go.RowKit
set_option linter.unusedSimpArgs false
set_option linter.unusedVariables false
structure Mp where
 g:Gr
 rots:List (List Int)
 deriving DecidableEq
abbrev rowsL (rs:List (List Int)):List LV:=rs.map fun r=>.sl 0 r.length (us r)
abbrev mpL (m:Mp):List LV:=grL m.g++[.sl 0 m.rots.length (rowsL m.rots)]
theorem rowsL_drop (rs:List (List Int)) (k:Nat) (hk:k < rs.length):(rowsL rs).drop k=.sl 0 (rs.getD k []).length (us (rs.getD k []))::(rowsL rs).drop (k+1):=by
 unfold rowsL
 rw [List.drop_eq_getElem_cons (by simpa using hk)]
 simp [hk]
theorem mget_mset (es:List (List Int×LV)) (a x:List Int) (v:LV):mget (mset es a v) x=if x=a then some v else mget es x:=by
 induction es with
 | nil=>
   simp only [mset,mget,beq_iff_eq]
 | cons p es ih=>
   by_cases h:a=p.1
   ·have:mset (p::es) a v=(a,v)::es:=by simp [mset,h]
    rw [this]
    simp only [mget,beq_iff_eq]
    by_cases hx:x=a
    ·simp [hx]
    ·have:¬ x=p.1:=by rw [← h];exact hx
     simp [hx,this]
   ·have:mset (p::es) a v=p::mset es a v:=by simp [mset,h]
    rw [this]
    simp only [mget,beq_iff_eq]
    by_cases hx:x=p.1
    ·have:¬ x=a:=fun h'=>h (by rw [← h',hx])
     rw [if_pos hx,if_neg this,if_pos hx]
    ·simp [hx,ih]
end Go.Proofs.YtiiejclelbilkaaGreatDoor.Aw
namespace Go.Proofs.YtiiejclelbilkaaGreatDoor.Aw
open Go Go.RowKit Go.Proofs.YtiiejclelbilkaaGreatDoor.Pl
set_option linter.unusedSimpArgs false
set_option linter.unusedVariables false
@[simp] theorem new_set (st:St) (a b:LObj):(st.new a).set st.next b=st.new b:=St.ext' rfl fun y=>by by_cases hy:y=st.next<;>simp [hy]
theorem eds_length (l:List Ed):(eds l).length=l.length * 3:=by
 induction l with
 | nil=>rfl
 | cons e l ih=>simp only [eds,List.flatMap_cons,List.length_append,List.length_cons,List.length_nil] at ih ⊢;omega
abbrev ed0:Ed:=⟨0,0,0⟩
theorem eds_drop (l:List Ed) (k:Nat) (hk:k < l.length):(eds l).drop (k * 3)=u (l.getD k ed0).id::u (l.getD k ed0).a::u (l.getD k ed0).b::eds (l.drop (k+1)):=by
 induction l generalizing k with
 | nil=>simp at hk
 | cons e l ih=>
   cases k with
   | zero=>rfl
   | succ k=>
     have:(k+1) * 3=k * 3+1+1+1:=by omega
     rw [this]
     simp only [eds,List.flatMap_cons,edL,List.cons_append,List.drop_succ_cons,List.nil_append,List.getD_cons_succ]
     exact ih k (by simpa using hk)
def firstNZ (f:Nat→Int):Nat→Int
 | 0=>0
 | n+1=>if firstNZ f n≠0 then firstNZ f n else f n
theorem firstNZ_zero {f:Nat→Int} {n:Nat} (h:∀ j,j < n→f j=0):firstNZ f n=0:=by
 induction n with
 | zero=>rfl
 | succ n ih=>simp [firstNZ,ih (fun j hj=>h j (by omega)),h n (by omega)]
theorem firstNZ_eq {f:Nat→Int} {n k:Nat} {v:Int} (hk:k < n) (h:∀ j,j < k→f j=0) (hv:f k=v) (h0:v≠0):firstNZ f n=v:=by
 induction n with
 | zero=>omega
 | succ n ih=>
   rcases Nat.lt_or_ge k n with h1 | h1
   ·have:=ih h1
    simp [firstNZ,this,h0]
   ·have:k=n:=by omega
    subst this
    simp [firstNZ,firstNZ_zero h,hv]
def numb (n ahead:Int) (first:Bool):Int:=if n < 1∨1048576 < n then 2 else if first=false∧n≤ahead then 19 else 0
def badV (g:Gr) (k:Nat):Int:=numb (g.vs.getD k 0) (g.vs.getD (k - 1) 0) (decide (k=0))
def badE (g:Gr) (k:Nat):Int:=
 let x:=g.es.getD k ed0
 let n:=numb x.id (g.es.getD (k - 1) ed0).id (decide (k=0))
 if n≠0 then n else if x.a=x.b then 20 else if x.a∉g.vs∨x.b∉g.vs then 21 else 0
def chk (g:Gr):Int:=if 64 < g.vs.length∨160 < g.es.length then 6 else if firstNZ (badV g) g.vs.length≠0 then firstNZ (badV g) g.vs.length else firstNZ (badE g) g.es.length
theorem Has (g:Gr) (v:Int) (st:St) (hl:small g.vs):
 ACalls Tryz.prog 36 [.ag (grL g),u v] st fun r st'=>r=bb (decide (v∈g.vs))∧Keeps st st':=by
 obtain ⟨l,es⟩:=g
 simp only at hl ⊢
 unfold small at hl
 refine qO tabOk Tryz.func36 rfl rfl Tryz.ntmps36 (rs:=[.tmp 4]) rfl (by simp) ?_
 (repeat' (first | refine qS ?_ | refine qB ?_ | (refine w_e [] ?_;intro J hJ;simp only [];simp [];(refine hJ _ _ ?_;clear hJ J;simp only [ak,reduceIte]))))
 refine qL (fun n fr st'=>∃ k:Nat,k≤l.length∧n=l.length - k∧fr 8=.sl 0 l.length (us l)∧fr 1=u v∧fr 9=i l.length∧fr 10=i k∧Keeps st st'∧∀ j (hj:j < l.length),j < k→l[j]≠v) l.length ?_ ?_
 ·exact ⟨0,by omega,by omega,by simp,by simp,by simp,by simp,Keeps.new _ _,fun j _ h=>by omega⟩
 rintro n fr st' ⟨k,hk,rfl,h8,h1,h9,h10,hkp,hno⟩ JJ hJJ
 by_cases hlt:k < l.length
 ·have hd:=us_drop_head l k hlt
  have hw:=qN k (by omega)
  (repeat' (first | refine qS ?_ | refine qB ?_ | (refine qK ?_;simp only [ak,reduceIte]) | (refine qR ?_;simp only [ak,reduceIte];simp [h8,h1,h9,h10,hlt,hd,hw]) | (refine qC ?_;simp [h8,h1,h9,h10,hlt,hd,hw];(try with_reducible refine ⟨?_,?_⟩)<;>(try with_reducible intro hc)) | (refine w_e [] ?_;intro J hJ;simp only [];simp [h8,h1,h9,h10,hlt,hd,hw];(refine hJ _ _ ?_;clear hJ J;simp only [ak,reduceIte]))))
  ·exact ⟨by rw [← hc];exact List.getElem_mem hlt,hkp⟩
  ·refine hJJ _ _ _ ?_ ⟨k+1,by omega,rfl,by simp [h8],by simp [h1],by simp [h9],by simp,hkp,fun j hj hjk=>?_⟩
   ·omega
   ·rcases Nat.lt_or_ge j k with h | h
    ·exact hno j hj h
    ·obtain rfl:j=k:=by omega
     exact hc
 ·(repeat' (first | refine qS ?_ | (refine qX ?_;simp only [ak,reduceIte]) | (refine qR ?_;simp only [ak,reduceIte];simp [h8,h1,h9,h10,hlt]) | (refine qC ?_;simp [h8,h1,h9,h10,hlt]) | (refine w_e [] ?_;intro J hJ;simp only [];simp [h8,h1,h9,h10,hlt];(refine hJ _ _ ?_;clear hJ J;simp only [ak,reduceIte]))))
  refine ⟨fun hm=>?_,hkp⟩
  obtain ⟨j,hj,rfl⟩:=List.getElem_of_mem hm
  exact hno j hj (by omega) rfl
theorem Vert (g:Gr) (v:Int) (st:St) (hl:small g.vs):
 ACalls Tryz.prog 76 [.ag (grL g),u v] st fun r st'=>r=i (gi g.vs v)∧Keeps st st':=by
 obtain ⟨l,es⟩:=g
 simp only at hl ⊢
 refine qO tabOk Tryz.func76 rfl rfl Tryz.ntmps76 (rs:=[.tmp 4]) rfl (by simp) ?_
 (repeat' (first | refine qS ?_ | (refine w_e [] ?_;intro J hJ;simp only [];simp [];(try (refine hJ _ _ ?_;clear hJ J;simp only [ak,reduceIte])))))
 refine qE (Index l 0 v _ hl) (by simp []) ?_;rintro r st' ⟨rfl,rfl⟩
 (repeat' (first | (refine qR ?_;simp only [ak,reduceIte];simp []) | (refine e_go ?_;simp [];(refine hJ _ _ ?_;clear hJ J;simp only [ak,reduceIte]))))
 exact Keeps.new _ _
theorem number (n ahead:Int) (first:Bool) (st:St):
 ACalls Tryz.prog 75 [u n,u ahead,bb first] st fun r st'=>r=i (numb n ahead first)∧st'=st:=by
 unfold numb
 refine qO tabOk Tryz.func75 rfl rfl Tryz.ntmps75 (rs:=[.tmp 6]) rfl (by simp) ?_
 by_cases h1:n < 1
 ·(repeat' (first | refine qS ?_ | refine qB ?_ | (refine qR ?_;simp only [ak,reduceIte];simp [h1]) | (refine qC ?_;simp [h1]) | (refine w_e [] ?_;intro J hJ;simp only [];simp [h1];(refine hJ _ _ ?_;clear hJ J;simp only [ak,reduceIte]))))
 by_cases h2:1048576 < n
 ·(repeat' (first | refine qS ?_ | refine qB ?_ | (refine qR ?_;simp only [ak,reduceIte];simp [h1,h2]) | (refine qC ?_;simp [h1,h2]) | (refine w_e [] ?_;intro J hJ;simp only [];simp [h1,h2];(refine hJ _ _ ?_;clear hJ J;simp only [ak,reduceIte]))))
 cases first
 ·by_cases h3:n≤ahead
  ·(repeat' (first | refine qS ?_ | refine qB ?_ | (refine qR ?_;simp only [ak,reduceIte];simp [h1,h2,h3]) | (refine qC ?_;simp [h1,h2,h3]) | (refine w_e [] ?_;intro J hJ;simp only [];simp [h1,h2,h3];(refine hJ _ _ ?_;clear hJ J;simp only [ak,reduceIte]))))
  ·(repeat' (first | refine qS ?_ | refine qB ?_ | (refine qK ?_;simp only [ak,reduceIte]) | (refine qR ?_;simp only [ak,reduceIte];simp [h1,h2,h3]) | (refine qC ?_;simp [h1,h2,h3]) | (refine w_e [] ?_;intro J hJ;simp only [];simp [h1,h2,h3];(refine hJ _ _ ?_;clear hJ J;simp only [ak,reduceIte]))))
 ·(repeat' (first | refine qS ?_ | refine qB ?_ | (refine qK ?_;simp only [ak,reduceIte]) | (refine qR ?_;simp only [ak,reduceIte];simp [h1,h2]) | (refine qC ?_;simp [h1,h2]) | (refine w_e [] ?_;intro J hJ;simp only [];simp [h1,h2];(refine hJ _ _ ?_;clear hJ J;simp only [ak,reduceIte]))))
theorem Check (g:Gr) (st:St) (hv:g.vs.length≤1000) (he:g.es.length≤1000):
 ACalls Tryz.prog 46 [.ag (grL g)] st fun r st'=>r=i (chk g)∧Keeps st st':=by
 have hsm:small g.vs:=by unfold small;omega
 refine qO tabOk Tryz.func46 rfl rfl Tryz.ntmps46 (rs:=[.tmp 2]) rfl (by simp) ?_
 by_cases h1:(64:Int) < (g.vs.length:Int)
 ·have:chk g=6:=by unfold chk;rw [if_pos (by omega)]
  (repeat' (first | refine qS ?_ | (refine qR ?_;simp only [ak,reduceIte];simp [h1,this]) | (refine qC ?_;simp [h1,this]) | (refine w_e [] ?_;intro J hJ;simp only [];simp [h1,this];(refine hJ _ _ ?_;clear hJ J;simp only [ak,reduceIte]))))
  exact Keeps.new _ _
 by_cases h2:(160:Int) < (g.es.length:Int)
 ·have:chk g=6:=by unfold chk;rw [if_pos (by omega)]
  (repeat' (first | refine qS ?_ | (refine qR ?_;simp only [ak,reduceIte];simp [h1,h2,this]) | (refine qC ?_;simp [h1,h2,this]) | (refine w_e [] ?_;intro J hJ;simp only [];simp [h1,h2,this];(refine hJ _ _ ?_;clear hJ J;simp only [ak,reduceIte]))))
  exact Keeps.new _ _
 have hch:chk g=if firstNZ (badV g) g.vs.length≠0 then firstNZ (badV g) g.vs.length else firstNZ (badE g) g.es.length:=by unfold chk;rw [if_neg (by omega)]
 (repeat' (first | refine qS ?_ | refine qB ?_ | (refine qK ?_;simp only [ak,reduceIte]) | (refine qC ?_;simp [h1,h2]) | (refine w_e [] ?_;intro J hJ;simp only [];simp [h1,h2];(refine hJ _ _ ?_;clear hJ J;simp only [ak,reduceIte]))))
 refine qL (fun n fr st'=>∃ k:Nat,k≤g.vs.length∧n=g.vs.length - k∧fr 1=.pt st.next 0∧fr 21=.sl 0 g.vs.length (us g.vs)∧fr 22=i g.vs.length∧fr 23=i k∧fr 3=u (if k=0 then 0 else g.vs.getD (k - 1) 0)∧st'=st.new (.box 35 2 (grL g))∧∀ j,j < k→badV g j=0) g.vs.length ?_ ?_
 ·exact ⟨0,by omega,by omega,by simp,by simp,by simp,by simp,by simp,rfl,fun j h=>by omega⟩
 rintro n fr st' ⟨k,hk,rfl,f1,f21,f22,f23,f3,rfl,hno⟩ JJ hJJ
 by_cases hlt:k < g.vs.length
 ·have hd:=qG g.vs k hlt
  have hw:=qN k (by omega)
  have hbad:badV g k=numb (g.vs.getD k 0) (if k=0 then 0 else g.vs.getD (k - 1) 0) (decide (k=0)):=by
   unfold badV
   by_cases h0:k=0
   ·subst h0;simp [numb]
   ·simp [h0]
  generalize hy:(if k=0 then (0:Int) else g.vs.getD (k - 1) 0)=y at *
  generalize hx:g.vs.getD k 0=x at *
  have hk0:((k:Int)==0)=decide (k=0):=by by_cases h0:k=0<;>simp [h0]
  (repeat' (first | refine qS ?_ | refine qB ?_ | (refine qK ?_;simp only [ak,reduceIte]) | (refine qC ?_;simp [f1,f21,f22,f23,f3,hlt,hd,hw,hk0]) | (refine w_e [] ?_;intro J hJ;simp only [];simp [f1,f21,f22,f23,f3,hlt,hd,hw,hk0];(try (refine hJ _ _ ?_;clear hJ J;simp only [ak,reduceIte])))))
  refine qE (number x y (decide (k=0)) _) (by simp []) ?_;rintro r st' ⟨rfl,rfl⟩
  rw [← hbad]
  by_cases hb:badV g k=0
  ·(repeat' (first | refine qS ?_ | (refine qK ?_;simp only [ak,reduceIte]) | (refine qC ?_;simp [f23,hw,hb]) | ((first | (refine w_e [] ?_;intro J hJ;simp only []) | (refine e_go ?_));simp [f23,hw,hb];(refine hJ _ _ ?_;clear hJ J;simp only [ak,reduceIte]))))
   refine hJJ _ _ _ ?_ ⟨k+1,by omega,rfl,by simp [f1],by simp [f21],by simp [f22],by simp,by rw [if_neg (by omega),Nat.add_sub_cancel,hx];simp,rfl,fun j hj=>?_⟩
   ·omega
   ·rcases Nat.lt_or_ge j k with h | h
    ·exact hno j h
    ·obtain rfl:j=k:=by omega
     exact hb
  ·have hf:=firstNZ_eq hlt hno rfl hb
   have hr:chk g=badV g k:=by rw [hch,hf,if_pos hb]
   (repeat' (first | refine qS ?_ | (refine qR ?_;simp only [ak,reduceIte];simp [hb]) | (refine qC ?_;simp [hb]) | ((first | (refine w_e [] ?_;intro J hJ;simp only []) | (refine e_go ?_));simp [hb];(refine hJ _ _ ?_;clear hJ J;simp only [ak,reduceIte]))))
   exact ⟨hr.symm,Keeps.new _ _⟩
 have hk':k=g.vs.length:=by omega
 have hz:firstNZ (badV g) g.vs.length=0:=firstNZ_zero (fun j hj=>hno j (by omega))
 rw [hz] at hch
 simp only [ne_eq,not_true_eq_false,if_false] at hch
 clear hJJ hno hz
 have hel:=eds_length g.es
 generalize hy:(if k=0 then (0:Int) else g.vs.getD (k - 1) 0)=y at *
 (repeat' (first | refine qS ?_ | refine qB ?_ | (refine qX ?_;simp only [ak,reduceIte]) | (refine qC ?_;simp [f1,f21,f22,f23,f3,hlt]) | (refine w_e [] ?_;intro J hJ;simp only [];simp [f1,f21,f22,f23,f3,hlt];(refine hJ _ _ ?_;clear hJ J;simp only [ak,reduceIte]))))
 refine qL (fun n fr st'=>∃ k:Nat,k≤g.es.length∧n=g.es.length - k∧fr 1=.pt st.next 0∧fr 39=.sl 0 g.es.length (eds g.es)∧fr 40=i g.es.length∧fr 41=i k∧(∃ z,fr 3=u z∧(k≠0→z=(g.es.getD (k - 1) ed0).id))∧Keeps (st.new (.box 35 2 (grL g))) st'∧∀ j,j < k→badE g j=0) g.es.length ?_ ?_
 ·exact ⟨0,by omega,by omega,by simp [f1],by simp,by simp,by simp,⟨y,by simp [f3],by simp⟩,Keeps.refl _,fun j h=>by omega⟩
 clear f1 f21 f22 f23 f3 hlt hk' hk hy y fr k
 rintro n fr st1 ⟨k,hk,rfl,f1,f39,f40,f41,⟨z,f3,hz⟩,hkp,hno⟩ JJ hJJ
 have hgH:st1.H st.next=.box 35 2 (grL g):=by rw [hkp.H _ (by simp)];simp
 have hnx:¬ st.next=st1.next:=by have:=hkp.next;simp only [new_next] at this;omega
 have hkp0:=(Keeps.new st (.box 35 2 (grL g))).trans hkp
 by_cases hlt:k < g.es.length
 ·have hd:=eds_drop g.es k hlt
  have hw:=qN k (by omega)
  have hk3:k * 3 < g.es.length * 3:=by omega
  have hk30:k * 3+3≤g.es.length * 3:=by omega
  have hbad:badE g k=(let x:=g.es.getD k ed0;let n:=numb x.id z (decide (k=0));if n≠0 then n else if x.a=x.b then 20 else if x.a∉g.vs∨x.b∉g.vs then 21 else 0):=by
   unfold badE
   by_cases h0:k=0
   ·subst h0;simp [numb]
   ·rw [hz h0]
  generalize hx:g.es.getD k ed0=x at *
  obtain ⟨xi,xa,xb⟩:=x
  simp only at hd hbad
  have hk0:((k:Int)==0)=decide (k=0):=by by_cases h0:k=0<;>simp [h0]
  (repeat' (first | refine qS ?_ | refine qB ?_ | (refine qK ?_;simp only [ak,reduceIte]) | (refine qC ?_;simp [f1,f39,f40,f41,f3,hlt,hd,hw,hk0,hel,hk3,hgH,hnx]) | (refine w_e [] ?_;intro J hJ;simp only [];simp [f1,f39,f40,f41,f3,hlt,hd,hw,hk0,hel,hk3,hgH,hnx];(try (refine hJ _ _ ?_;clear hJ J;simp only [ak,reduceIte])))))
  refine qE (number xi z (decide (k=0)) _) (by simp []) ?_;rintro r st' ⟨rfl,rfl⟩
  by_cases hb:numb xi z (decide (k=0))=0
  rotate_left
  ·have hb':badE g k=numb xi z (decide (k=0)):=by rw [hbad,if_pos hb]
   have hr:chk g=numb xi z (decide (k=0)):=by rw [hch];exact firstNZ_eq hlt hno hb' hb
   (repeat' (first | refine qS ?_ | (refine qR ?_;simp only [ak,reduceIte];simp [hb]) | (refine qC ?_;simp [hb]) | ((first | (refine w_e [] ?_;intro J hJ;simp only []) | (refine e_go ?_));simp [hb];(refine hJ _ _ ?_;clear hJ J;simp only [ak,reduceIte]))))
   exact ⟨hr.symm,hkp0.trans (Keeps.new _ _)⟩
  rw [if_neg (by simp [hb])] at hbad
  by_cases hab:xa=xb
  ·have hb':badE g k=20:=by rw [hbad,if_pos hab]
   have hr:chk g=20:=by rw [hch];exact firstNZ_eq hlt hno hb' (by decide)
   (repeat' (first | refine qS ?_ | (refine qK ?_;simp only [ak,reduceIte]) | (refine qR ?_;simp only [ak,reduceIte];simp [hb,hab,hr]) | (refine qC ?_;simp [hb,hab,hr]) | ((first | (refine w_e [] ?_;intro J hJ;simp only []) | (refine e_go ?_));simp [hb,hab,hr];(refine hJ _ _ ?_;clear hJ J;simp only [ak,reduceIte]))))
   exact hkp0.trans (Keeps.new _ _)
  rw [if_neg hab] at hbad
  (repeat' (first | refine qS ?_ | (refine qK ?_;simp only [ak,reduceIte]) | (refine qC ?_;simp [hb,hab,f1,hnx,hgH]) | ((first | (refine w_e [] ?_;intro J hJ;simp only []) | (refine e_go ?_));simp [hb,hab,f1,hnx,hgH];(try (refine hJ _ _ ?_;clear hJ J;simp only [ak,reduceIte])))))
  refine qE (Vert g xa _ hsm) (by simp []) ?_;rintro r st' ⟨rfl,hk1⟩
  have hB1:st'.H st1.next=.box 38 3 [u xi,u xa,u xb]:=by rw [hk1.H _ (by simp)];simp
  have hgH1:st'.H st.next=.box 35 2 (grL g):=by
   rw [hk1.H _ (by have:=hkp.next;simp only [new_next] at this ⊢;omega),new_H,if_neg hnx];exact hgH
  have hkp1:=(hkp.trans (Keeps.new _ _)).trans hk1
  have hkp01:=(hkp0.trans (Keeps.new _ _)).trans hk1
  by_cases hma:xa∈g.vs
  rotate_left
  ·rw [gi_not hma]
   have hb':badE g k=21:=by rw [hbad,if_pos (.inl hma)]
   have hr:chk g=21:=by rw [hch];exact firstNZ_eq hlt hno hb' (by decide)
   (repeat' (first | refine qS ?_ | (refine qR ?_;simp only [ak,reduceIte];simp [f1,hB1,hgH1,hr]) | (refine qC ?_;simp [f1,hB1,hgH1,hr]) | ((first | (refine w_e [] ?_;intro J hJ;simp only []) | (refine e_go ?_));simp [f1,hB1,hgH1,hr];(refine hJ _ _ ?_;clear hJ J;simp only [ak,reduceIte]))))
   exact hkp01
  rw [gi_mem hma]
  have hn0:¬ ((g.vs.idxOf xa:Nat):Int) < 0:=by omega
  (refine e_go ?_;simp [f1,hB1,hgH1,hn0])
  refine qE (Vert g xb _ hsm) (by simp []) ?_;rintro r st' ⟨rfl,hk2⟩
  by_cases hmb:xb∈g.vs
  rotate_left
  ·rw [gi_not hmb]
   have hb':badE g k=21:=by rw [hbad,if_pos (.inr hmb)]
   have hr:chk g=21:=by rw [hch];exact firstNZ_eq hlt hno hb' (by decide)
   (repeat' (first | refine qS ?_ | (refine qR ?_;simp only [ak,reduceIte];simp [hr]) | (refine qC ?_;simp [hr]) | ((first | (refine w_e [] ?_;intro J hJ;simp only []) | (refine e_go ?_));simp [hr];(refine hJ _ _ ?_;clear hJ J;simp only [ak,reduceIte]))))
   exact hkp01.trans hk2
  rw [gi_mem hmb]
  have hn1:¬ ((g.vs.idxOf xb:Nat):Int) < 0:=by omega
  have hb':badE g k=0:=by rw [hbad,if_neg (by simp [hma,hmb])]
  (repeat' (first | (refine qK ?_;simp only [ak,reduceIte]) | (refine qC ?_;simp [f41,hw,hn1]) | ((first | (refine w_e [] ?_;intro J hJ;simp only []) | (refine e_go ?_));simp [f41,hw,hn1];(refine hJ _ _ ?_;clear hJ J;simp only [ak,reduceIte]))))
  refine hJJ _ _ _ ?_ ⟨k+1,by omega,rfl,by simp [f1],by simp [f39],by simp [f40],by simp,⟨xi,by simp,fun _=>by rw [Nat.add_sub_cancel,hx]⟩,hkp1.trans hk2,fun j hj=>?_⟩
  ·omega
  ·rcases Nat.lt_or_ge j k with h | h
   ·exact hno j h
   ·obtain rfl:j=k:=by omega
    exact hb'
 ·have hr:chk g=0:=by rw [hch];exact firstNZ_zero (fun j hj=>hno j (by omega))
  clear hJJ
  (repeat' (first | refine qS ?_ | (refine qX ?_;simp only [ak,reduceIte]) | (refine qR ?_;simp only [ak,reduceIte];simp [f1,f39,f40,f41,f3,hlt,hr]) | (refine qC ?_;simp [f1,f39,f40,f41,f3,hlt,hr]) | (refine w_e [] ?_;intro J hJ;simp only [];simp [f1,f39,f40,f41,f3,hlt,hr];(refine hJ _ _ ?_;clear hJ J;simp only [ak,reduceIte]))))
  exact hkp0
theorem ref_Check (g:Gr) (st:St) (hv:g.vs.length≤1000) (he:g.es.length≤1000):
 ACalls Tryz.prog 11 [.ag (grL g)] st fun r st'=>r=i (chk g)∧Keeps st st':=by
 have hsm:small g.vs:=by unfold small;omega
 refine qO tabOk Tryz.func11 rfl rfl Tryz.ntmps11 (rs:=[.tmp 2]) rfl (by simp) ?_
 by_cases h1:(64:Int) < (g.vs.length:Int)
 ·have:chk g=6:=by unfold chk;rw [if_pos (by omega)]
  (repeat' (first | refine qS ?_ | (refine qR ?_;simp only [ak,reduceIte];simp [h1,this]) | (refine qC ?_;simp [h1,this]) | (refine w_e [] ?_;intro J hJ;simp only [];simp [h1,this];(refine hJ _ _ ?_;clear hJ J;simp only [ak,reduceIte]))))
  exact Keeps.new _ _
 by_cases h2:(160:Int) < (g.es.length:Int)
 ·have:chk g=6:=by unfold chk;rw [if_pos (by omega)]
  (repeat' (first | refine qS ?_ | (refine qR ?_;simp only [ak,reduceIte];simp [h1,h2,this]) | (refine qC ?_;simp [h1,h2,this]) | (refine w_e [] ?_;intro J hJ;simp only [];simp [h1,h2,this];(refine hJ _ _ ?_;clear hJ J;simp only [ak,reduceIte]))))
  exact Keeps.new _ _
 have hch:chk g=if firstNZ (badV g) g.vs.length≠0 then firstNZ (badV g) g.vs.length else firstNZ (badE g) g.es.length:=by unfold chk;rw [if_neg (by omega)]
 (repeat' (first | refine qS ?_ | refine qB ?_ | (refine qK ?_;simp only [ak,reduceIte]) | (refine qC ?_;simp [h1,h2]) | (refine w_e [] ?_;intro J hJ;simp only [];simp [h1,h2];(refine hJ _ _ ?_;clear hJ J;simp only [ak,reduceIte]))))
 refine qL (fun n fr st'=>∃ k:Nat,k≤g.vs.length∧n=g.vs.length - k∧fr 1=.pt st.next 0∧fr 18=.sl 0 g.vs.length (us g.vs)∧fr 19=i g.vs.length∧fr 20=i k∧st'=st.new (.box 35 2 (grL g))∧∀ j,j < k→badV g j=0) g.vs.length ?_ ?_
 ·exact ⟨0,by omega,by omega,by simp,by simp,by simp,by simp,rfl,fun j h=>by omega⟩
 rintro n fr st' ⟨k,hk,rfl,f1,f18,f19,f20,rfl,hno⟩ JJ hJJ
 by_cases hlt:k < g.vs.length
 ·have hd:=qG g.vs k hlt
  have hw:=qN k (by omega)
  have hbad:badV g k=numb (g.vs.getD k 0) (g.vs.getD (k - 1) 0) (decide (k=0)):=rfl
  have hnext:badV g k=0→∀ j,j < k+1→badV g j=0:=fun hb j hj=>by
   rcases Nat.lt_or_ge j k with h | h
   ·exact hno j h
   ·obtain rfl:j=k:=by omega
    exact hb
  have hret:∀ v,badV g k=v→v≠0→chk g=v:=fun v h0 h1=>by
   have hf:=firstNZ_eq hlt hno h0 h1
   rw [hch,hf,if_pos h1]
  generalize hx:g.vs.getD k 0=x at *
  by_cases hx1:x < 1
  ·have hr:=hret 2 (by rw [hbad];unfold numb;rw [if_pos (.inl hx1)]) (by decide)
   (repeat' (first | refine qS ?_ | refine qB ?_ | (refine qK ?_;simp only [ak,reduceIte]) | (refine qR ?_;simp only [ak,reduceIte];simp [f1,f18,f19,f20,hlt,hd,hw,hx1,hr]) | (refine qC ?_;simp [f1,f18,f19,f20,hlt,hd,hw,hx1,hr]) | (refine w_e [] ?_;intro J hJ;simp only [];simp [f1,f18,f19,f20,hlt,hd,hw,hx1,hr];(refine hJ _ _ ?_;clear hJ J;simp only [ak,reduceIte]))))
   exact Keeps.new _ _
  by_cases hx2:1048576 < x
  ·have hr:=hret 2 (by rw [hbad];unfold numb;rw [if_pos (.inr hx2)]) (by decide)
   (repeat' (first | refine qS ?_ | refine qB ?_ | (refine qK ?_;simp only [ak,reduceIte]) | (refine qR ?_;simp only [ak,reduceIte];simp [f1,f18,f19,f20,hlt,hd,hw,hx1,hx2,hr]) | (refine qC ?_;simp [f1,f18,f19,f20,hlt,hd,hw,hx1,hx2,hr]) | (refine w_e [] ?_;intro J hJ;simp only [];simp [f1,f18,f19,f20,hlt,hd,hw,hx1,hx2,hr];(refine hJ _ _ ?_;clear hJ J;simp only [ak,reduceIte]))))
   exact Keeps.new _ _
  by_cases h0:k=0
  ·have hb:badV g k=0:=by rw [hbad];unfold numb;rw [if_neg (by simp [hx1,hx2])];simp [h0]
   have hk0:¬ 0 < k:=by omega
   (repeat' (first | refine qS ?_ | refine qB ?_ | (refine qK ?_;simp only [ak,reduceIte]) | (refine qC ?_;simp [f1,f18,f19,f20,hlt,hd,hw,hx1,hx2,hk0]) | (refine w_e [] ?_;intro J hJ;simp only [];simp [f1,f18,f19,f20,hlt,hd,hw,hx1,hx2,hk0];(refine hJ _ _ ?_;clear hJ J;simp only [ak,reduceIte]))))
   refine hJJ _ _ _ ?_ ⟨k+1,by omega,rfl,by simp [f1],by simp [f18],by simp [f19],by simp,rfl,hnext hb⟩
   omega
  ·have hk0:0 < k:=by omega
   have hw1:IntKind.i64.wrap ((k:Int) - 1)=((k - 1:Nat):Int):=by rw [wrap_i64 _ (by omega) (by omega)];omega
   have hd1:=qG g.vs (k - 1) (by omega)
   have hlt1:k - 1 < g.vs.length:=by omega
   generalize hy:g.vs.getD (k - 1) 0=y at *
   by_cases hle:x≤y
   ·have hr:=hret 19 (by rw [hbad];unfold numb;rw [if_neg (by simp [hx1,hx2]),if_pos ⟨by simp [h0],hle⟩]) (by decide)
    (repeat' (first | refine qS ?_ | refine qB ?_ | (refine qK ?_;simp only [ak,reduceIte]) | (refine qR ?_;simp only [ak,reduceIte];simp [f1,f18,f19,f20,hlt,hd,hw,hx1,hx2,hk0,hw1,hd1,hlt1,hle,hr]) | (refine qC ?_;simp [f1,f18,f19,f20,hlt,hd,hw,hx1,hx2,hk0,hw1,hd1,hlt1,hle,hr]) | (refine w_e [] ?_;intro J hJ;simp only [];simp [f1,f18,f19,f20,hlt,hd,hw,hx1,hx2,hk0,hw1,hd1,hlt1,hle,hr];(refine hJ _ _ ?_;clear hJ J;simp only [ak,reduceIte]))))
    exact Keeps.new _ _
   ·have hb:badV g k=0:=by rw [hbad];unfold numb;rw [if_neg (by simp [hx1,hx2]),if_neg (by simp [hle])]
    (repeat' (first | refine qS ?_ | refine qB ?_ | (refine qK ?_;simp only [ak,reduceIte]) | (refine qC ?_;simp [f1,f18,f19,f20,hlt,hd,hw,hx1,hx2,hk0,hw1,hd1,hlt1,hle]) | (refine w_e [] ?_;intro J hJ;simp only [];simp [f1,f18,f19,f20,hlt,hd,hw,hx1,hx2,hk0,hw1,hd1,hlt1,hle];(refine hJ _ _ ?_;clear hJ J;simp only [ak,reduceIte]))))
    refine hJJ _ _ _ ?_ ⟨k+1,by omega,rfl,by simp [f1],by simp [f18],by simp [f19],by simp,rfl,hnext hb⟩
    omega
 have hk':k=g.vs.length:=by omega
 have hz:firstNZ (badV g) g.vs.length=0:=firstNZ_zero (fun j hj=>hno j (by omega))
 rw [hz] at hch
 simp only [ne_eq,not_true_eq_false,if_false] at hch
 clear hJJ hno hz
 have hel:=eds_length g.es
 (repeat' (first | refine qS ?_ | refine qB ?_ | (refine qX ?_;simp only [ak,reduceIte]) | (refine qC ?_;simp [f1,f18,f19,f20,hlt]) | (refine w_e [] ?_;intro J hJ;simp only [];simp [f1,f18,f19,f20,hlt];(refine hJ _ _ ?_;clear hJ J;simp only [ak,reduceIte]))))
 refine qL (fun n fr st'=>∃ k:Nat,k≤g.es.length∧n=g.es.length - k∧fr 1=.pt st.next 0∧fr 45=.sl 0 g.es.length (eds g.es)∧fr 46=i g.es.length∧fr 47=i k∧Keeps (st.new (.box 35 2 (grL g))) st'∧∀ j,j < k→badE g j=0) g.es.length ?_ ?_
 ·exact ⟨0,by omega,by omega,by simp [f1],by simp,by simp,by simp,Keeps.refl _,fun j h=>by omega⟩
 clear f1 f18 f19 f20 hlt hk' hk fr k
 rintro n fr st1 ⟨k,hk,rfl,f1,f45,f46,f47,hkp,hno⟩ JJ hJJ
 have hgH:st1.H st.next=.box 35 2 (grL g):=by rw [hkp.H _ (by simp)];simp
 have hnx:¬ st.next=st1.next:=by have:=hkp.next;simp only [new_next] at this;omega
 have hkp0:=(Keeps.new st (.box 35 2 (grL g))).trans hkp
 by_cases hlt:k < g.es.length
 ·have hd:=eds_drop g.es k hlt
  have hw:=qN k (by omega)
  have hk3:k * 3 < g.es.length * 3:=by omega
  have hbad:badE g k=(let x:=g.es.getD k ed0;let n:=numb x.id (g.es.getD (k - 1) ed0).id (decide (k=0));if n≠0 then n else if x.a=x.b then 20 else if x.a∉g.vs∨x.b∉g.vs then 21 else 0):=rfl
  have hnext:badE g k=0→∀ j,j < k+1→badE g j=0:=fun hb j hj=>by
   rcases Nat.lt_or_ge j k with h | h
   ·exact hno j h
   ·obtain rfl:j=k:=by omega
    exact hb
  have hret:∀ v,badE g k=v→v≠0→chk g=v:=fun v h0 h1=>by
   rw [hch];exact firstNZ_eq hlt hno h0 h1
  generalize hx:g.es.getD k ed0=x at *
  obtain ⟨xi,xa,xb⟩:=x
  simp only at hd hbad
  have hkn:=hkp0.trans (Keeps.new _ (.box 38 3 [u xi,u xa,u xb]))
  by_cases hx1:xi < 1
  ·have hn:numb xi (g.es.getD (k - 1) ed0).id (decide (k=0))=2:=by unfold numb;rw [if_pos (.inl hx1)]
   have hr:=hret 2 (by rw [hbad,hn];rfl) (by decide)
   (repeat' (first | refine qS ?_ | refine qB ?_ | (refine qK ?_;simp only [ak,reduceIte]) | (refine qR ?_;simp only [ak,reduceIte];simp [f1,f45,f46,f47,hlt,hd,hw,hel,hk3,hgH,hnx,hx1,hr]) | (refine qC ?_;simp [f1,f45,f46,f47,hlt,hd,hw,hel,hk3,hgH,hnx,hx1,hr]) | (refine w_e [] ?_;intro J hJ;simp only [];simp [f1,f45,f46,f47,hlt,hd,hw,hel,hk3,hgH,hnx,hx1,hr];(refine hJ _ _ ?_;clear hJ J;simp only [ak,reduceIte]))))
   exact hkn
  by_cases hx2:1048576 < xi
  ·have hn:numb xi (g.es.getD (k - 1) ed0).id (decide (k=0))=2:=by unfold numb;rw [if_pos (.inr hx2)]
   have hr:=hret 2 (by rw [hbad,hn];rfl) (by decide)
   (repeat' (first | refine qS ?_ | refine qB ?_ | (refine qK ?_;simp only [ak,reduceIte]) | (refine qR ?_;simp only [ak,reduceIte];simp [f1,f45,f46,f47,hlt,hd,hw,hel,hk3,hgH,hnx,hx1,hx2,hr]) | (refine qC ?_;simp [f1,f45,f46,f47,hlt,hd,hw,hel,hk3,hgH,hnx,hx1,hx2,hr]) | (refine w_e [] ?_;intro J hJ;simp only [];simp [f1,f45,f46,f47,hlt,hd,hw,hel,hk3,hgH,hnx,hx1,hx2,hr];(refine hJ _ _ ?_;clear hJ J;simp only [ak,reduceIte]))))
   exact hkn
  by_cases hnb:numb xi (g.es.getD (k - 1) ed0).id (decide (k=0))=0
  rotate_left
  ·
   have h0:k≠0:=by rintro rfl;apply hnb;unfold numb;rw [if_neg (by simp [hx1,hx2])];simp
   have hle:xi≤(g.es.getD (k - 1) ed0).id:=by
    unfold numb at hnb
    rw [if_neg (by simp [hx1,hx2])] at hnb
    by_cases h:decide (k=0)=false∧xi≤(g.es.getD (k - 1) ed0).id
    ·exact h.2
    ·rw [if_neg h] at hnb;exact absurd rfl hnb
   have hn:numb xi (g.es.getD (k - 1) ed0).id (decide (k=0))=19:=by unfold numb;rw [if_neg (by simp [hx1,hx2]),if_pos ⟨by simp [h0],hle⟩]
   have hr:=hret 19 (by rw [hbad,hn];rfl) (by decide)
   have hk0:0 < k:=by omega
   have hw1:IntKind.i64.wrap ((k:Int) - 1)=((k - 1:Nat):Int):=by rw [wrap_i64 _ (by omega) (by omega)];omega
   have hd1:=eds_drop g.es (k - 1) (by omega)
   have hlt1:k - 1 < g.es.length:=by omega
   have hlt3:(k - 1) * 3 < g.es.length * 3:=by omega
   generalize hy:g.es.getD (k - 1) ed0=y at *
   obtain ⟨yi,ya,yb⟩:=y
   simp only at hd1 hle
   (repeat' (first | refine qS ?_ | refine qB ?_ | (refine qK ?_;simp only [ak,reduceIte]) | (refine qR ?_;simp only [ak,reduceIte];simp [f1,f45,f46,f47,hlt,hd,hw,hel,hk3,hgH,hnx,hx1,hx2,hk0,hw1,hd1,hlt1,hlt3,hle,hr]) | (refine qC ?_;simp [f1,f45,f46,f47,hlt,hd,hw,hel,hk3,hgH,hnx,hx1,hx2,hk0,hw1,hd1,hlt1,hlt3,hle,hr]) | ((first | (refine w_e [] ?_;intro J hJ;simp only []) | (refine w_q ?_;intro J hJ));simp [f1,f45,f46,f47,hlt,hd,hw,hel,hk3,hgH,hnx,hx1,hx2,hk0,hw1,hd1,hlt1,hlt3,hle,hr];(refine hJ _ _ ?_;clear hJ J;simp only [ak,reduceIte]))))
   exact hkn
  rw [if_neg (fun h=>h hnb)] at hbad
  by_cases hab:xa=xb
  ·have hr:=hret 20 (by rw [hbad,if_pos hab]) (by decide)
   by_cases h0:k=0
   ·have hk0:¬ 0 < k:=by omega
    (repeat' (first | refine qS ?_ | refine qB ?_ | (refine qK ?_;simp only [ak,reduceIte]) | (refine qR ?_;simp only [ak,reduceIte];simp [f1,f45,f46,f47,hlt,hd,hw,hel,hk3,hgH,hnx,hx1,hx2,hk0,hab,hr]) | (refine qC ?_;simp [f1,f45,f46,f47,hlt,hd,hw,hel,hk3,hgH,hnx,hx1,hx2,hk0,hab,hr]) | ((first | (refine w_e [] ?_;intro J hJ;simp only []) | (refine w_q ?_;intro J hJ));simp [f1,f45,f46,f47,hlt,hd,hw,hel,hk3,hgH,hnx,hx1,hx2,hk0,hab,hr];(refine hJ _ _ ?_;clear hJ J;simp only [ak,reduceIte]))))
    exact hkp0.trans (Keeps.new _ _)
   ·have hk0:0 < k:=by omega
    have hw1:IntKind.i64.wrap ((k:Int) - 1)=((k - 1:Nat):Int):=by rw [wrap_i64 _ (by omega) (by omega)];omega
    have hd1:=eds_drop g.es (k - 1) (by omega)
    have hlt1:k - 1 < g.es.length:=by omega
    have hlt3:(k - 1) * 3 < g.es.length * 3:=by omega
    have hle:¬ xi≤(g.es.getD (k - 1) ed0).id:=by
     intro h
     unfold numb at hnb
     rw [if_neg (by simp [hx1,hx2]),if_pos ⟨by simp [h0],h⟩] at hnb
     cases hnb
    generalize hy:g.es.getD (k - 1) ed0=y at *
    obtain ⟨yi,ya,yb⟩:=y
    simp only at hd1 hle
    (repeat' (first | refine qS ?_ | refine qB ?_ | (refine qK ?_;simp only [ak,reduceIte]) | (refine qR ?_;simp only [ak,reduceIte];simp [f1,f45,f46,f47,hlt,hd,hw,hel,hk3,hgH,hnx,hx1,hx2,hk0,hw1,hd1,hlt1,hlt3,hle,hab,hr]) | (refine qC ?_;simp [f1,f45,f46,f47,hlt,hd,hw,hel,hk3,hgH,hnx,hx1,hx2,hk0,hw1,hd1,hlt1,hlt3,hle,hab,hr]) | ((first | (refine w_e [] ?_;intro J hJ;simp only []) | (refine w_q ?_;intro J hJ));simp [f1,f45,f46,f47,hlt,hd,hw,hel,hk3,hgH,hnx,hx1,hx2,hk0,hw1,hd1,hlt1,hlt3,hle,hab,hr];(refine hJ _ _ ?_;clear hJ J;simp only [ak,reduceIte]))))
    exact hkp0.trans (Keeps.new _ _)
  rw [if_neg hab] at hbad
  by_cases h0:k=0
  ·have hk0:¬ 0 < k:=by omega
   (repeat' (first | refine qS ?_ | refine qB ?_ | (refine qK ?_;simp only [ak,reduceIte]) | (refine qC ?_;simp [f1,f45,f46,f47,hlt,hd,hw,hel,hk3,hgH,hnx,hx1,hx2,hk0,hab]) | ((first | (refine w_e [] ?_;intro J hJ;simp only []) | (refine w_q ?_;intro J hJ));simp [f1,f45,f46,f47,hlt,hd,hw,hel,hk3,hgH,hnx,hx1,hx2,hk0,hab];(try (refine hJ _ _ ?_;clear hJ J;simp only [ak,reduceIte])))))
   refine qE (Has g xa _ hsm) (by simp []) ?_;rintro r st' ⟨rfl,hk1⟩
   have hB1:st'.H st1.next=.box 38 3 [u xi,u xa,u xb]:=by rw [hk1.H _ (by simp)];simp
   have hgH1:st'.H st.next=.box 35 2 (grL g):=by
    rw [hk1.H _ (by have:=hkp.next;simp only [new_next] at this ⊢;omega),new_H,if_neg hnx];exact hgH
   have hkp1:=(hkp.trans (Keeps.new _ _)).trans hk1
   have hkp01:=(hkp0.trans (Keeps.new _ _)).trans hk1
   by_cases hma:xa∈g.vs
   rotate_left
   ·have hr:=hret 21 (by rw [hbad,if_pos (.inl hma)]) (by decide)
    (repeat' (first | refine qS ?_ | (refine qR ?_;simp only [ak,reduceIte];simp [f1,hB1,hgH1,hr,hma]) | (refine qC ?_;simp [f1,hB1,hgH1,hr,hma]) | ((first | (refine w_e [] ?_;intro J hJ;simp only []) | (refine e_go ?_));simp [f1,hB1,hgH1,hr,hma];(refine hJ _ _ ?_;clear hJ J;simp only [ak,reduceIte]))))
    exact hkp01
   (refine e_go ?_;simp [f1,hB1,hgH1,hma])
   refine qE (Has g xb _ hsm) (by simp []) ?_;rintro r st' ⟨rfl,hk2⟩
   by_cases hmb:xb∈g.vs
   rotate_left
   ·have hr:=hret 21 (by rw [hbad,if_pos (.inr hmb)]) (by decide)
    (repeat' (first | refine qS ?_ | (refine qR ?_;simp only [ak,reduceIte];simp [hr,hmb]) | (refine qC ?_;simp [hr,hmb]) | ((first | (refine w_e [] ?_;intro J hJ;simp only []) | (refine e_go ?_));simp [hr,hmb];(refine hJ _ _ ?_;clear hJ J;simp only [ak,reduceIte]))))
    exact hkp01.trans hk2
   have hb':badE g k=0:=by rw [hbad,if_neg (by simp [hma,hmb])]
   (repeat' (first | (refine qK ?_;simp only [ak,reduceIte]) | (refine qC ?_;simp [f47,hw,hmb]) | ((first | (refine w_e [] ?_;intro J hJ;simp only []) | (refine e_go ?_));simp [f47,hw,hmb];(refine hJ _ _ ?_;clear hJ J;simp only [ak,reduceIte]))))
   refine hJJ _ _ _ ?_ ⟨k+1,by omega,rfl,by simp [f1],by simp [f45],by simp [f46],by simp,hkp1.trans hk2,hnext hb'⟩
   omega
  ·have hk0:0 < k:=by omega
   have hw1:IntKind.i64.wrap ((k:Int) - 1)=((k - 1:Nat):Int):=by rw [wrap_i64 _ (by omega) (by omega)];omega
   have hd1:=eds_drop g.es (k - 1) (by omega)
   have hlt1:k - 1 < g.es.length:=by omega
   have hlt3:(k - 1) * 3 < g.es.length * 3:=by omega
   have hle:¬ xi≤(g.es.getD (k - 1) ed0).id:=by
    intro h
    unfold numb at hnb
    rw [if_neg (by simp [hx1,hx2]),if_pos ⟨by simp [h0],h⟩] at hnb
    cases hnb
   generalize hy:g.es.getD (k - 1) ed0=y at *
   obtain ⟨yi,ya,yb⟩:=y
   simp only at hd1 hle
   (repeat' (first | refine qS ?_ | refine qB ?_ | (refine qK ?_;simp only [ak,reduceIte]) | (refine qC ?_;simp [f1,f45,f46,f47,hlt,hd,hw,hel,hk3,hgH,hnx,hx1,hx2,hk0,hw1,hd1,hlt1,hlt3,hle,hab]) | ((first | (refine w_e [] ?_;intro J hJ;simp only []) | (refine w_q ?_;intro J hJ));simp [f1,f45,f46,f47,hlt,hd,hw,hel,hk3,hgH,hnx,hx1,hx2,hk0,hw1,hd1,hlt1,hlt3,hle,hab];(try (refine hJ _ _ ?_;clear hJ J;simp only [ak,reduceIte])))))
   refine qE (Has g xa _ hsm) (by simp []) ?_;rintro r st' ⟨rfl,hk1⟩
   have hB1:st'.H st1.next=.box 38 3 [u xi,u xa,u xb]:=by rw [hk1.H _ (by simp)];simp
   have hgH1:st'.H st.next=.box 35 2 (grL g):=by
    rw [hk1.H _ (by have:=hkp.next;simp only [new_next] at this ⊢;omega),new_H,if_neg hnx];exact hgH
   have hkp1:=(hkp.trans (Keeps.new _ _)).trans hk1
   have hkp01:=(hkp0.trans (Keeps.new _ _)).trans hk1
   by_cases hma:xa∈g.vs
   rotate_left
   ·have hr:=hret 21 (by rw [hbad,if_pos (.inl hma)]) (by decide)
    (repeat' (first | refine qS ?_ | (refine qR ?_;simp only [ak,reduceIte];simp [f1,hB1,hgH1,hr,hma]) | (refine qC ?_;simp [f1,hB1,hgH1,hr,hma]) | ((first | (refine w_e [] ?_;intro J hJ;simp only []) | (refine e_go ?_));simp [f1,hB1,hgH1,hr,hma];(refine hJ _ _ ?_;clear hJ J;simp only [ak,reduceIte]))))
    exact hkp01
   (refine e_go ?_;simp [f1,hB1,hgH1,hma])
   refine qE (Has g xb _ hsm) (by simp []) ?_;rintro r st' ⟨rfl,hk2⟩
   by_cases hmb:xb∈g.vs
   rotate_left
   ·have hr:=hret 21 (by rw [hbad,if_pos (.inr hmb)]) (by decide)
    (repeat' (first | refine qS ?_ | (refine qR ?_;simp only [ak,reduceIte];simp [hr,hmb]) | (refine qC ?_;simp [hr,hmb]) | ((first | (refine w_e [] ?_;intro J hJ;simp only []) | (refine e_go ?_));simp [hr,hmb];(refine hJ _ _ ?_;clear hJ J;simp only [ak,reduceIte]))))
    exact hkp01.trans hk2
   have hb':badE g k=0:=by rw [hbad,if_neg (by simp [hma,hmb])]
   (repeat' (first | (refine qK ?_;simp only [ak,reduceIte]) | (refine qC ?_;simp [f47,hw,hmb]) | ((first | (refine w_e [] ?_;intro J hJ;simp only []) | (refine e_go ?_));simp [f47,hw,hmb];(refine hJ _ _ ?_;clear hJ J;simp only [ak,reduceIte]))))
   refine hJJ _ _ _ ?_ ⟨k+1,by omega,rfl,by simp [f1],by simp [f45],by simp [f46],by simp,hkp1.trans hk2,hnext hb'⟩
   omega
 ·have hr:chk g=0:=by rw [hch];exact firstNZ_zero (fun j hj=>hno j (by omega))
  clear hJJ
  (repeat' (first | refine qS ?_ | (refine qX ?_;simp only [ak,reduceIte]) | (refine qR ?_;simp only [ak,reduceIte];simp [f1,f45,f46,f47,hlt,hr]) | (refine qC ?_;simp [f1,f45,f46,f47,hlt,hr]) | (refine w_e [] ?_;intro J hJ;simp only [];simp [f1,f45,f46,f47,hlt,hr];(refine hJ _ _ ?_;clear hJ J;simp only [ak,reduceIte]))))
  exact hkp0
theorem eds_one (l:List Ed):(eds l).all oneL=true:=by
 induction l with
 | nil=>rfl
 | cons e l ih=>simp only [eds,List.flatMap_cons,List.all_append,ih,Bool.and_true];rfl
theorem CloneE (l:List Ed) (t:Nat) (st:St) (hl:l.length≤1048576):
 ACalls Tryz.prog 72 [.sl t l.length (eds l)] st fun r st'=>r=.sl 0 l.length (eds l)∧Keeps st st':=by
 have hone:=eds_one l
 have hel:=eds_length l
 refine acalls_freeze ?_
 refine acalls_nilM 38 3 ?_
 refine qO tabOk Tryz.func72 rfl rfl Tryz.ntmps72 (rs:=[.tmp 2]) rfl (by simp) ?_
 (repeat' (first | refine qS ?_ | (refine qK ?_;simp only [ak,reduceIte]) | (refine qR ?_;simp only [ak,reduceIte];simp [hone,hel]) | (refine qC ?_;simp [hone,hel]) | (refine w_e [5] ?_;intro J hJ;simp only [];simp [hone,hel];(repeat refine ca ?_);((try with_reducible refine ⟨?_,?_⟩)<;>(try with_reducible intro hnil)<;>refine hJ _ _ ?_<;>clear hJ J<;>simp only [ak,reduceIte]<;>try subst hnil))))
 ·exact ⟨st.next+1,l.length,⟨rfl,rfl⟩,38,3,eds l,by simp,by rw [hel];exact Nat.le_refl _,⟨rfl,List.take_of_length_le (by rw [hel];exact Nat.le_refl _)⟩,((Keeps.new _ _).trans (Keeps.new _ _)).set (by omega) _⟩
 ·exact ⟨st.next,0,⟨rfl,rfl⟩,38,3,[],by simp,by simp,⟨rfl,.inr rfl⟩,(Keeps.new _ _).set (Nat.le_refl _) _⟩
theorem copied (g:Gr) (st:St) (hv:g.vs.length≤1048576) (he:g.es.length≤1048576):
 ACalls Tryz.prog 99 [.ag (grL g)] st fun r st'=>r=.ag (grL g)∧Keeps st st':=by
 refine qO tabOk Tryz.func99 rfl rfl Tryz.ntmps99 (rs:=[.cell 2 35]) rfl (by simp) ?_
 (repeat' (first | refine qS ?_ | (refine w_e [] ?_;intro J hJ;simp only [];simp [];(refine hJ _ _ ?_;clear hJ J;simp only [ak,reduceIte]))))
 (refine w_s [] [st.next] [(0,true),(1,true),(3,true),(4,true),(2,true),(5,true),(6,true),(7,false)] ?_;intro J hJ;simp [])
 refine qD (Clone g.vs 0 _ hv) (by simp []) ?_;rintro r st' ⟨rfl,hk1⟩
 have hB1:st'.H st.next=.box 35 2 (grL g):=by rw [hk1.H _ (by simp;omega)];simp
 have hC1:st'.H (st.next+1)=.box 35 2 [.nil,.nil]:=by rw [hk1.H _ (by simp)];simp
 refine ⟨fun _=>by simp [hB1],?_⟩
 (refine d_go ?_;simp [hB1])
 have hn1:=hk1.next
 simp only [new_next] at hn1
 refine qD (CloneE g.es 0 _ he) (by simp []) ?_;rintro r st' ⟨rfl,hk2⟩
 have hB2:=(hk2.H st.next (by omega)).trans hB1
 have hC2:=(hk2.H (st.next+1) (by omega)).trans hC1
 refine ⟨fun _=>by simp [hB2],?_⟩
 (refine d_go ?_;simp [hB2,hC2];(refine hJ _ _ ?_;clear hJ J;simp only [ak,reduceIte]))
 (repeat' (refine qR ?_;simp only [ak,reduceIte];simp [hC2]))
 exact (((((Keeps.new _ _).trans (Keeps.new _ _)).trans hk1).trans hk2).set (by omega) _)
theorem eds_get (a b:List Ed) (hab:a.length=b.length) (h:∀ j,j < a.length→a.getD j ed0=b.getD j ed0):a=b:=by
 apply List.ext_getElem hab
 intro j h1 h2
 have:=h j h1
 rw [List.getD_eq_getElem?_getD,List.getD_eq_getElem?_getD,List.getElem?_eq_getElem h1,List.getElem?_eq_getElem h2] at this
 exact this
theorem ints_get (a b:List Int) (hab:a.length=b.length) (h:∀ j,j < a.length→a.getD j 0=b.getD j 0):a=b:=by
 apply List.ext_getElem hab
 intro j h1 h2
 have:=h j h1
 rw [getD_lt _ _ h1,getD_lt _ _ h2] at this
 exact this
theorem ref_SameG (a b:Gr) (st:St) (hv:a.vs.length≤1048576) (he:a.es.length≤1048576):
 ACalls Tryz.prog 16 [.ag (grL a),.ag (grL b)] st fun r st'=>r=bb (decide (a=b))∧Keeps st st':=by
 have hkk:Keeps st ((st.new (.box 35 2 (grL a))).new (.box 35 2 (grL b))):=(Keeps.new _ _).trans (Keeps.new _ _)
 refine qO tabOk Tryz.func16 rfl rfl Tryz.ntmps16 (rs:=[.tmp 4]) rfl (by simp) ?_
 by_cases h1:a.vs.length=b.vs.length
 rotate_left
 ·have h1':((a.vs.length:Int) != b.vs.length)=true:=by simp;omega
  have hne:¬ a=b:=fun h=>h1 (by rw [h])
  (repeat' (first | refine qS ?_ | (refine qR ?_;simp only [ak,reduceIte];simp [h1',hne]) | (refine qC ?_;simp [h1',hne]) | (refine w_e [] ?_;intro J hJ;simp only [];simp [h1',hne];(refine hJ _ _ ?_;clear hJ J;simp only [ak,reduceIte]))))
  exact hkk
 have h1':((a.vs.length:Int) != b.vs.length)=false:=by simp;omega
 by_cases h2:a.es.length=b.es.length
 rotate_left
 ·have h2':((a.es.length:Int) != b.es.length)=true:=by simp;omega
  have hne:¬ a=b:=fun h=>h2 (by rw [h])
  (repeat' (first | refine qS ?_ | (refine qR ?_;simp only [ak,reduceIte];simp [h1',h2',hne]) | (refine qC ?_;simp [h1',h2',hne]) | (refine w_e [] ?_;intro J hJ;simp only [];simp [h1',h2',hne];(refine hJ _ _ ?_;clear hJ J;simp only [ak,reduceIte]))))
  exact hkk
 have h2':((a.es.length:Int) != b.es.length)=false:=by simp;omega
 (repeat' (first | refine qS ?_ | refine qB ?_ | (refine qK ?_;simp only [ak,reduceIte]) | (refine qC ?_;simp [h1',h2']) | (refine w_e [] ?_;intro J hJ;simp only [];simp [h1',h2'];(refine hJ _ _ ?_;clear hJ J;simp only [ak,reduceIte]))))
 refine qL (fun n fr st'=>∃ k:Nat,k≤a.vs.length∧n=a.vs.length - k∧fr 2=.pt st.next 0∧fr 3=.pt (st.next+1) 0∧fr 25=i a.vs.length∧fr 26=i k∧st'=(st.new (.box 35 2 (grL a))).new (.box 35 2 (grL b))∧∀ j,j < k→a.vs.getD j 0=b.vs.getD j 0) a.vs.length ?_ ?_
 ·exact ⟨0,by omega,by omega,by simp,by simp,by simp,by simp,rfl,fun j h=>by omega⟩
 rintro n fr st' ⟨k,hk,rfl,f2,f3,f25,f26,rfl,hno⟩ JJ hJJ
 by_cases hlt:k < a.vs.length
 ·have hd:=qG a.vs k hlt
  have hlt':k < b.vs.length:=by omega
  have hd':=qG b.vs k hlt'
  have hw:=qN k (by omega)
  generalize hx:a.vs.getD k 0=x at *
  generalize hy:b.vs.getD k 0=y at *
  by_cases hxy:x=y
  ·(repeat' (first | refine qS ?_ | refine qB ?_ | (refine qK ?_;simp only [ak,reduceIte]) | (refine qC ?_;simp [f2,f3,f25,f26,hlt,hlt',hd,hd',hw,hxy]) | ((first | (refine w_e [] ?_;intro J hJ;simp only []) | (refine w_q ?_;intro J hJ));simp [f2,f3,f25,f26,hlt,hlt',hd,hd',hw,hxy];(refine hJ _ _ ?_;clear hJ J;simp only [ak,reduceIte]))))
   refine hJJ _ _ _ ?_ ⟨k+1,by omega,rfl,by simp [f2],by simp [f3],by simp [f25],by simp,rfl,fun j hj=>?_⟩
   ·omega
   ·rcases Nat.lt_or_ge j k with h | h
    ·exact hno j h
    ·obtain rfl:j=k:=by omega
     rw [hx,hy];exact hxy
  ·have hne:¬ a=b:=fun h=>hxy (by rw [← hx,← hy,h])
   (repeat' (first | refine qS ?_ | refine qB ?_ | (refine qK ?_;simp only [ak,reduceIte]) | (refine qR ?_;simp only [ak,reduceIte];simp [f2,f3,f25,f26,hlt,hlt',hd,hd',hw,hxy,hne]) | (refine qC ?_;simp [f2,f3,f25,f26,hlt,hlt',hd,hd',hw,hxy,hne]) | ((first | (refine w_e [] ?_;intro J hJ;simp only []) | (refine w_q ?_;intro J hJ));simp [f2,f3,f25,f26,hlt,hlt',hd,hd',hw,hxy,hne];(refine hJ _ _ ?_;clear hJ J;simp only [ak,reduceIte]))))
   exact hkk
 have hvs:=ints_get a.vs b.vs h1 (fun j hj=>hno j (by omega))
 clear hJJ hno
 have hela:=eds_length a.es
 have helb:=eds_length b.es
 (repeat' (first | refine qS ?_ | refine qB ?_ | (refine qX ?_;simp only [ak,reduceIte]) | (refine qC ?_;simp [f2,f3,f25,f26,hlt]) | (refine w_e [] ?_;intro J hJ;simp only [];simp [f2,f3,f25,f26,hlt];(refine hJ _ _ ?_;clear hJ J;simp only [ak,reduceIte]))))
 refine qL (fun n fr st'=>∃ k:Nat,k≤a.es.length∧n=a.es.length - k∧fr 2=.pt st.next 0∧fr 3=.pt (st.next+1) 0∧fr 43=i a.es.length∧fr 44=i k∧st'=(st.new (.box 35 2 (grL a))).new (.box 35 2 (grL b))∧∀ j,j < k→a.es.getD j ed0=b.es.getD j ed0) a.es.length ?_ ?_
 ·exact ⟨0,by omega,by omega,by simp [f2],by simp [f3],by simp,by simp,rfl,fun j h=>by omega⟩
 clear f2 f3 f25 f26 hlt hk fr k
 rintro n fr st' ⟨k,hk,rfl,f2,f3,f43,f44,rfl,hno⟩ JJ hJJ
 by_cases hlt:k < a.es.length
 ·have hd:=eds_drop a.es k hlt
  have hlt':k < b.es.length:=by omega
  have hd':=eds_drop b.es k hlt'
  have hw:=qN k (by omega)
  have hk3:k * 3 < a.es.length * 3:=by omega
  have hk3':k * 3 < b.es.length * 3:=by omega
  generalize hx:a.es.getD k ed0=x at *
  generalize hy:b.es.getD k ed0=y at *
  obtain ⟨x1,x2,x3⟩:=x
  obtain ⟨y1,y2,y3⟩:=y
  simp only at hd hd'
  by_cases hxy:([x1,x2,x3]==[y1,y2,y3])=true
  ·have hxy':([x1,x2,x3]:List Int)=[y1,y2,y3]:=by simpa using hxy
   injection hxy' with e1 e2;injection e2 with e2 e3;injection e3 with e3 _
   subst e1 e2 e3
   (repeat' (first | refine qS ?_ | refine qB ?_ | (refine qK ?_;simp only [ak,reduceIte]) | (refine qC ?_;simp [f2,f3,f43,f44,hlt,hlt',hd,hd',hw,hela,helb,hk3,hk3']) | ((first | (refine w_e [] ?_;intro J hJ;simp only []) | (refine w_q ?_;intro J hJ));simp [f2,f3,f43,f44,hlt,hlt',hd,hd',hw,hela,helb,hk3,hk3'];(refine hJ _ _ ?_;clear hJ J;simp only [ak,reduceIte]))))
   refine hJJ _ _ _ ?_ ⟨k+1,by omega,rfl,by simp [f2],by simp [f3],by simp [f43],by simp,rfl,fun j hj=>?_⟩
   ·omega
   ·rcases Nat.lt_or_ge j k with h | h
    ·exact hno j h
    ·obtain rfl:j=k:=by omega
     rw [hx,hy]
  ·have hne:¬ a=b:=fun h=>hxy (by rw [h] at hx;rw [hx] at hy;injection hy with e1 e2 e3;subst e1 e2 e3;simp)
   have hxyf:([x1,x2,x3]==[y1,y2,y3])=false:=by simpa using hxy
   (repeat' (first | refine qS ?_ | refine qB ?_ | (refine qK ?_;simp only [ak,reduceIte]) | (refine qR ?_;simp only [ak,reduceIte];simp [f2,f3,f43,f44,hlt,hlt',hd,hd',hw,hela,helb,hk3,hk3',hxyf,hne]) | (refine qC ?_;simp [f2,f3,f43,f44,hlt,hlt',hd,hd',hw,hela,helb,hk3,hk3',hxyf,hne]) | ((first | (refine w_e [] ?_;intro J hJ;simp only []) | (refine w_q ?_;intro J hJ));simp [f2,f3,f43,f44,hlt,hlt',hd,hd',hw,hela,helb,hk3,hk3',hxyf,hne];(refine hJ _ _ ?_;clear hJ J;simp only [ak,reduceIte]))))
   exact hkk
 ·have hes:=eds_get a.es b.es h2 (fun j hj=>hno j (by omega))
  have heq:a=b:=by cases a;cases b;simp only at hvs hes;subst hvs hes;rfl
  clear hJJ
  subst heq
  (repeat' (first | refine qS ?_ | (refine qX ?_;simp only [ak,reduceIte]) | (refine qR ?_;simp only [ak,reduceIte];simp [f2,f3,f43,f44,hlt]) | (refine qC ?_;simp [f2,f3,f43,f44,hlt]) | (refine w_e [] ?_;intro J hJ;simp only [];simp [f2,f3,f43,f44,hlt];(refine hJ _ _ ?_;clear hJ J;simp only [ak,reduceIte]))))
  exact hkk
theorem acalls_agLast (e s:Nat) {P:Program} {f:FuncId} {args:List LV} {st:St} {Q:LV→St→Prop} (pre:List LV)
 (h:ACalls P f args st fun r st'=>∃ c,r=.ag (pre++[c])∧((c=.nil∧Q (.ag (pre++[.sl 0 0 []])) st')∨∃ l n cs,c=.ms l 0 n∧st'.H l=.box e s cs∧n * s≤cs.length∧Q (.ag (pre++[.sl 0 n (cs.take (n * s))])) (st'.set l .dead))):ACalls P f args st Q:=by
 refine ⟨h.1,fun w g vs hi hr=>(h.2 w g vs hi hr).mono ?_⟩
 rintro x w' ⟨v,r,st',g',rfl,⟨c,rfl,hc⟩,hrep,hi',he⟩
 simp only [Rep] at hrep
 obtain ⟨us1,rfl,hus⟩:=hrep
 obtain ⟨v1,h1,h2⟩:=repL_mid pre us1 hus
 rcases hc with ⟨rfl,hq⟩ | ⟨l,n,cs,rfl,hl,hn,hq⟩
 ·refine ⟨_,_,st',g',rfl,hq,?_,hi',he⟩
  simp only [Rep]
  exact ⟨us1,rfl,h2 g' _ (Ext.refl _ _) (rep_norm h1)⟩
 ·obtain ⟨g2,k1,k2,k3⟩:=ghost_freeze (fr:=upd (fun _=>.dead) 0 (.ms l 0 n)) 0 rfl hl hn { tmps:=#[v1],defers:=[] } w' g' hi' (by
   intro j
   unfold upd
   by_cases hj:j=0
   ·subst hj;rw [if_pos rfl];exact h1
   ·rw [if_neg hj];simp only [Rep])
  refine ⟨_,_,_,g2,rfl,hq,?_,k1,he.trans k3⟩
  simp only [Rep]
  exact ⟨us1,rfl,h2 g2 _ k3 (k2 0)⟩
theorem rowsL_take (rs:List (List Int)) (k:Nat) (hk:k < rs.length):rowsL (rs.take (k+1))=rowsL (rs.take k)++[.sl 0 (rs[k]).length (us rs[k])]:=by
 unfold rowsL
 rw [List.take_succ_eq_append_getElem hk,List.map_append];rfl
theorem rot_Of (g:Gr) (q:Nat) (es:List (List Int×LV)) (tf:Int→List Int) (st:St) (hv:g.vs.length≤1000) (he:g.es.length≤1000) (hq:q < st.next) (hM:st.H q=.map false [.u32] es)
 (ht:∀ v∈g.vs,∃ x t,(mget es [v]).getD .nil=x∧norm x=.sl t (tf v).length (us (tf v))∧(tf v).length≤1000):
 ACalls Tryz.prog 64 [.ag (grL g),.mp q] st fun r st'=>r=.ag (mpL ⟨g,g.vs.map fun v=>nrm (tf v)⟩)∧Keeps st st':=by
 refine acalls_agLast 25 1 (grL g) ?_
 refine qO tabOk Tryz.func64 rfl rfl Tryz.ntmps64 (rs:=[.cell 4 46]) rfl (by simp) ?_
 (repeat' (first | refine qS ?_ | (refine w_e [] ?_;intro J hJ;simp only [];simp [];(try (refine hJ _ _ ?_;clear hJ J;simp only [ak,reduceIte])))))
 refine qE (copied g _ (by omega) (by omega)) (by simp) ?_;rintro r s1 ⟨rfl,hk1⟩
 have hn1:=hk1.next
 simp only [new_next] at hn1
 have hG1:s1.H st.next=.box 35 2 (grL g):=by rw [hk1.H _ (by simp;omega)];simp
 have hM1:s1.H q=.map false [.u32] es:=by
  rw [hk1.H q (by simp;omega),new_H,if_neg (by simp;omega),new_H,if_neg (by omega),hM]
 have hR1:s1.H (st.next+1)=.box 46 3 [.nil,.nil,.nil]:=by rw [hk1.H _ (by simp)];simp
 have ne1:¬ st.next=s1.next:=by omega
 (repeat' (first | refine qS ?_ | refine qB ?_ | ((first | (refine w_e [] ?_;intro J hJ;simp only []) | (refine e_go ?_));simp [hG1,ne1];(refine hJ _ _ ?_;clear hJ J;simp only [ak,reduceIte]))))
 refine qL (fun n fr st2=>∃ k:Nat,k≤g.vs.length∧n=g.vs.length - k∧fr 1=.mp q∧fr 4=.pt (st.next+1) 0∧fr 5=.pt s1.next 0∧fr 12=.sl 0 g.vs.length (us g.vs)∧fr 13=i g.vs.length∧fr 14=i k∧Keeps s1 st2∧s1.next < st2.next∧∃ c,st2.H s1.next=.box 46 3 (grL g++[c])∧((k=0∧c=.nil)∨∃ z,c=.ms z 0 k∧s1.next < z∧z < st2.next∧st2.H z=.box 25 1 (rowsL ((g.vs.map fun v=>nrm (tf v)).take k)))) g.vs.length ?_ ?_
 ·exact ⟨0,by omega,by omega,by simp,by simp,by simp,by simp,by simp,by simp,Keeps.new _ _,by simp,.nil,by simp,.inl ⟨rfl,rfl⟩⟩
 rintro n fr st2 ⟨k,hk,rfl,f1,f4,f5,f12,f13,f14,hkp,hlt2,c,hB,hcz⟩ JJ hJJ
 have hM2:st2.H q=.map false [.u32] es:=by rw [hkp.H q (by omega)];exact hM1
 by_cases hlt:k < g.vs.length
 ·have hd:=qG g.vs k hlt
  have hw:=qN k (by omega)
  have hvin:g.vs.getD k 0∈g.vs:=by rw [getD_lt _ _ hlt];exact List.getElem_mem hlt
  obtain ⟨x,t,hx1,hx2,hx3⟩:=ht _ hvin
  have hrow:=rowsL_take (g.vs.map fun v=>nrm (tf v)) k (by simpa using hlt)
  have hrk:(g.vs.map fun v=>nrm (tf v))[k]'(by simpa using hlt)=nrm (tf (g.vs.getD k 0)):=by simp [hlt]
  rw [hrk,nrm_length] at hrow
  generalize hvv:g.vs.getD k 0=v at *
  have hqn:¬ q=s1.next:=by omega
  have ne2:¬ s1.next=st2.next:=by omega
  have ne3:¬ q=st2.next:=by have:=hkp.next;omega
  rcases hcz with ⟨rfl,rfl⟩ | ⟨z,rfl,hz1,hz2,hz⟩
  ·(repeat' (first | refine qS ?_ | (refine w_e [] ?_;intro J hJ;simp only [];simp [f12,f13,f14,hlt,hd];(refine hJ _ _ ?_;clear hJ J;simp only [ak,reduceIte]))))
   (refine qC ?_;simp [])
   (repeat' (first | refine qS ?_ | refine qB ?_ | (refine qK ?_;simp only [ak,reduceIte]) | (refine w_e [] ?_;intro J hJ;simp only [];simp [f1,f5,f12,f13,f14,hlt,hd];(refine hJ _ _ ?_;clear hJ J;simp only [ak,reduceIte]))))
   (refine w_s [25] [s1.next,q] [(0,true),(1,true),(2,true),(3,true),(4,true),(5,true),(6,true),(7,true),(8,true),(9,false)] ?_;intro J hJ;simp [f1,f5,hB,hM2,hx1,hqn])
   refine qD (Normal (tf v) t _ (by simp only [small];omega)) (by simp only [List.map_cons,List.map_nil,hx2]) ?_;rintro r s3 ⟨rfl,hk3⟩
   have hB3:=(hk3.H s1.next (by omega)).trans hB
   have hM3:=(hk3.H q (by have:=hkp.next;omega)).trans hM2
   have hn3:=hk3.next
   have ne4:¬ s1.next=s3.next:=by omega
   have ne5:¬ s1.next=s3.next+1:=by omega
   have ne6:¬ q=s3.next+1:=by omega
   have ne7:¬ q=s3.next:=by omega
   refine ⟨fun _=>by simp [hB3,hM3,hB,hM2],?_⟩
   (refine d_go ?_;simp [f5,hB3,hM3,hB,hM2,ne4,ne5,ne6,ne7];(repeat refine ca ?_);(refine hJ _ _ ?_;clear hJ J;simp only [ak,reduceIte]))
   have hw1:IntKind.i64.wrap 1=1:=by decide
   (repeat' (refine w_e [] ?_;intro J hJ;simp only [];simp [f5,f14,hw,hw1];(refine hJ _ _ ?_;clear hJ J;simp only [ak,reduceIte])))
   refine hJJ (g.vs.length - 1) _ _ (by omega) ⟨1,by omega,rfl,by simp [f1],by simp [f4],by simp [f5],by simp [f12],by simp [f13],by simp,(((hkp.trans hk3).trans (Keeps.new _ _)).trans (Keeps.new _ _)).set (Nat.le_refl _) _,by simp;omega,.ms (s3.next+1) 0 1,by simp,.inr ⟨s3.next+1,rfl,by omega,by simp,?_⟩⟩
   rw [hrow,set_H,if_neg (by omega)]
   simp
  ·generalize hR:rowsL ((g.vs.map fun v=>nrm (tf v)).take k)=R at *
   have hzl:R.length=k:=by rw [← hR];simp;omega
   (repeat' (first | refine qS ?_ | (refine w_e [] ?_;intro J hJ;simp only [];simp [f12,f13,f14,hlt,hd];(refine hJ _ _ ?_;clear hJ J;simp only [ak,reduceIte]))))
   (refine qC ?_;simp [])
   (repeat' (first | refine qS ?_ | refine qB ?_ | (refine qK ?_;simp only [ak,reduceIte]) | (refine w_e [] ?_;intro J hJ;simp only [];simp [f1,f5,f12,f13,f14,hlt,hd];(refine hJ _ _ ?_;clear hJ J;simp only [ak,reduceIte]))))
   (refine w_s [25] [s1.next,q] [(0,true),(1,true),(2,true),(3,true),(4,true),(5,true),(6,true),(7,true),(8,true),(9,false)] ?_;intro J hJ;simp [f1,f5,hB,hM2,hx1,hqn])
   refine qD (Normal (tf v) t _ (by simp only [small];omega)) (by simp only [List.map_cons,List.map_nil,hx2]) ?_;rintro r s3 ⟨rfl,hk3⟩
   have hB3:=(hk3.H s1.next (by omega)).trans hB
   have hM3:=(hk3.H q (by have:=hkp.next;omega)).trans hM2
   have hz3:=(hk3.H z (by omega)).trans hz
   have hn3:=hk3.next
   have ne4:¬ s1.next=s3.next:=by omega
   have ne5:¬ s1.next=s3.next+1:=by omega
   have ne6:¬ q=s3.next+1:=by omega
   have ne7:¬ q=s3.next:=by omega
   have ne8:¬ s1.next=z:=by omega
   have ne9:¬ z=s3.next:=by omega
   have ne10:¬ q=z:=by omega
   have htk:R.take k=R:=List.take_of_length_le (by omega)
   refine ⟨fun _=>by simp [hB3,hM3,hB,hM2],?_⟩
   (refine d_go ?_;simp [f5,hB3,hM3,hB,hM2,ne4,ne5,ne6,ne7,ne8,ne9,ne10,hz3,hzl,htk];(repeat refine ca ?_);(refine hJ _ _ ?_;clear hJ J;simp only [ak,reduceIte]))
   (repeat' (refine w_e [] ?_;intro J hJ;simp only [];simp [f5,f14,hw];(refine hJ _ _ ?_;clear hJ J;simp only [ak,reduceIte])))
   refine hJJ (g.vs.length - (k+1)) _ _ (by omega) ⟨k+1,by omega,rfl,by simp [f1],by simp [f4],by simp [f5],by simp [f12],by simp [f13],by simp,((((hkp.trans hk3).trans (Keeps.new _ _)).set (by omega) _).trans (Keeps.new _ _)).set (Nat.le_refl _) _,by simp;omega,.ms (s3.next+1) 0 (k+1),by simp,.inr ⟨s3.next+1,rfl,by omega,by simp,?_⟩⟩
   rw [hrow,set_H,if_neg (by omega)]
   simp
 ·have hkk:k=g.vs.length:=by omega
  have hBR:¬ s1.next=st.next+1:=by omega
  have hR2:=(hkp.H (st.next+1) (by omega)).trans hR1
  have hKK:Keeps st st2:=(((Keeps.new _ _).trans (Keeps.new _ _)).trans hk1).trans hkp
  rcases hcz with ⟨h0,rfl⟩ | ⟨z,rfl,hz1,hz2,hz⟩
  ·(repeat' (first | refine qS ?_ | (refine qX ?_;simp only [ak,reduceIte]) | (refine qR ?_;simp only [ak,reduceIte];simp [f12,f13,f14,hlt,f4,f5,hB,hR2]) | (refine qC ?_;simp [f12,f13,f14,hlt,f4,f5,hB,hR2]) | (refine w_e [] ?_;intro J hJ;simp only [];simp [f12,f13,f14,hlt,f4,f5,hB,hR2];(refine hJ _ _ ?_;clear hJ J;simp only [ak,reduceIte]))))
   exact ⟨⟨by omega,List.length_eq_zero_iff.mp (by omega)⟩,hKK.set (by omega) _⟩
  ·(repeat' (first | refine qS ?_ | (refine qX ?_;simp only [ak,reduceIte]) | (refine qR ?_;simp only [ak,reduceIte];simp [f12,f13,f14,hlt,f4,f5,hB,hR2]) | (refine qC ?_;simp [f12,f13,f14,hlt,f4,f5,hB,hR2]) | (refine w_e [] ?_;intro J hJ;simp only [];simp [f12,f13,f14,hlt,f4,f5,hB,hR2];(refine hJ _ _ ?_;clear hJ J;simp only [ak,reduceIte]))))
   have hmm:(g.vs.map fun v=>nrm (tf v)).take k=g.vs.map fun v=>nrm (tf v):=List.take_of_length_le (by simp;omega)
   rw [hmm] at hz
   exact ⟨z,k,⟨rfl,rfl⟩,_,by rw [if_neg (by omega),hz],by simp;omega,⟨hkk,by rw [List.take_of_length_le (by simp;omega)];simp⟩,(hKK.set (by omega) _).set (by omega) _⟩
theorem ref_CheckA (g:Gr) (st:St):ACalls Tryz.prog 11 [.ag (grL g)] st fun r st'=>r=i (chk g)∧Keeps st st':=by
 by_cases h1:(64:Int) < (g.vs.length:Int)
 ·have:chk g=6:=by unfold chk;rw [if_pos (by omega)]
  refine qO tabOk Tryz.func11 rfl rfl Tryz.ntmps11 (rs:=[.tmp 2]) rfl (by simp) ?_
  (repeat' (first | refine qS ?_ | (refine qR ?_;simp only [ak,reduceIte];simp [h1,this]) | (refine qC ?_;simp [h1,this]) | (refine w_e [] ?_;intro J hJ;simp only [];simp [h1,this];(refine hJ _ _ ?_;clear hJ J;simp only [ak,reduceIte]))))
  exact Keeps.new _ _
 by_cases h2:(160:Int) < (g.es.length:Int)
 ·have:chk g=6:=by unfold chk;rw [if_pos (by omega)]
  refine qO tabOk Tryz.func11 rfl rfl Tryz.ntmps11 (rs:=[.tmp 2]) rfl (by simp) ?_
  (repeat' (first | refine qS ?_ | (refine qR ?_;simp only [ak,reduceIte];simp [h1,h2,this]) | (refine qC ?_;simp [h1,h2,this]) | (refine w_e [] ?_;intro J hJ;simp only [];simp [h1,h2,this];(refine hJ _ _ ?_;clear hJ J;simp only [ak,reduceIte]))))
  exact Keeps.new _ _
 exact ref_Check g st (by omega) (by omega)
theorem chk_vs {g:Gr} (h:chk g=0):g.vs.length≤64∧g.es.length≤160:=by
 unfold chk at h
 by_cases hc:64 < g.vs.length∨160 < g.es.length
 ·rw [if_pos hc] at h;cases h
 ·omega
theorem awp_posG {P:Program} {N:Nat} {Q:AQ} {c:Code} {fr:Frm} {st:St} (h:0 < st.next→AWp P N c Q fr st):AWp P N c Q fr st:=
 fun a w g hi hr hs hd=>h hi.pos a w g hi hr hs hd
def end1 (v:Int) (x:Ed):List Int:=(if x.a=v then [2 * x.id] else [])++(if x.b=v then [2 * x.id+1] else [])
def ends (es:List Ed) (v:Int):List Int:=es.flatMap (end1 v)
theorem flat_takeE (f:Ed→List Int) (l:List Ed) (k:Nat) (hk:k < l.length):(l.take (k+1)).flatMap f=(l.take k).flatMap f++f (l.getD k ed0):=by
 rw [List.take_succ_eq_append_getElem hk,List.flatMap_append,List.getD_eq_getElem?_getD,List.getElem?_eq_getElem hk];simp
theorem flat_len (f:Ed→List Int) (hf:∀ x,(f x).length≤2) (l:List Ed):(l.flatMap f).length≤2 * l.length:=by
 induction l with
 | nil=>simp
 | cons x l ih=>have:=hf x;simp only [List.flatMap_cons,List.length_append,List.length_cons];omega
def idOk (es:List Ed):Prop:=∀ x∈es,0≤x.id∧x.id≤1048576
theorem wrap_u32' (n:Int) (h0:0≤n) (h1:n < 4294967296):IntKind.u32.wrap n=n:=by
 rw [wrap_u32];omega
theorem dOf (id e:Int) (st:St) (h0:0≤id) (h1:id≤1048576) (he:e=0∨e=1):ACalls Tryz.prog 48 [u id,i e] st fun r st'=>r=u (2 * id+e)∧st'=st:=by
 refine (Of id e st).mono ?_
 rintro r st' ⟨rfl,rfl⟩
 refine ⟨?_,rfl⟩
 have h2:id * 2 % 4294967296+e % 2=2 * id+e:=by omega
 rw [h2]
def nbr1 (v:Int) (x:Ed):List Int:=(if x.a=v then [x.b] else [])++(if x.b=v then [x.a] else [])
def nbr (es:List Ed) (v:Int):List Int:=es.flatMap (nbr1 v)
theorem nbr1_len (v:Int) (x:Ed):(nbr1 v x).length≤2:=by
 unfold nbr1;split<;>split<;>simp
def NearI (lo m:Nat) (es:List (List Int×LV)) (st:St) (f:Int→List Int) (tok:Int→Nat):Prop:=
 ∀ v,(tok v=0→f v=[]∧mget es [v]=none)∧(tok v≠0→mget es [v]=some (.sl (tok v) (f v).length (us (f v)))∧lo≤tok v∧tok v < st.next∧tok v≠m∧st.H (tok v)=.own 26 1 (f v).length∧∀ w,tok w=tok v→w=v)
theorem NearI.step {lo m:Nat} {es:List (List Int×LV)} {st st':St} {f:Int→List Int} {tok:Int→Nat} (h:NearI lo m es st f tok) (a x:Int) (N:Nat) (hN:st.next≤N) (hN':N < st'.next) (hm:m < st.next) (h0:0 < st.next) (hlo:lo≤st.next)
 (hH:∀ l,l≠tok a→l≠m→l < st.next→st'.H l=st.H l) (hO:st'.H N=.own 26 1 ((f a).length+1)):
 NearI lo m (mset es [a] (.sl N ((f a).length+1) (us (f a++[x])))) st' (fun v=>if v=a then f a++[x] else f v) (fun v=>if v=a then N else tok v):=by
 intro v
 by_cases hv:v=a
 ·subst hv
  simp only [if_true]
  refine ⟨fun h1=>by omega,fun _=>⟨by rw [mget_mset];simp,by omega,hN',by omega,by rw [hO];simp,fun w hw=>?_⟩⟩
  by_cases hwv:w=v
  ·exact hwv
  ·rw [if_neg hwv] at hw
   by_cases h1:tok w=0
   ·omega
   ·have:=((h w).2 h1).2.2.1;omega
 ·simp only [if_neg hv]
  have hne:¬ ([v]:List Int)=[a]:=by simpa using hv
  refine ⟨fun h1=>⟨((h v).1 h1).1,by rw [mget_mset,if_neg hne];exact ((h v).1 h1).2⟩,fun h1=>?_⟩
  obtain ⟨k1,k2,k3,k4,k5,k6⟩:=(h v).2 h1
  refine ⟨by rw [mget_mset,if_neg hne];exact k1,k2,by omega,k4,?_,fun w hw=>?_⟩
  ·rw [hH (tok v) (fun e=>hv (k6 a e.symm).symm) k4 k3];exact k5
  ·by_cases hwa:w=a
   ·subst hwa;simp only [if_true] at hw;omega
   ·rw [if_neg hwa] at hw;exact k6 w hw
def RowsAt (es:List (List Int×LV)) (f:Int→List Int):Prop:=∀ v,∃ t,norm ((mget es [v]).getD .nil)=.sl t (f v).length (us (f v))
def NearJ (n0 m:Nat) (st:St) (l:List Ed) (k:Nat) (id a b:Int) (f:Int→List Int) (fr:Frm) (st2:St):Prop:=
 fr 3=.mp (m)∧fr 8=.sl 0 l.length (eds l)∧fr 9=i l.length∧fr 10=i k∧Keeps st st2∧m < st2.next∧(∃ q,fr 5=.pt q 0∧st2.H q=.box 38 3 [u id,u a,u b]∧q < st2.next)∧∃ es tok,st2.H (m)=.map false [.u32] es∧NearI n0 m es st2 f tok
theorem near (g:Gr) (st:St) (he:g.es.length≤1000):
 ACalls Tryz.prog 42 [.ag (grL g)] st fun r st'=>∃ m es,r=.mp m∧st.next≤m∧m < st'.next∧st'.H m=.map false [.u32] es∧Keeps st st'∧RowsAt es (nbr g.es):=by
 obtain ⟨vs,l⟩:=g
 simp only at he ⊢
 have hel:=eds_length l
 have hfl:=fun v k=>flat_len (nbr1 v) (nbr1_len v) (l.take k)
 refine qO tabOk Tryz.func42 rfl rfl Tryz.ntmps42 (rs:=[.tmp 2]) rfl (by simp) ?_
 (repeat' (first | refine qS ?_ | refine qB ?_ | (refine w_e [] ?_;intro J hJ;simp only [];simp [];(refine hJ _ _ ?_;clear hJ J;simp only [ak,reduceIte]))))
 refine awp_posG fun hpos=>?_
 obtain ⟨m,hm⟩:∃ m,m=st.next+1:=⟨_,rfl⟩
 refine qL (fun n fr st2=>∃ k:Nat,k≤l.length∧n=l.length - k∧fr 3=.mp m∧fr 8=.sl 0 l.length (eds l)∧fr 9=i l.length∧fr 10=i k∧Keeps st st2∧m < st2.next∧∃ es tok,st2.H m=.map false [.u32] es∧NearI st.next m es st2 (nbr (l.take k)) tok) l.length ?_ ?_
 ·exact ⟨0,by omega,by omega,by simp [hm],by simp,by simp,by simp,(Keeps.new _ _).trans (Keeps.new _ _),by simp [hm],[],fun _=>0,by simp [hm],fun v=>⟨fun _=>⟨by simp [nbr],rfl⟩,fun h=>absurd rfl h⟩⟩
 rintro n fr st2 ⟨k,hk,rfl,f3,f8,f9,f10,hkp,hmn,es,tok,hM,hN⟩ JJ hJJ
 by_cases hlt:k < l.length
 rotate_left
 ·clear hJJ
  have hk':k=l.length:=by omega
  rw [hk',List.take_length] at hN
  (repeat' (first | refine qS ?_ | (refine qX ?_;simp only [ak,reduceIte]) | (refine qR ?_;simp only [ak,reduceIte];simp [f3,f9,f10,hlt]) | (refine qC ?_;simp [f3,f9,f10,hlt]) | (refine w_e [] ?_;intro J hJ;simp only [];simp [f3,f9,f10,hlt];(refine hJ _ _ ?_;clear hJ J;simp only [ak,reduceIte]))))
  refine ⟨by omega,hmn,es,hM,hkp,fun v=>?_⟩
  by_cases h0:tok v=0
  ·obtain ⟨h1,h2⟩:=(hN v).1 h0
   exact ⟨0,by rw [h1,h2];rfl⟩
  ·obtain ⟨h1,-⟩:=(hN v).2 h0
   exact ⟨tok v,by rw [h1];rfl⟩
 have hd:=eds_drop l k hlt
 have hw:=qN k (by omega)
 have hk3:k * 3 < l.length * 3:=by omega
 have hst:∀ v,nbr (l.take (k+1)) v=nbr (l.take k) v++nbr1 v (l.getD k ed0):=fun v=>flat_takeE _ _ _ hlt
 have hle:∀ v,(nbr (l.take k) v).length≤2 * k:=fun v=>by have:=hfl v k;rw [List.length_take] at this;unfold nbr;omega
 generalize hx:l.getD k ed0=x at *
 obtain ⟨id,a,b⟩:=x
 simp only at hd
 generalize hF:nbr (l.take k)=f at *
 (repeat' (first | refine qS ?_ | refine qB ?_ | (refine qK ?_;simp only [ak,reduceIte]) | (refine qC ?_;simp [f8,f9,f10,hlt,hd,hel]) | (refine w_e [] ?_;intro J hJ;simp only [];simp [f8,f9,f10,hlt,hd,hel];(refine hJ _ _ ?_;clear hJ J;simp only [ak,reduceIte]))))
 have hm2:¬ m=st2.next:=by omega
 have hm3:¬ st2.next=m:=by omega
 have hm4:¬ m=st2.next+1:=by omega
 have hm5:¬ m=st2.next+1+1:=by omega
 have hn2:¬ st2.next=st2.next+1+1:=by omega
 refine awp_cut1 (NearJ st.next m st l k id a b (fun v=>if v=a then f a++[b] else f v)) ?_ ?_
 ·clear hJJ
  have hla:=hle a
  by_cases h0:tok a=0
  ·obtain ⟨h1,h2⟩:=(hN a).1 h0
   (refine w_s [] [st2.next,m] [(0,true),(1,true),(2,true),(3,true),(4,true),(5,true),(6,true),(7,true),(8,true),(9,true),(10,true),(11,false)] ?_;intro J hJ;simp [f3,hM,h2,hm2,hm3,hm4,hm5,hn2];(repeat refine ca ?_);(refine hJ _ _ ?_;clear hJ J;simp only [ak,reduceIte]))
   refine ⟨by trivial,?_⟩
   have e:LV.sl (st2.next+1+1) ((f a).length+1) (us (f a++[b]))=.sl (st2.next+1+1) 1 [u b]:=by rw [h1];rfl
   refine ⟨by simp [f3],by simp [f8],by simp [f9],by simp [f10],(by repeat (first | exact hkp | (refine Keeps.trans ?_ (Keeps.new _ _)) | (refine Keeps.set ?_ (by have:=hkp.next;omega) _))),by simp;omega,⟨st2.next,by simp,by simp [hm3,hn2],by simp;omega⟩,_,fun v=>if v=a then st2.next+1+1 else tok v,by simp;rfl,?_⟩
   rw [← e]
   refine hN.step a b (st2.next+1+1) (by omega) (by simp) hmn (by omega) (by have:=hkp.next;omega) (fun l e1 e2 e3=>?_) (by rw [h1];simp [Ne.symm hm5])
   have a1:¬ l=st2.next:=by omega
   have a2:¬ l=st2.next+1:=by omega
   have a3:¬ l=st2.next+1+1:=by omega
   simp [a1,a2,a3,e1,e2]
  ·obtain ⟨h1,h2,h3,h4,h5,h6⟩:=(hN a).2 h0
   have ht1:¬ tok a=st2.next:=by omega
   have ht2:¬ st2.next=tok a:=by omega
   have ht3:¬ tok a=st2.next+1:=by omega
   have ht4:¬ m=tok a:=fun h=>h4 h.symm
   (refine w_s [] [st2.next,m] [(0,true),(1,true),(2,true),(3,true),(4,true),(5,true),(6,true),(7,true),(8,true),(9,true),(10,true),(11,false)] ?_;intro J hJ;simp [f3,hM,h1,h5,h0,hm2,hm3,hm4,hm5,hn2,ht1,ht2,ht3,ht4];(repeat refine ca ?_);(refine hJ _ _ ?_;clear hJ J;simp only [ak,reduceIte]))
   refine ⟨by trivial,?_⟩
   have e:LV.sl (st2.next+1+1) ((f a).length+1) (us (f a++[b]))=.sl (st2.next+1+1) ((f a).length+1) (us (f a)++[u b]):=by simp
   refine ⟨by simp [f3],by simp [f8],by simp [f9],by simp [f10],(by repeat (first | exact hkp | (refine Keeps.trans ?_ (Keeps.new _ _)) | (refine Keeps.set ?_ (by have:=hkp.next;omega) _))),by simp;omega,⟨st2.next,by simp,by simp [hm3,hn2,ht2],by simp;omega⟩,_,fun v=>if v=a then st2.next+1+1 else tok v,by simp;rfl,?_⟩
   rw [← e]
   refine hN.step a b (st2.next+1+1) (by omega) (by simp) hmn (by omega) (by have:=hkp.next;omega) (fun l e1 e2 e3=>?_) (by simp [Ne.symm hm5])
   have a1:¬ l=st2.next:=by omega
   have a2:¬ l=st2.next+1:=by omega
   have a3:¬ l=st2.next+1+1:=by omega
   simp [a1,a2,a3,e1,e2]
 clear f3 f8 f9 f10 hkp hmn hM hN hm2 hm3 hm4 hm5 hn2 tok es st2 fr
 rintro fr st2 ⟨f3,f8,f9,f10,hkp,hmn,⟨q,f5,hq,hqn⟩,es,tok,hM,hN⟩
 generalize hf2:(fun v=>if v=a then f a++[b] else f v)=f2 at *
 have hle2:(f2 b).length≤2 * k+1:=by
  rw [← hf2]
  simp only
  split
  ·have:=hle a;simp;omega
  ·have:=hle b;omega
 have hfin:∀ v,nbr (l.take (k+1)) v=(if v=b then f2 b++[a] else f2 v):=by
  intro v
  rw [hst v,← hf2]
  unfold nbr1
  simp only
  by_cases hva:v=a
  ·subst hva
   by_cases hvb:v=b
   ·subst hvb;simp
   ·simp [hvb,Ne.symm hvb]
  ·by_cases hvb:v=b
   ·subst hvb;simp [hva,Ne.symm hva]
   ·simp [hva,hvb,Ne.symm hva,Ne.symm hvb]
 have hfin':nbr (l.take (k+1))=fun v=>if v=b then f2 b++[a] else f2 v:=funext hfin
 have hm2:¬ m=st2.next:=by omega
 have hm5:¬ m=st2.next+1:=by omega
 have hq2:¬ q=st2.next:=by omega
 have hqm:¬ q=m:=fun h=>by rw [h,hM] at hq;cases hq
 by_cases h0:tok b=0
 ·obtain ⟨h1,h2⟩:=(hN b).1 h0
  (refine w_s [] [q,m] [(0,true),(1,true),(2,true),(3,true),(4,true),(5,true),(6,true),(7,true),(8,true),(9,true),(10,true),(11,false)] ?_;intro J hJ;simp [f3,f5,hq,hM,h2,hm2,hm5,hq2,hqm];(repeat refine ca ?_);(refine hJ _ _ ?_;clear hJ J;simp only [ak,reduceIte]))
  (repeat' (refine w_e [] ?_;intro J hJ;simp only [];simp [f10,hw];(refine hJ _ _ ?_;clear hJ J;simp only [ak,reduceIte])))
  have e:LV.sl (st2.next+1) ((f2 b).length+1) (us (f2 b++[a]))=.sl (st2.next+1) 1 [u a]:=by rw [h1];rfl
  refine hJJ (l.length - (k+1)) _ _ (by omega) ⟨k+1,by omega,rfl,by simp [f3],by simp [f8],by simp [f9],by simp,(by repeat (first | exact hkp | (refine Keeps.trans ?_ (Keeps.new _ _)) | (refine Keeps.set ?_ (by have:=hkp.next;omega) _))),by simp;omega,_,fun v=>if v=b then st2.next+1 else tok v,by simp;rfl,?_⟩
  rw [← e,hfin']
  refine hN.step b a (st2.next+1) (by omega) (by simp) hmn (by omega) (by have:=hkp.next;omega) (fun l e1 e2 e3=>?_) (by rw [h1];simp [Ne.symm hm5])
  have a1:¬ l=st2.next:=by omega
  have a2:¬ l=st2.next+1:=by omega
  simp [a1,a2,e1,e2]
 ·obtain ⟨h1,h2,h3,h4,h5,h6⟩:=(hN b).2 h0
  have ht1:¬ tok b=st2.next:=by omega
  have ht2:¬ st2.next=tok b:=by omega
  have ht4:¬ m=tok b:=fun h=>h4 h.symm
  have ht5:¬ q=tok b:=fun h=>by rw [h,h5] at hq;cases hq
  (refine w_s [] [q,m] [(0,true),(1,true),(2,true),(3,true),(4,true),(5,true),(6,true),(7,true),(8,true),(9,true),(10,true),(11,false)] ?_;intro J hJ;simp [f3,f5,hq,hM,h1,h5,h0,hm2,hm5,hq2,hqm,ht1,ht2,ht4,ht5];(repeat refine ca ?_);(refine hJ _ _ ?_;clear hJ J;simp only [ak,reduceIte]))
  (repeat' (refine w_e [] ?_;intro J hJ;simp only [];simp [f10,hw];(refine hJ _ _ ?_;clear hJ J;simp only [ak,reduceIte])))
  have e:LV.sl (st2.next+1) ((f2 b).length+1) (us (f2 b++[a]))=.sl (st2.next+1) ((f2 b).length+1) (us (f2 b)++[u a]):=by simp
  refine hJJ (l.length - (k+1)) _ _ (by omega) ⟨k+1,by omega,rfl,by simp [f3],by simp [f8],by simp [f9],by simp,(by repeat (first | exact hkp | (refine Keeps.trans ?_ (Keeps.new _ _)) | (refine Keeps.set ?_ (by have:=hkp.next;omega) _))),by simp;omega,_,fun v=>if v=b then st2.next+1 else tok v,by simp;rfl,?_⟩
  rw [← e,hfin']
  refine hN.step b a (st2.next+1) (by omega) (by simp) hmn (by omega) (by have:=hkp.next;omega) (fun l e1 e2 e3=>?_) (by simp [Ne.symm hm5])
  have a1:¬ l=st2.next:=by omega
  have a2:¬ l=st2.next+1:=by omega
  simp [a1,a2,e1,e2]
theorem RowsAt.cases {es:List (List Int×LV)} {f:Int→List Int} (h:RowsAt es f) (v:Int):((mget es [v]).getD .nil=.nil∧f v=[])∨∃ t,(mget es [v]).getD .nil=.sl t (f v).length (us (f v)):=by
 obtain ⟨t,ht⟩:=h v
 cases hx:(mget es [v]).getD .nil with
 | nil=>
   rw [hx] at ht
   left
   refine ⟨rfl,?_⟩
   simp only [norm,LV.sl.injEq] at ht
   exact List.eq_nil_of_length_eq_zero ht.2.1.symm
 | _=>rw [hx] at ht;simp [norm] at ht<;>exact .inr ⟨t,by simp [ht]⟩
def alone (g:Gr):Nat:=g.vs.countP fun v=>decide (nbr g.es v=[])
theorem count_take (p:Int→Bool) (l:List Int) (k:Nat) (hk:k < l.length):(l.take (k+1)).countP p=(l.take k).countP p+(if p (l.getD k 0)=true then 1 else 0):=by
 rw [List.take_succ_eq_append_getElem hk,List.countP_append,getD_lt _ _ hk]
 simp [List.countP_cons]
theorem Alone (g:Gr) (st:St) (hv:g.vs.length≤1000) (he:g.es.length≤1000):
 ACalls Tryz.prog 18 [.ag (grL g)] st fun r st'=>r=i (alone g)∧Keeps st st':=by
 obtain ⟨p,hp⟩:∃ p:Int→Bool,p=fun v=>decide (nbr g.es v=[]):=⟨_,rfl⟩
 have hal:alone g=g.vs.countP p:=by rw [hp];rfl
 refine qO tabOk Tryz.func18 rfl rfl Tryz.ntmps18 (rs:=[.tmp 2]) rfl (by simp) ?_
 (repeat' (first | refine qS ?_ | (refine w_e [] ?_;intro J hJ;simp only [];simp [];(try (refine hJ _ _ ?_;clear hJ J;simp only [ak,reduceIte])))))
 refine qE (near g _ he) (by simp) ?_;rintro r s1 ⟨m,es,rfl,hm1,hm2,hM,hk1,hR⟩
 have hG1:s1.H st.next=.box 35 2 (grL g):=by rw [hk1.H _ (by simp)];simp
 (repeat' (first | refine qS ?_ | refine qB ?_ | ((first | (refine w_e [] ?_;intro J hJ;simp only []) | (refine e_go ?_));simp [hG1];(refine hJ _ _ ?_;clear hJ J;simp only [ak,reduceIte]))))
 refine qL (fun n fr st2=>∃ k:Nat,k≤g.vs.length∧n=g.vs.length - k∧fr 4=.mp m∧fr 10=.sl 0 g.vs.length (us g.vs)∧fr 11=i g.vs.length∧fr 12=i k∧fr 3=i ((g.vs.take k).countP p)∧st2=s1) g.vs.length ?_ ?_
 ·exact ⟨0,by omega,by omega,by simp,by simp,by simp,by simp,by simp,rfl⟩
 rintro n fr st2 ⟨k,hk,rfl,f4,f10,f11,f12,f3,rfl⟩ JJ hJJ
 by_cases hlt:k < g.vs.length
 rotate_left
 ·clear hJJ
  have hk':k=g.vs.length:=by omega
  rw [hk',List.take_length] at f3
  (repeat' (first | refine qS ?_ | (refine qX ?_;simp only [ak,reduceIte]) | (refine qR ?_;simp only [ak,reduceIte];simp [f3,f11,f12,hlt]) | (refine qC ?_;simp [f3,f11,f12,hlt]) | (refine w_e [] ?_;intro J hJ;simp only [];simp [f3,f11,f12,hlt];(refine hJ _ _ ?_;clear hJ J;simp only [ak,reduceIte]))))
  exact ⟨by rw [hal],(Keeps.new _ _).trans hk1⟩
 have hd:=qG g.vs k hlt
 have hw:=qN k (by omega)
 have hct:=count_take p g.vs k hlt
 have hcl:(g.vs.take k).countP p≤k:=by have:=List.countP_le_length (p:=p) (l:=g.vs.take k);rw [List.length_take] at this;omega
 generalize hx:g.vs.getD k 0=x at *
 generalize (g.vs.take k).countP p=z at *
 have hz:=qN z (by omega)
 rcases hR.cases x with ⟨h1,h2⟩ | ⟨t,h1⟩
 ·have hpx:p x=true:=by rw [hp];simp [h2]
  rw [hpx] at hct
  (repeat' (first | refine qS ?_ | refine qB ?_ | (refine qK ?_;simp only [ak,reduceIte]) | (refine qC ?_;simp [f3,f4,f10,f11,f12,hlt,hd,hw,hM,h1,hz]) | (refine w_e [] ?_;intro J hJ;simp only [];simp [f3,f4,f10,f11,f12,hlt,hd,hw,hM,h1,hz];(refine hJ _ _ ?_;clear hJ J;simp only [ak,reduceIte]))))
  refine hJJ (g.vs.length - (k+1)) _ _ (by omega) ⟨k+1,by omega,rfl,by simp [f4],by simp [f10],by simp [f11],by simp,by rw [hct];simp,rfl⟩
 ·by_cases h2:nbr g.es x=[]
  ·have hpx:p x=true:=by rw [hp];simp [h2]
   rw [hpx] at hct
   rw [h2] at h1
   (repeat' (first | refine qS ?_ | refine qB ?_ | (refine qK ?_;simp only [ak,reduceIte]) | (refine qC ?_;simp [f3,f4,f10,f11,f12,hlt,hd,hw,hM,h1,hz]) | (refine w_e [] ?_;intro J hJ;simp only [];simp [f3,f4,f10,f11,f12,hlt,hd,hw,hM,h1,hz];(refine hJ _ _ ?_;clear hJ J;simp only [ak,reduceIte]))))
   refine hJJ (g.vs.length - (k+1)) _ _ (by omega) ⟨k+1,by omega,rfl,by simp [f4],by simp [f10],by simp [f11],by simp,by rw [hct];simp,rfl⟩
  ·have hpx:p x=false:=by rw [hp];simp [h2]
   rw [hpx] at hct
   have h3:¬ (nbr g.es x).length=0:=fun h=>h2 (List.eq_nil_of_length_eq_zero h)
   generalize nbr g.es x=y at *
   (repeat' (first | refine qS ?_ | refine qB ?_ | (refine qK ?_;simp only [ak,reduceIte]) | (refine qC ?_;simp [f3,f4,f10,f11,f12,hlt,hd,hw,hM,h1,hz,h2,h3]) | (refine w_e [] ?_;intro J hJ;simp only [];simp [f3,f4,f10,f11,f12,hlt,hd,hw,hM,h1,hz,h2,h3];(refine hJ _ _ ?_;clear hJ J;simp only [ak,reduceIte]))))
   refine hJJ (g.vs.length - (k+1)) _ _ (by omega) ⟨k+1,by omega,rfl,by simp [f4],by simp [f10],by simp [f11],by simp,by rw [hct];simp [f3],rfl⟩
inductive Reach (es:List Ed) (v:Int):Int→Prop
 | refl:Reach es v v
 | step {u w:Int} (h:Reach es v u) (hw:w∈nbr es u):Reach es v w
theorem mem_nbr {es:List Ed} {u w:Int}:w∈nbr es u↔∃ x∈es,(x.a=u∧x.b=w)∨(x.b=u∧x.a=w):=by
 unfold nbr nbr1
 simp only [List.mem_flatMap,List.mem_append]
 constructor
 ·rintro ⟨x,hx,h | h⟩
  ·refine ⟨x,hx,.inl ?_⟩
   split at h
   ·rename_i h1;simp at h;exact ⟨h1,h.symm⟩
   ·cases h
  ·refine ⟨x,hx,.inr ?_⟩
   split at h
   ·rename_i h1;simp at h;exact ⟨h1,h.symm⟩
   ·cases h
 ·rintro ⟨x,hx,⟨h1,h2⟩ | ⟨h1,h2⟩⟩
  ·exact ⟨x,hx,.inl (by simp [h1,h2])⟩
  ·exact ⟨x,hx,.inr (by simp [h1,h2])⟩
theorem nbr_symm {es:List Ed} {u w:Int} (h:w∈nbr es u):u∈nbr es w:=by
 rw [mem_nbr] at h ⊢
 obtain ⟨x,hx,⟨h1,h2⟩ | ⟨h1,h2⟩⟩:=h
 ·exact ⟨x,hx,.inr ⟨h2,h1⟩⟩
 ·exact ⟨x,hx,.inl ⟨h2,h1⟩⟩
structure Good (g:Gr):Prop where
 rise:g.vs.Pairwise (· < ·)
 ends:∀ x∈g.es,x.a∈g.vs∧x.b∈g.vs
theorem Good.nbr {g:Gr} (h:Good g) {u w:Int} (hw:w∈nbr g.es u):w∈g.vs:=by
 rw [mem_nbr] at hw
 obtain ⟨x,hx,⟨_,rfl⟩ | ⟨_,rfl⟩⟩:=hw
 ·exact (h.ends x hx).2
 ·exact (h.ends x hx).1
theorem Good.nodup {g:Gr} (h:Good g):g.vs.Nodup:=h.rise.imp fun h=>by omega
def TestE (f:FuncId) (caps:List LV) (st:St) (l:List Ed) (p:Ed→Bool):Prop:=∀ x∈l,∀ st2,Keeps st st2→ACalls Tryz.prog f (.ag (edL x)::caps) st2 fun r st3=>r=bb (p x)∧Keeps st2 st3
theorem filter_takeE (l:List Ed) (p:Ed→Bool) (k:Nat) (hk:k < l.length):(l.take (k+1)).filter p=if p (l.getD k ed0)=true then (l.take k).filter p++[l.getD k ed0] else (l.take k).filter p:=by
 rw [List.take_succ_eq_append_getElem hk,List.filter_append,List.getD_eq_getElem?_getD,List.getElem?_eq_getElem hk]
 by_cases h:p l[k]=true<;>simp [h]
def RowE (X:LV) (F:List Ed):Prop:=(X=.nil∧F=[])∨∃ t,X=.sl t F.length (eds F)
set_option maxHeartbeats 1000000 in
theorem Keep (g:Gr) (f:FuncId) (caps:List LV) (p:Ed→Bool) (st:St) (hv:g.vs.length≤1000) (he:g.es.length≤1000) (hp:TestE f caps st g.es p):
 ACalls Tryz.prog 38 [.ag (grL g),.fn (.func f) caps] st fun r st'=>(∃ X,r=.ag [.sl 0 g.vs.length (us g.vs),X]∧RowE X (g.es.filter p))∧Keeps st st':=by
 have hel:=eds_length g.es
 have hsm:small g.vs:=by unfold small;omega
 refine qO tabOk Tryz.func38 rfl rfl Tryz.ntmps38 (rs:=[.cell 4 35]) rfl (by simp) ?_
 (repeat' (first | refine qS ?_ | (refine w_e [] ?_;intro J hJ;simp only [];simp [];(try (refine hJ _ _ ?_;clear hJ J;simp only [ak,reduceIte])))))
 refine qE (Clone g.vs 0 _ hsm) (by simp) ?_;rintro r s1 ⟨rfl,hk1⟩
 have hn1:=hk1.next
 simp only [new_next] at hn1
 have hG1:s1.H st.next=.box 35 2 (grL g):=by rw [hk1.H _ (by simp;omega)];simp
 have hC1:s1.H (st.next+1)=.box 35 2 [.nil,.nil]:=by rw [hk1.H _ (by simp)];simp
 have e1:¬ st.next=s1.next:=by omega
 (repeat' (first | refine qS ?_ | refine qB ?_ | ((first | (refine w_e [] ?_;intro J hJ;simp only []) | (refine e_go ?_));simp [hG1,e1];(refine hJ _ _ ?_;clear hJ J;simp only [ak,reduceIte]))))
 have hkp1:Keeps st s1:=((Keeps.new _ _).trans (Keeps.new _ _)).trans hk1
 obtain ⟨q4,hq4⟩:∃ q,q=st.next+1:=⟨_,rfl⟩
 obtain ⟨q5,hq5⟩:∃ q,q=s1.next:=⟨_,rfl⟩
 refine qL (fun n fr st2=>∃ k:Nat,k≤g.es.length∧n=g.es.length - k∧fr 1=.fn (.func f) caps∧fr 4=.pt q4 0∧fr 5=.pt q5 0∧fr 13=.sl 0 g.es.length (eds g.es)∧fr 14=i g.es.length∧fr 15=i k∧Keeps st st2∧q5 < st2.next∧st2.H q4=.box 35 2 [.nil,.nil]∧∃ X,st2.H q5=.box 35 2 [.sl 0 g.vs.length (us g.vs),X]∧((X=.nil∧(g.es.take k).filter p=[])∨∃ t,X=.sl t ((g.es.take k).filter p).length (eds ((g.es.take k).filter p))∧t≠0∧q5 < t∧t < st2.next∧st2.H t=.own 38 3 ((g.es.take k).filter p).length)) g.es.length ?_ ?_
 ·have e2:¬ q4=s1.next:=by omega
  have e3:¬ st.next+1=s1.next:=by omega
  refine ⟨0,by omega,by omega,by simp,by simp [hq4],by simp [hq5],by simp,by simp,by simp,?_,by simp [hq5],by simp [e2,hC1,hq4,e3],.nil,by simp [hq5],.inl ⟨rfl,by simp⟩⟩
  (repeat (first | exact hkp1 | (refine Keeps.trans ?_ (Keeps.new _ _)) | (refine Keeps.set ?_ (by omega) _)))
 rintro n fr st2 ⟨k,hk,rfl,f1,f4,f5,f13,f14,f15,hkp,h5n,hC,X,hX,hXs⟩ JJ hJJ
 have e0:¬ q4=q5:=by omega
 by_cases hlt:k < g.es.length
 rotate_left
 ·clear hJJ
  have hk':k=g.es.length:=by omega
  rw [hk',List.take_length] at hXs
  rcases hXs with ⟨rfl,h⟩ | ⟨t,rfl,h⟩
  ·(repeat' (first | refine qS ?_ | (refine qX ?_;simp only [ak,reduceIte]) | (refine qR ?_;simp only [ak,reduceIte];simp [f4,f5,f14,f15,hlt,hX,hC,e0]) | (refine qC ?_;simp [f4,f5,f14,f15,hlt,hX,hC,e0]) | (refine w_e [] ?_;intro J hJ;simp only [];simp [f4,f5,f14,f15,hlt,hX,hC,e0];(refine hJ _ _ ?_;clear hJ J;simp only [ak,reduceIte]))))
   exact ⟨.inl ⟨rfl,h⟩,(by repeat (first | exact hkp | (refine Keeps.trans ?_ (Keeps.new _ _)) | (refine Keeps.set ?_ (by have:=hkp.next;omega) _)))⟩
  ·(repeat' (first | refine qS ?_ | (refine qX ?_;simp only [ak,reduceIte]) | (refine qR ?_;simp only [ak,reduceIte];simp [f4,f5,f14,f15,hlt,hX,hC,e0]) | (refine qC ?_;simp [f4,f5,f14,f15,hlt,hX,hC,e0]) | (refine w_e [] ?_;intro J hJ;simp only [];simp [f4,f5,f14,f15,hlt,hX,hC,e0];(refine hJ _ _ ?_;clear hJ J;simp only [ak,reduceIte]))))
   exact ⟨.inr ⟨t,rfl⟩,(by repeat (first | exact hkp | (refine Keeps.trans ?_ (Keeps.new _ _)) | (refine Keeps.set ?_ (by have:=hkp.next;omega) _)))⟩
 have hd:=eds_drop g.es k hlt
 have hw:=qN k (by omega)
 have hk3:k * 3 < g.es.length * 3:=by omega
 have hxin:g.es.getD k ed0∈g.es:=by rw [List.getD_eq_getElem?_getD,List.getElem?_eq_getElem hlt];exact List.getElem_mem hlt
 have hst:=filter_takeE g.es p k hlt
 have hle:=List.length_filter_le p (g.es.take k)
 rw [List.length_take] at hle
 have htest:=fun s h=>hp _ hxin s h
 generalize hx:g.es.getD k ed0=x at *
 generalize hFF:(g.es.take k).filter p=F at *
 have hFl:=eds_length F
 have hFo:(eds F).length=F.length * 3:=hFl
 obtain ⟨d,a,b⟩:=x
 simp only at hd htest
 (repeat' (first | refine qS ?_ | refine qB ?_ | (refine qK ?_;simp only [ak,reduceIte]) | (refine qC ?_;simp [f1,f13,f14,f15,hlt,hd,hel]) | (refine w_e [] ?_;intro J hJ;simp only [];simp [f1,f13,f14,f15,hlt,hd,hel];(try (refine hJ _ _ ?_;clear hJ J;simp only [ak,reduceIte])))))
 refine qF (htest _ (hkp.trans (Keeps.new _ (.box 38 3 [u d,u a,u b])))) ?_;rintro r s3 ⟨rfl,hk3'⟩
 have hn3:=hk3'.next
 simp only [new_next] at hn3
 have hkk:Keeps st2 s3:=(Keeps.new _ _).trans hk3'
 have hX3:=(hkk.H q5 h5n).trans hX
 have hC3:=(hkk.H q4 (by omega)).trans hC
 have hE3:s3.H st2.next=.box 38 3 [u d,u a,u b]:=by rw [hk3'.H _ (by simp)];simp
 have hkp3:Keeps st s3:=(hkp.trans (Keeps.new _ _)).trans hk3'
 have z1:¬ q5=s3.next:=by omega
 have z2:¬ q5=s3.next+1:=by omega
 have z3:¬ q4=s3.next:=by omega
 have z4:¬ q4=s3.next+1:=by omega
 have z5:¬ s3.next+1=q5:=by omega
 by_cases hpx:p ⟨d,a,b⟩=true
 rotate_left
 ·rw [if_neg hpx] at hst
  have hpx:p ⟨d,a,b⟩=false:=by simpa using hpx
  (repeat' (first | (refine qK ?_;simp only [ak,reduceIte]) | (refine qC ?_;simp [hpx,f15,hw]) | ((first | (refine w_e [] ?_;intro J hJ;simp only []) | (refine e_go ?_));simp [hpx,f15,hw];(refine hJ _ _ ?_;clear hJ J;simp only [ak,reduceIte]))))
  refine hJJ (g.es.length - (k+1)) _ _ (by omega) ⟨k+1,by omega,rfl,by simp [f1],by simp [f4],by simp [f5],by simp [f13],by simp [f14],by simp,hkp3,by omega,hC3,X,hX3,?_⟩
  rw [hst]
  rcases hXs with h | ⟨t,h,h0,h1,h2,h3⟩
  ·exact .inl h
  ·exact .inr ⟨t,h,h0,h1,by omega,(hkk.H t h2).trans h3⟩
 rw [if_pos hpx] at hst
 have hed:eds (F++[⟨d,a,b⟩])=eds F++[u d,u a,u b]:=by simp [eds]
 rcases hXs with ⟨rfl,hF0⟩ | ⟨t,rfl,h0,h1,h2,h3⟩
 ·(repeat' (first | (refine qC ?_;simp [hpx,f5,f15,hw,hX3,hE3,z1,z2]) | ((first | (refine w_e [] ?_;intro J hJ;simp only []) | (refine e_go ?_));simp [hpx,f5,f15,hw,hX3,hE3,z1,z2];(repeat refine ca ?_);(refine hJ _ _ ?_;clear hJ J;simp only [ak,reduceIte]))))
  refine hJJ (g.es.length - (k+1)) _ _ (by omega) ⟨k+1,by omega,rfl,by simp [f1],by simp [f4],by simp [f5],by simp [f13],by simp [f14],by simp,?_,by simp;omega,by simp [e0,z3,z4,hC3],_,by simp;rfl,.inr ⟨s3.next+1,by rw [hst,hed,hF0];simp [eds],by omega,by omega,by simp,by rw [hst,hF0];simp [z5]⟩⟩
  (repeat (first | exact hkp3 | (refine Keeps.trans ?_ (Keeps.new _ _)) | (refine Keeps.set ?_ (by omega) _)))
 ·have h3':s3.H t=.own 38 3 F.length:=(hkk.H t h2).trans h3
  have y1:¬ t=s3.next:=by omega
  have y2:¬ t=s3.next+1:=by omega
  have y3:¬ q5=t:=by omega
  have y4:¬ t=q5:=by omega
  have y5:¬ q4=t:=by omega
  (repeat' (first | (refine qC ?_;simp [hpx,f5,f15,hw,hX3,hE3,z1,z2,h3',h0,y1,y2,y3,y4,hFo]) | ((first | (refine w_e [] ?_;intro J hJ;simp only []) | (refine e_go ?_));simp [hpx,f5,f15,hw,hX3,hE3,z1,z2,h3',h0,y1,y2,y3,y4,hFo];(repeat refine ca ?_);(refine hJ _ _ ?_;clear hJ J;simp only [ak,reduceIte]))))
  refine hJJ (g.es.length - (k+1)) _ _ (by omega) ⟨k+1,by omega,rfl,by simp [f1],by simp [f4],by simp [f5],by simp [f13],by simp [f14],by simp,?_,by simp;omega,by simp [e0,z3,z4,y5,hC3],_,by simp;rfl,.inr ⟨s3.next+1,by rw [hst,hed];simp,by omega,by omega,by simp,by rw [hst];simp [z5]⟩⟩
  (repeat (first | exact hkp3 | (refine Keeps.trans ?_ (Keeps.new _ _)) | (refine Keeps.set ?_ (by omega) _)))
theorem firstNZ_all {f:Nat→Int} {n:Nat} (h:firstNZ f n=0):∀ j,j < n→f j=0:=by
 induction n with
 | zero=>intro j hj;omega
 | succ n ih=>
   intro j hj
   simp only [firstNZ] at h
   by_cases h0:firstNZ f n=0
   ·rw [if_neg (by simp [h0])] at h
    rcases Nat.lt_or_ge j n with h1 | h1
    ·exact ih h0 j h1
    ·obtain rfl:j=n:=by omega
     exact h
   ·rw [if_pos h0] at h;exact absurd h h0
theorem numb_zero {n a:Int} {b:Bool} (h:numb n a b=0):1≤n∧n≤1048576∧(b=false→a < n):=by
 unfold numb at h
 by_cases h1:n < 1∨1048576 < n
 ·rw [if_pos h1] at h;cases h
 ·rw [if_neg h1] at h
  by_cases h2:b=false∧n≤a
  ·rw [if_pos h2] at h;cases h
  ·refine ⟨by omega,by omega,fun hb=>?_⟩
   rcases Int.lt_or_le a n with h3 | h3
   ·exact h3
   ·exact absurd ⟨hb,h3⟩ h2
theorem rise_of {l:List Int} (h:∀ j,j < l.length→0 < j→l.getD (j - 1) 0 < l.getD j 0):l.Pairwise (· < ·):=by
 rw [List.pairwise_iff_getElem]
 intro a b ha hb hab
 induction b with
 | zero=>omega
 | succ b ih=>
   have h1:=h (b+1) hb (by omega)
   rw [Nat.add_sub_cancel,getD_lt _ _ hb,getD_lt _ _ (by omega)] at h1
   rcases Nat.lt_or_ge a b with h2 | h2
   ·have:=ih (by omega) h2;omega
   ·obtain rfl:a=b:=by omega
    exact h1
theorem chk_good {g:Gr} (h:chk g=0):Good g∧idOk g.es∧g.vs.length≤64∧g.es.length≤160:=by
 unfold chk at h
 by_cases h1:64 < g.vs.length∨160 < g.es.length
 ·rw [if_pos h1] at h;cases h
 ·rw [if_neg h1] at h
  by_cases h2:firstNZ (badV g) g.vs.length=0
  ·rw [if_neg (by simp [h2])] at h
   have hV:=firstNZ_all h2
   have hE:=firstNZ_all h
   have hEx:∀ j,j < g.es.length→(1≤(g.es.getD j ed0).id∧(g.es.getD j ed0).id≤1048576)∧(g.es.getD j ed0).a∈g.vs∧(g.es.getD j ed0).b∈g.vs:=by
    intro j hj
    have:=hE j hj
    unfold badE at this
    simp only at this
    by_cases h3:numb (g.es.getD j ed0).id (g.es.getD (j - 1) ed0).id (decide (j=0))=0
    ·rw [if_neg (fun h=>h h3)] at this
     by_cases h4:(g.es.getD j ed0).a=(g.es.getD j ed0).b
     ·rw [if_pos h4] at this;cases this
     ·rw [if_neg h4] at this
      by_cases h5:(g.es.getD j ed0).a∉g.vs∨(g.es.getD j ed0).b∉g.vs
      ·rw [if_pos h5] at this;cases this
      ·have h6:=numb_zero h3
       refine ⟨⟨h6.1,h6.2.1⟩,?_,?_⟩
       ·exact Classical.byContradiction fun h=>h5 (.inl h)
       ·exact Classical.byContradiction fun h=>h5 (.inr h)
    ·rw [if_pos h3] at this;exact absurd this h3
   have hget:∀ x∈g.es,∃ j,j < g.es.length∧g.es.getD j ed0=x:=by
    intro x hx
    obtain ⟨j,hj,rfl⟩:=List.getElem_of_mem hx
    exact ⟨j,hj,by rw [List.getD_eq_getElem?_getD,List.getElem?_eq_getElem hj];rfl⟩
   refine ⟨⟨rise_of fun j hj h0=>?_,fun x hx=>?_⟩,fun x hx=>?_,by omega,by omega⟩
   ·have:=(numb_zero (hV j hj)).2.2 (by simp;omega)
    exact this
   ·obtain ⟨j,hj,rfl⟩:=hget x hx
    exact (hEx j hj).2
   ·obtain ⟨j,hj,rfl⟩:=hget x hx
    have:=(hEx j hj).1;omega
  ·rw [if_pos h2] at h;exact absurd h h2
end Go.Proofs.YtiiejclelbilkaaGreatDoor.Aw
namespace Go.Proofs.YtiiejclelbilkaaGreatDoor.Aw
open Go Go.RowKit Go.Proofs.YtiiejclelbilkaaGreatDoor.Pl Go.Proofs.YtiiejclelbilkaaGreatDoor.Eu
set_option linter.unusedSimpArgs false
set_option linter.unusedVariables false
structure GoodE (g:Gr):Prop extends Good g where
 ids:g.es.Pairwise (fun x y=>x.id < y.id)
 pos:∀ x∈g.es,1≤x.id∧x.id≤1048576
 ne:∀ x∈g.es,x.a≠x.b
theorem getE_lt (l:List Ed) (j:Nat) (hj:j < l.length):l.getD j ed0=l[j]:=by
 rw [List.getD_eq_getElem?_getD,List.getElem?_eq_getElem hj];rfl
theorem chk_goodE {g:Gr} (h:chk g=0):GoodE g:=by
 obtain ⟨hg,_,_,_⟩:=chk_good h
 unfold chk at h
 by_cases h1:64 < g.vs.length∨160 < g.es.length
 ·rw [if_pos h1] at h;cases h
 rw [if_neg h1] at h
 by_cases h2:firstNZ (badV g) g.vs.length=0
 ·rw [if_neg (by simp [h2])] at h
  have hE:=firstNZ_all h
  have hEx:∀ j,j < g.es.length→((1≤(g.es.getD j ed0).id∧(g.es.getD j ed0).id≤1048576)∧(0 < j→(g.es.getD (j - 1) ed0).id < (g.es.getD j ed0).id))∧(g.es.getD j ed0).a≠(g.es.getD j ed0).b:=by
   intro j hj
   have:=hE j hj
   unfold badE at this
   simp only at this
   by_cases h3:numb (g.es.getD j ed0).id (g.es.getD (j - 1) ed0).id (decide (j=0))=0
   ·rw [if_neg (fun h=>h h3)] at this
    by_cases h4:(g.es.getD j ed0).a=(g.es.getD j ed0).b
    ·rw [if_pos h4] at this;cases this
    ·have h6:=numb_zero h3
     exact ⟨⟨⟨h6.1,h6.2.1⟩,fun h0=>h6.2.2 (by simp;omega)⟩,h4⟩
   ·rw [if_pos h3] at this;exact absurd this h3
  have hget:∀ x∈g.es,∃ j,j < g.es.length∧g.es.getD j ed0=x:=by
   intro x hx
   obtain ⟨j,hj,rfl⟩:=List.getElem_of_mem hx
   exact ⟨j,hj,getE_lt _ _ hj⟩
  refine ⟨hg,?_,fun x hx=>?_,fun x hx=>?_⟩
  ·rw [List.pairwise_iff_getElem]
   intro a b ha hb hab
   induction b with
   | zero=>omega
   | succ b ih=>
     have h1:=(hEx (b+1) hb).1.2 (by omega)
     rw [Nat.add_sub_cancel,getE_lt _ _ hb,getE_lt _ _ (by omega)] at h1
     rcases Nat.lt_or_ge a b with h2 | h2
     ·have:=ih (by omega) h2;omega
     ·obtain rfl:a=b:=by omega
      exact h1
  ·obtain ⟨j,hj,rfl⟩:=hget x hx
   exact (hEx j hj).1.1
  ·obtain ⟨j,hj,rfl⟩:=hget x hx
   exact (hEx j hj).2
 ·rw [if_pos h2] at h;exact absurd h h2
def okTurn (es:List Ed) (v:Int) (t:List Int):Prop:=t.Perm (ends es v)∧nrm t=t
structure MapOk (m:Mp):Prop where
 g:GoodE m.g
 len:m.rots.length=m.g.vs.length
 ok:∀ k,k < m.g.vs.length→okTurn m.g.es (m.g.vs.getD k 0) (m.rots.getD k [])
section
variable {m:Mp} (h:MapOk m)
include h
end
section
variable {m:Mp} (h:MapOk m)
include h
end
section
variable {m:Mp} (h:MapOk m)
include h
end
end Go.Proofs.YtiiejclelbilkaaGreatDoor.Aw
