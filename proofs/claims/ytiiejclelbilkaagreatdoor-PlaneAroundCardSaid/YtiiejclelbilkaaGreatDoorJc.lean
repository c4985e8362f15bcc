/- Maps as values. -/
import Derived.Test.YtiiejclelbilkaaGreatDoorJb
import Derived.Test.YtiiejclelbilkaaGreatDoorAwShp
import Derived.Test.YtiiejclelbilkaaGreatDoorAwSet
import Derived.Lib.TrailingZeros
import Derived.Test.YtiiejclelbilkaaGreatDoorAwTd
import Derived.Test.YtiiejclelbilkaaGreatDoorAwZ
import Derived.Test.YtiiejclelbilkaaGreatDoorAwRg
import Derived.Test.YtiiejclelbilkaaGreatDoorAwMr5
import Derived.Test.YtiiejclelbilkaaGreatDoorAwFn
import Derived.Laws.Bits64b
namespace Go.Proofs.YtiiejclelbilkaaGreatDoor.Aw
open Go Go.RowKit
set_option linter.unusedSimpArgs false
set_option linter.unusedVariables false
structure Mp where
 g:Gr
 rots:List (List Int)
 deriving DecidableEq
abbrev rowsL (rs:List (List Int)):List LV:=rs.map fun r=>.sl 0 r.length (us r)
abbrev mpL (m:Mp):List LV:=grL m.g++[.sl 0 m.rots.length (rowsL m.rots)]
theorem rowsL_drop (rs:List (List Int)) (k:Nat) (hk:k < rs.length):(rowsL rs).drop k=.sl 0 (rs.getD k []).length (us (rs.getD k []))::(rowsL rs).drop (k+1):=by
 unfold rowsL
 rw [List.drop_eq_getElem_cons (by simpa using hk)]
 simp [hk]
theorem mget_mset (es:List (List Int×LV)) (a x:List Int) (v:LV):mget (mset es a v) x=if x=a then some v else mget es x:=by
 induction es with
 | nil=>
   simp only [mset,mget,beq_iff_eq]
 | cons p es ih=>
   by_cases h:a=p.1
   ·have:mset (p::es) a v=(a,v)::es:=by simp [mset,h]
    rw [this]
    simp only [mget,beq_iff_eq]
    by_cases hx:x=a
    ·simp [hx]
    ·have:¬ x=p.1:=by rw [← h];exact hx
     simp [hx,this]
   ·have:mset (p::es) a v=p::mset es a v:=by simp [mset,h]
    rw [this]
    simp only [mget,beq_iff_eq]
    by_cases hx:x=p.1
    ·have:¬ x=a:=fun h'=>h (by rw [← h',hx])
     rw [if_pos hx,if_neg this,if_pos hx]
    ·simp [hx,ih]
end Go.Proofs.YtiiejclelbilkaaGreatDoor.Aw
namespace Go.Proofs.YtiiejclelbilkaaGreatDoor.Aw
open Go Go.RowKit Go.Proofs.YtiiejclelbilkaaGreatDoor.Pl
set_option linter.unusedSimpArgs false
set_option linter.unusedVariables false
@[simp] theorem new_set (st:St) (a b:LObj):(st.new a).set st.next b=st.new b:=St.ext' rfl fun y=>by by_cases hy:y=st.next<;>simp [hy]
theorem eds_length (l:List Ed):(eds l).length=l.length * 3:=by
 induction l with
 | nil=>rfl
 | cons e l ih=>simp only [eds,List.flatMap_cons,List.length_append,List.length_cons,List.length_nil] at ih ⊢;omega
abbrev ed0:Ed:=⟨0,0,0⟩
theorem eds_drop (l:List Ed) (k:Nat) (hk:k < l.length):(eds l).drop (k * 3)=u (l.getD k ed0).id::u (l.getD k ed0).a::u (l.getD k ed0).b::eds (l.drop (k+1)):=by
 induction l generalizing k with
 | nil=>simp at hk
 | cons e l ih=>
   cases k with
   | zero=>rfl
   | succ k=>
     have:(k+1) * 3=k * 3+1+1+1:=by omega
     rw [this]
     simp only [eds,List.flatMap_cons,edL,List.cons_append,List.drop_succ_cons,List.nil_append,List.getD_cons_succ]
     exact ih k (by simpa using hk)
def firstNZ (f:Nat→Int):Nat→Int
 | 0=>0
 | n+1=>if firstNZ f n≠0 then firstNZ f n else f n
theorem firstNZ_zero {f:Nat→Int} {n:Nat} (h:∀ j,j < n→f j=0):firstNZ f n=0:=by
 induction n with
 | zero=>rfl
 | succ n ih=>simp [firstNZ,ih (fun j hj=>h j (by omega)),h n (by omega)]
theorem firstNZ_eq {f:Nat→Int} {n k:Nat} {v:Int} (hk:k < n) (h:∀ j,j < k→f j=0) (hv:f k=v) (h0:v≠0):firstNZ f n=v:=by
 induction n with
 | zero=>omega
 | succ n ih=>
   rcases Nat.lt_or_ge k n with h1 | h1
   ·have:=ih h1
    simp [firstNZ,this,h0]
   ·have:k=n:=by omega
    subst this
    simp [firstNZ,firstNZ_zero h,hv]
def numb (n ahead:Int) (first:Bool):Int:=if n < 1∨1048576 < n then 2 else if first=false∧n≤ahead then 19 else 0
def badV (g:Gr) (k:Nat):Int:=numb (g.vs.getD k 0) (g.vs.getD (k - 1) 0) (decide (k=0))
def badE (g:Gr) (k:Nat):Int:=
 let x:=g.es.getD k ed0
 let n:=numb x.id (g.es.getD (k - 1) ed0).id (decide (k=0))
 if n≠0 then n else if x.a=x.b then 20 else if x.a∉g.vs∨x.b∉g.vs then 21 else 0
def chk (g:Gr):Int:=if 64 < g.vs.length∨160 < g.es.length then 6 else if firstNZ (badV g) g.vs.length≠0 then firstNZ (badV g) g.vs.length else firstNZ (badE g) g.es.length
theorem Vert (g:Gr) (v:Int) (st:St) (hl:small g.vs):
 ACalls Tryz.prog 76 [.ag (grL g),u v] st fun r st'=>r=i (gi g.vs v)∧Keeps st st':=by
 obtain ⟨l,es⟩:=g
 simp only at hl ⊢
 refine qO tabOk Tryz.func76 rfl rfl Tryz.ntmps76 (rs:=[.tmp 4]) rfl (by simp) ?_
 (repeat' (first | refine qS ?_ | (refine w_e [] ?_;intro J hJ;simp only [];simp [];(try (refine hJ _ _ ?_;clear hJ J;simp only [ak,reduceIte])))))
 refine qE (Index l 0 v _ hl) (by simp []) ?_;rintro r st' ⟨rfl,rfl⟩
 (repeat' (first | (refine qR ?_;simp only [ak,reduceIte];simp []) | (refine e_go ?_;simp [];(refine hJ _ _ ?_;clear hJ J;simp only [ak,reduceIte]))))
 exact Keeps.new _ _
theorem number (n ahead:Int) (first:Bool) (st:St):
 ACalls Tryz.prog 75 [u n,u ahead,bb first] st fun r st'=>r=i (numb n ahead first)∧st'=st:=by
 unfold numb
 refine qO tabOk Tryz.func75 rfl rfl Tryz.ntmps75 (rs:=[.tmp 6]) rfl (by simp) ?_
 by_cases h1:n < 1
 ·(repeat' (first | refine qS ?_ | refine qB ?_ | (refine qR ?_;simp only [ak,reduceIte];simp [h1]) | (refine qC ?_;simp [h1]) | (refine w_e [] ?_;intro J hJ;simp only [];simp [h1];(refine hJ _ _ ?_;clear hJ J;simp only [ak,reduceIte]))))
 by_cases h2:1048576 < n
 ·(repeat' (first | refine qS ?_ | refine qB ?_ | (refine qR ?_;simp only [ak,reduceIte];simp [h1,h2]) | (refine qC ?_;simp [h1,h2]) | (refine w_e [] ?_;intro J hJ;simp only [];simp [h1,h2];(refine hJ _ _ ?_;clear hJ J;simp only [ak,reduceIte]))))
 cases first
 ·by_cases h3:n≤ahead
  ·(repeat' (first | refine qS ?_ | refine qB ?_ | (refine qR ?_;simp only [ak,reduceIte];simp [h1,h2,h3]) | (refine qC ?_;simp [h1,h2,h3]) | (refine w_e [] ?_;intro J hJ;simp only [];simp [h1,h2,h3];(refine hJ _ _ ?_;clear hJ J;simp only [ak,reduceIte]))))
  ·(repeat' (first | refine qS ?_ | refine qB ?_ | (refine qK ?_;simp only [ak,reduceIte]) | (refine qR ?_;simp only [ak,reduceIte];simp [h1,h2,h3]) | (refine qC ?_;simp [h1,h2,h3]) | (refine w_e [] ?_;intro J hJ;simp only [];simp [h1,h2,h3];(refine hJ _ _ ?_;clear hJ J;simp only [ak,reduceIte]))))
 ·(repeat' (first | refine qS ?_ | refine qB ?_ | (refine qK ?_;simp only [ak,reduceIte]) | (refine qR ?_;simp only [ak,reduceIte];simp [h1,h2]) | (refine qC ?_;simp [h1,h2]) | (refine w_e [] ?_;intro J hJ;simp only [];simp [h1,h2];(refine hJ _ _ ?_;clear hJ J;simp only [ak,reduceIte]))))
theorem Check (g:Gr) (st:St) (hv:g.vs.length≤1000) (he:g.es.length≤1000):
 ACalls Tryz.prog 46 [.ag (grL g)] st fun r st'=>r=i (chk g)∧Keeps st st':=by
 have hsm:small g.vs:=by unfold small;omega
 refine qO tabOk Tryz.func46 rfl rfl Tryz.ntmps46 (rs:=[.tmp 2]) rfl (by simp) ?_
 by_cases h1:(64:Int) < (g.vs.length:Int)
 ·have:chk g=6:=by unfold chk;rw [if_pos (by omega)]
  (repeat' (first | refine qS ?_ | (refine qR ?_;simp only [ak,reduceIte];simp [h1,this]) | (refine qC ?_;simp [h1,this]) | (refine w_e [] ?_;intro J hJ;simp only [];simp [h1,this];(refine hJ _ _ ?_;clear hJ J;simp only [ak,reduceIte]))))
  exact Keeps.new _ _
 by_cases h2:(160:Int) < (g.es.length:Int)
 ·have:chk g=6:=by unfold chk;rw [if_pos (by omega)]
  (repeat' (first | refine qS ?_ | (refine qR ?_;simp only [ak,reduceIte];simp [h1,h2,this]) | (refine qC ?_;simp [h1,h2,this]) | (refine w_e [] ?_;intro J hJ;simp only [];simp [h1,h2,this];(refine hJ _ _ ?_;clear hJ J;simp only [ak,reduceIte]))))
  exact Keeps.new _ _
 have hch:chk g=if firstNZ (badV g) g.vs.length≠0 then firstNZ (badV g) g.vs.length else firstNZ (badE g) g.es.length:=by unfold chk;rw [if_neg (by omega)]
 (repeat' (first | refine qS ?_ | refine qB ?_ | (refine qK ?_;simp only [ak,reduceIte]) | (refine qC ?_;simp [h1,h2]) | (refine w_e [] ?_;intro J hJ;simp only [];simp [h1,h2];(refine hJ _ _ ?_;clear hJ J;simp only [ak,reduceIte]))))
 refine qL (fun n fr st'=>∃ k:Nat,k≤g.vs.length∧n=g.vs.length - k∧fr 1=.pt st.next 0∧fr 21=.sl 0 g.vs.length (us g.vs)∧fr 22=i g.vs.length∧fr 23=i k∧fr 3=u (if k=0 then 0 else g.vs.getD (k - 1) 0)∧st'=st.new (.box 35 2 (grL g))∧∀ j,j < k→badV g j=0) g.vs.length ?_ ?_
 ·exact ⟨0,by omega,by omega,by simp,by simp,by simp,by simp,by simp,rfl,fun j h=>by omega⟩
 rintro n fr st' ⟨k,hk,rfl,f1,f21,f22,f23,f3,rfl,hno⟩ JJ hJJ
 by_cases hlt:k < g.vs.length
 ·have hd:=qG g.vs k hlt
  have hw:=qN k (by omega)
  have hbad:badV g k=numb (g.vs.getD k 0) (if k=0 then 0 else g.vs.getD (k - 1) 0) (decide (k=0)):=by
   unfold badV
   by_cases h0:k=0
   ·subst h0;simp [numb]
   ·simp [h0]
  generalize hy:(if k=0 then (0:Int) else g.vs.getD (k - 1) 0)=y at *
  generalize hx:g.vs.getD k 0=x at *
  have hk0:((k:Int)==0)=decide (k=0):=by by_cases h0:k=0<;>simp [h0]
  (repeat' (first | refine qS ?_ | refine qB ?_ | (refine qK ?_;simp only [ak,reduceIte]) | (refine qC ?_;simp [f1,f21,f22,f23,f3,hlt,hd,hw,hk0]) | (refine w_e [] ?_;intro J hJ;simp only [];simp [f1,f21,f22,f23,f3,hlt,hd,hw,hk0];(try (refine hJ _ _ ?_;clear hJ J;simp only [ak,reduceIte])))))
  refine qE (number x y (decide (k=0)) _) (by simp []) ?_;rintro r st' ⟨rfl,rfl⟩
  rw [← hbad]
  by_cases hb:badV g k=0
  ·(repeat' (first | refine qS ?_ | (refine qK ?_;simp only [ak,reduceIte]) | (refine qC ?_;simp [f23,hw,hb]) | ((first | (refine w_e [] ?_;intro J hJ;simp only []) | (refine e_go ?_));simp [f23,hw,hb];(refine hJ _ _ ?_;clear hJ J;simp only [ak,reduceIte]))))
   refine hJJ _ _ _ ?_ ⟨k+1,by omega,rfl,by simp [f1],by simp [f21],by simp [f22],by simp,by rw [if_neg (by omega),Nat.add_sub_cancel,hx];simp,rfl,fun j hj=>?_⟩
   ·omega
   ·rcases Nat.lt_or_ge j k with h | h
    ·exact hno j h
    ·obtain rfl:j=k:=by omega
     exact hb
  ·have hf:=firstNZ_eq hlt hno rfl hb
   have hr:chk g=badV g k:=by rw [hch,hf,if_pos hb]
   (repeat' (first | refine qS ?_ | (refine qR ?_;simp only [ak,reduceIte];simp [hb]) | (refine qC ?_;simp [hb]) | ((first | (refine w_e [] ?_;intro J hJ;simp only []) | (refine e_go ?_));simp [hb];(refine hJ _ _ ?_;clear hJ J;simp only [ak,reduceIte]))))
   exact ⟨hr.symm,Keeps.new _ _⟩
 have hk':k=g.vs.length:=by omega
 have hz:firstNZ (badV g) g.vs.length=0:=firstNZ_zero (fun j hj=>hno j (by omega))
 rw [hz] at hch
 simp only [ne_eq,not_true_eq_false,if_false] at hch
 clear hJJ hno hz
 have hel:=eds_length g.es
 generalize hy:(if k=0 then (0:Int) else g.vs.getD (k - 1) 0)=y at *
 (repeat' (first | refine qS ?_ | refine qB ?_ | (refine qX ?_;simp only [ak,reduceIte]) | (refine qC ?_;simp [f1,f21,f22,f23,f3,hlt]) | (refine w_e [] ?_;intro J hJ;simp only [];simp [f1,f21,f22,f23,f3,hlt];(refine hJ _ _ ?_;clear hJ J;simp only [ak,reduceIte]))))
 refine qL (fun n fr st'=>∃ k:Nat,k≤g.es.length∧n=g.es.length - k∧fr 1=.pt st.next 0∧fr 39=.sl 0 g.es.length (eds g.es)∧fr 40=i g.es.length∧fr 41=i k∧(∃ z,fr 3=u z∧(k≠0→z=(g.es.getD (k - 1) ed0).id))∧Keeps (st.new (.box 35 2 (grL g))) st'∧∀ j,j < k→badE g j=0) g.es.length ?_ ?_
 ·exact ⟨0,by omega,by omega,by simp [f1],by simp,by simp,by simp,⟨y,by simp [f3],by simp⟩,Keeps.refl _,fun j h=>by omega⟩
 clear f1 f21 f22 f23 f3 hlt hk' hk hy y fr k
 rintro n fr st1 ⟨k,hk,rfl,f1,f39,f40,f41,⟨z,f3,hz⟩,hkp,hno⟩ JJ hJJ
 have hgH:st1.H st.next=.box 35 2 (grL g):=by rw [hkp.H _ (by simp)];simp
 have hnx:¬ st.next=st1.next:=by have:=hkp.next;simp only [new_next] at this;omega
 have hkp0:=(Keeps.new st (.box 35 2 (grL g))).trans hkp
 by_cases hlt:k < g.es.length
 ·have hd:=eds_drop g.es k hlt
  have hw:=qN k (by omega)
  have hk3:k * 3 < g.es.length * 3:=by omega
  have hk30:k * 3+3≤g.es.length * 3:=by omega
  have hbad:badE g k=(let x:=g.es.getD k ed0;let n:=numb x.id z (decide (k=0));if n≠0 then n else if x.a=x.b then 20 else if x.a∉g.vs∨x.b∉g.vs then 21 else 0):=by
   unfold badE
   by_cases h0:k=0
   ·subst h0;simp [numb]
   ·rw [hz h0]
  generalize hx:g.es.getD k ed0=x at *
  obtain ⟨xi,xa,xb⟩:=x
  simp only at hd hbad
  have hk0:((k:Int)==0)=decide (k=0):=by by_cases h0:k=0<;>simp [h0]
  (repeat' (first | refine qS ?_ | refine qB ?_ | (refine qK ?_;simp only [ak,reduceIte]) | (refine qC ?_;simp [f1,f39,f40,f41,f3,hlt,hd,hw,hk0,hel,hk3,hgH,hnx]) | (refine w_e [] ?_;intro J hJ;simp only [];simp [f1,f39,f40,f41,f3,hlt,hd,hw,hk0,hel,hk3,hgH,hnx];(try (refine hJ _ _ ?_;clear hJ J;simp only [ak,reduceIte])))))
  refine qE (number xi z (decide (k=0)) _) (by simp []) ?_;rintro r st' ⟨rfl,rfl⟩
  by_cases hb:numb xi z (decide (k=0))=0
  rotate_left
  ·have hb':badE g k=numb xi z (decide (k=0)):=by rw [hbad,if_pos hb]
   have hr:chk g=numb xi z (decide (k=0)):=by rw [hch];exact firstNZ_eq hlt hno hb' hb
   (repeat' (first | refine qS ?_ | (refine qR ?_;simp only [ak,reduceIte];simp [hb]) | (refine qC ?_;simp [hb]) | ((first | (refine w_e [] ?_;intro J hJ;simp only []) | (refine e_go ?_));simp [hb];(refine hJ _ _ ?_;clear hJ J;simp only [ak,reduceIte]))))
   exact ⟨hr.symm,hkp0.trans (Keeps.new _ _)⟩
  rw [if_neg (by simp [hb])] at hbad
  by_cases hab:xa=xb
  ·have hb':badE g k=20:=by rw [hbad,if_pos hab]
   have hr:chk g=20:=by rw [hch];exact firstNZ_eq hlt hno hb' (by decide)
   (repeat' (first | refine qS ?_ | (refine qK ?_;simp only [ak,reduceIte]) | (refine qR ?_;simp only [ak,reduceIte];simp [hb,hab,hr]) | (refine qC ?_;simp [hb,hab,hr]) | ((first | (refine w_e [] ?_;intro J hJ;simp only []) | (refine e_go ?_));simp [hb,hab,hr];(refine hJ _ _ ?_;clear hJ J;simp only [ak,reduceIte]))))
   exact hkp0.trans (Keeps.new _ _)
  rw [if_neg hab] at hbad
  (repeat' (first | refine qS ?_ | (refine qK ?_;simp only [ak,reduceIte]) | (refine qC ?_;simp [hb,hab,f1,hnx,hgH]) | ((first | (refine w_e [] ?_;intro J hJ;simp only []) | (refine e_go ?_));simp [hb,hab,f1,hnx,hgH];(try (refine hJ _ _ ?_;clear hJ J;simp only [ak,reduceIte])))))
  refine qE (Vert g xa _ hsm) (by simp []) ?_;rintro r st' ⟨rfl,hk1⟩
  have hB1:st'.H st1.next=.box 38 3 [u xi,u xa,u xb]:=by rw [hk1.H _ (by simp)];simp
  have hgH1:st'.H st.next=.box 35 2 (grL g):=by
   rw [hk1.H _ (by have:=hkp.next;simp only [new_next] at this ⊢;omega),new_H,if_neg hnx];exact hgH
  have hkp1:=(hkp.trans (Keeps.new _ _)).trans hk1
  have hkp01:=(hkp0.trans (Keeps.new _ _)).trans hk1
  by_cases hma:xa∈g.vs
  rotate_left
  ·rw [gi_not hma]
   have hb':badE g k=21:=by rw [hbad,if_pos (.inl hma)]
   have hr:chk g=21:=by rw [hch];exact firstNZ_eq hlt hno hb' (by decide)
   (repeat' (first | refine qS ?_ | (refine qR ?_;simp only [ak,reduceIte];simp [f1,hB1,hgH1,hr]) | (refine qC ?_;simp [f1,hB1,hgH1,hr]) | ((first | (refine w_e [] ?_;intro J hJ;simp only []) | (refine e_go ?_));simp [f1,hB1,hgH1,hr];(refine hJ _ _ ?_;clear hJ J;simp only [ak,reduceIte]))))
   exact hkp01
  rw [gi_mem hma]
  have hn0:¬ ((g.vs.idxOf xa:Nat):Int) < 0:=by omega
  (refine e_go ?_;simp [f1,hB1,hgH1,hn0])
  refine qE (Vert g xb _ hsm) (by simp []) ?_;rintro r st' ⟨rfl,hk2⟩
  by_cases hmb:xb∈g.vs
  rotate_left
  ·rw [gi_not hmb]
   have hb':badE g k=21:=by rw [hbad,if_pos (.inr hmb)]
   have hr:chk g=21:=by rw [hch];exact firstNZ_eq hlt hno hb' (by decide)
   (repeat' (first | refine qS ?_ | (refine qR ?_;simp only [ak,reduceIte];simp [hr]) | (refine qC ?_;simp [hr]) | ((first | (refine w_e [] ?_;intro J hJ;simp only []) | (refine e_go ?_));simp [hr];(refine hJ _ _ ?_;clear hJ J;simp only [ak,reduceIte]))))
   exact hkp01.trans hk2
  rw [gi_mem hmb]
  have hn1:¬ ((g.vs.idxOf xb:Nat):Int) < 0:=by omega
  have hb':badE g k=0:=by rw [hbad,if_neg (by simp [hma,hmb])]
  (repeat' (first | (refine qK ?_;simp only [ak,reduceIte]) | (refine qC ?_;simp [f41,hw,hn1]) | ((first | (refine w_e [] ?_;intro J hJ;simp only []) | (refine e_go ?_));simp [f41,hw,hn1];(refine hJ _ _ ?_;clear hJ J;simp only [ak,reduceIte]))))
  refine hJJ _ _ _ ?_ ⟨k+1,by omega,rfl,by simp [f1],by simp [f39],by simp [f40],by simp,⟨xi,by simp,fun _=>by rw [Nat.add_sub_cancel,hx]⟩,hkp1.trans hk2,fun j hj=>?_⟩
  ·omega
  ·rcases Nat.lt_or_ge j k with h | h
   ·exact hno j h
   ·obtain rfl:j=k:=by omega
    exact hb'
 ·have hr:chk g=0:=by rw [hch];exact firstNZ_zero (fun j hj=>hno j (by omega))
  clear hJJ
  (repeat' (first | refine qS ?_ | (refine qX ?_;simp only [ak,reduceIte]) | (refine qR ?_;simp only [ak,reduceIte];simp [f1,f39,f40,f41,f3,hlt,hr]) | (refine qC ?_;simp [f1,f39,f40,f41,f3,hlt,hr]) | (refine w_e [] ?_;intro J hJ;simp only [];simp [f1,f39,f40,f41,f3,hlt,hr];(refine hJ _ _ ?_;clear hJ J;simp only [ak,reduceIte]))))
  exact hkp0
theorem eds_one (l:List Ed):(eds l).all oneL=true:=by
 induction l with
 | nil=>rfl
 | cons e l ih=>simp only [eds,List.flatMap_cons,List.all_append,ih,Bool.and_true];rfl
theorem CloneE (l:List Ed) (t:Nat) (st:St) (hl:l.length≤1048576):
 ACalls Tryz.prog 72 [.sl t l.length (eds l)] st fun r st'=>r=.sl 0 l.length (eds l)∧Keeps st st':=by
 have hone:=eds_one l
 have hel:=eds_length l
 refine acalls_freeze ?_
 refine acalls_nilM 38 3 ?_
 refine qO tabOk Tryz.func72 rfl rfl Tryz.ntmps72 (rs:=[.tmp 2]) rfl (by simp) ?_
 (repeat' (first | refine qS ?_ | (refine qK ?_;simp only [ak,reduceIte]) | (refine qR ?_;simp only [ak,reduceIte];simp [hone,hel]) | (refine qC ?_;simp [hone,hel]) | (refine w_e [5] ?_;intro J hJ;simp only [];simp [hone,hel];(repeat refine ca ?_);((try with_reducible refine ⟨?_,?_⟩)<;>(try with_reducible intro hnil)<;>refine hJ _ _ ?_<;>clear hJ J<;>simp only [ak,reduceIte]<;>try subst hnil))))
 ·exact ⟨st.next+1,l.length,⟨rfl,rfl⟩,38,3,eds l,by simp,by rw [hel];exact Nat.le_refl _,⟨rfl,List.take_of_length_le (by rw [hel];exact Nat.le_refl _)⟩,((Keeps.new _ _).trans (Keeps.new _ _)).set (by omega) _⟩
 ·exact ⟨st.next,0,⟨rfl,rfl⟩,38,3,[],by simp,by simp,⟨rfl,.inr rfl⟩,(Keeps.new _ _).set (Nat.le_refl _) _⟩
theorem copied (g:Gr) (st:St) (hv:g.vs.length≤1048576) (he:g.es.length≤1048576):
 ACalls Tryz.prog 99 [.ag (grL g)] st fun r st'=>r=.ag (grL g)∧Keeps st st':=by
 refine qO tabOk Tryz.func99 rfl rfl Tryz.ntmps99 (rs:=[.cell 2 35]) rfl (by simp) ?_
 (repeat' (first | refine qS ?_ | (refine w_e [] ?_;intro J hJ;simp only [];simp [];(refine hJ _ _ ?_;clear hJ J;simp only [ak,reduceIte]))))
 (refine w_s [] [st.next] [(0,true),(1,true),(3,true),(4,true),(2,true),(5,true),(6,true),(7,false)] ?_;intro J hJ;simp [])
 refine qD (Clone g.vs 0 _ hv) (by simp []) ?_;rintro r st' ⟨rfl,hk1⟩
 have hB1:st'.H st.next=.box 35 2 (grL g):=by rw [hk1.H _ (by simp;omega)];simp
 have hC1:st'.H (st.next+1)=.box 35 2 [.nil,.nil]:=by rw [hk1.H _ (by simp)];simp
 refine ⟨fun _=>by simp [hB1],?_⟩
 (refine d_go ?_;simp [hB1])
 have hn1:=hk1.next
 simp only [new_next] at hn1
 refine qD (CloneE g.es 0 _ he) (by simp []) ?_;rintro r st' ⟨rfl,hk2⟩
 have hB2:=(hk2.H st.next (by omega)).trans hB1
 have hC2:=(hk2.H (st.next+1) (by omega)).trans hC1
 refine ⟨fun _=>by simp [hB2],?_⟩
 (refine d_go ?_;simp [hB2,hC2];(refine hJ _ _ ?_;clear hJ J;simp only [ak,reduceIte]))
 (repeat' (refine qR ?_;simp only [ak,reduceIte];simp [hC2]))
 exact (((((Keeps.new _ _).trans (Keeps.new _ _)).trans hk1).trans hk2).set (by omega) _)
theorem acalls_agLast (e s:Nat) {P:Program} {f:FuncId} {args:List LV} {st:St} {Q:LV→St→Prop} (pre:List LV)
 (h:ACalls P f args st fun r st'=>∃ c,r=.ag (pre++[c])∧((c=.nil∧Q (.ag (pre++[.sl 0 0 []])) st')∨∃ l n cs,c=.ms l 0 n∧st'.H l=.box e s cs∧n * s≤cs.length∧Q (.ag (pre++[.sl 0 n (cs.take (n * s))])) (st'.set l .dead))):ACalls P f args st Q:=by
 refine ⟨h.1,fun w g vs hi hr=>(h.2 w g vs hi hr).mono ?_⟩
 rintro x w' ⟨v,r,st',g',rfl,⟨c,rfl,hc⟩,hrep,hi',he⟩
 simp only [Rep] at hrep
 obtain ⟨us1,rfl,hus⟩:=hrep
 obtain ⟨v1,h1,h2⟩:=repL_mid pre us1 hus
 rcases hc with ⟨rfl,hq⟩ | ⟨l,n,cs,rfl,hl,hn,hq⟩
 ·refine ⟨_,_,st',g',rfl,hq,?_,hi',he⟩
  simp only [Rep]
  exact ⟨us1,rfl,h2 g' _ (Ext.refl _ _) (rep_norm h1)⟩
 ·obtain ⟨g2,k1,k2,k3⟩:=ghost_freeze (fr:=upd (fun _=>.dead) 0 (.ms l 0 n)) 0 rfl hl hn { tmps:=#[v1],defers:=[] } w' g' hi' (by
   intro j
   unfold upd
   by_cases hj:j=0
   ·subst hj;rw [if_pos rfl];exact h1
   ·rw [if_neg hj];simp only [Rep])
  refine ⟨_,_,_,g2,rfl,hq,?_,k1,he.trans k3⟩
  simp only [Rep]
  exact ⟨us1,rfl,h2 g2 _ k3 (k2 0)⟩
theorem rowsL_take (rs:List (List Int)) (k:Nat) (hk:k < rs.length):rowsL (rs.take (k+1))=rowsL (rs.take k)++[.sl 0 (rs[k]).length (us rs[k])]:=by
 unfold rowsL
 rw [List.take_succ_eq_append_getElem hk,List.map_append];rfl
theorem rot_Of (g:Gr) (q:Nat) (es:List (List Int×LV)) (tf:Int→List Int) (st:St) (hv:g.vs.length≤1000) (he:g.es.length≤1000) (hq:q < st.next) (hM:st.H q=.map false [.u32] es)
 (ht:∀ v∈g.vs,∃ x t,(mget es [v]).getD .nil=x∧norm x=.sl t (tf v).length (us (tf v))∧(tf v).length≤1000):
 ACalls Tryz.prog 64 [.ag (grL g),.mp q] st fun r st'=>r=.ag (mpL ⟨g,g.vs.map fun v=>nrm (tf v)⟩)∧Keeps st st':=by
 refine acalls_agLast 25 1 (grL g) ?_
 refine qO tabOk Tryz.func64 rfl rfl Tryz.ntmps64 (rs:=[.cell 4 46]) rfl (by simp) ?_
 (repeat' (first | refine qS ?_ | (refine w_e [] ?_;intro J hJ;simp only [];simp [];(try (refine hJ _ _ ?_;clear hJ J;simp only [ak,reduceIte])))))
 refine qE (copied g _ (by omega) (by omega)) (by simp) ?_;rintro r s1 ⟨rfl,hk1⟩
 have hn1:=hk1.next
 simp only [new_next] at hn1
 have hG1:s1.H st.next=.box 35 2 (grL g):=by rw [hk1.H _ (by simp;omega)];simp
 have hM1:s1.H q=.map false [.u32] es:=by
  rw [hk1.H q (by simp;omega),new_H,if_neg (by simp;omega),new_H,if_neg (by omega),hM]
 have hR1:s1.H (st.next+1)=.box 46 3 [.nil,.nil,.nil]:=by rw [hk1.H _ (by simp)];simp
 have ne1:¬ st.next=s1.next:=by omega
 (repeat' (first | refine qS ?_ | refine qB ?_ | ((first | (refine w_e [] ?_;intro J hJ;simp only []) | (refine e_go ?_));simp [hG1,ne1];(refine hJ _ _ ?_;clear hJ J;simp only [ak,reduceIte]))))
 refine qL (fun n fr st2=>∃ k:Nat,k≤g.vs.length∧n=g.vs.length - k∧fr 1=.mp q∧fr 4=.pt (st.next+1) 0∧fr 5=.pt s1.next 0∧fr 12=.sl 0 g.vs.length (us g.vs)∧fr 13=i g.vs.length∧fr 14=i k∧Keeps s1 st2∧s1.next < st2.next∧∃ c,st2.H s1.next=.box 46 3 (grL g++[c])∧((k=0∧c=.nil)∨∃ z,c=.ms z 0 k∧s1.next < z∧z < st2.next∧st2.H z=.box 25 1 (rowsL ((g.vs.map fun v=>nrm (tf v)).take k)))) g.vs.length ?_ ?_
 ·exact ⟨0,by omega,by omega,by simp,by simp,by simp,by simp,by simp,by simp,Keeps.new _ _,by simp,.nil,by simp,.inl ⟨rfl,rfl⟩⟩
 rintro n fr st2 ⟨k,hk,rfl,f1,f4,f5,f12,f13,f14,hkp,hlt2,c,hB,hcz⟩ JJ hJJ
 have hM2:st2.H q=.map false [.u32] es:=by rw [hkp.H q (by omega)];exact hM1
 by_cases hlt:k < g.vs.length
 ·have hd:=qG g.vs k hlt
  have hw:=qN k (by omega)
  have hvin:g.vs.getD k 0∈g.vs:=by rw [getD_lt _ _ hlt];exact List.getElem_mem hlt
  obtain ⟨x,t,hx1,hx2,hx3⟩:=ht _ hvin
  have hrow:=rowsL_take (g.vs.map fun v=>nrm (tf v)) k (by simpa using hlt)
  have hrk:(g.vs.map fun v=>nrm (tf v))[k]'(by simpa using hlt)=nrm (tf (g.vs.getD k 0)):=by simp [hlt]
  rw [hrk,nrm_length] at hrow
  generalize hvv:g.vs.getD k 0=v at *
  have hqn:¬ q=s1.next:=by omega
  have ne2:¬ s1.next=st2.next:=by omega
  have ne3:¬ q=st2.next:=by have:=hkp.next;omega
  rcases hcz with ⟨rfl,rfl⟩ | ⟨z,rfl,hz1,hz2,hz⟩
  ·(repeat' (first | refine qS ?_ | (refine w_e [] ?_;intro J hJ;simp only [];simp [f12,f13,f14,hlt,hd];(refine hJ _ _ ?_;clear hJ J;simp only [ak,reduceIte]))))
   (refine qC ?_;simp [])
   (repeat' (first | refine qS ?_ | refine qB ?_ | (refine qK ?_;simp only [ak,reduceIte]) | (refine w_e [] ?_;intro J hJ;simp only [];simp [f1,f5,f12,f13,f14,hlt,hd];(refine hJ _ _ ?_;clear hJ J;simp only [ak,reduceIte]))))
   (refine w_s [25] [s1.next,q] [(0,true),(1,true),(2,true),(3,true),(4,true),(5,true),(6,true),(7,true),(8,true),(9,false)] ?_;intro J hJ;simp [f1,f5,hB,hM2,hx1,hqn])
   refine qD (Normal (tf v) t _ (by simp only [small];omega)) (by simp only [List.map_cons,List.map_nil,hx2]) ?_;rintro r s3 ⟨rfl,hk3⟩
   have hB3:=(hk3.H s1.next (by omega)).trans hB
   have hM3:=(hk3.H q (by have:=hkp.next;omega)).trans hM2
   have hn3:=hk3.next
   have ne4:¬ s1.next=s3.next:=by omega
   have ne5:¬ s1.next=s3.next+1:=by omega
   have ne6:¬ q=s3.next+1:=by omega
   have ne7:¬ q=s3.next:=by omega
   refine ⟨fun _=>by simp [hB3,hM3,hB,hM2],?_⟩
   (refine d_go ?_;simp [f5,hB3,hM3,hB,hM2,ne4,ne5,ne6,ne7];(repeat refine ca ?_);(refine hJ _ _ ?_;clear hJ J;simp only [ak,reduceIte]))
   have hw1:IntKind.i64.wrap 1=1:=by decide
   (repeat' (refine w_e [] ?_;intro J hJ;simp only [];simp [f5,f14,hw,hw1];(refine hJ _ _ ?_;clear hJ J;simp only [ak,reduceIte])))
   refine hJJ (g.vs.length - 1) _ _ (by omega) ⟨1,by omega,rfl,by simp [f1],by simp [f4],by simp [f5],by simp [f12],by simp [f13],by simp,(((hkp.trans hk3).trans (Keeps.new _ _)).trans (Keeps.new _ _)).set (Nat.le_refl _) _,by simp;omega,.ms (s3.next+1) 0 1,by simp,.inr ⟨s3.next+1,rfl,by omega,by simp,?_⟩⟩
   rw [hrow,set_H,if_neg (by omega)]
   simp
  ·generalize hR:rowsL ((g.vs.map fun v=>nrm (tf v)).take k)=R at *
   have hzl:R.length=k:=by rw [← hR];simp;omega
   (repeat' (first | refine qS ?_ | (refine w_e [] ?_;intro J hJ;simp only [];simp [f12,f13,f14,hlt,hd];(refine hJ _ _ ?_;clear hJ J;simp only [ak,reduceIte]))))
   (refine qC ?_;simp [])
   (repeat' (first | refine qS ?_ | refine qB ?_ | (refine qK ?_;simp only [ak,reduceIte]) | (refine w_e [] ?_;intro J hJ;simp only [];simp [f1,f5,f12,f13,f14,hlt,hd];(refine hJ _ _ ?_;clear hJ J;simp only [ak,reduceIte]))))
   (refine w_s [25] [s1.next,q] [(0,true),(1,true),(2,true),(3,true),(4,true),(5,true),(6,true),(7,true),(8,true),(9,false)] ?_;intro J hJ;simp [f1,f5,hB,hM2,hx1,hqn])
   refine qD (Normal (tf v) t _ (by simp only [small];omega)) (by simp only [List.map_cons,List.map_nil,hx2]) ?_;rintro r s3 ⟨rfl,hk3⟩
   have hB3:=(hk3.H s1.next (by omega)).trans hB
   have hM3:=(hk3.H q (by have:=hkp.next;omega)).trans hM2
   have hz3:=(hk3.H z (by omega)).trans hz
   have hn3:=hk3.next
   have ne4:¬ s1.next=s3.next:=by omega
   have ne5:¬ s1.next=s3.next+1:=by omega
   have ne6:¬ q=s3.next+1:=by omega
   have ne7:¬ q=s3.next:=by omega
   have ne8:¬ s1.next=z:=by omega
   have ne9:¬ z=s3.next:=by omega
   have ne10:¬ q=z:=by omega
   have htk:R.take k=R:=List.take_of_length_le (by omega)
   refine ⟨fun _=>by simp [hB3,hM3,hB,hM2],?_⟩
   (refine d_go ?_;simp [f5,hB3,hM3,hB,hM2,ne4,ne5,ne6,ne7,ne8,ne9,ne10,hz3,hzl,htk];(repeat refine ca ?_);(refine hJ _ _ ?_;clear hJ J;simp only [ak,reduceIte]))
   (repeat' (refine w_e [] ?_;intro J hJ;simp only [];simp [f5,f14,hw];(refine hJ _ _ ?_;clear hJ J;simp only [ak,reduceIte])))
   refine hJJ (g.vs.length - (k+1)) _ _ (by omega) ⟨k+1,by omega,rfl,by simp [f1],by simp [f4],by simp [f5],by simp [f12],by simp [f13],by simp,((((hkp.trans hk3).trans (Keeps.new _ _)).set (by omega) _).trans (Keeps.new _ _)).set (Nat.le_refl _) _,by simp;omega,.ms (s3.next+1) 0 (k+1),by simp,.inr ⟨s3.next+1,rfl,by omega,by simp,?_⟩⟩
   rw [hrow,set_H,if_neg (by omega)]
   simp
 ·have hkk:k=g.vs.length:=by omega
  have hBR:¬ s1.next=st.next+1:=by omega
  have hR2:=(hkp.H (st.next+1) (by omega)).trans hR1
  have hKK:Keeps st st2:=(((Keeps.new _ _).trans (Keeps.new _ _)).trans hk1).trans hkp
  rcases hcz with ⟨h0,rfl⟩ | ⟨z,rfl,hz1,hz2,hz⟩
  ·(repeat' (first | refine qS ?_ | (refine qX ?_;simp only [ak,reduceIte]) | (refine qR ?_;simp only [ak,reduceIte];simp [f12,f13,f14,hlt,f4,f5,hB,hR2]) | (refine qC ?_;simp [f12,f13,f14,hlt,f4,f5,hB,hR2]) | (refine w_e [] ?_;intro J hJ;simp only [];simp [f12,f13,f14,hlt,f4,f5,hB,hR2];(refine hJ _ _ ?_;clear hJ J;simp only [ak,reduceIte]))))
   exact ⟨⟨by omega,List.length_eq_zero_iff.mp (by omega)⟩,hKK.set (by omega) _⟩
  ·(repeat' (first | refine qS ?_ | (refine qX ?_;simp only [ak,reduceIte]) | (refine qR ?_;simp only [ak,reduceIte];simp [f12,f13,f14,hlt,f4,f5,hB,hR2]) | (refine qC ?_;simp [f12,f13,f14,hlt,f4,f5,hB,hR2]) | (refine w_e [] ?_;intro J hJ;simp only [];simp [f12,f13,f14,hlt,f4,f5,hB,hR2];(refine hJ _ _ ?_;clear hJ J;simp only [ak,reduceIte]))))
   have hmm:(g.vs.map fun v=>nrm (tf v)).take k=g.vs.map fun v=>nrm (tf v):=List.take_of_length_le (by simp;omega)
   rw [hmm] at hz
   exact ⟨z,k,⟨rfl,rfl⟩,_,by rw [if_neg (by omega),hz],by simp;omega,⟨hkk,by rw [List.take_of_length_le (by simp;omega)];simp⟩,(hKK.set (by omega) _).set (by omega) _⟩
theorem awp_posG {P:Program} {N:Nat} {Q:AQ} {c:Code} {fr:Frm} {st:St} (h:0 < st.next→AWp P N c Q fr st):AWp P N c Q fr st:=
 fun a w g hi hr hs hd=>h hi.pos a w g hi hr hs hd
def end1 (v:Int) (x:Ed):List Int:=(if x.a=v then [2 * x.id] else [])++(if x.b=v then [2 * x.id+1] else [])
def ends (es:List Ed) (v:Int):List Int:=es.flatMap (end1 v)
def idOk (es:List Ed):Prop:=∀ x∈es,0≤x.id∧x.id≤1048576
theorem wrap_u32' (n:Int) (h0:0≤n) (h1:n < 4294967296):IntKind.u32.wrap n=n:=by
 rw [wrap_u32];omega
theorem dOf (id e:Int) (st:St) (h0:0≤id) (h1:id≤1048576) (he:e=0∨e=1):ACalls Tryz.prog 48 [u id,i e] st fun r st'=>r=u (2 * id+e)∧st'=st:=by
 refine (Of id e st).mono ?_
 rintro r st' ⟨rfl,rfl⟩
 refine ⟨?_,rfl⟩
 have h2:id * 2 % 4294967296+e % 2=2 * id+e:=by omega
 rw [h2]
def nbr1 (v:Int) (x:Ed):List Int:=(if x.a=v then [x.b] else [])++(if x.b=v then [x.a] else [])
def nbr (es:List Ed) (v:Int):List Int:=es.flatMap (nbr1 v)
inductive Reach (es:List Ed) (v:Int):Int→Prop
 | refl:Reach es v v
 | step {u w:Int} (h:Reach es v u) (hw:w∈nbr es u):Reach es v w
theorem mem_nbr {es:List Ed} {u w:Int}:w∈nbr es u↔∃ x∈es,(x.a=u∧x.b=w)∨(x.b=u∧x.a=w):=by
 unfold nbr nbr1
 simp only [List.mem_flatMap,List.mem_append]
 constructor
 ·rintro ⟨x,hx,h | h⟩
  ·refine ⟨x,hx,.inl ?_⟩
   split at h
   ·rename_i h1;simp at h;exact ⟨h1,h.symm⟩
   ·cases h
  ·refine ⟨x,hx,.inr ?_⟩
   split at h
   ·rename_i h1;simp at h;exact ⟨h1,h.symm⟩
   ·cases h
 ·rintro ⟨x,hx,⟨h1,h2⟩ | ⟨h1,h2⟩⟩
  ·exact ⟨x,hx,.inl (by simp [h1,h2])⟩
  ·exact ⟨x,hx,.inr (by simp [h1,h2])⟩
theorem nbr_symm {es:List Ed} {u w:Int} (h:w∈nbr es u):u∈nbr es w:=by
 rw [mem_nbr] at h ⊢
 obtain ⟨x,hx,⟨h1,h2⟩ | ⟨h1,h2⟩⟩:=h
 ·exact ⟨x,hx,.inr ⟨h2,h1⟩⟩
 ·exact ⟨x,hx,.inl ⟨h2,h1⟩⟩
structure Good (g:Gr):Prop where
 rise:g.vs.Pairwise (· < ·)
 ends:∀ x∈g.es,x.a∈g.vs∧x.b∈g.vs
theorem Good.nbr {g:Gr} (h:Good g) {u w:Int} (hw:w∈nbr g.es u):w∈g.vs:=by
 rw [mem_nbr] at hw
 obtain ⟨x,hx,⟨_,rfl⟩ | ⟨_,rfl⟩⟩:=hw
 ·exact (h.ends x hx).2
 ·exact (h.ends x hx).1
theorem Good.nodup {g:Gr} (h:Good g):g.vs.Nodup:=h.rise.imp fun h=>by omega
def TestE (f:FuncId) (caps:List LV) (st:St) (l:List Ed) (p:Ed→Bool):Prop:=∀ x∈l,∀ st2,Keeps st st2→ACalls Tryz.prog f (.ag (edL x)::caps) st2 fun r st3=>r=bb (p x)∧Keeps st2 st3
theorem filter_takeE (l:List Ed) (p:Ed→Bool) (k:Nat) (hk:k < l.length):(l.take (k+1)).filter p=if p (l.getD k ed0)=true then (l.take k).filter p++[l.getD k ed0] else (l.take k).filter p:=by
 rw [List.take_succ_eq_append_getElem hk,List.filter_append,List.getD_eq_getElem?_getD,List.getElem?_eq_getElem hk]
 by_cases h:p l[k]=true<;>simp [h]
def RowE (X:LV) (F:List Ed):Prop:=(X=.nil∧F=[])∨∃ t,X=.sl t F.length (eds F)
set_option maxHeartbeats 1000000 in
theorem Keep (g:Gr) (f:FuncId) (caps:List LV) (p:Ed→Bool) (st:St) (hv:g.vs.length≤1000) (he:g.es.length≤1000) (hp:TestE f caps st g.es p):
 ACalls Tryz.prog 38 [.ag (grL g),.fn (.func f) caps] st fun r st'=>(∃ X,r=.ag [.sl 0 g.vs.length (us g.vs),X]∧RowE X (g.es.filter p))∧Keeps st st':=by
 have hel:=eds_length g.es
 have hsm:small g.vs:=by unfold small;omega
 refine qO tabOk Tryz.func38 rfl rfl Tryz.ntmps38 (rs:=[.cell 4 35]) rfl (by simp) ?_
 (repeat' (first | refine qS ?_ | (refine w_e [] ?_;intro J hJ;simp only [];simp [];(try (refine hJ _ _ ?_;clear hJ J;simp only [ak,reduceIte])))))
 refine qE (Clone g.vs 0 _ hsm) (by simp) ?_;rintro r s1 ⟨rfl,hk1⟩
 have hn1:=hk1.next
 simp only [new_next] at hn1
 have hG1:s1.H st.next=.box 35 2 (grL g):=by rw [hk1.H _ (by simp;omega)];simp
 have hC1:s1.H (st.next+1)=.box 35 2 [.nil,.nil]:=by rw [hk1.H _ (by simp)];simp
 have e1:¬ st.next=s1.next:=by omega
 (repeat' (first | refine qS ?_ | refine qB ?_ | ((first | (refine w_e [] ?_;intro J hJ;simp only []) | (refine e_go ?_));simp [hG1,e1];(refine hJ _ _ ?_;clear hJ J;simp only [ak,reduceIte]))))
 have hkp1:Keeps st s1:=((Keeps.new _ _).trans (Keeps.new _ _)).trans hk1
 obtain ⟨q4,hq4⟩:∃ q,q=st.next+1:=⟨_,rfl⟩
 obtain ⟨q5,hq5⟩:∃ q,q=s1.next:=⟨_,rfl⟩
 refine qL (fun n fr st2=>∃ k:Nat,k≤g.es.length∧n=g.es.length - k∧fr 1=.fn (.func f) caps∧fr 4=.pt q4 0∧fr 5=.pt q5 0∧fr 13=.sl 0 g.es.length (eds g.es)∧fr 14=i g.es.length∧fr 15=i k∧Keeps st st2∧q5 < st2.next∧st2.H q4=.box 35 2 [.nil,.nil]∧∃ X,st2.H q5=.box 35 2 [.sl 0 g.vs.length (us g.vs),X]∧((X=.nil∧(g.es.take k).filter p=[])∨∃ t,X=.sl t ((g.es.take k).filter p).length (eds ((g.es.take k).filter p))∧t≠0∧q5 < t∧t < st2.next∧st2.H t=.own 38 3 ((g.es.take k).filter p).length)) g.es.length ?_ ?_
 ·have e2:¬ q4=s1.next:=by omega
  have e3:¬ st.next+1=s1.next:=by omega
  refine ⟨0,by omega,by omega,by simp,by simp [hq4],by simp [hq5],by simp,by simp,by simp,?_,by simp [hq5],by simp [e2,hC1,hq4,e3],.nil,by simp [hq5],.inl ⟨rfl,by simp⟩⟩
  (repeat (first | exact hkp1 | (refine Keeps.trans ?_ (Keeps.new _ _)) | (refine Keeps.set ?_ (by omega) _)))
 rintro n fr st2 ⟨k,hk,rfl,f1,f4,f5,f13,f14,f15,hkp,h5n,hC,X,hX,hXs⟩ JJ hJJ
 have e0:¬ q4=q5:=by omega
 by_cases hlt:k < g.es.length
 rotate_left
 ·clear hJJ
  have hk':k=g.es.length:=by omega
  rw [hk',List.take_length] at hXs
  rcases hXs with ⟨rfl,h⟩ | ⟨t,rfl,h⟩
  ·(repeat' (first | refine qS ?_ | (refine qX ?_;simp only [ak,reduceIte]) | (refine qR ?_;simp only [ak,reduceIte];simp [f4,f5,f14,f15,hlt,hX,hC,e0]) | (refine qC ?_;simp [f4,f5,f14,f15,hlt,hX,hC,e0]) | (refine w_e [] ?_;intro J hJ;simp only [];simp [f4,f5,f14,f15,hlt,hX,hC,e0];(refine hJ _ _ ?_;clear hJ J;simp only [ak,reduceIte]))))
   exact ⟨.inl ⟨rfl,h⟩,(by repeat (first | exact hkp | (refine Keeps.trans ?_ (Keeps.new _ _)) | (refine Keeps.set ?_ (by have:=hkp.next;omega) _)))⟩
  ·(repeat' (first | refine qS ?_ | (refine qX ?_;simp only [ak,reduceIte]) | (refine qR ?_;simp only [ak,reduceIte];simp [f4,f5,f14,f15,hlt,hX,hC,e0]) | (refine qC ?_;simp [f4,f5,f14,f15,hlt,hX,hC,e0]) | (refine w_e [] ?_;intro J hJ;simp only [];simp [f4,f5,f14,f15,hlt,hX,hC,e0];(refine hJ _ _ ?_;clear hJ J;simp only [ak,reduceIte]))))
   exact ⟨.inr ⟨t,rfl⟩,(by repeat (first | exact hkp | (refine Keeps.trans ?_ (Keeps.new _ _)) | (refine Keeps.set ?_ (by have:=hkp.next;omega) _)))⟩
 have hd:=eds_drop g.es k hlt
 have hw:=qN k (by omega)
 have hk3:k * 3 < g.es.length * 3:=by omega
 have hxin:g.es.getD k ed0∈g.es:=by rw [List.getD_eq_getElem?_getD,List.getElem?_eq_getElem hlt];exact List.getElem_mem hlt
 have hst:=filter_takeE g.es p k hlt
 have hle:=List.length_filter_le p (g.es.take k)
 rw [List.length_take] at hle
 have htest:=fun s h=>hp _ hxin s h
 generalize hx:g.es.getD k ed0=x at *
 generalize hFF:(g.es.take k).filter p=F at *
 have hFl:=eds_length F
 have hFo:(eds F).length=F.length * 3:=hFl
 obtain ⟨d,a,b⟩:=x
 simp only at hd htest
 (repeat' (first | refine qS ?_ | refine qB ?_ | (refine qK ?_;simp only [ak,reduceIte]) | (refine qC ?_;simp [f1,f13,f14,f15,hlt,hd,hel]) | (refine w_e [] ?_;intro J hJ;simp only [];simp [f1,f13,f14,f15,hlt,hd,hel];(try (refine hJ _ _ ?_;clear hJ J;simp only [ak,reduceIte])))))
 refine qF (htest _ (hkp.trans (Keeps.new _ (.box 38 3 [u d,u a,u b])))) ?_;rintro r s3 ⟨rfl,hk3'⟩
 have hn3:=hk3'.next
 simp only [new_next] at hn3
 have hkk:Keeps st2 s3:=(Keeps.new _ _).trans hk3'
 have hX3:=(hkk.H q5 h5n).trans hX
 have hC3:=(hkk.H q4 (by omega)).trans hC
 have hE3:s3.H st2.next=.box 38 3 [u d,u a,u b]:=by rw [hk3'.H _ (by simp)];simp
 have hkp3:Keeps st s3:=(hkp.trans (Keeps.new _ _)).trans hk3'
 have z1:¬ q5=s3.next:=by omega
 have z2:¬ q5=s3.next+1:=by omega
 have z3:¬ q4=s3.next:=by omega
 have z4:¬ q4=s3.next+1:=by omega
 have z5:¬ s3.next+1=q5:=by omega
 by_cases hpx:p ⟨d,a,b⟩=true
 rotate_left
 ·rw [if_neg hpx] at hst
  have hpx:p ⟨d,a,b⟩=false:=by simpa using hpx
  (repeat' (first | (refine qK ?_;simp only [ak,reduceIte]) | (refine qC ?_;simp [hpx,f15,hw]) | ((first | (refine w_e [] ?_;intro J hJ;simp only []) | (refine e_go ?_));simp [hpx,f15,hw];(refine hJ _ _ ?_;clear hJ J;simp only [ak,reduceIte]))))
  refine hJJ (g.es.length - (k+1)) _ _ (by omega) ⟨k+1,by omega,rfl,by simp [f1],by simp [f4],by simp [f5],by simp [f13],by simp [f14],by simp,hkp3,by omega,hC3,X,hX3,?_⟩
  rw [hst]
  rcases hXs with h | ⟨t,h,h0,h1,h2,h3⟩
  ·exact .inl h
  ·exact .inr ⟨t,h,h0,h1,by omega,(hkk.H t h2).trans h3⟩
 rw [if_pos hpx] at hst
 have hed:eds (F++[⟨d,a,b⟩])=eds F++[u d,u a,u b]:=by simp [eds]
 rcases hXs with ⟨rfl,hF0⟩ | ⟨t,rfl,h0,h1,h2,h3⟩
 ·(repeat' (first | (refine qC ?_;simp [hpx,f5,f15,hw,hX3,hE3,z1,z2]) | ((first | (refine w_e [] ?_;intro J hJ;simp only []) | (refine e_go ?_));simp [hpx,f5,f15,hw,hX3,hE3,z1,z2];(repeat refine ca ?_);(refine hJ _ _ ?_;clear hJ J;simp only [ak,reduceIte]))))
  refine hJJ (g.es.length - (k+1)) _ _ (by omega) ⟨k+1,by omega,rfl,by simp [f1],by simp [f4],by simp [f5],by simp [f13],by simp [f14],by simp,?_,by simp;omega,by simp [e0,z3,z4,hC3],_,by simp;rfl,.inr ⟨s3.next+1,by rw [hst,hed,hF0];simp [eds],by omega,by omega,by simp,by rw [hst,hF0];simp [z5]⟩⟩
  (repeat (first | exact hkp3 | (refine Keeps.trans ?_ (Keeps.new _ _)) | (refine Keeps.set ?_ (by omega) _)))
 ·have h3':s3.H t=.own 38 3 F.length:=(hkk.H t h2).trans h3
  have y1:¬ t=s3.next:=by omega
  have y2:¬ t=s3.next+1:=by omega
  have y3:¬ q5=t:=by omega
  have y4:¬ t=q5:=by omega
  have y5:¬ q4=t:=by omega
  (repeat' (first | (refine qC ?_;simp [hpx,f5,f15,hw,hX3,hE3,z1,z2,h3',h0,y1,y2,y3,y4,hFo]) | ((first | (refine w_e [] ?_;intro J hJ;simp only []) | (refine e_go ?_));simp [hpx,f5,f15,hw,hX3,hE3,z1,z2,h3',h0,y1,y2,y3,y4,hFo];(repeat refine ca ?_);(refine hJ _ _ ?_;clear hJ J;simp only [ak,reduceIte]))))
  refine hJJ (g.es.length - (k+1)) _ _ (by omega) ⟨k+1,by omega,rfl,by simp [f1],by simp [f4],by simp [f5],by simp [f13],by simp [f14],by simp,?_,by simp;omega,by simp [e0,z3,z4,y5,hC3],_,by simp;rfl,.inr ⟨s3.next+1,by rw [hst,hed];simp,by omega,by omega,by simp,by rw [hst];simp [z5]⟩⟩
  (repeat (first | exact hkp3 | (refine Keeps.trans ?_ (Keeps.new _ _)) | (refine Keeps.set ?_ (by omega) _)))
theorem firstNZ_all {f:Nat→Int} {n:Nat} (h:firstNZ f n=0):∀ j,j < n→f j=0:=by
 induction n with
 | zero=>intro j hj;omega
 | succ n ih=>
   intro j hj
   simp only [firstNZ] at h
   by_cases h0:firstNZ f n=0
   ·rw [if_neg (by simp [h0])] at h
    rcases Nat.lt_or_ge j n with h1 | h1
    ·exact ih h0 j h1
    ·obtain rfl:j=n:=by omega
     exact h
   ·rw [if_pos h0] at h;exact absurd h h0
theorem numb_zero {n a:Int} {b:Bool} (h:numb n a b=0):1≤n∧n≤1048576∧(b=false→a < n):=by
 unfold numb at h
 by_cases h1:n < 1∨1048576 < n
 ·rw [if_pos h1] at h;cases h
 ·rw [if_neg h1] at h
  by_cases h2:b=false∧n≤a
  ·rw [if_pos h2] at h;cases h
  ·refine ⟨by omega,by omega,fun hb=>?_⟩
   rcases Int.lt_or_le a n with h3 | h3
   ·exact h3
   ·exact absurd ⟨hb,h3⟩ h2
theorem rise_of {l:List Int} (h:∀ j,j < l.length→0 < j→l.getD (j - 1) 0 < l.getD j 0):l.Pairwise (· < ·):=by
 rw [List.pairwise_iff_getElem]
 intro a b ha hb hab
 induction b with
 | zero=>omega
 | succ b ih=>
   have h1:=h (b+1) hb (by omega)
   rw [Nat.add_sub_cancel,getD_lt _ _ hb,getD_lt _ _ (by omega)] at h1
   rcases Nat.lt_or_ge a b with h2 | h2
   ·have:=ih (by omega) h2;omega
   ·obtain rfl:a=b:=by omega
    exact h1
theorem chk_good {g:Gr} (h:chk g=0):Good g∧idOk g.es∧g.vs.length≤64∧g.es.length≤160:=by
 unfold chk at h
 by_cases h1:64 < g.vs.length∨160 < g.es.length
 ·rw [if_pos h1] at h;cases h
 ·rw [if_neg h1] at h
  by_cases h2:firstNZ (badV g) g.vs.length=0
  ·rw [if_neg (by simp [h2])] at h
   have hV:=firstNZ_all h2
   have hE:=firstNZ_all h
   have hEx:∀ j,j < g.es.length→(1≤(g.es.getD j ed0).id∧(g.es.getD j ed0).id≤1048576)∧(g.es.getD j ed0).a∈g.vs∧(g.es.getD j ed0).b∈g.vs:=by
    intro j hj
    have:=hE j hj
    unfold badE at this
    simp only at this
    by_cases h3:numb (g.es.getD j ed0).id (g.es.getD (j - 1) ed0).id (decide (j=0))=0
    ·rw [if_neg (fun h=>h h3)] at this
     by_cases h4:(g.es.getD j ed0).a=(g.es.getD j ed0).b
     ·rw [if_pos h4] at this;cases this
     ·rw [if_neg h4] at this
      by_cases h5:(g.es.getD j ed0).a∉g.vs∨(g.es.getD j ed0).b∉g.vs
      ·rw [if_pos h5] at this;cases this
      ·have h6:=numb_zero h3
       refine ⟨⟨h6.1,h6.2.1⟩,?_,?_⟩
       ·exact Classical.byContradiction fun h=>h5 (.inl h)
       ·exact Classical.byContradiction fun h=>h5 (.inr h)
    ·rw [if_pos h3] at this;exact absurd this h3
   have hget:∀ x∈g.es,∃ j,j < g.es.length∧g.es.getD j ed0=x:=by
    intro x hx
    obtain ⟨j,hj,rfl⟩:=List.getElem_of_mem hx
    exact ⟨j,hj,by rw [List.getD_eq_getElem?_getD,List.getElem?_eq_getElem hj];rfl⟩
   refine ⟨⟨rise_of fun j hj h0=>?_,fun x hx=>?_⟩,fun x hx=>?_,by omega,by omega⟩
   ·have:=(numb_zero (hV j hj)).2.2 (by simp;omega)
    exact this
   ·obtain ⟨j,hj,rfl⟩:=hget x hx
    exact (hEx j hj).2
   ·obtain ⟨j,hj,rfl⟩:=hget x hx
    have:=(hEx j hj).1;omega
  ·rw [if_pos h2] at h;exact absurd h h2
end Go.Proofs.YtiiejclelbilkaaGreatDoor.Aw
namespace Go.Proofs.YtiiejclelbilkaaGreatDoor.Aw
open Go Go.RowKit Go.Proofs.YtiiejclelbilkaaGreatDoor.Pl Go.Proofs.YtiiejclelbilkaaGreatDoor.Eu
set_option linter.unusedSimpArgs false
set_option linter.unusedVariables false
structure GoodE (g:Gr):Prop extends Good g where
 ids:g.es.Pairwise (fun x y=>x.id < y.id)
 pos:∀ x∈g.es,1≤x.id∧x.id≤1048576
 ne:∀ x∈g.es,x.a≠x.b
theorem getE_lt (l:List Ed) (j:Nat) (hj:j < l.length):l.getD j ed0=l[j]:=by
 rw [List.getD_eq_getElem?_getD,List.getElem?_eq_getElem hj];rfl
theorem chk_goodE {g:Gr} (h:chk g=0):GoodE g:=by
 obtain ⟨hg,_,_,_⟩:=chk_good h
 unfold chk at h
 by_cases h1:64 < g.vs.length∨160 < g.es.length
 ·rw [if_pos h1] at h;cases h
 rw [if_neg h1] at h
 by_cases h2:firstNZ (badV g) g.vs.length=0
 ·rw [if_neg (by simp [h2])] at h
  have hE:=firstNZ_all h
  have hEx:∀ j,j < g.es.length→((1≤(g.es.getD j ed0).id∧(g.es.getD j ed0).id≤1048576)∧(0 < j→(g.es.getD (j - 1) ed0).id < (g.es.getD j ed0).id))∧(g.es.getD j ed0).a≠(g.es.getD j ed0).b:=by
   intro j hj
   have:=hE j hj
   unfold badE at this
   simp only at this
   by_cases h3:numb (g.es.getD j ed0).id (g.es.getD (j - 1) ed0).id (decide (j=0))=0
   ·rw [if_neg (fun h=>h h3)] at this
    by_cases h4:(g.es.getD j ed0).a=(g.es.getD j ed0).b
    ·rw [if_pos h4] at this;cases this
    ·have h6:=numb_zero h3
     exact ⟨⟨⟨h6.1,h6.2.1⟩,fun h0=>h6.2.2 (by simp;omega)⟩,h4⟩
   ·rw [if_pos h3] at this;exact absurd this h3
  have hget:∀ x∈g.es,∃ j,j < g.es.length∧g.es.getD j ed0=x:=by
   intro x hx
   obtain ⟨j,hj,rfl⟩:=List.getElem_of_mem hx
   exact ⟨j,hj,getE_lt _ _ hj⟩
  refine ⟨hg,?_,fun x hx=>?_,fun x hx=>?_⟩
  ·rw [List.pairwise_iff_getElem]
   intro a b ha hb hab
   induction b with
   | zero=>omega
   | succ b ih=>
     have h1:=(hEx (b+1) hb).1.2 (by omega)
     rw [Nat.add_sub_cancel,getE_lt _ _ hb,getE_lt _ _ (by omega)] at h1
     rcases Nat.lt_or_ge a b with h2 | h2
     ·have:=ih (by omega) h2;omega
     ·obtain rfl:a=b:=by omega
      exact h1
  ·obtain ⟨j,hj,rfl⟩:=hget x hx
   exact (hEx j hj).1.1
  ·obtain ⟨j,hj,rfl⟩:=hget x hx
   exact (hEx j hj).2
 ·rw [if_pos h2] at h;exact absurd h h2
def okTurn (es:List Ed) (v:Int) (t:List Int):Prop:=t.Perm (ends es v)∧nrm t=t
structure MapOk (m:Mp):Prop where
 g:GoodE m.g
 len:m.rots.length=m.g.vs.length
 ok:∀ k,k < m.g.vs.length→okTurn m.g.es (m.g.vs.getD k 0) (m.rots.getD k [])
section
variable {m:Mp} (h:MapOk m)
include h
end
section
variable {m:Mp} (h:MapOk m)
include h
end
section
variable {m:Mp} (h:MapOk m)
include h
end
end Go.Proofs.YtiiejclelbilkaaGreatDoor.Aw
namespace Go.Proofs.YtiiejclelbilkaaGreatDoor.Aw
open Go Go.RowKit Go.Proofs.YtiiejclelbilkaaGreatDoor.Pl
set_option linter.unusedSimpArgs false
set_option linter.unusedVariables false
def mskN:List Bool→Nat
 | []=>0
 | b::l=>(if b then 1 else 0)+2 * mskN l
theorem mskN_bit:∀ (l:List Bool) (i:Nat),(mskN l).testBit i=l.getD i false
 | [],i=>by simp [mskN]
 | b::l,0=>by
   rw [mskN,Nat.testBit_zero]
   cases b<;>simp<;>omega
 | b::l,i+1=>by
   rw [mskN,Nat.testBit_succ]
   have:((if b then 1 else 0)+2 * mskN l) / 2=mskN l:=by cases b<;>simp<;>omega
   rw [this,mskN_bit l i];simp
theorem mskN_lt:∀ l:List Bool,mskN l < 2 ^ l.length
 | []=>by simp [mskN]
 | b::l=>by
   have:=mskN_lt l
   rw [mskN,List.length_cons,Nat.pow_succ]
   cases b<;>simp<;>omega
def mk (vs S:List Int):Nat:=mskN (vs.map fun v=>decide (v∈S))
theorem mk_bit (vs S:List Int) (i:Nat):(mk vs S).testBit i=(decide (i < vs.length)&&decide (vs.getD i 0∈S)):=by
 unfold mk
 rw [mskN_bit,List.getD_eq_getElem?_getD,List.getElem?_map]
 by_cases h:i < vs.length
 ·rw [List.getElem?_eq_getElem h,List.getD_eq_getElem?_getD,List.getElem?_eq_getElem h];simp [h]
 ·rw [List.getElem?_eq_none (by omega)];simp [h]
theorem mk_lt (vs S:List Int) (h:vs.length≤64):mk vs S < 18446744073709551616:=by
 have h1:=mskN_lt (vs.map fun v=>decide (v∈S))
 rw [List.length_map] at h1
 exact Nat.lt_of_lt_of_le h1 (by
  have:=Nat.pow_le_pow_right (show 0 < 2 by decide) h
  exact this)
theorem mk_congr {vs A B:List Int} (h:∀ v∈vs,(v∈A↔v∈B)):mk vs A=mk vs B:=by
 unfold mk
 congr 1
 exact List.map_congr_left fun v hv=>by simp [h v hv]
theorem mk_iff {vs A B:List Int} (h:mk vs A=mk vs B):∀ v∈vs,(v∈A↔v∈B):=fun v hv=>by
 obtain ⟨i,hi,rfl⟩:=List.getElem_of_mem hv
 have h1:=mk_bit vs A i
 rw [h,mk_bit vs B i] at h1
 simpa [hi] using h1.symm
theorem mk_zero (vs A:List Int):mk vs A=0↔∀ v∈vs,v∉A:=by
 have e:mk vs []=0:=by
  apply Nat.eq_of_testBit_eq
  intro i
  rw [mk_bit];simp
 constructor
 ·intro h v hv hA
  have:=(mk_iff (h.trans e.symm) v hv).1 hA
  simp at this
 ·intro h
  rw [← e]
  exact mk_congr fun v hv=>by simp [h v hv]
theorem gor_nat (a b:Nat) (ha:a < 18446744073709551616) (hb:b < 18446744073709551616):gor .u64 (a:Int) (b:Int)=((a ||| b:Nat):Int):=by
 have hx:a ||| b < 2 ^ 64:=Nat.or_lt_two_pow (by omega) (by omega)
 unfold gor
 simp only [show IntKind.u64.bits=64 from rfl,BitVec.ofInt_natCast,BitVec.toNat_or,BitVec.toNat_ofNat,Nat.mod_eq_of_lt ha,Nat.mod_eq_of_lt hb]
 rw [IntKind.wrap_u64]
 omega
theorem gand_nat (a b:Nat) (ha:a < 18446744073709551616) (hb:b < 18446744073709551616):gand .u64 (a:Int) (b:Int)=((a &&& b:Nat):Int):=by
 have hx:a &&& b < 2 ^ 64:=Nat.and_lt_two_pow _ (by omega)
 unfold gand
 simp only [show IntKind.u64.bits=64 from rfl,BitVec.ofInt_natCast,BitVec.toNat_and,BitVec.toNat_ofNat,Nat.mod_eq_of_lt ha,Nat.mod_eq_of_lt hb]
 rw [IntKind.wrap_u64]
 omega
theorem gandNot_nat (a b:Nat) (ha:a < 18446744073709551616) (hb:b < 18446744073709551616):gandNot .u64 (a:Int) (b:Int)=((a &&& (2 ^ 64 - (b+1)):Nat):Int):=by
 have hx:a &&& (2 ^ 64 - (b+1)) < 2 ^ 64:=Nat.and_lt_two_pow _ (by omega)
 unfold gandNot
 simp only [show IntKind.u64.bits=64 from rfl,BitVec.ofInt_natCast,BitVec.toNat_and,BitVec.toNat_not,BitVec.toNat_ofNat,Nat.mod_eq_of_lt ha,Nat.mod_eq_of_lt hb]
 rw [show 2 ^ 64 - 1 - b=2 ^ 64 - (b+1) by omega,IntKind.wrap_u64]
 omega
theorem mk_or (vs A B:List Int) (h:vs.length≤64):gor .u64 (mk vs A) (mk vs B)=mk vs (A++B):=by
 rw [gor_nat _ _ (mk_lt vs A h) (mk_lt vs B h)]
 congr 1
 apply Nat.eq_of_testBit_eq
 intro i
 rw [Nat.testBit_or,mk_bit,mk_bit,mk_bit]
 simp only [List.mem_append,Bool.decide_or]
 cases decide (i < vs.length)<;>simp
theorem mk_and (vs A B:List Int) (h:vs.length≤64):gand .u64 (mk vs A) (mk vs B)=mk vs (A.filter fun v=>decide (v∈B)):=by
 rw [gand_nat _ _ (mk_lt vs A h) (mk_lt vs B h)]
 congr 1
 apply Nat.eq_of_testBit_eq
 intro i
 rw [Nat.testBit_and,mk_bit,mk_bit,mk_bit]
 simp only [List.mem_filter,decide_eq_true_iff,Bool.decide_and]
 cases decide (i < vs.length)<;>simp
theorem mk_diff (vs A B:List Int) (h:vs.length≤64):gandNot .u64 (mk vs A) (mk vs B)=mk vs (A.filter fun v=>!decide (v∈B)):=by
 rw [gandNot_nat _ _ (mk_lt vs A h) (mk_lt vs B h)]
 congr 1
 apply Nat.eq_of_testBit_eq
 intro i
 rw [Nat.testBit_and,Nat.testBit_two_pow_sub_succ (mk_lt vs B h),mk_bit,mk_bit,mk_bit]
 by_cases hi:i < vs.length
 ·have:i < 64:=by omega
  simp only [hi,this,decide_true,Bool.true_and]
  by_cases h1:vs.getD i 0∈A<;>by_cases h2:vs.getD i 0∈B<;>simp [List.mem_filter,h1,h2]
 ·simp [hi]
def fst' (vs S:List Int):Nat:=vs.findIdx fun v=>decide (v∈S)
theorem pow_split {x k:Nat} (h1:x.testBit k=true) (h2:∀ j,j < k→x.testBit j=false):∃ m,x=2 ^ k * (2 * m+1):=by
 induction k generalizing x with
 | zero=>
   rw [Nat.testBit_zero] at h1
   simp only [decide_eq_true_eq] at h1
   exact ⟨x / 2,by simp;omega⟩
 | succ k ih=>
   have h0:=h2 0 (by omega)
   rw [Nat.testBit_zero] at h0
   simp only [decide_eq_false_iff_not] at h0
   rw [Nat.testBit_succ] at h1
   obtain ⟨m,hm⟩:=ih h1 fun j hj=>by rw [← Nat.testBit_succ];exact h2 (j+1) (by omega)
   refine ⟨m,?_⟩
   have e:x=2 * (x / 2):=by omega
   rw [Nat.pow_succ,Nat.mul_assoc,Nat.mul_comm 2,← Nat.mul_assoc,← hm]
   omega
theorem mk_split {vs S:List Int} (h:fst' vs S < vs.length):∃ m,mk vs S=2 ^ fst' vs S * (2 * m+1):=by
 have hp:decide (vs[fst' vs S]∈S)=true:=List.findIdx_getElem (w:=h)
 refine pow_split ?_ fun j hj=>?_
 ·rw [mk_bit,List.getD_eq_getElem?_getD,List.getElem?_eq_getElem h];simpa [h] using hp
 ·rw [mk_bit]
  have hjl:j < vs.length:=by omega
  have:=List.not_of_lt_findIdx hj
  rw [List.getD_eq_getElem?_getD,List.getElem?_eq_getElem hjl]
  simpa [hjl] using this
theorem two_pow_odd {a b m n:Nat} (h:2 ^ a * (2 * m+1)=2 ^ b * (2 * n+1)):a=b:=by
 induction a generalizing b with
 | zero=>
   cases b with
   | zero=>rfl
   | succ b=>
     rw [Nat.pow_succ] at h
     simp at h
     have:2 ^ b * 2 * (2 * n+1)=2 * (2 ^ b * (2 * n+1)):=by rw [Nat.mul_comm (2 ^ b) 2,Nat.mul_assoc]
     omega
 | succ a ih=>
   cases b with
   | zero=>
     rw [Nat.pow_succ] at h
     simp at h
     have:2 ^ a * 2 * (2 * m+1)=2 * (2 ^ a * (2 * m+1)):=by rw [Nat.mul_comm (2 ^ a) 2,Nat.mul_assoc]
     omega
   | succ b=>
     rw [Nat.pow_succ,Nat.pow_succ,Nat.mul_comm (2 ^ a) 2,Nat.mul_comm (2 ^ b) 2,Nat.mul_assoc,Nat.mul_assoc] at h
     rw [ih (Nat.eq_of_mul_eq_mul_left (by decide) h)]
theorem mk_ctz {vs S:List Int} (h64:vs.length≤64) (h:fst' vs S < vs.length):Lib.ctz 64 (mk vs S)=fst' vs S:=by
 obtain ⟨m,hm⟩:=mk_split h
 have hlt:=mk_lt vs S h64
 have h0:mk vs S≠0:=by rw [hm];exact Nat.mul_ne_zero (by exact Nat.pos_iff_ne_zero.1 (Nat.two_pow_pos _)) (by omega)
 have e:Lib.ctz 64 (mk vs S)=Lib.ctzFrom 64 (mk vs S):=by simp [Lib.ctz,h0]
 obtain ⟨n,hn,_⟩:=Lib.ctzFrom_spec 64 (mk vs S) (by omega) hlt
 rw [e]
 exact two_pow_odd (hn.symm.trans hm)
theorem mk_pos {vs S:List Int} (h:fst' vs S < vs.length):mk vs S≠0:=by
 obtain ⟨m,hm⟩:=mk_split h
 rw [hm];exact Nat.mul_ne_zero (Nat.pos_iff_ne_zero.1 (Nat.two_pow_pos _)) (by omega)
theorem fst_lt {vs S:List Int}:fst' vs S < vs.length↔∃ v∈vs,v∈S:=by
 unfold fst';rw [List.findIdx_lt_length];simp
theorem fst_mem {vs S:List Int} (h:fst' vs S < vs.length):vs.getD (fst' vs S) 0∈S∧vs.getD (fst' vs S) 0∈vs:=by
 have hp:decide (vs[fst' vs S]∈S)=true:=List.findIdx_getElem (w:=h)
 have e:vs.getD (fst' vs S) 0=vs[fst' vs S]:=by rw [List.getD_eq_getElem?_getD,List.getElem?_eq_getElem h];rfl
 rw [e]
 exact ⟨by simpa using hp,List.getElem_mem _⟩
theorem nd_inj {vs:List Int} (hn:vs.Nodup) {i j:Nat} (hi:i < vs.length) (hj:j < vs.length):vs[i]=vs[j]↔i=j:=by
 constructor
 ·intro e
  refine Classical.byContradiction fun hne=>?_
  rcases Nat.lt_or_gt_of_ne hne with h | h
  ·exact List.pairwise_iff_getElem.1 hn i j hi hj h e
  ·exact List.pairwise_iff_getElem.1 hn j i hj hi h e.symm
 ·intro e;subst e;rfl
theorem mk_one {vs:List Int} (hn:vs.Nodup) {k:Nat} (hk:k < vs.length):mk vs [vs.getD k 0]=2 ^ k:=by
 apply Nat.eq_of_testBit_eq
 intro i
 rw [mk_bit,Nat.testBit_two_pow]
 by_cases hi:i < vs.length
 ·rw [List.getD_eq_getElem?_getD,List.getD_eq_getElem?_getD,List.getElem?_eq_getElem hi,List.getElem?_eq_getElem hk]
  simp only [hi,decide_true,Bool.true_and,Option.getD_some,List.mem_singleton,nd_inj hn hi hk]
  by_cases e:i=k
  ·simp [e]
  ·have e2:¬ k=i:=fun h=>e h.symm
   simp [e,e2]
 ·simp only [hi,decide_false,Bool.false_and]
  have:¬ k=i:=by omega
  simp [this]
theorem mk_low {vs S:List Int} (h64:vs.length≤64) (hn:vs.Nodup) (h:fst' vs S < vs.length):gand .u64 (mk vs S) (IntKind.u64.wrap (0 - (mk vs S:Int)))=mk vs [vs.getD (fst' vs S) 0]:=by
 have hlt:=mk_lt vs S h64
 have h0:=mk_pos h
 have e1:IntKind.u64.wrap (0 - (mk vs S:Int))=((18446744073709551616 - mk vs S:Nat):Int):=by rw [IntKind.wrap_u64];omega
 rw [e1,gand_nat _ _ hlt (by omega),mk_one hn h]
 have:=(Lib.lowest_bit 64 (mk vs S) h0 hlt).1
 rw [mk_ctz h64 h] at this
 rw [← this]
theorem and_pred (k m:Nat):(2 ^ k * (2 * m+1)) &&& (2 ^ k * (2 * m+1) - 1)=2 ^ k * (2 * m):=by
 have hp:=Nat.two_pow_pos k
 have e:2 ^ k * (2 * m+1) - 1=2 ^ k * (2 * m)+(2 ^ k - 1):=by
  rw [Nat.mul_add,Nat.mul_one];omega
 rw [e]
 apply Nat.eq_of_testBit_eq
 intro i
 rw [Nat.testBit_and,Nat.testBit_two_pow_mul_add _ (show 2 ^ k - 1 < 2 ^ k by omega)]
 rw [Nat.mul_comm (2 ^ k),Nat.mul_comm (2 ^ k),Nat.testBit_mul_two_pow,Nat.testBit_mul_two_pow]
 by_cases hik:i < k
 ·have h1:¬ k≤i:=by omega
  simp [hik,h1]
 ·have h1:k≤i:=by omega
  simp only [hik,h1,decide_true,Bool.true_and,if_false]
  cases hj:i - k with
  | zero=>simp [Nat.testBit_zero]
  | succ j=>
    rw [Nat.testBit_succ,Nat.testBit_succ]
    have d1:(2 * m+1) / 2=m:=by omega
    have d2:2 * m / 2=m:=by omega
    rw [d1,d2];simp
theorem mk_drop {vs S:List Int} (h64:vs.length≤64) (hn:vs.Nodup) (h:fst' vs S < vs.length):gand .u64 (mk vs S) (IntKind.u64.wrap ((mk vs S:Int) - 1))=mk vs (S.filter fun w=>decide (w≠vs.getD (fst' vs S) 0)):=by
 have hlt:=mk_lt vs S h64
 have h0:=mk_pos h
 have e1:IntKind.u64.wrap ((mk vs S:Int) - 1)=((mk vs S - 1:Nat):Int):=by rw [IntKind.wrap_u64];omega
 rw [e1,gand_nat _ _ hlt (by omega)]
 congr 1
 obtain ⟨m,hm⟩:=mk_split h
 have h2:mk vs S &&& (mk vs S - 1)=mk vs S - 2 ^ fst' vs S:=by
  rw [hm,and_pred,Nat.mul_add (2 ^ _) (2 * m) 1,Nat.mul_one];omega
 apply Nat.eq_of_testBit_eq
 intro i
 have hb:mk vs S &&& (mk vs S - 1)=2 ^ fst' vs S * (2 * m):=by rw [hm,and_pred]
 have hS:(mk vs S).testBit i=(2 ^ fst' vs S * (2 * m+1)).testBit i:=by rw [← hm]
 rw [hb,mk_bit]
 rw [mk_bit,Nat.mul_comm (2 ^ _),Nat.testBit_mul_two_pow] at hS
 rw [Nat.mul_comm (2 ^ _),Nat.testBit_mul_two_pow]
 by_cases e:i=fst' vs S
 ·rw [e]
  simp only [Nat.le_refl,decide_true,Nat.sub_self,Nat.testBit_zero,List.mem_filter,decide_eq_true_iff,Bool.true_and,ne_eq,not_true_eq_false,and_false,decide_false,Bool.and_false]
  have:2 * m % 2=0:=by omega
  simp [this]
 ·have hv:i < vs.length→vs.getD i 0≠vs.getD (fst' vs S) 0:=fun hi=>by
   rw [List.getD_eq_getElem?_getD,List.getD_eq_getElem?_getD,List.getElem?_eq_getElem hi,List.getElem?_eq_getElem h]
   simpa [nd_inj hn hi h] using e
  have h3:(2 * m).testBit (i - fst' vs S)=(2 * m+1).testBit (i - fst' vs S)∨i < fst' vs S:=by
   by_cases hi:i < fst' vs S
   ·exact .inr hi
   ·left
    obtain ⟨j,hj⟩:∃ j,i - fst' vs S=j+1:=⟨i - fst' vs S - 1,by omega⟩
    rw [hj,Nat.testBit_succ,Nat.testBit_succ]
    congr 1;omega
  have h4:(decide (fst' vs S≤i)&&(2 * m).testBit (i - fst' vs S))=(decide (fst' vs S≤i)&&(2 * m+1).testBit (i - fst' vs S)):=by
   rcases h3 with h3 | h3
   ·rw [h3]
   ·have:¬ fst' vs S≤i:=by omega
    simp [this]
  rw [h4,← hS]
  by_cases hi:i < vs.length
  ·have hvi:=hv hi
   clear hv hS h4 h3
   generalize vs.getD i 0=x at *
   generalize vs.getD (fst' vs S) 0=y at *
   simp [hi,List.mem_filter,hvi]
  ·simp [hi]
theorem mk_bit1 {vs:List Int} (hn:vs.Nodup) (h64:vs.length≤64) {k:Nat} (hk:k < vs.length):gshl .u64 1 (k:Int)=mk vs [vs.getD k 0]:=by
 rw [mk_one hn hk]
 unfold gshl
 have:min (k:Int).toNat IntKind.u64.bits=k:=by
  have:IntKind.u64.bits=64:=rfl
  omega
 rw [this,Int.one_mul,IntKind.wrap_u64]
 have h2:2 ^ k < 18446744073709551616:=Nat.lt_of_lt_of_le (Nat.pow_lt_pow_right (show 1 < 2 by decide) (show k < 64 by omega)) (Nat.le_refl _)
 have h3:((2:Int) ^ k)=((2 ^ k:Nat):Int):=by simp
 rw [h3]
 generalize (2:Nat) ^ k=x at h2
 omega
abbrev wv (n:Nat):LV:=.atom (.int .u64 n)
theorem belP_us (n:Nat):∀ l:List Int,belL n (us l):=fun l=>by
 induction l with
 | nil=>trivial
 | cons a l ih=>exact ⟨trivial,ih⟩
def plcM (vs:List Int):List (List Int×LV):=(List.range vs.length).map fun k=>([vs.getD k 0],i k)
theorem plcM_get {vs:List Int} (hn:vs.Nodup) {k:Nat} (hk:k < vs.length):mget (plcM vs) [vs.getD k 0]=some (i k):=by
 have key:∀ (L:List Nat),(∀ j∈L,j < vs.length)→k∈L→mget (L.map fun k=>(([vs.getD k 0],i k):List Int×LV)) [vs.getD k 0]=some (i k):=by
  intro L
  induction L with
  | nil=>intro _ h;cases h
  | cons j L ih=>
    intro hL hkL
    simp only [List.map_cons,mget]
    by_cases e:j=k
    ·subst e;simp
    ·have hj:=hL j (by simp)
     have hne:¬ vs.getD k 0=vs.getD j 0:=by
      rw [List.getD_eq_getElem?_getD,List.getD_eq_getElem?_getD,List.getElem?_eq_getElem hk,List.getElem?_eq_getElem hj]
      simpa [nd_inj hn hk hj] using fun h=>e h.symm
     rw [if_neg (by simpa using hne)]
     exact ih (fun j hj=>hL j (List.mem_cons_of_mem _ hj)) ((List.mem_cons.1 hkL).resolve_left fun h=>e h.symm)
 exact key _ (fun j hj=>List.mem_range.1 hj) (List.mem_range.2 hk)
def ShB (vs:List Int) (S pl:Nat) (st:St):Prop:=(∃ a b c d e f,st.H S=.box 130 7 [a,b,c,.mp pl,d,e,f])∧st.H pl=.map false [.u32] (plcM vs)
theorem idx_at {vs:List Int} {v:Int} (hv:v∈vs):vs.idxOf v < vs.length∧vs.getD (vs.idxOf v) 0=v:=by
 have h:=List.idxOf_lt_length_of_mem hv
 exact ⟨h,by rw [getD_lt _ _ h,List.getElem_idxOf]⟩
theorem sBit {vs:List Int} {S pl:Nat} {st:St} (hS:ShB vs S pl st) (hn:vs.Nodup) (h64:vs.length≤64) {v:Int} (hv:v∈vs):
 ACalls Tryz.prog 120 [.pt S 0,u v] st fun r st'=>r=wv (mk vs [v])∧st'=st:=by
 obtain ⟨⟨a,b,c,d,e,f,hSb⟩,hP⟩:=hS
 obtain ⟨hk,hg⟩:=idx_at hv
 have h1:=plcM_get hn hk
 have h2:=mk_bit1 hn h64 hk
 rw [hg] at h1 h2
 refine qO tabOk Tryz.func120 rfl rfl Tryz.ntmps120 (rs:=[.tmp 4]) rfl (by simp) ?_
 (repeat' (first | refine qS ?_ | (refine qR ?_;simp only [ak,reduceIte];simp [hSb,hP,h1,h2]) | (refine w_e [] ?_;intro J hJ;simp only [];simp [hSb,hP,h1,h2];(refine hJ _ _ ?_;clear hJ J;simp only [ak,reduceIte]))))
theorem mk_snoc (vs l:List Int) (j:Nat) (hj:j < l.length) (h:vs.length≤64):gor .u64 (mk vs (l.take j)) (mk vs [l.getD j 0])=mk vs (l.take (j+1)):=by
 rw [mk_or vs _ _ h,List.take_succ_eq_append_getElem hj,List.getD_eq_getElem?_getD,List.getElem?_eq_getElem hj];rfl
theorem sSet {vs:List Int} {S pl:Nat} {st:St} (hS:ShB vs S pl st) (hn:vs.Nodup) (h64:vs.length≤64) (l:List Int) (t:Nat) (hl:∀ v∈l,v∈vs) (hll:l.length≤1048576):
 ACalls Tryz.prog 170 [.pt S 0,.sl t l.length (us l)] st fun r st'=>r=wv (mk vs l)∧st'=st:=by
 refine qO tabOk Tryz.func170 rfl rfl Tryz.ntmps170 (rs:=[.tmp 4]) rfl (by simp) ?_
 (repeat' (first | refine qS ?_ | refine qB ?_ | (refine w_e [] ?_;intro J hJ;simp only [];simp [];(refine hJ _ _ ?_;clear hJ J;simp only [ak,reduceIte]))))
 have h0:mk vs []=0:=(mk_zero vs []).2 fun _ _=>by simp
 refine awp_range 10 9 11 19 (l.length) (fun j fr st2=>fr 0=.pt S 0∧fr 8=.sl t l.length (us l)∧fr 5=wv (mk vs (l.take j))∧st2=st) ?_ ?_ ?_
 ·exact ⟨by simp,by simp,by simp [h0],rfl⟩
 ·rintro j fr s hlt ⟨f0,f8,f5,hs⟩ fi fn J hJ
  subst hs
  have hd:=qG l j hlt
  have hm:=mk_snoc vs l j hlt h64
  have hv:l.getD j 0∈vs:=hl _ (by rw [getD_lt _ _ hlt];exact List.getElem_mem _)
  generalize l.getD j 0=v at *
  (repeat' (first | refine qS ?_ | (refine w_e [] ?_;intro J hJ;simp only [];simp [f0,f8,f5,fi,fn,hd,hlt];(try (refine hJ _ _ ?_;clear hJ J;simp only [ak,reduceIte])))))
  refine qE (sBit hS hn h64 hv) (by simp) ?_;rintro r s1 ⟨rfl,h1⟩
  rw [h1];clear h1 s1
  (repeat' (refine e_go ?_;simp [fi,hm];(refine hJ _ _ ?_;clear hJ J;simp only [ak,reduceIte])))
  exact hJ _ _ (by simp [fi]) (by simp [fn]) ⟨by simp [f0],by simp [f8],by simp,rfl⟩
 ·rintro fr s ⟨f0,f8,f5,hs⟩
  subst hs
  rw [List.take_length] at f5
  (repeat' (first | refine qS ?_ | (refine qR ?_;simp only [ak,reduceIte];simp [f5]) | (refine w_e [] ?_;intro J hJ;simp only [];simp [f5];(refine hJ _ _ ?_;clear hJ J;simp only [ak,reduceIte]))))
theorem sFace {vs:List Int} {S pl:Nat} {st:St} (hS:ShB vs S pl st) (hSn:S < st.next) (hpn:pl < st.next) (hn:vs.Nodup) (h64:vs.length≤64) (l:List Int) (t:Nat) (hl:∀ v∈l,v∈vs) (hll:l.length≤1048576):
 ACalls Tryz.prog 124 [.pt S 0,.sl t l.length (us l)] st fun r st'=>r=.ag [.sl 0 l.length (us l),wv (mk vs l)]∧st'=st:=by
 refine qT (Q:=fun r=>r=.ag [.sl 0 l.length (us l),wv (mk vs l)]) (acalls_z0 ?_) fun r h=>by subst h;exact ⟨⟨.inl rfl,belP_us _ _⟩,trivial,trivial⟩
 refine qO tabOk Tryz.func124 rfl rfl Tryz.ntmps124 (rs:=[.cell 4 138]) rfl (by simp) ?_
 (repeat' (first | refine qS ?_ | (refine w_e [] ?_;intro J hJ;simp only [];simp [];(try (refine hJ _ _ ?_;clear hJ J;simp only [ak,reduceIte])))))
 refine qE (sSet (vs:=vs) (S:=S) (pl:=pl) ?_ hn h64 l t hl hll) (by simp) ?_
 ·obtain ⟨⟨a,b,c,d,e,f,hSb⟩,hP⟩:=hS
  exact ⟨⟨a,b,c,d,e,f,by rw [new_H,if_neg (by omega)];exact hSb⟩,by rw [new_H,if_neg (by omega)];exact hP⟩
 rintro r s1 ⟨rfl,h1⟩
 rw [h1];clear h1 s1
 (repeat' (first | (refine qR ?_;simp only [ak,reduceIte];simp []) | (refine e_go ?_;simp [];(refine hJ _ _ ?_;clear hJ J;simp only [ak,reduceIte]))))
 exact ⟨by simp [z0,z0L],Keeps.new _ _⟩
theorem set_samePl {st:St} {m:Nat} {o:LObj} (h:st.H m=o):st.set m o=st:=by
 obtain ⟨n,H⟩:=st
 simp only [St.set,St.mk.injEq,true_and]
 funext y
 by_cases e:y=m
 ·subst e;rw [if_pos rfl];exact h.symm
 ·rw [if_neg e]
def prP (a b:Int):Int×Int:=(min a b,max a b)
abbrev pk (p:Int×Int):List Int:=[p.1,p.2]
def addP (L:List (Int×Int)) (p:Int×Int):List (Int×Int):=if p∈L then L else L++[p]
def wayP:List Int→List (Int×Int)
 | a::b::l=>prP a b::wayP (b::l)
 | _=>[]
def markL (L:List (Int×Int)) (w:List Int):List (Int×Int):=(wayP w).foldl addP L
theorem wayP_len:∀ w:List Int,(wayP w).length=w.length - 1
 | []=>rfl
 | [_]=>rfl
 | a::b::l=>by
   have:=wayP_len (b::l)
   rw [wayP,List.length_cons,this];simp
theorem wayP_get:∀ (w:List Int) (k:Nat),k+1 < w.length→(wayP w)[k]?=some (prP (w.getD k 0) (w.getD (k+1) 0))
 | a::b::l,0,_=>by simp [wayP]
 | a::b::l,k+1,h=>by
   rw [wayP,List.getElem?_cons_succ,wayP_get (b::l) k (by simpa using h)];simp
 | [],k,h=>by simp at h
 | [_],k,h=>by simp at h
theorem keys_mset (es:List (List Int×LV)) (L:List (Int×Int)) (p:Int×Int) (v:LV) (h:es.map (·.1)=L.map pk):(mset es (pk p) v).map (·.1)=(addP L p).map pk:=by
 have hin:pk p∈L.map pk↔p∈L:=by
  rw [List.mem_map]
  constructor
  ·rintro ⟨q,hq,e⟩
   simp only [pk,List.cons.injEq,and_true] at e
   obtain ⟨e1,e2⟩:=e
   have:q=p:=Prod.ext e1 e2
   rw [← this];exact hq
  ·intro hp;exact ⟨p,hp,rfl⟩
 have key:∀ (es:List (List Int×LV)),(mset es (pk p) v).map (·.1)=if pk p∈es.map (·.1) then es.map (·.1) else es.map (·.1)++[pk p]:=by
  intro es
  induction es with
  | nil=>simp [mset]
  | cons q es ih=>
    simp only [mset]
    by_cases e:pk p=q.1
    ·rw [if_pos (by simpa using e)];simp [e]
    ·rw [if_neg (by simpa using e),List.map_cons,ih,List.map_cons]
     by_cases e2:pk p∈es.map (·.1)
     ·rw [if_pos e2,if_pos (List.mem_cons_of_mem _ e2)]
     ·rw [if_neg e2,if_neg (by simp only [List.mem_cons,not_or];exact ⟨e,e2⟩)];rfl
 rw [key,h]
 unfold addP
 by_cases e:p∈L
 ·rw [if_pos e,if_pos (hin.2 e)]
 ·rw [if_neg e,if_neg fun k=>e (hin.1 k),List.map_append];rfl
theorem pair (a b:Int) (st:St):ACalls Tryz.prog 56 [u a,u b] st fun r st'=>r=.ag [u (min a b),u (max a b)]∧st'=st:=by
 refine qT (Q:=fun r=>r=.ag [u (min a b),u (max a b)]) ?_ fun r h=>by subst h;exact ⟨trivial,trivial,trivial⟩
 refine qO tabOk Tryz.func56 rfl rfl Tryz.ntmps56 (rs:=[.cell 4 27]) rfl (by simp) ?_
 (repeat' (first | refine qS ?_ | (refine qR ?_;simp only [ak,reduceIte];simp []) | (refine w_e [] ?_;intro J hJ;simp only [];simp [];(refine hJ _ _ ?_;clear hJ J;simp only [ak,reduceIte]))))
 exact ⟨⟨by split<;>omega,by split<;>omega⟩,Keeps.new _ _⟩
set_option maxHeartbeats 1000000 in
theorem sMark {vs:List Int} {S pl ll:Nat} {st:St} {a b c f:LV} {on:List Int} {le:List (List Int×LV)} {L:List (Int×Int)} (hSb:st.H S=.box 130 7 [a,b,c,.mp pl,.mp ll,wv (mk vs on),f]) (hP:st.H pl=.map false [.u32] (plcM vs))
 (hL:st.H ll=.map true [.u32,.u32] le) (hk:le.map (·.1)=L.map pk) (hpl:¬ pl=ll) (hn:vs.Nodup) (h64:vs.length≤64) (w:List Int) (t:Nat) (hw:∀ v∈w,v∈vs) (hwl:w.length≤1000):
 ACalls Tryz.prog 123 [.pt S 0,.sl t w.length (us w)] st fun _ st'=>∃ le',st'=(st.set ll (.map true [.u32,.u32] le')).set S (.box 130 7 [a,b,c,.mp pl,.mp ll,wv (mk vs (on++w)),f])∧le'.map (·.1)=(markL L w).map pk:=by
 have n1:¬ S=ll:=fun h=>by rw [h,hL] at hSb;cases hSb
 have n2:¬ ll=S:=fun h=>n1 h.symm
 have n3:¬ pl=S:=fun h=>by rw [h,hSb] at hP;cases hP
 refine qO tabOk Tryz.func123 rfl rfl Tryz.ntmps123 (rs:=[]) rfl (by simp) ?_
 (repeat' (first | refine qS ?_ | refine qB ?_ | (refine w_e [] ?_;intro J hJ;simp only [];simp [];(refine hJ _ _ ?_;clear hJ J;simp only [ak,reduceIte]))))
 refine qL (fun n fr st'=>∃ k:Nat,1≤k∧(k=1∨k≤w.length)∧n=w.length - k∧fr 0=.pt S 0∧fr 1=.sl t w.length (us w)∧fr 4=i k∧∃ le',st'=st.set ll (.map true [.u32,.u32] le')∧le'.map (·.1)=(((wayP w).take (k - 1)).foldl addP L).map pk) (w.length - 1) ?_ ?_
 ·exact ⟨1,by omega,.inl rfl,rfl,by simp,by simp,by simp,le,(set_samePl hL).symm,by simpa using hk⟩
 rintro n fr s ⟨k,hk1,hk2,rfl,f0,f1,f4,le',rfl,hk3⟩ JJ hJJ
 by_cases hlt:k < w.length
 ·have hw1:=qN k (by omega)
  have hd:=qG w k hlt
  have hd1:=qG w (k - 1) (by omega)
  have hg:=wayP_get w (k - 1) (by omega)
  have hwl2:=wayP_len w
  have e1:IntKind.i64.wrap ((k:Int) - 1)=((k - 1:Nat):Int):=by rw [wrap_i64 _ (by omega) (by omega)];omega
  have e4:k - 1 < w.length:=by omega
  rw [show k - 1+1=k by omega] at hg
  have hset:∀ v,(mset le' (pk (prP (w.getD (k - 1) 0) (w.getD k 0))) v).map (·.1)=(((wayP w).take (k+1 - 1)).foldl addP L).map pk:=fun v=>by
   rw [keys_mset _ _ _ _ hk3,show k+1 - 1=(k - 1)+1 by omega]
   have hlt2:k - 1 < (wayP w).length:=by omega
   rw [List.take_succ_eq_append_getElem hlt2,List.foldl_append]
   rw [List.getElem?_eq_getElem hlt2,Option.some.injEq] at hg
   rw [hg];rfl
  generalize w.getD (k - 1) 0=x at *
  generalize w.getD k 0=y at *
  (repeat' (first | refine qS ?_ | refine qB ?_ | (refine qK ?_;simp only [ak,reduceIte]) | (refine qC ?_;simp [f0,f1,f4,hlt]) | (refine w_e [] ?_;intro J hJ;simp only [];simp [f0,f1,f4,hlt];(refine hJ _ _ ?_;clear hJ J;simp only [ak,reduceIte]))))
  (refine w_s [] [S] [(0,true),(1,true),(2,true),(3,true),(4,true),(5,true),(6,true),(7,true),(8,true),(9,true),(10,true),(11,true),(12,true),(14,true),(13,true),(15,false)] ?_;intro J hJ;simp [f0,f1,f4,hlt,hSb,hL,n1,n2,e1,e4,hd,hd1])
  refine qD (pair x y _) (by simp) ?_;rintro r s1 ⟨rfl,h1⟩
  rw [h1];clear h1 s1
  refine ⟨fun h=>by first | (cases h;done) | simp,?_⟩
  (refine d_go ?_;simp [n1,n2,hL];(refine hJ _ _ ?_;clear hJ J;simp only [ak,reduceIte]))
  (repeat' (refine w_e [] ?_;intro J hJ;simp only [];simp [f4,hw1];(refine hJ _ _ ?_;clear hJ J;simp only [ak,reduceIte])))
  refine hJJ _ _ _ ?_ ⟨k+1,by omega,.inr (by omega),rfl,by simp [f0],by simp [f1],by simp,_,set_set _ _ _ _,hset _⟩
  omega
 ·have hkk:(wayP w).take (k - 1)=wayP w:=List.take_of_length_le (by rw [wayP_len];omega)
  rw [hkk] at hk3
  have hB:ShB vs S pl (st.set ll (.map true [.u32,.u32] le')):=⟨⟨a,b,c,.mp ll,wv (mk vs on),f,by rw [set_H,if_neg n1];exact hSb⟩,by rw [set_H,if_neg hpl];exact hP⟩
  have hor:=mk_or vs on w h64
  (repeat' (first | refine qS ?_ | (refine qX ?_;simp only [ak,reduceIte]) | (refine qC ?_;simp [f0,f1,f4,hlt]) | (refine w_e [] ?_;intro J hJ;simp only [];simp [f0,f1,f4,hlt];(refine hJ _ _ ?_;clear hJ J;simp only [ak,reduceIte]))))
  (refine w_s [] [S] [(0,true),(1,true),(2,true),(3,true),(4,true),(5,true),(6,true),(7,true),(8,true),(9,true),(10,false)] ?_;intro J hJ;simp [f0,f1,hSb,n1])
  refine qD (sSet hB hn h64 w t hw (by omega)) (by simp) ?_;rintro r s1 ⟨rfl,h1⟩
  rw [h1];clear h1 s1
  refine ⟨fun h=>by first | (cases h;done) | simp,?_⟩
  (refine d_go ?_;simp [hSb,n1,hor];(refine hJ _ _ ?_;clear hJ J;simp only [ak,reduceIte]))
  skip
  exact ⟨trivial,le',rfl,hk3⟩
end Go.Proofs.YtiiejclelbilkaaGreatDoor.Aw
namespace Go.Proofs.YtiiejclelbilkaaGreatDoor.Aw
open Go Go.RowKit
set_option linter.unusedSimpArgs false
set_option linter.unusedVariables false
set_option maxHeartbeats 1000000 in
theorem tz_core (x k idx:Nat) (w:World) (hx0:((x:Int)==0)=false)
 (key:IntKind.u64.wrap (bits BinOp.and IntKind.u64 (x:Int) (IntKind.u64.wrap (-(x:Int))) * 285870213051353865) / 288230376151711744=(idx:Int))
 (hi:idx < 64) (hk:k < 64) (hcell:w.cell? ⟨0,idx,none⟩=some (.int .u8 k)):
 Calls Tryz.prog 127 #[.int .u64 x] w fun e w'=>e=.returned (.int .i64 k)∧w'=w:=by
 go_enter Tryz.func127,Tryz.ntmps127
 go_wp2_with (simp only [key])
 go_ret
 exact ⟨rfl,rfl⟩
theorem tz_zero (w:World):
 Calls Tryz.prog 127 #[.int .u64 0] w fun e w'=>e=.returned (.int .i64 64)∧w'=w:=by
 go_enter Tryz.func127,Tryz.ntmps127
 go_wp2
 go_ret
 exact ⟨rfl,rfl⟩
theorem tz_key (x a:Nat) (hx:x < 18446744073709551616) (hx0:x≠0) (hlow:x &&& (18446744073709551616 - x)=a):
 IntKind.u64.wrap (bits BinOp.and IntKind.u64 (x:Int) (IntKind.u64.wrap (-(x:Int))) * 285870213051353865) / 288230376151711744=((a * 285870213051353865 % 18446744073709551616 / 288230376151711744:Nat):Int):=by
 have e1:IntKind.u64.wrap (-(x:Int))=((18446744073709551616 - x:Nat):Int):=by rw [IntKind.wrap_u64];omega
 rw [e1,bits_and_u64_nat x _ hx (by omega),hlow,IntKind.wrap_u64]
 omega
theorem tab_cell {w:World} {g:G} (h:GlobOk w g) (idx k:Nat) (hi:idx < 64) (hk:Lib.deBruijn64tab.getD idx 0=k):w.cell? ⟨0,idx,none⟩=some (.int .u8 k):=by
 have hl:Lib.deBruijn64tab.length=64:=rfl
 have h2:Lib.deBruijn64tab[idx]?=some k:=by
  rw [List.getD_eq_getElem?_getD,List.getElem?_eq_getElem (by rw [hl];exact hi),Option.getD_some] at hk
  rw [List.getElem?_eq_getElem (by rw [hl];exact hi),hk]
 have h3:=h (0,Lib.deBruijn64tab.map fun (n:Nat)=>.int .u8 n) (List.mem_singleton.2 rfl) idx (.int .u8 k)
 generalize Lib.deBruijn64tab=T at *
 exact (h3 (by show (T.map fun (n:Nat)=>Value.int .u8 n)[idx]?=_;rw [List.getElem?_map,h2];rfl)).1
theorem tz_calls (x:Nat) (hx:x < 18446744073709551616) {w:World} {g:G} (h:GlobOk w g):Calls Tryz.prog 127 #[.int .u64 x] w fun e w'=>e=.returned (.int .i64 (Lib.ctz 64 x))∧w'=w:=by
 by_cases hx0:x=0
 ·subst hx0
  exact tz_zero w
 ·obtain ⟨hlow,hk⟩:=Lib.lowest_bit 64 x hx0 hx
  obtain ⟨hi',htab⟩:=Lib.deBruijn64_at _ hk
  exact tz_core x _ _ w (by simp;omega) (tz_key x _ hx hx0 hlow) hi' hk (tab_cell h _ _ hi' htab)
theorem tz_enters:Enters Tryz.prog 127:=enters_of Tryz.func127 (by kernel_rfl) rfl
theorem Tz (x:Nat) (hx:x < 18446744073709551616) (st:St):ACalls Tryz.prog 127 [.atom (.int .u64 x)] st fun r st'=>r=i (Lib.ctz 64 x)∧st'=st:=by
 refine ⟨tz_enters,fun w g vs hi hr=>?_⟩
 simp only [RepL,Rep] at hr
 obtain ⟨v,vs',rfl,rfl,rfl⟩:=hr
 refine (tz_calls x hx hi.aside.glob).mono ?_
 rintro e w' ⟨rfl,rfl⟩
 exact ⟨_,_,st,g,rfl,⟨rfl,rfl⟩,by simp only [Rep],hi,Ext.refl _ _⟩
end Go.Proofs.YtiiejclelbilkaaGreatDoor.Aw
namespace Go.Proofs.YtiiejclelbilkaaGreatDoor.Aw
open Go Go.RowKit Go.Proofs.YtiiejclelbilkaaGreatDoor.Pl
set_option linter.unusedSimpArgs false
set_option linter.unusedVariables false
def nearL (g:Gr):List LV:=g.vs.map fun v=>wv (mk g.vs (nbr g.es v))
@[simp] theorem nearL_len (g:Gr):(nearL g).length=g.vs.length:=by simp [nearL]
theorem nearL_drop (g:Gr) (k:Nat) (hk:k < g.vs.length):(nearL g).drop k=wv (mk g.vs (nbr g.es (g.vs.getD k 0)))::(nearL g).drop (k+1):=by
 unfold nearL
 rw [List.drop_eq_getElem_cons (by simpa using hk),List.getElem_map,getD_lt _ _ hk]
def arn (g:Gr) (A:List Int):List Int:=A.flatMap (nbr g.es)
theorem arn_congr {g:Gr} {A B:List Int} (h:∀ v,v∈A↔v∈B):mk g.vs (arn g A)=mk g.vs (arn g B):=mk_congr fun v _=>by
 unfold arn
 rw [List.mem_flatMap,List.mem_flatMap]
 exact ⟨fun ⟨x,hx,h2⟩=>⟨x,(h x).1 hx,h2⟩,fun ⟨x,hx,h2⟩=>⟨x,(h x).2 hx,h2⟩⟩
set_option maxHeartbeats 1000000 in
theorem sAround {g:Gr} {S nl:Nat} {st:St} {a b d e f h:LV} (hSb:st.H S=.box 130 7 [a,b,.ms nl 0 g.vs.length,d,e,f,h]) (hN:st.H nl=.box 127 1 (nearL g)) (hn:g.vs.Nodup) (h64:g.vs.length≤64) (A:List Int) (hA:∀ v∈A,v∈g.vs):
 ACalls Tryz.prog 171 [.pt S 0,wv (mk g.vs A)] st fun r st'=>r=wv (mk g.vs (arn g A))∧st'=st:=by
 refine qO tabOk Tryz.func171 rfl rfl Tryz.ntmps171 (rs:=[.tmp 4]) rfl (by simp) ?_
 (repeat' (first | refine qS ?_ | refine qB ?_ | (refine w_e [] ?_;intro J hJ;simp only [];simp [];(refine hJ _ _ ?_;clear hJ J;simp only [ak,reduceIte]))))
 have h0:mk g.vs []=0:=(mk_zero g.vs []).2 fun _ _=>by simp
 refine qL (fun n fr st'=>∃ D R:List Int,n=(g.vs.filter fun v=>decide (v∈R)).length∧(∀ v,v∈A↔v∈D∨v∈R)∧fr 0=.pt S 0∧fr 1=wv (mk g.vs R)∧fr 5=wv (mk g.vs (arn g D))∧st'=st) (g.vs.filter fun v=>decide (v∈A)).length ?_ ?_
 ·exact ⟨[],A,rfl,fun v=>by simp,by simp,by simp,by simp [arn,h0],rfl⟩
 rintro n fr s ⟨D,R,rfl,hDR,f0,f1,f5,rfl⟩ JJ hJJ
 have hRA:∀ v∈R,v∈g.vs:=fun v hv=>hA v ((hDR v).2 (.inr hv))
 by_cases hR:fst' g.vs R < g.vs.length
 ·have hne:=mk_pos hR
  have hb:((mk g.vs R:Int) != 0)=true:=by simpa using hne
  have hct:=mk_ctz h64 hR
  have hlt:=mk_lt g.vs R h64
  have hdr:=nearL_drop g _ hR
  obtain ⟨hv1,hv2⟩:=fst_mem hR
  have hdp:=mk_drop h64 hn hR
  have hi0:(0:Int)≤(fst' g.vs R:Int):=by omega
  have hi1:(fst' g.vs R:Int) < g.vs.length:=by omega
  have hTz:=fun st=>Tz (mk g.vs R) hlt st
  rw [hct] at hTz
  generalize g.vs.getD (fst' g.vs R) 0=v at *
  have hor:=mk_or g.vs (arn g D) (nbr g.es v) h64
  (repeat' (first | refine qS ?_ | refine qB ?_ | (refine qK ?_;simp only [ak,reduceIte]) | (refine qC ?_;simp [f1,hb]) | (refine w_e [] ?_;intro J hJ;simp only [];simp [f1,hb];(refine hJ _ _ ?_;clear hJ J;simp only [ak,reduceIte]))))
  (refine w_s [] [S,nl] [(0,true),(1,true),(2,true),(3,true),(4,true),(5,true),(6,true),(7,true),(8,true),(9,true),(10,true)] ?_;intro J hJ;simp [f0,f1,f5,hSb,hN])
  refine qD (hTz _) (by simp) ?_;rintro r s1 ⟨rfl,h1⟩
  rw [h1];clear h1 s1
  refine ⟨fun h=>by first | (cases h;done) | simp,?_⟩
  (refine d_go ?_;simp [hSb,hN,hdr,hi0,hi1,hR,hor];(refine hJ _ _ ?_;clear hJ J;simp only [ak,reduceIte]))
  (repeat' (refine w_e [] ?_;intro J hJ;simp only [];simp [f1,hdp];(refine hJ _ _ ?_;clear hJ J;simp only [ak,reduceIte])))
  refine hJJ _ _ _ ?_ ⟨D++[v],R.filter fun w=>decide (w≠v),rfl,fun w=>?_,by simp [f0],by simp,by simp [arn],rfl⟩
  ·have hsub:(g.vs.filter fun w=>decide (w∈R.filter fun w=>decide (w≠v)))=(g.vs.filter fun w=>decide (w∈R)).filter fun w=>decide (w≠v):=by
    rw [List.filter_filter]
    refine List.filter_congr fun w _=>?_
    simp only [List.mem_filter,decide_eq_true_iff,Bool.decide_and]
    rw [Bool.and_comm]
   rw [hsub]
   refine List.length_filter_lt_length_iff_exists.2 ⟨v,?_,by simp⟩
   rw [List.mem_filter];exact ⟨hv2,by simpa using hv1⟩
  ·rw [hDR,List.mem_append,List.mem_singleton,List.mem_filter,decide_eq_true_iff]
   constructor
   ·rintro (h | h)
    ·exact .inl (.inl h)
    ·by_cases e:w=v
     ·exact .inl (.inr e)
     ·exact .inr ⟨h,e⟩
   ·rintro ((h | h) | h)
    ·exact .inl h
    ·rw [h];exact .inr hv1
    ·exact .inr h.1
 ·have hno:∀ v∈g.vs,v∉R:=fun v hv hvR=>hR (fst_lt.2 ⟨v,hv,hvR⟩)
  have hz:mk g.vs R=0:=(mk_zero g.vs R).2 hno
  have hb:((mk g.vs R:Int) != 0)=false:=by rw [hz];rfl
  have hfin:mk g.vs (arn g D)=mk g.vs (arn g A):=arn_congr fun v=>by
   rw [hDR]
   exact ⟨.inl,fun h=>h.elim id fun h=>absurd h (hno v (hRA v h))⟩
  rw [hz] at f1
  (repeat' (first | refine qS ?_ | (refine qX ?_;simp only [ak,reduceIte]) | (refine qR ?_;simp only [ak,reduceIte];simp [f1,f5,hfin]) | (refine qC ?_;simp [f1,f5,hfin]) | (refine w_e [] ?_;intro J hJ;simp only [];simp [f1,f5,hfin];(refine hJ _ _ ?_;clear hJ J;simp only [ak,reduceIte]))))
structure Brg where
 inner:List Int
 ends:List Int
def nrS (vs A:List Int):List Int:=vs.filter fun v=>decide (v∈A)
def off (A B:List Int):List Int:=A.filter fun v=>!decide (v∈B)
def on' (A B:List Int):List Int:=A.filter fun v=>decide (v∈B)
theorem mk_nrS (vs A:List Int):mk vs (nrS vs A)=mk vs A:=mk_congr fun v hv=>by simp [nrS,hv]
def growB (g:Gr) (on:List Int):Nat→List Int→Option Brg
 | 0,_=>none
 | n+1,inner=>
   if off (off (nrS g.vs (arn g inner)) on) inner=[] then some ⟨inner,on' (nrS g.vs (arn g inner)) on⟩
   else growB g on n (nrS g.vs (inner++off (nrS g.vs (arn g inner)) on))
def restB (g:Gr) (on:List Int):Nat→List Int→Option (List Brg)
 | _,[]=>some []
 | 0,_::_=>none
 | n+1,v::R=>(growB g on (g.vs.length+1) [v]).bind fun b=>(restB g on n (off (v::R) b.inner)).map (b::·)
def edgB (g:Gr) (L:List (Int×Int)) (on:List Int) (es:List Ed):List Brg:=
 (es.filter fun x=>decide (prP x.a x.b∉L)&&decide (x.a∈on)&&decide (x.b∈on)).map fun x=>⟨[],[x.a,x.b]⟩
def brgs (g:Gr) (L:List (Int×Int)) (on:List Int):Option (List Brg):=(restB g on (g.vs.length+1) (off g.vs on)).map fun l=>edgB g L on g.es++l
def brgL (vs:List Int) (l:List Brg):List LV:=l.flatMap fun b=>[wv (mk vs b.inner),wv (mk vs b.ends)]
@[simp] theorem brgL_len (vs:List Int):∀ l:List Brg,(brgL vs l).length=l.length * 2
  | []=>rfl
  | b::l=>by have:=brgL_len vs l;simp only [brgL,List.flatMap_cons,List.length_append,List.length_cons,List.length_nil] at this ⊢;omega
theorem brgL_snoc (vs:List Int) (l:List Brg) (b:Brg):brgL vs l++[wv (mk vs b.inner),wv (mk vs b.ends)]=brgL vs (l++[b]):=by simp [brgL]
theorem mget_key {es:List (List Int×LV)} {L:List (Int×Int)} (h:es.map (·.1)=L.map pk) (p:Int×Int):(p∈L→∃ v,mget es (pk p)=some v)∧(p∉L→mget es (pk p)=none):=by
 have hin:pk p∈es.map (·.1)↔p∈L:=by
  rw [h,List.mem_map]
  constructor
  ·rintro ⟨q,hq,e⟩
   simp only [pk,List.cons.injEq,and_true] at e
   have:q=p:=Prod.ext e.1 e.2
   rw [← this];exact hq
  ·intro hp;exact ⟨p,hp,rfl⟩
 have key:∀ es:List (List Int×LV),(pk p∈es.map (·.1)→∃ v,mget es (pk p)=some v)∧(pk p∉es.map (·.1)→mget es (pk p)=none):=by
  intro es
  induction es with
  | nil=>simp [mget]
  | cons q es ih=>
    simp only [mget,List.map_cons,List.mem_cons]
    by_cases e:pk p=q.1
    ·rw [if_pos (by simpa using e)]
     exact ⟨fun _=>⟨_,rfl⟩,fun h=>absurd (.inl e) h⟩
    ·rw [if_neg (by simpa using e)]
     exact ⟨fun h=>ih.1 (h.resolve_left e),fun h=>ih.2 fun k=>h (.inr k)⟩
 rw [← hin]
 exact key es
theorem edgB_snoc (g:Gr) (L:List (Int×Int)) (on:List Int) (es:List Ed) (j:Nat) (hj:j < es.length):
 edgB g L on (es.take (j+1))=edgB g L on (es.take j)++if (prP (es.getD j ed0).a (es.getD j ed0).b∉L∧(es.getD j ed0).a∈on)∧(es.getD j ed0).b∈on then [⟨[],[(es.getD j ed0).a,(es.getD j ed0).b]⟩] else []:=by
 unfold edgB
 rw [List.take_succ_eq_append_getElem hj,List.filter_append,List.map_append,List.getD_eq_getElem?_getD,List.getElem?_eq_getElem hj,Option.getD_some]
 generalize es[j]=x
 congr 1
 by_cases h:(prP x.a x.b∉L∧x.a∈on)∧x.b∈on
 ·rw [if_pos h];simp [h.1.1,h.1.2,h.2]
 ·rw [if_neg h]
  rw [List.filter_eq_nil_iff.2];rfl
  intro y hy
  rw [List.mem_singleton] at hy
  subst hy
  simpa [and_assoc] using h
theorem off_nil {vs A B:List Int} (hA:∀ v∈A,v∈vs):mk vs (off A B)=0↔off A B=[]:=by
 rw [mk_zero]
 constructor
 ·intro h
  exact List.eq_nil_iff_forall_not_mem.2 fun v hv=>h v (hA v (List.mem_filter.1 hv).1) hv
 ·intro h v _;rw [h];simp
theorem sub_first:∀ {vs R:List Int} {v:Int},vs.Nodup→(v::R).Sublist vs→vs.getD (fst' vs (v::R)) 0=v∧fst' vs (v::R) < vs.length
 | [],R,v,_,h=>by cases h
 | w::vs,R,v,hn,h=>by
   have hn2:=(List.nodup_cons.1 hn)
   cases h with
   | cons _ h=>
     have hw:w∉v::R:=fun hw=>hn2.1 (h.subset hw)
     obtain ⟨h1,h2⟩:=sub_first hn2.2 h
     have e:fst' (w::vs) (v::R)=fst' vs (v::R)+1:=by
      unfold fst';rw [List.findIdx_cons];simp only [decide_eq_true_eq,cond_eq_ite];rw [if_neg hw]
     rw [e]
     exact ⟨by simpa using h1,by simpa using h2⟩
   | cons_cons _ h=>
     have e:fst' (w::vs) (w::R)=0:=by
      unfold fst';rw [List.findIdx_cons];simp
     rw [e]
     exact ⟨by simp,by simp⟩
theorem z0_brg (vs:List Int) (l:List Brg):(brgL vs l).map z0=brgL vs l:=by
 induction l with
 | nil=>rfl
 | cons b l ih=>simp only [brgL,List.flatMap_cons,List.map_append] at ih ⊢;rw [ih];rfl
def OwnP (t e s n:Nat) (lo:St) (st:St):Prop:=t≠0∧lo.next≤t∧t < st.next∧st.H t=.own e s n
structure ShR (g:Gr) (L:List (Int×Int)) (on:List Int) (S nl pl ll:Nat) (f:LV) (le:List (List Int×LV)) (st:St):Prop where
 box:st.H S=.box 130 7 [.sl 0 g.vs.length (us g.vs),.sl 0 g.es.length (eds g.es),.ms nl 0 g.vs.length,.mp pl,.mp ll,wv (mk g.vs on),f]
 near:st.H nl=.box 127 1 (nearL g)
 plc:st.H pl=.map false [.u32] (plcM g.vs)
 lin:st.H ll=.map true [.u32,.u32] le
 key:le.map (·.1)=L.map pk
 lt:S < st.next∧nl < st.next∧pl < st.next∧ll < st.next
theorem ShR.keep {g:Gr} {L:List (Int×Int)} {on:List Int} {S nl pl ll:Nat} {f:LV} {le:List (List Int×LV)} {st st':St} (h:ShR g L on S nl pl ll f le st) (k:Keeps st st'):ShR g L on S nl pl ll f le st':=by
 obtain ⟨a,b,c,d,e,f1,f2,f3,f4⟩:=h
 have hx:=k.next
 exact ⟨(k.H _ f1).trans a,(k.H _ f2).trans b,(k.H _ f3).trans c,(k.H _ f4).trans d,e,by omega,by omega,by omega,by omega⟩
theorem ShR.b {g:Gr} {L:List (Int×Int)} {on:List Int} {S nl pl ll:Nat} {f:LV} {le:List (List Int×LV)} {st:St} (h:ShR g L on S nl pl ll f le st):ShB g.vs S pl st:=⟨⟨_,_,_,_,_,_,h.box⟩,h.plc⟩
theorem sAroundR {g:Gr} {L:List (Int×Int)} {on:List Int} {S nl pl ll:Nat} {f:LV} {le:List (List Int×LV)} {st:St} (h:ShR g L on S nl pl ll f le st) (hn:g.vs.Nodup) (h64:g.vs.length≤64) (A:List Int) (hA:∀ v∈A,v∈g.vs):
 ACalls Tryz.prog 171 [.pt S 0,wv (mk g.vs A)] st fun r st'=>r=wv (mk g.vs (arn g A))∧st'=st:=sAround h.box h.near hn h64 A hA
structure GP (g:Gr):Prop extends GoodE g where
 h64:g.vs.length≤64
 he:g.es.length≤200
set_option maxHeartbeats 2000000 in
theorem sBridges {g:Gr} (hg:GP g) {L:List (Int×Int)} {on:List Int} (hon:∀ v∈on,v∈g.vs) {S nl pl ll:Nat} {f:LV} {le:List (List Int×LV)} {st:St} (hS:ShR g L on S nl pl ll f le st) {B:List Brg} (hB:brgs g L on=some B):
 ACalls Tryz.prog 125 [.pt S 0] st fun r st'=>r=.sl 0 B.length (brgL g.vs B)∧st'=st:=by
 refine qT (Q:=fun r=>r=.sl 0 B.length (brgL g.vs B)) (acalls_z0 ?_) fun r h=>by
  subst h
  refine ⟨.inl rfl,?_⟩
  clear hB
  induction B with
  | nil=>trivial
  | cons b B ih=>exact ⟨trivial,trivial,ih⟩
 have hn:g.vs.Nodup:=hg.toGoodE.toGood.nodup
 have h64:=hg.h64
 have hel:=eds_length g.es
 unfold brgs at hB
 obtain ⟨l2,hl2,rfl⟩:=Option.map_eq_some_iff.1 hB
 obtain ⟨hSb,hN,hP,hL,hkey,q1,q2,q3,q4⟩:=id hS
 refine qO tabOk Tryz.func125 rfl rfl Tryz.ntmps125 (rs:=[.tmp 2]) rfl (by simp) ?_
 refine awp_posG fun hpos=>?_
 (repeat' (first | refine qS ?_ | refine qB ?_ | (refine w_e [] ?_;intro J hJ;simp only [];simp [hSb];(refine hJ _ _ ?_;clear hJ J;simp only [ak,reduceIte]))))
 refine awp_own 3 132 2 (by simp) ?_
 have e0:¬ st.next=0:=by omega
 have he200:=hg.he
 refine awp_range 18 17 19 60 (g.es.length) (fun j fr st2=>fr 0=.pt S 0∧fr 16=.sl 0 g.es.length (eds g.es)∧Keeps st st2∧∃ t,fr 3=.sl t (edgB g L on (g.es.take j)).length (brgL g.vs (edgB g L on (g.es.take j)))∧OwnP t 132 2 (edgB g L on (g.es.take j)).length st st2) ?_ ?_ ?_
 ·exact ⟨by simp,by simp,Keeps.new _ _,st.next,by simp [edgB,brgL],e0,Nat.le_refl _,by simp,by simp [edgB]⟩
 ·rintro j fr s hlt ⟨f0,f16,hk,t,f3,t0,t1,t2,tH⟩ fi fn JO hJO
  have hd:=eds_drop g.es j hlt
  have hk3:j * 3 < g.es.length * 3:=by omega
  have hsn:=edgB_snoc g L on g.es j hlt
  have hends:=hg.ends _ (show g.es.getD j ed0∈g.es by rw [getE_lt _ _ hlt];exact List.getElem_mem _)
  generalize g.es.getD j ed0=ee at *
  generalize hF:edgB g L on (g.es.take j)=F at *
  obtain ⟨d,a,b⟩:=ee
  simp only at hsn hends
  have hS1:=(hS.keep hk).keep (Keeps.new s (.box 38 3 [u d,u a,u b]))
  obtain ⟨hSb1,hN1,hP1,hL1,-,p1,p2,p3,p4⟩:=id hS1
  have hB1:=fun v hv=>sBit (v:=v) hS1.b hn h64 hv
  have hor:=mk_or g.vs [a] [b] h64
  simp only [List.cons_append,List.nil_append] at hor
  obtain ⟨hgs,hgn⟩:=mget_key hkey (prP a b)
  have hnS:¬ S=s.next:=by have:=hk.next;omega
  have hnl:¬ ll=s.next:=by have:=hk.next;omega
  have hSb0:=(hS.keep hk).box
  have hL0:=(hS.keep hk).lin
  have hdf:=mk_diff g.vs [a,b] on h64
  have hwl:(F:List Brg).length≤g.es.length:=by
   have h1:=List.length_filter_le (fun x=>decide (prP x.a x.b∉L)&&decide (x.a∈on)&&decide (x.b∈on)) (g.es.take j)
   have h2:F.length=((g.es.take j).filter (fun x=>decide (prP x.a x.b∉L)&&decide (x.a∈on)&&decide (x.b∈on))).length:=by rw [← hF];unfold edgB;rw [List.length_map]
   rw [List.length_take] at h1
   omega
  (repeat' (first | refine qS ?_ | (refine w_e [] ?_;intro J hJ;simp only [];simp [f0,f16,fi,fn,hd,hel,hk3,hlt];(refine hJ _ _ ?_;clear hJ J;simp only [ak,reduceIte]))))
  (refine w_s [] [s.next] [(0,true),(1,true),(2,true),(4,true),(5,true),(6,true),(3,true),(7,true),(8,true),(9,true)] ?_;intro J hJ;simp [f0])
  refine qD (hB1 a hends.1) (by simp) ?_;rintro r s1 ⟨rfl,h1⟩
  rw [h1];clear h1 s1
  refine ⟨fun h=>by first | (cases h;done) | exact fun _ _=>rfl | simp,?_⟩
  (refine d_go ?_;simp [])
  refine qD (hB1 b hends.2) (by simp) ?_;rintro r s1 ⟨rfl,h1⟩
  rw [h1];clear h1 s1
  refine ⟨fun h=>by first | (cases h;done) | exact fun _ _=>rfl | simp,?_⟩
  (refine d_go ?_;simp [hor];(refine hJ _ _ ?_;clear hJ J;simp only [ak,reduceIte]))
  (repeat (refine qS ?_))
  (refine w_s [] [S,s.next,ll] [(0,true),(1,true),(2,true),(3,true),(4,true),(5,true),(6,true),(7,true),(8,true),(9,true),(10,true),(11,true),(12,true),(13,true),(14,true)] ?_;intro J hJ;simp [f0,hSb0,hnS])
  refine qD (pair a b _) (by simp) ?_;rintro r s1 ⟨rfl,h1⟩
  rw [h1];clear h1 s1
  refine ⟨fun h=>by first | (cases h;done) | exact fun _ _=>rfl | simp,?_⟩
  have c1:¬ t=s.next:=by omega
  have c2:¬ t=s.next+1:=by omega
  have c3:¬ s.next=t:=by omega
  have hFs:=brgL_snoc g.vs F ⟨[],[a,b]⟩
  have hz0:mk g.vs []=0:=(mk_zero g.vs []).2 fun _ _=>by simp
  simp only [hz0] at hFs
  by_cases hp:prP a b∈L
  ·obtain ⟨v,hv⟩:=hgs hp
   have hv:mget le [min a b,max a b]=some v:=hv
   rw [if_neg (by simp [hp]),List.append_nil] at hsn
   (refine d_go ?_;simp [hL0,hnl,hv];(refine hJ _ _ ?_;clear hJ J;simp only [ak,reduceIte]))
   (repeat' (first | refine qS ?_ | (refine qK ?_;simp only [ak,reduceIte]) | (refine qC ?_;simp []) | (refine w_e [] ?_;intro J hJ;simp only [];simp [];(refine hJ _ _ ?_;clear hJ J;simp only [ak,reduceIte]))))
   exact hJO _ _ (by simp [fi]) (by simp [fn]) ⟨by simp [f0],by simp [f16],hk.trans (Keeps.new _ _),t,by rw [hsn];simp [f3],t0,t1,by simp;omega,by rw [hsn];(repeat (first | rw [new_H,if_neg (α:=LObj) (by (try simp only [set_next,new_next]);omega)] | rw [set_H,if_neg (α:=LObj) (by omega)] | rw [new_H,if_pos (α:=LObj) (by (try simp only [set_next,new_next]))] | rw [set_H,if_pos (α:=LObj) (by omega)]));exact tH⟩
  ·have hv:mget le [min a b,max a b]=none:=hgn hp
   by_cases hc:a∈on∧b∈on
   ·rw [if_pos ⟨⟨hp,hc.1⟩,hc.2⟩] at hsn
    have hz:mk g.vs (off [a,b] on)=0:=(mk_zero _ _).2 fun v _ h=>by
     simp only [off,List.mem_filter,List.mem_cons,List.not_mem_nil,or_false,Bool.not_eq_true',decide_eq_false_iff_not] at h
     rcases h.1 with e | e
     ·exact h.2 (by rw [e];exact hc.1)
     ·exact h.2 (by rw [e];exact hc.2)
    have hdz:gandNot .u64 (mk g.vs [a,b]) (mk g.vs on)=0:=by rw [hdf];exact congrArg Int.ofNat hz
    (refine d_go ?_;simp [hL0,hnl,hv];(refine hJ _ _ ?_;clear hJ J;simp only [ak,reduceIte]))
    (repeat' (first | refine qS ?_ | (refine qC ?_;simp [hSb0,f0,hnS,hdz,f3,tH,t0,c1,c2,c3]) | (refine w_e [] ?_;intro J hJ;simp only [];simp [hSb0,f0,hnS,hdz,f3,tH,t0,c1,c2,c3];(repeat refine ca ?_);(refine hJ _ _ ?_;clear hJ J;simp only [ak,reduceIte]))))
    exact hJO _ _ (by simp [fi]) (by simp [fn]) ⟨by simp [f0],by simp [f16],((hk.trans (Keeps.new _ _)).trans (Keeps.new _ _)).set t1 _ |>.trans (Keeps.new _ _),s.next+2,by rw [hsn,← hFs];simp,by omega,by omega,by simp,by rw [hsn];simp⟩
   ·rw [if_neg (by intro h;exact hc ⟨h.1.2,h.2⟩),List.append_nil] at hsn
    have hz:mk g.vs (off [a,b] on)≠0:=fun h=>by
     rw [mk_zero] at h
     have ha:=h a hends.1
     have hb:=h b hends.2
     simp [off] at ha hb
     exact hc ⟨ha,hb⟩
    have hdz:(gandNot .u64 (mk g.vs [a,b]) (mk g.vs on)==0)=false:=by rw [hdf];simpa [off] using hz
    (refine d_go ?_;simp [hL0,hnl,hv];(refine hJ _ _ ?_;clear hJ J;simp only [ak,reduceIte]))
    (repeat' (first | refine qS ?_ | (refine qK ?_;simp only [ak,reduceIte]) | (refine qC ?_;simp [hSb0,f0,hnS,hdz]) | (refine w_e [] ?_;intro J hJ;simp only [];simp [hSb0,f0,hnS,hdz];(refine hJ _ _ ?_;clear hJ J;simp only [ak,reduceIte]))))
    exact hJO _ _ (by simp [fi]) (by simp [fn]) ⟨by simp [f0],by simp [f16],hk.trans (Keeps.new _ _),t,by rw [hsn];simp [f3],t0,t1,by simp;omega,by rw [hsn];(repeat (first | rw [new_H,if_neg (α:=LObj) (by (try simp only [set_next,new_next]);omega)] | rw [set_H,if_neg (α:=LObj) (by omega)] | rw [new_H,if_pos (α:=LObj) (by (try simp only [set_next,new_next]))] | rw [set_H,if_pos (α:=LObj) (by omega)]));exact tH⟩
 ·rintro fr s ⟨f0,f16,hk,t,f3,t0,t1,t2,tH⟩
  rw [List.take_length] at f3 tH
  have hE1:(edgB g L on g.es).length≤200:=by
   have h1:=List.length_filter_le (fun x=>decide (prP x.a x.b∉L)&&decide (x.a∈on)&&decide (x.b∈on)) g.es
   unfold edgB;rw [List.length_map];omega
  generalize edgB g L on g.es=E1 at *
  have hSk:=hS.keep hk
  have hSb0:=hSk.box
  have hdf:=mk_diff g.vs g.vs on h64
  have hsv:=fun st' (h:ShB g.vs S pl st')=>sSet h hn h64 g.vs 0 (fun v h=>h) (by omega)
  (repeat' refine qS ?_)
  (refine w_s [] [S] [(0,true),(1,true),(2,true),(3,true),(4,true),(5,true),(7,true),(8,true),(9,true),(10,true),(6,true),(11,true),(12,true)] ?_;intro J hJ;simp [f0,hSb0])
  refine qD (hsv _ hSk.b) (by simp) ?_;rintro r s1 ⟨rfl,h1⟩
  rw [h1];clear h1 s1
  refine ⟨fun h=>by first | (cases h;done) | exact fun _ _=>rfl | simp,?_⟩
  (refine d_go ?_;simp [hSb0,hdf];(refine hJ _ _ ?_;clear hJ J;simp only [ak,reduceIte]))
  (repeat (first | refine qS ?_ | refine qB ?_))
  refine qL (fun n fr st'=>∃ R l l2',restB g on n R=some l2'∧l2=l++l2'∧l.length+n≤g.vs.length+1∧R.Sublist g.vs∧fr 0=.pt S 0∧fr 9=wv (mk g.vs R)∧Keeps st st'∧∃ t,fr 3=.sl t (E1++l).length (brgL g.vs (E1++l))∧OwnP t 132 2 (E1++l).length st st') (g.vs.length+1) ?_ ?_
  ·exact ⟨off g.vs on,[],l2,hl2,rfl,by simp,List.filter_sublist,by simp [f0],by simp [off],hk,t,by simp [f3],t0,t1,t2,by simpa using tH⟩
  ·clear f0 f16 hk f3 t0 t1 t2 tH hSk hSb0 fr s
   rintro n fr s ⟨R,l,l2',hr,rfl,hln,hsub,f0,f9,hk,t,f3,t0,t1,t2,tH⟩ JJ hJJ
   have hSk:=hS.keep hk
   obtain ⟨hSb0,hN0,-,-,-,p1,p2,p3,p4⟩:=id hSk
   have hRv:∀ v∈R,v∈g.vs:=fun v hv=>hsub.subset hv
   cases R with
   | nil=>
     have hz:mk g.vs []=0:=(mk_zero g.vs []).2 fun _ _=>by simp
     rw [hz] at f9
     have hl2':l2'=[]:=by cases n<;>simpa [restB] using hr.symm
     subst hl2'
     rw [List.append_nil]
     (repeat' (first | refine qS ?_ | (refine qX ?_;simp only [ak,reduceIte]) | (refine qR ?_;simp only [ak,reduceIte];simp [f9,f3]) | (refine qC ?_;simp [f9,f3]) | (refine w_e [] ?_;intro J hJ;simp only [];simp [f9,f3];(refine hJ _ _ ?_;clear hJ J;simp only [ak,reduceIte]))))
     exact ⟨by simp [z0,z0L_map,z0_brg],hk⟩
   | cons v R=>
     obtain ⟨hfv,hflt⟩:=sub_first hn hsub
     have hne:=mk_pos hflt
     have hb:((mk g.vs (v::R):Int) != 0)=true:=by simpa using hne
     have hlow:=mk_low h64 hn hflt
     rw [hfv,Int.zero_sub] at hlow
     cases n with
     | zero=>simp [restB] at hr
     | succ n=>
       rw [restB] at hr
       obtain ⟨b,hgb,hr⟩:=Option.bind_eq_some_iff.1 hr
       obtain ⟨l3,hr3,rfl⟩:=Option.map_eq_some_iff.1 hr
       have hvv:∀ w∈[v],w∈g.vs:=fun w hw=>by rw [List.mem_singleton] at hw;rw [hw];exact hRv v (by simp)
       (repeat' (first | refine qS ?_ | refine qB ?_ | (refine qK ?_;simp only [ak,reduceIte]) | (refine qC ?_;simp [f0,f9,hb,hlow]) | (refine w_e [] ?_;intro J hJ;simp only [];simp [f0,f9,hb,hlow];(try (refine hJ _ _ ?_;clear hJ J;simp only [ak,reduceIte])))))
       refine qE (sAroundR hSk hn h64 [v] hvv) (by simp) ?_;rintro r s1 ⟨rfl,h1⟩
       rw [h1];clear h1 s1
       (refine e_go ?_;simp [];(refine hJ _ _ ?_;clear hJ J;simp only [ak,reduceIte]))
       (repeat (first | refine qS ?_ | refine qB ?_))
       refine qL (fun m fr st'=>∃ inner,growB g on m inner=some b∧(∀ w∈inner,w∈g.vs)∧fr 0=.pt S 0∧fr 9=wv (mk g.vs (v::R))∧fr 3=.sl t (E1++l).length (brgL g.vs (E1++l))∧fr 10=wv (mk g.vs inner)∧fr 11=wv (mk g.vs (arn g inner))∧st'=s) (g.vs.length+1) ?_ ?_
       ·exact ⟨[v],hgb,hvv,by simp [f0],by simp [f9],by simp [f3],by simp,by simp,rfl⟩
       ·clear f0 f9 f3 fr
        rintro m fr s3 ⟨inner,hgi,hiv,f0,f9,f3,f10,f11,hs3⟩ JI hJI
        subst hs3
        cases m with
        | zero=>simp [growB] at hgi
        | succ m=>
          have hRR:∀ w∈nrS g.vs (arn g inner),w∈g.vs:=fun w hw=>(List.mem_filter.1 hw).1
          rw [← mk_nrS] at f11
          rw [growB] at hgi
          generalize nrS g.vs (arn g inner)=RR at *
          have hd1:gandNot .u64 (mk g.vs RR) (mk g.vs on)=mk g.vs (off RR on):=mk_diff g.vs RR on h64
          have hd2:gandNot .u64 (mk g.vs (off RR on)) (mk g.vs inner)=mk g.vs (off (off RR on) inner):=mk_diff g.vs _ inner h64
          by_cases hc:off (off RR on) inner=[]
          ·rw [if_pos hc] at hgi
           have hbe:b=⟨inner,on' RR on⟩:=by simpa using hgi.symm
           subst hbe
           have hz:mk g.vs (off (off RR on) inner)=0:=by rw [hc];exact (mk_zero g.vs []).2 fun _ _=>by simp
           have hb2:((mk g.vs (off (off RR on) inner):Int) != 0)=false:=by rw [hz];rfl
           have hd3:gand .u64 (mk g.vs RR) (mk g.vs on)=mk g.vs (on' RR on):=mk_and g.vs RR on h64
           have hd4:gandNot .u64 (mk g.vs (v::R)) (mk g.vs inner)=mk g.vs (off (v::R) inner):=mk_diff g.vs _ inner h64
           have c1:¬ t=s3.next:=by omega
           have c2:¬ s3.next=t:=by omega
           have hFs:=brgL_snoc g.vs (E1++l) ⟨inner,on' RR on⟩
           have hle:(E1++l).length≤300:=by rw [List.length_append];have:=hg.h64;omega
           rw [List.append_assoc] at hFs
           have hlen:(E1++l).length+1=(E1++(l++[(⟨inner,on' RR on⟩:Brg)])).length:=by simp;omega
           generalize hEl:E1++l=El at *
           (repeat' (first | refine qS ?_ | (refine qX ?_;simp only [ak,reduceIte]) | (refine qC ?_;simp [f0,f9,f10,f11,f3,hSb0,hd1,hd2,hb2,hd3,hd4,tH,t0,c1,c2]) | (refine w_e [] ?_;intro J hJ;simp only [];simp [f0,f9,f10,f11,f3,hSb0,hd1,hd2,hb2,hd3,hd4,tH,t0,c1,c2];(repeat refine ca ?_);(refine hJ _ _ ?_;clear hJ J;simp only [ak,reduceIte]))))
           exact hJJ _ _ _ (Nat.lt_succ_self n) ⟨off (v::R) inner,l++[⟨inner,on' RR on⟩],l3,hr3,by simp,by simp;omega,List.filter_sublist.trans hsub,by simp [f0],by simp,((hk.trans (Keeps.new _ _)).set t1 _).trans (Keeps.new _ _),s3.next+1,by rw [← hFs,← hlen];simp,by omega,by omega,by simp,by rw [← hlen];simp⟩
          ·rw [if_neg hc] at hgi
           have hz:mk g.vs (off (off RR on) inner)≠0:=fun h=>hc ((off_nil fun w hw=>hRR w (List.mem_filter.1 hw).1).1 h)
           have hb2:((mk g.vs (off (off RR on) inner):Int) != 0)=true:=by simpa using hz
           have hor:gor .u64 (mk g.vs inner) (mk g.vs (off RR on))=mk g.vs (nrS g.vs (inner++off RR on)):=by rw [mk_or _ _ _ h64,mk_nrS]
           have hnv:∀ w∈nrS g.vs (inner++off RR on),w∈g.vs:=fun w hw=>(List.mem_filter.1 hw).1
           generalize nrS g.vs (inner++off RR on)=IN at *
           (repeat' (first | refine qS ?_ | refine qB ?_ | (refine qK ?_;simp only [ak,reduceIte]) | (refine qC ?_;simp [f0,f10,f11,hSb0,hd1,hd2,hb2,hor]) | (refine w_e [] ?_;intro J hJ;simp only [];simp [f0,f10,f11,hSb0,hd1,hd2,hb2,hor];(try (refine hJ _ _ ?_;clear hJ J;simp only [ak,reduceIte])))))
           refine qE (sAroundR hSk hn h64 IN hnv) (by simp) ?_;rintro r s1 ⟨rfl,h1⟩
           rw [h1];clear h1 s1
           (refine e_go ?_;simp [];(refine hJ _ _ ?_;clear hJ J;simp only [ak,reduceIte]))
           exact hJI _ _ _ (Nat.lt_succ_self m) ⟨IN,hgi,hnv,by simp [f0],by simp [f9],by simp [f3],by simp,by simp,rfl⟩
end Go.Proofs.YtiiejclelbilkaaGreatDoor.Aw
