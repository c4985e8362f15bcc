/- Graphs: Ends. -/
import Derived.Test.YtglkgindpjdoiaaGreatJc
namespace Go.Proofs.YtglkgindpjdoiaaGreat.Aw
open Go Go.RowKit Go.Proofs.YtglkgindpjdoiaaGreat.Pl
set_option linter.unusedSimpArgs false
set_option linter.unusedVariables false
theorem awp_posG {P:Program} {N:Nat} {Q:AQ} {c:Code} {fr:Frm} {st:St} (h:0 < st.next→AWp P N c Q fr st):AWp P N c Q fr st:=
 fun a w g hi hr hs hd=>h hi.pos a w g hi hr hs hd
def end1 (v:Int) (x:Ed):List Int:=(if x.a=v then [2 * x.id] else [])++(if x.b=v then [2 * x.id+1] else [])
def ends (es:List Ed) (v:Int):List Int:=es.flatMap (end1 v)
theorem flat_takeE (f:Ed→List Int) (l:List Ed) (k:Nat) (hk:k < l.length):(l.take (k+1)).flatMap f=(l.take k).flatMap f++f (l.getD k ed0):=by
 rw [List.take_succ_eq_append_getElem hk,List.flatMap_append,List.getD_eq_getElem?_getD,List.getElem?_eq_getElem hk];simp
theorem end1_len (v:Int) (x:Ed):(end1 v x).length≤2:=by
 unfold end1;split<;>split<;>simp
theorem flat_len (f:Ed→List Int) (hf:∀ x,(f x).length≤2) (l:List Ed):(l.flatMap f).length≤2 * l.length:=by
 induction l with
 | nil=>simp
 | cons x l ih=>have:=hf x;simp only [List.flatMap_cons,List.length_append,List.length_cons];omega
def idOk (es:List Ed):Prop:=∀ x∈es,0≤x.id∧x.id≤1048576
theorem idOk.at {es:List Ed} (h:idOk es) (k:Nat) (hk:k < es.length):0≤(es.getD k ed0).id∧(es.getD k ed0).id≤1048576:=by
 rw [List.getD_eq_getElem?_getD,List.getElem?_eq_getElem hk];exact h _ (List.getElem_mem hk)
theorem wrap_u32' (n:Int) (h0:0≤n) (h1:n < 4294967296):IntKind.u32.wrap n=n:=by
 rw [wrap_u32];omega
def OwnAt (t:Nat) (lo:St) (l:List Int) (st:St):Prop:=t≠0∧lo.next≤t∧t < st.next∧st.H t=.own 29 1 l.length∧Keeps lo st
theorem dOf (id e:Int) (st:St) (h0:0≤id) (h1:id≤1048576) (he:e=0∨e=1):ACalls Tryz.prog 34 [u id,i e] st fun r st'=>r=u (2 * id+e)∧st'=st:=by
 refine (Of id e st).mono ?_
 rintro r st' ⟨rfl,rfl⟩
 refine ⟨?_,rfl⟩
 have h2:id * 2 % 4294967296+e % 2=2 * id+e:=by omega
 rw [h2]
theorem ref_Ends (g:Gr) (v:Int) (st:St) (he:g.es.length≤1000) (hid:idOk g.es):
 ACalls Tryz.prog 55 [.ag (grL g),u v] st fun r st'=>(∃ t,r=.sl t (ends g.es v).length (us (ends g.es v)))∧Keeps st st':=by
 obtain ⟨vs,l⟩:=g
 simp only at he hid ⊢
 have hel:=eds_length l
 have hfl:=fun k=>flat_len (end1 v) (end1_len v) (l.take k)
 refine qO tabOk Tryz.func55 rfl rfl Tryz.ntmps55 (rs:=[.tmp 4]) rfl (by simp) ?_
 (repeat' (first | refine qS ?_ | refine qB ?_ | (refine w_e [] ?_;intro J hJ;simp only [];simp [];(refine hJ _ _ ?_;clear hJ J;simp only [ak,reduceIte]))))
 refine awp_posG fun hpos=>?_
 refine awp_own 5 29 1 (by simp) ?_
 refine qL (fun n fr st2=>∃ k:Nat,k≤l.length∧n=l.length - k∧fr 1=u v∧fr 9=.sl 0 l.length (eds l)∧fr 10=i l.length∧fr 11=i k∧∃ t,fr 5=.sl t (ends (l.take k) v).length (us (ends (l.take k) v))∧OwnAt t st (ends (l.take k) v) st2) l.length ?_ ?_
 ·exact ⟨0,by omega,by omega,by simp,by simp,by simp,by simp,st.next+1,by simp [ends],by omega,by omega,by simp,by simp [ends],(Keeps.new _ _).trans (Keeps.new _ _)⟩
 rintro n fr st2 ⟨k,hk,rfl,f1,f9,f10,f11,t,f5,ht0,htl,htn,htH,hkp⟩ JJ hJJ
 by_cases hlt:k < l.length
 rotate_left
 ·clear hJJ
  have hk':k=l.length:=by omega
  rw [hk',List.take_length] at f5
  (repeat' (first | refine qS ?_ | (refine qX ?_;simp only [ak,reduceIte]) | (refine qR ?_;simp only [ak,reduceIte];simp [f10,f11,hlt,f5]) | (refine qC ?_;simp [f10,f11,hlt,f5]) | (refine w_e [] ?_;intro J hJ;simp only [];simp [f10,f11,hlt,f5];(refine hJ _ _ ?_;clear hJ J;simp only [ak,reduceIte]))))
  exact hkp
 have hd:=eds_drop l k hlt
 have hw:=qN k (by omega)
 have hk3:k * 3 < l.length * 3:=by omega
 obtain ⟨hi0,hi1⟩:=hid.at k hlt
 have hst:ends (l.take (k+1)) v=ends (l.take k) v++end1 v (l.getD k ed0):=flat_takeE _ _ _ hlt
 have hle:=hfl k
 rw [List.length_take] at hle
 have hle2:(ends (l.take k) v).length≤2 * min k l.length:=hle
 generalize hx:l.getD k ed0=x at *
 obtain ⟨id,a,b⟩:=x
 simp only at hi0 hi1 hd
 generalize hF:ends (l.take k) v=F at *
 have w1:IntKind.u32.wrap (2 * id)=2 * id:=wrap_u32' _ (by omega) (by omega)
 have w2:IntKind.u32.wrap (2 * id+1)=2 * id+1:=wrap_u32' _ (by omega) (by omega)
 have ht2:¬ t=st2.next:=by omega
 have ht3:¬ st2.next=t:=by omega
 have ht4:¬ t=st2.next+1:=by omega
 have ht5:¬ t=st2.next+1+1:=by omega
 have ht6:¬ t=st2.next+1+1+1:=by omega
 have hn2:¬ st2.next=st2.next+1+1:=by omega
 have hn3:¬ st2.next=st2.next+1+1+1:=by omega
 have hn4:¬ st2.next=st2.next+1+1+1+1:=by omega
 have hn5:¬ st2.next+1+1=st2.next+1+1+1:=by omega
 by_cases ha:a=v
 ·by_cases hb:b=v
  ·have he1:end1 v ⟨id,a,b⟩=[2 * id,2 * id+1]:=by simp [end1,ha,hb]
   rw [he1] at hst
   (repeat' (first | refine qS ?_ | refine qB ?_ | (refine qK ?_;simp only [ak,reduceIte]) | (refine qC ?_;simp [f1,f5,f9,f10,f11,hlt,hd,hw,hel,ha,hb,w1,w2,htH,ht0,ht2,ht3,ht4,hn2,hn3,hn4,hn5,ht5,ht6]) | (refine w_e [] ?_;intro J hJ;simp only [];simp [f1,f5,f9,f10,f11,hlt,hd,hw,hel,ha,hb,w1,w2,htH,ht0,ht2,ht3,ht4,hn2,hn3,hn4,hn5,ht5,ht6];(repeat refine ca ?_);(refine hJ _ _ ?_;clear hJ J;simp only [ak,reduceIte]))))
   refine hJJ (l.length - (k+1)) _ _ (by omega) ⟨k+1,by omega,rfl,by simp [f1],by simp [f9],by simp [f10],by simp,st2.next+1+1+1+1,by rw [hst];simp [f5],by omega,by have:=hkp.next;omega,by simp<;>omega,by rw [hst];simp [htH,ht2,ht4,hn2,hn3,hn4,hn5],?_⟩
   (repeat (first | exact hkp | (refine Keeps.trans ?_ (Keeps.new _ _)) | (refine Keeps.set ?_ (by have:=hkp.next;first | omega | (simp only [new_next,set_next];omega)) _)))
  ·have he1:end1 v ⟨id,a,b⟩=[2 * id]:=by simp [end1,ha,hb]
   rw [he1] at hst
   (repeat' (first | refine qS ?_ | refine qB ?_ | (refine qK ?_;simp only [ak,reduceIte]) | (refine qC ?_;simp [f1,f5,f9,f10,f11,hlt,hd,hw,hel,ha,hb,w1,w2,htH,ht0,ht2,ht3,ht4,hn2,hn3,hn4,hn5,ht5,ht6]) | (refine w_e [] ?_;intro J hJ;simp only [];simp [f1,f5,f9,f10,f11,hlt,hd,hw,hel,ha,hb,w1,w2,htH,ht0,ht2,ht3,ht4,hn2,hn3,hn4,hn5,ht5,ht6];(repeat refine ca ?_);(refine hJ _ _ ?_;clear hJ J;simp only [ak,reduceIte]))))
   refine hJJ (l.length - (k+1)) _ _ (by omega) ⟨k+1,by omega,rfl,by simp [f1],by simp [f9],by simp [f10],by simp,st2.next+1+1,by rw [hst];simp [f5],by omega,by have:=hkp.next;omega,by simp<;>omega,by rw [hst];simp [htH,ht2,ht4,hn2,hn3,hn4,hn5],?_⟩
   (repeat (first | exact hkp | (refine Keeps.trans ?_ (Keeps.new _ _)) | (refine Keeps.set ?_ (by have:=hkp.next;first | omega | (simp only [new_next,set_next];omega)) _)))
 ·by_cases hb:b=v
  ·have he1:end1 v ⟨id,a,b⟩=[2 * id+1]:=by simp [end1,ha,hb]
   rw [he1] at hst
   (repeat' (first | refine qS ?_ | refine qB ?_ | (refine qK ?_;simp only [ak,reduceIte]) | (refine qC ?_;simp [f1,f5,f9,f10,f11,hlt,hd,hw,hel,ha,hb,w1,w2,htH,ht0,ht2,ht3,ht4,hn2,hn3,hn4,hn5,ht5,ht6]) | (refine w_e [] ?_;intro J hJ;simp only [];simp [f1,f5,f9,f10,f11,hlt,hd,hw,hel,ha,hb,w1,w2,htH,ht0,ht2,ht3,ht4,hn2,hn3,hn4,hn5,ht5,ht6];(repeat refine ca ?_);(refine hJ _ _ ?_;clear hJ J;simp only [ak,reduceIte]))))
   refine hJJ (l.length - (k+1)) _ _ (by omega) ⟨k+1,by omega,rfl,by simp [f1],by simp [f9],by simp [f10],by simp,st2.next+1+1,by rw [hst];simp [f5],by omega,by have:=hkp.next;omega,by simp<;>omega,by rw [hst];simp [htH,ht2,ht4,hn2,hn3,hn4,hn5],?_⟩
   (repeat (first | exact hkp | (refine Keeps.trans ?_ (Keeps.new _ _)) | (refine Keeps.set ?_ (by have:=hkp.next;first | omega | (simp only [new_next,set_next];omega)) _)))
  ·have he1:end1 v ⟨id,a,b⟩=[]:=by simp [end1,ha,hb]
   rw [he1] at hst
   (repeat' (first | refine qS ?_ | refine qB ?_ | (refine qK ?_;simp only [ak,reduceIte]) | (refine qC ?_;simp [f1,f5,f9,f10,f11,hlt,hd,hw,hel,ha,hb,w1,w2,htH,ht0,ht2,ht3,ht4,hn2,hn3,hn4,hn5,ht5,ht6]) | (refine w_e [] ?_;intro J hJ;simp only [];simp [f1,f5,f9,f10,f11,hlt,hd,hw,hel,ha,hb,w1,w2,htH,ht0,ht2,ht3,ht4,hn2,hn3,hn4,hn5,ht5,ht6];(refine hJ _ _ ?_;clear hJ J;simp only [ak,reduceIte]))))
   refine hJJ (l.length - (k+1)) _ _ (by omega) ⟨k+1,by omega,rfl,by simp [f1],by simp [f9],by simp [f10],by simp,t,by rw [hst];simp [f5],by omega,by have:=hkp.next;omega,by simp<;>omega,by rw [hst];simp [htH,ht2,ht4,hn2,hn3,hn4,hn5],?_⟩
   (repeat (first | exact hkp | (refine Keeps.trans ?_ (Keeps.new _ _)) | (refine Keeps.set ?_ (by have:=hkp.next;first | omega | (simp only [new_next,set_next];omega)) _)))
theorem Ends (g:Gr) (v:Int) (st:St) (he:g.es.length≤1000) (hid:idOk g.es):
 ACalls Tryz.prog 82 [.ag (grL g),u v] st fun r st'=>(∃ t,r=.sl t (ends g.es v).length (us (ends g.es v)))∧Keeps st st':=by
 obtain ⟨vs,l⟩:=g
 simp only at he hid ⊢
 have hel:=eds_length l
 have hfl:=fun k=>flat_len (end1 v) (end1_len v) (l.take k)
 refine qO tabOk Tryz.func82 rfl rfl Tryz.ntmps82 (rs:=[.tmp 4]) rfl (by simp) ?_
 (repeat' (first | refine qS ?_ | refine qB ?_ | (refine w_e [] ?_;intro J hJ;simp only [];simp [];(refine hJ _ _ ?_;clear hJ J;simp only [ak,reduceIte]))))
 refine awp_posG fun hpos=>?_
 refine awp_own 5 29 1 (by simp) ?_
 refine qL (fun n fr st2=>∃ k:Nat,k≤l.length∧n=l.length - k∧fr 1=u v∧fr 9=.sl 0 l.length (eds l)∧fr 10=i l.length∧fr 11=i k∧∃ t,fr 5=.sl t (ends (l.take k) v).length (us (ends (l.take k) v))∧OwnAt t st (ends (l.take k) v) st2) l.length ?_ ?_
 ·exact ⟨0,by omega,by omega,by simp,by simp,by simp,by simp,st.next+1,by simp [ends],by omega,by omega,by simp,by simp [ends],(Keeps.new _ _).trans (Keeps.new _ _)⟩
 rintro n fr st2 ⟨k,hk,rfl,f1,f9,f10,f11,t,f5,ht0,htl,htn,htH,hkp⟩ JJ hJJ
 by_cases hlt:k < l.length
 rotate_left
 ·clear hJJ
  have hk':k=l.length:=by omega
  rw [hk',List.take_length] at f5
  (repeat' (first | refine qS ?_ | (refine qX ?_;simp only [ak,reduceIte]) | (refine qR ?_;simp only [ak,reduceIte];simp [f10,f11,hlt,f5]) | (refine qC ?_;simp [f10,f11,hlt,f5]) | (refine w_e [] ?_;intro J hJ;simp only [];simp [f10,f11,hlt,f5];(refine hJ _ _ ?_;clear hJ J;simp only [ak,reduceIte]))))
  exact hkp
 have hd:=eds_drop l k hlt
 have hw:=qN k (by omega)
 have hk3:k * 3 < l.length * 3:=by omega
 obtain ⟨hi0,hi1⟩:=hid.at k hlt
 have hst:ends (l.take (k+1)) v=ends (l.take k) v++end1 v (l.getD k ed0):=flat_takeE _ _ _ hlt
 have hle:=hfl k
 rw [List.length_take] at hle
 have hle2:(ends (l.take k) v).length≤2 * min k l.length:=hle
 generalize hx:l.getD k ed0=x at *
 obtain ⟨id,a,b⟩:=x
 simp only at hi0 hi1 hd
 generalize hF:ends (l.take k) v=F at *
 have w1:IntKind.u32.wrap (2 * id)=2 * id:=wrap_u32' _ (by omega) (by omega)
 have w2:IntKind.u32.wrap (2 * id+1)=2 * id+1:=wrap_u32' _ (by omega) (by omega)
 have ht2:¬ t=st2.next:=by omega
 have ht3:¬ st2.next=t:=by omega
 have ht4:¬ t=st2.next+1:=by omega
 have ht5:¬ t=st2.next+1+1:=by omega
 have ht6:¬ t=st2.next+1+1+1:=by omega
 have hn2:¬ st2.next=st2.next+1+1:=by omega
 have hn3:¬ st2.next=st2.next+1+1+1:=by omega
 have hn4:¬ st2.next=st2.next+1+1+1+1:=by omega
 have hn5:¬ st2.next+1+1=st2.next+1+1+1:=by omega
 by_cases ha:a=v
 ·by_cases hb:b=v
  ·have he1:end1 v ⟨id,a,b⟩=[2 * id,2 * id+1]:=by simp [end1,ha,hb]
   rw [he1] at hst
   (repeat' (first | refine qS ?_ | refine qB ?_ | (refine qK ?_;simp only [ak,reduceIte]) | (refine qC ?_;simp [f1,f5,f9,f10,f11,hlt,hd,hw,hel,ha,hb,w1,w2,htH,ht0,ht2,ht3,ht4,hn2,hn3,hn4,hn5,ht5,ht6]) | (refine w_e [] ?_;intro J hJ;simp only [];simp [f1,f5,f9,f10,f11,hlt,hd,hw,hel,ha,hb,w1,w2,htH,ht0,ht2,ht3,ht4,hn2,hn3,hn4,hn5,ht5,ht6];(try (refine hJ _ _ ?_;clear hJ J;simp only [ak,reduceIte])))))
   refine qF (dOf id 0 _ hi0 hi1 (.inl rfl)) ?_;rintro r st' ⟨rfl,rfl⟩
   (repeat' (first | refine qS ?_ | (refine qC ?_;simp [f1,f5,f9,f10,f11,hlt,hd,hw,hel,ha,hb,w1,w2,htH,ht0,ht2,ht3,ht4,hn2,hn3,hn4,hn5,ht5,ht6]) | ((first | (refine w_e [] ?_;intro J hJ;simp only []) | (refine e_go ?_));simp [f1,f5,f9,f10,f11,hlt,hd,hw,hel,ha,hb,w1,w2,htH,ht0,ht2,ht3,ht4,hn2,hn3,hn4,hn5,ht5,ht6];(repeat refine ca ?_);(try (refine hJ _ _ ?_;clear hJ J;simp only [ak,reduceIte])))))
   refine qF (dOf id 1 _ hi0 hi1 (.inr rfl)) ?_;rintro r st' ⟨rfl,rfl⟩
   (repeat' ((first | (refine w_e [] ?_;intro J hJ;simp only []) | (refine e_go ?_));simp [f1,f5,f9,f10,f11,hlt,hd,hw,hel,ha,hb,w1,w2,htH,ht0,ht2,ht3,ht4,hn2,hn3,hn4,hn5,ht5,ht6];(repeat refine ca ?_);(refine hJ _ _ ?_;clear hJ J;simp only [ak,reduceIte])))
   refine hJJ (l.length - (k+1)) _ _ (by omega) ⟨k+1,by omega,rfl,by simp [f1],by simp [f9],by simp [f10],by simp,st2.next+1+1+1+1,by rw [hst];simp [f5],by omega,by have:=hkp.next;omega,by simp<;>omega,by rw [hst];simp [htH,ht2,ht4,hn2,hn3,hn4,hn5],?_⟩
   (repeat (first | exact hkp | (refine Keeps.trans ?_ (Keeps.new _ _)) | (refine Keeps.set ?_ (by have:=hkp.next;first | omega | (simp only [new_next,set_next];omega)) _)))
  ·have he1:end1 v ⟨id,a,b⟩=[2 * id]:=by simp [end1,ha,hb]
   rw [he1] at hst
   (repeat' (first | refine qS ?_ | refine qB ?_ | (refine qK ?_;simp only [ak,reduceIte]) | (refine qC ?_;simp [f1,f5,f9,f10,f11,hlt,hd,hw,hel,ha,hb,w1,w2,htH,ht0,ht2,ht3,ht4,hn2,hn3,hn4,hn5,ht5,ht6]) | (refine w_e [] ?_;intro J hJ;simp only [];simp [f1,f5,f9,f10,f11,hlt,hd,hw,hel,ha,hb,w1,w2,htH,ht0,ht2,ht3,ht4,hn2,hn3,hn4,hn5,ht5,ht6];(try (refine hJ _ _ ?_;clear hJ J;simp only [ak,reduceIte])))))
   refine qF (dOf id 0 _ hi0 hi1 (.inl rfl)) ?_;rintro r st' ⟨rfl,rfl⟩
   (repeat' (first | refine qS ?_ | (refine qK ?_;simp only [ak,reduceIte]) | (refine qC ?_;simp [f1,f5,f9,f10,f11,hlt,hd,hw,hel,ha,hb,w1,w2,htH,ht0,ht2,ht3,ht4,hn2,hn3,hn4,hn5,ht5,ht6]) | ((first | (refine w_e [] ?_;intro J hJ;simp only []) | (refine e_go ?_));simp [f1,f5,f9,f10,f11,hlt,hd,hw,hel,ha,hb,w1,w2,htH,ht0,ht2,ht3,ht4,hn2,hn3,hn4,hn5,ht5,ht6];(repeat refine ca ?_);(refine hJ _ _ ?_;clear hJ J;simp only [ak,reduceIte]))))
   refine hJJ (l.length - (k+1)) _ _ (by omega) ⟨k+1,by omega,rfl,by simp [f1],by simp [f9],by simp [f10],by simp,st2.next+1+1,by rw [hst];simp [f5],by omega,by have:=hkp.next;omega,by simp<;>omega,by rw [hst];simp [htH,ht2,ht4,hn2,hn3,hn4,hn5],?_⟩
   (repeat (first | exact hkp | (refine Keeps.trans ?_ (Keeps.new _ _)) | (refine Keeps.set ?_ (by have:=hkp.next;first | omega | (simp only [new_next,set_next];omega)) _)))
 ·by_cases hb:b=v
  ·have he1:end1 v ⟨id,a,b⟩=[2 * id+1]:=by simp [end1,ha,hb]
   rw [he1] at hst
   (repeat' (first | refine qS ?_ | refine qB ?_ | (refine qK ?_;simp only [ak,reduceIte]) | (refine qC ?_;simp [f1,f5,f9,f10,f11,hlt,hd,hw,hel,ha,hb,w1,w2,htH,ht0,ht2,ht3,ht4,hn2,hn3,hn4,hn5,ht5,ht6]) | (refine w_e [] ?_;intro J hJ;simp only [];simp [f1,f5,f9,f10,f11,hlt,hd,hw,hel,ha,hb,w1,w2,htH,ht0,ht2,ht3,ht4,hn2,hn3,hn4,hn5,ht5,ht6];(try (refine hJ _ _ ?_;clear hJ J;simp only [ak,reduceIte])))))
   refine qF (dOf id 1 _ hi0 hi1 (.inr rfl)) ?_;rintro r st' ⟨rfl,rfl⟩
   (repeat' ((first | (refine w_e [] ?_;intro J hJ;simp only []) | (refine e_go ?_));simp [f1,f5,f9,f10,f11,hlt,hd,hw,hel,ha,hb,w1,w2,htH,ht0,ht2,ht3,ht4,hn2,hn3,hn4,hn5,ht5,ht6];(repeat refine ca ?_);(refine hJ _ _ ?_;clear hJ J;simp only [ak,reduceIte])))
   refine hJJ (l.length - (k+1)) _ _ (by omega) ⟨k+1,by omega,rfl,by simp [f1],by simp [f9],by simp [f10],by simp,st2.next+1+1,by rw [hst];simp [f5],by omega,by have:=hkp.next;omega,by simp<;>omega,by rw [hst];simp [htH,ht2,ht4,hn2,hn3,hn4,hn5],?_⟩
   (repeat (first | exact hkp | (refine Keeps.trans ?_ (Keeps.new _ _)) | (refine Keeps.set ?_ (by have:=hkp.next;first | omega | (simp only [new_next,set_next];omega)) _)))
  ·have he1:end1 v ⟨id,a,b⟩=[]:=by simp [end1,ha,hb]
   rw [he1] at hst
   (repeat' (first | refine qS ?_ | refine qB ?_ | (refine qK ?_;simp only [ak,reduceIte]) | (refine qC ?_;simp [f1,f5,f9,f10,f11,hlt,hd,hw,hel,ha,hb,w1,w2,htH,ht0,ht2,ht3,ht4,hn2,hn3,hn4,hn5,ht5,ht6]) | (refine w_e [] ?_;intro J hJ;simp only [];simp [f1,f5,f9,f10,f11,hlt,hd,hw,hel,ha,hb,w1,w2,htH,ht0,ht2,ht3,ht4,hn2,hn3,hn4,hn5,ht5,ht6];(refine hJ _ _ ?_;clear hJ J;simp only [ak,reduceIte]))))
   refine hJJ (l.length - (k+1)) _ _ (by omega) ⟨k+1,by omega,rfl,by simp [f1],by simp [f9],by simp [f10],by simp,t,by rw [hst];simp [f5],by omega,by have:=hkp.next;omega,by simp<;>omega,by rw [hst];simp [htH,ht2,ht4,hn2,hn3,hn4,hn5],?_⟩
   (repeat (first | exact hkp | (refine Keeps.trans ?_ (Keeps.new _ _)) | (refine Keeps.set ?_ (by have:=hkp.next;first | omega | (simp only [new_next,set_next];omega)) _)))
def nbr1 (v:Int) (x:Ed):List Int:=(if x.a=v then [x.b] else [])++(if x.b=v then [x.a] else [])
def nbr (es:List Ed) (v:Int):List Int:=es.flatMap (nbr1 v)
theorem nbr1_len (v:Int) (x:Ed):(nbr1 v x).length≤2:=by
 unfold nbr1;split<;>split<;>simp
def NearI (lo m:Nat) (es:List (List Int×LV)) (st:St) (f:Int→List Int) (tok:Int→Nat):Prop:=
 ∀ v,(tok v=0→f v=[]∧mget es [v]=none)∧(tok v≠0→mget es [v]=some (.sl (tok v) (f v).length (us (f v)))∧lo≤tok v∧tok v < st.next∧tok v≠m∧st.H (tok v)=.own 29 1 (f v).length∧∀ w,tok w=tok v→w=v)
theorem NearI.step {lo m:Nat} {es:List (List Int×LV)} {st st':St} {f:Int→List Int} {tok:Int→Nat} (h:NearI lo m es st f tok) (a x:Int) (N:Nat) (hN:st.next≤N) (hN':N < st'.next) (hm:m < st.next) (h0:0 < st.next) (hlo:lo≤st.next)
 (hH:∀ l,l≠tok a→l≠m→l < st.next→st'.H l=st.H l) (hO:st'.H N=.own 29 1 ((f a).length+1)):
 NearI lo m (mset es [a] (.sl N ((f a).length+1) (us (f a++[x])))) st' (fun v=>if v=a then f a++[x] else f v) (fun v=>if v=a then N else tok v):=by
 intro v
 by_cases hv:v=a
 ·subst hv
  simp only [if_true]
  refine ⟨fun h1=>by omega,fun _=>⟨by rw [mget_mset];simp,by omega,hN',by omega,by rw [hO];simp,fun w hw=>?_⟩⟩
  by_cases hwv:w=v
  ·exact hwv
  ·rw [if_neg hwv] at hw
   by_cases h1:tok w=0
   ·omega
   ·have:=((h w).2 h1).2.2.1;omega
 ·simp only [if_neg hv]
  have hne:¬ ([v]:List Int)=[a]:=by simpa using hv
  refine ⟨fun h1=>⟨((h v).1 h1).1,by rw [mget_mset,if_neg hne];exact ((h v).1 h1).2⟩,fun h1=>?_⟩
  obtain ⟨k1,k2,k3,k4,k5,k6⟩:=(h v).2 h1
  refine ⟨by rw [mget_mset,if_neg hne];exact k1,k2,by omega,k4,?_,fun w hw=>?_⟩
  ·rw [hH (tok v) (fun e=>hv (k6 a e.symm).symm) k4 k3];exact k5
  ·by_cases hwa:w=a
   ·subst hwa;simp only [if_true] at hw;omega
   ·rw [if_neg hwa] at hw;exact k6 w hw
def RowsAt (es:List (List Int×LV)) (f:Int→List Int):Prop:=∀ v,∃ t,norm ((mget es [v]).getD .nil)=.sl t (f v).length (us (f v))
def NearJ (n0 m:Nat) (st:St) (l:List Ed) (k:Nat) (id a b:Int) (f:Int→List Int) (fr:Frm) (st2:St):Prop:=
 fr 3=.mp (m)∧fr 8=.sl 0 l.length (eds l)∧fr 9=i l.length∧fr 10=i k∧Keeps st st2∧m < st2.next∧(∃ q,fr 5=.pt q 0∧st2.H q=.box 31 3 [u id,u a,u b]∧q < st2.next)∧∃ es tok,st2.H (m)=.map false [.u32] es∧NearI n0 m es st2 f tok
theorem near (g:Gr) (st:St) (he:g.es.length≤1000):
 ACalls Tryz.prog 117 [.ag (grL g)] st fun r st'=>∃ m es,r=.mp m∧st.next≤m∧m < st'.next∧st'.H m=.map false [.u32] es∧Keeps st st'∧RowsAt es (nbr g.es):=by
 obtain ⟨vs,l⟩:=g
 simp only at he ⊢
 have hel:=eds_length l
 have hfl:=fun v k=>flat_len (nbr1 v) (nbr1_len v) (l.take k)
 refine qO tabOk Tryz.func117 rfl rfl Tryz.ntmps117 (rs:=[.tmp 2]) rfl (by simp) ?_
 (repeat' (first | refine qS ?_ | refine qB ?_ | (refine w_e [] ?_;intro J hJ;simp only [];simp [];(refine hJ _ _ ?_;clear hJ J;simp only [ak,reduceIte]))))
 refine awp_posG fun hpos=>?_
 obtain ⟨m,hm⟩:∃ m,m=st.next+1:=⟨_,rfl⟩
 refine qL (fun n fr st2=>∃ k:Nat,k≤l.length∧n=l.length - k∧fr 3=.mp m∧fr 8=.sl 0 l.length (eds l)∧fr 9=i l.length∧fr 10=i k∧Keeps st st2∧m < st2.next∧∃ es tok,st2.H m=.map false [.u32] es∧NearI st.next m es st2 (nbr (l.take k)) tok) l.length ?_ ?_
 ·exact ⟨0,by omega,by omega,by simp [hm],by simp,by simp,by simp,(Keeps.new _ _).trans (Keeps.new _ _),by simp [hm],[],fun _=>0,by simp [hm],fun v=>⟨fun _=>⟨by simp [nbr],rfl⟩,fun h=>absurd rfl h⟩⟩
 rintro n fr st2 ⟨k,hk,rfl,f3,f8,f9,f10,hkp,hmn,es,tok,hM,hN⟩ JJ hJJ
 by_cases hlt:k < l.length
 rotate_left
 ·clear hJJ
  have hk':k=l.length:=by omega
  rw [hk',List.take_length] at hN
  (repeat' (first | refine qS ?_ | (refine qX ?_;simp only [ak,reduceIte]) | (refine qR ?_;simp only [ak,reduceIte];simp [f3,f9,f10,hlt]) | (refine qC ?_;simp [f3,f9,f10,hlt]) | (refine w_e [] ?_;intro J hJ;simp only [];simp [f3,f9,f10,hlt];(refine hJ _ _ ?_;clear hJ J;simp only [ak,reduceIte]))))
  refine ⟨by omega,hmn,es,hM,hkp,fun v=>?_⟩
  by_cases h0:tok v=0
  ·obtain ⟨h1,h2⟩:=(hN v).1 h0
   exact ⟨0,by rw [h1,h2];rfl⟩
  ·obtain ⟨h1,-⟩:=(hN v).2 h0
   exact ⟨tok v,by rw [h1];rfl⟩
 have hd:=eds_drop l k hlt
 have hw:=qN k (by omega)
 have hk3:k * 3 < l.length * 3:=by omega
 have hst:∀ v,nbr (l.take (k+1)) v=nbr (l.take k) v++nbr1 v (l.getD k ed0):=fun v=>flat_takeE _ _ _ hlt
 have hle:∀ v,(nbr (l.take k) v).length≤2 * k:=fun v=>by have:=hfl v k;rw [List.length_take] at this;unfold nbr;omega
 generalize hx:l.getD k ed0=x at *
 obtain ⟨id,a,b⟩:=x
 simp only at hd
 generalize hF:nbr (l.take k)=f at *
 (repeat' (first | refine qS ?_ | refine qB ?_ | (refine qK ?_;simp only [ak,reduceIte]) | (refine qC ?_;simp [f8,f9,f10,hlt,hd,hel]) | (refine w_e [] ?_;intro J hJ;simp only [];simp [f8,f9,f10,hlt,hd,hel];(refine hJ _ _ ?_;clear hJ J;simp only [ak,reduceIte]))))
 have hm2:¬ m=st2.next:=by omega
 have hm3:¬ st2.next=m:=by omega
 have hm4:¬ m=st2.next+1:=by omega
 have hm5:¬ m=st2.next+1+1:=by omega
 have hn2:¬ st2.next=st2.next+1+1:=by omega
 refine awp_cut1 (NearJ st.next m st l k id a b (fun v=>if v=a then f a++[b] else f v)) ?_ ?_
 ·clear hJJ
  have hla:=hle a
  by_cases h0:tok a=0
  ·obtain ⟨h1,h2⟩:=(hN a).1 h0
   (refine w_s [] [st2.next,m] [(0,true),(1,true),(2,true),(3,true),(4,true),(5,true),(6,true),(7,true),(8,true),(9,true),(10,true),(11,false)] ?_;intro J hJ;simp [f3,hM,h2,hm2,hm3,hm4,hm5,hn2];(repeat refine ca ?_);(refine hJ _ _ ?_;clear hJ J;simp only [ak,reduceIte]))
   refine ⟨by trivial,?_⟩
   have e:LV.sl (st2.next+1+1) ((f a).length+1) (us (f a++[b]))=.sl (st2.next+1+1) 1 [u b]:=by rw [h1];rfl
   refine ⟨by simp [f3],by simp [f8],by simp [f9],by simp [f10],(by repeat (first | exact hkp | (refine Keeps.trans ?_ (Keeps.new _ _)) | (refine Keeps.set ?_ (by have:=hkp.next;omega) _))),by simp;omega,⟨st2.next,by simp,by simp [hm3,hn2],by simp;omega⟩,_,fun v=>if v=a then st2.next+1+1 else tok v,by simp;rfl,?_⟩
   rw [← e]
   refine hN.step a b (st2.next+1+1) (by omega) (by simp) hmn (by omega) (by have:=hkp.next;omega) (fun l e1 e2 e3=>?_) (by rw [h1];simp [Ne.symm hm5])
   have a1:¬ l=st2.next:=by omega
   have a2:¬ l=st2.next+1:=by omega
   have a3:¬ l=st2.next+1+1:=by omega
   simp [a1,a2,a3,e1,e2]
  ·obtain ⟨h1,h2,h3,h4,h5,h6⟩:=(hN a).2 h0
   have ht1:¬ tok a=st2.next:=by omega
   have ht2:¬ st2.next=tok a:=by omega
   have ht3:¬ tok a=st2.next+1:=by omega
   have ht4:¬ m=tok a:=fun h=>h4 h.symm
   (refine w_s [] [st2.next,m] [(0,true),(1,true),(2,true),(3,true),(4,true),(5,true),(6,true),(7,true),(8,true),(9,true),(10,true),(11,false)] ?_;intro J hJ;simp [f3,hM,h1,h5,h0,hm2,hm3,hm4,hm5,hn2,ht1,ht2,ht3,ht4];(repeat refine ca ?_);(refine hJ _ _ ?_;clear hJ J;simp only [ak,reduceIte]))
   refine ⟨by trivial,?_⟩
   have e:LV.sl (st2.next+1+1) ((f a).length+1) (us (f a++[b]))=.sl (st2.next+1+1) ((f a).length+1) (us (f a)++[u b]):=by simp
   refine ⟨by simp [f3],by simp [f8],by simp [f9],by simp [f10],(by repeat (first | exact hkp | (refine Keeps.trans ?_ (Keeps.new _ _)) | (refine Keeps.set ?_ (by have:=hkp.next;omega) _))),by simp;omega,⟨st2.next,by simp,by simp [hm3,hn2,ht2],by simp;omega⟩,_,fun v=>if v=a then st2.next+1+1 else tok v,by simp;rfl,?_⟩
   rw [← e]
   refine hN.step a b (st2.next+1+1) (by omega) (by simp) hmn (by omega) (by have:=hkp.next;omega) (fun l e1 e2 e3=>?_) (by simp [Ne.symm hm5])
   have a1:¬ l=st2.next:=by omega
   have a2:¬ l=st2.next+1:=by omega
   have a3:¬ l=st2.next+1+1:=by omega
   simp [a1,a2,a3,e1,e2]
 clear f3 f8 f9 f10 hkp hmn hM hN hm2 hm3 hm4 hm5 hn2 tok es st2 fr
 rintro fr st2 ⟨f3,f8,f9,f10,hkp,hmn,⟨q,f5,hq,hqn⟩,es,tok,hM,hN⟩
 generalize hf2:(fun v=>if v=a then f a++[b] else f v)=f2 at *
 have hle2:(f2 b).length≤2 * k+1:=by
  rw [← hf2]
  simp only
  split
  ·have:=hle a;simp;omega
  ·have:=hle b;omega
 have hfin:∀ v,nbr (l.take (k+1)) v=(if v=b then f2 b++[a] else f2 v):=by
  intro v
  rw [hst v,← hf2]
  unfold nbr1
  simp only
  by_cases hva:v=a
  ·subst hva
   by_cases hvb:v=b
   ·subst hvb;simp
   ·simp [hvb,Ne.symm hvb]
  ·by_cases hvb:v=b
   ·subst hvb;simp [hva,Ne.symm hva]
   ·simp [hva,hvb,Ne.symm hva,Ne.symm hvb]
 have hfin':nbr (l.take (k+1))=fun v=>if v=b then f2 b++[a] else f2 v:=funext hfin
 have hm2:¬ m=st2.next:=by omega
 have hm5:¬ m=st2.next+1:=by omega
 have hq2:¬ q=st2.next:=by omega
 have hqm:¬ q=m:=fun h=>by rw [h,hM] at hq;cases hq
 by_cases h0:tok b=0
 ·obtain ⟨h1,h2⟩:=(hN b).1 h0
  (refine w_s [] [q,m] [(0,true),(1,true),(2,true),(3,true),(4,true),(5,true),(6,true),(7,true),(8,true),(9,true),(10,true),(11,false)] ?_;intro J hJ;simp [f3,f5,hq,hM,h2,hm2,hm5,hq2,hqm];(repeat refine ca ?_);(refine hJ _ _ ?_;clear hJ J;simp only [ak,reduceIte]))
  (repeat' (refine w_e [] ?_;intro J hJ;simp only [];simp [f10,hw];(refine hJ _ _ ?_;clear hJ J;simp only [ak,reduceIte])))
  have e:LV.sl (st2.next+1) ((f2 b).length+1) (us (f2 b++[a]))=.sl (st2.next+1) 1 [u a]:=by rw [h1];rfl
  refine hJJ (l.length - (k+1)) _ _ (by omega) ⟨k+1,by omega,rfl,by simp [f3],by simp [f8],by simp [f9],by simp,(by repeat (first | exact hkp | (refine Keeps.trans ?_ (Keeps.new _ _)) | (refine Keeps.set ?_ (by have:=hkp.next;omega) _))),by simp;omega,_,fun v=>if v=b then st2.next+1 else tok v,by simp;rfl,?_⟩
  rw [← e,hfin']
  refine hN.step b a (st2.next+1) (by omega) (by simp) hmn (by omega) (by have:=hkp.next;omega) (fun l e1 e2 e3=>?_) (by rw [h1];simp [Ne.symm hm5])
  have a1:¬ l=st2.next:=by omega
  have a2:¬ l=st2.next+1:=by omega
  simp [a1,a2,e1,e2]
 ·obtain ⟨h1,h2,h3,h4,h5,h6⟩:=(hN b).2 h0
  have ht1:¬ tok b=st2.next:=by omega
  have ht2:¬ st2.next=tok b:=by omega
  have ht4:¬ m=tok b:=fun h=>h4 h.symm
  have ht5:¬ q=tok b:=fun h=>by rw [h,h5] at hq;cases hq
  (refine w_s [] [q,m] [(0,true),(1,true),(2,true),(3,true),(4,true),(5,true),(6,true),(7,true),(8,true),(9,true),(10,true),(11,false)] ?_;intro J hJ;simp [f3,f5,hq,hM,h1,h5,h0,hm2,hm5,hq2,hqm,ht1,ht2,ht4,ht5];(repeat refine ca ?_);(refine hJ _ _ ?_;clear hJ J;simp only [ak,reduceIte]))
  (repeat' (refine w_e [] ?_;intro J hJ;simp only [];simp [f10,hw];(refine hJ _ _ ?_;clear hJ J;simp only [ak,reduceIte])))
  have e:LV.sl (st2.next+1) ((f2 b).length+1) (us (f2 b++[a]))=.sl (st2.next+1) ((f2 b).length+1) (us (f2 b)++[u a]):=by simp
  refine hJJ (l.length - (k+1)) _ _ (by omega) ⟨k+1,by omega,rfl,by simp [f3],by simp [f8],by simp [f9],by simp,(by repeat (first | exact hkp | (refine Keeps.trans ?_ (Keeps.new _ _)) | (refine Keeps.set ?_ (by have:=hkp.next;omega) _))),by simp;omega,_,fun v=>if v=b then st2.next+1 else tok v,by simp;rfl,?_⟩
  rw [← e,hfin']
  refine hN.step b a (st2.next+1) (by omega) (by simp) hmn (by omega) (by have:=hkp.next;omega) (fun l e1 e2 e3=>?_) (by simp [Ne.symm hm5])
  have a1:¬ l=st2.next:=by omega
  have a2:¬ l=st2.next+1:=by omega
  simp [a1,a2,e1,e2]
theorem RowsAt.cases {es:List (List Int×LV)} {f:Int→List Int} (h:RowsAt es f) (v:Int):((mget es [v]).getD .nil=.nil∧f v=[])∨∃ t,(mget es [v]).getD .nil=.sl t (f v).length (us (f v)):=by
 obtain ⟨t,ht⟩:=h v
 cases hx:(mget es [v]).getD .nil with
 | nil=>
   rw [hx] at ht
   left
   refine ⟨rfl,?_⟩
   simp only [norm,LV.sl.injEq] at ht
   exact List.eq_nil_of_length_eq_zero ht.2.1.symm
 | _=>rw [hx] at ht;simp [norm] at ht<;>exact .inr ⟨t,by simp [ht]⟩
def alone (g:Gr):Nat:=g.vs.countP fun v=>decide (nbr g.es v=[])
theorem count_take (p:Int→Bool) (l:List Int) (k:Nat) (hk:k < l.length):(l.take (k+1)).countP p=(l.take k).countP p+(if p (l.getD k 0)=true then 1 else 0):=by
 rw [List.take_succ_eq_append_getElem hk,List.countP_append,getD_lt _ _ hk]
 simp [List.countP_cons]
theorem Alone (g:Gr) (st:St) (hv:g.vs.length≤1000) (he:g.es.length≤1000):
 ACalls Tryz.prog 87 [.ag (grL g)] st fun r st'=>r=i (alone g)∧Keeps st st':=by
 obtain ⟨p,hp⟩:∃ p:Int→Bool,p=fun v=>decide (nbr g.es v=[]):=⟨_,rfl⟩
 have hal:alone g=g.vs.countP p:=by rw [hp];rfl
 refine qO tabOk Tryz.func87 rfl rfl Tryz.ntmps87 (rs:=[.tmp 2]) rfl (by simp) ?_
 (repeat' (first | refine qS ?_ | (refine w_e [] ?_;intro J hJ;simp only [];simp [];(try (refine hJ _ _ ?_;clear hJ J;simp only [ak,reduceIte])))))
 refine qE (near g _ he) (by simp) ?_;rintro r s1 ⟨m,es,rfl,hm1,hm2,hM,hk1,hR⟩
 have hG1:s1.H st.next=.box 25 2 (grL g):=by rw [hk1.H _ (by simp)];simp
 (repeat' (first | refine qS ?_ | refine qB ?_ | ((first | (refine w_e [] ?_;intro J hJ;simp only []) | (refine e_go ?_));simp [hG1];(refine hJ _ _ ?_;clear hJ J;simp only [ak,reduceIte]))))
 refine qL (fun n fr st2=>∃ k:Nat,k≤g.vs.length∧n=g.vs.length - k∧fr 4=.mp m∧fr 10=.sl 0 g.vs.length (us g.vs)∧fr 11=i g.vs.length∧fr 12=i k∧fr 3=i ((g.vs.take k).countP p)∧st2=s1) g.vs.length ?_ ?_
 ·exact ⟨0,by omega,by omega,by simp,by simp,by simp,by simp,by simp,rfl⟩
 rintro n fr st2 ⟨k,hk,rfl,f4,f10,f11,f12,f3,rfl⟩ JJ hJJ
 by_cases hlt:k < g.vs.length
 rotate_left
 ·clear hJJ
  have hk':k=g.vs.length:=by omega
  rw [hk',List.take_length] at f3
  (repeat' (first | refine qS ?_ | (refine qX ?_;simp only [ak,reduceIte]) | (refine qR ?_;simp only [ak,reduceIte];simp [f3,f11,f12,hlt]) | (refine qC ?_;simp [f3,f11,f12,hlt]) | (refine w_e [] ?_;intro J hJ;simp only [];simp [f3,f11,f12,hlt];(refine hJ _ _ ?_;clear hJ J;simp only [ak,reduceIte]))))
  exact ⟨by rw [hal],(Keeps.new _ _).trans hk1⟩
 have hd:=qG g.vs k hlt
 have hw:=qN k (by omega)
 have hct:=count_take p g.vs k hlt
 have hcl:(g.vs.take k).countP p≤k:=by have:=List.countP_le_length (p:=p) (l:=g.vs.take k);rw [List.length_take] at this;omega
 generalize hx:g.vs.getD k 0=x at *
 generalize (g.vs.take k).countP p=z at *
 have hz:=qN z (by omega)
 rcases hR.cases x with ⟨h1,h2⟩ | ⟨t,h1⟩
 ·have hpx:p x=true:=by rw [hp];simp [h2]
  rw [hpx] at hct
  (repeat' (first | refine qS ?_ | refine qB ?_ | (refine qK ?_;simp only [ak,reduceIte]) | (refine qC ?_;simp [f3,f4,f10,f11,f12,hlt,hd,hw,hM,h1,hz]) | (refine w_e [] ?_;intro J hJ;simp only [];simp [f3,f4,f10,f11,f12,hlt,hd,hw,hM,h1,hz];(refine hJ _ _ ?_;clear hJ J;simp only [ak,reduceIte]))))
  refine hJJ (g.vs.length - (k+1)) _ _ (by omega) ⟨k+1,by omega,rfl,by simp [f4],by simp [f10],by simp [f11],by simp,by rw [hct];simp,rfl⟩
 ·by_cases h2:nbr g.es x=[]
  ·have hpx:p x=true:=by rw [hp];simp [h2]
   rw [hpx] at hct
   rw [h2] at h1
   (repeat' (first | refine qS ?_ | refine qB ?_ | (refine qK ?_;simp only [ak,reduceIte]) | (refine qC ?_;simp [f3,f4,f10,f11,f12,hlt,hd,hw,hM,h1,hz]) | (refine w_e [] ?_;intro J hJ;simp only [];simp [f3,f4,f10,f11,f12,hlt,hd,hw,hM,h1,hz];(refine hJ _ _ ?_;clear hJ J;simp only [ak,reduceIte]))))
   refine hJJ (g.vs.length - (k+1)) _ _ (by omega) ⟨k+1,by omega,rfl,by simp [f4],by simp [f10],by simp [f11],by simp,by rw [hct];simp,rfl⟩
  ·have hpx:p x=false:=by rw [hp];simp [h2]
   rw [hpx] at hct
   have h3:¬ (nbr g.es x).length=0:=fun h=>h2 (List.eq_nil_of_length_eq_zero h)
   generalize nbr g.es x=y at *
   (repeat' (first | refine qS ?_ | refine qB ?_ | (refine qK ?_;simp only [ak,reduceIte]) | (refine qC ?_;simp [f3,f4,f10,f11,f12,hlt,hd,hw,hM,h1,hz,h2,h3]) | (refine w_e [] ?_;intro J hJ;simp only [];simp [f3,f4,f10,f11,f12,hlt,hd,hw,hM,h1,hz,h2,h3];(refine hJ _ _ ?_;clear hJ J;simp only [ak,reduceIte]))))
   refine hJJ (g.vs.length - (k+1)) _ _ (by omega) ⟨k+1,by omega,rfl,by simp [f4],by simp [f10],by simp [f11],by simp,by rw [hct];simp [f3],rfl⟩
inductive Reach (es:List Ed) (v:Int):Int→Prop
 | refl:Reach es v v
 | step {u w:Int} (h:Reach es v u) (hw:w∈nbr es u):Reach es v w
theorem mem_nbr {es:List Ed} {u w:Int}:w∈nbr es u↔∃ x∈es,(x.a=u∧x.b=w)∨(x.b=u∧x.a=w):=by
 unfold nbr nbr1
 simp only [List.mem_flatMap,List.mem_append]
 constructor
 ·rintro ⟨x,hx,h | h⟩
  ·refine ⟨x,hx,.inl ?_⟩
   split at h
   ·rename_i h1;simp at h;exact ⟨h1,h.symm⟩
   ·cases h
  ·refine ⟨x,hx,.inr ?_⟩
   split at h
   ·rename_i h1;simp at h;exact ⟨h1,h.symm⟩
   ·cases h
 ·rintro ⟨x,hx,⟨h1,h2⟩ | ⟨h1,h2⟩⟩
  ·exact ⟨x,hx,.inl (by simp [h1,h2])⟩
  ·exact ⟨x,hx,.inr (by simp [h1,h2])⟩
theorem nbr_symm {es:List Ed} {u w:Int} (h:w∈nbr es u):u∈nbr es w:=by
 rw [mem_nbr] at h ⊢
 obtain ⟨x,hx,⟨h1,h2⟩ | ⟨h1,h2⟩⟩:=h
 ·exact ⟨x,hx,.inr ⟨h2,h1⟩⟩
 ·exact ⟨x,hx,.inl ⟨h2,h1⟩⟩
theorem Reach.trans {es:List Ed} {u v w:Int} (h:Reach es u v) (k:Reach es v w):Reach es u w:=by
 induction k with
 | refl=>exact h
 | step _ hw ih=>exact .step ih hw
theorem Reach.symm {es:List Ed} {u v:Int} (h:Reach es u v):Reach es v u:=by
 induction h with
 | refl=>exact .refl
 | step _ hw ih=>exact Reach.trans (.step .refl (nbr_symm hw)) ih
theorem Reach.closed {es:List Ed} {v w:Int} {L:Int→Prop} (h:Reach es v w) (hv:L v) (hc:∀ u,L u→∀ w∈nbr es u,L w):L w:=by
 induction h with
 | refl=>exact hv
 | step _ hw ih=>exact hc _ ih _ hw
structure Good (g:Gr):Prop where
 rise:g.vs.Pairwise (· < ·)
 ends:∀ x∈g.es,x.a∈g.vs∧x.b∈g.vs
theorem Good.nbr {g:Gr} (h:Good g) {u w:Int} (hw:w∈nbr g.es u):w∈g.vs:=by
 rw [mem_nbr] at hw
 obtain ⟨x,hx,⟨_,rfl⟩ | ⟨_,rfl⟩⟩:=hw
 ·exact (h.ends x hx).2
 ·exact (h.ends x hx).1
theorem Good.reach {g:Gr} (h:Good g) {v w:Int} (hv:v∈g.vs) (hr:Reach g.es v w):w∈g.vs:=by
 cases hr with
 | refl=>exact hv
 | step _ hw=>exact h.nbr hw
theorem Good.nodup {g:Gr} (h:Good g):g.vs.Nodup:=h.rise.imp fun h=>by omega
def IsPart (g:Gr) (v:Int) (c:List Int):Prop:=c.Pairwise (· < ·)∧∀ w,w∈c↔w∈g.vs∧Reach g.es v w
theorem rise_unique {c d:List Int} (hc:c.Pairwise (· < ·)) (hd:d.Pairwise (· < ·)) (h:∀ w,w∈c↔w∈d):c=d:=
 srt_unique (hc.imp fun h=>by omega) (hd.imp fun h=>by omega) ((List.perm_ext_iff_of_nodup (hc.imp fun h=>by omega) (hd.imp fun h=>by omega)).2 h)
theorem part_of {g:Gr} (h:Good g) {v:Int} (hv:v∈g.vs) {L c:List Int} (hn:L.Nodup) (hL:∀ w,w∈L↔Reach g.es v w) (hp:c.Perm L) (hs:c.Pairwise (·≤·)):IsPart g v c:=by
 have hcn:c.Nodup:=hp.nodup_iff.2 hn
 refine ⟨?_,fun w=>?_⟩
 ·refine (List.Pairwise.and hs hcn).imp ?_
  rintro a b ⟨h1,h2⟩
  have:a≠b:=h2
  omega
 ·rw [hp.mem_iff,hL]
  exact ⟨fun hr=>⟨h.reach hv hr,hr⟩,fun hr=>hr.2⟩
def Seen (g:Gr) (k:Nat) (w:Int):Prop:=∃ u∈g.vs.take k,Reach g.es u w
theorem take_lt {l:List Int} (h:l.Pairwise (· < ·)) {k:Nat} (hk:k < l.length) {u:Int}:u∈l.take k↔u∈l∧u < l.getD k 0:=by
 rw [getD_lt _ _ hk]
 constructor
 ·intro hu
  obtain ⟨j,hj,rfl⟩:=List.getElem_of_mem hu
  rw [List.length_take] at hj
  rw [List.getElem_take]
  exact ⟨List.getElem_mem _,List.pairwise_iff_getElem.1 h j k (by omega) hk (by omega)⟩
 ·rintro ⟨hu,hlt⟩
  obtain ⟨j,hj,rfl⟩:=List.getElem_of_mem hu
  have hjk:j < k:=by
   rcases Nat.lt_trichotomy j k with h1 | h1 | h1
   ·exact h1
   ·subst h1;omega
   ·have:=List.pairwise_iff_getElem.1 h k j hk hj h1;omega
  rw [List.mem_take_iff_getElem]
  exact ⟨j,by omega,rfl⟩
theorem Seen.reach {g:Gr} {k:Nat} {u w:Int} (h:Seen g k u) (hr:Reach g.es u w):Seen g k w:=by
 obtain ⟨x,hx,hy⟩:=h
 exact ⟨x,hx,hy.trans hr⟩
theorem seen_succ {g:Gr} {k:Nat} (hk:k < g.vs.length) {w:Int}:Seen g (k+1) w↔Seen g k w∨Reach g.es (g.vs.getD k 0) w:=by
 unfold Seen
 rw [List.take_succ_eq_append_getElem hk,getD_lt _ _ hk]
 constructor
 ·rintro ⟨u,hu,hr⟩
  rw [List.mem_append,List.mem_singleton] at hu
  rcases hu with hu | rfl
  ·exact .inl ⟨u,hu,hr⟩
  ·exact .inr hr
 ·rintro (⟨u,hu,hr⟩ | hr)
  ·exact ⟨u,List.mem_append_left _ hu,hr⟩
  ·exact ⟨_,List.mem_append_right _ (List.mem_singleton.2 rfl),hr⟩
theorem seen_same {g:Gr} {k:Nat} (hk:k < g.vs.length) (hs:Seen g k (g.vs.getD k 0)) {w:Int}:Seen g (k+1) w↔Seen g k w:=by
 rw [seen_succ hk]
 exact ⟨fun h=>h.elim id hs.reach,.inl⟩
inductive PartsTo (g:Gr):Nat→List (List Int)→Prop
 | zero:PartsTo g 0 []
 | seen {k:Nat} {R:List (List Int)} (h:PartsTo g k R) (hk:k < g.vs.length) (hs:Seen g k (g.vs.getD k 0)):PartsTo g (k+1) R
 | lead {k:Nat} {R:List (List Int)} {c:List Int} (h:PartsTo g k R) (hk:k < g.vs.length) (hs:¬ Seen g k (g.vs.getD k 0)) (hc:IsPart g (g.vs.getD k 0) c):PartsTo g (k+1) (R++[c])
theorem PartsTo.len {g:Gr} {k:Nat} {R:List (List Int)} (h:PartsTo g k R):R.length≤k:=by
 induction h with
 | zero=>simp
 | seen _ _ _ ih=>omega
 | lead _ _ _ _ ih=>simp;omega
structure Srch (g:Gr) (n:Nat) (v:Int) (L:List Int) (k:Nat):Prop where
 nodup:L.Nodup
 reach:∀ w∈L,Reach g.es v w
 mem:v∈L
 done:∀ u∈L.take k,∀ w∈nbr g.es u,w∈L
theorem Srch.all {g:Gr} {n:Nat} {v:Int} {L:List Int} (h:Srch g n v L L.length):∀ w,w∈L↔Reach g.es v w:=by
 intro w
 refine ⟨h.reach w,fun hr=>?_⟩
 exact hr.closed (L:=fun w=>w∈L) h.mem fun u hu w hw=>h.done u (by rw [List.take_length];exact hu) w hw
theorem Srch.sub {g:Gr} (hg:Good g) {n:Nat} {v:Int} {L:List Int} {k:Nat} (h:Srch g n v L k) (hv:v∈g.vs):L.length≤g.vs.length:=by
 exact List.Nodup.length_le_of_subset h.nodup fun w hw=>hg.reach hv (h.reach w hw)
abbrev rowsL3 (rs:List (List Int)):List LV:=rs.map fun r=>.sl 0 r.length (us r)
structure SrchI (g:Gr) (v:Int) (L:List Int) (k:Nat) (x:Int) (j:Nat):Prop where
 nodup:L.Nodup
 reach:∀ w∈L,Reach g.es v w
 mem:v∈L
 done:∀ u∈L.take k,∀ w∈nbr g.es u,w∈L
 lt:k < L.length
 at':L.getD k 0=x
 some:∀ w∈(nbr g.es x).take j,w∈L
theorem Srch.start {g:Gr} {n:Nat} {v:Int} {L:List Int} {k:Nat} (h:Srch g n v L k) (hk:k < L.length):SrchI g v L k (L.getD k 0) 0:=
 ⟨h.nodup,h.reach,h.mem,h.done,hk,rfl,fun w hw=>by simp at hw⟩
theorem SrchI.skip {g:Gr} {v:Int} {L:List Int} {k:Nat} {x:Int} {j:Nat} (h:SrchI g v L k x j) (hj:j < (nbr g.es x).length) (hw:(nbr g.es x).getD j 0∈L):SrchI g v L k x (j+1):=by
 refine ⟨h.nodup,h.reach,h.mem,h.done,h.lt,h.at',fun w hw2=>?_⟩
 rw [List.take_succ_eq_append_getElem hj,List.mem_append,List.mem_singleton] at hw2
 rcases hw2 with hw2 | rfl
 ·exact h.some w hw2
 ·rwa [getD_lt _ _ hj] at hw
theorem SrchI.push {g:Gr} {v:Int} {L:List Int} {k:Nat} {x:Int} {j:Nat} (h:SrchI g v L k x j) (hj:j < (nbr g.es x).length) (hw:(nbr g.es x).getD j 0∉L):SrchI g v (L++[(nbr g.es x).getD j 0]) k x (j+1):=by
 have hx:x∈L:=by rw [← h.at',getD_lt _ _ h.lt];exact List.getElem_mem _
 refine ⟨?_,fun w hw2=>?_,List.mem_append_left _ h.mem,fun u hu w hw2=>?_,?_,?_,fun w hw2=>?_⟩
 ·rw [List.nodup_append]
  refine ⟨h.nodup,by simp,fun a ha b hb=>?_⟩
  rw [List.mem_singleton] at hb
  rintro rfl
  exact hw (hb ▸ ha)
 ·rw [List.mem_append,List.mem_singleton] at hw2
  rcases hw2 with hw2 | rfl
  ·exact h.reach w hw2
  ·exact .step (h.reach x hx) (by rw [getD_lt _ _ hj];exact List.getElem_mem _)
 ·rw [List.take_append_of_le_length (by have:=h.lt;omega)] at hu
  exact List.mem_append_left _ (h.done u hu w hw2)
 ·have:=h.lt;simp;omega
 ·rw [← h.at']
  have:=h.lt
  simp [List.getD_eq_getElem?_getD,List.getElem?_append_left this]
 ·rw [List.take_succ_eq_append_getElem hj,List.mem_append,List.mem_singleton] at hw2
  rw [getD_lt _ _ hj]
  rcases hw2 with hw2 | rfl
  ·exact List.mem_append_left _ (h.some w hw2)
  ·exact List.mem_append_right _ (List.mem_singleton.2 rfl)
theorem SrchI.finish {g:Gr} {n:Nat} {v:Int} {L:List Int} {k:Nat} {x:Int} {j:Nat} (h:SrchI g v L k x j) (hj:(nbr g.es x).length≤j):Srch g n v L (k+1):=by
 refine ⟨h.nodup,h.reach,h.mem,fun u hu w hw=>?_⟩
 rw [List.take_succ_eq_append_getElem h.lt,List.mem_append,List.mem_singleton] at hu
 rcases hu with hu | rfl
 ·exact h.done u hu w hw
 ·have hx:L[k]'h.lt=x:=(getD_lt _ _ h.lt).symm.trans h.at'
  rw [hx] at hw
  exact h.some w (by rw [List.take_of_length_le hj];exact hw)
theorem SrchI.len {g:Gr} (hg:Good g) {v:Int} {L:List Int} {k:Nat} {x:Int} {j:Nat} (h:SrchI g v L k x j) (hv:v∈g.vs):L.length≤g.vs.length:=
 List.Nodup.length_le_of_subset h.nodup fun w hw=>hg.reach hv (h.reach w hw)
def SeenI (es:List (List Int×LV)) (P:Int→Prop):Prop:=∀ v,(P v→(mget es [v]).getD (i 0)=i 1)∧(¬ P v→(mget es [v]).getD (i 0)=i 0)
theorem SeenI.step {es:List (List Int×LV)} {P P':Int→Prop} (h:SeenI es P) (w:Int) (hp:∀ v,P' v↔P v∨v=w):SeenI (mset es [w] (i 1)) P':=by
 intro v
 rw [mget_mset]
 by_cases hv:v=w
 ·subst hv
  simp only [if_true,Option.getD_some]
  exact ⟨fun _=>by trivial,fun h1=>absurd ((hp v).2 (.inr rfl)) h1⟩
 ·rw [if_neg (by simpa using hv),hp]
  exact ⟨fun h1=>(h v).1 (h1.resolve_right hv),fun h1=>(h v).2 fun h2=>h1 (.inl h2)⟩
theorem SeenI.congr {es:List (List Int×LV)} {P P':Int→Prop} (h:SeenI es P) (hp:∀ v,P' v↔P v):SeenI es P':=fun v=>by rw [hp];exact h v
def PtF (m ms:Nat) (es:List (List Int×LV)) (n:Nat) (g:Gr) (st:St) (j:Nat) (P:Int→Prop) (fr:Frm) (st2:St):Prop:=
 fr 4=.mp m∧fr 5=.mp ms∧fr 16=.sl 0 g.vs.length (us g.vs)∧fr 17=i g.vs.length∧fr 18=i j∧(m < ms∧ms < st2.next∧st.next≤m)∧st2.H m=.map false [.u32] es∧Keeps st st2∧(∃ es2,st2.H ms=.map false [.u32] es2∧SeenI es2 P)∧
  ∃ t R,fr 3=.sl t R.length (rowsL3 R)∧PartsTo g j R∧t≠0∧st.next≤t∧t < st2.next∧st2.H t=.own 22 1 R.length
def PtL (m ms:Nat) (es:List (List Int×LV)) (n:Nat) (g:Gr) (st:St) (j:Nat) (v:Int) (L:List Int) (fr:Frm) (st2:St):Prop:=
 PtF m ms es n g st j (fun w=>Seen g j w∨w∈L) fr st2∧∃ q,fr 8=.ms q 0 L.length∧st2.H q=.box 29 1 (us L)∧st.next≤q∧q < st2.next
theorem PtL.fr {m ms:Nat} {es:List (List Int×LV)} {n:Nat} {g:Gr} {st:St} {j:Nat} {v:Int} {L:List Int} {fr fr':Frm} {st2:St} (h:PtL m ms es n g st j v L fr st2) (h3:fr' 3=fr 3) (h4:fr' 4=fr 4) (h5:fr' 5=fr 5) (h8:fr' 8=fr 8) (h16:fr' 16=fr 16) (h17:fr' 17=fr 17) (h18:fr' 18=fr 18):PtL m ms es n g st j v L fr' st2:=by
 obtain ⟨⟨f4,f5,f16,f17,f18,a,b,c,d,t,R,f3,r⟩,q,f8,r2⟩:=h
 exact ⟨⟨h4.trans f4,h5.trans f5,h16.trans f16,h17.trans f17,h18.trans f18,a,b,c,d,t,R,h3.trans f3,r⟩,q,h8.trans f8,r2⟩
set_option maxHeartbeats 2000000 in
theorem Parts (g:Gr) (st:St) (hg:Good g) (hv:g.vs.length≤1000) (he:g.es.length≤1000):
 ACalls Tryz.prog 86 [.ag (grL g)] st fun r st'=>(∃ t R,r=.sl t R.length (rowsL3 R)∧PartsTo g g.vs.length R)∧Keeps st st':=by
 refine qO tabOk Tryz.func86 rfl rfl Tryz.ntmps86 (rs:=[.tmp 2]) rfl (by simp) ?_
 (repeat' (first | refine qS ?_ | (refine w_e [] ?_;intro J hJ;simp only [];simp [];(try (refine hJ _ _ ?_;clear hJ J;simp only [ak,reduceIte])))))
 refine qE (near g _ he) (by simp) ?_;rintro r s1 ⟨m,es,rfl,hm1,hm2,hM,hk1,hR⟩
 have hn1:=hk1.next
 simp only [new_next] at hn1 hm1
 have hG1:s1.H st.next=.box 25 2 (grL g):=by rw [hk1.H _ (by simp)];simp
 have hms:¬ st.next=s1.next:=by omega
 (repeat' (first | refine qS ?_ | refine qB ?_ | ((first | (refine w_e [] ?_;intro J hJ;simp only []) | (refine e_go ?_));simp [hG1,hms];(refine hJ _ _ ?_;clear hJ J;simp only [ak,reduceIte]))))
 obtain ⟨ms,hmse⟩:∃ ms,ms=s1.next:=⟨_,rfl⟩
 refine awp_posG fun hpos=>?_
 refine awp_own 3 22 1 (by simp) ?_
 refine qL (fun z fr st2=>∃ j:Nat,j≤g.vs.length∧z=g.vs.length - j∧PtF m ms es 0 g st j (Seen g j) fr st2) g.vs.length ?_ ?_
 ·refine ⟨0,by omega,by omega,by simp,by simp [hmse],by simp,by simp,by simp,⟨by omega,by simp;omega,by omega⟩,?_,?_,⟨[],by simp [hmse],fun v=>⟨fun h=>?_,fun _=>rfl⟩⟩,s1.next+1,[],by simp,.zero,by omega,by omega,by simp,by simp⟩
  ·have a1:¬ m=s1.next+1:=by omega
   have a2:¬ m=s1.next:=by omega
   simp [a1,a2,hM]
  ·exact (((Keeps.new _ _).trans hk1).trans (Keeps.new _ _)).trans (Keeps.new _ _)
  ·obtain ⟨u,hu,_⟩:=h;simp at hu
 rintro z fr st2 ⟨j,hj,rfl,f4,f5,f16,f17,f18,⟨hmm,hmn,hml⟩,hM2,hkp,⟨es2,hS,hSI⟩,t,R,f3,hPT,ht0,htl,htn,htH⟩ JJ hJJ
 by_cases hlt:j < g.vs.length
 rotate_left
 ·clear hJJ
  have hj':j=g.vs.length:=by omega
  rw [hj'] at hPT
  (repeat' (first | refine qS ?_ | (refine qX ?_;simp only [ak,reduceIte]) | (refine qR ?_;simp only [ak,reduceIte];simp [f3,f17,f18,hlt]) | (refine qC ?_;simp [f3,f17,f18,hlt]) | (refine w_e [] ?_;intro J hJ;simp only [];simp [f3,f17,f18,hlt];(refine hJ _ _ ?_;clear hJ J;simp only [ak,reduceIte]))))
  exact ⟨⟨t,R,⟨rfl,rfl,rfl⟩,hPT⟩,hkp⟩
 have hd:=qG g.vs j hlt
 have hw:=qN j (by omega)
 have hvin:g.vs.getD j 0∈g.vs:=by rw [getD_lt _ _ hlt];exact List.getElem_mem hlt
 have hsame:=@seen_same g j hlt
 have hsucc:=@seen_succ g j hlt
 have hps:=fun hs=>PartsTo.seen hPT hlt hs
 have hpl:=fun (c:List Int) hs hc=>PartsTo.lead (c:=c) hPT hlt hs hc
 generalize hx:g.vs.getD j 0=v at *
 by_cases hs:Seen g j v
 ·have hg1:=(hSI v).1 hs
  (repeat' (first | refine qS ?_ | refine qB ?_ | (refine qK ?_;simp only [ak,reduceIte]) | (refine qX ?_;simp only [ak,reduceIte]) | (refine qC ?_;simp [f5,f16,f17,f18,hlt,hd,hw,hS,hg1]) | (refine w_e [] ?_;intro J hJ;simp only [];simp [f5,f16,f17,f18,hlt,hd,hw,hS,hg1];(refine hJ _ _ ?_;clear hJ J;simp only [ak,reduceIte]))))
  exact hJJ (g.vs.length - (j+1)) _ _ (by omega) ⟨j+1,by omega,rfl,by simp [f4],by simp [f5],by simp [f16],by simp [f17],by simp,⟨hmm,hmn,hml⟩,hM2,hkp,⟨es2,hS,hSI.congr fun w=>hsame hs⟩,t,R,by simp [f3],hps hs,ht0,htl,htn,htH⟩
 have hg1:=(hSI v).2 hs
 (repeat' (first | refine qS ?_ | (refine w_e [] ?_;intro J hJ;simp only [];simp [f5,f16,f17,f18,hlt,hd,hw,hS,hg1];(refine hJ _ _ ?_;clear hJ J;simp only [ak,reduceIte]))))
 refine qC ?_;simp [hlt]
 (repeat' (first | refine qS ?_ | refine qB ?_ | (refine qK ?_;simp only [ak,reduceIte]) | (refine w_e [] ?_;intro J hJ;simp only [];simp [f5,f16,f17,f18,hlt,hd,hw,hS,hg1];(refine hJ _ _ ?_;clear hJ J;simp only [ak,reduceIte]))))
 refine qC ?_;simp
 refine qK ?_;simp only [ak,reduceIte]
 have hne1:¬ m=ms:=by omega
 have hne2:¬ t=ms:=fun h=>by rw [h,hS] at htH;cases htH
 refine qS ?_;(refine w_e [] ?_;intro J hJ;simp only [];simp [f5,hS];(refine hJ _ _ ?_;clear hJ J;simp only [ak,reduceIte]))
 refine qS ?_;(refine w_e [29] ?_;intro J hJ;simp only [];simp [];(refine hJ _ _ ?_;clear hJ J;simp only [ak,reduceIte]))
 refine qS ?_
 refine awp_cut1 (fun fr st2=>∃ L,Srch g j v L L.length∧PtL m ms es 0 g st j v L fr st2) ?_ ?_
 ·clear hJJ
  (repeat' (first | refine qS ?_ | refine qB ?_ | (refine w_e [] ?_;intro J hJ;simp only [];simp [];(refine hJ _ _ ?_;clear hJ J;simp only [ak,reduceIte]))))
  refine qL (fun z fr st2=>∃ k L,k≤L.length∧z=g.vs.length - k∧fr 9=i (k:Nat)∧Srch g j v L k∧PtL m ms es 0 g st j v L fr st2) g.vs.length ?_ ?_
  ·refine ⟨0,[v],by simp,by simp,by simp,⟨by simp,fun w hw=>?_,by simp,fun u hu=>by simp at hu⟩,⟨by simp [f4],by simp [f5],by simp [f16],by simp [f17],by simp [f18],⟨hmm,by simp;omega,hml⟩,?_,(by repeat (first | exact hkp | (refine Keeps.trans ?_ (Keeps.new _ _)) | (refine Keeps.set ?_ (by have:=hkp.next;omega) _))),⟨_,?_,hSI.step v fun w=>?_⟩,t,R,by simp [f3],hPT,ht0,htl,by simp;omega,?_⟩,st2.next,by simp,by simp,by have:=hkp.next;omega,by simp⟩
   ·rw [List.mem_singleton] at hw;subst hw;exact .refl
   ·have a2:¬ m=st2.next:=by omega
    simp [a2,hne1,hM2]
   ·have a2:¬ ms=st2.next:=by omega
    simp [a2]
   ·rw [List.mem_singleton]
   ·have a2:¬ t=st2.next:=by omega
    simp [a2,hne2,htH]
  clear f3 f4 f5 f16 f17 f18 hmn hM2 hkp hS hSI hg1 htn htH hne2 ht0 htl hPT hps hpl t R es2 st2 fr
  rintro z fr st2 ⟨k,L,hkL,rfl,f9,hSr,hP⟩ J2 hJ2
  obtain ⟨⟨f4,f5,f16,f17,f18,⟨-,hmn,-⟩,hM2,hkp,⟨es2,hS,hSI⟩,t,R,f3,hPT,ht0,htl,htn,htH⟩,q,f8,hq,hql,hqn⟩:=id hP
  have hLl:=hSr.sub hg hvin
  by_cases hkl:k < L.length
  rotate_left
  ·clear hJ2
   have hk':k=L.length:=by omega
   rw [hk'] at hSr
   (repeat' (first | refine qS ?_ | (refine qX ?_;simp only [ak,reduceIte]) | (refine qC ?_;simp [f8,f9,hkl]) | (refine w_e [] ?_;intro J hJ;simp only [];simp [f8,f9,hkl];(refine hJ _ _ ?_;clear hJ J;simp only [ak,reduceIte]))))
   exact ⟨by trivial,L,hSr,⟨by simp [f4],by simp [f5],by simp [f16],by simp [f17],by simp [f18],⟨hmm,hmn,hml⟩,hM2,hkp,⟨es2,hS,hSI⟩,t,R,by simp [f3],hPT,ht0,htl,htn,htH⟩,q,by simp [f8],hq,hql,hqn⟩
  have hdL:=qG L k hkl
  have hst:=hSr.start hkl
  have hwk:=qN k (by omega)
  generalize hxx:L.getD k 0=x at *
  have hyl:(nbr g.es x).length≤2 * g.es.length:=flat_len (nbr1 x) (nbr1_len x) g.es
  obtain ⟨X,hX,hXl⟩:∃ X,(mget es [x]).getD .nil=X∧((X=.nil∧nbr g.es x=[])∨∃ t',X=.sl t' (nbr g.es x).length (us (nbr g.es x))):=by
   rcases hR.cases x with ⟨h1,h2⟩ | ⟨t',h1⟩
   ·exact ⟨_,h1,.inl ⟨rfl,h2⟩⟩
   ·exact ⟨_,h1,.inr ⟨t',rfl⟩⟩
  (repeat (refine qS ?_));(refine w_e [] ?_;intro J hJ;simp only [];simp [f8,f9,hkl];(refine hJ _ _ ?_;clear hJ J;simp only [ak,reduceIte]))
  refine qC ?_;simp [hkl]
  refine qK ?_;simp only [ak,reduceIte]
  refine qS ?_;refine qB ?_;refine qS ?_
  refine awp_cut1 (fun fr st2=>fr 9=i k∧fr 41=X∧fr 42=i (nbr g.es x).length∧fr 43=i (0:Nat)∧PtL m ms es 0 g st j v L fr st2) ?_ ?_
  ·clear hJ2
   rcases hXl with ⟨rfl,hy⟩ | ⟨t',rfl⟩
   ·(repeat' (refine w_e [] ?_;intro J hJ;simp only [];simp [f4,f8,f9,hkl,hdL,hq,hM2,hX];(refine hJ _ _ ?_;clear hJ J;simp only [ak,reduceIte])))
    exact ⟨by trivial,by simp [f9],by simp,by simp [hy],by simp,hP.fr (by simp) (by simp) (by simp) (by simp) (by simp) (by simp) (by simp)⟩
   ·(repeat' (refine w_e [] ?_;intro J hJ;simp only [];simp [f4,f8,f9,hkl,hdL,hq,hM2,hX];(refine hJ _ _ ?_;clear hJ J;simp only [ak,reduceIte])))
    exact ⟨by trivial,by simp [f9],by simp,by simp,by simp,hP.fr (by simp) (by simp) (by simp) (by simp) (by simp) (by simp) (by simp)⟩
  clear f3 f4 f5 f8 f9 f16 f17 f18 hmn hM2 hkp hS hSI htn htH ht0 htl hPT hP hq hql hqn q t R es2 st2 fr
  rintro fr st2 ⟨f9,f41,f42,f43,hP⟩
  refine qB ?_
  refine qL (fun z fr st2=>∃ jj L,jj≤(nbr g.es x).length∧z=(nbr g.es x).length - jj∧fr 9=i k∧fr 41=X∧fr 42=i (nbr g.es x).length∧fr 43=i (jj:Nat)∧SrchI g v L k x jj∧PtL m ms es 0 g st j v L fr st2) (nbr g.es x).length ?_ ?_
  ·exact ⟨0,L,by omega,by omega,f9,f41,f42,f43,hst,hP⟩
  clear f9 f41 f42 f43 hP hst hSr hkL hkl hLl hdL hxx L fr st2
  rintro z fr st2 ⟨jj,L,hjj,rfl,f9,f41,f42,f43,hSr,hP⟩ J3 hJ3
  obtain ⟨⟨f4,f5,f16,f17,f18,⟨-,hmn,-⟩,hM2,hkp,⟨es2,hS,hSI⟩,t,R,f3,hPT,ht0,htl,htn,htH⟩,q,f8,hq,hql,hqn⟩:=id hP
  have hLl:=hSr.len hg hvin
  by_cases hjl:jj < (nbr g.es x).length
  rotate_left
  ·clear hJ3
   have hkl:=hSr.lt
   (repeat' (first | refine qS ?_ | (refine qX ?_;simp only [ak,reduceIte]) | (refine qC ?_;simp [f42,f43,hjl,f9,hwk]) | (refine w_e [] ?_;intro J hJ;simp only [];simp [f42,f43,hjl,f9,hwk];(refine hJ _ _ ?_;clear hJ J;simp only [ak,reduceIte]))))
   exact hJ2 (g.vs.length - (k+1)) _ _ (by omega) ⟨k+1,L,by omega,rfl,by simp,hSr.finish (by omega),hP.fr (by simp) (by simp) (by simp) (by simp) (by simp) (by simp) (by simp)⟩
  clear hJ2
  have hdy:=qG (nbr g.es x) jj hjl
  have hwj:=qN jj (by omega)
  have hXs:∃ t',X=.sl t' (nbr g.es x).length (us (nbr g.es x)):=by
   rcases hXl with ⟨_,hy⟩ | h
   ·rw [hy] at hjl;simp at hjl
   ·exact h
  obtain ⟨t',hXe⟩:=hXs
  rw [hXe] at f41
  have hskip:=hSr.skip hjl
  have hpush:=hSr.push hjl
  have hwm:(nbr g.es x).getD jj 0∈nbr g.es x:=by rw [getD_lt _ _ hjl];exact List.getElem_mem _
  generalize hwx:(nbr g.es x).getD jj 0=w at *
  by_cases hwL:w∈L
  ·have hg2:=(hSI w).1 (.inr hwL)
   (repeat' (first | refine qS ?_ | refine qB ?_ | (refine qK ?_;simp only [ak,reduceIte]) | (refine qC ?_;simp [f5,f41,f42,f43,hjl,hdy,hS,hg2,hwj]) | (refine w_e [] ?_;intro J hJ;simp only [];simp [f5,f41,f42,f43,hjl,hdy,hS,hg2,hwj];(refine hJ _ _ ?_;clear hJ J;simp only [ak,reduceIte]))))
   exact hJ3 ((nbr g.es x).length - (jj+1)) _ _ (by omega) ⟨jj+1,L,by omega,rfl,by simp [f9],by simp [f41,hXe],by simp [f42],by simp,hskip hwL,hP.fr (by simp) (by simp) (by simp) (by simp) (by simp) (by simp) (by simp)⟩
  have hns:¬ (Seen g j w∨w∈L):=by
   rintro (h | h)
   ·have hxL:x∈L:=by rw [← hSr.at',getD_lt _ _ hSr.lt];exact List.getElem_mem _
    exact hs (h.reach ((Reach.step .refl (nbr_symm hwm)).trans (hSr.reach x hxL).symm))
   ·exact hwL h
  have hg2:=(hSI w).2 hns
  have b1:¬ q=ms:=fun h=>by rw [h,hS] at hq;cases hq
  have b2:¬ q=st2.next:=by omega
  (repeat' (first | refine qS ?_ | refine qB ?_ | (refine qK ?_;simp only [ak,reduceIte]) | (refine qC ?_;simp [f5,f8,f41,f42,f43,hjl,hdy,hS,hg2,hwj,hq,b1,b2]) | (refine w_e [] ?_;intro J hJ;simp only [];simp [f5,f8,f41,f42,f43,hjl,hdy,hS,hg2,hwj,hq,b1,b2];(repeat refine ca ?_);(refine hJ _ _ ?_;clear hJ J;simp only [ak,reduceIte]))))
  have b3:¬ m=q:=fun h=>by rw [← h,hM2] at hq;cases hq
  have b4:¬ m=st2.next:=by omega
  have b5:¬ m=st2.next+1:=by omega
  have b6:¬ ms=q:=fun h=>b1 h.symm
  have b7:¬ ms=st2.next:=by omega
  have b8:¬ ms=st2.next+1:=by omega
  have b9:¬ t=ms:=fun h=>by rw [h,hS] at htH;cases htH
  have c1:¬ t=q:=fun h=>by rw [h,hq] at htH;cases htH
  have c2:¬ t=st2.next:=by omega
  have c3:¬ t=st2.next+1:=by omega
  refine hJ3 ((nbr g.es x).length - (jj+1)) _ _ (by omega) ⟨jj+1,L++[w],by omega,rfl,by simp [f9],by simp [f41,hXe],by simp [f42],by simp,hpush hwL,⟨by simp [f4],by simp [f5],by simp [f16],by simp [f17],by simp [f18],⟨hmm,by simp;omega,hml⟩,by simp [hne1,b3,b4,b5,hM2],(by repeat (first | exact hkp | (refine Keeps.trans ?_ (Keeps.new _ _)) | (refine Keeps.set ?_ (by have:=hkp.next;omega) _))),⟨_,by simp [b6,b7,b8],hSI.step w fun z=>?_⟩,t,R,by simp [f3],hPT,ht0,htl,by simp;omega,by simp [b9,c1,c2,c3,htH]⟩,st2.next+1,by simp,by simp,by have:=hkp.next;omega,by simp⟩
  rw [List.mem_append,List.mem_singleton]
  exact or_assoc.symm
 clear f3 f4 f5 f16 f17 f18 hmn hM2 hkp hS hSI hg1 htn htH hne2 ht0 htl hPT hps hpl t R es2 st2 fr
 rintro fr st2 ⟨L,hSr,⟨f4,f5,f16,f17,f18,⟨-,hmn,-⟩,hM2,hkp,⟨es2,hS,hSI⟩,t,R,f3,hPT,ht0,htl,htn,htH⟩,q,f8,hq,hql,hqn⟩
 have hpl:=fun (c:List Int) hs hc=>PartsTo.lead (c:=c) hPT hlt hs hc
 rw [hx] at hpl
 have hLl:=hSr.sub hg hvin
 have hRl:=hPT.len
 have b1:¬ q=ms:=fun h=>by rw [h,hS] at hq;cases hq
 have b3:¬ m=q:=fun h=>by rw [← h,hM2] at hq;cases hq
 have b6:¬ ms=q:=fun h=>b1 h.symm
 have c1:¬ t=q:=fun h=>by rw [h,hq] at htH;cases htH
 (repeat' (first | refine qS ?_ | (refine w_e [] ?_;intro J hJ;simp only [];simp [f8])))
 refine qE (SortU L q st2 (by omega) hqn hq) (by simp [f8]) ?_;rintro r st' ⟨c,hc,hcp,hcs,hof⟩
 have hcl:=hcp.length_eq
 have hnx:=hof.1
 have hM3:=(hof.2 m b3 (by omega)).trans hM2
 have hS3:=(hof.2 ms b6 (by omega)).trans hS
 have htH3:=(hof.2 t c1 htn).trans htH
 have hkp3:Keeps st st':=⟨Nat.le_trans hkp.next hnx,fun l hl=>(hof.2 l (by omega) (by have:=hkp.next;omega)).trans (hkp.H l hl)⟩
 (refine e_go ?_;simp [];(refine hJ _ _ ?_;clear hJ J;simp only [ak,reduceIte]))
 refine awp_freeze 8 (l:=q) (n:=L.length) (by simp [f8]) hc (by simp [hcl]) ?_
 have htk:(us c).take (L.length * 1)=us c:=by rw [List.take_of_length_le (by simp [hcl])]
 rw [htk]
 have d1:¬ t=st'.next:=by omega
 have d2:¬ t=st'.next+1:=by omega
 have d3:¬ m=st'.next:=by omega
 have d4:¬ m=st'.next+1:=by omega
 have d5:¬ ms=st'.next:=by omega
 have d6:¬ ms=st'.next+1:=by omega
 have hmt:¬ m=t:=fun h=>by rw [h,htH3] at hM3;cases hM3
 have hmst:¬ ms=t:=fun h=>by rw [h,htH3] at hS3;cases hS3
 (repeat' (refine w_e [] ?_;intro J hJ;simp only [];simp [f3,f18,hw,htH3,ht0,c1,d1,d2];(repeat refine ca ?_);(refine hJ _ _ ?_;clear hJ J;simp only [ak,reduceIte])))
 refine hJJ (g.vs.length - (j+1)) _ _ (by omega) ⟨j+1,by omega,rfl,by simp [f4],by simp [f5],by simp [f16],by simp [f17],by simp,⟨hmm,by simp;omega,hml⟩,by simp [hmt,b3,d3,d4,hM3],?_,⟨es2,by simp [hmst,b6,d5,d6,hS3],hSI.congr fun w=>?_⟩,st'.next+1,R++[c],by simp [hcl],hpl c hs (part_of hg hvin hSr.nodup hSr.all hcp hcs),by omega,by omega,by simp,by simp⟩
 ·(repeat (first | exact hkp3 | (refine Keeps.trans ?_ (Keeps.new _ _)) | (refine Keeps.set ?_ (by have:=hkp.next;omega) _)))
 ·rw [hsucc,hSr.all]
theorem acalls_sl0 {P:Program} {f:FuncId} {args:List LV} {st:St} {Q:LV→St→Prop} (h:ACalls P f args st fun r st'=>∃ t n cs,r=.sl t n cs∧Q (.sl 0 n cs) st'):ACalls P f args st Q:=by
 refine ⟨h.1,fun w g vs hi hr=>(h.2 w g vs hi hr).mono ?_⟩
 rintro x w' ⟨v,r,st',g',rfl,⟨t,n,cs,rfl,hq⟩,hrep,hi',he⟩
 refine ⟨v,_,st',g',rfl,hq,?_,hi',he⟩
 simp only [Rep] at hrep ⊢
 obtain ⟨A,cap,h1,h2,h3,h4,h5⟩:=hrep
 exact ⟨A,cap,h1,h2,h3,fun h=>absurd rfl h,h5⟩
def InI (es:List (List Int×LV)) (S:List Int):Prop:=∀ v,(mget es [v]).getD (bb false)=bb (decide (v∈S))
theorem InI.step {es:List (List Int×LV)} {S:List Int} (h:InI es S) (w:Int):InI (mset es [w] (bb true)) (S++[w]):=by
 intro v
 rw [mget_mset]
 by_cases hv:v=w
 ·subst hv;simp
 ·rw [if_neg (by simpa using hv),h v];simp [hv]
theorem InI.congr {es:List (List Int×LV)} {S S':List Int} (h:InI es S) (hs:∀ v,v∈S'↔v∈S):InI es S':=fun v=>by
 rw [h v,show decide (v∈S')=decide (v∈S) from decide_eq_decide.2 (hs v)]
structure Flood (g:Gr) (v:Int) (S:List Int):Prop where
 nodup:S.Nodup
 mem:v∈S
 reach:∀ w∈S,Reach g.es v w
theorem Flood.len {g:Gr} (hg:Good g) {v:Int} (hv:v∈g.vs) {S:List Int} (h:Flood g v S):S.length≤g.vs.length:=
 List.Nodup.length_le_of_subset h.nodup fun w hw=>hg.reach hv (h.reach w hw)
theorem Flood.push {g:Gr} {v:Int} {S:List Int} (h:Flood g v S) {x:Ed} (hx:x∈g.es) {u w:Int} (hu:u∈S) (hw:w∉S) (hxw:(x.a=u∧x.b=w)∨(x.b=u∧x.a=w)):Flood g v (S++[w]):=by
 refine ⟨?_,List.mem_append_left _ h.mem,fun z hz=>?_⟩
 ·rw [List.nodup_append]
  refine ⟨h.nodup,by simp,fun a ha b hb=>?_⟩
  rw [List.mem_singleton] at hb
  rintro rfl
  exact hw (hb ▸ ha)
 ·rw [List.mem_append,List.mem_singleton] at hz
  rcases hz with hz | rfl
  ·exact h.reach z hz
  ·exact .step (h.reach u hu) (mem_nbr.2 ⟨x,hx,hxw⟩)
def Even (es:List Ed) (S:List Int):Prop:=∀ x∈es,(x.a∈S↔x.b∈S)
theorem Flood.part {g:Gr} (hg:Good g) {v:Int} {S:List Int} (h:Flood g v S) (he:Even g.es S):IsPart g v (g.vs.filter fun w=>decide (w∈S)):=by
 refine ⟨hg.rise.filter _,fun w=>?_⟩
 rw [List.mem_filter,decide_eq_true_eq]
 refine ⟨fun hw=>⟨hw.1,h.reach w hw.2⟩,fun hw=>⟨hw.1,?_⟩⟩
 refine hw.2.closed (L:=fun w=>w∈S) h.mem fun u hu w hw=>?_
 obtain ⟨x,hx,⟨rfl,rfl⟩ | ⟨rfl,rfl⟩⟩:=mem_nbr.1 hw
 ·exact (he x hx).1 hu
 ·exact (he x hx).2 hu
def RpI (ms:Nat) (g:Gr) (st:St) (S:List Int) (fr:Frm) (st2:St):Prop:=
 fr 2=.pt st.next 0∧fr 5=.mp ms∧st.next < ms∧ms < st2.next∧Keeps st st2∧st2.H st.next=.box 25 2 (grL g)∧∃ es,st2.H ms=.map false [.u32] es∧InI es S
theorem RpI.fr {ms:Nat} {g:Gr} {st:St} {S:List Int} {fr fr':Frm} {st2:St} (h:RpI ms g st S fr st2) (h2:fr' 2=fr 2) (h5:fr' 5=fr 5):RpI ms g st S fr' st2:=
 ⟨h2.trans h.1,h5.trans h.2.1,h.2.2⟩
theorem ref_Part (g:Gr) (v:Int) (st:St) (hg:Good g) (hv:g.vs.length≤1000) (he:g.es.length≤1000) (hvin:v∈g.vs):
 ACalls Tryz.prog 91 [.ag (grL g),u v] st fun r st'=>(∃ c,r=.sl 0 c.length (us c)∧IsPart g v c)∧Keeps st st':=by
 refine acalls_sl0 ?_
 have hel:=eds_length g.es
 refine qO tabOk Tryz.func91 rfl rfl Tryz.ntmps91 (rs:=[.tmp 4]) rfl (by simp) ?_
 (repeat' (first | refine qS ?_ | refine qB ?_ | (refine w_e [] ?_;intro J hJ;simp only [];simp [];(refine hJ _ _ ?_;clear hJ J;simp only [ak,reduceIte]))))
 obtain ⟨ms,hms⟩:∃ ms,ms=st.next+1:=⟨_,rfl⟩
 refine qL (fun z fr st2=>∃ (gr:Bool) (S:List Int),z=(if gr=true then g.vs.length+1 - S.length else 0)∧fr 6=bb gr∧Flood g v S∧(gr=false→Even g.es S)∧RpI ms g st S fr st2) g.vs.length ?_ ?_
 ·refine ⟨true,[v],by simp,by simp,⟨by simp,by simp,fun w hw=>?_⟩,fun h=>absurd h (by simp),by simp,by simp [hms],by omega,by simp [hms],?_,by simp,_,by simp [hms];rfl,fun w=>?_⟩
  ·rw [List.mem_singleton] at hw;subst hw;exact .refl
  ·(repeat (first | exact Keeps.refl _ | (refine Keeps.trans ?_ (Keeps.new _ _)) | (refine Keeps.set ?_ (by omega) _)))
  ·by_cases hw:w=v
   ·subst hw;simp [mset,mget]
   ·simp [mset,mget,hw]
 rintro z fr st2 ⟨gr,S,rfl,f6,hF,hE,hI⟩ JJ hJJ
 cases gr
 ·clear hJJ
  obtain ⟨f2,f5,hm1,hm2,hkp,hG,es,hM,hIn⟩:=hI
  have hpt:=hF.part hg (hE rfl)
  (repeat' (first | refine qS ?_ | refine qB ?_ | (refine qX ?_;simp only [ak,reduceIte]) | (refine qC ?_;simp [f6,f2,hG]) | (refine w_e [] ?_;intro J hJ;simp only [];simp [f6,f2,hG];(refine hJ _ _ ?_;clear hJ J;simp only [ak,reduceIte]))))
  refine awp_own 9 29 1 (by simp) ?_
  have hqq:∀ k,(g.vs.take (k+1)).filter (fun w=>decide (w∈S))=if k < g.vs.length then (if g.vs.getD k 0∈S then (g.vs.take k).filter (fun w=>decide (w∈S))++[g.vs.getD k 0] else (g.vs.take k).filter (fun w=>decide (w∈S))) else g.vs.filter (fun w=>decide (w∈S)):=by
   intro k
   by_cases hk:k < g.vs.length
   ·rw [if_pos hk,List.take_succ_eq_append_getElem hk,List.filter_append,getD_lt _ _ hk]
    by_cases h:g.vs[k]∈S<;>simp [h]
   ·rw [if_neg hk,List.take_of_length_le (by omega)]
  refine qL (fun z fr st3=>∃ k:Nat,k≤g.vs.length∧z=g.vs.length - k∧fr 5=.mp ms∧fr 40=.sl 0 g.vs.length (us g.vs)∧fr 41=i g.vs.length∧fr 42=i k∧st3.H ms=.map false [.u32] es∧ms < st3.next∧∃ t,fr 9=.sl t ((g.vs.take k).filter fun w=>decide (w∈S)).length (us ((g.vs.take k).filter fun w=>decide (w∈S)))∧OwnAt t st ((g.vs.take k).filter fun w=>decide (w∈S)) st3) g.vs.length ?_ ?_
  ·have a1:¬ ms=st2.next:=by omega
   exact ⟨0,by omega,by omega,by simp [f5],by simp,by simp,by simp,by simp [a1,hM],by simp;omega,st2.next,by simp,by omega,by have:=hkp.next;omega,by simp,by simp,hkp.trans (Keeps.new _ _)⟩
  clear f2 f5 f6 hM hkp hG fr
  rintro z fr st3 ⟨k,hk,rfl,f5,f40,f41,f42,hM,hm3,t,f9,ht0,htl,htn,htH,hkp⟩ JJ hJJ
  by_cases hlt:k < g.vs.length
  rotate_left
  ·clear hJJ
   have hk':k=g.vs.length:=by omega
   rw [hk',List.take_length] at f9
   (repeat' (first | refine qS ?_ | (refine qX ?_;simp only [ak,reduceIte]) | (refine qR ?_;simp only [ak,reduceIte];simp [f9,f41,f42,hlt]) | (refine qC ?_;simp [f9,f41,f42,hlt]) | (refine w_e [] ?_;intro J hJ;simp only [];simp [f9,f41,f42,hlt];(refine hJ _ _ ?_;clear hJ J;simp only [ak,reduceIte]))))
   exact ⟨t,_,_,⟨rfl,rfl,rfl⟩,⟨_,⟨rfl,rfl⟩,hpt⟩,hkp⟩
  have hd:=qG g.vs k hlt
  have hw:=qN k (by omega)
  have hst:=hqq k
  rw [if_pos hlt] at hst
  have hle:=List.length_filter_le (fun w=>decide (w∈S)) (g.vs.take k)
  rw [List.length_take] at hle
  generalize hx:g.vs.getD k 0=x at *
  generalize hFF:(g.vs.take k).filter (fun w=>decide (w∈S))=F at *
  have hIx:=hIn x
  have ht2:¬ t=st3.next:=by omega
  by_cases hxS:x∈S
  ·rw [if_pos hxS] at hst
   rw [decide_eq_true hxS] at hIx
   (repeat' (first | refine qS ?_ | refine qB ?_ | (refine qK ?_;simp only [ak,reduceIte]) | (refine qC ?_;simp [f5,f9,f40,f41,f42,hlt,hd,hw,hM,hIx,htH,ht0,ht2]) | (refine w_e [] ?_;intro J hJ;simp only [];simp [f5,f9,f40,f41,f42,hlt,hd,hw,hM,hIx,htH,ht0,ht2];(repeat refine ca ?_);(refine hJ _ _ ?_;clear hJ J;simp only [ak,reduceIte]))))
   have a1:¬ ms=st3.next:=by omega
   have a2:¬ ms=st3.next+1:=by omega
   have a3:¬ ms=t:=fun h=>by rw [h,htH] at hM;cases hM
   exact hJJ (g.vs.length - (k+1)) _ _ (by omega) ⟨k+1,by omega,rfl,by simp [f5],by simp [f40],by simp [f41],by simp,by simp [a1,a2,a3,hM],by simp;omega,st3.next+1,by rw [hst];simp,by omega,by omega,by simp,by rw [hst];simp,(by repeat (first | exact hkp | (refine Keeps.trans ?_ (Keeps.new _ _)) | (refine Keeps.set ?_ (by have:=hkp.next;omega) _)))⟩
  ·rw [if_neg hxS] at hst
   rw [decide_eq_false hxS] at hIx
   (repeat' (first | refine qS ?_ | refine qB ?_ | (refine qK ?_;simp only [ak,reduceIte]) | (refine qC ?_;simp [f5,f9,f40,f41,f42,hlt,hd,hw,hM,hIx]) | (refine w_e [] ?_;intro J hJ;simp only [];simp [f5,f9,f40,f41,f42,hlt,hd,hw,hM,hIx];(refine hJ _ _ ?_;clear hJ J;simp only [ak,reduceIte]))))
   exact hJJ (g.vs.length - (k+1)) _ _ (by omega) ⟨k+1,by omega,rfl,by simp [f5],by simp [f40],by simp [f41],by simp,hM,hm3,t,by rw [hst];simp [f9],ht0,htl,htn,by rw [hst];exact htH,hkp⟩
 have hSl:=hF.len hg hvin
 obtain ⟨f2,f5,hm1,hm2,hkp,hG,es,hM,hIn⟩:=id hI
 (repeat' (first | refine qS ?_ | refine qB ?_ | (refine qK ?_;simp only [ak,reduceIte]) | (refine qC ?_;simp [f6,f2,hG]) | (refine w_e [] ?_;intro J hJ;simp only [];simp [f6,f2,hG];(refine hJ _ _ ?_;clear hJ J;simp only [ak,reduceIte]))))
 refine qL (fun z fr st2=>∃ (k:Nat) (gr:Bool) (S':List Int),k≤g.es.length∧z=g.es.length - k∧fr 6=bb gr∧fr 17=.sl 0 g.es.length (eds g.es)∧fr 18=i g.es.length∧fr 19=i k∧Flood g v S'∧(gr=false→Even (g.es.take k) S')∧(gr=true→S.length < S'.length)∧S.length≤S'.length∧RpI ms g st S' fr st2) g.es.length ?_ ?_
 ·exact ⟨0,false,S,by omega,by omega,by simp,by simp,by simp,by simp,hF,fun _ x hx=>by simp at hx,fun h=>absurd h (by simp),Nat.le_refl _,hI.fr (by simp) (by simp)⟩
 clear f2 f5 f6 hI hE hF hm1 hm2 hkp hG hM hIn es fr st2
 rintro z fr st2 ⟨k,gr,S',hk,rfl,f6,f17,f18,f19,hF,hE,hG2,hSS,hI⟩ J2 hJ2
 have hSl2:=hF.len hg hvin
 obtain ⟨f2,f5,hm1,hm2,hkp,hG,es,hM,hIn⟩:=id hI
 by_cases hlt:k < g.es.length
 rotate_left
 ·clear hJ2
  have hk':k=g.es.length:=by omega
  rw [hk',List.take_length] at hE
  (repeat' (first | refine qS ?_ | (refine qX ?_;simp only [ak,reduceIte]) | (refine qC ?_;simp [f18,f19,hlt]) | (refine w_e [] ?_;intro J hJ;simp only [];simp [f18,f19,hlt];(refine hJ _ _ ?_;clear hJ J;simp only [ak,reduceIte]))))
  refine hJJ (if gr=true then g.vs.length+1 - S'.length else 0) _ _ ?_ ⟨gr,S',rfl,by simp [f6],hF,hE,hI.fr (by simp) (by simp)⟩
  cases gr
  ·simp;omega
  ·have:=hG2 rfl;simp;omega
 clear hJJ
 have hd:=eds_drop g.es k hlt
 have hw:=qN k (by omega)
 have hk3:k * 3 < g.es.length * 3:=by omega
 have hxin:g.es.getD k ed0∈g.es:=by rw [List.getD_eq_getElem?_getD,List.getElem?_eq_getElem hlt];exact List.getElem_mem hlt
 have hEn:(gr=false→Even (g.es.take k) S')→((g.es.getD k ed0).a∈S'↔(g.es.getD k ed0).b∈S')→(gr=false→Even (g.es.take (k+1)) S'):=by
  intro h1 h2 h3 y hy
  rw [List.take_succ_eq_append_getElem hlt,List.mem_append,List.mem_singleton] at hy
  rcases hy with hy | rfl
  ·exact h1 h3 y hy
  ·rw [List.getD_eq_getElem?_getD,List.getElem?_eq_getElem hlt] at h2;exact h2
 generalize hx:g.es.getD k ed0=x at *
 obtain ⟨id,a,b⟩:=x
 simp only at hd hEn
 have hIa:=hIn a
 have hIb:=hIn b
 have a1:¬ ms=st2.next:=by omega
 have a2:¬ st2.next=ms:=by omega
 have a3:¬ st.next=st2.next:=by omega
 have a4:¬ st.next=ms:=by omega
 by_cases hab:(a∈S'↔b∈S')
 ·have hdd:decide (a∈S')=decide (b∈S'):=decide_eq_decide.2 hab
  rw [hdd] at hIa
  (repeat' (first | refine qS ?_ | refine qB ?_ | (refine qK ?_;simp only [ak,reduceIte]) | (refine qC ?_;simp [f5,f17,f18,f19,hlt,hd,hel,hw,hM,hIa,hIb,a1,a2]) | (refine w_e [] ?_;intro J hJ;simp only [];simp [f5,f17,f18,f19,hlt,hd,hel,hw,hM,hIa,hIb,a1,a2];(refine hJ _ _ ?_;clear hJ J;simp only [ak,reduceIte]))))
  exact hJ2 (g.es.length - (k+1)) _ _ (by omega) ⟨k+1,gr,S',by omega,rfl,by simp [f6],by simp [f17],by simp [f18],by simp,hF,hEn hE hab,hG2,hSS,by simp [f2],by simp [f5],hm1,by simp;omega,(by repeat (first | exact hkp | (refine Keeps.trans ?_ (Keeps.new _ _)) | (refine Keeps.set ?_ (by have:=hkp.next;omega) _))),by simp [a3,hG],es,by simp [a1,hM],hIn⟩
 ·have hdd:¬ decide (a∈S')=decide (b∈S'):=fun h=>hab (decide_eq_decide.1 h)
  have hIn2:=(hIn.step a).step b
  obtain ⟨S2,hS2,hF2,hl2⟩:∃ S2,(∀ z,z∈S2↔z∈S'++[a]++[b])∧Flood g v S2∧S'.length < S2.length:=by
   by_cases ha:a∈S'
   ·have hb:b∉S':=fun h=>hab ⟨fun _=>h,fun _=>ha⟩
    refine ⟨S'++[b],fun z=>?_,hF.push hxin ha hb (.inl ⟨rfl,rfl⟩),by simp⟩
    simp only [List.mem_append,List.mem_singleton]
    exact ⟨fun h=>h.elim (fun h=>.inl (.inl h)) .inr,fun h=>h.elim (fun h=>h.elim .inl (fun h=>.inl (h ▸ ha))) .inr⟩
   ·have hb:b∈S':=Classical.byContradiction fun h=>hab ⟨fun h1=>absurd h1 ha,fun h1=>absurd h1 h⟩
    refine ⟨S'++[a],fun z=>?_,hF.push hxin hb ha (.inr ⟨rfl,rfl⟩),by simp⟩
    simp only [List.mem_append,List.mem_singleton]
    exact ⟨fun h=>h.elim (fun h=>.inl (.inl h)) (fun h=>.inl (.inr h)),fun h=>h.elim (fun h=>h.elim .inl .inr) (fun h=>.inl (h ▸ hb))⟩
  have hIn3:=hIn2.congr hS2
  (repeat' (first | refine qS ?_ | refine qB ?_ | (refine qK ?_;simp only [ak,reduceIte]) | (refine qC ?_;simp [f5,f17,f18,f19,hlt,hd,hel,hw,hM,hIa,hIb,hdd,a1,a2]) | (refine w_e [] ?_;intro J hJ;simp only [];simp [f5,f17,f18,f19,hlt,hd,hel,hw,hM,hIa,hIb,hdd,a1,a2];(refine hJ _ _ ?_;clear hJ J;simp only [ak,reduceIte]))))
  exact hJ2 (g.es.length - (k+1)) _ _ (by omega) ⟨k+1,true,S2,by omega,rfl,by simp,by simp [f17],by simp [f18],by simp,hF2,fun h=>absurd h (by simp),fun _=>by omega,by omega,by simp [f2],by simp [f5],hm1,by simp;omega,(by repeat (first | exact hkp | (refine Keeps.trans ?_ (Keeps.new _ _)) | (refine Keeps.set ?_ (by have:=hkp.next;omega) _))),by simp [a3,a4,hG],_,by simp,hIn3⟩
theorem IsPart.seen {g:Gr} (hg:Good g) {k:Nat} (hk:k < g.vs.length) {x:Int} {c:List Int} (h:IsPart g (g.vs.getD k 0) (x::c)):Seen g k (g.vs.getD k 0)↔x≠g.vs.getD k 0:=by
 have hvin:g.vs.getD k 0∈g.vs:=by rw [getD_lt _ _ hk];exact List.getElem_mem hk
 obtain ⟨h1,h2⟩:=h
 have hmin:∀ w∈x::c,x≤w:=by
  intro w hw
  rw [List.mem_cons] at hw
  rcases hw with rfl | hw
  ·omega
  ·have:=(List.pairwise_cons.1 h1).1 w hw;omega
 have hxin:=(h2 x).1 (List.mem_cons_self ..)
 constructor
 ·rintro ⟨u,hu,hr⟩ he
  obtain ⟨k1,k2⟩:=(take_lt hg.rise hk).1 hu
  have:=hmin u ((h2 u).2 ⟨k1,hr.symm⟩)
  omega
 ·intro hne
  have:=hmin _ ((h2 _).2 ⟨hvin,.refl⟩)
  exact ⟨x,(take_lt hg.rise hk).2 ⟨hxin.1,by omega⟩,hxin.2.symm⟩
theorem ref_Parts (g:Gr) (st:St) (hg:Good g) (hv:g.vs.length≤1000) (he:g.es.length≤1000):
 ACalls Tryz.prog 58 [.ag (grL g)] st fun r st'=>(∃ t R,r=.sl t R.length (rowsL3 R)∧PartsTo g g.vs.length R)∧Keeps st st':=by
 refine qO tabOk Tryz.func58 rfl rfl Tryz.ntmps58 (rs:=[.tmp 2]) rfl (by simp) ?_
 (repeat' (first | refine qS ?_ | refine qB ?_ | (refine w_e [] ?_;intro J hJ;simp only [];simp [];(refine hJ _ _ ?_;clear hJ J;simp only [ak,reduceIte]))))
 refine awp_posG fun hpos=>?_
 refine awp_own 3 22 1 (by simp) ?_
 refine qL (fun z fr st2=>∃ j:Nat,j≤g.vs.length∧z=g.vs.length - j∧fr 1=.pt st.next 0∧fr 8=.sl 0 g.vs.length (us g.vs)∧fr 9=i g.vs.length∧fr 10=i j∧st.next < st2.next∧st2.H st.next=.box 25 2 (grL g)∧Keeps st st2∧∃ t R,fr 3=.sl t R.length (rowsL3 R)∧PartsTo g j R∧t≠0∧st.next < t∧t < st2.next∧st2.H t=.own 22 1 R.length) g.vs.length ?_ ?_
 ·refine ⟨0,by omega,by omega,by simp,by simp,by simp,by simp,by simp;omega,by simp,?_,st.next+1,[],by simp,.zero,by omega,by omega,by simp,by simp⟩
  (repeat (first | exact Keeps.refl _ | (refine Keeps.trans ?_ (Keeps.new _ _)) | (refine Keeps.set ?_ (by omega) _)))
 rintro z fr st2 ⟨j,hj,rfl,f1,f8,f9,f10,hsn,hG,hkp,t,R,f3,hPT,ht0,htl,htn,htH⟩ JJ hJJ
 by_cases hlt:j < g.vs.length
 rotate_left
 ·clear hJJ
  have hj':j=g.vs.length:=by omega
  rw [hj'] at hPT
  (repeat' (first | refine qS ?_ | (refine qX ?_;simp only [ak,reduceIte]) | (refine qR ?_;simp only [ak,reduceIte];simp [f3,f9,f10,hlt]) | (refine qC ?_;simp [f3,f9,f10,hlt]) | (refine w_e [] ?_;intro J hJ;simp only [];simp [f3,f9,f10,hlt];(refine hJ _ _ ?_;clear hJ J;simp only [ak,reduceIte]))))
  exact ⟨⟨t,R,⟨rfl,rfl,rfl⟩,hPT⟩,hkp⟩
 have hd:=qG g.vs j hlt
 have hw:=qN j (by omega)
 have hvin:g.vs.getD j 0∈g.vs:=by rw [getD_lt _ _ hlt];exact List.getElem_mem hlt
 have hps:=fun hs=>PartsTo.seen hPT hlt hs
 have hpl:=fun (c:List Int) hs hc=>PartsTo.lead (c:=c) hPT hlt hs hc
 have hsn2:=fun x c=>@IsPart.seen g hg j hlt x c
 have hRl:=hPT.len
 generalize hx:g.vs.getD j 0=v at *
 (repeat' (first | refine qS ?_ | refine qB ?_ | (refine qK ?_;simp only [ak,reduceIte]) | (refine qC ?_;simp [f1,f8,f9,f10,hlt,hd,hG]) | (refine w_e [] ?_;intro J hJ;simp only [];simp [f1,f8,f9,f10,hlt,hd,hG];(try (refine hJ _ _ ?_;clear hJ J;simp only [ak,reduceIte])))))
 refine qE (ref_Part g v st2 hg hv he hvin) (by simp [f1,hG]) ?_;rintro r s2 ⟨⟨c,rfl,hc⟩,hk2⟩
 have hn2:=hk2.next
 have hG2:=(hk2.H _ hsn).trans hG
 have htH2:=(hk2.H _ htn).trans htH
 have hkp2:=hkp.trans hk2
 have a1:¬ t=s2.next:=by omega
 have a2:¬ t=s2.next+1:=by omega
 have a3:¬ st.next=s2.next:=by omega
 have a4:¬ st.next=s2.next+1:=by omega
 have a5:¬ st.next=t:=by omega
 cases c with
 | nil=>
   exfalso
   have:=(hc.2 v).2 ⟨hvin,.refl⟩
   simp at this
 | cons x c=>
   by_cases hxv:x=v
   ·have hns:¬ Seen g j v:=fun h=>((hsn2 x c hc).1 h) hxv
    have hP2:=hpl _ hns hc
    (repeat' (first | refine qS ?_ | (refine qC ?_;simp [f3,f10,hw,hxv,htH2,ht0,a1,a2]) | ((first | (refine w_e [] ?_;intro J hJ;simp only []) | (refine e_go ?_));simp [f3,f10,hw,hxv,htH2,ht0,a1,a2];(repeat refine ca ?_);(refine hJ _ _ ?_;clear hJ J;simp only [ak,reduceIte]))))
    rw [hxv] at hP2
    refine hJJ (g.vs.length - (j+1)) _ _ (by omega) ⟨j+1,by omega,rfl,by simp [f1],by simp [f8],by simp [f9],by simp,by simp;omega,by simp [a3,a4,a5,hG2],?_,s2.next+1,R++[v::c],by simp,hP2,by omega,by omega,by simp,by simp⟩
    (repeat (first | exact hkp2 | (refine Keeps.trans ?_ (Keeps.new _ _)) | (refine Keeps.set ?_ (by omega) _)))
   ·have hns:Seen g j v:=(hsn2 x c hc).2 hxv
    have hP2:=hps hns
    (repeat' (first | refine qS ?_ | (refine qK ?_;simp only [ak,reduceIte]) | (refine qC ?_;simp [f3,f10,hw,hxv]) | ((first | (refine w_e [] ?_;intro J hJ;simp only []) | (refine e_go ?_));simp [f3,f10,hw,hxv];(refine hJ _ _ ?_;clear hJ J;simp only [ak,reduceIte]))))
    exact hJJ (g.vs.length - (j+1)) _ _ (by omega) ⟨j+1,by omega,rfl,by simp [f1],by simp [f8],by simp [f9],by simp,by omega,hG2,hkp2,t,R,by simp [f3],hP2,ht0,htl,by omega,htH2⟩
def fe (l:List Ed) (id:Int):Int:=if l.any (fun x=>decide (x.id=id)) then (l.findIdx (fun x=>decide (x.id=id)):Int) else -1
theorem fe_some {l:List Ed} {id:Int} {k:Nat} (hk:k < l.length) (h:(l.getD k ed0).id=id) (hn:∀ j,j < k→(l.getD j ed0).id≠id):fe l id=k:=by
 have hg:∀ j (hj:j < l.length),l.getD j ed0=l[j]:=fun j hj=>by rw [List.getD_eq_getElem?_getD,List.getElem?_eq_getElem hj];rfl
 rw [hg k hk] at h
 unfold fe
 rw [if_pos (List.any_eq_true.2 ⟨_,List.getElem_mem hk,by simpa using h⟩)]
 congr 1
 refine (List.findIdx_eq hk).2 ⟨by simpa using h,fun j hj=>?_⟩
 have:=hn j hj
 rw [hg j (by omega)] at this
 simpa using this
theorem fe_none {l:List Ed} {id:Int} (hn:∀ j,j < l.length→(l.getD j ed0).id≠id):fe l id = -1:=by
 unfold fe
 rw [if_neg]
 intro h
 obtain ⟨x,hx,hp⟩:=List.any_eq_true.1 h
 obtain ⟨j,hj,rfl⟩:=List.getElem_of_mem hx
 have:=hn j hj
 rw [List.getD_eq_getElem?_getD,List.getElem?_eq_getElem hj] at this
 exact this (by simpa using hp)
theorem ref_Find (g:Gr) (id:Int) (st:St) (he:g.es.length≤1000):
 ACalls Tryz.prog 77 [.ag (grL g),u id] st fun r st'=>r=i (fe g.es id)∧Keeps st st':=by
 obtain ⟨vs,l⟩:=g
 simp only at he ⊢
 have hel:=eds_length l
 refine qO tabOk Tryz.func77 rfl rfl Tryz.ntmps77 (rs:=[.tmp 4]) rfl (by simp) ?_
 (repeat' (first | refine qS ?_ | refine qB ?_ | (refine w_e [] ?_;intro J hJ;simp only [];simp [];(refine hJ _ _ ?_;clear hJ J;simp only [ak,reduceIte]))))
 refine qL (fun n fr st2=>∃ k:Nat,k≤l.length∧n=l.length - k∧fr 1=u id∧fr 8=.sl 0 l.length (eds l)∧fr 9=i l.length∧fr 10=i k∧Keeps st st2∧∀ j,j < k→(l.getD j ed0).id≠id) l.length ?_ ?_
 ·exact ⟨0,by omega,by omega,by simp,by simp,by simp,by simp,Keeps.new _ _,fun j hj=>by omega⟩
 rintro n fr st2 ⟨k,hk,rfl,f1,f8,f9,f10,hkp,hno⟩ JJ hJJ
 by_cases hlt:k < l.length
 rotate_left
 ·clear hJJ
  have hr:=fe_none (l:=l) (id:=id) fun j hj=>hno j (by omega)
  (repeat' (first | refine qS ?_ | (refine qX ?_;simp only [ak,reduceIte]) | (refine qR ?_;simp only [ak,reduceIte];simp [f9,f10,hlt,hr]) | (refine qC ?_;simp [f9,f10,hlt,hr]) | (refine w_e [] ?_;intro J hJ;simp only [];simp [f9,f10,hlt,hr];(refine hJ _ _ ?_;clear hJ J;simp only [ak,reduceIte]))))
  exact hkp
 have hd:=eds_drop l k hlt
 have hw:=qN k (by omega)
 have hk3:k * 3 < l.length * 3:=by omega
 have hso:=fun h=>fe_some (id:=id) hlt h hno
 have hnx:(l.getD k ed0).id≠id→∀ j,j < k+1→(l.getD j ed0).id≠id:=fun h j hj=>by
  rcases Nat.lt_or_ge j k with h1 | h1
  ·exact hno j h1
  ·obtain rfl:j=k:=by omega
   exact h
 generalize hx:l.getD k ed0=x at *
 obtain ⟨d,a,b⟩:=x
 simp only at hd hso hnx
 by_cases hdi:d=id
 ·have hr:=hso hdi
  (repeat' (first | refine qS ?_ | refine qB ?_ | (refine qK ?_;simp only [ak,reduceIte]) | (refine qR ?_;simp only [ak,reduceIte];simp [f1,f8,f9,f10,hlt,hd,hel,hdi,hr]) | (refine qC ?_;simp [f1,f8,f9,f10,hlt,hd,hel,hdi,hr]) | (refine w_e [] ?_;intro J hJ;simp only [];simp [f1,f8,f9,f10,hlt,hd,hel,hdi,hr];(refine hJ _ _ ?_;clear hJ J;simp only [ak,reduceIte]))))
  exact hkp.trans (Keeps.new _ _)
 ·(repeat' (first | refine qS ?_ | refine qB ?_ | (refine qK ?_;simp only [ak,reduceIte]) | (refine qC ?_;simp [f1,f8,f9,f10,hlt,hd,hel,hdi,hw]) | (refine w_e [] ?_;intro J hJ;simp only [];simp [f1,f8,f9,f10,hlt,hd,hel,hdi,hw];(refine hJ _ _ ?_;clear hJ J;simp only [ak,reduceIte]))))
  exact hJJ (l.length - (k+1)) _ _ (by omega) ⟨k+1,by omega,rfl,by simp [f1],by simp [f8],by simp [f9],by simp,hkp.trans (Keeps.new _ _),hnx hdi⟩
theorem Edge_1 (x:Ed) (q:Nat) (id:Int) (st:St) (hq:st.H q=.box 29 1 [u id]) (hqn:q < st.next):
 ACalls Tryz.prog 109 [.ag (edL x),.pt q 0] st fun r st'=>r=bb (decide (x.id=id))∧Keeps st st':=by
 have a1:¬ q=st.next:=by omega
 obtain ⟨d,a,b⟩:=x
 refine qO tabOk Tryz.func109 rfl rfl Tryz.ntmps109 (rs:=[.tmp 3]) rfl (by simp) ?_
 by_cases hd:d=id
 ·(repeat' (first | refine qS ?_ | (refine qR ?_;simp only [ak,reduceIte];simp [hq,a1,hd]) | (refine w_e [] ?_;intro J hJ;simp only [];simp [hq,a1,hd];(refine hJ _ _ ?_;clear hJ J;simp only [ak,reduceIte]))))
  exact Keeps.new _ _
 ·(repeat' (first | refine qS ?_ | (refine qR ?_;simp only [ak,reduceIte];simp [hq,a1,hd]) | (refine w_e [] ?_;intro J hJ;simp only [];simp [hq,a1,hd];(refine hJ _ _ ?_;clear hJ J;simp only [ak,reduceIte]))))
  exact Keeps.new _ _
theorem IndexFuncE (l:List Ed) (t q:Nat) (id:Int) (st:St) (hl:l.length≤1000) (hq:st.H q=.box 29 1 [u id]) (hqn:q < st.next):
 ACalls Tryz.prog 102 [.sl t l.length (eds l),.fn (.func 109) [.pt q 0]] st fun r st'=>r=i (fe l id)∧Keeps st st':=by
 have hel:=eds_length l
 refine qO tabOk Tryz.func102 rfl rfl Tryz.ntmps102 (rs:=[.tmp 4]) rfl (by simp) ?_
 (repeat' (first | refine qS ?_ | refine qB ?_ | (refine w_e [] ?_;intro J hJ;simp only [];simp [];(refine hJ _ _ ?_;clear hJ J;simp only [ak,reduceIte]))))
 refine qL (fun n fr st2=>∃ k:Nat,k≤l.length∧n=l.length - k∧fr 0=.sl t l.length (eds l)∧fr 1=.fn (.func 109) [.pt q 0]∧fr 7=i l.length∧fr 8=i k∧Keeps st st2∧∀ j,j < k→(l.getD j ed0).id≠id) l.length ?_ ?_
 ·exact ⟨0,by omega,by omega,by simp,by simp,by simp,by simp,Keeps.refl _,fun j hj=>by omega⟩
 rintro n fr st2 ⟨k,hk,rfl,f0,f1,f7,f8,hkp,hno⟩ JJ hJJ
 by_cases hlt:k < l.length
 rotate_left
 ·clear hJJ
  have hr:=fe_none (l:=l) (id:=id) fun j hj=>hno j (by omega)
  (repeat' (first | refine qS ?_ | (refine qX ?_;simp only [ak,reduceIte]) | (refine qR ?_;simp only [ak,reduceIte];simp [f7,f8,hlt,hr]) | (refine qC ?_;simp [f7,f8,hlt,hr]) | (refine w_e [] ?_;intro J hJ;simp only [];simp [f7,f8,hlt,hr];(refine hJ _ _ ?_;clear hJ J;simp only [ak,reduceIte]))))
  exact hkp
 have hd:=eds_drop l k hlt
 have hw:=qN k (by omega)
 have hk3:k * 3 < l.length * 3:=by omega
 have hso:=fun h=>fe_some (id:=id) hlt h hno
 have hnx:(l.getD k ed0).id≠id→∀ j,j < k+1→(l.getD j ed0).id≠id:=fun h j hj=>by
  rcases Nat.lt_or_ge j k with h1 | h1
  ·exact hno j h1
  ·obtain rfl:j=k:=by omega
   exact h
 generalize hx:l.getD k ed0=x at *
 obtain ⟨d,a,b⟩:=x
 simp only at hd hso hnx
 (repeat' (first | refine qS ?_ | refine qB ?_ | (refine qK ?_;simp only [ak,reduceIte]) | (refine qC ?_;simp [f0,f1,f7,f8,hlt,hd,hel]) | (refine w_e [] ?_;intro J hJ;simp only [];simp [f0,f1,f7,f8,hlt,hd,hel];(try (refine hJ _ _ ?_;clear hJ J;simp only [ak,reduceIte])))))
 refine qE (Edge_1 ⟨d,a,b⟩ q id st2 ((hkp.H q hqn).trans hq) (Nat.lt_of_lt_of_le hqn hkp.next)) (by simp) ?_;rintro r s3 ⟨rfl,hk3'⟩
 simp only
 by_cases hdi:d=id
 ·have hr:=hso hdi
  (repeat' (first | refine qS ?_ | (refine qR ?_;simp only [ak,reduceIte];simp [f8,hdi,hr]) | (refine qC ?_;simp [f8,hdi,hr]) | ((first | (refine w_e [] ?_;intro J hJ;simp only []) | (refine e_go ?_));simp [f8,hdi,hr];(refine hJ _ _ ?_;clear hJ J;simp only [ak,reduceIte]))))
  exact hkp.trans hk3'
 ·(repeat' (first | (refine qK ?_;simp only [ak,reduceIte]) | (refine qC ?_;simp [f8,hdi,hw]) | ((first | (refine w_e [] ?_;intro J hJ;simp only []) | (refine e_go ?_));simp [f8,hdi,hw];(refine hJ _ _ ?_;clear hJ J;simp only [ak,reduceIte]))))
  exact hJJ (l.length - (k+1)) _ _ (by omega) ⟨k+1,by omega,rfl,by simp [f0],by simp [f1],by simp [f7],by simp,hkp.trans hk3',hnx hdi⟩
theorem gEdge (g:Gr) (id:Int) (st:St) (he:g.es.length≤1000):
 ACalls Tryz.prog 68 [.ag (grL g),u id] st fun r st'=>r=i (fe g.es id)∧Keeps st st':=by
 refine qO tabOk Tryz.func68 rfl rfl Tryz.ntmps68 (rs:=[.tmp 4]) rfl (by simp) ?_
 (repeat' (first | refine qS ?_ | (refine w_e [] ?_;intro J hJ;simp only [];simp [];(try (refine hJ _ _ ?_;clear hJ J;simp only [ak,reduceIte])))))
 refine qE (IndexFuncE g.es 0 (st.next+1) id _ he (by simp) (by simp)) (by simp) ?_;rintro r s3 ⟨rfl,hk3⟩
 (repeat' (first | (refine qR ?_;simp only [ak,reduceIte];simp []) | (refine e_go ?_;simp [];(refine hJ _ _ ?_;clear hJ J;simp only [ak,reduceIte]))))
 exact ((Keeps.new _ _).trans (Keeps.new _ _)).trans hk3
theorem filter_takeE (l:List Ed) (p:Ed→Bool) (k:Nat) (hk:k < l.length):(l.take (k+1)).filter p=if p (l.getD k ed0)=true then (l.take k).filter p++[l.getD k ed0] else (l.take k).filter p:=by
 rw [List.take_succ_eq_append_getElem hk,List.filter_append,List.getD_eq_getElem?_getD,List.getElem?_eq_getElem hk]
 by_cases h:p l[k]=true<;>simp [h]
theorem firstNZ_all {f:Nat→Int} {n:Nat} (h:firstNZ f n=0):∀ j,j < n→f j=0:=by
 induction n with
 | zero=>intro j hj;omega
 | succ n ih=>
   intro j hj
   simp only [firstNZ] at h
   by_cases h0:firstNZ f n=0
   ·rw [if_neg (by simp [h0])] at h
    rcases Nat.lt_or_ge j n with h1 | h1
    ·exact ih h0 j h1
    ·obtain rfl:j=n:=by omega
     exact h
   ·rw [if_pos h0] at h;exact absurd h h0
theorem numb_zero {n a:Int} {b:Bool} (h:numb n a b=0):1≤n∧n≤1048576∧(b=false→a < n):=by
 unfold numb at h
 by_cases h1:n < 1∨1048576 < n
 ·rw [if_pos h1] at h;cases h
 ·rw [if_neg h1] at h
  by_cases h2:b=false∧n≤a
  ·rw [if_pos h2] at h;cases h
  ·refine ⟨by omega,by omega,fun hb=>?_⟩
   rcases Int.lt_or_le a n with h3 | h3
   ·exact h3
   ·exact absurd ⟨hb,h3⟩ h2
theorem rise_of {l:List Int} (h:∀ j,j < l.length→0 < j→l.getD (j - 1) 0 < l.getD j 0):l.Pairwise (· < ·):=by
 rw [List.pairwise_iff_getElem]
 intro a b ha hb hab
 induction b with
 | zero=>omega
 | succ b ih=>
   have h1:=h (b+1) hb (by omega)
   rw [Nat.add_sub_cancel,getD_lt _ _ hb,getD_lt _ _ (by omega)] at h1
   rcases Nat.lt_or_ge a b with h2 | h2
   ·have:=ih (by omega) h2;omega
   ·obtain rfl:a=b:=by omega
    exact h1
theorem chk_good {g:Gr} (h:chk g=0):Good g∧idOk g.es∧g.vs.length≤64∧g.es.length≤160:=by
 unfold chk at h
 by_cases h1:64 < g.vs.length∨160 < g.es.length
 ·rw [if_pos h1] at h;cases h
 ·rw [if_neg h1] at h
  by_cases h2:firstNZ (badV g) g.vs.length=0
  ·rw [if_neg (by simp [h2])] at h
   have hV:=firstNZ_all h2
   have hE:=firstNZ_all h
   have hEx:∀ j,j < g.es.length→(1≤(g.es.getD j ed0).id∧(g.es.getD j ed0).id≤1048576)∧(g.es.getD j ed0).a∈g.vs∧(g.es.getD j ed0).b∈g.vs:=by
    intro j hj
    have:=hE j hj
    unfold badE at this
    simp only at this
    by_cases h3:numb (g.es.getD j ed0).id (g.es.getD (j - 1) ed0).id (decide (j=0))=0
    ·rw [if_neg (fun h=>h h3)] at this
     by_cases h4:(g.es.getD j ed0).a=(g.es.getD j ed0).b
     ·rw [if_pos h4] at this;cases this
     ·rw [if_neg h4] at this
      by_cases h5:(g.es.getD j ed0).a∉g.vs∨(g.es.getD j ed0).b∉g.vs
      ·rw [if_pos h5] at this;cases this
      ·have h6:=numb_zero h3
       refine ⟨⟨h6.1,h6.2.1⟩,?_,?_⟩
       ·exact Classical.byContradiction fun h=>h5 (.inl h)
       ·exact Classical.byContradiction fun h=>h5 (.inr h)
    ·rw [if_pos h3] at this;exact absurd this h3
   have hget:∀ x∈g.es,∃ j,j < g.es.length∧g.es.getD j ed0=x:=by
    intro x hx
    obtain ⟨j,hj,rfl⟩:=List.getElem_of_mem hx
    exact ⟨j,hj,by rw [List.getD_eq_getElem?_getD,List.getElem?_eq_getElem hj];rfl⟩
   refine ⟨⟨rise_of fun j hj h0=>?_,fun x hx=>?_⟩,fun x hx=>?_,by omega,by omega⟩
   ·have:=(numb_zero (hV j hj)).2.2 (by simp;omega)
    exact this
   ·obtain ⟨j,hj,rfl⟩:=hget x hx
    exact (hEx j hj).2
   ·obtain ⟨j,hj,rfl⟩:=hget x hx
    have:=(hEx j hj).1;omega
  ·rw [if_pos h2] at h;exact absurd h h2
theorem ends_nil (es:List Ed) (v:Int):ends es v=[]↔nbr es v=[]:=by
 unfold ends nbr
 simp only [List.flatMap_eq_nil_iff]
 refine forall_congr' fun x=>forall_congr' fun _=>?_
 unfold end1 nbr1
 by_cases h1:x.a=v<;>by_cases h2:x.b=v<;>simp [h1,h2]
theorem PartsTo.flat {g:Gr} (hg:Good g) {k:Nat} {R:List (List Int)} (h:PartsTo g k R):R.flatten.Nodup∧∀ w,w∈R.flatten↔w∈g.vs∧Seen g k w:=by
 induction h with
 | zero=>exact ⟨by simp,fun w=>⟨fun h=>by simp at h,fun h=>by obtain ⟨u,hu,_⟩:=h.2;simp at hu⟩⟩
 | seen _ hk hs ih=>exact ⟨ih.1,fun w=>by rw [ih.2,seen_same hk hs]⟩
 | @lead k R c _ hk hs hc ih=>
   rw [List.flatten_append,List.flatten_cons,List.flatten_nil,List.append_nil]
   refine ⟨?_,fun w=>?_⟩
   ·rw [List.nodup_append]
    refine ⟨ih.1,hc.1.imp fun h=>by omega,fun a ha b hb=>?_⟩
    rintro rfl
    have h1:=((ih.2 a).1 ha).2
    have h2:=((hc.2 a).1 hb).2
    exact hs (h1.reach h2.symm)
   ·rw [List.mem_append,ih.2,hc.2,seen_succ hk]
    constructor
    ·rintro (⟨h1,h2⟩ | ⟨h1,h2⟩)
     ·exact ⟨h1,.inl h2⟩
     ·exact ⟨h1,.inr h2⟩
    ·rintro ⟨h1,h2 | h2⟩
     ·exact .inl ⟨h1,h2⟩
     ·exact .inr ⟨h1,h2⟩
theorem PartsTo.row_le {g:Gr} (hg:Good g) {k:Nat} {R:List (List Int)} (h:PartsTo g k R):∀ c∈R,c.length≤g.vs.length:=by
 induction h with
 | zero=>intro c hc;simp at hc
 | seen _ _ _ ih=>exact ih
 | lead _ _ _ hc ih=>
   intro d hd
   rw [List.mem_append,List.mem_singleton] at hd
   rcases hd with hd | rfl
   ·exact ih d hd
   ·exact List.Nodup.length_le_of_subset (hc.1.imp fun h=>by omega) fun w hw=>((hc.2 w).1 hw).1
end Go.Proofs.YtglkgindpjdoiaaGreat.Aw
