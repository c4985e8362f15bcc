/- IndexFunc, DeleteFunc, Without; Reverse, Mirror. -/
import Derived.Test.YtglkgindpjdoiaaGreatJa
import Derived.Test.YtglkgindpjdoiaaGreatAwShp
namespace Go.Proofs.YtglkgindpjdoiaaGreat.Aw
open Go Go.RowKit Go.Proofs.YtglkgindpjdoiaaGreat.Pl
set_option linter.unusedSimpArgs false
set_option linter.unusedVariables false
theorem Without_1 (m:List Int) (t l:Nat) (x:Int) (st:St) (hm:small m) (hl:st.H l=.box 22 1 [.sl t m.length (us m)]):
 ACalls Tryz.prog 145 [u x,.pt l 0] st fun r st'=>r=bb (decide (x∈m))∧st'=st:=by
 refine qO tabOk Tryz.func145 rfl rfl Tryz.ntmps145 (rs:=[.tmp 3]) rfl (by simp) ?_
 (repeat' (first | refine qS ?_ | (refine w_e [] ?_;intro J hJ;simp only [];simp [hl];(try (refine hJ _ _ ?_;clear hJ J;simp only [ak,reduceIte])))))
 refine qE (Contains m t x _ hm) (by simp []) ?_;rintro r st' ⟨rfl,rfl⟩
 (repeat' (first | (refine qR ?_;simp only [ak,reduceIte];simp []) | (refine e_go ?_;simp [];(refine hJ _ _ ?_;clear hJ J;simp only [ak,reduceIte]))))
def Tests (f:FuncId) (caps:List LV) (q:Nat) (st:St) (p:Int→Bool):Prop:=
 ∀ st',(∀ l,l≠q→l < st.next→st'.H l=st.H l)→∀ x,ACalls Tryz.prog f (u x::caps) st' fun r st2=>r=bb (p x)∧st2=st'
theorem IndexFunc (l:List Int) (q:Nat) (f:FuncId) (caps:List LV) (p:Int→Bool) (st:St) (hl:small l) (hH:st.H q=.box 29 1 (us l)) (hp:Tests f caps q st p):
 ACalls Tryz.prog 164 [.ms q 0 l.length,.fn (.func f) caps] st fun r st'=>r=i (fi l p)∧st'=st:=by
 unfold small at hl
 refine qO tabOk Tryz.func164 rfl rfl Tryz.ntmps164 (rs:=[.tmp 4]) rfl (by simp) ?_
 (repeat' (first | refine qS ?_ | refine qB ?_ | (refine w_e [] ?_;intro J hJ;simp only [];simp [];(refine hJ _ _ ?_;clear hJ J;simp only [ak,reduceIte]))))
 refine qL (fun n fr st'=>∃ k:Nat,k≤l.length∧n=l.length - k∧fr 0=.ms q 0 l.length∧fr 1=.fn (.func f) caps∧fr 7=i l.length∧fr 8=i k∧st'=st∧∀ j,j < k→p (l.getD j 0)=false) l.length ?_ ?_
 ·exact ⟨0,by omega,by omega,by simp,by simp,by simp,by simp,rfl,fun j h=>by omega⟩
 rintro n fr st1 ⟨k,hk,rfl,h0,h1,h7,h8,rfl,hno⟩ JJ hJJ
 by_cases hlt:k < l.length
 ·have hd:=qG l k hlt
  have hw:=qN k (by omega)
  generalize hx:l.getD k 0=x at *
  (repeat' (first | refine qS ?_ | refine qB ?_ | (refine qK ?_;simp only [ak,reduceIte]) | (refine qC ?_;simp [h0,h1,h7,h8,hlt,hd,hw,hH]) | (refine w_e [] ?_;intro J hJ;simp only [];simp [h0,h1,h7,h8,hlt,hd,hw,hH];(try (refine hJ _ _ ?_;clear hJ J;simp only [ak,reduceIte])))))
  refine qF (hp _ (fun _ _ _=>rfl) x) ?_
  rintro r st' ⟨rfl,rfl⟩
  by_cases hpx:p x=true
  ·(repeat' (first | refine qS ?_ | (refine qR ?_;simp only [ak,reduceIte];simp [hpx]) | (refine qC ?_;simp [hpx]) | ((first | (refine w_e [] ?_;intro J hJ;simp only []) | (refine e_go ?_));simp [hpx];(refine hJ _ _ ?_;clear hJ J;simp only [ak,reduceIte]))))
   exact (fi_some hlt (by rw [hx];exact hpx) hno).symm
  ·have hpx:p x=false:=by simpa using hpx
   (repeat' (first | (refine qK ?_;simp only [ak,reduceIte]) | (refine qC ?_;simp [hpx,h8,hw]) | ((first | (refine w_e [] ?_;intro J hJ;simp only []) | (refine e_go ?_));simp [hpx,h8,hw];(refine hJ _ _ ?_;clear hJ J;simp only [ak,reduceIte]))))
   refine hJJ _ _ _ ?_ ⟨k+1,by omega,rfl,by simp [h0],by simp [h1],by simp [h7],by simp,rfl,fun j hjk=>?_⟩
   ·omega
   ·rcases Nat.lt_or_ge j k with h | h
    ·exact hno j h
    ·obtain rfl:j=k:=by omega
     rw [hx];exact hpx
 ·(repeat' (first | refine qS ?_ | (refine qX ?_;simp only [ak,reduceIte]) | (refine qR ?_;simp only [ak,reduceIte];simp [h0,h1,h7,h8,hlt]) | (refine qC ?_;simp [h0,h1,h7,h8,hlt]) | (refine w_e [] ?_;intro J hJ;simp only [];simp [h0,h1,h7,h8,hlt];(refine hJ _ _ ?_;clear hJ J;simp only [ak,reduceIte]))))
  exact (fi_none (fun j hj=>hno j (by omega))).symm
theorem DeleteFunc (l:List Int) (q:Nat) (f:FuncId) (caps:List LV) (p:Int→Bool) (st:St) (hl:small l) (hH:st.H q=.box 29 1 (us l)) (hp:Tests f caps q st p):
 ACalls Tryz.prog 144 [.ms q 0 l.length,.fn (.func f) caps] st fun r st'=>
  r=.ms q 0 (kept p l).length∧∃ cs,st'=st.set q (.box 29 1 (us (kept p l)++cs)):=by
 have hl':=hl
 unfold small at hl'
 refine qO tabOk Tryz.func144 rfl rfl Tryz.ntmps144 (rs:=[.tmp 4]) rfl (by simp) ?_
 (repeat' (first | refine qS ?_ | (refine w_e [] ?_;intro J hJ;simp only [];simp [];(try (refine hJ _ _ ?_;clear hJ J;simp only [ak,reduceIte])))))
 refine qF (IndexFunc l q f caps p _ hl hH hp) ?_
 rintro r st' ⟨rfl,rfl⟩
 cases hany:l.any p with
 | false=>
   have hfi:fi l p = -1:=by unfold fi;rw [hany];rfl
   rw [hfi]
   (repeat' (first | refine qS ?_ | (refine qR ?_;simp only [ak,reduceIte];simp [kept_none l p hany]) | (refine qC ?_;simp [kept_none l p hany]) | ((first | (refine w_e [] ?_;intro J hJ;simp only []) | (refine e_go ?_));simp [kept_none l p hany];(refine hJ _ _ ?_;clear hJ J;simp only [ak,reduceIte]))))
   exact ⟨[],St.ext' rfl fun x=>by by_cases hx:x=q<;>simp [hx,hH]⟩
 | true=>
   obtain ⟨hfi,hflt⟩:=fi_lt hany
   rw [hfi]
   have hk1:=kept_first l p hflt
   generalize hfx:l.findIdx p=a at *
   have hw:=qN a (by omega)
   have hne:¬ (a:Int) = -1:=by omega
   (repeat' (first | refine qS ?_ | refine qB ?_ | (refine qK ?_;simp only [ak,reduceIte]) | (refine qC ?_;simp [hw,hne]) | ((first | (refine w_e [] ?_;intro J hJ;simp only []) | (refine e_go ?_));simp [hw,hne];(refine hJ _ _ ?_;clear hJ J;simp only [ak,reduceIte]))))
   refine qL (fun n fr st2=>∃ (k:Nat) (c:List Int),k≤l.length∧n=l.length - k∧(kept p (l.take k)).length < k∧fr 0=.ms q 0 l.length∧fr 1=.fn (.func f) caps∧fr 5=i (kept p (l.take k)).length∧fr 6=i k∧c.length=l.length∧c.take (kept p (l.take k)).length=kept p (l.take k)∧c.drop k=l.drop k∧st2=st'.set q (.box 29 1 (us c))) (l.length - (a+1)) ?_ ?_
   ·have hla:(l.take a).length=a:=by rw [List.length_take];omega
    refine ⟨a+1,l,by omega,rfl,by rw [hk1,hla];omega,by simp,by simp,by rw [hk1,hla];simp,by simp,rfl,by rw [hk1,hla],rfl,?_⟩
    exact St.ext' rfl fun x=>by by_cases hx:x=q<;>simp [hx,hH]
   rintro n fr st2 ⟨k,c,hk,rfl,hik,h0,h1,h5,h6,hcl,hct,hcd,rfl⟩ JJ hJJ
   by_cases hlt:k < l.length
   ·have hd:(us c).drop k=u (l.getD k 0)::us (l.drop (k+1)):=by
     rw [us_drop,hcd,← us_drop,qG l k hlt]
    have hw:=qN k (by omega)
    have hw2:=qN (kept p (l.take k)).length (by omega)
    have hst:=kept_take l p k hlt
    generalize hx:l.getD k 0=x at *
    generalize hb:(kept p (l.take k)).length=b at *
    (repeat' (first | refine qS ?_ | refine qB ?_ | (refine qK ?_;simp only [ak,reduceIte]) | (refine qC ?_;simp [h0,h1,h5,h6,hlt,hd,hw]) | (refine w_e [] ?_;intro J hJ;simp only [];simp [h0,h1,h5,h6,hlt,hd,hw];(try (refine hJ _ _ ?_;clear hJ J;simp only [ak,reduceIte])))))
    refine qF (hp _ (fun l' hne _=>by simp [hne]) x) ?_
    rintro r st3 ⟨rfl,rfl⟩
    by_cases hpx:p x=true
    ·rw [if_pos hpx] at hst
     (repeat' (first | (refine qK ?_;simp only [ak,reduceIte]) | (refine qC ?_;simp [h0,h1,h5,h6,hpx,hw]) | ((first | (refine w_e [] ?_;intro J hJ;simp only []) | (refine e_go ?_));simp [h0,h1,h5,h6,hpx,hw];(refine hJ _ _ ?_;clear hJ J;simp only [ak,reduceIte]))))
     refine hJJ _ _ _ ?_ ⟨k+1,c,by omega,rfl,by rw [hst];omega,by simp [h0],by simp [h1],by rw [hst,hb];simp [h5],by simp,hcl,by rw [hst,hb];exact hct,by rw [← List.drop_drop,hcd,List.drop_drop],rfl⟩
     omega
    ·rw [if_neg hpx] at hst
     have hpx:p x=false:=by simpa using hpx
     have hbl:b < l.length:=by omega
     (repeat' (first | refine qS ?_ | (refine qC ?_;simp [h0,h1,h5,h6,hpx,hw,hw2,hcl]) | ((first | (refine w_e [] ?_;intro J hJ;simp only []) | (refine e_go ?_));simp [h0,h1,h5,h6,hpx,hw,hw2,hcl];(repeat refine ca ?_);(refine hJ _ _ ?_;clear hJ J;simp only [ak,reduceIte]))))
     have hcd':(c.set b x).drop (k+1)=l.drop (k+1):=by
      rw [set_drop c b k x (by omega),← List.drop_drop,hcd,List.drop_drop]
     refine hJJ _ _ _ ?_ ⟨k+1,c.set b x,by omega,rfl,by rw [hst,List.length_append,hb];simp;omega,by simp [h0],by simp [h1],by rw [hst,List.length_append,hb];simp,by simp,by simp [hcl],by rw [hst,List.length_append,hb];simp only [List.length_singleton];rw [set_take c b x (by omega),hct],hcd',?_⟩
     ·omega
     ·refine St.ext' rfl fun y=>?_
      by_cases hy:y=q
      ·subst hy;simp [us_set c b x (by omega)]
      ·simp [hy]
   ·have hk':k=l.length:=by omega
    rw [hk',List.take_length] at h5 hct
    clear hJJ
    have hle:=kept_le p l
    (repeat' (first | refine qS ?_ | (refine qX ?_;simp only [ak,reduceIte]) | (refine qR ?_;simp only [ak,reduceIte];simp [h0,h1,h5,h6,hlt]) | (refine qC ?_;simp [h0,h1,h5,h6,hlt]) | (refine w_e [] ?_;intro J hJ;simp only [];simp [h0,h1,h5,h6,hlt];(repeat refine ca ?_);(refine hJ _ _ ?_;clear hJ J;simp only [ak,reduceIte]))))
    rw [St.set_set,us_take,hct]
    exact ⟨_,rfl⟩
theorem kept_wo (l m:List Int):kept (fun x=>decide (x∈m)) l=wo l m:=rfl
theorem freezeU' {P:Program} {f:FuncId} {post:List LV} {st:St} {Q:LV→St→Prop} {l:Nat} (a:List Int) (cs:List LV) (hl:st.H l=.box 29 1 (us a++cs)) (h:ACalls P f (.sl 0 a.length (us a)::post) (st.set l .dead) Q):ACalls P f (.ms l 0 a.length::post) st Q:=by
 refine acalls_freezeArg (pre:=[]) hl (by simp) ?_
 have:(us a++cs).take (a.length * 1)=us a:=by simp
 rw [this]
 exact h
theorem Without (l m:List Int) (t t':Nat) (st:St) (hl:small l) (hm:small m):
 ACalls Tryz.prog 132 [.sl t l.length (us l),.sl t' m.length (us m)] st fun r st'=>r=.sl 0 (wo l m).length (us (nrm (wo l m)))∧Keeps st st':=by
 have hsm:small (wo l m):=by have:=wo_le l m;unfold small at *;omega
 refine qO tabOk Tryz.func132 rfl rfl Tryz.ntmps132 (rs:=[.tmp 4]) rfl (by simp) ?_
 (repeat' (first | refine qS ?_ | (refine w_e [] ?_;intro J hJ;simp only [];simp [];(try (refine hJ _ _ ?_;clear hJ J;simp only [ak,reduceIte])))))
 refine qF (CloneM l t _ hl) ?_;rintro r st' ⟨q,rfl,hq,hH,hk⟩
 have hb:st'.H st.next=.box 22 1 [.sl t' m.length (us m)]:=by rw [hk.H st.next (by simp)];simp
 have hqn:q≠st.next:=by simp only [new_next] at hq;omega
 (refine e_go ?_;simp [])
 refine qF (DeleteFunc l q _ _ (fun x=>decide (x∈m)) _ hl hH (fun st2 h2 x=>Without_1 m t' st.next x st2 hm (by rw [h2 _ (Ne.symm hqn) (by have:=hk.next;simp only [new_next] at this;omega)];exact hb))) ?_;rintro r st' ⟨rfl,cs,rfl⟩
 rw [kept_wo]
 (repeat' (first | refine qS ?_ | ((first | (refine w_e [] ?_;intro J hJ;simp only []) | (refine e_go ?_));simp [];(try (refine hJ _ _ ?_;clear hJ J;simp only [ak,reduceIte])))))
 refine qF (freezeU' (wo l m) cs (by simp) (Normal (wo l m) 0 _ hsm)) ?_
 rintro r st2 ⟨rfl,hk2⟩
 have hk3:=(Keeps.new st (.box 22 1 [.sl t' m.length (us m)])).trans hk
 have hq':st.next≤q:=by simp only [new_next] at hq;omega
 (repeat' (first | (refine qR ?_;simp only [ak,reduceIte];simp []) | (refine e_go ?_;simp [];(refine hJ _ _ ?_;clear hJ J;simp only [ak,reduceIte]))))
 exact ((hk3.set hq' _).set hq' _).trans hk2
def swp (c:List Int) (a b:Nat):List Int:=(c.set a (c.getD b 0)).set b (c.getD a 0)
end Go.Proofs.YtglkgindpjdoiaaGreat.Aw
namespace Go.Proofs.YtglkgindpjdoiaaGreat.Aw
open Go.Proofs.YtglkgindpjdoiaaGreat.Pl
set_option linter.unusedSimpArgs false
set_option linter.unusedVariables false
theorem rt_zero (l:List Int):rt l 0=l:=by simp [rt]
theorem rt_all (l:List Int):rt l l.length=l:=by simp [rt]
theorem rt_nodup {l:List Int} (h:l.Nodup) (k:Nat):(rt l k).Nodup:=by
 unfold rt
 have:(l.take k++l.drop k).Nodup:=by rw [List.take_append_drop];exact h
 rw [List.nodup_append] at this ⊢
 exact ⟨this.2.1,this.1,fun a ha b hb=>fun e=>this.2.2 b hb a ha e.symm⟩
theorem rt_rt (l:List Int) (a b:Nat) (ha:a≤l.length) (hb:b≤l.length):rt (rt l a) b=if a+b≤l.length then rt l (a+b) else rt l (a+b - l.length):=by
 unfold rt
 split
 ·rename_i h
  rw [List.drop_append_of_le_length (by rw [List.length_drop];omega),List.take_append_of_le_length (by rw [List.length_drop];omega),List.drop_drop]
  rw [List.append_assoc]
  congr 1
  rw [Nat.add_comm a b,Nat.add_comm b a,List.take_add]
 ·rename_i h
  rw [List.drop_append,List.drop_of_length_le (l:=l.drop a) (by rw [List.length_drop];omega),List.take_append,List.take_of_length_le (l:=l.drop a) (by rw [List.length_drop];omega)]
  rw [List.length_drop,List.nil_append]
  have e1:b - (l.length - a)=a+b - l.length:=by omega
  rw [e1]
  generalize hc:a+b - l.length=c
  have hca:c≤a:=by omega
  rw [← List.append_assoc]
  congr 1
  ·conv=>rhs;rw [← List.take_append_drop (a - c) (l.drop c)]
   rw [List.drop_drop,show c+(a - c)=a by omega]
   congr 1
   rw [List.drop_take]
  ·rw [List.take_take];congr 1;omega
def Cyc (a b:List Int):Prop:=∃ k,k≤a.length∧b=rt a k
theorem Cyc.length {a b:List Int} (h:Cyc a b):b.length=a.length:=by obtain ⟨k,_,rfl⟩:=h;exact rt_length _ _
theorem Cyc.mem {a b:List Int} (h:Cyc a b) (x:Int):x∈b↔x∈a:=by obtain ⟨k,_,rfl⟩:=h;exact rt_mem _ _ _
theorem Cyc.nodup {a b:List Int} (h:Cyc a b) (hn:a.Nodup):b.Nodup:=by obtain ⟨k,_,rfl⟩:=h;exact rt_nodup hn k
theorem cyc_nrm (a:List Int):Cyc a (nrm a):=⟨_,List.idxOf_le_length,rfl⟩
theorem idx_get {l:List Int} (hn:l.Nodup) {j:Nat} (hj:j < l.length):l.idxOf l[j]=j:=hn.idxOf_getElem j hj
theorem idx_rt {l:List Int} (hn:l.Nodup) {k:Nat} (hk:k≤l.length) {d:Int} (hd:d∈l):(rt l k).idxOf d=(l.idxOf d+(l.length - k)) % l.length:=by
 have hi:=List.idxOf_lt_length_of_mem hd
 generalize hj:(l.idxOf d+(l.length - k)) % l.length=j
 have hjl:j < l.length:=by rw [← hj];exact Nat.mod_lt _ (by omega)
 have hg:=rt_get l k j hk hjl
 have hx:(k+j) % l.length=l.idxOf d:=by
  rw [← hj,Nat.add_mod,Nat.mod_mod,← Nat.add_mod]
  rw [show k+(l.idxOf d+(l.length - k))=l.idxOf d+l.length by omega,Nat.add_mod_right,Nat.mod_eq_of_lt hi]
 have hd':(rt l k)[j]'(by rw [rt_length];exact hjl)=d:=by
  rw [hg]
  simp only [hx]
  exact List.getElem_idxOf hi
 have:=idx_get (rt_nodup hn k) (j:=j) (by rw [rt_length];exact hjl)
 rw [hd'] at this
 exact this
theorem rt_get0 (l:List Int) (k j:Nat) (hk:k≤l.length) (hj:j < l.length):(rt l k).getD j 0=l.getD ((k+j) % l.length) 0:=by
 have h:=rt_get l k j hk hj
 rw [List.getD_eq_getElem?_getD,List.getElem?_eq_getElem (by rw [rt_length];exact hj),h,List.getD_eq_getElem?_getD,List.getElem?_eq_getElem (Nat.mod_lt _ (by omega))]
theorem cyc_step {a b:List Int} (h:Cyc a b) (hn:a.Nodup) {d:Int} (hd:d∈a) (s:Nat):b.getD ((b.idxOf d+s) % b.length) 0=a.getD ((a.idxOf d+s) % a.length) 0:=by
 obtain ⟨k,hk,rfl⟩:=h
 have hi:=List.idxOf_lt_length_of_mem hd
 rw [idx_rt hn hk hd,rt_length,rt_get0 a k _ hk (Nat.mod_lt _ (by omega))]
 congr 1
 rw [Nat.mod_add_mod,Nat.add_mod_mod]
 rw [show k+(a.idxOf d+(a.length - k)+s)=a.idxOf d+s+a.length by omega,Nat.add_mod_right]
theorem cyc_nx {a b:List Int} (h:Cyc a b) (hn:a.Nodup) (d:Int):nx b d=nx a d:=by
 unfold nx
 by_cases hd:d∈a
 ·rw [if_pos hd,if_pos ((h.mem d).2 hd),cyc_step h hn hd 1]
 ·rw [if_neg hd,if_neg (fun hh=>hd ((h.mem d).1 hh))]
theorem cyc_pv {a b:List Int} (h:Cyc a b) (hn:a.Nodup) (d:Int):pv b d=pv a d:=by
 unfold pv
 by_cases hd:d∈a
 ·rw [if_pos hd,if_pos ((h.mem d).2 hd),h.length]
  have:=cyc_step h hn hd (a.length - 1)
  rw [h.length] at this
  exact this
 ·rw [if_neg hd,if_neg (fun hh=>hd ((h.mem d).1 hh))]
theorem mn_cyc {a b:List Int} (h:Cyc a b):mn b=mn a:=by
 by_cases ha:a=[]
 ·subst ha;obtain ⟨k,_,rfl⟩:=h;simp [rt]
 ·exact mn_eq ((h.mem _).2 (mn_mem ha)) (fun x hx=>mn_le ((h.mem x).1 hx))
theorem rt_idx {a:List Int} (hn:a.Nodup) {k:Nat} (hk:k≤a.length) {d:Int} (hd:d∈a):rt (rt a k) ((rt a k).idxOf d)=rt a (a.idxOf d):=by
 have hi:=List.idxOf_lt_length_of_mem hd
 rw [idx_rt hn hk hd]
 have hj:=Nat.mod_lt (a.idxOf d+(a.length - k)) (show 0 < a.length by omega)
 rw [rt_rt a k _ hk (by omega)]
 rcases Nat.lt_or_ge (a.idxOf d) k with h | h
 ·rw [Nat.mod_eq_of_lt (by omega)]
  split
  ·have:a.idxOf d=0:=by omega
   rw [show k+(a.idxOf d+(a.length - k))=a.length by omega,rt_all,this,rt_zero]
  ·congr 1;omega
 ·have:(a.idxOf d+(a.length - k)) % a.length=a.idxOf d - k:=by
   rw [show a.idxOf d+(a.length - k)=(a.idxOf d - k)+a.length by omega,Nat.add_mod_right,Nat.mod_eq_of_lt (by omega)]
  rw [this,if_pos (by omega),show k+(a.idxOf d - k)=a.idxOf d by omega]
theorem nrm_cyc {a b:List Int} (h:Cyc a b) (hn:a.Nodup):nrm b=nrm a:=by
 by_cases ha:a=[]
 ·subst ha;obtain ⟨k,_,rfl⟩:=h;simp [rt]
 ·unfold nrm
  rw [mn_cyc h]
  obtain ⟨k,hk,rfl⟩:=h
  exact rt_idx hn hk (mn_mem ha)
theorem ins_nodup {a:List Int} (hn:a.Nodup) {d x:Int} (hx:x∉a):(ins a d [x]).Nodup:=by
 unfold ins
 split
 ·have:(a.take (a.idxOf d+1)++a.drop (a.idxOf d+1)).Nodup:=by rw [List.take_append_drop];exact hn
  rw [List.append_assoc,List.nodup_append] 
  rw [List.nodup_append] at this
  refine ⟨this.1,?_,?_⟩
  ·rw [List.singleton_append,List.nodup_cons]
   exact ⟨fun h=>hx (List.mem_of_mem_drop h),this.2.1⟩
  ·intro p hp q hq
   rcases List.mem_cons.1 hq with rfl | hq
   ·exact fun e=>hx (e ▸ List.mem_of_mem_take hp)
   ·exact this.2.2 p hp q (by simpa using hq)
 ·rw [List.nodup_append]
  refine ⟨hn,by simp,?_⟩
  intro p hp q hq e
  simp at hq
  subst hq
  exact hx (e ▸ hp)
theorem wo_append (a b m:List Int):wo (a++b) m=wo a m++wo b m:=by unfold wo;rw [List.filter_append]
theorem wo_cyc {a b:List Int} (h:Cyc a b) (m:List Int):Cyc (wo a m) (wo b m):=by
 obtain ⟨k,hk,rfl⟩:=h
 refine ⟨(wo (a.take k) m).length,?_,?_⟩
 ·conv=>rhs;rw [← List.take_append_drop k a]
  rw [wo_append,List.length_append];omega
 ·unfold rt
  rw [wo_append]
  have:wo a m=wo (a.take k) m++wo (a.drop k) m:=by rw [← wo_append,List.take_append_drop]
  rw [this,List.drop_left,List.take_left]
theorem pv_nx {a:List Int} (hn:a.Nodup) {d:Int} (hd:d∈a):pv a (nx a d)=d:=by
 have hi:=List.idxOf_lt_length_of_mem hd
 have hj:=Nat.mod_lt (a.idxOf d+1) (show 0 < a.length by omega)
 have e1:nx a d=a[(a.idxOf d+1) % a.length]:=by unfold nx;rw [if_pos hd,getD_lt _ _ hj]
 rw [e1]
 unfold pv
 rw [if_pos (List.getElem_mem hj),idx_get hn hj,Nat.mod_add_mod]
 rw [show a.idxOf d+1+(a.length - 1)=a.idxOf d+a.length by omega,Nat.add_mod_right,Nat.mod_eq_of_lt hi,getD_lt _ _ hi]
 exact List.getElem_idxOf hi
theorem nx_ins {a:List Int} (hn:a.Nodup) {d x:Int} (hd:d∈a) (hx:x∉a):nx (ins a d [x]) d=x:=by
 have hi:=List.idxOf_lt_length_of_mem hd
 have hlen:(ins a d [x]).length=a.length+1:=by rw [ins_length];rfl
 have hmem:d∈ins a d [x]:=by
  unfold ins;rw [if_pos hd]
  have:d∈a.take (a.idxOf d+1)++a.drop (a.idxOf d+1):=by rw [List.take_append_drop];exact hd
  simp only [List.mem_append] at this ⊢
  rcases this with h | h
  ·exact .inl (.inl h)
  ·exact .inr h
 have hget:∀ j (hj:j < a.length),j≤a.idxOf d→(ins a d [x])[j]'(by omega)=a[j]:=by
  intro j hj hle
  simp only [ins,if_pos hd]
  rw [List.getElem_append_left (by simp;omega),List.getElem_append_left (by simp;omega),List.getElem_take]
 have hidx:(ins a d [x]).idxOf d=a.idxOf d:=by
  have h1:=hget _ hi (Nat.le_refl _)
  rw [List.getElem_idxOf hi] at h1
  have:=idx_get (ins_nodup hn (d:=d) hx) (j:=a.idxOf d) (by omega)
  rw [h1] at this
  exact this
 unfold nx
 rw [if_pos hmem,hidx,hlen,Nat.mod_eq_of_lt (by omega),getD_lt _ _ (by omega)]
 simp only [ins,if_pos hd]
 rw [List.getElem_append_left (by simp;omega),List.getElem_append_right (by simp;omega)]
 simp
end Go.Proofs.YtglkgindpjdoiaaGreat.Aw
namespace Go.Proofs.YtglkgindpjdoiaaGreat.Aw
open Go Go.RowKit Go.Proofs.YtglkgindpjdoiaaGreat.Pl
set_option linter.unusedSimpArgs false
set_option linter.unusedVariables false
theorem isNaN (x:Int) (st:St):ACalls Tryz.prog 139 [u x] st fun r st'=>r=bb false∧st'=st:=by
 refine qO tabOk Tryz.func139 rfl rfl Tryz.ntmps139 (rs:=[.tmp 2]) rfl (by simp) ?_
 (repeat' (first | refine qS ?_ | (refine qR ?_;simp only [ak,reduceIte];simp []) | (refine w_e [] ?_;intro J hJ;simp only [];simp [];(refine hJ _ _ ?_;clear hJ J;simp only [ak,reduceIte]))))
theorem Less (x y:Int) (st:St):ACalls Tryz.prog 121 [u x,u y] st fun r st'=>r=bb (decide (x < y))∧st'=st:=by
 refine qO tabOk Tryz.func121 rfl rfl Tryz.ntmps121 (rs:=[.tmp 4]) rfl (by simp) ?_
 (repeat' (first | refine qS ?_ | (refine w_e [] ?_;intro J hJ;simp only [];simp [];(try (refine hJ _ _ ?_;clear hJ J;simp only [ak,reduceIte])))))
 refine qF (isNaN x _) ?_;rintro r st' ⟨rfl,rfl⟩
 (repeat' (first | (refine qR ?_;simp only [ak,reduceIte];simp []) | (refine e_go ?_;simp [];(refine hJ _ _ ?_;clear hJ J;simp only [ak,reduceIte]))))
theorem nat_sub_one (k:Nat) (h0:0 < k) (h:k < 9223372036854775807):IntKind.i64.wrap ((k:Int) - 1)=((k - 1:Nat):Int):=by
 rw [wrap_i64 _ (by omega) (by omega)];omega
abbrev bx (st:St) (q:Nat) (c:List Int):St:=st.set q (.box 29 1 (us c))
theorem bx_self {st:St} {q:Nat} {c:List Int} (h:st.H q=.box 29 1 (us c)):st=bx st q c:=
 St.ext' rfl fun x=>by by_cases hx:x=q<;>simp [hx,h]
theorem bx_sw (st:St) (q:Nat) (c:List Int) (k m:Nat) {x y:Int} (hk:k < c.length) (hm:m < c.length) (hx:c.getD k 0=x) (hy:c.getD m 0=y):
 ((bx st q c).set q (.box 29 1 (List.take k (us c)++.atom (.int .u32 y)::List.drop (k+1) (us c)))).set q
   (.box 29 1 (List.take m (List.take k (us c)++.atom (.int .u32 y)::List.drop (k+1) (us c))++.atom (.int .u32 x)::List.drop (m+1) (List.take k (us c)++.atom (.int .u32 y)::List.drop (k+1) (us c))))=bx st q (sw c k m):=by
 have e:List.take k (us c)++.atom (.int .u32 y)::List.drop (k+1) (us c)=us (c.set k y):=us_set c k y hk
 rw [e,us_set (c.set k y) m x (by simpa using hm)]
 unfold bx sw
 rw [hx,hy]
 exact St.ext' rfl fun z=>by by_cases hz:z=q<;>simp [hz]
theorem insertionSort (l:List Int) (q a b:Nat) (st:St) (hl:small l) (ha:a≤b) (hb:b≤l.length) (hH:st.H q=.box 29 1 (us l)):
 ACalls Tryz.prog 146 [.ms q 0 l.length,i a,i b] st fun r st'=>∃ c,st'=bx st q c∧Pm a b l c∧Srt a b c:=by
 unfold small at hl
 refine qO tabOk Tryz.func146 rfl rfl Tryz.ntmps146 (rs:=[]) rfl (by simp) ?_
 have hw0:=qN a (by omega)
 (repeat' (first | refine qS ?_ | refine qB ?_ | (refine w_e [] ?_;intro J hJ;simp only [];simp [hw0];(refine hJ _ _ ?_;clear hJ J;simp only [ak,reduceIte]))))
 refine qL (fun n fr st'=>∃ (k:Nat) (c:List Int),a < k∧n=b - k∧fr 0=.ms q 0 l.length∧fr 1=i a∧fr 2=i b∧fr 6=i k∧st'=bx st q c∧Pm a b l c∧Srt a k c) (b - (a+1)) ?_ ?_
 ·exact ⟨a+1,l,by omega,rfl,by simp,by simp,by simp,by simp,bx_self hH,.refl,fun p q h1 h2 h3=>by omega⟩
 rintro n fr st1 ⟨k,c,hak,rfl,f0,f1,f2,f6,rfl,hpm,hs⟩ JJ hJJ
 have hcl:=hpm.len
 by_cases hlt:k < b
 rotate_left
 ·clear hJJ
  have hlt':¬ (k:Int) < (b:Int):=by omega
  (repeat' (first | refine qS ?_ | (refine qX ?_;simp only [ak,reduceIte]) | (refine qC ?_;simp [f0,f1,f2,f6,hlt]) | (refine w_e [] ?_;intro J hJ;simp only [];simp [f0,f1,f2,f6,hlt];(refine hJ _ _ ?_;clear hJ J;simp only [ak,reduceIte]))))
  exact ⟨trivial,c,rfl,hpm,fun p q h1 h2 h3=>hs p q h1 h2 (by omega)⟩
 have hw1:=qN k (by omega)
 (repeat' (first | refine qS ?_ | refine qB ?_ | (refine qK ?_;simp only [ak,reduceIte]) | (refine qC ?_;simp [f0,f1,f2,f6,hlt]) | (refine w_e [] ?_;intro J hJ;simp only [];simp [f0,f1,f2,f6,hlt];(refine hJ _ _ ?_;clear hJ J;simp only [ak,reduceIte]))))
 refine qL (fun n fr st'=>∃ (j:Nat) (c:List Int),a≤j∧j≤k∧j=n∧fr 0=.ms q 0 l.length∧fr 1=i a∧fr 2=i b∧fr 6=i k∧fr 7=i j∧st'=bx st q c∧Pm a b l c∧Ins a j k c) k ?_ ?_
 ·exact ⟨k,c,by omega,by omega,rfl,by simp [f0],by simp [f1],by simp [f2],by simp [f6],by simp,rfl,hpm,hs.ins⟩
 clear f0 f1 f2 f6 hs hpm hcl c fr
 rintro n fr st1 ⟨j,c,haj,hjk,rfl,f0,f1,f2,f6,f7,rfl,hpm,hI⟩ JJ2 hJ2
 have hcl:=hpm.len
 by_cases hj:a < j
 rotate_left
 ·clear hJ2
  have hj':¬ (a:Int) < (j:Int):=by omega
  (repeat (refine qS ?_));(refine w_s [] [q] [(0,true),(1,true),(2,true),(3,true),(4,true),(5,true),(6,true),(7,true),(8,true),(9,true),(10,true),(11,true),(12,true),(13,false),(14,true)] ?_;intro J hJ;simp [f0,f1,f2,f6,f7,hj];(refine hJ _ _ ?_;clear hJ J;simp only [ak,reduceIte]))
  (repeat' (first | (refine qX ?_;simp only [ak,reduceIte]) | (refine qC ?_;simp [f6,hw1]) | (refine w_e [] ?_;intro J hJ;simp only [];simp [f6,hw1];(refine hJ _ _ ?_;clear hJ J;simp only [ak,reduceIte]))))
  exact hJJ (b - (k+1)) _ _ (by omega) ⟨k+1,c,by omega,rfl,by simp [f0],by simp [f1],by simp [f2],by simp,rfl,hpm,hI.done haj (.inl (by omega))⟩
 have hw2:=nat_sub_one j (by omega) (by omega)
 have hjl:j < l.length:=by omega
 have hjl1:j - 1 < l.length:=by omega
 have hd:=qG c j (by omega)
 have hd2:=qG c (j - 1) (by omega)
 have hI1:=hI.step hj hjk (by omega)
 have hI2:=hI.done haj
 have hpm1:=hpm.step j (j - 1) (by omega) (by omega) (by omega) (by omega) (by omega)
 generalize hx:c.getD j 0=x at *
 generalize hy:c.getD (j - 1) 0=y at *
 (repeat (refine qS ?_));(refine w_s [] [q] [(0,true),(1,true),(2,true),(3,true),(4,true),(5,true),(6,true),(7,true),(8,true),(9,true),(10,true),(11,true),(12,true),(13,false),(14,true)] ?_;intro J hJ;simp [f0,f1,f2,f6,f7,hj,hw2,hjl,hjl1,hcl,hd,hd2])
 refine dcallK_of (Less x y _) ?_;rintro r s2 ⟨rfl,rfl⟩
 refine ⟨fun _=>by simp,?_⟩
 by_cases hcd:x < y
 rotate_left
 ·clear hJ2
  (refine d_go ?_;simp [hcd];(refine hJ _ _ ?_;clear hJ J;simp only [ak,reduceIte]))
  (repeat' (first | (refine qX ?_;simp only [ak,reduceIte]) | (refine qC ?_;simp [f6,hw1]) | (refine w_e [] ?_;intro J hJ;simp only [];simp [f6,hw1];(refine hJ _ _ ?_;clear hJ J;simp only [ak,reduceIte]))))
  exact hJJ (b - (k+1)) _ _ (by omega) ⟨k+1,c,by omega,rfl,by simp [f0],by simp [f1],by simp [f2],by simp,rfl,hpm,hI2 (.inr hcd)⟩
 clear hJJ
 (refine d_go ?_;simp [hcd];(refine hJ _ _ ?_;clear hJ J;simp only [ak,reduceIte]))
 (repeat' (first | refine qS ?_ | refine qB ?_ | (refine qK ?_;simp only [ak,reduceIte]) | (refine qC ?_;simp [])))
 (refine w_s [] [q] [(0,true),(1,true),(2,true),(3,true),(4,true),(5,true),(6,true),(7,true),(8,true),(9,true),(10,true),(11,true),(12,true),(13,true),(14,true),(15,false),(16,true),(17,false)] ?_;intro J hJ;simp [f0,f1,f2,f6,f7,hw2,hjl,hjl1,hcl,hd,hd2];(repeat refine ca ?_);(refine hJ _ _ ?_;clear hJ J;simp only [ak,reduceIte]))
 (repeat' (refine w_e [] ?_;intro J hJ;simp only [];simp [f7,hw2];(refine hJ _ _ ?_;clear hJ J;simp only [ak,reduceIte])))
 exact hJ2 (j - 1) _ _ (by omega) ⟨j - 1,sw c j (j - 1),by omega,by omega,rfl,by simp [f0],by simp [f1],by simp [f2],by simp [f6],by simp,bx_sw st q c j (j - 1) (by omega) (by omega) hx hy,hpm1,hI1 hcd⟩
theorem reverseRange (l:List Int) (q a b:Nat) (st:St) (hl:small l) (ha:a≤b) (hb:b≤l.length) (h0:0 < b) (hH:st.H q=.box 29 1 (us l)):
 ACalls Tryz.prog 150 [.ms q 0 l.length,i a,i b] st fun r st'=>∃ c,st'=bx st q c∧Pm a b l c:=by
 unfold small at hl
 refine qO tabOk Tryz.func150 rfl rfl Tryz.ntmps150 (rs:=[]) rfl (by simp) ?_
 have hw0:=nat_sub_one b (by omega) (by omega)
 (repeat' (first | refine qS ?_ | refine qB ?_ | (refine w_e [] ?_;intro J hJ;simp only [];simp [hw0];(refine hJ _ _ ?_;clear hJ J;simp only [ak,reduceIte]))))
 refine qL (fun n fr st'=>∃ (k m:Nat) (c:List Int),a≤k∧m < b∧m=n∧fr 0=.ms q 0 l.length∧fr 6=i k∧fr 7=i m∧st'=bx st q c∧Pm a b l c) (b - 1) ?_ ?_
 ·exact ⟨a,b - 1,l,by omega,by omega,rfl,by simp,by simp,by simp,bx_self hH,.refl⟩
 rintro n fr st1 ⟨k,m,c,hak,hmb,rfl,f0,f6,f7,rfl,hpm⟩ JJ hJJ
 have hcl:=hpm.len
 by_cases hlt:k < m
 rotate_left
 ·clear hJJ
  (repeat' (first | refine qS ?_ | (refine qX ?_;simp only [ak,reduceIte]) | (refine qC ?_;simp [f0,f6,f7,hlt]) | (refine w_e [] ?_;intro J hJ;simp only [];simp [f0,f6,f7,hlt];(refine hJ _ _ ?_;clear hJ J;simp only [ak,reduceIte]))))
  exact ⟨trivial,c,rfl,hpm⟩
 have hw1:=qN k (by omega)
 have hw2:=nat_sub_one m (by omega) (by omega)
 have hkl:k < l.length:=by omega
 have hml:m < l.length:=by omega
 have hd:=qG c k (by omega)
 have hd2:=qG c m (by omega)
 have hpm1:=hpm.step k m (by omega) (by omega) (by omega) (by omega) (by omega)
 generalize hx:c.getD k 0=x at *
 generalize hy:c.getD m 0=y at *
 (repeat' (first | refine qS ?_ | refine qB ?_ | (refine qK ?_;simp only [ak,reduceIte]) | (refine qC ?_;simp [f0,f6,f7,hlt]) | (refine w_e [] ?_;intro J hJ;simp only [];simp [f0,f6,f7,hlt];(refine hJ _ _ ?_;clear hJ J;simp only [ak,reduceIte]))))
 (refine w_s [] [q] [(0,true),(1,true),(2,true),(3,true),(4,true),(5,true),(6,true),(7,true),(8,true),(9,true),(10,true),(11,true),(12,true),(13,false),(14,true),(15,false)] ?_;intro J hJ;simp [f0,f6,f7,hkl,hml,hcl,hd,hd2];(repeat refine ca ?_);(refine hJ _ _ ?_;clear hJ J;simp only [ak,reduceIte]))
 (repeat' (first | refine qS ?_ | (refine w_e [] ?_;intro J hJ;simp only [];simp [f6,f7,hw1,hw2];(refine hJ _ _ ?_;clear hJ J;simp only [ak,reduceIte]))))
 exact hJJ (m - 1) _ _ (by omega) ⟨k+1,m - 1,sw c k m,by omega,by omega,rfl,by simp [f0],by simp,by simp,bx_sw st q c k m (by omega) (by omega) hx hy,hpm1⟩
theorem awp_cut1 {P:Program} {N:Nat} {Q:AQ} {k:List AItem} {fr:Frm} {st:St} {x y:Code} (I:Frm→St→Prop) (h1:AWp P N x (AK P N (fun e f s=>e=.normal∧I f s) []) fr st) (h2:∀ fr st,I fr st→AWp P N y (AK P N Q k) fr st):
 AWp P N x (AK P N Q (.code y::k)) fr st:=by
 refine awp_mono h1 ?_
 rintro e fr' st' ⟨rfl,hI⟩
 rw [ak_code]
 exact h2 _ _ hI
theorem bx_sw' (st:St) (q:Nat) (c:List Int) (k m:Nat) {x y:Int} (hk:k < c.length) (hm:m < c.length) (hx:c.getD k 0=x) (hy:c.getD m 0=y):
 (st.set q (.box 29 1 (List.take k (us c)++.atom (.int .u32 y)::List.drop (k+1) (us c)))).set q
   (.box 29 1 (List.take m (List.take k (us c)++.atom (.int .u32 y)::List.drop (k+1) (us c))++.atom (.int .u32 x)::List.drop (m+1) (List.take k (us c)++.atom (.int .u32 y)::List.drop (k+1) (us c))))=bx st q (sw c k m):=by
 rw [← bx_sw st q c k m hk hm hx hy]
 exact St.ext' rfl fun z=>by by_cases hz:z=q<;>simp [hz]
theorem awp_cut2 {P:Program} {N:Nat} {Q:AQ} {k:List AItem} {fr:Frm} {st:St} {x y z:Code} (I:Frm→St→Prop) (h1:AWp P N x (AK P N (fun e f s=>e=.normal∧I f s) [.code y]) fr st) (h2:∀ fr st,I fr st→AWp P N z (AK P N Q k) fr st):
 AWp P N x (AK P N Q (.code y::.code z::k)) fr st:=by
 refine awp_mono h1 ?_
 rintro e fr' st' h
 cases e with
 | normal=>
   rw [ak_code] at h ⊢
   refine awp_mono h ?_
   rintro e fr2 st2 ⟨rfl,h⟩
   rw [ak_code]
   exact h2 _ _ h
 | _=>exact absurd h.1 (by simp)
def MaxC (c:List Int) (f r hi ch:Nat):Prop:=∀ x,(x=2 * r+1∨x=2 * r+2)→x < hi→c.getD (f+x) 0≤c.getD (f+ch) 0
theorem siftDown (l:List Int) (q lo hi f:Nat) (st:St) (hl:small l) (hb:f+hi≤l.length) (hlo:lo≤l.length) (hh:Heap (lo+1) hi f l) (hH:st.H q=.box 29 1 (us l)):
 ACalls Tryz.prog 165 [.ms q 0 l.length,i lo,i hi,i f] st fun r st'=>∃ c,st'=bx st q c∧Pm (f+lo) (f+hi) l c∧Heap lo hi f c:=by
 unfold small at hl
 refine qO tabOk Tryz.func165 rfl rfl Tryz.ntmps165 (rs:=[]) rfl (by simp) ?_
 (repeat' (first | refine qS ?_ | refine qB ?_ | (refine w_e [] ?_;intro J hJ;simp only [];simp [];(refine hJ _ _ ?_;clear hJ J;simp only [ak,reduceIte]))))
 refine qL (fun n fr st'=>∃ (r:Nat) (c:List Int),lo≤r∧r≤l.length∧n=hi - r∧fr 0=.ms q 0 l.length∧fr 2=i hi∧fr 3=i f∧fr 8=i r∧st'=bx st q c∧Pm (f+lo) (f+hi) l c∧HeapX lo hi f r c) (hi - lo) ?_ ?_
 ·exact ⟨lo,l,Nat.le_refl _,hlo,rfl,by simp,by simp,by simp,by simp,bx_self hH,.refl,hh.x⟩
 rintro n fr st1 ⟨r,c,hlr,hrl,rfl,f0,f2,f3,f8,rfl,hpm,hX⟩ JJ hJJ
 have hcl:=hpm.len
 obtain ⟨m,hm⟩:∃ m:Nat,m=2 * r+1:=⟨_,rfl⟩
 obtain ⟨m2,hm2⟩:∃ m:Nat,m=2 * r+2:=⟨_,rfl⟩
 have w1:IntKind.i64.wrap (2 * (r:Int))=2 * (r:Int):=wrap_i64 _ (by omega) (by omega)
 have w2:IntKind.i64.wrap (2 * (r:Int)+1)=(m:Int):=by rw [wrap_i64 _ (by omega) (by omega)];omega
 have w3:IntKind.i64.wrap ((m:Int)+1)=(m2:Int):=by rw [wrap_i64 _ (by omega) (by omega)];omega
 by_cases hmh:hi≤m
 ·clear hJJ
  (repeat' (first | refine qS ?_ | refine qB ?_ | (refine qX ?_;simp only [ak,reduceIte]) | (refine qC ?_;simp [f0,f2,f3,f8,w1,w2,hmh]) | (refine w_e [] ?_;intro J hJ;simp only [];simp [f0,f2,f3,f8,w1,w2,hmh];(refine hJ _ _ ?_;clear hJ J;simp only [ak,reduceIte]))))
  exact ⟨trivial,c,rfl,hpm,hX.leaf (by omega)⟩
 obtain ⟨x1,hx1⟩:∃ x:Nat,x=f+m:=⟨_,rfl⟩
 obtain ⟨x2,hx2⟩:∃ x:Nat,x=f+m2:=⟨_,rfl⟩
 obtain ⟨x0,hx0⟩:∃ x:Nat,x=f+r:=⟨_,rfl⟩
 have w4:IntKind.i64.wrap ((f:Int)+(m:Int))=(x1:Int):=by rw [wrap_i64 _ (by omega) (by omega)];omega
 have w5:IntKind.i64.wrap ((x1:Int)+1)=(x2:Int):=by rw [wrap_i64 _ (by omega) (by omega)];omega
 have w6:IntKind.i64.wrap ((f:Int)+(r:Int))=(x0:Int):=by rw [wrap_i64 _ (by omega) (by omega)];omega
 (repeat' (first | refine qS ?_ | refine qB ?_ | (refine w_e [] ?_;intro J hJ;simp only [];simp [f0,f2,f3,f8,w1,w2,hmh];(refine hJ _ _ ?_;clear hJ J;simp only [ak,reduceIte]))))
 (refine qC ?_;simp [])
 (repeat' (first | refine qS ?_ | (refine qK ?_;simp only [ak,reduceIte])))
 refine awp_cut2 (fun fr2 st2=>st2=bx st q c∧fr2 0=.ms q 0 l.length∧fr2 2=i hi∧fr2 3=i f∧fr2 8=i r∧∃ ch:Nat,fr2 9=i ch∧(ch=2 * r+1∨ch=2 * r+2)∧ch < hi∧MaxC c f r hi ch) ?_ ?_
 ·by_cases h2h:m2 < hi
  rotate_left
  ·(refine w_s [] [q] [(0,true),(1,true),(2,true),(3,true),(4,true),(5,true),(6,true),(7,true),(8,true),(9,true),(10,true),(11,true),(12,true),(13,true),(14,true),(15,true),(16,true),(17,true),(18,false),(19,true)] ?_;intro J hJ;simp [f0,f2,f3,f8,w3,h2h];(refine hJ _ _ ?_;clear hJ J;simp only [ak,reduceIte]))
   (repeat' (first | (refine qK ?_;simp only [ak,reduceIte]) | (refine qC ?_;simp [f0])))
   refine ⟨trivial,trivial,by simp [f0],by simp [f2],by simp [f3],by simp [f8],m,by simp,by omega,by omega,fun x h1 h2=>?_⟩
   rw [show x=m by omega];exact Int.le_refl _
  have hd1:=qG c x1 (by omega)
  have hd2:=qG c x2 (by omega)
  have hl1:x1 < l.length:=by omega
  have hl2:x2 < l.length:=by omega
  generalize hy1:c.getD x1 0=y1 at *
  generalize hy2:c.getD x2 0=y2 at *
  (refine w_s [] [q] [(0,true),(1,true),(2,true),(3,true),(4,true),(5,true),(6,true),(7,true),(8,true),(9,true),(10,true),(11,true),(12,true),(13,true),(14,true),(15,true),(16,true),(17,true),(18,false),(19,true)] ?_;intro J hJ;simp [f0,f2,f3,f8,w3,w4,w5,h2h,hl1,hl2,hcl,hd1,hd2])
  refine dcallK_of (Less y1 y2 _) ?_;rintro r1 s2 ⟨rfl,rfl⟩
  refine ⟨fun _=>by simp,?_⟩
  by_cases hyy:y1 < y2
  ·(refine d_go ?_;simp [hyy];(refine hJ _ _ ?_;clear hJ J;simp only [ak,reduceIte]))
   (repeat' (first | (refine qC ?_;simp [w3]) | (refine w_e [] ?_;intro J hJ;simp only [];simp [w3];(refine hJ _ _ ?_;clear hJ J;simp only [ak,reduceIte]))))
   refine ⟨trivial,trivial,by simp [f0],by simp [f2],by simp [f3],by simp [f8],m2,by simp,by omega,by omega,fun x h1 h2=>?_⟩
   rcases (show x=m∨x=m2 by omega) with rfl | rfl
   ·rw [← hx1,← hx2,hy1,hy2];omega
   ·exact Int.le_refl _
  ·(refine d_go ?_;simp [hyy];(refine hJ _ _ ?_;clear hJ J;simp only [ak,reduceIte]))
   (repeat' (first | (refine qK ?_;simp only [ak,reduceIte]) | (refine qC ?_;simp [])))
   refine ⟨trivial,trivial,by simp [f0],by simp [f2],by simp [f3],by simp [f8],m,by simp,by omega,by omega,fun x h1 h2=>?_⟩
   rcases (show x=m∨x=m2 by omega) with rfl | rfl
   ·exact Int.le_refl _
   ·rw [← hx1,← hx2,hy1,hy2];omega
 clear f0 f2 f3 f8 w1 w2 w3 w4 w5 hx1 hx2 x1 x2 fr
 rintro fr st2 ⟨rfl,f0,f2,f3,f8,ch,f9,hch,hchi,hmax⟩
 obtain ⟨x1,hx1⟩:∃ x:Nat,x=f+ch:=⟨_,rfl⟩
 have w4:IntKind.i64.wrap ((f:Int)+(ch:Int))=(x1:Int):=by rw [wrap_i64 _ (by omega) (by omega)];omega
 have hd1:=qG c x1 (by omega)
 have hd0:=qG c x0 (by omega)
 have hl1:x1 < l.length:=by omega
 have hl0:x0 < l.length:=by omega
 unfold MaxC at hmax
 have hstep:=hX.step (c:=ch) hlr hch hchi (by omega) hmax
 have hpm1:=hpm.step x0 x1 (by omega) (by omega) (by omega) (by omega) (by omega)
 have hbig:=hX.big
 rw [← hx0,← hx1] at hstep
 rw [← hx0] at hbig
 rw [← hx1] at hmax
 generalize hy0:c.getD x0 0=y0 at *
 generalize hy1:c.getD x1 0=y1 at *
 (repeat (refine qS ?_));(refine w_s [] [q] [(0,true),(1,true),(2,true),(3,true),(4,true),(5,true),(6,true),(7,true),(8,true),(9,true),(10,true),(11,true),(12,false),(13,true)] ?_;intro J hJ;simp [f0,f2,f3,f8,f9,w4,w6,hl1,hl0,hcl,hd1,hd0])
 refine dcallK_of (Less y0 y1 _) ?_;rintro r1 s2 ⟨rfl,rfl⟩
 refine ⟨fun _=>by simp,?_⟩
 by_cases hyy:y0 < y1
 rotate_left
 ·clear hJJ
  (refine d_go ?_;simp [hyy];(refine hJ _ _ ?_;clear hJ J;simp only [ak,reduceIte]))
  (repeat' (first | (refine qR ?_;simp only [ak,reduceIte];simp []) | (refine qC ?_;simp [])))
  exact ⟨c,rfl,hpm,hbig fun x h1 h2=>by have:=hmax x h1 h2;omega⟩
 (refine d_go ?_;simp [hyy];(refine hJ _ _ ?_;clear hJ J;simp only [ak,reduceIte]))
 (repeat' (first | refine qS ?_ | (refine qK ?_;simp only [ak,reduceIte]) | (refine qC ?_;simp [])))
 (refine w_s [] [q] [(0,true),(1,true),(2,true),(3,true),(4,true),(5,true),(6,true),(7,true),(8,true),(9,true),(10,true),(11,true),(12,true),(13,true),(14,true),(15,true),(16,true),(17,true),(18,true),(19,true),(20,true),(21,false),(22,true),(23,false)] ?_;intro J hJ;simp [f0,f2,f3,f8,f9,w4,w6,hl1,hl0,hcl,hd1,hd0];(repeat refine ca ?_);(refine hJ _ _ ?_;clear hJ J;simp only [ak,reduceIte]))
 (repeat' (refine w_e [] ?_;intro J hJ;simp only [];simp [f9];(refine hJ _ _ ?_;clear hJ J;simp only [ak,reduceIte])))
 exact hJJ (hi - ch) _ _ (by omega) ⟨ch,sw c x0 x1,by omega,by omega,rfl,by simp [f0],by simp [f2],by simp [f3],by simp,bx_sw st q c x0 x1 (by omega) (by omega) hy0 hy1,hpm1,hstep hyy⟩
def Last (c:List Int) (f j hi:Nat):Prop:=∀ p q,p < q→j≤q→q < hi→c.getD (f+p) 0≤c.getD (f+q) 0
theorem heapSort (l:List Int) (q a b:Nat) (st:St) (hl:small l) (ha:a < b) (hb:b≤l.length) (hH:st.H q=.box 29 1 (us l)):
 ACalls Tryz.prog 147 [.ms q 0 l.length,i a,i b] st fun r st'=>∃ c,st'=bx st q c∧Pm a b l c∧Srt a b c:=by
 have hsm:=hl
 unfold small at hl
 obtain ⟨n,hn⟩:∃ n:Nat,n=b - a:=⟨_,rfl⟩
 obtain ⟨n1,hn1⟩:∃ n:Nat,n=b - a - 1:=⟨_,rfl⟩
 obtain ⟨n2,hn2⟩:∃ n:Nat,n=n1 / 2:=⟨_,rfl⟩
 have w1:IntKind.i64.wrap ((b:Int) - (a:Int))=(n:Int):=by rw [wrap_i64 _ (by omega) (by omega)];omega
 have w2:IntKind.i64.wrap ((n:Int) - 1)=(n1:Int):=by rw [wrap_i64 _ (by omega) (by omega)];omega
 have w3:IntKind.i64.wrap ((n1:Int) / 2)=(n2:Int):=by
  rw [show (n1:Int) / 2=((n1 / 2:Nat):Int) from rfl,← hn2]
  exact wrap_i64 _ (by omega) (by omega)
 refine qO tabOk Tryz.func147 rfl rfl Tryz.ntmps147 (rs:=[]) rfl (by simp) ?_
 (repeat' (first | refine qS ?_ | refine qB ?_ | (refine w_e [] ?_;intro J hJ;simp only [];simp [w1,w2,w3];(refine hJ _ _ ?_;clear hJ J;simp only [ak,reduceIte]))))
 refine qL (fun m fr st'=>∃ (c:List Int),m≤n2+1∧fr 0=.ms q 0 l.length∧fr 6=i a∧fr 7=i 0∧fr 8=i n∧fr 9=i ((m:Int) - 1)∧st'=bx st q c∧Pm a b l c∧Heap m n a c) (n2+1) ?_ ?_
 ·exact ⟨l,by omega,by simp,by simp,by simp,by simp,by simp,bx_self hH,.refl,fun k x h1 h2 h3=>by omega⟩
 rintro m fr st1 ⟨c,hm,f0,f6,f7,f8,f9,rfl,hpm,hh⟩ JJ hJJ
 have hcl:=hpm.len
 cases m with
 | succ m=>
   have f9':fr 9=i (m:Int):=by rw [f9];congr 2;omega
   have w4:IntKind.i64.wrap ((m:Int) - 1)=(m:Int) - 1:=wrap_i64 _ (by omega) (by omega)
   have hge:(0:Int)≤(m:Int):=by omega
   (repeat' (first | refine qS ?_ | refine qB ?_ | (refine qK ?_;simp only [ak,reduceIte]) | (refine qC ?_;simp [f0,f6,f7,f8,f9',hge]) | (refine w_e [] ?_;intro J hJ;simp only [];simp [f0,f6,f7,f8,f9',hge];(try (refine hJ _ _ ?_;clear hJ J;simp only [ak,reduceIte])))))
   rw [← hcl]
   refine qF (siftDown c q m n a _ (by unfold small;omega) (by omega) (by omega) hh (by simp)) ?_
   rintro r s2 ⟨c2,rfl,hpm2,hh2⟩
   rw [hcl]
   (repeat' ((first | (refine w_e [] ?_;intro J hJ;simp only []) | (refine e_go ?_));simp [f9',w4];(refine hJ _ _ ?_;clear hJ J;simp only [ak,reduceIte])))
   exact hJJ m _ _ (by omega) ⟨c2,by omega,by simp [f0],by simp [f6],by simp [f7],by simp [f8],by simp,St.set_set _ _ _ _,hpm.trans (hpm2.wide (by omega) (by omega) (by omega)),hh2⟩
 | zero=>
   clear hJJ
   have f9':fr 9=i (-1):=by rw [f9];rfl
   (repeat' (first | refine qS ?_ | refine qB ?_ | (refine qX ?_;simp only [ak,reduceIte]) | (refine qC ?_;simp [f0,f6,f7,f8,f9',w2]) | (refine w_e [] ?_;intro J hJ;simp only [];simp [f0,f6,f7,f8,f9',w2];(refine hJ _ _ ?_;clear hJ J;simp only [ak,reduceIte]))))
   refine qL (fun m fr st'=>∃ (c:List Int),m≤n∧fr 0=.ms q 0 l.length∧fr 6=i a∧fr 7=i 0∧fr 10=i ((m:Int) - 1)∧st'=bx st q c∧Pm a b l c∧Heap 0 m a c∧Last c a m n) n ?_ ?_
   ·exact ⟨c,Nat.le_refl _,by simp [f0],by simp [f6],by simp [f7],by simp;omega,rfl,hpm,hh,fun p q h1 h2 h3=>by omega⟩
   clear f0 f6 f7 f8 f9 f9' hpm hh hcl c fr
   rintro m fr st1 ⟨c,hm,f0,f6,f7,f10,rfl,hpm,hh,hla⟩ JJ hJJ
   have hcl:=hpm.len
   cases m with
   | zero=>
     have f10':fr 10=i (-1):=by rw [f10];rfl
     (repeat' (first | refine qS ?_ | (refine qX ?_;simp only [ak,reduceIte]) | (refine qC ?_;simp [f10']) | (refine w_e [] ?_;intro J hJ;simp only [];simp [f10'];(refine hJ _ _ ?_;clear hJ J;simp only [ak,reduceIte]))))
     refine ⟨trivial,c,rfl,hpm,fun p q h1 h2 h3=>?_⟩
     have:=hla (p - a) (q - a) (by omega) (by omega) (by omega)
     rwa [show a+(p - a)=p by omega,show a+(q - a)=q by omega] at this
   | succ m=>
     have f10':fr 10=i (m:Int):=by rw [f10];congr 2;omega
     have w4:IntKind.i64.wrap ((m:Int) - 1)=(m:Int) - 1:=wrap_i64 _ (by omega) (by omega)
     have hge:(0:Int)≤(m:Int):=by omega
     obtain ⟨x1,hx1⟩:∃ x:Nat,x=a+m:=⟨_,rfl⟩
     have w5:IntKind.i64.wrap ((a:Int)+(m:Int))=(x1:Int):=by rw [wrap_i64 _ (by omega) (by omega)];omega
     have hd0:=qG c a (by omega)
     have hd1:=qG c x1 (by omega)
     have hl0:a < l.length:=by omega
     have hl1:x1 < l.length:=by omega
     have hpop:=hh.pop (by omega)
     have hnext:=fun c2=>heap_next (c2:=c2) hh hla (by omega) (by omega)
     have hpm1:=hpm.step a x1 (by omega) (by omega) (by omega) (by omega) (by omega)
     rw [← hx1] at hpop hnext
     have hsl:=sw_length c a x1
     have hsw:=fun x y=>bx_sw st q c a x1 (x:=x) (y:=y) (by omega) (by omega)
     generalize hy0:c.getD a 0=y0 at *
     generalize hy1:c.getD x1 0=y1 at *
     have hsw':=hsw y0 y1 rfl rfl
     (repeat' (first | refine qS ?_ | refine qB ?_ | (refine qK ?_;simp only [ak,reduceIte]) | (refine qC ?_;simp [f0,f6,f7,f10',hge]) | (refine w_e [] ?_;intro J hJ;simp only [];simp [f0,f6,f7,f10',hge];(refine hJ _ _ ?_;clear hJ J;simp only [ak,reduceIte]))))
     (refine w_s [] [q] [(0,true),(1,true),(2,true),(3,true),(4,true),(5,true),(6,true),(7,true),(8,true),(9,true),(10,true),(11,true),(12,true),(13,true),(14,true),(15,true),(16,true),(17,false),(18,true),(19,false)] ?_;intro J hJ;simp [f0,f6,f7,f10',w5,hl0,hl1,hcl,hd0,hd1];(repeat refine ca ?_);(refine hJ _ _ ?_;clear hJ J;simp only [ak,reduceIte]))
     rw [hsw']
     generalize hc1:sw c a x1=c1 at *
     (repeat' (refine w_e [] ?_;intro J hJ;simp only [];simp [f0,f6,f7,f10']))
     rw [← hcl,← hsl]
     refine qF (siftDown c1 q 0 m a _ (by unfold small;omega) (by omega) (by omega) hpop (by simp)) ?_
     rintro r s2 ⟨c2,rfl,hpm2,hh2⟩
     rw [hsl,hcl]
     (repeat' ((first | (refine w_e [] ?_;intro J hJ;simp only []) | (refine e_go ?_));simp [f10',w4];(refine hJ _ _ ?_;clear hJ J;simp only [ak,reduceIte])))
     exact hJJ m _ _ (by omega) ⟨c2,by omega,by simp [f0],by simp [f6],by simp [f7],by simp,St.set_set _ _ _ _,hpm1.trans (hpm2.wide (by omega) (by omega) (by omega)),hh2,hnext c2 (by rw [hx1];exact hpm2)⟩
def StU (P:Int→Bool) (c:List Int) (ii jj:Nat):Prop:=ii≤jj→P (c.getD ii 0)=false
def StD (P:Int→Bool) (c:List Int) (ii kk:Nat):Prop:=ii≤kk→P (c.getD kk 0)=true
theorem partition (l:List Int) (q a b pv:Nat) (st:St) (hl:small l) (hab:a < b) (hb:b≤l.length) (hp1:a≤pv) (hp2:pv < b) (hH:st.H q=.box 29 1 (us l)):
 ACalls Tryz.prog 153 [.ms q 0 l.length,i a,i b,i pv] st fun r st'=>∃ (c:List Int) (mid:Nat) (p:Bool),r=.tu [i mid,bb p]∧st'=bx st q c∧Pm a b l c∧a≤mid∧mid < b∧PartedAt c a mid b:=by
 unfold small at hl
 refine qO tabOk Tryz.func153 rfl rfl Tryz.ntmps153 (rs:=[.tmp 8,.tmp 9]) rfl (by simp) ?_
 (repeat (refine qS ?_));(refine w_e [] ?_;intro J hJ;simp only [];simp [];(refine hJ _ _ ?_;clear hJ J;simp only [ak,reduceIte]))
 have hla:a < l.length:=by omega
 have hlp:pv < l.length:=by omega
 have hsw:=fun x y=>bx_sw' st q l a pv (x:=x) (y:=y) (by omega) (by omega)
 have hd0:=qG l a (by omega)
 have hd1:=qG l pv (by omega)
 have hpm:Pm a b l (sw l a pv):=Pm.one a pv (by omega) (by omega) (by omega) (by omega) (by omega)
 have hx:(sw l a pv).getD a 0=l.getD pv 0:=by
  rw [sw_get _ _ _ _ (by omega) (by omega)]
  by_cases e:a=pv
  ·rw [if_pos e,e]
  ·rw [if_neg e,if_pos rfl]
 generalize hy0:l.getD a 0=y0 at *
 generalize hy1:l.getD pv 0=x at *
 have hsw':=hsw y0 x rfl rfl
 (repeat (refine qS ?_));(refine w_s [] [q] [(0,true),(1,true),(2,true),(3,true),(4,true),(5,true),(6,true),(7,true),(8,true),(9,true),(10,true),(11,true),(12,true),(13,false),(14,true),(15,false)] ?_;intro J hJ;simp [hH,hla,hlp,hd0,hd1];(repeat refine ca ?_);(refine hJ _ _ ?_;clear hJ J;simp only [ak,reduceIte]))
 rw [hsw']
 clear hsw hsw' hd0 hd1 hy0
 generalize hc:sw l a pv=c at *
 clear hc
 have hcl:=hpm.len
 have w1:=qN a (by omega)
 have w2:=nat_sub_one b (by omega) (by omega)
 obtain ⟨P,hPd⟩:∃ P:Int→Bool,∀ v,P v=decide (v < x):=⟨_,fun _=>rfl⟩
 refine qS ?_
 refine awp_cut1 (fun fr st2=>fr 0=.ms q 0 l.length∧fr 1=i a∧fr 10=i ((a+1:Nat):Int)∧fr 11=i ((b - 1:Nat):Int)∧st2=bx st q c) (by (refine w_e [] ?_;intro J hJ;simp only [];simp [w1,w2];(refine hJ _ _ ?_;clear hJ J;simp only [ak,reduceIte]));simp) ?_
 rintro fr st2 ⟨f0,f1,fI,fJ,rfl⟩
 have hai:a < a+1:=by omega
 have hij:a+1≤b - 1+1:=by omega
 have hjb:b - 1 < b:=by omega
 have hLo:Lo P c a (a+1):=fun p h1 h2=>by omega
 have hHi:Hi P c (b - 1) b:=fun p h1 h2=>by omega
 generalize a+1=ii at *
 generalize b - 1=jj at *
 clear w1 w2
 have hd0:=qG c a (by omega)
 rw [hx] at hd0
 refine qS ?_
 refine awp_cut1 (fun fr st2=>∃ ii:Nat,a < ii∧ii≤jj+1∧fr 0=.ms q 0 l.length∧fr 1=i a∧fr 10=i ii∧fr 11=i jj∧st2=bx st q c∧Lo P c a ii∧StU P c ii jj) ?_ ?_
 ·refine qB ?_
  refine qL (fun m fr st2=>∃ ii:Nat,a < ii∧ii≤jj+1∧m=jj+1 - ii∧fr 0=.ms q 0 l.length∧fr 1=i a∧fr 10=i ii∧fr 11=i jj∧st2=bx st q c∧Lo P c a ii) (jj+1 - ii) ?_ ?_
  ·exact ⟨ii,by omega,by omega,rfl,by simp [f0],by simp [f1],by simp [fI],by simp [fJ],rfl,hLo⟩
  clear f0 f1 fI fJ hLo hai hij fr ii
  rintro m fr st2 ⟨ii,hai,hij,rfl,f0,f1,fI,fJ,rfl,hLo⟩ JJ hJJ
  have hia:=qN ii (by omega)
  by_cases hle:ii≤jj
  rotate_left
  ·clear hJJ
   (repeat (refine qS ?_));(refine w_s [] [q] [(0,true),(1,true),(2,true),(3,true),(4,true),(5,true),(6,true),(7,true),(8,true),(9,true),(10,true),(11,true),(12,false),(13,true)] ?_;intro J hJ;simp [f0,f1,fI,fJ,hle];(refine hJ _ _ ?_;clear hJ J;simp only [ak,reduceIte]))
   (repeat' (first | (refine qX ?_;simp only [ak,reduceIte]) | (refine qC ?_;simp [])))
   exact ⟨trivial,ii,by omega,by omega,by simp [f0],by simp [f1],by simp [fI],by simp [fJ],by trivial,hLo,fun h=>absurd h hle⟩
  have hli:ii < l.length:=by omega
  have hd1:=qG c ii (by omega)
  have hmo:=hLo.more
  generalize hy:c.getD ii 0=y at *
  (repeat (refine qS ?_));(refine w_s [] [q] [(0,true),(1,true),(2,true),(3,true),(4,true),(5,true),(6,true),(7,true),(8,true),(9,true),(10,true),(11,true),(12,false),(13,true)] ?_;intro J hJ;simp [f0,f1,fI,fJ,hle,hli,hla,hcl,hd0,hd1])
  refine dcallK_of (Less y x _) ?_;rintro r s2 ⟨rfl,rfl⟩
  refine ⟨fun _=>by simp,?_⟩
  have hP:=hPd y
  by_cases hyx:y < x
  ·(refine d_go ?_;simp [hyx];(refine hJ _ _ ?_;clear hJ J;simp only [ak,reduceIte]))
   (repeat' (first | refine qB ?_ | (refine qK ?_;simp only [ak,reduceIte]) | (refine qC ?_;simp [fI,hia]) | (refine w_e [] ?_;intro J hJ;simp only [];simp [fI,hia];(refine hJ _ _ ?_;clear hJ J;simp only [ak,reduceIte]))))
   exact hJJ (jj+1 - (ii+1)) _ _ (by omega) ⟨ii+1,by omega,by omega,rfl,by simp [f0],by simp [f1],by simp,by simp [fJ],rfl,hmo (by rw [hP];simp [hyx])⟩
  ·clear hJJ
   (refine d_go ?_;simp [hyx];(refine hJ _ _ ?_;clear hJ J;simp only [ak,reduceIte]))
   (repeat' (first | (refine qX ?_;simp only [ak,reduceIte]) | (refine qC ?_;simp [])))
   exact ⟨trivial,ii,by omega,by omega,by simp [f0],by simp [f1],by simp [fI],by simp [fJ],by trivial,hLo,fun _=>by rw [hy,hP];simp [hyx]⟩
 clear f0 f1 fI fJ hLo hai hij fr ii
 rintro fr st2 ⟨ii,hai,hij,f0,f1,fI,fJ,rfl,hLo,hst⟩
 refine qS ?_
 refine awp_cut1 (fun fr st2=>∃ kk:Nat,a≤kk∧kk≤jj∧ii≤kk+1∧fr 0=.ms q 0 l.length∧fr 1=i a∧fr 10=i ii∧fr 11=i kk∧st2=bx st q c∧Hi P c kk b∧StD P c ii kk) ?_ ?_
 ·refine qB ?_
  refine qL (fun m fr st2=>∃ kk:Nat,a≤kk∧kk≤jj∧ii≤kk+1∧kk=m∧fr 0=.ms q 0 l.length∧fr 1=i a∧fr 10=i ii∧fr 11=i kk∧st2=bx st q c∧Hi P c kk b) jj ?_ ?_
  ·exact ⟨jj,by omega,by omega,by omega,rfl,by simp [f0],by simp [f1],by simp [fI],by simp [fJ],rfl,hHi⟩
  clear f0 f1 fI fJ hHi fr
  rintro m fr st2 ⟨kk,hak,hkj,hik,rfl,f0,f1,fI,fJ,rfl,hHi⟩ JJ hJJ
  by_cases hle:ii≤kk
  rotate_left
  ·clear hJJ
   (repeat (refine qS ?_));(refine w_s [] [q] [(0,true),(1,true),(2,true),(3,true),(4,true),(5,true),(6,true),(7,true),(8,true),(9,true),(10,true),(11,true),(12,false),(13,true),(14,true)] ?_;intro J hJ;simp [f0,f1,fI,fJ,hle];(refine hJ _ _ ?_;clear hJ J;simp only [ak,reduceIte]))
   (repeat' (first | (refine qX ?_;simp only [ak,reduceIte]) | (refine qC ?_;simp [])))
   exact ⟨trivial,kk,by omega,by omega,by omega,by simp [f0],by simp [f1],by simp [fI],by simp [fJ],by trivial,hHi,fun h=>absurd h hle⟩
  have hja:=nat_sub_one kk (by omega) (by omega)
  have hlj:kk < l.length:=by omega
  have hd1:=qG c kk (by omega)
  have hmo:=hHi.more
  generalize hy:c.getD kk 0=y at *
  (repeat (refine qS ?_));(refine w_s [] [q] [(0,true),(1,true),(2,true),(3,true),(4,true),(5,true),(6,true),(7,true),(8,true),(9,true),(10,true),(11,true),(12,false),(13,true),(14,true)] ?_;intro J hJ;simp [f0,f1,fI,fJ,hle,hlj,hla,hcl,hd0,hd1])
  refine dcallK_of (Less y x _) ?_;rintro r s2 ⟨rfl,rfl⟩
  refine ⟨fun _=>by simp,?_⟩
  have hP:=hPd y
  by_cases hyx:y < x
  ·clear hJJ
   (refine d_go ?_;simp [hyx];(refine hJ _ _ ?_;clear hJ J;simp only [ak,reduceIte]))
   (repeat' (first | (refine qX ?_;simp only [ak,reduceIte]) | (refine qC ?_;simp [])))
   exact ⟨trivial,kk,by omega,by omega,by omega,by simp [f0],by simp [f1],by simp [fI],by simp [fJ],by trivial,hHi,fun _=>by rw [hy,hP];simp [hyx]⟩
  ·(refine d_go ?_;simp [hyx];(refine hJ _ _ ?_;clear hJ J;simp only [ak,reduceIte]))
   (repeat' (first | refine qB ?_ | (refine qK ?_;simp only [ak,reduceIte]) | (refine qC ?_;simp [fJ,hja]) | (refine w_e [] ?_;intro J hJ;simp only [];simp [fJ,hja];(refine hJ _ _ ?_;clear hJ J;simp only [ak,reduceIte]))))
   exact hJJ (kk - 1) _ _ (by omega) ⟨kk - 1,by omega,by omega,by omega,rfl,by simp [f0],by simp [f1],by simp [fI],by simp,rfl,hmo (by omega) (by rw [hP];simp [hyx])⟩
 clear f0 f1 fI fJ hHi fr
 rintro fr st2 ⟨kk,hak,hkj,hik,f0,f1,fI,fJ,rfl,hHi,hst2⟩
 by_cases hle:ii≤kk
 rotate_left
 ·have hke:ii=kk+1:=by omega
  have hpl:=parted_last (hke ▸ hLo) hHi (by omega) (by omega) (by omega)
  have hpm2:=hpm.step kk a (by omega) (by omega) (by omega) (by omega) (by omega)
  have hlk:kk < l.length:=by omega
  have hd1:=qG c kk (by omega)
  have hsw:=fun x y=>bx_sw st q c kk a (x:=x) (y:=y) (by omega) (by omega)
  generalize hy1:c.getD kk 0=y1 at *
  have hsw':=hsw y1 x rfl hx
  (repeat' (first | refine qS ?_ | (refine qC ?_;simp [f0,f1,fI,fJ,hle];(try with_reducible intro hc)) | (refine w_e [] ?_;intro J hJ;simp only [];simp [f0,f1,fI,fJ,hle];(refine hJ _ _ ?_;clear hJ J;simp only [ak,reduceIte]))))
  (refine w_s [] [q] [(0,true),(1,true),(2,true),(3,true),(4,true),(5,true),(6,true),(7,true),(8,true),(9,true),(10,true),(11,true),(12,true),(13,false),(14,true),(15,false)] ?_;intro J hJ;simp [f0,f1,fI,fJ,hla,hlk,hcl,hd0,hd1];(repeat refine ca ?_);(refine hJ _ _ ?_;clear hJ J;simp only [ak,reduceIte]))
  (repeat' (first | refine qS ?_ | (refine qR ?_;simp only [ak,reduceIte];simp [f0,f1,fI,fJ]) | (refine w_e [] ?_;intro J hJ;simp only [];simp [f0,f1,fI,fJ];(refine hJ _ _ ?_;clear hJ J;simp only [ak,reduceIte]))))
  exact ⟨_,kk,rfl,hsw',hpm2,by omega,by omega,by unfold PartedAt;rw [hpl.2,hx];have h:=hpl.1;rwa [show P=_ from funext hPd] at h⟩
 have hik2:ii < kk:=by
  rcases Nat.lt_or_ge ii kk with h | h
  ·exact h
  ·exfalso
   have e:ii=kk:=by omega
   have h1:=hst (by omega)
   have h2:=hst2 hle
   rw [e,h2] at h1;cases h1
 have hLo2:=hLo.swp hik2 (by omega) (hst2 hle)
 have hHi2:=hHi.swp hik2 (by omega) (hst (by omega))
 have hpm2:=hpm.step ii kk (by omega) (by omega) (by omega) (by omega) (by omega)
 have hxx:(sw c ii kk).getD a 0=x:=by rw [sw_get _ _ _ _ (by omega) (by omega),if_neg (by omega),if_neg (by omega)];exact hx
 have hli:ii < l.length:=by omega
 have hlk:kk < l.length:=by omega
 have hd1:=qG c ii (by omega)
 have hd2:=qG c kk (by omega)
 have hsw:=fun x y=>bx_sw st q c ii kk (x:=x) (y:=y) (by omega) (by omega)
 have hia:=qN ii (by omega)
 have hka:=nat_sub_one kk (by omega) (by omega)
 clear hst hst2
 generalize hy1:c.getD ii 0=y1 at *
 generalize hy2:c.getD kk 0=y2 at *
 have hsw':=hsw y1 y2 rfl rfl
 (repeat' (first | refine qS ?_ | (refine qK ?_;simp only [ak,reduceIte]) | (refine qC ?_;simp [f0,f1,fI,fJ,hle];(try with_reducible refine ⟨?_,?_⟩)<;>(try with_reducible intro hc)<;>try (exfalso;omega)) | (refine w_e [] ?_;intro J hJ;simp only [];simp [f0,f1,fI,fJ,hle];(refine hJ _ _ ?_;clear hJ J;simp only [ak,reduceIte]))))
 (refine w_s [] [q] [(0,true),(1,true),(2,true),(3,true),(4,true),(5,true),(6,true),(7,true),(8,true),(9,true),(10,true),(11,true),(12,true),(13,false),(14,true),(15,false)] ?_;intro J hJ;simp [f0,f1,fI,fJ,hli,hlk,hcl,hd1,hd2];(repeat refine ca ?_);(refine hJ _ _ ?_;clear hJ J;simp only [ak,reduceIte]))
 (repeat' (first | refine qS ?_ | refine qB ?_ | (refine w_e [] ?_;intro J hJ;simp only [];simp [fI,fJ,hia,hka];(refine hJ _ _ ?_;clear hJ J;simp only [ak,reduceIte]))))
 rw [hsw']
 refine qL (fun m fr st2=>∃ (ii jj:Nat) (c:List Int),a < ii∧ii≤jj+1∧jj < b∧jj=m∧fr 0=.ms q 0 l.length∧fr 1=i a∧fr 10=i ii∧fr 11=i jj∧st2=bx st q c∧Pm a b l c∧c.getD a 0=x∧Lo P c a ii∧Hi P c jj b) (kk - 1) ?_ ?_
 ·exact ⟨ii+1,kk - 1,sw c ii kk,by omega,by omega,by omega,rfl,by simp [f0],by simp [f1],by simp,by simp,rfl,hpm2,hxx,hLo2,hHi2⟩
 clear f0 f1 fI fJ hLo hHi hLo2 hHi2 hpm hpm2 hx hxx hcl hd0 hd1 hd2 hsw hsw' hy1 hy2 y1 y2 hai hij hak hik hik2 hli hlk hia hka hle hkj hjb ii jj kk c fr
 rintro m fr st2 ⟨ii,jj,c,hai,hij,hjb,rfl,f0,f1,fI,fJ,rfl,hpm,hx,hLo,hHi⟩ JJ0 hJ0
 have hcl:=hpm.len
 have hd0:=qG c a (by omega)
 rw [hx] at hd0
 refine qB ?_
 refine qS ?_
 refine awp_cut1 (fun fr st2=>∃ ii:Nat,a < ii∧ii≤jj+1∧fr 0=.ms q 0 l.length∧fr 1=i a∧fr 10=i ii∧fr 11=i jj∧st2=bx st q c∧Lo P c a ii∧StU P c ii jj) ?_ ?_
 ·refine qB ?_
  refine qL (fun m fr st2=>∃ ii:Nat,a < ii∧ii≤jj+1∧m=jj+1 - ii∧fr 0=.ms q 0 l.length∧fr 1=i a∧fr 10=i ii∧fr 11=i jj∧st2=bx st q c∧Lo P c a ii) (jj+1 - ii) ?_ ?_
  ·exact ⟨ii,by omega,by omega,rfl,by simp [f0],by simp [f1],by simp [fI],by simp [fJ],rfl,hLo⟩
  clear f0 f1 fI fJ hLo hai hij fr ii
  rintro m fr st2 ⟨ii,hai,hij,rfl,f0,f1,fI,fJ,rfl,hLo⟩ JJ hJJ
  have hia:=qN ii (by omega)
  by_cases hle:ii≤jj
  rotate_left
  ·clear hJJ
   (repeat (refine qS ?_));(refine w_s [] [q] [(0,true),(1,true),(2,true),(3,true),(4,true),(5,true),(6,true),(7,true),(8,true),(9,true),(10,true),(11,true),(12,false),(13,true)] ?_;intro J hJ;simp [f0,f1,fI,fJ,hle];(refine hJ _ _ ?_;clear hJ J;simp only [ak,reduceIte]))
   (repeat' (first | (refine qX ?_;simp only [ak,reduceIte]) | (refine qC ?_;simp [])))
   exact ⟨trivial,ii,by omega,by omega,by simp [f0],by simp [f1],by simp [fI],by simp [fJ],by trivial,hLo,fun h=>absurd h hle⟩
  have hli:ii < l.length:=by omega
  have hd1:=qG c ii (by omega)
  have hmo:=hLo.more
  generalize hy:c.getD ii 0=y at *
  (repeat (refine qS ?_));(refine w_s [] [q] [(0,true),(1,true),(2,true),(3,true),(4,true),(5,true),(6,true),(7,true),(8,true),(9,true),(10,true),(11,true),(12,false),(13,true)] ?_;intro J hJ;simp [f0,f1,fI,fJ,hle,hli,hla,hcl,hd0,hd1])
  refine dcallK_of (Less y x _) ?_;rintro r s2 ⟨rfl,rfl⟩
  refine ⟨fun _=>by simp,?_⟩
  have hP:=hPd y
  by_cases hyx:y < x
  ·(refine d_go ?_;simp [hyx];(refine hJ _ _ ?_;clear hJ J;simp only [ak,reduceIte]))
   (repeat' (first | refine qB ?_ | (refine qK ?_;simp only [ak,reduceIte]) | (refine qC ?_;simp [fI,hia]) | (refine w_e [] ?_;intro J hJ;simp only [];simp [fI,hia];(refine hJ _ _ ?_;clear hJ J;simp only [ak,reduceIte]))))
   exact hJJ (jj+1 - (ii+1)) _ _ (by omega) ⟨ii+1,by omega,by omega,rfl,by simp [f0],by simp [f1],by simp,by simp [fJ],rfl,hmo (by rw [hP];simp [hyx])⟩
  ·clear hJJ
   (refine d_go ?_;simp [hyx];(refine hJ _ _ ?_;clear hJ J;simp only [ak,reduceIte]))
   (repeat' (first | (refine qX ?_;simp only [ak,reduceIte]) | (refine qC ?_;simp [])))
   exact ⟨trivial,ii,by omega,by omega,by simp [f0],by simp [f1],by simp [fI],by simp [fJ],by trivial,hLo,fun _=>by rw [hy,hP];simp [hyx]⟩
 clear f0 f1 fI fJ hLo hai hij fr ii
 rintro fr st2 ⟨ii,hai,hij,f0,f1,fI,fJ,rfl,hLo,hst⟩
 refine qS ?_
 refine awp_cut1 (fun fr st2=>∃ kk:Nat,a≤kk∧kk≤jj∧ii≤kk+1∧fr 0=.ms q 0 l.length∧fr 1=i a∧fr 10=i ii∧fr 11=i kk∧st2=bx st q c∧Hi P c kk b∧StD P c ii kk) ?_ ?_
 ·refine qB ?_
  refine qL (fun m fr st2=>∃ kk:Nat,a≤kk∧kk≤jj∧ii≤kk+1∧kk=m∧fr 0=.ms q 0 l.length∧fr 1=i a∧fr 10=i ii∧fr 11=i kk∧st2=bx st q c∧Hi P c kk b) jj ?_ ?_
  ·exact ⟨jj,by omega,by omega,by omega,rfl,by simp [f0],by simp [f1],by simp [fI],by simp [fJ],rfl,hHi⟩
  clear f0 f1 fI fJ hHi fr
  rintro m fr st2 ⟨kk,hak,hkj,hik,rfl,f0,f1,fI,fJ,rfl,hHi⟩ JJ hJJ
  by_cases hle:ii≤kk
  rotate_left
  ·clear hJJ
   (repeat (refine qS ?_));(refine w_s [] [q] [(0,true),(1,true),(2,true),(3,true),(4,true),(5,true),(6,true),(7,true),(8,true),(9,true),(10,true),(11,true),(12,false),(13,true),(14,true)] ?_;intro J hJ;simp [f0,f1,fI,fJ,hle];(refine hJ _ _ ?_;clear hJ J;simp only [ak,reduceIte]))
   (repeat' (first | (refine qX ?_;simp only [ak,reduceIte]) | (refine qC ?_;simp [])))
   exact ⟨trivial,kk,by omega,by omega,by omega,by simp [f0],by simp [f1],by simp [fI],by simp [fJ],by trivial,hHi,fun h=>absurd h hle⟩
  have hja:=nat_sub_one kk (by omega) (by omega)
  have hlj:kk < l.length:=by omega
  have hd1:=qG c kk (by omega)
  have hmo:=hHi.more
  generalize hy:c.getD kk 0=y at *
  (repeat (refine qS ?_));(refine w_s [] [q] [(0,true),(1,true),(2,true),(3,true),(4,true),(5,true),(6,true),(7,true),(8,true),(9,true),(10,true),(11,true),(12,false),(13,true),(14,true)] ?_;intro J hJ;simp [f0,f1,fI,fJ,hle,hlj,hla,hcl,hd0,hd1])
  refine dcallK_of (Less y x _) ?_;rintro r s2 ⟨rfl,rfl⟩
  refine ⟨fun _=>by simp,?_⟩
  have hP:=hPd y
  by_cases hyx:y < x
  ·clear hJJ
   (refine d_go ?_;simp [hyx];(refine hJ _ _ ?_;clear hJ J;simp only [ak,reduceIte]))
   (repeat' (first | (refine qX ?_;simp only [ak,reduceIte]) | (refine qC ?_;simp [])))
   exact ⟨trivial,kk,by omega,by omega,by omega,by simp [f0],by simp [f1],by simp [fI],by simp [fJ],by trivial,hHi,fun _=>by rw [hy,hP];simp [hyx]⟩
  ·(refine d_go ?_;simp [hyx];(refine hJ _ _ ?_;clear hJ J;simp only [ak,reduceIte]))
   (repeat' (first | refine qB ?_ | (refine qK ?_;simp only [ak,reduceIte]) | (refine qC ?_;simp [fJ,hja]) | (refine w_e [] ?_;intro J hJ;simp only [];simp [fJ,hja];(refine hJ _ _ ?_;clear hJ J;simp only [ak,reduceIte]))))
   exact hJJ (kk - 1) _ _ (by omega) ⟨kk - 1,by omega,by omega,by omega,rfl,by simp [f0],by simp [f1],by simp [fI],by simp,rfl,hmo (by omega) (by rw [hP];simp [hyx])⟩
 clear f0 f1 fI fJ hHi fr
 rintro fr st2 ⟨kk,hak,hkj,hik,f0,f1,fI,fJ,rfl,hHi,hst2⟩
 by_cases hle:ii≤kk
 rotate_left
 ·clear hJ0
  have hke:ii=kk+1:=by omega
  have hpl:=parted_last (hke ▸ hLo) hHi (by omega) (by omega) (by omega)
  have hpm2:=hpm.step kk a (by omega) (by omega) (by omega) (by omega) (by omega)
  have hlk:kk < l.length:=by omega
  have hd1:=qG c kk (by omega)
  have hsw:=fun x y=>bx_sw st q c kk a (x:=x) (y:=y) (by omega) (by omega)
  generalize hy1:c.getD kk 0=y1 at *
  have hsw':=hsw y1 x rfl hx
  (repeat' (first | refine qS ?_ | (refine qX ?_;simp only [ak,reduceIte]) | (refine qC ?_;simp [f0,f1,fI,fJ,hle];(try with_reducible intro hc)) | (refine w_e [] ?_;intro J hJ;simp only [];simp [f0,f1,fI,fJ,hle];(refine hJ _ _ ?_;clear hJ J;simp only [ak,reduceIte]))))
  (refine w_s [] [q] [(0,true),(1,true),(2,true),(3,true),(4,true),(5,true),(6,true),(7,true),(8,true),(9,true),(10,true),(11,true),(12,true),(13,false),(14,true),(15,false)] ?_;intro J hJ;simp [f0,f1,fI,fJ,hla,hlk,hcl,hd0,hd1];(repeat refine ca ?_);(refine hJ _ _ ?_;clear hJ J;simp only [ak,reduceIte]))
  (repeat' (first | refine qS ?_ | (refine qR ?_;simp only [ak,reduceIte];simp [f0,f1,fI,fJ]) | (refine w_e [] ?_;intro J hJ;simp only [];simp [f0,f1,fI,fJ];(refine hJ _ _ ?_;clear hJ J;simp only [ak,reduceIte]))))
  exact ⟨_,kk,rfl,hsw',hpm2,by omega,by omega,by unfold PartedAt;rw [hpl.2,hx];have h:=hpl.1;rwa [show P=_ from funext hPd] at h⟩
 have hik2:ii < kk:=by
  rcases Nat.lt_or_ge ii kk with h | h
  ·exact h
  ·exfalso
   have e:ii=kk:=by omega
   have h1:=hst (by omega)
   have h2:=hst2 hle
   rw [e,h2] at h1;cases h1
 have hLo2:=hLo.swp hik2 (by omega) (hst2 hle)
 have hHi2:=hHi.swp hik2 (by omega) (hst (by omega))
 have hpm2:=hpm.step ii kk (by omega) (by omega) (by omega) (by omega) (by omega)
 have hxx:(sw c ii kk).getD a 0=x:=by rw [sw_get _ _ _ _ (by omega) (by omega),if_neg (by omega),if_neg (by omega)];exact hx
 have hli:ii < l.length:=by omega
 have hlk:kk < l.length:=by omega
 have hd1:=qG c ii (by omega)
 have hd2:=qG c kk (by omega)
 have hsw:=fun x y=>bx_sw st q c ii kk (x:=x) (y:=y) (by omega) (by omega)
 have hia:=qN ii (by omega)
 have hka:=nat_sub_one kk (by omega) (by omega)
 clear hst hst2
 generalize hy1:c.getD ii 0=y1 at *
 generalize hy2:c.getD kk 0=y2 at *
 have hsw':=hsw y1 y2 rfl rfl
 (repeat' (first | refine qS ?_ | (refine qK ?_;simp only [ak,reduceIte]) | (refine qC ?_;simp [f0,f1,fI,fJ,hle];(try with_reducible refine ⟨?_,?_⟩)<;>(try with_reducible intro hc)<;>try (exfalso;omega)) | (refine w_e [] ?_;intro J hJ;simp only [];simp [f0,f1,fI,fJ,hle];(refine hJ _ _ ?_;clear hJ J;simp only [ak,reduceIte]))))
 (refine w_s [] [q] [(0,true),(1,true),(2,true),(3,true),(4,true),(5,true),(6,true),(7,true),(8,true),(9,true),(10,true),(11,true),(12,true),(13,false),(14,true),(15,false)] ?_;intro J hJ;simp [f0,f1,fI,fJ,hli,hlk,hcl,hd1,hd2];(repeat refine ca ?_);(refine hJ _ _ ?_;clear hJ J;simp only [ak,reduceIte]))
 (repeat' (first | refine qS ?_ | (refine w_e [] ?_;intro J hJ;simp only [];simp [fI,fJ,hia,hka];(refine hJ _ _ ?_;clear hJ J;simp only [ak,reduceIte]))))
 exact hJ0 (kk - 1) _ _ (by omega) ⟨ii+1,kk - 1,sw c ii kk,by omega,by omega,by omega,rfl,by simp [f0],by simp [f1],by simp,by simp,hsw',hpm2,hxx,hLo2,hHi2⟩
theorem partitionEqual (l:List Int) (q a b pv:Nat) (st:St) (hl:small l) (hab:a < b) (hb:b≤l.length) (hp1:a≤pv) (hp2:pv < b) (hH:st.H q=.box 29 1 (us l)):
 ACalls Tryz.prog 152 [.ms q 0 l.length,i a,i b,i pv] st fun r st'=>∃ (c:List Int) (mid:Nat),r=i mid∧st'=bx st q c∧Pm a b l c∧a < mid∧mid≤b∧PartedEq c a mid b (l.getD pv 0):=by
 unfold small at hl
 refine qO tabOk Tryz.func152 rfl rfl Tryz.ntmps152 (rs:=[.tmp 8]) rfl (by simp) ?_
 (repeat (refine qS ?_));(refine w_e [] ?_;intro J hJ;simp only [];simp [];(refine hJ _ _ ?_;clear hJ J;simp only [ak,reduceIte]))
 have hla:a < l.length:=by omega
 have hlp:pv < l.length:=by omega
 have hsw:=fun x y=>bx_sw' st q l a pv (x:=x) (y:=y) (by omega) (by omega)
 have hd0:=qG l a (by omega)
 have hd1:=qG l pv (by omega)
 have hpm:Pm a b l (sw l a pv):=Pm.one a pv (by omega) (by omega) (by omega) (by omega) (by omega)
 have hx:(sw l a pv).getD a 0=l.getD pv 0:=by
  rw [sw_get _ _ _ _ (by omega) (by omega)]
  by_cases e:a=pv
  ·rw [if_pos e,e]
  ·rw [if_neg e,if_pos rfl]
 generalize hy0:l.getD a 0=y0 at *
 generalize hy1:l.getD pv 0=x at *
 have hsw':=hsw y0 x rfl rfl
 (repeat (refine qS ?_));(refine w_s [] [q] [(0,true),(1,true),(2,true),(3,true),(4,true),(5,true),(6,true),(7,true),(8,true),(9,true),(10,true),(11,true),(12,true),(13,false),(14,true),(15,false)] ?_;intro J hJ;simp [hH,hla,hlp,hd0,hd1];(repeat refine ca ?_);(refine hJ _ _ ?_;clear hJ J;simp only [ak,reduceIte]))
 rw [hsw']
 clear hsw hsw' hd0 hd1 hy0
 generalize hc:sw l a pv=c at *
 clear hc
 have hcl:=hpm.len
 have w1:=qN a (by omega)
 have w2:=nat_sub_one b (by omega) (by omega)
 obtain ⟨P,hPd⟩:∃ P:Int→Bool,∀ v,P v=!decide (x < v):=⟨_,fun _=>rfl⟩
 refine qS ?_
 refine awp_cut1 (fun fr st2=>fr 0=.ms q 0 l.length∧fr 1=i a∧fr 9=i ((a+1:Nat):Int)∧fr 10=i ((b - 1:Nat):Int)∧st2=bx st q c) (by (refine w_e [] ?_;intro J hJ;simp only [];simp [w1,w2];(refine hJ _ _ ?_;clear hJ J;simp only [ak,reduceIte]));simp) ?_
 rintro fr st2 ⟨f0,f1,fI,fJ,rfl⟩
 have hai:a < a+1:=by omega
 have hij:a+1≤b - 1+1:=by omega
 have hjb:b - 1 < b:=by omega
 have hLo:Lo P c a (a+1):=fun p h1 h2=>by omega
 have hHi:Hi P c (b - 1) b:=fun p h1 h2=>by omega
 generalize a+1=ii at *
 generalize b - 1=jj at *
 clear w1 w2
 have hd0:=qG c a (by omega)
 rw [hx] at hd0
 refine qS ?_
 refine qB ?_
 refine qL (fun m fr st2=>∃ (ii jj:Nat) (c:List Int),a < ii∧ii≤jj+1∧jj < b∧jj=m∧fr 0=.ms q 0 l.length∧fr 1=i a∧fr 9=i ii∧fr 10=i jj∧st2=bx st q c∧Pm a b l c∧c.getD a 0=x∧Lo P c a ii∧Hi P c jj b) jj ?_ ?_
 ·exact ⟨ii,jj,c,by omega,by omega,by omega,rfl,f0,f1,fI,fJ,rfl,hpm,hx,hLo,hHi⟩
 clear f0 f1 fI fJ hLo hHi hpm hx hcl hd0 hai hij hjb ii jj c fr
 rintro m fr st2 ⟨ii,jj,c,hai,hij,hjb,rfl,f0,f1,fI,fJ,rfl,hpm,hx,hLo,hHi⟩ JJ0 hJ0
 have hcl:=hpm.len
 have hd0:=qG c a (by omega)
 rw [hx] at hd0
 refine qB ?_
 refine qS ?_
 refine awp_cut1 (fun fr st2=>∃ ii:Nat,a < ii∧ii≤jj+1∧fr 0=.ms q 0 l.length∧fr 1=i a∧fr 9=i ii∧fr 10=i jj∧st2=bx st q c∧Lo P c a ii∧StU P c ii jj) ?_ ?_
 ·refine qB ?_
  refine qL (fun m fr st2=>∃ ii:Nat,a < ii∧ii≤jj+1∧m=jj+1 - ii∧fr 0=.ms q 0 l.length∧fr 1=i a∧fr 9=i ii∧fr 10=i jj∧st2=bx st q c∧Lo P c a ii) (jj+1 - ii) ?_ ?_
  ·exact ⟨ii,by omega,by omega,rfl,by simp [f0],by simp [f1],by simp [fI],by simp [fJ],rfl,hLo⟩
  clear f0 f1 fI fJ hLo hai hij fr ii
  rintro m fr st2 ⟨ii,hai,hij,rfl,f0,f1,fI,fJ,rfl,hLo⟩ JJ hJJ
  have hia:=qN ii (by omega)
  by_cases hle:ii≤jj
  rotate_left
  ·clear hJJ
   (repeat (refine qS ?_));(refine w_s [] [q] [(0,true),(1,true),(2,true),(3,true),(4,true),(5,true),(6,true),(7,true),(8,true),(9,true),(10,true),(11,true),(12,false),(13,true),(14,true)] ?_;intro J hJ;simp [f0,f1,fI,fJ,hle];(refine hJ _ _ ?_;clear hJ J;simp only [ak,reduceIte]))
   (repeat' (first | (refine qX ?_;simp only [ak,reduceIte]) | (refine qC ?_;simp [])))
   exact ⟨trivial,ii,by omega,by omega,by simp [f0],by simp [f1],by simp [fI],by simp [fJ],by trivial,hLo,fun h=>absurd h hle⟩
  have hli:ii < l.length:=by omega
  have hd1:=qG c ii (by omega)
  have hmo:=hLo.more
  generalize hy:c.getD ii 0=y at *
  (repeat (refine qS ?_));(refine w_s [] [q] [(0,true),(1,true),(2,true),(3,true),(4,true),(5,true),(6,true),(7,true),(8,true),(9,true),(10,true),(11,true),(12,false),(13,true),(14,true)] ?_;intro J hJ;simp [f0,f1,fI,fJ,hle,hli,hla,hcl,hd0,hd1])
  refine dcallK_of (Less x y _) ?_;rintro r s2 ⟨rfl,rfl⟩
  refine ⟨fun _=>by simp,?_⟩
  have hP:=hPd y
  by_cases hyx:x < y
  ·clear hJJ
   (refine d_go ?_;simp [hyx];(refine hJ _ _ ?_;clear hJ J;simp only [ak,reduceIte]))
   (repeat' (first | (refine qX ?_;simp only [ak,reduceIte]) | (refine qC ?_;simp [])))
   exact ⟨trivial,ii,by omega,by omega,by simp [f0],by simp [f1],by simp [fI],by simp [fJ],by trivial,hLo,fun _=>by rw [hy,hP];simp [hyx]⟩
  ·(refine d_go ?_;simp [hyx];(refine hJ _ _ ?_;clear hJ J;simp only [ak,reduceIte]))
   (repeat' (first | refine qB ?_ | (refine qK ?_;simp only [ak,reduceIte]) | (refine qC ?_;simp [fI,hia]) | (refine w_e [] ?_;intro J hJ;simp only [];simp [fI,hia];(refine hJ _ _ ?_;clear hJ J;simp only [ak,reduceIte]))))
   exact hJJ (jj+1 - (ii+1)) _ _ (by omega) ⟨ii+1,by omega,by omega,rfl,by simp [f0],by simp [f1],by simp,by simp [fJ],rfl,hmo (by rw [hP];simp [hyx])⟩
 clear f0 f1 fI fJ hLo hai hij fr ii
 rintro fr st2 ⟨ii,hai,hij,f0,f1,fI,fJ,rfl,hLo,hst⟩
 refine qS ?_
 refine awp_cut1 (fun fr st2=>∃ kk:Nat,a≤kk∧kk≤jj∧ii≤kk+1∧fr 0=.ms q 0 l.length∧fr 1=i a∧fr 9=i ii∧fr 10=i kk∧st2=bx st q c∧Hi P c kk b∧StD P c ii kk) ?_ ?_
 ·refine qB ?_
  refine qL (fun m fr st2=>∃ kk:Nat,a≤kk∧kk≤jj∧ii≤kk+1∧kk=m∧fr 0=.ms q 0 l.length∧fr 1=i a∧fr 9=i ii∧fr 10=i kk∧st2=bx st q c∧Hi P c kk b) jj ?_ ?_
  ·exact ⟨jj,by omega,by omega,by omega,rfl,by simp [f0],by simp [f1],by simp [fI],by simp [fJ],rfl,hHi⟩
  clear f0 f1 fI fJ hHi fr
  rintro m fr st2 ⟨kk,hak,hkj,hik,rfl,f0,f1,fI,fJ,rfl,hHi⟩ JJ hJJ
  by_cases hle:ii≤kk
  rotate_left
  ·clear hJJ
   (repeat (refine qS ?_));(refine w_s [] [q] [(0,true),(1,true),(2,true),(3,true),(4,true),(5,true),(6,true),(7,true),(8,true),(9,true),(10,true),(11,true),(12,false),(13,true)] ?_;intro J hJ;simp [f0,f1,fI,fJ,hle];(refine hJ _ _ ?_;clear hJ J;simp only [ak,reduceIte]))
   (repeat' (first | (refine qX ?_;simp only [ak,reduceIte]) | (refine qC ?_;simp [])))
   exact ⟨trivial,kk,by omega,by omega,by omega,by simp [f0],by simp [f1],by simp [fI],by simp [fJ],by trivial,hHi,fun h=>absurd h hle⟩
  have hja:=nat_sub_one kk (by omega) (by omega)
  have hlj:kk < l.length:=by omega
  have hd1:=qG c kk (by omega)
  have hmo:=hHi.more
  generalize hy:c.getD kk 0=y at *
  (repeat (refine qS ?_));(refine w_s [] [q] [(0,true),(1,true),(2,true),(3,true),(4,true),(5,true),(6,true),(7,true),(8,true),(9,true),(10,true),(11,true),(12,false),(13,true)] ?_;intro J hJ;simp [f0,f1,fI,fJ,hle,hlj,hla,hcl,hd0,hd1])
  refine dcallK_of (Less x y _) ?_;rintro r s2 ⟨rfl,rfl⟩
  refine ⟨fun _=>by simp,?_⟩
  have hP:=hPd y
  by_cases hyx:x < y
  ·(refine d_go ?_;simp [hyx];(refine hJ _ _ ?_;clear hJ J;simp only [ak,reduceIte]))
   (repeat' (first | refine qB ?_ | (refine qK ?_;simp only [ak,reduceIte]) | (refine qC ?_;simp [fJ,hja]) | (refine w_e [] ?_;intro J hJ;simp only [];simp [fJ,hja];(refine hJ _ _ ?_;clear hJ J;simp only [ak,reduceIte]))))
   exact hJJ (kk - 1) _ _ (by omega) ⟨kk - 1,by omega,by omega,by omega,rfl,by simp [f0],by simp [f1],by simp [fI],by simp,rfl,hmo (by omega) (by rw [hP];simp [hyx])⟩
  ·clear hJJ
   (refine d_go ?_;simp [hyx];(refine hJ _ _ ?_;clear hJ J;simp only [ak,reduceIte]))
   (repeat' (first | (refine qX ?_;simp only [ak,reduceIte]) | (refine qC ?_;simp [])))
   exact ⟨trivial,kk,by omega,by omega,by omega,by simp [f0],by simp [f1],by simp [fI],by simp [fJ],by trivial,hHi,fun _=>by rw [hy,hP];simp [hyx]⟩
 clear f0 f1 fI fJ hHi fr
 rintro fr st2 ⟨kk,hak,hkj,hik,f0,f1,fI,fJ,rfl,hHi,hst2⟩
 by_cases hle:ii≤kk
 rotate_left
 ·clear hJ0
  (repeat' (first | refine qS ?_ | (refine qX ?_;simp only [ak,reduceIte]) | (refine qR ?_;simp only [ak,reduceIte];simp [f0,f1,fI,fJ,hle]) | (refine qC ?_;simp [f0,f1,fI,fJ,hle];(try with_reducible intro hc)) | (refine w_e [] ?_;intro J hJ;simp only [];simp [f0,f1,fI,fJ,hle];(refine hJ _ _ ?_;clear hJ J;simp only [ak,reduceIte]))))
  refine ⟨c,ii,rfl,rfl,hpm,by omega,by omega,fun p h1 h2=>?_,fun p h1 h2=>?_⟩
  ·by_cases e:p=a
   ·rw [e,hx];exact Int.le_refl _
   ·have:=hLo p (by omega) h2;rw [hPd] at this;simpa using this
  ·have:=hHi p (by omega) h2;rw [hPd] at this;simpa using this
 have hik2:ii < kk:=by
  rcases Nat.lt_or_ge ii kk with h | h
  ·exact h
  ·exfalso
   have e:ii=kk:=by omega
   have h1:=hst (by omega)
   have h2:=hst2 hle
   rw [e,h2] at h1;cases h1
 have hLo2:=hLo.swp hik2 (by omega) (hst2 hle)
 have hHi2:=hHi.swp hik2 (by omega) (hst (by omega))
 have hpm2:=hpm.step ii kk (by omega) (by omega) (by omega) (by omega) (by omega)
 have hxx:(sw c ii kk).getD a 0=x:=by rw [sw_get _ _ _ _ (by omega) (by omega),if_neg (by omega),if_neg (by omega)];exact hx
 have hli:ii < l.length:=by omega
 have hlk:kk < l.length:=by omega
 have hd1:=qG c ii (by omega)
 have hd2:=qG c kk (by omega)
 have hsw:=fun x y=>bx_sw st q c ii kk (x:=x) (y:=y) (by omega) (by omega)
 have hia:=qN ii (by omega)
 have hka:=nat_sub_one kk (by omega) (by omega)
 clear hst hst2
 generalize hy1:c.getD ii 0=y1 at *
 generalize hy2:c.getD kk 0=y2 at *
 have hsw':=hsw y1 y2 rfl rfl
 (repeat' (first | refine qS ?_ | (refine qK ?_;simp only [ak,reduceIte]) | (refine qC ?_;simp [f0,f1,fI,fJ,hle];(try with_reducible refine ⟨?_,?_⟩)<;>(try with_reducible intro hc)<;>try (exfalso;omega)) | (refine w_e [] ?_;intro J hJ;simp only [];simp [f0,f1,fI,fJ,hle];(refine hJ _ _ ?_;clear hJ J;simp only [ak,reduceIte]))))
 (refine w_s [] [q] [(0,true),(1,true),(2,true),(3,true),(4,true),(5,true),(6,true),(7,true),(8,true),(9,true),(10,true),(11,true),(12,true),(13,false),(14,true),(15,false)] ?_;intro J hJ;simp [f0,f1,fI,fJ,hli,hlk,hcl,hd1,hd2];(repeat refine ca ?_);(refine hJ _ _ ?_;clear hJ J;simp only [ak,reduceIte]))
 (repeat' (first | refine qS ?_ | (refine w_e [] ?_;intro J hJ;simp only [];simp [fI,fJ,hia,hka];(refine hJ _ _ ?_;clear hJ J;simp only [ak,reduceIte]))))
 exact hJ0 (kk - 1) _ _ (by omega) ⟨ii+1,kk - 1,sw c ii kk,by omega,by omega,by omega,rfl,by simp [f0],by simp [f1],by simp,by simp,hsw',hpm2,hxx,hLo2,hHi2⟩
def Ahead (l:List Int) (a b:Nat):Prop:=0 < a→∀ j,a≤j→j < b→l.getD (a - 1) 0≤l.getD j 0
theorem Ahead.pm {l c:List Int} {a b:Nat} (h:Ahead l a b) (k:Pm a b l c):Ahead c a b:=by
 intro h0 j h1 h2
 rw [k.out (a - 1) (by omega)]
 exact k.all (fun x=>l.getD (a - 1) 0≤x) (fun j h1 h2=>h h0 j h1 h2) j h1 h2
def Falls (c:List Int) (k b:Nat):Prop:=k < b→c.getD k 0 < c.getD (k - 1) 0
def SrtIf (p:Bool) (a b:Nat) (c:List Int):Prop:=p=true→Srt a b c
def PinI (q a b k j:Nat) (l:List Int) (st:St) (fr:Frm) (st2:St):Prop:=∃ c:List Int,fr 0=.ms q 0 l.length∧fr 1=i a∧fr 2=i b∧fr 7=i k∧fr 8=i j∧st2=bx st q c∧Pm a b l c∧Srt a k c
theorem partialInsertionSort (l:List Int) (q a b:Nat) (st:St) (hl:small l) (ha:a < b) (hb:b≤l.length) (hah:Ahead l a b) (hH:st.H q=.box 29 1 (us l)):
 ACalls Tryz.prog 151 [.ms q 0 l.length,i a,i b] st fun r st'=>∃ c p,r=bb p∧st'=bx st q c∧Pm a b l c∧SrtIf p a b c:=by
 unfold small at hl
 refine qO tabOk Tryz.func151 rfl rfl Tryz.ntmps151 (rs:=[.tmp 6]) rfl (by simp) ?_
 have hw0:=qN a (by omega)
 (repeat' (first | refine qS ?_ | refine qB ?_ | (refine w_e [] ?_;intro J hJ;simp only [];simp [hw0];(refine hJ _ _ ?_;clear hJ J;simp only [ak,reduceIte]))))
 refine qL (fun n fr st2=>∃ (j k:Nat) (c:List Int),j≤5∧n=5 - j∧a < k∧k≤b∧fr 0=.ms q 0 l.length∧fr 1=i a∧fr 2=i b∧fr 7=i k∧fr 8=i j∧st2=bx st q c∧Pm a b l c∧Srt a k c) 5 ?_ ?_
 ·exact ⟨0,a+1,l,by omega,rfl,by omega,by omega,by simp,by simp,by simp,by simp,by simp,bx_self hH,.refl,fun p q h1 h2 h3=>by omega⟩
 rintro n fr st2 ⟨j,k,c,hj,rfl,hak,hkb,f0,f1,f2,f7,f8,rfl,hpm,hs⟩ J0 hJ0
 by_cases hj5:(j:Int) < 5
 rotate_left
 ·clear hJ0
  (repeat' (first | refine qS ?_ | (refine qX ?_;simp only [ak,reduceIte]) | (refine qR ?_;simp only [ak,reduceIte];simp [f8,hj5]) | (refine qC ?_;simp [f8,hj5]) | (refine w_e [] ?_;intro J hJ;simp only [];simp [f8,hj5];(refine hJ _ _ ?_;clear hJ J;simp only [ak,reduceIte]))))
  exact ⟨c,rfl,hpm,fun h=>by cases h⟩
 have hcl:=hpm.len
 (repeat (refine qS ?_));(refine w_e [] ?_;intro J hJ;simp only [];simp [f8,hj5];(refine hJ _ _ ?_;clear hJ J;simp only [ak,reduceIte]))
 (refine qC ?_;simp [])
 refine qK ?_;simp only [ak,reduceIte]
 refine qS ?_
 refine qB ?_
 refine qS ?_
 refine awp_cut1 (fun fr st2=>∃ k:Nat,a < k∧k≤b∧fr 0=.ms q 0 l.length∧fr 1=i a∧fr 2=i b∧fr 7=i k∧fr 8=i j∧st2=bx st q c∧Srt a k c∧Falls c k b) ?_ ?_
 ·refine qB ?_
  refine qL (fun n fr st2=>∃ k:Nat,n=b - k∧a < k∧k≤b∧fr 0=.ms q 0 l.length∧fr 1=i a∧fr 2=i b∧fr 7=i k∧fr 8=i j∧st2=bx st q c∧Srt a k c) (b - k) ?_ ?_
  ·exact ⟨k,rfl,hak,hkb,by simp [f0],by simp [f1],by simp [f2],by simp [f7],by simp [f8],rfl,hs⟩
  clear f0 f1 f2 f7 f8 hs hak hkb fr k
  rintro n fr st2 ⟨k,rfl,hak,hkb,f0,f1,f2,f7,f8,rfl,hs⟩ JJ hJJ
  by_cases hlt:k < b
  rotate_left
  ·clear hJJ
   (repeat (refine qS ?_));(refine w_s [] [q] [(0,true),(1,true),(2,true),(3,true),(4,true),(5,true),(6,true),(7,true),(8,true),(9,true),(10,true),(11,true),(12,true),(13,false),(14,true),(15,true)] ?_;intro J hJ;simp [f0,f2,f7,hlt];(refine hJ _ _ ?_;clear hJ J;simp only [ak,reduceIte]))
   (repeat' (first | (refine qX ?_;simp only [ak,reduceIte]) | (refine qC ?_;simp [])))
   exact ⟨trivial,k,by omega,by omega,by simp [f0],by simp [f1],by simp [f2],by simp [f7],by simp [f8],by trivial,hs,fun h=>absurd h hlt⟩
  have w1:=qN k (by omega)
  have w2:=nat_sub_one k (by omega) (by omega)
  have hd1:=qG c k (by omega)
  have hd2:=qG c (k - 1) (by omega)
  have hl1:k < l.length:=by omega
  have hl2:k - 1 < l.length:=by omega
  have hin:=hs.ins.done (by omega)
  generalize hx:c.getD k 0=x at *
  generalize hy:c.getD (k - 1) 0=y at *
  (repeat (refine qS ?_));(refine w_s [] [q] [(0,true),(1,true),(2,true),(3,true),(4,true),(5,true),(6,true),(7,true),(8,true),(9,true),(10,true),(11,true),(12,true),(13,false),(14,true),(15,true)] ?_;intro J hJ;simp [f0,f2,f7,hlt,w2,hl1,hl2,hcl,hd1,hd2])
  refine dcallK_of (Less x y _) ?_;rintro r s2 ⟨rfl,rfl⟩
  refine ⟨fun _=>by simp,?_⟩
  by_cases hxy:x < y
  ·clear hJJ
   (refine d_go ?_;simp [hxy];(refine hJ _ _ ?_;clear hJ J;simp only [ak,reduceIte]))
   (repeat' (first | (refine qX ?_;simp only [ak,reduceIte]) | (refine qC ?_;simp [])))
   exact ⟨trivial,k,by omega,by omega,by simp [f0],by simp [f1],by simp [f2],by simp [f7],by simp [f8],by trivial,hs,fun h=>by rw [hx,hy];exact hxy⟩
  ·(refine d_go ?_;simp [hxy];(refine hJ _ _ ?_;clear hJ J;simp only [ak,reduceIte]))
   (repeat' (first | refine qB ?_ | (refine qK ?_;simp only [ak,reduceIte]) | (refine qC ?_;simp [f7,w1]) | (refine w_e [] ?_;intro J hJ;simp only [];simp [f7,w1];(refine hJ _ _ ?_;clear hJ J;simp only [ak,reduceIte]))))
   exact hJJ (b - (k+1)) _ _ (by omega) ⟨k+1,rfl,by omega,by omega,by simp [f0],by simp [f1],by simp [f2],by simp,by simp [f8],rfl,hin (.inr hxy)⟩
 clear f0 f1 f2 f7 f8 hs hak hkb fr k
 rintro fr st2 ⟨k,hak,hkb,f0,f1,f2,f7,f8,rfl,hs,hfall⟩
 by_cases hkb2:k=b
 ·clear hJ0
  have hkb3:(k:Int)=(b:Int):=by omega
  (repeat' (first | refine qS ?_ | (refine qR ?_;simp only [ak,reduceIte];simp [f2,f7,hkb3]) | (refine qC ?_;simp [f2,f7,hkb3]) | (refine w_e [] ?_;intro J hJ;simp only [];simp [f2,f7,hkb3];(refine hJ _ _ ?_;clear hJ J;simp only [ak,reduceIte]))))
  exact ⟨c,rfl,hpm,fun _=>by rw [← hkb2];exact hs⟩
 have hkb3:¬ (k:Int)=(b:Int):=by omega
 have w1:IntKind.i64.wrap ((b:Int) - (a:Int))=(b:Int) - (a:Int):=wrap_i64 _ (by omega) (by omega)
 by_cases h50:(b:Int) - (a:Int) < 50
 ·clear hJ0
  (repeat' (first | refine qS ?_ | (refine qK ?_;simp only [ak,reduceIte]) | (refine qR ?_;simp only [ak,reduceIte];simp [f1,f2,f7,hkb3,w1,h50]) | (refine qC ?_;simp [f1,f2,f7,hkb3,w1,h50]) | (refine w_e [] ?_;intro J hJ;simp only [];simp [f1,f2,f7,hkb3,w1,h50];(refine hJ _ _ ?_;clear hJ J;simp only [ak,reduceIte]))))
  exact ⟨c,rfl,hpm,fun h=>by cases h⟩
 have w2:=nat_sub_one k (by omega) (by omega)
 have hd1:=qG c k (by omega)
 have hd2:=qG c (k - 1) (by omega)
 have hl1:k < l.length:=by omega
 have hl2:k - 1 < l.length:=by omega
 have hsw:=fun x y=>bx_sw st q c k (k - 1) (x:=x) (y:=y) (by omega) (by omega)
 have hs1:Srt a (k - 1) (sw c k (k - 1)):=by
  intro p q h1 h2 h3
  rw [sw_get _ _ _ _ (by omega) (by omega),sw_get _ _ _ _ (by omega) (by omega),if_neg (by omega),if_neg (by omega),if_neg (by omega),if_neg (by omega)]
  exact hs p q h1 h2 (by omega)
 have hpm1:=hpm.step k (k - 1) (by omega) (by omega) (by omega) (by omega) (by omega)
 generalize hx:c.getD k 0=x at *
 generalize hy:c.getD (k - 1) 0=y at *
 have hsw':=hsw x y rfl rfl
 (repeat' (first | refine qS ?_ | (refine qK ?_;simp only [ak,reduceIte]) | (refine qC ?_;simp [f1,f2,f7,hkb3,w1,h50]) | (refine w_e [] ?_;intro J hJ;simp only [];simp [f1,f2,f7,hkb3,w1,h50];(refine hJ _ _ ?_;clear hJ J;simp only [ak,reduceIte]))))
 (refine w_s [] [q] [(0,true),(1,true),(2,true),(3,true),(4,true),(5,true),(6,true),(7,true),(8,true),(9,true),(10,true),(11,true),(12,true),(13,true),(14,true),(15,false),(16,true),(17,false)] ?_;intro J hJ;simp [f0,f7,w2,hl1,hl2,hcl,hd1,hd2];(repeat refine ca ?_);(refine hJ _ _ ?_;clear hJ J;simp only [ak,reduceIte]))
 rw [hsw']
 clear hsw hsw' hd1 hd2 hx hy hs hfall
 generalize hc1:sw c k (k - 1)=c1 at *
 have hcl1:=hpm1.len
 clear hc1 hpm hcl c
 have w3:IntKind.i64.wrap ((k:Int) - (a:Int))=(k:Int) - (a:Int):=wrap_i64 _ (by omega) (by omega)
 refine qS ?_
 refine awp_cut1 (PinI q a b k j l st) ?_ ?_
 ·by_cases hk2:(2:Int)≤(k:Int) - (a:Int)
  rotate_left
  ·(repeat' (first | refine qS ?_ | (refine qK ?_;simp only [ak,reduceIte]) | (refine qC ?_;simp [f1,f7,w3,hk2]) | (refine w_e [] ?_;intro J hJ;simp only [];simp [f1,f7,w3,hk2];(refine hJ _ _ ?_;clear hJ J;simp only [ak,reduceIte]))))
   refine ⟨by trivial,?_⟩;unfold PinI;exact ⟨c1,by simp [f0],by simp [f1],by simp [f2],by simp [f7],by simp [f8],by trivial,hpm1,fun p q h1 h2 h3=>by omega⟩
  (repeat' (first | refine qS ?_ | refine qB ?_ | (refine qC ?_;simp [f1,f7,w3,hk2,w2]) | (refine w_e [] ?_;intro J hJ;simp only [];simp [f1,f7,w3,hk2,w2];(refine hJ _ _ ?_;clear hJ J;simp only [ak,reduceIte]))))
  refine qL (fun n fr st2=>∃ (m:Nat) (c:List Int),a≤m∧m≤k - 1∧m=n∧fr 0=.ms q 0 l.length∧fr 1=i a∧fr 2=i b∧fr 7=i k∧fr 8=i j∧fr 9=i m∧st2=bx st q c∧Pm a b l c∧Ins a m (k - 1) c) (k - 1) ?_ ?_
  ·exact ⟨k - 1,c1,by omega,by omega,rfl,by simp [f0],by simp [f1],by simp [f2],by simp [f7],by simp [f8],by simp,rfl,hpm1,hs1.ins⟩
  clear f0 f1 f2 f7 f8 hpm1 hs1 hcl1 c1 fr
  rintro n fr st2 ⟨m,c,ham,hmk,rfl,f0,f1,f2,f7,f8,f9,rfl,hpm,hI⟩ JJ hJJ
  have hcl:=hpm.len
  have hk1:k - 1+1=k:=by omega
  by_cases hm1:(1:Int)≤(m:Int)
  rotate_left
  ·clear hJJ
   (repeat' (first | refine qS ?_ | (refine qX ?_;simp only [ak,reduceIte]) | (refine qC ?_;simp [f9,hm1]) | (refine w_e [] ?_;intro J hJ;simp only [];simp [f9,hm1];(refine hJ _ _ ?_;clear hJ J;simp only [ak,reduceIte]))))
   refine ⟨by trivial,?_⟩;unfold PinI;refine ⟨c,by simp [f0],by simp [f1],by simp [f2],by simp [f7],by simp [f8],by trivial,hpm,?_⟩
   have:=hI.done ham (.inl (by omega));rwa [hk1] at this
  have w4:=nat_sub_one m (by omega) (by omega)
  have hd1:=qG c m (by omega)
  have hd2:=qG c (m - 1) (by omega)
  have hl3:m < l.length:=by omega
  have hl4:m - 1 < l.length:=by omega
  have hsw:=fun x y=>bx_sw st q c m (m - 1) (x:=x) (y:=y) (by omega) (by omega)
  have hahm:m=a→¬ c.getD m 0 < c.getD (m - 1) 0:=by
   rintro rfl
   have:=hah.pm hpm (by omega) m (by omega) (by omega)
   omega
  have hdone:=hI.done ham
  rw [hk1] at hdone
  have hstep:=fun h=>hI.step h hmk (by omega)
  generalize hx:c.getD m 0=x at *
  generalize hy:c.getD (m - 1) 0=y at *
  have hsw':=hsw x y rfl rfl
  (repeat' (first | refine qS ?_ | refine qB ?_ | (refine qK ?_;simp only [ak,reduceIte]) | (refine qC ?_;simp [f9,hm1]) | (refine w_e [] ?_;intro J hJ;simp only [];simp [f9,hm1];(refine hJ _ _ ?_;clear hJ J;simp only [ak,reduceIte]))))
  (refine w_s [] [q] [(0,true),(1,true),(2,true),(3,true),(4,true),(5,true),(6,true),(7,true),(8,true),(9,false),(10,true)] ?_;intro J hJ;simp [f0,f9,w4,hl3,hl4,hcl,hd1,hd2])
  refine dcallK_of (Less x y _) ?_;rintro r s2 ⟨rfl,rfl⟩
  refine ⟨fun _=>by simp,?_⟩
  by_cases hxy:x < y
  rotate_left
  ·clear hJJ
   (refine d_go ?_;simp [hxy];(refine hJ _ _ ?_;clear hJ J;simp only [ak,reduceIte]))
   (repeat' (first | (refine qX ?_;simp only [ak,reduceIte]) | (refine qC ?_;simp [])))
   refine ⟨by trivial,?_⟩;unfold PinI;exact ⟨c,by simp [f0],by simp [f1],by simp [f2],by simp [f7],by simp [f8],by trivial,hpm,hdone (.inr hxy)⟩
  have hma:a < m:=by
   rcases Nat.lt_or_ge a m with h | h
   ·exact h
   ·exact absurd hxy (hahm (by omega))
  have hpm2:=hpm.step m (m - 1) (by omega) (by omega) (by omega) (by omega) (by omega)
  (refine d_go ?_;simp [hxy];(refine hJ _ _ ?_;clear hJ J;simp only [ak,reduceIte]))
  (repeat' (first | (refine qK ?_;simp only [ak,reduceIte]) | (refine qC ?_;simp [])))
  (refine w_s [] [q] [(0,true),(1,true),(2,true),(3,true),(4,true),(5,true),(6,true),(7,true),(8,true),(9,true),(10,true),(11,true),(12,true),(13,true),(14,true),(15,false),(16,true),(17,false)] ?_;intro J hJ;simp [f0,f9,w4,hl3,hl4,hcl,hd1,hd2];(repeat refine ca ?_);(refine hJ _ _ ?_;clear hJ J;simp only [ak,reduceIte]))
  (repeat' (refine w_e [] ?_;intro J hJ;simp only [];simp [f9,w4];(refine hJ _ _ ?_;clear hJ J;simp only [ak,reduceIte])))
  exact hJJ (m - 1) _ _ (by omega) ⟨m - 1,sw c m (m - 1),by omega,by omega,rfl,by simp [f0],by simp [f1],by simp [f2],by simp [f7],by simp [f8],by simp,hsw',hpm2,hstep hma hxy⟩
 clear f0 f1 f2 f7 f8 hpm1 hs1 hcl1 c1 fr
 rintro fr st2 ⟨c,f0,f1,f2,f7,f8,rfl,hpm,hs⟩
 have hcl:=hpm.len
 have w5:IntKind.i64.wrap ((b:Int) - (k:Int))=(b:Int) - (k:Int):=wrap_i64 _ (by omega) (by omega)
 have w6:=qN j (by omega)
 have w7:=qN k (by omega)
 by_cases hk2:(2:Int)≤(b:Int) - (k:Int)
 rotate_left
 ·(repeat' (first | refine qS ?_ | (refine qK ?_;simp only [ak,reduceIte]) | (refine qC ?_;simp [f2,f7,w5,hk2,f8,w6]) | (refine w_e [] ?_;intro J hJ;simp only [];simp [f2,f7,w5,hk2,f8,w6];(refine hJ _ _ ?_;clear hJ J;simp only [ak,reduceIte]))))
  exact hJ0 (5 - (j+1)) _ _ (by omega) ⟨j+1,k,c,by omega,rfl,hak,hkb,by simp [f0],by simp [f1],by simp [f2],by simp [f7],by simp,rfl,hpm,hs⟩
 (repeat' (first | refine qS ?_ | refine qB ?_ | (refine qC ?_;simp [f2,f7,w5,hk2,w7]) | (refine w_e [] ?_;intro J hJ;simp only [];simp [f2,f7,w5,hk2,w7];(refine hJ _ _ ?_;clear hJ J;simp only [ak,reduceIte]))))
 refine qL (fun n fr st2=>∃ (m:Nat) (c:List Int),k < m∧m≤b∧n=b - m∧fr 0=.ms q 0 l.length∧fr 1=i a∧fr 2=i b∧fr 7=i k∧fr 8=i j∧fr 10=i m∧st2=bx st q c∧Pm a b l c∧Srt a k c) (b - (k+1)) ?_ ?_
 ·exact ⟨k+1,c,by omega,by omega,rfl,by simp [f0],by simp [f1],by simp [f2],by simp [f7],by simp [f8],by simp,rfl,hpm,hs⟩
 clear f0 f1 f2 f7 f8 hpm hs hcl c fr
 rintro n fr st2 ⟨m,c,hkm,hmb,rfl,f0,f1,f2,f7,f8,f10,rfl,hpm,hs⟩ JJ hJJ
 have hcl:=hpm.len
 by_cases hlt:m < b
 rotate_left
 ·clear hJJ
  (repeat' (first | refine qS ?_ | (refine qX ?_;simp only [ak,reduceIte]) | (refine qC ?_;simp [f2,f10,hlt,f8,w6]) | (refine w_e [] ?_;intro J hJ;simp only [];simp [f2,f10,hlt,f8,w6];(refine hJ _ _ ?_;clear hJ J;simp only [ak,reduceIte]))))
  exact hJ0 (5 - (j+1)) _ _ (by omega) ⟨j+1,k,c,by omega,rfl,hak,hkb,by simp [f0],by simp [f1],by simp [f2],by simp [f7],by simp,rfl,hpm,hs⟩
 have w4:=nat_sub_one m (by omega) (by omega)
 have w8:=qN m (by omega)
 have hd1:=qG c m (by omega)
 have hd2:=qG c (m - 1) (by omega)
 have hl3:m < l.length:=by omega
 have hl4:m - 1 < l.length:=by omega
 have hsw:=fun x y=>bx_sw st q c m (m - 1) (x:=x) (y:=y) (by omega) (by omega)
 have hpm2:=hpm.step m (m - 1) (by omega) (by omega) (by omega) (by omega) (by omega)
 have hs2:Srt a k (sw c m (m - 1)):=by
  intro p q h1 h2 h3
  rw [sw_get _ _ _ _ (by omega) (by omega),sw_get _ _ _ _ (by omega) (by omega),if_neg (by omega),if_neg (by omega),if_neg (by omega),if_neg (by omega)]
  exact hs p q h1 h2 (by omega)
 generalize hx:c.getD m 0=x at *
 generalize hy:c.getD (m - 1) 0=y at *
 have hsw':=hsw x y rfl rfl
 (repeat' (first | refine qS ?_ | refine qB ?_ | (refine qK ?_;simp only [ak,reduceIte]) | (refine qC ?_;simp [f2,f10,hlt]) | (refine w_e [] ?_;intro J hJ;simp only [];simp [f2,f10,hlt];(refine hJ _ _ ?_;clear hJ J;simp only [ak,reduceIte]))))
 (refine w_s [] [q] [(0,true),(1,true),(2,true),(3,true),(4,true),(5,true),(6,true),(7,true),(8,true),(9,false),(10,true)] ?_;intro J hJ;simp [f0,f10,w4,hl3,hl4,hcl,hd1,hd2])
 refine dcallK_of (Less x y _) ?_;rintro r s2 ⟨rfl,rfl⟩
 refine ⟨fun _=>by simp,?_⟩
 by_cases hxy:x < y
 rotate_left
 ·clear hJJ
  (refine d_go ?_;simp [hxy];(refine hJ _ _ ?_;clear hJ J;simp only [ak,reduceIte]))
  (repeat' (first | (refine qX ?_;simp only [ak,reduceIte]) | (refine qC ?_;simp [f8,w6]) | (refine w_e [] ?_;intro J hJ;simp only [];simp [f8,w6];(refine hJ _ _ ?_;clear hJ J;simp only [ak,reduceIte]))))
  exact hJ0 (5 - (j+1)) _ _ (by omega) ⟨j+1,k,c,by omega,rfl,hak,hkb,by simp [f0],by simp [f1],by simp [f2],by simp [f7],by simp,rfl,hpm,hs⟩
 (refine d_go ?_;simp [hxy];(refine hJ _ _ ?_;clear hJ J;simp only [ak,reduceIte]))
 (repeat' (first | (refine qK ?_;simp only [ak,reduceIte]) | (refine qC ?_;simp [])))
 (refine w_s [] [q] [(0,true),(1,true),(2,true),(3,true),(4,true),(5,true),(6,true),(7,true),(8,true),(9,true),(10,true),(11,true),(12,true),(13,true),(14,true),(15,false),(16,true),(17,false)] ?_;intro J hJ;simp [f0,f10,w4,hl3,hl4,hcl,hd1,hd2];(repeat refine ca ?_);(refine hJ _ _ ?_;clear hJ J;simp only [ak,reduceIte]))
 (repeat' (refine w_e [] ?_;intro J hJ;simp only [];simp [f10,w8];(refine hJ _ _ ?_;clear hJ J;simp only [ak,reduceIte])))
 exact hJJ (b - (m+1)) _ _ (by omega) ⟨m+1,sw c m (m - 1),by omega,by omega,rfl,by simp [f0],by simp [f1],by simp [f2],by simp [f7],by simp [f8],by simp,hsw',hpm2,hs2⟩
abbrev ix (st:St) (p:Nat) (s:Int):St:=st.set p (.box 3 1 [i s])
theorem ix_self {st:St} {p:Nat} {s:Int} (h:st.H p=.box 3 1 [i s]):st=ix st p s:=
 St.ext' rfl fun x=>by by_cases hx:x=p<;>simp [hx,h]
theorem ix_ix (st:St) (p:Nat) (s s':Int):ix (ix st p s) p s'=ix st p s':=St.set_set _ _ _ _
theorem order2 (l:List Int) (q p a b:Nat) (s:Int) (st:St) (hl:small l) (ha:a < l.length) (hb:b < l.length) (hpq:q≠p) (hH:st.H q=.box 29 1 (us l)) (hp:st.H p=.box 3 1 [i s]):
 ACalls Tryz.prog 179 [.ms q 0 l.length,i a,i b,.pt p 0] st fun r st'=>∃ (x y:Nat) (s':Int),r=.tu [i x,i y]∧st'=ix st p s'∧((x=a∧y=b)∨(x=b∧y=a)):=by
 unfold small at hl
 have hd1:=qG l a ha
 have hd2:=qG l b hb
 generalize l.getD a 0=x at *
 generalize l.getD b 0=y at *
 refine qO tabOk Tryz.func179 rfl rfl Tryz.ntmps179 (rs:=[.tmp 8,.tmp 9]) rfl (by simp) ?_
 (repeat (refine qS ?_));(refine w_e [] ?_;intro J hJ;simp only [];simp [];(refine hJ _ _ ?_;clear hJ J;simp only [ak,reduceIte]))
 (repeat (refine qS ?_));(refine w_s [] [q] [(0,true),(1,true),(2,true),(3,true),(4,true),(5,true),(6,true),(7,true),(8,false)] ?_;intro J hJ;simp [hH,ha,hb,hd1,hd2])
 refine dcallK_of (Less y x _) ?_;rintro r s2 ⟨rfl,rfl⟩
 refine ⟨fun _=>by simp [hH],?_⟩
 by_cases hyx:y < x
 ·(refine d_go ?_;simp [hyx];(refine hJ _ _ ?_;clear hJ J;simp only [ak,reduceIte]))
  (repeat' (first | refine qS ?_ | (refine qR ?_;simp only [ak,reduceIte];simp [hp]) | (refine qC ?_;simp [hp]) | (refine w_e [] ?_;intro J hJ;simp only [];simp [hp];(refine hJ _ _ ?_;clear hJ J;simp only [ak,reduceIte]))))
  exact ⟨b,a,⟨rfl,rfl⟩,⟨_,rfl⟩,.inr ⟨rfl,rfl⟩⟩
 ·(refine d_go ?_;simp [hyx];(refine hJ _ _ ?_;clear hJ J;simp only [ak,reduceIte]))
  (repeat' (first | refine qS ?_ | (refine qK ?_;simp only [ak,reduceIte]) | (refine qR ?_;simp only [ak,reduceIte];simp []) | (refine qC ?_;simp []) | (refine w_e [] ?_;intro J hJ;simp only [];simp [];(refine hJ _ _ ?_;clear hJ J;simp only [ak,reduceIte]))))
  exact ⟨a,b,⟨rfl,rfl⟩,⟨s,ix_self hp⟩,.inl ⟨rfl,rfl⟩⟩
theorem median (l:List Int) (q p a b c:Nat) (s:Int) (st:St) (hl:small l) (ha:a < l.length) (hb:b < l.length) (hc:c < l.length) (hpq:q≠p) (hH:st.H q=.box 29 1 (us l)) (hp:st.H p=.box 3 1 [i s]):
 ACalls Tryz.prog 169 [.ms q 0 l.length,i a,i b,i c,.pt p 0] st fun r st'=>∃ (x:Nat) (s':Int),r=i x∧st'=ix st p s'∧(x=a∨x=b∨x=c):=by
 refine qO tabOk Tryz.func169 rfl rfl Tryz.ntmps169 (rs:=[.tmp 10]) rfl (by simp) ?_
 (repeat' (first | refine qS ?_ | (refine w_e [] ?_;intro J hJ;simp only [];simp [];(try (refine hJ _ _ ?_;clear hJ J;simp only [ak,reduceIte])))))
 refine qF (order2 l q p a b s _ hl ha hb hpq hH hp) ?_;rintro r st' ⟨x,y,s1,rfl,rfl,h1⟩
 (repeat' (first | refine qS ?_ | ((first | (refine w_e [] ?_;intro J hJ;simp only []) | (refine e_go ?_));simp [];(try (refine hJ _ _ ?_;clear hJ J;simp only [ak,reduceIte])))))
 refine qF (order2 l q p y c s1 _ hl (by omega) hc hpq (by simp [hpq,hH]) (by simp)) ?_;rintro r st' ⟨x2,y2,s2,rfl,rfl,h2⟩
 (repeat' (first | refine qS ?_ | ((first | (refine w_e [] ?_;intro J hJ;simp only []) | (refine e_go ?_));simp [];(try (refine hJ _ _ ?_;clear hJ J;simp only [ak,reduceIte])))))
 refine qF (order2 l q p x x2 s2 _ hl (by omega) (by omega) hpq (by simp [hpq,hH]) (by simp)) ?_;rintro r st' ⟨x3,y3,s3,rfl,rfl,h3⟩
 (repeat' (first | refine qS ?_ | (refine qR ?_;simp only [ak,reduceIte];simp []) | ((first | (refine w_e [] ?_;intro J hJ;simp only []) | (refine e_go ?_));simp [];(refine hJ _ _ ?_;clear hJ J;simp only [ak,reduceIte]))))
 refine ⟨y3,rfl,⟨s3,?_⟩,by omega⟩
 rw [ix_ix,ix_ix]
theorem medianAdjacent (l:List Int) (q p a:Nat) (s:Int) (st:St) (hl:small l) (h0:0 < a) (ha:a+1 < l.length) (hpq:q≠p) (hH:st.H q=.box 29 1 (us l)) (hp:st.H p=.box 3 1 [i s]):
 ACalls Tryz.prog 168 [.ms q 0 l.length,i a,.pt p 0] st fun r st'=>∃ (x:Nat) (s':Int),r=i x∧st'=ix st p s'∧a - 1≤x∧x≤a+1:=by
 have hl':=hl
 unfold small at hl'
 have w1:=qN a (by omega)
 have w2:=nat_sub_one a (by omega) (by omega)
 refine qO tabOk Tryz.func168 rfl rfl Tryz.ntmps168 (rs:=[.tmp 6]) rfl (by simp) ?_
 (repeat' (first | refine qS ?_ | (refine w_e [] ?_;intro J hJ;simp only [];simp [w1,w2];(try (refine hJ _ _ ?_;clear hJ J;simp only [ak,reduceIte])))))
 refine qF (median l q p (a - 1) a (a+1) s _ hl (by omega) (by omega) (by omega) hpq hH hp) ?_;rintro r st' ⟨x,s1,rfl,rfl,h1⟩
 (repeat' (first | (refine qR ?_;simp only [ak,reduceIte];simp []) | (refine e_go ?_;simp [];(refine hJ _ _ ?_;clear hJ J;simp only [ak,reduceIte]))))
 exact ⟨x,rfl,⟨s1,rfl⟩,by omega⟩
def PivI (q n a b:Nat) (st:St) (fr:Frm) (st2:St):Prop:=∃ (j1 j2 j3:Nat) (s:Int),fr 0=.ms q 0 n∧fr 9=.pt st.next 0∧fr 10=i j1∧fr 11=i j2∧fr 12=i j3∧a≤j1∧j1 < b∧a≤j2∧j2 < b∧a≤j3∧j3 < b∧st2=ix (st.new (.box 3 1 [i 0])) st.next s
set_option maxHeartbeats 1000000 in
theorem choosePivot (l:List Int) (q a b:Nat) (st:St) (hl:small l) (hab:a+8≤b) (hb:b≤l.length) (hqn:q < st.next) (hH:st.H q=.box 29 1 (us l)):
 ACalls Tryz.prog 149 [.ms q 0 l.length,i a,i b] st fun r st'=>∃ (x:Nat) (h:Int),r=.tu [i x,i h]∧a≤x∧x < b∧Keeps st st':=by
 have hl':=hl
 unfold small at hl'
 obtain ⟨n,hn⟩:∃ n:Nat,n=b - a:=⟨_,rfl⟩
 obtain ⟨n4,hn4⟩:∃ m:Nat,m=n / 4:=⟨_,rfl⟩
 obtain ⟨k1,hk1⟩:∃ m:Nat,m=a+n4:=⟨_,rfl⟩
 obtain ⟨k2,hk2⟩:∃ m:Nat,m=a+n4 * 2:=⟨_,rfl⟩
 obtain ⟨k3,hk3⟩:∃ m:Nat,m=a+n4 * 3:=⟨_,rfl⟩
 have w1:IntKind.i64.wrap ((b:Int) - (a:Int))=(n:Int):=by rw [wrap_i64 _ (by omega) (by omega)];omega
 have w2:IntKind.i64.wrap ((n:Int) / 4)=(n4:Int):=by
  rw [show (n:Int) / 4=((n / 4:Nat):Int) from rfl,← hn4]
  exact wrap_i64 _ (by omega) (by omega)
 have w3:IntKind.i64.wrap (n4:Int)=(n4:Int):=wrap_i64 _ (by omega) (by omega)
 have w4:IntKind.i64.wrap ((n4:Int) * 2)=((n4 * 2:Nat):Int):=by rw [wrap_i64 _ (by omega) (by omega)];omega
 have w5:IntKind.i64.wrap ((n4:Int) * 3)=((n4 * 3:Nat):Int):=by rw [wrap_i64 _ (by omega) (by omega)];omega
 have w6:IntKind.i64.wrap ((a:Int)+(n4:Int))=(k1:Int):=by rw [wrap_i64 _ (by omega) (by omega)];omega
 have w7:IntKind.i64.wrap ((a:Int)+((n4 * 2:Nat):Int))=(k2:Int):=by rw [wrap_i64 _ (by omega) (by omega)];omega
 have w8:IntKind.i64.wrap ((a:Int)+((n4 * 3:Nat):Int))=(k3:Int):=by rw [wrap_i64 _ (by omega) (by omega)];omega
 have h8:(8:Int)≤(n:Int):=by omega
 have hqn':q≠st.next:=by omega
 generalize ((n4 * 2:Nat):Int)=e2 at *
 generalize ((n4 * 3:Nat):Int)=e3 at *
 refine qO tabOk Tryz.func149 rfl rfl Tryz.ntmps149 (rs:=[.tmp 6,.tmp 7]) rfl (by simp) ?_
 (repeat' (first | refine qS ?_ | (refine w_e [] ?_;intro J hJ;simp only [];simp [w1,w2,w3,w4,w5,w6,w7,w8,h8];(refine hJ _ _ ?_;clear hJ J;simp only [ak,reduceIte]))))
 refine qC ?_;simp [h8]
 refine qS ?_
 refine awp_cut1 (PivI q l.length a b st) ?_ ?_
 ·by_cases h50:(50:Int)≤(n:Int)
  ·(repeat' (first | refine qS ?_ | (refine qC ?_;simp [h50]) | (refine w_e [] ?_;intro J hJ;simp only [];simp [h50];(try (refine hJ _ _ ?_;clear hJ J;simp only [ak,reduceIte])))))
   refine qF (medianAdjacent l q st.next k1 0 _ hl (by omega) (by omega) hqn' (by simp [hqn',hH]) (by simp)) ?_;rintro r st' ⟨x1,s1,rfl,rfl,h1⟩
   (repeat' (first | refine qS ?_ | ((first | (refine w_e [] ?_;intro J hJ;simp only []) | (refine e_go ?_));simp [];(try (refine hJ _ _ ?_;clear hJ J;simp only [ak,reduceIte])))))
   refine qF (medianAdjacent l q st.next k2 s1 _ hl (by omega) (by omega) hqn' (by simp [hqn',hH]) (by simp)) ?_;rintro r st' ⟨x2,s2,rfl,rfl,h2⟩
   (repeat' ((first | (refine w_e [] ?_;intro J hJ;simp only []) | (refine e_go ?_));simp [];(try (refine hJ _ _ ?_;clear hJ J;simp only [ak,reduceIte]))))
   refine qF (medianAdjacent l q st.next k3 s2 _ hl (by omega) (by omega) hqn' (by simp [hqn',hH]) (by simp)) ?_;rintro r st' ⟨x3,s3,rfl,rfl,h3⟩
   (repeat' (refine e_go ?_;simp [];(refine hJ _ _ ?_;clear hJ J;simp only [ak,reduceIte])))
   refine ⟨by trivial,?_⟩;unfold PivI;exact ⟨x1,x2,x3,s3,by simp,by simp,by simp,by simp,by simp,by omega,by omega,by omega,by omega,by omega,by omega,by rw [ix_ix,ix_ix]⟩
  ·(repeat' (first | refine qS ?_ | (refine qK ?_;simp only [ak,reduceIte]) | (refine qC ?_;simp [h50]) | (refine w_e [] ?_;intro J hJ;simp only [];simp [h50];(refine hJ _ _ ?_;clear hJ J;simp only [ak,reduceIte]))))
   refine ⟨by trivial,?_⟩;unfold PivI;exact ⟨k1,k2,k3,0,by simp,by simp,by simp,by simp,by simp,by omega,by omega,by omega,by omega,by omega,by omega,ix_self (by simp)⟩
 rintro fr st2 ⟨j1,j2,j3,s,f0,f9,f10,f11,f12,h1,h2,h3,h4,h5,h6,rfl⟩
 (repeat' (refine w_e [] ?_;intro J hJ;simp only [];simp [f0,f9,f10,f11,f12]))
 refine qF (median l q st.next j1 j2 j3 s _ hl (by omega) (by omega) (by omega) hqn' (by simp [hqn',hH]) (by simp)) ?_;rintro r st' ⟨x,s1,rfl,rfl,hx⟩
 have hkp:Keeps st (ix (ix (st.new (.box 3 1 [i 0])) st.next s) st.next s1):=((Keeps.new _ _).set (Nat.le_refl _) _).set (Nat.le_refl _) _
 have hax:a≤x∧x < b:=by omega
 (repeat' (first | refine qS ?_ | refine qB ?_ | (refine qR ?_;simp only [ak,reduceIte];simp [f9]) | (refine qC ?_;simp [f9];(try with_reducible refine ⟨?_,?_⟩)<;>(try with_reducible intro hc)) | ((first | (refine w_e [] ?_;intro J hJ;simp only []) | (refine e_go ?_));simp [f9];(refine hJ _ _ ?_;clear hJ J;simp only [ak,reduceIte]))))
 all_goals exact ⟨x,rfl,hax.1,hax.2,hkp⟩
end Go.Proofs.YtglkgindpjdoiaaGreat.Aw
