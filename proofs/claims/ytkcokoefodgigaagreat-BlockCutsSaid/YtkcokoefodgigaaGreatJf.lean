/- The library's sort: choosePivot. -/
import Derived.Test.YtkcokoefodgigaaGreatJe
import Derived.Test.YtkcokoefodgigaaGreatAwFz
import Derived.Test.YtkcokoefodgigaaGreatAwRg
namespace Go.Proofs.YtkcokoefodgigaaGreat.Aw.CE
open Go Go.RowKit Go.Proofs.YtkcokoefodgigaaGreat.Pl
set_option linter.unusedSimpArgs false
set_option linter.unusedVariables false
abbrev ix (st:St) (p:Nat) (s:Int):St:=st.set p (.box 3 1 [i s])
theorem ix_self {st:St} {p:Nat} {s:Int} (h:st.H p=.box 3 1 [i s]):st=ix st p s:=
 St.ext' rfl fun x=>by by_cases hx:x=p<;>simp [hx,h]
theorem ix_ix (st:St) (p:Nat) (s s':Int):ix (ix st p s) p s'=ix st p s':=St.set_set _ _ _ _
theorem order2 {fid:FuncId} {caps:List LV} {eg:Int→Ed} {Dm:Int→Prop} (hC:CmpW fid caps eg Dm) (l:List Int) (q p a b:Nat) (s:Int) (st:St) (hD:∀ x∈l,Dm x) (hl:small l) (ha:a < l.length) (hb:b < l.length) (hpq:q≠p) (hH:st.H q=.box 34 3 (es3 eg l)) (hp:st.H p=.box 3 1 [i s]):
 ACalls Tryz.prog 113 [.ms q 0 l.length,i a,i b,.pt p 0,.fn (.func fid) caps] st fun r st'=>∃ (x y:Nat) (s':Int),r=.tu [i x,i y]∧st'=ix st p s'∧((x=a∧y=b)∨(x=b∧y=a)):=by
 unfold small at hl
 have hDa:=dm_get hD ha
 have hDb:=dm_get hD hb
 have hd1:=ws_drop eg l a ha
 have hd2:=ws_drop eg l b hb
 generalize l.getD a 0=x at *
 generalize l.getD b 0=y at *
 refine qO tabOk Tryz.func113 rfl rfl Tryz.ntmps113 (rs:=[.tmp 10,.tmp 11]) rfl (by simp) ?_
 (repeat (refine qS ?_));(refine w_e [] ?_;intro J hJ;simp only [];simp [];(repeat refine ca ?_);(try ((try with_reducible refine ⟨?_,?_⟩)<;>(try with_reducible intro hnil)<;>refine hJ _ _ ?_<;>clear hJ J<;>simp only [ak,reduceIte]<;>try subst hnil)))
 (repeat (refine qS ?_));(refine w_s [] [q] [(0,true),(1,true),(2,true),(3,true),(4,true),(5,true),(6,true),(7,true),(8,true),(9,false),(10,true)] ?_;intro J hJ;simp [hH,ha,hb,hd1,hd2,es3_length];(repeat refine ca ?_);(try ((try with_reducible refine ⟨?_,?_⟩)<;>(try with_reducible intro hnil)<;>refine hJ _ _ ?_<;>clear hJ J<;>simp only [ak,reduceIte]<;>try subst hnil)))
 refine dcallK_of (hC.call y x _ (by first | assumption | (subst_vars;exact dm_get (by assumption) (by omega))) (by first | assumption | (subst_vars;exact dm_get (by assumption) (by omega)))) ?_;rintro r s2 ⟨⟨nv,rfl,hnv⟩,rfl⟩
 refine ⟨fun _=>by simp [hH],?_⟩
 by_cases hyx:y < x
 ·(refine d_go ?_;simp [hnv,hyx];(repeat refine ca ?_);(try ((try with_reducible refine ⟨?_,?_⟩)<;>(try with_reducible intro hnil)<;>refine hJ _ _ ?_<;>clear hJ J<;>simp only [ak,reduceIte]<;>try subst hnil)))
  (repeat' (first | refine qS ?_ | refine qB ?_ | ((first | refine qK ?_ | refine qX ?_);simp only [ak,reduceIte]) | (refine qR ?_;simp only [ak,reduceIte];simp [hp]) | (refine qC ?_;simp [hp];(try with_reducible refine ⟨?_,?_⟩)<;>(try with_reducible intro hc)<;>try (exfalso;omega)) | ((first | (refine w_e [] ?_;intro J hJ;simp only []) | (refine w_q ?_;intro J hJ) | refine e_go ?_);simp [hp];(repeat refine ca ?_);(try ((try with_reducible refine ⟨?_,?_⟩)<;>(try with_reducible intro hnil)<;>refine hJ _ _ ?_<;>clear hJ J<;>simp only [ak,reduceIte]<;>try subst hnil)))))
  exact ⟨b,a,⟨rfl,rfl⟩,⟨_,rfl⟩,.inr ⟨rfl,rfl⟩⟩
 ·(refine d_go ?_;simp [hnv,hyx];(repeat refine ca ?_);(try ((try with_reducible refine ⟨?_,?_⟩)<;>(try with_reducible intro hnil)<;>refine hJ _ _ ?_<;>clear hJ J<;>simp only [ak,reduceIte]<;>try subst hnil)))
  (repeat' (first | refine qS ?_ | refine qB ?_ | ((first | refine qK ?_ | refine qX ?_);simp only [ak,reduceIte]) | (refine qR ?_;simp only [ak,reduceIte];simp []) | (refine qC ?_;simp [];(try with_reducible refine ⟨?_,?_⟩)<;>(try with_reducible intro hc)<;>try (exfalso;omega)) | ((first | (refine w_e [] ?_;intro J hJ;simp only []) | (refine w_q ?_;intro J hJ) | refine e_go ?_);simp [];(repeat refine ca ?_);(try ((try with_reducible refine ⟨?_,?_⟩)<;>(try with_reducible intro hnil)<;>refine hJ _ _ ?_<;>clear hJ J<;>simp only [ak,reduceIte]<;>try subst hnil)))))
  exact ⟨a,b,⟨rfl,rfl⟩,⟨s,ix_self hp⟩,.inl ⟨rfl,rfl⟩⟩
theorem median {fid:FuncId} {caps:List LV} {eg:Int→Ed} {Dm:Int→Prop} (hC:CmpW fid caps eg Dm) (l:List Int) (q p a b c:Nat) (s:Int) (st:St) (hD:∀ x∈l,Dm x) (hl:small l) (ha:a < l.length) (hb:b < l.length) (hc:c < l.length) (hpq:q≠p) (hH:st.H q=.box 34 3 (es3 eg l)) (hp:st.H p=.box 3 1 [i s]):
 ACalls Tryz.prog 107 [.ms q 0 l.length,i a,i b,i c,.pt p 0,.fn (.func fid) caps] st fun r st'=>∃ (x:Nat) (s':Int),r=i x∧st'=ix st p s'∧(x=a∨x=b∨x=c):=by
 refine qO tabOk Tryz.func107 rfl rfl Tryz.ntmps107 (rs:=[.tmp 12]) rfl (by simp) ?_
 (repeat' (first | refine qS ?_ | refine qB ?_ | ((first | refine qK ?_ | refine qX ?_);simp only [ak,reduceIte]) | (refine qR ?_;simp only [ak,reduceIte];simp []) | (refine qC ?_;simp [];(try with_reducible refine ⟨?_,?_⟩)<;>(try with_reducible intro hc)<;>try (exfalso;omega)) | ((first | (refine w_e [] ?_;intro J hJ;simp only []) | (refine w_q ?_;intro J hJ) | refine e_go ?_);simp [];(repeat refine ca ?_);(try ((try with_reducible refine ⟨?_,?_⟩)<;>(try with_reducible intro hnil)<;>refine hJ _ _ ?_<;>clear hJ J<;>simp only [ak,reduceIte]<;>try subst hnil)))))
 refine qF (order2 hC l q p a b s _ hD hl ha hb hpq hH hp) ?_;rintro r st' ⟨x,y,s1,rfl,rfl,h1⟩
 (repeat' (first | refine qS ?_ | refine qB ?_ | ((first | refine qK ?_ | refine qX ?_);simp only [ak,reduceIte]) | (refine qR ?_;simp only [ak,reduceIte];simp []) | (refine qC ?_;simp [];(try with_reducible refine ⟨?_,?_⟩)<;>(try with_reducible intro hc)<;>try (exfalso;omega)) | ((first | (refine w_e [] ?_;intro J hJ;simp only []) | (refine w_q ?_;intro J hJ) | refine e_go ?_);simp [];(repeat refine ca ?_);(try ((try with_reducible refine ⟨?_,?_⟩)<;>(try with_reducible intro hnil)<;>refine hJ _ _ ?_<;>clear hJ J<;>simp only [ak,reduceIte]<;>try subst hnil)))))
 refine qF (order2 hC l q p y c s1 _ hD hl (by omega) hc hpq (by simp [hpq,hH]) (by simp)) ?_;rintro r st' ⟨x2,y2,s2,rfl,rfl,h2⟩
 (repeat' (first | refine qS ?_ | refine qB ?_ | ((first | refine qK ?_ | refine qX ?_);simp only [ak,reduceIte]) | (refine qR ?_;simp only [ak,reduceIte];simp []) | (refine qC ?_;simp [];(try with_reducible refine ⟨?_,?_⟩)<;>(try with_reducible intro hc)<;>try (exfalso;omega)) | ((first | (refine w_e [] ?_;intro J hJ;simp only []) | (refine w_q ?_;intro J hJ) | refine e_go ?_);simp [];(repeat refine ca ?_);(try ((try with_reducible refine ⟨?_,?_⟩)<;>(try with_reducible intro hnil)<;>refine hJ _ _ ?_<;>clear hJ J<;>simp only [ak,reduceIte]<;>try subst hnil)))))
 refine qF (order2 hC l q p x x2 s2 _ hD hl (by omega) (by omega) hpq (by simp [hpq,hH]) (by simp)) ?_;rintro r st' ⟨x3,y3,s3,rfl,rfl,h3⟩
 (repeat' (first | refine qS ?_ | refine qB ?_ | ((first | refine qK ?_ | refine qX ?_);simp only [ak,reduceIte]) | (refine qR ?_;simp only [ak,reduceIte];simp []) | (refine qC ?_;simp [];(try with_reducible refine ⟨?_,?_⟩)<;>(try with_reducible intro hc)<;>try (exfalso;omega)) | ((first | (refine w_e [] ?_;intro J hJ;simp only []) | (refine w_q ?_;intro J hJ) | refine e_go ?_);simp [];(repeat refine ca ?_);(try ((try with_reducible refine ⟨?_,?_⟩)<;>(try with_reducible intro hnil)<;>refine hJ _ _ ?_<;>clear hJ J<;>simp only [ak,reduceIte]<;>try subst hnil)))))
 refine ⟨y3,rfl,⟨s3,?_⟩,by omega⟩
 rw [ix_ix,ix_ix]
theorem medianAdjacent {fid:FuncId} {caps:List LV} {eg:Int→Ed} {Dm:Int→Prop} (hC:CmpW fid caps eg Dm) (l:List Int) (q p a:Nat) (s:Int) (st:St) (hD:∀ x∈l,Dm x) (hl:small l) (h0:0 < a) (ha:a+1 < l.length) (hpq:q≠p) (hH:st.H q=.box 34 3 (es3 eg l)) (hp:st.H p=.box 3 1 [i s]):
 ACalls Tryz.prog 106 [.ms q 0 l.length,i a,.pt p 0,.fn (.func fid) caps] st fun r st'=>∃ (x:Nat) (s':Int),r=i x∧st'=ix st p s'∧a - 1≤x∧x≤a+1:=by
 have hl':=hl
 unfold small at hl'
 have w1:=qN a (by omega)
 have w2:=nat_sub_one a (by omega) (by omega)
 refine qO tabOk Tryz.func106 rfl rfl Tryz.ntmps106 (rs:=[.tmp 8]) rfl (by simp) ?_
 (repeat' (first | refine qS ?_ | refine qB ?_ | ((first | refine qK ?_ | refine qX ?_);simp only [ak,reduceIte]) | (refine qR ?_;simp only [ak,reduceIte];simp [w1,w2]) | (refine qC ?_;simp [w1,w2];(try with_reducible refine ⟨?_,?_⟩)<;>(try with_reducible intro hc)<;>try (exfalso;omega)) | ((first | (refine w_e [] ?_;intro J hJ;simp only []) | (refine w_q ?_;intro J hJ) | refine e_go ?_);simp [w1,w2];(repeat refine ca ?_);(try ((try with_reducible refine ⟨?_,?_⟩)<;>(try with_reducible intro hnil)<;>refine hJ _ _ ?_<;>clear hJ J<;>simp only [ak,reduceIte]<;>try subst hnil)))))
 refine qF (median hC l q p (a - 1) a (a+1) s _ hD hl (by omega) (by omega) (by omega) hpq hH hp) ?_;rintro r st' ⟨x,s1,rfl,rfl,h1⟩
 (repeat' (first | refine qS ?_ | refine qB ?_ | ((first | refine qK ?_ | refine qX ?_);simp only [ak,reduceIte]) | (refine qR ?_;simp only [ak,reduceIte];simp []) | (refine qC ?_;simp [];(try with_reducible refine ⟨?_,?_⟩)<;>(try with_reducible intro hc)<;>try (exfalso;omega)) | ((first | (refine w_e [] ?_;intro J hJ;simp only []) | (refine w_q ?_;intro J hJ) | refine e_go ?_);simp [];(repeat refine ca ?_);(try ((try with_reducible refine ⟨?_,?_⟩)<;>(try with_reducible intro hnil)<;>refine hJ _ _ ?_<;>clear hJ J<;>simp only [ak,reduceIte]<;>try subst hnil)))))
 exact ⟨x,rfl,⟨s1,rfl⟩,by omega⟩
def PivI (fid:FuncId) (caps:List LV) (eg:Int→Ed) (q n a b:Nat) (st:St) (fr:Frm) (st2:St):Prop:=∃ (j1 j2 j3:Nat) (s:Int),(fr 0=.ms q 0 n∧fr 3=.fn (.func fid) caps)∧fr 11=.pt st.next 0∧fr 12=i j1∧fr 13=i j2∧fr 14=i j3∧a≤j1∧j1 < b∧a≤j2∧j2 < b∧a≤j3∧j3 < b∧st2=ix (st.new (.box 3 1 [i 0])) st.next s
set_option maxHeartbeats 1000000 in
theorem choosePivot {fid:FuncId} {caps:List LV} {eg:Int→Ed} {Dm:Int→Prop} (hC:CmpW fid caps eg Dm) (l:List Int) (q a b:Nat) (st:St) (hD:∀ x∈l,Dm x) (hl:small l) (hab:a+8≤b) (hb:b≤l.length) (hqn:q < st.next) (hH:st.H q=.box 34 3 (es3 eg l)):
 ACalls Tryz.prog 94 [.ms q 0 l.length,i a,i b,.fn (.func fid) caps] st fun r st'=>∃ (x:Nat) (h:Int),r=.tu [i x,i h]∧a≤x∧x < b∧Keeps st st':=by
 have hl':=hl
 unfold small at hl'
 obtain ⟨n,hn⟩:∃ n:Nat,n=b - a:=⟨_,rfl⟩
 obtain ⟨n4,hn4⟩:∃ m:Nat,m=n / 4:=⟨_,rfl⟩
 obtain ⟨k1,hk1⟩:∃ m:Nat,m=a+n4:=⟨_,rfl⟩
 obtain ⟨k2,hk2⟩:∃ m:Nat,m=a+n4 * 2:=⟨_,rfl⟩
 obtain ⟨k3,hk3⟩:∃ m:Nat,m=a+n4 * 3:=⟨_,rfl⟩
 have w1:IntKind.i64.wrap ((b:Int) - (a:Int))=(n:Int):=by rw [wrap_i64 _ (by omega) (by omega)];omega
 have w2:IntKind.i64.wrap ((n:Int) / 4)=(n4:Int):=by
  rw [show (n:Int) / 4=((n / 4:Nat):Int) from rfl,← hn4]
  exact wrap_i64 _ (by omega) (by omega)
 have w3:IntKind.i64.wrap (n4:Int)=(n4:Int):=wrap_i64 _ (by omega) (by omega)
 have w4:IntKind.i64.wrap ((n4:Int) * 2)=((n4 * 2:Nat):Int):=by rw [wrap_i64 _ (by omega) (by omega)];omega
 have w5:IntKind.i64.wrap ((n4:Int) * 3)=((n4 * 3:Nat):Int):=by rw [wrap_i64 _ (by omega) (by omega)];omega
 have w6:IntKind.i64.wrap ((a:Int)+(n4:Int))=(k1:Int):=by rw [wrap_i64 _ (by omega) (by omega)];omega
 have w7:IntKind.i64.wrap ((a:Int)+((n4 * 2:Nat):Int))=(k2:Int):=by rw [wrap_i64 _ (by omega) (by omega)];omega
 have w8:IntKind.i64.wrap ((a:Int)+((n4 * 3:Nat):Int))=(k3:Int):=by rw [wrap_i64 _ (by omega) (by omega)];omega
 have h8:(8:Int)≤(n:Int):=by omega
 have hqn':q≠st.next:=by omega
 generalize ((n4 * 2:Nat):Int)=e2 at *
 generalize ((n4 * 3:Nat):Int)=e3 at *
 refine qO tabOk Tryz.func94 rfl rfl Tryz.ntmps94 (rs:=[.tmp 8,.tmp 9]) rfl (by simp) ?_
 (repeat' (first | refine qS ?_ | refine qB ?_ | ((first | refine qK ?_ | refine qX ?_);simp only [ak,reduceIte]) | (refine qR ?_;simp only [ak,reduceIte];simp [-new_set,w1,w2,w3,w4,w5,w6,w7,w8,h8]) | ((first | (refine w_e [] ?_;intro J hJ;simp only []) | (refine w_q ?_;intro J hJ) | refine e_go ?_);simp [-new_set,w1,w2,w3,w4,w5,w6,w7,w8,h8];(repeat refine ca ?_);(try ((try with_reducible refine ⟨?_,?_⟩)<;>(try with_reducible intro hnil)<;>refine hJ _ _ ?_<;>clear hJ J<;>simp only [ak,reduceIte]<;>try subst hnil)))))
 refine qC ?_;simp [-new_set,h8]
 refine qS ?_
 refine awp_cut1 (PivI fid caps eg q l.length a b st) ?_ ?_
 ·by_cases h50:(50:Int)≤(n:Int)
  ·(repeat' (first | refine qS ?_ | refine qB ?_ | ((first | refine qK ?_ | refine qX ?_);simp only [ak,reduceIte]) | (refine qR ?_;simp only [ak,reduceIte];simp [-new_set,h50]) | (refine qC ?_;simp [-new_set,h50];(try with_reducible refine ⟨?_,?_⟩)<;>(try with_reducible intro hc)<;>try (exfalso;omega)) | ((first | (refine w_e [] ?_;intro J hJ;simp only []) | (refine w_q ?_;intro J hJ) | refine e_go ?_);simp [-new_set,h50];(repeat refine ca ?_);(try ((try with_reducible refine ⟨?_,?_⟩)<;>(try with_reducible intro hnil)<;>refine hJ _ _ ?_<;>clear hJ J<;>simp only [ak,reduceIte]<;>try subst hnil)))))
   refine qF (medianAdjacent hC l q st.next k1 0 _ hD hl (by omega) (by omega) hqn' (by simp [-new_set,hqn',hH]) (by simp [-new_set])) ?_;rintro r st' ⟨x1,s1,rfl,rfl,h1⟩
   (repeat' (first | refine qS ?_ | refine qB ?_ | ((first | refine qK ?_ | refine qX ?_);simp only [ak,reduceIte]) | (refine qR ?_;simp only [ak,reduceIte];simp [-new_set]) | (refine qC ?_;simp [-new_set];(try with_reducible refine ⟨?_,?_⟩)<;>(try with_reducible intro hc)<;>try (exfalso;omega)) | ((first | (refine w_e [] ?_;intro J hJ;simp only []) | (refine w_q ?_;intro J hJ) | refine e_go ?_);simp [-new_set];(repeat refine ca ?_);(try ((try with_reducible refine ⟨?_,?_⟩)<;>(try with_reducible intro hnil)<;>refine hJ _ _ ?_<;>clear hJ J<;>simp only [ak,reduceIte]<;>try subst hnil)))))
   refine qF (medianAdjacent hC l q st.next k2 s1 _ hD hl (by omega) (by omega) hqn' (by simp [-new_set,hqn',hH]) (by simp [-new_set])) ?_;rintro r st' ⟨x2,s2,rfl,rfl,h2⟩
   (repeat' (first | refine qS ?_ | refine qB ?_ | ((first | refine qK ?_ | refine qX ?_);simp only [ak,reduceIte]) | (refine qR ?_;simp only [ak,reduceIte];simp [-new_set]) | (refine qC ?_;simp [-new_set];(try with_reducible refine ⟨?_,?_⟩)<;>(try with_reducible intro hc)<;>try (exfalso;omega)) | ((first | (refine w_e [] ?_;intro J hJ;simp only []) | (refine w_q ?_;intro J hJ) | refine e_go ?_);simp [-new_set];(repeat refine ca ?_);(try ((try with_reducible refine ⟨?_,?_⟩)<;>(try with_reducible intro hnil)<;>refine hJ _ _ ?_<;>clear hJ J<;>simp only [ak,reduceIte]<;>try subst hnil)))))
   refine qF (medianAdjacent hC l q st.next k3 s2 _ hD hl (by omega) (by omega) hqn' (by simp [-new_set,hqn',hH]) (by simp [-new_set])) ?_;rintro r st' ⟨x3,s3,rfl,rfl,h3⟩
   (repeat' (first | refine qS ?_ | refine qB ?_ | ((first | refine qK ?_ | refine qX ?_);simp only [ak,reduceIte]) | (refine qR ?_;simp only [ak,reduceIte];simp [-new_set]) | (refine qC ?_;simp [-new_set];(try with_reducible refine ⟨?_,?_⟩)<;>(try with_reducible intro hc)<;>try (exfalso;omega)) | ((first | (refine w_e [] ?_;intro J hJ;simp only []) | (refine w_q ?_;intro J hJ) | refine e_go ?_);simp [-new_set];(repeat refine ca ?_);(try ((try with_reducible refine ⟨?_,?_⟩)<;>(try with_reducible intro hnil)<;>refine hJ _ _ ?_<;>clear hJ J<;>simp only [ak,reduceIte]<;>try subst hnil)))))
   refine ⟨by trivial,?_⟩;unfold PivI;exact ⟨x1,x2,x3,s3,by simp [-new_set],by simp [-new_set],by simp [-new_set],by simp [-new_set],by simp [-new_set],by omega,by omega,by omega,by omega,by omega,by omega,by rw [ix_ix,ix_ix]⟩
  ·(repeat' (first | refine qS ?_ | refine qB ?_ | ((first | refine qK ?_ | refine qX ?_);simp only [ak,reduceIte]) | (refine qR ?_;simp only [ak,reduceIte];simp [-new_set,h50]) | (refine qC ?_;simp [-new_set,h50];(try with_reducible refine ⟨?_,?_⟩)<;>(try with_reducible intro hc)<;>try (exfalso;omega)) | ((first | (refine w_e [] ?_;intro J hJ;simp only []) | (refine w_q ?_;intro J hJ) | refine e_go ?_);simp [-new_set,h50];(repeat refine ca ?_);(try ((try with_reducible refine ⟨?_,?_⟩)<;>(try with_reducible intro hnil)<;>refine hJ _ _ ?_<;>clear hJ J<;>simp only [ak,reduceIte]<;>try subst hnil)))))
   refine ⟨by trivial,?_⟩;unfold PivI;exact ⟨k1,k2,k3,0,by simp [-new_set],by simp [-new_set],by simp [-new_set],by simp [-new_set],by simp [-new_set],by omega,by omega,by omega,by omega,by omega,by omega,ix_self (by simp [-new_set])⟩
 rintro fr st2 ⟨j1,j2,j3,s,⟨f0,fC⟩,f9,f10,f11,f12,h1,h2,h3,h4,h5,h6,rfl⟩
 (repeat' (first | refine qS ?_ | refine qB ?_ | ((first | refine qK ?_ | refine qX ?_);simp only [ak,reduceIte]) | (refine qR ?_;simp only [ak,reduceIte];simp [-new_set,f0,fC,f9,f10,f11,f12]) | (refine qC ?_;simp [-new_set,f0,fC,f9,f10,f11,f12];(try with_reducible refine ⟨?_,?_⟩)<;>(try with_reducible intro hc)<;>try (exfalso;omega)) | ((first | (refine w_e [] ?_;intro J hJ;simp only []) | (refine w_q ?_;intro J hJ) | refine e_go ?_);simp [-new_set,f0,fC,f9,f10,f11,f12];(repeat refine ca ?_);(try ((try with_reducible refine ⟨?_,?_⟩)<;>(try with_reducible intro hnil)<;>refine hJ _ _ ?_<;>clear hJ J<;>simp only [ak,reduceIte]<;>try subst hnil)))))
 refine qF (median hC l q st.next j1 j2 j3 s _ hD hl (by omega) (by omega) (by omega) hqn' (by simp [-new_set,hqn',hH]) (by simp [-new_set])) ?_;rintro r st' ⟨x,s1,rfl,rfl,hx⟩
 have hkp:Keeps st (ix (ix (st.new (.box 3 1 [i 0])) st.next s) st.next s1):=((Keeps.new _ _).set (Nat.le_refl _) _).set (Nat.le_refl _) _
 have hax:a≤x∧x < b:=by omega
 (repeat' (first | refine qS ?_ | refine qB ?_ | ((first | refine qK ?_ | refine qX ?_);simp only [ak,reduceIte]) | (refine qR ?_;simp only [ak,reduceIte];simp [-new_set,f9]) | (refine qC ?_;simp [-new_set,f9];(try with_reducible refine ⟨?_,?_⟩)<;>(try with_reducible intro hc)<;>try (exfalso;omega)) | ((first | (refine w_e [] ?_;intro J hJ;simp only []) | (refine w_q ?_;intro J hJ) | refine e_go ?_);simp [-new_set,f9];(repeat refine ca ?_);(try ((try with_reducible refine ⟨?_,?_⟩)<;>(try with_reducible intro hnil)<;>refine hJ _ _ ?_<;>clear hJ J<;>simp only [ak,reduceIte]<;>try subst hnil)))))
 all_goals exact ⟨x,rfl,hax.1,hax.2,hkp⟩
def BrkI (fid:FuncId) (caps:List LV) (eg:Int→Ed) (q p a b n m k:Nat) (l:List Int) (st:St) (fr:Frm) (st2:St):Prop:=(fr 0=.ms q 0 l.length∧fr 3=.fn (.func fid) caps)∧fr 1=i a∧fr 8=i n∧fr 9=.pt p 0∧fr 10=uw m∧fr 11=i k∧p < st2.next∧OffS q st st2∧(∃ s,st2.H p=.box 100 1 [uw s])∧∃ c,st2.H q=.box 34 3 (es3 eg c)∧Pm a b l c
def BrkJ (fid:FuncId) (caps:List LV) (eg:Int→Ed) (q p a b n m k:Nat) (l:List Int) (st:St) (fr:Frm) (st2:St):Prop:=BrkI fid caps eg q p a b n m k l st fr st2∧∃ o:Nat,o < n∧fr 12=i o
set_option maxHeartbeats 1000000 in
theorem breakPatterns {fid:FuncId} {caps:List LV} {eg:Int→Ed} {Dm:Int→Prop} (hC:CmpW fid caps eg Dm) (l:List Int) (q a b:Nat) (st:St) (hD:∀ x∈l,Dm x) (hl:l.length < 65536) (hab:a+8≤b) (hb:b≤l.length) (hqn:q < st.next) (hH:st.H q=.box 34 3 (es3 eg l)):
 ACalls Tryz.prog 93 [.ms q 0 l.length,i a,i b,.fn (.func fid) caps] st fun r st'=>∃ c,st'.H q=.box 34 3 (es3 eg c)∧Pm a b l c∧OffS q st st':=by
 obtain ⟨n,hn⟩:∃ n:Nat,n=b - a:=⟨_,rfl⟩
 obtain ⟨n4,hn4⟩:∃ m:Nat,m=n / 4:=⟨_,rfl⟩
 obtain ⟨k0,hk0⟩:∃ m:Nat,m=a+n4 * 2:=⟨_,rfl⟩
 have w1:IntKind.i64.wrap ((b:Int) - (a:Int))=(n:Int):=by rw [wrap_i64 _ (by omega) (by omega)];omega
 have w2:IntKind.i64.wrap ((n:Int) / 4)=(n4:Int):=by
  rw [show (n:Int) / 4=((n / 4:Nat):Int) from rfl,← hn4]
  exact wrap_i64 _ (by omega) (by omega)
 have w4:IntKind.i64.wrap ((n4:Int) * 2)=((n4 * 2:Nat):Int):=by rw [wrap_i64 _ (by omega) (by omega)];omega
 have w7:IntKind.i64.wrap ((a:Int)+((n4 * 2:Nat):Int))=(k0:Int):=by rw [wrap_i64 _ (by omega) (by omega)];omega
 have w8:=nat_sub_one k0 (by omega) (by omega)
 obtain ⟨k1,hk1⟩:∃ m:Nat,m=k0+1:=⟨_,rfl⟩
 have w9:IntKind.i64.wrap ((k0:Int)+1)=(k1:Int):=by rw [qN k0 (by omega),hk1]
 have w10:IntKind.u64.wrap (n:Int)=(n:Int):=wrap_u64 _ (by omega) (by omega)
 have h8:(8:Int)≤(n:Int):=by omega
 have hbl:=(blen_at n (by omega)).2 (by omega)
 obtain ⟨m,hm⟩:∃ m:Nat,m=2 ^ blen n:=⟨_,rfl⟩
 rw [← hm] at hbl
 have w11:IntKind.u64.wrap ((m:Int) - 1)=((m - 1:Nat):Int):=by rw [wrap_u64 _ (by omega) (by omega)];omega
 generalize ((n4 * 2:Nat):Int)=e2 at *
 refine qO tabOk Tryz.func93 rfl rfl Tryz.ntmps93 (rs:=[]) rfl (by simp) ?_
 (repeat' (first | refine qS ?_ | refine qB ?_ | ((first | refine qK ?_ | refine qX ?_);simp only [ak,reduceIte]) | (refine qR ?_;simp only [ak,reduceIte];simp [-new_set,w1]) | ((first | (refine w_e [] ?_;intro J hJ;simp only []) | (refine w_q ?_;intro J hJ) | refine e_go ?_);simp [-new_set,w1];(repeat refine ca ?_);(try ((try with_reducible refine ⟨?_,?_⟩)<;>(try with_reducible intro hnil)<;>refine hJ _ _ ?_<;>clear hJ J<;>simp only [ak,reduceIte]<;>try subst hnil)))))
 refine qC ?_;simp [-new_set,h8]
 (repeat' (first | refine qS ?_ | refine qB ?_ | ((first | refine qK ?_ | refine qX ?_);simp only [ak,reduceIte]) | (refine qR ?_;simp only [ak,reduceIte];simp [-new_set,w10,w1]) | ((first | (refine w_e [] ?_;intro J hJ;simp only []) | (refine w_q ?_;intro J hJ) | refine e_go ?_);simp [-new_set,w10,w1];(repeat refine ca ?_);(try ((try with_reducible refine ⟨?_,?_⟩)<;>(try with_reducible intro hnil)<;>refine hJ _ _ ?_<;>clear hJ J<;>simp only [ak,reduceIte]<;>try subst hnil)))))
 refine qF (nextPowerOfTwo n _ (by omega)) ?_;rintro r st' ⟨rfl,rfl⟩
 rw [← hm]
 (repeat' (first | refine qS ?_ | refine qB ?_ | ((first | refine qK ?_ | refine qX ?_);simp only [ak,reduceIte]) | (refine qR ?_;simp only [ak,reduceIte];simp [-new_set,w2,w4,w7,w8]) | ((first | (refine w_e [] ?_;intro J hJ;simp only []) | (refine w_q ?_;intro J hJ) | refine e_go ?_);simp [-new_set,w2,w4,w7,w8];(repeat refine ca ?_);(try ((try with_reducible refine ⟨?_,?_⟩)<;>(try with_reducible intro hnil)<;>refine hJ _ _ ?_<;>clear hJ J<;>simp only [ak,reduceIte]<;>try subst hnil)))))
 refine qL (fun z fr st2=>∃ k:Nat,k0≤k+1∧k≤k0+2∧z=k0+2 - k∧BrkI fid caps eg q st.next a b n m k l st fr st2) 3 ?_ ?_
 ·refine ⟨k0 - 1,by omega,by omega,by omega,?_⟩
  unfold BrkI
  have hne:¬ q=st.next:=by omega
  refine ⟨by simp [-new_set],by simp [-new_set],by simp [-new_set],by simp [-new_set],by simp [-new_set],by simp [-new_set],by simp [-new_set],?_,⟨n,by simp [-new_set]⟩,l,by simp [-new_set,hne,hH],.refl⟩
  exact ((OffS.refl q st).keeps (Keeps.new _ _)).set' (Nat.le_refl _) _
 rintro z fr st2 ⟨k,hkl,hku,rfl,⟨f0,fC⟩,f1,f6,f7,f8,f9,hpn,hof,⟨s,hs⟩,c,hcq,hpm⟩ JJ hJJ
 have hcl:=hpm.len
 have hDc:=dm_pm hD hpm
 by_cases hlt:(k:Int)≤(k1:Int)
 rotate_left
 ·clear hJJ
  (repeat' (first | refine qS ?_ | refine qB ?_ | ((first | refine qK ?_ | refine qX ?_);simp only [ak,reduceIte]) | (refine qR ?_;simp only [ak,reduceIte];simp [-new_set,f1,f6,f9,w2,w4,w7,w9,hlt]) | (refine qC ?_;simp [-new_set,f1,f6,f9,w2,w4,w7,w9,hlt];(try with_reducible refine ⟨?_,?_⟩)<;>(try with_reducible intro hc)<;>try (exfalso;omega)) | ((first | (refine w_e [] ?_;intro J hJ;simp only []) | (refine w_q ?_;intro J hJ) | refine e_go ?_);simp [-new_set,f1,f6,f9,w2,w4,w7,w9,hlt];(repeat refine ca ?_);(try ((try with_reducible refine ⟨?_,?_⟩)<;>(try with_reducible intro hnil)<;>refine hJ _ _ ?_<;>clear hJ J<;>simp only [ak,reduceIte]<;>try subst hnil)))))
  exact ⟨trivial,c,hcq,hpm,hof⟩
 (repeat (refine qS ?_));(refine w_e [] ?_;intro J hJ;simp only [];simp [-new_set,f1,f6,f9,w2,w4,w7,w9,hlt];(repeat refine ca ?_);(try ((try with_reducible refine ⟨?_,?_⟩)<;>(try with_reducible intro hnil)<;>refine hJ _ _ ?_<;>clear hJ J<;>simp only [ak,reduceIte]<;>try subst hnil)))
 refine qC ?_;simp [-new_set,hlt]
 refine qK ?_;simp only [ak,reduceIte]
 refine qS ?_
 refine qB ?_
 refine qS ?_
 (refine w_e [] ?_;intro J hJ;simp only [];simp [-new_set,f7];(repeat refine ca ?_);(try ((try with_reducible refine ⟨?_,?_⟩)<;>(try with_reducible intro hnil)<;>refine hJ _ _ ?_<;>clear hJ J<;>simp only [ak,reduceIte]<;>try subst hnil)))
 refine qF (xNext st.next s _ hs) ?_;rintro r st' ⟨s1,rfl,rfl⟩
 obtain ⟨o,ho,hgo⟩:=gand_lt s1 m (by omega) (by omega)
 have w12:IntKind.i64.wrap (o:Int)=(o:Int):=wrap_i64 _ (by omega) (by omega)
 (refine e_go ?_;simp [-new_set,f8,w11,hgo,w12];(repeat refine ca ?_);(try ((try with_reducible refine ⟨?_,?_⟩)<;>(try with_reducible intro hnil)<;>refine hJ _ _ ?_<;>clear hJ J<;>simp only [ak,reduceIte]<;>try subst hnil)))
 refine qS ?_
 refine awp_cut1 (BrkJ fid caps eg q st.next a b n m k l st) ?_ ?_
 ·have hqne:¬ q=st.next:=by omega
  have hI:∀ fr2:Frm,(fr2 0=fr 0∧fr2 3=fr 3)→fr2 1=fr 1→fr2 8=fr 8→fr2 9=fr 9→fr2 10=fr 10→fr2 11=fr 11→BrkI fid caps eg q st.next a b n m k l st fr2 (xx st2 st.next s1):=by
   intro fr2 g0 g1 g6 g7 g8 g9
   exact ⟨⟨by rw [g0.1,f0],by rw [g0.2,fC]⟩,by rw [g1,f1],by rw [g6,f6],by rw [g7,f7],by rw [g8,f8],by rw [g9,f9],by simpa using hpn,hof.set' (Nat.le_refl _) _,⟨s1,by simp [-new_set]⟩,c,by simp [-new_set,hqne,hcq],hpm⟩
  by_cases hge:(n:Int)≤(o:Int)
  ·have w13:IntKind.i64.wrap ((o:Int) - (n:Int))=((o - n:Nat):Int):=by rw [wrap_i64 _ (by omega) (by omega)];omega
   (repeat' (first | refine qS ?_ | refine qB ?_ | ((first | refine qK ?_ | refine qX ?_);simp only [ak,reduceIte]) | (refine qR ?_;simp only [ak,reduceIte];simp [-new_set,f6,hge,w13]) | (refine qC ?_;simp [-new_set,f6,hge,w13];(try with_reducible refine ⟨?_,?_⟩)<;>(try with_reducible intro hc)<;>try (exfalso;omega)) | ((first | (refine w_e [] ?_;intro J hJ;simp only []) | (refine w_q ?_;intro J hJ) | refine e_go ?_);simp [-new_set,f6,hge,w13];(repeat refine ca ?_);(try ((try with_reducible refine ⟨?_,?_⟩)<;>(try with_reducible intro hnil)<;>refine hJ _ _ ?_<;>clear hJ J<;>simp only [ak,reduceIte]<;>try subst hnil)))))
   refine ⟨by trivial,?_⟩
   exact ⟨hI _ (by simp [-new_set]) (by simp [-new_set]) (by simp [-new_set]) (by simp [-new_set]) (by simp [-new_set]) (by simp [-new_set]),o - n,by omega,by simp [-new_set]⟩
  ·(repeat' (first | refine qS ?_ | refine qB ?_ | ((first | refine qK ?_ | refine qX ?_);simp only [ak,reduceIte]) | (refine qR ?_;simp only [ak,reduceIte];simp [-new_set,f6,hge]) | (refine qC ?_;simp [-new_set,f6,hge];(try with_reducible refine ⟨?_,?_⟩)<;>(try with_reducible intro hc)<;>try (exfalso;omega)) | ((first | (refine w_e [] ?_;intro J hJ;simp only []) | (refine w_q ?_;intro J hJ) | refine e_go ?_);simp [-new_set,f6,hge];(repeat refine ca ?_);(try ((try with_reducible refine ⟨?_,?_⟩)<;>(try with_reducible intro hnil)<;>refine hJ _ _ ?_<;>clear hJ J<;>simp only [ak,reduceIte]<;>try subst hnil)))))
   refine ⟨by trivial,?_⟩
   exact ⟨hI _ (by simp [-new_set]) (by simp [-new_set]) (by simp [-new_set]) (by simp [-new_set]) (by simp [-new_set]) (by simp [-new_set]),o,by omega,by simp [-new_set]⟩
 clear f0 fC f1 f6 f7 f8 f9 hpn hof hs hcq hpm hcl hDc hgo w12 ho o s s1 c st2 fr
 rintro fr st2 ⟨⟨⟨f0,fC⟩,f1,f6,f7,f8,f9,hpn,hof,⟨s,hs⟩,c,hcq,hpm⟩,o,ho,f10⟩
 have hcl:=hpm.len
 have hDc:=dm_pm hD hpm
 obtain ⟨x,hx⟩:∃ x:Nat,x=a+o:=⟨_,rfl⟩
 have w12:IntKind.i64.wrap ((a:Int)+(o:Int))=(x:Int):=by rw [wrap_i64 _ (by omega) (by omega)];omega
 have w13:=qN k (by omega)
 have hd1:=ws_drop eg c k (by omega)
 have hd2:=ws_drop eg c x (by omega)
 have hl3:k < l.length:=by omega
 have hl4:x < l.length:=by omega
 have hsw:=fun v y=>bx_sw' eg st2 q c k x (x:=v) (y:=y) (by omega) (by omega)
 have hpm2:=hpm.step k x (by omega) (by omega) (by omega) (by omega) (by omega)
 generalize hv:c.getD k 0=v at *
 generalize hy:c.getD x 0=y at *
 have hsw':=hsw v y rfl rfl
 (refine w_s [] [q] [(0,true),(1,true),(2,true),(3,true),(4,true),(5,true),(6,true),(7,true),(8,true),(9,true),(10,true),(11,true),(12,true),(13,true),(14,true),(15,true),(16,true),(17,false),(18,true),(19,false)] ?_;intro J hJ;simp [-new_set,f0,fC,f1,f9,f10,w12,hl3,hl4,hcl,hcq,hd1,hd2,es3_length];(repeat refine ca ?_);(try ((try with_reducible refine ⟨?_,?_⟩)<;>(try with_reducible intro hnil)<;>refine hJ _ _ ?_<;>clear hJ J<;>simp only [ak,reduceIte]<;>try subst hnil)))
 (repeat' (first | refine qS ?_ | refine qB ?_ | ((first | refine qK ?_ | refine qX ?_);simp only [ak,reduceIte]) | (refine qR ?_;simp only [ak,reduceIte];simp [-new_set,f9,w13]) | (refine qC ?_;simp [-new_set,f9,w13];(try with_reducible refine ⟨?_,?_⟩)<;>(try with_reducible intro hc)<;>try (exfalso;omega)) | ((first | (refine w_e [] ?_;intro J hJ;simp only []) | (refine w_q ?_;intro J hJ) | refine e_go ?_);simp [-new_set,f9,w13];(repeat refine ca ?_);(try ((try with_reducible refine ⟨?_,?_⟩)<;>(try with_reducible intro hnil)<;>refine hJ _ _ ?_<;>clear hJ J<;>simp only [ak,reduceIte]<;>try subst hnil)))))
 have hqne:¬ st.next=q:=by omega
 rw [hsw']
 exact hJJ (k0+2 - (k+1)) _ _ (by omega) ⟨k+1,by omega,by omega,rfl,by simp [-new_set,f0,fC],by simp [-new_set,f1],by simp [-new_set,f6],by simp [-new_set,f7],by simp [-new_set,f8],by simp [-new_set],by simpa using hpn,hof.set _,⟨s,by simp [-new_set,hqne,hs]⟩,_,by simp [-new_set],hpm2⟩
theorem Srt.out {a m:Nat} {c d:List Int} (h:Srt a m c) (e:∀ j,a≤j→j < m→d.getD j 0=c.getD j 0):Srt a m d:=by
 intro p q h1 h2 h3
 rw [e p h1 (by omega),e q (by omega) h3];exact h p q h1 h2 h3
theorem Ahead.less {d:List Int} {a m b:Nat} (h:Ahead d a b) (hm:m≤b):Ahead d a m:=fun h0 j g1 g2=>h h0 j g1 (by omega)
theorem eq_glue {c d:List Int} {a m b:Nat} {x:Int} (h:PartedEq c a m b x) (hlow:∀ j,a≤j→j < m→x≤c.getD j 0) (k:Pm m b c d) (hs:Srt m b d):Srt a b d:=by
 intro p q h1 h2 h3
 by_cases hq:q < m
 ·rw [k.out p (by omega),k.out q (by omega)]
  have:=h.1 p h1 (by omega);have:=hlow q (by omega) hq;omega
 ·by_cases hp:p < m
  ·rw [k.out p (by omega)]
   have g:=h.1 p h1 hp
   have:x < d.getD q 0:=k.all (fun v=>x < v) h.2 q (by omega) h3
   omega
  ·exact hs p q (by omega) h2 h3
def Fin9 (a b a' b':Nat) (c:List Int):Prop:=∀ d,Pm a' b' c d→Srt a' b' d→Srt a b d
theorem Fin9.pm {a b a' b':Nat} {c d:List Int} (h:Fin9 a b a' b' c) (k:Pm a' b' c d):Fin9 a b a' b' d:=fun e h1 h2=>h e (k.trans h1) h2
def PdI (fid:FuncId) (caps:List LV) (eg:Int→Ed) (q:Nat) (l:List Int) (st:St) (a b a' b':Nat) (wb wp:Bool) (lim n:Nat) (fr:Frm) (st2:St):Prop:=
 (fr 0=.ms q 0 l.length∧fr 4=.fn (.func fid) caps)∧fr 1=i a'∧fr 2=i b'∧fr 3=i lim∧fr 10=bb wb∧fr 11=bb wp∧fr 12=i n∧lim < 1000000∧q < st2.next∧OffS q st st2∧∃ c,st2.H q=.box 34 3 (es3 eg c)∧Pm a b l c∧Ahead c a' b'∧Fin9 a b a' b' c
theorem PdI.mk {fid:FuncId} {caps:List LV} {eg:Int→Ed} {q:Nat} {l:List Int} {st:St} {a b a' b':Nat} {wb wp:Bool} {lim n:Nat} {fr:Frm} {st2:St} {c:List Int} (f0:(fr 0=.ms q 0 l.length∧fr 4=.fn (.func fid) caps)) (f1:fr 1=i a') (f2:fr 2=i b') (f3:fr 3=i lim) (f8:fr 10=bb wb) (f9:fr 11=bb wp) (f10:fr 12=i n) (hlm:lim < 1000000) (hqn:q < st2.next) (ho:OffS q st st2) (hc:st2.H q=.box 34 3 (es3 eg c)) (hp:Pm a b l c) (ha:Ahead c a' b') (hf:Fin9 a b a' b' c):PdI fid caps eg q l st a b a' b' wb wp lim n fr st2:=
 ⟨f0,f1,f2,f3,f8,f9,f10,hlm,hqn,ho,c,hc,hp,ha,hf⟩
def PdJ (fid:FuncId) (caps:List LV) (eg:Int→Ed) (q:Nat) (l:List Int) (st:St) (a b a' b':Nat) (wb wp:Bool) (n:Nat) (fr:Frm) (st2:St):Prop:=∃ lim,PdI fid caps eg q l st a b a' b' wb wp lim n fr st2
def PdK (fid:FuncId) (caps:List LV) (eg:Int→Ed) (q:Nat) (l:List Int) (st:St) (a b a' b':Nat) (wb wp:Bool) (n:Nat) (fr:Frm) (st2:St):Prop:=∃ lim,PdI fid caps eg q l st a b a' b' wb wp lim n fr st2∧∃ (pv:Nat) (h:Int),a'≤pv∧pv < b'∧fr 13=i pv∧fr 14=i h
set_option maxHeartbeats 4000000 in
theorem pdqsort_upto {fid:FuncId} {caps:List LV} {eg:Int→Ed} {Dm:Int→Prop} (hC:CmpW fid caps eg Dm) (Z:Nat):∀ (l:List Int) (q a b lim:Nat) (st:St),(∀ x∈l,Dm x)→l.length < 65536→a≤b→b≤l.length→b - a < Z→Ahead l a b→lim < 1000000→q < st.next→st.H q=.box 34 3 (es3 eg l)→
 ACalls Tryz.prog 74 [.ms q 0 l.length,i a,i b,i lim,.fn (.func fid) caps] st fun r st'=>∃ c,st'.H q=.box 34 3 (es3 eg c)∧Pm a b l c∧Srt a b c∧OffS q st st':=by
 induction Z with
 | zero=>intro l q a b lim st _ _ _ _ h;omega
 | succ Z ih=>
 intro l q a b lim st hD hl hab hb hZ hah hlim hqn hH
 have hsm:small l:=by unfold small;omega
 refine qO tabOk Tryz.func74 rfl rfl Tryz.ntmps74 (rs:=[]) rfl (by simp) ?_
 (repeat' (first | refine qS ?_ | refine qB ?_ | ((first | refine qK ?_ | refine qX ?_);simp only [ak,reduceIte]) | (refine qR ?_;simp only [ak,reduceIte];simp []) | ((first | (refine w_e [] ?_;intro J hJ;simp only []) | (refine w_q ?_;intro J hJ) | refine e_go ?_);simp [];(repeat refine ca ?_);(try ((try with_reducible refine ⟨?_,?_⟩)<;>(try with_reducible intro hnil)<;>refine hJ _ _ ?_<;>clear hJ J<;>simp only [ak,reduceIte]<;>try subst hnil)))))
 refine qL (fun z fr st2=>∃ (a' b' lim:Nat) (wb wp:Bool) (n:LV),a≤a'∧a'≤b'∧b'≤b∧z=b' - a'∧PdI fid caps eg q l st a b a' b' wb wp lim 0 (upd fr 12 (i (0:Nat))) st2) (b - a) ?_ ?_
 ·refine ⟨a,b,lim,true,true,.nil,by omega,by omega,by omega,rfl,?_⟩
  exact PdI.mk (by simp) (by simp) (by simp) (by simp) (by simp) (by simp) (by simp) hlim hqn (.refl _ _) hH .refl hah fun d h1 h2=>h2
 rintro z fr st2 ⟨a',b',lim,wb,wp,-,ha1,ha2,hb2,rfl,⟨f0,fC⟩,f1,f2,f3,f8,f9,-,hlm,hqn2,hof,c,hc,hpm,hah2,hfin⟩ JJ hJJ
 rw [upd_at,if_neg (by omega)] at f0 fC f1 f2 f3 f8 f9
 have hcl:=hpm.len
 have hDc:=dm_pm hD hpm
 have hsc:small c:=by unfold small;omega
 obtain ⟨n,hn⟩:∃ n:Nat,n=b' - a':=⟨_,rfl⟩
 have w1:IntKind.i64.wrap ((b':Int) - (a':Int))=(n:Int):=by rw [wrap_i64 _ (by omega) (by omega)];omega
 refine qB ?_
 (repeat' (first | refine qS ?_ | refine qB ?_ | ((first | refine qK ?_ | refine qX ?_);simp only [ak,reduceIte]) | (refine qR ?_;simp only [ak,reduceIte];simp [f1,f2,w1]) | ((first | (refine w_e [] ?_;intro J hJ;simp only []) | (refine w_q ?_;intro J hJ) | refine e_go ?_);simp [f1,f2,w1];(repeat refine ca ?_);(try ((try with_reducible refine ⟨?_,?_⟩)<;>(try with_reducible intro hnil)<;>refine hJ _ _ ?_<;>clear hJ J<;>simp only [ak,reduceIte]<;>try subst hnil)))))
 by_cases hn12:(n:Int)≤12
 ·clear hJJ
  refine qC ?_;simp [hn12]
  (repeat' (first | refine qS ?_ | refine qB ?_ | ((first | refine qK ?_ | refine qX ?_);simp only [ak,reduceIte]) | (refine qR ?_;simp only [ak,reduceIte];simp [f0,fC,f1,f2]) | (refine qC ?_;simp [f0,fC,f1,f2];(try with_reducible refine ⟨?_,?_⟩)<;>(try with_reducible intro hc)<;>try (exfalso;omega)) | ((first | (refine w_e [] ?_;intro J hJ;simp only []) | (refine w_q ?_;intro J hJ) | refine e_go ?_);simp [f0,fC,f1,f2];(repeat refine ca ?_);(try ((try with_reducible refine ⟨?_,?_⟩)<;>(try with_reducible intro hnil)<;>refine hJ _ _ ?_<;>clear hJ J<;>simp only [ak,reduceIte]<;>try subst hnil)))))
  refine qE (insertionSort hC c q a' b' st2 (by first | assumption | exact dm_pm hD ‹Pm _ _ l c›) hsc (by omega) (by omega) hc) (by simp [f0,fC,f1,f2,hcl]) ?_;rintro r st' ⟨d,rfl,k1,k2⟩
  (repeat' (first | refine qS ?_ | refine qB ?_ | ((first | refine qK ?_ | refine qX ?_);simp only [ak,reduceIte]) | (refine qR ?_;simp only [ak,reduceIte];simp []) | (refine qC ?_;simp [];(try with_reducible refine ⟨?_,?_⟩)<;>(try with_reducible intro hc)<;>try (exfalso;omega)) | ((first | (refine w_e [] ?_;intro J hJ;simp only []) | (refine w_q ?_;intro J hJ) | refine e_go ?_);simp [];(repeat refine ca ?_);(try ((try with_reducible refine ⟨?_,?_⟩)<;>(try with_reducible intro hnil)<;>refine hJ _ _ ?_<;>clear hJ J<;>simp only [ak,reduceIte]<;>try subst hnil)))))
  exact ⟨d,rfl,hpm.trans (k1.wide (by omega) (by omega) (by omega)),hfin d k1 k2,hof.set _⟩
 refine qC ?_;simp [hn12]
 (repeat' (first | refine qS ?_ | refine qB ?_ | ((first | refine qK ?_ | refine qX ?_);simp only [ak,reduceIte]) | (refine qR ?_;simp only [ak,reduceIte];simp [f3]) | ((first | (refine w_e [] ?_;intro J hJ;simp only []) | (refine w_q ?_;intro J hJ) | refine e_go ?_);simp [f3];(repeat refine ca ?_);(try ((try with_reducible refine ⟨?_,?_⟩)<;>(try with_reducible intro hnil)<;>refine hJ _ _ ?_<;>clear hJ J<;>simp only [ak,reduceIte]<;>try subst hnil)))))
 by_cases hl0:lim=0
 ·clear hJJ
  refine qC ?_;simp [hl0]
  (repeat' (first | refine qS ?_ | refine qB ?_ | ((first | refine qK ?_ | refine qX ?_);simp only [ak,reduceIte]) | (refine qR ?_;simp only [ak,reduceIte];simp [f0,fC,f1,f2]) | (refine qC ?_;simp [f0,fC,f1,f2];(try with_reducible refine ⟨?_,?_⟩)<;>(try with_reducible intro hc)<;>try (exfalso;omega)) | ((first | (refine w_e [] ?_;intro J hJ;simp only []) | (refine w_q ?_;intro J hJ) | refine e_go ?_);simp [f0,fC,f1,f2];(repeat refine ca ?_);(try ((try with_reducible refine ⟨?_,?_⟩)<;>(try with_reducible intro hnil)<;>refine hJ _ _ ?_<;>clear hJ J<;>simp only [ak,reduceIte]<;>try subst hnil)))))
  refine qE (heapSort hC c q a' b' st2 (by first | assumption | exact dm_pm hD ‹Pm _ _ l c›) hsc (by omega) (by omega) hc) (by simp [f0,fC,f1,f2,hcl]) ?_;rintro r st' ⟨d,rfl,k1,k2⟩
  (repeat' (first | refine qS ?_ | refine qB ?_ | ((first | refine qK ?_ | refine qX ?_);simp only [ak,reduceIte]) | (refine qR ?_;simp only [ak,reduceIte];simp []) | (refine qC ?_;simp [];(try with_reducible refine ⟨?_,?_⟩)<;>(try with_reducible intro hc)<;>try (exfalso;omega)) | ((first | (refine w_e [] ?_;intro J hJ;simp only []) | (refine w_q ?_;intro J hJ) | refine e_go ?_);simp [];(repeat refine ca ?_);(try ((try with_reducible refine ⟨?_,?_⟩)<;>(try with_reducible intro hnil)<;>refine hJ _ _ ?_<;>clear hJ J<;>simp only [ak,reduceIte]<;>try subst hnil)))))
  exact ⟨d,rfl,hpm.trans (k1.wide (by omega) (by omega) (by omega)),hfin d k1 k2,hof.set _⟩
 refine qC ?_;simp [hl0]
 refine qK ?_;simp only [ak,reduceIte]
 refine qS ?_
 refine awp_cut1 (PdJ fid caps eg q l st a b a' b' wb wp n) ?_ ?_
 ·clear hJJ
  cases wb
  ·(repeat' (first | refine qS ?_ | refine qB ?_ | ((first | refine qK ?_ | refine qX ?_);simp only [ak,reduceIte]) | (refine qR ?_;simp only [ak,reduceIte];simp [f0,fC,f1,f2,f8]) | (refine qC ?_;simp [f0,fC,f1,f2,f8];(try with_reducible refine ⟨?_,?_⟩)<;>(try with_reducible intro hc)<;>try (exfalso;omega)) | ((first | (refine w_e [] ?_;intro J hJ;simp only []) | (refine w_q ?_;intro J hJ) | refine e_go ?_);simp [f0,fC,f1,f2,f8];(repeat refine ca ?_);(try ((try with_reducible refine ⟨?_,?_⟩)<;>(try with_reducible intro hnil)<;>refine hJ _ _ ?_<;>clear hJ J<;>simp only [ak,reduceIte]<;>try subst hnil)))))
   refine qE (breakPatterns hC c q a' b' st2 (by first | assumption | exact dm_pm hD ‹Pm _ _ l c›) (by omega) (by omega) (by omega) hqn2 hc) (by simp [f0,fC,f1,f2,hcl]) ?_;rintro r st' ⟨d,k0,k1,k2⟩
   have w2:=nat_sub_one lim (by omega) (by omega)
   (repeat' (first | refine qS ?_ | refine qB ?_ | ((first | refine qK ?_ | refine qX ?_);simp only [ak,reduceIte]) | (refine qR ?_;simp only [ak,reduceIte];simp [f3,w2]) | (refine qC ?_;simp [f3,w2];(try with_reducible refine ⟨?_,?_⟩)<;>(try with_reducible intro hc)<;>try (exfalso;omega)) | ((first | (refine w_e [] ?_;intro J hJ;simp only []) | (refine w_q ?_;intro J hJ) | refine e_go ?_);simp [f3,w2];(repeat refine ca ?_);(try ((try with_reducible refine ⟨?_,?_⟩)<;>(try with_reducible intro hnil)<;>refine hJ _ _ ?_<;>clear hJ J<;>simp only [ak,reduceIte]<;>try subst hnil)))))
   refine ⟨by trivial,?_⟩
   exact ⟨lim - 1,PdI.mk (by simp [f0,fC]) (by simp [f1]) (by simp [f2]) (by simp) (by simp [f8]) (by simp [f9]) (by simp) (by omega) (Nat.lt_of_lt_of_le hqn2 k2.1) (hof.trans k2) k0 (hpm.trans (k1.wide (by omega) (by omega) (by omega))) (hah2.pm k1) (hfin.pm k1)⟩
  ·(repeat' (first | refine qS ?_ | refine qB ?_ | ((first | refine qK ?_ | refine qX ?_);simp only [ak,reduceIte]) | (refine qR ?_;simp only [ak,reduceIte];simp [f8]) | (refine qC ?_;simp [f8];(try with_reducible refine ⟨?_,?_⟩)<;>(try with_reducible intro hc)<;>try (exfalso;omega)) | ((first | (refine w_e [] ?_;intro J hJ;simp only []) | (refine w_q ?_;intro J hJ) | refine e_go ?_);simp [f8];(repeat refine ca ?_);(try ((try with_reducible refine ⟨?_,?_⟩)<;>(try with_reducible intro hnil)<;>refine hJ _ _ ?_<;>clear hJ J<;>simp only [ak,reduceIte]<;>try subst hnil)))))
   refine ⟨by trivial,?_⟩
   exact ⟨lim,PdI.mk (by simp [f0,fC]) (by simp [f1]) (by simp [f2]) (by simp [f3]) (by simp [f8]) (by simp [f9]) (by simp) (by omega) hqn2 hof hc hpm hah2 hfin⟩
 clear f0 fC f1 f2 f3 f8 f9 hlm hqn2 hof hc hpm hah2 hfin hcl hDc hsc c st2 fr hl0 lim
 rintro fr st2 ⟨lim,⟨f0,fC⟩,f1,f2,f3,f8,f9,f10,hlm,hqn2,hof,c,hc,hpm,hah2,hfin⟩
 have hcl:=hpm.len
 have hDc:=dm_pm hD hpm
 have hsc:small c:=by unfold small;omega
 refine qS ?_
 (refine w_e [] ?_;intro J hJ;simp only [];simp [f0,fC,f1,f2];(repeat refine ca ?_);(try ((try with_reducible refine ⟨?_,?_⟩)<;>(try with_reducible intro hnil)<;>refine hJ _ _ ?_<;>clear hJ J<;>simp only [ak,reduceIte]<;>try subst hnil)))
 refine qE (choosePivot hC c q a' b' st2 (by first | assumption | exact dm_pm hD ‹Pm _ _ l c›) hsc (by omega) (by omega) hqn2 hc) (by simp [f0,fC,f1,f2,hcl]) ?_;rintro r st' ⟨pv,h,rfl,hp1,hp2,k0⟩
 have hc':st'.H q=.box 34 3 (es3 eg c):=by rw [k0.H q hqn2];exact hc
 have hqn3:q < st'.next:=Nat.lt_of_lt_of_le hqn2 k0.next
 have hof2:=hof.keeps k0
 clear hc hqn2 hof k0
 (refine e_go ?_;simp [];(repeat refine ca ?_);(try ((try with_reducible refine ⟨?_,?_⟩)<;>(try with_reducible intro hnil)<;>refine hJ _ _ ?_<;>clear hJ J<;>simp only [ak,reduceIte]<;>try subst hnil)))
 refine qS ?_
 refine awp_cut1 (PdK fid caps eg q l st a b a' b' wb wp n) ?_ ?_
 ·clear hJJ
  by_cases hh:h=2
  ·(repeat' (first | refine qS ?_ | refine qB ?_ | ((first | refine qK ?_ | refine qX ?_);simp only [ak,reduceIte]) | (refine qR ?_;simp only [ak,reduceIte];simp [hh,f0,fC,f1,f2]) | (refine qC ?_;simp [hh,f0,fC,f1,f2];(try with_reducible refine ⟨?_,?_⟩)<;>(try with_reducible intro hc)<;>try (exfalso;omega)) | ((first | (refine w_e [] ?_;intro J hJ;simp only []) | (refine w_q ?_;intro J hJ) | refine e_go ?_);simp [hh,f0,fC,f1,f2];(repeat refine ca ?_);(try ((try with_reducible refine ⟨?_,?_⟩)<;>(try with_reducible intro hnil)<;>refine hJ _ _ ?_<;>clear hJ J<;>simp only [ak,reduceIte]<;>try subst hnil)))))
   refine qE (reverseRange hC c q a' b' st' (by first | assumption | exact dm_pm hD ‹Pm _ _ l c›) hsc (by omega) (by omega) (by omega) hc') (by simp [f0,fC,f1,f2,hcl]) ?_;rintro r st' ⟨d,rfl,k1⟩
   have w2:=nat_sub_one b' (by omega) (by omega)
   obtain ⟨x1,hx1⟩:∃ x,x=b' - 1:=⟨_,rfl⟩
   obtain ⟨x2,hx2⟩:∃ x,x=pv - a':=⟨_,rfl⟩
   obtain ⟨x3,hx3⟩:∃ x,x=x1 - x2:=⟨_,rfl⟩
   have w3:IntKind.i64.wrap ((pv:Int) - (a':Int))=(x2:Int):=by rw [wrap_i64 _ (by omega) (by omega)];omega
   have w4:IntKind.i64.wrap ((x1:Int) - (x2:Int))=(x3:Int):=by rw [wrap_i64 _ (by omega) (by omega)];omega
   rw [← hx1] at w2
   (repeat' (first | refine qS ?_ | refine qB ?_ | ((first | refine qK ?_ | refine qX ?_);simp only [ak,reduceIte]) | (refine qR ?_;simp only [ak,reduceIte];simp [f1,f2,w2,w3,w4]) | (refine qC ?_;simp [f1,f2,w2,w3,w4];(try with_reducible refine ⟨?_,?_⟩)<;>(try with_reducible intro hc)<;>try (exfalso;omega)) | ((first | (refine w_e [] ?_;intro J hJ;simp only []) | (refine w_q ?_;intro J hJ) | refine e_go ?_);simp [f1,f2,w2,w3,w4];(repeat refine ca ?_);(try ((try with_reducible refine ⟨?_,?_⟩)<;>(try with_reducible intro hnil)<;>refine hJ _ _ ?_<;>clear hJ J<;>simp only [ak,reduceIte]<;>try subst hnil)))))
   refine ⟨by trivial,?_⟩
   exact ⟨lim,PdI.mk (by simp [f0,fC]) (by simp [f1]) (by simp [f2]) (by simp [f3]) (by simp [f8]) (by simp [f9]) (by simp [f10]) (by omega) hqn3 (hof2.set _) (by simp) (hpm.trans (k1.wide (by omega) (by omega) (by omega))) (hah2.pm k1) (hfin.pm k1),x3,1,by omega,by omega,by simp,by simp⟩
  ·(repeat' (first | refine qS ?_ | refine qB ?_ | ((first | refine qK ?_ | refine qX ?_);simp only [ak,reduceIte]) | (refine qR ?_;simp only [ak,reduceIte];simp [hh]) | (refine qC ?_;simp [hh];(try with_reducible refine ⟨?_,?_⟩)<;>(try with_reducible intro hc)<;>try (exfalso;omega)) | ((first | (refine w_e [] ?_;intro J hJ;simp only []) | (refine w_q ?_;intro J hJ) | refine e_go ?_);simp [hh];(repeat refine ca ?_);(try ((try with_reducible refine ⟨?_,?_⟩)<;>(try with_reducible intro hnil)<;>refine hJ _ _ ?_<;>clear hJ J<;>simp only [ak,reduceIte]<;>try subst hnil)))))
   refine ⟨by trivial,?_⟩
   exact ⟨lim,PdI.mk (by simp [f0,fC]) (by simp [f1]) (by simp [f2]) (by simp [f3]) (by simp [f8]) (by simp [f9]) (by simp [f10]) (by omega) hqn3 hof2 hc' hpm hah2 hfin,pv,h,by omega,by omega,by simp,by simp⟩
 clear f0 fC f1 f2 f3 f8 f9 f10 hlm hqn3 hof2 hc' hpm hah2 hfin hcl hDc hsc c st2 fr lim h hp1 hp2 pv
 rintro fr st2 ⟨lim,⟨⟨f0,fC⟩,f1,f2,f3,f8,f9,f10,hlm,hqn2,hof,c,hc,hpm,hah2,hfin⟩,pv,h,hp1,hp2,f11,f12⟩
 have hcl:=hpm.len
 have hDc:=dm_pm hD hpm
 have hsc:small c:=by unfold small;omega
 refine qS ?_
 refine awp_cutR (PdK fid caps eg q l st a b a' b' wb wp n) ?_ ?_
 ·clear hJJ
  cases wb
  ·(repeat' (first | refine qS ?_ | refine qB ?_ | ((first | refine qK ?_ | refine qX ?_);simp only [ak,reduceIte]) | (refine qR ?_;simp only [ak,reduceIte];simp [f8]) | (refine qC ?_;simp [f8];(try with_reducible refine ⟨?_,?_⟩)<;>(try with_reducible intro hc)<;>try (exfalso;omega)) | ((first | (refine w_e [] ?_;intro J hJ;simp only []) | (refine w_q ?_;intro J hJ) | refine e_go ?_);simp [f8];(repeat refine ca ?_);(try ((try with_reducible refine ⟨?_,?_⟩)<;>(try with_reducible intro hnil)<;>refine hJ _ _ ?_<;>clear hJ J<;>simp only [ak,reduceIte]<;>try subst hnil)))))
   refine .inl ⟨by trivial,?_⟩
   exact ⟨lim,PdI.mk (by simp [f0,fC]) (by simp [f1]) (by simp [f2]) (by simp [f3]) (by simp [f8]) (by simp [f9]) (by simp [f10]) (by omega) hqn2 hof hc hpm hah2 hfin,pv,h,by omega,by omega,by simp [f11],by simp [f12]⟩
  cases wp
  ·(repeat' (first | refine qS ?_ | refine qB ?_ | ((first | refine qK ?_ | refine qX ?_);simp only [ak,reduceIte]) | (refine qR ?_;simp only [ak,reduceIte];simp [f8,f9]) | (refine qC ?_;simp [f8,f9];(try with_reducible refine ⟨?_,?_⟩)<;>(try with_reducible intro hc)<;>try (exfalso;omega)) | ((first | (refine w_e [] ?_;intro J hJ;simp only []) | (refine w_q ?_;intro J hJ) | refine e_go ?_);simp [f8,f9];(repeat refine ca ?_);(try ((try with_reducible refine ⟨?_,?_⟩)<;>(try with_reducible intro hnil)<;>refine hJ _ _ ?_<;>clear hJ J<;>simp only [ak,reduceIte]<;>try subst hnil)))))
   refine .inl ⟨by trivial,?_⟩
   exact ⟨lim,PdI.mk (by simp [f0,fC]) (by simp [f1]) (by simp [f2]) (by simp [f3]) (by simp [f8]) (by simp [f9]) (by simp [f10]) (by omega) hqn2 hof hc hpm hah2 hfin,pv,h,by omega,by omega,by simp [f11],by simp [f12]⟩
  by_cases hh:h=1
  rotate_left
  ·(repeat' (first | refine qS ?_ | refine qB ?_ | ((first | refine qK ?_ | refine qX ?_);simp only [ak,reduceIte]) | (refine qR ?_;simp only [ak,reduceIte];simp [f8,f9,f12,hh]) | (refine qC ?_;simp [f8,f9,f12,hh];(try with_reducible refine ⟨?_,?_⟩)<;>(try with_reducible intro hc)<;>try (exfalso;omega)) | ((first | (refine w_e [] ?_;intro J hJ;simp only []) | (refine w_q ?_;intro J hJ) | refine e_go ?_);simp [f8,f9,f12,hh];(repeat refine ca ?_);(try ((try with_reducible refine ⟨?_,?_⟩)<;>(try with_reducible intro hnil)<;>refine hJ _ _ ?_<;>clear hJ J<;>simp only [ak,reduceIte]<;>try subst hnil)))))
   refine .inl ⟨by trivial,?_⟩
   exact ⟨lim,PdI.mk (by simp [f0,fC]) (by simp [f1]) (by simp [f2]) (by simp [f3]) (by simp [f8]) (by simp [f9]) (by simp [f10]) (by omega) hqn2 hof hc hpm hah2 hfin,pv,h,by omega,by omega,by simp [f11],by simp [f12]⟩
  (repeat' (first | refine qS ?_ | refine qB ?_ | ((first | refine qK ?_ | refine qX ?_);simp only [ak,reduceIte]) | (refine qR ?_;simp only [ak,reduceIte];simp [f8,f9,f12,hh,f0,fC,f1,f2]) | (refine qC ?_;simp [f8,f9,f12,hh,f0,fC,f1,f2];(try with_reducible refine ⟨?_,?_⟩)<;>(try with_reducible intro hc)<;>try (exfalso;omega)) | ((first | (refine w_e [] ?_;intro J hJ;simp only []) | (refine w_q ?_;intro J hJ) | refine e_go ?_);simp [f8,f9,f12,hh,f0,fC,f1,f2];(repeat refine ca ?_);(try ((try with_reducible refine ⟨?_,?_⟩)<;>(try with_reducible intro hnil)<;>refine hJ _ _ ?_<;>clear hJ J<;>simp only [ak,reduceIte]<;>try subst hnil)))))
  refine qE (partialInsertionSort hC c q a' b' st2 (by first | assumption | exact dm_pm hD ‹Pm _ _ l c›) hsc (by omega) (by omega) hah2 hc) (by simp [f0,fC,f1,f2,hcl]) ?_;rintro r st' ⟨d,p,rfl,rfl,k1,k2⟩
  cases p
  ·(repeat' (first | refine qS ?_ | refine qB ?_ | ((first | refine qK ?_ | refine qX ?_);simp only [ak,reduceIte]) | (refine qR ?_;simp only [ak,reduceIte];simp []) | (refine qC ?_;simp [];(try with_reducible refine ⟨?_,?_⟩)<;>(try with_reducible intro hc)<;>try (exfalso;omega)) | ((first | (refine w_e [] ?_;intro J hJ;simp only []) | (refine w_q ?_;intro J hJ) | refine e_go ?_);simp [];(repeat refine ca ?_);(try ((try with_reducible refine ⟨?_,?_⟩)<;>(try with_reducible intro hnil)<;>refine hJ _ _ ?_<;>clear hJ J<;>simp only [ak,reduceIte]<;>try subst hnil)))))
   refine .inl ⟨by trivial,?_⟩
   exact ⟨lim,PdI.mk (by simp [f0,fC]) (by simp [f1]) (by simp [f2]) (by simp [f3]) (by simp [f8]) (by simp [f9]) (by simp [f10]) (by omega) hqn2 (hof.set _) (by simp) (hpm.trans (k1.wide (by omega) (by omega) (by omega))) (hah2.pm k1) (hfin.pm k1),pv,h,by omega,by omega,by simp [f11],by simp [f12]⟩
  ·(repeat' (first | refine qS ?_ | refine qB ?_ | ((first | refine qK ?_ | refine qX ?_);simp only [ak,reduceIte]) | (refine qR ?_;simp only [ak,reduceIte];simp []) | (refine qC ?_;simp [];(try with_reducible refine ⟨?_,?_⟩)<;>(try with_reducible intro hc)<;>try (exfalso;omega)) | ((first | (refine w_e [] ?_;intro J hJ;simp only []) | (refine w_q ?_;intro J hJ) | refine e_go ?_);simp [];(repeat refine ca ?_);(try ((try with_reducible refine ⟨?_,?_⟩)<;>(try with_reducible intro hnil)<;>refine hJ _ _ ?_<;>clear hJ J<;>simp only [ak,reduceIte]<;>try subst hnil)))))
   exact ⟨d,rfl,hpm.trans (k1.wide (by omega) (by omega) (by omega)),hfin d k1 (k2 rfl),hof.set _⟩
 clear f0 fC f1 f2 f3 f8 f9 f10 f11 f12 hlm hqn2 hof hc hpm hah2 hfin hcl hDc hsc c st2 fr lim h hp1 hp2 pv
 rintro fr st2 ⟨lim,⟨⟨f0,fC⟩,f1,f2,f3,f8,f9,f10,hlm,hqn2,hof,c,hc,hpm,hah2,hfin⟩,pv,h,hp1,hp2,f11,f12⟩
 have hcl:=hpm.len
 have hDc:=dm_pm hD hpm
 have hsc:small c:=by unfold small;omega
 refine qS ?_
 refine awp_cutX (PdK fid caps eg q l st a b a' b' wb wp n) ?_ ?_
 ·by_cases h0:a'=0
  ·clear hJJ
   have h0':¬ (0:Int) < (a':Int):=by omega
   (repeat (refine qS ?_));(refine w_s [] [q] [(0,true),(1,true),(2,true),(3,true),(4,true),(5,true),(6,true),(7,true),(8,true),(9,true),(10,true),(11,true),(12,true),(13,false),(14,true),(15,true),(16,true)] ?_;intro J hJ;simp [f0,fC,f1,h0];(repeat refine ca ?_);(try ((try with_reducible refine ⟨?_,?_⟩)<;>(try with_reducible intro hnil)<;>refine hJ _ _ ?_<;>clear hJ J<;>simp only [ak,reduceIte]<;>try subst hnil)))
   (repeat' (first | refine qS ?_ | refine qB ?_ | ((first | refine qK ?_ | refine qX ?_);simp only [ak,reduceIte]) | (refine qR ?_;simp only [ak,reduceIte];simp []) | (refine qC ?_;simp [];(try with_reducible refine ⟨?_,?_⟩)<;>(try with_reducible intro hc)<;>try (exfalso;omega)) | ((first | (refine w_e [] ?_;intro J hJ;simp only []) | (refine w_q ?_;intro J hJ) | refine e_go ?_);simp [];(repeat refine ca ?_);(try ((try with_reducible refine ⟨?_,?_⟩)<;>(try with_reducible intro hnil)<;>refine hJ _ _ ?_<;>clear hJ J<;>simp only [ak,reduceIte]<;>try subst hnil)))))
   refine .inl ⟨by trivial,?_⟩
   exact ⟨lim,PdI.mk (by simp [f0,fC]) (by simp [f1]) (by simp [f2]) (by simp [f3]) (by simp [f8]) (by simp [f9]) (by simp [f10]) (by omega)  hqn2 hof hc hpm hah2 hfin,pv,h,by omega,by omega,by simp [f11],by simp [f12]⟩
  have h0':0 < a':=by omega
  have w2:=nat_sub_one a' (by omega) (by omega)
  have hd1:=ws_drop eg c (a' - 1) (by omega)
  have hd2:=ws_drop eg c pv (by omega)
  have hl3:a' - 1 < l.length:=by omega
  have hl4:pv < l.length:=by omega
  have hlow:∀ j,a'≤j→j < b'→c.getD (a' - 1) 0≤c.getD j 0:=hah2 h0'
  generalize hx:c.getD (a' - 1) 0=x at *
  generalize hy:c.getD pv 0=y at *
  (repeat (refine qS ?_));(refine w_s [] [q] [(0,true),(1,true),(2,true),(3,true),(4,true),(5,true),(6,true),(7,true),(8,true),(9,true),(10,true),(11,true),(12,true),(13,false),(14,true),(15,true),(16,true)] ?_;intro J hJ;simp [f0,fC,f1,f11,h0',w2,hl3,hl4,hcl,hc,hd1,hd2,es3_length];(repeat refine ca ?_);(try ((try with_reducible refine ⟨?_,?_⟩)<;>(try with_reducible intro hnil)<;>refine hJ _ _ ?_<;>clear hJ J<;>simp only [ak,reduceIte]<;>try subst hnil)))
  refine dcallK_of (hC.call x y _ (by first | assumption | (subst_vars;exact dm_get (by assumption) (by omega))) (by first | assumption | (subst_vars;exact dm_get (by assumption) (by omega)))) ?_;rintro r s2 ⟨⟨nv,rfl,hnv⟩,rfl⟩
  refine ⟨fun _=>by simp,?_⟩
  by_cases hxy:x < y
  ·clear hJJ
   (refine d_go ?_;simp [hnv,hxy];(repeat refine ca ?_);(try ((try with_reducible refine ⟨?_,?_⟩)<;>(try with_reducible intro hnil)<;>refine hJ _ _ ?_<;>clear hJ J<;>simp only [ak,reduceIte]<;>try subst hnil)))
   (repeat' (first | refine qS ?_ | refine qB ?_ | ((first | refine qK ?_ | refine qX ?_);simp only [ak,reduceIte]) | (refine qR ?_;simp only [ak,reduceIte];simp []) | (refine qC ?_;simp [];(try with_reducible refine ⟨?_,?_⟩)<;>(try with_reducible intro hc)<;>try (exfalso;omega)) | ((first | (refine w_e [] ?_;intro J hJ;simp only []) | (refine w_q ?_;intro J hJ) | refine e_go ?_);simp [];(repeat refine ca ?_);(try ((try with_reducible refine ⟨?_,?_⟩)<;>(try with_reducible intro hnil)<;>refine hJ _ _ ?_<;>clear hJ J<;>simp only [ak,reduceIte]<;>try subst hnil)))))
   refine .inl ⟨by trivial,?_⟩
   exact ⟨lim,PdI.mk (by simp [f0,fC]) (by simp [f1]) (by simp [f2]) (by simp [f3]) (by simp [f8]) (by simp [f9]) (by simp [f10]) (by omega)  hqn2 hof hc hpm hah2 hfin,pv,h,by omega,by omega,by simp [f11],by simp [f12]⟩
  (refine d_go ?_;simp [hnv,hxy];(repeat refine ca ?_);(try ((try with_reducible refine ⟨?_,?_⟩)<;>(try with_reducible intro hnil)<;>refine hJ _ _ ?_<;>clear hJ J<;>simp only [ak,reduceIte]<;>try subst hnil)))
  (repeat' (first | refine qS ?_ | refine qB ?_ | ((first | refine qK ?_ | refine qX ?_);simp only [ak,reduceIte]) | (refine qR ?_;simp only [ak,reduceIte];simp [f0,fC,f1,f2,f11]) | (refine qC ?_;simp [f0,fC,f1,f2,f11];(try with_reducible refine ⟨?_,?_⟩)<;>(try with_reducible intro hc)<;>try (exfalso;omega)) | ((first | (refine w_e [] ?_;intro J hJ;simp only []) | (refine w_q ?_;intro J hJ) | refine e_go ?_);simp [f0,fC,f1,f2,f11];(repeat refine ca ?_);(try ((try with_reducible refine ⟨?_,?_⟩)<;>(try with_reducible intro hnil)<;>refine hJ _ _ ?_<;>clear hJ J<;>simp only [ak,reduceIte]<;>try subst hnil)))))
  refine qE (partitionEqual hC c q a' b' pv _ (by first | assumption | exact dm_pm hD ‹Pm _ _ l c›) hsc (by omega) (by omega) hp1 hp2 hc) (by simp [f0,fC,f1,f2,f11,hcl]) ?_;rintro r st' ⟨d,mid,rfl,rfl,k1,k2,k3,k4⟩
  (repeat' (first | refine qS ?_ | refine qB ?_ | ((first | refine qK ?_ | refine qX ?_);simp only [ak,reduceIte]) | (refine qR ?_;simp only [ak,reduceIte];simp []) | (refine qC ?_;simp [];(try with_reducible refine ⟨?_,?_⟩)<;>(try with_reducible intro hc)<;>try (exfalso;omega)) | ((first | (refine w_e [] ?_;intro J hJ;simp only []) | (refine w_q ?_;intro J hJ) | refine e_go ?_);simp [];(repeat refine ca ?_);(try ((try with_reducible refine ⟨?_,?_⟩)<;>(try with_reducible intro hnil)<;>refine hJ _ _ ?_<;>clear hJ J<;>simp only [ak,reduceIte]<;>try subst hnil)))))
  refine .inr ⟨by simp,?_⟩
  refine hJJ (b' - mid) _ _ (by omega) ⟨mid,b',lim,wb,wp,.nil,by omega,by omega,by omega,rfl,?_⟩
  rw [hy] at k4
  refine PdI.mk (by simp [f0,fC]) (by simp) (by simp [f2]) (by simp [f3]) (by simp [f8]) (by simp [f9]) (by simp) (by omega) hqn2 (hof.set _) (by simp) (hpm.trans (k1.wide (by omega) (by omega) (by omega))) ?_ ?_
  ·intro _ j g1 g2
   have e1:=k4.1 (mid - 1) (by omega) (by omega)
   have e2:=k4.2 j g1 g2
   omega
  ·intro e g1 g2
   refine hfin e (k1.trans (g1.wide (by omega) (by omega) (by have:=k1.len;omega))) (eq_glue k4 (fun j e1 e2=>?_) g1 g2)
   have:=k1.all (fun v=>x≤v) hlow j e1 (by omega)
   omega
 clear f0 fC f1 f2 f3 f8 f9 f10 f11 f12 hlm hqn2 hof hc hpm hah2 hfin hcl hDc hsc c st2 fr lim h hp1 hp2 pv
 rintro fr st2 ⟨lim,⟨⟨f0,fC⟩,f1,f2,f3,f8,f9,f10,hlm,hqn2,hof,c,hc,hpm,hah2,hfin⟩,pv,h,hp1,hp2,f11,f12⟩
 have hcl:=hpm.len
 have hDc:=dm_pm hD hpm
 have hsc:small c:=by unfold small;omega
 (repeat' (first | refine qS ?_ | refine qB ?_ | ((first | refine qK ?_ | refine qX ?_);simp only [ak,reduceIte]) | (refine qR ?_;simp only [ak,reduceIte];simp [f0,fC,f1,f2,f11]) | ((first | (refine w_e [] ?_;intro J hJ;simp only []) | (refine w_q ?_;intro J hJ) | refine e_go ?_);simp [f0,fC,f1,f2,f11];(repeat refine ca ?_);(try ((try with_reducible refine ⟨?_,?_⟩)<;>(try with_reducible intro hnil)<;>refine hJ _ _ ?_<;>clear hJ J<;>simp only [ak,reduceIte]<;>try subst hnil)))))
 refine qE (partition hC c q a' b' pv _ (by first | assumption | exact dm_pm hD ‹Pm _ _ l c›) hsc (by omega) (by omega) hp1 hp2 hc) (by simp [f0,fC,f1,f2,f11,hcl]) ?_;rintro r st' ⟨d,mid,p,rfl,rfl,k1,k2,k3,k4⟩
 have hdl:=k1.len
 have k4:PartedAt d a' mid b':=k4
 have hpm':=hpm.trans (k1.wide ha1 hb2 (by omega))
 have hah':=hah2.pm k1
 have hfin':=hfin.pm k1
 have hof':=hof.set (q:=q) (.box 34 3 (es3 eg d))
 have w3:IntKind.i64.wrap ((mid:Int) - (a':Int))=((mid - a':Nat):Int):=by rw [wrap_i64 _ (by omega) (by omega)];omega
 have w4:IntKind.i64.wrap ((b':Int) - (mid:Int))=((b' - mid:Nat):Int):=by rw [wrap_i64 _ (by omega) (by omega)];omega
 have w5:IntKind.i64.wrap ((n:Int) / 8)=((n / 8:Nat):Int):=by
  rw [show (n:Int) / 8=((n / 8:Nat):Int) from rfl]
  exact wrap_i64 _ (by omega) (by omega)
 obtain ⟨z1,hz1⟩:∃ x:Nat,x=mid - a':=⟨_,rfl⟩
 obtain ⟨z2,hz2⟩:∃ x:Nat,x=b' - mid:=⟨_,rfl⟩
 obtain ⟨z3,hz3⟩:∃ x:Nat,x=n / 8:=⟨_,rfl⟩
 obtain ⟨m1,hm1⟩:∃ x:Nat,x=mid+1:=⟨_,rfl⟩
 rw [← hz1] at w3;rw [← hz2] at w4;rw [← hz3] at w5
 have w6:IntKind.i64.wrap ((mid:Int)+1)=(m1:Int):=by rw [qN mid (by omega),hm1]
 clear hc hpm hah2 hfin hof
 (repeat' (first | refine qS ?_ | refine qB ?_ | ((first | refine qK ?_ | refine qX ?_);simp only [ak,reduceIte]) | (refine qR ?_;simp only [ak,reduceIte];simp [f1,f2,f10,w3,w4,w5]) | ((first | (refine w_e [] ?_;intro J hJ;simp only []) | (refine w_q ?_;intro J hJ) | refine e_go ?_);simp [f1,f2,f10,w3,w4,w5];(repeat refine ca ?_);(try ((try with_reducible refine ⟨?_,?_⟩)<;>(try with_reducible intro hnil)<;>refine hJ _ _ ?_<;>clear hJ J<;>simp only [ak,reduceIte]<;>try subst hnil)))))
 refine qC ?_
 by_cases hzz:z1 < z2
 ·simp [hzz]
  (repeat' (first | refine qS ?_ | refine qB ?_ | ((first | refine qK ?_ | refine qX ?_);simp only [ak,reduceIte]) | (refine qR ?_;simp only [ak,reduceIte];simp [f0,fC,f1,f3]) | ((first | (refine w_e [] ?_;intro J hJ;simp only []) | (refine w_q ?_;intro J hJ) | refine e_go ?_);simp [f0,fC,f1,f3];(repeat refine ca ?_);(try ((try with_reducible refine ⟨?_,?_⟩)<;>(try with_reducible intro hnil)<;>refine hJ _ _ ?_<;>clear hJ J<;>simp only [ak,reduceIte]<;>try subst hnil)))))
  refine qE (ih d q a' mid lim (bx eg st2 q d) (by first | assumption | exact dm_pm hD ‹Pm _ _ l d›) (by omega) (by omega) (by omega) (by omega) (hah'.less (by omega)) (by omega) hqn2 (by simp)) (by simp [f0,fC,f1,f2,f3,hdl,hcl]) ?_;rintro r st' ⟨e,j0,j1,j2,j3⟩
  (repeat' (first | refine qS ?_ | refine qB ?_ | ((first | refine qK ?_ | refine qX ?_);simp only [ak,reduceIte]) | (refine qR ?_;simp only [ak,reduceIte];simp [w6]) | ((first | (refine w_e [] ?_;intro J hJ;simp only []) | (refine w_q ?_;intro J hJ) | refine e_go ?_);simp [w6];(repeat refine ca ?_);(try ((try with_reducible refine ⟨?_,?_⟩)<;>(try with_reducible intro hnil)<;>refine hJ _ _ ?_<;>clear hJ J<;>simp only [ak,reduceIte]<;>try subst hnil)))))
  refine hJJ (b' - m1) _ _ (by omega) ⟨m1,b',lim,decide (z3≤z1),p,.nil,by omega,by omega,by omega,rfl,?_⟩
  refine PdI.mk (by simp [f0,fC]) (by simp) (by simp [f2]) (by simp [f3]) (by simp) (by simp) (by simp) (by omega) (Nat.lt_of_lt_of_le hqn2 j3.1) (hof'.trans j3) j0 (hpm'.trans (j1.wide (by omega) (by omega) (by omega))) ?_ ?_
  ·rw [hm1];exact (k4.pmL j1).aheadR
  ·intro y g1 g2
   rw [hm1] at g1 g2
   refine hfin' y ((j1.wide (by omega) (by omega) (by omega)).trans (g1.wide (by omega) (by omega) (by have:=j1.len;omega))) (((k4.pmL j1).pmR g1).glue (Srt.out j2 fun j e1 e2=>g1.out j (by omega)) g2)
 ·simp [hzz]
  (repeat' (first | refine qS ?_ | refine qB ?_ | ((first | refine qK ?_ | refine qX ?_);simp only [ak,reduceIte]) | (refine qR ?_;simp only [ak,reduceIte];simp [f0,fC,f2,f3,w6]) | ((first | (refine w_e [] ?_;intro J hJ;simp only []) | (refine w_q ?_;intro J hJ) | refine e_go ?_);simp [f0,fC,f2,f3,w6];(repeat refine ca ?_);(try ((try with_reducible refine ⟨?_,?_⟩)<;>(try with_reducible intro hnil)<;>refine hJ _ _ ?_<;>clear hJ J<;>simp only [ak,reduceIte]<;>try subst hnil)))))
  refine qE (ih d q m1 b' lim (bx eg st2 q d) (by first | assumption | exact dm_pm hD ‹Pm _ _ l d›) (by omega) (by omega) (by omega) (by omega) (by rw [hm1];exact k4.aheadR) (by omega) hqn2 (by simp)) (by simp [f0,fC,f1,f2,f3,hdl,hcl]) ?_;rintro r st' ⟨e,j0,j1,j2,j3⟩
  (repeat' (first | refine qS ?_ | refine qB ?_ | ((first | refine qK ?_ | refine qX ?_);simp only [ak,reduceIte]) | (refine qR ?_;simp only [ak,reduceIte];simp []) | ((first | (refine w_e [] ?_;intro J hJ;simp only []) | (refine w_q ?_;intro J hJ) | refine e_go ?_);simp [];(repeat refine ca ?_);(try ((try with_reducible refine ⟨?_,?_⟩)<;>(try with_reducible intro hnil)<;>refine hJ _ _ ?_<;>clear hJ J<;>simp only [ak,reduceIte]<;>try subst hnil)))))
  rw [hm1] at j1 j2
  refine hJJ (mid - a') _ _ (by omega) ⟨a',mid,lim,decide (z3≤z2),p,.nil,by omega,by omega,by omega,rfl,?_⟩
  refine PdI.mk (by simp [f0,fC]) (by simp [f1]) (by simp) (by simp [f3]) (by simp) (by simp) (by simp) (by omega) (Nat.lt_of_lt_of_le hqn2 j3.1) (hof'.trans j3) j0 (hpm'.trans (j1.wide (by omega) (by omega) (by omega))) ?_ ?_
  ·exact (hah'.pm (j1.wide (by omega) (by omega) (by omega))).less (by omega)
  ·intro y g1 g2
   refine hfin' y ((j1.wide (by omega) (by omega) (by omega)).trans (g1.wide (by omega) (by omega) (by have:=j1.len;omega))) (((k4.pmR j1).pmL g1).glue g2 (Srt.out j2 fun j e1 e2=>g1.out j (by omega)))
theorem SortW {fid:FuncId} {caps:List LV} {eg:Int→Ed} {Dm:Int→Prop} (hC:CmpW fid caps eg Dm) (l:List Int) (q:Nat) (st:St) (hD:∀ x∈l,Dm x) (hl:l.length < 65536) (hqn:q < st.next) (hH:st.H q=.box 34 3 (es3 eg l)):
 ACalls Tryz.prog 46 [.ms q 0 l.length,.fn (.func fid) caps] st fun r st'=>∃ c,st'.H q=.box 34 3 (es3 eg c)∧c.Perm l∧c.Pairwise (·≤·)∧OffS q st st':=by
 have w1:IntKind.u64.wrap (l.length:Int)=(l.length:Int):=wrap_u64 _ (by omega) (by omega)
 have hbl:=(blen_at l.length hl).1
 refine qO tabOk Tryz.func46 rfl rfl Tryz.ntmps46 (rs:=[]) rfl (by simp) ?_
 (repeat' (first | refine qS ?_ | refine qB ?_ | ((first | refine qK ?_ | refine qX ?_);simp only [ak,reduceIte]) | (refine qR ?_;simp only [ak,reduceIte];simp [w1]) | (refine qC ?_;simp [w1];(try with_reducible refine ⟨?_,?_⟩)<;>(try with_reducible intro hc)<;>try (exfalso;omega)) | ((first | (refine w_e [] ?_;intro J hJ;simp only []) | (refine w_q ?_;intro J hJ) | refine e_go ?_);simp [w1];(repeat refine ca ?_);(try ((try with_reducible refine ⟨?_,?_⟩)<;>(try with_reducible intro hnil)<;>refine hJ _ _ ?_<;>clear hJ J<;>simp only [ak,reduceIte]<;>try subst hnil)))))
 refine qF (Len l.length _ hl) ?_;rintro r st' ⟨rfl,rfl⟩
 (repeat' (first | refine qS ?_ | refine qB ?_ | ((first | refine qK ?_ | refine qX ?_);simp only [ak,reduceIte]) | (refine qR ?_;simp only [ak,reduceIte];simp []) | (refine qC ?_;simp [];(try with_reducible refine ⟨?_,?_⟩)<;>(try with_reducible intro hc)<;>try (exfalso;omega)) | ((first | (refine w_e [] ?_;intro J hJ;simp only []) | (refine w_q ?_;intro J hJ) | refine e_go ?_);simp [];(repeat refine ca ?_);(try ((try with_reducible refine ⟨?_,?_⟩)<;>(try with_reducible intro hnil)<;>refine hJ _ _ ?_<;>clear hJ J<;>simp only [ak,reduceIte]<;>try subst hnil)))))
 refine qE (pdqsort_upto hC (l.length+1) l q 0 l.length (blen l.length) _ hD hl (by omega) (by omega) (by omega) (fun h=>absurd h (by omega)) (by omega) hqn hH) (by simp []) ?_;rintro r st' ⟨c,k1,k2,k3,k4⟩
 (repeat' (first | refine qS ?_ | refine qB ?_ | ((first | refine qK ?_ | refine qX ?_);simp only [ak,reduceIte]) | (refine qR ?_;simp only [ak,reduceIte];simp []) | (refine qC ?_;simp [];(try with_reducible refine ⟨?_,?_⟩)<;>(try with_reducible intro hc)<;>try (exfalso;omega)) | ((first | (refine w_e [] ?_;intro J hJ;simp only []) | (refine w_q ?_;intro J hJ) | refine e_go ?_);simp [];(repeat refine ca ?_);(try ((try with_reducible refine ⟨?_,?_⟩)<;>(try with_reducible intro hnil)<;>refine hJ _ _ ?_<;>clear hJ J<;>simp only [ak,reduceIte]<;>try subst hnil)))))
 have hcl:=k2.len
 exact ⟨trivial,c,k1,k2.perm,srt_pair (by rw [hcl];exact k3),k4⟩
end Go.Proofs.YtkcokoefodgigaaGreat.Aw.CE
namespace Go.Proofs.YtkcokoefodgigaaGreat.Aw
open Go Go.RowKit Go.Proofs.YtkcokoefodgigaaGreat.Pl Go.Proofs.YtkcokoefodgigaaGreat.Eu
set_option linter.unusedSimpArgs false
set_option linter.unusedVariables false
def cmpI (x y:Int):Int:=if x < y then -1 else if y < x then 1 else 0
theorem cmpI_neg (x y:Int):cmpI x y < 0↔x < y:=by
 unfold cmpI
 by_cases h1:x < y
 ·rw [if_pos h1];omega
 ·rw [if_neg h1];by_cases h2:y < x
  ·rw [if_pos h2];omega
  ·rw [if_neg h2];omega
theorem CompareB (x y:Int) (st:St):ACalls Tryz.prog 18 [u x,u y] st fun r st'=>r=i (cmpI x y)∧st'=st:=by
 refine qO tabOk Tryz.func18 rfl rfl Tryz.ntmps18 (rs:=[.tmp 4]) rfl (by simp) ?_
 (repeat' (first | refine qS ?_ | refine qB ?_ | ((first | refine qK ?_ | refine qX ?_);simp only [ak,reduceIte]) | (refine qR ?_;simp only [ak,reduceIte];simp []) | (refine qC ?_;simp [];(try with_reducible refine ⟨?_,?_⟩)<;>(try with_reducible intro hc)<;>try (exfalso;omega)) | ((first | (refine w_e [] ?_;intro J hJ;simp only []) | (refine w_q ?_;intro J hJ) | refine e_go ?_);simp [];(repeat refine ca ?_);(try ((try with_reducible refine ⟨?_,?_⟩)<;>(try with_reducible intro hnil)<;>refine hJ _ _ ?_<;>clear hJ J<;>simp only [ak,reduceIte]<;>try subst hnil)))))
 refine qF (isNaN x _) ?_;rintro r st' ⟨rfl,rfl⟩
 (repeat' (first | refine qS ?_ | refine qB ?_ | ((first | refine qK ?_ | refine qX ?_);simp only [ak,reduceIte]) | (refine qR ?_;simp only [ak,reduceIte];simp []) | (refine qC ?_;simp [];(try with_reducible refine ⟨?_,?_⟩)<;>(try with_reducible intro hc)<;>try (exfalso;omega)) | ((first | (refine w_e [] ?_;intro J hJ;simp only []) | (refine w_q ?_;intro J hJ) | refine e_go ?_);simp [];(repeat refine ca ?_);(try ((try with_reducible refine ⟨?_,?_⟩)<;>(try with_reducible intro hnil)<;>refine hJ _ _ ?_<;>clear hJ J<;>simp only [ak,reduceIte]<;>try subst hnil)))))
 refine qF (isNaN y _) ?_;rintro r st' ⟨rfl,rfl⟩
 by_cases h1:x < y
 ·(repeat' (first | refine qS ?_ | refine qB ?_ | ((first | refine qK ?_ | refine qX ?_);simp only [ak,reduceIte]) | (refine qR ?_;simp only [ak,reduceIte];simp [h1,cmpI]) | (refine qC ?_;simp [h1,cmpI];(try with_reducible refine ⟨?_,?_⟩)<;>(try with_reducible intro hc)<;>try (exfalso;omega)) | ((first | (refine w_e [] ?_;intro J hJ;simp only []) | (refine w_q ?_;intro J hJ) | refine e_go ?_);simp [h1,cmpI];(repeat refine ca ?_);(try ((try with_reducible refine ⟨?_,?_⟩)<;>(try with_reducible intro hnil)<;>refine hJ _ _ ?_<;>clear hJ J<;>simp only [ak,reduceIte]<;>try subst hnil)))))
 ·by_cases h2:y < x
  ·(repeat' (first | refine qS ?_ | refine qB ?_ | ((first | refine qK ?_ | refine qX ?_);simp only [ak,reduceIte]) | (refine qR ?_;simp only [ak,reduceIte];simp [h1,h2,cmpI]) | (refine qC ?_;simp [h1,h2,cmpI];(try with_reducible refine ⟨?_,?_⟩)<;>(try with_reducible intro hc)<;>try (exfalso;omega)) | ((first | (refine w_e [] ?_;intro J hJ;simp only []) | (refine w_q ?_;intro J hJ) | refine e_go ?_);simp [h1,h2,cmpI];(repeat refine ca ?_);(try ((try with_reducible refine ⟨?_,?_⟩)<;>(try with_reducible intro hnil)<;>refine hJ _ _ ?_<;>clear hJ J<;>simp only [ak,reduceIte]<;>try subst hnil)))))
  ·(repeat' (first | refine qS ?_ | refine qB ?_ | ((first | refine qK ?_ | refine qX ?_);simp only [ak,reduceIte]) | (refine qR ?_;simp only [ak,reduceIte];simp [h1,h2,cmpI]) | (refine qC ?_;simp [h1,h2,cmpI];(try with_reducible refine ⟨?_,?_⟩)<;>(try with_reducible intro hc)<;>try (exfalso;omega)) | ((first | (refine w_e [] ?_;intro J hJ;simp only []) | (refine w_q ?_;intro J hJ) | refine e_go ?_);simp [h1,h2,cmpI];(repeat refine ca ?_);(try ((try with_reducible refine ⟨?_,?_⟩)<;>(try with_reducible intro hnil)<;>refine hJ _ _ ?_<;>clear hJ J<;>simp only [ak,reduceIte]<;>try subst hnil)))))
theorem cut_1 (x y:Ed) (st:St):ACalls Tryz.prog 47 [.ag (edL x),.ag (edL y)] st fun r st'=>r=i (cmpI x.id y.id)∧st'=st:=by
 refine qT (Q:=fun r=>r=i (cmpI x.id y.id)) ?_ fun r h=>by subst h;trivial
 obtain ⟨xi,xa,xb⟩:=x
 obtain ⟨yi,ya,yb⟩:=y
 refine qO tabOk Tryz.func47 rfl rfl Tryz.ntmps47 (rs:=[.tmp 4]) rfl (by simp) ?_
 (repeat' (first | refine qS ?_ | refine qB ?_ | ((first | refine qK ?_ | refine qX ?_);simp only [ak,reduceIte]) | (refine qR ?_;simp only [ak,reduceIte];simp []) | (refine qC ?_;simp [];(try with_reducible refine ⟨?_,?_⟩)<;>(try with_reducible intro hc)<;>try (exfalso;omega)) | ((first | (refine w_e [] ?_;intro J hJ;simp only []) | (refine w_q ?_;intro J hJ) | refine e_go ?_);simp [];(repeat refine ca ?_);(try ((try with_reducible refine ⟨?_,?_⟩)<;>(try with_reducible intro hnil)<;>refine hJ _ _ ?_<;>clear hJ J<;>simp only [ak,reduceIte]<;>try subst hnil)))))
 refine qE (CompareB xi yi _) (by simp) ?_;rintro r s1 ⟨rfl,rfl⟩
 (repeat' (first | refine qS ?_ | refine qB ?_ | ((first | refine qK ?_ | refine qX ?_);simp only [ak,reduceIte]) | (refine qR ?_;simp only [ak,reduceIte];simp [cmpI]) | (refine qC ?_;simp [cmpI];(try with_reducible refine ⟨?_,?_⟩)<;>(try with_reducible intro hc)<;>try (exfalso;omega)) | ((first | (refine w_e [] ?_;intro J hJ;simp only []) | (refine w_q ?_;intro J hJ) | refine e_go ?_);simp [cmpI];(repeat refine ca ?_);(try ((try with_reducible refine ⟨?_,?_⟩)<;>(try with_reducible intro hnil)<;>refine hJ _ _ ?_<;>clear hJ J<;>simp only [ak,reduceIte]<;>try subst hnil)))))
 exact (Keeps.new _ _).trans (Keeps.new _ _)
theorem Blocks_1 (x y:Ed) (X Y:List Ed) (st:St):ACalls Tryz.prog 17 [.sl 0 (X.length+1) (eds (x::X)),.sl 0 (Y.length+1) (eds (y::Y))] st fun r st'=>r=i (cmpI x.id y.id)∧st'=st:=by
 refine qT (Q:=fun r=>r=i (cmpI x.id y.id)) ?_ fun r h=>by subst h;trivial
 obtain ⟨xi,xa,xb⟩:=x
 obtain ⟨yi,ya,yb⟩:=y
 have e1:eds (⟨xi,xa,xb⟩::X)=u xi::u xa::u xb::eds X:=rfl
 have e2:eds (⟨yi,ya,yb⟩::Y)=u yi::u ya::u yb::eds Y:=rfl
 rw [e1,e2]
 refine qO tabOk Tryz.func17 rfl rfl Tryz.ntmps17 (rs:=[.tmp 4]) rfl (by simp) ?_
 (repeat' (first | refine qS ?_ | refine qB ?_ | ((first | refine qK ?_ | refine qX ?_);simp only [ak,reduceIte]) | (refine qR ?_;simp only [ak,reduceIte];simp []) | (refine qC ?_;simp [];(try with_reducible refine ⟨?_,?_⟩)<;>(try with_reducible intro hc)<;>try (exfalso;omega)) | ((first | (refine w_e [] ?_;intro J hJ;simp only []) | (refine w_q ?_;intro J hJ) | refine e_go ?_);simp [];(repeat refine ca ?_);(try ((try with_reducible refine ⟨?_,?_⟩)<;>(try with_reducible intro hnil)<;>refine hJ _ _ ?_<;>clear hJ J<;>simp only [ak,reduceIte]<;>try subst hnil)))))
 (refine w_s [] [] [(0,true),(1,true),(2,true),(3,true),(4,true),(5,true),(6,true),(7,true),(8,false),(9,true)] ?_;intro J hJ;simp [];(repeat refine ca ?_);(try ((try with_reducible refine ⟨?_,?_⟩)<;>(try with_reducible intro hnil)<;>refine hJ _ _ ?_<;>clear hJ J<;>simp only [ak,reduceIte]<;>try subst hnil)))
 refine qD (CompareB xi yi _) (by simp) ?_;rintro r s1 ⟨rfl,rfl⟩
 refine ⟨fun h=>by first | (cases h;done) | simp,?_⟩
 (refine d_go ?_;simp [];(repeat refine ca ?_);(try ((try with_reducible refine ⟨?_,?_⟩)<;>(try with_reducible intro hnil)<;>refine hJ _ _ ?_<;>clear hJ J<;>simp only [ak,reduceIte]<;>try subst hnil)))
 (repeat' (first | refine qS ?_ | refine qB ?_ | ((first | refine qK ?_ | refine qX ?_);simp only [ak,reduceIte]) | (refine qR ?_;simp only [ak,reduceIte];simp [cmpI]) | (refine qC ?_;simp [cmpI];(try with_reducible refine ⟨?_,?_⟩)<;>(try with_reducible intro hc)<;>try (exfalso;omega)) | ((first | (refine w_e [] ?_;intro J hJ;simp only []) | (refine w_q ?_;intro J hJ) | refine e_go ?_);simp [cmpI];(repeat refine ca ?_);(try ((try with_reducible refine ⟨?_,?_⟩)<;>(try with_reducible intro hnil)<;>refine hJ _ _ ?_<;>clear hJ J<;>simp only [ak,reduceIte]<;>try subst hnil)))))
 exact Keeps.refl _
section
variable {es:List Ed} (hids:es.Pairwise fun x y=>x.id < y.id)
include hids
theorem id_lt {a b:Nat} (ha:a < es.length) (hb:b < es.length):(eAt es a).id < (eAt es b).id↔a < b:=by
 unfold eAt
 rw [getE_lt _ _ ha,getE_lt _ _ hb]
 rw [List.pairwise_iff_getElem] at hids
 rcases Nat.lt_trichotomy a b with k | k | k
 ·exact ⟨fun _=>k,fun _=>hids a b ha hb k⟩
 ·subst k;omega
 ·have:=hids b a hb ha k;omega
theorem cut_cmp:CE.CmpW 47 [] (fun x=>eAt es x.toNat) fun x=>0≤x∧x.toNat < es.length:=
 ⟨fun x y st hx hy=>(cut_1 _ _ st).mono fun r s h=>⟨⟨_,h.1,by rw [cmpI_neg,id_lt hids hx.2 hy.2];omega⟩,h.2⟩⟩
theorem SortE (P:List Nat) (hn:P.Nodup) (hP:∀ i∈P,i < es.length) (q:Nat) (st:St) (hl:P.length < 65536) (hq:q < st.next) (hH:st.H q=.box 34 3 (eds (P.map (eAt es)))):
 ACalls Tryz.prog 46 [.ms q 0 P.length,.fn (.func 47) []] st fun r st'=>st'.H q=.box 34 3 (eds ((blkW es.length P).map (eAt es)))∧OffS q st st':=by
 have e:∀ L:List Nat,CE.es3 (fun x=>eAt es x.toNat) (L.map fun k:Nat=>(k:Int))=eds (L.map (eAt es)):=fun L=>by
  unfold CE.es3;rw [List.map_map];rfl
 have h:=CE.SortW (cut_cmp hids) (P.map fun k:Nat=>(k:Int)) q st (fun x hx=>by
  obtain ⟨k,hk,rfl⟩:=List.mem_map.1 hx
  exact ⟨by omega,by simpa using hP k hk⟩) (by simpa using hl) hq (by rw [e];exact hH)
 rw [List.length_map] at h
 refine h.mono ?_
 rintro r s ⟨c,h1,h2,h3,h4⟩
 refine ⟨?_,h4⟩
 have hc:c=(blkW es.length P).map fun k:Nat=>(k:Int):=by
  refine srt_unique h3 ?_ (h2.trans ((blkW_perm hn hP).map _).symm)
  rw [List.pairwise_map]
  exact (blkW_rise _ _).imp fun k=>by omega
 rw [h1,hc,e]
def bkL (es:List Ed) (out:List (List Nat)):List LV:=out.map fun B=>.sl 0 B.length (eds (B.map (eAt es)))
omit hids in
theorem bkL_length (es:List Ed) (out:List (List Nat)):(bkL es out).length=out.length:=by simp [bkL]
theorem blk_cmp:CB.CmpW 17 [] (fun x=>(clsB es x.toNat).length) (fun x=>eds ((clsB es x.toNat).map (eAt es))) fun x=>0≤x∧x.toNat < es.length∧(clsB es x.toNat).headD 0=x.toNat:=by
 refine ⟨fun x y st hx hy=>?_⟩
 have hh:∀ z:Nat,z < es.length→(clsB es z).headD 0=z→∃ R,clsB es z=z::R:=fun z hz he=>by
  have hm:z∈clsB es z:=clsB_mem.2 ⟨hz,.refl⟩
  cases hc:clsB es z with
  | nil=>rw [hc] at hm;cases hm
  | cons a R=>rw [hc] at he;simp at he;exact ⟨R,by rw [he]⟩
 obtain ⟨X,eX⟩:=hh _ hx.2.1 hx.2.2
 obtain ⟨Y,eY⟩:=hh _ hy.2.1 hy.2.2
 rw [eX,eY]
 have:=Blocks_1 (eAt es x.toNat) (eAt es y.toNat) (X.map (eAt es)) (Y.map (eAt es)) st
 rw [List.length_map,List.length_map] at this
 exact this.mono fun r s h=>⟨⟨_,h.1,by rw [cmpI_neg,id_lt hids hx.2.1 hy.2.1];omega⟩,h.2⟩
theorem SortB (out:List (List Nat)) (hall:∀ i,i∈out.flatten↔i < es.length) (hok:∀ B∈out,BlkOk es B) (hnd:out.flatten.Nodup) (q:Nat) (st:St) (hl:out.length < 65536) (hq:q < st.next) (hH:st.H q=.box 23 1 (bkL es out)):
 ACalls Tryz.prog 16 [.ms q 0 out.length,.fn (.func 17) []] st fun r st'=>st'.H q=.box 23 1 (bkL es (ledB es))∧(ledB es).Perm out∧OffS q st st':=by
 obtain ⟨L,hL⟩:∃ L:List Int,L=out.map fun B=>((B.headD 0:Nat):Int):=⟨_,rfl⟩
 have hB:∀ B∈out,clsB es (B.headD 0)=B:=fun B h=>((hok B h).cls (head_mem (hok B h).ne)).symm
 have hD:∀ x∈L,0≤x∧x.toNat < es.length∧(clsB es x.toNat).headD 0=x.toNat:=fun x hx=>by
  rw [hL] at hx
  obtain ⟨B,h,rfl⟩:=List.mem_map.1 hx
  refine ⟨by omega,?_,?_⟩
  ·simpa using (hok B h).lt _ (head_mem (hok B h).ne)
  ·rw [Int.toNat_natCast,hB B h]
 have e:∀ c:List Int,CB.ws (fun x=>(clsB es x.toNat).length) (fun x=>eds ((clsB es x.toNat).map (eAt es))) c=bkL es (c.map fun x=>clsB es x.toNat):=fun c=>by
  unfold bkL CB.ws;rw [List.map_map];rfl
 have eL:L.map (fun x=>clsB es x.toNat)=out:=by
  rw [hL,List.map_map]
  have:∀ B∈out,((fun x:Int=>clsB es x.toNat)∘fun B:List Nat=>((B.headD 0:Nat):Int)) B=B:=fun B h=>by
   show clsB es ((B.headD 0:Nat):Int).toNat=B
   rw [Int.toNat_natCast];exact hB B h
  rw [List.map_congr_left this,List.map_id']
 have hLn:L.Nodup:=by
  rw [hL]
  refine List.pairwise_map.2 ?_
  have:=(List.pairwise_flatten.1 hnd).2
  refine this.imp_of_mem fun {a b} ha hb hd he=>?_
  exact hd _ (head_mem (hok a ha).ne) _ (head_mem (hok b hb).ne) (by omega)
 have h:=CB.SortW (blk_cmp hids) L q st hD (by rw [hL,List.length_map];exact hl) hq (by rw [e,eL];exact hH)
 rw [show L.length=out.length by rw [hL,List.length_map]] at h
 refine h.mono ?_
 rintro r s ⟨c,h1,h2,h3,h4⟩
 have hcD:∀ x∈c,0≤x∧x.toNat < es.length∧(clsB es x.toNat).headD 0=x.toNat:=fun x hx=>hD x (h2.mem_iff.1 hx)
 have hp:(c.map fun x=>clsB es x.toNat).Perm out:=by
  have:=h2.map fun x:Int=>clsB es x.toNat
  rwa [eL] at this
 have hr:(c.map fun x=>clsB es x.toNat).Pairwise fun x y=>x.headD 0 < y.headD 0:=by
  rw [List.pairwise_map]
  have hcn:=h2.nodup_iff.2 hLn
  refine (h3.and hcn).imp_of_mem fun {a b} ha hb hab=>?_
  have h5:=hcD a ha
  have h6:=hcD b hb
  rw [h5.2.2,h6.2.2]
  have:=hab.2
  have:=hab.1
  omega
 have hled:=blocks_led hall hok hp hr
 refine ⟨by rw [h1,e,hled],by rw [← hled];exact hp,h4⟩
end
def isN (l:List Nat):List LV:=l.map fun k:Nat=>i (k:Int)
@[simp] theorem isN_length (l:List Nat):(isN l).length=l.length:=by simp [isN]
theorem isN_drop (l:List Nat) (k:Nat) (hk:k < l.length):(isN l).drop k=i ((l.getD k 0:Nat):Int)::(isN l).drop (k+1):=by
 unfold isN
 rw [List.drop_eq_getElem_cons (by simpa using hk)]
 simp [hk]
theorem isN_take (l:List Nat) (k:Nat):(isN l).take k=isN (l.take k):=by simp [isN]
theorem idxC {v x:Int} {V:List Int} (h:¬ v=x):(v::V).idxOf x=V.idxOf x+1:=by
 have e:(v==x)=false:=by rw [beq_eq_false_iff_ne];exact h
 rw [List.idxOf_cons,e];rfl
def nbF:Nat→List Int→List (List Int×LV)
 | _,[]=>[]
 | k,v::V=>([v],i ((k:Int)+1))::nbF (k+1) V
theorem nbF_length (V:List Int):∀ k,(nbF k V).length=V.length:=by
 induction V with
 | nil=>intro k;rfl
 | cons v V ih=>intro k;simp [nbF,ih]
theorem mget_nbF (V:List Int) (x:Int):∀ k,mget (nbF k V) [x]=if x∈V then some (i ((k:Int)+nmW V x)) else none:=by
 induction V with
 | nil=>intro k;rfl
 | cons v V ih=>
   intro k
   unfold nbF mget
   by_cases e:v=x
   ·subst e
    simp [nmW]
   ·have e2:¬ ([x]==[v])=true:=by simpa using fun k=>e k.symm
    rw [if_neg e2,ih (k+1)]
    by_cases hx:x∈V
    ·rw [if_pos hx,if_pos (List.mem_cons_of_mem _ hx)]
     unfold nmW
     rw [if_pos hx,if_pos (List.mem_cons_of_mem _ hx),idxC e]
     congr 2
     omega
    ·rw [if_neg hx,if_neg]
     rw [List.mem_cons,not_or]
     exact ⟨fun h=>e h.symm,hx⟩
theorem mset_nbF {x:Int} (V:List Int) (h:x∉V):∀ k,mset (nbF k V) [x] (i ((k:Int)+V.length+1))=nbF k (V++[x]):=by
 induction V with
 | nil=>intro k;simp [nbF,mset]
 | cons v V ih=>
   intro k
   rw [List.mem_cons,not_or] at h
   have e:¬ ([x]==[v])=true:=by simpa using h.1
   unfold nbF mset
   simp only [e,Bool.false_eq_true,if_false,List.cons_append]
   have:=ih h.2 (k+1)
   rw [show ((k:Int)+(v::V).length+1)=((k+1:Nat):Int)+V.length+1 by simp;omega,this]
theorem mget_nb (V:List Int) (x:Int):mget (nbF 0 V) [x]=if x∈V then some (i (nmW V x)) else none:=by
 rw [mget_nbF];split<;>simp
theorem mset_nb {x:Int} {V:List Int} (h:x∉V):mset (nbF 0 V) [x] (i ((V.length:Int)+1))=nbF 0 (V++[x]):=by
 have:=mset_nbF V h 0
 simpa using this
def lwF:List Int→List Int→List (List Int×LV)
 | v::V,x::L=>([v],i x)::lwF V L
 | _,_=>[]
theorem mget_lw:∀ (V L:List Int) (x:Int),L.length=V.length→x∈V→mget (lwF V L) [x]=some (i (L.getD (V.idxOf x) 0))
 | [],_,_,_,h=>by cases h
 | v::V,[],x,hl,_=>by simp at hl
 | v::V,y::L,x,hl,h=>by
   unfold lwF mget
   by_cases e:v=x
   ·subst e;simp
   ·have e2:¬ ([x]==[v])=true:=by simpa using fun k=>e k.symm
    simp only [e2,Bool.false_eq_true,if_false]
    rw [mget_lw V L x (by simpa using hl) (by rcases List.mem_cons.1 h with k | k;exact absurd k.symm e;exact k),idxC e]
    rfl
theorem mset_lw_new:∀ (V L:List Int) (x y:Int),L.length=V.length→x∉V→mset (lwF V L) [x] (i y)=lwF (V++[x]) (L++[y])
 | [],[],_,_,_,_=>rfl
 | [],_::_,_,_,hl,_=>by simp at hl
 | v::V,[],x,_,hl,_=>by simp at hl
 | v::V,z::L,x,y,hl,h=>by
   rw [List.mem_cons,not_or] at h
   have e:¬ ([x]==[v])=true:=by simpa using h.1
   unfold lwF mset
   simp only [e,Bool.false_eq_true,if_false,List.cons_append]
   rw [mset_lw_new V L x y (by simpa using hl) h.2]
theorem mset_lw_old:∀ (V L:List Int) (x y:Int),L.length=V.length→x∈V→mset (lwF V L) [x] (i y)=lwF V (L.set (V.idxOf x) y)
 | [],_,_,_,_,h=>by cases h
 | v::V,[],x,_,hl,_=>by simp at hl
 | v::V,z::L,x,y,hl,h=>by
   unfold lwF mset
   by_cases e:v=x
   ·subst e;simp [lwF]
   ·have e2:¬ ([x]==[v])=true:=by simpa using fun k=>e k.symm
    simp only [e2,Bool.false_eq_true,if_false]
    rw [mset_lw_old V L x y (by simpa using hl) (by rcases List.mem_cons.1 h with k | k;exact absurd k.symm e;exact k),idxC e]
    rfl
theorem lastP_spec {l:List Nat} {i:Nat} (h:i∈l):lastP l i < l.length∧l.getD (lastP l i) 0=i∧∀ j,lastP l i < j→j < l.length→l.getD j 0≠i:=by
 obtain ⟨P,R,rfl,hR⟩:∃ P R,l=P++i::R∧i∉R:=by
  obtain ⟨P,R,e,hR⟩:=List.eq_append_cons_of_mem (List.mem_reverse.2 h)
  refine ⟨R.reverse,P.reverse,?_,by simpa using hR⟩
  have:=congrArg List.reverse e
  simpa using this
 rw [lastP_app hR]
 refine ⟨by simp,by simp,fun j h1 h2 e=>hR ?_⟩
 rw [List.getD_eq_getElem?_getD,List.getElem?_append_right (by omega)] at e
 obtain ⟨m,hm⟩:∃ m,j - P.length=m+1:=⟨j - P.length - 1,by omega⟩
 rw [hm,List.getElem?_cons_succ] at e
 simp at h2
 rw [List.getElem?_eq_getElem (by omega)] at e
 simp only [Option.getD_some] at e
 rw [← e]
 exact List.getElem_mem _
structure BwAt (g:Gr) (B W a nb lw:Nat) (tk:Int→Nat) (s:Bw) (st:St):Prop where
 ex:∃ tS tB CS ea,st.H W=.box 46 6 [.sl 0 g.es.length (eds g.es),.mp a,.mp nb,.mp lw,.ms tS 0 s.stk.length,.ms tB 0 s.out.length]∧
  (st.H a=.map false [.u32] ea∧∀ v,mget ea [v]=if atP g.es v=[] then none else some (.sl (tk v) (atP g.es v).length (isN (atP g.es v))))∧
  st.H nb=.map false [.u32] (nbF 0 s.vis)∧st.H lw=.map false [.u32] (lwF s.vis s.low)∧(st.H tS=.box 3 1 CS∧CS.take s.stk.length=isN s.stk)∧st.H tB=.box 23 1 (bkL g.es s.out)∧
  (a≠nb∧a≠lw∧nb≠lw)∧(B≤tS∧B≤tB∧tS < st.next∧tB < st.next)
 bd:(B≤W∧B≤a∧B≤nb∧B≤lw)∧(W < st.next∧a < st.next∧nb < st.next∧lw < st.next)
theorem box_neB {st:St} {a b:Nat} {x y:LObj} (ha:st.H a=x) (hb:st.H b=y) (h:x≠y):¬ a=b:=fun e=>h (by rw [← ha,e,hb])
theorem eAt_drop {es:List Ed} {P:List Nat} {j:Nat} (hj:j < P.length):(P.take (j+1)).map (eAt es)=(P.take j).map (eAt es)++[eAt es (P.getD j 0)]:=by
 rw [List.take_succ_eq_append_getElem hj,List.map_append,List.getD_eq_getElem?_getD,List.getElem?_eq_getElem hj];rfl
structure KbB (B:Nat) (st st':St):Prop where
 next:st.next≤st'.next
 H:∀ x,x < B→st'.H x=st.H x
theorem KbB.refl (B:Nat) (st:St):KbB B st st:=⟨Nat.le_refl _,fun _ _=>rfl⟩
theorem KbB.trans {B:Nat} {a b c:St} (h:KbB B a b) (k:KbB B b c):KbB B a c:=⟨Nat.le_trans h.next k.next,fun x hx=>by rw [k.H x hx,h.H x hx]⟩
theorem KbB.new {B:Nat} {a b:St} (h:KbB B a b) (hB:B≤b.next) (o:LObj):KbB B a (b.new o):=⟨by rw [new_next];exact Nat.le_succ_of_le h.next,fun x hx=>by rw [new_H,if_neg (by omega)];exact h.H x hx⟩
theorem KbB.set {B:Nat} {a b:St} (h:KbB B a b) {l:Nat} (hl:B≤l) (o:LObj):KbB B a (b.set l o):=⟨h.next,fun x hx=>by rw [set_H,if_neg (by omega)];exact h.H x hx⟩
set_option maxHeartbeats 4000000 in
theorem cutS (g:Gr) (hids:g.es.Pairwise fun x y=>x.id < y.id) (B W a nb lw:Nat) (tk:Int→Nat) (s:Bw) (i0:Nat) (st:St) (h:BwAt g B W a nb lw tk s st) (hi:i0∈s.stk) (hsl:∀ k∈s.stk.drop (lastP s.stk i0),k < g.es.length) (hsn:(s.stk.drop (lastP s.stk i0)).Nodup) (he:g.es.length≤1000) (hkl:s.stk.length≤60000) (hol:s.out.length≤100000):
 ACalls Tryz.prog 27 [.pt W 0,i i0] st fun r st'=>∃ s',cutW g.es.length s i0=some s'∧BwAt g B W a nb lw tk s' st'∧KbB B st st':=by
 obtain ⟨hl1,hl2,hl3⟩:=lastP_spec hi
 have hcw:cutW g.es.length s i0=some { s with stk:=s.stk.take (lastP s.stk i0),out:=s.out++[blkW g.es.length (s.stk.drop (lastP s.stk i0))] }:=by unfold cutW;rw [if_pos hi]
 rw [hcw]
 clear hcw
 obtain ⟨⟨tS,tB,CS,ea,hW,⟨hA,hAm⟩,hN,hL,⟨hS,hSt⟩,hBk,⟨n1,n2,n3⟩,⟨b1,b2,b3,b4⟩⟩,⟨c1,c2,c3,c4⟩,d1,d2,d3,d4⟩:=h
 generalize hkk:lastP s.stk i0=kl at *
 obtain ⟨P,hP⟩:∃ P,P=s.stk.drop kl:=⟨_,rfl⟩
 rw [← hP] at hsl hsn ⊢
 have hPl:P.length=s.stk.length - kl:=by rw [hP,List.length_drop]
 have hCS:s.stk.length≤CS.length:=by
  have:=congrArg List.length hSt
  rw [List.length_take,isN_length] at this
  omega
 have hCd:∀ k,k < s.stk.length→CS.drop k=i ((s.stk.getD k 0:Nat):Int)::CS.drop (k+1):=fun k hk=>by
  have e1:CS=isN s.stk++CS.drop s.stk.length:=by rw [← hSt];exact (List.take_append_drop _ _).symm
  rw [List.drop_eq_getElem_cons (by omega)]
  congr 1
  have:CS[k]'(by omega)=(isN s.stk)[k]'(by simpa using hk):=by
   have h2:=List.getElem_of_eq hSt (i:=k) (by rw [List.length_take];omega)
   rw [List.getElem_take] at h2
   exact h2
  rw [this]
  simp [isN,hk]
 have w1:=nat_sub_one s.stk.length (by omega) (by omega)
 have m1:¬ W=tS:=box_neB hW hS (by simp)
 have m2:¬ W=tB:=box_neB hW hBk (by simp)
 have m3:¬ tS=tB:=box_neB hS hBk (by simp)
 have m4:¬ W=a:=box_neB hW hA (by simp)
 have m5:¬ W=nb:=box_neB hW hN (by simp)
 have m6:¬ W=lw:=box_neB hW hL (by simp)
 have m7:¬ a=tS:=box_neB hA hS (by simp)
 have m8:¬ a=tB:=box_neB hA hBk (by simp)
 have m9:¬ nb=tS:=box_neB hN hS (by simp)
 have m10:¬ nb=tB:=box_neB hN hBk (by simp)
 have m11:¬ lw=tS:=box_neB hL hS (by simp)
 have m12:¬ lw=tB:=box_neB hL hBk (by simp)
 refine qO tabOk Tryz.func27 rfl rfl Tryz.ntmps27 (rs:=[]) rfl (by simp) ?_
 (repeat' (first | refine qS ?_ | refine qB ?_ | ((first | refine qK ?_ | refine qX ?_);simp only [ak,reduceIte]) | (refine qR ?_;simp only [ak,reduceIte];simp [hW,w1]) | (refine qC ?_;simp [hW,w1];(try with_reducible refine ⟨?_,?_⟩)<;>(try with_reducible intro hc)<;>try (exfalso;omega)) | ((first | (refine w_e [] ?_;intro J hJ;simp only []) | (refine w_q ?_;intro J hJ) | refine e_go ?_);simp [hW,w1];(repeat refine ca ?_);(try ((try with_reducible refine ⟨?_,?_⟩)<;>(try with_reducible intro hnil)<;>refine hJ _ _ ?_<;>clear hJ J<;>simp only [ak,reduceIte]<;>try subst hnil)))))
 refine qL (fun n fr st2=>∃ k:Nat,n=k∧st2=st∧fr 0=.pt W 0∧fr 1=i i0∧fr 4=i k∧kl≤k∧k < s.stk.length) (s.stk.length - 1) ?_ ?_
 ·exact ⟨s.stk.length - 1,rfl,rfl,by simp,by simp,by simp,by omega,by omega⟩
 rintro k fr st2 ⟨_,rfl,hst2,f0,f1,f4,hk1,hk2⟩ JJ hJJ
 rw [hst2];clear hst2 st2
 have hd:=hCd k hk2
 have hkc:k < CS.length:=by omega
 by_cases hk:k=kl
 rotate_left
 ·have hne:=hl3 k (by omega) hk2
  generalize s.stk.getD k 0=y at *
  have hnb:((y:Int) != (i0:Int))=true:=by rw [bne_iff_ne];omega
  have w2:=nat_sub_one k (by omega) (by omega)
  (repeat' (first | refine qS ?_ | refine qB ?_ | ((first | refine qK ?_ | refine qX ?_);simp only [ak,reduceIte]) | (refine qR ?_;simp only [ak,reduceIte];simp [f0,f1,f4,hW,hS,hd,hkc,hk2,hnb,w2]) | (refine qC ?_;simp [f0,f1,f4,hW,hS,hd,hkc,hk2,hnb,w2];(try with_reducible refine ⟨?_,?_⟩)<;>(try with_reducible intro hc)<;>try (exfalso;omega)) | ((first | (refine w_e [] ?_;intro J hJ;simp only []) | (refine w_q ?_;intro J hJ) | refine e_go ?_);simp [f0,f1,f4,hW,hS,hd,hkc,hk2,hnb,w2];(repeat refine ca ?_);(try ((try with_reducible refine ⟨?_,?_⟩)<;>(try with_reducible intro hnil)<;>refine hJ _ _ ?_<;>clear hJ J<;>simp only [ak,reduceIte]<;>try subst hnil)))))
  exact hJJ (k - 1) _ _ (by omega) ⟨k - 1,rfl,rfl,by simp [f0],by simp [f1],by simp,by omega,by omega⟩
 clear hJJ
 subst hk
 rw [hl2] at hd
 have hnb:((i0:Int) != (i0:Int))=false:=by simp
 (repeat' (first | refine qS ?_ | refine qB ?_ | ((first | refine qK ?_ | refine qX ?_);simp only [ak,reduceIte]) | (refine qR ?_;simp only [ak,reduceIte];simp [f0,f1,f4,hW,hS,hd,hkc,hk2,hnb]) | (refine qC ?_;simp [f0,f1,f4,hW,hS,hd,hkc,hk2,hnb];(try with_reducible refine ⟨?_,?_⟩)<;>(try with_reducible intro hc)<;>try (exfalso;omega)) | ((first | (refine w_e [] ?_;intro J hJ;simp only []) | (refine w_q ?_;intro J hJ) | refine e_go ?_);simp [f0,f1,f4,hW,hS,hd,hkc,hk2,hnb];(repeat refine ca ?_);(try ((try with_reducible refine ⟨?_,?_⟩)<;>(try with_reducible intro hnil)<;>refine hJ _ _ ?_<;>clear hJ J<;>simp only [ak,reduceIte]<;>try subst hnil)))))
 rw [← hPl]
 refine awp_ownM 5 34 3 (by simp) ?_
 have hel:=eds_length g.es
 refine awp_range 32 31 33 46 (P.length) (fun j fr st2=>fr 0=.pt W 0∧fr 4=i k∧fr 30=.ms tS k P.length∧Keeps st st2∧∃ q,fr 5=.ms q 0 j∧st2.H q=.box 34 3 (eds ((P.take j).map (eAt g.es)))∧st.next≤q∧q < st2.next) ?_ ?_ ?_
 ·refine ⟨by simp [f0],by simp [f4],by simp [hPl],Keeps.new _ _,st.next,by simp,by simp [eds],by omega,by simp⟩
 ·clear f0 f1 f4 fr hd hnb
  rintro j fr s1 hlt ⟨g0,g4,g30,hkp,q,g5,hq,hq1,hq2⟩ fi fn JO hJO
  have hW1:=(hkp.H W d1).trans hW
  have hS1:=(hkp.H tS b3).trans hS
  have hd2:=hCd (k+j) (by omega)
  have hPd:s.stk.getD (k+j) 0=P.getD j 0:=by rw [hP,List.getD_eq_getElem?_getD,List.getD_eq_getElem?_getD,List.getElem?_drop]
  rw [hPd] at hd2
  have hpl:P.getD j 0 < g.es.length:=hsl _ (by rw [List.getD_eq_getElem?_getD,List.getElem?_eq_getElem hlt];exact List.getElem_mem _)
  have hde:=eds_drop g.es _ hpl
  rw [eAt_drop hlt] at hJO
  have hql:(eds ((P.take j).map (eAt g.es))).length=j * 3:=by rw [eds_length,List.length_map,List.length_take];congr 1;omega
  have hap:eds ((P.take j).map (eAt g.es)++[eAt g.es (P.getD j 0)])=eds ((P.take j).map (eAt g.es))++edL (eAt g.es (P.getD j 0)):=by simp [eds]
  rw [hap] at hJO
  unfold eAt at hJO
  generalize hpp:P.getD j 0=p0 at *
  generalize eds ((P.take j).map (eAt g.es))=RR at *
  generalize g.es.getD p0 ed0=x at *
  obtain ⟨xi,xa,xb⟩:=x
  simp only [edL] at hJO
  simp only at hde
  have hkj:k+j < CS.length:=by omega
  have hp3:p0 * 3 < g.es.length * 3:=by omega
  have y1:¬ q=s1.next:=by omega
  have y2:¬ q=0:=by omega
  (repeat' (first | refine qS ?_ | refine qB ?_ | ((first | refine qK ?_ | refine qX ?_);simp only [ak,reduceIte]) | (refine qR ?_;simp only [ak,reduceIte];simp [g0,g4,g5,g30,fi,fn,hW1,hS1,hd2,hde,hlt,hq,hql,hkj,hpl,hp3,hel,y1,y2]) | (refine qC ?_;simp [g0,g4,g5,g30,fi,fn,hW1,hS1,hd2,hde,hlt,hq,hql,hkj,hpl,hp3,hel,y1,y2];(try with_reducible refine ⟨?_,?_⟩)<;>(try with_reducible intro hc)<;>try (exfalso;omega)) | ((first | (refine w_e [] ?_;intro J hJ;simp only []) | (refine w_q ?_;intro J hJ) | refine e_go ?_);simp [g0,g4,g5,g30,fi,fn,hW1,hS1,hd2,hde,hlt,hq,hql,hkj,hpl,hp3,hel,y1,y2];(repeat refine ca ?_);(try ((try with_reducible refine ⟨?_,?_⟩)<;>(try with_reducible intro hnil)<;>refine hJ _ _ ?_<;>clear hJ J<;>simp only [ak,reduceIte]<;>try subst hnil)))))
  refine hJO _ _ (by simp [fi]) (by simp [fn]) ⟨by simp [g0],by simp [g4],by simp [g30],?_,s1.next+1,by simp,by simp,by omega,by simp⟩
  (repeat (first | exact hkp | (refine Keeps.trans ?_ (Keeps.new _ _)) | (refine Keeps.set ?_ (by omega) _)))
 ·rintro fr s1 ⟨g0,g4,g30,hkp,q,g5,hq,hq1,hq2⟩
  rw [List.take_length] at hq
  have hW1:=(hkp.H W d1).trans hW
  have hS1:=(hkp.H tS b3).trans hS
  have hk':k≤s.stk.length:=by omega
  have hnx:=hkp.next
  have y1:¬ q=W:=by omega
  (repeat' (first | refine qS ?_ | refine qB ?_ | ((first | refine qK ?_ | refine qX ?_);simp only [ak,reduceIte]) | (refine qR ?_;simp only [ak,reduceIte];simp [g0,g4,g5,hW1,hk']) | (refine qC ?_;simp [g0,g4,g5,hW1,hk'];(try with_reducible refine ⟨?_,?_⟩)<;>(try with_reducible intro hc)<;>try (exfalso;omega)) | ((first | (refine w_e [] ?_;intro J hJ;simp only []) | (refine w_q ?_;intro J hJ) | refine e_go ?_);simp [g0,g4,g5,hW1,hk'];(repeat refine ca ?_);(try ((try with_reducible refine ⟨?_,?_⟩)<;>(try with_reducible intro hnil)<;>refine hJ _ _ ?_<;>clear hJ J<;>simp only [ak,reduceIte]<;>try subst hnil)))))
  refine qE (SortE hids P hsn hsl q _ (by omega) (by simp;omega) (by simp [y1,hq])) (by simp) ?_;rintro r s2 ⟨hq3,hoff⟩
  have hn2:=hoff.1
  simp only [set_next] at hn2
  have old:∀ x,x≠q→x≠W→x < st.next→s2.H x=st.H x:=fun x h1 h2 h3=>by
   rw [hoff.2 x h1 (by simp;omega),set_H,if_neg h2];exact hkp.H x h3
  have hW2:=hoff.2 W (fun e=>y1 e.symm) (by simp;omega)
  rw [set_H,if_pos rfl] at hW2
  have hB2:=(old tB (by omega) (fun e=>m2 e.symm) b4).trans hBk
  have hS2:=(old tS (by omega) (fun e=>m1 e.symm) b3).trans hS
  have hA2:=(old a (by omega) (fun e=>m4 e.symm) d2).trans hA
  have hN2:=(old nb (by omega) (fun e=>m5 e.symm) d3).trans hN
  have hL2:=(old lw (by omega) (fun e=>m6 e.symm) d4).trans hL
  have hbl:=(blkW_perm hsn hsl).length_eq
  have hcl:(eds ((blkW g.es.length P).map (eAt g.es))).length=P.length * 3:=by rw [eds_length,List.length_map,hbl]
  (refine e_go ?_;simp [];(repeat refine ca ?_);(try ((try with_reducible refine ⟨?_,?_⟩)<;>(try with_reducible intro hnil)<;>refine hJ _ _ ?_<;>clear hJ J<;>simp only [ak,reduceIte]<;>try subst hnil)))
  refine awp_freeze 5 (l:=q) (n:=P.length) (by simp [g5]) hq3 (Nat.le_of_eq hcl.symm) ?_
  rw [List.take_of_length_le (Nat.le_of_eq hcl)]
  have hbL:(bkL g.es s.out).length=s.out.length:=bkL_length _ _
  have z1:¬ W=q:=fun e=>y1 e.symm
  have z2:¬ tB=q:=by omega
  have z3:¬ W=s2.next:=by omega
  have z4:¬ tB=s2.next:=by omega
  have z5:¬ W=s2.next+1:=by omega
  (repeat' (first | refine qS ?_ | refine qB ?_ | ((first | refine qK ?_ | refine qX ?_);simp only [ak,reduceIte]) | (refine qR ?_;simp only [ak,reduceIte];simp [g0,hW2,hB2,m2,z1,z2,z3,z4,z5,hbL]) | (refine qC ?_;simp [g0,hW2,hB2,m2,z1,z2,z3,z4,z5,hbL];(try with_reducible refine ⟨?_,?_⟩)<;>(try with_reducible intro hc)<;>try (exfalso;omega)) | ((first | (refine w_e [] ?_;intro J hJ;simp only []) | (refine w_q ?_;intro J hJ) | refine e_go ?_);simp [g0,hW2,hB2,m2,z1,z2,z3,z4,z5,hbL];(repeat refine ca ?_);(try ((try with_reducible refine ⟨?_,?_⟩)<;>(try with_reducible intro hnil)<;>refine hJ _ _ ?_<;>clear hJ J<;>simp only [ak,reduceIte]<;>try subst hnil)))))
  have q1:¬ a=q:=by omega
  have q2:¬ nb=q:=by omega
  have q3:¬ lw=q:=by omega
  have q4:¬ tS=q:=by omega
  have q5:¬ a=s2.next:=by omega
  have q6:¬ nb=s2.next:=by omega
  have q7:¬ lw=s2.next:=by omega
  have q8:¬ tS=s2.next:=by omega
  have q9:¬ a=s2.next+1:=by omega
  have q10:¬ nb=s2.next+1:=by omega
  have q11:¬ lw=s2.next+1:=by omega
  have q12:¬ tS=s2.next+1:=by omega
  have q13:¬ s2.next+1=W:=by omega
  have r1:¬ a=W:=fun e=>m4 e.symm
  have r2:¬ nb=W:=fun e=>m5 e.symm
  have r3:¬ lw=W:=fun e=>m6 e.symm
  have r4:¬ tS=W:=fun e=>m1 e.symm
  have hbk:bkL g.es (s.out++[blkW g.es.length P])=bkL g.es s.out++[.sl 0 P.length (eds ((blkW g.es.length P).map (eAt g.es)))]:=by
   unfold bkL;rw [List.map_append];simp [hbl]
  have htk:(s.stk.take k).length=k:=by rw [List.length_take];omega
  refine ⟨trivial,⟨⟨tS,s2.next+1,CS,ea,by simp [htk],⟨by simp [z1,z2,z3,z4,z5,q1,q2,q3,q4,q5,q6,q7,q8,q9,q10,q11,q12,q13,r1,r2,r3,r4,m2,m3,m8,m10,m12,hA2],hAm⟩,by simp [z1,z2,z3,z4,z5,q1,q2,q3,q4,q5,q6,q7,q8,q9,q10,q11,q12,q13,r1,r2,r3,r4,m2,m3,m8,m10,m12,hN2],by simp [z1,z2,z3,z4,z5,q1,q2,q3,q4,q5,q6,q7,q8,q9,q10,q11,q12,q13,r1,r2,r3,r4,m2,m3,m8,m10,m12,hL2],⟨by simp [z1,z2,z3,z4,z5,q1,q2,q3,q4,q5,q6,q7,q8,q9,q10,q11,q12,q13,r1,r2,r3,r4,m2,m3,m8,m10,m12,hS2],?_⟩,by simp [z1,z2,z3,z4,z5,q1,q2,q3,q4,q5,q6,q7,q8,q9,q10,q11,q12,q13,r1,r2,r3,r4,m2,m3,m8,m10,m12,hbk],⟨n1,n2,n3⟩,b1,by omega,by simp;omega,by simp⟩,⟨c1,c2,c3,c4⟩,by simp;omega,by simp;omega,by simp;omega,by simp;omega⟩,?_⟩
  ·rw [htk,show CS.take k=(CS.take s.stk.length).take k by rw [List.take_take,Nat.min_eq_left hk'],hSt,isN_take]
  ·refine (((((KbB.mk (by omega) fun x hx=>?_:KbB B st s2).set (by omega) _).new ?_ _).set b2 _).new ?_ _).set c1 _
   ·exact old x (by omega) (by omega) (by omega)
   ·simp;omega
   ·simp;omega
end Go.Proofs.YtkcokoefodgigaaGreat.Aw
