/- The document: Make. -/
import Derived.Test.YtglkgindpjdoiaaGreatJi
import Derived.Test.YtglkgindpjdoiaaGreatAwZ
import Derived.Test.YtglkgindpjdoiaaGreatAwRg
import Derived.Test.YtglkgindpjdoiaaGreatAwAlt
namespace Go.Proofs.YtglkgindpjdoiaaGreat.Aw
open Go Go.RowKit Go.Proofs.YtglkgindpjdoiaaGreat.Pl
set_option linter.unusedSimpArgs false
set_option linter.unusedVariables false
theorem tkM_at (B:List Ed) (t:Nat) (h:t < B.length):B.take (t+1)=B.take t++[B.getD t ed0]:=by
 rw [List.getD_eq_getElem?_getD,List.getElem?_eq_getElem h];exact List.take_succ_eq_append_getElem h
theorem getDM (l:List Ed) (j:Nat) (hj:j < l.length):l.getD j ed0=l[j]:=by
 rw [List.getD_eq_getElem?_getD,List.getElem?_eq_getElem hj];rfl
theorem z0M_us (l:List Int):z0L (us l)=us l:=by rw [z0L_map];simp [us,z0]
theorem z0M_eds (l:List Ed):z0L (eds l)=eds l:=by
 rw [z0L_map]
 induction l with
 | nil=>rfl
 | cons x l ih=>simp only [eds,List.flatMap_cons,List.map_append] at ih ⊢;rw [ih];rfl
theorem edsM_snoc (l:List Ed) (x:Ed):eds (l++[x])=eds l++edL x:=by simp [eds]
section
variable {α:Type} (f:α→Int)
def flg (d0:Bool) (v:α) (l:List α):Bool:=d0||l.any fun x=>decide (f v < f x)
def outI (d0:Bool) (v:α) (l:List α):List α:=if d0 then l else if l.any fun x=>decide (f v < f x) then ins1 f v l else l
theorem ins1_none (v:α):∀ (l:List α),(l.any fun x=>decide (f v < f x))=false→ins1 f v l=l++[v]
 | [],_=>rfl
 | y::t,h=>by
   simp only [List.any_cons,Bool.or_eq_false_iff,decide_eq_false_iff_not] at h
   unfold ins1
   rw [if_neg h.1,ins1_none v t h.2];rfl
theorem ins1_some (v x:α):∀ (l:List α),(l.any fun x=>decide (f v < f x))=true→ins1 f v (l++[x])=ins1 f v l++[x]
 | [],h=>by simp at h
 | y::t,h=>by
   simp only [List.any_cons,Bool.or_eq_true,decide_eq_true_eq] at h
   rw [List.cons_append]
   unfold ins1
   by_cases h1:f v < f y
   ·rw [if_pos h1,if_pos h1];rfl
   ·rw [if_neg h1,if_neg h1,ins1_some v x t (h.resolve_left h1)];rfl
theorem ins1_new (v x:α):∀ (l:List α),(l.any fun x=>decide (f v < f x))=false→f v < f x→ins1 f v (l++[x])=l++[v]++[x]
 | [],_,hx=>by simp [ins1,hx]
 | y::t,h,hx=>by
   simp only [List.any_cons,Bool.or_eq_false_iff,decide_eq_false_iff_not] at h
   rw [List.cons_append]
   unfold ins1
   rw [if_neg h.1,ins1_new v x t h.2 hx];rfl
theorem flg_snoc (d0:Bool) (v x:α) (l:List α):flg f d0 v (l++[x])=(flg f d0 v l||decide (f v < f x)):=by
 unfold flg
 rw [List.any_append]
 cases d0<;>simp
theorem outI_new (d0:Bool) (v x:α) (l:List α) (h:flg f d0 v l=false) (hx:f v < f x):outI f d0 v (l++[x])=outI f d0 v l++[v]++[x]:=by
 unfold flg at h
 simp only [Bool.or_eq_false_iff] at h
 obtain ⟨rfl,h⟩:=h
 have h2:((l++[x]).any fun x=>decide (f v < f x))=true:=by rw [List.any_append];simp [hx]
 unfold outI
 rw [h,h2,ins1_new f v x l h hx]
 rfl
theorem outI_same (d0:Bool) (v x:α) (l:List α) (h:flg f d0 v l=true∨¬ f v < f x):outI f d0 v (l++[x])=outI f d0 v l++[x]:=by
 unfold outI
 cases d0 with
 | true=>rfl
 | false=>
   unfold flg at h
   rw [Bool.false_or] at h
   by_cases h1:(l.any fun x=>decide (f v < f x))=true
   ·have h2:((l++[x]).any fun x=>decide (f v < f x))=true:=by rw [List.any_append,h1];rfl
    rw [h1,h2,ins1_some f v x l h1];rfl
   ·have hx:=h.resolve_left h1
    have h1':(l.any fun x=>decide (f v < f x))=false:=by simpa using h1
    have h2:((l++[x]).any fun x=>decide (f v < f x))=false:=by rw [List.any_append,h1'];simpa using hx
    rw [h1',h2];rfl
theorem outI_end (d0:Bool) (v:α) (l:List α) (hd:d0=l.any fun x=>decide (f x=f v)):insU f v l=if flg f d0 v l then outI f d0 v l else outI f d0 v l++[v]:=by
 unfold insU flg outI
 rw [← hd]
 cases d0 with
 | true=>rfl
 | false=>
   cases h1:(l.any fun x=>decide (f v < f x)) with
   | true=>rfl
   | false=>rw [ins1_none f v l h1];rfl
theorem outI_len (d0:Bool) (v:α) (l:List α):(outI f d0 v l).length≤l.length+1:=by
 unfold outI
 split
 ·omega
 ·split
  ·rw [ins1_len];omega
  ·omega
theorem insAll_len (l:List α):(insAll f l).length≤l.length:=by
 unfold insAll
 have:∀ (l c:List α),(l.foldl (fun c v=>insU f v c) c).length≤c.length+l.length:=by
  intro l
  induction l with
  | nil=>exact fun c=>by simp
  | cons y l ih=>
    intro c
    have h1:=ih (insU f y c)
    have h2:(insU f y c).length≤c.length+1:=by
     unfold insU
     split
     ·omega
     ·rw [ins1_len];omega
    rw [List.foldl_cons,List.length_cons];omega
 have:=this l []
 simpa using this
end
theorem rFindM (g:Gr) (id:Int) (st:St) (he:g.es.length≤100000):
 ACalls Tryz.prog 77 [.ag (grL g),u id] st fun r st'=>(∃ k:Int,r=i k∧decide (0≤k)=g.es.any fun x=>decide (x.id=id))∧Keeps st st':=by
 obtain ⟨vs,l⟩:=g
 simp only at he ⊢
 have hel:=eds_length l
 refine qO tabOk Tryz.func77 rfl rfl Tryz.ntmps77 (rs:=[.tmp 4]) rfl (by simp) ?_
 (repeat' (first | refine qS ?_ | refine qB ?_ | (refine w_e [] ?_;intro J hJ;simp only [];simp [];(refine hJ _ _ ?_;clear hJ J;simp only [ak,reduceIte]))))
 refine awp_range 10 9 11 20 (l.length) (fun j fr st2=>fr 1=u id∧fr 8=.sl 0 l.length (eds l)∧Keeps st st2∧(∀ x∈l.take j,x.id≠id)) ?_ ?_ ?_
 ·exact ⟨by simp,by simp,Keeps.new _ _,by simp⟩
 ·rintro j fr s hlt ⟨f1,f8,hk,hno⟩ fi fn JJ hJJ
  have hd:=eds_drop l j hlt
  have hk3:j * 3 < l.length * 3:=by omega
  have htk:=tkM_at l j hlt
  have hin:l.getD j ed0∈l:=by rw [getDM l j hlt];exact List.getElem_mem _
  have hso:(l.getD j ed0).id=id→(l.any fun x=>decide (x.id=id))=true:=fun h=>List.any_eq_true.2 ⟨_,hin,by simpa using h⟩
  generalize l.getD j ed0=x at *
  have hnx:x.id≠id→∀ y∈l.take (j+1),y.id≠id:=fun h y hy=>by
   rw [htk,List.mem_append,List.mem_singleton] at hy
   rcases hy with h1 | rfl
   ·exact hno y h1
   ·exact h
  obtain ⟨d,a,b⟩:=x
  simp only at hd hso hnx
  by_cases hdi:d=id
  ·have hr:=hso hdi
   (repeat' (first | refine qS ?_ | (refine qR ?_;simp only [ak,reduceIte];simp [f1,f8,fi,fn,hlt,hd,hel,hk3,hdi]) | (refine qC ?_;simp [f1,f8,fi,fn,hlt,hd,hel,hk3,hdi]) | (refine w_e [] ?_;intro J hJ;simp only [];simp [f1,f8,fi,fn,hlt,hd,hel,hk3,hdi];(refine hJ _ _ ?_;clear hJ J;simp only [ak,reduceIte]))))
   refine ⟨?_,hk.trans (Keeps.new _ _)⟩
   first | exact hr | (simpa using hr) | skip
  ·(repeat' (first | refine qS ?_ | (refine qK ?_;simp only [ak,reduceIte]) | (refine qC ?_;simp [f1,f8,fi,fn,hlt,hd,hel,hk3,hdi]) | (refine w_e [] ?_;intro J hJ;simp only [];simp [f1,f8,fi,fn,hlt,hd,hel,hk3,hdi];(refine hJ _ _ ?_;clear hJ J;simp only [ak,reduceIte]))))
   exact hJJ _ _ (by simp [fi]) (by simp [fn]) ⟨by simp [f1],by simp [f8],hk.trans (Keeps.new _ _),hnx hdi⟩
 ·rintro fr s ⟨f1,f8,hk,hno⟩
  rw [List.take_length] at hno
  have hr:(l.any fun x=>decide (x.id=id))=false:=by
   rw [List.any_eq_false]
   intro x hx
   simpa using hno x hx
  (repeat' (first | refine qS ?_ | (refine qR ?_;simp only [ak,reduceIte];simp []) | (refine w_e [] ?_;intro J hJ;simp only [];simp [];(refine hJ _ _ ?_;clear hJ J;simp only [ak,reduceIte]))))
  refine ⟨?_,hk⟩
  first | exact hr | (simpa using hr) | skip
abbrev bzG:LObj:=.box 25 2 [.nil,.nil]
abbrev idI:Int→Int:=fun n=>n
abbrev idE:Ed→Int:=fun x=>x.id
theorem mem_any (l:List Int) (v:Int):decide (v∈l)=l.any fun x=>decide (idI x=idI v):=by
 by_cases h:v∈l
 ·rw [decide_eq_true h]
  exact (List.any_eq_true.2 ⟨v,h,by simp⟩).symm
 ·rw [decide_eq_false h]
  refine (List.any_eq_false.2 fun x hx=>?_).symm
  simp only [decide_eq_true_eq]
  rintro rfl;exact h hx
theorem tkI_at (l:List Int) (t:Nat) (h:t < l.length):l.take (t+1)=l.take t++[l.getD t 0]:=by
 rw [List.getD_eq_getElem?_getD,List.getElem?_eq_getElem h]
 exact List.take_succ_eq_append_getElem h
theorem insV_take (l:List Int) (k:Nat) (hk:k < l.length):insAll idI (l.take (k+1))=insU idI (l.getD k 0) (insAll idI (l.take k)):=by
 rw [insAll_take idI l k hk,List.getD_eq_getElem?_getD,List.getElem?_eq_getElem hk];rfl
theorem insE_take (l:List Ed) (k:Nat) (hk:k < l.length):insAll idE (l.take (k+1))=insU idE (l.getD k ed0) (insAll idE (l.take k)):=by
 rw [insAll_take idE l k hk,getDM l k hk]
structure MkS (st s:St) (x y:LV):Prop where
 z:s.H st.next=bzG
 b:s.H (st.next+1)=.box 25 2 [x,y]
 lt:st.next+1 < s.next
 k:Keeps st s
section
variable {st s:St} {x y:LV}
theorem MkS.new (h:MkS st s x y) (o:LObj):MkS st (s.new o) x y:=
 ⟨by have:=h.lt;rw [new_H,if_neg (by omega)];exact h.z,by have:=h.lt;rw [new_H,if_neg (by omega)];exact h.b,by have:=h.lt;rw [new_next];omega,h.k.trans (Keeps.new _ _)⟩
theorem MkS.set (h:MkS st s x y) {t:Nat} (ht:st.next+1 < t) (o:LObj):MkS st (s.set t o) x y:=
 ⟨by rw [set_H,if_neg (by omega)];exact h.z,by rw [set_H,if_neg (by omega)];exact h.b,h.lt,h.k.set (by omega) _⟩
theorem MkS.keeps {s':St} (h:MkS st s x y) (k:Keeps s s'):MkS st s' x y:=
 ⟨(k.H _ (by have:=h.lt;omega)).trans h.z,(k.H _ h.lt).trans h.b,Nat.lt_of_lt_of_le h.lt k.next,h.k.trans k⟩
theorem MkS.put (h:MkS st s x y) (x' y':LV):MkS st (s.set (st.next+1) (.box 25 2 [x',y'])) x' y':=
 ⟨by rw [set_H,if_neg (by omega)];exact h.z,by rw [set_H,if_pos rfl],h.lt,h.k.set (by omega) _⟩
end
def RowV (st s:St) (o:LV) (l:List Int):Prop:=∃ t,o=.sl t l.length (us l)∧(t≠0∧st.next+1 < t∧t < s.next)∧s.H t=.own 29 1 l.length
def RowG (st s:St) (o:LV) (l:List Ed):Prop:=∃ t,o=.sl t l.length (eds l)∧(t≠0∧st.next+1 < t∧t < s.next)∧s.H t=.own 31 3 l.length
def MakeP (vs:List Int) (es:List Ed) (st:St) (r:LV) (st':St):Prop:=r=.ag (grL ⟨insAll idI vs,insAll idE es⟩)∧Keeps st st'
def MkV (es:List Ed) (te:Nat) (st:St) (fr:Frm) (s:St) (V:List Int):Prop:=fr 1=.sl te es.length (eds es)∧fr 4=.pt st.next 0∧fr 5=.pt (st.next+1) 0∧∃ t1 t2,MkS st s (.sl t1 V.length (us V)) (.sl t2 0 [])
def MkE (V:List Int) (st:St) (fr:Frm) (s:St) (E:List Ed):Prop:=fr 4=.pt st.next 0∧fr 5=.pt (st.next+1) 0∧∃ t1 t2,MkS st s (.sl t1 V.length (us V)) (.sl t2 E.length (eds E))
set_option maxHeartbeats 2000000 in
theorem Make (vs:List Int) (es:List Ed) (tv te:Nat) (st:St) (hvs:vs.length≤10000) (hes:es.length≤10000):
 ACalls Tryz.prog 76 [.sl tv vs.length (us vs),.sl te es.length (eds es)] st (MakeP vs es st):=by
 have hle:=eds_length es
 refine acalls_z0 ?_
 refine qO tabOk Tryz.func76 rfl rfl Tryz.ntmps76 (rs:=[.cell 4 25]) rfl (by simp) ?_
 (repeat' (first | refine qS ?_ | refine qB ?_ | (refine w_e [] ?_;intro J hJ;simp only [];simp [];(refine hJ _ _ ?_;clear hJ J;simp only [ak,reduceIte]))))
 refine awp_cell (e:=25) (s:=2) (st.next+1) 29 1 [] [.nil] (by simp) ?_
 refine awp_cell (e:=25) (s:=2) (st.next+1) 31 3 [.sl (st.next+1+1) 0 []] [] (by simp) ?_
 refine awp_range 20 19 21 58 (vs.length) (fun j fr st2=>fr 18=.sl tv vs.length (us vs)∧MkV es te st fr st2 (insAll idI (vs.take j))) ?_ ?_ ?_
 ·refine ⟨by simp,by simp,by simp,by simp,st.next+1+1,st.next+1+1+1,?_,?_,?_,?_⟩
  ·simp
  ·simp [insAll]
  ·simp
  ·exact ((((Keeps.new _ _).trans (Keeps.new _ _)).trans (Keeps.new _ _)).set (by omega) _ |>.trans (Keeps.new _ _)).set (by omega) _
 ·rintro q fr s hlt ⟨f18,f1,f4,f5,t1,t2,hM⟩ fi fn JJ hJJ
  have hd:=qG vs q hlt
  have htk:=insV_take vs q hlt
  have hl:=insAll_len idI (vs.take q)
  rw [List.length_take] at hl
  generalize vs.getD q 0=v at *
  generalize insAll idI (vs.take q)=l at *
  have hB:=hM.b
  (repeat' (first | refine qS ?_ | (refine w_e [] ?_;intro J hJ;simp only [];simp [f1,f5,f18,fi,fn,hlt,hd,hB];(try (refine hJ _ _ ?_;clear hJ J;simp only [ak,reduceIte])))))
  refine callK_of0 (Has ⟨l,[]⟩ v s (by unfold small;simp only;omega)) (by simp [z0,z0L,z0M_us]) ?_;rintro r s1 ⟨rfl,hk1⟩
  have hM1:=hM.keeps hk1
  have hB1:=hM1.b
  simp only at *
  have hend:=outI_end idI (decide (v∈l)) v l (mem_any l v)
  have hol:=outI_len idI (decide (v∈l)) v
  generalize decide (v∈l)=d0 at *
  (repeat' (first | refine qS ?_ | refine qB ?_ | ((first | (refine w_e [] ?_;intro J hJ;simp only []) | (refine e_go ?_));simp [f5,hB1];(refine hJ _ _ ?_;clear hJ J;simp only [ak,reduceIte]))))
  refine awp_own 8 29 1 (by simp) ?_
  have hM2:=hM1.new (.own 29 1 0)
  refine awp_range 30 29 31 49 (l.length) (fun j fr st2=>(fr 1=.sl te es.length (eds es)∧fr 4=.pt st.next 0∧fr 5=.pt (st.next+1) 0∧fr 18=.sl tv vs.length (us vs)∧fr 19=i vs.length∧fr 20=i q∧fr 7=u v∧fr 28=.sl t1 l.length (us l))∧MkS st st2 (.sl t1 l.length (us l)) (.sl t2 0 [])∧fr 9=bb (flg idI d0 v (l.take j))∧RowV st st2 (fr 8) (outI idI d0 v (l.take j))) ?_ ?_ ?_
  ·refine ⟨⟨by simp [f1],by simp [f4],by simp [f5],by simp [f18],by simp [fn],by simp [fi],by simp,by simp⟩,hM2,by simp [flg],s1.next,?_,⟨by have:=hM1.lt;omega,by have:=hM1.lt;omega,by simp⟩,?_⟩
   ·unfold outI;cases d0<;>simp
   ·unfold outI;cases d0<;>simp
  ·clear f1 f4 f5 f18 fi fn hM hM1 hM2 hB hB1
   rintro j fr s2 hltj ⟨⟨f1,f4,f5,f18,f19,f20,f7,f28⟩,hM,f9,t,f8,⟨t0,tl,tn⟩,htH⟩ fi fn J2 hJ2
   have hdx:=qG l j hltj
   have htx:=tkI_at l j hltj
   have hol1:=hol (l.take j)
   rw [List.length_take] at hol1
   generalize l.getD j 0=x at *
   have hF:=flg_snoc idI d0 v x (l.take j)
   have hO1:=outI_new idI d0 v x (l.take j)
   have hO2:=outI_same idI d0 v x (l.take j)
   rw [← htx] at hF hO1 hO2
   have m1:¬ t=s2.next:=by omega
   generalize flg idI d0 v (l.take j)=F at *
   generalize outI idI d0 v (l.take j)=O at *
   by_cases hvx:v < x
   ·cases F with
    | false=>
      have hO:=hO1 rfl hvx
      have hF':flg idI d0 v (l.take (j+1))=true:=by rw [hF];simp [hvx]
      (repeat' (first | refine qS ?_ | (refine qC ?_;simp [f7,f8,f9,f28,fi,fn,hltj,hdx,hvx,htH,t0,m1]) | (refine w_e [] ?_;intro J hJ;simp only [];simp [f7,f8,f9,f28,fi,fn,hltj,hdx,hvx,htH,t0,m1];(repeat refine ca ?_);(refine hJ _ _ ?_;clear hJ J;simp only [ak,reduceIte]))))
      refine hJ2 _ _ (by simp [fi]) (by simp [fn]) ⟨⟨by simp [f1],by simp [f4],by simp [f5],by simp [f18],by simp [f19],by simp [f20],by simp [f7],by simp [f28]⟩,?_,by rw [hF'];simp,s2.next+1+1+1,by rw [hO];simp,⟨by omega,by omega,by simp⟩,by rw [hO];simp⟩
      exact (((((hM.new _).set tl _).new _).new _).set (by omega) _).new _
    | true=>
      have hO:=hO2 (.inl rfl)
      have hF':flg idI d0 v (l.take (j+1))=true:=by rw [hF];simp
      (repeat' (first | refine qS ?_ | (refine qK ?_;simp only [ak,reduceIte]) | (refine qC ?_;simp [f7,f8,f9,f28,fi,fn,hltj,hdx,hvx,htH,t0,m1]) | (refine w_e [] ?_;intro J hJ;simp only [];simp [f7,f8,f9,f28,fi,fn,hltj,hdx,hvx,htH,t0,m1];(repeat refine ca ?_);(refine hJ _ _ ?_;clear hJ J;simp only [ak,reduceIte]))))
      refine hJ2 _ _ (by simp [fi]) (by simp [fn]) ⟨⟨by simp [f1],by simp [f4],by simp [f5],by simp [f18],by simp [f19],by simp [f20],by simp [f7],by simp [f28]⟩,?_,by rw [hF'];simp [f9],s2.next+1,by rw [hO];simp,⟨by omega,by omega,by simp⟩,by rw [hO];simp⟩
      exact ((hM.new _).set tl _).new _
   ·have hO:=hO2 (.inr hvx)
    have hF':flg idI d0 v (l.take (j+1))=F:=by rw [hF];simp [hvx]
    cases F with
    | false=>
      (repeat' (first | refine qS ?_ | (refine qK ?_;simp only [ak,reduceIte]) | (refine qC ?_;simp [f7,f8,f9,f28,fi,fn,hltj,hdx,hvx,htH,t0,m1]) | (refine w_e [] ?_;intro J hJ;simp only [];simp [f7,f8,f9,f28,fi,fn,hltj,hdx,hvx,htH,t0,m1];(repeat refine ca ?_);(refine hJ _ _ ?_;clear hJ J;simp only [ak,reduceIte]))))
      refine hJ2 _ _ (by simp [fi]) (by simp [fn]) ⟨⟨by simp [f1],by simp [f4],by simp [f5],by simp [f18],by simp [f19],by simp [f20],by simp [f7],by simp [f28]⟩,?_,by rw [hF'];simp [f9],s2.next+1,by rw [hO];simp,⟨by omega,by omega,by simp⟩,by rw [hO];simp⟩
      exact ((hM.new _).set tl _).new _
    | true=>
      (repeat' (first | refine qS ?_ | (refine qK ?_;simp only [ak,reduceIte]) | (refine qC ?_;simp [f7,f8,f9,f28,fi,fn,hltj,hdx,hvx,htH,t0,m1]) | (refine w_e [] ?_;intro J hJ;simp only [];simp [f7,f8,f9,f28,fi,fn,hltj,hdx,hvx,htH,t0,m1];(repeat refine ca ?_);(refine hJ _ _ ?_;clear hJ J;simp only [ak,reduceIte]))))
      refine hJ2 _ _ (by simp [fi]) (by simp [fn]) ⟨⟨by simp [f1],by simp [f4],by simp [f5],by simp [f18],by simp [f19],by simp [f20],by simp [f7],by simp [f28]⟩,?_,by rw [hF'];simp [f9],s2.next+1,by rw [hO];simp,⟨by omega,by omega,by simp⟩,by rw [hO];simp⟩
      exact ((hM.new _).set tl _).new _
  ·clear f1 f4 f5 f18 fi fn hM hM1 hM2 hB hB1
   rintro fr s2 ⟨⟨f1,f4,f5,f18,f19,f20,f7,f28⟩,hM,f9,t,f8,⟨t0,tl,tn⟩,htH⟩
   have hol1:=hol l
   rw [List.take_length] at f9 f8 htH
   have m1:¬ t=s2.next:=by omega
   have hB:=hM.b
   have b1:¬ st.next+1=t:=by omega
   have b2:¬ st.next+1=s2.next:=by have:=hM.lt;omega
   have b3:¬ st.next=s2.next:=by have:=hM.lt;omega
   generalize flg idI d0 v l=F at *
   generalize outI idI d0 v l=O at *
   cases F with
   | true=>
     rw [if_pos rfl] at hend
     (repeat' (first | refine qS ?_ | (refine qK ?_;simp only [ak,reduceIte]) | (refine qC ?_;simp [f5,f8,f9,hB]) | (refine w_e [] ?_;intro J hJ;simp only [];simp [f5,f8,f9,hB];(refine hJ _ _ ?_;clear hJ J;simp only [ak,reduceIte]))))
     refine hJJ _ _ (by simp [f20]) (by simp [f19]) ⟨by simp [f18],by simp [f1],by simp [f4],by simp [f5],t,t2,?_⟩
     rw [htk,hend]
     exact hM.put _ _
   | false=>
     rw [if_neg (by simp)] at hend
     (repeat' (first | refine qS ?_ | (refine qC ?_;simp [f5,f7,f8,f9,hB,htH,t0,m1,b1,b2,b3]) | (refine w_e [] ?_;intro J hJ;simp only [];simp [f5,f7,f8,f9,hB,htH,t0,m1,b1,b2,b3];(repeat refine ca ?_);(refine hJ _ _ ?_;clear hJ J;simp only [ak,reduceIte]))))
     refine hJJ _ _ (by simp [f20]) (by simp [f19]) ⟨by simp [f18],by simp [f1],by simp [f4],by simp [f5],s2.next+1,t2,?_⟩
     rw [htk,hend]
     have:=(((hM.new (.own 29 1 1)).set tl .dead).new (.own 29 1 (O.length+1))).put (.sl (s2.next+1) (O.length+1) (us O++[u v])) (.sl t2 0 [])
     simpa using this
 rintro fr s ⟨f18,hV⟩
 rw [List.take_length] at hV
 obtain ⟨f1,f4,f5,t1,t2,hM⟩:=hV
 have hVl:=insAll_len idI vs
 unfold MakeP
 generalize insAll idI vs=V at *
 (repeat' (first | refine qS ?_ | refine qB ?_ | (refine w_e [] ?_;intro J hJ;simp only [];simp [f1];(refine hJ _ _ ?_;clear hJ J;simp only [ak,reduceIte]))))
 refine awp_range 61 60 62 103 (es.length) (fun j fr st2=>fr 59=.sl te es.length (eds es)∧MkE V st fr st2 (insAll idE (es.take j))) ?_ ?_ ?_
 ·exact ⟨by simp,by simp [f4],by simp [f5],t1,t2,by simpa [insAll] using hM⟩
 ·clear f1 f4 f5 f18 hM t1 t2 fr s
  rintro q fr s hlt ⟨f59,f4,f5,t1,t2,hM⟩ fi fn JJ hJJ
  have hd:=eds_drop es q hlt
  have hk3:q * 3 < es.length * 3:=by omega
  have htk:=insE_take es q hlt
  have hl:=insAll_len idE (es.take q)
  rw [List.length_take] at hl
  generalize es.getD q ed0=e at *
  generalize insAll idE (es.take q)=l at *
  have hB:=hM.b
  have c1:¬ st.next+1=s.next:=by have:=hM.lt;omega
  have hM0:=hM.new (.box 31 3 (edL e))
  have hel:=eds_length l
  have hend:=outI_end idE (l.any fun x=>decide (idE x=idE e)) e l rfl
  have hol:=outI_len idE (l.any fun x=>decide (idE x=idE e)) e
  have hfi:=rFindM ⟨V,l⟩ e.id (s.new (.box 31 3 (edL e))) (by simp only;omega)
  have hai:(l.any fun x=>decide (idE x=idE e))=l.any fun x=>decide (x.id=e.id):=rfl
  simp only at hfi
  generalize (l.any fun x=>decide (x.id=e.id))=d0 at *
  rw [hai] at hend hol
  clear hai
  have hsn1:∀ v x l,@flg_snoc Ed idE d0 v x l=@flg_snoc Ed idE d0 v x l:=fun _ _ _=>rfl
  clear hsn1
  have hee:∀ x:Ed,idE x=x.id:=fun _=>rfl
  obtain ⟨ei,ea,eb⟩:=e
  simp only at hd hfi
  (repeat' (first | refine qS ?_ | (refine w_e [] ?_;intro J hJ;simp only [];simp [f59,fi,fn,hlt,hd,hle,hk3,f5,hB,c1];(try (refine hJ _ _ ?_;clear hJ J;simp only [ak,reduceIte])))))
  refine callK_of0 hfi (by simp [z0,z0L,z0M_us,z0M_eds]) ?_;rintro r s1 ⟨⟨kf,rfl,hkf⟩,hk1⟩
  have hM1:=hM0.keeps hk1
  have hn1:=hk1.next
  simp only [new_next] at hn1
  have hX1:=hk1.H s.next (by simp)
  simp only [new_H,if_true] at hX1
  have hB1:=hM1.b
  (repeat' (first | refine qS ?_ | refine qB ?_ | ((first | (refine w_e [] ?_;intro J hJ;simp only []) | (refine e_go ?_));simp [f5,hB1,hkf];(refine hJ _ _ ?_;clear hJ J;simp only [ak,reduceIte]))))
  refine awp_own 14 31 3 (by simp) ?_
  have hM2:=hM1.new (.own 31 3 0)
  have hpe1:st.next+1 < s.next:=hM.lt
  generalize hpe:s.next=pe at *
  refine awp_range 73 72 74 94 (l.length) (fun j fr st2=>(fr 4=.pt st.next 0∧fr 5=.pt (st.next+1) 0∧fr 59=.sl te es.length (eds es)∧fr 60=i es.length∧fr 61=i q∧fr 13=.pt pe 0∧fr 71=.sl t2 l.length (eds l))∧MkS st st2 (.sl t1 V.length (us V)) (.sl t2 l.length (eds l))∧(st2.H pe=.box 31 3 (edL ⟨ei,ea,eb⟩)∧pe < st2.next)∧fr 15=bb (flg idE d0 ⟨ei,ea,eb⟩ (l.take j))∧RowG st st2 (fr 14) (outI idE d0 ⟨ei,ea,eb⟩ (l.take j))) ?_ ?_ ?_
  ·refine ⟨⟨by simp [f4],by simp [f5],by simp [f59],by simp [fn],by simp [fi],by simp,by simp⟩,hM2,⟨by rw [new_H,if_neg (by omega)];exact hX1,by simp;omega⟩,by simp [flg],s1.next,?_,⟨by have:=hM1.lt;omega,by have:=hM1.lt;omega,by simp⟩,?_⟩
   ·unfold outI;cases d0<;>simp
   ·unfold outI;cases d0<;>simp
  ·clear f4 f5 f59 fi fn hM hM1 hM2 hM0 hB hB1 hX1 hn1 hk1 hkf hfi
   rintro j fr s2 hltj ⟨⟨f4,f5,f59,f60,f61,f13,f71⟩,hM,⟨hX,hpl⟩,f15,t,f14,⟨t0,tl,tn⟩,htH⟩ fi fn J2 hJ2
   have hdx:=eds_drop l j hltj
   have hj3:j * 3 < l.length * 3:=by omega
   have htx:=tkM_at l j hltj
   have hol1:=hol (l.take j)
   rw [List.length_take] at hol1
   generalize l.getD j ed0=x at *
   have hF:=flg_snoc idE d0 ⟨ei,ea,eb⟩ x (l.take j)
   have hO1:=outI_new idE d0 ⟨ei,ea,eb⟩ x (l.take j)
   have hO2:=outI_same idE d0 ⟨ei,ea,eb⟩ x (l.take j)
   rw [← htx] at hF hO1 hO2
   have m1:¬ t=s2.next:=by omega
   have m2:¬ t=s2.next+1:=by omega
   have m3:¬ s2.next=t:=by omega
   have p0:¬ pe=t:=by rintro rfl;rw [hX] at htH;cases htH
   have p1:¬ pe=s2.next:=by omega
   have p2:¬ pe=s2.next+1:=by omega
   have p3:¬ pe=s2.next+1+1:=by omega
   have p4:¬ pe=s2.next+1+1+1:=by omega
   have p5:¬ pe=s2.next+1+1+1+1:=by omega
   generalize flg idE d0 ⟨ei,ea,eb⟩ (l.take j)=F at *
   generalize outI idE d0 ⟨ei,ea,eb⟩ (l.take j)=O at *
   have hOl:=eds_length O
   have hsn:=fun y=>edsM_snoc O y
   have hsn2:=fun y z=>edsM_snoc (O++[y]) z
   obtain ⟨xi,xa,xb⟩:=x
   simp only at hdx hF hO1 hO2
   by_cases hvx:ei < xi
   ·cases F with
    | false=>
      have hO:=hO1 rfl hvx
      have hF':flg idE d0 ⟨ei,ea,eb⟩ (l.take (j+1))=true:=by rw [hF];simp [hvx]
      (repeat' (first | refine qS ?_ | (refine qC ?_;simp [f13,f14,f15,f71,fi,fn,hltj,hdx,hel,hj3,hvx,hX,htH,t0,m1,m2,m3,p0,p1,p2,p3,p4,p5,hOl]) | (refine w_e [] ?_;intro J hJ;simp only [];simp [f13,f14,f15,f71,fi,fn,hltj,hdx,hel,hj3,hvx,hX,htH,t0,m1,m2,m3,p0,p1,p2,p3,p4,p5,hOl];(repeat refine ca ?_);(refine hJ _ _ ?_;clear hJ J;simp only [ak,reduceIte]))))
      refine hJ2 _ _ (by simp [fi]) (by simp [fn]) ⟨⟨by simp [f4],by simp [f5],by simp [f59],by simp [f60],by simp [f61],by simp [f13],by simp [f71]⟩,?_,⟨by simp [p0,p1,p2,p3,p4,p5,hX],by simp;omega⟩,by rw [hF'];simp,s2.next+1+1+1+1,by rw [hO,hsn2,hsn];simp,⟨by omega,by omega,by simp⟩,by rw [hO];simp⟩
      exact ((((((hM.new _).new _).set tl _).new _).new _).set (by omega) _).new _
    | true=>
      have hO:=hO2 (.inl rfl)
      have hF':flg idE d0 ⟨ei,ea,eb⟩ (l.take (j+1))=true:=by rw [hF];simp
      (repeat' (first | refine qS ?_ | (refine qK ?_;simp only [ak,reduceIte]) | (refine qC ?_;simp [f13,f14,f15,f71,fi,fn,hltj,hdx,hel,hj3,hvx,hX,htH,t0,m1,m2,m3,p0,p1,p2,p3,p4,p5,hOl]) | (refine w_e [] ?_;intro J hJ;simp only [];simp [f13,f14,f15,f71,fi,fn,hltj,hdx,hel,hj3,hvx,hX,htH,t0,m1,m2,m3,p0,p1,p2,p3,p4,p5,hOl];(repeat refine ca ?_);(refine hJ _ _ ?_;clear hJ J;simp only [ak,reduceIte]))))
      refine hJ2 _ _ (by simp [fi]) (by simp [fn]) ⟨⟨by simp [f4],by simp [f5],by simp [f59],by simp [f60],by simp [f61],by simp [f13],by simp [f71]⟩,?_,⟨by simp [p0,p1,p2,p3,p4,p5,hX],by simp;omega⟩,by rw [hF'];simp [f15],s2.next+1+1,by rw [hO,hsn];simp,⟨by omega,by omega,by simp⟩,by rw [hO];simp⟩
      exact (((hM.new _).new _).set tl _).new _
   ·have hO:=hO2 (.inr hvx)
    have hF':flg idE d0 ⟨ei,ea,eb⟩ (l.take (j+1))=F:=by rw [hF];simp [hvx]
    cases F with
    | false=>
      (repeat' (first | refine qS ?_ | (refine qK ?_;simp only [ak,reduceIte]) | (refine qC ?_;simp [f13,f14,f15,f71,fi,fn,hltj,hdx,hel,hj3,hvx,hX,htH,t0,m1,m2,m3,p0,p1,p2,p3,p4,p5,hOl]) | (refine w_e [] ?_;intro J hJ;simp only [];simp [f13,f14,f15,f71,fi,fn,hltj,hdx,hel,hj3,hvx,hX,htH,t0,m1,m2,m3,p0,p1,p2,p3,p4,p5,hOl];(repeat refine ca ?_);(refine hJ _ _ ?_;clear hJ J;simp only [ak,reduceIte]))))
      refine hJ2 _ _ (by simp [fi]) (by simp [fn]) ⟨⟨by simp [f4],by simp [f5],by simp [f59],by simp [f60],by simp [f61],by simp [f13],by simp [f71]⟩,?_,⟨by simp [p0,p1,p2,p3,p4,p5,hX],by simp;omega⟩,by rw [hF'];simp [f15],s2.next+1+1,by rw [hO,hsn];simp,⟨by omega,by omega,by simp⟩,by rw [hO];simp⟩
      exact (((hM.new _).new _).set tl _).new _
    | true=>
      (repeat' (first | refine qS ?_ | (refine qK ?_;simp only [ak,reduceIte]) | (refine qC ?_;simp [f13,f14,f15,f71,fi,fn,hltj,hdx,hel,hj3,hvx,hX,htH,t0,m1,m2,m3,p0,p1,p2,p3,p4,p5,hOl]) | (refine w_e [] ?_;intro J hJ;simp only [];simp [f13,f14,f15,f71,fi,fn,hltj,hdx,hel,hj3,hvx,hX,htH,t0,m1,m2,m3,p0,p1,p2,p3,p4,p5,hOl];(repeat refine ca ?_);(refine hJ _ _ ?_;clear hJ J;simp only [ak,reduceIte]))))
      refine hJ2 _ _ (by simp [fi]) (by simp [fn]) ⟨⟨by simp [f4],by simp [f5],by simp [f59],by simp [f60],by simp [f61],by simp [f13],by simp [f71]⟩,?_,⟨by simp [p0,p1,p2,p3,p4,p5,hX],by simp;omega⟩,by rw [hF'];simp [f15],s2.next+1+1,by rw [hO,hsn];simp,⟨by omega,by omega,by simp⟩,by rw [hO];simp⟩
      exact (((hM.new _).new _).set tl _).new _
  ·clear f4 f5 f59 fi fn hM hM1 hM2 hM0 hB hB1 hX1 hn1 hk1 hkf hfi
   rintro fr s2 ⟨⟨f4,f5,f59,f60,f61,f13,f71⟩,hM,⟨hX,hpl⟩,f15,t,f14,⟨t0,tl,tn⟩,htH⟩
   have hol1:=hol l
   rw [List.take_length] at f15 f14 htH
   have m1:¬ t=s2.next:=by omega
   have hB:=hM.b
   have b1:¬ st.next+1=t:=by omega
   have b2:¬ st.next+1=s2.next:=by have:=hM.lt;omega
   have b3:¬ st.next=s2.next:=by have:=hM.lt;omega
   generalize flg idE d0 ⟨ei,ea,eb⟩ l=F at *
   generalize outI idE d0 ⟨ei,ea,eb⟩ l=O at *
   have hOl:=eds_length O
   cases F with
   | true=>
     rw [if_pos rfl] at hend
     (repeat' (first | refine qS ?_ | (refine qK ?_;simp only [ak,reduceIte]) | (refine qC ?_;simp [f5,f14,f15,hB]) | (refine w_e [] ?_;intro J hJ;simp only [];simp [f5,f14,f15,hB];(refine hJ _ _ ?_;clear hJ J;simp only [ak,reduceIte]))))
     refine hJJ _ _ (by simp [f61]) (by simp [f60]) ⟨by simp [f59],by simp [f4],by simp [f5],t1,t,?_⟩
     rw [htk,hend]
     exact hM.put _ _
   | false=>
     rw [if_neg (by simp)] at hend
     (repeat' (first | refine qS ?_ | (refine qC ?_;simp [f5,f13,f14,f15,hX,hB,htH,t0,m1,b1,b2,b3,hOl]) | (refine w_e [] ?_;intro J hJ;simp only [];simp [f5,f13,f14,f15,hX,hB,htH,t0,m1,b1,b2,b3,hOl];(repeat refine ca ?_);(refine hJ _ _ ?_;clear hJ J;simp only [ak,reduceIte]))))
     refine hJJ _ _ (by simp [f61]) (by simp [f60]) ⟨by simp [f59],by simp [f4],by simp [f5],t1,s2.next+1,?_⟩
     rw [htk,hend,edsM_snoc]
     have:=(((hM.new (.own 31 3 1)).set tl .dead).new (.own 31 3 (O.length+1))).put (.sl t1 V.length (us V)) (.sl (s2.next+1) (O.length+1) (eds O++[u ei,u ea,u eb]))
     simpa using this
 ·clear f1 f4 f5 f18 hM t1 t2 fr s
  rintro fr s ⟨f59,f4,f5,t1,t2,hM⟩
  rw [List.take_length] at hM
  generalize insAll idE es=E at *
  have hB:=hM.b
  have hZ:=hM.z
  (repeat' (first | refine qS ?_ | (refine qR ?_;simp only [ak,reduceIte];simp [f4,f5,hB,hZ]) | (refine w_e [] ?_;intro J hJ;simp only [];simp [f4,f5,hB,hZ];(refine hJ _ _ ?_;clear hJ J;simp only [ak,reduceIte]))))
  simp [z0,z0L,z0M_us,z0M_eds]
  exact hM.k.set (Nat.le_refl _) _
end Go.Proofs.YtglkgindpjdoiaaGreat.Aw
namespace Go.Proofs.YtglkgindpjdoiaaGreat.Aw
open Go Go.RowKit Go.Proofs.YtglkgindpjdoiaaGreat.Pl Go.Proofs.YtglkgindpjdoiaaGreat.Eu
set_option linter.unusedSimpArgs false
set_option linter.unusedVariables false
theorem refBad (n:Int) (st:St) (h:numI n):ACalls Tryz.prog 74 [u n] st fun r st'=>r=bb false∧st'=st:=by
 have h1:¬ n < 1:=by have:=h.1;omega
 have h2:¬ 1048576 < n:=by have:=h.2;omega
 refine qO tabOk Tryz.func74 rfl rfl Tryz.ntmps74 (rs:=[.tmp 2]) rfl (by simp) ?_
 (repeat' (first | refine qS ?_ | (refine qR ?_;simp only [ak,reduceIte];simp [h1,h2]) | (refine w_e [] ?_;intro J hJ;simp only [];simp [h1,h2];(refine hJ _ _ ?_;clear hJ J;simp only [ak,reduceIte]))))
theorem refPlace (m:Mp) (v:Int) (st:St) (hv:m.g.vs.length≤1000):ACalls Tryz.prog 75 [.ag (mpL m),u v] st fun r st'=>r=i (gi m.g.vs v)∧st'=st:=by
 refine qT (Q:=fun r=>r=i (gi m.g.vs v)) ?_ fun r h=>by subst h;trivial
 refine qO tabOk Tryz.func75 rfl rfl Tryz.ntmps75 (rs:=[.tmp 4]) rfl (by simp) ?_
 (repeat' (first | refine qS ?_ | refine qB ?_ | (refine w_e [] ?_;intro J hJ;simp only [];simp [];(refine hJ _ _ ?_;clear hJ J;simp only [ak,reduceIte]))))
 refine awp_range 11 10 12 20 (m.g.vs.length) (fun j fr st2=>fr 1=u v∧fr 9=.sl 0 m.g.vs.length (us m.g.vs)∧Keeps st st2∧∀ k (hk:k < m.g.vs.length),k < j→m.g.vs[k]≠v) ?_ ?_ ?_
 ·exact ⟨by simp,by simp,Keeps.new _ _,fun k hk h=>by omega⟩
 ·rintro j fr s hlt ⟨f1,f9,hkp,hno⟩ fi fn JJ hJJ
  have hd:=qG m.g.vs j hlt
  rw [getD_lt _ _ hlt] at hd
  have hso:=fun h=>gi_some hlt h fun k hk=>hno k (by omega) hk
  have hnx:m.g.vs[j]≠v→∀ k (hk:k < m.g.vs.length),k < j+1→m.g.vs[k]≠v:=fun h k hk hkj=>by
   rcases Nat.lt_or_ge k j with h1 | h1
   ·exact hno k hk h1
   ·obtain rfl:k=j:=by omega
    exact h
  generalize m.g.vs[j]=x at *
  by_cases hx:x=v
  ·have hr:=hso hx
   have hxb:(x==v)=true:=by simpa using hx
   (repeat' (first | refine qS ?_ | (refine qR ?_;simp only [ak,reduceIte];simp [f1,f9,fi,fn,hd,hlt,hx,hxb,hr]) | (refine qC ?_;simp [f1,f9,fi,fn,hd,hlt,hx,hxb,hr]) | (refine w_e [] ?_;intro J hJ;simp only [];simp [f1,f9,fi,fn,hd,hlt,hx,hxb,hr];(refine hJ _ _ ?_;clear hJ J;simp only [ak,reduceIte]))))
   exact hkp
  ·have hxb:(x==v)=false:=by simpa using hx
   (repeat' (first | refine qS ?_ | (refine qK ?_;simp only [ak,reduceIte]) | (refine qC ?_;simp [f1,f9,fi,fn,hd,hlt,hx,hxb]) | (refine w_e [] ?_;intro J hJ;simp only [];simp [f1,f9,fi,fn,hd,hlt,hx,hxb];(refine hJ _ _ ?_;clear hJ J;simp only [ak,reduceIte]))))
   exact hJJ _ _ (by simp [fi]) (by simp [fn]) ⟨by simp [f1],by simp [f9],hkp,hnx hx⟩
 ·rintro fr s ⟨f1,f9,hkp,hno⟩
  have hr:=gi_none (l:=m.g.vs) (x:=v) fun k hk=>hno k hk hk
  (repeat' (first | refine qS ?_ | (refine qR ?_;simp only [ak,reduceIte];simp [hr]) | (refine w_e [] ?_;intro J hJ;simp only [];simp [hr];(refine hJ _ _ ?_;clear hJ J;simp only [ak,reduceIte]))))
  exact hkp
theorem refIds (m:Mp) (id:Int) (st:St) (he:m.g.es.length≤1000):ACalls Tryz.prog 79 [.ag (mpL m),u id] st fun r st'=>r=.sl 0 ((m.g.es.filter fun y=>decide (y.id≠id)).map (·.id)).length (us ((m.g.es.filter fun y=>decide (y.id≠id)).map (·.id)))∧st'=st:=by
 obtain ⟨Z,hZ⟩:∃ Z,Z=(m.g.es.filter fun y=>decide (y.id≠id)).map (·.id):=⟨_,rfl⟩
 rw [← hZ]
 refine qT (Q:=fun r=>r=.sl 0 Z.length (us Z)) (acalls_frzR ?_) fun r h=>by subst h;exact ⟨.inl rfl,belL_us _ _⟩
 have hel:=eds_length m.g.es
 refine qO tabOk Tryz.func79 rfl rfl Tryz.ntmps79 (rs:=[.tmp 4]) rfl (by simp) ?_
 refine awp_posG fun hpos=>?_
 (repeat' (first | refine qS ?_ | refine qB ?_ | (refine w_e [] ?_;intro J hJ;simp only [];simp [];(refine hJ _ _ ?_;clear hJ J;simp only [ak,reduceIte]))))
 refine awp_own 5 29 1 (by simp) ?_
 refine awp_range 12 11 13 25 (m.g.es.length) (fun j fr st2=>fr 1=u id∧fr 10=.sl 0 m.g.es.length (eds m.g.es)∧Keeps st st2∧∃ t I,I=((m.g.es.take j).filter fun y=>decide (y.id≠id)).map (·.id)∧I.length≤j∧fr 5=.sl t I.length (us I)∧st2.H t=.own 29 1 I.length∧st.next≤t∧t < st2.next) ?_ ?_ ?_
 ·exact ⟨by simp,by simp,(Keeps.new _ _).trans (Keeps.new _ _),st.next+1,[],by simp,by simp,by simp,by simp,by omega,by simp⟩
 ·rintro j fr s hlt ⟨f1,f10,hkp,t,I,hI,hIl,f5,hO,l1,l2⟩ fi fn JJ hJJ
  have hd:=eds_drop m.g.es j hlt
  have hj3:j * 3 < m.g.es.length * 3:=by omega
  have htk:m.g.es.take (j+1)=m.g.es.take j++[m.g.es.getD j ed0]:=by rw [List.take_succ_eq_append_getElem hlt,getE_lt _ _ hlt]
  have hst:((m.g.es.take (j+1)).filter fun y=>decide (y.id≠id)).map (·.id)=if (m.g.es.getD j ed0).id=id then I else I++[(m.g.es.getD j ed0).id]:=by
   rw [htk,List.filter_append,List.map_append,← hI]
   by_cases h:(m.g.es.getD j ed0).id=id
   ·rw [if_pos h,List.filter_cons,if_neg (by simpa using h),List.filter_nil,List.map_nil,List.append_nil]
   ·rw [if_neg h,List.filter_cons,if_pos (by simpa using h),List.filter_nil,List.map_cons,List.map_nil]
  rw [hst] at hJJ
  clear hst htk hI
  generalize m.g.es.getD j ed0=x at *
  obtain ⟨d,a,b⟩:=x
  simp only at hd hJJ
  have a1:¬ t=s.next:=by omega
  have a2:¬ t=0:=by omega
  have a3:¬ t=s.next+1:=by omega
  have hone:=us_one I
  by_cases hx:d=id
  ·rw [if_pos hx] at hJJ
   have hxb:(d != id)=false:=by simpa using hx
   (repeat' (first | refine qS ?_ | (refine qK ?_;simp only [ak,reduceIte]) | (refine qC ?_;simp [f1,f10,fi,fn,hd,hlt,hj3,hel,hx,hxb]) | (refine w_e [] ?_;intro J hJ;simp only [];simp [f1,f10,fi,fn,hd,hlt,hj3,hel,hx,hxb];(refine hJ _ _ ?_;clear hJ J;simp only [ak,reduceIte]))))
   exact hJJ _ _ (by simp [fi]) (by simp [fn]) ⟨by simp [f1],by simp [f10],hkp.trans (Keeps.new _ _),t,I,rfl,by omega,by simp [f5],by simp [a1,hO],l1,by simp;omega⟩
  ·rw [if_neg hx] at hJJ
   have hxb:(d != id)=true:=by simpa using hx
   (repeat' (first | refine qS ?_ | (refine qC ?_;simp [f1,f5,f10,fi,fn,hd,hlt,hj3,hel,hx,hxb,hO,a1,a2,a3,hone]) | (refine w_e [] ?_;intro J hJ;simp only [];simp [f1,f5,f10,fi,fn,hd,hlt,hj3,hel,hx,hxb,hO,a1,a2,a3,hone];(repeat refine ca ?_);(refine hJ _ _ ?_;clear hJ J;simp only [ak,reduceIte]))))
   refine hJJ _ _ (by simp [fi]) (by simp [fn]) ⟨by simp [f1],by simp [f10],?_,s.next+1+1,_,rfl,by simp;omega,by simp [us],by simp,by omega,by simp⟩
   (repeat (first | exact hkp | (refine Keeps.trans ?_ (Keeps.new _ _)) | (refine Keeps.set ?_ (by omega) _)))
 ·rintro fr s ⟨f1,f10,hkp,t,I,hI,hIl,f5,hO,l1,l2⟩
  rw [List.take_length,← hZ] at hI
  subst hI
  (repeat' (first | refine qS ?_ | (refine qR ?_;simp only [ak,reduceIte];simp [f5]) | (refine w_e [] ?_;intro J hJ;simp only [];simp [f5];(refine hJ _ _ ?_;clear hJ J;simp only [ak,reduceIte]))))
  exact ⟨_,_,frz_tok _ _ _ _,rfl,hkp⟩
theorem rise_ids {es:List Ed} (h:es.Pairwise fun x y=>x.id < y.id):(es.map idE).Pairwise (· < ·):=by
 rw [List.pairwise_map];exact h
theorem map_idI (l:List Int):l.map idI=l:=by simp [idI]
theorem insV_same {vs:List Int} (h:vs.Pairwise (· < ·)):insAll idI vs=vs:=
 rise_eq idI (insAll_rise idI vs) (by rw [map_idI];exact h) fun x=>insAll_mem idI vs (by rw [map_idI];exact rise_nodup h) x
theorem insE_same {es:List Ed} (h:es.Pairwise fun x y=>x.id < y.id):insAll idE es=es:=
 rise_eq idE (insAll_rise idE es) (rise_ids h) fun x=>insAll_mem idE es (rise_nodup (rise_ids h)) x
theorem insE_more {es:List Ed} (h:es.Pairwise fun x y=>x.id < y.id) {x:Ed} (hx:∀ y∈es,y.id≠x.id):insAll idE (es++[x])=insE es x:=
 rise_eq idE (insAll_rise idE _) (rise_ids (insE_rise h hx)) fun y=>by
  rw [insAll_mem idE,(insE_perm es x).mem_iff]
  rw [List.map_append,List.nodup_append]
  refine ⟨rise_nodup (rise_ids h),by simp,fun a ha b hb e=>?_⟩
  obtain ⟨z,hz,rfl⟩:=List.mem_map.1 ha
  simp only [List.map_cons,List.map_nil,List.mem_singleton] at hb
  exact hx z hz (e.trans hb)
theorem insV_more {m:Mp} (h:m.g.vs.Pairwise (· < ·)) {v:Int} (hv:v∉m.g.vs):insAll idI (m.g.vs++[v])=(addV m v).g.vs:=
 rise_eq idI (insAll_rise idI _) (by rw [map_idI];exact ins_rise h hv) fun y=>by
  rw [insAll_mem idI,show (y∈(addV m v).g.vs↔y∈v::m.g.vs) from (mid_perm _ _ _).mem_iff]
  ·simp [or_comm]
  ·rw [map_idI,List.nodup_append]
   refine ⟨rise_nodup h,by simp,fun a ha b hb e=>?_⟩
   rw [List.mem_singleton] at hb
   exact hv (by rw [← hb,← e];exact ha)
theorem rows_map {m:Mp} (h:MapOk m):m.rots=m.g.vs.map (rowW m):=by
 have hn:=rise_nodup h.g.rise
 refine List.ext_getElem (by rw [List.length_map];exact h.len) fun k h1 h2=>?_
 rw [List.getElem_map]
 have hk:k < m.g.vs.length:=by rw [List.length_map] at h2;exact h2
 unfold rowW
 rw [if_pos (List.getElem_mem _),hn.idxOf_getElem,getR_lt _ _ h1]
theorem addV_rows {m:Mp} (h:MapOk m) {v:Int} (hv:v∉m.g.vs):(addV m v).rots=(addV m v).g.vs.map (rowW m):=by
 have e:=rows_map h
 have hr:rowW m v=[]:=by unfold rowW;rw [if_neg hv]
 unfold addV
 simp only [List.map_append,List.map_cons,hr,List.map_take,List.map_drop]
 rw [← e]
theorem a_alt3 {ops:Array Oper} {M B:List Nat} {st0:St} {J:Frm→St→Prop} {listed:Array Bool} {fr:Frm} {st:St} {k:Nat} (n:Nat) (p q r:Nat×Bool) (h1:ADyn Tryz.prog tab ops M B st0 (fun fr st=>AAny Tryz.prog tab ops M (SB B st0) J n (listed.setIfInBounds p.1 true) fr st) (pick ops [p]) fr st)
 (h2:ADyn Tryz.prog tab ops M B st0 (fun fr st=>AAny Tryz.prog tab ops M (SB B st0) J n (listed.setIfInBounds q.1 true) fr st) (pick ops [q]) fr st) (h3:ADyn Tryz.prog tab ops M B st0 (fun fr st=>AAny Tryz.prog tab ops M (SB B st0) J n (listed.setIfInBounds r.1 true) fr st) (pick ops [r]) fr st)
 (hn:k=n+1:=by rfl) (hk:altOk ops [p,q,r] listed=true:=by kernel_rfl):AAny Tryz.prog tab ops M (SB B st0) J k listed fr st:=by
 subst hn
 refine aany_alt n [p,q,r] hk fun x hx=>?_
 simp only [List.mem_cons,List.not_mem_nil,or_false] at hx
 rcases hx with rfl | rfl | rfl
 ·exact h1
 ·exact h2
 ·exact h3
theorem refMake' (vs:List Int) (es:List Ed) (tv te:Nat) (st:St) (hvs:vs.length≤10000) (hes:es.length≤10000):
 ACalls Tryz.prog 76 [.sl tv vs.length (us vs),.sl te es.length (eds es)] st fun r st'=>r=.ag (grL ⟨insAll idI vs,insAll idE es⟩)∧st'=st:=
 qT (Q:=fun r=>r=.ag (grL ⟨insAll idI vs,insAll idE es⟩)) ((Make vs es tv te st hvs hes).mono fun r s h=>h) fun r h=>by subst h;exact ⟨⟨.inl rfl,belL_us _ _⟩,⟨.inl rfl,belL_eds _ _⟩,trivial⟩
theorem refInsert' (l m:List Int) (b:Int) (t t':Nat) (st:St) (hl:small l) (hm:small m) (hlm:l.length+m.length≤1048576):
 ACalls Tryz.prog 112 [.sl t l.length (us l),u b,.sl t' m.length (us m)] st fun r st'=>r=.sl 0 (l.length+m.length) (us (nrm (ins l b m)))∧st'=st:=
 qT (Q:=fun r=>r=.sl 0 (l.length+m.length) (us (nrm (ins l b m)))) (ref_Insert l m b t t' st hl hm hlm) fun r h=>by subst h;exact ⟨.inl rfl,belL_us _ _⟩
theorem refFind' (g:Gr) (id:Int) (st:St) (he:g.es.length≤1000):ACalls Tryz.prog 77 [.ag (grL g),u id] st fun r st'=>r=i (fe g.es id)∧st'=st:=
 qT (Q:=fun r=>r=i (fe g.es id)) (ref_Find g id st he) fun r h=>by subst h;trivial
theorem refPart' (g:Gr) (v:Int) (st:St) (hg:Good g) (hv:g.vs.length≤1000) (he:g.es.length≤1000) (hvin:v∈g.vs):
 ACalls Tryz.prog 91 [.ag (grL g),u v] st fun r st'=>(∃ c,r=.sl 0 c.length (us c)∧IsPart g v c)∧st'=st:=
 qT (Q:=fun r=>∃ c,r=.sl 0 c.length (us c)∧IsPart g v c) ((ref_Part g v st hg hv he hvin).mono fun r s h=>h) fun r h=>by obtain ⟨c,rfl,_⟩:=h;exact ⟨.inl rfl,belL_us _ _⟩
theorem refFace' (m:Mp) (h:MapOk m) (d:Int) (st:St) (hv:m.g.vs.length≤1000) (he:m.g.es.length≤1000):
 ACalls Tryz.prog 92 [.ag (mpL m),u d] st fun r st'=>(∃ c,r=.sl 0 c.length (us c)∧IsFace m d c)∧st'=st:=
 qT (Q:=fun r=>∃ c,r=.sl 0 c.length (us c)∧IsFace m d c) ((ref_Face m h d st hv he).mono fun r s h=>h) fun r h=>by obtain ⟨c,rfl,_⟩:=h;exact ⟨.inl rfl,belL_us _ _⟩
def RlI (p:Nat) (m:Mp) (s:Sp) (ka kb:Nat) (st:St) (f:Frm) (S:St):Prop:=f 2=.pt p 0∧f 3=.pt (p+1) 0∧f 4=.pt (p+2) 0∧f 6=i ka∧f 7=i kb∧S.H p=.box 28 3 (mpL m)∧S.H (p+1)=.box 38 6 (spL s)∧S.H (p+2)=.box 28 3 [.nil,.nil,.nil]∧p+3≤S.next∧Keeps st S
def RlK (p ka kb:Nat) (ta tb:List Int) (S:St) (f:Frm) (S':St):Prop:=f 2=.pt p 0∧f 3=.pt (p+1) 0∧f 4=.pt (p+2) 0∧f 6=i ka∧f 7=i kb∧f 8=.sl 0 ta.length (us ta)∧f 9=.sl 0 tb.length (us tb)∧S'=S
def RlJ (p c:Nat) (m:Mp) (s:Sp) (ka kb:Nat) (es:List Ed) (st:St) (f:Frm) (S:St):Prop:=f 2=.pt p 0∧f 3=.pt (p+1) 0∧f 4=.pt (p+2) 0∧f 6=i ka∧f 7=i kb∧f 14=.pt c 0∧S.H p=.box 28 3 (mpL m)∧S.H (p+1)=.box 38 6 (spL s)∧S.H (p+2)=.box 28 3 [.nil,.nil,.nil]∧S.H c=.box 28 3 [.sl 0 m.g.vs.length (us m.g.vs),.sl 0 es.length (eds es),.nil]∧(p+3≤c∧c < S.next)∧Keeps st S
theorem link_sees {m:Mp} {s:Sp} (hm:Drw m) (hl:LinkOk m ⟨s.id,s.a,s.b⟩ s.pa s.pb) (hr:Reach m.g.es s.a s.b) (hface:Orb (fc m m.g.es) (nx (m.rots.getD (m.g.vs.idxOf s.a) []) s.pa) (nx (m.rots.getD (m.g.vs.idxOf s.b) []) s.pb)) {c:List Int} (hc:IsFace m (nx (m.rots.getD (m.g.vs.idxOf s.a) []) s.pa) c):nx (m.rots.getD (m.g.vs.idxOf s.b) []) s.pb∈c∧small c:=by
 obtain ⟨ia,ib,iab⟩:=link_idx hm.ok hl
 have htin:m.rots.getD (m.g.vs.idxOf s.a) []∈m.rots:=by rw [getR_lt _ _ ia];exact List.getElem_mem _
 have hna:m.rots.getD (m.g.vs.idxOf s.a) []≠[]:=fun e=>by
  have hk:m.g.vs.idxOf s.a < m.g.vs.length:=by rw [← hm.ok.len];exact ia
  have o:=(hm.ok.ok _ hk).1
  rw [e,getD_lt _ _ hk,List.getElem_idxOf] at o
  exact hl.ne (reach_alone ((ends_nil _ _).1 o.symm.eq_nil) hr)
 have hpa:s.pa∈m.rots.getD (m.g.vs.idxOf s.a) []:=by rcases hl.sa with ⟨h,_⟩ | h;exact absurd h hna;exact h
 have hdd:=hm.ok.turn_dart htin (nx_mem hpa)
 rcases hc with ⟨_,L,h1,rfl⟩ | ⟨h1,_⟩
 ·have hle:=(hm.ok.cyc_le hdd h1).2
  have he:=hm.e
  refine ⟨(nrm_mem _ _).2 (h1.mem.2 hface),?_⟩
  unfold small
  rw [nrm_length]
  omega
 ·exact absurd hdd h1
set_option maxHeartbeats 8000000 in
theorem refLinkK (m:Mp) (s:Sp) (st:St) (hm:Drw m) (hid:1≤s.id∧s.id≤1048576) (h0:linkW m s=0):
 ACalls Tryz.prog 80 [.ag (mpL m),.ag (spL s)] st fun r st'=>∃ y s',Frz st' s' r y∧y=.tu [.ag (mpL (linkM m ⟨s.id,s.a,s.b⟩ s.pa s.pb)),i 0]∧Keeps st s':=by
 obtain ⟨hl,h160,hface⟩:=linkW_zero hm hid h0
 have hsees:=fun (hr:Reach m.g.es s.a s.b) (c:List Int) (hc:IsFace m (nx (m.rots.getD (m.g.vs.idxOf s.a) []) s.pa) c)=>link_sees hm hl hr (hface hr) hc
 clear hface
 have hel:=hm.e
 have hvl:=hm.v
 have hlen:=hm.ok.len
 have hrow:=link_row hm.ok hl
 have hes:=insE_more hm.ok.g.ids hl.new
 have hvs:=insV_same hm.ok.g.rise
 obtain ⟨ia,ib,iab⟩:=link_idx hm.ok hl
 have hfe:=fe_neg.2 hl.new
 have hga:=gi_mem hl.a
 have hgb:=gi_mem hl.b
 have sa:=hl.sa
 have sb:=hl.sb
 have hne:=hl.ne
 have hva:=hl.a
 have hvb:=hl.b
 have hM:linkM m ⟨s.id,s.a,s.b⟩ s.pa s.pb=⟨⟨m.g.vs,insE m.g.es ⟨s.id,s.a,s.b⟩⟩,(linkM m ⟨s.id,s.a,s.b⟩ s.pa s.pb).rots⟩:=rfl
 have hRl:(linkM m ⟨s.id,s.a,s.b⟩ s.pa s.pb).rots.length=m.rots.length:=by unfold linkM;simp
 obtain ⟨k,id,a,b,pa,pb⟩:=s
 simp only at *
 clear hl h0
 rw [hM]
 clear hM
 generalize (linkM m ⟨id,a,b⟩ pa pb).rots=R at *
 generalize insE m.g.es ⟨id,a,b⟩=es at *
 generalize hka:m.g.vs.idxOf a=ka at *
 generalize hkb:m.g.vs.idxOf b=kb at *
 obtain ⟨ta,hta⟩:∃ t,t=m.rots.getD ka []:=⟨_,rfl⟩
 obtain ⟨tb,htb⟩:∃ t,t=m.rots.getD kb []:=⟨_,rfl⟩
 rw [← hta] at sa hsees
 rw [← htb] at sb hsees
 have hsm:=hm.sm
 have hsa:=hsm ta (by rw [hta,getR_lt _ _ ia];exact List.getElem_mem _)
 have hsb:=hsm tb (by rw [htb,getR_lt _ _ ib];exact List.getElem_mem _)
 have lta:ta.length≤2000:=by have:=hm.ok.row_le (show ta∈m.rots by rw [hta,getR_lt _ _ ia];exact List.getElem_mem _);omega
 have ltb:tb.length≤2000:=by have:=hm.ok.row_le (show tb∈m.rots by rw [htb,getR_lt _ _ ib];exact List.getElem_mem _);omega
 have hda:=rowsL_drop m.rots ka ia
 have hdb:=rowsL_drop m.rots kb ib
 rw [← hta] at hda
 rw [← htb] at hdb
 have ia':(ka:Int) < m.rots.length:=by omega
 have ib':(kb:Int) < m.rots.length:=by omega
 obtain ⟨p,hp⟩:∃ p,p=st.next:=⟨_,rfl⟩
 have K3:Keeps st (((st.new (.box 28 3 (mpL m))).new (.box 38 6 (spL ⟨k,id,a,b,pa,pb⟩))).new (.box 28 3 [.nil,.nil,.nil])):=((Keeps.new _ _).trans (Keeps.new _ _)).trans (Keeps.new _ _)
 have x1:¬ st.next=st.next+1:=by omega
 have x2:¬ st.next=st.next+1+1:=by omega
 have x3:¬ st.next+1=st.next+1+1:=by omega
 have hab:(a==b)=false:=by simpa using hne
 have h160':¬ (160:Int)≤m.g.es.length:=by omega
 have hfe':¬ 0≤fe m.g.es id:=by omega
 simp only [spL] at *
 refine qO tabOk Tryz.func80 rfl rfl Tryz.ntmps80 (rs:=[.cell 4 28,.tmp 5]) rfl (by simp) ?_
 refine awp_posG fun hpos=>?_
 (repeat' (first | refine qS ?_ | (refine w_e [] ?_;intro J hJ;simp only [];simp [x1,x2,x3];(try (refine hJ _ _ ?_;clear hJ J;simp only [ak,reduceIte])))))
 refine qE (refFind' m.g id _ (by omega)) (by simp) ?_;rintro r s1 ⟨rfl,h7⟩
 rw [h7];clear h7 s1
 generalize fe m.g.es id=ff at *
 (repeat' (first | refine qS ?_ | (refine qK ?_;simp only [ak,reduceIte]) | (refine qC ?_;simp [hfe',x1,x2,x3,h160',h160,hne,hab]) | ((first | (refine w_e [] ?_;intro J hJ;simp only []) | (refine e_go ?_));simp [hfe',x1,x2,x3,h160',h160,hne,hab];(refine hJ _ _ ?_;clear hJ J;simp only [ak,reduceIte]))))
 (refine w_s [] [st.next,st.next+1] [(0,true),(1,true),(2,true),(4,true),(5,true),(6,true),(3,true),(7,true),(8,true),(9,true)] ?_;intro J hJ;simp [x1,x2,x3])
 refine qD (refPlace m a _ (by omega)) (by simp) ?_;rintro r s1 ⟨rfl,h7⟩
 rw [h7,hga];clear h7 s1
 refine ⟨fun h=>by first | (cases h;done) | simp,?_⟩
 (refine d_go ?_;simp [x1,x2,x3])
 refine qD (refPlace m b _ (by omega)) (by simp) ?_;rintro r s1 ⟨rfl,h7⟩
 rw [h7,hgb];clear h7 s1
 refine ⟨fun h=>by first | (cases h;done) | simp,?_⟩
 (refine d_go ?_;simp [x1,x2,x3];(refine hJ _ _ ?_;clear hJ J;simp only [ak,reduceIte]))
 refine awp_weakS (RlI p m ⟨k,id,a,b,pa,pb⟩ ka kb st) ?_ ?_
 ·subst hp
  refine ⟨by simp,by simp,by simp,by simp,by simp,by simp [x1,x2,x3],by simp [x1,x2,x3,spL],by simp,by simp,?_⟩
  exact ((Keeps.new _ _).trans (Keeps.new _ _)).trans (Keeps.new _ _)
 clear x1 x2 x3 K3 hfe hfe' ff
 rintro fr S ⟨f2,f3,f4,f6,f7,hA,hB,hC,hn,hk⟩
 simp only [spL] at hB
 have ga:¬ (ka:Int) < 0:=by omega
 have gb:¬ (kb:Int) < 0:=by omega
 refine qS ?_
 refine awp_cutN (fun f S'=>(f 2=.pt p 0∧f 3=.pt (p+1) 0∧f 4=.pt (p+2) 0∧f 6=i ka∧f 7=i kb)∧S'=S) ?_ ?_
 ·(repeat' (first | refine qS ?_ | (refine qK ?_;simp only [ak,reduceIte]) | (refine qC ?_;simp [f6,f7,ga,gb]) | (refine w_e [] ?_;intro J hJ;simp only [];simp [f6,f7,ga,gb];(refine hJ _ _ ?_;clear hJ J;simp only [ak,reduceIte]))))
  exact ⟨by trivial,⟨by simp [f2],by simp [f3],by simp [f4],by simp [f6],by simp [f7]⟩,by trivial⟩
 clear f2 f3 f4 f6 f7 fr
 rintro fr S' ⟨⟨f2,f3,f4,f6,f7⟩,hS'⟩
 rw [hS'];clear hS' S'
 refine qS ?_
 refine awp_cutN (RlK p ka kb ta tb S) ?_ ?_
 ·(repeat' (refine w_q ?_;intro J hJ;simp [f2,f3,f4,f6,f7,ga,gb,hA,hB,hda,hdb,ia,ib,ia',ib'];(refine hJ _ _ ?_;clear hJ J;simp only [ak,reduceIte])))
  exact ⟨by trivial,by simp [f2],by simp [f3],by simp [f4],by simp [f6],by simp [f7],by simp,by simp,by trivial⟩
 clear f2 f3 f4 f6 f7 fr
 rintro fr S' ⟨f2,f3,f4,f6,f7,f8,f9,hS'⟩
 rw [hS'];clear hS' S'
 refine qS ?_
 refine awp_cutN (RlK p ka kb ta tb S) ?_ ?_
 ·rcases sa with ⟨h1,h2⟩ | h1
  ·have hl0:ta.length=0:=by rw [h1];rfl
   have hl0':(ta.length:Int)=0:=by omega
   have hpb:(pa != 0)=false:=by simpa using h2
   (repeat' (first | refine qS ?_ | (refine qK ?_;simp only [ak,reduceIte]) | (refine qC ?_;simp [f2,f3,f4,f6,f7,f8,f9,hB,hl0,hl0',hpb,h2]) | (refine w_e [] ?_;intro J hJ;simp only [];simp [f2,f3,f4,f6,f7,f8,f9,hB,hl0,hl0',hpb,h2];(refine hJ _ _ ?_;clear hJ J;simp only [ak,reduceIte]))))
   exact ⟨by trivial,by simp [f2],by simp [f3],by simp [f4],by simp [f6],by simp [f7],by simp [f8],by simp [f9],by trivial⟩
  ·have hl0:¬ ta.length=0:=fun e=>by rw [List.length_eq_zero_iff] at e;rw [e] at h1;simp at h1
   have hl0':(0:Int) < ta.length:=by omega
   have hl1:0 < ta.length:=by omega
   have hlb:((ta.length:Int)==0)=false:=by rw [beq_eq_false_iff_ne];omega
   have hne0:ta≠[]:=fun e=>hl0 (by rw [e];rfl)
   have hgf:¬ gi ta pa < 0:=fun h=>(gi_neg ta pa).1 h h1
   (repeat' (first | refine qS ?_ | (refine w_e [] ?_;intro J hJ;simp only [];simp [f2,f3,f4,f6,f7,f8,f9,hB,hl0,hl0',hl1,hlb,hne0])))
   refine qE (Find ta 0 pa _ hsa) (by simp) ?_;rintro r s1 ⟨rfl,h7⟩
   rw [h7];clear h7 s1
   generalize gi ta pa=gg at *
   (repeat' (first | (refine qK ?_;simp only [ak,reduceIte]) | (refine qC ?_;simp [hgf]) | (refine e_go ?_;simp [hgf];(refine hJ _ _ ?_;clear hJ J;simp only [ak,reduceIte]))))
   exact ⟨by trivial,by simp [f2],by simp [f3],by simp [f4],by simp [f6],by simp [f7],by simp [f8],by simp [f9],by trivial⟩
 clear f2 f3 f4 f6 f7 f8 f9 fr
 rintro fr S' ⟨f2,f3,f4,f6,f7,f8,f9,hS'⟩
 rw [hS'];clear hS' S'
 refine qS ?_
 refine awp_cutN (RlK p ka kb ta tb S) ?_ ?_
 ·rcases sb with ⟨h1,h2⟩ | h1
  ·have hl0:tb.length=0:=by rw [h1];rfl
   have hl0':(tb.length:Int)=0:=by omega
   have hpb:(pb != 0)=false:=by simpa using h2
   (repeat' (first | refine qS ?_ | (refine qK ?_;simp only [ak,reduceIte]) | (refine qC ?_;simp [f2,f3,f4,f6,f7,f8,f9,hB,hl0,hl0',hpb,h2]) | (refine w_e [] ?_;intro J hJ;simp only [];simp [f2,f3,f4,f6,f7,f8,f9,hB,hl0,hl0',hpb,h2];(refine hJ _ _ ?_;clear hJ J;simp only [ak,reduceIte]))))
   exact ⟨by trivial,by simp [f2],by simp [f3],by simp [f4],by simp [f6],by simp [f7],by simp [f8],by simp [f9],by trivial⟩
  ·have hl0:¬ tb.length=0:=fun e=>by rw [List.length_eq_zero_iff] at e;rw [e] at h1;simp at h1
   have hl0':(0:Int) < tb.length:=by omega
   have hl1:0 < tb.length:=by omega
   have hlb:((tb.length:Int)==0)=false:=by rw [beq_eq_false_iff_ne];omega
   have hne0:tb≠[]:=fun e=>hl0 (by rw [e];rfl)
   have hgf:¬ gi tb pb < 0:=fun h=>(gi_neg tb pb).1 h h1
   (repeat' (first | refine qS ?_ | (refine w_e [] ?_;intro J hJ;simp only [];simp [f2,f3,f4,f6,f7,f8,f9,hB,hl0,hl0',hl1,hlb,hne0])))
   refine qE (Find tb 0 pb _ hsb) (by simp) ?_;rintro r s1 ⟨rfl,h7⟩
   rw [h7];clear h7 s1
   generalize gi tb pb=gg at *
   (repeat' (first | (refine qK ?_;simp only [ak,reduceIte]) | (refine qC ?_;simp [hgf]) | (refine e_go ?_;simp [hgf];(refine hJ _ _ ?_;clear hJ J;simp only [ak,reduceIte]))))
   exact ⟨by trivial,by simp [f2],by simp [f3],by simp [f4],by simp [f6],by simp [f7],by simp [f8],by simp [f9],by trivial⟩
 clear f2 f3 f4 f6 f7 f8 f9 fr
 rintro fr S' ⟨f2,f3,f4,f6,f7,f8,f9,hS'⟩
 rw [hS'];clear hS' S'
 have hgo:=hm.ok.g.toGood
 have hlen10:m.g.vs.length≤1000:=by omega
 have hlenE:m.g.es.length≤1000:=by omega
 (repeat' (first | refine qS ?_ | (refine w_e [] ?_;intro J hJ;simp only [];simp [f2,f3,f4,f6,f7,f8,f9,hA,hB];(try (refine hJ _ _ ?_;clear hJ J;simp only [ak,reduceIte])))))
 refine qE (refPart' m.g a _ hgo hlen10 hlenE hva) (by simp) ?_;rintro r s1 ⟨⟨c,rfl,hc⟩,h7⟩
 rw [h7];clear h7 s1
 (repeat' (first | refine qB ?_ | (refine e_go ?_;simp [f2,f3,f4,f6,f7,f8,f9,hA,hB];(refine hJ _ _ ?_;clear hJ J;simp only [ak,reduceIte]))))
 have hin:b∈c↔Reach m.g.es a b:=by rw [hc.2 b];exact and_iff_right hvb
 have hcl:c.length≤64:=Nat.le_trans (List.Nodup.length_le_of_subset (hc.1.imp fun h=>Int.ne_of_lt h) fun w hw=>((hc.2 w).1 hw).1) hvl
 clear hc
 refine awp_range 109 108 110 117 (c.length) (fun j fr st2=>fr 2=.pt p 0∧fr 3=.pt (p+1) 0∧fr 4=.pt (p+2) 0∧fr 6=i ka∧fr 7=i kb∧fr 8=.sl 0 ta.length (us ta)∧fr 9=.sl 0 tb.length (us tb)∧fr 10=.atom (.bool (decide (b∈c.take j)))∧fr 107=.sl 0 c.length (us c)∧st2=S) ?_ ?_ ?_
 ·exact ⟨by simp [f2],by simp [f3],by simp [f4],by simp [f6],by simp [f7],by simp [f8],by simp [f9],by simp,by simp,by trivial⟩
 ·rintro j fr s2 hlt ⟨f2,f3,f4,f6,f7,f8,f9,f10,f107,rfl⟩ fi fn JO hJO
  have hd:=qG c j hlt
  have hsn:(b∈c.take (j+1))↔b∈c.take j∨b=c.getD j 0:=by rw [getD_lt _ _ hlt,List.take_succ_eq_append_getElem hlt,List.mem_append,List.mem_singleton]
  generalize c.getD j 0=w at *
  by_cases hw:b=w
  ·have hwb:(w==b)=true:=by rw [hw];simp
   have hsd:decide (b∈c.take (j+1))=true:=by rw [decide_eq_true_iff];exact hsn.2 (.inr hw)
   rw [hsd] at hJO
   (repeat' (first | refine qS ?_ | (refine qC ?_;simp [f2,f3,f4,f6,f7,f8,f9,f10,f107,hA,hB,fi,fn,hd,hlt,hwb]) | (refine w_e [] ?_;intro J hJ;simp only [];simp [f2,f3,f4,f6,f7,f8,f9,f10,f107,hA,hB,fi,fn,hd,hlt,hwb];(refine hJ _ _ ?_;clear hJ J;simp only [ak,reduceIte]))))
   exact hJO _ _ (by simp [fi]) (by simp [fn]) ⟨by simp [f2],by simp [f3],by simp [f4],by simp [f6],by simp [f7],by simp [f8],by simp [f9],by simp,by simp [f107],by trivial⟩
  ·have hwb:(w==b)=false:=by rw [beq_eq_false_iff_ne];exact fun h=>hw h.symm
   have hsd:decide (b∈c.take (j+1))=decide (b∈c.take j):=by rw [decide_eq_decide,hsn];exact or_iff_left hw
   rw [hsd] at hJO
   (repeat' (first | refine qS ?_ | (refine qK ?_;simp only [ak,reduceIte]) | (refine qC ?_;simp [f2,f3,f4,f6,f7,f8,f9,f10,f107,hA,hB,fi,fn,hd,hlt,hwb]) | (refine w_e [] ?_;intro J hJ;simp only [];simp [f2,f3,f4,f6,f7,f8,f9,f10,f107,hA,hB,fi,fn,hd,hlt,hwb];(refine hJ _ _ ?_;clear hJ J;simp only [ak,reduceIte]))))
   exact hJO _ _ (by simp [fi]) (by simp [fn]) ⟨by simp [f2],by simp [f3],by simp [f4],by simp [f6],by simp [f7],by simp [f8],by simp [f9],by simp [f10],by simp [f107],by trivial⟩
 clear f2 f3 f4 f6 f7 f8 f9 fr
 rintro fr s2 ⟨f2,f3,f4,f6,f7,f8,f9,f10,f107,rfl⟩
 rw [List.take_length] at f10
 refine qS ?_
 refine awp_cutN (RlK p ka kb ta tb s2) ?_ ?_
 ·by_cases hbc:b∈c
  ·have hsee:=hsees (hin.1 hbc)
   simp only [hbc,decide_true] at f10
   generalize hdx:nx ta pa=dx at *
   (repeat' (first | refine qS ?_ | (refine qC ?_;simp [f10]) | (refine w_e [] ?_;intro J hJ;simp only [];simp [f10];(refine hJ _ _ ?_;clear hJ J;simp only [ak,reduceIte]))))
   (refine w_s [] [p,p+1] [(0,true),(1,true),(2,true),(3,true),(4,true),(5,true),(6,true)] ?_;intro J hJ;simp [f2,f3,f4,f6,f7,f8,f9,hA,hB])
   refine qD (ref_Next ta 0 pa _ hsa) (by simp) ?_;rintro r s1 ⟨rfl,h7⟩
   rw [h7,hdx];clear h7 s1
   refine ⟨fun h=>by first | (cases h;done) | simp,?_⟩
   (refine d_go ?_;simp [f2,f3,f4,f6,f7,f8,f9,hA,hB])
   refine qD (refFace' m hm.ok dx _ hlen10 hlenE) (by simp) ?_;rintro r s1 ⟨⟨F,rfl,hF⟩,h7⟩
   rw [h7];clear h7 s1
   obtain ⟨hsy,hsF⟩:=hsee _ hF
   refine ⟨fun h=>by first | (cases h;done) | simp,?_⟩
   have hgf:¬ gi F (nx tb pb) < 0:=fun h=>(gi_neg F (nx tb pb)).1 h hsy
   (refine d_go ?_;simp [f2,f3,f4,f6,f7,f8,f9,hA,hB];(refine hJ _ _ ?_;clear hJ J;simp only [ak,reduceIte]))
   (repeat' (first | refine qS ?_ | (refine w_e [] ?_;intro J hJ;simp only [];simp [f2,f3,f4,f6,f7,f8,f9,hA,hB])))
   refine qE (ref_Next tb 0 pb _ hsb) (by simp) ?_;rintro r s1 ⟨rfl,h7⟩
   rw [h7];clear h7 s1
   (repeat' (refine e_go ?_;simp [f2,f3,f4,f6,f7,f8,f9,hA,hB]))
   refine qE (Find F 0 (nx tb pb) _ hsF) (by simp) ?_;rintro r s1 ⟨rfl,h7⟩
   rw [h7];clear h7 s1
   generalize gi F (nx tb pb)=gg at *
   (repeat' (first | (refine qK ?_;simp only [ak,reduceIte]) | (refine qC ?_;simp [hgf]) | (refine e_go ?_;simp [hgf];(refine hJ _ _ ?_;clear hJ J;simp only [ak,reduceIte]))))
   exact ⟨by trivial,by simp [f2],by simp [f3],by simp [f4],by simp [f6],by simp [f7],by simp [f8],by simp [f9],by trivial⟩
  ·simp only [hbc,decide_false] at f10
   (repeat' (first | refine qS ?_ | (refine qK ?_;simp only [ak,reduceIte]) | (refine qC ?_;simp [f10]) | (refine w_e [] ?_;intro J hJ;simp only [];simp [f10];(refine hJ _ _ ?_;clear hJ J;simp only [ak,reduceIte]))))
   exact ⟨by trivial,by simp [f2],by simp [f3],by simp [f4],by simp [f6],by simp [f7],by simp [f8],by simp [f9],by trivial⟩
 clear hsees hin f2 f3 f4 f6 f7 f8 f9 f10 f107 fr
 rintro fr S' ⟨f2,f3,f4,f6,f7,f8,f9,hS'⟩
 rw [hS'];clear hS' S'
 have hMk:∀ (tv te:Nat) (S:St),ACalls Tryz.prog 76 [.sl tv m.g.vs.length (us m.g.vs),.sl te (m.g.es.length+1) (eds m.g.es++[u id,u a,u b])] S fun r S'=>r=.ag [.sl 0 m.g.vs.length (us m.g.vs),.sl 0 es.length (eds es)]∧S'=S:=fun tv te S=>by
  have:=refMake' m.g.vs (m.g.es++[⟨id,a,b⟩]) tv te S (by omega) (by simp;omega)
  rw [hvs,hes] at this
  simpa [eds,edL,grL] using this
 have hL:z0L (eds m.g.es)=eds m.g.es:=z0M_eds _
 have hL2:(eds m.g.es).length=m.g.es.length * 3:=eds_length _
 have hone:(1:Nat)+0=1:=rfl
 have k2:∀ n:Nat,¬ n+1+1=n:=fun n=>by omega
 have k3:∀ n:Nat,¬ n+1+1+1=n:=fun n=>by omega
 have k4:∀ n:Nat,¬ n+1+1+1+1=n:=fun n=>by omega
 have k5:∀ n:Nat,¬ n=n+1+1:=fun n=>by omega
 have k6:∀ n:Nat,¬ n=n+1+1+1:=fun n=>by omega
 have k7:∀ n:Nat,¬ n=n+1+1+1+1:=fun n=>by omega
 have g1:¬ p=s2.next:=by omega
 have g2:¬ p=s2.next+1:=by omega
 have g3:¬ p=s2.next+1+1:=by omega
 have g4:¬ p=s2.next+1+1+1:=by omega
 have g5:¬ p=s2.next+1+1+1+1:=by omega
 have g6:¬ p+1=s2.next:=by omega
 have g7:¬ p+1=s2.next+1:=by omega
 have g8:¬ p+1=s2.next+1+1:=by omega
 have g9:¬ p+1=s2.next+1+1+1:=by omega
 have g10:¬ p+1=s2.next+1+1+1+1:=by omega
 have g11:¬ p+2=s2.next:=by omega
 have g12:¬ p+2=s2.next+1:=by omega
 have g13:¬ p+2=s2.next+1+1:=by omega
 have g14:¬ p+2=s2.next+1+1+1:=by omega
 have g15:¬ p+2=s2.next+1+1+1+1:=by omega
 have hF:=And.intro f2 ( And.intro f3 ( And.intro hA ( And.intro hB ( And.intro hL ( And.intro hL2 ( And.intro hone ( And.intro g1 ( And.intro g2 ( And.intro g3 ( And.intro g4 ( And.intro g5 ( And.intro g6 ( And.intro g7 ( And.intro g8 ( And.intro g9 ( And.intro g10 ( And.intro k2 ( And.intro k3 ( And.intro k4 ( And.intro k5 (And.intro k6 k7)))))))))))))))))))))
 have hG:=And.intro g11 ( And.intro g12 ( And.intro g13 ( And.intro g14 (And.intro g15 hC))))
 refine qS ?_
 refine awp_cutN (fun f S=>∃ c,RlJ p c m ⟨k,id,a,b,pa,pb⟩ ka kb es st f S) ?_ ?_
 ·skip
  refine w_a [] [p,p+1] ?_;intro J hJ
  refine a_pre 8 [(0,true),(1,true),(2,true),(4,true),(5,true),(6,true),(8,true),(9,true),(10,true),(11,true),(12,true),(13,true),(14,true)] ?_
  simp [hF]
  (repeat refine ca ?_)
  refine a_alt3 7 (3,true) (15,true) (19,true) ?_ ?_ ?_
  ·simp [hF]
   (repeat refine ca ?_)
   refine a_alt3 6 (7,true) (15,true) (19,true) ?_ ?_ ?_
   ·simp [hF]
    (repeat refine ca ?_)
    refine a_alt2 5 (15,true) (19,true) ?_ ?_
    ·simp [hF]
     (repeat refine ca ?_)
     refine a_alt2 4 (16,true) (19,true) ?_ ?_
     ·simp [hF]
      (repeat refine ca ?_)
      refine a_alt2 3 (17,true) (19,true) ?_ ?_
      ·simp [hF]
       (repeat refine ca ?_)
       refine qD (hMk _ _ _) (by simp<;>exact ⟨rfl,rfl⟩) ?_;rintro r s1 ⟨rfl,h7⟩
       rw [h7];clear h7 s1
       refine ⟨fun h=>by first | (cases h;done) | simp [hF],?_⟩
       (try simp [hF])
       (repeat refine ca ?_)
       refine a_pre 0 [(18,true),(19,true),(20,true)] ?_
       simp [hF]
       refine aany_end (hJ _ _ ?_)
       simp only [ak]
       refine ⟨by trivial,s2.next+1+1+1+1,by simp [hF],by simp [hF],by simp [f4],by simp [f6],by simp [f7],by simp,by simp [hF],by simp [spL,hF],by simp [hF,hG],by simp [hF],⟨by omega,by simp<;>omega⟩,?_⟩
       (repeat (first | exact hk | (refine Keeps.trans ?_ (Keeps.new _ _)) | (refine Keeps.set ?_ (by first | omega | (simp;done) | (simp;omega)) _)))
      ·simp [hF]
       (repeat refine ca ?_)
       refine a_pre 0 [(17,true),(18,true),(20,true)] ?_
       simp [hF]
       (repeat refine ca ?_)
       refine qD (hMk _ _ _) (by simp<;>exact ⟨rfl,rfl⟩) ?_;rintro r s1 ⟨rfl,h7⟩
       rw [h7];clear h7 s1
       refine ⟨fun h=>by first | (cases h;done) | simp [hF],?_⟩
       (try simp [hF])
       refine aany_end (hJ _ _ ?_)
       simp only [ak]
       refine ⟨by trivial,s2.next+1+1+1+1,by simp [hF],by simp [hF],by simp [f4],by simp [f6],by simp [f7],by simp,by simp [hF],by simp [spL,hF],by simp [hF,hG],by simp [hF],⟨by omega,by simp<;>omega⟩,?_⟩
       (repeat (first | exact hk | (refine Keeps.trans ?_ (Keeps.new _ _)) | (refine Keeps.set ?_ (by first | omega | (simp;done) | (simp;omega)) _)))
     ·simp [hF]
      (repeat refine ca ?_)
      refine a_pre 0 [(16,true),(17,true),(18,true),(20,true)] ?_
      simp [hF]
      (repeat refine ca ?_)
      refine qD (hMk _ _ _) (by simp<;>exact ⟨rfl,rfl⟩) ?_;rintro r s1 ⟨rfl,h7⟩
      rw [h7];clear h7 s1
      refine ⟨fun h=>by first | (cases h;done) | simp [hF],?_⟩
      (try simp [hF])
      refine aany_end (hJ _ _ ?_)
      simp only [ak]
      refine ⟨by trivial,s2.next+1+1+1,by simp [hF],by simp [hF],by simp [f4],by simp [f6],by simp [f7],by simp,by simp [hF],by simp [spL,hF],by simp [hF,hG],by simp [hF],⟨by omega,by simp<;>omega⟩,?_⟩
      (repeat (first | exact hk | (refine Keeps.trans ?_ (Keeps.new _ _)) | (refine Keeps.set ?_ (by first | omega | (simp;done) | (simp;omega)) _)))
    ·simp [hF]
     (repeat refine ca ?_)
     refine a_pre 0 [(15,true),(16,true),(17,true),(18,true),(20,true)] ?_
     simp [hF]
     (repeat refine ca ?_)
     refine qD (hMk _ _ _) (by simp<;>exact ⟨rfl,rfl⟩) ?_;rintro r s1 ⟨rfl,h7⟩
     rw [h7];clear h7 s1
     refine ⟨fun h=>by first | (cases h;done) | simp [hF],?_⟩
     (try simp [hF])
     refine aany_end (hJ _ _ ?_)
     simp only [ak]
     refine ⟨by trivial,s2.next+1+1,by simp [hF],by simp [hF],by simp [f4],by simp [f6],by simp [f7],by simp,by simp [hF],by simp [spL,hF],by simp [hF,hG],by simp [hF],⟨by omega,by simp<;>omega⟩,?_⟩
     (repeat (first | exact hk | (refine Keeps.trans ?_ (Keeps.new _ _)) | (refine Keeps.set ?_ (by first | omega | (simp;done) | (simp;omega)) _)))
   ·simp [hF]
    (repeat refine ca ?_)
    refine a_alt2 5 (7,true) (19,true) ?_ ?_
    ·simp [hF]
     (repeat refine ca ?_)
     refine a_alt2 4 (16,true) (19,true) ?_ ?_
     ·simp [hF]
      (repeat refine ca ?_)
      refine a_alt2 3 (17,true) (19,true) ?_ ?_
      ·simp [hF]
       (repeat refine ca ?_)
       refine qD (hMk _ _ _) (by simp<;>exact ⟨rfl,rfl⟩) ?_;rintro r s1 ⟨rfl,h7⟩
       rw [h7];clear h7 s1
       refine ⟨fun h=>by first | (cases h;done) | simp [hF],?_⟩
       (try simp [hF])
       (repeat refine ca ?_)
       refine a_pre 0 [(18,true),(19,true),(20,true)] ?_
       simp [hF]
       refine aany_end (hJ _ _ ?_)
       simp only [ak]
       refine ⟨by trivial,s2.next+1+1+1+1,by simp [hF],by simp [hF],by simp [f4],by simp [f6],by simp [f7],by simp,by simp [hF],by simp [spL,hF],by simp [hF,hG],by simp [hF],⟨by omega,by simp<;>omega⟩,?_⟩
       (repeat (first | exact hk | (refine Keeps.trans ?_ (Keeps.new _ _)) | (refine Keeps.set ?_ (by first | omega | (simp;done) | (simp;omega)) _)))
      ·simp [hF]
       (repeat refine ca ?_)
       refine a_pre 0 [(17,true),(18,true),(20,true)] ?_
       simp [hF]
       (repeat refine ca ?_)
       refine qD (hMk _ _ _) (by simp<;>exact ⟨rfl,rfl⟩) ?_;rintro r s1 ⟨rfl,h7⟩
       rw [h7];clear h7 s1
       refine ⟨fun h=>by first | (cases h;done) | simp [hF],?_⟩
       (try simp [hF])
       refine aany_end (hJ _ _ ?_)
       simp only [ak]
       refine ⟨by trivial,s2.next+1+1+1+1,by simp [hF],by simp [hF],by simp [f4],by simp [f6],by simp [f7],by simp,by simp [hF],by simp [spL,hF],by simp [hF,hG],by simp [hF],⟨by omega,by simp<;>omega⟩,?_⟩
       (repeat (first | exact hk | (refine Keeps.trans ?_ (Keeps.new _ _)) | (refine Keeps.set ?_ (by first | omega | (simp;done) | (simp;omega)) _)))
     ·simp [hF]
      (repeat refine ca ?_)
      refine a_pre 0 [(16,true),(17,true),(18,true),(20,true)] ?_
      simp [hF]
      (repeat refine ca ?_)
      refine qD (hMk _ _ _) (by simp<;>exact ⟨rfl,rfl⟩) ?_;rintro r s1 ⟨rfl,h7⟩
      rw [h7];clear h7 s1
      refine ⟨fun h=>by first | (cases h;done) | simp [hF],?_⟩
      (try simp [hF])
      refine aany_end (hJ _ _ ?_)
      simp only [ak]
      refine ⟨by trivial,s2.next+1+1+1,by simp [hF],by simp [hF],by simp [f4],by simp [f6],by simp [f7],by simp,by simp [hF],by simp [spL,hF],by simp [hF,hG],by simp [hF],⟨by omega,by simp<;>omega⟩,?_⟩
      (repeat (first | exact hk | (refine Keeps.trans ?_ (Keeps.new _ _)) | (refine Keeps.set ?_ (by first | omega | (simp;done) | (simp;omega)) _)))
    ·simp [hF]
     (repeat refine ca ?_)
     refine a_pre 0 [(7,true),(16,true),(17,true),(18,true),(20,true)] ?_
     simp [hF]
     (repeat refine ca ?_)
     refine qD (hMk _ _ _) (by simp<;>exact ⟨rfl,rfl⟩) ?_;rintro r s1 ⟨rfl,h7⟩
     rw [h7];clear h7 s1
     refine ⟨fun h=>by first | (cases h;done) | simp [hF],?_⟩
     (try simp [hF])
     refine aany_end (hJ _ _ ?_)
     simp only [ak]
     refine ⟨by trivial,s2.next+1+1,by simp [hF],by simp [hF],by simp [f4],by simp [f6],by simp [f7],by simp,by simp [hF],by simp [spL,hF],by simp [hF,hG],by simp [hF],⟨by omega,by simp<;>omega⟩,?_⟩
     (repeat (first | exact hk | (refine Keeps.trans ?_ (Keeps.new _ _)) | (refine Keeps.set ?_ (by first | omega | (simp;done) | (simp;omega)) _)))
   ·simp [hF]
    (repeat refine ca ?_)
    refine a_alt2 5 (7,true) (15,true) ?_ ?_
    ·simp [hF]
     (repeat refine ca ?_)
     refine a_pre 0 [(15,true),(16,true),(17,true),(18,true),(20,true)] ?_
     simp [hF]
     (repeat refine ca ?_)
     refine qD (hMk _ _ _) (by simp<;>exact ⟨rfl,rfl⟩) ?_;rintro r s1 ⟨rfl,h7⟩
     rw [h7];clear h7 s1
     refine ⟨fun h=>by first | (cases h;done) | simp [hF],?_⟩
     (try simp [hF])
     refine aany_end (hJ _ _ ?_)
     simp only [ak]
     refine ⟨by trivial,s2.next+1,by simp [hF],by simp [hF],by simp [f4],by simp [f6],by simp [f7],by simp,by simp [hF],by simp [spL,hF],by simp [hF,hG],by simp [hF],⟨by omega,by simp<;>omega⟩,?_⟩
     (repeat (first | exact hk | (refine Keeps.trans ?_ (Keeps.new _ _)) | (refine Keeps.set ?_ (by first | omega | (simp;done) | (simp;omega)) _)))
    ·simp [hF]
     (repeat refine ca ?_)
     refine a_pre 0 [(7,true),(16,true),(17,true),(18,true),(20,true)] ?_
     simp [hF]
     (repeat refine ca ?_)
     refine qD (hMk _ _ _) (by simp<;>exact ⟨rfl,rfl⟩) ?_;rintro r s1 ⟨rfl,h7⟩
     rw [h7];clear h7 s1
     refine ⟨fun h=>by first | (cases h;done) | simp [hF],?_⟩
     (try simp [hF])
     refine aany_end (hJ _ _ ?_)
     simp only [ak]
     refine ⟨by trivial,s2.next+1,by simp [hF],by simp [hF],by simp [f4],by simp [f6],by simp [f7],by simp,by simp [hF],by simp [spL,hF],by simp [hF,hG],by simp [hF],⟨by omega,by simp<;>omega⟩,?_⟩
     (repeat (first | exact hk | (refine Keeps.trans ?_ (Keeps.new _ _)) | (refine Keeps.set ?_ (by first | omega | (simp;done) | (simp;omega)) _)))
  ·simp [hF]
   (repeat refine ca ?_)
   refine a_alt2 6 (3,true) (19,true) ?_ ?_
   ·simp [hF]
    (repeat refine ca ?_)
    refine a_alt2 5 (7,true) (19,true) ?_ ?_
    ·simp [hF]
     (repeat refine ca ?_)
     refine a_alt2 4 (16,true) (19,true) ?_ ?_
     ·simp [hF]
      (repeat refine ca ?_)
      refine a_alt2 3 (17,true) (19,true) ?_ ?_
      ·simp [hF]
       (repeat refine ca ?_)
       refine qD (hMk _ _ _) (by simp<;>exact ⟨rfl,rfl⟩) ?_;rintro r s1 ⟨rfl,h7⟩
       rw [h7];clear h7 s1
       refine ⟨fun h=>by first | (cases h;done) | simp [hF],?_⟩
       (try simp [hF])
       (repeat refine ca ?_)
       refine a_pre 0 [(18,true),(19,true),(20,true)] ?_
       simp [hF]
       refine aany_end (hJ _ _ ?_)
       simp only [ak]
       refine ⟨by trivial,s2.next+1+1+1+1,by simp [hF],by simp [hF],by simp [f4],by simp [f6],by simp [f7],by simp,by simp [hF],by simp [spL,hF],by simp [hF,hG],by simp [hF],⟨by omega,by simp<;>omega⟩,?_⟩
       (repeat (first | exact hk | (refine Keeps.trans ?_ (Keeps.new _ _)) | (refine Keeps.set ?_ (by first | omega | (simp;done) | (simp;omega)) _)))
      ·simp [hF]
       (repeat refine ca ?_)
       refine a_pre 0 [(17,true),(18,true),(20,true)] ?_
       simp [hF]
       (repeat refine ca ?_)
       refine qD (hMk _ _ _) (by simp<;>exact ⟨rfl,rfl⟩) ?_;rintro r s1 ⟨rfl,h7⟩
       rw [h7];clear h7 s1
       refine ⟨fun h=>by first | (cases h;done) | simp [hF],?_⟩
       (try simp [hF])
       refine aany_end (hJ _ _ ?_)
       simp only [ak]
       refine ⟨by trivial,s2.next+1+1+1+1,by simp [hF],by simp [hF],by simp [f4],by simp [f6],by simp [f7],by simp,by simp [hF],by simp [spL,hF],by simp [hF,hG],by simp [hF],⟨by omega,by simp<;>omega⟩,?_⟩
       (repeat (first | exact hk | (refine Keeps.trans ?_ (Keeps.new _ _)) | (refine Keeps.set ?_ (by first | omega | (simp;done) | (simp;omega)) _)))
     ·simp [hF]
      (repeat refine ca ?_)
      refine a_pre 0 [(16,true),(17,true),(18,true),(20,true)] ?_
      simp [hF]
      (repeat refine ca ?_)
      refine qD (hMk _ _ _) (by simp<;>exact ⟨rfl,rfl⟩) ?_;rintro r s1 ⟨rfl,h7⟩
      rw [h7];clear h7 s1
      refine ⟨fun h=>by first | (cases h;done) | simp [hF],?_⟩
      (try simp [hF])
      refine aany_end (hJ _ _ ?_)
      simp only [ak]
      refine ⟨by trivial,s2.next+1+1+1,by simp [hF],by simp [hF],by simp [f4],by simp [f6],by simp [f7],by simp,by simp [hF],by simp [spL,hF],by simp [hF,hG],by simp [hF],⟨by omega,by simp<;>omega⟩,?_⟩
      (repeat (first | exact hk | (refine Keeps.trans ?_ (Keeps.new _ _)) | (refine Keeps.set ?_ (by first | omega | (simp;done) | (simp;omega)) _)))
    ·simp [hF]
     (repeat refine ca ?_)
     refine a_pre 0 [(7,true),(16,true),(17,true),(18,true),(20,true)] ?_
     simp [hF]
     (repeat refine ca ?_)
     refine qD (hMk _ _ _) (by simp<;>exact ⟨rfl,rfl⟩) ?_;rintro r s1 ⟨rfl,h7⟩
     rw [h7];clear h7 s1
     refine ⟨fun h=>by first | (cases h;done) | simp [hF],?_⟩
     (try simp [hF])
     refine aany_end (hJ _ _ ?_)
     simp only [ak]
     refine ⟨by trivial,s2.next+1+1,by simp [hF],by simp [hF],by simp [f4],by simp [f6],by simp [f7],by simp,by simp [hF],by simp [spL,hF],by simp [hF,hG],by simp [hF],⟨by omega,by simp<;>omega⟩,?_⟩
     (repeat (first | exact hk | (refine Keeps.trans ?_ (Keeps.new _ _)) | (refine Keeps.set ?_ (by first | omega | (simp;done) | (simp;omega)) _)))
   ·simp [hF]
    (repeat refine ca ?_)
    refine a_pre 0 [(3,true),(7,true),(16,true),(17,true),(18,true),(20,true)] ?_
    simp [hF]
    (repeat refine ca ?_)
    refine qD (hMk _ _ _) (by simp<;>exact ⟨rfl,rfl⟩) ?_;rintro r s1 ⟨rfl,h7⟩
    rw [h7];clear h7 s1
    refine ⟨fun h=>by first | (cases h;done) | simp [hF],?_⟩
    (try simp [hF])
    refine aany_end (hJ _ _ ?_)
    simp only [ak]
    refine ⟨by trivial,s2.next+1,by simp [hF],by simp [hF],by simp [f4],by simp [f6],by simp [f7],by simp,by simp [hF],by simp [spL,hF],by simp [hF,hG],by simp [hF],⟨by omega,by simp<;>omega⟩,?_⟩
    (repeat (first | exact hk | (refine Keeps.trans ?_ (Keeps.new _ _)) | (refine Keeps.set ?_ (by first | omega | (simp;done) | (simp;omega)) _)))
  ·simp [hF]
   (repeat refine ca ?_)
   refine a_alt2 6 (3,true) (15,true) ?_ ?_
   ·simp [hF]
    (repeat refine ca ?_)
    refine a_alt2 5 (7,true) (15,true) ?_ ?_
    ·simp [hF]
     (repeat refine ca ?_)
     refine a_pre 0 [(15,true),(16,true),(17,true),(18,true),(20,true)] ?_
     simp [hF]
     (repeat refine ca ?_)
     refine qD (hMk _ _ _) (by simp<;>exact ⟨rfl,rfl⟩) ?_;rintro r s1 ⟨rfl,h7⟩
     rw [h7];clear h7 s1
     refine ⟨fun h=>by first | (cases h;done) | simp [hF],?_⟩
     (try simp [hF])
     refine aany_end (hJ _ _ ?_)
     simp only [ak]
     refine ⟨by trivial,s2.next,by simp [hF],by simp [hF],by simp [f4],by simp [f6],by simp [f7],by simp,by simp [hF],by simp [spL,hF],by simp [hF,hG],by simp [hF],⟨by omega,by simp<;>omega⟩,?_⟩
     (repeat (first | exact hk | (refine Keeps.trans ?_ (Keeps.new _ _)) | (refine Keeps.set ?_ (by first | omega | (simp;done) | (simp;omega)) _)))
    ·simp [hF]
     (repeat refine ca ?_)
     refine a_pre 0 [(7,true),(16,true),(17,true),(18,true),(20,true)] ?_
     simp [hF]
     (repeat refine ca ?_)
     refine qD (hMk _ _ _) (by simp<;>exact ⟨rfl,rfl⟩) ?_;rintro r s1 ⟨rfl,h7⟩
     rw [h7];clear h7 s1
     refine ⟨fun h=>by first | (cases h;done) | simp [hF],?_⟩
     (try simp [hF])
     refine aany_end (hJ _ _ ?_)
     simp only [ak]
     refine ⟨by trivial,s2.next,by simp [hF],by simp [hF],by simp [f4],by simp [f6],by simp [f7],by simp,by simp [hF],by simp [spL,hF],by simp [hF,hG],by simp [hF],⟨by omega,by simp<;>omega⟩,?_⟩
     (repeat (first | exact hk | (refine Keeps.trans ?_ (Keeps.new _ _)) | (refine Keeps.set ?_ (by first | omega | (simp;done) | (simp;omega)) _)))
   ·simp [hF]
    (repeat refine ca ?_)
    refine a_pre 0 [(3,true),(7,true),(16,true),(17,true),(18,true),(20,true)] ?_
    simp [hF]
    (repeat refine ca ?_)
    refine qD (hMk _ _ _) (by simp<;>exact ⟨rfl,rfl⟩) ?_;rintro r s1 ⟨rfl,h7⟩
    rw [h7];clear h7 s1
    refine ⟨fun h=>by first | (cases h;done) | simp [hF],?_⟩
    (try simp [hF])
    refine aany_end (hJ _ _ ?_)
    simp only [ak]
    refine ⟨by trivial,s2.next,by simp [hF],by simp [hF],by simp [f4],by simp [f6],by simp [f7],by simp,by simp [hF],by simp [spL,hF],by simp [hF,hG],by simp [hF],⟨by omega,by simp<;>omega⟩,?_⟩
    (repeat (first | exact hk | (refine Keeps.trans ?_ (Keeps.new _ _)) | (refine Keeps.set ?_ (by first | omega | (simp;done) | (simp;omega)) _)))
 rintro fr S ⟨c,f2,f3,f4,f6,f7,f14,hA,hB,hC,hD,⟨hc1,hc2⟩,hk2⟩
 clear hF hG hMk hL hL2 hone k2 k3 k4 k5 k6 k7 g1 g2 g3 g4 g5 g6 g7 g8 g9 g10 g11 g12 g13 g14 g15
 have n1:¬ p=c:=by omega
 have n2:¬ p=S.next:=by omega
 have n3:¬ p+1=c:=by omega
 have n4:¬ p+1=S.next:=by omega
 have n5:¬ p+2=c:=by omega
 have n6:¬ p+2=S.next:=by omega
 have n7:¬ S.next=c:=by omega
 refine awp_cell c 22 1 (e:=28) (s:=3) [.sl 0 m.g.vs.length (us m.g.vs),.sl 0 es.length (eds es)] [] hD ?_
 (repeat' (first | refine qS ?_ | refine qB ?_ | (refine w_e [] ?_;intro J hJ;simp only [];simp [f2,hA,n1,n2];(refine hJ _ _ ?_;clear hJ J;simp only [ak,reduceIte]))))
 refine awp_range 155 154 156 189 (m.rots.length) (fun j fr st2=>fr 2=.pt p 0∧fr 3=.pt (p+1) 0∧fr 4=.pt (p+2) 0∧fr 6=i ka∧fr 7=i kb∧fr 14=.pt c 0∧fr 153=.sl 0 m.rots.length (rowsL m.rots)∧st2.H (p+1)=.box 38 6 [i k,u id,u a,u b,u pa,u pb]∧st2.H (p+2)=.box 28 3 [.nil,.nil,.nil]∧Keeps st st2∧∃ tr,st2.H c=.box 28 3 [.sl 0 m.g.vs.length (us m.g.vs),.sl 0 es.length (eds es),.sl tr j (rowsL (R.take j))]∧st2.H tr=.own 22 1 j∧c < tr∧tr < st2.next) ?_ ?_ ?_
 ·refine ⟨by simp [f2],by simp [f3],by simp [f4],by simp [f6],by simp [f7],by simp [f14],by simp,by simp [n3,n4,hB,spL],by simp [n5,n6,hC],?_,S.next,by simp [rowsL],by simp [n7],by omega,by simp⟩
  (repeat (first | exact hk2 | (refine Keeps.trans ?_ (Keeps.new _ _)) | (refine Keeps.set ?_ (by omega) _)))
 ·clear n2 n4 n6 n7 f2 f3 f4 f6 f7 f14 hA hB hC hD hk2 hc2 fr
  rintro j fr s hlt ⟨f2,f3,f4,f6,f7,f14,f153,hB,hC,hkp,tr,hD,hO,l1,l2⟩ fi fn JO hJO
  have hd:=rowsL_drop m.rots j hlt
  have hjR:j < R.length:=by omega
  have hFj:rowsL (R.take (j+1))=rowsL (R.take j)++[.sl 0 (R.getD j []).length (us (R.getD j []))]:=by
   rw [List.take_succ_eq_append_getElem hjR,getR_lt _ _ hjR];simp only [rowsL,List.map_append,List.map_cons,List.map_nil]
  rw [hrow j hlt] at hFj
  have hmem:m.rots.getD j []∈m.rots:=by rw [getR_lt _ _ hlt];exact List.getElem_mem _
  have hst:=hsm _ hmem
  have hlt2:(m.rots.getD j []).length≤2000:=by have:=hm.ok.row_le hmem;omega
  have hjl:(rowsL (R.take j)).length=j:=by simp;omega
  simp only [hFj] at hJO
  clear hFj hmem
  generalize m.rots.getD j []=t at *
  generalize rowsL (R.take j)=RR at *
  have e1:¬ tr=0:=by omega
  have e2:¬ tr=s.next:=by omega
  have e3:¬ c=tr:=by omega
  have e4:¬ c=s.next:=by omega
  have e5:¬ c=s.next+1:=by omega
  have e6:¬ p+1=s.next:=by omega
  have e7:¬ p+2=s.next:=by omega
  have e8:¬ tr=s.next+1:=by omega
  have e9:¬ p+1=tr:=by omega
  have e10:¬ p+2=tr:=by omega
  have e18:¬ p=s.next:=by omega
  have e19:¬ p=s.next+1:=by omega
  have e11:¬ p+1=s.next+1:=by omega
  have e12:¬ p+1=s.next+1+1:=by omega
  have e13:¬ p+2=s.next+1:=by omega
  have e14:¬ p+2=s.next+1+1:=by omega
  have e15:¬ c=s.next+1+1:=by omega
  have e16:¬ s.next+1=c:=by omega
  have e17:¬ s.next+1+1=c:=by omega
  have hw2:IntKind.u32.wrap (2 * id)=2 * id:=wrap_u32' _ (by omega) (by omega)
  have hw3:IntKind.u32.wrap (2 * id+1)=2 * id+1:=wrap_u32' _ (by omega) (by omega)
  by_cases hjb:j=kb
  ·have hja:¬ j=ka:=fun e=>iab (by rw [← e,hjb])
   have hbb:((j:Int)==(kb:Int))=true:=by rw [beq_iff_eq];omega
   have hba:((j:Int)==(ka:Int))=false:=by rw [beq_eq_false_iff_ne];omega
   rw [if_pos hjb,nrm_length,ins_length] at hJO
   (repeat' (first | refine qS ?_ | (refine qK ?_;simp only [ak,reduceIte]) | (refine qC ?_;simp [f3,f4,f6,f7,f14,f153,fi,fn,hd,hlt,hbb,hba,hB,hw2,hw3,e6]) | (refine w_e [] ?_;intro J hJ;simp only [];simp [f3,f4,f6,f7,f14,f153,fi,fn,hd,hlt,hbb,hba,hB,hw2,hw3,e6];(try (refine hJ _ _ ?_;clear hJ J;simp only [ak,reduceIte])))))
   refine qE (refInsert' t [2 * id+1] pb _ _ _ hst (by simp [small]) (by simp;omega)) (by simp [us]<;>exact ⟨rfl,rfl⟩) ?_;rintro r s1 ⟨rfl,h7⟩
   rw [h7];clear h7 s1
   generalize nrm (ins t pb [2 * id+1])=NR at *
   (repeat' ((first | (refine w_e [] ?_;intro J hJ;simp only []) | (refine e_go ?_));simp [f14,hD,hO,n3,n5,e1,e2,e3,e4,e5,e6,e7,e8,e9,e10,e11,e12,e13,e14,e15,e16,e17,e18,e19,hjl];(repeat refine ca ?_);(refine hJ _ _ ?_;clear hJ J;simp only [ak,reduceIte])))
   refine hJO _ _ (by simp [fi]) (by simp [fn]) ⟨by simp [f2],by simp [f3],by simp [f4],by simp [f6],by simp [f7],by simp [f14],by simp [f153],by simp [n3,n5,e1,e2,e3,e4,e5,e6,e7,e8,e9,e10,e11,e12,e13,e14,e15,e16,e17,e18,e19,hB],by simp [n3,n5,e1,e2,e3,e4,e5,e6,e7,e8,e9,e10,e11,e12,e13,e14,e15,e16,e17,e18,e19,hC],?_,s.next+1+1,by simp,by simp [n3,n5,e1,e2,e3,e4,e5,e6,e7,e8,e9,e10,e11,e12,e13,e14,e15,e16,e17,e18,e19,e18,e19],by omega,by simp⟩
   (repeat (first | exact hkp | (refine Keeps.trans ?_ (Keeps.new _ _)) | (refine Keeps.set ?_ (by first | omega | (simp;done) | (simp;omega)) _)))
  by_cases hja:j=ka
  ·have hbb:((j:Int)==(kb:Int))=false:=by rw [beq_eq_false_iff_ne];omega
   have hba:((j:Int)==(ka:Int))=true:=by rw [beq_iff_eq];omega
   rw [if_neg hjb,if_pos hja,nrm_length,ins_length] at hJO
   (repeat' (first | refine qS ?_ | (refine qC ?_;simp [f3,f4,f6,f7,f14,f153,fi,fn,hd,hlt,hbb,hba,hB,hw2,hw3,e6]) | (refine w_e [] ?_;intro J hJ;simp only [];simp [f3,f4,f6,f7,f14,f153,fi,fn,hd,hlt,hbb,hba,hB,hw2,hw3,e6];(try (refine hJ _ _ ?_;clear hJ J;simp only [ak,reduceIte])))))
   refine qE (refInsert' t [2 * id] pa _ _ _ hst (by simp [small]) (by simp;omega)) (by simp [us]<;>exact ⟨rfl,rfl⟩) ?_;rintro r s1 ⟨rfl,h7⟩
   rw [h7];clear h7 s1
   generalize nrm (ins t pa [2 * id])=NR at *
   (repeat' (first | refine qS ?_ | (refine qK ?_;simp only [ak,reduceIte]) | (refine qC ?_;simp [f7,f14,hbb,hD,hO,n3,n5,e1,e2,e3,e4,e5,e6,e7,e8,e9,e10,e11,e12,e13,e14,e15,e16,e17,e18,e19,hjl]) | ((first | (refine w_e [] ?_;intro J hJ;simp only []) | (refine e_go ?_));simp [f7,f14,hbb,hD,hO,n3,n5,e1,e2,e3,e4,e5,e6,e7,e8,e9,e10,e11,e12,e13,e14,e15,e16,e17,e18,e19,hjl];(repeat refine ca ?_);(refine hJ _ _ ?_;clear hJ J;simp only [ak,reduceIte]))))
   refine hJO _ _ (by simp [fi]) (by simp [fn]) ⟨by simp [f2],by simp [f3],by simp [f4],by simp [f6],by simp [f7],by simp [f14],by simp [f153],by simp [n3,n5,e1,e2,e3,e4,e5,e6,e7,e8,e9,e10,e11,e12,e13,e14,e15,e16,e17,e18,e19,hB],by simp [n3,n5,e1,e2,e3,e4,e5,e6,e7,e8,e9,e10,e11,e12,e13,e14,e15,e16,e17,e18,e19,hC],?_,s.next+1+1,by simp,by simp [n3,n5,e1,e2,e3,e4,e5,e6,e7,e8,e9,e10,e11,e12,e13,e14,e15,e16,e17,e18,e19,e18,e19],by omega,by simp⟩
   (repeat (first | exact hkp | (refine Keeps.trans ?_ (Keeps.new _ _)) | (refine Keeps.set ?_ (by first | omega | (simp;done) | (simp;omega)) _)))
  ·have hbb:((j:Int)==(kb:Int))=false:=by rw [beq_eq_false_iff_ne];omega
   have hba:((j:Int)==(ka:Int))=false:=by rw [beq_eq_false_iff_ne];omega
   rw [if_neg hjb,if_neg hja] at hJO
   (repeat' (first | refine qS ?_ | (refine qK ?_;simp only [ak,reduceIte]) | (refine qC ?_;simp [f3,f4,f6,f7,f14,f153,fi,fn,hd,hlt,hbb,hba,hB,hD,hO,e1,e2,e3,e4,e5,e6,e7,e8,hjl]) | (refine w_e [] ?_;intro J hJ;simp only [];simp [f3,f4,f6,f7,f14,f153,fi,fn,hd,hlt,hbb,hba,hB,hD,hO,e1,e2,e3,e4,e5,e6,e7,e8,hjl];(repeat refine ca ?_);(refine hJ _ _ ?_;clear hJ J;simp only [ak,reduceIte]))))
   refine hJO _ _ (by simp [fi]) (by simp [fn]) ⟨by simp [f2],by simp [f3],by simp [f4],by simp [f6],by simp [f7],by simp [f14],by simp [f153],by simp [n3,n5,e1,e2,e3,e4,e5,e6,e7,e8,e9,e10,e11,e12,e13,e14,e15,e16,e17,e18,e19,hB],by simp [n3,n5,e1,e2,e3,e4,e5,e6,e7,e8,e9,e10,e11,e12,e13,e14,e15,e16,e17,e18,e19,hC],?_,s.next+1,by simp,by simp [n3,n5,e1,e2,e3,e4,e5,e6,e7,e8,e9,e10,e11,e12,e13,e14,e15,e16,e17,e18,e19,e18,e19],by omega,by simp⟩
   (repeat (first | exact hkp | (refine Keeps.trans ?_ (Keeps.new _ _)) | (refine Keeps.set ?_ (by first | omega | (simp;done) | (simp;omega)) _)))
 ·rintro fr s ⟨f2,f3,f4,f6,f7,f14,f153,hB,hC,hkp,tr,hD,hO,l1,l2⟩
  rw [show R.take m.rots.length=R from List.take_of_length_le (by omega)] at hD
  (repeat' (first | refine qS ?_ | (refine qR ?_;simp only [ak,reduceIte];simp [f4,f14,hC,hD]) | (refine w_e [] ?_;intro J hJ;simp only [];simp [f4,f14,hC,hD];(refine hJ _ _ ?_;clear hJ J;simp only [ak,reduceIte]))))
  exact ⟨_,_,frz_tu (frzL_cons (frz_ag (frzL_cons (frz_same _ _) (frzL_cons (frz_same _ _) (frzL_cons (frz_tok _ _ _ _) (frzL_same _ []))))) (frzL_same _ _)),by rw [hRl],hkp.set (by omega) _⟩
theorem refLink (m:Mp) (s:Sp) (st:St) (hm:Drw m) (hid:1≤s.id∧s.id≤1048576) (h0:linkW m s=0):
 ACalls Tryz.prog 80 [.ag (mpL m),.ag (spL s)] st fun r st'=>r=.tu [.ag (mpL (linkM m ⟨s.id,s.a,s.b⟩ s.pa s.pb)),i 0]∧st'=st:=
 qT (Q:=fun r=>r=.tu [.ag (mpL (linkM m ⟨s.id,s.a,s.b⟩ s.pa s.pb)),i 0]) (acalls_frzR (refLinkK m s st hm hid h0)) fun r h=>by subst h;exact ⟨bel_mpL _ _,trivial,trivial⟩
end Go.Proofs.YtglkgindpjdoiaaGreat.Aw
