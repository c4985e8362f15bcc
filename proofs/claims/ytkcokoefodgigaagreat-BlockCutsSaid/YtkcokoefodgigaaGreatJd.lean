/- Graphs: the document's parts. -/
import Derived.Test.YtkcokoefodgigaaGreatJc
import Derived.Test.YtkcokoefodgigaaGreatAwTd
namespace Go.Proofs.YtkcokoefodgigaaGreat.Aw
open Go Go.RowKit Go.Proofs.YtkcokoefodgigaaGreat.Pl
set_option linter.unusedSimpArgs false
set_option linter.unusedVariables false
theorem acalls_sl0 {P:Program} {f:FuncId} {args:List LV} {st:St} {Q:LV→St→Prop} (h:ACalls P f args st fun r st'=>∃ t n cs,r=.sl t n cs∧Q (.sl 0 n cs) st'):ACalls P f args st Q:=by
 refine ⟨h.1,fun w g vs hi hr=>(h.2 w g vs hi hr).mono ?_⟩
 rintro x w' ⟨v,r,st',g',rfl,⟨t,n,cs,rfl,hq⟩,hrep,hi',he⟩
 refine ⟨v,_,st',g',rfl,hq,?_,hi',he⟩
 simp only [Rep] at hrep ⊢
 obtain ⟨A,cap,h1,h2,h3,h4,h5⟩:=hrep
 exact ⟨A,cap,h1,h2,h3,fun h=>absurd rfl h,h5⟩
def InI (es:List (List Int×LV)) (S:List Int):Prop:=∀ v,(mget es [v]).getD (bb false)=bb (decide (v∈S))
theorem InI.step {es:List (List Int×LV)} {S:List Int} (h:InI es S) (w:Int):InI (mset es [w] (bb true)) (S++[w]):=by
 intro v
 rw [mget_mset]
 by_cases hv:v=w
 ·subst hv;simp
 ·rw [if_neg (by simpa using hv),h v];simp [hv]
theorem InI.congr {es:List (List Int×LV)} {S S':List Int} (h:InI es S) (hs:∀ v,v∈S'↔v∈S):InI es S':=fun v=>by
 rw [h v,show decide (v∈S')=decide (v∈S) from decide_eq_decide.2 (hs v)]
structure Flood (g:Gr) (v:Int) (S:List Int):Prop where
 nodup:S.Nodup
 mem:v∈S
 reach:∀ w∈S,Reach g.es v w
theorem Flood.len {g:Gr} (hg:Good g) {v:Int} (hv:v∈g.vs) {S:List Int} (h:Flood g v S):S.length≤g.vs.length:=
 List.Nodup.length_le_of_subset h.nodup fun w hw=>hg.reach hv (h.reach w hw)
theorem Flood.push {g:Gr} {v:Int} {S:List Int} (h:Flood g v S) {x:Ed} (hx:x∈g.es) {u w:Int} (hu:u∈S) (hw:w∉S) (hxw:(x.a=u∧x.b=w)∨(x.b=u∧x.a=w)):Flood g v (S++[w]):=by
 refine ⟨?_,List.mem_append_left _ h.mem,fun z hz=>?_⟩
 ·rw [List.nodup_append]
  refine ⟨h.nodup,by simp,fun a ha b hb=>?_⟩
  rw [List.mem_singleton] at hb
  rintro rfl
  exact hw (hb ▸ ha)
 ·rw [List.mem_append,List.mem_singleton] at hz
  rcases hz with hz | rfl
  ·exact h.reach z hz
  ·exact .step (h.reach u hu) (mem_nbr.2 ⟨x,hx,hxw⟩)
def Even (es:List Ed) (S:List Int):Prop:=∀ x∈es,(x.a∈S↔x.b∈S)
theorem Flood.part {g:Gr} (hg:Good g) {v:Int} {S:List Int} (h:Flood g v S) (he:Even g.es S):IsPart g v (g.vs.filter fun w=>decide (w∈S)):=by
 refine ⟨hg.rise.filter _,fun w=>?_⟩
 rw [List.mem_filter,decide_eq_true_eq]
 refine ⟨fun hw=>⟨hw.1,h.reach w hw.2⟩,fun hw=>⟨hw.1,?_⟩⟩
 refine hw.2.closed (L:=fun w=>w∈S) h.mem fun u hu w hw=>?_
 obtain ⟨x,hx,⟨rfl,rfl⟩ | ⟨rfl,rfl⟩⟩:=mem_nbr.1 hw
 ·exact (he x hx).1 hu
 ·exact (he x hx).2 hu
def RpI (ms:Nat) (g:Gr) (st:St) (S:List Int) (fr:Frm) (st2:St):Prop:=
 fr 2=.pt st.next 0∧fr 5=.mp ms∧st.next < ms∧ms < st2.next∧Keeps st st2∧st2.H st.next=.box 25 2 (grL g)∧∃ es,st2.H ms=.map false [.u32] es∧InI es S
theorem RpI.fr {ms:Nat} {g:Gr} {st:St} {S:List Int} {fr fr':Frm} {st2:St} (h:RpI ms g st S fr st2) (h2:fr' 2=fr 2) (h5:fr' 5=fr 5):RpI ms g st S fr' st2:=
 ⟨h2.trans h.1,h5.trans h.2.1,h.2.2⟩
theorem ref_Part (g:Gr) (v:Int) (st:St) (hg:Good g) (hv:g.vs.length≤1000) (he:g.es.length≤1000) (hvin:v∈g.vs):
 ACalls Tryz.prog 69 [.ag (grL g),u v] st fun r st'=>(∃ c,r=.sl 0 c.length (us c)∧IsPart g v c)∧Keeps st st':=by
 refine acalls_sl0 ?_
 have hel:=eds_length g.es
 refine qO tabOk Tryz.func69 rfl rfl Tryz.ntmps69 (rs:=[.tmp 4]) rfl (by simp) ?_
 (repeat' (first | refine qS ?_ | refine qB ?_ | ((first | refine qK ?_ | refine qX ?_);simp only [ak,reduceIte]) | (refine qR ?_;simp only [ak,reduceIte];simp []) | (refine qC ?_;simp [];(try with_reducible refine ⟨?_,?_⟩)<;>(try with_reducible intro hc)<;>try (exfalso;omega)) | ((first | (refine w_e [] ?_;intro J hJ;simp only []) | (refine w_q ?_;intro J hJ) | refine e_go ?_);simp [];(repeat refine ca ?_);(try ((try with_reducible refine ⟨?_,?_⟩)<;>(try with_reducible intro hnil)<;>refine hJ _ _ ?_<;>clear hJ J<;>simp only [ak,reduceIte]<;>try subst hnil)))))
 obtain ⟨ms,hms⟩:∃ ms,ms=st.next+1:=⟨_,rfl⟩
 refine qL (fun z fr st2=>∃ (gr:Bool) (S:List Int),z=(if gr=true then g.vs.length+1 - S.length else 0)∧fr 6=bb gr∧Flood g v S∧(gr=false→Even g.es S)∧RpI ms g st S fr st2) g.vs.length ?_ ?_
 ·refine ⟨true,[v],by simp,by simp,⟨by simp,by simp,fun w hw=>?_⟩,fun h=>absurd h (by simp),by simp,by simp [hms],by omega,by simp [hms],?_,by simp,_,by simp [hms];rfl,fun w=>?_⟩
  ·rw [List.mem_singleton] at hw;subst hw;exact .refl
  ·(repeat (first | exact Keeps.refl _ | (refine Keeps.trans ?_ (Keeps.new _ _)) | (refine Keeps.set ?_ (by omega) _)))
  ·by_cases hw:w=v
   ·subst hw;simp [mset,mget]
   ·simp [mset,mget,hw]
 rintro z fr st2 ⟨gr,S,rfl,f6,hF,hE,hI⟩ JJ hJJ
 cases gr
 ·clear hJJ
  obtain ⟨f2,f5,hm1,hm2,hkp,hG,es,hM,hIn⟩:=hI
  have hpt:=hF.part hg (hE rfl)
  (repeat' (first | refine qS ?_ | refine qB ?_ | ((first | refine qK ?_ | refine qX ?_);simp only [ak,reduceIte]) | (refine qR ?_;simp only [ak,reduceIte];simp [f6,f2,hG]) | (refine qC ?_;simp [f6,f2,hG];(try with_reducible refine ⟨?_,?_⟩)<;>(try with_reducible intro hc)<;>try (exfalso;omega)) | ((first | (refine w_e [] ?_;intro J hJ;simp only []) | (refine w_q ?_;intro J hJ) | refine e_go ?_);simp [f6,f2,hG];(repeat refine ca ?_);(try ((try with_reducible refine ⟨?_,?_⟩)<;>(try with_reducible intro hnil)<;>refine hJ _ _ ?_<;>clear hJ J<;>simp only [ak,reduceIte]<;>try subst hnil)))))
  refine awp_own 9 32 1 (by simp) ?_
  have hqq:∀ k,(g.vs.take (k+1)).filter (fun w=>decide (w∈S))=if k < g.vs.length then (if g.vs.getD k 0∈S then (g.vs.take k).filter (fun w=>decide (w∈S))++[g.vs.getD k 0] else (g.vs.take k).filter (fun w=>decide (w∈S))) else g.vs.filter (fun w=>decide (w∈S)):=by
   intro k
   by_cases hk:k < g.vs.length
   ·rw [if_pos hk,List.take_succ_eq_append_getElem hk,List.filter_append,getD_lt _ _ hk]
    by_cases h:g.vs[k]∈S<;>simp [h]
   ·rw [if_neg hk,List.take_of_length_le (by omega)]
  refine qL (fun z fr st3=>∃ k:Nat,k≤g.vs.length∧z=g.vs.length - k∧fr 5=.mp ms∧fr 40=.sl 0 g.vs.length (us g.vs)∧fr 41=i g.vs.length∧fr 42=i k∧st3.H ms=.map false [.u32] es∧ms < st3.next∧∃ t,fr 9=.sl t ((g.vs.take k).filter fun w=>decide (w∈S)).length (us ((g.vs.take k).filter fun w=>decide (w∈S)))∧OwnAt t st ((g.vs.take k).filter fun w=>decide (w∈S)) st3) g.vs.length ?_ ?_
  ·have a1:¬ ms=st2.next:=by omega
   exact ⟨0,by omega,by omega,by simp [f5],by simp,by simp,by simp,by simp [a1,hM],by simp;omega,st2.next,by simp,by omega,by have:=hkp.next;omega,by simp,by simp,hkp.trans (Keeps.new _ _)⟩
  clear f2 f5 f6 hM hkp hG fr
  rintro z fr st3 ⟨k,hk,rfl,f5,f40,f41,f42,hM,hm3,t,f9,ht0,htl,htn,htH,hkp⟩ JJ hJJ
  by_cases hlt:k < g.vs.length
  rotate_left
  ·clear hJJ
   have hk':k=g.vs.length:=by omega
   rw [hk',List.take_length] at f9
   (repeat' (first | refine qS ?_ | refine qB ?_ | ((first | refine qK ?_ | refine qX ?_);simp only [ak,reduceIte]) | (refine qR ?_;simp only [ak,reduceIte];simp [f9,f41,f42,hlt]) | (refine qC ?_;simp [f9,f41,f42,hlt];(try with_reducible refine ⟨?_,?_⟩)<;>(try with_reducible intro hc)<;>try (exfalso;omega)) | ((first | (refine w_e [] ?_;intro J hJ;simp only []) | (refine w_q ?_;intro J hJ) | refine e_go ?_);simp [f9,f41,f42,hlt];(repeat refine ca ?_);(try ((try with_reducible refine ⟨?_,?_⟩)<;>(try with_reducible intro hnil)<;>refine hJ _ _ ?_<;>clear hJ J<;>simp only [ak,reduceIte]<;>try subst hnil)))))
   exact ⟨t,_,_,⟨rfl,rfl,rfl⟩,⟨_,⟨rfl,rfl⟩,hpt⟩,hkp⟩
  have hd:=qG g.vs k hlt
  have hw:=qN k (by omega)
  have hst:=hqq k
  rw [if_pos hlt] at hst
  have hle:=List.length_filter_le (fun w=>decide (w∈S)) (g.vs.take k)
  rw [List.length_take] at hle
  generalize hx:g.vs.getD k 0=x at *
  generalize hFF:(g.vs.take k).filter (fun w=>decide (w∈S))=F at *
  have hIx:=hIn x
  have ht2:¬ t=st3.next:=by omega
  by_cases hxS:x∈S
  ·rw [if_pos hxS] at hst
   rw [decide_eq_true hxS] at hIx
   (repeat' (first | refine qS ?_ | refine qB ?_ | ((first | refine qK ?_ | refine qX ?_);simp only [ak,reduceIte]) | (refine qR ?_;simp only [ak,reduceIte];simp [f5,f9,f40,f41,f42,hlt,hd,hw,hM,hIx,htH,ht0,ht2]) | (refine qC ?_;simp [f5,f9,f40,f41,f42,hlt,hd,hw,hM,hIx,htH,ht0,ht2];(try with_reducible refine ⟨?_,?_⟩)<;>(try with_reducible intro hc)<;>try (exfalso;omega)) | ((first | (refine w_e [] ?_;intro J hJ;simp only []) | (refine w_q ?_;intro J hJ) | refine e_go ?_);simp [f5,f9,f40,f41,f42,hlt,hd,hw,hM,hIx,htH,ht0,ht2];(repeat refine ca ?_);(try ((try with_reducible refine ⟨?_,?_⟩)<;>(try with_reducible intro hnil)<;>refine hJ _ _ ?_<;>clear hJ J<;>simp only [ak,reduceIte]<;>try subst hnil)))))
   have a1:¬ ms=st3.next:=by omega
   have a2:¬ ms=st3.next+1:=by omega
   have a3:¬ ms=t:=fun h=>by rw [h,htH] at hM;cases hM
   exact hJJ (g.vs.length - (k+1)) _ _ (by omega) ⟨k+1,by omega,rfl,by simp [f5],by simp [f40],by simp [f41],by simp,by simp [a1,a2,a3,hM],by simp;omega,st3.next+1,by rw [hst];simp,by omega,by omega,by simp,by rw [hst];simp,(by repeat (first | exact hkp | (refine Keeps.trans ?_ (Keeps.new _ _)) | (refine Keeps.set ?_ (by have:=hkp.next;omega) _)))⟩
  ·rw [if_neg hxS] at hst
   rw [decide_eq_false hxS] at hIx
   (repeat' (first | refine qS ?_ | refine qB ?_ | ((first | refine qK ?_ | refine qX ?_);simp only [ak,reduceIte]) | (refine qR ?_;simp only [ak,reduceIte];simp [f5,f9,f40,f41,f42,hlt,hd,hw,hM,hIx]) | (refine qC ?_;simp [f5,f9,f40,f41,f42,hlt,hd,hw,hM,hIx];(try with_reducible refine ⟨?_,?_⟩)<;>(try with_reducible intro hc)<;>try (exfalso;omega)) | ((first | (refine w_e [] ?_;intro J hJ;simp only []) | (refine w_q ?_;intro J hJ) | refine e_go ?_);simp [f5,f9,f40,f41,f42,hlt,hd,hw,hM,hIx];(repeat refine ca ?_);(try ((try with_reducible refine ⟨?_,?_⟩)<;>(try with_reducible intro hnil)<;>refine hJ _ _ ?_<;>clear hJ J<;>simp only [ak,reduceIte]<;>try subst hnil)))))
   exact hJJ (g.vs.length - (k+1)) _ _ (by omega) ⟨k+1,by omega,rfl,by simp [f5],by simp [f40],by simp [f41],by simp,hM,hm3,t,by rw [hst];simp [f9],ht0,htl,htn,by rw [hst];exact htH,hkp⟩
 have hSl:=hF.len hg hvin
 obtain ⟨f2,f5,hm1,hm2,hkp,hG,es,hM,hIn⟩:=id hI
 (repeat' (first | refine qS ?_ | refine qB ?_ | ((first | refine qK ?_ | refine qX ?_);simp only [ak,reduceIte]) | (refine qR ?_;simp only [ak,reduceIte];simp [f6,f2,hG]) | (refine qC ?_;simp [f6,f2,hG];(try with_reducible refine ⟨?_,?_⟩)<;>(try with_reducible intro hc)<;>try (exfalso;omega)) | ((first | (refine w_e [] ?_;intro J hJ;simp only []) | (refine w_q ?_;intro J hJ) | refine e_go ?_);simp [f6,f2,hG];(repeat refine ca ?_);(try ((try with_reducible refine ⟨?_,?_⟩)<;>(try with_reducible intro hnil)<;>refine hJ _ _ ?_<;>clear hJ J<;>simp only [ak,reduceIte]<;>try subst hnil)))))
 refine qL (fun z fr st2=>∃ (k:Nat) (gr:Bool) (S':List Int),k≤g.es.length∧z=g.es.length - k∧fr 6=bb gr∧fr 17=.sl 0 g.es.length (eds g.es)∧fr 18=i g.es.length∧fr 19=i k∧Flood g v S'∧(gr=false→Even (g.es.take k) S')∧(gr=true→S.length < S'.length)∧S.length≤S'.length∧RpI ms g st S' fr st2) g.es.length ?_ ?_
 ·exact ⟨0,false,S,by omega,by omega,by simp,by simp,by simp,by simp,hF,fun _ x hx=>by simp at hx,fun h=>absurd h (by simp),Nat.le_refl _,hI.fr (by simp) (by simp)⟩
 clear f2 f5 f6 hI hE hF hm1 hm2 hkp hG hM hIn es fr st2
 rintro z fr st2 ⟨k,gr,S',hk,rfl,f6,f17,f18,f19,hF,hE,hG2,hSS,hI⟩ J2 hJ2
 have hSl2:=hF.len hg hvin
 obtain ⟨f2,f5,hm1,hm2,hkp,hG,es,hM,hIn⟩:=id hI
 by_cases hlt:k < g.es.length
 rotate_left
 ·clear hJ2
  have hk':k=g.es.length:=by omega
  rw [hk',List.take_length] at hE
  (repeat' (first | refine qS ?_ | refine qB ?_ | ((first | refine qK ?_ | refine qX ?_);simp only [ak,reduceIte]) | (refine qR ?_;simp only [ak,reduceIte];simp [f18,f19,hlt]) | (refine qC ?_;simp [f18,f19,hlt];(try with_reducible refine ⟨?_,?_⟩)<;>(try with_reducible intro hc)<;>try (exfalso;omega)) | ((first | (refine w_e [] ?_;intro J hJ;simp only []) | (refine w_q ?_;intro J hJ) | refine e_go ?_);simp [f18,f19,hlt];(repeat refine ca ?_);(try ((try with_reducible refine ⟨?_,?_⟩)<;>(try with_reducible intro hnil)<;>refine hJ _ _ ?_<;>clear hJ J<;>simp only [ak,reduceIte]<;>try subst hnil)))))
  refine hJJ (if gr=true then g.vs.length+1 - S'.length else 0) _ _ ?_ ⟨gr,S',rfl,by simp [f6],hF,hE,hI.fr (by simp) (by simp)⟩
  cases gr
  ·simp;omega
  ·have:=hG2 rfl;simp;omega
 clear hJJ
 have hd:=eds_drop g.es k hlt
 have hw:=qN k (by omega)
 have hk3:k * 3 < g.es.length * 3:=by omega
 have hxin:g.es.getD k ed0∈g.es:=by rw [List.getD_eq_getElem?_getD,List.getElem?_eq_getElem hlt];exact List.getElem_mem hlt
 have hEn:(gr=false→Even (g.es.take k) S')→((g.es.getD k ed0).a∈S'↔(g.es.getD k ed0).b∈S')→(gr=false→Even (g.es.take (k+1)) S'):=by
  intro h1 h2 h3 y hy
  rw [List.take_succ_eq_append_getElem hlt,List.mem_append,List.mem_singleton] at hy
  rcases hy with hy | rfl
  ·exact h1 h3 y hy
  ·rw [List.getD_eq_getElem?_getD,List.getElem?_eq_getElem hlt] at h2;exact h2
 generalize hx:g.es.getD k ed0=x at *
 obtain ⟨id,a,b⟩:=x
 simp only at hd hEn
 have hIa:=hIn a
 have hIb:=hIn b
 have a1:¬ ms=st2.next:=by omega
 have a2:¬ st2.next=ms:=by omega
 have a3:¬ st.next=st2.next:=by omega
 have a4:¬ st.next=ms:=by omega
 by_cases hab:(a∈S'↔b∈S')
 ·have hdd:decide (a∈S')=decide (b∈S'):=decide_eq_decide.2 hab
  rw [hdd] at hIa
  (repeat' (first | refine qS ?_ | refine qB ?_ | ((first | refine qK ?_ | refine qX ?_);simp only [ak,reduceIte]) | (refine qR ?_;simp only [ak,reduceIte];simp [f5,f17,f18,f19,hlt,hd,hel,hw,hM,hIa,hIb,a1,a2]) | (refine qC ?_;simp [f5,f17,f18,f19,hlt,hd,hel,hw,hM,hIa,hIb,a1,a2];(try with_reducible refine ⟨?_,?_⟩)<;>(try with_reducible intro hc)<;>try (exfalso;omega)) | ((first | (refine w_e [] ?_;intro J hJ;simp only []) | (refine w_q ?_;intro J hJ) | refine e_go ?_);simp [f5,f17,f18,f19,hlt,hd,hel,hw,hM,hIa,hIb,a1,a2];(repeat refine ca ?_);(try ((try with_reducible refine ⟨?_,?_⟩)<;>(try with_reducible intro hnil)<;>refine hJ _ _ ?_<;>clear hJ J<;>simp only [ak,reduceIte]<;>try subst hnil)))))
  exact hJ2 (g.es.length - (k+1)) _ _ (by omega) ⟨k+1,gr,S',by omega,rfl,by simp [f6],by simp [f17],by simp [f18],by simp,hF,hEn hE hab,hG2,hSS,by simp [f2],by simp [f5],hm1,by simp;omega,(by repeat (first | exact hkp | (refine Keeps.trans ?_ (Keeps.new _ _)) | (refine Keeps.set ?_ (by have:=hkp.next;omega) _))),by simp [a3,hG],es,by simp [a1,hM],hIn⟩
 ·have hdd:¬ decide (a∈S')=decide (b∈S'):=fun h=>hab (decide_eq_decide.1 h)
  have hIn2:=(hIn.step a).step b
  obtain ⟨S2,hS2,hF2,hl2⟩:∃ S2,(∀ z,z∈S2↔z∈S'++[a]++[b])∧Flood g v S2∧S'.length < S2.length:=by
   by_cases ha:a∈S'
   ·have hb:b∉S':=fun h=>hab ⟨fun _=>h,fun _=>ha⟩
    refine ⟨S'++[b],fun z=>?_,hF.push hxin ha hb (.inl ⟨rfl,rfl⟩),by simp⟩
    simp only [List.mem_append,List.mem_singleton]
    exact ⟨fun h=>h.elim (fun h=>.inl (.inl h)) .inr,fun h=>h.elim (fun h=>h.elim .inl (fun h=>.inl (h ▸ ha))) .inr⟩
   ·have hb:b∈S':=Classical.byContradiction fun h=>hab ⟨fun h1=>absurd h1 ha,fun h1=>absurd h1 h⟩
    refine ⟨S'++[a],fun z=>?_,hF.push hxin hb ha (.inr ⟨rfl,rfl⟩),by simp⟩
    simp only [List.mem_append,List.mem_singleton]
    exact ⟨fun h=>h.elim (fun h=>.inl (.inl h)) (fun h=>.inl (.inr h)),fun h=>h.elim (fun h=>h.elim .inl .inr) (fun h=>.inl (h ▸ hb))⟩
  have hIn3:=hIn2.congr hS2
  (repeat' (first | refine qS ?_ | refine qB ?_ | ((first | refine qK ?_ | refine qX ?_);simp only [ak,reduceIte]) | (refine qR ?_;simp only [ak,reduceIte];simp [f5,f17,f18,f19,hlt,hd,hel,hw,hM,hIa,hIb,hdd,a1,a2]) | (refine qC ?_;simp [f5,f17,f18,f19,hlt,hd,hel,hw,hM,hIa,hIb,hdd,a1,a2];(try with_reducible refine ⟨?_,?_⟩)<;>(try with_reducible intro hc)<;>try (exfalso;omega)) | ((first | (refine w_e [] ?_;intro J hJ;simp only []) | (refine w_q ?_;intro J hJ) | refine e_go ?_);simp [f5,f17,f18,f19,hlt,hd,hel,hw,hM,hIa,hIb,hdd,a1,a2];(repeat refine ca ?_);(try ((try with_reducible refine ⟨?_,?_⟩)<;>(try with_reducible intro hnil)<;>refine hJ _ _ ?_<;>clear hJ J<;>simp only [ak,reduceIte]<;>try subst hnil)))))
  exact hJ2 (g.es.length - (k+1)) _ _ (by omega) ⟨k+1,true,S2,by omega,rfl,by simp,by simp [f17],by simp [f18],by simp,hF2,fun h=>absurd h (by simp),fun _=>by omega,by omega,by simp [f2],by simp [f5],hm1,by simp;omega,(by repeat (first | exact hkp | (refine Keeps.trans ?_ (Keeps.new _ _)) | (refine Keeps.set ?_ (by have:=hkp.next;omega) _))),by simp [a3,a4,hG],_,by simp,hIn3⟩
theorem firstNZ_all {f:Nat→Int} {n:Nat} (h:firstNZ f n=0):∀ j,j < n→f j=0:=by
 induction n with
 | zero=>intro j hj;omega
 | succ n ih=>
   intro j hj
   simp only [firstNZ] at h
   by_cases h0:firstNZ f n=0
   ·rw [if_neg (by simp [h0])] at h
    rcases Nat.lt_or_ge j n with h1 | h1
    ·exact ih h0 j h1
    ·obtain rfl:j=n:=by omega
     exact h
   ·rw [if_pos h0] at h;exact absurd h h0
theorem numb_zero {n a:Int} {b:Bool} (h:numb n a b=0):1≤n∧n≤1048576∧(b=false→a < n):=by
 unfold numb at h
 by_cases h1:n < 1∨1048576 < n
 ·rw [if_pos h1] at h;cases h
 ·rw [if_neg h1] at h
  by_cases h2:b=false∧n≤a
  ·rw [if_pos h2] at h;cases h
  ·refine ⟨by omega,by omega,fun hb=>?_⟩
   rcases Int.lt_or_le a n with h3 | h3
   ·exact h3
   ·exact absurd ⟨hb,h3⟩ h2
theorem rise_of {l:List Int} (h:∀ j,j < l.length→0 < j→l.getD (j - 1) 0 < l.getD j 0):l.Pairwise (· < ·):=by
 rw [List.pairwise_iff_getElem]
 intro a b ha hb hab
 induction b with
 | zero=>omega
 | succ b ih=>
   have h1:=h (b+1) hb (by omega)
   rw [Nat.add_sub_cancel,getD_lt _ _ hb,getD_lt _ _ (by omega)] at h1
   rcases Nat.lt_or_ge a b with h2 | h2
   ·have:=ih (by omega) h2;omega
   ·obtain rfl:a=b:=by omega
    exact h1
theorem chk_good {g:Gr} (h:chk g=0):Good g∧idOk g.es∧g.vs.length≤64∧g.es.length≤160:=by
 unfold chk at h
 by_cases h1:64 < g.vs.length∨160 < g.es.length
 ·rw [if_pos h1] at h;cases h
 ·rw [if_neg h1] at h
  by_cases h2:firstNZ (badV g) g.vs.length=0
  ·rw [if_neg (by simp [h2])] at h
   have hV:=firstNZ_all h2
   have hE:=firstNZ_all h
   have hEx:∀ j,j < g.es.length→(1≤(g.es.getD j ed0).id∧(g.es.getD j ed0).id≤1048576)∧(g.es.getD j ed0).a∈g.vs∧(g.es.getD j ed0).b∈g.vs:=by
    intro j hj
    have:=hE j hj
    unfold badE at this
    simp only at this
    by_cases h3:numb (g.es.getD j ed0).id (g.es.getD (j - 1) ed0).id (decide (j=0))=0
    ·rw [if_neg (fun h=>h h3)] at this
     by_cases h4:(g.es.getD j ed0).a=(g.es.getD j ed0).b
     ·rw [if_pos h4] at this;cases this
     ·rw [if_neg h4] at this
      by_cases h5:(g.es.getD j ed0).a∉g.vs∨(g.es.getD j ed0).b∉g.vs
      ·rw [if_pos h5] at this;cases this
      ·have h6:=numb_zero h3
       refine ⟨⟨h6.1,h6.2.1⟩,?_,?_⟩
       ·exact Classical.byContradiction fun h=>h5 (.inl h)
       ·exact Classical.byContradiction fun h=>h5 (.inr h)
    ·rw [if_pos h3] at this;exact absurd this h3
   have hget:∀ x∈g.es,∃ j,j < g.es.length∧g.es.getD j ed0=x:=by
    intro x hx
    obtain ⟨j,hj,rfl⟩:=List.getElem_of_mem hx
    exact ⟨j,hj,by rw [List.getD_eq_getElem?_getD,List.getElem?_eq_getElem hj];rfl⟩
   refine ⟨⟨rise_of fun j hj h0=>?_,fun x hx=>?_⟩,fun x hx=>?_,by omega,by omega⟩
   ·have:=(numb_zero (hV j hj)).2.2 (by simp;omega)
    exact this
   ·obtain ⟨j,hj,rfl⟩:=hget x hx
    exact (hEx j hj).2
   ·obtain ⟨j,hj,rfl⟩:=hget x hx
    have:=(hEx j hj).1;omega
  ·rw [if_pos h2] at h;exact absurd h h2
end Go.Proofs.YtkcokoefodgigaaGreat.Aw
namespace Go.Proofs.YtkcokoefodgigaaGreat.Aw
open Go Go.RowKit Go.Proofs.YtkcokoefodgigaaGreat.Pl Go.Proofs.YtkcokoefodgigaaGreat.Eu
set_option linter.unusedSimpArgs false
set_option linter.unusedVariables false
structure GoodE (g:Gr):Prop extends Good g where
 ids:g.es.Pairwise (fun x y=>x.id < y.id)
 pos:∀ x∈g.es,1≤x.id∧x.id≤1048576
 ne:∀ x∈g.es,x.a≠x.b
theorem getE_lt (l:List Ed) (j:Nat) (hj:j < l.length):l.getD j ed0=l[j]:=by
 rw [List.getD_eq_getElem?_getD,List.getElem?_eq_getElem hj];rfl
theorem chk_goodE {g:Gr} (h:chk g=0):GoodE g:=by
 obtain ⟨hg,_,_,_⟩:=chk_good h
 unfold chk at h
 by_cases h1:64 < g.vs.length∨160 < g.es.length
 ·rw [if_pos h1] at h;cases h
 rw [if_neg h1] at h
 by_cases h2:firstNZ (badV g) g.vs.length=0
 ·rw [if_neg (by simp [h2])] at h
  have hE:=firstNZ_all h
  have hEx:∀ j,j < g.es.length→((1≤(g.es.getD j ed0).id∧(g.es.getD j ed0).id≤1048576)∧(0 < j→(g.es.getD (j - 1) ed0).id < (g.es.getD j ed0).id))∧(g.es.getD j ed0).a≠(g.es.getD j ed0).b:=by
   intro j hj
   have:=hE j hj
   unfold badE at this
   simp only at this
   by_cases h3:numb (g.es.getD j ed0).id (g.es.getD (j - 1) ed0).id (decide (j=0))=0
   ·rw [if_neg (fun h=>h h3)] at this
    by_cases h4:(g.es.getD j ed0).a=(g.es.getD j ed0).b
    ·rw [if_pos h4] at this;cases this
    ·have h6:=numb_zero h3
     exact ⟨⟨⟨h6.1,h6.2.1⟩,fun h0=>h6.2.2 (by simp;omega)⟩,h4⟩
   ·rw [if_pos h3] at this;exact absurd this h3
  have hget:∀ x∈g.es,∃ j,j < g.es.length∧g.es.getD j ed0=x:=by
   intro x hx
   obtain ⟨j,hj,rfl⟩:=List.getElem_of_mem hx
   exact ⟨j,hj,getE_lt _ _ hj⟩
  refine ⟨hg,?_,fun x hx=>?_,fun x hx=>?_⟩
  ·rw [List.pairwise_iff_getElem]
   intro a b ha hb hab
   induction b with
   | zero=>omega
   | succ b ih=>
     have h1:=(hEx (b+1) hb).1.2 (by omega)
     rw [Nat.add_sub_cancel,getE_lt _ _ hb,getE_lt _ _ (by omega)] at h1
     rcases Nat.lt_or_ge a b with h2 | h2
     ·have:=ih (by omega) h2;omega
     ·obtain rfl:a=b:=by omega
      exact h1
  ·obtain ⟨j,hj,rfl⟩:=hget x hx
   exact (hEx j hj).1.1
  ·obtain ⟨j,hj,rfl⟩:=hget x hx
   exact (hEx j hj).2
 ·rw [if_pos h2] at h;exact absurd h h2
def okTurn (es:List Ed) (v:Int) (t:List Int):Prop:=t.Perm (ends es v)∧nrm t=t
structure MapOk (m:Mp):Prop where
 g:GoodE m.g
 len:m.rots.length=m.g.vs.length
 ok:∀ k,k < m.g.vs.length→okTurn m.g.es (m.g.vs.getD k 0) (m.rots.getD k [])
section
variable {m:Mp} (h:MapOk m)
include h
end
section
variable {m:Mp} (h:MapOk m)
include h
end
section
variable {m:Mp} (h:MapOk m)
include h
end
def oth (x:Ed) (v:Int):Int:=if x.a=v then x.b else x.a
abbrev eAt (es:List Ed) (i:Nat):Ed:=es.getD i ed0
def atP (es:List Ed) (v:Int):List Nat:=(List.range es.length).filter fun i=>decide ((eAt es i).a=v∨(eAt es i).b=v)
structure Bw where
 vis:List Int
 low:List Int
 stk:List Nat
 out:List (List Nat)
def nmW (V:List Int) (v:Int):Int:=if v∈V then (V.idxOf v:Int)+1 else 0
def lwW (s:Bw) (v:Int):Int:=s.low.getD (s.vis.idxOf v) 0
def setW (s:Bw) (v x:Int):Bw:={ s with low:=s.low.set (s.vis.idxOf v) x }
def pushW (s:Bw) (i:Nat):Bw:={ s with stk:=s.stk++[i] }
def lastP (l:List Nat) (i:Nat):Nat:=l.length - 1 - l.reverse.idxOf i
def blkW (n:Nat) (seg:List Nat):List Nat:=(List.range n).filter fun i=>decide (i∈seg)
def cutW (n:Nat) (s:Bw) (i:Nat):Option Bw:=if i∈s.stk then some { s with stk:=s.stk.take (lastP s.stk i),out:=s.out++[blkW n (s.stk.drop (lastP s.stk i))] } else none
def goB (f:Bw→Nat→Option Bw):List Nat→Bw→Option Bw
 | [],s=>some s
 | i::l,s=>(f s i).bind (goB f l)
def lowB (n:Nat) (v mine:Int) (i:Nat) (u:Int) (s1:Bw):Option Bw:=
 if mine≤lwW s1 u then cutW n (setW s1 v (min (lwW s1 v) (lwW s1 u))) i else some (setW s1 v (min (lwW s1 v) (lwW s1 u)))
def stepB (rec:Int→Int→Bw→Option Bw) (es:List Ed) (v by_ mine:Int) (s:Bw) (i:Nat):Option Bw:=
 if (i:Int)=by_ then some s
 else if oth (eAt es i) v∈s.vis then
  (if nmW s.vis (oth (eAt es i) v) < mine then some (setW (pushW s i) v (min (lwW s v) (nmW s.vis (oth (eAt es i) v)))) else some s)
 else (rec (oth (eAt es i) v) i (pushW s i)).bind (lowB es.length v mine i (oth (eAt es i) v))
def newW (s:Bw) (v:Int):Bw:={ s with vis:=s.vis++[v],low:=s.low++[(s.vis.length:Int)+1] }
def visF (es:List Ed):Nat→Int→Int→Bw→Option Bw
 | 0,_,_,_=>none
 | n+1,v,by_,s=>goB (stepB (visF es n) es v by_ ((s.vis.length:Int)+1)) (atP es v) (newW s v)
def allB (es:List Ed) (n:Nat):List Int→Bw→Option Bw
 | [],s=>some s
 | v::l,s=>if v∈s.vis then allB es n l s else (visF es n v (-1) s).bind (allB es n l)
inductive RIn (es:List Ed) (S:Int→Prop) (x:Int):Int→Prop
 | refl (h:S x):RIn es S x x
 | step {y z:Int} (h:RIn es S x y) (hz:z∈nbr es y) (hs:S z):RIn es S x z
theorem RIn.here {es:List Ed} {S:Int→Prop} {x y:Int} (h:RIn es S x y):S x∧S y:=by
 induction h with
 | refl h=>exact ⟨h,h⟩
 | step _ _ hs ih=>exact ⟨ih.1,hs⟩
theorem RIn.trans {es:List Ed} {S:Int→Prop} {x y z:Int} (h:RIn es S x y) (k:RIn es S y z):RIn es S x z:=by
 induction k with
 | refl=>exact h
 | step _ hz hs ih=>exact .step ih hz hs
theorem RIn.symm {es:List Ed} {S:Int→Prop} {x y:Int} (h:RIn es S x y):RIn es S y x:=by
 induction h with
 | refl h=>exact .refl h
 | step h hz hs ih=>exact (RIn.step (.refl hs) (nbr_symm hz) h.here.2).trans ih
theorem RIn.mono {es:List Ed} {S S':Int→Prop} {x y:Int} (h:RIn es S x y) (hS:∀ z,S z→S' z):RIn es S' x y:=by
 induction h with
 | refl h=>exact .refl (hS _ h)
 | step _ hz hs ih=>exact .step ih hz (hS _ hs)
theorem RIn.closed {es:List Ed} {S L:Int→Prop} {x y:Int} (h:RIn es S x y) (hx:L x) (hc:∀ z,L z→∀ w∈nbr es z,S w→L w):L y:=by
 induction h with
 | refl=>exact hx
 | step h hz hs ih=>exact hc _ ih _ hz hs
def RingAt (es:List Ed) (w:Int) (x y:Ed):Prop:=(x.a=w∨x.b=w)∧(y.a=w∨y.b=w)∧RIn es (·≠w) (oth x w) (oth y w)
def RingE (es:List Ed) (x y:Ed):Prop:=∃ w,RingAt es w x y
theorem RingE.symm {es:List Ed} {x y:Ed}:RingE es x y→RingE es y x:=fun ⟨w,h1,h2,h3⟩=>⟨w,h2,h1,h3.symm⟩
inductive RelB (es:List Ed) (i:Nat):Nat→Prop
 | refl:RelB es i i
 | step {j k:Nat} (h:RelB es i j) (hj:j < es.length) (hk:k < es.length) (hr:RingE es (eAt es j) (eAt es k)):RelB es i k
theorem RelB.trans {es:List Ed} {i j k:Nat} (h:RelB es i j) (h2:RelB es j k):RelB es i k:=by
 induction h2 with
 | refl=>exact h
 | step _ hj hk hr ih=>exact .step ih hj hk hr
theorem RelB.symm {es:List Ed} {i j:Nat} (h:RelB es i j):RelB es j i:=by
 induction h with
 | refl=>exact .refl
 | step _ hj hk hr ih=>exact (RelB.step .refl hk hj hr.symm).trans ih
structure BlkOk (es:List Ed) (B:List Nat):Prop where
 ne:B≠[]
 rise:B.Pairwise (· < ·)
 lt:∀ i∈B,i < es.length
 rel:∀ i∈B,∀ j∈B,RelB es i j
 all:∀ i∈B,∀ j,j < es.length→RingE es (eAt es i) (eAt es j)→j∈B
theorem BlkOk.iff {es:List Ed} {B:List Nat} (h:BlkOk es B) {i j:Nat} (hi:i∈B):j∈B↔RelB es i j:=by
 refine ⟨h.rel i hi j,fun hr=>?_⟩
 induction hr with
 | refl=>exact hi
 | step _ _ hk hr ih=>exact h.all _ ih _ hk hr
theorem atP_mem {es:List Ed} {v:Int} {i:Nat}:i∈atP es v↔i < es.length∧((eAt es i).a=v∨(eAt es i).b=v):=by
 unfold atP;rw [List.mem_filter,List.mem_range,decide_eq_true_iff]
theorem eAt_mem {es:List Ed} {i:Nat} (h:i < es.length):eAt es i∈es:=by
 unfold eAt;rw [getE_lt _ _ h];exact List.getElem_mem _
theorem oth_oth {x:Ed} {v:Int} (h:x.a=v∨x.b=v):oth x (oth x v)=v:=by
 unfold oth
 rcases h with h | h
 ·rw [if_pos h];split<;>omega
 ·split
  ·split<;>omega
  ·rw [if_pos rfl,h]
theorem oth_end (x:Ed) (v:Int):x.a=oth x v∨x.b=oth x v:=by
 unfold oth;split
 ·exact .inr rfl
 ·exact .inl rfl
theorem oth_ne {x:Ed} {v:Int} (h:x.a≠x.b) (hv:x.a=v∨x.b=v):oth x v≠v:=by
 unfold oth;split<;>omega
theorem ends_oth {x:Ed} {v:Int} (hv:x.a=v∨x.b=v) (c:Int):(x.a=c∨x.b=c)↔(c=v∨c=oth x v):=by
 unfold oth;split<;>omega
theorem oth_nbr {es:List Ed} {i:Nat} {v:Int} (h:i∈atP es v):oth (eAt es i) v∈nbr es v:=by
 obtain ⟨h1,h2⟩:=atP_mem.1 h
 rw [mem_nbr]
 refine ⟨_,eAt_mem h1,?_⟩
 unfold oth
 split
 ·exact .inl ⟨by assumption,rfl⟩
 ·refine .inr ⟨by omega,rfl⟩
theorem nbr_atP {es:List Ed} {v w:Int} (h:w∈nbr es v):∃ i∈atP es v,oth (eAt es i) v=w:=by
 rw [mem_nbr] at h
 obtain ⟨x,hx,h⟩:=h
 obtain ⟨i,hi,rfl⟩:=List.getElem_of_mem hx
 have e:eAt es i=es[i]:=getE_lt _ _ hi
 refine ⟨i,atP_mem.2 ⟨hi,by rw [e];omega⟩,?_⟩
 unfold oth
 rw [e]
 split<;>omega
theorem atP_oth {es:List Ed} {i:Nat} {v:Int} (h:i∈atP es v):i∈atP es (oth (eAt es i) v):=atP_mem.2 ⟨(atP_mem.1 h).1,oth_end _ _⟩
structure BPre (g:Gr) (A:Int→Prop) (s:Bw) (v by_:Int):Prop where
 ln:s.low.length=s.vis.length
 nd:s.vis.Nodup
 act:∀ a,A a→a∈s.vis
 fin:∀ w∈s.vis,¬ A w→∀ i∈atP g.es w,oth (eAt g.es i) w∈s.vis
 new:v∉s.vis
 con:∀ a b,A a→A b→RIn g.es A a b
 par:(by_ = -1∧∀ a,¬ A a)∨∃ i:Nat,by_=i∧i∈atP g.es v∧A (oth (eAt g.es i) v)
structure BPost (g:Gr) (s:Bw) (v by_:Int) (s1:Bw) (C:List Int) (T:List Nat) (N:List (List Nat)):Prop where
 vis:s1.vis=s.vis++C
 hd:v∈C
 nd:s1.vis.Nodup
 ln:s1.low.length=s1.vis.length
 low:∀ w∈s.vis,lwW s1 w=lwW s w
 clo:∀ c∈C,∀ i∈atP g.es c,oth (eAt g.es i) c∈s1.vis
 stk:s1.stk=s.stk++T
 out:s1.out=s.out++N
 pl:∀ i,(i∈T++N.flatten)↔i < g.es.length∧(i:Int)≠by_∧((eAt g.es i).a∈C∨(eAt g.es i).b∈C)
 pn:(T++N.flatten).Nodup
 lw1:lwW s1 v≤(s.vis.length:Int)+1
 lw2:∀ c∈C,∀ i∈atP g.es c,(i:Int)≠by_→oth (eAt g.es i) c∉C→lwW s1 v≤nmW s.vis (oth (eAt g.es i) c)
 lw3:lwW s1 v < (s.vis.length:Int)+1→∃ c∈C,∃ i∈atP g.es c,(i:Int)≠by_∧oth (eAt g.es i) c∈s.vis∧nmW s.vis (oth (eAt g.es i) c)=lwW s1 v
 rel:∀ i∈T,∃ b:Nat,by_=b∧RelB g.es b i
 good:∀ B∈N,BlkOk g.es B
 cn:∀ c∈C,RIn g.es (·∈C) v c
structure BLp (g:Gr) (s0:Bw) (v by_:Int) (Q:List Nat) (s:Bw) (D:List Int) (T:List Nat) (N:List (List Nat)):Prop where
 vis:s.vis=s0.vis++v::D
 nd:s.vis.Nodup
 ln:s.low.length=s.vis.length
 low:∀ w∈s0.vis,lwW s w=lwW s0 w
 qs:∀ i∈Q,i∈atP g.es v
 cloQ:∀ i∈Q,oth (eAt g.es i) v∈s.vis
 cloD:∀ c∈D,∀ i∈atP g.es c,oth (eAt g.es i) c∈s.vis
 stk:s.stk=s0.stk++T
 out:s.out=s0.out++N
 pl:∀ i,(i∈T++N.flatten)↔i < g.es.length∧(i:Int)≠by_∧(((eAt g.es i).a∈D∨(eAt g.es i).b∈D)∨(i∈Q∧oth (eAt g.es i) v∈s0.vis))
 pn:(T++N.flatten).Nodup
 lw1:lwW s v≤(s0.vis.length:Int)+1
 lwD:∀ c∈D,∀ i∈atP g.es c,oth (eAt g.es i) c∉D→oth (eAt g.es i) c≠v→lwW s v≤nmW s0.vis (oth (eAt g.es i) c)
 lwQ:∀ i∈Q,(i:Int)≠by_→oth (eAt g.es i) v∈s0.vis→lwW s v≤nmW s0.vis (oth (eAt g.es i) v)
 lw3:lwW s v < (s0.vis.length:Int)+1→∃ c∈v::D,∃ i∈atP g.es c,(i:Int)≠by_∧oth (eAt g.es i) c∈s0.vis∧nmW s0.vis (oth (eAt g.es i) c)=lwW s v
 rel:∀ i∈T,∃ b:Nat,by_=b∧RelB g.es b i
 good:∀ B∈N,BlkOk g.es B
 cn:∀ c∈D,RIn g.es (fun x=>x=v∨x∈D) v c
theorem nmW_app {V W:List Int} {x:Int} (h:x∈V):nmW (V++W) x=nmW V x:=by
 unfold nmW
 rw [if_pos (List.mem_append_left _ h),if_pos h,List.idxOf_append,if_pos h]
theorem nmW_new {V W:List Int} {x:Int} (h:x∉V) (h2:x∈W):(V.length:Int)+1≤nmW (V++W) x:=by
 unfold nmW
 rw [if_pos (List.mem_append_right _ h2),List.idxOf_append,if_neg h]
 omega
theorem nmW_le {V:List Int} {x:Int} (h:x∈V):nmW V x < (V.length:Int)+1:=by
 unfold nmW
 rw [if_pos h]
 have:=List.idxOf_lt_length_of_mem h
 omega
theorem lwW_set {s:Bw} (hl:s.low.length=s.vis.length) {v w x:Int} (hv:v∈s.vis) (hw:w∈s.vis):lwW (setW s v x) w=if w=v then x else lwW s w:=by
 unfold lwW setW
 have h1:=List.idxOf_lt_length_of_mem hv
 have h2:=List.idxOf_lt_length_of_mem hw
 simp only
 rw [getD_lt _ _ (by rw [List.length_set];omega),List.getElem_set,getD_lt _ _ (by omega)]
 by_cases e:w=v
 ·subst e;rw [if_pos rfl,if_pos rfl]
 ·rw [if_neg e,if_neg]
  intro k
  apply e
  have e1:=List.getElem_idxOf h1
  have e2:=List.getElem_idxOf h2
  rw [← e1,← e2]
  congr 1
  exact k.symm
theorem lwW_app {s:Bw} {v w:Int} (hl:s.low.length=s.vis.length) (hw:w∈s.vis):lwW (newW s v) w=lwW s w:=by
 unfold lwW newW
 have h2:=List.idxOf_lt_length_of_mem hw
 simp only
 rw [List.idxOf_append,if_pos hw,getD_lt _ _ (by rw [List.length_append];omega),getD_lt _ _ (by omega),List.getElem_append_left (by omega)]
theorem lwW_at {s:Bw} {v:Int} (hl:s.low.length=s.vis.length) (hv:v∉s.vis):lwW (newW s v) v=(s.vis.length:Int)+1:=by
 unfold lwW newW
 simp only
 rw [List.idxOf_append,if_neg hv,List.idxOf_cons_self,Nat.zero_add,getD_lt _ _ (by rw [List.length_append];simp;omega),List.getElem_append_right (by omega)]
 simp [hl]
theorem lastP_app {P R:List Nat} {i:Nat} (h:i∉R):lastP (P++i::R) i=P.length:=by
 unfold lastP
 rw [List.reverse_append,List.reverse_cons,List.append_assoc,List.idxOf_append,if_neg (by simpa using h)]
 simp
theorem blkW_mem {n:Nat} {S:List Nat} {i:Nat}:i∈blkW n S↔i < n∧i∈S:=by
 unfold blkW;rw [List.mem_filter,List.mem_range,decide_eq_true_iff]
theorem blkW_rise (n:Nat) (S:List Nat):(blkW n S).Pairwise (· < ·):=List.Pairwise.filter _ (List.pairwise_lt_range)
theorem blkW_perm {n:Nat} {S:List Nat} (hn:S.Nodup) (hl:∀ i∈S,i < n):(blkW n S).Perm S:=
 (List.perm_ext_iff_of_nodup ((blkW_rise n S).imp fun h=>Nat.ne_of_lt h) hn).2 fun i=>by rw [blkW_mem];exact ⟨fun h=>h.2,fun h=>⟨hl i h,h⟩⟩
section
variable {g:Gr} (hg:GoodE g)
include hg
theorem eAt_ne {i:Nat} {v:Int} (h:i∈atP g.es v):oth (eAt g.es i) v≠v:=oth_ne (hg.ne _ (eAt_mem (atP_mem.1 h).1)) (atP_mem.1 h).2
omit hg in
theorem BPre.start {A:Int→Prop} {s:Bw} {v by_:Int} (h:BPre g A s v by_):BLp g s v by_ [] (newW s v) [] [] [] where
 vis:=rfl
 nd:=by
  show (s.vis++[v]).Nodup
  rw [List.nodup_append]
  exact ⟨h.nd,by simp,fun a ha b hb=>by rintro rfl;rw [List.mem_singleton] at hb;subst hb;exact h.new ha⟩
 ln:=by show (s.low++[_]).length=(s.vis++[v]).length;simp [h.ln]
 low:=fun w hw=>lwW_app h.ln hw
 qs:=fun i hi=>by cases hi
 cloQ:=fun i hi=>by cases hi
 cloD:=fun i hi=>by cases hi
 stk:=by show s.stk=s.stk++[];simp
 out:=by show s.out=s.out++[];simp
 pl:=fun i=>by simp
 pn:=by simp
 lw1:=by rw [lwW_at h.ln h.new];exact Int.le_refl _
 lwD:=fun i hi=>by cases hi
 lwQ:=fun i hi=>by cases hi
 lw3:=fun hl=>by rw [lwW_at h.ln h.new] at hl;omega
 rel:=fun i hi=>by cases hi
 good:=fun i hi=>by cases hi
 cn:=fun i hi=>by cases hi
theorem BLp.done {A:Int→Prop} {s0 s:Bw} {v by_:Int} {D:List Int} {T:List Nat} {N:List (List Nat)} (h0:BPre g A s0 v by_) (h:BLp g s0 v by_ (atP g.es v) s D T N):BPost g s0 v by_ s (v::D) T N where
 vis:=h.vis
 hd:=by simp
 nd:=h.nd
 ln:=h.ln
 low:=h.low
 clo:=fun c hc i hi=>by
  rcases List.mem_cons.1 hc with rfl | hc
  ·exact h.cloQ i hi
  ·exact h.cloD c hc i hi
 stk:=h.stk
 out:=h.out
 pl:=fun i=>by
  rw [h.pl i]
  refine ⟨fun ⟨h1,h2,h3⟩=>⟨h1,h2,?_⟩,fun ⟨h1,h2,h3⟩=>⟨h1,h2,?_⟩⟩
  ·rcases h3 with (h3 | h3) | ⟨h3,_⟩
   ·exact .inl (List.mem_cons_of_mem _ h3)
   ·exact .inr (List.mem_cons_of_mem _ h3)
   ·rcases (atP_mem.1 h3).2 with e | e
    ·exact .inl (by rw [e];simp)
    ·exact .inr (by rw [e];simp)
  ·by_cases hv:(eAt g.es i).a=v∨(eAt g.es i).b=v
   ·have hi:i∈atP g.es v:=atP_mem.2 ⟨h1,hv⟩
    have hq:=h.cloQ i hi
    rw [h.vis,List.mem_append,List.mem_cons] at hq
    rcases hq with hq | hq | hq
    ·exact .inr ⟨hi,hq⟩
    ·exact absurd hq (eAt_ne hg hi)
    ·refine .inl ?_
     rcases oth_end (eAt g.es i) v with e | e
     ·exact .inl (by rw [e];exact hq)
     ·exact .inr (by rw [e];exact hq)
   ·refine .inl (h3.imp (fun k=>?_) (fun k=>?_))
    ·exact (List.mem_cons.1 k).resolve_left fun e=>hv (.inl e)
    ·exact (List.mem_cons.1 k).resolve_left fun e=>hv (.inr e)
 pn:=h.pn
 lw1:=h.lw1
 lw2:=fun c hc i hi hb ho=>by
  have ho2:=ho
  rw [List.mem_cons,not_or] at ho2
  rcases List.mem_cons.1 hc with rfl | hc
  ·refine h.lwQ i hi hb ?_
   have hq:=h.cloQ i hi
   rw [h.vis,List.mem_append] at hq
   exact hq.resolve_right ho
  ·exact h.lwD c hc i hi ho2.2 ho2.1
 lw3:=h.lw3
 rel:=h.rel
 good:=h.good
 cn:=fun c hc=>by
  rcases List.mem_cons.1 hc with rfl | hc
  ·exact .refl (by simp)
  ·exact (h.cn c hc).mono fun z hz=>List.mem_cons.2 hz
end
end Go.Proofs.YtkcokoefodgigaaGreat.Aw
namespace Go.Proofs.YtkcokoefodgigaaGreat.Aw
open Go Go.RowKit Go.Proofs.YtkcokoefodgigaaGreat.Pl Go.Proofs.YtkcokoefodgigaaGreat.Eu
set_option linter.unusedSectionVars false
theorem both_in {x:Ed} {L:List Int} {w:Int} (hw:w∈L) (he:x.a=w∨x.b=w) (ho:oth x w∈L):x.a∈L∧x.b∈L:=by
 have e1:=(ends_oth he x.a).1 (.inl rfl)
 have e2:=(ends_oth he x.b).1 (.inr rfl)
 exact ⟨by rcases e1 with e | e<;>rw [e]<;>assumption,by rcases e2 with e | e<;>rw [e]<;>assumption⟩
section
variable {g:Gr} (hg:GoodE g) {A:Int→Prop} {s0 s:Bw} {v by_:Int} {Q:List Nat} {D:List Int} {T:List Nat} {N:List (List Nat)} (h0:BPre g A s0 v by_) (h:BLp g s0 v by_ Q s D T N)
include hg h0 h
theorem BLp.v_in:v∈s.vis:=by rw [h.vis];simp
theorem BLp.old_in {w:Int} (hw:w∈s0.vis):w∈s.vis:=by rw [h.vis];exact List.mem_append_left _ hw
theorem BLp.d_in {w:Int} (hw:w∈D):w∈s.vis:=by rw [h.vis];simp [hw]
theorem BLp.by_out {b:Nat} (hb:by_=b):oth (eAt g.es b) v∈s0.vis∧b∈atP g.es v∧A (oth (eAt g.es b) v):=by
 rcases h0.par with ⟨h1,_⟩ | ⟨i,h1,h2,h3⟩
 ·omega
 ·obtain rfl:i=b:=by omega
  exact ⟨h0.act _ h3,h2,h3⟩
theorem BLp.d_new {d:Int} (hd:d∈D):d∉s0.vis∧d≠v:=by
 have hn:=h.nd
 rw [h.vis,List.nodup_append] at hn
 refine ⟨fun k=>hn.2.2 d k d (List.mem_cons_of_mem _ hd) rfl,fun e=>?_⟩
 subst e
 exact (List.nodup_cons.1 hn.2.1).1 hd
theorem BLp.pl_in {j:Nat} (hj:j∈T++N.flatten):(eAt g.es j).a∈s.vis∧(eAt g.es j).b∈s.vis:=by
 obtain ⟨h1,_,h3⟩:=(h.pl j).1 hj
 rcases h3 with (k | k) | ⟨k,ho⟩
 ·exact both_in (h.d_in hg h0 k) (.inl rfl) (h.cloD _ k j (atP_mem.2 ⟨h1,.inl rfl⟩))
 ·exact both_in (h.d_in hg h0 k) (.inr rfl) (h.cloD _ k j (atP_mem.2 ⟨h1,.inr rfl⟩))
 ·exact both_in (h.v_in hg h0) (atP_mem.1 (h.qs j k)).2 (h.cloQ j k)
theorem BLp.back_act {c:Int} (hc:c∉s0.vis) {i:Nat} (hi:i∈atP g.es c) (ho:oth (eAt g.es i) c∈s0.vis):A (oth (eAt g.es i) c):=
 Classical.byContradiction fun hA=>hc (by
  have:=h0.fin _ ho hA i (atP_oth hi)
  rwa [oth_oth (atP_mem.1 hi).2] at this)
theorem BLp.same {i:Nat} (hi:i∈atP g.es v) (hb:(i:Int)=by_):BLp g s0 v by_ (Q++[i]) s D T N where
 vis:=h.vis
 nd:=h.nd
 ln:=h.ln
 low:=h.low
 qs:=fun j hj=>by rcases List.mem_append.1 hj with k | k;exact h.qs j k;rw [List.mem_singleton] at k;subst k;exact hi
 cloQ:=fun j hj=>by
  rcases List.mem_append.1 hj with k | k
  ·exact h.cloQ j k
  ·rw [List.mem_singleton] at k;subst k;exact h.old_in hg h0 (h.by_out hg h0 hb.symm).1
 cloD:=h.cloD
 stk:=h.stk
 out:=h.out
 pl:=fun j=>by
  rw [h.pl j,List.mem_append,List.mem_singleton]
  refine and_congr_right fun _=>and_congr_right fun hj=>or_congr_right ?_
  refine and_congr_left fun _=>⟨.inl,fun k=>k.resolve_right ?_⟩
  rintro rfl;exact hj hb
 pn:=h.pn
 lw1:=h.lw1
 lwD:=h.lwD
 lwQ:=fun j hj hjb=>by
  rcases List.mem_append.1 hj with k | k
  ·exact h.lwQ j k hjb
  ·rw [List.mem_singleton] at k;subst k;exact absurd hb hjb
 lw3:=h.lw3
 rel:=h.rel
 good:=h.good
 cn:=h.cn
theorem BLp.skip {i:Nat} (hi:i∈atP g.es v) (hin:oth (eAt g.es i) v∈s.vis) (hn:¬ nmW s.vis (oth (eAt g.es i) v) < (s0.vis.length:Int)+1):BLp g s0 v by_ (Q++[i]) s D T N:=by
 have hout:oth (eAt g.es i) v∉s0.vis:=fun k=>hn (by rw [h.vis,nmW_app k];exact nmW_le k)
 exact {
 vis:=h.vis
 nd:=h.nd
 ln:=h.ln
 low:=h.low
 qs:=fun j hj=>by rcases List.mem_append.1 hj with k | k;exact h.qs j k;rw [List.mem_singleton] at k;subst k;exact hi
 cloQ:=fun j hj=>by
  rcases List.mem_append.1 hj with k | k
  ·exact h.cloQ j k
  ·rw [List.mem_singleton] at k;subst k;exact hin
 cloD:=h.cloD
 stk:=h.stk
 out:=h.out
 pl:=fun j=>by
  rw [h.pl j,List.mem_append,List.mem_singleton]
  refine and_congr_right fun _=>and_congr_right fun hj=>or_congr_right ?_
  refine ⟨fun k=>⟨.inl k.1,k.2⟩,fun k=>⟨k.1.resolve_right ?_,k.2⟩⟩
  rintro rfl;exact hout k.2
 pn:=h.pn
 lw1:=h.lw1
 lwD:=h.lwD
 lwQ:=fun j hj hjb=>by
  rcases List.mem_append.1 hj with k | k
  ·exact h.lwQ j k hjb
  ·rw [List.mem_singleton] at k;subst k;exact fun k2=>absurd k2 hout
 lw3:=h.lw3
 rel:=h.rel
 good:=h.good
 cn:=h.cn }
theorem BLp.act_to {b:Nat} (hb:by_=b) {a:Int} (ha:A a):RIn g.es (·≠v) a (oth (eAt g.es b) v):=
 (h0.con _ _ ha (h.by_out hg h0 hb).2.2).mono fun z hz e=>by subst e;exact h0.new (h0.act _ hz)
theorem BLp.no_root {a:Int} (ha:A a):∃ b:Nat,by_=b:=by
 rcases h0.par with ⟨_,h2⟩ | ⟨b,h2,_⟩
 ·exact absurd ha (h2 a)
 ·exact ⟨b,h2⟩
theorem BLp.back {i:Nat} (hi:i∈atP g.es v) (hiQ:i∉Q) (hib:(i:Int)≠by_) (hin:oth (eAt g.es i) v∈s.vis) (hn:nmW s.vis (oth (eAt g.es i) v) < (s0.vis.length:Int)+1):
 BLp g s0 v by_ (Q++[i]) (setW (pushW s i) v (min (lwW s v) (nmW s.vis (oth (eAt g.es i) v)))) D (T++[i]) N:=by
 have hold:oth (eAt g.es i) v∈s0.vis:=Classical.byContradiction fun k=>by
  have h1:=hin
  rw [h.vis,List.mem_append] at h1
  have:=nmW_new k (h1.resolve_left k)
  rw [h.vis] at hn
  omega
 have hA:=h.back_act hg h0 h0.new hi hold
 have hvs:=h.v_in hg h0
 have hnm:nmW s.vis (oth (eAt g.es i) v)=nmW s0.vis (oth (eAt g.es i) v):=by rw [h.vis,nmW_app hold]
 have hlw:∀ w∈s.vis,∀ x,lwW (setW (pushW s i) v x) w=if w=v then x else lwW s w:=fun w hw x=>lwW_set (s:=pushW s i) h.ln hvs hw
 have hnew:i∉T++N.flatten:=fun k=>by
  obtain ⟨_,_,h3⟩:=(h.pl i).1 k
  rcases h3 with (k2 | k2) | ⟨k2,_⟩
  ·rcases (ends_oth (atP_mem.1 hi).2 _).1 (.inl rfl) with e | e
   ·rw [e] at k2;exact (h.d_new hg h0 k2).2 rfl
   ·rw [e] at k2;exact (h.d_new hg h0 k2).1 hold
  ·rcases (ends_oth (atP_mem.1 hi).2 _).1 (.inr rfl) with e | e
   ·rw [e] at k2;exact (h.d_new hg h0 k2).2 rfl
   ·rw [e] at k2;exact (h.d_new hg h0 k2).1 hold
  ·exact hiQ k2
 exact {
 vis:=h.vis
 nd:=h.nd
 ln:=by show (s.low.set _ _).length=_;rw [List.length_set];exact h.ln
 low:=fun w hw=>by rw [hlw w (h.old_in hg h0 hw),if_neg (fun e=>h0.new (by rw [← e];exact hw))];exact h.low w hw
 qs:=fun j hj=>by rcases List.mem_append.1 hj with k | k;exact h.qs j k;rw [List.mem_singleton] at k;subst k;exact hi
 cloQ:=fun j hj=>by
  rcases List.mem_append.1 hj with k | k
  ·exact h.cloQ j k
  ·rw [List.mem_singleton] at k;subst k;exact hin
 cloD:=h.cloD
 stk:=by show s.stk++[i]=_;rw [h.stk,List.append_assoc]
 out:=h.out
 pl:=fun j=>by
  rw [List.append_assoc,List.mem_append,List.mem_append,or_left_comm,← List.mem_append,h.pl j,List.mem_singleton,List.mem_append,List.mem_singleton]
  constructor
  ·rintro (rfl | ⟨k1,k2,k3⟩)
   ·exact ⟨(atP_mem.1 hi).1,hib,.inr ⟨.inr rfl,hold⟩⟩
   ·exact ⟨k1,k2,k3.imp_right fun k=>⟨.inl k.1,k.2⟩⟩
  ·rintro ⟨k1,k2,k3 | ⟨k3 | k3,k4⟩⟩
   ·exact .inr ⟨k1,k2,.inl k3⟩
   ·exact .inr ⟨k1,k2,.inr ⟨k3,k4⟩⟩
   ·exact .inl k3
 pn:=by
  rw [List.append_assoc]
  refine ((List.perm_middle (a:=i) (l₁:=T) (l₂:=N.flatten)).nodup_iff).2 ?_
  exact List.nodup_cons.2 ⟨hnew,h.pn⟩
 lw1:=by rw [hlw v hvs,if_pos rfl];have:=h.lw1;omega
 lwD:=fun c hc j hj h1 h2=>by rw [hlw v hvs,if_pos rfl];have:=h.lwD c hc j hj h1 h2;omega
 lwQ:=fun j hj hjb ho=>by
  rw [hlw v hvs,if_pos rfl]
  rcases List.mem_append.1 hj with k | k
  ·have:=h.lwQ j k hjb ho;omega
  ·rw [List.mem_singleton] at k;subst k;omega
 lw3:=fun hl=>by
  rw [hlw v hvs,if_pos rfl] at hl ⊢
  by_cases hmin:lwW s v≤nmW s.vis (oth (eAt g.es i) v)
  ·rw [Int.min_eq_left hmin] at hl ⊢
   exact h.lw3 hl
  ·rw [Int.min_eq_right (by omega)] at hl ⊢
   exact ⟨v,by simp,i,hi,hib,hold,hnm.symm⟩
 rel:=fun j hj=>by
  rcases List.mem_append.1 hj with k | k
  ·exact h.rel j k
  ·rw [List.mem_singleton] at k;subst k
   obtain ⟨b,hb⟩:=h.no_root hg h0 hA
   obtain ⟨_,b2,_⟩:=h.by_out hg h0 hb
   exact ⟨b,hb,.step .refl (atP_mem.1 b2).1 (atP_mem.1 hi).1 ⟨v,(atP_mem.1 b2).2,(atP_mem.1 hi).2,(h.act_to hg h0 hb hA).symm⟩⟩
 good:=h.good
 cn:=h.cn }
end
section
variable {g:Gr} (hg:GoodE g) {A:Int→Prop} {s0 s:Bw} {v by_:Int} {Q:List Nat} {D:List Int} {T:List Nat} {N:List (List Nat)} (h0:BPre g A s0 v by_) (h:BLp g s0 v by_ Q s D T N)
include hg h0 h
theorem BLp.pre {i:Nat} (hi:i∈atP g.es v) (hout:oth (eAt g.es i) v∉s.vis):BPre g (fun a=>A a∨a=v) (pushW s i) (oth (eAt g.es i) v) i where
 ln:=h.ln
 nd:=h.nd
 act:=fun a ha=>by
  rcases ha with ha | e
  ·exact h.old_in hg h0 (h0.act _ ha)
  ·show a∈s.vis;rw [e];exact h.v_in hg h0
 fin:=fun w hw hA j hj=>by
  have hw2:w∈s.vis:=hw
  show oth (eAt g.es j) w∈s.vis
  rw [h.vis,List.mem_append,List.mem_cons] at hw2
  rcases hw2 with k | k | k
  ·exact h.old_in hg h0 (h0.fin w k (fun x=>hA (.inl x)) j hj)
  ·exact absurd (.inr k) hA
  ·exact h.cloD w k j hj
 new:=hout
 con:=by
  have up:∀ a b,A a→A b→RIn g.es (fun a=>A a∨a=v) a b:=fun a b ha hb=>(h0.con a b ha hb).mono fun z hz=>.inl hz
  have tov:∀ a,A a→RIn g.es (fun a=>A a∨a=v) a v:=fun a ha=>by
   obtain ⟨b,hb⟩:=h.no_root hg h0 ha
   obtain ⟨_,b2,b3⟩:=h.by_out hg h0 hb
   exact .step (up a _ ha b3) (nbr_symm (oth_nbr b2)) (.inr rfl)
  rintro a b (ha | rfl) (hb | rfl)
  ·exact up a b ha hb
  ·exact tov a ha
  ·exact (tov b hb).symm
  ·exact .refl (.inr rfl)
 par:=.inr ⟨i,rfl,atP_oth hi,.inr (oth_oth (atP_mem.1 hi).2)⟩
theorem BLp.child {i:Nat} (hi:i∈atP g.es v) (hiQ:i∉Q) (hib:(i:Int)≠by_) (hout:oth (eAt g.es i) v∉s.vis) {s1:Bw} {C:List Int} {T':List Nat} {N':List (List Nat)}
 (hp:BPost g (pushW s i) (oth (eAt g.es i) v) i s1 C T' N'):∃ s2 D2 T2 N2,lowB g.es.length v ((s0.vis.length:Int)+1) i (oth (eAt g.es i) v) s1=some s2∧BLp g s0 v by_ (Q++[i]) s2 D2 T2 N2:=by
 obtain ⟨u,hu⟩:∃ u,u=oth (eAt g.es i) v:=⟨_,rfl⟩
 have hvs:=h.v_in hg h0
 have hvis:s1.vis=s.vis++C:=hp.vis
 have hvis2:s1.vis=s0.vis++v::(D++C):=by rw [hvis,h.vis,List.append_assoc];rfl
 have hv1:v∈s1.vis:=by rw [hvis];exact List.mem_append_left _ hvs
 have hcn:∀ c∈C,c∉s.vis:=fun c hc k=>by
  have:=hp.nd
  rw [hvis,List.nodup_append] at this
  exact this.2.2 c k c hc rfl
 have hend:(eAt g.es i).a=v∨(eAt g.es i).b=v:=(atP_mem.1 hi).2
 have hil:=(atP_mem.1 hi).1
 have huC:u∈C:=by rw [hu];exact hp.hd
 have hu1:u∈s1.vis:=by rw [hvis];exact List.mem_append_right _ huC
 have huv:u≠v:=by rw [hu];exact eAt_ne hg hi
 have hlen:s.vis.length=s0.vis.length+1+D.length:=by rw [h.vis,List.length_append,List.length_cons];omega
 have hlv:lwW s1 v=lwW s v:=hp.low v hvs
 -- ends
 have inS:∀ {j:Nat},j∈T++N.flatten→¬ ((eAt g.es j).a∈C∨(eAt g.es j).b∈C):=fun hj k=>by
  have:=h.pl_in hg h0 hj
  rcases k with k | k
  ·exact hcn _ k this.1
  ·exact hcn _ k this.2
 have byC:∀ b:Nat,by_=b→¬ ((eAt g.es b).a∈C∨(eAt g.es b).b∈C):=fun b hb k=>by
  obtain ⟨b1,b2,_⟩:=h.by_out hg h0 hb
  have:=both_in hvs (atP_mem.1 b2).2 (h.old_in hg h0 b1)
  rcases k with k | k
  ·exact hcn _ k this.1
  ·exact hcn _ k this.2
 have iC:(eAt g.es i).a∈C∨(eAt g.es i).b∈C:=by
  rcases oth_end (eAt g.es i) v with e | e
  ·exact .inl (by rw [e,← hu];exact huC)
  ·exact .inr (by rw [e,← hu];exact huC)
 have iT':i∉T'++N'.flatten:=fun k=>((hp.pl i).1 k).2.1 rfl
 -- the places that are new
 have hnew:∀ j,(j=i∨j∈T'++N'.flatten)↔j < g.es.length∧((eAt g.es j).a∈C∨(eAt g.es j).b∈C):=fun j=>by
  rw [hp.pl j]
  constructor
  ·rintro (rfl | ⟨k1,_,k3⟩)
   ·exact ⟨hil,iC⟩
   ·exact ⟨k1,k3⟩
  ·rintro ⟨k1,k3⟩
   by_cases e:j=i
   ·exact .inl e
   ·exact .inr ⟨k1,fun k=>e (by omega),k3⟩
 have hpl:∀ j,(j∈T++N.flatten∨(j=i∨j∈T'++N'.flatten))↔j < g.es.length∧(j:Int)≠by_∧(((eAt g.es j).a∈D++C∨(eAt g.es j).b∈D++C)∨(j∈Q++[i]∧oth (eAt g.es j) v∈s0.vis)):=fun j=>by
  rw [h.pl j,hnew j]
  simp only [List.mem_append,List.mem_singleton]
  constructor
  ·rintro (⟨k1,k2,(k3 | k3) | ⟨k3,k4⟩⟩ | ⟨k1,k3⟩)
   ·exact ⟨k1,k2,.inl (.inl (.inl k3))⟩
   ·exact ⟨k1,k2,.inl (.inr (.inl k3))⟩
   ·exact ⟨k1,k2,.inr ⟨.inl k3,k4⟩⟩
   ·exact ⟨k1,fun e=>byC j e.symm k3,.inl (k3.imp .inr .inr)⟩
  ·rintro ⟨k1,k2,((k3 | k3) | (k3 | k3)) | ⟨k3 | k3,k4⟩⟩
   ·exact .inl ⟨k1,k2,.inl (.inl k3)⟩
   ·exact .inr ⟨k1,.inl k3⟩
   ·exact .inl ⟨k1,k2,.inl (.inr k3)⟩
   ·exact .inr ⟨k1,.inr k3⟩
   ·exact .inl ⟨k1,k2,.inr ⟨k3,k4⟩⟩
   ·subst k3;exact absurd (h.old_in hg h0 k4) hout
 have hnd:((T++N.flatten)++i::(T'++N'.flatten)).Nodup:=by
  rw [List.nodup_append]
  refine ⟨h.pn,List.nodup_cons.2 ⟨iT',hp.pn⟩,fun a ha b hb=>?_⟩
  rintro rfl
  exact inS ha ((hnew a).1 (List.mem_cons.1 hb)).2
 -- low numbers
 have hset:∀ x,∀ w∈s1.vis,lwW (setW s1 v x) w=if w=v then x else lwW s1 w:=fun x w hw=>lwW_set hp.ln hv1 hw
 have hold1:∀ w∈s0.vis,w≠v:=fun w hw e=>h0.new (by rw [← e];exact hw)
 have nm0:∀ w∈s0.vis,nmW s.vis w=nmW s0.vis w:=fun w hw=>by rw [h.vis,nmW_app hw]
 have wit:lwW s1 u < (s0.vis.length:Int)+1→∃ c∈C,∃ j∈atP g.es c,j≠i∧oth (eAt g.es j) c∈s0.vis∧nmW s0.vis (oth (eAt g.es j) c)=lwW s1 u:=fun hl=>by
  have hl2:lwW s1 u < ((pushW s i).vis.length:Int)+1:=by show _ < (s.vis.length:Int)+1;omega
  rw [hu] at hl2
  obtain ⟨c,hc,j,hj,hji,ho,he⟩:=hp.lw3 hl2
  have he:nmW s.vis (oth (eAt g.es j) c)=lwW s1 u:=by rw [hu];exact he
  have hin:oth (eAt g.es j) c∈s.vis:=ho
  have h1:oth (eAt g.es j) c∈s0.vis:=Classical.byContradiction fun k=>by
   have h2:=hin
   rw [h.vis,List.mem_append] at h2
   have:=nmW_new k (h2.resolve_left k)
   rw [← h.vis] at this
   omega
  exact ⟨c,hc,j,hj,fun e=>hji (by omega),h1,by rw [← nm0 _ h1];exact he⟩
 have base:∀ (s2:Bw) (T2:List Nat) (N2:List (List Nat)),s2.vis=s1.vis→s2.low=(setW s1 v (min (lwW s1 v) (lwW s1 u))).low→s2.stk=s0.stk++T2→s2.out=s0.out++N2→
  (T2++N2.flatten).Perm ((T++N.flatten)++i::(T'++N'.flatten))→(∀ j∈T2,∃ b:Nat,by_=b∧RelB g.es b j)→(∀ B∈N2,BlkOk g.es B)→BLp g s0 v by_ (Q++[i]) s2 (D++C) T2 N2:=fun s2 T2 N2 e1 e2 e3 e4 hperm hrel hgood=>by
  have hlw:∀ w∈s1.vis,lwW s2 w=if w=v then min (lwW s1 v) (lwW s1 u) else lwW s1 w:=fun w hw=>by
   rw [← hset _ w hw];unfold lwW;rw [e1,e2];rfl
  exact {
  vis:=by rw [e1,hvis2]
  nd:=by rw [e1];exact hp.nd
  ln:=by rw [e1,e2];show (s1.low.set _ _).length=_;rw [List.length_set];exact hp.ln
  low:=fun w hw=>by
   have hw1:=h.old_in hg h0 hw
   rw [hlw w (by rw [hvis];exact List.mem_append_left _ hw1),if_neg (hold1 w hw),hp.low w hw1]
   exact h.low w hw
  qs:=fun j hj=>by rcases List.mem_append.1 hj with k | k;exact h.qs j k;rw [List.mem_singleton] at k;subst k;exact hi
  cloQ:=fun j hj=>by
   rw [e1]
   rcases List.mem_append.1 hj with k | k
   ·rw [hvis];exact List.mem_append_left _ (h.cloQ j k)
   ·rw [List.mem_singleton] at k;subst k;rw [← hu];exact hu1
  cloD:=fun c hc j hj=>by
   rw [e1]
   rcases List.mem_append.1 hc with k | k
   ·rw [hvis];exact List.mem_append_left _ (h.cloD c k j hj)
   ·exact hp.clo c k j hj
  stk:=e3
  out:=e4
  pl:=fun j=>by rw [hperm.mem_iff,← hpl j,List.mem_append,List.mem_cons]
  pn:=hperm.nodup_iff.2 hnd
  lw1:=by rw [hlw v hv1,if_pos rfl,hlv];have:=h.lw1;omega
  lwD:=fun c hc j hj h1 h2=>by
   rw [hlw v hv1,if_pos rfl,hlv]
   rw [List.mem_append,not_or] at h1
   rcases List.mem_append.1 hc with k | k
   ·have:=h.lwD c k j hj h1.1 h2;omega
   ·have hji:(j:Int)≠i:=fun e=>by
     obtain rfl:j=i:=by omega
     rcases (ends_oth hend c).1 (atP_mem.1 hj).2 with e | e
     ·subst e;exact hcn _ k hvs
     ·exact h2 (by rw [e];exact oth_oth hend)
    have h3:=hp.lw2 c k j hj hji h1.2
    have h4:lwW s1 u≤nmW s.vis (oth (eAt g.es j) c):=by rw [hu];exact h3
    have hin:=hp.clo c k j hj
    rw [hvis2,List.mem_append,List.mem_cons,List.mem_append] at hin
    have hin:=hin.resolve_right fun x=>by rcases x with x | x | x;exact h2 x;exact h1.1 x;exact h1.2 x
    rw [nm0 _ hin] at h4
    omega
  lwQ:=fun j hj hjb ho=>by
   rw [hlw v hv1,if_pos rfl,hlv]
   rcases List.mem_append.1 hj with k | k
   ·have:=h.lwQ j k hjb ho;omega
   ·rw [List.mem_singleton] at k;subst k;exact absurd (h.old_in hg h0 ho) hout
  lw3:=fun hl=>by
   rw [hlw v hv1,if_pos rfl] at hl ⊢
   by_cases hmin:lwW s1 v≤lwW s1 u
   ·rw [Int.min_eq_left hmin,hlv] at hl ⊢
    obtain ⟨c,hc,j,hj,hjb,ho,he⟩:=h.lw3 hl
    exact ⟨c,by rcases List.mem_cons.1 hc with k | k<;>simp [k],j,hj,hjb,ho,he⟩
   ·rw [Int.min_eq_right (by omega)] at hl ⊢
    obtain ⟨c,hc,j,hj,hji,ho,he⟩:=wit hl
    refine ⟨c,by simp [hc],j,hj,fun e=>byC j e.symm ?_,ho,he⟩
    rcases (atP_mem.1 hj).2 with x | x
    ·exact .inl (by rw [x];exact hc)
    ·exact .inr (by rw [x];exact hc)
  rel:=hrel
  good:=hgood
  cn:=fun c hc=>by
   rcases List.mem_append.1 hc with k | k
   ·exact (h.cn c k).mono fun z hz=>hz.imp_right fun x=>List.mem_append_left _ x
   ·have h1:=(hp.cn c k).mono (S':=fun x=>x=v∨x∈D++C) fun z hz=>.inr (List.mem_append_right _ hz)
    exact (RIn.step (.refl (.inl rfl)) (oth_nbr hi) (.inr (List.mem_append_right _ (by rw [← hu];exact huC)))).trans h1 }
 rw [← hu]
 unfold lowB
 by_cases hc:(s0.vis.length:Int)+1≤lwW s1 u
 ·rw [if_pos hc]
  have hstk:s1.stk=(s0.stk++T)++i::T':=by rw [hp.stk];show (s.stk++[i])++T'=_;rw [h.stk];simp
  have hiT:i∉T':=fun k=>iT' (List.mem_append_left _ k)
  have hlp:lastP s1.stk i=(s0.stk++T).length:=by rw [hstk];exact lastP_app hiT
  have hSn:(i::T').Nodup:=List.nodup_cons.2 ⟨hiT,(List.nodup_append.1 hp.pn).1⟩
  have hSl:∀ j∈i::T',j < g.es.length:=fun j hj=>by
   have:j=i∨j∈T'++N'.flatten:=(List.mem_cons.1 hj).imp_right fun k=>List.mem_append_left _ k
   exact ((hnew j).1 this).1
  have hbp:=blkW_perm hSn hSl
  have hrelS:∀ j∈i::T',RelB g.es i j:=fun j hj=>by
   rcases List.mem_cons.1 hj with e | k
   ·rw [e];exact .refl
   ·obtain ⟨b,hb,hr⟩:=hp.rel j k
    obtain rfl:i=b:=by omega
    exact hr
  -- all that stays behind v
  have hlu:∀ c∈C,∀ j∈atP g.es c,oth (eAt g.es j) c∈C∨oth (eAt g.es j) c=v:=fun c hcC j hj=>by
   by_cases e1:oth (eAt g.es j) c∈C
   ·exact .inl e1
   refine .inr (Classical.byContradiction fun e2=>?_)
   by_cases hji:(j:Int)=i
   ·obtain rfl:j=i:=by omega
    rcases (ends_oth hend c).1 (atP_mem.1 hj).2 with e | e
    ·subst e;exact hcn _ hcC hvs
    ·exact e2 (by rw [e];exact oth_oth hend)
   ·have h3:=hp.lw2 c hcC j hj hji e1
    have h4:lwW s1 u≤nmW s.vis (oth (eAt g.es j) c):=by rw [hu];exact h3
    have hin:=hp.clo c hcC j hj
    rw [hvis] at hin
    have hin:=(List.mem_append.1 hin).resolve_right e1
    have hold:oth (eAt g.es j) c∈s0.vis∨oth (eAt g.es j) c∈D:=by
     rw [h.vis,List.mem_append,List.mem_cons] at hin
     rcases hin with k | k | k
     ·exact .inl k
     ·exact absurd k e2
     ·exact .inr k
    rcases hold with k | k
    ·rw [nm0 _ k] at h4
     have:=nmW_le k
     omega
    ·have:=h.cloD _ k j (atP_oth hj)
     rw [oth_oth (atP_mem.1 hj).2] at this
     exact hcn _ hcC this
  have hgood:BlkOk g.es (blkW g.es.length (i::T')):={
   ne:=fun e=>by
    have:i∈blkW g.es.length (i::T'):=blkW_mem.2 ⟨hil,by simp⟩
    rw [e] at this;cases this
   rise:=blkW_rise _ _
   lt:=fun j hj=>(blkW_mem.1 hj).1
   rel:=fun j hj k hk=>(hrelS j (blkW_mem.1 hj).2).symm.trans (hrelS k (blkW_mem.1 hk).2)
   all:=fun j hj k hk hr=>by
    have hjS:=(blkW_mem.1 hj).2
    have hjC:=((hnew j).1 ((List.mem_cons.1 hjS).imp_right fun x=>List.mem_append_left _ x)).2
    -- k ends behind v, too
    have hkC:(eAt g.es k).a∈C∨(eAt g.es k).b∈C:=by
     obtain ⟨w,w1,w2,w3⟩:=hr
     have hjw:j∈atP g.es w:=atP_mem.2 ⟨hSl j hjS,w1⟩
     have hkw:k∈atP g.es w:=atP_mem.2 ⟨hk,w2⟩
     by_cases hwC:w∈C
     ·rcases w2 with e | e
      ·exact .inl (by rw [e];exact hwC)
      ·exact .inr (by rw [e];exact hwC)
     have hoC:oth (eAt g.es j) w∈C:=by
      rcases hjC with x | x
      ·rcases (ends_oth w1 _).1 (.inl rfl) with e | e
       ·exact absurd (by rw [← e];exact x) hwC
       ·rw [← e];exact x
      ·rcases (ends_oth w1 _).1 (.inr rfl) with e | e
       ·exact absurd (by rw [← e];exact x) hwC
       ·rw [← e];exact x
     have hwv:w=v:=by
      have:=hlu _ hoC j (atP_oth hjw)
      rw [oth_oth w1] at this
      exact this.resolve_left hwC
     subst hwv
     have hq:oth (eAt g.es k) w∈C:=w3.closed (L:=(·∈C)) hoC fun z hz x hx hne=>by
      obtain ⟨l,hl,rfl⟩:=nbr_atP hx
      exact (hlu z hz l hl).resolve_right hne
     rcases oth_end (eAt g.es k) w with e | e
     ·exact .inl (by rw [e];exact hq)
     ·exact .inr (by rw [e];exact hq)
    refine blkW_mem.2 ⟨hk,?_⟩
    rcases (hnew k).2 ⟨hk,hkC⟩ with e | e
    ·rw [e];simp
    ·rcases List.mem_append.1 e with e | e
     ·exact List.mem_cons_of_mem _ e
     ·obtain ⟨B,hB,hkB⟩:=List.mem_flatten.1 e
      have hjB:=(hp.good B hB).all k hkB j (hSl j hjS) hr.symm
      have hjN:j∈N'.flatten:=List.mem_flatten.2 ⟨B,hB,hjB⟩
      exfalso
      rcases List.mem_cons.1 hjS with e | e
      ·exact iT' (by rw [← e];exact List.mem_append_right _ hjN)
      ·exact (List.nodup_append.1 hp.pn).2.2 j e j hjN rfl }
  have hcut:cutW g.es.length (setW s1 v (min (lwW s1 v) (lwW s1 u))) i=some { setW s1 v (min (lwW s1 v) (lwW s1 u)) with stk:=s0.stk++T,out:=s0.out++(N++N'++[blkW g.es.length (i::T')]) }:=by
   unfold cutW
   have e1:(setW s1 v (min (lwW s1 v) (lwW s1 u))).stk=s1.stk:=rfl
   have e2:(setW s1 v (min (lwW s1 v) (lwW s1 u))).out=s1.out:=rfl
   rw [e1,e2,hlp,if_pos (by rw [hstk];simp),hstk,List.take_left,List.drop_left,hp.out]
   show some _=some _
   have:(pushW s i).out=s0.out++N:=h.out
   rw [this]
   simp only [List.append_assoc]
  refine ⟨_,D++C,T,N++N'++[blkW g.es.length (i::T')],hcut,base _ _ _ rfl rfl rfl rfl ?_ h.rel ?_⟩
  ·simp only [List.flatten_append,List.flatten_cons,List.flatten_nil,List.append_nil,List.append_assoc]
   refine List.Perm.append_left _ (List.Perm.append_left _ ?_)
   refine List.perm_append_comm.trans ?_
   exact (hbp.append_right _)
  ·intro B hB
   rcases List.mem_append.1 hB with hB | hB
   ·rcases List.mem_append.1 hB with hB | hB
    ·exact h.good B hB
    ·exact hp.good B hB
   ·rw [List.mem_singleton] at hB;rw [hB];exact hgood
 ·rw [if_neg hc]
  have hl:lwW s1 u < (s0.vis.length:Int)+1:=by omega
  obtain ⟨c,hcC,j,hj,hji,ho,he⟩:=wit hl
  have hA:=h.back_act hg h0 (c:=c) (fun k=>hcn c hcC (h.old_in hg h0 k)) hj ho
  obtain ⟨b,hb⟩:=h.no_root hg h0 hA
  obtain ⟨_,b2,_⟩:=h.by_out hg h0 hb
  have hbi:RelB g.es b i:=by
   refine .step .refl (atP_mem.1 b2).1 hil ⟨v,(atP_mem.1 b2).2,hend,?_⟩
   refine (((hp.cn c hcC).mono fun z hz=>?_).trans (.step (.refl ?_) (oth_nbr hj) ?_) |>.trans (h.act_to hg h0 hb hA)).symm
   ·intro e;subst e;exact hcn _ hz hvs
   ·intro e;subst e;exact hcn _ hcC hvs
   ·exact hold1 _ ho
  refine ⟨_,D++C,T++(i::T'),N++N',rfl,base _ _ _ rfl rfl ?_ ?_ ?_ ?_ ?_⟩
  ·show s1.stk=_
   rw [hp.stk];show (s.stk++[i])++T'=_;rw [h.stk];simp
  ·show s1.out=_
   rw [hp.out];show s.out++N'=_;rw [h.out];simp
  ·simp only [List.flatten_append,List.append_assoc,List.cons_append]
   refine List.Perm.append_left _ ?_
   have:(i::(T'++(N.flatten++N'.flatten))).Perm (N.flatten++(i::(T'++N'.flatten))):=by
    refine List.Perm.trans ?_ List.perm_middle.symm
    refine List.Perm.cons _ ?_
    rw [← List.append_assoc,← List.append_assoc]
    exact List.Perm.append_right _ List.perm_append_comm
   exact this
  ·intro k hk
   rcases List.mem_append.1 hk with hk | hk
   ·exact h.rel k hk
   ·refine ⟨b,hb,hbi.trans ?_⟩
    rcases List.mem_cons.1 hk with e | e
    ·rw [e];exact .refl
    ·obtain ⟨b',hb',hr⟩:=hp.rel k e
     obtain rfl:i=b':=by omega
     exact hr
  ·intro B hB
   rcases List.mem_append.1 hB with hB | hB
   ·exact h.good B hB
   ·exact hp.good B hB
end
end Go.Proofs.YtkcokoefodgigaaGreat.Aw
namespace Go.Proofs.YtkcokoefodgigaaGreat.Aw
open Go Go.RowKit Go.Proofs.YtkcokoefodgigaaGreat.Pl Go.Proofs.YtkcokoefodgigaaGreat.Eu
set_option linter.unusedSimpArgs false
set_option linter.unusedVariables false
section
variable {g:Gr} (hg:GoodE g)
include hg
theorem loop_ok (n:Nat) (ih:∀ (A:Int→Prop) (s:Bw) (v by_:Int),BPre g A s v by_→v∈g.vs→(∀ w∈s.vis,w∈g.vs)→g.vs.length≤n+s.vis.length→∃ s1 C T N,visF g.es n v by_ s=some s1∧BPost g s v by_ s1 C T N∧∀ c∈C,c∈g.vs)
 {A:Int→Prop} {s0:Bw} {v by_:Int} (h0:BPre g A s0 v by_) (hn:g.vs.length≤n+(s0.vis.length+1)):
 ∀ (R Q:List Nat) (s:Bw) (D:List Int) (T:List Nat) (N:List (List Nat)),Q++R=atP g.es v→BLp g s0 v by_ Q s D T N→(∀ w∈s.vis,w∈g.vs)→
  ∃ s1 D T N,goB (stepB (visF g.es n) g.es v by_ ((s0.vis.length:Int)+1)) R s=some s1∧BLp g s0 v by_ (atP g.es v) s1 D T N∧∀ w∈s1.vis,w∈g.vs
 | [],Q,s,D,T,N,hQ,h,hv=>⟨s,D,T,N,rfl,by rw [List.append_nil] at hQ;rw [← hQ];exact h,hv⟩
 | i::R,Q,s,D,T,N,hQ,h,hv=>by
   have hi:i∈atP g.es v:=by rw [← hQ];simp
   have hnd:(atP g.es v).Nodup:=List.Pairwise.filter _ List.nodup_range
   have hiQ:i∉Q:=fun k=>by rw [← hQ,List.nodup_append] at hnd;exact hnd.2.2 i k i (by simp) rfl
   have hQ2:(Q++[i])++R=atP g.es v:=by rw [← hQ];simp
   have go:∀ s2 D T N,stepB (visF g.es n) g.es v by_ ((s0.vis.length:Int)+1) s i=some s2→BLp g s0 v by_ (Q++[i]) s2 D T N→(∀ w∈s2.vis,w∈g.vs)→∃ s1 D T N,goB (stepB (visF g.es n) g.es v by_ ((s0.vis.length:Int)+1)) (i::R) s=some s1∧BLp g s0 v by_ (atP g.es v) s1 D T N∧∀ w∈s1.vis,w∈g.vs:=fun s2 D T N e h2 hv2=>by
    obtain ⟨s1,D1,T1,N1,k1,k2,k3⟩:=loop_ok n ih h0 hn R (Q++[i]) s2 D T N hQ2 h2 hv2
    exact ⟨s1,D1,T1,N1,by rw [goB,e];exact k1,k2,k3⟩
   by_cases hb:(i:Int)=by_
   ·exact go s D T N (by unfold stepB;rw [if_pos hb]) (h.same hg h0 hi hb) hv
   by_cases hin:oth (eAt g.es i) v∈s.vis
   ·by_cases hnm:nmW s.vis (oth (eAt g.es i) v) < (s0.vis.length:Int)+1
    ·exact go _ D _ N (by unfold stepB;rw [if_neg hb,if_pos hin,if_pos hnm]) (h.back hg h0 hi hiQ hb hin hnm) hv
    ·exact go s D T N (by unfold stepB;rw [if_neg hb,if_pos hin,if_neg hnm]) (h.skip hg h0 hi hin hnm) hv
   ·have hlen:s.vis.length=s0.vis.length+1+D.length:=by rw [h.vis,List.length_append,List.length_cons];omega
    have huv:oth (eAt g.es i) v∈g.vs:=hg.nbr (oth_nbr hi)
    obtain ⟨s1,C,T',N',e,hp,hC⟩:=ih _ (pushW s i) _ i (h.pre hg h0 hi hin) huv hv (by show g.vs.length≤n+s.vis.length;omega)
    obtain ⟨s2,D2,T2,N2,e2,h2⟩:=h.child hg h0 hi hiQ hb hin hp
    refine go s2 D2 T2 N2 (by unfold stepB;rw [if_neg hb,if_neg hin,e];exact e2) h2 fun w hw=>?_
    have e3:s2.vis=s1.vis:=by
     unfold lowB at e2
     split at e2
     ·unfold cutW at e2
      split at e2
      ·cases e2;rfl
      ·cases e2
     ·cases e2;rfl
    rw [e3,hp.vis,List.mem_append] at hw
    exact hw.elim (hv w) (hC w)
theorem vis_ok:∀ (n:Nat) (A:Int→Prop) (s:Bw) (v by_:Int),BPre g A s v by_→v∈g.vs→(∀ w∈s.vis,w∈g.vs)→g.vs.length≤n+s.vis.length→∃ s1 C T N,visF g.es n v by_ s=some s1∧BPost g s v by_ s1 C T N∧∀ c∈C,c∈g.vs
 | 0,A,s,v,by_,h,hv,hs,hn=>by
   have h1:(s.vis++[v]).length≤g.vs.length:=List.Nodup.length_le_of_subset (by
    rw [List.nodup_append]
    exact ⟨h.nd,by simp,fun a ha b hb=>by rintro rfl;rw [List.mem_singleton] at hb;subst hb;exact h.new ha⟩) fun w hw=>by
     rcases List.mem_append.1 hw with k | k
     ·exact hs w k
     ·rw [List.mem_singleton] at k;rw [k];exact hv
   simp at h1
   omega
 | n+1,A,s,v,by_,h,hv,hs,hn=>by
   obtain ⟨s1,D,T,N,e,h1,hs1⟩:=loop_ok hg n (vis_ok n) h (by omega) (atP g.es v) [] (newW s v) [] [] [] rfl h.start fun w hw=>by
    have hw:w∈s.vis++[v]:=hw
    rcases List.mem_append.1 hw with k | k
    ·exact hs w k
    ·rw [List.mem_singleton] at k;rw [k];exact hv
   have hp:=h1.done hg h
   exact ⟨s1,_,T,N,e,hp,fun c hc=>hs1 c (by rw [hp.vis];exact List.mem_append_right _ hc)⟩
structure BAll (g:Gr) (s:Bw):Prop where
 ln:s.low.length=s.vis.length
 nd:s.vis.Nodup
 sub:∀ w∈s.vis,w∈g.vs
 fin:∀ w∈s.vis,∀ i∈atP g.es w,oth (eAt g.es i) w∈s.vis
 stk:s.stk=[]
 pl:∀ i,i∈s.out.flatten↔i < g.es.length∧(eAt g.es i).a∈s.vis
 pn:s.out.flatten.Nodup
 good:∀ B∈s.out,BlkOk g.es B
theorem all_ok (n:Nat) (hn:g.vs.length≤n):∀ (l:List Int) (s:Bw),(∀ v∈l,v∈g.vs)→BAll g s→∃ s1,allB g.es n l s=some s1∧BAll g s1∧(∀ v∈s.vis,v∈s1.vis)∧∀ v∈l,v∈s1.vis
 | [],s,_,h=>⟨s,rfl,h,fun _ h=>h,fun v hv=>by cases hv⟩
 | v::l,s,hl,h=>by
   by_cases hv:v∈s.vis
   ·obtain ⟨s1,e,k1,k2,k3⟩:=all_ok n hn l s (fun w hw=>hl w (List.mem_cons_of_mem _ hw)) h
    refine ⟨s1,by rw [allB,if_pos hv];exact e,k1,k2,fun w hw=>?_⟩
    rcases List.mem_cons.1 hw with rfl | hw
    ·exact k2 _ hv
    ·exact k3 _ hw
   ·have hpre:BPre g (fun _=>False) s v (-1):=⟨h.ln,h.nd,fun a ha=>ha.elim,fun w hw _=>h.fin w hw,hv,fun a b ha=>ha.elim,.inl ⟨rfl,fun a ha=>ha⟩⟩
    obtain ⟨s1,C,T,N,e,hp,hC⟩:=vis_ok hg n _ s v (-1) hpre (hl v (by simp)) h.sub (by omega)
    have hT:T=[]:=by
     cases T with
     | nil=>rfl
     | cons i T=>
       obtain ⟨b,hb,_⟩:=hp.rel i (by simp)
       omega
    subst hT
    have hcl:∀ w∈s1.vis,∀ i∈atP g.es w,oth (eAt g.es i) w∈s1.vis:=fun w hw i hi=>by
     have hw2:=hw
     rw [hp.vis,List.mem_append] at hw2
     rcases hw2 with k | k
     ·rw [hp.vis];exact List.mem_append_left _ (h.fin w k i hi)
     ·exact hp.clo w k i hi
    have hall:BAll g s1:={
     ln:=hp.ln
     nd:=hp.nd
     sub:=fun w hw=>by
      rw [hp.vis,List.mem_append] at hw
      exact hw.elim (h.sub w) (hC w)
     fin:=hcl
     stk:=by rw [hp.stk,h.stk];rfl
     pl:=fun i=>by
      have h2:=hp.pl i
      rw [List.nil_append] at h2
      rw [hp.out,List.flatten_append,List.mem_append,h.pl i,h2,hp.vis,List.mem_append]
      constructor
      ·rintro (⟨k1,k2⟩ | ⟨k1,_,k2⟩)
       ·exact ⟨k1,.inl k2⟩
       ·refine ⟨k1,?_⟩
        rcases k2 with k2 | k2
        ·exact .inr k2
        ·have:=hp.clo _ k2 i (atP_mem.2 ⟨k1,.inr rfl⟩)
         rw [hp.vis,List.mem_append] at this
         have e1:oth (eAt g.es i) (eAt g.es i).b=(eAt g.es i).a:=by unfold oth;split<;>first | (next q=>exact q.symm) | rfl
         rwa [e1] at this
      ·rintro ⟨k1,k2 | k2⟩
       ·exact .inl ⟨k1,k2⟩
       ·exact .inr ⟨k1,by omega,.inl k2⟩
     pn:=by
      have h2:=hp.pn
      rw [List.nil_append] at h2
      rw [hp.out,List.flatten_append,List.nodup_append]
      refine ⟨h.pn,h2,fun a ha b hb=>?_⟩
      rintro rfl
      have k1:=(h.pl a).1 ha
      have k2:=(hp.pl a).1 (by rw [List.nil_append];exact hb)
      have hd:∀ c∈C,c∉s.vis:=fun c hc k=>by
       have:=hp.nd
       rw [hp.vis,List.nodup_append] at this
       exact this.2.2 c k c hc rfl
      rcases k2.2.2 with k | k
      ·exact hd _ k k1.2
      ·have:=h.fin _ k1.2 a (atP_mem.2 ⟨k1.1,.inl rfl⟩)
       have e1:oth (eAt g.es a) (eAt g.es a).a=(eAt g.es a).b:=by unfold oth;rw [if_pos rfl]
       rw [e1] at this
       exact hd _ k this
     good:=fun B hB=>by
      rw [hp.out,List.mem_append] at hB
      exact hB.elim (h.good B) (hp.good B) }
    obtain ⟨s2,e2,k1,k2,k3⟩:=all_ok n hn l s1 (fun w hw=>hl w (List.mem_cons_of_mem _ hw)) hall
    refine ⟨s2,by rw [allB,if_neg hv,e];exact e2,k1,fun w hw=>k2 w (by rw [hp.vis];exact List.mem_append_left _ hw),fun w hw=>?_⟩
    rcases List.mem_cons.1 hw with rfl | hw
    ·exact k2 _ (by rw [hp.vis];exact List.mem_append_right _ hp.hd)
    ·exact k3 _ hw
theorem blocks_ok:∃ s,allB g.es g.vs.length g.vs ⟨[],[],[],[]⟩=some s∧s.stk=[]∧(∀ i,i∈s.out.flatten↔i < g.es.length)∧s.out.flatten.Nodup∧∀ B∈s.out,BlkOk g.es B:=by
 obtain ⟨s,e,h,_,h3⟩:=all_ok hg g.vs.length (Nat.le_refl _) g.vs ⟨[],[],[],[]⟩ (fun _ h=>h) ⟨rfl,.nil,fun w hw=>(by cases hw),fun w hw=>(by cases hw),rfl,fun i=>by simp,by simp,fun B hB=>(by cases hB)⟩
 refine ⟨s,e,h.stk,fun i=>?_,h.pn,h.good⟩
 rw [h.pl i]
 exact and_iff_left_of_imp fun hi=>h3 _ (hg.ends _ (eAt_mem hi)).1
end
end Go.Proofs.YtkcokoefodgigaaGreat.Aw
namespace Go.Proofs.YtkcokoefodgigaaGreat.Aw
open Go Go.RowKit Go.Proofs.YtkcokoefodgigaaGreat.Pl
set_option linter.unusedSimpArgs false
set_option linter.unusedVariables false
section
variable {α:Type} (f:α→Int)
end
end Go.Proofs.YtkcokoefodgigaaGreat.Aw
namespace Go.Proofs.YtkcokoefodgigaaGreat.Aw
open Go Go.RowKit Go.Proofs.YtkcokoefodgigaaGreat.Pl Go.Proofs.YtkcokoefodgigaaGreat.Eu
set_option linter.unusedSimpArgs false
set_option linter.unusedVariables false
section
variable {g:Gr} (hg:GoodE g)
include hg
end
noncomputable def clsB (es:List Ed) (i:Nat):List Nat:=(List.range es.length).filter fun j=>@decide (RelB es i j) (Classical.propDecidable _)
theorem clsB_mem {es:List Ed} {i j:Nat}:j∈clsB es i↔j < es.length∧RelB es i j:=by
 unfold clsB;rw [List.mem_filter,List.mem_range,@decide_eq_true_iff _ (Classical.propDecidable _)]
theorem clsB_rise (es:List Ed) (i:Nat):(clsB es i).Pairwise (· < ·):=List.Pairwise.filter _ List.pairwise_lt_range
noncomputable def ledB (es:List Ed):List (List Nat):=((List.range es.length).filter fun i=>decide ((clsB es i).headD 0=i)).map (clsB es)
theorem head_mem {l:List Nat} (h:l≠[]):l.headD 0∈l:=by
 cases l with
 | nil=>exact absurd rfl h
 | cons a l=>simp
theorem BlkOk.cls {es:List Ed} {B:List Nat} (h:BlkOk es B) {i:Nat} (hi:i∈B):B=clsB es i:=by
 have hn:B.Nodup:=h.rise.imp fun k=>Nat.ne_of_lt k
 have hn':(clsB es i).Nodup:=(clsB_rise es i).imp fun k=>Nat.ne_of_lt k
 have hp:B.Perm (clsB es i):=(List.perm_ext_iff_of_nodup hn hn').2 fun k=>by rw [clsB_mem,← h.iff hi];exact ⟨fun q=>⟨h.lt k q,q⟩,fun q=>q.2⟩
 exact hp.eq_of_pairwise (fun a b _ _ h1 h2=>absurd h1 (by omega)) h.rise (clsB_rise es i)
theorem blocks_led {es:List Ed} {out B:List (List Nat)} (hall:∀ i,i∈out.flatten↔i < es.length) (hok:∀ B∈out,BlkOk es B) (hp:B.Perm out) (hr:B.Pairwise fun x y=>x.headD 0 < y.headD 0):B=ledB es:=by
 have hmem:∀ b,b∈B↔b∈ledB es:=fun b=>by
  unfold ledB
  rw [hp.mem_iff,List.mem_map]
  constructor
  ·intro hb
   have ho:=hok b hb
   have hh:=head_mem ho.ne
   have hc:=ho.cls hh
   refine ⟨b.headD 0,?_,hc.symm⟩
   rw [List.mem_filter,List.mem_range,decide_eq_true_iff,← hc]
   exact ⟨ho.lt _ hh,rfl⟩
  ·rintro ⟨i,hi,rfl⟩
   rw [List.mem_filter,List.mem_range,decide_eq_true_iff] at hi
   obtain ⟨b,hb,hib⟩:=List.mem_flatten.1 ((hall i).2 hi.1)
   rw [← (hok b hb).cls hib]
   exact hb
 have hl:(ledB es).Pairwise fun x y=>x.headD 0 < y.headD 0:=by
  unfold ledB
  rw [List.pairwise_map]
  refine (List.Pairwise.filter (fun i=>decide ((clsB es i).headD 0=i)) (List.pairwise_lt_range (n:=es.length))).imp_of_mem ?_
  intro a b ha hb hab
  rw [List.mem_filter,decide_eq_true_iff] at ha hb
  rw [ha.2,hb.2]
  exact hab
 have hpp:B.Perm (ledB es):=(List.perm_ext_iff_of_nodup (hr.imp fun k e=>by rw [e] at k;omega) (hl.imp fun k e=>by rw [e] at k;omega)).2 hmem
 exact hpp.eq_of_pairwise (fun a b _ _ h1 h2=>absurd h1 (by omega)) hr hl
def lessE (es:List Ed) (v:Int):List Ed:=es.filter fun x=>decide (x.a≠v∧x.b≠v)
theorem reach_less {es:List Ed} {v p q:Int} (hp:p≠v):Reach (lessE es v) p q↔RIn es (·≠v) p q:=by
 constructor
 ·intro h
  induction h with
  | refl=>exact .refl hp
  | @step y z _ hw ih=>
    rw [mem_nbr] at hw
    obtain ⟨x,hx,h⟩:=hw
    unfold lessE at hx
    rw [List.mem_filter,decide_eq_true_iff] at hx
    refine .step ih (mem_nbr.2 ⟨x,hx.1,h⟩) ?_
    rcases h with ⟨_,rfl⟩ | ⟨_,rfl⟩
    ·exact hx.2.2
    ·exact hx.2.1
 ·intro h
  induction h with
  | refl=>exact .refl
  | @step y z h hn hs ih=>
    have hy:=h.here.2
    rw [mem_nbr] at hn
    obtain ⟨x,hx,k⟩:=hn
    refine .step ih (mem_nbr.2 ⟨x,?_,k⟩)
    unfold lessE
    rw [List.mem_filter,decide_eq_true_iff]
    refine ⟨hx,?_⟩
    rcases k with ⟨k1,k2⟩ | ⟨k1,k2⟩
    ·exact ⟨by rw [k1];exact hy,by rw [k2];exact hs⟩
    ·exact ⟨by rw [k2];exact hs,by rw [k1];exact hy⟩
theorem less_good {g:Gr} (h:Good g) (v:Int):Good ⟨g.vs.filter fun w=>decide (w≠v),lessE g.es v⟩ where
 rise:=List.Pairwise.filter _ h.rise
 ends:=fun x hx=>by
  unfold lessE at hx
  rw [List.mem_filter,decide_eq_true_iff] at hx
  obtain ⟨h1,h2⟩:=h.ends x hx.1
  exact ⟨List.mem_filter.2 ⟨h1,by simpa using hx.2.1⟩,List.mem_filter.2 ⟨h2,by simpa using hx.2.2⟩⟩
theorem ring_iff {es:List Ed} {x y:Ed}:RingE es x y↔RingAt es x.a x y∨RingAt es x.b x y:=by
 constructor
 ·rintro ⟨w,h1 | h1,h2⟩
  ·subst h1;exact .inl ⟨.inl rfl,h2⟩
  ·subst h1;exact .inr ⟨.inr rfl,h2⟩
 ·rintro (h | h)
  ·exact ⟨_,h⟩
  ·exact ⟨_,h⟩
theorem oth_sum {x:Ed} {v:Int} (h:x.a=v∨x.b=v):x.a+x.b - v=oth x v:=by
 unfold oth;split<;>omega
def idP (es:List Ed) (K:List Nat):List Int:=K.map fun i=>(eAt es i).id
theorem idP_mem {es:List Ed} (h:es.Pairwise fun x y=>x.id < y.id) {K:List Nat} (hK:∀ i∈K,i < es.length) {j:Nat} (hj:j < es.length):(eAt es j).id∈idP es K↔j∈K:=by
 unfold idP
 rw [List.mem_map]
 refine ⟨fun ⟨i,hi,e⟩=>?_,fun hj=>⟨j,hj,rfl⟩⟩
 have hil:=hK i hi
 unfold eAt at e
 rw [getE_lt _ _ hil,getE_lt _ _ hj] at e
 rw [List.pairwise_iff_getElem] at h
 rcases Nat.lt_trichotomy i j with k | k | k
 ·have:=h i j hil hj k;omega
 ·subst k;exact hi
 ·have:=h j i hj hil k;omega
structure GrwB (es:List Ed) (f:Nat) (K:List Nat):Prop where
 nd:K.Nodup
 lt:∀ i∈K,i < es.length
 hd:f∈K
 rel:∀ i∈K,RelB es f i
theorem GrwB.add {es:List Ed} {f:Nat} {K:List Nat} (h:GrwB es f K) {i j:Nat} (hi:i∈K) (hj:j < es.length) (hn:j∉K) (hr:RingE es (eAt es i) (eAt es j)):GrwB es f (K++[j]) where
 nd:=by
  rw [List.nodup_append]
  exact ⟨h.nd,by simp,fun a ha b hb=>by rintro rfl;rw [List.mem_singleton] at hb;subst hb;exact hn ha⟩
 lt:=fun k hk=>by
  rcases List.mem_append.1 hk with k1 | k1
  ·exact h.lt k k1
  ·rw [List.mem_singleton] at k1;rw [k1];exact hj
 hd:=List.mem_append_left _ h.hd
 rel:=fun k hk=>by
  rcases List.mem_append.1 hk with k1 | k1
  ·exact h.rel k k1
  ·rw [List.mem_singleton] at k1;rw [k1];exact .step (h.rel i hi) (h.lt i hi) hj hr
theorem GrwB.le {es:List Ed} {f:Nat} {K:List Nat} (h:GrwB es f K):K.length≤es.length:=by
 have:=List.Nodup.length_le_of_subset h.nd (l₂:=List.range es.length) fun i hi=>List.mem_range.2 (h.lt i hi)
 simpa using this
theorem GrwB.done {es:List Ed} {f:Nat} {K:List Nat} (h:GrwB es f K) (hc:∀ i∈K,∀ j,j < es.length→RingE es (eAt es i) (eAt es j)→j∈K) {j:Nat} (hj:j < es.length):j∈K↔j∈clsB es f:=by
 rw [clsB_mem]
 refine ⟨fun k=>⟨hj,h.rel j k⟩,fun k=>?_⟩
 have hr:=k.2
 clear k hj
 induction hr with
 | refl=>exact h.hd
 | step _ hj hk hr ih=>exact hc _ ih _ hk hr
theorem filter_places {es:List Ed} {p:Ed→Bool} {P:List Nat} (hP:P.Pairwise (· < ·)) (hl:∀ i∈P,i < es.length) (h:∀ j,j < es.length→(p (eAt es j)=true↔j∈P)):es.filter p=P.map (eAt es):=by
 have h1:es=(List.range es.length).map (eAt es):=by
  refine List.ext_getElem (by simp) fun k h1 h2=>?_
  rw [List.getElem_map,List.getElem_range]
  exact (getE_lt _ _ h1).symm
 have h2:(List.range es.length).filter (p∘eAt es)=P:=by
  have hp:((List.range es.length).filter (p∘eAt es)).Perm P:=(List.perm_ext_iff_of_nodup (List.Pairwise.filter _ List.nodup_range) (hP.imp fun k=>Nat.ne_of_lt k)).2 fun k=>by
   rw [List.mem_filter,List.mem_range]
   refine ⟨fun q=>(h k q.1).1 q.2,fun q=>⟨hl k q,(h k (hl k q)).2 q⟩⟩
  exact hp.eq_of_pairwise (fun a b _ _ h1 h2=>absurd h1 (by omega)) (List.Pairwise.filter _ List.pairwise_lt_range) hP
 conv=>lhs;rw [h1]
 rw [List.filter_map,h2]
end Go.Proofs.YtkcokoefodgigaaGreat.Aw
namespace Go.Proofs.YtkcokoefodgigaaGreat.Aw
open Go Go.RowKit Go.Proofs.YtkcokoefodgigaaGreat.Pl
set_option linter.unusedSimpArgs false
set_option linter.unusedVariables false
theorem getDE (l:List Ed) (j:Nat) (hj:j < l.length):l.getD j ed0=l[j]:=by
 rw [List.getD_eq_getElem?_getD,List.getElem?_eq_getElem hj];rfl
theorem eds_append (a b:List Ed):eds (a++b)=eds a++eds b:=by simp [eds]
theorem eds_tk (l:List Ed) (k:Nat):(eds l).take (k * 3)=eds (l.take k):=by
 induction l generalizing k with
 | nil=>simp [eds]
 | cons x l ih=>
   cases k with
   | zero=>simp [eds]
   | succ k=>
     rw [show (k+1) * 3=k * 3+1+1+1 by omega]
     simp only [eds,List.flatMap_cons,edL,List.cons_append,List.nil_append,List.take_succ_cons]
     have:=ih k
     simp only [eds,edL] at this
     rw [this]
theorem eds_dr (l:List Ed) (k:Nat):(eds l).drop (k * 3)=eds (l.drop k):=by
 induction l generalizing k with
 | nil=>simp [eds]
 | cons x l ih=>
   cases k with
   | zero=>simp [eds]
   | succ k=>
     rw [show (k+1) * 3=k * 3+1+1+1 by omega]
     simp only [eds,List.flatMap_cons,edL,List.cons_append,List.nil_append,List.drop_succ_cons]
     have:=ih k
     simpa only [eds,edL] using this
theorem eds_set (l:List Ed) (k:Nat) (x:Ed) (hk:k < l.length):(eds l).take (k * 3)++(u x.id::u x.a::u x.b::(eds l).drop (k * 3+3))=eds (l.set k x):=by
 rw [show k * 3+3=(k+1) * 3 by omega,eds_tk,eds_dr,List.set_eq_take_append_cons_drop,if_pos hk,eds_append]
 rfl
def be (st:St) (q:Nat) (c:List Ed):St:=st.set q (.box 34 3 (eds c))
@[simp] theorem be_next (st:St) (q:Nat) (c:List Ed):(be st q c).next=st.next:=rfl
@[simp] theorem be_H (st:St) (q:Nat) (c:List Ed):(be st q c).H q=.box 34 3 (eds c):=by simp [be]
end Go.Proofs.YtkcokoefodgigaaGreat.Aw
namespace Go.Proofs.YtkcokoefodgigaaGreat.Aw.CE
open Go Go.RowKit Go.Proofs.YtkcokoefodgigaaGreat.Pl
set_option linter.unusedSimpArgs false
set_option linter.unusedVariables false
structure CmpW (fid:FuncId) (caps:List LV) (eg:Int→Ed) (Dm:Int→Prop):Prop where
 call:∀ x y st,Dm x→Dm y→ACalls Tryz.prog fid ([.ag (edL (eg x)),.ag (edL (eg y))]++caps) st fun r st'=>(∃ n,r=i n∧(n < 0↔x < y))∧st'=st
def es3 (eg:Int→Ed) (c:List Int):List LV:=eds (c.map eg)
theorem es3_length (eg:Int→Ed) (c:List Int):(es3 eg c).length=c.length * 3:=by unfold es3;rw [eds_length,List.length_map]
theorem ws_drop (eg:Int→Ed) (l:List Int) (j:Nat) (hj:j < l.length):(es3 eg l).drop (j * 3)=u (eg (l.getD j 0)).id::u (eg (l.getD j 0)).a::u (eg (l.getD j 0)).b::es3 eg (l.drop (j+1)):=by
 unfold es3
 rw [eds_drop _ _ (by simpa using hj),List.map_drop]
 have e:(l.map eg).getD j ed0=eg (l.getD j 0):=by
  rw [getDE _ _ (by simpa using hj),getD_lt _ _ hj,List.getElem_map]
 rw [e]
theorem ws_set (eg:Int→Ed) (c:List Int) (k:Nat) (x:Int) (hk:k < c.length):(es3 eg c).take (k * 3)++u (eg x).id::u (eg x).a::u (eg x).b::(es3 eg c).drop (k * 3+3)=es3 eg (c.set k x):=by
 unfold es3
 rw [eds_set _ _ _ (by simpa using hk),List.map_set]
theorem dm_get {Dm:Int→Prop} {l:List Int} (h:∀ x∈l,Dm x) {k:Nat} (hk:k < l.length):Dm (l.getD k 0):=h _ (by rw [getD_lt _ _ hk];exact List.getElem_mem _)
theorem dm_pm {Dm:Int→Prop} {a b:Nat} {l c:List Int} (h:∀ x∈l,Dm x) (k:Pm a b l c):∀ x∈c,Dm x:=fun x hx=>h x (k.perm.mem_iff.1 hx)
abbrev bx (eg:Int→Ed) (st:St) (q:Nat) (c:List Int):St:=st.set q (.box 34 3 (es3 eg c))
theorem bx_self {eg:Int→Ed} {st:St} {q:Nat} {c:List Int} (h:st.H q=.box 34 3 (es3 eg c)):st=bx eg st q c:=
 St.ext' rfl fun x=>by by_cases hx:x=q<;>simp [hx,h]
theorem bx_sw (eg:Int→Ed) (st:St) (q:Nat) (c:List Int) (k m:Nat) {x y:Int} (hk:k < c.length) (hm:m < c.length) (hx:c.getD k 0=x) (hy:c.getD m 0=y):
 ((bx eg st q c).set q (.box 34 3 (List.take (k * 3) (es3 eg c)++u (eg y).id::u (eg y).a::u (eg y).b::List.drop (k * 3+3) (es3 eg c)))).set q
   (.box 34 3 (List.take (m * 3) (List.take (k * 3) (es3 eg c)++u (eg y).id::u (eg y).a::u (eg y).b::List.drop (k * 3+3) (es3 eg c))++u (eg x).id::u (eg x).a::u (eg x).b::List.drop (m * 3+3) (List.take (k * 3) (es3 eg c)++u (eg y).id::u (eg y).a::u (eg y).b::List.drop (k * 3+3) (es3 eg c))))=bx eg st q (sw c k m):=by
 have e:List.take (k * 3) (es3 eg c)++u (eg y).id::u (eg y).a::u (eg y).b::List.drop (k * 3+3) (es3 eg c)=es3 eg (c.set k y):=ws_set eg c k y hk
 rw [e,ws_set eg (c.set k y) m x (by simpa using hm)]
 unfold bx sw
 rw [hx,hy]
 exact St.ext' rfl fun z=>by by_cases hz:z=q<;>simp [hz]
theorem insertionSort {fid:FuncId} {caps:List LV} {eg:Int→Ed} {Dm:Int→Prop} (hC:CmpW fid caps eg Dm) (l:List Int) (q a b:Nat) (st:St) (hD:∀ x∈l,Dm x) (hl:small l) (ha:a≤b) (hb:b≤l.length) (hH:st.H q=.box 34 3 (es3 eg l)):
 ACalls Tryz.prog 82 [.ms q 0 l.length,i a,i b,.fn (.func fid) caps] st fun r st'=>∃ c,st'=bx eg st q c∧Pm a b l c∧Srt a b c:=by
 unfold small at hl
 refine qO tabOk Tryz.func82 rfl rfl Tryz.ntmps82 (rs:=[]) rfl (by simp) ?_
 have hw0:=qN a (by omega)
 (repeat' (first | refine qS ?_ | refine qB ?_ | ((first | refine qK ?_ | refine qX ?_);simp only [ak,reduceIte]) | (refine qR ?_;simp only [ak,reduceIte];simp [hw0]) | (refine qC ?_;simp [hw0];(try with_reducible refine ⟨?_,?_⟩)<;>(try with_reducible intro hc)<;>try (exfalso;omega)) | ((first | (refine w_e [] ?_;intro J hJ;simp only []) | (refine w_q ?_;intro J hJ) | refine e_go ?_);simp [hw0];(repeat refine ca ?_);(try ((try with_reducible refine ⟨?_,?_⟩)<;>(try with_reducible intro hnil)<;>refine hJ _ _ ?_<;>clear hJ J<;>simp only [ak,reduceIte]<;>try subst hnil)))))
 refine qL (fun n fr st'=>∃ (k:Nat) (c:List Int),a < k∧n=b - k∧(fr 0=.ms q 0 l.length∧fr 3=.fn (.func fid) caps)∧fr 1=i a∧fr 2=i b∧fr 8=i k∧st'=bx eg st q c∧Pm a b l c∧Srt a k c) (b - (a+1)) ?_ ?_
 ·exact ⟨a+1,l,by omega,rfl,by simp,by simp,by simp,by simp,bx_self hH,.refl,fun p q h1 h2 h3=>by omega⟩
 rintro n fr st1 ⟨k,c,hak,rfl,⟨f0,fC⟩,f1,f2,f6,rfl,hpm,hs⟩ JJ hJJ
 have hcl:=hpm.len
 have hDc:=dm_pm hD hpm
 by_cases hlt:k < b
 rotate_left
 ·clear hJJ
  have hlt':¬ (k:Int) < (b:Int):=by omega
  (repeat' (first | refine qS ?_ | refine qB ?_ | ((first | refine qK ?_ | refine qX ?_);simp only [ak,reduceIte]) | (refine qR ?_;simp only [ak,reduceIte];simp [f0,fC,f1,f2,f6,hlt]) | (refine qC ?_;simp [f0,fC,f1,f2,f6,hlt];(try with_reducible refine ⟨?_,?_⟩)<;>(try with_reducible intro hc)<;>try (exfalso;omega)) | ((first | (refine w_e [] ?_;intro J hJ;simp only []) | (refine w_q ?_;intro J hJ) | refine e_go ?_);simp [f0,fC,f1,f2,f6,hlt];(repeat refine ca ?_);(try ((try with_reducible refine ⟨?_,?_⟩)<;>(try with_reducible intro hnil)<;>refine hJ _ _ ?_<;>clear hJ J<;>simp only [ak,reduceIte]<;>try subst hnil)))))
  exact ⟨trivial,c,rfl,hpm,fun p q h1 h2 h3=>hs p q h1 h2 (by omega)⟩
 have hw1:=qN k (by omega)
 (repeat' (first | refine qS ?_ | refine qB ?_ | ((first | refine qK ?_ | refine qX ?_);simp only [ak,reduceIte]) | (refine qR ?_;simp only [ak,reduceIte];simp [f0,fC,f1,f2,f6,hlt]) | (refine qC ?_;simp [f0,fC,f1,f2,f6,hlt];(try with_reducible refine ⟨?_,?_⟩)<;>(try with_reducible intro hc)<;>try (exfalso;omega)) | ((first | (refine w_e [] ?_;intro J hJ;simp only []) | (refine w_q ?_;intro J hJ) | refine e_go ?_);simp [f0,fC,f1,f2,f6,hlt];(repeat refine ca ?_);(try ((try with_reducible refine ⟨?_,?_⟩)<;>(try with_reducible intro hnil)<;>refine hJ _ _ ?_<;>clear hJ J<;>simp only [ak,reduceIte]<;>try subst hnil)))))
 refine qL (fun n fr st'=>∃ (j:Nat) (c:List Int),a≤j∧j≤k∧j=n∧(fr 0=.ms q 0 l.length∧fr 3=.fn (.func fid) caps)∧fr 1=i a∧fr 2=i b∧fr 8=i k∧fr 9=i j∧st'=bx eg st q c∧Pm a b l c∧Ins a j k c) k ?_ ?_
 ·exact ⟨k,c,by omega,by omega,rfl,by simp [f0,fC],by simp [f1],by simp [f2],by simp [f6],by simp,rfl,hpm,hs.ins⟩
 clear f0 fC f1 f2 f6 hs hpm hcl hDc c fr
 rintro n fr st1 ⟨j,c,haj,hjk,rfl,⟨f0,fC⟩,f1,f2,f6,f7,rfl,hpm,hI⟩ JJ2 hJ2
 have hcl:=hpm.len
 have hDc:=dm_pm hD hpm
 by_cases hj:a < j
 rotate_left
 ·clear hJ2
  have hj':¬ (a:Int) < (j:Int):=by omega
  (repeat (refine qS ?_));(refine w_s [] [q] [(0,true),(1,true),(2,true),(3,true),(4,true),(5,true),(6,true),(7,true),(8,true),(9,true),(10,true),(11,true),(12,true),(13,true),(14,false),(15,true),(16,true)] ?_;intro J hJ;simp [f0,fC,f1,f2,f6,f7,hj];(repeat refine ca ?_);(try ((try with_reducible refine ⟨?_,?_⟩)<;>(try with_reducible intro hnil)<;>refine hJ _ _ ?_<;>clear hJ J<;>simp only [ak,reduceIte]<;>try subst hnil)))
  (repeat' (first | refine qS ?_ | refine qB ?_ | ((first | refine qK ?_ | refine qX ?_);simp only [ak,reduceIte]) | (refine qR ?_;simp only [ak,reduceIte];simp [f6,hw1]) | (refine qC ?_;simp [f6,hw1];(try with_reducible refine ⟨?_,?_⟩)<;>(try with_reducible intro hc)<;>try (exfalso;omega)) | ((first | (refine w_e [] ?_;intro J hJ;simp only []) | (refine w_q ?_;intro J hJ) | refine e_go ?_);simp [f6,hw1];(repeat refine ca ?_);(try ((try with_reducible refine ⟨?_,?_⟩)<;>(try with_reducible intro hnil)<;>refine hJ _ _ ?_<;>clear hJ J<;>simp only [ak,reduceIte]<;>try subst hnil)))))
  exact hJJ (b - (k+1)) _ _ (by omega) ⟨k+1,c,by omega,rfl,by simp [f0,fC],by simp [f1],by simp [f2],by simp,rfl,hpm,hI.done haj (.inl (by omega))⟩
 have hw2:=nat_sub_one j (by omega) (by omega)
 have hjl:j < l.length:=by omega
 have hjl1:j - 1 < l.length:=by omega
 have hd:=ws_drop eg c j (by omega)
 have hd2:=ws_drop eg c (j - 1) (by omega)
 have hI1:=hI.step hj hjk (by omega)
 have hI2:=hI.done haj
 have hpm1:=hpm.step j (j - 1) (by omega) (by omega) (by omega) (by omega) (by omega)
 generalize hx:c.getD j 0=x at *
 generalize hy:c.getD (j - 1) 0=y at *
 (repeat (refine qS ?_));(refine w_s [] [q] [(0,true),(1,true),(2,true),(3,true),(4,true),(5,true),(6,true),(7,true),(8,true),(9,true),(10,true),(11,true),(12,true),(13,true),(14,false),(15,true),(16,true)] ?_;intro J hJ;simp [f0,fC,f1,f2,f6,f7,hj,hw2,hjl,hjl1,hcl,hd,hd2,es3_length];(repeat refine ca ?_);(try ((try with_reducible refine ⟨?_,?_⟩)<;>(try with_reducible intro hnil)<;>refine hJ _ _ ?_<;>clear hJ J<;>simp only [ak,reduceIte]<;>try subst hnil)))
 refine dcallK_of (hC.call x y _ (by first | assumption | (subst_vars;exact dm_get (by assumption) (by omega))) (by first | assumption | (subst_vars;exact dm_get (by assumption) (by omega)))) ?_;rintro r s2 ⟨⟨nv,rfl,hnv⟩,rfl⟩
 refine ⟨fun _=>by simp,?_⟩
 by_cases hcd:x < y
 rotate_left
 ·clear hJ2
  (refine d_go ?_;simp [hnv,hcd];(repeat refine ca ?_);(try ((try with_reducible refine ⟨?_,?_⟩)<;>(try with_reducible intro hnil)<;>refine hJ _ _ ?_<;>clear hJ J<;>simp only [ak,reduceIte]<;>try subst hnil)))
  (repeat' (first | refine qS ?_ | refine qB ?_ | ((first | refine qK ?_ | refine qX ?_);simp only [ak,reduceIte]) | (refine qR ?_;simp only [ak,reduceIte];simp [f6,hw1]) | (refine qC ?_;simp [f6,hw1];(try with_reducible refine ⟨?_,?_⟩)<;>(try with_reducible intro hc)<;>try (exfalso;omega)) | ((first | (refine w_e [] ?_;intro J hJ;simp only []) | (refine w_q ?_;intro J hJ) | refine e_go ?_);simp [f6,hw1];(repeat refine ca ?_);(try ((try with_reducible refine ⟨?_,?_⟩)<;>(try with_reducible intro hnil)<;>refine hJ _ _ ?_<;>clear hJ J<;>simp only [ak,reduceIte]<;>try subst hnil)))))
  exact hJJ (b - (k+1)) _ _ (by omega) ⟨k+1,c,by omega,rfl,by simp [f0,fC],by simp [f1],by simp [f2],by simp,rfl,hpm,hI2 (.inr hcd)⟩
 clear hJJ
 (refine d_go ?_;simp [hnv,hcd];(repeat refine ca ?_);(try ((try with_reducible refine ⟨?_,?_⟩)<;>(try with_reducible intro hnil)<;>refine hJ _ _ ?_<;>clear hJ J<;>simp only [ak,reduceIte]<;>try subst hnil)))
 (repeat' (first | refine qS ?_ | refine qB ?_ | ((first | refine qK ?_ | refine qX ?_);simp only [ak,reduceIte]) | (refine qR ?_;simp only [ak,reduceIte];simp []) | (refine qC ?_;simp [];(try with_reducible refine ⟨?_,?_⟩)<;>(try with_reducible intro hc)<;>try (exfalso;omega)) | ((first | (refine w_e [] ?_;intro J hJ;simp only []) | (refine w_q ?_;intro J hJ) | refine e_go ?_);simp [];(repeat refine ca ?_);(try ((try with_reducible refine ⟨?_,?_⟩)<;>(try with_reducible intro hnil)<;>refine hJ _ _ ?_<;>clear hJ J<;>simp only [ak,reduceIte]<;>try subst hnil)))))
 (refine w_s [] [q] [(0,true),(1,true),(2,true),(3,true),(4,true),(5,true),(6,true),(7,true),(8,true),(9,true),(10,true),(11,true),(12,true),(13,true),(14,true),(15,false),(16,true),(17,false)] ?_;intro J hJ;simp [f0,fC,f1,f2,f6,f7,hw2,hjl,hjl1,hcl,hd,hd2,es3_length];(repeat refine ca ?_);(try ((try with_reducible refine ⟨?_,?_⟩)<;>(try with_reducible intro hnil)<;>refine hJ _ _ ?_<;>clear hJ J<;>simp only [ak,reduceIte]<;>try subst hnil)))
 (repeat' (first | refine qS ?_ | refine qB ?_ | ((first | refine qK ?_ | refine qX ?_);simp only [ak,reduceIte]) | (refine qR ?_;simp only [ak,reduceIte];simp [f7,hw2]) | (refine qC ?_;simp [f7,hw2];(try with_reducible refine ⟨?_,?_⟩)<;>(try with_reducible intro hc)<;>try (exfalso;omega)) | ((first | (refine w_e [] ?_;intro J hJ;simp only []) | (refine w_q ?_;intro J hJ) | refine e_go ?_);simp [f7,hw2];(repeat refine ca ?_);(try ((try with_reducible refine ⟨?_,?_⟩)<;>(try with_reducible intro hnil)<;>refine hJ _ _ ?_<;>clear hJ J<;>simp only [ak,reduceIte]<;>try subst hnil)))))
 exact hJ2 (j - 1) _ _ (by omega) ⟨j - 1,sw c j (j - 1),by omega,by omega,rfl,by simp [f0,fC],by simp [f1],by simp [f2],by simp [f6],by simp,bx_sw eg st q c j (j - 1) (by omega) (by omega) hx hy,hpm1,hI1 hcd⟩
theorem reverseRange {fid:FuncId} {caps:List LV} {eg:Int→Ed} {Dm:Int→Prop} (hC:CmpW fid caps eg Dm) (l:List Int) (q a b:Nat) (st:St) (hD:∀ x∈l,Dm x) (hl:small l) (ha:a≤b) (hb:b≤l.length) (h0:0 < b) (hH:st.H q=.box 34 3 (es3 eg l)):
 ACalls Tryz.prog 95 [.ms q 0 l.length,i a,i b,.fn (.func fid) caps] st fun r st'=>∃ c,st'=bx eg st q c∧Pm a b l c:=by
 unfold small at hl
 refine qO tabOk Tryz.func95 rfl rfl Tryz.ntmps95 (rs:=[]) rfl (by simp) ?_
 have hw0:=nat_sub_one b (by omega) (by omega)
 (repeat' (first | refine qS ?_ | refine qB ?_ | ((first | refine qK ?_ | refine qX ?_);simp only [ak,reduceIte]) | (refine qR ?_;simp only [ak,reduceIte];simp [hw0]) | (refine qC ?_;simp [hw0];(try with_reducible refine ⟨?_,?_⟩)<;>(try with_reducible intro hc)<;>try (exfalso;omega)) | ((first | (refine w_e [] ?_;intro J hJ;simp only []) | (refine w_q ?_;intro J hJ) | refine e_go ?_);simp [hw0];(repeat refine ca ?_);(try ((try with_reducible refine ⟨?_,?_⟩)<;>(try with_reducible intro hnil)<;>refine hJ _ _ ?_<;>clear hJ J<;>simp only [ak,reduceIte]<;>try subst hnil)))))
 refine qL (fun n fr st'=>∃ (k m:Nat) (c:List Int),a≤k∧m < b∧m=n∧(fr 0=.ms q 0 l.length∧fr 3=.fn (.func fid) caps)∧fr 8=i k∧fr 9=i m∧st'=bx eg st q c∧Pm a b l c) (b - 1) ?_ ?_
 ·exact ⟨a,b - 1,l,by omega,by omega,rfl,by simp,by simp,by simp,bx_self hH,.refl⟩
 rintro n fr st1 ⟨k,m,c,hak,hmb,rfl,⟨f0,fC⟩,f6,f7,rfl,hpm⟩ JJ hJJ
 have hcl:=hpm.len
 have hDc:=dm_pm hD hpm
 by_cases hlt:k < m
 rotate_left
 ·clear hJJ
  (repeat' (first | refine qS ?_ | refine qB ?_ | ((first | refine qK ?_ | refine qX ?_);simp only [ak,reduceIte]) | (refine qR ?_;simp only [ak,reduceIte];simp [f0,fC,f6,f7,hlt]) | (refine qC ?_;simp [f0,fC,f6,f7,hlt];(try with_reducible refine ⟨?_,?_⟩)<;>(try with_reducible intro hc)<;>try (exfalso;omega)) | ((first | (refine w_e [] ?_;intro J hJ;simp only []) | (refine w_q ?_;intro J hJ) | refine e_go ?_);simp [f0,fC,f6,f7,hlt];(repeat refine ca ?_);(try ((try with_reducible refine ⟨?_,?_⟩)<;>(try with_reducible intro hnil)<;>refine hJ _ _ ?_<;>clear hJ J<;>simp only [ak,reduceIte]<;>try subst hnil)))))
  exact ⟨trivial,c,rfl,hpm⟩
 have hw1:=qN k (by omega)
 have hw2:=nat_sub_one m (by omega) (by omega)
 have hkl:k < l.length:=by omega
 have hml:m < l.length:=by omega
 have hd:=ws_drop eg c k (by omega)
 have hd2:=ws_drop eg c m (by omega)
 have hpm1:=hpm.step k m (by omega) (by omega) (by omega) (by omega) (by omega)
 generalize hx:c.getD k 0=x at *
 generalize hy:c.getD m 0=y at *
 (repeat' (first | refine qS ?_ | refine qB ?_ | ((first | refine qK ?_ | refine qX ?_);simp only [ak,reduceIte]) | (refine qR ?_;simp only [ak,reduceIte];simp [f0,fC,f6,f7,hlt]) | (refine qC ?_;simp [f0,fC,f6,f7,hlt];(try with_reducible refine ⟨?_,?_⟩)<;>(try with_reducible intro hc)<;>try (exfalso;omega)) | ((first | (refine w_e [] ?_;intro J hJ;simp only []) | (refine w_q ?_;intro J hJ) | refine e_go ?_);simp [f0,fC,f6,f7,hlt];(repeat refine ca ?_);(try ((try with_reducible refine ⟨?_,?_⟩)<;>(try with_reducible intro hnil)<;>refine hJ _ _ ?_<;>clear hJ J<;>simp only [ak,reduceIte]<;>try subst hnil)))))
 (refine w_s [] [q] [(0,true),(1,true),(2,true),(3,true),(4,true),(5,true),(6,true),(7,true),(8,true),(9,true),(10,true),(11,true),(12,true),(13,false),(14,true),(15,false)] ?_;intro J hJ;simp [f0,fC,f6,f7,hkl,hml,hcl,hd,hd2,es3_length];(repeat refine ca ?_);(try ((try with_reducible refine ⟨?_,?_⟩)<;>(try with_reducible intro hnil)<;>refine hJ _ _ ?_<;>clear hJ J<;>simp only [ak,reduceIte]<;>try subst hnil)))
 (repeat' (first | refine qS ?_ | refine qB ?_ | ((first | refine qK ?_ | refine qX ?_);simp only [ak,reduceIte]) | (refine qR ?_;simp only [ak,reduceIte];simp [f6,f7,hw1,hw2]) | (refine qC ?_;simp [f6,f7,hw1,hw2];(try with_reducible refine ⟨?_,?_⟩)<;>(try with_reducible intro hc)<;>try (exfalso;omega)) | ((first | (refine w_e [] ?_;intro J hJ;simp only []) | (refine w_q ?_;intro J hJ) | refine e_go ?_);simp [f6,f7,hw1,hw2];(repeat refine ca ?_);(try ((try with_reducible refine ⟨?_,?_⟩)<;>(try with_reducible intro hnil)<;>refine hJ _ _ ?_<;>clear hJ J<;>simp only [ak,reduceIte]<;>try subst hnil)))))
 exact hJJ (m - 1) _ _ (by omega) ⟨k+1,m - 1,sw c k m,by omega,by omega,rfl,by simp [f0,fC],by simp,by simp,bx_sw eg st q c k m (by omega) (by omega) hx hy,hpm1⟩
end Go.Proofs.YtkcokoefodgigaaGreat.Aw.CE
