/- The document's blocks. -/
import Derived.Test.YtkcokoefodgigaaGreatJg
import Derived.Test.YtkcokoefodgigaaGreatAwShp
import Derived.Test.YtkcokoefodgigaaGreatAwZ
import Derived.Test.YtkcokoefodgigaaGreatAwRg
namespace Go.Proofs.YtkcokoefodgigaaGreat.Aw
open Go Go.RowKit Go.Proofs.YtkcokoefodgigaaGreat.Pl Go.Proofs.YtkcokoefodgigaaGreat.Eu
set_option linter.unusedSimpArgs false
set_option linter.unusedVariables false
def NoR (es:List Ed) (K:List Nat) (a b:Nat):Prop:=∀ j k,k < es.length→(j < a∨(j=a∧k < b))→j∈K→RingE es (eAt es j) (eAt es k)→k∈K
theorem NoR.succ {es:List Ed} {K:List Nat} {a b:Nat} (h:NoR es K a b) (hb:a∈K→RingE es (eAt es a) (eAt es b)→b∈K):NoR es K a (b+1):=fun j k hk hj hin hr=>by
 by_cases e:j=a∧k=b
 ·obtain ⟨rfl,rfl⟩:=e;exact hb hin hr
 ·exact h j k hk (by omega) hin hr
theorem NoR.next {es:List Ed} {K:List Nat} {a:Nat} (h:NoR es K a es.length):NoR es K (a+1) 0:=fun j k hk hj hin hr=>h j k hk (by omega) hin hr
def InB (g:Gr) (f p q:Nat) (K0:List Nat) (a b:Nat) (gr:Bool) (st s:St):Prop:=s.H p=.box 25 2 (grL g)∧p < q∧q < s.next∧Keeps st s∧∃ K mes,s.H q=.map false [.u32] mes∧(∀ v,mget mes [v]=if v∈idP g.es K then some (bb true) else none)∧GrwB g.es f K∧(gr=false→K=K0∧NoR g.es K a b)∧(gr=true→K0.length < K.length)
theorem InB.keeps {g:Gr} {f p q:Nat} {K0:List Nat} {a b:Nat} {gr:Bool} {st s s':St} (h:InB g f p q K0 a b gr st s) (hk:Keeps s s'):InB g f p q K0 a b gr st s':=by
 obtain ⟨h1,h2,h3,h4,K,mes,h5,h6⟩:=h
 have:=hk.next
 exact ⟨(hk.H p (by omega)).trans h1,h2,by omega,h4.trans hk,K,mes,(hk.H q h3).trans h5,h6⟩
set_option maxHeartbeats 8000000 in
theorem refBlockK (g:Gr) (hg:GoodE g) (f:Nat) (hf:f < g.es.length) (st:St) (hv:g.vs.length≤100) (he:g.es.length≤200) (hvp:∀ v∈g.vs,1≤v∧v≤1048576):
 ACalls Tryz.prog 25 [.ag (grL g),.ag (edL (eAt g.es f))] st fun r st'=>∃ y s',Frz st' s' r y∧y=.sl 0 (clsB g.es f).length (eds ((clsB g.es f).map (eAt g.es)))∧Keeps st s':=by
 have hel:=eds_length g.es
 have hids:=hg.ids
 have hg0:GrwB g.es f [f]:=⟨by simp,fun i hi=>by rw [List.mem_singleton] at hi;rw [hi];exact hf,by simp,fun i hi=>by rw [List.mem_singleton] at hi;rw [hi];exact .refl⟩
 have hm0:∀ v,mget [([(eAt g.es f).id],bb true)] [v]=if v∈idP g.es [f] then some (bb true) else none:=fun v=>by
  have e1:idP g.es [f]=[(eAt g.es f).id]:=rfl
  rw [e1]
  generalize (eAt g.es f).id=d
  by_cases e:v=d
  ·subst e;simp [mget]
  ·have e2:¬ ([v]==[d])=true:=by simpa using e
   have e3:¬ ([d]==[v])=true:=by simpa using fun h=>e h.symm
   rw [if_neg (by simpa using e)]
   simp [mget,e,fun h:d=v=>e h.symm]
 have hR:=fun j (hj:j < g.es.length) k (hk:k < g.es.length) st=>refRing g hg (eAt g.es j) (eAt g.es k) st hv he hvp (eAt_mem hj) (eAt_mem hk)
 obtain ⟨x0,hx0⟩:∃ x0,x0=eAt g.es f:=⟨_,rfl⟩
 rw [← hx0] at hm0 ⊢
 obtain ⟨xi0,xa0,xb0⟩:=x0
 simp only at hm0
 refine qO tabOk Tryz.func25 rfl rfl Tryz.ntmps25 (rs:=[.tmp 4]) rfl (by simp) ?_
 refine awp_posG fun hpos=>?_
 have x1:¬ st.next=st.next+1:=by omega
 have x2:¬ st.next=st.next+1+1:=by omega
 have x3:¬ st.next+1=st.next+1+1:=by omega
 (repeat' (first | refine qS ?_ | refine qB ?_ | ((first | refine qK ?_ | refine qX ?_);simp only [ak,reduceIte]) | (refine qR ?_;simp only [ak,reduceIte];simp [edL,x1,x2,x3]) | (refine qC ?_;simp [edL,x1,x2,x3];(try with_reducible refine ⟨?_,?_⟩)<;>(try with_reducible intro hc)<;>try (exfalso;omega)) | ((first | (refine w_e [] ?_;intro J hJ;simp only []) | (refine w_q ?_;intro J hJ) | refine e_go ?_);simp [edL,x1,x2,x3];(repeat refine ca ?_);(try ((try with_reducible refine ⟨?_,?_⟩)<;>(try with_reducible intro hnil)<;>refine hJ _ _ ?_<;>clear hJ J<;>simp only [ak,reduceIte]<;>try subst hnil)))))
 obtain ⟨p,hp⟩:∃ p,p=st.next:=⟨_,rfl⟩
 refine qL (fun n fr st2=>∃ (K0:List Nat) (gr:Bool),n=2 * (g.es.length - K0.length)+(if gr then 1 else 0)∧fr 2=.pt p 0∧fr 4=.nil∧fr 5=.mp (p+2)∧fr 6=bb gr∧GrwB g.es f K0∧(gr=false→NoR g.es K0 g.es.length 0)∧InB g f p (p+2) K0 0 0 false st st2) (2 * (g.es.length - 1)+1) ?_ ?_
 ·subst hp
  refine ⟨[f],true,by simp,by simp,by simp,by simp,by simp,hg0,fun h=>(by cases h),⟨by simp [x1,x2],by omega,by simp,?_,[f],_,by simp<;>rfl,hm0,hg0,fun _=>⟨rfl,fun j k hk hj=>by omega⟩,fun h=>(by cases h)⟩⟩
  (repeat (first | exact Keeps.refl _ | (refine Keeps.trans ?_ (Keeps.new _ _)) | (refine Keeps.set ?_ (by omega) _)))
 clear x1 x2 x3
 rintro n fr s ⟨K0,gr,rfl,f2,f4,f5,f6,hG0,hcl,hI⟩ JJ hJJ
 have hI':=hI
 obtain ⟨hG,hpq,hq,hkp,K,mes,hM,hmg,hgw,hz1,-⟩:=hI'
 obtain ⟨hKK,-⟩:=hz1 rfl
 rw [hKK] at hmg hgw
 clear hKK hz1 K
 cases gr with
 | false=>
   clear hJJ
   have hno:=hcl rfl
   have hdone:g.es.filter (fun y=>decide (y.id∈idP g.es K0))=(clsB g.es f).map (eAt g.es):=by
    refine filter_places (clsB_rise _ _) (fun i hi=>(clsB_mem.1 hi).1) fun j hj=>?_
    rw [decide_eq_true_iff,idP_mem hids hgw.lt hj]
    exact hgw.done (fun i hi j hj hr=>hno i j hj (.inl (hgw.lt i hi)) hi hr) hj
   rw [show (clsB g.es f).length=(g.es.filter (fun y=>decide (y.id∈idP g.es K0))).length by rw [hdone,List.length_map],← hdone]
   clear hdone hno hcl
   (repeat' (first | refine qS ?_ | refine qB ?_ | ((first | refine qK ?_ | refine qX ?_);simp only [ak,reduceIte]) | (refine qR ?_;simp only [ak,reduceIte];simp [f2,f6,hG]) | (refine qC ?_;simp [f2,f6,hG];(try with_reducible refine ⟨?_,?_⟩)<;>(try with_reducible intro hc)<;>try (exfalso;omega)) | ((first | (refine w_e [] ?_;intro J hJ;simp only []) | (refine w_q ?_;intro J hJ) | refine e_go ?_);simp [f2,f6,hG];(repeat refine ca ?_);(try ((try with_reducible refine ⟨?_,?_⟩)<;>(try with_reducible intro hnil)<;>refine hJ _ _ ?_<;>clear hJ J<;>simp only [ak,reduceIte]<;>try subst hnil)))))
   refine awp_own 11 34 3 (by simp) ?_
   refine awp_range 58 57 59 70 (g.es.length) (fun j fr st2=>fr 5=.mp (p+2)∧fr 56=.sl 0 g.es.length (eds g.es)∧st2.H (p+2)=.map false [.u32] mes∧Keeps st st2∧∃ t F,F=(g.es.take j).filter (fun y=>decide (y.id∈idP g.es K0))∧fr 11=.sl t F.length (eds F)∧st2.H t=.own 34 3 F.length∧p+2 < t∧t < st2.next) ?_ ?_ ?_
   ·exact ⟨by simp [f5],by simp,by simp [show ¬ p+2=s.next by omega,hM],hkp.trans (Keeps.new _ _),s.next,[],by simp,by simp [eds],by simp,hq,by simp⟩
   ·clear f2 f4 f5 f6 hI hG hkp hM hq fr s
    rintro j fr s hlt ⟨f5,f56,hM,hkp,t,F,hF,f11,hO,l1,l2⟩ fi fn JO hJO
    have hd:=eds_drop g.es j hlt
    have hj3:j * 3 < g.es.length * 3:=by omega
    have hFl:F.length≤j:=by
     have:=List.length_filter_le (fun y:Ed=>decide (y.id∈idP g.es K0)) (g.es.take j)
     rw [List.length_take] at this
     rw [hF];omega
    have hst:(g.es.take (j+1)).filter (fun y=>decide (y.id∈idP g.es K0))=if (g.es.getD j ed0).id∈idP g.es K0 then F++[g.es.getD j ed0] else F:=by
     rw [List.take_succ_eq_append_getElem hlt,List.filter_append,getE_lt _ _ hlt,hF]
     by_cases e:g.es[j].id∈idP g.es K0
     ·rw [if_pos e,List.filter_cons,if_pos (by simpa using e),List.filter_nil]
     ·rw [if_neg e,List.filter_cons,if_neg (by simpa using e),List.filter_nil,List.append_nil]
    have hFo:=eds_length F
    have hget:=hmg (g.es.getD j ed0).id
    rw [hst] at hJO
    clear hst hF
    generalize g.es.getD j ed0=x at *
    obtain ⟨xi,xa,xb⟩:=x
    simp only at hd hJO hget
    have e1:¬ p+2=s.next:=by omega
    have e2:¬ p+2=s.next+1:=by omega
    have e3:¬ p+2=t:=by omega
    have e4:¬ t=s.next:=by omega
    have e5:¬ t=0:=by omega
    have e6:¬ t=s.next+1:=by omega
    have e7:¬ p+2=s.next+1+1:=by omega
    have e8:¬ s.next=s.next+1:=by omega
    have e9:¬ p+1=s.next:=by omega
    have e10:¬ p=s.next:=by omega
    by_cases hin:xi∈idP g.es K0
    ·rw [if_pos hin] at hJO hget
     have hap:eds (F++[⟨xi,xa,xb⟩])=eds F++[u xi,u xa,u xb]:=by simp [eds]
     (repeat' (first | refine qS ?_ | refine qB ?_ | ((first | refine qK ?_ | refine qX ?_);simp only [ak,reduceIte]) | (refine qR ?_;simp only [ak,reduceIte];simp [f5,f11,f56,fi,fn,hd,hlt,hj3,hel,hM,hget,hO,hFo,e1,e2,e3,e4,e5,e6,e7,e8,e9,e10]) | (refine qC ?_;simp [f5,f11,f56,fi,fn,hd,hlt,hj3,hel,hM,hget,hO,hFo,e1,e2,e3,e4,e5,e6,e7,e8,e9,e10];(try with_reducible refine ⟨?_,?_⟩)<;>(try with_reducible intro hc)<;>try (exfalso;omega)) | ((first | (refine w_e [] ?_;intro J hJ;simp only []) | (refine w_q ?_;intro J hJ) | refine e_go ?_);simp [f5,f11,f56,fi,fn,hd,hlt,hj3,hel,hM,hget,hO,hFo,e1,e2,e3,e4,e5,e6,e7,e8,e9,e10];(repeat refine ca ?_);(try ((try with_reducible refine ⟨?_,?_⟩)<;>(try with_reducible intro hnil)<;>refine hJ _ _ ?_<;>clear hJ J<;>simp only [ak,reduceIte]<;>try subst hnil)))))
     refine hJO _ _ (by simp [fi]) (by simp [fn]) ⟨by simp [f5],by simp [f56],by simp [e1,e2,e3,e7,e9,e10,hM],?_,s.next+1+1,_,rfl,by simp [hap],by simp,by omega,by simp⟩
     (repeat (first | exact hkp | (refine Keeps.trans ?_ (Keeps.new _ _)) | (refine Keeps.set ?_ (by omega) _)))
    ·rw [if_neg hin] at hJO hget
     (repeat' (first | refine qS ?_ | refine qB ?_ | ((first | refine qK ?_ | refine qX ?_);simp only [ak,reduceIte]) | (refine qR ?_;simp only [ak,reduceIte];simp [f5,f11,f56,fi,fn,hd,hlt,hj3,hel,hM,hget,e1]) | (refine qC ?_;simp [f5,f11,f56,fi,fn,hd,hlt,hj3,hel,hM,hget,e1];(try with_reducible refine ⟨?_,?_⟩)<;>(try with_reducible intro hc)<;>try (exfalso;omega)) | ((first | (refine w_e [] ?_;intro J hJ;simp only []) | (refine w_q ?_;intro J hJ) | refine e_go ?_);simp [f5,f11,f56,fi,fn,hd,hlt,hj3,hel,hM,hget,e1];(repeat refine ca ?_);(try ((try with_reducible refine ⟨?_,?_⟩)<;>(try with_reducible intro hnil)<;>refine hJ _ _ ?_<;>clear hJ J<;>simp only [ak,reduceIte]<;>try subst hnil)))))
     exact hJO _ _ (by simp [fi]) (by simp [fn]) ⟨by simp [f5],by simp [f56],by simp [e1,hM],hkp.trans (Keeps.new _ _),t,F,rfl,by simp [f11],by simp [e4,hO],l1,by simp;omega⟩
   ·clear f2 f4 f5 f6 hI hG hkp hM hq fr s
    rintro fr s ⟨f5,f56,hM,hkp,t,F,hF,f11,hO,l1,l2⟩
    rw [List.take_length] at hF
    subst hF
    (repeat' (first | refine qS ?_ | refine qB ?_ | ((first | refine qK ?_ | refine qX ?_);simp only [ak,reduceIte]) | (refine qR ?_;simp only [ak,reduceIte];simp [f11]) | (refine qC ?_;simp [f11];(try with_reducible refine ⟨?_,?_⟩)<;>(try with_reducible intro hc)<;>try (exfalso;omega)) | ((first | (refine w_e [] ?_;intro J hJ;simp only []) | (refine w_q ?_;intro J hJ) | refine e_go ?_);simp [f11];(repeat refine ca ?_);(try ((try with_reducible refine ⟨?_,?_⟩)<;>(try with_reducible intro hnil)<;>refine hJ _ _ ?_<;>clear hJ J<;>simp only [ak,reduceIte]<;>try subst hnil)))))
    exact ⟨_,_,frz_tok _ _ _ _,rfl,hkp⟩
 | true=>
   have hI0:InB g f p (p+2) K0 0 0 false st s:=hI
   (repeat' (first | refine qS ?_ | refine qB ?_ | ((first | refine qK ?_ | refine qX ?_);simp only [ak,reduceIte]) | (refine qR ?_;simp only [ak,reduceIte];simp [f2,f6,hG]) | (refine qC ?_;simp [f2,f6,hG];(try with_reducible refine ⟨?_,?_⟩)<;>(try with_reducible intro hc)<;>try (exfalso;omega)) | ((first | (refine w_e [] ?_;intro J hJ;simp only []) | (refine w_q ?_;intro J hJ) | refine e_go ?_);simp [f2,f6,hG];(repeat refine ca ?_);(try ((try with_reducible refine ⟨?_,?_⟩)<;>(try with_reducible intro hnil)<;>refine hJ _ _ ?_<;>clear hJ J<;>simp only [ak,reduceIte]<;>try subst hnil)))))
   refine awp_range 22 21 23 54 (g.es.length) (fun j fr st2=>fr 2=.pt p 0∧fr 4=.nil∧fr 5=.mp (p+2)∧fr 20=.sl 0 g.es.length (eds g.es)∧∃ gr,fr 6=bb gr∧InB g f p (p+2) K0 j 0 gr st st2) ?_ ?_ ?_
   ·exact ⟨by simp [f2],by simp [f4],by simp [f5],by simp,false,by simp,hI0⟩
   ·clear f2 f4 f5 f6 hI hI0 hG hkp hM hmg hq hcl fr s mes
    rintro jo fr s hlt ⟨f2,f4,f5,f20,gr,f6,hI⟩ fi fn JO hJO
    have hI':=hI
    obtain ⟨hG,hpq,hq,hkp,-⟩:=hI'
    have hd:=eds_drop g.es jo hlt
    have hj3:jo * 3 < g.es.length * 3:=by omega
    have e1:¬ p=s.next:=by omega
    obtain ⟨x,hx⟩:∃ x,x=eAt g.es jo:=⟨_,rfl⟩
    rw [show g.es.getD jo ed0=x from hx.symm] at hd
    have hRx:=hR jo hlt
    have hix:=fun K (h:∀ i∈K,i < g.es.length)=>idP_mem hids h hlt
    rw [← hx] at hRx hix
    have hxe:edL x=edL (eAt g.es jo):=by rw [hx]
    obtain ⟨xi,xa,xb⟩:=x
    simp only [edL] at hd hRx hix hxe
    have hIX:=hI.keeps (Keeps.new s (.box 34 3 [u xi,u xa,u xb]))
    (repeat' (first | refine qS ?_ | refine qB ?_ | ((first | refine qK ?_ | refine qX ?_);simp only [ak,reduceIte]) | (refine qR ?_;simp only [ak,reduceIte];simp [f2,f20,fi,fn,hd,hlt,hj3,hel,hG,e1]) | (refine qC ?_;simp [f2,f20,fi,fn,hd,hlt,hj3,hel,hG,e1];(try with_reducible refine ⟨?_,?_⟩)<;>(try with_reducible intro hc)<;>try (exfalso;omega)) | ((first | (refine w_e [] ?_;intro J hJ;simp only []) | (refine w_q ?_;intro J hJ) | refine e_go ?_);simp [f2,f20,fi,fn,hd,hlt,hj3,hel,hG,e1];(repeat refine ca ?_);(try ((try with_reducible refine ⟨?_,?_⟩)<;>(try with_reducible intro hnil)<;>refine hJ _ _ ?_<;>clear hJ J<;>simp only [ak,reduceIte]<;>try subst hnil)))))
    obtain ⟨X,hX⟩:∃ X,X=s.next:=⟨_,rfl⟩
    refine awp_range 29 28 30 53 (g.es.length) (fun j fr st2=>fr 2=.pt p 0∧fr 4=.nil∧fr 5=.mp (p+2)∧fr 8=.pt X 0∧fr 20=.sl 0 g.es.length (eds g.es)∧fr 21=i g.es.length∧fr 22=i jo∧fr 27=.sl 0 g.es.length (eds g.es)∧X < st2.next∧st2.H X=.box 34 3 [u xi,u xa,u xb]∧∃ gr,fr 6=bb gr∧InB g f p (p+2) K0 jo j gr st st2) ?_ ?_ ?_
    ·exact ⟨by simp [f2],by simp [f4],by simp [f5],by simp [hX],by simp [f20],by simp [fn],by simp [fi],by simp,by simp [hX],by simp [hX],gr,by simp [f6],hIX⟩
    ·clear f2 f4 f5 f20 f6 hI hIX hG hkp fi fn fr
     rintro kk fr s2 hlk ⟨f2,f4,f5,f8,f20,fn,fi,f27,hXl,hXH,gr,f6,hI⟩ gi gn JI hJI
     obtain ⟨hG,hpq,hq,hkp,K,mes,hM,hmg,hgw,hz1,hz2⟩:=hI
     have hd2:=eds_drop g.es kk hlk
     have hk3:kk * 3 < g.es.length * 3:=by omega
     obtain ⟨y,hy⟩:∃ y,y=eAt g.es kk:=⟨_,rfl⟩
     rw [show g.es.getD kk ed0=y from hy.symm] at hd2
     have hRy:=hRx kk hlk
     have hiy:=idP_mem hids hgw.lt hlk
     rw [← hy] at hRy hiy
     have hixK:=hix K hgw.lt
     have hRg:RingE g.es (eAt g.es jo) (eAt g.es kk)↔RingE g.es ⟨xi,xa,xb⟩ y:=by rw [← hx,← hy]
     have hgx:=hmg xi
     have hgy:=hmg y.id
     have hct:=fun h=>cdecB_t (p:=RingE g.es ⟨xi,xa,xb⟩ y) h
     have hcf:=fun h=>cdecB_f (p:=RingE g.es ⟨xi,xa,xb⟩ y) h
     obtain ⟨yi,ya,yb⟩:=y
     simp only [edL] at hd2 hRy hiy hgy
     have e1:¬ p=s2.next:=by omega
     have e2:¬ p+2=s2.next:=by omega
     have e3:¬ p+1=s2.next:=by omega
     have e4:¬ X=s2.next:=by omega
     have e5:¬ p=p+2:=by omega
     have e6:¬ X=s2.next:=by omega
     have e7:¬ s2.next=p+2:=by omega
     by_cases h1:jo∈K
     rotate_left
     ·rw [if_neg (fun h=>h1 (hixK.1 h))] at hgx
      (repeat' (first | refine qS ?_ | refine qB ?_ | ((first | refine qK ?_ | refine qX ?_);simp only [ak,reduceIte]) | (refine qR ?_;simp only [ak,reduceIte];simp [f2,f5,f8,f27,gi,gn,hd2,hlk,hk3,hel,hG,hM,hXH,hgx,e1,e2,e3,e4,e6]) | (refine qC ?_;simp [f2,f5,f8,f27,gi,gn,hd2,hlk,hk3,hel,hG,hM,hXH,hgx,e1,e2,e3,e4,e6];(try with_reducible refine ⟨?_,?_⟩)<;>(try with_reducible intro hc)<;>try (exfalso;omega)) | ((first | (refine w_e [] ?_;intro J hJ;simp only []) | (refine w_q ?_;intro J hJ) | refine e_go ?_);simp [f2,f5,f8,f27,gi,gn,hd2,hlk,hk3,hel,hG,hM,hXH,hgx,e1,e2,e3,e4,e6];(repeat refine ca ?_);(try ((try with_reducible refine ⟨?_,?_⟩)<;>(try with_reducible intro hnil)<;>refine hJ _ _ ?_<;>clear hJ J<;>simp only [ak,reduceIte]<;>try subst hnil)))))
      exact hJI _ _ (by simp [gi]) (by simp [gn]) ⟨by simp [f2],by simp [f4],by simp [f5],by simp [f8],by simp [f20],by simp [fn],by simp [fi],by simp [f27],by simp;omega,by simp [e6,hXH],gr,by simp [f6],by simp [e1,hG],hpq,by simp;omega,hkp.trans (Keeps.new _ _),K,mes,by simp [e2,hM],hmg,hgw,fun h=>⟨(hz1 h).1,(hz1 h).2.succ fun hj=>absurd hj h1⟩,hz2⟩
     rw [if_pos (hixK.2 h1)] at hgx
     by_cases h2:kk∈K
     ·rw [if_pos (hiy.2 h2)] at hgy
      (repeat' (first | refine qS ?_ | refine qB ?_ | ((first | refine qK ?_ | refine qX ?_);simp only [ak,reduceIte]) | (refine qR ?_;simp only [ak,reduceIte];simp [f2,f5,f8,f27,gi,gn,hd2,hlk,hk3,hel,hG,hM,hXH,hgx,hgy,e1,e2,e3,e4,e6]) | (refine qC ?_;simp [f2,f5,f8,f27,gi,gn,hd2,hlk,hk3,hel,hG,hM,hXH,hgx,hgy,e1,e2,e3,e4,e6];(try with_reducible refine ⟨?_,?_⟩)<;>(try with_reducible intro hc)<;>try (exfalso;omega)) | ((first | (refine w_e [] ?_;intro J hJ;simp only []) | (refine w_q ?_;intro J hJ) | refine e_go ?_);simp [f2,f5,f8,f27,gi,gn,hd2,hlk,hk3,hel,hG,hM,hXH,hgx,hgy,e1,e2,e3,e4,e6];(repeat refine ca ?_);(try ((try with_reducible refine ⟨?_,?_⟩)<;>(try with_reducible intro hnil)<;>refine hJ _ _ ?_<;>clear hJ J<;>simp only [ak,reduceIte]<;>try subst hnil)))))
      exact hJI _ _ (by simp [gi]) (by simp [gn]) ⟨by simp [f2],by simp [f4],by simp [f5],by simp [f8],by simp [f20],by simp [fn],by simp [fi],by simp [f27],by simp;omega,by simp [e6,hXH],gr,by simp [f6],by simp [e1,hG],hpq,by simp;omega,hkp.trans (Keeps.new _ _),K,mes,by simp [e2,hM],hmg,hgw,fun h=>⟨(hz1 h).1,(hz1 h).2.succ fun _ _=>h2⟩,hz2⟩
     rw [if_neg (fun h=>h2 (hiy.1 h))] at hgy
     (repeat' (first | refine qS ?_ | refine qB ?_ | ((first | refine qK ?_ | refine qX ?_);simp only [ak,reduceIte]) | (refine qR ?_;simp only [ak,reduceIte];simp [f2,f5,f8,f27,gi,gn,hd2,hlk,hk3,hel,hG,hM,hXH,hgx,hgy,e1,e2,e3,e4,e6]) | (refine qC ?_;simp [f2,f5,f8,f27,gi,gn,hd2,hlk,hk3,hel,hG,hM,hXH,hgx,hgy,e1,e2,e3,e4,e6];(try with_reducible refine ⟨?_,?_⟩)<;>(try with_reducible intro hc)<;>try (exfalso;omega)) | ((first | (refine w_e [] ?_;intro J hJ;simp only []) | (refine w_q ?_;intro J hJ) | refine e_go ?_);simp [f2,f5,f8,f27,gi,gn,hd2,hlk,hk3,hel,hG,hM,hXH,hgx,hgy,e1,e2,e3,e4,e6];(repeat refine ca ?_);(try ((try with_reducible refine ⟨?_,?_⟩)<;>(try with_reducible intro hnil)<;>refine hJ _ _ ?_<;>clear hJ J<;>simp only [ak,reduceIte]<;>try subst hnil)))))
     refine qE (hRy _) (by simp [grL]) ?_;rintro r s3 ⟨rfl,h7⟩
     rw [h7];clear h7 s3
     by_cases h3:RingE g.es ⟨xi,xa,xb⟩ ⟨yi,ya,yb⟩
     rotate_left
     ·rw [hcf h3]
      (repeat' (first | refine qS ?_ | refine qB ?_ | ((first | refine qK ?_ | refine qX ?_);simp only [ak,reduceIte]) | (refine qR ?_;simp only [ak,reduceIte];simp []) | (refine qC ?_;simp [];(try with_reducible refine ⟨?_,?_⟩)<;>(try with_reducible intro hc)<;>try (exfalso;omega)) | ((first | (refine w_e [] ?_;intro J hJ;simp only []) | (refine w_q ?_;intro J hJ) | refine e_go ?_);simp [];(repeat refine ca ?_);(try ((try with_reducible refine ⟨?_,?_⟩)<;>(try with_reducible intro hnil)<;>refine hJ _ _ ?_<;>clear hJ J<;>simp only [ak,reduceIte]<;>try subst hnil)))))
      exact hJI _ _ (by simp [gi]) (by simp [gn]) ⟨by simp [f2],by simp [f4],by simp [f5],by simp [f8],by simp [f20],by simp [fn],by simp [fi],by simp [f27],by simp;omega,by simp [e6,hXH],gr,by simp [f6],by simp [e1,hG],hpq,by simp;omega,hkp.trans (Keeps.new _ _),K,mes,by simp [e2,hM],hmg,hgw,fun h=>⟨(hz1 h).1,(hz1 h).2.succ fun _ hr=>absurd (hRg.1 hr) h3⟩,hz2⟩
     ·rw [hct h3]
      (repeat' (first | refine qS ?_ | refine qB ?_ | ((first | refine qK ?_ | refine qX ?_);simp only [ak,reduceIte]) | (refine qR ?_;simp only [ak,reduceIte];simp [f5,hM,e2]) | (refine qC ?_;simp [f5,hM,e2];(try with_reducible refine ⟨?_,?_⟩)<;>(try with_reducible intro hc)<;>try (exfalso;omega)) | ((first | (refine w_e [] ?_;intro J hJ;simp only []) | (refine w_q ?_;intro J hJ) | refine e_go ?_);simp [f5,hM,e2];(repeat refine ca ?_);(try ((try with_reducible refine ⟨?_,?_⟩)<;>(try with_reducible intro hnil)<;>refine hJ _ _ ?_<;>clear hJ J<;>simp only [ak,reduceIte]<;>try subst hnil)))))
      have hgw2:=hgw.add h1 hlk h2 (hRg.2 h3)
      refine hJI _ _ (by simp [gi]) (by simp [gn]) ⟨by simp [f2],by simp [f4],by simp [f5],by simp [f8],by simp [f20],by simp [fn],by simp [fi],by simp [f27],by simp;omega,by simp [e6,hXH,show ¬ X=p+2 by intro e;rw [e,hM] at hXH;cases hXH],true,by simp,by simp [e1,e5,hG],hpq,by simp;omega,(hkp.trans (Keeps.new _ _)).set (by omega) _,K++[kk],_,by simp;rfl,fun v=>?_,hgw2,fun h=>(by cases h),fun _=>?_⟩
      ·rw [mget_mset,hmg v]
       have hid:idP g.es (K++[kk])=idP g.es K++[yi]:=by unfold idP;rw [List.map_append,List.map_singleton,← hy]
       rw [hid]
       by_cases ev:v=yi
       ·subst ev;simp
       ·rw [if_neg (by simpa using ev)]
        by_cases hv2:v∈idP g.es K
        ·rw [if_pos hv2,if_pos (List.mem_append_left _ hv2)]
        ·rw [if_neg hv2,if_neg]
         rw [List.mem_append,not_or]
         exact ⟨hv2,by simpa using ev⟩
      ·rw [List.length_append,List.length_singleton]
       cases gr with
       | true=>have:=hz2 rfl;omega
       | false=>rw [(hz1 rfl).1];omega
    ·clear f2 f4 f5 f20 f6 hI hIX hG hkp fi fn fr
     rintro fr s2 ⟨f2,f4,f5,f8,f20,fn,fi,f27,hXl,hXH,gr,f6,hI⟩
     obtain ⟨hG,hpq,hq,hkp,K,mes,hM,hmg,hgw,hz1,hz2⟩:=hI
     (repeat' (first | refine qS ?_ | refine qB ?_ | ((first | refine qK ?_ | refine qX ?_);simp only [ak,reduceIte]) | (refine qR ?_;simp only [ak,reduceIte];simp []) | (refine qC ?_;simp [];(try with_reducible refine ⟨?_,?_⟩)<;>(try with_reducible intro hc)<;>try (exfalso;omega)) | ((first | (refine w_e [] ?_;intro J hJ;simp only []) | (refine w_q ?_;intro J hJ) | refine e_go ?_);simp [];(repeat refine ca ?_);(try ((try with_reducible refine ⟨?_,?_⟩)<;>(try with_reducible intro hnil)<;>refine hJ _ _ ?_<;>clear hJ J<;>simp only [ak,reduceIte]<;>try subst hnil)))))
     exact hJO _ _ (by simp [fi]) (by simp [fn]) ⟨by simp [f2],by simp [f4],by simp [f5],by simp [f20],gr,by simp [f6],hG,hpq,hq,hkp,K,mes,hM,hmg,hgw,fun h=>⟨(hz1 h).1,(hz1 h).2.next⟩,hz2⟩
   ·clear f2 f4 f5 f6 hI hI0 hG hkp hM hmg hq hcl fr s mes
    rintro fr s ⟨f2,f4,f5,f20,gr,f6,hG,hpq,hq,hkp,K,mes,hM,hmg,hgw,hz1,hz2⟩
    have hle:=hgw.le
    (repeat' (first | refine qS ?_ | refine qB ?_ | ((first | refine qK ?_ | refine qX ?_);simp only [ak,reduceIte]) | (refine qR ?_;simp only [ak,reduceIte];simp []) | (refine qC ?_;simp [];(try with_reducible refine ⟨?_,?_⟩)<;>(try with_reducible intro hc)<;>try (exfalso;omega)) | ((first | (refine w_e [] ?_;intro J hJ;simp only []) | (refine w_q ?_;intro J hJ) | refine e_go ?_);simp [];(repeat refine ca ?_);(try ((try with_reducible refine ⟨?_,?_⟩)<;>(try with_reducible intro hnil)<;>refine hJ _ _ ?_<;>clear hJ J<;>simp only [ak,reduceIte]<;>try subst hnil)))))
    refine hJJ (2 * (g.es.length - K.length)+(if gr then 1 else 0)) _ _ ?_ ⟨K,gr,rfl,by simp [f2],by simp [f4],by simp [f5],by simp [f6],hgw,fun h=>(hz1 h).2,hG,hpq,hq,hkp,K,mes,hM,hmg,hgw,fun _=>⟨rfl,fun j k hk hj=>by omega⟩,fun h=>(by cases h)⟩
    cases gr with
    | true=>have:=hz2 rfl;simp;omega
    | false=>rw [(hz1 rfl).1];simp
theorem refBlock (g:Gr) (hg:GoodE g) (f:Nat) (hf:f < g.es.length) (st:St) (hv:g.vs.length≤100) (he:g.es.length≤200) (hvp:∀ v∈g.vs,1≤v∧v≤1048576):
 ACalls Tryz.prog 25 [.ag (grL g),.ag (edL (eAt g.es f))] st fun r st'=>r=.sl 0 (clsB g.es f).length (eds ((clsB g.es f).map (eAt g.es)))∧st'=st:=
 qT (Q:=fun r=>r=.sl 0 (clsB g.es f).length (eds ((clsB g.es f).map (eAt g.es)))) (acalls_frzR (refBlockK g hg f hf st hv he hvp)) fun r h=>by subst h;exact ⟨.inl rfl,belL_edsB _ _⟩
theorem ledB_take (es:List Ed) (j:Nat):(((List.range (j+1)).filter fun i=>decide ((clsB es i).headD 0=i)).map (clsB es))=if (clsB es j).headD 0=j then (((List.range j).filter fun i=>decide ((clsB es i).headD 0=i)).map (clsB es))++[clsB es j] else ((List.range j).filter fun i=>decide ((clsB es i).headD 0=i)).map (clsB es):=by
 rw [List.range_succ,List.filter_append,List.map_append]
 by_cases e:(clsB es j).headD 0=j
 ·rw [if_pos e,List.filter_cons,if_pos (by simpa using e)];rfl
 ·rw [if_neg e,List.filter_cons,if_neg (by simpa using e)];simp
set_option maxHeartbeats 4000000 in
theorem refBlocksK (g:Gr) (hg:GoodE g) (st:St) (hv:g.vs.length≤100) (he:g.es.length≤200) (hvp:∀ v∈g.vs,1≤v∧v≤1048576):
 ACalls Tryz.prog 11 [.ag (grL g)] st fun r st'=>∃ y s',Frz st' s' r y∧y=.sl 0 (ledB g.es).length (bkL g.es (ledB g.es))∧Keeps st s':=by
 have hel:=eds_length g.es
 have hids:=hg.ids
 refine qO tabOk Tryz.func11 rfl rfl Tryz.ntmps11 (rs:=[.tmp 2]) rfl (by simp) ?_
 refine awp_posG fun hpos=>?_
 (repeat' (first | refine qS ?_ | refine qB ?_ | ((first | refine qK ?_ | refine qX ?_);simp only [ak,reduceIte]) | (refine qR ?_;simp only [ak,reduceIte];simp []) | (refine qC ?_;simp [];(try with_reducible refine ⟨?_,?_⟩)<;>(try with_reducible intro hc)<;>try (exfalso;omega)) | ((first | (refine w_e [] ?_;intro J hJ;simp only []) | (refine w_q ?_;intro J hJ) | refine e_go ?_);simp [];(repeat refine ca ?_);(try ((try with_reducible refine ⟨?_,?_⟩)<;>(try with_reducible intro hnil)<;>refine hJ _ _ ?_<;>clear hJ J<;>simp only [ak,reduceIte]<;>try subst hnil)))))
 refine awp_own 3 23 1 (by simp) ?_
 obtain ⟨p,hp⟩:∃ p,p=st.next:=⟨_,rfl⟩
 refine awp_range 10 9 11 28 (g.es.length) (fun j fr st2=>fr 1=.pt p 0∧fr 8=.sl 0 g.es.length (eds g.es)∧st2.H p=.box 25 2 (grL g)∧Keeps st st2∧∃ t R,R=((List.range j).filter fun i=>decide ((clsB g.es i).headD 0=i)).map (clsB g.es)∧fr 3=.sl t R.length (bkL g.es R)∧st2.H t=.own 23 1 R.length∧p < t∧t < st2.next) ?_ ?_ ?_
 ·subst hp
  exact ⟨by simp,by simp,by simp,(Keeps.new _ _).trans (Keeps.new _ _),st.next+1,[],by simp,by simp [bkL],by simp,by omega,by simp⟩
 ·rintro j fr s hlt ⟨f1,f8,hG,hkp,t,R,hR,f3,hO,l1,l2⟩ fi fn JO hJO
  have hd:=eds_drop g.es j hlt
  have hj3:j * 3 < g.es.length * 3:=by omega
  have hcall:=fun st=>refBlock g hg j hlt st hv he hvp
  have hm:j∈clsB g.es j:=clsB_mem.2 ⟨hlt,.refl⟩
  obtain ⟨h0,C,hC⟩:∃ h0 C,clsB g.es j=h0::C:=by
   cases hc:clsB g.es j with
   | nil=>rw [hc] at hm;cases hm
   | cons a C=>exact ⟨a,C,rfl⟩
  have hh0:h0 < g.es.length:=(clsB_mem.1 (show h0∈clsB g.es j by rw [hC];simp)).1
  have hhd:(clsB g.es j).headD 0=h0:=by rw [hC];rfl
  have hlt2:=id_lt hids hh0 hlt
  have hlt3:=id_lt hids hlt hh0
  have hRl:R.length≤1000:=by
   rw [hR,List.length_map]
   have:=List.length_filter_le (fun i=>decide ((clsB g.es i).headD 0=i)) (List.range j)
   rw [List.length_range] at this
   omega
  have hbl:=bkL_length g.es R
  rw [ledB_take,← hR,hhd] at hJO
  have hbk:bkL g.es (R++[clsB g.es j])=bkL g.es R++[.sl 0 (clsB g.es j).length (eds ((clsB g.es j).map (eAt g.es)))]:=by simp [bkL]
  have he0:eds ((clsB g.es j).map (eAt g.es))=u (eAt g.es h0).id::u (eAt g.es h0).a::u (eAt g.es h0).b::eds (C.map (eAt g.es)):=by rw [hC];rfl
  have hcl:0 < (clsB g.es j).length:=by rw [hC];simp
  have hcl':(0:Int) < (clsB g.es j).length:=by omega
  clear hR hm hhd hC
  obtain ⟨x,hx⟩:∃ x,x=eAt g.es j:=⟨_,rfl⟩
  rw [show g.es.getD j ed0=x from hx.symm] at hd
  rw [← hx] at hcall hlt2 hlt3
  clear hx
  obtain ⟨z,hz⟩:∃ z,z=eAt g.es h0:=⟨_,rfl⟩
  rw [← hz] at hlt2 hlt3 he0
  clear hz
  generalize eds ((clsB g.es j).map (eAt g.es))=EE at *
  generalize (clsB g.es j).length=cl at *
  obtain ⟨xi,xa,xb⟩:=x
  obtain ⟨zi,za,zb⟩:=z
  simp only [edL] at hd hcall hlt2 hlt3 he0
  have e1:¬ p=s.next:=by omega
  have e2:¬ t=s.next:=by omega
  have e3:¬ t=0:=by omega
  have e4:¬ t=s.next+1:=by omega
  have e5:¬ p=s.next+1:=by omega
  have e6:¬ p=s.next+1+1:=by omega
  have e7:¬ p=t:=by omega
  have e8:¬ s.next=s.next+1:=by omega
  (repeat' (first | refine qS ?_ | refine qB ?_ | ((first | refine qK ?_ | refine qX ?_);simp only [ak,reduceIte]) | (refine qR ?_;simp only [ak,reduceIte];simp [f1,f8,fi,fn,hd,hlt,hj3,hel,hG,e1]) | (refine qC ?_;simp [f1,f8,fi,fn,hd,hlt,hj3,hel,hG,e1];(try with_reducible refine ⟨?_,?_⟩)<;>(try with_reducible intro hc)<;>try (exfalso;omega)) | ((first | (refine w_e [] ?_;intro J hJ;simp only []) | (refine w_q ?_;intro J hJ) | refine e_go ?_);simp [f1,f8,fi,fn,hd,hlt,hj3,hel,hG,e1];(repeat refine ca ?_);(try ((try with_reducible refine ⟨?_,?_⟩)<;>(try with_reducible intro hnil)<;>refine hJ _ _ ?_<;>clear hJ J<;>simp only [ak,reduceIte]<;>try subst hnil)))))
  refine qE (hcall _) (by simp [grL]) ?_;rintro r s1 ⟨rfl,h7⟩
  rw [h7];clear h7 s1
  (refine e_go ?_;simp [];(repeat refine ca ?_);(try ((try with_reducible refine ⟨?_,?_⟩)<;>(try with_reducible intro hnil)<;>refine hJ _ _ ?_<;>clear hJ J<;>simp only [ak,reduceIte]<;>try subst hnil)))
  by_cases e:h0=j
  ·have hb:(zi==xi)=true:=by rw [beq_iff_eq];omega
   rw [if_pos e] at hJO
   (repeat (refine qS ?_));(refine w_s [] [s.next] [(0,true),(1,true),(2,true),(3,true),(4,true),(5,true),(6,true)] ?_;intro J hJ;simp [he0,hcl,hcl'];(repeat refine ca ?_);(try ((try with_reducible refine ⟨?_,?_⟩)<;>(try with_reducible intro hnil)<;>refine hJ _ _ ?_<;>clear hJ J<;>simp only [ak,reduceIte]<;>try subst hnil)))
   (repeat' (first | refine qS ?_ | refine qB ?_ | ((first | refine qK ?_ | refine qX ?_);simp only [ak,reduceIte]) | (refine qR ?_;simp only [ak,reduceIte];simp [f3,hb,hO,hbl,e1,e2,e3,e4,e5,e6,e7,e8]) | (refine qC ?_;simp [f3,hb,hO,hbl,e1,e2,e3,e4,e5,e6,e7,e8];(try with_reducible refine ⟨?_,?_⟩)<;>(try with_reducible intro hc)<;>try (exfalso;omega)) | ((first | (refine w_e [] ?_;intro J hJ;simp only []) | (refine w_q ?_;intro J hJ) | refine e_go ?_);simp [f3,hb,hO,hbl,e1,e2,e3,e4,e5,e6,e7,e8];(repeat refine ca ?_);(try ((try with_reducible refine ⟨?_,?_⟩)<;>(try with_reducible intro hnil)<;>refine hJ _ _ ?_<;>clear hJ J<;>simp only [ak,reduceIte]<;>try subst hnil)))))
   refine hJO _ _ (by simp [fi]) (by simp [fn]) ⟨by simp [f1],by simp [f8],by simp [e1,e5,e6,e7,hG],?_,s.next+1+1,_,rfl,by simp [hbk,he0],by simp,by omega,by simp⟩
   (repeat (first | exact hkp | (refine Keeps.trans ?_ (Keeps.new _ _)) | (refine Keeps.set ?_ (by omega) _)))
  ·have hb:(zi==xi)=false:=by rw [beq_eq_false_iff_ne];omega
   rw [if_neg e] at hJO
   (repeat (refine qS ?_));(refine w_s [] [s.next] [(0,true),(1,true),(2,true),(3,true),(4,true),(5,true),(6,true)] ?_;intro J hJ;simp [he0,hcl,hcl'];(repeat refine ca ?_);(try ((try with_reducible refine ⟨?_,?_⟩)<;>(try with_reducible intro hnil)<;>refine hJ _ _ ?_<;>clear hJ J<;>simp only [ak,reduceIte]<;>try subst hnil)))
   (repeat' (first | refine qS ?_ | refine qB ?_ | ((first | refine qK ?_ | refine qX ?_);simp only [ak,reduceIte]) | (refine qR ?_;simp only [ak,reduceIte];simp [hb]) | (refine qC ?_;simp [hb];(try with_reducible refine ⟨?_,?_⟩)<;>(try with_reducible intro hc)<;>try (exfalso;omega)) | ((first | (refine w_e [] ?_;intro J hJ;simp only []) | (refine w_q ?_;intro J hJ) | refine e_go ?_);simp [hb];(repeat refine ca ?_);(try ((try with_reducible refine ⟨?_,?_⟩)<;>(try with_reducible intro hnil)<;>refine hJ _ _ ?_<;>clear hJ J<;>simp only [ak,reduceIte]<;>try subst hnil)))))
   exact hJO _ _ (by simp [fi]) (by simp [fn]) ⟨by simp [f1],by simp [f8],by simp [e1,hG],hkp.trans (Keeps.new _ _),t,R,rfl,by simp [f3],by simp [e2,hO],l1,by simp;omega⟩
 ·rintro fr s ⟨f1,f8,hG,hkp,t,R,hR,f3,hO,l1,l2⟩
  have hR:R=ledB g.es:=hR
  subst hR
  (repeat' (first | refine qS ?_ | refine qB ?_ | ((first | refine qK ?_ | refine qX ?_);simp only [ak,reduceIte]) | (refine qR ?_;simp only [ak,reduceIte];simp [f3]) | (refine qC ?_;simp [f3];(try with_reducible refine ⟨?_,?_⟩)<;>(try with_reducible intro hc)<;>try (exfalso;omega)) | ((first | (refine w_e [] ?_;intro J hJ;simp only []) | (refine w_q ?_;intro J hJ) | refine e_go ?_);simp [f3];(repeat refine ca ?_);(try ((try with_reducible refine ⟨?_,?_⟩)<;>(try with_reducible intro hnil)<;>refine hJ _ _ ?_<;>clear hJ J<;>simp only [ak,reduceIte]<;>try subst hnil)))))
  exact ⟨_,_,frz_tok _ _ _ _,rfl,hkp⟩
theorem refBlocks (g:Gr) (hg:GoodE g) (st:St) (hv:g.vs.length≤100) (he:g.es.length≤200) (hvp:∀ v∈g.vs,1≤v∧v≤1048576):
 ACalls Tryz.prog 11 [.ag (grL g)] st fun r st'=>r=.sl 0 (ledB g.es).length (bkL g.es (ledB g.es))∧st'=st:=
 qT (Q:=fun r=>r=.sl 0 (ledB g.es).length (bkL g.es (ledB g.es))) (acalls_frzR (refBlocksK g hg st hv he hvp)) fun r h=>by subst h;exact ⟨.inl rfl,belL_bk _ _ _⟩
end Go.Proofs.YtkcokoefodgigaaGreat.Aw
namespace Go.Proofs.YtkcokoefodgigaaGreat.Aw
open Go Go.RowKit Go.Proofs.YtkcokoefodgigaaGreat.Pl
set_option linter.unusedSimpArgs false
set_option linter.unusedVariables false
def adj (es:List Ed) (v w:Int):Prop:=∃ x∈es,(x.a=v∧x.b=w)∨(x.a=w∧x.b=v)
instance (es:List Ed) (v w:Int):Decidable (adj es v w):=by unfold adj;exact inferInstance
theorem EqualE (l:List Ed) (t t':Nat) (st:St) (hl:l.length≤1048576):
 ACalls Tryz.prog 12 [.sl t l.length (eds l),.sl t' l.length (eds l)] st fun r st'=>r=bb true∧st'=st:=by
 have hel:=eds_length l
 refine qO tabOk Tryz.func12 rfl rfl Tryz.ntmps12 (rs:=[.tmp 4]) rfl (by simp) ?_
 (repeat' (first | refine qS ?_ | refine qB ?_ | ((first | refine qK ?_ | refine qX ?_);simp only [ak,reduceIte]) | (refine qR ?_;simp only [ak,reduceIte];simp []) | (refine qC ?_;simp [];(try with_reducible refine ⟨?_,?_⟩)<;>(try with_reducible intro hc)<;>try (exfalso;omega)) | ((first | (refine w_e [] ?_;intro J hJ;simp only []) | (refine w_q ?_;intro J hJ) | refine e_go ?_);simp [];(repeat refine ca ?_);(try ((try with_reducible refine ⟨?_,?_⟩)<;>(try with_reducible intro hnil)<;>refine hJ _ _ ?_<;>clear hJ J<;>simp only [ak,reduceIte]<;>try subst hnil)))))
 refine awp_range 13 12 14 25 (l.length) (fun j fr st2=>fr 0=.sl t l.length (eds l)∧fr 1=.sl t' l.length (eds l)∧st2=st) ?_ ?_ ?_
 ·exact ⟨by simp,by simp,rfl⟩
 ·rintro j fr s hlt ⟨f0,f1,rfl⟩ fi fn J hJ
  have hd:=eds_drop l j hlt
  have hk3:j * 3 < l.length * 3:=by omega
  (repeat' (first | refine qS ?_ | refine qB ?_ | ((first | refine qK ?_ | refine qX ?_);simp only [ak,reduceIte]) | (refine qR ?_;simp only [ak,reduceIte];simp [fi,f0,f1,hlt,hd,hel,hk3]) | (refine qC ?_;simp [fi,f0,f1,hlt,hd,hel,hk3];(try with_reducible refine ⟨?_,?_⟩)<;>(try with_reducible intro hc)<;>try (exfalso;omega)) | ((first | (refine w_e [] ?_;intro J hJ;simp only []) | (refine w_q ?_;intro J hJ) | refine e_go ?_);simp [fi,f0,f1,hlt,hd,hel,hk3];(repeat refine ca ?_);(try ((try with_reducible refine ⟨?_,?_⟩)<;>(try with_reducible intro hnil)<;>refine hJ _ _ ?_<;>clear hJ J<;>simp only [ak,reduceIte]<;>try subst hnil)))))
  exact hJ _ _ (by simp [fi]) (by simp [fn]) ⟨by simp [f0],by simp [f1],rfl⟩
 ·rintro fr s ⟨f0,f1,rfl⟩
  (repeat' (first | refine qS ?_ | refine qB ?_ | ((first | refine qK ?_ | refine qX ?_);simp only [ak,reduceIte]) | (refine qR ?_;simp only [ak,reduceIte];simp []) | (refine qC ?_;simp [];(try with_reducible refine ⟨?_,?_⟩)<;>(try with_reducible intro hc)<;>try (exfalso;omega)) | ((first | (refine w_e [] ?_;intro J hJ;simp only []) | (refine w_q ?_;intro J hJ) | refine e_go ?_);simp [];(repeat refine ca ?_);(try ((try with_reducible refine ⟨?_,?_⟩)<;>(try with_reducible intro hnil)<;>refine hJ _ _ ?_<;>clear hJ J<;>simp only [ak,reduceIte]<;>try subst hnil)))))
def cellV (l:List Int):LV:=.sl 0 l.length (us l)
def cellsV (R:List (List Int)):List LV:=R.map cellV
@[simp] theorem cellsV_len (R:List (List Int)):(cellsV R).length=R.length:=by simp [cellsV]
end Go.Proofs.YtkcokoefodgigaaGreat.Aw
namespace Go.Proofs.YtkcokoefodgigaaGreat.Aw
open Go Go.RowKit Go.Proofs.YtkcokoefodgigaaGreat.Pl Go.Proofs.YtkcokoefodgigaaGreat.Eu
set_option linter.unusedSimpArgs false
set_option linter.unusedVariables false
theorem numb_posB {n a:Int} {f:Bool} (h:numb n a f=0):1≤n∧n≤1048576:=by
 unfold numb at h
 by_cases h1:n < 1∨1048576 < n
 ·rw [if_pos h1] at h;cases h
 ·omega
theorem chk_vrB {g:Gr} (h:chk g=0):∀ v∈g.vs,1≤v∧v≤1048576:=fun v hv=>by
 unfold chk at h
 by_cases h1:64 < g.vs.length∨160 < g.es.length
 ·rw [if_pos h1] at h;cases h
 ·rw [if_neg h1] at h
  by_cases h2:firstNZ (badV g) g.vs.length=0
  ·have k1:=List.idxOf_lt_length_of_mem hv
   have k2:g.vs.getD (g.vs.idxOf v) 0=v:=by rw [getD_lt _ _ k1,List.getElem_idxOf]
   have:=firstNZ_all h2 _ k1
   unfold badV at this
   rw [k2] at this
   exact numb_posB this
  ·rw [if_pos h2] at h;exact absurd h h2
theorem refCheckB (g:Gr) (st:St):ACalls Tryz.prog 6 [.ag (grL g)] st fun r st'=>r=i (chk g)∧st'=st:=
 qT (Q:=fun r=>r=i (chk g)) (ref_CheckA g st) fun r h=>by subst h;trivial
def lit13 (g:Gr):Bool:=decide (chk g=0)&&decide (g.vs.length≤16)&&decide (g.es.length≤24)
theorem light13 (g:Gr) (st:St):ACalls Tryz.prog 10 [.ag (grL g)] st fun r st'=>r=bb (lit13 g)∧st'=st:=by
 refine qT (Q:=fun r=>r=bb (lit13 g)) ?_ fun r h=>by subst h;trivial
 unfold lit13
 refine qO tabOk Tryz.func10 rfl rfl Tryz.ntmps10 (rs:=[.tmp 2]) rfl (by simp) ?_
 (repeat' (first | refine qS ?_ | refine qB ?_ | ((first | refine qK ?_ | refine qX ?_);simp only [ak,reduceIte]) | (refine qR ?_;simp only [ak,reduceIte];simp []) | (refine qC ?_;simp [];(try with_reducible refine ⟨?_,?_⟩)<;>(try with_reducible intro hc)<;>try (exfalso;omega)) | ((first | (refine w_e [] ?_;intro J hJ;simp only []) | (refine w_q ?_;intro J hJ) | refine e_go ?_);simp [];(repeat refine ca ?_);(try ((try with_reducible refine ⟨?_,?_⟩)<;>(try with_reducible intro hnil)<;>refine hJ _ _ ?_<;>clear hJ J<;>simp only [ak,reduceIte]<;>try subst hnil)))))
 refine qE (refCheckB g _) (by simp) ?_;rintro r s1 ⟨rfl,h7⟩
 rw [h7];clear h7 s1
 by_cases hc:chk g=0
 ·have hb:(chk g==0)=true:=by simpa using hc
  by_cases h1:g.vs.length≤16
  ·have h1':(g.vs.length:Int)≤16:=by omega
   by_cases h2:g.es.length≤24
   ·have h2':(g.es.length:Int)≤24:=by omega
    (repeat' (first | refine qS ?_ | refine qB ?_ | ((first | refine qK ?_ | refine qX ?_);simp only [ak,reduceIte]) | (refine qR ?_;simp only [ak,reduceIte];simp [hc,hb,h1,h1',h2,h2']) | (refine qC ?_;simp [hc,hb,h1,h1',h2,h2'];(try with_reducible refine ⟨?_,?_⟩)<;>(try with_reducible intro hc)<;>try (exfalso;omega)) | ((first | (refine w_e [] ?_;intro J hJ;simp only []) | (refine w_q ?_;intro J hJ) | refine e_go ?_);simp [hc,hb,h1,h1',h2,h2'];(repeat refine ca ?_);(try ((try with_reducible refine ⟨?_,?_⟩)<;>(try with_reducible intro hnil)<;>refine hJ _ _ ?_<;>clear hJ J<;>simp only [ak,reduceIte]<;>try subst hnil)))))
    exact Keeps.new _ _
   ·have h2':¬ (g.es.length:Int)≤24:=by omega
    (repeat' (first | refine qS ?_ | refine qB ?_ | ((first | refine qK ?_ | refine qX ?_);simp only [ak,reduceIte]) | (refine qR ?_;simp only [ak,reduceIte];simp [hc,hb,h1,h1',h2,h2']) | (refine qC ?_;simp [hc,hb,h1,h1',h2,h2'];(try with_reducible refine ⟨?_,?_⟩)<;>(try with_reducible intro hc)<;>try (exfalso;omega)) | ((first | (refine w_e [] ?_;intro J hJ;simp only []) | (refine w_q ?_;intro J hJ) | refine e_go ?_);simp [hc,hb,h1,h1',h2,h2'];(repeat refine ca ?_);(try ((try with_reducible refine ⟨?_,?_⟩)<;>(try with_reducible intro hnil)<;>refine hJ _ _ ?_<;>clear hJ J<;>simp only [ak,reduceIte]<;>try subst hnil)))))
    exact Keeps.new _ _
  ·have h1':¬ (g.vs.length:Int)≤16:=by omega
   (repeat' (first | refine qS ?_ | refine qB ?_ | ((first | refine qK ?_ | refine qX ?_);simp only [ak,reduceIte]) | (refine qR ?_;simp only [ak,reduceIte];simp [hc,hb,h1,h1']) | (refine qC ?_;simp [hc,hb,h1,h1'];(try with_reducible refine ⟨?_,?_⟩)<;>(try with_reducible intro hc)<;>try (exfalso;omega)) | ((first | (refine w_e [] ?_;intro J hJ;simp only []) | (refine w_q ?_;intro J hJ) | refine e_go ?_);simp [hc,hb,h1,h1'];(repeat refine ca ?_);(try ((try with_reducible refine ⟨?_,?_⟩)<;>(try with_reducible intro hnil)<;>refine hJ _ _ ?_<;>clear hJ J<;>simp only [ak,reduceIte]<;>try subst hnil)))))
   exact Keeps.new _ _
 ·have hb:(chk g==0)=false:=by simpa using hc
  (repeat' (first | refine qS ?_ | refine qB ?_ | ((first | refine qK ?_ | refine qX ?_);simp only [ak,reduceIte]) | (refine qR ?_;simp only [ak,reduceIte];simp [hc,hb]) | (refine qC ?_;simp [hc,hb];(try with_reducible refine ⟨?_,?_⟩)<;>(try with_reducible intro hc)<;>try (exfalso;omega)) | ((first | (refine w_e [] ?_;intro J hJ;simp only []) | (refine w_q ?_;intro J hJ) | refine e_go ?_);simp [hc,hb];(repeat refine ca ?_);(try ((try with_reducible refine ⟨?_,?_⟩)<;>(try with_reducible intro hnil)<;>refine hJ _ _ ?_<;>clear hJ J<;>simp only [ak,reduceIte]<;>try subst hnil)))))
  exact Keeps.new _ _
theorem bkL_drop (es:List Ed) (out:List (List Nat)) (j:Nat) (hj:j < out.length):(bkL es out).drop j=.sl 0 (out.getD j []).length (eds ((out.getD j []).map (eAt es)))::(bkL es out).drop (j+1):=by
 unfold bkL
 rw [List.drop_eq_getElem_cons (by simpa using hj)]
 simp [hj]
set_option maxHeartbeats 4000000 in
theorem BlockCuts (g:Gr) (st:St):ACalls Tryz.prog 4 [.ag (grL g)] st fun r st'=>r=bb true:=by
 refine qO tabOk Tryz.func4 rfl rfl Tryz.ntmps4 (rs:=[.tmp 2]) rfl (by simp) ?_
 refine awp_posG fun hpos=>?_
 (repeat' (first | refine qS ?_ | refine qB ?_ | ((first | refine qK ?_ | refine qX ?_);simp only [ak,reduceIte]) | (refine qR ?_;simp only [ak,reduceIte];simp []) | (refine qC ?_;simp [];(try with_reducible refine ⟨?_,?_⟩)<;>(try with_reducible intro hc)<;>try (exfalso;omega)) | ((first | (refine w_e [] ?_;intro J hJ;simp only []) | (refine w_q ?_;intro J hJ) | refine e_go ?_);simp [];(repeat refine ca ?_);(try ((try with_reducible refine ⟨?_,?_⟩)<;>(try with_reducible intro hnil)<;>refine hJ _ _ ?_<;>clear hJ J<;>simp only [ak,reduceIte]<;>try subst hnil)))))
 refine qE (awake13 _) (by simp []) ?_;rintro r st' ⟨rfl,rfl⟩
 (repeat' (first | refine qS ?_ | refine qB ?_ | ((first | refine qK ?_ | refine qX ?_);simp only [ak,reduceIte]) | (refine qR ?_;simp only [ak,reduceIte];simp []) | (refine qC ?_;simp [];(try with_reducible refine ⟨?_,?_⟩)<;>(try with_reducible intro hc)<;>try (exfalso;omega)) | ((first | (refine w_e [] ?_;intro J hJ;simp only []) | (refine w_q ?_;intro J hJ) | refine e_go ?_);simp [];(repeat refine ca ?_);(try ((try with_reducible refine ⟨?_,?_⟩)<;>(try with_reducible intro hnil)<;>refine hJ _ _ ?_<;>clear hJ J<;>simp only [ak,reduceIte]<;>try subst hnil)))))
 refine qE (light13 g _) (by simp) ?_;rintro r s1 ⟨rfl,h1⟩
 rw [h1];clear h1 s1
 cases hf:lit13 g
 ·(repeat' (first | refine qS ?_ | refine qB ?_ | ((first | refine qK ?_ | refine qX ?_);simp only [ak,reduceIte]) | (refine qR ?_;simp only [ak,reduceIte];simp []) | (refine qC ?_;simp [];(try with_reducible refine ⟨?_,?_⟩)<;>(try with_reducible intro hc)<;>try (exfalso;omega)) | ((first | (refine w_e [] ?_;intro J hJ;simp only []) | (refine w_q ?_;intro J hJ) | refine e_go ?_);simp [];(repeat refine ca ?_);(try ((try with_reducible refine ⟨?_,?_⟩)<;>(try with_reducible intro hnil)<;>refine hJ _ _ ?_<;>clear hJ J<;>simp only [ak,reduceIte]<;>try subst hnil)))))
 unfold lit13 at hf
 simp only [Bool.and_eq_true,decide_eq_true_iff] at hf
 obtain ⟨⟨hc,h16⟩,h24⟩:=hf
 have hg:=chk_goodE hc
 have hvp:=chk_vrB hc
 have B1:=fun st=>Blocks g hg st (by omega) (by omega)
 have B2:=fun st=>refBlocks g hg st (by omega) (by omega) hvp
 have hbl:=bkL_length g.es (ledB g.es)
 have hll:(ledB g.es).length≤24:=by
  unfold ledB
  rw [List.length_map]
  have:=List.length_filter_le (fun i=>decide ((clsB g.es i).headD 0=i)) (List.range g.es.length)
  rw [List.length_range] at this
  omega
 have hcl:∀ j,j < (ledB g.es).length→((ledB g.es).getD j []).length≤24:=fun j hj=>by
  have hm:(ledB g.es).getD j []∈ledB g.es:=by rw [List.getD_eq_getElem?_getD,List.getElem?_eq_getElem hj];exact List.getElem_mem _
  generalize (ledB g.es).getD j []=Bx at *
  unfold ledB at hm
  obtain ⟨i,_,e⟩:=List.mem_map.1 hm
  rw [← e]
  unfold clsB
  have:=List.length_filter_le (fun j=>@decide (RelB g.es i j) (Classical.propDecidable _)) (List.range g.es.length)
  rw [List.length_range] at this
  omega
 have hdr:=bkL_drop g.es (ledB g.es)
 generalize ledB g.es=L at *
 (repeat' (first | refine qS ?_ | refine qB ?_ | ((first | refine qK ?_ | refine qX ?_);simp only [ak,reduceIte]) | (refine qR ?_;simp only [ak,reduceIte];simp []) | (refine qC ?_;simp [];(try with_reducible refine ⟨?_,?_⟩)<;>(try with_reducible intro hc)<;>try (exfalso;omega)) | ((first | (refine w_e [] ?_;intro J hJ;simp only []) | (refine w_q ?_;intro J hJ) | refine e_go ?_);simp [];(repeat refine ca ?_);(try ((try with_reducible refine ⟨?_,?_⟩)<;>(try with_reducible intro hnil)<;>refine hJ _ _ ?_<;>clear hJ J<;>simp only [ak,reduceIte]<;>try subst hnil)))))
 (refine w_s [] [st.next] [(0,true),(2,true),(1,true),(3,true),(4,true),(5,true)] ?_;intro J hJ;simp [];(repeat refine ca ?_);(try ((try with_reducible refine ⟨?_,?_⟩)<;>(try with_reducible intro hnil)<;>refine hJ _ _ ?_<;>clear hJ J<;>simp only [ak,reduceIte]<;>try subst hnil)))
 refine qD (B1 _) (by simp [grL]) ?_;rintro r s1 ⟨rfl,h1⟩
 rw [h1];clear h1 s1
 refine ⟨fun h=>by first | (cases h;done) | simp,?_⟩
 (refine d_go ?_;simp [];(repeat refine ca ?_);(try ((try with_reducible refine ⟨?_,?_⟩)<;>(try with_reducible intro hnil)<;>refine hJ _ _ ?_<;>clear hJ J<;>simp only [ak,reduceIte]<;>try subst hnil)))
 refine qD (B2 _) (by simp [grL]) ?_;rintro r s1 ⟨rfl,h1⟩
 rw [h1];clear h1 s1
 refine ⟨fun h=>by first | (cases h;done) | simp,?_⟩
 (refine d_go ?_;simp [];(repeat refine ca ?_);(try ((try with_reducible refine ⟨?_,?_⟩)<;>(try with_reducible intro hnil)<;>refine hJ _ _ ?_<;>clear hJ J<;>simp only [ak,reduceIte]<;>try subst hnil)))
 (repeat' (first | refine qS ?_ | refine qB ?_ | ((first | refine qK ?_ | refine qX ?_);simp only [ak,reduceIte]) | (refine qR ?_;simp only [ak,reduceIte];simp []) | (refine qC ?_;simp [];(try with_reducible refine ⟨?_,?_⟩)<;>(try with_reducible intro hc)<;>try (exfalso;omega)) | ((first | (refine w_e [] ?_;intro J hJ;simp only []) | (refine w_q ?_;intro J hJ) | refine e_go ?_);simp [];(repeat refine ca ?_);(try ((try with_reducible refine ⟨?_,?_⟩)<;>(try with_reducible intro hnil)<;>refine hJ _ _ ?_<;>clear hJ J<;>simp only [ak,reduceIte]<;>try subst hnil)))))
 refine awp_range 22 21 23 35 (L.length) (fun j fr st2=>fr 3=.sl 0 L.length (bkL g.es L)∧fr 4=.sl 0 L.length (bkL g.es L)) ?_ ?_ ?_
 ·exact ⟨by simp,by simp⟩
 ·rintro j fr s hlt ⟨f3,f4⟩ fi fn JO hJO
  have hd:=hdr j hlt
  have hlen:=hcl j hlt
  have hlt':(j:Int) < L.length:=by omega
  have hE:=fun st=>EqualE ((L.getD j []).map (eAt g.es)) 0 0 st (by rw [List.length_map];omega)
  rw [List.length_map] at hE
  generalize eds ((L.getD j []).map (eAt g.es))=EE at *
  generalize (L.getD j []).length=n at *
  (repeat' (first | refine qS ?_ | refine qB ?_ | ((first | refine qK ?_ | refine qX ?_);simp only [ak,reduceIte]) | (refine qR ?_;simp only [ak,reduceIte];simp [fi,fn]) | (refine qC ?_;simp [fi,fn];(try with_reducible refine ⟨?_,?_⟩)<;>(try with_reducible intro hc)<;>try (exfalso;omega)) | ((first | (refine w_e [] ?_;intro J hJ;simp only []) | (refine w_q ?_;intro J hJ) | refine e_go ?_);simp [fi,fn];(repeat refine ca ?_);(try ((try with_reducible refine ⟨?_,?_⟩)<;>(try with_reducible intro hnil)<;>refine hJ _ _ ?_<;>clear hJ J<;>simp only [ak,reduceIte]<;>try subst hnil)))))
  (refine w_s [] [] [(0,true),(1,true),(2,true),(3,true),(4,true),(5,true),(6,true),(7,true),(8,false),(9,true)] ?_;intro J hJ;simp [f3,f4,hd,hlt,hlt',hbl];(repeat refine ca ?_);(try ((try with_reducible refine ⟨?_,?_⟩)<;>(try with_reducible intro hnil)<;>refine hJ _ _ ?_<;>clear hJ J<;>simp only [ak,reduceIte]<;>try subst hnil)))
  refine qD (hE _) (by simp) ?_;rintro r s1 ⟨rfl,h1⟩
  rw [h1];clear h1 s1
  refine ⟨fun h=>by first | (cases h;done) | simp,?_⟩
  (refine d_go ?_;simp [];(repeat refine ca ?_);(try ((try with_reducible refine ⟨?_,?_⟩)<;>(try with_reducible intro hnil)<;>refine hJ _ _ ?_<;>clear hJ J<;>simp only [ak,reduceIte]<;>try subst hnil)))
  (repeat' (first | refine qS ?_ | refine qB ?_ | ((first | refine qK ?_ | refine qX ?_);simp only [ak,reduceIte]) | (refine qR ?_;simp only [ak,reduceIte];simp [fi]) | (refine qC ?_;simp [fi];(try with_reducible refine ⟨?_,?_⟩)<;>(try with_reducible intro hc)<;>try (exfalso;omega)) | ((first | (refine w_e [] ?_;intro J hJ;simp only []) | (refine w_q ?_;intro J hJ) | refine e_go ?_);simp [fi];(repeat refine ca ?_);(try ((try with_reducible refine ⟨?_,?_⟩)<;>(try with_reducible intro hnil)<;>refine hJ _ _ ?_<;>clear hJ J<;>simp only [ak,reduceIte]<;>try subst hnil)))))
  exact hJO _ _ (by simp [fi]) (by simp [fn]) ⟨by simp [f3],by simp [f4]⟩
 ·rintro fr s ⟨f3,f4⟩
  (repeat' (first | refine qS ?_ | refine qB ?_ | ((first | refine qK ?_ | refine qX ?_);simp only [ak,reduceIte]) | (refine qR ?_;simp only [ak,reduceIte];simp []) | (refine qC ?_;simp [];(try with_reducible refine ⟨?_,?_⟩)<;>(try with_reducible intro hc)<;>try (exfalso;omega)) | ((first | (refine w_e [] ?_;intro J hJ;simp only []) | (refine w_q ?_;intro J hJ) | refine e_go ?_);simp [];(repeat refine ca ?_);(try ((try with_reducible refine ⟨?_,?_⟩)<;>(try with_reducible intro hnil)<;>refine hJ _ _ ?_<;>clear hJ J<;>simp only [ak,reduceIte]<;>try subst hnil)))))
theorem BlockCuts_shp (l0:List LV) (st:St) (h0:Shp tab 25 l0):ACalls Tryz.prog 4 [argT tab 25 l0] st fun r st'=>r=bb true:=by
 obtain ⟨g,rfl,_⟩:=shp_gr h0
 exact BlockCuts g st
end Go.Proofs.YtkcokoefodgigaaGreat.Aw
