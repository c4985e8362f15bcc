/- The law BlockApart. -/
import Derived.Test.YtkcokoefodgigaaGreatJh
import Derived.Test.YtkcokoefodgigaaGreatAwMr5
namespace Go.Proofs.YtkcokoefodgigaaGreat.Aw
open Go Go.RowKit Go.Proofs.YtkcokoefodgigaaGreat.Pl Go.Proofs.YtkcokoefodgigaaGreat.Eu
set_option linter.unusedSimpArgs false
set_option linter.unusedVariables false
theorem set_sameS {st:St} {m:Nat} {o:LObj} (h:st.H m=o):st.set m o=st:=by
 obtain ⟨n,H⟩:=st
 simp only [St.set,St.mk.injEq,true_and]
 funext y
 by_cases e:y=m
 ·subst e;rw [if_pos rfl];exact h.symm
 ·rw [if_neg e]
def mpsL (M:List Nat):List LV:=M.map .mp
@[simp] theorem mpsL_len (M:List Nat):(mpsL M).length=M.length:=by simp [mpsL]
theorem mpsL_drop (M:List Nat) (k:Nat) (hk:k < M.length):(mpsL M).drop k=.mp (M.getD k 0)::(mpsL M).drop (k+1):=by
 unfold mpsL
 rw [List.drop_eq_getElem_cons (by simpa using hk)]
 simp [hk]
theorem mpsL_snoc (M:List Nat) (m:Nat):mpsL M++[.mp m]=mpsL (M++[m]):=by simp [mpsL]
def BaF (q0:Nat) (LL:LV) (Ln jo:Nat) (sm:Int) (al bl:LV) (m:Nat) (fr:Frm):Prop:=
 fr 1=.pt q0 0∧fr 3=LL∧fr 34=LL∧fr 35=i Ln∧fr 36=i jo∧fr 4=i sm∧fr 5=al∧fr 7=bl∧fr 8=.mp m
theorem BaF.put {q0:Nat} {LL:LV} {Ln jo:Nat} {sm:Int} {al bl:LV} {m:Nat} {fr:Frm} (h:BaF q0 LL Ln jo sm al bl m fr) {k:Nat} {x:LV} (hk:[1,3,34,35,36,4,5,7,8].contains k=false):BaF q0 LL Ln jo sm al bl m (upd fr k x):=by
 obtain ⟨a,b,c,d,e,f,g,h,l⟩:=h
 have key:∀ n,[1,3,34,35,36,4,5,7,8].contains n=true→upd fr k x n=fr n:=fun n hn=>if_neg fun e=>by rw [e] at hn;rw [hn] at hk;cases hk
 exact ⟨(key 1 rfl).trans a,(key 3 rfl).trans b,(key 34 rfl).trans c,(key 35 rfl).trans d,(key 36 rfl).trans e,(key 4 rfl).trans f,(key 5 rfl).trans g,(key 7 rfl).trans h,(key 8 rfl).trans l⟩
def BaS (g:Gr) (U:Nat→List Int) (q0 t jo:Nat) (M:List Nat) (s:St):Prop:=
 s.H q0=.box 25 2 (grL g)∧q0 < s.next∧t≠0∧t < s.next∧s.H t=.own 31 1 jo∧M.length=jo∧∀ k,k < jo→M.getD k 0 < s.next∧s.H (M.getD k 0)=.map false [.u32] (trM (U k))
theorem BaS.keep {g:Gr} {U:Nat→List Int} {q0 t jo:Nat} {M:List Nat} {s s':St} (h:BaS g U q0 t jo M s) (k:Keeps s s'):BaS g U q0 t jo M s':=by
 obtain ⟨a,b,c,d,e,f,h⟩:=h
 exact ⟨(k.H _ b).trans a,Nat.lt_of_lt_of_le b k.next,c,Nat.lt_of_lt_of_le d k.next,(k.H _ d).trans e,f,fun l hl=>⟨Nat.lt_of_lt_of_le (h l hl).1 k.next,(k.H _ (h l hl).1).trans (h l hl).2⟩⟩
structure KX (m:Nat) (a b:St):Prop where
 next:a.next≤b.next
 H:∀ l,l < a.next→l≠m→b.H l=a.H l
theorem KX.keeps {m:Nat} {a b c:St} (h:KX m a b) (k:Keeps b c):KX m a c:=⟨Nat.le_trans h.next k.next,fun l hl hm=>(k.H l (Nat.lt_of_lt_of_le hl h.next)).trans (h.H l hl hm)⟩
theorem KX.set {m:Nat} {a b:St} (h:KX m a b) {q:Nat} (hq:a.next≤q) (o:LObj):KX m a (b.set q o):=⟨h.next,fun l hl hm=>by rw [set_H,if_neg (by omega)];exact h.H l hl hm⟩
theorem KX.back {m:Nat} {a b:St} (h:KX m a b) {o:LObj} (ho:a.H m=o):Keeps a (b.set m o):=⟨h.next,fun l hl=>by
 rw [set_H]
 by_cases e:l=m
 ·rw [if_pos e,e,ho]
 ·rw [if_neg e];exact h.H l hl e⟩
theorem trM_mem {V:List Int} {e:List Int×LV} (h:e∈trM V):∃ v∈V,e=([v],bb true):=by
 obtain ⟨v,hv,rfl⟩:=List.mem_map.1 h
 exact ⟨v,hv,rfl⟩
theorem cntT_midV (V:List Int) (L1 L2:List (List Int×LV)) (v:Int):cntT V (L1++([v],bb true)::L2)=cntT V (L1++L2)+if v∈V then 1 else 0:=by rw [cntT_mid];rfl
def keyE (e:List Int×LV):Int:=e.1.headD 0
theorem trM_keys (V:List Int):(trM V).map keyE=V:=by
 unfold trM
 rw [List.map_map]
 exact (List.map_congr_left fun v _=>rfl).trans (List.map_id V)
set_option maxHeartbeats 8000000 in
theorem BlockApart (g:Gr) (st:St):ACalls Tryz.prog 3 [.ag (grL g)] st fun r st'=>r=bb true:=by
 refine qO tabOk Tryz.func3 rfl rfl Tryz.ntmps3 (rs:=[.tmp 2]) rfl (by simp) ?_
 refine awp_posG fun hpos=>?_
 (repeat' (first | refine qS ?_ | (refine w_e [] ?_;intro J hJ;simp only [];simp [];(try (refine hJ _ _ ?_;clear hJ J;simp only [ak,reduceIte])))))
 refine qE (awake13 _) (by simp []) ?_;rintro r st' ⟨rfl,rfl⟩
 (repeat' (first | refine qS ?_ | (refine qK ?_;simp only [ak,reduceIte]) | (refine qC ?_;simp []) | ((first | (refine w_e [] ?_;intro J hJ;simp only []) | (refine e_go ?_));simp [];(try (refine hJ _ _ ?_;clear hJ J;simp only [ak,reduceIte])))))
 refine qE (refCheckB g _) (by simp) ?_;rintro r s1 ⟨rfl,h1⟩
 rw [h1];clear h1 s1
 by_cases hc:chk g=0
 case neg=>
  have hb:(chk g != 0)=true:=by simpa using hc
  (repeat' (first | refine qS ?_ | (refine qR ?_;simp only [ak,reduceIte];simp [hc,hb]) | (refine qC ?_;simp [hc,hb]) | ((first | (refine w_e [] ?_;intro J hJ;simp only []) | (refine e_go ?_));simp [hc,hb];(refine hJ _ _ ?_;clear hJ J;simp only [ak,reduceIte]))))
 have hb:(chk g != 0)=false:=by simpa using hc
 by_cases h60:g.es.length≤60
 case neg=>
  have h6:(60:Int) < g.es.length:=by omega
  (repeat' (first | refine qS ?_ | (refine qR ?_;simp only [ak,reduceIte];simp [hc,hb,h6]) | (refine qC ?_;simp [hc,hb,h6]) | ((first | (refine w_e [] ?_;intro J hJ;simp only []) | (refine e_go ?_));simp [hc,hb,h6];(refine hJ _ _ ?_;clear hJ J;simp only [ak,reduceIte]))))
 have h6:¬ (60:Int) < g.es.length:=by omega
 have hg:=chk_goodE hc
 have hv64:g.vs.length≤64:=by
  unfold chk at hc
  by_cases h1:64 < g.vs.length∨160 < g.es.length
  ·rw [if_pos h1] at hc;cases hc
  ·omega
 (repeat' (first | refine qS ?_ | (refine qK ?_;simp only [ak,reduceIte]) | (refine qC ?_;simp [hc,hb,h6]) | ((first | (refine w_e [] ?_;intro J hJ;simp only []) | (refine e_go ?_));simp [hc,hb,h6];(try (refine hJ _ _ ?_;clear hJ J;simp only [ak,reduceIte])))))
 refine qE (Blocks g hg _ (by omega) (by omega)) (by simp [grL]) ?_;rintro r s1 ⟨rfl,h1⟩
 rw [h1];clear h1 s1
 have hbl:=bkL_length g.es (ledB g.es)
 have hdr:=bkL_drop g.es (ledB g.es)
 have hP:=led_facts hg h60
 have hXe:∀ j,((ledB g.es).getD j []).map (eAt g.es)=(fun j=>esB g.es ((ledB g.es).getD j [])) j:=fun j=>rfl
 generalize (fun j=>esB g.es ((ledB g.es).getD j []))=X at *
 simp only [hXe] at hdr
 clear hXe
 generalize ledB g.es=L at *
 simp only [← hP.len] at hdr
 (repeat' (first | refine qS ?_ | refine qB ?_ | ((first | (refine w_e [] ?_;intro J hJ;simp only []) | (refine e_go ?_));simp [];(refine hJ _ _ ?_;clear hJ J;simp only [ak,reduceIte]))))
 refine awp_own 5 31 1 (by simp) ?_
 have e01:¬ st.next=st.next+1:=by omega
 have hfew:=hP.few
 refine awp_range 36 35 37 132 (L.length) (fun j fr st2=>fr 1=.pt st.next 0∧fr 3=.sl 0 L.length (bkL g.es L)∧fr 34=.sl 0 L.length (bkL g.es L)∧fr 4=i (((L.take j).map List.length).sum:Nat)∧∃ t M,fr 5=.sl t j (mpsL M)∧BaS g (fun k=>vsB (X k)) st.next t j M st2) ?_ ?_ ?_
 ·exact ⟨by simp,by simp,by simp,by simp,st.next+1,[],by simp [mpsL],by simp [e01],by simp;omega,by omega,by simp,by simp,rfl,fun k hk=>by omega⟩
 ·rintro jo fr s hlt ⟨f1,f3,f34,f4,t,M,f5,hS⟩ fi fn JO hJO
  have hd:=hdr jo hlt
  have hs1:=hP.step jo hlt
  have hap:=fun i (h:i < jo)=>hP.apart i jo h hlt
  have hrst:=hP.rest jo hlt
  have hids:=hP.ids jo hlt
  have hsm:=hP.sm jo hlt
  have hle1:=hP.le (jo+1) hlt
  have hel:=eds_length (X jo)
  rw [hs1] at hle1
  generalize ((L.take jo).map List.length).sum=SM at *
  generalize hXY:X jo=Y at hd hs1 hap hrst hids hsm hle1 hel
  have w1:IntKind.i64.wrap ((SM:Int)+(Y.length:Int))=(SM:Int)+Y.length:=wrap_i64 _ (by omega) (by omega)
  (repeat' (first | refine qS ?_ | refine qB ?_ | (refine w_e [] ?_;intro J hJ;simp only [];simp [f1,f3,f34,f4,f5,fi,fn,hd,hlt,w1,hbl];(refine hJ _ _ ?_;clear hJ J;simp only [ak,reduceIte]))))
  refine awp_range 47 46 48 57 (Y.length) (fun j fr st2=>BaF st.next (.sl 0 L.length (bkL g.es L)) L.length jo ((SM:Int)+Y.length) (.sl t jo (mpsL M)) (.sl 0 Y.length (eds Y)) s.next fr∧fr 45=.sl 0 Y.length (eds Y)∧s.next < st2.next∧Keeps s st2∧st2.H s.next=.map false [.u32] (trM (vsB (Y.take j)))) ?_ ?_ ?_
  ·exact ⟨⟨by simp [f1],by simp [f3],by simp [f34],by simp [fn],by simp [fi],by simp,by simp [f5],by simp,by simp⟩,by simp,by simp,Keeps.new _ _,by simp [vsB,trM]⟩
  ·rintro k fr s2 hlk ⟨hF,f45,hn2,hk2,hm2⟩ fi2 fn2 JI hJI
   obtain ⟨g1,g3,g34,g35,g36,g4,g5,g7,g8⟩:=id hF
   have hdE:=eds_drop Y k hlk
   have hk3:k * 3 < Y.length * 3:=by omega
   have htk:=vsB_take Y k hlk
   generalize Y.getD k ed0=x at *
   obtain ⟨d,a,b⟩:=x
   simp only at htk
   have c1:¬ s2.next=s.next:=by omega
   have c2:¬ s.next=s2.next:=by omega
   (repeat' (first | refine qS ?_ | (refine w_e [] ?_;intro J hJ;simp only [];simp [g8,f45,fi2,fn2,hdE,hel,hlk,hk3];(refine hJ _ _ ?_;clear hJ J;simp only [ak,reduceIte]))))
   (refine w_s [] [s2.next] [(0,true),(1,true),(2,true),(3,true),(4,true),(5,true),(6,true),(7,false)] ?_;intro J hJ;simp [g8,hm2,c1,c2,mset_trM];(refine hJ _ _ ?_;clear hJ J;simp only [ak,reduceIte]))
   skip
   exact hJI _ _ (by simp [fi2]) (by simp [fn2]) ⟨by (repeat (refine BaF.put ?_ rfl));exact hF,by simp [f45],by simp;omega,(((hk2.trans (Keeps.new _ _)).set (Nat.le_refl _) _).set (Nat.le_refl _) _),by rw [htk];simp⟩
  ·rintro fr s2 ⟨hF,f45,hn2,hk2,hm2⟩
   rw [List.take_length] at hm2
   obtain ⟨g1,g3,g34,g35,g36,g4,g5,g7,g8⟩:=id hF
   have hS2:=hS.keep hk2
   obtain ⟨hq0,hq1,ht0,ht1,ht2,hMl,hMk⟩:=id hS2
   have hsn:=hk2.next
   have hmM:∀ k,k < jo→¬ M.getD k 0=s.next:=fun k hk=>by have:=(hS.2.2.2.2.2.2 k hk).1;omega
   have hUl:=vsB_le Y Y.length (Nat.le_refl _)
   rw [List.take_length] at hUl
   (repeat' (first | refine qS ?_ | refine qB ?_ | (refine w_e [] ?_;intro J hJ;simp only [];simp [g5];(refine hJ _ _ ?_;clear hJ J;simp only [ak,reduceIte]))))
   refine awp_range 60 59 61 77 (jo) (fun j fr st2=>BaF st.next (.sl 0 L.length (bkL g.es L)) L.length jo ((SM:Int)+Y.length) (.sl t jo (mpsL M)) (.sl 0 Y.length (eds Y)) s.next fr∧fr 58=.sl t jo (mpsL M)∧st2=s2) ?_ ?_ ?_
   ·exact ⟨by (repeat (refine BaF.put ?_ rfl));exact hF,by simp,rfl⟩
   ·clear hF g1 g3 g34 g35 g36 g4 g5 g7 g8 f45 fr
    rintro k fr s3 hlk ⟨hF,f58,hs3⟩ fi3 fn3 JI hJI
    subst hs3
    obtain ⟨g1,g3,g34,g35,g36,g4,g5,g7,g8⟩:=id hF
    obtain ⟨hmk1,hmk2⟩:=hMk k hlk
    have hmk3:=hmM k hlk
    have hapk:=hap k hlk
    have hdM:=mpsL_drop M k (by omega)
    dsimp only at hmk2
    generalize M.getD k 0=mk at *
    generalize vsB (X k)=Uk at *
    refine qS ?_
    (refine w_e [] ?_;intro J hJ;simp only [];simp [f58,fi3,fn3,hdM,hlk,hMl];(refine hJ _ _ ?_;clear hJ J;simp only [ak,reduceIte]))
    refine qS ?_
    (refine w_e [] ?_;intro J hJ;simp only [];simp [];(refine hJ _ _ ?_;clear hJ J;simp only [ak,reduceIte]))
    refine qS ?_
    have hcn:cntT Uk (trM (vsB Y))≤1:=hapk
    refine awp_mapRange tabOk [] (fun Lr fr x=>BaF st.next (.sl 0 L.length (bkL g.es L)) L.length jo ((SM:Int)+Y.length) (.sl t jo (mpsL M)) (.sl 0 Y.length (eds Y)) s.next fr∧fr 58=.sl t jo (mpsL M)∧fr 59=i jo∧fr 60=i k∧fr 12=.mp mk∧(∀ e∈Lr,∃ v,e=([v],bb true))∧(∃ b:Nat,fr 13=i b∧b+cntT Uk Lr=cntT Uk (trM (vsB Y)))∧x=s3.set s.next (.frz false [.u32] (trM (vsB Y)))) (by simp [g8]) hm2 ?_ ?_ ?_ Tryz.underlying31
    ·intro r
     exact ⟨by (repeat (refine BaF.put ?_ rfl));exact hF,by simp [f58],by simp [fn3],by simp [fi3],by simp,fun e he=>by obtain ⟨v,_,h⟩:=trM_mem he;exact ⟨v,h⟩,⟨0,by simp,by omega⟩,rfl⟩
    ·clear hF g1 g3 g34 g35 g36 g4 g5 g7 g8 f58 fn3 fi3 fr
     rintro r L1 e L2 fr x ⟨hF,f58,fn3,fi3,f12,hmem,⟨b,f13,hb⟩,hx⟩ ft J hJ
     subst hx
     obtain ⟨v,rfl⟩:=hmem e (by simp)
     have hcm:=cntT_midV Uk L1 L2 v
     have hmem2:∀ e∈L1++L2,∃ v,e=([v],bb true):=fun e he=>hmem e (by simp only [List.mem_append,List.mem_cons] at he ⊢;rcases he with h | h;exact .inl h;exact .inr (.inr h))
     have hget:=mget_trM Uk v
     refine e_go ?_
     simp [keyV,mkC]
     by_cases hv:v∈Uk
     ·rw [if_pos hv] at hcm hget
      have wb:IntKind.i64.wrap ((b:Int)+1)=(b:Int)+1:=wrap_i64 _ (by omega) (by omega)
      (repeat' (first | refine qS ?_ | (refine qC ?_;simp [f12,f13,hmk2,hmk3,hget,wb]) | (refine w_e [] ?_;intro J hJ;simp only [];simp [f12,f13,hmk2,hmk3,hget,wb];(refine hJ _ _ ?_;clear hJ J;simp only [ak,reduceIte]))))
      exact hJ _ _ ⟨by (repeat (refine BaF.put ?_ rfl));exact hF,by simp [f58],by simp [fn3],by simp [fi3],by simp [f12],hmem2,⟨b+1,by simp,by omega⟩,rfl⟩ (by simp [ft]) (by simp)
     ·rw [if_neg hv] at hcm hget
      (repeat' (first | refine qS ?_ | (refine qK ?_;simp only [ak,reduceIte]) | (refine qC ?_;simp [f12,f13,hmk2,hmk3,hget]) | (refine w_e [] ?_;intro J hJ;simp only [];simp [f12,f13,hmk2,hmk3,hget];(refine hJ _ _ ?_;clear hJ J;simp only [ak,reduceIte]))))
      exact hJ _ _ ⟨by (repeat (refine BaF.put ?_ rfl));exact hF,by simp [f58],by simp [fn3],by simp [fi3],by simp [f12],hmem2,⟨b,by simp [f13],by omega⟩,rfl⟩ (by simp [ft]) (by simp)
    ·clear hF g1 g3 g34 g35 g36 g4 g5 g7 g8 f58 fn3 fi3 fr
     rintro fr x ⟨hF,f58,fn3,fi3,f12,-,⟨b,f13,hb⟩,hx⟩
     subst hx
     simp only [ak]
     rw [set_set,set_sameS hm2]
     have hb1:¬ (1:Int) < (b:Int):=by omega
     (repeat' (first | refine qS ?_ | (refine qK ?_;simp only [ak,reduceIte]) | (refine qC ?_;simp [f13,hb1]) | (refine w_e [] ?_;intro J hJ;simp only [];simp [f13,hb1];(refine hJ _ _ ?_;clear hJ J;simp only [ak,reduceIte]))))
     exact hJI _ _ (by simp [fi3]) (by simp [fn3]) ⟨by (repeat (refine BaF.put ?_ rfl));exact hF,by simp [f58],rfl⟩
   ·clear hF g1 g3 g34 g35 g36 g4 g5 g7 g8 f45 fr
    rintro fr s3 ⟨hF,f58,hs3⟩
    subst hs3
    obtain ⟨g1,g3,g34,g35,g36,g4,g5,g7,g8⟩:=id hF
    simp only [ak]
    refine qS ?_
    have x1:¬ t=s3.next:=by omega
    have x2:¬ s.next=s3.next:=by omega
    have x3:¬ s.next=t:=box_neW hm2 ht2 (by simp)
    have x4:¬ st.next=t:=box_neW hq0 ht2 (by simp)
    (refine w_e [] ?_;intro J hJ;simp only [];simp [g5,g8,ht2,ht0,hMl,x1,mpsL_snoc];(repeat refine ca ?_);(refine hJ _ _ ?_;clear hJ J;simp only [ak,reduceIte]))
    refine awp_weakB (fun fr x=>∃ t2,BaF st.next (.sl 0 L.length (bkL g.es L)) L.length jo ((SM:Int)+Y.length) (.sl t2 (jo+1) (mpsL (M++[s.next]))) (.sl 0 Y.length (eds Y)) s.next fr∧BaS g (fun k=>vsB (X k)) st.next t2 (jo+1) (M++[s.next]) x∧s.next < x.next) ?_ ?_
    ·refine ⟨s3.next+1,by (repeat (refine BaF.put ?_ rfl));exact ⟨g1,g3,g34,g35,g36,g4,by simp,g7,g8⟩,⟨?_,by simp;omega,by omega,by simp,by simp,by simp [hMl],fun k hk=>?_⟩,by simp;omega⟩
     ·(repeat (first | rw [new_H,if_neg (α:=LObj) (by (try simp only [set_next,new_next]);omega)] | rw [set_H,if_neg (α:=LObj) (by omega)] | rw [new_H,if_pos (α:=LObj) (by (try simp only [set_next,new_next]))] | rw [set_H,if_pos (α:=LObj) (by omega)]));exact hq0
     ·by_cases e:k < jo
      ·obtain ⟨a1,a2⟩:=hMk k e
       have hgk:(M++[s.next]).getD k 0=M.getD k 0:=by rw [List.getD_eq_getElem?_getD,List.getD_eq_getElem?_getD,List.getElem?_append_left (by omega)]
       have a3:¬ M.getD k 0=t:=box_neW a2 ht2 (by simp)
       rw [hgk]
       clear hgk
       generalize M.getD k 0=mk at *
       refine ⟨by simp only [new_next,set_next];omega,?_⟩
       (repeat (first | rw [new_H,if_neg (α:=LObj) (by (try simp only [set_next,new_next]);omega)] | rw [set_H,if_neg (α:=LObj) (by omega)] | rw [new_H,if_pos (α:=LObj) (by (try simp only [set_next,new_next]))] | rw [set_H,if_pos (α:=LObj) (by omega)]));exact a2
      ·have ek:k=jo:=by omega
       subst ek
       have hgk:(M++[s.next]).getD k 0=s.next:=by rw [List.getD_eq_getElem?_getD,List.getElem?_append_right (by omega),hMl];simp
       rw [hgk]
       refine ⟨by simp;omega,?_⟩
       dsimp only
       rw [hXY]
       (repeat (first | rw [new_H,if_neg (α:=LObj) (by (try simp only [set_next,new_next]);omega)] | rw [set_H,if_neg (α:=LObj) (by omega)] | rw [new_H,if_pos (α:=LObj) (by (try simp only [set_next,new_next]))] | rw [set_H,if_pos (α:=LObj) (by omega)]));exact hm2
    ·clear hF g1 g3 g34 g35 g36 g4 g5 g7 g8 f58 x1 x2 x3 x4 hS2 hq0 hq1 ht0 ht1 ht2 hMk hmM hn2 hk2 hm2 hsn fr s3
     rintro fr sB ⟨t2,hF,hSB,hmB⟩
     obtain ⟨g1,g3,g34,g35,g36,g4,g5,g7,g8⟩:=id hF
     have hmH:sB.H s.next=.map false [.u32] (trM (vsB Y)):=by
      have:=(hSB.2.2.2.2.2.2 jo (by omega)).2
      have hgk:(M++[s.next]).getD jo 0=s.next:=by rw [List.getD_eq_getElem?_getD,List.getElem?_append_right (by omega),hMl];simp
      rw [hgk] at this
      dsimp only at this
      rw [hXY] at this;exact this
     refine awp_mapRange tabOk [] (fun Lr fr x=>BaF st.next (.sl 0 L.length (bkL g.es L)) L.length jo ((SM:Int)+Y.length) (.sl t2 (jo+1) (mpsL (M++[s.next]))) (.sl 0 Y.length (eds Y)) s.next fr∧(∀ e∈Lr,∃ v∈vsB Y,e=([v],bb true))∧KX s.next sB x∧x.H s.next=.frz false [.u32] (trM (vsB Y))) (by simp [g8]) hmH ?_ ?_ ?_ Tryz.underlying31
     ·intro r
      exact ⟨by (repeat (refine BaF.put ?_ rfl));exact hF,fun e he=>trM_mem he,⟨by simp,fun l _ hl=>by rw [set_H,if_neg hl]⟩,by simp⟩
     ·clear hF g1 g3 g34 g35 g36 g4 g5 g7 g8 fr
      rintro r L1 e L2 fr x ⟨hF,hmem,hkx,hz⟩ ft J hJ
      have hmx:s.next < x.next:=Nat.lt_of_lt_of_le hmB hkx.next
      have hxB:=hkx.next
      obtain ⟨g1,g3,g34,g35,g36,g4,g5,g7,g8⟩:=id hF
      obtain ⟨v,hv,rfl⟩:=hmem e (by simp)
      have hmem2:∀ e∈L1++L2,∃ v∈vsB Y,e=([v],bb true):=fun e he=>hmem e (by simp only [List.mem_append,List.mem_cons] at he ⊢;rcases he with h | h;exact .inl h;exact .inr (.inr h))
      refine e_go ?_
      simp [keyV,mkC]
      refine qS ?_
      (refine w_e [] ?_;intro J hJ;simp only [];simp [])
      refine qF (MakeNil _) ?_;rintro r' s1 ⟨rfl,h1⟩
      rw [h1];clear h1 s1
      (refine e_go ?_;simp [];(refine hJ _ _ ?_;clear hJ J;simp only [ak,reduceIte]))
      refine awp_cell x.next 32 1 (e:=25) (s:=2) [] [.nil] (by simp) ?_
      refine qS ?_
      refine awp_frzRange tabOk [] (m:=s.next) (ag:=false) (ks:=[.u32]) (es:=trM (vsB Y)) (fun Lr fr y=>BaF st.next (.sl 0 L.length (bkL g.es L)) L.length jo ((SM:Int)+Y.length) (.sl t2 (jo+1) (mpsL (M++[s.next]))) (.sl 0 Y.length (eds Y)) s.next fr∧fr 83=itr r∧fr 15=u v∧fr 16=.pt x.next 0∧KX s.next sB y∧y.H s.next=.frz false [.u32] (trM (vsB Y))∧x.next < y.next∧(∀ e∈Lr,∃ w,e=([w],bb true))∧
       ∃ W t4,y.H x.next=.box 25 2 [.sl t4 W.length (us W),.nil]∧x.next < t4∧t4 < y.next∧y.H t4=.own 32 1 W.length∧(W++(Lr.map keyE).filter fun w=>decide (w≠v)).Perm ((vsB Y).filter fun w=>decide (w≠v))) (by simp [g8]) ?_ ?_ ?_ ?_ Tryz.underlying31
      ·rw [set_H,if_neg (by omega),new_H,if_neg (by simp only [new_next];omega),new_H,if_neg (by omega)];exact hz
      ·intro r2
       refine ⟨by (repeat (refine BaF.put ?_ rfl));exact hF,by simp [ft],by simp,by simp,?_,?_,by simp;omega,fun e he=>by obtain ⟨w,_,h⟩:=trM_mem he;exact ⟨w,h⟩,[],x.next+1,by simp,by omega,by simp,?_,by simp [trM_keys]⟩
       ·exact (((hkx.keeps (Keeps.new _ _)).keeps (Keeps.new _ _)).set (by omega) _)
       ·(repeat (first | rw [new_H,if_neg (α:=LObj) (by (try simp only [set_next,new_next]);omega)] | rw [set_H,if_neg (α:=LObj) (by omega)] | rw [new_H,if_pos (α:=LObj) (by (try simp only [set_next,new_next]))] | rw [set_H,if_pos (α:=LObj) (by omega)]));exact hz
       ·(repeat (first | rw [new_H,if_neg (α:=LObj) (by (try simp only [set_next,new_next]);omega)] | rw [set_H,if_neg (α:=LObj) (by omega)] | rw [new_H,if_pos (α:=LObj) (by (try simp only [set_next,new_next]))] | rw [set_H,if_pos (α:=LObj) (by omega)]));simp
      ·clear hF g1 g3 g34 g35 g36 g4 g5 g7 g8 ft fr
       rintro r2 K1 e K2 fr y ⟨hF,ft,f15,f16,hky,hzy,hyn,hkm,W,t4,hq,t40,t41,t4H,hpm⟩ ft2 J2 hJ2
       obtain ⟨w,rfl⟩:=hkm e (by simp)
       have hkm2:∀ e∈K1++K2,∃ w,e=([w],bb true):=fun e he=>hkm e (by simp only [List.mem_append,List.mem_cons] at he ⊢;rcases he with h | h;exact .inl h;exact .inr (.inr h))
       have hWl:W.length≤120:=by
        have h1:=hpm.length_eq
        have h2:=List.length_filter_le (fun w=>decide (w≠v)) (vsB Y)
        rw [List.length_append] at h1
        omega
       refine e_go ?_
       simp [keyV,mkC]
       by_cases hw:w=v
       ·have hw2:(w != v)=false:=by simpa using hw
        (repeat' (first | refine qS ?_ | (refine qK ?_;simp only [ak,reduceIte]) | (refine qC ?_;simp [f15,hw2]) | (refine w_e [] ?_;intro J hJ;simp only [];simp [f15,hw2];(refine hJ _ _ ?_;clear hJ J;simp only [ak,reduceIte]))))
        refine hJ2 _ _ ⟨by (repeat (refine BaF.put ?_ rfl));exact hF,by simp [ft],by simp [f15],by simp [f16],hky,hzy,hyn,hkm2,W,t4,hq,t40,t41,t4H,?_⟩ (by simp [ft2]) hzy
        refine List.Perm.trans ?_ hpm
        rw [List.map_append,List.map_append,List.map_cons,List.filter_append,List.filter_append,List.filter_cons,if_neg (by simp [keyE,hw])]
       ·have hw2:(w != v)=true:=by simpa using hw
        have q1:¬ t4=y.next:=by omega
        have q2:¬ x.next=y.next:=by omega
        have q3:¬ x.next=y.next+1:=by omega
        have q4:¬ x.next=t4:=by omega
        have q5:¬ t4=0:=by omega
        have q6:¬ s.next=t4:=by omega
        (repeat' (first | refine qS ?_ | (refine qC ?_;simp [f15,f16,hw2,hq,t4H,q1,q2,q3,q4,q5]) | (refine w_e [] ?_;intro J hJ;simp only [];simp [f15,f16,hw2,hq,t4H,q1,q2,q3,q4,q5];(repeat refine ca ?_);(refine hJ _ _ ?_;clear hJ J;simp only [ak,reduceIte]))))
        refine hJ2 _ _ ⟨by (repeat (refine BaF.put ?_ rfl));exact hF,by simp [ft],by simp [f15],by simp [f16],?_,?_,by simp;omega,hkm2,W++[w],y.next+1,by simp,by omega,by simp,?_,?_⟩ (by simp [ft2]) ?_
        ·exact ((((hky.keeps (Keeps.new _ _)).set (by omega) _).keeps (Keeps.new _ _)).set (by omega) _)
        ·(repeat (first | rw [new_H,if_neg (α:=LObj) (by (try simp only [set_next,new_next]);omega)] | rw [set_H,if_neg (α:=LObj) (by omega)] | rw [new_H,if_pos (α:=LObj) (by (try simp only [set_next,new_next]))] | rw [set_H,if_pos (α:=LObj) (by omega)]));exact hzy
        ·(repeat (first | rw [new_H,if_neg (α:=LObj) (by (try simp only [set_next,new_next]);omega)] | rw [set_H,if_neg (α:=LObj) (by omega)] | rw [new_H,if_pos (α:=LObj) (by (try simp only [set_next,new_next]))] | rw [set_H,if_pos (α:=LObj) (by omega)]));simp
        ·refine List.Perm.trans ?_ hpm
         rw [List.map_append,List.map_append,List.map_cons,List.filter_append,List.filter_append,List.filter_cons,if_pos (by simpa [keyE] using hw),List.append_assoc]
         refine List.Perm.append_left _ ?_
         show (w::(_++_)).Perm (_++w::_)
         rw [List.nil_append]
         exact List.perm_middle.symm
        ·(repeat (first | rw [new_H,if_neg (α:=LObj) (by (try simp only [set_next,new_next]);omega)] | rw [set_H,if_neg (α:=LObj) (by omega)] | rw [new_H,if_pos (α:=LObj) (by (try simp only [set_next,new_next]))] | rw [set_H,if_pos (α:=LObj) (by omega)]));exact hzy
      ·clear hF g1 g3 g34 g35 g36 g4 g5 g7 g8 ft fr
       rintro fr y ⟨hF,ft,f15,f16,hky,hzy,hyn,-,W,t4,hq,t40,t41,t4H,hpm⟩
       rw [List.map_nil,List.filter_nil,List.append_nil] at hpm
       obtain ⟨g1,g3,g34,g35,g36,g4,g5,g7,g8⟩:=id hF
       simp only [ak]
       (repeat' (first | refine qS ?_ | refine qB ?_ | (refine w_e [] ?_;intro J hJ;simp only [];simp [g7];(refine hJ _ _ ?_;clear hJ J;simp only [ak,reduceIte]))))
       have hWl:W.length≤120:=by
        have h1:=hpm.length_eq
        have h2:=List.length_filter_le (fun w=>decide (w≠v)) (vsB Y)
        omega
       refine awp_own 18 34 3 (by simp) ?_
       have z1:¬ s.next=y.next:=by omega
       have z2:¬ x.next=y.next:=by omega
       refine awp_range 106 105 107 124 (Y.length) (fun j fr st2=>BaF st.next (.sl 0 L.length (bkL g.es L)) L.length jo ((SM:Int)+Y.length) (.sl t2 (jo+1) (mpsL (M++[s.next]))) (.sl 0 Y.length (eds Y)) s.next fr∧fr 83=itr r∧fr 15=u v∧fr 16=.pt x.next 0∧fr 104=.sl 0 Y.length (eds Y)∧KX s.next sB st2∧st2.H s.next=.frz false [.u32] (trM (vsB Y))∧y.next < st2.next∧st2.H x.next=.box 25 2 [.sl t4 W.length (us W),.nil]∧∃ t5,fr 18=.sl t5 (woe (Y.take j) v).length (eds (woe (Y.take j) v))∧y.next≤t5∧t5 < st2.next∧st2.H t5=.own 34 3 (woe (Y.take j) v).length) ?_ ?_ ?_
       ·refine ⟨by (repeat (refine BaF.put ?_ rfl));exact hF,by simp [ft],by simp [f15],by simp [f16],by simp,hky.keeps (Keeps.new _ _),?_,by simp,?_,y.next,by simp [woe],by omega,by simp,by simp [woe]⟩
        ·(repeat (first | rw [new_H,if_neg (α:=LObj) (by (try simp only [set_next,new_next]);omega)] | rw [set_H,if_neg (α:=LObj) (by omega)] | rw [new_H,if_pos (α:=LObj) (by (try simp only [set_next,new_next]))] | rw [set_H,if_pos (α:=LObj) (by omega)]));exact hzy
        ·(repeat (first | rw [new_H,if_neg (α:=LObj) (by (try simp only [set_next,new_next]);omega)] | rw [set_H,if_neg (α:=LObj) (by omega)] | rw [new_H,if_pos (α:=LObj) (by (try simp only [set_next,new_next]))] | rw [set_H,if_pos (α:=LObj) (by omega)]));exact hq
       ·clear hF g1 g3 g34 g35 g36 g4 g5 g7 g8 ft f15 f16 fr
        rintro k fr z hlk ⟨hF,ft,f15,f16,f104,hkz,hzz,hyz,hqz,t5,f18,t50,t51,t5H⟩ fi2 fn2 JE hJE
        have hdE:=eds_drop Y k hlk
        have hk3:k * 3 < Y.length * 3:=by omega
        have htk:=woe_snoc Y v k hlk
        have hFl:=woe_le Y v k
        generalize Y.getD k ed0=ee at *
        generalize woe (Y.take k) v=F at *
        obtain ⟨d,a,b⟩:=ee
        simp only at htk
        have c1:¬ t5=z.next:=by omega
        have c1b:¬ t5=z.next+1:=by omega
        have c3:¬ x.next=t5:=by omega
        have c4:¬ z.next=t5:=by omega
        have c5:¬ z.next+1=t5:=by omega
        have c6:¬ t5=0:=by omega
        have c7:¬ s.next=t5:=by omega
        have c8:¬ x.next=z.next:=by omega
        have c9:¬ s.next=z.next:=by omega
        have hsm3:=sum3W F
        by_cases h1:a=v
        ·rw [if_neg (by simp [h1]),List.append_nil] at htk
         have h12:(a != v)=false:=by simpa using h1
         (repeat' (first | refine qS ?_ | (refine qK ?_;simp only [ak,reduceIte]) | (refine qC ?_;simp [f15,f104,fi2,fn2,hdE,hel,hk3,hlk,h12]) | (refine w_e [] ?_;intro J hJ;simp only [];simp [f15,f104,fi2,fn2,hdE,hel,hk3,hlk,h12];(refine hJ _ _ ?_;clear hJ J;simp only [ak,reduceIte]))))
         refine hJE _ _ (by simp [fi2]) (by simp [fn2]) ⟨by (repeat (refine BaF.put ?_ rfl));exact hF,by simp [ft],by simp [f15],by simp [f16],by simp [f104],hkz.keeps (Keeps.new _ _),?_,by simp;omega,?_,t5,by rw [htk];simp [f18],t50,by simp;omega,?_⟩
         ·(repeat (first | rw [new_H,if_neg (α:=LObj) (by (try simp only [set_next,new_next]);omega)] | rw [set_H,if_neg (α:=LObj) (by omega)] | rw [new_H,if_pos (α:=LObj) (by (try simp only [set_next,new_next]))] | rw [set_H,if_pos (α:=LObj) (by omega)]));exact hzz
         ·(repeat (first | rw [new_H,if_neg (α:=LObj) (by (try simp only [set_next,new_next]);omega)] | rw [set_H,if_neg (α:=LObj) (by omega)] | rw [new_H,if_pos (α:=LObj) (by (try simp only [set_next,new_next]))] | rw [set_H,if_pos (α:=LObj) (by omega)]));exact hqz
         ·rw [htk];(repeat (first | rw [new_H,if_neg (α:=LObj) (by (try simp only [set_next,new_next]);omega)] | rw [set_H,if_neg (α:=LObj) (by omega)] | rw [new_H,if_pos (α:=LObj) (by (try simp only [set_next,new_next]))] | rw [set_H,if_pos (α:=LObj) (by omega)]));exact t5H
        ·have h12:(a != v)=true:=by simpa using h1
         by_cases h2:b=v
         ·rw [if_neg (by simp [h2]),List.append_nil] at htk
          have h22:(b != v)=false:=by simpa using h2
          (repeat' (first | refine qS ?_ | (refine qK ?_;simp only [ak,reduceIte]) | (refine qC ?_;simp [f15,f104,fi2,fn2,hdE,hel,hk3,hlk,h12,h22]) | (refine w_e [] ?_;intro J hJ;simp only [];simp [f15,f104,fi2,fn2,hdE,hel,hk3,hlk,h12,h22];(refine hJ _ _ ?_;clear hJ J;simp only [ak,reduceIte]))))
          refine hJE _ _ (by simp [fi2]) (by simp [fn2]) ⟨by (repeat (refine BaF.put ?_ rfl));exact hF,by simp [ft],by simp [f15],by simp [f16],by simp [f104],hkz.keeps (Keeps.new _ _),?_,by simp;omega,?_,t5,by rw [htk];simp [f18],t50,by simp;omega,?_⟩
          ·(repeat (first | rw [new_H,if_neg (α:=LObj) (by (try simp only [set_next,new_next]);omega)] | rw [set_H,if_neg (α:=LObj) (by omega)] | rw [new_H,if_pos (α:=LObj) (by (try simp only [set_next,new_next]))] | rw [set_H,if_pos (α:=LObj) (by omega)]));exact hzz
          ·(repeat (first | rw [new_H,if_neg (α:=LObj) (by (try simp only [set_next,new_next]);omega)] | rw [set_H,if_neg (α:=LObj) (by omega)] | rw [new_H,if_pos (α:=LObj) (by (try simp only [set_next,new_next]))] | rw [set_H,if_pos (α:=LObj) (by omega)]));exact hqz
          ·rw [htk];(repeat (first | rw [new_H,if_neg (α:=LObj) (by (try simp only [set_next,new_next]);omega)] | rw [set_H,if_neg (α:=LObj) (by omega)] | rw [new_H,if_pos (α:=LObj) (by (try simp only [set_next,new_next]))] | rw [set_H,if_pos (α:=LObj) (by omega)]));exact t5H
         ·rw [if_pos ⟨h1,h2⟩] at htk
          have h22:(b != v)=true:=by simpa using h2
          have e3:eds F++[u d,u a,u b]=eds (F++[⟨d,a,b⟩]):=by simp [eds,edL]
          (repeat' (first | refine qS ?_ | (refine qC ?_;simp [f15,f18,f104,fi2,fn2,hdE,hel,hk3,hlk,h12,h22,t5H,c6,c1,c1b,c4,c5,hsm3]) | (refine w_e [] ?_;intro J hJ;simp only [];simp [f15,f18,f104,fi2,fn2,hdE,hel,hk3,hlk,h12,h22,t5H,c6,c1,c1b,c4,c5,hsm3];(repeat refine ca ?_);(refine hJ _ _ ?_;clear hJ J;simp only [ak,reduceIte]))))
          refine hJE _ _ (by simp [fi2]) (by simp [fn2]) ⟨by (repeat (refine BaF.put ?_ rfl));exact hF,by simp [ft],by simp [f15],by simp [f16],by simp [f104],?_,?_,by simp;omega,?_,z.next+2,by rw [htk,← e3];simp,by omega,by simp,by rw [htk];simp⟩
          ·exact ((((hkz.keeps (Keeps.new _ _)).keeps (Keeps.new _ _)).set (by omega) _).keeps (Keeps.new _ _))
          ·(repeat (first | rw [new_H,if_neg (α:=LObj) (by (try simp only [set_next,new_next]);omega)] | rw [set_H,if_neg (α:=LObj) (by omega)] | rw [new_H,if_pos (α:=LObj) (by (try simp only [set_next,new_next]))] | rw [set_H,if_pos (α:=LObj) (by omega)]));exact hzz
          ·(repeat (first | rw [new_H,if_neg (α:=LObj) (by (try simp only [set_next,new_next]);omega)] | rw [set_H,if_neg (α:=LObj) (by omega)] | rw [new_H,if_pos (α:=LObj) (by (try simp only [set_next,new_next]))] | rw [set_H,if_pos (α:=LObj) (by omega)]));exact hqz
       ·clear hF g1 g3 g34 g35 g36 g4 g5 g7 g8 ft f15 f16 fr
        rintro fr z ⟨hF,ft,f15,f16,f104,hkz,hzz,hyz,hqz,t5,f18,t50,t51,t5H⟩
        rw [List.take_length] at f18 t5H
        have hEl:=woe_le Y v Y.length
        rw [List.take_length] at hEl
        have hEn:((woe Y v).map (·.id)).Nodup:=by
         show ((woe Y v).map (·.id)).Pairwise (·≠·)
         rw [List.pairwise_map]
         exact (hids.filter _).imp fun h=>by omega
        have hWn:W.Nodup:=hpm.nodup_iff.2 ((vsB_nodup Y).filter _)
        have hrs:=hrst v W
        (repeat' (first | refine qS ?_ | (refine w_e [] ?_;intro J hJ;simp only [];simp [f16,f18,hqz])))
        refine qE (Make W (woe Y v) t4 t5 z (by omega) (by omega) hWn hEn) (by simp) ?_;rintro r' z1 ⟨⟨V2,E2,v1,v2,e1,e2,rfl⟩,hk1⟩
        obtain ⟨hgd,hpt⟩:=hrs V2 E2 hpm v1 v2 e1
        have hV2l:=v1.length_eq
        have hE2l:=e1.length_eq
        (refine e_go ?_;simp [])
        refine qE (Parts ⟨V2,E2⟩ z1 hgd (by simp only;omega) (by simp only;omega)) (by simp [grL]) ?_;rintro r' z2 ⟨⟨tR,R,rfl,hR⟩,hk2⟩
        have hR1:=hpt R hR
        rw [hR1]
        have hkzz:=(hkz.keeps hk1).keeps hk2
        have hn1:=hk1.next
        have hz1:=(hk1.H s.next (by omega)).trans hzz
        have hz2:=(hk2.H s.next (by omega)).trans hz1
        (repeat' (first | (refine qK ?_;simp only [ak,reduceIte]) | (refine qC ?_;simp []) | (refine e_go ?_;simp [];(refine hJ _ _ ?_;clear hJ J;simp only [ak,reduceIte]))))
        exact hJ _ _ ⟨by (repeat (refine BaF.put ?_ rfl));exact hF,hmem2,hkzz,hz2⟩ (by simp [ft]) hz2
     ·clear hF g1 g3 g34 g35 g36 g4 g5 g7 g8 fr
      rintro fr x ⟨hF,-,hkx,hz⟩
      obtain ⟨g1,g3,g34,g35,g36,g4,g5,g7,g8⟩:=id hF
      simp only [ak]
      have hbk:=hSB.keep (hkx.back hmH)
      skip
      refine hJO _ _ (by simp [g36]) (by simp [g35]) ⟨by simp [g1],by simp [g3],by simp [g34],by rw [hs1,Int.natCast_add];simp [g4],t2,M++[s.next],by simp [g5],hbk⟩
 ·rintro fr s ⟨f1,f3,f34,f4,t,M,f5,hS⟩
  rw [List.take_length] at f4
  have hqq:=hS.1
  have hsum:=hP.sum
  (repeat' (first | refine qS ?_ | (refine qR ?_;simp only [ak,reduceIte];simp [f1,f4,hqq,hsum]) | (refine w_e [] ?_;intro J hJ;simp only [];simp [f1,f4,hqq,hsum];(refine hJ _ _ ?_;clear hJ J;simp only [ak,reduceIte]))))
theorem BlockApart_shp (l0:List LV) (st:St) (h0:Shp tab 25 l0):ACalls Tryz.prog 3 [argT tab 25 l0] st fun r st'=>r=bb true:=by
 obtain ⟨g,rfl,_⟩:=shp_gr h0
 exact BlockApart g st
end Go.Proofs.YtkcokoefodgigaaGreat.Aw
