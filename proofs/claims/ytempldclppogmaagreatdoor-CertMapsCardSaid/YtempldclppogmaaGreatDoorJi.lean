/- Rows of u32: neighbours dropped that are alike (slices.CompactFunc with a function that compares). -/
import Derived.Test.YtempldclppogmaaGreatDoorJh
import Derived.Test.YtempldclppogmaaGreatDoorAwMr2
import Derived.RangeFuncSeq
import Derived.Maps.RangeWalk
import Derived.Test.YtempldclppogmaaGreatDoorAwRg
set_option linter.unusedVariables false
set_option linter.unusedSimpArgs false
namespace Go.Proofs.YtempldclppogmaaGreatDoor.Aw.Cu
open Go Go.RowKit Go.Proofs.YtempldclppogmaaGreatDoor.Pl Go.Proofs.YtempldclppogmaaGreatDoor.Aw
def nP(c:List Int):Nat→List Int
 |0=>[]
 |k+1=>if k=0∨c.getD k 0≠c.getD (k-1) 0 then nP c k++[c.getD k 0]else nP c k
structure Rsn(c:List Int)(k:Nat)(l:List Int):Prop where
 lt:l.Pairwise (· < ·)
 mem:∀ y,y∈l↔∃ j,j<k∧c.getD j 0=y
theorem vV{c:List Int}(h:c.Pairwise (·≤·)):∀ k,k≤c.length→Rsn c k (nP c k)
 |0,_=>⟨.nil,fun y=>by simp[nP]⟩
 |k+1,hk=>by
  have ih:=vV h k oO
  have hle:∀ j,j<k→c.getD j 0≤c.getD (k-1) 0:=fun j hj=>by
   rcases Nat.lt_or_ge j (k-1)with h1|h1
   ·rw[List.getD_eq_getElem?_getD,List.getElem?_eq_getElem oO,List.getD_eq_getElem?_getD,List.getElem?_eq_getElem oO]
    exact List.pairwise_iff_getElem.1 h j (k-1) oO oO h1
   ·obtain rfl:j=k-1:=oO
    exact Int.le_refl _
  have hle2:0<k→c.getD (k-1) 0≤c.getD k 0:=fun h0=>by
   rw[List.getD_eq_getElem?_getD,List.getElem?_eq_getElem oO,List.getD_eq_getElem?_getD,List.getElem?_eq_getElem oO]
   exact List.pairwise_iff_getElem.1 h (k-1) k oO oO oO
  unfold nP
  split
  ·rename_i h0
   refine⟨?_,fun y=>?_⟩
   ·rw[List.pairwise_append]
    refine⟨ih.lt,List.pairwise_singleton _ _,fun a ha b hb=>?_⟩
    rw[List.mem_singleton]at hb
    subst hb
    obtain⟨j,hj,rfl⟩:=(ih.mem a).1 ha
    have:=hle j hj
    have:=hle2 oO
    rcases h0 with h0|h0
    ·omega
    ·omega
   ·rw[List.mem_append,List.mem_singleton,ih.mem]
    constructor
    ·rintro(⟨j,hj,rfl⟩|rfl)
     ·exact⟨j,oO,rfl⟩
     ·exact⟨k,oO,rfl⟩
    ·rintro⟨j,hj,rfl⟩
     rcases Nat.lt_or_ge j k with h1|h1
     ·exact .inl ⟨j,h1,rfl⟩
     ·obtain rfl:j=k:=oO
      exact .inr rfl
  ·rename_i h0
   refine⟨ih.lt,fun y=>?_⟩
   rw[ih.mem]
   constructor
   ·rintro⟨j,hj,rfl⟩
    exact⟨j,oO,rfl⟩
   ·rintro⟨j,hj,rfl⟩
    rcases Nat.lt_or_ge j k with h1|h1
    ·exact⟨j,h1,rfl⟩
    ·obtain rfl:j=k:=oO
     exact⟨j-1,oO,oO⟩
def cpt(c:List Int):List Int:=nP c c.length
theorem aOW{c:List Int}(h:c.Pairwise (·≤·)):(cpt c).Pairwise (· < ·):=(vV h _ (Nat.le_refl _)).lt
theorem aLL{c:List Int}(h:c.Pairwise (·≤·))(y:Int):y∈cpt c↔y∈c:=by
 unfold cpt
 rw[(vV h _ (Nat.le_refl _)).mem]
 constructor
 ·rintro⟨j,hj,rfl⟩
  rw[List.getD_eq_getElem?_getD,List.getElem?_eq_getElem hj]
  exact List.getElem_mem _
 ·intro hy
  obtain⟨j,hj,rfl⟩:=List.getElem_of_mem hy
  exact⟨j,hj,by rw[List.getD_eq_getElem?_getD,List.getElem?_eq_getElem hj];rfl⟩
theorem uQ(c:List Int):∀ k,k≤c.length→(∀ j,0<j→j<k→c.getD j 0≠c.getD (j-1) 0)→nP c k=c.take k
 |0,_,_=>rfl
 |k+1,hk,h=>by
  have ih:=uQ c k oO fun j h1 h2=>h j h1 oO
  have hg:c.take (k+1)=c.take k++[c.getD k 0]:=by
   rw[List.getD_eq_getElem?_getD,List.getElem?_eq_getElem oO]
   exact List.take_succ_eq_append_getElem oO
  unfold nP
  rw[if_pos,ih,hg]
  rcases Nat.eq_zero_or_pos k with h0|h0
  ·exact .inl h0
  ·exact .inr (h k h0 oO)
theorem aGN(c:List Int)(h:c.length<2):cpt c=c:=by
 unfold cpt
 rw[uQ c c.length (Nat.le_refl _) fun j h1 h2=>by omega,List.take_length]
set_option maxHeartbeats 2000000 in
theorem aJt(c:List Int)(q:Nat)(fid:FuncId)(caps:List LV)(Pc:St→Prop)(st:St)(heq:aNp fid caps Pc)(hkp:∀ s s',Pc s→bN q s s'→Pc s')(hPc:Pc st)(hl:c.length≤100000)(hq:q<st.next)(hH:st.H q=.box 34 1 (us c)):
 aB Tryz.prog 157 [.ms q 0 c.length,.fn (.func fid) caps] st fun r st'=>r=.ms q 0 (cpt c).length∧(∃ cs,st'.H q=.box 34 1 (us (cpt c)++cs))∧bN q st st':=by
 refine qO aF Tryz.func157 rfl rfl Tryz.ntmps157 (rs:=[.tmp 4]) rfl sS ?_
 by_cases h2:c.length<2
 ·have h2':(c.length:Int)<2:=oO
  have hc:=aGN c h2
  rw[hc]
  (repeat' (first|refine qS ?_|(refine qR (zZ ?_);simp[h2',h2])|(refine qC ?_;simp[h2',h2])|(refine w_e [] ?_;intro J hJ;simp only[];simp[h2',h2];refine hJ _ _ (zZ ?_))))
  exact⟨⟨[],by rw[hH,List.append_nil]⟩,bN.refl _ _⟩
 have h2':¬(c.length:Int)<2:=oO
 (repeat' (first|refine qS ?_|refine qB ?_|(refine qK (zZ ?_))|(refine qC ?_;simp[h2',h2])|(refine w_e [] ?_;intro J hJ;simp only[];simp[h2',h2];refine hJ _ _ (zZ ?_))))
 refine qL (fun z fr st2=>∃ k:Nat,0<k∧k≤c.length∧z=c.length-k∧fr 0=.ms q 0 c.length∧fr 1=.fn (.func fid) caps∧fr 5=i k∧aA st st2∧∀ j,0<j→j<k→c.getD j 0≠c.getD (j-1) 0) (c.length-1) ?_ ?_
 ·exact⟨1,oO,oO,rfl,sS,sS,sS,aA.refl _,fun j h1 h2=>by omega⟩
 rintro z fr st2 ⟨k,hk0,hkl,rfl,f0,f1,f5,hks,hno⟩ JJ hJJ
 by_cases hlt:k<c.length
 rotate_left
 ·clear hJJ
  have hc:cpt c=c:=by
   unfold cpt
   rw[uQ c c.length (Nat.le_refl _) fun j h1 h2=>hno j h1 oO,List.take_length]
  rw[hc]
  (repeat' (first|refine qS ?_|(refine qX (zZ ?_))|(refine qR (zZ ?_);simp[f0,f5,hlt])|(refine qC ?_;simp[f0,f5,hlt])|(refine w_e [] ?_;intro J hJ;simp only[];simp[f0,f5,hlt];refine hJ _ _ (zZ ?_))))
  exact⟨⟨[],by rw[hks.H q hq,hH,List.append_nil]⟩,(bN.refl q st).keeps hks⟩
 obtain⟨k1,rfl⟩:∃ k1,k=k1+1:=⟨k-1,oO⟩
 have hd:=qG c (k1+1) hlt
 have hd1:=qG c k1 oO
 have w1:IntKind.i64.wrap (k1:Int)=(k1:Int):=wrap_i64 _ oO oO
 have w2':IntKind.i64.wrap ((k1:Int)+1+1)=(k1:Int)+1+1:=wrap_i64 _ oO oO
 have hkl1:k1<c.length:=oO
 have hlt':(k1:Int)+1<c.length:=oO
 have hnx:c.getD (k1+1) 0≠c.getD k1 0→∀ j,0<j→j<k1+1+1→c.getD j 0≠c.getD (j-1) 0:=fun h j h1 h3=>by
  rcases Nat.lt_or_ge j (k1+1)with h4|h4
  ·exact hno j h1 h4
  ·obtain rfl:j=k1+1:=oO
   exact h
 have hid:=uQ c (k1+1) oO hno
 have hcs:c.getD (k1+1) 0=c.getD k1 0→nP c (k1+1+1)=c.take (k1+1):=fun h=>by
  rw[nP,if_neg,hid]
  rintro(h3|h3)
  ·omega
  ·exact h3 h
 have hH2:=(hks.H q hq).trans hH
 have hPc2:=heq.1 _ _ hPc hks
 have hc:=heq.2 st2 (c.getD (k1+1) 0) (c.getD k1 0) hPc2
 generalize hx:c.getD (k1+1) 0=x at *
 generalize hy:c.getD k1 0=y at *
 (repeat' (first|refine qS ?_|refine qB ?_|(refine qK (zZ ?_))|(refine qC ?_;simp[f0,f5,hlt,hlt'])|(refine w_e [] ?_;intro J hJ;simp only[];simp[f0,f5,hlt,hlt'];refine hJ _ _ (zZ ?_))))
 (refine w_s [] [q] [(0,true),(1,true),(2,true),(3,true),(4,true),(5,true),(6,true),(7,true),(8,true),(9,true),(10,false)] ?_;intro J hJ;simp[f0,f1,f5,hlt,hlt',hd,hd1,w1,hkl1,hH2];(repeat refine ca ?_))
 refine aO hc ?_;rintro r s3 ⟨rfl,hk3⟩
 have hH3:=(hk3.H q (Nat.lt_of_lt_of_le hq hks.next)).trans hH2
 have hPc3:=heq.1 _ _ hPc2 hk3
 have hk13:=hks.trans hk3
 refine⟨fun _=>by simp[hH3,hH2],?_⟩
 (refine bE ?_;simp[hH3,hH2];refine hJ _ _ (zZ ?_))
 by_cases hxy:x=y
 rotate_left
 ·(repeat' (first|(refine qK (zZ ?_))|(refine qC ?_;simp[f5,w2',hxy])|(refine w_e [] ?_;intro J hJ;simp only[];simp[f5,w2',hxy];refine hJ _ _ (zZ ?_))))
  exact hJJ (c.length-(k1+1+1)) _ _ oO ⟨k1+1+1,oO,oO,rfl,by simp[f0],by simp[f1],sS,hk13,hnx hxy⟩
 clear hJJ hnx
 have hcs:=hcs hxy
 clear w2' hid hno hc
 (repeat' (first|refine qS ?_|refine qB ?_|(refine qC ?_;simp[f0,f5,hlt,hlt',hd,hd1,w1,hkl1,hxy,hH3])|(refine w_e [] ?_;intro J hJ;simp only[];simp[f0,f5,hlt,hlt',hd,hd1,w1,hkl1,hxy,hH3];(repeat refine ca ?_);refine hJ _ _ (zZ ?_))))
 refine qL (fun z fr s=>∃(p w:Nat) (d:List Int),k1+1+(p+1)≤c.length∧z=c.length-(k1+1+(p+1))∧w=(nP c (k1+1+(p+1))).length∧w≤k1+1+p∧fr 0=.ms q 0 c.length∧fr 1=.fn (.func fid) caps∧fr 5=i w∧fr 6=.ms q (k1+1) (c.length-(k1+1))∧fr 7=i (p+1:Nat)∧d.length=c.length∧d.take w=nP c (k1+1+(p+1))∧d.drop (k1+1+p)=c.drop (k1+1+p)∧s.H q=.box 34 1 (us d)∧Pc s∧bN q st s) (c.length-(k1+1+1)) ?_ ?_
 ·refine⟨0,k1+1,c,oO,oO,by rw[hcs];simp;omega,oO,by simp[f0],by simp[f1],by simp[f5],sS,sS,rfl,hcs.symm,rfl,hH3,hPc3,(bN.refl q st).keeps hk13⟩
 clear hd hd1 w1 hlt' hx hy hxy hcs f0 f1 f5 fr hH3 hPc3 hk13 hk3 hH2 hPc2 hks s3 st2
 rintro z fr s ⟨p,w,d,hpl,rfl,hw,hwl,f0,f1,f5,f6,f7,hdl,hdt,hdd,hsH,hPs,hof⟩ JJ hJJ
 by_cases hlp:k1+1+(p+1)<c.length
 ·have e1:∀ j,k1+1+p≤j→d.getD j 0=c.getD j 0:=fun j hj=>by
   have h1:(d.drop (k1+1+p)).getD (j-(k1+1+p)) 0=(c.drop (k1+1+p)).getD (j-(k1+1+p)) 0:=by rw[hdd]
   simp only[List.getD_eq_getElem?_getD,List.getElem?_drop]at h1 ⊢
   rw[show k1+1+p+(j-(k1+1+p))=j by omega]at h1
   exact h1
  have hd:=qG d (k1+1+(p+1)) oO
  have hd1:=qG d (k1+1+p) oO
  rw[e1 _ oO]at hd
  rw[e1 _ oO]at hd1
  have hstep:nP c (k1+1+(p+1)+1)=if c.getD (k1+1+(p+1)) 0≠c.getD (k1+1+p) 0 then nP c (k1+1+(p+1))++[c.getD (k1+1+(p+1)) 0]else nP c (k1+1+(p+1)):=by
   rw[nP,show k1+1+(p+1)-1=k1+1+p by omega]
   by_cases h:c.getD (k1+1+(p+1)) 0≠c.getD (k1+1+p) 0
   ·rw[if_pos (.inr h),if_pos h]
   ·rw[if_neg (by rintro(h1|h1);omega;exact h h1),if_neg h]
  have hdd2:d.drop (k1+1+(p+1))=c.drop (k1+1+(p+1)):=by
   have h1:(d.drop (k1+1+p)).drop 1=(c.drop (k1+1+p)).drop 1:=by rw[hdd]
   rwa [List.drop_drop,List.drop_drop,show k1+1+p+1=k1+1+(p+1) by omega]at h1
  have w1:IntKind.i64.wrap (p:Int)=(p:Int):=wrap_i64 _ oO oO
  have w2:IntKind.i64.wrap ((p:Int)+1+1)=(p:Int)+1+1:=wrap_i64 _ oO oO
  have w3:=qN w oO
  have hA:p+1<c.length-(k1+1):=oO
  have hA':(p:Int)+1<(c.length-(k1+1):Nat):=oO
  have hB:p<c.length-(k1+1):=oO
  have hW:w<c.length:=oO
  have hc:=heq.2 s (c.getD (k1+1+(p+1)) 0) (c.getD (k1+1+p) 0) hPs
  generalize c.getD (k1+1+(p+1)) 0=x at *
  generalize c.getD (k1+1+p) 0=y at *
  (repeat' (first|refine qS ?_|refine qB ?_|(refine qK (zZ ?_))|(refine qC ?_;simp[f0,f5,f6,f7,hA,hA'])|(refine w_e [] ?_;intro J hJ;simp only[];simp[f0,f5,f6,f7,hA,hA'];refine hJ _ _ (zZ ?_))))
  (refine w_s [] [q] [(0,true),(1,true),(2,true),(3,true),(4,true),(5,true),(6,true),(7,true),(8,true),(9,true),(10,false),(11,true)] ?_;intro J hJ;simp[f0,f1,f5,f6,f7,hA,hA',hB,hd,hd1,w1,hdl,hsH];(repeat refine ca ?_))
  refine aO hc ?_;rintro r s3 ⟨rfl,hk3⟩
  have hqs:q<s.next:=Nat.lt_of_lt_of_le hq hof.1
  have hH3:=(hk3.H q hqs).trans hsH
  have hP3:=heq.1 _ _ hPs hk3
  have hof3:=hof.keeps hk3
  refine⟨fun _=>by simp[hH3,hsH],?_⟩
  (refine bE ?_;simp[hH3,hsH];refine hJ _ _ (zZ ?_))
  by_cases hxy:x=y
  ·rw[if_neg (fun h=>h hxy)]at hstep
   (repeat' (first|(refine qK (zZ ?_))|(refine qC ?_;simp[f5,f6,f7,w2,hxy])|(refine w_e [] ?_;intro J hJ;simp only[];simp[f5,f6,f7,w2,hxy];refine hJ _ _ (zZ ?_))))
   refine hJJ (c.length-(k1+1+(p+1+1))) _ _ oO ⟨p+1,w,d,oO,rfl,?_,oO,by simp[f0],by simp[f1],by simp[f5],by simp[f6],sS,hdl,?_,hdd2,hH3,hP3,hof3⟩
   ·rw[show k1+1+(p+1+1)=k1+1+(p+1)+1 by omega,hstep];exact hw
   ·rw[show k1+1+(p+1+1)=k1+1+(p+1)+1 by omega,hstep];exact hdt
  ·rw[if_pos hxy]at hstep
   have hset:=vI d w x oO
   (repeat' (first|refine qS ?_|(refine qC ?_;simp[f0,f5,f6,f7,hA,hA',hB,hd,hd1,w1,w2,w3,hdl,hxy,hW,hH3])|(refine w_e [] ?_;intro J hJ;simp only[];simp[f0,f5,f6,f7,hA,hA',hB,hd,hd1,w1,w2,w3,hdl,hxy,hW,hH3];(repeat refine ca ?_);refine hJ _ _ (zZ ?_))))
   refine hJJ (c.length-(k1+1+(p+1+1))) _ _ oO ⟨p+1,w+1,d.set w x,oO,rfl,?_,oO,by simp[f0],by simp[f1],sS,by simp[f6],sS,by simp[hdl],?_,?_,?_,?_,?_⟩
   ·rw[show k1+1+(p+1+1)=k1+1+(p+1)+1 by omega,hstep,List.length_append,← hw];rfl
   ·rw[show k1+1+(p+1+1)=k1+1+(p+1)+1 by omega,hstep,aJs d w x oO,hdt]
   ·rw[show k1+1+(p+1)=k1+1+p+1 by omega,set_drop d w (k1+1+p) x oO]
    rw[show k1+1+p+1=k1+1+(p+1) by omega];exact hdd2
   ·simp[hset]
   ·exact hkp _ _ hP3 ((bN.refl q _).set _)
   ·exact hof3.set _
 clear hJJ
 have hpe:k1+1+(p+1)=c.length:=oO
 rw[hpe]at hw hdt
 have hcw:(cpt c).length=w:=hw.symm
 have hct:d.take w=cpt c:=hdt
 have hA:¬p+1<c.length-(k1+1):=oO
 have hA':¬(p:Int)+1<(c.length-(k1+1):Nat):=oO
 have hW:w≤c.length:=oO
 rw[hcw,← hct]
 (repeat' (first|refine qS ?_|(refine qX (zZ ?_))|(refine qR (zZ ?_);simp[f0,f5,f6,f7,hA,hA',hdl,hW,hsH])|(refine qC ?_;simp[f0,f5,f6,f7,hA,hA',hdl,hW,hsH])|(refine w_e [] ?_;intro J hJ;simp only[];simp[f0,f5,f6,f7,hA,hA',hdl,hW,hsH];refine hJ _ _ (zZ ?_))))
 exact hof.set _
end Go.Proofs.YtempldclppogmaaGreatDoor.Aw.Cu
namespace Go.Proofs.YtempldclppogmaaGreatDoor.Aw
open Go Go.RowKit Go.Proofs.YtempldclppogmaaGreatDoor.Pl
def qZ(x:Int):List Int→List Int
 |[]=>[x]
 |y::l=>if x<y then x::y::l else if y<x then y::qZ x l else y::l
theorem mA(x z:Int):∀ l:List Int,z∈qZ x l↔z=x∨z∈l
 |[]=>by simp[qZ]
 |y::l=>by
  unfold qZ
  split
  ·simp
  ·split
   ·simp only[List.mem_cons,mA x z l]
    exact or_left_comm
   ·have:y=x:=oO
    subst this
    simp
theorem uG(x:Int):∀ l:List Int,l.Pairwise (· < ·)→(qZ x l).Pairwise (· < ·)
 |[],_=>by simp[qZ]
 |y::l,h=>by
  obtain⟨h1,h2⟩:=List.pairwise_cons.1 h
  unfold qZ
  split
  ·rename_i hx
   refine List.pairwise_cons.2 ⟨fun z hz=>?_,h⟩
   rcases List.mem_cons.1 hz with rfl|hz
   ·exact hx
   ·have:=h1 z hz;omega
  ·split
   ·refine List.pairwise_cons.2 ⟨fun z hz=>?_,uG x l h2⟩
    rcases(mA x z l).1 hz with rfl|hz
    ·assumption
    ·exact h1 z hz
   ·exact h
def vsF:List Ed→List Int
 |[]=>[]
 |e::E=>qZ e.a (qZ e.b (vsF E))
theorem aEu:∀ E,(vsF E).Pairwise (· < ·)
 |[]=>.nil
 |e::E=>uG _ _ (uG _ _ (aEu E))
theorem uC(v:Int):∀ E,v∈vsF E↔∃ e∈E,v=e.a∨v=e.b
 |[]=>by simp[vsF]
 |e::E=>by
  unfold vsF
  rw[mA,mA,uC v E]
  simp only[List.mem_cons,exists_eq_or_imp]
  rw[or_assoc]
def gQ(E:List Ed):List Int:=E.flatMap fun e=>[e.a,e.b]
theorem sI(E:List Ed):(gQ E).length=E.length*2:=by
 induction E with
 |nil=>rfl
 |cons e E ih=>simp only[gQ,List.flatMap_cons,List.length_append,List.length_cons,List.length_nil]at ih ⊢;omega
theorem aHB(v:Int)(E:List Ed):v∈gQ E↔∃ e∈E,v=e.a∨v=e.b:=by simp[gQ]
theorem aDY(E:List Ed)(k:Nat)(hk:k<E.length):gQ (E.take (k+1))=gQ (E.take k)++[(E.getD k ed0).a,(E.getD k ed0).b]:=by
 have h:E.take (k+1)=E.take k++[E[k]]:=List.take_succ_eq_append_getElem hk
 rw[bZ E k hk,h]
 unfold gQ
 rw[List.flatMap_append]
 rfl
set_option maxHeartbeats 1000000 in
theorem aLP(l:List Int)(t:Nat)(st:St)(hl:l.length≤20):
 aB Tryz.prog 106 [.sl t l.length (us l),.fn (.func 107) []] st fun r st'=>(∃ V:List Int,V.Pairwise (· < ·)∧(∀ v,v∈V↔v∈l)∧r=.sl 0 V.length (us V))∧aA st st':=by
 refine bQ ?_
 refine qO aF Tryz.func106 rfl rfl Tryz.ntmps106 (rs:=[.tmp 4]) rfl sS ?_
 (repeat' (first|refine qS ?_|(refine w_e [] ?_;intro J hJ;simp only[];simp[];(try refine hJ _ _ (zZ ?_)))))
 refine qE (aAJ l t _ oO) sS ?_;rintro r s1 ⟨q,rfl,hq1,hq2,hB1,hk1⟩
 have hn1:=hk1.next
 simp only[aC]at hn1 hq1
 have hF1:PcU st.next s1:=⟨oO,by rw[hk1.H _ sS];simp⟩
 have k1:aA st s1:=(aA.new _ _).trans hk1
 (repeat' (first|refine qS ?_|((first|(refine w_e [] ?_;intro J hJ;simp only[])|(refine aE ?_));simp[];(try refine hJ _ _ (zZ ?_)))))
 refine qE (aKZ l q _ [.pt st.next 0] (PcU st.next) s1 (aOI st.next q oO) hF1 hq2 oO hB1) sS ?_;rintro r s2 ⟨D,hp,hr,hB2,hof⟩
 have hn2:=hof.1
 have lD:=hp.length_eq
 have hF2:=(aOI st.next q oO).keep _ _ hF1 hof
 have k2:aA st s2:=⟨by have:=k1.next;omega,fun l hl=>(hof.2 l oO (by have:=k1.next;omega)).trans (k1.H l hl)⟩
 have hc1:=Cu.aOW hr
 have hc2:=fun v=>Cu.aLL hr v
 (repeat' (first|refine qS ?_|((first|(refine w_e [] ?_;intro J hJ;simp only[])|(refine aE ?_));simp[];(try refine hJ _ _ (zZ ?_)))))
 refine qE (Cu.aJt D q _ [.pt st.next 0] (PcU st.next) s2 (eqU st.next) (aOI st.next q oO).keep hF2 oO oO hB2) (by simp[lD]) ?_;rintro r s3 ⟨rfl,⟨cs,hB3⟩,hof3⟩
 have k3:aA st s3:=⟨by have:=k2.next;have:=hof3.1;omega,fun l hl=>(hof3.2 l oO (by have:=k2.next;omega)).trans (k2.H l hl)⟩
 generalize Cu.cpt D=V at *
 (repeat' (first|(refine qR (zZ ?_);simp[])|(refine aE ?_;simp[];refine hJ _ _ (zZ ?_))))
 exact⟨q,V.length,⟨rfl,rfl⟩,34,1,us V++cs,hB3,sS,⟨V,hc1,fun v=>(hc2 v).trans hp.mem_iff,rfl,by rw[Nat.mul_one,List.take_append_of_le_length sS,List.take_of_length_le sS]⟩,k3.set oO _⟩
theorem aPu(es:List Ed)(t1 t2:Nat)(st:St)(he:es.length≤10)(hen:es.Pairwise fun x y=>x.id<y.id):
 aB Tryz.prog 73 [.sl t1 (gQ es).length (us (gQ es)),.sl t2 es.length (eds es)] st fun r st'=>r=.ag (grL ⟨vsF es,es⟩)∧aA st st':=by
 have hel:=sI es
 have hm:(es.map (·.id)).Pairwise (· < ·):=by rw[List.pairwise_map];exact hen
 refine qO aF Tryz.func73 rfl rfl Tryz.ntmps73 (rs:=[.cell 4 25]) rfl sS ?_
 (repeat' (first|refine qS ?_|(refine w_e [] ?_;intro J hJ;simp only[];simp[];(try refine hJ _ _ (zZ ?_)))))
 refine qE (aLP (gQ es) t1 _ oO) sS ?_;rintro r s1 ⟨⟨V,hV1,hV2,rfl⟩,hk1⟩
 have hV:V=vsF es:=uN id (by simpa using hV1) (by simpa using aEu es) fun v=>by rw[hV2,aHB,uC]
 subst hV
 have hn1:=hk1.next
 simp only[aC]at hn1
 have hG1:s1.H st.next=.box 25 2 [.nil,.nil]:=by rw[hk1.H _ sS];simp
 (repeat' (refine aE ?_;simp[]))
 refine qE (aLd es t2 _ oO (hm.imp fun h=>by omega)) sS ?_;rintro r s2 ⟨⟨E,hE1,hE2,rfl⟩,hk2⟩
 have hE:=uN (·.id) hE2 hm fun x=>hE1.mem_iff
 subst hE
 have hn2:=hk2.next
 have hG2:=(hk2.H st.next oO).trans hG1
 (repeat' (first|(refine qR (zZ ?_);simp[hG2])|(refine aE ?_;simp[hG2];refine hJ _ _ (zZ ?_))))
 exact(((aA.new _ _).trans hk1).trans hk2).set oO _
def aIF(g:Gr)(h:Sh)(at':Nat)(w:List Int):Prop:=at' < h.F.length∧2≤w.length∧w.length≤200∧(∀ v∈w,v∈g.vs)∧(h.F.getD at' []).length≤1000∧w.getD 0 0∈h.F.getD at' []∧w.getD (w.length-1) 0∈h.F.getD at' []∧h.F.length<300
instance (g:Gr) (h:Sh) (a:Nat) (w:List Int):Decidable (aIF g h a w):=by unfold aIF;infer_instance
def aNr(g:Gr)(h:Sh):Option (Option Sh):=(aMp g h.L h.on).bind fun B=>
 if(∀ b∈B,∀ v∈b.ends,v∈g.vs)∧B.length≤300∧∀ v∈(dH h.F B (⟨[],[]⟩,-1)).1.ends,v∈g.vs then
  if(dH h.F B (⟨[],[]⟩,-1)).2<0 then some none
  else(aOg g (dH h.F B (⟨[],[]⟩,-1)).1).bind fun w=>if aIF g h (dH h.F B (⟨[],[]⟩,-1)).2.toNat w then some (some (aHG h w (dH h.F B (⟨[],[]⟩,-1)).2.toNat))else none
 else none
def aCQ(g:Gr):Nat→Sh→Option (Option Sh)
 |0,_=>none
 |n+1,h=>if h.L.length<g.es.length then(aNr g h).bind fun o=>match o with
   |none=>some none
   |some h'=>aCQ g n h'
  else some (some h)
def aNv(E:List Ed):Option (Option (List (List Int))):=
 match E with
 |[e]=>some (some [[e.a,e.b]])
 |E=>if(vsF E).length≤64∧E.length≤10 then
   if(3:Int)*(vsF E).length-6<E.length then some none
   else(newF ⟨vsF E,E⟩).bind fun h=>(aCQ ⟨vsF E,E⟩ 1000 h).map fun o=>o.map (·.F)
  else none
structure DrE(E:List Ed):Prop where
 ids:E.Pairwise (fun x y=>x.id<y.id)
 pos:∀ x∈E,1≤x.id∧x.id≤1048576
 ne:∀ x∈E,x.a≠x.b
theorem DrE.gp{E:List Ed}(h:DrE E)(h1:(vsF E).length≤64)(h2:E.length≤10):GP ⟨vsF E,E⟩:=
 ⟨⟨⟨aEu E,fun x hx=>⟨(uC _ _).2 ⟨x,hx,.inl rfl⟩,(uC _ _).2 ⟨x,hx,.inr rfl⟩⟩⟩,h.ids,h.pos,h.ne⟩,h1,(by simp only;omega)⟩
def drR:Option (List (List Int))→LV
 |none=>.tu [.sl 0 0 [],bb false]
 |some F=>.tu [.sl 0 F.length (cS F),bb true]
set_option maxHeartbeats 4000000 in
theorem aPH{E:List Ed}(hE:DrE E){o:Option (List (List Int))}(ho:aNv E=some o)(st:St)(hpos:0<st.next):
 aB Tryz.prog 44 [.sl 0 E.length (eds E)] st fun r st'=>r=drR o∧aA st st':=by
 refine cQ ?_
 have hel:=aJ E
 by_cases h1:E.length=1
 ·obtain⟨⟨e1,ea,eb⟩,rfl⟩:∃ e,E=[e]:=List.length_eq_one_iff.1 h1
  have:o=some [[ea,eb]]:=by
   have:some (some [[ea,eb]])=some o:=ho
   exact(Option.some.inj this).symm
  subst this
  have hd:eds [(⟨e1,ea,eb⟩:Ed)]=[u e1,u ea,u eb]:=rfl
  refine qO aF Tryz.func44 rfl rfl Tryz.ntmps44 (rs:=[.tmp 2,.tmp 3]) rfl sS ?_
  (repeat' (first|refine qS ?_|(refine qC ?_;simp[hd])|(refine w_e [] ?_;intro J hJ;simp only[];simp[hd];refine hJ _ _ (zZ ?_))))
  (refine w_s [] [] [(0,true),(1,true),(2,true),(3,true),(4,true),(5,true),(6,true),(7,true),(8,false),(9,true),(10,true),(11,true)] ?_;intro J hJ;simp[hd];refine hJ _ _ (zZ ?_))
  (repeat' (refine qR (zZ ?_);simp[]))
  exact⟨by simp[z0,z0L,drR,cS],(aA.new _ _).trans (aA.new _ _)⟩
 have hb1:((E.length:Int)==1)=false:=by
  rw[beq_eq_false_iff_ne];omega
 have ho2:(if(vsF E).length≤64∧E.length≤10 then
  if(3:Int)*(vsF E).length-6<E.length then some none
  else(newF ⟨vsF E,E⟩).bind fun h=>(aCQ ⟨vsF E,E⟩ 1000 h).map fun o=>o.map (·.F)
  else none)=some o:=by
  rcases E with _|⟨e,_|⟨e2,E⟩⟩
  ·exact ho
  ·simp at h1
  ·exact ho
 clear ho
 split at ho2
 case isFalse=>cases ho2
 rename_i hq
 obtain⟨hq1,hq2⟩:=hq
 have hg:=hE.gp hq1 hq2
 have hvl:=sI E
 refine qO aF Tryz.func44 rfl rfl Tryz.ntmps44 (rs:=[.tmp 2,.tmp 3]) rfl sS ?_
 (repeat' (first|refine qS ?_|refine qB ?_|(refine qK (zZ ?_))|(refine qC ?_;simp[hb1])|(refine w_e [] ?_;intro J hJ;simp only[];simp[hb1];refine hJ _ _ (zZ ?_))))
 refine dW 4 34 1 sS ?_
 have e0:¬st.next=0:=oO
 refine aM 29 28 30 40 (E.length) (fun j fr st2=>fr 0=.sl 0 E.length (eds E)∧fr 27=.sl 0 E.length (eds E)∧aA st st2∧∃ t,fr 4=.sl t (gQ (E.take j)).length (us (gQ (E.take j)))∧aAH t 34 1 (gQ (E.take j)).length st st2) ?_ ?_ ?_
 ·exact⟨sS,sS,aA.new _ _,st.next,by simp[gQ],e0,Nat.le_refl _,sS,by simp[gQ]⟩
 ·rintro j fr s hlt ⟨f0,f27,hkp,t,f4,a1,a2,a3,a4⟩ fi fn JO hJO
  have hd:=aW E j hlt
  have hk3:j*3<E.length*3:=oO
  have htk:=aDY E j hlt
  have hFl:=sI (E.take j)
  rw[List.length_take]at hFl
  generalize E.getD j ed0=x at *
  generalize gQ (E.take j)=F at *
  obtain⟨d,a,b⟩:=x
  simp only at htk
  have c1:¬t=s.next:=oO
  have c1b:¬t=s.next+1:=oO
  have c4:¬s.next=t:=oO
  have c5:¬s.next+1=t:=oO
  (repeat' (first|refine qS ?_|(refine w_e [] ?_;intro J hJ;simp only[];simp[f4,f27,fi,fn,hd,hel,hk3,hlt,a4,a1,c1,c1b,c4,c5];(repeat refine ca ?_);refine hJ _ _ (zZ ?_))))
  refine hJO _ _ (by simp[fi]) (by simp[fn]) ⟨by simp[f0],by simp[f27],?_,s.next+2,by rw[htk];simp,oO,oO,sS,by rw[htk];simp⟩
  exact(((hkp.trans (aA.new _ _)).trans (aA.new _ _)).set a2 _).trans (aA.new _ _)
 ·rintro fr s ⟨f0,f27,hkp,t,f4,a1,a2,a3,a4⟩
  rw[List.take_length]at f4 a4
  (repeat' (first|refine qS ?_|(refine w_e [] ?_;intro J hJ;simp only[];simp[f0,f4])))
  refine qE (aPu E t 0 s hq2 hE.ids) sS ?_;rintro r s1 ⟨rfl,hk1⟩
  have hk1:=hkp.trans hk1
  have w1:IntKind.i64.wrap (3*((vsF E).length:Int))=3*((vsF E).length:Int):=wrap_i64 _ oO oO
  have w2:IntKind.i64.wrap (3*((vsF E).length:Int)-6)=3*((vsF E).length:Int)-6:=wrap_i64 _ oO oO
  have hel2:=aJ E
  by_cases hc:(3:Int)*(vsF E).length-6<E.length
  ·rw[if_pos hc]at ho2
   obtain rfl:none=o:=Option.some.inj ho2
   (repeat' (first|refine qS ?_|(refine qR (zZ ?_);simp[w1,w2,hc])|(refine qC ?_;simp[w1,w2,hc])|((first|(refine w_e [] ?_;intro J hJ;simp only[])|(refine aE ?_));simp[w1,w2,hc];refine hJ _ _ (zZ ?_))))
   exact⟨by simp[z0,z0L,drR],hk1.trans (aA.new _ _)⟩
  rw[if_neg hc]at ho2
  have hk2:=hk1.trans (aA.new s1 (.box 25 2 (grL ⟨vsF E,E⟩)))
  have hG:(s1.new (.box 25 2 (grL ⟨vsF E,E⟩))).H s1.next=.box 25 2 (grL ⟨vsF E,E⟩):=sS
  obtain⟨h,hh,ho3⟩:=Option.bind_eq_some_iff.1 ho2
  obtain⟨o2,hlp,ho4⟩:=Option.map_eq_some_iff.1 ho3
  (repeat' (first|refine qS ?_|(refine qK (zZ ?_))|(refine qC ?_;simp[w1,w2,hc])|((first|(refine w_e [] ?_;intro J hJ;simp only[])|(refine aE ?_));simp[w1,w2,hc];(try refine hJ _ _ (zZ ?_)))))
  refine qE (aJB hg hh _) sS ?_;rintro r s2 ⟨S,nl,pl,ll,fl,le,rfl,hS,⟨b1,b2,b3⟩,hk3⟩
  have hG2:s2.H s1.next=.box 25 2 (grL ⟨vsF E,E⟩):=by rw[hk3.H _ sS];exact hG
  have hn1:=hk1.next
  simp only[aC]at b1 b2 b3
  have hk2:=hk2.trans hk3
  (repeat' (first|refine qS ?_|refine qB ?_|(refine aE ?_;simp[];refine hJ _ _ (zZ ?_))))
  refine qL (fun n fr st2=>∃ h fl le,aCQ ⟨vsF E,E⟩ n h=some o2∧fr 7=.pt s1.next 0∧fr 8=.pt S 0∧ShA ⟨vsF E,E⟩ h.L h.on h.F S nl pl ll fl le st2∧s1.next<S∧s1.next<ll∧s1.next<fl∧st2.H s1.next=.box 25 2 (grL ⟨vsF E,E⟩)∧aA st st2) 1000 ?_ ?_
  ·exact⟨h,fl,le,hlp,sS,sS,hS,oO,oO,oO,hG2,hk2⟩
  clear hS hG2 hk2 hk3 hlp hG f0 f27 f4 fr b1 b2 b3 hh ho2 ho3 h
  rintro n fr s3 ⟨h,fl,le,hlp,f7,f8,hS,b1,b2,b3,hG,hk⟩ JJ hJJ
  obtain _|n:=n
  ·cases hlp
  have hSb:=hS.r.box
  have hsl:=hS.r.lt
  have hL:=hS.r.lin
  have hkl:le.length=h.L.length:=by rw[← List.length_map (f:=(·.1)),hS.r.key,List.length_map]
  unfold aCQ at hlp
  by_cases hlt:h.L.length<E.length
  ·rw[if_pos hlt]at hlp
   have hlt':((le.length:Nat):Int)<E.length:=oO
   obtain⟨so,hso,hlp⟩:=Option.bind_eq_some_iff.1 hlp
   unfold aNr at hso
   obtain⟨B,hB,hso⟩:=Option.bind_eq_some_iff.1 hso
   split at hso
   case isFalse=>cases hso
   rename_i hc
   obtain⟨hc1,hc2,hc3⟩:=hc
   (repeat' (first|refine qS ?_|refine qB ?_|(refine qK (zZ ?_))|(refine qC ?_;simp[f7,f8,hSb,hL,hG,hlt'])|((first|(refine w_e [] ?_;intro J hJ;simp only[])|(refine w_q ?_;intro J hJ));simp[f7,f8,hSb,hL,hG,hlt'];(try refine hJ _ _ (zZ ?_)))))
   refine qE (aLg hg hS hB hc1 hc2) sS ?_;rintro r s4 ⟨rfl,e4⟩
   rw[e4];clear e4 s4
   generalize dH h.F B (⟨[],[]⟩,-1)=ch at *
   obtain⟨b,at'⟩:=ch
   simp only at hso hc3
   by_cases hneg:at' < 0
   ·rw[if_pos hneg]at hso
    obtain rfl:none=so:=Option.some.inj hso
    simp only at hlp
    obtain rfl:none=o2:=Option.some.inj hlp
    obtain rfl:none=o:=ho4
    (repeat' (first|refine qS ?_|(refine qR (zZ ?_);simp[hneg])|(refine qC ?_;simp[hneg])|((first|(refine w_e [] ?_;intro J hJ;simp only[])|(refine aE ?_));simp[hneg];refine hJ _ _ (zZ ?_))))
    exact⟨by simp[z0,z0L,drR],hk.trans (aA.new _ _)⟩
   rw[if_neg hneg]at hso
   obtain⟨w,hw,hso⟩:=Option.bind_eq_some_iff.1 hso
   split at hso
   case isFalse=>cases hso
   rename_i hlay
   obtain⟨y1,y2,y3,y4,y5,y6,y7,y8⟩:=hlay
   obtain rfl:=Option.some.inj hso
   simp only at hlp
   obtain⟨at',rfl⟩:∃ k:Nat,at'=(k:Int):=⟨at'.toNat,oO⟩
   simp only[Int.toNat_natCast]at *
   have hneg':¬(at':Int)<0:=oO
   (repeat' (first|refine qS ?_|(refine qK (zZ ?_))|(refine qC ?_;simp[hneg',f8])|((first|(refine w_e [] ?_;intro J hJ;simp only[])|(refine aE ?_));simp[hneg',f8];(try refine hJ _ _ (zZ ?_)))))
   have hk4:=aA.new s3 (.box 121 2 [wv (mk (vsF E) b.inner),wv (mk (vsF E) b.ends)])
   refine qE (aRS hg (hS.keep hk4) hc3 hw) (by simp[aLF]) ?_;rintro r s4 ⟨rfl,e4⟩
   rw[e4];clear e4 s4
   (repeat' (refine aE ?_;simp[]))
   refine qE (aRm hg (hS.keep hk4) y1 y2 y3 y4 y5 y6 y7 y8 sS) sS ?_;rintro r s4 ⟨fl2,le2,hS4,hfl,hkm⟩
   have hkn:=hkm.next
   simp only[aC]at hkn hfl
   have hk34:=hkm.H
   have hKK:aA st s4:=⟨by have:=hk.next;omega,fun l hl=>by
    have:=hk.next
    rw[hk34 l (by simp;omega) (by simp;omega),bI,if_neg oO]
    exact hk.H l hl⟩
   have hG4:s4.H s1.next=.box 25 2 (grL ⟨vsF E,E⟩):=by
    rw[hk34 _ (by simp;omega) (by simp;omega),bI,if_neg oO];exact hG
   (repeat' (refine aE ?_;simp[];refine hJ _ _ (zZ ?_)))
   refine hJJ n _ _ oO ⟨aHG h w at',fl2,le2,hlp,by simp[f7],by simp[f8],hS4,oO,oO,oO,hG4,hKK⟩
  ·rw[if_neg hlt]at hlp
   obtain rfl:some h=o2:=Option.some.inj hlp
   obtain rfl:some h.F=o:=ho4
   have hlt':¬((le.length:Nat):Int)<E.length:=oO
   clear hJJ
   (repeat' (first|refine qS ?_|refine qB ?_|(refine qX (zZ ?_))|(refine qC ?_;simp[f7,f8,hSb,hL,hG,hlt'])|((first|(refine w_e [] ?_;intro J hJ;simp only[])|(refine w_q ?_;intro J hJ));simp[f7,f8,hSb,hL,hG,hlt'];refine hJ _ _ (zZ ?_))))
   refine dW 11 22 1 sS ?_
   have hF:=hS.fac
   have hfl:=lS (vsF E) h.F
   have hfw:=hS.few
   have hflt:=hS.flt
   refine aM 82 81 83 91 (h.F.length) (fun j fr st2=>fr 80=.ms fl 0 h.F.length∧st2.H fl=.box 127 2 (fK (vsF E) h.F)∧fl<st2.next∧aA st st2∧∃ t,fr 11=.sl t j (cS (h.F.take j))∧aAH t 22 1 j st st2) ?_ ?_ ?_
   ·exact⟨sS,by rw[bI,if_neg oO];exact hF,by simp;omega,hk.trans (aA.new _ _),s3.next,by simp[cS],by have:=hk.next;omega,hk.next,sS,sS⟩
   ·clear hF hflt hG hSb hL hlt' f7 f8 hk
    rintro j fr s hlt ⟨f80,hF,hflt,hk,t,f11,t0,t1,t2,tH⟩ fi fn JO hJO
    have hd:=nB (vsF E) h.F j hlt
    have hjj:j*2<h.F.length*2:=oO
    have htk:=vY h.F j hlt
    have hgd:h.F.getD j []=h.F[j]:=by rw[List.getD_eq_getElem?_getD,List.getElem?_eq_getElem hlt];rfl
    rw[hgd]at hd
    generalize h.F[j]=R at *
    have c0:¬fl=t:=fun e=>by rw[e,tH]at hF;cases hF
    have c1:¬t=s.next:=oO
    have c2:¬s.next=t:=oO
    have c3:¬t=s.next+1:=oO
    have c4:¬s.next+1=t:=oO
    have c5:¬fl=s.next:=oO
    (repeat' (first|refine qS ?_|(refine w_e [] ?_;intro J hJ;simp only[];simp[f80,f11,fi,fn,hF,hd,hjj,hfl,hlt,tH,t0,c0,c1,c2,c3,c4,c5];(repeat refine ca ?_);refine hJ _ _ (zZ ?_))))
    refine hJO _ _ (by simp[fi]) (by simp[fn]) ⟨by simp[f80],?_,by simp;omega,?_,s.next+1+1,by rw[htk];simp[cS],oO,oO,sS,sS⟩
    ·(repeat (first|rw[nHh nOo]|rw[sHh oO]|rw[nIi nQq]|rw[sIi oO]));exact hF
    ·exact(((hk.trans (aA.new _ _)).trans (aA.new _ _)).set t1 _).trans (aA.new _ _)
   ·clear hF hflt hG hSb hL hlt' f7 f8 hk
    rintro fr s ⟨f80,hF,hflt,hk,t,f11,t0,t1,t2,tH⟩
    rw[List.take_length]at f11
    (repeat' (first|refine qS ?_|(refine qR (zZ ?_);simp[f11])|(refine w_e [] ?_;intro J hJ;simp only[];simp[f11];refine hJ _ _ (zZ ?_))))
    have hzu:∀ l:List Int,z0L (us l)=us l:=fun l=>by
     induction l with
     |nil=>rfl
     |cons x l ih=>simp only[us,List.map_cons,z0L,z0]at ih ⊢;rw[ih]
    have hz:∀ R:List (List Int),z0L (cS R)=cS R:=fun R=>by
     induction R with
     |nil=>rfl
     |cons r R ih=>simp only[cS,List.map_cons,z0L,z0,hzu]at ih ⊢;rw[ih]
    exact⟨by simp[z0,z0L,drR,hz],hk⟩
abbrev Tn:=List (Int×List (Int×Int))
def yU(x y:Int):List (Int×Int)→List (Int×Int)
 |[]=>[(x,y)]
 |p::P=>if p.1=x then(x,y)::P else p::yU x y P
def mS(v x y:Int):Tn→Tn
 |[]=>[(v,[(x,y)])]
 |a::A=>if a.1=v then(v,yU x y a.2)::A else a::mS v x y A
def tI(n k:Nat):Nat:=if k=0 then n-1 else k-1
def jF(r:List Int)(A:Tn):Nat→Tn
 |0=>A
 |j+1=>mS (r.getD j 0) (r.getD (tI r.length j) 0) (r.getD ((j+1) % r.length) 0) (jF r A j)
def eA(R:List (List Int)):Tn:=R.foldl (fun A r=>jF r A r.length) []
def inL(P:List (Int×Int)):List (List Int×LV):=P.map fun p=>([p.1],u p.2)
theorem aBa(x y:Int):∀ P,aV (inL P) [x] (u y)=inL (yU x y P)
 |[]=>rfl
 |p::P=>by
  have ih:=aBa x y P
  unfold yU
  simp only[inL,List.map_cons,aV,List.cons.injEq,and_true]at ih ⊢
  by_cases h:p.1=x
  ·rw[if_pos h,if_pos (by simp[h])];rfl
  ·rw[if_neg h,if_neg (by simpa using fun e=>h e.symm),ih];rfl
def ouL(A:Tn)(loc:Int→Nat):List (List Int×LV):=A.map fun a=>([a.1],.mp (loc a.1))
structure MM(A:Tn)(loc:Int→Nat)(o:Nat)(lo st:St):Prop where
 out:st.H o=.map false [.u32] (ouL A loc)
 olt:lo.next≤o∧o<st.next
 inn:∀ a∈A,st.H (loc a.1)=.map false [.u32] (inL a.2)∧(lo.next≤loc a.1∧loc a.1≠o)∧loc a.1<st.next
 inj:∀ a∈A,∀ b∈A,loc a.1=loc b.1→a.1=b.1
 nd:(A.map (·.1)).Nodup
 kp:aA lo st
theorem aBg(A:Tn)(loc:Int→Nat)(v:Int):aY (ouL A loc) [v]=if v∈A.map (·.1)then some (.mp (loc v))else none:=by
 induction A with
 |nil=>rfl
 |cons a A ih=>
  simp only[ouL,List.map_cons,aY,List.mem_cons]at ih ⊢
  by_cases h:a.1=v
  ·rw[if_pos (by simp[h]),if_pos (.inl h.symm),h]
  ·rw[if_neg (by simpa using fun e=>h e.symm),ih]
   have:¬v=a.1:=fun e=>h e.symm
   simp only[this,false_or]
theorem aMD{A:Tn}{v:Int}(loc:Int→Nat)(l:Nat)(h:v∉A.map (·.1)):aV (ouL A loc) [v] (.mp l)=ouL (A++[(v,[])]) (fun x=>if x=v then l else loc x):=by
 rw[xO]
 ·unfold ouL
  rw[List.map_append]
  congr 1
  ·refine List.map_congr_left fun a ha=>?_
   have:a.1≠v:=fun e=>h (e ▸ List.mem_map.2 ⟨a,ha,rfl⟩)
   simp only[if_neg this]
  ·simp
 ·intro hm
  obtain⟨q,hq,e⟩:=List.mem_map.1 hm
  obtain⟨a,ha,rfl⟩:=List.mem_map.1 hq
  simp only[List.cons.injEq,and_true]at e
  exact h (e ▸ List.mem_map.2 ⟨a,ha,rfl⟩)
theorem MM.add{A:Tn}{loc:Int→Nat}{o:Nat}{lo s:St}(h:MM A loc o lo s){v:Int}(hv:v∉A.map (·.1)):
 MM (A++[(v,[])]) (fun x=>if x=v then s.next else loc x) o lo ((s.new (.map false [.u32] [])).set o (.map false [.u32] (ouL (A++[(v,[])]) (fun x=>if x=v then s.next else loc x)))):=by
 obtain⟨h1,h2,h3,h4,h5,h6⟩:=h
 have hne:∀ a∈A,a.1≠v:=fun a ha e=>hv (e ▸ List.mem_map.2 ⟨a,ha,rfl⟩)
 have hn:=h6.next
 refine⟨sS,⟨h2.1,by simp;omega⟩,fun a ha=>?_,fun a ha b hb e=>?_,?_,(h6.trans (aA.new _ _)).set h2.1 _⟩
 ·rcases List.mem_append.1 ha with ha|ha
  ·obtain⟨k1,k2,k3⟩:=h3 a ha
   simp only[if_neg (hne a ha)]
   have e1:¬loc a.1=o:=k2.2
   refine⟨?_,k2,by simp;omega⟩
   rw[bH,if_neg e1,bI,if_neg oO];exact k1
  ·rw[List.mem_singleton]at ha
   subst ha
   simp only[if_true]
   refine⟨?_,⟨hn,oO⟩,sS⟩
   rw[bH,if_neg oO,bI,if_pos rfl];rfl
 ·rcases List.mem_append.1 ha with ha|ha
  ·rcases List.mem_append.1 hb with hb|hb
   ·simp only[if_neg (hne a ha),if_neg (hne b hb)]at e
    exact h4 a ha b hb e
   ·rw[List.mem_singleton]at hb
    subst hb
    simp only[if_neg (hne a ha),if_true]at e
    have:=(h3 a ha).2.2
    omega
  ·rw[List.mem_singleton]at ha
   subst ha
   rcases List.mem_append.1 hb with hb|hb
   ·simp only[if_neg (hne b hb),if_true]at e
    have:=(h3 b hb).2.2
    omega
   ·rw[List.mem_singleton]at hb
    subst hb
    rfl
 ·rw[List.map_append,List.nodup_append]
  refine⟨h5,sS,fun a ha b hb e=>?_⟩
  simp only[List.map_cons,List.map_nil,List.mem_singleton]at hb
  subst hb;subst e
  exact hv ha
theorem aAB(v x y:Int):∀ A:Tn,v∈A.map (·.1)→(mS v x y A).map (·.1)=A.map (·.1)
 |a::A,h=>by
  unfold mS
  by_cases e:a.1=v
  ·rw[if_pos e];simp[e]
  ·rw[if_neg e,List.map_cons,List.map_cons,aAB v x y A]
   simp only[List.map_cons,List.mem_cons]at h
   exact h.resolve_left fun h=>e h.symm
theorem aCE{v x y:Int}{P:List (Int×Int)}:∀ {A:Tn},(A.map (·.1)).Nodup→(v,P)∈A→∀ a,a∈mS v x y A→a=(v,yU x y P)∨(a∈A∧a.1≠v)
 |b::A,hn,h,a,ha=>by
  obtain⟨n1,n2⟩:=List.nodup_cons.1 (by simpa using hn:(b.1::A.map (·.1)).Nodup)
  unfold mS at ha
  by_cases e:b.1=v
  ·rw[if_pos e]at ha
   have hb:(v,P)=b:=by
    rcases List.mem_cons.1 h with h|h
    ·exact h
    ·exact absurd (List.mem_map.2 ⟨_,h,rfl⟩) (e ▸ n1)
   subst hb
   rcases List.mem_cons.1 ha with ha|ha
   ·exact .inl ha
   ·exact .inr ⟨List.mem_cons_of_mem _ ha,fun h2=>n1 (List.mem_map.2 ⟨a,ha,h2⟩)⟩
  ·rw[if_neg e]at ha
   rcases List.mem_cons.1 ha with ha|ha
   ·exact .inr ⟨by simp[ha],by rw[ha];exact e⟩
   ·have h2:(v,P)∈A:=by
     rcases List.mem_cons.1 h with h|h
     ·exact absurd (by rw[← h]) e
     ·exact h
    rcases aCE n2 h2 a ha with h3|⟨h3,h4⟩
    ·exact .inl h3
    ·exact .inr ⟨List.mem_cons_of_mem _ h3,h4⟩
theorem aBZ(v x y:Int):∀ A:Tn,v∉A.map (·.1)→mS v x y (A++[(v,[])])=mS v x y A
 |[],_=>by simp[mS,yU]
 |a::A,h=>by
  simp only[List.map_cons,List.mem_cons,not_or]at h
  have e:¬a.1=v:=fun e=>h.1 e.symm
  simp only[List.cons_append,mS,if_neg e,aBZ v x y A h.2]
theorem MM.put{A:Tn}{loc:Int→Nat}{o:Nat}{lo s:St}(h:MM A loc o lo s){v x y:Int}{P:List (Int×Int)}(hv:(v,P)∈A):
 MM (mS v x y A) loc o lo (s.set (loc v) (.map false [.u32] (inL (yU x y P)))):=by
 obtain⟨h1,h2,h3,h4,h5,h6⟩:=h
 have hk:=aAB v x y A (List.mem_map.2 ⟨_,hv,rfl⟩)
 obtain⟨k1,k2,k3⟩:=h3 _ hv
 have hin:∀ a∈mS v x y A,∃ b∈A,b.1=a.1:=fun a ha=>by
  have:a.1∈A.map (·.1):=by rw[← hk];exact List.mem_map.2 ⟨a,ha,rfl⟩
  obtain⟨b,hb,e⟩:=List.mem_map.1 this
  exact⟨b,hb,e⟩
 have ho:ouL (mS v x y A) loc=ouL A loc:=by
  have e:∀ B:Tn,ouL B loc=(B.map (·.1)).map fun k=>([k],LV.mp (loc k)):=fun B=>by simp[ouL]
  rw[e,e,hk]
 have e1:¬o=loc v:=fun e=>k2.2 e.symm
 refine⟨?_,⟨h2.1,h2.2⟩,fun a ha=>?_,fun a ha b hb e=>?_,by rw[hk];exact h5,h6.set k2.1 _⟩
 ·rw[bH,if_neg e1,h1,ho]
 ·rcases aCE h5 hv a ha with rfl|⟨ha,hne⟩
  ·exact⟨sS,k2,k3⟩
  ·obtain⟨q1,q2,q3⟩:=h3 a ha
   refine⟨?_,q2,q3⟩
   rw[bH,if_neg fun e=>hne (h4 a ha _ hv e)];exact q1
 ·obtain⟨a2,ha2,ea⟩:=hin a ha
  obtain⟨b2,hb2,eb⟩:=hin b hb
  rw[← ea,← eb]at e ⊢
  exact h4 a2 ha2 b2 hb2 e
set_option maxHeartbeats 2000000 in
theorem aJG(R:List (List Int))(st:St)(hR:R.length≤300)(hr:∀ r∈R,r.length≤1000):
 aB Tryz.prog 45 [.sl 0 R.length (cS R)] st fun r st'=>∃ o loc,r=.mp o∧MM (eA R) loc o st st':=by
 refine qO aF Tryz.func45 rfl rfl Tryz.ntmps45 (rs:=[.tmp 2]) rfl sS ?_
 (repeat' (first|refine qS ?_|refine qB ?_|(refine w_e [] ?_;intro J hJ;simp only[];simp[];refine hJ _ _ (zZ ?_))))
 have e0:st.next<st.next+1:=oO
 refine aM 12 11 13 50 (R.length) (fun j fr st2=>fr 3=.mp st.next∧fr 10=.sl 0 R.length (cS R)∧∃ loc,MM ((R.take j).foldl (fun A r=>jF r A r.length) []) loc st.next st st2) ?_ ?_ ?_
 ·exact⟨sS,sS,fun _=>0,by simp[ouL],sS,sS,sS,sS,aA.new _ _⟩
 ·rintro j0 fr s hlt ⟨f3,f10,loc,hM⟩ fi fn JO hJO
  have hd:=eE R j0 hlt
  have htk:(R.take (j0+1)).foldl (fun A r=>jF r A r.length) []=jF (R.getD j0 []) ((R.take j0).foldl (fun A r=>jF r A r.length) []) (R.getD j0 []).length:=by
   have h1:R.take (j0+1)=R.take j0++[R[j0]]:=List.take_succ_eq_append_getElem hlt
   rw[h1,List.foldl_append,List.getD_eq_getElem?_getD,List.getElem?_eq_getElem hlt];rfl
  have hl:(R.getD j0 []).length≤1000:=hr _ (by rw[List.getD_eq_getElem?_getD,List.getElem?_eq_getElem hlt];exact List.getElem_mem _)
  generalize (R.take j0).foldl (fun A r=>jF r A r.length) []=A0 at *
  generalize R.getD j0 []=r at *
  have w1:IntKind.i64.wrap ((r.length:Int)-1)=(r.length:Int)-1:=wrap_i64 _ oO oO
  (repeat' (first|refine qS ?_|refine qB ?_|(refine w_e [] ?_;intro J hJ;simp only[];simp[f3,f10,fi,fn,hlt,hd,w1];refine hJ _ _ (zZ ?_))))
  have hJ0:∀ loc' fr' s',fr' 3=.mp st.next→fr' 10=.sl 0 R.length (cS R)→fr' 12=i j0→fr' 11=i R.length→MM (jF r A0 r.length) loc' st.next st s'→JO fr' s':=fun loc' fr' s' g1 g2 g3 g4 g5=>hJO _ _ g3 g4 ⟨by simp[g1],by simp[g2],loc',by rw[htk];exact g5⟩
  clear hJO htk
  refine aM 21 20 22 49 (r.length) (fun j fr st2=>(fr 3=.mp st.next∧fr 10=.sl 0 R.length (cS R)∧fr 12=i j0∧fr 11=i R.length)∧fr 5=.sl 0 r.length (us r)∧fr 19=.sl 0 r.length (us r)∧fr 6=i (if j=0 then(r.length:Int)-1 else(j:Int)-1)∧∃ loc,MM (jF r A0 j) loc st.next st st2) ?_ ?_ ?_
  ·exact⟨⟨by simp[f3],by simp[f10],by simp[fi],by simp[fn]⟩,sS,sS,sS,loc,hM⟩
  ·clear f3 f10 fi fn hM loc s fr
   rintro k fr s hlk ⟨⟨f3,f10,f12,f11⟩,f5,f19,f6,loc,hM⟩ fi fn JO2 hJO2
   have hdk:=qG r k hlk
   have hpk:tI r.length k<r.length:=by unfold tI;split<;>omega
   have hpi:(if k=0 then(r.length:Int)-1 else(k:Int)-1)=((tI r.length k:Nat):Int):=by unfold tI;split<;>omega
   rw[hpi]at f6
   have hdp:=qG r (tI r.length k) hpk
   have hmod:((k:Int)+1).tmod (r.length:Int)=(((k+1) % r.length:Nat):Int):=by
    rw[Int.tmod_eq_emod_of_nonneg oO]
    exact(Int.natCast_emod _ _).symm
   have hml:(k+1) % r.length<r.length:=Nat.mod_lt _ oO
   have hdm:=qG r ((k+1) % r.length) hml
   have hw:IntKind.i64.wrap ((k:Int)+1)=(k:Int)+1:=wrap_i64 _ oO oO
   have hsn:jF r A0 (k+1)=mS (r.getD k 0) (r.getD (tI r.length k) 0) (r.getD ((k+1) % r.length) 0) (jF r A0 k):=rfl
   generalize jF r A0 k=A at *
   generalize tI r.length k=pk at *
   generalize (k+1) % r.length=mk' at *
   generalize r.getD k 0=v at *
   generalize r.getD pk 0=x at *
   generalize r.getD mk' 0=y at *
   have hr0:¬(r.length:Int)=0:=oO
   have hrn:¬r=[]:=fun e=>by rw[e]at hlk;simp at hlk
   have hpk':(pk:Int)<r.length:=oO
   have hml':(mk':Int)<r.length:=oO
   have hH:=hM.out
   have hg:=aBg A loc v
   by_cases hv:v∈A.map (·.1)
   ·rw[if_pos hv]at hg
    obtain⟨⟨v',P⟩,hP,rfl⟩:=List.mem_map.1 hv
    simp only at hg hsn hdk
    have hI:=(hM.inn _ hP).1
    have hput:=aBa x y P
    have hM2:=hM.put (x:=x) (y:=y) hP
    simp only at hI
    generalize loc v'=lv at *
    (repeat' (first|refine qS ?_|(refine qK (zZ ?_))|(refine qC ?_;simp[f3,f5,f19,f6,fi,fn,hlk,hdk,hH,hg])|(refine w_e [] ?_;intro J hJ;simp only[];simp[f3,f5,f19,f6,fi,fn,hlk,hdk,hH,hg];refine hJ _ _ (zZ ?_))))
    (refine w_s [] [st.next,lv] [(0,true),(1,true),(2,true),(3,true),(4,true),(5,true),(6,true),(7,true),(8,true),(9,true),(10,true),(11,true),(12,true),(13,true),(14,true),(15,false)] ?_;intro J hJ;simp[f3,f5,f19,f6,fi,fn,hlk,hdk,hdp,hdm,hpk,hml,hpk',hml',hr0,hrn,hw,hmod,hH,hg,hI];refine hJ _ _ (zZ ?_))
    rw[hput]
    (repeat' (refine w_e [] ?_;intro J hJ;simp only[];simp[];refine hJ _ _ (zZ ?_)))
    refine hJO2 _ _ (by simp[fi]) (by simp[fn]) ⟨⟨by simp[f3],by simp[f10],by simp[f12],by simp[f11]⟩,by simp[f5],by simp[f19],sS,loc,?_⟩
    rw[hsn];exact hM2
   ·rw[if_neg hv]at hg
    have c1:¬st.next=s.next:=by have:=hM.olt;omega
    have hM1:=hM.add hv
    have hadd:=aMD loc s.next hv
    have hpa:=aBZ v x y A hv
    (repeat' (first|refine qS ?_|(refine qC ?_;simp[f3,f5,f19,f6,fi,fn,hlk,hdk,hH,hg,c1])|(refine w_e [] ?_;intro J hJ;simp only[];simp[f3,f5,f19,f6,fi,fn,hlk,hdk,hH,hg,c1];refine hJ _ _ (zZ ?_))))
    rw[hadd]
    generalize (s.new (.map false [.u32] [])).set st.next (.map false [.u32] (ouL (A++[(v,[])]) fun x=>if x=v then s.next else loc x))=s1 at *
    generalize hl1:(fun x=>if x=v then s.next else loc x)=loc1 at *
    have hP:(v,[])∈A++[(v,([]:List (Int×Int)))]:=sS
    have hH:=hM1.out
    have hg:=aBg (A++[(v,[])]) loc1 v
    rw[if_pos sS]at hg
    have hI:=(hM1.inn _ hP).1
    have hput:=aBa x y []
    have hM2:=hM1.put (x:=x) (y:=y) hP
    rw[hpa]at hM2
    simp only at hI
    generalize A++[(v,([]:List (Int×Int)))]=A1 at *
    generalize loc1 v=lv at *
    clear hM
    (refine w_s [] [st.next,lv] [(0,true),(1,true),(2,true),(3,true),(4,true),(5,true),(6,true),(7,true),(8,true),(9,true),(10,true),(11,true),(12,true),(13,true),(14,true),(15,false)] ?_;intro J hJ;simp[f3,f5,f19,f6,fi,fn,hlk,hdk,hdp,hdm,hpk,hml,hpk',hml',hr0,hrn,hw,hmod,hH,hg,hI];refine hJ _ _ (zZ ?_))
    rw[hput]
    (repeat' (refine w_e [] ?_;intro J hJ;simp only[];simp[];refine hJ _ _ (zZ ?_)))
    refine hJO2 _ _ (by simp[fi]) (by simp[fn]) ⟨⟨by simp[f3],by simp[f10],by simp[f12],by simp[f11]⟩,by simp[f5],by simp[f19],sS,loc1,?_⟩
    rw[hsn];exact hM2
  ·clear f3 f10 fi fn hM loc s fr
   rintro fr s ⟨⟨f3,f10,f12,f11⟩,f5,f19,f6,loc,hM⟩
   skip
   exact hJ0 loc _ _ (by simp[f3]) (by simp[f10]) (by simp[f12]) (by simp[f11]) hM
 ·rintro fr s ⟨f3,f10,loc,hM⟩
  rw[List.take_length]at hM
  (repeat' (first|refine qS ?_|(refine qR (zZ ?_);simp[f3])|(refine w_e [] ?_;intro J hJ;simp only[];simp[f3];refine hJ _ _ (zZ ?_))))
  exact⟨_,hM⟩
end Go.Proofs.YtempldclppogmaaGreatDoor.Aw
namespace Go.Proofs.YtempldclppogmaaGreatDoor.Rg
open Go Go.RowKit Go.Shelf
open Go.ChangeMaps (setBlock)
attribute [local go_sem] Oper.semAt_some
section
variable {F:Fence} {n:Nat} {P:Program} (w:World) {ops:Array Oper} {rest:List Oper} {o:Oper} {a:Act} {Q:Exit→Act→World→Prop}
theorem lM(hg:o.guard=none)(m:Operand)(t k e:TypeId)(hop:o.op=Op.range t m)(ht:P.underlying t=some (.map k e))(b:Nat)(ents:Array MapEntry)(clock:Nat)(hm:a.eval m=.map (some b))(hb:w.heap[b]?=some (.map ents clock))
 (hK:∀ w',w'=w.alloc (.mapIter (some b) clock #[] clock)→wpListIn F n P ops Q rest (a.put o.dst (.pointer (some ⟨w.heap.size,0,none⟩))) w'):wpListIn F n P ops Q (o::rest) a w:=by
 refine wpListIn_plain hg fun K' hK'=>?_
 have hrun:=run_range_map (P:=P) w t k e b ents clock ht hb
 unfold Oper.wpIn
 refine⟨?_,?_⟩
 ·simp[Oper.about,hop]
 ·rw[Oper.semAt_plain F _ _ (by rw[hop];intro c hc';cases hc')]
  simp[execOp,hop,hm,hrun,Result.andThen]
  exact hK' _ _ (hK _ rfl)
theorem mD(hg:o.guard=none)(it:Operand)(hop:o.op=Op.next it false)(r b clock c:Nat)(seen:Array Nat)(ents:Array MapEntry)(hit:a.eval it=.pointer (some ⟨r,0,none⟩))(hi:w.heap[r]?=some (.mapIter (some b) clock seen c))(hb:w.heap[b]?=some (.map ents clock))
 (hborn:∀ x∈ents.toList,x.born<clock) (hnd:(ents.toList.map (·.born)).Nodup) (hc:clock≤c)
 (hDone:(∀ x∈ents.toList,seen.contains x.born=true)→wpListIn F n P ops Q rest (a.put o.dst (.tuple #[.bool false])) w)
 (hMore:∀(e:MapEntry) (w1 w2:World),e∈ents.toList→seen.contains e.born=false→(w1=w∨w1=w.drew)→w2=setBlock w1 r (.mapIter (some b) clock (seen.push e.born) clock)→(Instr.entry (.pointer (some ⟨r,0,none⟩))).run P w2=.ok (.tuple #[e.key,e.val]) w2→wpListIn F n P ops Q rest (a.put o.dst (.tuple #[.bool true,e.key,e.val])) w2):
 wpListIn F n P ops Q (o::rest) a w:=by
 refine wpListIn_plain hg fun K' hK'=>?_
 unfold Oper.wpIn
 refine⟨by simp[Oper.about,hop],?_⟩
 rw[Oper.semAt_plain F _ _ (by rw[hop];intro c hc';cases hc')]
 rcases run_next_at (P:=P) w o.type r b clock c seen ents clock hi hb hborn hc with⟨h0,hrun⟩|⟨e,he',w1,hw1,hrun⟩
 ·simp[execOp,hop,hit,hrun,Result.andThen]
  exact hK' _ _ (hDone fun x hx=>all_seen ents seen h0 x hx)
 ·obtain⟨he1,he2⟩:=mem_left he'
  have lr:=(Array.getElem?_eq_some_iff.1 hi).1
  have hbr:b≠r:=by rintro rfl;rw[hb]at hi;cases hi
  have hh:w1.heap=w.heap:=by rcases hw1 with rfl|rfl<;>rfl
  have hE:=run_entry_at (P:=P) (setBlock w1 r (.mapIter (some b) clock (seen.push e.born) clock)) r b clock seen ents clock e
   (by simp only[setBlock];rw[Array.getElem?_setIfInBounds,if_pos rfl,if_pos (by rw[hh];exact lr)]) (by simp only[setBlock];rw[Array.getElem?_setIfInBounds,if_neg (fun e=>hbr e.symm),hh];exact hb) he1 hnd
  simp[execOp,hop,hit,hrun,Result.andThen]
  exact hK' _ _ (hMore e w1 _ he1 he2 hw1 rfl hE)
end
theorem aAk(w w1:World)(h:w1=w∨w1=w.drew)(r:Nat)(o:Obj):w.grownBy (setBlock w1 r o) (some r):=by
 have hh:w1.heap=w.heap:=by rcases h with rfl|rfl<;>rfl
 have hos:w1.os=w.os∧w1.tape=w.tape∧w1.output=w.output:=by rcases h with rfl|rfl<;>exact⟨rfl,rfl,rfl⟩
 refine⟨hos.1,hos.2.1,hos.2.2,by simp[setBlock,hh],fun b hb hne=>?_⟩
 simp only[setBlock]
 rw[Array.getElem?_setIfInBounds,if_neg (fun e=>hne (by rw[e])),hh]
def qP(vs:List Int)(ents:List MapEntry)(seen:Array Nat):List Int:=(Aw.lft (vs.map fun v=>([v],.dead)) ents seen).map fun e=>e.1.headD 0
theorem xV{vs:List Int}{ents:List MapEntry}(h:vs.length=ents.length):qP vs ents #[]=vs:=by
 unfold qP
 rw[Aw.rV (by simpa using h),List.map_map]
 exact(List.map_congr_left fun v _=>rfl).trans (List.map_id vs)
theorem aAD{vs:List Int}{ents:List MapEntry}{seen:Array Nat}{e:MapEntry}(h:vs.length=ents.length)(hkey:ents.map (·.key)=vs.map (Value.int .u32))(hn:(ents.map (·.born)).Nodup)(he:e∈ents)(hs:seen.contains e.born=false):
 ∃ x L1 L2,e.key=.int .u32 x∧qP vs ents seen=L1++x::L2∧qP vs ents (seen.push e.born)=L1++L2:=by
 obtain⟨p,L1,L2,h1,h2,h3⟩:=Aw.aDw (es:=vs.map fun v=>(([v],.dead):List Int×Aw.LV)) (by simpa using h) hn he hs
 have hz:∀ q∈(vs.map fun v=>(([v],.dead):List Int×Aw.LV)).zip ents,∃ x,q.1=([x],.dead)∧q.2.key=.int .u32 x:=by
  intro q hq
  obtain⟨j,hj,rfl⟩:=List.mem_iff_getElem.1 hq
  simp only[List.length_zip,List.length_map]at hj
  rw[List.getElem_zip,List.getElem_map]
  refine⟨vs[j],rfl,?_⟩
  have:=congrArg (fun l=>l[j]?) hkey
  simp only[List.getElem?_map,List.getElem?_eq_getElem (show j<ents.length by omega),List.getElem?_eq_getElem (show j<vs.length by omega),Option.map_some,Option.some.injEq]at this
  exact this
 obtain⟨x,hx,hk⟩:=hz _ h3
 simp only at hx hk
 subst hx
 exact⟨x,L1.map (fun e=>e.1.headD 0),L2.map (fun e=>e.1.headD 0),hk,by unfold qP;rw[h1];simp,by unfold qP;rw[h2];simp⟩
theorem aAA{vs:List Int}{ents:List MapEntry}{seen:Array Nat}(h:∀ x∈ents,seen.contains x.born=true):qP vs ents seen=[]:=by
 unfold qP;rw[Aw.aCe h];rfl
def rB(W:World)(b:Nat)(vs:List Int):Prop:=∃(ents:List MapEntry) (clock:Nat),W.heap[b]?=some (.map ents.toArray clock)∧ents.map (·.key)=vs.map (Value.int .u32)∧(∀ x∈ents,x.born<clock)∧(ents.map (·.born)).Nodup
theorem KeepsOthers.walks{W W':World}(h:KeepsOthers W W'):KeepsWalks W W':=⟨h.size,fun k o hk hw=>h.same k o hk (by cases o<;>first|rfl|cases hw)⟩
set_option maxRecDepth 100000 in
set_option maxHeartbeats 2000000 in
theorem aLI(F:Fence)(n:Nat)(h7:F.fn 80)(hro:F.round=none)(hn:1≤n)(l Bm b:Nat)(vs:List Int)(W:World)(J Jx:List Int→World→Prop)(hJ:AbidesFrom W.heap.size J)
 (hY:∀ pre x W1,J pre W1→pre.length<vs.length→YieldAt F (n-1) Tryz.prog l #[.int .u32 x] W1 fun e W'=>
   (e=.returned (.bool true)∧J (pre++[x]) W'∧KeepsWalks W1 W')∨(e=.returned (.bool false)∧Jx (pre++[x]) W'))
 (hm:W.cell? ⟨Bm,0,none⟩=some (.map (some b))) (hB:rB W b vs) (h0:J [] W):
 CallsIn F n Tryz.prog 80 #[.func (.yield l) #[] #[],.pointer (some ⟨Bm,0,none⟩)] W fun e W'=>(∃ v,e=.returned v)∧
  ((∃ ys:List Int,ys.Perm vs∧J ys W')∨(∃ pre,True∧Jx pre W')):=by
 obtain⟨ents,clock,hb,hkey,hborn,hnd⟩:=hB
 have hlen:vs.length=ents.length:=by have:=congrArg List.length hkey;simpa using this.symm
 have lb:=(Array.getElem?_eq_some_iff.1 hb).1
 refine callsIn_of_wp Tryz.func80 rfl h7 ?_ hro
 simp only[Tryz.ntmps80,List.size_toArray,List.length_cons,List.length_nil,Nat.reduceAdd,Nat.reduceSub,Array.replicate_succ,Array.replicate_zero,List.push_toArray,List.append_toArray,List.nil_append,List.cons_append]
 gi_wp2_with (first
  |(refine lM _ rfl _ 80 _ _ rfl Tryz.underlying80 b ents.toArray clock rfl hb ?_;intro w0 hw0)
  |gi_in)
 go_frame
 have hI0:w0.heap[W.heap.size]?=some (.mapIter (some b) clock #[] clock):=by rw[hw0];exact World.alloc_heap_new _ _
 have hb0:w0.heap[b]?=some (.map ents.toArray clock):=by rw[hw0];exact(Below.heap_alloc _ _ b lb).trans hb
 have hg0:W.grownBy w0 none:=by rw[hw0];exact World.grownBy_alloc W _ none
 have hJ0:J [] w0:=hJ [] W w0 none h0 hg0 (fun r e=>by cases e)
 clear hw0 hg0
 gi_loopw [3] (fun _ wr=>∃(seen:Array Nat) (c:Nat) (ss:List Int),clock≤c∧wr.heap[W.heap.size]?=some (.mapIter (some b) clock seen c)∧wr.heap[b]?=some (.map ents.toArray clock)∧(ss++qP vs ents seen).Perm vs∧J ss wr)
  (fun _ wr=>match wr.heap[W.heap.size]? with|some (.mapIter _ _ seen _)=>(qP vs ents seen).length|_=>0)
 case atStart=>exact⟨#[],clock,[],Nat.le_refl _,hI0,hb0,by rw[xV hlen];exact .refl _,hJ0⟩
 case round=>
  obtain⟨seen,c,ss,hcc,hit,hbm,hpm,hJs⟩:=hrel
  gi_wp2_with (first
   |(refine mD _ rfl _ rfl W.heap.size b clock c seen ents.toArray rfl hit hbm (fun x hx=>hborn x (by simpa using hx)) (by simpa using hnd) hcc ?_ ?_)
   |gi_in)
  ·intro hall
   have hnil:qP vs ents seen=[]:=aAA fun x hx=>by simpa using hall x (by simpa using hx)
   rw[hnil,List.append_nil]at hpm
   gi_wp2
   go_end0
   exact⟨⟨_,rfl⟩,.inl ⟨ss,hpm,hJs⟩⟩
  ·intro e w1 w2 he hs hw1 hw2 hen
   obtain⟨x,L1,L2,hx,hL1,hL2⟩:=aAD (seen:=seen) hlen hkey hnd (by simpa using he) (by simpa using hs)
   have hg2:wr.grownBy w2 (some W.heap.size):=by rw[hw2];exact aAk wr w1 hw1 _ _
   have hJ2:J ss w2:=hJ ss wr w2 (some W.heap.size) hJs hg2 (fun r e=>by cases e;exact⟨Nat.le_refl _,_,hit,rfl⟩)
   have hh:w1.heap=wr.heap:=by rcases hw1 with rfl|rfl<;>rfl
   have hne:b≠W.heap.size:=oO
   have hit2:w2.heap[W.heap.size]?=some (.mapIter (some b) clock (seen.push e.born) clock):=by
    rw[hw2];simp only[setBlock];rw[Array.getElem?_setIfInBounds,if_pos rfl,if_pos (by rw[hh];exact(Array.getElem?_eq_some_iff.1 hit).1)]
   have hbm2:w2.heap[b]?=some (.map ents.toArray clock):=by
    rw[hw2];simp only[setBlock];rw[Array.getElem?_setIfInBounds,if_neg (fun e=>hne e.symm),hh];exact hbm
   have hlt:ss.length<vs.length:=by have:=hpm.length_eq;rw[hL1]at this;simp at this;omega
   obtain⟨fn,tmps,assign,body,hy,hR⟩:=hY ss x w2 hJ2 hlt
   rw[hx]at hen ⊢
   clear hw2 hg2
   gi_wp2
   refine hR.mono ?_
   rintro e3 W3 (⟨rfl,hJ3,hk3⟩|⟨rfl,hJx3⟩)
   ·gi_wp2
    have hit3:=hk3.same _ _ hit2 rfl
    have hbm3:=hk3.same _ _ hbm2 rfl
    go_roundw
    case rel=>exact⟨seen.push e.born,clock,ss++[x],Nat.le_refl _,hit3,hbm3,by
     rw[hL2]
     rw[hL1]at hpm
     refine List.Perm.trans ?_ hpm
     rw[List.append_assoc]
     refine List.Perm.append_left _ ?_
     rw[List.singleton_append]
     exact List.perm_middle.symm,hJ3⟩
    case measure=>
     rw[hit3,hit]
     simp only[hL1,hL2,List.length_append,List.length_cons]
     omega
   ·gi_wp2
    refine bodyPost_ret (results_none rfl _ _ _) rfl ?_
    exact⟨⟨_,rfl⟩,.inr ⟨_,trivial,hJx3⟩⟩
theorem aCb(F:Fence)(n:Nat)(h7:F.fn 80)(hro:F.round=none)(hn:1≤n)(Bm b:Nat)(vs:List Int)(w:World)(hBm:Bm<w.heap.size)(hm:w.cell? ⟨Bm,0,none⟩=some (.map (some b)))(hB:rB w b vs):
 SeqStopsK F n Tryz.prog 80 #[.pointer (some ⟨Bm,0,none⟩)] (fun x:Int=>#[Value.int .u32 x]) KeepsWalks (fun ys=>ys.Perm vs) (fun _=>True) vs.length w:=fun l J Jx W hW hJ _ hY h0=>by
 have hc':=(hW.cell (p:=⟨Bm,0,none⟩) hBm).trans hm
 have hB':rB W b vs:=by
  obtain⟨ents,clock,hb,h⟩:=hB
  exact⟨ents,clock,(hW.block b (Array.getElem?_eq_some_iff.1 hb).1).trans hb,h⟩
 exact aLI F n h7 hro hn l Bm b vs W J Jx hJ hY hc' hB' h0
set_option maxRecDepth 100000 in
set_option maxHeartbeats 2000000 in
theorem aBn(F:Fence)(n:Nat)(h3:F.fn 121)(h7:F.fn 80)(hro:F.round=none)(hn:3≤n)(Bm b:Nat)(vs:List Int)(hlen:vs.length≤1048576)(w:World)(hBm:Bm<w.heap.size)
 (hm:w.cell? ⟨Bm,0,none⟩=some (.map (some b))) (hB:rB w b vs):
 CallsIn F n Tryz.prog 121 #[.slice none 0 0,.func (.func 80) #[] #[.pointer (some ⟨Bm,0,none⟩)]] w fun e W'=>∃ v ys,e=.returned v∧List.Perm ys vs∧W'.ownsRow w.heap.size 34 1 v ys.length (ys.map (Value.int .u32))∧Below w.heap.size w W':=by
 have h1:1≤n:=oO
 obtain⟨i0,hi,hz0,hz1,hz2⟩:=info_parts aJV
 refine callsIn_of_wp_marks Tryz.func121 rfl h3 ?_ hro
 simp only[Tryz.ntmps121,List.size_toArray,List.length_cons,List.length_nil,Nat.reduceAdd,Nat.reduceSub,Array.replicate_succ,Array.replicate_zero,List.push_toArray,List.append_toArray,List.nil_append,List.cons_append]
 gi_wp2
 have bO:=Boxed.new w 22 (.slice none 0 0)
 have hB0:Below w.heap.size w (w.alloc (.cells #[.slice none 0 0] 22)):=(Below.refl _ w).alloc (Nat.le_refl _) _
 have hB':rB (w.alloc (.cells #[.slice none 0 0] 22)) b vs:=by
  obtain⟨ents,clock,hb,h⟩:=hB
  exact⟨ents,clock,(hB0.block b (Array.getElem?_eq_some_iff.1 hb).1).trans hb,h⟩
 refine wpIn_rangeFunc_ownG hro h1 (gf:=80) (lb:=#[.pointer (some ⟨Bm,0,none⟩)]) rfl h7 (enters_of Tryz.func80 (by kernel_rfl) rfl)
  (aCb F (n-1) h7 hro oO Bm b vs _ (by simp;omega) ((hB0.cell (p:=⟨Bm,0,none⟩) hBm).trans hm) hB') walksK_t walksK_b (Below.refl _ _) (fun _=>rfl)
  (fun pre W=>(∃ v,Boxed W w.heap.size 22 v∧W.ownsRow w.heap.size 34 1 v pre.length (pre.map (Value.int .u32))∧True)∧Below w.heap.size w W)
  (fun _ _ _=>False)
  (OwnFrom.and (Own.from (holdsRow_own w.heap.size w.heap.size 22 34 1 (fun pre:List Int=>pre.length) (fun pre:List Int=>pre.map (Value.int .u32)) (fun _ _=>True)) _) (ownFrom_below (Nat.le_refl _) sS))
  (fun _ _ _ _ _ hs _ _=>hs)
  ⟨⟨_,bO,World.ownsRow_nil _ _ _ _,trivial⟩,hB0⟩
  (fun x=>{ tmps:=#[.slice none 0 0,.func (.func 80) #[] #[.pointer (some ⟨Bm,0,none⟩)],.pointer (some ⟨w.heap.size,0,none⟩),undef,.slice none 0 0,.int .u32 x,.func (.func 80) #[] #[.pointer (some ⟨Bm,0,none⟩)],.int .u32 x,undef,undef,undef,undef,undef],defers:=[] }) ?assign ?body ?done ?stop
 case assign=>
  intro l x W K hK
  gi_wp2
  exact hK
 case body=>
  rintro l pre x W ⟨⟨v,hv,hrow,_⟩,hB⟩ hlt
  have hc:=hv.cell
  gi_wp2_with (gi_at_builtin;refine wpListIn_append_own _ rfl _ _ 22 rfl w.heap.size 34 i0 (.int .u32 0) 1 4 Tryz.underlying22 hi hz0 hz1 hz2 rfl (by decide) _ _ _ rfl (hrow.alloc _) ⟨W.heap.size,0,none⟩ 1 1 [.int .u32 x] rfl rfl (cell_one_new _ _ _) (by simp[Value.oneCell']) (by simp only[maxLen];omega) oO (by have:=hB.size;simp;omega) ?_;intro v' w1 hown' hgrow _;obtain⟨g',cap',rfl⟩:=ownsRow_succ hown';obtain⟨hv1,hv2,hr2,hk2,hb2⟩:=hv.appended (by decide) hrow hB.size (Nat.le_refl _) hown' hgrow;have hc1:=hv1.cell;have hf1:=hv1.frozen)
  exact⟨hk2.from _,KeepsOthers.walks hk2,⟨_,hv2,by simpa using hr2,trivial⟩,hB.trans hb2⟩
 case done=>
  rintro D ys W hD hys ⟨⟨v,hv,hrow,_⟩,hB⟩ hK
  have hc:=hv.cell
  gi_wp2
  refine⟨sS,.inl ⟨_,_,rfl,run_takeDeferred hK,?_⟩⟩
  exact⟨_,results_tmp rfl _ _ _,v,ys,rfl,hys,ownsRow_putObj hrow _ hK rfl,hB.trans (belowK_b (w:=w) (Nat.le_refl _) W D _ _ (by simp at hD;omega) hK rfl rfl)⟩
 case stop=>
  rintro D c pre W _ _ h _
  exact h.elim
set_option maxRecDepth 100000 in
set_option maxHeartbeats 1000000 in
theorem yT(F:Fence)(n:Nat)(h2:F.fn 78)(h3:F.fn 121)(h7:F.fn 80)(hro:F.round=none)(hn:4≤n)(Bm b:Nat)(vs:List Int)(hlen:vs.length≤1048576)(w:World)(hBm:Bm<w.heap.size)
 (hm:w.cell? ⟨Bm,0,none⟩=some (.map (some b))) (hB:rB w b vs):
 CallsIn F n Tryz.prog 78 #[.func (.func 80) #[] #[.pointer (some ⟨Bm,0,none⟩)]] w fun e W'=>∃ v ys,e=.returned v∧List.Perm ys vs∧W'.ownsRow w.heap.size 34 1 v ys.length (ys.map (Value.int .u32))∧Below w.heap.size w W':=by
 have h1:1≤n:=oO
 refine callsIn_of_wp Tryz.func78 rfl h2 ?_ hro
 simp only[Tryz.ntmps78,List.size_toArray,List.length_cons,List.length_nil,Nat.reduceAdd,Nat.reduceSub,Array.replicate_succ,Array.replicate_zero,List.push_toArray,List.append_toArray,List.nil_append,List.cons_append]
 gi_wp2_with (gi_at_call 121;refine(aBn F (n-1) h3 h7 hro oO Bm b vs hlen _ hBm hm hB).mono ?_;rintro e w' ⟨v,ys,rfl,hys,hrow,hbel⟩)
 go_ret
 exact⟨v,ys,rfl,hys,hrow,hbel⟩
set_option maxRecDepth 100000 in
set_option maxHeartbeats 2000000 in
theorem aLb(F:Fence)(n:Nat)(h7:F.fn 123)(hro:F.round=none)(hn:1≤n)(l Bm b:Nat)(vs:List Int)(W:World)(J Jx:List Int→World→Prop)(hJ:AbidesFrom W.heap.size J)
 (hY:∀ pre x W1,J pre W1→pre.length<vs.length→YieldAt F (n-1) Tryz.prog l #[.int .u32 x] W1 fun e W'=>
   (e=.returned (.bool true)∧J (pre++[x]) W'∧KeepsWalks W1 W')∨(e=.returned (.bool false)∧Jx (pre++[x]) W'))
 (hm:W.cell? ⟨Bm,0,none⟩=some (.map (some b))) (hB:rB W b vs) (h0:J [] W):
 CallsIn F n Tryz.prog 123 #[.func (.yield l) #[] #[],.pointer (some ⟨Bm,0,none⟩)] W fun e W'=>(∃ v,e=.returned v)∧
  ((∃ ys:List Int,ys.Perm vs∧J ys W')∨(∃ pre,True∧Jx pre W')):=by
 obtain⟨ents,clock,hb,hkey,hborn,hnd⟩:=hB
 have hlen:vs.length=ents.length:=by have:=congrArg List.length hkey;simpa using this.symm
 have lb:=(Array.getElem?_eq_some_iff.1 hb).1
 refine callsIn_of_wp Tryz.func123 rfl h7 ?_ hro
 simp only[Tryz.ntmps123,List.size_toArray,List.length_cons,List.length_nil,Nat.reduceAdd,Nat.reduceSub,Array.replicate_succ,Array.replicate_zero,List.push_toArray,List.append_toArray,List.nil_append,List.cons_append]
 gi_wp2_with (first
  |(refine lM _ rfl _ 60 _ _ rfl Tryz.underlying60 b ents.toArray clock rfl hb ?_;intro w0 hw0)
  |gi_in)
 go_frame
 have hI0:w0.heap[W.heap.size]?=some (.mapIter (some b) clock #[] clock):=by rw[hw0];exact World.alloc_heap_new _ _
 have hb0:w0.heap[b]?=some (.map ents.toArray clock):=by rw[hw0];exact(Below.heap_alloc _ _ b lb).trans hb
 have hg0:W.grownBy w0 none:=by rw[hw0];exact World.grownBy_alloc W _ none
 have hJ0:J [] w0:=hJ [] W w0 none h0 hg0 (fun r e=>by cases e)
 clear hw0 hg0
 gi_loopw [3] (fun _ wr=>∃(seen:Array Nat) (c:Nat) (ss:List Int),clock≤c∧wr.heap[W.heap.size]?=some (.mapIter (some b) clock seen c)∧wr.heap[b]?=some (.map ents.toArray clock)∧(ss++qP vs ents seen).Perm vs∧J ss wr)
  (fun _ wr=>match wr.heap[W.heap.size]? with|some (.mapIter _ _ seen _)=>(qP vs ents seen).length|_=>0)
 case atStart=>exact⟨#[],clock,[],Nat.le_refl _,hI0,hb0,by rw[xV hlen];exact .refl _,hJ0⟩
 case round=>
  obtain⟨seen,c,ss,hcc,hit,hbm,hpm,hJs⟩:=hrel
  gi_wp2_with (first
   |(refine mD _ rfl _ rfl W.heap.size b clock c seen ents.toArray rfl hit hbm (fun x hx=>hborn x (by simpa using hx)) (by simpa using hnd) hcc ?_ ?_)
   |gi_in)
  ·intro hall
   have hnil:qP vs ents seen=[]:=aAA fun x hx=>by simpa using hall x (by simpa using hx)
   rw[hnil,List.append_nil]at hpm
   gi_wp2
   go_end0
   exact⟨⟨_,rfl⟩,.inl ⟨ss,hpm,hJs⟩⟩
  ·intro e w1 w2 he hs hw1 hw2 hen
   obtain⟨x,L1,L2,hx,hL1,hL2⟩:=aAD (seen:=seen) hlen hkey hnd (by simpa using he) (by simpa using hs)
   have hg2:wr.grownBy w2 (some W.heap.size):=by rw[hw2];exact aAk wr w1 hw1 _ _
   have hJ2:J ss w2:=hJ ss wr w2 (some W.heap.size) hJs hg2 (fun r e=>by cases e;exact⟨Nat.le_refl _,_,hit,rfl⟩)
   have hh:w1.heap=wr.heap:=by rcases hw1 with rfl|rfl<;>rfl
   have hne:b≠W.heap.size:=oO
   have hit2:w2.heap[W.heap.size]?=some (.mapIter (some b) clock (seen.push e.born) clock):=by
    rw[hw2];simp only[setBlock];rw[Array.getElem?_setIfInBounds,if_pos rfl,if_pos (by rw[hh];exact(Array.getElem?_eq_some_iff.1 hit).1)]
   have hbm2:w2.heap[b]?=some (.map ents.toArray clock):=by
    rw[hw2];simp only[setBlock];rw[Array.getElem?_setIfInBounds,if_neg (fun e=>hne e.symm),hh];exact hbm
   have hlt:ss.length<vs.length:=by have:=hpm.length_eq;rw[hL1]at this;simp at this;omega
   obtain⟨fn,tmps,assign,body,hy,hR⟩:=hY ss x w2 hJ2 hlt
   rw[hx]at hen ⊢
   clear hw2 hg2
   gi_wp2
   refine hR.mono ?_
   rintro e3 W3 (⟨rfl,hJ3,hk3⟩|⟨rfl,hJx3⟩)
   ·gi_wp2
    have hit3:=hk3.same _ _ hit2 rfl
    have hbm3:=hk3.same _ _ hbm2 rfl
    go_roundw
    case rel=>exact⟨seen.push e.born,clock,ss++[x],Nat.le_refl _,hit3,hbm3,by
     rw[hL2]
     rw[hL1]at hpm
     refine List.Perm.trans ?_ hpm
     rw[List.append_assoc]
     refine List.Perm.append_left _ ?_
     rw[List.singleton_append]
     exact List.perm_middle.symm,hJ3⟩
    case measure=>
     rw[hit3,hit]
     simp only[hL1,hL2,List.length_append,List.length_cons]
     omega
   ·gi_wp2
    refine bodyPost_ret (results_none rfl _ _ _) rfl ?_
    exact⟨⟨_,rfl⟩,.inr ⟨_,trivial,hJx3⟩⟩
theorem aDy(F:Fence)(n:Nat)(h7:F.fn 123)(hro:F.round=none)(hn:1≤n)(Bm b:Nat)(vs:List Int)(w:World)(hBm:Bm<w.heap.size)(hm:w.cell? ⟨Bm,0,none⟩=some (.map (some b)))(hB:rB w b vs):
 SeqStopsK F n Tryz.prog 123 #[.pointer (some ⟨Bm,0,none⟩)] (fun x:Int=>#[Value.int .u32 x]) KeepsWalks (fun ys=>ys.Perm vs) (fun _=>True) vs.length w:=fun l J Jx W hW hJ _ hY h0=>by
 have hc':=(hW.cell (p:=⟨Bm,0,none⟩) hBm).trans hm
 have hB':rB W b vs:=by
  obtain⟨ents,clock,hb,h⟩:=hB
  exact⟨ents,clock,(hW.block b (Array.getElem?_eq_some_iff.1 hb).1).trans hb,h⟩
 exact aLb F n h7 hro hn l Bm b vs W J Jx hJ hY hc' hB' h0
set_option maxRecDepth 100000 in
set_option maxHeartbeats 2000000 in
theorem aAI(F:Fence)(n:Nat)(h3:F.fn 121)(h7:F.fn 123)(hro:F.round=none)(hn:3≤n)(Bm b:Nat)(vs:List Int)(hlen:vs.length≤1048576)(w:World)(hBm:Bm<w.heap.size)
 (hm:w.cell? ⟨Bm,0,none⟩=some (.map (some b))) (hB:rB w b vs):
 CallsIn F n Tryz.prog 121 #[.slice none 0 0,.func (.func 123) #[] #[.pointer (some ⟨Bm,0,none⟩)]] w fun e W'=>∃ v ys,e=.returned v∧List.Perm ys vs∧W'.ownsRow w.heap.size 34 1 v ys.length (ys.map (Value.int .u32))∧Below w.heap.size w W':=by
 have h1:1≤n:=oO
 obtain⟨i0,hi,hz0,hz1,hz2⟩:=info_parts aJV
 refine callsIn_of_wp_marks Tryz.func121 rfl h3 ?_ hro
 simp only[Tryz.ntmps121,List.size_toArray,List.length_cons,List.length_nil,Nat.reduceAdd,Nat.reduceSub,Array.replicate_succ,Array.replicate_zero,List.push_toArray,List.append_toArray,List.nil_append,List.cons_append]
 gi_wp2
 have bO:=Boxed.new w 22 (.slice none 0 0)
 have hB0:Below w.heap.size w (w.alloc (.cells #[.slice none 0 0] 22)):=(Below.refl _ w).alloc (Nat.le_refl _) _
 have hB':rB (w.alloc (.cells #[.slice none 0 0] 22)) b vs:=by
  obtain⟨ents,clock,hb,h⟩:=hB
  exact⟨ents,clock,(hB0.block b (Array.getElem?_eq_some_iff.1 hb).1).trans hb,h⟩
 refine wpIn_rangeFunc_ownG hro h1 (gf:=123) (lb:=#[.pointer (some ⟨Bm,0,none⟩)]) rfl h7 (enters_of Tryz.func123 (by kernel_rfl) rfl)
  (aDy F (n-1) h7 hro oO Bm b vs _ (by simp;omega) ((hB0.cell (p:=⟨Bm,0,none⟩) hBm).trans hm) hB') walksK_t walksK_b (Below.refl _ _) (fun _=>rfl)
  (fun pre W=>(∃ v,Boxed W w.heap.size 22 v∧W.ownsRow w.heap.size 34 1 v pre.length (pre.map (Value.int .u32))∧True)∧Below w.heap.size w W)
  (fun _ _ _=>False)
  (OwnFrom.and (Own.from (holdsRow_own w.heap.size w.heap.size 22 34 1 (fun pre:List Int=>pre.length) (fun pre:List Int=>pre.map (Value.int .u32)) (fun _ _=>True)) _) (ownFrom_below (Nat.le_refl _) sS))
  (fun _ _ _ _ _ hs _ _=>hs)
  ⟨⟨_,bO,World.ownsRow_nil _ _ _ _,trivial⟩,hB0⟩
  (fun x=>{ tmps:=#[.slice none 0 0,.func (.func 123) #[] #[.pointer (some ⟨Bm,0,none⟩)],.pointer (some ⟨w.heap.size,0,none⟩),undef,.slice none 0 0,.int .u32 x,.func (.func 123) #[] #[.pointer (some ⟨Bm,0,none⟩)],.int .u32 x,undef,undef,undef,undef,undef],defers:=[] }) ?assign ?body ?done ?stop
 case assign=>
  intro l x W K hK
  gi_wp2
  exact hK
 case body=>
  rintro l pre x W ⟨⟨v,hv,hrow,_⟩,hB⟩ hlt
  have hc:=hv.cell
  gi_wp2_with (gi_at_builtin;refine wpListIn_append_own _ rfl _ _ 22 rfl w.heap.size 34 i0 (.int .u32 0) 1 4 Tryz.underlying22 hi hz0 hz1 hz2 rfl (by decide) _ _ _ rfl (hrow.alloc _) ⟨W.heap.size,0,none⟩ 1 1 [.int .u32 x] rfl rfl (cell_one_new _ _ _) (by simp[Value.oneCell']) (by simp only[maxLen];omega) oO (by have:=hB.size;simp;omega) ?_;intro v' w1 hown' hgrow _;obtain⟨g',cap',rfl⟩:=ownsRow_succ hown';obtain⟨hv1,hv2,hr2,hk2,hb2⟩:=hv.appended (by decide) hrow hB.size (Nat.le_refl _) hown' hgrow;have hc1:=hv1.cell;have hf1:=hv1.frozen)
  exact⟨hk2.from _,KeepsOthers.walks hk2,⟨_,hv2,by simpa using hr2,trivial⟩,hB.trans hb2⟩
 case done=>
  rintro D ys W hD hys ⟨⟨v,hv,hrow,_⟩,hB⟩ hK
  have hc:=hv.cell
  gi_wp2
  refine⟨sS,.inl ⟨_,_,rfl,run_takeDeferred hK,?_⟩⟩
  exact⟨_,results_tmp rfl _ _ _,v,ys,rfl,hys,ownsRow_putObj hrow _ hK rfl,hB.trans (belowK_b (w:=w) (Nat.le_refl _) W D _ _ (by simp at hD;omega) hK rfl rfl)⟩
 case stop=>
  rintro D c pre W _ _ h _
  exact h.elim
set_option maxRecDepth 100000 in
set_option maxHeartbeats 1000000 in
theorem yS(F:Fence)(n:Nat)(h2:F.fn 78)(h3:F.fn 121)(h7:F.fn 123)(hro:F.round=none)(hn:4≤n)(Bm b:Nat)(vs:List Int)(hlen:vs.length≤1048576)(w:World)(hBm:Bm<w.heap.size)
 (hm:w.cell? ⟨Bm,0,none⟩=some (.map (some b))) (hB:rB w b vs):
 CallsIn F n Tryz.prog 78 #[.func (.func 123) #[] #[.pointer (some ⟨Bm,0,none⟩)]] w fun e W'=>∃ v ys,e=.returned v∧List.Perm ys vs∧W'.ownsRow w.heap.size 34 1 v ys.length (ys.map (Value.int .u32))∧Below w.heap.size w W':=by
 have h1:1≤n:=oO
 refine callsIn_of_wp Tryz.func78 rfl h2 ?_ hro
 simp only[Tryz.ntmps78,List.size_toArray,List.length_cons,List.length_nil,Nat.reduceAdd,Nat.reduceSub,Array.replicate_succ,Array.replicate_zero,List.push_toArray,List.append_toArray,List.nil_append,List.cons_append]
 gi_wp2_with (gi_at_call 121;refine(aAI F (n-1) h3 h7 hro oO Bm b vs hlen _ hBm hm hB).mono ?_;rintro e w' ⟨v,ys,rfl,hys,hrow,hbel⟩)
 go_ret
 exact⟨v,ys,rfl,hys,hrow,hbel⟩
end Go.Proofs.YtempldclppogmaaGreatDoor.Rg
namespace Go.Proofs.YtempldclppogmaaGreatDoor.Aw
open Go Go.RowKit
def pK(es:List (List Int×LV)):List Int:=es.map fun e=>e.1.headD 0
theorem aFz{w:World}{g:G}{st:St}(hi:Inv w g st){m:Nat}{es:List (List Int×LV)}(hm:st.H m=.map false [.u32] es):Rg.rB w (g.β m) (pK es):=by
 obtain⟨_,hlen,ents,clock,h3,h4,_,_,h7,h8⟩:=hi.mp m _ _ _ hm
 refine⟨ents,clock,h3,?_,h7,h8⟩
 rw[h4]
 unfold pK
 rw[List.map_map]
 refine List.map_congr_left fun p hp=>?_
 have:=hlen p hp
 match h:p.1,this with
 |[x],_=>simp[mkV,mkC,h]
theorem aEO(m q:Nat)(es:List (List Int×LV))(st:St)(hl:es.length≤1048576)(hH:st.H q=.box 80 1 [.mp m])(hm:st.H m=.map false [.u32] es):
 aB Tryz.prog 78 [.fn (.func 80) [.pt q 0]] st fun r st'=>∃ ys:List Int,ys.Perm (pK es)∧r=.ms st.next 0 ys.length∧st'=st.new (.box 34 1 (us ys)):=by
 refine⟨enters_of Tryz.func78 (by kernel_rfl) rfl,fun w g vs hi hr=>?_⟩
 simp only[aG,Rep]at hr
 obtain⟨v,_,rfl,⟨us1,rfl,v1,_,rfl,⟨rfl,hq⟩,rfl⟩,rfl⟩:=hr
 obtain⟨_,b2,b3⟩:=hi.box q _ _ _ hH
 have hnl:g.nl q=false:=by
  cases hn:g.nl q with
  |false=>rfl
  |true=>obtain⟨_,h⟩:=b2 hn;cases h
 obtain⟨cur,k1,k2,k3,k4,k5⟩:=b3 hnl
 simp only[List.length_cons,List.length_nil,Nat.zero_add,aG]at k4 k3
 obtain⟨sv,rest,hsv,hrep,_⟩:=k4
 simp only[Rep]at hrep
 have hc0:w.cell? ⟨g.β q,0,none⟩=some (.map (some (g.β m))):=by
  rw[cell_of_row w _ _ _ _ _ k1,← hrep.1]
  cases cur with
  |nil=>simp at k3
  |cons a cur=>simp at hsv;simp[hsv.1]
 refine(((Rg.yT Fence.wide 4 trivial trivial trivial rfl (Nat.le_refl _) (g.β q) (g.β m) (pK es) (by simpa[pK]using hl) w (nC hc0) hc0 (aFz hi hm)).calls room_wide)).mono ?_
 rintro e w' ⟨v,ys,rfl,hys,hrow,hbel⟩
 have hlen:ys.length=(ys.map (Value.int .u32)).length:=sS
 rw[hlen]at hrow
 obtain⟨g',h1,h2,h3⟩:=rG (cs:=us ys) hi hbel hrow (fun w g=>uK w g ys)
 rw[← hlen]at h1
 exact⟨v,_,_,g',rfl,⟨ys,hys,rfl,rfl⟩,h1,h2,h3⟩
theorem aEF(m q:Nat)(es:List (List Int×LV))(st:St)(hl:es.length≤1048576)(hH:st.H q=.box 60 1 [.mp m])(hm:st.H m=.map false [.u32] es):
 aB Tryz.prog 78 [.fn (.func 123) [.pt q 0]] st fun r st'=>∃ ys:List Int,ys.Perm (pK es)∧r=.ms st.next 0 ys.length∧st'=st.new (.box 34 1 (us ys)):=by
 refine⟨enters_of Tryz.func78 (by kernel_rfl) rfl,fun w g vs hi hr=>?_⟩
 simp only[aG,Rep]at hr
 obtain⟨v,_,rfl,⟨us1,rfl,v1,_,rfl,⟨rfl,hq⟩,rfl⟩,rfl⟩:=hr
 obtain⟨_,b2,b3⟩:=hi.box q _ _ _ hH
 have hnl:g.nl q=false:=by
  cases hn:g.nl q with
  |false=>rfl
  |true=>obtain⟨_,h⟩:=b2 hn;cases h
 obtain⟨cur,k1,k2,k3,k4,k5⟩:=b3 hnl
 simp only[List.length_cons,List.length_nil,Nat.zero_add,aG]at k4 k3
 obtain⟨sv,rest,hsv,hrep,_⟩:=k4
 simp only[Rep]at hrep
 have hc0:w.cell? ⟨g.β q,0,none⟩=some (.map (some (g.β m))):=by
  rw[cell_of_row w _ _ _ _ _ k1,← hrep.1]
  cases cur with
  |nil=>simp at k3
  |cons a cur=>simp at hsv;simp[hsv.1]
 refine(((Rg.yS Fence.wide 4 trivial trivial trivial rfl (Nat.le_refl _) (g.β q) (g.β m) (pK es) (by simpa[pK]using hl) w (nC hc0) hc0 (aFz hi hm)).calls room_wide)).mono ?_
 rintro e w' ⟨v,ys,rfl,hys,hrow,hbel⟩
 have hlen:ys.length=(ys.map (Value.int .u32)).length:=sS
 rw[hlen]at hrow
 obtain⟨g',h1,h2,h3⟩:=rG (cs:=us ys) hi hbel hrow (fun w g=>uK w g ys)
 rw[← hlen]at h1
 exact⟨v,_,_,g',rfl,⟨ys,hys,rfl,rfl⟩,h1,h2,h3⟩
end Go.Proofs.YtempldclppogmaaGreatDoor.Aw
namespace Go.Proofs.YtempldclppogmaaGreatDoor.Aw
open Go Go.RowKit Go.Proofs.YtempldclppogmaaGreatDoor.Pl Go.Proofs.YtempldclppogmaaGreatDoor.Eu
def aEl(m:Mp)(es:List (List Int×LV))(S:List Int):Prop:=∀ d,aY es [d]=if d∈S then some (u (sg m d))else none
theorem aEl.step{m:Mp}{es:List (List Int×LV)}{S:List Int}(h:aEl m es S){d x:Int}(hx:x=sg m d):aEl m (aV es [d] (u x)) (S++[d]):=by
 intro e
 rw[dA]
 by_cases he:e=d
 ·subst he;rw[if_pos rfl,if_pos sS,hx]
 ·rw[if_neg (by simpa using he),h e]
  simp[he]
theorem aHj(rs:List (List Int))(k:Nat)(hk:k<rs.length):(rs.take (k+1)).flatten=(rs.take k).flatten++rs.getD k []:=by
 rw[List.take_succ_eq_append_getElem hk,List.flatten_append,cI _ _ hk];simp
def aRM(m:Mp)(st:St)(r:LV)(st':St):Prop:=∃ q es,r=.mp q∧st.next≤q∧q<st'.next∧st'.H q=.map false [.u32] es∧aA st st'∧aEl m es m.rots.flatten
theorem behind(m:Mp)(h:bY m)(st:St)(hv:m.g.vs.length≤1000)(he:m.g.es.length≤1000):
 aB Tryz.prog 142 [.ag (mpL m)] st (aRM m st):=by
 have hrl:=h.len
 refine qO aF Tryz.func142 rfl rfl Tryz.ntmps142 (rs:=[.tmp 2]) rfl sS ?_
 (repeat' (first|refine qS ?_|refine qB ?_|(refine w_e [] ?_;intro J hJ;simp only[];simp[];refine hJ _ _ (zZ ?_))))
 refine aM 12 11 13 34 (m.rots.length) (fun j fr st2=>fr 3=.mp (st.next+1)∧fr 10=.sl 0 m.rots.length (cS m.rots)∧aA st st2∧st.next+1<st2.next∧∃ es,st2.H (st.next+1)=.map false [.u32] es∧aEl m es (m.rots.take j).flatten) ?_ ?_ ?_
 ·exact⟨sS,sS,(aA.new _ _).trans (aA.new _ _),sS,[],sS,fun d=>rfl⟩
 ·rintro j0 fr st2 hlt ⟨f3,f10,hkp,hlt2,es,hM,hB⟩ fi fn JJ hJJ
  have hd:=eE m.rots j0 hlt
  have hRl:j0<(cS m.rots).length:=by simpa using hlt
  have hfl:=aHj m.rots j0 hlt
  have htin:m.rots.getD j0 []∈m.rots:=by rw[cI _ _ hlt];exact List.getElem_mem _
  have htl:=h.row_le htin
  have htn:=h.nodup htin
  have hsg:=fun d hd=>@zJ m h _ htin d hd
  generalize m.rots.getD j0 []=t at *
  (repeat' (first|refine qS ?_|refine qB ?_|(refine w_e [] ?_;intro J hJ;simp only[];simp[f10,fi,fn,hd,hRl];(repeat refine ca ?_);refine hJ _ _ (zZ ?_))))
  refine aM 18 17 19 33 (t.length) (fun j fr st2=>fr 3=.mp (st.next+1)∧fr 10=.sl 0 m.rots.length (cS m.rots)∧fr 5=.sl 0 t.length (us t)∧fr 16=.sl 0 t.length (us t)∧fr 12=i j0∧fr 11=i m.rots.length∧aA st st2∧st.next+1<st2.next∧∃ es,st2.H (st.next+1)=.map false [.u32] es∧aEl m es ((m.rots.take j0).flatten++t.take j)) ?_ ?_ ?_
  ·exact⟨by simp[f3],by simp[f10],sS,sS,by simp[fi],by simp[fn],hkp,hlt2,es,hM,by simpa using hB⟩
  ·clear f3 f10 fi fn hkp hlt2 hM hB es fr st2
   rintro k fr st2 hk ⟨f3,f10,f5,f16,f12,f11,hkp,hlt2,es,hM,hB⟩ fi fn J2 hJ2
   have hd1:=qG t k hk
   have hw:=qN k oO
   have htm:((k:Int)+1).tmod (t.length:Int)=(((k+1) % t.length:Nat):Int):=aCo (k+1) t.length _ rfl
   have hr:(k+1) % t.length<t.length:=Nat.mod_lt _ oO
   have hd2:=qG t _ hr
   have hx:t.getD ((k+1) % t.length) 0=sg m (t.getD k 0):=by
    rw[aI _ _ hr,aI _ _ hk,hsg _ (List.getElem_mem _),aBQ htn hk]
   have htk:t.take (k+1)=t.take k++[t.getD k 0]:=by rw[aI _ _ hk];exact List.take_succ_eq_append_getElem hk
   have hB2:=hB.step hx
   rw[List.append_assoc,← htk]at hB2
   have ht0:¬t.length=0:=oO
   generalize (k+1) % t.length=r at *
   generalize t.getD k 0=d at *
   generalize t.getD r 0=x at *
   (repeat' (first|refine qS ?_|(refine w_e [] ?_;intro J hJ;simp only[];simp[f3,f5,f16,fi,fn,hd1,hw,htm,hd2,hM,hk,hr,ht0];refine hJ _ _ (zZ ?_))))
   exact hJ2 _ _ (by simp[fi]) (by simp[fn]) ⟨by simp[f3],by simp[f10],by simp[f5],by simp[f16],by simp[f12],by simp[f11],hkp.set oO _,by simpa using hlt2,_,sS,hB2⟩
  ·clear f3 f10 fi fn hkp hlt2 hM hB es fr st2
   rintro fr st2 ⟨f3,f10,f5,f16,f12,f11,hkp,hlt2,es,hM,hB⟩
   rw[List.take_length,← hfl]at hB
   skip
   exact hJJ _ _ (by simp[f12]) (by simp[f11]) ⟨by simp[f3],by simp[f10],hkp,hlt2,es,hM,hB⟩
 ·rintro fr st2 ⟨f3,f10,hkp,hlt2,es,hM,hB⟩
  (repeat' (first|refine qS ?_|(refine qR (zZ ?_);simp[f3])|(refine w_e [] ?_;intro J hJ;simp only[];simp[f3];refine hJ _ _ (zZ ?_))))
  rw[List.take_length]at hB
  exact⟨_,es,rfl,oO,oO,hM,hkp,hB⟩
theorem tE:∀ {a b:List Int},a.Nodup→(∀ x∈a,x∈b)→b.length≤a.length→a.Perm b
 |[],b,_,_,hl=>by
  have:b=[]:=List.eq_nil_of_length_eq_zero (by simpa using hl)
  rw[this]
 |x::a,b,hn,hs,hl=>by
  rw[List.nodup_cons]at hn
  have hxb:x∈b:=hs x List.mem_cons_self
  have p1:b.Perm (x::b.erase x):=List.perm_cons_erase hxb
  refine List.Perm.trans (List.Perm.cons x (tE hn.2 (fun y hy=>?_) ?_)) p1.symm
  ·have hne:y≠x:=by rintro rfl;exact hn.1 hy
   exact(List.mem_erase_of_ne hne).2 (hs y (List.mem_cons_of_mem _ hy))
  ·have:=p1.length_eq
   simp only[List.length_cons]at this hl
   omega
theorem iJ.head{es:List Ed}(hi:es.Pairwise (fun x y=>x.id<y.id)){v:Int}{t:List Int}(h:iJ es v t):t.getD 0 0=(ends es v).getD 0 0:=by
 cases he:ends es v with
 |nil=>have:=h.1;rw[he]at this;rw[this.eq_nil]
 |cons a r=>
  have hr:=jT hi v
  rw[he,List.pairwise_cons]at hr
  have hp:=h.1
  rw[he]at hp
  have hne:t≠[]:=by rintro rfl;have:=hp.length_eq;simp at this
  obtain⟨z,hz⟩:=aBY t hne
  rw[h.2]at hz
  have hm:mn t=a:=by
   refine aFB (hp.mem_iff.2 List.mem_cons_self) fun x hx=>?_
   rcases List.mem_cons.1 (hp.mem_iff.1 hx)with rfl|h1
   ·exact Int.le_refl _
   ·have:=hr.1 x h1;omega
  rw[hz,hm];rfl
theorem iJ.of{es:List Ed}(hi:es.Pairwise (fun x y=>x.id<y.id)){v:Int}{t:List Int}(h0:t≠[]→t.getD 0 0=(ends es v).getD 0 0)(hp:t.Perm (ends es v)):iJ es v t:=by
 refine⟨hp,?_⟩
 cases t with
 |nil=>rfl
 |cons a r=>
  refine mW rfl (aFB List.mem_cons_self fun x hx=>?_)
  have h1:=h0 sS
  cases he:ends es v with
  |nil=>rw[he]at hp;have:=hp.length_eq;simp at this
  |cons b s=>
   have hr:=jT hi v
   rw[he]at h1 hp
   rw[he,List.pairwise_cons]at hr
   have h1:a=b:=by simpa using h1
   subst h1
   rcases List.mem_cons.1 (hp.mem_iff.1 hx)with rfl|h2
   ·exact Int.le_refl _
   ·have:=hr.1 x h2;omega
def rok(m:Mp)(k:Nat):Prop:=iJ m.g.es (m.g.vs.getD k 0) (m.rots.getD k [])
noncomputable def kK(m:Mp):Int:=if chk m.g≠0 then chk m.g else if m.rots.length≠m.g.vs.length then 22 else @ite _ (∀ k,k<m.g.vs.length→rok m k) (Classical.propDecidable _) 0 22
theorem aEg{m:Mp}(h:chk m.g≠0):kK m=chk m.g:=by unfold kK;rw[if_pos h]
theorem wK{m:Mp}(h:chk m.g=0)(h1:m.rots.length≠m.g.vs.length):kK m=22:=by unfold kK;rw[if_neg (fun e=>e h),if_pos h1]
theorem vP{m:Mp}(h:chk m.g=0){k:Nat}(hk:k<m.g.vs.length)(h1:¬rok m k):kK m=22:=by
 unfold kK
 rw[if_neg (fun e=>e h)]
 split
 ·rfl
 ·rw[if_neg (fun e=>h1 (e k hk))]
theorem aGf{m:Mp}(h:chk m.g=0)(h1:m.rots.length=m.g.vs.length)(h2:∀ k,k<m.g.vs.length→rok m k):kK m=0:=by
 unfold kK
 rw[if_neg (fun e=>e h),if_neg (fun e=>e h1),if_pos h2]
theorem aAy{m:Mp}(h:kK m=0):chk m.g=0∧bY m:=by
 by_cases h0:chk m.g=0
 ·refine⟨h0,?_⟩
  by_cases h1:m.rots.length=m.g.vs.length
  ·refine⟨eP h0,h1,fun k hk=>?_⟩
   refine Classical.byContradiction fun hn=>?_
   rw[vP h0 hk hn]at h;cases h
  ·rw[wK h0 h1]at h;cases h
 ·rw[aEg h0]at h;exact absurd h h0
theorem aIX(l:List Int)(t:Nat)(st:St):aB Tryz.prog 99 [.sl t l.length (us l)] st fun r st'=>r=.fn (.func 140) [.pt st.next 0]∧st'=st.new (.box 22 1 [.sl t l.length (us l)]):=by
 refine qO aF Tryz.func99 rfl rfl Tryz.ntmps99 (rs:=[.tmp 2]) rfl sS ?_
 (repeat' (first|refine qS ?_|(refine qR (zZ ?_);simp[])|(refine w_e [] ?_;intro J hJ;simp only[];simp[];refine hJ _ _ (zZ ?_))))
theorem aID(l:List Int)(t q:Nat)(st:St)(hl:l.length<65536)(hH:st.H q=.box 22 1 [.sl t l.length (us l)]):
 aB Tryz.prog 46 [.fn (.func 140) [.pt q 0]] st fun r st'=>∃ c,r=.sl 0 c.length (us c)∧c.Perm l∧c.Pairwise (·≤·)∧aA st st':=by
 refine bQ ?_
 refine qO aF Tryz.func46 rfl rfl Tryz.ntmps46 (rs:=[.tmp 2]) rfl sS ?_
 (repeat' (first|refine qS ?_|(refine w_e [] ?_;intro J hJ;simp only[];simp[];(try refine hJ _ _ (zZ ?_)))))
 refine qE (aGi l (.sl t l.length (us l)) q _ oO hH rfl) sS ?_;rintro r s1 ⟨rfl,rfl⟩
 (repeat' (first|refine qS ?_|((first|(refine w_e [] ?_;intro J hJ;simp only[])|(refine aE ?_));simp[];(try refine hJ _ _ (zZ ?_)))))
 refine qE (aGl l st.next _ hl sS sS) sS ?_;rintro r s2 ⟨c,hB,hp,hs,hoff⟩
 have hn2:=hoff.1
 simp only[aC]at hn2
 have hK:aA st s2:=⟨oO,fun l' hl'=>(hoff.2 l' oO (by simp;omega)).trans ((aA.new st _).H l' hl')⟩
 have hcl:=hp.length_eq
 (repeat' (first|refine qS ?_|(refine qR (zZ ?_);simp[])|((first|(refine w_e [] ?_;intro J hJ;simp only[])|(refine aE ?_));simp[];refine hJ _ _ (zZ ?_))))
 refine⟨st.next,l.length,⟨rfl,rfl⟩,_,_,_,hB,by simp;omega,c,?_,hp,hs,hK.set (Nat.le_refl _) _⟩
 rw[List.take_of_length_le (by simp;omega)]
 simp[hcl]
set_option maxHeartbeats 1000000 in
theorem aOU(m:Mp)(st:St)(hv:m.g.vs.length≤1000)(he:m.g.es.length≤1000)(hr:m.rots.length≤1000)(hs:∀ t∈m.rots,t.length≤1000):
 aB Tryz.prog 65 [.ag (mpL m)] st fun r st'=>r=i (kK m)∧aA st st':=by
 refine qO aF Tryz.func65 rfl rfl Tryz.ntmps65 (rs:=[.tmp 2]) rfl sS ?_
 (repeat' (first|refine qS ?_|(refine w_e [] ?_;intro J hJ;simp only[];simp[];(try refine hJ _ _ (zZ ?_)))))
 refine qE (Check m.g _ hv he) sS ?_;rintro r s1 ⟨rfl,hk1⟩
 have hn1:=hk1.next
 simp only[aC]at hn1
 have hG1:s1.H st.next=.box 39 3 (mpL m):=by rw[hk1.H _ sS];simp
 have hK1:aA st s1:=(aA.new _ _).trans hk1
 by_cases hc:chk m.g=0
 rotate_left
 ·have hrc:=aEg hc
  generalize chk m.g=x at *
  (repeat' (first|refine qS ?_|(refine qR (zZ ?_);simp[hc,hrc])|(refine qC ?_;simp[hc,hrc])|((first|(refine w_e [] ?_;intro J hJ;simp only[])|(refine aE ?_));simp[hc,hrc];refine hJ _ _ (zZ ?_))))
  exact hK1
 have hgd:=eP hc
 have hid:aDd m.g.es:=fun x hx=>by have:=hgd.pos x hx;omega
 by_cases hl:m.rots.length=m.g.vs.length
 rotate_left
 ·have hrc:=wK hc hl
  (repeat' (first|refine qS ?_|(refine qK (zZ ?_))|(refine qR (zZ ?_);simp[hc,hrc,hG1,hl])|(refine qC ?_;simp[hc,hrc,hG1,hl];(try with_reducible refine⟨?_,?_⟩)<;>(try with_reducible intro hc)<;>try (exfalso;omega))|((first|(refine w_e [] ?_;intro J hJ;simp only[])|(refine aE ?_));simp[hc,hrc,hG1,hl];refine hJ _ _ (zZ ?_))))
  exact hK1
 (repeat' (first|refine qS ?_|refine qB ?_|(refine qK (zZ ?_))|(refine qC ?_;simp[hc,hG1,hl])|((first|(refine w_e [] ?_;intro J hJ;simp only[])|(refine aE ?_));simp[hc,hG1,hl];refine hJ _ _ (zZ ?_))))
 refine aM 26 25 27 63 (m.g.vs.length) (fun j fr st2=>fr 1=.pt st.next 0∧fr 24=.sl 0 m.g.vs.length (us m.g.vs)∧st2.H st.next=.box 39 3 (mpL m)∧aA st st2∧st.next<st2.next∧∀ k,k<j→rok m k) ?_ ?_ ?_
 ·exact⟨sS,sS,hG1,hK1,oO,fun k hk=>by omega⟩
 ·rintro j fr st2 hlt ⟨f1,f24,hG,hkp,hsn,hok⟩ fi fn JJ hJJ
  have hd:=qG m.g.vs j hlt
  have hd2:=eE m.rots j oO
  have hRl:j<(cS m.rots).length:=by simp;omega
  have htin:m.rots.getD j []∈m.rots:=by rw[cI _ _ oO];exact List.getElem_mem _
  have htl:=hs _ htin
  have hbad:=fun h=>vP hc hlt h
  have hnx:rok m j→∀ k,k<j+1→rok m k:=fun h k hk=>by
   rcases Nat.lt_or_ge k j with h1|h1
   ·exact hok k h1
   ·obtain rfl:k=j:=oO
    exact h
  unfold rok at hbad hnx
  have hel:(ends m.g.es (m.g.vs.getD j 0)).length≤2*m.g.es.length:=iA _ (mL _) _
  have hhd:=@iJ.head m.g.es hgd.ids (m.g.vs.getD j 0) (m.rots.getD j [])
  have hof:=@iJ.of m.g.es hgd.ids (m.g.vs.getD j 0) (m.rots.getD j [])
  have hrise:=jT hgd.ids (m.g.vs.getD j 0)
  have hpm:iJ m.g.es (m.g.vs.getD j 0) (m.rots.getD j [])→(m.rots.getD j []).Perm (ends m.g.es (m.g.vs.getD j 0)):=fun h=>h.1
  generalize iJ m.g.es (m.g.vs.getD j 0) (m.rots.getD j [])=OK at *
  generalize m.rots.getD j []=t at *
  generalize m.g.vs.getD j 0=v at *
  (repeat' (first|refine qS ?_|(refine w_e [] ?_;intro J hJ;simp only[];simp[f24,fi,fn,hd,hlt];refine hJ _ _ (zZ ?_))))
  (refine w_s [] [st.next] [(0,true),(1,true),(2,true),(3,true),(4,true),(5,true),(6,true),(7,true),(8,true),(9,true),(10,true)] ?_;intro J hJ;simp[f1,fi,hG,hd2,hRl,hlt,hl])
  refine qD (Ends m.g v _ he hid) sS ?_;rintro r s3 ⟨⟨te,rfl⟩,hk3⟩
  have hn3:=hk3.next
  have hG3:=(hk3.H st.next oO).trans hG
  have hK3:=hkp.trans hk3
  refine⟨fun _=>by simp[hG3,hG],?_⟩
  (refine bE ?_;simp[f1,fi,hG3,hG,hd2,hRl,hlt,hl];refine hJ _ _ (zZ ?_))
  generalize ends m.g.es v=E at *
  by_cases h1:t.length=E.length
  rotate_left
  ·have hrc:=hbad fun h=>h1 (hpm h).length_eq
   (repeat' (first|refine qS ?_|(refine qR (zZ ?_);simp[h1,hrc])|(refine qC ?_;simp[h1,hrc];(try with_reducible refine⟨?_,?_⟩)<;>(try with_reducible intro hc)<;>try (exfalso;omega))|(refine w_e [] ?_;intro J hJ;simp only[];simp[h1,hrc];refine hJ _ _ (zZ ?_))))
   exact hK3
  by_cases hb:t.length≠0∧t.getD 0 0≠E.getD 0 0
  ·have h0:0<t.length:=oO
   have h0':0<E.length:=oO
   have e1:=nJ t h0
   have e2:=nJ E h0'
   have e3:¬t[0]=E[0]:=by have:=hb.2;rwa [aI _ _ h0,aI _ _ h0']at this
   have hrc:=hbad fun h=>hb.2 (hhd h)
   (repeat' (first|refine qS ?_|(refine qK (zZ ?_))|(refine qR (zZ ?_);simp[h1,hrc,e1,e2,e3,h0',h0])|(refine qC ?_;simp[h1,hrc,e1,e2,e3,h0',h0])|((first|(refine w_e [] ?_;intro J hJ;simp only[])|(refine w_q ?_;intro J hJ));simp[h1,hrc,e1,e2,e3,h0',h0];refine hJ _ _ (zZ ?_))))
   exact hK3
  have hof2:=hof fun hne=>Classical.byContradiction fun e=>hb ⟨fun h=>hne (List.eq_nil_of_length_eq_zero h),e⟩
  rcases Nat.eq_zero_or_pos t.length with h0|h0
  ·have h0e:E.length=0:=oO
   (repeat' (first|refine qS ?_|(refine qK (zZ ?_))|(refine qC ?_;simp[h0,h0e])|((first|(refine w_e [] ?_;intro J hJ;simp only[])|(refine w_q ?_;intro J hJ));simp[h0,h0e];(try refine hJ _ _ (zZ ?_)))))
   refine qE (aIX t 0 _) (by simp<;>omega) ?_;rintro r s4 ⟨rfl,rfl⟩
   (repeat' (refine aE ?_;simp[]))
   refine qE (aID t 0 s3.next _ oO sS) sS ?_;rintro r s5 ⟨c,rfl,hp,hsrt,hk5⟩
   have hK5:=(hK3.trans (aA.new _ _)).trans hk5
   have hn5:=hk5.next
   have hG5:=(hk5.H st.next (by simp;omega)).trans (((aA.new s3 _).H st.next oO).trans hG3)
   simp only[aC]at hn5
   (repeat' (refine aE ?_;simp[]))
   refine qE (aJw c E 0 te _ (by have:=hp.length_eq;unfold small;omega)) (by simp<;>omega) ?_;rintro r s6 ⟨rfl,rfl⟩
   by_cases h3:c=E
   ·(repeat' (first|(refine qK (zZ ?_))|(refine qC ?_;simp[h3])|(refine aE ?_;simp[h3];refine hJ _ _ (zZ ?_))))
    exact hJJ _ _ (by simp[fi]) (by simp[fn]) ⟨by simp[f1],by simp[f24],hG5,hK5,oO,hnx (hof2 (h3 ▸ hp.symm))⟩
   ·have hrc:=hbad fun h=>h3 (oL hsrt (hrise.imp fun h=>by omega) (hp.trans (hpm h)))
    (repeat' (first|refine qS ?_|(refine qR (zZ ?_);simp[h3,hrc])|(refine qC ?_;simp[h3,hrc])|((first|(refine w_e [] ?_;intro J hJ;simp only[])|(refine aE ?_));simp[h3,hrc];refine hJ _ _ (zZ ?_))))
    exact hK5
  ·have h0':0<E.length:=oO
   have e1:=nJ t h0
   have e2:=nJ E h0'
   have e3:t[0]=E[0]:=Classical.byContradiction fun h=>hb ⟨oO,by rwa [aI _ _ h0,aI _ _ h0']⟩
   (repeat' (first|refine qS ?_|(refine qK (zZ ?_))|(refine qC ?_;simp[h1,e1,e2,e3,h0',h0])|((first|(refine w_e [] ?_;intro J hJ;simp only[])|(refine w_q ?_;intro J hJ));simp[h1,e1,e2,e3,h0',h0];(try refine hJ _ _ (zZ ?_)))))
   refine qE (aIX t 0 _) (by simp<;>omega) ?_;rintro r s4 ⟨rfl,rfl⟩
   (repeat' (refine aE ?_;simp[]))
   refine qE (aID t 0 s3.next _ oO sS) sS ?_;rintro r s5 ⟨c,rfl,hp,hsrt,hk5⟩
   have hK5:=(hK3.trans (aA.new _ _)).trans hk5
   have hn5:=hk5.next
   have hG5:=(hk5.H st.next (by simp;omega)).trans (((aA.new s3 _).H st.next oO).trans hG3)
   simp only[aC]at hn5
   (repeat' (refine aE ?_;simp[]))
   refine qE (aJw c E 0 te _ (by have:=hp.length_eq;unfold small;omega)) (by simp<;>omega) ?_;rintro r s6 ⟨rfl,rfl⟩
   by_cases h3:c=E
   ·(repeat' (first|(refine qK (zZ ?_))|(refine qC ?_;simp[h3])|(refine aE ?_;simp[h3];refine hJ _ _ (zZ ?_))))
    exact hJJ _ _ (by simp[fi]) (by simp[fn]) ⟨by simp[f1],by simp[f24],hG5,hK5,oO,hnx (hof2 (h3 ▸ hp.symm))⟩
   ·have hrc:=hbad fun h=>h3 (oL hsrt (hrise.imp fun h=>by omega) (hp.trans (hpm h)))
    (repeat' (first|refine qS ?_|(refine qR (zZ ?_);simp[h3,hrc])|(refine qC ?_;simp[h3,hrc])|((first|(refine w_e [] ?_;intro J hJ;simp only[])|(refine aE ?_));simp[h3,hrc];refine hJ _ _ (zZ ?_))))
    exact hK5
 ·rintro fr st2 ⟨f1,f24,hG,hkp,hsn,hok⟩
  have hrc:=aGf hc hl hok
  (repeat' (first|refine qS ?_|(refine qR (zZ ?_);simp[hrc])|(refine w_e [] ?_;intro J hJ;simp only[];simp[hrc];refine hJ _ _ (zZ ?_))))
  exact hkp
end Go.Proofs.YtempldclppogmaaGreatDoor.Aw
