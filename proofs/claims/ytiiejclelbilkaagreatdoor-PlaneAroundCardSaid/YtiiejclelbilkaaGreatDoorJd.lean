/- plane: choose. -/
import Derived.Test.YtiiejclelbilkaaGreatDoorJc
import Derived.Test.YtiiejclelbilkaaGreatDoorAwShp
import Derived.Test.YtiiejclelbilkaaGreatDoorAwZ
import Derived.Test.YtiiejclelbilkaaGreatDoorAwFz
import Derived.Test.YtiiejclelbilkaaGreatDoorAwMr4
import Derived.Test.YtiiejclelbilkaaGreatDoorAwRg
namespace Go.Proofs.YtiiejclelbilkaaGreatDoor.Aw
open Go Go.RowKit Go.Proofs.YtiiejclelbilkaaGreatDoor.Pl
set_option linter.unusedSimpArgs false
set_option linter.unusedVariables false
def facL (vs:List Int) (F:List (List Int)):List LV:=F.flatMap fun r=>[.sl 0 r.length (us r),wv (mk vs r)]
@[simp] theorem facL_len (vs:List Int):∀ F:List (List Int),(facL vs F).length=F.length * 2
  | []=>rfl
  | r::F=>by have:=facL_len vs F;simp only [facL,List.flatMap_cons,List.length_append,List.length_cons,List.length_nil] at this ⊢;omega
theorem facL_drop (vs:List Int):∀ (F:List (List Int)) (k:Nat),k < F.length→(facL vs F).drop (k * 2)=.sl 0 (F.getD k []).length (us (F.getD k []))::wv (mk vs (F.getD k []))::facL vs (F.drop (k+1))
 | r::F,0,_=>by simp [facL]
 | r::F,k+1,h=>by
   have:=facL_drop vs F k (by simpa using h)
   rw [show (k+1) * 2=k * 2+2 by omega]
   simp only [facL,List.flatMap_cons,List.cons_append,List.nil_append,List.drop_succ_cons] at this ⊢
   rw [this];simp
 | [],k,h=>by simp at h
theorem brgL_drop (vs:List Int):∀ (B:List Brg) (k:Nat),k < B.length→(brgL vs B).drop (k * 2)=wv (mk vs (B.getD k ⟨[],[]⟩).inner)::wv (mk vs (B.getD k ⟨[],[]⟩).ends)::brgL vs (B.drop (k+1))
 | r::F,0,_=>by simp [brgL]
 | r::F,k+1,h=>by
   have:=brgL_drop vs F k (by simpa using h)
   rw [show (k+1) * 2=k * 2+2 by omega]
   simp only [brgL,List.flatMap_cons,List.cons_append,List.nil_append,List.drop_succ_cons] at this ⊢
   rw [this];simp
 | [],k,h=>by simp at h
def stepC (b:Brg) (p:Int×Int) (r:List Int×Nat):Int×Int:=if off b.ends r.1=[] then (if p.2=0 then (r.2:Int) else p.1,p.2+1) else p
def scanC (b:Brg) (F:List (List Int×Nat)):Int×Int:=F.foldl (stepC b) (-1,0)
def chooseF (F:List (List Int)):List Brg→Brg×Int→Brg×Int
 | [],best=>best
 | b::l,best=>if (scanC b F.zipIdx).2≤1 then (b,(scanC b F.zipIdx).1) else chooseF F l (if best.2 < 0 then (b,(scanC b F.zipIdx).1) else best)
theorem scanC_snoc (b:Brg) (F:List (List Int)) (k:Nat) (hk:k < F.length):scanC b (F.zipIdx.take (k+1))=stepC b (scanC b (F.zipIdx.take k)) (F.getD k [],k):=by
 unfold scanC
 have hz:k < F.zipIdx.length:=by simpa using hk
 rw [List.take_succ_eq_append_getElem hz,List.foldl_append,List.getElem_zipIdx,List.getD_eq_getElem?_getD,List.getElem?_eq_getElem hk]
 simp
theorem scanC_le (b:Brg):∀ (F:List (List Int×Nat)),0≤(scanC b F).2∧(scanC b F).2≤F.length:=by
 have key:∀ (F:List (List Int×Nat)) (p:Int×Int),0≤p.2→0≤(F.foldl (stepC b) p).2∧(F.foldl (stepC b) p).2≤p.2+F.length:=by
  intro F
  induction F with
  | nil=>intro p h;simpa using h
  | cons r F ih=>
    intro p h
    have h1:0≤(stepC b p r).2∧(stepC b p r).2≤p.2+1:=by unfold stepC;by_cases e:off b.ends r.1=[];(· rw [if_pos e];simp only;omega);(· rw [if_neg e];omega)
    have:=ih (stepC b p r) h1.1
    rw [List.foldl_cons,List.length_cons]
    omega
 intro F
 have:=key F (-1,0) (by simp)
 unfold scanC
 simp only at this
 omega
structure ShA (g:Gr) (L:List (Int×Int)) (on:List Int) (F:List (List Int)) (S nl pl ll fl:Nat) (le:List (List Int×LV)) (st:St):Prop where
 r:ShR g L on S nl pl ll (.ms fl 0 F.length) le st
 fac:st.H fl=.box 138 2 (facL g.vs F)
 flt:fl < st.next
 sub:∀ r∈F,∀ v∈r,v∈g.vs
 onv:∀ v∈on,v∈g.vs
 few:F.length≤300
theorem ShA.keep {g:Gr} {L:List (Int×Int)} {on:List Int} {F:List (List Int)} {S nl pl ll fl:Nat} {le:List (List Int×LV)} {st st':St} (h:ShA g L on F S nl pl ll fl le st) (k:Keeps st st'):ShA g L on F S nl pl ll fl le st':=
 ⟨h.r.keep k,(k.H _ h.flt).trans h.fac,Nat.lt_of_lt_of_le h.flt k.next,h.sub,h.onv,h.few⟩
abbrev brgV (vs:List Int) (b:Brg):LV:=.ag [wv (mk vs b.inner),wv (mk vs b.ends)]
set_option maxHeartbeats 2000000 in
theorem sChoose {g:Gr} (hg:GP g) {L:List (Int×Int)} {on:List Int} {F:List (List Int)} {S nl pl ll fl:Nat} {le:List (List Int×LV)} {st:St} (hS:ShA g L on F S nl pl ll fl le st) {B:List Brg} (hB:brgs g L on=some B) (hBe:∀ b∈B,∀ v∈b.ends,v∈g.vs) (hBl:B.length≤300):
 ACalls Tryz.prog 90 [.pt S 0] st fun r st'=>r=.tu [brgV g.vs (chooseF F B (⟨[],[]⟩,-1)).1,i (chooseF F B (⟨[],[]⟩,-1)).2]∧st'=st:=by
 refine qT (Q:=fun r=>r=.tu [brgV g.vs (chooseF F B (⟨[],[]⟩,-1)).1,i (chooseF F B (⟨[],[]⟩,-1)).2]) ?_ fun r h=>by subst h;exact ⟨⟨trivial,trivial,trivial⟩,trivial,trivial⟩
 have h64:=hg.h64
 have hz:mk g.vs []=0:=(mk_zero g.vs []).2 fun _ _=>by simp
 have hq:=hS.r.lt
 refine qO tabOk Tryz.func90 rfl rfl Tryz.ntmps90 (rs:=[.cell 2 132,.tmp 3]) rfl (by simp) ?_
 (repeat' (first | refine qS ?_ | (refine w_e [] ?_;intro J hJ;simp only [];simp [];(try (refine hJ _ _ ?_;clear hJ J;simp only [ak,reduceIte])))))
 refine qE (sBridges hg hS.onv (hS.r.keep ((Keeps.new _ _).trans (Keeps.new _ _))) hB) (by simp) ?_;rintro r s1 ⟨rfl,h1⟩
 rw [h1];clear h1 s1
 (repeat' (first | refine qB ?_ | (refine e_go ?_;simp [];(refine hJ _ _ ?_;clear hJ J;simp only [ak,reduceIte]))))
 have e0:¬ st.next=st.next+1:=by omega
 have hbl:=brgL_len g.vs B
 have hfl:=facL_len g.vs F
 have hfew:=hS.few
 generalize hCC:chooseF F B (⟨[],[]⟩,-1)=CC
 refine awp_range 15 14 16 49 (B.length) (fun j fr st2=>fr 0=.pt S 0∧fr 2=.pt st.next 0∧fr 4=.pt (st.next+1) 0∧fr 13=.sl 0 B.length (brgL g.vs B)∧Keeps st st2∧st.next+1 < st2.next∧st2.H st.next=.box 132 2 [wv 0,wv 0]∧∃ best at_,fr 5=i at_∧st2.H (st.next+1)=.box 132 2 [wv (mk g.vs best.inner),wv (mk g.vs best.ends)]∧chooseF F (B.drop j) (best,at_)=CC) ?_ ?_ ?_
 ·exact ⟨by simp,by simp,by simp,by simp,(Keeps.new _ _).trans (Keeps.new _ _),by simp,by simp [e0],⟨[],[]⟩,-1,by simp,by simp [hz],hCC⟩
 ·rintro jo fr s hlt ⟨f0,f2,f4,f13,hk,hsn,hR,best,at_,f5,hB5,hch⟩ fi fn JO hJO
  have hd:=brgL_drop g.vs B jo hlt
  have hk2:jo * 2 < B.length * 2:=by omega
  rw [List.drop_eq_getElem_cons hlt,chooseF] at hch
  have hbm:B.getD jo ⟨[],[]⟩=B[jo]:=by rw [List.getD_eq_getElem?_getD,List.getElem?_eq_getElem hlt];rfl
  have hbe:=hBe _ (List.getElem_mem hlt)
  rw [hbm] at hd
  generalize B[jo]=b at *
  have hSk:=hS.keep hk
  obtain ⟨hSb,-,-,-,-,p1,p2,p3,p4⟩:=id hSk.r
  have hF:=hSk.fac
  have hFl:=hSk.flt
  have x1:¬ S=s.next:=by omega
  have x2:¬ fl=s.next:=by omega
  have x3:¬ st.next=s.next:=by omega
  have x4:¬ st.next+1=s.next:=by omega
  (repeat' (first | refine qS ?_ | refine qB ?_ | (refine w_e [] ?_;intro J hJ;simp only [];simp [f0,f13,fi,fn,hd,hk2,hbl,hlt,hSb,x1];(refine hJ _ _ ?_;clear hJ J;simp only [ak,reduceIte]))))
  refine awp_range 24 23 25 40 (F.length) (fun j fr st2=>fr 0=.pt S 0∧fr 2=.pt st.next 0∧fr 4=.pt (st.next+1) 0∧fr 13=.sl 0 B.length (brgL g.vs B)∧fr 14=i B.length∧fr 15=i jo∧fr 5=i at_∧fr 7=.pt s.next 0∧fr 22=.ms fl 0 F.length∧fr 8=i (scanC b (F.zipIdx.take j)).1∧fr 9=i (scanC b (F.zipIdx.take j)).2∧Keeps (s.new (.box 132 2 [wv (mk g.vs b.inner),wv (mk g.vs b.ends)])) st2) ?_ ?_ ?_
  ·exact ⟨by simp [f0],by simp [f2],by simp [f4],by simp [f13],by simp [fn],by simp [fi],by simp [f5],by simp,by simp,by simp [scanC],by simp [scanC],Keeps.refl _⟩
  ·clear f0 f2 f4 f13 f5 fi fn fr
   rintro k fr s2 hlk ⟨f0,f2,f4,f13,f14,f15,f5,f7,f22,f8,f9,hk3⟩ fi fn JI hJI
   have hn3:=hk3.next
   simp only [new_next] at hn3
   have hbx:s2.H s.next=.box 132 2 [wv (mk g.vs b.inner),wv (mk g.vs b.ends)]:=by rw [hk3.H _ (by simp)];simp
   have hF2:s2.H fl=.box 138 2 (facL g.vs F):=by rw [hk3.H _ (by simp;omega),new_H,if_neg x2];exact hF
   have hdF:=facL_drop g.vs F k hlk
   have hsc:=scanC_snoc b F k hlk
   have hle:=scanC_le b (F.zipIdx.take k)
   rw [List.length_take,List.length_zipIdx] at hle
   generalize F.getD k []=rr at *
   generalize hpp:scanC b (F.zipIdx.take k)=pp at *
   obtain ⟨p1',p2'⟩:=pp
   simp only at hle f8 f9
   have hk22:k * 2 < F.length * 2:=by omega
   have hdf:gandNot .u64 (mk g.vs b.ends) (mk g.vs rr)=mk g.vs (off b.ends rr):=mk_diff g.vs b.ends rr h64
   have y1:¬ s.next=s2.next:=by omega
   have y2:¬ fl=s2.next:=by omega
   have hw:=wrap_i64 (p2'+1) (by omega) (by omega)
   unfold stepC at hsc
   by_cases hfit:off b.ends rr=[]
   ·have hb:((mk g.vs (off b.ends rr):Int) != 0)=false:=by rw [hfit,hz];rfl
    rw [if_pos hfit] at hsc
    simp only at hsc
    by_cases h0:p2'=0
    ·have hb0:(p2'==0)=true:=by simpa using h0
     rw [if_pos h0] at hsc
     (repeat' (first | refine qS ?_ | (refine qK ?_;simp only [ak,reduceIte]) | (refine qC ?_;simp [f7,f22,f8,f9,fi,fn,hdF,hF2,hlk,hk22,hfl,hbx,y1,y2,hdf,hb,hb0,hw]) | (refine w_e [] ?_;intro J hJ;simp only [];simp [f7,f22,f8,f9,fi,fn,hdF,hF2,hlk,hk22,hfl,hbx,y1,y2,hdf,hb,hb0,hw];(refine hJ _ _ ?_;clear hJ J;simp only [ak,reduceIte]))))
     exact hJI _ _ (by simp [fi]) (by simp [fn]) ⟨by simp [f0],by simp [f2],by simp [f4],by simp [f13],by simp [f14],by simp [f15],by simp [f5],by simp [f7],by simp [f22],by rw [hsc];simp,by rw [hsc];simp,hk3.trans (Keeps.new _ _)⟩
    ·have hb0:(p2'==0)=false:=by simpa using h0
     rw [if_neg h0] at hsc
     (repeat' (first | refine qS ?_ | (refine qK ?_;simp only [ak,reduceIte]) | (refine qC ?_;simp [f7,f22,f8,f9,fi,fn,hdF,hF2,hlk,hk22,hfl,hbx,y1,y2,hdf,hb,hb0,hw]) | (refine w_e [] ?_;intro J hJ;simp only [];simp [f7,f22,f8,f9,fi,fn,hdF,hF2,hlk,hk22,hfl,hbx,y1,y2,hdf,hb,hb0,hw];(refine hJ _ _ ?_;clear hJ J;simp only [ak,reduceIte]))))
     exact hJI _ _ (by simp [fi]) (by simp [fn]) ⟨by simp [f0],by simp [f2],by simp [f4],by simp [f13],by simp [f14],by simp [f15],by simp [f5],by simp [f7],by simp [f22],by rw [hsc];simp [f8],by rw [hsc];simp,hk3.trans (Keeps.new _ _)⟩
   ·have hb:((mk g.vs (off b.ends rr):Int) != 0)=true:=by
     have:mk g.vs (off b.ends rr)≠0:=fun h=>hfit ((off_nil hbe).1 h)
     simpa using this
    rw [if_neg hfit] at hsc
    (repeat' (first | refine qS ?_ | (refine qX ?_;simp only [ak,reduceIte]) | (refine qC ?_;simp [f7,f22,f8,f9,fi,fn,hdF,hF2,hlk,hk22,hfl,hbx,y1,y2,hdf,hb]) | (refine w_e [] ?_;intro J hJ;simp only [];simp [f7,f22,f8,f9,fi,fn,hdF,hF2,hlk,hk22,hfl,hbx,y1,y2,hdf,hb];(refine hJ _ _ ?_;clear hJ J;simp only [ak,reduceIte]))))
    exact hJI _ _ (by simp [fi]) (by simp [fn]) ⟨by simp [f0],by simp [f2],by simp [f4],by simp [f13],by simp [f14],by simp [f15],by simp [f5],by simp [f7],by simp [f22],by rw [hsc];simp [f8],by rw [hsc];simp [f9],hk3.trans (Keeps.new _ _)⟩
  ·clear f0 f2 f4 f13 f5 fi fn fr
   rintro fr s2 ⟨f0,f2,f4,f13,f14,f15,f5,f7,f22,f8,f9,hk3⟩
   rw [List.take_of_length_le (by simp)] at f8 f9
   have hle:=scanC_le b F.zipIdx
   generalize hpp:scanC b F.zipIdx=pp at *
   obtain ⟨p1',p2'⟩:=pp
   simp only at hle f8 f9 hch
   have hn3:=hk3.next
   simp only [new_next] at hn3
   have hbx:s2.H s.next=.box 132 2 [wv (mk g.vs b.inner),wv (mk g.vs b.ends)]:=by rw [hk3.H _ (by simp)];simp
   have hR2:s2.H st.next=.box 132 2 [wv 0,wv 0]:=by rw [hk3.H _ (by simp;omega),new_H,if_neg x3];exact hR
   have hB2:s2.H (st.next+1)=.box 132 2 [wv (mk g.vs best.inner),wv (mk g.vs best.ends)]:=by rw [hk3.H _ (by simp;omega),new_H,if_neg x4];exact hB5
   have hkk:=(hk.trans (Keeps.new _ _)).trans hk3
   have z1:¬ s.next=st.next:=by omega
   have z2:¬ st.next+1=st.next:=by omega
   by_cases hn1:p2'≤1
   ·rw [if_pos hn1] at hch
    subst hch
    (repeat' (first | refine qS ?_ | (refine qR ?_;simp only [ak,reduceIte];simp [f2,f7,f8,f9,hn1,hbx,hR2,z1]) | (refine qC ?_;simp [f2,f7,f8,f9,hn1,hbx,hR2,z1]) | (refine w_e [] ?_;intro J hJ;simp only [];simp [f2,f7,f8,f9,hn1,hbx,hR2,z1];(refine hJ _ _ ?_;clear hJ J;simp only [ak,reduceIte]))))
    exact hkk.set (Nat.le_refl _) _
   ·rw [if_neg hn1] at hch
    by_cases hat:at_ < 0
    ·rw [if_pos hat] at hch
     (repeat' (first | refine qS ?_ | (refine qK ?_;simp only [ak,reduceIte]) | (refine qC ?_;simp [f4,f5,f7,f8,f9,hn1,hat,hbx,hB2]) | (refine w_e [] ?_;intro J hJ;simp only [];simp [f4,f5,f7,f8,f9,hn1,hat,hbx,hB2];(refine hJ _ _ ?_;clear hJ J;simp only [ak,reduceIte]))))
     exact hJO _ _ (by simp [f15]) (by simp [f14]) ⟨by simp [f0],by simp [f2],by simp [f4],by simp [f13],hkk.set (by omega) _,by simp;omega,by (repeat (first | rw [new_H,if_neg (α:=LObj) (by (try simp only [set_next,new_next]);omega)] | rw [set_H,if_neg (α:=LObj) (by omega)] | rw [new_H,if_pos (α:=LObj) (by (try simp only [set_next,new_next]))] | rw [set_H,if_pos (α:=LObj) (by omega)]));exact hR2,b,p1',by simp,by simp,hch⟩
    ·rw [if_neg hat] at hch
     (repeat' (first | refine qS ?_ | (refine qK ?_;simp only [ak,reduceIte]) | (refine qC ?_;simp [f4,f5,f7,f8,f9,hn1,hat]) | (refine w_e [] ?_;intro J hJ;simp only [];simp [f4,f5,f7,f8,f9,hn1,hat];(refine hJ _ _ ?_;clear hJ J;simp only [ak,reduceIte]))))
     exact hJO _ _ (by simp [f15]) (by simp [f14]) ⟨by simp [f0],by simp [f2],by simp [f4],by simp [f13],hkk,by omega,hR2,best,at_,by simp [f5],hB2,hch⟩
 ·rintro fr s ⟨f0,f2,f4,f13,hk,hsn,hR,best,at_,f5,hB5,hch⟩
  rw [List.drop_length,chooseF] at hch
  subst hch
  have z1:¬ st.next+1=st.next:=by omega
  (repeat' (first | refine qS ?_ | (refine qR ?_;simp only [ak,reduceIte];simp [f2,f4,f5,hB5,hR,z1]) | (refine w_e [] ?_;intro J hJ;simp only [];simp [f2,f4,f5,hB5,hR,z1];(refine hJ _ _ ?_;clear hJ J;simp only [ak,reduceIte]))))
  exact hk.set (Nat.le_refl _) _
theorem rise_eq {α:Type} (f:α→Int):∀ {a b:List α},(a.map f).Pairwise (· < ·)→(b.map f).Pairwise (· < ·)→(∀ x,x∈a↔x∈b)→a=b
 | [],[],_,_,_=>rfl
 | [],y::b,_,_,h=>by have:=(h y).2 (by simp);simp at this
 | x::a,[],_,_,h=>by have:=(h x).1 (by simp);simp at this
 | x::a,y::b,ha,hb,h=>by
   simp only [List.map_cons,List.pairwise_cons,List.mem_map,forall_exists_index,and_imp,forall_apply_eq_imp_iff₂] at ha hb
   have hxy:x=y:=by
    rcases List.mem_cons.1 ((h x).1 (by simp)) with h1 | h1
    ·exact h1
    ·rcases List.mem_cons.1 ((h y).2 (by simp)) with h2 | h2
     ·exact h2.symm
     ·have:=ha.1 y h2;have:=hb.1 x h1;omega
   subst hxy
   congr 1
   refine rise_eq f ha.2 hb.2 fun z=>?_
   have hz:=h z
   rw [List.mem_cons,List.mem_cons] at hz
   constructor
   ·intro hza
    rcases hz.1 (.inr hza) with h1 | h1
    ·subst h1;have:=ha.1 z hza;omega
    ·exact h1
   ·intro hzb
    rcases hz.2 (.inr hzb) with h1 | h1
    ·subst h1;have:=hb.1 z hzb;omega
    ·exact h1
section
variable {α:Type} (f:α→Int)
end
theorem snocI {α:Type} {P:List α→Prop} (h0:P []) (h1:∀ l x,P l→P (l++[x])) (l:List α):P l:=by
 rw [← List.reverse_reverse l]
 generalize l.reverse=r
 induction r with
 | nil=>exact h0
 | cons x r ih=>rw [List.reverse_cons];exact h1 _ _ ih
def bes (x y:Ed):Bool:=decide (x.a=y.a∧x.b=y.b∨x.a=y.b∧x.b=y.a)
theorem bes_iff {x y:Ed}:bes x y=true↔(x.a=y.a∧x.b=y.b∨x.a=y.b∧x.b=y.a):=by simp [bes]
theorem bes_symm {x y:Ed} (h:bes x y=true):bes y x=true:=by
 rw [bes_iff] at h ⊢
 rcases h with ⟨h1,h2⟩ | ⟨h1,h2⟩
 ·exact .inl ⟨h1.symm,h2.symm⟩
 ·exact .inr ⟨h2.symm,h1.symm⟩
theorem bes_refl (x:Ed):bes x x=true:=by rw [bes_iff];exact .inl ⟨rfl,rfl⟩
theorem bes_trans {x y z:Ed} (h:bes x y=true) (k:bes y z=true):bes x z=true:=by
 rw [bes_iff] at h k ⊢
 rcases h with ⟨h1,h2⟩ | ⟨h1,h2⟩<;>rcases k with ⟨k1,k2⟩ | ⟨k1,k2⟩
 ·exact .inl ⟨h1.trans k1,h2.trans k2⟩
 ·exact .inr ⟨h1.trans k1,h2.trans k2⟩
 ·exact .inr ⟨h1.trans k2,h2.trans k1⟩
 ·exact .inl ⟨h1.trans k2,h2.trans k1⟩
def sE (l:List Ed):List Ed:=l.foldl (fun acc x=>if acc.any (bes x) then acc else acc++[x]) []
theorem sE_snoc (l:List Ed) (x:Ed):sE (l++[x])=if (sE l).any (bes x) then sE l else sE l++[x]:=by
 simp [sE,List.foldl_append]
theorem sE_sub (l:List Ed):∀ x∈sE l,x∈l:=by
 induction l using snocI with
 | h0=>simp [sE]
 | h1 l x ih=>
   intro y hy
   rw [sE_snoc] at hy
   split at hy
   ·exact List.mem_append_left _ (ih y hy)
   ·rcases List.mem_append.1 hy with h | h
    ·exact List.mem_append_left _ (ih y h)
    ·exact List.mem_append_right _ h
theorem sE_has (l:List Ed):∀ x∈l,∃ y∈sE l,bes x y=true:=by
 induction l using snocI with
 | h0=>simp
 | h1 l x ih=>
   intro y hy
   rw [sE_snoc]
   rcases List.mem_append.1 hy with h | h
   ·obtain ⟨z,h1,h2⟩:=ih y h
    split
    ·exact ⟨z,h1,h2⟩
    ·exact ⟨z,List.mem_append_left _ h1,h2⟩
   ·rw [List.mem_singleton] at h
    subst h
    split
    ·rename_i ha
     rw [List.any_eq_true] at ha
     obtain ⟨z,h1,h2⟩:=ha
     exact ⟨z,h1,h2⟩
    ·exact ⟨y,List.mem_append_right _ (by simp),bes_refl y⟩
theorem sE_len (l:List Ed):(sE l).length≤l.length:=by
 induction l using snocI with
 | h0=>simp [sE]
 | h1 l x ih=>
   rw [sE_snoc]
   split
   ·rw [List.length_append];omega
   ·rw [List.length_append,List.length_append];simp only [List.length_cons,List.length_nil];omega
theorem sE_apart (l:List Ed):(sE l).Pairwise fun x y=>bes x y=false:=by
 induction l using snocI with
 | h0=>simp [sE]
 | h1 l x ih=>
   rw [sE_snoc]
   split
   ·exact ih
   ·rename_i ha
    rw [List.pairwise_append]
    refine ⟨ih,List.pairwise_singleton _ _,fun y hy z hz=>?_⟩
    rw [List.mem_singleton] at hz
    subst hz
    cases hb:bes y z with
    | false=>rfl
    | true=>exact absurd (List.any_eq_true.2 ⟨y,hy,bes_symm hb⟩) ha
abbrev hf (x:Ed):List (Int×Int):=[(x.a,x.b),(x.b,x.a)]
def hfs (l:List Ed):List (Int×Int):=l.flatMap hf
theorem hfs_snoc (l:List Ed) (x:Ed):hfs (l++[x])=hfs l++[(x.a,x.b)]++[(x.b,x.a)]:=by simp [hfs]
theorem hfs_len (l:List Ed):(hfs l).length=2 * l.length:=by
 induction l with
 | nil=>rfl
 | cons x l ih=>simp only [hfs,List.flatMap_cons,List.length_append,List.length_cons,List.length_nil] at ih ⊢;omega
def nbH (v:Int) (H:List (Int×Int)):List Int:=(H.filter fun p=>decide (p.1=v)).map (·.2)
theorem nbH_snoc (v:Int) (H:List (Int×Int)) (p:Int×Int):nbH v (H++[p])=nbH v H++if p.1=v then [p.2] else []:=by
 unfold nbH
 rw [List.filter_append,List.map_append]
 by_cases h:p.1=v
 ·simp [h]
 ·simp [h]
theorem nbH_len (v:Int) (H:List (Int×Int)):(nbH v H).length≤H.length:=by
 unfold nbH
 rw [List.length_map]
 exact List.length_filter_le _ _
def insI (x:Int):List Int→List Int
 | []=>[x]
 | y::l=>if x≤y then x::y::l else y::insI x l
def srt:List Int→List Int
 | []=>[]
 | x::l=>insI x (srt l)
theorem insI_perm (x:Int) (l:List Int):(insI x l).Perm (x::l):=by
 induction l with
 | nil=>exact .refl _
 | cons y l ih=>
   unfold insI
   split
   ·exact .refl _
   ·exact (ih.cons y).trans (.swap x y l)
theorem srt_perm (l:List Int):(srt l).Perm l:=by
 induction l with
 | nil=>exact .refl _
 | cons x l ih=>exact (insI_perm x _).trans (ih.cons x)
theorem insI_sorted (x:Int) {l:List Int} (h:l.Pairwise (·≤·)):(insI x l).Pairwise (·≤·):=by
 induction l with
 | nil=>exact List.pairwise_singleton _ _
 | cons y l ih=>
   have h':=List.pairwise_cons.1 h
   unfold insI
   split
   ·rename_i hxy
    refine List.pairwise_cons.2 ⟨fun z hz=>?_,h⟩
    rcases List.mem_cons.1 hz with rfl | hz
    ·exact hxy
    ·have:=h'.1 z hz;omega
   ·rename_i hxy
    refine List.pairwise_cons.2 ⟨fun z hz=>?_,ih h'.2⟩
    rcases List.mem_cons.1 ((insI_perm x l).mem_iff.1 hz) with rfl | hz
    ·omega
    ·exact h'.1 z hz
theorem srt_sorted (l:List Int):(srt l).Pairwise (·≤·):=by
 induction l with
 | nil=>exact .nil
 | cons x l ih=>exact insI_sorted x ih
theorem sorted_unique:∀ {a b:List Int},a.Pairwise (·≤·)→b.Pairwise (·≤·)→a.Perm b→a=b
 | [],b,_,_,h=>by rw [h.nil_eq]
 | x::a,[],_,_,h=>absurd h.symm.nil_eq (by simp)
 | x::a,y::b,ha,hb,h=>by
   obtain ⟨a1,a2⟩:=List.pairwise_cons.1 ha
   obtain ⟨b1,b2⟩:=List.pairwise_cons.1 hb
   have hxy:x=y:=by
    have h1:x∈y::b:=h.mem_iff.1 (by simp)
    have h2:y∈x::a:=h.mem_iff.2 (by simp)
    rcases List.mem_cons.1 h1 with h1 | h1
    ·exact h1
    ·rcases List.mem_cons.1 h2 with h2 | h2
     ·exact h2.symm
     ·have:=b1 x h1
      have:=a1 y h2
      omega
   subst hxy
   rw [sorted_unique a2 b2 ((List.perm_cons x).1 h)]
theorem srt_of {c l:List Int} (h:c.Perm l) (hs:c.Pairwise (·≤·)):c=srt l:=sorted_unique hs (srt_sorted l) (h.trans (srt_perm l).symm)
def nearF (es:List Ed) (v:Int):List Int:=srt (nbH v (hfs (sE es)))
def adj (es:List Ed) (v w:Int):Prop:=∃ x∈es,(x.a=v∧x.b=w)∨(x.a=w∧x.b=v)
instance (es:List Ed) (v w:Int):Decidable (adj es v w):=by unfold adj;exact inferInstance
theorem nearF_len (es:List Ed) (v:Int):(nearF es v).length≤2 * es.length:=by
 have h1:=(srt_perm (nbH v (hfs (sE es)))).length_eq
 have h2:=nbH_len v (hfs (sE es))
 have h3:=hfs_len (sE es)
 have h4:=sE_len es
 unfold nearF
 omega
abbrev Led:=List (Int×Int)
def ledBy (A:Led) (v:Int):Option Int:=match A with
 | []=>none
 | p::A=>if v=p.1 then some p.2 else ledBy A v
theorem ledBy_none {v:Int}:∀ {A:Led},v∉A.map (·.1)→ledBy A v=none
 | [],_=>rfl
 | p::A,h=>by
   simp only [List.map_cons,List.mem_cons,not_or] at h
   simp only [ledBy]
   rw [if_neg h.1,ledBy_none h.2]
theorem ledBy_some {v:Int}:∀ {A:Led},v∈A.map (·.1)→∃ w,ledBy A v=some w
 | [],h=>by simp at h
 | p::A,h=>by
   simp only [ledBy]
   by_cases e:v=p.1
   ·exact ⟨p.2,by rw [if_pos e]⟩
   ·rw [if_neg e]
    simp only [List.map_cons,List.mem_cons] at h
    exact ledBy_some (h.resolve_left e)
structure BF where
 A:Led
 Q:List Int
 hit:Bool
def scan1 (may:Int→Bool) (to v:Int) (S:BF) (u:Int):BF:=
 if S.hit=true then S else if u∈S.A.map (·.1) then S else if u=to then ⟨S.A++[(u,v)],S.Q,true⟩ else ⟨S.A++[(u,v)],if may u=true then S.Q++[u] else S.Q,false⟩
def scanL (may:Int→Bool) (to v:Int) (S:BF) (l:List Int):BF:=l.foldl (scan1 may to v) S
theorem scanL_hit (may:Int→Bool) (to v:Int) {S:BF} (h:S.hit=true) (l:List Int):scanL may to v S l=S:=by
 induction l with
 | nil=>rfl
 | cons u l ih=>simp only [scanL,List.foldl_cons] at ih ⊢;rw [scan1,if_pos h];exact ih
theorem scanL_snoc (may:Int→Bool) (to v:Int) (S:BF) (l:List Int) (u:Int):scanL may to v S (l++[u])=scan1 may to v (scanL may to v S l) u:=by simp [scanL,List.foldl_append]
theorem scanL_len (may:Int→Bool) (to v:Int) (S:BF) (l:List Int):(scanL may to v S l).Q.length≤S.Q.length+l.length∧(scanL may to v S l).A.length≤S.A.length+l.length:=by
 induction l generalizing S with
 | nil=>simp [scanL]
 | cons u l ih=>
   have:=ih (scan1 may to v S u)
   have h1:(scan1 may to v S u).Q.length≤S.Q.length+1∧(scan1 may to v S u).A.length≤S.A.length+1:=by
    unfold scan1
    split
    ·omega
    ·split
     ·omega
     ·split
      ·simp
      ·constructor
       ·simp only;split<;>simp
       ·simp
   simp only [scanL,List.foldl_cons,List.length_cons] at this ⊢
   omega
def bfs (near:Int→List Int) (may:Int→Bool) (to:Int):Nat→Led→List Int→Option (Option Led)
 | _,_,[]=>some none
 | 0,_,_::_=>none
 | n+1,A,v::Q=>if (scanL may to v ⟨A,Q,false⟩ (near v)).hit=true then some (some (scanL may to v ⟨A,Q,false⟩ (near v)).A) else bfs near may to n (scanL may to v ⟨A,Q,false⟩ (near v)).A (scanL may to v ⟨A,Q,false⟩ (near v)).Q
def backF (A:Led) (from':Int):Nat→Int→Option (List Int)
 | 0,v=>if v=from' then some [] else none
 | n+1,v=>if v=from' then some [] else (backF A from' n ((ledBy A v).getD 0)).map fun l=>(ledBy A v).getD 0::l
theorem backF_len {A:Led} {from':Int}:∀ {n:Nat} {v:Int} {l:List Int},backF A from' n v=some l→l.length≤n
 | 0,v,l,h=>by
   simp only [backF] at h
   split at h
   ·injection h with h;subst h;simp
   ·cases h
 | n+1,v,l,h=>by
   simp only [backF] at h
   split at h
   ·injection h with h;subst h;simp
   ·rw [Option.map_eq_some_iff] at h
    obtain ⟨l',h1,rfl⟩:=h
    have:=backF_len h1
    simp only [List.length_cons];omega
def pathF (vs:List Int) (near:Int→List Int) (may:Int→Bool) (from' to:Int) (n:Nat):Option (List Int):=
 if from'∉vs∨to∉vs then some [] else if from'=to then some [from'] else match bfs near may to n [(from',from')] [from'] with
  | some none=>some []
  | some (some A)=>(backF A from' n to).map fun l=>(to::l).reverse
  | none=>none
def kE (x:Ed):List Int:=[if x.b < x.a then x.b else x.a,if x.a < x.b then x.b else x.a]
theorem kE_iff (x y:Ed):kE x=kE y↔bes x y=true:=by
 rw [bes_iff]
 unfold kE
 simp only [List.cons.injEq,and_true]
 constructor
 ·rintro ⟨h1,h2⟩
  split at h1<;>split at h1<;>split at h2<;>split at h2<;>omega
 ·rintro (⟨h1,h2⟩ | ⟨h1,h2⟩)
  ·rw [h1,h2];exact ⟨rfl,rfl⟩
  ·rw [h1,h2]
   constructor
   ·split<;>split<;>omega
   ·split<;>split<;>omega
def bnd (l:List Ed):List (List Int):=(sE l).map fun y=>(l.filter fun x=>bes y x).map (·.id)
theorem bnd_len (l:List Ed):(bnd l).length=(sE l).length:=by simp [bnd]
theorem bnd_new {l:List Ed} {x:Ed} (h:(sE l).any (bes x)=false):sE (l++[x])=sE l++[x]∧bnd (l++[x])=bnd l++[[x.id]]:=by
 have h':∀ y∈sE l,bes x y=false:=fun y hy=>by
  cases hb:bes x y with
  | false=>rfl
  | true=>rw [List.any_eq_true.2 ⟨y,hy,hb⟩] at h;cases h
 have hs:sE (l++[x])=sE l++[x]:=by rw [sE_snoc,h];rfl
 refine ⟨hs,?_⟩
 unfold bnd
 rw [hs,List.map_append]
 congr 1
 ·refine List.map_congr_left fun y hy=>?_
  have:bes y x=false:=by
   cases hb:bes y x with
   | false=>rfl
   | true=>have:=h' y hy;rw [bes_symm hb] at this;cases this
  rw [List.filter_append]
  simp [this]
 ·have:l.filter (fun z=>bes x z)=[]:=by
   rw [List.filter_eq_nil_iff]
   intro z hz hb
   obtain ⟨y,hy,h2⟩:=sE_has l z hz
   have:=h' y hy
   rw [bes_trans hb h2] at this;cases this
  simp [List.filter_append,this,bes_refl]
theorem bnd_old {l:List Ed} {x:Ed} (h:(sE l).any (bes x)=true):sE (l++[x])=sE l∧∃ L1 y L2 B1 r B2,sE l=L1++y::L2∧bes x y=true∧bnd l=B1++r::B2∧B1.length=L1.length∧bnd (l++[x])=B1++(r++[x.id])::B2∧r.length≤l.length:=by
 have hs:sE (l++[x])=sE l:=by rw [sE_snoc,h];rfl
 refine ⟨hs,?_⟩
 obtain ⟨y,hy,hb⟩:=List.any_eq_true.1 h
 obtain ⟨L1,L2,hL⟩:=List.append_of_mem hy
 have hap:=sE_apart l
 rw [hL,List.pairwise_append,List.pairwise_cons] at hap
 obtain ⟨_,⟨p2,_⟩,p3⟩:=hap
 have hno:∀ z,(z∈L1∨z∈L2)→bes z x=false:=by
  intro z hz
  cases hzx:bes z x with
  | false=>rfl
  | true=>
    have hzy:=bes_trans hzx hb
    rcases hz with hz | hz
    ·have:=p3 z hz y (by simp);rw [hzy] at this;cases this
    ·have:=p2 z hz;rw [bes_symm hzy] at this;cases this
 refine ⟨L1,y,L2,_,_,_,hL,hb,by unfold bnd;rw [hL,List.map_append,List.map_cons],by simp,?_,?_⟩
 ·unfold bnd
  rw [hs,hL,List.map_append,List.map_cons]
  have e:∀ L:List Ed,(∀ z∈L,bes z x=false)→L.map (fun y=>((l++[x]).filter fun x=>bes y x).map (·.id))=L.map fun y=>(l.filter fun x=>bes y x).map (·.id):=by
   intro L hL
   refine List.map_congr_left fun z hz=>?_
   rw [List.filter_append]
   simp [hL z hz]
  rw [e L1 fun z hz=>hno z (.inl hz),e L2 fun z hz=>hno z (.inr hz)]
  congr 2
  rw [List.filter_append]
  simp [bes_symm hb]
 ·rw [List.length_map];exact List.length_filter_le _ _
structure AtM (l:List Ed) (es:List (List Int×LV)):Prop where
 old:∀ x L1 y L2,sE l=L1++y::L2→bes x y=true→mget es (kE x)=some (i L1.length)
 new:∀ x,(sE l).any (bes x)=false→mget es (kE x)=none
theorem AtM.nil:AtM [] []:=⟨fun x L1 y L2 h _=>by simp [sE] at h,fun x _=>rfl⟩
theorem AtM.keep {l:List Ed} {es:List (List Int×LV)} (h:AtM l es) {x:Ed} (hx:sE (l++[x])=sE l):AtM (l++[x]) es:=
 ⟨by rw [hx];exact h.old,by rw [hx];exact h.new⟩
theorem AtM.add {l:List Ed} {es:List (List Int×LV)} (h:AtM l es) {x:Ed} (hx:(sE l).any (bes x)=false):AtM (l++[x]) (mset es (kE x) (i (sE l).length)):=by
 have hs:=(bnd_new hx).1
 constructor
 ·intro z L1 y L2 hL hb
  rw [hs] at hL
  rw [mget_mset]
  rcases List.eq_nil_or_concat L2 with rfl | ⟨L2',y',rfl⟩
  ·have:=List.append_inj' hL rfl
   obtain ⟨h1,h2⟩:=this
   simp only [List.cons.injEq,and_true] at h2
   subst h1 h2
   rw [if_pos ((kE_iff _ _).2 hb)]
  ·rw [List.concat_eq_append,show L1++y::(L2'++[y'])=(L1++y::L2')++[y'] by simp] at hL
   obtain ⟨h1,h2⟩:=List.append_inj' hL rfl
   rw [if_neg,h.old z L1 y L2' h1 hb]
   intro hk
   have hxy:=bes_trans (bes_symm ((kE_iff _ _).1 hk)) hb
   rw [List.any_eq_true.2 ⟨y,by rw [h1];simp,hxy⟩] at hx
   cases hx
 ·intro z hz
  rw [hs,List.any_append,Bool.or_eq_false_iff] at hz
  rw [mget_mset,if_neg,h.new z hz.1]
  intro hk
  have:=(kE_iff _ _).1 hk
  simp [this] at hz
abbrev TR:=Nat×List Int
def cellT (p:TR):LV:=.sl p.1 p.2.length (us p.2)
def cellsT (R:List TR):List LV:=R.map cellT
theorem cellsT_len (R:List TR):(cellsT R).length=R.length:=by simp [cellsT]
structure SimB (E:List Ed) (st0:St) (L2 L4 M te q:Nat) (vs:List Int) (mes:List (List Int×LV)) (R:List TR) (s:St):Prop where
 h2:s.H L2=.box 35 2 [.nil,.nil]
 h4:s.H L4=.box 35 2 [.sl 0 vs.length (us vs),.sl te (sE E).length (eds (sE E))]
 ht:s.H te=.own 38 3 (sE E).length
 hM:s.H M=.map true [.u32,.u32] mes
 hq:s.H q=.box 25 1 (cellsT R)
 bn:R.map (·.2)=bnd E
 at':AtM E mes
 nd:(R.map (·.1)).Nodup
 tk:∀ p∈R,st0.next≤p.1∧p.1 < s.next∧s.H p.1=.own 26 1 p.2.length
 b:st0.next≤L2∧st0.next≤L4∧st0.next≤M∧st0.next≤te∧st0.next≤q∧L2 < s.next∧L4 < s.next∧M < s.next∧te < s.next∧q < s.next
 kp:Keeps st0 s
def SimI (g:Gr) (st0:St) (L2 L4 M k:Nat) (fr:Frm) (s:St):Prop:=
 fr 2=.pt L2 0∧fr 4=.pt L4 0∧fr 6=.mp M∧fr 18=.sl 0 g.es.length (eds g.es)∧fr 19=i g.es.length∧fr 20=i k∧
 ∃ te q mes R,fr 5=.ms q 0 R.length∧SimB (g.es.take k) st0 L2 L4 M te q g.vs mes R s
theorem box_ne {st:St} {a b:Nat} {x y:LObj} (ha:st.H a=x) (hb:st.H b=y) (h:x≠y):¬ a=b:=fun e=>h (by rw [← ha,e,hb])
theorem z0_edsB (l:List Ed):z0L (eds l)=eds l:=by
 induction l with
 | nil=>rfl
 | cons e l ih=>simp only [eds,List.flatMap_cons,List.cons_append,List.nil_append,z0L,z0] at ih ⊢;rw [ih]
theorem z0_cellsT (R:List TR):z0L (cellsT R)=R.map fun p=>.sl 0 p.2.length (us p.2):=by
 rw [z0L_map,cellsT,List.map_map]
 refine List.map_congr_left fun p _=>?_
 simp [cellT,z0]
set_option maxHeartbeats 2000000 in
theorem Simple (g:Gr) (st:St) (hv:g.vs.length≤1048576) (he:g.es.length≤1000) (hp:0 < st.next):
 ACalls Tryz.prog 57 [.ag (grL g)] st fun r st'=>r=.tu [.ag [.sl 0 g.vs.length (us g.vs),.sl 0 (sE g.es).length (eds (sE g.es))],.sl 0 (bnd g.es).length ((bnd g.es).map fun l=>.sl 0 l.length (us l))]∧Keeps st st':=by
 refine acalls_z0 ?_
 have hel:=eds_length g.es
 refine qO tabOk Tryz.func57 rfl rfl Tryz.ntmps57 (rs:=[.cell 2 35,.tmp 3]) rfl (by simp) ?_
 (repeat' (first | refine qS ?_ | (refine w_e [] ?_;intro J hJ;simp only [];simp [];(try (refine hJ _ _ ?_;clear hJ J;simp only [ak,reduceIte])))))
 refine qE (Clone g.vs 0 _ hv) (by simp []) ?_;rintro r st' ⟨rfl,hk1⟩
 have hn1:=hk1.next
 simp only [new_next] at hn1
 have hG1:st'.H st.next=.box 35 2 (grL g):=by rw [hk1.H _ (by simp<;>omega)];simp
 have hC1:st'.H (st.next+1)=.box 35 2 [.nil,.nil]:=by rw [hk1.H _ (by simp)];simp
 have hkp:Keeps st st':=((Keeps.new _ _).trans (Keeps.new _ _)).trans hk1
 generalize hL:st'=s1 at *
 have e1:¬ st.next=s1.next:=by omega
 have e2:¬ st.next=s1.next+1:=by omega
 (repeat' (first | refine qS ?_ | refine qB ?_ | ((first | (refine w_e [] ?_;intro J hJ;simp only []) | (refine e_go ?_));simp [e1,e2,hG1];(refine hJ _ _ ?_;clear hJ J;simp only [ak,reduceIte]))))
 refine awp_cell s1.next 38 3 (e:=35) (s:=2) [.sl 0 g.vs.length (us g.vs)] [] (by simp) ?_
 refine awp_ownM 5 25 1 (by simp) ?_
 refine qL (fun n fr s=>∃ k:Nat,k≤g.es.length∧n=g.es.length - k∧SimI g st (st.next+1) s1.next (s1.next+1) k fr s) g.es.length ?_ ?_
 ·refine ⟨0,by omega,by omega,by simp,by simp,by simp,by simp,by simp,by simp,s1.next+2,s1.next+3,[],[],by simp,?_⟩
  have h5:¬ st.next=s1.next+2:=by omega
  have h1:¬ st.next+1=s1.next:=by omega
  refine ⟨by simp [h1,h5,e1,e2,hC1],by simp [sE]<;>omega,by simp [sE],by simp,by simp [cellsT],by simp [bnd,sE],AtM.nil,by simp,by simp,⟨by omega,by omega,by omega,by omega,by omega,by simp<;>omega,by simp<;>omega,by simp,by simp,by simp⟩,?_⟩
  exact (((((hkp.trans (Keeps.new _ _)).trans (Keeps.new _ _)).trans (Keeps.new _ _)).set (by omega) _).trans (Keeps.new _ _))
 rintro n fr s ⟨k,hk,rfl,f2,f4,f6,f18,f19,f20,te,q,mes,R,f5,hB⟩ JJ hJJ
 obtain ⟨H2,H4,Ht,HM,Hq,hbn,hat,hnd,htk,⟨b1,b2,b3,b4,b5,b6,b7,b8,b9,b10⟩,hkps⟩:=hB
 have q24:¬ q=s1.next:=box_ne Hq H4 (by simp)
 by_cases hlt:k < g.es.length
 rotate_left
 ·clear hJJ
  have hk':k=g.es.length:=by omega
  rw [hk',List.take_length] at H4 Ht hbn
  have hbl:(bnd g.es).length=R.length:=by rw [← hbn,List.length_map]
  have n1:¬ st.next+1=q:=box_ne H2 Hq (by simp)
  have n2:¬ s1.next=q:=fun h=>q24 h.symm
  have n3:¬ s1.next=st.next+1:=by omega
  have hsl:=sE_len g.es
  refine awp_freeze 5 f5 Hq (by simp [cellsT_len]) ?_
  have htk2:(cellsT R).take (R.length * 1)=cellsT R:=List.take_of_length_le (by rw [cellsT_len];omega)
  rw [htk2]
  (repeat' (first | refine qS ?_ | (refine qX ?_;simp only [ak,reduceIte]) | (refine qR ?_;simp only [ak,reduceIte];simp [f2,f4,f19,f20,hlt,H4,H2,n1,n2,n3]) | (refine qC ?_;simp [f2,f4,f19,f20,hlt,H4,H2,n1,n2,n3]) | (refine w_e [] ?_;intro J hJ;simp only [];simp [f2,f4,f19,f20,hlt,H4,H2,n1,n2,n3];(refine hJ _ _ ?_;clear hJ J;simp only [ak,reduceIte]))))
  refine ⟨?_,(hkps.set (by omega) _).set (by omega) _⟩
  rw [hbl,← hbn]
  simp only [z0,z0L,z0_us,z0_edsB,z0_cellsT,List.map_map]
  rfl
 have hd:=eds_drop g.es k hlt
 have hw:=qN k (by omega)
 have hk3:k * 3 < g.es.length * 3:=by omega
 have htk1:g.es.take (k+1)=g.es.take k++[g.es.getD k ed0]:=by
  rw [List.getD_eq_getElem?_getD,List.getElem?_eq_getElem hlt];exact List.take_succ_eq_append_getElem hlt
 have hEl:(g.es.take k).length≤1000:=by rw [List.length_take];omega
 generalize g.es.getD k ed0=x at *
 generalize hE:g.es.take k=E at *
 obtain ⟨id,a,b⟩:=x
 simp only at hd
 cases hany:(sE E).any (bes ⟨id,a,b⟩)
 ·have hm:=hat.new ⟨id,a,b⟩ hany
  simp only [kE] at hm
  have hsm:(List.map (fun _:Ed=>3) (sE E)).sum=(sE E).length * 3:=by
   induction sE E with
   | nil=>rfl
   | cons x l ih=>simp only [List.map_cons,List.sum_cons,List.length_cons,ih];omega
  have hsl:=sE_len E
  have te0:¬ te=0:=by omega
  have hcl:=cellsT_len R
  have hRl:R.length=(sE E).length:=by rw [← bnd_len,← hbn,List.length_map]
  have htR:List.take R.length (cellsT R)=cellsT R:=List.take_of_length_le (by omega)
  have hdl:List.drop R.length (cellsT R++[LV.nil])=[.nil]:=by rw [← hcl];exact List.drop_left
  have htl:List.take R.length (cellsT R++[LV.nil])=cellsT R:=by rw [← hcl];exact List.take_left
  have hdl2:List.drop (R.length+1) (cellsT R++[LV.nil])=[]:=List.drop_eq_nil_of_le (by simp [hcl])
  have hRn:((R.length:Int)).toNat=R.length:=by omega
  have c0:¬ s1.next=s.next:=by omega
  have c0':¬ s.next=s1.next:=by omega
  have c1:¬ s1.next=s.next+1:=by omega
  have c1':¬ s.next+1=s1.next:=by omega
  have c2:¬ s1.next=s.next+2:=by omega
  have c2':¬ s.next+2=s1.next:=by omega
  have c3:¬ s1.next=s.next+3:=by omega
  have c3':¬ s.next+3=s1.next:=by omega
  have c4:¬ s1.next=s.next+4:=by omega
  have c4':¬ s.next+4=s1.next:=by omega
  have e0:¬ te=s.next:=by omega
  have e0':¬ s.next=te:=by omega
  have e1:¬ te=s.next+1:=by omega
  have e1':¬ s.next+1=te:=by omega
  have e2:¬ te=s.next+2:=by omega
  have e2':¬ s.next+2=te:=by omega
  have e3:¬ te=s.next+3:=by omega
  have e3':¬ s.next+3=te:=by omega
  have e4:¬ te=s.next+4:=by omega
  have e4':¬ s.next+4=te:=by omega
  have d0:¬ q=s.next:=by omega
  have d0':¬ s.next=q:=by omega
  have d1:¬ q=s.next+1:=by omega
  have d1':¬ s.next+1=q:=by omega
  have d2:¬ q=s.next+2:=by omega
  have d2':¬ s.next+2=q:=by omega
  have d3:¬ q=s.next+3:=by omega
  have d3':¬ s.next+3=q:=by omega
  have d4:¬ q=s.next+4:=by omega
  have d4':¬ s.next+4=q:=by omega
  have c9:¬ s1.next+1=s.next:=by omega
  have c9':¬ s.next=s1.next+1:=by omega
  have n1:¬ te=s1.next:=box_ne Ht H4 (by simp)
  have n2:¬ te=s1.next+1:=box_ne Ht HM (by simp)
  have n3:¬ q=s1.next+1:=box_ne Hq HM (by simp)
  have n4:¬ q=te:=box_ne Hq Ht (by simp)
  have n1':¬ s1.next=te:=fun h=>n1 h.symm
  have n2':¬ s1.next+1=te:=fun h=>n2 h.symm
  have n3':¬ s1.next+1=q:=fun h=>n3 h.symm
  have n4':¬ te=q:=fun h=>n4 h.symm
  have n5':¬ s1.next=q:=fun h=>q24 h.symm
  have r2:¬ s.next=s.next+1+1:=by omega
  have r3:¬ s.next=s.next+1+1+1:=by omega
  have r4:¬ s.next=s.next+1+1+1+1:=by omega
  have r5:¬ s.next=s.next+1+1+1+1+1:=by omega
  have r6:¬ s.next=s.next+1+1+1+1+1+1:=by omega
  have r7:¬ s.next=s.next+1+1+1+1+1+1+1:=by omega
  have p1:R.length < R.length+1:=by omega
  (repeat' (first | refine qS ?_ | refine qB ?_ | (refine qK ?_;simp only [ak,reduceIte]) | (refine qC ?_;simp [hcl,htR,hsm,te0,c0,c0',c1,c1',c2,c2',c3,c3',c4,c4',e0,e0',e1,e1',e2,e2',e3,e3',e4,e4',d0,d0',d1,d1',d2,d2',d3,d3',d4,d4',c9,c9',n1,n2,n3,n4,n1',n2',n3',n4',n5',Ht,Hq,q24,f4,f5,f6,f18,f19,f20,hlt,hd,hel,hk3,hw,H4,HM,hm]) | (refine w_e [] ?_;intro J hJ;simp only [];simp [hcl,htR,hsm,te0,c0,c0',c1,c1',c2,c2',c3,c3',c4,c4',e0,e0',e1,e1',e2,e2',e3,e3',e4,e4',d0,d0',d1,d1',d2,d2',d3,d3',d4,d4',c9,c9',n1,n2,n3,n4,n1',n2',n3',n4',n5',Ht,Hq,q24,f4,f5,f6,f18,f19,f20,hlt,hd,hel,hk3,hw,H4,HM,hm];(repeat refine ca ?_);(refine hJ _ _ ?_;clear hJ J;simp only [ak,reduceIte]))))
  (refine w_s [] [s.next,s.next+1+1+1+1+1] [(0,true),(1,true),(2,true),(3,true),(4,true),(5,true),(6,true),(7,true),(8,true),(9,true),(10,true),(11,false)] ?_;intro J hJ;simp [r2,r3,r4,r5,r6,r7,c0,c0',c1,c1',c2,c2',c3,c3',c4,c4',e0,e0',e1,e1',e2,e2',e3,e3',e4,e4',d0,d0',d1,d1',d2,d2',d3,d3',d4,d4',c9,c9',n1,n2,n3,n4,n1',n2',n3',n4',n5',hcl,htR,hdl,htl,hdl2,p1];(repeat refine ca ?_);(refine hJ _ _ ?_;clear hJ J;simp only [ak,reduceIte]))
  (repeat' (refine w_e [] ?_;intro J hJ;simp only [];simp [f20,hw];(refine hJ _ _ ?_;clear hJ J;simp only [ak,reduceIte])))
  have l1:¬ st.next+1=te:=box_ne H2 Ht (by simp)
  have l2:¬ st.next+1=q:=box_ne H2 Hq (by simp)
  obtain ⟨hs,hb⟩:=bnd_new hany
  refine hJJ (g.es.length - (k+1)) _ _ (by omega) ⟨k+1,by omega,rfl,by simp [f2],by simp [f4],by simp [f6],by simp [f18],by simp [f19],by simp,s.next+3,s.next+5,mset mes (kE ⟨id,a,b⟩) (i (sE E).length),R++[(s.next+7,[id])],by simp,?_⟩
  rw [htk1]
  refine ⟨?_,?_,?_,?_,?_,?_,hat.add hany,?_,?_,?_,?_⟩
  ·(repeat (first | rw [new_H,if_neg (α:=LObj) (by (try simp only [set_next,new_next]);omega)] | rw [set_H,if_neg (α:=LObj) (by omega)] | rw [new_H,if_pos (α:=LObj) (by (try simp only [set_next,new_next]))] | rw [set_H,if_pos (α:=LObj) (by omega)]));exact H2
  ·(repeat (first | rw [new_H,if_neg (α:=LObj) (by (try simp only [set_next,new_next]);omega)] | rw [set_H,if_neg (α:=LObj) (by omega)] | rw [new_H,if_pos (α:=LObj) (by (try simp only [set_next,new_next]))] | rw [set_H,if_pos (α:=LObj) (by omega)]));rw [hs];simp [eds]
  ·(repeat (first | rw [new_H,if_neg (α:=LObj) (by (try simp only [set_next,new_next]);omega)] | rw [set_H,if_neg (α:=LObj) (by omega)] | rw [new_H,if_pos (α:=LObj) (by (try simp only [set_next,new_next]))] | rw [set_H,if_pos (α:=LObj) (by omega)]));rw [hs];simp
  ·(repeat (first | rw [new_H,if_neg (α:=LObj) (by (try simp only [set_next,new_next]);omega)] | rw [set_H,if_neg (α:=LObj) (by omega)] | rw [new_H,if_pos (α:=LObj) (by (try simp only [set_next,new_next]))] | rw [set_H,if_pos (α:=LObj) (by omega)]));rw [hRl];rfl
  ·(repeat (first | rw [new_H,if_neg (α:=LObj) (by (try simp only [set_next,new_next]);omega)] | rw [set_H,if_neg (α:=LObj) (by omega)] | rw [new_H,if_pos (α:=LObj) (by (try simp only [set_next,new_next]))] | rw [set_H,if_pos (α:=LObj) (by omega)]));simp [cellsT,cellT]
  ·rw [List.map_append,hbn,hb];rfl
  ·rw [List.map_append,List.nodup_append]
   refine ⟨hnd,by simp,fun x hx y hy=>?_⟩
   obtain ⟨p,hp,rfl⟩:=List.mem_map.1 hx
   simp at hy
   have:=(htk p hp).2.1
   omega
  ·intro p hp
   rcases List.mem_append.1 hp with hp | hp
   ·obtain ⟨h1,h2,h3⟩:=htk p hp
    have t1:¬ p.1=te:=box_ne h3 Ht (by simp)
    have t2:¬ p.1=q:=box_ne h3 Hq (by simp)
    have t3:¬ p.1=s1.next:=box_ne h3 H4 (by simp)
    have t4:¬ p.1=s1.next+1:=box_ne h3 HM (by simp)
    refine ⟨h1,by simp<;>omega,?_⟩
    (repeat (first | rw [new_H,if_neg (α:=LObj) (by (try simp only [set_next,new_next]);omega)] | rw [set_H,if_neg (α:=LObj) (by omega)] | rw [new_H,if_pos (α:=LObj) (by (try simp only [set_next,new_next]))] | rw [set_H,if_pos (α:=LObj) (by omega)]));exact h3
   ·rw [List.mem_singleton] at hp
    subst hp
    refine ⟨by simp<;>omega,by simp,?_⟩
    (repeat (first | rw [new_H,if_neg (α:=LObj) (by (try simp only [set_next,new_next]);omega)] | rw [set_H,if_neg (α:=LObj) (by omega)] | rw [new_H,if_pos (α:=LObj) (by (try simp only [set_next,new_next]))] | rw [set_H,if_pos (α:=LObj) (by omega)]));rfl
  ·simp only [set_next,new_next];omega
  ·refine ⟨by have:=hkps.next;simp only [set_next,new_next];omega,fun l hl=>?_⟩
   (repeat (first | rw [new_H,if_neg (α:=LObj) (by (try simp only [set_next,new_next]);omega)] | rw [set_H,if_neg (α:=LObj) (by omega)] | rw [new_H,if_pos (α:=LObj) (by (try simp only [set_next,new_next]))] | rw [set_H,if_pos (α:=LObj) (by omega)]));exact hkps.H l hl
 obtain ⟨hs,L1,y,L2,B1,r,B2,hL,hyb,hB0,hBl,hB1,hrl⟩:=bnd_old hany
 have hm:=hat.old ⟨id,a,b⟩ L1 y L2 hL hyb
 simp only [kE] at hm
 rw [hB0] at hbn
 obtain ⟨R1,R',rfl,hR1,hR'⟩:=List.map_eq_append_iff.1 hbn
 obtain ⟨p,R2,rfl,hpr,hR2⟩:=List.map_eq_cons_iff.1 hR'
 obtain ⟨t0,r0⟩:=p
 simp only at hpr
 subst hpr
 obtain ⟨hb1,hb2,hb3⟩:=htk (t0,r0) (by simp)
 simp only at hb1 hb2 hb3
 have hR1l:R1.length=L1.length:=by rw [← hBl,← hR1,List.length_map]
 have hcl:(cellsT (R1++(t0,r0)::R2)).length=R1.length+(R2.length+1):=by rw [cellsT_len];simp
 have hRl:(R1++(t0,r0)::R2).length=R1.length+(R2.length+1):=by simp
 have hcs:cellsT (R1++(t0,r0)::R2)=cellsT R1++.sl t0 r0.length (us r0)::cellsT R2:=by simp [cellsT,cellT]
 have hc1:(cellsT R1).length=R1.length:=cellsT_len R1
 have hdl:List.drop R1.length (cellsT R1++LV.sl t0 r0.length (us r0)::cellsT R2)=.sl t0 r0.length (us r0)::cellsT R2:=by rw [← hc1];exact List.drop_left
 have htl:List.take R1.length (cellsT R1++LV.sl t0 r0.length (us r0)::cellsT R2)=cellsT R1:=by rw [← hc1];exact List.take_left
 have hdl2:List.drop (R1.length+1) (cellsT R1++LV.sl t0 r0.length (us r0)::cellsT R2)=cellsT R2:=by
  rw [← hc1,show cellsT R1++LV.sl t0 r0.length (us r0)::cellsT R2=(cellsT R1++[LV.sl t0 r0.length (us r0)])++cellsT R2 by simp]
  rw [show (cellsT R1).length+1=(cellsT R1++[LV.sl t0 r0.length (us r0)]).length by simp]
  exact List.drop_left
 rw [hRl] at f5
 rw [hcs] at Hq
 rw [← hR1l] at hm
 have t00:¬ t0=0:=by omega
 have m1:¬ s1.next=s.next:=by omega
 have m1':¬ s.next=s1.next:=by omega
 have m2:¬ s1.next+1=s.next:=by omega
 have m2':¬ s.next=s1.next+1:=by omega
 have m5:¬ t0=s.next:=by omega
 have m6:¬ t0=s.next+1:=by omega
 have m6b:¬ t0=s.next+2:=by omega
 have m5':¬ s.next=t0:=by omega
 have m6':¬ s.next+1=t0:=by omega
 have m6b':¬ s.next+2=t0:=by omega
 have m7:¬ q=s.next:=by omega
 have m8:¬ q=s.next+1:=by omega
 have m9:¬ q=s.next+2:=by omega
 have m9b:¬ q=s.next+3:=by omega
 have n4:¬ q=t0:=box_ne Hq hb3 (by simp)
 have r2:¬ s.next=s.next+1+1:=by omega
 have r3:¬ s.next=s.next+1+1+1:=by omega
 have p1:R1.length < R1.length+(R2.length+1):=by omega
 have p2:(R1.length:Int) < (R1.length:Int)+((R2.length:Int)+1):=by omega
 have hr1:r0.length≤1000:=by omega
 (repeat' (first | refine qS ?_ | refine qB ?_ | (refine qK ?_;simp only [ak,reduceIte]) | (refine qC ?_;simp [m1,m1',m2,m2',f4,f5,f6,f18,f19,f20,hlt,hd,hel,hk3,hw,HM,hm]) | (refine w_e [] ?_;intro J hJ;simp only [];simp [m1,m1',m2,m2',f4,f5,f6,f18,f19,f20,hlt,hd,hel,hk3,hw,HM,hm];(refine hJ _ _ ?_;clear hJ J;simp only [ak,reduceIte]))))
 (refine w_s [] [s.next,q] [(0,true),(1,true),(2,true),(3,true),(4,true),(5,true),(6,true),(7,true),(8,true),(9,true),(10,true),(11,false)] ?_;intro J hJ;simp [m1,m1',m2,m2',m5,m6,m6b,m5',m6',m6b',m7,m8,m9,m9b,n4,r2,r3,f5,Hq,hb3,hc1,hdl,htl,hdl2,p1,p2,t00];(repeat refine ca ?_);(refine hJ _ _ ?_;clear hJ J;simp only [ak,reduceIte]))
 (repeat' (refine w_e [] ?_;intro J hJ;simp only [];simp [f20,hw];(refine hJ _ _ ?_;clear hJ J;simp only [ak,reduceIte])))
 have l2:¬ st.next+1=q:=box_ne H2 Hq (by simp)
 have l3:¬ st.next+1=t0:=box_ne H2 hb3 (by simp)
 have l4:¬ s1.next=q:=fun h=>q24 h.symm
 have l5:¬ s1.next=t0:=box_ne H4 hb3 (by simp)
 have l6:¬ s1.next+1=q:=box_ne HM Hq (by simp)
 have l7:¬ s1.next+1=t0:=box_ne HM hb3 (by simp)
 have l8:¬ te=q:=box_ne Ht Hq (by simp)
 have l9:¬ te=t0:=box_ne Ht hb3 (by simp)
 refine hJJ (g.es.length - (k+1)) _ _ (by omega) ⟨k+1,by omega,rfl,by simp [f2],by simp [f4],by simp [f6],by simp [f18],by simp [f19],by simp,te,q,mes,R1++(s.next+3,r0++[id])::R2,by simp [f5],?_⟩
 rw [htk1]
 have hnd':=hnd
 rw [List.map_append,List.map_cons,List.nodup_append,List.nodup_cons] at hnd'
 obtain ⟨nd1,⟨nd2,nd3⟩,nd4⟩:=hnd'
 refine ⟨?_,?_,?_,?_,?_,?_,hat.keep hs,?_,?_,?_,?_⟩
 ·(repeat (first | rw [new_H,if_neg (α:=LObj) (by (try simp only [set_next,new_next]);omega)] | rw [set_H,if_neg (α:=LObj) (by omega)] | rw [new_H,if_pos (α:=LObj) (by (try simp only [set_next,new_next]))] | rw [set_H,if_pos (α:=LObj) (by omega)]));exact H2
 ·(repeat (first | rw [new_H,if_neg (α:=LObj) (by (try simp only [set_next,new_next]);omega)] | rw [set_H,if_neg (α:=LObj) (by omega)] | rw [new_H,if_pos (α:=LObj) (by (try simp only [set_next,new_next]))] | rw [set_H,if_pos (α:=LObj) (by omega)]));rw [hs];exact H4
 ·(repeat (first | rw [new_H,if_neg (α:=LObj) (by (try simp only [set_next,new_next]);omega)] | rw [set_H,if_neg (α:=LObj) (by omega)] | rw [new_H,if_pos (α:=LObj) (by (try simp only [set_next,new_next]))] | rw [set_H,if_pos (α:=LObj) (by omega)]));rw [hs];exact Ht
 ·(repeat (first | rw [new_H,if_neg (α:=LObj) (by (try simp only [set_next,new_next]);omega)] | rw [set_H,if_neg (α:=LObj) (by omega)] | rw [new_H,if_pos (α:=LObj) (by (try simp only [set_next,new_next]))] | rw [set_H,if_pos (α:=LObj) (by omega)]));exact HM
 ·(repeat (first | rw [new_H,if_neg (α:=LObj) (by (try simp only [set_next,new_next]);omega)] | rw [set_H,if_neg (α:=LObj) (by omega)] | rw [new_H,if_pos (α:=LObj) (by (try simp only [set_next,new_next]))] | rw [set_H,if_pos (α:=LObj) (by omega)]));simp [cellsT,cellT]
 ·rw [hB1,List.map_append,List.map_cons,hR1,hR2]
 ·rw [List.map_append,List.map_cons,List.nodup_append,List.nodup_cons]
  have lt1:∀ x∈R1.map (·.1),x < s.next:=fun x hx=>by
   obtain ⟨p,hp,rfl⟩:=List.mem_map.1 hx
   exact (htk p (by simp [hp])).2.1
  have lt2:∀ x∈R2.map (·.1),x < s.next:=fun x hx=>by
   obtain ⟨p,hp,rfl⟩:=List.mem_map.1 hx
   exact (htk p (by simp [hp])).2.1
  refine ⟨nd1,⟨fun h=>by have:=lt2 _ h;omega,nd3⟩,fun x hx y hy=>?_⟩
  rcases List.mem_cons.1 hy with rfl | hy
  ·have:=lt1 x hx;simp only;omega
  ·exact nd4 x hx y (List.mem_cons_of_mem _ hy)
 ·intro p hp
  have old:∀ p,p∈R1∨p∈R2→¬ p.1=t0→st.next≤p.1∧p.1 < s.next∧s.H p.1=.own 26 1 p.2.length∧¬ p.1=t0∧¬ p.1=q:=by
   intro p hp hne
   obtain ⟨h1,h2,h3⟩:=htk p (by rcases hp with hp | hp<;>simp [hp])
   exact ⟨h1,h2,h3,hne,box_ne h3 Hq (by simp)⟩
  have hp':(p∈R1∨p∈R2)∧¬ p.1=t0∨p=(s.next+3,r0++[id]):=by
   rcases List.mem_append.1 hp with hp | hp
   ·exact .inl ⟨.inl hp,nd4 _ (List.mem_map.2 ⟨p,hp,rfl⟩) t0 (by simp)⟩
   ·rcases List.mem_cons.1 hp with hp | hp
    ·exact .inr hp
    ·exact .inl ⟨.inr hp,fun h=>nd2 (by rw [← h];exact List.mem_map.2 ⟨p,hp,rfl⟩)⟩
  rcases hp' with ⟨hp,hne⟩ | rfl
  ·obtain ⟨h1,h2,h3,t1,t2⟩:=old p hp hne
   refine ⟨h1,by simp only [set_next,new_next];omega,?_⟩
   (repeat (first | rw [new_H,if_neg (α:=LObj) (by (try simp only [set_next,new_next]);omega)] | rw [set_H,if_neg (α:=LObj) (by omega)] | rw [new_H,if_pos (α:=LObj) (by (try simp only [set_next,new_next]))] | rw [set_H,if_pos (α:=LObj) (by omega)]));exact h3
  ·refine ⟨by simp only;omega,by simp,?_⟩
   simp only
   (repeat (first | rw [new_H,if_neg (α:=LObj) (by (try simp only [set_next,new_next]);omega)] | rw [set_H,if_neg (α:=LObj) (by omega)] | rw [new_H,if_pos (α:=LObj) (by (try simp only [set_next,new_next]))] | rw [set_H,if_pos (α:=LObj) (by omega)]));simp
 ·simp only [set_next,new_next];omega
 ·refine ⟨by have:=hkps.next;simp only [set_next,new_next];omega,fun l hl=>?_⟩
  (repeat (first | rw [new_H,if_neg (α:=LObj) (by (try simp only [set_next,new_next]);omega)] | rw [set_H,if_neg (α:=LObj) (by omega)] | rw [new_H,if_pos (α:=LObj) (by (try simp only [set_next,new_next]))] | rw [set_H,if_pos (α:=LObj) (by omega)]));exact hkps.H l hl
abbrev VB:=Int×Nat
def entM (H:List (Int×Int)) (L:List VB):List (List Int×LV):=L.map fun p=>([p.1],.ms p.2 0 (nbH p.1 H).length)
structure NbM (H:List (Int×Int)) (lo:Nat) (m:Nat) (L:List VB) (s:St):Prop where
 hm:s.H m=.map false [.u32] (entM H L)
 bx:∀ p∈L,lo≤p.2∧p.2 < s.next∧s.H p.2=.box 26 1 (us (nbH p.1 H))
 nd:(L.map (·.2)).Nodup
 kd:(L.map (·.1)).Nodup
 all:∀ v,nbH v H≠[]↔v∈L.map (·.1)
theorem entM_none {H:List (Int×Int)} {v:Int}:∀ {L:List VB},v∉L.map (·.1)→mget (entM H L) [v]=none
 | [],_=>rfl
 | p::L,h=>by
   simp only [List.map_cons,List.mem_cons,not_or] at h
   simp only [entM,List.map_cons,mget]
   rw [if_neg (by simpa using h.1)]
   exact entM_none h.2
theorem entM_some {H:List (Int×Int)} {v:Int} {q:Nat}:∀ {L1 L2:List VB},v∉L1.map (·.1)→mget (entM H (L1++(v,q)::L2)) [v]=some (.ms q 0 (nbH v H).length)
 | [],L2,_=>by simp [entM,mget]
 | p::L1,L2,h=>by
   simp only [List.map_cons,List.mem_cons,not_or] at h
   simp only [List.cons_append,entM,List.map_cons,mget]
   rw [if_neg (by simpa using h.1)]
   exact entM_some h.2
theorem entM_set {H H':List (Int×Int)} {v:Int} {q q':Nat}:∀ {L1 L2:List VB},v∉L1.map (·.1)→v∉L2.map (·.1)→(∀ u,u≠v→nbH u H'=nbH u H)→mset (entM H (L1++(v,q)::L2)) [v] (.ms q' 0 (nbH v H').length)=entM H' (L1++(v,q')::L2)
 | [],L2,_,h2,hn=>by
   simp only [List.nil_append,entM,List.map_cons,mset,beq_self_eq_true,if_true]
   congr 1
   refine List.map_congr_left fun p hp=>?_
   rw [hn p.1 (fun e=>h2 (by rw [← e];exact List.mem_map.2 ⟨p,hp,rfl⟩))]
 | p::L1,L2,h,h2,hn=>by
   simp only [List.map_cons,List.mem_cons,not_or] at h
   have ih:=entM_set (H:=H) (H':=H') (q:=q) (q':=q') (L1:=L1) (L2:=L2) h.2 h2 hn
   simp only [List.cons_append,entM,List.map_cons,mset] at ih ⊢
   rw [if_neg (by simpa using h.1),ih,hn p.1 (fun e=>h.1 e.symm)]
theorem entM_add {H H':List (Int×Int)} {v:Int} {q':Nat}:∀ {L:List VB},v∉L.map (·.1)→(∀ u,u≠v→nbH u H'=nbH u H)→mset (entM H L) [v] (.ms q' 0 (nbH v H').length)=entM H' (L++[(v,q')])
 | [],_,_=>rfl
 | p::L,h,hn=>by
   simp only [List.map_cons,List.mem_cons,not_or] at h
   have ih:=entM_add (H:=H) (H':=H') (q':=q') (L:=L) h.2 hn
   simp only [List.cons_append,entM,List.map_cons,mset] at ih ⊢
   rw [if_neg (by simpa using h.1),ih,hn p.1 (fun e=>h.1 e.symm)]
theorem nbH_other {H:List (Int×Int)} {a b u:Int} (h:u≠a):nbH u (H++[(a,b)])=nbH u H:=by rw [nbH_snoc,if_neg (fun e=>h e.symm),List.append_nil]
theorem nbH_this {H:List (Int×Int)} {a b:Int}:nbH a (H++[(a,b)])=nbH a H++[b]:=by rw [nbH_snoc,if_pos rfl]
theorem NbM.add {H:List (Int×Int)} {lo m:Nat} {L:List VB} {s:St} (h:NbM H lo m L s) {a b:Int} (ha:a∉L.map (·.1)) {q':Nat} {s':St} (hq:lo≤q'∧s.next≤q'∧q' < s'.next)
 (hm:s'.H m=.map false [.u32] (mset (entM H L) [a] (.ms q' 0 (nbH a H++[b]).length))) (hb:s'.H q'=.box 26 1 (us (nbH a H++[b]))) (ho:∀ p∈L,s'.H p.2=s.H p.2) (hn:s.next≤s'.next):NbM (H++[(a,b)]) lo m (L++[(a,q')]) s':=by
 have hoth:∀ u,u≠a→nbH u (H++[(a,b)])=nbH u H:=fun u hu=>nbH_other hu
 refine ⟨?_,fun p hp=>?_,?_,?_,fun v=>?_⟩
 ·rw [hm,← nbH_this,entM_add ha hoth]
 ·rcases List.mem_append.1 hp with hp | hp
  ·obtain ⟨h1,h2,h3⟩:=h.bx p hp
   exact ⟨h1,by omega,by rw [ho p hp,h3,hoth p.1 (fun e=>ha (by rw [← e];exact List.mem_map.2 ⟨p,hp,rfl⟩))]⟩
  ·rw [List.mem_singleton] at hp
   subst hp
   exact ⟨hq.1,hq.2.2,by rw [hb,nbH_this]⟩
 ·rw [List.map_append,List.nodup_append]
  refine ⟨h.nd,by simp,fun x hx y hy=>?_⟩
  obtain ⟨p,hp,rfl⟩:=List.mem_map.1 hx
  simp at hy
  have:=(h.bx p hp).2.1
  omega
 ·rw [List.map_append,List.nodup_append]
  exact ⟨h.kd,by simp,fun x hx y hy=>by simp at hy;subst hy;rintro rfl;exact ha hx⟩
 ·rw [List.map_append,List.mem_append]
  by_cases hv:v=a
  ·subst hv;rw [nbH_this];simp
  ·rw [hoth v hv,h.all v]
   simp [hv]
theorem NbM.put {H:List (Int×Int)} {lo m:Nat} {L1 L2:List VB} {s:St} {a b:Int} {q:Nat} (h:NbM H lo m (L1++(a,q)::L2) s) {q':Nat} {s':St} (hq:lo≤q'∧s.next≤q'∧q' < s'.next)
 (hm:s'.H m=.map false [.u32] (mset (entM H (L1++(a,q)::L2)) [a] (.ms q' 0 (nbH a H++[b]).length))) (hb:s'.H q'=.box 26 1 (us (nbH a H++[b]))) (ho:∀ p,p∈L1∨p∈L2→p.2≠q→p.2 < s.next→s'.H p.2=s.H p.2) (hn:s.next≤s'.next):NbM (H++[(a,b)]) lo m (L1++(a,q')::L2) s':=by
 have hoth:∀ u,u≠a→nbH u (H++[(a,b)])=nbH u H:=fun u hu=>nbH_other hu
 have kd:=h.kd
 have nd:=h.nd
 rw [List.map_append,List.map_cons,List.nodup_append,List.nodup_cons] at kd nd
 obtain ⟨kd1,⟨kd2,kd3⟩,kd4⟩:=kd
 obtain ⟨nd1,⟨nd2,nd3⟩,nd4⟩:=nd
 have ha1:a∉L1.map (·.1):=fun e=>kd4 a e a (by simp) rfl
 have hb1:∀ p,p∈L1∨p∈L2→p.1≠a∧p.2≠q∧(lo≤p.2∧p.2 < s.next∧s.H p.2=.box 26 1 (us (nbH p.1 H))):=by
  intro p hp
  refine ⟨?_,?_,h.bx p (by rcases hp with hp | hp<;>simp [hp])⟩
  ·rcases hp with hp | hp
   ·exact fun e=>ha1 (by rw [← e];exact List.mem_map.2 ⟨p,hp,rfl⟩)
   ·exact fun e=>kd2 (by rw [← e];exact List.mem_map.2 ⟨p,hp,rfl⟩)
  ·rcases hp with hp | hp
   ·exact nd4 _ (List.mem_map.2 ⟨p,hp,rfl⟩) q (by simp)
   ·exact fun e=>nd2 (by rw [← e];exact List.mem_map.2 ⟨p,hp,rfl⟩)
 refine ⟨?_,fun p hp=>?_,?_,?_,fun v=>?_⟩
 ·rw [hm,← nbH_this,entM_set ha1 kd2 hoth]
 ·have hp':(p∈L1∨p∈L2)∨p=(a,q'):=by
   rcases List.mem_append.1 hp with hp | hp
   ·exact .inl (.inl hp)
   ·rcases List.mem_cons.1 hp with hp | hp
    ·exact .inr hp
    ·exact .inl (.inr hp)
  rcases hp' with hp | rfl
  ·obtain ⟨h1,h2,h3,h4,h5⟩:=hb1 p hp
   exact ⟨h3,by omega,by rw [ho p hp h2 h4,h5,hoth p.1 h1]⟩
  ·exact ⟨hq.1,hq.2.2,by rw [hb,nbH_this]⟩
 ·rw [List.map_append,List.map_cons,List.nodup_append,List.nodup_cons]
  have lt:∀ p,p∈L1∨p∈L2→p.2 < s.next:=fun p hp=>(hb1 p hp).2.2.2.1
  refine ⟨nd1,⟨fun e=>?_,nd3⟩,fun x hx y hy=>?_⟩
  ·obtain ⟨p,hp,e⟩:=List.mem_map.1 e
   have:=lt p (.inr hp);simp only at e;omega
  ·rcases List.mem_cons.1 hy with rfl | hy
   ·obtain ⟨p,hp,rfl⟩:=List.mem_map.1 hx
    have:=lt p (.inl hp);omega
   ·exact nd4 x hx y (List.mem_cons_of_mem _ hy)
 ·have:=h.kd
  rw [List.map_append,List.map_cons] at this ⊢
  exact this
 ·by_cases hv:v=a
  ·subst hv;rw [nbH_this];simp
  ·rw [hoth v hv,h.all v,List.map_append,List.map_append,List.map_cons,List.map_cons]
theorem nodup_map_inj {α β:Type} {f:α→β}:∀ {L:List α},(L.map f).Nodup→∀ {x y:α},x∈L→y∈L→f x=f y→x=y
 | [],_,_,_,hx,_,_=>by simp at hx
 | z::L,h,x,y,hx,hy,e=>by
   simp only [List.map_cons,List.nodup_cons] at h
   rcases List.mem_cons.1 hx with hx' | hx'<;>rcases List.mem_cons.1 hy with hy' | hy'
   ·rw [hx',hy']
   ·exact absurd (List.mem_map.2 ⟨y,hy',by rw [← e,hx']⟩) h.1
   ·exact absurd (List.mem_map.2 ⟨x,hx',by rw [e,hy']⟩) h.1
   ·exact nodup_map_inj h.2 hx' hy' e
theorem awp_cutB {P:Program} {N:Nat} {Q:AQ} {k:List AItem} {fr:Frm} {st:St} {x:Code} (I:Frm→St→Prop) (h1:AWp P N x (AK P N (fun e f s=>e=.normal∧I f s) []) fr st) (h2:∀ fr st,I fr st→AK P N Q k .normal fr st):
 AWp P N x (AK P N Q k) fr st:=by
 refine awp_mono h1 ?_
 rintro e fr' st' ⟨rfl,hI⟩
 exact h2 _ _ hI
theorem awp_weakB {P:Program} {N:Nat} {Q:AQ} {c:Code} {fr:Frm} {st:St} (I:Frm→St→Prop) (h0:I fr st) (h:∀ fr st,I fr st→AWp P N c Q fr st):AWp P N c Q fr st:=h _ _ h0
theorem NbM.keeps {H:List (Int×Int)} {lo m:Nat} {L:List VB} {s s':St} (h:NbM H lo m L s) (k:Keeps s s') (hm:m < s.next):NbM H lo m L s':=
 ⟨by rw [k.H m hm];exact h.hm,fun p hp=>by obtain ⟨h1,h2,h3⟩:=h.bx p hp;exact ⟨h1,Nat.lt_of_lt_of_le h2 k.next,by rw [k.H _ h2];exact h3⟩,h.nd,h.kd,h.all⟩
def SoI (st0:St) (H:List (Int×Int)) (M:Nat) (L:List VB) (Lr:List (List Int×LV)) (fr:Frm) (s:St):Prop:=
 fr 3=.mp M∧(Lr.map (·.1)).Nodup∧(∀ e∈Lr,∃ p∈L,e=([p.1],.ms p.2 0 (nbH p.1 H).length))∧s.H M=.frz false [.u32] (entM H L)∧M < s.next∧Keeps st0 s∧
 ∀ p∈L,p.2 < s.next∧∃ c,s.H p.2=.box 26 1 (us c)∧c.Perm (nbH p.1 H)∧([p.1]∉Lr.map (·.1)→c.Pairwise (·≤·))
def NrI (st0:St) (S:List Ed) (M k:Nat) (H:List (Int×Int)) (fr:Frm) (s:St):Prop:=
 fr 3=.mp M∧fr 17=.sl 0 S.length (eds S)∧fr 18=i S.length∧fr 19=i k∧st0.next≤M∧M < s.next∧Keeps st0 s∧∃ L,NbM H st0.next M L s
set_option maxHeartbeats 2000000 in
theorem nearbyM (g:Gr) (st:St) (hv:g.vs.length≤1048576) (he:g.es.length≤1000) (hp:0 < st.next):
 ACalls Tryz.prog 168 [.ag (grL g)] st fun r st'=>∃ m L,r=.mp m∧st.next≤m∧m < st'.next∧Keeps st st'∧st'.H m=.map false [.u32] (rowsM L)∧(∀ p∈L,st.next≤p.2.1∧st'.H p.2.1=.box 26 1 p.2.2)∧(L.map fun p=>p.2.1).Nodup∧
  ∃ K:List Int,K.Nodup∧(∀ v,nbH v (hfs (sE g.es))≠[]↔v∈K)∧L.map (fun p=>(p.1,p.2.2))=K.map fun v=>([v],us (nearF g.es v)):=by
 have hel:=eds_length (sE g.es)
 have hsl:=sE_len g.es
 refine qO tabOk Tryz.func168 rfl rfl Tryz.ntmps168 (rs:=[.tmp 2]) rfl (by simp) ?_
 (repeat' (first | refine qS ?_ | (refine w_e [] ?_;intro J hJ;simp only [];simp [];(try (refine hJ _ _ ?_;clear hJ J;simp only [ak,reduceIte])))))
 refine qE (Simple g _ hv he (by simp)) (by simp) ?_;rintro r s1 ⟨rfl,hk1⟩
 have hn1:=hk1.next
 simp only [new_next] at hn1
 have hkp1:Keeps st s1:=((Keeps.new _ _).trans (Keeps.new _ _)).trans hk1
 have hm1:s1.H (st.next+1)=.map false [.u32] []:=by rw [hk1.H _ (by simp)];simp
 have e1:¬ st.next+1=s1.next:=by omega
 generalize hbl:(bnd g.es).length=bl
 generalize hbc:((bnd g.es).map fun l=>LV.sl 0 l.length (us l))=bc
 (repeat' (first | refine qS ?_ | refine qB ?_ | ((first | (refine w_e [] ?_;intro J hJ;simp only []) | (refine e_go ?_));simp [hel];(refine hJ _ _ ?_;clear hJ J;simp only [ak,reduceIte]))))
 refine qL (fun n fr s=>∃ k:Nat,k≤(sE g.es).length∧n=(sE g.es).length - k∧NrI st (sE g.es) (st.next+1) k (hfs ((sE g.es).take k)) fr s) (sE g.es).length ?_ ?_
 ·refine ⟨0,by omega,by omega,by simp,by simp,by simp,by simp,by omega,by simp;omega,(hkp1.trans (Keeps.new _ _)),[],?_⟩
  exact ⟨by simp [e1,hm1,entM],by simp,by simp,by simp,by simp [hfs,nbH]⟩
 rintro n fr s ⟨k,hk,rfl,f3,f17,f18,f19,hM1,hM2,hkp,L,hNb⟩ JJ hJJ
 generalize hMM:st.next+1=M at *
 by_cases hlt:k < (sE g.es).length
 rotate_left
 ·clear hJJ
  have hk':k=(sE g.es).length:=by omega
  rw [hk',List.take_length] at hNb
  refine qS ?_
  (refine w_e [] ?_;intro J hJ;simp only [];simp [f18,f19,hlt];(refine hJ _ _ ?_;clear hJ J;simp only [ak,reduceIte]))
  refine qS ?_
  (refine qC ?_;simp [])
  refine qX ?_;simp only [ak,reduceIte]
  have hHl:(hfs (sE g.es)).length≤2000:=by rw [hfs_len];omega
  generalize hHH:hfs (sE g.es)=H at *
  refine qS ?_
  refine awp_mapRange tabOk [] (SoI st H M L) (by simp [f3]) hNb.hm ?_ ?_ ?_ Tryz.underlying71
  ·intro r
   refine ⟨by simp [f3],?_,?_,by simp,by simp;omega,hkp.set hM1 _,fun p hp=>?_⟩
   ·have:=hNb.kd
    rw [entM,List.map_map]
    have e:L.map ((fun x=>x.1)∘fun p:VB=>(([p.1],LV.ms p.2 0 (nbH p.1 H).length):List Int×LV))=(L.map (·.1)).map fun v=>[v]:=by rw [List.map_map];rfl
    rw [e]
    exact this.map (fun v=>[v]) fun a b hab h=>hab (by simpa using h)
   ·intro e hee
    obtain ⟨p,hp,rfl⟩:=List.mem_map.1 hee
    exact ⟨p,hp,rfl⟩
   ·obtain ⟨h1,h2,h3⟩:=hNb.bx p hp
    have h4:¬ p.2=M:=box_ne h3 hNb.hm (by simp)
    refine ⟨by simp;exact h2,nbH p.1 H,by rw [set_H,if_neg h4];exact h3,.refl _,fun h=>absurd (List.mem_map.2 ⟨_,List.mem_map.2 ⟨p,hp,rfl⟩,rfl⟩) h⟩
  ·rintro r L1 e L2 fr s2 ⟨F3,hnd,hem,hMd,hMl,hK2,hbx⟩ ft J hJ
   obtain ⟨p,hp,rfl⟩:=hem e (by simp)
   obtain ⟨v,q⟩:=p
   obtain ⟨hql,c,hcH,hcp,-⟩:=hbx (v,q) hp
   have hcl:c.length=(nbH v H).length:=hcp.length_eq
   have hnl:=nbH_len v H
   simp only at hcl hcH hql hcp
   have hsort:=SortU c q s2 (by omega) hql hcH
   rw [hcl] at hsort
   refine e_go ?_
   simp [keyV,mkC]
   (repeat' (refine w_e [] ?_;intro J hJ;simp only [];simp []))
   refine qE (hsort) (by simp []) ?_;rintro r st' ⟨d,hd1,hd2,hd3,hd4⟩
   (repeat' (refine e_go ?_;simp [];(refine hJ _ _ ?_;clear hJ J;simp only [ak,reduceIte])))
   rw [List.map_append,List.map_cons,List.nodup_append,List.nodup_cons] at hnd
   obtain ⟨nd1,⟨nd2,nd3⟩,nd4⟩:=hnd
   have hMq:¬ M=q:=fun h=>by rw [h,hcH] at hMd;cases hMd
   refine hJ _ _ ⟨by simp [F3],?_,fun e he=>hem e (by simp only [List.mem_append,List.mem_cons] at he ⊢;rcases he with h | h;exact .inl h;exact .inr (.inr h)),by rw [hd4.2 M hMq hMl];exact hMd,Nat.lt_of_lt_of_le hMl hd4.1,?_,fun p hp2=>?_⟩ (by simp [ft]) (by rw [hd4.2 M hMq hMl];exact hMd)
   ·rw [List.map_append,List.nodup_append]
    exact ⟨nd1,nd3,fun a ha b hb=>nd4 a ha b (List.mem_cons_of_mem _ hb)⟩
   ·have hq0:st.next≤q:=(hNb.bx (v,q) hp).1
    exact ⟨Nat.le_trans hK2.next hd4.1,fun l hl=>by rw [hd4.2 l (by omega) (Nat.lt_of_lt_of_le hl hK2.next)];exact hK2.H l hl⟩
   ·obtain ⟨h1,c2,h2,h3,h4⟩:=hbx p hp2
    by_cases hpq:p.2=q
    ·obtain rfl:p=(v,q):=by
      exact nodup_map_inj hNb.nd hp2 hp hpq
     exact ⟨Nat.lt_of_lt_of_le h1 hd4.1,d,hd1,hd2.trans hcp,fun _=>hd3⟩
    ·refine ⟨Nat.lt_of_lt_of_le h1 hd4.1,c2,by rw [hd4.2 _ hpq h1];exact h2,h3,fun hno=>h4 fun hin=>hno ?_⟩
     rw [List.map_append,List.map_cons,List.mem_append,List.mem_cons] at hin
     rw [List.map_append,List.mem_append]
     rcases hin with h | h | h
     ·exact .inl h
     ·exfalso
      simp at h
      have e2:=nodup_map_inj hNb.kd hp2 hp h
      exact hpq (by rw [e2])
     ·exact .inr h
  ·rintro fr s2 ⟨F3,-,-,hMd,hMl,hK2,hbx⟩
   simp only [ak]
   have hnl:∀ v,(us (nearF g.es v)).length=(nbH v H).length:=fun v=>by
    rw [List.length_map,← hHH];exact (srt_perm _).length_eq
   (repeat' (first | refine qS ?_ | (refine qR ?_;simp only [ak,reduceIte];simp [F3]) | (refine w_e [] ?_;intro J hJ;simp only [];simp [F3];(refine hJ _ _ ?_;clear hJ J;simp only [ak,reduceIte]))))
   refine ⟨hM1,by omega,hK2.set hM1 _,L.map fun p=>([p.1],p.2,us (nearF g.es p.1)),?_,?_,?_,L.map (·.1),hNb.kd,?_,?_⟩
   ·congr 1
    rw [rowsM,List.map_map,entM]
    refine List.map_congr_left fun p _=>?_
    simp only [Function.comp,hnl]
   ·intro a q b hin
    obtain ⟨p,hp,he⟩:=List.mem_map.1 hin
    injection he with e1 e2
    injection e2 with e2 e3
    subst e1 e2 e3
    obtain ⟨h1,c,h2,h3,h4⟩:=hbx p hp
    have h5:¬ p.2=M:=fun h=>by rw [h,hMd] at h2;cases h2
    rw [if_neg h5]
    refine ⟨(hNb.bx p hp).1,?_⟩
    rw [h2,srt_of h3 (h4 (by simp)),← hHH];rfl
   ·have:=hNb.nd
    rw [List.map_map];exact this
   ·intro v
    exact hNb.all v
   ·rw [List.map_map,List.map_map];rfl
 have hd:=eds_drop (sE g.es) k hlt
 have hw:=qN k (by omega)
 have hk3:k * 3 < (sE g.es).length * 3:=by omega
 have htk1:(sE g.es).take (k+1)=(sE g.es).take k++[(sE g.es).getD k ed0]:=by
  rw [List.getD_eq_getElem?_getD,List.getElem?_eq_getElem hlt];exact List.take_succ_eq_append_getElem hlt
 have hEl:(hfs ((sE g.es).take k)).length≤2000:=by rw [hfs_len,List.length_take];omega
 generalize (sE g.es).getD k ed0=x at *
 have hH2:hfs ((sE g.es).take (k+1))=hfs ((sE g.es).take k)++[(x.a,x.b)]++[(x.b,x.a)]:=by rw [htk1,hfs_snoc]
 obtain ⟨id,a,b⟩:=x
 simp only at hd hH2
 generalize hfs ((sE g.es).take k)=H at *
 have b0:¬ s.next=M:=by omega
 (repeat' (first | refine qS ?_ | refine qB ?_ | (refine qK ?_;simp only [ak,reduceIte]) | (refine qC ?_;simp [f17,f18,f19,hlt,hd,hel,hk3]) | (refine w_e [] ?_;intro J hJ;simp only [];simp [f17,f18,f19,hlt,hd,hel,hk3];(refine hJ _ _ ?_;clear hJ J;simp only [ak,reduceIte]))))
 refine awp_weakB (fun f s'=>NrI st (sE g.es) M k H f s'∧f 7=.pt s.next 0∧s.next < s'.next∧s'.H s.next=.box 38 3 [u id,u a,u b]) ?_ ?_
 ·exact ⟨⟨by simp [f3],by simp [f17],by simp [f18],by simp [f19],hM1,by simp;omega,hkp.trans (Keeps.new _ _),L,hNb.keeps (Keeps.new _ _) hM2⟩,by simp,by simp,by simp⟩
 generalize s.next=X at *
 clear hNb hkp hM1 hM2 f19 f18 f17 f3 L
 rintro fr s ⟨⟨f3,f17,f18,f19,hM1,hM2,hkp,L,hNb⟩,f7,hXl,hX⟩
 refine awp_cut1 (fun f s'=>NrI st (sE g.es) M k (H++[(a,b)]) f s'∧f 7=.pt X 0∧X < s'.next∧s'.H X=.box 38 3 [u id,u a,u b]) ?_ ?_
 ·clear hJJ
  have hMl:=hNb.hm
  have x1:¬ X=M:=box_ne hX hMl (by simp)
  have x2:¬ M=X:=fun h=>x1 h.symm
  have x3:¬ X=s.next:=by omega
  have x4:¬ X=s.next+1:=by omega
  have y3:¬ M=s.next:=by omega
  have y4:¬ M=s.next+1:=by omega
  have y5:¬ s.next=M:=by omega
  have y6:¬ s.next+1=M:=by omega
  have hnl:=nbH_len a (H)
  by_cases hin:a∈L.map (·.1)
  ·obtain ⟨p,hp,rfl⟩:=List.mem_map.1 hin
   obtain ⟨v,q⟩:=p
   obtain ⟨L1,L2,rfl⟩:=List.append_of_mem hp
   have kd:=hNb.kd
   rw [List.map_append,List.map_cons,List.nodup_append] at kd
   have hget:=entM_some (H:=H) (q:=q) (L1:=L1) (L2:=L2) (v:=v) (fun e=>kd.2.2 v e v (by simp) rfl)
   obtain ⟨q1,q2,q3⟩:=hNb.bx (v,q) (by simp)
   simp only at q1 q2 q3 hnl
   have z1:¬ q=M:=box_ne q3 hMl (by simp)
   have z2:¬ q=s.next:=by omega
   have z3:¬ q=s.next+1:=by omega
   have z4:¬ X=q:=box_ne hX q3 (by simp)
   have z5:¬ M=q:=fun h=>z1 h.symm
   have z6:List.take (nbH v (H)).length (us (nbH v (H)))=us (nbH v (H)):=List.take_of_length_le (by simp)
   have put:=hNb.put (b:=b) (q':=s.next+1) (s':=(((s.new (.own 26 1 1)).set q .dead).new (.box 26 1 (us (nbH v (H)++[b])))).set M (.map false [.u32] (mset (entM (H) (L1++(v,q)::L2)) [v] (.ms (s.next+1) 0 (nbH v (H)++[b]).length)))) ⟨by omega,by omega,by simp⟩ (by simp) (by (repeat (first | rw [new_H,if_neg (α:=LObj) (by (try simp only [set_next,new_next]);omega)] | rw [set_H,if_neg (α:=LObj) (by omega)] | rw [new_H,if_pos (α:=LObj) (by (try simp only [set_next,new_next]))] | rw [set_H,if_pos (α:=LObj) (by omega)]))) (fun p hp h1 h2=>by
    have:=hNb.bx p (by rcases hp with hp | hp<;>simp [hp])
    have h3:¬ p.2=M:=box_ne this.2.2 hMl (by simp)
    (repeat (first | rw [new_H,if_neg (α:=LObj) (by (try simp only [set_next,new_next]);omega)] | rw [set_H,if_neg (α:=LObj) (by omega)] | rw [new_H,if_pos (α:=LObj) (by (try simp only [set_next,new_next]))] | rw [set_H,if_pos (α:=LObj) (by omega)]))) (by simp;omega)
   generalize hF:nbH v (H)=F at *
   generalize hN:entM (H) (L1++(v,q)::L2)=EM at *
   (refine w_s [33] [X,M] [(0,true),(1,true),(2,true),(3,true),(4,true),(5,true),(6,true),(7,true),(8,true),(9,true),(10,true),(11,false)] ?_;intro J hJ;simp [f3,f7,hX,hMl,x1,x2,x3,x4,y3,y4,y5,y6,hget,q3,z1,z2,z3,z4,z5,z6];(repeat refine ca ?_);(refine hJ _ _ ?_;clear hJ J;simp only [ak,reduceIte]))
   refine ⟨by trivial,⟨by simp [f3],by simp [f17],by simp [f18],by simp [f19],hM1,by simp;omega,?_,L1++(v,s.next+1)::L2,?_⟩,by simp [f7],by simp;omega,?_⟩
   ·refine ⟨by have:=hkp.next;simp;omega,fun l hl=>?_⟩
    have:=hkp.next
    (repeat (first | rw [new_H,if_neg (α:=LObj) (by (try simp only [set_next,new_next]);omega)] | rw [set_H,if_neg (α:=LObj) (by omega)] | rw [new_H,if_pos (α:=LObj) (by (try simp only [set_next,new_next]))] | rw [set_H,if_pos (α:=LObj) (by omega)]));exact hkp.H l hl
   ·simpa using put
   ·(repeat (first | rw [new_H,if_neg (α:=LObj) (by (try simp only [set_next,new_next]);omega)] | rw [set_H,if_neg (α:=LObj) (by omega)] | rw [new_H,if_pos (α:=LObj) (by (try simp only [set_next,new_next]))] | rw [set_H,if_pos (α:=LObj) (by omega)]));exact hX
  ·have hget:=entM_none (H:=H) hin
   have hnil:nbH a (H)=[]:=by
    cases hc:nbH a (H) with
    | nil=>rfl
    | cons _ _=>exact absurd ((hNb.all _).1 (by rw [hc];simp)) hin
   have put:=hNb.add (a:=a) (b:=b) (q':=s.next+1) (s':=((s.new (.own 26 1 1)).new (.box 26 1 (us (nbH a (H)++[b])))).set M (.map false [.u32] (mset (entM (H) L) [a] (.ms (s.next+1) 0 (nbH a (H)++[b]).length)))) hin ⟨by omega,by omega,by simp⟩ (by simp) (by (repeat (first | rw [new_H,if_neg (α:=LObj) (by (try simp only [set_next,new_next]);omega)] | rw [set_H,if_neg (α:=LObj) (by omega)] | rw [new_H,if_pos (α:=LObj) (by (try simp only [set_next,new_next]))] | rw [set_H,if_pos (α:=LObj) (by omega)]))) (fun p hp=>by
    have:=hNb.bx p hp
    have h3:¬ p.2=M:=box_ne this.2.2 hMl (by simp)
    (repeat (first | rw [new_H,if_neg (α:=LObj) (by (try simp only [set_next,new_next]);omega)] | rw [set_H,if_neg (α:=LObj) (by omega)] | rw [new_H,if_pos (α:=LObj) (by (try simp only [set_next,new_next]))] | rw [set_H,if_pos (α:=LObj) (by omega)]))) (by simp only [set_next,new_next];omega)
   rw [hnil] at put
   generalize hN:entM (H) L=EM at *
   (refine w_s [33] [X,M] [(0,true),(1,true),(2,true),(3,true),(4,true),(5,true),(6,true),(7,true),(8,true),(9,true),(10,true),(11,false)] ?_;intro J hJ;simp [f3,f7,hX,hMl,x1,x2,x3,x4,y3,y4,y5,y6,hget];(repeat refine ca ?_);(refine hJ _ _ ?_;clear hJ J;simp only [ak,reduceIte]))
   refine ⟨by trivial,⟨by simp [f3],by simp [f17],by simp [f18],by simp [f19],hM1,by simp;omega,?_,L++[(a,s.next+1)],?_⟩,by simp [f7],by simp;omega,?_⟩
   ·refine ⟨by have:=hkp.next;simp;omega,fun l hl=>?_⟩
    have:=hkp.next
    (repeat (first | rw [new_H,if_neg (α:=LObj) (by (try simp only [set_next,new_next]);omega)] | rw [set_H,if_neg (α:=LObj) (by omega)] | rw [new_H,if_pos (α:=LObj) (by (try simp only [set_next,new_next]))] | rw [set_H,if_pos (α:=LObj) (by omega)]));exact hkp.H l hl
   ·simpa using put
   ·(repeat (first | rw [new_H,if_neg (α:=LObj) (by (try simp only [set_next,new_next]);omega)] | rw [set_H,if_neg (α:=LObj) (by omega)] | rw [new_H,if_pos (α:=LObj) (by (try simp only [set_next,new_next]))] | rw [set_H,if_pos (α:=LObj) (by omega)]));exact hX
 clear hNb hkp hM1 hM2 f19 f18 f17 f3 f7 hXl hX L
 rintro fr s ⟨⟨f3,f17,f18,f19,hM1,hM2,hkp,L,hNb⟩,f7,hXl,hX⟩
 have hEl2:(H++[(a,b)]).length≤2001:=by rw [List.length_append];simp only [List.length_cons,List.length_nil];omega
 generalize H++[(a,b)]=H2 at *
 refine awp_cutB (fun f s'=>NrI st (sE g.es) M k (H2++[(b,a)]) f s'∧f 7=.pt X 0∧X < s'.next∧s'.H X=.box 38 3 [u id,u a,u b]) ?_ ?_
 ·clear hJJ
  have hMl:=hNb.hm
  have x1:¬ X=M:=box_ne hX hMl (by simp)
  have x2:¬ M=X:=fun h=>x1 h.symm
  have x3:¬ X=s.next:=by omega
  have x4:¬ X=s.next+1:=by omega
  have y3:¬ M=s.next:=by omega
  have y4:¬ M=s.next+1:=by omega
  have y5:¬ s.next=M:=by omega
  have y6:¬ s.next+1=M:=by omega
  have hnl:=nbH_len b (H2)
  by_cases hin:b∈L.map (·.1)
  ·obtain ⟨p,hp,rfl⟩:=List.mem_map.1 hin
   obtain ⟨v,q⟩:=p
   obtain ⟨L1,L2,rfl⟩:=List.append_of_mem hp
   have kd:=hNb.kd
   rw [List.map_append,List.map_cons,List.nodup_append] at kd
   have hget:=entM_some (H:=H2) (q:=q) (L1:=L1) (L2:=L2) (v:=v) (fun e=>kd.2.2 v e v (by simp) rfl)
   obtain ⟨q1,q2,q3⟩:=hNb.bx (v,q) (by simp)
   simp only at q1 q2 q3 hnl
   have z1:¬ q=M:=box_ne q3 hMl (by simp)
   have z2:¬ q=s.next:=by omega
   have z3:¬ q=s.next+1:=by omega
   have z4:¬ X=q:=box_ne hX q3 (by simp)
   have z5:¬ M=q:=fun h=>z1 h.symm
   have z6:List.take (nbH v (H2)).length (us (nbH v (H2)))=us (nbH v (H2)):=List.take_of_length_le (by simp)
   have put:=hNb.put (b:=a) (q':=s.next+1) (s':=(((s.new (.own 26 1 1)).set q .dead).new (.box 26 1 (us (nbH v (H2)++[a])))).set M (.map false [.u32] (mset (entM (H2) (L1++(v,q)::L2)) [v] (.ms (s.next+1) 0 (nbH v (H2)++[a]).length)))) ⟨by omega,by omega,by simp⟩ (by simp) (by (repeat (first | rw [new_H,if_neg (α:=LObj) (by (try simp only [set_next,new_next]);omega)] | rw [set_H,if_neg (α:=LObj) (by omega)] | rw [new_H,if_pos (α:=LObj) (by (try simp only [set_next,new_next]))] | rw [set_H,if_pos (α:=LObj) (by omega)]))) (fun p hp h1 h2=>by
    have:=hNb.bx p (by rcases hp with hp | hp<;>simp [hp])
    have h3:¬ p.2=M:=box_ne this.2.2 hMl (by simp)
    (repeat (first | rw [new_H,if_neg (α:=LObj) (by (try simp only [set_next,new_next]);omega)] | rw [set_H,if_neg (α:=LObj) (by omega)] | rw [new_H,if_pos (α:=LObj) (by (try simp only [set_next,new_next]))] | rw [set_H,if_pos (α:=LObj) (by omega)]))) (by simp;omega)
   generalize hF:nbH v (H2)=F at *
   generalize hN:entM (H2) (L1++(v,q)::L2)=EM at *
   (refine w_s [44] [X,M] [(0,true),(1,true),(2,true),(3,true),(4,true),(5,true),(6,true),(7,true),(8,true),(9,true),(10,true),(11,false)] ?_;intro J hJ;simp [f3,f7,hX,hMl,x1,x2,x3,x4,y3,y4,y5,y6,hget,q3,z1,z2,z3,z4,z5,z6];(repeat refine ca ?_);(refine hJ _ _ ?_;clear hJ J;simp only [ak,reduceIte]))
   refine ⟨by trivial,⟨by simp [f3],by simp [f17],by simp [f18],by simp [f19],hM1,by simp;omega,?_,L1++(v,s.next+1)::L2,?_⟩,by simp [f7],by simp;omega,?_⟩
   ·refine ⟨by have:=hkp.next;simp;omega,fun l hl=>?_⟩
    have:=hkp.next
    (repeat (first | rw [new_H,if_neg (α:=LObj) (by (try simp only [set_next,new_next]);omega)] | rw [set_H,if_neg (α:=LObj) (by omega)] | rw [new_H,if_pos (α:=LObj) (by (try simp only [set_next,new_next]))] | rw [set_H,if_pos (α:=LObj) (by omega)]));exact hkp.H l hl
   ·simpa using put
   ·(repeat (first | rw [new_H,if_neg (α:=LObj) (by (try simp only [set_next,new_next]);omega)] | rw [set_H,if_neg (α:=LObj) (by omega)] | rw [new_H,if_pos (α:=LObj) (by (try simp only [set_next,new_next]))] | rw [set_H,if_pos (α:=LObj) (by omega)]));exact hX
  ·have hget:=entM_none (H:=H2) hin
   have hnil:nbH b (H2)=[]:=by
    cases hc:nbH b (H2) with
    | nil=>rfl
    | cons _ _=>exact absurd ((hNb.all _).1 (by rw [hc];simp)) hin
   have put:=hNb.add (a:=b) (b:=a) (q':=s.next+1) (s':=((s.new (.own 26 1 1)).new (.box 26 1 (us (nbH b (H2)++[a])))).set M (.map false [.u32] (mset (entM (H2) L) [b] (.ms (s.next+1) 0 (nbH b (H2)++[a]).length)))) hin ⟨by omega,by omega,by simp⟩ (by simp) (by (repeat (first | rw [new_H,if_neg (α:=LObj) (by (try simp only [set_next,new_next]);omega)] | rw [set_H,if_neg (α:=LObj) (by omega)] | rw [new_H,if_pos (α:=LObj) (by (try simp only [set_next,new_next]))] | rw [set_H,if_pos (α:=LObj) (by omega)]))) (fun p hp=>by
    have:=hNb.bx p hp
    have h3:¬ p.2=M:=box_ne this.2.2 hMl (by simp)
    (repeat (first | rw [new_H,if_neg (α:=LObj) (by (try simp only [set_next,new_next]);omega)] | rw [set_H,if_neg (α:=LObj) (by omega)] | rw [new_H,if_pos (α:=LObj) (by (try simp only [set_next,new_next]))] | rw [set_H,if_pos (α:=LObj) (by omega)]))) (by simp only [set_next,new_next];omega)
   rw [hnil] at put
   generalize hN:entM (H2) L=EM at *
   (refine w_s [44] [X,M] [(0,true),(1,true),(2,true),(3,true),(4,true),(5,true),(6,true),(7,true),(8,true),(9,true),(10,true),(11,false)] ?_;intro J hJ;simp [f3,f7,hX,hMl,x1,x2,x3,x4,y3,y4,y5,y6,hget];(repeat refine ca ?_);(refine hJ _ _ ?_;clear hJ J;simp only [ak,reduceIte]))
   refine ⟨by trivial,⟨by simp [f3],by simp [f17],by simp [f18],by simp [f19],hM1,by simp;omega,?_,L++[(b,s.next+1)],?_⟩,by simp [f7],by simp;omega,?_⟩
   ·refine ⟨by have:=hkp.next;simp;omega,fun l hl=>?_⟩
    have:=hkp.next
    (repeat (first | rw [new_H,if_neg (α:=LObj) (by (try simp only [set_next,new_next]);omega)] | rw [set_H,if_neg (α:=LObj) (by omega)] | rw [new_H,if_pos (α:=LObj) (by (try simp only [set_next,new_next]))] | rw [set_H,if_pos (α:=LObj) (by omega)]));exact hkp.H l hl
   ·simpa using put
   ·(repeat (first | rw [new_H,if_neg (α:=LObj) (by (try simp only [set_next,new_next]);omega)] | rw [set_H,if_neg (α:=LObj) (by omega)] | rw [new_H,if_pos (α:=LObj) (by (try simp only [set_next,new_next]))] | rw [set_H,if_pos (α:=LObj) (by omega)]));exact hX
 clear hNb hkp hM1 hM2 f19 f18 f17 f3 f7 hXl hX L
 rintro fr s ⟨⟨f3,f17,f18,f19,hM1,hM2,hkp,L,hNb⟩,f7,hXl,hX⟩
 simp only [ak]
 (repeat' (refine w_e [] ?_;intro J hJ;simp only [];simp [f19,hw];(refine hJ _ _ ?_;clear hJ J;simp only [ak,reduceIte])))
 exact hJJ ((sE g.es).length - (k+1)) _ _ (by omega) ⟨k+1,by omega,rfl,by simp [f3],by simp [f17],by simp [f18],by simp,hM1,hM2,hkp,L,by rw [hH2];exact hNb⟩
def nbLV (es:List Ed) (v:Int):Option LV:=if nearF es v=[] then none else some (.sl 0 (nearF es v).length (us (nearF es v)))
theorem rowsV_get {es:List Ed} (v:Int):∀ {K:List Int},mget (K.map fun v=>(([v],.sl 0 (nearF es v).length (us (nearF es v))):List Int×LV)) [v]=if v∈K then some (.sl 0 (nearF es v).length (us (nearF es v))) else none
 | []=>rfl
 | k::K=>by
   simp only [List.map_cons,mget]
   by_cases h:v=k
   ·subst h;simp
   ·have h':¬ ([v]==[k])=true:=by simpa using h
    rw [if_neg h',rowsV_get v (K:=K)]
    simp [h]
theorem nearby (g:Gr) (st:St) (hv:g.vs.length≤1048576) (he:g.es.length≤1000) (hp:0 < st.next):
 ACalls Tryz.prog 168 [.ag (grL g)] st fun r st'=>∃ m es,r=.mp m∧st.next≤m∧m < st'.next∧Keeps st st'∧st'.H m=.map false [.u32] es∧∀ v,mget es [v]=nbLV g.es v:=by
 refine (acalls_mapRows (R:=fun L=>∃ K:List Int,K.Nodup∧(∀ v,nbH v (hfs (sE g.es))≠[]↔v∈K)∧L.map (fun p=>(p.1,p.2.2))=K.map fun v=>([v],us (nearF g.es v))) (nearbyM g st hv he hp)).mono ?_
 rintro r st' ⟨m,L,rfl,h1,h2,h3,h4,K,hK,hall,hL⟩
 refine ⟨m,_,rfl,h1,h2,h3,h4,fun v=>?_⟩
 have e:rowsV L=K.map fun v=>([v],.sl 0 (nearF g.es v).length (us (nearF g.es v))):=by
  have e1:rowsV L=(L.map fun p=>(p.1,p.2.2)).map fun p=>(p.1,LV.sl 0 p.2.length p.2):=by rw [List.map_map];rfl
  rw [e1,hL,List.map_map]
  refine List.map_congr_left fun v _=>?_
  simp
 rw [e,rowsV_get]
 unfold nbLV
 have hn:nearF g.es v=[]↔nbH v (hfs (sE g.es))=[]:=by
  have:=(srt_perm (nbH v (hfs (sE g.es)))).length_eq
  unfold nearF
  constructor
  ·intro h;rw [h] at this;exact List.eq_nil_of_length_eq_zero this.symm
  ·intro h;rw [h];rfl
 by_cases hv:v∈K
 ·rw [if_pos hv,if_neg (fun h=>(hall v).2 hv (hn.1 h))]
 ·rw [if_neg hv]
  split
  ·rfl
  ·rename_i h
   exact absurd ((hall v).1 fun h2=>h (hn.2 h2)) hv
def ledL (A:Led):List (List Int×LV):=A.map fun p=>([p.1],u p.2)
theorem mget_led (A:Led) (v:Int):mget (ledL A) [v]=(ledBy A v).map u:=by
 induction A with
 | nil=>rfl
 | cons p A ih=>
   simp only [ledL,List.map_cons,mget,ledBy] at ih ⊢
   by_cases h:v=p.1
   ·subst h;simp
   ·rw [if_neg (by simpa using h),if_neg h];exact ih
theorem mset_led {A:Led} {v w:Int} (h:v∉A.map (·.1)):mset (ledL A) [v] (u w)=ledL (A++[(v,w)]):=by
 induction A with
 | nil=>rfl
 | cons p A ih=>
   simp only [List.map_cons,List.mem_cons,not_or] at h
   have ih:=ih h.2
   simp only [ledL,List.map_cons,List.cons_append,mset] at ih ⊢
   rw [if_neg (by simpa using h.1),ih]
theorem back (A:Led) (ma:Nat) (from' to:Int) (n:Nat) (l:List Int) (st:St) (hn:n≤100000) (hl:backF A from' n to=some l) (hm:ma < st.next) (hH:st.H ma=.map false [.u32] (ledL A)):
 ACalls Tryz.prog 169 [.mp ma,u from',u to] st fun r st'=>r=.sl 0 (to::l).reverse.length (us (to::l).reverse)∧Keeps st st':=by
 have hll:=backF_len hl
 refine acalls_freeze ?_
 refine qO tabOk Tryz.func169 rfl rfl Tryz.ntmps169 (rs:=[.tmp 6]) rfl (by simp) ?_
 (repeat' (first | refine qS ?_ | refine qB ?_ | (refine w_e [10] ?_;intro J hJ;simp only [];simp [];(refine hJ _ _ ?_;clear hJ J;simp only [ak,reduceIte]))))
 refine qL (fun k fr s=>∃ (v:Int) (W R:List Int),backF A from' k v=some R∧to::l=W++R∧k≤n∧W.length+k≤n+1∧fr 0=.mp ma∧fr 1=u from'∧fr 8=u v∧∃ q,fr 7=.ms q 0 W.length∧s.H q=.box 26 1 (us W)∧st.next≤q∧q < s.next∧Keeps st s) n ?_ ?_
 ·exact ⟨to,[to],l,hl,rfl,by omega,by simp;omega,by simp,by simp,by simp,st.next,by simp,by simp,Nat.le_refl _,by simp,Keeps.new _ _⟩
 rintro k fr s ⟨v,W,R,hb,hW,hk,hWk,f0,f1,f8,q,f7,hq,hq0,hql,hkp⟩ JJ hJJ
 have hHs:s.H ma=.map false [.u32] (ledL A):=by rw [hkp.H ma hm];exact hH
 have hg:=mget_led A v
 by_cases hv:v=from'
 ·clear hJJ
  have hR:R=[]:=by
   cases k<;>(simp only [backF,if_pos hv,Option.some.injEq] at hb;exact hb.symm)
  subst hR
  rw [List.append_nil] at hW
  have hv2:(v != from')=false:=by simpa using hv
  (repeat' (first | refine qS ?_ | (refine qX ?_;simp only [ak,reduceIte]) | (refine qC ?_;simp [f1,f8,hv,hv2,f7]) | (refine w_e [] ?_;intro J hJ;simp only [];simp [f1,f8,hv,hv2,f7];(try (refine hJ _ _ ?_;clear hJ J;simp only [ak,reduceIte])))))
  refine qE (Reverse W q s (by unfold small;omega) hq) (by simp []) ?_;rintro r st' rfl
  (repeat' (first | refine qS ?_ | (refine qR ?_;simp only [ak,reduceIte];simp [f7]) | ((first | (refine w_e [] ?_;intro J hJ;simp only []) | (refine e_go ?_));simp [f7];(refine hJ _ _ ?_;clear hJ J;simp only [ak,reduceIte]))))
  exact ⟨q,W.length,⟨rfl,rfl⟩,26,1,us W.reverse,by simp,by simp,by subst hW;simp,(hkp.set hq0 _).set hq0 _⟩
 ·cases k with
  | zero=>simp only [backF,if_neg hv] at hb;cases hb
  | succ k=>
    simp only [backF,if_neg hv,Option.map_eq_some_iff] at hb
    obtain ⟨R',hb,rfl⟩:=hb
    have hv2:(v != from')=true:=by simpa using hv
    have hg2:((mget (ledL A) [v]).getD (u 0))=u ((ledBy A v).getD 0):=by rw [hg];cases ledBy A v<;>rfl
    generalize (ledBy A v).getD 0=x at *
    have q1:¬ q=s.next:=by omega
    have htk:List.take W.length (us W)=us W:=List.take_of_length_le (by simp)
    (repeat' (first | refine qS ?_ | refine qB ?_ | (refine qK ?_;simp only [ak,reduceIte]) | (refine qC ?_;simp [f0,f1,f8,hv,hv2,f7,hHs,hg2,q1,hq,htk]) | (refine w_e [] ?_;intro J hJ;simp only [];simp [f0,f1,f8,hv,hv2,f7,hHs,hg2,q1,hq,htk];(repeat refine ca ?_);(refine hJ _ _ ?_;clear hJ J;simp only [ak,reduceIte]))))
    refine hJJ k _ _ (by omega) ⟨x,W++[x],R',hb,by rw [hW];simp,by omega,by simp;omega,by simp [f0],by simp [f1],by simp,s.next+1,by simp,by simp,by have:=hkp.next;omega,by simp,?_⟩
    exact (((hkp.trans (Keeps.new _ _)).set hq0 _).trans (Keeps.new _ _))
def MayOk (th:LV) (may:Int→Bool) (st:St):Prop:=
 (th=.atom .nilFunc∧∀ v,may v=true)∨∃ f caps,th=.fn (.func f) caps∧caps.map norm=caps∧∀ v s,Keeps st s→ACalls Tryz.prog f (u v::caps) s fun r s'=>r=bb (may v)∧Keeps s s'
structure PaB (st0:St) (A:Led) (Q:List Int) (Ma Mn tq o:Nat) (es:List (List Int×LV)) (s:St):Prop where
 ha:s.H Ma=.map false [.u32] (ledL A)
 hn:s.H Mn=.map false [.u32] es
 hq:s.H tq=.que 26 (o+Q.length)
 b:st0.next≤Ma∧st0.next≤Mn∧st0.next≤tq∧Ma < s.next∧Mn < s.next∧tq < s.next∧tq≠0∧¬ Mn=Ma
 kp:Keeps st0 s
set_option maxHeartbeats 4000000 in
theorem Path (g:Gr) (from' to:Int) (th:LV) (may:Int→Bool) (n:Nat) (l:List Int) (st:St) (hv:g.vs.length≤1048576) (he:g.es.length≤1000) (hn:n≤1000) (hm:MayOk th may st) (hl:pathF g.vs (nearF g.es) may from' to n=some l):
 ACalls Tryz.prog 122 [.ag (grL g),u from',u to,th] st fun r st'=>r=.sl 0 l.length (us l)∧Keeps st st':=by
 have hth:norm th=th:=by rcases hm with ⟨rfl,_⟩ | ⟨f,c,rfl,_,_⟩<;>rfl
 refine acalls_z0 ?_
 refine qO tabOk Tryz.func122 rfl rfl Tryz.ntmps122 (rs:=[.tmp 8]) rfl (by simp) ?_
 refine awp_posG fun hpos=>?_
 (repeat' (first | refine qS ?_ | (refine w_e [] ?_;intro J hJ;simp only [];simp [];(try (refine hJ _ _ ?_;clear hJ J;simp only [ak,reduceIte])))))
 refine qE (Vert g from' _ hv) (by simp) ?_;rintro r s1 ⟨rfl,hk1⟩
 have hn1:=hk1.next
 simp only [new_next] at hn1
 have hG1:s1.H st.next=.box 35 2 (grL g):=by rw [hk1.H _ (by simp)];simp
 have hkp1:Keeps st s1:=(Keeps.new _ _).trans hk1
 clear hk1
 unfold pathF at hl
 by_cases hf:from'∈g.vs
 rotate_left
 ·have h0:gi g.vs from' < 0:=(gi_neg _ _).2 hf
  rw [if_pos (.inl hf)] at hl
  injection hl with hl
  subst hl
  (refine e_go ?_;simp [h0];(refine hJ _ _ ?_;clear hJ J;simp only [ak,reduceIte]))
  (repeat' (first | refine qS ?_ | (refine qR ?_;simp only [ak,reduceIte];simp []) | (refine qC ?_;simp []) | (refine w_e [] ?_;intro J hJ;simp only [];simp [];(refine hJ _ _ ?_;clear hJ J;simp only [ak,reduceIte]))))
  exact ⟨rfl,hkp1⟩
 have h0:¬ gi g.vs from' < 0:=fun h=>(gi_neg _ _).1 h hf
 (refine e_go ?_;simp [h0,hG1])
 refine qE (Vert g to _ hv) (by simp) ?_;rintro r s2 ⟨rfl,hk2⟩
 have hn2:=hk2.next
 have hG2:=(hk2.H st.next (by omega)).trans hG1
 have hkp2:=hkp1.trans hk2
 clear hk2 hkp1 hG1 h0
 by_cases ht:to∈g.vs
 rotate_left
 ·have h0:gi g.vs to < 0:=(gi_neg _ _).2 ht
  rw [if_pos (.inr ht)] at hl
  injection hl with hl
  subst hl
  (refine e_go ?_;simp [h0];(refine hJ _ _ ?_;clear hJ J;simp only [ak,reduceIte]))
  (repeat' (first | refine qS ?_ | (refine qR ?_;simp only [ak,reduceIte];simp []) | (refine qC ?_;simp []) | (refine w_e [] ?_;intro J hJ;simp only [];simp [];(refine hJ _ _ ?_;clear hJ J;simp only [ak,reduceIte]))))
  exact ⟨rfl,hkp2⟩
 have h0:¬ gi g.vs to < 0:=fun h=>(gi_neg _ _).1 h ht
 rw [if_neg (by simp [hf,ht])] at hl
 (refine e_go ?_;simp [h0];(refine hJ _ _ ?_;clear hJ J;simp only [ak,reduceIte]))
 by_cases hft:from'=to
 ·rw [if_pos hft] at hl
  injection hl with hl
  subst hl
  (repeat' (first | refine qS ?_ | (refine qK ?_;simp only [ak,reduceIte]) | (refine qR ?_;simp only [ak,reduceIte];simp [hft]) | (refine qC ?_;simp [hft]) | (refine w_e [] ?_;intro J hJ;simp only [];simp [hft];(refine hJ _ _ ?_;clear hJ J;simp only [ak,reduceIte]))))
  refine ⟨by simp [z0,z0L,hft],hkp2.trans (Keeps.new _ _)⟩
 rw [if_neg hft] at hl
 (repeat' (first | refine qS ?_ | (refine qK ?_;simp only [ak,reduceIte]) | (refine qC ?_;simp [hft,hG2]) | (refine w_e [] ?_;intro J hJ;simp only [];simp [hft,hG2];(try (refine hJ _ _ ?_;clear hJ J;simp only [ak,reduceIte])))))
 refine qE (nearby g _ hv he (by omega)) (by simp) ?_;rintro r s3 ⟨Mn,es,rfl,m1,m2,hk3,hMn,hes⟩
 have hn3:=hk3.next
 have hkp3:=hkp2.trans hk3
 obtain ⟨R0,hbfs,hR0⟩:∃ R0,bfs (nearF g.es) may to n [(from',from')] [from']=some R0∧((R0=none∧l=[])∨∃ A l',R0=some A∧backF A from' n to=some l'∧l=(to::l').reverse):=by
  cases hb:bfs (nearF g.es) may to n [(from',from')] [from'] with
  | none=>rw [hb] at hl;cases hl
  | some R0=>
    rw [hb] at hl
    cases R0 with
    | none=>injection hl with hl;exact ⟨_,rfl,.inl ⟨rfl,hl.symm⟩⟩
    | some A=>
      simp only [Option.map_eq_some_iff] at hl
      obtain ⟨l',h1,h2⟩:=hl
      exact ⟨_,rfl,.inr ⟨A,l',rfl,h1,h2.symm⟩⟩
 clear hl
 (repeat' (first | refine qS ?_ | refine qB ?_ | ((first | (refine w_e [] ?_;intro J hJ;simp only []) | (refine e_go ?_));simp [];(refine hJ _ _ ?_;clear hJ J;simp only [ak,reduceIte]))))
 refine awp_qu 11 (t:=s3.next+1) (n:=1) (e:=26) (cs:=[u from']) (by simp) (by simp) (by omega) (by omega) ?_
 have hc0:¬ Mn=s3.next:=by omega
 have hc1:¬ Mn=s3.next+1:=by omega
 refine qL (fun k fr s=>∃ (A:Led) (Q:List Int) (tq o:Nat),bfs (nearF g.es) may to k A Q=some R0∧k≤n∧Q.length+2000 * k≤2000 * n+1∧fr 1=u from'∧fr 2=u to∧fr 3=th∧fr 9=.mp Mn∧fr 10=.mp s3.next∧fr 11=.qu tq o Q.length (us Q)∧PaB st A Q s3.next Mn tq o es s) n ?_ ?_
 ·refine ⟨_,_,s3.next+1,0,hbfs,Nat.le_refl _,by simp;omega,by simp,by simp,by simp,by simp,by simp,by simp,?_⟩
  refine ⟨by simp [ledL,mset],by simp [hc0,hc1,hMn],by simp,⟨by omega,by omega,by omega,by simp;omega,by simp;omega,by simp,by omega,hc0⟩,?_⟩
  exact (((hkp3.trans (Keeps.new _ _)).trans (Keeps.new _ _)).set (q:=s3.next+1) (by omega) _)
 generalize s3.next=Ma at *
 clear hk3 hn3 hkp3 hMn m1 m2 hG2 hkp2 hn2 hn1 hc0 hc1 hbfs
 rintro k fr s ⟨A,Q,tq,o,hb,hk,hQ,f1,f2,f3,f9,f10,f11,hPa,hPn,hPq,⟨b1,b2,b3,b4,b5,b6,b7,b8⟩,hkp⟩ JJ hJJ
 cases Q with
 | nil=>
   clear hJJ
   have h1:R0=none:=by cases k<;>(simp only [bfs,Option.some.injEq] at hb;exact hb.symm)
   subst h1
   rcases hR0 with ⟨_,rfl⟩ | ⟨_,_,h,_⟩
   ·(repeat' (first | refine qS ?_ | (refine qX ?_;simp only [ak,reduceIte]) | (refine qR ?_;simp only [ak,reduceIte];simp [f11]) | (refine qC ?_;simp [f11]) | (refine w_e [] ?_;intro J hJ;simp only [];simp [f11];(refine hJ _ _ ?_;clear hJ J;simp only [ak,reduceIte]))))
    exact ⟨rfl,hkp⟩
   ·cases h
 | cons v Q=>
 cases k with
 | zero=>simp [bfs] at hb
 | succ k=>
 have hQl:(Q.length:Int)+1 > 0:=by omega
 have hrow:=hes v
 have hrl:=nearF_len g.es v
 simp only [bfs] at hb
 generalize hrw:nearF g.es v=row at *
 have hslc:List.take (Q.length+1 - 1) (us Q)=us Q:=List.take_of_length_le (by simp)
 have hbn:¬ (Q.length:Int)+1≤0:=by omega
 (repeat (first | refine qS ?_ | refine qB ?_))
 (refine w_e [] ?_;intro J hJ;simp only [];simp [f11,hQl];(refine hJ _ _ ?_;clear hJ J;simp only [ak,reduceIte]))
 (repeat (first | refine qS ?_ | refine qB ?_))
 (refine qC ?_;simp [])
 refine qK ?_;simp only [ak]
 (repeat (first | refine qS ?_ | refine qB ?_))
 (refine w_e [] ?_;intro J hJ;simp only [];simp [f11,hQl];(refine hJ _ _ ?_;clear hJ J;simp only [ak,reduceIte]))
 (repeat (first | refine qS ?_ | refine qB ?_))
 (refine w_e [] ?_;intro J hJ;simp only [];simp [f11,hQl,hslc];(repeat refine ca ?_);(refine hJ _ _ ?_;clear hJ J;simp only [ak,reduceIte]))
 refine qS ?_
 refine awp_cut1 (fun f s'=>s'=s∧f 1=u from'∧f 2=u to∧f 3=th∧f 9=.mp Mn∧f 10=.mp Ma∧f 11=.qu tq (o+1) Q.length (us Q)∧f 12=u v∧(f 50=.nil∧row=[]∨f 50=.sl 0 row.length (us row))∧f 51=i row.length∧f 52=i (0:Nat)) ?_ ?_
 ·clear hJJ
  unfold nbLV at hrow
  rw [hrw] at hrow
  by_cases hr0:row=[]
  ·rw [if_pos hr0] at hrow
   (repeat' (refine w_e [] ?_;intro J hJ;simp only [];simp [f9,hPn,hrow];(refine hJ _ _ ?_;clear hJ J;simp only [ak,reduceIte])))
   simp [f1,f2,f3,f9,f10,hr0]
  ·rw [if_neg hr0] at hrow
   (repeat' (refine w_e [] ?_;intro J hJ;simp only [];simp [f9,hPn,hrow];(refine hJ _ _ ?_;clear hJ J;simp only [ak,reduceIte])))
   simp [f1,f2,f3,f9,f10]
 clear f1 f2 f3 f9 f10 f11 fr hrow
 rintro fr s' ⟨rfl,f1,f2,f3,f9,f10,f11,f12,f50,f51,f52⟩
 refine qB ?_
 refine awp_range 52 51 53 84 row.length (fun j fr st2=>fr 1=u from'∧fr 2=u to∧fr 3=th∧fr 9=.mp Mn∧fr 10=.mp Ma∧fr 12=u v∧(fr 50=.nil∧row=[]∨fr 50=.sl 0 row.length (us row))∧(scanL may to v ⟨A,Q,false⟩ (row.take j)).hit=false∧∃ tq o,fr 11=.qu tq o (scanL may to v ⟨A,Q,false⟩ (row.take j)).Q.length (us (scanL may to v ⟨A,Q,false⟩ (row.take j)).Q)∧PaB st (scanL may to v ⟨A,Q,false⟩ (row.take j)).A (scanL may to v ⟨A,Q,false⟩ (row.take j)).Q Ma Mn tq o es st2) ?_ ?_ ?_ (hti:=f52) (htn:=f51)
 ·refine ⟨f1,f2,f3,f9,f10,f12,f50,rfl,tq,o+1,f11,⟨hPa,hPn,?_,⟨b1,b2,b3,b4,b5,b6,b7,b8⟩,hkp⟩⟩
  rw [hPq]
  simp only [List.take_zero,scanL,List.foldl_nil,List.length_cons]
  congr 1
  omega
 ·clear f1 f2 f3 f9 f10 f11 f12 f50 f51 f52 hPa hPn hPq b1 b2 b3 b4 b5 b6 b7 b8 hkp fr hJJ
  rintro j fr s hlt ⟨f1,f2,f3,f9,f10,f12,f50,hh,tq,o,f11,hPa,hPn,hPq,⟨b1,b2,b3,b4,b5,b6,b7,b8⟩,hkp⟩ fi fn J hJ
  have f50:fr 50=.sl 0 row.length (us row):=by
   rcases f50 with ⟨_,h⟩ | h
   ·rw [h] at hlt;simp at hlt
   ·exact h
  have hd:=qG row j hlt
  have htk:row.take (j+1)=row.take j++[row.getD j 0]:=by
   rw [List.getD_eq_getElem?_getD,List.getElem?_eq_getElem hlt];exact List.take_succ_eq_append_getElem hlt
  have hsc:=scanL_snoc may to v ⟨A,Q,false⟩ (row.take j) (row.getD j 0)
  rw [← htk] at hsc
  have hsl:=scanL_len may to v ⟨A,Q,false⟩ (row.take j)
  simp only [List.length_take] at hsl
  have hfull:(scanL may to v ⟨A,Q,false⟩ (row.take (j+1))).hit=true→scanL may to v ⟨A,Q,false⟩ row=scanL may to v ⟨A,Q,false⟩ (row.take (j+1)):=by
   intro h
   have:row=row.take (j+1)++row.drop (j+1):=(List.take_append_drop _ _).symm
   rw [this,scanL,List.foldl_append]
   have h2:=scanL_hit may to v h (row.drop (j+1))
   simp only [scanL] at h2 ⊢
   rw [h2]
   simp
  generalize row.getD j 0=x at *
  generalize hS:scanL may to v ⟨A,Q,false⟩ (row.take j)=S at *
  obtain ⟨SA,SQ,Sh⟩:=S
  simp only at hh f11 hPa hPq hsl
  subst hh
  have hmg:=mget_led SA x
  have hqa:¬ tq=Ma:=box_ne hPq hPa (by simp)
  have hqn:¬ tq=Mn:=box_ne hPq hPn (by simp)
  have hqa':¬ Ma=tq:=fun h=>hqa h.symm
  have hqn':¬ Mn=tq:=fun h=>hqn h.symm
  by_cases hin:x∈SA.map (·.1)
  ·obtain ⟨y,hy⟩:=ledBy_some hin
   rw [hy] at hmg
   simp only [Option.map_some] at hmg
   have h1:scan1 may to v ⟨SA,SQ,false⟩ x=⟨SA,SQ,false⟩:=by simp [scan1,hin]
   rw [h1] at hsc
   (repeat' (first | refine qS ?_ | (refine qX ?_;simp only [ak,reduceIte]) | (refine qC ?_;simp [f10,f50,fi,fn,hd,hlt,hPa,hmg]) | (refine w_e [] ?_;intro J hJ;simp only [];simp [f10,f50,fi,fn,hd,hlt,hPa,hmg];(refine hJ _ _ ?_;clear hJ J;simp only [ak,reduceIte]))))
   refine hJ _ _ (by simp [fi]) (by simp [fn]) ⟨by simp [f1],by simp [f2],by simp [f3],by simp [f9],by simp [f10],by simp [f12],.inr (by simp [f50]),by rw [hsc],tq,o,by rw [hsc];simp [f11],by rw [hsc];exact ⟨hPa,hPn,hPq,⟨b1,b2,b3,b4,b5,b6,b7,b8⟩,hkp⟩⟩
  rw [ledBy_none hin] at hmg
  simp only [Option.map_none] at hmg
  have hms:mset (ledL SA) [x] (u v)=ledL (SA++[(x,v)]):=mset_led hin
  by_cases hxt:x=to
  ·clear hJ
   subst hxt
   have h1:scan1 may x v ⟨SA,SQ,false⟩ x=⟨SA++[(x,v)],SQ,true⟩:=by unfold scan1;rw [if_neg (by simp),if_neg hin,if_pos rfl]
   rw [h1] at hsc
   have hf2:=hfull (by rw [hsc])
   rw [hf2,hsc] at hb
   simp only [if_true,Option.some.injEq] at hb
   subst hb
   rcases hR0 with ⟨h,_⟩ | ⟨A2,l',h,hbk,rfl⟩
   ·cases h
   injection h with h
   subst h
   (repeat' (first | refine qS ?_ | (refine qK ?_;simp only [ak,reduceIte]) | (refine qC ?_;simp [f1,f2,f10,f12,f50,fi,fn,hd,hlt,hPa,hmg,hms]) | (refine w_e [] ?_;intro J hJ;simp only [];simp [f1,f2,f10,f12,f50,fi,fn,hd,hlt,hPa,hmg,hms];(try (refine hJ _ _ ?_;clear hJ J;simp only [ak,reduceIte])))))
   refine qE (back (SA++[(x,v)]) Ma from' x n l' _ (by omega) hbk (by simp;exact b4) (by simp)) (by simp) ?_;rintro r s4 ⟨rfl,hk4⟩
   (repeat' (first | (refine qR ?_;simp only [ak,reduceIte];simp []) | (refine e_go ?_;simp [];(refine hJ _ _ ?_;clear hJ J;simp only [ak,reduceIte]))))
   refine ⟨by simp only [z0];congr 1;have:=z0_us (x::l').reverse;simpa using this,?_⟩
   exact (hkp.set b1 _).trans hk4
  have h1:scan1 may to v ⟨SA,SQ,false⟩ x=⟨SA++[(x,v)],if may x=true then SQ++[x] else SQ,false⟩:=by unfold scan1;rw [if_neg (by simp),if_neg hin,if_neg hxt]
  rw [h1] at hsc
  have tn0:¬ tq=s.next:=by omega
  have hQ2:SQ.length≤3000000:=by simp only [List.length_cons] at hQ;omega
  have hT2:∀ m s',s'.H Ma=.map false [.u32] (ledL (SA++[(x,v)]))→s'.H Mn=.map false [.u32] es→s'.H m=.que 26 (0+(SQ++[x]).length)→st.next≤m→m < s'.next→s.next≤s'.next→Keeps st s'→PaB st (SA++[(x,v)]) (SQ++[x]) Ma Mn m 0 es s':=fun m s' h1 h2 h3 h4 h5 h6 h7=>⟨h1,h2,h3,⟨b1,b2,h4,by omega,by omega,h5,by omega,b8⟩,h7⟩
  have hT1:∀ s',s'.H Ma=.map false [.u32] (ledL (SA++[(x,v)]))→s'.H Mn=.map false [.u32] es→s'.H tq=.que 26 (o+SQ.length)→s.next≤s'.next→Keeps st s'→PaB st (SA++[(x,v)]) SQ Ma Mn tq o es s':=fun s' h1 h2 h3 h6 h7=>⟨h1,h2,h3,⟨b1,b2,b3,by omega,by omega,by omega,b7,b8⟩,h7⟩
  rcases hm with ⟨rfl,hm⟩ | ⟨f,caps,rfl,hcaps,hm⟩
  ·rw [if_pos (hm x)] at hsc
   (repeat' (first | refine qS ?_ | (refine qK ?_;simp only [ak,reduceIte]) | (refine qC ?_;simp [f1,f2,f3,f10,f11,f12,f50,fi,fn,hd,hlt,hPa,hmg,hms,hxt,hPq,hqa,hqn,hqa',hqn',tn0]) | (refine w_e [] ?_;intro J hJ;simp only [];simp [f1,f2,f3,f10,f11,f12,f50,fi,fn,hd,hlt,hPa,hmg,hms,hxt,hPq,hqa,hqn,hqa',hqn',tn0];(repeat refine ca ?_);(refine hJ _ _ ?_;clear hJ J;simp only [ak,reduceIte]))))
   refine hJ _ _ (by simp [fi]) (by simp [fn]) ⟨by simp [f1],by simp [f2],by simp [f3],by simp [f9],by simp [f10],by simp [f12],.inr (by simp [f50]),by rw [hsc],s.next+1,0,by rw [hsc];simp,?_⟩
   rw [hsc]
   refine hT2 _ _ (by (repeat (first | rw [new_H,if_neg (α:=LObj) (by (try simp only [set_next,new_next]);omega)] | rw [set_H,if_neg (α:=LObj) (by omega)] | rw [new_H,if_pos (α:=LObj) (by (try simp only [set_next,new_next]))] | rw [set_H,if_pos (α:=LObj) (by omega)]))) (by (repeat (first | rw [new_H,if_neg (α:=LObj) (by (try simp only [set_next,new_next]);omega)] | rw [set_H,if_neg (α:=LObj) (by omega)] | rw [new_H,if_pos (α:=LObj) (by (try simp only [set_next,new_next]))] | rw [set_H,if_pos (α:=LObj) (by omega)]));exact hPn) (by (repeat (first | rw [new_H,if_neg (α:=LObj) (by (try simp only [set_next,new_next]);omega)] | rw [set_H,if_neg (α:=LObj) (by omega)] | rw [new_H,if_pos (α:=LObj) (by (try simp only [set_next,new_next]))] | rw [set_H,if_pos (α:=LObj) (by omega)]));simp) (by omega) (by simp) (by simp;omega) ?_
   exact ((((hkp.set b1 _).trans (Keeps.new _ _)).set b3 _).trans (Keeps.new _ _))
  ·(repeat' (first | refine qS ?_ | (refine qK ?_;simp only [ak,reduceIte]) | (refine qC ?_;simp [f1,f2,f3,f10,f11,f12,f50,fi,fn,hd,hlt,hPa,hmg,hms,hxt]) | (refine w_e [] ?_;intro J hJ;simp only [];simp [f1,f2,f3,f10,f11,f12,f50,fi,fn,hd,hlt,hPa,hmg,hms,hxt];(try (refine hJ _ _ ?_;clear hJ J;simp only [ak,reduceIte])))))
   have hkz:Keeps st (s.set Ma (.map false [.u32] (ledL (SA++[(x,v)])))):=hkp.set b1 _
   refine qE (hm x _ hkz) (by simp [hcaps]) ?_;rintro r s4 ⟨rfl,hk4⟩
   have hn4:=hk4.next
   simp only [set_next] at hn4
   have hPa4:s4.H Ma=.map false [.u32] (ledL (SA++[(x,v)])):=by rw [hk4.H Ma (by simp;exact b4)];simp
   have hPn4:s4.H Mn=.map false [.u32] es:=by rw [hk4.H Mn (by simp;exact b5)];simp [b8,hPn]
   have hPq4:s4.H tq=.que 26 (o+SQ.length):=by rw [hk4.H tq (by simp;exact b6)];simp [hqa,hPq]
   have tn4:¬ tq=s4.next:=by omega
   cases hmy:may x
   ·rw [hmy,if_neg (by simp)] at hsc
    (repeat' (first | (refine qK ?_;simp only [ak,reduceIte]) | (refine qC ?_;simp [f11]) | (refine e_go ?_;simp [f11];(refine hJ _ _ ?_;clear hJ J;simp only [ak,reduceIte]))))
    refine hJ _ _ (by simp [fi]) (by simp [fn]) ⟨by simp [f1],by simp [f2],by simp [f3],by simp [f9],by simp [f10],by simp [f12],.inr (by simp [f50]),by rw [hsc],tq,o,by rw [hsc];simp [f11],?_⟩
    rw [hsc]
    exact hT1 _ hPa4 hPn4 hPq4 hn4 (hkz.trans hk4)
   ·rw [hmy,if_pos rfl] at hsc
    (repeat' (first | (refine qC ?_;simp [f11,hPq4,tn4]) | ((first | (refine w_e [] ?_;intro J hJ;simp only []) | (refine e_go ?_));simp [f11,hPq4,tn4];(repeat refine ca ?_);(refine hJ _ _ ?_;clear hJ J;simp only [ak,reduceIte]))))
    refine hJ _ _ (by simp [fi]) (by simp [fn]) ⟨by simp [f1],by simp [f2],by simp [f3],by simp [f9],by simp [f10],by simp [f12],.inr (by simp [f50]),by rw [hsc],s4.next+1,0,by rw [hsc];simp,?_⟩
    rw [hsc]
    refine hT2 _ _ (by (repeat (first | rw [new_H,if_neg (α:=LObj) (by (try simp only [set_next,new_next]);omega)] | rw [set_H,if_neg (α:=LObj) (by omega)] | rw [new_H,if_pos (α:=LObj) (by (try simp only [set_next,new_next]))] | rw [set_H,if_pos (α:=LObj) (by omega)]));exact hPa4) (by (repeat (first | rw [new_H,if_neg (α:=LObj) (by (try simp only [set_next,new_next]);omega)] | rw [set_H,if_neg (α:=LObj) (by omega)] | rw [new_H,if_pos (α:=LObj) (by (try simp only [set_next,new_next]))] | rw [set_H,if_pos (α:=LObj) (by omega)]));exact hPn4) (by (repeat (first | rw [new_H,if_neg (α:=LObj) (by (try simp only [set_next,new_next]);omega)] | rw [set_H,if_neg (α:=LObj) (by omega)] | rw [new_H,if_pos (α:=LObj) (by (try simp only [set_next,new_next]))] | rw [set_H,if_pos (α:=LObj) (by omega)]));simp) (by omega) (by simp) (by simp;omega) ?_
    exact ((((hkz.trans hk4).trans (Keeps.new _ _)).set b3 _).trans (Keeps.new _ _))
 ·rintro fr s ⟨f1,f2,f3,f9,f10,f12,f50,hh,tq,o,f11,hB⟩
  rw [List.take_length] at hh f11 hB
  rw [if_neg (by rw [hh];simp)] at hb
  have hsl:=scanL_len may to v ⟨A,Q,false⟩ row
  simp only at hsl
  simp only [ak]
  refine hJJ k _ _ (by omega) ⟨_,_,tq,o,hb,by omega,by simp only [List.length_cons] at hQ;omega,by simp [f1],by simp [f2],by simp [f3],by simp [f9],by simp [f10],by simp [f11],hB⟩
end Go.Proofs.YtiiejclelbilkaaGreatDoor.Aw
