/- cert: Look. -/
import Derived.Test.YtempldclppogmaaGreatDoorJh
import Derived.Test.YtempldclppogmaaGreatDoorAwFz
import Derived.Test.YtempldclppogmaaGreatDoorAwRg
set_option linter.unusedVariables false
set_option linter.unusedSimpArgs false
namespace Go.Proofs.YtempldclppogmaaGreatDoor.Aw
open Go Go.RowKit Go.Proofs.YtempldclppogmaaGreatDoor.Pl
structure Rp where
 kind:Int
 br:List Int
 ways:List (List Int)
deriving DecidableEq
def brF(k:Gr):List Int:=k.vs.filter fun v=>decide ((ends k.es v).length≠2)
def kJ(k:Gr)(n:Nat):Nat:=k.vs.countP fun v=>decide ((ends k.es v).length=n)
def cV(k:Gr):Int:=if(brF k).length=5∧kJ k 4=5 then 5 else if(brF k).length=6∧kJ k 3=6 then 33 else 0
def oM:Rp:=⟨0,[],[]⟩
def tM(k:Gr):Option Wy:=tR k.es ((brF k).flatMap (ends k.es)) ⟨[],[],k.es.length⟩
def eB(k:Gr):Rp:=if chk k≠0∨cV k=0 then oM else match tM k with
 |none=>oM
 |some S=>if S.e≠0∨(cV k=33∧jF (brF k) (kV S.W)=false)then oM else⟨cV k,brF k,kV S.W⟩
def rpL(r:Rp):List LV:=[i r.kind,.sl 0 r.br.length (us r.br),.sl 0 r.ways.length (bA r.ways)]
theorem aHT(l:List Ed)(k:Nat)(hk:k<l.length)(v:Int):ends (l.take (k+1)) v=ends (l.take k) v++jM v (l.getD k ed0):=by
 unfold ends
 rw[List.take_succ_eq_append_getElem hk,List.flatMap_append,List.getD_eq_getElem?_getD,List.getElem?_eq_getElem hk]
 simp
theorem sM:∀(l:List Ed) (v:Int),(ends l v).length≤2*l.length
 |[],_=>by simp[ends]
 |x::l,v=>by
  have ih:=sM l v
  have h1:(jM v x).length≤2:=by unfold jM;split<;>split<;>simp
  have e:ends (x::l) v=jM v x++ends l v:=rfl
  rw[e,List.length_append,List.length_cons];omega
theorem iW.rows{lo m:Nat}{em:List (List Int×LV)}{st:St}{f:Int→List Int}{tok:Int→Nat}(h:iW lo m em st f tok):aAP em f:=fun v=>by
 by_cases h0:tok v=0
 ·obtain⟨h1,h2⟩:=(h v).1 h0
  exact⟨0,by rw[h1,h2];rfl⟩
 ·obtain⟨h1,-⟩:=(h v).2 h0
  exact⟨tok v,by rw[h1];rfl⟩
theorem gH{l:List Int}{p q:Int→Bool}(hpq:∀ v,p v=true→q v=true)(h:l.countP p=(l.filter q).length):∀ v∈l.filter q,p v=true:=by
 have h1:(l.filter p).Sublist (l.filter q):=by
  have:l.filter p=(l.filter q).filter p:=by
   rw[List.filter_filter]
   refine List.filter_congr fun v _=>?_
   cases hp:p v
   ·simp
   ·simp[hpq v hp]
  rw[this];exact List.filter_sublist
 have h2:=h1.eq_of_length (by rw[← h,List.countP_eq_length_filter])
 intro v hv
 rw[← h2]at hv
 exact(List.mem_filter.1 hv).2
theorem pV{es:List Ed}{m:Nat}:∀ {B:List Int},(∀ v∈B,(ends es v).length=m)→(B.flatMap (ends es)).length=m*B.length
 |[],_=>by simp
 |v::B,h=>by
  have ih:=pV (B:=B) fun w hw=>h w (List.mem_cons_of_mem _ hw)
  rw[List.flatMap_cons,List.length_append,ih,h v (by simp),List.length_cons,Nat.mul_succ];omega
theorem aCB{k:Gr}(h:cV k≠0):∃ m,(m=4∨m=3)∧((brF k).length=5∨(brF k).length=6)∧∀ v∈brF k,(ends k.es v).length=m:=by
 unfold cV at h
 by_cases h5:(brF k).length=5∧kJ k 4=5
 ·refine⟨4,.inl rfl,.inl h5.1,fun v hv=>?_⟩
  have:=gH (p:=fun v=>decide ((ends k.es v).length=4)) (q:=fun v=>decide ((ends k.es v).length≠2)) (fun v hp=>by simp at hp ⊢;omega) (h5.2.trans h5.1.symm) v hv
  simpa using this
 ·rw[if_neg h5]at h
  by_cases h6:(brF k).length=6∧kJ k 3=6
  ·refine⟨3,.inr rfl,.inr h6.1,fun v hv=>?_⟩
   have:=gH (p:=fun v=>decide ((ends k.es v).length=3)) (q:=fun v=>decide ((ends k.es v).length≠2)) (fun v hp=>by simp at hp ⊢;omega) (h6.2.trans h6.1.symm) v hv
   simpa using this
  ·rw[if_neg h6]at h;exact absurd rfl h
theorem aDF{k:Gr}(h:GrF k)(hids:k.es.Pairwise fun x y=>x.id<y.id):∀ e∈bP k.es,1≤bG k.es e∧bG k.es e≤1048576:=fun e he=>by
 obtain⟨x,hx,hh⟩:=dJ.1 (nJ hids he)
 obtain⟨h1,h2⟩:=h.ends x hx
 rcases hh with⟨e1,_⟩|⟨e1,_⟩
 ·rw[← e1];exact h.vpos _ h1
 ·rw[← e1];exact h.vpos _ h2
theorem aEf{es:List Ed}(hids:es.Pairwise fun x y=>x.id<y.id)(hes:es.length≤100)(hvb:∀ e∈bP es,0≤bG es e∧bG es e<4294967296):∀(L:List Int) {n:Nat} {S S':Wy},(∀ d∈L,∃ k,eH es d k)→oW es n S→tR es L S=some S'→oW es (n+L.length) S'
 |[],n,S,S',_,h,hr=>by simp only[tR,Option.some.injEq]at hr;subst hr;exact h
 |d::L,n,S,S',ht,h,hr=>by
  obtain⟨k,hk⟩:=ht d (by simp)
  simp only[tR]at hr
  cases hs:pW es S d with
  |none=>rw[hs]at hr;cases hr
  |some S1=>
   rw[hs]at hr
   have:=aEf hids hes hvb L (fun e he=>ht e (List.mem_cons_of_mem _ he)) (h.step hids hes hvb hk hs) hr
   rw[List.length_cons,show n+(L.length+1)=n+1+L.length by omega]
   exact this
theorem oW.nil(es:List Ed)(h:es.length≤100):oW es 0 ⟨[],[],es.length⟩:=⟨by simp,by simp,by simp,by simp,by simp,by simp,by simp only;omega⟩
theorem yA{es:List Ed}{n:Nat}{S:Wy}(h:oW es n S):(kV S.W).length=S.W.length:=by
 unfold kV
 rw[List.length_map,(rK h.labs).length_eq,List.length_map]
theorem aCU{es:List Ed}{n:Nat}{S:Wy}(h:oW es n S){w:List Int}(hw:w∈kV S.W):w∈S.W:=by
 obtain⟨x,hx,rfl⟩:=List.mem_map.1 hw
 obtain⟨y,hy,rfl⟩:=List.mem_map.1 ((iL _ _).1 hx)
 rw[kW h.labs hy];exact hy
def LoI(k:Gr)(st s1:St)(p:Nat)(j:Nat)(f:Frm)(s:St):Prop:=f 1=.pt p 0∧f 2=.pt (p+1) 0∧f 3=.pt (s1.next+2) 0∧f 22=.sl 0 k.es.length (eds k.es)∧s.H p=.box 25 2 (grL k)∧s.H (p+1)=.box 31 3 [i 0,.nil,.nil]∧s.H (s1.next+2)=.box 62 2 [.mp s1.next,.mp (s1.next+1)]∧aB st s∧s1.next+3≤s.next∧
 ∃ em ea tok,s.H s1.next=.map false [.u32] em∧iW s1.next s1.next em s (ends (k.es.take j)) tok∧s.H (s1.next+1)=.map false [.u32] ea∧∀ e w,e∈ends (k.es.take j) w→aR ea [e]=some (u w)
set_option maxHeartbeats 4000000 in
theorem aML(k:Gr)(hv:k.vs.length≤1000)(he:k.es.length≤100)(h12:cV k≠0→∀ S,tM k=some S→S.W.length≤12)(st:St)(hp:0<st.next):
 aF Tryz.prog 9 [.ag (grL k)] st fun r st'=>r=.ag (rpL (eB k))∧st'=st:=by
 refine qT (Q:=fun r=>r=.ag (rpL (eB k))) (bR ?_) fun r h=>?_
 rotate_left
 ·subst h
  exact⟨trivial,⟨.inl rfl,iT _ _⟩,⟨.inl rfl,oP _ _⟩,trivial⟩
 have hel:=aO k.es
 refine qO aK Tryz.func9 rfl rfl Tryz.ntmps9 (rs:=[.cell 2 31]) rfl (by simp) ?_
 (repeat' (first|refine qS ?_|(refine w_e [] ?_;intro J hJ;simp only[];simp[];(try (refine hJ _ _ ?_;clear hJ J;simp only[ak,reduceIte])))))
 refine qE (Check k _ hv (by omega)) (by simp) ?_;rintro r s1 ⟨rfl,hk1⟩
 have hn1:=hk1.next
 simp only[aA]at hn1
 have hG1:s1.H st.next=.box 25 2 (grL k):=by rw[hk1.H _ (by simp;omega)];simp
 have hR1:s1.H (st.next+1)=.box 31 3 [i 0,.nil,.nil]:=by rw[hk1.H _ (by simp)];simp
 have hK1:aB st s1:=((aB.new _ _).trans (aB.new _ _)).trans hk1
 clear hk1
 by_cases hc:chk k=0
 rotate_left
 ·have hc2:(chk k != 0)=true:=by simpa using hc
  have hlk:eB k=oM:=by unfold eB;rw[if_pos (.inl hc)]
  (repeat' (first|refine qS ?_|(refine qR ?_;simp only[ak,reduceIte];simp[hc2,hR1])|(refine qC ?_;simp[hc2,hR1])|((first|(refine w_e [] ?_;intro J hJ;simp only[])|(refine aL ?_));simp[hc2,hR1];(refine hJ _ _ ?_;clear hJ J;simp only[ak,reduceIte]))))
  exact⟨by rw[hlk];simp[z0,z0L,rpL,oM,bA],hK1.set (by omega) _⟩
 have hc2:(chk k != 0)=false:=by simpa using hc
 have hgE:=eD hc
 have hids:=hgE.ids
 have hpos:=hgE.pos
 have hgf:=xM hc
 have a1:¬st.next=s1.next:=by omega
 have a2:¬st.next=s1.next+1:=by omega
 have a3:¬st.next=s1.next+1+1:=by omega
 (repeat' (first|refine qS ?_|refine qB ?_|(refine qK ?_;simp only[ak,reduceIte])|(refine qC ?_;simp[hc2,hG1,a1,a2,a3])|((first|(refine w_e [] ?_;intro J hJ;simp only[])|(refine aL ?_));simp[hc2,hG1,a1,a2,a3];(refine hJ _ _ ?_;clear hJ J;simp only[ak,reduceIte]))))
 refine aP 24 23 25 42 (k.es.length) (fun j fr st2=>LoI k st s1 st.next j fr st2) ?_ ?_ ?_
 ·refine⟨by simp,by simp,by simp,by simp,by simp[a1,a2,a3,hG1],by simp[show ¬st.next+1=s1.next by omega,a1,a2,hR1],by simp,(((hK1.trans (aB.new _ _)).trans (aB.new _ _)).trans (aB.new _ _)).set (by omega) _,by simp,[],[],fun _=>0,by simp,fun v=>⟨fun _=>⟨by simp[ends],rfl⟩,fun h=>absurd rfl h⟩,by simp,by simp[ends]⟩
 ·rintro j fr s hlt ⟨f1,f2,f3,f22,hG,hRp,hB,hK,hn,em,ea,tok,hM,hN,hA,hAt⟩ fi fn JO hJO
  have hd:=bE k.es j hlt
  have hk3:j*3<k.es.length*3:=by omega
  have hend:=aHT k.es j hlt
  have hxm:k.es.getD j ed0∈k.es:=by rw[cC _ _ hlt];exact List.getElem_mem _
  have hxp:=hpos _ hxm
  have hlow:∀ y∈k.es.take j,y.id<(k.es.getD j ed0).id:=fun y hy=>by
   obtain⟨m,hm,rfl⟩:=List.getElem_of_mem hy
   rw[List.length_take]at hm
   rw[List.getElem_take,cC _ _ hlt]
   exact List.pairwise_iff_getElem.1 hids m j (by omega) hlt (by omega)
  have hel2:∀ v,(ends (k.es.take j) v).length≤200:=fun v=>by
   have:=sM (k.es.take j) v
   rw[List.length_take]at this;omega
  generalize k.es.getD j ed0=x at *
  obtain⟨d,a,b⟩:=x
  simp only at hd hxp hlow
  have hnot:∀ e:Int,(e=2*d∨e=2*d+1)→∀ w,e∉ends (k.es.take j) w:=fun e he w hm=>by
   obtain⟨y,hy,h⟩:=dJ.1 hm
   have:=hlow y hy
   omega
  have b1:¬s1.next+2=s.next:=by omega
  have b2:¬s1.next=s.next:=by omega
  have b3:¬s1.next+1=s.next:=by omega
  have b4:¬st.next=s.next:=by omega
  have b5:¬st.next+1=s.next:=by omega
  have b6:¬s.next=s1.next:=by omega
  have b7:¬s.next=s1.next+1:=by omega
  have hNn:iW s1.next s1.next em (s.new (.box 56 3 [u d,u a,u b])) (ends (k.es.take j)) tok:=fun w=>by
   refine⟨(hN w).1,fun h0=>?_⟩
   obtain⟨k1,k2,k3,k4,k5,k6⟩:=(hN w).2 h0
   exact⟨k1,k2,by simp;omega,k4,by simp[show ¬tok w=s.next by omega,k5],k6⟩
  have hadd1:=aPh a (2*d+0) s1.next s1.next (s1.next+1) em ea (ends (k.es.take j)) tok (s.new (.box 56 3 [u d,u a,u b])) (by simp[b2,hM]) (by simp[b3,hA]) hNn (by simp;omega) (by simp;omega) (by omega) (by simp;omega) (by simp) (by have:=hel2 a;omega)
  (repeat' (first|refine qS ?_|(refine w_e [] ?_;intro J hJ;simp only[];simp[f3,f22,fi,fn,hd,hel,hlt,hk3];(refine hJ _ _ ?_;clear hJ J;simp only[ak,reduceIte]))))
  (refine w_s [] [s1.next+2,s.next] [(0,true),(1,true),(2,true),(3,true),(4,true),(5,true),(6,true)] ?_;intro J hJ;simp[f3,hB,b1])
  refine qD (dOf d 0 _ (by omega) (by omega) (.inl rfl)) (by simp) ?_;rintro r s2 ⟨rfl,q1⟩
  rw[q1];clear q1 s2
  refine⟨fun _=>by simp,?_⟩
  (refine bN ?_;simp[])
  refine qD hadd1 (by simp) ?_;rintro r s2 ⟨m1,m2,mA,em2,tok2,mM,mN⟩
  simp only[aA]at m1
  have hB2:s2.H (s1.next+2)=.box 62 2 [.mp s1.next,.mp (s1.next+1)]:=by rw[m2 _ (by simp;omega) (by omega) (by omega) (.inr (by simp[b1,hB]))];simp[b1,hB]
  have hX2:s2.H s.next=.box 56 3 [u d,u a,u b]:=by rw[m2 _ (by simp) b6 b7 (.inr (by simp))];simp
  have hG2:s2.H st.next=.box 25 2 (grL k):=by rw[m2 _ (by simp;omega) (by omega) (by omega) (.inl (by omega))];simp[b4,hG]
  have hRp2:s2.H (st.next+1)=.box 31 3 [i 0,.nil,.nil]:=by rw[m2 _ (by simp;omega) (by omega) (by omega) (.inl (by omega))];simp[b5,hRp]
  have hold2:∀ l,l<s1.next→s2.H l=s.H l:=fun l hl=>by
   rw[m2 l (by simp;omega) (by omega) (by omega) (.inl hl)];simp[show ¬l=s.next by omega]
  refine⟨fun _=>by simp[hB2,hX2,hB,b1],?_⟩
  (refine bN ?_;simp[];(refine hJ _ _ ?_;clear hJ J;simp only[ak,reduceIte]))
  have hAt1:∀ e w,e∈(if w=a then ends (k.es.take j) a++[2*d+0]else ends (k.es.take j) w)→aR (aS ea [2*d+0] (u a)) [e]=some (u w):=aKG.put (es:=k.es) hAt (hnot _ (.inl (by omega)))
  generalize hf1:(fun w=>if w=a then ends (k.es.take j) a++[2*d+0]else ends (k.es.take j) w)=F1 at *
  have hF1:∀ w,F1 w=if w=a then ends (k.es.take j) a++[2*d+0]else ends (k.es.take j) w:=fun w=>by rw[← hf1]
  have hAt1':∀ e w,e∈F1 w→aR (aS ea [2*d+0] (u a)) [e]=some (u w):=fun e w h=>hAt1 e w (by rw[← hF1 w];exact h)
  have hn2:∀ w,2*d+1∉F1 w:=fun w h=>by
   rw[hF1 w]at h
   split at h
   ·rcases List.mem_append.1 h with h|h
    ·exact hnot _ (.inr rfl) _ h
    ·have:=List.mem_singleton.1 h;omega
   ·exact hnot _ (.inr rfl) _ h
  have hl1:∀ w,(F1 w).length≤201:=fun w=>by
   rw[hF1 w]
   have:=hel2 a
   have:=hel2 w
   split<;>simp<;>omega
  have hfin:ends (k.es.take (j+1))=fun w=>if w=b then F1 b++[2*d+1]else F1 w:=by
   funext w
   rw[hend w]
   simp only[hF1,jM]
   by_cases hwa:w=a
   ·by_cases hwb:w=b
    ·subst hwa;subst hwb;simp
    ·subst hwa;simp[hwb,Ne.symm hwb]
   ·by_cases hwb:w=b
    ·subst hwb;simp[hwa,Ne.symm hwa]
    ·simp[hwa,hwb,Ne.symm hwa,Ne.symm hwb]
  have hadd2:=aPh b (2*d+1) s1.next s1.next (s1.next+1) em2 (aS ea [2*d+0] (u a)) F1 tok2 s2 mM mA mN (by omega) (by omega) (by omega) (by omega) (by omega) (by have:=hl1 b;omega)
  clear hAt1
  (refine w_s [] [s1.next+2,s.next] [(0,true),(1,true),(2,true),(3,true),(4,true),(5,true),(6,true)] ?_;intro J hJ;simp[f3,hB2,hX2])
  refine qD (dOf d 1 _ (by omega) (by omega) (.inr rfl)) (by simp) ?_;rintro r2 s3 ⟨rfl,q1⟩
  rw[q1];clear q1 s3
  refine⟨fun _=>by simp,?_⟩
  (refine bN ?_;simp[])
  refine qD hadd2 (by simp) ?_;rintro r2 s3 ⟨n1,n2,nA,em3,tok3,nM,nN⟩
  have hB3:s3.H (s1.next+2)=.box 62 2 [.mp s1.next,.mp (s1.next+1)]:=by rw[n2 _ (by omega) (by omega) (by omega) (.inr (by simp[hB2]))];exact hB2
  have hX3:s3.H s.next=.box 56 3 [u d,u a,u b]:=by rw[n2 _ (by omega) b6 b7 (.inr (by simp[hX2]))];exact hX2
  have hold3:∀ l,l<s1.next→s3.H l=s.H l:=fun l hl=>by rw[n2 l (by omega) (by omega) (by omega) (.inl hl)];exact hold2 l hl
  refine⟨fun _=>by simp[hB3,hX3,hB2,hX2],?_⟩
  (refine bN ?_;simp[];(refine hJ _ _ ?_;clear hJ J;simp only[ak,reduceIte]))
  skip
  refine hJO _ _ (by simp[fi]) (by simp[fn]) ⟨by simp[f1],by simp[f2],by simp[f3],by simp[f22],?_,?_,hB3,⟨by have:=hK.next;omega,fun l hl=>?_⟩,by omega,em3,_,tok3,nM,by rw[hfin];exact nN,nA,?_⟩
  ·rw[hold3 _ (by omega)];exact hG
  ·rw[hold3 _ (by omega)];exact hRp
  ·rw[hold3 _ (by omega)];exact hK.H l hl
  ·intro e w h
   rw[hfin]at h
   exact aKG.put (es:=k.es) hAt1' hn2 e w h
 ·rintro fr s ⟨f1,f2,f3,f22,hG,hRp,hB,hK,hn,em,ea,tok,hM,hN,hA,hAt⟩
  rw[List.take_length]at hN hAt
  have hLk:aGw k.es s1.next (s1.next+1) s:=⟨⟨em,ea,hM,hN.rows,hA,hAt⟩,by omega,by omega⟩
  have hRows:=hN.rows
  clear hN hAt hA tok ea
  have hvl:=hgf.l1
  have c1:¬st.next=s.next:=by omega
  have c2:¬s1.next=s.next:=by omega
  have c3:¬s1.next+2=s.next:=by omega
  have c4:¬st.next+1=s.next:=by omega
  (repeat' (first|refine qS ?_|refine qB ?_|(refine w_e [] ?_;intro J hJ;simp only[];simp[f1,hG,c1];(refine hJ _ _ ?_;clear hJ J;simp only[ak,reduceIte]))))
  refine aP 47 46 48 66 (k.vs.length) (fun j fr st2=>(fr 1=.pt st.next 0∧fr 2=.pt (st.next+1) 0∧fr 3=.pt (s1.next+2) 0∧fr 7=.mp s.next∧fr 45=.sl 0 k.vs.length (us k.vs))∧aB s st2∧s.next<st2.next∧(∃ dm,st2.H s.next=.map false [.i64] dm∧∀ n:Int,(aR dm [n]).getD (i 0)=i ((k.vs.take j).countP fun v=>decide (((ends k.es v).length:Int)=n)))∧∃ Br,Br=(k.vs.take j).filter (fun v=>decide ((ends k.es v).length≠2))∧((fr 6=.nil∧Br=[])∨∃ t,fr 6=.sl t Br.length (us Br)∧t≠0∧s.next<t∧t<st2.next∧st2.H t=.own 34 1 Br.length)) ?_ ?_ ?_
  ·exact⟨⟨by simp[f1],by simp[f2],by simp[f3],by simp,by simp⟩,aB.new _ _,by simp,⟨[],by simp,fun n=>by simp[aR]⟩,[],by simp,.inl ⟨by simp,rfl⟩⟩
  ·clear f1 f2 f3 f22 fr
   rintro j fr s2 hlt ⟨⟨f1,f2,f3,f7,f45⟩,hK2,hn2,⟨dm,hD,hDc⟩,Br,hBr,hX⟩ fi fn JO hJO
   have hd:=qG k.vs j hlt
   have hct:=fun n:Int=>aEL (fun v=>decide (((ends k.es v).length:Int)=n)) k.vs j hlt
   have hft:=kG k.vs (fun v=>decide ((ends k.es v).length≠2)) j hlt
   have hB2:=(hK2.H (s1.next+2) (by omega)).trans hB
   have hM2:=(hK2.H s1.next (by omega)).trans hM
   have hBl:Br.length≤j:=by rw[hBr];have:=List.length_filter_le (fun v=>decide ((ends k.es v).length≠2)) (k.vs.take j);rw[List.length_take]at this;omega
   have hcs:=hRows.cases (k.vs.getD j 0)
   rw[← hBr]at hft
   generalize k.vs.getD j 0=v at *
   have hEl:=sM k.es v
   generalize hE:(ends k.es v)=E at *
   have hDv:=hDc E.length
   have hcl:((k.vs.take j).countP fun v=>decide (((ends k.es v).length:Int)=(E.length:Int)))≤1000:=Nat.le_trans List.countP_le_length (by rw[List.length_take];omega)
   generalize hcc:((k.vs.take j).countP fun v=>decide (((ends k.es v).length:Int)=(E.length:Int)))=c at *
   have w1:IntKind.i64.wrap ((c:Int)+1)=(c:Int)+1:=wrap_i64 _ (by omega) (by omega)
   have hnx:∀ f s3,f 1=.pt st.next 0→f 2=.pt (st.next+1) 0→f 3=.pt (s1.next+2) 0→f 7=.mp s.next→f 45=.sl 0 k.vs.length (us k.vs)→f 47=i j→f 46=i k.vs.length→aB s s3→s.next<s3.next→s3.H s.next=.map false [.i64] (aS dm [(E.length:Int)] (i ((c:Int)+1)))→(∃ Br',Br'=(Br++if decide (E.length≠2)=true then [v]else [])∧((f 6=.nil∧Br'=[])∨∃ t,f 6=.sl t Br'.length (us Br')∧t≠0∧s.next<t∧t<s3.next∧s3.H t=.own 34 1 Br'.length))→JO f s3:=fun f s3 q1 q2 q3 q4 q5 q6 q7 q8 q9 q10 q11=>by
    refine hJO f s3 q6 q7 ⟨⟨by simp[q1],by simp[q2],by simp[q3],by simp[q4],by simp[q5]⟩,q8,q9,⟨_,q10,fun n=>?_⟩,?_⟩
    ·rw[cL,hct n]
     by_cases hn:n=(E.length:Int)
     ·subst hn
      rw[if_pos rfl,hcc]
      simp
     ·rw[if_neg (by simpa using hn),hDc n,if_neg (by simpa using fun h=>hn h.symm)]
      simp
    ·obtain⟨Br',r1,r2⟩:=q11
     exact⟨Br',by rw[r1,← hft],by simpa using r2⟩
   clear hJO hct hDc hft
   have y1:¬s.next=s2.next:=by omega
   have y2:¬s.next=s2.next+1:=by omega
   by_cases h2:E.length=2
   ·have hne:decide (E.length≠2)=false:=by simpa using h2
    have hc0:∃ t',(aR em [v]).getD .nil=.sl t' E.length (us E):=by
     rcases hcs with⟨-,h0⟩|h
     ·rw[h0]at h2;cases h2
     ·exact h
    obtain⟨t',hc0⟩:=hc0
    have h2':((E.length:Int) != 2)=false:=by simp[h2]
    (repeat' (first|refine qS ?_|(refine qK ?_;simp only[ak,reduceIte])|(refine qC ?_;simp[f3,f7,f45,fi,fn,hlt,hd,hB2,hM2,hc0,hD,hDv,w1,h2'])|(refine w_e [] ?_;intro J hJ;simp only[];simp[f3,f7,f45,fi,fn,hlt,hd,hB2,hM2,hc0,hD,hDv,w1,h2'];(refine hJ _ _ ?_;clear hJ J;simp only[ak,reduceIte]))))
    refine hnx _ _ (by simp[f1]) (by simp[f2]) (by simp[f3]) (by simp[f7]) (by simp[f45]) (by simp[fi]) (by simp[fn]) (hK2.set (Nat.le_refl _) _) (by simpa using hn2) (by simp) ⟨Br,by rw[hne];simp,?_⟩
    rcases hX with⟨hX,hB0⟩|⟨t,hX,x1,x2,x3,x4⟩
    ·exact .inl ⟨by simp[hX],hB0⟩
    ·exact .inr ⟨t,by simp[hX],x1,x2,by simpa using x3,by simp[show ¬t=s.next by omega,x4]⟩
   ·have hne:decide (E.length≠2)=true:=by simpa using h2
    have h2':((E.length:Int) != 2)=true:=by simp;omega
    rcases hcs with⟨hc0,hE0⟩|⟨t',hc0⟩
    ·subst hE0
     have hDv0:(aR dm [0]).getD (i 0)=i c:=by simpa using hDv
     rcases hX with⟨hX,hB0⟩|⟨t,hX,x1,x2,x3,x4⟩
     ·subst hB0
      (repeat' (first|refine qS ?_|(refine qC ?_;simp[f3,f7,f45,fi,fn,hlt,hd,hB2,hM2,hc0,hD,hDv0,w1,h2',hX])|(refine w_e [] ?_;intro J hJ;simp only[];simp[f3,f7,f45,fi,fn,hlt,hd,hB2,hM2,hc0,hD,hDv0,w1,h2',hX];(repeat refine ca ?_);(refine hJ _ _ ?_;clear hJ J;simp only[ak,reduceIte]))))
      refine hnx _ _ (by simp[f1]) (by simp[f2]) (by simp[f3]) (by simp[f7]) (by simp[f45]) (by simp[fi]) (by simp[fn]) ((hK2.set (Nat.le_refl _) _).trans ((aB.new _ _).trans (aB.new _ _))) (by simp;omega) (by simp[y1,y2]) ⟨[v],by rw[hne];simp,.inr ⟨s2.next+1,by simp,by omega,by omega,by simp,by simp⟩⟩
     ·have z1:¬t=s2.next:=by omega
      have z2:¬s2.next=t:=by omega
      have z3:¬t=s.next:=by omega
      have z4:¬s.next=t:=by omega
      have z5:(Br.length+1)*4≤140737488355328:=by omega
      have z6:Br.length+1≤maxLen:=by unfold maxLen;omega
      (repeat' (first|refine qS ?_|(refine qC ?_;simp[f3,f7,f45,fi,fn,hlt,hd,hB2,hM2,hc0,hD,hDv0,w1,h2',hX,x1,x4,z1,z2,z3,z4,z5,z6])|(refine w_e [] ?_;intro J hJ;simp only[];simp[f3,f7,f45,fi,fn,hlt,hd,hB2,hM2,hc0,hD,hDv0,w1,h2',hX,x1,x4,z1,z2,z3,z4,z5,z6];(refine hJ _ _ ?_;clear hJ J;simp only[ak,reduceIte]))))
      refine hnx _ _ (by simp[f1]) (by simp[f2]) (by simp[f3]) (by simp[f7]) (by simp[f45]) (by simp[fi]) (by simp[fn]) ((((hK2.set (Nat.le_refl _) _).trans (aB.new _ _)).set (by omega) _).trans (aB.new _ _)) (by simp;omega) (by simp[y1,y2,z4]) ⟨Br++[v],by rw[hne];simp,.inr ⟨s2.next+1,by simp,by omega,by omega,by simp,by simp⟩⟩
    ·skip
     rcases hX with⟨hX,hB0⟩|⟨t,hX,x1,x2,x3,x4⟩
     ·subst hB0
      (repeat' (first|refine qS ?_|(refine qC ?_;simp[f3,f7,f45,fi,fn,hlt,hd,hB2,hM2,hc0,hD,hDv,w1,h2',hX])|(refine w_e [] ?_;intro J hJ;simp only[];simp[f3,f7,f45,fi,fn,hlt,hd,hB2,hM2,hc0,hD,hDv,w1,h2',hX];(repeat refine ca ?_);(refine hJ _ _ ?_;clear hJ J;simp only[ak,reduceIte]))))
      refine hnx _ _ (by simp[f1]) (by simp[f2]) (by simp[f3]) (by simp[f7]) (by simp[f45]) (by simp[fi]) (by simp[fn]) ((hK2.set (Nat.le_refl _) _).trans ((aB.new _ _).trans (aB.new _ _))) (by simp;omega) (by simp[y1,y2]) ⟨[v],by rw[hne];simp,.inr ⟨s2.next+1,by simp,by omega,by omega,by simp,by simp⟩⟩
     ·have z1:¬t=s2.next:=by omega
      have z2:¬s2.next=t:=by omega
      have z3:¬t=s.next:=by omega
      have z4:¬s.next=t:=by omega
      have z5:(Br.length+1)*4≤140737488355328:=by omega
      have z6:Br.length+1≤maxLen:=by unfold maxLen;omega
      (repeat' (first|refine qS ?_|(refine qC ?_;simp[f3,f7,f45,fi,fn,hlt,hd,hB2,hM2,hc0,hD,hDv,w1,h2',hX,x1,x4,z1,z2,z3,z4,z5,z6])|(refine w_e [] ?_;intro J hJ;simp only[];simp[f3,f7,f45,fi,fn,hlt,hd,hB2,hM2,hc0,hD,hDv,w1,h2',hX,x1,x4,z1,z2,z3,z4,z5,z6];(refine hJ _ _ ?_;clear hJ J;simp only[ak,reduceIte]))))
      refine hnx _ _ (by simp[f1]) (by simp[f2]) (by simp[f3]) (by simp[f7]) (by simp[f45]) (by simp[fi]) (by simp[fn]) ((((hK2.set (Nat.le_refl _) _).trans (aB.new _ _)).set (by omega) _).trans (aB.new _ _)) (by simp;omega) (by simp[y1,y2,z4]) ⟨Br++[v],by rw[hne];simp,.inr ⟨s2.next+1,by simp,by omega,by omega,by simp,by simp⟩⟩
  ·clear f1 f2 f3 f22 fr
   rintro fr s2 ⟨⟨f1,f2,f3,f7,f45⟩,hK2,hn2,⟨dm,hD,hDc⟩,Br,hBr,hX⟩
   rw[List.take_length]at hBr
   simp only[List.take_length]at hDc
   have hBrF:Br=brF k:=hBr
   subst hBrF
   clear hBr
   have d4:(aR dm [4]).getD (i 0)=i (kJ k 4:Nat):=by
    rw[hDc 4];unfold kJ
    congr 3
    exact funext fun v=>decide_eq_decide.2 (by omega)
   have d3:(aR dm [3]).getD (i 0)=i (kJ k 3:Nat):=by
    rw[hDc 3];unfold kJ
    congr 3
    exact funext fun v=>decide_eq_decide.2 (by omega)
   have hRp2:=(hK2.H (st.next+1) (by omega)).trans hRp
   have hG2:=(hK2.H st.next (by omega)).trans hG
   have hB2:=(hK2.H (s1.next+2) (by omega)).trans hB
   have hLk2:=hLk.keeps hK2
   have hKs:=hK.trans hK2
   have hno:∀ t:LV,t=t→cV k=0→eB k=oM:=fun _ _ h=>by unfold eB;rw[if_pos (.inr h)]
   by_cases hk0:cV k=0
   ·have hlk:eB k=oM:=hno (.nil) rfl hk0
    have hfin:∀ z:LV,z=.ag [i 0,.sl 0 0 [],.sl 0 0 []]→z=.ag (rpL (eB k)):=fun z hz=>by rw[hlk,hz];rfl
    unfold cV at hk0
    have hk5:¬((brF k).length=5∧kJ k 4=5):=fun h=>by rw[if_pos h]at hk0;cases hk0
    have hk6:¬((brF k).length=6∧kJ k 3=6):=fun h=>by rw[if_neg hk5,if_pos h]at hk0;cases hk0
    clear hk0
    rcases hX with⟨hX,hB0⟩|⟨t,hX,x1,x2,x3,x4⟩
    ·(repeat' (first|refine qS ?_|refine qB ?_|(refine qR ?_;simp only[ak,reduceIte];simp[f2,hX,hRp2])|(refine qC ?_;simp[f2,hX,hRp2])|(refine w_e [] ?_;intro J hJ;simp only[];simp[f2,hX,hRp2];(refine hJ _ _ ?_;clear hJ J;simp only[ak,reduceIte]))))
     exact⟨hfin _ (by simp[z0,z0L]),hKs.set (by omega) _⟩
    ·generalize (brF k).length=n at *
     generalize kJ k 4=c4 at *
     generalize kJ k 3=c3 at *
     by_cases n5:n=5
     ·have b4:((c4:Int)==5)=false:=by simp;omega
      subst n5
      (repeat' (first|refine qS ?_|refine qB ?_|(refine qR ?_;simp only[ak,reduceIte];simp[f2,f7,hX,hRp2,hD,d4,b4])|(refine qC ?_;simp[f2,f7,hX,hRp2,hD,d4,b4])|(refine w_e [] ?_;intro J hJ;simp only[];simp[f2,f7,hX,hRp2,hD,d4,b4];(refine hJ _ _ ?_;clear hJ J;simp only[ak,reduceIte]))))
      exact⟨hfin _ (by simp[z0,z0L]),hKs.set (by omega) _⟩
     have b5:((n:Int)==5)=false:=by simp;omega
     by_cases n6:n=6
     ·have b4:((c3:Int)==6)=false:=by simp;omega
      subst n6
      (repeat' (first|refine qS ?_|refine qB ?_|(refine qR ?_;simp only[ak,reduceIte];simp[f2,f7,hX,hRp2,hD,d3,b4])|(refine qC ?_;simp[f2,f7,hX,hRp2,hD,d3,b4])|(refine w_e [] ?_;intro J hJ;simp only[];simp[f2,f7,hX,hRp2,hD,d3,b4];(refine hJ _ _ ?_;clear hJ J;simp only[ak,reduceIte]))))
      exact⟨hfin _ (by simp[z0,z0L]),hKs.set (by omega) _⟩
     have b6:((n:Int)==6)=false:=by simp;omega
     (repeat' (first|refine qS ?_|refine qB ?_|(refine qR ?_;simp only[ak,reduceIte];simp[f2,f7,hX,hRp2,b5,b6])|(refine qC ?_;simp[f2,f7,hX,hRp2,b5,b6])|(refine w_e [] ?_;intro J hJ;simp only[];simp[f2,f7,hX,hRp2,b5,b6];(refine hJ _ _ ?_;clear hJ J;simp only[ak,reduceIte]))))
     exact⟨hfin _ (by simp[z0,z0L]),hKs.set (by omega) _⟩
   ·obtain⟨m,hm,hbl,hdeg⟩:=aCB hk0
    have hX':∃ t,fr 6=.sl t (brF k).length (us (brF k)):=by
     rcases hX with⟨-,hB0⟩|⟨t,hX,-⟩
     ·rw[hB0]at hbl;simp at hbl
     ·exact⟨t,hX⟩
    obtain⟨tB,f6⟩:=hX'
    have hvb:∀ e∈bP k.es,0≤bG k.es e∧bG k.es e<4294967296:=fun e he=>by have:=aDF hgf hids e he;omega
    have hfl:=pV hdeg
    have hfl100:((brF k).flatMap (ends k.es)).length≤100:=by rw[hfl];rcases hm with rfl|rfl<;>rcases hbl with h|h<;>rw[h]<;>omega
    have hcall:=aOQ hids hpos he hvb hLk2 (brF k) tB (fun v hv=>by have:=hdeg v hv;exact⟨by omega,fun h=>by rw[h]at this;simp at this;omega⟩) (by omega) hfl100 (tM k) rfl (h12 hk0) (by omega)
    have hle:(k.es.length:Int)=k.es.length:=rfl
    have hok:∀ S,tM k=some S→oW k.es (0+((brF k).flatMap (ends k.es)).length) S:=fun S hS=>aEf hids he hvb _ (fun d hd=>by
     obtain⟨v,hv,hdv⟩:=List.mem_flatMap.1 hd
     refine aKn hids (nU hdv) ?_
     rw[iJ hids hdv,hdeg v hv];omega) (oW.nil _ he) hS
    have hlk:eB k=match tM k with
     |none=>oM
     |some S=>if S.e≠0∨(cV k=33∧jF (brF k) (kV S.W)=false)then oM else⟨cV k,brF k,kV S.W⟩:=by
     have h1:¬(chk k≠0∨cV k=0):=fun h=>by rcases h with h|h;exact h hc;exact hk0 h
     unfold eB
     rw[if_neg h1]
    by_cases hk5:(brF k).length=5∧kJ k 4=5
    ·have hkd:cV k=5:=by unfold cV;rw[if_pos hk5]
     obtain⟨g5,g4⟩:=hk5
     have b5:(((brF k).length:Int)==5)=true:=by rw[g5];rfl
     have b4:((kJ k 4:Int)==5)=true:=by rw[g4];rfl
     (repeat' (first|refine qS ?_|refine qB ?_|(refine qC ?_;simp[f1,f2,f3,f6,f7,hD,d4,b5,b4,hB2,hG2])|(refine w_e [] ?_;intro J hJ;simp only[];simp[f1,f2,f3,f6,f7,hD,d4,b5,b4,hB2,hG2];(try (refine hJ _ _ ?_;clear hJ J;simp only[ak,reduceIte])))))
     refine qE hcall (by simp) ?_;rintro r s3 ⟨rfl,q1⟩
     rw[q1];clear q1 s3
     cases hR:tM k with
     |none=>
      rw[hR]at hlk
      unfold aBf
      (repeat' (first|refine qS ?_|(refine qR ?_;simp only[ak,reduceIte];simp[f2,hRp2])|(refine qC ?_;simp[f2,hRp2])|((first|(refine w_e [] ?_;intro J hJ;simp only[])|(refine aL ?_));simp[f2,hRp2];(refine hJ _ _ ?_;clear hJ J;simp only[ak,reduceIte]))))
      exact⟨by rw[hlk];simp[z0,z0L,rpL,oM,bA],hKs.set (by omega) _⟩
     |some S=>
      rw[hR]at hlk
      simp only at hlk
      have hwk:=hok S hR
      unfold aBf
      by_cases hS0:S.e=0
      ·rw[if_neg (by rw[hkd];simp[hS0]),hkd]at hlk
       (repeat' (first|refine qS ?_|(refine qK ?_;simp only[ak,reduceIte])|(refine qR ?_;simp only[ak,reduceIte];simp[f2,f6,hRp2,hS0])|(refine qC ?_;simp[f2,f6,hRp2,hS0])|((first|(refine w_e [] ?_;intro J hJ;simp only[])|(refine aL ?_));simp[f2,f6,hRp2,hS0];(refine hJ _ _ ?_;clear hJ J;simp only[ak,reduceIte]))))
       refine⟨?_,hKs.set (by omega) _⟩
       rw[hlk,rpL,yA hwk]
       simp only[z0,z0L,iO,mW]
      ·rw[if_pos (.inl hS0)]at hlk
       (repeat' (first|refine qS ?_|(refine qR ?_;simp only[ak,reduceIte];simp[f2,hRp2,hS0])|(refine qC ?_;simp[f2,hRp2,hS0])|((first|(refine w_e [] ?_;intro J hJ;simp only[])|(refine aL ?_));simp[f2,hRp2,hS0];(refine hJ _ _ ?_;clear hJ J;simp only[ak,reduceIte]))))
       exact⟨by rw[hlk];simp[z0,z0L,rpL,oM,bA],hKs.set (by omega) _⟩
    ·have hk6:(brF k).length=6∧kJ k 3=6:=by
      unfold cV at hk0
      rw[if_neg hk5]at hk0
      by_cases h:(brF k).length=6∧kJ k 3=6
      ·exact h
      ·rw[if_neg h]at hk0;exact absurd rfl hk0
     have hkd:cV k=33:=by unfold cV;rw[if_neg hk5,if_pos hk6]
     obtain⟨g6,g3⟩:=hk6
     have b5:(((brF k).length:Int)==5)=false:=by rw[g6];rfl
     have b6:(((brF k).length:Int)==6)=true:=by rw[g6];rfl
     have b3:((kJ k 3:Int)==6)=true:=by rw[g3];rfl
     (repeat' (first|refine qS ?_|refine qB ?_|(refine qC ?_;simp[f1,f2,f3,f6,f7,hD,d3,b5,b6,b3,hB2,hG2])|(refine w_e [] ?_;intro J hJ;simp only[];simp[f1,f2,f3,f6,f7,hD,d3,b5,b6,b3,hB2,hG2];(try (refine hJ _ _ ?_;clear hJ J;simp only[ak,reduceIte])))))
     refine qE hcall (by simp) ?_;rintro r s3 ⟨rfl,q1⟩
     rw[q1];clear q1 s3
     cases hR:tM k with
     |none=>
      rw[hR]at hlk
      unfold aBf
      (repeat' (first|refine qS ?_|(refine qR ?_;simp only[ak,reduceIte];simp[f2,hRp2])|(refine qC ?_;simp[f2,hRp2])|((first|(refine w_e [] ?_;intro J hJ;simp only[])|(refine aL ?_));simp[f2,hRp2];(refine hJ _ _ ?_;clear hJ J;simp only[ak,reduceIte]))))
      exact⟨by rw[hlk];simp[z0,z0L,rpL,oM,bA],hKs.set (by omega) _⟩
     |some S=>
      rw[hR]at hlk
      simp only at hlk
      have hwk:=hok S hR
      have hsl:=yA hwk
      have hcr:=aNf (brF k) (kV S.W) tB 0 (by omega) (by omega) (fun w hw=>by have:=hwk.len w (aCU hwk hw);omega) (by have:=hwk.few;rw[hsl];omega) s2
      rw[hsl]at hcr
      unfold aBf
      by_cases hS0:S.e=0
      ·(repeat' (first|refine qS ?_|((first|(refine w_e [] ?_;intro J hJ;simp only[])|(refine aL ?_));simp[f6,hS0];(try (refine hJ _ _ ?_;clear hJ J;simp only[ak,reduceIte])))))
       refine qE hcr (by simp) ?_;rintro r s3 ⟨rfl,q1⟩
       rw[q1];clear q1 s3
       cases hcf:jF (brF k) (kV S.W) with
       |true=>
        rw[if_neg (by rw[hcf];simp[hS0]),hkd]at hlk
        (repeat' (first|refine qS ?_|(refine qK ?_;simp only[ak,reduceIte])|(refine qR ?_;simp only[ak,reduceIte];simp[f2,f6,hRp2])|(refine qC ?_;simp[f2,f6,hRp2])|((first|(refine w_e [] ?_;intro J hJ;simp only[])|(refine aL ?_));simp[f2,f6,hRp2];(refine hJ _ _ ?_;clear hJ J;simp only[ak,reduceIte]))))
        refine⟨?_,hKs.set (by omega) _⟩
        rw[hlk,rpL,hsl]
        simp only[z0,z0L,iO,mW]
       |false=>
        rw[if_pos (.inr ⟨hkd,hcf⟩)]at hlk
        (repeat' (first|refine qS ?_|(refine qR ?_;simp only[ak,reduceIte];simp[f2,hRp2])|(refine qC ?_;simp[f2,hRp2])|((first|(refine w_e [] ?_;intro J hJ;simp only[])|(refine aL ?_));simp[f2,hRp2];(refine hJ _ _ ?_;clear hJ J;simp only[ak,reduceIte]))))
        exact⟨by rw[hlk];simp[z0,z0L,rpL,oM,bA],hKs.set (by omega) _⟩
      ·rw[if_pos (.inl hS0)]at hlk
       (repeat' (first|refine qS ?_|(refine qR ?_;simp only[ak,reduceIte];simp[f2,hRp2,hS0])|(refine qC ?_;simp[f2,hRp2,hS0])|((first|(refine w_e [] ?_;intro J hJ;simp only[])|(refine aL ?_));simp[f2,hRp2,hS0];(refine hJ _ _ ?_;clear hJ J;simp only[ak,reduceIte]))))
       exact⟨by rw[hlk];simp[z0,z0L,rpL,oM,bA],hKs.set (by omega) _⟩
def rvK(es:List Ed)(d:Int):Int:=match dS es (2*es.length) d with
 |some l=>tw (l.getD (l.length-1) 0)
 |none=>0
def gA(es:List Ed)(d:Int):Int:=(eR es d).getD ((eR es d).length-1) 0
section
variable {es:List Ed} (hids:es.Pairwise fun x y=>x.id<y.id)
include hids
theorem aBW{d:Int}{k:Nat}(ht:eH es d k):rvK es d=tw (cF es k d):=by
 unfold rvK
 rw[ht.dS hids]
 simp
theorem wM{d:Int}{k:Nat}(ht:eH es d k):gA es d=bG es (rvK es d):=by
 unfold gA
 rw[qJ hids ht,aBW hids ht,mX hids ht,show k+2-1=k+1 by omega]
 simp
theorem aEa{d:Int}{k:Nat}(ht:eH es d k):eH es (rvK es d) k:=by rw[aBW hids ht];exact ht.rev hids
theorem aBF{d:Int}{k:Nat}(ht:eH es d k):rvK es (rvK es d)=d:=by
 rw[aBW hids (aEa hids ht),aBW hids ht,ht.rev_it hids k (Nat.le_refl _),Nat.sub_self,aGr];rfl
theorem aCH{d:Int}{k:Nat}(ht:eH es d k):gA es (rvK es d)=bG es d:=by rw[wM hids (aEa hids ht),aBF hids ht]
theorem up_down{D:List Int}(hD:D.Nodup)(htr:∀ d∈D,∃ k,eH es d k)(hrv:∀ d∈D,rvK es d∈D):D.countP (fun d=>decide (bG es d<gA es d))=D.countP (fun d=>decide (gA es d<bG es d)):=by
 have key:∀ p q:Int→Bool,(∀ d∈D,p d=true→q (rvK es d)=true)→D.countP p≤D.countP q:=fun p q h=>by
  have h1:((D.filter p).map (rvK es)).Nodup:=by
   rw[List.Nodup,List.pairwise_map]
   refine(hD.sublist List.filter_sublist).imp_of_mem fun {a b} ha hb hab he=>?_
   obtain⟨ka,ta⟩:=htr a (List.mem_filter.1 ha).1
   obtain⟨kb,tb⟩:=htr b (List.mem_filter.1 hb).1
   apply hab
   rw[← aBF hids ta,he,aBF hids tb]
  have h2:∀ x∈(D.filter p).map (rvK es),x∈D.filter q:=fun x hx=>by
   obtain⟨d,hd,rfl⟩:=List.mem_map.1 hx
   obtain⟨h3,h4⟩:=List.mem_filter.1 hd
   exact List.mem_filter.2 ⟨hrv d h3,h d h3 h4⟩
  have h3:=List.Nodup.length_le_of_subset h1 h2
  rw[List.length_map]at h3
  rw[List.countP_eq_length_filter,List.countP_eq_length_filter];exact h3
 refine Nat.le_antisymm (key _ _ fun d hd h=>?_) (key _ _ fun d hd h=>?_)
 ·obtain⟨k,ht⟩:=htr d hd
  simp only[decide_eq_true_eq]at h ⊢
  rw[aCH hids ht,← wM hids ht];exact h
 ·obtain⟨k,ht⟩:=htr d hd
  simp only[decide_eq_true_eq]at h ⊢
  rw[aCH hids ht,← wM hids ht];exact h
end
def gL(W:List (List Int)):Int:=(W.map fun w=>((w.length-1:Nat):Int)).sum
theorem rZ{es:List Ed}:∀(L:List Int) {S S':Wy},tR es L S=some S'→(∀ d∈L,gA es d≠bG es d)∧S'.W.length=S.W.length+L.countP (fun d=>decide (bG es d<gA es d))∧S'.e+gL S'.W=S.e+gL S.W∧∀ w∈S'.W,w∈S.W∨∃ d∈L,w=eR es d∧bG es d<gA es d
 |[],S,S',h=>by simp only[tR,Option.some.injEq]at h;subst h;exact⟨by simp,by simp,rfl,fun w hw=>.inl hw⟩
 |d::L,S,S',h=>by
  simp only[tR]at h
  cases hs:pW es S d with
  |none=>rw[hs]at h;cases h
  |some S1=>
   rw[hs]at h
   obtain⟨i1,i2,i3,i4⟩:=rZ L (S:=S1) h
   unfold pW at hs
   simp only at hs
   change (if gA es d=bG es d then none else if gA es d<bG es d then some S else if(bG es d,gA es d)∈S.seen then none else some ⟨(bG es d,gA es d)::S.seen,S.W++[eR es d],S.e-((eR es d).length-1:Nat)⟩)=some S1 at hs
   split at hs
   ·cases hs
   rename_i hne
   split at hs
   ·rename_i hlt
    injection hs with hs;subst hs
    refine⟨fun e he=>?_,?_,i3,fun w hw=>?_⟩
    ·rcases List.mem_cons.1 he with rfl|he
     ·exact hne
     ·exact i1 e he
    ·rw[List.countP_cons,if_neg (by simp;omega),i2];omega
    ·rcases i4 w hw with h|⟨e,he,h⟩
     ·exact .inl h
     ·exact .inr ⟨e,List.mem_cons_of_mem _ he,h⟩
   rename_i hnlt
   split at hs
   ·cases hs
   injection hs with hs;subst hs
   refine⟨fun e he=>?_,?_,?_,fun w hw=>?_⟩
   ·rcases List.mem_cons.1 he with rfl|he
    ·exact hne
    ·exact i1 e he
   ·rw[List.countP_cons,if_pos (by simp;omega),i2]
    simp only[List.length_append,List.length_singleton];omega
   ·rw[i3];simp only[gL,List.map_append,List.map_cons,List.map_nil,List.sum_append,List.sum_cons,List.sum_nil];omega
   ·rcases i4 w hw with h|⟨e,he,h⟩
    ·rcases List.mem_append.1 h with h|h
     ·exact .inl h
     ·exact .inr ⟨d,by simp,List.mem_singleton.1 h,by omega⟩
    ·exact .inr ⟨e,List.mem_cons_of_mem _ he,h⟩
theorem aKh{k:Gr}(h:GrF k)(hids:k.es.Pairwise fun x y=>x.id<y.id):((brF k).flatMap (ends k.es)).Nodup:=by
 rw[List.Nodup,List.pairwise_flatMap]
 refine⟨fun v _=>lB (nF hids v),?_⟩
 refine(h.rise.sublist List.filter_sublist).imp fun {a b} hab x hx y hy=>?_
 rintro rfl
 have:=aHE hids hx hy
 omega
theorem aFS{k:Gr}(hids:k.es.Pairwise fun x y=>x.id<y.id):∀ d∈(brF k).flatMap (ends k.es),∃ n,eH k.es d n:=fun d hd=>by
 obtain⟨v,hv,hdv⟩:=List.mem_flatMap.1 hd
 refine aKn hids (nU hdv) ?_
 rw[iJ hids hdv]
 have:=(List.mem_filter.1 hv).2
 simpa using this
theorem aOt{k:Gr}(h:GrF k)(hids:k.es.Pairwise fun x y=>x.id<y.id):∀ d∈(brF k).flatMap (ends k.es),rvK k.es d∈(brF k).flatMap (ends k.es):=fun d hd=>by
 obtain⟨n,ht⟩:=aFS hids d hd
 have hr:=aEa hids ht
 have hm:=nJ hids hr.dart
 refine List.mem_flatMap.2 ⟨bG k.es (rvK k.es d),List.mem_filter.2 ⟨?_,by simpa using hr.two⟩,hm⟩
 obtain⟨x,hx,hh⟩:=dJ.1 hm
 obtain⟨h1,h2⟩:=h.ends x hx
 rcases hh with⟨e1,_⟩|⟨e1,_⟩
 ·rw[← e1];exact h1
 ·rw[← e1];exact h2
theorem aLx{k:Gr}(h:GrF k)(hids:k.es.Pairwise fun x y=>x.id<y.id){S:Wy}(hS:tM k=some S):2*S.W.length=((brF k).flatMap (ends k.es)).length:=by
 obtain⟨h1,h2,_,_⟩:=rZ _ hS
 have h3:=up_down hids (aKh h hids) (aFS hids) (aOt h hids)
 have h4:=List.length_eq_countP_add_countP (fun d=>decide (bG k.es d<gA k.es d)) (l:=(brF k).flatMap (ends k.es))
 have h5:((brF k).flatMap (ends k.es)).countP (fun d=>decide (¬decide (bG k.es d<gA k.es d)=true))=((brF k).flatMap (ends k.es)).countP (fun d=>decide (gA k.es d<bG k.es d)):=by
  refine List.countP_congr fun d hd=>?_
  have:=h1 d hd
  simp;omega
 simp only[List.length_nil,Nat.zero_add]at h2
 rw[h5]at h4
 omega
theorem aFw{k:Gr}(h:GrF k)(hids:k.es.Pairwise fun x y=>x.id<y.id)(hk:cV k≠0){S:Wy}(hS:tM k=some S):S.W.length=(if cV k=33 then 9 else 10):=by
 have h1:=aLx h hids hS
 unfold cV at hk ⊢
 by_cases h5:(brF k).length=5∧kJ k 4=5
 ·have hd:∀ v∈brF k,(ends k.es v).length=4:=fun v hv=>by
   have:=gH (p:=fun v=>decide ((ends k.es v).length=4)) (q:=fun v=>decide ((ends k.es v).length≠2)) (fun v hp=>by simp at hp ⊢;omega) (h5.2.trans h5.1.symm) v hv
   simpa using this
  rw[pV hd,h5.1]at h1
  rw[if_pos h5,if_neg (by decide)];omega
 ·rw[if_neg h5]at hk ⊢
  by_cases h6:(brF k).length=6∧kJ k 3=6
  ·have hd:∀ v∈brF k,(ends k.es v).length=3:=fun v hv=>by
    have:=gH (p:=fun v=>decide ((ends k.es v).length=3)) (q:=fun v=>decide ((ends k.es v).length≠2)) (fun v hp=>by simp at hp ⊢;omega) (h6.2.trans h6.1.symm) v hv
    simpa using this
   rw[pV hd,h6.1]at h1
   rw[if_pos h6,if_pos rfl];omega
  ·rw[if_neg h6]at hk;exact absurd rfl hk
def jnP(v p:Int)(x:Ed):Bool:=(x.a==v&&x.b==p)||(x.b==v&&x.a==p)
structure aFn(g:Gr)(w:List Int):Prop where
 two':2≤w.length
 le:w.length≤1000
 two:∀ i,i<w.length→(decide (0<i)&&decide (i+1<w.length))=decide ((ends g.es (w.getD i 0)).length=2)
 adj:∀ i,0<i→i<w.length→g.es.any (jnP (w.getD i 0) (w.getD (i-1) 0))=true
 lt:w.getD 0 0<w.getD (w.length-1) 0
set_option maxHeartbeats 2000000 in
theorem aMV(g:Gr)(hid:aGk g.es)(he:g.es.length≤1000)(w:List Int)(hw:aFn g w)(t:Nat)(st:St):
 aF Tryz.prog 10 [.ag (grL g),.sl t w.length (us w)] st fun r st'=>r=bb true∧st'=st:=by
 refine qT (Q:=fun r=>r=bb true) ?_ fun r h=>by subst h;trivial
 have hel:=aO g.es
 have hw2:=hw.two'
 have hwl:=hw.le
 refine qO aK Tryz.func10 rfl rfl Tryz.ntmps10 (rs:=[.tmp 4]) rfl (by simp) ?_
 (repeat' (first|refine qS ?_|refine qB ?_|(refine w_e [] ?_;intro J hJ;simp only[];simp[];(refine hJ _ _ ?_;clear hJ J;simp only[ak,reduceIte]))))
 refine aP 13 12 14 76 (w.length) (fun j fr st2=>fr 1=.sl t w.length (us w)∧fr 2=.pt st.next 0∧fr 11=.sl t w.length (us w)∧st2.H st.next=.box 25 2 (grL g)∧aB st st2∧st.next<st2.next) ?_ ?_ ?_
 ·exact⟨by simp,by simp,by simp,by simp,aB.new _ _,by simp⟩
 ·rintro oj fr s hlt ⟨f1,f2,f11,hG,hK,hn⟩ fi fn JO hJO
  have hd:=qG w oj hlt
  have htwo:=hw.two oj hlt
  have w1:IntKind.i64.wrap ((oj:Int)+1)=(oj:Int)+1:=wrap_i64 _ (by omega) (by omega)
  have hfin:∀ f s2,f 1=.sl t w.length (us w)→f 2=.pt st.next 0→f 11=.sl t w.length (us w)→f 13=i oj→f 12=i w.length→aB s s2→JO f s2:=fun f s2 q1 q2 q3 q4 q5 q6=>hJO f s2 q4 q5 ⟨by simp[q1],by simp[q2],by simp[q3],(q6.H _ hn).trans hG,hK.trans q6,Nat.lt_of_lt_of_le hn q6.next⟩
  clear hJO
  by_cases hj0:oj=0
  ·subst hj0
   have hne:¬(ends g.es (w.getD 0 0)).length=2:=by simpa using htwo
   have hne':∀ t':Nat,(((ends g.es (w.getD 0 0)).length:Int)==2)=false:=fun _=>by rw[beq_eq_false_iff_ne];exact fun h=>hne (by omega)
   generalize w.getD 0 0=v at *
   (repeat' (first|refine qS ?_|(refine w_e [] ?_;intro J hJ;simp only[];simp[f1,f11,f2,fi,fn,hlt,hd,hG];(try (refine hJ _ _ ?_;clear hJ J;simp only[ak,reduceIte])))))
   refine qE (yD g v _ he hid) (by simp[grL]) ?_;rintro r s2 ⟨⟨t',rfl⟩,hk2⟩
   (repeat' (first|refine qS ?_|(refine qK ?_;simp only[ak,reduceIte])|(refine qX ?_;simp only[ak,reduceIte])|(refine qC ?_;simp[hne' 0,fi])|((first|(refine w_e [] ?_;intro J hJ;simp only[])|(refine aL ?_));simp[hne' 0,fi];(refine hJ _ _ ?_;clear hJ J;simp only[ak,reduceIte]))))
   exact hfin _ _ (by simp[f1]) (by simp[f2]) (by simp[f11]) (by simp[fi]) (by simp[fn]) hk2
  have hj1:(0:Int)<oj:=by omega
  have hj1':0<oj:=by omega
  have hadj:=hw.adj oj (by omega) hlt
  have hdp:=qG w (oj-1) (by omega)
  have w2:IntKind.i64.wrap ((oj:Int)-1)=((oj-1:Nat):Int):=by rw[wrap_i64 _ (by omega) (by omega)];omega
  have hjl:oj-1<w.length:=by omega
  have hjl':((oj-1:Nat):Int)<w.length:=by omega
  have hj0':((oj:Int)==0)=false:=by simp;omega
  generalize hvv:w.getD oj 0=v at *
  generalize w.getD (oj-1) 0=p at *
  obtain⟨b,hb⟩:∃ b,b=decide (oj+1<w.length):=⟨_,rfl⟩
  have hb':decide ((oj:Int)+1<w.length)=b:=by rw[hb];exact decide_eq_decide.2 (by omega)
  have he2:(((ends g.es v).length:Int)==2)=b:=by
   have h1:b=decide ((ends g.es v).length=2):=by rw[hb,← htwo,decide_eq_true hj1',Bool.true_and]
   rw[h1,Bool.eq_iff_iff];simp;omega
  (repeat' (first|refine qS ?_|(refine w_e [] ?_;intro J hJ;simp only[];simp[f1,f11,f2,fi,fn,hlt,hd,hG,hj1,hj1',w1,hb'];(try (refine hJ _ _ ?_;clear hJ J;simp only[ak,reduceIte])))))
  refine qE (yD g v _ he hid) (by simp[grL]) ?_;rintro r s2 ⟨⟨t',rfl⟩,hk2⟩
  have hG2:=(hk2.H st.next hn).trans hG
  have hn2:=Nat.lt_of_lt_of_le hn hk2.next
  (repeat' (first|refine qS ?_|refine qB ?_|(refine qK ?_;simp only[ak,reduceIte])|(refine qC ?_;simp[he2,hj0',f2,hG2])|((first|(refine w_e [] ?_;intro J hJ;simp only[])|(refine aL ?_));simp[he2,hj0',f2,hG2];(refine hJ _ _ ?_;clear hJ J;simp only[ak,reduceIte]))))
  refine aP 39 38 40 73 (g.es.length) (fun j fr st2=>(fr 1=.sl t w.length (us w)∧fr 2=.pt st.next 0∧fr 11=.sl t w.length (us w)∧fr 13=i oj∧fr 12=i w.length∧fr 5=i oj∧fr 6=u v)∧fr 37=.sl 0 g.es.length (eds g.es)∧fr 8=bb ((g.es.take j).any (jnP v p))∧aB s st2) ?_ ?_ ?_
  ·exact⟨⟨by simp[f1],by simp[f2],by simp[f11],by simp[fi],by simp[fn],by simp,by simp⟩,by simp,by simp,hk2⟩
  ·clear f1 f2 f11 fi fn hG hG2 hk2 hn2 fr
   rintro j2 fr s3 hlt2 ⟨⟨f1,f2,f11,f13,f12,f5,f6⟩,f37,f8,hK3⟩ fi fn J hJ
   have hd2:=bE g.es j2 hlt2
   have hk3:j2*3<g.es.length*3:=by omega
   have htk:=zL g.es (jnP v p) j2 hlt2
   generalize g.es.getD j2 ed0=x at *
   obtain⟨dx,ax,bx⟩:=x
   have hjn:jnP v p ⟨dx,ax,bx⟩=((ax==v&&bx==p)||(bx==v&&ax==p)):=rfl
   rw[hjn]at htk
   generalize (g.es.take j2).any (jnP v p)=B at *
   have hnx:∀ f s4 c,f 1=.sl t w.length (us w)→f 2=.pt st.next 0→f 11=.sl t w.length (us w)→f 13=i oj→f 12=i w.length→f 5=i oj→f 6=u v→f 37=.sl 0 g.es.length (eds g.es)→f 39=i j2→f 38=i g.es.length→f 8=bb c→(B||((ax==v&&bx==p)||(bx==v&&ax==p)))=c→aB s s4→J f s4:=fun f s4 c q1 q2 q3 q4 q5 q6 q7 q8 q9 q10 q11 q12 q13=>hJ f s4 q9 q10 ⟨⟨by simp[q1],by simp[q2],by simp[q3],by simp[q4],by simp[q5],by simp[q6],by simp[q7]⟩,by simp[q8],by simp[q11,htk,q12],q13⟩
   clear hJ htk hjn
   cases c1:(ax==v)<;>cases c2:(bx==p)<;>cases c3:(bx==v)<;>cases c4:(ax==p)
   all_goals
    (repeat' (first|refine qS ?_|(refine qK ?_;simp only[ak,reduceIte])|(refine qC ?_;simp[f1,f5,f6,f37,fi,fn,hlt2,hd2,hel,hk3,c1,c2,c3,c4,w2,hdp,hjl,hjl'])|((first|(refine w_e [] ?_;intro J hJ;simp only[])|(refine w_q ?_;intro J hJ));simp[f1,f5,f6,f37,fi,fn,hlt2,hd2,hel,hk3,c1,c2,c3,c4,w2,hdp,hjl,hjl'];(refine hJ _ _ ?_;clear hJ J;simp only[ak,reduceIte]))))
    exact hnx _ _ (B||((ax==v&&bx==p)||(bx==v&&ax==p))) (by simp[f1]) (by simp[f2]) (by simp[f11]) (by simp[f13]) (by simp[f12]) (by simp[f5]) (by simp[f6]) (by simp[f37]) (by simp[fi]) (by simp[fn]) (by simp[f8,c1,c2,c3,c4]) rfl (hK3.trans (aB.new _ _))
  ·rintro fr s3 ⟨⟨f1,f2,f11,f13,f12,f5,f6⟩,f37,f8,hK3⟩
   rw[List.take_length,hadj]at f8
   (repeat' (first|refine qS ?_|(refine qK ?_;simp only[ak,reduceIte])|(refine qC ?_;simp[f8])|(refine w_e [] ?_;intro J hJ;simp only[];simp[f8];(refine hJ _ _ ?_;clear hJ J;simp only[ak,reduceIte]))))
   exact hfin _ _ (by simp[f1]) (by simp[f2]) (by simp[f11]) (by simp[f13]) (by simp[f12]) hK3
 ·rintro fr s ⟨f1,f2,f11,hG,hK,hn⟩
  have hd0:=qG w 0 (by omega)
  have hdl:=qG w (w.length-1) (by omega)
  rw[List.drop_zero]at hd0
  have hlt:=hw.lt
  have h0:hdL (us w)=u (w.getD 0 0):=by rw[hd0];rfl
  generalize w.getD 0 0=a at *
  generalize w.getD (w.length-1) 0=b at *
  have w1:IntKind.i64.wrap ((w.length:Int)-1)=((w.length-1:Nat):Int):=by rw[wrap_i64 _ (by omega) (by omega)];omega
  have e1:w.length-1<w.length:=by omega
  have e1':((w.length-1:Nat):Int)<w.length:=by omega
  have e2:(1:Int)<w.length:=by omega
  have e2':1<w.length:=by omega
  have e3:0<w.length:=by omega
  (repeat' (first|refine qS ?_|(refine qR ?_;simp only[ak,reduceIte];simp[f1,e2,e2',e3,h0,w1,hdl,e1,e1',hlt])|(refine w_q ?_;intro J hJ;simp[f1,e2,e2',e3,h0,w1,hdl,e1,e1',hlt];(refine hJ _ _ ?_;clear hJ J;simp only[ak,reduceIte]))))
  exact hK
set_option maxHeartbeats 1000000 in
theorem aCL(g:Gr)(hid:aGk g.es)(he:g.es.length≤1000)(hv:g.vs.length≤1000)(st:St)(hp:0<st.next):
 aF Tryz.prog 12 [.ag (grL g)] st fun r st'=>r=.sl 0 (g.vs.filter fun v=>decide (2<(ends g.es v).length)).length (us (g.vs.filter fun v=>decide (2<(ends g.es v).length)))∧st'=st:=by
 refine qT (Q:=fun r=>r=.sl 0 (g.vs.filter fun v=>decide (2<(ends g.es v).length)).length (us (g.vs.filter fun v=>decide (2<(ends g.es v).length)))) (bR ?_) fun r h=>by subst h;exact⟨.inl rfl,iT _ _⟩
 refine qO aK Tryz.func12 rfl rfl Tryz.ntmps12 (rs:=[.tmp 2]) rfl (by simp) ?_
 (repeat' (first|refine qS ?_|refine qB ?_|(refine w_e [] ?_;intro J hJ;simp only[];simp[];(refine hJ _ _ ?_;clear hJ J;simp only[ak,reduceIte]))))
 refine aP 9 8 10 22 (g.vs.length) (fun j fr st2=>fr 1=.pt st.next 0∧fr 7=.sl 0 g.vs.length (us g.vs)∧st2.H st.next=.box 25 2 (grL g)∧aB st st2∧st.next<st2.next∧∃ Br,Br=(g.vs.take j).filter (fun v=>decide (2<(ends g.es v).length))∧((fr 3=.nil∧Br=[])∨∃ t,fr 3=.sl t Br.length (us Br)∧t≠0∧st.next<t∧t<st2.next∧st2.H t=.own 34 1 Br.length)) ?_ ?_ ?_
 ·exact⟨by simp,by simp,by simp,aB.new _ _,by simp,[],by simp,.inl ⟨by simp,rfl⟩⟩
 ·rintro j fr s hlt ⟨f1,f7,hG,hK,hn,Br,hBr,hX⟩ fi fn J hJ
  have hd:=qG g.vs j hlt
  have hft:=kG g.vs (fun v=>decide (2<(ends g.es v).length)) j hlt
  rw[← hBr]at hft
  have hBl:Br.length≤j:=by rw[hBr];have:=List.length_filter_le (fun v=>decide (2<(ends g.es v).length)) (g.vs.take j);rw[List.length_take]at this;omega
  clear hBr
  generalize g.vs.getD j 0=v at *
  (repeat' (first|refine qS ?_|(refine w_e [] ?_;intro J hJ;simp only[];simp[f1,f7,fi,fn,hlt,hd,hG];(try (refine hJ _ _ ?_;clear hJ J;simp only[ak,reduceIte])))))
  refine qE (yD g v _ he hid) (by simp[grL]) ?_;rintro r s2 ⟨⟨t',rfl⟩,hk2⟩
  have hG2:=(hk2.H st.next hn).trans hG
  have hn2:=hk2.next
  generalize (ends g.es v).length=n at *
  by_cases h2:2<n
  ·have h2':(2:Int)<n:=by omega
   rw[decide_eq_true h2,if_pos rfl]at hft
   rcases hX with⟨hX,hB0⟩|⟨t,hX,x1,x2,x3,x4⟩
   ·subst hB0
    (repeat' (first|(refine qC ?_;simp[h2,h2',hX])|((first|(refine w_e [] ?_;intro J hJ;simp only[])|(refine aL ?_));simp[h2,h2',hX];(repeat refine ca ?_);(refine hJ _ _ ?_;clear hJ J;simp only[ak,reduceIte]))))
    exact hJ _ _ (by simp[fi]) (by simp[fn]) ⟨by simp[f1],by simp[f7],by simp[show ¬st.next=s2.next by omega,show ¬st.next=s2.next+1 by omega,hG2],(hK.trans hk2).trans ((aB.new _ _).trans (aB.new _ _)),by simp;omega,[v],by rw[hft];simp,.inr ⟨s2.next+1,by simp,by omega,by omega,by simp,by simp⟩⟩
   ·have x4':=(hk2.H t x3).trans x4
    have z1:¬t=s2.next:=by omega
    have z2:¬s2.next=t:=by omega
    have z3:¬st.next=t:=by omega
    have z5:(Br.length+1)*4≤140737488355328:=by omega
    have z6:Br.length+1≤maxLen:=by unfold maxLen;omega
    (repeat' (first|(refine qC ?_;simp[h2,h2',hX,x1,x4',z1,z2,z5,z6])|((first|(refine w_e [] ?_;intro J hJ;simp only[])|(refine aL ?_));simp[h2,h2',hX,x1,x4',z1,z2,z5,z6];(refine hJ _ _ ?_;clear hJ J;simp only[ak,reduceIte]))))
    exact hJ _ _ (by simp[fi]) (by simp[fn]) ⟨by simp[f1],by simp[f7],by simp[show ¬st.next=s2.next by omega,show ¬st.next=s2.next+1 by omega,z3,hG2],(((hK.trans hk2).trans (aB.new _ _)).set (by omega) _).trans (aB.new _ _),by simp;omega,Br++[v],by rw[hft],.inr ⟨s2.next+1,by simp,by omega,by omega,by simp,by simp⟩⟩
  ·have h2':¬(2:Int)<n:=by omega
   rw[decide_eq_false h2,if_neg (by simp),List.append_nil]at hft
   (repeat' (first|(refine qK ?_;simp only[ak,reduceIte])|(refine qC ?_;simp[h2,h2'])|(refine aL ?_;simp[h2,h2'];(refine hJ _ _ ?_;clear hJ J;simp only[ak,reduceIte]))))
   refine hJ _ _ (by simp[fi]) (by simp[fn]) ⟨by simp[f1],by simp[f7],hG2,hK.trans hk2,by omega,Br,hft.symm,?_⟩
   rcases hX with⟨hX,hB0⟩|⟨t,hX,x1,x2,x3,x4⟩
   ·exact .inl ⟨by simp[hX],hB0⟩
   ·exact .inr ⟨t,by simp[hX],x1,x2,by omega,(hk2.H t x3).trans x4⟩
 ·rintro fr s ⟨f1,f7,hG,hK,hn,Br,hBr,hX⟩
  rw[List.take_length]at hBr
  rw[← hBr]
  rcases hX with⟨hX,hB0⟩|⟨t,hX,-⟩
  ·subst hB0
   (repeat' (first|refine qS ?_|(refine qR ?_;simp only[ak,reduceIte];simp[hX])|(refine w_e [] ?_;intro J hJ;simp only[];simp[hX];(refine hJ _ _ ?_;clear hJ J;simp only[ak,reduceIte]))))
   exact⟨by simp[z0],hK⟩
  ·(repeat' (first|refine qS ?_|(refine qR ?_;simp only[ak,reduceIte];simp[hX])|(refine w_e [] ?_;intro J hJ;simp only[];simp[hX];(refine hJ _ _ ?_;clear hJ J;simp only[ak,reduceIte]))))
   exact⟨by simp only[z0,iO],hK⟩
section
variable {es:List Ed} (hids:es.Pairwise fun x y=>x.id<y.id)
include hids
theorem aLb{x:Int}(hx:x∈bP es):es.any (jnP (bG es (tw x)) (bG es x))=true:=by
 obtain⟨e,he,h⟩:=dJ.1 (nJ hids hx)
 rw[List.any_eq_true]
 refine⟨e,he,?_⟩
 rcases h with⟨h1,h2⟩|⟨h1,h2⟩
 ·have ht:tw x=2*e.id+1:=by unfold tw;rw[if_pos (by omega)];omega
  have:bG es (tw x)=e.b:=iJ hids (dJ.2 ⟨e,he,.inr ⟨rfl,ht⟩⟩)
  rw[this,← h1];simp[jnP]
 ·have ht:tw x=2*e.id:=by unfold tw;rw[if_neg (by omega)];omega
  have:bG es (tw x)=e.a:=iJ hids (dJ.2 ⟨e,he,.inl ⟨rfl,ht⟩⟩)
  rw[this,← h1];simp[jnP]
theorem aEE{d:Int}{k:Nat}(ht:eH es d k){m:Nat}(hm:m≤k):(eR es d).getD (m+1) 0=bG es (tw (cF es m d)):=by
 rw[mX hids ht,List.getD_cons_succ,List.getD_eq_getElem?_getD,List.getElem?_map,List.getElem?_range (by omega)];rfl
theorem aKa{d:Int}{k:Nat}(ht:eH es d k):(eR es d).getD 0 0=bG es d:=by rw[mX hids ht];rfl
theorem aKj{d:Int}{k:Nat}(ht:eH es d k){m:Nat}(hm:m≤k):(eR es d).getD m 0=bG es (cF es m d):=by
 cases m with
 |zero=>exact aKa hids ht
 |succ m=>
  rw[aEE hids ht (by omega)]
  exact(aBv hids (ht.bP hids (by omega)) (ht.go m (by omega))).symm
end
theorem aNS{g:Gr}(hids:g.es.Pairwise fun x y=>x.id<y.id)(he:g.es.length≤100){d:Int}{k:Nat}(ht:eH g.es d k)(hlt:bG g.es d<gA g.es d):aFn g (eR g.es d):=by
 have hl:=qJ hids ht
 have hk:=ht.lt hids
 refine⟨by omega,by omega,fun i hi=>?_,fun i h0 hi=>?_,?_⟩
 ·cases i with
  |zero=>
   rw[aKa hids ht,Bool.eq_iff_iff]
   simp only[Nat.lt_irrefl,decide_false,Bool.false_and,Bool.false_eq_true,decide_eq_true_eq,false_iff]
   exact ht.two
  |succ m=>
   rw[aEE hids ht (by omega),hl,Bool.eq_iff_iff]
   simp only[Nat.zero_lt_succ,decide_true,Bool.true_and,decide_eq_true_eq]
   rcases Nat.lt_or_ge m k with h|h
   ·exact⟨fun _=>of_decide_eq_true (ht.go m h),fun _=>by omega⟩
   ·have hmk:m=k:=by omega
    subst hmk
    refine⟨fun h=>by omega,fun h=>?_⟩
    have:=ht.stop
    unfold fU at this
    rw[h]at this;cases this
 ·obtain⟨m,rfl⟩:∃ m,i=m+1:=⟨i-1,by omega⟩
  rw[aEE hids ht (by omega),Nat.add_sub_cancel,aKj hids ht (by omega)]
  exact aLb hids (ht.bP hids (by omega))
 ·rw[aKa hids ht];exact hlt
theorem aHA{W W':List (List Int)}(h:W.Perm W'):gL W=gL W':=by
 unfold gL
 induction h with
 |nil=>rfl
 |cons x _ ih=>simp only[List.map_cons,List.sum_cons,ih]
 |swap x y l=>simp only[List.map_cons,List.sum_cons];omega
 |trans _ _ h1 h2=>exact h1.trans h2
theorem aGq{es:List Ed}{n:Nat}{S:Wy}(h:oW es n S):(kV S.W).Perm S.W:=by
 unfold kV
 refine((rK h.labs).map _).trans ?_
 rw[List.map_map]
 have:∀ w∈S.W,((wOf S.W)∘dZ) w=w:=fun w hw=>kW h.labs hw
 rw[List.map_congr_left this,List.map_id']
structure Told(k:Gr)(r:Rp):Prop where
 ways:∀ w∈r.ways,aFn k w
 rise:r.ways.Pairwise fun p w=>p.getD 0 0<w.getD 0 0∨(p.getD 0 0=w.getD 0 0∧p.getD (p.length-1) 0<w.getD (w.length-1) 0)
 sum:gL r.ways=k.es.length
 len:r.ways.length=if r.kind=33 then 9 else 10
 br:r.br=k.vs.filter fun v=>decide (2<(ends k.es v).length)
theorem aGg{k:Gr}(he:k.es.length≤100):eB k=oM∨((eB k).kind≠0∧Told k (eB k)):=by
 by_cases h0:chk k≠0∨cV k=0
 ·left;unfold eB;rw[if_pos h0]
 have hc:chk k=0:=Classical.byContradiction fun h=>h0 (.inl h)
 have hk:cV k≠0:=fun h=>h0 (.inr h)
 have hids:=(eD hc).ids
 have hgf:=xM hc
 cases hR:tM k with
 |none=>left;unfold eB;rw[if_neg h0,hR]
 |some S=>
  by_cases h1:S.e≠0∨(cV k=33∧jF (brF k) (kV S.W)=false)
  ·left;unfold eB;rw[if_neg h0,hR];simp only;rw[if_pos h1]
  ·have hl:eB k=⟨cV k,brF k,kV S.W⟩:=by unfold eB;rw[if_neg h0,hR];simp only;rw[if_neg h1]
   have hS0:S.e=0:=Classical.byContradiction fun h=>h1 (.inl h)
   right
   rw[hl]
   refine⟨hk,?_⟩
   obtain⟨m,hm,-,hdeg⟩:=aCB hk
   have hvb:∀ e∈bP k.es,0≤bG k.es e∧bG k.es e<4294967296:=fun e he=>by have:=aDF hgf hids e he;omega
   have hok:oW k.es (0+((brF k).flatMap (ends k.es)).length) S:=aEf hids he hvb _ (aFS hids) (oW.nil _ he) hR
   obtain⟨-,-,c3,c4⟩:=rZ _ hR
   refine⟨fun w hw=>?_,?_,?_,?_,?_⟩
   ·rcases c4 w (aCU hok hw)with h|⟨d,hd,rfl,hlt⟩
    ·cases h
    ·obtain⟨n,ht⟩:=aFS hids d hd
     exact aNS hids he ht hlt
   ·show(kV S.W).Pairwise _
    unfold kV
    rw[List.pairwise_map]
    refine(qA (S.W.map dZ)).imp_of_mem fun {a b} ha hb hab=>?_
    obtain⟨x,hx,rfl⟩:=List.mem_map.1 ((iL _ _).1 ha)
    obtain⟨y,hy,rfl⟩:=List.mem_map.1 ((iL _ _).1 hb)
    rw[kW hok.labs hx,kW hok.labs hy]
    have hm:∀(l:List Int) (k:Nat),k<l.length→l.getD k 0∈l:=fun l k hk=>by rw[aX _ _ hk];exact List.getElem_mem hk
    have l1:=hok.len x hx
    have l2:=hok.len y hy
    have b1:=hok.bnd x hx _ (hm x 0 (by omega))
    have b2:=hok.bnd y hy _ (hm y 0 (by omega))
    have b3:=hok.bnd x hx _ (hm x (x.length-1) (by omega))
    have b4:=hok.bnd y hy _ (hm y (y.length-1) (by omega))
    unfold dZ at hab
    omega
   ·rw[aHA (aGq hok)]
    simp only[gL,List.map_nil,List.sum_nil,hS0]at c3 ⊢
    omega
   ·rw[yA hok,aFw hgf hids hk hR]
   ·refine List.filter_congr fun v hv=>?_
    have:(ends k.es v).length≠2→(ends k.es v).length=m:=fun h=>hdeg v (List.mem_filter.2 ⟨hv,by simpa using h⟩)
    rw[decide_eq_decide]
    constructor
    ·intro h;have:=this h;omega
    ·intro h;omega
theorem aKR{k:Gr}(hc:chk k=0)(hk:cV k≠0):∀ S,tM k=some S→S.W.length≤12:=fun S hS=>by
 rw[aFw (xM hc) (eD hc).ids hk hS];split<;>omega
abbrev RM:=List (List Int×Nat×Nat×List LV)
def rmV(a:Nat×Nat×List LV):LV:=.sl a.1 a.2.1 a.2.2
def rmL(A:RM):List (List Int×LV):=A.map fun a=>(a.1,rmV a.2)
def jR(k:List Int)(x:Nat×Nat×List LV):RM→RM
 |[]=>[(k,x)]
 |a::A=>if k==a.1 then(k,x)::A else a::jR k x A
def getM(k:List Int):RM→Option (Nat×Nat×List LV)
 |[]=>none
 |a::A=>if k==a.1 then some a.2 else getM k A
theorem aFR(k:List Int)(x:Nat×Nat×List LV):∀ A,aS (rmL A) k (rmV x)=rmL (jR k x A)
 |[]=>rfl
 |a::A=>by
  have ih:=aFR k x A
  unfold jR
  simp only[rmL,List.map_cons,aS]at ih ⊢
  split<;>simp[ih]
theorem oZ(k:List Int):∀ A,aR (rmL A) k=(getM k A).map rmV
 |[]=>rfl
 |a::A=>by
  have ih:=oZ k A
  unfold getM
  simp only[rmL,List.map_cons,aR]at ih ⊢
  split<;>simp[ih]
theorem jP{k:List Int}{x:Nat×Nat×List LV}:∀ {A},getM k A=some x→(k,x)∈A
 |[],h=>by cases h
 |a::A,h=>by
  unfold getM at h
  split at h
  ·rename_i e
   have e:k=a.1:=by simpa using e
   rw[e,← Option.some.inj h]
   simp
  ·exact List.mem_cons_of_mem _ (jP h)
theorem getM_none{k:List Int}:∀ {A:RM},getM k A=none→k∉A.map (·.1)
 |[],_=>by simp
 |a::A,h=>by
  unfold getM at h
  split at h
  ·cases h
  ·rename_i e
   simp only[List.map_cons,List.mem_cons,not_or]
   exact⟨by simpa using e,getM_none h⟩
theorem wW{k:List Int}{x:Nat×Nat×List LV}:∀ {A:RM},k∉A.map (·.1)→jR k x A=A++[(k,x)]
 |[],_=>rfl
 |a::A,h=>by
  simp only[List.map_cons,List.mem_cons,not_or]at h
  unfold jR
  rw[if_neg (by simpa using h.1),wW h.2];rfl
theorem sD{k:List Int}{x:Nat×Nat×List LV}:∀ {A:RM},k∈A.map (·.1)→(jR k x A).map (·.1)=A.map (·.1)
 |a::A,h=>by
  unfold jR
  by_cases e:k=a.1
  ·rw[if_pos (by simpa using e)];simp[e]
  ·rw[if_neg (by simpa using e),List.map_cons,List.map_cons,sD]
   simp only[List.map_cons,List.mem_cons]at h
   exact h.resolve_left e
theorem lT{k:List Int}{x:Nat×Nat×List LV}:∀ {A:RM},(A.map (·.1)).Nodup→∀ a∈jR k x A,a=(k,x)∨(a∈A∧a.1≠k)
 |[],_,a,ha=>by simp only[jR,List.mem_singleton]at ha;exact .inl ha
 |b::A,hn,a,ha=>by
  obtain⟨n1,n2⟩:=List.nodup_cons.1 (by simpa using hn:(b.1::A.map (·.1)).Nodup)
  unfold jR at ha
  by_cases e:k=b.1
  ·rw[if_pos (by simpa using e)]at ha
   rcases List.mem_cons.1 ha with ha|ha
   ·exact .inl ha
   ·exact .inr ⟨List.mem_cons_of_mem _ ha,fun h2=>n1 (by rw[← e,← h2];exact List.mem_map.2 ⟨a,ha,rfl⟩)⟩
  ·rw[if_neg (by simpa using e)]at ha
   rcases List.mem_cons.1 ha with ha|ha
   ·exact .inr ⟨by simp[ha],by rw[ha];exact fun h=>e h.symm⟩
   ·rcases lT n2 a ha with h|⟨h1,h2⟩
    ·exact .inl h
    ·exact .inr ⟨List.mem_cons_of_mem _ h1,h2⟩
theorem aAc{k:List Int}{t n:Nat}{c:List LV}:∀ {A:RM},(A.map fun a=>a.2.1).Nodup→(∀ a∈A,a.2.1≠t)→((jR k (t,n,c) A).map fun a=>a.2.1).Nodup
 |[],_,_=>by simp[jR]
 |a::A,hn,h=>by
  obtain⟨n1,n2⟩:=List.nodup_cons.1 (by simpa using hn:(a.2.1::A.map fun a=>a.2.1).Nodup)
  unfold jR
  split
  ·rw[List.map_cons,List.nodup_cons]
   refine⟨fun hm=>?_,n2⟩
   obtain⟨b,hb,e⟩:=List.mem_map.1 hm
   exact h b (List.mem_cons_of_mem _ hb) e
  ·rw[List.map_cons,List.nodup_cons]
   refine⟨fun hm=>?_,aAc n2 fun b hb=>h b (List.mem_cons_of_mem _ hb)⟩
   obtain⟨b,hb,e⟩:=List.mem_map.1 hm
   have:b=(k,(t,n,c))∨b∈A:=by
    clear n1 n2 h hn hm
    revert hb
    clear e
    induction A with
    |nil=>intro hb;simp only[jR,List.mem_singleton]at hb;exact .inl hb
    |cons a2 A ih=>
     intro hb
     unfold jR at hb
     split at hb
     ·rcases List.mem_cons.1 hb with hb|hb
      ·exact .inl hb
      ·exact .inr (List.mem_cons_of_mem _ hb)
     ·rcases List.mem_cons.1 hb with hb|hb
      ·exact .inr (by simp[hb])
      ·exact(ih hb).imp id (List.mem_cons_of_mem _)
   rcases this with rfl|hb
   ·exact h a (by simp) e.symm
   ·exact n1 (List.mem_map.2 ⟨b,hb,e⟩)
theorem aFA:∀ {A:RM},(A.map fun a=>a.2.1).Nodup→∀ {a b},a∈A→b∈A→a.2.1=b.2.1→a=b
 |[],_,_,_,h,_,_=>by cases h
 |c::A,hn,a,b,ha,hb,e=>by
  obtain⟨n1,n2⟩:=List.nodup_cons.1 (by simpa using hn:(c.2.1::A.map fun a=>a.2.1).Nodup)
  rcases List.mem_cons.1 ha with ha|ha
  ·rcases List.mem_cons.1 hb with hb|hb
   ·rw[ha,hb]
   ·exact absurd (List.mem_map.2 ⟨b,hb,by rw[← e,ha]⟩) n1
  ·rcases List.mem_cons.1 hb with hb|hb
   ·exact absurd (List.mem_map.2 ⟨a,ha,by rw[e,hb]⟩) n1
   ·exact aFA n2 ha hb e
structure tP(ag:Bool)(ks:List IntKind)(e w:Nat)(A:RM)(m lo:Nat)(st:St):Prop where
 map:st.H m=.map ag ks (rmL A)
 mlt:lo≤m∧m<st.next
 tok:∀ a∈A,a.2.1≠0∧lo≤a.2.1∧a.2.1<st.next∧st.H a.2.1=.own e w a.2.2.1
 inj:(A.map fun a=>a.2.1).Nodup
 nd:(A.map (·.1)).Nodup
theorem tP.keep{ag:Bool}{ks:List IntKind}{e w:Nat}{A:RM}{m lo:Nat}{st st':St}(h:tP ag ks e w A m lo st)(k:aB st st'):tP ag ks e w A m lo st':=by
 have hn:=k.next
 have hm:=h.mlt
 refine⟨(k.H _ hm.2).trans h.map,⟨hm.1,by omega⟩,fun a ha=>?_,h.inj,h.nd⟩
 obtain⟨h1,h2,h3,h4⟩:=h.tok a ha
 exact⟨h1,h2,by omega,(k.H _ h3).trans h4⟩
theorem tP.put{ag:Bool}{ks:List IntKind}{e w:Nat}{A:RM}{m lo:Nat}{st st':St}(h:tP ag ks e w A m lo st){k:List Int}{t n:Nat}{c:List LV}
 (ht:st.next≤t∧t<st'.next) (hn:st.next≤st'.next) (hlo:lo≤st.next) (h0:t≠0) (hm:st'.H m=.map ag ks (aS (rmL A) k (rmV (t,n,c)))) (hT:st'.H t=.own e w n)
 (hK:∀ l,l<st.next→l≠m→(∀ x,getM k A=some x→l≠x.1)→st'.H l=st.H l):tP ag ks e w (jR k (t,n,c) A) m lo st':=by
 have hmm:=h.mlt
 rw[aFR]at hm
 refine⟨hm,⟨hmm.1,by omega⟩,fun a ha=>?_,aAc h.inj fun a ha=>by have:=(h.tok a ha).2.2.1;omega,?_⟩
 ·rcases lT h.nd a ha with rfl|⟨ha,hne⟩
  ·exact⟨h0,Nat.le_trans hlo ht.1,ht.2,hT⟩
  ·obtain⟨h1,h2,h3,h4⟩:=h.tok a ha
   refine⟨h1,h2,by omega,?_⟩
   rw[hK _ h3 (fun q=>by rw[q,h.map]at h4;cases h4) fun x hx q=>?_]
   ·exact h4
   ·have hx:=jP hx
    refine hne ?_
    exact(by rw[aFA h.inj ha hx q]:a.1=k)
 ·by_cases hk:k∈A.map (·.1)
  ·rw[sD hk];exact h.nd
  ·rw[wW hk,List.map_append,List.nodup_append]
   refine⟨h.nd,by simp,fun a ha b hb e=>?_⟩
   simp only[List.map_cons,List.map_nil,List.mem_singleton]at hb
   subst hb;subst e
   exact hk ha
abbrev prE(e:Ed):Int×Int:=prP e.a e.b
def gJ(E:List Ed)(p:Int×Int):List Ed:=E.filter fun e=>decide (prE e=p)
abbrev xU(g:Gr)(v x:Int):List Ed:=gJ g.es (prP v x)
abbrev TL:=List (Int×List Int)
def vN(v:Int)(ds:List Int):TL→TL
 |[]=>[(v,ds)]
 |p::T=>if p.1=v then(v,p.2++ds)::T else p::vN v ds T
def kK(v:Int):TL→List Int
 |[]=>[]
 |p::T=>if p.1=v then p.2 else kK v T
def gC(g:Gr)(v:Int)(L:List Int)(T:TL):TL:=L.foldl (fun T x=>vN v (fX (xU g v x) v x) T) T
def aBE(v:Int):Tn→List (Int×Int)
 |[]=>[]
 |a::A=>if a.1=v then a.2 else aBE v A
def iQ(g:Gr)(A:Tn)(K:List Int)(T:TL):TL:=K.foldl (fun T v=>gC g v (eS (aBE v A)) T) T
def lP(T:TL):Nat:=(T.map fun p=>p.2.length).sum
def okE(F:List (List Int))(A:Tn)(T:TL):Prop:=F.length≤300∧(∀ r∈F,r.length≤1000)∧A.length≤12∧(∀ a∈A,a.2.length≤1000)∧lP T≤100000
instance (F:List (List Int)) (A:Tn) (T:TL):Decidable (okE F A T):=by unfold okE;infer_instance
def aJD(g:Gr)(F:List (List Int))(T:TL):TL:=iQ g (dQ F) (mR ((dQ F).map (·.1))) T
def aLg(g:Gr):List (List Ed)→TL→Option (Option TL)
 |[],T=>some (some T)
 |l::bl,T=>(aMF l).bind fun o=>match o with
  |none=>some none
  |some F=>if okE F (dQ F) (aJD g F T)then aLg g bl (aJD g F T)else none
def mU(g:Gr)(bl:List (List Ed)):Option (Option Mp):=
 (aLg g bl []).bind fun o=>match o with
   |none=>some none
   |some T=>if ∀ v∈g.vs,(kK v T).length≤1000 then some (some ⟨g,g.vs.map fun v=>nrm (kK v T)⟩)else none
theorem aFL(P:List (Int×Int))(f:Int):∀ n x,(goR P f n x).length≤n
 |0,_=>by simp[goR]
 |n+1,x=>by
  unfold goR
  split
  ·have:=aFL P f n (uA P x);simp;omega
  ·simp
theorem aEP(P:List (Int×Int)):(eS P).length≤P.length:=aFL _ _ _ _
theorem wD(v:Int)(ds:List Int):∀ T:TL,lP (vN v ds T)=lP T+ds.length
 |[]=>by simp[vN,lP]
 |p::T=>by
  have ih:=wD v ds T
  unfold vN
  split
  ·simp only[lP,List.map_cons,List.sum_cons,List.length_append]at ih ⊢;omega
  ·simp only[lP,List.map_cons,List.sum_cons]at ih ⊢;omega
theorem sK(g:Gr)(v:Int):∀(L:List Int) (T:TL),lP T≤lP (gC g v L T)
 |[],_=>Nat.le_refl _
 |x::L,T=>by
  have h:=sK g v L (vN v (fX (xU g v x) v x) T)
  have h2:=wD v (fX (xU g v x) v x) T
  unfold gC at h ⊢
  rw[List.foldl_cons]
  omega
theorem aAx(g:Gr)(A:Tn):∀(K:List Int) (T:TL),lP T≤lP (iQ g A K T)
 |[],_=>Nat.le_refl _
 |v::K,T=>by
  have h:=aAx g A K (gC g v (eS (aBE v A)) T)
  have h2:=sK g v (eS (aBE v A)) T
  unfold iQ at h ⊢
  rw[List.foldl_cons]
  omega
theorem wF(v:Int):∀ T:TL,(kK v T).length≤lP T
 |[]=>Nat.le_refl _
 |p::T=>by
  have ih:=wF v T
  unfold kK
  split
  ·simp only[lP,List.map_cons,List.sum_cons];omega
  ·simp only[lP,List.map_cons,List.sum_cons]at ih ⊢;omega
theorem aDf(g:Gr)(A:Tn)(K:List Int)(T:TL)(j:Nat):iQ g A K T=iQ g A (K.drop j) (iQ g A (K.take j) T):=by
 unfold iQ
 rw[← List.foldl_append,List.take_append_drop]
theorem aDt(g:Gr)(v:Int)(L:List Int)(T:TL)(j:Nat):gC g v L T=gC g v (L.drop j) (gC g v (L.take j) T):=by
 unfold gC
 rw[← List.foldl_append,List.take_append_drop]
theorem aDz{v:Int}:∀ {A:Tn},v∈A.map (·.1)→(v,aBE v A)∈A
 |a::A,h=>by
  unfold aBE
  by_cases e:a.1=v
  ·rw[if_pos e,← e];simp
  ·rw[if_neg e]
   simp only[List.map_cons,List.mem_cons]at h
   exact List.mem_cons_of_mem _ (aDz (h.resolve_left fun h=>e h.symm))
theorem aLy(x y:Int)(P:List (Int×Int)):zC x y P≠[]:=by
 cases P with
 |nil=>simp[zC]
 |cons p P=>unfold zC;split<;>simp
theorem aFv{v x y:Int}:∀ {A:Tn},(∀ a∈A,a.2≠[])→∀ a∈mQ v x y A,a.2≠[]
 |[],_,a,ha=>by simp only[mQ,List.mem_singleton]at ha;rw[ha];simp
 |b::A,h,a,ha=>by
  unfold mQ at ha
  split at ha
  ·rcases List.mem_cons.1 ha with ha|ha
   ·rw[ha];exact aLy _ _ _
   ·exact h a (List.mem_cons_of_mem _ ha)
  ·rcases List.mem_cons.1 ha with ha|ha
   ·rw[ha];exact h b (by simp)
   ·exact aFv (fun a ha=>h a (List.mem_cons_of_mem _ ha)) a ha
theorem aCt(r:List Int){A:Tn}(h:∀ a∈A,a.2≠[]):∀ j,∀ a∈jC r A j,a.2≠[]
 |0=>h
 |j+1=>aFv (aCt r h j)
theorem aES(R:List (List Int)):∀ a∈dQ R,a.2≠[]:=by
 unfold dQ
 have key:∀(R:List (List Int)) (A:Tn),(∀ a∈A,a.2≠[])→∀ a∈R.foldl (fun A r=>jC r A r.length) A,a.2≠[]:=fun R=>by
  induction R with
  |nil=>exact fun A h=>h
  |cons r R ih=>exact fun A h=>ih _ (aCt r h _)
 exact key R [] (by simp)
structure aAX(E:List Ed)(A:RM):Prop where
 row:∀ a∈A,∃ p,a.1=pk p∧a.2.2.1=(gJ E p).length∧a.2.2.2=eds (gJ E p)
 all:∀ e∈E,pk (prE e)∈A.map (·.1)
theorem nL(E:List Ed)(x:Ed)(p:Int×Int):gJ (E++[x]) p=if prE x=p then gJ E p++[x]else gJ E p:=by
 unfold gJ
 rw[List.filter_append]
 by_cases h:prE x=p
 ·rw[if_pos h];simp[h]
 ·rw[if_neg h];simp[h]
theorem aNJ{p q:Int×Int}(h:pk p=pk q):p=q:=by
 simp only[pk,List.cons.injEq,and_true]at h
 exact Prod.ext h.1 h.2
theorem aAX.get{E:List Ed}{A:RM}(h:aAX E A)(hn:(A.map (·.1)).Nodup)(p:Int×Int):
 (gJ E p=[]∧getM (pk p) A=none)∨∃ t,getM (pk p) A=some (t,(gJ E p).length,eds (gJ E p)):=by
 cases hg:getM (pk p) A with
 |none=>
  refine .inl ⟨?_,rfl⟩
  refine List.eq_nil_iff_forall_not_mem.2 fun e he=>?_
  obtain⟨h1,h2⟩:=List.mem_filter.1 he
  exact getM_none hg (by rw[← of_decide_eq_true h2];exact h.all e h1)
 |some x=>
  obtain⟨t,n,c⟩:=x
  obtain⟨q,h1,h2,h3⟩:=h.row _ (jP hg)
  have:=aNJ h1
  subst this
  simp only at h2 h3
  exact .inr ⟨t,by rw[h2,h3]⟩
theorem aAX.add{E:List Ed}{A:RM}(h:aAX E A)(hn:(A.map (·.1)).Nodup)(x:Ed)(t:Nat):
 aAX (E++[x]) (jR (pk (prE x)) (t,(gJ E (prE x)).length+1,eds (gJ E (prE x))++[u x.id,u x.a,u x.b]) A):=by
 refine⟨fun a ha=>?_,fun e he=>?_⟩
 ·rcases lT hn a ha with rfl|⟨ha,hne⟩
  ·refine⟨prE x,rfl,?_,?_⟩
   ·rw[nL,if_pos rfl];simp
   ·rw[nL,if_pos rfl];simp[eds,edL]
  ·obtain⟨p,h1,h2,h3⟩:=h.row a ha
   have:¬prE x=p:=fun e=>hne (by rw[h1,e])
   exact⟨p,h1,by rw[nL,if_neg this];exact h2,by rw[nL,if_neg this];exact h3⟩
 ·by_cases hk:pk (prE x)∈A.map (·.1)
  ·rw[sD hk]
   rcases List.mem_append.1 he with he|he
   ·exact h.all e he
   ·rw[List.mem_singleton]at he;rw[he];exact hk
  ·rw[wW hk,List.map_append,List.mem_append]
   rcases List.mem_append.1 he with he|he
   ·exact .inl (h.all e he)
   ·rw[List.mem_singleton]at he;rw[he];exact .inr (by simp)
def qQ(T:TL)(A:RM):Prop:=A.map (fun a=>(a.1,a.2.2))=T.map fun p=>([p.1],(p.2.length,us p.2))
theorem qQ.get{v:Int}:∀ {T:TL} {A:RM},qQ T A→(kK v T=[]∧getM [v] A=none)∨∃ t,getM [v] A=some (t,(kK v T).length,us (kK v T))
 |[],[],_=>.inl ⟨rfl,rfl⟩
 |[],a::A,h=>by cases h
 |p::T,[],h=>by cases h
 |p::T,a::A,h=>by
  obtain⟨ak,at',an,ac⟩:=a
  simp only[qQ,List.map_cons,List.cons.injEq,Prod.mk.injEq]at h
  obtain⟨⟨h1,h2,h3⟩,h4⟩:=h
  subst h1;subst h2;subst h3
  unfold kK getM
  by_cases e:p.1=v
  ·rw[if_pos e,if_pos (by simp[e])]
   exact .inr ⟨at',rfl⟩
  ·rw[if_neg e,if_neg (by simpa using fun h=>e h.symm)]
   exact qQ.get h4
theorem qQ.add{v:Int}{ds:List Int}(t:Nat):∀ {T:TL} {A:RM},qQ T A→qQ (vN v ds T) (jR [v] (t,(kK v T).length+ds.length,us (kK v T)++us ds) A)
 |[],[],_=>by simp[qQ,vN,jR,kK]
 |[],a::A,h=>by cases h
 |p::T,[],h=>by cases h
 |p::T,a::A,h=>by
  obtain⟨ak,at',an,ac⟩:=a
  simp only[qQ,List.map_cons,List.cons.injEq,Prod.mk.injEq]at h
  obtain⟨⟨h1,h2,h3⟩,h4⟩:=h
  subst h1;subst h2;subst h3
  unfold kK vN jR
  by_cases e:p.1=v
  ·rw[if_pos e,if_pos e,if_pos (by simp[e])]
   simp only[qQ,List.map_cons,List.cons.injEq,Prod.mk.injEq]
   exact⟨⟨trivial,by simp,by simp⟩,h4⟩
  ·rw[if_neg e,if_neg e,if_neg (by simpa using fun h=>e h.symm)]
   have:=qQ.add (v:=v) (ds:=ds) t (T:=T) (A:=A) h4
   simp only[qQ,List.map_cons,List.cons.injEq]at this ⊢
   exact⟨trivial,this⟩
end Go.Proofs.YtempldclppogmaaGreatDoor.Aw
namespace Go.Proofs.YtempldclppogmaaGreatDoor.Aw
open Go Go.RowKit Go.Proofs.YtempldclppogmaaGreatDoor.Pl Go.Proofs.YtempldclppogmaaGreatDoor.Eu
def isN(l:List Nat):List LV:=l.map fun k:Nat=>i (k:Int)
@[simp] theorem gW(l:List Nat):(isN l).length=l.length:=by simp[isN]
theorem aKm(l:List Nat)(k:Nat)(hk:k<l.length):(isN l).drop k=i ((l.getD k 0:Nat):Int)::(isN l).drop (k+1):=by
 unfold isN
 rw[List.drop_eq_getElem_cons (by simpa using hk)]
 simp[hk]
theorem aJy(l:List Nat)(k:Nat):(isN l).take k=isN (l.take k):=by simp[isN]
theorem aOd{v x:Int}{V:List Int}(h:¬v=x):(v::V).idxOf x=V.idxOf x+1:=by
 have e:(v==x)=false:=by rw[beq_eq_false_iff_ne];exact h
 rw[List.idxOf_cons,e];rfl
def nbF:Nat→List Int→List (List Int×LV)
 |_,[]=>[]
 |k,v::V=>([v],i ((k:Int)+1))::nbF (k+1) V
theorem aEb(V:List Int):∀ k,(nbF k V).length=V.length:=by
 induction V with
 |nil=>intro k;rfl
 |cons v V ih=>intro k;simp[nbF,ih]
theorem aJg(V:List Int)(x:Int):∀ k,aR (nbF k V) [x]=if x∈V then some (i ((k:Int)+nmW V x))else none:=by
 induction V with
 |nil=>intro k;rfl
 |cons v V ih=>
  intro k
  unfold nbF aR
  by_cases e:v=x
  ·subst e
   simp[nmW]
  ·have e2:¬([x]==[v])=true:=by simpa using fun k=>e k.symm
   rw[if_neg e2,ih (k+1)]
   by_cases hx:x∈V
   ·rw[if_pos hx,if_pos (List.mem_cons_of_mem _ hx)]
    unfold nmW
    rw[if_pos hx,if_pos (List.mem_cons_of_mem _ hx),aOd e]
    congr 2
    omega
   ·rw[if_neg hx,if_neg]
    rw[List.mem_cons,not_or]
    exact⟨fun h=>e h.symm,hx⟩
theorem aIr{x:Int}(V:List Int)(h:x∉V):∀ k,aS (nbF k V) [x] (i ((k:Int)+V.length+1))=nbF k (V++[x]):=by
 induction V with
 |nil=>intro k;simp[nbF,aS]
 |cons v V ih=>
  intro k
  rw[List.mem_cons,not_or]at h
  have e:¬([x]==[v])=true:=by simpa using h.1
  unfold nbF aS
  simp only[e,Bool.false_eq_true,if_false,List.cons_append]
  have:=ih h.2 (k+1)
  rw[show((k:Int)+(v::V).length+1)=((k+1:Nat):Int)+V.length+1 by simp;omega,this]
theorem aFp(V:List Int)(x:Int):aR (nbF 0 V) [x]=if x∈V then some (i (nmW V x))else none:=by
 rw[aJg];split<;>simp
theorem aLM{x:Int}{V:List Int}(h:x∉V):aS (nbF 0 V) [x] (i ((V.length:Int)+1))=nbF 0 (V++[x]):=by
 have:=aIr V h 0
 simpa using this
def lwF:List Int→List Int→List (List Int×LV)
 |v::V,x::L=>([v],i x)::lwF V L
 |_,_=>[]
theorem pE:∀(V L:List Int) (x:Int),L.length=V.length→x∈V→aR (lwF V L) [x]=some (i (L.getD (V.idxOf x) 0))
 |[],_,_,_,h=>by cases h
 |v::V,[],x,hl,_=>by simp at hl
 |v::V,y::L,x,hl,h=>by
  unfold lwF aR
  by_cases e:v=x
  ·subst e;simp
  ·have e2:¬([x]==[v])=true:=by simpa using fun k=>e k.symm
   simp only[e2,Bool.false_eq_true,if_false]
   rw[pE V L x (by simpa using hl) (by rcases List.mem_cons.1 h with k|k;exact absurd k.symm e;exact k),aOd e]
   rfl
theorem sP:∀(V L:List Int) (x y:Int),L.length=V.length→x∉V→aS (lwF V L) [x] (i y)=lwF (V++[x]) (L++[y])
 |[],[],_,_,_,_=>rfl
 |[],_::_,_,_,hl,_=>by simp at hl
 |v::V,[],x,_,hl,_=>by simp at hl
 |v::V,z::L,x,y,hl,h=>by
  rw[List.mem_cons,not_or]at h
  have e:¬([x]==[v])=true:=by simpa using h.1
  unfold lwF aS
  simp only[e,Bool.false_eq_true,if_false,List.cons_append]
  rw[sP V L x y (by simpa using hl) h.2]
theorem mE:∀(V L:List Int) (x y:Int),L.length=V.length→x∈V→aS (lwF V L) [x] (i y)=lwF V (L.set (V.idxOf x) y)
 |[],_,_,_,_,h=>by cases h
 |v::V,[],x,_,hl,_=>by simp at hl
 |v::V,z::L,x,y,hl,h=>by
  unfold lwF aS
  by_cases e:v=x
  ·subst e;simp[lwF]
  ·have e2:¬([x]==[v])=true:=by simpa using fun k=>e k.symm
   simp only[e2,Bool.false_eq_true,if_false]
   rw[mE V L x y (by simpa using hl) (by rcases List.mem_cons.1 h with k|k;exact absurd k.symm e;exact k),aOd e]
   rfl
theorem aEM{l:List Nat}{i:Nat}(h:i∈l):fR l i<l.length∧l.getD (fR l i) 0=i∧∀ j,fR l i<j→j<l.length→l.getD j 0≠i:=by
 obtain⟨P,R,rfl,hR⟩:∃ P R,l=P++i::R∧i∉R:=by
  obtain⟨P,R,e,hR⟩:=List.eq_append_cons_of_mem (List.mem_reverse.2 h)
  refine⟨R.reverse,P.reverse,?_,by simpa using hR⟩
  have:=congrArg List.reverse e
  simpa using this
 rw[sF hR]
 refine⟨by simp,by simp,fun j h1 h2 e=>hR ?_⟩
 rw[List.getD_eq_getElem?_getD,List.getElem?_append_right (by omega)]at e
 obtain⟨m,hm⟩:∃ m,j-P.length=m+1:=⟨j-P.length-1,by omega⟩
 rw[hm,List.getElem?_cons_succ]at e
 simp at h2
 rw[List.getElem?_eq_getElem (by omega)]at e
 simp only[Option.getD_some]at e
 rw[← e]
 exact List.getElem_mem _
structure nZ(g:Gr)(B W a nb lw:Nat)(tk:Int→Nat)(s:Bw)(st:St):Prop where
 ex:∃ tS tB CS ea,st.H W=.box 108 6 [.sl 0 g.es.length (eds g.es),.mp a,.mp nb,.mp lw,.ms tS 0 s.stk.length,.ms tB 0 s.out.length]∧
  (st.H a=.map false [.u32] ea∧∀ v,aR ea [v]=if atP g.es v=[]then none else some (.sl (tk v) (atP g.es v).length (isN (atP g.es v))))∧
  st.H nb=.map false [.u32] (nbF 0 s.vis)∧st.H lw=.map false [.u32] (lwF s.vis s.low)∧(st.H tS=.box 3 1 CS∧CS.take s.stk.length=isN s.stk)∧st.H tB=.box 23 1 (bkL g.es s.out)∧
  (a≠nb∧a≠lw∧nb≠lw)∧(B≤tS∧B≤tB∧tS<st.next∧tB<st.next)
 bd:(B≤W∧B≤a∧B≤nb∧B≤lw)∧(W<st.next∧a<st.next∧nb<st.next∧lw<st.next)
theorem bB{st:St}{a b:Nat}{x y:aD}(ha:st.H a=x)(hb:st.H b=y)(h:x≠y):¬a=b:=fun e=>h (by rw[← ha,e,hb])
theorem aIO{es:List Ed}{P:List Nat}{j:Nat}(hj:j<P.length):(P.take (j+1)).map (eAt es)=(P.take j).map (eAt es)++[eAt es (P.getD j 0)]:=by
 rw[List.take_succ_eq_append_getElem hj,List.map_append,List.getD_eq_getElem?_getD,List.getElem?_eq_getElem hj];rfl
structure KbB(B:Nat)(st st':St):Prop where
 next:st.next≤st'.next
 H:∀ x,x<B→st'.H x=st.H x
theorem KbB.refl(B:Nat)(st:St):KbB B st st:=⟨Nat.le_refl _,fun _ _=>rfl⟩
theorem KbB.trans{B:Nat}{a b c:St}(h:KbB B a b)(k:KbB B b c):KbB B a c:=⟨Nat.le_trans h.next k.next,fun x hx=>by rw[k.H x hx,h.H x hx]⟩
theorem KbB.new{B:Nat}{a b:St}(h:KbB B a b)(hB:B≤b.next)(o:aD):KbB B a (b.new o):=⟨by rw[aA];exact Nat.le_succ_of_le h.next,fun x hx=>by rw[aG,if_neg (by omega)];exact h.H x hx⟩
theorem KbB.set{B:Nat}{a b:St}(h:KbB B a b){l:Nat}(hl:B≤l)(o:aD):KbB B a (b.set l o):=⟨h.next,fun x hx=>by rw[aE,if_neg (by omega)];exact h.H x hx⟩
set_option maxHeartbeats 4000000 in
theorem aQz(g:Gr)(hids:g.es.Pairwise fun x y=>x.id<y.id)(B W a nb lw:Nat)(tk:Int→Nat)(s:Bw)(i0:Nat)(st:St)(h:nZ g B W a nb lw tk s st)(hi:i0∈s.stk)(hsl:∀ k∈s.stk.drop (fR s.stk i0),k<g.es.length)(hsn:(s.stk.drop (fR s.stk i0)).Nodup)(he:g.es.length≤10)(hkl:s.stk.length≤60000)(hol:s.out.length≤100000):
 aF Tryz.prog 104 [.pt W 0,i i0] st fun r st'=>∃ s',aCT g.es.length s i0=some s'∧nZ g B W a nb lw tk s' st'∧KbB B st st':=by
 obtain⟨hl1,hl2,hl3⟩:=aEM hi
 have hcw:aCT g.es.length s i0=some { s with stk:=s.stk.take (fR s.stk i0),out:=s.out++[oX g.es.length (s.stk.drop (fR s.stk i0))] }:=by unfold aCT;rw[if_pos hi]
 rw[hcw]
 clear hcw
 obtain⟨⟨tS,tB,CS,ea,hW,⟨hA,hAm⟩,hN,hL,⟨hS,hSt⟩,hBk,⟨n1,n2,n3⟩,⟨b1,b2,b3,b4⟩⟩,⟨c1,c2,c3,c4⟩,d1,d2,d3,d4⟩:=h
 generalize hkk:fR s.stk i0=kl at *
 obtain⟨P,hP⟩:∃ P,P=s.stk.drop kl:=⟨_,rfl⟩
 rw[← hP]at hsl hsn ⊢
 have hPl:P.length=s.stk.length-kl:=by rw[hP,List.length_drop]
 have hPe:P.length≤g.es.length:=by have:=List.Nodup.length_le_of_subset hsn (fun k hk=>List.mem_range.2 (hsl k hk));rwa [List.length_range]at this
 have hCS:s.stk.length≤CS.length:=by
  have:=congrArg List.length hSt
  rw[List.length_take,gW]at this
  omega
 have hCd:∀ k,k<s.stk.length→CS.drop k=i ((s.stk.getD k 0:Nat):Int)::CS.drop (k+1):=fun k hk=>by
  have e1:CS=isN s.stk++CS.drop s.stk.length:=by rw[← hSt];exact(List.take_append_drop _ _).symm
  rw[List.drop_eq_getElem_cons (by omega)]
  congr 1
  have:CS[k]'(by omega)=(isN s.stk)[k]'(by simpa using hk):=by
   have h2:=List.getElem_of_eq hSt (i:=k) (by rw[List.length_take];omega)
   rw[List.getElem_take]at h2
   exact h2
  rw[this]
  simp[isN,hk]
 have w1:=eE s.stk.length (by omega) (by omega)
 have m1:¬W=tS:=bB hW hS (by simp)
 have m2:¬W=tB:=bB hW hBk (by simp)
 have m3:¬tS=tB:=bB hS hBk (by simp)
 have m4:¬W=a:=bB hW hA (by simp)
 have m5:¬W=nb:=bB hW hN (by simp)
 have m6:¬W=lw:=bB hW hL (by simp)
 have m7:¬a=tS:=bB hA hS (by simp)
 have m8:¬a=tB:=bB hA hBk (by simp)
 have m9:¬nb=tS:=bB hN hS (by simp)
 have m10:¬nb=tB:=bB hN hBk (by simp)
 have m11:¬lw=tS:=bB hL hS (by simp)
 have m12:¬lw=tB:=bB hL hBk (by simp)
 refine qO aK Tryz.func104 rfl rfl Tryz.ntmps104 (rs:=[]) rfl (by simp) ?_
 (repeat' (first|refine qS ?_|refine qB ?_|(refine w_e [] ?_;intro J hJ;simp only[];simp[hW,w1];(refine hJ _ _ ?_;clear hJ J;simp only[ak,reduceIte]))))
 refine qL (fun n fr st2=>∃ k:Nat,n=k∧st2=st∧fr 0=.pt W 0∧fr 1=i i0∧fr 4=i k∧kl≤k∧k<s.stk.length) (s.stk.length-1) ?_ ?_
 ·exact⟨s.stk.length-1,rfl,rfl,by simp,by simp,by simp,by omega,by omega⟩
 rintro k fr st2 ⟨_,rfl,hst2,f0,f1,f4,hk1,hk2⟩ JJ hJJ
 rw[hst2];clear hst2 st2
 have hd:=hCd k hk2
 have hkc:k<CS.length:=by omega
 by_cases hk:k=kl
 rotate_left
 ·have hne:=hl3 k (by omega) hk2
  generalize s.stk.getD k 0=y at *
  have hnb:((y:Int) != (i0:Int))=true:=by rw[bne_iff_ne];omega
  have w2:=eE k (by omega) (by omega)
  (repeat' (first|refine qS ?_|refine qB ?_|(refine qK ?_;simp only[ak,reduceIte])|(refine qC ?_;simp[f0,f1,f4,hW,hS,hd,hkc,hk2,hnb,w2])|(refine w_e [] ?_;intro J hJ;simp only[];simp[f0,f1,f4,hW,hS,hd,hkc,hk2,hnb,w2];(refine hJ _ _ ?_;clear hJ J;simp only[ak,reduceIte]))))
  exact hJJ (k-1) _ _ (by omega) ⟨k-1,rfl,rfl,by simp[f0],by simp[f1],by simp,by omega,by omega⟩
 clear hJJ
 subst hk
 rw[hl2]at hd
 have hnb:((i0:Int) != (i0:Int))=false:=by simp
 (repeat' (first|refine qS ?_|refine qB ?_|(refine qX ?_;simp only[ak,reduceIte])|(refine qC ?_;simp[f0,f1,f4,hW,hS,hd,hkc,hk2,hnb])|(refine w_e [] ?_;intro J hJ;simp only[];simp[f0,f1,f4,hW,hS,hd,hkc,hk2,hnb];(repeat refine ca ?_);(refine hJ _ _ ?_;clear hJ J;simp only[ak,reduceIte]))))
 rw[← hPl]
 refine pT 5 56 3 (by simp) ?_
 have hel:=aO g.es
 refine aP 32 31 33 46 (P.length) (fun j fr st2=>fr 0=.pt W 0∧fr 4=i k∧fr 30=.ms tS k P.length∧aB st st2∧∃ q,fr 5=.ms q 0 j∧st2.H q=.box 56 3 (eds ((P.take j).map (eAt g.es)))∧st.next≤q∧q<st2.next) ?_ ?_ ?_
 ·refine⟨by simp[f0],by simp[f4],by simp[hPl],aB.new _ _,st.next,by simp,by simp[eds],by omega,by simp⟩
 ·clear f0 f1 f4 fr hd hnb
  rintro j fr s1 hlt ⟨g0,g4,g30,hkp,q,g5,hq,hq1,hq2⟩ fi fn JO hJO
  have hW1:=(hkp.H W d1).trans hW
  have hS1:=(hkp.H tS b3).trans hS
  have hd2:=hCd (k+j) (by omega)
  have hPd:s.stk.getD (k+j) 0=P.getD j 0:=by rw[hP,List.getD_eq_getElem?_getD,List.getD_eq_getElem?_getD,List.getElem?_drop]
  rw[hPd]at hd2
  have hpl:P.getD j 0<g.es.length:=hsl _ (by rw[List.getD_eq_getElem?_getD,List.getElem?_eq_getElem hlt];exact List.getElem_mem _)
  have hde:=bE g.es _ hpl
  rw[aIO hlt]at hJO
  have hql:(eds ((P.take j).map (eAt g.es))).length=j*3:=by rw[aO,List.length_map,List.length_take];congr 1;omega
  have hap:eds ((P.take j).map (eAt g.es)++[eAt g.es (P.getD j 0)])=eds ((P.take j).map (eAt g.es))++edL (eAt g.es (P.getD j 0)):=by simp[eds]
  rw[hap]at hJO
  unfold eAt at hJO
  generalize hpp:P.getD j 0=p0 at *
  generalize eds ((P.take j).map (eAt g.es))=RR at *
  generalize g.es.getD p0 ed0=x at *
  obtain⟨xi,xa,xb⟩:=x
  simp only[edL]at hJO
  simp only at hde
  have hkj:k+j<CS.length:=by omega
  have hp3:p0*3<g.es.length*3:=by omega
  have y1:¬q=s1.next:=by omega
  have y2:¬q=0:=by omega
  (repeat' (first|refine qS ?_|(refine w_e [] ?_;intro J hJ;simp only[];simp[g0,g4,g5,g30,fi,fn,hW1,hS1,hd2,hde,hlt,hq,hql,hkj,hpl,hp3,hel,y1,y2];(repeat refine ca ?_);(refine hJ _ _ ?_;clear hJ J;simp only[ak,reduceIte]))))
  refine hJO _ _ (by simp[fi]) (by simp[fn]) ⟨by simp[g0],by simp[g4],by simp[g30],?_,s1.next+1,by simp,by simp,by omega,by simp⟩
  (repeat (first|exact hkp|(refine aB.trans ?_ (aB.new _ _))|(refine aB.set ?_ (by omega) _)))
 ·rintro fr s1 ⟨g0,g4,g30,hkp,q,g5,hq,hq1,hq2⟩
  rw[List.take_length]at hq
  have hW1:=(hkp.H W d1).trans hW
  have hS1:=(hkp.H tS b3).trans hS
  have hk':k≤s.stk.length:=by omega
  have hnx:=hkp.next
  have y1:¬q=W:=by omega
  (repeat' (first|refine qS ?_|(refine w_e [] ?_;intro J hJ;simp only[];simp[g0,g4,g5,hW1,hk'];(try (refine hJ _ _ ?_;clear hJ J;simp only[ak,reduceIte])))))
  refine qE (aPe hids P hsn hsl q _ (by omega) (by simp;omega) (by simp[y1,hq])) (by simp) ?_;rintro r s2 ⟨hq3,hoff⟩
  have hn2:=hoff.1
  simp only[aC]at hn2
  have old:∀ x,x≠q→x≠W→x<st.next→s2.H x=st.H x:=fun x h1 h2 h3=>by
   rw[hoff.2 x h1 (by simp;omega),aE,if_neg h2];exact hkp.H x h3
  have hW2:=hoff.2 W (fun e=>y1 e.symm) (by simp;omega)
  rw[aE,if_pos rfl]at hW2
  have hB2:=(old tB (by omega) (fun e=>m2 e.symm) b4).trans hBk
  have hS2:=(old tS (by omega) (fun e=>m1 e.symm) b3).trans hS
  have hA2:=(old a (by omega) (fun e=>m4 e.symm) d2).trans hA
  have hN2:=(old nb (by omega) (fun e=>m5 e.symm) d3).trans hN
  have hL2:=(old lw (by omega) (fun e=>m6 e.symm) d4).trans hL
  have hbl:=(rW hsn hsl).length_eq
  have hcl:(eds ((oX g.es.length P).map (eAt g.es))).length=P.length*3:=by rw[aO,List.length_map,hbl]
  (refine aL ?_;simp[];(refine hJ _ _ ?_;clear hJ J;simp only[ak,reduceIte]))
  refine kY 5 (l:=q) (n:=P.length) (by simp[g5]) hq3 (Nat.le_of_eq hcl.symm) ?_
  rw[List.take_of_length_le (Nat.le_of_eq hcl)]
  have hbL:(bkL g.es s.out).length=s.out.length:=vC _ _
  have z1:¬W=q:=fun e=>y1 e.symm
  have z2:¬tB=q:=by omega
  have z3:¬W=s2.next:=by omega
  have z4:¬tB=s2.next:=by omega
  have z5:¬W=s2.next+1:=by omega
  (repeat' (refine w_e [] ?_;intro J hJ;simp only[];simp[g0,hW2,hB2,m2,z1,z2,z3,z4,z5,hbL];(repeat refine ca ?_);(refine hJ _ _ ?_;clear hJ J;simp only[ak,reduceIte])))
  have q1:¬a=q:=by omega
  have q2:¬nb=q:=by omega
  have q3:¬lw=q:=by omega
  have q4:¬tS=q:=by omega
  have q5:¬a=s2.next:=by omega
  have q6:¬nb=s2.next:=by omega
  have q7:¬lw=s2.next:=by omega
  have q8:¬tS=s2.next:=by omega
  have q9:¬a=s2.next+1:=by omega
  have q10:¬nb=s2.next+1:=by omega
  have q11:¬lw=s2.next+1:=by omega
  have q12:¬tS=s2.next+1:=by omega
  have q13:¬s2.next+1=W:=by omega
  have r1:¬a=W:=fun e=>m4 e.symm
  have r2:¬nb=W:=fun e=>m5 e.symm
  have r3:¬lw=W:=fun e=>m6 e.symm
  have r4:¬tS=W:=fun e=>m1 e.symm
  have hbk:bkL g.es (s.out++[oX g.es.length P])=bkL g.es s.out++[.sl 0 P.length (eds ((oX g.es.length P).map (eAt g.es)))]:=by
   unfold bkL;rw[List.map_append];simp[hbl]
  have htk:(s.stk.take k).length=k:=by rw[List.length_take];omega
  refine⟨trivial,⟨⟨tS,s2.next+1,CS,ea,by simp[htk],⟨by simp[z1,z2,z3,z4,z5,q1,q2,q3,q4,q5,q6,q7,q8,q9,q10,q11,q12,q13,r1,r2,r3,r4,m2,m3,m8,m10,m12,hA2],hAm⟩,by simp[z1,z2,z3,z4,z5,q1,q2,q3,q4,q5,q6,q7,q8,q9,q10,q11,q12,q13,r1,r2,r3,r4,m2,m3,m8,m10,m12,hN2],by simp[z1,z2,z3,z4,z5,q1,q2,q3,q4,q5,q6,q7,q8,q9,q10,q11,q12,q13,r1,r2,r3,r4,m2,m3,m8,m10,m12,hL2],⟨by simp[z1,z2,z3,z4,z5,q1,q2,q3,q4,q5,q6,q7,q8,q9,q10,q11,q12,q13,r1,r2,r3,r4,m2,m3,m8,m10,m12,hS2],?_⟩,by simp[z1,z2,z3,z4,z5,q1,q2,q3,q4,q5,q6,q7,q8,q9,q10,q11,q12,q13,r1,r2,r3,r4,m2,m3,m8,m10,m12,hbk],⟨n1,n2,n3⟩,b1,by omega,by simp;omega,by simp⟩,⟨c1,c2,c3,c4⟩,by simp;omega,by simp;omega,by simp;omega,by simp;omega⟩,?_⟩
  ·rw[htk,show CS.take k=(CS.take s.stk.length).take k by rw[List.take_take,Nat.min_eq_left hk'],hSt,aJy]
  ·refine(((((KbB.mk (by omega) fun x hx=>?_:KbB B st s2).set (by omega) _).new ?_ _).set b2 _).new ?_ _).set c1 _
   ·exact old x (by omega) (by omega) (by omega)
   ·simp;omega
   ·simp;omega
end Go.Proofs.YtempldclppogmaaGreatDoor.Aw
