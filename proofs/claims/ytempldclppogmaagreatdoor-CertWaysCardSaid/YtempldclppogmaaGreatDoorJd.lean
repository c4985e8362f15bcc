/- block.Simple: of each bundle one edge, and the bundles. -/
import Derived.Test.YtempldclppogmaaGreatDoorJc
import Derived.Test.YtempldclppogmaaGreatDoorAwZ
import Derived.Test.YtempldclppogmaaGreatDoorAwFz
import Derived.Test.YtempldclppogmaaGreatDoorAwMr4
import Derived.Test.YtempldclppogmaaGreatDoorAwRg
set_option linter.unusedVariables false
set_option linter.unusedSimpArgs false
namespace Go.Proofs.YtempldclppogmaaGreatDoor.Aw
open Go Go.RowKit Go.Proofs.YtempldclppogmaaGreatDoor.Pl
abbrev TR:=Nat×List Int
def aCr(p:TR):LV:=.sl p.1 p.2.length (us p.2)
def bH(R:List TR):List LV:=R.map aCr
theorem iB(R:List TR):(bH R).length=R.length:=by simp[bH]
structure aQA(E:List Ed)(st0:St)(L2 L4 M te q:Nat)(vs:List Int)(mes:List (List Int×LV))(R:List TR)(s:St):Prop where
 h2:s.H L2=.box 25 2 [.nil,.nil]
 h4:s.H L4=.box 25 2 [.sl 0 vs.length (us vs),.sl te (sE E).length (eds (sE E))]
 ht:s.H te=.own 56 3 (sE E).length
 hM:s.H M=.map true [.u32,.u32] mes
 hq:s.H q=.box 22 1 (bH R)
 bn:R.map (·.2)=bnd E
 at':AtM E mes
 nd:(R.map (·.1)).Nodup
 tk:∀ p∈R,st0.next≤p.1∧p.1<s.next∧s.H p.1=.own 34 1 p.2.length
 b:st0.next≤L2∧st0.next≤L4∧st0.next≤M∧st0.next≤te∧st0.next≤q∧L2<s.next∧L4<s.next∧M<s.next∧te<s.next∧q<s.next
 kp:aB st0 s
def aQw(g:Gr)(st0:St)(L2 L4 M k:Nat)(fr:Frm)(s:St):Prop:=
 fr 2=.pt L2 0∧fr 4=.pt L4 0∧fr 6=.mp M∧fr 18=.sl 0 g.es.length (eds g.es)∧fr 19=i g.es.length∧fr 20=i k∧
 ∃ te q mes R,fr 5=.ms q 0 R.length∧aQA (g.es.take k) st0 L2 L4 M te q g.vs mes R s
theorem bK{st:St}{a b:Nat}{x y:aD}(ha:st.H a=x)(hb:st.H b=y)(h:x≠y):¬a=b:=fun e=>h (by rw[← ha,e,hb])
theorem kZ(l:List Ed):z0L (eds l)=eds l:=by
 induction l with
 |nil=>rfl
 |cons e l ih=>simp only[eds,List.flatMap_cons,List.cons_append,List.nil_append,z0L,z0]at ih ⊢;rw[ih]
theorem aHD(R:List TR):z0L (bH R)=R.map fun p=>.sl 0 p.2.length (us p.2):=by
 rw[iV,bH,List.map_map]
 refine List.map_congr_left fun p _=>?_
 simp[aCr,z0]
set_option maxHeartbeats 2000000 in
theorem aKg(g:Gr)(st:St)(hv:g.vs.length≤1048576)(he:g.es.length≤1000)(hp:0<st.next):
 aF Tryz.prog 42 [.ag (grL g)] st fun r st'=>r=.tu [.ag [.sl 0 g.vs.length (us g.vs),.sl 0 (sE g.es).length (eds (sE g.es))],.sl 0 (bnd g.es).length ((bnd g.es).map fun l=>.sl 0 l.length (us l))]∧aB st st':=by
 refine bR ?_
 have hel:=aO g.es
 refine qO aK Tryz.func42 rfl rfl Tryz.ntmps42 (rs:=[.cell 2 25,.tmp 3]) rfl (by simp) ?_
 (repeat' (first|refine qS ?_|(refine w_e [] ?_;intro J hJ;simp only[];simp[];(try (refine hJ _ _ ?_;clear hJ J;simp only[ak,reduceIte])))))
 refine qE (aJw g.vs 0 _ hv) (by simp[]) ?_;rintro r st' ⟨rfl,hk1⟩
 have hn1:=hk1.next
 simp only[aA]at hn1
 have hG1:st'.H st.next=.box 25 2 (grL g):=by rw[hk1.H _ (by simp<;>omega)];simp
 have hC1:st'.H (st.next+1)=.box 25 2 [.nil,.nil]:=by rw[hk1.H _ (by simp)];simp
 have hkp:aB st st':=((aB.new _ _).trans (aB.new _ _)).trans hk1
 generalize hL:st'=s1 at *
 have e1:¬st.next=s1.next:=by omega
 have e2:¬st.next=s1.next+1:=by omega
 (repeat' (first|refine qS ?_|refine qB ?_|((first|(refine w_e [] ?_;intro J hJ;simp only[])|(refine aL ?_));simp[e1,e2,hG1];(refine hJ _ _ ?_;clear hJ J;simp only[ak,reduceIte]))))
 refine yE s1.next 56 3 (e:=25) (s:=2) [.sl 0 g.vs.length (us g.vs)] [] (by simp) ?_
 refine pT 5 22 1 (by simp) ?_
 refine qL (fun n fr s=>∃ k:Nat,k≤g.es.length∧n=g.es.length-k∧aQw g st (st.next+1) s1.next (s1.next+1) k fr s) g.es.length ?_ ?_
 ·refine⟨0,by omega,by omega,by simp,by simp,by simp,by simp,by simp,by simp,s1.next+2,s1.next+3,[],[],by simp,?_⟩
  have h5:¬st.next=s1.next+2:=by omega
  have h1:¬st.next+1=s1.next:=by omega
  refine⟨by simp[h1,h5,e1,e2,hC1],by simp[sE]<;>omega,by simp[sE],by simp,by simp[bH],by simp[bnd,sE],AtM.nil,by simp,by simp,⟨by omega,by omega,by omega,by omega,by omega,by simp<;>omega,by simp<;>omega,by simp,by simp,by simp⟩,?_⟩
  exact(((((hkp.trans (aB.new _ _)).trans (aB.new _ _)).trans (aB.new _ _)).set (by omega) _).trans (aB.new _ _))
 rintro n fr s ⟨k,hk,rfl,f2,f4,f6,f18,f19,f20,te,q,mes,R,f5,hB⟩ JJ hJJ
 obtain⟨H2,H4,Ht,HM,Hq,hbn,hat,hnd,htk,⟨b1,b2,b3,b4,b5,b6,b7,b8,b9,b10⟩,hkps⟩:=hB
 have q24:¬q=s1.next:=bK Hq H4 (by simp)
 by_cases hlt:k<g.es.length
 rotate_left
 ·clear hJJ
  have hk':k=g.es.length:=by omega
  rw[hk',List.take_length]at H4 Ht hbn
  have hbl:(bnd g.es).length=R.length:=by rw[← hbn,List.length_map]
  have n1:¬st.next+1=q:=bK H2 Hq (by simp)
  have n2:¬s1.next=q:=fun h=>q24 h.symm
  have n3:¬s1.next=st.next+1:=by omega
  have hsl:=xO g.es
  refine kY 5 f5 Hq (by simp[iB]) ?_
  have htk2:(bH R).take (R.length*1)=bH R:=List.take_of_length_le (by rw[iB];omega)
  rw[htk2]
  (repeat' (first|refine qS ?_|(refine qX ?_;simp only[ak,reduceIte])|(refine qR ?_;simp only[ak,reduceIte];simp[f2,f4,f19,f20,hlt,H4,H2,n1,n2,n3])|(refine qC ?_;simp[f2,f4,f19,f20,hlt,H4,H2,n1,n2,n3])|(refine w_e [] ?_;intro J hJ;simp only[];simp[f2,f4,f19,f20,hlt,H4,H2,n1,n2,n3];(refine hJ _ _ ?_;clear hJ J;simp only[ak,reduceIte]))))
  refine⟨?_,(hkps.set (by omega) _).set (by omega) _⟩
  rw[hbl,← hbn]
  simp only[z0,z0L,iO,kZ,aHD,List.map_map]
  rfl
 have hd:=bE g.es k hlt
 have hw:=qN k (by omega)
 have hk3:k*3<g.es.length*3:=by omega
 have htk1:g.es.take (k+1)=g.es.take k++[g.es.getD k ed0]:=by
  rw[List.getD_eq_getElem?_getD,List.getElem?_eq_getElem hlt];exact List.take_succ_eq_append_getElem hlt
 have hEl:(g.es.take k).length≤1000:=by rw[List.length_take];omega
 generalize g.es.getD k ed0=x at *
 generalize hE:g.es.take k=E at *
 obtain⟨id,a,b⟩:=x
 simp only at hd
 cases hany:(sE E).any (bes ⟨id,a,b⟩)
 ·have hm:=hat.new ⟨id,a,b⟩ hany
  simp only[kE]at hm
  have hsm:(List.map (fun _:Ed=>3) (sE E)).sum=(sE E).length*3:=by
   induction sE E with
   |nil=>rfl
   |cons x l ih=>simp only[List.map_cons,List.sum_cons,List.length_cons,ih];omega
  have hsl:=xO E
  have te0:¬te=0:=by omega
  have hcl:=iB R
  have hRl:R.length=(sE E).length:=by rw[← aKU,← hbn,List.length_map]
  have htR:List.take R.length (bH R)=bH R:=List.take_of_length_le (by omega)
  have hdl:List.drop R.length (bH R++[LV.nil])=[.nil]:=by rw[← hcl];exact List.drop_left
  have htl:List.take R.length (bH R++[LV.nil])=bH R:=by rw[← hcl];exact List.take_left
  have hdl2:List.drop (R.length+1) (bH R++[LV.nil])=[]:=List.drop_eq_nil_of_le (by simp[hcl])
  have hRn:((R.length:Int)).toNat=R.length:=by omega
  have c0:¬s1.next=s.next:=by omega
  have c0':¬s.next=s1.next:=by omega
  have c1:¬s1.next=s.next+1:=by omega
  have c1':¬s.next+1=s1.next:=by omega
  have c2:¬s1.next=s.next+2:=by omega
  have c2':¬s.next+2=s1.next:=by omega
  have c3:¬s1.next=s.next+3:=by omega
  have c3':¬s.next+3=s1.next:=by omega
  have c4:¬s1.next=s.next+4:=by omega
  have c4':¬s.next+4=s1.next:=by omega
  have e0:¬te=s.next:=by omega
  have e0':¬s.next=te:=by omega
  have e1:¬te=s.next+1:=by omega
  have e1':¬s.next+1=te:=by omega
  have e2:¬te=s.next+2:=by omega
  have e2':¬s.next+2=te:=by omega
  have e3:¬te=s.next+3:=by omega
  have e3':¬s.next+3=te:=by omega
  have e4:¬te=s.next+4:=by omega
  have e4':¬s.next+4=te:=by omega
  have d0:¬q=s.next:=by omega
  have d0':¬s.next=q:=by omega
  have d1:¬q=s.next+1:=by omega
  have d1':¬s.next+1=q:=by omega
  have d2:¬q=s.next+2:=by omega
  have d2':¬s.next+2=q:=by omega
  have d3:¬q=s.next+3:=by omega
  have d3':¬s.next+3=q:=by omega
  have d4:¬q=s.next+4:=by omega
  have d4':¬s.next+4=q:=by omega
  have c9:¬s1.next+1=s.next:=by omega
  have c9':¬s.next=s1.next+1:=by omega
  have n1:¬te=s1.next:=bK Ht H4 (by simp)
  have n2:¬te=s1.next+1:=bK Ht HM (by simp)
  have n3:¬q=s1.next+1:=bK Hq HM (by simp)
  have n4:¬q=te:=bK Hq Ht (by simp)
  have n1':¬s1.next=te:=fun h=>n1 h.symm
  have n2':¬s1.next+1=te:=fun h=>n2 h.symm
  have n3':¬s1.next+1=q:=fun h=>n3 h.symm
  have n4':¬te=q:=fun h=>n4 h.symm
  have n5':¬s1.next=q:=fun h=>q24 h.symm
  have r2:¬s.next=s.next+1+1:=by omega
  have r3:¬s.next=s.next+1+1+1:=by omega
  have r4:¬s.next=s.next+1+1+1+1:=by omega
  have r5:¬s.next=s.next+1+1+1+1+1:=by omega
  have r6:¬s.next=s.next+1+1+1+1+1+1:=by omega
  have r7:¬s.next=s.next+1+1+1+1+1+1+1:=by omega
  have p1:R.length<R.length+1:=by omega
  (repeat' (first|refine qS ?_|refine qB ?_|(refine qK ?_;simp only[ak,reduceIte])|(refine qC ?_;simp[hcl,htR,hsm,te0,c0,c0',c1,c1',c2,c2',c3,c3',c4,c4',e0,e0',e1,e1',e2,e2',e3,e3',e4,e4',d0,d0',d1,d1',d2,d2',d3,d3',d4,d4',c9,c9',n1,n2,n3,n4,n1',n2',n3',n4',n5',Ht,Hq,q24,f4,f5,f6,f18,f19,f20,hlt,hd,hel,hk3,hw,H4,HM,hm])|(refine w_e [] ?_;intro J hJ;simp only[];simp[hcl,htR,hsm,te0,c0,c0',c1,c1',c2,c2',c3,c3',c4,c4',e0,e0',e1,e1',e2,e2',e3,e3',e4,e4',d0,d0',d1,d1',d2,d2',d3,d3',d4,d4',c9,c9',n1,n2,n3,n4,n1',n2',n3',n4',n5',Ht,Hq,q24,f4,f5,f6,f18,f19,f20,hlt,hd,hel,hk3,hw,H4,HM,hm];(repeat refine ca ?_);(refine hJ _ _ ?_;clear hJ J;simp only[ak,reduceIte]))))
  (refine w_s [] [s.next,s.next+1+1+1+1+1] [(0,true),(1,true),(2,true),(3,true),(4,true),(5,true),(6,true),(7,true),(8,true),(9,true),(10,true),(11,false)] ?_;intro J hJ;simp[r2,r3,r4,r5,r6,r7,c0,c0',c1,c1',c2,c2',c3,c3',c4,c4',e0,e0',e1,e1',e2,e2',e3,e3',e4,e4',d0,d0',d1,d1',d2,d2',d3,d3',d4,d4',c9,c9',n1,n2,n3,n4,n1',n2',n3',n4',n5',hcl,htR,hdl,htl,hdl2,p1];(repeat refine ca ?_);(refine hJ _ _ ?_;clear hJ J;simp only[ak,reduceIte]))
  (repeat' (refine w_e [] ?_;intro J hJ;simp only[];simp[f20,hw];(refine hJ _ _ ?_;clear hJ J;simp only[ak,reduceIte])))
  have l1:¬st.next+1=te:=bK H2 Ht (by simp)
  have l2:¬st.next+1=q:=bK H2 Hq (by simp)
  obtain⟨hs,hb⟩:=aFz hany
  refine hJJ (g.es.length-(k+1)) _ _ (by omega) ⟨k+1,by omega,rfl,by simp[f2],by simp[f4],by simp[f6],by simp[f18],by simp[f19],by simp,s.next+3,s.next+5,aS mes (kE ⟨id,a,b⟩) (i (sE E).length),R++[(s.next+7,[id])],by simp,?_⟩
  rw[htk1]
  refine⟨?_,?_,?_,?_,?_,?_,hat.add hany,?_,?_,?_,?_⟩
  ·(repeat (first|rw[aG,if_neg (α:=aD) (by(try simp only[aC,aA]);omega)]|rw[aE,if_neg (α:=aD) (by omega)]|rw[aG,if_pos (α:=aD) (by(try simp only[aC,aA]))]|rw[aE,if_pos (α:=aD) (by omega)]));exact H2
  ·(repeat (first|rw[aG,if_neg (α:=aD) (by(try simp only[aC,aA]);omega)]|rw[aE,if_neg (α:=aD) (by omega)]|rw[aG,if_pos (α:=aD) (by(try simp only[aC,aA]))]|rw[aE,if_pos (α:=aD) (by omega)]));rw[hs];simp[eds]
  ·(repeat (first|rw[aG,if_neg (α:=aD) (by(try simp only[aC,aA]);omega)]|rw[aE,if_neg (α:=aD) (by omega)]|rw[aG,if_pos (α:=aD) (by(try simp only[aC,aA]))]|rw[aE,if_pos (α:=aD) (by omega)]));rw[hs];simp
  ·(repeat (first|rw[aG,if_neg (α:=aD) (by(try simp only[aC,aA]);omega)]|rw[aE,if_neg (α:=aD) (by omega)]|rw[aG,if_pos (α:=aD) (by(try simp only[aC,aA]))]|rw[aE,if_pos (α:=aD) (by omega)]));rw[hRl];rfl
  ·(repeat (first|rw[aG,if_neg (α:=aD) (by(try simp only[aC,aA]);omega)]|rw[aE,if_neg (α:=aD) (by omega)]|rw[aG,if_pos (α:=aD) (by(try simp only[aC,aA]))]|rw[aE,if_pos (α:=aD) (by omega)]));simp[bH,aCr]
  ·rw[List.map_append,hbn,hb];rfl
  ·rw[List.map_append,List.nodup_append]
   refine⟨hnd,by simp,fun x hx y hy=>?_⟩
   obtain⟨p,hp,rfl⟩:=List.mem_map.1 hx
   simp at hy
   have:=(htk p hp).2.1
   omega
  ·intro p hp
   rcases List.mem_append.1 hp with hp|hp
   ·obtain⟨h1,h2,h3⟩:=htk p hp
    have t1:¬p.1=te:=bK h3 Ht (by simp)
    have t2:¬p.1=q:=bK h3 Hq (by simp)
    have t3:¬p.1=s1.next:=bK h3 H4 (by simp)
    have t4:¬p.1=s1.next+1:=bK h3 HM (by simp)
    refine⟨h1,by simp<;>omega,?_⟩
    (repeat (first|rw[aG,if_neg (α:=aD) (by(try simp only[aC,aA]);omega)]|rw[aE,if_neg (α:=aD) (by omega)]|rw[aG,if_pos (α:=aD) (by(try simp only[aC,aA]))]|rw[aE,if_pos (α:=aD) (by omega)]));exact h3
   ·rw[List.mem_singleton]at hp
    subst hp
    refine⟨by simp<;>omega,by simp,?_⟩
    (repeat (first|rw[aG,if_neg (α:=aD) (by(try simp only[aC,aA]);omega)]|rw[aE,if_neg (α:=aD) (by omega)]|rw[aG,if_pos (α:=aD) (by(try simp only[aC,aA]))]|rw[aE,if_pos (α:=aD) (by omega)]));rfl
  ·simp only[aC,aA];omega
  ·refine⟨by have:=hkps.next;simp only[aC,aA];omega,fun l hl=>?_⟩
   (repeat (first|rw[aG,if_neg (α:=aD) (by(try simp only[aC,aA]);omega)]|rw[aE,if_neg (α:=aD) (by omega)]|rw[aG,if_pos (α:=aD) (by(try simp only[aC,aA]))]|rw[aE,if_pos (α:=aD) (by omega)]));exact hkps.H l hl
 obtain⟨hs,L1,y,L2,B1,r,B2,hL,hyb,hB0,hBl,hB1,hrl⟩:=aLr hany
 have hm:=hat.old ⟨id,a,b⟩ L1 y L2 hL hyb
 simp only[kE]at hm
 rw[hB0]at hbn
 obtain⟨R1,R',rfl,hR1,hR'⟩:=List.map_eq_append_iff.1 hbn
 obtain⟨p,R2,rfl,hpr,hR2⟩:=List.map_eq_cons_iff.1 hR'
 obtain⟨t0,r0⟩:=p
 simp only at hpr
 subst hpr
 obtain⟨hb1,hb2,hb3⟩:=htk (t0,r0) (by simp)
 simp only at hb1 hb2 hb3
 have hR1l:R1.length=L1.length:=by rw[← hBl,← hR1,List.length_map]
 have hcl:(bH (R1++(t0,r0)::R2)).length=R1.length+(R2.length+1):=by rw[iB];simp
 have hRl:(R1++(t0,r0)::R2).length=R1.length+(R2.length+1):=by simp
 have hcs:bH (R1++(t0,r0)::R2)=bH R1++.sl t0 r0.length (us r0)::bH R2:=by simp[bH,aCr]
 have hc1:(bH R1).length=R1.length:=iB R1
 have hdl:List.drop R1.length (bH R1++LV.sl t0 r0.length (us r0)::bH R2)=.sl t0 r0.length (us r0)::bH R2:=by rw[← hc1];exact List.drop_left
 have htl:List.take R1.length (bH R1++LV.sl t0 r0.length (us r0)::bH R2)=bH R1:=by rw[← hc1];exact List.take_left
 have hdl2:List.drop (R1.length+1) (bH R1++LV.sl t0 r0.length (us r0)::bH R2)=bH R2:=by
  rw[← hc1,show bH R1++LV.sl t0 r0.length (us r0)::bH R2=(bH R1++[LV.sl t0 r0.length (us r0)])++bH R2 by simp]
  rw[show(bH R1).length+1=(bH R1++[LV.sl t0 r0.length (us r0)]).length by simp]
  exact List.drop_left
 rw[hRl]at f5
 rw[hcs]at Hq
 rw[← hR1l]at hm
 have t00:¬t0=0:=by omega
 have m1:¬s1.next=s.next:=by omega
 have m1':¬s.next=s1.next:=by omega
 have m2:¬s1.next+1=s.next:=by omega
 have m2':¬s.next=s1.next+1:=by omega
 have m5:¬t0=s.next:=by omega
 have m6:¬t0=s.next+1:=by omega
 have m6b:¬t0=s.next+2:=by omega
 have m5':¬s.next=t0:=by omega
 have m6':¬s.next+1=t0:=by omega
 have m6b':¬s.next+2=t0:=by omega
 have m7:¬q=s.next:=by omega
 have m8:¬q=s.next+1:=by omega
 have m9:¬q=s.next+2:=by omega
 have m9b:¬q=s.next+3:=by omega
 have n4:¬q=t0:=bK Hq hb3 (by simp)
 have r2:¬s.next=s.next+1+1:=by omega
 have r3:¬s.next=s.next+1+1+1:=by omega
 have p1:R1.length<R1.length+(R2.length+1):=by omega
 have p2:(R1.length:Int)<(R1.length:Int)+((R2.length:Int)+1):=by omega
 have hr1:r0.length≤1000:=by omega
 (repeat' (first|refine qS ?_|refine qB ?_|(refine qK ?_;simp only[ak,reduceIte])|(refine qC ?_;simp[m1,m1',m2,m2',f4,f5,f6,f18,f19,f20,hlt,hd,hel,hk3,hw,HM,hm])|(refine w_e [] ?_;intro J hJ;simp only[];simp[m1,m1',m2,m2',f4,f5,f6,f18,f19,f20,hlt,hd,hel,hk3,hw,HM,hm];(refine hJ _ _ ?_;clear hJ J;simp only[ak,reduceIte]))))
 (refine w_s [] [s.next,q] [(0,true),(1,true),(2,true),(3,true),(4,true),(5,true),(6,true),(7,true),(8,true),(9,true),(10,true),(11,false)] ?_;intro J hJ;simp[m1,m1',m2,m2',m5,m6,m6b,m5',m6',m6b',m7,m8,m9,m9b,n4,r2,r3,f5,Hq,hb3,hc1,hdl,htl,hdl2,p1,p2,t00];(repeat refine ca ?_);(refine hJ _ _ ?_;clear hJ J;simp only[ak,reduceIte]))
 (repeat' (refine w_e [] ?_;intro J hJ;simp only[];simp[f20,hw];(refine hJ _ _ ?_;clear hJ J;simp only[ak,reduceIte])))
 have l2:¬st.next+1=q:=bK H2 Hq (by simp)
 have l3:¬st.next+1=t0:=bK H2 hb3 (by simp)
 have l4:¬s1.next=q:=fun h=>q24 h.symm
 have l5:¬s1.next=t0:=bK H4 hb3 (by simp)
 have l6:¬s1.next+1=q:=bK HM Hq (by simp)
 have l7:¬s1.next+1=t0:=bK HM hb3 (by simp)
 have l8:¬te=q:=bK Ht Hq (by simp)
 have l9:¬te=t0:=bK Ht hb3 (by simp)
 refine hJJ (g.es.length-(k+1)) _ _ (by omega) ⟨k+1,by omega,rfl,by simp[f2],by simp[f4],by simp[f6],by simp[f18],by simp[f19],by simp,te,q,mes,R1++(s.next+3,r0++[id])::R2,by simp[f5],?_⟩
 rw[htk1]
 have hnd':=hnd
 rw[List.map_append,List.map_cons,List.nodup_append,List.nodup_cons]at hnd'
 obtain⟨nd1,⟨nd2,nd3⟩,nd4⟩:=hnd'
 refine⟨?_,?_,?_,?_,?_,?_,hat.keep hs,?_,?_,?_,?_⟩
 ·(repeat (first|rw[aG,if_neg (α:=aD) (by(try simp only[aC,aA]);omega)]|rw[aE,if_neg (α:=aD) (by omega)]|rw[aG,if_pos (α:=aD) (by(try simp only[aC,aA]))]|rw[aE,if_pos (α:=aD) (by omega)]));exact H2
 ·(repeat (first|rw[aG,if_neg (α:=aD) (by(try simp only[aC,aA]);omega)]|rw[aE,if_neg (α:=aD) (by omega)]|rw[aG,if_pos (α:=aD) (by(try simp only[aC,aA]))]|rw[aE,if_pos (α:=aD) (by omega)]));rw[hs];exact H4
 ·(repeat (first|rw[aG,if_neg (α:=aD) (by(try simp only[aC,aA]);omega)]|rw[aE,if_neg (α:=aD) (by omega)]|rw[aG,if_pos (α:=aD) (by(try simp only[aC,aA]))]|rw[aE,if_pos (α:=aD) (by omega)]));rw[hs];exact Ht
 ·(repeat (first|rw[aG,if_neg (α:=aD) (by(try simp only[aC,aA]);omega)]|rw[aE,if_neg (α:=aD) (by omega)]|rw[aG,if_pos (α:=aD) (by(try simp only[aC,aA]))]|rw[aE,if_pos (α:=aD) (by omega)]));exact HM
 ·(repeat (first|rw[aG,if_neg (α:=aD) (by(try simp only[aC,aA]);omega)]|rw[aE,if_neg (α:=aD) (by omega)]|rw[aG,if_pos (α:=aD) (by(try simp only[aC,aA]))]|rw[aE,if_pos (α:=aD) (by omega)]));simp[bH,aCr]
 ·rw[hB1,List.map_append,List.map_cons,hR1,hR2]
 ·rw[List.map_append,List.map_cons,List.nodup_append,List.nodup_cons]
  have lt1:∀ x∈R1.map (·.1),x<s.next:=fun x hx=>by
   obtain⟨p,hp,rfl⟩:=List.mem_map.1 hx
   exact(htk p (by simp[hp])).2.1
  have lt2:∀ x∈R2.map (·.1),x<s.next:=fun x hx=>by
   obtain⟨p,hp,rfl⟩:=List.mem_map.1 hx
   exact(htk p (by simp[hp])).2.1
  refine⟨nd1,⟨fun h=>by have:=lt2 _ h;omega,nd3⟩,fun x hx y hy=>?_⟩
  rcases List.mem_cons.1 hy with rfl|hy
  ·have:=lt1 x hx;simp only;omega
  ·exact nd4 x hx y (List.mem_cons_of_mem _ hy)
 ·intro p hp
  have old:∀ p,p∈R1∨p∈R2→¬p.1=t0→st.next≤p.1∧p.1<s.next∧s.H p.1=.own 34 1 p.2.length∧¬p.1=t0∧¬p.1=q:=by
   intro p hp hne
   obtain⟨h1,h2,h3⟩:=htk p (by rcases hp with hp|hp<;>simp[hp])
   exact⟨h1,h2,h3,hne,bK h3 Hq (by simp)⟩
  have hp':(p∈R1∨p∈R2)∧¬p.1=t0∨p=(s.next+3,r0++[id]):=by
   rcases List.mem_append.1 hp with hp|hp
   ·exact .inl ⟨.inl hp,nd4 _ (List.mem_map.2 ⟨p,hp,rfl⟩) t0 (by simp)⟩
   ·rcases List.mem_cons.1 hp with hp|hp
    ·exact .inr hp
    ·exact .inl ⟨.inr hp,fun h=>nd2 (by rw[← h];exact List.mem_map.2 ⟨p,hp,rfl⟩)⟩
  rcases hp' with⟨hp,hne⟩|rfl
  ·obtain⟨h1,h2,h3,t1,t2⟩:=old p hp hne
   refine⟨h1,by simp only[aC,aA];omega,?_⟩
   (repeat (first|rw[aG,if_neg (α:=aD) (by(try simp only[aC,aA]);omega)]|rw[aE,if_neg (α:=aD) (by omega)]|rw[aG,if_pos (α:=aD) (by(try simp only[aC,aA]))]|rw[aE,if_pos (α:=aD) (by omega)]));exact h3
  ·refine⟨by simp only;omega,by simp,?_⟩
   simp only
   (repeat (first|rw[aG,if_neg (α:=aD) (by(try simp only[aC,aA]);omega)]|rw[aE,if_neg (α:=aD) (by omega)]|rw[aG,if_pos (α:=aD) (by(try simp only[aC,aA]))]|rw[aE,if_pos (α:=aD) (by omega)]));simp
 ·simp only[aC,aA];omega
 ·refine⟨by have:=hkps.next;simp only[aC,aA];omega,fun l hl=>?_⟩
  (repeat (first|rw[aG,if_neg (α:=aD) (by(try simp only[aC,aA]);omega)]|rw[aE,if_neg (α:=aD) (by omega)]|rw[aG,if_pos (α:=aD) (by(try simp only[aC,aA]))]|rw[aE,if_pos (α:=aD) (by omega)]));exact hkps.H l hl
abbrev VB:=Int×Nat
def fI(H:List (Int×Int))(L:List VB):List (List Int×LV):=L.map fun p=>([p.1],.ms p.2 0 (nbH p.1 H).length)
structure NbM(H:List (Int×Int))(lo:Nat)(m:Nat)(L:List VB)(s:St):Prop where
 hm:s.H m=.map false [.u32] (fI H L)
 bx:∀ p∈L,lo≤p.2∧p.2<s.next∧s.H p.2=.box 34 1 (us (nbH p.1 H))
 nd:(L.map (·.2)).Nodup
 kd:(L.map (·.1)).Nodup
 all:∀ v,nbH v H≠[]↔v∈L.map (·.1)
theorem rN{H:List (Int×Int)}{v:Int}:∀ {L:List VB},v∉L.map (·.1)→aR (fI H L) [v]=none
 |[],_=>rfl
 |p::L,h=>by
  simp only[List.map_cons,List.mem_cons,not_or]at h
  simp only[fI,List.map_cons,aR]
  rw[if_neg (by simpa using h.1)]
  exact rN h.2
theorem rR{H:List (Int×Int)}{v:Int}{q:Nat}:∀ {L1 L2:List VB},v∉L1.map (·.1)→aR (fI H (L1++(v,q)::L2)) [v]=some (.ms q 0 (nbH v H).length)
 |[],L2,_=>by simp[fI,aR]
 |p::L1,L2,h=>by
  simp only[List.map_cons,List.mem_cons,not_or]at h
  simp only[List.cons_append,fI,List.map_cons,aR]
  rw[if_neg (by simpa using h.1)]
  exact rR h.2
theorem aCI{H H':List (Int×Int)}{v:Int}{q q':Nat}:∀ {L1 L2:List VB},v∉L1.map (·.1)→v∉L2.map (·.1)→(∀ u,u≠v→nbH u H'=nbH u H)→aS (fI H (L1++(v,q)::L2)) [v] (.ms q' 0 (nbH v H').length)=fI H' (L1++(v,q')::L2)
 |[],L2,_,h2,hn=>by
  simp only[List.nil_append,fI,List.map_cons,aS,beq_self_eq_true,if_true]
  congr 1
  refine List.map_congr_left fun p hp=>?_
  rw[hn p.1 (fun e=>h2 (by rw[← e];exact List.mem_map.2 ⟨p,hp,rfl⟩))]
 |p::L1,L2,h,h2,hn=>by
  simp only[List.map_cons,List.mem_cons,not_or]at h
  have ih:=aCI (H:=H) (H':=H') (q:=q) (q':=q') (L1:=L1) (L2:=L2) h.2 h2 hn
  simp only[List.cons_append,fI,List.map_cons,aS]at ih ⊢
  rw[if_neg (by simpa using h.1),ih,hn p.1 (fun e=>h.1 e.symm)]
theorem aDR{H H':List (Int×Int)}{v:Int}{q':Nat}:∀ {L:List VB},v∉L.map (·.1)→(∀ u,u≠v→nbH u H'=nbH u H)→aS (fI H L) [v] (.ms q' 0 (nbH v H').length)=fI H' (L++[(v,q')])
 |[],_,_=>rfl
 |p::L,h,hn=>by
  simp only[List.map_cons,List.mem_cons,not_or]at h
  have ih:=aDR (H:=H) (H':=H') (q':=q') (L:=L) h.2 hn
  simp only[List.cons_append,fI,List.map_cons,aS]at ih ⊢
  rw[if_neg (by simpa using h.1),ih,hn p.1 (fun e=>h.1 e.symm)]
theorem zR{H:List (Int×Int)}{a b u:Int}(h:u≠a):nbH u (H++[(a,b)])=nbH u H:=by rw[aDi,if_neg (fun e=>h e.symm),List.append_nil]
theorem jU{H:List (Int×Int)}{a b:Int}:nbH a (H++[(a,b)])=nbH a H++[b]:=by rw[aDi,if_pos rfl]
theorem NbM.add{H:List (Int×Int)}{lo m:Nat}{L:List VB}{s:St}(h:NbM H lo m L s){a b:Int}(ha:a∉L.map (·.1)){q':Nat}{s':St}(hq:lo≤q'∧s.next≤q'∧q' < s'.next)
 (hm:s'.H m=.map false [.u32] (aS (fI H L) [a] (.ms q' 0 (nbH a H++[b]).length))) (hb:s'.H q'=.box 34 1 (us (nbH a H++[b]))) (ho:∀ p∈L,s'.H p.2=s.H p.2) (hn:s.next≤s'.next):NbM (H++[(a,b)]) lo m (L++[(a,q')]) s':=by
 have hoth:∀ u,u≠a→nbH u (H++[(a,b)])=nbH u H:=fun u hu=>zR hu
 refine⟨?_,fun p hp=>?_,?_,?_,fun v=>?_⟩
 ·rw[hm,← jU,aDR ha hoth]
 ·rcases List.mem_append.1 hp with hp|hp
  ·obtain⟨h1,h2,h3⟩:=h.bx p hp
   exact⟨h1,by omega,by rw[ho p hp,h3,hoth p.1 (fun e=>ha (by rw[← e];exact List.mem_map.2 ⟨p,hp,rfl⟩))]⟩
  ·rw[List.mem_singleton]at hp
   subst hp
   exact⟨hq.1,hq.2.2,by rw[hb,jU]⟩
 ·rw[List.map_append,List.nodup_append]
  refine⟨h.nd,by simp,fun x hx y hy=>?_⟩
  obtain⟨p,hp,rfl⟩:=List.mem_map.1 hx
  simp at hy
  have:=(h.bx p hp).2.1
  omega
 ·rw[List.map_append,List.nodup_append]
  exact⟨h.kd,by simp,fun x hx y hy=>by simp at hy;subst hy;rintro rfl;exact ha hx⟩
 ·rw[List.map_append,List.mem_append]
  by_cases hv:v=a
  ·subst hv;rw[jU];simp
  ·rw[hoth v hv,h.all v]
   simp[hv]
theorem NbM.put{H:List (Int×Int)}{lo m:Nat}{L1 L2:List VB}{s:St}{a b:Int}{q:Nat}(h:NbM H lo m (L1++(a,q)::L2) s){q':Nat}{s':St}(hq:lo≤q'∧s.next≤q'∧q' < s'.next)
 (hm:s'.H m=.map false [.u32] (aS (fI H (L1++(a,q)::L2)) [a] (.ms q' 0 (nbH a H++[b]).length))) (hb:s'.H q'=.box 34 1 (us (nbH a H++[b]))) (ho:∀ p,p∈L1∨p∈L2→p.2≠q→p.2<s.next→s'.H p.2=s.H p.2) (hn:s.next≤s'.next):NbM (H++[(a,b)]) lo m (L1++(a,q')::L2) s':=by
 have hoth:∀ u,u≠a→nbH u (H++[(a,b)])=nbH u H:=fun u hu=>zR hu
 have kd:=h.kd
 have nd:=h.nd
 rw[List.map_append,List.map_cons,List.nodup_append,List.nodup_cons]at kd nd
 obtain⟨kd1,⟨kd2,kd3⟩,kd4⟩:=kd
 obtain⟨nd1,⟨nd2,nd3⟩,nd4⟩:=nd
 have ha1:a∉L1.map (·.1):=fun e=>kd4 a e a (by simp) rfl
 have hb1:∀ p,p∈L1∨p∈L2→p.1≠a∧p.2≠q∧(lo≤p.2∧p.2<s.next∧s.H p.2=.box 34 1 (us (nbH p.1 H))):=by
  intro p hp
  refine⟨?_,?_,h.bx p (by rcases hp with hp|hp<;>simp[hp])⟩
  ·rcases hp with hp|hp
   ·exact fun e=>ha1 (by rw[← e];exact List.mem_map.2 ⟨p,hp,rfl⟩)
   ·exact fun e=>kd2 (by rw[← e];exact List.mem_map.2 ⟨p,hp,rfl⟩)
  ·rcases hp with hp|hp
   ·exact nd4 _ (List.mem_map.2 ⟨p,hp,rfl⟩) q (by simp)
   ·exact fun e=>nd2 (by rw[← e];exact List.mem_map.2 ⟨p,hp,rfl⟩)
 refine⟨?_,fun p hp=>?_,?_,?_,fun v=>?_⟩
 ·rw[hm,← jU,aCI ha1 kd2 hoth]
 ·have hp':(p∈L1∨p∈L2)∨p=(a,q'):=by
   rcases List.mem_append.1 hp with hp|hp
   ·exact .inl (.inl hp)
   ·rcases List.mem_cons.1 hp with hp|hp
    ·exact .inr hp
    ·exact .inl (.inr hp)
  rcases hp' with hp|rfl
  ·obtain⟨h1,h2,h3,h4,h5⟩:=hb1 p hp
   exact⟨h3,by omega,by rw[ho p hp h2 h4,h5,hoth p.1 h1]⟩
  ·exact⟨hq.1,hq.2.2,by rw[hb,jU]⟩
 ·rw[List.map_append,List.map_cons,List.nodup_append,List.nodup_cons]
  have lt:∀ p,p∈L1∨p∈L2→p.2<s.next:=fun p hp=>(hb1 p hp).2.2.2.1
  refine⟨nd1,⟨fun e=>?_,nd3⟩,fun x hx y hy=>?_⟩
  ·obtain⟨p,hp,e⟩:=List.mem_map.1 e
   have:=lt p (.inr hp);simp only at e;omega
  ·rcases List.mem_cons.1 hy with rfl|hy
   ·obtain⟨p,hp,rfl⟩:=List.mem_map.1 hx
    have:=lt p (.inl hp);omega
   ·exact nd4 x hx y (List.mem_cons_of_mem _ hy)
 ·have:=h.kd
  rw[List.map_append,List.map_cons]at this ⊢
  exact this
 ·by_cases hv:v=a
  ·subst hv;rw[jU];simp
  ·rw[hoth v hv,h.all v,List.map_append,List.map_append,List.map_cons,List.map_cons]
theorem jI{α β:Type}{f:α→β}:∀ {L:List α},(L.map f).Nodup→∀ {x y:α},x∈L→y∈L→f x=f y→x=y
 |[],_,_,_,hx,_,_=>by simp at hx
 |z::L,h,x,y,hx,hy,e=>by
  simp only[List.map_cons,List.nodup_cons]at h
  rcases List.mem_cons.1 hx with hx'|hx'<;>rcases List.mem_cons.1 hy with hy'|hy'
  ·rw[hx',hy']
  ·exact absurd (List.mem_map.2 ⟨y,hy',by rw[← e,hx']⟩) h.1
  ·exact absurd (List.mem_map.2 ⟨x,hx',by rw[e,hy']⟩) h.1
  ·exact jI h.2 hx' hy' e
theorem wA{P:Program}{N:Nat}{Q:AQ}{k:List fZ}{fr:Frm}{st:St}{x:Code}(I:Frm→St→Prop)(h1:AWp P N x (AK P N (fun e f s=>e=.normal∧I f s) []) fr st)(h2:∀ fr st,I fr st→AK P N Q k .normal fr st):
 AWp P N x (AK P N Q k) fr st:=by
 refine dV h1 ?_
 rintro e fr' st' ⟨rfl,hI⟩
 exact h2 _ _ hI
theorem aHU{P:Program}{N:Nat}{Q:AQ}{c:Code}{fr:Frm}{st:St}(I:Frm→St→Prop)(h0:I fr st)(h:∀ fr st,I fr st→AWp P N c Q fr st):AWp P N c Q fr st:=h _ _ h0
theorem NbM.keeps{H:List (Int×Int)}{lo m:Nat}{L:List VB}{s s':St}(h:NbM H lo m L s)(k:aB s s')(hm:m<s.next):NbM H lo m L s':=
 ⟨by rw[k.H m hm];exact h.hm,fun p hp=>by obtain⟨h1,h2,h3⟩:=h.bx p hp;exact⟨h1,Nat.lt_of_lt_of_le h2 k.next,by rw[k.H _ h2];exact h3⟩,h.nd,h.kd,h.all⟩
def SoI(st0:St)(H:List (Int×Int))(M:Nat)(L:List VB)(Lr:List (List Int×LV))(fr:Frm)(s:St):Prop:=
 fr 3=.mp M∧(Lr.map (·.1)).Nodup∧(∀ e∈Lr,∃ p∈L,e=([p.1],.ms p.2 0 (nbH p.1 H).length))∧s.H M=.frz false [.u32] (fI H L)∧M<s.next∧aB st0 s∧
 ∀ p∈L,p.2<s.next∧∃ c,s.H p.2=.box 34 1 (us c)∧c.Perm (nbH p.1 H)∧([p.1]∉Lr.map (·.1)→c.Pairwise (·≤·))
def NrI(st0:St)(S:List Ed)(M k:Nat)(H:List (Int×Int))(fr:Frm)(s:St):Prop:=
 fr 3=.mp M∧fr 17=.sl 0 S.length (eds S)∧fr 18=i S.length∧fr 19=i k∧st0.next≤M∧M<s.next∧aB st0 s∧∃ L,NbM H st0.next M L s
theorem aFt(v:Int):∀(l:List Ed),(∀ x∈l,x.a≠x.b)→(nbH v (hfs l)).length≤l.length
 |[],_=>by simp[hfs,nbH]
 |x::l,h=>by
  have ih:=aFt v l fun y hy=>h y (List.mem_cons_of_mem _ hy)
  have hx:=h x (by simp)
  have e:nbH v (hfs (x::l))=nbH v [(x.a,x.b),(x.b,x.a)]++nbH v (hfs l):=by
   simp only[hfs,List.flatMap_cons]
   unfold nbH
   rw[List.filter_append,List.map_append]
  rw[e,List.length_append,List.length_cons]
  have:(nbH v [(x.a,x.b),(x.b,x.a)]).length≤1:=by
   unfold nbH
   by_cases h1:x.a=v
   ·have h2:¬x.b=v:=fun e=>hx (by rw[h1,e])
    simp[h1,h2]
   ·by_cases h2:x.b=v<;>simp[h1,h2]
  omega
set_option maxHeartbeats 2000000 in
theorem aLZ(g:Gr)(st:St)(hv:g.vs.length≤1048576)(he:g.es.length≤10)(hlo:∀ x∈g.es,x.a≠x.b)(hp:0<st.next):
 aF Tryz.prog 91 [.ag (grL g)] st fun r st'=>∃ m L,r=.mp m∧st.next≤m∧m<st'.next∧aB st st'∧st'.H m=.map false [.u32] (aDb L)∧(∀ p∈L,st.next≤p.2.1∧st'.H p.2.1=.box 34 1 p.2.2)∧(L.map fun p=>p.2.1).Nodup∧
  ∃ K:List Int,K.Nodup∧(∀ v,nbH v (hfs (sE g.es))≠[]↔v∈K)∧L.map (fun p=>(p.1,p.2.2))=K.map fun v=>([v],us (dG g.es v)):=by
 have hel:=aO (sE g.es)
 have hsl:=xO g.es
 refine qO aK Tryz.func91 rfl rfl Tryz.ntmps91 (rs:=[.tmp 2]) rfl (by simp) ?_
 (repeat' (first|refine qS ?_|(refine w_e [] ?_;intro J hJ;simp only[];simp[];(try (refine hJ _ _ ?_;clear hJ J;simp only[ak,reduceIte])))))
 refine qE (aKg g _ hv (by omega) (by simp)) (by simp) ?_;rintro r s1 ⟨rfl,hk1⟩
 have hn1:=hk1.next
 simp only[aA]at hn1
 have hkp1:aB st s1:=((aB.new _ _).trans (aB.new _ _)).trans hk1
 have hm1:s1.H (st.next+1)=.map false [.u32] []:=by rw[hk1.H _ (by simp)];simp
 have e1:¬st.next+1=s1.next:=by omega
 generalize hbl:(bnd g.es).length=bl
 generalize hbc:((bnd g.es).map fun l=>LV.sl 0 l.length (us l))=bc
 (repeat' (first|refine qS ?_|refine qB ?_|((first|(refine w_e [] ?_;intro J hJ;simp only[])|(refine aL ?_));simp[hel];(refine hJ _ _ ?_;clear hJ J;simp only[ak,reduceIte]))))
 refine qL (fun n fr s=>∃ k:Nat,k≤(sE g.es).length∧n=(sE g.es).length-k∧NrI st (sE g.es) (st.next+1) k (hfs ((sE g.es).take k)) fr s) (sE g.es).length ?_ ?_
 ·refine⟨0,by omega,by omega,by simp,by simp,by simp,by simp,by omega,by simp;omega,(hkp1.trans (aB.new _ _)),[],?_⟩
  exact⟨by simp[e1,hm1,fI],by simp,by simp,by simp,by simp[hfs,nbH]⟩
 rintro n fr s ⟨k,hk,rfl,f3,f17,f18,f19,hM1,hM2,hkp,L,hNb⟩ JJ hJJ
 generalize hMM:st.next+1=M at *
 by_cases hlt:k<(sE g.es).length
 rotate_left
 ·clear hJJ
  have hk':k=(sE g.es).length:=by omega
  rw[hk',List.take_length]at hNb
  refine qS ?_
  (refine w_e [] ?_;intro J hJ;simp only[];simp[f18,f19,hlt];(refine hJ _ _ ?_;clear hJ J;simp only[ak,reduceIte]))
  refine qS ?_
  (refine qC ?_;simp[])
  refine qX ?_;simp only[ak,reduceIte]
  have hHl:(hfs (sE g.es)).length≤2000:=by rw[aBR];omega
  have hfew:=fun v=>aFt v (sE g.es) fun x hx=>hlo x (yW _ x hx)
  generalize hHH:hfs (sE g.es)=H at *
  refine qS ?_
  refine aAL aK [] (SoI st H M L) (by simp[f3]) hNb.hm ?_ ?_ ?_ Tryz.underlying59
  ·intro r
   refine⟨by simp[f3],?_,?_,by simp,by simp;omega,hkp.set hM1 _,fun p hp=>?_⟩
   ·have:=hNb.kd
    rw[fI,List.map_map]
    have e:L.map ((fun x=>x.1)∘fun p:VB=>(([p.1],LV.ms p.2 0 (nbH p.1 H).length):List Int×LV))=(L.map (·.1)).map fun v=>[v]:=by rw[List.map_map];rfl
    rw[e]
    exact this.map (fun v=>[v]) fun a b hab h=>hab (by simpa using h)
   ·intro e hee
    obtain⟨p,hp,rfl⟩:=List.mem_map.1 hee
    exact⟨p,hp,rfl⟩
   ·obtain⟨h1,h2,h3⟩:=hNb.bx p hp
    have h4:¬p.2=M:=bK h3 hNb.hm (by simp)
    refine⟨by simp;exact h2,nbH p.1 H,by rw[aE,if_neg h4];exact h3,.refl _,fun h=>absurd (List.mem_map.2 ⟨_,List.mem_map.2 ⟨p,hp,rfl⟩,rfl⟩) h⟩
  ·rintro r L1 e L2 fr s2 ⟨F3,hnd,hem,hMd,hMl,hK2,hbx⟩ ft J hJ
   obtain⟨p,hp,rfl⟩:=hem e (by simp)
   obtain⟨v,q⟩:=p
   obtain⟨hql,c,hcH,hcp,-⟩:=hbx (v,q) hp
   have hcl:c.length=(nbH v H).length:=hcp.length_eq
   have hnl:=uX v H
   simp only at hcl hcH hql hcp
   have hsort:=aMH c q s2 (by have:=hfew v;omega) hql hcH
   rw[hcl]at hsort
   refine aL ?_
   simp[aBt,mkC]
   (repeat' (refine w_e [] ?_;intro J hJ;simp only[];simp[]))
   refine qE (hsort) (by simp[]) ?_;rintro r st' ⟨d,hd1,hd2,hd3,hd4⟩
   (repeat' (refine aL ?_;simp[];(refine hJ _ _ ?_;clear hJ J;simp only[ak,reduceIte])))
   rw[List.map_append,List.map_cons,List.nodup_append,List.nodup_cons]at hnd
   obtain⟨nd1,⟨nd2,nd3⟩,nd4⟩:=hnd
   have hMq:¬M=q:=fun h=>by rw[h,hcH]at hMd;cases hMd
   refine hJ _ _ ⟨by simp[F3],?_,fun e he=>hem e (by simp only[List.mem_append,List.mem_cons]at he ⊢;rcases he with h|h;exact .inl h;exact .inr (.inr h)),by rw[hd4.2 M hMq hMl];exact hMd,Nat.lt_of_lt_of_le hMl hd4.1,?_,fun p hp2=>?_⟩ (by simp[ft]) (by rw[hd4.2 M hMq hMl];exact hMd)
   ·rw[List.map_append,List.nodup_append]
    exact⟨nd1,nd3,fun a ha b hb=>nd4 a ha b (List.mem_cons_of_mem _ hb)⟩
   ·have hq0:st.next≤q:=(hNb.bx (v,q) hp).1
    exact⟨Nat.le_trans hK2.next hd4.1,fun l hl=>by rw[hd4.2 l (by omega) (Nat.lt_of_lt_of_le hl hK2.next)];exact hK2.H l hl⟩
   ·obtain⟨h1,c2,h2,h3,h4⟩:=hbx p hp2
    by_cases hpq:p.2=q
    ·obtain rfl:p=(v,q):=by
      exact jI hNb.nd hp2 hp hpq
     exact⟨Nat.lt_of_lt_of_le h1 hd4.1,d,hd1,hd2.trans hcp,fun _=>hd3⟩
    ·refine⟨Nat.lt_of_lt_of_le h1 hd4.1,c2,by rw[hd4.2 _ hpq h1];exact h2,h3,fun hno=>h4 fun hin=>hno ?_⟩
     rw[List.map_append,List.map_cons,List.mem_append,List.mem_cons]at hin
     rw[List.map_append,List.mem_append]
     rcases hin with h|h|h
     ·exact .inl h
     ·exfalso
      simp at h
      have e2:=jI hNb.kd hp2 hp h
      exact hpq (by rw[e2])
     ·exact .inr h
  ·rintro fr s2 ⟨F3,-,-,hMd,hMl,hK2,hbx⟩
   simp only[ak]
   have hnl:∀ v,(us (dG g.es v)).length=(nbH v H).length:=fun v=>by
    rw[List.length_map,← hHH];exact(pO _).length_eq
   (repeat' (first|refine qS ?_|(refine qR ?_;simp only[ak,reduceIte];simp[F3])|(refine w_e [] ?_;intro J hJ;simp only[];simp[F3];(refine hJ _ _ ?_;clear hJ J;simp only[ak,reduceIte]))))
   refine⟨hM1,by omega,hK2.set hM1 _,L.map fun p=>([p.1],p.2,us (dG g.es p.1)),?_,?_,?_,L.map (·.1),hNb.kd,?_,?_⟩
   ·congr 1
    rw[aDb,List.map_map,fI]
    refine List.map_congr_left fun p _=>?_
    simp only[Function.comp,hnl]
   ·intro a q b hin
    obtain⟨p,hp,he⟩:=List.mem_map.1 hin
    injection he with e1 e2
    injection e2 with e2 e3
    subst e1 e2 e3
    obtain⟨h1,c,h2,h3,h4⟩:=hbx p hp
    have h5:¬p.2=M:=fun h=>by rw[h,hMd]at h2;cases h2
    rw[if_neg h5]
    refine⟨(hNb.bx p hp).1,?_⟩
    rw[h2,aNv h3 (h4 (by simp)),← hHH];rfl
   ·have:=hNb.nd
    rw[List.map_map];exact this
   ·intro v
    exact hNb.all v
   ·rw[List.map_map,List.map_map];rfl
 have hd:=bE (sE g.es) k hlt
 have hw:=qN k (by omega)
 have hk3:k*3<(sE g.es).length*3:=by omega
 have htk1:(sE g.es).take (k+1)=(sE g.es).take k++[(sE g.es).getD k ed0]:=by
  rw[List.getD_eq_getElem?_getD,List.getElem?_eq_getElem hlt];exact List.take_succ_eq_append_getElem hlt
 have hEl:(hfs ((sE g.es).take k)).length≤2000:=by rw[aBR,List.length_take];omega
 generalize (sE g.es).getD k ed0=x at *
 have hH2:hfs ((sE g.es).take (k+1))=hfs ((sE g.es).take k)++[(x.a,x.b)]++[(x.b,x.a)]:=by rw[htk1,aJx]
 obtain⟨id,a,b⟩:=x
 simp only at hd hH2
 generalize hfs ((sE g.es).take k)=H at *
 have b0:¬s.next=M:=by omega
 (repeat' (first|refine qS ?_|refine qB ?_|(refine qK ?_;simp only[ak,reduceIte])|(refine qC ?_;simp[f17,f18,f19,hlt,hd,hel,hk3])|(refine w_e [] ?_;intro J hJ;simp only[];simp[f17,f18,f19,hlt,hd,hel,hk3];(refine hJ _ _ ?_;clear hJ J;simp only[ak,reduceIte]))))
 refine aHU (fun f s'=>NrI st (sE g.es) M k H f s'∧f 7=.pt s.next 0∧s.next<s'.next∧s'.H s.next=.box 56 3 [u id,u a,u b]) ?_ ?_
 ·exact⟨⟨by simp[f3],by simp[f17],by simp[f18],by simp[f19],hM1,by simp;omega,hkp.trans (aB.new _ _),L,hNb.keeps (aB.new _ _) hM2⟩,by simp,by simp,by simp⟩
 generalize s.next=X at *
 clear hNb hkp hM1 hM2 f19 f18 f17 f3 L
 rintro fr s ⟨⟨f3,f17,f18,f19,hM1,hM2,hkp,L,hNb⟩,f7,hXl,hX⟩
 refine aDQ (fun f s'=>NrI st (sE g.es) M k (H++[(a,b)]) f s'∧f 7=.pt X 0∧X<s'.next∧s'.H X=.box 56 3 [u id,u a,u b]) ?_ ?_
 ·clear hJJ
  have hMl:=hNb.hm
  have x1:¬X=M:=bK hX hMl (by simp)
  have x2:¬M=X:=fun h=>x1 h.symm
  have x3:¬X=s.next:=by omega
  have x4:¬X=s.next+1:=by omega
  have y3:¬M=s.next:=by omega
  have y4:¬M=s.next+1:=by omega
  have y5:¬s.next=M:=by omega
  have y6:¬s.next+1=M:=by omega
  have hnl:=uX a (H)
  by_cases hin:a∈L.map (·.1)
  ·obtain⟨p,hp,rfl⟩:=List.mem_map.1 hin
   obtain⟨v,q⟩:=p
   obtain⟨L1,L2,rfl⟩:=List.append_of_mem hp
   have kd:=hNb.kd
   rw[List.map_append,List.map_cons,List.nodup_append]at kd
   have hget:=rR (H:=H) (q:=q) (L1:=L1) (L2:=L2) (v:=v) (fun e=>kd.2.2 v e v (by simp) rfl)
   obtain⟨q1,q2,q3⟩:=hNb.bx (v,q) (by simp)
   simp only at q1 q2 q3 hnl
   have z1:¬q=M:=bK q3 hMl (by simp)
   have z2:¬q=s.next:=by omega
   have z3:¬q=s.next+1:=by omega
   have z4:¬X=q:=bK hX q3 (by simp)
   have z5:¬M=q:=fun h=>z1 h.symm
   have z6:List.take (nbH v (H)).length (us (nbH v (H)))=us (nbH v (H)):=List.take_of_length_le (by simp)
   have put:=hNb.put (b:=b) (q':=s.next+1) (s':=(((s.new (.own 34 1 1)).set q .dead).new (.box 34 1 (us (nbH v (H)++[b])))).set M (.map false [.u32] (aS (fI (H) (L1++(v,q)::L2)) [v] (.ms (s.next+1) 0 (nbH v (H)++[b]).length)))) ⟨by omega,by omega,by simp⟩ (by simp) (by(repeat (first|rw[aG,if_neg (α:=aD) (by(try simp only[aC,aA]);omega)]|rw[aE,if_neg (α:=aD) (by omega)]|rw[aG,if_pos (α:=aD) (by(try simp only[aC,aA]))]|rw[aE,if_pos (α:=aD) (by omega)]))) (fun p hp h1 h2=>by
    have:=hNb.bx p (by rcases hp with hp|hp<;>simp[hp])
    have h3:¬p.2=M:=bK this.2.2 hMl (by simp)
    (repeat (first|rw[aG,if_neg (α:=aD) (by(try simp only[aC,aA]);omega)]|rw[aE,if_neg (α:=aD) (by omega)]|rw[aG,if_pos (α:=aD) (by(try simp only[aC,aA]))]|rw[aE,if_pos (α:=aD) (by omega)]))) (by simp;omega)
   generalize hF:nbH v (H)=F at *
   generalize hN:fI (H) (L1++(v,q)::L2)=EM at *
   (refine w_s [33] [X,M] [(0,true),(1,true),(2,true),(3,true),(4,true),(5,true),(6,true),(7,true),(8,true),(9,true),(10,true),(11,false)] ?_;intro J hJ;simp[f3,f7,hX,hMl,x1,x2,x3,x4,y3,y4,y5,y6,hget,q3,z1,z2,z3,z4,z5,z6];(repeat refine ca ?_);(refine hJ _ _ ?_;clear hJ J;simp only[ak,reduceIte]))
   refine⟨by trivial,⟨by simp[f3],by simp[f17],by simp[f18],by simp[f19],hM1,by simp;omega,?_,L1++(v,s.next+1)::L2,?_⟩,by simp[f7],by simp;omega,?_⟩
   ·refine⟨by have:=hkp.next;simp;omega,fun l hl=>?_⟩
    have:=hkp.next
    (repeat (first|rw[aG,if_neg (α:=aD) (by(try simp only[aC,aA]);omega)]|rw[aE,if_neg (α:=aD) (by omega)]|rw[aG,if_pos (α:=aD) (by(try simp only[aC,aA]))]|rw[aE,if_pos (α:=aD) (by omega)]));exact hkp.H l hl
   ·simpa using put
   ·(repeat (first|rw[aG,if_neg (α:=aD) (by(try simp only[aC,aA]);omega)]|rw[aE,if_neg (α:=aD) (by omega)]|rw[aG,if_pos (α:=aD) (by(try simp only[aC,aA]))]|rw[aE,if_pos (α:=aD) (by omega)]));exact hX
  ·have hget:=rN (H:=H) hin
   have hnil:nbH a (H)=[]:=by
    cases hc:nbH a (H) with
    |nil=>rfl
    |cons _ _=>exact absurd ((hNb.all _).1 (by rw[hc];simp)) hin
   have put:=hNb.add (a:=a) (b:=b) (q':=s.next+1) (s':=((s.new (.own 34 1 1)).new (.box 34 1 (us (nbH a (H)++[b])))).set M (.map false [.u32] (aS (fI (H) L) [a] (.ms (s.next+1) 0 (nbH a (H)++[b]).length)))) hin ⟨by omega,by omega,by simp⟩ (by simp) (by(repeat (first|rw[aG,if_neg (α:=aD) (by(try simp only[aC,aA]);omega)]|rw[aE,if_neg (α:=aD) (by omega)]|rw[aG,if_pos (α:=aD) (by(try simp only[aC,aA]))]|rw[aE,if_pos (α:=aD) (by omega)]))) (fun p hp=>by
    have:=hNb.bx p hp
    have h3:¬p.2=M:=bK this.2.2 hMl (by simp)
    (repeat (first|rw[aG,if_neg (α:=aD) (by(try simp only[aC,aA]);omega)]|rw[aE,if_neg (α:=aD) (by omega)]|rw[aG,if_pos (α:=aD) (by(try simp only[aC,aA]))]|rw[aE,if_pos (α:=aD) (by omega)]))) (by simp only[aC,aA];omega)
   rw[hnil]at put
   generalize hN:fI (H) L=EM at *
   (refine w_s [33] [X,M] [(0,true),(1,true),(2,true),(3,true),(4,true),(5,true),(6,true),(7,true),(8,true),(9,true),(10,true),(11,false)] ?_;intro J hJ;simp[f3,f7,hX,hMl,x1,x2,x3,x4,y3,y4,y5,y6,hget];(repeat refine ca ?_);(refine hJ _ _ ?_;clear hJ J;simp only[ak,reduceIte]))
   refine⟨by trivial,⟨by simp[f3],by simp[f17],by simp[f18],by simp[f19],hM1,by simp;omega,?_,L++[(a,s.next+1)],?_⟩,by simp[f7],by simp;omega,?_⟩
   ·refine⟨by have:=hkp.next;simp;omega,fun l hl=>?_⟩
    have:=hkp.next
    (repeat (first|rw[aG,if_neg (α:=aD) (by(try simp only[aC,aA]);omega)]|rw[aE,if_neg (α:=aD) (by omega)]|rw[aG,if_pos (α:=aD) (by(try simp only[aC,aA]))]|rw[aE,if_pos (α:=aD) (by omega)]));exact hkp.H l hl
   ·simpa using put
   ·(repeat (first|rw[aG,if_neg (α:=aD) (by(try simp only[aC,aA]);omega)]|rw[aE,if_neg (α:=aD) (by omega)]|rw[aG,if_pos (α:=aD) (by(try simp only[aC,aA]))]|rw[aE,if_pos (α:=aD) (by omega)]));exact hX
 clear hNb hkp hM1 hM2 f19 f18 f17 f3 f7 hXl hX L
 rintro fr s ⟨⟨f3,f17,f18,f19,hM1,hM2,hkp,L,hNb⟩,f7,hXl,hX⟩
 have hEl2:(H++[(a,b)]).length≤2001:=by rw[List.length_append];simp only[List.length_cons,List.length_nil];omega
 generalize H++[(a,b)]=H2 at *
 refine wA (fun f s'=>NrI st (sE g.es) M k (H2++[(b,a)]) f s'∧f 7=.pt X 0∧X<s'.next∧s'.H X=.box 56 3 [u id,u a,u b]) ?_ ?_
 ·clear hJJ
  have hMl:=hNb.hm
  have x1:¬X=M:=bK hX hMl (by simp)
  have x2:¬M=X:=fun h=>x1 h.symm
  have x3:¬X=s.next:=by omega
  have x4:¬X=s.next+1:=by omega
  have y3:¬M=s.next:=by omega
  have y4:¬M=s.next+1:=by omega
  have y5:¬s.next=M:=by omega
  have y6:¬s.next+1=M:=by omega
  have hnl:=uX b (H2)
  by_cases hin:b∈L.map (·.1)
  ·obtain⟨p,hp,rfl⟩:=List.mem_map.1 hin
   obtain⟨v,q⟩:=p
   obtain⟨L1,L2,rfl⟩:=List.append_of_mem hp
   have kd:=hNb.kd
   rw[List.map_append,List.map_cons,List.nodup_append]at kd
   have hget:=rR (H:=H2) (q:=q) (L1:=L1) (L2:=L2) (v:=v) (fun e=>kd.2.2 v e v (by simp) rfl)
   obtain⟨q1,q2,q3⟩:=hNb.bx (v,q) (by simp)
   simp only at q1 q2 q3 hnl
   have z1:¬q=M:=bK q3 hMl (by simp)
   have z2:¬q=s.next:=by omega
   have z3:¬q=s.next+1:=by omega
   have z4:¬X=q:=bK hX q3 (by simp)
   have z5:¬M=q:=fun h=>z1 h.symm
   have z6:List.take (nbH v (H2)).length (us (nbH v (H2)))=us (nbH v (H2)):=List.take_of_length_le (by simp)
   have put:=hNb.put (b:=a) (q':=s.next+1) (s':=(((s.new (.own 34 1 1)).set q .dead).new (.box 34 1 (us (nbH v (H2)++[a])))).set M (.map false [.u32] (aS (fI (H2) (L1++(v,q)::L2)) [v] (.ms (s.next+1) 0 (nbH v (H2)++[a]).length)))) ⟨by omega,by omega,by simp⟩ (by simp) (by(repeat (first|rw[aG,if_neg (α:=aD) (by(try simp only[aC,aA]);omega)]|rw[aE,if_neg (α:=aD) (by omega)]|rw[aG,if_pos (α:=aD) (by(try simp only[aC,aA]))]|rw[aE,if_pos (α:=aD) (by omega)]))) (fun p hp h1 h2=>by
    have:=hNb.bx p (by rcases hp with hp|hp<;>simp[hp])
    have h3:¬p.2=M:=bK this.2.2 hMl (by simp)
    (repeat (first|rw[aG,if_neg (α:=aD) (by(try simp only[aC,aA]);omega)]|rw[aE,if_neg (α:=aD) (by omega)]|rw[aG,if_pos (α:=aD) (by(try simp only[aC,aA]))]|rw[aE,if_pos (α:=aD) (by omega)]))) (by simp;omega)
   generalize hF:nbH v (H2)=F at *
   generalize hN:fI (H2) (L1++(v,q)::L2)=EM at *
   (refine w_s [44] [X,M] [(0,true),(1,true),(2,true),(3,true),(4,true),(5,true),(6,true),(7,true),(8,true),(9,true),(10,true),(11,false)] ?_;intro J hJ;simp[f3,f7,hX,hMl,x1,x2,x3,x4,y3,y4,y5,y6,hget,q3,z1,z2,z3,z4,z5,z6];(repeat refine ca ?_);(refine hJ _ _ ?_;clear hJ J;simp only[ak,reduceIte]))
   refine⟨by trivial,⟨by simp[f3],by simp[f17],by simp[f18],by simp[f19],hM1,by simp;omega,?_,L1++(v,s.next+1)::L2,?_⟩,by simp[f7],by simp;omega,?_⟩
   ·refine⟨by have:=hkp.next;simp;omega,fun l hl=>?_⟩
    have:=hkp.next
    (repeat (first|rw[aG,if_neg (α:=aD) (by(try simp only[aC,aA]);omega)]|rw[aE,if_neg (α:=aD) (by omega)]|rw[aG,if_pos (α:=aD) (by(try simp only[aC,aA]))]|rw[aE,if_pos (α:=aD) (by omega)]));exact hkp.H l hl
   ·simpa using put
   ·(repeat (first|rw[aG,if_neg (α:=aD) (by(try simp only[aC,aA]);omega)]|rw[aE,if_neg (α:=aD) (by omega)]|rw[aG,if_pos (α:=aD) (by(try simp only[aC,aA]))]|rw[aE,if_pos (α:=aD) (by omega)]));exact hX
  ·have hget:=rN (H:=H2) hin
   have hnil:nbH b (H2)=[]:=by
    cases hc:nbH b (H2) with
    |nil=>rfl
    |cons _ _=>exact absurd ((hNb.all _).1 (by rw[hc];simp)) hin
   have put:=hNb.add (a:=b) (b:=a) (q':=s.next+1) (s':=((s.new (.own 34 1 1)).new (.box 34 1 (us (nbH b (H2)++[a])))).set M (.map false [.u32] (aS (fI (H2) L) [b] (.ms (s.next+1) 0 (nbH b (H2)++[a]).length)))) hin ⟨by omega,by omega,by simp⟩ (by simp) (by(repeat (first|rw[aG,if_neg (α:=aD) (by(try simp only[aC,aA]);omega)]|rw[aE,if_neg (α:=aD) (by omega)]|rw[aG,if_pos (α:=aD) (by(try simp only[aC,aA]))]|rw[aE,if_pos (α:=aD) (by omega)]))) (fun p hp=>by
    have:=hNb.bx p hp
    have h3:¬p.2=M:=bK this.2.2 hMl (by simp)
    (repeat (first|rw[aG,if_neg (α:=aD) (by(try simp only[aC,aA]);omega)]|rw[aE,if_neg (α:=aD) (by omega)]|rw[aG,if_pos (α:=aD) (by(try simp only[aC,aA]))]|rw[aE,if_pos (α:=aD) (by omega)]))) (by simp only[aC,aA];omega)
   rw[hnil]at put
   generalize hN:fI (H2) L=EM at *
   (refine w_s [44] [X,M] [(0,true),(1,true),(2,true),(3,true),(4,true),(5,true),(6,true),(7,true),(8,true),(9,true),(10,true),(11,false)] ?_;intro J hJ;simp[f3,f7,hX,hMl,x1,x2,x3,x4,y3,y4,y5,y6,hget];(repeat refine ca ?_);(refine hJ _ _ ?_;clear hJ J;simp only[ak,reduceIte]))
   refine⟨by trivial,⟨by simp[f3],by simp[f17],by simp[f18],by simp[f19],hM1,by simp;omega,?_,L++[(b,s.next+1)],?_⟩,by simp[f7],by simp;omega,?_⟩
   ·refine⟨by have:=hkp.next;simp;omega,fun l hl=>?_⟩
    have:=hkp.next
    (repeat (first|rw[aG,if_neg (α:=aD) (by(try simp only[aC,aA]);omega)]|rw[aE,if_neg (α:=aD) (by omega)]|rw[aG,if_pos (α:=aD) (by(try simp only[aC,aA]))]|rw[aE,if_pos (α:=aD) (by omega)]));exact hkp.H l hl
   ·simpa using put
   ·(repeat (first|rw[aG,if_neg (α:=aD) (by(try simp only[aC,aA]);omega)]|rw[aE,if_neg (α:=aD) (by omega)]|rw[aG,if_pos (α:=aD) (by(try simp only[aC,aA]))]|rw[aE,if_pos (α:=aD) (by omega)]));exact hX
 clear hNb hkp hM1 hM2 f19 f18 f17 f3 f7 hXl hX L
 rintro fr s ⟨⟨f3,f17,f18,f19,hM1,hM2,hkp,L,hNb⟩,f7,hXl,hX⟩
 simp only[ak]
 (repeat' (refine w_e [] ?_;intro J hJ;simp only[];simp[f19,hw];(refine hJ _ _ ?_;clear hJ J;simp only[ak,reduceIte])))
 exact hJJ ((sE g.es).length-(k+1)) _ _ (by omega) ⟨k+1,by omega,rfl,by simp[f3],by simp[f17],by simp[f18],by simp,hM1,hM2,hkp,L,by rw[hH2];exact hNb⟩
def aNN(es:List Ed)(v:Int):Option LV:=if dG es v=[]then none else some (.sl 0 (dG es v).length (us (dG es v)))
theorem zV{es:List Ed}(v:Int):∀ {K:List Int},aR (K.map fun v=>(([v],.sl 0 (dG es v).length (us (dG es v))):List Int×LV)) [v]=if v∈K then some (.sl 0 (dG es v).length (us (dG es v)))else none
 |[]=>rfl
 |k::K=>by
  simp only[List.map_cons,aR]
  by_cases h:v=k
  ·subst h;simp
  ·have h':¬([v]==[k])=true:=by simpa using h
   rw[if_neg h',zV v (K:=K)]
   simp[h]
theorem aNX(g:Gr)(st:St)(hv:g.vs.length≤1048576)(he:g.es.length≤10)(hlo:∀ x∈g.es,x.a≠x.b)(hp:0<st.next):
 aF Tryz.prog 91 [.ag (grL g)] st fun r st'=>∃ m es,r=.mp m∧st.next≤m∧m<st'.next∧aB st st'∧st'.H m=.map false [.u32] es∧∀ v,aR es [v]=aNN g.es v:=by
 refine(vV (R:=fun L=>∃ K:List Int,K.Nodup∧(∀ v,nbH v (hfs (sE g.es))≠[]↔v∈K)∧L.map (fun p=>(p.1,p.2.2))=K.map fun v=>([v],us (dG g.es v))) (aLZ g st hv he hlo hp)).mono ?_
 rintro r st' ⟨m,L,rfl,h1,h2,h3,h4,K,hK,hall,hL⟩
 refine⟨m,_,rfl,h1,h2,h3,h4,fun v=>?_⟩
 have e:aCg L=K.map fun v=>([v],.sl 0 (dG g.es v).length (us (dG g.es v))):=by
  have e1:aCg L=(L.map fun p=>(p.1,p.2.2)).map fun p=>(p.1,LV.sl 0 p.2.length p.2):=by rw[List.map_map];rfl
  rw[e1,hL,List.map_map]
  refine List.map_congr_left fun v _=>?_
  simp
 rw[e,zV]
 unfold aNN
 have hn:dG g.es v=[]↔nbH v (hfs (sE g.es))=[]:=by
  have:=(pO (nbH v (hfs (sE g.es)))).length_eq
  unfold dG
  constructor
  ·intro h;rw[h]at this;exact List.eq_nil_of_length_eq_zero this.symm
  ·intro h;rw[h];rfl
 by_cases hv:v∈K
 ·rw[if_pos hv,if_neg (fun h=>(hall v).2 hv (hn.1 h))]
 ·rw[if_neg hv]
  split
  ·rfl
  ·rename_i h
   exact absurd ((hall v).1 fun h2=>h (hn.2 h2)) hv
def nX(A:Led):List (List Int×LV):=A.map fun p=>([p.1],u p.2)
theorem aCy(A:Led)(v:Int):aR (nX A) [v]=(lF A v).map u:=by
 induction A with
 |nil=>rfl
 |cons p A ih=>
  simp only[nX,List.map_cons,aR,lF]at ih ⊢
  by_cases h:v=p.1
  ·subst h;simp
  ·rw[if_neg (by simpa using h),if_neg h];exact ih
theorem aKf{A:Led}{v w:Int}(h:v∉A.map (·.1)):aS (nX A) [v] (u w)=nX (A++[(v,w)]):=by
 induction A with
 |nil=>rfl
 |cons p A ih=>
  simp only[List.map_cons,List.mem_cons,not_or]at h
  have ih:=ih h.2
  simp only[nX,List.map_cons,List.cons_append,aS]at ih ⊢
  rw[if_neg (by simpa using h.1),ih]
theorem back(A:Led)(ma:Nat)(from' to:Int)(n:Nat)(l:List Int)(st:St)(hn:n≤100000)(hl:mI A from' n to=some l)(hm:ma<st.next)(hH:st.H ma=.map false [.u32] (nX A)):
 aF Tryz.prog 163 [.mp ma,u from',u to] st fun r st'=>r=.sl 0 (to::l).reverse.length (us (to::l).reverse)∧aB st st':=by
 have hll:=aAa hl
 refine bV ?_
 refine qO aK Tryz.func163 rfl rfl Tryz.ntmps163 (rs:=[.tmp 6]) rfl (by simp) ?_
 (repeat' (first|refine qS ?_|refine qB ?_|(refine w_e [10] ?_;intro J hJ;simp only[];simp[];(refine hJ _ _ ?_;clear hJ J;simp only[ak,reduceIte]))))
 refine qL (fun k fr s=>∃(v:Int) (W R:List Int),mI A from' k v=some R∧to::l=W++R∧k≤n∧W.length+k≤n+1∧fr 0=.mp ma∧fr 1=u from'∧fr 8=u v∧∃ q,fr 7=.ms q 0 W.length∧s.H q=.box 34 1 (us W)∧st.next≤q∧q<s.next∧aB st s) n ?_ ?_
 ·exact⟨to,[to],l,hl,rfl,by omega,by simp;omega,by simp,by simp,by simp,st.next,by simp,by simp,Nat.le_refl _,by simp,aB.new _ _⟩
 rintro k fr s ⟨v,W,R,hb,hW,hk,hWk,f0,f1,f8,q,f7,hq,hq0,hql,hkp⟩ JJ hJJ
 have hHs:s.H ma=.map false [.u32] (nX A):=by rw[hkp.H ma hm];exact hH
 have hg:=aCy A v
 by_cases hv:v=from'
 ·clear hJJ
  have hR:R=[]:=by
   cases k<;>(simp only[mI,if_pos hv,Option.some.injEq]at hb;exact hb.symm)
  subst hR
  rw[List.append_nil]at hW
  have hv2:(v != from')=false:=by simpa using hv
  (repeat' (first|refine qS ?_|(refine qX ?_;simp only[ak,reduceIte])|(refine qC ?_;simp[f1,f8,hv,hv2,f7])|(refine w_e [] ?_;intro J hJ;simp only[];simp[f1,f8,hv,hv2,f7];(try (refine hJ _ _ ?_;clear hJ J;simp only[ak,reduceIte])))))
  refine qE (uO W q s (by unfold small;omega) hq) (by simp[]) ?_;rintro r st' rfl
  (repeat' (first|refine qS ?_|(refine qR ?_;simp only[ak,reduceIte];simp[f7])|((first|(refine w_e [] ?_;intro J hJ;simp only[])|(refine aL ?_));simp[f7];(refine hJ _ _ ?_;clear hJ J;simp only[ak,reduceIte]))))
  exact⟨q,W.length,⟨rfl,rfl⟩,34,1,us W.reverse,by simp,by simp,by subst hW;simp,(hkp.set hq0 _).set hq0 _⟩
 ·cases k with
  |zero=>simp only[mI,if_neg hv]at hb;cases hb
  |succ k=>
   simp only[mI,if_neg hv,Option.map_eq_some_iff]at hb
   obtain⟨R',hb,rfl⟩:=hb
   have hv2:(v != from')=true:=by simpa using hv
   have hg2:((aR (nX A) [v]).getD (u 0))=u ((lF A v).getD 0):=by rw[hg];cases lF A v<;>rfl
   generalize (lF A v).getD 0=x at *
   have q1:¬q=s.next:=by omega
   have htk:List.take W.length (us W)=us W:=List.take_of_length_le (by simp)
   (repeat' (first|refine qS ?_|refine qB ?_|(refine qK ?_;simp only[ak,reduceIte])|(refine qC ?_;simp[f0,f1,f8,hv,hv2,f7,hHs,hg2,q1,hq,htk])|(refine w_e [] ?_;intro J hJ;simp only[];simp[f0,f1,f8,hv,hv2,f7,hHs,hg2,q1,hq,htk];(repeat refine ca ?_);(refine hJ _ _ ?_;clear hJ J;simp only[ak,reduceIte]))))
   refine hJJ k _ _ (by omega) ⟨x,W++[x],R',hb,by rw[hW];simp,by omega,by simp;omega,by simp[f0],by simp[f1],by simp,s.next+1,by simp,by simp,by have:=hkp.next;omega,by simp,?_⟩
   exact(((hkp.trans (aB.new _ _)).set hq0 _).trans (aB.new _ _))
def aIv(th:LV)(may:Int→Bool)(st:St):Prop:=
 (th=.atom .nilFunc∧∀ v,may v=true)∨∃ f caps,th=.fn (.func f) caps∧caps.map norm=caps∧∀ v s,aB st s→aF Tryz.prog f (u v::caps) s fun r s'=>r=bb (may v)∧aB s s'
structure PaB(st0:St)(A:Led)(Q:List Int)(Ma Mn tq o:Nat)(es:List (List Int×LV))(s:St):Prop where
 ha:s.H Ma=.map false [.u32] (nX A)
 hn:s.H Mn=.map false [.u32] es
 hq:s.H tq=.que 34 (o+Q.length)
 b:st0.next≤Ma∧st0.next≤Mn∧st0.next≤tq∧Ma<s.next∧Mn<s.next∧tq<s.next∧tq≠0∧¬Mn=Ma
 kp:aB st0 s
set_option maxHeartbeats 4000000 in
theorem Path(g:Gr)(from' to:Int)(th:LV)(may:Int→Bool)(n:Nat)(l:List Int)(st:St)(hv:g.vs.length≤1048576)(he:g.es.length≤10)(hlo:∀ x∈g.es,x.a≠x.b)(hn:n≤1000)(hm:aIv th may st)(hl:aFM g.vs (dG g.es) may from' to n=some l):
 aF Tryz.prog 113 [.ag (grL g),u from',u to,th] st fun r st'=>r=.sl 0 l.length (us l)∧aB st st':=by
 have hth:norm th=th:=by rcases hm with⟨rfl,_⟩|⟨f,c,rfl,_,_⟩<;>rfl
 refine bR ?_
 refine qO aK Tryz.func113 rfl rfl Tryz.ntmps113 (rs:=[.tmp 8]) rfl (by simp) ?_
 refine dL fun hpos=>?_
 (repeat' (first|refine qS ?_|(refine w_e [] ?_;intro J hJ;simp only[];simp[];(try (refine hJ _ _ ?_;clear hJ J;simp only[ak,reduceIte])))))
 refine qE (aLC g from' _ hv) (by simp) ?_;rintro r s1 ⟨rfl,hk1⟩
 have hn1:=hk1.next
 simp only[aA]at hn1
 have hG1:s1.H st.next=.box 25 2 (grL g):=by rw[hk1.H _ (by simp)];simp
 have hkp1:aB st s1:=(aB.new _ _).trans hk1
 clear hk1
 unfold aFM at hl
 by_cases hf:from'∈g.vs
 rotate_left
 ·have h0:gi g.vs from' < 0:=(aBI _ _).2 hf
  rw[if_pos (.inl hf)]at hl
  injection hl with hl
  subst hl
  (refine aL ?_;simp[h0];(refine hJ _ _ ?_;clear hJ J;simp only[ak,reduceIte]))
  (repeat' (first|refine qS ?_|(refine qR ?_;simp only[ak,reduceIte];simp[])|(refine qC ?_;simp[])|(refine w_e [] ?_;intro J hJ;simp only[];simp[];(refine hJ _ _ ?_;clear hJ J;simp only[ak,reduceIte]))))
  exact⟨rfl,hkp1⟩
 have h0:¬gi g.vs from' < 0:=fun h=>(aBI _ _).1 h hf
 (refine aL ?_;simp[h0,hG1])
 refine qE (aLC g to _ hv) (by simp) ?_;rintro r s2 ⟨rfl,hk2⟩
 have hn2:=hk2.next
 have hG2:=(hk2.H st.next (by omega)).trans hG1
 have hkp2:=hkp1.trans hk2
 clear hk2 hkp1 hG1 h0
 by_cases ht:to∈g.vs
 rotate_left
 ·have h0:gi g.vs to<0:=(aBI _ _).2 ht
  rw[if_pos (.inr ht)]at hl
  injection hl with hl
  subst hl
  (refine aL ?_;simp[h0];(refine hJ _ _ ?_;clear hJ J;simp only[ak,reduceIte]))
  (repeat' (first|refine qS ?_|(refine qR ?_;simp only[ak,reduceIte];simp[])|(refine qC ?_;simp[])|(refine w_e [] ?_;intro J hJ;simp only[];simp[];(refine hJ _ _ ?_;clear hJ J;simp only[ak,reduceIte]))))
  exact⟨rfl,hkp2⟩
 have h0:¬gi g.vs to<0:=fun h=>(aBI _ _).1 h ht
 rw[if_neg (by simp[hf,ht])]at hl
 (refine aL ?_;simp[h0];(refine hJ _ _ ?_;clear hJ J;simp only[ak,reduceIte]))
 by_cases hft:from'=to
 ·rw[if_pos hft]at hl
  injection hl with hl
  subst hl
  (repeat' (first|refine qS ?_|(refine qK ?_;simp only[ak,reduceIte])|(refine qR ?_;simp only[ak,reduceIte];simp[hft])|(refine qC ?_;simp[hft])|(refine w_e [] ?_;intro J hJ;simp only[];simp[hft];(refine hJ _ _ ?_;clear hJ J;simp only[ak,reduceIte]))))
  refine⟨by simp[z0,z0L,hft],hkp2.trans (aB.new _ _)⟩
 rw[if_neg hft]at hl
 (repeat' (first|refine qS ?_|(refine qK ?_;simp only[ak,reduceIte])|(refine qC ?_;simp[hft,hG2])|(refine w_e [] ?_;intro J hJ;simp only[];simp[hft,hG2];(try (refine hJ _ _ ?_;clear hJ J;simp only[ak,reduceIte])))))
 refine qE (aNX g _ hv he hlo (by omega)) (by simp) ?_;rintro r s3 ⟨Mn,es,rfl,m1,m2,hk3,hMn,hes⟩
 have hn3:=hk3.next
 have hkp3:=hkp2.trans hk3
 obtain⟨R0,hbfs,hR0⟩:∃ R0,bfs (dG g.es) may to n [(from',from')] [from']=some R0∧((R0=none∧l=[])∨∃ A l',R0=some A∧mI A from' n to=some l'∧l=(to::l').reverse):=by
  cases hb:bfs (dG g.es) may to n [(from',from')] [from'] with
  |none=>rw[hb]at hl;cases hl
  |some R0=>
   rw[hb]at hl
   cases R0 with
   |none=>injection hl with hl;exact⟨_,rfl,.inl ⟨rfl,hl.symm⟩⟩
   |some A=>
    simp only[Option.map_eq_some_iff]at hl
    obtain⟨l',h1,h2⟩:=hl
    exact⟨_,rfl,.inr ⟨A,l',rfl,h1,h2.symm⟩⟩
 clear hl
 (repeat' (first|refine qS ?_|refine qB ?_|((first|(refine w_e [] ?_;intro J hJ;simp only[])|(refine aL ?_));simp[];(refine hJ _ _ ?_;clear hJ J;simp only[ak,reduceIte]))))
 refine aNc 11 (t:=s3.next+1) (n:=1) (e:=34) (cs:=[u from']) (by simp) (by simp) (by omega) (by omega) ?_
 have hc0:¬Mn=s3.next:=by omega
 have hc1:¬Mn=s3.next+1:=by omega
 refine qL (fun k fr s=>∃(A:Led) (Q:List Int) (tq o:Nat),bfs (dG g.es) may to k A Q=some R0∧k≤n∧Q.length+2000*k≤2000*n+1∧fr 1=u from'∧fr 2=u to∧fr 3=th∧fr 9=.mp Mn∧fr 10=.mp s3.next∧fr 11=.qu tq o Q.length (us Q)∧PaB st A Q s3.next Mn tq o es s) n ?_ ?_
 ·refine⟨_,_,s3.next+1,0,hbfs,Nat.le_refl _,by simp;omega,by simp,by simp,by simp,by simp,by simp,by simp,?_⟩
  refine⟨by simp[nX,aS],by simp[hc0,hc1,hMn],by simp,⟨by omega,by omega,by omega,by simp;omega,by simp;omega,by simp,by omega,hc0⟩,?_⟩
  exact(((hkp3.trans (aB.new _ _)).trans (aB.new _ _)).set (q:=s3.next+1) (by omega) _)
 generalize s3.next=Ma at *
 clear hk3 hn3 hkp3 hMn m1 m2 hG2 hkp2 hn2 hn1 hc0 hc1 hbfs
 rintro k fr s ⟨A,Q,tq,o,hb,hk,hQ,f1,f2,f3,f9,f10,f11,hPa,hPn,hPq,⟨b1,b2,b3,b4,b5,b6,b7,b8⟩,hkp⟩ JJ hJJ
 cases Q with
 |nil=>
  clear hJJ
  have h1:R0=none:=by cases k<;>(simp only[bfs,Option.some.injEq]at hb;exact hb.symm)
  subst h1
  rcases hR0 with⟨_,rfl⟩|⟨_,_,h,_⟩
  ·(repeat' (first|refine qS ?_|(refine qX ?_;simp only[ak,reduceIte])|(refine qR ?_;simp only[ak,reduceIte];simp[f11])|(refine qC ?_;simp[f11])|(refine w_e [] ?_;intro J hJ;simp only[];simp[f11];(refine hJ _ _ ?_;clear hJ J;simp only[ak,reduceIte]))))
   exact⟨rfl,hkp⟩
  ·cases h
 |cons v Q=>
 cases k with
 |zero=>simp[bfs]at hb
 |succ k=>
 have hQl:(Q.length:Int)+1 > 0:=by omega
 have hrow:=hes v
 have hrl:=aHj g.es v
 simp only[bfs]at hb
 generalize hrw:dG g.es v=row at *
 have hslc:List.take (Q.length+1-1) (us Q)=us Q:=List.take_of_length_le (by simp)
 have hbn:¬(Q.length:Int)+1≤0:=by omega
 (repeat (first|refine qS ?_|refine qB ?_))
 (refine w_e [] ?_;intro J hJ;simp only[];simp[f11,hQl];(refine hJ _ _ ?_;clear hJ J;simp only[ak,reduceIte]))
 (repeat (first|refine qS ?_|refine qB ?_))
 (refine qC ?_;simp[])
 refine qK ?_;simp only[ak]
 (repeat (first|refine qS ?_|refine qB ?_))
 (refine w_e [] ?_;intro J hJ;simp only[];simp[f11,hQl];(refine hJ _ _ ?_;clear hJ J;simp only[ak,reduceIte]))
 (repeat (first|refine qS ?_|refine qB ?_))
 (refine w_e [] ?_;intro J hJ;simp only[];simp[f11,hQl,hslc];(repeat refine ca ?_);(refine hJ _ _ ?_;clear hJ J;simp only[ak,reduceIte]))
 refine qS ?_
 refine aDQ (fun f s'=>s'=s∧f 1=u from'∧f 2=u to∧f 3=th∧f 9=.mp Mn∧f 10=.mp Ma∧f 11=.qu tq (o+1) Q.length (us Q)∧f 12=u v∧(f 50=.nil∧row=[]∨f 50=.sl 0 row.length (us row))∧f 51=i row.length∧f 52=i (0:Nat)) ?_ ?_
 ·clear hJJ
  unfold aNN at hrow
  rw[hrw]at hrow
  by_cases hr0:row=[]
  ·rw[if_pos hr0]at hrow
   (repeat' (refine w_e [] ?_;intro J hJ;simp only[];simp[f9,hPn,hrow];(refine hJ _ _ ?_;clear hJ J;simp only[ak,reduceIte])))
   simp[f1,f2,f3,f9,f10,hr0]
  ·rw[if_neg hr0]at hrow
   (repeat' (refine w_e [] ?_;intro J hJ;simp only[];simp[f9,hPn,hrow];(refine hJ _ _ ?_;clear hJ J;simp only[ak,reduceIte])))
   simp[f1,f2,f3,f9,f10]
 clear f1 f2 f3 f9 f10 f11 fr hrow
 rintro fr s' ⟨rfl,f1,f2,f3,f9,f10,f11,f12,f50,f51,f52⟩
 refine qB ?_
 refine aP 52 51 53 84 row.length (fun j fr st2=>fr 1=u from'∧fr 2=u to∧fr 3=th∧fr 9=.mp Mn∧fr 10=.mp Ma∧fr 12=u v∧(fr 50=.nil∧row=[]∨fr 50=.sl 0 row.length (us row))∧(cW may to v ⟨A,Q,false⟩ (row.take j)).hit=false∧∃ tq o,fr 11=.qu tq o (cW may to v ⟨A,Q,false⟩ (row.take j)).Q.length (us (cW may to v ⟨A,Q,false⟩ (row.take j)).Q)∧PaB st (cW may to v ⟨A,Q,false⟩ (row.take j)).A (cW may to v ⟨A,Q,false⟩ (row.take j)).Q Ma Mn tq o es st2) ?_ ?_ ?_ (hti:=f52) (htn:=f51)
 ·refine⟨f1,f2,f3,f9,f10,f12,f50,rfl,tq,o+1,f11,⟨hPa,hPn,?_,⟨b1,b2,b3,b4,b5,b6,b7,b8⟩,hkp⟩⟩
  rw[hPq]
  simp only[List.take_zero,cW,List.foldl_nil,List.length_cons]
  congr 1
  omega
 ·clear f1 f2 f3 f9 f10 f11 f12 f50 f51 f52 hPa hPn hPq b1 b2 b3 b4 b5 b6 b7 b8 hkp fr hJJ
  rintro j fr s hlt ⟨f1,f2,f3,f9,f10,f12,f50,hh,tq,o,f11,hPa,hPn,hPq,⟨b1,b2,b3,b4,b5,b6,b7,b8⟩,hkp⟩ fi fn J hJ
  have f50:fr 50=.sl 0 row.length (us row):=by
   rcases f50 with⟨_,h⟩|h
   ·rw[h]at hlt;simp at hlt
   ·exact h
  have hd:=qG row j hlt
  have htk:row.take (j+1)=row.take j++[row.getD j 0]:=by
   rw[List.getD_eq_getElem?_getD,List.getElem?_eq_getElem hlt];exact List.take_succ_eq_append_getElem hlt
  have hsc:=aEh may to v ⟨A,Q,false⟩ (row.take j) (row.getD j 0)
  rw[← htk]at hsc
  have hsl:=aAp may to v ⟨A,Q,false⟩ (row.take j)
  simp only[List.length_take]at hsl
  have hfull:(cW may to v ⟨A,Q,false⟩ (row.take (j+1))).hit=true→cW may to v ⟨A,Q,false⟩ row=cW may to v ⟨A,Q,false⟩ (row.take (j+1)):=by
   intro h
   have:row=row.take (j+1)++row.drop (j+1):=(List.take_append_drop _ _).symm
   rw[this,cW,List.foldl_append]
   have h2:=aGV may to v h (row.drop (j+1))
   simp only[cW]at h2 ⊢
   rw[h2]
   simp
  generalize row.getD j 0=x at *
  generalize hS:cW may to v ⟨A,Q,false⟩ (row.take j)=S at *
  obtain⟨SA,SQ,Sh⟩:=S
  simp only at hh f11 hPa hPq hsl
  subst hh
  have hmg:=aCy SA x
  have hqa:¬tq=Ma:=bK hPq hPa (by simp)
  have hqn:¬tq=Mn:=bK hPq hPn (by simp)
  have hqa':¬Ma=tq:=fun h=>hqa h.symm
  have hqn':¬Mn=tq:=fun h=>hqn h.symm
  by_cases hin:x∈SA.map (·.1)
  ·obtain⟨y,hy⟩:=vZ hin
   rw[hy]at hmg
   simp only[Option.map_some]at hmg
   have h1:jY may to v ⟨SA,SQ,false⟩ x=⟨SA,SQ,false⟩:=by simp[jY,hin]
   rw[h1]at hsc
   (repeat' (first|refine qS ?_|(refine qX ?_;simp only[ak,reduceIte])|(refine qC ?_;simp[f10,f50,fi,fn,hd,hlt,hPa,hmg])|(refine w_e [] ?_;intro J hJ;simp only[];simp[f10,f50,fi,fn,hd,hlt,hPa,hmg];(refine hJ _ _ ?_;clear hJ J;simp only[ak,reduceIte]))))
   refine hJ _ _ (by simp[fi]) (by simp[fn]) ⟨by simp[f1],by simp[f2],by simp[f3],by simp[f9],by simp[f10],by simp[f12],.inr (by simp[f50]),by rw[hsc],tq,o,by rw[hsc];simp[f11],by rw[hsc];exact⟨hPa,hPn,hPq,⟨b1,b2,b3,b4,b5,b6,b7,b8⟩,hkp⟩⟩
  rw[xV hin]at hmg
  simp only[Option.map_none]at hmg
  have hms:aS (nX SA) [x] (u v)=nX (SA++[(x,v)]):=aKf hin
  by_cases hxt:x=to
  ·clear hJ
   subst hxt
   have h1:jY may x v ⟨SA,SQ,false⟩ x=⟨SA++[(x,v)],SQ,true⟩:=by unfold jY;rw[if_neg (by simp),if_neg hin,if_pos rfl]
   rw[h1]at hsc
   have hf2:=hfull (by rw[hsc])
   rw[hf2,hsc]at hb
   simp only[if_true,Option.some.injEq]at hb
   subst hb
   rcases hR0 with⟨h,_⟩|⟨A2,l',h,hbk,rfl⟩
   ·cases h
   injection h with h
   subst h
   (repeat' (first|refine qS ?_|(refine qK ?_;simp only[ak,reduceIte])|(refine qC ?_;simp[f1,f2,f10,f12,f50,fi,fn,hd,hlt,hPa,hmg,hms])|(refine w_e [] ?_;intro J hJ;simp only[];simp[f1,f2,f10,f12,f50,fi,fn,hd,hlt,hPa,hmg,hms];(try (refine hJ _ _ ?_;clear hJ J;simp only[ak,reduceIte])))))
   refine qE (back (SA++[(x,v)]) Ma from' x n l' _ (by omega) hbk (by simp;exact b4) (by simp)) (by simp) ?_;rintro r s4 ⟨rfl,hk4⟩
   (repeat' (first|(refine qR ?_;simp only[ak,reduceIte];simp[])|(refine aL ?_;simp[];(refine hJ _ _ ?_;clear hJ J;simp only[ak,reduceIte]))))
   refine⟨by simp only[z0];congr 1;have:=iO (x::l').reverse;simpa using this,?_⟩
   exact(hkp.set b1 _).trans hk4
  have h1:jY may to v ⟨SA,SQ,false⟩ x=⟨SA++[(x,v)],if may x=true then SQ++[x]else SQ,false⟩:=by unfold jY;rw[if_neg (by simp),if_neg hin,if_neg hxt]
  rw[h1]at hsc
  have tn0:¬tq=s.next:=by omega
  have hQ2:SQ.length≤3000000:=by simp only[List.length_cons]at hQ;omega
  have hT2:∀ m s',s'.H Ma=.map false [.u32] (nX (SA++[(x,v)]))→s'.H Mn=.map false [.u32] es→s'.H m=.que 34 (0+(SQ++[x]).length)→st.next≤m→m<s'.next→s.next≤s'.next→aB st s'→PaB st (SA++[(x,v)]) (SQ++[x]) Ma Mn m 0 es s':=fun m s' h1 h2 h3 h4 h5 h6 h7=>⟨h1,h2,h3,⟨b1,b2,h4,by omega,by omega,h5,by omega,b8⟩,h7⟩
  have hT1:∀ s',s'.H Ma=.map false [.u32] (nX (SA++[(x,v)]))→s'.H Mn=.map false [.u32] es→s'.H tq=.que 34 (o+SQ.length)→s.next≤s'.next→aB st s'→PaB st (SA++[(x,v)]) SQ Ma Mn tq o es s':=fun s' h1 h2 h3 h6 h7=>⟨h1,h2,h3,⟨b1,b2,b3,by omega,by omega,by omega,b7,b8⟩,h7⟩
  rcases hm with⟨rfl,hm⟩|⟨f,caps,rfl,hcaps,hm⟩
  ·rw[if_pos (hm x)]at hsc
   (repeat' (first|refine qS ?_|(refine qK ?_;simp only[ak,reduceIte])|(refine qC ?_;simp[f1,f2,f3,f10,f11,f12,f50,fi,fn,hd,hlt,hPa,hmg,hms,hxt,hPq,hqa,hqn,hqa',hqn',tn0])|(refine w_e [] ?_;intro J hJ;simp only[];simp[f1,f2,f3,f10,f11,f12,f50,fi,fn,hd,hlt,hPa,hmg,hms,hxt,hPq,hqa,hqn,hqa',hqn',tn0];(repeat refine ca ?_);(refine hJ _ _ ?_;clear hJ J;simp only[ak,reduceIte]))))
   refine hJ _ _ (by simp[fi]) (by simp[fn]) ⟨by simp[f1],by simp[f2],by simp[f3],by simp[f9],by simp[f10],by simp[f12],.inr (by simp[f50]),by rw[hsc],s.next+1,0,by rw[hsc];simp,?_⟩
   rw[hsc]
   refine hT2 _ _ (by(repeat (first|rw[aG,if_neg (α:=aD) (by(try simp only[aC,aA]);omega)]|rw[aE,if_neg (α:=aD) (by omega)]|rw[aG,if_pos (α:=aD) (by(try simp only[aC,aA]))]|rw[aE,if_pos (α:=aD) (by omega)]))) (by(repeat (first|rw[aG,if_neg (α:=aD) (by(try simp only[aC,aA]);omega)]|rw[aE,if_neg (α:=aD) (by omega)]|rw[aG,if_pos (α:=aD) (by(try simp only[aC,aA]))]|rw[aE,if_pos (α:=aD) (by omega)]));exact hPn) (by(repeat (first|rw[aG,if_neg (α:=aD) (by(try simp only[aC,aA]);omega)]|rw[aE,if_neg (α:=aD) (by omega)]|rw[aG,if_pos (α:=aD) (by(try simp only[aC,aA]))]|rw[aE,if_pos (α:=aD) (by omega)]));simp) (by omega) (by simp) (by simp;omega) ?_
   exact((((hkp.set b1 _).trans (aB.new _ _)).set b3 _).trans (aB.new _ _))
  ·(repeat' (first|refine qS ?_|(refine qK ?_;simp only[ak,reduceIte])|(refine qC ?_;simp[f1,f2,f3,f10,f11,f12,f50,fi,fn,hd,hlt,hPa,hmg,hms,hxt])|(refine w_e [] ?_;intro J hJ;simp only[];simp[f1,f2,f3,f10,f11,f12,f50,fi,fn,hd,hlt,hPa,hmg,hms,hxt];(try (refine hJ _ _ ?_;clear hJ J;simp only[ak,reduceIte])))))
   have hkz:aB st (s.set Ma (.map false [.u32] (nX (SA++[(x,v)])))):=hkp.set b1 _
   refine qE (hm x _ hkz) (by simp[hcaps]) ?_;rintro r s4 ⟨rfl,hk4⟩
   have hn4:=hk4.next
   simp only[aC]at hn4
   have hPa4:s4.H Ma=.map false [.u32] (nX (SA++[(x,v)])):=by rw[hk4.H Ma (by simp;exact b4)];simp
   have hPn4:s4.H Mn=.map false [.u32] es:=by rw[hk4.H Mn (by simp;exact b5)];simp[b8,hPn]
   have hPq4:s4.H tq=.que 34 (o+SQ.length):=by rw[hk4.H tq (by simp;exact b6)];simp[hqa,hPq]
   have tn4:¬tq=s4.next:=by omega
   cases hmy:may x
   ·rw[hmy,if_neg (by simp)]at hsc
    (repeat' (first|(refine qK ?_;simp only[ak,reduceIte])|(refine qC ?_;simp[f11])|(refine aL ?_;simp[f11];(refine hJ _ _ ?_;clear hJ J;simp only[ak,reduceIte]))))
    refine hJ _ _ (by simp[fi]) (by simp[fn]) ⟨by simp[f1],by simp[f2],by simp[f3],by simp[f9],by simp[f10],by simp[f12],.inr (by simp[f50]),by rw[hsc],tq,o,by rw[hsc];simp[f11],?_⟩
    rw[hsc]
    exact hT1 _ hPa4 hPn4 hPq4 hn4 (hkz.trans hk4)
   ·rw[hmy,if_pos rfl]at hsc
    (repeat' (first|(refine qC ?_;simp[f11,hPq4,tn4])|((first|(refine w_e [] ?_;intro J hJ;simp only[])|(refine aL ?_));simp[f11,hPq4,tn4];(repeat refine ca ?_);(refine hJ _ _ ?_;clear hJ J;simp only[ak,reduceIte]))))
    refine hJ _ _ (by simp[fi]) (by simp[fn]) ⟨by simp[f1],by simp[f2],by simp[f3],by simp[f9],by simp[f10],by simp[f12],.inr (by simp[f50]),by rw[hsc],s4.next+1,0,by rw[hsc];simp,?_⟩
    rw[hsc]
    refine hT2 _ _ (by(repeat (first|rw[aG,if_neg (α:=aD) (by(try simp only[aC,aA]);omega)]|rw[aE,if_neg (α:=aD) (by omega)]|rw[aG,if_pos (α:=aD) (by(try simp only[aC,aA]))]|rw[aE,if_pos (α:=aD) (by omega)]));exact hPa4) (by(repeat (first|rw[aG,if_neg (α:=aD) (by(try simp only[aC,aA]);omega)]|rw[aE,if_neg (α:=aD) (by omega)]|rw[aG,if_pos (α:=aD) (by(try simp only[aC,aA]))]|rw[aE,if_pos (α:=aD) (by omega)]));exact hPn4) (by(repeat (first|rw[aG,if_neg (α:=aD) (by(try simp only[aC,aA]);omega)]|rw[aE,if_neg (α:=aD) (by omega)]|rw[aG,if_pos (α:=aD) (by(try simp only[aC,aA]))]|rw[aE,if_pos (α:=aD) (by omega)]));simp) (by omega) (by simp) (by simp;omega) ?_
    exact((((hkz.trans hk4).trans (aB.new _ _)).set b3 _).trans (aB.new _ _))
 ·rintro fr s ⟨f1,f2,f3,f9,f10,f12,f50,hh,tq,o,f11,hB⟩
  rw[List.take_length]at hh f11 hB
  rw[if_neg (by rw[hh];simp)]at hb
  have hsl:=aAp may to v ⟨A,Q,false⟩ row
  simp only at hsl
  simp only[ak]
  refine hJJ k _ _ (by omega) ⟨_,_,tq,o,hb,by omega,by simp only[List.length_cons]at hQ;omega,by simp[f1],by simp[f2],by simp[f3],by simp[f9],by simp[f10],by simp[f11],hB⟩
theorem aGu{vs:List Int}{v:Int}(h:v∉vs):aR (rI vs) [v]=none:=by
 have key:∀(L:List Nat),(∀ j∈L,j<vs.length)→aR (L.map fun k=>(([vs.getD k 0],i k):List Int×LV)) [v]=none:=by
  intro L
  induction L with
  |nil=>intro _;rfl
  |cons j L ih=>
   intro hL
   have hj:=hL j (by simp)
   have hne:¬v=vs.getD j 0:=fun e=>h (by rw[e,aX _ _ hj];exact List.getElem_mem _)
   simp only[List.map_cons,aR]
   rw[if_neg (by simpa using hne)]
   exact ih fun j hj=>hL j (List.mem_cons_of_mem _ hj)
 exact key _ fun j hj=>List.mem_range.1 hj
def aJm(vs:List Int)(v:Int):Int:=if v∈vs then v else vs.getD 0 0
theorem aPg{vs:List Int}{S pl:Nat}{st:St}(hS:ShB vs S pl st)(hn:vs.Nodup)(h64:vs.length≤64)(h0:0<vs.length)(v:Int):
 aF Tryz.prog 110 [.pt S 0,u v] st fun r st'=>r=wv (mk vs [aJm vs v])∧st'=st:=by
 unfold aJm
 by_cases hv:v∈vs
 ·rw[if_pos hv];exact aLj hS hn h64 hv
 ·rw[if_neg hv]
  obtain⟨⟨a,b,c,d,e,f,hSb⟩,hP⟩:=hS
  have h1:=aGu hv
  have h2:=aFI hn h64 h0
  have h2:aDZ .u64 1 0=mk vs [vs.getD 0 0]:=h2
  refine qO aK Tryz.func110 rfl rfl Tryz.ntmps110 (rs:=[.tmp 4]) rfl (by simp) ?_
  (repeat' (first|refine qS ?_|(refine qR ?_;simp only[ak,reduceIte];simp[hSb,hP,h1,h2])|(refine w_e [] ?_;intro J hJ;simp only[];simp[hSb,hP,h1,h2];(refine hJ _ _ ?_;clear hJ J;simp only[ak,reduceIte]))))
def inW(vs inner:List Int)(v:Int):Bool:=decide (aJm vs v∈inner)
theorem aPf{vs inner:List Int}(h64:vs.length≤64){v:Int}(hv:v∈vs):((yM .u64 (mk vs [v]) (mk vs inner):Int) != 0)=decide (v∈inner):=by
 rw[aIV _ _ _ h64]
 by_cases h:v∈inner
 ·have:mk vs ([v].filter fun v=>decide (v∈inner))≠0:=fun e=>by
   have:=(mk_zero _ _).1 e v hv
   simp[h]at this
  simpa[h]using this
 ·have:mk vs ([v].filter fun v=>decide (v∈inner))=0:=(mk_zero _ _).2 fun w _=>by simp[h]
  rw[this];simp[h]
theorem aOw{vs inner:List Int}{e:LV}{S pl a b:Nat}{st:St}(hS:ShB vs S pl st)(hn:vs.Nodup)(h64:vs.length≤64)(h0:0<vs.length)(ha:st.H a=.box 113 1 [.pt S 0])(hb:st.H b=.box 121 2 [wv (mk vs inner),e])(v:Int):
 aF Tryz.prog 119 [u v,.pt a 0,.pt b 0] st fun r st'=>r=bb (inW vs inner v)∧st'=st:=by
 have hbv:aJm vs v∈vs:=by
  unfold aJm
  by_cases h:v∈vs
  ·rw[if_pos h];exact h
  ·rw[if_neg h,aX _ _ h0];exact List.getElem_mem _
 have hin:=aPf (inner:=inner) h64 hbv
 unfold inW
 refine qO aK Tryz.func119 rfl rfl Tryz.ntmps119 (rs:=[.tmp 4]) rfl (by simp) ?_
 (repeat' (first|refine qS ?_|(refine w_e [] ?_;intro J hJ;simp only[];simp[];(refine hJ _ _ ?_;clear hJ J;simp only[ak,reduceIte]))))
 (refine w_s [] [a,b] [(0,true),(1,true),(3,true),(4,true),(2,true),(5,true),(6,true),(7,true)] ?_;intro J hJ;simp[ha,hb])
 refine qD (aPg hS hn h64 h0 v) (by simp) ?_;rintro r s1 ⟨rfl,h1⟩
 rw[h1];clear h1 s1
 refine⟨fun h=>by first|(cases h;done)|exact fun _ _=>rfl|simp,?_⟩
 (refine bN ?_;simp[hb,hin];(refine hJ _ _ ?_;clear hJ J;simp only[ak,reduceIte]))
 (repeat' (refine qR ?_;simp only[ak,reduceIte];simp[]))
theorem aQC{vs inner:List Int}{e:LV}{S pl a b c:Nat}{st:St}(hS:ShB vs S pl st)(hn:vs.Nodup)(h64:vs.length≤64)(h0:0<vs.length)(ha:st.H a=.box 113 1 [.pt S 0])(hb:st.H b=.box 121 2 [wv (mk vs inner),e])
 (hc:st.H c=.box 129 1 [.fn (.func 119) [.pt a 0,.pt b 0]]) (hlt:S<st.next∧pl<st.next∧a<st.next∧b<st.next∧c<st.next) (x:Ed):
 aF Tryz.prog 120 [.ag (edL x),.pt c 0] st fun r st'=>r=bb (inW vs inner x.a||inW vs inner x.b)∧aB st st':=by
 obtain⟨d,p,q⟩:=x
 obtain⟨⟨e1,e2,e3,e4,e5,e6,hSb⟩,hP⟩:=hS
 have hk:=aB.new st (.box 56 3 (edL ⟨d,p,q⟩))
 have hW:=fun v=>aOw (vs:=vs) (inner:=inner) (e:=e) (S:=S) (pl:=pl) (a:=a) (b:=b) (st:=st.new (.box 56 3 (edL ⟨d,p,q⟩))) ⟨⟨e1,e2,e3,e4,e5,e6,(hk.H S hlt.1).trans hSb⟩,(hk.H pl hlt.2.1).trans hP⟩ hn h64 h0 ((hk.H a hlt.2.2.1).trans ha) ((hk.H b hlt.2.2.2.1).trans hb) v
 have c1:¬c=st.next:=by omega
 refine qO aK Tryz.func120 rfl rfl Tryz.ntmps120 (rs:=[.tmp 3]) rfl (by simp) ?_
 (repeat' (first|refine qS ?_|(refine w_e [] ?_;intro J hJ;simp only[];simp[hc,c1];(try (refine hJ _ _ ?_;clear hJ J;simp only[ak,reduceIte])))))
 refine qE (hW p) (by simp) ?_;rintro r s1 ⟨rfl,h1⟩
 rw[h1];clear h1 s1
 cases hp:inW vs inner p
 ·(refine aL ?_;simp[hc,c1])
  refine qE (hW q) (by simp) ?_;rintro r s1 ⟨rfl,h1⟩
  rw[h1];clear h1 s1
  (repeat' (first|(refine qR ?_;simp only[ak,reduceIte];simp[])|(refine aL ?_;simp[];(refine hJ _ _ ?_;clear hJ J;simp only[ak,reduceIte]))))
  exact⟨fun h=>(by rw[hp]at h;cases h),hk⟩
 ·(repeat' (first|(refine qR ?_;simp only[ak,reduceIte];simp[])|(refine aL ?_;simp[];(refine hJ _ _ ?_;clear hJ J;simp only[ak,reduceIte]))))
  exact⟨.inl hp,hk⟩
theorem aFC(g:Gr)(f:FuncId)(caps:List LV)(p:Ed→Bool)(st:St)(hv:g.vs.length≤1000)(he:g.es.length≤1000)(hp:aDX f caps st g.es p):
 aF Tryz.prog 111 [.ag (grL g),.fn (.func f) caps] st fun r st'=>r=.ag (grL ⟨g.vs,g.es.filter p⟩)∧aB st st':=by
 refine bR ((aQv g f caps p st hv he hp).mono ?_)
 rintro r st' ⟨⟨X,rfl,hX⟩,hk⟩
 refine⟨?_,hk⟩
 simp only[z0,z0L,iO]
 congr 1
 rcases hX with⟨rfl,h⟩|⟨t,rfl⟩
 ·rw[h];simp[z0]
 ·simp only[z0,kZ]
def aAq(g:Gr)(inner:List Int):Gr:=⟨g.vs,g.es.filter fun x=>inW g.vs inner x.a||inW g.vs inner x.b⟩
def aIQ(g:Gr)(b:Brg):Int:=g.vs.getD (fst' g.vs b.ends) 0
def mS(g:Gr)(b:Brg):List Int:=b.ends.filter fun w=>decide (w≠aIQ g b)
def toW(g:Gr)(b:Brg):Int:=g.vs.getD (fst' g.vs (mS g b)) 0
def aNC(g:Gr)(b:Brg):Option (List Int):=
 if fst' g.vs b.ends<g.vs.length∧fst' g.vs (mS g b)<g.vs.length then
  if nrS g.vs b.inner=[]then some [aIQ g b,toW g b]else aFM g.vs (dG (aAq g b.inner).es) (inW g.vs b.inner) (aIQ g b) (toW g b) 1000
 else none
set_option maxHeartbeats 2000000 in
theorem aQD{g:Gr}(hg:GP g){L:List (Int×Int)}{on:List Int}{F:List (List Int)}{S nl pl ll fl:Nat}{le:List (List Int×LV)}{st:St}(hS:ShA g L on F S nl pl ll fl le st){b:Brg}(hb:∀ v∈b.ends,v∈g.vs){w:List Int}(hw:aNC g b=some w):
 aF Tryz.prog 77 [.pt S 0,aMw g.vs b] st fun r st'=>r=.sl 0 w.length (us w)∧st'=st:=by
 refine qT (Q:=fun r=>r=.sl 0 w.length (us w)) (bR ?_) fun r h=>by subst h;exact⟨.inl rfl,iT _ _⟩
 have h64:=hg.h64
 have he:=hg.he
 have hn:g.vs.Nodup:=hg.toGoodE.toGood.nodup
 unfold aNC at hw
 by_cases hq:fst' g.vs b.ends<g.vs.length∧fst' g.vs (mS g b)<g.vs.length
 case neg=>rw[if_neg hq]at hw;cases hw
 rw[if_pos hq]at hw
 obtain⟨hq1,hq2⟩:=hq
 have h0:0<g.vs.length:=by omega
 have hc1:=aBB h64 hq1
 have hc2:=aBB h64 hq2
 have hl1:=jT g.vs b.ends h64
 have hl2:=jT g.vs (mS g b) h64
 have hdp:=aFu h64 hn hq1
 have hdp:yM .u64 (mk g.vs b.ends) (IntKind.u64.wrap ((mk g.vs b.ends:Int)-1))=mk g.vs (mS g b):=hdp
 have hd1:=qG g.vs _ hq1
 have hd2:=qG g.vs _ hq2
 have hd1:(us g.vs).drop (fst' g.vs b.ends)=u (aIQ g b)::us (g.vs.drop (fst' g.vs b.ends+1)):=hd1
 have hd2:(us g.vs).drop (fst' g.vs (mS g b))=u (toW g b)::us (g.vs.drop (fst' g.vs (mS g b)+1)):=hd2
 have hi1:(fst' g.vs b.ends:Int)<g.vs.length:=by omega
 have hi2:(fst' g.vs (mS g b):Int)<g.vs.length:=by omega
 have hT1:=fun st=>Tz (mk g.vs b.ends) hl1 st
 have hT2:=fun st=>Tz (mk g.vs (mS g b)) hl2 st
 rw[hc1]at hT1
 rw[hc2]at hT2
 have hSb:=hS.r.box
 have hlt:=hS.r.lt
 have x1:¬S=st.next:=by omega
 have x2:¬S=st.next+1:=by omega
 generalize aIQ g b=fm at *
 generalize toW g b=tw' at *
 generalize fst' g.vs b.ends=k1 at *
 generalize fst' g.vs (mS g b)=k2 at *
 generalize mS g b=E2 at *
 have e0:¬st.next=st.next+1:=by omega
 refine qO aK Tryz.func77 rfl rfl Tryz.ntmps77 (rs:=[.tmp 4]) rfl (by simp) ?_
 (repeat' (first|refine qS ?_|(refine w_e [] ?_;intro J hJ;simp only[];simp[];(refine hJ _ _ ?_;clear hJ J;simp only[ak,reduceIte]))))
 (refine w_s [] [S,st.next,st.next+1] [(0,true),(1,true),(2,true),(3,true),(4,true),(5,true),(6,true),(7,true),(8,true),(9,true),(10,true)] ?_;intro J hJ;simp[hSb,x1,x2,e0])
 refine qD (hT1 _) (by simp) ?_;rintro r s1 ⟨rfl,h1⟩
 rw[h1];clear h1 s1
 refine⟨fun h=>by first|(cases h;done)|exact fun _ _=>rfl|simp,?_⟩
 (refine bN ?_;simp[hd1,hi1,hq1];(refine hJ _ _ ?_;clear hJ J;simp only[ak,reduceIte]))
 (repeat (refine qS ?_))
 (refine w_s [] [S,st.next,st.next+1] [(0,true),(1,true),(2,true),(3,true),(4,true),(5,true),(6,true),(7,true),(8,true),(9,true),(10,true),(11,true),(12,true),(13,true),(14,true)] ?_;intro J hJ;simp[hSb,x1,x2,e0,hdp])
 refine qD (hT2 _) (by simp) ?_;rintro r s1 ⟨rfl,h1⟩
 rw[h1];clear h1 s1
 refine⟨fun h=>by first|(cases h;done)|exact fun _ _=>rfl|simp,?_⟩
 (refine bN ?_;simp[hd2,hi2,hq2];(refine hJ _ _ ?_;clear hJ J;simp only[ak,reduceIte]))
 have hz0:mk g.vs []=0:=(mk_zero g.vs []).2 fun _ _=>by simp
 by_cases hin:nrS g.vs b.inner=[]
 ·rw[if_pos hin]at hw
  obtain rfl:[fm,tw']=w:=by simpa using hw
  have hm:mk g.vs b.inner=0:=by rw[← aBb,hin,hz0]
  (repeat' (first|refine qS ?_|(refine qR ?_;simp only[ak,reduceIte];simp[hm])|(refine qC ?_;simp[hm])|(refine w_e [] ?_;intro J hJ;simp only[];simp[hm];(refine hJ _ _ ?_;clear hJ J;simp only[ak,reduceIte]))))
  exact⟨by simp[z0,z0L],((aB.new _ _).trans (aB.new _ _)).trans (aB.new _ _)⟩
 ·rw[if_neg hin]at hw
  have hm:mk g.vs b.inner≠0:=fun h=>hin (by
   rw[← aBb,mk_zero]at h
   exact List.eq_nil_iff_forall_not_mem.2 fun v hv=>h v (List.mem_filter.1 hv).1 hv)
  have hmb:((mk g.vs b.inner:Int)==0)=false:=by simpa using hm
  have x3:¬S=st.next+1+1:=by omega
  have hT:∀ s3,aB st s3→st.next+2<s3.next→s3.H st.next=.box 113 1 [.pt S 0]→s3.H (st.next+1)=.box 121 2 [wv (mk g.vs b.inner),wv (mk g.vs b.ends)]→s3.H (st.next+1+1)=.box 129 1 [.fn (.func 119) [.pt st.next 0,.pt (st.next+1) 0]]→
   aDX 120 [.pt (st.next+1+1) 0] s3 g.es fun x=>inW g.vs b.inner x.a||inW g.vs b.inner x.b:=fun s3 hk3 hn3 hA3 hB3 hC3 x _ st2 hk2=>by
   have hn2:=hk2.next
   exact aQC (hS.keep (hk3.trans hk2)).r.b hn h64 h0 ((hk2.H _ (by omega)).trans hA3) ((hk2.H _ (by omega)).trans hB3) ((hk2.H _ (by omega)).trans hC3) (by omega) x
  have hM:∀ s3,aB st s3→st.next+2<s3.next→s3.H st.next=.box 113 1 [.pt S 0]→s3.H (st.next+1)=.box 121 2 [wv (mk g.vs b.inner),wv (mk g.vs b.ends)]→
   aIv (.fn (.func 119) [.pt st.next 0,.pt (st.next+1) 0]) (inW g.vs b.inner) s3:=fun s3 hk3 hn3 hA3 hB3=>.inr ⟨_,_,rfl,rfl,fun v s hk=>by
   refine(aOw (hS.keep (hk3.trans hk)).r.b hn h64 h0 ((hk.H _ (by omega)).trans hA3) ((hk.H _ (by omega)).trans hB3) v).mono ?_
   rintro r s' ⟨h1,rfl⟩
   exact⟨h1,aB.refl _⟩⟩
  (repeat' (first|refine qS ?_|(refine qK ?_;simp only[ak,reduceIte])|(refine qC ?_;simp[hmb,hSb,x1,x2,x3])|(refine w_e [] ?_;intro J hJ;simp only[];simp[hmb,hSb,x1,x2,x3];(try (refine hJ _ _ ?_;clear hJ J;simp only[ak,reduceIte])))))
  refine qE (aFC g _ _ _ _ (by omega) (by omega) (hT _ ?_ ?_ ?_ ?_ ?_)) (by simp[grL]) ?_
  ·exact(((aB.new _ _).trans (aB.new _ _)).trans (aB.new _ _)).set (by omega) _
  ·simp
  ·(repeat (first|rw[aG,if_neg (α:=aD) (by(try simp only[aC,aA]);omega)]|rw[aE,if_neg (α:=aD) (by omega)]|rw[aG,if_pos (α:=aD) (by(try simp only[aC,aA]))]|rw[aE,if_pos (α:=aD) (by omega)]))
  ·(repeat (first|rw[aG,if_neg (α:=aD) (by(try simp only[aC,aA]);omega)]|rw[aE,if_neg (α:=aD) (by omega)]|rw[aG,if_pos (α:=aD) (by(try simp only[aC,aA]))]|rw[aE,if_pos (α:=aD) (by omega)]))
  ·simp
  rintro r s1 ⟨rfl,hk1⟩
  have hn1:=hk1.next
  simp only[aC,aA]at hn1
  have hK1:aB st s1:=((((aB.new _ _).trans (aB.new _ _)).trans (aB.new _ _)).set (by omega) _).trans hk1
  have hA1:s1.H st.next=.box 113 1 [.pt S 0]:=by
   rw[hk1.H _ (by simp only[aC,aA];omega)];(repeat (first|rw[aG,if_neg (α:=aD) (by(try simp only[aC,aA]);omega)]|rw[aE,if_neg (α:=aD) (by omega)]|rw[aG,if_pos (α:=aD) (by(try simp only[aC,aA]))]|rw[aE,if_pos (α:=aD) (by omega)]))
  have hB1:s1.H (st.next+1)=.box 121 2 [wv (mk g.vs b.inner),wv (mk g.vs b.ends)]:=by
   rw[hk1.H _ (by simp only[aC,aA];omega)];(repeat (first|rw[aG,if_neg (α:=aD) (by(try simp only[aC,aA]);omega)]|rw[aE,if_neg (α:=aD) (by omega)]|rw[aG,if_pos (α:=aD) (by(try simp only[aC,aA]))]|rw[aE,if_pos (α:=aD) (by omega)]))
  have hC1:s1.H (st.next+1+1)=.box 129 1 [.fn (.func 119) [.pt st.next 0,.pt (st.next+1) 0]]:=by
   rw[hk1.H _ (by simp only[aC,aA];omega)];simp
  clear hk1
  have y1:¬st.next+1+1=s1.next:=by omega
  have y2:¬st.next=s1.next:=by omega
  have y3:¬st.next+1=s1.next:=by omega
  have hpl:(aAq g b.inner).es.length≤10:=by
   have:=List.length_filter_le (fun x:Ed=>inW g.vs b.inner x.a||inW g.vs b.inner x.b) g.es
   unfold aAq;simp only;omega
  (repeat' (first|refine qS ?_|((first|(refine w_e [] ?_;intro J hJ;simp only[])|(refine aL ?_));simp[hC1,y1];(try (refine hJ _ _ ?_;clear hJ J;simp only[ak,reduceIte])))))
  refine qE (Path (aAq g b.inner) fm tw' _ _ 1000 w _ (by unfold aAq;simp only;omega) hpl (fun x hx=>hg.ne x ((List.mem_filter.1 hx).1)) (by omega) (hM _ (hK1.trans (aB.new _ _)) (by simp only[aA];omega) ?_ ?_) hw) (by simp[grL,aAq]) ?_
  ·rw[aG,if_neg y2];exact hA1
  ·rw[aG,if_neg y3];exact hB1
  rintro r s2 ⟨rfl,hk2⟩
  (repeat' (first|(refine qR ?_;simp only[ak,reduceIte];simp[])|(refine aL ?_;simp[];(refine hJ _ _ ?_;clear hJ J;simp only[ak,reduceIte]))))
  exact⟨by simp[z0],(hK1.trans (aB.new _ _)).trans hk2⟩
def uD(n i j:Nat):Nat:=if i≤j then j-i else j+n-i
def rE(r:List Int)(i j:Nat):List Int:=((r++r).drop i).take (uD r.length i j+1)
theorem aLs{n i j p:Nat}(hi:i<n)(hj:j<n)(hp:p≤uD n i j):((i+p) % n=j↔p=uD n i j):=by
 unfold uD at *
 by_cases h:i≤j
 ·rw[if_pos h]at *
  rw[Nat.mod_eq_of_lt (by omega)];omega
 ·rw[if_neg h]at *
  by_cases h2:i+p<n
  ·rw[Nat.mod_eq_of_lt h2];omega
  ·rw[show i+p=(i+p-n)+n by omega,Nat.add_mod_right,Nat.mod_eq_of_lt (by omega)];omega
theorem uE{n i j:Nat}(hi:i<n)(hj:j<n):uD n i j<n:=by unfold uD;split<;>omega
theorem aMz(r:List Int)(i p:Nat)(hi:i<r.length)(hp:p<r.length):((r++r).drop i)[p]?=some (r.getD ((i+p) % r.length) 0):=by
 rw[List.getElem?_drop]
 by_cases h:i+p<r.length
 ·rw[List.getElem?_append_left h,Nat.mod_eq_of_lt h,List.getD_eq_getElem?_getD,List.getElem?_eq_getElem h];rfl
 ·rw[List.getElem?_append_right (by omega),show i+p=(i+p-r.length)+r.length by omega,Nat.add_mod_right,Nat.mod_eq_of_lt (by omega),List.getD_eq_getElem?_getD]
  have:i+p-r.length<r.length:=by omega
  rw[show i+p-r.length+r.length-r.length=i+p-r.length by omega,List.getElem?_eq_getElem this];rfl
theorem aCk(r:List Int)(i p:Nat)(hi:i<r.length)(hp:p<r.length):((r++r).drop i).take (p+1)=((r++r).drop i).take p++[r.getD ((i+p) % r.length) 0]:=by
 have h:=aMz r i p hi hp
 have hl:p<((r++r).drop i).length:=by rw[List.length_drop,List.length_append];omega
 rw[List.take_succ_eq_append_getElem hl]
 rw[List.getElem?_eq_getElem hl,Option.some.injEq]at h
 rw[h]
theorem xH(r:List Int)(i j:Nat)(hi:i<r.length)(hj:j<r.length):(rE r i j).length=uD r.length i j+1:=by
 have:=uE hi hj
 unfold rE
 rw[List.length_take,List.length_drop,List.length_append];omega
set_option maxHeartbeats 1000000 in
theorem aOU(r:List Int)(k j:Nat)(st:St)(hi:k<r.length)(hj:j<r.length)(hl:r.length≤1000)(hp:0<st.next):
 aF Tryz.prog 117 [.sl 0 r.length (us r),i k,i j] st fun v st'=>(∃ t,v=.sl t (rE r k j).length (us (rE r k j))∧aAK t 34 1 (rE r k j).length st st')∧aB st st':=by
 have hd0:=qG r k hi
 have hk1:(k:Int)<r.length:=by omega
 have hal:=xH r k j hi hj
 have hst:=uE hi hj
 refine qO aK Tryz.func117 rfl rfl Tryz.ntmps117 (rs:=[.tmp 6]) rfl (by simp) ?_
 (repeat' (first|refine qS ?_|refine qB ?_|(refine w_e [] ?_;intro J hJ;simp only[];simp[hd0,hk1,hi];(refine hJ _ _ ?_;clear hJ J;simp only[ak,reduceIte]))))
 have e0:¬st.next=0:=by omega
 have hk0:(k+0) % r.length=k:=by rw[Nat.add_zero,Nat.mod_eq_of_lt hi]
 refine qL (fun n fr st'=>∃ p t:Nat,p≤uD r.length k j∧n=uD r.length k j-p∧fr 0=.sl 0 r.length (us r)∧fr 1=i (((k+p) % r.length:Nat):Int)∧fr 2=i j∧fr 7=.sl t (p+1) (us (((r++r).drop k).take (p+1)))∧aAK t 34 1 (p+1) st st'∧aB st st') (uD r.length k j) ?_ ?_
 ·refine⟨0,st.next,by omega,by omega,by simp,?_,by simp,?_,⟨e0,Nat.le_refl _,by simp,by simp⟩,aB.new _ _⟩
  ·rw[hk0];simp
  ·have:=aCk r k 0 hi (by omega)
   rw[this,hk0];simp[hi]
 rintro n fr s ⟨p,t,hp1,rfl,f0,f1,f2,f7,⟨t0,t1,t2,tH⟩,hk⟩ JJ hJJ
 have hat:=aLs hi hj hp1
 by_cases hpe:p=uD r.length k j
 ·have hb:((((k+p) % r.length:Nat):Int) != j)=false:=by rw[hat.2 hpe];simp
  generalize ((k+p) % r.length:Nat)=q at *
  subst hpe
  have hta:((r++r).drop k).take (uD r.length k j+1)=rE r k j:=rfl
  rw[hta,← hal]at f7
  rw[← hal]at tH
  (repeat' (first|refine qS ?_|(refine qX ?_;simp only[ak,reduceIte])|(refine qR ?_;simp only[ak,reduceIte];simp[f1,f2,f7,hb])|(refine qC ?_;simp[f1,f2,f7,hb])|(refine w_e [] ?_;intro J hJ;simp only[];simp[f1,f2,f7,hb];(refine hJ _ _ ?_;clear hJ J;simp only[ak,reduceIte]))))
  exact⟨⟨t0,t1,t2,tH⟩,hk⟩
 ·have hb:((((k+p) % r.length:Nat):Int) != j)=true:=by
   have:¬(k+p) % r.length=j:=fun h=>hpe (hat.1 h)
   rw[bne_iff_ne];intro h;exact this (Int.ofNat_inj.1 h)
  have hstep:=aCk r k (p+1) hi (by omega)
  have hq:(k+p) % r.length<r.length:=Nat.mod_lt _ (by omega)
  have hq2:(k+(p+1)) % r.length=((k+p) % r.length+1) % r.length:=by rw[← Nat.add_assoc,Nat.mod_add_mod]
  rw[hq2]at hstep
  have hmod:((((k+p) % r.length:Nat):Int)+1).tmod (r.length:Int)=((((k+p) % r.length+1) % r.length:Nat):Int):=by
   rw[Int.tmod_eq_emod_of_nonneg (by omega)]
   exact(Int.natCast_emod _ _).symm
  have hq3:((k+p) % r.length+1) % r.length<r.length:=Nat.mod_lt _ (by omega)
  generalize (k+p) % r.length=q at *
  have hw:=qN q (by omega)
  have hw:IntKind.i64.wrap ((q:Int)+1)=(q:Int)+1:=by rw[hw];omega
  generalize (q+1) % r.length=q2 at *
  have hd:=qG r q2 hq3
  generalize r.getD q2 0=x at *
  have hq4:(q2:Int)<r.length:=by omega
  have hr0:¬(r.length:Int)=0:=by omega
  have hrn:¬r=[]:=fun h=>by rw[h]at hi;simp at hi
  have c1:¬t=s.next:=by omega
  have c2:¬s.next=t:=by omega
  (repeat' (first|refine qS ?_|refine qB ?_|(refine qK ?_;simp only[ak,reduceIte])|(refine qC ?_;simp[f0,f1,f2,f7,hb,hw,hmod,hr0,hrn,hd,hq3,hq4,tH,t0,c1,c2])|(refine w_e [] ?_;intro J hJ;simp only[];simp[f0,f1,f2,f7,hb,hw,hmod,hr0,hrn,hd,hq3,hq4,tH,t0,c1,c2];(repeat refine ca ?_);(refine hJ _ _ ?_;clear hJ J;simp only[ak,reduceIte]))))
  exact hJJ _ _ _ (by omega) ⟨p+1,s.next+1,by omega,rfl,by simp[f0],by rw[hq2];simp,by simp[f2],by rw[hstep];simp,⟨by omega,by omega,by simp,by simp⟩,((hk.trans (aB.new _ _)).set t1 _).trans (aB.new _ _)⟩
theorem oC(l:List Ed)(j:Nat)(hj:j<l.length):l.getD j ed0=l[j]:=by
 rw[List.getD_eq_getElem?_getD,List.getElem?_eq_getElem hj];rfl
theorem aER(a b:List Ed):eds (a++b)=eds a++eds b:=by simp[eds]
theorem aNG(l:List Ed)(k:Nat):(eds l).take (k*3)=eds (l.take k):=by
 induction l generalizing k with
 |nil=>simp[eds]
 |cons x l ih=>
  cases k with
  |zero=>simp[eds]
  |succ k=>
   rw[show(k+1)*3=k*3+1+1+1 by omega]
   simp only[eds,List.flatMap_cons,edL,List.cons_append,List.nil_append,List.take_succ_cons]
   have:=ih k
   simp only[eds,edL]at this
   rw[this]
theorem aND(l:List Ed)(k:Nat):(eds l).drop (k*3)=eds (l.drop k):=by
 induction l generalizing k with
 |nil=>simp[eds]
 |cons x l ih=>
  cases k with
  |zero=>simp[eds]
  |succ k=>
   rw[show(k+1)*3=k*3+1+1+1 by omega]
   simp only[eds,List.flatMap_cons,edL,List.cons_append,List.nil_append,List.drop_succ_cons]
   have:=ih k
   simpa only[eds,edL]using this
theorem aBA(l:List Ed)(k:Nat)(x:Ed)(hk:k<l.length):(eds l).take (k*3)++(u x.id::u x.a::u x.b::(eds l).drop (k*3+3))=eds (l.set k x):=by
 rw[show k*3+3=(k+1)*3 by omega,aNG,aND,List.set_eq_take_append_cons_drop,if_pos hk,aER]
 rfl
def be(st:St)(q:Nat)(c:List Ed):St:=st.set q (.box 56 3 (eds c))
@[simp] theorem aMs(st:St)(q:Nat)(c:List Ed):(be st q c).next=st.next:=rfl
@[simp] theorem aQR(st:St)(q:Nat)(c:List Ed):(be st q c).H q=.box 56 3 (eds c):=by simp[be]
theorem aAU(U:List Ed)(x y:Ed)(W:List Ed):(U++x::W).set U.length y=U++y::W:=by
 rw[List.set_append_right _ _ (Nat.le_refl _)];simp
theorem wP(U:List Ed)(x:Ed)(W:List Ed):(U++x::W).getD U.length ed0=x:=by
 rw[List.getD_eq_getElem?_getD,List.getElem?_append_right (Nat.le_refl _)];simp
theorem gU(n:Int)(h0 : -9223372036854775808≤n)(h1:n≤9223372036854775807):IntKind.i64.wrap n=n:=by
 simp only[IntKind.wrap,IntKind.signed,IntKind.bits]
 simp
 split<;>omega
end Go.Proofs.YtempldclppogmaaGreatDoor.Aw
