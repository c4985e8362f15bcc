/- block.nearby: the near ones of each vertex, rising; Near. -/
import Derived.Test.YtempldclppogmaaGreatDoorJf
import Derived.Test.YtempldclppogmaaGreatDoorAwFz
import Derived.Test.YtempldclppogmaaGreatDoorAwMr4
import Derived.Test.YtempldclppogmaaGreatDoorAwRg
set_option linter.unusedVariables false
set_option linter.unusedSimpArgs false
namespace Go.Proofs.YtempldclppogmaaGreatDoor.Aw
open Go Go.RowKit Go.Proofs.YtempldclppogmaaGreatDoor.Pl
abbrev VB:=Int×Nat
def fR(H:List (Int×Int))(L:List VB):List (List Int×LV):=L.map fun p=>([p.1],.ms p.2 0 (nbH p.1 H).length)
structure NbM(H:List (Int×Int))(lo:Nat)(m:Nat)(L:List VB)(s:St):Prop where
 hm:s.H m=.map false [.u32] (fR H L)
 bx:∀ p∈L,lo≤p.2∧p.2<s.next∧s.H p.2=.box 34 1 (us (nbH p.1 H))
 nd:(L.map (·.2)).Nodup
 kd:(L.map (·.1)).Nodup
 all:∀ v,nbH v H≠[]↔v∈L.map (·.1)
theorem rJ{H:List (Int×Int)}{v:Int}:∀ {L:List VB},v∉L.map (·.1)→aY (fR H L) [v]=none
 |[],_=>rfl
 |p::L,h=>by
  simp only[List.map_cons,List.mem_cons,not_or]at h
  simp only[fR,List.map_cons,aY]
  rw[if_neg (by simpa using h.1)]
  exact rJ h.2
theorem rF{H:List (Int×Int)}{v:Int}{q:Nat}:∀ {L1 L2:List VB},v∉L1.map (·.1)→aY (fR H (L1++(v,q)::L2)) [v]=some (.ms q 0 (nbH v H).length)
 |[],L2,_=>by simp[fR,aY]
 |p::L1,L2,h=>by
  simp only[List.map_cons,List.mem_cons,not_or]at h
  simp only[List.cons_append,fR,List.map_cons,aY]
  rw[if_neg (by simpa using h.1)]
  exact rF h.2
theorem aBX{H H':List (Int×Int)}{v:Int}{q q':Nat}:∀ {L1 L2:List VB},v∉L1.map (·.1)→v∉L2.map (·.1)→(∀ u,u≠v→nbH u H'=nbH u H)→aV (fR H (L1++(v,q)::L2)) [v] (.ms q' 0 (nbH v H').length)=fR H' (L1++(v,q')::L2)
 |[],L2,_,h2,hn=>by
  simp only[List.nil_append,fR,List.map_cons,aV,beq_self_eq_true,if_true]
  congr 1
  refine List.map_congr_left fun p hp=>?_
  rw[hn p.1 (fun e=>h2 (by rw[← e];exact List.mem_map.2 ⟨p,hp,rfl⟩))]
 |p::L1,L2,h,h2,hn=>by
  simp only[List.map_cons,List.mem_cons,not_or]at h
  have ih:=aBX (H:=H) (H':=H') (q:=q) (q':=q') (L1:=L1) (L2:=L2) h.2 h2 hn
  simp only[List.cons_append,fR,List.map_cons,aV]at ih ⊢
  rw[if_neg (by simpa using h.1),ih,hn p.1 (fun e=>h.1 e.symm)]
theorem aDx{H H':List (Int×Int)}{v:Int}{q':Nat}:∀ {L:List VB},v∉L.map (·.1)→(∀ u,u≠v→nbH u H'=nbH u H)→aV (fR H L) [v] (.ms q' 0 (nbH v H').length)=fR H' (L++[(v,q')])
 |[],_,_=>rfl
 |p::L,h,hn=>by
  simp only[List.map_cons,List.mem_cons,not_or]at h
  have ih:=aDx (H:=H) (H':=H') (q':=q') (L:=L) h.2 hn
  simp only[List.cons_append,fR,List.map_cons,aV]at ih ⊢
  rw[if_neg (by simpa using h.1),ih,hn p.1 (fun e=>h.1 e.symm)]
theorem aAe{H:List (Int×Int)}{a b u:Int}(h:u≠a):nbH u (H++[(a,b)])=nbH u H:=by rw[aBU,if_neg (fun e=>h e.symm),List.append_nil]
theorem kF{H:List (Int×Int)}{a b:Int}:nbH a (H++[(a,b)])=nbH a H++[b]:=by rw[aBU,if_pos rfl]
theorem NbM.add{H:List (Int×Int)}{lo m:Nat}{L:List VB}{s:St}(h:NbM H lo m L s){a b:Int}(ha:a∉L.map (·.1)){q':Nat}{s':St}(hq:lo≤q'∧s.next≤q'∧q' < s'.next)
 (hm:s'.H m=.map false [.u32] (aV (fR H L) [a] (.ms q' 0 (nbH a H++[b]).length))) (hb:s'.H q'=.box 34 1 (us (nbH a H++[b]))) (ho:∀ p∈L,s'.H p.2=s.H p.2) (hn:s.next≤s'.next):NbM (H++[(a,b)]) lo m (L++[(a,q')]) s':=by
 have hoth:∀ u,u≠a→nbH u (H++[(a,b)])=nbH u H:=fun u hu=>aAe hu
 refine⟨?_,fun p hp=>?_,?_,?_,fun v=>?_⟩
 ·rw[hm,← kF,aDx ha hoth]
 ·rcases List.mem_append.1 hp with hp|hp
  ·obtain⟨h1,h2,h3⟩:=h.bx p hp
   exact⟨h1,oO,by rw[ho p hp,h3,hoth p.1 (fun e=>ha (by rw[← e];exact List.mem_map.2 ⟨p,hp,rfl⟩))]⟩
  ·rw[List.mem_singleton]at hp
   subst hp
   exact⟨hq.1,hq.2.2,by rw[hb,kF]⟩
 ·rw[List.map_append,List.nodup_append]
  refine⟨h.nd,sS,fun x hx y hy=>?_⟩
  obtain⟨p,hp,rfl⟩:=List.mem_map.1 hx
  simp at hy
  have:=(h.bx p hp).2.1
  omega
 ·rw[List.map_append,List.nodup_append]
  exact⟨h.kd,sS,fun x hx y hy=>by simp at hy;subst hy;rintro rfl;exact ha hx⟩
 ·rw[List.map_append,List.mem_append]
  by_cases hv:v=a
  ·subst hv;rw[kF];simp
  ·rw[hoth v hv,h.all v]
   simp[hv]
theorem NbM.put{H:List (Int×Int)}{lo m:Nat}{L1 L2:List VB}{s:St}{a b:Int}{q:Nat}(h:NbM H lo m (L1++(a,q)::L2) s){q':Nat}{s':St}(hq:lo≤q'∧s.next≤q'∧q' < s'.next)
 (hm:s'.H m=.map false [.u32] (aV (fR H (L1++(a,q)::L2)) [a] (.ms q' 0 (nbH a H++[b]).length))) (hb:s'.H q'=.box 34 1 (us (nbH a H++[b]))) (ho:∀ p,p∈L1∨p∈L2→p.2≠q→p.2<s.next→s'.H p.2=s.H p.2) (hn:s.next≤s'.next):NbM (H++[(a,b)]) lo m (L1++(a,q')::L2) s':=by
 have hoth:∀ u,u≠a→nbH u (H++[(a,b)])=nbH u H:=fun u hu=>aAe hu
 have kd:=h.kd
 have nd:=h.nd
 rw[List.map_append,List.map_cons,List.nodup_append,List.nodup_cons]at kd nd
 obtain⟨kd1,⟨kd2,kd3⟩,kd4⟩:=kd
 obtain⟨nd1,⟨nd2,nd3⟩,nd4⟩:=nd
 have ha1:a∉L1.map (·.1):=fun e=>kd4 a e a sS rfl
 have hb1:∀ p,p∈L1∨p∈L2→p.1≠a∧p.2≠q∧(lo≤p.2∧p.2<s.next∧s.H p.2=.box 34 1 (us (nbH p.1 H))):=by
  intro p hp
  refine⟨?_,?_,h.bx p (by rcases hp with hp|hp<;>simp[hp])⟩
  ·rcases hp with hp|hp
   ·exact fun e=>ha1 (by rw[← e];exact List.mem_map.2 ⟨p,hp,rfl⟩)
   ·exact fun e=>kd2 (by rw[← e];exact List.mem_map.2 ⟨p,hp,rfl⟩)
  ·rcases hp with hp|hp
   ·exact nd4 _ (List.mem_map.2 ⟨p,hp,rfl⟩) q sS
   ·exact fun e=>nd2 (by rw[← e];exact List.mem_map.2 ⟨p,hp,rfl⟩)
 refine⟨?_,fun p hp=>?_,?_,?_,fun v=>?_⟩
 ·rw[hm,← kF,aBX ha1 kd2 hoth]
 ·have hp':(p∈L1∨p∈L2)∨p=(a,q'):=by
   rcases List.mem_append.1 hp with hp|hp
   ·exact .inl (.inl hp)
   ·rcases List.mem_cons.1 hp with hp|hp
    ·exact .inr hp
    ·exact .inl (.inr hp)
  rcases hp' with hp|rfl
  ·obtain⟨h1,h2,h3,h4,h5⟩:=hb1 p hp
   exact⟨h3,oO,by rw[ho p hp h2 h4,h5,hoth p.1 h1]⟩
  ·exact⟨hq.1,hq.2.2,by rw[hb,kF]⟩
 ·rw[List.map_append,List.map_cons,List.nodup_append,List.nodup_cons]
  have lt:∀ p,p∈L1∨p∈L2→p.2<s.next:=fun p hp=>(hb1 p hp).2.2.2.1
  refine⟨nd1,⟨fun e=>?_,nd3⟩,fun x hx y hy=>?_⟩
  ·obtain⟨p,hp,e⟩:=List.mem_map.1 e
   have:=lt p (.inr hp);simp only at e;omega
  ·rcases List.mem_cons.1 hy with rfl|hy
   ·obtain⟨p,hp,rfl⟩:=List.mem_map.1 hx
    have:=lt p (.inl hp);omega
   ·exact nd4 x hx y (List.mem_cons_of_mem _ hy)
 ·have:=h.kd
  rw[List.map_append,List.map_cons]at this ⊢
  exact this
 ·by_cases hv:v=a
  ·subst hv;rw[kF];simp
  ·rw[hoth v hv,h.all v,List.map_append,List.map_append,List.map_cons,List.map_cons]
theorem jK{α β:Type}{f:α→β}:∀ {L:List α},(L.map f).Nodup→∀ {x y:α},x∈L→y∈L→f x=f y→x=y
 |[],_,_,_,hx,_,_=>by simp at hx
 |z::L,h,x,y,hx,hy,e=>by
  simp only[List.map_cons,List.nodup_cons]at h
  rcases List.mem_cons.1 hx with hx'|hx'<;>rcases List.mem_cons.1 hy with hy'|hy'
  ·rw[hx',hy']
  ·exact absurd (List.mem_map.2 ⟨y,hy',by rw[← e,hx']⟩) h.1
  ·exact absurd (List.mem_map.2 ⟨x,hx',by rw[e,hy']⟩) h.1
  ·exact jK h.2 hx' hy' e
theorem xZ{P:Program}{N:Nat}{Q:AQ}{k:List eM}{fr:Frm}{st:St}{x:Code}(I:Frm→St→Prop)(h1:AWp P N x (AK P N (fun e f s=>e=.normal∧I f s) []) fr st)(h2:∀ fr st,I fr st→AK P N Q k .normal fr st):
 AWp P N x (AK P N Q k) fr st:=by
 refine cR h1 ?_
 rintro e fr' st' ⟨rfl,hI⟩
 exact h2 _ _ hI
theorem aHA{P:Program}{N:Nat}{Q:AQ}{c:Code}{fr:Frm}{st:St}(I:Frm→St→Prop)(h0:I fr st)(h:∀ fr st,I fr st→AWp P N c Q fr st):AWp P N c Q fr st:=h _ _ h0
theorem NbM.keeps{H:List (Int×Int)}{lo m:Nat}{L:List VB}{s s':St}(h:NbM H lo m L s)(k:aA s s')(hm:m<s.next):NbM H lo m L s':=
 ⟨by rw[k.H m hm];exact h.hm,fun p hp=>by obtain⟨h1,h2,h3⟩:=h.bx p hp;exact⟨h1,Nat.lt_of_lt_of_le h2 k.next,by rw[k.H _ h2];exact h3⟩,h.nd,h.kd,h.all⟩
def SoI(st0:St)(H:List (Int×Int))(M:Nat)(L:List VB)(Lr:List (List Int×LV))(fr:Frm)(s:St):Prop:=
 fr 3=.mp M∧(Lr.map (·.1)).Nodup∧(∀ e∈Lr,∃ p∈L,e=([p.1],.ms p.2 0 (nbH p.1 H).length))∧s.H M=.frz false [.u32] (fR H L)∧M<s.next∧aA st0 s∧
 ∀ p∈L,p.2<s.next∧∃ c,s.H p.2=.box 34 1 (us c)∧c.Perm (nbH p.1 H)∧([p.1]∉Lr.map (·.1)→c.Pairwise (·≤·))
def NrI(st0:St)(S:List Ed)(M k:Nat)(H:List (Int×Int))(fr:Frm)(s:St):Prop:=
 fr 3=.mp M∧fr 17=.sl 0 S.length (eds S)∧fr 18=i S.length∧fr 19=i k∧st0.next≤M∧M<s.next∧aA st0 s∧∃ L,NbM H st0.next M L s
set_option maxHeartbeats 2000000 in
theorem aMj(g:Gr)(st:St)(hv:g.vs.length≤1048576)(he:g.es.length≤1000)(hp:0<st.next):
 aB Tryz.prog 91 [.ag (grL g)] st fun r st'=>∃ m L,r=.mp m∧st.next≤m∧m<st'.next∧aA st st'∧st'.H m=.map false [.u32] (aDU L)∧(∀ p∈L,st.next≤p.2.1∧st'.H p.2.1=.box 34 1 p.2.2)∧(L.map fun p=>p.2.1).Nodup∧
  ∃ K:List Int,K.Nodup∧(∀ v,nbH v (hfs (sE g.es))≠[]↔v∈K)∧L.map (fun p=>(p.1,p.2.2))=K.map fun v=>([v],us (dS g.es v)):=by
 have hel:=aJ (sE g.es)
 have hsl:=vQ g.es
 refine qO aF Tryz.func91 rfl rfl Tryz.ntmps91 (rs:=[.tmp 2]) rfl sS ?_
 (repeat' (first|refine qS ?_|(refine w_e [] ?_;intro J hJ;simp only[];simp[];(try (refine hJ _ _ (zZ ?_);clear hJ J)))))
 refine qE (aJF g _ hv oO sS) sS ?_;rintro r s1 ⟨rfl,hk1⟩
 have hn1:=hk1.next
 simp only[aC]at hn1
 have hkp1:aA st s1:=((aA.new _ _).trans (aA.new _ _)).trans hk1
 have hm1:s1.H (st.next+1)=.map false [.u32] []:=by rw[hk1.H _ sS];simp
 have e1:¬st.next+1=s1.next:=oO
 generalize hbl:(bnd g.es).length=bl
 generalize hbc:((bnd g.es).map fun l=>LV.sl 0 l.length (us l))=bc
 (repeat' (first|refine qS ?_|refine qB ?_|((first|(refine w_e [] ?_;intro J hJ;simp only[])|(refine aE ?_));simp[hel];(refine hJ _ _ (zZ ?_);clear hJ J))))
 refine qL (fun n fr s=>∃ k:Nat,k≤(sE g.es).length∧n=(sE g.es).length-k∧NrI st (sE g.es) (st.next+1) k (hfs ((sE g.es).take k)) fr s) (sE g.es).length ?_ ?_
 ·refine⟨0,oO,oO,sS,sS,sS,sS,oO,by simp;omega,(hkp1.trans (aA.new _ _)),[],?_⟩
  exact⟨by simp[e1,hm1,fR],sS,sS,sS,by simp[hfs,nbH]⟩
 rintro n fr s ⟨k,hk,rfl,f3,f17,f18,f19,hM1,hM2,hkp,L,hNb⟩ JJ hJJ
 generalize hMM:st.next+1=M at *
 by_cases hlt:k<(sE g.es).length
 rotate_left
 ·clear hJJ
  have hk':k=(sE g.es).length:=oO
  rw[hk',List.take_length]at hNb
  refine qS ?_
  (refine w_e [] ?_;intro J hJ;simp only[];simp[f18,f19,hlt];(refine hJ _ _ (zZ ?_);clear hJ J))
  refine qS ?_
  (refine qC ?_;simp[])
  refine qX (zZ ?_)
  have hHl:(hfs (sE g.es)).length≤2000:=by rw[aBz];omega
  generalize hHH:hfs (sE g.es)=H at *
  refine qS ?_
  refine aBf aF [] (SoI st H M L) (by simp[f3]) hNb.hm ?_ ?_ ?_ Tryz.underlying59
  ·intro r
   refine⟨by simp[f3],?_,?_,sS,by simp;omega,hkp.set hM1 _,fun p hp=>?_⟩
   ·have:=hNb.kd
    rw[fR,List.map_map]
    have e:L.map ((fun x=>x.1)∘fun p:VB=>(([p.1],LV.ms p.2 0 (nbH p.1 H).length):List Int×LV))=(L.map (·.1)).map fun v=>[v]:=by rw[List.map_map];rfl
    rw[e]
    exact this.map (fun v=>[v]) fun a b hab h=>hab (by simpa using h)
   ·intro e hee
    obtain⟨p,hp,rfl⟩:=List.mem_map.1 hee
    exact⟨p,hp,rfl⟩
   ·obtain⟨h1,h2,h3⟩:=hNb.bx p hp
    have h4:¬p.2=M:=bM h3 hNb.hm sS
    refine⟨by simp;exact h2,nbH p.1 H,by rw[bH,if_neg h4];exact h3,.refl _,fun h=>absurd (List.mem_map.2 ⟨_,List.mem_map.2 ⟨p,hp,rfl⟩,rfl⟩) h⟩
  ·rintro r L1 e L2 fr s2 ⟨F3,hnd,hem,hMd,hMl,hK2,hbx⟩ ft J hJ
   obtain⟨p,hp,rfl⟩:=hem e sS
   obtain⟨v,q⟩:=p
   obtain⟨hql,c,hcH,hcp,-⟩:=hbx (v,q) hp
   have hcl:c.length=(nbH v H).length:=hcp.length_eq
   have hnl:=uT v H
   simp only at hcl hcH hql hcp
   have hsort:=aGl c q s2 oO hql hcH
   rw[hcl]at hsort
   refine aE ?_
   simp[aBv,mkC]
   (repeat' (refine w_e [] ?_;intro J hJ;simp only[];simp[]))
   refine qE (hsort) (by simp[]) ?_;rintro r st' ⟨d,hd1,hd2,hd3,hd4⟩
   (repeat' (refine aE ?_;simp[];(refine hJ _ _ (zZ ?_);clear hJ J)))
   rw[List.map_append,List.map_cons,List.nodup_append,List.nodup_cons]at hnd
   obtain⟨nd1,⟨nd2,nd3⟩,nd4⟩:=hnd
   have hMq:¬M=q:=fun h=>by rw[h,hcH]at hMd;cases hMd
   refine hJ _ _ ⟨by simp[F3],?_,fun e he=>hem e (by simp only[List.mem_append,List.mem_cons]at he ⊢;rcases he with h|h;exact .inl h;exact .inr (.inr h)),by rw[hd4.2 M hMq hMl];exact hMd,Nat.lt_of_lt_of_le hMl hd4.1,?_,fun p hp2=>?_⟩ (by simp[ft]) (by rw[hd4.2 M hMq hMl];exact hMd)
   ·rw[List.map_append,List.nodup_append]
    exact⟨nd1,nd3,fun a ha b hb=>nd4 a ha b (List.mem_cons_of_mem _ hb)⟩
   ·have hq0:st.next≤q:=(hNb.bx (v,q) hp).1
    exact⟨Nat.le_trans hK2.next hd4.1,fun l hl=>by rw[hd4.2 l oO (Nat.lt_of_lt_of_le hl hK2.next)];exact hK2.H l hl⟩
   ·obtain⟨h1,c2,h2,h3,h4⟩:=hbx p hp2
    by_cases hpq:p.2=q
    ·obtain rfl:p=(v,q):=by
      exact jK hNb.nd hp2 hp hpq
     exact⟨Nat.lt_of_lt_of_le h1 hd4.1,d,hd1,hd2.trans hcp,fun _=>hd3⟩
    ·refine⟨Nat.lt_of_lt_of_le h1 hd4.1,c2,by rw[hd4.2 _ hpq h1];exact h2,h3,fun hno=>h4 fun hin=>hno ?_⟩
     rw[List.map_append,List.map_cons,List.mem_append,List.mem_cons]at hin
     rw[List.map_append,List.mem_append]
     rcases hin with h|h|h
     ·exact .inl h
     ·exfalso
      simp at h
      have e2:=jK hNb.kd hp2 hp h
      exact hpq (by rw[e2])
     ·exact .inr h
  ·rintro fr s2 ⟨F3,-,-,hMd,hMl,hK2,hbx⟩
   simp only[ak]
   have hnl:∀ v,(us (dS g.es v)).length=(nbH v H).length:=fun v=>by
    rw[List.length_map,← hHH];exact(pS _).length_eq
   (repeat' (first|refine qS ?_|(refine qR (zZ ?_);simp[F3])|(refine w_e [] ?_;intro J hJ;simp only[];simp[F3];(refine hJ _ _ (zZ ?_);clear hJ J))))
   refine⟨hM1,oO,hK2.set hM1 _,L.map fun p=>([p.1],p.2,us (dS g.es p.1)),?_,?_,?_,L.map (·.1),hNb.kd,?_,?_⟩
   ·congr 1
    rw[aDU,List.map_map,fR]
    refine List.map_congr_left fun p _=>?_
    simp only[Function.comp,hnl]
   ·intro a q b hin
    obtain⟨p,hp,he⟩:=List.mem_map.1 hin
    injection he with e1 e2
    injection e2 with e2 e3
    subst e1 e2 e3
    obtain⟨h1,c,h2,h3,h4⟩:=hbx p hp
    have h5:¬p.2=M:=fun h=>by rw[h,hMd]at h2;cases h2
    rw[if_neg h5]
    refine⟨(hNb.bx p hp).1,?_⟩
    rw[h2,aOO h3 (h4 sS),← hHH];rfl
   ·have:=hNb.nd
    rw[List.map_map];exact this
   ·intro v
    exact hNb.all v
   ·rw[List.map_map,List.map_map];rfl
 have hd:=aW (sE g.es) k hlt
 have hw:=qN k oO
 have hk3:k*3<(sE g.es).length*3:=oO
 have htk1:(sE g.es).take (k+1)=(sE g.es).take k++[(sE g.es).getD k ed0]:=by
  rw[List.getD_eq_getElem?_getD,List.getElem?_eq_getElem hlt];exact List.take_succ_eq_append_getElem hlt
 have hEl:(hfs ((sE g.es).take k)).length≤2000:=by rw[aBz,List.length_take];omega
 generalize (sE g.es).getD k ed0=x at *
 have hH2:hfs ((sE g.es).take (k+1))=hfs ((sE g.es).take k)++[(x.a,x.b)]++[(x.b,x.a)]:=by rw[htk1,aKs]
 obtain⟨id,a,b⟩:=x
 simp only at hd hH2
 generalize hfs ((sE g.es).take k)=H at *
 have b0:¬s.next=M:=oO
 (repeat' (first|refine qS ?_|refine qB ?_|(refine qK (zZ ?_))|(refine qC ?_;simp[f17,f18,f19,hlt,hd,hel,hk3])|(refine w_e [] ?_;intro J hJ;simp only[];simp[f17,f18,f19,hlt,hd,hel,hk3];(refine hJ _ _ (zZ ?_);clear hJ J))))
 refine aHA (fun f s'=>NrI st (sE g.es) M k H f s'∧f 7=.pt s.next 0∧s.next<s'.next∧s'.H s.next=.box 56 3 [u id,u a,u b]) ?_ ?_
 ·exact⟨⟨by simp[f3],by simp[f17],by simp[f18],by simp[f19],hM1,by simp;omega,hkp.trans (aA.new _ _),L,hNb.keeps (aA.new _ _) hM2⟩,sS,sS,sS⟩
 generalize s.next=X at *
 clear hNb hkp hM1 hM2 f19 f18 f17 f3 L
 rintro fr s ⟨⟨f3,f17,f18,f19,hM1,hM2,hkp,L,hNb⟩,f7,hXl,hX⟩
 refine bU (fun f s'=>NrI st (sE g.es) M k (H++[(a,b)]) f s'∧f 7=.pt X 0∧X<s'.next∧s'.H X=.box 56 3 [u id,u a,u b]) ?_ ?_
 ·clear hJJ
  have hMl:=hNb.hm
  have x1:¬X=M:=bM hX hMl sS
  have x2:¬M=X:=fun h=>x1 h.symm
  have x3:¬X=s.next:=oO
  have x4:¬X=s.next+1:=oO
  have y3:¬M=s.next:=oO
  have y4:¬M=s.next+1:=oO
  have y5:¬s.next=M:=oO
  have y6:¬s.next+1=M:=oO
  have hnl:=uT a (H)
  by_cases hin:a∈L.map (·.1)
  ·obtain⟨p,hp,rfl⟩:=List.mem_map.1 hin
   obtain⟨v,q⟩:=p
   obtain⟨L1,L2,rfl⟩:=List.append_of_mem hp
   have kd:=hNb.kd
   rw[List.map_append,List.map_cons,List.nodup_append]at kd
   have hget:=rF (H:=H) (q:=q) (L1:=L1) (L2:=L2) (v:=v) (fun e=>kd.2.2 v e v sS rfl)
   obtain⟨q1,q2,q3⟩:=hNb.bx (v,q) sS
   simp only at q1 q2 q3 hnl
   have z1:¬q=M:=bM q3 hMl sS
   have z2:¬q=s.next:=oO
   have z3:¬q=s.next+1:=oO
   have z4:¬X=q:=bM hX q3 sS
   have z5:¬M=q:=fun h=>z1 h.symm
   have z6:List.take (nbH v (H)).length (us (nbH v (H)))=us (nbH v (H)):=List.take_of_length_le sS
   have put:=hNb.put (b:=b) (q':=s.next+1) (s':=(((s.new (.own 34 1 1)).set q .dead).new (.box 34 1 (us (nbH v (H)++[b])))).set M (.map false [.u32] (aV (fR (H) (L1++(v,q)::L2)) [v] (.ms (s.next+1) 0 (nbH v (H)++[b]).length)))) ⟨oO,oO,sS⟩ sS (by(repeat (first|rw[nHh nOo]|rw[sHh oO]|rw[nIi nQq]|rw[sIi oO]))) (fun p hp h1 h2=>by
    have:=hNb.bx p (by rcases hp with hp|hp<;>simp[hp])
    have h3:¬p.2=M:=bM this.2.2 hMl sS
    (repeat (first|rw[nHh nOo]|rw[sHh oO]|rw[nIi nQq]|rw[sIi oO]))) (by simp;omega)
   generalize hF:nbH v (H)=F at *
   generalize hN:fR (H) (L1++(v,q)::L2)=EM at *
   (refine w_s [33] [X,M] [(0,true),(1,true),(2,true),(3,true),(4,true),(5,true),(6,true),(7,true),(8,true),(9,true),(10,true),(11,false)] ?_;intro J hJ;simp[f3,f7,hX,hMl,x1,x2,x3,x4,y3,y4,y5,y6,hget,q3,z1,z2,z3,z4,z5,z6];(repeat refine ca ?_);(refine hJ _ _ (zZ ?_);clear hJ J))
   refine⟨by trivial,⟨by simp[f3],by simp[f17],by simp[f18],by simp[f19],hM1,by simp;omega,?_,L1++(v,s.next+1)::L2,?_⟩,by simp[f7],by simp;omega,?_⟩
   ·refine⟨by have:=hkp.next;simp;omega,fun l hl=>?_⟩
    have:=hkp.next
    (repeat (first|rw[nHh nOo]|rw[sHh oO]|rw[nIi nQq]|rw[sIi oO]));exact hkp.H l hl
   ·simpa using put
   ·(repeat (first|rw[nHh nOo]|rw[sHh oO]|rw[nIi nQq]|rw[sIi oO]));exact hX
  ·have hget:=rJ (H:=H) hin
   have hnil:nbH a (H)=[]:=by
    cases hc:nbH a (H) with
    |nil=>rfl
    |cons _ _=>exact absurd ((hNb.all _).1 (by rw[hc];simp)) hin
   have put:=hNb.add (a:=a) (b:=b) (q':=s.next+1) (s':=((s.new (.own 34 1 1)).new (.box 34 1 (us (nbH a (H)++[b])))).set M (.map false [.u32] (aV (fR (H) L) [a] (.ms (s.next+1) 0 (nbH a (H)++[b]).length)))) hin ⟨oO,oO,sS⟩ sS (by(repeat (first|rw[nHh nOo]|rw[sHh oO]|rw[nIi nQq]|rw[sIi oO]))) (fun p hp=>by
    have:=hNb.bx p hp
    have h3:¬p.2=M:=bM this.2.2 hMl sS
    (repeat (first|rw[nHh nOo]|rw[sHh oO]|rw[nIi nQq]|rw[sIi oO]))) (by simp only[aQ,aC];omega)
   rw[hnil]at put
   generalize hN:fR (H) L=EM at *
   (refine w_s [33] [X,M] [(0,true),(1,true),(2,true),(3,true),(4,true),(5,true),(6,true),(7,true),(8,true),(9,true),(10,true),(11,false)] ?_;intro J hJ;simp[f3,f7,hX,hMl,x1,x2,x3,x4,y3,y4,y5,y6,hget];(repeat refine ca ?_);(refine hJ _ _ (zZ ?_);clear hJ J))
   refine⟨by trivial,⟨by simp[f3],by simp[f17],by simp[f18],by simp[f19],hM1,by simp;omega,?_,L++[(a,s.next+1)],?_⟩,by simp[f7],by simp;omega,?_⟩
   ·refine⟨by have:=hkp.next;simp;omega,fun l hl=>?_⟩
    have:=hkp.next
    (repeat (first|rw[nHh nOo]|rw[sHh oO]|rw[nIi nQq]|rw[sIi oO]));exact hkp.H l hl
   ·simpa using put
   ·(repeat (first|rw[nHh nOo]|rw[sHh oO]|rw[nIi nQq]|rw[sIi oO]));exact hX
 clear hNb hkp hM1 hM2 f19 f18 f17 f3 f7 hXl hX L
 rintro fr s ⟨⟨f3,f17,f18,f19,hM1,hM2,hkp,L,hNb⟩,f7,hXl,hX⟩
 have hEl2:(H++[(a,b)]).length≤2001:=by rw[List.length_append];simp only[List.length_cons,List.length_nil];omega
 generalize H++[(a,b)]=H2 at *
 refine xZ (fun f s'=>NrI st (sE g.es) M k (H2++[(b,a)]) f s'∧f 7=.pt X 0∧X<s'.next∧s'.H X=.box 56 3 [u id,u a,u b]) ?_ ?_
 ·clear hJJ
  have hMl:=hNb.hm
  have x1:¬X=M:=bM hX hMl sS
  have x2:¬M=X:=fun h=>x1 h.symm
  have x3:¬X=s.next:=oO
  have x4:¬X=s.next+1:=oO
  have y3:¬M=s.next:=oO
  have y4:¬M=s.next+1:=oO
  have y5:¬s.next=M:=oO
  have y6:¬s.next+1=M:=oO
  have hnl:=uT b (H2)
  by_cases hin:b∈L.map (·.1)
  ·obtain⟨p,hp,rfl⟩:=List.mem_map.1 hin
   obtain⟨v,q⟩:=p
   obtain⟨L1,L2,rfl⟩:=List.append_of_mem hp
   have kd:=hNb.kd
   rw[List.map_append,List.map_cons,List.nodup_append]at kd
   have hget:=rF (H:=H2) (q:=q) (L1:=L1) (L2:=L2) (v:=v) (fun e=>kd.2.2 v e v sS rfl)
   obtain⟨q1,q2,q3⟩:=hNb.bx (v,q) sS
   simp only at q1 q2 q3 hnl
   have z1:¬q=M:=bM q3 hMl sS
   have z2:¬q=s.next:=oO
   have z3:¬q=s.next+1:=oO
   have z4:¬X=q:=bM hX q3 sS
   have z5:¬M=q:=fun h=>z1 h.symm
   have z6:List.take (nbH v (H2)).length (us (nbH v (H2)))=us (nbH v (H2)):=List.take_of_length_le sS
   have put:=hNb.put (b:=a) (q':=s.next+1) (s':=(((s.new (.own 34 1 1)).set q .dead).new (.box 34 1 (us (nbH v (H2)++[a])))).set M (.map false [.u32] (aV (fR (H2) (L1++(v,q)::L2)) [v] (.ms (s.next+1) 0 (nbH v (H2)++[a]).length)))) ⟨oO,oO,sS⟩ sS (by(repeat (first|rw[nHh nOo]|rw[sHh oO]|rw[nIi nQq]|rw[sIi oO]))) (fun p hp h1 h2=>by
    have:=hNb.bx p (by rcases hp with hp|hp<;>simp[hp])
    have h3:¬p.2=M:=bM this.2.2 hMl sS
    (repeat (first|rw[nHh nOo]|rw[sHh oO]|rw[nIi nQq]|rw[sIi oO]))) (by simp;omega)
   generalize hF:nbH v (H2)=F at *
   generalize hN:fR (H2) (L1++(v,q)::L2)=EM at *
   (refine w_s [44] [X,M] [(0,true),(1,true),(2,true),(3,true),(4,true),(5,true),(6,true),(7,true),(8,true),(9,true),(10,true),(11,false)] ?_;intro J hJ;simp[f3,f7,hX,hMl,x1,x2,x3,x4,y3,y4,y5,y6,hget,q3,z1,z2,z3,z4,z5,z6];(repeat refine ca ?_);(refine hJ _ _ (zZ ?_);clear hJ J))
   refine⟨by trivial,⟨by simp[f3],by simp[f17],by simp[f18],by simp[f19],hM1,by simp;omega,?_,L1++(v,s.next+1)::L2,?_⟩,by simp[f7],by simp;omega,?_⟩
   ·refine⟨by have:=hkp.next;simp;omega,fun l hl=>?_⟩
    have:=hkp.next
    (repeat (first|rw[nHh nOo]|rw[sHh oO]|rw[nIi nQq]|rw[sIi oO]));exact hkp.H l hl
   ·simpa using put
   ·(repeat (first|rw[nHh nOo]|rw[sHh oO]|rw[nIi nQq]|rw[sIi oO]));exact hX
  ·have hget:=rJ (H:=H2) hin
   have hnil:nbH b (H2)=[]:=by
    cases hc:nbH b (H2) with
    |nil=>rfl
    |cons _ _=>exact absurd ((hNb.all _).1 (by rw[hc];simp)) hin
   have put:=hNb.add (a:=b) (b:=a) (q':=s.next+1) (s':=((s.new (.own 34 1 1)).new (.box 34 1 (us (nbH b (H2)++[a])))).set M (.map false [.u32] (aV (fR (H2) L) [b] (.ms (s.next+1) 0 (nbH b (H2)++[a]).length)))) hin ⟨oO,oO,sS⟩ sS (by(repeat (first|rw[nHh nOo]|rw[sHh oO]|rw[nIi nQq]|rw[sIi oO]))) (fun p hp=>by
    have:=hNb.bx p hp
    have h3:¬p.2=M:=bM this.2.2 hMl sS
    (repeat (first|rw[nHh nOo]|rw[sHh oO]|rw[nIi nQq]|rw[sIi oO]))) (by simp only[aQ,aC];omega)
   rw[hnil]at put
   generalize hN:fR (H2) L=EM at *
   (refine w_s [44] [X,M] [(0,true),(1,true),(2,true),(3,true),(4,true),(5,true),(6,true),(7,true),(8,true),(9,true),(10,true),(11,false)] ?_;intro J hJ;simp[f3,f7,hX,hMl,x1,x2,x3,x4,y3,y4,y5,y6,hget];(repeat refine ca ?_);(refine hJ _ _ (zZ ?_);clear hJ J))
   refine⟨by trivial,⟨by simp[f3],by simp[f17],by simp[f18],by simp[f19],hM1,by simp;omega,?_,L++[(b,s.next+1)],?_⟩,by simp[f7],by simp;omega,?_⟩
   ·refine⟨by have:=hkp.next;simp;omega,fun l hl=>?_⟩
    have:=hkp.next
    (repeat (first|rw[nHh nOo]|rw[sHh oO]|rw[nIi nQq]|rw[sIi oO]));exact hkp.H l hl
   ·simpa using put
   ·(repeat (first|rw[nHh nOo]|rw[sHh oO]|rw[nIi nQq]|rw[sIi oO]));exact hX
 clear hNb hkp hM1 hM2 f19 f18 f17 f3 f7 hXl hX L
 rintro fr s ⟨⟨f3,f17,f18,f19,hM1,hM2,hkp,L,hNb⟩,f7,hXl,hX⟩
 simp only[ak]
 (repeat' (refine w_e [] ?_;intro J hJ;simp only[];simp[f19,hw];(refine hJ _ _ (zZ ?_);clear hJ J)))
 exact hJJ ((sE g.es).length-(k+1)) _ _ oO ⟨k+1,oO,rfl,by simp[f3],by simp[f17],by simp[f18],sS,hM1,hM2,hkp,L,by rw[hH2];exact hNb⟩
def aOe(es:List Ed)(v:Int):Option LV:=if dS es v=[]then none else some (.sl 0 (dS es v).length (us (dS es v)))
theorem zB{es:List Ed}(v:Int):∀ {K:List Int},aY (K.map fun v=>(([v],.sl 0 (dS es v).length (us (dS es v))):List Int×LV)) [v]=if v∈K then some (.sl 0 (dS es v).length (us (dS es v)))else none
 |[]=>rfl
 |k::K=>by
  simp only[List.map_cons,aY]
  by_cases h:v=k
  ·subst h;simp
  ·have h':¬([v]==[k])=true:=by simpa using h
   rw[if_neg h',zB v (K:=K)]
   simp[h]
theorem aNR(g:Gr)(st:St)(hv:g.vs.length≤1048576)(he:g.es.length≤1000)(hp:0<st.next):
 aB Tryz.prog 91 [.ag (grL g)] st fun r st'=>∃ m es,r=.mp m∧st.next≤m∧m<st'.next∧aA st st'∧st'.H m=.map false [.u32] es∧∀ v,aY es [v]=aOe g.es v:=by
 refine(xA (R:=fun L=>∃ K:List Int,K.Nodup∧(∀ v,nbH v (hfs (sE g.es))≠[]↔v∈K)∧L.map (fun p=>(p.1,p.2.2))=K.map fun v=>([v],us (dS g.es v))) (aMj g st hv he hp)).mono ?_
 rintro r st' ⟨m,L,rfl,h1,h2,h3,h4,K,hK,hall,hL⟩
 refine⟨m,_,rfl,h1,h2,h3,h4,fun v=>?_⟩
 have e:aCD L=K.map fun v=>([v],.sl 0 (dS g.es v).length (us (dS g.es v))):=by
  have e1:aCD L=(L.map fun p=>(p.1,p.2.2)).map fun p=>(p.1,LV.sl 0 p.2.length p.2):=by rw[List.map_map];rfl
  rw[e1,hL,List.map_map]
  refine List.map_congr_left fun v _=>?_
  simp
 rw[e,zB]
 unfold aOe
 have hn:dS g.es v=[]↔nbH v (hfs (sE g.es))=[]:=by
  have:=(pS (nbH v (hfs (sE g.es)))).length_eq
  unfold dS
  constructor
  ·intro h;rw[h]at this;exact List.eq_nil_of_length_eq_zero this.symm
  ·intro h;rw[h];rfl
 by_cases hv:v∈K
 ·rw[if_pos hv,if_neg (fun h=>(hall v).2 hv (hn.1 h))]
 ·rw[if_neg hv]
  split
  ·rfl
  ·rename_i h
   exact absurd ((hall v).1 fun h2=>h (hn.2 h2)) hv
def nM(A:Led):List (List Int×LV):=A.map fun p=>([p.1],u p.2)
theorem aBW(A:Led)(v:Int):aY (nM A) [v]=(lK A v).map u:=by
 induction A with
 |nil=>rfl
 |cons p A ih=>
  simp only[nM,List.map_cons,aY,lK]at ih ⊢
  by_cases h:v=p.1
  ·subst h;simp
  ·rw[if_neg (by simpa using h),if_neg h];exact ih
theorem aKE{A:Led}{v w:Int}(h:v∉A.map (·.1)):aV (nM A) [v] (u w)=nM (A++[(v,w)]):=by
 induction A with
 |nil=>rfl
 |cons p A ih=>
  simp only[List.map_cons,List.mem_cons,not_or]at h
  have ih:=ih h.2
  simp only[nM,List.map_cons,List.cons_append,aV]at ih ⊢
  rw[if_neg (by simpa using h.1),ih]
theorem back(A:Led)(ma:Nat)(from' to:Int)(n:Nat)(l:List Int)(st:St)(hn:n≤100000)(hl:mU A from' n to=some l)(hm:ma<st.next)(hH:st.H ma=.map false [.u32] (nM A)):
 aB Tryz.prog 163 [.mp ma,u from',u to] st fun r st'=>r=.sl 0 (to::l).reverse.length (us (to::l).reverse)∧aA st st':=by
 have hll:=aAf hl
 refine bQ ?_
 refine qO aF Tryz.func163 rfl rfl Tryz.ntmps163 (rs:=[.tmp 6]) rfl sS ?_
 (repeat' (first|refine qS ?_|refine qB ?_|(refine w_e [10] ?_;intro J hJ;simp only[];simp[];refine hJ _ _ (zZ ?_))))
 refine qL (fun k fr s=>∃(v:Int) (W R:List Int),mU A from' k v=some R∧to::l=W++R∧k≤n∧W.length+k≤n+1∧fr 0=.mp ma∧fr 1=u from'∧fr 8=u v∧∃ q,fr 7=.ms q 0 W.length∧s.H q=.box 34 1 (us W)∧st.next≤q∧q<s.next∧aA st s) n ?_ ?_
 ·exact⟨to,[to],l,hl,rfl,oO,by simp;omega,sS,sS,sS,st.next,sS,sS,Nat.le_refl _,sS,aA.new _ _⟩
 rintro k fr s ⟨v,W,R,hb,hW,hk,hWk,f0,f1,f8,q,f7,hq,hq0,hql,hkp⟩ JJ hJJ
 have hHs:s.H ma=.map false [.u32] (nM A):=by rw[hkp.H ma hm];exact hH
 have hg:=aBW A v
 by_cases hv:v=from'
 ·clear hJJ
  have hR:R=[]:=by
   cases k<;>(simp only[mU,if_pos hv,Option.some.injEq]at hb;exact hb.symm)
  subst hR
  rw[List.append_nil]at hW
  have hv2:(v != from')=false:=by simpa using hv
  (repeat' (first|refine qS ?_|(refine qX (zZ ?_))|(refine qC ?_;simp[f1,f8,hv,hv2,f7])|(refine w_e [] ?_;intro J hJ;simp only[];simp[f1,f8,hv,hv2,f7];(try refine hJ _ _ (zZ ?_)))))
  refine qE (uR W q s (by unfold small;omega) hq) (by simp[]) ?_;rintro r st' rfl
  (repeat' (first|refine qS ?_|(refine qR (zZ ?_);simp[f7])|((first|(refine w_e [] ?_;intro J hJ;simp only[])|(refine aE ?_));simp[f7];refine hJ _ _ (zZ ?_))))
  exact⟨q,W.length,⟨rfl,rfl⟩,34,1,us W.reverse,sS,sS,by subst hW;simp,(hkp.set hq0 _).set hq0 _⟩
 ·cases k with
  |zero=>simp only[mU,if_neg hv]at hb;cases hb
  |succ k=>
   simp only[mU,if_neg hv,Option.map_eq_some_iff]at hb
   obtain⟨R',hb,rfl⟩:=hb
   have hv2:(v != from')=true:=by simpa using hv
   have hg2:((aY (nM A) [v]).getD (u 0))=u ((lK A v).getD 0):=by rw[hg];cases lK A v<;>rfl
   generalize (lK A v).getD 0=x at *
   have q1:¬q=s.next:=oO
   have htk:List.take W.length (us W)=us W:=List.take_of_length_le sS
   (repeat' (first|refine qS ?_|refine qB ?_|(refine qK (zZ ?_))|(refine qC ?_;simp[f0,f1,f8,hv,hv2,f7,hHs,hg2,q1,hq,htk])|(refine w_e [] ?_;intro J hJ;simp only[];simp[f0,f1,f8,hv,hv2,f7,hHs,hg2,q1,hq,htk];(repeat refine ca ?_);refine hJ _ _ (zZ ?_))))
   refine hJJ k _ _ oO ⟨x,W++[x],R',hb,by rw[hW];simp,oO,by simp;omega,by simp[f0],by simp[f1],sS,s.next+1,sS,sS,by have:=hkp.next;omega,sS,?_⟩
   exact(((hkp.trans (aA.new _ _)).set hq0 _).trans (aA.new _ _))
def aJL(th:LV)(may:Int→Bool)(st:St):Prop:=
 (th=.atom .nilFunc∧∀ v,may v=true)∨∃ f caps,th=.fn (.func f) caps∧caps.map norm=caps∧∀ v s,aA st s→aB Tryz.prog f (u v::caps) s fun r s'=>r=bb (may v)∧aA s s'
structure PaB(st0:St)(A:Led)(Q:List Int)(Ma Mn tq o:Nat)(es:List (List Int×LV))(s:St):Prop where
 ha:s.H Ma=.map false [.u32] (nM A)
 hn:s.H Mn=.map false [.u32] es
 hq:s.H tq=.que 34 (o+Q.length)
 b:st0.next≤Ma∧st0.next≤Mn∧st0.next≤tq∧Ma<s.next∧Mn<s.next∧tq<s.next∧tq≠0∧¬Mn=Ma
 kp:aA st0 s
set_option maxHeartbeats 4000000 in
theorem Path(g:Gr)(from' to:Int)(th:LV)(may:Int→Bool)(n:Nat)(l:List Int)(st:St)(hv:g.vs.length≤1048576)(he:g.es.length≤1000)(hn:n≤1000)(hm:aJL th may st)(hl:aGe g.vs (dS g.es) may from' to n=some l):
 aB Tryz.prog 113 [.ag (grL g),u from',u to,th] st fun r st'=>r=.sl 0 l.length (us l)∧aA st st':=by
 have hth:norm th=th:=by rcases hm with⟨rfl,_⟩|⟨f,c,rfl,_,_⟩<;>rfl
 refine cQ ?_
 refine qO aF Tryz.func113 rfl rfl Tryz.ntmps113 (rs:=[.tmp 8]) rfl sS ?_
 refine cG fun hpos=>?_
 (repeat' (first|refine qS ?_|(refine w_e [] ?_;intro J hJ;simp only[];simp[];(try (refine hJ _ _ (zZ ?_);clear hJ J)))))
 refine qE (aLJ g from' _ hv) sS ?_;rintro r s1 ⟨rfl,hk1⟩
 have hn1:=hk1.next
 simp only[aC]at hn1
 have hG1:s1.H st.next=.box 25 2 (grL g):=by rw[hk1.H _ sS];simp
 have hkp1:aA st s1:=(aA.new _ _).trans hk1
 clear hk1
 unfold aGe at hl
 by_cases hf:from'∈g.vs
 rotate_left
 ·have h0:gi g.vs from' < 0:=(aBB _ _).2 hf
  rw[if_pos (.inl hf)]at hl
  injection hl with hl
  subst hl
  (refine aE ?_;simp[h0];(refine hJ _ _ (zZ ?_);clear hJ J))
  (repeat' (first|refine qS ?_|(refine qR (zZ ?_);simp[])|(refine qC ?_;simp[])|(refine w_e [] ?_;intro J hJ;simp only[];simp[];(refine hJ _ _ (zZ ?_);clear hJ J))))
  exact⟨rfl,hkp1⟩
 have h0:¬gi g.vs from' < 0:=fun h=>(aBB _ _).1 h hf
 (refine aE ?_;simp[h0,hG1])
 refine qE (aLJ g to _ hv) sS ?_;rintro r s2 ⟨rfl,hk2⟩
 have hn2:=hk2.next
 have hG2:=(hk2.H st.next oO).trans hG1
 have hkp2:=hkp1.trans hk2
 clear hk2 hkp1 hG1 h0
 by_cases ht:to∈g.vs
 rotate_left
 ·have h0:gi g.vs to<0:=(aBB _ _).2 ht
  rw[if_pos (.inr ht)]at hl
  injection hl with hl
  subst hl
  (refine aE ?_;simp[h0];(refine hJ _ _ (zZ ?_);clear hJ J))
  (repeat' (first|refine qS ?_|(refine qR (zZ ?_);simp[])|(refine qC ?_;simp[])|(refine w_e [] ?_;intro J hJ;simp only[];simp[];(refine hJ _ _ (zZ ?_);clear hJ J))))
  exact⟨rfl,hkp2⟩
 have h0:¬gi g.vs to<0:=fun h=>(aBB _ _).1 h ht
 rw[if_neg (by simp[hf,ht])]at hl
 (refine aE ?_;simp[h0];(refine hJ _ _ (zZ ?_);clear hJ J))
 by_cases hft:from'=to
 ·rw[if_pos hft]at hl
  injection hl with hl
  subst hl
  (repeat' (first|refine qS ?_|(refine qK (zZ ?_))|(refine qR (zZ ?_);simp[hft])|(refine qC ?_;simp[hft])|(refine w_e [] ?_;intro J hJ;simp only[];simp[hft];(refine hJ _ _ (zZ ?_);clear hJ J))))
  refine⟨by simp[z0,z0L,hft],hkp2.trans (aA.new _ _)⟩
 rw[if_neg hft]at hl
 (repeat' (first|refine qS ?_|(refine qK (zZ ?_))|(refine qC ?_;simp[hft,hG2])|(refine w_e [] ?_;intro J hJ;simp only[];simp[hft,hG2];(try (refine hJ _ _ (zZ ?_);clear hJ J)))))
 refine qE (aNR g _ hv he oO) sS ?_;rintro r s3 ⟨Mn,es,rfl,m1,m2,hk3,hMn,hes⟩
 have hn3:=hk3.next
 have hkp3:=hkp2.trans hk3
 obtain⟨R0,hbfs,hR0⟩:∃ R0,bfs (dS g.es) may to n [(from',from')] [from']=some R0∧((R0=none∧l=[])∨∃ A l',R0=some A∧mU A from' n to=some l'∧l=(to::l').reverse):=by
  cases hb:bfs (dS g.es) may to n [(from',from')] [from'] with
  |none=>rw[hb]at hl;cases hl
  |some R0=>
   rw[hb]at hl
   cases R0 with
   |none=>injection hl with hl;exact⟨_,rfl,.inl ⟨rfl,hl.symm⟩⟩
   |some A=>
    simp only[Option.map_eq_some_iff]at hl
    obtain⟨l',h1,h2⟩:=hl
    exact⟨_,rfl,.inr ⟨A,l',rfl,h1,h2.symm⟩⟩
 clear hl
 (repeat' (first|refine qS ?_|refine qB ?_|((first|(refine w_e [] ?_;intro J hJ;simp only[])|(refine aE ?_));simp[];(refine hJ _ _ (zZ ?_);clear hJ J))))
 refine aNG 11 (t:=s3.next+1) (n:=1) (e:=34) (cs:=[u from']) sS sS oO oO ?_
 have hc0:¬Mn=s3.next:=oO
 have hc1:¬Mn=s3.next+1:=oO
 refine qL (fun k fr s=>∃(A:Led) (Q:List Int) (tq o:Nat),bfs (dS g.es) may to k A Q=some R0∧k≤n∧Q.length+2000*k≤2000*n+1∧fr 1=u from'∧fr 2=u to∧fr 3=th∧fr 9=.mp Mn∧fr 10=.mp s3.next∧fr 11=.qu tq o Q.length (us Q)∧PaB st A Q s3.next Mn tq o es s) n ?_ ?_
 ·refine⟨_,_,s3.next+1,0,hbfs,Nat.le_refl _,by simp;omega,sS,sS,sS,sS,sS,sS,?_⟩
  refine⟨by simp[nM,aV],by simp[hc0,hc1,hMn],sS,⟨oO,oO,oO,by simp;omega,by simp;omega,sS,oO,hc0⟩,?_⟩
  exact(((hkp3.trans (aA.new _ _)).trans (aA.new _ _)).set (q:=s3.next+1) oO _)
 generalize s3.next=Ma at *
 clear hk3 hn3 hkp3 hMn m1 m2 hG2 hkp2 hn2 hn1 hc0 hc1 hbfs
 rintro k fr s ⟨A,Q,tq,o,hb,hk,hQ,f1,f2,f3,f9,f10,f11,hPa,hPn,hPq,⟨b1,b2,b3,b4,b5,b6,b7,b8⟩,hkp⟩ JJ hJJ
 cases Q with
 |nil=>
  clear hJJ
  have h1:R0=none:=by cases k<;>(simp only[bfs,Option.some.injEq]at hb;exact hb.symm)
  subst h1
  rcases hR0 with⟨_,rfl⟩|⟨_,_,h,_⟩
  ·(repeat' (first|refine qS ?_|(refine qX (zZ ?_))|(refine qR (zZ ?_);simp[f11])|(refine qC ?_;simp[f11])|(refine w_e [] ?_;intro J hJ;simp only[];simp[f11];(refine hJ _ _ (zZ ?_);clear hJ J))))
   exact⟨rfl,hkp⟩
  ·cases h
 |cons v Q=>
 cases k with
 |zero=>simp[bfs]at hb
 |succ k=>
 have hQl:(Q.length:Int)+1 > 0:=oO
 have hrow:=hes v
 have hrl:=aGP g.es v
 simp only[bfs]at hb
 generalize hrw:dS g.es v=row at *
 have hslc:List.take (Q.length+1-1) (us Q)=us Q:=List.take_of_length_le sS
 have hbn:¬(Q.length:Int)+1≤0:=oO
 (repeat (first|refine qS ?_|refine qB ?_))
 (refine w_e [] ?_;intro J hJ;simp only[];simp[f11,hQl];(refine hJ _ _ (zZ ?_);clear hJ J))
 (repeat (first|refine qS ?_|refine qB ?_))
 (refine qC ?_;simp[])
 refine qK ?_;simp only[ak]
 (repeat (first|refine qS ?_|refine qB ?_))
 (refine w_e [] ?_;intro J hJ;simp only[];simp[f11,hQl];(refine hJ _ _ (zZ ?_);clear hJ J))
 (repeat (first|refine qS ?_|refine qB ?_))
 (refine w_e [] ?_;intro J hJ;simp only[];simp[f11,hQl,hslc];(repeat refine ca ?_);(refine hJ _ _ (zZ ?_);clear hJ J))
 refine qS ?_
 refine bU (fun f s'=>s'=s∧f 1=u from'∧f 2=u to∧f 3=th∧f 9=.mp Mn∧f 10=.mp Ma∧f 11=.qu tq (o+1) Q.length (us Q)∧f 12=u v∧(f 50=.nil∧row=[]∨f 50=.sl 0 row.length (us row))∧f 51=i row.length∧f 52=i (0:Nat)) ?_ ?_
 ·clear hJJ
  unfold aOe at hrow
  rw[hrw]at hrow
  by_cases hr0:row=[]
  ·rw[if_pos hr0]at hrow
   (repeat' (refine w_e [] ?_;intro J hJ;simp only[];simp[f9,hPn,hrow];(refine hJ _ _ (zZ ?_);clear hJ J)))
   simp[f1,f2,f3,f9,f10,hr0]
  ·rw[if_neg hr0]at hrow
   (repeat' (refine w_e [] ?_;intro J hJ;simp only[];simp[f9,hPn,hrow];(refine hJ _ _ (zZ ?_);clear hJ J)))
   simp[f1,f2,f3,f9,f10]
 clear f1 f2 f3 f9 f10 f11 fr hrow
 rintro fr s' ⟨rfl,f1,f2,f3,f9,f10,f11,f12,f50,f51,f52⟩
 refine qB ?_
 refine aM 52 51 53 84 row.length (fun j fr st2=>fr 1=u from'∧fr 2=u to∧fr 3=th∧fr 9=.mp Mn∧fr 10=.mp Ma∧fr 12=u v∧(fr 50=.nil∧row=[]∨fr 50=.sl 0 row.length (us row))∧(dK may to v ⟨A,Q,false⟩ (row.take j)).hit=false∧∃ tq o,fr 11=.qu tq o (dK may to v ⟨A,Q,false⟩ (row.take j)).Q.length (us (dK may to v ⟨A,Q,false⟩ (row.take j)).Q)∧PaB st (dK may to v ⟨A,Q,false⟩ (row.take j)).A (dK may to v ⟨A,Q,false⟩ (row.take j)).Q Ma Mn tq o es st2) ?_ ?_ ?_ (hti:=f52) (htn:=f51)
 ·refine⟨f1,f2,f3,f9,f10,f12,f50,rfl,tq,o+1,f11,⟨hPa,hPn,?_,⟨b1,b2,b3,b4,b5,b6,b7,b8⟩,hkp⟩⟩
  rw[hPq]
  simp only[List.take_zero,dK,List.foldl_nil,List.length_cons]
  congr 1
  omega
 ·clear f1 f2 f3 f9 f10 f11 f12 f50 f51 f52 hPa hPn hPq b1 b2 b3 b4 b5 b6 b7 b8 hkp fr hJJ
  rintro j fr s hlt ⟨f1,f2,f3,f9,f10,f12,f50,hh,tq,o,f11,hPa,hPn,hPq,⟨b1,b2,b3,b4,b5,b6,b7,b8⟩,hkp⟩ fi fn J hJ
  have f50:fr 50=.sl 0 row.length (us row):=by
   rcases f50 with⟨_,h⟩|h
   ·rw[h]at hlt;simp at hlt
   ·exact h
  have hd:=qG row j hlt
  have htk:row.take (j+1)=row.take j++[row.getD j 0]:=by
   rw[List.getD_eq_getElem?_getD,List.getElem?_eq_getElem hlt];exact List.take_succ_eq_append_getElem hlt
  have hsc:=aEz may to v ⟨A,Q,false⟩ (row.take j) (row.getD j 0)
  rw[← htk]at hsc
  have hsl:=aAg may to v ⟨A,Q,false⟩ (row.take j)
  simp only[List.length_take]at hsl
  have hfull:(dK may to v ⟨A,Q,false⟩ (row.take (j+1))).hit=true→dK may to v ⟨A,Q,false⟩ row=dK may to v ⟨A,Q,false⟩ (row.take (j+1)):=by
   intro h
   have:row=row.take (j+1)++row.drop (j+1):=(List.take_append_drop _ _).symm
   rw[this,dK,List.foldl_append]
   have h2:=aHv may to v h (row.drop (j+1))
   simp only[dK]at h2 ⊢
   rw[h2]
   simp
  generalize row.getD j 0=x at *
  generalize hS:dK may to v ⟨A,Q,false⟩ (row.take j)=S at *
  obtain⟨SA,SQ,Sh⟩:=S
  simp only at hh f11 hPa hPq hsl
  subst hh
  have hmg:=aBW SA x
  have hqa:¬tq=Ma:=bM hPq hPa sS
  have hqn:¬tq=Mn:=bM hPq hPn sS
  have hqa':¬Ma=tq:=fun h=>hqa h.symm
  have hqn':¬Mn=tq:=fun h=>hqn h.symm
  by_cases hin:x∈SA.map (·.1)
  ·obtain⟨y,hy⟩:=wO hin
   rw[hy]at hmg
   simp only[Option.map_some]at hmg
   have h1:jU may to v ⟨SA,SQ,false⟩ x=⟨SA,SQ,false⟩:=by simp[jU,hin]
   rw[h1]at hsc
   (repeat' (first|refine qS ?_|(refine qX (zZ ?_))|(refine qC ?_;simp[f10,f50,fi,fn,hd,hlt,hPa,hmg])|(refine w_e [] ?_;intro J hJ;simp only[];simp[f10,f50,fi,fn,hd,hlt,hPa,hmg];(refine hJ _ _ (zZ ?_);clear hJ J))))
   refine hJ _ _ (by simp[fi]) (by simp[fn]) ⟨by simp[f1],by simp[f2],by simp[f3],by simp[f9],by simp[f10],by simp[f12],.inr (by simp[f50]),by rw[hsc],tq,o,by rw[hsc];simp[f11],by rw[hsc];exact⟨hPa,hPn,hPq,⟨b1,b2,b3,b4,b5,b6,b7,b8⟩,hkp⟩⟩
  rw[yJ hin]at hmg
  simp only[Option.map_none]at hmg
  have hms:aV (nM SA) [x] (u v)=nM (SA++[(x,v)]):=aKE hin
  by_cases hxt:x=to
  ·clear hJ
   subst hxt
   have h1:jU may x v ⟨SA,SQ,false⟩ x=⟨SA++[(x,v)],SQ,true⟩:=by unfold jU;rw[if_neg sS,if_neg hin,if_pos rfl]
   rw[h1]at hsc
   have hf2:=hfull (by rw[hsc])
   rw[hf2,hsc]at hb
   simp only[if_true,Option.some.injEq]at hb
   subst hb
   rcases hR0 with⟨h,_⟩|⟨A2,l',h,hbk,rfl⟩
   ·cases h
   injection h with h
   subst h
   (repeat' (first|refine qS ?_|(refine qK (zZ ?_))|(refine qC ?_;simp[f1,f2,f10,f12,f50,fi,fn,hd,hlt,hPa,hmg,hms])|(refine w_e [] ?_;intro J hJ;simp only[];simp[f1,f2,f10,f12,f50,fi,fn,hd,hlt,hPa,hmg,hms];(try (refine hJ _ _ (zZ ?_);clear hJ J)))))
   refine qE (back (SA++[(x,v)]) Ma from' x n l' _ oO hbk (by simp;exact b4) sS) sS ?_;rintro r s4 ⟨rfl,hk4⟩
   (repeat' (first|(refine qR (zZ ?_);simp[])|(refine aE ?_;simp[];(refine hJ _ _ (zZ ?_);clear hJ J))))
   refine⟨by simp only[z0];congr 1;have:=sM (x::l').reverse;simpa using this,?_⟩
   exact(hkp.set b1 _).trans hk4
  have h1:jU may to v ⟨SA,SQ,false⟩ x=⟨SA++[(x,v)],if may x=true then SQ++[x]else SQ,false⟩:=by unfold jU;rw[if_neg sS,if_neg hin,if_neg hxt]
  rw[h1]at hsc
  have tn0:¬tq=s.next:=oO
  have hQ2:SQ.length≤3000000:=by simp only[List.length_cons]at hQ;omega
  have hT2:∀ m s',s'.H Ma=.map false [.u32] (nM (SA++[(x,v)]))→s'.H Mn=.map false [.u32] es→s'.H m=.que 34 (0+(SQ++[x]).length)→st.next≤m→m<s'.next→s.next≤s'.next→aA st s'→PaB st (SA++[(x,v)]) (SQ++[x]) Ma Mn m 0 es s':=fun m s' h1 h2 h3 h4 h5 h6 h7=>⟨h1,h2,h3,⟨b1,b2,h4,oO,oO,h5,oO,b8⟩,h7⟩
  have hT1:∀ s',s'.H Ma=.map false [.u32] (nM (SA++[(x,v)]))→s'.H Mn=.map false [.u32] es→s'.H tq=.que 34 (o+SQ.length)→s.next≤s'.next→aA st s'→PaB st (SA++[(x,v)]) SQ Ma Mn tq o es s':=fun s' h1 h2 h3 h6 h7=>⟨h1,h2,h3,⟨b1,b2,b3,oO,oO,oO,b7,b8⟩,h7⟩
  rcases hm with⟨rfl,hm⟩|⟨f,caps,rfl,hcaps,hm⟩
  ·rw[if_pos (hm x)]at hsc
   (repeat' (first|refine qS ?_|(refine qK (zZ ?_))|(refine qC ?_;simp[f1,f2,f3,f10,f11,f12,f50,fi,fn,hd,hlt,hPa,hmg,hms,hxt,hPq,hqa,hqn,hqa',hqn',tn0])|(refine w_e [] ?_;intro J hJ;simp only[];simp[f1,f2,f3,f10,f11,f12,f50,fi,fn,hd,hlt,hPa,hmg,hms,hxt,hPq,hqa,hqn,hqa',hqn',tn0];(repeat refine ca ?_);(refine hJ _ _ (zZ ?_);clear hJ J))))
   refine hJ _ _ (by simp[fi]) (by simp[fn]) ⟨by simp[f1],by simp[f2],by simp[f3],by simp[f9],by simp[f10],by simp[f12],.inr (by simp[f50]),by rw[hsc],s.next+1,0,by rw[hsc];simp,?_⟩
   rw[hsc]
   refine hT2 _ _ (by(repeat (first|rw[nHh nOo]|rw[sHh oO]|rw[nIi nQq]|rw[sIi oO]))) (by(repeat (first|rw[nHh nOo]|rw[sHh oO]|rw[nIi nQq]|rw[sIi oO]));exact hPn) (by(repeat (first|rw[nHh nOo]|rw[sHh oO]|rw[nIi nQq]|rw[sIi oO]));simp) oO sS (by simp;omega) ?_
   exact((((hkp.set b1 _).trans (aA.new _ _)).set b3 _).trans (aA.new _ _))
  ·(repeat' (first|refine qS ?_|(refine qK (zZ ?_))|(refine qC ?_;simp[f1,f2,f3,f10,f11,f12,f50,fi,fn,hd,hlt,hPa,hmg,hms,hxt])|(refine w_e [] ?_;intro J hJ;simp only[];simp[f1,f2,f3,f10,f11,f12,f50,fi,fn,hd,hlt,hPa,hmg,hms,hxt];(try (refine hJ _ _ (zZ ?_);clear hJ J)))))
   have hkz:aA st (s.set Ma (.map false [.u32] (nM (SA++[(x,v)])))):=hkp.set b1 _
   refine qE (hm x _ hkz) (by simp[hcaps]) ?_;rintro r s4 ⟨rfl,hk4⟩
   have hn4:=hk4.next
   simp only[aQ]at hn4
   have hPa4:s4.H Ma=.map false [.u32] (nM (SA++[(x,v)])):=by rw[hk4.H Ma (by simp;exact b4)];simp
   have hPn4:s4.H Mn=.map false [.u32] es:=by rw[hk4.H Mn (by simp;exact b5)];simp[b8,hPn]
   have hPq4:s4.H tq=.que 34 (o+SQ.length):=by rw[hk4.H tq (by simp;exact b6)];simp[hqa,hPq]
   have tn4:¬tq=s4.next:=oO
   cases hmy:may x
   ·rw[hmy,if_neg sS]at hsc
    (repeat' (first|(refine qK (zZ ?_))|(refine qC ?_;simp[f11])|(refine aE ?_;simp[f11];(refine hJ _ _ (zZ ?_);clear hJ J))))
    refine hJ _ _ (by simp[fi]) (by simp[fn]) ⟨by simp[f1],by simp[f2],by simp[f3],by simp[f9],by simp[f10],by simp[f12],.inr (by simp[f50]),by rw[hsc],tq,o,by rw[hsc];simp[f11],?_⟩
    rw[hsc]
    exact hT1 _ hPa4 hPn4 hPq4 hn4 (hkz.trans hk4)
   ·rw[hmy,if_pos rfl]at hsc
    (repeat' (first|(refine qC ?_;simp[f11,hPq4,tn4])|((first|(refine w_e [] ?_;intro J hJ;simp only[])|(refine aE ?_));simp[f11,hPq4,tn4];(repeat refine ca ?_);(refine hJ _ _ (zZ ?_);clear hJ J))))
    refine hJ _ _ (by simp[fi]) (by simp[fn]) ⟨by simp[f1],by simp[f2],by simp[f3],by simp[f9],by simp[f10],by simp[f12],.inr (by simp[f50]),by rw[hsc],s4.next+1,0,by rw[hsc];simp,?_⟩
    rw[hsc]
    refine hT2 _ _ (by(repeat (first|rw[nHh nOo]|rw[sHh oO]|rw[nIi nQq]|rw[sIi oO]));exact hPa4) (by(repeat (first|rw[nHh nOo]|rw[sHh oO]|rw[nIi nQq]|rw[sIi oO]));exact hPn4) (by(repeat (first|rw[nHh nOo]|rw[sHh oO]|rw[nIi nQq]|rw[sIi oO]));simp) oO sS (by simp;omega) ?_
    exact((((hkz.trans hk4).trans (aA.new _ _)).set b3 _).trans (aA.new _ _))
 ·rintro fr s ⟨f1,f2,f3,f9,f10,f12,f50,hh,tq,o,f11,hB⟩
  rw[List.take_length]at hh f11 hB
  rw[if_neg (by rw[hh];simp)]at hb
  have hsl:=aAg may to v ⟨A,Q,false⟩ row
  simp only at hsl
  simp only[ak]
  refine hJJ k _ _ oO ⟨_,_,tq,o,hb,oO,by simp only[List.length_cons]at hQ;omega,by simp[f1],by simp[f2],by simp[f3],by simp[f9],by simp[f10],by simp[f11],hB⟩
theorem aGy{vs:List Int}{v:Int}(h:v∉vs):aY (sC vs) [v]=none:=by
 have key:∀(L:List Nat),(∀ j∈L,j<vs.length)→aY (L.map fun k=>(([vs.getD k 0],i k):List Int×LV)) [v]=none:=by
  intro L
  induction L with
  |nil=>intro _;rfl
  |cons j L ih=>
   intro hL
   have hj:=hL j sS
   have hne:¬v=vs.getD j 0:=fun e=>h (by rw[e,aI _ _ hj];exact List.getElem_mem _)
   simp only[List.map_cons,aY]
   rw[if_neg (by simpa using hne)]
   exact ih fun j hj=>hL j (List.mem_cons_of_mem _ hj)
 exact key _ fun j hj=>List.mem_range.1 hj
def aIu(vs:List Int)(v:Int):Int:=if v∈vs then v else vs.getD 0 0
theorem aPG{vs:List Int}{S pl:Nat}{st:St}(hS:ShB vs S pl st)(hn:vs.Nodup)(h64:vs.length≤64)(h0:0<vs.length)(v:Int):
 aB Tryz.prog 110 [.pt S 0,u v] st fun r st'=>r=wv (mk vs [aIu vs v])∧st'=st:=by
 unfold aIu
 by_cases hv:v∈vs
 ·rw[if_pos hv];exact aMC hS hn h64 hv
 ·rw[if_neg hv]
  obtain⟨⟨a,b,c,d,e,f,hSb⟩,hP⟩:=hS
  have h1:=aGy hv
  have h2:=aFC hn h64 h0
  have h2:aAM .u64 1 0=mk vs [vs.getD 0 0]:=h2
  refine qO aF Tryz.func110 rfl rfl Tryz.ntmps110 (rs:=[.tmp 4]) rfl sS ?_
  (repeat' (first|refine qS ?_|(refine qR (zZ ?_);simp[hSb,hP,h1,h2])|(refine w_e [] ?_;intro J hJ;simp only[];simp[hSb,hP,h1,h2];refine hJ _ _ (zZ ?_))))
def inW(vs inner:List Int)(v:Int):Bool:=decide (aIu vs v∈inner)
theorem aPE{vs inner:List Int}(h64:vs.length≤64){v:Int}(hv:v∈vs):((rN .u64 (mk vs [v]) (mk vs inner):Int) != 0)=decide (v∈inner):=by
 rw[aKH _ _ _ h64]
 by_cases h:v∈inner
 ·have:mk vs ([v].filter fun v=>decide (v∈inner))≠0:=fun e=>by
   have:=(mk_zero _ _).1 e v hv
   simp[h]at this
  simpa[h]using this
 ·have:mk vs ([v].filter fun v=>decide (v∈inner))=0:=(mk_zero _ _).2 fun w _=>by simp[h]
  rw[this];simp[h]
theorem aPO{vs inner:List Int}{e:LV}{S pl a b:Nat}{st:St}(hS:ShB vs S pl st)(hn:vs.Nodup)(h64:vs.length≤64)(h0:0<vs.length)(ha:st.H a=.box 113 1 [.pt S 0])(hb:st.H b=.box 121 2 [wv (mk vs inner),e])(v:Int):
 aB Tryz.prog 119 [u v,.pt a 0,.pt b 0] st fun r st'=>r=bb (inW vs inner v)∧st'=st:=by
 have hbv:aIu vs v∈vs:=by
  unfold aIu
  by_cases h:v∈vs
  ·rw[if_pos h];exact h
  ·rw[if_neg h,aI _ _ h0];exact List.getElem_mem _
 have hin:=aPE (inner:=inner) h64 hbv
 unfold inW
 refine qO aF Tryz.func119 rfl rfl Tryz.ntmps119 (rs:=[.tmp 4]) rfl sS ?_
 (repeat' (first|refine qS ?_|(refine w_e [] ?_;intro J hJ;simp only[];simp[];refine hJ _ _ (zZ ?_))))
 (refine w_s [] [a,b] [(0,true),(1,true),(3,true),(4,true),(2,true),(5,true),(6,true),(7,true)] ?_;intro J hJ;simp[ha,hb])
 refine qD (aPG hS hn h64 h0 v) sS ?_;rintro r s1 ⟨rfl,h1⟩
 rw[h1];clear h1 s1
 refine⟨fun h=>by first|(cases h;done)|exact fun _ _=>rfl|simp,?_⟩
 (refine bE ?_;simp[hb,hin];refine hJ _ _ (zZ ?_))
 (repeat' (refine qR (zZ ?_);simp[]))
theorem aRE{vs inner:List Int}{e:LV}{S pl a b c:Nat}{st:St}(hS:ShB vs S pl st)(hn:vs.Nodup)(h64:vs.length≤64)(h0:0<vs.length)(ha:st.H a=.box 113 1 [.pt S 0])(hb:st.H b=.box 121 2 [wv (mk vs inner),e])
 (hc:st.H c=.box 129 1 [.fn (.func 119) [.pt a 0,.pt b 0]]) (hlt:S<st.next∧pl<st.next∧a<st.next∧b<st.next∧c<st.next) (x:Ed):
 aB Tryz.prog 120 [.ag (edL x),.pt c 0] st fun r st'=>r=bb (inW vs inner x.a||inW vs inner x.b)∧aA st st':=by
 obtain⟨d,p,q⟩:=x
 obtain⟨⟨e1,e2,e3,e4,e5,e6,hSb⟩,hP⟩:=hS
 have hk:=aA.new st (.box 56 3 (edL ⟨d,p,q⟩))
 have hW:=fun v=>aPO (vs:=vs) (inner:=inner) (e:=e) (S:=S) (pl:=pl) (a:=a) (b:=b) (st:=st.new (.box 56 3 (edL ⟨d,p,q⟩))) ⟨⟨e1,e2,e3,e4,e5,e6,(hk.H S hlt.1).trans hSb⟩,(hk.H pl hlt.2.1).trans hP⟩ hn h64 h0 ((hk.H a hlt.2.2.1).trans ha) ((hk.H b hlt.2.2.2.1).trans hb) v
 have c1:¬c=st.next:=oO
 refine qO aF Tryz.func120 rfl rfl Tryz.ntmps120 (rs:=[.tmp 3]) rfl sS ?_
 (repeat' (first|refine qS ?_|(refine w_e [] ?_;intro J hJ;simp only[];simp[hc,c1];(try refine hJ _ _ (zZ ?_)))))
 refine qE (hW p) sS ?_;rintro r s1 ⟨rfl,h1⟩
 rw[h1];clear h1 s1
 cases hp:inW vs inner p
 ·(refine aE ?_;simp[hc,c1])
  refine qE (hW q) sS ?_;rintro r s1 ⟨rfl,h1⟩
  rw[h1];clear h1 s1
  (repeat' (first|(refine qR (zZ ?_);simp[])|(refine aE ?_;simp[];refine hJ _ _ (zZ ?_))))
  exact⟨fun h=>(by rw[hp]at h;cases h),hk⟩
 ·(repeat' (first|(refine qR (zZ ?_);simp[])|(refine aE ?_;simp[];refine hJ _ _ (zZ ?_))))
  exact⟨.inl hp,hk⟩
theorem aFG(g:Gr)(f:FuncId)(caps:List LV)(p:Ed→Bool)(st:St)(hv:g.vs.length≤1000)(he:g.es.length≤1000)(hp:aCc f caps st g.es p):
 aB Tryz.prog 111 [.ag (grL g),.fn (.func f) caps] st fun r st'=>r=.ag (grL ⟨g.vs,g.es.filter p⟩)∧aA st st':=by
 refine cQ ((aRh g f caps p st hv he hp).mono ?_)
 rintro r st' ⟨⟨X,rfl,hX⟩,hk⟩
 refine⟨?_,hk⟩
 simp only[z0,z0L,sM]
 congr 1
 rcases hX with⟨rfl,h⟩|⟨t,rfl⟩
 ·rw[h];simp[z0]
 ·simp only[z0,kW]
def zR(g:Gr)(inner:List Int):Gr:=⟨g.vs,g.es.filter fun x=>inW g.vs inner x.a||inW g.vs inner x.b⟩
def aJH(g:Gr)(b:Brg):Int:=g.vs.getD (fst' g.vs b.ends) 0
def lV(g:Gr)(b:Brg):List Int:=b.ends.filter fun w=>decide (w≠aJH g b)
def toW(g:Gr)(b:Brg):Int:=g.vs.getD (fst' g.vs (lV g b)) 0
def aOg(g:Gr)(b:Brg):Option (List Int):=
 if fst' g.vs b.ends<g.vs.length∧fst' g.vs (lV g b)<g.vs.length then
  if nrS g.vs b.inner=[]then some [aJH g b,toW g b]else aGe g.vs (dS (zR g b.inner).es) (inW g.vs b.inner) (aJH g b) (toW g b) 1000
 else none
set_option maxHeartbeats 2000000 in
theorem aRS{g:Gr}(hg:GP g){L:List (Int×Int)}{on:List Int}{F:List (List Int)}{S nl pl ll fl:Nat}{le:List (List Int×LV)}{st:St}(hS:ShA g L on F S nl pl ll fl le st){b:Brg}(hb:∀ v∈b.ends,v∈g.vs){w:List Int}(hw:aOg g b=some w):
 aB Tryz.prog 77 [.pt S 0,aLF g.vs b] st fun r st'=>r=.sl 0 w.length (us w)∧st'=st:=by
 refine qT (Q:=fun r=>r=.sl 0 w.length (us w)) (cQ ?_) fun r h=>by subst h;exact⟨.inl rfl,uO _ _⟩
 have h64:=hg.h64
 have he:=hg.he
 have hn:g.vs.Nodup:=hg.toGoodE.toGood.nodup
 unfold aOg at hw
 by_cases hq:fst' g.vs b.ends<g.vs.length∧fst' g.vs (lV g b)<g.vs.length
 case neg=>rw[if_neg hq]at hw;cases hw
 rw[if_pos hq]at hw
 obtain⟨hq1,hq2⟩:=hq
 have h0:0<g.vs.length:=oO
 have hc1:=aBo h64 hq1
 have hc2:=aBo h64 hq2
 have hl1:=jZ g.vs b.ends h64
 have hl2:=jZ g.vs (lV g b) h64
 have hdp:=aGd h64 hn hq1
 have hdp:rN .u64 (mk g.vs b.ends) (IntKind.u64.wrap ((mk g.vs b.ends:Int)-1))=mk g.vs (lV g b):=hdp
 have hd1:=qG g.vs _ hq1
 have hd2:=qG g.vs _ hq2
 have hd1:(us g.vs).drop (fst' g.vs b.ends)=u (aJH g b)::us (g.vs.drop (fst' g.vs b.ends+1)):=hd1
 have hd2:(us g.vs).drop (fst' g.vs (lV g b))=u (toW g b)::us (g.vs.drop (fst' g.vs (lV g b)+1)):=hd2
 have hi1:(fst' g.vs b.ends:Int)<g.vs.length:=oO
 have hi2:(fst' g.vs (lV g b):Int)<g.vs.length:=oO
 have hT1:=fun st=>Tz (mk g.vs b.ends) hl1 st
 have hT2:=fun st=>Tz (mk g.vs (lV g b)) hl2 st
 rw[hc1]at hT1
 rw[hc2]at hT2
 have hSb:=hS.r.box
 have hlt:=hS.r.lt
 have x1:¬S=st.next:=oO
 have x2:¬S=st.next+1:=oO
 generalize aJH g b=fm at *
 generalize toW g b=tw' at *
 generalize fst' g.vs b.ends=k1 at *
 generalize fst' g.vs (lV g b)=k2 at *
 generalize lV g b=E2 at *
 have e0:¬st.next=st.next+1:=oO
 refine qO aF Tryz.func77 rfl rfl Tryz.ntmps77 (rs:=[.tmp 4]) rfl sS ?_
 (repeat' (first|refine qS ?_|(refine w_e [] ?_;intro J hJ;simp only[];simp[];refine hJ _ _ (zZ ?_))))
 (refine w_s [] [S,st.next,st.next+1] [(0,true),(1,true),(2,true),(3,true),(4,true),(5,true),(6,true),(7,true),(8,true),(9,true),(10,true)] ?_;intro J hJ;simp[hSb,x1,x2,e0])
 refine qD (hT1 _) sS ?_;rintro r s1 ⟨rfl,h1⟩
 rw[h1];clear h1 s1
 refine⟨fun h=>by first|(cases h;done)|exact fun _ _=>rfl|simp,?_⟩
 (refine bE ?_;simp[hd1,hi1,hq1];refine hJ _ _ (zZ ?_))
 (repeat (refine qS ?_))
 (refine w_s [] [S,st.next,st.next+1] [(0,true),(1,true),(2,true),(3,true),(4,true),(5,true),(6,true),(7,true),(8,true),(9,true),(10,true),(11,true),(12,true),(13,true),(14,true)] ?_;intro J hJ;simp[hSb,x1,x2,e0,hdp])
 refine qD (hT2 _) sS ?_;rintro r s1 ⟨rfl,h1⟩
 rw[h1];clear h1 s1
 refine⟨fun h=>by first|(cases h;done)|exact fun _ _=>rfl|simp,?_⟩
 (refine bE ?_;simp[hd2,hi2,hq2];refine hJ _ _ (zZ ?_))
 have hz0:mk g.vs []=0:=(mk_zero g.vs []).2 fun _ _=>by simp
 by_cases hin:nrS g.vs b.inner=[]
 ·rw[if_pos hin]at hw
  obtain rfl:[fm,tw']=w:=by simpa using hw
  have hm:mk g.vs b.inner=0:=by rw[← aAO,hin,hz0]
  (repeat' (first|refine qS ?_|(refine qR (zZ ?_);simp[hm])|(refine qC ?_;simp[hm])|(refine w_e [] ?_;intro J hJ;simp only[];simp[hm];refine hJ _ _ (zZ ?_))))
  exact⟨by simp[z0,z0L],((aA.new _ _).trans (aA.new _ _)).trans (aA.new _ _)⟩
 ·rw[if_neg hin]at hw
  have hm:mk g.vs b.inner≠0:=fun h=>hin (by
   rw[← aAO,mk_zero]at h
   exact List.eq_nil_iff_forall_not_mem.2 fun v hv=>h v (List.mem_filter.1 hv).1 hv)
  have hmb:((mk g.vs b.inner:Int)==0)=false:=by simpa using hm
  have x3:¬S=st.next+1+1:=oO
  have hT:∀ s3,aA st s3→st.next+2<s3.next→s3.H st.next=.box 113 1 [.pt S 0]→s3.H (st.next+1)=.box 121 2 [wv (mk g.vs b.inner),wv (mk g.vs b.ends)]→s3.H (st.next+1+1)=.box 129 1 [.fn (.func 119) [.pt st.next 0,.pt (st.next+1) 0]]→
   aCc 120 [.pt (st.next+1+1) 0] s3 g.es fun x=>inW g.vs b.inner x.a||inW g.vs b.inner x.b:=fun s3 hk3 hn3 hA3 hB3 hC3 x _ st2 hk2=>by
   have hn2:=hk2.next
   exact aRE (hS.keep (hk3.trans hk2)).r.b hn h64 h0 ((hk2.H _ oO).trans hA3) ((hk2.H _ oO).trans hB3) ((hk2.H _ oO).trans hC3) oO x
  have hM:∀ s3,aA st s3→st.next+2<s3.next→s3.H st.next=.box 113 1 [.pt S 0]→s3.H (st.next+1)=.box 121 2 [wv (mk g.vs b.inner),wv (mk g.vs b.ends)]→
   aJL (.fn (.func 119) [.pt st.next 0,.pt (st.next+1) 0]) (inW g.vs b.inner) s3:=fun s3 hk3 hn3 hA3 hB3=>.inr ⟨_,_,rfl,rfl,fun v s hk=>by
   refine(aPO (hS.keep (hk3.trans hk)).r.b hn h64 h0 ((hk.H _ oO).trans hA3) ((hk.H _ oO).trans hB3) v).mono ?_
   rintro r s' ⟨h1,rfl⟩
   exact⟨h1,aA.refl _⟩⟩
  (repeat' (first|refine qS ?_|(refine qK (zZ ?_))|(refine qC ?_;simp[hmb,hSb,x1,x2,x3])|(refine w_e [] ?_;intro J hJ;simp only[];simp[hmb,hSb,x1,x2,x3];(try refine hJ _ _ (zZ ?_)))))
  refine qE (aFG g _ _ _ _ oO oO (hT _ ?_ ?_ ?_ ?_ ?_)) (by simp[grL]) ?_
  ·exact(((aA.new _ _).trans (aA.new _ _)).trans (aA.new _ _)).set oO _
  ·simp
  ·(repeat (first|rw[nHh nOo]|rw[sHh oO]|rw[nIi nQq]|rw[sIi oO]))
  ·(repeat (first|rw[nHh nOo]|rw[sHh oO]|rw[nIi nQq]|rw[sIi oO]))
  ·simp
  rintro r s1 ⟨rfl,hk1⟩
  have hn1:=hk1.next
  simp only[aQ,aC]at hn1
  have hK1:aA st s1:=((((aA.new _ _).trans (aA.new _ _)).trans (aA.new _ _)).set oO _).trans hk1
  have hA1:s1.H st.next=.box 113 1 [.pt S 0]:=by
   rw[hk1.H _ (by simp only[aQ,aC];omega)];(repeat (first|rw[nHh nOo]|rw[sHh oO]|rw[nIi nQq]|rw[sIi oO]))
  have hB1:s1.H (st.next+1)=.box 121 2 [wv (mk g.vs b.inner),wv (mk g.vs b.ends)]:=by
   rw[hk1.H _ (by simp only[aQ,aC];omega)];(repeat (first|rw[nHh nOo]|rw[sHh oO]|rw[nIi nQq]|rw[sIi oO]))
  have hC1:s1.H (st.next+1+1)=.box 129 1 [.fn (.func 119) [.pt st.next 0,.pt (st.next+1) 0]]:=by
   rw[hk1.H _ (by simp only[aQ,aC];omega)];simp
  clear hk1
  have y1:¬st.next+1+1=s1.next:=oO
  have y2:¬st.next=s1.next:=oO
  have y3:¬st.next+1=s1.next:=oO
  have hpl:(zR g b.inner).es.length≤1000:=by
   have:=List.length_filter_le (fun x:Ed=>inW g.vs b.inner x.a||inW g.vs b.inner x.b) g.es
   unfold zR;simp only;omega
  (repeat' (first|refine qS ?_|((first|(refine w_e [] ?_;intro J hJ;simp only[])|(refine aE ?_));simp[hC1,y1];(try refine hJ _ _ (zZ ?_)))))
  refine qE (Path (zR g b.inner) fm tw' _ _ 1000 w _ (by unfold zR;simp only;omega) hpl oO (hM _ (hK1.trans (aA.new _ _)) (by simp only[aC];omega) ?_ ?_) hw) (by simp[grL,zR]) ?_
  ·rw[bI,if_neg y2];exact hA1
  ·rw[bI,if_neg y3];exact hB1
  rintro r s2 ⟨rfl,hk2⟩
  (repeat' (first|(refine qR (zZ ?_);simp[])|(refine aE ?_;simp[];refine hJ _ _ (zZ ?_))))
  exact⟨by simp[z0],(hK1.trans (aA.new _ _)).trans hk2⟩
def tZ(n i j:Nat):Nat:=if i≤j then j-i else j+n-i
def sK(r:List Int)(i j:Nat):List Int:=((r++r).drop i).take (tZ r.length i j+1)
theorem aMv{n i j p:Nat}(hi:i<n)(hj:j<n)(hp:p≤tZ n i j):((i+p) % n=j↔p=tZ n i j):=by
 unfold tZ at *
 by_cases h:i≤j
 ·rw[if_pos h]at *
  rw[Nat.mod_eq_of_lt oO];omega
 ·rw[if_neg h]at *
  by_cases h2:i+p<n
  ·rw[Nat.mod_eq_of_lt h2];omega
  ·rw[show i+p=(i+p-n)+n by omega,Nat.add_mod_right,Nat.mod_eq_of_lt oO];omega
theorem uH{n i j:Nat}(hi:i<n)(hj:j<n):tZ n i j<n:=by unfold tZ;split<;>omega
theorem aLa(r:List Int)(i p:Nat)(hi:i<r.length)(hp:p<r.length):((r++r).drop i)[p]?=some (r.getD ((i+p) % r.length) 0):=by
 rw[List.getElem?_drop]
 by_cases h:i+p<r.length
 ·rw[List.getElem?_append_left h,Nat.mod_eq_of_lt h,List.getD_eq_getElem?_getD,List.getElem?_eq_getElem h];rfl
 ·rw[List.getElem?_append_right oO,show i+p=(i+p-r.length)+r.length by omega,Nat.add_mod_right,Nat.mod_eq_of_lt oO,List.getD_eq_getElem?_getD]
  have:i+p-r.length<r.length:=oO
  rw[show i+p-r.length+r.length-r.length=i+p-r.length by omega,List.getElem?_eq_getElem this];rfl
theorem aBT(r:List Int)(i p:Nat)(hi:i<r.length)(hp:p<r.length):((r++r).drop i).take (p+1)=((r++r).drop i).take p++[r.getD ((i+p) % r.length) 0]:=by
 have h:=aLa r i p hi hp
 have hl:p<((r++r).drop i).length:=by rw[List.length_drop,List.length_append];omega
 rw[List.take_succ_eq_append_getElem hl]
 rw[List.getElem?_eq_getElem hl,Option.some.injEq]at h
 rw[h]
theorem xS(r:List Int)(i j:Nat)(hi:i<r.length)(hj:j<r.length):(sK r i j).length=tZ r.length i j+1:=by
 have:=uH hi hj
 unfold sK
 rw[List.length_take,List.length_drop,List.length_append];omega
set_option maxHeartbeats 1000000 in
theorem aPW(r:List Int)(k j:Nat)(st:St)(hi:k<r.length)(hj:j<r.length)(hl:r.length≤1000)(hp:0<st.next):
 aB Tryz.prog 117 [.sl 0 r.length (us r),i k,i j] st fun v st'=>(∃ t,v=.sl t (sK r k j).length (us (sK r k j))∧aAH t 34 1 (sK r k j).length st st')∧aA st st':=by
 have hd0:=qG r k hi
 have hk1:(k:Int)<r.length:=oO
 have hal:=xS r k j hi hj
 have hst:=uH hi hj
 refine qO aF Tryz.func117 rfl rfl Tryz.ntmps117 (rs:=[.tmp 6]) rfl sS ?_
 (repeat' (first|refine qS ?_|refine qB ?_|(refine w_e [] ?_;intro J hJ;simp only[];simp[hd0,hk1,hi];refine hJ _ _ (zZ ?_))))
 have e0:¬st.next=0:=oO
 have hk0:(k+0) % r.length=k:=by rw[Nat.add_zero,Nat.mod_eq_of_lt hi]
 refine qL (fun n fr st'=>∃ p t:Nat,p≤tZ r.length k j∧n=tZ r.length k j-p∧fr 0=.sl 0 r.length (us r)∧fr 1=i (((k+p) % r.length:Nat):Int)∧fr 2=i j∧fr 7=.sl t (p+1) (us (((r++r).drop k).take (p+1)))∧aAH t 34 1 (p+1) st st'∧aA st st') (tZ r.length k j) ?_ ?_
 ·refine⟨0,st.next,oO,oO,sS,?_,sS,?_,⟨e0,Nat.le_refl _,sS,sS⟩,aA.new _ _⟩
  ·rw[hk0];simp
  ·have:=aBT r k 0 hi oO
   rw[this,hk0];simp[hi]
 rintro n fr s ⟨p,t,hp1,rfl,f0,f1,f2,f7,⟨t0,t1,t2,tH⟩,hk⟩ JJ hJJ
 have hat:=aMv hi hj hp1
 by_cases hpe:p=tZ r.length k j
 ·have hb:((((k+p) % r.length:Nat):Int) != j)=false:=by rw[hat.2 hpe];simp
  generalize ((k+p) % r.length:Nat)=q at *
  subst hpe
  have hta:((r++r).drop k).take (tZ r.length k j+1)=sK r k j:=rfl
  rw[hta,← hal]at f7
  rw[← hal]at tH
  (repeat' (first|refine qS ?_|(refine qX (zZ ?_))|(refine qR (zZ ?_);simp[f1,f2,f7,hb])|(refine qC ?_;simp[f1,f2,f7,hb])|(refine w_e [] ?_;intro J hJ;simp only[];simp[f1,f2,f7,hb];refine hJ _ _ (zZ ?_))))
  exact⟨⟨t0,t1,t2,tH⟩,hk⟩
 ·have hb:((((k+p) % r.length:Nat):Int) != j)=true:=by
   have:¬(k+p) % r.length=j:=fun h=>hpe (hat.1 h)
   rw[bne_iff_ne];intro h;exact this (Int.ofNat_inj.1 h)
  have hstep:=aBT r k (p+1) hi oO
  have hq:(k+p) % r.length<r.length:=Nat.mod_lt _ oO
  have hq2:(k+(p+1)) % r.length=((k+p) % r.length+1) % r.length:=by rw[← Nat.add_assoc,Nat.mod_add_mod]
  rw[hq2]at hstep
  have hmod:((((k+p) % r.length:Nat):Int)+1).tmod (r.length:Int)=((((k+p) % r.length+1) % r.length:Nat):Int):=by
   rw[Int.tmod_eq_emod_of_nonneg oO]
   exact(Int.natCast_emod _ _).symm
  have hq3:((k+p) % r.length+1) % r.length<r.length:=Nat.mod_lt _ oO
  generalize (k+p) % r.length=q at *
  have hw:=qN q oO
  have hw:IntKind.i64.wrap ((q:Int)+1)=(q:Int)+1:=by rw[hw];omega
  generalize (q+1) % r.length=q2 at *
  have hd:=qG r q2 hq3
  generalize r.getD q2 0=x at *
  have hq4:(q2:Int)<r.length:=oO
  have hr0:¬(r.length:Int)=0:=oO
  have hrn:¬r=[]:=fun h=>by rw[h]at hi;simp at hi
  have c1:¬t=s.next:=oO
  have c2:¬s.next=t:=oO
  (repeat' (first|refine qS ?_|refine qB ?_|(refine qK (zZ ?_))|(refine qC ?_;simp[f0,f1,f2,f7,hb,hw,hmod,hr0,hrn,hd,hq3,hq4,tH,t0,c1,c2])|(refine w_e [] ?_;intro J hJ;simp only[];simp[f0,f1,f2,f7,hb,hw,hmod,hr0,hrn,hd,hq3,hq4,tH,t0,c1,c2];(repeat refine ca ?_);refine hJ _ _ (zZ ?_))))
  exact hJJ _ _ _ oO ⟨p+1,s.next+1,oO,rfl,by simp[f0],by rw[hq2];simp,by simp[f2],by rw[hstep];simp,⟨oO,oO,sS,sS⟩,((hk.trans (aA.new _ _)).set t1 _).trans (aA.new _ _)⟩
theorem nQ(l:List Ed)(j:Nat)(hj:j<l.length):l.getD j ed0=l[j]:=by
 rw[List.getD_eq_getElem?_getD,List.getElem?_eq_getElem hj];rfl
theorem aEY(a b:List Ed):eds (a++b)=eds a++eds b:=by simp[eds]
theorem aOp(l:List Ed)(k:Nat):(eds l).take (k*3)=eds (l.take k):=by
 induction l generalizing k with
 |nil=>simp[eds]
 |cons x l ih=>
  cases k with
  |zero=>simp[eds]
  |succ k=>
   rw[show(k+1)*3=k*3+1+1+1 by omega]
   simp only[eds,List.flatMap_cons,edL,List.cons_append,List.nil_append,List.take_succ_cons]
   have:=ih k
   simp only[eds,edL]at this
   rw[this]
theorem aOq(l:List Ed)(k:Nat):(eds l).drop (k*3)=eds (l.drop k):=by
 induction l generalizing k with
 |nil=>simp[eds]
 |cons x l ih=>
  cases k with
  |zero=>simp[eds]
  |succ k=>
   rw[show(k+1)*3=k*3+1+1+1 by omega]
   simp only[eds,List.flatMap_cons,edL,List.cons_append,List.nil_append,List.drop_succ_cons]
   have:=ih k
   simpa only[eds,edL]using this
theorem aBH(l:List Ed)(k:Nat)(x:Ed)(hk:k<l.length):(eds l).take (k*3)++(u x.id::u x.a::u x.b::(eds l).drop (k*3+3))=eds (l.set k x):=by
 rw[show k*3+3=(k+1)*3 by omega,aOp,aOq,List.set_eq_take_append_cons_drop,if_pos hk,aEY]
 rfl
def be(st:St)(q:Nat)(c:List Ed):St:=st.set q (.box 56 3 (eds c))
@[simp] theorem aMt(st:St)(q:Nat)(c:List Ed):(be st q c).next=st.next:=rfl
@[simp] theorem aRJ(st:St)(q:Nat)(c:List Ed):(be st q c).H q=.box 56 3 (eds c):=by simp[be]
theorem aBm(U:List Ed)(x y:Ed)(W:List Ed):(U++x::W).set U.length y=U++y::W:=by
 rw[List.set_append_right _ _ (Nat.le_refl _)];simp
theorem wM(U:List Ed)(x:Ed)(W:List Ed):(U++x::W).getD U.length ed0=x:=by
 rw[List.getD_eq_getElem?_getD,List.getElem?_append_right (Nat.le_refl _)];simp
theorem iE(n:Int)(h0 : -9223372036854775808≤n)(h1:n≤9223372036854775807):IntKind.i64.wrap n=n:=by
 simp only[IntKind.wrap,IntKind.signed,IntKind.bits]
 simp
 split<;>omega
def sA(x y:Ed):Int:=if x.id<y.id then -1 else if y.id<x.id then 1 else 0
theorem yA(x y:Ed):decide (sA x y<0)=decide (x.id<y.id):=by
 unfold sA
 by_cases h:x.id<y.id
 ·simp[h]
 ·rw[if_neg h]
  by_cases h2:y.id<x.id<;>simp[h,h2]
structure mR(fid:FuncId)(caps:List LV)(q:Nat)(Pc:St→Prop):Prop where
 keep:∀ st st',Pc st→bN q st st'→Pc st'
 call:∀ st x y,Pc st→aB Tryz.prog fid ([.ag (edL x),.ag (edL y)]++caps) st fun r st'=>r=i (sA x y)∧aA st st'
def Ris(l:List Ed):Prop:=l.Pairwise fun x y=>x.id≤y.id
theorem get_at(U:List Ed)(x:Ed)(W:List Ed){j:Nat}(hj:j=U.length):(U++x::W).getD j ed0=x:=by subst hj;exact wM _ _ _
theorem yN(U:List Ed)(x y:Ed)(W:List Ed){j:Nat}(hj:j=U.length):(U++x::W).set j y=U++y::W:=by subst hj;exact aBm _ _ _ _
def aOi(P X S:List Ed)(q:Nat)(st:St)(r:LV)(st':St):Prop:=∃ Y,Y.Perm X∧Ris Y∧st'.H q=.box 56 3 (eds (P++Y++S))∧bN q st st'
theorem aBP{A B:List Ed}{x:Ed}(h:Ris (A++B))(h1:∀ y∈A,y.id≤x.id)(h2:∀ y∈B,x.id≤y.id):Ris (A++x::B):=by
 unfold Ris at h ⊢
 rw[List.pairwise_append]at h ⊢
 refine⟨h.1,List.pairwise_cons.2 ⟨h2,h.2.1⟩,fun a ha b hb=>?_⟩
 rcases List.mem_cons.1 hb with rfl|hb
 ·exact h1 a ha
 ·exact h.2.2 a ha b hb
theorem vU{A:List Ed}{y:Ed}(h:Ris (A++[y])):∀ a∈A,a.id≤y.id:=by
 unfold Ris at h
 rw[List.pairwise_append]at h
 exact fun a ha=>h.2.2 a ha y sS
set_option maxHeartbeats 1000000 in
theorem aBM(P X S:List Ed)(q:Nat)(fid:FuncId)(caps:List LV)(Pc:St→Prop)(st:St)(hcmp:mR fid caps q Pc)(hPc:Pc st)(hq:q<st.next)(hl:(P++X++S).length≤100000)(hH:st.H q=.box 56 3 (eds (P++X++S))):
 aB Tryz.prog 200 [.ms q 0 (P++X++S).length,i P.length,i (P.length+X.length:Nat),.fn (.func fid) caps] st (aOi P X S q st):=by
 generalize hL:(P++X++S).length=L at *
 have hLl:L=P.length+X.length+S.length:=by rw[← hL];simp only[List.length_append]
 generalize hp:P.length=p at *
 have wp:IntKind.i64.wrap ((p:Int)+1)=((p+1:Nat):Int):=by rw[iE _ oO oO];omega
 refine qO aF Tryz.func200 rfl rfl Tryz.ntmps200 (rs:=[]) rfl sS ?_
 (repeat' (first|refine qS ?_|refine qB ?_|(refine w_e [] ?_;intro J hJ;simp only[];simp[wp];refine hJ _ _ (zZ ?_))))
 refine qL (fun z fr st2=>∃ Y Z:List Ed,Z.length≤z∧fr 0=.ms q 0 L∧fr 1=i p∧fr 2=i (p+X.length:Nat)∧fr 3=.fn (.func fid) caps∧(X=[]∧Y=[]∧fr 8=i (p+1:Nat)∨Y≠[]∧fr 8=i (p+Y.length:Nat))∧(Y++Z).Perm X∧Ris Y∧st2.H q=.box 56 3 (eds (P++Y++Z++S))∧bN q st st2) X.length ?_ ?_
 ·cases X with
  |nil=>exact⟨[],[],sS,sS,sS,sS,sS,.inl ⟨rfl,rfl,sS⟩,.refl _,.nil,by simpa using hH,bN.refl _ _⟩
  |cons x X => 
   refine⟨[x],X,sS,sS,sS,sS,sS,.inr ⟨sS,sS⟩,.refl _,List.pairwise_singleton _ _,?_,bN.refl _ _⟩
   rw[hH];simp
 rintro z fr st2 ⟨Y,Z,hz,f0,f1,f2,f3,f8,hpm,hris,hB,hoff⟩ JJ hJJ
 have hpl:=hpm.length_eq
 simp only[List.length_append]at hpl
 cases Z with
 |nil=>
  clear hJJ
  simp only[List.length_nil,Nat.add_zero]at hpl
  rw[List.append_nil]at hpm hB
  have hex:∃ e:Nat,fr 8=i e∧¬((e:Int)<(p+X.length:Nat)):=by
   rcases f8 with⟨h1,h2,h3⟩|⟨h1,h2⟩
   ·exact⟨p+1,h3,by rw[h1];simp;omega⟩
   ·exact⟨p+Y.length,h2,by rw[hpl];omega⟩
  obtain⟨e,g8,he⟩:=hex
  (repeat' (first|refine qS ?_|(refine qX (zZ ?_))|(refine qC ?_;simp[f2,g8,he];(try with_reducible refine⟨?_,?_⟩)<;>(try with_reducible intro hc)<;>try (exfalso;omega))|(refine w_e [] ?_;intro J hJ;simp only[];simp[f2,g8,he];refine hJ _ _ (zZ ?_))))
  simp
  exact⟨Y,hpm,hris,hB,hoff⟩
 |cons x Z=>
 have hYne:Y≠[]∧fr 8=i (p+Y.length:Nat):=by
  rcases f8 with⟨h1,h2,h3⟩|h
  ·subst h1;simp at hpl
  ·exact h
 obtain⟨hYn,g8⟩:=hYne
 clear f8
 have hY0:=List.length_pos_iff.2 hYn
 simp only[List.length_cons]at hpl hz
 have hlt:(((p+Y.length:Nat):Int))<((p+X.length:Nat):Int):=oO
 (repeat' (first|refine qS ?_|refine qB ?_|(refine qK (zZ ?_))|(refine qC ?_;simp[f2,g8,hlt];(try with_reducible refine⟨?_,?_⟩)<;>(try with_reducible intro hc)<;>try (exfalso;omega))|(refine w_e [] ?_;intro J hJ;simp only[];simp[f2,g8,hlt];refine hJ _ _ (zZ ?_))))
 refine qL (fun z fr st3=>∃ A B:List Ed,z=A.length∧A++B=Y∧(∀ y∈B,x.id≤y.id)∧fr 0=.ms q 0 L∧fr 1=i p∧fr 2=i (p+X.length:Nat)∧fr 3=.fn (.func fid) caps∧fr 8=i (p+Y.length:Nat)∧fr 9=i (p+A.length:Nat)∧st3.H q=.box 56 3 (eds (P++A++x::(B++Z++S)))∧bN q st st3) Y.length ?_ ?_
 ·exact⟨Y,[],rfl,sS,sS,by simp[f0],by simp[f1],by simp[f2],by simp[f3],by simp[g8],sS,by rw[hB];simp,hoff⟩
 clear f0 f1 f2 f3 g8 hB hoff fr st2
 rintro z' fr st3 ⟨A,B,rfl,rfl,hxB,f0,f1,f2,f3,f8,f9,hB,hoff⟩ J2 hJ2
 have hP3:=hcmp.keep _ _ hPc hoff
 have hfin:(∀ y∈A,y.id≤x.id)→Ris (A++x::B):=fun h1=>aBP hris h1 hxB
 have hpm2:((A++x::B)++Z).Perm X:=by
  refine List.Perm.trans ?_ hpm
  rw[List.append_assoc,List.append_assoc]
  refine List.Perm.append_left A ?_
  rw[List.cons_append]
  exact List.perm_middle.symm
 have hAB:(A++x::B).length=(A++B).length+1:=by simp;omega
 simp only[List.length_append]at hpl hY0
 have w8:IntKind.i64.wrap (((p+(A++B).length:Nat):Int)+1)=((p+(A++x::B).length:Nat):Int):=by rw[hAB,iE _ (by simp only[List.length_append];omega) (by simp only[List.length_append];omega)];omega
 have hnext:∀ fr' st4,(fr' 0=.ms q 0 L∧fr' 1=i p∧fr' 2=i (p+X.length:Nat)∧fr' 3=.fn (.func fid) caps∧fr' 8=i (p+(A++x::B).length:Nat))→(∀ y∈A,y.id≤x.id)→st4.H q=.box 56 3 (eds (P++A++x::(B++Z++S)))→bN q st st4→JJ fr' st4:=by
  rintro fr' st4 ⟨g0,g1,g2,g3,g8⟩ h1 h2 h3
  refine hJJ Z.length _ _ oO ⟨A++x::B,Z,Nat.le_refl _,g0,g1,g2,g3,.inr ⟨sS,g8⟩,hpm2,hfin h1,?_,h3⟩
  rw[h2];simp
 have hrisA:Ris A:=by
  unfold Ris at hris ⊢
  exact(List.pairwise_append.1 hris).1
 clear hJJ hfin hpm2 hpm hris hAB
 generalize (A++B).length=lab at *
 generalize (A++x::B).length=laxb at *
 have w8':IntKind.i64.wrap ((p:Int)+lab+1)=(p:Int)+laxb:=by have h:=w8;rw[Int.natCast_add,Int.natCast_add]at h;exact h
 rcases List.eq_nil_or_concat A with rfl|⟨W,y,hWy⟩
 ·simp only[List.length_nil,Nat.add_zero]at f9
  (repeat' refine qS ?_)
  (refine w_s [] [q] [(0,true),(1,true),(2,true),(3,true),(4,true),(5,true),(6,true),(7,true),(8,true),(9,true),(10,true),(11,true),(12,true),(13,true),(14,false),(15,true),(16,true)] ?_;intro J hJ;simp[f0,f1,f3,f9];refine hJ _ _ (zZ ?_))
  (repeat' (first|(refine qX (zZ ?_))|(refine qC ?_;simp[f8,w8'])|(refine w_e [] ?_;intro J hJ;simp only[];simp[f8,w8'];refine hJ _ _ (zZ ?_))))
  exact hnext _ _ ⟨by simp[f0],by simp[f1],by simp[f2],by simp[f3],sS⟩ sS hB hoff
 rw[List.concat_eq_append]at hWy
 subst hWy
 have hWl:(W++[y]).length=W.length+1:=sS
 rw[hWl,← Nat.add_assoc]at f9
 have hce:P++(W++[y])++x::(B++Z++S)=(P++W)++y::x::(B++Z++S):=sS
 have hUl:(P++W).length=p+W.length:=by simp[hp]
 have hcl:((P++W)++y::x::(B++Z++S)).length=L:=by
  simp only[List.length_append,List.length_cons,List.length_nil,hp]at hpl hz ⊢
  omega
 rw[hce]at hB hnext
 have g1:=get_at (P++W) y (x::(B++Z++S)) (j:=p+W.length) hUl.symm
 have g2:((P++W)++y::x::(B++Z++S)).getD (p+W.length+1) ed0=x:=by
  rw[show(P++W)++y::x::(B++Z++S)=(P++W++[y])++x::(B++Z++S) by simp]
  exact get_at _ _ _ (by simp[hp];omega)
 have s1:(((P++W)++y::x::(B++Z++S)).set (p+W.length+1) y).set (p+W.length) x=P++W++x::(y::B++Z++S):=by
  rw[show(P++W)++y::x::(B++Z++S)=(P++W++[y])++x::(B++Z++S) by simp,yN _ _ _ _ (by simp[hp];omega)]
  rw[show(P++W++[y])++y::(B++Z++S)=(P++W)++y::(y::(B++Z++S)) by simp,yN _ _ _ _ hUl.symm]
  simp
 have hstep:x.id<y.id→∀ y'∈y::B,x.id≤y'.id:=fun h1 y' hy'=>by
  rcases List.mem_cons.1 hy' with rfl|h2
  ·omega
  ·exact hxB y' h2
 have hstop:¬x.id<y.id→∀ y'∈W++[y],y'.id≤x.id:=fun h1 y' hy'=>by
  rcases List.mem_append.1 hy' with h2|h2
  ·have:=vU (hrisA) y' h2;omega
  ·rw[List.mem_singleton]at h2;subst h2;omega
 generalize (P++W)++y::x::(B++Z++S)=c at *
 generalize hjx:p+W.length=jx at *
 have hel:=aJ c
 have da:=aW c (jx+1) oO
 have db:=aW c jx oO
 rw[g2]at da
 rw[g1]at db
 have wj:IntKind.i64.wrap (((jx+1:Nat):Int)-1)=(jx:Int):=by rw[iE _ oO oO];omega
 obtain⟨xi,xa,xb⟩:=x
 obtain⟨yi,ya,yb⟩:=y
 simp only at da db hstep hstop
 have hgt:(p:Int)<(jx:Int)+1:=oO
 have hcm:=hcmp.call st3 ⟨xi,xa,xb⟩ ⟨yi,ya,yb⟩ hP3
 have hneg:=yA ⟨xi,xa,xb⟩ ⟨yi,ya,yb⟩
 simp only at hneg
 generalize sA ⟨xi,xa,xb⟩ ⟨yi,ya,yb⟩=cv at *
 have wj':IntKind.i64.wrap (jx:Int)=(jx:Int):=iE _ oO oO
 have hA4:jx+1<L:=oO
 have hB4:jx<L:=oO
 (repeat' refine qS ?_)
 (refine w_s [] [q] [(0,true),(1,true),(2,true),(3,true),(4,true),(5,true),(6,true),(7,true),(8,true),(9,true),(10,true),(11,true),(12,true),(13,true),(14,false),(15,true),(16,true)] ?_;intro J hJ;simp[f0,f1,f3,f9,hgt,hB,da,db,hel,hcl,wj'];(repeat refine ca ?_))
 refine aO hcm ?_;rintro r s4 ⟨rfl,hk4⟩
 have hq3:q<st3.next:=by have:=hoff.1;omega
 have hB4':=(hk4.H q hq3).trans hB
 have hoff4:=hoff.keeps hk4
 refine⟨fun _=>by simp[hB4',hB],?_⟩
 by_cases hlt3:xi<yi
 ·have hcv:cv<0:=by rw[decide_eq_true hlt3]at hneg;exact of_decide_eq_true hneg
  (refine bE ?_;simp[hcv,hB4',hB];refine hJ _ _ (zZ ?_))
  (repeat' (first|refine qS ?_|refine qB ?_|(refine qK (zZ ?_))|(refine qC ?_;simp[])))
  (refine w_s [] [q] [(0,true),(1,true),(2,true),(3,true),(4,true),(5,true),(6,true),(7,true),(8,true),(9,true),(10,true),(11,true),(12,true),(13,true),(14,true),(15,false),(16,true),(17,false)] ?_;intro J hJ;simp[f0,f9,hB4',da,db,hel,hcl,wj'];(repeat refine ca ?_);refine hJ _ _ (zZ ?_))
  have e1:=aBH c (jx+1) ⟨yi,ya,yb⟩ oO
  have e2:=aBH (c.set (jx+1) ⟨yi,ya,yb⟩) jx ⟨xi,xa,xb⟩ (by simp;omega)
  simp only at e1 e2
  rw[e1,e2,s1,St.set_set]
  (repeat' (refine w_e [] ?_;intro J hJ;simp only[];simp[f9,wj'];refine hJ _ _ (zZ ?_)))
  refine hJ2 W.length _ _ sS ⟨W,⟨yi,ya,yb⟩::B,rfl,sS,hstep hlt3,by simp[f0],by simp[f1],by simp[f2],by simp[f3],by simp[f8],by simp[hjx],?_,hoff4.set _⟩
  simp
 ·have hcv:¬cv<0:=by rw[decide_eq_false hlt3]at hneg;exact of_decide_eq_false hneg
  (refine bE ?_;simp[hcv,hB4',hB];refine hJ _ _ (zZ ?_))
  (repeat' (first|(refine qX (zZ ?_))|(refine qC ?_;simp[f8,w8'])|(refine w_e [] ?_;intro J hJ;simp only[];simp[f8,w8'];refine hJ _ _ (zZ ?_))))
  exact hnext _ _ ⟨by simp[f0],by simp[f1],by simp[f2],by simp[f3],sS⟩ (hstop hlt3) hB4' hoff4
theorem aBq{l:List Ed}(h:Ris l){j k:Nat}(hjk:j≤k)(hk:k<l.length):(l.getD j ed0).id≤(l.getD k ed0).id:=by
 rw[nQ _ _ hk,nQ _ _ oO]
 rcases Nat.lt_or_ge j k with h1|h1
 ·exact List.pairwise_iff_getElem.1 h j k oO hk h1
 ·obtain rfl:j=k:=oO
  exact Int.le_refl _
theorem aEn(U W:List Ed)(j:Nat):(U++W).getD (U.length+j) ed0=W.getD j ed0:=by
 rw[List.getD_eq_getElem?_getD,List.getElem?_append_right oO,Nat.add_sub_cancel_left,← List.getD_eq_getElem?_getD]
theorem xE(U W:List Ed)(j:Nat)(h:j<U.length):(U++W).getD j ed0=U.getD j ed0:=by
 rw[List.getD_eq_getElem?_getD,List.getElem?_append_left h,← List.getD_eq_getElem?_getD]
structure Mgd(D D':List Ed)(lo hi:Nat):Prop where
 len:D'.length=D.length
 perm:D'.Perm D
 out:∀ j,j<lo∨hi≤j→D'.getD j ed0=D.getD j ed0
 inn:∀ j k,lo≤j→j≤k→k<hi→(D'.getD j ed0).id≤(D'.getD k ed0).id
theorem mgd{D P X S C:List Ed}(hD:P++X++S=D)(hC:C.Perm X)(hr:Ris C){lo hi:Nat}(h1:P.length=lo)(h2:hi=lo+X.length):Mgd D (P++C++S) lo hi:=by
 have hl:=hC.length_eq
 subst hD
 refine⟨by simp[hl],List.Perm.append_right _ (List.Perm.append_left _ hC),fun j hj=>?_,fun j k hj hjk hk=>?_⟩
 ·rcases Nat.lt_or_ge j lo with h|h
  ·rw[xE _ _ _ (by simp;omega),xE _ _ _ oO,xE _ _ _ (by simp;omega),xE _ _ _ oO]
  ·have e1:=aEn (P++C) S (j-hi)
   have e2:=aEn (P++X) S (j-hi)
   have l1:(P++C).length+(j-hi)=j:=by simp;omega
   have l2:(P++X).length+(j-hi)=j:=by simp;omega
   rw[l1]at e1
   rw[l2]at e2
   rw[e1,e2]
 ·have e:∀ x,lo≤x→x<hi→(P++C++S).getD x ed0=C.getD (x-lo) ed0:=fun x g1 g2=>by
   have e1:=aEn P (C++S) (x-lo)
   rw[show P.length+(x-lo)=x by omega,xE C S (x-lo) oO]at e1
   rw[← e1];simp
  rw[e j hj oO,e k oO hk]
  exact aBq hr oO oO
theorem aNV(D:List Ed)(lo hi:Nat)(h:lo≤hi):D.take lo++(D.drop lo).take (hi-lo)++D.drop hi=D:=by
 have e:(D.drop lo).drop (hi-lo)=D.drop hi:=by rw[List.drop_drop];congr 1;omega
 rw[List.append_assoc,← e,List.take_append_drop,List.take_append_drop]
theorem aBd{D:List Ed}{lo hi:Nat}(hh:hi≤D.length)(h:∀ j k,lo≤j→j≤k→k<hi→(D.getD j ed0).id≤(D.getD k ed0).id):Ris ((D.drop lo).take (hi-lo)):=by
 refine List.pairwise_iff_getElem.2 fun a b ha hb hab=>?_
 simp only[List.length_take,List.length_drop]at ha hb
 rw[List.getElem_take,List.getElem_take,List.getElem_drop,List.getElem_drop,← nQ D (lo+a) oO,← nQ D (lo+b) oO]
 exact h _ _ oO oO oO
section
variable (q L:Nat) (fid:FuncId) (caps:List LV) (Pc:St→Prop) (hcmp:mR fid caps q Pc) (hl:L≤100000)
include hcmp hl
theorem aCq(D:List Ed)(a b:Nat)(st:St)(hD:D.length=L)(ha:a≤b)(hb:b≤L)(hPc:Pc st)(hq:q<st.next)(hH:st.H q=.box 56 3 (eds D)):
 aB Tryz.prog 200 [.ms q 0 L,i a,i b,.fn (.func fid) caps] st fun r st'=>∃ D',st'.H q=.box 56 3 (eds D')∧Mgd D D' a b∧bN q st st':=by
 have hc:=aNV D a b ha
 have l1:(D.take a).length=a:=by rw[List.length_take];omega
 have l2:((D.drop a).take (b-a)).length=b-a:=by rw[List.length_take,List.length_drop];omega
 have h:=aBM (D.take a) ((D.drop a).take (b-a)) (D.drop b) q fid caps Pc st hcmp hPc hq (by rw[hc];omega) (by rw[hc];exact hH)
 rw[hc,hD,l1,l2,show a+(b-a)=b by omega]at h
 refine h.mono ?_
 rintro r st' ⟨Y,h1,h2,h3,h4⟩
 exact⟨_,h3,mgd hc h1 h2 l1 oO,h4⟩
end
def Bs(s lo hi:Nat)(D:List Ed):Prop:=∀ j k,lo≤j→j≤k→k<hi→j / s=k / s→(D.getD j ed0).id≤(D.getD k ed0).id
theorem Bs.ext{s a b t:Nat}{D D':List Ed}(h:Bs s 0 a D)(hm:Mgd D D' a b)(hs:0<s)(ht:a=s*t):Bs s 0 b D':=by
 intro j k _ hjk hk he
 rcases Nat.lt_or_ge k a with h1|h1
 ·rw[hm.out j (.inl oO),hm.out k (.inl h1)]
  exact h j k (Nat.zero_le _) hjk h1 he
 ·rcases Nat.lt_or_ge j a with h2|h2
  ·have h3:j / s<t:=Nat.div_lt_of_lt_mul oO
   have h4:t≤k / s:=(Nat.le_div_iff_mul_le hs).2 (by rw[Nat.mul_comm];omega)
   omega
  ·exact hm.inn j k h2 hjk hk
theorem Bs.all{s L:Nat}{D:List Ed}(h:Bs s 0 L D)(hs:L≤s)(hD:D.length=L):Ris D:=by
 have:=aBd (D:=D) (lo:=0) (hi:=L) oO fun j k h1 h2 h3=>h j k h1 h2 h3 (by rw[Nat.div_eq_of_lt oO,Nat.div_eq_of_lt oO])
 rwa [List.drop_zero,List.take_of_length_le oO]at this
theorem Mgd.from{D D':List Ed}{a b:Nat}(h:Mgd D D' a b){D0:List Ed}(k:D.Perm D0):D'.Perm D0:=h.perm.trans k
def xH(D0:List Ed)(q L:Nat)(st st2:St)(D:List Ed):Prop:=D.length=L∧D.Perm D0∧st2.H q=.box 56 3 (eds D)∧bN q st st2
theorem xH.step{D0:List Ed}{q L:Nat}{st st2 st3:St}{D D':List Ed}{a b:Nat}(h:xH D0 q L st st2 D)(hm:Mgd D D' a b)(h1:st3.H q=.box 56 3 (eds D'))(h2:bN q st2 st3):xH D0 q L st st3 D':=
 ⟨hm.len.trans h.1,hm.from h.2.1,h1,h.2.2.2.trans h2⟩
set_option maxHeartbeats 1000000 in
theorem aFd(D0:List Ed)(q L:Nat)(fid:FuncId)(caps:List LV)(Pc:St→Prop)(st:St)(hcmp:mR fid caps q Pc)(hPc:Pc st)(hq:q<st.next)(hL:D0.length=L)(hl:L≤20)(hH:st.H q=.box 56 3 (eds D0)):
 aB Tryz.prog 193 [.ms q 0 L,i L,.fn (.func fid) caps] st fun r st'=>∃ D,D.Perm D0∧Ris D∧st'.H q=.box 56 3 (eds D)∧bN q st st':=by
 refine qO aF Tryz.func193 rfl rfl Tryz.ntmps193 (rs:=[]) rfl sS ?_
 (repeat' (first|refine qS ?_|refine qB ?_|(refine w_e [] ?_;intro J hJ;simp only[];simp[];refine hJ _ _ (zZ ?_))))
 refine qL (fun z fr st2=>∃(t a:Nat) (D:List Ed),a=20*t∧a≤L∧z=L-a∧fr 0=.ms q 0 L∧fr 1=i L∧fr 2=.fn (.func fid) caps∧fr 6=i 20∧fr 7=i a∧fr 8=i (a+20:Nat)∧Bs 20 0 a D∧xH D0 q L st st2 D) L ?_ ?_
 ·exact⟨0,0,D0,rfl,oO,rfl,sS,sS,sS,sS,sS,sS,fun j k _ _ h=>by omega,hL,.refl _,hH,bN.refl _ _⟩
 rintro z fr st2 ⟨t,a,D,ht,ha,rfl,f0,f1,f2,f6,f7,f8,hB,hI⟩ JJ hJJ
 have hP2:=hcmp.keep _ _ hPc hI.2.2.2
 have hq2:q<st2.next:=by have:=hI.2.2.2.1;omega
 by_cases hle:a+20≤L
 ·have hle':(a:Int)+20≤L:=oO
  have hc:=aCq q L fid caps Pc hcmp oO D a (a+20) st2 hI.1 oO hle hP2 hq2 hI.2.2.1
  have w1:IntKind.i64.wrap ((a:Int)+20+20)=((a+20+20:Nat):Int):=by rw[iE _ oO oO];omega
  (repeat' (first|refine qS ?_|refine qB ?_|(refine qK (zZ ?_))|(refine qC ?_;simp[f0,f1,f2,f7,f8,hle'])|(refine w_e [] ?_;intro J hJ;simp only[];simp[f0,f1,f2,f7,f8,hle'];(try refine hJ _ _ (zZ ?_)))))
  refine qE hc sS ?_;rintro r s3 ⟨D',k1,k2,k3⟩
  (repeat' (first|refine qS ?_|((first|(refine w_e [] ?_;intro J hJ;simp only[])|(refine aE ?_));simp[f8,f6,w1];refine hJ _ _ (zZ ?_))))
  exact hJJ (L-(a+20)) _ _ oO ⟨t+1,a+20,D',oO,hle,rfl,by simp[f0],by simp[f1],by simp[f2],by simp[f6],sS,sS,hB.ext k2 oO ht,hI.step k2 k1 k3⟩
 clear hJJ
 have hle':¬(a:Int)+20≤L:=oO
 have hc:=aCq q L fid caps Pc hcmp oO D a L st2 hI.1 ha (Nat.le_refl _) hP2 hq2 hI.2.2.1
 (repeat' (first|refine qS ?_|(refine qX (zZ ?_))|(refine qC ?_;simp[f0,f1,f2,f7,f8,hle'])|(refine w_e [] ?_;intro J hJ;simp only[];simp[f0,f1,f2,f7,f8,hle'];(try refine hJ _ _ (zZ ?_)))))
 refine qE hc sS ?_;rintro r s3 ⟨D',k1,k2,k3⟩
 have hB2:=hB.ext k2 oO ht
 have hI2:=hI.step k2 k1 k3
 (repeat' (first|refine qB ?_|(refine aE ?_;simp[];refine hJ _ _ (zZ ?_))))
 refine qL (fun z fr st2=>∃(s:Nat) (D:List Ed),20≤s∧s≤200040∧z=L-s∧fr 0=.ms q 0 L∧fr 1=i L∧fr 2=.fn (.func fid) caps∧fr 6=i s∧Bs s 0 L D∧xH D0 q L st st2 D) (L-20) ?_ ?_
 ·exact⟨20,D',oO,oO,rfl,by simp[f0],by simp[f1],by simp[f2],by simp[f6],hB2,hI2⟩
 clear hB2 hI2 k1 k2 k3 hc hI hB f0 f1 f2 f6 f7 f8 hP2 hq2 hle hle' ht ha fr
 rintro z fr st3 ⟨s,D,hs0,hs1,rfl,f0,f1,f2,f6,hB,hI⟩ JJ hJJ
 by_cases hlt:s<L
 rotate_left
 ·clear hJJ
  have hlt':¬(s:Int)<L:=oO
  (repeat' (first|refine qS ?_|(refine qX (zZ ?_))|(refine qC ?_;simp[f1,f6,hlt,hlt'])|(refine w_e [] ?_;intro J hJ;simp only[];simp[f1,f6,hlt,hlt'];refine hJ _ _ (zZ ?_))))
  exact⟨trivial,D,hI.2.1,hB.all oO hI.1,hI.2.2⟩
 exact absurd hlt oO
end Go.Proofs.YtempldclppogmaaGreatDoor.Aw
namespace Go.Proofs.YtempldclppogmaaGreatDoor.Aw.U
open Go Go.RowKit Go.Proofs.YtempldclppogmaaGreatDoor.Pl
def be(st:St)(q:Nat)(c:List Int):St:=st.set q (.box 34 1 (us c))
@[simp] theorem aMt(st:St)(q:Nat)(c:List Int):(be st q c).next=st.next:=rfl
@[simp] theorem aRJ(st:St)(q:Nat)(c:List Int):(be st q c).H q=.box 34 1 (us c):=by simp[be]
theorem nQ(l:List Int)(j:Nat)(hj:j<l.length):l.getD j 0=l[j]:=by
 rw[List.getD_eq_getElem?_getD,List.getElem?_eq_getElem hj];rfl
theorem aBm(U:List Int)(x y:Int)(W:List Int):(U++x::W).set U.length y=U++y::W:=by
 rw[List.set_append_right _ _ (Nat.le_refl _)];simp
theorem wM(U:List Int)(x:Int)(W:List Int):(U++x::W).getD U.length 0=x:=by
 rw[List.getD_eq_getElem?_getD,List.getElem?_append_right (Nat.le_refl _)];simp
theorem iE(n:Int)(h0 : -9223372036854775808≤n)(h1:n≤9223372036854775807):IntKind.i64.wrap n=n:=by
 simp only[IntKind.wrap,IntKind.signed,IntKind.bits]
 simp
 split<;>omega
end Go.Proofs.YtempldclppogmaaGreatDoor.Aw.U
