/- block.nearby: the near ones of each vertex, rising; Near. -/
import Derived.Test.YtbgngpdonpeboaaGreatDoorJd
import Derived.Test.YtbgngpdonpeboaaGreatDoorAwFz
import Derived.Test.YtbgngpdonpeboaaGreatDoorAwMr4
import Derived.Test.YtbgngpdonpeboaaGreatDoorAwRg
set_option linter.unusedVariables false
set_option linter.unusedSimpArgs false
set_option linter.defProp false
set_option maxHeartbeats 4000000
open Go.Proofs.Tryz
namespace Go.Proofs.YtbgngpdonpeboaaGreatDoor
namespace Aw
open Go Go.RowKit Pl
abbrev VB:=Int×Nat
def iT(H:List (Int×Int))(L:List VB):List (List Int×LV):=L.map fun p=>([p.1],.ms p.2 0 (nbH p.1 H).length)
structure NbM(H:List (Int×Int))(lo:Nat)(m:Nat)(L:List VB)(s:St):Prop where
 hm:s.H m=.map false [.u32] (iT H L)
 bx:∀ p∈L,lo<=p.2/\p.2<s.next/\s.H p.2=.box 34 1 (us (nbH p.1 H))
 nd:(L.map (·.2)).Nodup
 kd:(L.map (·.1)).Nodup
 all:∀ v,nbH v H≠[]↔v∈L.map (·.1)
theorem xT{H:List (Int×Int)}{v:Int}:∀ {L:List VB},v∉L.map (·.1)->bS (iT H L) [v]=none
 |[],_=>rfl
 |p::L,h=>by simp only[aAm,aAe,aCx]at h;simp only[iT,aAm,bS];rw[aAa (by simpa using h.1)];exact xT h.2
theorem wQ{H:List (Int×Int)}{v:Int}{q:Nat}:∀ {L1 L2:List VB},v∉L1.map (·.1)->bS (iT H (L1++(v,q)::L2)) [v]=some (.ms q 0 (nbH v H).length)
 |[],L2,_=>by simp[iT,bS]
 |p::L1,L2,h=>by simp only[aAm,aAe,aCx]at h;simp only[List.cons_append,iT,aAm,bS];rw[aAa (by simpa using h.1)];exact wQ h.2
theorem Gw{H H':List (Int×Int)}{v:Int}{q q':Nat}:∀ {L1 L2:List VB},v∉L1.map (·.1)->v∉L2.map (·.1)->(∀ u,u≠v->nbH u H'=nbH u H)->bV (iT H (L1++(v,q)::L2)) [v] (.ms q' 0 (nbH v H').length)=iT H' (L1++(v,q')::L2)
 |[],L2,_,h2,hn=>by
  simp only[List.nil_append,iT,aAm,bV,beq_self_eq_true,aBs]
  congr 1
  refine aAQ fun p hp=>?_;rw[hn p.1 (fun e=>h2 (by rw[<- e];exact aAi.2 ⟨p,hp,rfl⟩))]
 |p::L1,L2,h,h2,hn=>by simp only[aAm,aAe,aCx]at h;have ih:=Gw (H:=H) (H':=H') (q:=q) (q':=q') (L1:=L1) (L2:=L2) h.2 h2 hn;simp only[List.cons_append,iT,aAm,bV]at ih ⊢;rw[aAa (by simpa using h.1),ih,hn p.1 (fun e=>h.1 e.symm)]
theorem It{H H':List (Int×Int)}{v:Int}{q':Nat}:∀ {L:List VB},v∉L.map (·.1)->(∀ u,u≠v->nbH u H'=nbH u H)->bV (iT H L) [v] (.ms q' 0 (nbH v H').length)=iT H' (L++[(v,q')])
 |[],_,_=>rfl
 |p::L,h,hn=>by simp only[aAm,aAe,aCx]at h;have ih:=It (H:=H) (H':=H') (q':=q') (L:=L) h.2 hn;simp only[List.cons_append,iT,aAm,bV]at ih ⊢;rw[aAa (by simpa using h.1),ih,hn p.1 (fun e=>h.1 e.symm)]
theorem EI{H:List (Int×Int)}{a b u:Int}(h:u≠a):nbH u (H++[(a,b)])=nbH u H:=by rw[Ii,aAa (fun e=>h e.symm),aAS]
theorem nT{H:List (Int×Int)}{a b:Int}:nbH a (H++[(a,b)])=nbH a H++[b]:=by rw[Ii,aAj rfl]
theorem NbM.add{H:List (Int×Int)}{lo m:Nat}{L:List VB}{s:St}(h:NbM H lo m L s){a b:Int}(ha:a∉L.map (·.1)){q':Nat}{s':St}(hq:lo<=q'/\s.next<=q'/\q' < s'.next)
 (hm:s'.H m=.map false [.u32] (bV (iT H L) [a] (.ms q' 0 (nbH a H++[b]).length))) (hb:s'.H q'=.box 34 1 (us (nbH a H++[b]))) (ho:∀ p∈L,s'.H p.2=s.H p.2) (hn:s.next<=s'.next):NbM (H++[(a,b)]) lo m (L++[(a,q')]) s':=by
 have W0:∀ u,u≠a->nbH u (H++[(a,b)])=nbH u H:=fun u hu=>EI hu;refine⟨?_,fun p hp=>?_,?_,?_,fun v=>?_⟩
 .rw[hm,<- nT,It ha W0]
 .rcases aAd.1 hp with hp|hp
  .obtain⟨h1,h2,h3⟩:=h.bx p hp;exact⟨h1,oO,by rw[ho p hp,h3,W0 p.1 (fun e=>ha (by rw[<- e];exact aAi.2 ⟨p,hp,rfl⟩))]⟩
  .rw[aAk]at hp;subst hp;exact⟨hq.1,hq.2.2,by rw[hb,nT]⟩
 .rw[aAv,aAo];refine⟨h.nd,sS,fun x hx y hy=>?_⟩;obtain⟨p,hp,rfl⟩:=aAi.1 hx;simp at hy;have:=(h.bx p hp).2.1;omega
 .rw[aAv,aAo];exact⟨h.kd,sS,fun x hx y hy=>by simp at hy;subst hy;rintro rfl;exact ha hx⟩
 .rw[aAv,aAd];by_cases hv:v=a
  .subst hv;rw[nT];simp
  .rw[W0 v hv,h.all v];simp[hv]
theorem NbM.put{H:List (Int×Int)}{lo m:Nat}{L1 L2:List VB}{s:St}{a b:Int}{q:Nat}(h:NbM H lo m (L1++(a,q)::L2) s){q':Nat}{s':St}(hq:lo<=q'/\s.next<=q'/\q' < s'.next)
 (hm:s'.H m=.map false [.u32] (bV (iT H (L1++(a,q)::L2)) [a] (.ms q' 0 (nbH a H++[b]).length))) (hb:s'.H q'=.box 34 1 (us (nbH a H++[b]))) (ho:∀ p,p∈L1\/p∈L2->p.2≠q->p.2<s.next->s'.H p.2=s.H p.2) (hn:s.next<=s'.next):NbM (H++[(a,b)]) lo m (L1++(a,q')::L2) s':=by
 have W0:∀ u,u≠a->nbH u (H++[(a,b)])=nbH u H:=fun u hu=>EI hu;have kd:=h.kd;have nd:=h.nd;rw[aAv,aAm,aAo,aAq]at kd nd;obtain⟨kd1,⟨kd2,kd3⟩,kd4⟩:=kd;obtain⟨nd1,⟨nd2,nd3⟩,nd4⟩:=nd;have ha1:a∉L1.map (·.1):=fun e=>kd4 a e a sS rfl;have hb1:∀ p,p∈L1\/p∈L2->p.1≠a/\p.2≠q/\(lo<=p.2/\p.2<s.next/\s.H p.2=.box 34 1 (us (nbH p.1 H))):=by
  intro p hp;refine⟨?_,?_,h.bx p (by rcases hp with hp|hp<;>simp[hp])⟩
  .rcases hp with hp|hp
   .exact fun e=>ha1 (by rw[<- e];exact aAi.2 ⟨p,hp,rfl⟩)
   .exact fun e=>kd2 (by rw[<- e];exact aAi.2 ⟨p,hp,rfl⟩)
  .rcases hp with hp|hp
   .exact nd4 _ (aAi.2 ⟨p,hp,rfl⟩) q sS
   .exact fun e=>nd2 (by rw[<- e];exact aAi.2 ⟨p,hp,rfl⟩)
 refine⟨?_,fun p hp=>?_,?_,?_,fun v=>?_⟩
 .rw[hm,<- nT,Gw ha1 kd2 W0]
 .have U5:(p∈L1\/p∈L2)\/p=(a,q'):=by
   rcases aAd.1 hp with hp|hp
   .exact .inl (.inl hp)
   .rcases aAe.1 hp with hp|hp
    .exact .inr hp
    .exact .inl (.inr hp)
  rcases U5 with hp|rfl
  .obtain⟨h1,h2,h3,h4,h5⟩:=hb1 p hp;exact⟨h3,oO,by rw[ho p hp h2 h4,h5,W0 p.1 h1]⟩
  .exact⟨hq.1,hq.2.2,by rw[hb,nT]⟩
 .rw[aAv,aAm,aAo,aAq];have lt:∀ p,p∈L1\/p∈L2->p.2<s.next:=fun p hp=>(hb1 p hp).2.2.2.1;refine⟨nd1,⟨fun e=>?_,nd3⟩,fun x hx y hy=>?_⟩
  .obtain⟨p,hp,e⟩:=aAi.1 e;have:=lt p (.inr hp);simp only at e;omega
  .rcases aAe.1 hy with rfl|hy
   .obtain⟨p,hp,rfl⟩:=aAi.1 hx;have:=lt p (.inl hp);omega
   .exact nd4 x hx y (aAc _ hy)
 .have:=h.kd;rw[aAv,aAm]at this ⊢;exact this
 .by_cases hv:v=a
  .subst hv;rw[nT];simp
  .rw[W0 v hv,h.all v,aAv,aAv,aAm,aAm]
theorem mV{α β:Type}{f:α->β}:∀ {L:List α},(L.map f).Nodup->∀ {x y:α},x∈L->y∈L->f x=f y->x=y
 |[],_,_,_,hx,_,_=>by simp at hx
 |z::L,h,x,y,hx,hy,e=>by
  simp only[aAm,aAq]at h;rcases aAe.1 hx with U9|U9<;>rcases aAe.1 hy with hy'|hy'
  .rw[U9,hy']
  .exact absurd (aAi.2 ⟨y,hy',by rw[<- e,U9]⟩) h.1
  .exact absurd (aAi.2 ⟨x,U9,by rw[e,hy']⟩) h.1
  .exact mV h.2 U9 hy' e
theorem Bp{P:Program}{N:Nat}{Q:AQ}{k:List gO}{fr:Frm}{st:St}{x:Code}(I:Frm->St->Prop)(h1:AWp P N x (AK P N (fun e f s=>e=.normal/\I f s) []) fr st)(h2:∀ fr st,I fr st->AK P N Q k .normal fr st):
 AWp P N x (AK P N Q k) fr st:=by
 refine dD h1 ?_;rintro e c8 st' ⟨rfl,hI⟩;exact h2 _ _ hI
theorem Ov{P:Program}{N:Nat}{Q:AQ}{c:Code}{fr:Frm}{st:St}(I:Frm->St->Prop)(h0:I fr st)(h:∀ fr st,I fr st->AWp P N c Q fr st):AWp P N c Q fr st:=h _ _ h0
theorem NbM.keeps{H:List (Int×Int)}{lo m:Nat}{L:List VB}{s s':St}(h:NbM H lo m L s)(k:aA s s')(hm:m<s.next):NbM H lo m L s':=
 ⟨by rw[k.H m hm];exact h.hm,fun p hp=>by obtain⟨h1,h2,h3⟩:=h.bx p hp;exact⟨h1,aAs h2 k.next,by rw[k.H _ h2];exact h3⟩,h.nd,h.kd,h.all⟩
def SoI(j9:St)(H:List (Int×Int))(M:Nat)(L:List VB)(Lr:List (List Int×LV))(fr:Frm)(s:St):Prop:=
 fr 3=.mp M/\(Lr.map (·.1)).Nodup/\(∀ e∈Lr,∃ p∈L,e=([p.1],.ms p.2 0 (nbH p.1 H).length))/\s.H M=.frz false [.u32] (iT H L)/\M<s.next/\aA j9 s/\
 ∀ p∈L,p.2<s.next/\∃ c,s.H p.2=.box 34 1 (us c)/\c.Perm (nbH p.1 H)/\([p.1]∉Lr.map (·.1)->c.Pairwise (·<=·))
def NrI(j9:St)(S:List Ed)(M k:Nat)(H:List (Int×Int))(fr:Frm)(s:St):Prop:=
 fr 3=.mp M/\fr 17=.sl 0 S.length (eds S)/\fr 18=i S.length/\fr 19=i k/\j9.next<=M/\M<s.next/\aA j9 s/\∃ L,NbM H j9.next M L s
theorem VK(g:Gr)(st:St)(hv:g.vs.length<=1048576)(he:g.es.length<=1000)(hp:0<st.next):
 aB prog 179 [.ag (grL g)] st fun r st'=>∃ m L,r=.mp m/\st.next<=m/\m<st'.next/\aA st st'/\st'.H m=.map false [.u32] (IW L)/\(∀ p∈L,st.next<=p.2.1/\st'.H p.2.1=.box 34 1 p.2.2)/\(L.map fun p=>p.2.1).Nodup/\
  ∃ K:List Int,K.Nodup/\(∀ v,nbH v (hfs (sE g.es))≠[]↔v∈K)/\L.map (fun p=>(p.1,p.2.2))=K.map fun v=>([v],us (cU g.es v)):=by
 have hel:=aK (sE g.es);have hsl:=oV g.es;refine zN func179 ntmps179 [.tmp 2] ?_
 (refine xj0 ?_;intro J hJ)
 refine qE (QK g _ hv oO sS) sS ?_;rintro r s1 ⟨rfl,j7⟩;have N6:=j7.next;simp only[aG]at N6;have W2:aA st s1:=((aA.new _ _).trans (aA.new _ _)).trans j7;have hm1:s1.H (st.next+1)=.map false [.u32] []:=by rw[j7.H _ sS];simp
 have e1:¬st.next+1=s1.next:=oO;generalize U4:(bnd g.es).length=bl;generalize hbc:((bnd g.es).map fun l=>LV.sl 0 l.length (us l))=bc;refine nL hJ hel ?_;refine qL (fun n fr s=>∃ k:Nat,k<=(sE g.es).length/\n=(sE g.es).length-k/\NrI st (sE g.es) (st.next+1) k (hfs ((sE g.es).take k)) fr s) (sE g.es).length ?_ ?_
 .refine⟨0,oO,oO,sS,sS,sS,sS,oO,by simp;omega,(W2.trans (aA.new _ _)),[],?_⟩;exact⟨by simp[e1,hm1,iT],sS,sS,sS,by simp[hfs,nbH]⟩
 rintro n fr s ⟨k,hk,rfl,f3,f17,f18,f19,hM1,Y4,j8,L,V7⟩ JJ hJJ;generalize hMM:st.next+1=M at *;by_cases dA:k<(sE g.es).length;rotate_left
 .clear hJJ;have P0:k=(sE g.es).length:=oO;rw[P0,aAU]at V7;apply qS
  (refine zE ?_;intro J hJ;simp[f18,f19,dA];(refine zJ hJ ?_;clear hJ J))
  apply qS
  (apply qC;simp[])
  refine qX (zZ ?_);have hHl:(hfs (sE g.es)).length<=2000:=by rw[Et];omega
  generalize hHH:hfs (sE g.es)=H at *;apply qS;refine FM nK [] (SoI st H M L) (sF1 f3) V7.hm ?_ ?_ ?_ underlying62
  .intro r;refine⟨sF1 f3,?_,?_,sS,by simp;omega,j8.set hM1 _,fun p hp=>?_⟩
   .have:=V7.kd;rw[iT,aAW];have e:L.map ((fun x=>x.1)∘fun p:VB=>(([p.1],LV.ms p.2 0 (nbH p.1 H).length):List Int×LV))=(L.map (·.1)).map fun v=>[v]:=by rw[aAW];rfl
    rw[e];exact this.map (fun v=>[v]) fun a b x8 h=>x8 (by simpa using h)
   .intro e hee;obtain⟨p,hp,rfl⟩:=aAi.1 hee;exact⟨p,hp,rfl⟩
   .obtain⟨h1,h2,h3⟩:=V7.bx p hp;have h4:¬p.2=M:=bU h3 V7.hm sS;refine⟨by simp;exact h2,nbH p.1 H,by rw[bQ,aAa h4];exact h3,.refl _,fun h=>absurd (aAi.2 ⟨_,aAi.2 ⟨p,hp,rfl⟩,rfl⟩) h⟩
  .rintro r L1 e L2 fr s2 ⟨F3,hnd,hem,hMd,N0,hK2,hbx⟩ ft J hJ;obtain⟨p,hp,rfl⟩:=hem e sS;obtain⟨v,q⟩:=p;obtain⟨hql,c,hcH,hcp,-⟩:=hbx (v,q) hp;have r8:c.length=(nbH v H).length:=hcp.length_eq;have r9:=zX v H;simp only at r8 hcH hql hcp;have hsort:=WD c q s2 oO hql hcH;rw[r8]at hsort;apply cI;simp[Fz,mkC]
   (refine pG hJ ?_;intro J hJ)
   refine qE (hsort) (by simp[]) ?_;rintro r st' ⟨d,z7,O7,hd3,hd4⟩
   (repeat' (apply cI;simp[];(refine zJ hJ ?_;clear hJ J)))
   rw[aAv,aAm,aAo,aAq]at hnd;obtain⟨nd1,⟨nd2,nd3⟩,nd4⟩:=hnd;have hMq:¬M=q:=fun h=>by rw[h,hcH]at hMd;cases hMd
   refine hJ _ _ ⟨sF1 F3,?_,fun e he=>hem e (by simp only[aAd,aAe]at he ⊢;rcases he with h|h;exact .inl h;exact .inr (.inr h)),by rw[hd4.2 M hMq N0];exact hMd,aAs N0 hd4.1,?_,fun p Y8=>?_⟩ (sF1 ft) (by rw[hd4.2 M hMq N0];exact hMd)
   .rw[aAv,aAo];exact⟨nd1,nd3,fun a ha b hb=>nd4 a ha b (aAc _ hb)⟩
   .have hq0:st.next<=q:=(V7.bx (v,q) hp).1;exact⟨aBa hK2.next hd4.1,fun l hl=>by rw[hd4.2 l oO (aAs hl hK2.next)];exact hK2.H l hl⟩
   .obtain⟨h1,c2,h2,h3,h4⟩:=hbx p Y8;by_cases hpq:p.2=q
    .obtain rfl:p=(v,q):=by exact mV V7.nd Y8 hp hpq
     exact⟨aAs h1 hd4.1,d,z7,O7.trans hcp,fun _=>hd3⟩
    .refine⟨aAs h1 hd4.1,c2,by rw[hd4.2 _ hpq h1];exact h2,h3,fun x9=>h4 fun j5=>x9 ?_⟩;rw[aAv,aAm,aAd,aAe]at j5;rw[aAv,aAd];rcases j5 with h|h|h
     .exact .inl h
     .exfalso;simp at h;have e2:=mV V7.kd Y8 hp h;exact hpq (by rw[e2])
     .exact .inr h
  .rintro fr s2 ⟨F3,-,-,hMd,N0,hK2,hbx⟩;simp only[ak];have r9:∀ v,(us (cU g.es v)).length=(nbH v H).length:=fun v=>by rw[aAD,<- hHH];exact(rE _).length_eq
   refine xw1 F3 ?_;refine⟨hM1,oO,hK2.set hM1 _,L.map fun p=>([p.1],p.2,us (cU g.es p.1)),?_,?_,?_,L.map (·.1),V7.kd,?_,?_⟩
   .congr 1
    rw[IW,aAW,iT];refine aAQ fun p _=>?_;simp only[Function.comp,r9]
   .intro a q b j5;obtain⟨p,hp,he⟩:=aAi.1 j5;injection he with e1 e2;injection e2 with e2 e3;subst e1 e2 e3;obtain⟨h1,c,h2,h3,h4⟩:=hbx p hp;have h5:¬p.2=M:=fun h=>by rw[h,hMd]at h2;cases h2
    rw[aAa h5];refine⟨(V7.bx p hp).1,?_⟩;rw[h2,Xa h3 (h4 sS),<- hHH];rfl
   .have:=V7.nd;rw[aAW];exact this
   .intro v;exact V7.all v
   .rw[aAW,aAW];rfl
 have hd:=aR (sE g.es) k dA;have hw:=qN k oO;have o8:k*3<(sE g.es).length*3:=oO;have htk1:(sE g.es).take (k+1)=(sE g.es).take k++[(sE g.es).getD k ed0]:=by rw[aAg,aAh dA];exact aAp dA
 have hEl:(hfs ((sE g.es).take k)).length<=2000:=by rw[Et,aAw];omega
 generalize (sE g.es).getD k ed0=x at *;have Y7:hfs ((sE g.es).take (k+1))=hfs ((sE g.es).take k)++[(x.a,x.b)]++[(x.b,x.a)]:=by rw[htk1,QU]
 obtain⟨id,a,b⟩:=x;simp only at hd Y7;generalize hfs ((sE g.es).take k)=H at *;have b0:¬s.next=M:=oO;refine xw7 f17 f18 f19 dA hd hel o8 ?_;refine Ov (fun f s'=>NrI st (sE g.es) M k H f s'/\f 7=.pt s.next 0/\s.next<s'.next/\s'.H s.next=.box 36 3 [u id,u a,u b]) ?_ ?_
 .exact⟨⟨sF1 f3,sF1 f17,sF1 f18,sF1 f19,hM1,by simp;omega,j8.trans (aA.new _ _),L,V7.keeps (aA.new _ _) Y4⟩,sS,sS,sS⟩
 generalize s.next=X at *;clear V7 j8 hM1 Y4 f19 f18 f17 f3 L;rintro fr s ⟨⟨f3,f17,f18,f19,hM1,Y4,j8,L,V7⟩,f7,hXl,hX⟩;refine cE (fun f s'=>NrI st (sE g.es) M k (H++[(a,b)]) f s'/\f 7=.pt X 0/\X<s'.next/\s'.H X=.box 36 3 [u id,u a,u b]) ?_ ?_
 .clear hJJ;have N0:=V7.hm;have x1:¬X=M:=bU hX N0 sS;have x2:¬M=X:=fun h=>x1 h.symm;have x3:¬X=s.next:=oO;have x4:¬X=s.next+1:=oO;have y3:¬M=s.next:=oO;have y4:¬M=s.next+1:=oO;have y5:¬s.next=M:=oO;have y6:¬s.next+1=M:=oO;have r9:=zX a (H);by_cases j5:a∈L.map (·.1)
  .obtain⟨p,hp,rfl⟩:=aAi.1 j5;obtain⟨v,q⟩:=p;obtain⟨L1,L2,rfl⟩:=aBb hp;have kd:=V7.kd;rw[aAv,aAm,aAo]at kd;have P3:=wQ (H:=H) (q:=q) (L1:=L1) (L2:=L2) (v:=v) (fun e=>kd.2.2 v e v sS rfl);obtain⟨q1,q2,q3⟩:=V7.bx (v,q) sS;simp only at q1 q2 q3 r9;have z1:¬q=M:=bU q3 N0 sS;have z2:¬q=s.next:=oO;have z3:¬q=s.next+1:=oO;have z4:¬X=q:=bU hX q3 sS;have z5:¬M=q:=fun h=>z1 h.symm;have z6:List.take (nbH v (H)).length (us (nbH v (H)))=us (nbH v (H)):=aAu sS
   have put:=V7.put (b:=b) (q':=s.next+1) (s':=(((s.new (.own 34 1 1)).set q .dead).new (.box 34 1 (us (nbH v (H)++[b])))).set M (.map false [.u32] (bV (iT (H) (L1++(v,q)::L2)) [v] (.ms (s.next+1) 0 (nbH v (H)++[b]).length)))) ⟨oO,oO,sS⟩ sS (by(repeat (first|rw[nHh nOo]|rw[sHh oO]|rw[nIi nQq]|rw[sIi oO]))) (fun p hp h1 h2=>by
    have:=V7.bx p (by rcases hp with hp|hp<;>simp[hp]);have h3:¬p.2=M:=bU this.2.2 N0 sS
    (repeat (first|rw[nHh nOo]|rw[sHh oO]|rw[nIi nQq]|rw[sIi oO]))) (by simp;omega)
   generalize hF:nbH v (H)=F at *;generalize hN:iT (H) (L1++(v,q)::L2)=EM at *
   (refine zS [33] [X,M] [0,2,4,6,8,10,12,14,16,18,20,23] ?_;intro J hJ;simp[f3,f7,hX,N0,x1,x2,x3,x4,y3,y4,y5,y6,P3,q3,z1,z2,z3,z4,z5,z6];(repeat refine ca ?_);(refine zJ hJ ?_;clear hJ J))
   refine⟨by trivial,⟨sF1 f3,sF1 f17,sF1 f18,sF1 f19,hM1,by simp;omega,?_,L1++(v,s.next+1)::L2,?_⟩,sF1 f7,by simp;omega,?_⟩
   .refine⟨by have:=j8.next;simp;omega,fun l hl=>?_⟩;have:=j8.next
    (repeat (first|rw[nHh nOo]|rw[sHh oO]|rw[nIi nQq]|rw[sIi oO]));exact j8.H l hl
   .simpa using put
   ·(repeat (first|rw[nHh nOo]|rw[sHh oO]|rw[nIi nQq]|rw[sIi oO]));exact hX
  .have P3:=xT (H:=H) j5;have u9:nbH a (H)=[]:=by
    cases hc:nbH a (H) with
    |nil=>rfl
    |cons _ _=>exact absurd ((V7.all _).1 (by rw[hc];simp)) j5
   have put:=V7.add (a:=a) (b:=b) (q':=s.next+1) (s':=((s.new (.own 34 1 1)).new (.box 34 1 (us (nbH a (H)++[b])))).set M (.map false [.u32] (bV (iT (H) L) [a] (.ms (s.next+1) 0 (nbH a (H)++[b]).length)))) j5 ⟨oO,oO,sS⟩ sS (by(repeat (first|rw[nHh nOo]|rw[sHh oO]|rw[nIi nQq]|rw[sIi oO]))) (fun p hp=>by
    have:=V7.bx p hp;have h3:¬p.2=M:=bU this.2.2 N0 sS
    (repeat (first|rw[nHh nOo]|rw[sHh oO]|rw[nIi nQq]|rw[sIi oO]))) (by simp only[bH,aG];omega)
   rw[u9]at put;generalize hN:iT (H) L=EM at *
   (refine zS [33] [X,M] [0,2,4,6,8,10,12,14,16,18,20,23] ?_;intro J hJ;simp[f3,f7,hX,N0,x1,x2,x3,x4,y3,y4,y5,y6,P3];(repeat refine ca ?_);(refine zJ hJ ?_;clear hJ J))
   refine⟨by trivial,⟨sF1 f3,sF1 f17,sF1 f18,sF1 f19,hM1,by simp;omega,?_,L++[(a,s.next+1)],?_⟩,sF1 f7,by simp;omega,?_⟩
   .refine⟨by have:=j8.next;simp;omega,fun l hl=>?_⟩;have:=j8.next
    (repeat (first|rw[nHh nOo]|rw[sHh oO]|rw[nIi nQq]|rw[sIi oO]));exact j8.H l hl
   .simpa using put
   ·(repeat (first|rw[nHh nOo]|rw[sHh oO]|rw[nIi nQq]|rw[sIi oO]));exact hX
 clear V7 j8 hM1 Y4 f19 f18 f17 f3 f7 hXl hX L;rintro fr s ⟨⟨f3,f17,f18,f19,hM1,Y4,j8,L,V7⟩,f7,hXl,hX⟩;have hEl2:(H++[(a,b)]).length<=2001:=by rw[aAn];simp only[List.length_cons,List.length_nil];omega
 generalize H++[(a,b)]=H2 at *;refine Bp (fun f s'=>NrI st (sE g.es) M k (H2++[(b,a)]) f s'/\f 7=.pt X 0/\X<s'.next/\s'.H X=.box 36 3 [u id,u a,u b]) ?_ ?_
 .clear hJJ;have N0:=V7.hm;have x1:¬X=M:=bU hX N0 sS;have x2:¬M=X:=fun h=>x1 h.symm;have x3:¬X=s.next:=oO;have x4:¬X=s.next+1:=oO;have y3:¬M=s.next:=oO;have y4:¬M=s.next+1:=oO;have y5:¬s.next=M:=oO;have y6:¬s.next+1=M:=oO;have r9:=zX b (H2);by_cases j5:b∈L.map (·.1)
  .obtain⟨p,hp,rfl⟩:=aAi.1 j5;obtain⟨v,q⟩:=p;obtain⟨L1,L2,rfl⟩:=aBb hp;have kd:=V7.kd;rw[aAv,aAm,aAo]at kd;have P3:=wQ (H:=H2) (q:=q) (L1:=L1) (L2:=L2) (v:=v) (fun e=>kd.2.2 v e v sS rfl);obtain⟨q1,q2,q3⟩:=V7.bx (v,q) sS;simp only at q1 q2 q3 r9;have z1:¬q=M:=bU q3 N0 sS;have z2:¬q=s.next:=oO;have z3:¬q=s.next+1:=oO;have z4:¬X=q:=bU hX q3 sS;have z5:¬M=q:=fun h=>z1 h.symm;have z6:List.take (nbH v (H2)).length (us (nbH v (H2)))=us (nbH v (H2)):=aAu sS
   have put:=V7.put (b:=a) (q':=s.next+1) (s':=(((s.new (.own 34 1 1)).set q .dead).new (.box 34 1 (us (nbH v (H2)++[a])))).set M (.map false [.u32] (bV (iT (H2) (L1++(v,q)::L2)) [v] (.ms (s.next+1) 0 (nbH v (H2)++[a]).length)))) ⟨oO,oO,sS⟩ sS (by(repeat (first|rw[nHh nOo]|rw[sHh oO]|rw[nIi nQq]|rw[sIi oO]))) (fun p hp h1 h2=>by
    have:=V7.bx p (by rcases hp with hp|hp<;>simp[hp]);have h3:¬p.2=M:=bU this.2.2 N0 sS
    (repeat (first|rw[nHh nOo]|rw[sHh oO]|rw[nIi nQq]|rw[sIi oO]))) (by simp;omega)
   generalize hF:nbH v (H2)=F at *;generalize hN:iT (H2) (L1++(v,q)::L2)=EM at *
   (refine zS [44] [X,M] [0,2,4,6,8,10,12,14,16,18,20,23] ?_;intro J hJ;simp[f3,f7,hX,N0,x1,x2,x3,x4,y3,y4,y5,y6,P3,q3,z1,z2,z3,z4,z5,z6];(repeat refine ca ?_);(refine zJ hJ ?_;clear hJ J))
   refine⟨by trivial,⟨sF1 f3,sF1 f17,sF1 f18,sF1 f19,hM1,by simp;omega,?_,L1++(v,s.next+1)::L2,?_⟩,sF1 f7,by simp;omega,?_⟩
   .refine⟨by have:=j8.next;simp;omega,fun l hl=>?_⟩;have:=j8.next
    (repeat (first|rw[nHh nOo]|rw[sHh oO]|rw[nIi nQq]|rw[sIi oO]));exact j8.H l hl
   .simpa using put
   ·(repeat (first|rw[nHh nOo]|rw[sHh oO]|rw[nIi nQq]|rw[sIi oO]));exact hX
  .have P3:=xT (H:=H2) j5;have u9:nbH b (H2)=[]:=by
    cases hc:nbH b (H2) with
    |nil=>rfl
    |cons _ _=>exact absurd ((V7.all _).1 (by rw[hc];simp)) j5
   have put:=V7.add (a:=b) (b:=a) (q':=s.next+1) (s':=((s.new (.own 34 1 1)).new (.box 34 1 (us (nbH b (H2)++[a])))).set M (.map false [.u32] (bV (iT (H2) L) [b] (.ms (s.next+1) 0 (nbH b (H2)++[a]).length)))) j5 ⟨oO,oO,sS⟩ sS (by(repeat (first|rw[nHh nOo]|rw[sHh oO]|rw[nIi nQq]|rw[sIi oO]))) (fun p hp=>by
    have:=V7.bx p hp;have h3:¬p.2=M:=bU this.2.2 N0 sS
    (repeat (first|rw[nHh nOo]|rw[sHh oO]|rw[nIi nQq]|rw[sIi oO]))) (by simp only[bH,aG];omega)
   rw[u9]at put;generalize hN:iT (H2) L=EM at *
   (refine zS [44] [X,M] [0,2,4,6,8,10,12,14,16,18,20,23] ?_;intro J hJ;simp[f3,f7,hX,N0,x1,x2,x3,x4,y3,y4,y5,y6,P3];(repeat refine ca ?_);(refine zJ hJ ?_;clear hJ J))
   refine⟨by trivial,⟨sF1 f3,sF1 f17,sF1 f18,sF1 f19,hM1,by simp;omega,?_,L++[(b,s.next+1)],?_⟩,sF1 f7,by simp;omega,?_⟩
   .refine⟨by have:=j8.next;simp;omega,fun l hl=>?_⟩;have:=j8.next
    (repeat (first|rw[nHh nOo]|rw[sHh oO]|rw[nIi nQq]|rw[sIi oO]));exact j8.H l hl
   .simpa using put
   ·(repeat (first|rw[nHh nOo]|rw[sHh oO]|rw[nIi nQq]|rw[sIi oO]));exact hX
 clear V7 j8 hM1 Y4 f19 f18 f17 f3 f7 hXl hX L;rintro fr s ⟨⟨f3,f17,f18,f19,hM1,Y4,j8,L,V7⟩,f7,hXl,hX⟩;simp only[ak];refine xw2 f19 hw ?_;exact hJJ ((sE g.es).length-(k+1)) _ _ oO ⟨k+1,oO,rfl,sF1 f3,sF1 f17,sF1 f18,sS,hM1,Y4,j8,L,by rw[Y7];exact V7⟩
def YJ(es:List Ed)(v:Int):Option LV:=if cU es v=[]then none else some (.sl 0 (cU es v).length (us (cU es v)))
theorem EW{es:List Ed}(v:Int):∀ {K:List Int},bS (K.map fun v=>(([v],.sl 0 (cU es v).length (us (cU es v))):List Int×LV)) [v]=if v∈K then some (.sl 0 (cU es v).length (us (cU es v)))else none
 |[]=>rfl
 |k::K=>by
  simp only[aAm,bS];by_cases h:v=k
  .subst h;simp
  .have h':¬([v]==[k])=true:=by simpa using h
   rw[aAa h',EW v (K:=K)];simp[h]
theorem YF(g:Gr)(st:St)(hv:g.vs.length<=1048576)(he:g.es.length<=1000)(hp:0<st.next):
 aB prog 179 [.ag (grL g)] st fun r st'=>∃ m es,r=.mp m/\st.next<=m/\m<st'.next/\aA st st'/\st'.H m=.map false [.u32] es/\∀ v,bS es [v]=YJ g.es v:=by
 refine(Cd (R:=fun L=>∃ K:List Int,K.Nodup/\(∀ v,nbH v (hfs (sE g.es))≠[]↔v∈K)/\L.map (fun p=>(p.1,p.2.2))=K.map fun v=>([v],us (cU g.es v))) (VK g st hv he hp)).mono ?_;rintro r st' ⟨m,L,rfl,h1,h2,h3,h4,K,hK,hall,hL⟩;refine⟨m,_,rfl,h1,h2,h3,h4,fun v=>?_⟩;have e:IY L=K.map fun v=>([v],.sl 0 (cU g.es v).length (us (cU g.es v))):=by
  have e1:IY L=(L.map fun p=>(p.1,p.2.2)).map fun p=>(p.1,LV.sl 0 p.2.length p.2):=by rw[aAW];rfl
  rw[e1,hL,aAW];refine aAQ fun v _=>?_;simp
 rw[e,EW];unfold YJ;have hn:cU g.es v=[]↔nbH v (hfs (sE g.es))=[]:=by
  have:=(rE (nbH v (hfs (sE g.es)))).length_eq;unfold cU;constructor
  .intro h;rw[h]at this;exact aAK this.symm
  .intro h;rw[h];rfl
 by_cases hv:v∈K
 .rw[aAj hv,aAa (fun h=>(hall v).2 hv (hn.1 h))]
 .rw[aAa hv]
  split
  .rfl
  .rename_i h;exact absurd ((hall v).1 fun h2=>h (hn.2 h2)) hv
def sV(A:Led):List (List Int×LV):=A.map fun p=>([p.1],u p.2)
theorem JP(A:Led)(v:Int):bS (sV A) [v]=(kI A v).map u:=by
 induction A with
 |nil=>rfl
 |cons p A ih=>
  simp only[sV,aAm,bS,kI]at ih ⊢;by_cases h:v=p.1
  .subst h;simp
  .rw[aAa (by simpa using h),aAa h];exact ih
theorem QS{A:Led}{v w:Int}(h:v∉A.map (·.1)):bV (sV A) [v] (u w)=sV (A++[(v,w)]):=by
 induction A with
 |nil=>rfl
 |cons p A ih=>simp only[aAm,aAe,aCx]at h;have ih:=ih h.2;simp only[sV,aAm,List.cons_append,bV]at ih ⊢;rw[aAa (by simpa using h.1),ih]
theorem back(A:Led)(ma:Nat)(Sd to:Int)(n:Nat)(l:List Int)(st:St)(hn:n<=100000)(hl:iQ A Sd n to=some l)(hm:ma<st.next)(hH:st.H ma=.map false [.u32] (sV A)):
 aB prog 180 [.mp ma,u Sd,u to] st fun r st'=>r=.sl 0 (to::l).reverse.length (us (to::l).reverse)/\aA st st':=by
 have hll:=Dr hl;refine cD ?_;refine zN func180 ntmps180 [.tmp 6] ?_
 (repeat' (first|apply qS|apply qB|(refine w_e [10] ?_;intro J hJ;simp only[];simp[];(refine zJ hJ ?_;clear hJ J))))
 refine qL (fun k fr s=>∃(v:Int) (W R:List Int),iQ A Sd k v=some R/\to::l=W++R/\k<=n/\W.length+k<=n+1/\fr 0=.mp ma/\fr 1=u Sd/\fr 8=u v/\∃ q,fr 7=.ms q 0 W.length/\s.H q=.box 34 1 (us W)/\st.next<=q/\q<s.next/\aA st s) n ?_ ?_
 .exact⟨to,[to],l,hl,rfl,oO,by simp;omega,sS,sS,sS,st.next,sS,sS,aAl _,sS,aA.new _ _⟩
 rintro k fr s ⟨v,W,R,hb,hW,hk,hWk,f0,f1,f8,q,f7,hq,hq0,hql,j8⟩ JJ hJJ;have hHs:s.H ma=.map false [.u32] (sV A):=by rw[j8.H ma hm];exact hH
 have hg:=JP A v;by_cases hv:v=Sd
 .clear hJJ;have hR:R=[]:=by cases k<;>(simp only[iQ,aAj hv,aAb]at hb;exact hb.symm)
  subst hR;rw[aAS]at hW;have hv2:(v != Sd)=false:=by simpa using hv
  (refine xj5 f1 f8 hv hv2 f7 ?_;intro J hJ)
  refine qE (Ag W q s (by unfold small;omega) hq) (by simp[]) ?_;rintro r st' rfl;refine nL hJ f7 ?_;exact⟨q,W.length,⟨rfl,rfl⟩,34,1,us W.reverse,sS,sS,by subst hW;simp,(j8.set hq0 _).set hq0 _⟩
 .cases k with
  |zero=>simp only[iQ,aAa hv]at hb;cases hb
  |succ k=>
   simp only[iQ,aAa hv,aBk]at hb;obtain⟨R',hb,rfl⟩:=hb;have hv2:(v != Sd)=true:=by simpa using hv
   have Z4:((bS (sV A) [v]).getD (u 0))=u ((kI A v).getD 0):=by rw[hg];cases kI A v<;>rfl
   generalize (kI A v).getD 0=x at *;have q1:¬q=s.next:=oO;have L0:List.take W.length (us W)=us W:=aAu sS
   (repeat' (first|apply qS|apply qB|refine qK (zZ ?_)|(apply qC;simp[f0,f1,f8,hv,hv2,f7,hHs,Z4,q1,hq,L0])|(refine zE ?_;intro J hJ;simp[f0,f1,f8,hv,hv2,f7,hHs,Z4,q1,hq,L0];(repeat refine ca ?_);(refine zJ hJ ?_;clear hJ J))))
   refine hJJ k _ _ oO ⟨x,W++[x],R',hb,by rw[hW];simp,oO,by simp;omega,sF1 f0,sF1 f1,sS,s.next+1,sS,sS,by have:=j8.next;omega,sS,?_⟩;exact(((j8.trans (aA.new _ _)).set hq0 _).trans (aA.new _ _))
def Sx(th:LV)(may:Int->Bool)(st:St):Prop:=
 (th=.atom .nilFunc/\∀ v,may v=true)\/∃ f Gj,th=.fn (.func f) Gj/\Gj.map norm=Gj/\∀ v s,aA st s->aB prog f (u v::Gj) s fun r s'=>r=bb (may v)/\aA s s'
structure PaB(j9:St)(A:Led)(Q:List Int)(Ma Mn tq o:Nat)(es:List (List Int×LV))(s:St):Prop where
 ha:s.H Ma=.map false [.u32] (sV A)
 hn:s.H Mn=.map false [.u32] es
 hq:s.H tq=.que 34 (o+Q.length)
 b:j9.next<=Ma/\j9.next<=Mn/\j9.next<=tq/\Ma<s.next/\Mn<s.next/\tq<s.next/\tq≠0/\¬Mn=Ma
 kp:aA j9 s
theorem Path(g:Gr)(Sd to:Int)(th:LV)(may:Int->Bool)(n:Nat)(l:List Int)(st:St)(hv:g.vs.length<=1048576)(he:g.es.length<=1000)(hn:n<=1000)(hm:Sx th may st)(hl:vY g.vs (cU g.es) may Sd to n=some l):
 aB prog 139 [.ag (grL g),u Sd,u to,th] st fun r st'=>r=.sl 0 l.length (us l)/\aA st st':=by
 have hth:norm th=th:=by rcases hm with⟨rfl,_⟩|⟨f,c,rfl,_,_⟩<;>rfl
 refine eU ?_;refine zN func139 ntmps139 [.tmp 8] ?_;refine eR fun M5=>?_
 (refine xj0 ?_;intro J hJ)
 refine qE (VZ g Sd _ hv) sS ?_;rintro r s1 ⟨rfl,j7⟩;have N6:=j7.next;simp only[aG]at N6;have X7:s1.H st.next=.box 25 2 (grL g):=by rw[j7.H _ sS];simp
 have W2:aA st s1:=(aA.new _ _).trans j7;clear j7;unfold vY at hl;by_cases hf:Sd∈g.vs;rotate_left
 .have h0:gi g.vs Sd<0:=(Ev _ _).2 hf;rw[aAj (.inl hf)]at hl;injection hl with hl;subst hl
  (apply cI;simp[h0];(refine zJ hJ ?_;clear hJ J))
  refine xw0 ?_;exact⟨rfl,W2⟩
 have h0:¬gi g.vs Sd<0:=fun h=>(Ev _ _).1 h hf
 (apply cI;simp[h0,X7])
 refine qE (VZ g to _ hv) sS ?_;rintro r s2 ⟨rfl,u6⟩;have O6:=u6.next;have hG2:=(u6.H st.next oO).trans X7;have hkp2:=W2.trans u6;clear u6 W2 X7 h0;by_cases ht:to∈g.vs;rotate_left
 .have h0:gi g.vs to<0:=(Ev _ _).2 ht;rw[aAj (.inr ht)]at hl;injection hl with hl;subst hl
  (apply cI;simp[h0];(refine zJ hJ ?_;clear hJ J))
  refine xw0 ?_;exact⟨rfl,hkp2⟩
 have h0:¬gi g.vs to<0:=fun h=>(Ev _ _).1 h ht;rw[aAa (by simp[hf,ht])]at hl
 (apply cI;simp[h0];(refine zJ hJ ?_;clear hJ J))
 by_cases hft:Sd=to
 .rw[aAj hft]at hl;injection hl with hl;subst hl;refine xw1 hft ?_;refine⟨by simp[z0,z0L,hft],hkp2.trans (aA.new _ _)⟩
 rw[aAa hft]at hl
 (refine xj2 hft hG2 ?_;intro J hJ)
 refine qE (YF g _ hv he oO) sS ?_;rintro r s3 ⟨Mn,es,rfl,m1,m2,o8,hMn,hes⟩;have hn3:=o8.next;have hkp3:=hkp2.trans o8;obtain⟨R0,hbfs,hR0⟩:∃ R0,bfs (cU g.es) may to n [(Sd,Sd)] [Sd]=some R0/\((R0=none/\l=[])\/∃ A l',R0=some A/\iQ A Sd n to=some l'/\l=(to::l').reverse):=by
  cases hb:bfs (cU g.es) may to n [(Sd,Sd)] [Sd] with
  |none=>rw[hb]at hl;cases hl
  |some R0=>
   rw[hb]at hl;cases R0 with
   |none=>injection hl with hl;exact⟨_,rfl,.inl ⟨rfl,hl.symm⟩⟩
   |some A=>simp only[aBk]at hl;obtain⟨l',h1,h2⟩:=hl;exact⟨_,rfl,.inr ⟨A,l',rfl,h1,h2.symm⟩⟩
 clear hl;refine dQ hJ ?_;refine XJ 11 (t:=s3.next+1) (n:=1) (e:=34) (cs:=[u Sd]) sS sS oO oO ?_;have hc0:¬Mn=s3.next:=oO;have hc1:¬Mn=s3.next+1:=oO;refine qL (fun k fr s=>∃(A:Led) (Q:List Int) (tq o:Nat),bfs (cU g.es) may to k A Q=some R0/\k<=n/\Q.length+2000*k<=2000*n+1/\fr 1=u Sd/\fr 2=u to/\fr 3=th/\fr 9=.mp Mn/\fr 10=.mp s3.next/\fr 11=.qu tq o Q.length (us Q)/\PaB st A Q s3.next Mn tq o es s) n ?_ ?_
 .refine⟨_,_,s3.next+1,0,hbfs,aAl _,by simp;omega,sS,sS,sS,sS,sS,sS,?_⟩;refine⟨by simp[sV,bV],sF3 hc0 hc1 hMn,sS,⟨oO,oO,oO,by simp;omega,by simp;omega,sS,oO,hc0⟩,?_⟩;exact(((hkp3.trans (aA.new _ _)).trans (aA.new _ _)).set (q:=s3.next+1) oO _)
 generalize s3.next=Ma at *;clear o8 hn3 hkp3 hMn m1 m2 hG2 hkp2 O6 N6 hc0 hc1 hbfs;rintro k fr s ⟨A,Q,tq,o,hb,hk,hQ,f1,f2,f3,f9,f10,f11,hPa,hPn,hPq,⟨b1,b2,b3,b4,b5,b6,b7,b8⟩,j8⟩ JJ hJJ;cases Q with
 |nil=>
  clear hJJ;have h1:R0=none:=by cases k<;>(simp only[bfs,aAb]at hb;exact hb.symm)
  subst h1;rcases hR0 with⟨_,rfl⟩|⟨_,_,h,_⟩
  .refine xw1 f11 ?_;exact⟨rfl,j8⟩
  .cases h
 |cons v Q=>
 cases k with
 |zero=>simp[bfs]at hb
 |succ k=>
 have hQl:(Q.length:Int)+1 > 0:=oO;have Tf:=hes v;have hrl:=NH g.es v;simp only[bfs]at hb;generalize hrw:cU g.es v=row at *;have hslc:List.take (Q.length+1-1) (us Q)=us Q:=aAu sS;have hbn:¬(Q.length:Int)+1<=0:=oO
 (repeat (first|apply qS|apply qB))
 (refine zE ?_;intro J hJ;simp[f11,hQl];(refine zJ hJ ?_;clear hJ J))
 (repeat (first|apply qS|apply qB))
 (apply qC;simp[])
 refine qK ?_;simp only[ak]
 (repeat (first|apply qS|apply qB))
 (refine zE ?_;intro J hJ;simp[f11,hQl];(refine zJ hJ ?_;clear hJ J))
 (repeat (first|apply qS|apply qB))
 (refine zE ?_;intro J hJ;simp[f11,hQl,hslc];(repeat refine ca ?_);(refine zJ hJ ?_;clear hJ J))
 apply qS;refine cE (fun f s'=>s'=s/\f 1=u Sd/\f 2=u to/\f 3=th/\f 9=.mp Mn/\f 10=.mp Ma/\f 11=.qu tq (o+1) Q.length (us Q)/\f 12=u v/\(f 50=.nil/\row=[]\/f 50=.sl 0 row.length (us row))/\f 51=i row.length/\f 52=i (0:Nat)) ?_ ?_
 .clear hJJ;unfold YJ at Tf;rw[hrw]at Tf;by_cases hr0:row=[]
  .rw[aAj hr0]at Tf;refine xw3 f9 hPn Tf ?_;simp[f1,f2,f3,f9,f10,hr0]
  .rw[aAa hr0]at Tf;refine xw3 f9 hPn Tf ?_;simp[f1,f2,f3,f9,f10]
 clear f1 f2 f3 f9 f10 f11 fr Tf;rintro fr s' ⟨rfl,f1,f2,f3,f9,f10,f11,f12,f50,f51,f52⟩;apply qB;refine aY 52 51 53 84 row.length (fun j fr st2=>fr 1=u Sd/\fr 2=u to/\fr 3=th/\fr 9=.mp Mn/\fr 10=.mp Ma/\fr 12=u v/\(fr 50=.nil/\row=[]\/fr 50=.sl 0 row.length (us row))/\(dN may to v ⟨A,Q,false⟩ (row.take j)).hit=false/\∃ tq o,fr 11=.qu tq o (dN may to v ⟨A,Q,false⟩ (row.take j)).Q.length (us (dN may to v ⟨A,Q,false⟩ (row.take j)).Q)/\PaB st (dN may to v ⟨A,Q,false⟩ (row.take j)).A (dN may to v ⟨A,Q,false⟩ (row.take j)).Q Ma Mn tq o es st2) ?_ ?_ ?_ (hti:=f52) (htn:=f51)
 .refine⟨f1,f2,f3,f9,f10,f12,f50,rfl,tq,o+1,f11,⟨hPa,hPn,?_,⟨b1,b2,b3,b4,b5,b6,b7,b8⟩,j8⟩⟩;rw[hPq];simp only[List.take_zero,dN,List.foldl_nil,List.length_cons]
  congr 1
  omega
 .clear f1 f2 f3 f9 f10 f11 f12 f50 f51 f52 hPa hPn hPq b1 b2 b3 b4 b5 b6 b7 b8 j8 fr hJJ;rintro j fr s dA ⟨f1,f2,f3,f9,f10,f12,f50,hh,tq,o,f11,hPa,hPn,hPq,⟨b1,b2,b3,b4,b5,b6,b7,b8⟩,j8⟩ fi fn J hJ;have f50:fr 50=.sl 0 row.length (us row):=by
   rcases f50 with⟨_,h⟩|h
   .rw[h]at dA;simp at dA
   .exact h
  have hd:=qG row j dA;have L0:row.take (j+1)=row.take j++[row.getD j 0]:=by rw[aAg,aAh dA];exact aAp dA
  have O8:=KT may to v ⟨A,Q,false⟩ (row.take j) (row.getD j 0);rw[<- L0]at O8;have hsl:=ED may to v ⟨A,Q,false⟩ (row.take j);simp only[aAw]at hsl;have hfull:(dN may to v ⟨A,Q,false⟩ (row.take (j+1))).hit=true->dN may to v ⟨A,Q,false⟩ row=dN may to v ⟨A,Q,false⟩ (row.take (j+1)):=by intro h;have:row=row.take (j+1)++row.drop (j+1):=(aAz _ _).symm;rw[this,dN,aBM];have h2:=Df may to v h (row.drop (j+1));simp only[dN]at h2 ⊢;rw[h2];simp
  generalize row.getD j 0=x at *;generalize hS:dN may to v ⟨A,Q,false⟩ (row.take j)=S at *;obtain⟨SA,SQ,Sh⟩:=S;simp only at hh f11 hPa hPq hsl;subst hh;have hmg:=JP SA x;have hqa:¬tq=Ma:=bU hPq hPa sS;have hqn:¬tq=Mn:=bU hPq hPn sS;have hqa':¬Ma=tq:=fun h=>hqa h.symm;have hqn':¬Mn=tq:=fun h=>hqn h.symm;by_cases j5:x∈SA.map (·.1)
  .obtain⟨y,hy⟩:=CL j5;rw[hy]at hmg;simp only[Option.map_some]at hmg;have h1:gP may to v ⟨SA,SQ,false⟩ x=⟨SA,SQ,false⟩:=by simp[gP,j5]
   rw[h1]at O8;refine Xz hJ f10 f50 fi fn hd dA hPa hmg ?_;refine hJ _ _ (sF1 fi) (sF1 fn) ⟨sF1 f1,sF1 f2,sF1 f3,sF1 f9,sF1 f10,sF1 f12,.inr (sF1 f50),by rw[O8],tq,o,by rw[O8];simp[f11],by rw[O8];exact⟨hPa,hPn,hPq,⟨b1,b2,b3,b4,b5,b6,b7,b8⟩,j8⟩⟩
  rw[BD j5]at hmg;simp only[Option.map_none]at hmg;have hms:bV (sV SA) [x] (u v)=sV (SA++[(x,v)]):=QS j5;by_cases hxt:x=to
  .clear hJ;subst hxt;have h1:gP may x v ⟨SA,SQ,false⟩ x=⟨SA++[(x,v)],SQ,true⟩:=by unfold gP;rw[aAa sS,aAa j5,aAj rfl]
   rw[h1]at O8;have hf2:=hfull (by rw[O8]);rw[hf2,O8]at hb;simp only[aBs,aAb]at hb;subst hb;rcases hR0 with⟨h,_⟩|⟨A2,l',h,hbk,rfl⟩
   .cases h
   injection h with h;subst h
   (refine E5 f1 f2 f10 f12 f50 fi fn hd dA hPa hmg hms ?_;intro J hJ)
   refine qE (back (SA++[(x,v)]) Ma Sd x n l' _ oO hbk (by simp;exact b4) sS) sS ?_;rintro r s4 ⟨rfl,M7⟩;refine dQ hJ ?_;refine⟨by simp only[z0];congr 1;have:=Hg (x::l').reverse;simpa using this,?_⟩;exact(j8.set b1 _).trans M7
  have h1:gP may to v ⟨SA,SQ,false⟩ x=⟨SA++[(x,v)],if may x=true then SQ++[x]else SQ,false⟩:=by unfold gP;rw[aAa sS,aAa j5,aAa hxt]
  rw[h1]at O8;have tn0:¬tq=s.next:=oO;have hQ2:SQ.length<=3000000:=by simp only[List.length_cons]at hQ;omega
  have hT2:∀ m s',s'.H Ma=.map false [.u32] (sV (SA++[(x,v)]))->s'.H Mn=.map false [.u32] es->s'.H m=.que 34 (0+(SQ++[x]).length)->st.next<=m->m<s'.next->s.next<=s'.next->aA st s'->PaB st (SA++[(x,v)]) (SQ++[x]) Ma Mn m 0 es s':=fun m s' h1 h2 h3 h4 h5 h6 h7=>⟨h1,h2,h3,⟨b1,b2,h4,oO,oO,h5,oO,b8⟩,h7⟩;have hT1:∀ s',s'.H Ma=.map false [.u32] (sV (SA++[(x,v)]))->s'.H Mn=.map false [.u32] es->s'.H tq=.que 34 (o+SQ.length)->s.next<=s'.next->aA st s'->PaB st (SA++[(x,v)]) SQ Ma Mn tq o es s':=fun s' h1 h2 h3 h6 h7=>⟨h1,h2,h3,⟨b1,b2,b3,oO,oO,oO,b7,b8⟩,h7⟩;rcases hm with⟨rfl,hm⟩|⟨f,Gj,rfl,hcaps,hm⟩
  .rw[aAj (hm x)]at O8
   (repeat' (first|apply qS|refine qK (zZ ?_)|(apply qC;simp[f1,f2,f3,f10,f11,f12,f50,fi,fn,hd,dA,hPa,hmg,hms,hxt,hPq,hqa,hqn,hqa',hqn',tn0])|(refine zE ?_;intro J hJ;simp[f1,f2,f3,f10,f11,f12,f50,fi,fn,hd,dA,hPa,hmg,hms,hxt,hPq,hqa,hqn,hqa',hqn',tn0];(repeat refine ca ?_);(refine zJ hJ ?_;clear hJ J))))
   refine hJ _ _ (sF1 fi) (sF1 fn) ⟨sF1 f1,sF1 f2,sF1 f3,sF1 f9,sF1 f10,sF1 f12,.inr (sF1 f50),by rw[O8],s.next+1,0,by rw[O8];simp,?_⟩;rw[O8];refine hT2 _ _ (by(repeat (first|rw[nHh nOo]|rw[sHh oO]|rw[nIi nQq]|rw[sIi oO]))) (by(repeat (first|rw[nHh nOo]|rw[sHh oO]|rw[nIi nQq]|rw[sIi oO]));exact hPn) (by(repeat (first|rw[nHh nOo]|rw[sHh oO]|rw[nIi nQq]|rw[sIi oO]));simp) oO sS (by simp;omega) ?_;exact((((j8.set b1 _).trans (aA.new _ _)).set b3 _).trans (aA.new _ _))
  ·(refine Zt hJ f1 f2 f3 f10 f11 f12 f50 fi fn hd dA hPa hmg hms hxt ?_;intro J hJ)
   have hkz:aA st (s.set Ma (.map false [.u32] (sV (SA++[(x,v)])))):=j8.set b1 _;refine qE (hm x _ hkz) (sF1 hcaps) ?_;rintro r s4 ⟨rfl,M7⟩;have hn4:=M7.next;simp only[bH]at hn4;have hPa4:s4.H Ma=.map false [.u32] (sV (SA++[(x,v)])):=by rw[M7.H Ma (by simp;exact b4)];simp
   have hPn4:s4.H Mn=.map false [.u32] es:=by rw[M7.H Mn (by simp;exact b5)];simp[b8,hPn]
   have hPq4:s4.H tq=.que 34 (o+SQ.length):=by rw[M7.H tq (by simp;exact b6)];simp[hqa,hPq]
   have tn4:¬tq=s4.next:=oO;cases hmy:may x
   .rw[hmy,aAa sS]at O8
    (repeat' (first|refine qK (zZ ?_)|(apply qC;simp[f11])|(apply cI;simp[f11];(refine zJ hJ ?_;clear hJ J))))
    refine hJ _ _ (sF1 fi) (sF1 fn) ⟨sF1 f1,sF1 f2,sF1 f3,sF1 f9,sF1 f10,sF1 f12,.inr (sF1 f50),by rw[O8],tq,o,by rw[O8];simp[f11],?_⟩;rw[O8];exact hT1 _ hPa4 hPn4 hPq4 hn4 (hkz.trans M7)
   .rw[hmy,aAj rfl]at O8
    (repeat' (first|(apply qC;simp[f11,hPq4,tn4])|((first|(refine zE ?_;intro J hJ)|(apply cI));simp[f11,hPq4,tn4];(repeat refine ca ?_);(refine zJ hJ ?_;clear hJ J))))
    refine hJ _ _ (sF1 fi) (sF1 fn) ⟨sF1 f1,sF1 f2,sF1 f3,sF1 f9,sF1 f10,sF1 f12,.inr (sF1 f50),by rw[O8],s4.next+1,0,by rw[O8];simp,?_⟩;rw[O8];refine hT2 _ _ (by(repeat (first|rw[nHh nOo]|rw[sHh oO]|rw[nIi nQq]|rw[sIi oO]));exact hPa4) (by(repeat (first|rw[nHh nOo]|rw[sHh oO]|rw[nIi nQq]|rw[sIi oO]));exact hPn4) (by(repeat (first|rw[nHh nOo]|rw[sHh oO]|rw[nIi nQq]|rw[sIi oO]));simp) oO sS (by simp;omega) ?_;exact((((hkz.trans M7).trans (aA.new _ _)).set b3 _).trans (aA.new _ _))
 .rintro fr s ⟨f1,f2,f3,f9,f10,f12,f50,hh,tq,o,f11,hB⟩;rw[aAU]at hh f11 hB;rw[aAa (by rw[hh];simp)]at hb;have hsl:=ED may to v ⟨A,Q,false⟩ row;simp only at hsl;simp only[ak];refine hJJ k _ _ oO ⟨_,_,tq,o,hb,oO,by simp only[List.length_cons]at hQ;omega,sF1 f1,sF1 f2,sF1 f3,sF1 f9,sF1 f10,sF1 f11,hB⟩
theorem PG{vs:List Int}{v:Int}(h:v∉vs):bS (xA vs) [v]=none:=by
 have key:∀(L:List Nat),(∀ j∈L,j<vs.length)->bS (L.map fun k=>(([vs.getD k 0],i k):List Int×LV)) [v]=none:=by
  intro L;induction L with
  |nil=>intro _;rfl
  |cons j L ih=>intro hL;have hj:=hL j sS;have c7:¬v=vs.getD j 0:=fun e=>h (by rw[e,aW _ _ hj];exact aAE _);simp only[aAm,bS];rw[aAa (by simpa using c7)];exact ih fun j hj=>hL j (aAc _ hj)
 exact key _ fun j hj=>aBi.1 hj
def PR(vs:List Int)(v:Int):Int:=if v∈vs then v else vs.getD 0 0
theorem ZR{vs:List Int}{S pl:Nat}{st:St}(hS:ShB vs S pl st)(hn:vs.Nodup)(h64:vs.length<=64)(h0:0<vs.length)(v:Int):
 aB prog 137 [.pt S 0,u v] st fun r st'=>r=wv (mk vs [PR vs v])/\st'=st:=by
 unfold PR;by_cases hv:v∈vs
 .rw[aAj hv];exact VQ hS hn h64 hv
 .rw[aAa hv];obtain⟨⟨a,b,c,d,e,f,O1⟩,hP⟩:=hS;have h1:=PG hv;have h2:=Ll hn h64 h0;have h2:FT .u64 1 0=mk vs [vs.getD 0 0]:=h2;refine zN func137 ntmps137 [.tmp 4] ?_;exact xv4 O1 hP h1 h2
def inW(vs inner:List Int)(v:Int):Bool:=decide (PR vs v∈inner)
theorem Yv{vs inner:List Int}(h64:vs.length<=64){v:Int}(hv:v∈vs):((wM .u64 (mk vs [v]) (mk vs inner):Int) != 0)=decide (v∈inner):=by
 rw[SS _ _ _ h64];by_cases h:v∈inner
 .have:mk vs ([v].filter fun v=>decide (v∈inner))≠0:=fun e=>by have:=(mk_zero _ _).1 e v hv;simp[h]at this
  simpa[h]using this
 .have:mk vs ([v].filter fun v=>decide (v∈inner))=0:=(mk_zero _ _).2 fun w _=>by simp[h]
  rw[this];simp[h]
theorem Ym{vs inner:List Int}{e:LV}{S pl a b:Nat}{st:St}(hS:ShB vs S pl st)(hn:vs.Nodup)(h64:vs.length<=64)(h0:0<vs.length)(ha:st.H a=.box 130 1 [.pt S 0])(hb:st.H b=.box 138 2 [wv (mk vs inner),e])(v:Int):
 aB prog 145 [u v,.pt a 0,.pt b 0] st fun r st'=>r=bb (inW vs inner v)/\st'=st:=by
 have hbv:PR vs v∈vs:=by
  unfold PR;by_cases h:v∈vs
  .rw[aAj h];exact h
  .rw[aAa h,aW _ _ h0];exact aAE _
 have j5:=Yv (inner:=inner) h64 hbv;unfold inW;refine zN func145 ntmps145 [.tmp 4] ?_;refine xw0 ?_
 (refine zS [] [a,b] [0,2,6,8,4,10,12,14] ?_;intro J hJ;simp[ha,hb])
 refine xdP (ZR hS hn h64 h0 v) ?_;refine⟨fun h=>by first|(cases h;done)|exact fun _ _=>rfl|simp,?_⟩
 (apply bJ;simp[hb,j5];refine zJ hJ ?_)
 exact xv0
theorem H6{vs inner:List Int}{e:LV}{S pl a b c:Nat}{st:St}(hS:ShB vs S pl st)(hn:vs.Nodup)(h64:vs.length<=64)(h0:0<vs.length)(ha:st.H a=.box 130 1 [.pt S 0])(hb:st.H b=.box 138 2 [wv (mk vs inner),e])
 (hc:st.H c=.box 145 1 [.fn (.func 145) [.pt a 0,.pt b 0]]) (dA:S<st.next/\pl<st.next/\a<st.next/\b<st.next/\c<st.next) (x:Ed):
 aB prog 146 [.ag (edL x),.pt c 0] st fun r st'=>r=bb (inW vs inner x.a||inW vs inner x.b)/\aA st st':=by
 obtain⟨d,p,q⟩:=x;obtain⟨⟨e1,e2,e3,e4,e5,e6,O1⟩,hP⟩:=hS;have hk:=aA.new st (.box 36 3 (edL ⟨d,p,q⟩));have hW:=fun v=>Ym (vs:=vs) (inner:=inner) (e:=e) (S:=S) (pl:=pl) (a:=a) (b:=b) (st:=st.new (.box 36 3 (edL ⟨d,p,q⟩))) ⟨⟨e1,e2,e3,e4,e5,e6,(hk.H S dA.1).trans O1⟩,(hk.H pl dA.2.1).trans hP⟩ hn h64 h0 ((hk.H a dA.2.2.1).trans ha) ((hk.H b dA.2.2.2.1).trans hb) v;have c1:¬c=st.next:=oO;refine zN func146 ntmps146 [.tmp 3] ?_
 (refine xj2 hc c1 ?_;intro J hJ)
 refine xcP (hW p) ?_;cases hp:inW vs inner p
 ·(apply cI;simp[hc,c1])
  refine xcP (hW q) ?_;refine dQ hJ ?_;exact⟨fun h=>(by rw[hp]at h;cases h),hk⟩
 .refine dQ hJ ?_;exact⟨.inl hp,hk⟩
theorem WU(g:Gr)(f:FuncId)(Gj:List LV)(p:Ed->Bool)(st:St)(hv:g.vs.length<=1000)(he:g.es.length<=1000)(hp:MX f Gj st g.es p):
 aB prog 14 [.ag (grL g),.fn (.func f) Gj] st fun r st'=>r=.ag (grL ⟨g.vs,g.es.filter p⟩)/\aA st st':=by
 refine eU ((E7 g f Gj p st hv he hp).mono ?_);rintro r st' ⟨⟨X,rfl,hX⟩,hk⟩;refine⟨?_,hk⟩;simp only[z0,z0L,Hg]
 congr 1
 rcases hX with⟨rfl,h⟩|⟨t,rfl⟩
 .rw[h];simp[z0]
 .simp only[z0,AX]
def tC(g:Gr)(inner:List Int):Gr:=⟨g.vs,g.es.filter fun x=>inW g.vs inner x.a||inW g.vs inner x.b⟩
def Cv(g:Gr)(b:Brg):Int:=g.vs.getD (fst' g.vs b.ends) 0
def lH(g:Gr)(b:Brg):List Int:=b.ends.filter fun w=>decide (w≠Cv g b)
def toW(g:Gr)(b:Brg):Int:=g.vs.getD (fst' g.vs (lH g b)) 0
def Og(g:Gr)(b:Brg):Option (List Int):=
 if fst' g.vs b.ends<g.vs.length/\fst' g.vs (lH g b)<g.vs.length then
  if nrS g.vs b.inner=[]then some [Cv g b,toW g b]else vY g.vs (cU (tC g b.inner).es) (inW g.vs b.inner) (Cv g b) (toW g b) 1000
 else none
theorem J6{g:Gr}(hg:GP g){L:List (Int×Int)}{on:List Int}{F:List (List Int)}{S nl pl ll fl:Nat}{le:List (List Int×LV)}{st:St}(hS:ShA g L on F S nl pl ll fl le st){b:Brg}(hb:∀ v∈b.ends,v∈g.vs){w:List Int}(hw:Og g b=some w):
 aB prog 103 [.pt S 0,Tg g.vs b] st fun r st'=>r=.sl 0 w.length (us w)/\st'=st:=by
 refine qT (Q:=fun r=>r=.sl 0 w.length (us w)) (eU ?_) fun r h=>by subst h;exact⟨.inl rfl,AA _ _⟩
 have h64:=hg.h64;have he:=hg.he;have hn:g.vs.Nodup:=hg.toGoodE.toGood.nodup;unfold Og at hw;by_cases hq:fst' g.vs b.ends<g.vs.length/\fst' g.vs (lH g b)<g.vs.length
 case neg=>rw[aAa hq]at hw;cases hw
 rw[aAj hq]at hw;obtain⟨hq1,S9⟩:=hq;have h0:0<g.vs.length:=oO;have hc1:=Ga h64 hq1;have hc2:=Ga h64 S9;have hl1:=nH g.vs b.ends h64;have hl2:=nH g.vs (lH g b) h64;have hdp:=Lj h64 hn hq1;have hdp:wM .u64 (mk g.vs b.ends) (IntKind.u64.wrap ((mk g.vs b.ends:Int)-1))=mk g.vs (lH g b):=hdp;have z7:=qG g.vs _ hq1;have O7:=qG g.vs _ S9;have z7:(us g.vs).drop (fst' g.vs b.ends)=u (Cv g b)::us (g.vs.drop (fst' g.vs b.ends+1)):=z7;have O7:(us g.vs).drop (fst' g.vs (lH g b))=u (toW g b)::us (g.vs.drop (fst' g.vs (lH g b)+1)):=O7;have hi1:(fst' g.vs b.ends:Int)<g.vs.length:=oO;have hi2:(fst' g.vs (lH g b):Int)<g.vs.length:=oO;have hT1:=fun st=>Tz (mk g.vs b.ends) hl1 st;have hT2:=fun st=>Tz (mk g.vs (lH g b)) hl2 st;rw[hc1]at hT1;rw[hc2]at hT2;have O1:=hS.r.box;have dA:=hS.r.lt;have x1:¬S=st.next:=oO;have x2:¬S=st.next+1:=oO;generalize Cv g b=fm at *;generalize toW g b=tw' at *;generalize fst' g.vs b.ends=k1 at *;generalize fst' g.vs (lH g b)=k2 at *;generalize lH g b=E2 at *;have e0:¬st.next=st.next+1:=oO;refine zN func103 ntmps103 [.tmp 4] ?_;refine xw0 ?_
 (refine zS [] [S,st.next,st.next+1] [0,2,4,6,8,10,12,14,16,18,20] ?_;intro J hJ;simp[O1,x1,x2,e0])
 refine xdP (hT1 _) ?_;refine⟨fun h=>by first|(cases h;done)|exact fun _ _=>rfl|simp,?_⟩
 (apply bJ;simp[z7,hi1,hq1];(refine zJ hJ ?_;clear hJ J))
 (repeat (apply qS))
 (refine zS [] [S,st.next,st.next+1] [0,2,4,6,8,10,12,14,16,18,20,22,24,26,28] ?_;intro J hJ;simp[O1,x1,x2,e0,hdp])
 refine xdP (hT2 _) ?_;refine⟨fun h=>by first|(cases h;done)|exact fun _ _=>rfl|simp,?_⟩
 (apply bJ;simp[O7,hi2,S9];(refine zJ hJ ?_;clear hJ J))
 have hz0:mk g.vs []=0:=(mk_zero g.vs []).2 fun _ _=>by simp
 by_cases j5:nrS g.vs b.inner=[]
 .rw[aAj j5]at hw;obtain rfl:[fm,tw']=w:=by simpa using hw
  have hm:mk g.vs b.inner=0:=by rw[<- Fs,j5,hz0]
  refine xw1 hm ?_;exact⟨by simp[z0,z0L],((aA.new _ _).trans (aA.new _ _)).trans (aA.new _ _)⟩
 .rw[aAa j5]at hw
  have hm:mk g.vs b.inner≠0:=fun h=>j5 (by
   rw[<- Fs,mk_zero]at h
   exact aBZ.2 fun v hv=>h v (aAB.1 hv).1 hv)
  have hmb:((mk g.vs b.inner:Int)==0)=false:=by simpa using hm
  have x3:¬S=st.next+1+1:=oO
  have hT:∀ s3,aA st s3->st.next+2<s3.next->s3.H st.next=.box 130 1 [.pt S 0]->s3.H (st.next+1)=.box 138 2 [wv (mk g.vs b.inner),wv (mk g.vs b.ends)]->s3.H (st.next+1+1)=.box 145 1 [.fn (.func 145) [.pt st.next 0,.pt (st.next+1) 0]]->
   MX 146 [.pt (st.next+1+1) 0] s3 g.es fun x=>inW g.vs b.inner x.a||inW g.vs b.inner x.b:=fun s3 o8 hn3 hA3 hB3 hC3 x _ st2 u6=>by
   have O6:=u6.next;exact H6 (hS.keep (o8.trans u6)).r.b hn h64 h0 ((u6.H _ oO).trans hA3) ((u6.H _ oO).trans hB3) ((u6.H _ oO).trans hC3) oO x
  have hM:∀ s3,aA st s3->st.next+2<s3.next->s3.H st.next=.box 130 1 [.pt S 0]->s3.H (st.next+1)=.box 138 2 [wv (mk g.vs b.inner),wv (mk g.vs b.ends)]->
   Sx (.fn (.func 145) [.pt st.next 0,.pt (st.next+1) 0]) (inW g.vs b.inner) s3:=fun s3 o8 hn3 hA3 hB3=>.inr ⟨_,_,rfl,rfl,fun v s hk=>by
   refine(Ym (hS.keep (o8.trans hk)).r.b hn h64 h0 ((hk.H _ oO).trans hA3) ((hk.H _ oO).trans hB3) v).mono ?_;rintro r s' ⟨h1,rfl⟩
   exact⟨h1,aA.refl _⟩⟩
  (refine xj5 hmb O1 x1 x2 x3 ?_;intro J hJ)
  refine qE (WU g _ _ _ _ oO oO (hT _ ?_ ?_ ?_ ?_ ?_)) (by simp[grL]) ?_
  .exact(((aA.new _ _).trans (aA.new _ _)).trans (aA.new _ _)).set oO _
  .simp
  ·(repeat (first|rw[nHh nOo]|rw[sHh oO]|rw[nIi nQq]|rw[sIi oO]))
  ·(repeat (first|rw[nHh nOo]|rw[sHh oO]|rw[nIi nQq]|rw[sIi oO]))
  .simp
  rintro r s1 ⟨rfl,j7⟩;have N6:=j7.next;simp only[bH,aG]at N6;have hK1:aA st s1:=((((aA.new _ _).trans (aA.new _ _)).trans (aA.new _ _)).set oO _).trans j7;have hA1:s1.H st.next=.box 130 1 [.pt S 0]:=by rw[j7.H _ (by simp only[bH,aG];omega)];(repeat (first|rw[nHh nOo]|rw[sHh oO]|rw[nIi nQq]|rw[sIi oO]))
  have Z9:s1.H (st.next+1)=.box 138 2 [wv (mk g.vs b.inner),wv (mk g.vs b.ends)]:=by rw[j7.H _ (by simp only[bH,aG];omega)];(repeat (first|rw[nHh nOo]|rw[sHh oO]|rw[nIi nQq]|rw[sIi oO]))
  have hC1:s1.H (st.next+1+1)=.box 145 1 [.fn (.func 145) [.pt st.next 0,.pt (st.next+1) 0]]:=by rw[j7.H _ (by simp only[bH,aG];omega)];simp
  clear j7;have y1:¬st.next+1+1=s1.next:=oO;have y2:¬st.next=s1.next:=oO;have y3:¬st.next+1=s1.next:=oO;have U3:(tC g b.inner).es.length<=1000:=by have:=aBl (fun x:Ed=>inW g.vs b.inner x.a||inW g.vs b.inner x.b) g.es;unfold tC;simp only;omega
  (refine NI hJ hC1 y1 ?_;intro J hJ)
  refine qE (Path (tC g b.inner) fm tw' _ _ 1000 w _ (by unfold tC;simp only;omega) U3 oO (hM _ (hK1.trans (aA.new _ _)) (by simp only[aG];omega) ?_ ?_) hw) (by simp[grL,tC]) ?_
  .rw[bY,aAa y2];exact hA1
  .rw[bY,aAa y3];exact Z9
  rintro r s2 ⟨rfl,u6⟩;refine dQ hJ ?_;exact⟨by simp[z0],(hK1.trans (aA.new _ _)).trans u6⟩
def vE(n i j:Nat):Nat:=if i<=j then j-i else j+n-i
def iW(r:List Int)(i j:Nat):List Int:=((r++r).drop i).take (vE r.length i j+1)
theorem Vo{n i j p:Nat}(hi:i<n)(hj:j<n)(hp:p<=vE n i j):((i+p) % n=j↔p=vE n i j):=by
 unfold vE at *;by_cases h:i<=j
 .rw[aAj h]at *;rw[aAG oO];omega
 .rw[aAa h]at *;by_cases h2:i+p<n
  .rw[aAG h2];omega
  .rw[show i+p=(i+p-n)+n by omega,aCG,aAG oO];omega
theorem AY{n i j:Nat}(hi:i<n)(hj:j<n):vE n i j<n:=by unfold vE;split<;>omega
theorem Vs(r:List Int)(i p:Nat)(hi:i<r.length)(hp:p<r.length):((r++r).drop i)[p]?=some (r.getD ((i+p) % r.length) 0):=by
 rw[aDs];by_cases h:i+p<r.length
 .rw[aBe h,aAG h,aAg,aAh h];rfl
 .rw[aBx oO,show i+p=(i+p-r.length)+r.length by omega,aCG,aAG oO,aAg];have:i+p-r.length<r.length:=oO;rw[show i+p-r.length+r.length-r.length=i+p-r.length by omega,aAh this];rfl
theorem HQ(r:List Int)(i p:Nat)(hi:i<r.length)(hp:p<r.length):((r++r).drop i).take (p+1)=((r++r).drop i).take p++[r.getD ((i+p) % r.length) 0]:=by
 have h:=Vs r i p hi hp;have hl:p<((r++r).drop i).length:=by rw[aAL,aAn];omega
 rw[aAp hl];rw[aAh hl,aAb]at h;rw[h]
theorem Au(r:List Int)(i j:Nat)(hi:i<r.length)(hj:j<r.length):(iW r i j).length=vE r.length i j+1:=by have:=AY hi hj;unfold iW;rw[aAw,aAL,aAn];omega
theorem ZO(r:List Int)(k j:Nat)(st:St)(hi:k<r.length)(hj:j<r.length)(hl:r.length<=1000)(hp:0<st.next):
 aB prog 143 [.sl 0 r.length (us r),i k,i j] st fun v st'=>(∃ t,v=.sl t (iW r k j).length (us (iW r k j))/\Fo t 34 1 (iW r k j).length st st')/\aA st st':=by
 have hd0:=qG r k hi;have j7:(k:Int)<r.length:=oO;have hal:=Au r k j hi hj;have D3:=AY hi hj;refine zN func143 ntmps143 [.tmp 6] ?_
 (repeat' (first|apply qS|apply qB|(refine zE ?_;intro J hJ;simp[hd0,j7,hi];refine zJ hJ ?_)))
 have e0:¬st.next=0:=oO;have S7:(k+0) % r.length=k:=by rw[Nat.add_zero,aAG hi]
 refine qL (fun n fr st'=>∃ p t:Nat,p<=vE r.length k j/\n=vE r.length k j-p/\fr 0=.sl 0 r.length (us r)/\fr 1=i (((k+p) % r.length:Nat):Int)/\fr 2=i j/\fr 7=.sl t (p+1) (us (((r++r).drop k).take (p+1)))/\Fo t 34 1 (p+1) st st'/\aA st st') (vE r.length k j) ?_ ?_
 .refine⟨0,st.next,oO,oO,sS,?_,sS,?_,⟨e0,aAl _,sS,sS⟩,aA.new _ _⟩
  .rw[S7];simp
  .have:=HQ r k 0 hi oO;rw[this,S7];simp[hi]
 rintro n fr s ⟨p,t,T7,rfl,f0,f1,f2,f7,⟨t0,t1,t2,tH⟩,hk⟩ JJ hJJ;have W9:=Vo hi hj T7;by_cases S4:p=vE r.length k j
 .have hb:((((k+p) % r.length:Nat):Int) != j)=false:=by rw[W9.2 S4];simp
  generalize ((k+p) % r.length:Nat)=q at *;subst S4;have hta:((r++r).drop k).take (vE r.length k j+1)=iW r k j:=rfl;rw[hta,<- hal]at f7;rw[<- hal]at tH;refine xw4 f1 f2 f7 hb ?_;exact⟨⟨t0,t1,t2,tH⟩,hk⟩
 .have hb:((((k+p) % r.length:Nat):Int) != j)=true:=by have:¬(k+p) % r.length=j:=fun h=>S4 (W9.1 h);rw[bne_iff_ne];intro h;exact this (Int.ofNat_inj.1 h)
  have L8:=HQ r k (p+1) hi oO;have hq:(k+p) % r.length<r.length:=aBG _ oO;have S9:(k+(p+1)) % r.length=((k+p) % r.length+1) % r.length:=by rw[<- aED,Nat.mod_add_mod]
  rw[S9]at L8;have hmod:((((k+p) % r.length:Nat):Int)+1).tmod (r.length:Int)=((((k+p) % r.length+1) % r.length:Nat):Int):=by rw[aCF oO];exact(Int.natCast_emod _ _).symm
  have hq3:((k+p) % r.length+1) % r.length<r.length:=aBG _ oO;generalize (k+p) % r.length=q at *;have hw:=qN q oO;have hw:IntKind.i64.wrap ((q:Int)+1)=(q:Int)+1:=by rw[hw];omega
  generalize (q+1) % r.length=q2 at *;have hd:=qG r q2 hq3;generalize r.getD q2 0=x at *;have hq4:(q2:Int)<r.length:=oO;have hr0:¬(r.length:Int)=0:=oO;have Z7:¬r=[]:=fun h=>by rw[h]at hi;simp at hi
  have c1:¬t=s.next:=oO;have c2:¬s.next=t:=oO
  (repeat' (first|apply qS|apply qB|refine qK (zZ ?_)|(apply qC;simp[f0,f1,f2,f7,hb,hw,hmod,hr0,Z7,hd,hq3,hq4,tH,t0,c1,c2])|(refine zE ?_;intro J hJ;simp[f0,f1,f2,f7,hb,hw,hmod,hr0,Z7,hd,hq3,hq4,tH,t0,c1,c2];(repeat refine ca ?_);refine zJ hJ ?_)))
  exact hJJ _ _ _ oO ⟨p+1,s.next+1,oO,rfl,sF1 f0,by rw[S9];simp,sF1 f2,by rw[L8];simp,⟨oO,oO,sS,sS⟩,((hk.trans (aA.new _ _)).set t1 _).trans (aA.new _ _)⟩
end Aw
theorem Aw.U.zns:True:=trivial
open Go Go.RowKit Pl Aw
open Aw.U
namespace Aw
theorem Dy(l:List Ed)(j:Nat)(hj:j<l.length):l.getD j ed0=l[j]:=by
 grind
theorem Kn(a b:List Ed):eds (a++b)=eds a++eds b:=by grind
theorem Wa(l:List Ed)(k:Nat):(eds l).take (k*3)=eds (l.take k):=by
 induction l generalizing k with
 |nil=>grind
 |cons x l ih=>
  cases k with
  |zero=>grind
  |succ k=>
   grind
theorem Xj(l:List Ed)(k:Nat):(eds l).drop (k*3)=eds (l.drop k):=by
 induction l generalizing k with
 |nil=>grind
 |cons x l ih=>
  cases k with
  |zero=>grind
  |succ k=>
   grind
theorem jI(l:List Ed)(k:Nat)(x:Ed)(hk:k<l.length):(eds l).take (k*3)++(u x.id::u x.a::u x.b::(eds l).drop (k*3+3))=eds (l.set k x):=by rw[show k*3+3=(k+1)*3 by omega,Wa,Xj,aBO,aAj hk,Kn];rfl
end Aw
namespace Aw.U
abbrev Cs{α:Type}(_:List α):Type:=α
structure Nu where
 id:Int
def ed0:Nu:=⟨0⟩
def eds(l:List Nu):List LV:=us (l.map Nu.id)
theorem Dy(l:List Nu)(j:Nat)(hj:j<l.length):l.getD j ed0=l[j]:=by
 grind
theorem aK(l:List Nu):(eds l).length=l.length:=by unfold eds;grind
theorem aR(l:List Nu)(k:Nat)(hk:k<l.length):(eds l).drop k=u (l.getD k ed0).id::eds (l.drop (k+1)):=by unfold eds us;rw[<- aCQ,<- aCQ,aAN hk,Dy l k hk];rfl
theorem jI(l:List Nu)(k:Nat)(x:Nu)(hk:k<l.length):(eds l).take k++(u x.id::(eds l).drop (k+1))=eds (l.set k x):=by
 unfold eds
 grind [Fb,List.map_set]
@[simp] abbrev bxo(l:List Nu):cN:=.box 34 1 (eds l)
end Aw.U
namespace Aw
@[simp] abbrev bxo(l:List Ed):cN:=.box 36 3 (eds l)
def be(st:St)(q:Nat)(c:List Ed):St:=st.set q (.box 36 3 (eds c))
end Aw
namespace Aw.U
def be(st:St)(q:Nat)(c:List Nu):St:=st.set q (.box 34 1 (eds c))
end Aw.U
namespace Aw
@[simp] theorem Ts(st:St)(q:Nat)(c:List Ed):(be st q c).next=st.next:=rfl
@[simp] theorem YN(st:St)(q:Nat)(c:List Ed):(be st q c).H q=.box 36 3 (eds c):=by simp[be]
theorem Py(st:St)(q l:Nat)(c:List Ed)(h:l≠q):(be st q c).H l=st.H l:=by simp[be,h]
end Aw
namespace Aw.U
@[simp] theorem Ts(st:St)(q:Nat)(c:List Nu):(be st q c).next=st.next:=rfl
@[simp] theorem YN(st:St)(q:Nat)(c:List Nu):(be st q c).H q=.box 34 1 (eds c):=by simp[be]
theorem Py(st:St)(q l:Nat)(c:List Nu)(h:l≠q):(be st q c).H l=st.H l:=by simp[be,h]
end Aw.U
namespace Aw
theorem Bf(st:St)(q:Nat)(c d:List Ed):be (be st q c) q d=be st q d:=by grind [be,St.set_set]
end Aw
namespace Aw.U
theorem Bf(st:St)(q:Nat)(c d:List Nu):be (be st q c) q d=be st q d:=by grind [be,St.set_set]
end Aw.U
namespace Aw
theorem Fm{st:St}{q:Nat}{c:List Ed}(h:st.H q=.box 36 3 (eds c)):be st q c=st:=St.ext' rfl fun y=>by
 grind [YN,Py]
end Aw
namespace Aw.U
theorem Fm{st:St}{q:Nat}{c:List Nu}(h:st.H q=.box 34 1 (eds c)):be st q c=st:=St.ext' rfl fun y=>by
 grind [YN,Py]
end Aw.U
namespace Aw
theorem KK(st:St)(q:Nat)(c:List Ed)(k:Nat)(x:Ed)(hk:k<c.length):(be st q c).set q (.box 36 3 ((eds c).take (k*3)++(u x.id::u x.a::u x.b::(eds c).drop (k*3+3))))=be st q (c.set k x):=by
 grind [jI,be,St.set_set]
end Aw
namespace Aw.U
theorem KK(st:St)(q:Nat)(c:List Nu)(k:Nat)(x:Nu)(hk:k<c.length):(be st q c).set q (.box 34 1 ((eds c).take k++(u x.id::(eds c).drop (k+1))))=be st q (c.set k x):=by
 grind [jI,be,St.set_set]
end Aw.U
namespace Aw
theorem KX(st:St)(q:Nat)(c d:List Ed):(be st q c).set q (.box 36 3 (eds d))=be st q d:=by grind [be,St.set_set]
end Aw
namespace Aw.U
theorem KX(st:St)(q:Nat)(c d:List Nu):(be st q c).set q (.box 34 1 (eds d))=be st q d:=by grind [be,St.set_set]
end Aw.U
namespace Aw
def swR(c:List Ed)(a b:Nat):Nat->List Ed
 |0=>c
 |n+1=>swR ((c.set a (c.getD b ed0)).set b (c.getD a ed0)) (a+1) (b+1) n
end Aw
namespace Aw.U
def swR(c:List Nu)(a b:Nat):Nat->List Nu
 |0=>c
 |n+1=>swR ((c.set a (c.getD b ed0)).set b (c.getD a ed0)) (a+1) (b+1) n
end Aw.U
namespace Aw
theorem zY{α:Type}(U:List α)(x y:α)(W:List α):(U++x::W).set U.length y=U++y::W:=by
 grind
theorem pX(U:List Ed)(x:Ed)(W:List Ed):(U++x::W).getD U.length ed0=x:=by
 grind
end Aw
namespace Aw.U
theorem pX(U:List Nu)(x:Nu)(W:List Nu):(U++x::W).getD U.length ed0=x:=by
 grind
end Aw.U
namespace Aw
theorem iY:∀(n:Nat) (U A M B V:List Ed),A.length=n->B.length=n->swR (U++A++M++B++V) U.length (U.length+n+M.length) n=U++B++M++A++V
 |0,U,A,M,B,V,hA,hB=>by rw[aAK hA,aAK hB];rfl
 |n+1,U,x::A,M,y::B,V,hA,hB=>by
  simp only[List.length_cons,aEc]at hA hB;rw[swR];have e1:U++x::A++M++y::B++V=U++x::(A++M++y::B++V):=sS;have e2:U++x::(A++M++y::B++V)=(U++x::A++M)++y::(B++V):=sS;have l2:U.length+(n+1)+M.length=(U++x::A++M).length:=by simp[hA];omega
  have g1:(U++x::A++M++y::B++V).getD U.length ed0=x:=by rw[e1,pX]
  have g2:(U++x::A++M++y::B++V).getD (U.length+(n+1)+M.length) ed0=y:=by rw[e1,e2,l2,pX]
  rw[g1,g2,e1,zY];have e3:U++y::(A++M++y::B++V)=(U++y::A++M)++y::(B++V):=sS;have l3:U.length+(n+1)+M.length=(U++y::A++M).length:=by simp[hA];omega
  rw[e3,l3,zY,<- l3];have e4:U++y::A++M++x::(B++V)=(U++[y])++A++(M++[x])++B++V:=sS;have l4:U.length+(n+1)+M.length+1=(U++[y]).length+n+(M++[x]).length:=by simp;omega
  have l5:U.length+1=(U++[y]).length:=sS;rw[e4,l4,l5,iY n (U++[y]) A (M++[x]) B V hA hB];simp
end Aw
namespace Aw.U
theorem iY:∀(n:Nat) (U A M B V:List Nu),A.length=n->B.length=n->swR (U++A++M++B++V) U.length (U.length+n+M.length) n=U++B++M++A++V
 |0,U,A,M,B,V,hA,hB=>by rw[aAK hA,aAK hB];rfl
 |n+1,U,x::A,M,y::B,V,hA,hB=>by
  simp only[List.length_cons,aEc]at hA hB;rw[swR];have e1:U++x::A++M++y::B++V=U++x::(A++M++y::B++V):=sS;have e2:U++x::(A++M++y::B++V)=(U++x::A++M)++y::(B++V):=sS;have l2:U.length+(n+1)+M.length=(U++x::A++M).length:=by simp[hA];omega
  have g1:(U++x::A++M++y::B++V).getD U.length ed0=x:=by rw[e1,pX]
  have g2:(U++x::A++M++y::B++V).getD (U.length+(n+1)+M.length) ed0=y:=by rw[e1,e2,l2,pX]
  rw[g1,g2,e1,zY];have e3:U++y::(A++M++y::B++V)=(U++y::A++M)++y::(B++V):=sS;have l3:U.length+(n+1)+M.length=(U++y::A++M).length:=by simp[hA];omega
  rw[e3,l3,zY,<- l3];have e4:U++y::A++M++x::(B++V)=(U++[y])++A++(M++[x])++B++V:=sS;have l4:U.length+(n+1)+M.length+1=(U++[y]).length+n+(M++[x]).length:=by simp;omega
  have l5:U.length+1=(U++[y]).length:=sS;rw[e4,l4,l5,iY n (U++[y]) A (M++[x]) B V hA hB];simp
end Aw.U
namespace Aw
theorem wO(n:Int)(h0 : -9223372036854775808<=n)(h1:n<=9223372036854775807):IntKind.i64.wrap n=n:=by
 grind [IntKind.wrap,IntKind.signed,IntKind.bits]
end Aw
theorem vT:(∀(c:List Ed) (q a b n:Nat) (F:Fn) (Gj:List LV) (st:St) (hc:c.length<=100000) (x8:a+n<=b) (hb:b+n<=c.length) (hH:st.H q=.box 36 3 (eds c)),
 aB prog 207 [.ms q 0 c.length,i a,i b,i n,.fn F Gj] st fun r st'=>st'=be st q (swR c a b n))/\(∀(c:List Nu) (q a b n:Nat) (F:Fn) (Gj:List LV) (st:St) (hc:c.length<=100000) (x8:a+n<=b) (hb:b+n<=c.length) (hH:st.H q=.box 34 1 (eds c)),
 aB prog 206 [.ms q 0 c.length,i a,i b,i n,.fn F Gj] st fun r st'=>st'=be st q (swR c a b n)):=by
 refine⟨?_,?_⟩
 all_goals
  intro c q a b n F Gj st hc x8 hb hH
  first|(have _:List Ed:=c;refine zN func207 ntmps207 [] ?_)|refine zN func206 ntmps206 [] ?_
  refine xw0 ?_;refine qL (fun z fr st2=>∃(k:Nat) (d:List (Cs c)),k<=n/\z=n-k/\fr 0=.ms q 0 c.length/\fr 1=i a/\fr 2=i b/\fr 3=i n/\fr 10=i k/\st2=be st q d/\d.length=c.length/\swR d (a+k) (b+k) (n-k)=swR c a b n) n ?_ ?_
  .exact⟨0,c,oO,oO,sS,sS,sS,sS,sS,(Fm hH).symm,rfl,rfl⟩
  rintro z fr st2 ⟨k,d,hk,rfl,f0,f1,f2,f3,f10,rfl,hdl,P7⟩ JJ hJJ;by_cases dA:k<n;rotate_left
  .clear hJJ;obtain rfl:k=n:=oO;rw[Nat.sub_self]at P7;refine xw2 f3 f10 ?_;simp;rw[<- P7];rfl
  have hw:=wO ((k:Int)+1) oO oO;have wa:IntKind.i64.wrap ((a:Int)+k)=((a+k:Nat):Int):=zW;have wb:IntKind.i64.wrap ((b:Int)+k)=((b+k:Nat):Int):=zW;have hel:=aK d;have da:=aR d (a+k) oO;have db:=aR d (b+k) oO;have X3:swR ((d.set (a+k) (d.getD (b+k) ed0)).set (b+k) (d.getD (a+k) ed0)) (a+(k+1)) (b+(k+1)) (n-(k+1))=swR c a b n:=by
   (first|rw[<- P7,show n-k=(n-(k+1))+1 by omega,Aw.swR]|rw[<- P7,show n-k=(n-(k+1))+1 by omega,Aw.U.swR]);rfl
  have s1:=fun x=>KK st q d (a+k) x oO;have s2:=fun x y=>KK st q (d.set (a+k) y) (b+k) x (by grind);generalize ha:a+k=pa at *;generalize hbk:b+k=pb at *;have c7:¬pa=pb:=oO;generalize hxe:d.getD pa ed0=x at *;generalize hye:d.getD pb ed0=y at *;have hA3:pa*3+3<=d.length*3:=oO;have hA1:pa+1<=d.length:=oO;have Z9:pb+1<=d.length:=oO;have hB3:pb*3+3<=d.length*3:=oO;have hA4:pa<d.length:=oO;have hB4:pb<d.length:=oO;have s1':=s1 y;have s2':=s2 x y;have hel2:=aK (d.set pa y);rw[aCU]at hel2;refine xw6 f0 f1 f2 f3 f10 dA ?_
  (refine zS [] [q] [0,2,4,6,8,10,12,14,16,18,20,22,24,26,28,30,32,34,36,38,40,43,44,47] ?_;intro J hJ;simp[f0,f1,f2,f10,wa,wb,hdl,da,db,hel];(repeat refine ca ?_);refine zJ hJ ?_)
  have e1:=jI d pa y hA4
  (first|rw[e1,Aw.KX,s2']|rw[e1,Aw.U.KX,s2'])
  refine xw2 f10 hw ?_;exact hJJ (n-(k+1)) _ _ oO ⟨k+1,_,oO,rfl,sF1 f0,sF1 f1,sF1 f2,sF1 f3,sS,rfl,sF1 hdl,X3⟩
def Aw.sM:=vT.1
def Aw.U.sM:=vT.2
theorem EK:(∀(P X Y S:List Ed) (q:Nat) (F:Fn) (Gj:List LV) (st:St) (hX:X≠[]) (hY:Y≠[]) (hl:(P++X++Y++S).length<=100000) (hH:st.H q=.box 36 3 (eds (P++X++Y++S))),
 aB prog 189 [.ms q 0 (P++X++Y++S).length,i P.length,i (P.length+X.length:Nat),i (P.length+X.length+Y.length:Nat),.fn F Gj] st fun r st'=>st'=be st q (P++Y++X++S))/\(∀(P X Y S:List Nu) (q:Nat) (F:Fn) (Gj:List LV) (st:St) (hX:X≠[]) (hY:Y≠[]) (hl:(P++X++Y++S).length<=100000) (hH:st.H q=.box 34 1 (eds (P++X++Y++S))),
 aB prog 188 [.ms q 0 (P++X++Y++S).length,i P.length,i (P.length+X.length:Nat),i (P.length+X.length+Y.length:Nat),.fn F Gj] st fun r st'=>st'=be st q (P++Y++X++S)):=by
 refine⟨?_,?_⟩
 all_goals
  intro P X Y S q F Gj st hX hY hl hH;generalize hL:(P++X++Y++S).length=L at *;have hLl:L=P.length+X.length+Y.length+S.length:=by rw[<- hL];simp only[aAn]
  generalize hm:P.length+X.length=m at *;have hX0:0<X.length:=aBh.2 hX;have hY0:0<Y.length:=aBh.2 hY
  first|(have _:List Ed:=P;refine zN func189 ntmps189 [] ?_)|refine zN func188 ntmps188 [] ?_
  have w1:IntKind.i64.wrap ((m:Int)-P.length)=(X.length:Int):=zW;have w2:IntKind.i64.wrap ((m:Int)+Y.length-m)=(Y.length:Int):=zW;refine xw2 w1 w2 ?_;refine qL (fun z fr st2=>∃ U A B V:List (Cs P),z=A.length+B.length/\(A≠[]/\B≠[])/\U.length+A.length=m/\U++B++A++V=P++Y++X++S/\(U++A++B++V).length=L/\st2=be st q (U++A++B++V)/\fr 0=.ms q 0 L/\fr 2=i m/\fr 4=.fn F Gj/\fr 10=i A.length/\fr 11=i B.length) (X.length+Y.length) ?_ ?_
  .exact⟨P,X,Y,S,rfl,⟨hX,hY⟩,hm,rfl,hL,(Fm hH).symm,sS,sS,sS,sS,sS⟩
  rintro z fr st2 ⟨U,A,B,V,rfl,⟨hA,hB⟩,hUm,htg,r8,rfl,f0,f2,f4,f10,f11⟩ JJ hJJ;have hA0:0<A.length:=aBh.2 hA;have hB0:0<B.length:=aBh.2 hB;have hcl':L=U.length+A.length+B.length+V.length:=by rw[<- r8];simp only[aAn]
  have wa:IntKind.i64.wrap ((m:Int)-A.length)=(U.length:Int):=zW;by_cases hEq:A.length=B.length
  .clear hJJ;have L3:=sM (U++A++B++V) q U.length m A.length F Gj (be st q (U++A++B++V)) oO oO oO sS;have P7:=iY A.length U A [] B V rfl hEq.symm;simp only[List.length_nil,Nat.add_zero,aAS]at P7
   (first|rw[r8,<- hUm,P7,hUm,Aw.Bf,htg]at L3|rw[r8,<- hUm,P7,hUm,Aw.U.Bf,htg]at L3)
   generalize U++A++B++V=c0 at *;generalize P++Y++X++S=c1 at *;have wa':=wa;rw[hEq]at wa'
   (repeat' (first|apply qS|refine qX (zZ ?_)|(apply qC;simp[f0,f2,f4,f10,f11,hEq,wa,wa'])|(refine zE ?_;intro J hJ;simp[f0,f2,f4,f10,f11,hEq,wa,wa'];(try refine zJ hJ ?_))))
   refine qE L3 (by simp_all) ?_;rintro r s3 rfl
   (repeat' (apply cI;simp[];refine zJ hJ ?_))
   simp
  .have hEq':¬(A.length:Int)=B.length:=oO;by_cases hgt:B.length<A.length
   .have hA1:(A.take B.length).length=B.length:=by simp;omega
    have hAd:A.take B.length++A.drop B.length=A:=aAz _ _;have hA2:(A.drop B.length).length=A.length-B.length:=sS;generalize A.take B.length=A1 at *;generalize A.drop B.length=A2 at *;have L3:=sM (U++A++B++V) q U.length m B.length F Gj (be st q (U++A++B++V)) oO oO oO sS;have P7:=iY B.length U A1 A2 B V hA1 rfl;have e1:U++A1++A2++B++V=U++A++B++V:=by rw[<- hAd];simp
    have e2:U.length+B.length+A2.length=m:=oO;rw[e1,e2]at P7
    (first|rw[r8,P7,Aw.Bf]at L3|rw[r8,P7,Aw.U.Bf]at L3)
    have hgt':(B.length:Int)<A.length:=oO;have wb:IntKind.i64.wrap ((A.length:Int)-B.length)=(A2.length:Int):=zW;generalize U++A++B++V=c0 at *;generalize hc1:U++B++A2++A1++V=c1 at L3
    (repeat' (first|apply qS|apply qB|refine qK (zZ ?_)|(apply qC;simp[f0,f2,f4,f10,f11,hEq',hgt',hEq,hgt,wa,wb])|(refine zE ?_;intro J hJ;simp[f0,f2,f4,f10,f11,hEq',hgt',hEq,hgt,wa,wb];(try refine zJ hJ ?_))))
    refine qE L3 sS ?_;rintro r s3 rfl
    (repeat' ((first|(refine zE ?_;intro J hJ)|(apply cI));simp[f10,f11,wb];refine zJ hJ ?_))
    refine hJJ (A2.length+A1.length) _ _ oO ⟨U++B,A2,A1,V,rfl,⟨?_,?_⟩,by grind,?_,?_,by grind,sF1 f0,sF1 f2,sF1 f4,sS,sF2 f11 hA1⟩
    .grind
    .grind
    .grind
    grind [List.length_append]
   .have Z9:(B.take (B.length-A.length)).length=B.length-A.length:=sS;have hBd:B.take (B.length-A.length)++B.drop (B.length-A.length)=B:=aAz _ _;have hB2:(B.drop (B.length-A.length)).length=A.length:=by simp;omega
    generalize B.take (B.length-A.length)=B1 at *;generalize B.drop (B.length-A.length)=B2 at *;have L3:=sM (U++A++B++V) q U.length (m+B1.length) A.length F Gj (be st q (U++A++B++V)) oO oO oO sS;have P7:=iY A.length U A B1 B2 V rfl hB2;have e1:U++A++B1++B2++V=U++A++B++V:=by rw[<- hBd];simp
    have e2:U.length+A.length+B1.length=m+B1.length:=oO;rw[e1,e2]at P7
    (first|rw[r8,P7,Aw.Bf]at L3|rw[r8,P7,Aw.U.Bf]at L3)
    have hgt':¬(B.length:Int)<A.length:=oO;have wb:IntKind.i64.wrap ((B.length:Int)-A.length)=(B1.length:Int):=zW;have wc:IntKind.i64.wrap ((m:Int)+B.length)=(m:Int)+B.length:=zW;have wd:IntKind.i64.wrap ((m:Int)+B.length-A.length)=((m+B1.length:Nat):Int):=zW;generalize U++A++B++V=c0 at *;generalize hc1:U++B2++B1++A++V=c1 at L3
    (repeat' (first|apply qS|apply qB|refine qK (zZ ?_)|(apply qC;simp[f0,f2,f4,f10,f11,hEq',hgt',hEq,hgt,wa,wc,wd])|(refine zE ?_;intro J hJ;simp[f0,f2,f4,f10,f11,hEq',hgt',hEq,hgt,wa,wc,wd];(try refine zJ hJ ?_))))
    refine qE L3 sS ?_;rintro r s3 rfl
    (repeat' ((first|(refine zE ?_;intro J hJ)|(apply cI));simp[f10,f11,wb];refine zJ hJ ?_))
    refine hJJ (B2.length+B1.length) _ _ oO ⟨U,B2,B1,A++V,rfl,⟨?_,?_⟩,oO,?_,?_,by grind,sF1 f0,sF1 f2,sF1 f4,sF2 f10 hB2,sS⟩
    .grind
    .grind
    .grind
    .simp only[aAn];omega
def Aw.SJ:=EK.1
def Aw.U.SJ:=EK.2
open Go Go.RowKit Pl Aw
open Aw.U
namespace Aw
def tP(x y:Ed):Int:=if x.id<y.id then -1 else if y.id<x.id then 1 else 0
end Aw
namespace Aw.U
def tP(x y:Nu):Int:=if x.id<y.id then -1 else if y.id<x.id then 1 else 0
end Aw.U
theorem yU:(∀(x y:Ed),
 decide (tP x y<0)=decide (x.id<y.id))/\(∀(x y:Nu),
 decide (tP x y<0)=decide (x.id<y.id)):=by
 grind [Aw.tP,Aw.U.tP]
def Aw.rK:=yU.1
def Aw.U.rK:=yU.2
namespace Aw
structure iI(x7:FuncId)(Gj:List LV)(q:Nat)(Pc:St->Prop):Prop where
 keep:∀ st st',Pc st->bP q st st'->Pc st'
 call:∀ st x y,Pc st->aB prog x7 ([.ag (edL x),.ag (edL y)]++Gj) st fun r st'=>r=i (tP x y)/\aA st st'
end Aw
namespace Aw.U
structure iI(x7:FuncId)(Gj:List LV)(q:Nat)(Pc:St->Prop):Prop where
 keep:∀ st st',Pc st->bP q st st'->Pc st'
 call:∀ st x y,Pc st->aB prog x7 ([u x.id,u y.id]++Gj) st fun r st'=>r=i (tP x y)/\aA st st'
end Aw.U
namespace Aw
def Ris(l:List Ed):Prop:=l.Pairwise fun x y=>x.id<=y.id
end Aw
namespace Aw.U
def Ris(l:List Nu):Prop:=l.Pairwise fun x y=>x.id<=y.id
end Aw.U
namespace Aw
end Aw
namespace Aw.U
end Aw.U
namespace Aw
theorem GF(U:List Ed)(x:Ed)(W:List Ed){j:Nat}(hj:j=U.length):(U++x::W).getD j ed0=x:=by grind
end Aw
namespace Aw.U
theorem GF(U:List Nu)(x:Nu)(W:List Nu){j:Nat}(hj:j=U.length):(U++x::W).getD j ed0=x:=by grind
end Aw.U
namespace Aw
theorem OC{α:Type}(U:List α)(x y:α)(W:List α){j:Nat}(hj:j=U.length):(U++x::W).set j y=U++y::W:=by simp_all
def Ya(P X S:List Ed)(q:Nat)(st:St)(r:LV)(st':St):Prop:=∃ Y,Y.Perm X/\Ris Y/\st'.H q=.box 36 3 (eds (P++Y++S))/\bP q st st'
end Aw
namespace Aw.U
def Ya(P X S:List Nu)(q:Nat)(st:St)(r:LV)(st':St):Prop:=∃ Y,Y.Perm X/\Ris Y/\st'.H q=.box 34 1 (eds (P++Y++S))/\bP q st st'
end Aw.U
theorem As:(∀ ⦃A B:List Ed⦄ ⦃x:Ed⦄ (h:Ris (A++B)) (h1:∀ y∈A,y.id<=x.id) (h2:∀ y∈B,x.id<=y.id),
 Ris (A++x::B))/\(∀ ⦃A B:List Nu⦄ ⦃x:Nu⦄ (h:Ris (A++B)) (h1:∀ y∈A,y.id<=x.id) (h2:∀ y∈B,x.id<=y.id),
 Ris (A++x::B)):=by
 grind [Aw.Ris,List.pairwise_cons,Aw.U.Ris]
def Aw.FP:=As.1
def Aw.U.FP:=As.2
theorem zA:(∀ ⦃A:List Ed⦄ ⦃y:Ed⦄ (h:Ris (A++[y])),
 ∀ a∈A,a.id<=y.id)/\(∀ ⦃A:List Nu⦄ ⦃y:Nu⦄ (h:Ris (A++[y])),
 ∀ a∈A,a.id<=y.id):=by
 refine⟨?_,?_⟩
 all_goals
  intro A y h
  (first|unfold Aw.Ris at h|unfold Aw.U.Ris at h)
  rw[aBU]at h;simp_all
def Aw.Gi:=zA.1
def Aw.U.Gi:=zA.2
theorem Cg:(∀(P X S:List Ed) (q:Nat) (x7:FuncId) (Gj:List LV) (Pc:St->Prop) (st:St) (y9:Aw.iI x7 Gj q Pc) (V1:Pc st) (hq:q<st.next) (hl:(P++X++S).length<=100000) (hH:st.H q=.box 36 3 (eds (P++X++S))),
 aB prog 161 [.ms q 0 (P++X++S).length,i P.length,i (P.length+X.length:Nat),.fn (.func x7) Gj] st (Ya P X S q st))/\(∀(P X S:List Nu) (q:Nat) (x7:FuncId) (Gj:List LV) (Pc:St->Prop) (st:St) (y9:Aw.U.iI x7 Gj q Pc) (V1:Pc st) (hq:q<st.next) (hl:(P++X++S).length<=100000) (hH:st.H q=.box 34 1 (eds (P++X++S))),
 aB prog 159 [.ms q 0 (P++X++S).length,i P.length,i (P.length+X.length:Nat),.fn (.func x7) Gj] st (Ya P X S q st)):=by
 refine⟨?_,?_⟩
 all_goals
  intro P X S q x7 Gj Pc st y9 V1 hq hl hH;generalize hL:(P++X++S).length=L at *;have hLl:L=P.length+X.length+S.length:=by rw[<- hL];simp only[aAn]
  generalize hp:P.length=p at *;have wp:IntKind.i64.wrap ((p:Int)+1)=((p+1:Nat):Int):=zW
  first|(have _:List Ed:=P;refine zN func161 ntmps161 [] ?_)|refine zN func159 ntmps159 [] ?_
  refine xw1 wp ?_;refine qL (fun z fr st2=>∃ Y Z:List (Cs P),Z.length<=z/\fr 0=.ms q 0 L/\fr 1=i p/\fr 2=i (p+X.length:Nat)/\fr 3=.fn (.func x7) Gj/\(X=[]/\Y=[]/\fr 8=i (p+1:Nat)\/Y≠[]/\fr 8=i (p+Y.length:Nat))/\(Y++Z).Perm X/\Ris Y/\st2.H q=bxo (P++Y++Z++S)/\bP q st st2) X.length ?_ ?_
  .cases X with
   |nil=>exact⟨[],[],sS,sS,sS,sS,sS,.inl ⟨rfl,rfl,sS⟩,.refl _,.nil,by grind,bP.refl _ _⟩
   |cons x X => 
    refine⟨[x],X,sS,sS,sS,sS,sS,.inr ⟨sS,sS⟩,.refl _,aDv _ _,?_,bP.refl _ _⟩
    grind
  rintro z fr st2 ⟨Y,Z,hz,f0,f1,f2,f3,f8,u5,hris,hB,o6⟩ JJ hJJ;have U3:=u5.length_eq;simp only[aAn]at U3;cases Z with
  |nil=>
   clear hJJ;simp only[List.length_nil,Nat.add_zero]at U3;rw[aAS]at u5 hB;have hex:∃ e:Nat,fr 8=i e/\¬((e:Int)<(p+X.length:Nat)):=by
    rcases f8 with⟨h1,h2,h3⟩|⟨h1,h2⟩
    .exact⟨p+1,h3,by grind⟩
    .grind
   obtain⟨e,g8,he⟩:=hex
   (repeat' (first|apply qS|refine qX (zZ ?_)|(apply qC;simp[f2,g8,he];(try with_reducible refine⟨?_,?_⟩)<;>(try with_reducible intro hc)<;>try (exfalso;omega))|(refine zE ?_;intro J hJ;simp[f2,g8,he];refine zJ hJ ?_)))
   simp;exact⟨Y,u5,hris,hB,o6⟩
  |cons x Z=>
  have hYne:Y≠[]/\fr 8=i (p+Y.length:Nat):=by
   rcases f8 with⟨h1,h2,h3⟩|h
   .grind
   .exact h
  obtain⟨hYn,g8⟩:=hYne;clear f8;have hY0:=aBh.2 hYn;simp only[List.length_cons]at U3 hz;have dA:(((p+Y.length:Nat):Int))<((p+X.length:Nat):Int):=oO
  (repeat' (first|apply qS|apply qB|refine qK (zZ ?_)|(apply qC;simp[f2,g8,dA];(try with_reducible refine⟨?_,?_⟩)<;>(try with_reducible intro hc)<;>try (exfalso;omega))|(refine zE ?_;intro J hJ;simp[f2,g8,dA];refine zJ hJ ?_)))
  refine qL (fun z fr O4=>∃ A B:List (Cs P),z=A.length/\A++B=Y/\(∀ y∈B,x.id<=y.id)/\fr 0=.ms q 0 L/\fr 1=i p/\fr 2=i (p+X.length:Nat)/\fr 3=.fn (.func x7) Gj/\fr 8=i (p+Y.length:Nat)/\fr 9=i (p+A.length:Nat)/\O4.H q=bxo (P++A++x::(B++Z++S))/\bP q st O4) Y.length ?_ ?_
  .exact⟨Y,[],rfl,sS,sS,sF1 f0,sF1 f1,sF1 f2,sF1 f3,sF1 g8,sS,by grind,o6⟩
  clear f0 f1 f2 f3 g8 hB o6 fr st2;rintro z' fr O4 ⟨A,B,rfl,rfl,hxB,f0,f1,f2,f3,f8,f9,hB,o6⟩ J2 hJ2;have hP3:=y9.keep _ _ V1 o6;have v7:(∀ y∈A,y.id<=x.id)->Ris (A++x::B):=fun h1=>FP hris h1 hxB;have P8:((A++x::B)++Z).Perm X:=by refine List.Perm.trans ?_ u5;rw[aAF,aAF];refine aCr A ?_;rw[List.cons_append];exact aBE.symm
  have hAB:(A++x::B).length=(A++B).length+1:=by simp;omega
  simp only[aAn]at U3 hY0;have w8:IntKind.i64.wrap (((p+(A++B).length:Nat):Int)+1)=((p+(A++x::B).length:Nat):Int):=by rw[hAB,wO _ oO oO];omega
  have S1:∀ c8 st4,(c8 0=.ms q 0 L/\c8 1=i p/\c8 2=i (p+X.length:Nat)/\c8 3=.fn (.func x7) Gj/\c8 8=i (p+(A++x::B).length:Nat))->(∀ y∈A,y.id<=x.id)->st4.H q=bxo (P++A++x::(B++Z++S))->bP q st st4->JJ c8 st4:=by rintro c8 st4 ⟨g0,g1,g2,g3,g8⟩ h1 h2 h3;refine hJJ Z.length _ _ oO ⟨A++x::B,Z,aAl _,g0,g1,g2,g3,.inr ⟨sS,g8⟩,P8,v7 h1,?_,h3⟩;rw[h2];simp
  have hrisA:Ris A:=by
   (first|unfold Aw.Ris at hris ⊢|unfold Aw.U.Ris at hris ⊢)
   exact(aBU.1 hris).1
  clear hJJ v7 P8 u5 hris hAB;generalize (A++B).length=lab at *;generalize (A++x::B).length=laxb at *;have w8':IntKind.i64.wrap ((p:Int)+lab+1)=(p:Int)+laxb:=by have h:=w8;rw[Int.natCast_add,Int.natCast_add]at h;exact h
  rcases aDa A with rfl|⟨W,y,hWy⟩
  .simp only[List.length_nil,Nat.add_zero]at f9;refine xw0 ?_
   (refine zS [] [q] [0,2,4,6,8,10,12,14,16,18,20,22,24,26,29,30,32] ?_;intro J hJ;simp[f0,f1,f3,f9];refine zJ hJ ?_)
   refine xw2 f8 w8' ?_;exact S1 _ _ ⟨sF1 f0,sF1 f1,sF1 f2,sF1 f3,sS⟩ sS hB o6
  rw[aDb]at hWy;subst hWy;have hWl:(W++[y]).length=W.length+1:=sS;rw[hWl,<- aED]at f9;have hce:P++(W++[y])++x::(B++Z++S)=(P++W)++y::x::(B++Z++S):=sS;have hUl:(P++W).length=p+W.length:=by simp[hp]
  have r8:((P++W)++y::x::(B++Z++S)).length=L:=by simp only[aAn,List.length_cons,List.length_nil,hp]at U3 hz ⊢;omega
  rw[hce]at hB S1;have g1:=GF (P++W) y (x::(B++Z++S)) (j:=p+W.length) hUl.symm;have g2:((P++W)++y::x::(B++Z++S)).getD (p+W.length+1) ed0=x:=by rw[show(P++W)++y::x::(B++Z++S)=(P++W++[y])++x::(B++Z++S) by simp];exact GF _ _ _ (by grind)
  have s1:(((P++W)++y::x::(B++Z++S)).set (p+W.length+1) y).set (p+W.length) x=P++W++x::(y::B++Z++S):=by rw[show(P++W)++y::x::(B++Z++S)=(P++W++[y])++x::(B++Z++S) by simp,OC _ _ _ _ (by grind)];rw[show(P++W++[y])++y::(B++Z++S)=(P++W)++y::(y::(B++Z++S)) by simp,OC _ _ _ _ hUl.symm];simp
  have L8:x.id<y.id->∀ y'∈y::B,x.id<=y'.id:=fun h1 y' hy'=>by
   rcases aAe.1 hy' with rfl|h2
   .omega
   grind
  have hstop:¬x.id<y.id->∀ y'∈W++[y],y'.id<=x.id:=fun h1 y' hy'=>by
   rcases aAd.1 hy' with h2|h2
   .have:=Gi (hrisA) y' h2;omega
   .rw[aAk]at h2;grind
  generalize (P++W)++y::x::(B++Z++S)=c at *;generalize hjx:p+W.length=jx at *;have hel:=aK c;have da:=aR c (jx+1) oO;have db:=aR c jx oO;rw[g2]at da;rw[g1]at db;have wj:IntKind.i64.wrap (((jx+1:Nat):Int)-1)=(jx:Int):=zW;have hgt:(p:Int)<(jx:Int)+1:=oO;have hcm:=y9.call O4 x y hP3;have L9:=rK x y;generalize tP x y=cv at *;have wj':IntKind.i64.wrap (jx:Int)=(jx:Int):=wO _ oO oO;have hA4:jx+1<L:=oO;have hB4:jx<L:=oO;refine xw0 ?_
  (refine zS [] [q] [0,2,4,6,8,10,12,14,16,18,20,22,24,26,29,30,32] ?_;intro J hJ;simp[f0,f1,f3,f9,hgt,hB,da,db,hel,r8,wj'];(repeat refine ca ?_))
  refine aO hcm ?_;rintro r s4 ⟨rfl,M7⟩;have hq3:q<O4.next:=by have:=o6.1;omega
  have hB4':=(M7.H q hq3).trans hB;have hoff4:=o6.keeps M7;refine⟨fun _=>by simp[hB4',hB],?_⟩;by_cases P4:x.id<y.id
  .have hcv:cv<0:=by rw[aCq P4]at L9;exact aCl L9
   (apply bJ;simp[hcv,hB4',hB];refine zJ hJ ?_)
   refine xw0 ?_
   (refine zS [] [q] [0,2,4,6,8,10,12,14,16,18,20,22,24,26,28,31,32,35] ?_;intro J hJ;simp[f0,f9,hB4',da,db,hel,r8,wj'];(repeat refine ca ?_);refine zJ hJ ?_)
   have e1:=jI c (jx+1) y oO;have e2:=jI (c.set (jx+1) y) jx x (by simp;omega);rw[e1,e2,s1,St.set_set];refine xw2 f9 wj' ?_;refine hJ2 W.length _ _ sS ⟨W,y::B,rfl,sS,L8 P4,sF1 f0,sF1 f1,sF1 f2,sF1 f3,sF1 f8,sF1 hjx,?_,hoff4.set _⟩;simp
  .have hcv:¬cv<0:=by rw[aCn P4]at L9;exact aCV L9
   (apply bJ;simp[hcv,hB4',hB];refine zJ hJ ?_)
   refine xw2 f8 w8' ?_;exact S1 _ _ ⟨sF1 f0,sF1 f1,sF1 f2,sF1 f3,sS⟩ (hstop P4) hB4' hoff4
def Aw.Lg:=Cg.1
def Aw.U.Lg:=Cg.2
end Go.Proofs.YtbgngpdonpeboaaGreatDoor
