/- Plain: round each vertex of a drawn block there is one turn alone, by Euler's count. -/
import Derived.Test.YtbgngpdonpeboaaGreatDoorJi
set_option linter.unusedVariables false
set_option linter.unusedSimpArgs false
set_option linter.unusedSectionVars false
set_option maxHeartbeats 1000000
open Go.Proofs.Tryz
namespace Go.Proofs.YtbgngpdonpeboaaGreatDoor
namespace Aw
open Go Go.RowKit Pl Eu
def Rws(F:List (List Int)):List (List Int):=F.map fun r=>(prs r).map cd
theorem iE(F:List (List Int)):(Rws F).flatten=(PF F).map cd:=by unfold Rws PF;rw[aEd,<- List.flatMap_def]
theorem fR{E:List Ed}{e:Ed}(he:e∈E){x y:Int}(h:prE e=prP x y):x∈vsF E/\y∈vsF E:=by
 rw[bA,bA];rcases bG h with⟨e1,e2⟩|⟨e1,e2⟩
 .exact⟨⟨e,he,.inl e1.symm⟩,⟨e,he,.inr e2.symm⟩⟩
 .exact⟨⟨e,he,.inr e2.symm⟩,⟨e,he,.inl e1.symm⟩⟩
structure BlE(E:List Ed):Prop where
 ne:∀ e∈E,e.a≠e.b
 sim:(E.map prE).Nodup
 bnd:∀ v∈vsF E,0<=v/\v<4194304
section
variable {E:List Ed} {F:List (List Int)} (hO:jQ E F) (hE:BlE E)
include hO hE
theorem jQ.b2{p:Int×Int}(h:p∈PF F):(0<=p.1/\p.1<4194304)/\0<=p.2/\p.2<4194304:=by obtain⟨e,he,hp⟩:=(hO.mem p.1 p.2).1 h;have:=fR he hp;exact⟨hE.bnd _ this.1,hE.bnd _ this.2⟩
theorem jQ.cdnd:((Rws F).flatten).Nodup:=by rw[iE];unfold List.Nodup;rw[aAV];exact hO.nd.imp_of_mem fun {p q} hp hq c7 e=>c7 (iJ (hO.b2 hE hp).2 (hO.b2 hE hq).2 e)
theorem jQ.swap{u v:Int}(h:(u,v)∈PF F):(v,u)∈PF F:=by obtain⟨e,he,hp⟩:=(hO.mem u v).1 h;exact(hO.mem v u).2 ⟨e,he,by rw[hp];exact aI _ _⟩
theorem jQ.next{u v:Int}(h:(u,v)∈PF F):∃ w,(u,v,w)∈F.flatMap trs/\∃ r∈F,(u,v)∈prs r/\(v,w)∈prs r/\sgR (Rws F) (cd (u,v))=cd (v,w):=by
 have:=(xG F).mem_iff.2 h;obtain⟨t,ht,e⟩:=aAi.1 this;obtain⟨r,hr,htr⟩:=aAY.1 ht;have L6:∀ p∈prs r,p∈PF F:=fun p hp=>aX.2 ⟨r,hr,hp⟩;have hn:(prs r).Nodup:=by have h0:=hO.nd;unfold PF at h0;rw[List.flatMap_def]at h0;exact row_nodup' h0 (aAt hr)
 have hb:∀ v∈r,0<=v/\v<4194304:=fun v hv=>by obtain⟨x,hx⟩:=iH hv;exact(hO.b2 hE (L6 _ hx)).1
 obtain⟨h1,h2,h3⟩:=QW hn hb htr;injection e with e1 e2;rw[e1,e2]at h1 h3;rw[e2]at h2;refine⟨t.2.2,?_,r,hr,h1,h2,?_⟩
 .rw[<- e1,<- e2];exact ht
 .rw[gA (hO.cdnd hE) (t:=(prs r).map cd) (aAt (f:=fun r=>(prs r).map cd) hr) (aAt h1),h3]
where
 row_nodup' {α:Type} {L:List (List α)} (hn:L.flatten.Nodup) {t:List α} (ht:t∈L):t.Nodup:=(aBp ht).nodup hn
abbrev sgV(E:List Ed)(F:List (List Int)):Int->Int:=swP (sgR (Rws F)) (tws E)
theorem jQ.tws_mem:∀ p∈tws E,p.1∈(Rws F).flatten/\p.2∈(Rws F).flatten/\p.1≠p.2:=fun p hp=>by obtain⟨e,he,rfl⟩:=aAi.1 hp;have h1:=(hO.mem e.a e.b).2 ⟨e,he,rfl⟩;have h2:=hO.swap hE h1;rw[iE];refine⟨aAt h1,aAt h2,fun k=>hE.ne e he ?_⟩;have:=iJ (hO.b2 hE h1).2 (hO.b2 hE h2).2 k;injection this
theorem jQ.sgV_at{u v:Int}(h:(u,v)∈PF F):sgV E F (cd (v,u))=sgR (Rws F) (cd (u,v)):=
 Mc _ E (fun e he=>⟨hE.bnd _ ((bA _ _).2 ⟨e,he,.inl rfl⟩),hE.bnd _ ((bA _ _).2 ⟨e,he,.inr rfl⟩)⟩) hE.sim ((hO.mem u v).1 h)
theorem jQ.sgV_permOn:dB (Rws F).flatten (sgV E F):=lM (lA (hO.cdnd hE)) _ fun p hp=>⟨(hO.tws_mem hE p hp).1,(hO.tws_mem hE p hp).2.1⟩
theorem jQ.sgV_base(x:Int):sgV E F x / 4194304=x / 4194304:=by
 by_cases hx:x∈(Rws F).flatten
 .rw[iE]at hx;obtain⟨⟨v,u⟩,hp,rfl⟩:=aAi.1 hx;have h2:=hO.swap hE hp;obtain⟨w,_,r,hr,k1,k2,k3⟩:=hO.next hE h2;have k4:=aX.2 ⟨r,hr,k2⟩;rw[hO.sgV_at hE h2,k3,wZ (hO.b2 hE k4).2,wZ (hO.b2 hE hp).2]
 .rw[(hO.sgV_permOn hE).out x hx]
theorem jQ.sgV_it:∀(n:Nat) (x:Int),it (sgV E F) n x / 4194304=x / 4194304
 |0,_=>rfl
 |n+1,x=>by rw[bT,hO.sgV_base hE,jQ.sgV_it n x]
theorem jQ.count(h0:E≠[]):Flat (Rws F).flatten (sgR (Rws F)) (tws E)/\∀ x∈(Rws F).flatten,∀ y∈(Rws F).flatten,x / 4194304=y / 4194304->Orb (sgV E F) x y:=by
 have hn:=hO.cdnd hE;have hφ:=lA hn;have hσ:=hO.sgV_permOn hE;obtain⟨_,c,hc⟩:=xC hφ (tws E) (hO.tws_mem hE);have hM:=dR hφ.per.eqv (tws E);have hall:∀ x∈(Rws F).flatten,∀ y∈(Rws F).flatten,mgP (Orb (sgR (Rws F))) (tws E) x y:=by
  intro x hx y hy;rw[iE]at hx hy;obtain⟨p,hp,rfl⟩:=aAi.1 hx;obtain⟨q,hq,rfl⟩:=aAi.1 hy;refine hO.con (fun p q=>mgP (Orb (sgR (Rws F))) (tws E) (cd p) (cd q)) (fun _ _ k=>hM.symm k) (fun _ _ _ k l=>hM.trans k l) (fun r hr p hp q hq=>?_) (fun p hp=>?_) p hp q hq
  .exact fZ _ ((FJ hn (aAt (f:=fun r=>(prs r).map cd) hr) (aAt hp)).2 (aAt hq))
  .obtain⟨e,he,S4⟩:=(hO.mem p.1 p.2).1 hp;have:=jV hφ.per.eqv (tws E) (p:=(cd (e.a,e.b),cd (e.b,e.a))) (aAt (f:=fun e:Ed=>(cd (e.a,e.b),cd (e.b,e.a))) he);rcases bG S4 with⟨e1,e2⟩|⟨e1,e2⟩
   .rw[e1,e2]at this;exact this
   .rw[e1,e2]at this;exact hM.symm this
 have hD0:(Rws F).flatten≠[]:=by rw[iE];intro e;have:=aCN.1 e;obtain⟨e,he⟩:=aAP _ h0;have h:=(hO.mem e.a e.b).2 ⟨e,he,rfl⟩;rw[this]at h;cases h
 have M9:=UO hall hD0;rw[M9]at hc;have hF:ncl (Orb (sgR (Rws F))) (Rws F).flatten=F.length:=by rw[My hn,aCM.2,Rws,aAD];intro t ht;obtain⟨r,hr,rfl⟩:=aAi.1 ht;have h1:=hO.ne r hr;have h2:=oZ r;rw[aAR];intro e;have h3:=congrArg List.length e;rw[aAD,h2]at h3;exact h1 (aBt.1 h3)
 have hlen:(tws E).length=E.length:=by rw[tws,aAD]
 rw[hF,hlen]at hc;have hc:2*1+E.length=2*c+F.length+ncl (Orb (sgV E F)) (Rws F).flatten:=hc;let B:Int->Int->Prop:=fun x y=>x / 4194304=y / 4194304;have hB:Eqv B:=⟨fun _=>rfl,fun h=>Eq.symm h,fun h k=>Eq.trans h k⟩;have hBn:(vsF E).length<=ncl B (Rws F).flatten:=by
  refine oC (R:=B) (fun x=>x / 4194304) (fun _ _ _ _ h=>h) (vsF E) ((kY E).imp fun k=>by omega) fun a ha=>?_;obtain⟨e,he,k⟩:=(bA a E).1 ha;have h1:=(hO.mem e.a e.b).2 ⟨e,he,rfl⟩;have h2:=hO.swap hE h1;rcases k with rfl|rfl
  .exact⟨_,by rw[iE];exact aAt h1,wZ (hO.b2 hE h1).2⟩
  .exact⟨_,by rw[iE];exact aAt h2,wZ (hO.b2 hE h2).2⟩
 have hcnt:=hO.cnt;have L6:∀ x y,Orb (sgV E F) x y->B x y:=fun x y ⟨n,hn⟩=>by show x / 4194304=y / 4194304;rw[<- hn,hO.sgV_it hE]
 have hmono:ncl B (Rws F).flatten<=ncl (Orb (sgV E F)) (Rws F).flatten:=rT fun x _ y _=>L6 x y;refine⟨?_,fun x hx y hy k=>Qn hσ.per.eqv hB (l:=(Rws F).flatten) L6 oO hx hy k⟩;show 2*_+_=_+ncl (Orb (sgV E F)) _;rw[M9,hF,hlen];omega
theorem jQ.one_turn(h0:E≠[]){v u u':Int}(h:(u,v)∈PF F)(h':(u',v)∈PF F):Orb (sgV E F) (cd (v,u)) (cd (v,u')):=by have a1:=hO.swap hE h;have a2:=hO.swap hE h';refine(hO.count hE h0).2 _ (by rw[iE];exact aAt a1) _ (by rw[iE];exact aAt a2) ?_;rw[wZ (hO.b2 hE a1).2,wZ (hO.b2 hE a2).2]
end
theorem Lm:∀ {P:List (Int×Int)},(P.map (·.1)).Nodup->∀ {u w:Int},(u,w)∈P->oB P u=w
 |p::P,hn,u,w,h=>by
  rw[aAm,aAq]at hn;unfold oB;rcases aAe.1 h with rfl|h
  .rw[aAj rfl]
  .rw[aAa fun e=>hn.1 (by rw[e];exact aAt (f:=(·.1)) h)];exact Lm hn.2 h
section
variable {E:List Ed} {F:List (List Int)} (hO:jQ E F) (hE:BlE E)
include hO hE
theorem jQ.getA_eq(v:Int):dH v (aT F)=((F.flatMap trs).filter fun t=>decide (t.2.1=v)).map fun t=>(t.1,t.2.2):=by rw[yK,Nr v _ ((xG F).nodup_iff.2 hO.nd)]
theorem jQ.keys(v:Int):((dH v (aT F)).map (·.1)).Nodup/\∀ u,u∈(dH v (aT F)).map (·.1)↔(u,v)∈PF F:=by
 rw[hO.getA_eq hE,aAW];have hn:=(xG F).nodup_iff.2 hO.nd;constructor
 .unfold List.Nodup at hn ⊢;rw[aAV]at hn ⊢;refine(hn.sublist aBo).imp_of_mem fun {s t} hs ht c7 e=>c7 ?_;rw[aAB,aAR]at hs ht;exact aCe e (by rw[hs.2,ht.2])
 .intro u;rw[<- (xG F).mem_iff,aAi,aAi];constructor
  .rintro⟨t,ht,rfl⟩;rw[aAB,aAR]at ht;exact⟨t,ht.1,by rw[<- ht.2];rfl⟩
  .rintro⟨t,ht,e⟩;injection e with e1 e2;exact⟨t,by rw[aAB,aAR];exact⟨ht,e2⟩,e1⟩
theorem jQ.step{u v:Int}(h:(u,v)∈PF F):(∃ r∈F,(u,v)∈prs r/\(v,oB (dH v (aT F)) u)∈prs r)/\sgV E F (cd (v,u))=cd (v,oB (dH v (aT F)) u):=by
 obtain⟨w,h1,r,hr,k1,k2,k3⟩:=hO.next hE h;have j5:(u,w)∈dH v (aT F):=by rw[hO.getA_eq hE];exact aAi.2 ⟨(u,v,w),by rw[aAB];exact⟨h1,sS⟩,rfl⟩
 rw[Lm (hO.keys hE v).1 j5,hO.sgV_at hE h];exact⟨⟨r,hr,k1,k2⟩,k3⟩
theorem jQ.round(h0:E≠[]){v:Int}(hv:v∈vsF E):(bX (dH v (aT F))).Nodup/\bX (dH v (aT F))≠[]/\(∀ u,u∈bX (dH v (aT F))↔∃ e∈E,prE e=prP v u)/\
 ∀ u∈bX (dH v (aT F)),∃ r∈F,(u,v)∈prs r/\(v,nx (bX (dH v (aT F))) u)∈prs r:=by
 have hk:=hO.keys hE v;have L8:=fun u (h:(u,v)∈PF F)=>hO.step hE h;have M9:=fun u u' (h:(u,v)∈PF F) (h':(u',v)∈PF F)=>hO.one_turn hE h0 h h';have hb:=fun p (h:p∈PF F)=>hO.b2 hE h;obtain⟨u0,hu0⟩:∃ u,(u,v)∈PF F:=by
  obtain⟨e,he,k⟩:=(bA v E).1 hv;have h1:=(hO.mem e.a e.b).2 ⟨e,he,rfl⟩;rcases k with rfl|rfl
  .exact⟨_,hO.swap hE h1⟩
  .exact⟨_,h1⟩
 have hswap:=fun u w (h:(u,w)∈PF F)=>hO.swap hE h;generalize dH v (aT F)=P at *;have hK0:P.map (·.1)≠[]:=aBr ((hk.2 u0).2 hu0);have hP:P≠[]:=fun e=>hK0 (by rw[e];rfl);have hf:(mn (P.map (·.1)),v)∈PF F:=(hk.2 _).1 (nA hK0);generalize hfe:mn (P.map (·.1))=f at *;let nv:Int->Int:=fun x=>if x∈P.map (·.1)then oB P x else x
 have nvin:∀ u,(u,v)∈PF F->nv u=oB P u:=fun u hu=>aAj ((hk.2 u).2 hu);have nvPF:∀ u,(u,v)∈PF F->(nv u,v)∈PF F:=fun u hu=>by rw[nvin u hu];obtain⟨⟨r,hr,_,k⟩,_⟩:=L8 u hu;exact hswap _ _ (aX.2 ⟨r,hr,k⟩)
 have itPF:∀ n u,(u,v)∈PF F->(it nv n u,v)∈PF F/\it (sgV E F) n (cd (v,u))=cd (v,it nv n u):=by
  intro n;induction n with
  |zero=>intro u hu;exact⟨hu,rfl⟩
  |succ n ih=>intro u hu;obtain⟨i1,i2⟩:=ih u hu;rw[bT,bT,i2,(L8 _ i1).2,<- nvin _ i1];exact⟨nvPF _ i1,rfl⟩
 have orb:∀ u u',(u,v)∈PF F->(u',v)∈PF F->Orb nv u u':=fun u u' hu hu'=>by obtain⟨n,hn⟩:=M9 u u' hu hu';rw[(itPF n u hu).2]at hn;have:=iJ (hb _ (hswap _ _ (itPF n u hu).1)).2 (hb _ (hswap _ _ hu')).2 hn;injection this with _ e;exact⟨n,e⟩
 have hper:∃ p,0<p/\it nv p f=f:=by obtain⟨n,hn⟩:=orb (nv f) f (nvPF f hf) hf;exact⟨n+1,oO,hn⟩
 obtain⟨p,⟨hp0,hpf⟩,N7⟩:=least (P:=fun n=>0<n/\it nv n f=f) hper.choose_spec;have hdist:∀ i j,i<j->j<p->it nv i f≠it nv j f:=by
  intro i j hij hj e;have h1:it nv (p-j) (it nv j f)=f:=by rw[<- jT,show p-j+j=p by omega,hpf]
  rw[<- e,<- jT]at h1;exact N7 (p-j+i) oO ⟨oO,h1⟩
 have hnd:((List.range p).map fun k=>it nv k f).Nodup:=by unfold List.Nodup;rw[aAV];exact(aBH (n:=p)).imp_of_mem fun {i j} _ hj hij=>hdist i j hij (aBi.1 hj)
 have N5:∀ u,u∈((List.range p).map fun k=>it nv k f)↔(u,v)∈PF F:=fun u=>by
  constructor
  .intro h;obtain⟨k,_,rfl⟩:=aAi.1 h;exact(itPF k f hf).1
  .intro hu;obtain⟨n,rfl⟩:=orb f u hf hu;exact aAi.2 ⟨n % p,aBi.2 (aBG _ hp0),(Kt hp0 hpf n).symm⟩
 have hlen:p=P.length:=by
  have:=(CQ hnd hk.1 (fun x hx=>(hk.2 x).2 ((N5 x).1 hx)) (by
   refine aAy hk.1 fun x hx=>(N5 x).2 ((hk.2 x).1 hx))).length_eq
  simpa using this
 have hgo:∀ m k,k+m=p->0<m->goR P f m (it nv k f)=(List.range' k m).map fun k=>it nv k f:=by
  intro m;induction m with
  |zero=>intro k _ h;omega
  |succ m ih=>
   intro k P0 _;have e1:oB P (it nv k f)=it nv (k+1) f:=by rw[bT,nvin _ (itPF k f hf).1]
   rw[List.range'_succ,aAm,goR,e1]
   congr 1
   by_cases hm:0<m
   .rw[aAj ⟨fun e=>N7 (k+1) oO ⟨oO,e⟩,hm⟩];exact ih (k+1) oO hm
   .rw[aAa fun h=>hm h.2];have:m=0:=oO;subst this;rfl
 have hR:bX P=(List.range p).map fun k=>it nv k f:=by unfold bX;rw[hfe,<- hlen,List.range_eq_range'];exact hgo p 0 oO hp0
 rw[hR];refine⟨hnd,?_,fun u=>?_,fun u hu=>?_⟩
 .intro e;have:=congrArg List.length e;simp at this;omega
 .rw[N5,hO.mem];constructor
  .rintro⟨e,he,k⟩;exact⟨e,he,by rw[k];exact aI _ _⟩
  .rintro⟨e,he,k⟩;exact⟨e,he,by rw[k];exact aI _ _⟩
 .have huv:=(N5 u).1 hu;obtain⟨⟨r,hr,k1,k2⟩,_⟩:=L8 u huv;refine⟨r,hr,k1,?_⟩;obtain⟨k,P0,rfl⟩:=aAi.1 hu;rw[aBi]at P0;have hl:((List.range p).map fun k=>it nv k f).length=p:=sS;have e1:=iD hnd (j:=k) (by rw[hl];exact P0);simp only[aCy,List.getElem_range,hl]at e1;rw[e1,<- Kt hp0 hpf,bT,nvin _ huv];exact k2
end
def unA(p:Int×Int):Int×Int:=prP p.1 p.2
def pls(A:List (Int×Int)):List (Int×Int):=A.map fun p=>(cd p,cd p.swap)
structure PlD(E:List Ed)(s:Int->Int)(D:List Int):Prop where
 bl:BlE E
 perm:dB D s
 mem:∀ p:Int×Int,(∃ e∈E,prE e=unA p)->cd p∈D
 orb:∀ p q:Int×Int,(∃ e∈E,prE e=unA p)->(∃ e∈E,prE e=unA q)->(Orb s (cd p) (cd q)↔p.1=q.1)
 flat:Flat D s (tws E)
def PlE(E:List Ed)(s:Int->Int):Prop:=∃ D,PlD E s D
theorem PlE.bl{E:List Ed}{s:Int->Int}(h:PlE E s):BlE E:=let ⟨_,k⟩:=h;k.bl
theorem PlE.per{E:List Ed}{s:Int->Int}(h:PlE E s):Per s:=let ⟨_,k⟩:=h;k.perm.per
structure gF(E:List Ed)(A:List (Int×Int)):Prop where
 mem:∀ p∈A,∃ e∈E,prE e=unA p
 nd:(A.map unA).Nodup
theorem gU{α β:Type}(f:α->β):∀ {l:List α},(l.map f).Nodup->l.Nodup
 |[],_=>List.nodup_nil
 |x::l,h=>by rw[aAm,aAq]at h;exact aAq.2 ⟨fun k=>h.1 (aAt k),gU f h.2⟩
theorem rL{α β:Type}{f:α->β}:∀ {l:List α},(l.map f).Nodup->∀ {x y:α},x∈l->y∈l->f x=f y->x=y
 |z::l,h,x,y,hx,hy,e=>by
  rw[aAm,aAq]at h;rcases aAe.1 hx with rfl|kx
  .rcases aAe.1 hy with rfl|ky
   .rfl
   .exact absurd (aAi.2 ⟨y,ky,e.symm⟩) h.1
  .rcases aAe.1 hy with rfl|ky
   .exact absurd (aAi.2 ⟨x,kx,e⟩) h.1
   .exact rL h.2 kx ky e
theorem fS(p:Int×Int):unA p.swap=unA p:=aI _ _
def orA(A:List (Int×Int))(e:Ed):Int×Int:=if(e.a,e.b)∈A then(e.a,e.b)else if(e.b,e.a)∈A then(e.b,e.a)else(e.a,e.b)
theorem Eh(A:List (Int×Int))(e:Ed):orA A e=(e.a,e.b)\/orA A e=(e.b,e.a):=by
 unfold orA
 split
 .exact .inl rfl
 .split
  .exact .inr rfl
  .exact .inl rfl
theorem Sr(A:List (Int×Int))(e:Ed):unA (orA A e)=prE e:=by
 rcases Eh A e with h|h
 .rw[h];rfl
 .rw[h];exact aI _ _
theorem Vi(a b x:Int):Eu.sw a b x=Eu.sw b a x:=by
 unfold Eu.sw;by_cases h1:x=a
 .by_cases h2:x=b
  .rw[aAj h1,aAj h2,<- h1,<- h2]
  .rw[aAj h1,aAa h2,aAj h1]
 .rw[aAa h1];by_cases h2:x=b
  .rw[aAj h2,aAj h2]
  .rw[aAa h2,aAa h2,aAa h1]
theorem Rz(s:Int->Int)(A:List (Int×Int)):∀(E:List Ed) (x:Int),swP s (tws E) x=swP s (pls (E.map (orA A))) x
 |[],_=>rfl
 |e::E,x=>by
  show swP s (tws E) (Eu.sw _ _ x)=swP s (pls (E.map (orA A))) (Eu.sw (cd (orA A e)) (cd (orA A e).swap) x);rw[Rz s A E];rcases Eh A e with h|h
  .rw[h];rfl
  .rw[h];show _=swP s _ (Eu.sw (cd (e.b,e.a)) (cd (e.a,e.b)) x);rw[Vi]
section
variable {E:List Ed} (hP:BlE E)
include hP
theorem BlE.bd{e:Ed}(he:e∈E):(0<=e.a/\e.a<4194304)/\0<=e.b/\e.b<4194304:=by have:=fR (x:=e.a) (y:=e.b) he rfl;exact⟨hP.bnd _ this.1,hP.bnd _ this.2⟩
theorem BlE.arc_bd{p:Int×Int}(h:∃ e∈E,prE e=unA p):(0<=p.1/\p.1<4194304)/\(0<=p.2/\p.2<4194304)/\p.1≠p.2:=by
 obtain⟨e,he,hp⟩:=h;have hb:=hP.bd he;have c7:=hP.ne e he;rcases bG hp with⟨e1,e2⟩|⟨e1,e2⟩
 .rw[<- e1,<- e2];exact⟨hb.1,hb.2,c7⟩
 .rw[<- e1,<- e2];exact⟨hb.2,hb.1,aCE c7⟩
theorem BlE.fl_nd:∀ {A:List (Int×Int)},gF E A->(flP (pls A)).Nodup
 |[],_=>List.nodup_nil
 |p::A,h=>by
  have hA:gF E A:=⟨fun q hq=>h.mem q (aAc _ hq),(aAq.1 h.nd).2⟩;have ih:=BlE.fl_nd hA;obtain⟨b1,b2,b3⟩:=hP.arc_bd (h.mem p aAf);have hn:=(aAq.1 h.nd).1;have key:∀ q:Int×Int,unA q=unA p->((0<=q.1/\q.1<4194304)/\0<=q.2/\q.2<4194304)->cd q∉flP (pls A):=by
   intro q hq bq k;obtain⟨r,hr,e⟩:=dG.1 k;obtain⟨a,ha,rfl⟩:=aAi.1 hr;obtain⟨c1,c2,_⟩:=hP.arc_bd (h.mem a (aAc _ ha));rcases e with e|e
   .have:=iJ bq.2 c2 e;exact hn (aAi.2 ⟨a,ha,by rw[<- this,hq]⟩)
   .have:=iJ (q:=a.swap) bq.2 c1 e;exact hn (aAi.2 ⟨a,ha,by rw[<- hq,this,fS]⟩)
  show(cd p::cd p.swap::flP (pls A)).Nodup;rw[aAq,aAq];refine⟨fun k=>?_,key p.swap (fS p) ⟨b2,b1⟩,ih⟩;rcases aAe.1 k with k|k
  .have:=iJ (p:=p) (q:=p.swap) b2 b1 k;exact b3 (congrArg Prod.fst this)
  .exact key p rfl ⟨b1,b2⟩ k
end
section
variable {E:List Ed} {s:Int->Int} (hP:PlE E s)
include hP
theorem PlE.arc_bd{p:Int×Int}(h:∃ e∈E,prE e=unA p):(0<=p.1/\p.1<4194304)/\(0<=p.2/\p.2<4194304)/\p.1≠p.2:=hP.bl.arc_bd h
theorem PlE.fl_nd{A:List (Int×Int)}(h:gF E A):(flP (pls A)).Nodup:=hP.bl.fl_nd h
theorem PlE.ors(A:List (Int×Int)):gF E (E.map (orA A)):=by
 refine⟨fun p hp=>?_,?_⟩
 .obtain⟨e,he,rfl⟩:=aAi.1 hp;exact⟨e,he,(Sr A e).symm⟩
 .have e:(E.map (orA A)).map unA=E.map prE:=by rw[aAW];exact aAQ fun e _=>Sr A e
  rw[e];exact hP.bl.sim
theorem PlE.sub{A:List (Int×Int)}(hA:gF E A):∃ R,(E.map (orA A)).Perm (R++A):=by
 refine⟨(E.map (orA A)).filter fun p=>decide (p∉A),?_⟩;have hB:=hP.ors A;have hBn:=gU unA hB.nd;have hAn:=gU unA hA.nd;refine(aAZ hBn ?_).2 fun p=>?_
 .rw[aAo];refine⟨hBn.filter _,hAn,fun x hx y hy e=>?_⟩;have:=(aAB.1 hx).2;simp only[aBA]at this;exact this (e ▸ hy)
 .rw[aAd,aAB];simp only[aBA];constructor
  .intro h;by_cases k:p∈A
   .exact .inr k
   .exact .inl ⟨h,k⟩
  .rintro(h|h)
   .exact h.1
   .obtain⟨e,he,hp⟩:=hA.mem p h;refine aAi.2 ⟨e,he,?_⟩;rcases bG hp with⟨e1,e2⟩|⟨e1,e2⟩
    .have:(e.a,e.b)=p:=aCe e1 e2;unfold orA;rw[this,aAj h]
    .have h1:(e.a,e.b)∉A:=fun k=>by have h3:unA (e.a,e.b)=unA p:=hp;have:=rL hA.nd k h h3;have h4:=hP.bl.ne e he;rw[<- this]at e1 e2;exact h4 e1
     have:(e.b,e.a)=p:=aCe e2 e1;unfold orA;rw[aAa h1,this,aAj h]
omit hP in
theorem PlD.pairs{D:List Int}(hP:PlD E s D){A:List (Int×Int)}(hA:gF E A):fV (D) (pls A):=by intro q hq;obtain⟨p,hp,rfl⟩:=aAi.1 hq;have hm:=hA.mem p hp;obtain⟨b1,b2,b3⟩:=PlE.arc_bd ⟨D,hP⟩ hm;exact⟨hP.mem _ hm,hP.mem _ (by rw[fS];exact hm),fun e=>b3 (congrArg Prod.fst (iJ (p:=p) (q:=p.swap) b2 b1 e))⟩
omit hP in
theorem PlD.flat_or{D:List Int}(hP:PlD E s D)(A:List (Int×Int)):Flat (D) s (pls (E.map (orA A))):=by
 have h:=hP.flat;have e:swP s (tws E)=swP s (pls (E.map (orA A))):=funext fun x=>Rz s A E x;have hE:=hP.perm.per.eqv;have up:∀ x y,Orb s x y->mgP (Orb s) (pls (E.map (orA A))) x y:=fun x y k=>fZ _ k;have up':∀ x y,Orb s x y->mgP (Orb s) (tws E) x y:=fun x y k=>fZ _ k;have e2:ncl (mgP (Orb s) (tws E)) (D)=ncl (mgP (Orb s) (pls (E.map (orA A)))) (D):=by
  refine dI fun x _ y _=>⟨fun k=>Ax (dR hE _) up (fun p hp=>?_) x y k,fun k=>Ax (dR hE _) up' (fun p hp=>?_) x y k⟩
  .obtain⟨f,hf,rfl⟩:=aAi.1 hp;have hm:(cd (orA A f),cd (orA A f).swap)∈pls (E.map (orA A)):=aAi.2 ⟨_,aAt hf,rfl⟩;have:=jV hE _ hm;rcases Eh A f with h|h
   .rw[h]at this;exact this
   .rw[h]at this;exact(dR hE _).symm this
  .obtain⟨q,hq,rfl⟩:=aAi.1 hp;obtain⟨f,hf,rfl⟩:=aAi.1 hq;have hm:(cd (f.a,f.b),cd (f.b,f.a))∈tws E:=aAi.2 ⟨f,hf,rfl⟩;have:=jV hE _ hm;rcases Eh A f with h|h
   .rw[h];exact this
   .rw[h];exact(dR hE _).symm this
 unfold Flat at h ⊢;rw[<- e,<- e2];have:(pls (E.map (orA A))).length=(tws E).length:=by unfold pls tws;simp
 rw[this];exact h
theorem PlE.face{p:Int×Int}{A:List (Int×Int)}(hA:gF E (p::A)):mgP (Orb s) (pls A) (cd p) (cd p.swap)->Orb (swP s (pls A)) (cd p) (cd p.swap):=by
 obtain⟨R,hR⟩:=hP.sub hA;have hB:=hP.ors (p::A);have hp:(pls (E.map (orA (p::A)))).Perm (pls R++(cd p,cd p.swap)::pls A):=by have:=hR.map fun p:Int×Int=>(cd p,cd p.swap);rw[aAv]at this;exact this
 have hnd:=hP.fl_nd hB;obtain⟨D,hP⟩:=hP;exact(OO hP.perm (hP.pairs hB) hnd (hP.flat_or _) hp).2
end
section
variable {f:Int->Int} (hf:Per f) {ds:List Int} (hd:∀ x∈ds,f x∈ds)
include hf hd
end
def tix(rs:List (List Int))(d:Int):Int:=if(rs.any fun t=>decide (d∈t))=true then(rs.findIdx fun t=>decide (d∈t):Int)else -1
theorem Gq{rs:List (List Int)}{d:Int}{k:Nat}(hk:k<rs.length)(h:d∈rs.getD k [])(hn:∀ j,j<k->d∉rs.getD j []):tix rs d=k:=by
 grind [tix,List.findIdx_eq]
theorem JQ{rs:List (List Int)}{d:Int}(hn:∀ j,j<rs.length->d∉rs.getD j []):tix rs d = -1:=by
 grind [tix]
theorem Pr{rs:List (List Int)}{d:Int}(h:∃ t∈rs,d∈t):∃ k,k<rs.length/\tix rs d=(k:Int)/\d∈rs.getD k []:=by
 obtain⟨t,ht,hd⟩:=h;obtain⟨j,hj,rfl⟩:=aAA ht;obtain⟨k,hk,N7⟩:=least (P:=fun k=>k<rs.length/\d∈rs.getD k []) ⟨hj,by grind⟩
 grind [Gq]
theorem Vt{rs:List (List Int)}{d:Int}(h:∀ t∈rs,d∉t):tix rs d = -1:=JQ fun j hj=>by grind
def LI(m:Mp)(R:List (List Int)):Prop:=sU (fc m m.g.es) (aL m.g.es) (aL m.g.es).length R
section
variable {m:Mp} (h:bL m) {R:List (List Int)} (hR:LI m R)
include h hR
end
theorem Jr{m:Mp}(h:bL m){d:Int}(hd:d∈aL m.g.es):2<=d/\d<=2097153:=by obtain⟨x,hx,h1⟩:=cZ.1 hd;have:=h.g.pos x hx;omega
theorem bL.cyc_le{m:Mp}(h:bL m){d:Int}(hd:d∈aL m.g.es){L:List Int}(hc:lS (fc m m.g.es) d L):(∀ x∈L,x∈aL m.g.es)/\L.length<=2*m.g.es.length:=by
 have hdk:∀ k,it (fc m m.g.es) k d∈aL m.g.es:=by
  intro k;induction k with
  |zero=>exact hd
  |succ k ih=>rw[bT];exact h.fc_dart _ _ ih
 have hs:∀ x∈L,x∈aL m.g.es:=fun x hx=>by
  obtain⟨n,rfl⟩:=hc.mem.1 hx
  grind
 have:=aAy (hc.nodup (h.fc_inj _)) (l₂:=aL m.g.es) hs
 grind [oA]
def itL(f:Int->Int)(d:Int)(k:Nat):List Int:=(List.range k).map fun j=>it f j d
theorem Qv(f:Int->Int)(d:Int)(k:Nat):itL f d (k+1)=itL f d k++[it f k d]:=by grind [itL,List.range_succ]
@[simp] theorem Fa(f:Int->Int)(d:Int)(k:Nat):(itL f d k).length=k:=by simp[itL]
theorem Bg(m:Mp)(d:Int)(st:St)(hr:m.rots.length<=1000)(hs:∀ t∈m.rots,small t):
 aB prog 156 [.ag (mpL m),u d] st fun r st'=>r=i (tix m.rots d)/\aA st st':=by
 refine zN func156 ntmps156 [.tmp 4] ?_;refine xw0 ?_;refine aY 9 8 10 21 (m.rots.length) (fun j fr st2=>fr 1=u d/\fr 2=.pt st.next 0/\st2.H st.next=.box 28 3 (mpL m)/\aA st st2/\∀ k,k<j->d∉m.rots.getD k []) ?_ ?_ ?_
 .exact⟨sS,sS,sS,aA.new _ _,fun k hk=>by omega⟩
 .rintro j fr st2 dA ⟨f1,f2,hG,j8,x9⟩ fi fn JJ hJJ;have hd:=uB m.rots j dA;have hRl:j<(eF m.rots).length:=by simpa using dA
  have htin:m.rots.getD j []∈m.rots:=by rw[iN _ _ dA];exact aAE _
  have S5:=hs _ htin;have hso:=fun h=>Gq (d:=d) dA h x9;have hnn:d∉m.rots.getD j []->∀ k,k<j+1->d∉m.rots.getD k []:=fun h k hk=>by
   rcases aAM k j with h1|h1
   .exact x9 k h1
   .obtain rfl:k=j:=oO;exact h
  generalize m.rots.getD j []=t at *
  (refine xj8 f1 f2 hG fi fn hd hRl dA ?_;intro J hJ)
  refine qE (Yo t 0 d _ S5) sS ?_;rintro r s3 ⟨rfl,rfl⟩;by_cases hdt:d∈t
  .have hr:=hso hdt;have hg:=xY hdt;refine vP hJ hg hr ?_;exact j8
  .have hg:=GD hdt;refine nL hJ hg ?_;exact hJJ _ _ (sF1 fi) (sF1 fn) ⟨sF1 f1,sF1 f2,hG,j8,hnn hdt⟩
 .rintro fr st2 ⟨f1,f2,hG,j8,x9⟩;have hr:=JQ x9;refine xw1 hr ?_;exact j8
theorem TU(d:Int)(st:St)(h0:0<=d)(h1:d<4294967295):aB prog 157 [u d] st fun r st'=>r=u (tw d)/\st'=st:=by
 have hm:d.tmod 2=d % 2:=aCF h0;by_cases hp:d % 2=0
 .have ht:tw d=d+1:=by unfold tw;rw[aAj hp]
  have hw:IntKind.u32.wrap (d+1)=d+1:=wrap_u32' _ oO oO;refine zN func157 ntmps157 [.tmp 2] ?_;exact xv4 hm hp ht hw
 .have ht:tw d=d-1:=by unfold tw;rw[aAa hp]
  have hw:IntKind.u32.wrap (d-1)=d-1:=wrap_u32' _ oO oO;refine zN func157 ntmps157 [.tmp 2] ?_;exact xv4 hm hp ht hw
def Wv(m:Mp)(d:Int)(c:List Int):Prop:=(d∈aL m.g.es/\∃ L,lS (fc m m.g.es) d L/\c=nrm L)\/(d∉aL m.g.es/\c=[])
def ZH(m:Mp)(d:Int)(st:St)(r:LV)(st':St):Prop:=(∃ c,r=.sl 0 c.length (us c)/\Wv m d c)/\aA st st'
theorem SZ(m:Mp)(h:bL m)(d:Int)(st:St)(hv:m.g.vs.length<=1000)(he:m.g.es.length<=1000):
 aB prog 116 [.ag (mpL m),u d] st (ZH m d st):=by
 have S5:∀ t∈m.rots,small t:=fun t ht=>by have:=h.row_le ht;unfold small;omega
 have hrl:=h.len;refine yH ?_;by_cases hd:d∈aL m.g.es;rotate_left
 .have ht:=Vt (rs:=m.rots) fun t ht hdt=>hd (h.turn_dart ht hdt);refine zN func116 ntmps116 [.tmp 4] ?_
  (refine xj0 ?_;intro J hJ)
  refine qE (Bg m d _ oO S5) sS ?_;rintro r s1 ⟨rfl,j7⟩;refine nL hJ ht ?_;exact⟨⟨[],rfl,.inr ⟨hd,rfl⟩⟩,(aA.new _ _).trans j7⟩
 have hP:=h.fc_per m.g.es (fun x hx=>hx);obtain⟨L,p,hp,hL,T7,Y8⟩:=Ry hP d;have hcyc:lS (fc m m.g.es) d L:=⟨p,hp,hL,T7,Y8⟩;have hL':L=itL (fc m m.g.es) d p:=hL;have hdk:∀ k,it (fc m m.g.es) k d∈aL m.g.es:=by
  intro k;induction k with
  |zero=>exact hd
  |succ k ih=>rw[bT];exact h.fc_dart _ _ ih
 have U3:p<=2*m.g.es.length:=by
  have:=(h.cyc_le hd hcyc).2
  rwa [hL',Fa]at this
 obtain⟨k0,S7,ht0,_⟩:=Pr (h.turn_of hd);have hfx:∀ x,x∈aL m.g.es->fc m m.g.es x=sg m (tw x):=fun x hx=>by unfold fc;rw[BG hx]
 refine zN func116 ntmps116 [.tmp 4] ?_
 (repeat' (first|apply qS|(refine zE ?_;intro J hJ;simp[];(try (refine zJ hJ ?_;clear hJ J)))))
 refine qE (Bg m d _ oO S5) sS ?_;rintro r s1 ⟨rfl,j7⟩;have N6:=j7.next;simp only[aG]at N6;have X7:s1.H st.next=.box 28 3 (mpL m):=by rw[j7.H _ sS];simp
 (repeat' (first|apply qS|apply qB|refine qK (zZ ?_)|(apply qC;simp[ht0];(try with_reducible refine⟨?_,?_⟩)<;>(try with_reducible intro hc)<;>try (exfalso;omega))|((first|(refine zE ?_;intro J hJ)|(apply cI));simp[ht0];(refine zJ hJ ?_;clear hJ J))))
 refine eR fun M5=>?_;refine kM 5 34 1 sS ?_;generalize hf:fc m m.g.es=f at *;refine qL (fun n fr st2=>∃ k:Nat,k<p/\n=p-k/\fr 1=u d/\fr 2=.pt st.next 0/\fr 6=u (it f k d)/\st2.H st.next=.box 28 3 (mpL m)/\∃ t,fr 5=.sl t k (us (itL f d k))/\(t≠0/\st.next<t/\t<st2.next)/\st2.H t=.own 34 1 k/\aA st st2) p ?_ ?_
 .exact⟨0,oO,oO,sS,sS,by simp[it],by simp[show ¬st.next=s1.next by omega,X7],s1.next,by simp[itL],⟨oO,oO,sS⟩,sS,((aA.new _ _).trans j7).trans (aA.new _ _)⟩
 rintro n fr st2 ⟨k,hk,rfl,f1,f2,f6,hG,t,f5,⟨t0,t1,t2⟩,htH,j8⟩ JJ hJJ;have O6:=j8.next;have hxd:=hdk k;have hx1:=Jr h hxd;obtain⟨kt,hkt,htx,N5⟩:=Pr (h.turn_of (Mt.2 hxd));have W5:=uB m.rots kt hkt;have hRl:kt<(eF m.rots).length:=by simpa using hkt
 have htin:m.rots.getD kt []∈m.rots:=by rw[iN _ _ hkt];exact aAE _
 have hsmt:=S5 _ htin;have M6:nx (m.rots.getD kt []) (tw (it f k d))=it f (k+1) d:=by rw[bT,hfx _ hxd,BQ h htin N5]
 have hLn:=Qv f d k;have hLl:=Fa f d k;have hstop:it f (k+1) d=d->k+1=p:=fun e=>by
  rcases aAM (k+1) p with h1|h1
  .exact absurd e (Y8 _ oO h1)
  .omega
 have hgo:¬it f (k+1) d=d->k+1<p:=fun e=>by
  rcases aAM (k+1) p with h1|h1
  .exact h1
  .exact absurd (by rw[show k+1=p by omega];exact T7) e
 generalize itL f d k=Lk at *;generalize m.rots.getD kt []=tt at *;generalize hxe:it f k d=x at *;generalize hye:it f (k+1) d=y at *;have m1:¬t=st2.next:=oO;have m2:¬st.next=st2.next:=oO;have m3:¬st.next=st2.next+1:=oO;have m4:¬st.next=t:=oO
 (repeat' (first|apply qS|apply qB|(refine zE ?_;intro J hJ;simp[f1,f2,f5,f6,htH,t0,m1,hLl];(repeat refine ca ?_);(try (refine zJ hJ ?_;clear hJ J)))))
 refine qE (TU x _ oO oO) sS ?_;rintro r s3 ⟨rfl,rfl⟩;refine xw0 ?_
 (refine zS [] [st.next] [0,2,4,6,14,8,10,12,16,18] ?_;intro J hJ;simp[f2,hG,m2,m3,m4])
 refine qD (Bg m (tw x) _ oO S5) sS ?_;rintro r s4 ⟨rfl,M7⟩;have hn4:=M7.next;have hG4:=M7.H st.next (by simp;omega);simp[m2,m3,m4,hG]at hG4;refine⟨fun _=>by simp[m2,m3,m4,hG,hG4],?_⟩;rw[htx]
 (apply bJ;simp[f2,hG4,W5,hkt,hRl,m2,m3,m4,hG])
 refine qD (PX tt 0 (tw x) _ hsmt) rfl ?_;rintro r s5 ⟨rfl,rfl⟩;rw[M6];refine⟨fun _=>by simp[m2,m3,m4,hG,hG4],?_⟩
 (apply bJ;simp[hG4,m2,m3,m4,hG];(refine zJ hJ ?_;clear hJ J))
 have hkp4:aA st s5:=(((j8.trans (aA.new _ _)).set oO _).trans (aA.new _ _)).trans M7;have htH4:=M7.H (st2.next+1) sS;simp at htH4 hn4;by_cases hyd:y=d
 .have W2:=hstop hyd
  (repeat' (first|apply qS|(apply qC;simp[hyd,f1])|(refine zE ?_;intro J hJ;simp[hyd,f1];(try (refine zJ hJ ?_;clear hJ J)))))
  refine qE (tK L (st2.next+1) _ (by rw[hL',small,Fa];omega)) ?_ ?_
  .rw[hL',<- W2,hLn];simp[hLl]
  rintro r s6 ⟨rfl,hk6⟩;refine xw0 ?_;exact⟨⟨nrm L,by rw[cA],.inl ⟨hd,L,by rw[hf];exact hcyc,rfl⟩⟩,hkp4.trans hk6⟩
 .have W2:=hgo hyd;refine xw2 hyd f1 ?_;refine hJJ (p-(k+1)) _ _ oO ⟨k+1,W2,rfl,sF1 f1,sF1 f2,sF1 hye,hG4,st2.next+1,sF1 hLn,⟨oO,oO,oO⟩,htH4,hkp4⟩
def Wt(m:Mp)(st:St)(r:LV)(st':St):Prop:=(∃ t R,r=.sl t R.length (EY R)/\sU (fc m m.g.es) (aL m.g.es) (aL m.g.es).length R)/\aA st st'
structure RfI(m:Mp)(st:St)(K:Nat)(fr:Frm)(st2:St):Prop where
 f1:fr 1=.pt st.next 0
 hG:st2.H st.next=.box 28 3 (mpL m)
 kp:aA st st2
 lt:st.next<st2.next
 rows:∃ t R,fr 3=.sl t R.length (EY R)/\sU (fc m m.g.es) (aL m.g.es) K R/\(t≠0/\st.next<t/\t<st2.next)/\st2.H t=.own 22 1 R.length
theorem RfI.fr{m:Mp}{st:St}{K:Nat}{fr c8:Frm}{st2 O4:St}(h:RfI m st K fr st2)(h3:c8 3=fr 3)(h1:c8 1=fr 1)(hk:aA st2 O4):RfI m st K c8 O4:=by obtain⟨f1,hG,kp,lt,t,R,f3,hL,⟨t0,t1,t2⟩,hH⟩:=h;have:=hk.next;exact⟨h1.trans f1,(hk.H _ lt).trans hG,kp.trans hk,oO,t,R,h3.trans f3,hL,⟨t0,t1,oO⟩,(hk.H _ t2).trans hH⟩
theorem ON(m:Mp)(h:bL m)(st:St)(hv:m.g.vs.length<=1000)(he:m.g.es.length<=1000):
 aB prog 74 [.ag (mpL m)] st (Wt m st):=by
 have hel:=aK m.g.es;have hdl:=oA m.g.es;have hP:=h.fc_per m.g.es (fun x hx=>hx);refine zN func74 ntmps74 [.tmp 2] ?_;refine xw0 ?_;refine eR fun M5=>?_;refine kM 3 22 1 sS ?_;refine aY 12 11 13 39 (m.g.es.length) (fun j fr st2=>fr 10=.sl 0 m.g.es.length (eds m.g.es)/\RfI m st (2*j) fr st2) ?_ ?_ ?_
 .exact⟨sS,sS,sS,(aA.new _ _).trans (aA.new _ _),by simp;omega,st.next+1,[],sS,.zero,⟨oO,oO,sS⟩,sS⟩
 .rintro j fr s2 dA ⟨f10,hI⟩ fi fn JJ hJJ;have hd:=aR m.g.es j dA;have o8:j*3<m.g.es.length*3:=oO;have W6:m.g.es.getD j ed0∈m.g.es:=by rw[eJ _ _ dA];exact aAE _
  have M5:=h.g.pos _ W6;have hg:=Nv m.g.es j dA;generalize hx:m.g.es.getD j ed0=x at *;obtain⟨id,a,b⟩:=x;simp only at M5 hd hg;have w1:IntKind.u32.wrap (2*id)=2*id:=wrap_u32' _ oO oO;have w2:IntKind.u32.wrap (2*id+2)=2*id+2:=wrap_u32' _ oO oO;refine xw8 fi fn f10 hd hel o8 w1 w2 ?_;refine qL (fun n fr st2=>∃ e:Nat,e<=2/\n=2-e/\fr 6=u (2*id+e)/\fr 5=.pt s2.next 0/\fr 10=.sl 0 m.g.es.length (eds m.g.es)/\fr 12=i j/\fr 11=i m.g.es.length/\st2.H s2.next=.box 36 3 (edL ⟨id,a,b⟩)/\s2.next<st2.next/\RfI m st (2*j+e) fr st2) 2 ?_ ?_
  .exact⟨0,oO,oO,sS,sS,sF1 f10,sF1 fi,sF1 fn,sS,sS,hI.fr sS sS (aA.new _ _)⟩
  clear f10 fi fn hI fr;rintro n fr st2 ⟨e,u7,rfl,f6,f5,f10,f12,f11,hX,hXl,hI⟩ J2 hJ2;rcases aAM e 2 with he2|he2;rotate_left
  .clear hJ2;obtain rfl:e=2:=oO;refine xw5 f6 f5 hX w1 w2 ?_;exact hJJ _ _ (sF1 f12) (sF1 f11) ⟨sF1 f10,hI.fr sS sS (aA.refl _)⟩
  clear hJJ;have hK:2*j+e<(aL m.g.es).length:=oO;have hKd:(aL m.g.es).getD (2*j+e) 0=2*id+e:=by
   rcases aAM e 1 with h1|h1
   .obtain rfl:e=0:=oO;rw[Nat.add_zero,hg.1];omega
   .obtain rfl:e=1:=oO;rw[hg.2];rfl
  have hdin:2*id+(e:Int)∈aL m.g.es:=by rw[<- hKd,aW _ _ hK];exact aAE _
  have w3:IntKind.u32.wrap (2*id+e+1)=2*id+((e+1:Nat):Int):=by rw[wrap_u32' _ oO oO];omega
  have y9:2*id+(e:Int)<2*id+2:=oO;obtain⟨f1,hG,j8,hlo,t,R,f3,hL,⟨t0,t1,t2⟩,hH⟩:=hI;have hRl:=hL.len
  (refine xj8 f6 f5 hX w1 w2 f1 hG y9 ?_;intro J hJ)
  refine qE (SZ m h (2*id+e) _ hv he) sS ?_;rintro r s3 ⟨⟨c,rfl,hc⟩,o8⟩;rcases hc with⟨_,L,hc,rfl⟩|⟨x9,_⟩;rotate_left
  .exact absurd hdin x9
  have r8:=(h.cyc_le hdin hc).2;obtain⟨Lr,hLr⟩:=lS.head hc;obtain⟨nr,hnr⟩:=IF L hc.ne;have r9:(nrm L).length=L.length:=cA L;have hc':=hc;rw[<- hKd]at hc';have hld:=Sz hP (lY h.g.ids) (h.fc_dart _) hK hc';rw[hKd]at hld;have hL0:0<(nrm L).length:=by rw[hnr];simp
  have hn3:=o8.next;have gX:=(o8.H _ hXl).trans hX;have gH:=(o8.H _ t2).trans hH;have m1:¬t=s3.next:=oO;have m5:¬s2.next=t:=by rintro rfl;rw[hX]at hH;cases hH
  by_cases hs:Li (fc m m.g.es) (aL m.g.es) (2*j+e) (2*id+e)
  .have hmn:¬mn L=2*id+e:=fun e1=>(hld.2 e1) hs;have hL2:=sU.seen hL hK (by rw[hKd];exact hs);refine VT hJ f6 hnr hmn hL0 w3 ?_;exact hJ2 (2-(e+1)) _ _ oO ⟨e+1,oO,rfl,sS,sF1 f5,sF1 f10,sF1 f12,sF1 f11,gX,oO,sF1 f1,(o8.H _ hlo).trans hG,j8.trans o8,oO,t,R,sF1 f3,hL2,⟨t0,t1,oO⟩,gH⟩
  .have hmn:=hld.1 hs;have hnL:nrm L=L:=yJ hLr hmn;have hL2:=sU.lead hL hK (by rw[hKd];exact hs) hc';rw[hnL];subst hLr
   (repeat' (first|apply qS|(apply qC;simp[f6,w3,f3,gH,t0,m1])|((first|(refine zE ?_;intro J hJ)|(apply cI));simp[f6,w3,f3,gH,t0,m1];(repeat refine ca ?_);(refine zJ hJ ?_;clear hJ J))))
   exact hJ2 (2-(e+1)) _ _ oO ⟨e+1,oO,rfl,sS,sF1 f5,sF1 f10,sF1 f12,sF1 f11,by rw[bY,aAa (by simp only[bH,aG];omega),bQ,aAa m5,bY,aAa oO];exact gX,by simp;omega,sF1 f1,by rw[bY,aAa (by simp only[bH,aG];omega),bQ,aAa oO,bY,aAa oO];exact(o8.H _ hlo).trans hG,(((j8.trans o8).trans (aA.new _ _)).set oO _).trans (aA.new _ _),by simp;omega,s3.next+1,R++[(2*id+e)::Lr],sS,hL2,⟨oO,oO,sS⟩,sS⟩
 .rintro fr st2 ⟨f10,hI⟩;obtain⟨t,R,f3,hL,_⟩:=hI.rows;refine xw1 f3 ?_;exact⟨⟨t,R,rfl,by rw[hdl];exact hL⟩,hI.kp⟩
noncomputable def gn(m:Mp):Nat:=(2*ncl (Reach m.g.es) m.g.vs+m.g.es.length-(alone m.g+m.g.vs.length+ncl (Orb (fc m m.g.es)) (aL m.g.es))) / 2
theorem bL.gn{m:Mp}(h:bL m):2*ncl (Reach m.g.es) m.g.vs+m.g.es.length=2*gn m+alone m.g+m.g.vs.length+ncl (Orb (fc m m.g.es)) (aL m.g.es):=by
 obtain⟨k,hk⟩:=h.euler;have:Aw.gn m=k:=by unfold Aw.gn;omega
 omega
theorem OV(es:List Ed)(v:Int):(ends es v).length=0↔nbr es v=[]:=by rw[aBt,rU]
theorem Yu(m:Mp)(h:bL m)(st:St)(hv:m.g.vs.length<=1000)(he:m.g.es.length<=1000):
 aB prog 38 [.ag (mpL m)] st fun r st'=>r=i (2*gn m)/\aA st st':=by
 have hP:=h.fc_per m.g.es (fun x hx=>hx);have hgn:=h.gn;have hal:alone m.g<=m.g.vs.length:=aEq;have hdl:=oA m.g.es;have hid:JL m.g.es:=fun x hx=>by have:=h.g.pos x hx;omega
 refine zN func38 ntmps38 [.tmp 2] ?_;refine xw0 ?_;refine aY 10 9 11 22 (m.g.vs.length) (fun j fr st2=>fr 1=.pt st.next 0/\fr 8=.sl 0 m.g.vs.length (us m.g.vs)/\fr 3=i ((m.g.vs.take j).countP fun v=>decide (nbr m.g.es v=[]):Nat)/\st2.H st.next=.box 28 3 (mpL m)/\aA st st2/\st.next<st2.next) ?_ ?_ ?_
 .exact⟨sS,sS,sS,sS,aA.new _ _,sS⟩
 .rintro j fr st2 dA ⟨f1,f8,f3,hG,j8,X3⟩ fi fn JJ hJJ;have hd:=qG m.g.vs j dA;have hct:=Ju (fun v=>decide (nbr m.g.es v=[])) m.g.vs j dA;have u7:(m.g.vs.take j).countP (fun v=>decide (nbr m.g.es v=[]))<=j:=aBa aEq (by simp;omega);generalize m.g.vs.getD j 0=v at *;generalize (m.g.vs.take j).countP (fun v=>decide (nbr m.g.es v=[]))=c at *
  (refine xj7 f1 f8 fi fn hd hG dA ?_;intro J hJ)
  refine qE (uT m.g v _ he hid) sS ?_;rintro r s3 ⟨⟨t,rfl⟩,o8⟩;have hn3:=o8.next;have e0:=OV m.g.es v;have hw:=qN c oO;by_cases h0:nbr m.g.es v=[]
  .have e1:=e0.2 h0;rw[aAj (by simpa using h0)]at hct;refine wJ hJ e1 f3 hw ?_;exact hJJ _ _ (sF1 fi) (sF1 fn) ⟨sF1 f1,sF1 f8,sF1 hct,(o8.H _ X3).trans hG,j8.trans o8,oO⟩
  .have e1:¬(ends m.g.es v).length=0:=fun e=>h0 (e0.1 e);rw[aAa (by simpa using h0)]at hct;generalize (ends m.g.es v).length=el at *;refine vP hJ e1 f3 ?_;exact hJJ _ _ (sF1 fi) (sF1 fn) ⟨sF1 f1,sF1 f8,sF2 hct f3,(o8.H _ X3).trans hG,j8.trans o8,oO⟩
 rintro fr st2 ⟨f1,f8,f3,hG,j8,X3⟩;rw[aAU]at f3;have f3':fr 3=i (alone m.g):=f3;clear f3;refine xw0 ?_
 (refine zS [] [st.next] [0,2,10,14,16,18,20,24,26,28,30,34,4,6,8,12,22,32,36,38,40,42] ?_;intro J hJ;simp[f1,f3',hG])
 refine qD (NU m.g _ h.g.toGood hv he) sS ?_;rintro r s1 ⟨⟨t,R,rfl,hR⟩,j7⟩;have N6:=j7.next;have X7:=(j7.H st.next oO).trans hG;refine⟨fun _=>by simp[X7,hG],?_⟩;have hRn:=hR.all;have hRl:=hR.len;generalize R.length=p at *;generalize alone m.g=al at *;have w1:IntKind.i64.wrap (2*(p:Int))=2*p:=zW;have w2:IntKind.i64.wrap (2*(p:Int)-al)=2*p-al:=zW;have w3:IntKind.i64.wrap (2*(p:Int)-al-m.g.vs.length)=2*p-al-m.g.vs.length:=zW;have w4:IntKind.i64.wrap (2*(p:Int)-al-m.g.vs.length+m.g.es.length)=2*p-al-m.g.vs.length+m.g.es.length:=zW
 (apply bJ;simp[X7,hG,f1,f3',w1,w2,w3,w4])
 refine qD (ON m h _ hv he) sS ?_;rintro r s3 ⟨⟨t3,F,rfl,hF⟩,o8⟩;have hG3:=(o8.H st.next oO).trans X7;refine⟨fun _=>by simp[hG3,X7,hG],?_⟩;have hFn:=hF.all hP;have hFl:=hF.len;generalize F.length=f at *;have w5:IntKind.i64.wrap (2*(p:Int)-al-m.g.vs.length+m.g.es.length-f)=2*(gn m:Int):=zW
 (apply bJ;simp[hG3,X7,hG,w1,w2,w3,w4,w5,f1,f3'];(refine zJ hJ ?_;clear hJ J))
 refine xw0 ?_;exact(j8.trans j7).trans o8
section
variable {m:Mp} (h:bL m)
include h
end
def CC(m:Mp)(x y:Int):Prop:=x=y\/∃ v w,x∈ends m.g.es v/\y∈ends m.g.es w/\Reach m.g.es v w
theorem CC.eqv{m:Mp}(h:bL m):Eqv (CC m):=by
 refine⟨fun x=>.inl rfl,?_,?_⟩
 .rintro x y (rfl|⟨v,w,h1,h2,h3⟩)
  .exact .inl rfl
  .exact .inr ⟨w,v,h2,h1,h3.symm⟩
 .rintro x y z (rfl|⟨v,w,h1,h2,h3⟩) (rfl|⟨v',w',k1,k2,k3⟩)
  .exact .inl rfl
  .exact .inr ⟨v',w',k1,k2,k3⟩
  .exact .inr ⟨v,w,h1,h2,h3⟩
  .have:=dL h.g.ids h2 k1;subst this;exact .inr ⟨v,w',h1,k2,h3.trans k3⟩
theorem JN{C:Int->Int->Prop}(hC:Eqv C){l:List Int}:∀(t:List Int) (x:Int),x∈t->(∀ y∈t,∀ z∈t,C y z)->ncl C (t++l)=ncl C l+@ite Nat (∃ y∈l,C y x) (Classical.propDecidable _) 0 1
 |[],x,hx,_=>by grind
 |[z],x,hx,_=>by rw[aAk]at hx;subst hx;rfl
 |z::z'::t,x,hx,hall=>by
  have ih:=JN hC (l:=l) (z'::t) z' aAf (fun y hy w hw=>hall y (aAc _ hy) w (aAc _ hw));have hzx:C z' x:=hall z' sS x hx;rw[List.cons_append,aV ⟨z',sS,hall z' sS z sS⟩,ih]
  congr 1
  by_cases h1:∃ y∈l,C y z'
  .obtain⟨y,hy,hr⟩:=h1;rw[aAj ⟨y,hy,hr⟩,aAj ⟨y,hy,hC.trans hr hzx⟩]
  .rw[aAa h1,aAa];rintro⟨y,hy,hr⟩;exact h1 ⟨y,hy,hC.trans hr (hC.symm hzx)⟩
theorem Gg{R C:Int->Int->Prop}(hC:Eqv C):∀(L:List (Int×List Int)),(∀ p∈L,∀ q∈L,∀ x∈p.2,∀ y∈q.2,(C x y↔R p.1 q.1))->(∀ p∈L,R p.1 p.1)->L.Pairwise (fun p q=>(p.2=[]\/q.2=[])->¬R q.1 p.1)->
 ncl R (L.map (·.1))=ncl C (L.map (·.2)).flatten+(L.filter fun p=>decide (p.2=[])).length
 |[],_,_,_=>rfl
 |(v,t)::L,h1,h3,h2=>by
  rw[aBf]at h2;have ih:=Gg hC L (fun p hp q hq=>h1 p (aAc _ hp) q (aAc _ hq)) (fun p hp=>h3 p (aAc _ hp)) h2.2;simp only[aAm,List.flatten_cons];by_cases ht:t=[]
  .grind [aM]
  .obtain⟨x,hx⟩:=aAP t ht;have N5:(v,t)∈(v,t)::L:=aAf;rw[JN hC t x hx (fun y hy z hz=>(h1 _ N5 _ N5 y hy z hz).2 (h3 _ N5))];have hf:((v,t)::L).filter (fun p=>decide (p.2=[]))=L.filter (fun p=>decide (p.2=[])):=by rw[aDH,aAa (by grind)]
   rw[hf];by_cases he:∃ u∈L.map (·.1),R u v
   .rw[aV he,ih,aAj]
    .omega
    .obtain⟨u,hu,hr⟩:=he;obtain⟨q,hq,rfl⟩:=aAi.1 hu;have hqn:q.2≠[]:=fun e=>h2.1 q hq (.inr e) hr;obtain⟨y,hy⟩:=aAP q.2 hqn;exact⟨y,aAT.2 ⟨q.2,aAi.2 ⟨q,hq,rfl⟩,hy⟩,(h1 q (aAc _ hq) _ N5 y hy x hx).2 hr⟩
   .rw[aM he,ih,aAa]
    .omega
    .rintro⟨y,hy,hr⟩;obtain⟨s,hs,hys⟩:=aAT.1 hy;obtain⟨q,hq,rfl⟩:=aAi.1 hs;exact he ⟨q.1,aAi.2 ⟨q,hq,rfl⟩,(h1 q (aAc _ hq) _ N5 y hys x hx).1 hr⟩
theorem yE{es:List Ed}{v w:Int}(hn:nbr es v=[])(h:Reach es v w):v=w:=by
 induction h with
 |refl=>rfl
 |step _ hw ih=>grind
section
variable {m:Mp} (h:bL m)
include h
theorem bL.ncl_parts:ncl (Reach m.g.es) m.g.vs=ncl (CC m) (aL m.g.es)+alone m.g:=by
 have W9:∀ p∈m.g.vs.zip m.rots,∃ k,∃ h1:k<m.g.vs.length,∃ h2:k<m.rots.length,p=(m.g.vs[k],m.rots[k]):=by intro p hp;obtain⟨k,hk,rfl⟩:=aAA hp;rw[aEh]at hk;exact⟨k,oO,oO,by grind⟩
 have U6:∀ k (h1:k<m.g.vs.length) (h2:k<m.rots.length),Fp m.g.es m.g.vs[k] m.rots[k]:=fun k h1 h2=>by
  have:=h.ok k h1
  grind
 have key:=Gg (R:=Reach m.g.es) (CC.eqv h) (m.g.vs.zip m.rots) (fun p hp q hq x hx y hy=>?_) (fun p _=>.refl) ?_
 .rw[aEe (by rw[h.len];omega),aDI (by rw[h.len];omega)]at key;rw[key,nM (CC.eqv h) h.kU]
  congr 1
  have e1:((m.g.vs.zip m.rots).filter fun p=>decide (p.2=[])).length=(m.rots.filter fun t=>decide (t=[])).length:=by
   have e2:m.rots.filter (fun t=>decide (t=[]))=((m.g.vs.zip m.rots).filter fun p=>decide (p.2=[])).map (·.2):=by
    conv=>lhs;rw[<- aDI (l₁:=m.g.vs) (l₂:=m.rots) (by rw[h.len];omega)]
    rw[List.filter_map];rfl
   rw[e2,aAD]
  have e3:=filter_eq (fun t=>decide (t=[])) (fun v=>!decide (nbr m.g.es v=[])) m.rots m.g.vs h.len fun k h1 h2=>by
   have hk:=U6 k h2 h1;have e4:m.rots[k]=[]↔nbr m.g.es m.g.vs[k]=[]:=by
    rw[<- rU];constructor
    .intro h3;have:=hk.1;simp_all
    .intro h3;have:=hk.1;simp_all
   grind
  have e5:alone m.g+m.g.vs.countP (fun v=>!decide (nbr m.g.es v=[]))=m.g.vs.length:=by
   unfold alone;rw[List.length_eq_countP_add_countP (fun v=>decide (nbr m.g.es v=[])) (l:=m.g.vs)]
   congr 1
   congr 1
   funext v
   simp
  have:=h.len;omega
 .obtain⟨j,j1,j2,rfl⟩:=W9 p hp;obtain⟨k,k1,k2,rfl⟩:=W9 q hq;have U9:=(U6 j j1 j2).1.mem_iff.1 hx;have hy':=(U6 k k1 k2).1.mem_iff.1 hy;constructor
  .rintro(rfl|⟨v,w,h1,h2,h3⟩)
   .rw[dL h.g.ids U9 hy'];exact .refl
   .rw[dL h.g.ids U9 h1,dL h.g.ids hy' h2];omega
  .intro hr;exact .inr ⟨_,_,U9,hy',hr⟩
 .rw[aAC];intro a b ha hb x8;rw[aEh]at ha hb;rw[aDF,aDF];simp only;intro he hr;have dA:=aAC.1 h.g.rise a b oO oO x8;rcases he with he|he
  .have h1:=(U6 a oO oO).1;rw[he]at h1;have:=yE ((rU _ _).1 h1.symm.eq_nil) hr.symm;omega
  .have h1:=(U6 b oO oO).1;rw[he]at h1;have:=yE ((rU _ _).1 h1.symm.eq_nil) hr;omega
variable {R:List (List Int)} (hR:LI m R) (hb:∀ x∈m.g.es,tix R (2*x.id)≠tix R (2*x.id+1))
include hR hb
end
section
variable {m:Mp} (h:bL m)
include h
end
section
variable {m:Mp} (h:bL m)
include h
theorem bL.it_v{v d:Int}(hd:d∈ends m.g.es v):∀ n,it (sg m) n d∈ends m.g.es v
 |0=>hd
 |n+1=>by rw[bT];exact h.sg_at_v (bL.it_v hd n)
theorem bL.sg_orb{v d e:Int}(hd:d∈ends m.g.es v)(he:e∈ends m.g.es v):∃ n,it (sg m) n d=e:=by
 obtain⟨t,ht,hdt⟩:=h.turn_of (nP hd);have het:e∈t:=by obtain⟨k,_,_,h1,_⟩:=h.turn ht;have:=dL h.g.ids (h1.mem_iff.1 hdt) hd;rw[this]at h1;exact h1.mem_iff.2 he
 have hit:∀ n,it (sg m) n d=it (nx t) n d/\it (sg m) n d∈t:=fun n=>by
  induction n with
  |zero=>exact⟨rfl,hdt⟩
  |succ n ih=>rw[bT,bT,<- ih.1];exact⟨BQ h ht ih.2,h.sg_mem ht ih.2⟩
 obtain⟨n,hn⟩:=JT (h.nodup ht) hdt het;exact⟨n,by rw[(hit n).1,hn]⟩
end
theorem AG{R R':Int->Int->Prop}{κ:Int->Int}:∀ {l:List Int},(∀ x∈l,∀ y∈l,R' (κ x) (κ y)↔R x y)->ncl R' (l.map κ)=ncl R l
 |[],_=>rfl
 |x::l,h=>by
  have ih:=AG (l:=l) fun y hy z hz=>h y (aAc _ hy) z (aAc _ hz);rw[aAm];by_cases k:∃ y∈l,R y x
  .rw[aV k,aV,ih];obtain⟨y,hy,k⟩:=k;exact⟨κ y,aAt hy,(h y (aAc _ hy) x aAf).2 k⟩
  .rw[aM k,aM,ih];rintro⟨z,hz,q⟩;obtain⟨y,hy,rfl⟩:=aAi.1 hz;exact k ⟨y,hy,(h y (aAc _ hy) x aAf).1 q⟩
section
variable {D:List Int} {f f' κ:Int->Int} (hf:dB D f) (hk:∀ x∈D,∀ y∈D,κ x=κ y->x=y) (W4:∀ x∈D,f' (κ x)=κ (f x))
include hf hk W4
theorem AR{x y:Int}(hx:x∈D)(hy:y∈D):Orb f' (κ x) (κ y)↔Orb f x y:=by
 have key:∀ n,it f' n (κ x)=κ (it f n x)/\it f n x∈D:=fun n=>by
  induction n with
  |zero=>exact⟨rfl,hx⟩
  |succ n ih=>rw[bT,bT,ih.1];exact⟨W4 _ ih.2,hf.mem _ ih.2⟩
 exact⟨fun⟨n,h⟩=>⟨n,hk _ (key n).2 _ hy ((key n).1.symm.trans h)⟩,fun⟨n,h⟩=>⟨n,by rw[(key n).1,h]⟩⟩
theorem LD:∀ {P:List (Int×Int)},fV D P->∀ x∈D,swP f' (P.map fun p=>(κ p.1,κ p.2)) (κ x)=κ (swP f P x)
 |[],_,x,hx=>W4 x hx
 |p::P,hP,x,hx=>by
  have hp:=hP p aAf;show swP f' _ (Eu.sw (κ p.1) (κ p.2) (κ x))=κ (swP f P (Eu.sw p.1 p.2 x));have:Eu.sw (κ p.1) (κ p.2) (κ x)=κ (Eu.sw p.1 p.2 x)/\Eu.sw p.1 p.2 x∈D:=by
   have:=hk x hx p.1 hp.1;have:=hk x hx p.2 hp.2.1;unfold Eu.sw
   grind
  rw[this.1];exact LD (fun q hq=>hP q (aAc _ hq)) _ this.2
theorem MO:∀ {P:List (Int×Int)},fV D P->∀ x∈D,∀ y∈D,(mgP (Orb f') (P.map fun p=>(κ p.1,κ p.2)) (κ x) (κ y)↔mgP (Orb f) P x y)
 |[],_,x,hx,y,hy=>AR hf hk W4 hx hy
 |p::P,hP,x,hx,y,hy=>by have ih:=MO (P:=P) fun q hq=>hP q (aAc _ hq);have hp:=hP p aAf;show Mg _ (κ p.1) (κ p.2) _ _↔Mg _ _ _ _ _;unfold Mg;rw[ih x hx y hy,ih x hx _ hp.1,ih _ hp.2.1 y hy,ih x hx _ hp.2.1,ih _ hp.1 y hy]
theorem Pq{P:List (Int×Int)}(hP:fV D P)(h:Flat D f P):Flat (D.map κ) f' (P.map fun p=>(κ p.1,κ p.2)):=by have hq:=lM hf P fun q hq=>⟨(hP q hq).1,(hP q hq).2.1⟩;unfold Flat at *;rw[AG (MO hf hk W4 hP),AG fun x hx y hy=>AR hf hk W4 hx hy,AG fun x hx y hy=>AR hq hk (LD hf hk W4 hP) hx hy,aAD];exact h
end
theorem YP{E:List Ed}(hB:BlE E){D:List Int}{s:Int->Int}(hs:dB D s)(δ:Int×Int->Int)(hD:∀ p:Int×Int,(∃ e∈E,prE e=unA p)->δ p∈D)(hi:∀ p q:Int×Int,(∃ e∈E,prE e=unA p)->(∃ e∈E,prE e=unA q)->δ p=δ q->p=q)
 (ho:∀ p q:Int×Int,(∃ e∈E,prE e=unA p)->(∃ e∈E,prE e=unA q)->(Orb s (δ p) (δ q)↔p.1=q.1)) (hf:Flat D s (E.map fun e=>(δ (e.a,e.b),δ (e.b,e.a)))):∃ s' D',PlD E s' D'/\∀ x∈D',x∈flP (tws E)\/x<0:=by
 have bd:∀ p:Int×Int,(∃ e∈E,prE e=unA p)->(0<=p.1/\p.1<4194304)/\(0<=p.2/\p.2<4194304)/\p.1≠p.2:=fun p ⟨e,he,hp⟩=>by
  have h1:=fR (x:=e.a) (y:=e.b) he rfl;have h2:=hB.bnd _ h1.1;have h3:=hB.bnd _ h1.2;have h4:=hB.ne e he;rcases bG hp with⟨e1,e2⟩|⟨e1,e2⟩
  .rw[<- e1,<- e2];exact⟨h2,h3,h4⟩
  .rw[<- e1,<- e2];exact⟨h3,h2,aCE h4⟩
 have ea:∀ e∈E,(∃ f∈E,prE f=unA (e.a,e.b))/\∃ f∈E,prE f=unA (e.b,e.a):=fun e he=>⟨⟨e,he,rfl⟩,e,he,aI _ _⟩;obtain⟨κ,k1,k2⟩:∃ κ:Int->Int,(∀ p:Int×Int,(∃ e∈E,prE e=unA p)->κ (δ p)=cd p)/\∀ d,(¬∃ p:Int×Int,(∃ e∈E,prE e=unA p)/\δ p=d)->κ d=if 0<=d then -2*d-1 else 2*d:=by
  refine⟨fun d=>open Classical in if h:∃ p:Int×Int,(∃ e∈E,prE e=unA p)/\δ p=d then cd h.choose else if 0<=d then -2*d-1 else 2*d,fun p hp=>?_,fun d hd=>?_⟩
  .have h:∃ q:Int×Int,(∃ e∈E,prE e=unA q)/\δ q=δ p:=⟨p,hp,rfl⟩;simp only[dif_pos h];rw[hi _ _ h.choose_spec.1 hp h.choose_spec.2]
  .simp only[dif_neg hd]
 have kc:∀ d,(∃ p:Int×Int,(∃ e∈E,prE e=unA p)/\δ p=d/\κ d=cd p/\0<=cd p)\/(κ d=(if 0<=d then -2*d-1 else 2*d)/\κ d<0):=fun d=>by
  by_cases h:∃ p:Int×Int,(∃ e∈E,prE e=unA p)/\δ p=d
  .obtain⟨p,hp,rfl⟩:=h;have:=bd p hp;exact .inl ⟨p,hp,rfl,k1 p hp,by unfold cd;omega⟩
  .refine .inr ⟨k2 d h,?_⟩;rw[k2 d h];split<;>omega
 have kinj:∀ x∈D,∀ y∈D,κ x=κ y->x=y:=fun x _ y _ e=>by
  rcases kc x with⟨p,hp,rfl,h1,h2⟩|⟨h1,h2⟩<;>rcases kc y with⟨q,hq,rfl,h3,h4⟩|⟨h3,h4⟩
  .rw[iJ (bd p hp).2.1 (bd q hq).2.1 (h1.symm.trans (e.trans h3))]
  .omega
  .omega
  .rw[h1,h3]at e
   split at e<;>split at e<;>omega
 obtain⟨s',s1,s2⟩:∃ s':Int->Int,(∀ d∈D,s' (κ d)=κ (s d))/\∀ x,x∉D.map κ->s' x=x:=by
  refine⟨fun x=>open Classical in if h:∃ d∈D,κ d=x then κ (s h.choose)else x,fun d hd=>?_,fun x hx=>?_⟩
  .have h:∃ e∈D,κ e=κ d:=⟨d,hd,rfl⟩;simp only[dif_pos h];rw[kinj _ h.choose_spec.1 d hd h.choose_spec.2]
  .exact dif_neg fun⟨d,hd,e⟩=>hx (aAi.2 ⟨d,hd,e⟩)
 have hPin:fV D (E.map fun e=>(δ (e.a,e.b),δ (e.b,e.a))):=fun q hq=>by obtain⟨e,he,rfl⟩:=aAi.1 hq;exact⟨hD _ (ea e he).1,hD _ (ea e he).2,fun k=>hB.ne e he (congrArg Prod.fst (hi _ _ (ea e he).1 (ea e he).2 k))⟩
 refine⟨s',D.map κ,⟨hB,⟨fun x hx=>?_,fun x y e=>?_,s2⟩,fun p hp=>?_,fun p q hp hq=>?_,?_⟩,fun x hx=>?_⟩
 .obtain⟨d,hd,rfl⟩:=aAi.1 hx;rw[s1 d hd];exact aAt (hs.mem d hd)
 .by_cases hx:x∈D.map κ<;>by_cases hy:y∈D.map κ
  .obtain⟨d,hd,rfl⟩:=aAi.1 hx;obtain⟨d',Q6,rfl⟩:=aAi.1 hy;rw[s1 d hd,s1 d' Q6]at e;rw[hs.inj _ _ (kinj _ (hs.mem d hd) _ (hs.mem d' Q6) e)]
  .obtain⟨d,hd,rfl⟩:=aAi.1 hx;rw[s1 d hd,s2 y hy]at e;exact absurd (e ▸ aAt (hs.mem d hd)) hy
  .obtain⟨d,hd,rfl⟩:=aAi.1 hy;rw[s1 d hd,s2 x hx]at e;exact absurd (e ▸ aAt (hs.mem d hd)) hx
  .rw[s2 x hx,s2 y hy]at e;exact e
 .exact aAi.2 ⟨δ p,hD p hp,k1 p hp⟩
 .rw[<- k1 p hp,<- k1 q hq,AR hs kinj s1 (hD p hp) (hD q hq)];exact ho p q hp hq
 .have:=Pq hs kinj s1 hPin hf;have e:(E.map fun e=>(δ (e.a,e.b),δ (e.b,e.a))).map (fun p=>(κ p.1,κ p.2))=tws E:=by unfold tws;rw[aAW];exact aAQ fun e he=>by simp only[Function.comp];rw[k1 _ (ea e he).1,k1 _ (ea e he).2]
  rwa [e]at this
 .obtain⟨d,hd,rfl⟩:=aAi.1 hx;rcases kc d with⟨p,⟨e,he,hp⟩,_,h1,_⟩|⟨_,h⟩
  .left;rw[h1];refine dG.2 ⟨_,aAt he,?_⟩;rcases bG hp with⟨e1,e2⟩|⟨e1,e2⟩
   .exact .inl (by rw[e1,e2])
   .exact .inr (by rw[e1,e2])
  .exact .inr h
def prD(es:List Ed):List (Int×Int):=es.map fun e=>(2*e.id,2*e.id+1)
theorem Ml(es:List Ed):flP (prD es)=aL es:=by unfold flP prD aL;rw[List.flatMap_map]
section
variable {m:Mp} (h:bL m)
include h
theorem bL.sg_permOn:dB (aL m.g.es) (sg m):=⟨fun _=>h.sg_dart,fun _ _=>h.sg_inj,fun _=>h.sg_id⟩
theorem bL.prD_in{E:List Ed}(hE:∀ e∈E,e∈m.g.es):fV (aL m.g.es) (prD E):=fun p hp=>by obtain⟨e,he,rfl⟩:=aAi.1 hp;exact⟨cZ.2 ⟨e,hE e he,.inl rfl⟩,cZ.2 ⟨e,hE e he,.inr rfl⟩,by simp only;omega⟩
theorem bL.at_orb{v d e:Int}(hd:d∈ends m.g.es v)(he:e∈ends m.g.es v):Orb (sg m) d e:=h.sg_orb hd he
theorem bL.flat(hg:Aw.gn m=0):Flat (aL m.g.es) (sg m) (prD m.g.es):=by
 have hn:(flP (prD m.g.es)).Nodup:=by rw[Ml];exact gD (lY h.g.ids)
 have h1:=h.gn;have h2:=h.ncl_sg;have h3:=h.ncl_parts;have hE:=dR h.sg_permOn.per.eqv (prD m.g.es);have e1:swP (sg m) (prD m.g.es)=fc m m.g.es:=funext fun d=>by
  unfold fc;by_cases k:d∈aL m.g.es
  .rw[BG k];obtain⟨x,hx,e⟩:=cZ.1 k;have:=oM (sg m) hn (2*x.id,2*x.id+1) (aAi.2 ⟨x,hx,rfl⟩);unfold tw;rcases e with rfl|rfl
   .rw[this.1,aAj oO]
   .rw[this.2,aAa oO];congr 1;omega
  .rw[uI k,Ab];rintro p hp;obtain⟨x,hx,rfl⟩:=aAi.1 hp;exact⟨fun e=>k (cZ.2 ⟨x,hx,.inl e⟩),fun e=>k (cZ.2 ⟨x,hx,.inr e⟩)⟩
 have e2:ncl (mgP (Orb (sg m)) (prD m.g.es)) (aL m.g.es)=ncl (CC m) (aL m.g.es):=by
  refine dI fun x hx y hy=>⟨Ax (CC.eqv h) (fun x y k=>?_) (fun p hp=>?_) x y,fun k=>?_⟩
  .by_cases q:x∈aL m.g.es
   .obtain⟨n,rfl⟩:=k;obtain⟨v,hv,_⟩:=GL q;exact .inr ⟨v,v,hv,h.it_v hv n,.refl⟩
   .obtain⟨n,rfl⟩:=k;have:it (sg m) n x=x:=by
     induction n with
     |zero=>rfl
     |succ n ih=>rw[bT,ih];exact h.sg_id q
    exact .inl this.symm
  .obtain⟨x,hx,rfl⟩:=aAi.1 hp;exact .inr ⟨x.a,x.b,cP.2 ⟨x,hx,.inl ⟨rfl,rfl⟩⟩,cP.2 ⟨x,hx,.inr ⟨rfl,rfl⟩⟩,.step .refl (cJ.2 ⟨x,hx,.inl ⟨rfl,rfl⟩⟩)⟩
  .rcases k with rfl|⟨v,w,kv,kw,r⟩
   .exact hE.refl _
   .have:∀ y,y∈ends m.g.es w->mgP (Orb (sg m)) (prD m.g.es) x y:=by
     clear kw hy;induction r with
     |refl=>exact fun y ky=>fZ _ (h.at_orb kv ky)
     |@step u w r hw ih=>
      intro y ky;obtain⟨e,he,k⟩:=cJ.1 hw;have hm:=jV h.sg_permOn.per.eqv (prD m.g.es) (p:=(2*e.id,2*e.id+1)) (aAi.2 ⟨e,he,rfl⟩);rcases k with⟨k1,k2⟩|⟨k1,k2⟩
      .have a1:=ih (2*e.id) (cP.2 ⟨e,he,.inl ⟨k1,rfl⟩⟩);exact hE.trans (hE.trans a1 hm) (fZ _ (h.at_orb (cP.2 ⟨e,he,.inr ⟨k2,rfl⟩⟩) ky))
      .have a1:=ih (2*e.id+1) (cP.2 ⟨e,he,.inr ⟨k1,rfl⟩⟩);exact hE.trans (hE.trans a1 (hE.symm hm)) (fZ _ (h.at_orb (cP.2 ⟨e,he,.inl ⟨k2,rfl⟩⟩) ky))
    exact this y kw
 unfold Flat;rw[e1,e2,show(prD m.g.es).length=m.g.es.length by unfold prD;rw[aAD]];omega
theorem bL.plE(hg:Aw.gn m=0){E:List Ed}(hE:∀ e∈E,e∈m.g.es)(hids:E.Nodup)(hB:BlE E):∃ s,PlE E s:=by
 have hflat:=h.flat hg;have hn:(flP (prD m.g.es)).Nodup:=by rw[Ml];exact gD (lY h.g.ids)
 have hes:m.g.es.Nodup:=h.g.ids.imp fun k e=>by rw[e]at k;omega
 obtain⟨R,hR⟩:∃ R,m.g.es.Perm (R++E):=by
  refine⟨m.g.es.filter fun e=>decide (e∉E),(aAZ hes ?_).2 fun e=>?_⟩
  .grind
  .grind
 have hfl:=CR h.sg_permOn (Q:=prD R) (P:=prD E) (fun p hp=>h.prD_in (fun e he=>he) p (by
  have:=(hR.map fun e:Ed=>(2*e.id,2*e.id+1)).mem_iff (a:=p);rw[aAv]at this
  exact this.2 hp)) (Aw.kU h.sg_permOn hn (by have:=hR.map fun e:Ed=>(2*e.id,2*e.id+1);rw[aAv]at this;exact this) hflat)
 have huniq:∀ e∈E,∀ f∈E,prE e=prE f->e=f:=fun e he f hf k=>rL hB.sim he hf k;obtain⟨δ,d1⟩:∃ δ:Int×Int->Int,∀ e∈E,δ (e.a,e.b)=2*e.id/\δ (e.b,e.a)=2*e.id+1:=by
  refine⟨fun p=>match E.find? (fun e=>decide (prE e=unA p)) with
   |some e=>if p.1=e.a then 2*e.id else 2*e.id+1
   |none=>0,fun e he=>?_⟩
  have hf:∀ p:Int×Int,prE e=unA p->E.find? (fun e=>decide (prE e=unA p))=some e:=fun p hp=>by
   cases hx:E.find? (fun e=>decide (prE e=unA p)) with
   |none=>have:=aCT.1 hx e he;simp[hp]at this
   |some f=>have h1:=aCS hx;simp only[aBA]at h1;rw[huniq f (aBY hx) e he (h1.trans hp.symm)]
  simp only;rw[hf _ rfl,hf (e.b,e.a) (aI _ _)];simp only;rw[aAa (aCE (hB.ne e he))];exact⟨aAj trivial,rfl⟩
 have hcd:∀ p:Int×Int,(∃ e∈E,prE e=unA p)->∃ e∈E,(p=(e.a,e.b)/\δ p=2*e.id\/p=(e.b,e.a)/\δ p=2*e.id+1)/\δ p∈ends m.g.es p.1:=fun p ⟨e,he,q⟩=>by
  obtain⟨u,v⟩:=p;rcases bG q with⟨q1,q2⟩|⟨q1,q2⟩
  .subst q1 q2;exact⟨e,he,.inl ⟨rfl,(d1 e he).1⟩,cP.2 ⟨e,hE e he,.inl ⟨rfl,(d1 e he).1⟩⟩⟩
  .subst q1 q2;exact⟨e,he,.inr ⟨rfl,(d1 e he).2⟩,cP.2 ⟨e,hE e he,.inr ⟨rfl,(d1 e he).2⟩⟩⟩
 obtain⟨s,D,h1,_⟩:=YP hB h.sg_permOn δ (fun p hp=>by obtain⟨e,he,_,k⟩:=hcd p hp;exact nP k) (fun p q hp hq k=>by
  obtain⟨e,he,k1,_⟩:=hcd p hp;obtain⟨f,hf,k2,_⟩:=hcd q hq;have:e.id=f.id:=oO;have:=id_eq h.g.ids (hE e he) (hE f hf) this;subst this;rcases k1 with⟨r1,r2⟩|⟨r1,r2⟩<;>rcases k2 with⟨t1,t2⟩|⟨t1,t2⟩
  .rw[r1,t1]
  .omega
  .omega
  .rw[r1,t1]) (fun p q hp hq=>by
  obtain⟨e,he,_,k1⟩:=hcd p hp;obtain⟨f,hf,_,k2⟩:=hcd q hq;constructor
  .rintro⟨n,hn⟩;exact dL h.g.ids (h.it_v k1 n) (hn ▸ k2)
  .intro k
   exact h.at_orb k1 (k ▸ k2)) (by
  have e:E.map (fun e=>(δ (e.a,e.b),δ (e.b,e.a)))=prD E:=aAQ fun e he=>by rw[(d1 e he).1,(d1 e he).2]
  rw[e];exact hfl)
 exact⟨s,D,h1⟩
end
def Nx(s:Int->Int)(S:List Int)(d e:Int):Prop:=∃ k,it s k d=e/\e∈S/\∀ j,j<k->it s j d∉S
section
variable {s:Int->Int} {S S':List Int} {d e e' n c:Int}
theorem Nx.here(h:d∈S):Nx s S d d:=⟨0,rfl,h,fun j hj=>absurd hj (aDN j)⟩
theorem Nx.mem(h:Nx s S d e):e∈S:=by obtain⟨_,_,h,_⟩:=h;exact h
theorem Nx.orb(h:Nx s S d e):Orb s d e:=by obtain⟨k,h,_⟩:=h;exact⟨k,h⟩
theorem Nx.fn(h:Nx s S d e)(h':Nx s S d e'):e=e':=by
 obtain⟨k,a1,a2,a3⟩:=h;obtain⟨l,b1,b2,b3⟩:=h';rcases aCs k l with h|h|h
 .exact absurd (by rw[a1];exact a2) (b3 k h)
 .rw[<- a1,<- b1,h]
 .exact absurd (by rw[b1];exact b2) (a3 l h)
theorem Nx.of_mem(hd:d∈S)(h:Nx s S d e):e=d:=h.fn (.here hd)
theorem Nx.up(hd:d∉S)(h:Nx s S d e):Nx s S (s d) e:=by
 obtain⟨k,a1,a2,a3⟩:=h;cases k with
 |zero=>exact absurd (by rw[show d=e from a1];exact a2) hd
 |succ k=>exact⟨k,a1,a2,fun j hj=>a3 (j+1) oO⟩
theorem Nx.ex{a:Int}(h:Orb s d a)(ha:a∈S):∃ e,Nx s S d e:=by obtain⟨n,h⟩:=h;obtain⟨m,h1,h2⟩:=least (P:=fun k=>it s k d∈S) (n:=n) (by rw[h];exact ha);exact⟨_,m,rfl,h1,h2⟩
theorem Nx.loop(h:Nx s S (s d) d)(he:e∈S)(ho:Orb s d e):e=d:=by
 have hT:∀ n z,Nx s S z d->Nx s S (it s n z) d:=by
  intro n;induction n with
  |zero=>intro z hz;exact hz
  |succ n ih=>
   intro z hz;refine ih (s z) ?_;by_cases hm:z∈S
   .rw[<- hz.of_mem hm];exact h
   .exact hz.up hm
 obtain⟨n,hn⟩:=ho;have:=hT n d (.here h.mem);rw[hn]at this;exact(this.of_mem he).symm
theorem Nx.cmp(hi:∀ x y,s x=s y->x=y){z:Int}(h:Nx s S z e)(h':Nx s S d e):(∃ j,it s j z=d/\∀ i,i<j->it s i z∉S)\/∃ j,it s (j+1) d=z/\∀ i,i<j+1->it s i d∉S:=by
 obtain⟨k,a1,a2,a3⟩:=h;obtain⟨l,b1,b2,b3⟩:=h';by_cases hl:l<=k
 .refine .inl ⟨k-l,Fq hi l ?_,fun i hil=>a3 i oO⟩;rw[<- jT,show l+(k-l)=k by omega,a1,b1]
 .refine .inr ⟨l-k-1,Fq hi k ?_,fun i hil=>b3 i oO⟩;rw[<- jT,show k+(l-k-1+1)=l by omega,a1,b1]
theorem Nx.same(hS:∀ x,Orb s d x->(x∈S↔x∈S'))(h:Nx s S d e):Nx s S' d e:=by obtain⟨k,a1,a2,a3⟩:=h;exact⟨k,a1,(hS e ⟨k,a1⟩).1 a2,fun j hj h=>a3 j hj ((hS _ ⟨j,rfl⟩).2 h)⟩
end
section
variable {s:Int->Int} {S S':List Int} {n e0:Int} (hp:Per s) (hS:∀ x,Orb s n x->(x∈S'↔x∈S\/x=n)) (hn:n∉S) (h0:Nx s S n e0)
include hS h0
theorem Nx.back{d e:Int}(ho:Orb s n d)(h:Nx s S' d e):(e=n/\Nx s S d e0)\/(e≠n/\Nx s S d e):=by
 obtain⟨k,a1,a2,a3⟩:=h;have hb:∀ j,j<k->it s j d∉S:=fun j hj h=>a3 j hj ((hS _ (ho.trans ⟨j,rfl⟩)).2 (.inl h));by_cases he:e=n
 .refine .inl ⟨he,?_⟩;obtain⟨l,b1,b2,b3⟩:=h0;refine⟨l+k,by rw[jT,a1,he,b1],b2,fun j hj=>?_⟩;by_cases hjk:j<k
  .exact hb j hjk
  .have:it s j d=it s (j-k) n:=by rw[<- he,<- a1,<- jT];congr 1;omega
   rw[this];exact b3 _ oO
 .exact .inr ⟨he,k,a1,((hS e (ho.trans ⟨k,a1⟩)).1 a2).resolve_right he,hb⟩
include hp hn
theorem Nx.add_of:Nx s S' (s n) e0:=by
 have h1:Nx s S (s n) e0:=h0.up hn;have D3:Orb s n (s n):=Orb.step s n;have hm:n∈S':=(hS n (Orb.refl s n)).2 (.inr rfl);obtain⟨f,hf⟩:=Nx.ex (S:=S') (Orb.symm hp D3) hm;rcases Nx.back hS h0 D3 hf with⟨rfl,_⟩|⟨_,k⟩
 .have:=hf.loop ((hS e0 h0.orb).2 (.inl h0.mem)) h0.orb;exact absurd (this ▸ h0.mem) hn
 .rw[h1.fn k];exact hf
theorem Nx.add_at{c:Int}(hc:c∈S)(ho:Orb s n c)(h:Nx s S (s c) e0):Nx s S' (s c) n:=by
 have D3:Orb s n (s c):=ho.trans (Orb.step s c);have hm:n∈S':=(hS n (Orb.refl s n)).2 (.inr rfl);obtain⟨f,hf⟩:=Nx.ex (S:=S') (Orb.symm hp D3) hm;rcases Nx.back hS h0 D3 hf with⟨rfl,_⟩|⟨c7,k⟩
 .exact hf
 .have hfe:=h.fn k;subst hfe;exfalso;rcases Nx.cmp (fun x y=>hp.inj) h h0 with⟨j,j1,j2⟩|⟨j,j1,j2⟩
  .obtain⟨q,q1,q2,q3⟩:=hf;rcases aCs j q with h3|h3|h3
   .exact q3 j h3 (by rw[j1];exact hm)
   .rw[<- h3,j1]at q1;exact c7 q1.symm
   .exact j2 q h3 (by rw[q1];exact h0.mem)
  .have:it s j n=c:=by rw[bT]at j1;exact hp.inj j1
   exact j2 j oO (by rw[this];exact hc)
theorem Nx.add_other{c e:Int}(ho:Orb s n c)(h:Nx s S (s c) e)(he:e≠e0):Nx s S' (s c) e:=by
 have D3:Orb s n (s c):=ho.trans (Orb.step s c);have hm:n∈S':=(hS n (Orb.refl s n)).2 (.inr rfl);obtain⟨f,hf⟩:=Nx.ex (S:=S') (Orb.symm hp D3) hm;rcases Nx.back hS h0 D3 hf with⟨rfl,k⟩|⟨_,k⟩
 .exact absurd (h.fn k) he
 .rw[h.fn k];exact hf
end
theorem fG:∀ {l:List Int},l.Nodup->∀ {a b b':Int},(a,b)∈lnk l->(a,b')∈lnk l->b=b'
 |[],_,_,_,_,h,_=>by cases h
 |[_],_,_,_,_,h,_=>by cases h
 |x::y::l,hn,a,b,b',h,h'=>by
  obtain⟨h1,h2⟩:=aAq.1 hn;rcases aAe.1 h with e|h
  .injection e with e1 e2;rcases aAe.1 h' with e'|h'
   .injection e' with e3 e4;rw[e2,e4]
   .exact absurd (bF h').1 (by rw[e1];exact h1)
  .rcases aAe.1 h' with e'|h'
   .injection e' with e3 e4;exact absurd (bF h).1 (by rw[e3];exact h1)
   .exact fG h2 h h'
theorem rI{l:List Int}{a b:Int}:(a,b)∈lnk l↔(b,a)∈lnk l.reverse:=by
 rw[FI,aBm,aAi];constructor
 .intro h;exact⟨(a,b),h,rfl⟩
 .rintro⟨q,hq,e⟩;have:q=(a,b):=by rw[<- aBN q,e];rfl
  rw[<- this];exact hq
theorem xE{l:List Int}(hn:l.Nodup){a a' b:Int}(h:(a,b)∈lnk l)(h':(a',b)∈lnk l):a=a':=
 fG (l:=l.reverse) ((aBq l).nodup_iff.2 hn) (rI.1 h) (rI.1 h')
theorem jE{x:Int}:∀ {l:List Int} {a b:Int},(a,b)∈lnk (x::l)->b∈l
 |[],_,_,h=>by cases h
 |y::l,a,b,h=>by
  rcases aAe.1 h with e|h
  .injection e with _ e;rw[e];exact aAf
  .exact(bF h).2
theorem eX{y:Int}{l:List Int}{a b:Int}(h:(a,b)∈lnk (l++[y])):a∈l:=by have:=rI.1 h;rw[aCw,aCA,List.singleton_append]at this;simpa using jE this
theorem gF.perm{E:List Ed}{A B:List (Int×Int)}(h:gF E A)(hp:A.Perm B):gF E B:=
 ⟨fun p k=>h.mem p (hp.mem_iff.2 k),(hp.map unA).nodup_iff.1 h.nd⟩
theorem eV{A:List (Int×Int)}{x:Int}:x∈flP (pls A)↔∃ p,(p∈A\/p.swap∈A)/\x=cd p:=by
 rw[dG];constructor
 .rintro⟨q,hq,e⟩;obtain⟨p,hp,rfl⟩:=aAi.1 hq;rcases e with e|e
  .exact⟨p,.inl hp,e⟩
  .exact⟨p.swap,.inr (by rw[aBN];exact hp),e⟩
 .rintro⟨p,hp|hp,e⟩
  .exact⟨_,aAt hp,.inl e⟩
  .exact⟨_,aAt hp,.inr (by rw[aBN];exact e)⟩
theorem Ek{F:List (List Int)}(hn:(PF F).Nodup){r r':List Int}(hr:r∈F)(T0:r'∈F){p:Int×Int}(h:p∈prs r)(h':p∈prs r'):r=r':=by
 induction F with
 |nil=>cases hr
 |cons t F ih=>
  have M3:(prs t++PF F).Nodup:=hn;rw[aAo]at M3;rcases aAe.1 hr with e|k
  .rcases aAe.1 T0 with e'|k'
   .rw[e,e']
   .exact absurd rfl (M3.2.2 p (e ▸ h) p (aX.2 ⟨r',k',h'⟩))
  .rcases aAe.1 T0 with e'|k'
   .exact absurd rfl (M3.2.2 p (e' ▸ h') p (aX.2 ⟨r,k,h⟩))
   .exact ih M3.2.1 k k'
structure Emb(E:List Ed)(s:Int->Int)(A:List (Int×Int))(F:List (List Int)):Prop where
 oG:gF E A
 nd:(PF F).Nodup
 simple:∀ r∈F,r.Nodup
 mem:∀ p,p∈PF F↔p∈A\/p.swap∈A
 step:∀ r∈F,∀ u v w,(u,v)∈prs r->(v,w)∈prs r->Nx s (flP (pls A)) (s (cd (v,u))) (cd (v,w))
 con:∀ x∈flP (pls A),∀ y∈flP (pls A),mgP (Orb s) (pls A) x y
def SdT(s:Int->Int)(A:List (Int×Int))(r:List Int)(d:Int):Prop:=∃ p∈prs r,Nx s (flP (pls A)) d (cd p)
section
variable {E:List Ed} {s:Int->Int} (hP:PlE E s)
include hP
theorem PlE.cdin{p q:Int×Int}(hp:∃ e∈E,prE e=unA p)(hq:∃ e∈E,prE e=unA q)(h:cd p=cd q):p=q:=
 iJ (hP.arc_bd hp).2.1 (hP.arc_bd hq).2.1 h
theorem PlE.orb{p q:Int×Int}(hp:∃ e∈E,prE e=unA p)(hq:∃ e∈E,prE e=unA q):Orb s (cd p) (cd q)↔p.1=q.1:=let ⟨_,k⟩:=hP;k.orb p q hp hq
theorem PlE.way:∀ {w:List Int},(∀ u v,(u,v)∈lnk w->∃ e∈E,prE e=prP u v)->Way s (pls (lnk w))
 |[],_=>trivial
 |[_],_=>trivial
 |[_,_],_=>trivial
 |a::b::c::l,h=>by have ih:=PlE.way (w:=b::c::l) fun u v k=>h u v (aAc _ k);refine⟨?_,ih⟩;have h1:=h a b aAf;have h2:=h b c (aAc _ aAf);exact(hP.orb (p:=(b,a)) (q:=(b,c)) (by rw[show unA (b,a)=prP a b from aI _ _];exact h1) h2).2 rfl
variable {A:List (Int×Int)} {F:List (List Int)} (hE:Emb E s A F)
include hE
omit hP in
theorem Emb.dart{x:Int}:x∈flP (pls A)↔∃ p∈PF F,x=cd p:=by rw[eV];exact⟨fun⟨p,hp,e⟩=>⟨p,(hE.mem p).2 hp,e⟩,fun⟨p,hp,e⟩=>⟨p,(hE.mem p).1 hp,e⟩⟩
omit hP in
theorem Emb.sub{p:Int×Int}(h:p∈PF F):∃ e∈E,prE e=unA p:=by
 rcases(hE.mem p).1 h with h|h
 .exact hE.oG.mem p h
 .rw[<- fS];exact hE.oG.mem _ h
omit hP in
theorem Emb.swap{p:Int×Int}(h:p∈PF F):p.swap∈PF F:=by rw[hE.mem]at h ⊢;rw[aBN];exact h.symm
theorem Emb.at_iff{p:Int×Int}(hp:∃ e∈E,prE e=unA p):cd p∈flP (pls A)↔p∈PF F:=by
 rw[hE.dart];constructor
 .rintro⟨q,hq,e⟩;rw[hP.cdin hp (hE.sub hq) e];exact hq
 .intro h;exact⟨p,h,rfl⟩
theorem Emb.closed{r:List Int}(hr:r∈F){d:Int}(h:SdT s A r d):SdT s A r (swP s (pls A) d):=by
 obtain⟨p,hp,hx⟩:=h;by_cases hd:d∈flP (pls A)
 .have e:=hx.of_mem hd;rw[<- e];have hpF:p∈PF F:=aX.2 ⟨r,hr,hp⟩;have hs:swP s (pls A) (cd p)=s (cd p.swap):=by
   rcases(hE.mem p).1 hpF with k|k
   .exact(oM s (hP.fl_nd hE.oG) (cd p,cd p.swap) (aAi.2 ⟨p,k,rfl⟩)).1
   .exact(oM s (hP.fl_nd hE.oG) (cd p.swap,cd p) (aAi.2 ⟨p.swap,k,by rw[aBN]⟩)).2
  rw[hs];obtain⟨w,hw⟩:=iH (pS (x:=p.1) (y:=p.2) hp).2;exact⟨(p.2,w),hw,hE.step r hr p.1 p.2 w hp hw⟩
 .rw[pE s hd];exact⟨p,hp,hx.up hd⟩
theorem Emb.orb{r:List Int}(hr:r∈F){d d':Int}(h:SdT s A r d)(ho:Orb (swP s (pls A)) d d'):SdT s A r d':=by
 obtain⟨n,rfl⟩:=ho;induction n with
 |zero=>exact h
 |succ n ih=>rw[bT];exact hE.closed hP hr ih
theorem Emb.ex{p:Int×Int}(hp:∃ e∈E,prE e=unA p){u:Int}(hv:(p.1,u)∈PF F):∃ r∈F,SdT s A r (cd p):=by obtain⟨e,he⟩:=Nx.ex (S:=flP (pls A)) ((hP.orb hp (hE.sub hv)).2 rfl) (hE.dart.2 ⟨_,hv,rfl⟩);obtain⟨q,hq,rfl⟩:=hE.dart.1 he.mem;obtain⟨r,hr,k⟩:=aX.1 hq;exact⟨r,hr,q,k,he⟩
theorem Emb.fn{r r':List Int}(hr:r∈F)(T0:r'∈F){d:Int}(h:SdT s A r d)(h':SdT s A r' d):r=r':=by obtain⟨p,hp,hx⟩:=h;obtain⟨q,hq,hy⟩:=h';have hpq:=hP.cdin (hE.sub (aX.2 ⟨r,hr,hp⟩)) (hE.sub (aX.2 ⟨r',T0,hq⟩)) (hx.fn hy);subst hpq;exact Ek hE.nd hr T0 hp hq
theorem Emb.here{r:List Int}(hr:r∈F){p:Int×Int}(hp:∃ e∈E,prE e=unA p)(h:SdT s A r (cd p)):p.1∈r:=by obtain⟨q,hq,hx⟩:=h;rw[(hP.orb hp (hE.sub (aX.2 ⟨r,hr,hq⟩))).1 hx.orb];exact(pS (x:=q.1) (y:=q.2) hq).1
structure WyE(E:List Ed)(F:List (List Int))(x y:Int)(M:List Int):Prop where
 nd:(x::(M++[y])).Nodup
 ed:∀ u v,(u,v)∈lnk (x::(M++[y]))->∃ e∈E,prE e=prP u v
 new:∀ p,p∈lnk (x::(M++[y]))->p∉PF F
 off:∀ v∈M,∀ u,(v,u)∉PF F
 onx:∃ u,(x,u)∈PF F
 ony:∃ u,(y,u)∈PF F
omit hP in
theorem Emb.arcs_way{x y:Int}{M:List Int}(hw:WyE E F x y M):gF E (lnk (x::(M++[y]))++A):=by
 refine⟨fun p hp=>?_,?_⟩
 .rcases aAd.1 hp with h|h
  .exact hw.ed p.1 p.2 h
  .exact hE.oG.mem p h
 .rw[aAv,aAo];refine⟨?_,hE.oG.nd,fun a ha b hb e=>?_⟩
  .have:=fE hw.nd;rw[eC]at this;exact this
  .obtain⟨p,hp,rfl⟩:=aAi.1 ha;obtain⟨q,hq,rfl⟩:=aAi.1 hb;refine hw.new p hp ((hE.mem p).2 ?_);rcases bG e with⟨e1,e2⟩|⟨e1,e2⟩
   .exact .inl (by rw[show p=q from aCe e1 e2];exact hq)
   .exact .inr (by rw[show p.swap=q from aCe e2 e1];exact hq)
theorem Emb.wayT{x y:Int}{M:List Int}(hw:WyE E F x y M){u t:Int}(hu:(x,u)∈lnk (x::(M++[y])))(ht:(t,y)∈lnk (x::(M++[y]))){r:List Int}(hr:r∈F)(h:SdT s A r (cd (x,u))):SdT s A r (cd (y,t)):=by
 have hA:=hE.arcs_way hw;obtain⟨N,t',hN⟩:∃ N t',x::M=N++[t']:=⟨(x::M).dropLast,(x::M).getLast sS,(aCi _).symm⟩;have hl:lnk (x::(M++[y]))=lnk (x::M)++[(t',y)]:=by rw[<- List.cons_append,hN,aAF];exact fA t' [y] N
 have htt:t=t':=xE hw.nd ht (by rw[hl];simp);subst htt;have u5:(lnk (x::(M++[y]))++A).Perm ((t,y)::(lnk (x::M)++A)):=by rw[hl,aAF];exact aBE
 have hA2:=hA.perm u5;have hxn:=(aAq.1 hw.nd).1;have hyM:y∉M:=fun k=>by have:=(aAo.1 (aAq.1 hw.nd).2).2.2 y k y sS;exact this rfl
 have hxM:x∉M:=fun k=>hxn (aAr _ k);have hedE:∀ p,p∈lnk (x::(M++[y]))->∃ e∈E,prE e=unA p:=fun p hp=>hw.ed p.1 p.2 hp;have hinn:∀ p,(∃ e∈E,prE e=unA p)->Inn s (pls (lnk (x::M))) (cd p)->p.1∈M:=by
  rintro p hp ⟨q,hq,ho⟩;obtain⟨a,ha,rfl⟩:=aAi.1 hq;have hae:∃ e∈E,prE e=unA a.swap:=by rw[fS];exact hedE a (by rw[hl];exact aAr _ ha)
  rw[<- (hP.orb hae hp).1 ho];exact jE (a:=a.1) (b:=a.2) ha
 obtain⟨ux,hux⟩:=hw.onx;obtain⟨uy,huy⟩:=hw.ony;have hxe:=hedE _ hu;have hye:∃ e∈E,prE e=unA (y,t):=by rw[show unA (y,t)=unA (t,y) from aI _ _];exact hedE _ ht
 have hEq:=dR hP.per.eqv (pls A);obtain⟨D,hPD⟩:=id hP;refine hE.orb hP hr h (Qd (z:=(cd (t,y),cd (y,t))) (Q:=pls (lnk (x::M))) hPD.perm ?_ ?_ (fun d hd k=>?_) (fun k=>?_) ?_ (fun k=>?_) ?_ ?_)
 .have:=hP.fl_nd hA2;have e:pls ((t,y)::(lnk (x::M)++A))=(cd (t,y),cd (y,t))::(pls (lnk (x::M))++pls A):=by unfold pls;rw[aAm,aAv];rfl
  rw[<- e];exact this
 .have:=hP.way (w:=x::(M++[y])) hw.ed;rw[hl]at this;have e:pls (lnk (x::M)++[(t,y)])=pls (lnk (x::M))++[(cd (t,y),cd (y,t))]:=by unfold pls;rw[aAv];rfl
  rw[<- e];exact this
 .obtain⟨p,hp,rfl⟩:=hE.dart.1 hd;exact hw.off _ (hinn p (hE.sub hp) k) p.2 hp
 .exact hyM (hinn (y,t) hye k)
 .cases hM:M with
  |nil=>
   subst hM;have hut:u=y:=by
    rcases aAe.1 hu with e|e
    .injection e with _ e
    .cases e
   have htx:t=x:=by
    rcases aAe.1 ht with e|e
    .injection e with e _
    .cases e
   exact .inl ⟨rfl,by rw[hut,htx]⟩
  |cons m M'=>subst hM;have hum:u=m:=fG hw.nd hu (by simp[lnk]);exact .inr ⟨(cd (x,m),cd (m,x)),pls (lnk (m::M')),rfl,by rw[hum]⟩
 .exact hxM (hinn (x,u) hxe k)
 .have:=hP.face hA2;have e:pls (lnk (x::M)++A)=pls (lnk (x::M))++pls A:=by unfold pls;rw[aAv]
  rw[e]at this;exact this
 .refine hEq.trans (fZ _ ((hP.orb hxe (hE.sub hux)).2 rfl)) (hEq.trans (hE.con _ (hE.dart.2 ⟨_,hux,rfl⟩) _ (hE.dart.2 ⟨_,huy,rfl⟩)) (fZ _ ((hP.orb (hE.sub huy) hye).2 rfl)))
end
theorem cC{x y:Int}{P Q:List Int}{p:Int×Int}:p∈prs (x::(P++y::Q))↔p∈lnk (x::(P++[y]))\/p∈lnk (y::(Q++[x])):=by have:=(uO x y P Q []).mem_iff (a:=p);rw[aAd]at this;exact this
theorem oI{x y:Int}{M:List Int}{a b:Int}:(a,b)∈lnk (y::(M.reverse++[x]))↔(b,a)∈lnk (x::(M++[y])):=by have e:y::(M.reverse++[x])=(x::(M++[y])).reverse:=sS;rw[e];exact rI.symm
section
variable {E:List Ed} {s:Int->Int} (hP:PlE E s) {A:List (Int×Int)} {F:List (List Int)} {x y:Int} {P Q M:List Int}
 (hE:Emb E s A ((x::(P++y::Q))::F)) (hw:WyE E ((x::(P++y::Q))::F) x y M) {u t:Int} (hu:(x,u)∈lnk (x::(M++[y]))) (ht:(t,y)∈lnk (x::(M++[y])))
include hE hw
theorem BV:x∉M/\y∉M/\x≠y:=by obtain⟨h1,h2⟩:=aAq.1 hw.nd;refine⟨fun k=>h1 (aAr _ k),fun k=>(aAo.1 h2).2.2 y k y sS rfl,fun e=>h1 (by rw[e];simp)⟩
theorem FO{v:Int}(h:v∈M):v∉x::(P++y::Q):=fun k=>by obtain⟨z,hz⟩:=iH k;exact hw.off v h z (aX.2 ⟨_,aAf,hz⟩)
theorem uU:x∉P/\y∉P/\x∉Q/\y∉Q/\(∀ v∈P,v∉Q)/\(x::(P++[y])).Nodup/\(y::(Q++[x])).Nodup:=by
 have h:=hE.simple _ aAf;obtain⟨h1,h2⟩:=aAq.1 h;obtain⟨h3,h4,h5⟩:=aAo.1 h2;obtain⟨h6,h7⟩:=aAq.1 h4;have a1:x∉P:=fun k=>h1 (aAr _ k);have a2:y∉P:=fun k=>h5 y k y sS rfl;have a3:x∉Q:=fun k=>h1 (aAx _ (aAc _ k));have a4:x≠y:=fun e=>h1 (by rw[e];simp);refine⟨a1,a2,a3,h6,fun v hv k=>h5 v hv v (aAc _ k) rfl,?_,?_⟩
 .refine aAq.2 ⟨fun k=>?_,aAo.2 ⟨h3,sS,fun a ha b hb e=>?_⟩⟩
  .rcases aAd.1 k with k|k
   .exact a1 k
   .exact a4 (aAk.1 k)
  .rw[aAk.1 hb]at e;exact a2 (e ▸ ha)
 .refine aAq.2 ⟨fun k=>?_,aAo.2 ⟨h7,sS,fun a ha b hb e=>?_⟩⟩
  .rcases aAd.1 k with k|k
   .exact h6 k
   .exact a4 (aAk.1 k).symm
  .rw[aAk.1 hb]at e;exact a3 (e ▸ ha)
theorem AW(p:Int×Int):p∈PF ((x::(P++y::M.reverse))::(y::(Q++x::M))::F)↔p∈PF ((x::(P++y::Q))::F)\/p∈lnk (x::(M++[y]))\/p.swap∈lnk (x::(M++[y])):=by
 have e:∀(r:List Int) (F:List (List Int)),p∈PF (r::F)↔p∈prs r\/p∈PF F:=fun r F=>by unfold PF;rw[aAH,aAd]
 rw[e,e,e,cC,cC,cC,show(p∈lnk (y::(M.reverse++[x]))↔p.swap∈lnk (x::(M++[y]))) from oI (a:=p.1) (b:=p.2)];constructor
 .rintro((h|h)|(h|h)|h)
  .exact .inl (.inl (.inl h))
  .exact .inr (.inr h)
  .exact .inl (.inl (.inr h))
  .exact .inr (.inl h)
  .exact .inl (.inr h)
 .rintro(((h|h)|h)|h|h)
  .exact .inl (.inl h)
  .exact .inr (.inl (.inl h))
  .exact .inr (.inr h)
  .exact .inr (.inl (.inr h))
  .exact .inl (.inr h)
theorem oL{p:Int×Int}(h:p∈lnk (x::(M++[y]))\/p.swap∈lnk (x::(M++[y]))):p∉PF ((x::(P++y::Q))::F):=fun k=>by
 rcases h with h|h
 .exact hw.new p h k
 .exact hw.new _ h (hE.swap k)
theorem Wd:(PF ((x::(P++y::M.reverse))::(y::(Q++x::M))::F)).Nodup:=by
 have hp:(PF ((x::(P++y::M.reverse))::(y::(Q++x::M))::F)).Perm ((lnk (x::(M++[y]))++lnk (y::(M.reverse++[x])))++PF ((x::(P++y::Q))::F)):=by have e1:=(uO x y P M.reverse []).count_eq;have e2:=(uO y x Q M []).count_eq;have e3:=(uO x y P Q []).count_eq;refine aEF.2 fun z=>?_;have f1:=e1 z;have f2:=e2 z;have f3:=e3 z;unfold PF;simp only[List.nil_append,aAH,List.count_append]at *;omega
 rw[hp.nodup_iff,aAo,aAo];obtain⟨n1,n2⟩:=dJ hw.nd;refine⟨⟨n1,?_,fun a ha b hb e=>?_⟩,hE.nd,fun a ha b hb e=>?_⟩
 .have:(y::(M.reverse++[x])).Nodup:=by have e:y::(M.reverse++[x])=(x::(M++[y])).reverse:=sS;rw[e];exact(aBq _).nodup_iff.2 hw.nd
  exact(dJ this).1
 .subst e;exact(n2 a.1 a.2 ha).2 (oI.1 hb)
 .subst e;refine oL hE hw ?_ hb;rcases aAd.1 ha with ha|ha
  .exact .inl ha
  .exact .inr (oI (a:=a.1) (b:=a.2).1 ha)
theorem Wg{p:Int×Int}(h:p∈lnk (x::(M++[y]))\/p.swap∈lnk (x::(M++[y]))):p.1∈x::(M++[y]):=by
 rcases h with h|h
 .exact(bF (x:=p.1) (y:=p.2) h).1
 .exact(bF (x:=p.2) (y:=p.1) h).2
include hP hu ht
theorem GN{p:Int×Int}(hp:∃ e∈E,prE e=unA p):cd p∈flP (pls (lnk (x::(M++[y]))++A))↔p∈PF ((x::(P++y::Q))::F)\/p∈lnk (x::(M++[y]))\/p.swap∈lnk (x::(M++[y])):=by
 rw[eV,hE.mem];simp only[aAd];constructor
 .rintro⟨q,hq,e⟩;have hqe:∃ e∈E,prE e=unA q:=by
   rcases hq with(h|h)|h|h
   .exact hw.ed q.1 q.2 h
   .exact hE.oG.mem q h
   .rw[<- fS];exact hw.ed q.2 q.1 h
   .rw[<- fS];exact hE.oG.mem _ h
  rw[hP.cdin hp hqe e];rcases hq with(h|h)|h|h
  .exact .inr (.inl h)
  .exact .inl (.inl h)
  .exact .inr (.inr h)
  .exact .inl (.inr h)
 .rintro((h|h)|h|h)
  .exact⟨p,.inl (.inr h),rfl⟩
  .exact⟨p,.inr (.inr h),rfl⟩
  .exact⟨p,.inl (.inl h),rfl⟩
  .exact⟨p,.inr (.inl h),rfl⟩
theorem BZ{p:Int×Int}(h:p∈PF ((x::(P++y::Q))::F)\/p∈lnk (x::(M++[y]))\/p.swap∈lnk (x::(M++[y]))):∃ e∈E,prE e=unA p:=by
 rcases h with h|h|h
 .exact hE.sub h
 .exact hw.ed p.1 p.2 h
 .rw[<- fS];exact hw.ed p.2 p.1 h
theorem HY{p:Int×Int}(hp:∃ e∈E,prE e=unA p)(hv:p.1∉x::(M++[y])):∀ z,Orb s (cd p) z->(z∈flP (pls A)↔z∈flP (pls (lnk (x::(M++[y]))++A))):=by
 intro z hz;constructor
 .intro h;obtain⟨q,hq,rfl⟩:=hE.dart.1 h;exact(GN hP hE hw hu ht (hE.sub hq)).2 (.inl hq)
 .intro h;obtain⟨q,hq,rfl⟩:=eV.1 h;have hq':q∈PF ((x::(P++y::Q))::F)\/q∈lnk (x::(M++[y]))\/q.swap∈lnk (x::(M++[y])):=by
   rw[hE.mem];simp only[aAd]at hq;rcases hq with(k|k)|k|k
   .exact .inr (.inl k)
   .exact .inl (.inl k)
   .exact .inr (.inr k)
   .exact .inl (.inr k)
  have hqe:=BZ hP hE hw hu ht hq';have hb:=(hP.orb hp hqe).1 hz;rcases hq' with k|k
  .exact hE.dart.2 ⟨q,k,rfl⟩
  .exact absurd (Wg hE hw k) (by rw[<- hb];exact hv)
theorem MH:∀ z,Orb s (cd (x,u)) z->(z∈flP (pls (lnk (x::(M++[y]))++A))↔z∈flP (pls A)\/z=cd (x,u)):=by
 intro z hz;obtain⟨n1,n2,n3⟩:=BV hE hw;have hxe:=hw.ed x u hu;constructor
 .intro h;obtain⟨q,hq,rfl⟩:=eV.1 h;simp only[aAd]at hq
  have hqe:∃ e∈E,prE e=unA q:=BZ hP hE hw hu ht (by
   rw[hE.mem];rcases hq with(k|k)|k|k
   .exact .inr (.inl k)
   .exact .inl (.inl k)
   .exact .inr (.inr k)
   .exact .inl (.inr k))
  have hb:x=q.1:=(hP.orb (p:=(x,u)) hxe hqe).1 hz;rcases hq with(k|k)|k|k
  .have:(x,q.2)∈lnk (x::(M++[y])):=by rw[hb]at k ⊢;exact k
   have h2:=fG hw.nd this hu;exact .inr (by rw[show q=(x,u) from aCe hb.symm h2])
  .exact .inl (eV.2 ⟨q,.inl k,rfl⟩)
  .have:=jE (a:=q.2) (b:=q.1) k;rw[<- hb]at this;rcases aAd.1 this with h|h
   .exact absurd h n1
   .exact absurd (aAk.1 h) n3
  .exact .inl (eV.2 ⟨q,.inr k,rfl⟩)
 .rintro(h|rfl)
  .obtain⟨q,hq,rfl⟩:=eV.1 h;refine eV.2 ⟨q,?_,rfl⟩;simp only[aAd];exact hq.imp .inr .inr
  .exact(GN hP hE hw hu ht (p:=(x,u)) hxe).2 (.inr (.inl hu))
theorem Kw:∀ z,Orb s (cd (y,t)) z->(z∈flP (pls (lnk (x::(M++[y]))++A))↔z∈flP (pls A)\/z=cd (y,t)):=by
 intro z hz;obtain⟨n1,n2,n3⟩:=BV hE hw;have hye:∃ e∈E,prE e=unA (y,t):=by rw[show unA (y,t)=unA (t,y) from aI _ _];exact hw.ed t y ht
 constructor
 .intro h;obtain⟨q,hq,rfl⟩:=eV.1 h;simp only[aAd]at hq
  have hqe:∃ e∈E,prE e=unA q:=BZ hP hE hw hu ht (by
   rw[hE.mem];rcases hq with(k|k)|k|k
   .exact .inr (.inl k)
   .exact .inl (.inl k)
   .exact .inr (.inr k)
   .exact .inl (.inr k))
  have hb:y=q.1:=(hP.orb (p:=(y,t)) hye hqe).1 hz;rcases hq with(k|k)|k|k
  .have:=eX (y:=y) (l:=x::M) (a:=q.1) (b:=q.2) k;rw[<- hb]at this;rcases aAe.1 this with h|h
   .exact absurd h.symm n3
   .exact absurd h n2
  .exact .inl (eV.2 ⟨q,.inl k,rfl⟩)
  .have h1:(q.2,y)∈lnk (x::(M++[y])):=by rw[show(q.2,y)=q.swap from aCe rfl hb];exact k
   have h2:=xE hw.nd h1 ht;exact .inr (by rw[show q=(y,t) from aCe hb.symm h2])
  .exact .inl (eV.2 ⟨q,.inr k,rfl⟩)
 .rintro(h|rfl)
  .obtain⟨q,hq,rfl⟩:=eV.1 h;refine eV.2 ⟨q,?_,rfl⟩;simp only[aAd];exact hq.imp .inr .inr
  .exact(GN hP hE hw hu ht hye).2 (.inr (.inr ht))
theorem MR{v a b:Int}(hv:v∈M)(h2:((a,v)∈lnk (x::(M++[y]))/\(v,b)∈lnk (x::(M++[y])))\/((v,a)∈lnk (x::(M++[y]))/\(b,v)∈lnk (x::(M++[y])))):
 Nx s (flP (pls (lnk (x::(M++[y]))++A))) (s (cd (v,a))) (cd (v,b)):=by
 have x8:a≠b:=fun e=>by
  subst e;rcases h2 with⟨k1,k2⟩|⟨k1,k2⟩
  .exact((dJ hw.nd).2 _ _ k1).2 k2
  .exact((dJ hw.nd).2 _ _ k1).2 k2
 have ma:(v,a)∈lnk (x::(M++[y]))\/(v,a).swap∈lnk (x::(M++[y])):=h2.elim (fun k=>.inr k.1) fun k=>.inl k.1;have mb:(v,b)∈lnk (x::(M++[y]))\/(v,b).swap∈lnk (x::(M++[y])):=h2.elim (fun k=>.inl k.2) fun k=>.inr k.2;have ea:=BZ hP hE hw hu ht (.inr ma);have eb:=BZ hP hE hw hu ht (.inr mb);have ib:=(GN hP hE hw hu ht eb).2 (.inr mb);have oab:Orb s (cd (v,a)) (cd (v,b)):=(hP.orb ea eb).2 rfl;have oa:Orb s (s (cd (v,a))) (cd (v,b)):=(Orb.symm hP.per (Orb.step s _)).trans oab;obtain⟨f,hf⟩:=Nx.ex oa ib;obtain⟨q,hq,rfl⟩:=eV.1 hf.mem;simp only[aAd]at hq
 have hqe:∃ e∈E,prE e=unA q:=BZ hP hE hw hu ht (by
  rw[hE.mem];rcases hq with(k|k)|k|k
  .exact .inr (.inl k)
  .exact .inl (.inl k)
  .exact .inr (.inr k)
  .exact .inl (.inr k))
 have hqv:v=q.1:=(hP.orb (p:=(v,a)) ea hqe).1 ((Orb.step s _).trans hf.orb);have x9:q∉PF ((x::(P++y::Q))::F):=fun k=>hw.off v hv q.2 (by rw[hqv];exact k);rw[hE.mem]at x9;have S9:q∈lnk (x::(M++[y]))\/q.swap∈lnk (x::(M++[y])):=by
  rcases hq with(k|k)|k|k
  .exact .inl k
  .exact absurd (.inl k) x9
  .exact .inr k
  .exact absurd (.inr k) x9
 have hq3:q.2=a\/q.2=b:=by
  rcases S9 with k|k
  .have k:(v,q.2)∈lnk (x::(M++[y])):=by rw[hqv];exact k
   rcases h2 with h|h
   .exact .inr (fG hw.nd k h.2)
   .exact .inl (fG hw.nd k h.1)
  .have k:(q.2,v)∈lnk (x::(M++[y])):=by rw[hqv];exact k
   rcases h2 with h|h
   .exact .inl (xE hw.nd k h.1)
   .exact .inr (xE hw.nd k h.2)
 rcases hq3 with h|h
 .have e:q=(v,a):=aCe hqv.symm h;rw[e]at hf;have:=hf.loop ib oab;exact absurd (congrArg Prod.snd (hP.cdin eb ea this)).symm x8
 .have e:q=(v,b):=aCe hqv.symm h;rw[<- e];exact hf
end
end Aw
end Go.Proofs.YtbgngpdonpeboaaGreatDoor
