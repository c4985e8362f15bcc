/- Plain: round a vertex of a drawn block: all near ones, in one turn. -/
import Derived.Test.YtempldclppogmaaGreatDoorJi
import Derived.Test.YtempldclppogmaaGreatDoorAwGo
import Derived.Test.YtempldclppogmaaGreatDoorAwRg
set_option linter.unusedVariables false
set_option linter.unusedSimpArgs false
set_option linter.unusedSectionVars false
set_option maxHeartbeats 2000000
open Go.Proofs.Tryz
namespace Go.Proofs.YtempldclppogmaaGreatDoor
namespace Aw
open Go Go.RowKit Pl Eu
theorem Jl:∀(l:List Int) (k:Nat),k+1<l.length->(lnk l)[k]?=some (l.getD k 0,l.getD (k+1) 0)
 |[],k,h=>by simp at h
 |[_],k,h=>by simp at h
 |a::b::l,0,_=>by simp[lnk]
 |a::b::l,k+1,h=>by have:=Jl (b::l) k (by simpa using h);simpa[lnk]using this
theorem qU(r:List Int):(prs r).length=r.length:=by
 unfold prs;rw[zO,aAh,aAq];cases r with
 |nil=>rfl
 |cons a r=>simp
theorem EF(r:List Int)(k:Nat)(h:k<r.length):(prs r)[k]?=some (r.getD k 0,r.getD ((k+1) % r.length) 0):=by
 have hl:(r++r.take 1).length=r.length+1:=by rw[aAh,aAq];omega
 unfold prs;rw[Jl _ k oO];have e1:(r++r.take 1).getD k 0=r.getD k 0:=by rw[aAc,aAX h,<- aAc]
 have e2:(r++r.take 1).getD (k+1) 0=r.getD ((k+1) % r.length) 0:=by
  rw[aAc];by_cases hk:k+1<r.length
  .rw[aAX hk,aAM hk,<- aAc]
  .have:k+1=r.length:=oO;rw[aBk oO,this,aDN,aEW,List.getElem?_take_of_lt oO,<- aAc]
 rw[e1,e2]
def trs(r:List Int):List (Int×Int×Int):=(List.range r.length).map fun k=>(r.getD (iZ r.length k) 0,r.getD k 0,r.getD ((k+1) % r.length) 0)
def BV(A:Tn)(t:Int×Int×Int):Tn:=gH t.2.1 t.1 t.2.2 A
theorem oY{n k:Nat}(h:k<n):iZ n k<n/\(iZ n k+1) % n=k:=by
 unfold iZ
 split
 .rename_i e;subst e;exact⟨oO,by rw[show n-1+1=n by omega,aDN]⟩
 .exact⟨oO,by rw[show k-1+1=k by omega,aAM h]⟩
theorem DP(r:List Int)(A:Tn):∀ j,j<=r.length->jR r A j=((trs r).take j).foldl BV A
 |0,_=>rfl
 |j+1,h=>by
  have ht:(trs r).take (j+1)=(trs r).take j++[(r.getD (iZ r.length j) 0,r.getD j 0,r.getD ((j+1) % r.length) 0)]:=by unfold trs;rw[aAn (by simp;omega)];simp
  rw[ht,aBm,<- DP r A j oO];rfl
theorem xT(F:List (List Int)):aY F=(F.flatMap trs).foldl BV []:=by
 unfold aY;have key:∀(F:List (List Int)) (A:Tn),F.foldl (fun A r=>jR r A r.length) A=(F.flatMap trs).foldl BV A:=by
  intro F;induction F with
  |nil=>intro A;rfl
  |cons r F ih=>intro A;rw[List.foldl_cons,ih,aAC,aBm,DP r A _ (aAk _),aAv (by simp[trs])]
 exact key F []
theorem Cs(v v' x y:Int):∀ A:Tn,dA v' (gH v x y A)=if v'=v then qQ x y (dA v A)else dA v' A
 |[]=>by
  unfold gH;by_cases h:v'=v
  .subst h;simp[dA,qQ]
  .simp only[dA,aAa h,aAa (fun e:v=v'=>h e.symm)]
 |a::A=>by
  have ih:=Cs v v' x y A;unfold gH;by_cases ha:a.1=v
  .rw[aAe ha];by_cases h:v'=v
   .subst h;simp[dA,ha]
   .simp only[dA,aAa h,aAa (fun e:v=v'=>h e.symm),aAa (fun e:a.1=v'=>h (by rw[<- e,ha]))]
  .rw[aAa ha];by_cases h:v'=v
   .subst h;rw[aAe rfl]at ih ⊢;simp only[dA,aAa ha,ih]
   .rw[aAa h]at ih ⊢;simp only[dA,ih]
theorem FV(x y:Int):∀ P:List (Int×Int),x∉P.map (·.1)->qQ x y P=P++[(x,y)]
 |[],_=>rfl
 |p::P,h=>by rw[aAi,aAf,aBV]at h;unfold qQ;rw[aAa fun e=>h.1 e.symm,FV x y P h.2];rfl
theorem Mk(v:Int):∀(T:List (Int×Int×Int)),(T.map fun t=>(t.1,t.2.1)).Nodup->dA v (T.foldl BV [])=(T.filter fun t=>decide (t.2.1=v)).map fun t=>(t.1,t.2.2):=by
 intro T;induction T using uQ with
 |h0=>intro _;rfl
 |h1 T t ih=>
  intro hn;rw[aAu,aAs]at hn;have ih:=ih hn.1;rw[aBm,List.foldl_cons,List.foldl_nil,aBx,aAu,<- ih];rw[show BV (T.foldl BV []) t=gH t.2.1 t.1 t.2.2 (T.foldl BV []) from rfl,Cs];by_cases h:v=t.2.1
  .subst h;rw[aAe rfl,FV]
   .simp
   .rw[ih,aBd];intro hm;obtain⟨s,hs,e⟩:=aAm.1 hm;rw[aAr,aAL]at hs;exact hn.2.2 _ (aAx (f:=fun t:Int×Int×Int=>(t.1,t.2.1)) hs.1) (t.1,t.2.1) sS (aDG e hs.2)
  .rw[aAa h];have:¬t.2.1=v:=fun e=>h e.symm;simp[this]
theorem SW(r:List Int):((trs r).map fun t=>(t.1,t.2.1)).Perm (prs r):=by
 have e:prs r=(List.range r.length).map fun k=>(r.getD k 0,r.getD ((k+1) % r.length) 0):=by
  refine aDf fun k=>?_;by_cases h:k<r.length
  .rw[EF r k h];simp[h]
  .rw[aBz (by rw[qU];omega),aBz (by simp;omega)]
 have e2:((trs r).map fun t=>(t.1,t.2.1))=((List.range r.length).map (iZ r.length)).map fun k=>(r.getD k 0,r.getD ((k+1) % r.length) 0):=by unfold trs;rw[aBd,aBd];refine aAU fun k hk=>?_;have:=(oY (aBa.1 hk)).2;simp only[Function.comp_apply,this]
 rw[e,e2];refine List.Perm.map _ (BM ?_ aDo (fun x hx=>?_) sS)
 .unfold List.Nodup;rw[aAV];refine aBY.imp_of_mem fun {a b} ha hb YC h=>?_;have h1:=(oY (aBa.1 ha)).2;have h2:=(oY (aBa.1 hb)).2;rw[h]at h1;omega
 .obtain⟨k,hk,rfl⟩:=aAm.1 hx;exact aBa.2 (oY (aBa.1 hk)).1
theorem wW(F:List (List Int)):((F.flatMap trs).map fun t=>(t.1,t.2.1)).Perm (PF F):=by
 induction F with
 |nil=>exact .refl _
 |cons r F ih=>unfold PF at ih ⊢;rw[aAC,aAC,aAu];exact(SW r).append ih
def cd(p:Int×Int):Int:=p.1*4194304+p.2
theorem vN{p:Int×Int}(h:0<=p.2/\p.2<4194304):cd p / 4194304=p.1:=by unfold cd;omega
theorem pT{p q:Int×Int}(h:0<=p.2/\p.2<4194304)(k:0<=q.2/\q.2<4194304)(e:cd p=cd q):p=q:=by unfold cd at e;exact aDG oO oO
theorem ND{r:List Int}(hn:(prs r).Nodup)(hb:∀ v∈r,0<=v/\v<4194304){t:Int×Int×Int}(ht:t∈trs r):(t.1,t.2.1)∈prs r/\(t.2.1,t.2.2)∈prs r/\nx ((prs r).map cd) (cd (t.1,t.2.1))=cd (t.2.1,t.2.2):=by
 unfold trs at ht;obtain⟨k,hk,rfl⟩:=aAm.1 ht;rw[aBa]at hk;obtain⟨p1,p2⟩:=oY hk;have hl:=qU r;have g1:(prs r)[iZ r.length k]'(by omega)=(r.getD (iZ r.length k) 0,r.getD k 0):=by have:=EF r _ p1;rw[aAd oO,aAb]at this;rw[this,p2]
 have g2:(prs r)[k]'(by omega)=(r.getD k 0,r.getD ((k+1) % r.length) 0):=by have:=EF r _ hk;rw[aAd oO,aAb]at this;exact this
 have Xl:∀ p∈prs r,0<=p.2/\p.2<4194304:=fun p hp=>hb _ (TZ (x:=p.1) hp).2;have D8:((prs r).map cd).Nodup:=by unfold List.Nodup;rw[aAV];exact hn.imp_of_mem fun {a b} ha hb Wu e=>Wu (pT (Xl a ha) (Xl b hb) e)
 have Yn:((prs r).map cd).length=r.length:=by rw[aAz,hl]
 refine⟨by rw[<- g1];exact aAA _,by rw[<- g2];exact aAA _,?_⟩;simp only;rw[<- g1,<- g2];have:=gB D8 (j:=iZ r.length k) oO;simp only[aCl]at this;rw[this]
 congr 1
 simp only[Yn,p2]
def tws(E:List Ed):List (Int×Int):=E.map fun e=>(cd (e.a,e.b),cd (e.b,e.a))
theorem Dr(s:Int->Int){x:Int}:∀ P:List (Int×Int),(∀ p∈P,x≠p.1/\x≠p.2)->swP s P x=s x
 |[],_=>rfl
 |p::P,h=>by unfold swP;rw[tA (h p aAo).1 (h p aAo).2];exact Dr s P fun q hq=>h q (aAj _ hq)
theorem Jz(s:Int->Int){u v:Int}:∀ E:List Ed,(∀ e∈E,(0<=e.a/\e.a<4194304)/\0<=e.b/\e.b<4194304)->(E.map prE).Nodup->(∃ e∈E,prE e=prP u v)->swP s (tws E) (cd (v,u))=s (cd (u,v))
 |[],_,_,h=>by obtain⟨_,h,_⟩:=h;cases h
 |e::E,hb,hn,h=>by
  rw[aAi,aAy]at hn;have b0:=hb e aAo;have hbE:=fun e he=>hb e (aAj _ he);by_cases he:prE e=prP u v
  .have YR:∀ x y,prP x y=prE e->(0<=x/\x<4194304)->(0<=y/\y<4194304)->∀ p∈tws E,cd (x,y)≠p.1/\cd (x,y)≠p.2:=by
    intro x y YK hx hy p hp;obtain⟨f,hf,rfl⟩:=aAm.1 hp;have bf:=hbE f hf;constructor
    .intro k;have:=pT (p:=(x,y)) (q:=(f.a,f.b)) hy bf.2 k;injection this with k1 k2;exact hn.1 (aAm.2 ⟨f,hf,by rw[<- YK,k1,k2]⟩)
    .intro k;have:=pT (p:=(x,y)) (q:=(f.b,f.a)) hy bf.1 k;injection this with k1 k2;exact hn.1 (aAm.2 ⟨f,hf,by rw[<- YK,k1,k2];exact bL _ _⟩)
   show swP s (tws E) (Eu.sw (cd (e.a,e.b)) (cd (e.b,e.a)) (cd (v,u)))=_;rcases cH he with⟨e1,e2⟩|⟨e1,e2⟩
   .rw[<- e1,<- e2,FE,Dr s _ (YR e.a e.b rfl b0.1 b0.2)]
   .rw[<- e1,<- e2,Bb,Dr s _ (YR e.b e.a (bL _ _) b0.2 b0.1)]
  .obtain⟨f,hf,hp⟩:=h;rcases aAf.1 hf with rfl|hf
   .exact absurd hp he
   show swP s (tws E) (Eu.sw (cd (e.a,e.b)) (cd (e.b,e.a)) (cd (v,u)))=_;have bf:=hbE f hf;have bu:(0<=u/\u<4194304)/\0<=v/\v<4194304:=by
    rcases cH hp with⟨e1,e2⟩|⟨e1,e2⟩
    .rw[<- e1,<- e2];exact bf
    .rw[<- e1,<- e2];exact⟨bf.2,bf.1⟩
   rw[tA]
   .exact Jz s E hbE hn.2 ⟨f,hf,hp⟩
   .intro k;have:=pT (p:=(v,u)) (q:=(e.a,e.b)) bu.1 b0.2 k;injection this with k1 k2;exact he (by rw[k1,k2];exact bL _ _)
   .intro k;have:=pT (p:=(v,u)) (q:=(e.b,e.a)) bu.1 b0.1 k;injection this with k1 k2;exact he (by rw[k1,k2])
def Rws(F:List (List Int)):List (List Int):=F.map fun r=>(prs r).map cd
theorem gA(F:List (List Int)):(Rws F).flatten=(PF F).map cd:=by unfold Rws PF;rw[aEk,<- List.flatMap_def]
theorem gV{E:List Ed}{e:Ed}(he:e∈E){x y:Int}(h:prE e=prP x y):x∈vsF E/\y∈vsF E:=by
 rw[bM,bM];rcases cH h with⟨e1,e2⟩|⟨e1,e2⟩
 .exact⟨⟨e,he,.inl e1.symm⟩,⟨e,he,.inr e2.symm⟩⟩
 .exact⟨⟨e,he,.inr e2.symm⟩,⟨e,he,.inl e1.symm⟩⟩
structure BlE(E:List Ed):Prop where
 ne:∀ e∈E,e.a≠e.b
 sim:(E.map prE).Nodup
 bnd:∀ v∈vsF E,0<=v/\v<4194304
section
variable {E:List Ed} {F:List (List Int)} (hO:jH E F) (hE:BlE E)
include hO hE
theorem jH.b2{p:Int×Int}(h:p∈PF F):(0<=p.1/\p.1<4194304)/\0<=p.2/\p.2<4194304:=by obtain⟨e,he,hp⟩:=(hO.mem p.1 p.2).1 h;have:=gV he hp;exact⟨hE.bnd _ this.1,hE.bnd _ this.2⟩
theorem jH.cdnd:((Rws F).flatten).Nodup:=by rw[gA];unfold List.Nodup;rw[aAV];exact hO.nd.imp_of_mem fun {p q} hp hq Wu e=>Wu (pT (hO.b2 hE hp).2 (hO.b2 hE hq).2 e)
theorem jH.swap{u v:Int}(h:(u,v)∈PF F):(v,u)∈PF F:=by obtain⟨e,he,hp⟩:=(hO.mem u v).1 h;exact(hO.mem v u).2 ⟨e,he,by rw[hp];exact bL _ _⟩
theorem jH.next{u v:Int}(h:(u,v)∈PF F):∃ w,(u,v,w)∈F.flatMap trs/\∃ r∈F,(u,v)∈prs r/\(v,w)∈prs r/\sgR (Rws F) (cd (u,v))=cd (v,w):=by
 have:=(wW F).mem_iff.2 h;obtain⟨t,ht,e⟩:=aAm.1 this;obtain⟨r,hr,htr⟩:=aAR.1 ht;have YW:∀ p∈prs r,p∈PF F:=fun p hp=>gN.2 ⟨r,hr,hp⟩;have hn:(prs r).Nodup:=by have h0:=hO.nd;unfold PF at h0;rw[List.flatMap_def]at h0;exact row_nodup' h0 (aAx hr)
 have hb:∀ v∈r,0<=v/\v<4194304:=fun v hv=>by obtain⟨x,hx⟩:=JS hv;exact(hO.b2 hE (YW _ hx)).1
 obtain⟨h1,h2,h3⟩:=ND hn hb htr;injection e with e1 e2;rw[e1,e2]at h1 h3;rw[e2]at h2;refine⟨t.2.2,?_,r,hr,h1,h2,?_⟩
 .rw[<- e1,<- e2];exact ht
 .rw[fQ (hO.cdnd hE) (t:=(prs r).map cd) (aAx (f:=fun r=>(prs r).map cd) hr) (aAx h1),h3]
where
 row_nodup' {α:Type} {L:List (List α)} (hn:L.flatten.Nodup) {t:List α} (ht:t∈L):t.Nodup:=(aBC ht).nodup hn
abbrev sgV(E:List Ed)(F:List (List Int)):Int->Int:=swP (sgR (Rws F)) (tws E)
theorem jH.tws_mem:∀ p∈tws E,p.1∈(Rws F).flatten/\p.2∈(Rws F).flatten/\p.1≠p.2:=fun p hp=>by obtain⟨e,he,rfl⟩:=aAm.1 hp;have h1:=(hO.mem e.a e.b).2 ⟨e,he,rfl⟩;have h2:=hO.swap hE h1;rw[gA];refine⟨aAx h1,aAx h2,fun k=>hE.ne e he ?_⟩;have:=pT (hO.b2 hE h1).2 (hO.b2 hE h2).2 k;injection this
theorem jH.sgV_at{u v:Int}(h:(u,v)∈PF F):sgV E F (cd (v,u))=sgR (Rws F) (cd (u,v)):=
 Jz _ E (fun e he=>⟨hE.bnd _ ((bM _ _).2 ⟨e,he,.inl rfl⟩),hE.bnd _ ((bM _ _).2 ⟨e,he,.inr rfl⟩)⟩) hE.sim ((hO.mem u v).1 h)
theorem jH.sgV_permOn:iM (Rws F).flatten (sgV E F):=sN (lA (hO.cdnd hE)) _ fun p hp=>⟨(hO.tws_mem hE p hp).1,(hO.tws_mem hE p hp).2.1⟩
theorem jH.sgV_base(x:Int):sgV E F x / 4194304=x / 4194304:=by
 by_cases hx:x∈(Rws F).flatten
 .rw[gA]at hx;obtain⟨⟨v,u⟩,hp,rfl⟩:=aAm.1 hx;have h2:=hO.swap hE hp;obtain⟨w,_,r,hr,k1,k2,k3⟩:=hO.next hE h2;have k4:=gN.2 ⟨r,hr,k2⟩;rw[hO.sgV_at hE h2,k3,vN (hO.b2 hE k4).2,vN (hO.b2 hE hp).2]
 .rw[(hO.sgV_permOn hE).out x hx]
theorem jH.sgV_it:∀(n:Nat) (x:Int),it (sgV E F) n x / 4194304=x / 4194304
 |0,_=>rfl
 |n+1,x=>by rw[cJ,hO.sgV_base hE,jH.sgV_it n x]
theorem jH.one_turn(h0:E≠[]){v u u':Int}(h:(u,v)∈PF F)(h':(u',v)∈PF F):Orb (sgV E F) (cd (v,u)) (cd (v,u')):=by
 have hn:=hO.cdnd hE;have L0:=lA hn;have hσ:=hO.sgV_permOn hE;obtain⟨_,c,hc⟩:=Cl L0 (tws E) (hO.tws_mem hE);have hM:=rP L0.per.eqv (tws E);have hall:∀ x∈(Rws F).flatten,∀ y∈(Rws F).flatten,mgP (Orb (sgR (Rws F))) (tws E) x y:=by
  intro x hx y hy;rw[gA]at hx hy;obtain⟨p,hp,rfl⟩:=aAm.1 hx;obtain⟨q,hq,rfl⟩:=aAm.1 hy;refine hO.con (fun p q=>mgP (Orb (sgR (Rws F))) (tws E) (cd p) (cd q)) (fun _ _ k=>hM.symm k) (fun _ _ _ k l=>hM.trans k l) (fun r hr p hp q hq=>?_) (fun p hp=>?_) p hp q hq
  .exact OL _ ((Eg hn (aAx (f:=fun r=>(prs r).map cd) hr) (aAx hp)).2 (aAx hq))
  .obtain⟨e,he,ZZ⟩:=(hO.mem p.1 p.2).1 hp;have:=Ij L0.per.eqv (tws E) (p:=(cd (e.a,e.b),cd (e.b,e.a))) (aAx (f:=fun e:Ed=>(cd (e.a,e.b),cd (e.b,e.a))) he);rcases cH ZZ with⟨e1,e2⟩|⟨e1,e2⟩
   .rw[e1,e2]at this;exact this
   .rw[e1,e2]at this;exact hM.symm this
 have hD0:(Rws F).flatten≠[]:=by rw[gA];intro e;have:=aCP.1 e;rw[this]at h;cases h
 rw[Sn hall hD0]at hc;have hF:ncl (Orb (sgR (Rws F))) (Rws F).flatten=F.length:=by rw[Jr hn,aCA.2,Rws,aAz];intro t ht;obtain⟨r,hr,rfl⟩:=aAm.1 ht;have h1:=hO.ne r hr;have h2:=qU r;rw[aAL];intro e;have h3:=congrArg List.length e;rw[aAz,h2]at h3;exact h1 (aCR.1 h3)
 rw[hF,tws,aAz]at hc;let B:Int->Int->Prop:=fun x y=>x / 4194304=y / 4194304;have hB:Eqv B:=⟨fun _=>rfl,fun h=>Eq.symm h,fun h k=>Eq.trans h k⟩;have hBn:(vsF E).length<=ncl B (Rws F).flatten:=by
  refine lH (R:=B) (fun x=>x / 4194304) (fun _ _ _ _ h=>h) (vsF E) ((kZ E).imp fun k=>by omega) fun a ha=>?_;obtain⟨e,he,k⟩:=(bM a E).1 ha;have h1:=(hO.mem e.a e.b).2 ⟨e,he,rfl⟩;have h2:=hO.swap hE h1;rcases k with rfl|rfl
  .exact⟨_,by rw[gA];exact aAx h1,vN (hO.b2 hE h1).2⟩
  .exact⟨_,by rw[gA];exact aAx h2,vN (hO.b2 hE h2).2⟩
 have hcnt:=hO.cnt;have a1:=hO.swap hE h;have a2:=hO.swap hE h';refine Ph hσ.per.eqv hB (l:=(Rws F).flatten) (fun x y ⟨n,hn⟩=>?_) (by simp only[sgV,tws]at *;omega) (by rw[gA];exact aAx a1) (by rw[gA];exact aAx a2) ?_
 .show x / 4194304=y / 4194304;rw[<- hn,hO.sgV_it hE]
 .show cd (v,u) / 4194304=cd (v,u') / 4194304;rw[vN (hO.b2 hE a1).2,vN (hO.b2 hE a2).2]
end
theorem Kb:∀ {P:List (Int×Int)},(P.map (·.1)).Nodup->∀ {u w:Int},(u,w)∈P->nX P u=w
 |p::P,hn,u,w,h=>by
  rw[aAi,aAy]at hn;unfold nX;rcases aAf.1 h with rfl|h
  .rw[aAe rfl]
  .rw[aAa fun e=>hn.1 (by rw[e];exact aAx (f:=(·.1)) h)];exact Kb hn.2 h
section
variable {E:List Ed} {F:List (List Int)} (hO:jH E F) (hE:BlE E)
include hO hE
theorem jH.getA_eq(v:Int):dA v (aY F)=((F.flatMap trs).filter fun t=>decide (t.2.1=v)).map fun t=>(t.1,t.2.2):=by rw[xT,Mk v _ ((wW F).nodup_iff.2 hO.nd)]
theorem jH.keys(v:Int):((dA v (aY F)).map (·.1)).Nodup/\∀ u,u∈(dA v (aY F)).map (·.1)↔(u,v)∈PF F:=by
 rw[hO.getA_eq hE,aBd];have hn:=(wW F).nodup_iff.2 hO.nd;constructor
 .unfold List.Nodup at hn ⊢;rw[aAV]at hn ⊢;refine(hn.sublist aBp).imp_of_mem fun {s t} hs ht Wu e=>Wu ?_;rw[aAr,aAL]at hs ht;exact aDG e (by rw[hs.2,ht.2])
 .intro u;rw[<- (wW F).mem_iff,aAm,aAm];constructor
  .rintro⟨t,ht,rfl⟩;rw[aAr,aAL]at ht;exact⟨t,ht.1,by rw[<- ht.2];rfl⟩
  .rintro⟨t,ht,e⟩;injection e with e1 e2;exact⟨t,by rw[aAr,aAL];exact⟨ht,e2⟩,e1⟩
theorem jH.step{u v:Int}(h:(u,v)∈PF F):(∃ r∈F,(u,v)∈prs r/\(v,nX (dA v (aY F)) u)∈prs r)/\sgV E F (cd (v,u))=cd (v,nX (dA v (aY F)) u):=by
 obtain⟨w,h1,r,hr,k1,k2,k3⟩:=hO.next hE h;have Xl:(u,w)∈dA v (aY F):=by rw[hO.getA_eq hE];exact aAm.2 ⟨(u,v,w),by rw[aAr];exact⟨h1,sS⟩,rfl⟩
 rw[Kb (hO.keys hE v).1 Xl,hO.sgV_at hE h];exact⟨⟨r,hr,k1,k2⟩,k3⟩
theorem jH.round(h0:E≠[]){v:Int}(hv:v∈vsF E):(cA (dA v (aY F))).Nodup/\cA (dA v (aY F))≠[]/\(∀ u,u∈cA (dA v (aY F))↔∃ e∈E,prE e=prP v u)/\
 ∀ u∈cA (dA v (aY F)),∃ r∈F,(u,v)∈prs r/\(v,nx (cA (dA v (aY F))) u)∈prs r:=by
 have hk:=hO.keys hE v;have YH:=fun u (h:(u,v)∈PF F)=>hO.step hE h;have Yr:=fun u u' (h:(u,v)∈PF F) (h':(u',v)∈PF F)=>hO.one_turn hE h0 h h';have hb:=fun p (h:p∈PF F)=>hO.b2 hE h;obtain⟨u0,hu0⟩:∃ u,(u,v)∈PF F:=by
  obtain⟨e,he,k⟩:=(bM v E).1 hv;have h1:=(hO.mem e.a e.b).2 ⟨e,he,rfl⟩;rcases k with rfl|rfl
  .exact⟨_,hO.swap hE h1⟩
  .exact⟨_,h1⟩
 have hswap:=fun u w (h:(u,w)∈PF F)=>hO.swap hE h;generalize dA v (aY F)=P at *;have hK0:P.map (·.1)≠[]:=aCo ((hk.2 u0).2 hu0);have hP:P≠[]:=fun e=>hK0 (by rw[e];rfl);have hf:(mn (P.map (·.1)),v)∈PF F:=(hk.2 _).1 (xB hK0);generalize hfe:mn (P.map (·.1))=f at *;let nv:Int->Int:=fun x=>if x∈P.map (·.1)then nX P x else x
 have nvin:∀ u,(u,v)∈PF F->nv u=nX P u:=fun u hu=>aAe ((hk.2 u).2 hu);have nvPF:∀ u,(u,v)∈PF F->(nv u,v)∈PF F:=fun u hu=>by rw[nvin u hu];obtain⟨⟨r,hr,_,k⟩,_⟩:=YH u hu;exact hswap _ _ (gN.2 ⟨r,hr,k⟩)
 have itPF:∀ n u,(u,v)∈PF F->(it nv n u,v)∈PF F/\it (sgV E F) n (cd (v,u))=cd (v,it nv n u):=by
  intro n;induction n with
  |zero=>intro u hu;exact⟨hu,rfl⟩
  |succ n ih=>intro u hu;obtain⟨i1,i2⟩:=ih u hu;rw[cJ,cJ,i2,(YH _ i1).2,<- nvin _ i1];exact⟨nvPF _ i1,rfl⟩
 have orb:∀ u u',(u,v)∈PF F->(u',v)∈PF F->Orb nv u u':=fun u u' hu O5=>by obtain⟨n,hn⟩:=Yr u u' hu O5;rw[(itPF n u hu).2]at hn;have:=pT (hb _ (hswap _ _ (itPF n u hu).1)).2 (hb _ (hswap _ _ O5)).2 hn;injection this with _ e;exact⟨n,e⟩
 have hper:∃ p,0<p/\it nv p f=f:=by obtain⟨n,hn⟩:=orb (nv f) f (nvPF f hf) hf;exact⟨n+1,oO,hn⟩
 obtain⟨p,⟨hp0,hpf⟩,ZP⟩:=least (P:=fun n=>0<n/\it nv n f=f) hper.choose_spec;have hdist:∀ i j,i<j->j<p->it nv i f≠it nv j f:=by
  intro i j hij hj e;have h1:it nv (p-j) (it nv j f)=f:=by rw[<- mN,show p-j+j=p by omega,hpf]
  rw[<- e,<- mN]at h1;exact ZP (p-j+i) oO ⟨oO,h1⟩
 have hnd:((List.range p).map fun k=>it nv k f).Nodup:=by unfold List.Nodup;rw[aAV];exact(aBY (n:=p)).imp_of_mem fun {i j} _ hj hij=>hdist i j hij (aBa.1 hj)
 have Yp:∀ u,u∈((List.range p).map fun k=>it nv k f)↔(u,v)∈PF F:=fun u=>by
  constructor
  .intro h;obtain⟨k,_,rfl⟩:=aAm.1 h;exact(itPF k f hf).1
  .intro hu;obtain⟨n,rfl⟩:=orb f u hf hu;exact aAm.2 ⟨n % p,aBa.2 (aCD _ hp0),(Hz hp0 hpf n).symm⟩
 have hlen:p=P.length:=by
  have:=(BM hnd hk.1 (fun x hx=>(hk.2 x).2 ((Yp x).1 hx)) (by
   refine aAF hk.1 fun x hx=>(Yp x).2 ((hk.2 x).1 hx))).length_eq
  simpa using this
 have I1:∀ m k,k+m=p->0<m->goR P f m (it nv k f)=(List.range' k m).map fun k=>it nv k f:=by
  intro m;induction m with
  |zero=>intro k _ h;omega
  |succ m ih=>
   intro k ZU _;have e1:nX P (it nv k f)=it nv (k+1) f:=by rw[cJ,nvin _ (itPF k f hf).1]
   rw[List.range'_succ,aAi,goR,e1]
   congr 1
   by_cases hm:0<m
   .rw[aAe ⟨fun e=>ZP (k+1) oO ⟨oO,e⟩,hm⟩];exact ih (k+1) oO hm
   .rw[aAa fun h=>hm h.2];have:m=0:=oO;subst this;rfl
 have hR:cA P=(List.range p).map fun k=>it nv k f:=by unfold cA;rw[hfe,<- hlen,List.range_eq_range'];exact I1 p 0 oO hp0
 rw[hR];refine⟨hnd,?_,fun u=>?_,fun u hu=>?_⟩
 .intro e;have:=congrArg List.length e;simp at this;omega
 .rw[Yp,hO.mem];constructor
  .rintro⟨e,he,k⟩;exact⟨e,he,by rw[k];exact bL _ _⟩
  .rintro⟨e,he,k⟩;exact⟨e,he,by rw[k];exact bL _ _⟩
 .have huv:=(Yp u).1 hu;obtain⟨⟨r,hr,k1,k2⟩,_⟩:=YH u huv;refine⟨r,hr,k1,?_⟩;obtain⟨k,ZU,rfl⟩:=aAm.1 hu;rw[aBa]at ZU;have hl:((List.range p).map fun k=>it nv k f).length=p:=sS;have e1:=gB hnd (j:=k) (by rw[hl];exact ZU);simp only[aCl,List.getElem_range,hl]at e1;rw[e1,<- Hz hp0 hpf,cJ,nvin _ huv];exact k2
end
theorem JU{P Q:List Int}{y z:Int}(hn:(P++y::z::Q).Nodup):nx (P++y::z::Q) y=z:=by
 have hk:P.length<(P++y::z::Q).length:=sS;have e:(P++y::z::Q)[P.length]=y:=by rw[aBA (aAk _)];simp
 have:=gB hn hk;rw[e]at this;rw[this];have e2:(P.length+1) % (P++y::z::Q).length=P.length+1:=aAM sS;simp only[e2];rw[aBA oO];simp
theorem ES{z:Int}{Q P:List Int}{y:Int}(hn:(z::Q).Nodup)(h:z::Q=P++[y]):nx (z::Q) y=z:=by
 have h0:(P++[y])[0]?=some z:=by rw[<- h];rfl
 rw[h]at hn ⊢;have hk:P.length<(P++[y]).length:=sS;have e:(P++[y])[P.length]=y:=by rw[aBA (aAk _)];simp
 have:=gB hn hk;rw[e]at this;rw[this];have e2:(P.length+1) % (P++[y]).length=0:=sS;simp only[e2];rw[aAd sS,aAb]at h0;exact h0
theorem Tf{R:List Int}{S:Int->List Int}(hR:R.Nodup)(hn:(R.flatMap S).Nodup)(hS:∀ x∈R,S x≠[]){x:Int}(hx:x∈R):
 (∀ p y z q,S x=p++y::z::q->nx (R.flatMap S) y=z)/\∀ p y,S x=p++[y]->∃ z q,S (nx R x)=z::q/\nx (R.flatMap S) y=z:=by
 obtain⟨A,B,rfl⟩:=aCd hx;constructor
 .intro p y z q h;have e:(A++x::B).flatMap S=(A.flatMap S++p)++y::z::(q++B.flatMap S):=by simp[aCN,aAC,h]
  rw[e]at hn ⊢;exact JU hn
 .intro p y h;cases B with
  |cons x' B=>
   have h2:=hS x' sS;obtain⟨z,q,hz⟩:=aCj h2;refine⟨z,q,?_,?_⟩
   .rw[JU hR,hz]
   .have e:(A++x::x'::B).flatMap S=(A.flatMap S++p)++y::z::(q++B.flatMap S):=by simp[aCN,aAC,h,hz]
    rw[e]at hn ⊢;exact JU hn
  |nil=>
   cases A with
   |nil=>
    obtain⟨z,q,hz⟩:=aCj (hS x sS);refine⟨z,q,?_,?_⟩
    .have e:nx [x] x=x:=ES (z:=x) (Q:=[]) (P:=[]) sS rfl;rw[List.nil_append,e,hz]
    .have e:([]++[x]).flatMap S=z::q:=by simp[hz]
     rw[e]at hn ⊢;exact ES hn (by rw[<- hz,h])
   |cons x' A=>
    obtain⟨z,q,hz⟩:=aCj (hS x' sS);refine⟨z,q,?_,?_⟩
    .have e:nx (x'::A++[x]) x=x':=ES (z:=x') (Q:=A++[x]) (P:=x'::A) (by simpa using hR) sS;rw[e,hz]
    .have e:(x'::A++[x]).flatMap S=z::(q++A.flatMap S++(p++[y])):=by simp[aCN,aAC,h,hz]
     rw[e]at hn ⊢;exact ES (P:=z::(q++A.flatMap S++p)) hn sS
theorem lB:∀ G:List (List (List Int)),(G.map List.flatten).flatten=G.flatten.flatten
 |[]=>rfl
 |a::G=>by rw[aAi,List.flatten_cons,List.flatten_cons,aCb,lB G]
noncomputable def fcs(al:Int->Int)(D:List Int)(Rs:List (List Int)):Nat:=ncl (Orb fun d=>sgR Rs (al d)) D
def fK(Rs:List (List Int)):Nat:=(Rs.filter fun t=>decide (t≠[])).length
structure Inv2(al:Int->Int)(D:List Int):Prop where
 two:∀ d,al (al d)=d
 mem:∀ d∈D,al d∈D
section
variable {al:Int->Int} {D:List Int} (G0:Inv2 al D) (YR:∀ d,d∉D->al d=d)
include G0 YR
theorem JL{Rs:List (List Int)}(hn:Rs.flatten.Nodup)(hD:∀ d∈Rs.flatten,d∈D):iM D fun d=>sgR Rs (al d):=by
 have h:=lA hn;refine⟨fun x hx=>?_,fun x y e=>?_,fun x hx=>?_⟩
 .by_cases hy:al x∈Rs.flatten
  .exact hD _ (h.mem _ hy)
  .show sgR Rs (al x)∈D;rw[h.out _ hy];exact G0.mem x hx
 .have:=h.inj _ _ e;rw[<- G0.two x,this,G0.two]
 .show sgR Rs (al x)=x;rw[YR x hx,h.out x fun k=>hx (hD x k)]
theorem Vh(a b d:Int):Eu.sw a b (al d)=al (Eu.sw (al a) (al b) d):=by
 by_cases h1:d=al a
 .subst h1;rw[Bb,G0.two,G0.two,Bb]
 .by_cases h2:d=al b
  .subst h2;rw[FE,G0.two,G0.two,FE]
  .rw[tA h1 h2,tA (fun e=>h1 (by rw[<- e,G0.two])) (fun e=>h2 (by rw[<- e,G0.two]))]
omit G0 YR in
theorem pB{Rs S2:List (List Int)}(hn:Rs.flatten.Nodup)(hp:Rs.Perm S2):fcs al D Rs=fcs al D S2:=by
 unfold fcs;have:(fun d=>sgR Rs (al d))=fun d=>sgR S2 (al d):=by funext d;exact Oo hn hp _
 rw[this]
omit G0 YR in
theorem mS{Rs S2:List (List Int)}(hp:Rs.Perm S2):fK Rs=fK S2:=(hp.filter _).length_eq
omit G0 YR in
theorem Dh(Rs:List (List Int)):fcs al D ([]::Rs)=fcs al D Rs:=by
 unfold fcs;have:(fun d=>sgR ([]::Rs) (al d))=fun d=>sgR Rs (al d):=by
  funext d;unfold sgR;rw[aCZ sS]
 rw[this]
omit G0 YR in
theorem Am(Rs:List (List Int)):fK ([]::Rs)=fK Rs:=by simp[fK]
theorem TO{A B:List Int}{Rs:List (List Int)}(hn:(A::B::Rs).flatten.Nodup)(hD:∀ d∈(A::B::Rs).flatten,d∈D):fcs al D (A::B::Rs)+fK ((A++B)::Rs)<=fcs al D ((A++B)::Rs)+fK (A::B::Rs):=by
 by_cases hA:A=[]
 .subst hA;rw[Dh,Am,List.nil_append];exact aAk _
 by_cases hB:B=[]
 .subst hB;have hp:(A::[]::Rs).Perm ([]::A::Rs):=List.Perm.swap _ _ _;rw[pB hn hp,mS hp,Dh,Am,aAK];exact aAk _
 have e:(fun d=>sgR ((A++B)::Rs) (al d))=fun d=>(fun d=>sgR (A::B::Rs) (al d)) (Eu.sw (al (A.getLast hA)) (al (B.getLast hB)) d):=by
  funext d
  show sgR ((A++B)::Rs) (al d)=sgR (A::B::Rs) (al (Eu.sw (al (A.getLast hA)) (al (B.getLast hB)) d));rw[RV hn hA hB,Vh G0 YR]
 have hP:=JL G0 YR hn hD;have ha:al (A.getLast hA)∈D:=G0.mem _ (hD _ sS);have hb:al (B.getLast hB)∈D:=G0.mem _ (hD _ sS);have:=UT hP ha hb;have h1:fcs al D (A::B::Rs)<=fcs al D ((A++B)::Rs)+1:=by unfold fcs;rw[e];exact this
 have h2:fK (A::B::Rs)=fK Rs+2:=by simp[fK,hA,hB]
 have h3:fK ((A++B)::Rs)=fK Rs+1:=by simp[fK,hA]
 omega
theorem PJ:∀(L:List (List Int)) {Rs:List (List Int)},(L++Rs).flatten.Nodup->(∀ d∈(L++Rs).flatten,d∈D)->fcs al D (L++Rs)+fK (L.flatten::Rs)<=fcs al D (L.flatten::Rs)+fK (L++Rs)
 |[],Rs,_,_=>by rw[List.nil_append,List.flatten_nil,Dh,Am];exact aAk _
 |A::L,Rs,hn,hD=>by have p1:(A::L++Rs).Perm (L++A::Rs):=aBO.symm;have Yi:(L++A::Rs).flatten.Nodup:=p1.flatten.nodup_iff.1 hn;have hD1:∀ d∈(L++A::Rs).flatten,d∈D:=fun d hd=>hD d (p1.flatten.mem_iff.2 hd);have ih:=PJ L Yi hD1;have e2:(L.flatten::A::Rs).flatten=(L++A::Rs).flatten:=sS;have p2:(L.flatten::A::Rs).Perm (A::L.flatten::Rs):=List.Perm.swap _ _ _;have Zk:(A::L.flatten::Rs).flatten.Nodup:=p2.flatten.nodup_iff.1 (by rw[e2];exact Yi);have hD2:∀ d∈(A::L.flatten::Rs).flatten,d∈D:=fun d hd=>hD1 d (by rw[<- e2];exact p2.flatten.mem_iff.2 hd);have m1:=TO G0 YR Zk hD2;rw[pB hn p1,mS p1,List.flatten_cons];rw[pB (by rw[e2];exact Yi) p2,mS p2]at ih;omega
theorem Ou:∀(G:List (List (List Int))) {Rs:List (List Int)},(G.flatten++Rs).flatten.Nodup->(∀ d∈(G.flatten++Rs).flatten,d∈D)->fcs al D (G.flatten++Rs)+fK (G.map List.flatten++Rs)<=fcs al D (G.map List.flatten++Rs)+fK (G.flatten++Rs)
 |[],Rs,_,_=>by simp
 |L::G,Rs,hn,hD=>by
  have e0:(L::G).flatten++Rs=L++(G.flatten++Rs):=sS;rw[e0]at hn hD;have m1:=PJ G0 YR L hn hD;have p1:(L.flatten::(G.flatten++Rs)).Perm (G.flatten++L.flatten::Rs):=aBO.symm;have e1:(L.flatten::(G.flatten++Rs)).flatten=(L++(G.flatten++Rs)).flatten:=sS;have Yi:(L.flatten::(G.flatten++Rs)).flatten.Nodup:=by rw[e1];exact hn
  have Zk:(G.flatten++L.flatten::Rs).flatten.Nodup:=p1.flatten.nodup_iff.1 Yi;have hD2:∀ d∈(G.flatten++L.flatten::Rs).flatten,d∈D:=fun d hd=>hD d (by rw[<- e1];exact p1.flatten.mem_iff.2 hd);have ih:=Ou G Zk hD2;have p2:(G.map List.flatten++L.flatten::Rs).Perm (L.flatten::(G.map List.flatten++Rs)):=aBO;have hf:(G.map List.flatten++L.flatten::Rs).flatten.Perm (G.flatten++L.flatten::Rs).flatten:=by
   have:(G.map List.flatten++L.flatten::Rs).flatten=(G.flatten++L.flatten::Rs).flatten:=by rw[aCb,aCb,lB]
   rw[this]
  have hn3:(G.map List.flatten++L.flatten::Rs).flatten.Nodup:=hf.nodup_iff.2 Zk;rw[pB Yi p1,mS p1]at m1;rw[pB hn3 p2,mS p2]at ih;rw[e0,aAi,List.cons_append];omega
end
theorem zI{x y:Ed}:bes x y=true↔prE x=prE y:=by
 rw[nU];constructor
 .rintro(⟨h1,h2⟩|⟨h1,h2⟩)
  .show prP _ _=prP _ _;rw[h1,h2]
  .show prP _ _=prP _ _;rw[h1,h2];exact bL _ _
 .intro h;rcases cH h with⟨h1,h2⟩|⟨h1,h2⟩
  .exact .inl ⟨h1,h2⟩
  .exact .inr ⟨h1,h2⟩
theorem AG(l:List Ed):((sE l).map prE).Nodup:=by unfold List.Nodup;rw[aAV];exact(AA l).imp fun {x y} h e=>by rw[zI.2 e]at h;cases h
theorem BR{l:List Ed}:l.Pairwise (fun x y=>x.id<y.id)->∀ x∈l,∃ y∈sE l,prE y=prE x/\y.id<=x.id:=by
 induction l using uQ with
 |h0=>intro _ x hx;cases hx
 |h1 l z ih=>
  intro hp x hx;rw[aBw]at hp;rw[jZ];rcases aAg.1 hx with h|h
  .obtain⟨y,h1,h2⟩:=ih hp.1 x h
   split
   .exact⟨y,h1,h2⟩
   .exact⟨y,aAt _ h1,h2⟩
  .rw[aAl]at h;subst h
   split
   .rename_i ha;rw[aBX]at ha;obtain⟨y,h1,h2⟩:=ha;exact⟨y,h1,(zI.1 h2).symm,Int.le_of_lt (hp.2.2 y (mK _ y h1) x sS)⟩
   .exact⟨x,sS,rfl,aCe _⟩
theorem iX{α β:Type}{f:α->List β}:∀ {l:List α},l.Nodup->(∀ x∈l,(f x).Nodup)->(∀ x∈l,∀ y∈l,∀ z,z∈f x->z∈f y->x=y)->(l.flatMap f).Nodup
 |[],_,_,_=>.nil
 |x::l,hl,h1,h2=>by obtain⟨k1,k2⟩:=aAy.1 hl;rw[aAC,aAs];refine⟨h1 x aAo,iX k2 (fun y hy=>h1 y (aAj _ hy)) fun y hy z hz=>h2 y (aAj _ hy) z (aAj _ hz),?_⟩;rintro a ha b hb rfl;obtain⟨y,hy,hay⟩:=aAR.1 hb;have:=h2 x aAo y (aAj _ hy) a ha hay;exact k1 (by rw[this];exact hy)
theorem Iu{P Q:List Int}{y z:Int}(hn:(P++y::z::Q).Nodup):pv (P++y::z::Q) z=y:=by
 have hk:P.length+1<(P++y::z::Q).length:=sS;have e:(P++y::z::Q)[P.length+1]=z:=by rw[aBA oO];simp
 have hz:z∈P++y::z::Q:=sS;have hi:(P++y::z::Q).idxOf z=P.length+1:=by
  have:=hn.idxOf_getElem (P.length+1) hk
  rwa [e]at this
 unfold pv;rw[aAe hz,hi];have e2:(P.length+1+((P++y::z::Q).length-1)) % (P++y::z::Q).length=P.length:=by have hl:(P++y::z::Q).length=P.length+(Q.length+2):=sS;rw[show P.length+1+((P++y::z::Q).length-1)=P.length+(P++y::z::Q).length by omega,aDy,aAM oO]
 rw[e2,aAc,aBk (aAk _)];simp
abbrev seg(g:Gr)(v x:Int):List Int:=eS (jK g v x) v x
def dAt(v:Int)(e:Ed):Int:=2*e.id+if e.b=v then 1 else 0
theorem jE(v:Int)(e:Ed):dAt v e / 2=e.id:=by unfold dAt;split<;>omega
theorem oA{g:Gr}{v x:Int}{e:Ed}:e∈jK g v x↔e∈g.es/\prE e=prP v x:=by unfold jK jJ;rw[aAr,aAL]
theorem jT{g:Gr}{v x d:Int}:d∈seg g v x↔∃ e∈g.es,prE e=prP v x/\d=dAt v e:=by
 unfold seg eS;have key:d∈((jK g v x).map fun e=>2*e.id+if e.b=v then 1 else 0)↔∃ e∈g.es,prE e=prP v x/\d=dAt v e:=by
  rw[aAm];constructor
  .rintro⟨e,he,rfl⟩;exact⟨e,(oA.1 he).1,(oA.1 he).2,rfl⟩
  .rintro⟨e,h1,h2,rfl⟩;exact⟨e,oA.2 ⟨h1,h2⟩,rfl⟩
 split
 .rw[aCm,key]
 .exact key
section
variable {g:Gr} (hg:GoodE g)
include hg
theorem NR{e:Ed}(he:e∈g.es){v x:Int}(h:prE e=prP v x):tw (dAt v e)=dAt x e:=by
 have Wu:=hg.ne e he;unfold tw dAt;rcases cH h with⟨h1,h2⟩|⟨h1,h2⟩
 .rw[aAa (show ¬e.b=v by omega),aAe (show e.b=x by omega),aAe oO];omega
 .rw[aAe (show e.b=v by omega),aAa (show ¬e.b=x by omega),aAa oO];omega
theorem Ow{e f:Ed}(he:e∈g.es)(hf:f∈g.es)(h:e.id=f.id):e=f:=id_eq hg.ids he hf h
theorem mX(v x:Int):(seg g v x).Nodup:=by
 have key:((jK g v x).map fun e=>2*e.id+if e.b=v then 1 else 0).Nodup:=by unfold List.Nodup;rw[aAV];refine(hg.ids.sublist (aBp (p:=fun e=>decide (prE e=prP v x)))).imp fun {a b} h e=>?_;have h1:=jE v a;have h2:=jE v b;unfold dAt at h1 h2;omega
 unfold seg eS
 split
 .exact(aDg _).nodup_iff.2 key
 .exact key
theorem Ub{v x:Int}(Wu:v≠x):seg g x v=((seg g v x).map tw).reverse:=by
 have hb:jK g x v=jK g v x:=by unfold jK;rw[bL]
 have key:((jK g v x).map fun e=>2*e.id+if e.b=x then 1 else 0)=((jK g v x).map fun e=>2*e.id+if e.b=v then 1 else 0).map tw:=by rw[aBd];refine aAU fun e he=>?_;exact(NR hg (oA.1 he).1 (oA.1 he).2).symm
 unfold seg eS;rw[hb,key];by_cases h:x<v
 .rw[aAa oO,aAe h,List.map_reverse,aDQ]
 .rw[aAe oO,aAa h]
def edD(g:Gr)(d:Int):Ed:=(g.es.find? fun e=>decide (e.id=d / 2)).getD ed0
def dvt(g:Gr)(d:Int):Int:=if d % 2=0 then(edD g d).a else(edD g d).b
def dot(g:Gr)(d:Int):Int:=if d % 2=0 then(edD g d).b else(edD g d).a
theorem Ui{e:Ed}(he:e∈g.es){d:Int}(h:d / 2=e.id):edD g d=e:=by
 unfold edD;cases hf:g.es.find? fun e=>decide (e.id=d / 2) with
 |none=>exact absurd h.symm (by simpa using aCF.1 hf e he)
 |some f=>have h1:=aCr hf;have h2:=aDq hf;rw[aAL]at h2;show f=e;exact Ow hg h1 he oO
theorem Pz{e:Ed}(he:e∈g.es){v x:Int}(h:prE e=prP v x):dvt g (dAt v e)=v/\dot g (dAt v e)=x:=by
 have Wu:=hg.ne e he;unfold dvt dot;rw[Ui hg he (jE v e)];unfold dAt;rcases cH h with⟨h1,h2⟩|⟨h1,h2⟩
 .rw[aAa (show ¬e.b=v by omega),aAe oO,aAe oO];exact⟨h1,h2⟩
 .rw[aAe (show e.b=v by omega),aAa oO,aAa oO];exact⟨h2,h1⟩
theorem yI{v x d:Int}(h:d∈seg g v x):dvt g d=v/\dot g d=x:=by obtain⟨e,he,hp,rfl⟩:=jT.1 h;exact Pz hg he hp
theorem PI{d:Int}(h:d∈aO g.es):∃ e∈g.es,prE e=prP (dvt g d) (dot g d)/\d=dAt (dvt g d) e/\d∈seg g (dvt g d) (dot g d):=by
 obtain⟨e,he,hd⟩:=dS.1 h;have Wu:=hg.ne e he;have key:∀ v x,prE e=prP v x->d=dAt v e->∃ e∈g.es,prE e=prP (dvt g d) (dot g d)/\d=dAt (dvt g d) e/\d∈seg g (dvt g d) (dot g d):=fun v x hp hd=>by obtain⟨k1,k2⟩:=Pz hg he hp;rw[<- hd]at k1 k2;rw[k1,k2];exact⟨e,he,hp,hd,jT.2 ⟨e,he,hp,hd⟩⟩
 rcases hd with hd|hd
 .exact key e.a e.b rfl (by unfold dAt;rw[aAa (fun k=>Wu k.symm)];omega)
 .exact key e.b e.a (bL _ _) (by unfold dAt;rw[aAe rfl];exact hd)
theorem Hp{v x d:Int}(h:d∈seg g v x):d∈aO g.es:=by obtain⟨e,he,hp,rfl⟩:=jT.1 h;exact aV.2 ⟨e,he,(jE _ _).symm⟩
theorem PE{v d:Int}:d∈ends g.es v↔∃ e∈g.es,(∃ x,prE e=prP v x)/\d=dAt v e:=by
 rw[cC];constructor
 .rintro⟨e,he,⟨h1,h2⟩|⟨h1,h2⟩⟩
  .have:=hg.ne e he;exact⟨e,he,⟨e.b,by rw[<- h1]⟩,by unfold dAt;rw[aAa oO];omega⟩
  .exact⟨e,he,⟨e.a,by rw[<- h1];exact bL _ _⟩,by unfold dAt;rw[aAe h1];exact h2⟩
 .rintro⟨e,he,⟨x,hp⟩,rfl⟩;have:=hg.ne e he;refine⟨e,he,?_⟩;unfold dAt;rcases cH hp with⟨h1,h2⟩|⟨h1,h2⟩
  .exact .inl ⟨h1,by rw[aAa oO];omega⟩
  .exact .inr ⟨h2,by rw[aAe h2]⟩
end
def bt(g:Gr)(F:List (List Int))(v:Int):List Int:=(cA (dA v (aY F))).flatMap (seg g v)
theorem DM(v v':Int)(ds:List Int):∀ T:TL,dV v (oV v' ds T)=if v=v' then dV v T++ds else dV v T
 |[]=>by
  unfold oV dV dV;by_cases h:v=v'
  .simp[h]
  .rw[aAa fun e=>h e.symm,aAa h]
 |p::T=>by
  have ih:=DM v v' ds T;unfold oV;by_cases hp:p.1=v'
  .rw[aAe hp];by_cases h:v=v'
   .simp[dV,h,hp]
   .simp only[dV,aAa h,aAa (fun e:v'=v=>h e.symm),aAa (fun e:p.1=v=>h (by rw[<- e,hp]))]
  .rw[aAa hp];by_cases h:v=v'
   .rw[aAe h]at ih ⊢;simp only[dV,aAa (fun e:p.1=v=>hp (by rw[e,h])),ih]
   .rw[aAa h]at ih ⊢;simp only[dV,ih]
theorem Bl(g:Gr)(v v':Int):∀(L:List Int) (T:TL),dV v (dM g v' L T)=if v=v' then dV v T++L.flatMap (seg g v')else dV v T
 |[],T=>by simp[dM]
 |x::L,T=>by
  have ih:=Bl g v v' L (oV v' (seg g v' x) T);have e:dM g v' (x::L) T=dM g v' L (oV v' (seg g v' x) T):=rfl;rw[e,ih,DM];by_cases h:v=v'
  .simp[h,aAC]
  .simp[h]
theorem Bh(g:Gr)(A:Tn)(v:Int):∀(K:List Int) (T:TL),K.Nodup->dV v (fB g A K T)=if v∈K then dV v T++(cA (dA v A)).flatMap (seg g v)else dV v T
 |[],T,_=>by simp[fB]
 |k::K,T,hn=>by
  obtain⟨h1,h2⟩:=aAy.1 hn;have ih:=Bh g A v K (dM g k (cA (dA k A)) T) h2;have e:fB g A (k::K) T=fB g A K (dM g k (cA (dA k A)) T):=rfl;rw[e,ih,Bl];by_cases h:v=k
  .subst h;rw[aAa h1,aAe rfl,aAe aAo]
  .rw[aAa h];by_cases h3:v∈K
   .rw[aAe h3,aAe (aAj _ h3)]
   .rw[aAa h3,aAa (by simp[h,h3])]
theorem Cy{v:Int}:∀ {A:Tn},v∉A.map (·.1)->dA v A=[]
 |[],_=>rfl
 |a::A,h=>by rw[aAi,aAf,aBV]at h;unfold dA;rw[aAa fun e=>h.1 e.symm,Cy h.2]
theorem mT:cA []=[]:=rfl
theorem Kz(g:Gr)(F:List (List Int))(T:TL)(v:Int):dV v (vB g F T)=dV v T++bt g F v:=by
 have hn:(oX ((aY F).map (·.1))).Nodup:=(zH _).imp fun k=>by omega
 unfold vB;rw[Bh g _ v _ T hn]
 split
 .rfl
 .rename_i h;rw[pX]at h;unfold bt;rw[Cy h,mT];simp
theorem Bg(g:Gr):∀(bl:List (List Ed)) (T T':TL),FI g bl T=some (some T')->∃ Bs:List (List Ed×List (List Int)),Bs.map (·.1)=bl/\(∀ p∈Bs,Au p.1=some (some p.2))/\∀ v,dV v T'=dV v T++Bs.flatMap fun p=>bt g p.2 v
 |[],T,T',h=>by
  simp only[FI,aAb]at h;subst h;refine⟨[],?_,?_,?_⟩
  .rfl
  .intro p hp;cases hp
  .intro v;simp
 |l::bl,T,T',h=>by
  unfold FI at h;cases hd:Au l with
  |none=>rw[hd]at h;simp at h
  |some o=>
   rw[hd]at h;cases o with
   |none=>simp at h
   |some F=>
    simp only[Option.bind_some]at h
    split at h
    .obtain⟨Bs,h1,h2,h3⟩:=Bg g bl _ T' h;refine⟨(l,F)::Bs,by rw[aAi,h1],fun p hp=>?_,fun v=>?_⟩
     .rcases aAf.1 hp with rfl|hp
      .exact hd
      .exact h2 p hp
     .rw[h3,Kz,aAC,aAD]
    .cases h
theorem Hv(R:Int->Int->Prop)(x:Int)(A B:List Int):oG R x (A++B)=oG R x A+oG R x B:=by unfold oG;exact List.countP_append
theorem FO{R:Int->Int->Prop}{x:Int}(r:Int->Int){v:Int}(h:R x (r v)):∀ {U:List Int},v∈U->3<=oG R x (U.flatMap fun v=>[r v,r v,r v])
 |u::U,hv=>by
  rw[aAC,Hv];rcases aAf.1 hv with rfl|hv
  .have:oG R x [r v,r v,r v]=3:=by unfold oG;simp[h]
   omega
  .have:=FO r h hv;omega
theorem Jf(r:Int->Int):∀ U:List Int,(U.flatMap fun v=>[r v,r v,r v]).length=3*U.length
 |[]=>rfl
 |u::U=>by rw[aAC,aAh,Jf r U];simp only[List.length_cons,List.length_nil];omega
theorem sW(s a:Int->Bool):∀ l:List Int,(∀ v∈l,s v=true->a v=false)->(l.filter fun v=>!s v&&!a v).length+l.countP a+(l.filter s).length=l.length
 |[],_=>rfl
 |v::l,h=>by have ih:=sW s a l fun w hw=>h w (aAj _ hw);have hv:=h v aAo;rw[List.countP_cons];cases e1:s v<;>cases e2:a v<;>simp_all<;>omega
section
variable {m:Mp} (h:cE m) (hg:Aw.gn m=0) (p:Ed->Bool) (s:Int->Bool)
 (hp:∀ x∈m.g.es,p x=true->s x.a=true/\s x.b=true)
 (hsim:∀ x∈m.g.es.filter p,∀ y∈m.g.es.filter p,(x.a=y.a/\x.b=y.b)\/(x.a=y.b/\x.b=y.a)->x=y)
 (S8:∀ v∈m.g.vs,s v=true->6<=(ends (m.g.es.filter p) v).length)
include h hg hp hsim S8
theorem RS{v0:Int}(hv0:v0∈m.g.vs)(S9:s v0=true):(m.g.es.filter p).length+6<=3*(m.g.vs.filter s).length:=by
 have hT:∀ y∈m.g.es.filter p,y∈m.g.es:=fun y hy=>(aAr.1 hy).1;have hid:(m.g.es.filter p).Pairwise (fun x y=>x.id<y.id):=h.g.ids.filter _;have hpart:=h.euler_part hg p;have Yf:∀ {v d},d∈ends (m.g.es.filter p) v->d∈ends m.g.es v/\d∈aO (m.g.es.filter p):=fun {v d} hd=>by refine⟨?_,kG hd⟩;obtain⟨x,hx,k⟩:=cC.1 hd;exact cC.2 ⟨x,hT x hx,k⟩
 have hends2:∀ {v d},d∈ends m.g.es v->d∈aO (m.g.es.filter p)->d∈ends (m.g.es.filter p) v:=fun {v d} h1 h2=>by obtain⟨x,hx,k⟩:=cC.1 h1;obtain⟨y,hy,k2⟩:=dS.1 h2;have:x=y:=id_eq h.g.ids hx (hT y hy) oO;subst this;exact cC.2 ⟨x,hy,k⟩
 have hsT:∀ {v d},d∈ends (m.g.es.filter p) v->s v=true/\v∈m.g.vs:=fun {v d} hd=>by
  obtain⟨x,hx,k⟩:=cC.1 hd;have h1:=hp x (hT x hx) (aAr.1 hx).2;have h2:=h.g.ends x (hT x hx);rcases k with⟨rfl,_⟩|⟨rfl,_⟩
  .exact⟨h1.1,h2.1⟩
  .exact⟨h1.2,h2.2⟩
 have hdeg2:∀ w z,z∈aO (m.g.es.filter p)->z∈ends m.g.es w->∃ z1,z1∈aO (m.g.es.filter p)/\z1∈ends m.g.es w/\z1≠z:=fun w z h1 h2=>by
  have h3:=hends2 h2 h1;have h4:=S8 w (hsT h3).2 (hsT h3).1;have hn:=iN (rI hid w)
  match hl:ends (m.g.es.filter p) w,h4,hn with
  |a::b::_,_,hn=>
   have YC:a≠b:=fun e=>by subst e;simp at hn
   have ha:=Yf (v:=w) (d:=a) (by rw[hl];simp);have hb:=Yf (v:=w) (d:=b) (by rw[hl];simp);by_cases e:a=z
   .exact⟨b,hb.2,hb.1,fun e2=>YC (e.trans e2.symm)⟩
   .exact⟨a,ha.2,ha.1,e⟩
 have hR:=(h.fc_per _ hT).eqv;obtain⟨r,hr⟩:∃ r:Int->Int,r=fun v=>(ends m.g.es v).headD 0:=⟨_,rfl⟩;obtain⟨U,hU⟩:∃ U,U=m.g.vs.filter fun v=>!s v&&!decide (nbr m.g.es v=[]):=⟨_,rfl⟩;have hmany:=BS hR 3 (aO m.g.es) (aO (m.g.es.filter p)++U.flatMap fun v=>[r v,r v,r v]) fun d hd=>by
  obtain⟨v,hv,x,hx,_,hvx⟩:=EE hd;have G8:v∈m.g.vs:=by
   have:=h.g.ends x hx;rcases hvx with rfl|rfl
   .exact this.1
   .exact this.2
  rw[Hv];cases hs:s v with
  |true=>
   have h4:=S8 v G8 hs;obtain⟨z,hz⟩:∃ z,z∈ends (m.g.es.filter p) v:=by
    cases hl:ends (m.g.es.filter p) v with
    |nil=>rw[hl]at h4;simp at h4
    |cons a l=>exact⟨a,sS⟩
   obtain⟨z1,z2⟩:=Yf hz;obtain⟨k,k1,k2,_⟩:=h.run hv z1 z2;have ho:Orb (fc m (m.g.es.filter p)) d (it (sg m) k d):=⟨k,k1⟩;have:=h.face3 hT hsim hdeg2 k2;rw[<- SH hR ho]at this;omega
  |false=>
   have YD:∀ y∈ends m.g.es v,y∉aO (m.g.es.filter p):=fun y hy k=>by have:=(hsT (hends2 hy k)).1;rw[hs]at this;cases this
   have Wu:ends m.g.es v≠[]:=fun e=>by rw[e]at hv;cases hv
   have hrv:r v∈ends m.g.es v:=by
    rw[hr];show(ends m.g.es v).headD 0∈ends m.g.es v;generalize ends m.g.es v=l at Wu;cases l with
    |nil=>exact absurd rfl Wu
    |cons a l=>simp
   obtain⟨n,hn⟩:=h.sg_orb hv hrv;have hit:∀ j,it (fc m (m.g.es.filter p)) j d=it (sg m) j d:=fun j=>by
    induction j with
    |zero=>rfl
    |succ j ih=>rw[cJ,cJ,ih];unfold fc;rw[eP (YD _ (h.it_v hv j))]
   have hvU:v∈U:=by rw[hU,aAr];refine⟨G8,?_⟩;rw[hs];simp only[Bool.not_false,aDE,aDe,aCg];exact fun e=>Wu ((AZ _ _).2 e)
   have:=FO (R:=Orb (fc m (m.g.es.filter p))) (x:=d) r ⟨n,by rw[hit n,hn]⟩ hvU;omega
 rw[aAh,uD,Jf]at hmany;have hw:=sW s (fun v=>decide (nbr m.g.es v=[])) m.g.vs fun v hv k=>by
  have h4:=S8 v hv k;refine aBH fun e=>?_;have h5:ends m.g.es v=[]:=(AZ _ _).2 e;cases hl:ends (m.g.es.filter p) v with
  |nil=>rw[hl]at h4;simp at h4
  |cons a l=>have:=(Yf (v:=v) (d:=a) (by rw[hl];simp)).1;rw[h5]at this;cases this
 rw[<- hU]at hw
 have hlab:=lH (R:=Reach (m.g.es.filter p)) (fun v=>if s v=true then v0 else v) (D:=m.g.vs) (fun x _ y hy YK=>by
  clear hy;induction YK with
  |refl=>rfl
  |step hu hw ih=>
   rw[ih];obtain⟨x,hx,k⟩:=cM.1 hw;have h1:=hp x (hT x hx) (aAr.1 hx).2;rcases k with⟨rfl,rfl⟩|⟨rfl,rfl⟩
   .rw[aAe h1.1,aAe h1.2]
   .rw[aAe h1.2,aAe h1.1]) (v0::m.g.vs.filter fun v=>!s v) (by
  refine aAy.2 ⟨fun k=>?_,h.g.toGood.nodup.filter _⟩;have:=(aAr.1 k).2
  rw[S9]at this;cases this) fun a ha=>by
  rcases aAf.1 ha with rfl|ha
  .exact⟨a,hv0,aAe S9⟩
  .obtain⟨k1,k2⟩:=aAr.1 ha;exact⟨a,k1,aAa (by cases e:s a<;>simp_all)⟩
 have hsp:(m.g.vs.filter s).length+(m.g.vs.filter fun v=>!s v).length=m.g.vs.length:=by have:=sW s (fun _=>false) m.g.vs fun _ _ _=>rfl;have e1:(m.g.vs.filter fun v=>!s v&&!false).length=(m.g.vs.filter fun v=>!s v).length:=sS;have e2:m.g.vs.countP (fun _=>false)=0:=sS;omega
 rw[List.length_cons]at hlab;have ea:alone m.g=m.g.vs.countP fun v=>decide (nbr m.g.es v=[]):=rfl;omega
theorem Sm:6*(m.g.vs.filter s).length<=2*(m.g.es.filter p).length:=by
 have hid:(m.g.es.filter p).Pairwise (fun x y=>x.id<y.id):=h.g.ids.filter _;have hn:((m.g.vs.filter s).flatMap (ends (m.g.es.filter p))).Nodup:=iX (h.g.toGood.nodup.filter _) (fun v _=>iN (rI hid v)) fun x _ y _ z k1 k2=>dD hid k1 k2;have h1:=hn.length_le_of_subset (l₂:=aO (m.g.es.filter p)) fun d hd=>by obtain⟨v,_,k⟩:=aAR.1 hd;exact kG k
 rw[uD]at h1;have h2:∀ l:List Int,(∀ v∈l,6<=(ends (m.g.es.filter p) v).length)->6*l.length<=(l.flatMap (ends (m.g.es.filter p))).length:=fun l=>by
  induction l with
  |nil=>intro _;simp
  |cons v l ih=>intro hl;have a:=hl v aAo;have b:=ih fun w hw=>hl w (aAj _ hw);rw[aAC,aAh,List.length_cons];omega
 have:=h2 (m.g.vs.filter s) fun v hv=>S8 v (aAr.1 hv).1 (aAr.1 hv).2;omega
end
theorem KS(v:Int):∀ es:List Ed,(nbr es v).length=(ends es v).length
 |[]=>rfl
 |x::es=>by
  have ih:=KS v es;unfold nbr ends at ih ⊢;rw[aAC,aAC,aAh,aAh,ih]
  congr 1
  unfold Hj CH;rw[aAh,aAh]
  congr 1<;>split<;>rfl
theorem TU{l:List Ed}{x y:Ed}(hx:x∈sE l)(hy:y∈sE l)(e:prE x=prE y):x=y:=by
 obtain⟨i,hi,rfl⟩:=aAB hx;obtain⟨j,hj,rfl⟩:=aAB hy;have ha:=aAJ.1 (AA l);rcases aCx i j with k|k|k
 .have:=ha i j hi hj k;rw[zI.2 e]at this;cases this
 .subst k;rfl
 .have:=ha j i hj hi k;rw[zI.2 e.symm]at this;cases this
theorem Ok{m:Mp}(h:cE m)(hg:Aw.gn m=0)(s:Int->Bool){v0:Int}(hv0:v0∈m.g.vs)(S9:s v0=true):∃ v∈m.g.vs,s v=true/\∀ N:List Int,N.Nodup->(∀ w∈N,s w=true/\w∈nbr m.g.es v)->N.length<=5:=by
 refine aAG fun YD=>?_
 have hall:∀ v∈m.g.vs,s v=true->∃ N:List Int,N.Nodup/\(∀ w∈N,s w=true/\w∈nbr m.g.es v)/\6<=N.length:=fun v hv hs=>aAG fun k=>YD ⟨v,hv,hs,fun N h1 h2=>by
  refine aAG fun h3=>k ⟨N,h1,h2,oO⟩⟩
 obtain⟨p,hp⟩:∃ p:Ed->Bool,p=fun x=>decide (x∈sE m.g.es)&&(s x.a&&s x.b):=⟨_,rfl⟩;have T7:∀ x,p x=true↔x∈sE m.g.es/\s x.a=true/\s x.b=true:=fun x=>by rw[hp];simp
 have h1:∀ x∈m.g.es,p x=true->s x.a=true/\s x.b=true:=fun x _ k=>((T7 x).1 k).2;have h2:∀ x∈m.g.es.filter p,∀ y∈m.g.es.filter p,(x.a=y.a/\x.b=y.b)\/(x.a=y.b/\x.b=y.a)->x=y:=fun x hx y hy k=>by
  refine TU ((T7 x).1 (aAr.1 hx).2).1 ((T7 y).1 (aAr.1 hy).2).1 ?_;show prP _ _=prP _ _;rcases k with⟨k1,k2⟩|⟨k1,k2⟩
  .rw[k1,k2]
  .rw[k1,k2];exact bL _ _
 have h3:∀ v∈m.g.vs,s v=true->6<=(ends (m.g.es.filter p) v).length:=fun v hv hs=>by
  obtain⟨N,n1,n2,n3⟩:=hall v hv hs;have:=n1.length_le_of_subset (l₂:=nbr (m.g.es.filter p) v) fun w hw=>by
   obtain⟨k1,k2⟩:=n2 w hw;obtain⟨x,hx,k⟩:=cM.1 k2;obtain⟨y,hy,e,_⟩:=BR h.g.ids x hx;refine cM.2 ⟨y,aAr.2 ⟨mK _ y hy,(T7 y).2 ⟨hy,?_⟩⟩,?_⟩
   all_goals
    rcases cH (show prP y.a y.b=prP x.a x.b from e)with⟨e1,e2⟩|⟨e1,e2⟩<;>rcases k with⟨k3,k4⟩|⟨k3,k4⟩<;>rw[e1,e2,k3,k4]<;>simp[hs,k1]
  rw[KS]at this;omega
 have a:=RS h hg p s h1 h2 h3 hv0 S9;have b:=Sm h hg p s h1 h2 h3;omega
end Aw
namespace Aw
open Go Go.RowKit Pl
def sJ(col:Int->Int)(l:List Int)(n:Nat):Prop:=1<=n/\(∀ u∈l,col u≠n)/\∀ m:Nat,1<=m->m<n->∃ u∈l,col u=m
theorem sJ.unique{col:Int->Int}{l:List Int}{n m:Nat}(h:sJ col l n)(k:sJ col l m):n=m:=by
 rcases aCx n m with GD|he|GD
 .obtain⟨u,hu,e⟩:=k.2.2 n h.1 GD;exact absurd e (h.2.1 u hu)
 .exact he
 .obtain⟨u,hu,e⟩:=h.2.2 m k.1 GD;exact absurd e (k.2.1 u hu)
theorem mZ{col:Int->Int}{l:List Int}{k:Nat}(h:∀ m:Nat,1<=m->m<=k->∃ u∈l,col u=m):k<=l.length:=by
 have h1:((List.range k).map fun m:Nat=>((m+1:Nat):Int)).Nodup:=by rw[aEb,aAV];exact aDo.imp fun h e=>h oO
 have:=aAF h1 (l₂:=l.map col) fun y hy=>by obtain⟨m,hm,rfl⟩:=aAm.1 hy;rw[aBa]at hm;obtain⟨u,hu,e⟩:=h (m+1) oO oO;exact aAm.2 ⟨u,hu,e⟩
 simpa using this
def FrI(l:List Int)(col:Int->Int)(M t k:Nat)(st:St)(fr:Frm)(s:St):Prop:=
 fr 0=.mp M/\fr 1=.sl t l.length (us l)/\fr 5=i k/\s=st/\∀ m:Nat,1<=m->m<=k->∃ u∈l,col u=m
attribute [simp] qV QX CY Ji eW fZ eT
theorem Lh{P:Program}{N:Nat}{Q:AQ}{c:Code}{fr:Frm}{st:St}(I:Frm->St->Prop)(h0:I fr st)(h:∀ fr st,I fr st->AWp P N c Q fr st):AWp P N c Q fr st:=h _ _ h0
theorem free(l:List Int)(t M:Nat)(es:List (List Int×LV))(col:Int->Int)(st:St)(hl:l.length<=1000)(hM:st.H M=.map false [.u32] es)(Y8:∀ u∈l,(bQ es [u]).getD (i 0)=i (col u)):
 aB prog 56 [.mp M,.sl t l.length (us l)] st fun r st'=>(∃ n,sJ col l n/\n<=l.length+1/\r=i n)/\st'=st:=by
 refine zN func56 ntmps56 [.tmp 4] ?_
 (repeat' (first|apply qS|(refine zE ?_;intro J hJ;simp[];refine zJ hJ ?_)))
 refine qP _ 0 (fun n fr s=>∃ k:Nat,n=l.length-k/\FrI l col M t k st fr s) rfl ?_ ?_
 ·(repeat' (first|apply qS|(refine zE ?_;intro J hJ;simp[];refine zJ hJ ?_)))
  refine vT ?_;simp only[ak];refine Lh (FrI l col M t 0 st) ⟨sS,sS,sS,rfl,fun m h1 h2=>by omega⟩ ?_;rintro fr s ⟨f0,f1,f5,rfl,Xx⟩;obtain⟨k,Ye⟩:∃ k:Nat,k=0:=⟨0,rfl⟩;rw[<- Ye]at f5 Xx;have hJG:∀(m:Nat) (Xg:Frm) (st':St),(∃ k',m=l.length-k'/\k<k'/\FrI l col M t k' s Xg st')->∃ n k',n=l.length-k'/\FrI l col M t k' s Xg st':=fun m _ _ ⟨k',h1,_,h3⟩=>⟨m,k',h1,h3⟩;have K7:k<=l.length:=mZ Xx;have hw:=qN k oO
  (repeat' (first|apply qS|apply qB|(refine zE ?_;intro J hJ;simp[f0,f1,f5,hw];refine zJ hJ ?_)))
  refine aZ 12 11 13 21 (l.length) (fun j fr st2=>fr 0=.mp M/\fr 1=.sl t l.length (us l)/\fr 5=i (k+1:Nat)/\fr 10=.sl t l.length (us l)/\st2=s/\∀ u∈l.take j,col u≠(k+1:Nat)) ?_ ?_ ?_
  .exact⟨by simp[f0],by simp[f1],sS,sS,rfl,sS⟩
  .rintro j fr s GD ⟨g0,g1,g5,Z9,rfl,YD⟩ fi fn JO hJO;have hd:=qG l j GD;have htk2:l.take (j+1)=l.take j++[l.getD j 0]:=by rw[aAc,aAd GD];exact aAn GD
   have Xl:l.getD j 0∈l:=by rw[aAc,aAd GD];exact aAA _
   generalize l.getD j 0=v at *;have E6:=Y8 v Xl;by_cases D7:col v=(k+1:Nat)
   .have G4:(col v==((k+1:Nat):Int))=true:=by simpa using D7
    (repeat' (first|apply qS|(apply qC;simp[g0,Z9,g5,fi,fn,hd,GD,hM,E6,G4,D7])|(refine zE ?_;intro J hJ;simp[g0,Z9,g5,fi,fn,hd,GD,hM,E6,G4,D7];refine zJ hJ ?_)))
    refine uV ?_;simp only[ak,eT,fZ,eW,qV];have YN:FrI l col M t (k+1) s (upd (upd (upd (upd (upd (upd (upd (upd (upd fr 13 (bb true)) 14 (.ep (u v::List.drop (j+1) (List.map u l)))) 15 (u v)) 7 (u v)) 16 (.mp M)) 17 (u v)) 18 (i ((k:Int)+1))) 19 (i ((k:Int)+1))) 20 (bb true)) s:=by
     refine⟨by simp[g0],by simp[g1],by simp[g5],rfl,fun m h1 h2=>?_⟩;by_cases hm:m=k+1
     .subst hm;exact⟨v,Xl,D7⟩
     .exact Xx m h1 oO
    exact hJG _ _ _ ⟨k+1,rfl,oO,YN⟩
   .have G4:(col v==((k+1:Nat):Int))=false:=by simpa using D7
    have hck3:(col v==(k:Int)+1)=false:=by simpa using D7
    have hck4:¬col v=(k:Int)+1:=by simpa using D7
    (repeat' (first|apply qS|refine qK (zZ ?_)|(apply qC;simp[g0,Z9,g5,fi,fn,hd,GD,hM,E6,G4,D7,hck3,hck4])|(refine zE ?_;intro J hJ;simp[g0,Z9,g5,fi,fn,hd,GD,hM,E6,G4,D7,hck3,hck4];refine zJ hJ ?_)))
    refine hJO _ _ (by simp[fi]) (by simp[fn]) ⟨by simp[g0],by simp[g1],by simp[g5],by simp[Z9],rfl,fun w K5=>?_⟩;rw[htk2,aAg,aAl]at K5;rcases K5 with K5|rfl
    .exact YD w K5
    .exact D7
  .rintro fr s ⟨g0,g1,g5,Z9,rfl,YD⟩;rw[aAQ]at YD
   (repeat' (first|apply qS|(refine qR (zZ ?_);simp[g5])|(refine zE ?_;intro J hJ;simp[g5];refine zJ hJ ?_)))
   exact⟨k+1,⟨oO,YD,fun m h1 h2=>Xx m h1 oO⟩,oO,sS⟩
 .rintro n fr s ⟨k,rfl,f0,f1,f5,rfl,Xx⟩ JG hJG0;have K7:k<=l.length:=mZ Xx;have hJG:∀(m:Nat) (Xg:Frm) (st':St),(∃ k',m=l.length-k'/\k<k'/\FrI l col M t k' s Xg st')->JG Xg st':=fun m Xg st' ⟨k',h1,h2,h3⟩=>hJG0 m Xg st' (by have:=mZ h3.2.2.2.2;omega) ⟨k',h1,h3⟩;have K7:k<=l.length:=mZ Xx;have hw:=qN k oO
  (repeat' (first|apply qS|apply qB|refine qK (zZ ?_)|(refine zE ?_;intro J hJ;simp[f0,f1,f5,hw];refine zJ hJ ?_)))
  refine aZ 12 11 13 21 (l.length) (fun j fr st2=>fr 0=.mp M/\fr 1=.sl t l.length (us l)/\fr 5=i (k+1:Nat)/\fr 10=.sl t l.length (us l)/\st2=s/\∀ u∈l.take j,col u≠(k+1:Nat)) ?_ ?_ ?_
  .exact⟨by simp[f0],by simp[f1],sS,sS,rfl,sS⟩
  .rintro j fr s GD ⟨g0,g1,g5,Z9,rfl,YD⟩ fi fn JO hJO;have hd:=qG l j GD;have htk2:l.take (j+1)=l.take j++[l.getD j 0]:=by rw[aAc,aAd GD];exact aAn GD
   have Xl:l.getD j 0∈l:=by rw[aAc,aAd GD];exact aAA _
   generalize l.getD j 0=v at *;have E6:=Y8 v Xl;by_cases D7:col v=(k+1:Nat)
   .have G4:(col v==((k+1:Nat):Int))=true:=by simpa using D7
    (repeat' (first|apply qS|(apply qC;simp[g0,Z9,g5,fi,fn,hd,GD,hM,E6,G4,D7])|(refine zE ?_;intro J hJ;simp[g0,Z9,g5,fi,fn,hd,GD,hM,E6,G4,D7];refine zJ hJ ?_)))
    refine uV ?_;simp only[ak,eT,fZ,eW,qV];have YN:FrI l col M t (k+1) s (upd (upd (upd (upd (upd (upd (upd (upd (upd fr 13 (bb true)) 14 (.ep (u v::List.drop (j+1) (List.map u l)))) 15 (u v)) 7 (u v)) 16 (.mp M)) 17 (u v)) 18 (i ((k:Int)+1))) 19 (i ((k:Int)+1))) 20 (bb true)) s:=by
     refine⟨by simp[g0],by simp[g1],by simp[g5],rfl,fun m h1 h2=>?_⟩;by_cases hm:m=k+1
     .subst hm;exact⟨v,Xl,D7⟩
     .exact Xx m h1 oO
    exact hJG _ _ _ ⟨k+1,rfl,oO,YN⟩
   .have G4:(col v==((k+1:Nat):Int))=false:=by simpa using D7
    have hck3:(col v==(k:Int)+1)=false:=by simpa using D7
    have hck4:¬col v=(k:Int)+1:=by simpa using D7
    (repeat' (first|apply qS|refine qK (zZ ?_)|(apply qC;simp[g0,Z9,g5,fi,fn,hd,GD,hM,E6,G4,D7,hck3,hck4])|(refine zE ?_;intro J hJ;simp[g0,Z9,g5,fi,fn,hd,GD,hM,E6,G4,D7,hck3,hck4];refine zJ hJ ?_)))
    refine hJO _ _ (by simp[fi]) (by simp[fn]) ⟨by simp[g0],by simp[g1],by simp[g5],by simp[Z9],rfl,fun w K5=>?_⟩;rw[htk2,aAg,aAl]at K5;rcases K5 with K5|rfl
    .exact YD w K5
    .exact D7
  .rintro fr s ⟨g0,g1,g5,Z9,rfl,YD⟩;rw[aAQ]at YD
   (repeat' (first|apply qS|(refine qR (zZ ?_);simp[g5])|(refine zE ?_;intro J hJ;simp[g5];refine zJ hJ ?_)))
   exact⟨k+1,⟨oO,YD,fun m h1 h2=>Xx m h1 oO⟩,oO,sS⟩
end Aw
namespace Aw
open Go Go.RowKit Pl
def clL(A:Led):List (List Int×LV):=A.map fun p=>([p.1],i p.2)
theorem Jc(A:Led)(v:Int):bQ (clL A) [v]=(fA A v).map i:=by
 induction A with
 |nil=>rfl
 |cons p A ih=>
  simp only[clL,aAi,bQ,fA]at ih ⊢;by_cases h:v=p.1
  .subst h;simp
  .simp[h,ih]
theorem RG{A:Led}{v w:Int}(h:v∉A.map (·.1)):bP (clL A) [v] (i w)=clL (A++[(v,w)]):=by
 induction A with
 |nil=>rfl
 |cons p A ih=>simp only[aAi,aAf,aBV]at h;have ih:=ih h.2;simp only[clL,aAi,List.cons_append,bP]at ih ⊢;rw[aAa (by simpa using h.1),ih]
def iY(A:Led)(v:Int):Int:=(fA A v).getD 0
theorem tV(A:Led)(v:Int):(bQ (clL A) [v]).getD (i 0)=i (iY A v):=by rw[Jc];unfold iY;cases fA A v<;>rfl
theorem Jj(col:Int->Int)(l:List Int):∃ n,sJ col l n:=by
 by_cases h:∃ n:Nat,1<=n/\∀ u∈l,col u≠n
 .obtain⟨n,hn⟩:=h;obtain⟨m,h1,h2⟩:=DO (fun n=>1<=n/\∀ u∈l,col u≠(n:Nat)) n hn;refine⟨m,h1.1,h1.2,fun k Xp Xq=>aAG fun YD=>?_⟩;have:=h2 k ⟨Xp,fun u hu e=>YD ⟨u,hu,e⟩⟩;omega
 .exfalso;have:=mZ (col:=col) (l:=l) (k:=l.length+1) fun m h1 _=>aAG fun YD=>h ⟨m,h1,fun u hu e=>YD ⟨u,hu,e⟩⟩;omega
noncomputable def fN(col:Int->Int)(l:List Int):Nat:=Classical.choose (Jj col l)
theorem yW(col:Int->Int)(l:List Int):sJ col l (fN col l):=aDK (Jj col l)
open Classical in
noncomputable def dR(near:Int->List Int)(vs:List Int)(A:Led)(v:Int):Led:=if v∈A.map (·.1)\/v∉vs then A else A++[(v,(fN (iY A) (near v):Int))]
noncomputable def dW(near:Int->List Int)(vs:List Int)(A:Led)(l:List Int):Led:=l.foldl (dR near vs) A
theorem IF(near:Int->List Int)(vs:List Int)(A:Led)(l:List Int)(v:Int):dW near vs A (l++[v])=dR near vs (dW near vs A l) v:=by simp[dW,aBm]
theorem FQ(g:Gr)(A:Led)(l:List Int)(t M qc qg:Nat)(st:St)(hv:g.vs.length<=1000)(he:g.es.length<=400)(hl:l.length<=1000)(hqc:st.H qc=.box 49 1 [.mp M])(hqg:st.H qg=.box 25 2 (grL g))(hM:st.H M=.map false [.u32] (clL A))(b1:qc<st.next)(b2:qg<st.next)(b3:M<st.next):
 aB prog 54 [.sl t l.length (us l),.pt qc 0,.pt qg 0] st fun _ st'=>st'.H M=.map false [.u32] (clL (dW (aI g.es) g.vs A l))/\st.next<=st'.next/\∀ x,x<st.next->x≠M->st'.H x=st.H x:=by
 have c1:¬qc=M:=bT hqc hM sS;have c2:¬qg=M:=bT hqg hM sS;refine zN func54 ntmps54 [] ?_
 (repeat' (first|apply qS|apply qB|(refine zE ?_;intro J hJ;simp[];refine zJ hJ ?_)))
 refine aZ 10 9 11 35 (l.length) (fun j fr st2=>fr 1=.pt qc 0/\fr 2=.pt qg 0/\fr 8=.sl t l.length (us l)/\st2.H M=.map false [.u32] (clL (dW (aI g.es) g.vs A (l.take j)))/\st.next<=st2.next/\∀ x,x<st.next->x≠M->st2.H x=st.H x) ?_ ?_ ?_
 .exact⟨sS,sS,sS,by simpa[dW]using hM,aAk _,fun _ _ _=>rfl⟩
 .rintro j fr s GD ⟨f1,f2,f8,hMs,Zi,YS⟩ fi fn JO hJO;have hd:=qG l j GD;have Xx:l.take (j+1)=l.take j++[l.getD j 0]:=by rw[aAc,aAd GD];exact aAn GD
  rw[Xx,IF]at hJO;generalize l.getD j 0=v at *;generalize dW (aI g.es) g.vs A (l.take j)=B at *;have U7:=(YS qc b1 c1).trans hqc;have W6:=(YS qg b2 c2).trans hqg;have ZI:=Jc B v;by_cases Xl:v∈B.map (·.1)
  .obtain⟨w,hw⟩:=sH Xl;rw[hw]at ZI;simp only[Option.map_some]at ZI;have hgv:dR (aI g.es) g.vs B v=B:=by unfold dR;rw[aAe (.inl Xl)]
   rw[hgv]at hJO
   (repeat' (first|apply qS|refine qK (zZ ?_)|(apply qC;simp[f1,f2,f8,fi,fn,hd,GD,U7,W6,hMs,ZI])|(refine zE ?_;intro J hJ;simp[f1,f2,f8,fi,fn,hd,GD,U7,W6,hMs,ZI];refine zJ hJ ?_)))
   exact hJO _ _ (by simp[fi]) (by simp[fn]) ⟨by simp[f1],by simp[f2],by simp[f8],hMs,Zi,YS⟩
  rw[nV Xl]at ZI;simp only[Option.map_none]at ZI
  (repeat' (first|apply qS|(refine zE ?_;intro J hJ;simp[f1,f2,f8,fi,fn,hd,GD,U7,W6,hMs,ZI];(try refine zJ hJ ?_))))
  refine qE (Nr g v s (by unfold small;omega)) sS ?_;rintro r s2 ⟨rfl,Xq⟩;have Zk:=Xq.next;have Zd:=(Xq.H M oO).trans hMs;have N5:=(Xq.H qc oO).trans U7;have Y7:=(Xq.H qg oO).trans W6;have L5:∀ x,x<st.next->x≠M->s2.H x=st.H x:=fun x hx Wu=>(Xq.H x oO).trans (YS x hx Wu);have hge0:=Bf g.vs v;by_cases G8:v∈g.vs;rotate_left
  .have U2:¬0<=gi g.vs v:=by have:=hge0.2 G8;omega
   have u6:decide (0<=gi g.vs v)=false:=aBH U2;have hgv:dR (aI g.es) g.vs B v=B:=by unfold dR;rw[aAe (.inr G8)]
   rw[hgv]at hJO
   (repeat' (first|refine qK (zZ ?_)|(apply qC;simp[u6,U2])|(apply aF;simp[u6,U2];refine zJ hJ ?_)))
   exact hJO _ _ (by simp[fi]) (by simp[fn]) ⟨by simp[f1],by simp[f2],by simp[f8],Zd,oO,L5⟩
  have U2:0<=gi g.vs v:=by
   by_cases h:gi g.vs v<0
   .exact absurd G8 (hge0.1 h)
   .omega
  have u6:decide (0<=gi g.vs v)=true:=aBB U2;have hgv:dR (aI g.es) g.vs B v=B++[(v,(fN (iY B) (aI g.es v):Int))]:=by unfold dR;rw[aAa (by rw[aBV];exact⟨Xl,fun h=>h G8⟩)]
  rw[hgv]at hJO
  (repeat' (first|(apply qC;simp[u6,U2])|(apply aF;simp[u6,U2];refine zJ hJ ?_)))
  (refine zS [M] [qc,qg] [0,2,4,6,8,10,12,15] ?_;intro J hJ;simp[f1,f2,N5,Y7,Zd])
  refine qD (Ug g v s2 oO oO) sS ?_;rintro r s4 ⟨rfl,Yb⟩;have U0:=Yb.next;have hM4:=(Yb.H M oO).trans Zd;have hqc4:=(Yb.H qc oO).trans N5;have hqg4:=(Yb.H qg oO).trans Y7;refine⟨fun _=>by simp[hqc4,hqg4,N5,Y7],?_⟩
  (apply aS;simp[hqc4,hqg4,N5,Y7,hM4])
  refine qD (free (aI g.es v) 0 M (clL B) (iY B) s4 ?_ hM4 fun w _=>tV B w) sS ?_
  .have:=qZ g.es v;omega
  rintro r s5 ⟨⟨n,hn,Xi,rfl⟩,rfl⟩;refine⟨fun _=>by simp[hqc4,hqg4,N5,Y7],?_⟩;have hnf:=hn.unique (yW (iY B) (aI g.es v))
  (apply aS;simp[hqc4,hqg4,N5,Y7,hM4,Xl];refine zJ hJ ?_)
  have e1:¬qc=M:=c1;refine hJO _ _ (by simp[fi]) (by simp[fn]) ⟨by simp[f1],by simp[f2],by simp[f8],?_,by simp;omega,fun x hx Wu=>?_⟩
  .rw[bF,aAe rfl,RG Xl,hnf]
  .rw[bF,aAa Wu,Yb.H x oO];exact L5 x hx Wu
 .rintro fr s ⟨f1,f2,f8,hMs,Zi,YS⟩;rw[aAQ]at hMs
  skip
  exact⟨trivial,hMs,Zi,YS⟩
def Vu(st:St)(A:Led)(r:LV)(st':St):Prop:=∃ M,r=.mp M/\st.next<=M/\M<st'.next/\st'.H M=.map false [.u32] (clL A)/\aA st st'
theorem OR(g:Gr)(l:List Int)(t:Nat)(st:St)(hv:g.vs.length<=1000)(he:g.es.length<=400)(hl:l.length<=1000):
 aB prog 25 [.ag (grL g),.sl t l.length (us l)] st (Vu st (dW (aI g.es) g.vs (dW (aI g.es) g.vs [] l) g.vs)):=by
 refine zN func25 ntmps25 [.tmp 4] ?_
 (repeat' (first|apply qS|(refine zE ?_;intro J hJ;simp[];(try refine zJ hJ ?_))))
 obtain⟨s1,v5⟩:∃ s1,s1=(((st.new (.box 25 2 (grL g))).new (.map false [.u32] [])).new (.box 49 1 [.atom (.map none)])).set (st.next+1+1) (.box 49 1 [.mp (st.next+1)]):=⟨_,rfl⟩;rw[<- v5];have Yi:s1.next=st.next+3:=by rw[v5];simp
 have hqc:s1.H (st.next+1+1)=.box 49 1 [.mp (st.next+1)]:=by rw[v5];simp
 have hqg:s1.H st.next=.box 25 2 (grL g):=by rw[v5];(repeat (first|rw[nHh nOo]|rw[sHh oO]|rw[nIi nQq]|rw[sIi oO]))
 have hM:s1.H (st.next+1)=.map false [.u32] (clL []):=by rw[v5];(repeat (first|rw[nHh nOo]|rw[sHh oO]|rw[nIi nQq]|rw[sIi oO]));rfl
 have hk:aA st s1:=by rw[v5];exact((((aA.new _ _).trans (aA.new _ _)).trans (aA.new _ _)).set oO _)
 clear v5;refine qE (FQ g [] l t (st.next+1) (st.next+1+1) st.next s1 hv he hl hqc hqg hM oO oO oO) sS ?_;rintro r s2 ⟨Zd,Zk,L5⟩;have U7:=(L5 (st.next+1+1) oO oO).trans hqc;have W6:=(L5 st.next oO oO).trans hqg;generalize dW (aI g.es) g.vs [] l=B at *
 (repeat' (first|apply qS|((first|(refine zE ?_;intro J hJ)|(apply aF));simp[W6];(try refine zJ hJ ?_))))
 refine qE (FQ g B g.vs 0 (st.next+1) (st.next+1+1) st.next s2 hv he oO U7 W6 Zd oO oO oO) sS ?_;rintro r2 s3 ⟨hM3,hn3,hold3⟩;have N5:=(hold3 (st.next+1+1) oO oO).trans U7
 (repeat' (first|apply qS|(refine qR (zZ ?_);simp[N5])|((first|(refine zE ?_;intro J hJ)|(apply aF));simp[N5];refine zJ hJ ?_)))
 exact⟨st.next+1,rfl,oO,oO,hM3,⟨oO,fun x hx=>by rw[hold3 x oO oO,L5 x oO oO];exact hk.H x hx⟩⟩
end Aw
namespace Aw
open Go Go.RowKit Pl
def dZ(near:Int->List Int)(left:List Int)(v:Int):Nat:=((near v).filter fun w=>decide (w∈left)).length
def AU(near:Int->List Int)(left:List Int)(b v:Int):Int:=if b=0\/dZ near left v<=dZ near left b then v else b
def bst(near:Int->List Int)(left l:List Int)(b:Int):Int:=l.foldl (AU near left) b
theorem PK(near:Int->List Int)(left l:List Int)(b v:Int):bst near left (l++[v]) b=AU near left (bst near left l b) v:=by simp[bst,aBm]
theorem vF(near:Int->List Int)(left:List Int):∀(l:List Int) (b:Int),(b=0\/b∈left)->(∀ v∈l,v∈left)->bst near left l b=0\/bst near left l b∈left
 |[],b,hb,_=>hb
 |v::l,b,hb,h=>by
  refine vF near left l _ ?_ fun w hw=>h w (aAj _ hw);unfold AU
  split
  .exact .inr (h v aAo)
  .exact hb
theorem En(near:Int->List Int)(left:List Int):∀(l:List Int) (b:Int),(b≠0\/l≠[])->(∀ v∈l,v≠0)->bst near left l b≠0
 |[],b,hb,_=>by
  rcases hb with hb|hb
  .exact hb
  .exact absurd rfl hb
 |v::l,b,hb,h=>by
  refine En near left l _ (.inl ?_) fun w hw=>h w (aAj _ hw);unfold AU
  split
  .exact h v aAo
  .rename_i hn;rw[aBV]at hn;exact hn.1
def nE(near:Int->List Int):Nat->List Int->List Int
 |0,_=>[]
 |n+1,left=>if left=[]then []else bst near left left 0::nE near n (left.erase (bst near left left 0))
theorem HO(near:Int->List Int):∀(n:Nat) (left:List Int),(nE near n left).length<=n
 |0,_=>aAk _
 |n+1,left=>by
  unfold nE
  split
  .simp
  .have:=HO near n (left.erase (bst near left left 0));simp;omega
def fwL(left:List Int)(val:Int->Int):List (List Int×LV):=left.map fun v=>([v],i (val v))
theorem Ss(left:List Int)(val:Int->Int):(fwL left val).length=left.length:=by simp[fwL]
theorem zM(val:Int->Int)(v:Int):∀ left:List Int,bQ (fwL left val) [v]=if v∈left then some (i (val v))else none
 |[]=>by simp[fwL,bQ]
 |w::left=>by
  have ih:=zM val v left;simp only[fwL,aAi,bQ]at ih ⊢;by_cases h:v=w
  .subst h;simp
  .simp[h,ih]
theorem xS{val:Int->Int}{v w:Int}:∀ {left:List Int},v∉left->bP (fwL left val) [v] (i w)=fwL (left++[v]) fun x=>if x=v then w else val x
 |[],_=>by simp[fwL,bP]
 |x::left,h=>by rw[aAf,aBV]at h;have ih:=xS (val:=val) (w:=w) h.2;simp only[fwL,aAi,List.cons_append,bP]at ih ⊢;rw[aAa (by simpa using h.1),ih,aAa (fun e=>h.1 e.symm)]
theorem kF{left:List Int}{a b:Int->Int}(h:∀ v∈left,a v=b v):fwL left a=fwL left b:=aAU fun v hv=>by rw[h v hv]
theorem yA{val:Int->Int}{v w:Int}:∀ {left:List Int},left.Nodup->v∈left->bP (fwL left val) [v] (i w)=fwL left fun x=>if x=v then w else val x
 |[],_,h=>by simp at h
 |x::left,hn,h=>by
  rw[aAy]at hn;by_cases hx:v=x
  .subst hx;have:fwL left val=fwL left fun x=>if x=v then w else val x:=kF fun y hy=>by have Wu:¬y=v:=fun e=>hn.1 (by rw[<- e];exact hy);rw[aAa Wu]
   simp only[fwL,aAi,bP]at this ⊢;rw[aAe sS,this];simp
  .have ih:=yA (val:=val) (w:=w) hn.2 ((aAf.1 h).resolve_left hx);simp only[fwL,aAi,bP]at ih ⊢;rw[aAa (by simpa using hx),ih,aAa (fun e=>hx e.symm)]
theorem Jd(val:Int->Int)(v:Int):∀ left:List Int,uM (fwL left val) [v]=fwL (left.erase v) val
 |[]=>rfl
 |x::left=>by
  have ih:=Jd val v left;simp only[fwL,aAi,uM]at ih ⊢;by_cases h:v=x
  .subst h;simp
  .rw[aAa (by simpa using h),ih,List.erase_cons_tail (by simpa using fun e=>h e.symm)];rfl
theorem Hy{near:Int->List Int}{left:List Int}(hn:left.Nodup)(hd:∀ v,(near v).Nodup)(hs:∀ v w,w∈near v↔v∈near w){b v:Int}(hb:b∈left):dZ near left v=dZ near (left.erase b) v+if v∈near b then 1 else 0:=by
 unfold dZ;have Yp:∀ w,w∈left.erase b↔w≠b/\w∈left:=fun w=>aEi hn;have key:∀ l:List Int,l.Nodup->(l.filter fun w=>decide (w∈left)).length=(l.filter fun w=>decide (w∈left.erase b)).length+if b∈l then 1 else 0:=by
  intro l;induction l with
  |nil=>intro _;simp
  |cons x l ih=>
   intro hl;rw[aAy]at hl;have ih:=ih hl.2;by_cases hxb:x=b
   .subst hxb;have h1:x∉left.erase x:=fun h=>((Yp x).1 h).1 rfl;rw[aAa hl.1]at ih;simp[hb,h1,ih]
   .have h1:x∈left.erase b↔x∈left:=by rw[Yp];simp[hxb]
    have h2:b∈x::l↔b∈l:=by rw[aAf];exact⟨fun h=>h.resolve_left fun e=>hxb e.symm,.inr⟩
    by_cases hx:x∈left
    .rw[aEm (by simpa using hx),aEm (by simpa using h1.2 hx)];simp only[List.length_cons,ih,h2];omega
    .rw[aDx (by simpa using hx),aDx (by simpa using fun h=>hx (h1.1 h)),ih];simp only[h2]
 rw[key _ (hd v)]
 congr 1
 by_cases h:b∈near v
 .rw[aAe h,aAe ((hs v b).1 h)]
 .rw[aAa h,aAa fun h2=>h ((hs v b).2 h2)]
structure GrF(g:Gr):Prop where
 rise:g.vs.Pairwise (· < ·)
 vpos:∀ v∈g.vs,1<=v/\v<=1048576
 ids:g.es.Pairwise fun x y=>x.id<y.id
 pos:∀ x∈g.es,1<=x.id/\x.id<=1048576
 ne:∀ x∈g.es,x.a≠x.b
 ends:∀ x∈g.es,x.a∈g.vs/\x.b∈g.vs
 l1:g.vs.length<=64
 l2:g.es.length<=160
theorem On{f:Nat->Int}{n:Nat}(h:bY f n=0):∀ j,j<n->f j=0:=by
 induction n with
 |zero=>intro j hj;omega
 |succ n ih=>
  intro j hj;simp only[bY]at h;by_cases h0:bY f n=0
  .rw[aAa (by simp[h0])]at h;rcases aAN j n with h1|h1
   .exact ih h0 j h1
   .obtain rfl:j=n:=oO;exact h
  .rw[aAe h0]at h;exact absurd h h0
theorem rX(n a:Int)(b:Bool):eN n a b=0↔(1<=n/\n<=1048576)/\(b=false->a<n):=by
 unfold eN;by_cases h1:n<1\/1048576<n
 .rw[aAe h1];constructor
  .intro h;cases h
  .rintro⟨h,_⟩;omega
 .rw[aAa h1];by_cases h2:b=false/\n<=a
  .rw[aAe h2];constructor
   .intro h;cases h
   .rintro⟨_,h⟩;have:=h h2.1;omega
  .rw[aAa h2];refine⟨fun _=>⟨oO,fun hb=>?_⟩,fun _=>rfl⟩;rcases Int.lt_or_le a n with h3|h3
   .exact h3
   .exact absurd ⟨hb,h3⟩ h2
theorem CW{l:List Int}(h:∀ j,j<l.length->0<j->l.getD (j-1) 0<l.getD j 0):l.Pairwise (· < ·):=by
 have g:∀ j (hj:j<l.length),l.getD j 0=l[j]:=fun j hj=>by rw[aAc,aAd hj];rfl
 rw[aAJ];intro a b ha hb YC;induction b with
 |zero=>omega
 |succ b ih=>
  have h1:=h (b+1) hb oO;rw[aBU,g _ hb,g _ oO]at h1;rcases aAN a b with h2|h2
  .have:=ih oO h2;omega
  .obtain rfl:a=b:=oO;exact h1
theorem gE(l:List Ed)(j:Nat)(hj:j<l.length):l.getD j ed0=l[j]:=by rw[aAc,aAd hj];rfl
theorem MC(g:Gr)(j:Nat)(x:Ed)(hx:g.es.getD j ed0=x):lK g j=0↔((1<=x.id/\x.id<=1048576)/\(0<j->(g.es.getD (j-1) ed0).id<x.id))/\x.a≠x.b/\x.a∈g.vs/\x.b∈g.vs:=by
 unfold lK;simp only[hx];have h0:=rX x.id (g.es.getD (j-1) ed0).id (decide (j=0));have hj:(decide (j=0)=false)↔0<j:=by simp;omega
 rw[hj]at h0;by_cases h1:eN x.id (g.es.getD (j-1) ed0).id (decide (j=0))=0
 .rw[aAa (fun h=>h h1)];have S3:=h0.1 h1;by_cases h2:x.a=x.b
  .rw[aAe h2];constructor
   .intro h;cases h
   .rintro⟨_,h,_⟩;exact absurd h2 h
  .rw[aAa h2];by_cases h3:x.a∉g.vs\/x.b∉g.vs
   .rw[aAe h3];constructor
    .intro h;cases h
    .rintro⟨_,_,h,h'⟩;rcases h3 with h3|h3
     .exact absurd h h3
     .exact absurd h' h3
   .rw[aAa h3];exact⟨fun _=>⟨S3,h2,aAG fun h=>h3 (.inl h),aAG fun h=>h3 (.inr h)⟩,fun _=>rfl⟩
 .rw[aAe h1];constructor
  .intro h;exact absurd h h1
  .rintro⟨h,_⟩;exact absurd (h0.2 h) h1
theorem Gn{g:Gr}(h:chk g=0):GrF g:=by
 unfold chk at h;by_cases h1:64<g.vs.length\/160<g.es.length
 .rw[aAe h1]at h;cases h
 rw[aAa h1]at h;by_cases h2:bY (kY g) g.vs.length=0;rotate_left
 .rw[aAe h2]at h;exact absurd h h2
 rw[aAa (by simp[h2])]at h;have gI:∀ j (hj:j<g.vs.length),g.vs.getD j 0=g.vs[j]:=fun j hj=>by rw[aAc,aAd hj];rfl
 have hV:=fun j hj=>(rX _ _ _).1 (On h2 j hj);have hE:=fun j hj=>(MC g j _ rfl).1 (On h j hj);have Xl:∀ x∈g.es,∃ j,j<g.es.length/\g.es.getD j ed0=x:=fun x hx=>by obtain⟨j,hj,rfl⟩:=aAB hx;exact⟨j,hj,gE _ _ hj⟩
 refine⟨CW fun j hj h0=>(hV j hj).2 (by simp;omega),fun v hv=>?_,?_,fun x hx=>?_,fun x hx=>?_,fun x hx=>?_,oO,oO⟩
 .obtain⟨j,hj,rfl⟩:=aAB hv;rw[<- gI j hj];exact(hV j hj).1
 .have:=CW (l:=g.es.map (·.id)) fun j hj h0=>by rw[aAz]at hj;have:=(hE j hj).1.2 h0;rw[gE _ _ hj,gE _ _ oO]at this;rw[aAc,aAd (by simp;omega),aAc,aAd (by simp;omega)];simpa using this
  rwa [aAV]at this
 .obtain⟨j,hj,rfl⟩:=Xl x hx;exact(hE j hj).1.1
 .obtain⟨j,hj,rfl⟩:=Xl x hx;exact(hE j hj).2.1
 .obtain⟨j,hj,rfl⟩:=Xl x hx;exact(hE j hj).2.2
theorem pK{es:List Ed}(Wu:∀ x∈es,x.a≠x.b)(v:Int):(aI es v).Nodup:=(NM Wu v).imp fun h=>by omega
theorem nQ(es:List Ed)(v w:Int):w∈aI es v↔v∈aI es w:=by rw[iI,iI];exact⟨Fu,Fu⟩
structure OrI(g:Gr)(st:St)(M:Nat)(left W:List Int)(q:Nat)(s:St):Prop where
 hM:s.H M=.map false [.u32] (fwL left fun v=>(dZ (aI g.es) left v:Int))
 hG:s.H st.next=.box 25 2 (grL g)
 hq:s.H q=.box 34 1 (us W)
 out:nE (aI g.es) g.vs.length g.vs=W++nE (aI g.es) left.length left
 sub:left.Sublist g.vs
 len:W.length+left.length=g.vs.length
 b:st.next<M/\M<q/\q<s.next
 kp:aA st s
theorem Order(g:Gr)(st:St)(hF:GrF g):
 aB prog 53 [.ag (grL g)] st fun r st'=>r=.sl 0 (nE (aI g.es) g.vs.length g.vs).reverse.length (us (nE (aI g.es) g.vs.length g.vs).reverse)/\aA st st':=by
 have hv:=hF.l1;have he:=hF.l2;have hnd:g.vs.Nodup:=hF.rise.imp fun h=>by omega
 refine cG ?_;refine zN func53 ntmps53 [.tmp 2] ?_
 (repeat' (first|apply qS|apply qB|(refine zE ?_;intro J hJ;simp[];refine zJ hJ ?_)))
 refine aZ 20 19 21 30 (g.vs.length) (fun j fr st2=>fr 1=.pt st.next 0/\fr 2=.nil/\fr 3=.mp (st.next+1)/\fr 18=.sl 0 g.vs.length (us g.vs)/\st2.H st.next=.box 25 2 (grL g)/\st.next+1<st2.next/\st2.H (st.next+1)=.map false [.u32] (fwL (g.vs.take j) fun v=>((aI g.es v).length:Int))/\aA st st2) ?_ ?_ ?_
 .refine⟨sS,sS,sS,sS,sS,sS,by simp[fwL],?_⟩;exact(aA.new _ _).trans (aA.new _ _)
 .rintro j fr s GD ⟨f1,f2,f3,f18,hG,Zi,hM,Xt⟩ fi fn JO hJO;have hd:=qG g.vs j GD;have Xx:g.vs.take (j+1)=g.vs.take j++[g.vs.getD j 0]:=by rw[aAc,aAd GD];exact aAn GD
  have hni:g.vs.getD j 0∉g.vs.take j:=fun h=>by have:=hnd.sublist (aDz (j+1) _);rw[Xx,aAs]at this;exact this.2.2 _ h _ (aAl.2 rfl) rfl
  generalize g.vs.getD j 0=v at *
  (repeat' (first|apply qS|(refine zE ?_;intro J hJ;simp[f1,f3,f18,fi,fn,hd,GD,hG];(try refine zJ hJ ?_))))
  refine qE (Ug g v s oO oO) sS ?_;rintro r s2 ⟨rfl,Xq⟩;have Zk:=Xq.next;have Zd:=(Xq.H (st.next+1) Zi).trans hM;have p9:=(Xq.H st.next oO).trans hG;have K3:=xS (val:=fun v=>((aI g.es v).length:Int)) (w:=((aI g.es v).length:Int)) hni
  (repeat' (apply aF;simp[Zd];refine zJ hJ ?_))
  refine hJO _ _ (by simp[fi]) (by simp[fn]) ⟨by simp[f1],by simp[f2],by simp[f3],by simp[f18],by(repeat (first|rw[nHh nOo]|rw[sHh oO]|rw[nIi nQq]|rw[sIi oO]));exact p9,by simp;omega,?_,(Xt.trans Xq).set oO _⟩;rw[bF,aAe rfl,K3,Xx]
  congr 1
  exact kF fun w _=>by
   by_cases hw:w=v
   .rw[aAe hw,hw]
   .rw[aAa hw]
 rintro fr s ⟨f1,f2,f3,f18,hG,Zi,hM,Xt⟩;rw[aAQ]at hM
 (repeat' (first|apply qS|apply qB|(refine zE ?_;intro J hJ;simp[];refine zJ hJ ?_)))
 refine uG 6 34 1 sS ?_;refine qL (fun n fr s=>∃ left W q,n=left.length/\fr 1=.pt st.next 0/\fr 2=.nil/\fr 3=.mp (st.next+1)/\fr 6=.ms q 0 W.length/\OrI g st (st.next+1) left W q s) g.vs.length ?_ ?_
 .refine⟨g.vs,[],s.next,rfl,by simp[f1],by simp[f2],by simp[f3],sS,?_⟩;have e1:¬st.next+1=s.next:=oO;have e2:¬st.next=s.next:=oO;refine⟨?_,by rw[bX,aAa e2];exact hG,sS,rfl,.refl _,sS,⟨oO,oO,sS⟩,Xt.trans (aA.new _ _)⟩;rw[bX,aAa e1,hM]
  congr 1
  exact kF fun w _=>by
   unfold dZ;rw[aCA.2];intro x hx;rw[aCa];obtain⟨y,hy,⟨_,rfl⟩|⟨rfl,_⟩⟩:=iI.1 hx
   .exact(hF.ends y hy).2
   .exact(hF.ends y hy).1
 clear f1 f2 f3 f18 hG Zi hM Xt fr s;rintro n fr s ⟨left,W,q,rfl,f1,f2,f3,f6,hI⟩ JJ hJJ;obtain⟨hM,hG,hq,YR,YW,hlen,⟨hb1,u7,hb3⟩,Xt⟩:=hI;generalize hMM:st.next+1=M at *;have C0:=Ss left fun v=>(dZ (aI g.es) left v:Int);by_cases Zu:left=[]
 .clear hJJ;subst Zu;have hfl':decide ((0:Int)<((fwL [] fun v=>(dZ (aI g.es) [] v:Int)).length:Int))=false:=by simp[fwL]
  have hWo:nE (aI g.es) g.vs.length g.vs=W:=by rw[YR];simp[nE]
  (repeat' (first|apply qS|refine qX (zZ ?_)|(apply qC;simp[f3,hM,C0,hfl',f6])|(refine zE ?_;intro J hJ;simp[f3,hM,C0,hfl',f6];(try refine zJ hJ ?_))))
  refine qE (tY W q s (by unfold small;simp at hlen;omega) hq) (by simp[]) ?_;rintro r st' rfl
  (repeat' (first|apply qS|(refine qR (zZ ?_);simp[f6])|((first|(refine zE ?_;intro J hJ)|(apply aF));simp[f6];refine zJ hJ ?_)))
  rw[hWo];exact⟨q,W.length,⟨rfl,rfl⟩,34,1,us W.reverse,sS,sS,sS,(Xt.set oO _).set oO _⟩
 have ZA:0<left.length:=aBb.2 Zu;have hpos2:(0:Int)<left.length:=oO;have Xi:left.Nodup:=hnd.sublist YW;have hmz:∀ v∈g.vs,v≠0:=fun v hv=>by have:=hF.vpos v hv;omega
 (repeat' (first|apply qS|apply qB|refine qK (zZ ?_)|(apply qC;simp[f3,f1,hM,C0,ZA,hpos2,hG])|(refine zE ?_;intro J hJ;simp[f3,f1,hM,C0,ZA,hpos2,hG];refine zJ hJ ?_)))
 refine aZ 37 36 38 60 (g.vs.length) (fun j fr st2=>fr 1=.pt st.next 0/\fr 2=.nil/\fr 3=.mp M/\fr 6=.ms q 0 W.length/\fr 35=.sl 0 g.vs.length (us g.vs)/\st2=s/\fr 7=u (bst (aI g.es) left ((g.vs.take j).filter fun w=>decide (w∈left)) 0)) ?_ ?_ ?_
 .exact⟨by simp[f1],by simp[f2],by simp[f3],by simp[f6],sS,rfl,by simp[bst]⟩
 .rintro j fr s2 GD ⟨g1,g2,g3,g6,Z4,rfl,g7⟩ fi fn JO hJO;have hd:=qG g.vs j GD;have Xx:(g.vs.take (j+1)).filter (fun w=>decide (w∈left))=(g.vs.take j).filter (fun w=>decide (w∈left))++if g.vs.getD j 0∈left then [g.vs.getD j 0]else []:=by rw[aAn GD,aBx,aAc,aAd GD];by_cases h:g.vs[j]∈left<;>simp[h]
  rw[Xx]at hJO;have T9:=vF (aI g.es) left ((g.vs.take j).filter fun w=>decide (w∈left)) 0 (.inl rfl) (fun v hv=>by simpa using(aAr.1 hv).2);have ZI:=zM (fun v=>(dZ (aI g.es) left v:Int)) (g.vs.getD j 0) left;have hbs:=fun v=>PK (aI g.es) left ((g.vs.take j).filter fun w=>decide (w∈left)) 0 v;generalize g.vs.getD j 0=v at *;generalize (g.vs.take j).filter (fun w=>decide (w∈left))=T at *;generalize hB:bst (aI g.es) left T 0=b at *;have Zf:=zM (fun v=>(dZ (aI g.es) left v:Int)) b left;by_cases Zp:v∈left;rotate_left
  .rw[aAa Zp]at ZI hJO;rw[aAK,hB]at hJO
   (repeat' (first|apply qS|refine qK (zZ ?_)|(apply qC;simp[g3,Z4,fi,fn,hd,GD,hM,ZI])|(refine zE ?_;intro J hJ;simp[g3,Z4,fi,fn,hd,GD,hM,ZI];refine zJ hJ ?_)))
   exact hJO _ _ (by simp[fi]) (by simp[fn]) ⟨by simp[g1],by simp[g2],by simp[g3],by simp[g6],by simp[Z4],rfl,by simp[g7]⟩
  rw[aAe Zp]at ZI hJO;rw[hbs]at hJO;unfold AU at hJO;by_cases z8:b=0
  .rw[aAe (.inl z8)]at hJO;have W2:(b==0)=true:=by simpa using z8
   (repeat' (first|apply qS|(apply qC;simp[g3,Z4,fi,fn,hd,GD,hM,ZI,g7,z8,W2])|(refine zE ?_;intro J hJ;simp[g3,Z4,fi,fn,hd,GD,hM,ZI,g7,z8,W2];refine zJ hJ ?_)))
   exact hJO _ _ (by simp[fi]) (by simp[fn]) ⟨by simp[g1],by simp[g2],by simp[g3],by simp[g6],by simp[Z4],rfl,sS⟩
  have W2:(b==0)=false:=by simpa using z8
  rw[aAe (T9.resolve_left z8)]at Zf;by_cases Xm:dZ (aI g.es) left v<=dZ (aI g.es) left b
  .rw[aAe (.inr Xm)]at hJO;have ZM:decide ((dZ (aI g.es) left v:Int)<=(dZ (aI g.es) left b:Int))=true:=aBB oO
   (repeat' (first|apply qS|(apply qC;simp[g3,Z4,fi,fn,hd,GD,hM,ZI,g7,z8,W2,Zf,Xm,ZM])|(refine zE ?_;intro J hJ;simp[g3,Z4,fi,fn,hd,GD,hM,ZI,g7,z8,W2,Zf,Xm,ZM];refine zJ hJ ?_)))
   exact hJO _ _ (by simp[fi]) (by simp[fn]) ⟨by simp[g1],by simp[g2],by simp[g3],by simp[g6],by simp[Z4],rfl,sS⟩
  .rw[aAa (by rw[aBV];exact⟨z8,Xm⟩)]at hJO;have ZM:decide ((dZ (aI g.es) left v:Int)<=(dZ (aI g.es) left b:Int))=false:=aBH oO
   (repeat' (first|apply qS|refine qK (zZ ?_)|(apply qC;simp[g3,Z4,fi,fn,hd,GD,hM,ZI,g7,z8,W2,Zf,Xm,ZM])|(refine zE ?_;intro J hJ;simp[g3,Z4,fi,fn,hd,GD,hM,ZI,g7,z8,W2,Zf,Xm,ZM];refine zJ hJ ?_)))
   exact hJO _ _ (by simp[fi]) (by simp[fn]) ⟨by simp[g1],by simp[g2],by simp[g3],by simp[g6],by simp[Z4],rfl,by simp[g7]⟩
 rintro fr s2 ⟨g1,g2,g3,g6,Z4,rfl,g7⟩;have Zp:g.vs.filter (fun w=>decide (w∈left))=left:=Ff (hF.rise.sublist aBp) (hF.rise.sublist YW) fun w=>by rw[aAr,aCa];exact⟨fun h=>h.2,fun h=>⟨YW.subset h,h⟩⟩
 rw[aAQ,Zp]at g7;have T9:bst (aI g.es) left left 0∈left:=(vF (aI g.es) left left 0 (.inl rfl) fun _ h=>h).resolve_left (En _ _ _ _ (.inr Zu) fun v hv=>hmz v (YW.subset hv));have hoF:nE (aI g.es) left.length left=bst (aI g.es) left left 0::nE (aI g.es) (left.erase (bst (aI g.es) left left 0)).length (left.erase (bst (aI g.es) left left 0)):=by obtain⟨m,hm⟩:∃ m,left.length=m+1:=⟨left.length-1,oO⟩;rw[aCM T9,hm];simp only[nE,aAa Zu,aBU]
 generalize bst (aI g.es) left left 0=b at *;have Yw:=Jd (fun v=>(dZ (aI g.es) left v:Int)) b left;have c0:¬st.next=M:=oO;have c0':¬q=M:=oO
 (repeat' (first|apply qS|(refine zE ?_;intro J hJ;simp[g1,g3,g7,hM,Yw,hG,c0];(try refine zJ hJ ?_))))
 generalize hs3:s2.set M (.map false [.u32] (fwL (left.erase b) fun v=>(dZ (aI g.es) left v:Int)))=s3 at *;have hM3:s3.H M=.map false [.u32] (fwL (left.erase b) fun v=>(dZ (aI g.es) left v:Int)):=by rw[<- hs3,bF,aAe rfl]
 have hG3:s3.H st.next=.box 25 2 (grL g):=by rw[<- hs3,bF,aAa c0];exact hG
 have V7:s3.H q=.box 34 1 (us W):=by rw[<- hs3,bF,aAa c0'];exact hq
 have n3:s3.next=s2.next:=by rw[<- hs3];simp
 have k3:aA st s3:=by rw[<- hs3];exact Xt.set oO _
 refine qE (Ug g b s3 oO oO) sS ?_;rintro r s4 ⟨rfl,Yb⟩;have U0:=Yb.next;have hM4:=(Yb.H M oO).trans hM3;have hG4:=(Yb.H st.next oO).trans hG3;have S4:=(Yb.H q oO).trans V7;have H9:=pK hF.ne b;have hNl:=qZ g.es b;have hsy:=nQ g.es b;have Wu:=Xi.erase b;generalize hN:aI g.es b=N at *
 (repeat' (first|apply qB|(apply aF;simp[];refine zJ hJ ?_)))
 refine aZ 67 66 68 82 (N.length) (fun j fr st2=>fr 1=.pt st.next 0/\fr 2=.nil/\fr 3=.mp M/\fr 6=.ms q 0 W.length/\fr 7=u b/\fr 65=.sl 0 N.length (us N)/\st2.next=s4.next/\(∀ x,x≠M->st2.H x=s4.H x)/\st2.H M=.map false [.u32] (fwL (left.erase b) fun v=>(dZ (aI g.es) left v:Int)-if v∈N.take j then 1 else 0)) ?_ ?_ ?_
 .exact⟨by simp[g1],by simp[g2],by simp[g3],by simp[g6],by simp[g7],sS,rfl,fun _ _=>rfl,by simpa using hM4⟩
 .rintro j fr s5 GD ⟨r1,r2,r3,r6,r7,r65,hn5,L7,hM5⟩ fi fn JO hJO;have hd:=qG N j GD;have Xx:N.take (j+1)=N.take j++[N.getD j 0]:=by rw[aAc,aAd GD];exact aAn GD
  have hni:N.getD j 0∉N.take j:=fun h=>by have:=H9.sublist (aDz (j+1) _);rw[Xx,aAs]at this;exact this.2.2 _ h _ (aAl.2 rfl) rfl
  rw[Xx]at hJO;generalize N.getD j 0=v at *;have ZI:=zM (fun v=>(dZ (aI g.es) left v:Int)-if v∈N.take j then 1 else 0) v (left.erase b);have z7:=fun w=>yA (val:=fun v=>(dZ (aI g.es) left v:Int)-if v∈N.take j then 1 else 0) (v:=v) (w:=w) Wu;generalize N.take j=T at *;by_cases Zp:v∈left.erase b
  .rw[aAe Zp,aAa hni]at ZI;have hfl2:dZ (aI g.es) left v<=1000:=by have h1:=qZ g.es v;have h2:=aBh (fun w=>decide (w∈left)) (aI g.es v);unfold dZ;omega
   have hwr:IntKind.i64.wrap ((dZ (aI g.es) left v:Int)-1)=(dZ (aI g.es) left v:Int)-1:=zW
   (repeat' (first|apply qS|(apply qC;simp[r3,r65,fi,fn,hd,GD,hM5,ZI,hwr])|(refine zE ?_;intro J hJ;simp[r3,r65,fi,fn,hd,GD,hM5,ZI,hwr];refine zJ hJ ?_)))
   refine hJO _ _ (by simp[fi]) (by simp[fn]) ⟨by simp[r1],by simp[r2],by simp[r3],by simp[r6],by simp[r7],by simp[r65],by simp[hn5],fun x hx=>by rw[bF,aAa hx];exact L7 x hx,?_⟩;rw[bF,aAe rfl,z7 _ Zp]
   congr 1
   refine kF fun w _=>?_;by_cases hw:w=v
   .rw[aAe hw,aAe (by simp[hw]),hw]
   .rw[aAa hw];simp[hw]
  .rw[aAa Zp]at ZI
   (repeat' (first|apply qS|refine qK (zZ ?_)|(apply qC;simp[r3,r65,fi,fn,hd,GD,hM5,ZI])|(refine zE ?_;intro J hJ;simp[r3,r65,fi,fn,hd,GD,hM5,ZI];refine zJ hJ ?_)))
   refine hJO _ _ (by simp[fi]) (by simp[fn]) ⟨by simp[r1],by simp[r2],by simp[r3],by simp[r6],by simp[r7],by simp[r65],hn5,L7,?_⟩;rw[hM5]
   congr 1
   refine kF fun w hw=>?_;have U4:¬w=v:=fun e=>Zp (e ▸ hw);simp[U4]
 rintro fr s5 ⟨r1,r2,r3,r6,r7,r65,hn5,L7,hM5⟩;rw[aAQ]at hM5;have hq5:=(L7 q c0').trans S4;have hG5:=(L7 st.next c0).trans hG4;have q1:¬q=s5.next:=oO;have htkW:List.take W.length (us W)=us W:=aAv sS;have hWl:W.length<=1000:=oO
 (repeat' (refine zE ?_;intro J hJ;simp[r6,r7,hq5,q1,htkW];(repeat refine ca ?_);refine zJ hJ ?_))
 have hlb:=aCM T9;refine hJJ (left.erase b).length _ _ oO ⟨left.erase b,W++[b],s5.next+1,rfl,by simp[r1],by simp[r2],by simp[r3],sS,?_⟩;have d1:¬M=q:=oO;have d2:¬st.next=q:=oO;have k5:aA st s5:=⟨by have:=k3.next;omega,fun x hx=>by rw[L7 x oO];exact(k3.trans Yb).H x hx⟩;refine⟨?_,by(repeat (first|rw[nHh nOo]|rw[sHh oO]|rw[nIi nQq]|rw[sIi oO]));exact hG5,by(repeat (first|rw[nHh nOo]|rw[sHh oO]|rw[nIi nQq]|rw[sIi oO]));simp,by rw[YR,hoF];simp,List.erase_sublist.trans YW,by simp;omega,⟨oO,oO,sS⟩,((k5.trans (aA.new _ _)).set oO _).trans (aA.new _ _)⟩;rw[bX,aAa (α:=cI) (by simp;omega),bF,aAa (α:=cI) d1,bX,aAa (α:=cI) oO,hM5]
 congr 1
 refine kF fun w _=>?_;have hfe:=Hy (near:=aI g.es) Xi (pK hF.ne) (nQ g.es) (v:=w) T9;rw[hN]at hfe;rw[hfe]
 split<;>simp
end Aw
end Go.Proofs.YtempldclppogmaaGreatDoor
