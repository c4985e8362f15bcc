/- Plain: the first ring; a block that is drawn. -/
import Derived.Test.YtbgngpdonpeboaaGreatDoorJk
set_option linter.unusedVariables false
set_option linter.unusedSimpArgs false
set_option linter.unusedSectionVars false
namespace Go.Proofs.YtbgngpdonpeboaaGreatDoor
namespace Aw
open Go Go.RowKit Pl Eu
theorem Am(a b:Int)(M:List Int):prs (a::(M++[b]))=lnk (a::(M++[b]))++[(b,a)]:=by
 have e:prs (a::(M++[b]))=lnk ((a::M)++b::[a]):=by unfold prs;simp
 rw[e,eZ];rfl
theorem UX{a b m:Int}{M:List Int}(hn:(a::(m::M++[b])).Nodup):(a,b)∉lnk (a::(m::M++[b]))/\(b,a)∉lnk (a::(m::M++[b])):=by
 obtain⟨h1,h2⟩:=aAp.1 hn;have hb:b∈m::M++[b]:=sS;have Z5:m≠b:=fun e=>(aAp.1 h2).1 (by rw[e];simp);have e:lnk (a::(m::M++[b]))=(a,m)::lnk (m::M++[b]):=rfl;rw[e];constructor
 .intro h;rcases aAe.1 h with h|h
  .injection h with _ h;exact Z5 h.symm
  .exact h1 (bE h).1
 .intro h;rcases aAe.1 h with h|h
  .injection h with h _;exact h1 (by rw[<- h];exact hb)
  .exact h1 (bE h).2
theorem Drn.start{E:List Ed}{x:Ed}{m:Int}{M ring:List Int}(hx:x∈E)(hr:ring=x.a::(m::M++[x.b]))(hn:ring.Nodup)(hp:∀ u v,(u,v)∈lnk ring->∃ e∈E,prE e=prP u v):
 Drn E ⟨jY (jY [] ring) [x.a,x.b],ring++[x.a,x.b],[ring,ring.reverse]⟩:=by
 obtain⟨n1,n2⟩:=dK hn;have x8:=UX (by rw[<- hr];exact hn);rw[<- hr]at x8;have v8:x.a≠x.b:=fun e=>by rw[hr]at hn;exact(aAp.1 hn).1 (by rw[e];simp)
 have pr1:prs ring=lnk ring++[(x.b,x.a)]:=by
  have:=Am x.a x.b (m::M)
  rwa [<- hr]at this
 have pr2:prs ring.reverse=lnk ring.reverse++[(x.a,x.b)]:=by
  have e:ring.reverse=x.b::((m::M).reverse++[x.a]):=by rw[hr];simp
  rw[e];exact Am _ _ _
 have hlw:∀ u v,prP u v∈iI ring↔(u,v)∈lnk ring\/(v,u)∈lnk ring:=fun u v=>by
  rw[eE,aAi];constructor
  .rintro⟨q,hq,e⟩;rcases bF e with⟨e1,e2⟩|⟨e1,e2⟩
   .left;rw[<- e1,<- e2];exact hq
   .right;rw[<- e1,<- e2];exact hq
  .rintro(k|k)
   .exact⟨_,k,rfl⟩
   .exact⟨_,k,aJ _ _⟩
 have hrev:∀ u v,(u,v)∈lnk ring.reverse↔(v,u)∈lnk ring:=fun u v=>by
  rw[(oB ring).mem_iff,aAi];constructor
  .rintro⟨q,hq,e⟩;have:q=(v,u):=by rw[<- aBJ q,e];rfl
   rw[<- this];exact hq
  .intro k;exact⟨_,k,rfl⟩
 have hL:jY (jY [] ring) [x.a,x.b]=iI ring++[prP x.a x.b]:=by
  have e1:jY [] ring=iI ring:=by
   have:=kN (iI ring) [] (fH hn) fun p _ h=>by cases h
   rw[List.nil_append]at this;exact this
  rw[e1];exact kN [prP x.a x.b] (iI ring) sS fun p P7 X5=>by rw[aAk]at P7;subst P7;exact((hlw _ _).1 X5).elim x8.1 x8.2
 have J9:2<=ring.length:=by rw[hr];simp
 have ha:x.a∈ring:=by rw[hr];simp
 have hb:x.b∈ring:=by rw[hr];simp
 have hPF:PF [ring,ring.reverse]=(lnk ring++[(x.b,x.a)])++(lnk ring.reverse++[(x.a,x.b)]):=by simp[PF,pr1,pr2]
 rw[hL];refine⟨?_,fun u v=>?_,?_,?_,fun v=>?_,?_,?_,?_⟩
 .show(PF [ring,ring.reverse]).Nodup;rw[hPF];have n3:=(dK ((aBr ring).nodup_iff.2 hn)).1;refine aAo.2 ⟨aAo.2 ⟨n1,sS,?_⟩,aAo.2 ⟨n3,sS,?_⟩,?_⟩
  .rintro p P7 q hq rfl;rw[aAk]at hq;subst hq;exact x8.2 P7
  .rintro p P7 q hq rfl;rw[aAk]at hq;subst hq;exact x8.2 ((hrev _ _).1 P7)
  .rintro⟨u,v⟩ P7 q hq rfl;rcases aAd.1 P7 with k|k
   .rcases aAd.1 hq with k2|k2
    .exact(n2 u v k).2 ((hrev _ _).1 k2)
    .rw[aAk]at k2;injection k2 with e1 e2;subst e1;subst e2;exact x8.1 k
   .rw[aAk]at k;injection k with e1 e2;subst e1;subst e2;rcases aAd.1 hq with k2|k2
    .exact x8.1 ((hrev _ _).1 k2)
    .rw[aAk]at k2;injection k2 with e1 e2;exact v8 e2
 .show(u,v)∈PF [ring,ring.reverse]↔u≠v/\prP u v∈iI ring++[prP x.a x.b];rw[hPF];simp only[aAd,aAk,hrev,hlw,aBd];constructor
  .rintro((k|⟨rfl,rfl⟩)|k|⟨rfl,rfl⟩)
   .exact⟨(n2 _ _ k).1,.inl (.inl k)⟩
   .exact⟨fun e=>v8 e.symm,.inr (aJ _ _)⟩
   .exact⟨fun e=>(n2 _ _ k).1 e.symm,.inl (.inr k)⟩
   .exact⟨v8,.inr rfl⟩
  .rintro⟨_,(k|k)|k⟩
   .exact .inl (.inl k)
   .exact .inr (.inl k)
   .rcases bF k with⟨e1,e2⟩|⟨e1,e2⟩
    .exact .inr (.inr ⟨e1,e2⟩)
    .exact .inl (.inr ⟨e1,e2⟩)
 .refine aAo.2 ⟨fH hn,sS,?_⟩;rintro p P7 q hq rfl;rw[aAk]at hq;subst hq;exact((hlw _ _).1 P7).elim x8.1 x8.2
 .intro p r9;rcases aAd.1 r9 with k|k
  .rw[eE]at k;obtain⟨q,hq,rfl⟩:=aAi.1 k;exact hp _ _ hq
  .exact⟨x,hx,(aAk.1 k).symm⟩
 .show v∈ring++[x.a,x.b]↔∃ u,u≠v/\prP u v∈iI ring++[prP x.a x.b];have e:v∈ring++[x.a,x.b]↔v∈ring:=by
   simp only[aAd,aAe,aCa,aDx];constructor
   .rintro(k|rfl|rfl)
    .exact k
    .exact ha
    .exact hb
   .exact .inl
  rw[e];constructor
  .intro k;obtain⟨u,k|k⟩:=tR J9 k
   .exact⟨u,(n2 _ _ k).1,aAq _ ((hlw u v).2 (.inl k))⟩
   .exact⟨u,fun e=>(n2 _ _ k).1 e.symm,aAq _ ((hlw u v).2 (.inr k))⟩
  .rintro⟨u,k1,k2⟩;rcases aAd.1 k2 with k|k
   .rcases(hlw u v).1 k with k|k
    .exact(bE k).2
    .exact(bE k).1
   .rcases bF (aAk.1 k)with⟨e1,e2⟩|⟨e1,e2⟩
    .rw[e2];exact hb
    .rw[e2];exact ha
 .have hvw:∀ v∈ring,v∈vsF E:=fun v hv=>by
   obtain⟨u,k|k⟩:=tR J9 hv
   .obtain⟨e,he,N4⟩:=hp _ _ k;rw[bA];rcases bF N4 with⟨e1,e2⟩|⟨e1,e2⟩
    .exact⟨e,he,.inr e2.symm⟩
    .exact⟨e,he,.inl e1.symm⟩
   .obtain⟨e,he,N4⟩:=hp _ _ k;rw[bA];rcases bF N4 with⟨e1,e2⟩|⟨e1,e2⟩
    .exact⟨e,he,.inl e1.symm⟩
    .exact⟨e,he,.inr e2.symm⟩
  have hc:=HG (l:=vsF E) (M:=ring) (on:=[]) (w:=ring++[x.a,x.b]) ((kQ E).imp fun k=>by omega) hn hvw (fun v _ h=>by cases h) fun v _=>⟨fun k=>by
   rcases aAd.1 k with k|k
   .exact .inl k
   .rcases aAe.1 k with rfl|k
    .exact .inl ha
    .rw[aAk]at k;subst k;exact .inl hb,fun k=>k.elim (aAq _) And.left⟩
  have h0:((vsF E).filter fun v=>decide (v∈([]:List Int)))=[]:=sS;rw[h0,List.nil_append]at hc;have hwl:=nJ ring;show 2+((vsF E).filter fun v=>decide (v∈ring++[x.a,x.b])).length=(iI ring++[prP x.a x.b]).length+2;rw[hc,aAn];simp only[List.length_nil,List.length_cons];omega
 .intro R hs ht O1 K9 p O9 q hq';have w1:=O1 ring sS;have w2:=O1 ring.reverse sS;have c1:(x.b,x.a)∈prs ring:=by rw[pr1];simp
  have c2:(x.a,x.b)∈prs ring.reverse:=by rw[pr2];simp
  have cc:R (x.b,x.a) (x.a,x.b):=K9 _ (aV.2 ⟨ring,sS,c1⟩);have all:∀ p∈PF [ring,ring.reverse],R p (x.a,x.b):=fun p hpp=>by
   obtain⟨t,Y4,k⟩:=aV.1 hpp;rcases aAe.1 Y4 with e|e
   .rw[e]at k;exact ht _ _ _ (w1 p k _ c1) cc
   .rw[aAk.1 e]at k;exact w2 p k _ c2
  exact ht _ _ _ (all p O9) (hs _ _ (all q hq'))
 .intro t ht;rcases aAe.1 ht with rfl|ht
  .rw[hr];simp
  .rw[aAk]at ht;subst ht;rw[hr];simp
theorem BR{α:Type}[DecidableEq α]{A B:List α}(hA:A.Nodup)(hB:B.Nodup)(hs:∀ x∈A,x∈B)(hl:B.length<=A.length):A.Perm B:=by
 refine(aAZ hA hB).2 fun x=>⟨hs x,fun hx=>aAG fun x8=>?_⟩;have:=aAA (aAp.2 ⟨x8,hA⟩) (l₂:=B) fun y hy=>by
  rcases aAe.1 hy with rfl|hy
  .exact hx
  .exact hs y hy
 rw[List.length_cons]at this;omega
structure jP(E:List Ed)(F:List (List Int)):Prop where
 nd:(PF F).Nodup
 mem:∀ u v,(u,v)∈PF F↔∃ e∈E,prE e=prP u v
 cnt:F.length+(vsF E).length=E.length+2
 con:Con F
 ne:∀ r∈F,r≠[]
theorem Drn.done{E:List Ed}{h:Sh}(hD:Drn E h)(Zo:∀ e∈E,e.a≠e.b)(hs:(E.map prE).Nodup)(hl:E.length<=h.L.length):jP E h.F:=by
 have hp:h.L.Perm (E.map prE):=by refine BR hD.lnd hs (fun p hp=>?_) (by rw[aAB];exact hl);obtain⟨e,he,rfl⟩:=hD.sub p hp;exact aAt he
 have hL:∀ p,p∈h.L↔∃ e∈E,prE e=p:=fun p=>by rw[hp.mem_iff,aAi]
 refine⟨hD.nd,fun u v=>?_,?_,hD.con,hD.ne⟩
 .rw[hD.mem,hL];constructor
  .exact And.right
  .rintro⟨e,he,N4⟩;refine⟨fun k=>?_,e,he,N4⟩;have:=Zo e he;rcases bF N4 with⟨e1,e2⟩|⟨e1,e2⟩<;>omega
 .have h1:=hD.cnt;have h2:((vsF E).filter fun v=>decide (v∈h.on))=vsF E:=aCs.2 fun v hv=>by
   rw[aAR,hD.on];obtain⟨e,he,k⟩:=(bA v E).1 hv;have:=Zo e he;rcases k with rfl|rfl
   .exact⟨e.b,fun k=>this k.symm,(hL _).2 ⟨e,he,aJ _ _⟩⟩
   .exact⟨e.a,this,(hL _).2 ⟨e,he,rfl⟩⟩
  have h3:=hp.length_eq;rw[aAB]at h3;rw[h2]at h1;omega
theorem Rl{e:Ed}(Zo:e.a≠e.b):jP [e] [[e.a,e.b]]:=by
 have hPF:PF [[e.a,e.b]]=[(e.a,e.b),(e.b,e.a)]:=rfl;have hv:(vsF [e]).length=2:=by
  have hp:(vsF [e]).Perm [e.a,e.b]:=(aAZ ((kQ _).imp fun k=>by omega) (sF1 Zo)).2 fun v=>by rw[bA];simp
  rw[hp.length_eq];rfl
 refine⟨by rw[hPF];simp[Zo],fun u v=>?_,by rw[hv];rfl,fun R hs ht hr K9 p hp q hq=>?_,sS⟩
 .rw[hPF];simp only[aAe,aCa,aDx,aBd,exists_eq_left];constructor
  .rintro(⟨rfl,rfl⟩|⟨rfl,rfl⟩)
   .rfl
   .exact aJ _ _
  .intro k;rcases bF k with⟨e1,e2⟩|⟨e1,e2⟩
   .exact .inl ⟨e1.symm,e2.symm⟩
   .exact .inr ⟨e2.symm,e1.symm⟩
 .exact hr [e.a,e.b] sS p (by simpa[PF]using hp) q (by simpa[PF]using hq)
theorem LF:∀(l:List Int) (k:Nat),k+1<l.length->(lnk l)[k]?=some (l.getD k 0,l.getD (k+1) 0)
 |[],k,h=>by simp at h
 |[_],k,h=>by simp at h
 |a::b::l,0,_=>by simp[lnk]
 |a::b::l,k+1,h=>by have:=LF (b::l) k (by simpa using h);simpa[lnk]using this
theorem oK(r:List Int):(prs r).length=r.length:=by
 unfold prs;rw[zY,aAn,aAw];cases r with
 |nil=>rfl
 |cons a r=>simp
theorem FC(r:List Int)(k:Nat)(h:k<r.length):(prs r)[k]?=some (r.getD k 0,r.getD ((k+1) % r.length) 0):=by
 have hl:(r++r.take 1).length=r.length+1:=by rw[aAn,aAw];omega
 unfold prs;rw[LF _ k oO];have e1:(r++r.take 1).getD k 0=r.getD k 0:=by rw[aAg,aBf h,<- aAg]
 have e2:(r++r.take 1).getD (k+1) 0=r.getD ((k+1) % r.length) 0:=by
  rw[aAg];by_cases hk:k+1<r.length
  .rw[aBf hk,aAJ hk,<- aAg]
  .have:k+1=r.length:=oO;rw[aBu oO,this,aDG,Nat.sub_self,List.getElem?_take_of_lt oO,<- aAg]
 rw[e1,e2]
def trs(r:List Int):List (Int×Int×Int):=(List.range r.length).map fun k=>(r.getD (jJ r.length k) 0,r.getD k 0,r.getD ((k+1) % r.length) 0)
def CF(A:Tn)(t:Int×Int×Int):Tn:=iE t.2.1 t.1 t.2.2 A
theorem pJ{n k:Nat}(h:k<n):jJ n k<n/\(jJ n k+1) % n=k:=by
 unfold jJ
 split
 .rename_i e;subst e;exact⟨oO,by rw[show n-1+1=n by omega,aDG]⟩
 .exact⟨oO,by rw[show k-1+1=k by omega,aAJ h]⟩
theorem DR(r:List Int)(A:Tn):∀ j,j<=r.length->jV r A j=((trs r).take j).foldl CF A
 |0,_=>rfl
 |j+1,h=>by
  have ht:(trs r).take (j+1)=(trs r).take j++[(r.getD (jJ r.length j) 0,r.getD j 0,r.getD ((j+1) % r.length) 0)]:=by unfold trs;rw[aAs (by simp;omega)];simp
  rw[ht,aBI,<- DR r A j oO];rfl
theorem yP(F:List (List Int)):aS F=(F.flatMap trs).foldl CF []:=by
 unfold aS;have key:∀(F:List (List Int)) (A:Tn),F.foldl (fun A r=>jV r A r.length) A=(F.flatMap trs).foldl CF A:=by
  intro F;induction F with
  |nil=>intro A;rfl
  |cons r F ih=>intro A;rw[List.foldl_cons,ih,aAF,aBI,DR r A _ (aAm _),aAv (by simp[trs])]
 exact key F []
theorem Cz(v v' x y:Int):∀ A:Tn,dJ v' (iE v x y A)=if v'=v then rJ x y (dJ v A)else dJ v' A
 |[]=>by
  unfold iE;by_cases h:v'=v
  .subst h;simp[dJ,rJ]
  .simp only[dJ,aAa h,aAa (fun e:v=v'=>h e.symm)]
 |a::A=>by
  have ih:=Cz v v' x y A;unfold iE;by_cases ha:a.1=v
  .rw[aAj ha];by_cases h:v'=v
   .subst h;simp[dJ,ha]
   .simp only[dJ,aAa h,aAa (fun e:v=v'=>h e.symm),aAa (fun e:a.1=v'=>h (by rw[<- e,ha]))]
  .rw[aAa ha];by_cases h:v'=v
   .subst h;rw[aAj rfl]at ih ⊢;simp only[dJ,aAa ha,ih]
   .rw[aAa h]at ih ⊢;simp only[dJ,ih]
theorem Hl(x y:Int):∀ P:List (Int×Int),x∉P.map (·.1)->rJ x y P=P++[(x,y)]
 |[],_=>rfl
 |p::P,h=>by rw[aAl,aAe,aCr]at h;unfold rJ;rw[aAa fun e=>h.1 e.symm,Hl x y P h.2];rfl
theorem OA(v:Int):∀(T:List (Int×Int×Int)),(T.map fun t=>(t.1,t.2.1)).Nodup->dJ v (T.foldl CF [])=(T.filter fun t=>decide (t.2.1=v)).map fun t=>(t.1,t.2.2):=by
 intro T;induction T using yI with
 |h0=>intro _;rfl
 |h1 T t ih=>
  intro hn;rw[aAu,aAo]at hn;have ih:=ih hn.1;rw[aBI,List.foldl_cons,List.foldl_nil,aCy,aAu,<- ih];rw[show CF (T.foldl CF []) t=iE t.2.1 t.1 t.2.2 (T.foldl CF []) from rfl,Cz];by_cases h:v=t.2.1
  .subst h;rw[aAj rfl,Hl]
   .simp
   .rw[ih,aAX];intro hm;obtain⟨s,hs,e⟩:=aAi.1 hm;rw[aAy,aAR]at hs;exact hn.2.2 _ (aAt (f:=fun t:Int×Int×Int=>(t.1,t.2.1)) hs.1) (t.1,t.2.1) sS (aBZ e hs.2)
  .rw[aAa h];have:¬t.2.1=v:=fun e=>h e.symm;simp[this]
theorem Sw(r:List Int):((trs r).map fun t=>(t.1,t.2.1)).Perm (prs r):=by
 have e:prs r=(List.range r.length).map fun k=>(r.getD k 0,r.getD ((k+1) % r.length) 0):=by
  refine aCo fun k=>?_;by_cases h:k<r.length
  .rw[FC r k h];simp[h]
  .rw[aBV (by rw[oK];omega),aBV (by simp;omega)]
 have e2:((trs r).map fun t=>(t.1,t.2.1))=((List.range r.length).map (jJ r.length)).map fun k=>(r.getD k 0,r.getD ((k+1) % r.length) 0):=by unfold trs;rw[aAX,aAX];refine aAN fun k hk=>?_;have:=(pJ (aBl.1 hk)).2;simp only[Function.comp_apply,this]
 rw[e,e2];refine List.Perm.map _ (BR ?_ aDB (fun x hx=>?_) sS)
 .unfold List.Nodup;rw[aAV];refine aBP.imp_of_mem fun {a b} ha hb v8 h=>?_;have h1:=(pJ (aBl.1 ha)).2;have h2:=(pJ (aBl.1 hb)).2;rw[h]at h1;omega
 .obtain⟨k,hk,rfl⟩:=aAi.1 hx;exact aBl.2 (pJ (aBl.1 hk)).1
theorem wV(F:List (List Int)):((F.flatMap trs).map fun t=>(t.1,t.2.1)).Perm (PF F):=by
 induction F with
 |nil=>exact .refl _
 |cons r F ih=>unfold PF at ih ⊢;rw[aAF,aAF,aAu];exact(Sw r).append ih
def cd(p:Int×Int):Int:=p.1*4194304+p.2
theorem vV{p:Int×Int}(h:0<=p.2/\p.2<4194304):cd p / 4194304=p.1:=by unfold cd;omega
theorem hU{p q:Int×Int}(h:0<=p.2/\p.2<4194304)(k:0<=q.2/\q.2<4194304)(e:cd p=cd q):p=q:=by unfold cd at e;exact aBZ oO oO
theorem Pw{r:List Int}(hn:(prs r).Nodup)(hb:∀ v∈r,0<=v/\v<4194304){t:Int×Int×Int}(ht:t∈trs r):(t.1,t.2.1)∈prs r/\(t.2.1,t.2.2)∈prs r/\nx ((prs r).map cd) (cd (t.1,t.2.1))=cd (t.2.1,t.2.2):=by
 unfold trs at ht;obtain⟨k,hk,rfl⟩:=aAi.1 ht;rw[aBl]at hk;obtain⟨p1,p2⟩:=pJ hk;have hl:=oK r;have g1:(prs r)[jJ r.length k]'(by omega)=(r.getD (jJ r.length k) 0,r.getD k 0):=by have:=FC r _ p1;rw[aAh oO,aAb]at this;rw[this,p2]
 have g2:(prs r)[k]'(by omega)=(r.getD k 0,r.getD ((k+1) % r.length) 0):=by have:=FC r _ hk;rw[aAh oO,aAb]at this;exact this
 have j5:∀ p∈prs r,0<=p.2/\p.2<4194304:=fun p hp=>hb _ (pS (x:=p.1) hp).2;have I1:((prs r).map cd).Nodup:=by unfold List.Nodup;rw[aAV];exact hn.imp_of_mem fun {a b} ha hb Zo e=>Zo (hU (j5 a ha) (j5 b hb) e)
 have K3:((prs r).map cd).length=r.length:=by rw[aAB,hl]
 refine⟨by rw[<- g1];exact aAI _,by rw[<- g2];exact aAI _,?_⟩;simp only;rw[<- g1,<- g2];have:=gY I1 (j:=jJ r.length k) oO;simp only[aCt]at this;rw[this]
 congr 1
 simp only[K3,p2]
def tws(E:List Ed):List (Int×Int):=E.map fun e=>(cd (e.a,e.b),cd (e.b,e.a))
theorem AG(s:Int->Int){x:Int}:∀ P:List (Int×Int),(∀ p∈P,x≠p.1/\x≠p.2)->swP s P x=s x
 |[],_=>rfl
 |p::P,h=>by unfold swP;rw[sP (h p aAf).1 (h p aAf).2];exact AG s P fun q hq=>h q (aAc _ hq)
theorem Lp(s:Int->Int){u v:Int}:∀ E:List Ed,(∀ e∈E,(0<=e.a/\e.a<4194304)/\0<=e.b/\e.b<4194304)->(E.map prE).Nodup->(∃ e∈E,prE e=prP u v)->swP s (tws E) (cd (v,u))=s (cd (u,v))
 |[],_,_,h=>by obtain⟨_,h,_⟩:=h;cases h
 |e::E,hb,hn,h=>by
  rw[aAl,aAp]at hn;have b0:=hb e aAf;have hbE:=fun e he=>hb e (aAc _ he);by_cases he:prE e=prP u v
  .have H9:∀ x y,prP x y=prE e->(0<=x/\x<4194304)->(0<=y/\y<4194304)->∀ p∈tws E,cd (x,y)≠p.1/\cd (x,y)≠p.2:=by
    intro x y G8 hx hy p hp;obtain⟨f,hf,rfl⟩:=aAi.1 hp;have bf:=hbE f hf;constructor
    .intro k;have:=hU (p:=(x,y)) (q:=(f.a,f.b)) hy bf.2 k;injection this with k1 k2;exact hn.1 (aAi.2 ⟨f,hf,by rw[<- G8,k1,k2]⟩)
    .intro k;have:=hU (p:=(x,y)) (q:=(f.b,f.a)) hy bf.1 k;injection this with k1 k2;exact hn.1 (aAi.2 ⟨f,hf,by rw[<- G8,k1,k2];exact aJ _ _⟩)
   show swP s (tws E) (Eu.sw (cd (e.a,e.b)) (cd (e.b,e.a)) (cd (v,u)))=_;rcases bF he with⟨e1,e2⟩|⟨e1,e2⟩
   .rw[<- e1,<- e2,Gt,AG s _ (H9 e.a e.b rfl b0.1 b0.2)]
   .rw[<- e1,<- e2,Cq,AG s _ (H9 e.b e.a (aJ _ _) b0.2 b0.1)]
  .obtain⟨f,hf,hp⟩:=h;rcases aAe.1 hf with rfl|hf
   .exact absurd hp he
   show swP s (tws E) (Eu.sw (cd (e.a,e.b)) (cd (e.b,e.a)) (cd (v,u)))=_;have bf:=hbE f hf;have bu:(0<=u/\u<4194304)/\0<=v/\v<4194304:=by
    rcases bF hp with⟨e1,e2⟩|⟨e1,e2⟩
    .rw[<- e1,<- e2];exact bf
    .rw[<- e1,<- e2];exact⟨bf.2,bf.1⟩
   rw[sP]
   .exact Lp s E hbE hn.2 ⟨f,hf,hp⟩
   .intro k;have:=hU (p:=(v,u)) (q:=(e.a,e.b)) bu.1 b0.2 k;injection this with k1 k2;exact he (by rw[k1,k2];exact aJ _ _)
   .intro k;have:=hU (p:=(v,u)) (q:=(e.b,e.a)) bu.1 b0.1 k;injection this with k1 k2;exact he (by rw[k1,k2])
def Rws(F:List (List Int)):List (List Int):=F.map fun r=>(prs r).map cd
theorem iG(F:List (List Int)):(Rws F).flatten=(PF F).map cd:=by unfold Rws PF;rw[aEa,<- List.flatMap_def]
theorem fT{E:List Ed}{e:Ed}(he:e∈E){x y:Int}(h:prE e=prP x y):x∈vsF E/\y∈vsF E:=by
 rw[bA,bA];rcases bF h with⟨e1,e2⟩|⟨e1,e2⟩
 .exact⟨⟨e,he,.inl e1.symm⟩,⟨e,he,.inr e2.symm⟩⟩
 .exact⟨⟨e,he,.inr e2.symm⟩,⟨e,he,.inl e1.symm⟩⟩
structure BlE(E:List Ed):Prop where
 ne:∀ e∈E,e.a≠e.b
 sim:(E.map prE).Nodup
 bnd:∀ v∈vsF E,0<=v/\v<4194304
section
variable {E:List Ed} {F:List (List Int)} (hO:jP E F) (hE:BlE E)
include hO hE
theorem jP.b2{p:Int×Int}(h:p∈PF F):(0<=p.1/\p.1<4194304)/\0<=p.2/\p.2<4194304:=by obtain⟨e,he,hp⟩:=(hO.mem p.1 p.2).1 h;have:=fT he hp;exact⟨hE.bnd _ this.1,hE.bnd _ this.2⟩
theorem jP.cdnd:((Rws F).flatten).Nodup:=by rw[iG];unfold List.Nodup;rw[aAV];exact hO.nd.imp_of_mem fun {p q} hp hq Zo e=>Zo (hU (hO.b2 hE hp).2 (hO.b2 hE hq).2 e)
theorem jP.swap{u v:Int}(h:(u,v)∈PF F):(v,u)∈PF F:=by obtain⟨e,he,hp⟩:=(hO.mem u v).1 h;exact(hO.mem v u).2 ⟨e,he,by rw[hp];exact aJ _ _⟩
theorem jP.next{u v:Int}(h:(u,v)∈PF F):∃ w,(u,v,w)∈F.flatMap trs/\∃ r∈F,(u,v)∈prs r/\(v,w)∈prs r/\sgR (Rws F) (cd (u,v))=cd (v,w):=by
 have:=(wV F).mem_iff.2 h;obtain⟨t,ht,e⟩:=aAi.1 this;obtain⟨r,hr,htr⟩:=aAY.1 ht;have H7:∀ p∈prs r,p∈PF F:=fun p hp=>aV.2 ⟨r,hr,hp⟩;have hn:(prs r).Nodup:=by have h0:=hO.nd;unfold PF at h0;rw[List.flatMap_def]at h0;exact row_nodup' h0 (aAt hr)
 have hb:∀ v∈r,0<=v/\v<4194304:=fun v hv=>by obtain⟨x,hx⟩:=gV hv;exact(hO.b2 hE (H7 _ hx)).1
 obtain⟨h1,h2,h3⟩:=Pw hn hb htr;injection e with e1 e2;rw[e1,e2]at h1 h3;rw[e2]at h2;refine⟨t.2.2,?_,r,hr,h1,h2,?_⟩
 .rw[<- e1,<- e2];exact ht
 .rw[gA (hO.cdnd hE) (t:=(prs r).map cd) (aAt (f:=fun r=>(prs r).map cd) hr) (aAt h1),h3]
where
 row_nodup' {α:Type} {L:List (List α)} (hn:L.flatten.Nodup) {t:List α} (ht:t∈L):t.Nodup:=(aBo ht).nodup hn
abbrev sgV(E:List Ed)(F:List (List Int)):Int->Int:=swP (sgR (Rws F)) (tws E)
theorem jP.tws_mem:∀ p∈tws E,p.1∈(Rws F).flatten/\p.2∈(Rws F).flatten/\p.1≠p.2:=fun p hp=>by obtain⟨e,he,rfl⟩:=aAi.1 hp;have h1:=(hO.mem e.a e.b).2 ⟨e,he,rfl⟩;have h2:=hO.swap hE h1;rw[iG];refine⟨aAt h1,aAt h2,fun k=>hE.ne e he ?_⟩;have:=hU (hO.b2 hE h1).2 (hO.b2 hE h2).2 k;injection this
theorem jP.sgV_at{u v:Int}(h:(u,v)∈PF F):sgV E F (cd (v,u))=sgR (Rws F) (cd (u,v)):=
 Lp _ E (fun e he=>⟨hE.bnd _ ((bA _ _).2 ⟨e,he,.inl rfl⟩),hE.bnd _ ((bA _ _).2 ⟨e,he,.inr rfl⟩)⟩) hE.sim ((hO.mem u v).1 h)
theorem jP.sgV_permOn:dF (Rws F).flatten (sgV E F):=lH (lK (hO.cdnd hE)) _ fun p hp=>⟨(hO.tws_mem hE p hp).1,(hO.tws_mem hE p hp).2.1⟩
theorem jP.sgV_base(x:Int):sgV E F x / 4194304=x / 4194304:=by
 by_cases hx:x∈(Rws F).flatten
 .rw[iG]at hx;obtain⟨⟨v,u⟩,hp,rfl⟩:=aAi.1 hx;have h2:=hO.swap hE hp;obtain⟨w,_,r,hr,k1,k2,k3⟩:=hO.next hE h2;have k4:=aV.2 ⟨r,hr,k2⟩;rw[hO.sgV_at hE h2,k3,vV (hO.b2 hE k4).2,vV (hO.b2 hE hp).2]
 .rw[(hO.sgV_permOn hE).out x hx]
theorem jP.sgV_it:∀(n:Nat) (x:Int),it (sgV E F) n x / 4194304=x / 4194304
 |0,_=>rfl
 |n+1,x=>by rw[cA,hO.sgV_base hE,jP.sgV_it n x]
theorem jP.count(h0:E≠[]):Flat (Rws F).flatten (sgR (Rws F)) (tws E)/\∀ x∈(Rws F).flatten,∀ y∈(Rws F).flatten,x / 4194304=y / 4194304->Orb (sgV E F) x y:=by
 have hn:=hO.cdnd hE;have hφ:=lK hn;have hσ:=hO.sgV_permOn hE;obtain⟨_,c,hc⟩:=xJ hφ (tws E) (hO.tws_mem hE);have hM:=dX hφ.per.eqv (tws E);have hall:∀ x∈(Rws F).flatten,∀ y∈(Rws F).flatten,mgP (Orb (sgR (Rws F))) (tws E) x y:=by
  intro x hx y hy;rw[iG]at hx hy;obtain⟨p,hp,rfl⟩:=aAi.1 hx;obtain⟨q,hq,rfl⟩:=aAi.1 hy;refine hO.con (fun p q=>mgP (Orb (sgR (Rws F))) (tws E) (cd p) (cd q)) (fun _ _ k=>hM.symm k) (fun _ _ _ k l=>hM.trans k l) (fun r hr p hp q hq=>?_) (fun p hp=>?_) p hp q hq
  .exact fV _ ((GM hn (aAt (f:=fun r=>(prs r).map cd) hr) (aAt hp)).2 (aAt hq))
  .obtain⟨e,he,N4⟩:=(hO.mem p.1 p.2).1 hp;have:=jQ hφ.per.eqv (tws E) (p:=(cd (e.a,e.b),cd (e.b,e.a))) (aAt (f:=fun e:Ed=>(cd (e.a,e.b),cd (e.b,e.a))) he);rcases bF N4 with⟨e1,e2⟩|⟨e1,e2⟩
   .rw[e1,e2]at this;exact this
   .rw[e1,e2]at this;exact hM.symm this
 have hD0:(Rws F).flatten≠[]:=by rw[iG];intro e;have:=aCG.1 e;obtain⟨e,he⟩:=aAM _ h0;have h:=(hO.mem e.a e.b).2 ⟨e,he,rfl⟩;rw[this]at h;cases h
 have I5:=UQ hall hD0;rw[I5]at hc;have hF:ncl (Orb (sgR (Rws F))) (Rws F).flatten=F.length:=by rw[Lx hn,aCs.2,Rws,aAB];intro t ht;obtain⟨r,hr,rfl⟩:=aAi.1 ht;have h1:=hO.ne r hr;have h2:=oK r;rw[aAR];intro e;have h3:=congrArg List.length e;rw[aAB,h2]at h3;exact h1 (aCp.1 h3)
 have hlen:(tws E).length=E.length:=by rw[tws,aAB]
 rw[hF,hlen]at hc;have hc:2*1+E.length=2*c+F.length+ncl (Orb (sgV E F)) (Rws F).flatten:=hc;let B:Int->Int->Prop:=fun x y=>x / 4194304=y / 4194304;have hB:Eqv B:=⟨fun _=>rfl,fun h=>Eq.symm h,fun h k=>Eq.trans h k⟩;have hBn:(vsF E).length<=ncl B (Rws F).flatten:=by
  refine oW (R:=B) (fun x=>x / 4194304) (fun _ _ _ _ h=>h) (vsF E) ((kQ E).imp fun k=>by omega) fun a ha=>?_;obtain⟨e,he,k⟩:=(bA a E).1 ha;have h1:=(hO.mem e.a e.b).2 ⟨e,he,rfl⟩;have h2:=hO.swap hE h1;rcases k with rfl|rfl
  .exact⟨_,by rw[iG];exact aAt h1,vV (hO.b2 hE h1).2⟩
  .exact⟨_,by rw[iG];exact aAt h2,vV (hO.b2 hE h2).2⟩
 have hcnt:=hO.cnt;have H7:∀ x y,Orb (sgV E F) x y->B x y:=fun x y ⟨n,hn⟩=>by show x / 4194304=y / 4194304;rw[<- hn,hO.sgV_it hE]
 have hmono:ncl B (Rws F).flatten<=ncl (Orb (sgV E F)) (Rws F).flatten:=pK fun x _ y _=>H7 x y;refine⟨?_,fun x hx y hy k=>Ra hσ.per.eqv hB (l:=(Rws F).flatten) H7 oO hx hy k⟩;show 2*_+_=_+ncl (Orb (sgV E F)) _;rw[I5,hF,hlen];omega
theorem jP.one_turn(h0:E≠[]){v u u':Int}(h:(u,v)∈PF F)(h':(u',v)∈PF F):Orb (sgV E F) (cd (v,u)) (cd (v,u')):=by have a1:=hO.swap hE h;have a2:=hO.swap hE h';refine(hO.count hE h0).2 _ (by rw[iG];exact aAt a1) _ (by rw[iG];exact aAt a2) ?_;rw[vV (hO.b2 hE a1).2,vV (hO.b2 hE a2).2]
end
theorem LG:∀ {P:List (Int×Int)},(P.map (·.1)).Nodup->∀ {u w:Int},(u,w)∈P->oL P u=w
 |p::P,hn,u,w,h=>by
  rw[aAl,aAp]at hn;unfold oL;rcases aAe.1 h with rfl|h
  .rw[aAj rfl]
  .rw[aAa fun e=>hn.1 (by rw[e];exact aAt (f:=(·.1)) h)];exact LG hn.2 h
section
variable {E:List Ed} {F:List (List Int)} (hO:jP E F) (hE:BlE E)
include hO hE
theorem jP.getA_eq(v:Int):dJ v (aS F)=((F.flatMap trs).filter fun t=>decide (t.2.1=v)).map fun t=>(t.1,t.2.2):=by rw[yP,OA v _ ((wV F).nodup_iff.2 hO.nd)]
theorem jP.keys(v:Int):((dJ v (aS F)).map (·.1)).Nodup/\∀ u,u∈(dJ v (aS F)).map (·.1)↔(u,v)∈PF F:=by
 rw[hO.getA_eq hE,aAX];have hn:=(wV F).nodup_iff.2 hO.nd;constructor
 .unfold List.Nodup at hn ⊢;rw[aAV]at hn ⊢;refine(hn.sublist aAP).imp_of_mem fun {s t} hs ht Zo e=>Zo ?_;rw[aAy,aAR]at hs ht;exact aBZ e (by rw[hs.2,ht.2])
 .intro u;rw[<- (wV F).mem_iff,aAi,aAi];constructor
  .rintro⟨t,ht,rfl⟩;rw[aAy,aAR]at ht;exact⟨t,ht.1,by rw[<- ht.2];rfl⟩
  .rintro⟨t,ht,e⟩;injection e with e1 e2;exact⟨t,by rw[aAy,aAR];exact⟨ht,e2⟩,e1⟩
theorem jP.step{u v:Int}(h:(u,v)∈PF F):(∃ r∈F,(u,v)∈prs r/\(v,oL (dJ v (aS F)) u)∈prs r)/\sgV E F (cd (v,u))=cd (v,oL (dJ v (aS F)) u):=by
 obtain⟨w,h1,r,hr,k1,k2,k3⟩:=hO.next hE h;have j5:(u,w)∈dJ v (aS F):=by rw[hO.getA_eq hE];exact aAi.2 ⟨(u,v,w),by rw[aAy];exact⟨h1,sS⟩,rfl⟩
 rw[LG (hO.keys hE v).1 j5,hO.sgV_at hE h];exact⟨⟨r,hr,k1,k2⟩,k3⟩
theorem jP.round(h0:E≠[]){v:Int}(hv:v∈vsF E):(bX (dJ v (aS F))).Nodup/\bX (dJ v (aS F))≠[]/\(∀ u,u∈bX (dJ v (aS F))↔∃ e∈E,prE e=prP v u)/\
 ∀ u∈bX (dJ v (aS F)),∃ r∈F,(u,v)∈prs r/\(v,nx (bX (dJ v (aS F))) u)∈prs r:=by
 have hk:=hO.keys hE v;have H8:=fun u (h:(u,v)∈PF F)=>hO.step hE h;have I5:=fun u u' (h:(u,v)∈PF F) (h':(u',v)∈PF F)=>hO.one_turn hE h0 h h';have hb:=fun p (h:p∈PF F)=>hO.b2 hE h;obtain⟨u0,hu0⟩:∃ u,(u,v)∈PF F:=by
  obtain⟨e,he,k⟩:=(bA v E).1 hv;have h1:=(hO.mem e.a e.b).2 ⟨e,he,rfl⟩;rcases k with rfl|rfl
  .exact⟨_,hO.swap hE h1⟩
  .exact⟨_,h1⟩
 have hswap:=fun u w (h:(u,w)∈PF F)=>hO.swap hE h;generalize dJ v (aS F)=P at *;have hK0:P.map (·.1)≠[]:=aBs ((hk.2 u0).2 hu0);have hP:P≠[]:=fun e=>hK0 (by rw[e];rfl);have hf:(mn (P.map (·.1)),v)∈PF F:=(hk.2 _).1 (xM hK0);generalize hfe:mn (P.map (·.1))=f at *;let nv:Int->Int:=fun x=>if x∈P.map (·.1)then oL P x else x
 have nvin:∀ u,(u,v)∈PF F->nv u=oL P u:=fun u hu=>aAj ((hk.2 u).2 hu);have nvPF:∀ u,(u,v)∈PF F->(nv u,v)∈PF F:=fun u hu=>by rw[nvin u hu];obtain⟨⟨r,hr,_,k⟩,_⟩:=H8 u hu;exact hswap _ _ (aV.2 ⟨r,hr,k⟩)
 have itPF:∀ n u,(u,v)∈PF F->(it nv n u,v)∈PF F/\it (sgV E F) n (cd (v,u))=cd (v,it nv n u):=by
  intro n;induction n with
  |zero=>intro u hu;exact⟨hu,rfl⟩
  |succ n ih=>intro u hu;obtain⟨i1,i2⟩:=ih u hu;rw[cA,cA,i2,(H8 _ i1).2,<- nvin _ i1];exact⟨nvPF _ i1,rfl⟩
 have orb:∀ u u',(u,v)∈PF F->(u',v)∈PF F->Orb nv u u':=fun u u' hu hu'=>by obtain⟨n,hn⟩:=I5 u u' hu hu';rw[(itPF n u hu).2]at hn;have:=hU (hb _ (hswap _ _ (itPF n u hu).1)).2 (hb _ (hswap _ _ hu')).2 hn;injection this with _ e;exact⟨n,e⟩
 have hper:∃ p,0<p/\it nv p f=f:=by obtain⟨n,hn⟩:=orb (nv f) f (nvPF f hf) hf;exact⟨n+1,oO,hn⟩
 obtain⟨p,⟨hp0,hpf⟩,Q5⟩:=least (P:=fun n=>0<n/\it nv n f=f) hper.choose_spec;have hdist:∀ i j,i<j->j<p->it nv i f≠it nv j f:=by
  intro i j hij hj e;have h1:it nv (p-j) (it nv j f)=f:=by rw[<- kX,show p-j+j=p by omega,hpf]
  rw[<- e,<- kX]at h1;exact Q5 (p-j+i) oO ⟨oO,h1⟩
 have hnd:((List.range p).map fun k=>it nv k f).Nodup:=by unfold List.Nodup;rw[aAV];exact(aBP (n:=p)).imp_of_mem fun {i j} _ hj hij=>hdist i j hij (aBl.1 hj)
 have J8:∀ u,u∈((List.range p).map fun k=>it nv k f)↔(u,v)∈PF F:=fun u=>by
  constructor
  .intro h;obtain⟨k,_,rfl⟩:=aAi.1 h;exact(itPF k f hf).1
  .intro hu;obtain⟨n,rfl⟩:=orb f u hf hu;exact aAi.2 ⟨n % p,aBl.2 (aCw _ hp0),(RF hp0 hpf n).symm⟩
 have hlen:p=P.length:=by
  have:=(BR hnd hk.1 (fun x hx=>(hk.2 x).2 ((J8 x).1 hx)) (by
   refine aAA hk.1 fun x hx=>(J8 x).2 ((hk.2 x).1 hx))).length_eq
  simpa using this
 have hgo:∀ m k,k+m=p->0<m->goR P f m (it nv k f)=(List.range' k m).map fun k=>it nv k f:=by
  intro m;induction m with
  |zero=>intro k _ h;omega
  |succ m ih=>
   intro k Q0 _;have e1:oL P (it nv k f)=it nv (k+1) f:=by rw[cA,nvin _ (itPF k f hf).1]
   rw[List.range'_succ,aAl,goR,e1]
   congr 1
   by_cases hm:0<m
   .rw[aAj ⟨fun e=>Q5 (k+1) oO ⟨oO,e⟩,hm⟩];exact ih (k+1) oO hm
   .rw[aAa fun h=>hm h.2];have:m=0:=oO;subst this;rfl
 have hR:bX P=(List.range p).map fun k=>it nv k f:=by unfold bX;rw[hfe,<- hlen,List.range_eq_range'];exact hgo p 0 oO hp0
 rw[hR];refine⟨hnd,?_,fun u=>?_,fun u hu=>?_⟩
 .intro e;have:=congrArg List.length e;simp at this;omega
 .rw[J8,hO.mem];constructor
  .rintro⟨e,he,k⟩;exact⟨e,he,by rw[k];exact aJ _ _⟩
  .rintro⟨e,he,k⟩;exact⟨e,he,by rw[k];exact aJ _ _⟩
 .have huv:=(J8 u).1 hu;obtain⟨⟨r,hr,k1,k2⟩,_⟩:=H8 u huv;refine⟨r,hr,k1,?_⟩;obtain⟨k,Q0,rfl⟩:=aAi.1 hu;rw[aBl]at Q0;have hl:((List.range p).map fun k=>it nv k f).length=p:=sS;have e1:=gY hnd (j:=k) (by rw[hl];exact Q0);simp only[aCt,List.getElem_range,hl]at e1;rw[e1,<- RF hp0 hpf,cA,nvin _ huv];exact k2
end
def unA(p:Int×Int):Int×Int:=prP p.1 p.2
def pls(A:List (Int×Int)):List (Int×Int):=A.map fun p=>(cd p,cd p.swap)
structure PlD(E:List Ed)(s:Int->Int)(D:List Int):Prop where
 bl:BlE E
 perm:dF D s
 mem:∀ p:Int×Int,(∃ e∈E,prE e=unA p)->cd p∈D
 orb:∀ p q:Int×Int,(∃ e∈E,prE e=unA p)->(∃ e∈E,prE e=unA q)->(Orb s (cd p) (cd q)↔p.1=q.1)
 flat:Flat D s (tws E)
def PlE(E:List Ed)(s:Int->Int):Prop:=∃ D,PlD E s D
theorem PlE.bl{E:List Ed}{s:Int->Int}(h:PlE E s):BlE E:=let ⟨_,k⟩:=h;k.bl
theorem PlE.per{E:List Ed}{s:Int->Int}(h:PlE E s):Per s:=let ⟨_,k⟩:=h;k.perm.per
structure gH(E:List Ed)(A:List (Int×Int)):Prop where
 mem:∀ p∈A,∃ e∈E,prE e=unA p
 nd:(A.map unA).Nodup
theorem gN{α β:Type}(f:α->β):∀ {l:List α},(l.map f).Nodup->l.Nodup
 |[],_=>List.nodup_nil
 |x::l,h=>by rw[aAl,aAp]at h;exact aAp.2 ⟨fun k=>h.1 (aAt k),gN f h.2⟩
theorem pY{α β:Type}{f:α->β}:∀ {l:List α},(l.map f).Nodup->∀ {x y:α},x∈l->y∈l->f x=f y->x=y
 |z::l,h,x,y,hx,hy,e=>by
  rw[aAl,aAp]at h;rcases aAe.1 hx with rfl|kx
  .rcases aAe.1 hy with rfl|ky
   .rfl
   .exact absurd (aAi.2 ⟨y,ky,e.symm⟩) h.1
  .rcases aAe.1 hy with rfl|ky
   .exact absurd (aAi.2 ⟨x,kx,e⟩) h.1
   .exact pY h.2 kx ky e
theorem fR(p:Int×Int):unA p.swap=unA p:=aJ _ _
def orA(A:List (Int×Int))(e:Ed):Int×Int:=if(e.a,e.b)∈A then(e.a,e.b)else if(e.b,e.a)∈A then(e.b,e.a)else(e.a,e.b)
theorem EV(A:List (Int×Int))(e:Ed):orA A e=(e.a,e.b)\/orA A e=(e.b,e.a):=by
 unfold orA
 split
 .exact .inl rfl
 .split
  .exact .inr rfl
  .exact .inl rfl
theorem PE(A:List (Int×Int))(e:Ed):unA (orA A e)=prE e:=by
 rcases EV A e with h|h
 .rw[h];rfl
 .rw[h];exact aJ _ _
theorem TB(a b x:Int):Eu.sw a b x=Eu.sw b a x:=by
 unfold Eu.sw;by_cases h1:x=a
 .by_cases h2:x=b
  .rw[aAj h1,aAj h2,<- h1,<- h2]
  .rw[aAj h1,aAa h2,aAj h1]
 .rw[aAa h1];by_cases h2:x=b
  .rw[aAj h2,aAj h2]
  .rw[aAa h2,aAa h2,aAa h1]
theorem RP(s:Int->Int)(A:List (Int×Int)):∀(E:List Ed) (x:Int),swP s (tws E) x=swP s (pls (E.map (orA A))) x
 |[],_=>rfl
 |e::E,x=>by
  show swP s (tws E) (Eu.sw _ _ x)=swP s (pls (E.map (orA A))) (Eu.sw (cd (orA A e)) (cd (orA A e).swap) x);rw[RP s A E];rcases EV A e with h|h
  .rw[h];rfl
  .rw[h];show _=swP s _ (Eu.sw (cd (e.b,e.a)) (cd (e.a,e.b)) x);rw[TB]
section
variable {E:List Ed} (hP:BlE E)
include hP
theorem BlE.bd{e:Ed}(he:e∈E):(0<=e.a/\e.a<4194304)/\0<=e.b/\e.b<4194304:=by have:=fT (x:=e.a) (y:=e.b) he rfl;exact⟨hP.bnd _ this.1,hP.bnd _ this.2⟩
theorem BlE.arc_bd{p:Int×Int}(h:∃ e∈E,prE e=unA p):(0<=p.1/\p.1<4194304)/\(0<=p.2/\p.2<4194304)/\p.1≠p.2:=by
 obtain⟨e,he,hp⟩:=h;have hb:=hP.bd he;have Zo:=hP.ne e he;rcases bF hp with⟨e1,e2⟩|⟨e1,e2⟩
 .rw[<- e1,<- e2];exact⟨hb.1,hb.2,Zo⟩
 .rw[<- e1,<- e2];exact⟨hb.2,hb.1,aCB Zo⟩
theorem BlE.fl_nd:∀ {A:List (Int×Int)},gH E A->(flP (pls A)).Nodup
 |[],_=>List.nodup_nil
 |p::A,h=>by
  have hA:gH E A:=⟨fun q hq=>h.mem q (aAc _ hq),(aAp.1 h.nd).2⟩;have ih:=BlE.fl_nd hA;obtain⟨b1,b2,b3⟩:=hP.arc_bd (h.mem p aAf);have hn:=(aAp.1 h.nd).1;have key:∀ q:Int×Int,unA q=unA p->((0<=q.1/\q.1<4194304)/\0<=q.2/\q.2<4194304)->cd q∉flP (pls A):=by
   intro q hq bq k;obtain⟨r,hr,e⟩:=dI.1 k;obtain⟨a,ha,rfl⟩:=aAi.1 hr;obtain⟨c1,c2,_⟩:=hP.arc_bd (h.mem a (aAc _ ha));rcases e with e|e
   .have:=hU bq.2 c2 e;exact hn (aAi.2 ⟨a,ha,by rw[<- this,hq]⟩)
   .have:=hU (q:=a.swap) bq.2 c1 e;exact hn (aAi.2 ⟨a,ha,by rw[<- hq,this,fR]⟩)
  show(cd p::cd p.swap::flP (pls A)).Nodup;rw[aAp,aAp];refine⟨fun k=>?_,key p.swap (fR p) ⟨b2,b1⟩,ih⟩;rcases aAe.1 k with k|k
  .have:=hU (p:=p) (q:=p.swap) b2 b1 k;exact b3 (congrArg Prod.fst this)
  .exact key p rfl ⟨b1,b2⟩ k
end
section
variable {E:List Ed} {s:Int->Int} (hP:PlE E s)
include hP
theorem PlE.arc_bd{p:Int×Int}(h:∃ e∈E,prE e=unA p):(0<=p.1/\p.1<4194304)/\(0<=p.2/\p.2<4194304)/\p.1≠p.2:=hP.bl.arc_bd h
theorem PlE.fl_nd{A:List (Int×Int)}(h:gH E A):(flP (pls A)).Nodup:=hP.bl.fl_nd h
theorem PlE.ors(A:List (Int×Int)):gH E (E.map (orA A)):=by
 refine⟨fun p hp=>?_,?_⟩
 .obtain⟨e,he,rfl⟩:=aAi.1 hp;exact⟨e,he,(PE A e).symm⟩
 .have e:(E.map (orA A)).map unA=E.map prE:=by rw[aAX];exact aAN fun e _=>PE A e
  rw[e];exact hP.bl.sim
theorem PlE.sub{A:List (Int×Int)}(hA:gH E A):∃ R,(E.map (orA A)).Perm (R++A):=by
 refine⟨(E.map (orA A)).filter fun p=>decide (p∉A),?_⟩;have hB:=hP.ors A;have hBn:=gN unA hB.nd;have hAn:=gN unA hA.nd;refine(aAZ hBn ?_).2 fun p=>?_
 .rw[aAo];refine⟨hBn.filter _,hAn,fun x hx y hy e=>?_⟩;have:=(aAy.1 hx).2;simp only[aBx]at this;exact this (e ▸ hy)
 .rw[aAd,aAy];simp only[aBx];constructor
  .intro h;by_cases k:p∈A
   .exact .inr k
   .exact .inl ⟨h,k⟩
  .rintro(h|h)
   .exact h.1
   .obtain⟨e,he,hp⟩:=hA.mem p h;refine aAi.2 ⟨e,he,?_⟩;rcases bF hp with⟨e1,e2⟩|⟨e1,e2⟩
    .have:(e.a,e.b)=p:=aBZ e1 e2;unfold orA;rw[this,aAj h]
    .have h1:(e.a,e.b)∉A:=fun k=>by have h3:unA (e.a,e.b)=unA p:=hp;have:=pY hA.nd k h h3;have h4:=hP.bl.ne e he;rw[<- this]at e1 e2;exact h4 e1
     have:(e.b,e.a)=p:=aBZ e2 e1;unfold orA;rw[aAa h1,this,aAj h]
omit hP in
theorem PlD.pairs{D:List Int}(hP:PlD E s D){A:List (Int×Int)}(hA:gH E A):fU (D) (pls A):=by intro q hq;obtain⟨p,hp,rfl⟩:=aAi.1 hq;have hm:=hA.mem p hp;obtain⟨b1,b2,b3⟩:=PlE.arc_bd ⟨D,hP⟩ hm;exact⟨hP.mem _ hm,hP.mem _ (by rw[fR];exact hm),fun e=>b3 (congrArg Prod.fst (hU (p:=p) (q:=p.swap) b2 b1 e))⟩
omit hP in
theorem PlD.flat_or{D:List Int}(hP:PlD E s D)(A:List (Int×Int)):Flat (D) s (pls (E.map (orA A))):=by
 have h:=hP.flat;have e:swP s (tws E)=swP s (pls (E.map (orA A))):=funext fun x=>RP s A E x;have hE:=hP.perm.per.eqv;have up:∀ x y,Orb s x y->mgP (Orb s) (pls (E.map (orA A))) x y:=fun x y k=>fV _ k;have up':∀ x y,Orb s x y->mgP (Orb s) (tws E) x y:=fun x y k=>fV _ k;have e2:ncl (mgP (Orb s) (tws E)) (D)=ncl (mgP (Orb s) (pls (E.map (orA A)))) (D):=by
  refine dQ fun x _ y _=>⟨fun k=>Av (dX hE _) up (fun p hp=>?_) x y k,fun k=>Av (dX hE _) up' (fun p hp=>?_) x y k⟩
  .obtain⟨f,hf,rfl⟩:=aAi.1 hp;have hm:(cd (orA A f),cd (orA A f).swap)∈pls (E.map (orA A)):=aAi.2 ⟨_,aAt hf,rfl⟩;have:=jQ hE _ hm;rcases EV A f with h|h
   .rw[h]at this;exact this
   .rw[h]at this;exact(dX hE _).symm this
  .obtain⟨q,hq,rfl⟩:=aAi.1 hp;obtain⟨f,hf,rfl⟩:=aAi.1 hq;have hm:(cd (f.a,f.b),cd (f.b,f.a))∈tws E:=aAi.2 ⟨f,hf,rfl⟩;have:=jQ hE _ hm;rcases EV A f with h|h
   .rw[h];exact this
   .rw[h];exact(dX hE _).symm this
 unfold Flat at h ⊢;rw[<- e,<- e2];have:(pls (E.map (orA A))).length=(tws E).length:=by unfold pls tws;simp
 rw[this];exact h
theorem PlE.face{p:Int×Int}{A:List (Int×Int)}(hA:gH E (p::A)):mgP (Orb s) (pls A) (cd p) (cd p.swap)->Orb (swP s (pls A)) (cd p) (cd p.swap):=by
 obtain⟨R,hR⟩:=hP.sub hA;have hB:=hP.ors (p::A);have hp:(pls (E.map (orA (p::A)))).Perm (pls R++(cd p,cd p.swap)::pls A):=by have:=hR.map fun p:Int×Int=>(cd p,cd p.swap);rw[aAu]at this;exact this
 have hnd:=hP.fl_nd hB;obtain⟨D,hP⟩:=hP;exact(OY hP.perm (hP.pairs hB) hnd (hP.flat_or _) hp).2
end
section
variable {f:Int->Int} (hf:Per f) {ds:List Int} (hd:∀ x∈ds,f x∈ds)
include hf hd
end
def tix(rs:List (List Int))(d:Int):Int:=if(rs.any fun t=>decide (d∈t))=true then(rs.findIdx fun t=>decide (d∈t):Int)else -1
def MA(m:Mp)(R:List (List Int)):Prop:=NB (fc m m.g.es) (aU m.g.es) (aU m.g.es).length R
section
variable {m:Mp} (h:bS m) {R:List (List Int)} (hR:MA m R)
include h hR
end
def itL(f:Int->Int)(d:Int)(k:Nat):List Int:=(List.range k).map fun j=>it f j d
@[simp] theorem ZN(f:Int->Int)(d:Int)(k:Nat):(itL f d k).length=k:=by simp[itL]
noncomputable def gn(m:Mp):Nat:=(2*ncl (Reach m.g.es) m.g.vs+m.g.es.length-(alone m.g+m.g.vs.length+ncl (Orb (fc m m.g.es)) (aU m.g.es))) / 2
theorem bS.gn{m:Mp}(h:bS m):2*ncl (Reach m.g.es) m.g.vs+m.g.es.length=2*gn m+alone m.g+m.g.vs.length+ncl (Orb (fc m m.g.es)) (aU m.g.es):=by
 obtain⟨k,hk⟩:=h.euler;have:Aw.gn m=k:=by unfold Aw.gn;omega
 omega
section
variable {m:Mp} (h:bS m)
include h
end
def CC(m:Mp)(x y:Int):Prop:=x=y\/∃ v w,x∈ends m.g.es v/\y∈ends m.g.es w/\Reach m.g.es v w
theorem CC.eqv{m:Mp}(h:bS m):Eqv (CC m):=by
 refine⟨fun x=>.inl rfl,?_,?_⟩
 .rintro x y (rfl|⟨v,w,h1,h2,h3⟩)
  .exact .inl rfl
  .exact .inr ⟨w,v,h2,h1,h3.symm⟩
 .rintro x y z (rfl|⟨v,w,h1,h2,h3⟩) (rfl|⟨v',w',k1,k2,k3⟩)
  .exact .inl rfl
  .exact .inr ⟨v',w',k1,k2,k3⟩
  .exact .inr ⟨v,w,h1,h2,h3⟩
  .have:=dL h.g.ids h2 k1;subst this;exact .inr ⟨v,w',h1,k2,h3.trans k3⟩
theorem GV{C:Int->Int->Prop}(hC:Eqv C){l:List Int}:∀(t:List Int) (x:Int),x∈t->(∀ y∈t,∀ z∈t,C y z)->ncl C (t++l)=ncl C l+@ite Nat (∃ y∈l,C y x) (Classical.propDecidable _) 0 1
 |[],x,hx,_=>by grind
 |[z],x,hx,_=>by rw[aAk]at hx;subst hx;rfl
 |z::z'::t,x,hx,hall=>by
  have ih:=GV hC (l:=l) (z'::t) z' aAf (fun y hy w hw=>hall y (aAc _ hy) w (aAc _ hw));have hzx:C z' x:=hall z' sS x hx;rw[List.cons_append,aW ⟨z',sS,hall z' sS z sS⟩,ih]
  congr 1
  by_cases h1:∃ y∈l,C y z'
  .obtain⟨y,hy,hr⟩:=h1;rw[aAj ⟨y,hy,hr⟩,aAj ⟨y,hy,hC.trans hr hzx⟩]
  .rw[aAa h1,aAa];rintro⟨y,hy,hr⟩;exact h1 ⟨y,hy,hC.trans hr (hC.symm hzx)⟩
theorem Ie{R C:Int->Int->Prop}(hC:Eqv C):∀(L:List (Int×List Int)),(∀ p∈L,∀ q∈L,∀ x∈p.2,∀ y∈q.2,(C x y↔R p.1 q.1))->(∀ p∈L,R p.1 p.1)->L.Pairwise (fun p q=>(p.2=[]\/q.2=[])->¬R q.1 p.1)->
 ncl R (L.map (·.1))=ncl C (L.map (·.2)).flatten+(L.filter fun p=>decide (p.2=[])).length
 |[],_,_,_=>rfl
 |(v,t)::L,h1,h3,h2=>by
  rw[aBk]at h2;have ih:=Ie hC L (fun p hp q hq=>h1 p (aAc _ hp) q (aAc _ hq)) (fun p hp=>h3 p (aAc _ hp)) h2.2;simp only[aAl,List.flatten_cons];by_cases ht:t=[]
  .grind [aO]
  .obtain⟨x,hx⟩:=aAM t ht;have J8:(v,t)∈(v,t)::L:=aAf;rw[GV hC t x hx (fun y hy z hz=>(h1 _ J8 _ J8 y hy z hz).2 (h3 _ J8))];have hf:((v,t)::L).filter (fun p=>decide (p.2=[]))=L.filter (fun p=>decide (p.2=[])):=by rw[aDC,aAa (by grind)]
   rw[hf];by_cases he:∃ u∈L.map (·.1),R u v
   .rw[aW he,ih,aAj]
    .omega
    .obtain⟨u,hu,hr⟩:=he;obtain⟨q,hq,rfl⟩:=aAi.1 hu;have V6:q.2≠[]:=fun e=>h2.1 q hq (.inr e) hr;obtain⟨y,hy⟩:=aAM q.2 V6;exact⟨y,aAQ.2 ⟨q.2,aAi.2 ⟨q,hq,rfl⟩,hy⟩,(h1 q (aAc _ hq) _ J8 y hy x hx).2 hr⟩
   .rw[aO he,ih,aAa]
    .omega
    .rintro⟨y,hy,hr⟩;obtain⟨s,hs,hys⟩:=aAQ.1 hy;obtain⟨q,hq,rfl⟩:=aAi.1 hs;exact he ⟨q.1,aAi.2 ⟨q,hq,rfl⟩,(h1 q (aAc _ hq) _ J8 y hys x hx).1 hr⟩
theorem yL{es:List Ed}{v w:Int}(hn:nbr es v=[])(h:Reach es v w):v=w:=by
 induction h with
 |refl=>rfl
 |step _ hw ih=>grind
section
variable {m:Mp} (h:bS m)
include h
theorem bS.ncl_parts:ncl (Reach m.g.es) m.g.vs=ncl (CC m) (aU m.g.es)+alone m.g:=by
 have S8:∀ p∈m.g.vs.zip m.rots,∃ k,∃ h1:k<m.g.vs.length,∃ h2:k<m.rots.length,p=(m.g.vs[k],m.rots[k]):=by intro p hp;obtain⟨k,hk,rfl⟩:=aAC hp;rw[aEe]at hk;exact⟨k,oO,oO,by grind⟩
 have Q1:∀ k (h1:k<m.g.vs.length) (h2:k<m.rots.length),Fs m.g.es m.g.vs[k] m.rots[k]:=fun k h1 h2=>by
  have:=h.ok k h1
  grind
 have key:=Ie (R:=Reach m.g.es) (CC.eqv h) (m.g.vs.zip m.rots) (fun p hp q hq x hx y hy=>?_) (fun p _=>.refl) ?_
 .rw[aEb (by rw[h.len];omega),aDD (by rw[h.len];omega)]at key;rw[key,vN (CC.eqv h) h.kL]
  congr 1
  have e1:((m.g.vs.zip m.rots).filter fun p=>decide (p.2=[])).length=(m.rots.filter fun t=>decide (t=[])).length:=by
   have e2:m.rots.filter (fun t=>decide (t=[]))=((m.g.vs.zip m.rots).filter fun p=>decide (p.2=[])).map (·.2):=by
    conv=>lhs;rw[<- aDD (l₁:=m.g.vs) (l₂:=m.rots) (by rw[h.len];omega)]
    rw[List.filter_map];rfl
   rw[e2,aAB]
  have e3:=filter_eq (fun t=>decide (t=[])) (fun v=>!decide (nbr m.g.es v=[])) m.rots m.g.vs h.len fun k h1 h2=>by
   have hk:=Q1 k h2 h1;have e4:m.rots[k]=[]↔nbr m.g.es m.g.vs[k]=[]:=by
    rw[<- uD];constructor
    .intro h3;have:=hk.1;simp_all
    .intro h3;have:=hk.1;simp_all
   grind
  have e5:alone m.g+m.g.vs.countP (fun v=>!decide (nbr m.g.es v=[]))=m.g.vs.length:=by
   unfold alone;rw[List.length_eq_countP_add_countP (fun v=>decide (nbr m.g.es v=[])) (l:=m.g.vs)]
   congr 1
   congr 1
   funext v
   simp
  have:=h.len;omega
 .obtain⟨j,j1,j2,rfl⟩:=S8 p hp;obtain⟨k,k1,k2,rfl⟩:=S8 q hq;have P3:=(Q1 j j1 j2).1.mem_iff.1 hx;have hy':=(Q1 k k1 k2).1.mem_iff.1 hy;constructor
  .rintro(rfl|⟨v,w,h1,h2,h3⟩)
   .rw[dL h.g.ids P3 hy'];exact .refl
   .rw[dL h.g.ids P3 h1,dL h.g.ids hy' h2];omega
  .intro hr;exact .inr ⟨_,_,P3,hy',hr⟩
 .rw[aAz];intro a b ha hb v8;rw[aEe]at ha hb;rw[aDA,aDA];simp only;intro he hr;have dG:=aAz.1 h.g.rise a b oO oO v8;rcases he with he|he
  .have h1:=(Q1 a oO oO).1;rw[he]at h1;have:=yL ((uD _ _).1 h1.symm.eq_nil) hr.symm;omega
  .have h1:=(Q1 b oO oO).1;rw[he]at h1;have:=yL ((uD _ _).1 h1.symm.eq_nil) hr;omega
variable {R:List (List Int)} (hR:MA m R) (hb:∀ x∈m.g.es,tix R (2*x.id)≠tix R (2*x.id+1))
include hR hb
end
section
variable {m:Mp} (h:bS m)
include h
end
section
variable {m:Mp} (h:bS m)
include h
theorem bS.it_v{v d:Int}(hd:d∈ends m.g.es v):∀ n,it (sg m) n d∈ends m.g.es v
 |0=>hd
 |n+1=>by rw[cA];exact h.sg_at_v (bS.it_v hd n)
theorem bS.sg_orb{v d e:Int}(hd:d∈ends m.g.es v)(he:e∈ends m.g.es v):∃ n,it (sg m) n d=e:=by
 obtain⟨t,ht,hdt⟩:=h.turn_of (nH hd);have het:e∈t:=by obtain⟨k,_,_,h1,_⟩:=h.turn ht;have:=dL h.g.ids (h1.mem_iff.1 hdt) hd;rw[this]at h1;exact h1.mem_iff.2 he
 have hit:∀ n,it (sg m) n d=it (nx t) n d/\it (sg m) n d∈t:=fun n=>by
  induction n with
  |zero=>exact⟨rfl,hdt⟩
  |succ n ih=>rw[cA,cA,<- ih.1];exact⟨DE h ht ih.2,h.sg_mem ht ih.2⟩
 obtain⟨n,hn⟩:=KY (h.nodup ht) hdt het;exact⟨n,by rw[(hit n).1,hn]⟩
end
theorem zM{R R':Int->Int->Prop}{κ:Int->Int}:∀ {l:List Int},(∀ x∈l,∀ y∈l,R' (κ x) (κ y)↔R x y)->ncl R' (l.map κ)=ncl R l
 |[],_=>rfl
 |x::l,h=>by
  have ih:=zM (l:=l) fun y hy z hz=>h y (aAc _ hy) z (aAc _ hz);rw[aAl];by_cases k:∃ y∈l,R y x
  .rw[aW k,aW,ih];obtain⟨y,hy,k⟩:=k;exact⟨κ y,aAt hy,(h y (aAc _ hy) x aAf).2 k⟩
  .rw[aO k,aO,ih];rintro⟨z,hz,q⟩;obtain⟨y,hy,rfl⟩:=aAi.1 hz;exact k ⟨y,hy,(h y (aAc _ hy) x aAf).1 q⟩
section
variable {D:List Int} {f f' κ:Int->Int} (hf:dF D f) (hk:∀ x∈D,∀ y∈D,κ x=κ y->x=y) (Q8:∀ x∈D,f' (κ x)=κ (f x))
include hf hk Q8
theorem zL{x y:Int}(hx:x∈D)(hy:y∈D):Orb f' (κ x) (κ y)↔Orb f x y:=by
 have key:∀ n,it f' n (κ x)=κ (it f n x)/\it f n x∈D:=fun n=>by
  induction n with
  |zero=>exact⟨rfl,hx⟩
  |succ n ih=>rw[cA,cA,ih.1];exact⟨Q8 _ ih.2,hf.mem _ ih.2⟩
 exact⟨fun⟨n,h⟩=>⟨n,hk _ (key n).2 _ hy ((key n).1.symm.trans h)⟩,fun⟨n,h⟩=>⟨n,by rw[(key n).1,h]⟩⟩
theorem MN:∀ {P:List (Int×Int)},fU D P->∀ x∈D,swP f' (P.map fun p=>(κ p.1,κ p.2)) (κ x)=κ (swP f P x)
 |[],_,x,hx=>Q8 x hx
 |p::P,hP,x,hx=>by
  have hp:=hP p aAf;show swP f' _ (Eu.sw (κ p.1) (κ p.2) (κ x))=κ (swP f P (Eu.sw p.1 p.2 x));have:Eu.sw (κ p.1) (κ p.2) (κ x)=κ (Eu.sw p.1 p.2 x)/\Eu.sw p.1 p.2 x∈D:=by
   have:=hk x hx p.1 hp.1;have:=hk x hx p.2 hp.2.1;unfold Eu.sw
   grind
  rw[this.1];exact MN (fun q hq=>hP q (aAc _ hq)) _ this.2
theorem LK:∀ {P:List (Int×Int)},fU D P->∀ x∈D,∀ y∈D,(mgP (Orb f') (P.map fun p=>(κ p.1,κ p.2)) (κ x) (κ y)↔mgP (Orb f) P x y)
 |[],_,x,hx,y,hy=>zL hf hk Q8 hx hy
 |p::P,hP,x,hx,y,hy=>by have ih:=LK (P:=P) fun q hq=>hP q (aAc _ hq);have hp:=hP p aAf;show Mg _ (κ p.1) (κ p.2) _ _↔Mg _ _ _ _ _;unfold Mg;rw[ih x hx y hy,ih x hx _ hp.1,ih _ hp.2.1 y hy,ih x hx _ hp.2.1,ih _ hp.1 y hy]
theorem Pv{P:List (Int×Int)}(hP:fU D P)(h:Flat D f P):Flat (D.map κ) f' (P.map fun p=>(κ p.1,κ p.2)):=by have hq:=lH hf P fun q hq=>⟨(hP q hq).1,(hP q hq).2.1⟩;unfold Flat at *;rw[zM (LK hf hk Q8 hP),zM fun x hx y hy=>zL hf hk Q8 hx hy,zM fun x hx y hy=>zL hq hk (MN hf hk Q8 hP) hx hy,aAB];exact h
end
theorem Wh{E:List Ed}(hB:BlE E){D:List Int}{s:Int->Int}(hs:dF D s)(δ:Int×Int->Int)(hD:∀ p:Int×Int,(∃ e∈E,prE e=unA p)->δ p∈D)(hi:∀ p q:Int×Int,(∃ e∈E,prE e=unA p)->(∃ e∈E,prE e=unA q)->δ p=δ q->p=q)
 (ho:∀ p q:Int×Int,(∃ e∈E,prE e=unA p)->(∃ e∈E,prE e=unA q)->(Orb s (δ p) (δ q)↔p.1=q.1)) (hf:Flat D s (E.map fun e=>(δ (e.a,e.b),δ (e.b,e.a)))):∃ s' D',PlD E s' D'/\∀ x∈D',x∈flP (tws E)\/x<0:=by
 have bd:∀ p:Int×Int,(∃ e∈E,prE e=unA p)->(0<=p.1/\p.1<4194304)/\(0<=p.2/\p.2<4194304)/\p.1≠p.2:=fun p ⟨e,he,hp⟩=>by
  have h1:=fT (x:=e.a) (y:=e.b) he rfl;have h2:=hB.bnd _ h1.1;have h3:=hB.bnd _ h1.2;have h4:=hB.ne e he;rcases bF hp with⟨e1,e2⟩|⟨e1,e2⟩
  .rw[<- e1,<- e2];exact⟨h2,h3,h4⟩
  .rw[<- e1,<- e2];exact⟨h3,h2,aCB h4⟩
 have ea:∀ e∈E,(∃ f∈E,prE f=unA (e.a,e.b))/\∃ f∈E,prE f=unA (e.b,e.a):=fun e he=>⟨⟨e,he,rfl⟩,e,he,aJ _ _⟩;obtain⟨κ,k1,k2⟩:∃ κ:Int->Int,(∀ p:Int×Int,(∃ e∈E,prE e=unA p)->κ (δ p)=cd p)/\∀ d,(¬∃ p:Int×Int,(∃ e∈E,prE e=unA p)/\δ p=d)->κ d=if 0<=d then -2*d-1 else 2*d:=by
  refine⟨fun d=>open Classical in if h:∃ p:Int×Int,(∃ e∈E,prE e=unA p)/\δ p=d then cd h.choose else if 0<=d then -2*d-1 else 2*d,fun p hp=>?_,fun d hd=>?_⟩
  .have h:∃ q:Int×Int,(∃ e∈E,prE e=unA q)/\δ q=δ p:=⟨p,hp,rfl⟩;simp only[dif_pos h];rw[hi _ _ h.choose_spec.1 hp h.choose_spec.2]
  .simp only[dif_neg hd]
 have kc:∀ d,(∃ p:Int×Int,(∃ e∈E,prE e=unA p)/\δ p=d/\κ d=cd p/\0<=cd p)\/(κ d=(if 0<=d then -2*d-1 else 2*d)/\κ d<0):=fun d=>by
  by_cases h:∃ p:Int×Int,(∃ e∈E,prE e=unA p)/\δ p=d
  .obtain⟨p,hp,rfl⟩:=h;have:=bd p hp;exact .inl ⟨p,hp,rfl,k1 p hp,by unfold cd;omega⟩
  .refine .inr ⟨k2 d h,?_⟩;rw[k2 d h];split<;>omega
 have kinj:∀ x∈D,∀ y∈D,κ x=κ y->x=y:=fun x _ y _ e=>by
  rcases kc x with⟨p,hp,rfl,h1,h2⟩|⟨h1,h2⟩<;>rcases kc y with⟨q,hq,rfl,h3,h4⟩|⟨h3,h4⟩
  .rw[hU (bd p hp).2.1 (bd q hq).2.1 (h1.symm.trans (e.trans h3))]
  .omega
  .omega
  .rw[h1,h3]at e
   split at e<;>split at e<;>omega
 obtain⟨s',s1,s2⟩:∃ s':Int->Int,(∀ d∈D,s' (κ d)=κ (s d))/\∀ x,x∉D.map κ->s' x=x:=by
  refine⟨fun x=>open Classical in if h:∃ d∈D,κ d=x then κ (s h.choose)else x,fun d hd=>?_,fun x hx=>?_⟩
  .have h:∃ e∈D,κ e=κ d:=⟨d,hd,rfl⟩;simp only[dif_pos h];rw[kinj _ h.choose_spec.1 d hd h.choose_spec.2]
  .exact dif_neg fun⟨d,hd,e⟩=>hx (aAi.2 ⟨d,hd,e⟩)
 have hPin:fU D (E.map fun e=>(δ (e.a,e.b),δ (e.b,e.a))):=fun q hq=>by obtain⟨e,he,rfl⟩:=aAi.1 hq;exact⟨hD _ (ea e he).1,hD _ (ea e he).2,fun k=>hB.ne e he (congrArg Prod.fst (hi _ _ (ea e he).1 (ea e he).2 k))⟩
 refine⟨s',D.map κ,⟨hB,⟨fun x hx=>?_,fun x y e=>?_,s2⟩,fun p hp=>?_,fun p q hp hq=>?_,?_⟩,fun x hx=>?_⟩
 .obtain⟨d,hd,rfl⟩:=aAi.1 hx;rw[s1 d hd];exact aAt (hs.mem d hd)
 .by_cases hx:x∈D.map κ<;>by_cases hy:y∈D.map κ
  .obtain⟨d,hd,rfl⟩:=aAi.1 hx;obtain⟨d',K7,rfl⟩:=aAi.1 hy;rw[s1 d hd,s1 d' K7]at e;rw[hs.inj _ _ (kinj _ (hs.mem d hd) _ (hs.mem d' K7) e)]
  .obtain⟨d,hd,rfl⟩:=aAi.1 hx;rw[s1 d hd,s2 y hy]at e;exact absurd (e ▸ aAt (hs.mem d hd)) hy
  .obtain⟨d,hd,rfl⟩:=aAi.1 hy;rw[s1 d hd,s2 x hx]at e;exact absurd (e ▸ aAt (hs.mem d hd)) hx
  .rw[s2 x hx,s2 y hy]at e;exact e
 .exact aAi.2 ⟨δ p,hD p hp,k1 p hp⟩
 .rw[<- k1 p hp,<- k1 q hq,zL hs kinj s1 (hD p hp) (hD q hq)];exact ho p q hp hq
 .have:=Pv hs kinj s1 hPin hf;have e:(E.map fun e=>(δ (e.a,e.b),δ (e.b,e.a))).map (fun p=>(κ p.1,κ p.2))=tws E:=by unfold tws;rw[aAX];exact aAN fun e he=>by simp only[Function.comp];rw[k1 _ (ea e he).1,k1 _ (ea e he).2]
  rwa [e]at this
 .obtain⟨d,hd,rfl⟩:=aAi.1 hx;rcases kc d with⟨p,⟨e,he,hp⟩,_,h1,_⟩|⟨_,h⟩
  .left;rw[h1];refine dI.2 ⟨_,aAt he,?_⟩;rcases bF hp with⟨e1,e2⟩|⟨e1,e2⟩
   .exact .inl (by rw[e1,e2])
   .exact .inr (by rw[e1,e2])
  .exact .inr h
def prD(es:List Ed):List (Int×Int):=es.map fun e=>(2*e.id,2*e.id+1)
theorem Ks(es:List Ed):flP (prD es)=aU es:=by unfold flP prD aU;rw[List.flatMap_map]
section
variable {m:Mp} (h:bS m)
include h
theorem bS.sg_permOn:dF (aU m.g.es) (sg m):=⟨fun _=>h.sg_dart,fun _ _=>h.sg_inj,fun _=>h.sg_id⟩
theorem bS.prD_in{E:List Ed}(hE:∀ e∈E,e∈m.g.es):fU (aU m.g.es) (prD E):=fun p hp=>by obtain⟨e,he,rfl⟩:=aAi.1 hp;exact⟨dO.2 ⟨e,hE e he,.inl rfl⟩,dO.2 ⟨e,hE e he,.inr rfl⟩,by simp only;omega⟩
theorem bS.at_orb{v d e:Int}(hd:d∈ends m.g.es v)(he:e∈ends m.g.es v):Orb (sg m) d e:=h.sg_orb hd he
theorem bS.flat(hg:Aw.gn m=0):Flat (aU m.g.es) (sg m) (prD m.g.es):=by
 have hn:(flP (prD m.g.es)).Nodup:=by rw[Ks];exact iW (oQ h.g.ids)
 have h1:=h.gn;have h2:=h.ncl_sg;have h3:=h.ncl_parts;have hE:=dX h.sg_permOn.per.eqv (prD m.g.es);have e1:swP (sg m) (prD m.g.es)=fc m m.g.es:=funext fun d=>by
  unfold fc;by_cases k:d∈aU m.g.es
  .rw[EC k];obtain⟨x,hx,e⟩:=dO.1 k;have:=nV (sg m) hn (2*x.id,2*x.id+1) (aAi.2 ⟨x,hx,rfl⟩);unfold tw;rcases e with rfl|rfl
   .rw[this.1,aAj oO]
   .rw[this.2,aAa oO];congr 1;omega
  .rw[tV k,AG];rintro p hp;obtain⟨x,hx,rfl⟩:=aAi.1 hp;exact⟨fun e=>k (dO.2 ⟨x,hx,.inl e⟩),fun e=>k (dO.2 ⟨x,hx,.inr e⟩)⟩
 have e2:ncl (mgP (Orb (sg m)) (prD m.g.es)) (aU m.g.es)=ncl (CC m) (aU m.g.es):=by
  refine dQ fun x hx y hy=>⟨Av (CC.eqv h) (fun x y k=>?_) (fun p hp=>?_) x y,fun k=>?_⟩
  .by_cases q:x∈aU m.g.es
   .obtain⟨n,rfl⟩:=k;obtain⟨v,hv,_⟩:=Ec q;exact .inr ⟨v,v,hv,h.it_v hv n,.refl⟩
   .obtain⟨n,rfl⟩:=k;have:it (sg m) n x=x:=by
     induction n with
     |zero=>rfl
     |succ n ih=>rw[cA,ih];exact h.sg_id q
    exact .inl this.symm
  .obtain⟨x,hx,rfl⟩:=aAi.1 hp;exact .inr ⟨x.a,x.b,cJ.2 ⟨x,hx,.inl ⟨rfl,rfl⟩⟩,cJ.2 ⟨x,hx,.inr ⟨rfl,rfl⟩⟩,.step .refl (cT.2 ⟨x,hx,.inl ⟨rfl,rfl⟩⟩)⟩
  .rcases k with rfl|⟨v,w,kv,kw,r⟩
   .exact hE.refl _
   .have:∀ y,y∈ends m.g.es w->mgP (Orb (sg m)) (prD m.g.es) x y:=by
     clear kw hy;induction r with
     |refl=>exact fun y ky=>fV _ (h.at_orb kv ky)
     |@step u w r hw ih=>
      intro y ky;obtain⟨e,he,k⟩:=cT.1 hw;have hm:=jQ h.sg_permOn.per.eqv (prD m.g.es) (p:=(2*e.id,2*e.id+1)) (aAi.2 ⟨e,he,rfl⟩);rcases k with⟨k1,k2⟩|⟨k1,k2⟩
      .have a1:=ih (2*e.id) (cJ.2 ⟨e,he,.inl ⟨k1,rfl⟩⟩);exact hE.trans (hE.trans a1 hm) (fV _ (h.at_orb (cJ.2 ⟨e,he,.inr ⟨k2,rfl⟩⟩) ky))
      .have a1:=ih (2*e.id+1) (cJ.2 ⟨e,he,.inr ⟨k1,rfl⟩⟩);exact hE.trans (hE.trans a1 (hE.symm hm)) (fV _ (h.at_orb (cJ.2 ⟨e,he,.inl ⟨k2,rfl⟩⟩) ky))
    exact this y kw
 unfold Flat;rw[e1,e2,show(prD m.g.es).length=m.g.es.length by unfold prD;rw[aAB]];omega
theorem bS.plE(hg:Aw.gn m=0){E:List Ed}(hE:∀ e∈E,e∈m.g.es)(V9:E.Nodup)(hB:BlE E):∃ s,PlE E s:=by
 have hflat:=h.flat hg;have hn:(flP (prD m.g.es)).Nodup:=by rw[Ks];exact iW (oQ h.g.ids)
 have hes:m.g.es.Nodup:=h.g.ids.imp fun k e=>by rw[e]at k;omega
 obtain⟨R,hR⟩:∃ R,m.g.es.Perm (R++E):=by
  refine⟨m.g.es.filter fun e=>decide (e∉E),(aAZ hes ?_).2 fun e=>?_⟩
  .grind
  .grind
 have U4:=BN h.sg_permOn (Q:=prD R) (P:=prD E) (fun p hp=>h.prD_in (fun e he=>he) p (by
  have:=(hR.map fun e:Ed=>(2*e.id,2*e.id+1)).mem_iff (a:=p);rw[aAu]at this
  exact this.2 hp)) (Aw.kL h.sg_permOn hn (by have:=hR.map fun e:Ed=>(2*e.id,2*e.id+1);rw[aAu]at this;exact this) hflat)
 have huniq:∀ e∈E,∀ f∈E,prE e=prE f->e=f:=fun e he f hf k=>pY hB.sim he hf k;obtain⟨δ,d1⟩:∃ δ:Int×Int->Int,∀ e∈E,δ (e.a,e.b)=2*e.id/\δ (e.b,e.a)=2*e.id+1:=by
  refine⟨fun p=>match E.find? (fun e=>decide (prE e=unA p)) with
   |some e=>if p.1=e.a then 2*e.id else 2*e.id+1
   |none=>0,fun e he=>?_⟩
  have hf:∀ p:Int×Int,prE e=unA p->E.find? (fun e=>decide (prE e=unA p))=some e:=fun p hp=>by
   cases hx:E.find? (fun e=>decide (prE e=unA p)) with
   |none=>have:=aCP.1 hx e he;simp[hp]at this
   |some f=>have h1:=aCM hx;simp only[aBx]at h1;rw[huniq f (aBT hx) e he (h1.trans hp.symm)]
  simp only;rw[hf _ rfl,hf (e.b,e.a) (aJ _ _)];simp only;rw[aAa (aCB (hB.ne e he))];exact⟨aAj trivial,rfl⟩
 have hcd:∀ p:Int×Int,(∃ e∈E,prE e=unA p)->∃ e∈E,(p=(e.a,e.b)/\δ p=2*e.id\/p=(e.b,e.a)/\δ p=2*e.id+1)/\δ p∈ends m.g.es p.1:=fun p ⟨e,he,q⟩=>by
  obtain⟨u,v⟩:=p;rcases bF q with⟨q1,q2⟩|⟨q1,q2⟩
  .subst q1 q2;exact⟨e,he,.inl ⟨rfl,(d1 e he).1⟩,cJ.2 ⟨e,hE e he,.inl ⟨rfl,(d1 e he).1⟩⟩⟩
  .subst q1 q2;exact⟨e,he,.inr ⟨rfl,(d1 e he).2⟩,cJ.2 ⟨e,hE e he,.inr ⟨rfl,(d1 e he).2⟩⟩⟩
 obtain⟨s,D,h1,_⟩:=Wh hB h.sg_permOn δ (fun p hp=>by obtain⟨e,he,_,k⟩:=hcd p hp;exact nH k) (fun p q hp hq k=>by
  obtain⟨e,he,k1,_⟩:=hcd p hp;obtain⟨f,hf,k2,_⟩:=hcd q hq;have:e.id=f.id:=oO;have:=id_eq h.g.ids (hE e he) (hE f hf) this;subst this;rcases k1 with⟨r1,r2⟩|⟨r1,r2⟩<;>rcases k2 with⟨t1,t2⟩|⟨t1,t2⟩
  .rw[r1,t1]
  .omega
  .omega
  .rw[r1,t1]) (fun p q hp hq=>by
  obtain⟨e,he,_,k1⟩:=hcd p hp;obtain⟨f,hf,_,k2⟩:=hcd q hq;constructor
  .rintro⟨n,hn⟩;exact dL h.g.ids (h.it_v k1 n) (hn ▸ k2)
  .intro k
   exact h.at_orb k1 (k ▸ k2)) (by
  have e:E.map (fun e=>(δ (e.a,e.b),δ (e.b,e.a)))=prD E:=aAN fun e he=>by rw[(d1 e he).1,(d1 e he).2]
  rw[e];exact U4)
 exact⟨s,D,h1⟩
end
def Nx(s:Int->Int)(S:List Int)(d e:Int):Prop:=∃ k,it s k d=e/\e∈S/\∀ j,j<k->it s j d∉S
section
variable {s:Int->Int} {S S':List Int} {d e e' n c:Int}
theorem Nx.here(h:d∈S):Nx s S d d:=⟨0,rfl,h,fun j hj=>absurd hj (aDI j)⟩
theorem Nx.mem(h:Nx s S d e):e∈S:=by obtain⟨_,_,h,_⟩:=h;exact h
theorem Nx.orb(h:Nx s S d e):Orb s d e:=by obtain⟨k,h,_⟩:=h;exact⟨k,h⟩
theorem Nx.fn(h:Nx s S d e)(h':Nx s S d e'):e=e':=by
 obtain⟨k,a1,a2,a3⟩:=h;obtain⟨l,b1,b2,b3⟩:=h';rcases aCg k l with h|h|h
 .exact absurd (by rw[a1];exact a2) (b3 k h)
 .rw[<- a1,<- b1,h]
 .exact absurd (by rw[b1];exact b2) (a3 l h)
theorem Nx.of_mem(hd:d∈S)(h:Nx s S d e):e=d:=h.fn (.here hd)
theorem Nx.up(hd:d∉S)(h:Nx s S d e):Nx s S (s d) e:=by
 obtain⟨k,a1,a2,a3⟩:=h;cases k with
 |zero=>exact absurd (by rw[show d=e from a1];exact a2) hd
 |succ k=>exact⟨k,a1,a2,fun j hj=>a3 (j+1) oO⟩
theorem Nx.ex{a:Int}(h:Orb s d a)(ha:a∈S):∃ e,Nx s S d e:=by obtain⟨n,h⟩:=h;obtain⟨m,h1,h2⟩:=least (P:=fun k=>it s k d∈S) (n:=n) (by rw[h];exact ha);exact⟨_,m,rfl,h1,h2⟩
theorem Nx.loop(h:Nx s S (s d) d)(he:e∈S)(ho:Orb s d e):e=d:=by
 have hT:∀ n z,Nx s S z d->Nx s S (it s n z) d:=by
  intro n;induction n with
  |zero=>intro z hz;exact hz
  |succ n ih=>
   intro z hz;refine ih (s z) ?_;by_cases hm:z∈S
   .rw[<- hz.of_mem hm];exact h
   .exact hz.up hm
 obtain⟨n,hn⟩:=ho;have:=hT n d (.here h.mem);rw[hn]at this;exact(this.of_mem he).symm
theorem Nx.cmp(hi:∀ x y,s x=s y->x=y){z:Int}(h:Nx s S z e)(h':Nx s S d e):(∃ j,it s j z=d/\∀ i,i<j->it s i z∉S)\/∃ j,it s (j+1) d=z/\∀ i,i<j+1->it s i d∉S:=by
 obtain⟨k,a1,a2,a3⟩:=h;obtain⟨l,b1,b2,b3⟩:=h';by_cases hl:l<=k
 .refine .inl ⟨k-l,KC hi l ?_,fun i hil=>a3 i oO⟩;rw[<- kX,show l+(k-l)=k by omega,a1,b1]
 .refine .inr ⟨l-k-1,KC hi k ?_,fun i hil=>b3 i oO⟩;rw[<- kX,show k+(l-k-1+1)=l by omega,a1,b1]
theorem Nx.same(hS:∀ x,Orb s d x->(x∈S↔x∈S'))(h:Nx s S d e):Nx s S' d e:=by obtain⟨k,a1,a2,a3⟩:=h;exact⟨k,a1,(hS e ⟨k,a1⟩).1 a2,fun j hj h=>a3 j hj ((hS _ ⟨j,rfl⟩).2 h)⟩
end
section
variable {s:Int->Int} {S S':List Int} {n e0:Int} (hp:Per s) (hS:∀ x,Orb s n x->(x∈S'↔x∈S\/x=n)) (hn:n∉S) (h0:Nx s S n e0)
include hS h0
theorem Nx.back{d e:Int}(ho:Orb s n d)(h:Nx s S' d e):(e=n/\Nx s S d e0)\/(e≠n/\Nx s S d e):=by
 obtain⟨k,a1,a2,a3⟩:=h;have hb:∀ j,j<k->it s j d∉S:=fun j hj h=>a3 j hj ((hS _ (ho.trans ⟨j,rfl⟩)).2 (.inl h));by_cases he:e=n
 .refine .inl ⟨he,?_⟩;obtain⟨l,b1,b2,b3⟩:=h0;refine⟨l+k,by rw[kX,a1,he,b1],b2,fun j hj=>?_⟩;by_cases hjk:j<k
  .exact hb j hjk
  .have:it s j d=it s (j-k) n:=by rw[<- he,<- a1,<- kX];congr 1;omega
   rw[this];exact b3 _ oO
 .exact .inr ⟨he,k,a1,((hS e (ho.trans ⟨k,a1⟩)).1 a2).resolve_right he,hb⟩
include hp hn
theorem Nx.add_of:Nx s S' (s n) e0:=by
 have h1:Nx s S (s n) e0:=h0.up hn;have I2:Orb s n (s n):=Orb.step s n;have hm:n∈S':=(hS n (Orb.refl s n)).2 (.inr rfl);obtain⟨f,hf⟩:=Nx.ex (S:=S') (Orb.symm hp I2) hm;rcases Nx.back hS h0 I2 hf with⟨rfl,_⟩|⟨_,k⟩
 .have:=hf.loop ((hS e0 h0.orb).2 (.inl h0.mem)) h0.orb;exact absurd (this ▸ h0.mem) hn
 .rw[h1.fn k];exact hf
theorem Nx.add_at{c:Int}(hc:c∈S)(ho:Orb s n c)(h:Nx s S (s c) e0):Nx s S' (s c) n:=by
 have I2:Orb s n (s c):=ho.trans (Orb.step s c);have hm:n∈S':=(hS n (Orb.refl s n)).2 (.inr rfl);obtain⟨f,hf⟩:=Nx.ex (S:=S') (Orb.symm hp I2) hm;rcases Nx.back hS h0 I2 hf with⟨rfl,_⟩|⟨Zo,k⟩
 .exact hf
 .have hfe:=h.fn k;subst hfe;exfalso;rcases Nx.cmp (fun x y=>hp.inj) h h0 with⟨j,j1,j2⟩|⟨j,j1,j2⟩
  .obtain⟨q,q1,q2,q3⟩:=hf;rcases aCg j q with h3|h3|h3
   .exact q3 j h3 (by rw[j1];exact hm)
   .rw[<- h3,j1]at q1;exact Zo q1.symm
   .exact j2 q h3 (by rw[q1];exact h0.mem)
  .have:it s j n=c:=by rw[cA]at j1;exact hp.inj j1
   exact j2 j oO (by rw[this];exact hc)
theorem Nx.add_other{c e:Int}(ho:Orb s n c)(h:Nx s S (s c) e)(he:e≠e0):Nx s S' (s c) e:=by
 have I2:Orb s n (s c):=ho.trans (Orb.step s c);have hm:n∈S':=(hS n (Orb.refl s n)).2 (.inr rfl);obtain⟨f,hf⟩:=Nx.ex (S:=S') (Orb.symm hp I2) hm;rcases Nx.back hS h0 I2 hf with⟨rfl,k⟩|⟨_,k⟩
 .exact absurd (h.fn k) he
 .rw[h.fn k];exact hf
end
theorem fG:∀ {l:List Int},l.Nodup->∀ {a b b':Int},(a,b)∈lnk l->(a,b')∈lnk l->b=b'
 |[],_,_,_,_,h,_=>by cases h
 |[_],_,_,_,_,h,_=>by cases h
 |x::y::l,hn,a,b,b',h,h'=>by
  obtain⟨h1,h2⟩:=aAp.1 hn;rcases aAe.1 h with e|h
  .injection e with e1 e2;rcases aAe.1 h' with e'|h'
   .injection e' with e3 e4;rw[e2,e4]
   .exact absurd (bE h').1 (by rw[e1];exact h1)
  .rcases aAe.1 h' with e'|h'
   .injection e' with e3 e4;exact absurd (bE h).1 (by rw[e3];exact h1)
   .exact fG h2 h h'
theorem qW{l:List Int}{a b:Int}:(a,b)∈lnk l↔(b,a)∈lnk l.reverse:=by
 rw[En,aBp,aAi];constructor
 .intro h;exact⟨(a,b),h,rfl⟩
 .rintro⟨q,hq,e⟩;have:q=(a,b):=by rw[<- aBJ q,e];rfl
  rw[<- this];exact hq
theorem wU{l:List Int}(hn:l.Nodup){a a' b:Int}(h:(a,b)∈lnk l)(h':(a',b)∈lnk l):a=a':=
 fG (l:=l.reverse) ((aBr l).nodup_iff.2 hn) (qW.1 h) (qW.1 h')
theorem iR{x:Int}:∀ {l:List Int} {a b:Int},(a,b)∈lnk (x::l)->b∈l
 |[],_,_,h=>by cases h
 |y::l,a,b,h=>by
  rcases aAe.1 h with e|h
  .injection e with _ e;rw[e];exact aAf
  .exact(bE h).2
theorem eX{y:Int}{l:List Int}{a b:Int}(h:(a,b)∈lnk (l++[y])):a∈l:=by have:=qW.1 h;rw[aEB,List.reverse_singleton,List.singleton_append]at this;simpa using iR this
theorem gH.perm{E:List Ed}{A B:List (Int×Int)}(h:gH E A)(hp:A.Perm B):gH E B:=
 ⟨fun p k=>h.mem p (hp.mem_iff.2 k),(hp.map unA).nodup_iff.1 h.nd⟩
theorem eW{A:List (Int×Int)}{x:Int}:x∈flP (pls A)↔∃ p,(p∈A\/p.swap∈A)/\x=cd p:=by
 rw[dI];constructor
 .rintro⟨q,hq,e⟩;obtain⟨p,hp,rfl⟩:=aAi.1 hq;rcases e with e|e
  .exact⟨p,.inl hp,e⟩
  .exact⟨p.swap,.inr (by rw[aBJ];exact hp),e⟩
 .rintro⟨p,hp|hp,e⟩
  .exact⟨_,aAt hp,.inl e⟩
  .exact⟨_,aAt hp,.inr (by rw[aBJ];exact e)⟩
theorem Er{F:List (List Int)}(hn:(PF F).Nodup){r r':List Int}(hr:r∈F)(O1:r'∈F){p:Int×Int}(h:p∈prs r)(h':p∈prs r'):r=r':=by
 induction F with
 |nil=>cases hr
 |cons t F ih=>
  have I1:(prs t++PF F).Nodup:=hn;rw[aAo]at I1;rcases aAe.1 hr with e|k
  .rcases aAe.1 O1 with e'|k'
   .rw[e,e']
   .exact absurd rfl (I1.2.2 p (e ▸ h) p (aV.2 ⟨r',k',h'⟩))
  .rcases aAe.1 O1 with e'|k'
   .exact absurd rfl (I1.2.2 p (e' ▸ h') p (aV.2 ⟨r,k,h⟩))
   .exact ih I1.2.1 k k'
structure Emb(E:List Ed)(s:Int->Int)(A:List (Int×Int))(F:List (List Int)):Prop where
 nY:gH E A
 nd:(PF F).Nodup
 simple:∀ r∈F,r.Nodup
 mem:∀ p,p∈PF F↔p∈A\/p.swap∈A
 step:∀ r∈F,∀ u v w,(u,v)∈prs r->(v,w)∈prs r->Nx s (flP (pls A)) (s (cd (v,u))) (cd (v,w))
 con:∀ x∈flP (pls A),∀ y∈flP (pls A),mgP (Orb s) (pls A) x y
def SdT(s:Int->Int)(A:List (Int×Int))(r:List Int)(d:Int):Prop:=∃ p∈prs r,Nx s (flP (pls A)) d (cd p)
section
variable {E:List Ed} {s:Int->Int} (hP:PlE E s)
include hP
theorem PlE.cdin{p q:Int×Int}(hp:∃ e∈E,prE e=unA p)(hq:∃ e∈E,prE e=unA q)(h:cd p=cd q):p=q:=
 hU (hP.arc_bd hp).2.1 (hP.arc_bd hq).2.1 h
theorem PlE.orb{p q:Int×Int}(hp:∃ e∈E,prE e=unA p)(hq:∃ e∈E,prE e=unA q):Orb s (cd p) (cd q)↔p.1=q.1:=let ⟨_,k⟩:=hP;k.orb p q hp hq
theorem PlE.way:∀ {w:List Int},(∀ u v,(u,v)∈lnk w->∃ e∈E,prE e=prP u v)->Way s (pls (lnk w))
 |[],_=>trivial
 |[_],_=>trivial
 |[_,_],_=>trivial
 |a::b::c::l,h=>by have ih:=PlE.way (w:=b::c::l) fun u v k=>h u v (aAc _ k);refine⟨?_,ih⟩;have h1:=h a b aAf;have h2:=h b c (aAc _ aAf);exact(hP.orb (p:=(b,a)) (q:=(b,c)) (by rw[show unA (b,a)=prP a b from aJ _ _];exact h1) h2).2 rfl
variable {A:List (Int×Int)} {F:List (List Int)} (hE:Emb E s A F)
include hE
omit hP in
theorem Emb.dart{x:Int}:x∈flP (pls A)↔∃ p∈PF F,x=cd p:=by rw[eW];exact⟨fun⟨p,hp,e⟩=>⟨p,(hE.mem p).2 hp,e⟩,fun⟨p,hp,e⟩=>⟨p,(hE.mem p).1 hp,e⟩⟩
omit hP in
theorem Emb.sub{p:Int×Int}(h:p∈PF F):∃ e∈E,prE e=unA p:=by
 rcases(hE.mem p).1 h with h|h
 .exact hE.nY.mem p h
 .rw[<- fR];exact hE.nY.mem _ h
omit hP in
theorem Emb.swap{p:Int×Int}(h:p∈PF F):p.swap∈PF F:=by rw[hE.mem]at h ⊢;rw[aBJ];exact h.symm
theorem Emb.at_iff{p:Int×Int}(hp:∃ e∈E,prE e=unA p):cd p∈flP (pls A)↔p∈PF F:=by
 rw[hE.dart];constructor
 .rintro⟨q,hq,e⟩;rw[hP.cdin hp (hE.sub hq) e];exact hq
 .intro h;exact⟨p,h,rfl⟩
theorem Emb.closed{r:List Int}(hr:r∈F){d:Int}(h:SdT s A r d):SdT s A r (swP s (pls A) d):=by
 obtain⟨p,hp,hx⟩:=h;by_cases hd:d∈flP (pls A)
 .have e:=hx.of_mem hd;rw[<- e];have hpF:p∈PF F:=aV.2 ⟨r,hr,hp⟩;have hs:swP s (pls A) (cd p)=s (cd p.swap):=by
   rcases(hE.mem p).1 hpF with k|k
   .exact(nV s (hP.fl_nd hE.nY) (cd p,cd p.swap) (aAi.2 ⟨p,k,rfl⟩)).1
   .exact(nV s (hP.fl_nd hE.nY) (cd p.swap,cd p) (aAi.2 ⟨p.swap,k,by rw[aBJ]⟩)).2
  rw[hs];obtain⟨w,hw⟩:=gV (pS (x:=p.1) (y:=p.2) hp).2;exact⟨(p.2,w),hw,hE.step r hr p.1 p.2 w hp hw⟩
 .rw[oI s hd];exact⟨p,hp,hx.up hd⟩
theorem Emb.orb{r:List Int}(hr:r∈F){d d':Int}(h:SdT s A r d)(ho:Orb (swP s (pls A)) d d'):SdT s A r d':=by
 obtain⟨n,rfl⟩:=ho;induction n with
 |zero=>exact h
 |succ n ih=>rw[cA];exact hE.closed hP hr ih
theorem Emb.ex{p:Int×Int}(hp:∃ e∈E,prE e=unA p){u:Int}(hv:(p.1,u)∈PF F):∃ r∈F,SdT s A r (cd p):=by obtain⟨e,he⟩:=Nx.ex (S:=flP (pls A)) ((hP.orb hp (hE.sub hv)).2 rfl) (hE.dart.2 ⟨_,hv,rfl⟩);obtain⟨q,hq,rfl⟩:=hE.dart.1 he.mem;obtain⟨r,hr,k⟩:=aV.1 hq;exact⟨r,hr,q,k,he⟩
theorem Emb.fn{r r':List Int}(hr:r∈F)(O1:r'∈F){d:Int}(h:SdT s A r d)(h':SdT s A r' d):r=r':=by obtain⟨p,hp,hx⟩:=h;obtain⟨q,hq,hy⟩:=h';have hpq:=hP.cdin (hE.sub (aV.2 ⟨r,hr,hp⟩)) (hE.sub (aV.2 ⟨r',O1,hq⟩)) (hx.fn hy);subst hpq;exact Er hE.nd hr O1 hp hq
theorem Emb.here{r:List Int}(hr:r∈F){p:Int×Int}(hp:∃ e∈E,prE e=unA p)(h:SdT s A r (cd p)):p.1∈r:=by obtain⟨q,hq,hx⟩:=h;rw[(hP.orb hp (hE.sub (aV.2 ⟨r,hr,hq⟩))).1 hx.orb];exact(pS (x:=q.1) (y:=q.2) hq).1
structure WyE(E:List Ed)(F:List (List Int))(x y:Int)(M:List Int):Prop where
 nd:(x::(M++[y])).Nodup
 ed:∀ u v,(u,v)∈lnk (x::(M++[y]))->∃ e∈E,prE e=prP u v
 new:∀ p,p∈lnk (x::(M++[y]))->p∉PF F
 off:∀ v∈M,∀ u,(v,u)∉PF F
 onx:∃ u,(x,u)∈PF F
 ony:∃ u,(y,u)∈PF F
omit hP in
theorem Emb.arcs_way{x y:Int}{M:List Int}(hw:WyE E F x y M):gH E (lnk (x::(M++[y]))++A):=by
 refine⟨fun p hp=>?_,?_⟩
 .rcases aAd.1 hp with h|h
  .exact hw.ed p.1 p.2 h
  .exact hE.nY.mem p h
 .rw[aAu,aAo];refine⟨?_,hE.nY.nd,fun a ha b hb e=>?_⟩
  .have:=fH hw.nd;rw[eE]at this;exact this
  .obtain⟨p,hp,rfl⟩:=aAi.1 ha;obtain⟨q,hq,rfl⟩:=aAi.1 hb;refine hw.new p hp ((hE.mem p).2 ?_);rcases bF e with⟨e1,e2⟩|⟨e1,e2⟩
   .exact .inl (by rw[show p=q from aBZ e1 e2];exact hq)
   .exact .inr (by rw[show p.swap=q from aBZ e2 e1];exact hq)
theorem Emb.wayT{x y:Int}{M:List Int}(hw:WyE E F x y M){u t:Int}(hu:(x,u)∈lnk (x::(M++[y])))(ht:(t,y)∈lnk (x::(M++[y]))){r:List Int}(hr:r∈F)(h:SdT s A r (cd (x,u))):SdT s A r (cd (y,t)):=by
 have hA:=hE.arcs_way hw;obtain⟨N,t',hN⟩:∃ N t',x::M=N++[t']:=⟨(x::M).dropLast,(x::M).getLast sS,(aCe _).symm⟩;have hl:lnk (x::(M++[y]))=lnk (x::M)++[(t',y)]:=by rw[<- List.cons_append,hN,aAD];exact eZ t' [y] N
 have htt:t=t':=wU hw.nd ht (by rw[hl];simp);subst htt;have r9:(lnk (x::(M++[y]))++A).Perm ((t,y)::(lnk (x::M)++A)):=by rw[hl,aAD];exact aBF
 have hA2:=hA.perm r9;have hxn:=(aAp.1 hw.nd).1;have hyM:y∉M:=fun k=>by have:=(aAo.1 (aAp.1 hw.nd).2).2.2 y k y sS;exact this rfl
 have hxM:x∉M:=fun k=>hxn (aAq _ k);have hedE:∀ p,p∈lnk (x::(M++[y]))->∃ e∈E,prE e=unA p:=fun p hp=>hw.ed p.1 p.2 hp;have hinn:∀ p,(∃ e∈E,prE e=unA p)->Inn s (pls (lnk (x::M))) (cd p)->p.1∈M:=by
  rintro p hp ⟨q,hq,ho⟩;obtain⟨a,ha,rfl⟩:=aAi.1 hq;have hae:∃ e∈E,prE e=unA a.swap:=by rw[fR];exact hedE a (by rw[hl];exact aAq _ ha)
  rw[<- (hP.orb hae hp).1 ho];exact iR (a:=a.1) (b:=a.2) ha
 obtain⟨ux,hux⟩:=hw.onx;obtain⟨uy,huy⟩:=hw.ony;have hxe:=hedE _ hu;have hye:∃ e∈E,prE e=unA (y,t):=by rw[show unA (y,t)=unA (t,y) from aJ _ _];exact hedE _ ht
 have hEq:=dX hP.per.eqv (pls A);obtain⟨D,hPD⟩:=id hP;refine hE.orb hP hr h (Py (z:=(cd (t,y),cd (y,t))) (Q:=pls (lnk (x::M))) hPD.perm ?_ ?_ (fun d hd k=>?_) (fun k=>?_) ?_ (fun k=>?_) ?_ ?_)
 .have:=hP.fl_nd hA2;have e:pls ((t,y)::(lnk (x::M)++A))=(cd (t,y),cd (y,t))::(pls (lnk (x::M))++pls A):=by unfold pls;rw[aAl,aAu];rfl
  rw[<- e];exact this
 .have:=hP.way (w:=x::(M++[y])) hw.ed;rw[hl]at this;have e:pls (lnk (x::M)++[(t,y)])=pls (lnk (x::M))++[(cd (t,y),cd (y,t))]:=by unfold pls;rw[aAu];rfl
  rw[<- e];exact this
 .obtain⟨p,hp,rfl⟩:=hE.dart.1 hd;exact hw.off _ (hinn p (hE.sub hp) k) p.2 hp
 .exact hyM (hinn (y,t) hye k)
 .cases hM:M with
  |nil=>
   subst hM;have hut:u=y:=by
    rcases aAe.1 hu with e|e
    .injection e with _ e
    .cases e
   have htx:t=x:=by
    rcases aAe.1 ht with e|e
    .injection e with e _
    .cases e
   exact .inl ⟨rfl,by rw[hut,htx]⟩
  |cons m M'=>subst hM;have hum:u=m:=fG hw.nd hu (by simp[lnk]);exact .inr ⟨(cd (x,m),cd (m,x)),pls (lnk (m::M')),rfl,by rw[hum]⟩
 .exact hxM (hinn (x,u) hxe k)
 .have:=hP.face hA2;have e:pls (lnk (x::M)++A)=pls (lnk (x::M))++pls A:=by unfold pls;rw[aAu]
  rw[e]at this;exact this
 .refine hEq.trans (fV _ ((hP.orb hxe (hE.sub hux)).2 rfl)) (hEq.trans (hE.con _ (hE.dart.2 ⟨_,hux,rfl⟩) _ (hE.dart.2 ⟨_,huy,rfl⟩)) (fV _ ((hP.orb (hE.sub huy) hye).2 rfl)))
end
theorem cB{x y:Int}{P Q:List Int}{p:Int×Int}:p∈prs (x::(P++y::Q))↔p∈lnk (x::(P++[y]))\/p∈lnk (y::(Q++[x])):=by have:=(vM x y P Q []).mem_iff (a:=p);rw[aAd]at this;exact this
theorem oE{x y:Int}{M:List Int}{a b:Int}:(a,b)∈lnk (y::(M.reverse++[x]))↔(b,a)∈lnk (x::(M++[y])):=by have e:y::(M.reverse++[x])=(x::(M++[y])).reverse:=sS;rw[e];exact qW.symm
section
variable {E:List Ed} {s:Int->Int} (hP:PlE E s) {A:List (Int×Int)} {F:List (List Int)} {x y:Int} {P Q M:List Int}
 (hE:Emb E s A ((x::(P++y::Q))::F)) (hw:WyE E ((x::(P++y::Q))::F) x y M) {u t:Int} (hu:(x,u)∈lnk (x::(M++[y]))) (ht:(t,y)∈lnk (x::(M++[y])))
include hE hw
theorem Bb:x∉M/\y∉M/\x≠y:=by obtain⟨h1,h2⟩:=aAp.1 hw.nd;refine⟨fun k=>h1 (aAq _ k),fun k=>(aAo.1 h2).2.2 y k y sS rfl,fun e=>h1 (by rw[e];simp)⟩
theorem EZ{v:Int}(h:v∈M):v∉x::(P++y::Q):=fun k=>by obtain⟨z,hz⟩:=gV k;exact hw.off v h z (aV.2 ⟨_,aAf,hz⟩)
theorem vA:x∉P/\y∉P/\x∉Q/\y∉Q/\(∀ v∈P,v∉Q)/\(x::(P++[y])).Nodup/\(y::(Q++[x])).Nodup:=by
 have h:=hE.simple _ aAf;obtain⟨h1,h2⟩:=aAp.1 h;obtain⟨h3,h4,h5⟩:=aAo.1 h2;obtain⟨h6,h7⟩:=aAp.1 h4;have a1:x∉P:=fun k=>h1 (aAq _ k);have a2:y∉P:=fun k=>h5 y k y sS rfl;have a3:x∉Q:=fun k=>h1 (aAx _ (aAc _ k));have a4:x≠y:=fun e=>h1 (by rw[e];simp);refine⟨a1,a2,a3,h6,fun v hv k=>h5 v hv v (aAc _ k) rfl,?_,?_⟩
 .refine aAp.2 ⟨fun k=>?_,aAo.2 ⟨h3,sS,fun a ha b hb e=>?_⟩⟩
  .rcases aAd.1 k with k|k
   .exact a1 k
   .exact a4 (aAk.1 k)
  .rw[aAk.1 hb]at e;exact a2 (e ▸ ha)
 .refine aAp.2 ⟨fun k=>?_,aAo.2 ⟨h7,sS,fun a ha b hb e=>?_⟩⟩
  .rcases aAd.1 k with k|k
   .exact h6 k
   .exact a4 (aAk.1 k).symm
  .rw[aAk.1 hb]at e;exact a3 (e ▸ ha)
theorem zH(p:Int×Int):p∈PF ((x::(P++y::M.reverse))::(y::(Q++x::M))::F)↔p∈PF ((x::(P++y::Q))::F)\/p∈lnk (x::(M++[y]))\/p.swap∈lnk (x::(M++[y])):=by
 have e:∀(r:List Int) (F:List (List Int)),p∈PF (r::F)↔p∈prs r\/p∈PF F:=fun r F=>by unfold PF;rw[aAF,aAd]
 rw[e,e,e,cB,cB,cB,show(p∈lnk (y::(M.reverse++[x]))↔p.swap∈lnk (x::(M++[y]))) from oE (a:=p.1) (b:=p.2)];constructor
 .rintro((h|h)|(h|h)|h)
  .exact .inl (.inl (.inl h))
  .exact .inr (.inr h)
  .exact .inl (.inl (.inr h))
  .exact .inr (.inl h)
  .exact .inl (.inr h)
 .rintro(((h|h)|h)|h|h)
  .exact .inl (.inl h)
  .exact .inr (.inl (.inl h))
  .exact .inr (.inr h)
  .exact .inr (.inl (.inr h))
  .exact .inl (.inr h)
theorem oJ{p:Int×Int}(h:p∈lnk (x::(M++[y]))\/p.swap∈lnk (x::(M++[y]))):p∉PF ((x::(P++y::Q))::F):=fun k=>by
 rcases h with h|h
 .exact hw.new p h k
 .exact hw.new _ h (hE.swap k)
theorem Xv:(PF ((x::(P++y::M.reverse))::(y::(Q++x::M))::F)).Nodup:=by
 have hp:(PF ((x::(P++y::M.reverse))::(y::(Q++x::M))::F)).Perm ((lnk (x::(M++[y]))++lnk (y::(M.reverse++[x])))++PF ((x::(P++y::Q))::F)):=by have e1:=(vM x y P M.reverse []).count_eq;have e2:=(vM y x Q M []).count_eq;have e3:=(vM x y P Q []).count_eq;refine aEA.2 fun z=>?_;have f1:=e1 z;have f2:=e2 z;have f3:=e3 z;unfold PF;simp only[List.nil_append,aAF,List.count_append]at *;omega
 rw[hp.nodup_iff,aAo,aAo];obtain⟨n1,n2⟩:=dK hw.nd;refine⟨⟨n1,?_,fun a ha b hb e=>?_⟩,hE.nd,fun a ha b hb e=>?_⟩
 .have:(y::(M.reverse++[x])).Nodup:=by have e:y::(M.reverse++[x])=(x::(M++[y])).reverse:=sS;rw[e];exact(aBr _).nodup_iff.2 hw.nd
  exact(dK this).1
 .subst e;exact(n2 a.1 a.2 ha).2 (oE.1 hb)
 .subst e;refine oJ hE hw ?_ hb;rcases aAd.1 ha with ha|ha
  .exact .inl ha
  .exact .inr (oE (a:=a.1) (b:=a.2).1 ha)
theorem Wc{p:Int×Int}(h:p∈lnk (x::(M++[y]))\/p.swap∈lnk (x::(M++[y]))):p.1∈x::(M++[y]):=by
 rcases h with h|h
 .exact(bE (x:=p.1) (y:=p.2) h).1
 .exact(bE (x:=p.2) (y:=p.1) h).2
include hP hu ht
theorem GK{p:Int×Int}(hp:∃ e∈E,prE e=unA p):cd p∈flP (pls (lnk (x::(M++[y]))++A))↔p∈PF ((x::(P++y::Q))::F)\/p∈lnk (x::(M++[y]))\/p.swap∈lnk (x::(M++[y])):=by
 rw[eW,hE.mem];simp only[aAd];constructor
 .rintro⟨q,hq,e⟩;have hqe:∃ e∈E,prE e=unA q:=by
   rcases hq with(h|h)|h|h
   .exact hw.ed q.1 q.2 h
   .exact hE.nY.mem q h
   .rw[<- fR];exact hw.ed q.2 q.1 h
   .rw[<- fR];exact hE.nY.mem _ h
  rw[hP.cdin hp hqe e];rcases hq with(h|h)|h|h
  .exact .inr (.inl h)
  .exact .inl (.inl h)
  .exact .inr (.inr h)
  .exact .inl (.inr h)
 .rintro((h|h)|h|h)
  .exact⟨p,.inl (.inr h),rfl⟩
  .exact⟨p,.inr (.inr h),rfl⟩
  .exact⟨p,.inl (.inl h),rfl⟩
  .exact⟨p,.inr (.inl h),rfl⟩
theorem Bp{p:Int×Int}(h:p∈PF ((x::(P++y::Q))::F)\/p∈lnk (x::(M++[y]))\/p.swap∈lnk (x::(M++[y]))):∃ e∈E,prE e=unA p:=by
 rcases h with h|h|h
 .exact hE.sub h
 .exact hw.ed p.1 p.2 h
 .rw[<- fR];exact hw.ed p.2 p.1 h
theorem IU{p:Int×Int}(hp:∃ e∈E,prE e=unA p)(hv:p.1∉x::(M++[y])):∀ z,Orb s (cd p) z->(z∈flP (pls A)↔z∈flP (pls (lnk (x::(M++[y]))++A))):=by
 intro z hz;constructor
 .intro h;obtain⟨q,hq,rfl⟩:=hE.dart.1 h;exact(GK hP hE hw hu ht (hE.sub hq)).2 (.inl hq)
 .intro h;obtain⟨q,hq,rfl⟩:=eW.1 h;have hq':q∈PF ((x::(P++y::Q))::F)\/q∈lnk (x::(M++[y]))\/q.swap∈lnk (x::(M++[y])):=by
   rw[hE.mem];simp only[aAd]at hq;rcases hq with(k|k)|k|k
   .exact .inr (.inl k)
   .exact .inl (.inl k)
   .exact .inr (.inr k)
   .exact .inl (.inr k)
  have hqe:=Bp hP hE hw hu ht hq';have hb:=(hP.orb hp hqe).1 hz;rcases hq' with k|k
  .exact hE.dart.2 ⟨q,k,rfl⟩
  .exact absurd (Wc hE hw k) (by rw[<- hb];exact hv)
theorem ME:∀ z,Orb s (cd (x,u)) z->(z∈flP (pls (lnk (x::(M++[y]))++A))↔z∈flP (pls A)\/z=cd (x,u)):=by
 intro z hz;obtain⟨n1,n2,n3⟩:=Bb hE hw;have hxe:=hw.ed x u hu;constructor
 .intro h;obtain⟨q,hq,rfl⟩:=eW.1 h;simp only[aAd]at hq
  have hqe:∃ e∈E,prE e=unA q:=Bp hP hE hw hu ht (by
   rw[hE.mem];rcases hq with(k|k)|k|k
   .exact .inr (.inl k)
   .exact .inl (.inl k)
   .exact .inr (.inr k)
   .exact .inl (.inr k))
  have hb:x=q.1:=(hP.orb (p:=(x,u)) hxe hqe).1 hz;rcases hq with(k|k)|k|k
  .have:(x,q.2)∈lnk (x::(M++[y])):=by rw[hb]at k ⊢;exact k
   have h2:=fG hw.nd this hu;exact .inr (by rw[show q=(x,u) from aBZ hb.symm h2])
  .exact .inl (eW.2 ⟨q,.inl k,rfl⟩)
  .have:=iR (a:=q.2) (b:=q.1) k;rw[<- hb]at this;rcases aAd.1 this with h|h
   .exact absurd h n1
   .exact absurd (aAk.1 h) n3
  .exact .inl (eW.2 ⟨q,.inr k,rfl⟩)
 .rintro(h|rfl)
  .obtain⟨q,hq,rfl⟩:=eW.1 h;refine eW.2 ⟨q,?_,rfl⟩;simp only[aAd];exact hq.imp .inr .inr
  .exact(GK hP hE hw hu ht (p:=(x,u)) hxe).2 (.inr (.inl hu))
theorem MP:∀ z,Orb s (cd (y,t)) z->(z∈flP (pls (lnk (x::(M++[y]))++A))↔z∈flP (pls A)\/z=cd (y,t)):=by
 intro z hz;obtain⟨n1,n2,n3⟩:=Bb hE hw;have hye:∃ e∈E,prE e=unA (y,t):=by rw[show unA (y,t)=unA (t,y) from aJ _ _];exact hw.ed t y ht
 constructor
 .intro h;obtain⟨q,hq,rfl⟩:=eW.1 h;simp only[aAd]at hq
  have hqe:∃ e∈E,prE e=unA q:=Bp hP hE hw hu ht (by
   rw[hE.mem];rcases hq with(k|k)|k|k
   .exact .inr (.inl k)
   .exact .inl (.inl k)
   .exact .inr (.inr k)
   .exact .inl (.inr k))
  have hb:y=q.1:=(hP.orb (p:=(y,t)) hye hqe).1 hz;rcases hq with(k|k)|k|k
  .have:=eX (y:=y) (l:=x::M) (a:=q.1) (b:=q.2) k;rw[<- hb]at this;rcases aAe.1 this with h|h
   .exact absurd h.symm n3
   .exact absurd h n2
  .exact .inl (eW.2 ⟨q,.inl k,rfl⟩)
  .have h1:(q.2,y)∈lnk (x::(M++[y])):=by rw[show(q.2,y)=q.swap from aBZ rfl hb];exact k
   have h2:=wU hw.nd h1 ht;exact .inr (by rw[show q=(y,t) from aBZ hb.symm h2])
  .exact .inl (eW.2 ⟨q,.inr k,rfl⟩)
 .rintro(h|rfl)
  .obtain⟨q,hq,rfl⟩:=eW.1 h;refine eW.2 ⟨q,?_,rfl⟩;simp only[aAd];exact hq.imp .inr .inr
  .exact(GK hP hE hw hu ht hye).2 (.inr (.inr ht))
theorem LJ{v a b:Int}(hv:v∈M)(h2:((a,v)∈lnk (x::(M++[y]))/\(v,b)∈lnk (x::(M++[y])))\/((v,a)∈lnk (x::(M++[y]))/\(b,v)∈lnk (x::(M++[y])))):
 Nx s (flP (pls (lnk (x::(M++[y]))++A))) (s (cd (v,a))) (cd (v,b)):=by
 have v8:a≠b:=fun e=>by
  subst e;rcases h2 with⟨k1,k2⟩|⟨k1,k2⟩
  .exact((dK hw.nd).2 _ _ k1).2 k2
  .exact((dK hw.nd).2 _ _ k1).2 k2
 have ma:(v,a)∈lnk (x::(M++[y]))\/(v,a).swap∈lnk (x::(M++[y])):=h2.elim (fun k=>.inr k.1) fun k=>.inl k.1;have mb:(v,b)∈lnk (x::(M++[y]))\/(v,b).swap∈lnk (x::(M++[y])):=h2.elim (fun k=>.inl k.2) fun k=>.inr k.2;have ea:=Bp hP hE hw hu ht (.inr ma);have eb:=Bp hP hE hw hu ht (.inr mb);have ib:=(GK hP hE hw hu ht eb).2 (.inr mb);have oab:Orb s (cd (v,a)) (cd (v,b)):=(hP.orb ea eb).2 rfl;have oa:Orb s (s (cd (v,a))) (cd (v,b)):=(Orb.symm hP.per (Orb.step s _)).trans oab;obtain⟨f,hf⟩:=Nx.ex oa ib;obtain⟨q,hq,rfl⟩:=eW.1 hf.mem;simp only[aAd]at hq
 have hqe:∃ e∈E,prE e=unA q:=Bp hP hE hw hu ht (by
  rw[hE.mem];rcases hq with(k|k)|k|k
  .exact .inr (.inl k)
  .exact .inl (.inl k)
  .exact .inr (.inr k)
  .exact .inl (.inr k))
 have hqv:v=q.1:=(hP.orb (p:=(v,a)) ea hqe).1 ((Orb.step s _).trans hf.orb);have x8:q∉PF ((x::(P++y::Q))::F):=fun k=>hw.off v hv q.2 (by rw[hqv];exact k);rw[hE.mem]at x8;have N7:q∈lnk (x::(M++[y]))\/q.swap∈lnk (x::(M++[y])):=by
  rcases hq with(k|k)|k|k
  .exact .inl k
  .exact absurd (.inl k) x8
  .exact .inr k
  .exact absurd (.inr k) x8
 have hq3:q.2=a\/q.2=b:=by
  rcases N7 with k|k
  .have k:(v,q.2)∈lnk (x::(M++[y])):=by rw[hqv];exact k
   rcases h2 with h|h
   .exact .inr (fG hw.nd k h.2)
   .exact .inl (fG hw.nd k h.1)
  .have k:(q.2,v)∈lnk (x::(M++[y])):=by rw[hqv];exact k
   rcases h2 with h|h
   .exact .inl (wU hw.nd k h.1)
   .exact .inr (wU hw.nd k h.2)
 rcases hq3 with h|h
 .have e:q=(v,a):=aBZ hqv.symm h;rw[e]at hf;have:=hf.loop ib oab;exact absurd (congrArg Prod.snd (hP.cdin eb ea this)).symm v8
 .have e:q=(v,b):=aBZ hqv.symm h;rw[<- e];exact hf
end
end Aw
end Go.Proofs.YtbgngpdonpeboaaGreatDoor
