/- Lemmas. -/
import Derived.Test.YtbgngpdonpeboaaGreatDoorJk
set_option linter.unusedSectionVars false
set_option linter.defProp false
namespace Go.Proofs.YtbgngpdonpeboaaGreatDoor
namespace Aw
open Go Go.RowKit Pl Eu
def Dh(a b:Int)(M:PP):prs (a::(M++[b]))=ad (a::(M++[b]))++[(b,a)]:=by
 have e:prs (a::(M++[b]))=ad ((a::M)++b::[a]):=by unfold prs;simp
 rw[e,fR];rfl
variable{e:Ed}{a b m x y:Int}{p:Int×Int}{A:List (Int×Int)}{E:List Ed}{M l r:List Int}
def Vm(j:(a::(m::M++[b])).Nodup):(a,b)∉ad (a::(m::M++[b]))/\(b,a)∉ad (a::(m::M++[b])):=by
 obtain⟨c,f⟩:=bw.1 j;have g:b∈m::M++[b]:=Y;have d:m≠b:=fun e=>(bw.1 f).1 (by rw[e];simp);have e:ad (a::(m::M++[b]))=(a,m)::ad (m::M++[b]):=rfl;rw[e];constructor
 .intro h;rcases ai.1 h with h|h
  .injection h with _ h;exact d h.symm
  .exact c (bC h).1
 .intro h;rcases ai.1 h with h|h
  .injection h with h _;exact c (by rw[<- h];exact g)
  .exact c (bC h).2
def Drn.start{x:Ed}{ring:PP}(hx:x∈E)(r:ring=x.a::(m::M++[x.b]))(y:ring.Nodup)(P:∀ u v,(u,v)∈ad ring->∃ e∈E,ae e=aj u v):
 Drn E ⟨lJ (lJ [] ring) [x.a,x.b],ring++[x.a,x.b],[ring,ring.reverse]⟩:=by
 obtain⟨n1,I⟩:=eC y;have s:=Vm (by rw[<- r];exact y);rw[<- r]at s;have r9:x.a≠x.b:=fun e=>by rw[r]at y;exact(bw.1 y).1 (by rw[e];simp)
 have J:prs ring=ad ring++[(x.b,x.a)]:=by
  have:=Dh x.a x.b (m::M)
  rwa [<- r]at this
 have K:prs ring.reverse=ad ring.reverse++[(x.a,x.b)]:=by
  have e:ring.reverse=x.b::((m::M).reverse++[x.a]):=by rw[r];simp
  rw[e];exact Dh _ _ _
 have n:∀ u v,aj u v∈jI ring↔(u,v)∈ad ring\/(v,u)∈ad ring:=fun u v=>by
  rw[fH,ao];constructor
  .rintro⟨q,g,e⟩;rcases aN e with⟨d,c⟩|⟨d,c⟩
   .left;rw[<- d,<- c];exact g
   .right;rw[<- d,<- c];exact g
  .rintro(k|k)
   .exact⟨_,k,rfl⟩
   .exact⟨_,k,aH _ _⟩
 have j:∀ u v,(u,v)∈ad ring.reverse↔(v,u)∈ad ring:=fun u v=>by
  rw[(rG ring).mem_iff,ao];constructor
  .rintro⟨q,g,e⟩;have:q=(v,u):=by rw[<- lk q,e];rfl
   rw[<- this];exact g
  .intro k;exact⟨_,k,rfl⟩
 have hL:lJ (lJ [] ring) [x.a,x.b]=jI ring++[aj x.a x.b]:=by
  have d:lJ [] ring=jI ring:=by
   have:=lX (jI ring) [] (gL y) fun p _ h=>by cases h
   rw[List.nil_append]at this;exact this
  rw[d];exact lX [aj x.a x.b] (jI ring) Y fun p f S=>by rw[bi]at f;subst f;exact((n _ _).1 S).elim s.1 s.2
 have H:2<=ring.length:=by rw[r];simp
 have L:x.a∈ring:=by rw[r];simp
 have N:x.b∈ring:=by rw[r];simp
 have C:PF [ring,ring.reverse]=(ad ring++[(x.b,x.a)])++(ad ring.reverse++[(x.a,x.b)]):=by simp[PF,J,K]
 rw[hL];refine⟨?_,fun u v=>?_,?_,?_,fun v=>?_,?_,?_,?_⟩
 .show(PF [ring,ring.reverse]).Nodup;rw[C];have n3:=(eC ((ik ring).nodup_iff.2 y)).1;refine bo.2 ⟨bo.2 ⟨n1,Y,?_⟩,bo.2 ⟨n3,Y,?_⟩,?_⟩
  .rintro p f q g rfl;rw[bi]at g;subst g;exact s.2 f
  .rintro p f q g rfl;rw[bi]at g;subst g;exact s.2 ((j _ _).1 f)
  .rintro⟨u,v⟩ f q g rfl;rcases am.1 f with k|k
   .rcases am.1 g with o|o
    .exact(I u v k).2 ((j _ _).1 o)
    .rw[bi]at o;injection o with d c;subst d;subst c;exact s.1 k
   .rw[bi]at k;injection k with d c;subst d;subst c;rcases am.1 g with o|o
    .exact s.1 ((j _ _).1 o)
    .rw[bi]at o;injection o with d c;exact r9 c
 .show(u,v)∈PF [ring,ring.reverse]↔u≠v/\aj u v∈jI ring++[aj x.a x.b];rw[C];simp only[am,bi,j,n,fj];constructor
  .rintro((k|⟨rfl,rfl⟩)|k|⟨rfl,rfl⟩)
   .exact⟨(I _ _ k).1,.inl (.inl k)⟩
   .exact⟨fun e=>r9 e.symm,.inr (aH _ _)⟩
   .exact⟨fun e=>(I _ _ k).1 e.symm,.inl (.inr k)⟩
   .exact⟨r9,.inr rfl⟩
  .rintro⟨_,(k|k)|k⟩
   .exact .inl (.inl k)
   .exact .inr (.inl k)
   .rcases aN k with⟨d,c⟩|⟨d,c⟩
    .exact .inr (.inr ⟨d,c⟩)
    .exact .inl (.inr ⟨d,c⟩)
 .refine bo.2 ⟨gL y,Y,?_⟩;rintro p f q g rfl;rw[bi]at g;subst g;exact((n _ _).1 f).elim s.1 s.2
 .intro p u6;rcases am.1 u6 with k|k
  .rw[fH]at k;obtain⟨q,g,rfl⟩:=ao.1 k;exact P _ _ g
  .exact⟨x,hx,(bi.1 k).symm⟩
 .show v∈ring++[x.a,x.b]↔∃ u,u≠v/\aj u v∈jI ring++[aj x.a x.b];have e:v∈ring++[x.a,x.b]↔v∈ring:=by
   simp only[am,ai,gz,ij];constructor
   .rintro(k|rfl|rfl)
    .exact k
    .exact L
    .exact N
   .exact .inl
  rw[e];constructor
  .intro k;obtain⟨u,k|k⟩:=wK H k
   .exact⟨u,(I _ _ k).1,dg _ ((n u v).2 (.inl k))⟩
   .exact⟨u,fun e=>(I _ _ k).1 e.symm,dg _ ((n u v).2 (.inr k))⟩
  .rintro⟨u,k1,o⟩;rcases am.1 o with k|k
   .rcases(n u v).1 k with k|k
    .exact(bC k).2
    .exact(bC k).1
   .rcases aN (bi.1 k)with⟨d,c⟩|⟨d,c⟩
    .rw[c];exact N
    .rw[c];exact L
 .have X:∀ v∈ring,v∈af E:=fun v hv=>by
   obtain⟨u,k|k⟩:=wK H hv
   .obtain⟨e,D,z⟩:=P _ _ k;rw[aI];rcases aN z with⟨d,c⟩|⟨d,c⟩
    .exact⟨e,D,.inr c.symm⟩
    .exact⟨e,D,.inl d.symm⟩
   .obtain⟨e,D,z⟩:=P _ _ k;rw[aI];rcases aN z with⟨d,c⟩|⟨d,c⟩
    .exact⟨e,D,.inl d.symm⟩
    .exact⟨e,D,.inr c.symm⟩
  have hc:=JM (l:=af E) (M:=ring) (on:=[]) (w:=ring++[x.a,x.b]) ((jM E).imp fun k=>by omega) y X (fun v _ h=>by cases h) fun v _=>⟨fun k=>by
   rcases am.1 k with k|k
   .exact .inl k
   .rcases ai.1 k with rfl|k
    .exact .inl L
    .rw[bi]at k;subst k;exact .inl N,fun k=>k.elim (dg _) And.left⟩
  have h0:((af E).filter fun v=>decide (v∈([]:PP)))=[]:=Y;rw[h0,List.nil_append]at hc;have hwl:=pQ ring;show 2+((af E).filter fun v=>decide (v∈ring++[x.a,x.b])).length=(jI ring++[aj x.a x.b]).length+2;rw[hc,cb];simp only[List.length_nil,List.length_cons];omega
 .intro R hs A F V p Q q U;have w1:=F ring Y;have w2:=F ring.reverse Y;have c1:(x.b,x.a)∈prs ring:=by rw[J];simp
  have c2:(x.a,x.b)∈prs ring.reverse:=by rw[K];simp
  have cc:R (x.b,x.a) (x.a,x.b):=V _ (bB.2 ⟨ring,Y,c1⟩);have B:∀ p∈PF [ring,ring.reverse],R p (x.a,x.b):=fun p T=>by
   obtain⟨t,W,k⟩:=bB.1 T;rcases ai.1 W with e|e
   .rw[e]at k;exact A _ _ _ (w1 p k _ c1) cc
   .rw[bi.1 e]at k;exact w2 p k _ c2
  exact A _ _ _ (B p Q) (hs _ _ (B q U))
 .intro t A;rcases ai.1 A with rfl|A
  .rw[r];simp
  .rw[bi]at A;subst A;rw[r];simp
def Dz{d:Type}[DecidableEq d]{A B:List d}(b:A.Nodup)(e:B.Nodup)(c:∀ x∈A,x∈B)(h:B.length<=A.length):A.Perm B:=by
 refine(jd b e).2 fun x=>⟨c x,fun f=>dq fun g=>?_⟩;have:=gu (bw.2 ⟨g,b⟩) (l₂:=B) fun y a=>by
  rcases ai.1 a with rfl|a
  .exact f
  .exact c y a
 rw[List.length_cons]at this;omega
structure jG(E:QR)(F:List PP):Prop where
 nd:(PF F).Nodup
 mem:∀ u v,(u,v)∈PF F↔∃ e∈E,ae e=aj u v
 cnt:F.length+(af E).length=E.length+2
 con:If F
 ne:∀ r∈F,r≠[]
def Drn.done{h:Sh}(c:Drn E h)(Tv:∀ e∈E,e.a≠e.b)(s:(E.map ae).Nodup)(r:E.length<=h.L.length):jG E h.F:=by
 have g:h.L.Perm (E.map ae):=by refine Dz c.lnd s (fun p g=>?_) (by rw[du];exact r);obtain⟨e,d,rfl⟩:=c.sub p g;exact dd d
 have j:∀ p,p∈h.L↔∃ e∈E,ae e=p:=fun p=>by rw[g.mem_iff,ao]
 refine⟨c.nd,fun u v=>?_,?_,c.con,c.ne⟩
 .rw[c.mem,j];constructor
  .exact And.right
  .rintro⟨e,d,f⟩;refine⟨fun k=>?_,e,d,f⟩;have:=Tv e d;rcases aN f with⟨l,m⟩|⟨l,m⟩<;>omega
 .have n:=c.cnt;have o:((af E).filter fun v=>decide (v∈h.on))=af E:=sh.2 fun v t=>by
   rw[gm,c.on];obtain⟨e,d,k⟩:=(aI v E).1 t;have:=Tv e d;rcases k with rfl|rfl
   .exact⟨e.b,fun k=>this k.symm,(j _).2 ⟨e,d,aH _ _⟩⟩
   .exact⟨e.a,this,(j _).2 ⟨e,d,rfl⟩⟩
  have q:=g.length_eq;rw[du]at q;rw[o]at n;omega
def UE(Tv:e.a≠e.b):jG [e] [[e.a,e.b]]:=by
 have c:PF [[e.a,e.b]]=[(e.a,e.b),(e.b,e.a)]:=rfl;have m:(af [e]).length=2:=by
  have g:(af [e]).Perm [e.a,e.b]:=(jd ((jM _).imp fun k=>by omega) (Z Tv)).2 fun v=>by rw[aI];simp
  rw[g.length_eq];rfl
 refine⟨by rw[c];simp[Tv],fun u v=>?_,by rw[m];rfl,fun R n o j l p g q h=>?_,Y⟩
 .rw[c];simp only[ai,gz,ij,fj,xt];constructor
  .rintro(⟨rfl,rfl⟩|⟨rfl,rfl⟩)
   .rfl
   .exact aH _ _
  .intro k;rcases aN k with⟨d,f⟩|⟨d,f⟩
   .exact .inl ⟨d.symm,f.symm⟩
   .exact .inr ⟨f.symm,d.symm⟩
 .exact j [e.a,e.b] Y p (by simpa[PF]using g) q (by simpa[PF]using h)
theorem Oq:∀(l:PP) (k:Nat),k+1<l.length->(ad l)[k]?=some (l.getD k 0,l.getD (k+1) 0)
 |[],k,h=>by simp at h
 |[_],k,h=>by simp at h
 |a::b::l,0,_=>by simp[ad]
 |a::b::l,k+1,h=>by have:=Oq (b::l) k (by simpa using h);simpa[ad]using this
def pW(r:PP):(prs r).length=r.length:=by
 unfold prs;rw[Bi,cb,dj];cases r with
 |nil=>rfl
 |cons a r=>simp
def GY(r:PP)(k:Nat)(h:k<r.length):(prs r)[k]?=some (r.getD k 0,r.getD ((k+1) % r.length) 0):=by
 have d:(r++r.take 1).length=r.length+1:=by rw[cb,dj];omega
 unfold prs;rw[Oq _ k O];have b:(r++r.take 1).getD k 0=r.getD k 0:=by rw[bv,kw h,<- bv]
 have c:(r++r.take 1).getD (k+1) 0=r.getD ((k+1) % r.length) 0:=by
  rw[bv];by_cases a:k+1<r.length
  .rw[kw a,ev a,<- bv]
  .have:k+1=r.length:=O;rw[oi O,this,ua,Nat.sub_self,List.getElem?_take_of_lt O,<- bv]
 rw[b,c]
def ju(r:PP):List (Int×Int×Int):=(List.range r.length).map fun k=>(r.getD (kU r.length k) 0,r.getD k 0,r.getD ((k+1) % r.length) 0)
def Dj(A:Tn)(t:Int×Int×Int):Tn:=jE t.2.1 t.1 t.2.2 A
def sX{n k:Nat}(h:k<n):kU n k<n/\(kU n k+1) % n=k:=by
 unfold kU
 split
 .rename_i e;subst e;exact⟨O,by rw[show n-1+1=n by omega,ua]⟩
 .exact⟨O,by rw[show k-1+1=k by omega,ev h]⟩
theorem FU(r:PP)(A:Tn):∀ j,j<=r.length->lM r A j=((ju r).take j).foldl Dj A
 |0,_=>rfl
 |j+1,h=>by
  have a:(ju r).take (j+1)=(ju r).take j++[(r.getD (kU r.length j) 0,r.getD j 0,r.getD ((j+1) % r.length) 0)]:=by unfold ju;rw[fh (by simp;omega)];simp
  rw[a,lD,<- FU r A j O];rfl
def Ap(F:List PP):aX F=(F.flatMap ju).foldl Dj []:=by
 unfold aX;have a:∀(F:List PP) (A:Tn),F.foldl (fun A r=>lM r A r.length) A=(F.flatMap ju).foldl Dj A:=by
  intro F;induction F with
  |nil=>intro A;rfl
  |cons r F b=>intro A;rw[List.foldl_cons,b,dt,lD,FU r A _ (au _),ej (by simp[ju])]
 exact a F []
theorem Et(v b x y:Int):∀ A:Tn,dV b (jE v x y A)=if b=v then tF x y (dV v A)else dV b A
 |[]=>by
  unfold jE;by_cases h:b=v
  .subst h;simp[dV,tF]
  .simp only[dV,aa h,aa (fun e:v=b=>h e.symm)]
 |a::A=>by
  have d:=Et v b x y A;unfold jE;by_cases c:a.1=v
  .rw[ac c];by_cases h:b=v
   .subst h;simp[dV,c]
   .simp only[dV,aa h,aa (fun e:v=b=>h e.symm),aa (fun e:a.1=b=>h (by rw[<- e,c]))]
  .rw[aa c];by_cases h:b=v
   .subst h;rw[ac rfl]at d ⊢;simp only[dV,aa c,d]
   .rw[aa h]at d ⊢;simp only[dV,d]
theorem Jo(x y:Int):∀ P:QP,x∉P.map (·.1)->tF x y P=P++[(x,y)]
 |[],_=>rfl
 |p::P,h=>by rw[ax,ai,fJ]at h;unfold tF;rw[aa fun e=>h.1 e.symm,Jo x y P h.2];rfl
def PI(v:Int):∀(T:List (Int×Int×Int)),(T.map fun t=>(t.1,t.2.1)).Nodup->dV v (T.foldl Dj [])=(T.filter fun t=>decide (t.2.1=v)).map fun t=>(t.1,t.2.2):=by
 intro T;induction T using Aj with
 |h0=>intro _;rfl
 |h1 T t a=>
  intro b;rw[cz,bo]at b;have a:=a b.1;rw[lD,List.foldl_cons,List.foldl_nil,po,cz,<- a];rw[show Dj (T.foldl Dj []) t=jE t.2.1 t.1 t.2.2 (T.foldl Dj []) from rfl,Et];by_cases h:v=t.2.1
  .subst h;rw[ac rfl,Jo]
   .simp
   .rw[a,dC];intro d;obtain⟨s,c,e⟩:=ao.1 d;rw[cj,gm]at c;exact b.2.2 _ (dd (f:=fun t:Int×Int×Int=>(t.1,t.2.1)) c.1) (t.1,t.2.1) Y (jj e c.2)
  .rw[aa h];have:¬t.2.1=v:=fun e=>h e.symm;simp[this]
def Vr(r:PP):((ju r).map fun t=>(t.1,t.2.1)).Perm (prs r):=by
 have e:prs r=(List.range r.length).map fun k=>(r.getD k 0,r.getD ((k+1) % r.length) 0):=by
  refine pw fun k=>?_;by_cases h:k<r.length
  .rw[GY r k h];simp[h]
  .rw[pd (by rw[pW];omega),pd (by simp;omega)]
 have d:((ju r).map fun t=>(t.1,t.2.1))=((List.range r.length).map (kU r.length)).map fun k=>(r.getD k 0,r.getD ((k+1) % r.length) 0):=by unfold ju;rw[dC,dC];refine jf fun k c=>?_;have:=(sX (ii.1 c)).2;simp only[Function.comp_apply,this]
 rw[e,d];refine List.Perm.map _ (Dz ?_ vm (fun x g=>?_) Y)
 .unfold List.Nodup;rw[gd];refine o0.imp_of_mem fun {a b} ha hb r9 h=>?_;have f:=(sX (ii.1 ha)).2;have j:=(sX (ii.1 hb)).2;rw[h]at f;omega
 .obtain⟨k,c,rfl⟩:=ao.1 g;exact ii.2 (sX (ii.1 c)).1
def AM(F:List PP):((F.flatMap ju).map fun t=>(t.1,t.2.1)).Perm (PF F):=by
 induction F with
 |nil=>exact .refl _
 |cons r F a=>unfold PF at a ⊢;rw[dt,dt,cz];exact(Vr r).append a
def cd(p:Int×Int):Int:=p.1*4194304+p.2
def nW(h:0<=p.2/\p.2<4194304):cd p / 4194304=p.1:=by unfold cd;omega
def dX{q:Int×Int}(h:0<=p.2/\p.2<4194304)(k:0<=q.2/\q.2<4194304)(e:cd p=cd q):p=q:=by unfold cd at e;exact jj O O
def Uc(s:(prs r).Nodup)(c:∀ v∈r,0<=v/\v<4194304){t:Int×Int×Int}(m:t∈ju r):(t.1,t.2.1)∈prs r/\(t.2.1,t.2.2)∈prs r/\nx ((prs r).map cd) (cd (t.1,t.2.1))=cd (t.2.1,t.2.2):=by
 unfold ju at m;obtain⟨k,d,rfl⟩:=ao.1 m;rw[ii]at d;obtain⟨y,o⟩:=sX d;have q:=pW r;have h:(prs r)[kU r.length k]'(by omega)=(r.getD (kU r.length k) 0,r.getD k 0):=by have:=GY r _ y;rw[bu O,ap]at this;rw[this,o]
 have l:(prs r)[k]'(by omega)=(r.getD k 0,r.getD ((k+1) % r.length) 0):=by have:=GY r _ d;rw[bu O,ap]at this;exact this
 have n:∀ p∈prs r,0<=p.2/\p.2<4194304:=fun p w=>c _ (nY (x:=p.1) w).2;have g:((prs r).map cd).Nodup:=by unfold List.Nodup;rw[gd];exact s.imp_of_mem fun {a b} ha c Tv e=>Tv (dX (n a ha) (n b c) e)
 have f:((prs r).map cd).length=r.length:=by rw[du,q]
 refine⟨by rw[<- h];exact dz _,by rw[<- l];exact dz _,?_⟩;simp only;rw[<- h,<- l];have:=iY g (j:=kU r.length k) O;simp only[pz]at this;rw[this]
 congr 1
 simp only[f,o]
def cx(E:QR):QP:=E.map fun e=>(cd (e.a,e.b),cd (e.b,e.a))
theorem lT(s:Int->Int){x:Int}:∀ P:QP,(∀ p∈P,x≠p.1/\x≠p.2)->ce s P x=s x
 |[],_=>rfl
 |p::P,h=>by unfold ce;rw[kZ (h p ar).1 (h p ar).2];exact lT s P fun q a=>h q (aq _ a)
theorem NR(s:Int->Int){u v:Int}:∀ E:QR,(∀ e∈E,(0<=e.a/\e.a<4194304)/\0<=e.b/\e.b<4194304)->(E.map ae).Nodup->(∃ e∈E,ae e=aj u v)->ce s (cx E) (cd (v,u))=s (cd (u,v))
 |[],_,_,h=>by obtain⟨_,h,_⟩:=h;cases h
 |e::E,hb,hn,h=>by
  rw[ax,bw]at hn;have l:=hb e ar;have j:=fun e n=>hb e (aq _ n);by_cases n:ae e=aj u v
  .have c:∀ x y,aj x y=ae e->(0<=x/\x<4194304)->(0<=y/\y<4194304)->∀ p∈cx E,cd (x,y)≠p.1/\cd (x,y)≠p.2:=by
    intro x y W0 w t p o;obtain⟨f,hf,rfl⟩:=ao.1 o;have m:=j f hf;constructor
    .intro k;have:=dX (p:=(x,y)) (q:=(f.a,f.b)) t m.2 k;injection this with k1 k2;exact hn.1 (ao.2 ⟨f,hf,by rw[<- W0,k1,k2]⟩)
    .intro k;have:=dX (p:=(x,y)) (q:=(f.b,f.a)) t m.1 k;injection this with k1 k2;exact hn.1 (ao.2 ⟨f,hf,by rw[<- W0,k1,k2];exact aH _ _⟩)
   show ce s (cx E) (Eu.sw (cd (e.a,e.b)) (cd (e.b,e.a)) (cd (v,u)))=_;rcases aN n with⟨d,g⟩|⟨d,g⟩
   .rw[<- d,<- g,EK,lT s _ (c e.a e.b rfl l.1 l.2)]
   .rw[<- d,<- g,vV,lT s _ (c e.b e.a (aH _ _) l.2 l.1)]
  .obtain⟨f,hf,o⟩:=h;rcases ai.1 hf with rfl|hf
   .exact absurd o n
   show ce s (cx E) (Eu.sw (cd (e.a,e.b)) (cd (e.b,e.a)) (cd (v,u)))=_;have m:=j f hf;have r:(0<=u/\u<4194304)/\0<=v/\v<4194304:=by
    rcases aN o with⟨d,g⟩|⟨d,g⟩
    .rw[<- d,<- g];exact m
    .rw[<- d,<- g];exact⟨m.2,m.1⟩
   rw[kZ]
   .exact NR s E j hn.2 ⟨f,hf,o⟩
   .intro k;have:=dX (p:=(v,u)) (q:=(e.a,e.b)) r.1 l.2 k;injection this with k1 k2;exact n (by rw[k1,k2];exact aH _ _)
   .intro k;have:=dX (p:=(v,u)) (q:=(e.b,e.a)) r.1 l.1 k;injection this with k1 k2;exact n (by rw[k1,k2])
def fg(F:List PP):List PP:=F.map fun r=>(prs r).map cd
def fT(F:List PP):(fg F).flatten=(PF F).map cd:=by unfold fg PF;rw[xo,<- List.flatMap_def]
def bN(a:e∈E)(h:ae e=aj x y):x∈af E/\y∈af E:=by
 rw[aI,aI];rcases aN h with⟨b,c⟩|⟨b,c⟩
 .exact⟨⟨e,a,.inl b.symm⟩,⟨e,a,.inr c.symm⟩⟩
 .exact⟨⟨e,a,.inr c.symm⟩,⟨e,a,.inl b.symm⟩⟩
structure BlE(E:QR):Prop where
 ne:∀ e∈E,e.a≠e.b
 sim:(E.map ae).Nodup
 bnd:∀ v∈af E,0<=v/\v<4194304
section
variable {E:List Ed} {F:List (List Int)} (hO:jG E F) (hE:BlE E)
include hO hE
theorem jG.b2{p:Int×Int}(h:p∈PF F):(0<=p.1/\p.1<4194304)/\0<=p.2/\p.2<4194304:=by obtain⟨e,a,b⟩:=(hO.mem p.1 p.2).1 h;have:=bN a b;exact⟨hE.bnd _ this.1,hE.bnd _ this.2⟩
theorem jG.cdnd:((fg F).flatten).Nodup:=by rw[fT];unfold List.Nodup;rw[gd];exact hO.nd.imp_of_mem fun {p q} hp hq Tv e=>Tv (dX (hO.b2 hE hp).2 (hO.b2 hE hq).2 e)
theorem jG.swap{u v:Int}(h:(u,v)∈PF F):(v,u)∈PF F:=by obtain⟨e,a,b⟩:=(hO.mem u v).1 h;exact(hO.mem v u).2 ⟨e,a,by rw[b];exact aH _ _⟩
theorem jG.z{u v:Int}(h:(u,v)∈PF F):∃ w,(u,v,w)∈F.flatMap ju/\∃ r∈F,(u,v)∈prs r/\(v,w)∈prs r/\dn (fg F) (cd (u,v))=cd (v,w):=by
 have:=(AM F).mem_iff.2 h;obtain⟨t,c,e⟩:=ao.1 this;obtain⟨r,b,k⟩:=fu.1 c;have a:∀ p∈prs r,p∈PF F:=fun p q=>bB.2 ⟨r,b,q⟩;have j:(prs r).Nodup:=by have d:=hO.nd;unfold PF at d;rw[List.flatMap_def]at d;exact row_nodup' d (dd b)
 have o:∀ v∈r,0<=v/\v<4194304:=fun v s=>by obtain⟨x,y⟩:=gK s;exact(hO.b2 hE (a _ y)).1
 obtain⟨g,l,m⟩:=Uc j o k;injection e with e1 e2;rw[e1,e2]at g m;rw[e2]at l;refine⟨t.2.2,?_,r,b,g,l,?_⟩
 .rw[<- e1,<- e2];exact c
 .rw[iF (hO.cdnd hE) (t:=(prs r).map cd) (dd (f:=fun r=>(prs r).map cd) b) (dd g),m]
where
 row_nodup' {n:Type} {L:List (List n)} (j:L.flatten.Nodup) {t:List n} (c:t∈L):t.Nodup:=(mm c).nodup j
abbrev la(E:QR)(F:List PP):Int->Int:=ce (dn (fg F)) (cx E)
theorem jG.tws_mem:∀ p∈cx E,p.1∈(fg F).flatten/\p.2∈(fg F).flatten/\p.1≠p.2:=fun p g=>by obtain⟨e,f,rfl⟩:=ao.1 g;have c:=(hO.mem e.a e.b).2 ⟨e,f,rfl⟩;have d:=hO.swap hE c;rw[fT];refine⟨dd c,dd d,fun k=>hE.ne e f ?_⟩;have:=dX (hO.b2 hE c).2 (hO.b2 hE d).2 k;injection this
theorem jG.sgV_at{u v:Int}(h:(u,v)∈PF F):la E F (cd (v,u))=dn (fg F) (cd (u,v)):=
 NR _ E (fun e a=>⟨hE.bnd _ ((aI _ _).2 ⟨e,a,.inl rfl⟩),hE.bnd _ ((aI _ _).2 ⟨e,a,.inr rfl⟩)⟩) hE.sim ((hO.mem u v).1 h)
theorem jG.sgV_permOn:cK (fg F).flatten (la E F):=fQ (jO (hO.cdnd hE)) _ fun p a=>⟨(hO.tws_mem hE p a).1,(hO.tws_mem hE p a).2.1⟩
theorem jG.sgV_base(x:Int):la E F x / 4194304=x / 4194304:=by
 by_cases a:x∈(fg F).flatten
 .rw[fT]at a;obtain⟨⟨v,u⟩,hp,rfl⟩:=ao.1 a;have b:=hO.swap hE hp;obtain⟨w,_,r,c,g,d,e⟩:=hO.z hE b;have f:=bB.2 ⟨r,c,d⟩;rw[hO.sgV_at hE b,e,nW (hO.b2 hE f).2,nW (hO.b2 hE hp).2]
 .rw[(hO.sgV_permOn hE).out x a]
theorem jG.sgV_it:∀(n:Nat) (x:Int),it (la E F) n x / 4194304=x / 4194304
 |0,_=>rfl
 |n+1,x=>by rw[bI,hO.sgV_base hE,jG.sgV_it n x]
theorem jG.count(V:E≠[]):Flat (fg F).flatten (dn (fg F)) (cx E)/\∀ x∈(fg F).flatten,∀ y∈(fg F).flatten,x / 4194304=y / 4194304->Orb (la E F) x y:=by
 have w:=hO.cdnd hE;have m:=jO w;have hσ:=hO.sgV_permOn hE;obtain⟨_,c,C⟩:=pL m (cx E) (hO.tws_mem hE);have L:=cO m.per.eqv (cx E);have s:∀ x∈(fg F).flatten,∀ y∈(fg F).flatten,cw (Orb (dn (fg F))) (cx E) x y:=by
  intro x D y H;rw[fT]at D H;obtain⟨p,z,rfl⟩:=ao.1 D;obtain⟨q,P,rfl⟩:=ao.1 H;refine hO.con (fun p q=>cw (Orb (dn (fg F))) (cx E) (cd p) (cd q)) (fun _ _ k=>L.symm k) (fun _ _ _ k l=>L.trans k l) (fun r Q p z q P=>?_) (fun p z=>?_) p z q P
  .exact gC _ ((GH w (dd (f:=fun r=>(prs r).map cd) Q) (dd z)).2 (dd P))
  .obtain⟨e,v,N⟩:=(hO.mem p.1 p.2).1 z;have:=gV m.per.eqv (cx E) (p:=(cd (e.a,e.b),cd (e.b,e.a))) (dd (f:=fun e:Ed=>(cd (e.a,e.b),cd (e.b,e.a))) v);rcases aN N with⟨I,J⟩|⟨I,J⟩
   .rw[I,J]at this;exact this
   .rw[I,J]at this;exact L.symm this
 have K:(fg F).flatten≠[]:=by rw[fT];intro e;have:=sm.1 e;obtain⟨e,v⟩:=gv _ V;have h:=(hO.mem e.a e.b).2 ⟨e,v,rfl⟩;rw[this]at h;cases h
 have g:=Xd s K;rw[g]at C;have T:bj (Orb (dn (fg F))) (fg F).flatten=F.length:=by rw[OY w,sh.2,fg,du];intro t ht;obtain⟨r,Q,rfl⟩:=ao.1 ht;have o:=hO.ne r Q;have A:=pW r;rw[gm];intro e;have S:=congrArg List.length e;rw[du,A]at S;exact o (qv.1 S)
 have d:(cx E).length=E.length:=by rw[cx,du]
 rw[T,d]at C;have C:2*1+E.length=2*c+F.length+bj (Orb (la E F)) (fg F).flatten:=C;let B:Int->Int->Prop:=fun x y=>x / 4194304=y / 4194304;have W:gh B:=⟨fun _=>rfl,fun h=>uf h,fun h k=>Eq.trans h k⟩;have X:(af E).length<=bj B (fg F).flatten:=by
  refine rT (R:=B) (fun x=>x / 4194304) (fun _ _ _ _ h=>h) (af E) ((jM E).imp fun k=>by omega) fun a ha=>?_;obtain⟨e,v,k⟩:=(aI a E).1 ha;have o:=(hO.mem e.a e.b).2 ⟨e,v,rfl⟩;have A:=hO.swap hE o;rcases k with rfl|rfl
  .exact⟨_,by rw[fT];exact dd o,nW (hO.b2 hE o).2⟩
  .exact⟨_,by rw[fT];exact dd A,nW (hO.b2 hE A).2⟩
 have U:=hO.cnt;have j:∀ x y,Orb (la E F) x y->B x y:=fun x y ⟨n,w⟩=>by show x / 4194304=y / 4194304;rw[<- w,hO.sgV_it hE]
 have M:bj B (fg F).flatten<=bj (Orb (la E F)) (fg F).flatten:=tW fun x _ y _=>j x y;refine⟨?_,fun x D y H k=>VI hσ.per.eqv W (l:=(fg F).flatten) j O D H k⟩;show 2*_+_=_+bj (Orb (la E F)) _;rw[g,T,d];omega
theorem jG.one_turn(e:E≠[]){v u c:Int}(h:(u,v)∈PF F)(d:(c,v)∈PF F):Orb (la E F) (cd (v,u)) (cd (v,c)):=by have a:=hO.swap hE h;have b:=hO.swap hE d;refine(hO.count hE e).2 _ (by rw[fT];exact dd a) _ (by rw[fT];exact dd b) ?_;rw[nW (hO.b2 hE a).2,nW (hO.b2 hE b).2]
end
theorem Oc:∀ {P:QP},(P.map (·.1)).Nodup->∀ {u w:Int},(u,w)∈P->qY P u=w
 |p::P,hn,u,w,h=>by
  rw[ax,bw]at hn;unfold qY;rcases ai.1 h with rfl|h
  .rw[ac rfl]
  .rw[aa fun e=>hn.1 (by rw[e];exact dd (f:=(·.1)) h)];exact Oc hn.2 h
section
variable {E:List Ed} {F:List (List Int)} (hO:jG E F) (hE:BlE E)
include hO hE
theorem jG.getA_eq(v:Int):dV v (aX F)=((F.flatMap ju).filter fun t=>decide (t.2.1=v)).map fun t=>(t.1,t.2.2):=by rw[Ap,PI v _ ((AM F).nodup_iff.2 hO.nd)]
theorem jG.keys(v:Int):((dV v (aX F)).map (·.1)).Nodup/\∀ u,u∈(dV v (aX F)).map (·.1)↔(u,v)∈PF F:=by
 rw[hO.getA_eq hE,dC];have b:=(AM F).nodup_iff.2 hO.nd;constructor
 .unfold List.Nodup at b ⊢;rw[gd]at b ⊢;refine(b.sublist eu).imp_of_mem fun {s t} hs a Tv e=>Tv ?_;rw[cj,gm]at hs a;exact jj e (by rw[hs.2,a.2])
 .intro u;rw[<- (AM F).mem_iff,ao,ao];constructor
  .rintro⟨t,a,rfl⟩;rw[cj,gm]at a;exact⟨t,a.1,by rw[<- a.2];rfl⟩
  .rintro⟨t,a,e⟩;injection e with e1 e2;exact⟨t,by rw[cj,gm];exact⟨a,e2⟩,e1⟩
theorem jG.step{u v:Int}(h:(u,v)∈PF F):(∃ r∈F,(u,v)∈prs r/\(v,qY (dV v (aX F)) u)∈prs r)/\la E F (cd (v,u))=cd (v,qY (dV v (aX F)) u):=by
 obtain⟨w,a,r,b,d,e,f⟩:=hO.z hE h;have c:(u,w)∈dV v (aX F):=by rw[hO.getA_eq hE];exact ao.2 ⟨(u,v,w),by rw[cj];exact⟨a,Y⟩,rfl⟩
 rw[Oc (hO.keys hE v).1 c,hO.sgV_at hE h];exact⟨⟨r,b,d,e⟩,f⟩
theorem jG.round(h0:E≠[]){v:Int}(hv:v∈af E):(cG (dV v (aX F))).Nodup/\cG (dV v (aX F))≠[]/\(∀ u,u∈cG (dV v (aX F))↔∃ e∈E,ae e=aj v u)/\
 ∀ u∈cG (dV v (aX F)),∃ r∈F,(u,v)∈prs r/\(v,nx (cG (dV v (aX F))) u)∈prs r:=by
 have A:=hO.keys hE v;have g:=fun u (h:(u,v)∈PF F)=>hO.step hE h;have N:=fun u H (h:(u,v)∈PF F) (h':(H,v)∈PF F)=>hO.one_turn hE h0 h h';have hb:=fun p (h:p∈PF F)=>hO.b2 hE h;obtain⟨u0,hu0⟩:∃ u,(u,v)∈PF F:=by
  obtain⟨e,K,k⟩:=(aI v E).1 hv;have I:=(hO.mem e.a e.b).2 ⟨e,K,rfl⟩;rcases k with rfl|rfl
  .exact⟨_,hO.swap hE I⟩
  .exact⟨_,I⟩
 have l:=fun u w (h:(u,w)∈PF F)=>hO.swap hE h;generalize dV v (aX F)=P at *;have J:P.map (·.1)≠[]:=kc ((A.2 u0).2 hu0);have hP:P≠[]:=fun e=>J (by rw[e];rfl);have hf:(mn (P.map (·.1)),v)∈PF F:=(A.2 _).1 (AW J);generalize W:mn (P.map (·.1))=f at *;let c:Int->Int:=fun x=>if x∈P.map (·.1)then qY P x else x
 have s:∀ u,(u,v)∈PF F->c u=qY P u:=fun u d=>ac ((A.2 u).2 d);have y:∀ u,(u,v)∈PF F->(c u,v)∈PF F:=fun u d=>by rw[s u d];obtain⟨⟨r,hr,_,k⟩,_⟩:=g u d;exact l _ _ (bB.2 ⟨r,hr,k⟩)
 have q:∀ n u,(u,v)∈PF F->(it c n u,v)∈PF F/\it (la E F) n (cd (v,u))=cd (v,it c n u):=by
  intro n;induction n with
  |zero=>intro u d;exact⟨d,rfl⟩
  |succ n ih=>intro u d;obtain⟨i1,i2⟩:=ih u d;rw[bI,bI,i2,(g _ i1).2,<- s _ i1];exact⟨y _ i1,rfl⟩
 have T:∀ u H,(u,v)∈PF F->(H,v)∈PF F->Orb c u H:=fun u H d R=>by obtain⟨n,V⟩:=N u H d R;rw[(q n u d).2]at V;have:=dX (hb _ (l _ _ (q n u d).1)).2 (hb _ (l _ _ R)).2 V;injection this with _ e;exact⟨n,e⟩
 have Q:∃ p,0<p/\it c p f=f:=by obtain⟨n,V⟩:=T (c f) f (y f hf) hf;exact⟨n+1,O,V⟩
 obtain⟨p,⟨t,D⟩,hmin⟩:=least (P:=fun n=>0<n/\it c n f=f) Q.choose_spec;have z:∀ i j,i<j->j<p->it c i f≠it c j f:=by
  intro i j L hj e;have I:it c (p-j) (it c j f)=f:=by rw[<- mZ,show p-j+j=p by omega,D]
  rw[<- e,<- mZ]at I;exact hmin (p-j+i) O ⟨O,I⟩
 have C:((List.range p).map fun k=>it c k f).Nodup:=by unfold List.Nodup;rw[gd];exact(o0 (n:=p)).imp_of_mem fun {i j} _ hj L=>z i j L (ii.1 hj)
 have o:∀ u,u∈((List.range p).map fun k=>it c k f)↔(u,v)∈PF F:=fun u=>by
  constructor
  .intro h;obtain⟨k,_,rfl⟩:=ao.1 h;exact(q k f hf).1
  .intro d;obtain⟨n,rfl⟩:=T f u hf d;exact ao.2 ⟨n % p,ii.2 (me _ t),(TZ t D n).symm⟩
 have M:p=P.length:=by
  have:=(Dz C A.1 (fun x hx=>(A.2 x).2 ((o x).1 hx)) (by
   refine gu A.1 fun x hx=>(o x).2 ((A.2 x).1 hx))).length_eq
  simpa using this
 have X:∀ m k,k+m=p->0<m->ko P f m (it c k f)=(List.range' k m).map fun k=>it c k f:=by
  intro m;induction m with
  |zero=>intro k _ h;omega
  |succ m ih=>
   intro k B _;have U:qY P (it c k f)=it c (k+1) f:=by rw[bI,s _ (q k f hf).1]
   rw[List.range'_succ,ax,ko,U]
   congr 1
   by_cases hm:0<m
   .rw[ac ⟨fun e=>hmin (k+1) O ⟨O,e⟩,hm⟩];exact ih (k+1) O hm
   .rw[aa fun h=>hm h.2];have:m=0:=O;subst this;rfl
 have hR:cG P=(List.range p).map fun k=>it c k f:=by unfold cG;rw[W,<- M,List.range_eq_range'];exact X p 0 O t
 rw[hR];refine⟨C,?_,fun u=>?_,fun u d=>?_⟩
 .intro e;have:=congrArg List.length e;simp at this;omega
 .rw[o,hO.mem];constructor
  .rintro⟨e,K,k⟩;exact⟨e,K,by rw[k];exact aH _ _⟩
  .rintro⟨e,K,k⟩;exact⟨e,K,by rw[k];exact aH _ _⟩
 .have S:=(o u).1 d;obtain⟨⟨r,hr,k1,k2⟩,_⟩:=g u S;refine⟨r,hr,k1,?_⟩;obtain⟨k,B,rfl⟩:=ao.1 d;rw[ii]at B;have hl:((List.range p).map fun k=>it c k f).length=p:=Y;have U:=iY C (j:=k) (by rw[hl];exact B);simp only[pz,List.getElem_range,hl]at U;rw[U,<- TZ t D,bI,s _ S];exact k2
end
def bk(p:Int×Int):Int×Int:=aj p.1 p.2
def bm(A:QP):QP:=A.map fun p=>(cd p,cd p.swap)
structure PlD(E:QR)(s:Int->Int)(D:PP):Prop where
 bl:BlE E
 perm:cK D s
 mem:∀ p:Int×Int,(∃ e∈E,ae e=bk p)->cd p∈D
 orb:∀ p q:Int×Int,(∃ e∈E,ae e=bk p)->(∃ e∈E,ae e=bk q)->(Orb s (cd p) (cd q)↔p.1=q.1)
 flat:Flat D s (cx E)
def PlE(E:QR)(s:Int->Int):Prop:=∃ D,PlD E s D
theorem PlE.bl{E:QR}{s:Int->Int}(h:PlE E s):BlE E:=let ⟨_,k⟩:=h;k.bl
theorem PlE.per{E:QR}{s:Int->Int}(h:PlE E s):Per s:=let ⟨_,k⟩:=h;k.perm.per
structure fE(E:QR)(A:QP):Prop where
 mem:∀ p∈A,∃ e∈E,ae e=bk p
 nd:(A.map bk).Nodup
theorem eG{a b:Type}(f:a->b):∀ {l:List a},(l.map f).Nodup->l.Nodup
 |[],_=>List.nodup_nil
 |x::l,h=>by rw[ax,bw]at h;exact bw.2 ⟨fun k=>h.1 (dd k),eG f h.2⟩
theorem eZ{b d:Type}{f:b->d}:∀ {l:List b},(l.map f).Nodup->∀ {x y:b},x∈l->y∈l->f x=f y->x=y
 |z::l,h,x,y,hx,hy,e=>by
  rw[ax,bw]at h;rcases ai.1 hx with rfl|c
  .rcases ai.1 hy with rfl|a
   .rfl
   .exact absurd (ao.2 ⟨y,a,e.symm⟩) h.1
  .rcases ai.1 hy with rfl|a
   .exact absurd (ao.2 ⟨x,c,e⟩) h.1
   .exact eZ h.2 c a e
def gZ(p:Int×Int):bk p.swap=bk p:=aH _ _
def gk(A:QP)(e:Ed):Int×Int:=if(e.a,e.b)∈A then(e.a,e.b)else if(e.b,e.a)∈A then(e.b,e.a)else(e.a,e.b)
def IM(A:QP)(e:Ed):gk A e=(e.a,e.b)\/gk A e=(e.b,e.a):=by
 unfold gk
 split
 .exact .inl rfl
 .split
  .exact .inr rfl
  .exact .inl rfl
def VG(A:QP)(e:Ed):bk (gk A e)=ae e:=by
 rcases IM A e with h|h
 .rw[h];rfl
 .rw[h];exact aH _ _
def Wc(a b x:Int):Eu.sw a b x=Eu.sw b a x:=by
 unfold Eu.sw;by_cases d:x=a
 .by_cases c:x=b
  .rw[ac d,ac c,<- d,<- c]
  .rw[ac d,aa c,ac d]
 .rw[aa d];by_cases c:x=b
  .rw[ac c,ac c]
  .rw[aa c,aa c,aa d]
theorem SX(s:Int->Int)(A:QP):∀(E:QR) (x:Int),ce s (cx E) x=ce s (bm (E.map (gk A))) x
 |[],_=>rfl
 |e::E,x=>by
  show ce s (cx E) (Eu.sw _ _ x)=ce s (bm (E.map (gk A))) (Eu.sw (cd (gk A e)) (cd (gk A e).swap) x);rw[SX s A E];rcases IM A e with h|h
  .rw[h];rfl
  .rw[h];show _=ce s _ (Eu.sw (cd (e.b,e.a)) (cd (e.a,e.b)) x);rw[Wc]
section
variable {E:List Ed} (hP:BlE E)
include hP
theorem BlE.bd{e:Ed}(c:e∈E):(0<=e.a/\e.a<4194304)/\0<=e.b/\e.b<4194304:=by have:=bN (x:=e.a) (y:=e.b) c rfl;exact⟨hP.bnd _ this.1,hP.bnd _ this.2⟩
theorem BlE.arc_bd{p:Int×Int}(h:∃ e∈E,ae e=bk p):(0<=p.1/\p.1<4194304)/\(0<=p.2/\p.2<4194304)/\p.1≠p.2:=by
 obtain⟨e,d,f⟩:=h;have a:=hP.bd d;have Tv:=hP.ne e d;rcases aN f with⟨b,c⟩|⟨b,c⟩
 .rw[<- b,<- c];exact⟨a.1,a.2,Tv⟩
 .rw[<- b,<- c];exact⟨a.2,a.1,jk Tv⟩
theorem BlE.fl_nd:∀ {A:QP},fE E A->(cf (bm A)).Nodup
 |[],_=>List.nodup_nil
 |p::A,h=>by
  have s:fE E A:=⟨fun q c=>h.mem q (aq _ c),(bw.1 h.nd).2⟩;have v:=BlE.fl_nd s;obtain⟨d,f,m⟩:=hP.arc_bd (h.mem p ar);have l:=(bw.1 h.nd).1;have b:∀ q:Int×Int,bk q=bk p->((0<=q.1/\q.1<4194304)/\0<=q.2/\q.2<4194304)->cd q∉cf (bm A):=by
   intro q c j k;obtain⟨r,t,e⟩:=bK.1 k;obtain⟨a,g,rfl⟩:=ao.1 t;obtain⟨n,o,_⟩:=hP.arc_bd (h.mem a (aq _ g));rcases e with e|e
   .have:=dX j.2 o e;exact l (ao.2 ⟨a,g,by rw[<- this,c]⟩)
   .have:=dX (q:=a.swap) j.2 n e;exact l (ao.2 ⟨a,g,by rw[<- c,this,gZ]⟩)
  show(cd p::cd p.swap::cf (bm A)).Nodup;rw[bw,bw];refine⟨fun k=>?_,b p.swap (gZ p) ⟨f,d⟩,v⟩;rcases ai.1 k with k|k
  .have:=dX (p:=p) (q:=p.swap) f d k;exact m (congrArg Prod.fst this)
  .exact b p rfl ⟨d,f⟩ k
end
section
variable {E:List Ed} {s:Int->Int} (hP:PlE E s)
include hP
theorem PlE.arc_bd{p:Int×Int}(h:∃ e∈E,ae e=bk p):(0<=p.1/\p.1<4194304)/\(0<=p.2/\p.2<4194304)/\p.1≠p.2:=hP.bl.arc_bd h
theorem PlE.fl_nd{A:QP}(h:fE E A):(cf (bm A)).Nodup:=hP.bl.fl_nd h
theorem PlE.ors(A:QP):fE E (E.map (gk A)):=by
 refine⟨fun p b=>?_,?_⟩
 .obtain⟨e,a,rfl⟩:=ao.1 b;exact⟨e,a,(VG A e).symm⟩
 .have e:(E.map (gk A)).map bk=E.map ae:=by rw[dC];exact jf fun e _=>VG A e
  rw[e];exact hP.bl.sim
theorem PlE.sub{A:QP}(g:fE E A):∃ R,(E.map (gk A)).Perm (R++A):=by
 refine⟨(E.map (gk A)).filter fun p=>decide (p∉A),?_⟩;have r:=hP.ors A;have d:=eG bk r.nd;have j:=eG bk g.nd;refine(jd d ?_).2 fun p=>?_
 .rw[bo];refine⟨d.filter _,j,fun x t y v e=>?_⟩;have:=(cj.1 t).2;simp only[jv]at this;exact this (e ▸ v)
 .rw[am,cj];simp only[jv];constructor
  .intro h;by_cases k:p∈A
   .exact .inr k
   .exact .inl ⟨h,k⟩
  .rintro(h|h)
   .exact h.1
   .obtain⟨e,l,m⟩:=g.mem p h;refine ao.2 ⟨e,l,?_⟩;rcases aN m with⟨c,f⟩|⟨c,f⟩
    .have:(e.a,e.b)=p:=jj c f;unfold gk;rw[this,ac h]
    .have n:(e.a,e.b)∉A:=fun k=>by have o:bk (e.a,e.b)=bk p:=m;have:=eZ g.nd k h o;have q:=hP.bl.ne e l;rw[<- this]at c f;exact q c
     have:(e.b,e.a)=p:=jj f c;unfold gk;rw[aa n,this,ac h]
omit hP in
theorem PlD.pairs{D:PP}(hP:PlD E s D){A:QP}(f:fE E A):dH (D) (bm A):=by intro q h;obtain⟨p,g,rfl⟩:=ao.1 h;have a:=f.mem p g;obtain⟨b,c,d⟩:=PlE.arc_bd ⟨D,hP⟩ a;exact⟨hP.mem _ a,hP.mem _ (by rw[gZ];exact a),fun e=>d (congrArg Prod.fst (dX (p:=p) (q:=p.swap) c b e))⟩
omit hP in
theorem PlD.flat_or{D:PP}(hP:PlD E s D)(A:QP):Flat (D) s (bm (E.map (gk A))):=by
 have h:=hP.flat;have e:ce s (cx E)=ce s (bm (E.map (gk A))):=funext fun x=>SX s A E x;have c:=hP.perm.per.eqv;have n:∀ x y,Orb s x y->cw (Orb s) (bm (E.map (gk A))) x y:=fun x y k=>gC _ k;have j:∀ x y,Orb s x y->cw (Orb s) (cx E) x y:=fun x y k=>gC _ k;have l:bj (cw (Orb s) (cx E)) (D)=bj (cw (Orb s) (bm (E.map (gk A)))) (D):=by
  refine dA fun x _ y _=>⟨fun k=>lF (cO c _) n (fun p g=>?_) x y k,fun k=>lF (cO c _) j (fun p g=>?_) x y k⟩
  .obtain⟨f,hf,rfl⟩:=ao.1 g;have d:(cd (gk A f),cd (gk A f).swap)∈bm (E.map (gk A)):=ao.2 ⟨_,dd hf,rfl⟩;have:=gV c _ d;rcases IM A f with h|h
   .rw[h]at this;exact this
   .rw[h]at this;exact(cO c _).symm this
  .obtain⟨q,m,rfl⟩:=ao.1 g;obtain⟨f,hf,rfl⟩:=ao.1 m;have d:(cd (f.a,f.b),cd (f.b,f.a))∈cx E:=ao.2 ⟨f,hf,rfl⟩;have:=gV c _ d;rcases IM A f with h|h
   .rw[h];exact this
   .rw[h];exact(cO c _).symm this
 unfold Flat at h ⊢;rw[<- e,<- l];have:(bm (E.map (gk A))).length=(cx E).length:=by unfold bm cx;simp
 rw[this];exact h
theorem PlE.face{p:Int×Int}{A:QP}(c:fE E (p::A)):cw (Orb s) (bm A) (cd p) (cd p.swap)->Orb (ce s (bm A)) (cd p) (cd p.swap):=by
 obtain⟨R,d⟩:=hP.sub c;have b:=hP.ors (p::A);have e:(bm (E.map (gk (p::A)))).Perm (bm R++(cd p,cd p.swap)::bm A):=by have:=d.map fun p:Int×Int=>(cd p,cd p.swap);rw[cz]at this;exact this
 have a:=hP.fl_nd b;obtain⟨D,hP⟩:=hP;exact(Qh hP.perm (hP.pairs b) a (hP.flat_or _) e).2
end
section
variable {f:Int->Int} (hf:Per f) {ds:List Int} (hd:∀ x∈ds,f x∈ds)
include hf hd
end
def Ix(a:List PP)(d:Int):Int:=if(a.any fun t=>decide (d∈t))=true then(a.findIdx fun t=>decide (d∈t):Int)else -1
def NT(m:Mp)(R:List PP):Prop:=PN (fc m m.g.E) (bA m.g.E) (bA m.g.E).length R
section
variable {m:Mp} (h:bZ m) {R:List (List Int)} (hR:NT m R)
include h hR
end
def IH(f:Int->Int)(d:Int)(k:Nat):PP:=(List.range k).map fun j=>it f j d
@[simp] theorem P5(f:Int->Int)(d:Int)(k:Nat):(IH f d k).length=k:=by simp[IH]
noncomputable def gn(m:Mp):Nat:=(2*bj (Reach m.g.E) m.g.V+m.g.E.length-(alone m.g+m.g.V.length+bj (Orb (fc m m.g.E)) (bA m.g.E))) / 2
theorem bZ.gn{m:Mp}(h:bZ m):2*bj (Reach m.g.E) m.g.V+m.g.E.length=2*gn m+alone m.g+m.g.V.length+bj (Orb (fc m m.g.E)) (bA m.g.E):=by
 obtain⟨k,a⟩:=h.euler;have:Aw.gn m=k:=by unfold Aw.gn;omega
 omega
section
variable {m:Mp} (h:bZ m)
include h
end
def CC(m:Mp)(x y:Int):Prop:=x=y\/∃ v w,x∈ends m.g.E v/\y∈ends m.g.E w/\Reach m.g.E v w
theorem CC.eqv{m:Mp}(h:bZ m):gh (CC m):=by
 refine⟨fun x=>.inl rfl,?_,?_⟩
 .rintro x y (rfl|⟨v,w,a,b,c⟩)
  .exact .inl rfl
  .exact .inr ⟨w,v,b,a,c.symm⟩
 .rintro x y z (rfl|⟨v,w,a,b,c⟩) (rfl|⟨k,j,d,e,f⟩)
  .exact .inl rfl
  .exact .inr ⟨k,j,d,e,f⟩
  .exact .inr ⟨v,w,a,b,c⟩
  .have:=eD h.g.ids b d;subst this;exact .inr ⟨v,j,a,e,c.trans f⟩
theorem KS{C:Int->Int->Prop}(e:gh C){l:PP}:∀(t:PP) (x:Int),x∈t->(∀ y∈t,∀ z∈t,C y z)->bj C (t++l)=bj C l+@ite Nat (∃ y∈l,C y x) (Classical.propDecidable _) 0 1
 |[],x,c,_=>by grind
 |[z],x,c,_=>by rw[bi]at c;subst c;rfl
 |z::a::t,x,c,hall=>by
  have j:=KS e (l:=l) (a::t) a ar (fun y b w h=>hall y (aq _ b) w (aq _ h));have d:C a x:=hall a Y x c;rw[List.cons_append,bD ⟨a,Y,hall a Y z Y⟩,j]
  congr 1
  by_cases g:∃ y∈l,C y a
  .obtain⟨y,b,f⟩:=g;rw[ac ⟨y,b,f⟩,ac ⟨y,b,e.trans f d⟩]
  .rw[aa g,aa];rintro⟨y,b,f⟩;exact g ⟨y,b,e.trans f (e.symm d)⟩
theorem KX{R C:Int->Int->Prop}(l:gh C):∀(L:List (Int×PP)),(∀ p∈L,∀ q∈L,∀ x∈p.2,∀ y∈q.2,(C x y↔R p.1 q.1))->(∀ p∈L,R p.1 p.1)->L.Pairwise (fun p q=>(p.2=[]\/q.2=[])->¬R q.1 p.1)->
 bj R (L.map (·.1))=bj C (L.map (·.2)).flatten+(L.filter fun p=>decide (p.2=[])).length
 |[],_,_,_=>rfl
 |(v,t)::L,h1,h3,h2=>by
  rw[kk]at h2;have m:=KX l L (fun p g q b=>h1 p (aq _ g) q (aq _ b)) (fun p g=>h3 p (aq _ g)) h2.2;simp only[ax,List.flatten_cons];by_cases o:t=[]
  .grind [aQ]
  .obtain⟨x,j⟩:=gv t o;have a:(v,t)∈(v,t)::L:=ar;rw[KS l t x j (fun y c z w=>(h1 _ a _ a y c z w).2 (h3 _ a))];have hf:((v,t)::L).filter (fun p=>decide (p.2=[]))=L.filter (fun p=>decide (p.2=[])):=by rw[qd,aa (by grind)]
   rw[hf];by_cases d:∃ u∈L.map (·.1),R u v
   .rw[bD d,m,ac]
    .omega
    .obtain⟨u,r,f⟩:=d;obtain⟨q,b,rfl⟩:=ao.1 r;have h:q.2≠[]:=fun e=>h2.1 q b (.inr e) f;obtain⟨y,c⟩:=gv q.2 h;exact⟨y,fI.2 ⟨q.2,ao.2 ⟨q,b,rfl⟩,c⟩,(h1 q (aq _ b) _ a y c x j).2 f⟩
   .rw[aQ d,m,aa]
    .omega
    .rintro⟨y,c,f⟩;obtain⟨s,n,k⟩:=fI.1 c;obtain⟨q,b,rfl⟩:=ao.1 n;exact d ⟨q.1,ao.2 ⟨q,b,rfl⟩,(h1 q (aq _ b) _ a y k x j).1 f⟩
def AY{a:QR}{v w:Int}(b:nbr a v=[])(h:Reach a v w):v=w:=by
 induction h with
 |refl=>rfl
 |step _ c d=>grind
section
variable {m:Mp} (h:bZ m)
include h
theorem bZ.ncl_parts:bj (Reach m.g.E) m.g.V=bj (CC m) (bA m.g.E)+alone m.g:=by
 have o:∀ p∈m.g.V.zip m.rots,∃ k,∃ c:k<m.g.V.length,∃ n:k<m.rots.length,p=(m.g.V[k],m.rots[k]):=by intro p B;obtain⟨k,z,rfl⟩:=er B;rw[xr]at z;exact⟨k,O,O,by grind⟩
 have d:∀ k (c:k<m.g.V.length) (n:k<m.rots.length),IW m.g.E m.g.V[k] m.rots[k]:=fun k c n=>by
  have:=h.ok k c
  grind
 have s:=KX (R:=Reach m.g.E) (CC.eqv h) (m.g.V.zip m.rots) (fun p B q I x J y K=>?_) (fun p _=>.refl) ?_
 .rw[AN (by rw[h.len];omega),xc (by rw[h.len];omega)]at s;rw[s,yO (CC.eqv h) h.lW]
  congr 1
  have S:((m.g.V.zip m.rots).filter fun p=>decide (p.2=[])).length=(m.rots.filter fun t=>decide (t=[])).length:=by
   have D:m.rots.filter (fun t=>decide (t=[]))=((m.g.V.zip m.rots).filter fun p=>decide (p.2=[])).map (·.2):=by
    conv=>lhs;rw[<- xc (l₁:=m.g.V) (l₂:=m.rots) (by rw[h.len];omega)]
    rw[List.filter_map];rfl
   rw[D,du]
  have T:=filter_eq (fun t=>decide (t=[])) (fun v=>!decide (nbr m.g.E v=[])) m.rots m.g.V h.len fun k c n=>by
   have z:=d k n c;have U:m.rots[k]=[]↔nbr m.g.E m.g.V[k]=[]:=by
    rw[<- xJ];constructor
    .intro C;have:=z.1;simp_all
    .intro C;have:=z.1;simp_all
   grind
  have W:alone m.g+m.g.V.countP (fun v=>!decide (nbr m.g.E v=[]))=m.g.V.length:=by
   unfold alone;rw[List.length_eq_countP_add_countP (fun v=>decide (nbr m.g.E v=[])) (l:=m.g.V)]
   congr 1
   congr 1
   funext v
   simp
  have:=h.len;omega
 .obtain⟨j,L,M,rfl⟩:=o p B;obtain⟨k,N,P,rfl⟩:=o q I;have e:=(d j L M).1.mem_iff.1 J;have f:=(d k N P).1.mem_iff.1 K;constructor
  .rintro(rfl|⟨v,w,c,n,C⟩)
   .rw[eD h.g.ids e f];exact .refl
   .rw[eD h.g.ids e c,eD h.g.ids f n];omega
  .intro A;exact .inr ⟨_,_,e,f,A⟩
 .rw[fD];intro a b F H Q;rw[xr]at F H;rw[vk,vk];simp only;intro r A;have dS:=fD.1 h.g.rise a b O O Q;rcases r with r|r
  .have c:=(d a O O).1;rw[r]at c;have:=AY ((xJ _ _).1 c.symm.eq_nil) A.symm;omega
  .have c:=(d b O O).1;rw[r]at c;have:=AY ((xJ _ _).1 c.symm.eq_nil) A;omega
variable {R:List (List Int)} (hR:NT m R) (hb:∀ x∈m.g.E,Ix R (2*x.id)≠Ix R (2*x.id+1))
include hR hb
end
section
variable {m:Mp} (h:bZ m)
include h
end
section
variable {m:Mp} (h:bZ m)
include h
theorem bZ.it_v{v d:Int}(a:d∈ends m.g.E v):∀ n,it (sg m) n d∈ends m.g.E v
 |0=>a
 |n+1=>by rw[bI];exact h.sg_at_v (bZ.it_v a n)
theorem bZ.sg_orb{v d e:Int}(o:d∈ends m.g.E v)(p:e∈ends m.g.E v):∃ n,it (sg m) n d=e:=by
 obtain⟨t,b,a⟩:=h.turn_of (oI o);have f:e∈t:=by obtain⟨k,_,_,c,_⟩:=h.turn b;have:=eD h.g.ids (c.mem_iff.1 a) o;rw[this]at c;exact c.mem_iff.2 p
 have j:∀ n,it (sg m) n d=it (nx t) n d/\it (sg m) n d∈t:=fun n=>by
  induction n with
  |zero=>exact⟨rfl,a⟩
  |succ n l=>rw[bI,bI,<- l.1];exact⟨FL h b l.2,h.sg_mem b l.2⟩
 obtain⟨n,q⟩:=Mk (h.nodup b) a f;exact⟨n,by rw[(j n).1,q]⟩
end
theorem BS{R d:Int->Int->Prop}{b:Int->Int}:∀ {l:PP},(∀ x∈l,∀ y∈l,d (b x) (b y)↔R x y)->bj d (l.map b)=bj R l
 |[],_=>rfl
 |x::l,h=>by
  have e:=BS (l:=l) fun y a z c=>h y (aq _ a) z (aq _ c);rw[ax];by_cases k:∃ y∈l,R y x
  .rw[bD k,bD,e];obtain⟨y,a,k⟩:=k;exact⟨b y,dd a,(h y (aq _ a) x ar).2 k⟩
  .rw[aQ k,aQ,e];rintro⟨z,c,q⟩;obtain⟨y,a,rfl⟩:=ao.1 c;exact k ⟨y,a,(h y (aq _ a) x ar).1 q⟩
section
variable {D:List Int} {f f' κ:Int->Int} (hf:cK D f) (hk:∀ x∈D,∀ y∈D,κ x=κ y->x=y) (hf':∀ x∈D,f' (κ x)=κ (f x))
include hf hk hf'
theorem Bk{x y:Int}(c:x∈D)(d:y∈D):Orb f' (κ x) (κ y)↔Orb f x y:=by
 have a:∀ n,it f' n (κ x)=κ (it f n x)/\it f n x∈D:=fun n=>by
  induction n with
  |zero=>exact⟨rfl,c⟩
  |succ n b=>rw[bI,bI,b.1];exact⟨hf' _ b.2,hf.mem _ b.2⟩
 exact⟨fun⟨n,h⟩=>⟨n,hk _ (a n).2 _ d ((a n).1.symm.trans h)⟩,fun⟨n,h⟩=>⟨n,by rw[(a n).1,h]⟩⟩
theorem NQ:∀ {P:QP},dH D P->∀ x∈D,ce f' (P.map fun p=>(κ p.1,κ p.2)) (κ x)=κ (ce f P x)
 |[],_,x,hx=>hf' x hx
 |p::P,hP,x,hx=>by
  have a:=hP p ar;show ce f' _ (Eu.sw (κ p.1) (κ p.2) (κ x))=κ (ce f P (Eu.sw p.1 p.2 x));have:Eu.sw (κ p.1) (κ p.2) (κ x)=κ (Eu.sw p.1 p.2 x)/\Eu.sw p.1 p.2 x∈D:=by
   have:=hk x hx p.1 a.1;have:=hk x hx p.2 a.2.1;unfold Eu.sw
   grind
  rw[this.1];exact NQ (fun q b=>hP q (aq _ b)) _ this.2
theorem OO:∀ {P:QP},dH D P->∀ x∈D,∀ y∈D,(cw (Orb f') (P.map fun p=>(κ p.1,κ p.2)) (κ x) (κ y)↔cw (Orb f) P x y)
 |[],_,x,hx,y,hy=>Bk hf hk hf' hx hy
 |p::P,hP,x,hx,y,hy=>by have a:=OO (P:=P) fun q c=>hP q (aq _ c);have b:=hP p ar;show Mg _ (κ p.1) (κ p.2) _ _↔Mg _ _ _ _ _;unfold Mg;rw[a x hx y hy,a x hx _ b.1,a _ b.2.1 y hy,a x hx _ b.2.1,a _ b.1 y hy]
theorem Su{P:QP}(a:dH D P)(h:Flat D f P):Flat (D.map κ) f' (P.map fun p=>(κ p.1,κ p.2)):=by have b:=fQ hf P fun q b=>⟨(a q b).1,(a q b).2.1⟩;unfold Flat at *;rw[BS (OO hf hk hf' a),BS fun x c y d=>Bk hf hk hf' c d,BS fun x c y d=>Bk b hk (NQ hf hk hf' a) c d,du];exact h
end
def HW(H:BlE E){D:PP}{s:Int->Int}(r:cK D s)(δ:Int×Int->Int)(I:∀ p:Int×Int,(∃ e∈E,ae e=bk p)->δ p∈D)(U:∀ p q:Int×Int,(∃ e∈E,ae e=bk p)->(∃ e∈E,ae e=bk q)->δ p=δ q->p=q)
 (W:∀ p q:Int×Int,(∃ e∈E,ae e=bk p)->(∃ e∈E,ae e=bk q)->(Orb s (δ p) (δ q)↔p.1=q.1)) (hf:Flat D s (E.map fun e=>(δ (e.a,e.b),δ (e.b,e.a)))):∃ F S,PlD E F S/\∀ x∈S,x∈cf (cx E)\/x<0:=by
 have Q:∀ p:Int×Int,(∃ e∈E,ae e=bk p)->(0<=p.1/\p.1<4194304)/\(0<=p.2/\p.2<4194304)/\p.1≠p.2:=fun p ⟨e,l,j⟩=>by
  have o:=bN (x:=e.a) (y:=e.b) l rfl;have N:=H.bnd _ o.1;have B:=H.bnd _ o.2;have P:=H.ne e l;rcases aN j with⟨t,v⟩|⟨t,v⟩
  .rw[<- t,<- v];exact⟨N,B,P⟩
  .rw[<- t,<- v];exact⟨B,N,jk P⟩
 have A:∀ e∈E,(∃ f∈E,ae f=bk (e.a,e.b))/\∃ f∈E,ae f=bk (e.b,e.a):=fun e l=>⟨⟨e,l,rfl⟩,e,l,aH _ _⟩;obtain⟨c,C,V⟩:∃ c:Int->Int,(∀ p:Int×Int,(∃ e∈E,ae e=bk p)->c (δ p)=cd p)/\∀ d,(¬∃ p:Int×Int,(∃ e∈E,ae e=bk p)/\δ p=d)->c d=if 0<=d then -2*d-1 else 2*d:=by
  refine⟨fun d=>open Classical in if h:∃ p:Int×Int,(∃ e∈E,ae e=bk p)/\δ p=d then cd h.choose else if 0<=d then -2*d-1 else 2*d,fun p j=>?_,fun d g=>?_⟩
  .have h:∃ q:Int×Int,(∃ e∈E,ae e=bk q)/\δ q=δ p:=⟨p,j,rfl⟩;simp only[ry h];rw[U _ _ h.choose_spec.1 j h.choose_spec.2]
  .simp only[dif_neg g]
 have R:∀ d,(∃ p:Int×Int,(∃ e∈E,ae e=bk p)/\δ p=d/\c d=cd p/\0<=cd p)\/(c d=(if 0<=d then -2*d-1 else 2*d)/\c d<0):=fun d=>by
  by_cases h:∃ p:Int×Int,(∃ e∈E,ae e=bk p)/\δ p=d
  .obtain⟨p,j,rfl⟩:=h;have:=Q p j;exact .inl ⟨p,j,rfl,C p j,by unfold cd;omega⟩
  .refine .inr ⟨V d h,?_⟩;rw[V d h];split<;>omega
 have m:∀ x∈D,∀ y∈D,c x=c y->x=y:=fun x _ y _ e=>by
  rcases R x with⟨p,j,rfl,o,N⟩|⟨o,N⟩<;>rcases R y with⟨q,w,rfl,B,P⟩|⟨B,P⟩
  .rw[dX (Q p j).2.1 (Q q w).2.1 (o.symm.trans (e.trans B))]
  .omega
  .omega
  .rw[o,B]at e
   split at e<;>split at e<;>omega
 obtain⟨F,z,M⟩:∃ F:Int->Int,(∀ d∈D,F (c d)=c (s d))/\∀ x,x∉D.map c->F x=x:=by
  refine⟨fun x=>open Classical in if h:∃ d∈D,c d=x then c (s h.choose)else x,fun d g=>?_,fun x n=>?_⟩
  .have h:∃ e∈D,c e=c d:=⟨d,g,rfl⟩;simp only[ry h];rw[m _ h.choose_spec.1 d g h.choose_spec.2]
  .exact dif_neg fun⟨d,g,e⟩=>n (ao.2 ⟨d,g,e⟩)
 have J:dH D (E.map fun e=>(δ (e.a,e.b),δ (e.b,e.a))):=fun q w=>by obtain⟨e,l,rfl⟩:=ao.1 w;exact⟨I _ (A e l).1,I _ (A e l).2,fun k=>H.ne e l (congrArg Prod.fst (U _ _ (A e l).1 (A e l).2 k))⟩
 refine⟨F,D.map c,⟨H,⟨fun x n=>?_,fun x y e=>?_,M⟩,fun p j=>?_,fun p q j w=>?_,?_⟩,fun x n=>?_⟩
 .obtain⟨d,g,rfl⟩:=ao.1 n;rw[z d g];exact dd (r.mem d g)
 .by_cases n:x∈D.map c<;>by_cases L:y∈D.map c
  .obtain⟨d,g,rfl⟩:=ao.1 n;obtain⟨T,K,rfl⟩:=ao.1 L;rw[z d g,z T K]at e;rw[r.inj _ _ (m _ (r.mem d g) _ (r.mem T K) e)]
  .obtain⟨d,g,rfl⟩:=ao.1 n;rw[z d g,M y L]at e;exact absurd (e ▸ dd (r.mem d g)) L
  .obtain⟨d,g,rfl⟩:=ao.1 L;rw[z d g,M x n]at e;exact absurd (e ▸ dd (r.mem d g)) n
  .rw[M x n,M y L]at e;exact e
 .exact ao.2 ⟨δ p,I p j,C p j⟩
 .rw[<- C p j,<- C q w,Bk r m z (I p j) (I q w)];exact W p q j w
 .have:=Su r m z J hf;have e:(E.map fun e=>(δ (e.a,e.b),δ (e.b,e.a))).map (fun p=>(c p.1,c p.2))=cx E:=by unfold cx;rw[dC];exact jf fun e l=>by simp only[Function.comp];rw[C _ (A e l).1,C _ (A e l).2]
  rwa [e]at this
 .obtain⟨d,g,rfl⟩:=ao.1 n;rcases R d with⟨p,⟨e,l,j⟩,_,o,_⟩|⟨_,h⟩
  .left;rw[o];refine bK.2 ⟨_,dd l,?_⟩;rcases aN j with⟨t,v⟩|⟨t,v⟩
   .exact .inl (by rw[t,v])
   .exact .inr (by rw[t,v])
  .exact .inr h
def j4(a:QR):QP:=a.map fun e=>(2*e.id,2*e.id+1)
def NG(a:QR):cf (j4 a)=bA a:=by unfold cf j4 bA;rw[List.flatMap_map]
section
variable {m:Mp} (h:bZ m)
include h
theorem bZ.sg_permOn:cK (bA m.g.E) (sg m):=⟨fun _=>h.sg_dart,fun _ _=>h.sg_inj,fun _=>h.sg_id⟩
theorem bZ.prD_in{E:QR}(a:∀ e∈E,e∈m.g.E):dH (bA m.g.E) (j4 E):=fun p c=>by obtain⟨e,b,rfl⟩:=ao.1 c;exact⟨dY.2 ⟨e,a e b,.inl rfl⟩,dY.2 ⟨e,a e b,.inr rfl⟩,by simp only;omega⟩
theorem bZ.at_orb{v d e:Int}(a:d∈ends m.g.E v)(b:e∈ends m.g.E v):Orb (sg m) d e:=h.sg_orb a b
theorem bZ.flat(Q:Aw.gn m=0):Flat (bA m.g.E) (sg m) (j4 m.g.E):=by
 have I:(cf (j4 m.g.E)).Nodup:=by rw[NG];exact jS (rV h.g.ids)
 have M:=h.gn;have N:=h.ncl_sg;have P:=h.ncl_parts;have f:=cO h.sg_permOn.per.eqv (j4 m.g.E);have F:ce (sg m) (j4 m.g.E)=fc m m.g.E:=funext fun d=>by
  unfold fc;by_cases k:d∈bA m.g.E
  .rw[FQ k];obtain⟨x,c,e⟩:=dY.1 k;have:=lE (sg m) I (2*x.id,2*x.id+1) (ao.2 ⟨x,c,rfl⟩);unfold tw;rcases e with rfl|rfl
   .rw[this.1,ac O]
   .rw[this.2,aa O];congr 1;omega
  .rw[wU k,lT];rintro p t;obtain⟨x,c,rfl⟩:=ao.1 t;exact⟨fun e=>k (dY.2 ⟨x,c,.inl e⟩),fun e=>k (dY.2 ⟨x,c,.inr e⟩)⟩
 have H:bj (cw (Orb (sg m)) (j4 m.g.E)) (bA m.g.E)=bj (CC m) (bA m.g.E):=by
  refine dA fun x c y K=>⟨lF (CC.eqv h) (fun x y k=>?_) (fun p t=>?_) x y,fun k=>?_⟩
  .by_cases q:x∈bA m.g.E
   .obtain⟨n,rfl⟩:=k;obtain⟨v,C,_⟩:=Ge q;exact .inr ⟨v,v,C,h.it_v C n,.refl⟩
   .obtain⟨n,rfl⟩:=k;have:it (sg m) n x=x:=by
     induction n with
     |zero=>rfl
     |succ n l=>rw[bI,l];exact h.sg_id q
    exact .inl this.symm
  .obtain⟨x,c,rfl⟩:=ao.1 t;exact .inr ⟨x.a,x.b,cU.2 ⟨x,c,.inl ⟨rfl,rfl⟩⟩,cU.2 ⟨x,c,.inr ⟨rfl,rfl⟩⟩,.step .refl (cI.2 ⟨x,c,.inl ⟨rfl,rfl⟩⟩)⟩
  .rcases k with rfl|⟨v,w,L,D,r⟩
   .exact f.refl _
   .have:∀ y,y∈ends m.g.E w->cw (Orb (sg m)) (j4 m.g.E) x y:=by
     clear D K;induction r with
     |refl=>exact fun y o=>gC _ (h.at_orb L o)
     |@step u w r J l=>
      intro y o;obtain⟨e,j,k⟩:=cI.1 J;have B:=gV h.sg_permOn.per.eqv (j4 m.g.E) (p:=(2*e.id,2*e.id+1)) (ao.2 ⟨e,j,rfl⟩);rcases k with⟨z,A⟩|⟨z,A⟩
      .have s:=l (2*e.id) (cU.2 ⟨e,j,.inl ⟨z,rfl⟩⟩);exact f.trans (f.trans s B) (gC _ (h.at_orb (cU.2 ⟨e,j,.inr ⟨A,rfl⟩⟩) o))
      .have s:=l (2*e.id+1) (cU.2 ⟨e,j,.inr ⟨z,rfl⟩⟩);exact f.trans (f.trans s (f.symm B)) (gC _ (h.at_orb (cU.2 ⟨e,j,.inl ⟨A,rfl⟩⟩) o))
    exact this y D
 unfold Flat;rw[F,H,show(j4 m.g.E).length=m.g.E.length by unfold j4;rw[du]];omega
theorem bZ.plE(S:Aw.gn m=0){E:QR}(w:∀ e∈E,e∈m.g.E)(N:E.Nodup)(z:BlE E):∃ s,PlE E s:=by
 have l:=h.flat S;have C:(cf (j4 m.g.E)).Nodup:=by rw[NG];exact jS (rV h.g.ids)
 have A:m.g.E.Nodup:=h.g.ids.imp fun k e=>by rw[e]at k;omega
 obtain⟨R,M⟩:∃ R,m.g.E.Perm (R++E):=by
  refine⟨m.g.E.filter fun e=>decide (e∉E),(jd A ?_).2 fun e=>?_⟩
  .grind
  .grind
 have B:=DI h.sg_permOn (Q:=j4 R) (P:=j4 E) (fun p j=>h.prD_in (fun e c=>c) p (by
  have:=(M.map fun e:Ed=>(2*e.id,2*e.id+1)).mem_iff (a:=p);rw[cz]at this
  exact this.2 j)) (Aw.lW h.sg_permOn C (by have:=M.map fun e:Ed=>(2*e.id,2*e.id+1);rw[cz]at this;exact this) l)
 have o:∀ e∈E,∀ f∈E,ae e=ae f->e=f:=fun e c f hf k=>eZ z.sim c hf k;obtain⟨δ,r⟩:∃ δ:Int×Int->Int,∀ e∈E,δ (e.a,e.b)=2*e.id/\δ (e.b,e.a)=2*e.id+1:=by
  refine⟨fun p=>match E.find? (fun e=>decide (ae e=bk p)) with
   |some e=>if p.1=e.a then 2*e.id else 2*e.id+1
   |none=>0,fun e c=>?_⟩
  have hf:∀ p:Int×Int,ae e=bk p->E.find? (fun e=>decide (ae e=bk p))=some e:=fun p j=>by
   cases H:E.find? (fun e=>decide (ae e=bk p)) with
   |none=>have:=sT.1 H e c;simp[j]at this
   |some f=>have t:=rl H;simp only[jv]at t;rw[o f (qq H) e c (t.trans j.symm)]
  simp only;rw[hf _ rfl,hf (e.b,e.a) (aH _ _)];simp only;rw[aa (jk (z.ne e c))];exact⟨ac trivial,rfl⟩
 have d:∀ p:Int×Int,(∃ e∈E,ae e=bk p)->∃ e∈E,(p=(e.a,e.b)/\δ p=2*e.id\/p=(e.b,e.a)/\δ p=2*e.id+1)/\δ p∈ends m.g.E p.1:=fun p ⟨e,c,q⟩=>by
  obtain⟨u,v⟩:=p;rcases aN q with⟨I,J⟩|⟨I,J⟩
  .subst I J;exact⟨e,c,.inl ⟨rfl,(r e c).1⟩,cU.2 ⟨e,w e c,.inl ⟨rfl,(r e c).1⟩⟩⟩
  .subst I J;exact⟨e,c,.inr ⟨rfl,(r e c).2⟩,cU.2 ⟨e,w e c,.inr ⟨rfl,(r e c).2⟩⟩⟩
 obtain⟨s,D,t,_⟩:=HW z h.sg_permOn δ (fun p j=>by obtain⟨e,c,_,k⟩:=d p j;exact oI k) (fun p q j F k=>by
  obtain⟨e,c,x,_⟩:=d p j;obtain⟨f,hf,y,_⟩:=d q F;have:e.id=f.id:=O;have:=id_eq h.g.ids (w e c) (w f hf) this;subst this;rcases x with⟨K,T⟩|⟨K,T⟩<;>rcases y with⟨L,U⟩|⟨L,U⟩
  .rw[K,L]
  .omega
  .omega
  .rw[K,L]) (fun p q j F=>by
  obtain⟨e,c,_,x⟩:=d p j;obtain⟨f,hf,_,y⟩:=d q F;constructor
  .rintro⟨n,C⟩;exact eD h.g.ids (h.it_v x n) (C ▸ y)
  .intro k
   exact h.at_orb x (k ▸ y)) (by
  have e:E.map (fun e=>(δ (e.a,e.b),δ (e.b,e.a)))=j4 E:=jf fun e c=>by rw[(r e c).1,(r e c).2]
  rw[e];exact B)
 exact⟨s,D,t⟩
end
def Nx(s:Int->Int)(S:PP)(d e:Int):Prop:=∃ k,it s k d=e/\e∈S/\∀ j,j<k->it s j d∉S
section
variable {s:Int->Int} {S S':List Int} {d e e' n c:Int}
theorem Nx.here(h:d∈S):Nx s S d d:=⟨0,rfl,h,fun j a=>absurd a (vp j)⟩
theorem Nx.mem(h:Nx s S d e):e∈S:=by obtain⟨_,_,h,_⟩:=h;exact h
theorem Nx.orb(h:Nx s S d e):Orb s d e:=by obtain⟨k,h,_⟩:=h;exact⟨k,h⟩
theorem Nx.fn(h:Nx s S d e)(o:Nx s S d e'):e=e':=by
 obtain⟨k,a,f,g⟩:=h;obtain⟨l,b,j,m⟩:=o;rcases lh k l with h|h|h
 .exact absurd (by rw[a];exact f) (m k h)
 .rw[<- a,<- b,h]
 .exact absurd (by rw[b];exact j) (g l h)
theorem Nx.of_mem(a:d∈S)(h:Nx s S d e):e=d:=h.fn (.here a)
theorem Nx.up(g:d∉S)(h:Nx s S d e):Nx s S (s d) e:=by
 obtain⟨k,a,b,f⟩:=h;cases k with
 |zero=>exact absurd (by rw[show d=e from a];exact b) g
 |succ k=>exact⟨k,a,b,fun j l=>f (j+1) O⟩
theorem Nx.ex{a:Int}(h:Orb s d a)(g:a∈S):∃ e,Nx s S d e:=by obtain⟨n,h⟩:=h;obtain⟨m,b,f⟩:=least (P:=fun k=>it s k d∈S) (n:=n) (by rw[h];exact g);exact⟨_,m,rfl,b,f⟩
theorem Nx.loop(h:Nx s S (s d) d)(g:e∈S)(k:Orb s d e):e=d:=by
 have f:∀ n z,Nx s S z d->Nx s S (it s n z) d:=by
  intro n;induction n with
  |zero=>intro z a;exact a
  |succ n l=>
   intro z a;refine l (s z) ?_;by_cases b:z∈S
   .rw[<- a.of_mem b];exact h
   .exact a.up b
 obtain⟨n,j⟩:=k;have:=f n d (.here h.mem);rw[j]at this;exact(this.of_mem g).symm
theorem Nx.cmp(g:∀ x y,s x=s y->x=y){z:Int}(h:Nx s S z e)(p:Nx s S d e):(∃ j,it s j z=d/\∀ i,i<j->it s i z∉S)\/∃ j,it s (j+1) d=z/\∀ i,i<j+1->it s i d∉S:=by
 obtain⟨k,b,q,m⟩:=h;obtain⟨l,f,r,o⟩:=p;by_cases t:l<=k
 .refine .inl ⟨k-l,LW g l ?_,fun i a=>m i O⟩;rw[<- mZ,show l+(k-l)=k by omega,b,f]
 .refine .inr ⟨l-k-1,LW g k ?_,fun i a=>o i O⟩;rw[<- mZ,show k+(l-k-1+1)=l by omega,b,f]
theorem Nx.same(b:∀ x,Orb s d x->(x∈S↔x∈S'))(h:Nx s S d e):Nx s S' d e:=by obtain⟨k,a,f,g⟩:=h;exact⟨k,a,(b e ⟨k,a⟩).1 f,fun j l h=>g j l ((b _ ⟨j,rfl⟩).2 h)⟩
end
section
variable {s:Int->Int} {S S':List Int} {n e0:Int} (hp:Per s) (hS:∀ x,Orb s n x->(x∈S'↔x∈S\/x=n)) (hn:n∉S) (h0:Nx s S n e0)
include hS h0
theorem Nx.back{d e:Int}(m:Orb s n d)(h:Nx s S' d e):(e=n/\Nx s S d e0)\/(e≠n/\Nx s S d e):=by
 obtain⟨k,b,o,p⟩:=h;have f:∀ j,j<k->it s j d∉S:=fun j g h=>p j g ((hS _ (m.trans ⟨j,rfl⟩)).2 (.inl h));by_cases a:e=n
 .refine .inl ⟨a,?_⟩;obtain⟨l,q,r,t⟩:=h0;refine⟨l+k,by rw[mZ,b,a,q],r,fun j g=>?_⟩;by_cases c:j<k
  .exact f j c
  .have:it s j d=it s (j-k) n:=by rw[<- a,<- b,<- mZ];congr 1;omega
   rw[this];exact t _ O
 .exact .inr ⟨a,k,b,((hS e (m.trans ⟨k,b⟩)).1 o).resolve_right a,f⟩
include hp hn
theorem Nx.add_of:Nx s S' (s n) e0:=by
 have b:Nx s S (s n) e0:=h0.up hn;have a:Orb s n (s n):=Orb.step s n;have c:n∈S':=(hS n (Orb.refl s n)).2 (.inr rfl);obtain⟨f,hf⟩:=Nx.ex (S:=S') (Orb.symm hp a) c;rcases Nx.back hS h0 a hf with⟨rfl,_⟩|⟨_,k⟩
 .have:=hf.loop ((hS e0 h0.orb).2 (.inl h0.mem)) h0.orb;exact absurd (this ▸ h0.mem) hn
 .rw[b.fn k];exact hf
theorem Nx.add_at{c:Int}(o:c∈S)(p:Orb s n c)(h:Nx s S (s c) e0):Nx s S' (s c) n:=by
 have b:Orb s n (s c):=p.trans (Orb.step s c);have m:n∈S':=(hS n (Orb.refl s n)).2 (.inr rfl);obtain⟨f,hf⟩:=Nx.ex (S:=S') (Orb.symm hp b) m;rcases Nx.back hS h0 b hf with⟨rfl,_⟩|⟨Tv,k⟩
 .exact hf
 .have e:=h.fn k;subst e;exfalso;rcases Nx.cmp (fun x y=>hp.inj) h h0 with⟨j,d,g⟩|⟨j,d,g⟩
  .obtain⟨q,l,t,r⟩:=hf;rcases lh j q with a|a|a
   .exact r j a (by rw[d];exact m)
   .rw[<- a,d]at l;exact Tv l.symm
   .exact g q a (by rw[l];exact h0.mem)
  .have:it s j n=c:=by rw[bI]at d;exact hp.inj d
   exact g j O (by rw[this];exact o)
theorem Nx.add_other{c e:Int}(g:Orb s n c)(h:Nx s S (s c) e)(b:e≠e0):Nx s S' (s c) e:=by
 have a:Orb s n (s c):=g.trans (Orb.step s c);have d:n∈S':=(hS n (Orb.refl s n)).2 (.inr rfl);obtain⟨f,hf⟩:=Nx.ex (S:=S') (Orb.symm hp a) d;rcases Nx.back hS h0 a hf with⟨rfl,k⟩|⟨_,k⟩
 .exact absurd (h.fn k) b
 .rw[h.fn k];exact hf
end
theorem eR:∀ {l:PP},l.Nodup->∀ {a b b':Int},(a,b)∈ad l->(a,b')∈ad l->b=b'
 |[],_,_,_,_,h,_=>by cases h
 |[_],_,_,_,_,h,_=>by cases h
 |x::y::l,hn,a,b,b',h,c=>by
  obtain⟨f,g⟩:=bw.1 hn;rcases ai.1 h with e|h
  .injection e with e1 e2;rcases ai.1 c with d|c
   .injection d with e3 e4;rw[e2,e4]
   .exact absurd (bC c).1 (by rw[e1];exact f)
  .rcases ai.1 c with d|c
   .injection d with e3 e4;exact absurd (bC h).1 (by rw[e3];exact f)
   .exact eR g h c
def sO:(a,b)∈ad l↔(b,a)∈ad l.reverse:=by
 rw[IU,iu,ao];constructor
 .intro h;exact⟨(a,b),h,rfl⟩
 .rintro⟨q,c,e⟩;have:q=(a,b):=by rw[<- lk q,e];rfl
  rw[<- this];exact c
def wI(e:l.Nodup){c:Int}(h:(a,b)∈ad l)(d:(c,b)∈ad l):a=c:=
 eR (l:=l.reverse) ((ik l).nodup_iff.2 e) (sO.1 h) (sO.1 d)
def iI{x:Int}:∀ {l:PP} {a b:Int},(a,b)∈ad (x::l)->b∈l
 |[],_,_,h=>by cases h
 |y::l,a,b,h=>by
  rcases ai.1 h with e|h
  .injection e with _ e;rw[e];exact ar
  .exact(bC h).2
def eO(h:(a,b)∈ad (l++[y])):a∈l:=by have:=sO.1 h;rw[Hd,List.reverse_singleton,List.singleton_append]at this;simpa using iI this
def fE.perm{B:QP}(h:fE E A)(a:A.Perm B):fE E B:=
 ⟨fun p k=>h.mem p (a.mem_iff.2 k),(a.map bk).nodup_iff.1 h.nd⟩
def gD:x∈cf (bm A)↔∃ p,(p∈A\/p.swap∈A)/\x=cd p:=by
 rw[bK];constructor
 .rintro⟨q,b,e⟩;obtain⟨p,a,rfl⟩:=ao.1 b;rcases e with e|e
  .exact⟨p,.inl a,e⟩
  .exact⟨p.swap,.inr (by rw[lk];exact a),e⟩
 .rintro⟨p,a|a,e⟩
  .exact⟨_,dd a,.inl e⟩
  .exact⟨_,dd a,.inr (by rw[lk];exact e)⟩
def HL{F:List PP}(l:(PF F).Nodup){c:PP}(j:r∈F)(b:c∈F)(h:p∈prs r)(g:p∈prs c):r=c:=by
 induction F with
 |nil=>cases j
 |cons t F m=>
  have a:(prs t++PF F).Nodup:=l;rw[bo]at a;rcases ai.1 j with e|k
  .rcases ai.1 b with d|f
   .rw[e,d]
   .exact absurd rfl (a.2.2 p (e ▸ h) p (bB.2 ⟨c,f,g⟩))
  .rcases ai.1 b with d|f
   .exact absurd rfl (a.2.2 p (d ▸ g) p (bB.2 ⟨r,k,h⟩))
   .exact m a.2.1 k f
structure Emb(E:QR)(s:Int->Int)(A:QP)(F:List PP):Prop where
 oU:fE E A
 nd:(PF F).Nodup
 simple:∀ r∈F,r.Nodup
 mem:∀ p,p∈PF F↔p∈A\/p.swap∈A
 step:∀ r∈F,∀ u v w,(u,v)∈prs r->(v,w)∈prs r->Nx s (cf (bm A)) (s (cd (v,u))) (cd (v,w))
 con:∀ x∈cf (bm A),∀ y∈cf (bm A),cw (Orb s) (bm A) x y
def SdT(s:Int->Int)(A:QP)(r:PP)(d:Int):Prop:=∃ p∈prs r,Nx s (cf (bm A)) d (cd p)
section
variable {E:List Ed} {s:Int->Int} (hP:PlE E s)
include hP
theorem PlE.cdin{p q:Int×Int}(a:∃ e∈E,ae e=bk p)(b:∃ e∈E,ae e=bk q)(h:cd p=cd q):p=q:=
 dX (hP.arc_bd a).2.1 (hP.arc_bd b).2.1 h
theorem PlE.orb{p q:Int×Int}(a:∃ e∈E,ae e=bk p)(b:∃ e∈E,ae e=bk q):Orb s (cd p) (cd q)↔p.1=q.1:=let ⟨_,k⟩:=hP;k.orb p q a b
theorem PlE.way:∀ {w:PP},(∀ u v,(u,v)∈ad w->∃ e∈E,ae e=aj u v)->Way s (bm (ad w))
 |[],_=>trivial
 |[_],_=>trivial
 |[_,_],_=>trivial
 |a::b::c::l,h=>by have g:=PlE.way (w:=b::c::l) fun u v k=>h u v (aq _ k);refine⟨?_,g⟩;have d:=h a b ar;have f:=h b c (aq _ ar);exact(hP.orb (p:=(b,a)) (q:=(b,c)) (by rw[show bk (b,a)=aj a b from aH _ _];exact d) f).2 rfl
variable {A:List (Int×Int)} {F:List (List Int)} (hE:Emb E s A F)
include hE
omit hP in
theorem Emb.dart{x:Int}:x∈cf (bm A)↔∃ p∈PF F,x=cd p:=by rw[gD];exact⟨fun⟨p,a,e⟩=>⟨p,(hE.mem p).2 a,e⟩,fun⟨p,a,e⟩=>⟨p,(hE.mem p).1 a,e⟩⟩
omit hP in
theorem Emb.sub{p:Int×Int}(h:p∈PF F):∃ e∈E,ae e=bk p:=by
 rcases(hE.mem p).1 h with h|h
 .exact hE.oU.mem p h
 .rw[<- gZ];exact hE.oU.mem _ h
omit hP in
theorem Emb.swap{p:Int×Int}(h:p∈PF F):p.swap∈PF F:=by rw[hE.mem]at h ⊢;rw[lk];exact h.symm
theorem Emb.at_iff{p:Int×Int}(b:∃ e∈E,ae e=bk p):cd p∈cf (bm A)↔p∈PF F:=by
 rw[hE.dart];constructor
 .rintro⟨q,a,e⟩;rw[hP.cdin b (hE.sub a) e];exact a
 .intro h;exact⟨p,h,rfl⟩
theorem Emb.closed{r:PP}(f:r∈F){d:Int}(h:SdT s A r d):SdT s A r (ce s (bm A) d):=by
 obtain⟨p,a,j⟩:=h;by_cases b:d∈cf (bm A)
 .have e:=j.of_mem b;rw[<- e];have c:p∈PF F:=bB.2 ⟨r,f,a⟩;have l:ce s (bm A) (cd p)=s (cd p.swap):=by
   rcases(hE.mem p).1 c with k|k
   .exact(lE s (hP.fl_nd hE.oU) (cd p,cd p.swap) (ao.2 ⟨p,k,rfl⟩)).1
   .exact(lE s (hP.fl_nd hE.oU) (cd p.swap,cd p) (ao.2 ⟨p.swap,k,by rw[lk]⟩)).2
  rw[l];obtain⟨w,g⟩:=gK (nY (x:=p.1) (y:=p.2) a).2;exact⟨(p.2,w),g,hE.step r f p.1 p.2 w a g⟩
 .rw[qI s b];exact⟨p,a,j.up b⟩
theorem Emb.orb{r:PP}(c:r∈F){d a:Int}(h:SdT s A r d)(b:Orb (ce s (bm A)) d a):SdT s A r a:=by
 obtain⟨n,rfl⟩:=b;induction n with
 |zero=>exact h
 |succ n e=>rw[bI];exact hE.closed hP c e
theorem Emb.ex{p:Int×Int}(c:∃ e∈E,ae e=bk p){u:Int}(b:(p.1,u)∈PF F):∃ r∈F,SdT s A r (cd p):=by obtain⟨e,a⟩:=Nx.ex (S:=cf (bm A)) ((hP.orb c (hE.sub b)).2 rfl) (hE.dart.2 ⟨_,b,rfl⟩);obtain⟨q,d,rfl⟩:=hE.dart.1 a.mem;obtain⟨r,f,k⟩:=bB.1 d;exact⟨r,f,q,k,a⟩
theorem Emb.fn{r b:PP}(g:r∈F)(a:b∈F){d:Int}(h:SdT s A r d)(j:SdT s A b d):r=b:=by obtain⟨p,e,k⟩:=h;obtain⟨q,f,l⟩:=j;have c:=hP.cdin (hE.sub (bB.2 ⟨r,g,e⟩)) (hE.sub (bB.2 ⟨b,a,f⟩)) (k.fn l);subst c;exact HL hE.nd g a e f
theorem Emb.here{r:PP}(c:r∈F){p:Int×Int}(b:∃ e∈E,ae e=bk p)(h:SdT s A r (cd p)):p.1∈r:=by obtain⟨q,a,d⟩:=h;rw[(hP.orb b (hE.sub (bB.2 ⟨r,c,a⟩))).1 d.orb];exact(nY (x:=q.1) (y:=q.2) a).1
structure WyE(E:QR)(F:List PP)(x y:Int)(M:PP):Prop where
 nd:(x::(M++[y])).Nodup
 ed:∀ u v,(u,v)∈ad (x::(M++[y]))->∃ e∈E,ae e=aj u v
 new:∀ p,p∈ad (x::(M++[y]))->p∉PF F
 off:∀ v∈M,∀ u,(v,u)∉PF F
 onx:∃ u,(x,u)∈PF F
 ony:∃ u,(y,u)∈PF F
omit hP in
theorem Emb.arcs_way{x y:Int}{M:PP}(g:WyE E F x y M):fE E (ad (x::(M++[y]))++A):=by
 refine⟨fun p f=>?_,?_⟩
 .rcases am.1 f with h|h
  .exact g.ed p.1 p.2 h
  .exact hE.oU.mem p h
 .rw[cz,bo];refine⟨?_,hE.oU.nd,fun a k b l e=>?_⟩
  .have:=gL g.nd;rw[fH]at this;exact this
  .obtain⟨p,f,rfl⟩:=ao.1 k;obtain⟨q,j,rfl⟩:=ao.1 l;refine g.new p f ((hE.mem p).2 ?_);rcases aN e with⟨c,d⟩|⟨c,d⟩
   .exact .inl (by rw[show p=q from jj c d];exact j)
   .exact .inr (by rw[show p.swap=q from jj d c];exact j)
theorem Emb.wayT{x y:Int}{M:PP}(g:WyE E F x y M){u t:Int}(S:(x,u)∈ad (x::(M++[y])))(L:(t,y)∈ad (x::(M++[y]))){r:PP}(hr:r∈F)(h:SdT s A r (cd (x,u))):SdT s A r (cd (y,t)):=by
 have hA:=hE.arcs_way g;obtain⟨N,H,hN⟩:∃ N H,x::M=N++[H]:=⟨(x::M).dropLast,(x::M).getLast Y,(lf _).symm⟩;have I:ad (x::(M++[y]))=ad (x::M)++[(H,y)]:=by rw[<- List.cons_append,hN,dw];exact fR H [y] N
 have P:t=H:=wI g.nd L (by rw[I];simp);subst P;have u6:(ad (x::(M++[y]))++A).Perm ((t,y)::(ad (x::M)++A)):=by rw[I,dw];exact mw
 have l:=hA.perm u6;have W:=(bw.1 g.nd).1;have X:y∉M:=fun k=>by have:=(bo.1 (bw.1 g.nd).2).2.2 y k y Y;exact this rfl
 have V:x∉M:=fun k=>W (dg _ k);have c:∀ p,p∈ad (x::(M++[y]))->∃ e∈E,ae e=bk p:=fun p j=>g.ed p.1 p.2 j;have f:∀ p,(∃ e∈E,ae e=bk p)->lz s (bm (ad (x::M))) (cd p)->p.1∈M:=by
  rintro p j ⟨q,hq,ho⟩;obtain⟨a,ha,rfl⟩:=ao.1 hq;have K:∃ e∈E,ae e=bk a.swap:=by rw[gZ];exact c a (by rw[I];exact dg _ ha)
  rw[<- (hP.orb K j).1 ho];exact iI (a:=a.1) (b:=a.2) ha
 obtain⟨ux,o⟩:=g.onx;obtain⟨uy,v⟩:=g.ony;have B:=c _ S;have C:∃ e∈E,ae e=bk (y,t):=by rw[show bk (y,t)=bk (t,y) from aH _ _];exact c _ L
 have n:=cO hP.per.eqv (bm A);obtain⟨D,J⟩:=id hP;refine hE.orb hP hr h (Iw (z:=(cd (t,y),cd (y,t))) (Q:=bm (ad (x::M))) J.perm ?_ ?_ (fun d hd k=>?_) (fun k=>?_) ?_ (fun k=>?_) ?_ ?_)
 .have:=hP.fl_nd l;have e:bm ((t,y)::(ad (x::M)++A))=(cd (t,y),cd (y,t))::(bm (ad (x::M))++bm A):=by unfold bm;rw[ax,cz];rfl
  rw[<- e];exact this
 .have:=hP.way (w:=x::(M++[y])) g.ed;rw[I]at this;have e:bm (ad (x::M)++[(t,y)])=bm (ad (x::M))++[(cd (t,y),cd (y,t))]:=by unfold bm;rw[cz];rfl
  rw[<- e];exact this
 .obtain⟨p,j,rfl⟩:=hE.dart.1 hd;exact g.off _ (f p (hE.sub j) k) p.2 j
 .exact X (f (y,t) C k)
 .cases hM:M with
  |nil=>
   subst hM;have U:u=y:=by
    rcases ai.1 S with e|e
    .injection e with _ e
    .cases e
   have R:t=x:=by
    rcases ai.1 L with e|e
    .injection e with e _
    .cases e
   exact .inl ⟨rfl,by rw[U,R]⟩
  |cons m M'=>subst hM;have T:u=m:=eR g.nd S (by simp[ad]);exact .inr ⟨(cd (x,m),cd (m,x)),bm (ad (m::M')),rfl,by rw[T]⟩
 .exact V (f (x,u) B k)
 .have:=hP.face l;have e:bm (ad (x::M)++A)=bm (ad (x::M))++bm A:=by unfold bm;rw[cz]
  rw[e]at this;exact this
 .refine n.trans (gC _ ((hP.orb B (hE.sub o)).2 rfl)) (n.trans (hE.con _ (hE.dart.2 ⟨_,o,rfl⟩) _ (hE.dart.2 ⟨_,v,rfl⟩)) (gC _ ((hP.orb (hE.sub v) C).2 rfl)))
end
def bH{P Q:PP}:p∈prs (x::(P++y::Q))↔p∈ad (x::(P++[y]))\/p∈ad (y::(Q++[x])):=by have:=(xD x y P Q []).mem_iff (a:=p);rw[am]at this;exact this
def jR:(a,b)∈ad (y::(M.reverse++[x]))↔(b,a)∈ad (x::(M++[y])):=by have e:y::(M.reverse++[x])=(x::(M++[y])).reverse:=Y;rw[e];exact sO.symm
section
variable {E:List Ed} {s:Int->Int} (hP:PlE E s) {A:List (Int×Int)} {F:List (List Int)} {x y:Int} {P Q M:List Int}
 (hE:Emb E s A ((x::(P++y::Q))::F)) (hw:WyE E ((x::(P++y::Q))::F) x y M) {u t:Int} (hu:(x,u)∈ad (x::(M++[y]))) (ht:(t,y)∈ad (x::(M++[y])))
include hE hw
theorem Cw:x∉M/\y∉M/\x≠y:=by obtain⟨a,b⟩:=bw.1 hw.nd;refine⟨fun k=>a (dg _ k),fun k=>(bo.1 b).2.2 y k y Y rfl,fun e=>a (by rw[e];simp)⟩
theorem Hj{v:Int}(h:v∈M):v∉x::(P++y::Q):=fun k=>by obtain⟨z,a⟩:=gK k;exact hw.off v h z (bB.2 ⟨_,ar,a⟩)
theorem xZ:x∉P/\y∉P/\x∉Q/\y∉Q/\(∀ v∈P,v∉Q)/\(x::(P++[y])).Nodup/\(y::(Q++[x])).Nodup:=by
 have h:=hE.simple _ ar;obtain⟨c,p⟩:=bw.1 h;obtain⟨q,r,n⟩:=bo.1 p;obtain⟨o,w⟩:=bw.1 r;have g:x∉P:=fun k=>c (dg _ k);have j:y∉P:=fun k=>n y k y Y rfl;have l:x∉Q:=fun k=>c (dE _ (aq _ k));have m:x≠y:=fun e=>c (by rw[e];simp);refine⟨g,j,l,o,fun v z k=>n v z v (aq _ k) rfl,?_,?_⟩
 .refine bw.2 ⟨fun k=>?_,bo.2 ⟨q,Y,fun a d b f e=>?_⟩⟩
  .rcases am.1 k with k|k
   .exact g k
   .exact m (bi.1 k)
  .rw[bi.1 f]at e;exact j (e ▸ d)
 .refine bw.2 ⟨fun k=>?_,bo.2 ⟨w,Y,fun a d b f e=>?_⟩⟩
  .rcases am.1 k with k|k
   .exact o k
   .exact m (bi.1 k).symm
  .rw[bi.1 f]at e;exact l (e ▸ d)
theorem BW(p:Int×Int):p∈PF ((x::(P++y::M.reverse))::(y::(Q++x::M))::F)↔p∈PF ((x::(P++y::Q))::F)\/p∈ad (x::(M++[y]))\/p.swap∈ad (x::(M++[y])):=by
 have e:∀(r:PP) (F:List PP),p∈PF (r::F)↔p∈prs r\/p∈PF F:=fun r F=>by unfold PF;rw[dt,am]
 rw[e,e,e,bH,bH,bH,show(p∈ad (y::(M.reverse++[x]))↔p.swap∈ad (x::(M++[y]))) from jR (a:=p.1) (b:=p.2)];constructor
 .rintro((h|h)|(h|h)|h)
  .exact .inl (.inl (.inl h))
  .exact .inr (.inr h)
  .exact .inl (.inl (.inr h))
  .exact .inr (.inl h)
  .exact .inl (.inr h)
 .rintro(((h|h)|h)|h|h)
  .exact .inl (.inl h)
  .exact .inr (.inl (.inl h))
  .exact .inr (.inr h)
  .exact .inr (.inl (.inr h))
  .exact .inl (.inr h)
theorem rN{p:Int×Int}(h:p∈ad (x::(M++[y]))\/p.swap∈ad (x::(M++[y]))):p∉PF ((x::(P++y::Q))::F):=fun k=>by
 rcases h with h|h
 .exact hw.new p h k
 .exact hw.new _ h (hE.swap k)
theorem Zr:(PF ((x::(P++y::M.reverse))::(y::(Q++x::M))::F)).Nodup:=by
 have j:(PF ((x::(P++y::M.reverse))::(y::(Q++x::M))::F)).Perm ((ad (x::(M++[y]))++ad (y::(M.reverse++[x])))++PF ((x::(P++y::Q))::F)):=by have f:=(xD x y P M.reverse []).count_eq;have g:=(xD y x Q M []).count_eq;have h:=(xD x y P Q []).count_eq;refine Hc.2 fun z=>?_;have m:=f z;have n:=g z;have o:=h z;unfold PF;simp only[List.nil_append,dt,cy]at *;omega
 rw[j.nodup_iff,bo,bo];obtain⟨k,l⟩:=eC hw.nd;refine⟨⟨k,?_,fun a c b d e=>?_⟩,hE.nd,fun a c b d e=>?_⟩
 .have:(y::(M.reverse++[x])).Nodup:=by have e:y::(M.reverse++[x])=(x::(M++[y])).reverse:=Y;rw[e];exact(ik _).nodup_iff.2 hw.nd
  exact(eC this).1
 .subst e;exact(l a.1 a.2 c).2 (jR.1 d)
 .subst e;refine rN hE hw ?_ d;rcases am.1 c with c|c
  .exact .inl c
  .exact .inr (jR (a:=a.1) (b:=a.2).1 c)
theorem ZO{p:Int×Int}(h:p∈ad (x::(M++[y]))\/p.swap∈ad (x::(M++[y]))):p.1∈x::(M++[y]):=by
 rcases h with h|h
 .exact(bC (x:=p.1) (y:=p.2) h).1
 .exact(bC (x:=p.2) (y:=p.1) h).2
include hP hu ht
theorem Gu{p:Int×Int}(c:∃ e∈E,ae e=bk p):cd p∈cf (bm (ad (x::(M++[y]))++A))↔p∈PF ((x::(P++y::Q))::F)\/p∈ad (x::(M++[y]))\/p.swap∈ad (x::(M++[y])):=by
 rw[gD,hE.mem];simp only[am];constructor
 .rintro⟨q,b,e⟩;have a:∃ e∈E,ae e=bk q:=by
   rcases b with(h|h)|h|h
   .exact hw.ed q.1 q.2 h
   .exact hE.oU.mem q h
   .rw[<- gZ];exact hw.ed q.2 q.1 h
   .rw[<- gZ];exact hE.oU.mem _ h
  rw[hP.cdin c a e];rcases b with(h|h)|h|h
  .exact .inr (.inl h)
  .exact .inl (.inl h)
  .exact .inr (.inr h)
  .exact .inl (.inr h)
 .rintro((h|h)|h|h)
  .exact⟨p,.inl (.inr h),rfl⟩
  .exact⟨p,.inr (.inr h),rfl⟩
  .exact⟨p,.inl (.inl h),rfl⟩
  .exact⟨p,.inr (.inl h),rfl⟩
theorem Dp{p:Int×Int}(h:p∈PF ((x::(P++y::Q))::F)\/p∈ad (x::(M++[y]))\/p.swap∈ad (x::(M++[y]))):∃ e∈E,ae e=bk p:=by
 rcases h with h|h|h
 .exact hE.sub h
 .exact hw.ed p.1 p.2 h
 .rw[<- gZ];exact hw.ed p.2 p.1 h
theorem KW{p:Int×Int}(f:∃ e∈E,ae e=bk p)(g:p.1∉x::(M++[y])):∀ z,Orb s (cd p) z->(z∈cf (bm A)↔z∈cf (bm (ad (x::(M++[y]))++A))):=by
 intro z j;constructor
 .intro h;obtain⟨q,a,rfl⟩:=hE.dart.1 h;exact(Gu hP hE hw hu ht (hE.sub a)).2 (.inl a)
 .intro h;obtain⟨q,a,rfl⟩:=gD.1 h;have b:q∈PF ((x::(P++y::Q))::F)\/q∈ad (x::(M++[y]))\/q.swap∈ad (x::(M++[y])):=by
   rw[hE.mem];simp only[am]at a;rcases a with(k|k)|k|k
   .exact .inr (.inl k)
   .exact .inl (.inl k)
   .exact .inr (.inr k)
   .exact .inl (.inr k)
  have c:=Dp hP hE hw hu ht b;have d:=(hP.orb f c).1 j;rcases b with k|k
  .exact hE.dart.2 ⟨q,k,rfl⟩
  .exact absurd (ZO hE hw k) (by rw[<- d];exact g)
theorem OS:∀ z,Orb s (cd (x,u)) z->(z∈cf (bm (ad (x::(M++[y]))++A))↔z∈cf (bm A)\/z=cd (x,u)):=by
 intro z l;obtain⟨m,o,n⟩:=Cw hE hw;have d:=hw.ed x u hu;constructor
 .intro h;obtain⟨q,c,rfl⟩:=gD.1 h;simp only[am]at c
  have g:∃ e∈E,ae e=bk q:=Dp hP hE hw hu ht (by
   rw[hE.mem];rcases c with(k|k)|k|k
   .exact .inr (.inl k)
   .exact .inl (.inl k)
   .exact .inr (.inr k)
   .exact .inl (.inr k))
  have f:x=q.1:=(hP.orb (p:=(x,u)) d g).1 l;rcases c with(k|k)|k|k
  .have:(x,q.2)∈ad (x::(M++[y])):=by rw[f]at k ⊢;exact k
   have j:=eR hw.nd this hu;exact .inr (by rw[show q=(x,u) from jj f.symm j])
  .exact .inl (gD.2 ⟨q,.inl k,rfl⟩)
  .have:=iI (a:=q.2) (b:=q.1) k;rw[<- f]at this;rcases am.1 this with h|h
   .exact absurd h m
   .exact absurd (bi.1 h) n
  .exact .inl (gD.2 ⟨q,.inr k,rfl⟩)
 .rintro(h|rfl)
  .obtain⟨q,c,rfl⟩:=gD.1 h;refine gD.2 ⟨q,?_,rfl⟩;simp only[am];exact c.imp .inr .inr
  .exact(Gu hP hE hw hu ht (p:=(x,u)) d).2 (.inr (.inl hu))
theorem OD:∀ z,Orb s (cd (y,t)) z->(z∈cf (bm (ad (x::(M++[y]))++A))↔z∈cf (bm A)\/z=cd (y,t)):=by
 intro z n;obtain⟨v,o,r⟩:=Cw hE hw;have d:∃ e∈E,ae e=bk (y,t):=by rw[show bk (y,t)=bk (t,y) from aH _ _];exact hw.ed t y ht
 constructor
 .intro h;obtain⟨q,c,rfl⟩:=gD.1 h;simp only[am]at c
  have g:∃ e∈E,ae e=bk q:=Dp hP hE hw hu ht (by
   rw[hE.mem];rcases c with(k|k)|k|k
   .exact .inr (.inl k)
   .exact .inl (.inl k)
   .exact .inr (.inr k)
   .exact .inl (.inr k))
  have f:y=q.1:=(hP.orb (p:=(y,t)) d g).1 n;rcases c with(k|k)|k|k
  .have:=eO (y:=y) (l:=x::M) (a:=q.1) (b:=q.2) k;rw[<- f]at this;rcases ai.1 this with h|h
   .exact absurd h.symm r
   .exact absurd h o
  .exact .inl (gD.2 ⟨q,.inl k,rfl⟩)
  .have j:(q.2,y)∈ad (x::(M++[y])):=by rw[show(q.2,y)=q.swap from jj rfl f];exact k
   have m:=wI hw.nd j ht;exact .inr (by rw[show q=(y,t) from jj f.symm m])
  .exact .inl (gD.2 ⟨q,.inr k,rfl⟩)
 .rintro(h|rfl)
  .obtain⟨q,c,rfl⟩:=gD.1 h;refine gD.2 ⟨q,?_,rfl⟩;simp only[am];exact c.imp .inr .inr
  .exact(Gu hP hE hw hu ht d).2 (.inr (.inr ht))
theorem NI{v a b:Int}(H:v∈M)(d:((a,v)∈ad (x::(M++[y]))/\(v,b)∈ad (x::(M++[y])))\/((v,a)∈ad (x::(M++[y]))/\(b,v)∈ad (x::(M++[y])))):
 Nx s (cf (bm (ad (x::(M++[y]))++A))) (s (cd (v,a))) (cd (v,b)):=by
 have K:a≠b:=fun e=>by
  subst e;rcases d with⟨w,z⟩|⟨w,z⟩
  .exact((eC hw.nd).2 _ _ w).2 z
  .exact((eC hw.nd).2 _ _ w).2 z
 have I:(v,a)∈ad (x::(M++[y]))\/(v,a).swap∈ad (x::(M++[y])):=d.elim (fun k=>.inr k.1) fun k=>.inl k.1;have D:(v,b)∈ad (x::(M++[y]))\/(v,b).swap∈ad (x::(M++[y])):=d.elim (fun k=>.inl k.2) fun k=>.inr k.2;have j:=Dp hP hE hw hu ht (.inr I);have l:=Dp hP hE hw hu ht (.inr D);have C:=(Gu hP hE hw hu ht l).2 (.inr D);have g:Orb s (cd (v,a)) (cd (v,b)):=(hP.orb j l).2 rfl;have J:Orb s (s (cd (v,a))) (cd (v,b)):=(Orb.symm hP.per (Orb.step s _)).trans g;obtain⟨f,hf⟩:=Nx.ex J C;obtain⟨q,m,rfl⟩:=gD.1 hf.mem;simp only[am]at m
 have r:∃ e∈E,ae e=bk q:=Dp hP hE hw hu ht (by
  rw[hE.mem];rcases m with(k|k)|k|k
  .exact .inr (.inl k)
  .exact .inl (.inl k)
  .exact .inr (.inr k)
  .exact .inl (.inr k))
 have c:v=q.1:=(hP.orb (p:=(v,a)) j r).1 ((Orb.step s _).trans hf.orb);have B:q∉PF ((x::(P++y::Q))::F):=fun k=>hw.off v H q.2 (by rw[c];exact k);rw[hE.mem]at B;have n:q∈ad (x::(M++[y]))\/q.swap∈ad (x::(M++[y])):=by
  rcases m with(k|k)|k|k
  .exact .inl k
  .exact absurd (.inl k) B
  .exact .inr k
  .exact absurd (.inr k) B
 have o:q.2=a\/q.2=b:=by
  rcases n with k|k
  .have k:(v,q.2)∈ad (x::(M++[y])):=by rw[c];exact k
   rcases d with h|h
   .exact .inr (eR hw.nd k h.2)
   .exact .inl (eR hw.nd k h.1)
  .have k:(q.2,v)∈ad (x::(M++[y])):=by rw[c];exact k
   rcases d with h|h
   .exact .inl (wI hw.nd k h.1)
   .exact .inr (wI hw.nd k h.2)
 rcases o with h|h
 .have e:q=(v,a):=jj c.symm h;rw[e]at hf;have:=hf.loop C g;exact absurd (congrArg Prod.snd (hP.cdin l j this)).symm K
 .have e:q=(v,b):=jj c.symm h;rw[<- e];exact hf
end
end Aw
end Go.Proofs.YtbgngpdonpeboaaGreatDoor
