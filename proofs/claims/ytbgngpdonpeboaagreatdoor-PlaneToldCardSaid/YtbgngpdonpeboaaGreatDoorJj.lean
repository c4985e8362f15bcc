/- Plain: round a vertex of a drawn block: all near ones, in one turn. -/
import Derived.Test.YtbgngpdonpeboaaGreatDoorJi
set_option linter.unusedVariables false
set_option linter.unusedSimpArgs false
set_option linter.unusedSectionVars false
open Go.Proofs.Tryz
namespace Go.Proofs.YtbgngpdonpeboaaGreatDoor
namespace Aw
open Go Go.RowKit Pl Eu
theorem KR:∀(l:List Int) (k:Nat),k+1<l.length->(lnk l)[k]?=some (l.getD k 0,l.getD (k+1) 0)
 |[],k,h=>by simp at h
 |[_],k,h=>by simp at h
 |a::b::l,0,_=>by simp[lnk]
 |a::b::l,k+1,h=>by have:=KR (b::l) k (by simpa using h);simpa[lnk]using this
theorem qJ(r:List Int):(prs r).length=r.length:=by
 unfold prs;rw[zP,aAm,aAv];cases r with
 |nil=>rfl
 |cons a r=>simp
theorem Em(r:List Int)(k:Nat)(h:k<r.length):(prs r)[k]?=some (r.getD k 0,r.getD ((k+1) % r.length) 0):=by
 have hl:(r++r.take 1).length=r.length+1:=by rw[aAm,aAv];omega
 unfold prs;rw[KR _ k oO];have e1:(r++r.take 1).getD k 0=r.getD k 0:=by rw[aAg,aAY h,<- aAg]
 have e2:(r++r.take 1).getD (k+1) 0=r.getD ((k+1) % r.length) 0:=by
  rw[aAg];by_cases hk:k+1<r.length
  .rw[aAY hk,aAM hk,<- aAg]
  .have:k+1=r.length:=oO;rw[aBz oO,this,aDz,Nat.sub_self,List.getElem?_take_of_lt oO,<- aAg]
 rw[e1,e2]
def trs(r:List Int):List (Int×Int×Int):=(List.range r.length).map fun k=>(r.getD (jG r.length k) 0,r.getD k 0,r.getD ((k+1) % r.length) 0)
def Bj(A:Tn)(t:Int×Int×Int):Tn:=iA t.2.1 t.1 t.2.2 A
theorem pD{n k:Nat}(h:k<n):jG n k<n/\(jG n k+1) % n=k:=by
 unfold jG
 split
 .rename_i e;subst e;exact⟨oO,by rw[show n-1+1=n by omega,aDz]⟩
 .exact⟨oO,by rw[show k-1+1=k by omega,aAM h]⟩
theorem DQ(r:List Int)(A:Tn):∀ j,j<=r.length->jX r A j=((trs r).take j).foldl Bj A
 |0,_=>rfl
 |j+1,h=>by
  have ht:(trs r).take (j+1)=(trs r).take j++[(r.getD (jG r.length j) 0,r.getD j 0,r.getD ((j+1) % r.length) 0)]:=by unfold trs;rw[aAp (by simp;omega)];simp
  rw[ht,aBI,<- DQ r A j oO];rfl
theorem xT(F:List (List Int)):aV F=(F.flatMap trs).foldl Bj []:=by
 unfold aV;have key:∀(F:List (List Int)) (A:Tn),F.foldl (fun A r=>jX r A r.length) A=(F.flatMap trs).foldl Bj A:=by
  intro F;induction F with
  |nil=>intro A;rfl
  |cons r F ih=>intro A;rw[List.foldl_cons,ih,aAJ,aBI,DQ r A _ (aAl _),aAt (by simp[trs])]
 exact key F []
theorem DF(v v' x y:Int):∀ A:Tn,dS v' (iA v x y A)=if v'=v then pZ x y (dS v A)else dS v' A
 |[]=>by
  unfold iA;by_cases h:v'=v
  .subst h;simp[dS,pZ]
  .simp only[dS,aAa h,aAa (fun e:v=v'=>h e.symm)]
 |a::A=>by
  have ih:=DF v v' x y A;unfold iA;by_cases ha:a.1=v
  .rw[aAk ha];by_cases h:v'=v
   .subst h;simp[dS,ha]
   .simp only[dS,aAa h,aAa (fun e:v=v'=>h e.symm),aAa (fun e:a.1=v'=>h (by rw[<- e,ha]))]
  .rw[aAa ha];by_cases h:v'=v
   .subst h;rw[aAk rfl]at ih ⊢;simp only[dS,aAa ha,ih]
   .rw[aAa h]at ih ⊢;simp only[dS,ih]
theorem HN(x y:Int):∀ P:List (Int×Int),x∉P.map (·.1)->pZ x y P=P++[(x,y)]
 |[],_=>rfl
 |p::P,h=>by rw[aAn,aAe,aCp]at h;unfold pZ;rw[aAa fun e=>h.1 e.symm,HN x y P h.2];rfl
theorem OT(v:Int):∀(T:List (Int×Int×Int)),(T.map fun t=>(t.1,t.2.1)).Nodup->dS v (T.foldl Bj [])=(T.filter fun t=>decide (t.2.1=v)).map fun t=>(t.1,t.2.2):=by
 intro T;induction T using xD with
 |h0=>intro _;rfl
 |h1 T t ih=>
  intro hn;rw[aAu,aAo]at hn;have ih:=ih hn.1;rw[aBI,List.foldl_cons,List.foldl_nil,aDd,aAu,<- ih];rw[show Bj (T.foldl Bj []) t=iA t.2.1 t.1 t.2.2 (T.foldl Bj []) from rfl,DF];by_cases h:v=t.2.1
  .subst h;rw[aAk rfl,HN]
   .simp
   .rw[ih,aAZ];intro hm;obtain⟨s,hs,e⟩:=aAj.1 hm;rw[aAC,aAT]at hs;exact hn.2.2 _ (aAw (f:=fun t:Int×Int×Int=>(t.1,t.2.1)) hs.1) (t.1,t.2.1) sS (aBU e hs.2)
  .rw[aAa h];have:¬t.2.1=v:=fun e=>h e.symm;simp[this]
theorem Sz(r:List Int):((trs r).map fun t=>(t.1,t.2.1)).Perm (prs r):=by
 have e:prs r=(List.range r.length).map fun k=>(r.getD k 0,r.getD ((k+1) % r.length) 0):=by
  refine aCm fun k=>?_;by_cases h:k<r.length
  .rw[Em r k h];simp[h]
  .rw[aBQ (by rw[qJ];omega),aBQ (by simp;omega)]
 have e2:((trs r).map fun t=>(t.1,t.2.1))=((List.range r.length).map (jG r.length)).map fun k=>(r.getD k 0,r.getD ((k+1) % r.length) 0):=by unfold trs;rw[aAZ,aAZ];refine aAP fun k hk=>?_;have:=(pD (aBb.1 hk)).2;simp only[Function.comp_apply,this]
 rw[e,e2];refine List.Perm.map _ (BA ?_ aDt (fun x hx=>?_) sS)
 .unfold List.Nodup;rw[aAU];refine aBD.imp_of_mem fun {a b} ha hb x7 h=>?_;have h1:=(pD (aBb.1 ha)).2;have h2:=(pD (aBb.1 hb)).2;rw[h]at h1;omega
 .obtain⟨k,hk,rfl⟩:=aAj.1 hx;exact aBb.2 (pD (aBb.1 hk)).1
theorem xA(F:List (List Int)):((F.flatMap trs).map fun t=>(t.1,t.2.1)).Perm (PF F):=by
 induction F with
 |nil=>exact .refl _
 |cons r F ih=>unfold PF at ih ⊢;rw[aAJ,aAJ,aAu];exact(Sz r).append ih
def cd(p:Int×Int):Int:=p.1*4194304+p.2
theorem wS{p:Int×Int}(h:0<=p.2/\p.2<4194304):cd p / 4194304=p.1:=by unfold cd;omega
theorem gR{p q:Int×Int}(h:0<=p.2/\p.2<4194304)(k:0<=q.2/\q.2<4194304)(e:cd p=cd q):p=q:=by unfold cd at e;exact aBU oO oO
theorem Pk{r:List Int}(hn:(prs r).Nodup)(hb:∀ v∈r,0<=v/\v<4194304){t:Int×Int×Int}(ht:t∈trs r):(t.1,t.2.1)∈prs r/\(t.2.1,t.2.2)∈prs r/\nx ((prs r).map cd) (cd (t.1,t.2.1))=cd (t.2.1,t.2.2):=by
 unfold trs at ht;obtain⟨k,hk,rfl⟩:=aAj.1 ht;rw[aBb]at hk;obtain⟨p1,p2⟩:=pD hk;have hl:=qJ r;have g1:(prs r)[jG r.length k]'(by omega)=(r.getD (jG r.length k) 0,r.getD k 0):=by have:=Em r _ p1;rw[aAh oO,aAb]at this;rw[this,p2]
 have g2:(prs r)[k]'(by omega)=(r.getD k 0,r.getD ((k+1) % r.length) 0):=by have:=Em r _ hk;rw[aAh oO,aAb]at this;exact this
 have c8:∀ p∈prs r,0<=p.2/\p.2<4194304:=fun p hp=>hb _ (oW (x:=p.1) hp).2;have F4:((prs r).map cd).Nodup:=by unfold List.Nodup;rw[aAU];exact hn.imp_of_mem fun {a b} ha hb Zy e=>Zy (gR (c8 a ha) (c8 b hb) e)
 have G5:((prs r).map cd).length=r.length:=by rw[aAD,hl]
 refine⟨by rw[<- g1];exact aAz _,by rw[<- g2];exact aAz _,?_⟩;simp only;rw[<- g1,<- g2];have:=Bx F4 (j:=jG r.length k) oO;simp only[aCy]at this;rw[this]
 congr 1
 simp only[G5,p2]
def tws(E:List Ed):List (Int×Int):=E.map fun e=>(cd (e.a,e.b),cd (e.b,e.a))
theorem yX(s:Int->Int){x:Int}:∀ P:List (Int×Int),(∀ p∈P,x≠p.1/\x≠p.2)->swP s P x=s x
 |[],_=>rfl
 |p::P,h=>by unfold swP;rw[Br (h p aAf).1 (h p aAf).2];exact yX s P fun q hq=>h q (aAc _ hq)
theorem Li(s:Int->Int){u v:Int}:∀ E:List Ed,(∀ e∈E,(0<=e.a/\e.a<4194304)/\0<=e.b/\e.b<4194304)->(E.map prE).Nodup->(∃ e∈E,prE e=prP u v)->swP s (tws E) (cd (v,u))=s (cd (u,v))
 |[],_,_,h=>by obtain⟨_,h,_⟩:=h;cases h
 |e::E,hb,hn,h=>by
  rw[aAn,aAq]at hn;have b0:=hb e aAf;have hbE:=fun e he=>hb e (aAc _ he);by_cases he:prE e=prP u v
  .have H8:∀ x y,prP x y=prE e->(0<=x/\x<4194304)->(0<=y/\y<4194304)->∀ p∈tws E,cd (x,y)≠p.1/\cd (x,y)≠p.2:=by
    intro x y D4 hx hy p hp;obtain⟨f,hf,rfl⟩:=aAj.1 hp;have bf:=hbE f hf;constructor
    .intro k;have:=gR (p:=(x,y)) (q:=(f.a,f.b)) hy bf.2 k;injection this with k1 k2;exact hn.1 (aAj.2 ⟨f,hf,by rw[<- D4,k1,k2]⟩)
    .intro k;have:=gR (p:=(x,y)) (q:=(f.b,f.a)) hy bf.1 k;injection this with k1 k2;exact hn.1 (aAj.2 ⟨f,hf,by rw[<- D4,k1,k2];exact aL _ _⟩)
   show swP s (tws E) (Eu.sw (cd (e.a,e.b)) (cd (e.b,e.a)) (cd (v,u)))=_;rcases bK he with⟨e1,e2⟩|⟨e1,e2⟩
   .rw[<- e1,<- e2,Om,yX s _ (H8 e.a e.b rfl b0.1 b0.2)]
   .rw[<- e1,<- e2,Jv,yX s _ (H8 e.b e.a (aL _ _) b0.2 b0.1)]
  .obtain⟨f,hf,hp⟩:=h;rcases aAe.1 hf with rfl|hf
   .exact absurd hp he
   show swP s (tws E) (Eu.sw (cd (e.a,e.b)) (cd (e.b,e.a)) (cd (v,u)))=_;have bf:=hbE f hf;have bu:(0<=u/\u<4194304)/\0<=v/\v<4194304:=by
    rcases bK hp with⟨e1,e2⟩|⟨e1,e2⟩
    .rw[<- e1,<- e2];exact bf
    .rw[<- e1,<- e2];exact⟨bf.2,bf.1⟩
   rw[Br]
   .exact Li s E hbE hn.2 ⟨f,hf,hp⟩
   .intro k;have:=gR (p:=(v,u)) (q:=(e.a,e.b)) bu.1 b0.2 k;injection this with k1 k2;exact he (by rw[k1,k2];exact aL _ _)
   .intro k;have:=gR (p:=(v,u)) (q:=(e.b,e.a)) bu.1 b0.1 k;injection this with k1 k2;exact he (by rw[k1,k2])
def Flat(D:List Int)(s:Int->Int)(P:List (Int×Int)):Prop:=2*ncl (mgP (Orb s) P) D+P.length=ncl (Orb s) D+ncl (Orb (swP s P)) D
def gM(D:List Int)(P:List (Int×Int)):Prop:=∀ p∈P,p.1∈D/\p.2∈D/\p.1≠p.2
def flP(P:List (Int×Int)):List Int:=P.flatMap fun p=>[p.1,p.2]
theorem dD{P:List (Int×Int)}{x:Int}:x∈flP P↔∃ p∈P,x=p.1\/x=p.2:=by unfold flP;simp only[aBk,aAe,aBV,aDq]
section
variable {D:List Int} {s:Int->Int} (hs:dW D s)
include hs
theorem Dd{p:Int×Int}{P:List (Int×Int)}(hP:gM D (p::P)):Flat D s (p::P)↔Flat D s P/\(mgP (Orb s) P p.1 p.2->Orb (swP s P) p.1 p.2):=by
 have hP':gM D P:=fun q hq=>hP q (aAc _ hq);obtain⟨h1,c,h2⟩:=vU hs P hP';obtain⟨ha,hb,x7⟩:=hP p aAf;have hq:=kL hs P fun q hq=>⟨(hP' q hq).1,(hP' q hq).2.1⟩;have hq':dW D (swP s (p::P)):=hq.sw ha hb;have O3:∀ x,swP s (p::P) x=swP s P (Eu.sw p.1 p.2 x):=fun _=>rfl;have hE:=dM hs.per.eqv P;unfold Flat;rw[List.length_cons];by_cases ho:Orb (swP s P) p.1 p.2
 .have e1:=vY hq.per hq'.per O3 x7 ha hb ho;have e2:ncl (mgP (Orb s) (p::P)) D=ncl (mgP (Orb s) P) D:=dH fun x _ y _=>Mg.same hE (h1 _ _ ho) x y;rw[e2,e1];constructor
  .intro h;exact⟨oO,fun _=>ho⟩
  .intro h;have:=h.1;omega
 .have e1:=AW hq.per hq'.per O3 ha hb ho;by_cases hr:mgP (Orb s) P p.1 p.2
  .have e2:ncl (mgP (Orb s) (p::P)) D=ncl (mgP (Orb s) P) D:=dH fun x _ y _=>Mg.same hE hr x y;constructor
   .intro h;omega
   .intro h;exact absurd (h.2 hr) ho
  .have e2:ncl (mgP (Orb s) P) D=ncl (mgP (Orb s) (p::P)) D+1:=wX hE hr ha hb;constructor
   .intro h;exact⟨oO,fun k=>absurd k hr⟩
   .intro h;have:=h.1;omega
theorem Gc{Q P:List (Int×Int)}(hP:gM D (Q++P))(h:Flat D s (Q++P)):Flat D s P:=by
 induction Q with
 |nil=>exact h
 |cons q Q ih=>have hq:=(Dd hs (p:=q) (P:=Q++P) hP).1 h;exact ih (fun p hp=>hP p (aAc _ hp)) hq.1
end
theorem Aj{R S:Int->Int->Prop}(hS:Eqv S)(h:∀ x y,R x y->S x y):∀ {P:List (Int×Int)},(∀ p∈P,S p.1 p.2)->∀ x y,mgP R P x y->S x y
 |[],_,x,y,k=>h x y k
 |_::P,hp,x,y,k=>Mg.le hS (hp _ aAf) (fun x y k=>Aj hS h (fun p q=>hp p (aAc _ q)) x y k) k
theorem zT{R:Int->Int->Prop}(hR:Eqv R){P Q:List (Int×Int)}(h:∀ p∈P,p∈Q){x y:Int}(k:mgP R P x y):mgP R Q x y:=
 Aj (dM hR Q) (fun _ _ k=>fT Q k) (fun p hp=>jO hR Q (h p hp)) x y k
theorem nL(s:Int->Int):∀ {P:List (Int×Int)},(flP P).Nodup->∀ p∈P,swP s P p.1=s p.2/\swP s P p.2=s p.1
 |[],_,_,h=>by cases h
 |q::P,hn,p,h=>by
  have F4:(q.1::q.2::flP P).Nodup:=hn;rw[aAq,aAq]at F4;obtain⟨n1,n2,n3⟩:=F4;have H8:∀ x,x∉flP P->swP s P x=s x:=fun x hx=>by
   have key:∀(P:List (Int×Int)),x∉flP P->swP s P x=s x:=by
    intro P;induction P with
    |nil=>intro _;rfl
    |cons r P ih=>intro hx;have h1:x≠r.1:=fun e=>hx (dD.2 ⟨r,aAf,.inl e⟩);have h2:x≠r.2:=fun e=>hx (dD.2 ⟨r,aAf,.inr e⟩);show swP s P (Eu.sw r.1 r.2 x)=s x;rw[Br h1 h2];exact ih fun k=>by obtain⟨p,hp,e⟩:=dD.1 k;exact hx (dD.2 ⟨p,aAc _ hp,e⟩)
   exact key P hx
  rcases aAe.1 h with rfl|h
  .refine⟨?_,?_⟩
   .show swP s P (Eu.sw p.1 p.2 p.1)=s p.2;rw[Jv];exact H8 _ n2
   .show swP s P (Eu.sw p.1 p.2 p.2)=s p.1;rw[Om];exact H8 _ fun k=>n1 (aAc _ k)
  .have m1:p.1∈flP P:=dD.2 ⟨p,h,.inl rfl⟩;have m2:p.2∈flP P:=dD.2 ⟨p,h,.inr rfl⟩;have o1:∀ x∈flP P,Eu.sw q.1 q.2 x=x:=fun x hx=>Br (fun e=>n1 (aAc _ (e ▸ hx))) (fun e=>n2 (e ▸ hx));have ih:=nL s n3 p h;exact⟨by show swP s P (Eu.sw q.1 q.2 p.1)=_;rw[o1 _ m1];exact ih.1,by show swP s P (Eu.sw q.1 q.2 p.2)=_;rw[o1 _ m2];exact ih.2⟩
theorem nI(s:Int->Int):∀ {P:List (Int×Int)} {x:Int},x∉flP P->swP s P x=s x
 |[],_,_=>rfl
 |r::P,x,hx=>by have h1:x≠r.1:=fun e=>hx (dD.2 ⟨r,aAf,.inl e⟩);have h2:x≠r.2:=fun e=>hx (dD.2 ⟨r,aAf,.inr e⟩);show swP s P (Eu.sw r.1 r.2 x)=s x;rw[Br h1 h2];exact nI s fun k=>by obtain⟨p,hp,e⟩:=dD.1 k;exact hx (dD.2 ⟨p,aAc _ hp,e⟩)
theorem Pn(s:Int->Int){P Q:List (Int×Int)}(hn:(flP P).Nodup)(hp:P.Perm Q)(x:Int):swP s P x=swP s Q x:=by
 have hf:(flP P).Perm (flP Q):=hp.flatMap_right _;have F4:=hf.nodup_iff.1 hn;by_cases hx:x∈flP P
 .obtain⟨p,h1,h2⟩:=dD.1 hx;have a:=nL s hn p h1;have b:=nL s F4 p (hp.mem_iff.1 h1);rcases h2 with rfl|rfl
  .rw[a.1,b.1]
  .rw[a.2,b.2]
 .rw[nI s hx,nI s fun k=>hx (hf.mem_iff.2 k)]
theorem mW{D:List Int}{s:Int->Int}(hs:dW D s){P Q:List (Int×Int)}(hn:(flP P).Nodup)(hp:P.Perm Q)(h:Flat D s P):Flat D s Q:=by have e:swP s P=swP s Q:=funext fun x=>Pn s hn hp x;have e2:ncl (mgP (Orb s) P) D=ncl (mgP (Orb s) Q) D:=dH fun x _ y _=>⟨zT hs.per.eqv fun p k=>hp.mem_iff.1 k,zT hs.per.eqv fun p k=>hp.mem_iff.2 k⟩;unfold Flat at h ⊢;rw[<- e,<- e2,<- hp.length_eq];exact h
theorem NR{D:List Int}{s:Int->Int}(hs:dW D s){E R S:List (Int×Int)}{p:Int×Int}(hE:gM D E)(hn:(flP E).Nodup)(h:Flat D s E)(hp:E.Perm (R++p::S)):Flat D s S/\(mgP (Orb s) S p.1 p.2->Orb (swP s S) p.1 p.2):=by have h1:=mW hs hn hp h;have hP:gM D (R++p::S):=fun q hq=>hE q (hp.mem_iff.2 hq);have h2:=Gc hs hP h1;exact(Dd hs fun q hq=>hP q (aAx _ hq)).1 h2
def Rws(F:List (List Int)):List (List Int):=F.map fun r=>(prs r).map cd
theorem gL(F:List (List Int)):(Rws F).flatten=(PF F).map cd:=by unfold Rws PF;rw[aDP,<- List.flatMap_def]
theorem gN{E:List Ed}{e:Ed}(he:e∈E){x y:Int}(h:prE e=prP x y):x∈vsF E/\y∈vsF E:=by
 rw[bG,bG];rcases bK h with⟨e1,e2⟩|⟨e1,e2⟩
 .exact⟨⟨e,he,.inl e1.symm⟩,⟨e,he,.inr e2.symm⟩⟩
 .exact⟨⟨e,he,.inr e2.symm⟩,⟨e,he,.inl e1.symm⟩⟩
structure BlE(E:List Ed):Prop where
 ne:∀ e∈E,e.a≠e.b
 sim:(E.map prE).Nodup
 bnd:∀ v∈vsF E,0<=v/\v<4194304
section
variable {E:List Ed} {F:List (List Int)} (hO:jJ E F) (hE:BlE E)
include hO hE
theorem jJ.b2{p:Int×Int}(h:p∈PF F):(0<=p.1/\p.1<4194304)/\0<=p.2/\p.2<4194304:=by obtain⟨e,he,hp⟩:=(hO.mem p.1 p.2).1 h;have:=gN he hp;exact⟨hE.bnd _ this.1,hE.bnd _ this.2⟩
theorem jJ.cdnd:((Rws F).flatten).Nodup:=by rw[gL];unfold List.Nodup;rw[aAU];exact hO.nd.imp_of_mem fun {p q} hp hq Zy e=>Zy (gR (hO.b2 hE hp).2 (hO.b2 hE hq).2 e)
theorem jJ.swap{u v:Int}(h:(u,v)∈PF F):(v,u)∈PF F:=by obtain⟨e,he,hp⟩:=(hO.mem u v).1 h;exact(hO.mem v u).2 ⟨e,he,by rw[hp];exact aL _ _⟩
theorem jJ.next{u v:Int}(h:(u,v)∈PF F):∃ w,(u,v,w)∈F.flatMap trs/\∃ r∈F,(u,v)∈prs r/\(v,w)∈prs r/\sgR (Rws F) (cd (u,v))=cd (v,w):=by
 have:=(xA F).mem_iff.2 h;obtain⟨t,ht,e⟩:=aAj.1 this;obtain⟨r,hr,htr⟩:=aBk.1 ht;have D5:∀ p∈prs r,p∈PF F:=fun p hp=>bE.2 ⟨r,hr,hp⟩;have hn:(prs r).Nodup:=by have h0:=hO.nd;unfold PF at h0;rw[List.flatMap_def]at h0;exact row_nodup' h0 (aAw hr)
 have hb:∀ v∈r,0<=v/\v<4194304:=fun v hv=>by obtain⟨x,hx⟩:=iM hv;exact(hO.b2 hE (D5 _ hx)).1
 obtain⟨h1,h2,h3⟩:=Pk hn hb htr;injection e with e1 e2;rw[e1,e2]at h1 h3;rw[e2]at h2;refine⟨t.2.2,?_,r,hr,h1,h2,?_⟩
 .rw[<- e1,<- e2];exact ht
 .rw[Bi (hO.cdnd hE) (t:=(prs r).map cd) (aAw (f:=fun r=>(prs r).map cd) hr) (aAw h1),h3]
where
 row_nodup' {α:Type} {L:List (List α)} (hn:L.flatten.Nodup) {t:List α} (ht:t∈L):t.Nodup:=(aBn ht).nodup hn
abbrev sgV(E:List Ed)(F:List (List Int)):Int->Int:=swP (sgR (Rws F)) (tws E)
theorem jJ.tws_mem:∀ p∈tws E,p.1∈(Rws F).flatten/\p.2∈(Rws F).flatten/\p.1≠p.2:=fun p hp=>by obtain⟨e,he,rfl⟩:=aAj.1 hp;have h1:=(hO.mem e.a e.b).2 ⟨e,he,rfl⟩;have h2:=hO.swap hE h1;rw[gL];refine⟨aAw h1,aAw h2,fun k=>hE.ne e he ?_⟩;have:=gR (hO.b2 hE h1).2 (hO.b2 hE h2).2 k;injection this
theorem jJ.sgV_at{u v:Int}(h:(u,v)∈PF F):sgV E F (cd (v,u))=sgR (Rws F) (cd (u,v)):=
 Li _ E (fun e he=>⟨hE.bnd _ ((bG _ _).2 ⟨e,he,.inl rfl⟩),hE.bnd _ ((bG _ _).2 ⟨e,he,.inr rfl⟩)⟩) hE.sim ((hO.mem u v).1 h)
theorem jJ.sgV_permOn:dW (Rws F).flatten (sgV E F):=kL (Bo (hO.cdnd hE)) _ fun p hp=>⟨(hO.tws_mem hE p hp).1,(hO.tws_mem hE p hp).2.1⟩
theorem jJ.sgV_base(x:Int):sgV E F x / 4194304=x / 4194304:=by
 by_cases hx:x∈(Rws F).flatten
 .rw[gL]at hx;obtain⟨⟨v,u⟩,hp,rfl⟩:=aAj.1 hx;have h2:=hO.swap hE hp;obtain⟨w,_,r,hr,k1,k2,k3⟩:=hO.next hE h2;have k4:=bE.2 ⟨r,hr,k2⟩;rw[hO.sgV_at hE h2,k3,wS (hO.b2 hE k4).2,wS (hO.b2 hE hp).2]
 .rw[(hO.sgV_permOn hE).out x hx]
theorem jJ.sgV_it:∀(n:Nat) (x:Int),it (sgV E F) n x / 4194304=x / 4194304
 |0,_=>rfl
 |n+1,x=>by rw[bW,hO.sgV_base hE,jJ.sgV_it n x]
theorem jJ.count(h0:E≠[]):Flat (Rws F).flatten (sgR (Rws F)) (tws E)/\∀ x∈(Rws F).flatten,∀ y∈(Rws F).flatten,x / 4194304=y / 4194304->Orb (sgV E F) x y:=by
 have hn:=hO.cdnd hE;have hφ:=Bo hn;have hσ:=hO.sgV_permOn hE;obtain⟨_,c,hc⟩:=vU hφ (tws E) (hO.tws_mem hE);have hM:=dM hφ.per.eqv (tws E);have hall:∀ x∈(Rws F).flatten,∀ y∈(Rws F).flatten,mgP (Orb (sgR (Rws F))) (tws E) x y:=by
  intro x hx y hy;rw[gL]at hx hy;obtain⟨p,hp,rfl⟩:=aAj.1 hx;obtain⟨q,hq,rfl⟩:=aAj.1 hy;refine hO.con (fun p q=>mgP (Orb (sgR (Rws F))) (tws E) (cd p) (cd q)) (fun _ _ k=>hM.symm k) (fun _ _ _ k l=>hM.trans k l) (fun r hr p hp q hq=>?_) (fun p hp=>?_) p hp q hq
  .exact fT _ ((ER hn (aAw (f:=fun r=>(prs r).map cd) hr) (aAw hp)).2 (aAw hq))
  .obtain⟨e,he,N9⟩:=(hO.mem p.1 p.2).1 hp;have:=jO hφ.per.eqv (tws E) (p:=(cd (e.a,e.b),cd (e.b,e.a))) (aAw (f:=fun e:Ed=>(cd (e.a,e.b),cd (e.b,e.a))) he);rcases bK N9 with⟨e1,e2⟩|⟨e1,e2⟩
   .rw[e1,e2]at this;exact this
   .rw[e1,e2]at this;exact hM.symm this
 have hD0:(Rws F).flatten≠[]:=by rw[gL];intro e;have:=aCC.1 e;obtain⟨e,he⟩:=aAS _ h0;have h:=(hO.mem e.a e.b).2 ⟨e,he,rfl⟩;rw[this]at h;cases h
 have E4:=Uh hall hD0;rw[E4]at hc;have hF:ncl (Orb (sgR (Rws F))) (Rws F).flatten=F.length:=by rw[UG hn,aCB.2,Rws,aAD];intro t ht;obtain⟨r,hr,rfl⟩:=aAj.1 ht;have h1:=hO.ne r hr;have h2:=qJ r;rw[aAT];intro e;have h3:=congrArg List.length e;rw[aAD,h2]at h3;exact h1 (aCn.1 h3)
 have hlen:(tws E).length=E.length:=by rw[tws,aAD]
 rw[hF,hlen]at hc;have hc:2*1+E.length=2*c+F.length+ncl (Orb (sgV E F)) (Rws F).flatten:=hc;let B:Int->Int->Prop:=fun x y=>x / 4194304=y / 4194304;have hB:Eqv B:=⟨fun _=>rfl,fun h=>Eq.symm h,fun h k=>Eq.trans h k⟩;have hBn:(vsF E).length<=ncl B (Rws F).flatten:=by
  refine tD (R:=B) (fun x=>x / 4194304) (fun _ _ _ _ h=>h) (vsF E) ((mC E).imp fun k=>by omega) fun a ha=>?_;obtain⟨e,he,k⟩:=(bG a E).1 ha;have h1:=(hO.mem e.a e.b).2 ⟨e,he,rfl⟩;have h2:=hO.swap hE h1;rcases k with rfl|rfl
  .exact⟨_,by rw[gL];exact aAw h1,wS (hO.b2 hE h1).2⟩
  .exact⟨_,by rw[gL];exact aAw h2,wS (hO.b2 hE h2).2⟩
 have hcnt:=hO.cnt;have D5:∀ x y,Orb (sgV E F) x y->B x y:=fun x y ⟨n,hn⟩=>by show x / 4194304=y / 4194304;rw[<- hn,hO.sgV_it hE]
 have hmono:ncl B (Rws F).flatten<=ncl (Orb (sgV E F)) (Rws F).flatten:=Ab fun x _ y _=>D5 x y;refine⟨?_,fun x hx y hy k=>QI hσ.per.eqv hB (l:=(Rws F).flatten) D5 oO hx hy k⟩;show 2*_+_=_+ncl (Orb (sgV E F)) _;rw[E4,hF,hlen];omega
theorem jJ.one_turn(h0:E≠[]){v u u':Int}(h:(u,v)∈PF F)(h':(u',v)∈PF F):Orb (sgV E F) (cd (v,u)) (cd (v,u')):=by have a1:=hO.swap hE h;have a2:=hO.swap hE h';refine(hO.count hE h0).2 _ (by rw[gL];exact aAw a1) _ (by rw[gL];exact aAw a2) ?_;rw[wS (hO.b2 hE a1).2,wS (hO.b2 hE a2).2]
end
theorem Ly:∀ {P:List (Int×Int)},(P.map (·.1)).Nodup->∀ {u w:Int},(u,w)∈P->nB P u=w
 |p::P,hn,u,w,h=>by
  rw[aAn,aAq]at hn;unfold nB;rcases aAe.1 h with rfl|h
  .rw[aAk rfl]
  .rw[aAa fun e=>hn.1 (by rw[e];exact aAw (f:=(·.1)) h)];exact Ly hn.2 h
section
variable {E:List Ed} {F:List (List Int)} (hO:jJ E F) (hE:BlE E)
include hO hE
theorem jJ.getA_eq(v:Int):dS v (aV F)=((F.flatMap trs).filter fun t=>decide (t.2.1=v)).map fun t=>(t.1,t.2.2):=by rw[xT,OT v _ ((xA F).nodup_iff.2 hO.nd)]
theorem jJ.keys(v:Int):((dS v (aV F)).map (·.1)).Nodup/\∀ u,u∈(dS v (aV F)).map (·.1)↔(u,v)∈PF F:=by
 rw[hO.getA_eq hE,aAZ];have hn:=(xA F).nodup_iff.2 hO.nd;constructor
 .unfold List.Nodup at hn ⊢;rw[aAU]at hn ⊢;refine(hn.sublist aBF).imp_of_mem fun {s t} hs ht Zy e=>Zy ?_;rw[aAC,aAT]at hs ht;exact aBU e (by rw[hs.2,ht.2])
 .intro u;rw[<- (xA F).mem_iff,aAj,aAj];constructor
  .rintro⟨t,ht,rfl⟩;rw[aAC,aAT]at ht;exact⟨t,ht.1,by rw[<- ht.2];rfl⟩
  .rintro⟨t,ht,e⟩;injection e with e1 e2;exact⟨t,by rw[aAC,aAT];exact⟨ht,e2⟩,e1⟩
theorem jJ.step{u v:Int}(h:(u,v)∈PF F):(∃ r∈F,(u,v)∈prs r/\(v,nB (dS v (aV F)) u)∈prs r)/\sgV E F (cd (v,u))=cd (v,nB (dS v (aV F)) u):=by
 obtain⟨w,h1,r,hr,k1,k2,k3⟩:=hO.next hE h;have c8:(u,w)∈dS v (aV F):=by rw[hO.getA_eq hE];exact aAj.2 ⟨(u,v,w),by rw[aAC];exact⟨h1,sS⟩,rfl⟩
 rw[Ly (hO.keys hE v).1 c8,hO.sgV_at hE h];exact⟨⟨r,hr,k1,k2⟩,k3⟩
theorem jJ.round(h0:E≠[]){v:Int}(hv:v∈vsF E):(cC (dS v (aV F))).Nodup/\cC (dS v (aV F))≠[]/\(∀ u,u∈cC (dS v (aV F))↔∃ e∈E,prE e=prP v u)/\
 ∀ u∈cC (dS v (aV F)),∃ r∈F,(u,v)∈prs r/\(v,nx (cC (dS v (aV F))) u)∈prs r:=by
 have hk:=hO.keys hE v;have E3:=fun u (h:(u,v)∈PF F)=>hO.step hE h;have E4:=fun u u' (h:(u,v)∈PF F) (h':(u',v)∈PF F)=>hO.one_turn hE h0 h h';have hb:=fun p (h:p∈PF F)=>hO.b2 hE h;obtain⟨u0,hu0⟩:∃ u,(u,v)∈PF F:=by
  obtain⟨e,he,k⟩:=(bG v E).1 hv;have h1:=(hO.mem e.a e.b).2 ⟨e,he,rfl⟩;rcases k with rfl|rfl
  .exact⟨_,hO.swap hE h1⟩
  .exact⟨_,h1⟩
 have hswap:=fun u w (h:(u,w)∈PF F)=>hO.swap hE h;generalize dS v (aV F)=P at *;have hK0:P.map (·.1)≠[]:=aBB ((hk.2 u0).2 hu0);have hP:P≠[]:=fun e=>hK0 (by rw[e];rfl);have hf:(mn (P.map (·.1)),v)∈PF F:=(hk.2 _).1 (sF hK0);generalize hfe:mn (P.map (·.1))=f at *;let nv:Int->Int:=fun x=>if x∈P.map (·.1)then nB P x else x
 have nvin:∀ u,(u,v)∈PF F->nv u=nB P u:=fun u hu=>aAk ((hk.2 u).2 hu);have nvPF:∀ u,(u,v)∈PF F->(nv u,v)∈PF F:=fun u hu=>by rw[nvin u hu];obtain⟨⟨r,hr,_,k⟩,_⟩:=E3 u hu;exact hswap _ _ (bE.2 ⟨r,hr,k⟩)
 have itPF:∀ n u,(u,v)∈PF F->(it nv n u,v)∈PF F/\it (sgV E F) n (cd (v,u))=cd (v,it nv n u):=by
  intro n;induction n with
  |zero=>intro u hu;exact⟨hu,rfl⟩
  |succ n ih=>intro u hu;obtain⟨i1,i2⟩:=ih u hu;rw[bW,bW,i2,(E3 _ i1).2,<- nvin _ i1];exact⟨nvPF _ i1,rfl⟩
 have orb:∀ u u',(u,v)∈PF F->(u',v)∈PF F->Orb nv u u':=fun u u' hu Y7=>by obtain⟨n,hn⟩:=E4 u u' hu Y7;rw[(itPF n u hu).2]at hn;have:=gR (hb _ (hswap _ _ (itPF n u hu).1)).2 (hb _ (hswap _ _ Y7)).2 hn;injection this with _ e;exact⟨n,e⟩
 have hper:∃ p,0<p/\it nv p f=f:=by obtain⟨n,hn⟩:=orb (nv f) f (nvPF f hf) hf;exact⟨n+1,oO,hn⟩
 obtain⟨p,⟨hp0,hpf⟩,F8⟩:=least (P:=fun n=>0<n/\it nv n f=f) hper.choose_spec;have hdist:∀ i j,i<j->j<p->it nv i f≠it nv j f:=by
  intro i j hij hj e;have h1:it nv (p-j) (it nv j f)=f:=by rw[<- jK,show p-j+j=p by omega,hpf]
  rw[<- e,<- jK]at h1;exact F8 (p-j+i) oO ⟨oO,h1⟩
 have hnd:((List.range p).map fun k=>it nv k f).Nodup:=by unfold List.Nodup;rw[aAU];exact(aBD (n:=p)).imp_of_mem fun {i j} _ hj hij=>hdist i j hij (aBb.1 hj)
 have E7:∀ u,u∈((List.range p).map fun k=>it nv k f)↔(u,v)∈PF F:=fun u=>by
  constructor
  .intro h;obtain⟨k,_,rfl⟩:=aAj.1 h;exact(itPF k f hf).1
  .intro hu;obtain⟨n,rfl⟩:=orb f u hf hu;exact aAj.2 ⟨n % p,aBb.2 (aBY _ hp0),(Jk hp0 hpf n).symm⟩
 have hlen:p=P.length:=by
  have:=(BA hnd hk.1 (fun x hx=>(hk.2 x).2 ((E7 x).1 hx)) (by
   refine aAy hk.1 fun x hx=>(E7 x).2 ((hk.2 x).1 hx))).length_eq
  simpa using this
 have Z4:∀ m k,k+m=p->0<m->goR P f m (it nv k f)=(List.range' k m).map fun k=>it nv k f:=by
  intro m;induction m with
  |zero=>intro k _ h;omega
  |succ m ih=>
   intro k I4 _;have e1:nB P (it nv k f)=it nv (k+1) f:=by rw[bW,nvin _ (itPF k f hf).1]
   rw[List.range'_succ,aAn,goR,e1]
   congr 1
   by_cases hm:0<m
   .rw[aAk ⟨fun e=>F8 (k+1) oO ⟨oO,e⟩,hm⟩];exact ih (k+1) oO hm
   .rw[aAa fun h=>hm h.2];have:m=0:=oO;subst this;rfl
 have hR:cC P=(List.range p).map fun k=>it nv k f:=by unfold cC;rw[hfe,<- hlen,List.range_eq_range'];exact Z4 p 0 oO hp0
 rw[hR];refine⟨hnd,?_,fun u=>?_,fun u hu=>?_⟩
 .intro e;have:=congrArg List.length e;simp at this;omega
 .rw[E7,hO.mem];constructor
  .rintro⟨e,he,k⟩;exact⟨e,he,by rw[k];exact aL _ _⟩
  .rintro⟨e,he,k⟩;exact⟨e,he,by rw[k];exact aL _ _⟩
 .have huv:=(E7 u).1 hu;obtain⟨⟨r,hr,k1,k2⟩,_⟩:=E3 u huv;refine⟨r,hr,k1,?_⟩;obtain⟨k,I4,rfl⟩:=aAj.1 hu;rw[aBb]at I4;have hl:((List.range p).map fun k=>it nv k f).length=p:=sS;have e1:=Bx hnd (j:=k) (by rw[hl];exact I4);simp only[aCy,List.getElem_range,hl]at e1;rw[e1,<- Jk hp0 hpf,bW,nvin _ huv];exact k2
end
structure Inv2(al:Int->Int)(D:List Int):Prop where
 two:∀ d,al (al d)=d
 mem:∀ d∈D,al d∈D
section
variable {al:Int->Int} {D:List Int} (hal:Inv2 al D) (H8:∀ d,d∉D->al d=d)
include hal H8
end
theorem KE{x y:Ed}:bes x y=true↔prE x=prE y:=by
 rw[qP];constructor
 .rintro(⟨h1,h2⟩|⟨h1,h2⟩)
  .show prP _ _=prP _ _;rw[h1,h2]
  .show prP _ _=prP _ _;rw[h1,h2];exact aL _ _
 .intro h;rcases bK h with⟨h1,h2⟩|⟨h1,h2⟩
  .exact .inl ⟨h1,h2⟩
  .exact .inr ⟨h1,h2⟩
theorem Ac(l:List Ed):((sE l).map prE).Nodup:=by unfold List.Nodup;rw[aAU];exact(HH l).imp fun {x y} h e=>by rw[KE.2 e]at h;cases h
theorem SG{l:List Ed}:l.Pairwise (fun x y=>x.id<y.id)->∀ x∈l,∃ y∈sE l,prE y=prE x/\y.id<=x.id:=by
 induction l using xD with
 |h0=>intro _ x hx;cases hx
 |h1 l z ih=>
  intro hp x hx;rw[aCj]at hp;rw[lU];rcases aAd.1 hx with h|h
  .obtain⟨y,h1,h2⟩:=ih hp.1 x h
   split
   .exact⟨y,h1,h2⟩
   .exact⟨y,aAr _ h1,h2⟩
  .rw[aAi]at h;subst h
   split
   .rename_i ha;rw[List.any_eq_true]at ha;obtain⟨y,h1,h2⟩:=ha;exact⟨y,h1,(KE.1 h2).symm,Int.le_of_lt (hp.2.2 y (vN _ y h1) x sS)⟩
   .exact⟨x,sS,rfl,aCV _⟩
theorem pH{α β:Type}{f:α->List β}:∀ {l:List α},l.Nodup->(∀ x∈l,(f x).Nodup)->(∀ x∈l,∀ y∈l,∀ z,z∈f x->z∈f y->x=y)->(l.flatMap f).Nodup
 |[],_,_,_=>.nil
 |x::l,hl,h1,h2=>by obtain⟨k1,k2⟩:=aAq.1 hl;rw[aAJ,aAo];refine⟨h1 x aAf,pH k2 (fun y hy=>h1 y (aAc _ hy)) fun y hy z hz=>h2 y (aAc _ hy) z (aAc _ hz),?_⟩;rintro a ha b hb rfl;obtain⟨y,hy,hay⟩:=aBk.1 hb;have:=h2 x aAf y (aAc _ hy) a ha hay;exact k1 (by rw[this];exact hy)
abbrev seg(g:Gr)(v x:Int):List Int:=gP (sW g v x) v x
def dAt(v:Int)(e:Ed):Int:=2*e.id+if e.b=v then 1 else 0
theorem oZ(v:Int)(e:Ed):dAt v e / 2=e.id:=by unfold dAt;split<;>omega
theorem EC{g:Gr}{v x:Int}{e:Ed}:e∈sW g v x↔e∈g.es/\prE e=prP v x:=by unfold sW jP;rw[aAC,aAT]
theorem zR{g:Gr}{v x d:Int}:d∈seg g v x↔∃ e∈g.es,prE e=prP v x/\d=dAt v e:=by
 unfold seg gP;have key:d∈((sW g v x).map fun e=>2*e.id+if e.b=v then 1 else 0)↔∃ e∈g.es,prE e=prP v x/\d=dAt v e:=by
  rw[aAj];constructor
  .rintro⟨e,he,rfl⟩;exact⟨e,(EC.1 he).1,(EC.1 he).2,rfl⟩
  .rintro⟨e,h1,h2,rfl⟩;exact⟨e,EC.2 ⟨h1,h2⟩,rfl⟩
 split
 .rw[aBh,key]
 .exact key
section
variable {g:Gr} (hg:GoodE g)
include hg
theorem VG{e f:Ed}(he:e∈g.es)(hf:f∈g.es)(h:e.id=f.id):e=f:=id_eq hg.ids he hf h
theorem DM(v x:Int):(seg g v x).Nodup:=by
 have key:((sW g v x).map fun e=>2*e.id+if e.b=v then 1 else 0).Nodup:=by unfold List.Nodup;rw[aAU];refine(hg.ids.sublist (aBF (p:=fun e=>decide (prE e=prP v x)))).imp fun {a b} h e=>?_;have h1:=oZ v a;have h2:=oZ v b;unfold dAt at h1 h2;omega
 unfold seg gP
 split
 .exact(aBo _).nodup_iff.2 key
 .exact key
def edD(g:Gr)(d:Int):Ed:=(g.es.find? fun e=>decide (e.id=d / 2)).getD ed0
def dvt(g:Gr)(d:Int):Int:=if d % 2=0 then(edD g d).a else(edD g d).b
def dot(g:Gr)(d:Int):Int:=if d % 2=0 then(edD g d).b else(edD g d).a
theorem VW{e:Ed}(he:e∈g.es){d:Int}(h:d / 2=e.id):edD g d=e:=by
 unfold edD;cases hf:g.es.find? fun e=>decide (e.id=d / 2) with
 |none=>exact absurd h.symm (by simpa using aDe.1 hf e he)
 |some f=>have h1:=aCh hf;have h2:=aCY hf;rw[aAT]at h2;show f=e;exact VG hg h1 he oO
theorem Wl{e:Ed}(he:e∈g.es){v x:Int}(h:prE e=prP v x):dvt g (dAt v e)=v/\dot g (dAt v e)=x:=by
 have Zy:=hg.ne e he;unfold dvt dot;rw[VW hg he (oZ v e)];unfold dAt;rcases bK h with⟨h1,h2⟩|⟨h1,h2⟩
 .rw[aAa (show ¬e.b=v by omega),aAk oO,aAk oO];exact⟨h1,h2⟩
 .rw[aAk (show e.b=v by omega),aAa oO,aAa oO];exact⟨h2,h1⟩
theorem LF{v x d:Int}(h:d∈seg g v x):dvt g d=v/\dot g d=x:=by obtain⟨e,he,hp,rfl⟩:=zR.1 h;exact Wl hg he hp
theorem Ou{v d:Int}:d∈ends g.es v↔∃ e∈g.es,(∃ x,prE e=prP v x)/\d=dAt v e:=by
 rw[cK];constructor
 .rintro⟨e,he,⟨h1,h2⟩|⟨h1,h2⟩⟩
  .have:=hg.ne e he;exact⟨e,he,⟨e.b,by rw[<- h1]⟩,by unfold dAt;rw[aAa oO];omega⟩
  .exact⟨e,he,⟨e.a,by rw[<- h1];exact aL _ _⟩,by unfold dAt;rw[aAk h1];exact h2⟩
 .rintro⟨e,he,⟨x,hp⟩,rfl⟩;have:=hg.ne e he;refine⟨e,he,?_⟩;unfold dAt;rcases bK hp with⟨h1,h2⟩|⟨h1,h2⟩
  .exact .inl ⟨h1,by rw[aAa oO];omega⟩
  .exact .inr ⟨h2,by rw[aAk h2]⟩
end
def bt(g:Gr)(F:List (List Int))(v:Int):List Int:=(cC (dS v (aV F))).flatMap (seg g v)
theorem Cc(v v':Int)(ds:List Int):∀ T:TL,eD v (oC v' ds T)=if v=v' then eD v T++ds else eD v T
 |[]=>by
  unfold oC eD eD;by_cases h:v=v'
  .simp[h]
  .rw[aAa fun e=>h e.symm,aAa h]
 |p::T=>by
  have ih:=Cc v v' ds T;unfold oC;by_cases hp:p.1=v'
  .rw[aAk hp];by_cases h:v=v'
   .simp[eD,h,hp]
   .simp only[eD,aAa h,aAa (fun e:v'=v=>h e.symm),aAa (fun e:p.1=v=>h (by rw[<- e,hp]))]
  .rw[aAa hp];by_cases h:v=v'
   .rw[aAk h]at ih ⊢;simp only[eD,aAa (fun e:p.1=v=>hp (by rw[e,h])),ih]
   .rw[aAa h]at ih ⊢;simp only[eD,ih]
theorem AJ(g:Gr)(v v':Int):∀(L:List Int) (T:TL),eD v (dU g v' L T)=if v=v' then eD v T++L.flatMap (seg g v')else eD v T
 |[],T=>by simp[dU]
 |x::L,T=>by
  have ih:=AJ g v v' L (oC v' (seg g v' x) T);have e:dU g v' (x::L) T=dU g v' L (oC v' (seg g v' x) T):=rfl;rw[e,ih,Cc];by_cases h:v=v'
  .simp[h,aAJ]
  .simp[h]
theorem BI(g:Gr)(A:Tn)(v:Int):∀(K:List Int) (T:TL),K.Nodup->eD v (fM g A K T)=if v∈K then eD v T++(cC (dS v A)).flatMap (seg g v)else eD v T
 |[],T,_=>by simp[fM]
 |k::K,T,hn=>by
  obtain⟨h1,h2⟩:=aAq.1 hn;have ih:=BI g A v K (dU g k (cC (dS k A)) T) h2;have e:fM g A (k::K) T=fM g A K (dU g k (cC (dS k A)) T):=rfl;rw[e,ih,AJ];by_cases h:v=k
  .subst h;rw[aAa h1,aAk rfl,aAk aAf]
  .rw[aAa h];by_cases h3:v∈K
   .rw[aAk h3,aAk (aAc _ h3)]
   .rw[aAa h3,aAa (sF2 h h3)]
theorem Cq{v:Int}:∀ {A:Tn},v∉A.map (·.1)->dS v A=[]
 |[],_=>rfl
 |a::A,h=>by rw[aAn,aAe,aCp]at h;unfold dS;rw[aAa fun e=>h.1 e.symm,Cq h.2]
theorem qH:cC []=[]:=rfl
theorem MJ(g:Gr)(F:List (List Int))(T:TL)(v:Int):eD v (uC g F T)=eD v T++bt g F v:=by
 have hn:(pK ((aV F).map (·.1))).Nodup:=(zQ _).imp fun k=>by omega
 unfold uC;rw[BI g _ v _ T hn]
 split
 .rfl
 .rename_i h;rw[oQ]at h;unfold bt;rw[Cq h,qH];simp
theorem CA(g:Gr):∀(bl:List (List Ed)) (T T':TL),yC g bl T=some (some T')->∃ Bs:List (List Ed×List (List Int)),Bs.map (·.1)=bl/\(∀ p∈Bs,pM p.1=some (some p.2))/\∀ v,eD v T'=eD v T++Bs.flatMap fun p=>bt g p.2 v
 |[],T,T',h=>by
  simp only[yC,aAb]at h;subst h;refine⟨[],?_,?_,?_⟩
  .rfl
  .intro p hp;cases hp
  .intro v;simp
 |l::bl,T,T',h=>by
  unfold yC at h;cases hd:pM l with
  |none=>rw[hd]at h;simp at h
  |some o=>
   rw[hd]at h;cases o with
   |none=>simp at h
   |some F=>
    simp only[Option.bind_some]at h
    split at h
    .obtain⟨Bs,h1,h2,h3⟩:=CA g bl _ T' h;refine⟨(l,F)::Bs,by rw[aAn,h1],fun p hp=>?_,fun v=>?_⟩
     .rcases aAe.1 hp with rfl|hp
      .exact hd
      .exact h2 p hp
     .rw[h3,MJ,aAJ,aAE]
    .cases h
abbrev BsT:=List (List Ed×List (List Int))
structure Sys(g:Gr)(Bs:BsT):Prop where
 gE:GoodE g
 ok:∀ p∈Bs,jJ p.1 p.2/\BlE p.1/\p.1≠[]
 flat:(Bs.flatMap (·.1)).Perm (sE g.es)
theorem Le{α β:Type}{f:α->List β}:∀ {l:List α},(l.flatMap f).Nodup->∀ x∈l,∀ y∈l,∀ z,z∈f x->z∈f y->x=y
 |[],_,_,hx,_,_,_,_,_=>by cases hx
 |a::l,hn,x,hx,y,hy,z,h1,h2=>by
  rw[aAJ,aAo]at hn;rcases aAe.1 hx with ex|hx
  .rcases aAe.1 hy with ey|hy
   .rw[ex,ey]
   .exact absurd rfl (hn.2.2 z (by rw[<- ex];exact h1) z (aBk.2 ⟨y,hy,h2⟩))
  .rcases aAe.1 hy with ey|hy
   .exact absurd rfl (hn.2.2 z (by rw[<- ey];exact h2) z (aBk.2 ⟨x,hx,h1⟩))
   .exact Le hn.2.1 x hx y hy z h1 h2
theorem Uy{α β:Type}{f:α->List β}:∀ {l:List α},(l.flatMap f).Nodup->(∀ x∈l,f x≠[])->l.Nodup/\∀ x∈l,(f x).Nodup
 |[],_,_=>⟨.nil,fun _ h=>by cases h⟩
 |a::l,hn,h=>by
  rw[aAJ,aAo]at hn;obtain⟨k1,k2⟩:=Uy hn.2.1 fun x hx=>h x (aAc _ hx);refine⟨aAq.2 ⟨fun ha=>?_,k1⟩,fun x hx=>?_⟩
  .obtain⟨z,hz⟩:=aAS _ (h a aAf);exact hn.2.2 z hz z (aBk.2 ⟨a,ha,hz⟩) rfl
  .rcases aAe.1 hx with rfl|hx
   .exact hn.1
   .exact k2 x hx
theorem sP{E:List Ed}{F:List (List Int)}(hO:jJ E F)(hE:BlE E){v:Int}(hv:v∉vsF E):dS v (aV F)=[]:=by
 have hk:=(hO.keys hE v).2;cases h:dS v (aV F) with
 |nil=>rfl
 |cons p P=>rw[h]at hk;obtain⟨e,he,hp⟩:=(hO.mem p.1 v).1 ((hk p.1).1 sS);exact absurd (gN he hp).2 hv
def xR(g:Gr)(Bs:BsT)(v:Int):List Int:=Bs.flatMap fun p=>bt g p.2 v
section
variable {g:Gr} {Bs:BsT} (hS:Sys g Bs)
include hS
theorem Sys.sim:(Bs.flatMap fun p=>p.1.map prE).Nodup:=by
 have:=(hS.flat.map prE).nodup_iff.2 (Ac g.es)
 rwa [aDP]at this
theorem Sys.nd:Bs.Nodup:=(Uy hS.sim fun p hp=>by rw[Ne,aCC];exact(hS.ok p hp).2.2).1
theorem Sys.same{p p':List Ed×List (List Int)}(hp:p∈Bs)(O1:p'∈Bs){e e':Ed}(he:e∈p.1)(he':e'∈p'.1)(h:prE e=prE e'):p=p':=
 Le hS.sim p hp p' O1 (prE e) (aAw he) (by rw[h];exact aAw he')
theorem Sys.blk{e:Ed}(he:e∈g.es):∃ p∈Bs,∃ e1∈p.1,prE e1=prE e:=by obtain⟨y,h1,h2,_⟩:=SG hS.gE.ids e he;obtain⟨p,hp,hy⟩:=aBk.1 (hS.flat.mem_iff.2 h1);exact⟨p,hp,y,hy,h2⟩
theorem Sys.bt_mem{p:List Ed×List (List Int)}(hp:p∈Bs){v d:Int}:d∈bt g p.2 v↔∃ e∈g.es,(∃ x,prE e=prP v x)/\d=dAt v e/\∃ e1∈p.1,prE e1=prE e:=by
 obtain⟨hO,hE,h0⟩:=hS.ok p hp;by_cases hv:v∈vsF p.1
 .have hR:=(hO.round hE h0 hv).2.2.1;unfold bt;rw[aBk];constructor
  .rintro⟨x,hx,hd⟩;obtain⟨e,he,N9,rfl⟩:=zR.1 hd;obtain⟨e1,X0,M7⟩:=(hR x).1 hx;exact⟨e,he,⟨x,N9⟩,rfl,e1,X0,by rw[M7,N9]⟩
  .rintro⟨e,he,⟨x,N9⟩,rfl,e1,X0,M7⟩;exact⟨x,(hR x).2 ⟨e1,X0,by rw[M7,N9]⟩,zR.2 ⟨e,he,N9,rfl⟩⟩
 .unfold bt;rw[sP hO hE hv,qH];simp only[aCS,aBV,false_iff];rintro⟨e,he,⟨x,N9⟩,_,e1,X0,M7⟩;exact hv (gN X0 (by rw[M7,N9])).1
theorem Sys.bt_nodup{p:List Ed×List (List Int)}(hp:p∈Bs)(v:Int):(bt g p.2 v).Nodup:=by
 obtain⟨hO,hE,h0⟩:=hS.ok p hp;unfold bt;by_cases hv:v∈vsF p.1
 .refine pH (hO.round hE h0 hv).1 (fun x _=>DM hS.gE v x) fun x _ y _ d h1 h2=>?_;rw[<- (LF hS.gE h1).2,(LF hS.gE h2).2]
 .rw[sP hO hE hv,qH];exact .nil
theorem Sys.turn_nodup(v:Int):(xR g Bs v).Nodup:=by refine pH hS.nd (fun p hp=>hS.bt_nodup hp v) fun p hp p' O1 d h1 h2=>?_;obtain⟨e,he,_,k1,e1,a1,a2⟩:=(hS.bt_mem hp).1 h1;obtain⟨f,hf,_,k2,f1,b1,b2⟩:=(hS.bt_mem O1).1 h2;have:e=f:=VG hS.gE he hf (by rw[<- oZ v e,<- k1,k2,oZ]);subst this;exact hS.same hp O1 a1 b1 (by rw[a2,b2])
theorem Sys.turn_mem{v d:Int}:d∈xR g Bs v↔d∈ends g.es v:=by
 unfold xR;rw[Ou hS.gE,aBk];constructor
 .rintro⟨p,hp,h⟩;obtain⟨e,he,hx,hd,_⟩:=(hS.bt_mem hp).1 h;exact⟨e,he,hx,hd⟩
 .rintro⟨e,he,hx,hd⟩;obtain⟨p,hp,e1,h1,h2⟩:=hS.blk he;exact⟨p,hp,(hS.bt_mem hp).2 ⟨e,he,hx,hd,e1,h1,h2⟩⟩
theorem Sys.turn_perm(v:Int):(xR g Bs v).Perm (ends g.es v):=
 (aBd (hS.turn_nodup v) (iL (vA hS.gE.ids v))).2 fun _=>hS.turn_mem
end
def oth(x:Ed)(v:Int):Int:=if x.a=v then x.b else x.a
abbrev eAt(es:List Ed)(i:Nat):Ed:=es.getD i ed0
def atP(es:List Ed)(v:Int):List Nat:=(List.range es.length).filter fun i=>decide ((eAt es i).a=v\/(eAt es i).b=v)
structure Bw where
 vis:List Int
 low:List Int
 stk:List Nat
 out:List (List Nat)
def nmW(V:List Int)(v:Int):Int:=if v∈V then(V.idxOf v:Int)+1 else 0
def lwW(s:Bw)(v:Int):Int:=s.low.getD (s.vis.idxOf v) 0
def mV(s:Bw)(v x:Int):Bw:={ s with low:=s.low.set (s.vis.idxOf v) x }
def eN(s:Bw)(i:Nat):Bw:={ s with stk:=s.stk++[i] }
def jI(l:List Nat)(i:Nat):Nat:=l.length-1-l.reverse.idxOf i
def sQ(n:Nat)(seg:List Nat):List Nat:=(List.range n).filter fun i=>decide (i∈seg)
def GL(n:Nat)(s:Bw)(i:Nat):Option Bw:=if i∈s.stk then some { s with stk:=s.stk.take (jI s.stk i),out:=s.out++[sQ n (s.stk.drop (jI s.stk i))] } else none
def goB(f:Bw->Nat->Option Bw):List Nat->Bw->Option Bw
 |[],s=>some s
 |i::l,s=>(f s i).bind (goB f l)
def NK(n:Nat)(v mine:Int)(i:Nat)(u:Int)(s1:Bw):Option Bw:=
 if mine<=lwW s1 u then GL n (mV s1 v (min (lwW s1 v) (lwW s1 u))) i else some (mV s1 v (min (lwW s1 v) (lwW s1 u)))
def gY(rec:Int->Int->Bw->Option Bw)(es:List Ed)(v y9 mine:Int)(s:Bw)(i:Nat):Option Bw:=
 if(i:Int)=y9 then some s
 else if oth (eAt es i) v∈s.vis then
  (if nmW s.vis (oth (eAt es i) v)<mine then some (mV (eN s i) v (min (lwW s v) (nmW s.vis (oth (eAt es i) v))))else some s)
 else(rec (oth (eAt es i) v) i (eN s i)).bind (NK es.length v mine i (oth (eAt es i) v))
def oE(s:Bw)(v:Int):Bw:={ s with vis:=s.vis++[v],low:=s.low++[(s.vis.length:Int)+1] }
def nQ(es:List Ed):Nat->Int->Int->Bw->Option Bw
 |0,_,_,_=>none
 |n+1,v,y9,s=>goB (gY (nQ es n) es v y9 ((s.vis.length:Int)+1)) (atP es v) (oE s v)
def sN(es:List Ed)(n:Nat):List Int->Bw->Option Bw
 |[],s=>some s
 |v::l,s=>if v∈s.vis then sN es n l s else(nQ es n v (-1) s).bind (sN es n l)
inductive RIn(es:List Ed)(S:Int->Prop)(x:Int):Int->Prop
 |refl (h:S x):RIn es S x x
 |step {y z:Int} (h:RIn es S x y) (hz:z∈nbr es y) (hs:S z):RIn es S x z
theorem RIn.here{es:List Ed}{S:Int->Prop}{x y:Int}(h:RIn es S x y):S x/\S y:=by
 induction h with
 |refl h=>grind
 |step _ _ hs ih=>grind
theorem RIn.trans{es:List Ed}{S:Int->Prop}{x y z:Int}(h:RIn es S x y)(k:RIn es S y z):RIn es S x z:=by
 induction k with
 |refl=>exact h
 |step _ hz hs ih=>exact .step ih hz hs
theorem RIn.symm{es:List Ed}{S:Int->Prop}{x y:Int}(h:RIn es S x y):RIn es S y x:=by
 induction h with
 |refl h=>exact .refl h
 |step h hz hs ih=>exact(RIn.step (.refl hs) (mK hz) h.here.2).trans ih
theorem RIn.mono{es:List Ed}{S S':Int->Prop}{x y:Int}(h:RIn es S x y)(hS:∀ z,S z->S' z):RIn es S' x y:=by
 induction h with
 |refl h=>exact .refl (hS _ h)
 |step _ hz hs ih=>exact .step ih hz (hS _ hs)
theorem RIn.closed{es:List Ed}{S L:Int->Prop}{x y:Int}(h:RIn es S x y)(hx:L x)(hc:∀ z,L z->∀ w∈nbr es z,S w->L w):L y:=by
 induction h with
 |refl=>omega
 |step h hz hs ih=>grind
def RB(es:List Ed)(w:Int)(x y:Ed):Prop:=(x.a=w\/x.b=w)/\(y.a=w\/y.b=w)/\RIn es (·≠w) (oth x w) (oth y w)
def Gb(es:List Ed)(x y:Ed):Prop:=∃ w,RB es w x y
theorem Gb.symm{es:List Ed}{x y:Ed}:Gb es x y->Gb es y x:=fun⟨w,h1,h2,h3⟩=>⟨w,h2,h1,h3.symm⟩
inductive mE(es:List Ed)(i:Nat):Nat->Prop
 |refl:mE es i i
 |step {j k:Nat} (h:mE es i j) (hj:j<es.length) (hk:k<es.length) (hr:Gb es (eAt es j) (eAt es k)):mE es i k
theorem mE.trans{es:List Ed}{i j k:Nat}(h:mE es i j)(h2:mE es j k):mE es i k:=by
 induction h2 with
 |refl=>exact h
 |step _ hj hk hr ih=>exact .step ih hj hk hr
theorem mE.symm{es:List Ed}{i j:Nat}(h:mE es i j):mE es j i:=by
 induction h with
 |refl=>exact .refl
 |step _ hj hk hr ih=>exact(mE.step .refl hk hj hr.symm).trans ih
structure fB(es:List Ed)(B:List Nat):Prop where
 ne:B≠[]
 rise:B.Pairwise (· < ·)
 lt:∀ i∈B,i<es.length
 rel:∀ i∈B,∀ j∈B,mE es i j
 all:∀ i∈B,∀ j,j<es.length->Gb es (eAt es i) (eAt es j)->j∈B
theorem fB.iff{es:List Ed}{B:List Nat}(h:fB es B){i j:Nat}(hi:i∈B):j∈B↔mE es i j:=by
 refine⟨h.rel i hi j,fun hr=>?_⟩;induction hr with
 |refl=>omega
 |step _ _ hk hr ih=>exact h.all _ ih _ hk hr
theorem aS{es:List Ed}{v:Int}{i:Nat}:i∈atP es v↔i<es.length/\((eAt es i).a=v\/(eAt es i).b=v):=by
 grind [atP]
theorem Ec{es:List Ed}{i:Nat}(h:i<es.length):eAt es i∈es:=by
 grind
theorem lR{x:Ed}{v:Int}(h:x.a=v\/x.b=v):oth x (oth x v)=v:=by
 grind [oth]
theorem nT(x:Ed)(v:Int):x.a=oth x v\/x.b=oth x v:=by
 grind [oth]
theorem Vq{x:Ed}{v:Int}(h:x.a≠x.b)(hv:x.a=v\/x.b=v):oth x v≠v:=by
 grind [oth]
theorem fO{x:Ed}{v:Int}(hv:x.a=v\/x.b=v)(c:Int):(x.a=c\/x.b=c)↔(c=v\/c=oth x v):=by
 grind [oth]
theorem lK{es:List Ed}{i:Nat}{v:Int}(h:i∈atP es v):oth (eAt es i) v∈nbr es v:=by
 grind [aS,dB,oth]
theorem Lt{es:List Ed}{v w:Int}(h:w∈nbr es v):∃ i∈atP es v,oth (eAt es i) v=w:=by
 rw[dB]at h;obtain⟨x,hx,h⟩:=h;obtain⟨i,hi,rfl⟩:=aAA hx;have e:eAt es i=es[i]:=eH _ _ hi
 grind [aS,oth]
theorem zD{es:List Ed}{i:Nat}{v:Int}(h:i∈atP es v):i∈atP es (oth (eAt es i) v):=aS.2 ⟨(aS.1 h).1,nT _ _⟩
structure yH(g:Gr)(A:Int->Prop)(s:Bw)(v y9:Int):Prop where
 ln:s.low.length=s.vis.length
 nd:s.vis.Nodup
 act:∀ a,A a->a∈s.vis
 fin:∀ w∈s.vis,¬A w->∀ i∈atP g.es w,oth (eAt g.es i) w∈s.vis
 new:v∉s.vis
 con:∀ a b,A a->A b->RIn g.es A a b
 par:(y9 = -1/\∀ a,¬A a)\/∃ i:Nat,y9=i/\i∈atP g.es v/\A (oth (eAt g.es i) v)
structure Kg(g:Gr)(s:Bw)(v y9:Int)(s1:Bw)(C:List Int)(T:List Nat)(N:List (List Nat)):Prop where
 vis:s1.vis=s.vis++C
 hd:v∈C
 nd:s1.vis.Nodup
 ln:s1.low.length=s1.vis.length
 low:∀ w∈s.vis,lwW s1 w=lwW s w
 clo:∀ c∈C,∀ i∈atP g.es c,oth (eAt g.es i) c∈s1.vis
 stk:s1.stk=s.stk++T
 out:s1.out=s.out++N
 pl:∀ i,(i∈T++N.flatten)↔i<g.es.length/\(i:Int)≠y9/\((eAt g.es i).a∈C\/(eAt g.es i).b∈C)
 pn:(T++N.flatten).Nodup
 lw1:lwW s1 v<=(s.vis.length:Int)+1
 lw2:∀ c∈C,∀ i∈atP g.es c,(i:Int)≠y9->oth (eAt g.es i) c∉C->lwW s1 v<=nmW s.vis (oth (eAt g.es i) c)
 lw3:lwW s1 v<(s.vis.length:Int)+1->∃ c∈C,∃ i∈atP g.es c,(i:Int)≠y9/\oth (eAt g.es i) c∈s.vis/\nmW s.vis (oth (eAt g.es i) c)=lwW s1 v
 rel:∀ i∈T,∃ b:Nat,y9=b/\mE g.es b i
 good:∀ B∈N,fB g.es B
 cn:∀ c∈C,RIn g.es (·∈C) v c
structure BLp(g:Gr)(s0:Bw)(v y9:Int)(Q:List Nat)(s:Bw)(D:List Int)(T:List Nat)(N:List (List Nat)):Prop where
 vis:s.vis=s0.vis++v::D
 nd:s.vis.Nodup
 ln:s.low.length=s.vis.length
 low:∀ w∈s0.vis,lwW s w=lwW s0 w
 qs:∀ i∈Q,i∈atP g.es v
 cloQ:∀ i∈Q,oth (eAt g.es i) v∈s.vis
 cloD:∀ c∈D,∀ i∈atP g.es c,oth (eAt g.es i) c∈s.vis
 stk:s.stk=s0.stk++T
 out:s.out=s0.out++N
 pl:∀ i,(i∈T++N.flatten)↔i<g.es.length/\(i:Int)≠y9/\(((eAt g.es i).a∈D\/(eAt g.es i).b∈D)\/(i∈Q/\oth (eAt g.es i) v∈s0.vis))
 pn:(T++N.flatten).Nodup
 lw1:lwW s v<=(s0.vis.length:Int)+1
 lwD:∀ c∈D,∀ i∈atP g.es c,oth (eAt g.es i) c∉D->oth (eAt g.es i) c≠v->lwW s v<=nmW s0.vis (oth (eAt g.es i) c)
 lwQ:∀ i∈Q,(i:Int)≠y9->oth (eAt g.es i) v∈s0.vis->lwW s v<=nmW s0.vis (oth (eAt g.es i) v)
 lw3:lwW s v<(s0.vis.length:Int)+1->∃ c∈v::D,∃ i∈atP g.es c,(i:Int)≠y9/\oth (eAt g.es i) c∈s0.vis/\nmW s0.vis (oth (eAt g.es i) c)=lwW s v
 rel:∀ i∈T,∃ b:Nat,y9=b/\mE g.es b i
 good:∀ B∈N,fB g.es B
 cn:∀ c∈D,RIn g.es (fun x=>x=v\/x∈D) v c
theorem FO{V W:List Int}{x:Int}(h:x∈V):nmW (V++W) x=nmW V x:=by
 grind [nmW]
theorem Ke{V W:List Int}{x:Int}(h:x∉V)(h2:x∈W):(V.length:Int)+1<=nmW (V++W) x:=by
 grind [nmW]
theorem QZ{V:List Int}{x:Int}(h:x∈V):nmW V x<(V.length:Int)+1:=by
 grind [nmW]
theorem Et{s:Bw}(hl:s.low.length=s.vis.length){v w x:Int}(hv:v∈s.vis)(hw:w∈s.vis):lwW (mV s v x) w=if w=v then x else lwW s w:=by
 unfold lwW mV;have h1:=aAR hv;have h2:=aAR hw;simp only;rw[bB _ _ (by grind),List.getElem_set,bB _ _ oO];by_cases e:w=v
 .grind
 .rw[aAa e,aAa];intro k;apply e;have e1:=aBA h1
  grind
theorem Tj{s:Bw}{v w:Int}(hl:s.low.length=s.vis.length)(hw:w∈s.vis):lwW (oE s v) w=lwW s w:=by
 grind [lwW,oE]
theorem PY{s:Bw}{v:Int}(hl:s.low.length=s.vis.length)(hv:v∉s.vis):lwW (oE s v) v=(s.vis.length:Int)+1:=by
 grind [lwW,oE]
theorem wV{P R:List Nat}{i:Nat}(h:i∉R):jI (P++i::R) i=P.length:=by
 grind [jI]
theorem kQ{n:Nat}{S:List Nat}{i:Nat}:i∈sQ n S↔i<n/\i∈S:=by
 grind [sQ]
theorem wY(n:Nat)(S:List Nat):(sQ n S).Pairwise (· < ·):=aCw _ (aBD)
theorem vF{n:Nat}{S:List Nat}(hn:S.Nodup)(hl:∀ i∈S,i<n):(sQ n S).Perm S:=
 (aBd ((wY n S).imp fun h=>aBW h) hn).2 fun i=>by grind [kQ]
section
variable {g:Gr} (hg:GoodE g)
include hg
theorem vM{i:Nat}{v:Int}(h:i∈atP g.es v):oth (eAt g.es i) v≠v:=Vq (hg.ne _ (Ec (aS.1 h).1)) (aS.1 h).2
omit hg in
theorem yH.start{A:Int->Prop}{s:Bw}{v y9:Int}(h:yH g A s v y9):BLp g s v y9 [] (oE s v) [] [] [] where
 vis:=rfl
 nd:=by show(s.vis++[v]).Nodup;rw[aAo];exact⟨h.nd,sS,fun a ha b hb=>by rintro rfl;rw[aAi]at hb;subst hb;exact h.new ha⟩
 ln:=by show(s.low++[_]).length=(s.vis++[v]).length;simp[h.ln]
 low:=fun w hw=>Tj h.ln hw
 qs:=fun i hi=>by grind
 cloQ:=fun i hi=>by grind
 cloD:=fun i hi=>by grind
 stk:=by show s.stk=s.stk++[];simp
 out:=by show s.out=s.out++[];simp
 pl:=fun i=>by simp
 pn:=sS
 lw1:=by rw[PY h.ln h.new];omega
 lwD:=fun i hi=>by grind
 lwQ:=fun i hi=>by grind
 lw3:=fun hl=>by rw[PY h.ln h.new]at hl;omega
 rel:=fun i hi=>by grind
 good:=fun i hi=>by grind
 cn:=fun i hi=>by grind
theorem BLp.done{A:Int->Prop}{s0 s:Bw}{v y9:Int}{D:List Int}{T:List Nat}{N:List (List Nat)}(h0:yH g A s0 v y9)(h:BLp g s0 v y9 (atP g.es v) s D T N):Kg g s0 v y9 s (v::D) T N where
 vis:=h.vis
 hd:=sS
 nd:=h.nd
 ln:=h.ln
 low:=h.low
 clo:=fun c hc i hi=>by
  rcases aAe.1 hc with rfl|hc
  .exact h.cloQ i hi
  .exact h.cloD c hc i hi
 stk:=h.stk
 out:=h.out
 pl:=fun i=>by
  rw[h.pl i];refine⟨fun⟨h1,h2,h3⟩=>⟨h1,h2,?_⟩,fun⟨h1,h2,h3⟩=>⟨h1,h2,?_⟩⟩
  .rcases h3 with(h3|h3)|⟨h3,_⟩
   .grind
   .grind
   grind [aS]
  .by_cases hv:(eAt g.es i).a=v\/(eAt g.es i).b=v
   .have hi:i∈atP g.es v:=aS.2 ⟨h1,hv⟩;have hq:=h.cloQ i hi;rw[h.vis,aAd,aAe]at hq;rcases hq with hq|hq|hq
    .grind
    .grind [vM]
    grind [nT]
   grind
 pn:=h.pn
 lw1:=h.lw1
 lw2:=fun c hc i hi hb ho=>by
  have ho2:=ho;rw[aAe,aCp]at ho2;rcases aAe.1 hc with rfl|hc
  .refine h.lwQ i hi hb ?_;have hq:=h.cloQ i hi;rw[h.vis,aAd]at hq
   grind
  .exact h.lwD c hc i hi ho2.2 ho2.1
 lw3:=h.lw3
 rel:=h.rel
 good:=h.good
 cn:=fun c hc=>by
  rcases aAe.1 hc with rfl|hc
  .exact .refl sS
  .exact(h.cn c hc).mono fun z hz=>aAe.2 hz
end
theorem zF{x:Ed}{L:List Int}{w:Int}(hw:w∈L)(he:x.a=w\/x.b=w)(ho:oth x w∈L):x.a∈L/\x.b∈L:=by
 have e1:=(fO he x.a).1 (.inl rfl);have e2:=(fO he x.b).1 (.inr rfl)
 grind
section
variable {g:Gr} (hg:GoodE g) {A:Int->Prop} {s0 s:Bw} {v y9:Int} {Q:List Nat} {D:List Int} {T:List Nat} {N:List (List Nat)} (h0:yH g A s0 v y9) (h:BLp g s0 v y9 Q s D T N)
include hg h0 h
theorem BLp.v_in:v∈s.vis:=by rw[h.vis];simp
theorem BLp.old_in{w:Int}(hw:w∈s0.vis):w∈s.vis:=by rw[h.vis];grind
theorem BLp.d_in{w:Int}(hw:w∈D):w∈s.vis:=by rw[h.vis];grind
theorem BLp.by_out{b:Nat}(hb:y9=b):oth (eAt g.es b) v∈s0.vis/\b∈atP g.es v/\A (oth (eAt g.es b) v):=by
 rcases h0.par with⟨h1,_⟩|⟨i,h1,h2,h3⟩
 .omega
 .obtain rfl:i=b:=oO;exact⟨h0.act _ h3,h2,h3⟩
theorem BLp.d_new{d:Int}(hd:d∈D):d∉s0.vis/\d≠v:=by
 have hn:=h.nd;rw[h.vis,aAo]at hn
 grind
theorem BLp.pl_in{j:Nat}(hj:j∈T++N.flatten):(eAt g.es j).a∈s.vis/\(eAt g.es j).b∈s.vis:=by
 obtain⟨h1,_,h3⟩:=(h.pl j).1 hj;rcases h3 with(k|k)|⟨k,ho⟩
 .exact zF (h.d_in hg h0 k) (.inl rfl) (h.cloD _ k j (aS.2 ⟨h1,.inl rfl⟩))
 .exact zF (h.d_in hg h0 k) (.inr rfl) (h.cloD _ k j (aS.2 ⟨h1,.inr rfl⟩))
 .exact zF (h.v_in hg h0) (aS.1 (h.qs j k)).2 (h.cloQ j k)
theorem BLp.back_act{c:Int}(hc:c∉s0.vis){i:Nat}(hi:i∈atP g.es c)(ho:oth (eAt g.es i) c∈s0.vis):A (oth (eAt g.es i) c):=
 aAI fun hA=>hc (by
  have:=h0.fin _ ho hA i (zD hi)
  grind [lR,aS])
theorem BLp.same{i:Nat}(hi:i∈atP g.es v)(hb:(i:Int)=y9):BLp g s0 v y9 (Q++[i]) s D T N where
 vis:=h.vis
 nd:=h.nd
 ln:=h.ln
 low:=h.low
 qs:=fun j hj=>by rcases aAd.1 hj with k|k;exact h.qs j k;grind
 cloQ:=fun j hj=>by
  rcases aAd.1 hj with k|k
  .exact h.cloQ j k
  .rw[aAi]at k;subst k;exact h.old_in hg h0 (h.by_out hg h0 hb.symm).1
 cloD:=h.cloD
 stk:=h.stk
 out:=h.out
 pl:=fun j=>by
  rw[h.pl j,aAd,aAi]
  grind
 pn:=h.pn
 lw1:=h.lw1
 lwD:=h.lwD
 lwQ:=fun j hj hjb=>by
  rcases aAd.1 hj with k|k
  .exact h.lwQ j k hjb
  grind
 lw3:=h.lw3
 rel:=h.rel
 good:=h.good
 cn:=h.cn
theorem BLp.skip{i:Nat}(hi:i∈atP g.es v)(c8:oth (eAt g.es i) v∈s.vis)(hn:¬nmW s.vis (oth (eAt g.es i) v)<(s0.vis.length:Int)+1):BLp g s0 v y9 (Q++[i]) s D T N:=by
 have H8:oth (eAt g.es i) v∉s0.vis:=fun k=>hn (by rw[h.vis,FO k];exact QZ k)
 exact {
 vis:=h.vis
 nd:=h.nd
 ln:=h.ln
 low:=h.low
 qs:=fun j hj=>by rcases aAd.1 hj with k|k;exact h.qs j k;grind
 cloQ:=fun j hj=>by
  rcases aAd.1 hj with k|k
  .exact h.cloQ j k
  grind
 cloD:=h.cloD
 stk:=h.stk
 out:=h.out
 pl:=fun j=>by
  rw[h.pl j,aAd,aAi]
  grind
 pn:=h.pn
 lw1:=h.lw1
 lwD:=h.lwD
 lwQ:=fun j hj hjb=>by
  rcases aAd.1 hj with k|k
  .exact h.lwQ j k hjb
  grind
 lw3:=h.lw3
 rel:=h.rel
 good:=h.good
 cn:=h.cn }
theorem BLp.act_to{b:Nat}(hb:y9=b){a:Int}(ha:A a):RIn g.es (·≠v) a (oth (eAt g.es b) v):=
 (h0.con _ _ ha (h.by_out hg h0 hb).2.2).mono fun z hz e=>by subst e;exact h0.new (h0.act _ hz)
theorem BLp.no_root{a:Int}(ha:A a):∃ b:Nat,y9=b:=by
 rcases h0.par with⟨_,h2⟩|⟨b,h2,_⟩
 .grind
 grind
theorem BLp.back{i:Nat}(hi:i∈atP g.es v)(hiQ:i∉Q)(hib:(i:Int)≠y9)(c8:oth (eAt g.es i) v∈s.vis)(hn:nmW s.vis (oth (eAt g.es i) v)<(s0.vis.length:Int)+1):
 BLp g s0 v y9 (Q++[i]) (mV (eN s i) v (min (lwW s v) (nmW s.vis (oth (eAt g.es i) v)))) D (T++[i]) N:=by
 have L5:oth (eAt g.es i) v∈s0.vis:=aAI fun k=>by have h1:=c8;rw[h.vis,aAd]at h1;have:=Ke k (h1.resolve_left k);rw[h.vis]at hn;omega
 have hA:=h.back_act hg h0 h0.new hi L5;have X5:=h.v_in hg h0;have hnm:nmW s.vis (oth (eAt g.es i) v)=nmW s0.vis (oth (eAt g.es i) v):=by rw[h.vis,FO L5]
 have X8:∀ w∈s.vis,∀ x,lwW (mV (eN s i) v x) w=if w=v then x else lwW s w:=fun w hw x=>Et (s:=eN s i) h.ln X5 hw
 have X3:i∉T++N.flatten:=fun k=>by
  obtain⟨_,_,h3⟩:=(h.pl i).1 k;rcases h3 with(k2|k2)|⟨k2,_⟩
  .rcases(fO (aS.1 hi).2 _).1 (.inl rfl)with e|e
   .rw[e]at k2;exact(h.d_new hg h0 k2).2 rfl
   .rw[e]at k2;exact(h.d_new hg h0 k2).1 L5
  .rcases(fO (aS.1 hi).2 _).1 (.inr rfl)with e|e
   .rw[e]at k2;exact(h.d_new hg h0 k2).2 rfl
   .rw[e]at k2;exact(h.d_new hg h0 k2).1 L5
  grind
 exact {
 vis:=h.vis
 nd:=h.nd
 ln:=by show(s.low.set _ _).length=_;rw[aCH];exact h.ln
 low:=fun w hw=>by rw[X8 w (h.old_in hg h0 hw),aAa (fun e=>h0.new (by grind))];exact h.low w hw
 qs:=fun j hj=>by rcases aAd.1 hj with k|k;exact h.qs j k;grind
 cloQ:=fun j hj=>by
  rcases aAd.1 hj with k|k
  .exact h.cloQ j k
  .rw[aAi]at k;subst k;exact c8
 cloD:=h.cloD
 stk:=by show s.stk++[i]=_;rw[h.stk,aAE]
 out:=h.out
 pl:=fun j=>by
  rw[aAE,aAd,aAd,or_left_comm,<- aAd,h.pl j,aAi,aAd,aAi]
  grind [aS]
 pn:=by rw[aAE];refine((aCe (a:=i) (l₁:=T) (l₂:=N.flatten)).nodup_iff).2 ?_;exact aAq.2 ⟨X3,h.pn⟩
 lw1:=by grind
 lwD:=fun c hc j hj h1 h2=>by rw[X8 v X5,aAk rfl];have:=h.lwD c hc j hj h1 h2;omega
 lwQ:=fun j hj hjb ho=>by
  rw[X8 v X5,aAk rfl];rcases aAd.1 hj with k|k
  .have:=h.lwQ j k hjb ho;omega
  grind
 lw3:=fun hl=>by
  rw[X8 v X5,aAk rfl]at hl ⊢;by_cases F8:lwW s v<=nmW s.vis (oth (eAt g.es i) v)
  .rw[Int.min_eq_left F8]at hl ⊢;exact h.lw3 hl
  grind
 rel:=fun j hj=>by
  rcases aAd.1 hj with k|k
  .exact h.rel j k
  .rw[aAi]at k;subst k;obtain⟨b,hb⟩:=h.no_root hg h0 hA;obtain⟨_,b2,_⟩:=h.by_out hg h0 hb;exact⟨b,hb,.step .refl (aS.1 b2).1 (aS.1 hi).1 ⟨v,(aS.1 b2).2,(aS.1 hi).2,(h.act_to hg h0 hb hA).symm⟩⟩
 good:=h.good
 cn:=h.cn }
end
section
variable {g:Gr} (hg:GoodE g) {A:Int->Prop} {s0 s:Bw} {v y9:Int} {Q:List Nat} {D:List Int} {T:List Nat} {N:List (List Nat)} (h0:yH g A s0 v y9) (h:BLp g s0 v y9 Q s D T N)
include hg h0 h
theorem BLp.pre{i:Nat}(hi:i∈atP g.es v)(H8:oth (eAt g.es i) v∉s.vis):yH g (fun a=>A a\/a=v) (eN s i) (oth (eAt g.es i) v) i where
 ln:=h.ln
 nd:=h.nd
 act:=fun a ha=>by
  rcases ha with ha|e
  .exact h.old_in hg h0 (h0.act _ ha)
  .show a∈s.vis;rw[e];exact h.v_in hg h0
 fin:=fun w hw hA j hj=>by
  have F0:w∈s.vis:=hw;show oth (eAt g.es j) w∈s.vis;rw[h.vis,aAd,aAe]at F0;rcases F0 with k|k|k
  .exact h.old_in hg h0 (h0.fin w k (fun x=>hA (.inl x)) j hj)
  .omega
  .exact h.cloD w k j hj
 new:=H8
 con:=by
  have up:∀ a b,A a->A b->RIn g.es (fun a=>A a\/a=v) a b:=fun a b ha hb=>(h0.con a b ha hb).mono fun z hz=>.inl hz;have tov:∀ a,A a->RIn g.es (fun a=>A a\/a=v) a v:=fun a ha=>by obtain⟨b,hb⟩:=h.no_root hg h0 ha;obtain⟨_,b2,b3⟩:=h.by_out hg h0 hb;exact .step (up a _ ha b3) (mK (lK b2)) (.inr rfl)
  rintro a b (ha|rfl) (hb|rfl)
  .grind
  .grind
  .exact(tov b hb).symm
  .exact .refl (.inr rfl)
 par:=.inr ⟨i,rfl,zD hi,.inr (lR (aS.1 hi).2)⟩
theorem BLp.child{i:Nat}(hi:i∈atP g.es v)(hiQ:i∉Q)(hib:(i:Int)≠y9)(H8:oth (eAt g.es i) v∉s.vis){s1:Bw}{C:List Int}{T':List Nat}{N':List (List Nat)}
 (hp:Kg g (eN s i) (oth (eAt g.es i) v) i s1 C T' N'):∃ s2 D2 T2 N2,NK g.es.length v ((s0.vis.length:Int)+1) i (oth (eAt g.es i) v) s1=some s2/\BLp g s0 v y9 (Q++[i]) s2 D2 T2 N2:=by
 obtain⟨u,hu⟩:∃ u,u=oth (eAt g.es i) v:=⟨_,rfl⟩;have X5:=h.v_in hg h0;have V9:s1.vis=s.vis++C:=hp.vis;have hvis2:s1.vis=s0.vis++v::(D++C):=by rw[V9,h.vis,aAE];rfl
 have U7:v∈s1.vis:=by rw[V9];exact aAr _ X5
 have hcn:∀ c∈C,c∉s.vis:=fun c hc k=>by
  have:=hp.nd
  grind
 have Y8:(eAt g.es i).a=v\/(eAt g.es i).b=v:=(aS.1 hi).2;have hil:=(aS.1 hi).1;have huC:u∈C:=by rw[hu];exact hp.hd
 have hu1:u∈s1.vis:=by rw[V9];exact aAx _ huC
 have huv:u≠v:=by rw[hu];exact vM hg hi
 have hlen:s.vis.length=s0.vis.length+1+D.length:=by rw[h.vis,aAm,List.length_cons];omega
 have hlv:lwW s1 v=lwW s v:=hp.low v X5;have inS:∀ {j:Nat},j∈T++N.flatten->¬((eAt g.es j).a∈C\/(eAt g.es j).b∈C):=fun hj k=>by
  have:=h.pl_in hg h0 hj
  grind
 have byC:∀ b:Nat,y9=b->¬((eAt g.es b).a∈C\/(eAt g.es b).b∈C):=fun b hb k=>by
  obtain⟨b1,b2,_⟩:=h.by_out hg h0 hb;have:=zF X5 (aS.1 b2).2 (h.old_in hg h0 b1)
  grind
 have iC:(eAt g.es i).a∈C\/(eAt g.es i).b∈C:=by
  rcases nT (eAt g.es i) v with e|e
  .grind
  .grind
 have iT':i∉T'++N'.flatten:=fun k=>((hp.pl i).1 k).2.1 rfl;have X3:∀ j,(j=i\/j∈T'++N'.flatten)↔j<g.es.length/\((eAt g.es j).a∈C\/(eAt g.es j).b∈C):=fun j=>by
  rw[hp.pl j]
  grind
 have M8:∀ j,(j∈T++N.flatten\/(j=i\/j∈T'++N'.flatten))↔j<g.es.length/\(j:Int)≠y9/\(((eAt g.es j).a∈D++C\/(eAt g.es j).b∈D++C)\/(j∈Q++[i]/\oth (eAt g.es j) v∈s0.vis)):=fun j=>by
  rw[h.pl j,X3 j]
  grind
 have hnd:((T++N.flatten)++i::(T'++N'.flatten)).Nodup:=by rw[aAo];refine⟨h.pn,aAq.2 ⟨iT',hp.pn⟩,fun a ha b hb=>?_⟩;rintro rfl;exact inS ha ((X3 a).1 (aAe.1 hb)).2
 have U3:∀ x,∀ w∈s1.vis,lwW (mV s1 v x) w=if w=v then x else lwW s1 w:=fun x w hw=>Et hp.ln U7 hw
 have hold1:∀ w∈s0.vis,w≠v:=fun w hw e=>h0.new (by grind);have nm0:∀ w∈s0.vis,nmW s.vis w=nmW s0.vis w:=fun w hw=>by rw[h.vis,FO hw]
 have wit:lwW s1 u<(s0.vis.length:Int)+1->∃ c∈C,∃ j∈atP g.es c,j≠i/\oth (eAt g.es j) c∈s0.vis/\nmW s0.vis (oth (eAt g.es j) c)=lwW s1 u:=fun hl=>by
  have Y1:lwW s1 u<((eN s i).vis.length:Int)+1:=by show _<(s.vis.length:Int)+1;omega
  rw[hu]at Y1;obtain⟨c,hc,j,hj,hji,ho,he⟩:=hp.lw3 Y1;have he:nmW s.vis (oth (eAt g.es j) c)=lwW s1 u:=by rw[hu];exact he
  have c8:oth (eAt g.es j) c∈s.vis:=ho;have h1:oth (eAt g.es j) c∈s0.vis:=aAI fun k=>by have h2:=c8;rw[h.vis,aAd]at h2;have:=Ke k (h2.resolve_left k);rw[<- h.vis]at this;omega
  grind
 have base:∀(s2:Bw) (T2:List Nat) (N2:List (List Nat)),s2.vis=s1.vis->s2.low=(mV s1 v (min (lwW s1 v) (lwW s1 u))).low->s2.stk=s0.stk++T2->s2.out=s0.out++N2->
  (T2++N2.flatten).Perm ((T++N.flatten)++i::(T'++N'.flatten))->(∀ j∈T2,∃ b:Nat,y9=b/\mE g.es b j)->(∀ B∈N2,fB g.es B)->BLp g s0 v y9 (Q++[i]) s2 (D++C) T2 N2:=fun s2 T2 N2 e1 e2 e3 e4 hperm hrel hgood=>by
  have X8:∀ w∈s1.vis,lwW s2 w=if w=v then min (lwW s1 v) (lwW s1 u)else lwW s1 w:=fun w hw=>by rw[<- U3 _ w hw];unfold lwW;rw[e1,e2];rfl
  exact {
  vis:=by grind
  nd:=by rw[e1];exact hp.nd
  ln:=by rw[e1,e2];show(s1.low.set _ _).length=_;rw[aCH];exact hp.ln
  low:=fun w hw=>by have K3:=h.old_in hg h0 hw;rw[X8 w (by grind),aAa (hold1 w hw),hp.low w K3];exact h.low w hw
  qs:=fun j hj=>by rcases aAd.1 hj with k|k;exact h.qs j k;grind
  cloQ:=fun j hj=>by
   rw[e1];rcases aAd.1 hj with k|k
   .rw[V9];exact aAr _ (h.cloQ j k)
   grind
  cloD:=fun c hc j hj=>by
   rw[e1];rcases aAd.1 hc with k|k
   .rw[V9];exact aAr _ (h.cloD c k j hj)
   .exact hp.clo c k j hj
  stk:=e3
  out:=e4
  pl:=fun j=>by rw[hperm.mem_iff,<- M8 j,aAd,aAe]
  pn:=hperm.nodup_iff.2 hnd
  lw1:=by rw[X8 v U7,aAk rfl,hlv];have:=h.lw1;omega
  lwD:=fun c hc j hj h1 h2=>by
   rw[X8 v U7,aAk rfl,hlv];rw[aAd,aCp]at h1;rcases aAd.1 hc with k|k
   .have:=h.lwD c k j hj h1.1 h2;omega
   .have hji:(j:Int)≠i:=fun e=>by
     obtain rfl:j=i:=oO;rcases(fO Y8 c).1 (aS.1 hj).2 with e|e
     .grind
     grind [lR]
    have h3:=hp.lw2 c k j hj hji h1.2;have h4:lwW s1 u<=nmW s.vis (oth (eAt g.es j) c):=by rw[hu];exact h3
    have c8:=hp.clo c k j hj;rw[hvis2,aAd,aAe,aAd]at c8;have c8:=c8.resolve_right fun x=>by rcases x with x|x|x;exact h2 x;exact h1.1 x;grind
    rw[nm0 _ c8]at h4;omega
  lwQ:=fun j hj hjb ho=>by
   rw[X8 v U7,aAk rfl,hlv];rcases aAd.1 hj with k|k
   .have:=h.lwQ j k hjb ho;omega
   .rw[aAi]at k;subst k;exact absurd (h.old_in hg h0 ho) H8
  lw3:=fun hl=>by
   rw[X8 v U7,aAk rfl]at hl ⊢;by_cases F8:lwW s1 v<=lwW s1 u
   .rw[Int.min_eq_left F8,hlv]at hl ⊢;obtain⟨c,hc,j,hj,hjb,ho,he⟩:=h.lw3 hl
    grind
   .rw[Int.min_eq_right oO]at hl ⊢;obtain⟨c,hc,j,hj,hji,ho,he⟩:=wit hl;refine⟨c,by grind,j,hj,fun e=>byC j e.symm ?_,ho,he⟩;rcases(aS.1 hj).2 with x|x
    .grind
    grind
  rel:=hrel
  good:=hgood
  cn:=fun c hc=>by
   rcases aAd.1 hc with k|k
   .exact(h.cn c k).mono fun z hz=>hz.imp_right fun x=>aAr _ x
   .have h1:=(hp.cn c k).mono (S':=fun x=>x=v\/x∈D++C) fun z hz=>.inr (aAx _ hz)
    exact(RIn.step (.refl (.inl rfl)) (lK hi) (.inr (aAx _ (by grind)))).trans h1 }
 rw[<- hu];unfold NK;by_cases hc:(s0.vis.length:Int)+1<=lwW s1 u
 .rw[aAk hc];have hstk:s1.stk=(s0.stk++T)++i::T':=by rw[hp.stk];show(s.stk++[i])++T'=_;rw[h.stk];simp
  have hiT:i∉T':=fun k=>iT' (aAr _ k);have U5:jI s1.stk i=(s0.stk++T).length:=by rw[hstk];exact wV hiT
  have hSn:(i::T').Nodup:=aAq.2 ⟨hiT,(aAo.1 hp.pn).1⟩;have hSl:∀ j∈i::T',j<g.es.length:=fun j hj=>by
   grind
  have hbp:=vF hSn hSl;have hrelS:∀ j∈i::T',mE g.es i j:=fun j hj=>by
   rcases aAe.1 hj with e|k
   .rw[e];exact .refl
   .obtain⟨b,hb,hr⟩:=hp.rel j k;obtain rfl:i=b:=oO;omega
  have hlu:∀ c∈C,∀ j∈atP g.es c,oth (eAt g.es j) c∈C\/oth (eAt g.es j) c=v:=fun c hcC j hj=>by
   by_cases e1:oth (eAt g.es j) c∈C
   .grind
   refine .inr (aAI fun e2=>?_);by_cases hji:(j:Int)=i
   .obtain rfl:j=i:=oO;rcases(fO Y8 c).1 (aS.1 hj).2 with e|e
    .grind
    grind [lR]
   .have h3:=hp.lw2 c hcC j hj hji e1;have h4:lwW s1 u<=nmW s.vis (oth (eAt g.es j) c):=by rw[hu];exact h3
    have c8:=hp.clo c hcC j hj;rw[V9]at c8;have c8:=(aAd.1 c8).resolve_right e1;have L5:oth (eAt g.es j) c∈s0.vis\/oth (eAt g.es j) c∈D:=by
     rw[h.vis,aAd,aAe]at c8;rcases c8 with k|k|k
     .grind
     .omega
     .grind
    rcases L5 with k|k
    .rw[nm0 _ k]at h4;have:=QZ k;omega
    .have:=h.cloD _ k j (zD hj)
     grind [lR,aS]
  have hgood:fB g.es (sQ g.es.length (i::T')):={
   ne:=fun e=>by
    have:i∈sQ g.es.length (i::T'):=kQ.2 ⟨hil,sS⟩
    grind
   rise:=wY _ _
   lt:=fun j hj=>(kQ.1 hj).1
   rel:=fun j hj k hk=>(hrelS j (kQ.1 hj).2).symm.trans (hrelS k (kQ.1 hk).2)
   all:=fun j hj k hk hr=>by
    have hjS:=(kQ.1 hj).2;have hjC:=((X3 j).1 ((aAe.1 hjS).imp_right fun x=>aAr _ x)).2;have hkC:(eAt g.es k).a∈C\/(eAt g.es k).b∈C:=by
     obtain⟨w,w1,w2,w3⟩:=hr;have hjw:j∈atP g.es w:=aS.2 ⟨hSl j hjS,w1⟩;have hkw:k∈atP g.es w:=aS.2 ⟨hk,w2⟩;by_cases hwC:w∈C
     .rcases w2 with e|e
      .grind
      grind
     have hoC:oth (eAt g.es j) w∈C:=by
      rcases hjC with x|x
      .rcases(fO w1 _).1 (.inl rfl)with e|e
       .grind
       grind
      .rcases(fO w1 _).1 (.inr rfl)with e|e
       .grind
       grind
     have hwv:w=v:=by have:=hlu _ hoC j (zD hjw);rw[lR w1]at this;exact this.resolve_left hwC
     subst hwv;have hq:oth (eAt g.es k) w∈C:=w3.closed (L:=(·∈C)) hoC fun z hz x hx Zy=>by
      obtain⟨l,hl,rfl⟩:=Lt hx
      grind
     rcases nT (eAt g.es k) w with e|e
     .grind
     .grind
    refine kQ.2 ⟨hk,?_⟩;rcases(X3 k).2 ⟨hk,hkC⟩with e|e
    .grind
    .rcases aAd.1 e with e|e
     .grind
     .obtain⟨B,hB,hkB⟩:=aAX.1 e;have hjB:=(hp.good B hB).all k hkB j (hSl j hjS) hr.symm;have hjN:j∈N'.flatten:=aAX.2 ⟨B,hB,hjB⟩;exfalso;rcases aAe.1 hjS with e|e
      .grind
      .exact(aAo.1 hp.pn).2.2 j e j hjN rfl }
  have hcut:GL g.es.length (mV s1 v (min (lwW s1 v) (lwW s1 u))) i=some { mV s1 v (min (lwW s1 v) (lwW s1 u))with stk:=s0.stk++T,out:=s0.out++(N++N'++[sQ g.es.length (i::T')]) }:=by unfold GL;have e1:(mV s1 v (min (lwW s1 v) (lwW s1 u))).stk=s1.stk:=rfl;have e2:(mV s1 v (min (lwW s1 v) (lwW s1 u))).out=s1.out:=rfl;rw[e1,e2,U5,aAk (by grind),hstk,aDg,aCN,hp.out];show some _=some _;have:(eN s i).out=s0.out++N:=h.out;rw[this];simp only[aAE]
  refine⟨_,D++C,T,N++N'++[sQ g.es.length (i::T')],hcut,base _ _ _ rfl rfl rfl rfl ?_ h.rel ?_⟩
  .simp only[aCz,List.flatten_cons,List.flatten_nil,aBc,aAE];refine aCg _ (aCg _ ?_);refine aBp.trans ?_;exact(hbp.append_right _)
  .intro B hB;rcases aAd.1 hB with hB|hB
   .rcases aAd.1 hB with hB|hB
    .exact h.good B hB
    .exact hp.good B hB
   grind
 .rw[aAa hc];have hl:lwW s1 u<(s0.vis.length:Int)+1:=oO;obtain⟨c,hcC,j,hj,hji,ho,he⟩:=wit hl;have hA:=h.back_act hg h0 (c:=c) (fun k=>hcn c hcC (h.old_in hg h0 k)) hj ho;obtain⟨b,hb⟩:=h.no_root hg h0 hA;obtain⟨_,b2,_⟩:=h.by_out hg h0 hb;have hbi:mE g.es b i:=by
   refine .step .refl (aS.1 b2).1 hil ⟨v,(aS.1 b2).2,Y8,?_⟩;refine(((hp.cn c hcC).mono fun z hz=>?_).trans (.step (.refl ?_) (lK hj) ?_) |>.trans (h.act_to hg h0 hb hA)).symm
   .grind
   .grind
   .grind
  refine⟨_,D++C,T++(i::T'),N++N',rfl,base _ _ _ rfl rfl ?_ ?_ ?_ ?_ ?_⟩
  .show s1.stk=_;rw[hp.stk];show(s.stk++[i])++T'=_;rw[h.stk];simp
  .show s1.out=_;rw[hp.out];show s.out++N'=_;rw[h.out];simp
  .simp only[aCz,aAE,List.cons_append];refine aCg _ ?_;have:(i::(T'++(N.flatten++N'.flatten))).Perm (N.flatten++(i::(T'++N'.flatten))):=by refine List.Perm.trans ?_ aCe.symm;refine List.Perm.cons _ ?_;rw[<- aAE,<- aAE];exact aDn _ aBp
   omega
  .intro k hk;rcases aAd.1 hk with hk|hk
   .exact h.rel k hk
   .refine⟨b,hb,hbi.trans ?_⟩;rcases aAe.1 hk with e|e
    .rw[e];exact .refl
    .obtain⟨b',hb',hr⟩:=hp.rel k e;obtain rfl:i=b':=oO;omega
  .intro B hB;rcases aAd.1 hB with hB|hB
   .exact h.good B hB
   .exact hp.good B hB
end
section
variable {g:Gr} (hg:GoodE g)
include hg
theorem KZ(n:Nat)(ih:∀(A:Int->Prop) (s:Bw) (v y9:Int),yH g A s v y9->v∈g.vs->(∀ w∈s.vis,w∈g.vs)->g.vs.length<=n+s.vis.length->∃ s1 C T N,nQ g.es n v y9 s=some s1/\Kg g s v y9 s1 C T N/\∀ c∈C,c∈g.vs)
 {A:Int->Prop} {s0:Bw} {v y9:Int} (h0:yH g A s0 v y9) (hn:g.vs.length<=n+(s0.vis.length+1)):
 ∀(R Q:List Nat) (s:Bw) (D:List Int) (T:List Nat) (N:List (List Nat)),Q++R=atP g.es v->BLp g s0 v y9 Q s D T N->(∀ w∈s.vis,w∈g.vs)->
  ∃ s1 D T N,goB (gY (nQ g.es n) g.es v y9 ((s0.vis.length:Int)+1)) R s=some s1/\BLp g s0 v y9 (atP g.es v) s1 D T N/\∀ w∈s1.vis,w∈g.vs
 |[],Q,s,D,T,N,hQ,h,hv=>⟨s,D,T,N,rfl,by grind,hv⟩
 |i::R,Q,s,D,T,N,hQ,h,hv=>by
  have hi:i∈atP g.es v:=by rw[<- hQ];simp
  have hnd:(atP g.es v).Nodup:=aCw _ aDt;have hiQ:i∉Q:=fun k=>by grind
  have hQ2:(Q++[i])++R=atP g.es v:=by rw[<- hQ];simp
  have go:∀ s2 D T N,gY (nQ g.es n) g.es v y9 ((s0.vis.length:Int)+1) s i=some s2->BLp g s0 v y9 (Q++[i]) s2 D T N->(∀ w∈s2.vis,w∈g.vs)->∃ s1 D T N,goB (gY (nQ g.es n) g.es v y9 ((s0.vis.length:Int)+1)) (i::R) s=some s1/\BLp g s0 v y9 (atP g.es v) s1 D T N/\∀ w∈s1.vis,w∈g.vs:=fun s2 D T N e h2 hv2=>by
   obtain⟨s1,D1,T1,N1,k1,k2,k3⟩:=KZ n ih h0 hn R (Q++[i]) s2 D T N hQ2 h2 hv2
   grind [goB]
  by_cases hb:(i:Int)=y9
  .exact go s D T N (by grind [gY]) (h.same hg h0 hi hb) hv
  by_cases c8:oth (eAt g.es i) v∈s.vis
  .by_cases hnm:nmW s.vis (oth (eAt g.es i) v)<(s0.vis.length:Int)+1
   .exact go _ D _ N (by grind [gY]) (h.back hg h0 hi hiQ hb c8 hnm) hv
   .exact go s D T N (by grind [gY]) (h.skip hg h0 hi c8 hnm) hv
  .have hlen:s.vis.length=s0.vis.length+1+D.length:=by rw[h.vis,aAm,List.length_cons];omega
   have huv:oth (eAt g.es i) v∈g.vs:=hg.nbr (lK hi);obtain⟨s1,C,T',N',e,hp,hC⟩:=ih _ (eN s i) _ i (h.pre hg h0 hi c8) huv hv (by show g.vs.length<=n+s.vis.length;omega);obtain⟨s2,D2,T2,N2,e2,h2⟩:=h.child hg h0 hi hiQ hb c8 hp;refine go s2 D2 T2 N2 (by grind [gY]) h2 fun w hw=>?_;have e3:s2.vis=s1.vis:=by
    unfold NK at e2
    split at e2
    .unfold GL at e2
     split at e2
     .cases e2;rfl
     grind
    .cases e2;rfl
   rw[e3,hp.vis,aAd]at hw;exact hw.elim (hv w) (hC w)
theorem EH:∀(n:Nat) (A:Int->Prop) (s:Bw) (v y9:Int),yH g A s v y9->v∈g.vs->(∀ w∈s.vis,w∈g.vs)->g.vs.length<=n+s.vis.length->∃ s1 C T N,nQ g.es n v y9 s=some s1/\Kg g s v y9 s1 C T N/\∀ c∈C,c∈g.vs
 |0,A,s,v,y9,h,hv,hs,hn=>by
  have h1:(s.vis++[v]).length<=g.vs.length:=aAy (by
   rw[aAo]
   exact⟨h.nd,sS,fun a ha b hb=>by rintro rfl;rw[aAi]at hb;subst hb;exact h.new ha⟩) fun w hw=>by
    grind
  grind
 |n+1,A,s,v,y9,h,hv,hs,hn=>by
  obtain⟨s1,D,T,N,e,h1,V5⟩:=KZ hg n (EH n) h oO (atP g.es v) [] (oE s v) [] [] [] rfl h.start fun w hw=>by
   have hw:w∈s.vis++[v]:=hw
   grind
  have hp:=h1.done hg h;exact⟨s1,_,T,N,e,hp,fun c hc=>V5 c (by rw[hp.vis];grind)⟩
structure JW(g:Gr)(s:Bw):Prop where
 ln:s.low.length=s.vis.length
 nd:s.vis.Nodup
 sub:∀ w∈s.vis,w∈g.vs
 fin:∀ w∈s.vis,∀ i∈atP g.es w,oth (eAt g.es i) w∈s.vis
 stk:s.stk=[]
 pl:∀ i,i∈s.out.flatten↔i<g.es.length/\(eAt g.es i).a∈s.vis
 pn:s.out.flatten.Nodup
 good:∀ B∈s.out,fB g.es B
theorem EW(n:Nat)(hn:g.vs.length<=n):∀(l:List Int) (s:Bw),(∀ v∈l,v∈g.vs)->JW g s->∃ s1,sN g.es n l s=some s1/\JW g s1/\(∀ v∈s.vis,v∈s1.vis)/\∀ v∈l,v∈s1.vis
 |[],s,_,h=>⟨s,rfl,h,fun _ h=>h,fun v hv=>by grind⟩
 |v::l,s,hl,h=>by
  by_cases hv:v∈s.vis
  .obtain⟨s1,e,k1,k2,k3⟩:=EW n hn l s (fun w hw=>hl w (aAc _ hw)) h
   grind [sN]
  .have hpre:yH g (fun _=>False) s v (-1):=⟨h.ln,h.nd,fun a ha=>ha.elim,fun w hw _=>h.fin w hw,hv,fun a b ha=>ha.elim,.inl ⟨rfl,fun a ha=>ha⟩⟩;obtain⟨s1,C,T,N,e,hp,hC⟩:=EH hg n _ s v (-1) hpre (hl v sS) h.sub oO;have hT:T=[]:=by
    cases T with
    |nil=>rfl
    |cons i T=>obtain⟨b,hb,_⟩:=hp.rel i sS;omega
   subst hT;have o8:∀ w∈s1.vis,∀ i∈atP g.es w,oth (eAt g.es i) w∈s1.vis:=fun w hw i hi=>by
    have F0:=hw;rw[hp.vis,aAd]at F0;rcases F0 with k|k
    .rw[hp.vis];exact aAr _ (h.fin w k i hi)
    .exact hp.clo w k i hi
   have hall:JW g s1:={
    ln:=hp.ln
    nd:=hp.nd
    sub:=fun w hw=>by rw[hp.vis,aAd]at hw;exact hw.elim (h.sub w) (hC w)
    fin:=o8
    stk:=by rw[hp.stk,h.stk];rfl
    pl:=fun i=>by
     have h2:=hp.pl i;rw[List.nil_append]at h2;rw[hp.out,aCz,aAd,h.pl i,h2,hp.vis,aAd];constructor
     .rintro(⟨k1,k2⟩|⟨k1,_,k2⟩)
      .grind
      .refine⟨k1,?_⟩;rcases k2 with k2|k2
       .grind
       .have:=hp.clo _ k2 i (aS.2 ⟨k1,.inr rfl⟩);rw[hp.vis,aAd]at this
        grind [oth]
     grind
    pn:=by
     have h2:=hp.pn;rw[List.nil_append]at h2;rw[hp.out,aCz,aAo];refine⟨h.pn,h2,fun a ha b hb=>?_⟩;rintro rfl;have k1:=(h.pl a).1 ha;have k2:=(hp.pl a).1 (by grind);have hd:∀ c∈C,c∉s.vis:=fun c hc k=>by
      have:=hp.nd;rw[hp.vis,aAo]at this
      grind
     rcases k2.2.2 with k|k
     .grind
     .have:=h.fin _ k1.2 a (aS.2 ⟨k1.1,.inl rfl⟩)
      grind [oth]
    good:=fun B hB=>by
     rw[hp.out,aAd]at hB
     exact hB.elim (h.good B) (hp.good B) }
   obtain⟨s2,e2,k1,k2,k3⟩:=EW n hn l s1 (fun w hw=>hl w (aAc _ hw)) hall;refine⟨s2,by grind [sN],k1,fun w hw=>k2 w (by rw[hp.vis];grind),fun w hw=>?_⟩;rcases aAe.1 hw with rfl|hw
   .exact k2 _ (by rw[hp.vis];exact aAx _ hp.hd)
   grind
theorem qW:∃ s,sN g.es g.vs.length g.vs ⟨[],[],[],[]⟩=some s/\s.stk=[]/\(∀ i,i∈s.out.flatten↔i<g.es.length)/\s.out.flatten.Nodup/\∀ B∈s.out,fB g.es B:=by obtain⟨s,e,h,_,h3⟩:=EW hg g.vs.length (aAl _) g.vs ⟨[],[],[],[]⟩ (fun _ h=>h) ⟨rfl,.nil,fun w hw=>(by grind),fun w hw=>(by grind),rfl,fun i=>by simp,sS,fun B hB=>(by grind)⟩;refine⟨s,e,h.stk,fun i=>?_,h.pn,h.good⟩;rw[h.pl i];exact and_iff_left_of_imp fun hi=>h3 _ (hg.ends _ (Ec hi)).1
end
def esB(es:List Ed)(B:List Nat):List Ed:=B.map (eAt es)
theorem Nb{es:List Ed}{w p z:Int}(hz:z≠p){y:Int}(h:RIn es (·≠w) p y):RIn es (fun t=>t≠w/\t≠z) p y\/∃ y',z∈nbr es y'/\RIn es (fun t=>t≠w/\t≠z) p y':=by
 induction h with
 |refl h=>exact .inl (.refl ⟨h,fun e=>hz e.symm⟩)
 |@step y u h hn hs ih=>
  rcases ih with ih|ih
  .by_cases e:u=z
   .grind
   .exact .inl (.step ih hn ⟨hs,e⟩)
  grind
theorem NT{es:List Ed}{w p q:Int}{S:Int->Prop}(hp:S p)(h:RIn es (·≠w) p q):S q\/∃ z z',S z/\z'∈nbr es z/\RIn es (fun t=>t≠w/\¬S t) z' q:=by
 induction h with
 |refl h=>grind
 |@step y u h hn hs ih=>
  by_cases hu:S u
  .grind
  by_cases hy:S y
  .exact .inr ⟨y,u,hy,hn,.refl ⟨hs,hu⟩⟩
  rcases ih with ih|⟨z,z',h1,h2,h3⟩
  .grind
  .exact .inr ⟨z,z',h1,h2,.step h3 hn ⟨hs,hu⟩⟩
theorem LG{es:List Ed}{B:List Nat}{y z:Int}(h:z∈nbr (esB es B) y):∃ i∈B,((eAt es i).a=y\/(eAt es i).b=y)/\oth (eAt es i) y=z:=by
 rw[dB]at h;obtain⟨x,hx,h⟩:=h;obtain⟨i,hi,rfl⟩:=aAj.1 hx
 grind [oth]
theorem KK{es:List Ed}{B:List Nat}{i:Nat}(hi:i∈B){y:Int}(h:(eAt es i).a=y\/(eAt es i).b=y):oth (eAt es i) y∈nbr (esB es B) y:=by
 rw[dB];refine⟨_,aAw hi,?_⟩
 grind [oth]
theorem RIn.up{es:List Ed}{B:List Nat}(hB:∀ i∈B,i<es.length){S:Int->Prop}{x y:Int}(h:RIn (esB es B) S x y):RIn es S x y:=by
 induction h with
 |refl h=>exact .refl h
 |step h hn hs ih=>
  refine .step ih ?_ hs
  grind [LG,lK,aS]
section
variable {g:Gr} (hg:GoodE g)
include hg
theorem fB.ring_in{B:List Nat}(h:fB g.es B){i j:Nat}(hi:i∈B)(hj:j<g.es.length){w:Int}(hr:RB g.es w (eAt g.es i) (eAt g.es j)):RIn (esB g.es B) (·≠w) (oth (eAt g.es i) w) (oth (eAt g.es j) w):=by
 obtain⟨h1,h2,h3⟩:=hr;have hjB:j∈B:=h.all i hi j hj ⟨w,h1,h2,h3⟩;have hpw:oth (eAt g.es i) w≠w:=vM hg (aS.2 ⟨h.lt i hi,h1⟩);have hqw:oth (eAt g.es j) w≠w:=vM hg (aS.2 ⟨hj,h2⟩);rcases NT (S:=fun t=>RIn (esB g.es B) (·≠w) (oth (eAt g.es i) w) t) (.refl hpw) h3 with k|⟨z,z',k1,k2,k3⟩
 .exact k
 exfalso;have hzw:z≠w:=k1.here.2;obtain⟨l,hl,he⟩:=Lt k2;have hll:=aS.1 hl;have back:RIn g.es (·≠z) z' w:=by have a:=k3.mono (S':=(·≠z)) fun t ht e=>ht.2 (by grind);refine .step a (mK (lK (aS.2 ⟨hj,h2⟩))) fun e=>hzw e.symm
 have c8:l∈B:=by
  by_cases ez:z=oth (eAt g.es i) w
  .refine h.all i hi l hll.1 ⟨z,by grind [nT],hll.2,?_⟩;rw[he,ez,lR h1,<- ez];exact back.symm
  .rcases Nb ez k1 with k|⟨y',k4,k5⟩
   .exact absurd rfl k.here.2.2
   .obtain⟨o,ho,hoe,hoz⟩:=LG k4;refine h.all o ho l hll.1 ⟨z,by grind [nT],hll.2,?_⟩;rw[he,<- hoz,lR hoe,hoz];have a:RIn g.es (·≠z) (oth (eAt g.es i) w) y':=(k5.mono (S':=(·≠z)) fun t ht=>ht.2).up h.lt;have b:RIn g.es (·≠z) w (oth (eAt g.es i) w):=.step (.refl fun e=>hzw e.symm) (lK (aS.2 ⟨h.lt i hi,h1⟩)) fun e=>ez e.symm;exact((back.trans b).trans a).symm
 have:RIn (esB g.es B) (·≠w) (oth (eAt g.es i) w) z':=.step k1 (by grind [KK]) k3.here.1.1;exact k3.here.1.2 this
theorem fB.con{B:List Nat}(h:fB g.es B)(v:Int){i j:Nat}(hi:i∈B)(hr:mE g.es i j):∀ p q,((eAt g.es i).a=p\/(eAt g.es i).b=p)->((eAt g.es j).a=q\/(eAt g.es j).b=q)->p≠v->q≠v->RIn (esB g.es B) (·≠v) p q:=by
 have one:∀ k∈B,∀ p q,((eAt g.es k).a=p\/(eAt g.es k).b=p)->((eAt g.es k).a=q\/(eAt g.es k).b=q)->p≠v->q≠v->RIn (esB g.es B) (·≠v) p q:=fun k hk p q h1 h2 hp hq=>by
  rcases(fO h1 q).1 h2 with e|e
  .rw[e];exact .refl hp
  .exact .step (.refl hp) (by grind [KK]) hq
 induction hr with
 |refl=>grind
 |@step j k hr hjl hk hre ih=>
  intro p q hp hq hpv hqv;have hj:j∈B:=(h.iff hi).2 hr;have hkB:k∈B:=h.all j hj k hk hre;obtain⟨w,w1,w2,w3⟩:=hre;by_cases e:v=w
  .subst e;have h1:=ih p (oth (eAt g.es j) v) hp (nT _ _) hpv (vM hg (aS.2 ⟨hjl,w1⟩));have h2:=h.ring_in hg hj hk ⟨w1,w2,w3⟩;rcases(fO w2 q).1 hq with e|e
   .omega
   .rw[e];exact h1.trans h2
  .exact(ih p w hp w1 hpv fun x=>e x.symm).trans (one k hkB w q w2 hq (fun x=>e x.symm) hqv)
omit hg in
theorem fB.eq{B B':List Nat}(h:fB g.es B)(h':fB g.es B'){j:Nat}(hj:j∈B)(hj':j∈B'):B=B':=by
 have hn:B.Nodup:=h.rise.imp fun k=>aBW k;have F4:B'.Nodup:=h'.rise.imp fun k=>aBW k;have hp:B.Perm B':=(aBd hn F4).2 fun k=>by rw[h.iff hj,h'.iff hj']
 exact hp.eq_of_pairwise (fun a b _ _ h1 h2=>absurd h1 oO) h.rise h'.rise
end
noncomputable def iE(es:List Ed)(i:Nat):List Nat:=(List.range es.length).filter fun j=>@decide (mE es i j) (Classical.propDecidable _)
theorem Gh{es:List Ed}{i j:Nat}:j∈iE es i↔j<es.length/\mE es i j:=by
 grind [iE]
theorem Db(es:List Ed)(i:Nat):(iE es i).Pairwise (· < ·):=aCw _ aBD
noncomputable def gK(es:List Ed):List (List Nat):=((List.range es.length).filter fun i=>decide ((iE es i).headD 0=i)).map (iE es)
theorem head_mem{l:List Nat}(h:l≠[]):l.headD 0∈l:=by
 cases l with
 |nil=>grind
 |cons a l=>simp
theorem fB.cls{es:List Ed}{B:List Nat}(h:fB es B){i:Nat}(hi:i∈B):B=iE es i:=by
 have hn:B.Nodup:=h.rise.imp fun k=>aBW k;have F4:(iE es i).Nodup:=(Db es i).imp fun k=>aBW k;have hp:B.Perm (iE es i):=(aBd hn F4).2 fun k=>by rw[Gh,<- h.iff hi];exact⟨fun q=>⟨h.lt k q,q⟩,fun q=>q.2⟩
 exact hp.eq_of_pairwise (fun a b _ _ h1 h2=>absurd h1 oO) h.rise (Db es i)
theorem Bb{es:List Ed}{out B:List (List Nat)}(hall:∀ i,i∈out.flatten↔i<es.length)(K8:∀ B∈out,fB es B)(hp:B.Perm out)(hr:B.Pairwise fun x y=>x.headD 0<y.headD 0):B=gK es:=by
 have E7:∀ b,b∈B↔b∈gK es:=fun b=>by
  unfold gK;rw[hp.mem_iff,aAj];constructor
  .intro hb;have ho:=K8 b hb;have hh:=head_mem ho.ne;have hc:=ho.cls hh;refine⟨b.headD 0,?_,hc.symm⟩;rw[aAC,aBb,aAT,<- hc];exact⟨ho.lt _ hh,rfl⟩
  .rintro⟨i,hi,rfl⟩;rw[aAC,aBb,aAT]at hi;obtain⟨b,hb,hib⟩:=aAX.1 ((hall i).2 hi.1);rw[<- (K8 b hb).cls hib];omega
 have hl:(gK es).Pairwise fun x y=>x.headD 0<y.headD 0:=by unfold gK;rw[aAU];refine(aCw (fun i=>decide ((iE es i).headD 0=i)) (aBD (n:=es.length))).imp_of_mem ?_;intro a b ha hb x7;rw[aAC,aAT]at ha hb;rw[ha.2,hb.2];exact x7
 have X7:B.Perm (gK es):=(aBd (hr.imp fun k e=>by grind) (hl.imp fun k e=>by grind)).2 E7;exact X7.eq_of_pairwise (fun a b _ _ h1 h2=>absurd h1 oO) hr hl
theorem JX{m:Mp}(h:bM m){d:Int}(hd:d∈aQ m.g.es):2<=d/\d<=2097153:=by obtain⟨x,hx,h1⟩:=dG.1 hd;have:=h.g.pos x hx;omega
theorem bM.cyc_le{m:Mp}(h:bM m){d:Int}(hd:d∈aQ m.g.es){L:List Int}(hc:kW (fc m m.g.es) d L):(∀ x∈L,x∈aQ m.g.es)/\L.length<=2*m.g.es.length:=by
 have hdk:∀ k,it (fc m m.g.es) k d∈aQ m.g.es:=by
  intro k;induction k with
  |zero=>exact hd
  |succ k ih=>rw[bW];exact h.fc_dart _ _ ih
 have hs:∀ x∈L,x∈aQ m.g.es:=fun x hx=>by
  obtain⟨n,rfl⟩:=hc.mem.1 hx
  grind
 have:=aAy (hc.nodup (h.fc_inj _)) (l₂:=aQ m.g.es) hs
 grind [nC]
def itL(f:Int->Int)(d:Int)(k:Nat):List Int:=(List.range k).map fun j=>it f j d
theorem Qf(f:Int->Int)(d:Int)(k:Nat):itL f d (k+1)=itL f d k++[it f k d]:=by grind [itL,List.range_succ]
@[simp] theorem Ds(f:Int->Int)(d:Int)(k:Nat):(itL f d k).length=k:=by simp[itL]
section
variable {f:Int->Int} (hf:Per f) {ds:List Int} (hd:∀ x∈ds,f x∈ds)
include hf hd
end
def tix(rs:List (List Int))(d:Int):Int:=if(rs.any fun t=>decide (d∈t))=true then(rs.findIdx fun t=>decide (d∈t):Int)else -1
theorem Gi{rs:List (List Int)}{d:Int}{k:Nat}(hk:k<rs.length)(h:d∈rs.getD k [])(hn:∀ j,j<k->d∉rs.getD j []):tix rs d=k:=by
 grind [tix,List.findIdx_eq]
theorem Hh{rs:List (List Int)}{d:Int}(hn:∀ j,j<rs.length->d∉rs.getD j []):tix rs d = -1:=by
 grind [tix]
theorem Pq{rs:List (List Int)}{d:Int}(h:∃ t∈rs,d∈t):∃ k,k<rs.length/\tix rs d=(k:Int)/\d∈rs.getD k []:=by
 obtain⟨t,ht,hd⟩:=h;obtain⟨j,hj,rfl⟩:=aAA ht;obtain⟨k,hk,F8⟩:=least (P:=fun k=>k<rs.length/\d∈rs.getD k []) ⟨hj,by grind⟩
 grind [Gi]
theorem Sw{rs:List (List Int)}{d:Int}(h:∀ t∈rs,d∉t):tix rs d = -1:=Hh fun j hj=>by grind
theorem AD(m:Mp)(d:Int)(st:St)(hr:m.rots.length<=1000)(hs:∀ t∈m.rots,small t):
 aB prog 156 [.ag (mpL m),u d] st fun r st'=>r=i (tix m.rots d)/\aA st st':=by
 refine zN func156 ntmps156 [.tmp 4] ?_;refine xw0 ?_;refine aY 9 8 10 21 (m.rots.length) (fun j fr st2=>fr 1=u d/\fr 2=.pt st.next 0/\st2.H st.next=.box 28 3 (mpL m)/\aA st st2/\∀ k,k<j->d∉m.rots.getD k []) ?_ ?_ ?_
 .exact⟨sS,sS,sS,aA.new _ _,fun k hk=>by omega⟩
 .rintro j fr st2 dQ ⟨f1,f2,hG,j5,x9⟩ fi fn JJ hJJ;have hd:=nV m.rots j dQ;have hRl:j<(fF m.rots).length:=by simpa using dQ
  have htin:m.rots.getD j []∈m.rots:=by rw[jC _ _ dQ];exact aAz _
  have J7:=hs _ htin;have hso:=fun h=>Gi (d:=d) dQ h x9;have hnn:d∉m.rots.getD j []->∀ k,k<j+1->d∉m.rots.getD k []:=fun h k hk=>by
   rcases aAK k j with h1|h1
   .exact x9 k h1
   .obtain rfl:k=j:=oO;exact h
  generalize m.rots.getD j []=t at *
  (refine xj8 f1 f2 hG fi fn hd hRl dQ ?_;intro J hJ)
  refine qE (Wg t 0 d _ J7) sS ?_;rintro r s3 ⟨rfl,rfl⟩;by_cases X6:d∈t
  .have hr:=hso X6;have hg:=sO X6;refine pX hJ hg hr ?_;exact j5
  .have hg:=BZ X6;refine rR hJ hg ?_;exact hJJ _ _ (sF1 fi) (sF1 fn) ⟨sF1 f1,sF1 f2,hG,j5,hnn X6⟩
 .rintro fr st2 ⟨f1,f2,hG,j5,x9⟩;have hr:=Hh x9;refine xw1 hr ?_;exact j5
theorem Ry(d:Int)(st:St)(h0:0<=d)(h1:d<4294967295):aB prog 157 [u d] st fun r st'=>r=u (tw d)/\st'=st:=by
 have hm:d.tmod 2=d % 2:=aCT h0;by_cases hp:d % 2=0
 .have ht:tw d=d+1:=by unfold tw;rw[aAk hp]
  have hw:IntKind.u32.wrap (d+1)=d+1:=wrap_u32' _ oO oO;refine zN func157 ntmps157 [.tmp 2] ?_;exact xv4 hm hp ht hw
 .have ht:tw d=d-1:=by unfold tw;rw[aAa hp]
  have hw:IntKind.u32.wrap (d-1)=d-1:=wrap_u32' _ oO oO;refine zN func157 ntmps157 [.tmp 2] ?_;exact xv4 hm hp ht hw
end Aw
end Go.Proofs.YtbgngpdonpeboaaGreatDoor
