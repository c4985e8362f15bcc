/- Plain: any graph is drawn in the plane, or refused. -/
import Derived.Test.YtbgngpdonpeboaaGreatDoorJn
import Derived.Test.YtbgngpdonpeboaaGreatDoorAwFn
import Derived.Test.YtbgngpdonpeboaaGreatDoorAwZ
import Derived.Test.YtbgngpdonpeboaaGreatDoorAwRg
set_option linter.defProp false
set_option linter.unusedVariables false
set_option linter.unusedSimpArgs false
set_option linter.unusedSectionVars false
set_option maxHeartbeats 1000000
open Go.Proofs.Tryz
namespace Go.Proofs.YtbgngpdonpeboaaGreatDoor
namespace Aw
open Go Go.RowKit Pl Eu
section
variable {E:List Ed} (hT:Tc E)
include hT
theorem Ss(a:E.length<=200):∃ o,rG E=some o/\∀ F,o=some F->jV E F:=by
 have g:=hT.two;obtain⟨x,y,R,c⟩:∃ x y R,E=x::y::R:=by
  match E,g with
  |x::y::R,_=>exact⟨x,y,R,rfl⟩
 have m:rG E=if(ai E).length<=64/\E.length<=200 then
  if(3:Int)*(ai E).length-6<E.length then some none
  else(newF ⟨ai E,E⟩).bind fun h=>(pN ⟨ai E,E⟩ 1000 h).map fun o=>o.map (·.F)
  else none:=by rw[c];rfl
 rw[m,ad ⟨hT.few.1,a⟩]
 split
 .exact⟨none,rfl,fun F e=>by cases e⟩
 .obtain⟨h,f,l,_⟩:=hT.start c;obtain⟨o,j,k⟩:=BS hT 1000 h l (by have:=hT.few.2;omega);rw[f,Option.bind_some,j];refine⟨o.map (·.F),rfl,fun F e=>?_⟩;cases o with
  |none=>cases e
  |some d=>simp only[Option.map_some,ap]at e;subst e;obtain⟨b,n⟩:=k d rfl;exact b.done hT.ne hT.sim n
end
def FH{g:Gr}(n:GoodE g)(P:g.V.length<=64)(t:g.E.length<=200){l:List Ed}(d:l∈aQ g):l≠[]/\(∀ e∈l,e∈g.E/\e.a≠e.b)/\l.length<=g.E.length/\(2<=l.length->Tc l):=by
 have m:=n.simple;obtain⟨c,I⟩:=nJ n d;have J:∀ v∈ai l,v∈g.V:=fun v h=>by
  obtain⟨e,x,k⟩:=(aK v l).1 h;have:=n.ends e (I e x)
  grind
 have o:l.length<=g.E.length:=by have r:l.length<=(aQ g).flatten.length:=(lh d).length_le;have C:=(fH n).length_eq;have O:=nX g.E;omega
 refine⟨fun K=>?_,fun e t=>⟨I e t,c.ne e t⟩,o,fun C=>⟨c.ids,c.ne,?_,?_,C,?_,oO⟩⟩
 .unfold aQ at d;obtain⟨B,s,e⟩:=aq.1 d;rw[K]at e;exact absurd (qj.1 e) (kY m s).ne
 .have r:=((fH n).map aj).nodup_iff.2 (pB g.E);rw[qz]at r;exact(lh (de (f:=List.map aj) d)).nodup r
 .unfold aQ at d;obtain⟨B,s,e⟩:=aq.1 d;have A:=kY m s;intro w p q F H y z;rw[<- e]at F H ⊢;obtain⟨i,D,M⟩:=tT m F;obtain⟨j,L,N⟩:=tT m H;exact A.con m w D (A.rel i D j L) p q M N y z
 .have:=fg ((lG l).imp fun k=>by omega) J;omega
def Kz{g:Gr}(j:GoodE g)(n:g.V.length<=64)(h:g.E.length<=200)(c:g.E.length<=200){l:List Ed}(m:l∈aQ g):∃ o,rG l=some o/\∀ F,o=some F->jV l F:=by
 obtain⟨f,a,d,b⟩:=FH j n h m
 match l,f,a,b,d with
 |[e],_,a,_,_=>exact⟨_,rfl,fun F k=>by injection k with k;subst k;exact Qs (a e sS).2⟩
 |x::y::R,_,_,b,d=>exact Ss (b sS) oO
theorem Hz(x y:Int):∀ P,(rK x y P).length<=P.length+1
 |[]=>by simp[rK]
 |p::P=>by have:=Hz x y P;unfold rK;split<;>simp<;>omega
theorem IX(v x y:Int)(n:Nat):∀ A:Tn,(∀ a∈A,a.2.length<=n)->(gV v x y A).length<=A.length+1/\∀ a∈gV v x y A,a.2.length<=n+1
 |[],_=>by simp[gV]
 |a::A,h=>by
  obtain⟨e,d⟩:=IX v x y n A fun b c=>h b (ar _ c);unfold gV
  split
  .refine⟨sS,fun b c=>?_⟩;rcases ah.1 c with rfl|c
   .have:=Hz x y a.2;have:=h a aw;simp only;omega
   .have:=h b (ar _ c);omega
  .refine⟨by simp;omega,fun b c=>?_⟩;rcases ah.1 c with rfl|c
   .have:=h b aw;omega
   .exact d b c
def RY:∀ T:List (Int×Int×Int),(T.foldl Aa []).length<=T.length/\(∀ a∈T.foldl Aa [],a.2.length<=T.length)/\∀ v∈(T.foldl Aa []).map (·.1),∃ t∈T,t.2.1=v:=by
 intro T;induction T using xZ with
 |h0=>simp
 |h1 T t c=>
  rw[lq,List.foldl_cons,List.foldl_nil,cf,List.length_singleton];have:=IX t.2.1 t.1 t.2.2 T.length (T.foldl Aa []) c.2.1;refine⟨er this.1 oO,this.2,?_⟩;have d:∀ A:Tn,∀ v∈(gV t.2.1 t.1 t.2.2 A).map (·.1),v=t.2.1\/v∈A.map (·.1):=by
   intro A;induction A with
   |nil=>intro v b;simp[gV]at b;exact .inl b
   |cons a A c=>
    intro v b;unfold gV at b
    split at b
    .rw[ax]at b ⊢;rcases ah.1 b with h|h
     .exact .inl h
     .exact .inr (ar _ h)
    .rw[ax]at b ⊢;rcases ah.1 b with h|h
     .exact .inr (by rw[h];exact aw)
     .exact(c v h).imp id fun k=>ar _ k
  intro v b;rcases d _ v b with h|h
  .exact⟨t,sS,h.symm⟩
  .obtain⟨s,f,e⟩:=c.2.2 v h;exact⟨s,cX _ f,e⟩
theorem Ib(g:Gr)(v:Int):∀(L:AN) (T:TL),gU (dX g v L T)=gU T+(L.flatMap (dj g v)).length
 |[],T=>by simp[dX]
 |x::L,T=>by have a:=Ib g v L (pJ v (dj g v x) T);have e:dX g v (x::L) T=dX g v L (pJ v (dj g v x) T):=rfl;rw[e,a,uC,ec,cf];omega
theorem Ie(g:Gr)(A:Tn)(n:Nat):∀(K:AN) (T:TL),(∀ v∈K,((bY (dI v A)).flatMap (dj g v)).length<=n)->gU (fS g A K T)<=gU T+K.length*n
 |[],T,_=>by simp[fS]
 |v::K,T,h=>by have b:=Ie g A n K (dX g v (bY (dI v A)) T) fun w a=>h w (ar _ a);have e:fS g A (v::K) T=fS g A K (dX g v (bY (dI v A)) T):=rfl;have c:=h v aw;rw[Ib]at b;rw[e,List.length_cons,lx];omega
def DO{g:Gr}(A:GoodE g)(D:g.V.length<=64)(z:g.E.length<=200)(n:g.E.length<=200){l:List Ed}(B:l∈aQ g)(C:∃ s,PlE l s):∃ F,rG l=some (some F):=by
 obtain⟨v,k,q,c⟩:=FH A D z B;obtain⟨s,f⟩:=C
 match l,v,k,c,q,f with
 |[e],_,k,_,_,_=>exact⟨_,rfl⟩
 |x::y::R,_,_,c,q,f=>
  have a:=c sS;obtain⟨h,I,m,r,J,K,L,M⟩:=a.start rfl;have H:=Exd.start a f m J K L M;obtain⟨j,p⟩:=Exd.loop a 1000 h H (by have:=a.few.2;omega);obtain⟨o,b,N⟩:=BS a 1000 h m (by have:=a.few.2;omega);rw[p]at b;injection b with b;obtain⟨d,t⟩:=N j b.symm;have:=OB a d t
  have w:rG (x::y::R)=if(ai (x::y::R)).length<=64/\(x::y::R).length<=200 then
   if(3:Int)*(ai (x::y::R)).length-6<(x::y::R).length then some none
   else(newF ⟨ai (x::y::R),x::y::R⟩).bind fun h=>(pN ⟨ai (x::y::R),x::y::R⟩ 1000 h).map fun o=>o.map (·.F)
   else none:=rfl
  rw[w,ad ⟨a.few.1,oO⟩,ac oO,I,Option.bind_some,p];exact⟨j.F,rfl⟩
theorem Df(g:Gr):∀(a:List (List Ed)) (T:TL) (o:Option TL),(∀ l∈a,∃ F,rG l=some (some F))->yR g a T=some o->o≠none
 |[],T,o,_,h=>by injection h with h;rw[<- h];simp
 |l::a,T,o,hb,h=>by
  obtain⟨F,b⟩:=hb l aw;unfold yR at h;rw[b,Option.bind_some]at h;simp only at h
  split at h
  .exact Df g a _ o (fun x c=>hb x (ar _ c)) h
  .cases h
def BV{g:Gr}{a:List (List Ed)}{o:Option Mp}(c:∀ l∈a,∃ F,rG l=some (some F))(h:iX g a=some o):o.isSome=true:=by
 unfold iX at h;cases b:yR g a [] with
 |none=>rw[b]at h;cases h
 |some T=>
  have:=Df g a [] T c b;rw[b,Option.bind_some]at h;cases T with
  |none=>exact absurd rfl this
  |some T=>
   simp only at h
   split at h
   .injection h with h;rw[<- h];rfl
   .cases h
def PlD.nM{E:List Ed}{s:Int->Int}{D:AN}(h:PlD E s D){A:List (Int×Int)}(e:eH E A):Flat D s (br A):=by
 have a:PlE E s:=⟨D,h⟩;obtain⟨R,f⟩:=a.sub e;have b:=a.ors A;have c:(br (E.map (fY A))).Perm (br R++br A):=by have:=f.map fun p:Int×Int=>(cd p,cd p.swap);rw[cr]at this;exact this
 have d:=kQ h.perm (a.fl_nd b) c (h.flat_or A);exact Ak h.perm (fun q g=>h.pairs b q (c.mem_iff.2 g)) d
def PlE.of_sub{E c:List Ed}{s:Int->Int}(h:PlE E s)(l:BlE c)(m:∀ e∈c,∃ f∈E,aj f=aj e):PlE c s:=by
 obtain⟨D,h⟩:=h;have j:∀ p:Int×Int,(∃ e∈c,aj e=bp p)->∃ e∈E,aj e=bp p:=fun p ⟨e,g,q⟩=>by obtain⟨f,hf,k⟩:=m e g;exact⟨f,hf,k.trans q⟩
 refine⟨D,l,h.perm,fun p d=>h.mem p (j p d),fun p q d o=>h.orb p q (j p d) (j q o),?_⟩;have n:eH E (c.map fun e=>(e.a,e.b)):=by
  refine⟨fun p d=>?_,?_⟩
  .obtain⟨e,g,rfl⟩:=aq.1 d;exact m e g
  .rw[dy];exact l.sim
 have:=h.nM n;have e:br (c.map fun e=>(e.a,e.b))=cw c:=by unfold br cw;rw[dy];rfl
 rwa [e]at this
section
variable {D:List Int} {s:Int->Int} (hs:cD D s) {P:List (Int×Int)} (hP:dU D P)
include hs hP
theorem uH{z:Int}(c:z∉D)(h:Flat D s P):cD (z::D) s/\Flat (z::D) s P:=by
 have b:s z=z:=hs.out z c;have m:cD (z::D) s:=⟨fun x a=>by rcases ah.1 a with rfl|a;rw[b];simp;exact ar _ (hs.mem x a),hs.inj,fun x a=>hs.out x fun k=>a (ar _ k)⟩;refine⟨m,?_⟩;have alone:∀ f:Int->Int,cD D f->¬∃ y∈D,Orb f y z:=fun f hf ⟨y,o,n,g⟩=>by
  have:∀ n,it f n y∈D:=fun n=>by
   induction n with
   |zero=>exact o
   |succ n d=>rw[bF];exact hf.mem _ d
  exact c (g ▸ this n)
 have j:=fE hs P fun q j=>⟨(hP q j).1,(hP q j).2.1⟩;have l:¬∃ y∈D,cu (Orb s) P y z:=by
  rintro⟨y,o,k⟩
  have r:∀ x y,cu (Orb s) P x y->(x=z↔y=z):=mS (S:=fun x y=>(x=z↔y=z)) ⟨fun _=>mo,fun h=>h.symm,fun h k=>h.trans k⟩ (fun x y ⟨n,g⟩=>by
   constructor
   .intro e;subst e;have:∀ n,it s n x=x:=fun n=>by
     induction n with
     |zero=>rfl
     |succ n d=>rw[bF,d];exact b
    rw[<- g];exact this n
   .intro e;refine fv fun k=>?_;have a:∀ n,it s n x≠z:=fun n=>by
     induction n with
     |zero=>exact k
     |succ n d=>rw[bF];exact fun q=>d (hs.inj _ _ (q.trans b.symm))
    exact a n (g.trans e)) fun p m=>by
   have:=hP p m;constructor<;>intro e<;>rw[e]at this
   .exact absurd this.1 c
   .exact absurd this.2.1 c
  have:=(r y z k).2 rfl;exact c (this ▸ o)
 unfold Flat at *;rw[aN (alone s hs),aN (alone _ j),aN l];omega
theorem CG{x z:Int}(E:x∈D)(F:z∈D)(v:x≠z)(j:s z=z)(c:z∉ci P)(h:Flat D s P):cD D (fun y=>s (Eu.sw x z y))/\Flat D (fun y=>s (Eu.sw x z y)) P:=by
 have r:cD D fun y=>s (Eu.sw x z y):=hs.sw E F;refine⟨r,?_⟩;have d:=fE hs P fun q d=>⟨(hP q d).1,(hP q d).2.1⟩;have B:=fE r P fun q d=>⟨(hP q d).1,(hP q d).2.1⟩;have m:∀(f:Int->Int),f z=z->∀ y,Orb f z y->y=z:=fun f hf y ⟨n,O⟩=>by
  have:∀ n,it f n z=z:=fun n=>by
   induction n with
   |zero=>rfl
   |succ n I=>rw[bF,I];exact hf
  rw[<- O];exact this n
 have C:ce s P z=z:=by rw[oF,j];intro p l;exact⟨fun e=>c (bJ.2 ⟨p,l,.inl e⟩),fun e=>c (bJ.2 ⟨p,l,.inr e⟩)⟩
 have M:=nA hs.per r.per (fun _=>rfl) E F fun k=>v (m s j x (k.symm hs.per));have g:Orb (fun y=>s (Eu.sw x z y)) x z:=⟨1,by show s (Eu.sw x z x)=z;rw[tG,j]⟩;have back:∀ u w,Orb s u w->Orb (fun y=>s (Eu.sw x z y)) u w:=fun u w k=>by have:=Be (f:=fun y=>s (Eu.sw x z y)) (f':=s) (a:=x) (b:=z) r.per (fun y=>by rw[LH]) k;exact(Mg.same r.per.eqv g u w).1 this
 have A:=cU hs.per.eqv P;have t:=cU r.per.eqv P;have N:bg (cu (Orb s) P) D=bg (cu (Orb fun y=>s (Eu.sw x z y)) P) D+1:=by
  have Q:¬cu (Orb s) P x z:=fun k=>by
   have J:∀ u w,cu (Orb s) P u w->(u=z↔w=z):=mS (S:=fun u w=>(u=z↔w=z)) ⟨fun _=>mo,fun h=>h.symm,fun h k=>h.trans k⟩ (fun u w k=>⟨fun e=>by rw[e]at k;exact m s j w k,fun e=>by rw[e]at k;exact m s j u (k.symm hs.per)⟩) fun p l=>by
    constructor<;>intro e
    .exact absurd (bJ.2 ⟨p,l,.inl e.symm⟩) c
    .exact absurd (bJ.2 ⟨p,l,.inr e.symm⟩) c
   exact v ((J x z k).2 rfl)
  rw[pU A Q E F]
  congr 1
  refine dA fun u _ w _=>⟨fun k=>Mg.le t (eW P g) (fun u w k=>mS t (fun u w k=>eW P (back u w k)) (fun p l=>iB r.per.eqv P l) u w k) k,fun k=>?_⟩;refine mS (Mg.eqv A x z) (fun u w k=>?_) (fun p l=>.inl (iB hs.per.eqv P l)) u w k;exact Mg.le (Mg.eqv A x z) (.inr (.inl ⟨A.refl _,A.refl _⟩)) (fun u w k=>.inl (eW P k)) (Be hs.per (fun _=>rfl) k)
 have R:bg (Orb (ce s P)) D=bg (Orb (ce (fun y=>s (Eu.sw x z y)) P)) D+1:=by
  obtain⟨o,K,L,H⟩:∃ o,o∈D/\o≠z/\∀ y,ce (fun y=>s (Eu.sw x z y)) P y=ce s P (Eu.sw o z y):=by
   clear M N A t d B C h;induction P with
   |nil=>exact⟨x,E,v,fun _=>rfl⟩
   |cons p P I=>
    have l:=hP p aw;have T:z≠p.1:=fun e=>c (bJ.2 ⟨p,aw,.inl e⟩);have U:z≠p.2:=fun e=>c (bJ.2 ⟨p,aw,.inr e⟩);obtain⟨o,K,L,H⟩:=I (fun q d=>hP q (ar _ d)) fun k=>c (by obtain⟨q,d,e⟩:=bJ.1 k;exact bJ.2 ⟨q,ar _ d,e⟩);refine⟨Eu.sw p.1 p.2 o,?_,?_,fun y=>?_⟩
    .unfold Eu.sw;grind
    .unfold Eu.sw;grind
    .show ce _ P (Eu.sw p.1 p.2 y)=ce s P (Eu.sw p.1 p.2 (Eu.sw (Eu.sw p.1 p.2 o) z y));rw[H]
     congr 1
     unfold Eu.sw
     grind
  exact nA d.per B.per H K F fun k=>L (m _ C o (k.symm d.per))
 unfold Flat at *;omega
end
def EY{D:AN}{s:Int->Int}(g:cD D s){x z:Int}(h:x∈D)(j:z∈D)(e:s z=z)(u w:Int):Orb (fun y=>s (Eu.sw x z y)) u w↔Mg (Orb s) x z u w:=by have d:cD D fun y=>s (Eu.sw x z y):=g.sw h j;have c:Orb (fun y=>s (Eu.sw x z y)) x z:=⟨1,by show s (Eu.sw x z x)=z;rw[tG,e]⟩;refine⟨Be g.per fun _=>rfl,Mg.le d.per.eqv c fun u w k=>?_⟩;have:=Be (f:=fun y=>s (Eu.sw x z y)) (f':=s) (a:=x) (b:=z) d.per (fun y=>by rw[LH]) k;exact(Mg.same d.per.eqv c u w).1 this
def xM{E:List Ed}(d:BlE E){p:Int×Int}(h:∃ e∈E,aj e=bp p):(0<=p.1/\p.1<4194304)/\(0<=p.2/\p.2<4194304)/\p.1≠p.2/\p.1∈ai E/\p.2∈ai E:=by
 obtain⟨e,g,j⟩:=h;have c:=dQ (x:=p.1) (y:=p.2) g j;have k:=d.bnd _ c.1;have l:=d.bnd _ c.2;have f:=d.ne e g;refine⟨k,l,?_,c⟩;rcases aT j with⟨a,b⟩|⟨a,b⟩
 .rw[<- a,<- b];exact f
 .rw[<- a,<- b];exact fD f
def PlE.lay1{E:List Ed}{s:Int->Int}(h:PlE E s){B:Ed}(A:B∈E){v:Int}(hv:v∉ai E)(T:0<=v/\v<4194304):∃ s',PlE (⟨0,B.b,v⟩::⟨0,B.a,v⟩::E) s':=by
 obtain⟨D0,h0⟩:=h;have K:=h0.bl;obtain⟨s,D,J,K3⟩:=GL K h0.perm cd h0.mem (fun p q I c k=>dJ (xM K I).2.1 (xM K c).2.1 k) h0.orb h0.flat;clear h0 D0;generalize ha:B.a=a at *;generalize hb:B.b=b at *;have x9:a≠b:=by rw[<- ha,<- hb];exact K.ne B A
 have va:a∈ai E:=by rw[<- ha];exact(aK _ _).2 ⟨B,A,.inl rfl⟩
 have vb:b∈ai E:=by rw[<- hb];exact(aK _ _).2 ⟨B,A,.inr rfl⟩
 have N:=K.bnd a va;have O:=K.bnd b vb;have X:a≠v:=fun e=>hv (e ▸ va);have Y:b≠v:=fun e=>hv (e ▸ vb);have fresh:∀ z,(∃ p:Int×Int,(p.1=v\/p.2=v)/\(0<=p.1/\p.1<4194304)/\(0<=p.2/\p.2<4194304)/\z=cd p)->z∉D:=by
  rintro z ⟨p,I,b1,b2,rfl⟩ k;rcases K3 _ k with k|k
  .obtain⟨q,c,e⟩:=bJ.1 k;obtain⟨f,hf,rfl⟩:=aq.1 c;have c1:=K.bnd _ ((aK f.a E).2 ⟨f,hf,.inl rfl⟩);have c2:=K.bnd _ ((aK f.b E).2 ⟨f,hf,.inr rfl⟩);have n1:f.a≠v:=fun e=>hv (e ▸ (aK f.a E).2 ⟨f,hf,.inl rfl⟩);have n2:f.b≠v:=fun e=>hv (e ▸ (aK f.b E).2 ⟨f,hf,.inr rfl⟩);rcases e with e|e
   .have:=dJ (p:=p) (q:=(f.a,f.b)) b2 c2 e;rw[this]at I;exact I.elim n1 n2
   .have:=dJ (p:=p) (q:=(f.b,f.a)) b2 c1 e;rw[this]at I;exact I.elim n2 n1
  .have:0<=cd p:=by unfold cd;omega
   omega
 have f1:cd (a,v)∉D:=fresh _ ⟨(a,v),.inr rfl,N,T,rfl⟩;have f2:cd (b,v)∉D:=fresh _ ⟨(b,v),.inr rfl,O,T,rfl⟩;have f3:cd (v,a)∉D:=fresh _ ⟨(v,a),.inl rfl,T,N,rfl⟩;have f4:cd (v,b)∉D:=fresh _ ⟨(v,b),.inl rfl,T,O,rfl⟩;have ne:∀ p q:Int×Int,(0<=p.2/\p.2<4194304)->(0<=q.2/\q.2<4194304)->p≠q->cd p≠cd q:=fun p q h1 h2 h3 e=>h3 (dJ h1 h2 e);have n12:cd (a,v)≠cd (b,v):=ne _ _ T T (aa x9);have n13:cd (a,v)≠cd (v,a):=ne _ _ T N (aa X);have n14:cd (a,v)≠cd (v,b):=ne _ _ T O (aa X);have n23:cd (b,v)≠cd (v,a):=ne _ _ T N (aa Y);have n24:cd (b,v)≠cd (v,b):=ne _ _ T O (aa Y);have n34:cd (v,a)≠cd (v,b):=ne _ _ N O (aa x9);have x0D:cd (a,b)∈D:=J.mem (a,b) ⟨B,A,by rw[<- ha,<- hb];rfl⟩;have y0D:cd (b,a)∈D:=J.mem (b,a) ⟨B,A,by rw[<- ha,<- hb];exact aG _ _⟩;generalize hz1:cd (a,v)=j at *;generalize hz2:cd (b,v)=o at *;generalize hz3:cd (v,a)=l at *;generalize hz4:cd (v,b)=r at *;generalize M9:cd (a,b)=x0 at *;generalize hy0:cd (b,a)=Q at *;have U:dU D (cw E):=fun q c=>by obtain⟨e,d,rfl⟩:=aq.1 c;refine⟨J.mem _ ⟨e,d,rfl⟩,J.mem _ ⟨e,d,aG _ _⟩,fun k=>K.ne e d ?_⟩;exact congrArg Prod.fst (dJ (p:=(e.a,e.b)) (q:=(e.b,e.a)) (K.bnd _ ((aK _ _).2 ⟨e,d,.inr rfl⟩)) (K.bnd _ ((aK _ _).2 ⟨e,d,.inl rfl⟩)) k)
 have W:∀ z,z∉D->z∉ci (cw E):=fun z hz k=>by
  obtain⟨q,c,e⟩:=bJ.1 k;rcases e with rfl|rfl
  .exact hz (U q c).1
  .exact hz (U q c).2.1
 have X4:BlE (⟨0,b,v⟩::⟨0,a,v⟩::E):=by
  have sim:=K.sim;have nov:∀ e∈E,∀ u,aj e≠ay u v:=fun e d u k=>hv (dQ d k).2;refine⟨fun e d=>?_,?_,fun w hw=>?_⟩
  .rcases ah.1 d with rfl|d
   .exact Y
   .rcases ah.1 d with rfl|d
    .exact X
    .exact K.ne e d
  .simp only[ax,cb,ah,aq,gy];refine⟨⟨fun k=>?_,fun⟨e,d,k⟩=>nov e d _ k⟩,fun⟨e,d,k⟩=>nov e d _ k,sim⟩;rcases aT (u:=b) (v:=v) (x:=a) (y:=v) k with⟨k,_⟩|⟨k,_⟩
   .exact x9 k.symm
   .exact Y k
  .obtain⟨e,d,k⟩:=(aK _ _).1 hw;rcases ah.1 d with rfl|d
   .rcases k with rfl|rfl
    .exact O
    .exact T
   .rcases ah.1 d with rfl|d
    .rcases k with rfl|rfl
     .exact N
     .exact T
    .exact K.bnd w ((aK _ _).2 ⟨e,d,k⟩)
 have hPn:(ci (cw E)).Nodup:=by
  have hA:eH E (E.map fun e=>(e.a,e.b)):=⟨fun p I=>by obtain⟨e,d,rfl⟩:=aq.1 I;exact⟨e,d,rfl⟩,by rw[dy];exact K.sim⟩;have:=PlE.fl_nd ⟨D,J⟩ hA;have e:br (E.map fun e=>(e.a,e.b))=cw E:=by unfold br cw;rw[dy];rfl
  rwa [e]at this
 obtain⟨p1,q1⟩:=uH J.perm U f1 J.flat;have C:dU (j::D) (cw E):=fun q c=>⟨ar _ (U q c).1,ar _ (U q c).2.1,(U q c).2.2⟩;obtain⟨p2,q2⟩:=uH p1 C (z:=o) (by grind) q1;have F:dU (o::j::D) (cw E):=fun q c=>⟨ar _ (C q c).1,ar _ (C q c).2.1,(U q c).2.2⟩;obtain⟨p3,q3⟩:=uH p2 F (z:=l) (by grind) q2;have H:dU (l::o::j::D) (cw E):=fun q c=>⟨ar _ (F q c).1,ar _ (F q c).2.1,(U q c).2.2⟩;obtain⟨p4,q4⟩:=uH p3 H (z:=r) (by grind) q3;have m:dU (r::l::o::j::D) (cw E):=fun q c=>⟨ar _ (H q c).1,ar _ (H q c).2.1,(U q c).2.2⟩;have s1:=J.perm.out j f1;have s2:=J.perm.out o f2;have s3:=J.perm.out l f3;have s4:=J.perm.out r f4;have mD:∀ x,x∈D->x∈r::l::o::j::D:=fun x hx=>by simp[hx]
 clear p1 q1 p2 q2 p3 q3 C F H;generalize hDD:r::l::o::j::D=DD at *;have m1:j∈DD:=by rw[<- hDD];simp
 have m2:o∈DD:=by rw[<- hDD];simp
 have m3:l∈DD:=by rw[<- hDD];simp
 have m4:r∈DD:=by rw[<- hDD];simp
 have M:∀ z,z∉D->x0≠z:=fun z hz e=>hz (e ▸ x0D);have R:∀ z,z∉D->Q≠z:=fun z hz e=>hz (e ▸ y0D);obtain⟨pa,qa⟩:=CG p4 m (mD _ x0D) m1 (M _ f1) s1 (W _ f1) q4;have oa:=EY p4 (mD _ x0D) m1 s1;obtain⟨t,ht,t1,t2,t3,t4⟩:∃ t:Int->Int,(∀ y,t y=s (Eu.sw x0 j y))/\t x0=j/\t o=o/\t l=l/\t r=r:=⟨_,fun _=>rfl,by rw[tG,s1],by rw[jT (M _ f2).symm n12.symm,s2],by rw[jT (M _ f3).symm n13.symm,s3],by rw[jT (M _ f4).symm n14.symm,s4]⟩;rw[show(fun y=>s (Eu.sw x0 j y))=t from funext fun y=>(ht y).symm]at pa qa oa;obtain⟨w,hw,Z⟩:∃ w∈DD,t w=Q:=by
  obtain⟨n,Z3,hn⟩:=pa.per Q;obtain⟨k,rfl⟩:∃ k,n=k+1:=⟨n-1,oO⟩;rw[bF]at hn;refine⟨it t k Q,?_,hn⟩;clear hn Z3;induction k with
  |zero=>exact mD _ y0D
  |succ k ih=>rw[bF];exact pa.mem _ ih
 have wz2:w≠o:=fun e=>by rw[e,t2]at Z;exact R _ f2 Z.symm
 have wx0:x0≠w:=fun e=>by rw[<- e,t1]at Z;exact R _ f1 Z.symm
 obtain⟨pb,qb⟩:=CG pa m hw m2 wz2 t2 (W _ f2) qa;have ob:=EY pa hw m2 t2;have wz3:w≠l:=fun e=>by rw[e,t3]at Z;exact R _ f3 Z.symm
 have wz4:w≠r:=fun e=>by rw[e,t4]at Z;exact R _ f4 Z.symm
 obtain⟨g,hg,g1,g2,g3,g4⟩:∃ g:Int->Int,(∀ y,g y=t (Eu.sw w o y))/\g x0=j/\g o=Q/\g l=l/\g r=r:=⟨_,fun _=>rfl,by rw[jT wx0 (M _ f2),t1],by rw[Cm,Z],by rw[jT wz3.symm n23.symm,t3],by rw[jT wz4.symm n24.symm,t4]⟩;rw[show(fun y=>t (Eu.sw w o y))=g from funext fun y=>(hg y).symm]at pb qb ob;obtain⟨pc,qc⟩:=CG pb m m3 m4 n34 g4 (W _ f4) qb;have oc:=EY pb m3 m4 g4;obtain⟨f,hf,e1,e2,e3,e4⟩:∃ f:Int->Int,(∀ y,f y=g (Eu.sw l r y))/\f x0=j/\f o=Q/\f l=r/\f r=l:=⟨_,fun _=>rfl,by rw[jT (M _ f3) (M _ f4),g1],by rw[jT n23 n24,g2],by rw[tG,g4],by rw[Cm,g3]⟩;rw[show(fun y=>g (Eu.sw l r y))=f from funext fun y=>(hf y).symm]at pc qc oc;have old:∀ x y,Orb s x y->Orb f x y:=fun x y k=>(oc x y).2 (.inl ((ob x y).2 (.inl ((oa x y).2 (.inl k)))));have hE:=pc.per.eqv;have r1:Orb f x0 j:=⟨1,e1⟩;have r2:Orb f o Q:=⟨1,e2⟩;have r3:Orb f l r:=⟨1,e3⟩;obtain⟨eg,l1,l2⟩:∃ eg:Int->Int,(∀ p:Int×Int,(∃ e∈E,aj e=bp p)->eg (cd p)=p.1)/\∀ x∈D,∀ y,Orb s x y->eg x=eg y:=by
  refine⟨fun x=>open Classical in if h:∃ p:Int×Int,(∃ e∈E,aj e=bp p)/\Orb s (cd p) x then h.choose.1 else -1,fun p I=>?_,fun x hx y k=>?_⟩
  .have h:∃ q:Int×Int,(∃ e∈E,aj e=bp q)/\Orb s (cd q) (cd p):=⟨p,I,Orb.refl _ _⟩;simp only[pj h];exact(J.orb _ _ h.choose_spec.1 I).1 h.choose_spec.2
  .have hs:=J.perm.per;by_cases h:∃ p:Int×Int,(∃ e∈E,aj e=bp p)/\Orb s (cd p) x
   .have h':∃ p:Int×Int,(∃ e∈E,aj e=bp p)/\Orb s (cd p) y:=⟨_,h.choose_spec.1,h.choose_spec.2.trans k⟩;simp only[pj h,pj h'];exact(J.orb _ _ h.choose_spec.1 h'.choose_spec.1).1 (h.choose_spec.2.trans (k.trans (h'.choose_spec.2.symm hs)))
   .have h':¬∃ p:Int×Int,(∃ e∈E,aj e=bp p)/\Orb s (cd p) y:=fun⟨p,I,q⟩=>h ⟨p,I,q.trans (k.symm hs)⟩;simp only[dif_neg h,dif_neg h']
 obtain⟨L,L1,L2,L3,L4⟩:∃ L:Int->Int,L j=a/\L o=b/\(L l=v/\L r=v)/\∀ x∈D,L x=eg x:=⟨fun x=>if x=j then a else if x=o then b else if x=l\/x=r then v else eg x,by grind,by grind,by grind,fun x hx=>by grind⟩;have Lq:fJ fun x y=>L x=L y:=⟨fun _=>rfl,fun h=>h.symm,fun h k=>h.trans k⟩;have Lx0:L x0=a:=by rw[L4 _ x0D,<- M9];exact l1 (a,b) ⟨B,A,by rw[<- ha,<- hb];rfl⟩
 have Ly0:L Q=b:=by rw[L4 _ y0D,<- hy0];exact l1 (b,a) ⟨B,A,by rw[<- ha,<- hb];exact aG _ _⟩
 have Ls:∀ x y,Orb s x y->L x=L y:=fun x y k=>by
  by_cases hx:x∈D
  .have hy:y∈D:=by
    obtain⟨n,rfl⟩:=k;induction n with
    |zero=>exact hx
    |succ n ih=>rw[bF];exact J.perm.mem _ ih
   rw[L4 x hx,L4 y hy];exact l2 x hx y k
  .obtain⟨n,rfl⟩:=k;have:it s n x=x:=by
    induction n with
    |zero=>rfl
    |succ n ih=>rw[bF,ih];exact J.perm.out x hx
   rw[this]
 have Lt:∀ x y,Orb t x y->L x=L y:=fun x y k=>Mg.le Lq (Lx0.trans L1.symm) Ls ((oa x y).1 k);have Lw:L w=b:=(Lt w Q ⟨1,Z⟩).trans Ly0;have Lg:∀ x y,Orb g x y->L x=L y:=fun x y k=>Mg.le Lq (Lw.trans L2.symm) Lt ((ob x y).1 k);have Lf:∀ x y,Orb f x y->L x=L y:=fun x y k=>Mg.le Lq (L3.1.trans L3.2.symm) Lg ((oc x y).1 k);have nP:∀ z,z∉D->∀ q∈cw E,z≠q.1/\z≠q.2:=fun z hz q c=>⟨fun e=>W z hz (bJ.2 ⟨q,c,.inl e⟩),fun e=>W z hz (bJ.2 ⟨q,c,.inr e⟩)⟩;have F1:Flat DD f ((j,l)::cw E):=by
  refine(mW pc (p:=(j,l)) fun q c=>?_).2 ⟨qc,fun k=>?_⟩
  .rcases ah.1 c with rfl|c
   .exact⟨m1,m3,n13⟩
   .exact m q c
  .exfalso
   have key:=mS (S:=fun x y=>(L x=v↔L y=v)) ⟨fun _=>mo,fun h=>h.symm,fun h k=>h.trans k⟩ (fun x y k=>by rw[Lf x y k]) (P:=cw E) (fun q c=>by
    obtain⟨e,d,rfl⟩:=aq.1 c;have i1:L (cd (e.a,e.b))=e.a:=(L4 _ (U _ c).1).trans (l1 (e.a,e.b) ⟨e,d,rfl⟩);have i2:L (cd (e.b,e.a))=e.b:=(L4 _ (U _ c).2.1).trans (l1 (e.b,e.a) ⟨e,d,aG _ _⟩);have j1:e.a≠v:=fun q=>hv (q ▸ (aK _ _).2 ⟨e,d,.inl rfl⟩);have j2:e.b≠v:=fun q=>hv (q ▸ (aK _ _).2 ⟨e,d,.inr rfl⟩);simp only[i1,i2]
    exact⟨fun q=>absurd q j1,fun q=>absurd q j2⟩) _ _ k
   exact X (L1.symm.trans (key.2 L3.1))
 have F2:Flat DD f ((o,r)::(j,l)::cw E):=by
  refine(mW pc (p:=(o,r)) fun q c=>?_).2 ⟨F1,fun _=>⟨3,?_⟩⟩
  .rcases ah.1 c with rfl|c
   .exact⟨m2,m4,n24⟩
   .rcases ah.1 c with rfl|c
    .exact⟨m1,m3,n13⟩
    .exact m q c
  .have a1:ce f ((j,l)::cw E) o=Q:=by show ce f (cw E) (Eu.sw j l o)=Q;rw[jT n12.symm n23,oF f _ (nP _ f2),e2]
   have a2:ce f ((j,l)::cw E) Q=j:=by show ce f (cw E) (Eu.sw j l Q)=j;rw[jT (R _ f1) (R _ f3)];have hm:(cd (B.a,B.b),cd (B.b,B.a))∈cw E:=aq.2 ⟨B,A,rfl⟩;rw[ha,hb,M9,hy0]at hm;rw[(mT f hPn _ hm).2,e1]
   have a3:ce f ((j,l)::cw E) j=r:=by show ce f (cw E) (Eu.sw j l j)=r;rw[tG,oF f _ (nP _ f3),e3]
   rw[bF,bF,bF];show ce f ((j,l)::cw E) (ce f ((j,l)::cw E) (ce f ((j,l)::cw E) o))=r;rw[a1,a2,a3]
 have V:∀ p:Int×Int,(∃ e∈(⟨0,b,v⟩::⟨0,a,v⟩::E:List Ed),aj e=bp p)->cd p∈DD/\L (cd p)=p.1/\(p.1=v->Orb f (cd p) l)/\(p.1≠v->∃ q:Int×Int,(∃ e∈E,aj e=bp q)/\q.1=p.1/\Orb f (cd p) (cd q)):=by
  rintro⟨u,x⟩ ⟨e,d,k⟩;rcases ah.1 d with rfl|d
  .rcases aT (u:=b) (v:=v) (x:=u) (y:=x) k with⟨rfl,rfl⟩|⟨rfl,rfl⟩
   .rw[hz2];exact⟨m2,L2,fun q=>absurd q Y,fun _=>⟨(b,a),⟨B,A,by rw[<- ha,<- hb];exact aG _ _⟩,rfl,by rw[hy0];exact r2⟩⟩
   .rw[hz4];exact⟨m4,L3.2,fun _=>r3.symm pc.per,fun q=>absurd rfl q⟩
  .rcases ah.1 d with rfl|d
   .rcases aT (u:=a) (v:=v) (x:=u) (y:=x) k with⟨rfl,rfl⟩|⟨rfl,rfl⟩
    .rw[hz1];exact⟨m1,L1,fun q=>absurd q X,fun _=>⟨(a,b),⟨B,A,by rw[<- ha,<- hb];rfl⟩,rfl,by rw[M9];exact r1.symm pc.per⟩⟩
    .rw[hz3];exact⟨m3,L3.1,fun _=>Orb.refl _ _,fun q=>absurd rfl q⟩
   .have hm:=J.mem (u,x) ⟨e,d,k⟩;exact⟨mD _ hm,(L4 _ hm).trans (l1 (u,x) ⟨e,d,k⟩),fun q=>absurd (q ▸ (dQ d k).1) hv,fun _=>⟨(u,x),⟨e,d,k⟩,rfl,Orb.refl _ _⟩⟩
 obtain⟨s',D',h',_⟩:=GL X4 pc cd (fun p I=>(V p I).1) (fun p q I c k=>dJ (xM X4 I).2.1 (xM X4 c).2.1 k) (fun p q I c=>by
  obtain⟨_,i1,i2,i3⟩:=V p I;obtain⟨_,j1,j2,j3⟩:=V q c;constructor
  .intro k;rw[<- i1,<- j1];exact Lf _ _ k
  .intro k;by_cases hpv:p.1=v
   .exact(i2 hpv).trans ((j2 (k ▸ hpv)).symm pc.per)
   .obtain⟨p',k1,k2,k3⟩:=i3 hpv;obtain⟨q',t1,t2,t3⟩:=j3 (k ▸ hpv)
    exact k3.trans ((old _ _ ((J.orb p' q' k1 t1).2 (by rw[k2,t2,k]))).trans (t3.symm pc.per))) (by
  show Flat DD f ((cd (b,v),cd (v,b))::(cd (a,v),cd (v,a))::cw E)
  rw[hz1,hz2,hz3,hz4];exact F2)
 exact⟨s',D',h'⟩
def RV{E:List Ed}{x:Ed}(h:BlE (x::E)):BlE E:=by
 have:=h.sim;rw[ax,cb]at this
 exact⟨fun e a=>h.ne e (ar _ a),this.2,fun v b=>by
  obtain⟨e,a,k⟩:=(aK v E).1 b
  exact h.bnd v ((aK _ _).2 ⟨e,ar _ a,k⟩)⟩
def PlE.unlay{E:List Ed}{s:Int->Int}{a b v:Int}(h:PlE (⟨0,b,v⟩::⟨0,a,v⟩::E) s)(R:v∉ai E)(H:BlE (⟨0,a,b⟩::E)):∃ S,PlE (⟨0,a,b⟩::E) S:=by
 have K:a≠b:=H.ne _ aw;have X:=h;obtain⟨D,h⟩:=h;have t:=h.bl;have P:b≠v:=t.ne ⟨0,b,v⟩ sS;have O:a≠v:=t.ne ⟨0,a,v⟩ sS;have hBE:=RV H;have r:=H.sim;rw[ax,cb]at r;have z8:∀ e∈E,aj e≠ay a b:=fun e g k=>r.1 (aq.2 ⟨e,g,k⟩);have T:∀ p:Int×Int,(∃ e∈E,aj e=bp p)->∃ e∈(⟨0,b,v⟩::⟨0,a,v⟩::E:List Ed),aj e=bp p:=fun p ⟨e,g,k⟩=>⟨e,aa g,k⟩;have n:∀ u w,(u=a/\w=v\/u=v/\w=a\/u=b/\w=v\/u=v/\w=b)->∃ e∈(⟨0,b,v⟩::⟨0,a,v⟩::E:List Ed),aj e=bp (u,w):=fun u w k=>by
  rcases k with⟨rfl,rfl⟩|⟨rfl,rfl⟩|⟨rfl,rfl⟩|⟨rfl,rfl⟩
  .exact⟨⟨0,u,w⟩,sS,rfl⟩
  .exact⟨⟨0,w,u⟩,sS,aG _ _⟩
  .exact⟨⟨0,u,w⟩,sS,rfl⟩
  .exact⟨⟨0,w,u⟩,sS,aG _ _⟩
 have J:eH (⟨0,b,v⟩::⟨0,a,v⟩::E) ((v,b)::(a,v)::E.map fun e=>(e.a,e.b)):=by
  refine⟨fun p l=>?_,?_⟩
  .rcases ah.1 l with rfl|l
   .exact n v b sS
   .rcases ah.1 l with rfl|l
    .exact n a v sS
    .obtain⟨e,g,rfl⟩:=aq.1 l;exact⟨e,aa g,rfl⟩
  .have:=t.sim;rw[ax,ax]at this;rw[ax,ax,dy];rw[show bp (v,b)=aj ⟨0,b,v⟩ from aG _ _];exact this
 have F:eH (⟨0,b,v⟩::⟨0,a,v⟩::E) ((a,v)::E.map fun e=>(e.a,e.b)):=⟨fun p l=>J.mem p (ar _ l),(cb.1 J.nd).2⟩;have C:eH (⟨0,b,v⟩::⟨0,a,v⟩::E) (E.map fun e=>(e.a,e.b)):=⟨fun p l=>F.mem p (ar _ l),(cb.1 F.nd).2⟩;have I:br (E.map fun e=>(e.a,e.b))=cw E:=by unfold br cw;rw[dy];rfl
 have hn:=X.fl_nd J;have U:=h.nM C;rw[I]at U;have o:∀ p:Int×Int,(∃ e∈(⟨0,b,v⟩::⟨0,a,v⟩::E:List Ed),aj e=bp p)->km s [(cd (a,v),cd (v,a))] (cd p)->p.1=v:=fun p l ⟨q,m,k⟩=>by rw[bf]at m;subst m;exact((h.orb (v,a) p (n v a sS) l).1 k).symm
 have B:cu (Orb s) (cw E) (cd (a,v)) (cd (b,v))->Orb (ce s (cw E)) (cd (a,v)) (cd (b,v)):=by
  refine GY (z:=(cd (v,b),cd (b,v))) (Q:=[(cd (a,v),cd (v,a))]) h.perm ?_ ⟨(h.orb (v,a) (v,b) (n v a sS) (n v b sS)).2 rfl,trivial⟩ (fun d hd k=>?_) (fun k=>P (o (b,v) (n b v sS) k)) (.inr ⟨_,[],rfl,rfl⟩) (fun k=>O (o (a,v) (n a v sS) k)) ?_
  .rw[<- I];exact hn
  .obtain⟨q,m,e⟩:=bJ.1 hd;obtain⟨f,hf,rfl⟩:=aq.1 m;rcases e with rfl|rfl
   .exact R (o (f.a,f.b) (T _ ⟨f,hf,rfl⟩) k ▸ (aK _ _).2 ⟨f,hf,.inl rfl⟩)
   .exact R (o (f.b,f.a) (T _ ⟨f,hf,aG _ _⟩) k ▸ (aK _ _).2 ⟨f,hf,.inr rfl⟩)
  .have:=X.face J;have e:br ((a,v)::E.map fun e=>(e.a,e.b))=[(cd (a,v),cd (v,a))]++cw E:=by rw[<- I];rfl
   rw[e]at this;exact this
 obtain⟨δ,V,W,M⟩:∃ δ:Int×Int->Int,δ (a,b)=cd (a,v)/\δ (b,a)=cd (b,v)/\∀ p:Int×Int,(∃ e∈E,aj e=bp p)->δ p=cd p:=by
  refine⟨fun p=>if p=(a,b)then cd (a,v)else if p=(b,a)then cd (b,v)else cd p,ad rfl,?_,fun p ⟨e,g,k⟩=>?_⟩
  .show(if(b,a)=(a,b)then cd (a,v)else if(b,a)=(b,a)then cd (b,v)else cd (b,a))=cd (b,v);rw[ac (by simp[K.symm]),ad rfl]
  .simp only;rw[ac,ac]
   .rintro rfl;exact z8 e g (k.trans (aG _ _))
   .rintro rfl;exact z8 e g k
 have c:∀ p:Int×Int,(∃ e∈(⟨0,a,b⟩::E:List Ed),aj e=bp p)->∃ q:Int×Int,(∃ e∈(⟨0,b,v⟩::⟨0,a,v⟩::E:List Ed),aj e=bp q)/\δ p=cd q/\q.1=p.1/\((p=(a,b)/\q=(a,v))\/(p=(b,a)/\q=(b,v))\/(p=q/\p.2≠v)):=by
  rintro⟨u,x⟩ ⟨e,g,k⟩;rcases ah.1 g with rfl|g
  .rcases aT (u:=a) (v:=b) (x:=u) (y:=x) k with⟨rfl,rfl⟩|⟨rfl,rfl⟩
   .exact⟨(a,v),n a v sS,V,rfl,.inl ⟨rfl,rfl⟩⟩
   .exact⟨(b,v),n b v sS,W,rfl,.inr (.inl ⟨rfl,rfl⟩)⟩
  .exact⟨(u,x),T _ ⟨e,g,k⟩,M _ ⟨e,g,k⟩,rfl,.inr (.inr ⟨rfl,fun q=>R (q ▸ (dQ g k).2)⟩)⟩
 obtain⟨S,D',h',_⟩:=GL H h.perm δ (fun p l=>by obtain⟨q,m,e,_⟩:=c p l;rw[e];exact h.mem q m) (fun p q l m k=>by
  obtain⟨Y,L,e,_,i⟩:=c p l;obtain⟨Z,A,N,_,j⟩:=c q m;rw[e,N]at k;have:=dJ (xM t L).2.1 (xM t A).2.1 k;subst this;rcases i with⟨rfl,i⟩|⟨rfl,i⟩|⟨rfl,i⟩<;>rcases j with⟨rfl,j⟩|⟨rfl,j⟩|⟨rfl,j⟩
  .rfl
  .rw[i]at j;injection j with j _;exact absurd j K
  .rw[i]at j;exact absurd rfl j
  .rw[i]at j;injection j with j _;exact absurd j K.symm
  .rfl
  .rw[i]at j;exact absurd rfl j
  .rw[j]at i;exact absurd rfl i
  .rw[j]at i;exact absurd rfl i
  .rfl) (fun p q l m=>by
  obtain⟨Y,L,e,i,_⟩:=c p l;obtain⟨Z,A,N,j,_⟩:=c q m;rw[e,N,<- i,<- j]
  exact h.orb Y Z L A) (by
  have e:E.map (fun e=>(δ (e.a,e.b),δ (e.b,e.a)))=cw E:=ii fun e g=>by rw[M (e.a,e.b) ⟨e,g,rfl⟩,M (e.b,e.a) ⟨e,g,aG _ _⟩]
  rw[ax,e,V,W];refine(mW h.perm (p:=(cd (a,v),cd (b,v))) fun q m=>?_).2 ⟨U,B⟩;rcases ah.1 m with rfl|m
  .exact⟨h.mem _ (n a v sS),h.mem _ (n b v sS),fun e=>K (congrArg Prod.fst (dJ (p:=(a,v)) (q:=(b,v)) (xM t (n a v sS)).2.1 (xM t (n b v sS)).2.1 e))⟩
  .have:=h.pairs C;rw[I]at this
   exact this q m)
 exact⟨S,D',h'⟩
def mL(A:List Ed):Prop:=∀ e∈A,e.a≠e.b/\(0<=e.a/\e.a<4194304)/\0<=e.b/\e.b<4194304
def Pg(A:List Ed):Prop:=∃ s,PlE (sE A) s
def yB{A:List Ed}{e:Ed}(h:e∈A):∃ f∈sE A,aj f=aj e:=by obtain⟨y,a,k⟩:=Kk A e h;exact⟨y,a,(GF.1 k).symm⟩
def mL.bl{A:List Ed}(h:mL A):BlE (sE A):=⟨fun e a=>(h e (fM A e a)).1,pB A,fun v b=>by
 obtain⟨e,a,k⟩:=(aK v _).1 b;have:=h e (fM A e a)
 grind⟩
def Pg.sub{A B:List Ed}(h:Pg A)(c:mL B)(g:∀ e∈B,∃ f∈A,aj f=aj e):Pg B:=by obtain⟨s,h⟩:=h;refine⟨s,h.of_sub c.bl fun e d=>?_⟩;obtain⟨f,hf,k⟩:=g e (fM B e d);obtain⟨b,a,j⟩:=yB hf;exact⟨b,a,j.trans k⟩
def mL.of{g:Gr}(b:GoodE g)(d:∀ v∈g.V,0<=v/\v<4194304):mL g.E:=fun e c=>by have f:=b.ne e c;have a:=b.ends e c;exact⟨f,d _ a.1,d _ a.2⟩
theorem Pg.blk{g:Gr}(c:GoodE g)(n:∀ v∈g.V,0<=v/\v<4194304)(p:g.V.length<=64)(o:g.E.length<=200)(h:Pg g.E){l:List Ed}(j:l∈aQ g):∃ s,PlE l s:=by
 obtain⟨q,a,t,r⟩:=FH c p o j;obtain⟨s,h⟩:=h;have hf:=fH c;have m:∀ e∈l,e∈sE g.E:=fun e k=>hf.mem_iff.1 (fh.2 ⟨l,j,k⟩);have b:(l.map aj).Nodup:=by have a:=(hf.map aj).nodup_iff.2 (pB g.E);rw[qz]at a;exact(lh (de (f:=List.map aj) j)).nodup a
 refine⟨s,h.of_sub ⟨fun e k=>(a e k).2,b,fun v k=>?_⟩ fun e k=>⟨e,m e k,rfl⟩⟩;obtain⟨e,d,k⟩:=(aK v l).1 k;have:=mL.of c n e (a e d).1
 grind
def bU.pg{m:Mp}(h:bU m)(c:Aw.gn m=0)(a:∀ v∈m.g.V,0<=v/\v<4194304):Pg m.g.E:=
 h.plE c (fun e b=>fM _ e b) (gN _ (pB _)) (mL.of h.g a).bl
def VO{A B:List Ed}{x y z:Ed}{v:Int}(p:mL A)(M:x∈A)(t:∀ e∈A,e.a≠v/\e.b≠v)(D:0<=v/\v<4194304)(o:∀ e,e∈B↔(∃ f∈A,e=f/\f≠x)\/e=y\/e=z)
 (N:aj y=ay x.a v) (O:aj z=ay x.b v):Pg B↔Pg A:=by
 have n:=p x M;have q:=t x M;have m:∀ a b:Int,aj (⟨0,a,b⟩:Ed)=ay a b:=fun _ _=>rfl;have F:mL B:=fun e c=>by
  rcases(o e).1 c with⟨f,hf,rfl,_⟩|rfl|rfl
  .exact p _ hf
  .rcases aT N with⟨g,d⟩|⟨g,d⟩<;>grind
  .rcases aT O with⟨g,d⟩|⟨g,d⟩<;>grind
 constructor
 .intro h;by_cases Q:∃ f∈A,f≠x/\aj f=aj x
  .obtain⟨f,hf,g,d⟩:=Q;refine h.sub p fun e c=>?_;by_cases k:e=x
   .exact⟨f,(o f).2 (.inl ⟨f,hf,rfl,g⟩),by rw[d,k]⟩
   .exact⟨e,(o e).2 (.inl ⟨e,c,rfl,k⟩),rfl⟩
  obtain⟨s,h⟩:=h;have V:mL (A.filter fun e=>decide (e≠x)):=fun e c=>p e (cx.1 c).1;have j:=V.bl;generalize H:A.filter (fun e=>decide (e≠x))=C at *;have l:∀ e∈sE C,e∈A/\e≠x:=fun e c=>by have:=fM C e c;grind
  have K:v∉ai (sE C):=fun k=>by
   obtain⟨e,c,k⟩:=(aK v _).1 k;have:=t e (l e c).1
   grind
  have S:BlE (⟨0,x.a,x.b⟩::sE C):=by
   refine⟨fun e c=>?_,?_,fun w L=>?_⟩
   .rcases ah.1 c with rfl|c
    .exact n.1
    .exact j.ne e c
   .rw[ax,cb];refine⟨fun k=>?_,j.sim⟩;obtain⟨e,c,k⟩:=aq.1 k;exact Q ⟨e,(l e c).1,(l e c).2,k⟩
   .obtain⟨e,c,k⟩:=(aK w _).1 L;rcases ah.1 c with rfl|c
    .rcases k with rfl|rfl
     .exact n.2.1
     .exact n.2.2
    .exact j.bnd w ((aK w _).2 ⟨e,c,k⟩)
  have E:BlE (⟨0,x.b,v⟩::⟨0,x.a,v⟩::sE C):=by
   refine⟨fun e c=>?_,?_,fun w L=>?_⟩
   .rcases ah.1 c with rfl|c
    .exact q.2
    rcases ah.1 c with rfl|c
    .exact q.1
    .exact j.ne e c
   .have R:∀ u:Int,ay u v∉(sE C).map aj:=fun u k=>by obtain⟨e,c,k⟩:=aq.1 k;have:=t e (l e c).1;rcases aT (show ay e.a e.b=ay u v from k)with⟨g,d⟩|⟨g,d⟩<;>grind
    rw[ax,ax,cb,cb,m,m];refine⟨fun k=>?_,R _,j.sim⟩;rcases ah.1 k with k|k
    .rcases aT k with⟨g,d⟩|⟨g,d⟩<;>grind
    .exact R _ k
   .obtain⟨e,c,k⟩:=(aK w _).1 L;rcases ah.1 c with rfl|c
    .rcases k with rfl|rfl
     .exact n.2.2
     .exact D
    rcases ah.1 c with rfl|c
    .rcases k with rfl|rfl
     .exact n.2.1
     .exact D
    .exact j.bnd w ((aK w _).2 ⟨e,c,k⟩)
  have d:=h.of_sub E fun e c=>by
   rcases ah.1 c with rfl|c
   .obtain⟨f,hf,k⟩:=yB ((o z).2 (.inr (.inr rfl)));exact⟨f,hf,k.trans O⟩
   rcases ah.1 c with rfl|c
   .obtain⟨f,hf,k⟩:=yB ((o y).2 (.inr (.inl rfl)));exact⟨f,hf,k.trans N⟩
   .exact yB ((o e).2 (.inl ⟨e,(l e c).1,rfl,(l e c).2⟩))
  obtain⟨P,U⟩:=d.unlay K S;refine⟨P,U.of_sub p.bl fun e c=>?_⟩;have I:=fM A e c;by_cases k:e=x
  .exact⟨_,aw,by rw[k]⟩
  .obtain⟨f,hf,X⟩:=yB (A:=C) (e:=e) (by rw[<- H];simp[I,k]);exact⟨f,ar _ hf,X⟩
 .rintro⟨s,h⟩;obtain⟨r,T,Y⟩:=yB M;have J:v∉ai (sE A):=fun k=>by
   obtain⟨e,c,k⟩:=(aK v _).1 k;have:=t e (fM A e c)
   grind
  obtain⟨P,d⟩:=h.lay1 T J D;have both:∀ u:Int,(u=x.a\/u=x.b)->∃ f∈(⟨0,r.b,v⟩::⟨0,r.a,v⟩::sE A:List Ed),aj f=ay u v:=fun u W=>by
   rcases aT (show ay r.a r.b=ay x.a x.b from Y)with⟨g,d⟩|⟨g,d⟩<;>rcases W with rfl|rfl
   .exact⟨_,ar _ aw,by rw[m,g]⟩
   .exact⟨_,aw,by rw[m,d]⟩
   .exact⟨_,aw,by rw[m,d]⟩
   .exact⟨_,ar _ aw,by rw[m,g]⟩
  refine⟨P,d.of_sub F.bl fun e c=>?_⟩;rcases(o e).1 (fM B e c)with⟨f,hf,rfl,_⟩|rfl|rfl
  .obtain⟨f,hf,k⟩:=yB hf;exact⟨f,ar _ (ar _ hf),k⟩
  .rw[N];exact both _ (.inl rfl)
  .rw[O];exact both _ (.inr rfl)
end Aw
namespace Aw
open Go Go.RowKit Pl
structure xj(g:Gr):Prop where
 rise:g.V.Pairwise (· < ·)
 vpos:∀ v∈g.V,1<=v/\v<=1048576
 ids:g.E.Pairwise fun x y=>x.id<y.id
 pos:∀ x∈g.E,1<=x.id/\x.id<=1048576
 ne:∀ x∈g.E,x.a≠x.b
 ends:∀ x∈g.E,x.a∈g.V/\x.b∈g.V
 l1:g.V.length<=64
 l2:g.E.length<=160
def PL{f:Nat->Int}{n:Nat}(h:bZ f n=0):∀ j,j<n->f j=0:=by
 induction n with
 |zero=>omega
 |succ n a=>
  grind [bZ]
def sN(n a:Int)(b:Bool):fB n a b=0↔(1<=n/\n<=1048576)/\(b=false->a<n):=by
 grind [fB]
def EG{l:AN}(h:∀ j,j<l.length->0<j->l.getD (j-1) 0<l.getD j 0):l.Pairwise (· < ·):=by
 have g:∀ j (c:j<l.length),l.getD j 0=l[j]:=fun j c=>by grind
 rw[fq];intro a b d e k;induction b with
 |zero=>omega
 |succ b f=>
  grind
def gE(l:List Ed)(j:Nat)(a:j<l.length):l.getD j ed0=l[j]:=by
 grind
def EE(g:Gr)(j:Nat)(x:Ed)(c:g.E.getD j ed0=x):lQ g j=0↔((1<=x.id/\x.id<=1048576)/\(0<j->(g.E.getD (j-1) ed0).id<x.id))/\x.a≠x.b/\x.a∈g.V/\x.b∈g.V:=by
 grind [lQ,fB]
def gB{g:Gr}(h:chk g=0):xj g:=by
 unfold chk at h;by_cases e:64<g.V.length\/160<g.E.length
 .omega
 rw[ac e]at h;by_cases f:bZ (kI g) g.V.length=0;rotate_left
 .omega
 rw[ac oO]at h;have o:∀ j (a:j<g.V.length),g.V.getD j 0=g.V[j]:=fun j a=>by grind
 have m:=fun j a=>(sN _ _ _).1 (PL f j a);have k:=fun j a=>(EE g j _ rfl).1 (PL h j a);have c:∀ x∈g.E,∃ j,j<g.E.length/\g.E.getD j ed0=x:=fun x b=>by obtain⟨j,a,rfl⟩:=eh b;exact⟨j,a,gE _ _ a⟩
 refine⟨EG fun j a d=>(m j a).2 (by simp;omega),fun v n=>?_,?_,fun x b=>?_,fun x b=>?_,fun x b=>?_,oO,oO⟩
 .obtain⟨j,a,rfl⟩:=eh n;simp_all
 .have:=EG (l:=g.E.map (·.id)) fun j a d=>by rw[dh]at a;have:=(k j a).1.2 d;rw[gE _ _ a,gE _ _ oO]at this;rw[cp,cg (by simp;omega),cp,cg (by simp_all)];simp_all
  rwa [fa]at this
 .obtain⟨j,a,rfl⟩:=c x b;simp_all
 .obtain⟨j,a,rfl⟩:=c x b;simp_all
 .obtain⟨j,a,rfl⟩:=c x b;simp_all
def KU{g:Gr}(h:xj g):chk g=0:=by
 have f:=h.l1;have k:=h.l2;have c:∀ j (a:j<g.V.length),g.V.getD j 0=g.V[j]:=fun j a=>by grind
 unfold chk;rw[ac oO]
 have e:bZ (kI g) g.V.length=0:=eJ fun j a=>(sN _ _ _).2 ⟨by rw[c j a];exact h.vpos _ (dq _),fun d=>by
  have d:0<j:=by simp at d;omega
  rw[c j a,c _ oO]
  exact fq.1 h.rise _ _ oO a oO⟩
 rw[e];simp only[ne_eq,uv,gx];refine eJ fun j a=>(EE g j _ (gE _ _ a)).2 ?_;have b:g.E[j]∈g.E:=dq _;refine⟨⟨h.pos _ b,fun d=>?_⟩,h.ne _ b,(h.ends _ b).1,(h.ends _ b).2⟩;rw[gE _ _ oO];exact fq.1 h.ids _ _ oO a oO
end Aw
namespace Aw
open Go Go.RowKit Pl Eu
def Sx{g:Gr}(a:GoodE g)(p:∀ v∈g.V,0<=v/\v<4194304){l:List Ed}(b:l∈aQ g):BlE l/\l≠[]/\∀ v∈ai l,v∈g.V:=by
 obtain⟨c,q⟩:=nJ a b;have j:∀ v∈ai l,v∈g.V:=fun v h=>by
  obtain⟨e,d,k⟩:=(aK v l).1 h;have:=a.ends e (q e d);rcases k with rfl|rfl
  .exact this.1
  .exact this.2
 refine⟨⟨c.ne,?_,fun v h=>p v (j v h)⟩,?_,j⟩
 .have m:=((fH a).map aj).nodup_iff.2 (pB g.E);rw[qz]at m;exact(lh (de (f:=List.map aj) b)).nodup m
 .unfold aQ at b;obtain⟨B,o,e⟩:=aq.1 b;rw[<- e];intro n;exact(kY a.simple o).ne (qj.1 n)
section
variable {g:Gr} (hg:GoodE g) (hv:∀ v∈g.V,0<=v/\v<4194304) (hn:g.V.length<=24) (he:g.E.length<=50)
include hg hv hn he
theorem XW{l:List Ed}(a:l∈aQ g):l.length<=50/\(ai l).length<=24:=by
 obtain⟨_,_,b⟩:=Sx hg hv a;constructor
 .have c:l.length<=(aQ g).flatten.length:=(lh a).length_le;have d:=(fH hg).length_eq;have e:=nX g.E;omega
 .have:=fg ((lG l).imp fun k=>by omega) b;omega
theorem Uu{l:List Ed}(D:l∈aQ g){F:List AN}(b:jV l F)(T:TL)(V:gU T+1200<=100000):uf F (aU F) (vK g F T)/\gU (vK g F T)<=gU T+1200:=by
 obtain⟨B,K,U⟩:=Sx hg hv D;obtain⟨W,X⟩:=XW hg hv hn he D;have C:=b.cnt;have N:(PF F).length<=100:=by have:=uG (E:=l) b.nd fun p w=>(b.mem p.1 p.2).1 w;omega
 obtain⟨J,z,A⟩:=RY (F.flatMap iz);have P:(F.flatMap iz).length=(PF F).length:=by
  have:=(xA F).length_eq
  rwa [dh]at this
 rw[<- xS]at J z A;have I:∀ v∈(aU F).map (·.1),v∈ai l:=fun v R=>by obtain⟨t,S,rfl⟩:=A v R;have:=(xA F).mem_iff.1 (de (f:=fun t:Int×Int×Int=>(t.1,t.2.1)) S);obtain⟨e,he,k⟩:=(b.mem t.1 t.2.1).1 this;exact(dQ he k).2
 have M:(qU ((aU F).map (·.1))).length<=24:=by have:=fg (l₂:=ai l) ((zR ((aU F).map (·.1))).imp fun k=>by omega) fun v h=>I v ((pS v _).1 h);omega
 have o:∀ v,((bY (dI v (aU F))).flatMap (dj g v)).length<=50:=fun v=>by
  by_cases j:v∈ai l
  .have O:=b.round B K j;have s:((bY (dI v (aU F))).flatMap (dj g v)).Nodup:=kU O.1 (fun x _=>nQ hg v x) fun x _ y _ d n L=>by rw[<- (xR hg n).2,(xR hg L).2]
   have:=fg s (l₂:=g.E.map (ek v)) fun d q=>by obtain⟨x,_,q⟩:=gh.1 q;obtain⟨e,he,_,rfl⟩:=kM.1 q;exact de he
   rw[dh]at this;omega
  .rw[oU b B j,nO];simp
 have c:gU (vK g F T)<=gU T+1200:=by have:=Ie g (aU F) 50 (qU ((aU F).map (·.1))) T fun v _=>o v;unfold vK;omega
 refine⟨⟨oO,fun r H=>?_,oO,fun a Q=>by have:=z a Q;omega,oO⟩,c⟩;have m:=b.nd;unfold PF at m;rw[List.flatMap_def]at m;have n:=uG (E:=l) ((lh (de (f:=ao) H)).nodup m) fun p w=>(b.mem p.1 p.2).1 (aX.2 ⟨r,H,w⟩);rw[oB]at n;omega
theorem RK:∀(c:List (List Ed)) (T:TL),(∀ l∈c,l∈aQ g)->gU T+c.length*1200<=100000->∃ o,yR g c T=some o
 |[],T,_,_=>⟨_,rfl⟩
 |l::c,T,hl,hT=>by
  obtain⟨o,e,f⟩:=Kz hg oO oO oO (hl l aw);unfold yR;rw[e,Option.bind_some];cases o with
  |none=>exact⟨none,rfl⟩
  |some F=>
   have d:gU T+1200<=100000/\(∀ t,t<=gU T+1200->t+c.length*1200<=100000):=by rw[List.length_cons]at hT;clear e f;generalize gU T=a at *;generalize c.length=b at *;exact⟨oO,fun t h=>by omega⟩
   obtain⟨k,m⟩:=Uu hg hv hn he (hl l aw) (f F rfl) T d.1;simp only;rw[ad k];exact RK c _ (fun x j=>hl x (ar _ j)) (d.2 _ m)
end
def Nb{g:Gr}(l:chk g=0)(B:g.V.length<=24)(z:g.E.length<=50):∃ o,iX g (aQ g)=some o/\∀ m,o=some m->∃ Bs,Sys g Bs/\Bs.map (·.1)=aQ g/\m=Ci g Bs/\∀ v,(jY g Bs v).length<=100:=by
 have x:=gB l;have d:=fO l;have s:∀ v∈g.V,0<=v/\v<4194304:=fun v h=>by have:=x.vpos v h;omega
 have D:(aQ g).length<=50:=by have b:=DV g;have j:=nX g.E;omega
 have b:gU ([]:TL)+(aQ g).length*1200<=100000:=by have w:gU ([]:TL)=0:=rfl;rw[w,jd];generalize (aQ g).length=n at *;omega
 obtain⟨o,q⟩:=RK d s B z (aQ g) [] (fun _ h=>h) b;unfold iX;rw[q,Option.bind_some];cases o with
 |none=>exact⟨none,rfl,fun m e=>by cases e⟩
 |some T=>
  obtain⟨Bs,c,y,C⟩:=CZ g (aQ g) [] T q;have k:Sys g Bs:=YB d s c fun p r=>by
   have A:p.1∈aQ g:=by rw[<- c];exact de (f:=(·.1)) r
   obtain⟨o,b,j⟩:=Kz d oO oO oO A;rw[y p r]at b;injection b with b;exact j p.2 b.symm
  have a:∀ v,eF v T=jY g Bs v:=fun v=>by rw[C v];rfl
  have t:∀ v,(jY g Bs v).length<=100:=fun v=>by rw[(k.turn_perm v).length_eq];have:=Bh (Fw v) (Ro v) g.E;show(g.E.flatMap (Fw v)).length<=100;omega
  simp only;rw[ad fun v _=>by rw[a v];exact er (t v) oO];refine⟨_,rfl,fun m e=>⟨Bs,k,c,?_,t⟩⟩;injection e with e;rw[<- e];show(⟨g,g.V.map fun v=>ev (eF v T)⟩:Mp)=_
  congr 1
  exact ii fun v _=>by rw[a]
def Rw{g:Gr}(d:chk g=0)(l:g.V.length<=24)(j:g.E.length<=50):∃ o,iX g (aQ g)=some o/\∀ m,o=some m->m.g=g/\FF m=0/\m.rots.length=g.V.length/\∀ t∈m.rots,t.length<=100:=by
 obtain⟨o,n,b⟩:=Nb d l j;refine⟨o,n,fun m e=>?_⟩;obtain⟨Bs,c,h,rfl,r⟩:=b m e;have f:=c.map_ok;have a:=c.plane h;have p:vQ (Ci g Bs)=0:=Vb d f.len fun k b=>f.ok k b;refine⟨rfl,?_,sS,fun t q=>?_⟩
 .unfold FF;rw[ac (fun k=>k p),ac (fun k=>k a)]
 .obtain⟨v,_,rfl⟩:=aq.1 q;rw[nW];exact r v
end Aw
namespace Aw
open Pl
def Ry{m:Mp}(h:FF m=0):bU m/\gn m=0/\chk m.g=0:=by
 unfold FF at h;by_cases a:vQ m=0
 .rw[ac (fun k=>k a)]at h;obtain⟨b,c⟩:=OH a;exact⟨c,oO,b⟩
 .rw[ad a]at h;exact absurd h a
end Aw
namespace Aw
open Go Go.RowKit Pl Eu
def yY{g:Gr}(a:chk g=0):mL g.E:=
 mL.of (fO a) fun v h=>by have:=(gB a).vpos v h;omega
def GZ{g:Gr}(a:chk g=0)(n:g.V.length<=24)(e:g.E.length<=50):∃ o,iX g (aQ g)=some o/\(o.isSome=true↔Pg g.E):=by
 obtain⟨o,c,j⟩:=Rw a n e;have d:∀ v∈g.V,0<=v/\v<4194304:=fun v h=>by have:=(gB a).vpos v h;omega
 refine⟨o,c,fun h=>?_,fun h=>?_⟩
 .obtain⟨m,rfl⟩:=xy.1 h;obtain⟨rfl,p,_,_⟩:=j m rfl;obtain⟨k,f,_⟩:=Ry p;exact k.pg f d
 .exact BV (fun l b=>DO (fO a) oO oO oO b (h.blk (fO a) d oO oO b)) c
def Rn{g:Gr}{k:Nat}{R:List AN}(h:cT g k R):∀ c∈R,∃ v∈g.V,Kc g v c:=by
 induction h with
 |zero=>intro c a;cases a
 |seen _ _ _ ih=>exact ih
 |lead _ hk _ a ih=>
  intro c h;rcases an.1 h with h|h
  .exact ih c h
  .rw[bf.1 h];exact⟨_,by rw[bA _ _ hk];exact dq _,a⟩
def Sd{g:Gr}(h:Good g){A:List AN}(e:cT g g.V.length A){v:Int}(a:v∈g.V):∃ c∈A,v∈c:=by have b:v∈A.flatten:=((e.flat h).2 v).2 ⟨a,v,by rw[gm];exact a,.refl⟩;obtain⟨c,f,d⟩:=fh.1 b;exact⟨c,f,d⟩
def Gq{g:Gr}(h:xj g):Good g:=⟨h.rise,h.ends⟩
def JC{g:Gr}(o:chk g=0){R:List AN}{k:Nat}(n:cT g k R){l:AN}(p:l∈R):chk ⟨l,g.E.filter fun y=>decide (y.a∈l)⟩=0/\l.length<=g.V.length:=by
 have b:=gB o;obtain⟨v,q,f,d⟩:=Rn n l p;have m:l.length<=g.V.length:=fg (f.imp fun h=>by omega) fun w h=>((d w).1 h).1;refine⟨KU ⟨f,fun w h=>b.vpos w ((d w).1 h).1,b.ids.sublist jc,fun x c=>b.pos x (cx.1 c).1,fun x c=>b.ne x (cx.1 c).1,fun x c=>?_,er m b.l1,er (gw _ _) b.l2⟩,m⟩;obtain⟨j,e⟩:=cx.1 c;have e:x.a∈l:=by simpa using e
 refine⟨e,(d _).2 ⟨(b.ends x j).2,((d _).1 e).2.step (cN.2 ⟨x,j,.inl ⟨rfl,rfl⟩⟩)⟩⟩
def Sj{g:Gr}(t:chk g=0)(M:g.V.length<=24)(b:g.E.length<=50){R:List AN}(H:cT g g.V.length R):Pg g.E↔∀ l∈R,Pg (g.E.filter fun y=>decide (y.a∈l)):=by
 have A:=gB t;have r:=yY t;have F:=fO t;constructor
 .exact fun h l _=>h.sub (fun e b=>r e (cx.1 b).1) fun e b=>⟨e,(cx.1 b).1,rfl⟩
 .intro h;obtain⟨o,N,L⟩:=GZ t M b;refine L.1 (BV (fun B z=>DO F oO oO oO z ?_) N);obtain⟨J,d,S,K⟩:=FH F oO oO z;obtain⟨m,j⟩:=gS _ J;obtain⟨c,n,C⟩:=Sd (Gq A) H (A.ends m (d m j).1).1;obtain⟨v,Q,_,I⟩:=Rn H c n;have w:∀ e∈B,e.a∈c:=fun e b=>by
   by_cases q:2<=B.length
   .have O:=((K q).con (-1) m.a e.a ((aK _ B).2 ⟨m,j,.inl rfl⟩) ((aK _ B).2 ⟨e,b,.inl rfl⟩) (by have:=r m (d m j).1;omega) (by have:=r e (d e b).1;omega)).reach.mono fun e b=>(d e b).1;exact(I _).2 ⟨(A.ends e (d e b).1).1,((I _).1 C).2.trans O⟩
   .match B,b,j,q with
    |[x],b,j,_=>simp_all
    |x::y::B,_,_,q=>simp at q
  obtain⟨s,P⟩:=h c n;have p:(B.map aj).Nodup:=by have d:=((fH F).map aj).nodup_iff.2 (pB g.E);rw[qz]at d;exact(lh (de (f:=List.map aj) z)).nodup d
  refine⟨s,P.of_sub ⟨fun e k=>(d e k).2,p,fun v k=>?_⟩ fun e k=>yB (cx.2 ⟨(d e k).1,by simpa using w e k⟩)⟩;obtain⟨e,D,k⟩:=(aK v B).1 k;have:=r e (d e D).1
  grind
def PO{A B:List Ed}{x y:Ed}(d:mL A)(j:x∈A)(l:aj y=aj x)(m:y.a≠y.b/\(y.a=x.a\/y.a=x.b)/\(y.b=x.a\/y.b=x.b))(f:∀ e,e∈B↔e∈A\/e=y):Pg B↔Pg A:=by
 have k:=d x j;have g:mL B:=fun e c=>by
  rcases(f e).1 c with h|rfl
  .exact d e h
  .grind
 refine⟨fun h=>h.sub d fun e c=>⟨e,(f e).2 (.inl c),rfl⟩,fun h=>h.sub g fun e c=>?_⟩;rcases(f e).1 c with h|rfl
 .exact⟨e,h,rfl⟩
 .exact⟨x,j,l.symm⟩
def HK{V:AN}{E:List Ed}(d:V.Pairwise (· < ·))(f:∀ v∈V,1<=v/\v<=1048576)(g:(E.map (·.id)).Pairwise (· < ·))(c:∀ e∈E,(1<=e.id/\e.id<=1048576)/\e.a≠e.b/\e.a∈V/\e.b∈V)(j:V.length<=64)(k:E.length<=160):chk ⟨V,E⟩=0:=
 KU ⟨d,f,fa.1 g,fun x h=>(c x h).1,fun x h=>(c x h).2.1,fun x h=>(c x h).2.2,j,k⟩
end Aw
namespace Aw
open Go Go.RowKit Pl
def Cp:Gr:=⟨[1,2,3],[⟨1,1,2⟩,⟨2,2,3⟩,⟨3,3,1⟩]⟩
def sL:Gr:=⟨[1,2,3,4,5],[⟨1,1,2⟩,⟨2,1,3⟩,⟨3,1,4⟩,⟨4,1,5⟩,⟨5,2,3⟩,⟨6,2,4⟩,⟨7,2,5⟩,⟨8,3,4⟩,⟨9,3,5⟩,⟨10,4,5⟩]⟩
def Rz{g:Gr}(a:GoodE g){s:Bw}(h:tD g.E g.V.length g.V ⟨[],[],[],[]⟩=some s){B:List (List Nat)}(b:B.Perm s.out)(c:B.Pairwise fun x y=>x.headD 0<y.headD 0):gA g.E=B:=by
 grind [rT,CL]
def ED{g:Gr}(b:GoodE g){out:List (List Nat)}(h:(tD (sE g.E) g.V.length g.V ⟨[],[],[],[]⟩).map (·.out)=some out){B:List (List Nat)}(c:B.Perm out)(d:B.Pairwise fun x y=>x.headD 0<y.headD 0):aQ g=B.map fun B=>B.map (am (sE g.E)):=by obtain⟨s,a,rfl⟩:=jp.1 h;unfold aQ;rw[Rz (g:=⟨g.V,sE g.E⟩) b.simple a c d]
def IV:chk Cp=0:=by decide +kernel
def DI:chk sL=0:=by decide +kernel
def NW:aQ Cp=[Cp.E]:=by rw[ED (fO IV) (out:=[[0,1,2]]) (by decide +kernel) (vm _) (by decide)];decide +kernel
def KL:aQ sL=[sL.E]:=by rw[ED (fO DI) (out:=[[0,1,2,3,4,5,6,7,8,9]]) (by decide +kernel) (vm _) (by decide)];decide +kernel
def Mu:(if chk sL=0 then iX sL (aQ sL)else some none)=some none:=by rw[ad DI,KL];rfl
def TM:(if chk Cp=0 then iX Cp (aQ Cp)else some none)=some (some ⟨Cp,[[2,7],[3,4],[5,6]]⟩):=by rw[ad IV,NW];rfl
def pK(a b:Nat):List Ed:=sL.E.filter fun e=>decide (e.a<a)||(decide (e.a=a)&&decide (e.b<b))
def Nj(a b:Nat)(c:1<=a)(d:a<b)(e:b<=5):pK a (b+1)=pK a b++[⟨(pK a b).length+1,a,b⟩]:=by
 have h:∀ a:Fin 6,∀ b:Fin 6,1<=a.1->a.1<b.1->pK a.1 (b.1+1)=pK a.1 b.1++[⟨(pK a.1 b.1).length+1,a.1,b.1⟩]:=by decide +kernel
 exact h ⟨a,oO⟩ ⟨b,oO⟩ c d
def NH(a:Nat)(b:1<=a)(c:a<=5):pK a 6=pK (a+1) (a+2):=by
 have h:∀ a:Fin 6,1<=a.1->pK a.1 6=pK (a.1+1) (a.1+2):=by decide +kernel
 exact h ⟨a,oO⟩ b
def UO(a b:Nat):(pK a b).length<=10:=gw _ _
def xk(c:St)(a b:Nat)(s:St):Prop:=s.H c.z=.box 25 2 [.nil,.nil]/\aA c s/\∃ d t,s.H (c.z+2)=.box 25 2 [.sl d 5 (us [1,2,3,4,5]),.sl t (pK a b).length (eds (pK a b))]/\t≠0/\c.z+2<t/\t<s.z/\s.H t=.own 36 3 (pK a b).length
def ZS(c:St):aB prog 34 [] c fun r B=>r=.ag (bv sL)/\aA c B:=by
 refine eS ?_;refine zN func34 ntmps34 [.cell 0 25] ?_;refine iF fun P4=>?_;refine bz ?_;refine HJ (c.z+2) 36 3 (e:=25) (s:=2) [.sl (c.z+1) 5 (us [1,2,3,4,5])] [] sS ?_;refine qL (fun n d s=>∃ a:Nat,1<=a/\a<=6/\n=6-a/\d 0=.pt c.z 0/\d 1=.pt (c.z+2) 0/\d 2=u a/\xk c a (a+1) s) 5 ?_ ?_
 .refine⟨1,oO,oO,rfl,sS,sS,sS,?_,?_,c.z+1,c.z+3,?_,oO,oO,sS,?_⟩
  ·(repeat (first|rw[bh bm]|rw[bj oO]|rw[bi bo]|rw[bk oO]))
  .exact(((((aA.new _ _).trans (aA.new _ _)).trans (aA.new _ _)).set oO _).trans (aA.new _ _)).set oO _
  .have:pK 1 (1+1)=[]:=by decide +kernel
   rw[this];(repeat (first|rw[bh bm]|rw[bj oO]|rw[bi bo]|rw[bk oO]));simp[us,eds]
  .have:pK 1 (1+1)=[]:=by decide +kernel
   rw[this];(repeat (first|rw[bh bm]|rw[bj oO]|rw[bi bo]|rw[bk oO]));simp
 rintro n d s ⟨a,H,a2,rfl,g,h,f,j⟩ JJ k;by_cases V:a<=5
 .have P:IntKind.u32.wrap ((a:Int)+1)=((a+1:Nat):Int):=by rw[wrap_u32' _ oO oO];omega
  have y:(a:Int)<=5:=oO;refine fk f y P ?_;refine qL (fun n d s=>∃ b:Nat,a<b/\b<=6/\n=6-b/\d 0=.pt c.z 0/\d 1=.pt (c.z+2) 0/\d 2=u a/\d 3=u b/\xk c a b s) (6-(a+1)) ?_ ?_
  .exact⟨a+1,oO,oO,rfl,aa g,aa h,aa f,sS,j⟩
  clear g h f j d s;rintro n d s ⟨b,T,b2,rfl,g,h,f,v,j⟩ J2 w;by_cases W:b<=5
  .have o:IntKind.u32.wrap ((b:Int)+1)=((b+1:Nat):Int):=by rw[wrap_u32' _ oO oO];omega
   have q:(b:Int)<=5:=oO;obtain⟨x,A,Q,t,l,C,Y,Z,p⟩:=j;have D:=Nj a b H T W;have Q8:=UO a b;generalize pK a b=E at *;have R:IntKind.i64.wrap ((E.length:Int)+1)=(E.length:Int)+1:=zW;have S:IntKind.u32.wrap ((E.length:Int)+1)=(E.length:Int)+1:=wrap_u32' _ oO oO;have m:=aJ E;have F:=WI E;have I:¬t=s.z:=oO;have K:¬s.z=t:=oO;have L:¬c.z+2=s.z:=oO;have M:¬c.z+2=t:=oO;have N:¬c.z+2=s.z+1:=oO;have O:¬s.z=c.z+2:=oO
   (repeat' (first|apply qS|apply qB|refine qK (zZ ?_)|(apply qC;simp[g,h,f,v,q,o,l,p,C,R,S,m,F,I,K,L,M,N,O])|(refine zE ?_;intro J U;simp[g,h,f,v,q,o,l,p,C,R,S,m,F,I,K,L,M,N,O];(repeat refine ca ?_);refine zJ U ?_)))
   refine w (6-(b+1)) _ _ oO ⟨b+1,oO,oO,rfl,aa g,aa h,aa f,sS,?_,?_,Q,s.z+1,?_,oO,oO,sS,?_⟩
   ·(repeat (first|rw[bh bm]|rw[bj oO]|rw[bi bo]|rw[bk oO]));exact x
   .exact(((A.trans (aA.new _ _)).set oO _).trans (aA.new _ _)).set oO _
   .rw[D];(repeat (first|rw[bh bm]|rw[bj oO]|rw[bi bo]|rw[bk oO]));simp[eds,dl]
   .rw[D];(repeat (first|rw[bh bm]|rw[bj oO]|rw[bi bo]|rw[bk oO]));simp
  .obtain rfl:b=6:=oO;have q:¬((6:Nat):Int)<=5:=oO;unfold xk at j k;rw[NH a H V]at j;refine fk v f P ?_;exact k _ _ _ oO ⟨a+1,oO,oO,rfl,aa g,aa h,sS,j⟩
 .obtain rfl:a=6:=oO;clear k;obtain⟨x,A,Q,t,l,C,Y,Z,p⟩:=j;have X:pK 6 (6+1)=sL.E:=by decide +kernel
  rw[X]at l p;refine jg g h f l x ?_;exact⟨by simp only[z0,dw,zF];rfl,A.set oO _⟩
end Aw
namespace Aw
open Go Go.RowKit
end Aw
namespace Aw
open Go Go.RowKit Pl
mutual
def lK:LV->Bool
 |.sl t _ cs=>t==0&&sU cs
 |.nil=>true
 |.ag cs=>sU cs
 |.tu cs=>sU cs
 |.atom _=>true
 |_=>false
def sU:List LV->Bool
 |[]=>true
 |c::cs=>lK c&&sU cs
end
abbrev G0:G:=⟨1,fun _=>none,fun _=>0,fun _=>0,fun _=>false⟩
def YV(b o:Nat):G0.ok b o:=by simp[G.ok]
mutual
theorem HW{w:World}{g:G}:∀(j:LV) (v:Value),lK j=true->Rep w g j v->Rep w G0 j v
 |.sl t n cs,v,a,h=>by simp only[lK,fw,rl]at a;obtain⟨rfl,a⟩:=a;simp only[Rep]at h ⊢;obtain⟨A,f,c,d,l,_,m⟩:=h;refine⟨A,f,c,d,l,fun h=>absurd rfl h,fun k=>?_⟩;obtain⟨b,o,p,q⟩:=m k;exact⟨b,o,p,xY b cs o a q⟩
 |.nil,v,_,h=>by simpa only[Rep]using h
 |.ag cs,v,a,h=>by simp only[lK]at a;simp only[Rep]at h ⊢;obtain⟨e,c,d⟩:=h;exact⟨e,c,rP cs e a d⟩
 |.tu cs,v,a,h=>by simp only[lK]at a;simp only[Rep]at h ⊢;obtain⟨e,c,d⟩:=h;exact⟨e,c,rP cs e a d⟩
 |.atom _,_,_,h=>by simpa only[Rep]using h
 |.emp,_,a,_=>by simp[lK]at a
 |.dead,_,a,_=>by simp[lK]at a
 |.ms _ _ _,_,a,_=>by simp[lK]at a
 |.pt _ _,_,a,_=>by simp[lK]at a
 |.ep _,_,a,_=>by simp[lK]at a
 |.mp _,_,a,_=>by simp[lK]at a
 |.fn _ _,_,a,_=>by simp[lK]at a
 |.qu _ _ _ _,_,a,_=>by simp[lK]at a
 |.pe _ _,_,a,_=>by simp[lK]at a
 |.kap _ _ _,_,a,_=>by simp[lK]at a
theorem rP{w:World}{g:G}:∀(a:List LV) (d:List Value),sU a=true->aC w g a d->aC w G0 a d
 |[],d,_,h=>h
 |c::a,d,hp,h=>by simp only[sU,fw]at hp;simp only[aC]at h ⊢;obtain⟨v,b,rfl,e,f⟩:=h;exact⟨v,b,rfl,HW c v hp.1 e,rP a b hp.2 f⟩
theorem xY{w:World}{g:G}(b:Nat):∀(a:List LV) (o:Nat),sU a=true->aP w g b a o->aP w G0 b a o
 |[],_,_,h=>h
 |c::a,o,hp,h=>by simp only[sU,fw]at hp;simp only[aP]at h ⊢;obtain⟨⟨v,d,e,f⟩,h4⟩:=h;exact⟨⟨v,d,HW c v hp.1 e,YV b o⟩,xY b a (o+1) hp.2 h4⟩
end
def Cv{P:Program}{f:FuncId}{args:List LV}{d:LV}{o:St}(y:sU args=true)(A:∀(w:World) (g p:G) v,Rep w g d v->Rep w p d v)
 (h:aB P f args ⟨1,fun _=>.dead⟩ fun r _=>r=d):aB P f args o fun r c=>r=d/\c=o:=by
 refine⟨h.1,fun w g B t m=>?_⟩;have j:Inv w G0 ⟨1,fun _=>.dead⟩:=by refine⟨rfl,by decide,fun _ _=>rfl,fun l a=>a.elim,fun l H a=>a.elim,fun l e s n a=>(by cases a),fun l e s D a=>(by cases a),fun l ag F E a=>(by cases a),fun l e n a=>(by cases a),tQ (t.aside.glob.phi fun _ _ _ _ _=>rfl) fun _=>rfl⟩
 refine(h.2 w _ B j (rP _ _ y m)).mono ?_;rintro e C ⟨v,r,c,p,rfl,rfl,x,_,b⟩;have q:Below w.heap.size w C:=⟨b.os,b.tape,b.output,b.size,fun k z=>(b.still k z rfl).2⟩;exact⟨v,_,o,g,rfl,⟨rfl,rfl⟩,A _ _ _ _ x,wW t q,sC g q⟩
def ZN(k:Int)(p:LV×St):Bool:=match p.1 with
 |.atom (.int .i64 n)=>n==k
 |_=>false
def xm(k:Int)(r:Option (List (LV×St))):Bool:=match r with
 |some l=>l.all (ZN k)
 |none=>false
def yS⦃P:Program⦄{T:az}{dP:FuncId->Option Func}{j:kH}(p:aZ P T)(hf:Dj P dP)(q:oS P j)(x:P.follows .mixedOrders=true)(n:Nat){f:FuncId}{args:List LV}{k:Int}{d:St}(t:sU args=true)
 (h:xm k (xU T dP j n f args ⟨1,fun _=>.dead⟩)=true):aB P f args d fun r o=>r=i k/\o=d:=by
 cases a:xU T dP j n f args ⟨1,fun _=>.dead⟩ with
 |none=>rw[a]at h;simp[xm]at h
 |some l=>
  rw[a]at h;simp only[xm]at h;rw[kw]at h;have:=rE p hf q (fun N c s d L a=>Ah p hf q x n N c s d L a) f args _ l a;refine Cv t (fun w g z v h=>by simp only[Rep]at h ⊢;exact h) (this.mono ?_);intro A y e;have b:=h _ e;unfold ZN at b
  split at b
  .rename_i m c;simp only at c;rw[c,eq_of_beq b]
  .cases b
def Vo:Mp:=⟨Cp,[[2,7],[3,4],[5,6]]⟩
def KG(b:St):aB prog 11 [.ag (pu Vo)] b fun r a=>r=i 0/\a=b:=
 yS lV Pf FV mixed 1000000 (by kernel_rfl) (by kernel_rfl)
def Ps(b:St):aB prog 35 [] b fun r a=>r=bb true/\a=b:=by
 refine zN func35 ntmps35 [.tmp 0] ?_
 (refine eu ?_;intro J c)
 refine qE (Vn _) (by simp[]) ?_;rintro r a ⟨rfl,rfl⟩;exact UX c
def Qd(b:St):aB prog 36 [] b fun r a=>r=bb true/\a=b:=by
 refine zN func36 ntmps36 [.tmp 0] ?_
 (refine eu ?_;intro J c)
 refine qE (UM _) (by simp[]) ?_;rintro r a ⟨rfl,rfl⟩;exact UX c
def Ui(m:St):aB prog 9 [] m fun r n=>r=bb true/\n=m:=by
 refine qT (Q:=fun r=>r=bb true) ?_ fun r h=>by subst h;trivial
 have f:=Ez Cp (by decide) (by decide) TM;have j:=Ez sL (by decide) (by decide) Mu;have x:=fun s=>KG s;refine zN func9 ntmps9 [.tmp 0] ?_
 (refine eu ?_;intro J b)
 refine PG (f _) (by simp[z0,dw,bv,Cp,us,eds,dl]) ?_;rintro r l ⟨rfl,q⟩;unfold Gp;have v:=q.z;simp only[aH]at v
 (refine mQ b ?_;intro J b)
 refine qE (ZS _) sS ?_;rintro r t ⟨rfl,o⟩;have w:=o.z;simp only[aH]at w;have e:t.H l.z=.box 28 3 (pu Vo):=by rw[o.H _ sS];simp[Vo]
 have k:aA m t:=((((aA.new _ _).trans (aA.new _ _)).trans q).trans (aA.new _ _)).trans o;refine dB b ?_;refine qE (j _) sS ?_;rintro r A ⟨rfl,p⟩;unfold Gp;have y:=p.z;have a:=(p.H l.z oO).trans e;have c:¬l.z=A.z:=oO;have d:Vo.g.E.length=3:=rfl
 (refine OY b a c ?_;intro J b)
 refine jh (x _) ?_ (by simp[pu,bv]);refine sW b a c d ?_;refine jh (Ps _) ?_;refine sW b a c d ?_;refine jh (Qd _) ?_;refine sW b a c d ?_;exact(k.trans p).trans (aA.new _ _)
def ZH(l:AN):LV:=.sl 0 l.length (us l)
def TC(R:List AN):List LV:=R.map ZH
@[simp] theorem XS(R:List AN):(TC R).length=R.length:=by simp[TC]
def zM(g:Gr)(h:g.V.length<=1000)(e:g.E.length<=200){o:Option Mp}(f:(if chk g=0 then iX g (aQ g)else some none)=some o)(d:St):
 aB prog 12 [.ag (bv g)] d fun r a=>r=bb o.isSome/\aA d a:=by
 refine zN func12 ntmps12 [.tmp 2] ?_
 (refine eu ?_;intro J b)
 refine qE (Ez g h e f _) sS ?_;rintro r j ⟨rfl,c⟩;unfold Gp;cases o with
 |none=>refine dB b ?_;exact((aA.new _ _).trans c).trans (aA.new _ _)
 |some m=>refine dB b ?_;exact((aA.new _ _).trans c).trans (aA.new _ _)
noncomputable def Ij(g:Gr):Option (Option Mp):=if chk g=0 then iX g (aQ g)else some none
def Va{g:Gr}(h:chk g=0){A:List Ed}(b:A.Sublist g.E):chk ⟨g.V,A⟩=0:=by have a:=gB h;exact KU ⟨a.rise,a.vpos,a.ids.sublist b,fun x c=>a.pos x (b.subset c),fun x c=>a.ne x (b.subset c),fun x c=>a.ends x (b.subset c),a.l1,er b.length_le a.l2⟩
def rQ{g:Gr}(a:chk g=0)(e:g.V.length<=24)(d:g.E.length<=50):∃ o,Ij g=some o/\(o.isSome=true↔Pg g.E):=by obtain⟨o,b,c⟩:=GZ a e d;exact⟨o,by unfold Ij;rw[ad a];exact b,c⟩
def Xj{g:Gr}(d:chk g=0){x y:Ed}(e:x∈g.E)(f:y∈g.E):y.id=x.id↔y=x:=by
 refine⟨fun h=>?_,fun h=>by rw[h]⟩;have a:=(gB d).ids;rcases sm.1 f with⟨i,b,rfl⟩;rcases sm.1 e with⟨j,c,rfl⟩;rw[fq]at a;rcases ni i j with k|k|k
 .have:=a i j b c k;omega
 .subst k;rfl
 .have:=a j i c b k;omega
section
variable {g:Gr} (hc:chk g=0) (hn:g.V.length<=20) (he:g.E.length<=30)
include hc hn he
theorem QS(x:Ed):∃ o,Ij ⟨g.V,g.E.filter fun y=>decide (y.id≠x.id)⟩=some o/\(Pg g.E->o.isSome=true):=by have c:=gw (fun y:Ed=>decide (y.id≠x.id)) g.E;obtain⟨o,a,b⟩:=rQ (g:=⟨g.V,g.E.filter fun y=>decide (y.id≠x.id)⟩) (Va hc jc) (by show g.V.length<=24;omega) (by show(g.E.filter _).length<=50;omega);exact⟨o,a,fun h=>b.2 (h.sub (fun e he=>yY hc e (cx.1 he).1) fun e he=>⟨e,(cx.1 he).1,rfl⟩)⟩
theorem SX{R:List AN}(f:cT g g.V.length R):∃ P:AN->Bool,(∀ l∈R,l.length<=20/\∃ o:Option Mp,Ij ⟨l,g.E.filter fun y=>decide (y.a∈l)⟩=some o/\P l=o.isSome)/\(R.all P=true↔Pg g.E):=by
 refine⟨fun l=>((Ij ⟨l,g.E.filter fun y=>decide (y.a∈l)⟩).getD none).isSome,fun l b=>?_,?_⟩
 .obtain⟨e,j⟩:=JC hc f b;have c:=gw (fun y:Ed=>decide (y.a∈l)) g.E;obtain⟨o,d,_⟩:=rQ e (by show l.length<=24;omega) (by show(g.E.filter _).length<=50;omega);exact⟨oO,o,d,by dsimp only;rw[d];rfl⟩
 .rw[kw,Sj hc oO oO f];have:∀ l∈R,((Ij ⟨l,g.E.filter fun y=>decide (y.a∈l)⟩).getD none).isSome=true↔Pg (g.E.filter fun y=>decide (y.a∈l)):=fun l b=>by obtain⟨e,j⟩:=JC hc f b;have c:=gw (fun y:Ed=>decide (y.a∈l)) g.E;obtain⟨o,d,k⟩:=rQ e (by show l.length<=24;omega) (by show(g.E.filter _).length<=50;omega);rw[d];exact k
  exact⟨fun h l b=>(this l b).1 (h l b),fun h l b=>(this l b).2 (h l b)⟩
variable {x:Ed} (hx:x∈g.E) {id:Int} (hid:1<=id/\id<=1048576)
include hx hid
theorem Ol{V:AN}{E:List Ed}(f:V.Perm g.V)(l:V.Pairwise (· < ·))(n:E.Perm (g.E++[⟨id,x.b,x.a⟩]))(k:(E.map (·.id)).Pairwise (· < ·)):V.length<=1000/\E.length<=200/\∃ o,Ij ⟨V,E⟩=some o/\(o.isSome=true↔Pg g.E):=by
 have c:=gB hc;have t:=f.length_eq;have j:=n.length_eq;rw[cf,List.length_cons,List.length_nil]at j;have p:∀ e,e∈E↔e∈g.E\/e=⟨id,x.b,x.a⟩:=fun e=>by rw[n.mem_iff];simp
 have d:=c.ends x hx;have m:=c.ne x hx
 have q:chk ⟨V,E⟩=0:=HK l (fun v h=>c.vpos v (f.mem_iff.1 h)) k (fun e h=>by
  rw[f.mem_iff,f.mem_iff];rcases(p e).1 h with h|rfl
  .exact⟨c.pos e h,c.ne e h,c.ends e h⟩
  .exact⟨hid,fun h=>m h.symm,d.2,d.1⟩) oO oO
 obtain⟨o,r,s⟩:=rQ q (by show V.length<=24;omega) (by show E.length<=50;omega);refine⟨oO,oO,o,r,s.trans (PO (yY hc) hx ?_ ?_ p)⟩
 .unfold aj;rw[aG]
 .exact⟨fun h=>m h.symm,.inr rfl,.inl rfl⟩
theorem QX{v:Int}(D:1<=v/\v<=1048576)(j:v∉g.V){V:AN}{E:List Ed}(t:V.Perm (g.V++[v]))(r:V.Pairwise (· < ·))(s:E.Perm ((g.E.filter fun y=>decide (y.id≠x.id))++[⟨x.id,x.a,v⟩,⟨id,v,x.b⟩]))(p:(E.map (·.id)).Pairwise (· < ·)):V.length<=1000/\E.length<=200/\∃ o,Ij ⟨V,E⟩=some o/\(o.isSome=true↔Pg g.E):=by
 have c:=gB hc;have q:=t.length_eq;have n:=s.length_eq;have H:=gw (fun y:Ed=>decide (y.id≠x.id)) g.E;simp only[cf,List.length_cons,List.length_nil]at n q;have z:∀ e,e∈E↔(∃ f∈g.E,e=f/\f≠x)\/e=⟨x.id,x.a,v⟩\/e=⟨id,v,x.b⟩:=fun e=>by rw[s.mem_iff,an,cx,ah,bf,ke];refine or_congr ⟨fun h=>⟨e,h.1,rfl,fun k=>h.2 (by rw[k])⟩,?_⟩ mo;rintro⟨f,hf,rfl,h⟩;exact⟨hf,fun k=>h ((Xj hc hx hf).1 k)⟩
 have l:=c.ends x hx;have F:=c.ne x hx;have d:∀ w,w∈V↔w∈g.V\/w=v:=fun w=>by rw[t.mem_iff];simp
 have m:∀ e∈g.E,e.a≠v/\e.b≠v:=fun e h=>⟨fun k=>j (k ▸ (c.ends e h).1),fun k=>j (k ▸ (c.ends e h).2)⟩
 have A:chk ⟨V,E⟩=0:=HK r (fun w h=>by
  rcases(d w).1 h with h|rfl
  .exact c.vpos w h
  .exact D) p (fun e h=>by
  rw[d,d];rcases(z e).1 h with⟨f,h,rfl,_⟩|rfl|rfl
  .exact⟨c.pos e h,c.ne e h,.inl (c.ends e h).1,.inl (c.ends e h).2⟩
  .exact⟨c.pos x hx,(m x hx).1,.inl l.1,.inr rfl⟩
  .exact⟨hid,fun h=>(m x hx).2 h.symm,.inr rfl,.inl l.2⟩) oO oO
 obtain⟨o,B,C⟩:=rQ A (by show V.length<=24;omega) (by show E.length<=50;omega);refine⟨oO,oO,o,B,C.trans (VO (x:=x) (yY hc) hx m oO z rfl ?_)⟩;unfold aj;rw[aG]
end
def WM{l:AN}{n:Nat}(h:∀ z:Nat,1<=z->z<n->(z:Int)∈l):n<=l.length+1:=by
 have a:((List.range (n-1)).map fun z:Nat=>((z+1:Nat):Int)).Nodup:=by rw[rD,fa];exact qy.imp fun h e=>h oO
 have:=fg a (l₂:=l) fun x b=>by obtain⟨z,c,rfl⟩:=aq.1 b;exact h (z+1) oO (by have:=fC.1 c;omega)
 rw[dh,qt]at this;omega
def Ul(g:Gr)(a:St):aB prog 13 [.ag (bv g)] a fun r b=>r=i (chk g)/\aA a b:=by
 by_cases c:(64:Int)<(g.V.length:Int)
 .have:chk g=6:=by unfold chk;rw[ad oO]
  refine zN func13 ntmps13 [.tmp 2] ?_;refine cy c this ?_;exact aA.new _ _
 by_cases d:(160:Int)<(g.E.length:Int)
 .have:chk g=6:=by unfold chk;rw[ad oO]
  refine zN func13 ntmps13 [.tmp 2] ?_;refine fk c d this ?_;exact aA.new _ _
 exact OP g a oO oO
def Vg(g:Gr)(f:g.V.length<=1000)(h:g.E.length<=50){o:Option Mp}(e:(if chk g=0 then iX g (aQ g)else some none)=some o)(d:St):
 aB prog 12 [.ag (bv g)] d fun r a=>r=bb o.isSome/\aA d a:=by
 refine zN func12 ntmps12 [.tmp 2] ?_
 (refine eu ?_;intro J b)
 refine qE (Ez g f oO e _) sS ?_;rintro r j ⟨rfl,c⟩;unfold Gp;cases o with
 |none=>refine dB b ?_;exact((aA.new _ _).trans c).trans (aA.new _ _)
 |some m=>refine dB b ?_;exact((aA.new _ _).trans c).trans (aA.new _ _)
end Aw
end Go.Proofs.YtbgngpdonpeboaaGreatDoor
