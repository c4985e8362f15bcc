/- Lemmas. -/
import Derived.Test.YtbgngpdonpeboaaGreatDoorJm
set_option linter.unusedSectionVars false
set_option linter.defProp false
namespace Go.Proofs.YtbgngpdonpeboaaGreatDoor
namespace Aw
open Go Go.RowKit Pl Eu
variable{T:(Int->Prop)×(Int->Prop)}{g:Gr}{v w x y z:Int}{S:Int->Prop}{p:Int×Int}{E d:List Ed}{A B P Q r:List Int}
def Mr(c:(P++y::z::Q).Nodup):nx (P++y::z::Q) y=z:=by
 have b:P.length<(P++y::z::Q).length:=Y;have e:(P++y::z::Q)[P.length]=y:=by rw[oj (au _)];simp
 have:=iY c b;rw[e]at this;rw[this];have a:(P.length+1) % (P++y::z::Q).length=P.length+1:=ev Y;simp only[a];rw[oj O];simp
def Hx(b:(z::Q).Nodup)(h:z::Q=P++[y]):nx (z::Q) y=z:=by
 have a:(P++[y])[0]?=some z:=by rw[<- h];rfl
 rw[h]at b ⊢;have d:P.length<(P++[y]).length:=Y;have e:(P++[y])[P.length]=y:=by rw[oj (au _)];simp
 have:=iY b d;rw[e]at this;rw[this];have c:(P.length+1) % (P++[y]).length=0:=Y;simp only[c];rw[bu Y,ap]at a;exact a
def Yc{R:PP}{S:Int->PP}(f:R.Nodup)(c:(R.flatMap S).Nodup)(d:∀ x∈R,S x≠[])(j:x∈R):
 (∀ p y z q,S x=p++y::z::q->nx (R.flatMap S) y=z)/\∀ p y,S x=p++[y]->∃ z q,S (nx R x)=z::q/\nx (R.flatMap S) y=z:=by
 obtain⟨A,B,rfl⟩:=fo j;constructor
 .intro p y z q h;have e:(A++x::B).flatMap S=(A.flatMap S++p)++y::z::(q++B.flatMap S):=by simp[ot,dt,h]
  rw[e]at c ⊢;exact Mr c
 .intro p y h;cases B with
  |cons b B=>
   have g:=d b Y;obtain⟨z,q,a⟩:=nm g;refine⟨z,q,?_,?_⟩
   .rw[Mr f,a]
   .have e:(A++x::b::B).flatMap S=(A.flatMap S++p)++y::z::(q++B.flatMap S):=by simp[ot,dt,h,a]
    rw[e]at c ⊢;exact Mr c
  |nil=>
   cases A with
   |nil=>
    obtain⟨z,q,a⟩:=nm (d x Y);refine⟨z,q,?_,?_⟩
    .have e:nx [x] x=x:=Hx (z:=x) (Q:=[]) (P:=[]) Y rfl;rw[List.nil_append,e,a]
    .have e:([]++[x]).flatMap S=z::q:=by simp[a]
     rw[e]at c ⊢;exact Hx c (by rw[<- a,h])
   |cons b A=>
    obtain⟨z,q,a⟩:=nm (d b Y);refine⟨z,q,?_,?_⟩
    .have e:nx (b::A++[x]) x=b:=Hx (z:=b) (Q:=A++[x]) (P:=b::A) (by simpa using f) Y;rw[e,a]
    .have e:(b::A++[x]).flatMap S=z::(q++A.flatMap S++(p++[y])):=by simp[ot,dt,h,a]
     rw[e]at c ⊢;exact Hx (P:=z::(q++A.flatMap S++p)) c Y
theorem mF:∀ G:List (List PP),(G.map List.flatten).flatten=G.flatten.flatten
 |[]=>rfl
 |a::G=>by rw[ax,List.flatten_cons,List.flatten_cons,oq,mF G]
noncomputable def iw(al:Int->Int)(D:PP)(a:List PP):Nat:=bj (Orb fun d=>dn a (al d)) D
def iK(a:List PP):Nat:=(a.filter fun t=>decide (t≠[])).length
structure Inv2(al:Int->Int)(D:PP):Prop where
 two:∀ d,al (al d)=d
 mem:∀ d∈D,al d∈D
section
variable {al:Int->Int} {D:List Int} (hal:Inv2 al D) (hout:∀ d,d∉D->al d=d)
include hal hout
theorem Mf{a:List PP}(g:a.flatten.Nodup)(c:∀ d∈a.flatten,d∈D):cK D fun d=>dn a (al d):=by
 have h:=jO g;refine⟨fun x b=>?_,fun x y e=>?_,fun x b=>?_⟩
 .by_cases f:al x∈a.flatten
  .exact c _ (h.mem _ f)
  .show dn a (al x)∈D;rw[h.out _ f];exact hal.mem x b
 .have:=h.inj _ _ e;rw[<- hal.two x,this,hal.two]
 .show dn a (al x)=x;rw[hout x b,h.out x fun k=>b (c x k)]
theorem K4(a b d:Int):Eu.sw a b (al d)=al (Eu.sw (al a) (al b) d):=by
 by_cases c:d=al a
 .subst c;rw[vV,hal.two,hal.two,vV]
 .by_cases f:d=al b
  .subst f;rw[EK,hal.two,hal.two,EK]
  .rw[kZ c f,kZ (fun e=>c (by rw[<- e,hal.two])) (fun e=>f (by rw[<- e,hal.two]))]
omit hal hout in
theorem tQ{b a:List PP}(c:b.flatten.Nodup)(e:b.Perm a):iw al D b=iw al D a:=by
 unfold iw;have:(fun d=>dn b (al d))=fun d=>dn a (al d):=by funext d;exact Sk c e _
 rw[this]
omit hal hout in
theorem pG{b a:List PP}(c:b.Perm a):iK b=iK a:=(c.filter _).length_eq
omit hal hout in
theorem IV(a:List PP):iw al D ([]::a)=iw al D a:=by
 unfold iw;have:(fun d=>dn ([]::a) (al d))=fun d=>dn a (al d):=by
  funext d;unfold dn;rw[ur Y]
 rw[this]
omit hal hout in
theorem Cl(a:List PP):iK ([]::a)=iK a:=by simp[iK]
theorem ZW{A B:PP}{a:List PP}(g:(A::B::a).flatten.Nodup)(f:∀ d∈(A::B::a).flatten,d∈D):iw al D (A::B::a)+iK ((A++B)::a)<=iw al D ((A++B)::a)+iK (A::B::a):=by
 by_cases b:A=[]
 .subst b;rw[IV,Cl,List.nil_append];exact au _
 by_cases c:B=[]
 .subst c;have h:(A::[]::a).Perm ([]::A::a):=List.Perm.swap _ _ _;rw[tQ g h,pG h,IV,Cl,dT];exact au _
 have e:(fun d=>dn ((A++B)::a) (al d))=fun d=>(fun d=>dn (A::B::a) (al d)) (Eu.sw (al (A.getLast b)) (al (B.getLast c)) d):=by
  funext d
  show dn ((A++B)::a) (al d)=dn (A::B::a) (al (Eu.sw (al (A.getLast b)) (al (B.getLast c)) d));rw[XQ g b c,K4 hal hout]
 have j:=Mf hal hout g f;have k:al (A.getLast b)∈D:=hal.mem _ (f _ Y);have l:al (B.getLast c)∈D:=hal.mem _ (f _ Y);have:=ZT j k l;have m:iw al D (A::B::a)<=iw al D ((A++B)::a)+1:=by unfold iw;rw[e];exact this
 have n:iK (A::B::a)=iK a+2:=by simp[iK,b,c]
 have o:iK ((A++B)::a)=iK a+1:=by simp[iK,b]
 omega
theorem Ty:∀(L:List PP) {a:List PP},(L++a).flatten.Nodup->(∀ d∈(L++a).flatten,d∈D)->iw al D (L++a)+iK (L.flatten::a)<=iw al D (L.flatten::a)+iK (L++a)
 |[],a,_,_=>by rw[List.nil_append,List.flatten_nil,IV,Cl];exact au _
 |A::L,a,hn,hD=>by have e:(A::L++a).Perm (L++A::a):=mw.symm;have b:(L++A::a).flatten.Nodup:=e.flatten.nodup_iff.1 hn;have c:∀ d∈(L++A::a).flatten,d∈D:=fun d j=>hD d (e.flatten.mem_iff.2 j);have l:=Ty L b c;have g:(L.flatten::A::a).flatten=(L++A::a).flatten:=Y;have f:(L.flatten::A::a).Perm (A::L.flatten::a):=List.Perm.swap _ _ _;have k:(A::L.flatten::a).flatten.Nodup:=f.flatten.nodup_iff.1 (by rw[g];exact b);have h:∀ d∈(A::L.flatten::a).flatten,d∈D:=fun d j=>c d (by rw[<- g];exact f.flatten.mem_iff.2 j);have m:=ZW hal hout k h;rw[tQ hn e,pG e,List.flatten_cons];rw[tQ (by rw[g];exact b) f,pG f]at l;omega
theorem SV:∀(G:List (List PP)) {Rs:List PP},(G.flatten++Rs).flatten.Nodup->(∀ d∈(G.flatten++Rs).flatten,d∈D)->iw al D (G.flatten++Rs)+iK (G.map List.flatten++Rs)<=iw al D (G.map List.flatten++Rs)+iK (G.flatten++Rs)
 |[],Rs,_,_=>by simp
 |L::G,Rs,hn,hD=>by
  have g:(L::G).flatten++Rs=L++(G.flatten++Rs):=Y;rw[g]at hn hD;have m:=Ty hal hout L hn hD;have c:(L.flatten::(G.flatten++Rs)).Perm (G.flatten++L.flatten::Rs):=mw.symm;have h:(L.flatten::(G.flatten++Rs)).flatten=(L++(G.flatten++Rs)).flatten:=Y;have a:(L.flatten::(G.flatten++Rs)).flatten.Nodup:=by rw[h];exact hn
  have b:(G.flatten++L.flatten::Rs).flatten.Nodup:=c.flatten.nodup_iff.1 a;have e:∀ d∈(G.flatten++L.flatten::Rs).flatten,d∈D:=fun d k=>hD d (by rw[<- h];exact c.flatten.mem_iff.2 k);have l:=SV G b e;have j:(G.map List.flatten++L.flatten::Rs).Perm (L.flatten::(G.map List.flatten++Rs)):=mw;have hf:(G.map List.flatten++L.flatten::Rs).flatten.Perm (G.flatten++L.flatten::Rs).flatten:=by
   have:(G.map List.flatten++L.flatten::Rs).flatten=(G.flatten++L.flatten::Rs).flatten:=by rw[oq,oq,mF]
   rw[this]
  have f:(G.map List.flatten++L.flatten::Rs).flatten.Nodup:=hf.nodup_iff.2 b;rw[tQ a c,pG c]at m;rw[tQ f j,pG j]at l;rw[g,ax,List.cons_append];omega
end
def Gf{x y:Ed}:fz x y=true↔ae x=ae y:=by
 rw[uL];constructor
 .rintro(⟨a,b⟩|⟨a,b⟩)
  .show aj _ _=aj _ _;rw[a,b]
  .show aj _ _=aj _ _;rw[a,b];exact aH _ _
 .intro h;rcases aN h with⟨a,b⟩|⟨a,b⟩
  .exact .inl ⟨a,b⟩
  .exact .inr ⟨a,b⟩
def tI(l:QR):((sE l).map ae).Nodup:=by unfold List.Nodup;rw[gd];exact(Km l).imp fun {x y} h e=>by rw[Gf.2 e]at h;cases h
def Ig{l:QR}:l.Pairwise (fun x y=>x.id<y.id)->∀ x∈l,∃ y∈sE l,ae y=ae x/\y.id<=x.id:=by
 induction l using Aj with
 |h0=>intro _ x c;cases c
 |h1 l z e=>
  intro b x c;rw[oo]at b;rw[nT];rcases am.1 c with h|h
  .obtain⟨y,h1,a⟩:=e b.1 x h
   split
   .exact⟨y,h1,a⟩
   .exact⟨y,dg _ h1,a⟩
  .rw[bi]at h;subst h
   split
   .rename_i d;rw[nv]at d;obtain⟨y,h1,a⟩:=d;exact⟨y,h1,(Gf.1 a).symm,Int.le_of_lt (b.2.2 y (iZ _ y h1) x Y)⟩
   .exact⟨x,Y,rfl,qe _⟩
theorem mV{e n:Type}{f:e->List n}:∀ {l:List e},l.Nodup->(∀ x∈l,(f x).Nodup)->(∀ x∈l,∀ y∈l,∀ z,z∈f x->z∈f y->x=y)->(l.flatMap f).Nodup
 |[],_,_,_=>.nil
 |x::l,hl,h1,h2=>by obtain⟨k,m⟩:=bw.1 hl;rw[dt,bo];refine⟨h1 x ar,mV m (fun y c=>h1 y (aq _ c)) fun y c z j=>h2 y (aq _ c) z (aq _ j),?_⟩;rintro a g b h rfl;obtain⟨y,c,d⟩:=fu.1 h;have:=h2 x ar y (aq _ c) a g d;exact k (by rw[this];exact c)
def Ly(d:(P++y::z::Q).Nodup):pv (P++y::z::Q) z=y:=by
 have c:P.length+1<(P++y::z::Q).length:=Y;have e:(P++y::z::Q)[P.length+1]=z:=by rw[oj O];simp
 have f:z∈P++y::z::Q:=Y;have b:(P++y::z::Q).idxOf z=P.length+1:=by
  have:=d.idxOf_getElem (P.length+1) c
  rwa [e]at this
 unfold pv;rw[ac f,b];have a:(P.length+1+((P++y::z::Q).length-1)) % (P++y::z::Q).length=P.length:=by have g:(P++y::z::Q).length=P.length+(Q.length+2):=Y;rw[show P.length+1+((P++y::z::Q).length-1)=P.length+(P++y::z::Q).length by omega,vh,ev O]
 rw[a,bv,oi (au _)];simp
abbrev dp(g:Gr)(v x:Int):PP:=gT (lP g v x) v x
def eQ(v:Int)(e:Ed):Int:=2*e.id+if e.b=v then 1 else 0
def kR(v:Int)(e:Ed):eQ v e / 2=e.id:=by unfold eQ;split<;>omega
def rU{e:Ed}:e∈lP g v x↔e∈g.E/\ae e=aj v x:=by unfold lP lB;rw[cj,gm]
def lQ{d:Int}:d∈dp g v x↔∃ e∈g.E,ae e=aj v x/\d=eQ v e:=by
 unfold dp gT;have a:d∈((lP g v x).map fun e=>2*e.id+if e.b=v then 1 else 0)↔∃ e∈g.E,ae e=aj v x/\d=eQ v e:=by
  rw[ao];constructor
  .rintro⟨e,c,rfl⟩;exact⟨e,(rU.1 c).1,(rU.1 c).2,rfl⟩
  .rintro⟨e,f,h,rfl⟩;exact⟨e,rU.2 ⟨f,h⟩,rfl⟩
 split
 .rw[iu,a]
 .exact a
section
variable {g:Gr} (hg:GoodE g)
include hg
theorem Uy{e:Ed}(d:e∈g.E){v x:Int}(h:ae e=aj v x):tw (eQ v e)=eQ x e:=by
 have Tv:=hg.ne e d;unfold tw eQ;rcases aN h with⟨a,c⟩|⟨a,c⟩
 .rw[aa (show ¬e.b=v by omega),ac (show e.b=x by omega),ac O];omega
 .rw[ac (show e.b=v by omega),aa (show ¬e.b=x by omega),aa O];omega
theorem Sf{e f:Ed}(a:e∈g.E)(hf:f∈g.E)(h:e.id=f.id):e=f:=id_eq hg.ids a hf h
theorem pI(v x:Int):(dp g v x).Nodup:=by
 have c:((lP g v x).map fun e=>2*e.id+if e.b=v then 1 else 0).Nodup:=by unfold List.Nodup;rw[gd];refine(hg.ids.sublist (eu (p:=fun e=>decide (ae e=aj v x)))).imp fun {a b} h e=>?_;have d:=kR v a;have f:=kR v b;unfold eQ at d f;omega
 unfold dp gT
 split
 .exact(ik _).nodup_iff.2 c
 .exact c
theorem Zc{v x:Int}(Tv:v≠x):dp g x v=((dp g v x).map tw).reverse:=by
 have d:lP g x v=lP g v x:=by unfold lP;rw[aH]
 have a:((lP g v x).map fun e=>2*e.id+if e.b=x then 1 else 0)=((lP g v x).map fun e=>2*e.id+if e.b=v then 1 else 0).map tw:=by rw[dC];refine jf fun e c=>?_;exact(Uy hg (rU.1 c).1 (rU.1 c).2).symm
 unfold dp gT;rw[d,a];by_cases h:x<v
 .rw[aa O,ac h,List.map_reverse,om]
 .rw[ac O,aa h]
def sc(g:Gr)(d:Int):Ed:=(g.E.find? fun e=>decide (e.id=d / 2)).getD ed0
def j6(g:Gr)(d:Int):Int:=if d % 2=0 then(sc g d).a else(sc g d).b
def kv(g:Gr)(d:Int):Int:=if d % 2=0 then(sc g d).b else(sc g d).a
theorem A8{e:Ed}(a:e∈g.E){d:Int}(h:d / 2=e.id):sc g d=e:=by
 unfold sc;cases hf:g.E.find? fun e=>decide (e.id=d / 2) with
 |none=>exact absurd h.symm (by simpa using sT.1 hf e a)
 |some f=>have b:=qq hf;have c:=rl hf;rw[gm]at c;show f=e;exact Sf hg b a O
theorem UX{e:Ed}(d:e∈g.E){v x:Int}(h:ae e=aj v x):j6 g (eQ v e)=v/\kv g (eQ v e)=x:=by
 have Tv:=hg.ne e d;unfold j6 kv;rw[A8 hg d (kR v e)];unfold eQ;rcases aN h with⟨a,c⟩|⟨a,c⟩
 .rw[aa (show ¬e.b=v by omega),ac O,ac O];exact⟨a,c⟩
 .rw[ac (show e.b=v by omega),aa O,aa O];exact⟨c,a⟩
theorem Ak{v x d:Int}(h:d∈dp g v x):j6 g d=v/\kv g d=x:=by obtain⟨e,a,b,rfl⟩:=lQ.1 h;exact UX hg a b
theorem Se{d:Int}(h:d∈bA g.E):∃ e∈g.E,ae e=aj (j6 g d) (kv g d)/\d=eQ (j6 g d) e/\d∈dp g (j6 g d) (kv g d):=by
 obtain⟨e,j,c⟩:=dY.1 h;have Tv:=hg.ne e j;have f:∀ v x,ae e=aj v x->d=eQ v e->∃ e∈g.E,ae e=aj (j6 g d) (kv g d)/\d=eQ (j6 g d) e/\d∈dp g (j6 g d) (kv g d):=fun v x l c=>by obtain⟨m,n⟩:=UX hg j l;rw[<- c]at m n;rw[m,n];exact⟨e,j,l,c,lQ.2 ⟨e,j,l,c⟩⟩
 rcases c with c|c
 .exact f e.a e.b rfl (by unfold eQ;rw[aa (fun k=>Tv k.symm)];omega)
 .exact f e.b e.a (aH _ _) (by unfold eQ;rw[ac rfl];exact c)
theorem Ii{v x d:Int}(h:d∈dp g v x):d∈bA g.E:=by obtain⟨e,a,b,rfl⟩:=lQ.1 h;exact iJ.2 ⟨e,a,(kR _ _).symm⟩
theorem Ur{v d:Int}:d∈ends g.E v↔∃ e∈g.E,(∃ x,ae e=aj v x)/\d=eQ v e:=by
 rw[cU];constructor
 .rintro⟨e,h,⟨c,f⟩|⟨c,f⟩⟩
  .have:=hg.ne e h;exact⟨e,h,⟨e.b,by rw[<- c]⟩,by unfold eQ;rw[aa O];omega⟩
  .exact⟨e,h,⟨e.a,by rw[<- c];exact aH _ _⟩,by unfold eQ;rw[ac c];exact f⟩
 .rintro⟨e,h,⟨x,j⟩,rfl⟩;have:=hg.ne e h;refine⟨e,h,?_⟩;unfold eQ;rcases aN j with⟨c,f⟩|⟨c,f⟩
  .exact .inl ⟨c,by rw[aa O];omega⟩
  .exact .inr ⟨f,by rw[ac f]⟩
end
def bt(g:Gr)(F:List PP)(v:Int):PP:=(cG (dV v (aX F))).flatMap (dp g v)
theorem FD(v a:Int)(d:PP):∀ T:TL,fK v (sF a d T)=if v=a then fK v T++d else fK v T
 |[]=>by
  unfold sF fK fK;by_cases h:v=a
  .simp[h]
  .rw[aa fun e=>h e.symm,aa h]
 |p::T=>by
  have c:=FD v a d T;unfold sF;by_cases b:p.1=a
  .rw[ac b];by_cases h:v=a
   .simp[fK,h,b]
   .simp only[fK,aa h,aa (fun e:a=v=>h e.symm),aa (fun e:p.1=v=>h (by rw[<- e,b]))]
  .rw[aa b];by_cases h:v=a
   .rw[ac h]at c ⊢;simp only[fK,aa (fun e:p.1=v=>b (by rw[e,h])),c]
   .rw[aa h]at c ⊢;simp only[fK,c]
theorem Cd(g:Gr)(v a:Int):∀(L:PP) (T:TL),fK v (eU g a L T)=if v=a then fK v T++L.flatMap (dp g a)else fK v T
 |[],T=>by simp[eU]
 |x::L,T=>by
  have b:=Cd g v a L (sF a (dp g a x) T);have e:eU g a (x::L) T=eU g a L (sF a (dp g a x) T):=rfl;rw[e,b,FD];by_cases h:v=a
  .simp[h,dt]
  .simp[h]
theorem CI(g:Gr)(A:Tn)(v:Int):∀(K:PP) (T:TL),K.Nodup->fK v (gR g A K T)=if v∈K then fK v T++(cG (dV v A)).flatMap (dp g v)else fK v T
 |[],T,_=>by simp[gR]
 |k::K,T,hn=>by
  obtain⟨b,c⟩:=bw.1 hn;have d:=CI g A v K (eU g k (cG (dV k A)) T) c;have e:gR g A (k::K) T=gR g A K (eU g k (cG (dV k A)) T):=rfl;rw[e,d,Cd];by_cases h:v=k
  .subst h;rw[aa b,ac rfl,ac ar]
  .rw[aa h];by_cases a:v∈K
   .rw[ac a,ac (aq _ a)]
   .rw[aa a,aa (ek h a)]
theorem Ep{v:Int}:∀ {A:Tn},v∉A.map (·.1)->dV v A=[]
 |[],_=>rfl
 |a::A,h=>by rw[ax,ai,fJ]at h;unfold dV;rw[aa fun e=>h.1 e.symm,Ep h.2]
def pO:cG []=[]:=rfl
def Qk(g:Gr)(F:List PP)(T:TL)(v:Int):fK v (yM g F T)=fK v T++bt g F v:=by
 have a:(sZ ((aX F).map (·.1))).Nodup:=(Bc _).imp fun k=>by omega
 unfold yM;rw[CI g _ v _ T a]
 split
 .rfl
 .rename_i h;rw[sH]at h;unfold bt;rw[Ep h,pO];simp
theorem Cn(g:Gr):∀(c:List QR) (T a:TL),BI g c T=some (some a)->∃ Bs:List (QR×List PP),Bs.map (·.1)=c/\(∀ p∈Bs,rY p.1=some (some p.2))/\∀ v,fK v a=fK v T++Bs.flatMap fun p=>bt g p.2 v
 |[],T,a,h=>by
  simp only[BI,ap]at h;subst h;refine⟨[],?_,?_,?_⟩
  .rfl
  .intro p b;cases b
  .intro v;simp
 |l::c,T,a,h=>by
  unfold BI at h;cases d:rY l with
  |none=>rw[d]at h;simp at h
  |some o=>
   rw[d]at h;cases o with
   |none=>simp at h
   |some F=>
    simp only[Option.bind_some]at h
    split at h
    .obtain⟨Bs,e,f,j⟩:=Cn g c _ a h;refine⟨(l,F)::Bs,by rw[ax,e],fun p b=>?_,fun v=>?_⟩
     .rcases ai.1 b with rfl|b
      .exact d
      .exact f p b
     .rw[j,Qk,dt,dw]
    .cases h
abbrev ki:=List (QR×List PP)
structure Sys(g:Gr)(Bs:ki):Prop where
 gE:GoodE g
 ok:∀ p∈Bs,jG p.1 p.2/\BlE p.1/\p.1≠[]
 flat:(Bs.flatMap (·.1)).Perm (sE g.E)
theorem Bh{g h:Type}{f:g->List h}:∀ {l:List g},(l.flatMap f).Nodup->∀ x∈l,∀ y∈l,∀ z,z∈f x->z∈f y->x=y
 |[],_,_,b,_,_,_,_,_=>by cases b
 |a::l,hn,x,b,y,c,z,h1,h2=>by
  rw[dt,bo]at hn;rcases ai.1 b with e|b
  .rcases ai.1 c with d|c
   .rw[e,d]
   .exact absurd rfl (hn.2.2 z (by rw[<- e];exact h1) z (fu.2 ⟨y,c,h2⟩))
  .rcases ai.1 c with d|c
   .exact absurd rfl (hn.2.2 z (by rw[<- d];exact h2) z (fu.2 ⟨x,b,h1⟩))
   .exact Bh hn.2.1 x b y c z h1 h2
theorem VF{d k:Type}{f:d->List k}:∀ {l:List d},(l.flatMap f).Nodup->(∀ x∈l,f x≠[])->l.Nodup/\∀ x∈l,(f x).Nodup
 |[],_,_=>⟨.nil,fun _ h=>by cases h⟩
 |a::l,hn,h=>by
  rw[dt,bo]at hn;obtain⟨g,j⟩:=VF hn.2.1 fun x b=>h x (aq _ b);refine⟨bw.2 ⟨fun e=>?_,g⟩,fun x b=>?_⟩
  .obtain⟨z,c⟩:=gv _ (h a ar);exact hn.2.2 z c z (fu.2 ⟨a,e,c⟩) rfl
  .rcases ai.1 b with rfl|b
   .exact hn.1
   .exact j x b
def qU{F:List PP}(a:jG E F)(c:BlE E)(g:v∉af E):dV v (aX F)=[]:=by
 have b:=(a.keys c v).2;cases h:dV v (aX F) with
 |nil=>rfl
 |cons p P=>rw[h]at b;obtain⟨e,d,f⟩:=(a.mem p.1 v).1 ((b p.1).1 Y);exact absurd (bN d f).2 g
def wi(Bs:ki)(p:Int×Int):QP:=match(Bs.flatMap (·.2)).find? (fun r=>decide (p∈prs r)) with
 |some r=>prs r
 |none=>[]
def eo(g:Gr)(Bs:ki)(d:Int):QP ⊕ Int:=
 if(dp g (j6 g d) (kv g d)).head?=some d then .inl (wi Bs (j6 g d,kv g d))else .inr (max (d / 2) (pv (dp g (j6 g d) (kv g d)) d / 2))
def fY(g:Gr)(Bs:ki):List (List PP):=g.V.map fun v=>Bs.map fun p=>bt g p.2 v
def lG(g:Gr)(Bs:ki)(v:Int):PP:=Bs.flatMap fun p=>bt g p.2 v
def Kg(g:Gr)(Bs:ki):(fY g Bs).map List.flatten=g.V.map (lG g Bs):=by unfold fY lG;rw[dC];exact jf fun v _=>by rw[Function.comp_apply,List.flatMap_def]
section
variable {g:Gr} {Bs:ki} (hS:Sys g Bs)
include hS
theorem Sys.sim:(Bs.flatMap fun p=>p.1.map ae).Nodup:=by
 have:=(hS.flat.map ae).nodup_iff.2 (tI g.E)
 rwa [xo]at this
theorem Sys.nd:Bs.Nodup:=(VF hS.sim fun p a=>by rw[Ne,sm];exact(hS.ok p a).2.2).1
theorem Sys.same{p a:QR×List PP}(j:p∈Bs)(c:a∈Bs){e d:Ed}(f:e∈p.1)(b:d∈a.1)(h:ae e=ae d):p=a:=
 Bh hS.sim p j a c (ae e) (dd f) (by rw[h];exact dd b)
theorem Sys.blk{e:Ed}(d:e∈g.E):∃ p∈Bs,∃ a∈p.1,ae a=ae e:=by obtain⟨y,b,c,_⟩:=Ig hS.gE.ids e d;obtain⟨p,f,h⟩:=fu.1 (hS.flat.mem_iff.2 b);exact⟨p,f,y,h,c⟩
theorem Sys.sub{p:QR×List PP}(b:p∈Bs){e:Ed}(a:e∈p.1):e∈sE g.E/\e∈g.E:=by have:=hS.flat.mem_iff.1 (fu.2 ⟨p,b,a⟩);exact⟨this,iZ _ _ this⟩
theorem Sys.bt_mem{p:QR×List PP}(q:p∈Bs){v d:Int}:d∈bt g p.2 v↔∃ e∈g.E,(∃ x,ae e=aj v x)/\d=eQ v e/\∃ f∈p.1,ae f=ae e:=by
 obtain⟨l,k,n⟩:=hS.ok p q;by_cases j:v∈af p.1
 .have m:=(l.round k n j).2.2.1;unfold bt;rw[fu];constructor
  .rintro⟨x,r,o⟩;obtain⟨e,h,a,rfl⟩:=lQ.1 o;obtain⟨f,b,c⟩:=(m x).1 r;exact⟨e,h,⟨x,a⟩,rfl,f,b,by rw[c,a]⟩
  .rintro⟨e,h,⟨x,a⟩,rfl,f,b,c⟩;exact⟨x,(m x).2 ⟨f,b,by rw[c,a]⟩,lQ.2 ⟨e,h,a,rfl⟩⟩
 .unfold bt;rw[qU l k j,pO];simp only[nw,gz,false_iff];rintro⟨e,h,⟨x,a⟩,_,f,b,c⟩;exact j (bN b (by rw[c,a])).1
theorem Sys.bt_nodup{p:QR×List PP}(j:p∈Bs)(v:Int):(bt g p.2 v).Nodup:=by
 obtain⟨b,a,e⟩:=hS.ok p j;unfold bt;by_cases c:v∈af p.1
 .refine mV (b.round a e c).1 (fun x _=>pI hS.gE v x) fun x _ y _ d f h=>?_;rw[<- (Ak hS.gE f).2,(Ak hS.gE h).2]
 .rw[qU b a c,pO];exact .nil
theorem Sys.turn_nodup(v:Int):(lG g Bs v).Nodup:=by refine mV hS.nd (fun p b=>hS.bt_nodup b v) fun p b t a d l m=>?_;obtain⟨e,n,_,o,r,c,h⟩:=(hS.bt_mem b).1 l;obtain⟨f,hf,_,q,s,j,k⟩:=(hS.bt_mem a).1 m;have:e=f:=Sf hS.gE n hf (by rw[<- kR v e,<- o,q,kR]);subst this;exact hS.same b a c j (by rw[h,k])
theorem Sys.turn_mem{v d:Int}:d∈lG g Bs v↔d∈ends g.E v:=by
 unfold lG;rw[Ur hS.gE,fu];constructor
 .rintro⟨p,b,h⟩;obtain⟨e,a,f,c,_⟩:=(hS.bt_mem b).1 h;exact⟨e,a,f,c⟩
 .rintro⟨e,a,f,c⟩;obtain⟨p,b,j,k,l⟩:=hS.blk a;exact⟨p,b,(hS.bt_mem b).2 ⟨e,a,f,c,j,k,l⟩⟩
theorem Sys.turn_perm(v:Int):(lG g Bs v).Perm (ends g.E v):=
 (jd (hS.turn_nodup v) (jS (Fv hS.gE.ids v))).2 fun _=>hS.turn_mem
theorem Sys.grp_ff:(fY g Bs).flatten.flatten=g.V.flatMap (lG g Bs):=by rw[<- mF,Kg,List.flatMap_def]
theorem Sys.grp_nd:(fY g Bs).flatten.flatten.Nodup:=by rw[hS.grp_ff];refine mV hS.gE.toGood.nodup (fun v _=>hS.turn_nodup v) fun v _ w _ d a b=>?_;exact eD hS.gE.ids (hS.turn_mem.1 a) (hS.turn_mem.1 b)
theorem Sys.grp_mem{d:Int}:d∈(fY g Bs).flatten.flatten↔d∈bA g.E:=by
 rw[hS.grp_ff,fu];constructor
 .rintro⟨v,_,h⟩;exact oI (hS.turn_mem.1 h)
 .intro h;obtain⟨v,a,x,c,_,b⟩:=Ge h;have:=hS.gE.ends x c;exact⟨v,by rcases b with rfl|rfl;(· exact this.1);(· exact this.2),hS.turn_mem.2 a⟩
theorem Sys.ring_at{p:QR×List PP}(c:p∈Bs){r:PP}(l:r∈p.2){q:Int×Int}(j:q∈prs r):wi Bs q=prs r:=by
 unfold wi;cases hf:(Bs.flatMap (·.2)).find? fun r=>decide (q∈prs r) with
 |none=>exact absurd j (by simpa using sT.1 hf r (fu.2 ⟨p,c,l⟩))
 |some m=>have n:=qq hf;have d:=rl hf;rw[gm]at d;obtain⟨t,a,b⟩:=fu.1 n;obtain⟨e,o,k⟩:=((hS.ok p c).1.mem q.1 q.2).1 (bB.2 ⟨r,l,j⟩);obtain⟨v,h,s⟩:=((hS.ok t a).1.mem q.1 q.2).1 (bB.2 ⟨m,b,d⟩);have:=hS.same c a o h (by rw[k,s]);subst this;have:=Bh (f:=prs) (hS.ok p c).1.nd r l m b q j d;rw[this]
theorem Sys.lab_inv{d:Int}(hd:d∈bA g.E):eo g Bs (dn (fY g Bs).flatten (al g.E d))=eo g Bs d:=by
 have l:=hS.gE;rw[FQ hd];obtain⟨e,w,j,L,M⟩:=Se l hd;have B:eo g Bs d=if(dp g (j6 g d) (kv g d)).head?=some d then .inl (wi Bs (j6 g d,kv g d))else .inr (max (d / 2) (pv (dp g (j6 g d) (kv g d)) d / 2)):=rfl
 rw[B];generalize j6 g d=v at *;generalize kv g d=x at *;obtain⟨p,t,e1,A,N⟩:=hS.blk w;obtain⟨hO,hE,h0⟩:=hS.ok p t;have D:ae e1=aj x v:=by rw[N,j];exact aH _ _
 have hx:=(bN A D).1;obtain⟨r1,r2,r3,r4⟩:=hO.round hE h0 hx;have n:=(r3 v).2 ⟨e1,A,D⟩;have Tv:v≠x:=fun k=>by have:=l.ne e w;rcases aN j with⟨F,H⟩|⟨F,H⟩<;>omega
 have T:tw d∈dp g x v:=lQ.2 ⟨e,w,by rw[j];exact aH _ _,by rw[L];exact Uy l w j⟩;have U:x∈g.V:=by
  have:=l.ends e w;rcases aN j with⟨_,H⟩|⟨F,_⟩
  .rw[<- H];exact this.2
  .rw[<- F];exact this.1
 have c7:bt g p.2 x∈(fY g Bs).flatten:=fI.2 ⟨_,dd (f:=fun v=>Bs.map fun p=>bt g p.2 v) U,dd (f:=fun p:QR×List PP=>bt g p.2 x) t⟩;have S:tw d∈bt g p.2 x:=by unfold bt;exact fu.2 ⟨v,n,T⟩
 rw[iF hS.grp_nd c7 S];have K:=hS.bt_nodup t x;have C:∀ y∈cG (dV x (aX p.2)),dp g x y≠[]:=fun y hy=>by obtain⟨f,hf,R⟩:=(r3 y).1 hy;exact kc (lQ.2 ⟨f,(hS.sub t hf).2,R,rfl⟩)
 obtain⟨n1,n2⟩:=Yc r1 K C n;have h:=pI l v x;have b:=pI l x v;obtain⟨P,Q,s⟩:=fo M;have m:dp g x v=(Q.map tw).reverse++tw d::(P.map tw).reverse:=by rw[Zc l Tv,s];simp
 show eo g Bs (nx (bt g p.2 x) (tw d))=_;rcases uu P with I|⟨J,y,I⟩
 .subst I;rw[mB,List.reverse_nil]at m;obtain⟨z,q,hz,hzz⟩:=n2 _ _ m;have hw:=(r4 v n);have o:nx (bt g p.2 x) (tw d)=z:=hzz;rw[o,ac (by rw[s];rfl)];have X:z∈dp g x (nx (cG (dV x (aX p.2))) v):=by rw[hz];exact ar
  obtain⟨z1,z2⟩:=Ak l X;unfold eo;rw[z1,z2,hz,ac (show(z::q).head?=some z from rfl)];obtain⟨r,hr,F,H⟩:=hw;rw[hS.ring_at t hr F,hS.ring_at t hr H]
 .rw[I,uv,dw,List.singleton_append]at s;have c:dp g x v=(Q.map tw).reverse++tw d::tw y::(J.map tw).reverse:=by rw[m,I];simp
  have o:nx (bt g p.2 x) (tw d)=tw y:=n1 _ _ _ _ c;rw[o];have W:tw y∈dp g x v:=by rw[c];simp
  obtain⟨z1,z2⟩:=Ak l W;have h1:¬(dp g v x).head?=some d:=by
   rw[s]at h ⊢;intro k;cases J with
   |nil=>simp at k;subst k;simp at h
   |cons a J=>simp at k;subst k;simp at h
  have h2:¬(dp g x v).head?=some (tw y):=by
   rw[c]at b ⊢;intro k;cases hQ:(Q.map tw).reverse with
   |nil=>rw[hQ]at k b;simp at k;rw[k]at b;simp at b
   |cons a Q'=>rw[hQ]at k b;simp at k;rw[k]at b;simp at b
  rw[aa h1];unfold eo;rw[z1,z2,aa h2];have p1:pv (dp g v x) d=y:=by rw[s];rw[s]at h;exact Ly h
  have p2:pv (dp g x v) (tw y)=tw d:=by rw[c];rw[c]at b;exact Ly b
  rw[p1,p2,HE,HE,Int.max_comm]
theorem Sys.faces:(Bs.flatMap (·.2)).length+(g.E.length-(sE g.E).length)<=iw (al g.E) (bA g.E) (fY g Bs).flatten:=by
 have s:=hS.gE;let X1:List (QP ⊕ Int):=(Bs.flatMap (·.2)).map fun r=>.inl (prs r);let X2:List (QP ⊕ Int):=(g.E.filter fun e=>!decide (e∈sE g.E)).map fun e=>.inr e.id;have S:(X1++X2).length=(Bs.flatMap (·.2)).length+(g.E.length-(sE g.E).length):=by
  have hn:g.E.Nodup:=s.ids.imp fun {a b} h e=>by rw[e]at h;omega
  have D:(g.E.filter fun e=>decide (e∈sE g.E)).length+(g.E.filter fun e=>!decide (e∈sE g.E)).length=g.E.length:=by
   have:∀ l:QR,(l.filter fun e=>decide (e∈sE g.E)).length+(l.filter fun e=>!decide (e∈sE g.E)).length=l.length:=by
    intro l;induction l with
    |nil=>rfl
    |cons a l W=>by_cases h:a∈sE g.E<;>simp[h]at W ⊢<;>omega
   exact this _
  have F:(g.E.filter fun e=>decide (e∈sE g.E)).length=(sE g.E).length:=by
   refine((jd (hn.sublist eu) ?_).2 fun e=>?_).length_eq
   .have:=tI g.E;exact(gd.1 this).imp fun {a b} h e=>h (by rw[e])
   .rw[cj,gm];exact⟨And.right,fun h=>⟨iZ _ _ h,h⟩⟩
  rw[cb,du,du];omega
 rw[<- S];unfold iw;have I:∀ d,d∈bA g.E->eo g Bs (dn (fY g Bs).flatten (al g.E d))=eo g Bs d:=fun d J=>hS.lab_inv J;have j7:∀ d,d∈bA g.E->dn (fY g Bs).flatten (al g.E d)∈bA g.E:=fun d J=>by have D:al g.E d∈bA g.E:=(Hh _ _ _).2 J;exact hS.grp_mem.1 ((jO hS.grp_nd).mem _ (hS.grp_mem.2 D))
 refine rT (eo g Bs) (fun x hx y _ ho=>?_) (X1++X2) ?_ fun a M=>?_
 .have key:∀ n,it (fun d=>dn (fY g Bs).flatten (al g.E d)) n x∈bA g.E/\eo g Bs (it (fun d=>dn (fY g Bs).flatten (al g.E d)) n x)=eo g Bs x:=by
   intro n;induction n with
   |zero=>exact⟨hx,rfl⟩
   |succ n W=>rw[bI];exact⟨j7 _ W.1,by rw[I _ W.1,W.2]⟩
  obtain⟨n,hn⟩:=ho;rw[<- hn];exact(key n).2.symm
 .refine bo.2 ⟨?_,?_,?_⟩
  ·
   have C:((Bs.flatMap (·.2)).flatMap prs).Nodup:=by rw[List.flatMap_assoc];refine mV hS.nd (fun p t=>(hS.ok p t).1.nd) fun p t p' T q D F=>?_;obtain⟨e,w,k⟩:=((hS.ok p t).1.mem q.1 q.2).1 D;obtain⟨e',he',k'⟩:=((hS.ok p' T).1.mem q.1 q.2).1 F;exact hS.same t T w he' (by rw[k,k'])
   have Tv:∀ r∈Bs.flatMap (·.2),prs r≠[]:=fun r m e=>by obtain⟨p,t,m⟩:=fu.1 m;have D:=(hS.ok p t).1.ne r m;have F:=pW r;rw[e]at F;exact D (qv.1 F.symm)
   have hnd:=(VF C Tv).1;show(List.map _ _).Nodup;unfold List.Nodup;rw[gd];refine hnd.imp_of_mem fun {r r'} m hr' hrr e=>hrr ?_;injection e with e;obtain⟨z,hz⟩:=gv _ (Tv r m);exact Bh C r m r' hr' z hz (by rw[<- e];exact hz)
  .show(List.map _ _).Nodup;unfold List.Nodup;rw[gd];refine(s.ids.sublist eu).imp fun {a b} h e=>?_;injection e with e;omega
  .rintro a D b F rfl;obtain⟨r,_,X⟩:=ao.1 D;obtain⟨e,_,K⟩:=ao.1 F;rw[<- X]at K;cases K
 .rcases am.1 M with M|M
  .obtain⟨r,m,rfl⟩:=ao.1 M;obtain⟨p,t,m⟩:=fu.1 m;obtain⟨hO,hE,h0⟩:=hS.ok p t;obtain⟨v,hv⟩:=gv _ (hO.ne r m);obtain⟨x,hx⟩:=gK hv;obtain⟨e1,he1,hp1⟩:=(hO.mem v x).1 (bB.2 ⟨r,m,hx⟩);have hs:dp g v x≠[]:=kc (lQ.2 ⟨e1,(hS.sub t he1).2,hp1,rfl⟩);obtain⟨d,q,J⟩:=nm hs;have o:d∈dp g v x:=by rw[J];exact ar
   obtain⟨X,K⟩:=Ak s o;refine⟨d,Ii s o,?_⟩;unfold eo;rw[X,K,J,ac (show(d::q).head?=some d from rfl),hS.ring_at t m hx]
  .obtain⟨e,w,rfl⟩:=ao.1 M;rw[cj]at w;obtain⟨w,o7⟩:=w;have o7:e∉sE g.E:=by simpa using o7
   obtain⟨f,hf,C,u7⟩:=Ig s.ids e w;have Q:f≠e:=fun k=>o7 (by rw[<- k];exact hf);have R:=iZ _ _ hf;have dS:f.id<e.id:=by
    rcases Int.lt_or_eq_of_le u7 with h|h
    .exact h
    .exact absurd (Sf s R w h) Q
   obtain⟨v,x,hvx,U⟩:∃ v x,v<x/\ae e=aj v x:=by
    have:=s.ne e w;rcases Int.lt_or_gt_of_ne this with h|h
    .exact⟨e.a,e.b,h,rfl⟩
    .exact⟨e.b,e.a,h,aH _ _⟩
   have V:dp g v x=(lP g v x).map (eQ v):=by unfold dp gT;rw[aa O];rfl
   have heb:e∈lP g v x:=rU.2 ⟨w,U⟩;have P:f∈lP g v x:=rU.2 ⟨R,by rw[C,U]⟩;have c:(lP g v x).Pairwise fun a b=>a.id<b.id:=s.ids.sublist eu;obtain⟨A,B,H⟩:=fo heb;have N:f∈A:=by
    rw[H]at P c;rcases am.1 P with h|h
    .exact h
    .rcases ai.1 h with h|h
     .exact absurd h Q
     .have:=(kk.1 (oo.1 c).2.1).1 f h;omega
   rcases uu A with L|⟨A',y,L⟩
   .rw[L]at N;cases N
   rw[uv]at L;have hL:dp g v x=A'.map (eQ v)++eQ v y::eQ v e::B.map (eQ v):=by rw[V,H,L];simp
   have j:=pI s v x;have hye:y.id<e.id:=by rw[H,L]at c;exact(oo.1 c).2.2 y Y e Y
   have o:eQ v e∈dp g v x:=by rw[hL];simp
   obtain⟨X,K⟩:=Ak s o;refine⟨eQ v e,Ii s o,?_⟩;unfold eo;rw[X,K,aa,show pv (dp g v x) (eQ v e)=eQ v y by rw[hL];rw[hL]at j;exact Ly j,kR,kR,Int.max_eq_left O];rw[hL]at j ⊢;intro k;cases A' with
   |nil=>simp at k;rw[k]at j;simp at j
   |cons a A'=>simp at k;rw[ax,k]at j;simp at j
end
theorem Ki{R S:Int->Int->Prop}(c:gh R)(g:gh S)(h:∀ x y,R x y->S x y){l:PP}{v0:Int}:∀(a:PP),v0∈l->(∀ v∈a,v∈l/\S v0 v)->(v0::a).Pairwise (fun x y=>¬R x y)->bj S l+a.length<=bj R l
 |[],_,_,_=>by simpa using tW (R:=R) (S:=S) (l:=l) fun x _ y _=>h x y
 |v::a,h0,hv,hp=>by
  obtain⟨d,n⟩:=kk.1 hp;obtain⟨f,o⟩:=kk.1 n;obtain⟨p,q⟩:=hv v ar;have e:=sV c (d v ar) h0 p;have:=Ki (R:=Eu.Mg R v0 v) (S:=S) (Mg.eqv c _ _) g (fun x y k=>Mg.le g q h k) (l:=l) (v0:=v0) a h0 (fun w b=>hv w (aq _ b)) (kk.2 ⟨?_,?_⟩)
  .rw[List.length_cons];omega
  .rintro w b (k|⟨_,k⟩|⟨k,_⟩)
   .exact d w (aq _ b) k
   .exact f w b k
   .exact d v ar k
  .refine o.imp_of_mem fun {x y} hx hy W0 k=>?_;rcases k with k|⟨j,m⟩|⟨j,m⟩
   .exact W0 k
   .exact f y hy m
   .exact f x hx (c.symm j)
theorem SD(f:PP):∀(b:List QR) (a:QR),(∀ l∈b,(af l≠[])/\(∀ v∈af l,v∈f)/\∀ u∈af l,∀ v∈af l,Reach l u v)->(∀ A l B,b=A++l::B->∀ u∈af l,∀ v∈af l,Reach (a++A.flatten) u v->u=v)->
 bj (Reach (a++b.flatten)) f+(b.map fun l=>(af l).length).sum<=bj (Reach a) f+b.length
 |[],a,_,_=>by simp
 |l::b,a,h1,h2=>by
  obtain⟨p,o,q⟩:=h1 l ar;have s:=SD f b (a++l) (fun l m=>h1 l (aq _ m)) fun A r B e u h v d k=>h2 (l::A) r B (by rw[e];rfl) u h v d (by simpa using k);obtain⟨g,V,c⟩:=nm p;have n:=h2 [] l b rfl;rw[List.flatten_nil,dT]at n
  have t:=Ki (R:=Reach a) (S:=Reach (a++l)) (jT _) (jT _) (fun x y k=>k.mono fun x j=>dg _ j) (l:=f) (v0:=g) V (o g (by rw[c];exact ar))
   (fun v d=>⟨o v (by rw[c];exact aq _ d),(q g (by rw[c];exact ar) v (by rw[c];exact aq _ d)).mono fun x j=>dE _ j⟩) (by
     rw[<- c];refine(jM l).imp_of_mem fun {u v} h d huv k=>?_;have:=n u h v d k
     omega)
  have m:(af l).length=V.length+1:=by rw[c];rfl
  rw[List.flatten_cons,<- dw,ax,List.sum_cons,List.length_cons];omega
def XU{f:QR}{u:Int}(h:Reach f u v):v=u\/∃ e∈f,(e.a=u\/e.b=u)/\RIn f (·≠u) (bh e u) v:=by
 induction h with
 |refl=>exact .inl rfl
 |@step y z h g m=>
  by_cases c:z=u
  .exact .inl c
  right;rcases m with rfl|⟨e,k,d,j⟩
  .obtain⟨i,l,e⟩:=GI g;have d:=aU.1 l;refine⟨_,uY d.1,d.2,?_⟩;rw[e];exact .refl c
  .exact⟨e,k,d,.step j g c⟩
def RIn.emono{b es':QR}(d:∀ x∈b,x∈es')(h:RIn b S x y):RIn es' S x y:=by
 induction h with
 |refl h=>exact .refl h
 |step _ c a f=>refine .step f ?_ a;rw[cI]at c ⊢;obtain⟨x,e,h⟩:=c;exact⟨x,d x e,h⟩
def RIn.reach{a:QR}(h:RIn a S x y):Reach a x y:=by
 induction h with
 |refl=>exact .refl
 |step _ b _ c=>exact .step c b
section
variable {g:Gr} (hg:GoodE g)
include hg
theorem vX{B:PQ}{v:Int}(h:v∈af (ku g.E B)):∃ i∈B,(an g.E i).a=v\/(an g.E i).b=v:=by obtain⟨e,c,k⟩:=(aI _ _).1 h;obtain⟨i,d,rfl⟩:=ao.1 c;exact⟨i,d,k.imp uf uf⟩
theorem eH.reach{B:PQ}(h:eH g.E B){u v:Int}(c:u∈af (ku g.E B))(d:v∈af (ku g.E B)):Reach (ku g.E B) u v:=by obtain⟨i,a,e⟩:=vX hg c;obtain⟨j,b,f⟩:=vX hg d;exact(h.con hg (max u v+1) a (h.rel i a j b) u v e f O O).reach
theorem eH.cut{B:PQ}(h:eH g.E B){m:QR}(c:∀ e∈m,∃ j,j<g.E.length/\j∉B/\e=an g.E j){u v:Int}(y:u∈af (ku g.E B))(z:v∈af (ku g.E B))(w:Reach m u v):u=v:=by
 obtain⟨i,d,n⟩:=vX hg y;obtain⟨k,s,C⟩:=vX hg z;rcases XU w with e|⟨e,q,o,p⟩
 .exact e.symm
 refine dq fun Tv=>?_;obtain⟨j,r,f,rfl⟩:=c e q;have a:=(h.con hg u d (h.rel i d k s) _ v (nR _ u) C (vT hg (aU.2 ⟨h.lt i d,n⟩)) fun k=>Tv k.symm).up h.lt;have b:=p.emono (es':=g.E) fun x A=>by obtain⟨l,t,_,rfl⟩:=c x A;exact uY t
 exact f (h.all i d j r ⟨u,n,o,a.trans b.symm⟩)
end
def On(a:QR):(gY a).Nodup:=by unfold gY List.Nodup;rw[gd];refine(o0.sublist eu).imp_of_mem fun {i j} hi hj hij e=>?_;rw[cj,gm]at hi hj;have:=hi.2;rw[e,hj.2]at this;omega
def EY(s:GoodE g):bj (Reach g.E) g.V+((aT g).map fun l=>(af l).length).sum<=g.V.length+(aT g).length:=by
 have b:=s.simple;have a:∀ B∈gY (sE g.E),eH (sE g.E) B:=fun B f=>mO b f;have hf:=SD g.V (aT g) [] (fun l m=>?_) fun A l B e u z v p k=>?_
 .rw[Ng (fun x y=>FI) s.toGood.nodup,List.nil_append]at hf
  suffices key:∀ x y,Reach (aT g).flatten x y->Reach g.E x y from fa (Nat.add_le_add_right (tW fun x _ y _ k=>key x y k) _) hf
  intro x y k;induction k with
  |refl=>exact .refl
  |step _ H J=>rw[cI]at H;obtain⟨x,d,h⟩:=H;obtain⟨l,m,d⟩:=fI.1 d;refine .step J ?_;rw[cI];exact⟨x,(oZ s m).2 x d,h⟩
 .unfold aT at m;obtain⟨B,f,rfl⟩:=ao.1 m;have f:=a B f;refine⟨?_,fun v p=>?_,fun u z v p=>f.reach b z p⟩
  .obtain⟨i,t⟩:=gv _ f.ne;exact kc ((aI _ _).2 ⟨_,dd t,.inl rfl⟩)
  .obtain⟨i,t,h⟩:=vX b p;have:=b.ends _ (uY (f.lt i t));rcases h with rfl|rfl
   .exact this.1
   .exact this.2
 .unfold aT at e;obtain⟨K,R,r,rfl,I⟩:=A0.1 e;obtain⟨q,L,rfl,rfl,M⟩:=F0.1 I;have o:q∈gY (sE g.E):=by rw[r];simp
  have F:=On (sE g.E);rw[r,bo]at F;refine(a q o).cut b (fun x d=>?_) z p k;rw[List.nil_append]at d;obtain⟨l,m,d⟩:=fI.1 d;obtain⟨C,n,rfl⟩:=ao.1 m;obtain⟨j,D,rfl⟩:=ao.1 d;have c:=a C (by rw[r];simp[n]);refine⟨j,c.lt j D,fun w=>?_,rfl⟩;exact F.2.2 C n q Y (eH.eq (g:=⟨g.V,sE g.E⟩) c (a q o) D w)
structure Tc(E:QR):Prop where
 ids:E.Pairwise fun x y=>x.id<y.id
 ne:∀ e∈E,e.a≠e.b
 sim:(E.map ae).Nodup
 con:∀ w p q,p∈af E->q∈af E->p≠w->q≠w->RIn E (·≠w) p q
 two:2<=E.length
 few:(af E).length<=64/\E.length<=200
def mW:w∈dG d v↔∃ e∈d,ae e=aj v w:=by
 rw[RC];constructor
 .rintro⟨x,c,⟨a,b⟩|⟨a,b⟩⟩
  .exact⟨x,c,by show aj _ _=_;rw[a,b]⟩
  .exact⟨x,c,by show aj _ _=_;rw[a,b];exact aH _ _⟩
 .rintro⟨x,c,h⟩;rcases aN h with⟨a,b⟩|⟨a,b⟩
  .exact⟨x,c,.inl ⟨a,b⟩⟩
  .exact⟨x,c,.inr ⟨a,b⟩⟩
def cF:w∈nbr d v↔∃ e∈d,ae e=aj v w:=by
 rw[cI];constructor
 .rintro⟨x,c,⟨a,b⟩|⟨a,b⟩⟩
  .exact⟨x,c,by show aj _ _=_;rw[a,b]⟩
  .exact⟨x,c,by show aj _ _=_;rw[a,b];exact aH _ _⟩
 .rintro⟨x,c,h⟩;rcases aN h with⟨a,b⟩|⟨a,b⟩
  .exact⟨x,c,.inl ⟨a,b⟩⟩
  .exact⟨x,c,.inr ⟨b,a⟩⟩
theorem map_inj{d g:Type}{F:d->g}:∀ {l:List d},(l.map F).Nodup->∀ {e f:d},e∈l->f∈l->F e=F f->e=f
 |a::l,h0,e,f,he,hf,h=>by
  rw[ax,bw]at h0;rcases ai.1 he with c|c
  .rcases ai.1 hf with b|b
   .rw[c,b]
   .exact absurd (by rw[<- c,h];exact dd b) h0.1
  .rcases ai.1 hf with b|b
   .exact absurd (by rw[<- b,<- h];exact dd c) h0.1
   .exact map_inj h0.2 c b h
section
variable {E:List Ed} (hT:Tc E)
include hT
theorem Tc.sim_eq{e f:Ed}(a:e∈E)(hf:f∈E)(h:ae e=ae f):e=f:=map_inj hT.sim a hf h
theorem Tc.start{x:Ed}{R:QR}(A:E=x::R):∃ h,newF ⟨af E,E⟩=some h/\Drn E h/\∃ ring,h.F=[ring,ring.reverse]/\ring.Nodup/\3<=ring.length/\∀ u v,(u,v)∈prs ring->∃ e∈E,ae e=aj u v:=by
 have r:x∈E:=by rw[A];exact ar
 have W:=hT.ne x r;have va:x.a∈af E:=(aI _ _).2 ⟨x,r,.inl rfl⟩;have vb:x.b∈af E:=(aI _ _).2 ⟨x,r,.inr rfl⟩;have l:∀ v,∀ w∈dG (E.filter fun y=>decide (y≠x)) v,w∈af E:=fun v w I=>by obtain⟨e,f,U⟩:=mW.1 I;exact(bN (cj.1 f).1 U).2
 obtain⟨c,hc,P,Q⟩:∃ c∈af E,c≠x.a/\c≠x.b:=by
  have t:=hT.two;obtain⟨y,H,hR⟩:∃ y H,R=y::H:=by
   cases R with
   |nil=>rw[A]at t;simp at t
   |cons y H=>exact⟨y,H,rfl⟩
  have s:y∈E:=by rw[A,hR];simp
  have V:y≠x:=fun e=>by have:=hT.ids;rw[A,hR]at this;have:=(kk.1 this).1 y Y;rw[e]at this;omega
  have hyn:=hT.ne y s;refine dq fun J=>V (hT.sim_eq s r ?_);have ya:y.a=x.a\/y.a=x.b:=dq fun k=>J ⟨y.a,(aI _ _).2 ⟨y,s,.inl rfl⟩,fun e=>k (.inl e),fun e=>k (.inr e)⟩;have yb:y.b=x.a\/y.b=x.b:=dq fun k=>J ⟨y.b,(aI _ _).2 ⟨y,s,.inr rfl⟩,fun e=>k (.inl e),fun e=>k (.inr e)⟩;show aj _ _=aj _ _;rcases ya with K|K<;>rcases yb with L|L
  .omega
  .rw[K,L]
  .rw[K,L];exact aH _ _
  .omega
 have along:∀ S:Int->Prop,Zs (dG (E.filter fun y=>decide (y≠x))) (fun _=>true) x.a S->∀ w,(w=x.a\/w=x.b)->∀ p q,RIn E (·≠w) p q->S p->S q:=by
  intro S B w I p q h U;induction h with
  |refl=>exact U
  |@step y z h hz g ih=>
   obtain⟨e,f,o⟩:=cF.1 hz;have s:=h.here.2;have T:e≠x:=fun ex=>by
    rw[ex]at o;rcases aN o with⟨C,D⟩|⟨C,D⟩
    .rcases I with j|j
     .exact s (by rw[j,C])
     .exact g (by rw[j,D])
    .rcases I with j|j
     .exact g (by rw[j,C])
     .exact s (by rw[j,D])
   exact B.2 y ih (.inr rfl) z (mW.2 ⟨e,cj.2 ⟨f,mc T⟩,o⟩)
 obtain⟨w,h1,t,h3,h4,h5,h6,h7,N,h9⟩:=Om (may:=fun _=>true) l va vb W (n:=1000) (by have:=hT.few.1;omega) fun S B=>along S B x.a (.inl rfl) c x.b (hT.con _ _ _ hc vb P (fun e=>W e.symm)) (along S B x.b (.inr rfl) x.a c (hT.con _ _ _ va hc W Q) B.1);have g:=pF h3;rw[h6,h7]at g;have J:∀ e∈E.filter fun y=>decide (y≠x),ae e≠aj x.a x.b:=fun e f k=>by rw[cj,gm]at f;exact f.2 (hT.sim_eq f.1 r k)
 cases X:dO w with
 |nil=>rw[X,List.nil_append]at g;obtain⟨e,f,k⟩:=mW.1 (N x.a x.b (by rw[g];simp[ad]));exact absurd k (J e f)
 |cons m M=>
  rw[X]at g;refine⟨⟨lJ (lJ [] w) [x.a,x.b],w++[x.a,x.b],[w,w.reverse]⟩,?_,Drn.start r g t fun u v d=>?_,w,rfl,t,by rw[g];simp,fun u v d=>?_⟩
  .have hh:newF ⟨af E,E⟩=(xE (af E) (dG (E.filter fun y=>decide (y≠x))) (fun _=>true) x.a x.b 1000).bind fun ring=>
    if ring.length<=200/\∀ v∈ring,v∈af E then some ⟨lJ (lJ [] ring) [x.a,x.b],ring++[x.a,x.b],[ring,ring.reverse]⟩else none:=by
    unfold newF;rw[A]
   rw[hh,h1,Option.bind_some,ac ⟨by have:=hT.few.1;omega,h5⟩]
  .obtain⟨e,f,k⟩:=mW.1 (N u v d);exact⟨e,(cj.1 f).1,k⟩
  .have pr:=Dh x.a x.b (m::M);rw[<- g]at pr;rw[pr,am,bi]at d;rcases d with d|d
   .obtain⟨e,f,k⟩:=mW.1 (N u v d);exact⟨e,(cj.1 f).1,k⟩
   .injection d with C D;exact⟨x,r,by rw[C,D];exact aH _ _⟩
end
def gP:v∈off A B↔v∈A/\v∉B:=by unfold off;simp
def Ho:v∈on' A B↔v∈A/\v∈B:=by unfold on';simp
def nM{a:PP}:v∈eh a A↔v∈a/\v∈A:=by unfold eh;simp
def Hu:v∈ff g A↔∃ u∈A,v∈nbr g.E u:=by unfold ff;rw[fu]
structure io(E:QR)(L:QP)(on:PP)(b:dm):Prop where
 en:∀ v∈b.ends,v∈on/\v∈af E
 kind:(b.inner=[]/\∃ e∈E,ae e∉L/\b.ends=[e.a,e.b])\/
  (b.inner≠[]/\(∀ v∈b.inner,v∈af E/\v∉on)/\(∀ p∈b.inner,∀ q∈b.inner,RIn E (·∈b.inner) p q)/\(∀ p∈b.inner,∀ q∈nbr E p,q∈b.inner\/q∈b.ends)/\∀ q∈b.ends,∃ p∈b.inner,q∈nbr E p)
section
variable {E:List Ed} {on:List Int}
theorem AH{p q:Int}(h:q∈nbr E p):q∈af E:=by obtain⟨e,a,k⟩:=cF.1 h;exact(bN a k).2
theorem Ol(v:Int)(y:v∈af E)(w:v∉on)(L:QP):∀(n:Nat) (I:PP),I.Nodup->v∈I->(∀ p∈I,p∈af E/\p∉on)->(∀ p∈I,RIn E (·∈I) v p)->(af E).length+1<=n+I.length->
 ∃ b,Ax ⟨af E,E⟩ on n I=some b/\io E L on b/\v∈b.inner
 |0,I,hn,_,hI,_,hl=>by have:=gu hn fun p f=>(hI p f).1;omega
 |n+1,I,hn,hvI,hI,hc,hl=>by
  unfold Ax
  split
  .rename_i o;refine⟨_,rfl,⟨fun q c=>?_,.inr ⟨kc hvI,hI,fun p f q c=>(hc p f).symm.trans (hc q c),fun p f q c=>?_,fun q c=>?_⟩⟩,hvI⟩
   .have h:=Ho.1 c;exact⟨h.2,(nM.1 h.1).1⟩
   .have s:=AH c;have l:q∈eh (af E) (ff ⟨af E,E⟩ I):=nM.2 ⟨s,Hu.2 ⟨p,f,c⟩⟩;by_cases e:q∈on
    .exact .inr (Ho.2 ⟨l,e⟩)
    .by_cases a:q∈I
     .exact .inl a
     .have:q∈off (off (eh (af E) (ff ⟨af E,E⟩ I)) on) I:=gP.2 ⟨gP.2 ⟨l,e⟩,a⟩;rw[o]at this;cases this
   .have h:=Ho.1 c;obtain⟨p,f,k⟩:=Hu.1 (nM.1 h.1).2;exact⟨p,f,k⟩
  .rename_i o;obtain⟨u,x⟩:=gv _ o;have j:=gP.1 x;have m:(af E).Nodup:=(jM E).imp fun k=>by omega
   have d:∀ q,q∈eh (af E) (I++off (eh (af E) (ff ⟨af E,E⟩ I)) on)↔q∈af E/\(q∈I\/(q∈ff ⟨af E,E⟩ I/\q∉on)):=fun q=>by
    rw[nM,am,gP,nM];constructor
    .rintro⟨e,a|a⟩
     .exact⟨e,.inl a⟩
     .exact⟨e,.inr ⟨a.1.2,a.2⟩⟩
    .rintro⟨e,a|a⟩
     .exact⟨e,.inl a⟩
     .exact⟨e,.inr ⟨⟨e,a.1⟩,a.2⟩⟩
   have g:∀ q∈I,q∈eh (af E) (I++off (eh (af E) (ff ⟨af E,E⟩ I)) on):=fun q c=>(d q).2 ⟨(hI q c).1,.inl c⟩;have r:(eh (af E) (I++off (eh (af E) (ff ⟨af E,E⟩ I)) on)).Nodup:=m.sublist eu;refine Ol v y w L n _ r (g v hvI) (fun p f=>?_) (fun p f=>?_) ?_
   .obtain⟨e,a⟩:=(d p).1 f;exact⟨e,a.elim (fun k=>(hI p k).2) And.right⟩
   .have mono:∀ z,RIn E (·∈I) v z->RIn E (·∈eh (af E) (I++off (eh (af E) (ff ⟨af E,E⟩ I)) on)) v z:=fun z h=>h.mono g;obtain⟨e,a⟩:=(d p).1 f;rcases a with a|a
    .exact mono _ (hc p a)
    .obtain⟨q,c,k⟩:=Hu.1 a.1;exact .step (mono _ (hc q c)) k f
   .have t:u∈eh (af E) (I++off (eh (af E) (ff ⟨af E,E⟩ I)) on):=(d u).2 ⟨(nM.1 (gP.1 j.1).1).1,.inr ⟨(nM.1 (gP.1 j.1).1).2,(gP.1 j.1).2⟩⟩;have:=gu (bw.2 ⟨j.2,hn⟩) (l₂:=eh (af E) (I++off (eh (af E) (ff ⟨af E,E⟩ I)) on)) fun q c=>by
     rcases ai.1 c with rfl|c
     .exact t
     .exact g q c
    rw[List.length_cons]at this;show(af E).length+1<=n+(eh (af E) (I++off (eh (af E) (ff ⟨af E,E⟩ I)) on)).length;omega
theorem OR(L:QP):∀(n:Nat) (R:PP),(∀ v∈R,v∈af E/\v∉on)->R.length<=n->∃ l,vM ⟨af E,E⟩ on n R=some l/\(∀ b∈l,io E L on b)/\l.length<=R.length/\∀ v∈R,∃ b∈l,v∈b.inner
 |n,[],_,_=>⟨[],by cases n<;>rfl,Y,Y,Y⟩
 |0,v::R,_,h=>by simp at h
 |n+1,v::R,hR,h=>by
  obtain⟨g,f⟩:=hR v ar;obtain⟨b,j,k,m⟩:=Ol (E:=E) v g f L ((af E).length+1) [v] Y Y (fun p d=>by rw[bi.1 d];exact⟨g,f⟩) (fun p d=>by rw[bi.1 d];exact .refl Y) Y;have dS:(off (v::R) b.inner).length<=R.length:=by unfold off;rw[qd,aa (Z m)];exact gx _ _
  obtain⟨l,r,s,w,t⟩:=OR L n (off (v::R) b.inner) (fun p d=>hR p (gP.1 d).1) (by rw[List.length_cons]at h;omega);have e:vM ⟨af E,E⟩ on (n+1) (v::R)=(Ax ⟨af E,E⟩ on ((af E).length+1) [v]).bind fun b=>(vM ⟨af E,E⟩ on n (off (v::R) b.inner)).map (b::·):=rfl;refine⟨b::l,by rw[e,j,Option.bind_some,r];rfl,fun c a=>?_,by rw[List.length_cons,List.length_cons];omega,fun u o=>?_⟩
  .rcases ai.1 a with rfl|a
   .exact k
   .exact s c a
  .by_cases q:u∈b.inner
   .exact⟨b,ar,q⟩
   .obtain⟨c,a,i⟩:=t u (gP.2 ⟨o,q⟩);exact⟨c,aq _ a,i⟩
theorem Wj(L:QP):∃ B,QI ⟨af E,E⟩ L on=some B/\(∀ b∈B,io E L on b)/\B.length<=E.length+(af E).length/\(∀ e∈E,ae e∉L->e.a∈on->e.b∈on->⟨[],[e.a,e.b]⟩∈B)/\∀ v∈af E,v∉on->∃ b∈B,v∈b.inner:=by
 have n:(off (af E) on).length<=(af E).length:=gx _ _;obtain⟨l,g,h,m,o⟩:=OR (E:=E) (on:=on) L ((af E).length+1) (off (af E) on) (fun v f=>gP.1 f) O;refine⟨sC ⟨af E,E⟩ L on E++l,?_,fun b d=>?_,?_,fun e c g h m=>?_,fun v f j=>?_⟩
 .unfold QI;show(vM ⟨af E,E⟩ on ((af E).length+1) (off (af E) on)).map _=_;rw[g];rfl
 .rcases am.1 d with d|d
  .unfold sC at d;obtain⟨e,c,rfl⟩:=ao.1 d;rw[cj]at c;simp only[gg,jv]at c;refine⟨fun v f=>?_,.inl ⟨rfl,e,c.1,c.2.1.1,rfl⟩⟩;rcases ai.1 f with rfl|f
   .exact⟨c.2.1.2,(aI _ _).2 ⟨e,c.1,.inl rfl⟩⟩
   .rw[bi.1 f];exact⟨c.2.2,(aI _ _).2 ⟨e,c.1,.inr rfl⟩⟩
  .exact h b d
 .have:(sC ⟨af E,E⟩ L on E).length<=E.length:=by unfold sC;rw[du];exact gx _ _
  rw[cb];omega
 .refine dg _ (ao.2 ⟨e,cj.2 ⟨c,?_⟩,rfl⟩);simp only[gg,jv];exact⟨⟨g,h⟩,m⟩
 .obtain⟨b,d,k⟩:=o v (gP.2 ⟨f,j⟩);exact⟨b,dE _ d,k⟩
end
def Rw'(E:QR)(N:PP):Prop:=∀ a b,(a,b)∈ad N->∃ e∈E,ae e=aj a b
def mN:∀(N:PP) (v w:Int),ad (N++[v,w])=ad (N++[v])++[(v,w)]:=fun N v w=>by rw[show N++[v,w]=N++v::[w] from rfl,fR];rfl
def dQ{a b:Int}(h:∃ e∈E,ae e=aj a b):∃ e∈E,ae e=aj b a:=by rw[aH];exact h
theorem uI(C:PP):∀ {B:PP} {p:Int×Int},p∈ad B->p∈ad (B++C)
 |a::b::l,p,h=>by
  rcases ai.1 h with h|h
  .rw[h];exact ar
  .exact aq _ (uI C (B:=b::l) h)
theorem kL:∀(A:PP) {B:PP} {p:Int×Int},p∈ad B->p∈ad (A++B)
 |[],_,_,h=>h
 |[a],b::B,p,h=>aq _ h
 |a::c::A,B,p,h=>aq _ (kL (c::A) h)
def AE(A B C:PP)(h:p∈ad B):p∈ad (A++B++C):=uI C (kL A h)
def Rw'.sub{C:PP}(h:Rw' E (A++B++C)):Rw' E B:=fun a b k=>by exact h a b (AE A B C k)
def Bf{u:Int}(h:RIn E S u v):∃ N,(N++[v]).Nodup/\(∀ w∈N++[v],S w)/\Rw' E (N++[v])/\(N++[v]).head?=some u:=by
 induction h with
 |refl h=>exact⟨[],Y,by simpa using h,by intro a b k;simp[ad]at k,rfl⟩
 |@step y z h d m f=>
  obtain⟨N,g,j,c,l⟩:=f;by_cases k:z∈N++[y]
  .obtain⟨A,B,e⟩:=fo k;refine⟨A,?_,?_,?_,?_⟩
   .grind
   .grind
   .rw[e]at c;exact Rw'.sub (A:=[]) (C:=B) (by simpa using c)
   .cases A<;>simp_all
  .refine⟨N++[y],by grind,by grind,fun a b q=>?_,by cases N<;>simp_all⟩;rw[dw,List.singleton_append,mN]at q;rcases am.1 q with q|q
   .exact c a b q
   .rw[bi]at q;injection q with q1 q2;rw[q1,q2];exact cF.1 d
theorem pN{M:PP}:∀ {l:PP},(∃ m∈l,m∈M)->∃ A z B,l=A++z::B/\z∈M/\∀ w∈A,w∉M
 |[],h=>by grind
 |a::l,h=>by
  by_cases k:a∈M
  .exact⟨[],a,l,rfl,k,Y⟩
  .obtain⟨A,z,B,b,c,d⟩:=pN (M:=M) (l:=l) (by grind);exact⟨a::A,z,B,by rw[b];rfl,c,by grind⟩
structure Thg(E:QR)(T:(Int->Prop)×(Int->Prop)):Prop where
 kind:(∃ e∈E,(∀ v,¬T.1 v)/\∀ v,T.2 v↔v=e.a\/v=e.b)\/
  ((∃ v,T.1 v)/\(∀ p q,T.1 p->T.1 q->RIn E T.1 p q)/\∀ c,T.2 c->∃ p,T.1 p/\c∈nbr E p)
 off:∀ v,T.1 v->¬T.2 v
 two:∃ a b,T.2 a/\T.2 b/\a≠b
def Dt(E:QR)(T:(Int->Prop)×(Int->Prop))(c u:Int):Prop:=T.2 c/\(∃ e∈E,ae e=aj c u)/\(T.1 u\/((∀ v,¬T.1 v)/\T.2 u))
structure By'(F:List PP)(T:(Int->Prop)×(Int->Prop)):Prop where
 on:∀ c,T.2 c->∃ u,(c,u)∈PF F
 off:∀ v,T.1 v->∀ u,(v,u)∉PF F
 new:(∀ v,¬T.1 v)->∀ a b,T.2 a->T.2 b->(a,b)∉PF F
section
variable {E:List Ed} {T:(Int->Prop)×(Int->Prop)} (hT:Thg E T) (Tv:∀ e∈E,e.a≠e.b)
include hT Tv
theorem Thg.way{F:List PP}(g:By' F T){c u d v:Int}(h:Dt E T c u)(k:Dt E T d v)(W:c≠d):∃ M,WyE E F c d M/\(∀ w∈M,T.1 w)/\(c,u)∈ad (c::(M++[d]))/\(v,d)∈ad (c::(M++[d]))/\((∃ w,T.1 w)->M≠[]):=by
 obtain⟨m,H,V⟩:=h;obtain⟨o,Q,k3⟩:=k;rcases hT.kind with⟨e,he,s,j⟩|⟨s,j,z3⟩
 .have t:u=d:=by
   have R:=(j c).1 m;have S:=(j u).1 (by grind);have U:=(j d).1 o;obtain⟨f,hf,q⟩:=H;have:=Tv f hf;have:=aN q
   grind
  have x:v=c:=by
   have R:=(j c).1 m;have S:=(j v).1 (by grind);have U:=(j d).1 o;obtain⟨f,hf,q⟩:=Q;have:=Tv f hf;have:=aN q
   grind
  subst t x;refine⟨[],⟨by grind,fun a b q=>?_,fun p q=>?_,Y,g.on _ m,g.on _ o⟩,Y,by simp[ad],by simp[ad],fun⟨w,q⟩=>absurd q (s w)⟩
  .simp[ad]at q;rw[q.1,q.2];exact H
  .simp[ad]at q;rw[q];exact g.new s _ _ m o
 .have t:T.1 u:=V.resolve_right fun q=>s.elim q.1;have x:T.1 v:=k3.resolve_right fun q=>s.elim q.1;obtain⟨N,n1,B,n3,C⟩:=Bf (j u v t x);have K:=hT.off;have D:∃ J,N++[v]=u::J:=by
   cases N with
   |nil=>exact⟨[],by simp at C;simp[C]⟩
   |cons a N=>exact⟨N++[v],by simp at C;simp[C]⟩
  obtain⟨J,D⟩:=D;have A:ad (c::((N++[v])++[d]))=(c,u)::ad ((N++[v])++[d]):=by rw[D];rfl
  have I:ad ((N++[v])++[d])=ad (N++[v])++[(v,d)]:=by rw[dw];exact mN N v d
  refine⟨N++[v],⟨?_,fun a b q=>?_,fun p q w=>?_,fun w q=>g.off w (B w q),g.on _ m,g.on _ o⟩,B,?_,?_,fun _=>by simp⟩
  .grind
  .rw[A,I]at q;rcases ai.1 q with q|q
   .injection q with n q2;rw[n,q2];exact H
   .rcases am.1 q with q|q
    .exact n3 a b q
    .rw[bi]at q;injection q with n q2;rw[n,q2];exact dQ Q
  .have P:∀ w,T.1 w->∀ z,(w,z)∉PF F/\(z,w)∉PF F:=fun w L z=>⟨g.off w L z,fun q=>by
    obtain⟨r,X,i⟩:=bB.1 q;obtain⟨z',hz⟩:=gK (nY i).2
    exact g.off w L z' (bB.2 ⟨r,X,hz⟩)⟩
   obtain⟨a,b⟩:=p;have n:=eO (y:=d) (l:=c::(N++[v])) q;rcases ai.1 n with rfl|n
   .rw[A]at q;rcases ai.1 q with q|q
    .injection q with _ q;exact(P u t a).2 (q ▸ w)
    .rw[I]at q;rcases am.1 q with q|q
     .exact K a (B a (bC q).1) m
     .rw[bi]at q;injection q with q _;exact K a (q ▸ x) m
   .exact(P a (B a n) b).1 w
  .rw[A];exact ar
  .rw[A,I];simp
end
def Thg.dart(j:Thg E T)(Tv:∀ e∈E,e.a≠e.b){c:Int}(d:T.2 c):∃ u,Dt E T c u:=by
 rcases j.kind with⟨e,h,g,f⟩|⟨g,f,m⟩
 .rcases(f c).1 d with rfl|rfl
  .exact⟨e.b,d,⟨e,h,rfl⟩,.inr ⟨g,(f _).2 (.inr rfl)⟩⟩
  .exact⟨e.a,d,⟨e,h,aH _ _⟩,.inr ⟨g,(f _).2 (.inl rfl)⟩⟩
 .obtain⟨p,l,k⟩:=m c d;exact⟨p,d,dQ (cF.1 k),.inl l⟩
def In'(E:QR)(s:Int->Int)(A:QP)(r:PP)(T:(Int->Prop)×(Int->Prop)):Prop:=∀ c u,Dt E T c u->SdT s A r (cd (c,u))
section
variable {E:List Ed} {s:Int->Int} (hP:PlE E s) {A:List (Int×Int)} {F:List (List Int)} (hE:Emb E s A F) {T:(Int->Prop)×(Int->Prop)} (hT:Thg E T) (hB:By' F T)
include hP hE hT hB
theorem Emb.dart_in{r:PP}(b:r∈F){c u d v:Int}(h:Dt E T c u)(k:Dt E T d v)(a:c≠d)(e:SdT s A r (cd (c,u))):SdT s A r (cd (d,v)):=by obtain⟨M,f,_,g,j,_⟩:=hT.way hP.bl.ne hB h k a;exact hE.wayT hP f g j b e
theorem Emb.in_all{r:PP}(f:r∈F){c u:Int}(h:Dt E T c u)(g:SdT s A r (cd (c,u))):In' E s A r T:=fun d v k=>by
 by_cases e:c=d
 .obtain⟨a,b,n,o,p⟩:=hT.two;have:∃ m,T.2 m/\m≠c:=by
   by_cases q:a=c
   .exact⟨b,o,fun x=>p (q.trans x.symm)⟩
   .exact⟨a,n,q⟩
  obtain⟨m,w,l⟩:=this;obtain⟨t,j⟩:=hT.dart hP.bl.ne w;exact hE.dart_in hP hT hB f j k (e ▸ l) (hE.dart_in hP hT hB f h j l.symm g)
 .exact hE.dart_in hP hT hB f h k e g
theorem Emb.in_ex:∃ r∈F,In' E s A r T:=by obtain⟨a,b,c,g,h⟩:=hT.two;obtain⟨u,e⟩:=hT.dart hP.bl.ne c;obtain⟨v,f⟩:=hB.on a c;obtain⟨r,d,k⟩:=hE.ex hP (p:=(a,u)) e.2.1 f;exact⟨r,d,hE.in_all hP hT hB d e k⟩
theorem Emb.in_on{r:PP}(d:r∈F)(h:In' E s A r T){c:Int}(b:T.2 c):c∈r:=by obtain⟨u,a⟩:=hT.dart hP.bl.ne b;exact hE.here hP d (p:=(c,u)) a.2.1 (h c u a)
theorem Thg.legs{x y c:Int}(V:T.2 x)(W:T.2 y)(U:T.2 c)(h1:x≠y)(h2:y≠c)(h3:x≠c):∃ M u t o z r N g tz,WyE E F x y M/\Dt E T x u/\(x,u)∈ad (x::(M++[y]))/\(t,y)∈ad (x::(M++[y]))/\M=o++z::r/\(∀ w∈M,T.1 w)/\(∀ w∈N,T.1 w)/\
 (c::(N++[z])).Nodup/\(∀ u v,(u,v)∈ad (c::(N++[z]))->∃ e∈E,ae e=aj u v)/\(∀ v∈N,v∉M)/\(c,g)∈ad (c::(N++[z]))/\(tz,z)∈ad (c::(N++[z]))/\Dt E T c g:=by
 obtain⟨u,P⟩:=hT.dart hP.bl.ne V;obtain⟨t,ht⟩:=hT.dart hP.bl.ne W;obtain⟨g,d⟩:=hT.dart hP.bl.ne U;have L:∃ w,T.1 w:=by
  rcases hT.kind with⟨e,he,J,f⟩|⟨J,_⟩
  .have:=(f x).1 V;have:=(f y).1 W;have:=(f c).1 U;grind
  .exact J
 obtain⟨M,X,I,w3,w4,w5⟩:=hT.way hP.bl.ne hB P ht h1;have hM:=w5 L;have f:∀ p q,T.1 p->T.1 q->RIn E T.1 p q:=by
  rcases hT.kind with⟨e,he,J,f⟩|⟨_,f,_⟩
  .exact absurd L.choose_spec (J _)
  .exact f
 obtain⟨m,M',rfl⟩:=nm hM;have K:T.1 g:=d.2.2.resolve_right fun q=>q.1 _ L.choose_spec;obtain⟨l,n1,n2,n3,H⟩:=Bf (f g m K (I m ar));obtain⟨N,z,B,D,R,e3⟩:=pN (M:=m::M') (l:=l++[m]) ⟨m,Y,ar⟩;obtain⟨o,r,S⟩:=fo R;have hN:∀ w∈N,T.1 w:=fun w k=>n2 w (by rw[D];simp[k]);have hco:=hT.off;have Q:∀ a b,(a,b)∈ad (N++[z])->∃ e∈E,ae e=aj a b:=fun a b k=>n3 a b (by rw[D];have:=AE [] (N++[z]) B k;simpa using this);have j:(c::(N++[z])).Nodup:=by
  have:T.1 z:=I z R
  grind
 cases N with
 |nil=>
  have hz:z=g:=by rw[D]at H;simpa using H
  subst hz;exact⟨_,u,t,o,z,r,[],z,c,X,P,w3,w4,S,I,Y,j,fun a b q=>by simp[ad]at q;rw[q.1,q.2];exact d.2.1,Y,by simp[ad],by simp[ad],d⟩
 |cons n N=>
  have hn:n=g:=by rw[D]at H;simpa using H
  subst hn;obtain⟨C,h,e5⟩:∃ C h,n::N=C++[h]:=⟨(n::N).dropLast,(n::N).getLast Y,(lf _).symm⟩;refine⟨_,u,t,o,z,r,n::N,n,h,X,P,w3,w4,S,I,hN,j,fun a b q=>?_,e3,by simp[ad],?_,d⟩
  .rcases ai.1 q with q|q
   .injection q with q1 q2;rw[q1,q2];exact d.2.1
   .exact Q a b q
  .refine kL [c] ?_;show(h,z)∈ad ((n::N)++[z]);rw[e5,dw];exact List.mem_of_mem_getLast? (by rw[show C++([h]++[z])=C++[h,z] from rfl,mN];simp)
end
section
variable {E:List Ed} {s:Int->Int} (hP:PlE E s) {A:List (Int×Int)} {F:List (List Int)} (hE:Emb E s A F) {T T':(Int->Prop)×(Int->Prop)} (hT:Thg E T) (hB:By' F T) (hT':Thg E T') (hB':By' F T') (ho:∀ v,T.1 v->¬T'.1 v)
include hP hE hT hB hT' hB' ho
theorem L6{r:PP}(l:r.Nodup){x y p q:Int}(h:Cr r x y p q):∃ a b P Q,r=a++b/\b++a=x::(P++y::Q)/\((p∈P/\q∈Q)\/(q∈P/\p∈Q)):=by
 have g:=h.2;obtain⟨a,b,P,Q,c,d⟩:=uK h.1.1 h.1.2.1 (by intro e;rw[e]at g;unfold dP dh at g;omega);refine⟨a,b,P,Q,c,d,?_⟩;have j:(x::(P++y::Q)).Nodup:=by rw[<- d];grind
 have k:Cr (x::(P++y::Q)) x y p q:=h.mono fun u v w _ _ _=>by rw[<- d];exact(EB (c ▸ l)).2 u v w |>.1 |> fun z=>by rw[c];exact z
 have f:=@fN x y P Q [] j Y Y;have n:=f k.1.1;have o:=f k.1.2.1;have t:=f k.1.2.2.1;have B:=f k.1.2.2.2;have m:=k.2;unfold dP dh at m
 grind
theorem Emb.avo{r:PP}(I:r∈F)(h:In' E s A r T)(h':In' E s A r T'):Avo r T.2 T'.2:=by
 have hn:=hE.simple r I;have o:=fun {c} (k:T.2 c)=>hT.dart hP.bl.ne k;have f:=fun {c} (k:T'.2 c)=>hT'.dart hP.bl.ne k;refine⟨fun a b c d S V l kd q=>?_,fun a b c S V l U W j=>?_⟩
 .have r9:a≠b:=fun e=>by have:=q.2;rw[e]at this;unfold dP dh at this;omega
  have m:c≠d:=fun e=>by have:=q.2;rw[e]at this;unfold dP dh at this;omega
  obtain⟨u,hu⟩:=o S;obtain⟨t,ht⟩:=o V;obtain⟨M,w1,w2,w3,w4,_⟩:=hT.way hP.bl.ne hB hu ht r9;obtain⟨a',b',P,Q,p,B,C⟩:=L6 hP hE hT hB hT' hB' ho hn q;have g:∀ {c d},T'.2 c->T'.2 d->c≠d->c∈P->d∈Q->False:=fun {c d} l kd m hp hq=>by obtain⟨u',R⟩:=f l;obtain⟨t',ht'⟩:=f kd;obtain⟨N,v1,v2,v3,v4,_⟩:=hT'.way hP.bl.ne hB' R ht' m;exact hE.no_cross hP w1 w3 w4 I (h a u hu) p B v1 v3 v4 (h' c u' R) hp hq fun v k n=>ho v (w2 v n) (v2 v k)
  rcases C with C|C
  .exact g l kd m C.1 C.2
  .exact g kd l m.symm C.1 C.2
 .by_cases D:a=b
  .exact .inl D
  by_cases H:b=c
  .exact .inr (.inl H)
  by_cases J:a=c
  .exact .inr (.inr J)
  exfalso;have g:∀ x y c,T.2 x->T.2 y->T.2 c->T'.2 x->T'.2 y->T'.2 c->x≠y->y≠c->x≠c->∀ a b P Q,r=a++b->b++a=x::(P++y::Q)->c∈P->False:=by
   intro x y c kx ky l X ky' j D H J a b P Q p B hcP;obtain⟨Pa,Pb,rfl⟩:=fo hcP;obtain⟨M,u,t,Ma,z,Mb,N,uc,tz,w1,hu,w3,w4,w5,w6,w7,w8,w9,w10,w11,w12,huc⟩:=hT.legs hP hE hB kx ky l D H J;have hi:∃ w,T'.1 w:=by
    rcases hT'.kind with⟨e,he,z1,z2⟩|⟨z1,_⟩
    .have:=(z2 x).1 X;have:=(z2 y).1 ky';have:=(z2 c).1 j;grind
    .exact z1
   obtain⟨ix,K⟩:=f X;obtain⟨iy,L⟩:=f ky';obtain⟨ic,hic⟩:=f j;obtain⟨N1,v1,v2,v3,v4,v5⟩:=hT'.way hP.bl.ne hB' K L D;obtain⟨N2,x1,x2,x3,x4,x5⟩:=hT'.way hP.bl.ne hB' L hic H
   exact hE.no_three hP w1 w3 w4 I (h x u hu) p B w5 w8 w9 (fun v k=>hB.off v (w7 v k)) w10 w11 w12 (h c uc huc) v1 x1 (v5 hi) (x5 hi)
    (fun v k=>⟨fun n=>ho v (w6 v n) (v2 v k),fun n=>ho v (w7 v n) (v2 v k)⟩) (fun v k=>⟨fun n=>ho v (w6 v n) (x2 v k),fun n=>ho v (w7 v n) (x2 v k)⟩) v3 v4 x3 x4 (h' x ix K)
  have ra:=hE.in_on hP hT hB I h S;have rb:=hE.in_on hP hT hB I h V;have rc:=hE.in_on hP hT hB I h l;obtain⟨a',b',P,Q,p,B⟩:=uK ra rb D;have hc:c∈P\/c∈Q:=by
   have:c∈b'++a':=by rw[am];rw[p,am]at rc;exact rc.symm
   rw[B]at this
   grind
  rcases hc with k|k
  .exact g a b c S V l U W j D H J a' b' P Q p B k
  .obtain⟨Qa,Qb,rfl⟩:=fo k;refine g a c b S l V U j W J (jk H) D a' b' (P++b::Qa) Qb p (by rw[B];simp) Y
end
def Rt.rev{l m:PP}(h:Rt l m):Rt l.reverse m.reverse:=by obtain⟨a,b,rfl,rfl⟩:=h;exact⟨b.reverse,a.reverse,Y,Y⟩
def hU(r:PP)(u v:Int):(u,v)∈prs r.reverse↔(v,u)∈prs r:=by
 cases r with
 |nil=>simp[prs,ad]
 |cons x l=>
  have a:(prs (x::l).reverse).Perm (prs (x::l.reverse)):=by rw[tg];exact qP l.reverse [x]
  have b:prs (x::l.reverse)=ad (x::(l++[x])).reverse:=by unfold prs;simp
  rw[a.mem_iff,b,<- sO];unfold prs;simp
structure Kr(E:QR)(T:(Int->Prop)×(Int->Prop))(r:PP):Prop where
 nd:r.Nodup
 len:3<=r.length
 ed:∀ u v,(u,v)∈prs r->∃ e∈E,ae e=aj u v
 off:∀ v∈r,¬T.1 v
 on:∀ v,T.2 v->v∈r
 new:(∀ v,¬T.1 v)->∀ a b,T.2 a->T.2 b->(a,b)∉prs r
theorem Kr.rt{f:PP}(h:Kr E T r)(k:Rt r f):Kr E T f:=by obtain⟨a,b,rfl,rfl⟩:=k;have e:∀ p,p∈prs (b++a)↔p∈prs (a++b):=fun p=>(qP b a).mem_iff;obtain⟨l,m,g,n,o,j⟩:=h;exact⟨by grind,by grind,fun u v=>by rw[e];exact g u v,by grind,by grind,fun q c d=>by rw[e];exact j q c d⟩
def Kr.rev(h:Kr E T r):Kr E T r.reverse:=by obtain⟨a,b,e,f,g,l⟩:=h;exact⟨(ik r).nodup_iff.2 a,by simpa using b,fun u v k=>dQ (e v u ((hU r u v).1 k)),by simpa using f,by simpa using g,fun q c d i j k=>l q d c j i ((hU r c d).1 k)⟩
theorem Avo.rt{c:PP}{C D:Int->Prop}(d:r.Nodup)(h:Avo r C D)(k:Rt r c):Avo c C D:=by obtain⟨a,b,rfl,rfl⟩:=k;exact h.rot d
def iA:p∈PF [r,r.reverse]↔p∈prs r\/p.swap∈prs r:=by rw[show PF [r,r.reverse]=prs r++prs r.reverse by simp[PF],am];exact or_congr lq (hU r p.1 p.2)
section
variable {E:List Ed} {s:Int->Int} (hP:PlE E s) {T:(Int->Prop)×(Int->Prop)}
include hP
theorem Kr.emb{r:PP}(h:Kr E T r):Emb E s (prs r) [r,r.reverse]:=by
 obtain⟨b,a,c,f,g,j⟩:=h
 match r,a with
 |x::y::l,a=>
  obtain⟨N,z,e⟩:∃ N z,y::l=N++[z]:=⟨_,_,(lf (tp y l)).symm⟩;rw[e]at b a c ⊢;have d:Rng E x z N:=⟨b,by intro e;rw[e]at a;simp at a,c⟩;have:=d.emb hP
  rwa [show(x::(N++[z])).reverse=z::(N.reverse++[x]) by simp]
omit hP in
theorem Kr.by'{r:PP}(h:Kr E T r):By' [r,r.reverse] T:=by
 refine⟨fun c g=>?_,fun v d u k=>?_,fun q a b e f k=>?_⟩
 .obtain⟨u,j⟩:=gK (h.on c g);exact⟨u,iA.2 (.inl j)⟩
 .rcases iA.1 k with k|k
  .exact h.off v (nY k).1 d
  .exact h.off v (nY (x:=u) (y:=v) k).2 d
 .rcases iA.1 k with k|k
  .exact h.new q a b e f k
  .exact h.new q b a f e k
theorem Emb.kr{A:QP}{F:List PP}(e:Emb E s A F)(f:Thg E T)(d:By' F T){r:PP}(c:r∈F)(h:In' E s A r T)(g:3<=r.length):Kr E T r:=
 ⟨e.simple r c,g,fun u v k=>e.sub (bB.2 ⟨r,c,k⟩),fun v l k=>by obtain⟨u,j⟩:=gK l;exact d.off v k u (bB.2 ⟨r,c,j⟩),fun v k=>e.in_on hP f d c h k,fun q a b m n k=>d.new q a b m n (bB.2 ⟨r,c,k⟩)⟩
theorem pieces(hT:Thg E T){r:PP}(hk:Kr E T r){x y:Int}{P Q M:PP}(hrt:Rt r (x::(P++y::Q)))(hx:T.2 x)(hy:T.2 y)(hn:(x::(M++[y])).Nodup)(hed:∀ u v,(u,v)∈ad (x::(M++[y]))->∃ e∈E,ae e=aj u v)(hM:∀ v∈M,T.1 v)(L:M=[]->∀ v,¬T.1 v)
 {D:(Int->Prop)×(Int->Prop)->Prop} (R:∀ S,D S->Thg E S/\(∀ v,S.1 v->T.1 v/\v∉M)/\(∀ v,S.2 v->v∈M\/T.2 v)/\((∀ v,¬S.1 v)->(∃ v,S.2 v/\v∈M)/\∀ a b,S.2 a->S.2 b->(a,b)∉ad (x::(M++[y])))) (hd:∀ S d,D S->D d->S≠d->∀ v,S.1 v->¬d.1 v):
 ∃ side:(Int->Prop)×(Int->Prop)->Bool,∀ S,D S->Kr E S (if side S then x::(P++y::M.reverse)else y::(Q++x::M))/\∀ d,D d->S≠d->side S=side d->Avo (if side S then x::(P++y::M.reverse)else y::(Q++x::M)) S.2 d.2:=by
 have hE:=hk.emb hP;have F:=hk.by';have Tv:=hP.bl.ne;obtain⟨q,hq,j7⟩:=hE.in_ex hP hT F;have W0:x≠y:=by grind
 obtain⟨u,hu⟩:∃ u,(x,u)∈ad (x::(M++[y])):=by cases M with|nil=>exact⟨y,by simp[ad]⟩|cons m M=>exact⟨m,by simp[ad]⟩
 obtain⟨t,ht⟩:∃ t,(t,y)∈ad (x::(M++[y])):=by obtain⟨N,t,e⟩:∃ N t,x::M=N++[t]:=⟨_,_,(lf (tp x M)).symm⟩;exact⟨t,by rw[<- List.cons_append,e,dw,show [t]++[y]=[t,y] from rfl,mN];simp⟩
 have g:∀ v∈M,∀ w,(v,w)∉PF [r,r.reverse]:=fun v k=>F.off v (hM v k);have hw:WyE E [r,r.reverse] x y M:=by
  refine⟨hn,hed,fun p R k=>?_,g,F.on x hx,F.on y hy⟩;obtain⟨a,b⟩:=p;have h1:=eO (y:=y) (l:=x::M) R;rcases ai.1 h1 with rfl|h1
  .have B:=iI R;rcases am.1 B with B|B
   .exact g b B a (iA.2 ((iA.1 k).symm.imp id id))
   .rw[bi]at B;subst B;cases M with
    |nil=>exact F.new (L rfl) _ _ hx hy k
    |cons m M=>
     have:(a,m)∈ad (a::(m::M++[b])):=by simp[ad]
     have:=eR hn R this
     grind
  .exact g a h1 b k
 have hdu:Dt E T x u:=by
  refine⟨hx,hed x u hu,?_⟩;have B:=iI hu;rcases am.1 B with B|B
  .exact .inl (hM u B)
  .rw[bi]at B;subst B;cases M with
   |nil=>exact .inr ⟨L rfl,hy⟩
   |cons m M=>
    have:(x,m)∈ad (x::(m::M++[u])):=by simp[ad]
    have:=eR hn hu this
    grind
 obtain⟨j,o,F',A⟩:=hE.layAt hP hw hu ht hq (j7 x u hdu);have hF':∀ z∈F',z=r\/z=r.reverse:=fun z k=>by have:=A.perm.mem_iff.2 (aq _ k);simpa using this
 have mr:∀ v,(∃ w,(v,w)∈PF [r,r.reverse])->v∉M:=fun v ⟨w,k⟩ q=>g v q w k;have onr:∀ v,(v=x\/v=y\/T.2 v)->∃ w,(v,w)∈PF [r,r.reverse]:=fun v k=>F.on v (by grind);have H:∀ S,D S->By' ((x::(j++y::M.reverse))::(y::(o++x::M))::F') S:=fun S k=>by
  obtain⟨n,X,k3,k4⟩:=R S k;refine⟨fun c hc=>?_,fun v hv w i=>?_,fun z a b ka kb i=>?_⟩
  .rcases k3 c hc with h|h
   .obtain⟨w,i⟩:=gK (r:=x::(j++y::M.reverse)) (v:=c) (Z h);exact⟨w,bB.2 ⟨_,ar,i⟩⟩
   .obtain⟨w,i⟩:=F.on c h;exact⟨w,(A.mem _).2 (.inl i)⟩
  .obtain⟨v1,v2⟩:=X v hv;have vw:v∉x::(M++[y]):=fun i=>by
    have:=hT.off v v1
    grind
   rcases(A.mem _).1 i with i|i|i
   .exact F.off v v1 w i
   .exact vw (bC i).1
   .exact vw (bC (x:=w) (y:=v) i).2
  .obtain⟨⟨m,m1,m2⟩,k5⟩:=k4 z;rcases(A.mem _).1 i with i|i|i
   .have ha:=mr a ⟨b,i⟩;have hb':=mr b ⟨a,iA.2 ((iA.1 i).symm.imp id id)⟩;obtain⟨e,he,eq⟩:=hE.sub i;have:=Tv e he;have:=aN (u:=e.a) (v:=e.b) (x:=a) (y:=b) eq;rcases n.kind with⟨f,hf,_,z2⟩|⟨⟨v,z1⟩,_⟩
    .have:=(z2 m).1 m1;have:=(z2 a).1 ka;have:=(z2 b).1 kb
     grind
    .exact z v z1
   .exact k5 a b ka kb i
   .exact k5 b a kb ka i
 have J:∀ S,D S->∃ c:Bool,In' E s (ad (x::(M++[y]))++prs r) (if c then x::(j++y::M.reverse)else y::(o++x::M)) S:=fun S k=>by
  obtain⟨n,X,k3,k4⟩:=R S k;obtain⟨z,W,hi⟩:=A.emb.in_ex hP n (H S k);have:z∉F':=fun hzF=>by
   by_cases c:∃ v,S.2 v/\v∈M
   .obtain⟨v,v1,v2⟩:=c;have:=A.emb.in_on hP n (H S k) W hi v1;have:v∈r:=by rcases hF' z hzF with e|e<;>rw[e]at this<;>simpa using this
    obtain⟨w,i⟩:=gK this;exact g v v2 w (iA.2 (.inl i))
   .obtain⟨a,_,ha,_⟩:=n.two;have hTa:=(k3 a ha).resolve_left fun i=>c ⟨a,ha,i⟩;obtain⟨w,hw⟩:=n.dart Tv ha;have hw1:S.1 w:=hw.2.2.resolve_right fun i=>c (k4 i.1).1;obtain⟨v0,hv0⟩:=F.on a hTa;have hs:=A.side (a,w) hw.2.1 v0 hv0 (j7 a w ⟨hTa,hw.2.1,.inl (X w hw1).1⟩);have hz2:=hi a w hw;rcases hs with hs|hs
    .have:=A.emb.fn hP W ar hz2 hs;have hnd:=A.emb.nd;obtain⟨i,I⟩:=gK (r:=z) (v:=x) (by rw[this];simp);have hpf:(prs (x::(j++y::M.reverse))++(prs (y::(o++x::M))++PF F')).Nodup:=hnd;exact(bo.1 hpf).2.2 _ (this ▸ I) _ (dE _ (bB.2 ⟨z,hzF,I⟩)) rfl
    .have:=A.emb.fn hP W (aq _ ar) hz2 hs;have hnd:=A.emb.nd;obtain⟨i,I⟩:=gK (r:=z) (v:=x) (by rw[this];simp);have hpf:(prs (x::(j++y::M.reverse))++(prs (y::(o++x::M))++PF F')).Nodup:=hnd;exact(bo.1 (bo.1 hpf).2.1).2.2 _ (this ▸ I) _ (bB.2 ⟨z,hzF,I⟩) rfl
  rcases ai.1 W with e|W
  .exact⟨true,e ▸ hi⟩
  .rcases ai.1 W with e|W
   .exact⟨false,e ▸ hi⟩
   .exact absurd W this
 obtain⟨c,hc⟩:∃ c:(Int->Prop)×(Int->Prop)->Bool,∀ S,D S->In' E s (ad (x::(M++[y]))++prs r) (if c S then x::(j++y::M.reverse)else y::(o++x::M)) S:=
  ⟨fun S=>open Classical in if h:D S then(J S h).choose else true,fun S k=>by simp only[ry k];exact(J S k).choose_spec⟩
 have hrq:Rt q (x::(j++y::o)):=by obtain⟨a,b,e1,e2⟩:=A.rot;exact⟨a,b,e1,e2.symm⟩
 have hqn:q.Nodup:=hE.simple q hq;have U:∀ b:Bool,(if b then x::(j++y::M.reverse)else y::(o++x::M))∈(x::(j++y::M.reverse))::(y::(o++x::M))::F':=fun b=>by cases b<;>simp
 have hlen:∀ b:Bool,3<=(if b then x::(j++y::M.reverse)else y::(o++x::M)).length:=fun b=>by
  have V:M=[]->∀ i,i=(x,y)\/i=(y,x)->i∉prs q:=fun e i hi k=>by
   have k:=bB.2 ⟨q,hq,k⟩;rcases hi with rfl|rfl
   .exact F.new (L e) _ _ hx hy k
   .exact F.new (L e) _ _ hy hx k
  have hpq:∀ i,i∈prs (x::(j++y::o))->i∈prs q:=fun i k=>by obtain⟨a,b,e1,e2⟩:=hrq;rw[e1,(qP a b).mem_iff,<- e2];exact k
  cases hm:M with
  |cons m M=>cases b<;>simp<;>omega
  |nil=>
   cases b with
   |true=>
    cases hp2:j with
    |cons m M=>simp
    |nil=>exact absurd (hpq _ (by rw[hp2,bH];left;simp[ad])) (V hm _ (.inl rfl))
   |false=>
    cases hp2:o with
    |cons m M=>simp
    |nil=>exact absurd (hpq _ (by rw[hp2,bH];right;simp[ad])) (V hm _ (.inr rfl))
 have kr:∀ S,D S->Kr E S (if c S then x::(j++y::M.reverse)else y::(o++x::M)):=fun S k=>A.emb.kr hP (R S k).1 (H S k) (U _) (hc S k) (hlen _)
 have av:∀ S d,D S->D d->S≠d->c S=c d->Avo (if c S then x::(j++y::M.reverse)else y::(o++x::M)) S.2 d.2:=fun S d k K Tv he=>
  A.emb.avo hP (R S k).1 (H S k) (R d K).1 (H d K) (hd S d k K Tv) (U _) (hc S k) (by rw[he];exact hc d K)
 have uniq:∀ {P' Q':PP},Rt q (x::(P'++y::Q'))->j=P'/\o=Q':=fun {P' Q'} h=>by obtain⟨a,b,e1,e2⟩:=hrq;obtain⟨a',b',f1,f2⟩:=h;exact Hp (by rw[<- f1];exact hqn) (f1.symm.trans e1) f2.symm e2.symm
 have hq2:q=r\/q=r.reverse:=by simpa using hq
 rcases hq2 with e|e
 .obtain⟨rfl,rfl⟩:=uniq (e ▸ hrt);exact⟨c,fun S k=>⟨kr S k,fun d K=>av S d k K⟩⟩
 .have h1:Rt (x::(P++y::Q)).reverse (x::(Q.reverse++y::P.reverse)):=⟨Q.reverse++y::P.reverse,[x],Y,Y⟩;obtain⟨rfl,rfl⟩:=uniq (e ▸ hrt.rev.trans h1);have t1:Rt (x::(Q.reverse++y::M.reverse)).reverse (y::(Q++x::M)):=⟨M,y::Q++[x],Y,Y⟩;have t2:Rt (y::(P.reverse++x::M)).reverse (x::(P++y::M.reverse)):=⟨M.reverse,x::P++[y],Y,Y⟩;refine⟨fun S=>!c S,fun S k=>?_⟩;have n:=kr S k;have X:=av S;cases C:c S with
  |true=>simp only[C,ef]at n X;simp only[C,Bool.not_true,ir,gI];exact⟨n.rev.rt t1,fun d K Tv he=>((X d k K Tv (by simpa[C]using he)).rev n.nd).rt n.rev.nd t1⟩
  |false=>simp only[C,ir,gI]at n X;simp only[C,Bool.not_false,ef];exact⟨n.rev.rt t2,fun d K Tv he=>((X d k K Tv (by simpa[C]using he)).rev n.nd).rt n.rev.nd t2⟩
end
def UT{vs S:PP}(h:∃ v∈vs,v∈S):fst' vs S<vs.length/\vs.getD (fst' vs S) 0∈S:=by obtain⟨v,b,c⟩:=h;have a:fst' vs S<vs.length:=List.findIdx_lt_length_of_exists ⟨v,b,by simpa using c⟩;refine⟨a,?_⟩;have:=xd (w:=a);rw[bv,bu a];exact ov this
def UA(b:dm)(F:List PP):(cJ b F.zipIdx).1<0\/∃ k:Nat,(cJ b F.zipIdx).1=k/\k<F.length/\∀ v∈b.ends,v∈F.getD k []:=by
 have a:∀(l:List (PP×Nat)) (p:Int×Int),(∀ q∈l,q.2<F.length/\F.getD q.2 []=q.1)->(p.1<0\/∃ k:Nat,p.1=k/\k<F.length/\∀ v∈b.ends,v∈F.getD k [])->
  ((l.foldl (pR b) p).1<0\/∃ k:Nat,(l.foldl (pR b) p).1=k/\k<F.length/\∀ v∈b.ends,v∈F.getD k []):=by
  intro l;induction l with
  |nil=>intro p _ h;exact h
  |cons q l n=>
   intro p d f;rw[List.foldl_cons];refine n _ (fun r j=>d r (aq _ j)) ?_;obtain⟨s,t⟩:=d q ar;unfold pR;by_cases e:off b.ends q.1=[]
   .rw[ac e];by_cases c:p.2=0
    .rw[ac c];refine .inr ⟨q.2,rfl,s,fun v m=>?_⟩;rw[t];refine dq fun o=>?_;have:v∈off b.ends q.1:=gP.2 ⟨m,o⟩;rw[e]at this;cases this
    .rw[aa c];exact f
   .rw[aa e];exact f
 refine a F.zipIdx (-1,0) (fun q g=>?_) (.inl Y);obtain⟨r,k⟩:=q;have:=List.mem_zipIdx g;simp only[jx,jw,Nat.sub_zero,ue]at this;refine⟨this.1,?_⟩;rw[bv,bu this.1];exact this.2.symm
section
variable {E:List Ed} (hT:Tc E)
include hT
def wk(E:QR)(h:Sh)(r:dm×Int):Prop:=(∀ v∈r.1.ends,v∈af E)/\(r.2<0\/io E h.L h.on r.1/\∃ k:Nat,r.2=k/\k<h.F.length/\∀ v∈r.1.ends,v∈h.F.getD k [])
omit hT in
theorem Ec{h:Sh}:∀(B:List dm) (a:dm×Int),(∀ b∈B,io E h.L h.on b)->wk E h a->wk E h (bL h.F B a)
 |[],a,_,hb=>hb
 |b::B,a,hB,hb=>by
  have d:=hB b ar;have e:wk E h (b,(cJ b h.F.zipIdx).1):=⟨fun v g=>(d.en v g).2,(UA b h.F).imp id fun k=>⟨d,k⟩⟩;unfold bL
  split
  .exact e
  .refine Ec B _ (fun c f=>hB c (aq _ f)) ?_
   split
   .exact e
   .exact hb
omit hT in
theorem Drn.two{h:Sh}(c:Drn E h)(Tv:∀ e∈E,e.a≠e.b):∃ u v,u∈h.on/\v∈h.on/\u≠v:=by
 cases f:h.L with
 |nil=>
  have d:∀ v,v∉h.on:=fun v j=>by obtain⟨u,_,k⟩:=(c.on v).1 j;rw[f]at k;cases k
  have g:=c.cnt;rw[f,wu.2 fun v _=>by simpa using d v]at g;cases l:h.F with
  |nil=>rw[l]at g;simp at g
  |cons r F=>
   have n:r∈h.F:=by rw[l];exact ar
   obtain⟨v,j⟩:=gv _ (c.ne r n);exact absurd (c.ring_on n j) (d v)
 |cons p L=>
  obtain⟨e,o,rfl⟩:=c.sub p (by rw[f];exact ar);have m:ae e∈h.L:=by rw[f];exact ar
  have:=Tv e o;exact⟨e.a,e.b,(c.on _).2 ⟨e.b,fun k=>this k.symm,by rw[aH];exact m⟩,(c.on _).2 ⟨e.a,this,m⟩,this⟩
omit hT in
theorem Drn.link_on{h:Sh}(a:Drn E h){x y:Int}(W0:x≠y)(b:aj x y∈h.L):x∈h.on/\y∈h.on:=
 ⟨(a.on x).2 ⟨y,fun e=>W0 e.symm,by rw[aH];exact b⟩,(a.on y).2 ⟨x,W0,b⟩⟩
theorem xG{h:Sh}(o:Drn E h){b:dm}(D:io E h.L h.on b):∃ u v,u∈b.ends/\v∈b.ends/\u≠v:=by
 rcases D.kind with⟨_,e,J,_,k⟩|⟨I,g,N,B,P⟩
 .exact⟨e.a,e.b,by rw[k];simp,by rw[k];simp,hT.ne e J⟩
 refine dq fun M=>?_;obtain⟨u,v,s,K,x⟩:=o.two hT.ne;obtain⟨p,l⟩:=gv _ I;obtain⟨c,F⟩:∃ c,∀ z∈b.ends,z=c:=by
  cases C:b.ends with
  |nil=>exact⟨0,Y⟩
  |cons c R=>exact⟨c,fun z f=>dq fun k=>M ⟨z,c,by rw[C];exact f,by rw[C];exact ar,k⟩⟩
 have n:∀ t,t∈h.on->t≠c->p≠c->False:=fun t H r d=>by have q:=hT.con c p t (g p l).1 (o.on_vs H) d r;have:=q.closed (L:=fun z=>z∈b.inner) l fun z f w y A=>(B z f w y).resolve_right fun k=>A (F w k);exact(g t this).2 H
 by_cases d:p=c
 ·
  have j:∀ z∈b.ends,False:=fun z f=>by have:=(D.en z f).1;rw[F z f,<- d]at this;exact(g p l).2 this
  have q:=hT.con (max p u+1) p u (g p l).1 (o.on_vs s) O O;have:=q.closed (L:=fun z=>z∈b.inner) l fun z f w y _=>(B z f w y).resolve_right fun k=>j w k;exact(g u this).2 s
 .by_cases m:u=c
  .exact n v K (fun k=>x (by rw[m,k])) d
  .exact n u s m d
theorem ZX{h:Sh}(hD:Drn E h){b:dm}(C:io E h.L h.on b):∃ w,Ou ⟨af E,E⟩ b=some w/\w.Nodup/\2<=w.length/\w.length<=200/\(∀ v∈w,v∈af E)/\w.getD 0 0∈b.ends/\w.getD (w.length-1) 0∈b.ends/\(∀ v∈dO w,v∉h.on)/\
 (∀ x y,(x,y)∈ad w->aj x y∉h.L/\∃ e∈E,ae e=aj x y)/\(∀ v∈dO w,v∈b.inner)/\(b.inner≠[]->dO w≠[]):=by
 obtain⟨u,v,V,W,huv⟩:=xG hT hD C;obtain⟨f1,J⟩:=UT (vs:=af E) (S:=b.ends) ⟨u,(C.en u V).2,V⟩;have hfr:EW ⟨af E,E⟩ b=(af E).getD (fst' (af E) b.ends) 0:=rfl;rw[<- hfr]at J;have X:∃ z∈af E,z∈mE ⟨af E,E⟩ b:=by
  unfold mE;by_cases k:u=EW ⟨af E,E⟩ b
  .exact⟨v,(C.en v W).2,by rw[cj];exact⟨W,by simpa using fun e=>huv (by rw[k,e])⟩⟩
  .exact⟨u,(C.en u V).2,by rw[cj];exact⟨V,by simpa using k⟩⟩
 obtain⟨g1,o⟩:=UT X;have hto:oK ⟨af E,E⟩ b=(af E).getD (fst' (af E) (mE ⟨af E,E⟩ b)) 0:=rfl;rw[<- hto]at o;unfold mE at o;rw[cj,gm]at o;have hw:Ou ⟨af E,E⟩ b=if eh (af E) b.inner=[]then some [EW ⟨af E,E⟩ b,oK ⟨af E,E⟩ b]else xE (af E) (dG (vN ⟨af E,E⟩ b.inner).E) (js (af E) b.inner) (EW ⟨af E,E⟩ b) (oK ⟨af E,E⟩ b) 1000:=by unfold Ou;rw[ac ⟨f1,g1⟩]
 rw[hw];generalize EW ⟨af E,E⟩ b=M at *;generalize oK ⟨af E,E⟩ b=P at *;have j:=C.en M J;have l:=C.en P o.1;have Tv:M≠P:=fun e=>o.2 e.symm;rcases C.kind with⟨Q,e,r,heL,D⟩|⟨Q,s,h2,h3,h4⟩
 .have F:eh (af E) b.inner=[]:=by rw[Q];unfold eh;simp
  rw[ac F];refine⟨_,rfl,by simpa using Tv,Y,Y,?_,by simpa using J,by simpa using o.1,by simp[dO],fun x y W0=>?_,by simp[dO],fun k=>absurd Q k⟩
  .intro z g;rcases ai.1 g with rfl|g
   .exact j.2
   .rw[bi.1 g];exact l.2
  .simp only[ad,bi,fj]at W0;obtain⟨rfl,rfl⟩:=W0;have d:=J;have c:=o.1;rw[D]at d c;simp at d c;have K:ae e=aj x y:=by
    show aj e.a e.b=_;rcases d with rfl|rfl
    .rcases c with rfl|rfl
     .exact absurd rfl Tv
     .rfl
    .rcases c with rfl|rfl
     .exact aH _ _
     .exact absurd rfl Tv
   exact⟨by rw[<- K];exact heL,e,r,K⟩
 .obtain⟨p0,N⟩:=gv _ Q;have F:eh (af E) b.inner≠[]:=kc (nM.2 ⟨(s p0 N).1,N⟩);rw[aa F];have t:∀ v∈af E,js (af E) b.inner v=decide (v∈b.inner):=fun v W=>by unfold js Pf;rw[ac W]
  have m:∀ e,e∈(vN ⟨af E,E⟩ b.inner).E↔e∈E/\(e.a∈b.inner\/e.b∈b.inner):=fun e=>by
   show e∈E.filter _↔_;rw[cj];constructor
   .rintro⟨d,c⟩;rw[t _ ((aI _ _).2 ⟨e,d,.inl rfl⟩),t _ ((aI _ _).2 ⟨e,d,.inr rfl⟩)]at c;exact⟨d,by simpa using c⟩
   .rintro⟨d,c⟩;rw[t _ ((aI _ _).2 ⟨e,d,.inl rfl⟩),t _ ((aI _ _).2 ⟨e,d,.inr rfl⟩)];exact⟨d,by simpa using c⟩
  have H:∀ x y,(x∈b.inner\/y∈b.inner)->y∈nbr E x->y∈dG (vN ⟨af E,E⟩ b.inner).E x:=fun x y W0 hn=>by
   obtain⟨e,r,k⟩:=cF.1 hn;refine mW.2 ⟨e,(m e).2 ⟨r,?_⟩,k⟩;rcases aN k with⟨d,c⟩|⟨d,c⟩
   .rw[d,c];exact W0
   .rw[d,c];exact W0.symm
  have f:∀ x y,y∈dG (vN ⟨af E,E⟩ b.inner).E x->(∃ e∈E,ae e=aj x y)/\(x∈b.inner\/y∈b.inner):=fun x y hn=>by
   obtain⟨e,r,k⟩:=mW.1 hn;obtain⟨r,T⟩:=(m e).1 r;refine⟨⟨e,r,k⟩,?_⟩;rcases aN k with⟨d,c⟩|⟨d,c⟩
   .rw[d,c]at T;exact T
   .rw[d,c]at T;exact T.symm
  obtain⟨w,w1,w2,w3,w4,w5,w6,w7,w8,w9⟩:=Om (may:=js (af E) b.inner) (fun x y hy=>by obtain⟨⟨e,r,k⟩,_⟩:=f x y hy;exact(bN r k).2) j.2 l.2 Tv (n:=1000) (by have:=hT.few.1;omega) fun S R=>by
   obtain⟨p,K,kp⟩:=h4 M J;obtain⟨q,U,kq⟩:=h4 P o.1;have sp:S p:=R.2 M R.1 (.inl rfl) p (H M p (.inr K) (mH kp));have sq:q∈b.inner/\S q:=(h2 p K q U).closed (L:=fun z=>z∈b.inner/\S z) ⟨K,sp⟩ fun z g y hy hyi=>by obtain⟨I,g⟩:=g;exact⟨hyi,R.2 z g (.inr (by rw[t z (s z I).1];simpa using I)) y (H z y (.inl I) hy)⟩
   exact R.2 q sq.2 (.inr (by rw[t q (s q U).1];simpa using U)) P (H q P (.inl U) kq)
  refine⟨w,w1,w2,w3,by have:=hT.few.1;omega,w5,by rw[w6];exact J,by rw[w7];exact o.1,fun z g=>?_,fun x y W0=>?_,fun z g=>?_,fun _ e=>?_⟩
  .have k:=w9 z g;rw[t z (w5 z (oJ g))]at k;exact(s z (by simpa using k)).2
  .obtain⟨d,c⟩:=f x y (w8 x y W0);refine⟨fun hm=>?_,d⟩;obtain⟨o1,o2⟩:=hD.link_on ((eC w2).2 x y W0).1 hm;rcases c with c|c
   .exact(s x c).2 o1
   .exact(s y c).2 o2
  .have k:=w9 z g;rw[t z (w5 z (oJ g))]at k;simpa using k
  .have hm:(w.getD 0 0,w.getD (w.length-1) 0)∈ad w:=by have ew:=pF w3;rw[e]at ew;generalize w.getD 0 0=A at *;generalize w.getD (w.length-1) 0=B at *;rw[ew];simp[ad]
   obtain⟨_,k⟩:=f _ _ (w8 _ _ hm);rw[w6,w7]at k;rcases k with k|k
   .exact(s _ k).2 j.1
   .exact(s _ k).2 l.1
end
end Aw
end Go.Proofs.YtbgngpdonpeboaaGreatDoor
