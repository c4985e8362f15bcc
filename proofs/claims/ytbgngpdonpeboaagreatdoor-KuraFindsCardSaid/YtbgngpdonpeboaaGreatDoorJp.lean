/- Lemmas. -/
import Derived.Test.YtbgngpdonpeboaaGreatDoorJo
set_option linter.unusedSectionVars false
set_option linter.defProp false
namespace Go.Proofs.YtbgngpdonpeboaaGreatDoor
namespace Aw
open Go Go.RowKit Pl Eu
def At'(E:QR)(r:PP)(T:(Int->Prop)×(Int->Prop)):Prop:=∃ b,io E ((prs r).map bk) r b/\T=tb b
variable{T:(Int->Prop)×(Int->Prop)}{p q v x y:Int}{s:Int->Int}{E:List Ed}{A B C H M W b c d f g j l m r:List Int}{n:Nat}
theorem oQ{L g:QP}{on':PP}(n:∀ e∈E,ae e∈g↔ae e∈L)(l:∀ v,v∈on'↔v∈m){b:dm}(h:io E L m b):io E g on' b:=by
 refine⟨fun v a=>⟨(l v).2 (h.en v a).1,(h.en v a).2⟩,?_⟩;rcases h.kind with⟨d,e,j,c,f⟩|⟨d,c,f⟩
 .exact .inl ⟨d,e,j,fun k=>c ((n e j).1 k),f⟩
 .exact .inr ⟨d,fun v a=>⟨(c v a).1,fun k=>(c v a).2 ((l v).1 k)⟩,f⟩
theorem kM{u:Int}:aj u v∈(prs r).map bk↔(u,v)∈prs r\/(v,u)∈prs r:=by
 rw[ao];constructor
 .rintro⟨⟨a,b⟩,h,e⟩;rcases aN e with⟨rfl,rfl⟩|⟨rfl,rfl⟩
  .exact .inl h
  .exact .inr h
 .rintro(h|h)
  .exact⟨_,h,rfl⟩
  .exact⟨_,h,aH _ _⟩
theorem YK{h:Sh}(d:Drn E h)(f:h.F=[r,r.reverse])(Tv:∀ e∈E,e.a≠e.b)(T:(Int->Prop)×(Int->Prop)):St' E h T↔At' E r T:=by
 have c:∀ v,v∈h.on↔v∈r:=fun v=>by
  constructor
  .intro l;obtain⟨u,n,o⟩:=(d.on v).1 l;have:=(d.mem v u).2 ⟨jk n,by rw[aH];exact o⟩;rw[f]at this;rcases iA.1 this with i|i
   .exact(nY i).1
   .exact(nY (x:=u) (y:=v) i).2
  .exact fun l=>d.ring_on (r:=r) (by rw[f];simp) l
 have m:∀ e∈E,ae e∈h.L↔ae e∈(prs r).map bk:=fun e j=>by rw[show ae e=aj e.a e.b from rfl,kM];have:=d.mem e.a e.b;rw[f,iA]at this;exact⟨fun k=>this.2 ⟨Tv e j,k⟩,fun k=>(this.1 k).2⟩
 constructor
 .rintro⟨b,g,e⟩;exact⟨b,oQ (fun e j=>(m e j).symm) (fun v=>(c v).symm) g,e⟩
 .rintro⟨b,g,e⟩;exact⟨b,oQ m c g,e⟩
section
variable {E:List Ed} (hT:Tc E)
include hT
theorem Cz{r:PP}(n:r.Nodup)(d:3<=r.length)(c:∀ u v,(u,v)∈prs r->∃ e∈E,ae e=aj u v):∃ h o,(o=r\/o=r.reverse)/\Drn E h/\h.F=[o,o.reverse]:=by
 have j:∀ r:PP,r.Nodup->3<=r.length->(∀ u v,(u,v)∈prs r->∃ e∈E,ae e=aj u v)->∀ x∈E,x.a=r.head?.getD 0->x.b=r.getLast?.getD 0->∃ h,Drn E h/\h.F=[r,r.reverse]:=by
  intro r n d c x y f g
  match r,d with
  |a::m::l,d=>
   obtain⟨N,z,e⟩:∃ N z,l=N++[z]:=⟨_,_,(lf (by intro k;rw[k]at d;simp at d)).symm⟩;subst e;have p:(a::m::(N++[z])).getLast?.getD 0=z:=by rw[show a::m::(N++[z])=(a::m::N)++[z] by simp,Ha];rfl
   rw[p]at g;simp at f;have e:a::m::(N++[z])=x.a::(m::N++[x.b]):=by rw[f,g];rfl
   refine⟨_,Drn.start y e n (fun u v k=>c u v ?_),rfl⟩;unfold prs;exact uI _ k
 obtain⟨e,w,k⟩:∃ e∈E,ae e=aj (r.getLast?.getD 0) (r.head?.getD 0):=by
  match r,d with
  |a::m::l,d=>
   obtain⟨N,z,e⟩:∃ N z,l=N++[z]:=⟨_,_,(lf (by intro k;rw[k]at d;simp at d)).symm⟩;subst e;have p:(a::m::(N++[z])).getLast?.getD 0=z:=by rw[show a::m::(N++[z])=(a::m::N)++[z] by simp,Ha];rfl
   refine c _ _ ?_;rw[p];show(z,a)∈_;have:a::m::(N++[z])++(a::m::(N++[z])).take 1=(a::m::N)++[z,a]:=Y;unfold prs;rw[this,mN];simp
 rcases aN k with⟨s,t⟩|⟨s,t⟩
 .obtain⟨h,f,g⟩:=j r.reverse ((ik r).nodup_iff.2 n) (by simpa using d) (fun u v q=>dQ (c v u ((hU r u v).1 q))) e w (by rw[List.head?_reverse];exact s) (by rw[List.getLast?_reverse];exact t);exact⟨h,_,.inr rfl,f,g⟩
 .obtain⟨h,f,g⟩:=j r n d c e w s t;exact⟨h,_,.inl rfl,f,g⟩
theorem glue(N:BlE E){r:PP}(x:r.Nodup)(Q:3<=r.length)(D:∀ u v,(u,v)∈prs r->∃ e∈E,ae e=aj u v)(c:(Int->Prop)×(Int->Prop)->Bool)
 (m:∀ T d,At' E r T->At' E r d->T≠d->c T=c d->Avo r T.2 d.2) (w:∀ T,At' E r T->Kq E T r):∃ s,PlE E s:=by
 obtain⟨h,j,f,A,l⟩:=Cz hT x Q D;have t:j.Nodup:=by rcases f with rfl|rfl;exact x;exact(ik r).nodup_iff.2 x
 have p:∀ v,v∈j↔v∈r:=fun v=>by rcases f with rfl|rfl<;>simp
 have g:∀ T,St' E h T->At' E r T:=fun T k=>by
  have:=(YK A l hT.ne T).1 k;rcases f with rfl|rfl
  .exact this
  .obtain⟨b,C,e⟩:=this;refine⟨b,oQ (fun e K=>?_) (fun v=>by simp) C,e⟩;rw[show ae e=aj e.a e.b from rfl,kM,kM,hU,hU];exact qg
 have I:∀ T,At' E r T->∀ v,T.2 v->v∈r:=fun T ⟨b,C,e⟩ v J=>by subst e;exact(C.en v J).1
 have F:∀ T,At' E r T->Kq E T j:=fun T k=>by
  rcases f with rfl|rfl
  .exact w T k
  .exact(w T k).rev.1
 have n:∀ T d,At' E r T->At' E r d->T≠d->c T=c d->Avo j T.2 d.2:=fun T d k y q L=>by
  rcases f with rfl|rfl
  .exact m T d k y q L
  .exact(m T d k y q L).rev x
 have R:Exd E h:=by
  refine⟨A,l ▸ HK t,fun T=>if c T then 0 else 1,fun T k=>?_,fun T k v J=>?_,fun T d k y Tv K=>?_,fun T k=>?_⟩
  .rw[l];split<;>simp
  .rw[l];have:=(p v).2 (I T (g T k) v J)
   split
   .exact this
   .show v∈j.reverse;simpa using this
  .have P:c T=c d:=by revert K;cases c T<;>cases c d<;>simp
   rw[l];have:=n T d (g T k) (g d y) Tv P
   split
   .exact this
   .exact this.rev t
  .rw[l];have:=F T (g T k)
   split
   .exact⟨j,this,fun _ _ _ _ _ _=>lq⟩
   .exact⟨j.reverse,this.rev.1,fun _ _ _ _ _ _=>lq⟩
 obtain⟨M,S⟩:=Exd.loop hT (E.length+1) h R O;obtain⟨o,z,U⟩:=xF hT (E.length+1) h A O;rw[S]at z;injection z with z;obtain⟨B,H⟩:=U M z.symm;exact⟨_,(B.done hT.ne hT.sim H).plE N (zx (by have:=hT.two;omega))⟩
end
def rm(E:QR)(e:Ed):QR:=E.filter fun f=>decide (f≠e)
theorem dW{e f:Ed}:f∈rm E e↔f∈E/\f≠e:=by unfold rm;simp
theorem GS{a:QR}(h:BlE E)(c:a.Sublist E):BlE a:=
 ⟨fun e b=>h.ne e (c.subset b),(c.map ae).nodup h.sim,fun v d=>by
   obtain⟨e,b,k⟩:=(aI v a).1 d
   exact h.bnd v ((aI v E).2 ⟨e,c.subset b,k⟩)⟩
structure Mn(E:QR):Prop where
 tc:Tc E
 bl:BlE E
 np:¬∃ s,PlE E s
 min:∀ e∈E,∃ s,PlE (rm E e) s
 deg:∀ v∈af E,∀ a b,∃ c,c≠a/\c≠b/\c∈nbr E v
structure Ri(E:QR)(r:PP):Prop where
 nd:r.Nodup
 len:3<=r.length
 ed:∀ u v,(u,v)∈prs r->∃ e∈E,ae e=aj u v
theorem NH(h:∃ m∈l,m∈M):∃ A z B,l=A++z::B/\z∈M/\∀ w∈B,w∉M:=by obtain⟨A,z,B,a,b,c⟩:=pN (M:=M) (l:=l.reverse) (by simpa using h);refine⟨B.reverse,z,A.reverse,?_,b,by simpa using c⟩;have:=congrArg List.reverse a;simpa using this
theorem F8(Tv:∀ e∈E,e.a≠e.b)(U:E≠[])(h:∀ v∈af E,∀ a b,∃ c,c≠a/\c≠b/\c∈nbr E v):∃ r u v,Ri E r/\u∈r/\v∈r/\u≠v/\(∃ e∈E,ae e=aj u v)/\(u,v)∉prs r/\(v,u)∉prs r:=by
 obtain⟨t,z⟩:=gv _ U;have X:∀ w:PP,w.Nodup->(∀ v∈w,v∈af E)->w.length<=(af E).length:=fun w g S=>g.length_le_of_subset S
 obtain⟨n,⟨w,w0,w1,J,K,V⟩,hmin⟩:=least (P:=fun n=>∃ w:PP,w≠[]/\w.Nodup/\(∀ v∈w,v∈af E)/\Rw' E w/\n+w.length=(af E).length) (n:=(af E).length-1) (by
  have g:=(aI t.a E).2 ⟨t,z,.inl rfl⟩;have:=uq g
  exact⟨[t.a],Y,Y,by simpa using g,by intro a b k;simp[ad]at k,by simp;omega⟩)
 match w,w0 with
 |x::w',_=>
  have I:=J x ar;have d:∀ y,y∈nbr E x->y∈w':=fun y s=>by
   have W:y≠x:=fun e=>by
    obtain⟨f,hf,k⟩:=cF.1 s;have:=Tv f hf;have:=aN (u:=f.a) (v:=f.b) (x:=x) (y:=y) k
    grind
   refine dq fun o7=>?_;have o:(y::x::w').Nodup:=by grind
   have q:∀ v∈y::x::w',v∈af E:=fun v C=>by
    rcases ai.1 C with rfl|C
    .exact AH s
    .exact J v C
   have:=X _ o q;simp only[List.length_cons]at this V;refine hmin (n-1) O ⟨y::x::w',Y,o,q,fun a b k=>?_,by simp only[List.length_cons];omega⟩;rcases ai.1 k with k|k
   .injection k with k1 k2;rw[k1,k2];exact dQ (cF.1 s)
   .exact K a b k
  obtain⟨F,_,_,j⟩:=h x I x x;obtain⟨A,y,B,e,s,T⟩:=NH (M:=nbr E x) ⟨F,d F j,j⟩;subst e;obtain⟨m,N,R⟩:∃ m N,A++[y]=m::N:=by cases A<;>exact⟨_,_,rfl⟩
  obtain⟨c,L,Q,H⟩:=h x I y m;have l:c∈A:=by have:=d c H;have:=T c;grind
  have p:(x::(A++[y])).Nodup:=by grind
  have D:x≠c:=by grind
  refine⟨x::(A++[y]),x,c,⟨p,?_,fun u v k=>?_⟩,ar,Z l,D,cF.1 H,fun k=>?_,fun k=>?_⟩
  .have:=uq l;simp;omega
  .rcases iB.1 k with k|k
   .refine K u v ?_;have:=uI B k;simpa using this
   .injection k with k1 k2;rw[k1,k2];exact dQ (cF.1 s)
  .rcases iB.1 k with k|k
   .have g:(x,m)∈ad (x::(A++[y])):=by rw[R];simp[ad]
    exact Q (eR p k g)
   .injection k with k1 _;grind
  .rcases iB.1 k with k|k
   .have:=iI k
    grind
   .injection k with k1 _;exact L k1
theorem Ka(j:PlE E s){a b c:(Int->Prop)×(Int->Prop)}(J:Thg E a)(K:Thg E b)(L:Thg E c)(l:Kr E a r)(B:Kr E b r)(F:Kr E c r)
 (x:∀ v,a.1 v->¬b.1 v) (y:∀ v,a.1 v->¬c.1 v) (z:∀ v,b.1 v->¬c.1 v) (o:¬Avo r a.2 b.2) (p:¬Avo r a.2 c.2) (w:¬Avo r b.2 c.2):False:=by
 have m:=l.emb j;have back:∀ C D,Avo r.reverse C D->Avo r C D:=fun C D h=>by
  have:=h.rev ((ik r).nodup_iff.2 l.nd)
  rwa [om]at this
 have f:∀ T g q,Thg E T->Thg E g->Kr E T r->Kr E g r->(∀ v,T.1 v->¬g.1 v)->q∈[r,r.reverse]->In' E s (prs r) q T->In' E s (prs r) q g->Avo r T.2 g.2:=fun T g q t t' k X d A h W=>by
  have:=m.avo j t k.by' t' X.by' d A h W;simp only[ai,gz,ij]at A;rcases A with rfl|rfl
  .exact this
  .exact back _ _ this
 obtain⟨n,H,M⟩:=m.in_ex j J l.by';obtain⟨I,Q,N⟩:=m.in_ex j K B.by';obtain⟨R,m3,P⟩:=m.in_ex j L F.by';have S:n≠I:=fun e=>o (f a b n J K l B x H M (e ▸ N));have U:n≠R:=fun e=>p (f a c n J L l F y H M (e ▸ P));have V:I≠R:=fun e=>w (f b c I K L B F z Q N (e ▸ P));simp only[ai,gz,ij]at H Q m3
 grind
def eT(u v:Int):(Int->Prop)×(Int->Prop):=(fun _=>False,fun w=>w=u\/w=v)
theorem rX(Tv:∀ e∈E,e.a≠e.b)(n:Ri E r)(h:At' E r T):Kr E T r:=by
 obtain⟨b,s,rfl⟩:=h;refine⟨n.nd,n.len,n.ed,fun v t k=>?_,fun v t=>(s.en v t).1,fun q c d g l k=>?_⟩
 .rcases s.kind with⟨m,_⟩|⟨_,o,_⟩
  .have k:v∈b.inner:=k;rw[m]at k;simp at k
  .exact(o v k).2 t
 .rcases s.kind with⟨m,e,B,o,w⟩|⟨m,_⟩
  .have g:c∈b.ends:=g;have l:d∈b.ends:=l;obtain⟨f,hf,z⟩:=n.ed c d k;have j:c≠d:=fun e=>by
    have:=Tv f hf;have:=aN (u:=f.a) (v:=f.b) (x:=c) (y:=d) z
    grind
   rw[w]at g l;simp at g l;refine o ?_;rw[show ae e=aj e.a e.b from rfl,kM];rcases g with rfl|rfl<;>rcases l with rfl|rfl
   .exact absurd rfl j
   .exact .inl k
   .exact .inr k
   .exact absurd rfl j
  .obtain⟨p,A⟩:=gv _ m;exact q p A
theorem rQ(d:Tc E)(g:Ri E r)(h:At' E r T):Thg E T:=by
 obtain⟨k,m,c,j,l⟩:=Cz d g.nd g.len g.ed;have:At' E m T:=by
  obtain⟨b,f,e⟩:=h;refine⟨b,oQ (fun e n=>?_) (fun v=>?_) f,e⟩
  .rw[show ae e=aj e.a e.b from rfl,kM,kM];rcases c with rfl|rfl
   .exact lq
   .rw[hU,hU];exact qg
  .rcases c with rfl|rfl<;>simp
 obtain⟨b,f,rfl⟩:=(YK j l d.ne T).2 this;exact yF d j f
theorem IC{e:(Int->Prop)×(Int->Prop)}(k:At' E r T)(h:At' E r e)(Tv:T≠e):∀ v,T.1 v->¬e.1 v:=fun v a b=>by obtain⟨c,f,rfl⟩:=k;obtain⟨d,g,rfl⟩:=h;exact Tv (Sx f g a b)
structure Ch(E:QR)(r:PP)(u v:Int):Prop where
 ri:Ri E r
 hu:u∈r
 hv:v∈r
 ne:u≠v
 ed:∃ e∈E,ae e=aj u v
 no:(u,v)∉prs r/\(v,u)∉prs r
section
variable {E:List Ed} (hM:Mn E) {r:List Int} {u v:Int} (hC:Ch E r u v)
include hM hC
theorem Ch.at_e:At' E r (eT u v):=by
 obtain⟨e,f,k⟩:=hC.ed;have c:∀ w,w=e.a\/w=e.b↔w=u\/w=v:=fun w=>by rcases aN (u:=e.a) (v:=e.b) (x:=u) (y:=v) k with⟨i,j⟩|⟨i,j⟩<;>rw[i,j];exact qg
 refine⟨⟨[],[e.a,e.b]⟩,⟨fun w g=>?_,.inl ⟨rfl,e,f,fun q=>?_,rfl⟩⟩,?_⟩
 .have d:w=e.a\/w=e.b:=by simpa using g
  refine⟨?_,(aI _ _).2 ⟨e,f,d⟩⟩;rcases(c w).1 d with rfl|rfl
  .exact hC.hu
  .exact hC.hv
 .rw[show ae e=aj u v from k,kM]at q;exact q.elim hC.no.1 hC.no.2
 .unfold eT tb;rw[fj];exact⟨funext fun w=>propext Y,funext fun w=>propext (by rw[<- c w];simp)⟩
theorem Ch.kq{T:(Int->Prop)×(Int->Prop)}(h:At' E r T){f:Ed}(hf:f∈E)(m:∀ a b,(a,b)∈prs r->ae f≠aj a b)(n:¬ml T f):Kq E T r/\Kr (rm E f) T r/\Thg (rm E f) T:=by
 obtain⟨s,o⟩:=hM.min f hf;have k:=rX hM.tc.ne hC.ri h
 have l:Kr (rm E f) T r:=⟨k.nd,k.len,fun a b q=>by
  obtain⟨e,c,i⟩:=k.ed a b q
  exact⟨e,dW.2 ⟨c,fun j=>m a b q (j ▸ i)⟩,i⟩,k.off,k.on,k.new⟩
 have d:∀ e∈E,ml T e->∃ g∈rm E f,ae g=ae e:=fun e c p=>⟨e,dW.2 ⟨c,fun j=>n (j ▸ p)⟩,rfl⟩;exact⟨⟨rm E f,s,o,l,fun e c=>⟨e,(dW.1 c).1,rfl⟩,d⟩,l,(rQ hM.tc hC.ri h).by d⟩
theorem Ch.tch{T:(Int->Prop)×(Int->Prop)}(h:At' E r T)(p:T≠eT u v){f:Ed}(hf:ae f=aj u v):¬ml T f:=fun d=>by
 have k:=rX hM.tc.ne hC.ri h;have g:T.1 u->False:=fun q=>k.off u hC.hu q;have l:T.1 v->False:=fun q=>k.off v hC.hv q;have:=aN (u:=f.a) (v:=f.b) (x:=u) (y:=v) hf;rcases d with q|q|⟨m,n,o⟩
 .rcases this with⟨i,_⟩|⟨i,_⟩<;>rw[i]at q
  .exact g q
  .exact l q
 .rcases this with⟨_,i⟩|⟨_,i⟩<;>rw[i]at q
  .exact l q
  .exact g q
 .have c:T.2 u/\T.2 v:=by rcases this with⟨i,j⟩|⟨i,j⟩<;>rw[i]at n<;>rw[j]at o<;>simp[n,o]
  have d:=rQ hM.tc hC.ri h;rcases d.kind with⟨e,A,_,z⟩|⟨⟨w,z⟩,_⟩
  .refine p ?_;have Tv:=hC.ne;have s:=(z u).1 c.1;have t:=(z v).1 c.2;have:T=(T.1,T.2):=rfl;rw[this];unfold eT;rw[fj];refine⟨funext fun w=>propext ⟨fun i=>m w i,False.elim⟩,funext fun w=>propext ?_⟩;rw[z w]
   grind
  .exact m w z
theorem Ch.sides:∃ side:(Int->Prop)×(Int->Prop)->Prop,∀ T c,At' E r T->At' E r c->T≠eT u v->c≠eT u v->T≠c->¬Avo r T.2 c.2->(side T↔¬side c):=by
 obtain⟨e,z,k⟩:=hC.ed;obtain⟨s,f⟩:=hM.min e z;have I:∀ a b,(a,b)∈prs r->ae e≠aj a b:=fun a b q i=>by
  rcases aN (i.symm.trans k)with⟨rfl,rfl⟩|⟨rfl,rfl⟩
  .exact hC.no.1 q
  .exact hC.no.2 q
 have d:∀ T,At' E r T->T≠eT u v->Kr (rm E e) T r/\Thg (rm E e) T:=fun T h n=>(Ch.kq hM hC h z I (Ch.tch hM hC h n k)).2;refine⟨fun T=>In' (rm E e) s (prs r) r T,fun T c h x n o Tv g=>?_⟩;obtain⟨l,t⟩:=d T h n;obtain⟨p,w⟩:=d c x o;have m:=l.emb f;have y:=IC h x Tv;constructor
 .exact fun i j=>g (m.avo f t l.by' w p.by' y Y i j)
 .intro j;refine dq fun i=>g ?_;obtain⟨J,C,A⟩:=m.in_ex f t l.by';obtain⟨K,D,B⟩:=m.in_ex f w p.by';simp only[ai,gz,ij]at C D;have F:J=r.reverse:=C.resolve_left fun q=>i (q ▸ A);have H:K=r.reverse:=D.resolve_left fun q=>j (q ▸ B);have:=(m.avo f t l.by' w p.by' y Y (F ▸ A) (H ▸ B)).rev ((ik r).nodup_iff.2 l.nd)
  rwa [om]at this
structure Pw(E:QR)(r:PP)(u v:Int)(n:Nat)(T:Nat->(Int->Prop)×(Int->Prop)):Prop where
 pos:1<=n
 at':∀ i,1<=i->i<=n->At' E r (T i)/\T i≠eT u v
 con:∀ i,1<=i->i<n->T i≠T (i+1)/\¬Avo r (T i).2 (T (i+1)).2
 one:¬Avo r (T 1).2 (eT u v).2
theorem Ch.row:∃ n T,Pw E r u v n T/\n % 2=0/\¬Avo r (T n).2 (eT u v).2:=by
 refine dq fun o7=>?_;obtain⟨side,o⟩:=Ch.sides hM hC;let m:Nat->(Int->Prop)×(Int->Prop)->Prop:=fun n S=>∃ T,Pw E r u v n T/\side (T 1)/\T n=S;have par:∀ n T,Pw E r u v n T->side (T 1)->∀ i,1<=i->i<=n->(side (T i)↔i % 2=1):=fun n T j C i=>by
  induction i with
  |zero=>intro h;omega
  |succ i ih=>
   intro _ F;by_cases h0:i=0
   .subst h0;simpa using C
   .have:=ih O O;have c:=j.con i O O;have:=o (T i) (T (i+1)) (j.at' i O O).1 (j.at' (i+1) O F).1 (j.at' i O O).2 (j.at' (i+1) O F).2 c.1 c.2;have:side (T (i+1))↔¬side (T i):=by grind
    rw[this,ih O O];omega
 have step:∀ n S A,m n S->At' E r A->A≠eT u v->S≠A->¬Avo r S.2 A.2->m (n+1) A:=fun n S A ⟨T,j,C,e⟩ L Q X h5=>by
  have hp:=j.pos;refine⟨fun i=>if i<=n then T i else A,⟨O,fun i F P=>?_,fun i F P=>?_,by simpa[hp]using j.one⟩,by simpa[hp]using C,aa O⟩
  .by_cases c:i<=n
   .simpa[c]using j.at' i F c
   .simpa[c]using⟨L,Q⟩
  .by_cases c:i<n
   .simpa[c,show i<=n by omega,show i+1<=n by omega]using j.con i F c
   .have:i=n:=O;subst this;rw[ac (au _),aa O,e];exact⟨X,h5⟩
 obtain⟨e0,he0,k0⟩:=hC.ed;have W:∀ a b,(a,b)∈prs r->ae e0≠aj a b:=fun a b q i=>by
  rcases aN (i.symm.trans k0)with⟨rfl,rfl⟩|⟨rfl,rfl⟩
  .exact hC.no.1 q
  .exact hC.no.2 q
 obtain⟨f,hf,hf1,hf2⟩:∃ f∈E,(∀ a b,(a,b)∈prs r->ae f≠aj a b)/\ae f≠aj u v:=by
  obtain⟨z,R,zu,zv⟩:∃ z∈r,z≠u/\z≠v:=by
   refine dq fun q=>?_;have:=hC.ri.nd.length_le_of_subset (l₂:=[u,v]) fun z R=>by
    have:¬(z≠u/\z≠v):=fun i=>q ⟨z,R,i⟩;simp only[ai,gz,ij];by_cases c:z=u
    .exact .inl c
    .exact .inr (dq fun d=>this ⟨c,d⟩)
   have Q:=hC.ri.len;simp at this;omega
  obtain⟨a,ha⟩:=gK R;obtain⟨b,hb⟩:∃ b,(b,z)∈prs r:=by obtain⟨b,hb⟩:=gK (r:=r.reverse) (v:=z) (by simpa using R);exact⟨b,(hU r z b).1 hb⟩
  have hzv:z∈af E:=by obtain⟨e,he,k⟩:=hC.ri.ed z a ha;exact(bN he k).1
  obtain⟨c,c1,c2,c3⟩:=hM.deg z hzv a b;obtain⟨f,hf,k⟩:=cF.1 c3;have fn:∀ {a b b'},(a,b)∈prs r->(a,b')∈prs r->b=b':=fun {a b b'} q q'=>by
   have hE:=(rX hM.tc.ne hC.ri (Ch.at_e hM hC))
   match r,hC.ri.nd,hC.ri.len,hC.ri.ed with
   |x::y::l,hn,hl,hed=>obtain⟨N,w,e⟩:∃ N w,y::l=N++[w]:=⟨_,_,(lf (tp y l)).symm⟩;rw[e]at hn hl hed q q';exact Rng.fn ⟨hn,by intro e;rw[e]at hl;simp at hl,hed⟩ q q'
  refine⟨f,hf,fun x y q i=>?_,fun i=>?_⟩
  .rcases aN (k.symm.trans i)with⟨rfl,rfl⟩|⟨rfl,rfl⟩
   .exact c1 (fn q ha)
   .have p:=(hU r _ _).2 q;have U:=(hU r _ _).2 hb;have:c=b:=by
     have H:Ri E r.reverse:=⟨(ik r).nodup_iff.2 hC.ri.nd,by simpa using hC.ri.len,fun u v k=>dQ (hC.ri.ed v u ((hU r u v).1 k))⟩
     match hrr:r.reverse,H.nd,H.len,H.ed with
     |x::y::l,hn,hl,hed=>rw[hrr]at p U;obtain⟨N,w,e⟩:∃ N w,y::l=N++[w]:=⟨_,_,(lf (tp y l)).symm⟩;rw[e]at hn hl hed p U;exact Rng.fn ⟨hn,by intro e;rw[e]at hl;simp at hl,hed⟩ p U
    exact c2 this
  .rcases aN (k.symm.trans i)with⟨rfl,rfl⟩|⟨rfl,rfl⟩
   .exact zu rfl
   .exact zv rfl
 have kq:∀ T,At' E r T->Kq E T r:=fun T h=>by
  by_cases c:T=eT u v
  .subst c;refine(Ch.kq hM hC h hf hf1 fun ht=>?_).1;rcases ht with q|q|⟨_,p,I⟩
   .exact q
   .exact q
   .have Tv:=hM.tc.ne f hf;refine hf2 ?_;show aj f.a f.b=_;rcases p with p|p<;>rcases I with I|I
    .exact absurd (p.trans I.symm) Tv
    .rw[p,I]
    .rw[p,I];exact aH _ _
    .exact absurd (p.trans I.symm) Tv
  .exact(Ch.kq hM hC h he0 W (Ch.tch hM hC h c k0)).1
 have K:∀ n S,m n S->n % 2=0->Avo r S.2 (eT u v).2:=fun n S ⟨T,j,_,e⟩ L=>dq fun q=>o7 ⟨n,T,j,L,e ▸ q⟩;have s:∀ n S,m n S->(side S↔n % 2=1):=fun n S ⟨T,j,C,e⟩=>e ▸ par n T j C n j.pos (au _);have J:∀ S,At' E r S->S≠eT u v->side S->¬Avo r S.2 (eT u v).2->m 1 S:=fun S C L Q X=>⟨fun _=>S,⟨O,fun i _ _=>⟨C,L⟩,fun i F P=>by omega,X⟩,Q,rfl⟩;refine hM.np (glue hM.tc hM.bl hC.ri.nd hC.ri.len hC.ri.ed (fun T=>open Classical in if T=eT u v then true else if ∃ n,m n T then decide (¬side T)else decide (side T)) (fun T B h V Tv g=>?_) kq);have main:∀ T,At' E r T->T≠eT u v->(open Classical in if ∃ n,m n T then decide (¬side T)else decide (side T))=true->Avo r T.2 (eT u v).2:=fun T h hT g=>by
  by_cases q:∃ n,m n T
  .obtain⟨n,q⟩:=q;rw[ac ⟨n,q⟩]at g;have:=s n T q;simp only[jv]at g;have:¬n % 2=1:=fun i=>g (this.2 i);exact K n T q O
  .rw[aa q]at g;simp only[jv]at g;exact dq fun i=>q ⟨1,J T h hT g i⟩
 by_cases c:T=eT u v<;>by_cases t:B=eT u v
 .exact absurd (c.trans t.symm) Tv
 .rw[ac c,aa t]at g;rw[c];exact(main B V t g.symm).symm
 .rw[aa c,ac t]at g;rw[t];exact main T h c g
 .rw[aa c,aa t]at g;refine dq fun D=>?_;have hs:=o T B h V c t Tv D;have M:¬Avo r B.2 T.2:=fun q=>D q.symm;have:(∃ n,m n T)↔∃ n,m n B:=⟨fun⟨n,q⟩=>⟨n+1,step n T B q V t Tv D⟩,fun⟨n,q⟩=>⟨n+1,step n B T q h c (jk Tv) M⟩⟩;by_cases q:∃ n,m n T
  .rw[ac q,ac (this.1 q)]at g;simp only[decide_eq_decide]at g
   grind
  .rw[aa q,aa fun i=>q (this.2 i)]at g;simp only[decide_eq_decide]at g
   grind
end
theorem Rt.mem(h:Rt l m)(v:Int):v∈m↔v∈l:=by obtain⟨a,b,rfl,rfl⟩:=h;simp[qg]
theorem Rt.prs{l m:PP}(h:Rt l m)(p:Int×Int):p∈prs m↔p∈prs l:=by obtain⟨a,b,rfl,rfl⟩:=h;exact(qP b a).mem_iff
theorem Rt.nd(h:Rt l m):m.Nodup↔l.Nodup:=by obtain⟨a,b,rfl,rfl⟩:=h;exact(kT (l₁:=b) (l₂:=a)).nodup_iff
theorem Rt.symm{l m:PP}(h:Rt l m):Rt m l:=by obtain⟨a,b,rfl,rfl⟩:=h;exact⟨b,a,rfl,rfl⟩
theorem At'.rt(h:At' E r T)(k:Rt r c):At' E c T:=by obtain⟨b,d,e⟩:=h;refine⟨b,oQ (fun e f=>?_) (fun v=>k.mem v) d,e⟩;rw[show ae e=aj e.a e.b from rfl,kM,kM,k.prs,k.prs]
theorem Ch.rt{u:Int}(h:Ch E r u v)(k:Rt r c):Ch E c u v:=by obtain⟨⟨d,e,f⟩,h4,h5,h6,h7,h8⟩:=h;refine⟨⟨k.nd.2 d,?_,fun u v q=>f u v ((k.prs _).1 q)⟩,(k.mem _).2 h4,(k.mem _).2 h5,h6,h7,by rw[k.prs,k.prs];exact h8⟩;obtain⟨a,b,rfl,rfl⟩:=k;simp at e ⊢;omega
theorem rM(a:r.Nodup)(k:Rt r b)(C D:Int->Prop):Avo b C D↔Avo r C D:=⟨fun h=>h.rt (k.nd.2 a) k.symm,fun h=>h.rt a k⟩
theorem Be{E:QR}{S:Int->Prop}:∀ {l:PP},Rw' E l->(∀ w∈l,S w)->∀ a∈l,∀ b∈l,RIn E S a b
 |[],_,_,a,ha,_,_=>by cases ha
 |[x],_,hS,a,ha,b,hb=>by rw[bi.1 ha,bi.1 hb];exact .refl (hS x ar)
 |x::y::l,hr,hS,a,ha,b,hb=>by
  have g:=Be (l:=y::l) (fun p q k=>hr p q (aq _ k)) (fun w f=>hS w (aq _ f));have W0:y∈nbr E x:=cF.2 (hr x y ar);have e:RIn E S x y:=.step (.refl (hS x ar)) W0 (hS y Y);have c:∀ z∈x::y::l,RIn E S y z:=fun z d=>by
   rcases ai.1 d with rfl|d
   .exact e.symm
   .exact g y ar z d
  exact(c a ha).symm.trans (c b hb)
section
variable {c d:Int} {P Q:List Int} (hn:(c::(P++d::Q)).Nodup)
include hn
theorem gF{w:Int}(h:w∈c::(P++d::Q)):(w=c/\(c::(P++d::Q)).idxOf w=0)\/(w∈P/\0<(c::(P++d::Q)).idxOf w/\(c::(P++d::Q)).idxOf w<P.length+1)\/(w=d/\(c::(P++d::Q)).idxOf w=P.length+1)\/(w∈Q/\P.length+1<(c::(P++d::Q)).idxOf w):=by
 have:=@lO P w;have:=@lO Q w;rw[ai,am,ai]at h;rcases h with rfl|h|rfl|h
 .exact .inl ⟨rfl,by grind⟩
 .exact .inr (.inl ⟨h,by grind,by grind⟩)
 .exact .inr (.inr (.inl ⟨rfl,by grind⟩))
 .exact .inr (.inr (.inr ⟨h,by grind⟩))
theorem Ck{w:Int}(h:w∈c::(P++[d])):w∈c::(P++d::Q)/\w∉Q/\(c::(P++d::Q)).idxOf w<=P.length+1:=by
 have a:w∈c::(P++d::Q):=by grind
 have:=gF hn a
 grind
theorem LJ{w:Int}(h:w∈Q):w∈c::(P++d::Q)/\P.length+1<(c::(P++d::Q)).idxOf w:=by
 have a:w∈c::(P++d::Q):=by grind
 have:=gF hn a
 grind
theorem Mw:(c::(P++d::Q)).idxOf c=0/\(c::(P++d::Q)).idxOf d=P.length+1:=by
 have a:=gF hn (w:=d) Y
 grind
theorem HG{X f:Int->Prop}(g:∀ w,X w->w∈c::(P++[d]))(t:∀ w,f w->w∈c::(P++d::Q))(h:¬Avo (c::(P++d::Q)) f X):∃ m,f m/\m∈P:=by
 refine dq fun j=>h ⟨fun a b p q k l v x B=>?_,fun a b e k l C n o r=>?_⟩
 .have D:=gF hn (t a k);have E:=gF hn (t b l);have F:=gF hn (w:=p) (by have:=g p v;grind);have H:=gF hn (w:=q) (by have:=g q x;grind);have A:p∉Q:=by have:=g p v;grind
  have I:q∉Q:=by have:=g q x;grind
  have y:a∉P:=fun i=>j ⟨a,k,i⟩;have z:b∉P:=fun i=>j ⟨b,l,i⟩;have s:=B.2;have L:(c::(P++d::Q)).idxOf a=0\/P.length+1<=(c::(P++d::Q)).idxOf a:=by grind
  have M:(c::(P++d::Q)).idxOf b=0\/P.length+1<=(c::(P++d::Q)).idxOf b:=by grind
  have N:(c::(P++d::Q)).idxOf p<=P.length+1:=by grind
  have R:(c::(P++d::Q)).idxOf q<=P.length+1:=by grind
  unfold dP dh at s;omega
 .have J:=g a n;have s:=g b o;have K:=g e r;have y:a∉P:=fun i=>j ⟨a,k,i⟩;have z:b∉P:=fun i=>j ⟨b,l,i⟩;have A:e∉P:=fun i=>j ⟨e,C,i⟩
  grind
theorem Hf{X f:Int->Prop}(g:∀ w,X w->w∈c::(P++d::Q)/\w∉P)(j:∀ w,f w->w∈c::(P++d::Q))(h:¬Avo (c::(P++d::Q)) f X):∃ m,f m/\m∈Q:=by
 refine dq fun n=>h ⟨fun a b p q k l x y C=>?_,fun a b e k l v o r s=>?_⟩
 .have D:=gF hn (j a k);have E:=gF hn (j b l);have F:=gF hn (g p x).1;have H:=gF hn (g q y).1;have B:=(g p x).2;have I:=(g q y).2;have z:a∉Q:=fun i=>n ⟨a,k,i⟩;have A:b∉Q:=fun i=>n ⟨b,l,i⟩;have t:=C.2;have R:(c::(P++d::Q)).idxOf p=0\/P.length+1<=(c::(P++d::Q)).idxOf p:=by grind
  have S:(c::(P++d::Q)).idxOf q=0\/P.length+1<=(c::(P++d::Q)).idxOf q:=by grind
  have T:(c::(P++d::Q)).idxOf a<=P.length+1:=by grind
  have U:(c::(P++d::Q)).idxOf b<=P.length+1:=by grind
  unfold dP dh at t;omega
 .have J:=g a o;have t:=g b r;have K:=g e s;have L:=j a k;have M:=j b l;have N:=j e v;have z:a∉Q:=fun i=>n ⟨a,k,i⟩;have A:b∉Q:=fun i=>n ⟨b,l,i⟩;have B:e∉Q:=fun i=>n ⟨e,v,i⟩
  grind
theorem ZS{X a:Int->Prop}(f:X c)(g:X d){m t:Int}(j:a m)(k:a t)(b:m∈P)(e:t∈Q):¬Avo (c::(P++d::Q)) a X:=fun h=>h.no m t c d j k f g (rS (rE hn b e))
end
theorem I7{u:Int}(r:∀ b∈M,b∉f)(p:∀ b∈M,b∈u::(j++v::f)){a b:Int}(n:a∈M)(s:b∈M)(J:a≠b):
 ∃ c d P Q,Rt (u::(j++v::f)) (c::(P++d::Q))/\c∈M/\d∈M/\(∀ w∈P,w∉M)/\u∈c::(P++[d])/\v∈c::(P++[d]):=by
 have q:∀ w∈M,w∈u::(j++[v]):=fun w e=>by have:=p w e;have:=r w e;grind
 obtain⟨A,d,t,g,H,o⟩:=pN (M:=M) (l:=u::(j++[v])) ⟨a,q a n,n⟩
 obtain⟨B,c,m,y,F,E⟩:=NH (M:=M) (l:=t) (by
  have z:=q a n;have D:=q b s;rw[g]at z D;by_cases k:a=d
  .exact⟨b,by have:=o b;grind,s⟩
  .exact⟨a,by have:=o a;grind,n⟩)
 subst y;refine⟨c,d,m++f++A,B,⟨A++d::B,c::m++f,?_,Y⟩,F,H,fun w e k=>?_,?_,?_⟩
 .have:u::(j++v::f)=u::(j++[v])++f:=Y;rw[this,g];simp
 .rcases am.1 e with e|e
  .rcases am.1 e with e|e
   .exact E w e k
   .exact r w k e
  .exact o w e k
 .cases A with
  |nil=>simp at g;simp[g.1]
  |cons x A=>simp at g;simp[g.1]
 .have:=congrArg List.reverse g;cases h:m.reverse with
  |nil=>simp[h]at this;simp[this.1]
  |cons x C => 
   simp[h]at this;have I:x∈m:=by rw[<- iu,h];simp
   simp[this.1,I]
theorem Zj{A B p q:Nat}(h:dP A B p q)(a:A<=n)(c:p<=n)(d:q<=n)(b:n<B)(e:p≠0)(f:q≠0):dP A 0 p q:=by unfold dP dh at *;omega
theorem ZE{A B p q:Nat}(h:dP A B p q)(a:A<=n)(c:p<=n)(d:q<=n)(b:n<B)(e:p≠n)(f:q≠n):dP A n p q:=by unfold dP dh at *;omega
theorem Rz{A B p q:Nat}(h:dP A B p q):dP B A p q:=by unfold dP dh at *;omega
theorem ZU{A B p q:Nat}(a:n<A)(b:n<B)(c:p<=n)(d:q<=n):¬dP A B p q:=by unfold dP dh at *;omega
theorem GN{c d w:Int}{P Q:PP}(h:w∈c::(P++d::Q)):w∈c::(P++[d])\/w∈Q:=by grind
theorem Ex(l:PP)(a:Int->Prop):∃ F:PP,∀ w,w∈F↔w∈l/\a w:=
 open Classical in ⟨l.filter fun z=>decide (a z),fun w=>by simp⟩
section
variable {E:List Ed} (hM:Mn E) {c d:Int} {P Q:List Int} {u v:Int} (hC:Ch E (c::(P++d::Q)) u v) {T2:(Int->Prop)×(Int->Prop)} (h2:At' E (c::(P++d::Q)) T2) (hne2:T2≠eT u v) (hc:T2.2 c) (hd:T2.2 d) (huP:u∈c::(P++[d])) (hvP:v∈c::(P++[d])) (hP0:P≠[])
include hM hC h2 hne2 hc hd huP hvP hP0
theorem WK:∃ M:PP,Ch E (c::(P++d::M.reverse)) u v/\M.Nodup/\(∀ w∈M,T2.1 w)/\(∀ w∈M,w∉c::(P++d::Q))/\(∀ a b,(a,b)∈ad (c::(M++[d]))->∃ e∈E,ae e=aj a b/\ml T2 e):=by
 have hn:=hC.ri.nd;have T:=rX hM.tc.ne hC.ri h2;have N:=rQ hM.tc hC.ri h2;have H:c≠d:=by grind
 obtain⟨x,X⟩:=N.dart hM.tc.ne hc;obtain⟨y,hy⟩:=N.dart hM.tc.ne hd;obtain⟨M,z,r,w3,w4,V⟩:=N.way hM.tc.ne T.by' X hy H;have f:∀ w∈M,w∉c::(P++d::Q):=fun w o k=>T.off w k (r w o);have s:M.Nodup:=(bo.1 (bw.1 z.nd).2).1;have I:(c::(P++d::M.reverse)).Nodup:=by
  have:∀ w∈M.reverse,w∉c::(P++[d]):=fun w o k=>f w (iu.1 o) (by grind);have W:(c::(P++[d])).Nodup:=by grind
  have C:M.reverse.Nodup:=(ik M).nodup_iff.2 s;have e:c::(P++d::M.reverse)=(c::(P++[d]))++M.reverse:=Y;rw[e];exact bo.2 ⟨W,C,fun a D b F e=>this b F (e ▸ D)⟩
 have o:∀ a b,(a,b)∈ad (c::(M++[d]))->(a∈M\/b∈M)\/(M=[]/\a=c/\b=d):=fun a b k=>by
  cases t:M with
  |nil=>rw[t]at k;simp[ad]at k;exact .inr ⟨rfl,k⟩
  |cons m M'=>
   left;rw[<- t];rcases ai.1 (eO (y:=d) (l:=c::M) k)with rfl|i
   .rcases am.1 (iI k)with j|j
    .exact .inr j
    .rw[bi]at j;subst j;have C:(a,m)∈ad (a::(M++[b])):=by rw[t];simp[ad]
     exact .inr (by rw[eR z.nd k C,t];simp)
   .exact .inl i
 have R:∀ a b,(a,b)∈ad (c::(M++[d]))->∃ e∈E,ae e=aj a b/\ml T2 e:=fun a b k=>by
  obtain⟨e,S,i⟩:=z.ed a b k;refine⟨e,S,i,?_⟩;have:=aN (u:=e.a) (v:=e.b) (x:=a) (y:=b) i;rcases o a b k with j|⟨J,K,L⟩
  .rcases this with⟨g,h⟩|⟨g,h⟩
   .rcases j with j|j
    .exact .inl (by rw[g];exact r a j)
    .exact .inr (.inl (by rw[h];exact r b j))
   .rcases j with j|j
    .exact .inr (.inl (by rw[h];exact r a j))
    .exact .inl (by rw[g];exact r b j)
  .have B:∀ w,¬T2.1 w:=fun w q=>V ⟨w,q⟩ J;refine .inr (.inr ⟨B,?_⟩);rcases this with⟨g,h⟩|⟨g,h⟩<;>rw[g,h,K,L]
   .exact⟨hc,hd⟩
   .exact⟨hd,hc⟩
 have A:∀ p,p∈ad (c::(P++[d]))->p∈prs (c::(P++d::Q)):=fun p k=>bH.2 (.inl k);have n:∀ a b,(a,b)∈prs (c::(P++d::M.reverse))->(a,b)∈prs (c::(P++d::Q))\/(b,a)∈ad (c::(M++[d])):=fun a b k=>by
  rcases bH.1 k with k|k
  .exact .inl (A _ k)
  .exact .inr (jR.1 k)
 have U:∀ w,w∈c::(P++[d])->w∈c::(P++d::Q):=fun w k=>by grind
 have off:∀ a b,a∈c::(P++[d])->b∈c::(P++[d])->(a=u/\b=v\/a=v/\b=u)->(a,b)∉ad (c::(M++[d])):=fun a b D F r9 k=>by
  rcases o a b k with j|⟨J,K,L⟩
  .rcases j with j|j
   .exact f a j (U a D)
   .exact f b j (U b F)
  .have B:∀ w,¬T2.1 w:=fun w q=>V ⟨w,q⟩ J;obtain⟨e,S,i⟩:=hC.ed;refine Ch.tch hM hC h2 hne2 i (.inr (.inr ⟨B,?_⟩));subst K L;rcases aN (u:=e.a) (v:=e.b) (x:=u) (y:=v) i with⟨g,h⟩|⟨g,h⟩<;>rw[g,h]<;>rcases r9 with⟨rfl,rfl⟩|⟨rfl,rfl⟩
   .exact⟨hc,hd⟩
   .exact⟨hd,hc⟩
   .exact⟨hd,hc⟩
   .exact⟨hc,hd⟩
 refine⟨M,⟨⟨I,?_,fun a b k=>?_⟩,by grind,by grind,hC.ne,hC.ed,fun k=>?_,fun k=>?_⟩,s,r,f,R⟩
 .have:=jg.2 hP0;simp;omega
 .rcases n a b k with k|k
  .exact hC.ri.ed a b k
  .exact dQ (z.ed b a k)
 .rcases n u v k with k|k
  .exact hC.no.1 k
  .exact off v u hvP huP (.inr ⟨rfl,rfl⟩) k
 .rcases n v u k with k|k
  .exact hC.no.2 k
  .exact off u v huP hvP (.inl ⟨rfl,rfl⟩) k
end
section
variable {E:List Ed} (hM:Mn E) {c d:Int} {P Q M:List Int} {u v:Int} (hC:Ch E (c::(P++d::Q)) u v) (hC':Ch E (c::(P++d::M.reverse)) u v) {T2:(Int->Prop)×(Int->Prop)} (h2:At' E (c::(P++d::Q)) T2)
 (hMn:M.Nodup) (hMT:∀ w∈M,T2.1 w) (hMr:∀ w∈M,w∉c::(P++d::Q)) (hMe:∀ a b,(a,b)∈ad (c::(M++[d]))->∃ e∈E,ae e=aj a b/\ml T2 e)
include hM hC hC' h2 hMn hMT hMr hMe
theorem XY{X:(Int->Prop)×(Int->Prop)}(h:At' E (c::(P++d::Q)) X)(Tv:X≠T2)(R:∀ w,X.2 w->w∈c::(P++[d])):At' E (c::(P++d::M.reverse)) X:=by
 have p:=IC h h2 Tv;have T:=rX hM.tc.ne hC.ri h;have K:=rX hM.tc.ne hC.ri h2;have U:=rQ hM.tc hC.ri h2;have A:=h;obtain⟨b,F,rfl⟩:=h;refine⟨b,⟨fun w l=>⟨by have:=R w l;grind,(F.en w l).2⟩,?_⟩,rfl⟩;rcases F.kind with⟨s,e,H,m,n⟩|⟨s,m,n⟩
 .refine .inl ⟨s,e,H,fun q=>?_,n⟩;have B:e.a∈b.ends:=by rw[n];simp
  have C:e.b∈b.ends:=by rw[n];simp
  rw[show ae e=aj e.a e.b from rfl,kM]at q m;have r:∀ x y,(x,y)∈ad (c::(M++[d]))->aj x y=aj e.a e.b->False:=fun x y k i=>by
   obtain⟨f,hf,j,S⟩:=hMe x y k;have:f=e:=hM.tc.sim_eq hf H (j.trans i);subst this;have o:∀ w,(tb b).2 w->w∈c::(P++d::Q):=fun w l=>T.on w l;rcases S with t|t|⟨L,D,V⟩
   .exact K.off _ (o _ B) t
   .exact K.off _ (o _ C) t
   .refine Tv ?_;have J:=rQ hM.tc hC.ri A;rcases U.kind with⟨g,hg,_,z⟩|⟨⟨w,z⟩,_⟩
    .have W:=(z f.a).1 D;have gb:=(z f.b).1 V;have I:=hM.tc.ne f hf;have:T2=(T2.1,T2.2):=rfl;rw[this];unfold tb;rw[fj];refine⟨funext fun w=>propext ⟨fun i=>by simp[s]at i,fun i=>absurd i (L w)⟩,funext fun w=>propext ?_⟩;rw[z w,n];simp
     grind
    .exact(L w z).elim
  rcases q with q|q
  .rcases bH.1 q with q|q
   .exact m (.inl (bH.2 (.inl q)))
   .exact r _ _ (jR.1 q) (aH _ _)
  .rcases bH.1 q with q|q
   .exact m (.inr (bH.2 (.inl q)))
   .exact r _ _ (jR.1 q) rfl
 .refine .inr ⟨s,fun w l=>⟨(m w l).1,fun k=>?_⟩,n⟩;have N:=(m w l).2;by_cases q:w∈M
  .exact p w l (hMT w q)
  .exact N (by grind)
theorem Uo{X a:Int->Prop}(b:∀ w,X w->w∈c::(P++[d]))(e:∀ w,a w->w∈c::(P++[d]))(h:¬Avo (c::(P++d::Q)) X a):¬Avo (c::(P++d::M.reverse)) X a:=fun k=>h (k.mono (fun _=>id) (fun _=>id) fun p q r f g j=>
 (Tf hC.ri.nd hMn hMr (f.elim (b p) (e p)) (g.elim (b q) (e q)) (j.elim (b r) (e r))).2)
theorem merged(hQ:Q≠[]):∃ S,At' E (c::(P++d::M.reverse)) S/\S.2 c/\S.2 d/\(∃ w,w∈Q/\S.1 w)/\∀ f,At' E (c::(P++d::Q)) f->f≠T2->(∃ t,f.2 t/\t∈Q)->∀ m,f.2 m->m∈c::(P++[d])->S.2 m:=by
 have hn:=hC.ri.nd;obtain⟨o,Q',H⟩:=nm hQ;have s:o∈Q:=by rw[H];simp
 have n9:∀ w,w∈Q->w∉c::(P++d::M.reverse):=fun w y k=>by
  have R:w∈c::(P++d::Q):=by grind
  have:=hMr w
  grind
 have c7:Rw' E Q:=fun a b k=>hC.ri.ed a b (bH.2 (.inr (kL [d] (uI [c] k))));let g:Int->Prop:=fun z=>RIn E (fun w=>w∉c::(P++d::M.reverse)) o z;have r:∀ w∈Q,g w:=fun w y=>Be c7 (fun w y=>n9 w y) o s w y;have D:∀ z,g z->z∈af E:=fun z n=>by
  cases n with
  |refl h=>
   have R:o∈c::(P++d::Q):=by grind
   obtain⟨x,hx⟩:=gK R;obtain⟨e,W,i⟩:=hC.ri.ed o x hx;exact(bN W i).1
  |step h n hs=>exact AH n
 obtain⟨U,j⟩:=Ex (af E) g;obtain⟨L2,A⟩:=Ex (af E) fun w=>w∈c::(P++d::M.reverse)/\∃ z,g z/\w∈nbr E z;refine⟨tb ⟨U,L2⟩,?_,?_⟩
 .refine⟨_,⟨fun w y=>?_,.inr ⟨?_,fun w y=>?_,fun p C q F=>?_,fun p C q F=>?_,fun q F=>?_⟩⟩,rfl⟩
  .exact⟨((A w).1 y).2.1,((A w).1 y).1⟩
  .exact kc ((j o).2 ⟨D o (r o s),r o s⟩)
  .have:=(j w).1 y;exact⟨this.1,this.2.here.2⟩
  .have n:∀ z,g z->RIn E (fun z=>z∈U) o z:=fun z n=>by
    have T:∀ z,g z->z∈U:=fun z n=>(j z).2 ⟨D z n,n⟩;induction n with
    |refl h=>exact .refl (T _ (.refl h))
    |@step a b h n hs ih=>exact .step ih n (T _ (.step h n hs))
   exact(n p ((j p).1 C).2).symm.trans (n q ((j q).1 F).2)
  .have C:g p:=((j p).1 C).2;by_cases k:q∈c::(P++d::M.reverse)
   .exact .inr ((A q).2 ⟨AH F,k,p,C,F⟩)
   .have:g q:=.step C F k;exact .inl ((j q).2 ⟨AH F,this⟩)
  .obtain⟨_,_,z,n,k⟩:=(A q).1 F;exact⟨z,(j z).2 ⟨D z n,n⟩,k⟩
 .have ends:∀ w,w∈c::(P++[d])->(∃ z,g z/\w∈nbr E z)->w∈L2:=fun w y k=>by obtain⟨z,n,i⟩:=k;exact(A w).2 ⟨AH i,by grind,z,n,i⟩
  refine⟨ends c Y ?_,ends d Y ⟨o,r o s,?_⟩,⟨o,s,(j o).2 ⟨D o (r o s),r o s⟩⟩,fun f hY Tv ⟨t,ht,K⟩ m hm hmP=>ends m hmP ?_⟩
  .obtain⟨N,l,e⟩:∃ N l,Q=N++[l]:=⟨_,_,(lf hQ).symm⟩;have:(l,c)∈prs (c::(P++d::Q)):=bH.2 (.inr (by rw[e,dw,show [l]++[c]=[l,c] from rfl,<- List.cons_append,mN];simp));exact⟨l,r l (by rw[e];simp),cF.2 (hC.ri.ed l c this)⟩
  .have:(d,o)∈prs (c::(P++d::Q)):=bH.2 (.inr (by rw[H];simp[ad]));exact cF.2 (dQ (hC.ri.ed d o this))
  .have tY:=rQ hM.tc hC.ri hY;have kY:=rX hM.tc.ne hC.ri hY;have J:=IC hY h2 Tv;have L:t≠m:=fun e=>by subst e;grind
   rcases tY.kind with⟨e,W,_,z⟩|⟨_,z2,z3⟩
   .refine⟨t,r t K,cF.2 ⟨e,W,?_⟩⟩;show aj e.a e.b=_;have a1:=(z t).1 ht;have a2:=(z m).1 hm;rcases a1 with rfl|rfl<;>rcases a2 with rfl|rfl
    .exact absurd rfl L
    .rfl
    .exact aH _ _
    .exact absurd rfl L
   .obtain⟨p,C,k⟩:=z3 t ht;obtain⟨p',X,k'⟩:=z3 m hm;have B:∀ w,f.1 w->w∉c::(P++d::M.reverse):=fun w y q=>by
     have h1:=fun i=>kY.off w i y;have h3:=J w y;have:=hMT w
     grind
    have V:g p:=.step (r t K) (mH k) (B p C);have I:g p':=V.trans ((z2 p p' C X).mono B);exact⟨p',I,k'⟩
theorem DZ{S f X:Int->Prop}(t:∀ w,X w->w∈c::(P++[d]))(hY:∀ w,f w->w∈c::(P++d::Q))(j:∀ m,f m->m∈c::(P++[d])->S m)(R:S c)(T:S d)(C:¬(X c/\X d))(h:¬Avo (c::(P++d::Q)) f X):¬Avo (c::(P++d::M.reverse)) S X:=fun hA=>by
 have l:=hC.ri.nd;have up:∀ x y p q,S x->S y->X p->X q->x∈c::(P++[d])->y∈c::(P++[d])->¬Cr (c::(P++d::Q)) x y p q:=fun x y p q hx hy hp hq mx my g=>by
  refine hA.no x y p q hx hy hp hq (g.mono fun a b e n o he=>?_);have U:∀ w∈[x,y,p,q],w∈c::(P++[d]):=by have:=t p hp;have:=t q hq;simp only[rf];exact⟨mx,my,by assumption,by assumption,Y⟩
  exact(Tf l hMn hMr (U a n) (U b o) (U e he)).2
 have half:∀ a b p q,f a->f b->X p->X q->a∈c::(P++[d])->b∈Q->¬Cr (c::(P++d::Q)) a b p q:=fun a b p q z B r s I mb g=>by
  have h1:=g.2;have K:=(LJ l mb).2;have J:=(Ck l I).2.2;have L:=(Ck l (t p r)).2.2;have N:=(Ck l (t q s)).2.2;obtain⟨V,W⟩:=Mw l;have A:c≠d:=fun e=>by rw[e]at l;simp at l
  have jp:=@gA (c::(P++d::Q)) p d g.1.2.2.1;have jq:=@gA (c::(P++d::Q)) q d g.1.2.2.2;have ip:=@gA (c::(P++d::Q)) p c g.1.2.2.1;have iq:=@gA (c::(P++d::Q)) q c g.1.2.2.2;by_cases k:p=c\/q=c
  .have kd:p≠d/\q≠d:=⟨fun e=>k.elim (fun k=>A (k.symm.trans e)) fun k=>C ⟨k ▸ s,e ▸ r⟩,fun e=>k.elim (fun k=>C ⟨k ▸ r,e ▸ s⟩) fun k=>A (k.symm.trans e)⟩;refine up a d p q (j a z I) T r s I Y ⟨⟨g.1.1,Y,g.1.2.2⟩,?_⟩;rw[W];exact ZE h1 J L N K (fun e=>kd.1 (jp (e.trans W.symm))) fun e=>kd.2 (jq (e.trans W.symm))
  .refine up a c p q (j a z I) R r s I Y ⟨⟨g.1.1,Y,g.1.2.2⟩,?_⟩;rw[V];exact Zj h1 J L N K (fun e=>k (.inl (ip (e.trans V.symm)))) fun e=>k (.inr (iq (e.trans V.symm)))
 refine h ⟨fun a b p q z B r s g=>?_,fun a b e z B ke D F H=>?_⟩
 .have n:a∈c::(P++[d])\/a∈Q:=GN (hY a z);have o:b∈c::(P++[d])\/b∈Q:=GN (hY b B);rcases n with n|n<;>rcases o with o|o
  .exact up a b p q (j a z n) (j b B o) r s n o g
  .exact half a b p q z B r s n o g
  .refine half b a p q B z r s o n ?_;exact⟨⟨g.1.2.1,g.1.1,g.1.2.2⟩,Rz g.2⟩
  .have J:=(LJ l n).2;have K:=(LJ l o).2;have L:=(Ck l (t p r)).2.2;have N:=(Ck l (t q s)).2.2;exact ZU J K L N g.2
 .exact hA.three a b e (j a z (t a D)) (j b B (t b F)) (j e ke (t e H)) D F H
end
structure wl(E:QR)(r:PP)(u v:Int)(A B:(Int->Prop)×(Int->Prop)):Prop where
 ch:Ch E r u v
 a:At' E r A/\A≠eT u v/\¬Avo r A.2 (eT u v).2
 b:At' E r B/\B≠eT u v/\¬Avo r B.2 (eT u v).2
 ab:A≠B/\¬Avo r A.2 B.2
theorem U4(I:Mn E){u:Int}(j:Ch E r u v)(C:At' E r T)(D:Avo r T.2 (eT u v).2):∃ c d P Q,Rt r (c::(P++d::Q))/\T.2 c/\T.2 d/\(∀ w∈P,¬T.2 w)/\u∈c::(P++[d])/\v∈c::(P++[d]):=by
 have X:=rQ I.tc j.ri C;have W:=rX I.tc.ne j.ri C;obtain⟨a,b,J,K,L⟩:=X.two;obtain⟨M,e⟩:∃ M:PP,∀ w,T.2 w↔w∈M:=by obtain⟨b,_,rfl⟩:=C;exact⟨b.ends,fun w=>lq⟩
 obtain⟨x,y,h,g,N,R⟩:=uK j.hu j.hv j.ne;have n:Rt r (u::(h++v::g)):=⟨x,y,N,R.symm⟩;have S:(u::(h++v::g)).Nodup:=n.nd.2 j.ri.nd;have l:=(rM j.ri.nd n T.2 (eT u v).2).2 D;have m:∀ w∈M,w∈u::(h++v::g):=fun w f=>(n.mem w).2 (W.on w ((e w).2 f));have swap:Rt (u::(h++v::g)) (v::(g++u::h)):=⟨u::h,v::g,Y,Y⟩;by_cases k:∀ w∈M,w∉g
 .obtain⟨c,d,P,Q,o,p,s,t,A,B⟩:=I7 k m ((e a).1 J) ((e b).1 K) L;exact⟨c,d,P,Q,n.trans o,(e c).2 p,(e d).2 s,fun w f q=>t w f ((e w).1 q),A,B⟩
 .have V:∀ w∈M,w∉h:=fun w f F=>by obtain⟨z,U,H⟩:∃ z∈M,z∈g:=dq fun q=>k fun w f i=>q ⟨w,f,i⟩;exact l.no w z u v ((e w).2 f) ((e z).2 U) (.inl rfl) (.inr rfl) (rS (rE S F H))
  obtain⟨c,d,P,Q,o,p,s,t,A,B⟩:=I7 V (fun w f=>(swap.mem w).2 (m w f)) ((e a).1 J) ((e b).1 K) L;exact⟨c,d,P,Q,(n.trans swap).trans o,(e c).2 p,(e d).2 s,fun w f q=>t w f ((e w).1 q),B,A⟩
theorem Pw.rt{E:QR}{r d:PP}{u v:Int}{n:Nat}{T:Nat->(Int->Prop)×(Int->Prop)}(c:r.Nodup)(h:Pw E r u v n T)(k:Rt r d):Pw E d u v n T:=
 ⟨h.pos,fun i a b=>⟨(h.at' i a b).1.rt k,(h.at' i a b).2⟩,fun i a b=>⟨(h.con i a b).1,fun q=>(h.con i a b).2 ((rM c k _ _).1 q)⟩,fun q=>h.one ((rM c k _ _).1 q)⟩
theorem Ts{C D:Int->Prop}(h:¬Avo r C D):¬Avo r D C:=fun k=>h k.symm
section
variable {E:List Ed} (hM:Mn E)
include hM
theorem Pw.less{c d:Int}{P Q:PP}{u v:Int}{n:Nat}{T:Nat->(Int->Prop)×(Int->Prop)}(y:Ch E (c::(P++d::Q)) u v)(f:Pw E (c::(P++d::Q)) u v n T)(L:4<=n)(hl:¬Avo (c::(P++d::Q)) (T n).2 (eT u v).2)
 (N1:∀ i,1<i->i<n->Avo (c::(P++d::Q)) (T i).2 (eT u v).2) (N2:∀ i j,1<=i->i+2<=j->j<=n->T i≠T j/\Avo (c::(P++d::Q)) (T i).2 (T j).2)
 (hc:(T 2).2 c) (hd:(T 2).2 d) (hP:∀ w∈P,¬(T 2).2 w) (hu:u∈c::(P++[d])) (hv:v∈c::(P++[d])):∃ r' T',Ch E r' u v/\Pw E r' u v (n-2) T'/\¬Avo r' (T' (n-2)).2 (eT u v).2:=by
 have C:=y.ri.nd;have A:∀ i,1<=i->i<=n->∀ w,(T i).2 w->w∈c::(P++d::Q):=fun i o g=>(rX hM.tc.ne y.ri (f.at' i o g).1).on;have eX:∀ w,(eT u v).2 w->w∈c::(P++[d]):=fun w f=>by rcases f with rfl|rfl;exact hu;exact hv
 have t2X:∀ w,(T 2).2 w->w∈c::(P++d::Q)/\w∉P:=fun w h=>⟨A 2 O O w h,fun k=>hP w k h⟩;have inside:∀(a X:Int->Prop),(∀ w,a w->w∈c::(P++d::Q))->(∀ w,X w->w∈c::(P++[d]))->¬Avo (c::(P++d::Q)) a X->Avo (c::(P++d::Q)) a (T 2).2->∀ w,a w->w∈c::(P++[d]):=fun a X hY hX o g w f=>by
  obtain⟨m,hm,hmP⟩:=HG C hX hY o;rcases GN (hY w f)with k|k
  .exact k
  .exact absurd g (ZS C hc hd hm f hmP k)
 have stay:∀ k,k<=n-4->∀ w,(T (n-k)).2 w->w∈c::(P++[d]):=fun k=>by
  induction k with
  |zero=>intro _;exact inside _ _ (A n O O) eX hl (N2 2 n O O O).2.symm
  |succ k ih=>
   intro hk;refine inside _ (T (n-k)).2 (A _ O O) (ih O) ?_ (N2 2 (n-(k+1)) O O O).2.symm;have:=(f.con (n-(k+1)) O O).2
   rwa [show n-(k+1)+1=n-k by omega]at this
 have b:∀ i,4<=i->i<=n->∀ w,(T i).2 w->w∈c::(P++[d]):=fun i o g=>by
  have:=stay (n-i) O
  rwa [show n-(n-i)=i by omega]at this
 have I:=f.con 1 O O;have J:=f.con 2 O O;have K:=f.con 3 O O;obtain⟨m1,hm1,B⟩:=HG C eX (A 1 O O) f.one;obtain⟨m3,hm3,U⟩:=HG C (b 4 O L) (A 3 O O) K.2;obtain⟨t1,V,x⟩:=Hf C t2X (A 1 O O) I.2;obtain⟨t3,W,D⟩:=Hf C t2X (A 3 O O) (Ts J.2);have F:=f.at' 2 O O;obtain⟨M,l,r,p,s,q⟩:=WK hM y F.1 F.2 hc hd hu hv (kc B);obtain⟨S,hS,N,R,⟨z,hzQ,H⟩,hSY⟩:=merged hM y l F.1 r p s q (kc x);have ne:∀ i,i≠2->1<=i->i<=n->T i≠T 2:=fun i o g h3=>by
  by_cases k:i=1
  .subst k;exact I.1
  .by_cases k3:i=3
   .subst k3;exact J.1.symm
   .exact(N2 2 i O O h3).1.symm
 have mS:∀ i,i≠2->1<=i->i<=n->(∃ t,(T i).2 t/\t∈Q)->∀ m,(T i).2 m->m∈c::(P++[d])->S.2 m:=fun i o g h3=>hSY _ (f.at' i g h3).1 (ne i o g h3)
 have s4:¬Avo (c::(P++d::M.reverse)) S.2 (T 4).2:=DZ hM y l F.1 r p s q (b 4 O L) (A 3 O O) (mS 3 O O O ⟨t3,W,D⟩) N R
  (fun k=>ZS C k.1 k.2 hm1 V B x (N2 1 4 O O L).2) K.2
 have sE:¬Avo (c::(P++d::M.reverse)) S.2 (eT u v).2:=DZ hM y l F.1 r p s q eX (A 1 O O) (mS 1 O O O ⟨t1,V,x⟩) N R
  (fun k=>ZS C k.1 k.2 hm3 W U D (N1 3 O O)) f.one
 have stA:∀ i,4<=i->i<=n->At' E (c::(P++d::M.reverse)) (T i):=fun i o g=>XY hM y l F.1 r p s q (f.at' i O g).1 (ne i O O g) (b i o g);have av:∀ {X a:Int->Prop},(∀ w,X w->w∈c::(P++[d]))->(∀ w,a w->w∈c::(P++[d]))->¬Avo (c::(P++d::Q)) X a->¬Avo (c::(P++d::M.reverse)) X a:=fun hX hY h=>Uo hM y l F.1 r p s q hX hY h;have hzr:z∈c::(P++d::Q):=by simp[hzQ]
 have hS4:S≠T 4:=fun e=>(rX hM.tc.ne y.ri (f.at' 4 O L).1).off z hzr (e ▸ H);have hSe:S≠eT u v:=fun e=>by rw[e]at H;exact H
 refine⟨_,fun i=>if i=1 then S else T (i+2),l,⟨O,fun i o g=>?_,fun i o g=>?_,by simpa using sE⟩,?_⟩
 .by_cases k:i=1
  .rw[ac k];exact⟨hS,hSe⟩
  .rw[aa k];exact⟨stA (i+2) O O,(f.at' (i+2) O O).2⟩
 .by_cases k:i=1
  .subst k;exact⟨hS4,s4⟩
  .rw[aa k,aa O];have:=f.con (i+2) O O;exact⟨this.1,av (b _ O O) (b _ O O) this.2⟩
 .show ¬Avo _ (if n-2=1 then S else T (n-2+2)).2 _;rw[aa O,show n-2+2=n by omega];exact av (b n L (au _)) eX hl
theorem Ch.tri:∀(N n:Nat) {r:PP} {u v:Int} {T:Nat->(Int->Prop)×(Int->Prop)},n<=N->Ch E r u v->Pw E r u v n T->n % 2=0->¬Avo r (T n).2 (eT u v).2->∃ r u v A B,wl E r u v A B
 |0,n,r,u,v,T,hN,hC,hw,_,_=>by have:=hw.pos;omega
 |N+1,n,r,u,v,T,hN,hC,hw,h2,hl=>by
  by_cases C:n=2
  .subst C;exact⟨r,u,v,T 1,T 2,hC,⟨(hw.at' 1 O O).1,(hw.at' 1 O O).2,hw.one⟩,⟨(hw.at' 2 O O).1,(hw.at' 2 O O).2,hl⟩,hw.con 1 O O⟩
  have C:4<=n:=by have:=hw.pos;omega
  obtain⟨side,g⟩:=Ch.sides hM hC;have w:∀ k i,1<=i->i+k<=n->(side (T (i+k))↔(side (T i)↔k % 2=0)):=fun k=>by
   induction k with
   |zero=>intro i _ _;simp
   |succ k I=>intro i a f;have b:=I i a O;have c:=hw.con (i+k) O O;have l:=g _ _ (hw.at' (i+k) O O).1 (hw.at' (i+k+1) O O).1 (hw.at' (i+k) O O).2 (hw.at' (i+k+1) O O).2 c.1 c.2;have m:(k+1) % 2=0↔¬k % 2=0:=O;rw[show i+(k+1)=i+k+1 by omega,m];clear c m I;by_cases q:k % 2=0<;>simp only[q]at b ⊢<;>grind
  have o:∀ i,1<i->i<n->¬Avo r (T i).2 (eT u v).2->∃ r u v A B,wl E r u v A B:=fun i a f b=>by
   by_cases q:i % 2=0
   .exact Ch.tri N i O hC ⟨O,fun j h s=>hw.at' j h O,fun j h s=>hw.con j h O,hw.one⟩ q b
   .refine Ch.tri N (n-i+1) (T:=fun j=>T (j+i-1)) O hC ⟨O,fun j h s=>hw.at' _ O O,fun j h s=>?_,?_⟩ O ?_
    .have:=hw.con (j+i-1) O O
     rwa [show j+i-1+1=j+1+i-1 by omega]at this
    .simpa[show 1+i-1=i by omega]using b
    .simpa[show n-i+1+i-1=n by omega]using hl
  have p:∀ i j,1<=i->i+2<=j->j<=n->T i≠T j->¬Avo r (T i).2 (T j).2->∃ r u v A B,wl E r u v A B:=fun i j a f b l m=>by
   have W:=g _ _ (hw.at' i a O).1 (hw.at' j O b).1 (hw.at' i a O).2 (hw.at' j O b).2 l m;have y:=w (j-i) i a O;rw[show i+(j-i)=j by omega]at y;have H:¬(j-i) % 2=0:=fun q=>by simp only[q]at y;grind
   refine Ch.tri N (n-(j-i-1)) (T:=fun k=>if k<=i then T k else T (k+(j-i-1))) O hC ⟨O,fun k h s=>?_,fun k h s=>?_,?_⟩ O ?_
   .by_cases q:k<=i
    .rw[ac q];exact hw.at' k h O
    .rw[aa q];exact hw.at' _ O O
   .by_cases q:k+1<=i
    .rw[ac O,ac q];exact hw.con k h O
    .by_cases U:k=i
     .rw[ac O,aa q,U,show i+1+(j-i-1)=j by omega];exact⟨l,m⟩
     .rw[aa O,aa q];have:=hw.con (k+(j-i-1)) O O
      rwa [show k+(j-i-1)+1=k+1+(j-i-1) by omega]at this
   .rw[ac a];exact hw.one
   .rw[aa O,show n-(j-i-1)+(j-i-1)=n by omega];exact hl
  by_cases J:∃ i,1<i/\i<n/\¬Avo r (T i).2 (eT u v).2
  .obtain⟨i,a,f,b⟩:=J;exact o i a f b
  by_cases K:∃ i j,1<=i/\i+2<=j/\j<=n/\T i≠T j/\¬Avo r (T i).2 (T j).2
  .obtain⟨i,j,a,f,b,l,m⟩:=K;exact p i j a f b l m
  have z:∀ i,1<i->i<n->Avo r (T i).2 (eT u v).2:=fun i a f=>dq fun q=>J ⟨i,a,f,q⟩;have D:∀ i j,1<=i->i+2<=j->j<=n->T i≠T j->Avo r (T i).2 (T j).2:=fun i j a f b l=>dq fun q=>K ⟨i,j,a,f,b,l,q⟩;have F:∀ i j,1<=i->i+2<=j->j<=n->T i≠T j:=fun i j a f b e=>by
   by_cases q:j=n
   .subst q;by_cases S:i=1
    .subst S;have y:=w (j-1) 1 O O;rw[show 1+(j-1)=j by omega,<- e]at y;have:¬(j-1) % 2=0:=O
     grind
    .exact hl (e ▸ z i O O)
   .have c:=hw.con j O O;exact c.2 (e ▸ D i (j+1) a O O (e ▸ c.1))
  obtain⟨c,d,P,Q,t,b,l,m,L,M⟩:=U4 hM hC (hw.at' 2 O O).1 (z 2 O O);have x:=hC.ri.nd;obtain⟨X,V,h,s,R⟩:=Pw.less hM (hC.rt t) (hw.rt x t) C (fun q=>hl ((rM x t _ _).1 q)) (fun i a f=>(rM x t _ _).2 (z i a f)) (fun i j a f b=>⟨F i j a f b,(rM x t _ _).2 (D i j a f b (F i j a f b))⟩) b l m L M;exact Ch.tri N (n-2) O h s O R
theorem Mn.tri:∃ r u v A B,wl E r u v A B:=by obtain⟨r,u,v,b,c,d,e,f,g,h⟩:=F8 hM.tc.ne (zx (by have:=hM.tc.two;omega)) hM.deg;have a:Ch E r u v:=⟨b,c,d,e,f,g,h⟩;obtain⟨n,T,j,k,l⟩:=Ch.row hM a;exact Ch.tri hM n n (au _) a j k l
end
theorem Rw'.app(h:Rw' E (A++[x]))(k:Rw' E (x::B)):Rw' E (A++x::B):=fun a b q=>by rw[fR]at q;exact(am.1 q).elim (h a b) (k a b)
theorem Rw'.rev(h:Rw' E (x::(W++[y]))):Rw' E (y::(W.reverse++[x])):=fun a b q=>dQ (h b a (jR.1 q))
structure Ps(E:QR)(br:PP)(ps:List (Int×PP×Int)):Prop where
 nd:(br++ps.flatMap fun p=>p.2.1).Nodup
 at':∀ p∈ps,p.1∈br/\p.2.2∈br
 row:∀ p∈ps,Rw' E (p.1::(p.2.1++[p.2.2]))
theorem Ps.inner{a:List (Int×PP×Int)}(h:Ps E m a){p:Int×PP×Int}(b:p∈a):p.2.1.Nodup/\(∀ w∈p.2.1,w∉m)/\∀ q∈a,∀ w∈p.2.1,w∈q.2.1->p=q:=by
 obtain⟨t,n,o⟩:=bo.1 h.nd;have r:∀ a:List (Int×PP×Int),(a.flatMap fun p=>p.2.1).Nodup->∀ p∈a,∀ q∈a,∀ w∈p.2.1,w∈q.2.1->p=q:=fun a=>by
  induction a with
  |nil=>intro _ p b;cases b
  |cons x a s=>
   intro j p b q l w g c;rw[dt,bo]at j;rcases ai.1 b with d|d<;>rcases ai.1 l with e|e
   .rw[d,e]
   .exact absurd rfl (j.2.2 w (d ▸ g) w (fu.2 ⟨q,e,c⟩))
   .exact absurd rfl (j.2.2 w (e ▸ c) w (fu.2 ⟨p,d,g⟩))
   .exact s j.2.1 p d q e w g c
 refine⟨?_,fun w g k=>o w k w (fu.2 ⟨p,b,g⟩) rfl,fun q l=>r a n p b q l⟩;have:=mm (dd (f:=fun p:Int×PP×Int=>p.2.1) b);rw[<- List.flatMap_def]at this;exact this.nodup n
theorem Ps.exact{E:QR}(Q:Mn E){L:PP}{j:List (Int×PP×Int)}(h:Ps E L j)(Tv:∀ p∈j,p.1≠p.2.2)(t:∀ K s,PlE K s->¬Ps K L j):(∀ p∈j,p.2.1=[]/\∃ e∈E,ae e=aj p.1 p.2.2)/\∀ e∈E,∃ p∈j,ae e=aj p.1 p.2.2:=by
 have P:∀ e∈E,∃ p∈j,∃ x y,(x,y)∈ad (p.1::(p.2.1++[p.2.2]))/\ae e=aj x y:=fun e l=>dq fun J=>by obtain⟨s,W⟩:=Q.min e l;refine t _ s W ⟨h.nd,h.at',fun p d a b k=>?_⟩;obtain⟨f,hf,i⟩:=h.row p d a b k;exact⟨f,dW.2 ⟨hf,fun q=>J ⟨p,d,a,b,k,q ▸ i⟩⟩,i⟩
 have r:∀ p∈j,p.2.1=[]:=fun p d=>dq fun J=>by
  obtain⟨w,D⟩:=gv _ J;obtain⟨i1,I,i3⟩:=h.inner d;obtain⟨A,B,e⟩:=fo D;have M:p.1::(p.2.1++[p.2.2])=(p.1::A)++w::(B++[p.2.2]):=by rw[e];simp
  have m:(p.1::(p.2.1++[p.2.2])).Nodup:=by have a1:=(h.at' p d).1;have a2:=(h.at' p d).2;have R:=Tv p d;have b1:=I p.1;have b2:=I p.2.2;rw[bw,am,bi,bo];refine⟨fun k=>k.elim (fun k=>b1 k a1) R,i1,Y,fun x H y n k=>?_⟩;rw[bi]at n;subst n;exact b2 (k ▸ H) a2
  obtain⟨x,H⟩:∃ x,(x,w)∈ad (p.1::(p.2.1++[p.2.2])):=by rw[M];obtain⟨N,z,V⟩:∃ N z,p.1::A=N++[z]:=⟨_,_,(lf (tp _ _)).symm⟩;rw[V,dw];refine⟨z,kL N ?_⟩;simp[ad]
  obtain⟨y,n⟩:∃ y,(w,y)∈ad (p.1::(p.2.1++[p.2.2])):=by
   rw[M];cases B with
   |nil=>exact⟨p.2.2,kL _ (by simp[ad])⟩
   |cons b B=>exact⟨b,kL _ (by simp[ad])⟩
  have F:w∈af E:=by obtain⟨e,l,k⟩:=h.row p d _ _ n;exact(bN l k).1
  obtain⟨c,S,T,U⟩:=Q.deg w F x y;obtain⟨f,hf,k⟩:=cF.1 U;obtain⟨q,v,x',y',g,o⟩:=P f hf;have X:w∈q.1::(q.2.1++[q.2.2]):=by
   rcases aN (o.symm.trans k)with⟨rfl,rfl⟩|⟨rfl,rfl⟩
   .exact(bC g).1
   .exact(bC g).2
  have C:p=q:=by
   refine i3 q v w D ?_;have a1:=(h.at' q v).1;have a2:=(h.at' q v).2;have:=I w D
   grind
  subst C;rcases aN (o.symm.trans k)with⟨rfl,rfl⟩|⟨rfl,rfl⟩
  .exact T (eR m g n)
  .exact S (wI m g H)
 refine⟨fun p d=>⟨r p d,?_⟩,fun e l=>?_⟩
 .have:=h.row p d;rw[r p d]at this;exact this p.1 p.2.2 (by simp[ad])
 .obtain⟨p,d,x,y,g,o⟩:=P e l;rw[r p d]at g;simp[ad]at g;exact⟨p,d,by rw[o,g.1,g.2]⟩
def pT(x:Int)(W:PP)(y:Int):(Int->Prop)×(Int->Prop):=(fun w=>w∈W,fun w=>w=x\/w=y)
theorem Cc(d:Rw' E (x::(W++[y])))(A:(x::(W++[y])).Nodup):Thg E (pT x W y):=by
 have W0:x≠y:=by grind
 refine⟨?_,fun w g k=>?_,x,y,.inl rfl,.inr rfl,W0⟩
 .cases f:W with
  |nil=>rw[f]at d;obtain⟨e,r,k⟩:=d x y (by simp[ad]);refine .inl ⟨e,r,fun v=>by simp[pT],fun v=>?_⟩;rcases aN (u:=e.a) (v:=e.b) (x:=x) (y:=y) k with⟨i,j⟩|⟨i,j⟩<;>rw[i,j]<;>simp only[pT];exact qg
  |cons m z=>
   rw[<- f];have h:m∈W:=by rw[f];simp
   obtain⟨N,l,e⟩:∃ N l,W=N++[l]:=⟨_,_,(lf (kc h)).symm⟩;have n:Rw' E W:=fun a b k=>d a b (kL [x] (uI [y] k));refine .inr ⟨⟨m,h⟩,fun p q s t=>Be n (fun w g=>g) p s q t,fun c o=>?_⟩;rcases o with rfl|rfl
   .exact⟨m,h,cF.2 (dQ (d _ _ (by rw[f];simp[ad])))⟩
   .refine⟨l,by rw[e];simp[pT],cF.2 (d _ _ ?_)⟩;rw[e,dw];exact kL (x::N) (B:=[l]++[c]) (by simp[ad])
 .have g:w∈W:=g;rcases k with rfl|rfl<;>grind
theorem Yo(s:r.Nodup)(h:Cr r x y p q):(x,y)∉prs r/\(y,x)∉prs r:=by
 have f:∀ x y p q,Cr r x y p q->(x,y)∉prs r:=fun x y p q h k=>by
  have W0:x≠y:=fun e=>by have:=h.2;rw[e]at this;unfold dP dh at this;omega
  obtain⟨a,b,P,Q,g,n⟩:=uK h.1.1 h.1.2.1 W0;have t:Rt r (x::(P++y::Q)):=⟨a,b,g,n.symm⟩;have m:=t.nd.2 s;have C:=(t.prs (x,y)).2 k;have A:P=[]:=by
   cases P with
   |nil=>rfl
   |cons z P=>
    have d:(x,z)∈prs (x::(z::P++y::Q)):=bH.2 (.inl (by simp[ad]));rcases bH.1 C with k|k
    .rcases bH.1 d with d|d
     .have D:(x::(z::P++[y])).Nodup:=by grind
      have:=eR D k d
      grind
     .have:=eO (l:=y::Q) d;grind
    .have:=eO (l:=y::Q) k;grind
  subst A;have B:Sc r (x::([]++y::Q)):=by rw[g,<- n];exact EB (g ▸ s)
  have j:Cr (x::([]++y::Q)) x y p q:=h.mono fun a b c _ _ _=>(B.2 a b c).1;have E:=gF m j.1.2.2.1;have F:=gF m j.1.2.2.2;obtain⟨v,w⟩:=Mw m;have o:=j.2;rw[v,w]at o;unfold dP dh at o;simp only[List.length_nil]at *;omega
 exact⟨f x y p q h,f y x p q ⟨⟨h.1.2.1,h.1.1,h.1.2.2⟩,Rz h.2⟩⟩
theorem Kn(c:Ri E r)(s:x∈r)(t:y∈r)(o:∀ w∈W,w∉r)(m:Cr r x y p q)(Tv:∀ e∈E,e.a≠e.b):Kr E (pT x W y) r:=by
 refine⟨c.nd,c.len,c.ed,fun v d k=>o v k d,fun v d=>by rcases d with rfl|rfl;exact s;exact t,fun _ a b h l k=>?_⟩;have f:=Yo c.nd m;obtain⟨e,n,i⟩:=c.ed a b k;have g:a≠b:=fun j=>by
  have:=Tv e n;have:=aN (u:=e.a) (v:=e.b) (x:=a) (y:=b) i
  grind
 rcases h with rfl|rfl<;>rcases l with rfl|rfl
 .exact g rfl
 .exact f.1 k
 .exact f.2 k
 .exact g rfl
theorem Ga{V:PP}(h:Cr r x y p q):¬Avo r (pT x W y).2 (pT p V q).2:=fun k=>k.no x y p q (.inl rfl) (.inr rfl) (.inl rfl) (.inr rfl) h
theorem mG{L:PP}(h:H.Nodup)(k:∀ a,L.count a<=H.count a):L.Nodup:=km.2 fun a=>fa (k a) (km.1 h a)
def oX(k l m n o p:Int)(a b c d e f g h j:PP):List (Int×PP×Int):=[(k,a,n),(k,b,o),(k,c,p),(l,d,n),(l,e,o),(l,f,p),(m,g,n),(m,h,o),(m,j,p)]
theorem Zz(hP:PlE E s){o m n t:Int}{D:PP}:¬Ps E [o,p,m,n,q,t] (oX o p m n q t j B l c d C D f g):=fun h=>by
 have Tv:=hP.bl.ne;have P:=h.row;simp only[oX,rf]at P;obtain⟨r00,r01,r02,r10,r11,r12,r20,r21,r22,_⟩:=P;have K:=h.nd;simp only[oX,dt,nw,dT]at K;have N:(o::((j++n::(c.reverse++p::d))++q::(f.reverse++m::(g++t::l.reverse)))).Nodup:=mG K fun a=>by simp only[cy,cX,kf,List.count_nil];omega
 have M:Rw' E (o::((j++n::(c.reverse++p::d))++q::(f.reverse++m::(g++t::l.reverse)))++[o]):=by have e:o::((j++n::(c.reverse++p::d))++q::(f.reverse++m::(g++t::l.reverse)))++[o]=(o::j)++n::(c.reverse++p::(d++q::(f.reverse++m::(g++t::(l.reverse++[o]))))):=Y;rw[e];exact Rw'.app r00 (Rw'.app (A:=n::c.reverse) r10.rev (Rw'.app (A:=p::d) r11 (Rw'.app (A:=q::f.reverse) r21.rev (Rw'.app (A:=m::g) r22 r02.rev))))
 have J:Ri E (o::((j++n::(c.reverse++p::d))++q::(f.reverse++m::(g++t::l.reverse)))):=⟨N,by simp;omega,fun u v k=>M u v k⟩
 have F:Rt (o::((j++n::(c.reverse++p::d))++q::(f.reverse++m::(g++t::l.reverse)))) (p::((d++q::(f.reverse++m::g))++t::(l.reverse++o::(j++n::c.reverse)))):=
  ⟨o::(j++n::c.reverse),p::(d++q::(f.reverse++m::(g++t::l.reverse))),Y,Y⟩
 have Q:=rE N (v:=p) (w:=t) Y Y;have L:=rE N (v:=n) (w:=m) Y Y;have S:=rE (F.nd.2 N) (v:=m) (w:=n) Y Y;have off:∀ W:PP,(∀ a,W.count a+(o::((j++n::(c.reverse++p::d))++q::(f.reverse++m::(g++t::l.reverse)))).count a<=([o,p,m,n,q,t]++(j++(B++(l++(c++(d++(C++(D++(f++g))))))))).count a)->∀ w∈W,w∉o::((j++n::(c.reverse++p::d))++q::(f.reverse++m::(g++t::l.reverse))):=fun W T w U k=>by have h1:=T w;have h2:=km.1 K w;have h3:=ou.2 U;have h4:=ou.2 k;omega
 have X:=off B fun a=>by simp only[cy,cX,kf,List.count_nil];omega
 have o12:=off C fun a=>by simp only[cy,cX,kf,List.count_nil];omega
 have o20:=off D fun a=>by simp only[cy,cX,kf,List.count_nil];omega
 have d1:(o::(B++[q])).Nodup:=mG K fun a=>by simp only[cy,cX,List.count_nil];omega
 have d2:(p::(C++[t])).Nodup:=mG K fun a=>by simp only[cy,cX,List.count_nil];omega
 have d3:(m::(D++[n])).Nodup:=mG K fun a=>by simp only[cy,cX,List.count_nil];omega
 have I:∀ V W:PP,(∀ a,V.count a+W.count a<=([o,p,m,n,q,t]++(j++(B++(l++(c++(d++(C++(D++(f++g))))))))).count a)->∀ w,w∈V->¬w∈W:=fun V W T w U k=>by have h1:=T w;have h2:=km.1 K w;have h3:=ou.2 U;have h4:=ou.2 k;omega
 have x12:=I B C fun a=>by simp only[cy,cX,List.count_nil];omega
 have x13:=I B D fun a=>by simp only[cy,cX,List.count_nil];omega
 have x23:=I C D fun a=>by simp only[cy,cX,List.count_nil];omega
 generalize o::((j++n::(c.reverse++p::d))++q::(f.reverse++m::(g++t::l.reverse)))=r at *;have H:Cr r p t m n:=by obtain⟨a,b,e1,e2⟩:=F;exact S.mono fun x y z _ _ _=>by rw[e1,e2];exact(Mh (e1 ▸ N)).2
 have R:Cr r o q m n:=⟨⟨L.1.1,L.1.2.1,L.1.2.2.2,L.1.2.2.1⟩,by have:=L.2;unfold dP dh at *;omega⟩
 exact Ka hP (Cc r01 d1) (Cc r12 d2) (Cc r20 d3) (Kn J Q.1.1 Q.1.2.1 X Q Tv) (Kn J H.1.1 H.1.2.1 o12 H Tv) (Kn J H.1.2.2.1 H.1.2.2.2 o20 (rS H) Tv)
  x12 x13 x23 (Ga Q) (Ga R) (Ga H)
section
variable {E:List Ed} {T:(Int->Prop)×(Int->Prop)} (hT:Thg E T) (Tv:∀ e∈E,e.a≠e.b)
include hT Tv
theorem Thg.wy{x y:Int}(g:T.2 x)(h:T.2 y)(W0:x≠y):∃ W,Rw' E (x::(W++[y]))/\W.Nodup/\(∀ w∈W,T.1 w)/\((∃ w,T.1 w)->W≠[]):=by
 rcases hT.kind with⟨e,m,j,d⟩|⟨j,d,l⟩
 .refine⟨[],fun a b q=>?_,Y,Y,fun⟨w,q⟩=>absurd q (j w)⟩;simp[ad]at q;rw[q.1,q.2];refine⟨e,m,?_⟩;show aj e.a e.b=_;rcases(d x).1 g with rfl|rfl<;>rcases(d y).1 h with rfl|rfl
  .exact absurd rfl W0
  .rfl
  .exact aH _ _
  .exact absurd rfl W0
 .obtain⟨p,n,k⟩:=l x g;obtain⟨q,o,r⟩:=l y h;obtain⟨N,s,t,v,c⟩:=Bf (d p q n o);refine⟨N++[q],?_,s,t,fun _=>by simp⟩;obtain⟨f,e⟩:∃ f,N++[q]=p::f:=by
   cases N with
   |nil=>exact⟨[],by simp at c;simp[c]⟩
   |cons a N=>exact⟨N++[q],by simp at c;simp[c]⟩
  intro a b i;rw[e,List.cons_append]at i;rcases ai.1 i with i|i
  .injection i with i1 i2;rw[i1,i2];exact dQ (cF.1 k)
  .rw[<- List.cons_append,<- e,dw,show [q]++[y]=[q,y] from rfl,mN]at i;rcases am.1 i with i|i
   .exact v a b i
   .rw[bi]at i;injection i with i1 i2;rw[i1,i2];exact cF.1 r
theorem Thg.leg{z:Int}(A:T.2 z){K:PP}(s:∃ w∈K,T.1 w)(v:∀ w∈K,T.1 w):∃ t N,t∈K/\Rw' E (z::(N++[t]))/\N.Nodup/\(∀ w∈N,T.1 w/\w∉K):=by
 obtain⟨m,x,c⟩:=s;rcases hT.kind with⟨e,H,n,o⟩|⟨n,o,F⟩
 .exact absurd c (n m)
 obtain⟨p,y,k⟩:=F z A;obtain⟨l,I,C,D,d⟩:=Bf (o p m y c);obtain⟨N,t,B,g,q,r⟩:=pN (M:=K) (l:=l++[m]) ⟨m,Y,x⟩;refine⟨t,N,q,fun a b i=>?_,by grind,fun w j=>⟨C w (by rw[g];simp[j]),r w j⟩⟩;have f:∀ a b,(a,b)∈ad (N++[t])->∃ e∈E,ae e=aj a b:=fun a b k=>D a b (by rw[g];have:=AE [] (N++[t]) B k;simpa using this);obtain⟨h,e⟩:∃ h,N++[t]=p::h:=by
  rw[g]at d;cases N with
  |nil=>exact⟨[],by simp at d;simp[d]⟩
  |cons a N=>exact⟨N++[t],by simp at d;simp[d]⟩
 rw[e]at i f;rcases ai.1 i with i|i
 .injection i with i1 i2;rw[i1,i2];exact dQ (cF.1 k)
 .exact f a b i
theorem Thg.inner{x y z:Int}(c:T.2 x)(d:T.2 y)(f:T.2 z)(g:x≠y)(h:y≠z)(j:x≠z):∃ w,T.1 w:=by
 rcases hT.kind with⟨e,k,b,a⟩|⟨b,_⟩
 .have:=(a x).1 c;have:=(a y).1 d;have:=(a z).1 f;grind
 .exact b
theorem Thg.three{x y z:Int}(p:T.2 x)(q:T.2 y)(r:T.2 z)(n:x≠y)(v:y≠z)(B:x≠z):∃ t d f g,Rw' E (x::(d++[t]))/\Rw' E (y::(f++[t]))/\Rw' E (z::(g++[t]))/\(t::(d++(f++g))).Nodup/\∀ w∈t::(d++(f++g)),T.1 w:=by
 obtain⟨W,c,R,l,S⟩:=hT.wy Tv p q n;obtain⟨m,o⟩:=gv _ (S (hT.inner Tv p q r n v B));obtain⟨t,N,J,L,M,s⟩:=hT.leg Tv r (K:=W) ⟨m,o,l m o⟩ l;obtain⟨h,j,e⟩:=fo J;have P:Rw' E (x::(h++[t])):=Rw'.sub (A:=[]) (C:=j++[y]) (by rw[e]at c;simpa using c);have Q:Rw' E (t::(j++[y])):=Rw'.sub (A:=x::h) (C:=[]) (by rw[e]at c;simpa using c);refine⟨t,h,j.reverse,N,P,Q.rev,L,?_,fun w I=>?_⟩
 .have H:(W++N).Nodup:=bo.2 ⟨R,M,fun a D b F i=>(s b F).2 (i ▸ D)⟩;exact mG H fun a=>by rw[e];simp only[cy,cX,kf];omega
 .have:w∈W\/w∈N:=by rw[e];simp at I ⊢;grind
  exact this.elim (l w) fun k=>(s w k).1
theorem Thg.four{x y z q:Int}(hx:T.2 x)(hy:T.2 y)(hz:T.2 z)(hq:T.2 q)(R:x≠y)(S:y≠z)(U:x≠z):
 (∃ t c d f g,Rw' E (x::(c++[t]))/\Rw' E (y::(d++[t]))/\Rw' E (z::(f++[t]))/\Rw' E (q::(g++[t]))/\(t::(c++(d++(f++g)))).Nodup/\∀ w∈t::(c++(d++(f++g))),T.1 w)\/
 (∃ D F H,((D=x/\F=y/\H=z)\/(D=y/\F=x/\H=z)\/(D=z/\F=x/\H=y))/\∃ t s c d f g N,Rw' E (D::(c++[s]))/\Rw' E (q::(g++[s]))/\Rw' E (s::(N++[t]))/\Rw' E (F::(d++[t]))/\Rw' E (H::(f++[t]))/\(t::s::(c++(d++(f++(g++N))))).Nodup/\∀ w∈t::s::(c++(d++(f++(g++N)))),T.1 w):=by
 obtain⟨t,c,d,f,I,J,M,X,P⟩:=hT.three Tv hx hy hz R S U;obtain⟨s,g,l,B,n3,Q⟩:=hT.leg Tv hq (K:=t::(c++(d++f))) ⟨t,Y,P t Y⟩ P;have r:((t::(c++(d++f)))++g).Nodup:=bo.2 ⟨X,n3,fun a V b W i=>(Q b W).2 (i ▸ V)⟩;have v:∀ w,w∈(t::(c++(d++f)))++g->T.1 w:=fun w m=>(am.1 m).elim (P w) fun k=>(Q w k).1;have split:∀ {p:Int} {L:PP},Rw' E (p::(L++[t]))->s∈L->∃ h j,L=h++s::j/\Rw' E (p::(h++[s]))/\Rw' E (s::(j++[t])):=fun {p L} hr hs=>by obtain⟨h,j,e⟩:=fo hs;exact⟨h,j,e,Rw'.sub (A:=[]) (C:=j++[t]) (by rw[e]at hr;simpa using hr),Rw'.sub (A:=p::h) (C:=[]) (by rw[e]at hr;simpa using hr)⟩
 rcases ai.1 l with rfl|l
 .exact .inl ⟨s,c,d,f,g,I,J,M,B,mG r fun a=>by simp only[cy,cX];omega,fun w m=>v w (by simp at m ⊢;grind)⟩
 .right;rcases am.1 l with l|l
  .obtain⟨h,j,rfl,n,o⟩:=split I l;exact⟨x,y,z,.inl ⟨rfl,rfl,rfl⟩,t,s,h,d,f,g,j,n,B,o,J,M,mG r fun a=>by simp only[cy,cX];omega,fun w m=>v w (by simp at m ⊢;grind)⟩
  .rcases am.1 l with l|l
   .obtain⟨h,j,rfl,n,o⟩:=split J l;exact⟨y,x,z,.inr (.inl ⟨rfl,rfl,rfl⟩),t,s,h,c,f,g,j,n,B,o,I,M,mG r fun a=>by simp only[cy,cX];omega,fun w m=>v w (by simp at m ⊢;grind)⟩
   .obtain⟨h,j,rfl,n,o⟩:=split M l;exact⟨z,x,y,.inr (.inr ⟨rfl,rfl,rfl⟩),t,s,h,c,d,g,j,n,B,o,I,J,mG r fun a=>by simp only[cy,cX];omega,fun w m=>v w (by simp at m ⊢;grind)⟩
end
structure Fr(E:QR)(u v:Int)(I J:PP)(A B:(Int->Prop)×(Int->Prop)):Prop where
 n:(u::(I++v::J)).Nodup
 rI:Rw' E (u::(I++[v]))
 rJ:Rw' E (v::(J++[u]))
 e:Rw' E (u::([]++[v]))
 ne:∀ e∈E,e.a≠e.b
 tA:Thg E A
 tB:Thg E B
 oA:∀ w,A.1 w->w∉u::(I++v::J)
 oB:∀ w,B.1 w->w∉u::(I++v::J)
 cA:∀ w,A.2 w->w∈u::(I++v::J)
 cB:∀ w,B.2 w->w∈u::(I++v::J)
 dis:∀ w,A.1 w->¬B.1 w
section
variable {E:List Ed} {u v:Int} {I J:List Int} {A B:(Int->Prop)×(Int->Prop)} (h:Fr E u v I J A B)
include h
theorem Fr.swap:Fr E u v I J B A:=⟨h.n,h.rI,h.rJ,h.e,h.ne,h.tB,h.tA,h.oB,h.oA,h.cB,h.cA,fun w a b=>h.dis w b a⟩
theorem Fr.turn:Fr E v u J I A B:=by
 have a:∀ w,w∈v::(J++u::I)↔w∈u::(I++v::J):=fun w=>by simp;grind
 exact⟨HX h.n,h.rJ,h.rI,h.e.rev,h.ne,h.tA,h.tB,fun w k=>by rw[a];exact h.oA w k,fun w k=>by rw[a];exact h.oB w k,fun w k=>by rw[a];exact h.cA w k,fun w k=>by rw[a];exact h.cB w k,h.dis⟩
theorem Fr.flip:Fr E u v J.reverse I.reverse A B:=by
 have b:∀ w,w∈u::(J.reverse++v::I.reverse)↔w∈u::(I++v::J):=fun w=>by simp;grind
 exact⟨mG h.n fun a=>by simp only[cy,cX,kf];omega,h.rJ.rev,h.rI.rev,h.e,h.ne,h.tA,h.tB,fun w k=>by rw[b];exact h.oA w k,fun w k=>by rw[b];exact h.oB w k,fun w k=>by rw[b];exact h.cA w k,fun w k=>by rw[b];exact h.cB w k,h.dis⟩
theorem Fr.nd3{X c:PP}(k:X.Nodup)(l:c.Nodup)(g:∀ w∈X,A.1 w)(j:∀ w∈c,B.1 w):((u::(I++v::J))++(X++c)).Nodup:=
 bo.2 ⟨h.n,bo.2 ⟨k,l,fun a f b d e=>h.dis a (g a f) (e ▸ j b d)⟩,fun a f b d e=>by
  rcases am.1 d with d|d
  .exact h.oA b (g b d) (e ▸ f)
  .exact h.oB b (j b d) (e ▸ f)⟩
end
def AO(E:QR):Prop:=∃ a0 a1 a2 b0 b1 b2 a b c d e f g h j,Ps E [a0,a1,a2,b0,b1,b2] (oX a0 a1 a2 b0 b1 b2 a b c d e f g h j)
theorem HI{a0 a1 a2 b0 b1 b2:Int}{e h k:PP}(v:H.Nodup)(w:∀ a,([a0,a1,a2,b0,b1,b2]++(b++(c++(d++(e++(f++(g++(h++(j++k))))))))).count a<=H.count a)
 (l:Rw' E (a0::(b++[b0]))) (m:Rw' E (a0::(c++[b1]))) (n:Rw' E (a0::(d++[b2]))) (o:Rw' E (a1::(e++[b0]))) (p:Rw' E (a1::(f++[b1]))) (q:Rw' E (a1::(g++[b2]))) (r:Rw' E (a2::(h++[b0]))) (s:Rw' E (a2::(j++[b1]))) (t:Rw' E (a2::(k++[b2]))):AO E:=by
 refine⟨a0,a1,a2,b0,b1,b2,b,c,d,e,f,g,h,j,k,?_,?_,?_⟩
 .simp only[oX,dt,nw,dT];exact mG v w
 .simp[oX]
 .simp only[oX,rf];exact⟨l,m,n,o,p,q,r,s,t,Y⟩
theorem Rw'.cut(h:Rw' E (x::((A++p::(B++q::C))++[y]))):Rw' E (x::(A++[p]))/\Rw' E (p::(B++[q]))/\Rw' E (q::(C++[y])):=
 ⟨Rw'.sub (A:=[]) (C:=B++q::C++[y]) (by simpa using h),Rw'.sub (A:=x::A) (C:=C++[y]) (by simpa using h),Rw'.sub (A:=x::(A++p::B)) (C:=[]) (by simpa using h)⟩
theorem Rw'.cut1(h:Rw' E (x::((A++p::B)++[y]))):Rw' E (x::(A++[p]))/\Rw' E (p::(B++[y])):=
 ⟨Rw'.sub (A:=[]) (C:=B++[y]) (by simpa using h),Rw'.sub (A:=x::A) (C:=[]) (by simpa using h)⟩
section
variable {E:List Ed} {u v:Int} {A B:(Int->Prop)×(Int->Prop)}
theorem No{c d f g j k:PP}{a1 b1 a2 b2:Int}(h:Fr E u v (c++a1::(d++b1::f)) (g++a2::(j++b2::k)) A B)(s:A.2 a1)(t:A.2 a2)(w:B.2 b1)(x:B.2 b2):AO E:=by have b:=h.n;obtain⟨I,y,z,C,_⟩:=h.tA.wy h.ne s t (by rintro rfl;have:=km.1 b a1;simp[cy,cX]at this<;>omega);obtain⟨J,D,F,H,_⟩:=h.tB.wy h.ne w x (by rintro rfl;have:=km.1 b b1;simp[cy,cX]at this<;>omega);obtain⟨l,m,o⟩:=h.rI.cut;obtain⟨p,q,r⟩:=h.rJ.cut;exact HI (a0:=u) (a1:=b1) (a2:=a2) (b0:=a1) (b1:=v) (b2:=b2) (h.nd3 z F C H) (fun a=>by simp only[cy,cX,kf,List.count_nil];omega) l h.e r.rev m.rev o D y.rev p.rev q
theorem IR{p q k f r s:PP}{a b d j:Int}(h:Fr E u v (p++a::(q++b::(k++d::f))) (r++j::s) A B)(F:A.2 a)(H:A.2 d)(I:A.2 j)(P:B.2 b)(Q:B.2 j):AO E:=by have x:=h.n;have g:=km.1 x;obtain⟨t,V,w,W,J,K,L,M,N⟩:=h.tA.three h.ne F H I (by rintro rfl;have:=g a;simp[cy,cX]at this<;>omega) (by rintro rfl;have:=g d;simp[cy,cX]at this<;>omega) (by rintro rfl;have:=g a;simp[cy,cX]at this<;>omega);obtain⟨X,S,T,U,_⟩:=h.tB.wy h.ne P Q (by rintro rfl;have:=g b;simp[cy,cX]at this<;>omega);have R:Rw' E (u::((p++a::(q++b::(k++d::f)))++[v])):=h.rI;obtain⟨y,z,l⟩:=R.cut;have o:Rw' E (b::((k++d::f)++[v])):=l;obtain⟨l,C⟩:=o.cut1;obtain⟨j1,D⟩:=h.rJ.cut1;have m:Rw' E (u::((v::f.reverse)++[d])):=Rw'.app (A:=[u]) h.e C.rev;exact HI (a0:=t) (a1:=b) (a2:=u) (b0:=a) (b1:=d) (b2:=j) (h.nd3 M T N U) (fun c=>by simp only[cy,cX,kf,List.count_nil];omega) J.rev K.rev L.rev z.rev l S y m D.rev
theorem NE{m o f p q:PP}{i a j:Int}(h:Fr E u v (m++i::(o++a::f)) (p++j::q) A B)(z:A.2 i)(C:A.2 a)(D:A.2 j)(R:B.2 i)(S:B.2 a)(T:B.2 j):AO E:=by
 have r:=h.n;have b:=km.1 r;have g:i≠a:=by rintro rfl;have:=b i;simp[cy,cX]at this<;>omega
 have k:a≠j:=by rintro rfl;have:=b a;simp[cy,cX]at this<;>omega
 have l:i≠j:=by rintro rfl;have:=b i;simp[cy,cX]at this<;>omega
 obtain⟨t,U,V,W,F,H,I,J,K⟩:=h.tA.three h.ne z C D g k l;obtain⟨s,X,M2,M3,L,M,N,P,Q⟩:=h.tB.three h.ne R S T g k l;obtain⟨w,i2,x⟩:=h.rI.cut;obtain⟨j1,y⟩:=h.rJ.cut1;have d:Rw' E (u::((v::f.reverse)++[a])):=Rw'.app (A:=[u]) h.e x.rev;exact HI (a0:=t) (a1:=s) (a2:=u) (b0:=i) (b1:=a) (b2:=j) (h.nd3 J P K Q) (fun c=>by simp only[cy,cX,kf,List.count_nil];omega) F.rev H.rev I.rev L.rev M.rev N.rev w d y.rev
theorem IS{g k l m:PP}{i j:Int}(h:Fr E u v (g++i::k) (l++j::m) A B)(r:A.2 i)(w:A.2 j)(x:A.2 u)(M:B.2 i)(N:B.2 j)(P:B.2 u):AO E:=by
 have o:=h.n;have a:=km.1 o;have b:i≠j:=by rintro rfl;have:=a i;simp[cy,cX]at this<;>omega
 have d:j≠u:=by rintro rfl;have:=a j;simp[cy,cX]at this<;>omega
 have f:i≠u:=by rintro rfl;have:=a i;simp[cy,cX]at this<;>omega
 obtain⟨t,Q,R,S,y,z,C,D,F⟩:=h.tA.three h.ne r w x b d f;obtain⟨s,T,U,V,H,I,J,K,L⟩:=h.tB.three h.ne M N P b d f;obtain⟨W,p⟩:=h.rI.cut1;obtain⟨q,X⟩:=h.rJ.cut1;exact HI (a0:=t) (a1:=s) (a2:=v) (b0:=i) (b1:=j) (b2:=u) (h.nd3 D K F L) (fun c=>by simp only[cy,cX,kf,List.count_nil];omega) y.rev z.rev C.rev H.rev I.rev J.rev p.rev q h.e.rev
theorem N3{m o p q k r:PP}{a b f d:Int}(h:Fr E u v (m++a::(o++b::p)) (q++d::(k++f::r)) A B)(D:A.2 a)(F:A.2 f)(M:B.2 u)(N:B.2 b)(P:B.2 d):AO E:=by
 have s:=h.n;have g:=km.1 s;obtain⟨l,Q,R,S,_⟩:=h.tA.wy h.ne D F (by rintro rfl;have:=g a;simp[cy,cX]at this<;>omega);obtain⟨t,T,U,V,H,I,J,K,L⟩:=h.tB.three h.ne M N P (by rintro rfl;have:=g u;simp[cy,cX]at this<;>omega) (by rintro rfl;have:=g b;simp[cy,cX]at this<;>omega) (by rintro rfl;have:=g u;simp[cy,cX]at this<;>omega);obtain⟨w,x,y⟩:=h.rI.cut;obtain⟨z,C,W⟩:=h.rJ.cut;have j:Rw' E (a::((l++f::k.reverse)++[d])):=by have:=Rw'.app (A:=a::l) Q C.rev;simpa using this
 exact HI (a0:=t) (a1:=a) (a2:=v) (b0:=u) (b1:=b) (b2:=d) (h.nd3 R K S L) (fun c=>by simp only[cy,cX,kf,List.count_nil];omega) H.rev I.rev J.rev w.rev x j h.e.rev y.rev z
theorem V2{d f g j k:PP}{a1 b b2:Int}(h:Fr E u v (d++a1::(f++b::g)) (j++b2::k) A B)(r:A.2 a1)(s:A.2 b2)(D:B.2 u)(F:B.2 b)(H:B.2 b2):AO E:=by have l:=h.n;have a:=km.1 l;obtain⟨P,I,J,K,_⟩:=h.tA.wy h.ne r s (by rintro rfl;have:=a a1;simp[cy,cX]at this<;>omega);obtain⟨t,L,M,N,w,x,y,z,C⟩:=h.tB.three h.ne D F H (by rintro rfl;have:=a u;simp[cy,cX]at this<;>omega) (by rintro rfl;have:=a b;simp[cy,cX]at this<;>omega) (by rintro rfl;have:=a u;simp[cy,cX]at this<;>omega);obtain⟨m,o,p⟩:=h.rI.cut;obtain⟨q,Q⟩:=h.rJ.cut1;exact HI (a0:=t) (a1:=a1) (a2:=v) (b0:=u) (b1:=b) (b2:=b2) (h.nd3 J z K C) (fun c=>by simp only[cy,cX,kf,List.count_nil];omega) w.rev x.rev y.rev m.rev o I h.e.rev p.rev q
end
end Aw
end Go.Proofs.YtbgngpdonpeboaaGreatDoor
