/- Plain: blocks hang together as a forest; what is drawn lies in the plane. -/
import Derived.Test.YtbgngpdonpeboaaGreatDoorJm
set_option linter.defProp false
set_option linter.unusedVariables false
set_option linter.unusedSimpArgs false
set_option linter.unusedSectionVars false
namespace Go.Proofs.YtbgngpdonpeboaaGreatDoor
namespace Aw
open Go Go.RowKit Pl Eu
theorem IC{R S:Int->Int->Prop}(c:fJ R)(g:fJ S)(h:∀ x y,R x y->S x y){l:AN}{v0:Int}:∀(a:AN),v0∈l->(∀ v∈a,v∈l/\S v0 v)->(v0::a).Pairwise (fun x y=>¬R x y)->bg S l+a.length<=bg R l
 |[],_,_,_=>by simpa using pP (R:=R) (S:=S) (l:=l) fun x _ y _=>h x y
 |v::a,h0,hv,hp=>by
  obtain⟨d,n⟩:=jq.1 hp;obtain⟨f,o⟩:=jq.1 n;obtain⟨p,q⟩:=hv v aw;have e:=pU c (d v aw) h0 p;have:=IC (R:=Eu.Mg R v0 v) (S:=S) (Mg.eqv c _ _) g (fun x y k=>Mg.le g q h k) (l:=l) (v0:=v0) a h0 (fun w b=>hv w (ar _ b)) (jq.2 ⟨?_,?_⟩)
  .rw[List.length_cons];omega
  .rintro w b (k|⟨_,k⟩|⟨k,_⟩)
   .exact d w (ar _ b) k
   .exact f w b k
   .exact d v aw k
  .refine o.imp_of_mem fun {x y} hx hy J6 k=>?_;rcases k with k|⟨j,m⟩|⟨j,m⟩
   .exact J6 k
   .exact f y hy m
   .exact f x hx (c.symm j)
theorem Rj(f:AN):∀(b:List (List Ed)) (a:List Ed),(∀ l∈b,(ai l≠[])/\(∀ v∈ai l,v∈f)/\∀ u∈ai l,∀ v∈ai l,Reach l u v)->(∀ A l B,b=A++l::B->∀ u∈ai l,∀ v∈ai l,Reach (a++A.flatten) u v->u=v)->
 bg (Reach (a++b.flatten)) f+(b.map fun l=>(ai l).length).sum<=bg (Reach a) f+b.length
 |[],a,_,_=>by simp
 |l::b,a,h1,h2=>by
  obtain⟨p,o,q⟩:=h1 l aw;have s:=Rj f b (a++l) (fun l m=>h1 l (ar _ m)) fun A r B e u h v d k=>h2 (l::A) r B (by rw[e];rfl) u h v d (by simpa using k);obtain⟨g,V,c⟩:=my p;have n:=h2 [] l b rfl;rw[List.flatten_nil,eP]at n
  have t:=IC (R:=Reach a) (S:=Reach (a++l)) (iO _) (iO _) (fun x y k=>k.mono fun x j=>cX _ j) (l:=f) (v0:=g) V (o g (by rw[c];exact aw))
   (fun v d=>⟨o v (by rw[c];exact ar _ d),(q g (by rw[c];exact aw) v (by rw[c];exact ar _ d)).mono fun x j=>dv _ j⟩) (by
     rw[<- c];refine(lG l).imp_of_mem fun {u v} h d huv k=>?_;have:=n u h v d k
     omega)
  have m:(ai l).length=V.length+1:=by rw[c];rfl
  rw[List.flatten_cons,<- dz,ax,List.sum_cons,List.length_cons];omega
def UR{f:List Ed}{u v:Int}(h:Reach f u v):v=u\/∃ e∈f,(e.a=u\/e.b=u)/\RIn f (·≠u) (aE e u) v:=by
 induction h with
 |refl=>exact .inl rfl
 |@step y z h g m=>
  by_cases c:z=u
  .exact .inl c
  right;rcases m with rfl|⟨e,k,d,j⟩
  .obtain⟨i,l,e⟩:=GN g;have d:=aR.1 l;refine⟨_,sD d.1,d.2,?_⟩;rw[e];exact .refl c
  .exact⟨e,k,d,.step j g c⟩
def RIn.emono{a es':List Ed}(d:∀ x∈a,x∈es'){S:Int->Prop}{x y:Int}(h:RIn a S x y):RIn es' S x y:=by
 induction h with
 |refl h=>exact .refl h
 |step _ b c f=>refine .step f ?_ c;rw[cN]at b ⊢;obtain⟨x,e,h⟩:=b;exact⟨x,d x e,h⟩
def RIn.reach{a:List Ed}{S:Int->Prop}{x y:Int}(h:RIn a S x y):Reach a x y:=by
 induction h with
 |refl=>exact .refl
 |step _ b _ c=>exact .step c b
section
variable {g:Gr} (hg:GoodE g)
include hg
theorem tT{B:List Nat}{v:Int}(h:v∈ai (ju g.E B)):∃ i∈B,(am g.E i).a=v\/(am g.E i).b=v:=by obtain⟨e,c,k⟩:=(aK _ _).1 h;obtain⟨i,d,rfl⟩:=aq.1 c;exact⟨i,d,k.imp Eq.symm Eq.symm⟩
theorem dO.reach{B:List Nat}(h:dO g.E B){u v:Int}(c:u∈ai (ju g.E B))(d:v∈ai (ju g.E B)):Reach (ju g.E B) u v:=by obtain⟨i,a,e⟩:=tT hg c;obtain⟨j,b,f⟩:=tT hg d;exact(h.con hg (max u v+1) a (h.rel i a j b) u v e f oO oO).reach
theorem dO.cut{B:List Nat}(h:dO g.E B){m:List Ed}(c:∀ e∈m,∃ j,j<g.E.length/\j∉B/\e=am g.E j){u v:Int}(z:u∈ai (ju g.E B))(A:v∈ai (ju g.E B))(y:Reach m u v):u=v:=by
 obtain⟨i,d,n⟩:=tT hg z;obtain⟨k,t,D⟩:=tT hg A;rcases UR y with e|⟨e,r,p,q⟩
 .exact e.symm
 refine fv fun o=>?_;obtain⟨j,s,f,rfl⟩:=c e r;have a:=(h.con hg u d (h.rel i d k t) _ v (lT _ u) D (tM hg (aR.2 ⟨h.lt i d,n⟩)) fun k=>o k.symm).up h.lt;have b:=q.emono (es':=g.E) fun x C=>by obtain⟨l,w,_,rfl⟩:=c x C;exact sD w
 exact f (h.all i d j s ⟨u,n,p,a.trans b.symm⟩)
end
def Mf(a:List Ed):(gA a).Nodup:=by unfold gA List.Nodup;rw[fa];refine(nv.sublist jc).imp_of_mem fun {i j} hi hj hij e=>?_;rw[cx,gg]at hi hj;have:=hi.2;rw[e,hj.2]at this;omega
def Cs{g:Gr}(r:GoodE g):bg (Reach g.E) g.V+((aQ g).map fun l=>(ai l).length).sum<=g.V.length+(aQ g).length:=by
 have m:=r.simple;have a:∀ B∈gA (sE g.E),dO (sE g.E) B:=fun B d=>kY m d;have hf:=Rj g.V (aQ g) [] (fun l f=>?_) fun A l B e u w v o k=>?_
 .rw[MC (fun x y=>Dk) r.toGood.nodup,List.nil_append]at hf
  suffices key:∀ x y,Reach (aQ g).flatten x y->Reach g.E x y from er (Nat.add_le_add_right (pP fun x _ y _ k=>key x y k) _) hf
  intro x y k;induction k with
  |refl=>exact .refl
  |step _ H J=>rw[cN]at H;obtain⟨x,c,h⟩:=H;obtain⟨l,f,c⟩:=fh.1 c;refine .step J ?_;rw[cN];exact⟨x,(nJ r f).2 x c,h⟩
 .unfold aQ at f;obtain⟨B,d,rfl⟩:=aq.1 f;have d:=a B d;refine⟨?_,fun v o=>?_,fun u w v o=>d.reach m w o⟩
  .obtain⟨i,s⟩:=gS _ d.ne;exact kv ((aK _ _).2 ⟨_,de s,.inl rfl⟩)
  .obtain⟨i,s,h⟩:=tT m o;have:=m.ends _ (sD (d.lt i s));rcases h with rfl|rfl
   .exact this.1
   .exact this.2
 .unfold aQ at e;obtain⟨K,R,q,rfl,I⟩:=yd.1 e;obtain⟨p,L,rfl,rfl,M⟩:=yp.1 I;have n:p∈gA (sE g.E):=by rw[q];simp
  have F:=Mf (sE g.E);rw[q,bw]at F;refine(a p n).cut m (fun x c=>?_) w o k;rw[List.nil_append]at c;obtain⟨l,f,c⟩:=fh.1 c;obtain⟨z,C,rfl⟩:=aq.1 f;obtain⟨j,D,rfl⟩:=aq.1 c;have b:=a z (by rw[q];simp[C]);refine⟨j,b.lt j D,fun t=>?_,rfl⟩;exact F.2.2 z C p sS (dO.eq (g:=⟨g.V,sE g.E⟩) b (a p n) D t)
structure Tc(E:List Ed):Prop where
 ids:E.Pairwise fun x y=>x.id<y.id
 ne:∀ e∈E,e.a≠e.b
 sim:(E.map aj).Nodup
 con:∀ w p q,p∈ai E->q∈ai E->p≠w->q≠w->RIn E (·≠w) p q
 two:2<=E.length
 few:(ai E).length<=64/\E.length<=200
def lM{d:List Ed}{v w:Int}:w∈cQ d v↔∃ e∈d,aj e=ay v w:=by
 rw[PC];constructor
 .rintro⟨x,c,⟨a,b⟩|⟨a,b⟩⟩
  .exact⟨x,c,by show ay _ _=_;rw[a,b]⟩
  .exact⟨x,c,by show ay _ _=_;rw[a,b];exact aG _ _⟩
 .rintro⟨x,c,h⟩;rcases aT h with⟨a,b⟩|⟨a,b⟩
  .exact⟨x,c,.inl ⟨a,b⟩⟩
  .exact⟨x,c,.inr ⟨a,b⟩⟩
def kL{d:List Ed}{v w:Int}:w∈nbr d v↔∃ e∈d,aj e=ay v w:=by
 rw[cN];constructor
 .rintro⟨x,c,⟨a,b⟩|⟨a,b⟩⟩
  .exact⟨x,c,by show ay _ _=_;rw[a,b]⟩
  .exact⟨x,c,by show ay _ _=_;rw[a,b];exact aG _ _⟩
 .rintro⟨x,c,h⟩;rcases aT h with⟨a,b⟩|⟨a,b⟩
  .exact⟨x,c,.inl ⟨a,b⟩⟩
  .exact⟨x,c,.inr ⟨b,a⟩⟩
theorem map_inj{d g:Type}{F:d->g}:∀ {l:List d},(l.map F).Nodup->∀ {e f:d},e∈l->f∈l->F e=F f->e=f
 |a::l,h0,e,f,he,hf,h=>by
  rw[ax,cb]at h0;rcases ah.1 he with c|c
  .rcases ah.1 hf with b|b
   .rw[c,b]
   .exact absurd (by rw[<- c,h];exact de b) h0.1
  .rcases ah.1 hf with b|b
   .exact absurd (by rw[<- b,<- h];exact de c) h0.1
   .exact map_inj h0.2 c b h
section
variable {E:List Ed} (hT:Tc E)
include hT
theorem Tc.sim_eq{e f:Ed}(a:e∈E)(hf:f∈E)(h:aj e=aj f):e=f:=map_inj hT.sim a hf h
theorem Tc.start{x:Ed}{R:List Ed}(t:E=x::R):∃ h,newF ⟨ai E,E⟩=some h/\Drn E h/\∃ ring,h.F=[ring,ring.reverse]/\ring.Nodup/\3<=ring.length/\∀ u v,(u,v)∈ao ring->∃ e∈E,aj e=ay u v:=by
 have o:x∈E:=by rw[t];exact aw
 have U:=hT.ne x o;have Z:x.a∈ai E:=(aK _ _).2 ⟨x,o,.inl rfl⟩;have vb:x.b∈ai E:=(aK _ _).2 ⟨x,o,.inr rfl⟩;have l:∀ v,∀ w∈cQ (E.filter fun y=>decide (y≠x)) v,w∈ai E:=fun v w H=>by obtain⟨e,f,T⟩:=lM.1 H;exact(dQ (cx.1 f).1 T).2
 obtain⟨c,X,O,P⟩:∃ c∈ai E,c≠x.a/\c≠x.b:=by
  have s:=hT.two;obtain⟨y,D,W⟩:∃ y D,R=y::D:=by
   cases R with
   |nil=>rw[t]at s;simp at s
   |cons y D=>exact⟨y,D,rfl⟩
  have r:y∈E:=by rw[t,W];simp
  have S6:y≠x:=fun e=>by have:=hT.ids;rw[t,W]at this;have:=(jq.1 this).1 y sS;rw[e]at this;omega
  have hyn:=hT.ne y r;refine fv fun I=>S6 (hT.sim_eq r o ?_);have ya:y.a=x.a\/y.a=x.b:=fv fun k=>I ⟨y.a,(aK _ _).2 ⟨y,r,.inl rfl⟩,fun e=>k (.inl e),fun e=>k (.inr e)⟩;have yb:y.b=x.a\/y.b=x.b:=fv fun k=>I ⟨y.b,(aK _ _).2 ⟨y,r,.inr rfl⟩,fun e=>k (.inl e),fun e=>k (.inr e)⟩;show ay _ _=ay _ _;rcases ya with K|K<;>rcases yb with L|L
  .omega
  .rw[K,L]
  .rw[K,L];exact aG _ _
  .omega
 have along:∀ S:Int->Prop,Xo (cQ (E.filter fun y=>decide (y≠x))) (fun _=>true) x.a S->∀ w,(w=x.a\/w=x.b)->∀ p q,RIn E (·≠w) p q->S p->S q:=by
  intro S A w H p q h T;induction h with
  |refl=>exact T
  |@step y z h hz g ih=>
   obtain⟨e,f,J⟩:=kL.1 hz;have r:=h.here.2;have Q:e≠x:=fun ex=>by
    rw[ex]at J;rcases aT J with⟨B,C⟩|⟨B,C⟩
    .rcases H with j|j
     .exact r (by rw[j,B])
     .exact g (by rw[j,C])
    .rcases H with j|j
     .exact g (by rw[j,B])
     .exact r (by rw[j,C])
   exact A.2 y ih (.inr rfl) z (lM.2 ⟨e,cx.2 ⟨f,nm Q⟩,J⟩)
 obtain⟨w,h1,s,h3,h4,h5,h6,h7,N,h9⟩:=Mi (may:=fun _=>true) l Z vb U (n:=1000) (by have:=hT.few.1;omega) fun S A=>along S A x.a (.inl rfl) c x.b (hT.con _ _ _ X vb O (fun e=>U e.symm)) (along S A x.b (.inr rfl) x.a c (hT.con _ _ _ Z X U P) A.1);have g:=mZ h3;rw[h6,h7]at g;have I:∀ e∈E.filter fun y=>decide (y≠x),aj e≠ay x.a x.b:=fun e f k=>by rw[cx,gg]at f;exact f.2 (hT.sim_eq f.1 o k)
 cases V:dH w with
 |nil=>rw[V,List.nil_append]at g;obtain⟨e,f,k⟩:=lM.1 (N x.a x.b (by rw[g];simp[ae]));exact absurd k (I e f)
 |cons m M=>
  rw[V]at g;refine⟨⟨kF (kF [] w) [x.a,x.b],w++[x.a,x.b],[w,w.reverse]⟩,?_,Drn.start o g s fun u v d=>?_,w,rfl,s,by rw[g];simp,fun u v d=>?_⟩
  .have hh:newF ⟨ai E,E⟩=(uT (ai E) (cQ (E.filter fun y=>decide (y≠x))) (fun _=>true) x.a x.b 1000).bind fun ring=>
    if ring.length<=200/\∀ v∈ring,v∈ai E then some ⟨kF (kF [] ring) [x.a,x.b],ring++[x.a,x.b],[ring,ring.reverse]⟩else none:=by
    unfold newF;rw[t]
   rw[hh,h1,Option.bind_some,ad ⟨by have:=hT.few.1;omega,h5⟩]
  .obtain⟨e,f,k⟩:=lM.1 (N u v d);exact⟨e,(cx.1 f).1,k⟩
  .have Y:=AX x.a x.b (m::M);rw[<- g]at Y;rw[Y,an,bf]at d;rcases d with d|d
   .obtain⟨e,f,k⟩:=lM.1 (N u v d);exact⟨e,(cx.1 f).1,k⟩
   .injection d with B C;exact⟨x,o,by rw[B,C];exact aG _ _⟩
end
def fN{A B:AN}{v:Int}:v∈off A B↔v∈A/\v∉B:=by unfold off;simp
def FM{A B:AN}{v:Int}:v∈on' A B↔v∈A/\v∈B:=by unfold on';simp
def mI{a A:AN}{v:Int}:v∈dT a A↔v∈a/\v∈A:=by unfold dT;simp
def Ft{g:Gr}{A:AN}{v:Int}:v∈ez g A↔∃ u∈A,v∈nbr g.E u:=by unfold ez;rw[gh]
structure jb(E:List Ed)(L:List (Int×Int))(on:AN)(b:dm):Prop where
 en:∀ v∈b.ends,v∈on/\v∈ai E
 kind:(b.inner=[]/\∃ e∈E,aj e∉L/\b.ends=[e.a,e.b])\/
  (b.inner≠[]/\(∀ v∈b.inner,v∈ai E/\v∉on)/\(∀ p∈b.inner,∀ q∈b.inner,RIn E (·∈b.inner) p q)/\(∀ p∈b.inner,∀ q∈nbr E p,q∈b.inner\/q∈b.ends)/\∀ q∈b.ends,∃ p∈b.inner,q∈nbr E p)
section
variable {E:List Ed} {on:List Int}
theorem Xm{p q:Int}(h:q∈nbr E p):q∈ai E:=by obtain⟨e,a,k⟩:=kL.1 h;exact(dQ a k).2
theorem MO(v:Int)(y:v∈ai E)(s:v∉on)(L:List (Int×Int)):∀(n:Nat) (I:AN),I.Nodup->v∈I->(∀ p∈I,p∈ai E/\p∉on)->(∀ p∈I,RIn E (·∈I) v p)->(ai E).length+1<=n+I.length->
 ∃ b,yG ⟨ai E,E⟩ on n I=some b/\jb E L on b/\v∈b.inner
 |0,I,hn,_,hI,_,hl=>by have:=fg hn fun p f=>(hI p f).1;omega
 |n+1,I,hn,hvI,hI,hc,hl=>by
  unfold yG
  split
  .rename_i t;refine⟨_,rfl,⟨fun q c=>?_,.inr ⟨kv hvI,hI,fun p f q c=>(hc p f).symm.trans (hc q c),fun p f q c=>?_,fun q c=>?_⟩⟩,hvI⟩
   .have h:=FM.1 c;exact⟨h.2,(mI.1 h.1).1⟩
   .have o:=Xm c;have j:q∈dT (ai E) (ez ⟨ai E,E⟩ I):=mI.2 ⟨o,Ft.2 ⟨p,f,c⟩⟩;by_cases e:q∈on
    .exact .inr (FM.2 ⟨j,e⟩)
    .by_cases a:q∈I
     .exact .inl a
     .have:q∈off (off (dT (ai E) (ez ⟨ai E,E⟩ I)) on) I:=fN.2 ⟨fN.2 ⟨j,e⟩,a⟩;rw[t]at this;cases this
   .have h:=FM.1 c;obtain⟨p,f,k⟩:=Ft.1 (mI.1 h.1).2;exact⟨p,f,k⟩
  .rename_i t;obtain⟨u,x⟩:=gS _ t;have g:=fN.1 x;have l:(ai E).Nodup:=(lG E).imp fun k=>by omega
   have d:∀ q,q∈dT (ai E) (I++off (dT (ai E) (ez ⟨ai E,E⟩ I)) on)↔q∈ai E/\(q∈I\/(q∈ez ⟨ai E,E⟩ I/\q∉on)):=fun q=>by
    rw[mI,an,fN,mI];constructor
    .rintro⟨e,a|a⟩
     .exact⟨e,.inl a⟩
     .exact⟨e,.inr ⟨a.1.2,a.2⟩⟩
    .rintro⟨e,a|a⟩
     .exact⟨e,.inl a⟩
     .exact⟨e,.inr ⟨⟨e,a.1⟩,a.2⟩⟩
   have m:∀ q∈I,q∈dT (ai E) (I++off (dT (ai E) (ez ⟨ai E,E⟩ I)) on):=fun q c=>(d q).2 ⟨(hI q c).1,.inl c⟩;have w:(dT (ai E) (I++off (dT (ai E) (ez ⟨ai E,E⟩ I)) on)).Nodup:=l.sublist jc;refine MO v y s L n _ w (m v hvI) (fun p f=>?_) (fun p f=>?_) ?_
   .obtain⟨e,a⟩:=(d p).1 f;exact⟨e,a.elim (fun k=>(hI p k).2) And.right⟩
   .have mono:∀ z,RIn E (·∈I) v z->RIn E (·∈dT (ai E) (I++off (dT (ai E) (ez ⟨ai E,E⟩ I)) on)) v z:=fun z h=>h.mono m;obtain⟨e,a⟩:=(d p).1 f;rcases a with a|a
    .exact mono _ (hc p a)
    .obtain⟨q,c,k⟩:=Ft.1 a.1;exact .step (mono _ (hc q c)) k f
   .have r:u∈dT (ai E) (I++off (dT (ai E) (ez ⟨ai E,E⟩ I)) on):=(d u).2 ⟨(mI.1 (fN.1 g.1).1).1,.inr ⟨(mI.1 (fN.1 g.1).1).2,(fN.1 g.1).2⟩⟩;have:=fg (cb.2 ⟨g.2,hn⟩) (l₂:=dT (ai E) (I++off (dT (ai E) (ez ⟨ai E,E⟩ I)) on)) fun q c=>by
     rcases ah.1 c with rfl|c
     .exact r
     .exact m q c
    rw[List.length_cons]at this;show(ai E).length+1<=n+(dT (ai E) (I++off (dT (ai E) (ez ⟨ai E,E⟩ I)) on)).length;omega
theorem Lx(L:List (Int×Int)):∀(n:Nat) (R:AN),(∀ v∈R,v∈ai E/\v∉on)->R.length<=n->∃ l,sR ⟨ai E,E⟩ on n R=some l/\(∀ b∈l,jb E L on b)/\l.length<=R.length/\∀ v∈R,∃ b∈l,v∈b.inner
 |n,[],_,_=>⟨[],by cases n<;>rfl,sS,sS,sS⟩
 |0,v::R,_,h=>by simp at h
 |n+1,v::R,hR,h=>by
  obtain⟨g,f⟩:=hR v aw;obtain⟨b,j,k,m⟩:=MO (E:=E) v g f L ((ai E).length+1) [v] sS sS (fun p d=>by rw[bf.1 d];exact⟨g,f⟩) (fun p d=>by rw[bf.1 d];exact .refl sS) sS;have dF:(off (v::R) b.inner).length<=R.length:=by unfold off;rw[tg,ac (aa m)];exact gw _ _
  obtain⟨l,r,s,w,t⟩:=Lx L n (off (v::R) b.inner) (fun p d=>hR p (fN.1 d).1) (by rw[List.length_cons]at h;omega);have e:sR ⟨ai E,E⟩ on (n+1) (v::R)=(yG ⟨ai E,E⟩ on ((ai E).length+1) [v]).bind fun b=>(sR ⟨ai E,E⟩ on n (off (v::R) b.inner)).map (b::·):=rfl;refine⟨b::l,by rw[e,j,Option.bind_some,r];rfl,fun c a=>?_,by rw[List.length_cons,List.length_cons];omega,fun u o=>?_⟩
  .rcases ah.1 a with rfl|a
   .exact k
   .exact s c a
  .by_cases q:u∈b.inner
   .exact⟨b,aw,q⟩
   .obtain⟨c,a,i⟩:=t u (fN.2 ⟨o,q⟩);exact⟨c,ar _ a,i⟩
theorem Te(L:List (Int×Int)):∃ B,Na ⟨ai E,E⟩ L on=some B/\(∀ b∈B,jb E L on b)/\B.length<=E.length+(ai E).length/\(∀ e∈E,aj e∉L->e.a∈on->e.b∈on->⟨[],[e.a,e.b]⟩∈B)/\∀ v∈ai E,v∉on->∃ b∈B,v∈b.inner:=by
 have n:(off (ai E) on).length<=(ai E).length:=gw _ _;obtain⟨l,g,h,m,o⟩:=Lx (E:=E) (on:=on) L ((ai E).length+1) (off (ai E) on) (fun v f=>fN.1 f) oO;refine⟨pG ⟨ai E,E⟩ L on E++l,?_,fun b d=>?_,?_,fun e c g h m=>?_,fun v f j=>?_⟩
 .unfold Na;show(sR ⟨ai E,E⟩ on ((ai E).length+1) (off (ai E) on)).map _=_;rw[g];rfl
 .rcases an.1 d with d|d
  .unfold pG at d;obtain⟨e,c,rfl⟩:=aq.1 d;rw[cx]at c;simp only[fw,ke]at c;refine⟨fun v f=>?_,.inl ⟨rfl,e,c.1,c.2.1.1,rfl⟩⟩;rcases ah.1 f with rfl|f
   .exact⟨c.2.1.2,(aK _ _).2 ⟨e,c.1,.inl rfl⟩⟩
   .rw[bf.1 f];exact⟨c.2.2,(aK _ _).2 ⟨e,c.1,.inr rfl⟩⟩
  .exact h b d
 .have:(pG ⟨ai E,E⟩ L on E).length<=E.length:=by unfold pG;rw[dh];exact gw _ _
  rw[cf];omega
 .refine cX _ (aq.2 ⟨e,cx.2 ⟨c,?_⟩,rfl⟩);simp only[fw,ke];exact⟨⟨g,h⟩,m⟩
 .obtain⟨b,d,k⟩:=o v (fN.2 ⟨f,j⟩);exact⟨b,dv _ d,k⟩
end
def Rw'(E:List Ed)(N:AN):Prop:=∀ a b,(a,b)∈ae N->∃ e∈E,aj e=ay a b
def uI:∀(N:AN) (v w:Int),ae (N++[v,w])=ae (N++[v])++[(v,w)]:=fun N v w=>by rw[show N++[v,w]=N++v::[w] from rfl,eY];rfl
def Bo{E:List Ed}{a b:Int}(h:∃ e∈E,aj e=ay a b):∃ e∈E,aj e=ay b a:=by rw[aG];exact h
theorem MP(C:AN):∀ {B:AN} {p:Int×Int},p∈ae B->p∈ae (B++C)
 |a::b::l,p,h=>by
  rcases ah.1 h with h|h
  .rw[h];exact aw
  .exact ar _ (MP C (B:=b::l) h)
theorem FC:∀(A:AN) {B:AN} {p:Int×Int},p∈ae B->p∈ae (A++B)
 |[],_,_,h=>h
 |[a],b::B,p,h=>ar _ h
 |a::c::A,B,p,h=>ar _ (FC (c::A) h)
def Cw(A B C:AN){p:Int×Int}(h:p∈ae B):p∈ae (A++B++C):=MP C (FC A h)
def Rw'.sub{E:List Ed}{A B C:AN}(h:Rw' E (A++B++C)):Rw' E B:=fun a b k=>by exact h a b (Cw A B C k)
def Le{E:List Ed}{S:Int->Prop}{u v:Int}(h:RIn E S u v):∃ N,(N++[v]).Nodup/\(∀ w∈N++[v],S w)/\Rw' E (N++[v])/\(N++[v]).head?=some u:=by
 induction h with
 |refl h=>exact⟨[],sS,by simpa using h,by intro a b k;simp[ae]at k,rfl⟩
 |@step y z h d m f=>
  obtain⟨N,g,j,c,l⟩:=f;by_cases k:z∈N++[y]
  .obtain⟨A,B,e⟩:=ij k;refine⟨A,?_,?_,?_,?_⟩
   .grind
   .grind
   .rw[e]at c;exact Rw'.sub (A:=[]) (C:=B) (by simpa using c)
   .cases A<;>simp_all
  .refine⟨N++[y],by grind,by grind,fun a b q=>?_,by cases N<;>simp_all⟩;rw[dz,List.singleton_append,uI]at q;rcases an.1 q with q|q
   .exact c a b q
   .rw[bf]at q;injection q with q1 q2;rw[q1,q2];exact kL.1 d
theorem Hy{M:AN}:∀ {l:AN},(∃ m∈l,m∈M)->∃ A z B,l=A++z::B/\z∈M/\∀ w∈A,w∉M
 |[],h=>by grind
 |a::l,h=>by
  by_cases k:a∈M
  .exact⟨[],a,l,rfl,k,sS⟩
  .obtain⟨A,z,B,b,c,d⟩:=Hy (M:=M) (l:=l) (by grind);exact⟨a::A,z,B,by rw[b];rfl,c,by grind⟩
structure Thg(E:List Ed)(T:(Int->Prop)×(Int->Prop)):Prop where
 kind:(∃ e∈E,(∀ v,¬T.1 v)/\∀ v,T.2 v↔v=e.a\/v=e.b)\/
  ((∃ v,T.1 v)/\(∀ p q,T.1 p->T.1 q->RIn E T.1 p q)/\∀ c,T.2 c->∃ p,T.1 p/\c∈nbr E p)
 off:∀ v,T.1 v->¬T.2 v
 two:∃ a b,T.2 a/\T.2 b/\a≠b
def Dt(E:List Ed)(T:(Int->Prop)×(Int->Prop))(c u:Int):Prop:=T.2 c/\(∃ e∈E,aj e=ay c u)/\(T.1 u\/((∀ v,¬T.1 v)/\T.2 u))
structure By'(F:List AN)(T:(Int->Prop)×(Int->Prop)):Prop where
 on:∀ c,T.2 c->∃ u,(c,u)∈PF F
 off:∀ v,T.1 v->∀ u,(v,u)∉PF F
 new:(∀ v,¬T.1 v)->∀ a b,T.2 a->T.2 b->(a,b)∉PF F
section
variable {E:List Ed} {T:(Int->Prop)×(Int->Prop)} (hT:Thg E T) (c7:∀ e∈E,e.a≠e.b)
include hT c7
theorem Thg.way{F:List AN}(g:By' F T){c u d v:Int}(h:Dt E T c u)(k:Dt E T d v)(V:c≠d):∃ M,WyE E F c d M/\(∀ w∈M,T.1 w)/\(c,u)∈ae (c::(M++[d]))/\(v,d)∈ae (c::(M++[d]))/\((∃ w,T.1 w)->M≠[]):=by
 obtain⟨m,H,U⟩:=h;obtain⟨o,P,Y⟩:=k;rcases hT.kind with⟨e,he,s,j⟩|⟨s,j,z3⟩
 .have t:u=d:=by
   have Q:=(j c).1 m;have R:=(j u).1 (by grind);have S:=(j d).1 o;obtain⟨f,hf,q⟩:=H;have:=c7 f hf;have:=aT q
   grind
  have x:v=c:=by
   have Q:=(j c).1 m;have R:=(j v).1 (by grind);have S:=(j d).1 o;obtain⟨f,hf,q⟩:=P;have:=c7 f hf;have:=aT q
   grind
  subst t x;refine⟨[],⟨by grind,fun a b q=>?_,fun p q=>?_,sS,g.on _ m,g.on _ o⟩,sS,by simp[ae],by simp[ae],fun⟨w,q⟩=>absurd q (s w)⟩
  .simp[ae]at q;rw[q.1,q.2];exact H
  .simp[ae]at q;rw[q];exact g.new s _ _ m o
 .have t:T.1 u:=U.resolve_right fun q=>s.elim q.1;have x:T.1 v:=Y.resolve_right fun q=>s.elim q.1;obtain⟨N,n1,B,Z,C⟩:=Le (j u v t x);have K:=hT.off;have D:∃ J,N++[v]=u::J:=by
   cases N with
   |nil=>exact⟨[],by simp at C;simp[C]⟩
   |cons a N=>exact⟨N++[v],by simp at C;simp[C]⟩
  obtain⟨J,D⟩:=D;have A:ae (c::((N++[v])++[d]))=(c,u)::ae ((N++[v])++[d]):=by rw[D];rfl
  have I:ae ((N++[v])++[d])=ae (N++[v])++[(v,d)]:=by rw[dz];exact uI N v d
  refine⟨N++[v],⟨?_,fun a b q=>?_,fun p q w=>?_,fun w q=>g.off w (B w q),g.on _ m,g.on _ o⟩,B,?_,?_,fun _=>by simp⟩
  .grind
  .rw[A,I]at q;rcases ah.1 q with q|q
   .injection q with n q2;rw[n,q2];exact H
   .rcases an.1 q with q|q
    .exact Z a b q
    .rw[bf]at q;injection q with n q2;rw[n,q2];exact Bo P
  .have O:∀ w,T.1 w->∀ z,(w,z)∉PF F/\(z,w)∉PF F:=fun w L z=>⟨g.off w L z,fun q=>by
    obtain⟨r,W,i⟩:=aX.1 q;obtain⟨z',X⟩:=gX (pX i).2
    exact g.off w L z' (aX.2 ⟨r,W,X⟩)⟩
   obtain⟨a,b⟩:=p;have n:=eU (y:=d) (l:=c::(N++[v])) q;rcases ah.1 n with rfl|n
   .rw[A]at q;rcases ah.1 q with q|q
    .injection q with _ q;exact(O u t a).2 (q ▸ w)
    .rw[I]at q;rcases an.1 q with q|q
     .exact K a (B a (bE q).1) m
     .rw[bf]at q;injection q with q _;exact K a (q ▸ x) m
   .exact(O a (B a n) b).1 w
  .rw[A];exact aw
  .rw[A,I];simp
end
def Thg.dart{E:List Ed}{T:(Int->Prop)×(Int->Prop)}(j:Thg E T)(n:∀ e∈E,e.a≠e.b){c:Int}(d:T.2 c):∃ u,Dt E T c u:=by
 rcases j.kind with⟨e,h,g,f⟩|⟨g,f,m⟩
 .rcases(f c).1 d with rfl|rfl
  .exact⟨e.b,d,⟨e,h,rfl⟩,.inr ⟨g,(f _).2 (.inr rfl)⟩⟩
  .exact⟨e.a,d,⟨e,h,aG _ _⟩,.inr ⟨g,(f _).2 (.inl rfl)⟩⟩
 .obtain⟨p,l,k⟩:=m c d;exact⟨p,d,Bo (kL.1 k),.inl l⟩
def In'(E:List Ed)(s:Int->Int)(A:List (Int×Int))(r:AN)(T:(Int->Prop)×(Int->Prop)):Prop:=∀ c u,Dt E T c u->SdT s A r (cd (c,u))
section
variable {E:List Ed} {s:Int->Int} (hP:PlE E s) {A:List (Int×Int)} {F:List (List Int)} (hE:Emb E s A F) {T:(Int->Prop)×(Int->Prop)} (hT:Thg E T) (hB:By' F T)
include hP hE hT hB
theorem Emb.dart_in{r:AN}(b:r∈F){c u d v:Int}(h:Dt E T c u)(k:Dt E T d v)(a:c≠d)(e:SdT s A r (cd (c,u))):SdT s A r (cd (d,v)):=by obtain⟨M,f,_,g,j,_⟩:=hT.way hP.bl.ne hB h k a;exact hE.wayT hP f g j b e
theorem Emb.in_all{r:AN}(f:r∈F){c u:Int}(h:Dt E T c u)(g:SdT s A r (cd (c,u))):In' E s A r T:=fun d v k=>by
 by_cases e:c=d
 .obtain⟨a,b,n,o,p⟩:=hT.two;have:∃ m,T.2 m/\m≠c:=by
   by_cases q:a=c
   .exact⟨b,o,fun x=>p (q.trans x.symm)⟩
   .exact⟨a,n,q⟩
  obtain⟨m,w,l⟩:=this;obtain⟨t,j⟩:=hT.dart hP.bl.ne w;exact hE.dart_in hP hT hB f j k (e ▸ l) (hE.dart_in hP hT hB f h j l.symm g)
 .exact hE.dart_in hP hT hB f h k e g
theorem Emb.in_ex:∃ r∈F,In' E s A r T:=by obtain⟨a,b,c,g,h⟩:=hT.two;obtain⟨u,e⟩:=hT.dart hP.bl.ne c;obtain⟨v,f⟩:=hB.on a c;obtain⟨r,d,k⟩:=hE.ex hP (p:=(a,u)) e.2.1 f;exact⟨r,d,hE.in_all hP hT hB d e k⟩
theorem Emb.in_on{r:AN}(d:r∈F)(h:In' E s A r T){c:Int}(b:T.2 c):c∈r:=by obtain⟨u,a⟩:=hT.dart hP.bl.ne b;exact hE.here hP d (p:=(c,u)) a.2.1 (h c u a)
theorem Thg.legs{x y c:Int}(U:T.2 x)(V:T.2 y)(S:T.2 c)(h1:x≠y)(h2:y≠c)(h3:x≠c):∃ M u t o z r N g tz,WyE E F x y M/\Dt E T x u/\(x,u)∈ae (x::(M++[y]))/\(t,y)∈ae (x::(M++[y]))/\M=o++z::r/\(∀ w∈M,T.1 w)/\(∀ w∈N,T.1 w)/\
 (c::(N++[z])).Nodup/\(∀ u v,(u,v)∈ae (c::(N++[z]))->∃ e∈E,aj e=ay u v)/\(∀ v∈N,v∉M)/\(c,g)∈ae (c::(N++[z]))/\(tz,z)∈ae (c::(N++[z]))/\Dt E T c g:=by
 obtain⟨u,O⟩:=hT.dart hP.bl.ne U;obtain⟨t,ht⟩:=hT.dart hP.bl.ne V;obtain⟨g,d⟩:=hT.dart hP.bl.ne S;have L:∃ w,T.1 w:=by
  rcases hT.kind with⟨e,he,J,f⟩|⟨J,_⟩
  .have:=(f x).1 U;have:=(f y).1 V;have:=(f c).1 S;grind
  .exact J
 obtain⟨M,W,I,X,Y,w5⟩:=hT.way hP.bl.ne hB O ht h1;have hM:=w5 L;have f:∀ p q,T.1 p->T.1 q->RIn E T.1 p q:=by
  rcases hT.kind with⟨e,he,J,f⟩|⟨_,f,_⟩
  .exact absurd L.choose_spec (J _)
  .exact f
 obtain⟨m,Z,rfl⟩:=my hM;have K:T.1 g:=d.2.2.resolve_right fun q=>q.1 _ L.choose_spec;obtain⟨l,n1,n2,n3,H⟩:=Le (f g m K (I m aw));obtain⟨N,z,B,D,Q,e3⟩:=Hy (M:=m::Z) (l:=l++[m]) ⟨m,sS,aw⟩;obtain⟨o,r,R⟩:=ij Q;have hN:∀ w∈N,T.1 w:=fun w k=>n2 w (by rw[D];simp[k]);have hco:=hT.off;have P:∀ a b,(a,b)∈ae (N++[z])->∃ e∈E,aj e=ay a b:=fun a b k=>n3 a b (by rw[D];have:=Cw [] (N++[z]) B k;simpa using this);have j:(c::(N++[z])).Nodup:=by
  have:T.1 z:=I z Q
  grind
 cases N with
 |nil=>
  have hz:z=g:=by rw[D]at H;simpa using H
  subst hz;exact⟨_,u,t,o,z,r,[],z,c,W,O,X,Y,R,I,sS,j,fun a b q=>by simp[ae]at q;rw[q.1,q.2];exact d.2.1,sS,by simp[ae],by simp[ae],d⟩
 |cons n N=>
  have hn:n=g:=by rw[D]at H;simpa using H
  subst hn;obtain⟨C,h,e5⟩:∃ C h,n::N=C++[h]:=⟨(n::N).dropLast,(n::N).getLast sS,(qe _).symm⟩;refine⟨_,u,t,o,z,r,n::N,n,h,W,O,X,Y,R,I,hN,j,fun a b q=>?_,e3,by simp[ae],?_,d⟩
  .rcases ah.1 q with q|q
   .injection q with q1 q2;rw[q1,q2];exact d.2.1
   .exact P a b q
  .refine FC [c] ?_;show(h,z)∈ae ((n::N)++[z]);rw[e5,dz];exact List.mem_of_mem_getLast? (by rw[show C++([h]++[z])=C++[h,z] from rfl,uI];simp)
end
section
variable {E:List Ed} {s:Int->Int} (hP:PlE E s) {A:List (Int×Int)} {F:List (List Int)} (hE:Emb E s A F) {T T':(Int->Prop)×(Int->Prop)} (hT:Thg E T) (hB:By' F T) (hT':Thg E T') (X4:By' F T') (ho:∀ v,T.1 v->¬T'.1 v)
include hP hE hT hB hT' X4 ho
theorem ZE{r:AN}(l:r.Nodup){x y p q:Int}(h:Cr r x y p q):∃ a b P Q,r=a++b/\b++a=x::(P++y::Q)/\((p∈P/\q∈Q)\/(q∈P/\p∈Q)):=by
 have g:=h.2;obtain⟨a,b,P,Q,c,d⟩:=Fi h.1.1 h.1.2.1 (by intro e;rw[e]at g;unfold iq dt at g;omega);refine⟨a,b,P,Q,c,d,?_⟩;have j:(x::(P++y::Q)).Nodup:=by rw[<- d];grind
 have k:Cr (x::(P++y::Q)) x y p q:=h.mono fun u v w _ _ _=>by rw[<- d];exact(ES (c ▸ l)).2 u v w |>.1 |> fun z=>by rw[c];exact z
 have f:=@eG x y P Q [] j sS sS;have n:=f k.1.1;have o:=f k.1.2.1;have t:=f k.1.2.2.1;have B:=f k.1.2.2.2;have m:=k.2;unfold iq dt at m
 grind
theorem Emb.avo{r:AN}(I:r∈F)(h:In' E s A r T)(h':In' E s A r T'):Avo r T.2 T'.2:=by
 have hn:=hE.simple r I;have o:=fun {c} (k:T.2 c)=>hT.dart hP.bl.ne k;have f:=fun {c} (k:T'.2 c)=>hT'.dart hP.bl.ne k;refine⟨fun a b c d R U l kd q=>?_,fun a b c R U l S V j=>?_⟩
 .have x9:a≠b:=fun e=>by have:=q.2;rw[e]at this;unfold iq dt at this;omega
  have m:c≠d:=fun e=>by have:=q.2;rw[e]at this;unfold iq dt at this;omega
  obtain⟨u,hu⟩:=o R;obtain⟨t,ht⟩:=o U;obtain⟨M,w1,w2,w3,w4,_⟩:=hT.way hP.bl.ne hB hu ht x9;obtain⟨Y,Z,P,Q,p,B,C⟩:=ZE hP hE hT hB hT' X4 ho hn q;have g:∀ {c d},T'.2 c->T'.2 d->c≠d->c∈P->d∈Q->False:=fun {c d} l kd m hp hq=>by obtain⟨u',O⟩:=f l;obtain⟨t',ht'⟩:=f kd;obtain⟨N,v1,v2,v3,v4,_⟩:=hT'.way hP.bl.ne X4 O ht' m;exact hE.no_cross hP w1 w3 w4 I (h a u hu) p B v1 v3 v4 (h' c u' O) hp hq fun v k n=>ho v (w2 v n) (v2 v k)
  rcases C with C|C
  .exact g l kd m C.1 C.2
  .exact g kd l m.symm C.1 C.2
 .by_cases D:a=b
  .exact .inl D
  by_cases H:b=c
  .exact .inr (.inl H)
  by_cases J:a=c
  .exact .inr (.inr J)
  exfalso;have g:∀ x y c,T.2 x->T.2 y->T.2 c->T'.2 x->T'.2 y->T'.2 c->x≠y->y≠c->x≠c->∀ a b P Q,r=a++b->b++a=x::(P++y::Q)->c∈P->False:=by
   intro x y c kx ky l W X j D H J a b P Q p B hcP;obtain⟨Pa,Pb,rfl⟩:=ij hcP;obtain⟨M,u,t,Ma,z,Mb,N,uc,tz,w1,hu,w3,w4,w5,w6,w7,w8,w9,w10,w11,w12,huc⟩:=hT.legs hP hE hB kx ky l D H J;have hi:∃ w,T'.1 w:=by
    rcases hT'.kind with⟨e,he,z1,z2⟩|⟨z1,_⟩
    .have:=(z2 x).1 W;have:=(z2 y).1 X;have:=(z2 c).1 j;grind
    .exact z1
   obtain⟨ix,K⟩:=f W;obtain⟨iy,L⟩:=f X;obtain⟨ic,hic⟩:=f j;obtain⟨N1,v1,v2,v3,v4,v5⟩:=hT'.way hP.bl.ne X4 K L D;obtain⟨N2,x1,x2,x3,x4,x5⟩:=hT'.way hP.bl.ne X4 L hic H
   exact hE.no_three hP w1 w3 w4 I (h x u hu) p B w5 w8 w9 (fun v k=>hB.off v (w7 v k)) w10 w11 w12 (h c uc huc) v1 x1 (v5 hi) (x5 hi)
    (fun v k=>⟨fun n=>ho v (w6 v n) (v2 v k),fun n=>ho v (w7 v n) (v2 v k)⟩) (fun v k=>⟨fun n=>ho v (w6 v n) (x2 v k),fun n=>ho v (w7 v n) (x2 v k)⟩) v3 v4 x3 x4 (h' x ix K)
  have ra:=hE.in_on hP hT hB I h R;have rb:=hE.in_on hP hT hB I h U;have rc:=hE.in_on hP hT hB I h l;obtain⟨Y,Z,P,Q,p,B⟩:=Fi ra rb D;have hc:c∈P\/c∈Q:=by
   have:c∈Z++Y:=by rw[an];rw[p,an]at rc;exact rc.symm
   rw[B]at this
   grind
  rcases hc with k|k
  .exact g a b c R U l S V j D H J Y Z P Q p B k
  .obtain⟨Qa,Qb,rfl⟩:=ij k;refine g a c b R l U S j V J (fD H) D Y Z (P++b::Qa) Qb p (by rw[B];simp) sS
end
def Rt.rev{l m:AN}(h:Rt l m):Rt l.reverse m.reverse:=by obtain⟨a,b,rfl,rfl⟩:=h;exact⟨b.reverse,a.reverse,sS,sS⟩
def FK(r:AN)(u v:Int):(u,v)∈ao r.reverse↔(v,u)∈ao r:=by
 cases r with
 |nil=>simp[ao,ae]
 |cons x l=>
  have a:(ao (x::l).reverse).Perm (ao (x::l.reverse)):=by rw[qq];exact rY l.reverse [x]
  have b:ao (x::l.reverse)=ae (x::(l++[x])).reverse:=by unfold ao;simp
  rw[a.mem_iff,b,<- qI];unfold ao;simp
structure Kr(E:List Ed)(T:(Int->Prop)×(Int->Prop))(r:AN):Prop where
 nd:r.Nodup
 len:3<=r.length
 ed:∀ u v,(u,v)∈ao r->∃ e∈E,aj e=ay u v
 off:∀ v∈r,¬T.1 v
 on:∀ v,T.2 v->v∈r
 new:(∀ v,¬T.1 v)->∀ a b,T.2 a->T.2 b->(a,b)∉ao r
theorem Kr.rt{E:List Ed}{T:(Int->Prop)×(Int->Prop)}{r f:AN}(h:Kr E T r)(k:Rt r f):Kr E T f:=by obtain⟨a,b,rfl,rfl⟩:=k;have e:∀ p,p∈ao (b++a)↔p∈ao (a++b):=fun p=>(rY b a).mem_iff;obtain⟨l,m,g,n,o,j⟩:=h;exact⟨by grind,by grind,fun u v=>by rw[e];exact g u v,by grind,by grind,fun q c d=>by rw[e];exact j q c d⟩
def Kr.rev{E:List Ed}{T:(Int->Prop)×(Int->Prop)}{r:AN}(h:Kr E T r):Kr E T r.reverse:=by obtain⟨a,b,e,f,g,l⟩:=h;exact⟨(jw r).nodup_iff.2 a,by simpa using b,fun u v k=>Bo (e v u ((FK r u v).1 k)),by simpa using f,by simpa using g,fun q c d i j k=>l q d c j i ((FK r c d).1 k)⟩
theorem Avo.rt{r c:AN}{C D:Int->Prop}(d:r.Nodup)(h:Avo r C D)(k:Rt r c):Avo c C D:=by obtain⟨a,b,rfl,rfl⟩:=k;exact h.rot d
def jK{r:AN}{p:Int×Int}:p∈PF [r,r.reverse]↔p∈ao r\/p.swap∈ao r:=by rw[show PF [r,r.reverse]=ao r++ao r.reverse by simp[PF],an];exact or_congr mo (FK r p.1 p.2)
section
variable {E:List Ed} {s:Int->Int} (hP:PlE E s) {T:(Int->Prop)×(Int->Prop)}
include hP
theorem Kr.emb{r:AN}(h:Kr E T r):Emb E s (ao r) [r,r.reverse]:=by
 obtain⟨b,a,c,f,g,j⟩:=h
 match r,a with
 |x::y::l,a=>
  obtain⟨N,z,e⟩:∃ N z,y::l=N++[z]:=⟨_,_,(qe (List.cons_ne_nil y l)).symm⟩;rw[e]at b a c ⊢;have d:Rng E x z N:=⟨b,by intro e;rw[e]at a;simp at a,c⟩;have:=d.emb hP
  rwa [show(x::(N++[z])).reverse=z::(N.reverse++[x]) by simp]
omit hP in
theorem Kr.by'{r:AN}(h:Kr E T r):By' [r,r.reverse] T:=by
 refine⟨fun c g=>?_,fun v d u k=>?_,fun q a b e f k=>?_⟩
 .obtain⟨u,j⟩:=gX (h.on c g);exact⟨u,jK.2 (.inl j)⟩
 .rcases jK.1 k with k|k
  .exact h.off v (pX k).1 d
  .exact h.off v (pX (x:=u) (y:=v) k).2 d
 .rcases jK.1 k with k|k
  .exact h.new q a b e f k
  .exact h.new q b a f e k
theorem Emb.kr{A:List (Int×Int)}{F:List AN}(e:Emb E s A F)(f:Thg E T)(d:By' F T){r:AN}(c:r∈F)(h:In' E s A r T)(g:3<=r.length):Kr E T r:=
 ⟨e.simple r c,g,fun u v k=>e.sub (aX.2 ⟨r,c,k⟩),fun v l k=>by obtain⟨u,j⟩:=gX l;exact d.off v k u (aX.2 ⟨r,c,j⟩),fun v k=>e.in_on hP f d c h k,fun q a b m n k=>d.new q a b m n (aX.2 ⟨r,c,k⟩)⟩
theorem pieces(hT:Thg E T){r:AN}(hk:Kr E T r){x y:Int}{P Q M:AN}(hrt:Rt r (x::(P++y::Q)))(hx:T.2 x)(hy:T.2 y)(hn:(x::(M++[y])).Nodup)(hed:∀ u v,(u,v)∈ae (x::(M++[y]))->∃ e∈E,aj e=ay u v)(hM:∀ v∈M,T.1 v)(J:M=[]->∀ v,¬T.1 v)
 {D:(Int->Prop)×(Int->Prop)->Prop} (K:∀ S,D S->Thg E S/\(∀ v,S.1 v->T.1 v/\v∉M)/\(∀ v,S.2 v->v∈M\/T.2 v)/\((∀ v,¬S.1 v)->(∃ v,S.2 v/\v∈M)/\∀ a b,S.2 a->S.2 b->(a,b)∉ae (x::(M++[y])))) (hd:∀ S d,D S->D d->S≠d->∀ v,S.1 v->¬d.1 v):
 ∃ side:(Int->Prop)×(Int->Prop)->Bool,∀ S,D S->Kr E S (if side S then x::(P++y::M.reverse)else y::(Q++x::M))/\∀ d,D d->S≠d->side S=side d->Avo (if side S then x::(P++y::M.reverse)else y::(Q++x::M)) S.2 d.2:=by
 have hE:=hk.emb hP;have F:=hk.by';have L:=hP.bl.ne;obtain⟨q,hq,n9⟩:=hE.in_ex hP hT F;have J6:x≠y:=by grind
 obtain⟨u,hu⟩:∃ u,(x,u)∈ae (x::(M++[y])):=by cases M with|nil=>exact⟨y,by simp[ae]⟩|cons m M=>exact⟨m,by simp[ae]⟩
 obtain⟨t,ht⟩:∃ t,(t,y)∈ae (x::(M++[y])):=by obtain⟨N,t,e⟩:∃ N t,x::M=N++[t]:=⟨_,_,(qe (List.cons_ne_nil x M)).symm⟩;exact⟨t,by rw[<- List.cons_append,e,dz,show [t]++[y]=[t,y] from rfl,uI];simp⟩
 have g:∀ v∈M,∀ w,(v,w)∉PF [r,r.reverse]:=fun v k=>F.off v (hM v k);have hw:WyE E [r,r.reverse] x y M:=by
  refine⟨hn,hed,fun p K k=>?_,g,F.on x hx,F.on y hy⟩;obtain⟨a,b⟩:=p;have h1:=eU (y:=y) (l:=x::M) K;rcases ah.1 h1 with rfl|h1
  .have B:=iP K;rcases an.1 B with B|B
   .exact g b B a (jK.2 ((jK.1 k).symm.imp id id))
   .rw[bf]at B;subst B;cases M with
    |nil=>exact F.new (J rfl) _ _ hx hy k
    |cons m M=>
     have:(a,m)∈ae (a::(m::M++[b])):=by simp[ae]
     have:=fK hn K this
     grind
  .exact g a h1 b k
 have hdu:Dt E T x u:=by
  refine⟨hx,hed x u hu,?_⟩;have B:=iP hu;rcases an.1 B with B|B
  .exact .inl (hM u B)
  .rw[bf]at B;subst B;cases M with
   |nil=>exact .inr ⟨J rfl,hy⟩
   |cons m M=>
    have:(x,m)∈ae (x::(m::M++[u])):=by simp[ae]
    have:=fK hn hu this
    grind
 obtain⟨j,o,F',A⟩:=hE.layAt hP hw hu ht hq (n9 x u hdu);have hF':∀ z∈F',z=r\/z=r.reverse:=fun z k=>by have:=A.perm.mem_iff.2 (ar _ k);simpa using this
 have mr:∀ v,(∃ w,(v,w)∈PF [r,r.reverse])->v∉M:=fun v ⟨w,k⟩ q=>g v q w k;have onr:∀ v,(v=x\/v=y\/T.2 v)->∃ w,(v,w)∈PF [r,r.reverse]:=fun v k=>F.on v (by grind);have Y2:∀ S,D S->By' ((x::(j++y::M.reverse))::(y::(o++x::M))::F') S:=fun S k=>by
  obtain⟨n,U,k3,k4⟩:=K S k;refine⟨fun c hc=>?_,fun v hv w i=>?_,fun z a b ka kb i=>?_⟩
  .rcases k3 c hc with h|h
   .obtain⟨w,i⟩:=gX (r:=x::(j++y::M.reverse)) (v:=c) (aa h);exact⟨w,aX.2 ⟨_,aw,i⟩⟩
   .obtain⟨w,i⟩:=F.on c h;exact⟨w,(A.mem _).2 (.inl i)⟩
  .obtain⟨v1,v2⟩:=U v hv;have vw:v∉x::(M++[y]):=fun i=>by
    have:=hT.off v v1
    grind
   rcases(A.mem _).1 i with i|i|i
   .exact F.off v v1 w i
   .exact vw (bE i).1
   .exact vw (bE (x:=w) (y:=v) i).2
  .obtain⟨⟨m,m1,m2⟩,k5⟩:=k4 z;rcases(A.mem _).1 i with i|i|i
   .have ha:=mr a ⟨b,i⟩;have hb':=mr b ⟨a,jK.2 ((jK.1 i).symm.imp id id)⟩;obtain⟨e,W,eq⟩:=hE.sub i;have:=L e W;have:=aT (u:=e.a) (v:=e.b) (x:=a) (y:=b) eq;rcases n.kind with⟨f,hf,_,z2⟩|⟨⟨v,z1⟩,_⟩
    .have:=(z2 m).1 m1;have:=(z2 a).1 ka;have:=(z2 b).1 kb
     grind
    .exact z v z1
   .exact k5 a b ka kb i
   .exact k5 b a kb ka i
 have H:∀ S,D S->∃ c:Bool,In' E s (ae (x::(M++[y]))++ao r) (if c then x::(j++y::M.reverse)else y::(o++x::M)) S:=fun S k=>by
  obtain⟨n,U,k3,k4⟩:=K S k;obtain⟨z,R,hi⟩:=A.emb.in_ex hP n (Y2 S k);have:z∉F':=fun Z=>by
   by_cases c:∃ v,S.2 v/\v∈M
   .obtain⟨v,v1,v2⟩:=c;have:=A.emb.in_on hP n (Y2 S k) R hi v1;have:v∈r:=by rcases hF' z Z with e|e<;>rw[e]at this<;>simpa using this
    obtain⟨w,i⟩:=gX this;exact g v v2 w (jK.2 (.inl i))
   .obtain⟨a,_,ha,_⟩:=n.two;have hTa:=(k3 a ha).resolve_left fun i=>c ⟨a,ha,i⟩;obtain⟨w,hw⟩:=n.dart L ha;have P6:S.1 w:=hw.2.2.resolve_right fun i=>c (k4 i.1).1;obtain⟨v0,hv0⟩:=F.on a hTa;have hs:=A.side (a,w) hw.2.1 v0 hv0 (n9 a w ⟨hTa,hw.2.1,.inl (U w P6).1⟩);have hz2:=hi a w hw;rcases hs with hs|hs
    .have:=A.emb.fn hP R aw hz2 hs;have X:=A.emb.nd;obtain⟨i,K7⟩:=gX (r:=z) (v:=x) (by rw[this];simp);have Y:(ao (x::(j++y::M.reverse))++(ao (y::(o++x::M))++PF F')).Nodup:=X;exact(bw.1 Y).2.2 _ (this ▸ K7) _ (dv _ (aX.2 ⟨z,Z,K7⟩)) rfl
    .have:=A.emb.fn hP R (ar _ aw) hz2 hs;have X:=A.emb.nd;obtain⟨i,K7⟩:=gX (r:=z) (v:=x) (by rw[this];simp);have Y:(ao (x::(j++y::M.reverse))++(ao (y::(o++x::M))++PF F')).Nodup:=X;exact(bw.1 (bw.1 Y).2.1).2.2 _ (this ▸ K7) _ (aX.2 ⟨z,Z,K7⟩) rfl
  rcases ah.1 R with e|R
  .exact⟨true,e ▸ hi⟩
  .rcases ah.1 R with e|R
   .exact⟨false,e ▸ hi⟩
   .exact absurd R this
 obtain⟨c,hc⟩:∃ c:(Int->Prop)×(Int->Prop)->Bool,∀ S,D S->In' E s (ae (x::(M++[y]))++ao r) (if c S then x::(j++y::M.reverse)else y::(o++x::M)) S:=
  ⟨fun S=>open Classical in if h:D S then(H S h).choose else true,fun S k=>by simp only[pj k];exact(H S k).choose_spec⟩
 have hrq:Rt q (x::(j++y::o)):=by obtain⟨a,b,e1,e2⟩:=A.rot;exact⟨a,b,e1,e2.symm⟩
 have U5:q.Nodup:=hE.simple q hq;have O:∀ b:Bool,(if b then x::(j++y::M.reverse)else y::(o++x::M))∈(x::(j++y::M.reverse))::(y::(o++x::M))::F':=fun b=>by cases b<;>simp
 have hlen:∀ b:Bool,3<=(if b then x::(j++y::M.reverse)else y::(o++x::M)).length:=fun b=>by
  have W0:M=[]->∀ i,i=(x,y)\/i=(y,x)->i∉ao q:=fun e i hi k=>by
   have k:=aX.2 ⟨q,hq,k⟩;rcases hi with rfl|rfl
   .exact F.new (J e) _ _ hx hy k
   .exact F.new (J e) _ _ hy hx k
  have hpq:∀ i,i∈ao (x::(j++y::o))->i∈ao q:=fun i k=>by obtain⟨a,b,e1,e2⟩:=hrq;rw[e1,(rY a b).mem_iff,<- e2];exact k
  cases hm:M with
  |cons m M=>cases b<;>simp<;>omega
  |nil=>
   cases b with
   |true=>
    cases Z7:j with
    |cons m M=>simp
    |nil=>exact absurd (hpq _ (by rw[Z7,cC];left;simp[ae])) (W0 hm _ (.inl rfl))
   |false=>
    cases Z7:o with
    |cons m M=>simp
    |nil=>exact absurd (hpq _ (by rw[Z7,cC];right;simp[ae])) (W0 hm _ (.inr rfl))
 have kr:∀ S,D S->Kr E S (if c S then x::(j++y::M.reverse)else y::(o++x::M)):=fun S k=>A.emb.kr hP (K S k).1 (Y2 S k) (O _) (hc S k) (hlen _)
 have av:∀ S d,D S->D d->S≠d->c S=c d->Avo (if c S then x::(j++y::M.reverse)else y::(o++x::M)) S.2 d.2:=fun S d k I L W=>
  A.emb.avo hP (K S k).1 (Y2 S k) (K d I).1 (Y2 d I) (hd S d k I L) (O _) (hc S k) (by rw[W];exact hc d I)
 have V:∀ {P' Q':AN},Rt q (x::(P'++y::Q'))->j=P'/\o=Q':=fun {P' Q'} h=>by obtain⟨a,b,e1,e2⟩:=hrq;obtain⟨a',b',f1,f2⟩:=h;exact FN (by rw[<- f1];exact U5) (f1.symm.trans e1) f2.symm e2.symm
 have N9:q=r\/q=r.reverse:=by simpa using hq
 rcases N9 with e|e
 .obtain⟨rfl,rfl⟩:=V (e ▸ hrt);exact⟨c,fun S k=>⟨kr S k,fun d I=>av S d k I⟩⟩
 .have h1:Rt (x::(P++y::Q)).reverse (x::(Q.reverse++y::P.reverse)):=⟨Q.reverse++y::P.reverse,[x],sS,sS⟩;obtain⟨rfl,rfl⟩:=V (e ▸ hrt.rev.trans h1);have t1:Rt (x::(Q.reverse++y::M.reverse)).reverse (y::(Q++x::M)):=⟨M,y::Q++[x],sS,sS⟩;have t2:Rt (y::(P.reverse++x::M)).reverse (x::(P++y::M.reverse)):=⟨M.reverse,x::P++[y],sS,sS⟩;refine⟨fun S=>!c S,fun S k=>?_⟩;have n:=kr S k;have U:=av S;cases C:c S with
  |true=>simp only[C,dE]at n U;simp only[C,Bool.not_true,iv,gx];exact⟨n.rev.rt t1,fun d I L W=>((U d k I L (by simpa[C]using W)).rev n.nd).rt n.rev.nd t1⟩
  |false=>simp only[C,iv,gx]at n U;simp only[C,Bool.not_false,dE];exact⟨n.rev.rt t2,fun d I L W=>((U d k I L (by simpa[C]using W)).rev n.nd).rt n.rev.nd t2⟩
end
def QO{vs S:AN}(h:∃ v∈vs,v∈S):fst' vs S<vs.length/\vs.getD (fst' vs S) 0∈S:=by obtain⟨v,b,c⟩:=h;have a:fst' vs S<vs.length:=List.findIdx_lt_length_of_exists ⟨v,b,by simpa using c⟩;refine⟨a,?_⟩;have:=yo (w:=a);rw[cp,cg a];exact nj this
def Qc(b:dm)(F:List AN):(cA b F.zipIdx).1<0\/∃ k:Nat,(cA b F.zipIdx).1=k/\k<F.length/\∀ v∈b.ends,v∈F.getD k []:=by
 have a:∀(l:List (AN×Nat)) (p:Int×Int),(∀ q∈l,q.2<F.length/\F.getD q.2 []=q.1)->(p.1<0\/∃ k:Nat,p.1=k/\k<F.length/\∀ v∈b.ends,v∈F.getD k [])->
  ((l.foldl (nH b) p).1<0\/∃ k:Nat,(l.foldl (nH b) p).1=k/\k<F.length/\∀ v∈b.ends,v∈F.getD k []):=by
  intro l;induction l with
  |nil=>intro p _ h;exact h
  |cons q l n=>
   intro p d f;rw[List.foldl_cons];refine n _ (fun r j=>d r (ar _ j)) ?_;obtain⟨o,s⟩:=d q aw;unfold nH;by_cases e:off b.ends q.1=[]
   .rw[ad e];by_cases c:p.2=0
    .rw[ad c];refine .inr ⟨q.2,rfl,o,fun v m=>?_⟩;rw[s];refine fv fun t=>?_;have:v∈off b.ends q.1:=fN.2 ⟨m,t⟩;rw[e]at this;cases this
    .rw[ac c];exact f
   .rw[ac e];exact f
 refine a F.zipIdx (-1,0) (fun q g=>?_) (.inl sS);obtain⟨r,k⟩:=q;have:=List.mem_zipIdx g;simp only[je,jd,Nat.sub_zero,true_and]at this;refine⟨this.1,?_⟩;rw[cp,cg this.1];exact this.2.symm
section
variable {E:List Ed} (hT:Tc E)
include hT
def uh(E:List Ed)(h:Sh)(r:dm×Int):Prop:=(∀ v∈r.1.ends,v∈ai E)/\(r.2<0\/jb E h.L h.on r.1/\∃ k:Nat,r.2=k/\k<h.F.length/\∀ v∈r.1.ends,v∈h.F.getD k [])
omit hT in
theorem Dg{h:Sh}:∀(B:List dm) (a:dm×Int),(∀ b∈B,jb E h.L h.on b)->uh E h a->uh E h (bG h.F B a)
 |[],a,_,hb=>hb
 |b::B,a,hB,hb=>by
  have d:=hB b aw;have e:uh E h (b,(cA b h.F.zipIdx).1):=⟨fun v g=>(d.en v g).2,(Qc b h.F).imp id fun k=>⟨d,k⟩⟩;unfold bG
  split
  .exact e
  .refine Dg B _ (fun c f=>hB c (ar _ f)) ?_
   split
   .exact e
   .exact hb
omit hT in
theorem Drn.two{h:Sh}(c:Drn E h)(o:∀ e∈E,e.a≠e.b):∃ u v,u∈h.on/\v∈h.on/\u≠v:=by
 cases f:h.L with
 |nil=>
  have d:∀ v,v∉h.on:=fun v j=>by obtain⟨u,_,k⟩:=(c.on v).1 j;rw[f]at k;cases k
  have g:=c.cnt;rw[f,ul.2 fun v _=>by simpa using d v]at g;cases l:h.F with
  |nil=>rw[l]at g;simp at g
  |cons r F=>
   have n:r∈h.F:=by rw[l];exact aw
   obtain⟨v,j⟩:=gS _ (c.ne r n);exact absurd (c.ring_on n j) (d v)
 |cons p L=>
  obtain⟨e,q,rfl⟩:=c.sub p (by rw[f];exact aw);have m:aj e∈h.L:=by rw[f];exact aw
  have:=o e q;exact⟨e.a,e.b,(c.on _).2 ⟨e.b,fun k=>this k.symm,by rw[aG];exact m⟩,(c.on _).2 ⟨e.a,this,m⟩,this⟩
omit hT in
theorem Drn.link_on{h:Sh}(b:Drn E h){x y:Int}(a:x≠y)(c:ay x y∈h.L):x∈h.on/\y∈h.on:=
 ⟨(b.on x).2 ⟨y,fun e=>a e.symm,by rw[aG];exact c⟩,(b.on y).2 ⟨x,a,c⟩⟩
theorem Ho{h:Sh}(o:Drn E h){b:dm}(D:jb E h.L h.on b):∃ u v,u∈b.ends/\v∈b.ends/\u≠v:=by
 rcases D.kind with⟨_,e,J,_,k⟩|⟨I,g,N,B,O⟩
 .exact⟨e.a,e.b,by rw[k];simp,by rw[k];simp,hT.ne e J⟩
 refine fv fun M=>?_;obtain⟨u,v,s,K,x⟩:=o.two hT.ne;obtain⟨p,l⟩:=gS _ I;obtain⟨c,F⟩:∃ c,∀ z∈b.ends,z=c:=by
  cases C:b.ends with
  |nil=>exact⟨0,sS⟩
  |cons c R=>exact⟨c,fun z f=>fv fun k=>M ⟨z,c,by rw[C];exact f,by rw[C];exact aw,k⟩⟩
 have n:∀ t,t∈h.on->t≠c->p≠c->False:=fun t H r d=>by have q:=hT.con c p t (g p l).1 (o.on_vs H) d r;have:=q.closed (L:=fun z=>z∈b.inner) l fun z f w y A=>(B z f w y).resolve_right fun k=>A (F w k);exact(g t this).2 H
 by_cases d:p=c
 ·
  have j:∀ z∈b.ends,False:=fun z f=>by have:=(D.en z f).1;rw[F z f,<- d]at this;exact(g p l).2 this
  have q:=hT.con (max p u+1) p u (g p l).1 (o.on_vs s) oO oO;have:=q.closed (L:=fun z=>z∈b.inner) l fun z f w y _=>(B z f w y).resolve_right fun k=>j w k;exact(g u this).2 s
 .by_cases m:u=c
  .exact n v K (fun k=>x (by rw[m,k])) d
  .exact n u s m d
theorem YI{h:Sh}(hD:Drn E h){b:dm}(D:jb E h.L h.on b):∃ w,Mx ⟨ai E,E⟩ b=some w/\w.Nodup/\2<=w.length/\w.length<=200/\(∀ v∈w,v∈ai E)/\w.getD 0 0∈b.ends/\w.getD (w.length-1) 0∈b.ends/\(∀ v∈dH w,v∉h.on)/\
 (∀ x y,(x,y)∈ae w->ay x y∉h.L/\∃ e∈E,aj e=ay x y)/\(∀ v∈dH w,v∈b.inner)/\(b.inner≠[]->dH w≠[]):=by
 obtain⟨u,v,U,V,huv⟩:=Ho hT hD D;obtain⟨f1,I⟩:=QO (vs:=ai E) (S:=b.ends) ⟨u,(D.en u U).2,U⟩;have Z:Ct ⟨ai E,E⟩ b=(ai E).getD (fst' (ai E) b.ends) 0:=rfl;rw[<- Z]at I;have X:∃ z∈ai E,z∈lO ⟨ai E,E⟩ b:=by
  unfold lO;by_cases k:u=Ct ⟨ai E,E⟩ b
  .exact⟨v,(D.en v V).2,by rw[cx];exact⟨V,by simpa using fun e=>huv (by rw[k,e])⟩⟩
  .exact⟨u,(D.en u U).2,by rw[cx];exact⟨U,by simpa using k⟩⟩
 obtain⟨g1,o⟩:=QO X;have hto:nu ⟨ai E,E⟩ b=(ai E).getD (fst' (ai E) (lO ⟨ai E,E⟩ b)) 0:=rfl;rw[<- hto]at o;unfold lO at o;rw[cx,gg]at o;have hw:Mx ⟨ai E,E⟩ b=if dT (ai E) b.inner=[]then some [Ct ⟨ai E,E⟩ b,nu ⟨ai E,E⟩ b]else uT (ai E) (cQ (sQ ⟨ai E,E⟩ b.inner).E) (iw (ai E) b.inner) (Ct ⟨ai E,E⟩ b) (nu ⟨ai E,E⟩ b) 1000:=by unfold Mx;rw[ad ⟨f1,g1⟩]
 rw[hw];generalize Ct ⟨ai E,E⟩ b=K at *;generalize nu ⟨ai E,E⟩ b=N at *;have j:=D.en K I;have l:=D.en N o.1;have O:K≠N:=fun e=>o.2 e.symm;rcases D.kind with⟨P,e,r,Y,O0⟩|⟨P,t,h2,h3,h4⟩
 .have W:dT (ai E) b.inner=[]:=by rw[P];unfold dT;simp
  rw[ad W];refine⟨_,rfl,by simpa using O,sS,sS,?_,by simpa using I,by simpa using o.1,by simp[dH],fun x y s=>?_,by simp[dH],fun k=>absurd P k⟩
  .intro z g;rcases ah.1 g with rfl|g
   .exact j.2
   .rw[bf.1 g];exact l.2
  .simp only[ae,bf,fx]at s;obtain⟨rfl,rfl⟩:=s;have d:=I;have c:=o.1;rw[O0]at d c;simp at d c;have J:aj e=ay x y:=by
    show ay e.a e.b=_;rcases d with rfl|rfl
    .rcases c with rfl|rfl
     .exact absurd rfl O
     .rfl
    .rcases c with rfl|rfl
     .exact aG _ _
     .exact absurd rfl O
   exact⟨by rw[<- J];exact Y,e,r,J⟩
 .obtain⟨p0,M⟩:=gS _ P;have W:dT (ai E) b.inner≠[]:=kv (mI.2 ⟨(t p0 M).1,M⟩);rw[ac W];have C:∀ v∈ai E,iw (ai E) b.inner v=decide (v∈b.inner):=fun v V=>by unfold iw NK;rw[ad V]
  have m:∀ e,e∈(sQ ⟨ai E,E⟩ b.inner).E↔e∈E/\(e.a∈b.inner\/e.b∈b.inner):=fun e=>by
   show e∈E.filter _↔_;rw[cx];constructor
   .rintro⟨d,c⟩;rw[C _ ((aK _ _).2 ⟨e,d,.inl rfl⟩),C _ ((aK _ _).2 ⟨e,d,.inr rfl⟩)]at c;exact⟨d,by simpa using c⟩
   .rintro⟨d,c⟩;rw[C _ ((aK _ _).2 ⟨e,d,.inl rfl⟩),C _ ((aK _ _).2 ⟨e,d,.inr rfl⟩)];exact⟨d,by simpa using c⟩
  have F:∀ x y,(x∈b.inner\/y∈b.inner)->y∈nbr E x->y∈cQ (sQ ⟨ai E,E⟩ b.inner).E x:=fun x y s hn=>by
   obtain⟨e,r,k⟩:=kL.1 hn;refine lM.2 ⟨e,(m e).2 ⟨r,?_⟩,k⟩;rcases aT k with⟨d,c⟩|⟨d,c⟩
   .rw[d,c];exact s
   .rw[d,c];exact s.symm
  have f:∀ x y,y∈cQ (sQ ⟨ai E,E⟩ b.inner).E x->(∃ e∈E,aj e=ay x y)/\(x∈b.inner\/y∈b.inner):=fun x y hn=>by
   obtain⟨e,r,k⟩:=lM.1 hn;obtain⟨r,R⟩:=(m e).1 r;refine⟨⟨e,r,k⟩,?_⟩;rcases aT k with⟨d,c⟩|⟨d,c⟩
   .rw[d,c]at R;exact R
   .rw[d,c]at R;exact R.symm
  obtain⟨w,w1,w2,w3,w4,w5,w6,w7,w8,w9⟩:=Mi (may:=iw (ai E) b.inner) (fun x y hy=>by obtain⟨⟨e,r,k⟩,_⟩:=f x y hy;exact(dQ r k).2) j.2 l.2 O (n:=1000) (by have:=hT.few.1;omega) fun S Q=>by
   obtain⟨p,J,kp⟩:=h4 K I;obtain⟨q,T,kq⟩:=h4 N o.1;have sp:S p:=Q.2 K Q.1 (.inl rfl) p (F K p (.inr J) (lA kp));have sq:q∈b.inner/\S q:=(h2 p J q T).closed (L:=fun z=>z∈b.inner/\S z) ⟨J,sp⟩ fun z g y hy hyi=>by obtain⟨H,g⟩:=g;exact⟨hyi,Q.2 z g (.inr (by rw[C z (t z H).1];simpa using H)) y (F z y (.inl H) hy)⟩
   exact Q.2 q sq.2 (.inr (by rw[C q (t q T).1];simpa using T)) N (F q N (.inl T) kq)
  refine⟨w,w1,w2,w3,by have:=hT.few.1;omega,w5,by rw[w6];exact I,by rw[w7];exact o.1,fun z g=>?_,fun x y s=>?_,fun z g=>?_,fun _ e=>?_⟩
  .have k:=w9 z g;rw[C z (w5 z (nE g))]at k;exact(t z (by simpa using k)).2
  .obtain⟨d,c⟩:=f x y (w8 x y s);refine⟨fun hm=>?_,d⟩;obtain⟨o1,o2⟩:=hD.link_on ((dL w2).2 x y s).1 hm;rcases c with c|c
   .exact(t x c).2 o1
   .exact(t y c).2 o2
  .have k:=w9 z g;rw[C z (w5 z (nE g))]at k;simpa using k
  .have hm:(w.getD 0 0,w.getD (w.length-1) 0)∈ae w:=by have ew:=mZ w3;rw[e]at ew;generalize w.getD 0 0=A at *;generalize w.getD (w.length-1) 0=B at *;rw[ew];simp[ae]
   obtain⟨_,k⟩:=f _ _ (w8 _ _ hm);rw[w6,w7]at k;rcases k with k|k
   .exact(t _ k).2 j.1
   .exact(t _ k).2 l.1
end
def tb(b:dm):(Int->Prop)×(Int->Prop):=(fun v=>v∈b.inner,fun v=>v∈b.ends)
def St'(E:List Ed)(h:Sh)(T:(Int->Prop)×(Int->Prop)):Prop:=∃ b,jb E h.L h.on b/\T=tb b
def Xs{b c:dm}(a:∀ v,v∈b.inner↔v∈c.inner)(d:∀ v,v∈b.ends↔v∈c.ends):tb b=tb c:=by unfold tb;rw[fx];exact⟨funext fun v=>propext (a v),funext fun v=>propext (d v)⟩
def uS{E:List Ed}{L:List (Int×Int)}{m:AN}{b c:dm}(j:jb E L m b)(k:jb E L m c){v:Int}(f:v∈b.inner)(g:v∈c.inner):(∀ u,u∈b.inner->u∈c.inner)/\∀ u,u∈b.ends->u∈c.ends:=by
 rcases j.kind with⟨d,_⟩|⟨_,n,o,A,r⟩
 .rw[d]at f;simp at f
 rcases k.kind with⟨d,_⟩|⟨_,s,B,h,C⟩
 .rw[d]at g;simp at g
 have l:∀ u,u∈b.inner->u∈c.inner:=fun u a=>(o v f u a).closed (L:=fun z=>z∈c.inner) g fun z y w x e=>(h z y w x).resolve_right fun q=>(n w e).2 (k.en w q).1;refine⟨l,fun u a=>?_⟩;obtain⟨p,t,q⟩:=r u a;exact(h p (l p t) u q).resolve_left fun i=>(s u i).2 (j.en u a).1
def Wp{E:List Ed}{L:List (Int×Int)}{g:AN}{b c:dm}(a:jb E L g b)(d:jb E L g c){v:Int}(e:v∈b.inner)(f:v∈c.inner):tb b=tb c:=
 Xs (fun u=>⟨(uS a d e f).1 u,(uS d a f e).1 u⟩) fun u=>⟨(uS a d e f).2 u,(uS d a f e).2 u⟩
def PM{E:List Ed}{h:Sh}{T e:(Int->Prop)×(Int->Prop)}(k:St' E h T)(l:St' E h e)(f:T≠e):∀ v,T.1 v->¬e.1 v:=fun v a b=>by obtain⟨c,g,rfl⟩:=k;obtain⟨d,j,rfl⟩:=l;exact f (Wp g j a b)
def rz(T:(Int->Prop)×(Int->Prop))(e:Ed):Prop:=T.1 e.a\/T.1 e.b\/((∀ v,¬T.1 v)/\T.2 e.a/\T.2 e.b)
def Kq(E:List Ed)(T:(Int->Prop)×(Int->Prop))(r:AN):Prop:=∃ a s,PlE a s/\Kr a T r/\(∀ e∈a,∃ f∈E,aj f=aj e)/\∀ e∈E,rz T e->∃ f∈a,aj f=aj e
theorem Kq.rev{E:List Ed}{T:(Int->Prop)×(Int->Prop)}{r:AN}(h:Kq E T r):Kq E T r.reverse/\r.Nodup:=by obtain⟨b,s,c,a,d,e⟩:=h;exact⟨⟨b,s,c,a.rev,d,e⟩,a.nd⟩
theorem Thg.by{E m:List Ed}{T:(Int->Prop)×(Int->Prop)}(h:Thg E T)(o:∀ e∈E,rz T e->∃ f∈m,aj f=aj e):Thg m T:=by
 have r:∀ p q,(T.1 p\/T.1 q)->q∈nbr E p->q∈nbr m p:=fun p q l t=>by
  obtain⟨e,n,k⟩:=kL.1 t
  obtain⟨f,hf,C⟩:=o e n (by
   unfold rz
   rcases aT k with⟨g,d⟩|⟨g,d⟩<;>rw[g,d]<;>grind)
  exact kL.2 ⟨f,hf,C.trans k⟩
 refine⟨?_,h.off,h.two⟩;rcases h.kind with⟨e,n,g,d⟩|⟨g,d,D⟩
 .obtain⟨f,hf,k⟩:=o e n (.inr (.inr ⟨g,(d _).2 (.inl rfl),(d _).2 (.inr rfl)⟩));refine .inl ⟨f,hf,g,fun v=>(d v).trans ?_⟩;rcases aT (u:=f.a) (v:=f.b) (x:=e.a) (y:=e.b) k with⟨i,j⟩|⟨i,j⟩<;>rw[i,j];exact Or.comm
 .refine .inr ⟨g,fun p q l w=>?_,fun c s=>?_⟩
  .have:=d p q l w;induction this with
   |refl h=>exact .refl h
   |step h A z B=>exact .step (B h.here.2) (r _ _ (.inl h.here.2) A) z
  .obtain⟨p,l,k⟩:=D c s;exact⟨p,l,r p c (.inl l) k⟩
structure Exd(E:List Ed)(h:Sh):Prop where
 drn:Drn E h
 rgs:Rgs h.F
 al:∃ α,Al h.F (St' E h) (fun T=>T.2) (Kq E) α
section
variable {E:List Ed} (hT:Tc E)
include hT
theorem zX{h:Sh}(k:Drn E h){b:dm}(d:jb E h.L h.on b):Thg E (tb b):=by
 refine⟨?_,fun v a f=>?_,Ho hT k d⟩
 .rcases d.kind with⟨c,e,l,_,a⟩|⟨c,a,f,g,j⟩
  .exact .inl ⟨e,l,fun v=>by simp[tb,c],fun v=>by simp[tb,a]⟩
  .exact .inr ⟨gS _ c,fun p q m n=>f p m q n,j⟩
 .rcases d.kind with⟨c,_⟩|⟨c,g,_⟩
  .have a:v∈b.inner:=a;rw[c]at a;simp at a
  .exact(g v a).2 (d.en v f).1
theorem Exd.lay{h:Sh}(hD:Drn E h)(hR:Rgs h.F){α:(Int->Prop)×(Int->Prop)->Nat}(Z9:Al h.F (St' E h) (fun T=>T.2) (Kq E) α){b:dm}(Y:jb E h.L h.on b){w:AN}(X:w.Nodup)(w3:2<=w.length)(w6:w.getD 0 0∈b.ends)(w7:w.getD (w.length-1) 0∈b.ends)(w8:∀ v∈dH w,v∉h.on)
 (w9:∀ x y,(x,y)∈ae w->ay x y∉h.L/\∃ e∈E,aj e=ay x y) (n:∀ v∈dH w,v∈b.inner) (w11:b.inner≠[]->dH w≠[]):Exd E (gT h w (α (tb b))):=by
 have H:St' E h (tb b):=⟨b,Y,rfl⟩;have hk:=Z9.lt _ H;have O:=Z9.on _ H;generalize R7:α (tb b)=k at *;have hD':=hD.lay hk w3 X (O _ w6) (O _ w7) w8 w9;have K:=mZ w3;have hL:(gT h w k).L=h.L++iJ w:=by
  have:(gT h w k).L=kF h.L w:=rfl;rw[this];exact kP _ _ (fG X) fun p hpp=>by rw[dZ]at hpp;obtain⟨q,hq,rfl⟩:=aq.1 hpp;exact(w9 q.1 q.2 hq).1
 have hOn:(gT h w k).on=h.on++w:=rfl;have c7:w.getD 0 0≠w.getD (w.length-1) 0:=fun e=>by rw[K,e]at X;exact(cb.1 X).1 sS
 have i1:=jy (O _ w6);have i2:=jy (O _ w7);have g1:(h.F.getD k []).getD ((h.F.getD k []).idxOf (w.getD 0 0)) 0=w.getD 0 0:=by rw[cp (l:=h.F.getD k []),cg i1,Option.getD_some,mh]
 have g2:(h.F.getD k []).getD ((h.F.getD k []).idxOf (w.getD (w.length-1) 0)) 0=w.getD (w.length-1) 0:=by rw[cp (l:=h.F.getD k []),cg i2,Option.getD_some,mh]
 obtain⟨A,B,q1,V,_,q4⟩:=nM (fun e=>c7 (by rw[<- g1,e,g2])) i1 i2;rw[g1,g2]at q1 V q4;have hF:(gT h w k).F=h.F.set k (w.getD 0 0::(A++w.getD (w.length-1) 0::(dH w).reverse))++[w.getD (w.length-1) 0::(B++w.getD 0 0::dH w)]:=by show h.F.set k (jA (h.F.getD k []) ((h.F.getD k []).idxOf (w.getD 0 0)) ((h.F.getD k []).idxOf (w.getD (w.length-1) 0))++(dH w).reverse)++[jA (h.F.getD k []) ((h.F.getD k []).idxOf (w.getD (w.length-1) 0)) ((h.F.getD k []).idxOf (w.getD 0 0))++dH w]=_;rw[q1,V];simp
 have hgen:∃ x y M,x=w.getD 0 0/\y=w.getD (w.length-1) 0/\M=dH w:=⟨_,_,_,rfl,rfl,rfl⟩;obtain⟨x,y,M,ex,ey,eM⟩:=hgen;rw[<- ex,<- ey]at c7 q4;rw[<- ex,<- ey,<- eM]at hF K;rw[<- ex]at w6;rw[<- ey]at w7;rw[<- eM]at w8 n w11;have hdn:(h.F.getD k []).Nodup:=hR.nd k hk;have M4:Sc (h.F.getD k []) (x::(A++y::B)):=by obtain⟨c,d,C,D⟩:=q4;rw[C,D];exact ES (C ▸ hdn)
 have N3:(x::(A++y::B)).Nodup:=by obtain⟨c,d,C,D⟩:=q4;rw[D];rw[C]at hdn;exact(kc (l₁:=c) (l₂:=d)).nodup_iff.1 hdn
 have hMn:M.Nodup:=by rw[K]at X;exact(bw.1 (cb.1 X).2).1
 have hMF:∀ i,i<h.F.length->∀ v∈M,v∉h.F.getD i []:=fun i hi v g q=>w8 v g (hD.ring_on (by rw[cp,cg hi];exact dq _) q);have onx:x∈h.on:=(Y.en x w6).1;have ony:y∈h.on:=(Y.en y w7).1;have hwm:∀ v,v∈w↔v=x\/v∈M\/v=y:=fun v=>by rw[K];simp
 have hwP:∀ u v,ay u v∈iJ w↔(u,v)∈ae w\/(v,u)∈ae w:=fun u v=>by
  rw[dZ,aq];constructor
  .rintro⟨q,hq,e⟩;rcases aT e with⟨C,D⟩|⟨C,D⟩
   .left;rw[<- C,<- D];exact hq
   .right;rw[<- C,<- D];exact hq
  .rintro(q|q)
   .exact⟨_,q,rfl⟩
   .exact⟨_,q,aG _ _⟩
 have r8:∀ p,p∈b.inner->∀ q∈nbr E p,q∈b.inner\/q∈b.ends:=fun p R q hq=>by
  rcases Y.kind with⟨I,_⟩|⟨_,_,_,h3,_⟩
  .rw[I]at R;simp at R
  .exact h3 p R q hq
 have n9:∀ p,p∈b.inner->p∉h.on:=fun p R=>by
  rcases Y.kind with⟨I,_⟩|⟨_,t,_⟩
  .rw[I]at R;simp at R
  .exact(t p R).2
 have hM0:M=[]->∀ v,¬(tb b).1 v:=fun e v g=>w11 (kv g) e;have piece:∀ S,St' E (gT h w k) S->¬St' E h S->(∀ v,S.1 v->(tb b).1 v/\v∉M)/\(∀ v,S.2 v->v∈M\/(tb b).2 v)/\((∀ v,¬S.1 v)->(∃ v,S.2 v/\v∈M)/\∀ a b,S.2 a->S.2 b->(a,b)∉ae (x::(M++[y]))):=by
  rintro S ⟨c,hc,rfl⟩ z8;have W2:=hc.en;rw[hOn]at W2;have U:∀ v,v∈h.on++w->v∉M->v∈h.on:=fun v g hvM=>by
   rcases an.1 g with i|i
   .exact i
   .rcases(hwm v).1 i with rfl|i|rfl
    .exact onx
    .exact absurd i hvM
    .exact ony
  rcases hc.kind with⟨I,e,Z,t,N⟩|⟨I,t,N,h3,h4⟩
  .rw[hL]at t;have o:∀ v,(tb c).2 v↔v=e.a\/v=e.b:=fun v=>by simp[tb,N]
   have hemp:∀ v,¬(tb c).1 v:=fun v=>by simp[tb,I]
   have hex:e.a∈M\/e.b∈M:=fv fun q=>z8 ⟨c,⟨fun v g=>⟨U v (W2 v g).1 fun i=>q (by have:=(o v).1 g;grind),(W2 v g).2⟩,.inl ⟨I,e,Z,fun i=>t (cX _ i),N⟩⟩,rfl⟩;have aE:∀ v W,W∈nbr E v->W∈c.ends->v∈M->W∈M\/W∈b.ends:=fun v W hn hv' i=>by
    rcases r8 v (n v i) W hn with k|k
    .exact .inl (fv fun q=>n9 W k (U W (W2 W hv').1 q))
    .exact .inr k
   have n1:e.b∈nbr E e.a:=kL.2 ⟨e,Z,rfl⟩;have n2:e.a∈nbr E e.b:=kL.2 ⟨e,Z,aG _ _⟩;have o1:=aE e.a e.b n1 (by rw[N];simp);have o2:=aE e.b e.a n2 (by rw[N];simp);refine⟨fun v g=>absurd g (hemp v),fun v g=>?_,fun _=>⟨?_,fun a' b' ha hb' hl=>?_⟩⟩
   .show v∈M\/v∈b.ends;have:=(o v).1 g
    grind
   .rcases hex with q|q
    .exact⟨_,(o _).2 (.inl rfl),q⟩
    .exact⟨_,(o _).2 (.inr rfl),q⟩
   .rw[<- K]at hl;have x9:=((dL X).2 a' b' hl).1;refine t (dv _ ?_);have C:=(o a').1 ha;have D:=(o b').1 hb';have:aj e=ay a' b':=by
     show ay e.a e.b=_;rcases C with rfl|rfl<;>rcases D with rfl|rfl
     .exact absurd rfl x9
     .rfl
     .exact aG _ _
     .exact absurd rfl x9
    rw[this];exact(hwP a' b').2 (.inl hl)
  .rw[hOn]at t;by_cases hx:∃ p∈c.inner,p∈b.inner
   .obtain⟨p,p1,p2⟩:=hx;have J8:∀ v,v∈c.inner->v∈b.inner:=fun v g=>(N p p1 v g).closed (L:=fun z=>z∈b.inner) p2 fun z hz q hq hqc=>(r8 z hz q hq).resolve_right fun i=>(t q hqc).2 (cX _ (Y.en q i).1);refine⟨fun v g=>⟨J8 v g,fun i=>(t v g).2 (dv _ ((hwm v).2 (.inr (.inl i))))⟩,fun v g=>?_,fun q=>absurd p1 (q p)⟩;obtain⟨u,hu,hn⟩:=h4 v g;rcases r8 u (J8 u hu) v hn with i|i
    .exact .inl (fv fun q=>n9 v i (U v (W2 v g).1 q))
    .exact .inr i
   .refine absurd ⟨c,⟨fun v g=>⟨U v (W2 v g).1 fun i=>?_,(W2 v g).2⟩,.inr ⟨I,fun v g=>⟨(t v g).1,fun i=>(t v g).2 (cX _ i)⟩,N,h3,h4⟩⟩,rfl⟩ z8;obtain⟨u,hu,hn⟩:=h4 v g;rcases r8 v (n v i) u (lA hn)with j|j
    .exact hx ⟨u,hu,j⟩
    .exact(t u hu).2 (cX _ (Y.en u j).1)
 have other:∀ S,St' E (gT h w k) S->S≠tb b:=by
  rintro S ⟨c,hc,rfl⟩ e;have ei:∀ v,v∈c.inner↔v∈b.inner:=fun v=>iff_of_eq (congrFun (congrArg Prod.fst e) v);have ee:∀ v,v∈c.ends↔v∈b.ends:=fun v=>iff_of_eq (congrFun (congrArg Prod.snd e) v);rcases hc.kind with⟨I,f,hf,t,N⟩|⟨I,t,_⟩
  .have hM:M=[]:=by
    cases J:M with
    |nil=>rfl
    |cons m M'=>have:=(ei m).2 (n m (by rw[J];simp));rw[I]at this;simp at this
   rw[hL]at t;have kx:=(ee x).2 w6;have ky:=(ee y).2 w7;rw[N]at kx ky;have J6:(x,y)∈ae w:=by rw[K,hM];simp[ae]
   refine t (dv _ ?_);have:aj f=ay x y:=by
    show ay f.a f.b=_;simp at kx ky;rcases kx with C|C<;>rcases ky with D|D
    .exact absurd (C.trans D.symm) c7
    .rw[C,D]
    .rw[C,D];exact aG _ _
    .exact absurd (C.trans D.symm) c7
   rw[this];exact(hwP x y).2 (.inl J6)
  .obtain⟨p,R⟩:=gS _ I;obtain⟨m,J⟩:=gS _ (w11 (kv ((ei p).1 R)));exact(t m ((ei m).2 (n m J))).2 (by rw[hOn];exact dv _ ((hwm m).2 (.inr (.inl J))))
 obtain⟨α',hα'⟩:=Z9.lay (fun T r q=>q.rev) H R7 M4 N3 hMn hMF w6 w7 (fun r q=>by
  obtain⟨_,_,_,q,_⟩:=q
  exact⟨fun v g i=>q.off v i (n v g),q.on⟩) (p:=St' E (gT h w k)) (H:=fun S=>St' E (gT h w k) S/\¬St' E h S)
  (fun S hS=>by by_cases q:St' E h S;exact .inl ⟨q,other S hS⟩;exact .inr ⟨⟨hS,q⟩,q⟩)
  (fun c d P' Q' hk e=>by
    obtain⟨E1,s,hP,hk,h3,h4⟩:=hk;have up:∀ S,St' E (gT h w k) S->¬St' E h S->∀ e∈E,rz S e->∃ f∈E1,aj f=aj e:=fun S q q' e Z ht=>by
     obtain⟨k1,k2,k3⟩:=piece S q q';refine h4 e Z ?_;rcases ht with ht|ht|⟨ht,ha,hb'⟩
     .exact .inl (k1 _ ht).1
     .exact .inr (.inl (k1 _ ht).1)
     .have hSt:=q;obtain⟨⟨m,m1,m2⟩,_⟩:=k3 ht;obtain⟨c',hc',rfl⟩:=q;have hth:=zX hT hD' hc';have c7:=hT.ne e Z;rcases hth.kind with⟨f,hf,_,z2⟩|⟨⟨z,z1⟩,_⟩
      .have:=(z2 m).1 m1;have:=(z2 e.a).1 ha;have:=(z2 e.b).1 hb';have:m=e.a\/m=e.b:=by grind
       rcases this with rfl|rfl
       .exact .inl (n _ m2)
       .exact .inr (.inl (n _ m2))
      .exact absurd z1 (ht z)
    obtain⟨side,hs⟩:=pieces hP ((zX hT hD Y).by h4) hk (Q:=Q') (P:=P') ⟨c,d,rfl,e.symm⟩ w6 w7 (K ▸ X) (fun u v q=>by
     obtain⟨e,Z,k'⟩:=(w9 u v (K ▸ q)).2
     obtain⟨f,hf,i⟩:=h4 e Z (by
      unfold rz;cases J:M with
      |nil=>
       rw[J]at q;simp only[List.nil_append,ae,bf,fx]at q;have z1:(tb b).2 u:=by rw[q.1];exact w6
       have z2:(tb b).2 v:=by rw[q.2];exact w7
       rcases aT k' with⟨i,j⟩|⟨i,j⟩<;>rw[i,j]
       .exact .inr (.inr ⟨hM0 J,z1,z2⟩)
       .exact .inr (.inr ⟨hM0 J,z2,z1⟩)
      |cons m M'=>
       have:u∈M\/v∈M:=by
        have q1:=eU (y:=y) (l:=x::M) q;have V:=iP q;rcases ah.1 q1 with rfl|q1
        .rcases an.1 V with V|V
         .exact .inr V
         .rw[bf]at V;subst V;rw[J]at q;have:=fK (by rw[<- J];exact K ▸ X) q (b':=m) (by simp[ae]);exact .inr (by rw[this,J];simp)
        .exact .inl q1
       rcases aT k' with⟨i,j⟩|⟨i,j⟩<;>rw[i,j]
       .exact this.elim (fun z=>.inl (n _ z)) fun z=>.inr (.inl (n _ z))
       .exact this.elim (fun z=>.inr (.inl (n _ z))) fun z=>.inl (n _ z))
     exact⟨f,hf,i.trans k'⟩) n hM0 (D:=fun S=>St' E (gT h w k) S/\¬St' E h S) (fun S q=>by
     have q1:=q.1;obtain⟨c,hc,rfl⟩:=q1
     exact⟨(zX hT hD' hc).by (up _ q.1 q.2),piece _ q.1 q.2⟩) (fun S S' q q'=>PM q.1 q'.1)
    exact⟨side,fun S q=>⟨(piece S q.1 q.2).2.1,(hs S q).1.on,⟨E1,s,hP,(hs S q).1,h3,up S q.1 q.2⟩,(hs S q).2⟩⟩)
 rw[<- hF]at hα';exact⟨hD',by rw[hF];exact hR.lay hk M4 N3 hMn hMF,α',hα'⟩
end
def uG{E:List Ed}:∀ {l:List (Int×Int)},l.Nodup->(∀ p∈l,∃ e∈E,aj e=ay p.1 p.2)->l.length<=2*E.length:=by
 intro l j h;have g:(E.flatMap fun e=>[(e.a,e.b),(e.b,e.a)]).length=2*E.length:=by
  clear h;induction E with
  |nil=>rfl
  |cons e E n=>simp only[ec,cf,List.length_cons,List.length_nil]at n ⊢;omega
 rw[<- g];refine fg j fun p m=>?_;obtain⟨e,f,k⟩:=h p m;refine gh.2 ⟨e,f,?_⟩;rcases aT k with⟨c,d⟩|⟨c,d⟩
 .rw[c,d];simp
 .rw[c,d];simp
section
variable {E:List Ed} (hT:Tc E)
include hT
omit hT in
theorem Drn.L_le{h:Sh}(a:Drn E h):h.L.length<=E.length:=by
 have:=fg a.lnd (l₂:=E.map aj) fun p c=>by obtain⟨e,b,rfl⟩:=a.sub p c;exact de b
 rwa [dh]at this
omit hT in
theorem Drn.ring_le{h:Sh}(a:Drn E h){r:AN}(c:r∈h.F):r.length<=2*E.length:=by
 rw[<- oB r];have b:=a.nd;refine uG ?_ fun p d=>?_
 .unfold PF at b;rw[List.flatMap_def]at b;exact(lh (de (f:=ao) c)).nodup b
 .obtain⟨_,k⟩:=(a.mem p.1 p.2).1 (aX.2 ⟨r,c,d⟩);exact a.sub _ k
theorem WN{h:Sh}(d:Drn E h):∃ B,(∀ b∈B,jb E h.L h.on b)/\(∀ e∈E,aj e∉h.L->e.a∈h.on->e.b∈h.on->⟨[],[e.a,e.b]⟩∈B)/\(∀ v∈ai E,v∉h.on->∃ b∈B,v∈b.inner)/\
 (((bG h.F B (⟨[],[]⟩,-1)).2<0/\yJ ⟨ai E,E⟩ h=some none)\/∃ w k,(bG h.F B (⟨[],[]⟩,-1)).2=((k:Nat):Int)/\yJ ⟨ai E,E⟩ h=some (some (gT h w k))/\Drn E (gT h w k)/\h.L.length<(gT h w k).L.length/\jb E h.L h.on (bG h.F B (⟨[],[]⟩,-1)).1/\
   w.Nodup/\2<=w.length/\w.getD 0 0∈(bG h.F B (⟨[],[]⟩,-1)).1.ends/\w.getD (w.length-1) 0∈(bG h.F B (⟨[],[]⟩,-1)).1.ends/\(∀ v∈dH w,v∉h.on)/\(∀ x y,(x,y)∈ae w->ay x y∉h.L/\∃ e∈E,aj e=ay x y)/\(∀ v∈dH w,v∈(bG h.F B (⟨[],[]⟩,-1)).1.inner)/\((bG h.F B (⟨[],[]⟩,-1)).1.inner≠[]->dH w≠[])):=by
 obtain⟨B,O,o,b3,P,Q⟩:=Te (E:=E) (on:=h.on) h.L;refine⟨B,o,P,Q,?_⟩;have J:uh E h (bG h.F B (⟨[],[]⟩,-1)):=Dg B _ o ⟨sS,.inl sS⟩;have M:=hT.few;unfold yJ;rw[O,Option.bind_some,ad ⟨fun b m v W=>((o b m).en v W).2,oO,J.1⟩];generalize bG h.F B (⟨[],[]⟩,-1)=r at *;by_cases l:r.2<0
 .rw[ad l];exact .inl ⟨l,rfl⟩
 rw[ac l];obtain⟨m,k,T,n,c⟩:=J.2.resolve_left l;have s:r.2.toNat=k:=oO;rw[s];obtain⟨w,X,A,C,Y,Z,D,H,N,I,t,z⟩:=YI hT d m;have j:h.F.getD k []∈h.F:=by rw[cp,cg n];exact dq _
 have V:=d.ring_le j;have S:=d.L_le;have K:=d.cnt;have f:Lc ⟨ai E,E⟩ h k w:=⟨n,C,Y,Z,oO,c _ D,c _ H,oO⟩;rw[X,Option.bind_some,ad f];refine .inr ⟨w,k,T,rfl,d.lay n C A (c _ D) (c _ H) N I,?_,m,A,C,D,H,N,I,t,z⟩;have R:(gT h w k).L=h.L++iJ w:=by
  have:(gT h w k).L=kF h.L w:=rfl;rw[this];exact kP _ _ (fG A) fun p g=>by rw[dZ]at g;obtain⟨q,U,rfl⟩:=aq.1 g;exact(I q.1 q.2 U).1
 rw[R,cf,nF];omega
theorem Po{h:Sh}(e:Drn E h):yJ ⟨ai E,E⟩ h=some none\/∃ a,yJ ⟨ai E,E⟩ h=some (some a)/\Drn E a/\h.L.length<a.L.length:=by
 obtain⟨B,_,_,_,k|⟨w,k,_,b,c,d,_⟩⟩:=WN hT e
 .exact .inl k.2
 .exact .inr ⟨_,b,c,d⟩
theorem BS:∀(n:Nat) (h:Sh),Drn E h->E.length+1<=n+h.L.length->∃ o,pN ⟨ai E,E⟩ n h=some o/\∀ a,o=some a->Drn E a/\E.length<=a.L.length
 |0,h,hD,hl=>by have:=hD.L_le;omega
 |n+1,h,hD,hl=>by
  unfold pN;by_cases dF:h.L.length<(⟨ai E,E⟩:Gr).E.length
  .rw[ad dF];rcases Po hT hD with c|⟨a,c,b,d⟩
   .rw[c];exact⟨none,rfl,fun a e=>by cases e⟩
   .rw[c,Option.bind_some];exact BS n a b oO
  .rw[ac dF];refine⟨some h,rfl,fun a e=>?_⟩;injection e with e;subst e;exact⟨hD,by show E.length<=_;simp only at dF;omega⟩
end
def Fit(b:dm)(F:List AN)(i:Nat):Prop:=∀ v∈b.ends,v∈F.getD i []
def sG(b:dm)(F:List AN):((cA b F.zipIdx).2=0->∀ i,i<F.length->¬Fit b F i)/\((cA b F.zipIdx).2=1->∃ i:Nat,(cA b F.zipIdx).1=i/\∀ j,j<F.length->Fit b F j->j=i)/\
 ((cA b F.zipIdx).2≠0->∃ i:Nat,(cA b F.zipIdx).1=i/\i<F.length/\Fit b F i)/\(2<=(cA b F.zipIdx).2->∃ i j,i<j/\j<F.length/\Fit b F i/\Fit b F j):=by
 have m:∀ k,k<=F.length->((cA b (F.zipIdx.take k)).2=0->(cA b (F.zipIdx.take k)).1 = -1/\∀ i,i<k->¬Fit b F i)/\((cA b (F.zipIdx.take k)).2=1->∃ i:Nat,(cA b (F.zipIdx.take k)).1=i/\∀ j,j<k->Fit b F j->j=i)/\
  ((cA b (F.zipIdx.take k)).2≠0->∃ i:Nat,(cA b (F.zipIdx.take k)).1=i/\i<k/\Fit b F i)/\(2<=(cA b (F.zipIdx.take k)).2->∃ i j,i<j/\j<k/\Fit b F i/\Fit b F j)/\0<=(cA b (F.zipIdx.take k)).2:=by
  intro k;induction k with
  |zero=>intro _;simp[cA]
  |succ k v=>
   intro x;obtain⟨l,o,n,r,s⟩:=v oO;rw[Ax b F k oO];generalize cA b (F.zipIdx.take k)=p at *;have hf:off b.ends (F.getD k [])=[]↔Fit b F k:=by
    unfold Fit;rw[ov];simp only[fN]
    grind
   unfold nH;by_cases e:Fit b F k
   .rw[ad (hf.2 e)];by_cases h:p.2=0
    .rw[ad h];have:=(l h).2;refine⟨fun q=>by simp only at q;omega,fun _=>⟨k,rfl,fun j t hf=>fv fun q=>this j oO hf⟩,fun _=>⟨k,rfl,oO,e⟩,fun q=>by simp only at q;omega,by simp only;omega⟩
    .rw[ac h];obtain⟨i,a,g,d⟩:=n h;exact⟨fun q=>by simp only at q;omega,fun q=>by simp only at q;omega,fun _=>⟨i,a,oO,d⟩,fun _=>⟨i,k,g,oO,d,e⟩,by simp only;omega⟩
   .rw[ac fun q=>e (hf.1 q)];refine⟨fun q=>⟨(l q).1,fun i w=>?_⟩,fun q=>?_,fun q=>?_,fun q=>?_,s⟩
    .by_cases c:i=k
     .rw[c];exact e
     .exact(l q).2 i oO
    .obtain⟨i,a,g⟩:=o q;refine⟨i,a,fun j t f=>?_⟩;by_cases c:j=k
     .exact absurd (c ▸ f) e
     .exact g j oO f
    .obtain⟨i,a,g,d⟩:=n q;exact⟨i,a,oO,d⟩
    .obtain⟨i,j,a,g,d⟩:=r q;exact⟨i,j,a,oO,d⟩
 have:=m F.length (au _);rw[dp sS]at this;exact⟨fun q=>(this.1 q).2,this.2.1,this.2.2.1,this.2.2.2.1⟩
theorem tV(F:List AN):∀(B:List dm) (a:dm×Int),(∃ b∈B,bG F B a=(b,(cA b F.zipIdx).1)/\(cA b F.zipIdx).2<=1)\/((∀ b∈B,2<=(cA b F.zipIdx).2)/\(0<=a.2->bG F B a=a)/\(a.2<0->B≠[]->∃ b∈B,bG F B a=(b,(cA b F.zipIdx).1)))
 |[],a=>.inr ⟨sS,fun _=>rfl,fun _ h=>absurd rfl h⟩
 |b::B,a=>by
  unfold bG;by_cases h:(cA b F.zipIdx).2<=1
  .rw[ad h];exact .inl ⟨b,aw,rfl,h⟩
  .rw[ac h];rcases tV F B (if a.2<0 then(b,(cA b F.zipIdx).1)else a)with⟨c,e,d,g⟩|⟨e,d,g⟩
   .exact .inl ⟨c,ar _ e,d,g⟩
   .right;have j:=(sG b F).2.2.1 oO;refine⟨fun c f=>by rcases ah.1 f with rfl|f;omega;exact e c f,fun q=>?_,fun q _=>⟨b,aw,?_⟩⟩
    .rw[ac oO]at d ⊢;exact d q
    .rw[ad q]at d ⊢;obtain⟨i,k,_⟩:=j;exact d (by simp only;omega)
def LU{r:AN}(e:r.Nodup):Rgs [r,r.reverse]:=by
 have f:r.reverse.Nodup:=(jw r).nodup_iff.2 e;have c:Rv r r.reverse:=fun x y z _ _ _ k=>(Kh e).2 k;refine⟨fun i a=>?_,fun i j a d b=>?_,fun i j k a d g c h l=>?_⟩
 .match i,a with
  |0,_=>exact e
  |1,_=>exact f
 .match i,a,j,d with
  |0,_,0,_=>exact absurd rfl b
  |0,_,1,_=>exact c
  |1,_,0,_=>exact c.symm
  |1,_,1,_=>exact absurd rfl b
 .simp only[List.length_cons,List.length_nil]at a d g;omega
section
variable {E:List Ed} (hT:Tc E)
include hT
theorem Exd.step{h:Sh}(hx:Exd E h)(hl:h.L.length<E.length):∃ J,yJ ⟨ai E,E⟩ h=some (some J)/\Exd E J/\h.L.length<J.L.length:=by
 obtain⟨Y,Z,R,z⟩:=hx;obtain⟨B,s,U,I,K2⟩:=WN hT Y;have hB:B≠[]:=by
  obtain⟨e,t,hn⟩:∃ e∈E,aj e∉h.L:=fv fun q=>by
   have:=fg hT.sim (l₂:=h.L) fun p x=>by obtain⟨e,t,rfl⟩:=aq.1 x;exact fv fun i=>q ⟨e,t,i⟩
   rw[dh]at this;omega
  by_cases ha:e.a∈h.on
  .by_cases l:e.b∈h.on
   .exact kv (U e t hn ha l)
   .obtain⟨b,l,_⟩:=I e.b ((aK _ _).2 ⟨e,t,.inr rfl⟩) l;exact kv l
  .obtain⟨b,l,_⟩:=I e.a ((aK _ _).2 ⟨e,t,.inl rfl⟩) ha;exact kv l
 have n:∀ b∈B,Fit b h.F (R (tb b))/\R (tb b)<h.F.length:=fun b l=>⟨fun v m=>z.on (tb b) ⟨b,s b l,rfl⟩ v m,z.lt (tb b) ⟨b,s b l,rfl⟩⟩;have T5:∃ k:Nat,(bG h.F B (⟨[],[]⟩,-1)).2=k/\jb E h.L h.on (bG h.F B (⟨[],[]⟩,-1)).1/\∃ o,Al h.F (St' E h) (fun T=>T.2) (Kq E) o/\o (tb (bG h.F B (⟨[],[]⟩,-1)).1)=k:=by
  rcases tV h.F B (⟨[],[]⟩,-1)with⟨b,l,e,k⟩|⟨k,_,e⟩
  .rw[e];obtain⟨V,W⟩:=n b l;obtain⟨s0,s1,s2,_⟩:=sG b h.F;have n0:(cA b h.F.zipIdx).2≠0:=fun q=>s0 q _ W V;have n1:0<=(cA b h.F.zipIdx).2:=(Ai b _).1;obtain⟨i,H,y⟩:=s1 oO;exact⟨i,H,s b l,R,z,y _ W V⟩
  .obtain⟨b,l,e⟩:=e sS hB;rw[e];have:=k b l;obtain⟨i,H,y,O⟩:=(sG b h.F).2.2.1 oO;refine⟨i,H,s b l,z.swap Z (fun T r q=>q.rev) (fun T M g=>?_) ⟨b,s b l,rfl⟩ y O⟩;obtain⟨c,C,rfl⟩:=M;have N:∃ d∈B,∀ v,v∈c.ends->v∈d.ends:=by
    rcases C.kind with⟨X,f,hf,A,K⟩|⟨X,A,_⟩
    .have e1:=C.en f.a (by rw[K];simp);have e2:=C.en f.b (by rw[K];simp);exact⟨_,U f hf A e1.1 e2.1,fun v m=>by rw[K]at m;exact m⟩
    .obtain⟨p,x⟩:=gS _ X;obtain⟨d,D,k⟩:=I p (A p x).1 (A p x).2;exact⟨d,D,(uS C (s d D) x k).2⟩
   obtain⟨d,D,S⟩:=N;obtain⟨i,j,H,y,O,i4⟩:=(sG d h.F).2.2.2 (k d D);by_cases q:i=g
   .exact⟨j,oO,y,fun v m=>i4 v (S v m)⟩
   .exact⟨i,q,oO,fun v m=>O v (S v m)⟩
 obtain⟨k,k1,k2,o,k3,k4⟩:=T5;rcases K2 with⟨q,_⟩|⟨w,k',q1,q2,q3,q4,q5,w2,w3,w6,w7,w8,w9,P,Q⟩
 .omega
 .have:k'=k:=oO;subst this;have:=Exd.lay hT Y Z k3 k2 w2 w3 w6 w7 w8 w9 P Q;rw[k4]at this;exact⟨_,q2,this,q4⟩
theorem Exd.loop:∀(n:Nat) (h:Sh),Exd E h->E.length+1<=n+h.L.length->∃ a,pN ⟨ai E,E⟩ n h=some (some a)
 |0,h,hx,hl=>by have:=hx.drn.L_le;omega
 |n+1,h,hx,hl=>by
  unfold pN;by_cases dF:h.L.length<(⟨ai E,E⟩:Gr).E.length
  .rw[ad dF];obtain⟨a,e,b,c⟩:=hx.step hT dF;rw[e,Option.bind_some];exact Exd.loop n a b oO
  .rw[ac dF];exact⟨h,rfl⟩
theorem Exd.start{s:Int->Int}(B:PlE E s){h:Sh}(n:Drn E h){r:AN}(l:h.F=[r,r.reverse])(I:r.Nodup)(Y:3<=r.length)(P:∀ u v,(u,v)∈ao r->∃ e∈E,aj e=ay u v):Exd E h:=by
 have Q:∀ v,v∈h.on->v∈r:=fun v m=>by
  obtain⟨u,z,M⟩:=(n.on v).1 m;have:=(n.mem v u).2 ⟨fD z,by rw[aG];exact M⟩;rw[l]at this;rcases jK.1 this with i|i
  .exact(pX i).1
  .exact(pX (x:=u) (y:=v) i).2
 have W:∀ v,v∈r->v∈h.on:=fun v m=>n.ring_on (r:=r) (by rw[l];simp) m;have Y0:r.reverse.Nodup:=(jw r).nodup_iff.2 I;have g:∀ S,St' E h S->Kr E S r:=by
  rintro S ⟨b,C,rfl⟩;refine⟨I,Y,P,fun v m k=>?_,fun v m=>Q v (C.en v m).1,fun q c d o D k=>?_⟩
  .rcases C.kind with⟨H,_⟩|⟨_,z,_⟩
   .have k:v∈b.inner:=k;rw[H]at k;simp at k
   .exact(z v k).2 (W v m)
  .rcases C.kind with⟨H,e,w,z,M⟩|⟨H,_⟩
   .obtain⟨U,n2⟩:=(n.mem c d).1 (by rw[l];exact jK.2 (.inl k));refine z ?_;have o:c∈b.ends:=o;have D:d∈b.ends:=D;rw[M]at o D;simp at o D;have:aj e=ay c d:=by
     show ay e.a e.b=_;rcases o with rfl|rfl<;>rcases D with rfl|rfl
     .exact absurd rfl U
     .rfl
     .exact aG _ _
     .exact absurd rfl U
    rw[this];exact n2
   .obtain⟨p,Z⟩:=gS _ H;exact q p Z
 have A:∀ S,St' E h S->Kq E S r:=fun S k=>⟨E,s,B,g S k,fun e w=>⟨e,w,rfl⟩,fun e w _=>⟨e,w,rfl⟩⟩;by_cases j:∃ S,St' E h S
 .obtain⟨V,O⟩:=j;have N:=(g V O).emb B;have f:∀ S,St' E h S->Thg E S:=fun S ⟨b,C,e⟩=>by rw[e];exact zX hT n C
  have t:∀ S,∃ c:Nat,St' E h S->c<2/\In' E s (ao r) ([r,r.reverse].getD c []) S:=fun S=>by
   by_cases k:St' E h S
   .obtain⟨q,hq,T⟩:=N.in_ex B (f S k) (g S k).by';have:q=r\/q=r.reverse:=by simpa using hq
    rcases this with rfl|rfl
    .exact⟨0,fun _=>⟨oO,T⟩⟩
    .exact⟨1,fun _=>⟨oO,T⟩⟩
   .exact⟨0,fun q=>absurd q k⟩
  have R:∀ c:Nat,c<2->[r,r.reverse].getD c []∈[r,r.reverse]:=fun c o=>by
   match c,o with
   |0,_=>simp
   |1,_=>simp
  refine⟨n,l ▸ LU I,fun S=>(t S).choose,fun S k=>?_,fun S k v m=>?_,fun S L k K X w=>?_,fun S k=>?_⟩
  .rw[l];exact((t S).choose_spec k).1
  .have:=(t S).choose_spec k;rw[l];exact N.in_on B (f S k) (g S k).by' (R _ this.1) this.2 m
  .have J:=(t S).choose_spec k;have i2:=(t L).choose_spec K;rw[l];exact N.avo B (f S k) (g S k).by' (f L K) (g L K).by' (PM k K X) (R _ J.1) J.2 (by rw[w];exact i2.2)
  .have J:=((t S).choose_spec k).1;rw[l];generalize (t S).choose=c at *
   match c,J with
   |0,_=>exact⟨r,A S k,fun _ _ _ _ _ _=>mo⟩
   |1,_=>exact⟨r.reverse,(A S k).rev.1,fun _ _ _ _ _ _=>mo⟩
 .exact⟨n,l ▸ LU I,fun _=>0,fun S k=>absurd ⟨S,k⟩ j,fun S k=>absurd ⟨S,k⟩ j,fun S _ k=>absurd ⟨S,k⟩ j,fun S k=>absurd ⟨S,k⟩ j⟩
end
section
variable {E:List Ed} (hT:Tc E) {h:Sh} (hD:Drn E h) (hl:E.length<=h.L.length)
include hT hD hl
theorem JS{r:AN}(f:r∈h.F):3<=r.length:=by
 have l:∀ u v,(u,v)∈ao r->u≠v:=fun u v k=>((hD.mem u v).1 (aX.2 ⟨r,f,k⟩)).1
 match r,f,l with
 |[],f,_=>exact absurd rfl (hD.ne _ f)
 |[a],f,l=>exact absurd rfl (l a a (by simp[ao,ae]))
 |[a,b],f,l=>
  exfalso;have g:∀ p,p∈ao [a,b]↔p=(a,b)\/p=(b,a):=fun p=>by simp[ao,ae]
  have o:(a,b)∈PF h.F:=aX.2 ⟨_,f,(g _).2 (.inl rfl)⟩;have:=hD.con (fun p q=>(p∈ao [a,b]↔q∈ao [a,b])) (fun p q k=>k.symm) (fun p q r k w=>k.trans w) (fun t n p g q m=>?_) (fun p _=>by rw[g,g];obtain⟨u,v⟩:=p;simp only[Prod.swap,fx];grind)
  .have j:∀ p∈h.L,p=ay a b:=fun p d=>by
    obtain⟨e,s,rfl⟩:=hD.sub p d;have x:=hT.ne e s;have k:=(this _ o _ ((hD.mem e.a e.b).2 ⟨x,d⟩)).1 ((g _).2 (.inl rfl));rcases(g _).1 k with k|k
    .injection k with k1 k2;show ay e.a e.b=_;rw[k1,k2]
    .injection k with k1 k2;show ay e.a e.b=_;rw[k1,k2];exact aG _ _
   have y:=hT.two;have:=fg hD.lnd (l₂:=[ay a b]) fun p d=>by rw[j p d];simp
   simp at this;omega
  .by_cases c:t=[a,b]
   .subst c;exact⟨fun _=>m,fun _=>g⟩
   .exact⟨fun k=>absurd (Ec hD.nd n f g k) c,fun k=>absurd (Ec hD.nd n f m k) c⟩
 |_::_::_::_,_,_=>simp
theorem OB:E.length+6<=3*(ai E).length:=by
 have a:=hD.done hT.ne hT.sim hl;have j:(PF h.F).length<=2*E.length:=uG a.nd fun p d=>(a.mem p.1 p.2).1 d;have k:=a.cnt;have c:∀ F:List AN,(∀ r∈F,3<=r.length)->3*F.length<=(PF F).length:=fun F=>by
  induction F with
  |nil=>intro _;simp
  |cons r F g=>
   intro b;have:=g fun t f=>b t (ar _ f);have l:=b r aw;have m:=oB r;have n:(PF (r::F)).length=(ao r).length+(PF F).length:=by simp[PF]
   simp only[List.length_cons];omega
 have:=c h.F fun r e=>JS hT hD hl e;omega
end
def Um(l:AN):(ev l).Perm l:=by unfold ev rt;exact kc.trans (by rw[gd])
def A5(l:AN):ev (ev l)=ev l:=by
 by_cases h:l=[]
 .subst h;rfl
 .obtain⟨r,b⟩:=Pr l h;have a:mn (ev l)=mn l:=WD ((Um l).mem_iff.2 (wO h)) fun x c=>Rq ((Um l).mem_iff.1 c);exact It b a
def Vs{A B:AN}(c:(A++B).Nodup){x:Int}(e:x∈A++B):nx (B++A) x=nx (A++B) x:=by
 by_cases a:A=[]
 .subst a;simp
 by_cases b:B=[]
 .subst b;simp
 have d:(B++A).Nodup:=kc.nodup_iff.1 c;rcases an.1 e with h|h
 .rw[(vO c a b).1 h,(vO d b a).2 h]
 .rw[(vO c a b).2 h,(vO d b a).1 h]
def XK{l:AN}(a:l.Nodup){x:Int}(b:x∈l):nx (ev l) x=nx l x:=by have e:l.take (l.idxOf (mn l))++l.drop (l.idxOf (mn l))=l:=gd _ _;have:=Vs (A:=l.take (l.idxOf (mn l))) (B:=l.drop (l.idxOf (mn l))) (by rw[e];exact a) (x:=x) (by rw[e];exact b);rw[e]at this;exact this
def Nl{g:Gr}(l:GoodE g):((gA g.E).flatten).Nodup/\∀ i,i∈(gA g.E).flatten↔i<g.E.length:=by
 have b:∀ B∈gA g.E,dO g.E B:=fun B a=>kY l a;constructor
 .have:=kU (f:=fun B:List Nat=>B) (Mf g.E) (fun B a=>(b B a).rise.imp fun k=>kg k) fun B a m n i o d=>(b B a).eq (g:=g) (b m n) o d
  rwa [List.flatMap_def,List.map_id']at this
 .intro i;rw[fh];constructor
  .rintro⟨B,a,h⟩;exact(b B a).lt i h
  .intro h;obtain⟨s,_,_,d,_,p⟩:=rT l;obtain⟨B,a,j⟩:=fh.1 ((d i).2 h);have c:=p B a;have e:=head_mem c.ne;refine⟨B,?_,j⟩;unfold gA;rw[c.cls e];refine aq.2 ⟨B.headD 0,?_,rfl⟩;rw[cx,fC,gg,<- c.cls e];exact⟨c.lt _ e,rfl⟩
def fH{g:Gr}(f:GoodE g):((aQ g).flatten).Perm (sE g.E):=by
 have c:=f.simple;obtain⟨b,a⟩:=Nl c;have h:(gA (sE g.E)).flatten.Perm (List.range (sE g.E).length):=(jn b qy).2 fun i=>by rw[a,fC]
 have e:(aQ g).flatten=(gA (sE g.E)).flatten.map (am (sE g.E)):=by unfold aQ;rw[qz]
 have d:(List.range (sE g.E).length).map (am (sE g.E))=sE g.E:=by refine vc sS fun i b a=>?_;simp only[oh,List.getElem_range];exact fA _ _ a
 rw[e]
 conv=>rhs;rw[<- d]
 exact h.map _
def YB{g:Gr}(c:GoodE g)(q:∀ v∈g.V,0<=v/\v<4194304){Bs:jm}(o:Bs.map (·.1)=aQ g)(t:∀ p∈Bs,jV p.1 p.2):Sys g Bs:=by
 have j:∀ p∈Bs,p.1∈aQ g:=fun p b=>by rw[<- o];exact de (f:=(·.1)) b
 have m:(Bs.flatMap (·.1)).Perm (sE g.E):=by rw[List.flatMap_def,o];exact fH c
 refine⟨c,fun p b=>⟨t p b,⟨(nJ c (j p b)).1.ne,?_,fun v h=>?_⟩,?_⟩,m⟩
 .have n:=(m.map aj).nodup_iff.2 (pB g.E);rw[vf]at n;have:∀ {l:jm},(l.flatMap fun p=>p.1.map aj).Nodup->∀ p∈l,(p.1.map aj).Nodup:=by
   intro l;induction l with
   |nil=>intro _ p h;cases h
   |cons a l x=>
    intro d p h;rw[ec,bw]at d;rcases ah.1 h with rfl|h
    .exact d.1
    .exact x d.2.1 p h
  exact this n p b
 .obtain⟨e,w,k⟩:=(aK v _).1 h;have:=c.ends e ((nJ c (j p b)).2 e w);rcases k with rfl|rfl
  .exact q _ this.1
  .exact q _ this.2
 .have:=j p b;unfold aQ at this;obtain⟨B,s,e⟩:=aq.1 this;rw[<- e];intro r;exact(kY c.simple s).ne (qj.1 r)
abbrev Ci(g:Gr)(Bs:jm):Mp:=⟨g,g.V.map fun v=>ev (jY g Bs v)⟩
def RH(A B:List AN):gG (A++B)=gG A+gG B:=by unfold gG;rw[qn,cf]
theorem Mh(Bs:jm)(f:List Ed×List (AN)->Int->AN)(j:∀ p∈Bs,∀ v,v∉ai p.1->f p v=[]):∀ a:AN,a.Nodup->gG ((a.map fun v=>Bs.map fun p=>f p v).flatten)<=(Bs.map fun p=>(a.filter fun v=>decide (v∈ai p.1)).length).sum
 |[],_=>by simp[gG]
 |v::a,hn=>by
  have n:=Mh Bs f j a (cb.1 hn).2;rw[ax,List.flatten_cons,RH];have d:∀ l:jm,(∀ p∈l,p∈Bs)->gG (l.map fun p=>f p v)+(l.map fun p=>(a.filter fun v=>decide (v∈ai p.1)).length).sum<=(l.map fun p=>((v::a).filter fun v=>decide (v∈ai p.1)).length).sum:=by
   intro l;induction l with
   |nil=>intro _;simp[gG]
   |cons p l c=>
    intro g;have m:=c fun q k=>g q (ar _ k);have e:gG ((p::l).map fun p=>f p v)=(if f p v≠[]then 1 else 0)+gG (l.map fun p=>f p v):=by
     unfold gG;rw[ax,tg];by_cases h:f p v=[]
     .simp[h]
     .simp[h];omega
    rw[e];simp only[ax,List.sum_cons];by_cases h:v∈ai p.1
    .have b:((v::a).filter fun v=>decide (v∈ai p.1)).length=(a.filter fun v=>decide (v∈ai p.1)).length+1:=by simp[h]
     rw[b]
     split<;>omega
    .have b:((v::a).filter fun v=>decide (v∈ai p.1)).length=(a.filter fun v=>decide (v∈ai p.1)).length:=by simp[h]
     rw[b,ac (by simp[j p (g p aw) v h])];omega
  have:=d Bs fun _ h=>h;omega
section
variable {g:Gr} {Bs:jm} (hS:Sys g Bs)
include hS
theorem Sys.map_ok:bU (Ci g Bs):=by
 refine⟨hS.gE,sS,fun k a=>?_⟩;have b:k<(g.V.map fun v=>ev (jY g Bs v)).length:=by simpa using a
 have e:(Ci g Bs).rots.getD k []=ev (jY g Bs (g.V.getD k 0)):=by show(g.V.map fun v=>ev (jY g Bs v)).getD k []=_;rw[jJ _ _ b,oh,bA _ _ a]
 rw[e];exact⟨(Um _).trans (hS.turn_perm _),A5 _⟩
theorem Sys.sg_eq(d:Int):sg (Ci g Bs) d=di ((fz g Bs).map List.flatten) d:=by
 have e:=hS.map_ok;have j:((fz g Bs).map List.flatten).flatten.Nodup:=by rw[lH];exact hS.grp_nd
 by_cases c:d∈aW g.E
 .obtain⟨t,f,a⟩:=e.turn_of c;rw[EC e f a];obtain⟨v,k,rfl⟩:=aq.1 f;have b:d∈jY g Bs v:=(Um _).mem_iff.1 a;rw[XK (hS.turn_nodup v) b,gH j (t:=jY g Bs v) (by rw[HE];exact de k) b]
 .rw[e.sg_id c,mF];rw[lH];exact fun h=>c (hS.grp_mem.1 h)
theorem Sys.plane(k:Bs.map (·.1)=aQ g):gn (Ci g Bs)=0:=by
 have b:=hS.gE;have n:=hS.map_ok;have w:=n.gn;have I:=hS.faces;have f:((fz g Bs).map List.flatten).flatten.Nodup:=by rw[lH];exact hS.grp_nd
 have x:=PR (al:=al g.E) (D:=aW g.E) ⟨WK g.E,fun d a=>(FU _ _ _).2 a⟩ (fun d a=>tE a) (fz g Bs) (Rs:=[]) (by rw[eP];exact hS.grp_nd) (fun d a=>hS.grp_mem.1 (by rwa [eP]at a));rw[eP,eP]at x;have y:bg (Orb (fc (Ci g Bs) g.E)) (aW g.E)=ig (al g.E) (aW g.E) ((fz g Bs).map List.flatten):=by
  unfold ig;have:fc (Ci g Bs) g.E=fun d=>di ((fz g Bs).map List.flatten) (al g.E d):=by
   funext d;unfold fc;exact hS.sg_eq _
  rw[this]
 have J:gG ((fz g Bs).map List.flatten)+alone g=g.V.length:=by
  have r:=n.ncl_sg;have F:=Ln f;have j:(aW g.E).Perm ((fz g Bs).map List.flatten).flatten:=(jn (iR (oN b.ids)) f).2 fun d=>by rw[lH];exact hS.grp_mem.symm
  have e:sg (Ci g Bs)=di ((fz g Bs).map List.flatten):=funext hS.sg_eq;rw[e]at r;have H:bg (Orb (di ((fz g Bs).map List.flatten))) (aW g.E)=gG ((fz g Bs).map List.flatten):=by rw[tY (kT f).per.eqv j];exact F
  have s:bg (Orb (di ((fz g Bs).map List.flatten))) (aW g.E)+alone g=g.V.length:=r;rw[H]at s;exact s
 have K:gG (fz g Bs).flatten<=((aQ g).map fun l=>(ai l).length).sum:=by
  refine er (Mh Bs (fun p v=>bt g p.2 v) (fun p j v c=>?_) g.V b.toGood.nodup) ?_
  .obtain⟨A,z,_⟩:=hS.ok p j;show bt g p.2 v=[];unfold bt;rw[oU A z c,nO];rfl
  .rw[<- k,dy];have:∀ l:jm,(l.map fun p=>(g.V.filter fun v=>decide (v∈ai p.1)).length).sum<=(l.map ((fun l=>(ai l).length)∘fun p=>p.1)).sum:=by
    intro l;induction l with
    |nil=>simp
    |cons p l o=>
     rw[ax,ax,List.sum_cons,List.sum_cons];have:(g.V.filter fun v=>decide (v∈ai p.1)).length<=(ai p.1).length:=by refine fg (b.toGood.nodup.sublist jc) fun v c=>?_;rw[cx,gg]at c;exact c.2
     simp only[Function.comp_apply];omega
   exact this Bs
 have L:=Cs b;have M:(Bs.flatMap (·.2)).length+((aQ g).map fun l=>(ai l).length).sum=(sE g.E).length+2*(aQ g).length:=by
  rw[<- (fH b).length_eq,<- k];have:∀ l:jm,(∀ p∈l,p∈Bs)->(l.flatMap (·.2)).length+((l.map (·.1)).map fun l=>(ai l).length).sum=(l.map (·.1)).flatten.length+2*(l.map (·.1)).length:=by
   intro l;induction l with
   |nil=>intro _;rfl
   |cons p l o=>intro m;have C:=o fun q B=>m q (ar _ B);have O:=(hS.ok p (m p aw)).1.cnt;simp only[ec,ax,List.sum_cons,List.flatten_cons,cf,List.length_cons]at C ⊢;omega
  exact this Bs fun _ h=>h
 have N:(sE g.E).length<=g.E.length:=nX g.E;have t:(Ci g Bs).g=g:=rfl;rw[t,y]at w;omega
end
noncomputable def FF(m:Mp):Int:=if vQ m≠0 then vQ m else if gn m≠0 then 23 else 0
end Aw
end Go.Proofs.YtbgngpdonpeboaaGreatDoor
