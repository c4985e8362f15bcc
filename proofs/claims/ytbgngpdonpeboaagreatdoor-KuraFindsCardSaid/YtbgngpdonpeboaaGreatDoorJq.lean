/- Lemmas. -/
import Derived.Test.YtbgngpdonpeboaaGreatDoorJp
set_option linter.unusedSectionVars false
set_option linter.defProp false
set_option maxHeartbeats 4000000
open Go.Proofs.Tryz
namespace Go.Proofs.YtbgngpdonpeboaaGreatDoor
namespace Aw
open Go Go.RowKit Pl Eu
def k5(u i v j t:Int)(a b c d C W g e h f:PP):List (Int×PP×Int):=[(u,a,i),(i,b,v),(v,c,j),(j,d,u),(u,C,v),(i,W,j),(u,g,t),(i,e,t),(v,h,t),(j,f,t)]
variable{g:Gr}{a b v x:Int}{E c:List Ed}{I J f l:List Int}
theorem G5{s:Int->Int}(hP:PlE E s){u i j t:Int}{g n C W F B H D:PP}:¬Ps E [u,i,v,j,t] (k5 u i v j t l f g n C W F B H D):=fun h=>by
 have Tv:=hP.bl.ne;have R:=h.row;simp only[k5,rf]at R;obtain⟨r1,r2,r3,r4,rc,rw',lu,li,lv,lj,_⟩:=R;have y:=h.nd;simp only[k5,dt,nw,dT]at y;have x:(u::((l++i::f)++v::(g++j::n))).Nodup:=mG y fun a=>by simp only[cy,cX,List.count_nil];omega
 have J:Rw' E (u::((l++i::f)++v::(g++j::n))++[u]):=by have e:u::((l++i::f)++v::(g++j::n))++[u]=(u::l)++i::(f++v::(g++j::(n++[u]))):=Y;rw[e];exact Rw'.app r1 (Rw'.app (A:=i::f) r2 (Rw'.app (A:=v::g) r3 r4))
 have o:Ri E (u::((l++i::f)++v::(g++j::n))):=⟨x,by simp;omega,fun a b k=>J a b k⟩;have I:=rE x (v:=i) (w:=j) Y Y;let K:PP:=t::(F++(B++(H++D)));have off:∀ X:PP,(∀ a,X.count a+(u::((l++i::f)++v::(g++j::n))).count a<=([u,i,v,j,t]++(l++(f++(g++(n++(C++(W++(F++(B++(H++D)))))))))).count a)->∀ w∈X,w∉u::((l++i::f)++v::(g++j::n)):=fun X N w d k=>by have h1:=N w;have h2:=km.1 y w;have h3:=ou.2 d;have h4:=ou.2 k;omega
 have oC:=off C fun a=>by simp only[cy,cX,List.count_nil];omega
 have oW:=off W fun a=>by simp only[cy,cX,List.count_nil];omega
 have Q:=off K fun a=>by simp only[K,cy,cX,List.count_nil];omega
 have d1:(u::(C++[v])).Nodup:=mG y fun a=>by simp only[cy,cX,List.count_nil];omega
 have d2:(i::(W++[j])).Nodup:=mG y fun a=>by simp only[cy,cX,List.count_nil];omega
 have r:∀ V X:PP,(∀ a,V.count a+X.count a<=([u,i,v,j,t]++(l++(f++(g++(n++(C++(W++(F++(B++(H++D)))))))))).count a)->∀ w,w∈V->¬w∈X:=fun V X N w d k=>by have h1:=N w;have h2:=km.1 y w;have h3:=ou.2 d;have h4:=ou.2 k;omega
 have x12:=r C W fun a=>by simp only[cy,cX,List.count_nil];omega
 have x13:=r C K fun a=>by simp only[K,cy,cX,List.count_nil];omega
 have x23:=r W K fun a=>by simp only[K,cy,cX,List.count_nil];omega
 have S:∀(L:PP),(∀ w∈L,w∈K)->∀ p,Rw' E (p::(L++[t]))->(∀ w∈L,RIn E (fun z=>z∈K) t w)/\∃ q,q∈K/\p∈nbr E q:=fun L hL p x=>by
  have c7:Rw' E (L++[t]):=fun a b k=>x a b (kL [p] k);refine⟨fun w d=>Be c7 (fun z P=>?_) t Y w (Z d),?_⟩
  .rcases am.1 P with P|P
   .exact hL z P
   .rw[bi.1 P];exact ar
  .cases L with
   |nil=>exact⟨t,ar,cF.2 (dQ (x p t (by simp[ad])))⟩
   |cons m L=>exact⟨m,hL m ar,cF.2 (dQ (x p m (by simp[ad])))⟩
 have su:=S F (fun w d=>by simp[K,d]) u lu;have si:=S B (fun w d=>by simp[K,d]) i li;have sv:=S H (fun w d=>by simp[K,d]) v lv;have sj:=S D (fun w d=>by simp[K,d]) j lj;have M:∀ w∈K,RIn E (fun z=>z∈K) t w:=fun w d=>by
  simp only[K,ai,am]at d;rcases d with rfl|d|d|d|d
  .exact .refl ar
  .exact su.1 w d
  .exact si.1 w d
  .exact sv.1 w d
  .exact sj.1 w d
 have T:u≠v:=by have:=d1;grind
 have mu:u∈u::((l++i::f)++v::(g++j::n)):=Y;have U:i∈u::((l++i::f)++v::(g++j::n)):=Y;have mv:v∈u::((l++i::f)++v::(g++j::n)):=Y;have mj:j∈u::((l++i::f)++v::(g++j::n)):=Y;have hS:Thg E (fun w=>w∈K,fun w=>w=u\/w=i\/w=v\/w=j):=by
  refine⟨.inr ⟨⟨t,ar⟩,fun p q hp hq=>(M p hp).symm.trans (M q hq),fun c N=>?_⟩,fun w d k=>?_,u,v,.inl rfl,.inr (.inr (.inl rfl)),T⟩
  .rcases N with rfl|rfl|rfl|rfl
   .exact su.2
   .exact si.2
   .exact sv.2
   .exact sj.2
  .rcases k with rfl|rfl|rfl|rfl
   .exact Q _ d mu
   .exact Q _ d U
   .exact Q _ d mv
   .exact Q _ d mj
 have kS:Kr E (fun w=>w∈K,fun w=>w=u\/w=i\/w=v\/w=j) (u::((l++i::f)++v::(g++j::n))):=
  ⟨x,o.len,o.ed,fun w d k=>Q w k d,fun w d=>by rcases d with rfl|rfl|rfl|rfl;exact mu;exact U;exact mv;exact mj,fun q=>absurd ar (q t)⟩
 exact Ka hP (Cc rc d1) (Cc rw' d2) hS (Kn o mu mv oC I Tv) (Kn o U mj oW (rS I) Tv) kS x12 x13 x23 (Ga I)
  (fun k=>k.no u v i j (.inl rfl) (.inr rfl) (.inr (.inl rfl)) (.inr (.inr (.inr rfl))) I) (fun k=>k.no i j u v (.inl rfl) (.inr rfl) (.inl rfl) (.inr (.inr (.inl rfl))) (rS I))
def IT(E:QR):Prop:=∃ u i v j t a b c d C W g e h f,Ps E [u,i,v,j,t] (k5 u i v j t a b c d C W g e h f)
section
variable {E:List Ed} {u v:Int} {A B:(Int->Prop)×(Int->Prop)}
theorem J3{C D F I:PP}{i j:Int}(h:Fr E u v (C++i::D) (F++j::I) A B)(k1:A.2 i)(k2:A.2 j)(q1:B.2 u)(q2:B.2 i)(q3:B.2 v)(q4:B.2 j):AO E\/IT E:=by
 have V:=h.n;have l:=km.1 V;have R:u≠v:=by rintro rfl;have:=l u;simp[cy,cX]at this<;>omega
 have S:v≠i:=by rintro rfl;have:=l v;simp[cy,cX]at this<;>omega
 have T:u≠i:=by rintro rfl;have:=l u;simp[cy,cX]at this<;>omega
 have U:i≠j:=by rintro rfl;have:=l i;simp[cy,cX]at this<;>omega
 obtain⟨W,z,P,Q,_⟩:=h.tA.wy h.ne k1 k2 U;obtain⟨m,o⟩:=h.rI.cut1;obtain⟨p,q⟩:=h.rJ.cut1;rcases h.tB.four h.ne q1 q3 q2 q4 R S T with⟨t,J,K,L,M,b,d,f,g,k,r⟩|⟨w,x,y,X,t,s,J,K,L,M,N,b,d,f,g,k,r,l7⟩
 .refine .inr ⟨u,i,v,j,t,C,D,F,I,[],W,J,L,K,M,?_,?_,?_⟩
  .simp only[k5,dt,nw,dT,List.nil_append];exact mG (h.nd3 P k Q r) fun a=>by simp only[cy,cX,List.count_nil];omega
  .simp[k5]
  .simp only[k5,rf];exact⟨m,o,p,q,h.e,z,b,f,d,g,Y⟩
 .left;have H:=h.nd3 P r Q l7;rcases X with⟨rfl,rfl,rfl⟩|⟨rfl,rfl,rfl⟩|⟨rfl,rfl,rfl⟩
  .exact HI (a0:=s) (a1:=x) (a2:=y) (b0:=w) (b1:=j) (b2:=t) H (fun c=>by simp only[cy,cX,kf,List.count_nil];omega) b.rev d.rev f h.e.rev p g m.rev z k
  .exact HI (a0:=s) (a1:=x) (a2:=y) (b0:=w) (b1:=j) (b2:=t) H (fun c=>by simp only[cy,cX,kf,List.count_nil];omega) b.rev d.rev f h.e q.rev g o z k
  .exact HI (a0:=s) (a1:=x) (a2:=y) (b0:=w) (b1:=j) (b2:=t) H (fun c=>by simp only[cy,cX,kf,List.count_nil];omega) b.rev d.rev f m q.rev g o.rev p k
end
theorem KP{y:Int}(f:y∈l)(dS:l.idxOf x<l.idxOf y):∃ A B C,l=A++x::(B++y::C):=by
 have d:x∈l:=by have:=lO f;exact List.idxOf_lt_length_iff.1 O
 obtain⟨A,R,e,a⟩:∃ A R,l=A++x::R/\x∉A:=by obtain⟨A,z,R,e,b,a⟩:=pN (M:=[x]) (l:=l) ⟨x,d,Y⟩;simp at b a;subst b;exact⟨A,R,e,fun k=>a z k rfl⟩
 have g:y∉A:=fun k=>by
  have:=lO k;rw[e]at dS
  grind
 have h:y≠x:=fun e=>by rw[e]at dS;omega
 have:y∈R:=by grind
 obtain⟨B,C,c⟩:=fo this;exact⟨A,B,C,by rw[e,c]⟩
theorem tE{u:Int}(a:(u::(I++v::J)).Nodup)(b:x∈I):(u::(I++v::J)).idxOf x=I.idxOf x+1:=by grind
theorem Au{u:Int}(a:(u::(I++v::J)).Nodup)(b:x∈J):(u::(I++v::J)).idxOf x=I.length+2+J.idxOf x:=by grind
section
variable {E:List Ed} {u v:Int} {I J:List Int} {A B:(Int->Prop)×(Int->Prop)} (h:Fr E u v I J A B)
include h
theorem Fr.sI{x y:Int}(e:x∈I)(a:y∈I)(dS:(u::(I++v::J)).idxOf x<(u::(I++v::J)).idxOf y):∃ b c d,I=b++x::(c++y::d):=KP a (by rw[tE h.n e,tE h.n a]at dS;omega)
theorem Fr.sJ{x y:Int}(e:x∈J)(a:y∈J)(dS:(u::(I++v::J)).idxOf x<(u::(I++v::J)).idxOf y):∃ b c d,J=b++x::(c++y::d):=KP a (by rw[Au h.n e,Au h.n a]at dS;omega)
theorem Fr.sI3{x y z:Int}(k:x∈I)(g:y∈I)(l:z∈I)(dS:(u::(I++v::J)).idxOf x<(u::(I++v::J)).idxOf y)(a:(u::(I++v::J)).idxOf y<(u::(I++v::J)).idxOf z):∃ b c d f,I=b++x::(c++y::(d++z::f)):=by
 obtain⟨b,c,R,e⟩:=h.sI k g dS;have j:z∈R:=by
  rw[tE h.n k,tE h.n g]at dS;rw[tE h.n g,tE h.n l]at a;have o:I.Nodup:=by have:=h.n;grind
  rw[e]at l dS a o;have p:=@lO b z;have q:=@lO c z
  grind
 obtain⟨d,f,m⟩:=fo j;exact⟨b,c,d,f,by rw[e,m]⟩
theorem Fr.nX(n:¬AO E){a c b d:Int}(l:A.2 a)(m:A.2 b)(o:B.2 c)(p:B.2 d)(e:a∈I)(f:c∈I)(g:b∈J)(j:d∈J)(dS:(u::(I++v::J)).idxOf a<(u::(I++v::J)).idxOf c):(u::(I++v::J)).idxOf d<=(u::(I++v::J)).idxOf b:=dq fun k=>by obtain⟨q,r,s,rfl⟩:=h.sI e f dS;obtain⟨t,w,x,rfl⟩:=h.sJ g j O;exact n (No h l m o p)
theorem Fr.reg{w:Int}(a:w∈u::(I++v::J)):(w=u/\(u::(I++v::J)).idxOf w=0)\/(w∈I/\0<(u::(I++v::J)).idxOf w/\(u::(I++v::J)).idxOf w<I.length+1)\/(w=v/\(u::(I++v::J)).idxOf w=I.length+1)\/(w∈J/\I.length+1<(u::(I++v::J)).idxOf w):=gF h.n a
end
section
variable {E:List Ed} {u v:Int} {I J:List Int} {A B:(Int->Prop)×(Int->Prop)}
theorem Fr.beta(h:Fr E u v I J A B){d b a c:Int}(j:A.2 d)(l:A.2 a)(m:B.2 u)(n:B.2 b)(f:B.2 c)(s:d∈I)(t:b∈I)(w:a∈J)(g:c∈J)(dS:(u::(I++v::J)).idxOf d<(u::(I++v::J)).idxOf b)(x:(u::(I++v::J)).idxOf c<=(u::(I++v::J)).idxOf a):AO E:=by
 obtain⟨z,C,D,rfl⟩:=h.sI s t dS;by_cases k:c=a
 .subst k;obtain⟨o,p,rfl⟩:=fo g;exact V2 h j l m n f
 .have q:=h.cB c f;have r:=fun e=>k (gA (y:=a) q e);obtain⟨o,p,F,rfl⟩:=h.sJ g w (Nat.lt_of_le_of_ne x r);exact N3 h j l m n f
theorem pB{x:Int}(h:Fr E u v I J A B):(x∈J->(u::(J.reverse++v::I.reverse)).idxOf x+(u::(I++v::J)).idxOf x=I.length+J.length+2)/\(x∈I->(u::(J.reverse++v::I.reverse)).idxOf x+(u::(I++v::J)).idxOf x=I.length+J.length+2):=by
 have b:=h.n;have hf:=h.flip.n;have c:I.Nodup:=by grind
 have d:J.Nodup:=by grind
 refine⟨fun a=>?_,fun a=>?_⟩
 .have:=Gn d a;have:=lO a;rw[tE hf (iu.2 a),Au b a];omega
 .have:=Gn c a;have:=lO a;rw[Au hf (iu.2 a),tE b a,xh];omega
theorem yD{x:Int}(h:Fr E u v I J A B):(x∈J->(v::(J++u::I)).idxOf x+I.length+1=(u::(I++v::J)).idxOf x)/\(x∈I->(v::(J++u::I)).idxOf x=(u::(I++v::J)).idxOf x+J.length+1):=
 ⟨fun a=>by rw[tE h.turn.n a,Au h.n a];omega,fun a=>by rw[Au h.turn.n a,tE h.n a];omega⟩
theorem Fr.s1(h:Fr E u v I J A B)(N:¬AO E)(hav:¬Avo (u::(I++v::J)) A.2 B.2){Q R L S:Int}(F:A.2 Q)(w:A.2 L)(H:B.2 R)(K:B.2 S)(t:Q∈I)(C:R∈I)(D:L∈J)(M:S∈J)(dS:(u::(I++v::J)).idxOf Q<(u::(I++v::J)).idxOf R):False:=by
 have hn:=h.n;have U:∀ {x y:Int},x∈u::(I++v::J)->(u::(I++v::J)).idxOf x=(u::(I++v::J)).idxOf y->x=y:=fun hx e=>gA hx e;by_cases c:∃ a b,A.2 a/\B.2 b/\a∈I/\b∈I/\(u::(I++v::J)).idxOf b<(u::(I++v::J)).idxOf a
 .obtain⟨a,b,d,j,T,W,r⟩:=c;have X:=h.nX N F w H K t C D M dS;have e2:=h.swap.nX N j K d w W T M D r;have V:L=S:=U (h.cA L w) O;subst V;obtain⟨J1,J2,eJ⟩:=fo D;have o:∀ {x y z:Int},A.2 x->B.2 y->A.2 z->x∈I->y∈I->z∈I->(u::(I++v::J)).idxOf x<(u::(I++v::J)).idxOf y->(u::(I++v::J)).idxOf y<(u::(I++v::J)).idxOf z->False:=fun {x y z} kx qy kz ix iy iz l1 l2=>by obtain⟨I1,I2,I3,I4,e⟩:=h.sI3 ix iy iz l1 l2;subst e eJ;exact N (IR h kx kz w qy K)
  have f:∀ {x y z:Int},B.2 x->A.2 y->B.2 z->x∈I->y∈I->z∈I->(u::(I++v::J)).idxOf x<(u::(I++v::J)).idxOf y->(u::(I++v::J)).idxOf y<(u::(I++v::J)).idxOf z->False:=fun {x y z} qx ky qz ix iy iz l1 l2=>by obtain⟨I1,I2,I3,I4,e⟩:=h.sI3 ix iy iz l1 l2;subst e eJ;exact N (IR h.swap qx qz K ky w)
  rcases lh ((u::(I++v::J)).idxOf R) ((u::(I++v::J)).idxOf a)with l|l|l
  .exact o F H d t C T dS l
  .have e:=U (h.cB R H) l;subst e;rcases lh ((u::(I++v::J)).idxOf Q) ((u::(I++v::J)).idxOf b)with l'|l'|l'
   .exact o F j d t W T l' r
   .have e:=U (h.cA Q F) l';subst e;obtain⟨I1,I2,I3,e⟩:=h.sI t T dS;subst e eJ;exact N (NE h F d w j H K)
   .exact f j F H W t C l' dS
  .exact f j d H W T C r l
 .have le:∀ a b,A.2 a->B.2 b->a∈I->b∈I->(u::(I++v::J)).idxOf a<=(u::(I++v::J)).idxOf b:=fun a b d j T W=>dq fun k=>c ⟨a,b,d,j,T,W,O⟩;have ge:∀ a b,A.2 a->B.2 b->a∈J->b∈J->(u::(I++v::J)).idxOf b<=(u::(I++v::J)).idxOf a:=fun a b d j ja jb=>h.nX N F d H j t C ja jb dS;by_cases hu:B.2 u
  .exact N (h.beta F w hu H K t C D M dS (ge L S w K D M))
  by_cases hv:A.2 v
  .have h':=h.swap.flip.turn;have f1:=(pB h (x:=Q)).2 t;have f2:=(pB h (x:=R)).2 C;have f3:=(pB h (x:=L)).1 D;have f4:=(pB h (x:=S)).1 M;have t1:=(yD h.flip (x:=Q)).1 (by simpa using t);have t2:=(yD h.flip (x:=R)).1 (by simpa using C);have t3:=(yD h.flip (x:=L)).2 (by simpa using D);have t4:=(yD h.flip (x:=S)).2 (by simpa using M);have g:=ge L S w K D M;exact N (h'.beta H K hv F w (by simpa using C) (by simpa using t) (by simpa using M) (by simpa using D) O O)
  have side:∀ a b,A.2 a->B.2 b->(a∉J->(u::(I++v::J)).idxOf a<=(u::(I++v::J)).idxOf b)/\(a∈J->(u::(I++v::J)).idxOf b<=(u::(I++v::J)).idxOf a):=fun a b d j=>by
   have P:=h.reg (h.cA a d);have m:=h.reg (h.cB b j);have l1:=le a b d j;have l2:=ge a b d j;have n1:a≠v:=fun e=>hv (e ▸ d);have n2:b≠u:=fun e=>hu (e ▸ j);refine⟨fun V=>?_,fun V=>?_⟩
   .rcases P with⟨_,P⟩|⟨P,ra1,ra2⟩|⟨P,_⟩|⟨P,_⟩
    .omega
    .rcases m with⟨m,_⟩|⟨m,_⟩|⟨_,m⟩|⟨_,m⟩
     .exact absurd m n2
     .exact l1 P m
     .omega
     .omega
    .exact absurd P n1
    .exact absurd P V
   .have:I.length+1<(u::(I++v::J)).idxOf a:=by rw[Au hn V];omega
    rcases m with⟨m,_⟩|⟨_,_,m⟩|⟨_,m⟩|⟨m,_⟩
    .exact absurd m n2
    .omega
    .omega
    .exact l2 V m
  refine hav ⟨fun a a' p q d s kp kq hc=>?_,fun a b e d kb ke s kb' ke'=>?_⟩
  .have s1:=side a p d kp;have s2:=side a q d kq;have s3:=side a' p s kp;have s4:=side a' q s kq;have h2:=hc.2;by_cases ja:a∈J<;>by_cases ja':a'∈J<;>simp only[ja,ja',ta,not_false_eq_true,vt,xv,qf,ue]at s1 s2 s3 s4<;>unfold dP dh at h2<;>omega
  .have s1:=side a b d kb';have s2:=side b a kb s;have s3:=side a e d ke';have s4:=side e a ke s;have s5:=side b e kb ke';have s6:=side e b ke kb';have X:=@U a b (h.cA a d);have e2:=@U b e (h.cA b kb);have e3:=@U a e (h.cA a d);by_cases ja:a∈J<;>by_cases jb:b∈J<;>by_cases je:e∈J<;>simp only[ja,jb,je,ta,not_false_eq_true,vt,xv,qf,ue]at s1 s2 s3 s4 s5 s6
   .exact .inl (X O)
   .exact .inl (X O)
   .exact .inr (.inr (e3 O))
   .exact .inr (.inl (e2 O))
   .exact .inr (.inl (e2 O))
   .exact .inr (.inr (e3 O))
   .exact .inl (X O)
   .exact .inl (X O)
theorem Fr.done(h:Fr E u v I J A B)(m:¬Avo (u::(I++v::J)) A.2 B.2){g b1 j b2:Int}(o:A.2 g)(s:A.2 j)(F:B.2 b1)(H:B.2 b2)(z:g∈I)(i2:b1∈I)(M:j∈J)(j2:b2∈J):AO E\/IT E:=by
 by_cases Q:AO E
 .exact .inl Q
 have X:=h.n;have y:¬Avo (u::(I++v::J)) B.2 A.2:=fun k=>m k.symm;have d:∀ C D,Avo (u::(J.reverse++v::I.reverse)) C D->Avo (u::(I++v::J)) C D:=fun C D k=>by
  have hr:Rt (u::(I++v::J)).reverse (u::(J.reverse++v::I.reverse)):=⟨J.reverse++v::I.reverse,[u],Y,Y⟩;have P:=(ik (u::(I++v::J))).nodup_iff.2 X;have:=((rM P hr C D).1 k).rev P
  rwa [om]at this
 have K:∀ a b,A.2 a->B.2 b->a∈I->b∈I->a=b:=fun a b c S ia ib=>by
  refine gA (h.cA a c) ?_;rcases lh ((u::(I++v::J)).idxOf a) ((u::(I++v::J)).idxOf b)with l|l|l
  .exact(h.s1 Q m c s S H ia ib M j2 l).elim
  .exact l
  .exact(h.swap.s1 Q y S H c s ib ia j2 M l).elim
 have L:∀ a b,A.2 a->B.2 b->a∈J->b∈J->a=b:=fun a b c S ja jb=>by
  refine gA (h.cA a c) ?_;have f1:=(pB h (x:=a)).1 ja;have f2:=(pB h (x:=b)).1 jb;rcases lh ((u::(I++v::J)).idxOf a) ((u::(I++v::J)).idxOf b)with l|l|l
  .exact(h.flip.swap.s1 Q (fun k=>y (d _ _ k)) S F c o (by simpa using jb) (by simpa using ja) (by simpa using i2) (by simpa using z) O).elim
  .exact l
  .exact(h.flip.s1 Q (fun k=>m (d _ _ k)) c o S F (by simpa using ja) (by simpa using jb) (by simpa using z) (by simpa using i2) O).elim
 have e1:=K g b1 o F z i2;have e2:=L j b2 s H M j2;subst e1 e2;have f:∀ w,A.2 w->w=u\/w=g\/w=v\/w=j:=fun w N=>by
  rcases h.reg (h.cA w N)with⟨r,_⟩|⟨r,_⟩|⟨r,_⟩|⟨r,_⟩
  .exact .inl r
  .exact .inr (.inl (K w g N F r z))
  .exact .inr (.inr (.inl r))
  .exact .inr (.inr (.inr (L w j N H r M)))
 have R:∀ w,B.2 w->w=u\/w=g\/w=v\/w=j:=fun w N=>by
  rcases h.reg (h.cB w N)with⟨r,_⟩|⟨r,_⟩|⟨r,_⟩|⟨r,_⟩
  .exact .inl r
  .exact .inr (.inl (K g w o N z r).symm)
  .exact .inr (.inr (.inl r))
  .exact .inr (.inr (.inr (L j w s N M r).symm))
 obtain⟨I1,I2,V⟩:=fo z;obtain⟨J1,J2,W⟩:=fo M;by_cases U:B.2 u/\B.2 v
 .subst V W;exact J3 h o s U.1 F U.2 H
 by_cases T:A.2 u/\A.2 v
 .subst V W;exact J3 h.swap F H T.1 o T.2 s
 left;by_cases cu:A.2 u/\B.2 u
 .subst V W;exact IS h o s cu.1 F H cu.2
 by_cases cv:A.2 v/\B.2 v
 .have h':=h.turn;subst V W;exact IS h' s o cv.1 H F cv.2
 refine absurd ⟨fun a a' p q c t kp kq hc=>?_,fun a b e c kb ke t kb' ke'=>?_⟩ m
 .have ri:=h.reg (h.cA g o);have rj:=h.reg (h.cA j s);have pu:(u::(I++v::J)).idxOf u=0:=Y;have pv:(u::(I++v::J)).idxOf v=I.length+1:=(Mw X).2;have pi:0<(u::(I++v::J)).idxOf g/\(u::(I++v::J)).idxOf g<I.length+1:=by have:=lO z;rw[tE X z];omega
  have pj:I.length+1<(u::(I++v::J)).idxOf j:=by rw[Au X M];omega
  have h2:=hc.2;clear hc ri rj;have ca:=f a c;have ca':=f a' t;have cp:=R p kp;have cq:=R q kq
  rcases ca with rfl|rfl|rfl|rfl<;>rcases ca' with rfl|rfl|rfl|rfl<;>first
   |(unfold dP dh at h2;omega)
   |(rcases cp with rfl|rfl|rfl|rfl<;>rcases cq with rfl|rfl|rfl|rfl<;>first
      |(unfold dP dh at h2;omega)
      |exact T ⟨c,t⟩
      |exact T ⟨t,c⟩
      |exact U ⟨kp,kq⟩
      |exact U ⟨kq,kp⟩)
 .have ra:=f a c;have rb:=f b kb;have re:=f e ke
  grind
end
def qo(E:QR)(L:QP):Prop:=∀ p,(∃ e∈E,ae e=p)↔p∈L
theorem UD(l:Mn E){a:List (Int×PP×Int)}(h:Ps E f a)(Tv:∀ p∈a,p.1≠p.2.2)(b:∀ d s,PlE d s->¬Ps d f a):qo E (a.map fun p=>aj p.1 p.2.2):=fun q=>by
 obtain⟨g,j⟩:=h.exact l Tv b;rw[ao];constructor
 .rintro⟨e,m,rfl⟩;obtain⟨p,c,k⟩:=j e m;exact⟨p,c,k.symm⟩
 .rintro⟨p,c,rfl⟩;exact(g p c).2
theorem Mn.kur(e:Mn E):(∃ C f g D l n,[C,f,g,D,l,n].Nodup/\qo E [aj C D,aj C l,aj C n,aj f D,aj f l,aj f n,aj g D,aj g l,aj g n])\/
 (∃ u i v j t,[u,i,v,j,t].Nodup/\qo E [aj u i,aj i v,aj v j,aj j u,aj u v,aj i j,aj u t,aj i t,aj v t,aj j t]):=by
 obtain⟨r,u,v,A,B,o⟩:=e.tri;have d:=o.ch;obtain⟨x,y,I,J,W,X⟩:=uK d.hu d.hv d.ne;have F:Rt r (u::(I++v::J)):=⟨x,y,W,X.symm⟩;have R:=F.nd.2 d.ri.nd;have c:=d.rt F;have M:=o.a.1.rt F;have N:=o.b.1.rt F;have kA:=rX e.tc.ne c.ri M;have S:=rX e.tc.ne c.ri N;have hF:Fr E u v I J A B:=⟨R,fun a b k=>c.ri.ed a b (bH.2 (.inl k)),fun a b k=>c.ri.ed a b (bH.2 (.inr k)),fun a b k=>by simp[ad]at k;rw[k.1,k.2];exact d.ed,e.tc.ne,rQ e.tc c.ri M,rQ e.tc c.ri N,fun w z k=>kA.off w k z,fun w z k=>S.off w k z,kA.on,S.on,IC M N o.ab.1⟩;have H:∀ T:(Int->Prop)×(Int->Prop),(∀ w,T.2 w->w∈u::(I++v::J))->¬Avo r T.2 (eT u v).2->(∃ m,T.2 m/\m∈I)/\∃ m,T.2 m/\m∈J:=fun T K k=>by
  have U:¬Avo (u::(I++v::J)) T.2 (eT u v).2:=fun q=>k ((rM d.ri.nd F _ _).1 q);refine⟨HG R (fun w z=>?_) K U,Hf R (fun w z=>?_) K U⟩
  .rcases z with rfl|rfl<;>simp
  .rcases z with rfl|rfl
   .exact⟨Y,by grind⟩
   .exact⟨Y,by grind⟩
 obtain⟨⟨f,k1,i1⟩,g,k2,j1⟩:=H A kA.on o.a.2.2;obtain⟨⟨l,q1,i2⟩,n,q2,j2⟩:=H B S.on o.b.2.2;rcases hF.done (fun q=>o.ab.2 ((rM d.ri.nd F _ _).1 q)) k1 k2 q1 q2 i1 i2 j1 j2 with⟨C,f,g,D,l,n,_,_,_,_,_,_,_,_,_,h⟩|⟨u,i,v,j,t,_,_,_,_,_,_,_,_,_,_,h⟩
 .left;have Q:=(bo.1 h.nd).1;refine⟨C,f,g,D,l,n,Q,UD e h (fun p L=>?_) fun V s P=>Zz P⟩;simp only[oX,ai,gz,ij]at L;rcases L with rfl|rfl|rfl|rfl|rfl|rfl|rfl|rfl|rfl<;>grind
 .right;have Q:=(bo.1 h.nd).1;refine⟨u,i,v,j,t,Q,UD e h (fun p L=>?_) fun V s P=>G5 P⟩;simp only[k5,ai,gz,ij]at L;rcases L with rfl|rfl|rfl|rfl|rfl|rfl|rfl|rfl|rfl|rfl<;>grind
structure Mn0(E:QR):Prop where
 bl:BlE E
 np:¬∃ s,PlE E s
 min:∀ e∈E,∃ s,PlE (rm E e) s
theorem qH(l:BlE E)(m:(c.map ae).Nodup)(h:∀ e∈c,∃ f∈E,ae f=ae e):BlE c:=by
 have j:∀ e∈c,∀ v,v=e.a\/v=e.b->v∈af E:=fun e d v g=>by
  obtain⟨f,hf,k⟩:=h e d;have:=bN (x:=e.a) (y:=e.b) hf k;rcases g with rfl|rfl
  .exact this.1
  .exact this.2
 refine⟨fun e d k=>?_,m,fun v g=>?_⟩
 .obtain⟨f,hf,i⟩:=h e d;have:=l.ne f hf;have:=aN (u:=f.a) (v:=f.b) (x:=e.a) (y:=e.b) i
  grind
 .obtain⟨e,d,k⟩:=(aI v c).1 g;exact l.bnd v (j e d v k)
theorem Mn0.smooth{l E':QR}(h:Mn0 E)(r9:a≠b)(o:∀ p,(∃ e∈E,ae e=p)↔(∃ e∈l,ae e=p)\/p=aj a v\/p=aj b v)(U:(l.map ae).Nodup)(P:v∉af l)
 (d:∀ p,(∃ e∈E',ae e=p)↔(∃ e∈l,ae e=p)\/p=aj a b) (D:(E'.map ae).Nodup):(∀ e∈l,ae e≠aj a b)/\Mn0 E':=by
 obtain⟨A,m,K⟩:=(o (aj a v)).2 (.inr (.inl rfl));obtain⟨J,r,R⟩:=(o (aj b v)).2 (.inr (.inr rfl));have va:=bN m K;have vb:=bN r R;have hav:a≠v:=by have:=h.bl.ne A m;have:=aN (u:=A.a) (v:=A.b) (x:=a) (y:=v) K;grind
 have hbv:b≠v:=by have:=h.bl.ne J r;have:=aN (u:=J.a) (v:=J.b) (x:=b) (y:=v) R;grind
 have hvb:=h.bl.bnd v va.2;have L:BlE l:=qH h.bl U fun e c=>(o _).2 (.inl ⟨e,c,rfl⟩);have sim:∀ e∈E,∀ f∈E,ae e=ae f->e=f:=fun e c f hf q=>eZ h.bl.sim c hf q;have t:∀ e∈l,∀ w,ae e≠aj w v:=fun e c w k=>P (bN c k).2;have T:∃ s,PlE l s:=by obtain⟨s,n⟩:=h.min A m;refine⟨s,n.of_sub L fun e c=>?_⟩;obtain⟨f,hf,k⟩:=(o _).2 (.inl ⟨e,c,rfl⟩);exact⟨f,dW.2 ⟨hf,fun q=>t e c a (k.symm.trans (q ▸ K))⟩,k⟩
 have up:∀(F:QR) s,PlE F s->(∃ e∈F,ae e=aj a b)->v∉af F->(∀ e∈l,∃ f∈F,ae f=ae e)->False:=fun F s n ⟨z,X,k0⟩ hvF hsub=>by
  obtain⟨s',I⟩:=n.lay1 X hvF hvb;refine h.np ⟨s',I.of_sub h.bl fun e c=>?_⟩;have H:∀ p,p=aj a v\/p=aj b v->∃ f∈(⟨0,z.b,v⟩::⟨0,z.a,v⟩::F:QR),ae f=p:=fun p hp=>by
   rcases aN (u:=z.a) (v:=z.b) (x:=a) (y:=b) k0 with⟨i,j⟩|⟨i,j⟩
   .rcases hp with rfl|rfl
    .exact⟨⟨0,z.a,v⟩,Y,by rw[<- i]⟩
    .exact⟨⟨0,z.b,v⟩,Y,by rw[<- j]⟩
   .rcases hp with rfl|rfl
    .exact⟨⟨0,z.b,v⟩,Y,by rw[<- j]⟩
    .exact⟨⟨0,z.a,v⟩,Y,by rw[<- i]⟩
  rcases(o (ae e)).1 ⟨e,c,rfl⟩with⟨f,hf,k⟩|k
  .obtain⟨g,C,k'⟩:=hsub f hf;exact⟨g,Z C,k'.trans k⟩
  .exact H _ k
 have h1:∀ e∈l,ae e≠aj a b:=fun e c k=>by obtain⟨s,n⟩:=T;exact up l s n ⟨e,c,k⟩ P fun e c=>⟨e,c,rfl⟩
 have Q:∀ e∈E',∀ w,w=e.a\/w=e.b->w∈af E/\w≠v:=fun e c w hw=>by
  rcases(d (ae e)).1 ⟨e,c,rfl⟩with⟨f,hf,k⟩|k
  .have:=bN (x:=e.a) (y:=e.b) hf k;obtain⟨g,C,k'⟩:=(o _).2 (.inl ⟨f,hf,rfl⟩);have:=bN (x:=e.a) (y:=e.b) C (k'.trans k);rcases hw with rfl|rfl
   .exact⟨this.1,fun q=>P (q ▸ (bN (x:=e.a) (y:=e.b) hf k).1)⟩
   .exact⟨this.2,fun q=>P (q ▸ (bN (x:=e.a) (y:=e.b) hf k).2)⟩
  .have:=aN (u:=e.a) (v:=e.b) (x:=a) (y:=b) k
   grind
 have B:BlE E':=⟨fun e c k=>by
  rcases(d (ae e)).1 ⟨e,c,rfl⟩with⟨f,hf,i⟩|i
  .have:=L.ne f hf;have:=aN (u:=f.a) (v:=f.b) (x:=e.a) (y:=e.b) i
   grind
  .have:=aN (u:=e.a) (v:=e.b) (x:=a) (y:=b) i
   grind,D,fun w hw=>by
  obtain⟨e,c,k⟩:=(aI w E').1 hw
  exact h.bl.bnd w (Q e c w k).1⟩
 have hv':v∉af E':=fun k=>by obtain⟨e,c,q⟩:=(aI v E').1 k;exact(Q e c v q).2 rfl
 refine⟨h1,B,fun⟨s,n⟩=>up E' s n ((d _).2 (.inr rfl)) hv' fun e c=>(d _).2 (.inl ⟨e,c,rfl⟩),fun f hf=>?_⟩;have M:BlE (rm E' f):=GS B eu;rcases(d (ae f)).1 ⟨f,hf,rfl⟩with⟨g,C,k⟩|k
 ·
  obtain⟨g',hg',kg⟩:=(o _).2 (.inl ⟨g,C,rfl⟩);obtain⟨s,n⟩:=h.min g' hg';have hgn:∀ e∈rm l g,ae e≠ae g:=fun e c q=>(dW.1 c).2 (eZ U (dW.1 c).1 C q);have V:BlE (⟨0,b,v⟩::⟨0,a,v⟩::rm l g):=by
   refine qH h.bl ?_ fun e c=>?_
   .simp only[ax,bw,ai,ao,fJ];refine⟨⟨fun q=>?_,fun⟨e,c,q⟩=>t e (dW.1 c).1 _ q⟩,fun⟨e,c,q⟩=>t e (dW.1 c).1 _ q,(eu.map ae).nodup U⟩;have:=aN (u:=b) (v:=v) (x:=a) (y:=v) q
    grind
   .rcases ai.1 c with rfl|c
    .exact⟨J,r,R⟩
    .rcases ai.1 c with rfl|c
     .exact⟨A,m,K⟩
     .exact(o _).2 (.inl ⟨e,(dW.1 c).1,rfl⟩)
  have hs2:PlE (⟨0,b,v⟩::⟨0,a,v⟩::rm l g) s:=n.of_sub V fun e c=>by
   have S:∀ q:Ed,q∈E->(∃ w,ae q=aj w v)->q∈rm E g':=fun q N ⟨w,i⟩=>dW.2 ⟨N,fun j=>t g C w (kg.symm.trans (j ▸ i))⟩;rcases ai.1 c with rfl|c
   .exact⟨J,S J r ⟨b,R⟩,R⟩
   .rcases ai.1 c with rfl|c
    .exact⟨A,S A m ⟨a,K⟩,K⟩
    .obtain⟨q,N,i⟩:=(o _).2 (.inl ⟨e,(dW.1 c).1,rfl⟩);exact⟨q,dW.2 ⟨N,fun j=>hgn e c (i.symm.trans (j ▸ kg))⟩,i⟩
  have W:BlE (⟨0,a,b⟩::rm l g):=by
   refine qH B ?_ fun e c=>?_
   .simp only[ax,bw,ao];exact⟨fun⟨e,c,q⟩=>h1 e (dW.1 c).1 q,(eu.map ae).nodup U⟩
   .rcases ai.1 c with rfl|c
    .exact(d _).2 (.inr rfl)
    .exact(d _).2 (.inl ⟨e,(dW.1 c).1,rfl⟩)
  obtain⟨s',I⟩:=hs2.unlay (fun q=>P (by
   obtain⟨e,c,i⟩:=(aI v _).1 q
   exact(aI v _).2 ⟨e,(dW.1 c).1,i⟩)) W
  refine⟨s',I.of_sub M fun e c=>?_⟩;obtain⟨c,Tv⟩:=dW.1 c;rcases(d (ae e)).1 ⟨e,c,rfl⟩with⟨q,N,i⟩|i
  .exact⟨q,aq _ (dW.2 ⟨N,fun j=>Tv (eZ D c hf (i.symm.trans (j ▸ k)))⟩),i⟩
  .exact⟨⟨0,a,b⟩,ar,i.symm⟩
 ·
  obtain⟨s,n⟩:=T;refine⟨s,n.of_sub M fun e c=>?_⟩;obtain⟨c,Tv⟩:=dW.1 c;rcases(d (ae e)).1 ⟨e,c,rfl⟩with q|i
  .exact q
  .exact absurd (eZ D c hf (i.trans k.symm)) Tv
def vC:Int->QR->QR
 |_,[]=>[]
 |k,e::E=>⟨k,e.a,e.b⟩::vC (k+1) E
theorem KJ:∀(E:QR) (k:Int),(vC k E).map ae=E.map ae
 |[],_=>rfl
 |e::E,k=>by rw[vC,ax,ax,KJ E]
theorem DE:∀(E:QR) (k:Int),∀ x∈vC k E,k<=x.id/\x.id<k+E.length
 |[],_,x,h=>by cases h
 |e::E,k,x,h=>by
  rw[vC]at h;rcases ai.1 h with rfl|h
  .simp;omega
  .have:=DE E (k+1) x h;simp;omega
theorem Ey:∀(E:QR) (k:Int),(vC k E).Pairwise fun x y=>x.id<y.id
 |[],_=>.nil
 |e::E,k=>by rw[vC];exact .cons (fun x h=>by have:=DE E (k+1) x h;show k<x.id;omega) (Ey E (k+1))
theorem sY{a:QR}(h:a.map ae=E.map ae){e:Ed}(b:e∈a):∃ f∈E,ae f=ae e:=by have:=h ▸ dd (f:=ae) b;exact ao.1 this
theorem Mn0.of_prs(h:Mn0 E)(b:c.map ae=E.map ae):Mn0 c:=by have d:BlE c:=qH h.bl (b ▸ h.bl.sim) fun e a=>sY b a;refine⟨d,fun⟨s,l⟩=>h.np ⟨s,l.of_sub h.bl fun e a=>sY b.symm a⟩,fun e a=>?_⟩;obtain⟨f,hf,k⟩:=sY b a;obtain⟨s,l⟩:=h.min f hf;refine⟨s,l.of_sub (GS d eu) fun g r=>?_⟩;obtain⟨m,p⟩:=dW.1 r;obtain⟨o,j,n⟩:=sY b m;exact⟨o,dW.2 ⟨j,fun q=>p (eZ d.sim m a (by rw[<- n,q,k]))⟩,n⟩
theorem Mn0.tc(h:Mn0 E)(J:E.Pairwise fun x y=>x.id<y.id)(T:∀ x∈E,1<=x.id/\x.id<=1048576)(C:∀ v∈af E,1<=v/\v<=1048576)(Q:(af E).length<=24)(A:E.length<=50):Tc E:=by
 have I:chk ⟨af E,E⟩=0:=Mc ⟨jM E,C,J,T,h.bl.ne,fun x t=>⟨(aI _ _).2 ⟨x,t,.inl rfl⟩,(aI _ _).2 ⟨x,t,.inr rfl⟩⟩,by show(af E).length<=64;omega,by show E.length<=160;omega⟩;have H:=fF I;obtain⟨o,R,P⟩:=Jr I Q A;have o7:¬o.isSome=true:=fun k=>by obtain⟨s,g⟩:=P.1 k;refine h.np ⟨s,g.of_sub h.bl fun e A=>?_⟩;exact Tj A
 have:∃ l∈aT ⟨af E,E⟩,¬∃ F,rY l=some (some F):=dq fun k=>o7 (Bz (fun l n=>dq fun q=>k ⟨l,n,q⟩) R);obtain⟨l,n,m⟩:=this;obtain⟨L,M,u7,N⟩:=IK H (by show(af E).length<=64;omega) (by show E.length<=200;omega) n;have B:¬∃ s,PlE l s:=fun k=>m (FG H (by show(af E).length<=64;omega) (by show E.length<=200;omega) (by show E.length<=_;omega) n k);have K:2<=l.length:=by
  match l,L,m with
  |[e],_,m=>exact absurd ⟨_,rfl⟩ m
  |_::_::_,_,_=>simp
 have z:=N K;have D:∀ e∈l,e∈E:=fun e k=>(M e k).1;have c:∀ e∈E,e∈l:=fun e k=>dq fun q=>by obtain⟨s,g⟩:=h.min e k;refine B ⟨s,g.of_sub ⟨z.ne,z.sim,fun v C=>?_⟩ fun f hf=>⟨f,dW.2 ⟨D f hf,fun r=>q (r ▸ hf)⟩,rfl⟩⟩;obtain⟨f,hf,i⟩:=(aI v l).1 C;exact h.bl.bnd v ((aI v E).2 ⟨f,D f hf,i⟩)
 have j:∀ v,v∈af E->v∈af l:=fun v k=>by obtain⟨f,hf,i⟩:=(aI v E).1 k;exact(aI v l).2 ⟨f,c f hf,i⟩
 have d:∀ {S:Int->Prop} {p q:Int},RIn l S p q->RIn E S p q:=fun {S p q} k=>by
  induction k with
  |refl h=>exact .refl h
  |step _ U g V=>refine .step V ?_ g;obtain⟨x,t,i⟩:=cI.1 U;exact cI.2 ⟨x,D x t,i⟩
 refine⟨J,h.bl.ne,h.bl.sim,fun w p q W X a b=>d (z.con w p q (j p W) (j q X) a b),?_,O,O⟩;exact fa K u7
theorem Jk(E:QR)(v:Int):(ends E v).length=(nbr E v).length:=by
 induction E with
 |nil=>rfl
 |cons x E a=>
  unfold ends nbr at *;rw[dt,dt,cb,cb,a]
  congr 1
  unfold nC Bq
  split<;>split<;>rfl
theorem PM(Tv:∀ e∈E,e.a≠e.b)(c:(E.map ae).Nodup)(v:Int):(nbr E v).Nodup:=by
 induction E with
 |nil=>exact .nil
 |cons x E d=>
  rw[ax,bw]at c;have d:=d (fun e h=>Tv e (aq _ h)) c.2;have m:=Tv x ar;show(Bq v x++nbr E v).Nodup;refine bo.2 ⟨by unfold Bq;split<;>split<;>simp_all,d,fun a f b g e=>?_⟩;subst e;obtain⟨y,l,k⟩:=cI.1 g;refine c.1 (ao.2 ⟨y,l,?_⟩);unfold Bq at f;have:(x.a=v/\x.b=a)\/(x.b=v/\x.a=a):=by grind
  show aj y.a y.b=aj x.a x.b;rcases k with⟨rfl,rfl⟩|⟨rfl,rfl⟩<;>rcases this with⟨i,j⟩|⟨i,j⟩<;>rw[i,j]<;>first|rfl|exact aH _ _
theorem Tc.xG(h:Tc E)(D:v∈af E):2<=(ends E v).length:=by
 rw[Jk];obtain⟨x,f,k⟩:=(aI v E).1 D;have e:=h.ne x f;obtain⟨w,m,n,o⟩:∃ w,w∈nbr E v/\w≠v/\ae x=aj v w:=by
  rcases k with rfl|rfl
  .exact⟨x.b,cI.2 ⟨x,f,.inl ⟨rfl,rfl⟩⟩,fun q=>e q.symm,rfl⟩
  .exact⟨x.a,cI.2 ⟨x,f,.inr ⟨rfl,rfl⟩⟩,e,aH _ _⟩
 have:∃ z∈af E,z≠v/\z≠w:=by
  obtain⟨y,g,s⟩:∃ y∈E,y≠x:=by
   have F:=h.two;have d:=eG _ h.sim
   match E,F,d with
   |a::b::R,_,d=>
    by_cases q:a=x
    .exact⟨b,Y,fun r=>by subst q;subst r;simp at d⟩
    .exact⟨a,Y,q⟩
  have p:ae y≠ae x:=fun q=>s (eZ h.sim g f q);have J:=h.ne y g;by_cases q:y.a≠v/\y.a≠w
  .exact⟨y.a,(aI _ _).2 ⟨y,g,.inl rfl⟩,q⟩
  .refine⟨y.b,(aI _ _).2 ⟨y,g,.inr rfl⟩,?_⟩;rw[o]at p;have P:ae y=aj y.a y.b:=rfl;have Q:=aH v w
   grind
 obtain⟨z,K,A,B⟩:=this;have I:=h.con w v z D K (fun q=>n q.symm) B;have C:∀ {y:Int},RIn E (·≠w) v y->y≠v->∃ c∈nbr E v,c≠w:=fun {y} k=>by
  induction k with
  |refl _=>exact fun q=>absurd rfl q
  |step S t l L=>
   rename_i M N;intro _;by_cases q:M=v
   .exact⟨N,q ▸ t,l⟩
   .exact L q
 obtain⟨c,j,H⟩:=C I A
 match T:nbr E v,m,j with
 |[a],m,j=>simp at m j;omega
 |_::_::_,_,_=>simp
theorem Mn0.mn(h:Mn0 E)(e:Tc E)(l:∀ v∈af E,(ends E v).length≠2):Mn E:=by
 refine⟨e,h.bl,h.np,h.min,fun v g a b=>?_⟩;have f:=e.xG g;have d:=l v g;rw[Jk]at f d;have c:=PM e.ne e.sim v
 match m:nbr E v,f,d,c with
 |x::y::z::R,_,_,c=>
  simp only[bw,ai,fJ]at c;by_cases j:x≠a/\x≠b
  .exact⟨x,j.1,j.2,Y⟩
  by_cases k:y≠a/\y≠b
  .exact⟨y,k.1,k.2,Y⟩
  exact⟨z,by grind,by grind,Y⟩
 |[_,_],_,d,_=>exact absurd rfl d
def eW(x:Ed)(v:Int):Int:=if x.a=v then x.b else x.a
def CD(g:Gr)(v:Int)(x y:Ed):Gr:=⟨g.V.filter fun w=>decide (w≠v),g.E.filter (fun z=>!aZ v z)++[⟨x.id,eW x v,eW y v⟩]⟩
structure SmI(g:Gr):Prop where
 mn:Mn0 g.E
 nd:g.V.Nodup
 V:∀ v,v∈g.V↔v∈af g.E
 pos:∀ v∈g.V,1<=v/\v<=1048576
 ids:Ub g.E
 l1:g.V.length<=24
 l2:g.E.length<=50
theorem lY{x:Ed}:aZ v x=true↔x.a=v\/x.b=v:=by unfold aZ;simp
theorem LF(Tv:∀ e∈E,e.a≠e.b)(v:Int):(ends E v).length=(E.filter (aZ v)).length:=by
 induction E with
 |nil=>rfl
 |cons x E d=>have:=d fun e h=>Tv e (aq _ h);have c:=Tv x ar;unfold ends at *;rw[dt,cb,this,qd];unfold nC aZ;by_cases a:x.a=v<;>by_cases b:x.b=v<;>simp[a,b]<;>first|omega|exact absurd (a.trans b.symm) c
theorem xR{x:Ed}(h:aZ v x=true):ae x=aj (eW x v) v:=by
 unfold eW;rcases lY.1 h with k|k
 .rw[ac k];show aj x.a x.b=_;rw[k,aH]
 .split
  .rename_i q;show aj x.a x.b=_;rw[q,aH]
  .show aj x.a x.b=_;rw[k]
theorem SmI.step{g:Gr}(h:SmI g){v:Int}(S:v∈g.V)(M:(ends g.E v).length=2):
 ∃ x y,g.E.filter (aZ v)=[x,y]/\eW x v≠eW y v/\SmI (CD g v x y)/\(CD g v x y).V.length<g.V.length:=by
 rw[LF h.mn.bl.ne]at M
 match o:g.E.filter (aZ v),M with
 |[x,y],_=>
 have n:x∈g.E/\aZ v x=true:=cj.1 (by rw[o];simp:x∈g.E.filter (aZ v))
 have B:y∈g.E/\aZ v y=true:=cj.1 (by rw[o];simp:y∈g.E.filter (aZ v))
 have l:=xR n.2;have m:=xR B.2;have s:(g.E.filter (aZ v)).Nodup:=(eu).nodup (eG _ h.mn.bl.sim);rw[o]at s;have W0:x≠y:=by simpa using s
 have J:eW x v≠eW y v:=fun q=>W0 (eZ h.mn.bl.sim n.1 B.1 (by rw[l,m,q]));have t:∀ e∈g.E,aZ v e=true->e=x\/e=y:=fun e c k=>by have:e∈g.E.filter (aZ v):=cj.2 ⟨c,k⟩;rw[o]at this;simpa using this
 have d:∀ e,e∈g.E.filter (fun z=>!aZ v z)↔e∈g.E/\¬aZ v e=true:=fun e=>by rw[cj];simp
 have f:((g.E.filter fun z=>!aZ v z).map ae).Nodup:=(eu.map ae).nodup h.mn.bl.sim;have N:∀ p,(∃ e∈g.E,ae e=p)↔(∃ e∈g.E.filter (fun z=>!aZ v z),ae e=p)\/p=aj (eW x v) v\/p=aj (eW y v) v:=fun p=>by
  constructor
  .rintro⟨e,c,rfl⟩;by_cases k:aZ v e=true
   .rcases t e c k with rfl|rfl
    .exact .inr (.inl l)
    .exact .inr (.inr m)
   .exact .inl ⟨e,(d e).2 ⟨c,k⟩,rfl⟩
  .rintro(⟨e,c,rfl⟩|rfl|rfl)
   .exact⟨e,((d e).1 c).1,rfl⟩
   .exact⟨x,n.1,l⟩
   .exact⟨y,B.1,m⟩
 have A:v∉af (g.E.filter fun z=>!aZ v z):=fun k=>by obtain⟨e,c,q⟩:=(aI v _).1 k;exact((d e).1 c).2 (lY.2 (q.imp uf uf))
 have j:∀ z∈g.E,aZ v z=true->eW z v∈af g.E/\eW z v≠v:=fun z Q k=>by
  refine⟨(bN Q (xR k)).1,fun q=>?_⟩;have:=xR k;rw[q]at this;have:=aN (u:=z.a) (v:=z.b) this;have:=h.mn.bl.ne z Q
  grind
 have T:∀ e∈g.E.filter (fun z=>!aZ v z),ae e≠aj (eW x v) (eW y v):=by
  by_cases k:∃ e∈g.E.filter (fun z=>!aZ v z),ae e=aj (eW x v) (eW y v)
  .refine(h.mn.smooth (E':=g.E.filter fun z=>!aZ v z) J N f A (fun p=>⟨.inl,fun q=>q.elim id fun q=>q ▸ k⟩) f).1
  .exact fun e c q=>k ⟨e,c,q⟩
 have H:Mn0 (CD g v x y).E:=(h.mn.smooth (E':=(CD g v x y).E) J N f A (fun p=>by
  show(∃ e∈g.E.filter (fun z=>!aZ v z)++[(⟨x.id,eW x v,eW y v⟩:Ed)],ae e=p)↔_;constructor
  .rintro⟨e,c,rfl⟩;rcases am.1 c with c|c
   .exact .inl ⟨e,c,rfl⟩
   .rw[bi]at c;subst c;exact .inr rfl
  .rintro(⟨e,c,rfl⟩|rfl)
   .exact⟨e,dg _ c,rfl⟩
   .exact⟨⟨x.id,eW x v,eW y v⟩,Y,rfl⟩) (by
  show((g.E.filter (fun z=>!aZ v z)++[(⟨x.id,eW x v,eW y v⟩:Ed)]).map ae).Nodup;rw[cz];refine bo.2 ⟨f,Y,fun a R b P q=>?_⟩;obtain⟨e,c,rfl⟩:=ao.1 R;simp only[ax,mB,bi]at P
  exact T e c (q.trans P))).2
 have U:(g.V.filter fun w=>decide (w≠v)).length<g.V.length:=zn.2 ⟨v,S,Y⟩;have r:(g.E.filter (fun z=>!aZ v z)).length+(g.E.filter (aZ v)).length=g.E.length:=by
  have I:∀ L:QR,(L.filter (fun z=>!aZ v z)).length+(L.filter (aZ v)).length=L.length:=fun L=>by
   induction L with
   |nil=>rfl
   |cons z L W=>simp only[qd];cases aZ v z<;>simp<;>omega
  exact I _
 rw[o]at r;refine⟨x,y,rfl,J,⟨H,eu.nodup h.nd,fun w=>?_,fun w C=>h.pos w (cj.1 C).1,fun e c=>?_,by show(g.V.filter _).length<=24;have:=h.l1;omega,?_⟩,U⟩
 .show w∈g.V.filter _↔w∈af (g.E.filter (fun z=>!aZ v z)++[(⟨x.id,eW x v,eW y v⟩:Ed)]);rw[cj,h.V,aI,aI];constructor
  .rintro⟨⟨e,c,k⟩,C⟩;have C:w≠v:=by simpa using C
   by_cases q:aZ v e=true
   .refine⟨⟨x.id,eW x v,eW y v⟩,Y,?_⟩;have:=xR q;have:=aN (u:=e.a) (v:=e.b) this;rcases t e c q with rfl|rfl<;>grind
   .exact⟨e,dg _ ((d e).2 ⟨c,q⟩),k⟩
  .rintro⟨e,c,k⟩;rcases am.1 c with c|c
   .have K:=(d e).1 c;refine⟨⟨e,K.1,k⟩,?_⟩;have:=K.2;rw[lY]at this;simp only[jv]
    grind
   .rw[bi]at c;subst c;simp only at k;have D:=j x n.1 n.2;have F:=j y B.1 B.2;rw[aI]at D F;rcases k with rfl|rfl
    .exact⟨D.1,by simpa using D.2⟩
    .exact⟨F.1,by simpa using F.2⟩
 .rcases am.1 c with c|c
  .exact h.ids e ((d e).1 c).1
  .rw[bi]at c;subst c;exact h.ids x n.1
 .show(g.E.filter (fun z=>!aZ v z)++[_]).length<=50;rw[cb];have:=h.l2;simp at r ⊢;omega
def fM(E:QR)(a b:Int):Nat:=(E.filter fun x=>decide ((x.a=a/\x.b=b)\/(x.a=b/\x.b=a))).length
theorem CW{x:Ed}:((x.a=a/\x.b=b)\/(x.a=b/\x.b=a))↔ae x=aj a b:=by
 constructor
 .rintro(⟨rfl,rfl⟩|⟨rfl,rfl⟩)
  .rfl
  .exact aH _ _
 .exact fun h=>aN (u:=x.a) (v:=x.b) h
theorem JT(m:(E.map ae).Nodup)(a b:Int)[Decidable (∃ e∈E,ae e=aj a b)]:fM E a b=if ∃ e∈E,ae e=aj a b then 1 else 0:=by
 have g:∀ e,e∈E.filter (fun x=>decide ((x.a=a/\x.b=b)\/(x.a=b/\x.b=a)))↔e∈E/\ae e=aj a b:=fun e=>by rw[cj,jv,CW]
 unfold fM;have f:(E.filter fun x=>decide ((x.a=a/\x.b=b)\/(x.a=b/\x.b=a))).Nodup:=eu.nodup (eG _ m)
 split
 .rename_i k;obtain⟨e,h,q⟩:=k;generalize E.filter (fun x=>decide ((x.a=a/\x.b=b)\/(x.a=b/\x.b=a)))=F at g f ⊢
  match F,g,f with
  |[],g,_=>have:=(g e).2 ⟨h,q⟩;cases this
  |[_],_,_=>rfl
  |c::d::R,g,f=>have j:=(g c).1 Y;have l:=(g d).1 Y;have:=eZ m j.1 l.1 (j.2.trans l.2.symm);subst this;simp at f
 .rename_i k;rw[qv,qp];exact fun e h=>k ⟨e,(g e).1 h⟩
def ZP(g:Gr):Prop:=(g.V.length=5/\g.E.length=10/\∀ j k,j<k->k<5->fM g.E (g.V.getD j 0) (g.V.getD k 0)=1)\/
 (g.V.length=6/\g.E.length=9/\∀ j k,j<k->k<6->fM g.E (g.V.getD j 0) (g.V.getD k 0)=
   if(decide (fM g.E (g.V.getD 0 0) (g.V.getD j 0)=1) != decide (fM g.E (g.V.getD 0 0) (g.V.getD k 0)=1))=true then 1 else 0)
theorem KY(b:(E.map ae).Nodup){L:QP}(h:qo E L)(a:L.Nodup):E.length=L.length:=by
 have:(E.map ae).Perm L:=(jd b a).2 fun p=>by rw[ao];exact h p
 simpa using this.length_eq
theorem HD{u w:Int}:w∈nbr E u↔∃ e∈E,ae e=aj u w:=by
 rw[cI];constructor
 .rintro⟨x,a,h⟩;exact⟨x,a,CW.1 (h.imp id fun k=>⟨k.2,k.1⟩)⟩
 .rintro⟨x,a,h⟩;exact⟨x,a,(CW.2 h).imp id fun k=>⟨k.2,k.1⟩⟩
theorem SmI.two(h:SmI g)(o:∀ v∈g.V,(ends g.E v).length≠2):
 (∃ A B:PP,A.length=3/\B.length=3/\(A++B).Nodup/\(∀ x,x∈A++B↔x∈g.V)/\g.E.length=9/\∀ x y,y∈nbr g.E x↔(x∈A/\y∈B)\/(x∈B/\y∈A))\/
 (g.V.length=5/\g.E.length=10/\∀ x y,y∈nbr g.E x↔x∈g.V/\y∈g.V/\x≠y):=by
 have d:=KJ g.E 1;have F:Mn0 (vC 1 g.E):=h.mn.of_prs d;have n:∀ v,v∈af (vC 1 g.E)↔v∈g.V:=fun v=>by
  rw[h.V,aI,aI];constructor
  .rintro⟨e,m,k⟩;obtain⟨f,hf,q⟩:=sY d m;have:=aN (u:=f.a) (v:=f.b) q;exact⟨f,hf,by grind⟩
  .rintro⟨e,m,k⟩;obtain⟨f,hf,q⟩:=sY d.symm m;have:=aN (u:=f.a) (v:=f.b) q;exact⟨f,hf,by grind⟩
 have hlr:(vC 1 g.E).length=g.E.length:=by simpa using congrArg List.length d
 have hl1:=h.l1;have hl2:=h.l2
 have hT:Tc (vC 1 g.E):=F.tc (Ey _ _) (fun x hx=>by have:=DE _ _ x hx;omega) (fun v z=>h.pos v ((n v).1 z))
  (by have:=((jd ((jM (vC 1 g.E)).imp fun h=>by omega) h.nd).2 fun v=>n v).length_eq;omega) O
 have s:∀ v,(ends (vC 1 g.E) v).length=(ends g.E v).length:=fun v=>by
  have C:∀(E:QR) (k:Int),(ends (vC k E) v).length=(ends E v).length:=fun E=>by
   induction E with
   |nil=>exact fun _=>rfl
   |cons x E ih=>
    intro k;have:=ih (k+1);unfold ends at *;rw[vC,dt,dt,cb,cb,this]
    congr 1
    unfold nC
    split<;>split<;>rfl
  exact C _ _
 have X:=F.mn hT fun v z=>by rw[s];exact o v ((n v).1 z)
 have K:∀ {L},qo (vC 1 g.E) L->qo g.E L:=fun {L} k p=>by
  rw[<- k p];constructor
  .rintro⟨e,m,rfl⟩;obtain⟨f,hf,q⟩:=sY d.symm m;exact⟨f,hf,q⟩
  .rintro⟨e,m,rfl⟩;obtain⟨f,hf,q⟩:=sY d m;exact⟨f,hf,q⟩
 have H:=h.mn.bl.sim;have M:∀ {L:QP},qo g.E L->∀ v,v∈af g.E↔∃ p∈L,v=p.1\/v=p.2:=fun {L} k v=>by
  have I:∀ a b:Int,(v=a\/v=b)↔(v=(aj a b).1\/v=(aj a b).2):=fun a b=>by unfold aj;simp only;omega
  rw[aI];constructor
  .rintro⟨e,m,q⟩;exact⟨ae e,(k _).1 ⟨e,m,rfl⟩,(I _ _).1 q⟩
  .rintro⟨p,hp,q⟩;obtain⟨e,m,rfl⟩:=(k p).2 hp;exact⟨e,m,(I _ _).2 q⟩
 have J:∀ v a b:Int,(v=(aj a b).1\/v=(aj a b).2)↔v=a\/v=b:=fun v a b=>by unfold aj;simp only;omega
 have D:∀ x y a b,aj x y=aj a b↔(x=a/\y=b)\/(x=b/\y=a):=fun x y a b=>⟨aN,fun k=>by rcases k with⟨rfl,rfl⟩|⟨rfl,rfl⟩;rfl;exact aH _ _⟩;rcases X.kur with⟨N,P,Q,R,S,T,c,l⟩|⟨u,w,v,j,t,c,l⟩
 .left;have l:=K l;refine⟨[N,P,Q],[R,S,T],rfl,rfl,c,fun x=>?_,?_,fun x y=>?_⟩
  .rw[h.V,M l];simp only[am,ai,gz,ij,exists_eq_or_imp,xt,J]
   grind
  .rw[KY H l ?_];· rfl
   simp only[bw,ai,gz,ij,fJ]at c ⊢;refine⟨⟨?_,?_,?_,?_,?_,?_,?_,?_⟩,⟨?_,?_,?_,?_,?_,?_,?_⟩,⟨?_,?_,?_,?_,?_,?_⟩,⟨?_,?_,?_,?_,?_⟩,⟨?_,?_,?_,?_⟩,⟨?_,?_,?_⟩,⟨?_,?_⟩,?_,not_false,.nil⟩<;>(intro q;have:=aN q;grind)
  .rw[HD,l];simp only[ai,gz,ij,D]
   grind
 .right;have l:=K l;have r:∀ x,x∈[u,w,v,j,t]↔x∈g.V:=fun x=>by
   rw[h.V,M l];simp only[ai,gz,ij,exists_eq_or_imp,xt,J]
   grind
  refine⟨((jd h.nd c).2 fun x=>(r x).symm).length_eq,?_,fun x y=>?_⟩
  .rw[KY H l ?_];· rfl
   simp only[bw,ai,gz,ij,fJ]at c ⊢;refine⟨⟨?_,?_,?_,?_,?_,?_,?_,?_,?_⟩,⟨?_,?_,?_,?_,?_,?_,?_,?_⟩,⟨?_,?_,?_,?_,?_,?_,?_⟩,⟨?_,?_,?_,?_,?_,?_⟩,⟨?_,?_,?_,?_,?_⟩,⟨?_,?_,?_,?_⟩,⟨?_,?_,?_⟩,⟨?_,?_⟩,?_,not_false,.nil⟩<;>(intro q;have:=aN q;grind)
  .rw[HD,l,<- r,<- r];simp only[bw,ai,gz,ij,fJ]at c;simp only[ai,gz,ij,D];constructor
   .intro k;rcases k with k|k|k|k|k|k|k|k|k|k<;>rcases k with⟨rfl,rfl⟩|⟨rfl,rfl⟩<;>grind
   .rintro⟨U,o,W⟩;rcases U with rfl|rfl|rfl|rfl|rfl<;>rcases o with rfl|rfl|rfl|rfl|rfl<;>simp at W ⊢
theorem SmI.kind(h:SmI g)(p:∀ v∈g.V,(ends g.E v).length≠2):ZP g:=by
 classical
 have m:=h.mn.bl.sim;have a:∀ j,j<g.V.length->g.V.getD j 0∈g.V:=fun j c=>by rw[bv,bu c];exact dz _
 rcases h.two p with⟨A,B,r,s,b,l,e,d⟩|⟨w,e,d⟩
 .right;have q:g.V.length=6:=by have:=((jd h.nd b).2 fun x=>(l x).symm).length_eq;rw[this,cb,r,s]
  have f:∀ x y,x∈g.V->y∈g.V->fM g.E x y=if(decide (x∈A) != decide (y∈A))=true then 1 else 0:=fun x y z C=>by have K:=(bo.1 b).2.2;rw[<- l,am]at z C;rw[JT m];simp only[<- HD,d];by_cases D:x∈A<;>by_cases F:y∈A<;>simp[D,F]<;>grind
  refine⟨q,e,fun j k c t=>?_⟩;have n:=a 0 O;have o:=a j O;have mk:=a k O;rw[f _ _ o mk,f _ _ n o,f _ _ n mk];generalize decide (g.V.getD 0 0∈A)=H;generalize decide (g.V.getD j 0∈A)=I;generalize decide (g.V.getD k 0∈A)=J;cases H<;>cases I<;>cases J<;>rfl
 .left;refine⟨w,e,fun j k c t=>?_⟩;rw[JT m,ac];rw[<- HD,d];refine⟨a j O,a k O,?_⟩;rw[bv,bu O,bv,bu O];exact fD.1 h.nd _ _ O O c
end Aw
namespace Aw
open Go Go.RowKit Pl
variable{g:Gr}
theorem Rp(w:chk g=0)(C:g.V.length<=24)(z:g.E.length<=50){A:QR}(j:A.Sublist g.E)(m:¬Pg A)(c:∀ x∈A,Pg (A.filter fun y=>decide (y≠x))):SmI (tJ ⟨g.V,A⟩):=by
 have d:=kP w;have p:vO A:=fun e k=>Nr w e (j.subset k);have l:A.Pairwise fun x y=>x.id<y.id:=d.ids.sublist j;have n:(A.map ae).Nodup:=by
  rw[List.Nodup,gd];refine l.imp_of_mem fun {a b} ha hb r9 q=>m ((c a ha).sub p fun e k=>?_);by_cases h:e=a
  .exact⟨b,cj.2 ⟨hb,by simp;rintro rfl;omega⟩,by rw[h,q]⟩
  .exact⟨e,cj.2 ⟨k,by simpa using h⟩,rfl⟩
 have o:∀ v∈af A,v∈g.V:=fun v k=>by
  obtain⟨e,D,F⟩:=(aI v A).1 k;have:=d.ends e (j.subset D)
  grind
 have t:BlE A:=⟨fun e k=>(p e k).1,n,fun v k=>by have:=d.vpos v (o v k);omega⟩;have B:∀ v,v∈(tJ ⟨g.V,A⟩).V↔v∈af A:=fun v=>by
  show v∈g.V.filter (fun v=>A.any (aZ v))↔_;rw[cj,nv,aI];constructor
  .rintro⟨_,e,k,q⟩;exact⟨e,k,by rw[lY]at q;grind⟩
  .rintro⟨e,k,q⟩;exact⟨o v ((aI v A).2 ⟨e,k,q⟩),e,k,lY.2 (by grind)⟩
 refine⟨⟨t,fun⟨s,r⟩=>m ⟨s,r.of_sub p.bl fun e k=>⟨e,iZ A e k,rfl⟩⟩,fun e k=>?_⟩,eu.nodup (d.rise.imp fun h=>by omega),B,fun v k=>d.vpos v (cj.1 k).1,fun x k=>by have:=d.pos x (j.subset k);omega,?_,?_⟩
 .obtain⟨s,r⟩:=c e k;exact⟨s,r.of_sub (GS t eu) fun f q=>Tj q⟩
 .exact fa (gx _ _) C
 .exact fa j.length_le z
theorem QO(b:chk g=0)(e:g.V.length<=24)(d:g.E.length<=50):∃(K:Gr) (j:Bool) (h:Option Mp),sA g=.tu [.ag (aw K),bb j]/\CJ g=some h/\
 ((j=false/\h.isSome=true/\K=⟨[],[]⟩)\/(j=true/\h=none/\chk K=0/\SmI K/\(∀ v∈K.V,v∈g.V)/\∀ x∈K.E,x∈g.E)):=by
 obtain⟨o,f,s⟩:=IB b e d;obtain⟨_,c,n,p⟩:=DQ b e d;have l:dM g=!o.isSome:=by unfold dM;rw[f];rfl
 cases o with
 |some m=>refine⟨⟨[],[]⟩,false,some m,?_,f,.inl ⟨rfl,rfl,rfl⟩⟩;unfold sA;rw[l];simp
 |none=>
  have a:dM g=true:=l;have q:cD dM g g.E=⟨g.V,(cD dM g g.E).E⟩:=by rw[<- (pD dM g.E g).1]
  have r:=n a;generalize (cD dM g g.E).E=A at *;refine⟨tJ ⟨g.V,A⟩,true,none,?_,f,.inr ⟨rfl,rfl,TE (kP b) c,Rp b e d c r p,fun v k=>(cj.1 k).1,fun x k=>c.subset k⟩⟩;unfold sA;rw[ac ⟨b,a⟩,a,q,mc b];rfl
theorem F7(l:chk g=0){x:Ed}(d:x∈g.E):¬fe g.E x.id<0/\(fe g.E x.id).toNat<g.E.length/\fe g.E x.id=((fe g.E x.id).toNat:Int)/\g.E.getD (fe g.E x.id).toNat ed0=x:=by
 have h:=kP l;have b:¬fe g.E x.id<0:=by
  unfold fe
  split
  .omega
  .rename_i k;exact absurd (nv.2 ⟨x,d,Y⟩) k
 obtain⟨a,e,f⟩:=E8 g.E x.id b;refine⟨b,a,e,?_⟩;rw[bv,bu a,Option.getD_some]at f ⊢;obtain⟨j,c,rfl⟩:=xf.1 d;have:=h.ids;rw[fD]at this;rcases lh (fe g.E g.E[j].id).toNat j with k|k|k
 .have:=this _ _ a c k;omega
 .simp only[k]
 .have:=this _ _ c a k;omega
theorem Us(x:Ed)(v:Int)(k:St)(j:aZ v x=true)(f:0<=x.a/\x.a<=1048576)(g:0<=x.b/\x.b<=1048576):
 aD prog 91 [.ag (dv x),u v] k fun r c=>r=u (eW x v)/\c=k:=by
 refine qT (Q:=fun r=>r=u (eW x v)) ?_ fun r h=>by subst h;trivial
 obtain⟨d,a,b⟩:=x;have l:IntKind.u32.wrap (a+b)=a+b:=wrap_u32' _ (by simp only at f g;omega) (by simp only at f g;omega);have e:a+b-v=eW ⟨d,a,b⟩ v:=by
  rw[lY]at j;unfold eW;simp only at j ⊢
  split<;>omega
 have hf:0<=eW ⟨d,a,b⟩ v/\eW ⟨d,a,b⟩ v<=1048576:=by unfold eW;split<;>assumption
 have m:IntKind.u32.wrap (a+b-v)=eW ⟨d,a,b⟩ v:=by rw[e];exact wrap_u32' _ O O
 refine zN func91 ntmps91 [.tmp 4] ?_;refine cm l m ?_;exact aC.new _ _
theorem MU(l:QR)(a b:Int)(k:Nat)(c:k<l.length):fM (l.take (k+1)) a b=fM (l.take k) a b+if(((l.getD k ed0).a==a&&(l.getD k ed0).b==b)||((l.getD k ed0).a==b&&(l.getD k ed0).b==a))=true then 1 else 0:=by
 unfold fM;rw[fh c,po,cb,bv,bu c,Option.getD_some,qd,List.filter_nil];have:decide ((l[k].a=a/\l[k].b=b)\/(l[k].a=b/\l[k].b=a))=((l[k].a==a&&l[k].b==b)||(l[k].a==b&&l[k].b==a)):=by rw[tr];simp
 rw[this]
 split<;>rfl
theorem Uz(l:QR)(a b:Int):fM l a b<=l.length:=gx _ _
theorem OG(g:Gr)(a b:Int)(n:St)(K:g.E.length<=1000):
 aD prog 54 [.ag (aw g),u a,u b] n fun r o=>r=i (fM g.E a b)/\o=n:=by
 refine qT (Q:=fun r=>r=i (fM g.E a b)) ?_ fun r h=>by subst h;trivial
 have m:=aL g.E;refine zN func54 ntmps54 [.tmp 6] ?_;refine bz ?_;refine aV 13 12 14 41 (g.E.length) (fun j d p=>d 1=u a/\d 2=u b/\d 11=.sl 0 g.E.length (eds g.E)/\d 7=i (fM (g.E.take j) a b)/\aC n p) ?_ ?_ ?_
 .exact⟨Y,Y,Y,by simp[fM],aC.new _ _⟩
 .rintro j d s dS ⟨f,k,c,e,l⟩ z fn J A;have D:=aP g.E j dS;have F:j*3<g.E.length*3:=O;have V9:=MU g.E a b j dS;have H:=Uz (g.E.take j) a b;rw[dj]at H;generalize g.E.getD j ed0=x at *;obtain⟨I,q,bx⟩:=x;generalize fM (g.E.take j) a b=B at *;have C:IntKind.i64.wrap ((B:Int)+1)=(B:Int)+1:=zW;simp only at V9;cases t:(q==a)<;>cases v:(bx==b)<;>cases w:(q==b)<;>cases y:(bx==a)
  all_goals
   simp only[t,v,w,y,xu,Bool.and_false,Bool.or_self,Bool.or_true,Bool.true_or,ef]at V9;refine E5 A f k c e z fn dS D m F t v w y C ?_;exact A _ _ (Z z) (Z fn) ⟨Z f,Z k,Z c,jy e V9 C,l.trans (aC.new _ _)⟩
 .rintro d s ⟨f,k,c,e,l⟩;rw[fq]at e;refine df e ?_;exact l
def lc(b:QR)(l:PP):Int:=l.foldl (fun a v=>if(ends b v).length=2 then v else a) 0
theorem Sj(a:QR)(l:PP)(k:Nat)(b:k<l.length):lc a (l.take (k+1))=if(ends a (l.getD k 0)).length=2 then l.getD k 0 else lc a (l.take k):=by unfold lc;rw[fh b,lD,bv,bu b];rfl
theorem B4(b:QR):∀ l:PP,(lc b l=0/\∀ v∈l,(ends b v).length≠2)\/(lc b l∈l/\(ends b (lc b l)).length=2):=by
 have f:∀(l:PP) (a:Int),(l.foldl (fun a v=>if(ends b v).length=2 then v else a) a=a/\∀ v∈l,(ends b v).length≠2)\/(l.foldl (fun a v=>if(ends b v).length=2 then v else a) a∈l/\(ends b (l.foldl (fun a v=>if(ends b v).length=2 then v else a) a)).length=2):=fun l=>by
  induction l with
  |nil=>exact fun a=>.inl ⟨rfl,fun v h=>by cases h⟩
  |cons x l g=>
   intro a;rw[List.foldl_cons];by_cases h:(ends b x).length=2
   .rw[ac h];rcases g x with⟨c,d⟩|⟨c,d⟩
    .exact .inr (by rw[c];exact⟨ar,h⟩)
    .exact .inr ⟨aq _ c,d⟩
   .rw[aa h];rcases g a with⟨c,d⟩|⟨c,d⟩
    .refine .inl ⟨c,fun v e=>?_⟩;rcases ai.1 e with rfl|e
     .exact h
     .exact d v e
    .exact .inr ⟨aq _ c,d⟩
 exact fun l=>f l 0
theorem Ll(l:QR)(v:Int)(k:Nat)(a:k<l.length):((l.take (k+1)).filter (aZ v)=(l.take k).filter (aZ v)++if aZ v (l.getD k ed0)=true then [l.getD k ed0]else [])/\((l.take (k+1)).filter (fun z=>!aZ v z)=(l.take k).filter (fun z=>!aZ v z)++if aZ v (l.getD k ed0)=true then []else [l.getD k ed0]):=by rw[qJ _ _ _ a,qJ _ _ _ a];cases aZ v (l.getD k ed0)<;>simp
theorem Py(g:Gr)(h:SmI g)(st:St):
 aD prog 53 [.ag (aw g)] st fun r st'=>(∃ N,r=.ag (aw N)/\SmI N/\∀ v∈N.V,(ends N.E v).length≠2)/\st'=st:=by
 refine qT (Q:=fun r=>∃ N,r=.ag (aw N)/\SmI N/\∀ v∈N.V,(ends N.E v).length≠2) (cZ ?_) fun r h=>by obtain⟨N,rfl,_⟩:=h;exact⟨⟨.inl rfl,yG _ _⟩,⟨.inl rfl,Eo _ _⟩,trivial⟩
 refine zN func53 ntmps53 [.cell 2 25] ?_;refine fB fun hpos=>?_;refine bz ?_;obtain⟨p,hp⟩:∃ p,p=st.z:=⟨_,rfl⟩;refine qL (fun n k s=>∃ N,SmI N/\n=N.V.length/\k 1=.pt p 0/\k 2=.pt (p+1) 0/\aC st s/\p+1<s.z/\s.H (p+1)=.box 25 2 [.nil,.nil]/\∃ tx ty,s.H p=.box 25 2 [.sl tx N.V.length (us N.V),.sl ty N.E.length (eds N.E)]) g.V.length ?_ ?_
 .subst hp;exact⟨g,h,rfl,Y,Y,(aC.new _ _).trans (aC.new _ _),Y,Y,0,0,by simp[aw,show ¬st.z=st.z+1 by omega]⟩
 clear h g;rintro n k s ⟨g,h,rfl,A,D,B,R,I,tx,ty,C⟩ JJ hJJ;have hl1:=h.l1;have hl2:=h.l2;have hel:=aL g.E;have e0:¬p=p+1:=O;refine cm A C ?_;refine aV 17 16 18 27 (g.V.length) (fun j k f=>k 1=.pt p 0/\k 2=.pt (p+1) 0/\k 3=u (lc g.E (g.V.take j))/\k 15=.sl tx g.V.length (us g.V)/\aC st f/\p+1<f.z/\f.H (p+1)=.box 25 2 [.nil,.nil]/\f.H p=.box 25 2 [.sl tx g.V.length (us g.V),.sl ty g.E.length (eds g.E)]) ?_ ?_ ?_
 .exact⟨Z A,Z D,by simp[lc],Y,B,R,I,C⟩
 .clear hJJ A D B R I C k s;rintro j k s dS ⟨A,D,t,f15,B,R,I,C⟩ K fn J m;have hd:=qG g.V j dS;have L:=Sj g.E g.V j dS;generalize g.V.getD j 0=v at *
  (refine Zp m A f15 K fn dS hd C ?_;intro J m)
  refine vB (RX g v _ O h.ids) (by simp only[z0,dl,vR,lR,aw]) ?_;rintro r s2 ⟨⟨t',rfl⟩,o6⟩;have hn2:=o6.z;by_cases h2:(ends g.E v).length=2
  .have hb:(((ends g.E v).length:Int)==2)=true:=by simp;omega
   rw[ac h2]at L
   (repeat' (first|(apply qC;simp[hb,K])|((first|(refine zE ?_;intro J m)|(apply cP));simp[hb,K];(refine zJ m ?_;clear m J))))
   exact m _ _ (Z K) (Z fn) ⟨Z A,Z D,Z L,Z f15,B.trans o6,O,(o6.H _ O).trans I,(o6.H _ O).trans C⟩
  .have hb:(((ends g.E v).length:Int)==2)=false:=by simp;omega
   rw[aa h2]at L
   (repeat' (first|refine qK (zZ ?_)|(apply qC;simp[hb,K])|(apply cP;simp[hb,K];(refine zJ m ?_;clear m J))))
   exact m _ _ (Z K) (Z fn) ⟨Z A,Z D,ek L t,Z f15,B.trans o6,O,(o6.H _ O).trans I,(o6.H _ O).trans C⟩
 clear A D B R I C k s;rintro k s ⟨A,D,t,f15,B,R,I,C⟩;rw[fq]at t;rcases B4 g.E g.V with⟨L,o7⟩|⟨L,hen⟩
 .rw[L]at t;refine ls A D t C I e0 ?_;refine⟨⟨g,?_,h,o7⟩,B.set O _⟩;simp only[z0,dl,vR,lR]
 have hv1:=h.pos _ L;obtain⟨x,y,hF,r9,hS,dS⟩:=h.step L hen;have hxm:x∈g.E/\aZ (lc g.E g.V) x=true:=cj.1 (by rw[hF];simp);have hym:y∈g.E/\aZ (lc g.E g.V) y=true:=cj.1 (by rw[hF];simp);have hbd:∀ z∈g.E,(0<=z.a/\z.a<=1048576)/\0<=z.b/\z.b<=1048576:=fun z hz=>by have h1:=h.pos _ ((h.V z.a).2 ((aI _ _).2 ⟨z,hz,.inl rfl⟩));have h2:=h.pos _ ((h.V z.b).2 ((aI _ _).2 ⟨z,hz,.inr rfl⟩));omega
 have hfx:=fun st=>Us x (lc g.E g.V) st hxm.2 (hbd x hxm.1).1 (hbd x hxm.1).2;have hfy:=fun st=>Us y (lc g.E g.V) st hym.2 (hbd y hym.1).1 (hbd y hym.1).2;generalize lc g.E g.V=v at *;have hv0:(v==0)=false:=by simp;omega
 have e1:¬p=s.z:=O;refine jl A t hv0 C e1 ?_;obtain⟨q,hq⟩:∃ q,q=s.z:=⟨_,rfl⟩;refine sM s.z 34 1 (e:=25) (s:=2) [] [.nil] Y ?_;refine sM s.z 36 3 (e:=25) (s:=2) [.sl (s.z+1) 0 []] [] Y ?_;refine aV 34 33 35 47 (g.V.length) (fun j k f=>(k 1=.pt p 0/\k 2=.pt (p+1) 0/\k 3=u v/\k 6=.pt q 0/\k 32=.sl tx g.V.length (us g.V))/\aC st f/\p+1<q/\q<f.z/\f.H (p+1)=.box 25 2 [.nil,.nil]/\f.H p=.box 25 2 [.sl tx g.V.length (us g.V),.sl ty g.E.length (eds g.E)]/\∃ tv l F,F=(g.V.take j).filter (fun w=>decide (w≠v))/\f.H q=.box 25 2 [.sl tv F.length (us F),.sl l 0 []]/\f.H tv=.own 34 1 F.length/\f.H l=.own 36 3 0/\q<tv/\q<l/\tv≠l/\tv<f.z/\l<f.z) ?_ ?_ ?_
 .subst hq;refine⟨⟨Z A,Z D,Z t,Y,Y⟩,?_,R,by simp;omega,?_,?_,s.z+1,s.z+1+1,[],Y,by simp[us],Y,by simp[show ¬s.z+1+1=s.z by omega],O,O,O,Y,Y⟩
  ·(repeat (first|exact B|(refine aC.trans ?_ (aC.new _ _))|(refine aC.set ?_ (by have:=B.z;omega) _)))
  ·(repeat (first|rw[ay aE]|rw[aA O]|rw[az bf]|rw[aB O]));exact I
  ·(repeat (first|rw[ay aE]|rw[aA O]|rw[az bf]|rw[aB O]));exact C
 .clear hJJ A D t f15 B R I C k hq e1 s;rintro j k s v7 ⟨⟨A,D,t,P,M⟩,B,hpq,R,I,C,tv,l,F,hFe,hQ,hV,hE,l1,l2,l3,l4,l5⟩ K fn J m;have hd:=qG g.V j v7;have V9:=xV g.V (fun w=>decide (w≠v)) j v7;have hfl:=gx (fun w=>decide (w≠v)) (g.V.take j);rw[dj,<- hFe]at hfl;rw[<- hFe]at V9;clear hFe;generalize g.V.getD j 0=w at *;by_cases e:w=v
  .have hb:(w != v)=false:=by simpa using e
   rw[aa (by simpa using e),dT]at V9;refine T5 m t M K fn hd v7 hb ?_;exact m _ _ (Z K) (Z fn) ⟨⟨Z A,Z D,Z t,Z P,Z M⟩,B,hpq,R,I,C,tv,l,F,V9.symm,hQ,hV,hE,l1,l2,l3,l4,l5⟩
  .have hb:(w != v)=true:=by simpa using e
   rw[ac (by simpa using e)]at V9;have e1:¬q=s.z:=O;have e2:¬q=s.z+1:=O;have e3:¬q=tv:=O;have e4:¬tv=s.z:=O;have e5:¬tv=0:=O;have e8:¬l=tv:=fun h=>l3 h.symm
   (repeat' (first|apply qS|(apply qC;simp[t,P,M,K,fn,hd,v7,hb,hQ,hV,e1,e2,e3,e4,e5])|(refine zE ?_;intro J m;simp[t,P,M,K,fn,hd,v7,hb,hQ,hV,e1,e2,e3,e4,e5];(repeat refine ca ?_);(refine zJ m ?_;clear m J))))
   refine m _ _ (Z K) (Z fn) ⟨⟨Z A,Z D,Z t,Z P,Z M⟩,?_,hpq,by simp;omega,?_,?_,s.z+1,l,F++[w],V9.symm,?_,?_,?_,O,l2,O,Y,by simp;omega⟩
   ·(repeat (first|exact B|(refine aC.trans ?_ (aC.new _ _))|(refine aC.set ?_ (by have:=B.z;omega) _)))
   ·(repeat (first|rw[ay aE]|rw[aA O]|rw[az bf]|rw[aB O]));exact I
   ·(repeat (first|rw[ay aE]|rw[aA O]|rw[az bf]|rw[aB O]));exact C
   .simp[us]
   ·(repeat (first|rw[ay aE]|rw[aA O]|rw[az bf]|rw[aB O]));simp
   ·(repeat (first|rw[ay aE]|rw[aA O]|rw[az bf]|rw[aB O]));exact hE
 clear A D t f15 B R I C k hq e1 s;rintro k s ⟨⟨A,D,t,P,M⟩,B,hpq,R,I,C,tv,l,V,hFe,hQ,hV,hE,l1,l2,l3,l4,l5⟩;rw[fq]at hFe;refine cm A C ?_;refine uS 9 36 3 Y ?_;have z1:¬q=s.z:=O;refine aV 51 50 52 75 (g.E.length) (fun j k f=>(k 1=.pt p 0/\k 2=.pt (p+1) 0/\k 3=u v/\k 6=.pt q 0/\k 49=.sl ty g.E.length (eds g.E))/\aC st f/\p+1<q/\q<f.z/\f.H (p+1)=.box 25 2 [.nil,.nil]/\(∃ o,f.H p=.box 25 2 o/\o.length=2)/\∃ l tt d F,(d=(g.E.take j).filter (aZ v)/\F=(g.E.take j).filter (fun z=>!aZ v z))/\k 9=.sl tt d.length (eds d)/\f.H q=.box 25 2 [.sl tv V.length (us V),.sl l F.length (eds F)]/\f.H l=.own 36 3 F.length/\f.H tt=.own 36 3 d.length/\q<l/\q<tt/\l≠tt/\l<f.z/\tt<f.z) ?_ ?_ ?_
 .refine⟨⟨Z A,Z D,Z t,Z P,Y⟩,B.trans (aC.new _ _),hpq,by simp;omega,?_,?_,l,s.z,[],[],⟨Y,Y⟩,by simp[eds],by simp[z1,hQ,eds],?_,Y,l2,R,O,by simp;omega,Y⟩
  ·(repeat (first|rw[ay aE]|rw[aA O]|rw[az bf]|rw[aB O]));exact I
  .exact⟨[.sl tx g.V.length (us g.V),.sl ty g.E.length (eds g.E)],by(repeat (first|rw[ay aE]|rw[aA O]|rw[az bf]|rw[aB O]));exact C,rfl⟩
  ·(repeat (first|rw[ay aE]|rw[aA O]|rw[az bf]|rw[aB O]));exact hE
 .clear hJJ A D t P M B hpq R I C hQ hV hE l1 l2 l3 l4 l5 z1 k s l;rintro j k s v7 ⟨⟨A,D,t,P,S⟩,B,hpq,R,I,⟨o,C,ho⟩,l,tt,d,F,⟨U,T⟩,f9,hQ,hE,hT,l1,l2,l3,l4,l5⟩ K fn J m;have hd:=aP g.E j v7;have o9:j*3<g.E.length*3:=O;obtain⟨W,X⟩:=Ll g.E v j v7;have hfl:=gx (aZ v) (g.E.take j);have hfl2:=gx (fun z=>!aZ v z) (g.E.take j);rw[dj,<- U]at hfl;rw[dj,<- T]at hfl2;rw[<- U]at W;rw[<- T]at X;clear U T;have hOl:=aL d;have hFl:=aL F;generalize g.E.getD j ed0=z at *;obtain⟨zi,za,zb⟩:=z;have htz:aZ v ⟨zi,za,zb⟩=(za==v||zb==v):=rfl;rw[htz]at W X;have z1:¬q=s.z:=O;have z2:¬l=s.z:=O;have z3:¬tt=s.z:=O;have z4:¬tt=s.z+1:=O;have z5:¬l=s.z+1:=O;have z6:¬tt=0:=O;have z7:¬l=0:=O;have z8:¬q=l:=O;have z9:¬l=tt:=l3;have y1:¬q=s.z+1:=O;have y3:¬q=s.z+1+1:=O;have y2:¬s.z=s.z+1:=O;have hapO:eds (d++[⟨zi,za,zb⟩])=eds d++[u zi,u za,u zb]:=by simp[eds]
  have hapF:eds (F++[⟨zi,za,zb⟩])=eds F++[u zi,u za,u zb]:=by simp[eds]
  by_cases hz:(za==v||zb==v)=true
  .rw[ac hz]at W X;rw[dT]at X;cases c1:(za==v)<;>cases c2:(zb==v)
   .rw[c1,c2]at hz;cases hz
   all_goals
    (repeat' (first|apply qS|(apply qC;simp[t,f9,S,K,fn,v7,hd,hel,o9,c1,c2,hT,z3,z4,z6,hOl,y2])|(refine zE ?_;intro J m;simp[t,f9,S,K,fn,v7,hd,hel,o9,c1,c2,hT,z3,z4,z6,hOl,y2];(repeat refine ca ?_);(refine zJ m ?_;clear m J))))
    refine m _ _ (Z K) (Z fn) ⟨⟨Z A,Z D,Z t,Z P,Z S⟩,?_,hpq,by simp;omega,?_,⟨o,?_,ho⟩,l,s.z+1+1,d++[⟨zi,za,zb⟩],F,⟨W.symm,X.symm⟩,Z hapO,?_,?_,Y,l1,O,O,by simp;omega,Y⟩
    ·(repeat (first|exact B|(refine aC.trans ?_ (aC.new _ _))|(refine aC.set ?_ (by have:=B.z;omega) _)))
    ·(repeat (first|rw[ay aE]|rw[aA O]|rw[az bf]|rw[aB O]));exact I
    ·(repeat (first|rw[ay aE]|rw[aA O]|rw[az bf]|rw[aB O]));exact C
    ·(repeat (first|rw[ay aE]|rw[aA O]|rw[az bf]|rw[aB O]));exact hQ
    ·(repeat (first|rw[ay aE]|rw[aA O]|rw[az bf]|rw[aB O]));exact hE
  .rw[aa hz]at W X;rw[dT]at W;have c1:(za==v)=false:=by cases c:(za==v)<;>simp_all
   have c2:(zb==v)=false:=by cases c:(zb==v)<;>simp_all
   (repeat' (first|apply qS|(apply qC;simp[t,P,S,K,fn,v7,hd,hel,o9,c1,c2,hQ,hE,z1,z2,z5,z7,z8,y1,y2,y3,hFl])|(refine zE ?_;intro J m;simp[t,P,S,K,fn,v7,hd,hel,o9,c1,c2,hQ,hE,z1,z2,z5,z7,z8,y1,y2,y3,hFl];(repeat refine ca ?_);(refine zJ m ?_;clear m J))))
   refine m _ _ (Z K) (Z fn) ⟨⟨Z A,Z D,Z t,Z P,Z S⟩,?_,hpq,by simp;omega,?_,⟨o,?_,ho⟩,s.z+1+1,tt,d,F++[⟨zi,za,zb⟩],⟨W.symm,X.symm⟩,Z f9,?_,?_,?_,O,l2,O,Y,by simp;omega⟩
   ·(repeat (first|exact B|(refine aC.trans ?_ (aC.new _ _))|(refine aC.set ?_ (by have:=B.z;omega) _)))
   ·(repeat (first|rw[ay aE]|rw[aA O]|rw[az bf]|rw[aB O]));exact I
   ·(repeat (first|rw[ay aE]|rw[aA O]|rw[az bf]|rw[aB O]));exact C
   ·(repeat (first|rw[ay aE]|rw[aA O]|rw[az bf]|rw[aB O]));simp[hapF]
   ·(repeat (first|rw[ay aE]|rw[aA O]|rw[az bf]|rw[aB O]));simp
   ·(repeat (first|rw[ay aE]|rw[aA O]|rw[az bf]|rw[aB O]));exact hT
 clear A D t P M B hpq R I C hQ hV hE l1 l2 l3 l4 l5 z1 k s l;rintro k s ⟨⟨A,D,t,P,S⟩,B,hpq,R,I,⟨o,C,ho⟩,l,tt,d,F,⟨U,T⟩,f9,hQ,hE,hT,l1,l2,l3,l4,l5⟩;rw[fq]at U T;rw[hF]at U;subst U;obtain⟨xi,xa,xb⟩:=x;obtain⟨yi,ya,yb⟩:=y;have W0:eds [⟨xi,xa,xb⟩,⟨yi,ya,yb⟩]=[u xi,u xa,u xb,u yi,u ya,u yb]:=rfl;rw[W0]at f9
 (repeat (apply qS));(refine zS [] [] [0,2,4,6,10,12,14,16,8,18,20,22] ?_;intro J m;simp[f9,t])
 refine eL (hfx _) ?_;refine⟨fun h=>by first|(cases h;done)|simp,?_⟩
 (apply bM;simp[f9,t])
 refine eL (hfy _) ?_;refine⟨fun h=>by first|(cases h;done)|simp,?_⟩
 (apply bM;simp[f9,t];(refine zJ m ?_;clear m J))
 have hFl:=aL F;have hapF:eds (F++[⟨xi,eW ⟨xi,xa,xb⟩ v,eW ⟨yi,ya,yb⟩ v⟩])=eds F++[u xi,u (eW ⟨xi,xa,xb⟩ v),u (eW ⟨yi,ya,yb⟩ v)]:=by simp[eds]
 have hSt:(CD g v ⟨xi,xa,xb⟩ ⟨yi,ya,yb⟩).V=V/\(CD g v ⟨xi,xa,xb⟩ ⟨yi,ya,yb⟩).E=F++[⟨xi,eW ⟨xi,xa,xb⟩ v,eW ⟨yi,ya,yb⟩ v⟩]:=⟨by rw[hFe];rfl,by rw[T];rfl⟩;have hFn:F.length<=g.E.length:=by rw[T];exact gx _ _
 obtain⟨hSv,hSe⟩:=hSt;generalize CD g v ⟨xi,xa,xb⟩ ⟨yi,ya,yb⟩=G' at *;generalize eW ⟨xi,xa,xb⟩ v=fx at *;generalize eW ⟨yi,ya,yb⟩ v=fy at *;have hab':(fx==fy)=false:=by simpa using r9
 have z1:¬q=s.z:=O;have z2:¬l=s.z:=O;have z5:¬l=s.z+1:=O;have z7:¬l=0:=O;have z8:¬q=l:=O;have y1:¬q=s.z+1:=O;have y4:¬p=q:=O;have y5:¬p=s.z:=O;have y6:¬p=s.z+1:=O;have y7:¬p=l:=O
 (repeat (apply qS));(refine zS [] [q] [0,2,4,6,8,10,12,14,16,18,20,22,25] ?_;intro J m;simp[P,f9,hQ,hE,z1,z2,z7,z8,y1,hFl];(repeat refine ca ?_);(refine zJ m ?_;clear m J))
 obtain⟨o1,o2,rfl⟩:∃ a b,o=[a,b]:=by
  match o,ho with
  |[a,b],_=>exact⟨a,b,rfl⟩
 refine mf A P hab' C y4 y5 y6 y7 ?_;refine hJJ G'.V.length _ _ dS ⟨G',hS,rfl,Z A,Z D,?_,by simp;omega,?_,tv,s.z+1,?_⟩
 ·(repeat (first|exact B|(refine aC.trans ?_ (aC.new _ _))|(refine aC.set ?_ (by have:=B.z;omega) _)))
 ·(repeat (first|rw[ay aE]|rw[aA O]|rw[az bf]|rw[aB O]));exact I
 .rw[hSv,hSe,hapF];(repeat (first|rw[ay aE]|rw[aA O]|rw[az bf]|rw[aB O]));simp
theorem Xm(g:Gr)(h:SmI g)(w:St):
 aD prog 30 [.ag (aw g)] w fun r st'=>(r=i 5\/r=i 33)/\st'=w:=by
 refine qT (Q:=fun r=>r=i 5\/r=i 33) ?_ fun r h=>by rcases h with rfl|rfl<;>trivial
 refine zN func30 ntmps30 [.tmp 2] ?_;refine fB fun hpos=>?_
 (refine ez ?_;intro J A)
 refine qE (Py g h _) (by simp[aw]) ?_;rintro r s1 ⟨⟨g',rfl,S,o7⟩,h1⟩;rw[h1];clear h1 s1;have hK:=S.kind o7;have hl2:=S.l2;clear o7 S;obtain⟨e,m⟩:=g';obtain⟨p,hp⟩:∃ p,p=w.z:=⟨_,rfl⟩;rcases hK with⟨F,E,X⟩|⟨F,E,X⟩
 .simp only at F E X;refine oG A F E ?_;refine qL (fun n j s=>∃ a:Nat,a<=5/\n=5-a/\j 1=.pt p 0/\j 3=.sl 0 5 (us e)/\j 4=i a/\s.H p=.box 25 2 (aw ⟨e,m⟩)/\aC w s) 5 ?_ ?_
  .refine⟨0,O,O,Z hp,Y,Y,by simp[hp,F,E,aw],?_⟩
   (repeat (first|exact aC.refl _|(refine aC.trans ?_ (aC.new _ _))|(refine aC.set ?_ O _)))
  rintro n j s ⟨a,ha,rfl,q,t,M,o,v⟩ JJ B;by_cases ha5:a<5;rotate_left
  .have k:¬(a:Int)<5:=O;refine cm M k ?_;exact v
  have k:(a:Int)<5:=O;have w1:IntKind.i64.wrap ((a:Int)+1)=((a+1:Nat):Int):=qN a O;refine fw M k w1 ?_;refine qL (fun n j s=>∃ b:Nat,a<b/\b<=5/\n=5-b/\j 1=.pt p 0/\j 3=.sl 0 5 (us e)/\j 4=i a/\j 5=i b/\s.H p=.box 25 2 (aw ⟨e,m⟩)/\aC w s) (5-(a+1)) ?_ ?_
  .exact⟨a+1,O,O,rfl,Z q,Z t,Z M,Y,o,v⟩
  have P:∀ f L,f 1=.pt p 0->f 3=.sl 0 5 (us e)->f 4=i ((a+1:Nat):Int)->L.H p=.box 25 2 (aw ⟨e,m⟩)->aC w L->JJ f L:=fun f L q1 q2 q3 q4 q5=>B (5-(a+1)) _ _ O ⟨a+1,O,rfl,q1,q2,q3,q4,q5⟩;clear B q t M o v j s;rintro n j s ⟨b,r9,hb,rfl,q,t,M,f5,o,v⟩ JJ2 C;by_cases V:b<5;rotate_left
  .have l:¬(b:Int)<5:=O;refine eI M f5 l w1 ?_;exact P _ _ (Z q) (Z t) Y o v
  have l:(b:Int)<5:=O;have w2:IntKind.i64.wrap ((b:Int)+1)=((b+1:Nat):Int):=qN b O;have y9:=qG e a O;have D:=qG e b O;have T:=X a b r9 V;have N:=fun w=>OG ⟨e,m⟩ (e.getD a 0) (e.getD b 0) w (by show m.length<=1000;omega);simp only at N;rw[T]at N;generalize e.getD a 0=x at *;generalize e.getD b 0=y at *;refine cm f5 l ?_
  (refine zS [] [p] [0,2,4,6,8,10,12,14,16,19,20] ?_;intro J A;simp[q,t,M,f5,o,y9,D,k,l,ha5,V];(repeat refine ca ?_))
  refine eL (N _) ?_ (by simp[aw,F,E]);refine⟨fun h=>by first|(cases h;done)|simp[o],?_⟩
  (apply bM;simp[];(refine zJ A ?_;clear A J))
  refine cm f5 w2 ?_;exact C (5-(b+1)) _ _ O ⟨b+1,O,O,rfl,Z q,Z t,Z M,Y,o,v⟩
 .simp only at F E X;refine oG A F E ?_;refine qL (fun n j s=>∃ a:Nat,a<=6/\n=6-a/\j 1=.pt p 0/\j 3=.sl 0 6 (us e)/\j 6=i a/\s.H p=.box 25 2 (aw ⟨e,m⟩)/\aC w s) 6 ?_ ?_
  .refine⟨0,O,O,Z hp,Y,Y,by simp[hp,F,E,aw],?_⟩
   (repeat (first|exact aC.refl _|(refine aC.trans ?_ (aC.new _ _))|(refine aC.set ?_ O _)))
  rintro n j s ⟨a,ha,rfl,q,t,I,o,v⟩ JJ B;by_cases R:a<6;rotate_left
  .have k:¬(a:Int)<6:=O;refine cm I k ?_;exact v
  have k:(a:Int)<6:=O;have w1:IntKind.i64.wrap ((a:Int)+1)=((a+1:Nat):Int):=qN a O;refine fw I k w1 ?_;refine qL (fun n j s=>∃ b:Nat,a<b/\b<=6/\n=6-b/\j 1=.pt p 0/\j 3=.sl 0 6 (us e)/\j 6=i a/\j 7=i b/\s.H p=.box 25 2 (aw ⟨e,m⟩)/\aC w s) (6-(a+1)) ?_ ?_
  .exact⟨a+1,O,O,rfl,Z q,Z t,Z I,Y,o,v⟩
  have P:∀ f L,f 1=.pt p 0->f 3=.sl 0 6 (us e)->f 6=i ((a+1:Nat):Int)->L.H p=.box 25 2 (aw ⟨e,m⟩)->aC w L->JJ f L:=fun f L q1 q2 q3 q4 q5=>B (6-(a+1)) _ _ O ⟨a+1,O,rfl,q1,q2,q3,q4,q5⟩;clear B q t I o v j s;rintro n j s ⟨b,r9,hb,rfl,q,t,I,U,o,v⟩ JJ2 C;by_cases K:b<6;rotate_left
  .have l:¬(b:Int)<6:=O;refine eI I U l w1 ?_;exact P _ _ (Z q) (Z t) Y o v
  have l:(b:Int)<6:=O;have w2:IntKind.i64.wrap ((b:Int)+1)=((b+1:Nat):Int):=qN b O;have W:=qG e 0 O;rw[List.drop_zero]at W;have h0:oe (us e)=u (e.getD 0 0):=by rw[W];rfl
  have y9:=qG e a O;have D:=qG e b O;have T:=X a b r9 K;have N:=fun c d w=>OG ⟨e,m⟩ c d w (by show m.length<=1000;omega);simp only at N;generalize e.getD 0 0=z at *;generalize e.getD a 0=x at *;generalize e.getD b 0=y at *;have n1:((fM m z x:Int)==1)=decide (fM m z x=1):=by rw[tr];simp;omega
  have n2:((fM m z y:Int)==1)=decide (fM m z y=1):=by rw[tr];simp;omega
  have n3:(fM m x y:Int)=if(decide (fM m z x=1) != decide (fM m z y=1))=true then 1 else 0:=by rw[T];split<;>rfl
  have hqz:=N z x;have hqy:=N z y;have hqx:=N x y;generalize fM m z x=m1 at *;generalize fM m z y=m2 at *;generalize fM m x y=m3 at *;refine cm U l ?_
  (refine zS [] [p] [0,2,4,6,8,10,12,14,20,22,24,26,28,30,32,34,16,18,36,38,40,42] ?_;intro J A;simp[q,t,I,U,o,h0,y9,D,k,l,R,K];(repeat refine ca ?_))
  refine eL (hqz _) ?_ (by simp[aw,F,E]);refine⟨fun h=>by first|(cases h;done)|simp[o],?_⟩
  (apply bM;simp[q,t,I,U,o,h0,y9,D,k,l,R,K])
  refine eL (hqy _) ?_ (by simp[aw,F,E]);refine⟨fun h=>by first|(cases h;done)|simp[o],?_⟩
  (apply bM;simp[n1,n2];(refine zJ A ?_;clear A J))
  generalize decide (m1=1)=c1 at *;generalize decide (m2=1)=c2 at *;cases c1<;>cases c2
  all_goals
   simp only[bne_self_eq_false,ir,gI,Bool.true_bne,Bool.false_bne,Bool.not_true,Bool.not_false,ef]at n3;refine bz ?_
   (refine zS [] [p] [0,2,4,6,8,10,12,14,16,20,19,22] ?_;intro J A;simp[q,t,I,U,o,y9,D,k,l,R,K];(repeat refine ca ?_))
   refine eL (hqx _) ?_ (by simp[aw,F,E]);refine⟨fun h=>by first|(cases h;done)|simp[o],?_⟩
   (apply bM;simp[n3];(refine zJ A ?_;clear A J))
   refine cm U w2 ?_;exact C (6-(b+1)) _ _ O ⟨b+1,O,O,rfl,Z q,Z t,Z I,Y,o,v⟩
theorem Oh(g:Gr)(a:St):aD prog 13 [.ag (aw g)] a fun r b=>r=i (chk g)/\aC a b:=by
 by_cases c:(64:Int)<(g.V.length:Int)
 .have:chk g=6:=by unfold chk;rw[ac O]
  refine zN func13 ntmps13 [.tmp 2] ?_;refine cm c this ?_;exact aC.new _ _
 by_cases d:(160:Int)<(g.E.length:Int)
 .have:chk g=6:=by unfold chk;rw[ac O]
  refine zN func13 ntmps13 [.tmp 2] ?_;refine fw c d this ?_;exact aC.new _ _
 exact Ov g a O O
theorem Wn(g k:Gr)(hc:chk g=0)(hv:∀ v∈k.V,v∈g.V)(he:∀ x∈k.E,x∈g.E)(hl:k.V.length<=1000/\k.E.length<=1000)(w:St):
 aD prog 29 [.ag (aw g),.ag (aw k)] w fun r W=>r=bb true/\W=w:=by
 refine qT (Q:=fun r=>r=bb true) ?_ fun r h=>by subst h;trivial
 obtain⟨hvl,hel'⟩:=hl;have hF:=kP hc;have hg1:=hF.l1;have hg2:=hF.l2;have S:=aL k.E;have F:=aL g.E;refine zN func29 ntmps29 [.tmp 4] ?_;refine fB fun hpos=>?_;have x1:¬w.z=w.z+1:=O;obtain⟨p,hp⟩:∃ p,p=w.z:=⟨_,rfl⟩;refine bz ?_;refine aV 13 12 14 21 (k.V.length) (fun j l c=>l 2=.pt p 0/\l 3=.pt (p+1) 0/\l 11=.sl 0 k.V.length (us k.V)/\c.H p=.box 25 2 (aw g)/\c.H (p+1)=.box 25 2 (aw k)/\aC w c/\p+1<c.z) ?_ ?_ ?_
 .subst hp;exact⟨Y,Y,Y,Z x1,Y,(aC.new _ _).trans (aC.new _ _),Y⟩
 .rintro j l s dS ⟨f,L,n,q,M,y,I⟩ o fn J e;have P:=qG k.V j dS;have N:=hv (k.V.getD j 0) (by rw[bv,bu dS];exact dz _);generalize k.V.getD j 0=v at *
  (refine Zp e f n o fn dS P q ?_;intro J e)
  refine qE (Has g v _ (by unfold small;omega)) (by simp[aw]) ?_;rintro r U ⟨rfl,t⟩;have K:=t.z
  (repeat' (first|refine qK (zZ ?_)|(apply qC;simp[N,o])|(apply cP;simp[N,o];(refine zJ e ?_;clear e J))))
  exact e _ _ (Z o) (Z fn) ⟨Z f,Z L,Z n,(t.H _ O).trans q,(t.H _ O).trans M,y.trans t,O⟩
 rintro l s ⟨f,L,n,q,M,y,I⟩;have x2:¬p=p+1:=O;refine cm L M ?_;refine aV 25 24 26 44 (k.E.length) (fun j l c=>l 2=.pt p 0/\l 23=.sl 0 k.E.length (eds k.E)/\c.H p=.box 25 2 (aw g)/\aC w c/\p+1<c.z) ?_ ?_ ?_
 .exact⟨Z f,Y,q,y,I⟩
 .clear f L n q M y I l s;rintro j l s dS ⟨f,A,q,y,I⟩ o fn J e;have P:=aP k.E j dS;have o9:j*3<k.E.length*3:=O;have N:=he (k.E.getD j ed0) (by rw[bv,bu dS];exact dz _);generalize k.E.getD j ed0=x at *;obtain⟨q0,T,q2,q3⟩:=F7 hc N;have C:=aP g.E (fe g.E x.id).toNat T;rw[q3]at C;have R:=fun w=>Rm g x.id w O;obtain⟨d,a,b⟩:=x;simp only at *;generalize (fe g.E d).toNat=m at *;generalize fe g.E d=fm at *;subst q2;have m1:¬(m:Int)<0:=O;have m2:(m:Int)<g.E.length:=O;have m3:m*3<g.E.length*3:=O;have X:¬p=s.z:=O
  (refine N0 e f A o fn dS P S o9 q X ?_;intro J e)
  refine qE (R _) (by simp[aw]) ?_;rintro r U ⟨rfl,t⟩;have K:=t.z;simp only[aK]at K;have B:U.H p=.box 25 2 (aw g):=by rw[t.H _ (by simp;omega)];simp[X,q]
  have D:U.H s.z=.box 36 3 [u d,u a,u b]:=by rw[t.H _ Y];simp
  (repeat' (first|apply qS|refine qK (zZ ?_)|(apply qC;simp[f,m1,m2,m3,T,B,D,C,F,o])|((first|(refine w_q ?_;intro J e)|(apply cP));simp[f,m1,m2,m3,T,B,D,C,F,o];(refine zJ e ?_;clear e J))))
  exact e _ _ (Z o) (Z fn) ⟨Z f,Z A,B,(y.trans (aC.new _ _)).trans t,O⟩
 .rintro l s ⟨f,A,q,y,I⟩;refine bz ?_;exact y
theorem KuraFinds(g:Gr)(h:St):aD prog 7 [.ag (aw g)] h fun r st'=>r=bb true:=by
 refine zN func7 ntmps7 [.tmp 2] ?_;refine fB fun L=>?_
 (refine ez ?_;intro J a)
 refine jr (Xn _) ?_
 (refine nV a ?_;intro J a)
 refine qE (Oh g _) Y ?_;rintro r X ⟨rfl,y⟩;have t:=y.z;simp only[aK]at t;have b:X.H h.z=.box 25 2 (aw g):=by rw[y.H _ Y];simp
 clear y;by_cases d:chk g=0;rotate_left
 .have q:(chk g != 0)=true:=by simpa using d
  exact Zy a q d
 by_cases w:(16:Int)<g.V.length
 .exact V8 a d b w
 by_cases F:(34:Int)<g.E.length
 .exact X4 a d b w F
 obtain⟨K,ok,W,P,I,l⟩:=QO d O O
 (refine U9 a d b w F ?_;intro J a)
 refine qE (RW g ⟨O,O,W,I⟩ (fun _=>(DQ d O O).1) _ O) Y ?_;rintro r B ⟨rfl,A⟩;rw[P];have S:=A.z;have e:=(A.H h.z O).trans b;have C:¬h.z=B.z:=O;clear b A
 (refine Hs a e C ?_;intro J a)
 refine qE (GV g O O I _) Y ?_;rintro r M ⟨rfl,m⟩;have v:=m.z;simp only[aK]at v;have n:M.H h.z=.box 25 2 (aw g):=by rw[m.H _ (by simp;omega)];simp[C,e]
 have f:M.H B.z=.box 25 2 (aw K):=by rw[m.H _ Y];simp
 clear m e;rcases l with⟨rfl,N,rfl⟩|⟨rfl,rfl,p,o,x,s⟩
 ·(refine Hs a N f ?_;intro J a)
  refine vB (Er ⟨[],[]⟩ ⟨[],[]⟩ _ Y Y) (by simp[z0,dl,aw,us,eds]) ?_;rintro r s4 ⟨rfl,c⟩;exact JZ a
 .have Q:=o.l1;have R:=o.l2
  (refine Ci a f ?_;intro J a)
  refine qE (Oh K _) Y ?_;rintro r s4 ⟨rfl,c⟩;have T:=c.z;have j:=(c.H h.z O).trans n;have k:=(c.H B.z O).trans f;rw[p];refine oG a j k ?_;refine jr (Wn g K d x s ⟨O,O⟩ _) ?_;refine oG a j k ?_;refine qE (Xm K o _) Y ?_;rintro r s5 ⟨U,D⟩;rw[D];clear D s5;rcases U with rfl|rfl
  .exact JZ a
  .exact JZ a
theorem EV(a:QQ)(b:St)(c:Shp tab 25 a):aD prog 7 [RB tab 25 a] b fun r d=>r=bb true:=by obtain⟨g,rfl,_⟩:=ZF c;exact KuraFinds g b
end Aw
end Go.Proofs.YtbgngpdonpeboaaGreatDoor
