/- Plain: round each vertex of a drawn block there is one turn alone, by Euler's count. -/
import Derived.Test.YtbgngpdonpeboaaGreatDoorJi
set_option linter.defProp false
set_option linter.unusedVariables false
set_option linter.unusedSimpArgs false
set_option linter.unusedSectionVars false
namespace Go.Proofs.YtbgngpdonpeboaaGreatDoor
namespace Aw
open Go Go.RowKit Pl Eu
def ff(F:List AN):List AN:=F.map fun r=>(ao r).map cd
def iE(F:List AN):(ff F).flatten=(PF F).map cd:=by unfold ff PF;rw[vf,<- List.flatMap_def]
def dQ{E:List Ed}{e:Ed}(a:e∈E){x y:Int}(h:aj e=ay x y):x∈ai E/\y∈ai E:=by
 rw[aK,aK];rcases aT h with⟨b,c⟩|⟨b,c⟩
 .exact⟨⟨e,a,.inl b.symm⟩,⟨e,a,.inr c.symm⟩⟩
 .exact⟨⟨e,a,.inr c.symm⟩,⟨e,a,.inl b.symm⟩⟩
structure BlE(E:List Ed):Prop where
 ne:∀ e∈E,e.a≠e.b
 sim:(E.map aj).Nodup
 bnd:∀ v∈ai E,0<=v/\v<4194304
section
variable {E:List Ed} {F:List (List Int)} (hO:jV E F) (hE:BlE E)
include hO hE
theorem jV.b2{p:Int×Int}(h:p∈PF F):(0<=p.1/\p.1<4194304)/\0<=p.2/\p.2<4194304:=by obtain⟨e,a,b⟩:=(hO.mem p.1 p.2).1 h;have:=dQ a b;exact⟨hE.bnd _ this.1,hE.bnd _ this.2⟩
theorem jV.cdnd:((ff F).flatten).Nodup:=by rw[iE];unfold List.Nodup;rw[fa];exact hO.nd.imp_of_mem fun {p q} hp hq c7 e=>c7 (dJ (hO.b2 hE hp).2 (hO.b2 hE hq).2 e)
theorem jV.swap{u v:Int}(h:(u,v)∈PF F):(v,u)∈PF F:=by obtain⟨e,a,b⟩:=(hO.mem u v).1 h;exact(hO.mem v u).2 ⟨e,a,by rw[b];exact aG _ _⟩
theorem jV.z{u v:Int}(h:(u,v)∈PF F):∃ w,(u,v,w)∈F.flatMap iz/\∃ r∈F,(u,v)∈ao r/\(v,w)∈ao r/\di (ff F) (cd (u,v))=cd (v,w):=by
 have:=(xA F).mem_iff.2 h;obtain⟨t,b,e⟩:=aq.1 this;obtain⟨r,a,j⟩:=gh.1 b;have n:∀ p∈ao r,p∈PF F:=fun p q=>aX.2 ⟨r,a,q⟩;have g:(ao r).Nodup:=by have c:=hO.nd;unfold PF at c;rw[List.flatMap_def]at c;exact row_nodup' c (de a)
 have o:∀ v∈r,0<=v/\v<4194304:=fun v s=>by obtain⟨x,y⟩:=gX s;exact(hO.b2 hE (n _ y)).1
 obtain⟨d,k,l⟩:=PT g o j;injection e with e1 e2;rw[e1,e2]at d l;rw[e2]at k;refine⟨t.2.2,?_,r,a,d,k,?_⟩
 .rw[<- e1,<- e2];exact b
 .rw[gH (hO.cdnd hE) (t:=(ao r).map cd) (de (f:=fun r=>(ao r).map cd) a) (de d),l]
where
 row_nodup' {m:Type} {L:List (List m)} (g:L.flatten.Nodup) {t:List m} (b:t∈L):t.Nodup:=(lh b).nodup g
abbrev ko(E:List Ed)(F:List AN):Int->Int:=ce (di (ff F)) (cw E)
theorem jV.tws_mem:∀ p∈cw E,p.1∈(ff F).flatten/\p.2∈(ff F).flatten/\p.1≠p.2:=fun p g=>by obtain⟨e,f,rfl⟩:=aq.1 g;have c:=(hO.mem e.a e.b).2 ⟨e,f,rfl⟩;have d:=hO.swap hE c;rw[iE];refine⟨de c,de d,fun k=>hE.ne e f ?_⟩;have:=dJ (hO.b2 hE c).2 (hO.b2 hE d).2 k;injection this
theorem jV.sgV_at{u v:Int}(h:(u,v)∈PF F):ko E F (cd (v,u))=di (ff F) (cd (u,v)):=
 LG _ E (fun e a=>⟨hE.bnd _ ((aK _ _).2 ⟨e,a,.inl rfl⟩),hE.bnd _ ((aK _ _).2 ⟨e,a,.inr rfl⟩)⟩) hE.sim ((hO.mem u v).1 h)
theorem jV.sgV_permOn:cD (ff F).flatten (ko E F):=fE (kT (hO.cdnd hE)) _ fun p a=>⟨(hO.tws_mem hE p a).1,(hO.tws_mem hE p a).2.1⟩
theorem jV.sgV_base(x:Int):ko E F x / 4194304=x / 4194304:=by
 by_cases a:x∈(ff F).flatten
 .rw[iE]at a;obtain⟨⟨v,u⟩,hp,rfl⟩:=aq.1 a;have b:=hO.swap hE hp;obtain⟨w,_,r,c,g,d,e⟩:=hO.z hE b;have f:=aX.2 ⟨r,c,d⟩;rw[hO.sgV_at hE b,e,wU (hO.b2 hE f).2,wU (hO.b2 hE hp).2]
 .rw[(hO.sgV_permOn hE).out x a]
theorem jV.sgV_it:∀(n:Nat) (x:Int),it (ko E F) n x / 4194304=x / 4194304
 |0,_=>rfl
 |n+1,x=>by rw[bF,hO.sgV_base hE,jV.sgV_it n x]
theorem jV.count(U:E≠[]):Flat (ff F).flatten (di (ff F)) (cw E)/\∀ x∈(ff F).flatten,∀ y∈(ff F).flatten,x / 4194304=y / 4194304->Orb (ko E F) x y:=by
 have s:=hO.cdnd hE;have g:=kT s;have hσ:=hO.sgV_permOn hE;obtain⟨_,c,z⟩:=vP g (cw E) (hO.tws_mem hE);have J:=cU g.per.eqv (cw E);have m:∀ x∈(ff F).flatten,∀ y∈(ff F).flatten,cu (Orb (di (ff F))) (cw E) x y:=by
  intro x A y C;rw[iE]at A C;obtain⟨p,v,rfl⟩:=aq.1 A;obtain⟨q,L,rfl⟩:=aq.1 C;refine hO.con (fun p q=>cu (Orb (di (ff F))) (cw E) (cd p) (cd q)) (fun _ _ k=>J.symm k) (fun _ _ _ k l=>J.trans k l) (fun r M p v q L=>?_) (fun p v=>?_) p v q L
  .exact eW _ ((Fm s (de (f:=fun r=>(ao r).map cd) M) (de v)).2 (de L))
  .obtain⟨e,o,T⟩:=(hO.mem p.1 p.2).1 v;have:=iB g.per.eqv (cw E) (p:=(cd (e.a,e.b),cd (e.b,e.a))) (de (f:=fun e:Ed=>(cd (e.a,e.b),cd (e.b,e.a))) o);rcases aT T with⟨D,H⟩|⟨D,H⟩
   .rw[D,H]at this;exact this
   .rw[D,H]at this;exact J.symm this
 have I:(ff F).flatten≠[]:=by rw[iE];intro e;have:=qj.1 e;obtain⟨e,o⟩:=gS _ U;have h:=(hO.mem e.a e.b).2 ⟨e,o,rfl⟩;rw[this]at h;cases h
 have O:=UT m I;rw[O]at z;have Q:bg (Orb (di (ff F))) (ff F).flatten=F.length:=by rw[Ln s,sc.2,ff,dh];intro t Y;obtain⟨r,M,rfl⟩:=aq.1 Y;have j:=hO.ne r M;have w:=oB r;rw[gg];intro e;have P:=congrArg List.length e;rw[dh,w]at P;exact j (oy.1 P)
 have d:(cw E).length=E.length:=by rw[cw,dh]
 rw[Q,d]at z;have z:2*1+E.length=2*c+F.length+bg (Orb (ko E F)) (ff F).flatten:=z;let B:Int->Int->Prop:=fun x y=>x / 4194304=y / 4194304;have V:fJ B:=⟨fun _=>rfl,fun h=>Eq.symm h,fun h k=>Eq.trans h k⟩;have W:(ai E).length<=bg B (ff F).flatten:=by
  refine oV (R:=B) (fun x=>x / 4194304) (fun _ _ _ _ h=>h) (ai E) ((lG E).imp fun k=>by omega) fun a X=>?_;obtain⟨e,o,k⟩:=(aK a E).1 X;have j:=(hO.mem e.a e.b).2 ⟨e,o,rfl⟩;have w:=hO.swap hE j;rcases k with rfl|rfl
  .exact⟨_,by rw[iE];exact de j,wU (hO.b2 hE j).2⟩
  .exact⟨_,by rw[iE];exact de w,wU (hO.b2 hE w).2⟩
 have S:=hO.cnt;have N:∀ x y,Orb (ko E F) x y->B x y:=fun x y ⟨n,s⟩=>by show x / 4194304=y / 4194304;rw[<- s,hO.sgV_it hE]
 have K:bg B (ff F).flatten<=bg (Orb (ko E F)) (ff F).flatten:=pP fun x _ y _=>N x y;refine⟨?_,fun x A y C k=>SE hσ.per.eqv V (l:=(ff F).flatten) N oO A C k⟩;show 2*_+_=_+bg (Orb (ko E F)) _;rw[O,Q,d];omega
theorem jV.one_turn(e:E≠[]){v u c:Int}(h:(u,v)∈PF F)(d:(c,v)∈PF F):Orb (ko E F) (cd (v,u)) (cd (v,c)):=by have a:=hO.swap hE h;have b:=hO.swap hE d;refine(hO.count hE e).2 _ (by rw[iE];exact de a) _ (by rw[iE];exact de b) ?_;rw[wU (hO.b2 hE a).2,wU (hO.b2 hE b).2]
end
theorem MQ:∀ {P:List (Int×Int)},(P.map (·.1)).Nodup->∀ {u w:Int},(u,w)∈P->oC P u=w
 |p::P,hn,u,w,h=>by
  rw[ax,cb]at hn;unfold oC;rcases ah.1 h with rfl|h
  .rw[ad rfl]
  .rw[ac fun e=>hn.1 (by rw[e];exact de (f:=(·.1)) h)];exact MQ hn.2 h
section
variable {E:List Ed} {F:List (List Int)} (hO:jV E F) (hE:BlE E)
include hO hE
theorem jV.getA_eq(v:Int):dI v (aU F)=((F.flatMap iz).filter fun t=>decide (t.2.1=v)).map fun t=>(t.1,t.2.2):=by rw[xS,PA v _ ((xA F).nodup_iff.2 hO.nd)]
theorem jV.keys(v:Int):((dI v (aU F)).map (·.1)).Nodup/\∀ u,u∈(dI v (aU F)).map (·.1)↔(u,v)∈PF F:=by
 rw[hO.getA_eq hE,dy];have b:=(xA F).nodup_iff.2 hO.nd;constructor
 .unfold List.Nodup at b ⊢;rw[fa]at b ⊢;refine(b.sublist jc).imp_of_mem fun {s t} hs a c7 e=>c7 ?_;rw[cx,gg]at hs a;exact io e (by rw[hs.2,a.2])
 .intro u;rw[<- (xA F).mem_iff,aq,aq];constructor
  .rintro⟨t,a,rfl⟩;rw[cx,gg]at a;exact⟨t,a.1,by rw[<- a.2];rfl⟩
  .rintro⟨t,a,e⟩;injection e with e1 e2;exact⟨t,by rw[cx,gg];exact⟨a,e2⟩,e1⟩
theorem jV.step{u v:Int}(h:(u,v)∈PF F):(∃ r∈F,(u,v)∈ao r/\(v,oC (dI v (aU F)) u)∈ao r)/\ko E F (cd (v,u))=cd (v,oC (dI v (aU F)) u):=by
 obtain⟨w,a,r,b,c,d,e⟩:=hO.z hE h;have f:(u,w)∈dI v (aU F):=by rw[hO.getA_eq hE];exact aq.2 ⟨(u,v,w),by rw[cx];exact⟨a,sS⟩,rfl⟩
 rw[MQ (hO.keys hE v).1 f,hO.sgV_at hE h];exact⟨⟨r,b,c,d⟩,e⟩
theorem jV.round(h0:E≠[]){v:Int}(hv:v∈ai E):(bY (dI v (aU F))).Nodup/\bY (dI v (aU F))≠[]/\(∀ u,u∈bY (dI v (aU F))↔∃ e∈E,aj e=ay v u)/\
 ∀ u∈bY (dI v (aU F)),∃ r∈F,(u,v)∈ao r/\(v,nx (bY (dI v (aU F))) u)∈ao r:=by
 have y:=hO.keys hE v;have T:=fun u (h:(u,v)∈PF F)=>hO.step hE h;have K9:=fun u B (h:(u,v)∈PF F) (h':(B,v)∈PF F)=>hO.one_turn hE h0 h h';have hb:=fun p (h:p∈PF F)=>hO.b2 hE h;obtain⟨u0,Y⟩:∃ u,(u,v)∈PF F:=by
  obtain⟨e,H,k⟩:=(aK v E).1 hv;have C:=(hO.mem e.a e.b).2 ⟨e,H,rfl⟩;rcases k with rfl|rfl
  .exact⟨_,hO.swap hE C⟩
  .exact⟨_,C⟩
 have g:=fun u w (h:(u,w)∈PF F)=>hO.swap hE h;generalize dI v (aU F)=P at *;have D:P.map (·.1)≠[]:=kv ((y.2 u0).2 Y);have hP:P≠[]:=fun e=>D (by rw[e];rfl);have hf:(mn (P.map (·.1)),v)∈PF F:=(y.2 _).1 (wO D);generalize U:mn (P.map (·.1))=f at *;let c:Int->Int:=fun x=>if x∈P.map (·.1)then oC P x else x
 have o:∀ u,(u,v)∈PF F->c u=oC P u:=fun u d=>ad ((y.2 u).2 d);have s:∀ u,(u,v)∈PF F->(c u,v)∈PF F:=fun u d=>by rw[o u d];obtain⟨⟨r,X,_,k⟩,_⟩:=T u d;exact g _ _ (aX.2 ⟨r,X,k⟩)
 have l:∀ n u,(u,v)∈PF F->(it c n u,v)∈PF F/\it (ko E F) n (cd (v,u))=cd (v,it c n u):=by
  intro n;induction n with
  |zero=>intro u d;exact⟨d,rfl⟩
  |succ n ih=>intro u d;obtain⟨i1,i2⟩:=ih u d;rw[bF,bF,i2,(T _ i1).2,<- o _ i1];exact⟨s _ i1,rfl⟩
 have N:∀ u B,(u,v)∈PF F->(B,v)∈PF F->Orb c u B:=fun u B d L=>by obtain⟨n,R⟩:=K9 u B d L;rw[(l n u d).2]at R;have:=dJ (hb _ (g _ _ (l n u d).1)).2 (hb _ (g _ _ L)).2 R;injection this with _ e;exact⟨n,e⟩
 have K:∃ p,0<p/\it c p f=f:=by obtain⟨n,R⟩:=N (c f) f (s f hf) hf;exact⟨n+1,oO,R⟩
 obtain⟨p,⟨q,A⟩,T7⟩:=least (P:=fun n=>0<n/\it c n f=f) K.choose_spec;have t:∀ i j,i<j->j<p->it c i f≠it c j f:=by
  intro i j I hj e;have C:it c (p-j) (it c j f)=f:=by rw[<- lE,show p-j+j=p by omega,A]
  rw[<- e,<- lE]at C;exact T7 (p-j+i) oO ⟨oO,C⟩
 have z:((List.range p).map fun k=>it c k f).Nodup:=by unfold List.Nodup;rw[fa];exact(nv (n:=p)).imp_of_mem fun {i j} _ hj I=>t i j I (fC.1 hj)
 have O:∀ u,u∈((List.range p).map fun k=>it c k f)↔(u,v)∈PF F:=fun u=>by
  constructor
  .intro h;obtain⟨k,_,rfl⟩:=aq.1 h;exact(l k f hf).1
  .intro d;obtain⟨n,rfl⟩:=N f u hf d;exact aq.2 ⟨n % p,fC.2 (kz _ q),(TB q A n).symm⟩
 have J:p=P.length:=by
  have:=(Af z y.1 (fun x Z=>(y.2 x).2 ((O x).1 Z)) (by
   refine fg y.1 fun x Z=>(O x).2 ((y.2 x).1 Z))).length_eq
  simpa using this
 have V:∀ m k,k+m=p->0<m->js P f m (it c k f)=(List.range' k m).map fun k=>it c k f:=by
  intro m;induction m with
  |zero=>intro k _ h;omega
  |succ m ih=>
   intro k S _;have Q:oC P (it c k f)=it c (k+1) f:=by rw[bF,o _ (l k f hf).1]
   rw[List.range'_succ,ax,js,Q]
   congr 1
   by_cases W:0<m
   .rw[ad ⟨fun e=>T7 (k+1) oO ⟨oO,e⟩,W⟩];exact ih (k+1) oO W
   .rw[ac fun h=>W h.2];have:m=0:=oO;subst this;rfl
 have hR:bY P=(List.range p).map fun k=>it c k f:=by unfold bY;rw[U,<- J,List.range_eq_range'];exact V p 0 oO q
 rw[hR];refine⟨z,?_,fun u=>?_,fun u d=>?_⟩
 .intro e;have:=congrArg List.length e;simp at this;omega
 .rw[O,hO.mem];constructor
  .rintro⟨e,H,k⟩;exact⟨e,H,by rw[k];exact aG _ _⟩
  .rintro⟨e,H,k⟩;exact⟨e,H,by rw[k];exact aG _ _⟩
 .have M:=(O u).1 d;obtain⟨⟨r,X,k1,k2⟩,_⟩:=T u M;refine⟨r,X,k1,?_⟩;obtain⟨k,S,rfl⟩:=aq.1 d;rw[fC]at S;have hl:((List.range p).map fun k=>it c k f).length=p:=sS;have Q:=iI z (j:=k) (by rw[hl];exact S);simp only[oh,List.getElem_range,hl]at Q;rw[Q,<- TB q A,bF,o _ M];exact k2
end
def bp(p:Int×Int):Int×Int:=ay p.1 p.2
def br(A:List (Int×Int)):List (Int×Int):=A.map fun p=>(cd p,cd p.swap)
structure PlD(E:List Ed)(s:Int->Int)(D:AN):Prop where
 bl:BlE E
 perm:cD D s
 mem:∀ p:Int×Int,(∃ e∈E,aj e=bp p)->cd p∈D
 orb:∀ p q:Int×Int,(∃ e∈E,aj e=bp p)->(∃ e∈E,aj e=bp q)->(Orb s (cd p) (cd q)↔p.1=q.1)
 flat:Flat D s (cw E)
def PlE(E:List Ed)(s:Int->Int):Prop:=∃ D,PlD E s D
theorem PlE.bl{E:List Ed}{s:Int->Int}(h:PlE E s):BlE E:=let ⟨_,k⟩:=h;k.bl
theorem PlE.per{E:List Ed}{s:Int->Int}(h:PlE E s):Per s:=let ⟨_,k⟩:=h;k.perm.per
structure eH(E:List Ed)(A:List (Int×Int)):Prop where
 mem:∀ p∈A,∃ e∈E,aj e=bp p
 nd:(A.map bp).Nodup
theorem gN{a b:Type}(f:a->b):∀ {l:List a},(l.map f).Nodup->l.Nodup
 |[],_=>List.nodup_nil
 |x::l,h=>by rw[ax,cb]at h;exact cb.2 ⟨fun k=>h.1 (de k),gN f h.2⟩
theorem qP{b d:Type}{f:b->d}:∀ {l:List b},(l.map f).Nodup->∀ {x y:b},x∈l->y∈l->f x=f y->x=y
 |z::l,h,x,y,hx,hy,e=>by
  rw[ax,cb]at h;rcases ah.1 hx with rfl|c
  .rcases ah.1 hy with rfl|a
   .rfl
   .exact absurd (aq.2 ⟨y,a,e.symm⟩) h.1
  .rcases ah.1 hy with rfl|a
   .exact absurd (aq.2 ⟨x,c,e⟩) h.1
   .exact qP h.2 c a e
def fV(p:Int×Int):bp p.swap=bp p:=aG _ _
def fY(A:List (Int×Int))(e:Ed):Int×Int:=if(e.a,e.b)∈A then(e.a,e.b)else if(e.b,e.a)∈A then(e.b,e.a)else(e.a,e.b)
def FP(A:List (Int×Int))(e:Ed):fY A e=(e.a,e.b)\/fY A e=(e.b,e.a):=by
 unfold fY
 split
 .exact .inl rfl
 .split
  .exact .inr rfl
  .exact .inl rfl
def Qi(A:List (Int×Int))(e:Ed):bp (fY A e)=aj e:=by
 rcases FP A e with h|h
 .rw[h];rfl
 .rw[h];exact aG _ _
def Tr(a b x:Int):Eu.sw a b x=Eu.sw b a x:=by
 unfold Eu.sw;by_cases d:x=a
 .by_cases c:x=b
  .rw[ad d,ad c,<- d,<- c]
  .rw[ad d,ac c,ad d]
 .rw[ac d];by_cases c:x=b
  .rw[ad c,ad c]
  .rw[ac c,ac c,ac d]
theorem SP(s:Int->Int)(A:List (Int×Int)):∀(E:List Ed) (x:Int),ce s (cw E) x=ce s (br (E.map (fY A))) x
 |[],_=>rfl
 |e::E,x=>by
  show ce s (cw E) (Eu.sw _ _ x)=ce s (br (E.map (fY A))) (Eu.sw (cd (fY A e)) (cd (fY A e).swap) x);rw[SP s A E];rcases FP A e with h|h
  .rw[h];rfl
  .rw[h];show _=ce s _ (Eu.sw (cd (e.b,e.a)) (cd (e.a,e.b)) x);rw[Tr]
section
variable {E:List Ed} (hP:BlE E)
include hP
theorem BlE.bd{e:Ed}(c:e∈E):(0<=e.a/\e.a<4194304)/\0<=e.b/\e.b<4194304:=by have:=dQ (x:=e.a) (y:=e.b) c rfl;exact⟨hP.bnd _ this.1,hP.bnd _ this.2⟩
theorem BlE.arc_bd{p:Int×Int}(h:∃ e∈E,aj e=bp p):(0<=p.1/\p.1<4194304)/\(0<=p.2/\p.2<4194304)/\p.1≠p.2:=by
 obtain⟨e,f,g⟩:=h;have a:=hP.bd f;have d:=hP.ne e f;rcases aT g with⟨b,c⟩|⟨b,c⟩
 .rw[<- b,<- c];exact⟨a.1,a.2,d⟩
 .rw[<- b,<- c];exact⟨a.2,a.1,fD d⟩
theorem BlE.fl_nd:∀ {A:List (Int×Int)},eH E A->(ci (br A)).Nodup
 |[],_=>List.nodup_nil
 |p::A,h=>by
  have s:eH E A:=⟨fun q c=>h.mem q (ar _ c),(cb.1 h.nd).2⟩;have v:=BlE.fl_nd s;obtain⟨d,f,m⟩:=hP.arc_bd (h.mem p aw);have l:=(cb.1 h.nd).1;have b:∀ q:Int×Int,bp q=bp p->((0<=q.1/\q.1<4194304)/\0<=q.2/\q.2<4194304)->cd q∉ci (br A):=by
   intro q c j k;obtain⟨r,t,e⟩:=bJ.1 k;obtain⟨a,g,rfl⟩:=aq.1 t;obtain⟨n,o,_⟩:=hP.arc_bd (h.mem a (ar _ g));rcases e with e|e
   .have:=dJ j.2 o e;exact l (aq.2 ⟨a,g,by rw[<- this,c]⟩)
   .have:=dJ (q:=a.swap) j.2 n e;exact l (aq.2 ⟨a,g,by rw[<- c,this,fV]⟩)
  show(cd p::cd p.swap::ci (br A)).Nodup;rw[cb,cb];refine⟨fun k=>?_,b p.swap (fV p) ⟨f,d⟩,v⟩;rcases ah.1 k with k|k
  .have:=dJ (p:=p) (q:=p.swap) f d k;exact m (congrArg Prod.fst this)
  .exact b p rfl ⟨d,f⟩ k
end
section
variable {E:List Ed} {s:Int->Int} (hP:PlE E s)
include hP
theorem PlE.arc_bd{p:Int×Int}(h:∃ e∈E,aj e=bp p):(0<=p.1/\p.1<4194304)/\(0<=p.2/\p.2<4194304)/\p.1≠p.2:=hP.bl.arc_bd h
theorem PlE.fl_nd{A:List (Int×Int)}(h:eH E A):(ci (br A)).Nodup:=hP.bl.fl_nd h
theorem PlE.ors(A:List (Int×Int)):eH E (E.map (fY A)):=by
 refine⟨fun p b=>?_,?_⟩
 .obtain⟨e,a,rfl⟩:=aq.1 b;exact⟨e,a,(Qi A e).symm⟩
 .have e:(E.map (fY A)).map bp=E.map aj:=by rw[dy];exact ii fun e _=>Qi A e
  rw[e];exact hP.bl.sim
theorem PlE.sub{A:List (Int×Int)}(g:eH E A):∃ R,(E.map (fY A)).Perm (R++A):=by
 refine⟨(E.map (fY A)).filter fun p=>decide (p∉A),?_⟩;have r:=hP.ors A;have d:=gN bp r.nd;have j:=gN bp g.nd;refine(jn d ?_).2 fun p=>?_
 .rw[bw];refine⟨d.filter _,j,fun x t y v e=>?_⟩;have:=(cx.1 t).2;simp only[ke]at this;exact this (e ▸ v)
 .rw[an,cx];simp only[ke];constructor
  .intro h;by_cases k:p∈A
   .exact .inr k
   .exact .inl ⟨h,k⟩
  .rintro(h|h)
   .exact h.1
   .obtain⟨e,l,m⟩:=g.mem p h;refine aq.2 ⟨e,l,?_⟩;rcases aT m with⟨c,f⟩|⟨c,f⟩
    .have:(e.a,e.b)=p:=io c f;unfold fY;rw[this,ad h]
    .have n:(e.a,e.b)∉A:=fun k=>by have o:bp (e.a,e.b)=bp p:=m;have:=qP g.nd k h o;have q:=hP.bl.ne e l;rw[<- this]at c f;exact q c
     have:(e.b,e.a)=p:=io f c;unfold fY;rw[ac n,this,ad h]
omit hP in
theorem PlD.pairs{D:AN}(hP:PlD E s D){A:List (Int×Int)}(f:eH E A):dU (D) (br A):=by intro q h;obtain⟨p,g,rfl⟩:=aq.1 h;have a:=f.mem p g;obtain⟨b,c,d⟩:=PlE.arc_bd ⟨D,hP⟩ a;exact⟨hP.mem _ a,hP.mem _ (by rw[fV];exact a),fun e=>d (congrArg Prod.fst (dJ (p:=p) (q:=p.swap) c b e))⟩
omit hP in
theorem PlD.flat_or{D:AN}(hP:PlD E s D)(A:List (Int×Int)):Flat (D) s (br (E.map (fY A))):=by
 have h:=hP.flat;have e:ce s (cw E)=ce s (br (E.map (fY A))):=funext fun x=>SP s A E x;have c:=hP.perm.per.eqv;have n:∀ x y,Orb s x y->cu (Orb s) (br (E.map (fY A))) x y:=fun x y k=>eW _ k;have j:∀ x y,Orb s x y->cu (Orb s) (cw E) x y:=fun x y k=>eW _ k;have l:bg (cu (Orb s) (cw E)) (D)=bg (cu (Orb s) (br (E.map (fY A)))) (D):=by
  refine dA fun x _ y _=>⟨fun k=>mS (cU c _) n (fun p g=>?_) x y k,fun k=>mS (cU c _) j (fun p g=>?_) x y k⟩
  .obtain⟨f,hf,rfl⟩:=aq.1 g;have d:(cd (fY A f),cd (fY A f).swap)∈br (E.map (fY A)):=aq.2 ⟨_,de hf,rfl⟩;have:=iB c _ d;rcases FP A f with h|h
   .rw[h]at this;exact this
   .rw[h]at this;exact(cU c _).symm this
  .obtain⟨q,m,rfl⟩:=aq.1 g;obtain⟨f,hf,rfl⟩:=aq.1 m;have d:(cd (f.a,f.b),cd (f.b,f.a))∈cw E:=aq.2 ⟨f,hf,rfl⟩;have:=iB c _ d;rcases FP A f with h|h
   .rw[h];exact this
   .rw[h];exact(cU c _).symm this
 unfold Flat at h ⊢;rw[<- e,<- l];have:(br (E.map (fY A))).length=(cw E).length:=by unfold br cw;simp
 rw[this];exact h
theorem PlE.face{p:Int×Int}{A:List (Int×Int)}(c:eH E (p::A)):cu (Orb s) (br A) (cd p) (cd p.swap)->Orb (ce s (br A)) (cd p) (cd p.swap):=by
 obtain⟨R,d⟩:=hP.sub c;have b:=hP.ors (p::A);have e:(br (E.map (fY (p::A)))).Perm (br R++(cd p,cd p.swap)::br A):=by have:=d.map fun p:Int×Int=>(cd p,cd p.swap);rw[cr]at this;exact this
 have a:=hP.fl_nd b;obtain⟨D,hP⟩:=hP;exact(Oh hP.perm (hP.pairs b) a (hP.flat_or _) e).2
end
section
variable {f:Int->Int} (hf:Per f) {ds:List Int} (hd:∀ x∈ds,f x∈ds)
include hf hd
end
def zi(a:List AN)(d:Int):Int:=if(a.any fun t=>decide (d∈t))=true then(a.findIdx fun t=>decide (d∈t):Int)else -1
def LP(m:Mp)(R:List AN):Prop:=Oz (fc m m.g.E) (aW m.g.E) (aW m.g.E).length R
section
variable {m:Mp} (h:bU m) {R:List (List Int)} (hR:LP m R)
include h hR
end
def zj(f:Int->Int)(d:Int)(k:Nat):AN:=(List.range k).map fun j=>it f j d
@[simp] theorem Zk(f:Int->Int)(d:Int)(k:Nat):(zj f d k).length=k:=by simp[zj]
noncomputable def gn(m:Mp):Nat:=(2*bg (Reach m.g.E) m.g.V+m.g.E.length-(alone m.g+m.g.V.length+bg (Orb (fc m m.g.E)) (aW m.g.E))) / 2
theorem bU.gn{m:Mp}(h:bU m):2*bg (Reach m.g.E) m.g.V+m.g.E.length=2*gn m+alone m.g+m.g.V.length+bg (Orb (fc m m.g.E)) (aW m.g.E):=by
 obtain⟨k,a⟩:=h.euler;have:Aw.gn m=k:=by unfold Aw.gn;omega
 omega
section
variable {m:Mp} (h:bU m)
include h
end
def CC(m:Mp)(x y:Int):Prop:=x=y\/∃ v w,x∈ends m.g.E v/\y∈ends m.g.E w/\Reach m.g.E v w
theorem CC.eqv{m:Mp}(h:bU m):fJ (CC m):=by
 refine⟨fun x=>.inl rfl,?_,?_⟩
 .rintro x y (rfl|⟨v,w,a,b,c⟩)
  .exact .inl rfl
  .exact .inr ⟨w,v,b,a,c.symm⟩
 .rintro x y z (rfl|⟨v,w,a,b,c⟩) (rfl|⟨k,j,d,e,f⟩)
  .exact .inl rfl
  .exact .inr ⟨k,j,d,e,f⟩
  .exact .inr ⟨v,w,a,b,c⟩
  .have:=dM h.g.ids b d;subst this;exact .inr ⟨v,j,a,e,c.trans f⟩
theorem Gs{C:Int->Int->Prop}(e:fJ C){l:AN}:∀(t:AN) (x:Int),x∈t->(∀ y∈t,∀ z∈t,C y z)->bg C (t++l)=bg C l+@ite Nat (∃ y∈l,C y x) (Classical.propDecidable _) 0 1
 |[],x,c,_=>by grind
 |[z],x,c,_=>by rw[bf]at c;subst c;rfl
 |z::a::t,x,c,hall=>by
  have j:=Gs e (l:=l) (a::t) a aw (fun y b w h=>hall y (ar _ b) w (ar _ h));have d:C a x:=hall a sS x c;rw[List.cons_append,aY ⟨a,sS,hall a sS z sS⟩,j]
  congr 1
  by_cases g:∃ y∈l,C y a
  .obtain⟨y,b,f⟩:=g;rw[ad ⟨y,b,f⟩,ad ⟨y,b,e.trans f d⟩]
  .rw[ac g,ac];rintro⟨y,b,f⟩;exact g ⟨y,b,e.trans f (e.symm d)⟩
theorem HO{R C:Int->Int->Prop}(k:fJ C):∀(L:List (Int×AN)),(∀ p∈L,∀ q∈L,∀ x∈p.2,∀ y∈q.2,(C x y↔R p.1 q.1))->(∀ p∈L,R p.1 p.1)->L.Pairwise (fun p q=>(p.2=[]\/q.2=[])->¬R q.1 p.1)->
 bg R (L.map (·.1))=bg C (L.map (·.2)).flatten+(L.filter fun p=>decide (p.2=[])).length
 |[],_,_,_=>rfl
 |(v,t)::L,h1,h3,h2=>by
  rw[jq]at h2;have l:=HO k L (fun p g q a=>h1 p (ar _ g) q (ar _ a)) (fun p g=>h3 p (ar _ g)) h2.2;simp only[ax,List.flatten_cons];by_cases o:t=[]
  .grind [aN]
  .obtain⟨x,h⟩:=gS t o;have c:(v,t)∈(v,t)::L:=aw;rw[Gs k t x h (fun y b z w=>(h1 _ c _ c y b z w).2 (h3 _ c))];have hf:((v,t)::L).filter (fun p=>decide (p.2=[]))=L.filter (fun p=>decide (p.2=[])):=by rw[tg,ac (by grind)]
   rw[hf];by_cases d:∃ u∈L.map (·.1),R u v
   .rw[aY d,l,ad]
    .omega
    .obtain⟨u,r,f⟩:=d;obtain⟨q,a,rfl⟩:=aq.1 r;have m:q.2≠[]:=fun e=>h2.1 q a (.inr e) f;obtain⟨y,b⟩:=gS q.2 m;exact⟨y,fh.2 ⟨q.2,aq.2 ⟨q,a,rfl⟩,b⟩,(h1 q (ar _ a) _ c y b x h).2 f⟩
   .rw[aN d,l,ac]
    .omega
    .rintro⟨y,b,f⟩;obtain⟨s,n,j⟩:=fh.1 b;obtain⟨q,a,rfl⟩:=aq.1 n;exact d ⟨q.1,aq.2 ⟨q,a,rfl⟩,(h1 q (ar _ a) _ c y j x h).1 f⟩
def xL{a:List Ed}{v w:Int}(b:nbr a v=[])(h:Reach a v w):v=w:=by
 induction h with
 |refl=>rfl
 |step _ c d=>grind
section
variable {m:Mp} (h:bU m)
include h
theorem bU.ncl_parts:bg (Reach m.g.E) m.g.V=bg (CC m) (aW m.g.E)+alone m.g:=by
 have B:∀ p∈m.g.V.zip m.rots,∃ k,∃ c:k<m.g.V.length,∃ e:k<m.rots.length,p=(m.g.V[k],m.rots[k]):=by intro p A;obtain⟨k,r,rfl⟩:=eh A;rw[vj]at r;exact⟨k,oO,oO,by grind⟩
 have f:∀ k (c:k<m.g.V.length) (e:k<m.rots.length),GU m.g.E m.g.V[k] m.rots[k]:=fun k c e=>by
  have:=h.ok k c
  grind
 have o:=HO (R:=Reach m.g.E) (CC.eqv h) (m.g.V.zip m.rots) (fun p A q I x J y K=>?_) (fun p _=>.refl) ?_
 .rw[xw (by rw[h.len];omega),ur (by rw[h.len];omega)]at o;rw[o,tY (CC.eqv h) h.kQ]
  congr 1
  have Q:((m.g.V.zip m.rots).filter fun p=>decide (p.2=[])).length=(m.rots.filter fun t=>decide (t=[])).length:=by
   have D:m.rots.filter (fun t=>decide (t=[]))=((m.g.V.zip m.rots).filter fun p=>decide (p.2=[])).map (·.2):=by
    conv=>lhs;rw[<- ur (l₁:=m.g.V) (l₂:=m.rots) (by rw[h.len];omega)]
    rw[List.filter_map];rfl
   rw[D,dh]
  have S:=filter_eq (fun t=>decide (t=[])) (fun v=>!decide (nbr m.g.E v=[])) m.rots m.g.V h.len fun k c e=>by
   have r:=f k e c;have T:m.rots[k]=[]↔nbr m.g.E m.g.V[k]=[]:=by
    rw[<- vL];constructor
    .intro C;have:=r.1;simp_all
    .intro C;have:=r.1;simp_all
   grind
  have U:alone m.g+m.g.V.countP (fun v=>!decide (nbr m.g.E v=[]))=m.g.V.length:=by
   unfold alone;rw[List.length_eq_countP_add_countP (fun v=>decide (nbr m.g.E v=[])) (l:=m.g.V)]
   congr 1
   congr 1
   funext v
   simp
  have:=h.len;omega
 .obtain⟨j,L,M,rfl⟩:=B p A;obtain⟨k,N,O,rfl⟩:=B q I;have z:=(f j L M).1.mem_iff.1 J;have d:=(f k N O).1.mem_iff.1 K;constructor
  .rintro(rfl|⟨v,w,c,e,C⟩)
   .rw[dM h.g.ids z d];exact .refl
   .rw[dM h.g.ids z c,dM h.g.ids d e];omega
  .intro s;exact .inr ⟨_,_,z,d,s⟩
 .rw[fq];intro a b F H P;rw[vj]at F H;rw[tf,tf];simp only;intro n s;have dF:=fq.1 h.g.rise a b oO oO P;rcases n with n|n
  .have c:=(f a oO oO).1;rw[n]at c;have:=xL ((vL _ _).1 c.symm.eq_nil) s.symm;omega
  .have c:=(f b oO oO).1;rw[n]at c;have:=xL ((vL _ _).1 c.symm.eq_nil) s;omega
variable {R:List (List Int)} (hR:LP m R) (hb:∀ x∈m.g.E,zi R (2*x.id)≠zi R (2*x.id+1))
include hR hb
end
section
variable {m:Mp} (h:bU m)
include h
end
section
variable {m:Mp} (h:bU m)
include h
theorem bU.it_v{v d:Int}(a:d∈ends m.g.E v):∀ n,it (sg m) n d∈ends m.g.E v
 |0=>a
 |n+1=>by rw[bF];exact h.sg_at_v (bU.it_v a n)
theorem bU.sg_orb{v d e:Int}(o:d∈ends m.g.E v)(p:e∈ends m.g.E v):∃ n,it (sg m) n d=e:=by
 obtain⟨t,b,a⟩:=h.turn_of (nR o);have f:e∈t:=by obtain⟨k,_,_,c,_⟩:=h.turn b;have:=dM h.g.ids (c.mem_iff.1 a) o;rw[this]at c;exact c.mem_iff.2 p
 have j:∀ n,it (sg m) n d=it (nx t) n d/\it (sg m) n d∈t:=fun n=>by
  induction n with
  |zero=>exact⟨rfl,a⟩
  |succ n l=>rw[bF,bF,<- l.1];exact⟨EC h b l.2,h.sg_mem b l.2⟩
 obtain⟨n,q⟩:=KN (h.nodup b) a f;exact⟨n,by rw[(j n).1,q]⟩
end
theorem yZ{R d:Int->Int->Prop}{b:Int->Int}:∀ {l:AN},(∀ x∈l,∀ y∈l,d (b x) (b y)↔R x y)->bg d (l.map b)=bg R l
 |[],_=>rfl
 |x::l,h=>by
  have e:=yZ (l:=l) fun y a z c=>h y (ar _ a) z (ar _ c);rw[ax];by_cases k:∃ y∈l,R y x
  .rw[aY k,aY,e];obtain⟨y,a,k⟩:=k;exact⟨b y,de a,(h y (ar _ a) x aw).2 k⟩
  .rw[aN k,aN,e];rintro⟨z,c,q⟩;obtain⟨y,a,rfl⟩:=aq.1 c;exact k ⟨y,a,(h y (ar _ a) x aw).1 q⟩
section
variable {D:List Int} {f f' κ:Int->Int} (hf:cD D f) (hk:∀ x∈D,∀ y∈D,κ x=κ y->x=y) (T9:∀ x∈D,f' (κ x)=κ (f x))
include hf hk T9
theorem zL{x y:Int}(c:x∈D)(d:y∈D):Orb f' (κ x) (κ y)↔Orb f x y:=by
 have a:∀ n,it f' n (κ x)=κ (it f n x)/\it f n x∈D:=fun n=>by
  induction n with
  |zero=>exact⟨rfl,c⟩
  |succ n b=>rw[bF,bF,b.1];exact⟨T9 _ b.2,hf.mem _ b.2⟩
 exact⟨fun⟨n,h⟩=>⟨n,hk _ (a n).2 _ d ((a n).1.symm.trans h)⟩,fun⟨n,h⟩=>⟨n,by rw[(a n).1,h]⟩⟩
theorem MB:∀ {P:List (Int×Int)},dU D P->∀ x∈D,ce f' (P.map fun p=>(κ p.1,κ p.2)) (κ x)=κ (ce f P x)
 |[],_,x,hx=>T9 x hx
 |p::P,hP,x,hx=>by
  have a:=hP p aw;show ce f' _ (Eu.sw (κ p.1) (κ p.2) (κ x))=κ (ce f P (Eu.sw p.1 p.2 x));have:Eu.sw (κ p.1) (κ p.2) (κ x)=κ (Eu.sw p.1 p.2 x)/\Eu.sw p.1 p.2 x∈D:=by
   have:=hk x hx p.1 a.1;have:=hk x hx p.2 a.2.1;unfold Eu.sw
   grind
  rw[this.1];exact MB (fun q b=>hP q (ar _ b)) _ this.2
theorem Lh:∀ {P:List (Int×Int)},dU D P->∀ x∈D,∀ y∈D,(cu (Orb f') (P.map fun p=>(κ p.1,κ p.2)) (κ x) (κ y)↔cu (Orb f) P x y)
 |[],_,x,hx,y,hy=>zL hf hk T9 hx hy
 |p::P,hP,x,hx,y,hy=>by have a:=Lh (P:=P) fun q c=>hP q (ar _ c);have b:=hP p aw;show Mg _ (κ p.1) (κ p.2) _ _↔Mg _ _ _ _ _;unfold Mg;rw[a x hx y hy,a x hx _ b.1,a _ b.2.1 y hy,a x hx _ b.2.1,a _ b.1 y hy]
theorem RC{P:List (Int×Int)}(a:dU D P)(h:Flat D f P):Flat (D.map κ) f' (P.map fun p=>(κ p.1,κ p.2)):=by have b:=fE hf P fun q b=>⟨(a q b).1,(a q b).2.1⟩;unfold Flat at *;rw[yZ (Lh hf hk T9 a),yZ fun x c y d=>zL hf hk T9 c d,yZ fun x c y d=>zL b hk (MB hf hk T9 a) c d,dh];exact h
end
def GL{E:List Ed}(H:BlE E){D:AN}{s:Int->Int}(r:cD D s)(δ:Int×Int->Int)(I:∀ p:Int×Int,(∃ e∈E,aj e=bp p)->δ p∈D)(S:∀ p q:Int×Int,(∃ e∈E,aj e=bp p)->(∃ e∈E,aj e=bp q)->δ p=δ q->p=q)
 (V:∀ p q:Int×Int,(∃ e∈E,aj e=bp p)->(∃ e∈E,aj e=bp q)->(Orb s (δ p) (δ q)↔p.1=q.1)) (hf:Flat D s (E.map fun e=>(δ (e.a,e.b),δ (e.b,e.a)))):∃ F P,PlD E F P/\∀ x∈P,x∈ci (cw E)\/x<0:=by
 have N:∀ p:Int×Int,(∃ e∈E,aj e=bp p)->(0<=p.1/\p.1<4194304)/\(0<=p.2/\p.2<4194304)/\p.1≠p.2:=fun p ⟨e,l,j⟩=>by
  have o:=dQ (x:=e.a) (y:=e.b) l rfl;have L:=H.bnd _ o.1;have B:=H.bnd _ o.2;have M:=H.ne e l;rcases aT j with⟨t,v⟩|⟨t,v⟩
  .rw[<- t,<- v];exact⟨L,B,M⟩
  .rw[<- t,<- v];exact⟨B,L,fD M⟩
 have A:∀ e∈E,(∃ f∈E,aj f=bp (e.a,e.b))/\∃ f∈E,aj f=bp (e.b,e.a):=fun e l=>⟨⟨e,l,rfl⟩,e,l,aG _ _⟩;obtain⟨c,C,T⟩:∃ c:Int->Int,(∀ p:Int×Int,(∃ e∈E,aj e=bp p)->c (δ p)=cd p)/\∀ d,(¬∃ p:Int×Int,(∃ e∈E,aj e=bp p)/\δ p=d)->c d=if 0<=d then -2*d-1 else 2*d:=by
  refine⟨fun d=>open Classical in if h:∃ p:Int×Int,(∃ e∈E,aj e=bp p)/\δ p=d then cd h.choose else if 0<=d then -2*d-1 else 2*d,fun p j=>?_,fun d g=>?_⟩
  .have h:∃ q:Int×Int,(∃ e∈E,aj e=bp q)/\δ q=δ p:=⟨p,j,rfl⟩;simp only[pj h];rw[S _ _ h.choose_spec.1 j h.choose_spec.2]
  .simp only[dif_neg g]
 have O:∀ d,(∃ p:Int×Int,(∃ e∈E,aj e=bp p)/\δ p=d/\c d=cd p/\0<=cd p)\/(c d=(if 0<=d then -2*d-1 else 2*d)/\c d<0):=fun d=>by
  by_cases h:∃ p:Int×Int,(∃ e∈E,aj e=bp p)/\δ p=d
  .obtain⟨p,j,rfl⟩:=h;have:=N p j;exact .inl ⟨p,j,rfl,C p j,by unfold cd;omega⟩
  .refine .inr ⟨T d h,?_⟩;rw[T d h];split<;>omega
 have m:∀ x∈D,∀ y∈D,c x=c y->x=y:=fun x _ y _ e=>by
  rcases O x with⟨p,j,rfl,o,L⟩|⟨o,L⟩<;>rcases O y with⟨q,w,rfl,B,M⟩|⟨B,M⟩
  .rw[dJ (N p j).2.1 (N q w).2.1 (o.symm.trans (e.trans B))]
  .omega
  .omega
  .rw[o,B]at e
   split at e<;>split at e<;>omega
 obtain⟨F,z,K⟩:∃ F:Int->Int,(∀ d∈D,F (c d)=c (s d))/\∀ x,x∉D.map c->F x=x:=by
  refine⟨fun x=>open Classical in if h:∃ d∈D,c d=x then c (s h.choose)else x,fun d g=>?_,fun x n=>?_⟩
  .have h:∃ e∈D,c e=c d:=⟨d,g,rfl⟩;simp only[pj h];rw[m _ h.choose_spec.1 d g h.choose_spec.2]
  .exact dif_neg fun⟨d,g,e⟩=>n (aq.2 ⟨d,g,e⟩)
 have U:dU D (E.map fun e=>(δ (e.a,e.b),δ (e.b,e.a))):=fun q w=>by obtain⟨e,l,rfl⟩:=aq.1 w;exact⟨I _ (A e l).1,I _ (A e l).2,fun k=>H.ne e l (congrArg Prod.fst (S _ _ (A e l).1 (A e l).2 k))⟩
 refine⟨F,D.map c,⟨H,⟨fun x n=>?_,fun x y e=>?_,K⟩,fun p j=>?_,fun p q j w=>?_,?_⟩,fun x n=>?_⟩
 .obtain⟨d,g,rfl⟩:=aq.1 n;rw[z d g];exact de (r.mem d g)
 .by_cases n:x∈D.map c<;>by_cases J:y∈D.map c
  .obtain⟨d,g,rfl⟩:=aq.1 n;obtain⟨R,Q,rfl⟩:=aq.1 J;rw[z d g,z R Q]at e;rw[r.inj _ _ (m _ (r.mem d g) _ (r.mem R Q) e)]
  .obtain⟨d,g,rfl⟩:=aq.1 n;rw[z d g,K y J]at e;exact absurd (e ▸ de (r.mem d g)) J
  .obtain⟨d,g,rfl⟩:=aq.1 J;rw[z d g,K x n]at e;exact absurd (e ▸ de (r.mem d g)) n
  .rw[K x n,K y J]at e;exact e
 .exact aq.2 ⟨δ p,I p j,C p j⟩
 .rw[<- C p j,<- C q w,zL r m z (I p j) (I q w)];exact V p q j w
 .have:=RC r m z U hf;have e:(E.map fun e=>(δ (e.a,e.b),δ (e.b,e.a))).map (fun p=>(c p.1,c p.2))=cw E:=by unfold cw;rw[dy];exact ii fun e l=>by simp only[Function.comp];rw[C _ (A e l).1,C _ (A e l).2]
  rwa [e]at this
 .obtain⟨d,g,rfl⟩:=aq.1 n;rcases O d with⟨p,⟨e,l,j⟩,_,o,_⟩|⟨_,h⟩
  .left;rw[o];refine bJ.2 ⟨_,de l,?_⟩;rcases aT j with⟨t,v⟩|⟨t,v⟩
   .exact .inl (by rw[t,v])
   .exact .inr (by rw[t,v])
  .exact .inr h
def jj(a:List Ed):List (Int×Int):=a.map fun e=>(2*e.id,2*e.id+1)
def Ms(a:List Ed):ci (jj a)=aW a:=by unfold ci jj aW;rw[List.flatMap_map]
section
variable {m:Mp} (h:bU m)
include h
theorem bU.sg_permOn:cD (aW m.g.E) (sg m):=⟨fun _=>h.sg_dart,fun _ _=>h.sg_inj,fun _=>h.sg_id⟩
theorem bU.prD_in{E:List Ed}(a:∀ e∈E,e∈m.g.E):dU (aW m.g.E) (jj E):=fun p c=>by obtain⟨e,b,rfl⟩:=aq.1 c;exact⟨dK.2 ⟨e,a e b,.inl rfl⟩,dK.2 ⟨e,a e b,.inr rfl⟩,by simp only;omega⟩
theorem bU.at_orb{v d e:Int}(a:d∈ends m.g.E v)(b:e∈ends m.g.E v):Orb (sg m) d e:=h.sg_orb a b
theorem bU.flat(P:Aw.gn m=0):Flat (aW m.g.E) (sg m) (jj m.g.E):=by
 have I:(ci (jj m.g.E)).Nodup:=by rw[Ms];exact iR (oN h.g.ids)
 have M:=h.gn;have N:=h.ncl_sg;have O:=h.ncl_parts;have f:=cU h.sg_permOn.per.eqv (jj m.g.E);have F:ce (sg m) (jj m.g.E)=fc m m.g.E:=funext fun d=>by
  unfold fc;by_cases k:d∈aW m.g.E
  .rw[DQ k];obtain⟨x,c,e⟩:=dK.1 k;have:=mT (sg m) I (2*x.id,2*x.id+1) (aq.2 ⟨x,c,rfl⟩);unfold tw;rcases e with rfl|rfl
   .rw[this.1,ad oO]
   .rw[this.2,ac oO];congr 1;omega
  .rw[tE k,oF];rintro p t;obtain⟨x,c,rfl⟩:=aq.1 t;exact⟨fun e=>k (dK.2 ⟨x,c,.inl e⟩),fun e=>k (dK.2 ⟨x,c,.inr e⟩)⟩
 have H:bg (cu (Orb (sg m)) (jj m.g.E)) (aW m.g.E)=bg (CC m) (aW m.g.E):=by
  refine dA fun x c y K=>⟨mS (CC.eqv h) (fun x y k=>?_) (fun p t=>?_) x y,fun k=>?_⟩
  .by_cases q:x∈aW m.g.E
   .obtain⟨n,rfl⟩:=k;obtain⟨v,C,_⟩:=GC q;exact .inr ⟨v,v,C,h.it_v C n,.refl⟩
   .obtain⟨n,rfl⟩:=k;have:it (sg m) n x=x:=by
     induction n with
     |zero=>rfl
     |succ n l=>rw[bF,l];exact h.sg_id q
    exact .inl this.symm
  .obtain⟨x,c,rfl⟩:=aq.1 t;exact .inr ⟨x.a,x.b,cH.2 ⟨x,c,.inl ⟨rfl,rfl⟩⟩,cH.2 ⟨x,c,.inr ⟨rfl,rfl⟩⟩,.step .refl (cN.2 ⟨x,c,.inl ⟨rfl,rfl⟩⟩)⟩
  .rcases k with rfl|⟨v,w,L,D,r⟩
   .exact f.refl _
   .have:∀ y,y∈ends m.g.E w->cu (Orb (sg m)) (jj m.g.E) x y:=by
     clear D K;induction r with
     |refl=>exact fun y o=>eW _ (h.at_orb L o)
     |@step u w r J l=>
      intro y o;obtain⟨e,j,k⟩:=cN.1 J;have B:=iB h.sg_permOn.per.eqv (jj m.g.E) (p:=(2*e.id,2*e.id+1)) (aq.2 ⟨e,j,rfl⟩);rcases k with⟨z,A⟩|⟨z,A⟩
      .have s:=l (2*e.id) (cH.2 ⟨e,j,.inl ⟨z,rfl⟩⟩);exact f.trans (f.trans s B) (eW _ (h.at_orb (cH.2 ⟨e,j,.inr ⟨A,rfl⟩⟩) o))
      .have s:=l (2*e.id+1) (cH.2 ⟨e,j,.inr ⟨z,rfl⟩⟩);exact f.trans (f.trans s (f.symm B)) (eW _ (h.at_orb (cH.2 ⟨e,j,.inl ⟨A,rfl⟩⟩) o))
    exact this y D
 unfold Flat;rw[F,H,show(jj m.g.E).length=m.g.E.length by unfold jj;rw[dh]];omega
theorem bU.plE(N:Aw.gn m=0){E:List Ed}(w:∀ e∈E,e∈m.g.E)(T:E.Nodup)(z:BlE E):∃ s,PlE E s:=by
 have l:=h.flat N;have B:(ci (jj m.g.E)).Nodup:=by rw[Ms];exact iR (oN h.g.ids)
 have A:m.g.E.Nodup:=h.g.ids.imp fun k e=>by rw[e]at k;omega
 obtain⟨R,L⟩:∃ R,m.g.E.Perm (R++E):=by
  refine⟨m.g.E.filter fun e=>decide (e∉E),(jn A ?_).2 fun e=>?_⟩
  .grind
  .grind
 have M:=Ak h.sg_permOn (Q:=jj R) (P:=jj E) (fun p j=>h.prD_in (fun e c=>c) p (by
  have:=(L.map fun e:Ed=>(2*e.id,2*e.id+1)).mem_iff (a:=p);rw[cr]at this
  exact this.2 j)) (Aw.kQ h.sg_permOn B (by have:=L.map fun e:Ed=>(2*e.id,2*e.id+1);rw[cr]at this;exact this) l)
 have o:∀ e∈E,∀ f∈E,aj e=aj f->e=f:=fun e c f hf k=>qP z.sim c hf k;obtain⟨δ,r⟩:∃ δ:Int×Int->Int,∀ e∈E,δ (e.a,e.b)=2*e.id/\δ (e.b,e.a)=2*e.id+1:=by
  refine⟨fun p=>match E.find? (fun e=>decide (aj e=bp p)) with
   |some e=>if p.1=e.a then 2*e.id else 2*e.id+1
   |none=>0,fun e c=>?_⟩
  have hf:∀ p:Int×Int,aj e=bp p->E.find? (fun e=>decide (aj e=bp p))=some e:=fun p j=>by
   cases F:E.find? (fun e=>decide (aj e=bp p)) with
   |none=>have:=qo.1 F e c;simp[j]at this
   |some f=>have t:=o0 F;simp only[ke]at t;rw[o f (ow F) e c (t.trans j.symm)]
  simp only;rw[hf _ rfl,hf (e.b,e.a) (aG _ _)];simp only;rw[ac (fD (z.ne e c))];exact⟨ad trivial,rfl⟩
 have d:∀ p:Int×Int,(∃ e∈E,aj e=bp p)->∃ e∈E,(p=(e.a,e.b)/\δ p=2*e.id\/p=(e.b,e.a)/\δ p=2*e.id+1)/\δ p∈ends m.g.E p.1:=fun p ⟨e,c,q⟩=>by
  obtain⟨u,v⟩:=p;rcases aT q with⟨H,I⟩|⟨H,I⟩
  .subst H I;exact⟨e,c,.inl ⟨rfl,(r e c).1⟩,cH.2 ⟨e,w e c,.inl ⟨rfl,(r e c).1⟩⟩⟩
  .subst H I;exact⟨e,c,.inr ⟨rfl,(r e c).2⟩,cH.2 ⟨e,w e c,.inr ⟨rfl,(r e c).2⟩⟩⟩
 obtain⟨s,D,t,_⟩:=GL z h.sg_permOn δ (fun p j=>by obtain⟨e,c,_,k⟩:=d p j;exact nR k) (fun p q j C k=>by
  obtain⟨e,c,x,_⟩:=d p j;obtain⟨f,hf,y,_⟩:=d q C;have:e.id=f.id:=oO;have:=id_eq h.g.ids (w e c) (w f hf) this;subst this;rcases x with⟨J,O⟩|⟨J,O⟩<;>rcases y with⟨K,S⟩|⟨K,S⟩
  .rw[J,K]
  .omega
  .omega
  .rw[J,K]) (fun p q j C=>by
  obtain⟨e,c,_,x⟩:=d p j;obtain⟨f,hf,_,y⟩:=d q C;constructor
  .rintro⟨n,B⟩;exact dM h.g.ids (h.it_v x n) (B ▸ y)
  .intro k
   exact h.at_orb x (k ▸ y)) (by
  have e:E.map (fun e=>(δ (e.a,e.b),δ (e.b,e.a)))=jj E:=ii fun e c=>by rw[(r e c).1,(r e c).2]
  rw[e];exact M)
 exact⟨s,D,t⟩
end
def Nx(s:Int->Int)(S:AN)(d e:Int):Prop:=∃ k,it s k d=e/\e∈S/\∀ j,j<k->it s j d∉S
section
variable {s:Int->Int} {S S':List Int} {d e e' n c:Int}
theorem Nx.here(h:d∈S):Nx s S d d:=⟨0,rfl,h,fun j a=>absurd a (tj j)⟩
theorem Nx.mem(h:Nx s S d e):e∈S:=by obtain⟨_,_,h,_⟩:=h;exact h
theorem Nx.orb(h:Nx s S d e):Orb s d e:=by obtain⟨k,h,_⟩:=h;exact⟨k,h⟩
theorem Nx.fn(h:Nx s S d e)(o:Nx s S d e'):e=e':=by
 obtain⟨k,a,f,g⟩:=h;obtain⟨l,b,j,m⟩:=o;rcases ni k l with h|h|h
 .exact absurd (by rw[a];exact f) (m k h)
 .rw[<- a,<- b,h]
 .exact absurd (by rw[b];exact j) (g l h)
theorem Nx.of_mem(a:d∈S)(h:Nx s S d e):e=d:=h.fn (.here a)
theorem Nx.up(g:d∉S)(h:Nx s S d e):Nx s S (s d) e:=by
 obtain⟨k,a,b,f⟩:=h;cases k with
 |zero=>exact absurd (by rw[show d=e from a];exact b) g
 |succ k=>exact⟨k,a,b,fun j l=>f (j+1) oO⟩
theorem Nx.ex{a:Int}(h:Orb s d a)(g:a∈S):∃ e,Nx s S d e:=by obtain⟨n,h⟩:=h;obtain⟨m,b,f⟩:=least (P:=fun k=>it s k d∈S) (n:=n) (by rw[h];exact g);exact⟨_,m,rfl,b,f⟩
theorem Nx.loop(h:Nx s S (s d) d)(g:e∈S)(k:Orb s d e):e=d:=by
 have f:∀ n z,Nx s S z d->Nx s S (it s n z) d:=by
  intro n;induction n with
  |zero=>intro z a;exact a
  |succ n l=>
   intro z a;refine l (s z) ?_;by_cases b:z∈S
   .rw[<- a.of_mem b];exact h
   .exact a.up b
 obtain⟨n,j⟩:=k;have:=f n d (.here h.mem);rw[j]at this;exact(this.of_mem g).symm
theorem Nx.cmp(g:∀ x y,s x=s y->x=y){z:Int}(h:Nx s S z e)(p:Nx s S d e):(∃ j,it s j z=d/\∀ i,i<j->it s i z∉S)\/∃ j,it s (j+1) d=z/\∀ i,i<j+1->it s i d∉S:=by
 obtain⟨k,b,q,m⟩:=h;obtain⟨l,f,r,o⟩:=p;by_cases t:l<=k
 .refine .inl ⟨k-l,KQ g l ?_,fun i a=>m i oO⟩;rw[<- lE,show l+(k-l)=k by omega,b,f]
 .refine .inr ⟨l-k-1,KQ g k ?_,fun i a=>o i oO⟩;rw[<- lE,show k+(l-k-1+1)=l by omega,b,f]
theorem Nx.same(b:∀ x,Orb s d x->(x∈S↔x∈S'))(h:Nx s S d e):Nx s S' d e:=by obtain⟨k,a,f,g⟩:=h;exact⟨k,a,(b e ⟨k,a⟩).1 f,fun j l h=>g j l ((b _ ⟨j,rfl⟩).2 h)⟩
end
section
variable {s:Int->Int} {S S':List Int} {n e0:Int} (hp:Per s) (hS:∀ x,Orb s n x->(x∈S'↔x∈S\/x=n)) (hn:n∉S) (h0:Nx s S n e0)
include hS h0
theorem Nx.back{d e:Int}(m:Orb s n d)(h:Nx s S' d e):(e=n/\Nx s S d e0)\/(e≠n/\Nx s S d e):=by
 obtain⟨k,b,o,p⟩:=h;have f:∀ j,j<k->it s j d∉S:=fun j g h=>p j g ((hS _ (m.trans ⟨j,rfl⟩)).2 (.inl h));by_cases a:e=n
 .refine .inl ⟨a,?_⟩;obtain⟨l,q,r,t⟩:=h0;refine⟨l+k,by rw[lE,b,a,q],r,fun j g=>?_⟩;by_cases c:j<k
  .exact f j c
  .have:it s j d=it s (j-k) n:=by rw[<- a,<- b,<- lE];congr 1;omega
   rw[this];exact t _ oO
 .exact .inr ⟨a,k,b,((hS e (m.trans ⟨k,b⟩)).1 o).resolve_right a,f⟩
include hp hn
theorem Nx.add_of:Nx s S' (s n) e0:=by
 have b:Nx s S (s n) e0:=h0.up hn;have a:Orb s n (s n):=Orb.step s n;have c:n∈S':=(hS n (Orb.refl s n)).2 (.inr rfl);obtain⟨f,hf⟩:=Nx.ex (S:=S') (Orb.symm hp a) c;rcases Nx.back hS h0 a hf with⟨rfl,_⟩|⟨_,k⟩
 .have:=hf.loop ((hS e0 h0.orb).2 (.inl h0.mem)) h0.orb;exact absurd (this ▸ h0.mem) hn
 .rw[b.fn k];exact hf
theorem Nx.add_at{c:Int}(p:c∈S)(r:Orb s n c)(h:Nx s S (s c) e0):Nx s S' (s c) n:=by
 have l:Orb s n (s c):=r.trans (Orb.step s c);have m:n∈S':=(hS n (Orb.refl s n)).2 (.inr rfl);obtain⟨f,hf⟩:=Nx.ex (S:=S') (Orb.symm hp l) m;rcases Nx.back hS h0 l hf with⟨rfl,_⟩|⟨o,k⟩
 .exact hf
 .have d:=h.fn k;subst d;exfalso;rcases Nx.cmp (fun x y=>hp.inj) h h0 with⟨j,b,e⟩|⟨j,b,e⟩
  .obtain⟨q,g,v,t⟩:=hf;rcases ni j q with a|a|a
   .exact t j a (by rw[b];exact m)
   .rw[<- a,b]at g;exact o g.symm
   .exact e q a (by rw[g];exact h0.mem)
  .have:it s j n=c:=by rw[bF]at b;exact hp.inj b
   exact e j oO (by rw[this];exact p)
theorem Nx.add_other{c e:Int}(g:Orb s n c)(h:Nx s S (s c) e)(b:e≠e0):Nx s S' (s c) e:=by
 have a:Orb s n (s c):=g.trans (Orb.step s c);have d:n∈S':=(hS n (Orb.refl s n)).2 (.inr rfl);obtain⟨f,hf⟩:=Nx.ex (S:=S') (Orb.symm hp a) d;rcases Nx.back hS h0 a hf with⟨rfl,k⟩|⟨_,k⟩
 .exact absurd (h.fn k) b
 .rw[h.fn k];exact hf
end
theorem fK:∀ {l:AN},l.Nodup->∀ {a b b':Int},(a,b)∈ae l->(a,b')∈ae l->b=b'
 |[],_,_,_,_,h,_=>by cases h
 |[_],_,_,_,_,h,_=>by cases h
 |x::y::l,hn,a,b,b',h,c=>by
  obtain⟨f,g⟩:=cb.1 hn;rcases ah.1 h with e|h
  .injection e with e1 e2;rcases ah.1 c with d|c
   .injection d with e3 e4;rw[e2,e4]
   .exact absurd (bE c).1 (by rw[e1];exact f)
  .rcases ah.1 c with d|c
   .injection d with e3 e4;exact absurd (bE h).1 (by rw[e3];exact f)
   .exact fK g h c
def qI{l:AN}{a b:Int}:(a,b)∈ae l↔(b,a)∈ae l.reverse:=by
 rw[Eo,jl,aq];constructor
 .intro h;exact⟨(a,b),h,rfl⟩
 .rintro⟨q,c,e⟩;have:q=(a,b):=by rw[<- kf q,e];rfl
  rw[<- this];exact c
def wZ{l:AN}(e:l.Nodup){a c b:Int}(h:(a,b)∈ae l)(d:(c,b)∈ae l):a=c:=
 fK (l:=l.reverse) ((jw l).nodup_iff.2 e) (qI.1 h) (qI.1 d)
def iP{x:Int}:∀ {l:AN} {a b:Int},(a,b)∈ae (x::l)->b∈l
 |[],_,_,h=>by cases h
 |y::l,a,b,h=>by
  rcases ah.1 h with e|h
  .injection e with _ e;rw[e];exact aw
  .exact(bE h).2
def eU{y:Int}{l:AN}{a b:Int}(h:(a,b)∈ae (l++[y])):a∈l:=by have:=qI.1 h;rw[yu,List.reverse_singleton,List.singleton_append]at this;simpa using iP this
def eH.perm{E:List Ed}{A B:List (Int×Int)}(h:eH E A)(a:A.Perm B):eH E B:=
 ⟨fun p k=>h.mem p (a.mem_iff.2 k),(a.map bp).nodup_iff.1 h.nd⟩
def eV{A:List (Int×Int)}{x:Int}:x∈ci (br A)↔∃ p,(p∈A\/p.swap∈A)/\x=cd p:=by
 rw[bJ];constructor
 .rintro⟨q,b,e⟩;obtain⟨p,a,rfl⟩:=aq.1 b;rcases e with e|e
  .exact⟨p,.inl a,e⟩
  .exact⟨p.swap,.inr (by rw[kf];exact a),e⟩
 .rintro⟨p,a|a,e⟩
  .exact⟨_,de a,.inl e⟩
  .exact⟨_,de a,.inr (by rw[kf];exact e)⟩
def Ec{F:List AN}(l:(PF F).Nodup){r b:AN}(j:r∈F)(f:b∈F){p:Int×Int}(h:p∈ao r)(g:p∈ao b):r=b:=by
 induction F with
 |nil=>cases j
 |cons t F m=>
  have a:(ao t++PF F).Nodup:=l;rw[bw]at a;rcases ah.1 j with e|k
  .rcases ah.1 f with c|d
   .rw[e,c]
   .exact absurd rfl (a.2.2 p (e ▸ h) p (aX.2 ⟨b,d,g⟩))
  .rcases ah.1 f with c|d
   .exact absurd rfl (a.2.2 p (c ▸ g) p (aX.2 ⟨r,k,h⟩))
   .exact m a.2.1 k d
structure Emb(E:List Ed)(s:Int->Int)(A:List (Int×Int))(F:List AN):Prop where
 nM:eH E A
 nd:(PF F).Nodup
 simple:∀ r∈F,r.Nodup
 mem:∀ p,p∈PF F↔p∈A\/p.swap∈A
 step:∀ r∈F,∀ u v w,(u,v)∈ao r->(v,w)∈ao r->Nx s (ci (br A)) (s (cd (v,u))) (cd (v,w))
 con:∀ x∈ci (br A),∀ y∈ci (br A),cu (Orb s) (br A) x y
def SdT(s:Int->Int)(A:List (Int×Int))(r:AN)(d:Int):Prop:=∃ p∈ao r,Nx s (ci (br A)) d (cd p)
section
variable {E:List Ed} {s:Int->Int} (hP:PlE E s)
include hP
theorem PlE.cdin{p q:Int×Int}(a:∃ e∈E,aj e=bp p)(b:∃ e∈E,aj e=bp q)(h:cd p=cd q):p=q:=
 dJ (hP.arc_bd a).2.1 (hP.arc_bd b).2.1 h
theorem PlE.orb{p q:Int×Int}(a:∃ e∈E,aj e=bp p)(b:∃ e∈E,aj e=bp q):Orb s (cd p) (cd q)↔p.1=q.1:=let ⟨_,k⟩:=hP;k.orb p q a b
theorem PlE.way:∀ {w:AN},(∀ u v,(u,v)∈ae w->∃ e∈E,aj e=ay u v)->Way s (br (ae w))
 |[],_=>trivial
 |[_],_=>trivial
 |[_,_],_=>trivial
 |a::b::c::l,h=>by have g:=PlE.way (w:=b::c::l) fun u v k=>h u v (ar _ k);refine⟨?_,g⟩;have d:=h a b aw;have f:=h b c (ar _ aw);exact(hP.orb (p:=(b,a)) (q:=(b,c)) (by rw[show bp (b,a)=ay a b from aG _ _];exact d) f).2 rfl
variable {A:List (Int×Int)} {F:List (List Int)} (hE:Emb E s A F)
include hE
omit hP in
theorem Emb.dart{x:Int}:x∈ci (br A)↔∃ p∈PF F,x=cd p:=by rw[eV];exact⟨fun⟨p,a,e⟩=>⟨p,(hE.mem p).2 a,e⟩,fun⟨p,a,e⟩=>⟨p,(hE.mem p).1 a,e⟩⟩
omit hP in
theorem Emb.sub{p:Int×Int}(h:p∈PF F):∃ e∈E,aj e=bp p:=by
 rcases(hE.mem p).1 h with h|h
 .exact hE.nM.mem p h
 .rw[<- fV];exact hE.nM.mem _ h
omit hP in
theorem Emb.swap{p:Int×Int}(h:p∈PF F):p.swap∈PF F:=by rw[hE.mem]at h ⊢;rw[kf];exact h.symm
theorem Emb.at_iff{p:Int×Int}(b:∃ e∈E,aj e=bp p):cd p∈ci (br A)↔p∈PF F:=by
 rw[hE.dart];constructor
 .rintro⟨q,a,e⟩;rw[hP.cdin b (hE.sub a) e];exact a
 .intro h;exact⟨p,h,rfl⟩
theorem Emb.closed{r:AN}(f:r∈F){d:Int}(h:SdT s A r d):SdT s A r (ce s (br A) d):=by
 obtain⟨p,a,j⟩:=h;by_cases b:d∈ci (br A)
 .have e:=j.of_mem b;rw[<- e];have c:p∈PF F:=aX.2 ⟨r,f,a⟩;have l:ce s (br A) (cd p)=s (cd p.swap):=by
   rcases(hE.mem p).1 c with k|k
   .exact(mT s (hP.fl_nd hE.nM) (cd p,cd p.swap) (aq.2 ⟨p,k,rfl⟩)).1
   .exact(mT s (hP.fl_nd hE.nM) (cd p.swap,cd p) (aq.2 ⟨p.swap,k,by rw[kf]⟩)).2
  rw[l];obtain⟨w,g⟩:=gX (pX (x:=p.1) (y:=p.2) a).2;exact⟨(p.2,w),g,hE.step r f p.1 p.2 w a g⟩
 .rw[oP s b];exact⟨p,a,j.up b⟩
theorem Emb.orb{r:AN}(c:r∈F){d a:Int}(h:SdT s A r d)(b:Orb (ce s (br A)) d a):SdT s A r a:=by
 obtain⟨n,rfl⟩:=b;induction n with
 |zero=>exact h
 |succ n e=>rw[bF];exact hE.closed hP c e
theorem Emb.ex{p:Int×Int}(c:∃ e∈E,aj e=bp p){u:Int}(b:(p.1,u)∈PF F):∃ r∈F,SdT s A r (cd p):=by obtain⟨e,a⟩:=Nx.ex (S:=ci (br A)) ((hP.orb c (hE.sub b)).2 rfl) (hE.dart.2 ⟨_,b,rfl⟩);obtain⟨q,d,rfl⟩:=hE.dart.1 a.mem;obtain⟨r,f,k⟩:=aX.1 d;exact⟨r,f,q,k,a⟩
theorem Emb.fn{r a:AN}(g:r∈F)(c:a∈F){d:Int}(h:SdT s A r d)(j:SdT s A a d):r=a:=by obtain⟨p,e,k⟩:=h;obtain⟨q,f,l⟩:=j;have b:=hP.cdin (hE.sub (aX.2 ⟨r,g,e⟩)) (hE.sub (aX.2 ⟨a,c,f⟩)) (k.fn l);subst b;exact Ec hE.nd g c e f
theorem Emb.here{r:AN}(c:r∈F){p:Int×Int}(b:∃ e∈E,aj e=bp p)(h:SdT s A r (cd p)):p.1∈r:=by obtain⟨q,a,d⟩:=h;rw[(hP.orb b (hE.sub (aX.2 ⟨r,c,a⟩))).1 d.orb];exact(pX (x:=q.1) (y:=q.2) a).1
structure WyE(E:List Ed)(F:List AN)(x y:Int)(M:AN):Prop where
 nd:(x::(M++[y])).Nodup
 ed:∀ u v,(u,v)∈ae (x::(M++[y]))->∃ e∈E,aj e=ay u v
 new:∀ p,p∈ae (x::(M++[y]))->p∉PF F
 off:∀ v∈M,∀ u,(v,u)∉PF F
 onx:∃ u,(x,u)∈PF F
 ony:∃ u,(y,u)∈PF F
omit hP in
theorem Emb.arcs_way{x y:Int}{M:AN}(g:WyE E F x y M):eH E (ae (x::(M++[y]))++A):=by
 refine⟨fun p f=>?_,?_⟩
 .rcases an.1 f with h|h
  .exact g.ed p.1 p.2 h
  .exact hE.nM.mem p h
 .rw[cr,bw];refine⟨?_,hE.nM.nd,fun a k b l e=>?_⟩
  .have:=fG g.nd;rw[dZ]at this;exact this
  .obtain⟨p,f,rfl⟩:=aq.1 k;obtain⟨q,j,rfl⟩:=aq.1 l;refine g.new p f ((hE.mem p).2 ?_);rcases aT e with⟨c,d⟩|⟨c,d⟩
   .exact .inl (by rw[show p=q from io c d];exact j)
   .exact .inr (by rw[show p.swap=q from io d c];exact j)
theorem Emb.wayT{x y:Int}{M:AN}(g:WyE E F x y M){u t:Int}(R:(x,u)∈ae (x::(M++[y])))(L:(t,y)∈ae (x::(M++[y]))){r:AN}(hr:r∈F)(h:SdT s A r (cd (x,u))):SdT s A r (cd (y,t)):=by
 have hA:=hE.arcs_way g;obtain⟨N,H,hN⟩:∃ N H,x::M=N++[H]:=⟨(x::M).dropLast,(x::M).getLast sS,(qe _).symm⟩;have I:ae (x::(M++[y]))=ae (x::M)++[(H,y)]:=by rw[<- List.cons_append,hN,dz];exact eY H [y] N
 have O:t=H:=wZ g.nd L (by rw[I];simp);subst O;have u6:(ae (x::(M++[y]))++A).Perm ((t,y)::(ae (x::M)++A)):=by rw[I,dz];exact lk
 have l:=hA.perm u6;have V:=(cb.1 g.nd).1;have W:y∉M:=fun k=>by have:=(bw.1 (cb.1 g.nd).2).2.2 y k y sS;exact this rfl
 have U:x∉M:=fun k=>V (cX _ k);have c:∀ p,p∈ae (x::(M++[y]))->∃ e∈E,aj e=bp p:=fun p j=>g.ed p.1 p.2 j;have f:∀ p,(∃ e∈E,aj e=bp p)->km s (br (ae (x::M))) (cd p)->p.1∈M:=by
  rintro p j ⟨q,hq,ho⟩;obtain⟨a,Y,rfl⟩:=aq.1 hq;have K:∃ e∈E,aj e=bp a.swap:=by rw[fV];exact c a (by rw[I];exact cX _ Y)
  rw[<- (hP.orb K j).1 ho];exact iP (a:=a.1) (b:=a.2) Y
 obtain⟨ux,o⟩:=g.onx;obtain⟨uy,v⟩:=g.ony;have B:=c _ R;have C:∃ e∈E,aj e=bp (y,t):=by rw[show bp (y,t)=bp (t,y) from aG _ _];exact c _ L
 have n:=cU hP.per.eqv (br A);obtain⟨D,J⟩:=id hP;refine hE.orb hP hr h (GY (z:=(cd (t,y),cd (y,t))) (Q:=br (ae (x::M))) J.perm ?_ ?_ (fun d hd k=>?_) (fun k=>?_) ?_ (fun k=>?_) ?_ ?_)
 .have:=hP.fl_nd l;have e:br ((t,y)::(ae (x::M)++A))=(cd (t,y),cd (y,t))::(br (ae (x::M))++br A):=by unfold br;rw[ax,cr];rfl
  rw[<- e];exact this
 .have:=hP.way (w:=x::(M++[y])) g.ed;rw[I]at this;have e:br (ae (x::M)++[(t,y)])=br (ae (x::M))++[(cd (t,y),cd (y,t))]:=by unfold br;rw[cr];rfl
  rw[<- e];exact this
 .obtain⟨p,j,rfl⟩:=hE.dart.1 hd;exact g.off _ (f p (hE.sub j) k) p.2 j
 .exact W (f (y,t) C k)
 .cases X:M with
  |nil=>
   subst X;have T:u=y:=by
    rcases ah.1 R with e|e
    .injection e with _ e
    .cases e
   have P:t=x:=by
    rcases ah.1 L with e|e
    .injection e with e _
    .cases e
   exact .inl ⟨rfl,by rw[T,P]⟩
  |cons m Z=>subst X;have S:u=m:=fK g.nd R (by simp[ae]);exact .inr ⟨(cd (x,m),cd (m,x)),br (ae (m::Z)),rfl,by rw[S]⟩
 .exact U (f (x,u) B k)
 .have:=hP.face l;have e:br (ae (x::M)++A)=br (ae (x::M))++br A:=by unfold br;rw[cr]
  rw[e]at this;exact this
 .refine n.trans (eW _ ((hP.orb B (hE.sub o)).2 rfl)) (n.trans (hE.con _ (hE.dart.2 ⟨_,o,rfl⟩) _ (hE.dart.2 ⟨_,v,rfl⟩)) (eW _ ((hP.orb (hE.sub v) C).2 rfl)))
end
def cC{x y:Int}{P Q:AN}{p:Int×Int}:p∈ao (x::(P++y::Q))↔p∈ae (x::(P++[y]))\/p∈ae (y::(Q++[x])):=by have:=(vG x y P Q []).mem_iff (a:=p);rw[an]at this;exact this
def oR{x y:Int}{M:AN}{a b:Int}:(a,b)∈ae (y::(M.reverse++[x]))↔(b,a)∈ae (x::(M++[y])):=by have e:y::(M.reverse++[x])=(x::(M++[y])).reverse:=sS;rw[e];exact qI.symm
section
variable {E:List Ed} {s:Int->Int} (hP:PlE E s) {A:List (Int×Int)} {F:List (List Int)} {x y:Int} {P Q M:List Int}
 (hE:Emb E s A ((x::(P++y::Q))::F)) (hw:WyE E ((x::(P++y::Q))::F) x y M) {u t:Int} (hu:(x,u)∈ae (x::(M++[y]))) (ht:(t,y)∈ae (x::(M++[y])))
include hE hw
theorem CF:x∉M/\y∉M/\x≠y:=by obtain⟨a,b⟩:=cb.1 hw.nd;refine⟨fun k=>a (cX _ k),fun k=>(bw.1 b).2.2 y k y sS rfl,fun e=>a (by rw[e];simp)⟩
theorem Et{v:Int}(h:v∈M):v∉x::(P++y::Q):=fun k=>by obtain⟨z,a⟩:=gX k;exact hw.off v h z (aX.2 ⟨_,aw,a⟩)
theorem tZ:x∉P/\y∉P/\x∉Q/\y∉Q/\(∀ v∈P,v∉Q)/\(x::(P++[y])).Nodup/\(y::(Q++[x])).Nodup:=by
 have h:=hE.simple _ aw;obtain⟨c,p⟩:=cb.1 h;obtain⟨q,r,n⟩:=bw.1 p;obtain⟨o,w⟩:=cb.1 r;have g:x∉P:=fun k=>c (cX _ k);have j:y∉P:=fun k=>n y k y sS rfl;have l:x∉Q:=fun k=>c (dv _ (ar _ k));have m:x≠y:=fun e=>c (by rw[e];simp);refine⟨g,j,l,o,fun v z k=>n v z v (ar _ k) rfl,?_,?_⟩
 .refine cb.2 ⟨fun k=>?_,bw.2 ⟨q,sS,fun a d b f e=>?_⟩⟩
  .rcases an.1 k with k|k
   .exact g k
   .exact m (bf.1 k)
  .rw[bf.1 f]at e;exact j (e ▸ d)
 .refine cb.2 ⟨fun k=>?_,bw.2 ⟨w,sS,fun a d b f e=>?_⟩⟩
  .rcases an.1 k with k|k
   .exact o k
   .exact m (bf.1 k).symm
  .rw[bf.1 f]at e;exact l (e ▸ d)
theorem zC(p:Int×Int):p∈PF ((x::(P++y::M.reverse))::(y::(Q++x::M))::F)↔p∈PF ((x::(P++y::Q))::F)\/p∈ae (x::(M++[y]))\/p.swap∈ae (x::(M++[y])):=by
 have e:∀(r:AN) (F:List AN),p∈PF (r::F)↔p∈ao r\/p∈PF F:=fun r F=>by unfold PF;rw[ec,an]
 rw[e,e,e,cC,cC,cC,show(p∈ae (y::(M.reverse++[x]))↔p.swap∈ae (x::(M++[y]))) from oR (a:=p.1) (b:=p.2)];constructor
 .rintro((h|h)|(h|h)|h)
  .exact .inl (.inl (.inl h))
  .exact .inr (.inr h)
  .exact .inl (.inl (.inr h))
  .exact .inr (.inl h)
  .exact .inl (.inr h)
 .rintro(((h|h)|h)|h|h)
  .exact .inl (.inl h)
  .exact .inr (.inl (.inl h))
  .exact .inr (.inr h)
  .exact .inr (.inl (.inr h))
  .exact .inl (.inr h)
theorem oE{p:Int×Int}(h:p∈ae (x::(M++[y]))\/p.swap∈ae (x::(M++[y]))):p∉PF ((x::(P++y::Q))::F):=fun k=>by
 rcases h with h|h
 .exact hw.new p h k
 .exact hw.new _ h (hE.swap k)
theorem Xy:(PF ((x::(P++y::M.reverse))::(y::(Q++x::M))::F)).Nodup:=by
 have j:(PF ((x::(P++y::M.reverse))::(y::(Q++x::M))::F)).Perm ((ae (x::(M++[y]))++ae (y::(M.reverse++[x])))++PF ((x::(P++y::Q))::F)):=by have f:=(vG x y P M.reverse []).count_eq;have g:=(vG y x Q M []).count_eq;have h:=(vG x y P Q []).count_eq;refine yt.2 fun z=>?_;have m:=f z;have n:=g z;have o:=h z;unfold PF;simp only[List.nil_append,ec,List.count_append]at *;omega
 rw[j.nodup_iff,bw,bw];obtain⟨k,l⟩:=dL hw.nd;refine⟨⟨k,?_,fun a c b d e=>?_⟩,hE.nd,fun a c b d e=>?_⟩
 .have:(y::(M.reverse++[x])).Nodup:=by have e:y::(M.reverse++[x])=(x::(M++[y])).reverse:=sS;rw[e];exact(jw _).nodup_iff.2 hw.nd
  exact(dL this).1
 .subst e;exact(l a.1 a.2 c).2 (oR.1 d)
 .subst e;refine oE hE hw ?_ d;rcases an.1 c with c|c
  .exact .inl c
  .exact .inr (oR (a:=a.1) (b:=a.2).1 c)
theorem Xf{p:Int×Int}(h:p∈ae (x::(M++[y]))\/p.swap∈ae (x::(M++[y]))):p.1∈x::(M++[y]):=by
 rcases h with h|h
 .exact(bE (x:=p.1) (y:=p.2) h).1
 .exact(bE (x:=p.2) (y:=p.1) h).2
include hP hu ht
theorem Fz{p:Int×Int}(c:∃ e∈E,aj e=bp p):cd p∈ci (br (ae (x::(M++[y]))++A))↔p∈PF ((x::(P++y::Q))::F)\/p∈ae (x::(M++[y]))\/p.swap∈ae (x::(M++[y])):=by
 rw[eV,hE.mem];simp only[an];constructor
 .rintro⟨q,b,e⟩;have a:∃ e∈E,aj e=bp q:=by
   rcases b with(h|h)|h|h
   .exact hw.ed q.1 q.2 h
   .exact hE.nM.mem q h
   .rw[<- fV];exact hw.ed q.2 q.1 h
   .rw[<- fV];exact hE.nM.mem _ h
  rw[hP.cdin c a e];rcases b with(h|h)|h|h
  .exact .inr (.inl h)
  .exact .inl (.inl h)
  .exact .inr (.inr h)
  .exact .inl (.inr h)
 .rintro((h|h)|h|h)
  .exact⟨p,.inl (.inr h),rfl⟩
  .exact⟨p,.inr (.inr h),rfl⟩
  .exact⟨p,.inl (.inl h),rfl⟩
  .exact⟨p,.inr (.inl h),rfl⟩
theorem Cb{p:Int×Int}(h:p∈PF ((x::(P++y::Q))::F)\/p∈ae (x::(M++[y]))\/p.swap∈ae (x::(M++[y]))):∃ e∈E,aj e=bp p:=by
 rcases h with h|h|h
 .exact hE.sub h
 .exact hw.ed p.1 p.2 h
 .rw[<- fV];exact hw.ed p.2 p.1 h
theorem HI{p:Int×Int}(f:∃ e∈E,aj e=bp p)(g:p.1∉x::(M++[y])):∀ z,Orb s (cd p) z->(z∈ci (br A)↔z∈ci (br (ae (x::(M++[y]))++A))):=by
 intro z j;constructor
 .intro h;obtain⟨q,a,rfl⟩:=hE.dart.1 h;exact(Fz hP hE hw hu ht (hE.sub a)).2 (.inl a)
 .intro h;obtain⟨q,a,rfl⟩:=eV.1 h;have b:q∈PF ((x::(P++y::Q))::F)\/q∈ae (x::(M++[y]))\/q.swap∈ae (x::(M++[y])):=by
   rw[hE.mem];simp only[an]at a;rcases a with(k|k)|k|k
   .exact .inr (.inl k)
   .exact .inl (.inl k)
   .exact .inr (.inr k)
   .exact .inl (.inr k)
  have c:=Cb hP hE hw hu ht b;have d:=(hP.orb f c).1 j;rcases b with k|k
  .exact hE.dart.2 ⟨q,k,rfl⟩
  .exact absurd (Xf hE hw k) (by rw[<- d];exact g)
theorem LQ:∀ z,Orb s (cd (x,u)) z->(z∈ci (br (ae (x::(M++[y]))++A))↔z∈ci (br A)\/z=cd (x,u)):=by
 intro z l;obtain⟨m,o,n⟩:=CF hE hw;have d:=hw.ed x u hu;constructor
 .intro h;obtain⟨q,c,rfl⟩:=eV.1 h;simp only[an]at c
  have g:∃ e∈E,aj e=bp q:=Cb hP hE hw hu ht (by
   rw[hE.mem];rcases c with(k|k)|k|k
   .exact .inr (.inl k)
   .exact .inl (.inl k)
   .exact .inr (.inr k)
   .exact .inl (.inr k))
  have f:x=q.1:=(hP.orb (p:=(x,u)) d g).1 l;rcases c with(k|k)|k|k
  .have:(x,q.2)∈ae (x::(M++[y])):=by rw[f]at k ⊢;exact k
   have j:=fK hw.nd this hu;exact .inr (by rw[show q=(x,u) from io f.symm j])
  .exact .inl (eV.2 ⟨q,.inl k,rfl⟩)
  .have:=iP (a:=q.2) (b:=q.1) k;rw[<- f]at this;rcases an.1 this with h|h
   .exact absurd h m
   .exact absurd (bf.1 h) n
  .exact .inl (eV.2 ⟨q,.inr k,rfl⟩)
 .rintro(h|rfl)
  .obtain⟨q,c,rfl⟩:=eV.1 h;refine eV.2 ⟨q,?_,rfl⟩;simp only[an];exact c.imp .inr .inr
  .exact(Fz hP hE hw hu ht (p:=(x,u)) d).2 (.inr (.inl hu))
theorem Kv:∀ z,Orb s (cd (y,t)) z->(z∈ci (br (ae (x::(M++[y]))++A))↔z∈ci (br A)\/z=cd (y,t)):=by
 intro z n;obtain⟨v,o,r⟩:=CF hE hw;have d:∃ e∈E,aj e=bp (y,t):=by rw[show bp (y,t)=bp (t,y) from aG _ _];exact hw.ed t y ht
 constructor
 .intro h;obtain⟨q,c,rfl⟩:=eV.1 h;simp only[an]at c
  have g:∃ e∈E,aj e=bp q:=Cb hP hE hw hu ht (by
   rw[hE.mem];rcases c with(k|k)|k|k
   .exact .inr (.inl k)
   .exact .inl (.inl k)
   .exact .inr (.inr k)
   .exact .inl (.inr k))
  have f:y=q.1:=(hP.orb (p:=(y,t)) d g).1 n;rcases c with(k|k)|k|k
  .have:=eU (y:=y) (l:=x::M) (a:=q.1) (b:=q.2) k;rw[<- f]at this;rcases ah.1 this with h|h
   .exact absurd h.symm r
   .exact absurd h o
  .exact .inl (eV.2 ⟨q,.inl k,rfl⟩)
  .have j:(q.2,y)∈ae (x::(M++[y])):=by rw[show(q.2,y)=q.swap from io rfl f];exact k
   have m:=wZ hw.nd j ht;exact .inr (by rw[show q=(y,t) from io f.symm m])
  .exact .inl (eV.2 ⟨q,.inr k,rfl⟩)
 .rintro(h|rfl)
  .obtain⟨q,c,rfl⟩:=eV.1 h;refine eV.2 ⟨q,?_,rfl⟩;simp only[an];exact c.imp .inr .inr
  .exact(Fz hP hE hw hu ht d).2 (.inr (.inr ht))
theorem Md{v a b:Int}(H:v∈M)(d:((a,v)∈ae (x::(M++[y]))/\(v,b)∈ae (x::(M++[y])))\/((v,a)∈ae (x::(M++[y]))/\(b,v)∈ae (x::(M++[y])))):
 Nx s (ci (br (ae (x::(M++[y]))++A))) (s (cd (v,a))) (cd (v,b)):=by
 have K:a≠b:=fun e=>by
  subst e;rcases d with⟨r,w⟩|⟨r,w⟩
  .exact((dL hw.nd).2 _ _ r).2 w
  .exact((dL hw.nd).2 _ _ r).2 w
 have I:(v,a)∈ae (x::(M++[y]))\/(v,a).swap∈ae (x::(M++[y])):=d.elim (fun k=>.inr k.1) fun k=>.inl k.1;have C:(v,b)∈ae (x::(M++[y]))\/(v,b).swap∈ae (x::(M++[y])):=d.elim (fun k=>.inl k.2) fun k=>.inr k.2;have j:=Cb hP hE hw hu ht (.inr I);have l:=Cb hP hE hw hu ht (.inr C);have B:=(Fz hP hE hw hu ht l).2 (.inr C);have g:Orb s (cd (v,a)) (cd (v,b)):=(hP.orb j l).2 rfl;have J:Orb s (s (cd (v,a))) (cd (v,b)):=(Orb.symm hP.per (Orb.step s _)).trans g;obtain⟨f,hf⟩:=Nx.ex J B;obtain⟨q,m,rfl⟩:=eV.1 hf.mem;simp only[an]at m
 have o:∃ e∈E,aj e=bp q:=Cb hP hE hw hu ht (by
  rw[hE.mem];rcases m with(k|k)|k|k
  .exact .inr (.inl k)
  .exact .inl (.inl k)
  .exact .inr (.inr k)
  .exact .inl (.inr k))
 have c:v=q.1:=(hP.orb (p:=(v,a)) j o).1 ((Orb.step s _).trans hf.orb);have z:q∉PF ((x::(P++y::Q))::F):=fun k=>hw.off v H q.2 (by rw[c];exact k);rw[hE.mem]at z;have D:q∈ae (x::(M++[y]))\/q.swap∈ae (x::(M++[y])):=by
  rcases m with(k|k)|k|k
  .exact .inl k
  .exact absurd (.inl k) z
  .exact .inr k
  .exact absurd (.inr k) z
 have n:q.2=a\/q.2=b:=by
  rcases D with k|k
  .have k:(v,q.2)∈ae (x::(M++[y])):=by rw[c];exact k
   rcases d with h|h
   .exact .inr (fK hw.nd k h.2)
   .exact .inl (fK hw.nd k h.1)
  .have k:(q.2,v)∈ae (x::(M++[y])):=by rw[c];exact k
   rcases d with h|h
   .exact .inl (wZ hw.nd k h.1)
   .exact .inr (wZ hw.nd k h.2)
 rcases n with h|h
 .have e:q=(v,a):=io c.symm h;rw[e]at hf;have:=hf.loop B g;exact absurd (congrArg Prod.snd (hP.cdin l j this)).symm K
 .have e:q=(v,b):=io c.symm h;rw[<- e];exact hf
end
section
variable {E:List Ed} {s:Int->Int} (hP:PlE E s) {A:List (Int×Int)} {F:List (List Int)} {x y:Int} {P Q M:List Int}
 (hE:Emb E s A ((x::(P++y::Q))::F)) (hw:WyE E ((x::(P++y::Q))::F) x y M) {u t:Int} (hu:(x,u)∈ae (x::(M++[y]))) (ht:(t,y)∈ae (x::(M++[y])))
include hP hE hw hu ht
theorem xB:∃ e∈E,aj e=bp (y,t):=by rw[show bp (y,t)=bp (t,y) from aG _ _];exact hw.ed t y ht
theorem LM:cd (x,u)∉ci (br A):=fun k=>oE hE hw (.inl hu) ((hE.at_iff hP (p:=(x,u)) (hw.ed x u hu)).1 k)
theorem Ml:cd (y,t)∉ci (br A):=fun k=>oE hE hw (p:=(y,t)) (.inr ht) ((hE.at_iff hP (xB hP hE hw hu ht)).1 k)
theorem QA(j:SdT s A (x::(P++y::Q)) (cd (x,u))):∃ b,(x,b)∈ae (x::(P++[y]))/\Nx s (ci (br A)) (cd (x,u)) (cd (x,b)):=by
 obtain⟨p,c,g⟩:=j;have d:p∈PF ((x::(P++y::Q))::F):=aX.2 ⟨_,aw,c⟩;have e:x=p.1:=(hP.orb (p:=(x,u)) (hw.ed x u hu) (hE.sub d)).1 g.orb;obtain⟨n,o,m,q,r,v,w⟩:=tZ hE hw;have f:p=(x,p.2):=io e.symm rfl;refine⟨p.2,?_,f ▸ g⟩;rw[cC]at c;rcases c with h|h
 .rw[<- f];exact h
 .have:=eU (y:=x) (l:=y::Q) (a:=p.1) (b:=p.2) h;rw[<- e]at this;rcases ah.1 this with k|k
  .exact absurd k (CF hE hw).2.2
  .exact absurd k m
theorem RW(j:SdT s A (x::(P++y::Q)) (cd (x,u))):∃ b,(y,b)∈ae (y::(Q++[x]))/\Nx s (ci (br A)) (cd (y,t)) (cd (y,b)):=by
 obtain⟨p,c,g⟩:=hE.wayT hP hw hu ht aw j;have d:p∈PF ((x::(P++y::Q))::F):=aX.2 ⟨_,aw,c⟩;have e:y=p.1:=(hP.orb (p:=(y,t)) (xB hP hE hw hu ht) (hE.sub d)).1 g.orb;obtain⟨n,m,o,q,r,v,w⟩:=tZ hE hw;have f:p=(y,p.2):=io e.symm rfl;refine⟨p.2,?_,f ▸ g⟩;rw[cC]at c;rcases c with h|h
 .have:=eU (y:=y) (l:=x::P) (a:=p.1) (b:=p.2) h;rw[<- e]at this;rcases ah.1 this with k|k
  .exact absurd k.symm (CF hE hw).2.2
  .exact absurd k m
 .rw[<- f];exact h
variable {bx by':Int} (Y1:(x,bx)∈ae (x::(P++[y]))) (Y2:(y,by')∈ae (y::(Q++[x]))) (hx:Nx s (ci (br A)) (cd (x,u)) (cd (x,bx))) (hy:Nx s (ci (br A)) (cd (y,t)) (cd (y,by')))
include Y1 Y2 hx hy
theorem WA:(x,bx)∈PF ((x::(P++y::Q))::F)/\(y,by')∈PF ((x::(P++y::Q))::F):=
 ⟨aX.2 ⟨_,aw,cC.2 (.inl Y1)⟩,aX.2 ⟨_,aw,cC.2 (.inr Y2)⟩⟩
theorem Uk{r:AN}(h:r∈(x::(P++y::Q))::F){a v b:Int}(k:(a,v)∈ao r)(l:(v,b)∈ao r)(nx:(v,b)≠(x,bx))(q:(v,b)≠(y,by')):
 Nx s (ci (br (ae (x::(M++[y]))++A))) (s (cd (v,a))) (cd (v,b)):=by
 have g:=hE.step r h a v b k l;have f:(v,a)∈PF ((x::(P++y::Q))::F):=hE.swap (aX.2 ⟨r,h,k⟩);have j:(v,b)∈PF ((x::(P++y::Q))::F):=aX.2 ⟨r,h,l⟩;have d:=hE.sub f;obtain⟨m,n⟩:=WA hP hE hw hu ht Y1 Y2 hx hy;by_cases c:v∈x::(M++[y])
 .rcases ah.1 c with rfl|c
  .exact Nx.add_other hP.per (LQ hP hE hw hu ht) (LM hP hE hw hu ht) hx ((hP.orb (p:=(v,u)) (hw.ed v u hu) d).2 rfl) g fun e=>nx (hP.cdin (hE.sub j) (hE.sub m) e)
  .rcases an.1 c with c|c
   .exact absurd f (hw.off v c a)
   .have:=bf.1 c;subst this;exact Nx.add_other hP.per (Kv hP hE hw hu ht) (Ml hP hE hw hu ht) hy ((hP.orb (xB hP hE hw hu ht) d).2 rfl) g fun e=>q (hP.cdin (hE.sub j) (hE.sub n) e)
 .exact g.same fun z o=>HI hP hE hw hu ht (p:=(v,a)) d c z ((Orb.step s _).trans o)
theorem Qm{r:AN}(o:r∈(x::(P++y::M.reverse))::(y::(Q++x::M))::F){a v b:Int}(d:(a,v)∈ao r)(c:(v,b)∈ao r):
 Nx s (ci (br (ae (x::(M++[y]))++A))) (s (cd (v,a))) (cd (v,b)):=by
 obtain⟨b1,b2⟩:=WA hP hE hw hu ht Y1 Y2 hx hy;obtain⟨U,V,W,X,r5,Y,Z⟩:=tZ hE hw;obtain⟨m1,m2,B⟩:=CF hE hw;have I:=fun v=>Et hE hw (v:=v);have g:x::(P++y::Q)∈(x::(P++y::Q))::F:=aw;have z:=fun(r:AN) o a v b d c=>Uk hP hE hw hu ht Y1 Y2 hx hy (r:=r) o (a:=a) (v:=v) (b:=b) d c;have D:=LM hP hE hw hu ht;have H:=Ml hP hE hw hu ht
 have R:∀ a,(a,x)∈PF ((x::(P++y::Q))::F)->(a,x)∈ao (x::(P++y::Q))->Nx s (ci (br (ae (x::(M++[y]))++A))) (s (cd (x,a))) (cd (x,u)):=fun a C L=>
  Nx.add_at hP.per (LQ hP hE hw hu ht) D hx (hE.dart.2 ⟨_,hE.swap C,rfl⟩) ((hP.orb (p:=(x,u)) (hw.ed x u hu) (hE.sub (hE.swap C))).2 rfl) (hE.step _ g a x bx L (cC.2 (.inl Y1)))
 have S:∀ a,(a,y)∈PF ((x::(P++y::Q))::F)->(a,y)∈ao (x::(P++y::Q))->Nx s (ci (br (ae (x::(M++[y]))++A))) (s (cd (y,a))) (cd (y,t)):=fun a C L=>
  Nx.add_at hP.per (Kv hP hE hw hu ht) H hy (hE.dart.2 ⟨_,hE.swap C,rfl⟩) ((hP.orb (xB hP hE hw hu ht) (hE.sub (hE.swap C))).2 rfl) (hE.step _ g a y by' L (cC.2 (.inr Y2)))
 have N:=Nx.add_of hP.per (LQ hP hE hw hu ht) D hx;have O:=Nx.add_of hP.per (Kv hP hE hw hu ht) H hy;rcases ah.1 o with rfl|o
 .rw[cC]at d c;rcases d with d|d
  .have j:=iP d;rcases c with c|c
   .have h:=eU (y:=y) (l:=x::P) c;refine z _ g a v b (cC.2 (.inl d)) (cC.2 (.inl c)) (fun e=>?_) fun e=>?_
    .have e:v=x:=congrArg Prod.fst e;subst e;rcases an.1 j with k|k
     .exact U k
     .exact B (bf.1 k)
    .have e:v=y:=congrArg Prod.fst e;subst e;rcases ah.1 h with k|k
     .exact B k.symm
     .exact V k
   .have m:=oR.1 c;have h:=iP m;have w:v=y:=by
     rcases an.1 h with k|k
     .rcases an.1 j with f|f
      .exact absurd (ar _ (cX _ f)) (I v k)
      .exact bf.1 f
     .exact bf.1 k
    subst w;rw[wZ hw.nd m ht];exact S a (aX.2 ⟨_,g,cC.2 (.inl d)⟩) (cC.2 (.inl d))
  .have n:=oR.1 d;rcases c with c|c
   .have j:=eU (y:=y) (l:=x::M) n;have h:=eU (y:=y) (l:=x::P) c;have q:v=x:=by
     rcases ah.1 j with k|k
     .exact k
     .rcases ah.1 h with f|f
      .exact f
      .exact absurd (ar _ (cX _ f)) (I v k)
    subst q;rw[fK hw.nd n hu,fK Y c Y1];exact N
   .have m:=oR.1 c;have j:=eU (y:=y) (l:=x::M) n;have h:=iP m;have K:v∈M:=by
     rcases ah.1 j with k|k
     .subst k;rcases an.1 h with f|f
      .exact f
      .exact absurd (bf.1 f) B
     .exact k
    exact Md hP hE hw hu ht K (.inr ⟨n,m⟩)
 rcases ah.1 o with rfl|o
 .rw[cC]at d c;rcases d with d|d
  .have j:=iP d;rcases c with c|c
   .have h:=eU (y:=x) (l:=y::Q) c;refine z _ g a v b (cC.2 (.inr d)) (cC.2 (.inr c)) (fun e=>?_) fun e=>?_
    .have e:v=x:=congrArg Prod.fst e;subst e;rcases ah.1 h with k|k
     .exact B k
     .exact W k
    .have e:v=y:=congrArg Prod.fst e;subst e;rcases an.1 j with k|k
     .exact X k
     .exact B (bf.1 k).symm
   .have h:=eU (y:=y) (l:=x::M) c;have q:v=x:=by
     rcases ah.1 h with k|k
     .exact k
     .rcases an.1 j with f|f
      .exact absurd (ar _ (dv _ (ar _ f))) (I v k)
      .exact bf.1 f
    subst q;rw[fK hw.nd c hu];exact R a (aX.2 ⟨_,g,cC.2 (.inr d)⟩) (cC.2 (.inr d))
  .have j:=iP d;rcases c with c|c
   .have h:=eU (y:=x) (l:=y::Q) c;have w:v=y:=by
     rcases an.1 j with k|k
     .rcases ah.1 h with f|f
      .exact f
      .exact absurd (ar _ (dv _ (ar _ f))) (I v k)
     .exact bf.1 k
    subst w;rw[wZ hw.nd d ht,fK Z c Y2];exact O
   .have h:=eU (y:=y) (l:=x::M) c;have K:v∈M:=by
     rcases ah.1 h with k|k
     .subst k;rcases an.1 j with f|f
      .exact f
      .exact absurd (bf.1 f) B
     .exact k
    exact Md hP hE hw hu ht K (.inl ⟨d,c⟩)
 .have J:=hE.nd;have J:(ao (x::(P++y::Q))++PF F).Nodup:=J;have T:=(bw.1 J).2.2;refine z r (ar _ o) a v b d c (fun e=>?_) fun e=>?_
  .exact T (x,bx) (cC.2 (.inl Y1)) (x,bx) (aX.2 ⟨r,o,e ▸ c⟩) rfl
  .exact T (y,by') (cC.2 (.inr Y2)) (y,by') (aX.2 ⟨r,o,e ▸ c⟩) rfl
end
section
variable {E:List Ed} {s:Int->Int} (hP:PlE E s) {A:List (Int×Int)} {F:List (List Int)} {x y:Int} {P Q M:List Int}
 (hE:Emb E s A ((x::(P++y::Q))::F)) (hw:WyE E ((x::(P++y::Q))::F) x y M) {u t:Int} (hu:(x,u)∈ae (x::(M++[y]))) (ht:(t,y)∈ae (x::(M++[y])))
 (hT:SdT s A (x::(P++y::Q)) (cd (x,u)))
include hP hE hw hu ht hT
theorem Emb.lay:Emb E s (ae (x::(M++[y]))++A) ((x::(P++y::M.reverse))::(y::(Q++x::M))::F):=by
 obtain⟨bx,N,T⟩:=QA hP hE hw hu ht hT;obtain⟨R,O,U⟩:=RW hP hE hw hu ht hT;obtain⟨Z,r2,r3,r4,r5,W,X⟩:=tZ hE hw;have K:M.Nodup:=(bw.1 (cb.1 hw.nd).2).1;refine⟨hE.arcs_way hw,Xy hE hw,fun r f=>?_,fun p=>?_,fun r f a v b D H=>Qm hP hE hw hu ht N O T U f D H,?_⟩
 .rcases ah.1 f with rfl|f
  .have e:x::(P++y::M.reverse)=(x::(P++[y]))++M.reverse:=sS;rw[e,bw];refine⟨W,(jw M).nodup_iff.2 K,fun a j b l e=>?_⟩;subst e;refine Et hE hw (jl.1 l) ?_;rcases ah.1 j with k|k
   .rw[k];exact aw
   .refine ar _ ?_;rcases an.1 k with k|k
    .exact cX _ k
    .rw[bf.1 k];simp
  rcases ah.1 f with rfl|f
  .have e:y::(Q++x::M)=(y::(Q++[x]))++M:=sS;rw[e,bw];refine⟨X,K,fun a j b l e=>?_⟩;subst e;refine Et hE hw l ?_;rcases ah.1 j with k|k
   .rw[k];simp
   .rcases an.1 k with k|k
    .exact ar _ (dv _ (ar _ k))
    .rw[bf.1 k];exact aw
  .exact hE.simple r (ar _ f)
 .rw[zC hE hw,hE.mem,an,an];constructor
  .rintro((h|h)|h|h)
   .exact .inl (.inr h)
   .exact .inr (.inr h)
   .exact .inl (.inl h)
   .exact .inr (.inl h)
  .rintro((h|h)|h|h)
   .exact .inr (.inl h)
   .exact .inl (.inl h)
   .exact .inr (.inr h)
   .exact .inl (.inr h)
 .have d:=cU hP.per.eqv (br (ae (x::(M++[y]))++A));have B:∀ z∈ci (br (ae (x::(M++[y]))++A)),cu (Orb s) (br (ae (x::(M++[y]))++A)) (cd (x,u)) z:=by
   have o:∀ p∈ae (x::(M++[y])),cu (Orb s) (br (ae (x::(M++[y]))++A)) (cd (x,u)) (cd p):=by
    intro p g;obtain⟨a,L,J⟩:∃ a L,ae (x::(M++[y]))=(x,a)::L:=by
     cases M with
     |nil=>exact⟨y,[],rfl⟩
     |cons m M=>exact⟨m,_,rfl⟩
    have I:a=u:=fK hw.nd (by rw[J];exact aw) hu;subst I;have c:=hP.way (w:=x::(M++[y])) hw.ed;have e:br (ae (x::(M++[y])))=(cd (x,a),cd (x,a).swap)::br L:=by rw[J];rfl
    rw[e]at c;refine AA d (fun _ _ k=>eW _ k) c (fun q C=>iB hP.per.eqv _ ?_) (cd p,cd p.swap) ?_
    .rw[<- e]at C;obtain⟨p,g,rfl⟩:=aq.1 C;exact aq.2 ⟨p,cX _ g,rfl⟩
    .rw[<- e];exact aq.2 ⟨p,g,rfl⟩
   intro z V;obtain⟨p,g,rfl⟩:=eV.1 V;have S:p∈PF ((x::(P++y::Q))::F)\/p∈ae (x::(M++[y]))\/p.swap∈ae (x::(M++[y])):=by
    rw[hE.mem];simp only[an]at g;rcases g with(k|k)|k|k
    .exact .inr (.inl k)
    .exact .inl (.inl k)
    .exact .inr (.inr k)
    .exact .inl (.inr k)
   rcases S with k|k|k
   .obtain⟨Y,n⟩:=hw.onx;have D:Orb s (cd (x,u)) (cd (x,Y)):=(hP.orb (p:=(x,u)) (hw.ed x u hu) (hE.sub n)).2 rfl;have H:=hE.con _ (hE.dart.2 ⟨_,n,rfl⟩) _ (hE.dart.2 ⟨_,k,rfl⟩)
    exact d.trans (eW _ D) (AH hP.per.eqv (fun q C=>by
     obtain⟨q,h,rfl⟩:=aq.1 C
     exact aq.2 ⟨q,dv _ h,rfl⟩) H)
   .exact o p k
   .refine d.trans (o _ k) (d.symm ?_);have:=iB hP.per.eqv (br (ae (x::(M++[y]))++A)) (p:=(cd p.swap,cd p)) (aq.2 ⟨p.swap,cX _ k,by rw[kf]⟩);exact d.symm this
  exact fun a j b l=>d.trans (d.symm (B a j)) (B b l)
theorem Emb.lay_side{p:Int×Int}(o:∃ e∈E,aj e=bp p){D:Int}(B:(p.1,D)∈PF ((x::(P++y::Q))::F)){r:AN}(g:r∈(x::(P++y::M.reverse))::(y::(Q++x::M))::F)
 (h:SdT s (ae (x::(M++[y]))++A) r (cd p)):(r∈F/\SdT s A r (cd p))\/((r=x::(P++y::M.reverse)\/r=y::(Q++x::M))/\SdT s A (x::(P++y::Q)) (cd p)):=by
 obtain⟨bx,I,L⟩:=QA hP hE hw hu ht hT;obtain⟨v,J,N⟩:=RW hP hE hw hu ht hT;obtain⟨q,c,j⟩:=h;have H:q∈PF ((x::(P++y::M.reverse))::(y::(Q++x::M))::F):=aX.2 ⟨r,g,c⟩;have d:=Cb hP hE hw hu ht ((zC hE hw q).1 H);have S:=(hP.orb o d).1 j.orb;have m:∀ q,q∈ao r->q∈PF ((x::(P++y::Q))::F)->Nx s (ci (br A)) (cd p) (cd q)->(r∈F/\SdT s A r (cd p))\/((r=x::(P++y::M.reverse)\/r=y::(Q++x::M))/\SdT s A (x::(P++y::Q)) (cd p)):=by
  intro q c n j;rcases ah.1 g with e|g
  .refine .inr ⟨.inl e,q,?_,j⟩;rw[e,cC]at c;rw[cC];rcases c with k|k
   .exact .inl k
   .exact absurd n (oE hE hw (.inr (oR (a:=q.1) (b:=q.2).1 k)))
  rcases ah.1 g with e|g
  .refine .inr ⟨.inr e,q,?_,j⟩;rw[e,cC]at c;rw[cC];rcases c with k|k
   .exact .inr k
   .exact absurd n (oE hE hw (.inl k))
  .exact .inl ⟨g,q,c,j⟩
 have C:x::(P++y::Q)∈(x::(P++y::Q))::F:=aw;have l:∀ q,q∈ao r->q∉PF ((x::(P++y::Q))::F)->r=x::(P++y::M.reverse)\/r=y::(Q++x::M):=by
  intro q c R;rcases ah.1 g with e|g
  .exact .inl e
  rcases ah.1 g with e|g
  .exact .inr e
  .exact absurd (aX.2 ⟨r,ar _ g,c⟩) R
 by_cases f:p.1∈x::(M++[y])
 .rcases ah.1 f with f|f
  .have w:Orb s (cd (x,u)) (cd p):=(hP.orb (p:=(x,u)) (hw.ed x u hu) o).2 f.symm;rcases Nx.back (LQ hP hE hw hu ht) L w j with⟨e,k⟩|⟨e,k⟩
   .have e:q=(x,u):=hP.cdin d (hw.ed x u hu) e;exact .inr ⟨l q c (by rw[e];exact oE hE hw (.inl hu)),(x,bx),cC.2 (.inl I),k⟩
   .exact m q c ((hE.at_iff hP d).1 k.mem) k
  .rcases an.1 f with f|f
   .exact absurd B (hw.off _ f D)
   .have f:=bf.1 f;have w:Orb s (cd (y,t)) (cd p):=(hP.orb (xB hP hE hw hu ht) o).2 f.symm;rcases Nx.back (Kv hP hE hw hu ht) N w j with⟨e,k⟩|⟨e,k⟩
    .have e:q=(y,t):=hP.cdin d (xB hP hE hw hu ht) e;exact .inr ⟨l q c (by rw[e];exact oE hE hw (p:=(y,t)) (.inr ht)),(y,v),cC.2 (.inr J),k⟩
    .exact m q c ((hE.at_iff hP d).1 k.mem) k
 .have K:=HI hP hE hw hu ht o f;have k:Nx s (ci (br A)) (cd p) (cd q):=j.same fun z O=>(K z O).symm;exact m q c ((hE.at_iff hP d).1 k.mem) k
end
def Sw(x:Int):∀ l:AN,(ao (x::l)).Perm (ao (l++[x]))
 |[]=>.refl _
 |y::l=>by
  have a:ao (x::y::l)=(x,y)::ae (y::(l++[x])):=by unfold ao;simp[ae]
  have b:ao (y::l++[x])=ae ((y::l)++x::[y]):=by unfold ao;simp
  rw[a,b,eY];refine List.perm_cons_append_cons (l₂:=[]) _ ?_;simp
theorem rY:∀ a b:AN,(ao (a++b)).Perm (ao (b++a))
 |[],b=>by simp
 |x::a,b=>by have c:=Sw x (a++b);have d:=rY a (b++[x]);rw[dz]at c;have e:b++[x]++a=b++x::a:=sS;rw[e]at d;exact c.trans d
def SdT.turn{s:Int->Int}{A:List (Int×Int)}{r a:AN}(e:(ao r).Perm (ao a)){d:Int}(h:SdT s A r d):SdT s A a d:=by obtain⟨p,b,c⟩:=h;exact⟨p,e.mem_iff.1 b,c⟩
section
variable {E:List Ed} {s:Int->Int} {A:List (Int×Int)} {F F':List (List Int)}
theorem Emb.permF(a:Emb E s A F)(b:F.Perm F'):Emb E s A F':=by have hf:(PF F).Perm (PF F'):=b.flatMap_right _;exact⟨a.nM,hf.nodup_iff.1 a.nd,fun r c=>a.simple r (b.mem_iff.2 c),fun p=>by rw[<- hf.mem_iff];exact a.mem p,fun r c=>a.step r (b.mem_iff.2 c),a.con⟩
theorem Emb.turn{a b:AN}(c:Emb E s A ((a++b)::F)):Emb E s A ((b++a)::F):=by
 have d:=rY a b;have hf:(PF ((a++b)::F)).Perm (PF ((b++a)::F)):=d.append_right _;refine⟨c.nM,hf.nodup_iff.1 c.nd,fun r h=>?_,fun p=>by rw[<- hf.mem_iff];exact c.mem p,fun r h u v w e f=>?_,c.con⟩
 .rcases ah.1 h with rfl|h
  .exact(kc (l₁:=a) (l₂:=b)).nodup_iff.1 (c.simple _ aw)
  .exact c.simple r (ar _ h)
 .rcases ah.1 h with rfl|h
  .exact c.step _ aw u v w (d.mem_iff.2 e) (d.mem_iff.2 f)
  .exact c.step r (ar _ h) u v w e f
theorem We{r:AN}{x y:Int}(e:x∈r)(c:y∈r)(d:x≠y):∃ a b P Q,r=a++b/\b++a=x::(P++y::Q):=by
 obtain⟨a,b,rfl⟩:=ij e;refine⟨a,x::b,?_⟩;have:y∈b++a:=by
  rw[an,ah]at c;rw[an];rcases c with h|h|h
  .exact .inr h
  .exact absurd h.symm d
  .exact .inl h
 obtain⟨P,Q,h⟩:=ij this;exact⟨P,Q,rfl,by rw[<- h];rfl⟩
theorem Emb.norm(h:Emb E s A F){r:AN}(j:r∈F){x y:Int}(k:x∈r)(l:y∈r)(g:x≠y):∃ a b P Q F',r=a++b/\b++a=x::(P++y::Q)/\F.Perm (r::F')/\Emb E s A ((x::(P++y::Q))::F'):=by obtain⟨a,b,P,Q,e,f⟩:=We k l g;obtain⟨c,d,rfl⟩:=ij j;refine⟨a,b,P,Q,c++d,e,f,lk,?_⟩;have:=h.permF (F':=(a++b)::(c++d)) (by rw[<- e];exact lk);rw[<- f];exact this.turn
end
structure Rng(E:List Ed)(x y:Int)(M:AN):Prop where
 nd:(x::(M++[y])).Nodup
 ne:M≠[]
 ed:∀ u v,(u,v)∈ao (x::(M++[y]))->∃ e∈E,aj e=ay u v
def kN{x y:Int}{M:AN}{p:Int×Int}:p∈ao (x::(M++[y]))↔p∈ae (x::(M++[y]))\/p=(y,x):=by have:=cC (x:=x) (y:=y) (P:=M) (Q:=[]) (p:=p);rw[this];simp[ae]
section
variable {E:List Ed} {x y:Int} {M:List Int} (h:Rng E x y M)
include h
theorem Rng.off:x∉M/\y∉M/\x≠y:=by obtain⟨a,b⟩:=cb.1 h.nd;exact⟨fun k=>a (cX _ k),fun k=>(bw.1 b).2.2 y k y sS rfl,fun e=>a (by rw[e];simp)⟩
theorem Rng.rev:Rng E y x M.reverse:=by
 have e:y::(M.reverse++[x])=(x::(M++[y])).reverse:=sS;refine⟨by rw[e];exact(jw _).nodup_iff.2 h.nd,by simpa using h.ne,fun u v k=>?_⟩;rw[kN]at k;rw[aG];refine h.ed v u (kN.2 ?_);rcases k with k|k
 .exact .inl (oR.1 k)
 .injection k with k1 k2;exact .inr (by rw[k1,k2])
theorem Rng.swap(p:Int×Int):p∈ao (y::(M.reverse++[x]))↔p.swap∈ao (x::(M++[y])):=by rw[kN,kN,show(p∈ae (y::(M.reverse++[x]))↔p.swap∈ae (x::(M++[y]))) from oR (a:=p.1) (b:=p.2)];refine or_congr mo ⟨fun e=>by rw[e];rfl,fun e=>?_⟩;rw[<- kf p,e];rfl
theorem Rng.fn{a b e:Int}(d:(a,b)∈ao (x::(M++[y])))(c:(a,e)∈ao (x::(M++[y]))):b=e:=by
 obtain⟨n,j,m⟩:=h.off;have g:∀ b,(y,b)∉ae (x::(M++[y])):=fun b k=>by
  have:=eU (y:=y) (l:=x::M) k;rcases ah.1 this with k|k
  .exact m k.symm
  .exact j k
 rw[kN]at d c;rcases d with d|d
 .rcases c with c|c
  .exact fK h.nd d c
  .injection c with f e2;subst f;exact absurd d (g b)
 .injection d with f e2;subst f;rcases c with c|c
  .exact absurd c (g e)
  .injection c with _ e3;rw[e2,e3]
theorem Rng.nM:eH E (ao (x::(M++[y]))):=by
 obtain⟨v,q,s⟩:=h.off;have e:ao (x::(M++[y]))=ae (x::(M++[y]))++[(y,x)]:=by unfold ao;have:x::(M++[y])++(x::(M++[y])).take 1=(x::M)++y::[x]:=sS;rw[this,eY];rfl
 refine⟨fun p c=>h.ed p.1 p.2 c,?_⟩;rw[e,cr,bw];have o:=fG h.nd;rw[dZ]at o;refine⟨o,sS,fun a r b g j=>?_⟩;obtain⟨p,c,rfl⟩:=aq.1 r;have g:b=bp (y,x):=by simpa using g
 rw[g]at j;rcases aT j with⟨d,f⟩|⟨d,f⟩
 .have d:p.1=y:=d;have:=eU (y:=y) (l:=x::M) (a:=p.1) (b:=p.2) c;rw[d]at this;rcases ah.1 this with k|k
  .exact s k.symm
  .exact q k
 .have d:p.1=x:=d;have f:p.2=y:=f;have c:(x,y)∈ae (x::(M++[y])):=by rw[<- d,<- f]at c ⊢;exact c
  cases n:M with
  |nil=>exact h.ne n
  |cons m t=>subst n;have:=fK h.nd c (b':=m) (by simp[ae]);exact q (by rw[this];exact aw)
end
def OJ{E:List Ed}{s:Int->Int}(g:PlE E s){S:AN}{v a b:Int}(j:∃ e∈E,aj e=bp (v,a))(l:∃ e∈E,aj e=bp (v,b))(t:a≠b)(m:cd (v,b)∈S)
 (n:∀ z∈S,∃ q,(∃ e∈E,aj e=bp q)/\z=cd q/\(q.1=v->q.2=a\/q.2=b)):Nx s S (s (cd (v,a))) (cd (v,b)):=by
 have d:Orb s (cd (v,a)) (cd (v,b)):=(g.orb j l).2 rfl;have r:Orb s (s (cd (v,a))) (cd (v,b)):=(Orb.symm g.per (Orb.step s _)).trans d;obtain⟨f,hf⟩:=Nx.ex r m;obtain⟨q,k,rfl,o⟩:=n f hf.mem;have c:v=q.1:=(g.orb (p:=(v,a)) j k).1 ((Orb.step s _).trans hf.orb);rcases o c.symm with h|h
 .have e:q=(v,a):=io c.symm h;rw[e]at hf;have:=hf.loop m d;exact absurd (congrArg Prod.snd (g.cdin l j this)).symm t
 .have e:q=(v,b):=io c.symm h;rw[<- e];exact hf
section
variable {E:List Ed} {s:Int->Int} (hP:PlE E s) {x y:Int} {M:List Int} (h:Rng E x y M)
include hP h
theorem Rng.step{A:List (Int×Int)}(l:∀ p,(p∈A\/p.swap∈A)↔p∈ao (x::(M++[y]))\/p.swap∈ao (x::(M++[y]))){u v w:Int}(c:(u,v)∈ao (x::(M++[y])))(a:(v,w)∈ao (x::(M++[y]))):
 Nx s (ci (br A)) (s (cd (v,u))) (cd (v,w)):=by
 have o:∃ e∈E,aj e=bp (v,u):=by rw[show bp (v,u)=ay u v from aG _ _];exact h.ed u v c
 have j:∃ e∈E,aj e=bp (v,w):=h.ed v w a;refine OJ hP o j (fun e=>?_) (eV.2 ⟨(v,w),(l _).2 (.inl a),rfl⟩) fun z r=>?_
 ·
  subst e;have d:=h.nM;have n:=(hP.arc_bd j).2.2;have:=qP d.nd c a (aG u v);injection this with k1 k2;exact n k2
 .obtain⟨q,b,rfl⟩:=eV.1 r;have b:=(l q).1 b;have f:∃ e∈E,aj e=bp q:=by
   rcases b with k|k
   .exact h.ed q.1 q.2 k
   .rw[<- fV];exact h.ed q.2 q.1 k
  refine⟨q,f,rfl,fun m=>?_⟩;rcases b with k|k
  .have k:(v,q.2)∈ao (x::(M++[y])):=by rw[<- m];exact k
   exact .inr (h.fn k a)
  .have k:(q.2,v)∈ao (x::(M++[y])):=by rw[<- m];exact k
   have t:=(h.swap (v,q.2)).2 k;have g:=(h.swap (v,u)).2 c;exact .inl (h.rev.fn t g)
theorem Rng.emb:Emb E s (ao (x::(M++[y]))) [x::(M++[y]),y::(M.reverse++[x])]:=by
 have A:=h.nM;have n:PF [x::(M++[y]),y::(M.reverse++[x])]=ao (x::(M++[y]))++ao (y::(M.reverse++[x])):=by unfold PF;simp
 have K:∀ p,p∈PF [x::(M++[y]),y::(M.reverse++[x])]↔p∈ao (x::(M++[y]))\/p.swap∈ao (x::(M++[y])):=fun p=>by rw[n,an,h.swap]
 refine⟨A,?_,fun r g=>?_,K,fun r g u v w C D=>?_,?_⟩
 .rw[n,bw];refine⟨gN bp A.nd,gN bp h.rev.nM.nd,fun a l b o e=>?_⟩;subst e;have o:=(h.swap a).1 o;have e:=qP A.nd l o (fV a).symm;exact(hP.arc_bd (A.mem a l)).2.2 (congrArg Prod.fst e)
 .rcases ah.1 g with rfl|g
  .exact h.nd
  .rw[bf.1 g];exact h.rev.nd
 .rcases ah.1 g with rfl|g
  .exact h.step hP (fun p=>mo) C D
  .rw[bf.1 g]at C D;refine h.rev.step hP (fun p=>?_) C D;rw[h.swap,h.swap,kf];exact Or.comm
 .have j:=cU hP.per.eqv (br (ao (x::(M++[y]))));obtain⟨m,H,I⟩:=my h.ne;have F:(x,m)∈ao (x::(M++[y])):=kN.2 (.inl (by rw[I];simp[ae]))
  have B:∀ p∈ao (x::(M++[y])),cu (Orb s) (br (ao (x::(M++[y])))) (cd p) (cd p.swap):=fun p f=>
   iB hP.per.eqv _ (p:=(cd p,cd p.swap)) (aq.2 ⟨p,f,rfl⟩)
  have t:∀ p∈ao (x::(M++[y])),cu (Orb s) (br (ao (x::(M++[y])))) (cd (x,m)) (cd p):=by
   intro p f;rcases kN.1 f with k|k
   .have N:ae (x::(M++[y]))=(x,m)::ae (m::(H++[y])):=by rw[I];rfl
    have c:=hP.way (w:=x::(M++[y])) fun u v k=>h.ed u v (kN.2 (.inl k));have e:br (ae (x::(M++[y])))=(cd (x,m),cd (x,m).swap)::br (ae (m::(H++[y]))):=by rw[N];rfl
    rw[e]at c;refine AA j (fun _ _ k=>eW _ k) c (fun q J=>?_) (cd p,cd p.swap) (by rw[<- e];exact aq.2 ⟨p,k,rfl⟩);rw[<- e]at J;obtain⟨a,l,rfl⟩:=aq.1 J;exact B a (kN.2 (.inl l))
   .subst k;have L:Orb s (cd (x,m)) (cd (x,y)):=(hP.orb (p:=(x,m)) (h.ed x m F) (by rw[show bp (x,y)=ay y x from aG _ _];exact h.ed y x f)).2 rfl;exact j.trans (eW _ L) (j.symm (B _ f))
  have d:∀ z∈ci (br (ao (x::(M++[y])))),cu (Orb s) (br (ao (x::(M++[y])))) (cd (x,m)) z:=by
   intro z O;obtain⟨p,f,rfl⟩:=eV.1 O;rcases f with k|k
   .exact t p k
   .have:=B _ k;rw[kf]at this;exact j.trans (t _ k) this
  exact fun a l b o=>j.trans (j.symm (d a l)) (d b o)
end
end Aw
end Go.Proofs.YtbgngpdonpeboaaGreatDoor
