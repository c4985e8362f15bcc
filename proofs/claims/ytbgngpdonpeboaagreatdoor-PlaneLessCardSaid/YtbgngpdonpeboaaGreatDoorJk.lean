/- Plain: ways on one side of a ring do not cross. -/
import Derived.Test.YtbgngpdonpeboaaGreatDoorJj
set_option linter.defProp false
set_option linter.unusedVariables false
set_option linter.unusedSimpArgs false
set_option linter.unusedSectionVars false
namespace Go.Proofs.YtbgngpdonpeboaaGreatDoor
namespace Aw
open Go Go.RowKit Pl Eu
def WyE.sub{E:List Ed}{F c:List AN}{x y:Int}{M:AN}(a:WyE E F x y M)(h:∀ p,p∈PF F↔p∈PF c):WyE E c x y M:=
 ⟨a.nd,a.ed,fun p k b=>a.new p k ((h p).2 b),fun v k u b=>a.off v k u ((h _).2 b),a.onx.imp fun _ k=>(h _).1 k,a.ony.imp fun _ k=>(h _).1 k⟩
section
variable {E:List Ed} {s:Int->Int} (hP:PlE E s) {A:List (Int×Int)} {F:List (List Int)} (hE:Emb E s A F)
 {x y:Int} {M:List Int} (hw:WyE E F x y M) {u t:Int} (hu:(x,u)∈ae (x::(M++[y]))) (ht:(t,y)∈ae (x::(M++[y]))) {r:List Int} (hr:r∈F) (hT:SdT s A r (cd (x,u)))
include hP hE hw hu ht hr hT
theorem Emb.both:x∈r/\y∈r/\x≠y:=by refine⟨hE.here hP hr (p:=(x,u)) (hw.ed x u hu) hT,hE.here hP hr (p:=(y,t)) (by rw[show bp (y,t)=bp (t,y) from aG _ _];exact hw.ed t y ht) (hE.wayT hP hw hu ht hr hT),fun e=>?_⟩;exact(cb.1 hw.nd).1 (by rw[e];simp)
structure Laid(E:List Ed)(s:Int->Int)(A:List (Int×Int))(F:List AN)(r:AN)(x y:Int)(M P Q:AN)(F':List AN):Prop where
 perm:F.Perm (r::F')
 rot:∃ a b,r=a++b/\b++a=x::(P++y::Q)
 nf:r∉F'
 emb:Emb E s (ae (x::(M++[y]))++A) ((x::(P++y::M.reverse))::(y::(Q++x::M))::F')
 mem:∀ p,p∈PF ((x::(P++y::M.reverse))::(y::(Q++x::M))::F')↔p∈PF F\/p∈ae (x::(M++[y]))\/p.swap∈ae (x::(M++[y]))
 side:∀ p,(∃ e∈E,aj e=bp p)->∀ v,(p.1,v)∈PF F->SdT s A r (cd p)->SdT s (ae (x::(M++[y]))++A) (x::(P++y::M.reverse)) (cd p)\/SdT s (ae (x::(M++[y]))++A) (y::(Q++x::M)) (cd p)
theorem Emb.layAt:∃ P Q f,Laid E s A F r x y M P Q f:=by
 obtain⟨H,O,R⟩:=hE.both hP hw hu ht hr hT;obtain⟨a,b,P,Q,f,C,D,n,c⟩:=hE.norm hr H O R;have q:(ao r).Perm (ao (x::(P++y::Q))):=by rw[C,<- D];exact rY a b
 have d:∀ p,p∈PF F↔p∈PF ((x::(P++y::Q))::f):=fun p=>by rw[hE.mem,c.mem]
 have e:=hw.sub d;have g:=hT.turn q;have h:=c.lay hP e hu ht g;have j:r∉f:=fun k=>by have o:=(hE.permF n).nd;have o:(ao r++PF f).Nodup:=o;obtain⟨z,K⟩:=gX H;exact(bw.1 o).2.2 _ K _ (aX.2 ⟨r,k,K⟩) rfl
 refine⟨P,Q,f,n,⟨a,b,C,D⟩,j,h,fun p=>by rw[zC c e,<- d],fun p I v J S=>?_⟩;have B:=(zC c e (p.1,v)).2 (.inl ((d _).1 J));obtain⟨T,N,m⟩:=h.ex hP I B;rcases c.lay_side hP e hu ht g I ((d _).1 J) N m with⟨l,L⟩|⟨l,L⟩
 .have w:T∈F:=n.mem_iff.2 (ar _ l);have:=hE.fn hP hr w S L;exact absurd (this ▸ l) j
 .rcases l with rfl|rfl
  .exact .inl m
  .exact .inr m
theorem Emb.no_cross{a b:AN}{P Q:AN}(Z:r=a++b)(e2:b++a=x::(P++y::Q)){p q:Int}{N:AN}(n:WyE E F p q N){u2 t2:Int}(H:(p,u2)∈ae (p::(N++[q])))(T:(t2,q)∈ae (p::(N++[q])))
 (hT2:SdT s A r (cd (p,u2))) (hp:p∈P) (hq:q∈Q) (hMN:∀ v∈N,v∉M):False:=by
 have J:(b++a).Nodup:=(kc (l₁:=a) (l₂:=b)).nodup_iff.1 (Z ▸ hE.simple r hr);rw[e2]at J;obtain⟨f,o,F',C⟩:=hE.layAt hP hw hu ht hr hT;obtain⟨a',b',f1,f2⟩:=C.rot;have hPQ:f=P/\o=Q:=by
  have hr2:∃ c d,x::(P++y::Q)=c++d/\d++c=x::(f++y::o):=by
   rw[<- e2,<- f2];rw[Z]at f1;rcases ui.1 f1 with⟨c,B,D⟩|⟨c,B,D⟩
   .exact⟨c,b'++a,by rw[D];simp,by rw[B];simp⟩
   .exact⟨b++a',c,by rw[B];simp,by rw[D];simp⟩
  obtain⟨c,d,B,D⟩:=hr2;have V1:x::(P++y::Q)=x::(f++y::o):=by
   cases c with
   |nil=>rw[B,<- D];simp
   |cons z c=>
    have l:z=x:=by injection B with g _;exact g.symm
    subst l;cases d with
    |nil=>rw[B,<- D];simp
    |cons w d=>
     have hwz:w=z:=by injection D
     subst hwz;rw[B]at J;exact absurd rfl ((bw.1 J).2.2 w aw w aw)
  have S:P++y::Q=f++y::o:=by injection V1
  have I:(P++y::Q).Nodup:=(cb.1 J).2;have hyP:y∉P:=fun k=>(bw.1 I).2.2 y k y aw rfl;have X:y∉f:=fun k=>(bw.1 (S ▸ I)).2.2 y k y aw rfl;have:∀(P f:AN),y∉P->y∉f->P++y::Q=f++y::o->f=P/\o=Q:=by
   intro P;induction P with
   |nil=>
    intro f _ h' e;cases f with
    |nil=>injection e with _ e;exact⟨rfl,e.symm⟩
    |cons z f=>injection e with e _;exact absurd (by rw[e];exact aw) h'
   |cons z P ih=>
    intro f h h' e;cases f with
    |nil=>injection e with e _;exact absurd (by rw[<- e];exact aw) h
    |cons z' f=>injection e with Z e2;obtain⟨k1,k2⟩:=ih f (fun k=>h (ar _ k)) (fun k=>h' (ar _ k)) e2;exact⟨by rw[Z,k1],k2⟩
  exact this P f hyP X S
 obtain⟨rfl,rfl⟩:=hPQ;have I:=(cb.1 J);have hd:=(bw.1 I.2);have K:p≠x:=fun e=>I.1 (by rw[<- e];exact cX _ hp);have O:q≠x:=fun e=>I.1 (by rw[<- e];exact dv _ (ar _ hq));have L:p≠y:=fun e=>hd.2.2 p hp y aw e;have R:q≠y:=fun e=>(cb.1 hd.2.1).1 (by rw[<- e];exact hq);have hpQ:p∉o:=fun k=>hd.2.2 p hp p (ar _ k) rfl;have hqP:q∉f:=fun k=>hd.2.2 q k q (ar _ hq) rfl;have m:∀ v∈p::(N++[q]),v∉x::(M++[y]):=by
  intro v j k;have hvM:v∈M->False:=fun hm=>by
   rcases ah.1 j with rfl|j
   .obtain⟨z,l⟩:=n.onx;exact hw.off _ hm z l
   .rcases an.1 j with j|j
    .exact hMN v j hm
    .rw[bf.1 j]at hm;obtain⟨z,l⟩:=n.ony;exact hw.off _ hm z l
  have V:v=x\/v=y->False:=fun h=>by
   rcases ah.1 j with rfl|j
   .exact h.elim K L
   .rcases an.1 j with j|j
    .rcases h with rfl|rfl
     .obtain⟨z,l⟩:=hw.onx;exact n.off _ j z l
     .obtain⟨z,l⟩:=hw.ony;exact n.off _ j z l
    .rw[bf.1 j]at h;exact h.elim O R
  rcases ah.1 k with k|k
  .exact V (.inl k)
  .rcases an.1 k with k|k
   .exact hvM k
   .exact V (.inr (bf.1 k))
 have W:WyE E ((x::(f++y::M.reverse))::(y::(o++x::M))::F') p q N:=by
  refine⟨n.nd,n.ed,fun z l k=>?_,fun v j z k=>?_,n.onx.imp fun z k=>(C.mem _).2 (.inl k),n.ony.imp fun z k=>(C.mem _).2 (.inl k)⟩
  .rcases(C.mem z).1 k with k|k|k
   .exact n.new z l k
   .exact m z.1 (bE (x:=z.1) (y:=z.2) l).1 (bE (x:=z.1) (y:=z.2) k).1
   .exact m z.1 (bE (x:=z.1) (y:=z.2) l).1 (bE (x:=z.2) (y:=z.1) k).2
  .have U:v∈p::(N++[q]):=ar _ (cX _ j);rcases(C.mem (v,z)).1 k with k|k|k
   .exact n.off v j z k
   .exact m v U (bE k).1
   .exact m v U (bE (x:=z) (y:=v) k).2
 obtain⟨zp,Y⟩:=n.onx;have hpM:p∉M:=fun k=>hw.off p k zp Y;have hqM:q∉M:=fun k=>by obtain⟨z,l⟩:=n.ony;exact hw.off q k z l
 rcases C.side (p,u2) (n.ed p u2 H) zp Y hT2 with k|k
 .have n9:x::(f++y::M.reverse)∈(x::(f++y::M.reverse))::(y::(o++x::M))::F':=aw;have:=(C.emb.both hP W H T n9 k).2.1;rcases ah.1 this with e|h
  .exact O e
  .rcases an.1 h with h|h
   .exact hqP h
   .rcases ah.1 h with e|h
    .exact R e
    .exact hqM (jl.1 h)
 .have n9:y::(o++x::M)∈(x::(f++y::M.reverse))::(y::(o++x::M))::F':=ar _ aw;have:=(C.emb.both hP W H T n9 k).1;rcases ah.1 this with e|h
  .exact L e
  .rcases an.1 h with h|h
   .exact hpQ h
   .rcases ah.1 h with e|h
    .exact K e
    .exact hpM h
end
theorem LJ{y:Int}{Q b:AN}:∀ {P a:AN},y∉P->y∉a->P++y::Q=a++y::b->a=P/\b=Q
 |[],[],_,_,e=>by injection e with _ e;exact⟨rfl,e.symm⟩
 |[],z::a,_,h',e=>by injection e with e _;exact absurd (by rw[e];exact aw) h'
 |z::P,[],h,_,e=>by injection e with e _;exact absurd (by rw[<- e];exact aw) h
 |z::P,z'::a,h,h',e=>by injection e with e1 e2;obtain⟨c,d⟩:=LJ (fun k=>h (ar _ k)) (fun k=>h' (ar _ k)) e2;exact⟨by rw[e1,c],d⟩
def FN{x y:Int}{P Q j l a b o p:AN}(A:(a++b).Nodup)(e:a++b=o++p)(s:b++a=x::(P++y::Q))(v:p++o=x::(j++y::l)):j=P/\l=Q:=by
 have n:(x::(P++y::Q)).Nodup:=by rw[<- s];exact(kc (l₁:=a) (l₂:=b)).nodup_iff.1 A
 obtain⟨c,d,f,h⟩:∃ c d,x::(P++y::Q)=c++d/\d++c=x::(j++y::l):=by
  rw[<- s,<- v];rcases ui.1 e with⟨c,f,h⟩|⟨c,f,h⟩
  .exact⟨c,p++a,by rw[h];simp,by rw[f];simp⟩
  .exact⟨b++o,c,by rw[f];simp,by rw[h];simp⟩
 have t:x::(P++y::Q)=x::(j++y::l):=by
  cases c with
  |nil=>rw[f,<- h];simp
  |cons z c=>
   have B:z=x:=by injection f with g _;exact g.symm
   subst B;cases d with
   |nil=>rw[f,<- h];simp
   |cons w d=>
    have q:w=z:=by injection h
    subst q;rw[f]at n;exact absurd rfl ((bw.1 n).2.2 w aw w aw)
 have m:P++y::Q=j++y::l:=by injection t
 have r:(P++y::Q).Nodup:=(cb.1 n).2;exact LJ (fun k=>(bw.1 r).2.2 y k y aw rfl) (fun k=>(bw.1 (m ▸ r)).2.2 y k y aw rfl) m
def WyE.lay{E:List Ed}{s:Int->Int}{A:List (Int×Int)}{F o:List AN}{r:AN}{x y p q:Int}{M N P Q:AN}(j:Laid E s A F r x y M P Q o)(d:WyE E F p q N)(C:N≠[])(e:∀ v∈N,v∉x::(M++[y])):
 WyE E ((x::(P++y::M.reverse))::(y::(Q++x::M))::o) p q N:=by
 have t:∀ z,z∈ae (p::(N++[q]))->z.1∈N\/z.2∈N:=by
  intro z c;have w:=eU (y:=q) (l:=p::N) (a:=z.1) (b:=z.2) c;have B:=iP (a:=z.1) (b:=z.2) c;rcases ah.1 w with k|k
  .rcases an.1 B with g|g
   .exact .inr g
   .exfalso;have g:=bf.1 g;obtain⟨n,H,f⟩:=my C;have c:(p,q)∈ae (p::(N++[q])):=by rw[<- k,<- g]at c ⊢;exact c
    have:=fK d.nd c (b':=n) (by rw[f];simp[ae]);have D:=(bw.1 (cb.1 d.nd).2).2.2 n (by rw[f];simp) q sS;exact D this.symm
  .exact .inl k
 refine⟨d.nd,d.ed,fun z c k=>?_,fun v m z k=>?_,d.onx.imp fun z k=>(j.mem _).2 (.inl k),d.ony.imp fun z k=>(j.mem _).2 (.inl k)⟩
 .rcases(j.mem z).1 k with k|k|k
  .exact d.new z c k
  .rcases t z c with h|h
   .exact e _ h (bE (x:=z.1) (y:=z.2) k).1
   .exact e _ h (bE (x:=z.1) (y:=z.2) k).2
  .rcases t z c with h|h
   .exact e _ h (bE (x:=z.2) (y:=z.1) k).2
   .exact e _ h (bE (x:=z.2) (y:=z.1) k).1
 .rcases(j.mem (v,z)).1 k with k|k|k
  .exact d.off v m z k
  .exact e v m (bE k).1
  .exact e v m (bE (x:=z) (y:=v) k).2
section
variable {E:List Ed} {s:Int->Int} (hP:PlE E s) {A:List (Int×Int)} {F:List (List Int)} (hE:Emb E s A F)
 {x y:Int} {M:List Int} (hw:WyE E F x y M) {u t:Int} (hu:(x,u)∈ae (x::(M++[y]))) (ht:(t,y)∈ae (x::(M++[y]))) {r:List Int} (hr:r∈F) (hT:SdT s A r (cd (x,u)))
include hP hE hw hu ht hr hT
theorem Emb.no_three{a b:AN}{f g Q J K:AN}{c z:Int}(e1:r=a++b)(e2:b++a=x::((f++c::g)++y::Q))(hM:M=J++z::K)
 {N:AN} (hn:(c::(N++[z])).Nodup) (V:∀ u v,(u,v)∈ae (c::(N++[z]))->∃ e∈E,aj e=ay u v) (D:∀ v∈N,∀ u,(v,u)∉PF F) (P:∀ v∈N,v∉M)
 {uc tz:Int} (X:(c,uc)∈ae (c::(N++[z]))) (htz:(tz,z)∈ae (c::(N++[z]))) (hTc:SdT s A r (cd (c,uc)))
 {O N2:AN} {ix iy ic:Int} (P6:WyE E F x y O) (J7:WyE E F y c N2) (n1:O≠[]) (n2:N2≠[]) (o1:∀ v∈O,v∉M/\v∉N) (o2:∀ v∈N2,v∉M/\v∉N)
 (B:(x,ix)∈ae (x::(O++[y]))) (Y:(iy,y)∈ae (x::(O++[y]))) (X8:(y,iy)∈ae (y::(N2++[c]))) (hc2:(ic,c)∈ae (y::(N2++[c]))) (hTx:SdT s A r (cd (x,ix))):False:=by
 have W:=hE.simple r hr;rw[e1]at W;have Y0:(b++a).Nodup:=(kc (l₁:=a) (l₂:=b)).nodup_iff.1 W;rw[e2]at Y0;obtain⟨P',m,F',j⟩:=hE.layAt hP hw hu ht hr hT;obtain⟨a',b',f1,f2⟩:=j.rot;obtain⟨rfl,rfl⟩:=FN W (by rw[<- e1,f1]) e2 f2;have o:∀ v,v∈x::((f++c::g)++y::m)->∃ w,(v,w)∈PF F:=fun v d=>by
  have:v∈r:=by rw[e1,an];rw[<- e2,an]at d;exact d.symm
  obtain⟨w,k⟩:=gX this;exact⟨w,aX.2 ⟨r,hr,k⟩⟩
 have n:∀(N:AN),(∀ v∈N,∀ u,(v,u)∉PF F)->∀ v∈N,v∉x::((f++c::g)++y::m):=fun N hN v d k=>by obtain⟨w,h⟩:=o v k;exact hN v d w h
 have M9:x∈x::((f++c::g)++y::m):=aw;have H:y∈x::((f++c::g)++y::m):=sS;have S:c∈x::((f++c::g)++y::m):=sS;have C:∀(N:AN),(∀ v∈N,∀ u,(v,u)∉PF F)->(∀ v∈N,v∉M)->∀ v∈N,v∉x::(M++[y]):=fun N hN P v d k=>by
  rcases ah.1 k with rfl|k
  .exact n N hN _ d M9
  .rcases an.1 k with k|k
   .exact P v d k
   .rw[bf.1 k]at d;exact n N hN _ d H
 have w1:=P6.lay j n1 (C O P6.off fun v d=>(o1 v d).1);have w2:=J7.lay j n2 (C N2 J7.off fun v d=>(o2 v d).1);have hcn:=Y0;have T:c≠x:=fun e=>(cb.1 hcn).1 (by rw[<- e];simp);have hd:=bw.1 (cb.1 hcn).2;have U:c≠y:=fun e=>hd.2.2 c sS y aw e;have hcQ:c∉m:=fun k=>hd.2.2 c sS c (ar _ k) rfl;have hcM:c∉M:=fun k=>by obtain⟨w,h⟩:=o c S;exact hw.off c k w h
 have I:z∈M:=by rw[hM];simp
 have L:c∉y::(m++x::M):=fun k=>by
  rcases ah.1 k with k|k
  .exact U k
  .rcases an.1 k with k|k
   .exact hcQ k
   .rcases ah.1 k with k|k
    .exact T k
    .exact hcM k
 have in1:x::((f++c::g)++y::M.reverse)∈(x::((f++c::g)++y::M.reverse))::(y::(m++x::M))::F':=aw;have Z:y::(m++x::M)∈(x::((f++c::g)++y::M.reverse))::(y::(m++x::M))::F':=ar _ aw;obtain⟨wx,hwx⟩:=o x M9;obtain⟨wc,hwc⟩:=o c S
 have hTx1:=(j.side (x,ix) (P6.ed x ix B) wx hwx hTx).resolve_right fun k=>
  L (j.emb.both hP w2 X8 hc2 Z (j.emb.wayT hP w1 B Y Z k)).2.1
 have hTc1:=(j.side (c,uc) (V c uc X) wc hwc hTc).resolve_right fun k=>L (j.emb.here hP Z (p:=(c,uc)) (V c uc X) k);have hcw:c∉x::(M++[y]):=fun k=>by
  rcases ah.1 k with k|k
  .exact T k
  .rcases an.1 k with k|k
   .exact hcM k
   .exact U (bf.1 k)
 have R:=C N D P;have hw3:WyE E ((x::((f++c::g)++y::M.reverse))::(y::(m++x::M))::F') c z N:=by
  refine⟨hn,V,fun p hp k=>?_,fun v d w k=>?_,⟨wc,(j.mem _).2 (.inl hwc)⟩,?_⟩
  .have h1:=eU (y:=z) (l:=c::N) (a:=p.1) (b:=p.2) hp;have h2:=iP (a:=p.1) (b:=p.2) hp;have S7:p.1∉x::(M++[y]):=fun k=>by
    rcases ah.1 h1 with e|e
    .exact hcw (e ▸ k)
    .exact R _ e k
   rcases(j.mem p).1 k with k|k|k
   .have:=hE.swap k;rcases an.1 h2 with e|e
    .exact D _ e _ this
    .exact hw.off p.2 (by rw[bf.1 e];exact I) _ this
   .exact S7 (bE (x:=p.1) (y:=p.2) k).1
   .exact S7 (bE (x:=p.2) (y:=p.1) k).2
  .rcases(j.mem (v,w)).1 k with k|k|k
   .exact D v d w k
   .exact R v d (bE k).1
   .exact R v d (bE (x:=w) (y:=v) k).2
  .obtain⟨w,k⟩:=sX (w:=x::(M++[y])) (v:=z) sS (ar _ (cX _ I));exact⟨w,(j.mem _).2 (.inr k.symm)⟩
 obtain⟨P2,Q2,F2,q⟩:=j.emb.layAt hP hw3 X htz in1 hTc1;have hrr1:=j.emb.simple _ in1;obtain⟨a2,b2,g1,g2⟩:=q.rot;have hsp:x::((f++c::g)++y::M.reverse)=(x::f)++(c::(g++y::(K.reverse++z::J.reverse))):=by rw[hM];simp
 have hsp2:(c::(g++y::(K.reverse++z::J.reverse)))++(x::f)=c::((g++y::K.reverse)++z::(J.reverse++x::f)):=sS;obtain⟨rfl,rfl⟩:=FN (by rw[<- hsp];exact hrr1) (by rw[<- hsp];exact g1) hsp2 g2;have w1':=w1.lay q n1 fun v d k=>by
  rcases ah.1 k with k|k
  .exact n O P6.off v d (k ▸ S)
  .rcases an.1 k with k|k
   .exact(o1 v d).2 k
   .exact(o1 v d).1 (by rw[bf.1 k];exact I)
 have hxn:=(cb.1 Y0).1;have hzr:∀ v,v∈x::((f++c::g)++y::m)->v≠z:=fun v d e=>by obtain⟨w,h⟩:=o v d;exact hw.off z I w (e ▸ h)
 have hMr:∀ v,v∈x::((f++c::g)++y::m)->v∉M:=fun v d k=>by obtain⟨w,h⟩:=o v d;exact hw.off v k w h
 have hNr:∀ v,v∈x::((f++c::g)++y::m)->v∉N:=fun v d k=>n N D v k d;have J6:x≠y:=fun e=>hxn (by rw[e];simp);have in3:c::((g++y::K.reverse)++z::N.reverse)∈(c::((g++y::K.reverse)++z::N.reverse))::(z::((J.reverse++x::f)++c::N))::F2:=aw;have in4:z::((J.reverse++x::f)++c::N)∈(c::((g++y::K.reverse)++z::N.reverse))::(z::((J.reverse++x::f)++c::N))::F2:=ar _ aw;rcases q.side (x,ix) (P6.ed x ix B) wx ((j.mem _).2 (.inl hwx)) hTx1 with k|k
 .have:=(q.emb.both hP w1' B Y in3 k).1;have hxMb:x∉K:=fun h=>hMr x M9 (by rw[hM];simp[h]);have hxN:=hNr x M9;have hxPb:x∉g:=fun h=>hxn (aa h);simp only[ah,an,jl]at this;rcases this with h|(h|h|h)|h|h
  .exact T h.symm
  .exact hxPb h
  .exact J6 h
  .exact hxMb h
  .exact hzr x M9 h
  .exact hxN h
 .have:=(q.emb.both hP w1' B Y in4 k).2.1;have hyMa:y∉J:=fun h=>hMr y H (by rw[hM];simp[h]);have hyN:=hNr y H;have hyPa:y∉f:=fun h=>hd.2.2 y (aa h) y aw rfl;simp only[ah,an,jl]at this;rcases this with h|(h|h|h)|h|h
  .exact hzr y H h
  .exact hyMa h
  .exact J6 h.symm
  .exact hyPa h
  .exact U h.symm
  .exact hyN h
end
end Aw
namespace Aw
open Go Go.RowKit Pl
def dt(i j k:Nat):Prop:=(i<j/\j<k)\/(j<k/\k<i)\/(k<i/\i<j)
def Cy(r:AN)(x y z:Int):Prop:=(x∈r/\y∈r/\z∈r)/\dt (r.idxOf x) (r.idxOf y) (r.idxOf z)
def iq(i j k l:Nat):Prop:=(dt i k j/\dt j l i)\/(dt i l j/\dt j k i)
def Cr(r:AN)(x y z w:Int):Prop:=(x∈r/\y∈r/\z∈r/\w∈r)/\iq (r.idxOf x) (r.idxOf y) (r.idxOf z) (r.idxOf w)
def mR{r:AN}{x y:Int}(a:x∈r)(h:r.idxOf x=r.idxOf y):x=y:=by
 have:=jy a;have b:=mh (xs:=r) (x:=x) this;have c:=mh (xs:=r) (x:=y) oO
 grind
theorem Ay{r:AN}{x:Int}(h:x∈r):r.idxOf x<r.length:=jy h
def KB{a b:AN}(c:(a++b).Nodup){v:Int}(h:v∈a++b):((a++b).idxOf v=a.idxOf v/\(b++a).idxOf v=b.length+a.idxOf v/\a.idxOf v<a.length)\/((a++b).idxOf v=a.length+b.idxOf v/\(b++a).idxOf v=b.idxOf v/\b.idxOf v<b.length):=by
 grind [Ay]
def MD{a b:AN}(c:(a++b).Nodup){x y z:Int}(h:Cy (a++b) x y z):Cy (b++a) x y z:=by obtain⟨⟨d,e,f⟩,h⟩:=h;have:=KB c d;have:=KB c e;have:=KB c f;unfold dt at h;exact⟨by grind,by unfold dt;omega⟩
def Rk{a b:AN}(c:(a++b).Nodup){x y z:Int}:Cy (a++b) x y z↔Cy (b++a) x y z:=⟨MD c,MD (by grind)⟩
def RB{r:AN}(c:r.Nodup){x:Int}(b:x∈r):r.reverse.idxOf x+r.idxOf x+1=r.length:=by
 induction r with
 |nil=>cases b
 |cons a r d => 
  grind [Ay]
def Kh{r:AN}(a:r.Nodup){x y z:Int}:Cy r.reverse x y z↔Cy r z y x:=by
 have:=@RB r a;unfold Cy dt
 grind
def SF{r:AN}{x y z w:Int}:Cr r x y z w↔(Cy r x z y/\Cy r y w x)\/(Cy r x w y/\Cy r y z x):=by
 unfold Cr Cy iq
 grind
theorem Cr.mono{r d:AN}{x y z w:Int}(h:Cr r x y z w)(k:∀ a b c,a∈[x,y,z,w]->b∈[x,y,z,w]->c∈[x,y,z,w]->Cy r a b c->Cy d a b c):Cr d x y z w:=by
 rw[SF]at *
 grind
def Rv(f g:AN):Prop:=∀ x y z,x∈g->y∈g->z∈g->Cy f x y z->Cy g z y x
def NoX(f g h:AN):Prop:=∀ a b c d,a∈g->b∈g->c∈h->d∈h->¬Cr f a b c d
def XV{r:AN}{x y z:Int}(d:x∈r)(e:y∈r)(f:z∈r)(a:x≠y)(b:y≠z)(c:x≠z):Cy r x y z\/Cy r z y x:=by
 have:=@mR r;unfold Cy dt
 grind
def Yg{r:AN}{x y z:Int}(h:Cy r x y z):x∈r/\y∈r/\z∈r/\x≠y/\y≠z/\x≠z/\¬Cy r z y x:=by
 unfold Cy dt at *
 grind
def Rv.symm{f g:AN}(h:Rv f g):Rv g f:=fun x y z hx hy hz k=>by
 have:=Yg k;have:=@XV f x y z
 grind [Rv]
def NoX.symm{f g h:AN}(k:NoX f g h):NoX f h g:=fun a b c d ha hb hc hd q=>by obtain⟨⟨h1,h2,h3,h4⟩,q⟩:=q;refine k c d a b hc hd ha hb ⟨⟨h3,h4,h1,h2⟩,?_⟩;unfold iq dt at *;omega
section
variable {x y:Int} {P Q M:List Int} (hn:(x::(P++y::Q)).Nodup) (hm:M.Nodup) (hM:∀ v∈M,v∉x::(P++y::Q))
include hn hm hM
theorem eG{v:Int}(h:v∈x::(P++y::Q)):(x::(P++y::Q)).idxOf v<P.length+Q.length+2/\(v=x->(x::(P++y::Q)).idxOf v=0)/\
 ((v∈x::(P++[y])/\v∈x::(P++y::M.reverse)/\(x::(P++y::M.reverse)).idxOf v=(x::(P++y::Q)).idxOf v/\(x::(P++y::Q)).idxOf v<=P.length+1)\/
 (v∈Q/\v∉x::(P++y::M.reverse)/\P.length+1<(x::(P++y::Q)).idxOf v))/\
 ((v∈y::Q/\v∈y::(Q++x::M)/\v≠x/\(y::(Q++x::M)).idxOf v+P.length+1=(x::(P++y::Q)).idxOf v)\/
 (v=x/\v∈y::(Q++x::M)/\(y::(Q++x::M)).idxOf v=Q.length+1)\/(v∈P/\v∉y::(Q++x::M)/\0<(x::(P++y::Q)).idxOf v/\(x::(P++y::Q)).idxOf v<=P.length)):=by
 have:=@Ay P v;have:=@Ay Q v;rw[ah,an,ah]at h;rcases h with rfl|h|rfl|h
 .grind
 .refine⟨by grind,by grind,by grind,.inr (.inr (by grind))⟩
 .refine⟨by grind,by grind,by grind,.inl (by grind)⟩
 .refine⟨by grind,by grind,by grind,.inl (by grind)⟩
theorem MA{v:Int}(h:v∈M):M.idxOf v<M.length/\(x::(P++y::M.reverse)).idxOf v+M.idxOf v=P.length+M.length+1/\(y::(Q++x::M)).idxOf v=Q.length+2+M.idxOf v:=by have:=@Ay M v h;have:=RB hm h;refine⟨by grind,by grind,by grind⟩
theorem KO{v:Int}(h:v∈x::(P++y::M.reverse))(k:v∉M):v∈x::(P++y::Q)/\(x::(P++y::M.reverse)).idxOf v=(x::(P++y::Q)).idxOf v/\(x::(P++y::Q)).idxOf v<=P.length+1:=by
 have:=eG hn hm hM (v:=v) (by grind)
 grind
theorem Jk{v:Int}(h:v∈y::(Q++x::M))(k:v∉M):v∈x::(P++y::Q)/\(x::(P++y::Q)).idxOf v<P.length+Q.length+2/\(((x::(P++y::Q)).idxOf v=0/\(y::(Q++x::M)).idxOf v=Q.length+1)\/((y::(Q++x::M)).idxOf v+P.length+1=(x::(P++y::Q)).idxOf v)):=by
 have:=eG hn hm hM (v:=v) (by grind)
 grind
theorem Bx{v:Int}(h:v∈x::(P++y::M.reverse))(a:v∈y::(Q++x::M)):((x::(P++y::M.reverse)).idxOf v=0/\(y::(Q++x::M)).idxOf v=Q.length+1)\/((x::(P++y::M.reverse)).idxOf v=P.length+1/\(y::(Q++x::M)).idxOf v=0)\/
 (P.length+1<(x::(P++y::M.reverse)).idxOf v/\Q.length+1<(y::(Q++x::M)).idxOf v/\(x::(P++y::M.reverse)).idxOf v+(y::(Q++x::M)).idxOf v=P.length+M.length+Q.length+3):=by
 by_cases k:v∈M
 .have:=MA hn hm hM k;omega
 .have:=eG hn hm hM (v:=v) (by grind)
  grind
theorem ZA{u v w:Int}(g:u∉M)(j:v∉M)(k:w∉M)(h:Cy (x::(P++y::M.reverse)) u v w):Cy (x::(P++y::Q)) u v w:=by obtain⟨⟨d,e,f⟩,h⟩:=h;have a:=KO hn hm hM d g;have b:=KO hn hm hM e j;have c:=KO hn hm hM f k;unfold dt at h;exact⟨⟨a.1,b.1,c.1⟩,by unfold dt;omega⟩
theorem Yb{u v w:Int}(g:u∉M)(j:v∉M)(k:w∉M)(h:Cy (y::(Q++x::M)) u v w):Cy (x::(P++y::Q)) u v w:=by obtain⟨⟨d,e,f⟩,h⟩:=h;have a:=Jk hn hm hM d g;have b:=Jk hn hm hM e j;have c:=Jk hn hm hM f k;unfold dt at h;exact⟨⟨a.1,b.1,c.1⟩,by unfold dt;omega⟩
theorem WJ:Rv (x::(P++y::M.reverse)) (y::(Q++x::M)):=by rintro u v w a b c ⟨⟨d,e,f⟩,h⟩;have:=Bx hn hm hM d a;have:=Bx hn hm hM e b;have:=Bx hn hm hM f c;refine⟨⟨c,b,a⟩,?_⟩;unfold dt at *;omega
variable {g h:List Int} (hg:∀ v∈M,v∉g) (hh:∀ v∈M,v∉h)
include hg
theorem Yh(h:Rv (x::(P++y::Q)) g):Rv (x::(P++y::M.reverse)) g:=fun u v w a b d k=>h u v w a b d (ZA hn hm hM (fun c=>hg _ c a) (fun c=>hg _ c b) (fun c=>hg _ c d) k)
theorem YM(h:Rv (x::(P++y::Q)) g):Rv (y::(Q++x::M)) g:=fun u v w a b d k=>h u v w a b d (Yb hn hm hM (fun c=>hg _ c a) (fun c=>hg _ c b) (fun c=>hg _ c d) k)
theorem PY:NoX (x::(P++y::M.reverse)) (y::(Q++x::M)) g:=by rintro a b c d m n o p ⟨⟨e,f,j,l⟩,h⟩;have:=Bx hn hm hM e m;have:=Bx hn hm hM f n;have:=KO hn hm hM j fun k=>hg _ k o;have:=KO hn hm hM l fun k=>hg _ k p;unfold iq dt at *;omega
theorem RL:NoX (y::(Q++x::M)) (x::(P++y::M.reverse)) g:=by rintro a b c d m n o p ⟨⟨e,f,j,l⟩,h⟩;have:=Bx hn hm hM m e;have:=Bx hn hm hM n f;have:=Jk hn hm hM j fun k=>hg _ k o;have:=Jk hn hm hM l fun k=>hg _ k p;unfold iq dt at *;omega
theorem WE(w:Rv (x::(P++y::Q)) g):NoX g (x::(P++y::M.reverse)) (y::(Q++x::M)):=by
 rintro a b c d z A B C ⟨⟨f,j,n,o⟩,h⟩;obtain⟨l,D⟩:=KO hn hm hM z fun k=>hg _ k f;obtain⟨m,E⟩:=KO hn hm hM A fun k=>hg _ k j;obtain⟨t,F⟩:=Jk hn hm hM B fun k=>hg _ k n;obtain⟨v,H⟩:=Jk hn hm hM C fun k=>hg _ k o;have e:=w.symm;rcases h with⟨p,q⟩|⟨p,q⟩
 .have r:=(e a c b l t m ⟨⟨f,n,j⟩,p⟩).2;have s:=(e b d a m v l ⟨⟨j,o,f⟩,q⟩).2;unfold dt at r s;omega
 .have r:=(e a d b l v m ⟨⟨f,o,j⟩,p⟩).2;have s:=(e b c a m t l ⟨⟨j,n,f⟩,q⟩).2;unfold dt at r s;omega
include hh
theorem Vv{a b c d:Int}(e:a∈g)(f:b∈g)(j:c∈h)(l:d∈h):∀ v∈[a,b,c,d],v∉M:=by simp only[List.forall_mem_cons];exact⟨fun k=>hg _ k e,fun k=>hg _ k f,fun k=>hh _ k j,fun k=>hh _ k l,sS⟩
theorem Yd(k:NoX (x::(P++y::Q)) g h):NoX (x::(P++y::M.reverse)) g h:=fun a b c d e f j l q=>
 have z:=Vv hn hm hM hg hh e f j l
 k a b c d e f j l (q.mono fun _ _ _ m n o=>ZA hn hm hM (z _ m) (z _ n) (z _ o))
theorem Yn(k:NoX (x::(P++y::Q)) g h):NoX (y::(Q++x::M)) g h:=fun a b c d e f j l q=>
 have z:=Vv hn hm hM hg hh e f j l
 k a b c d e f j l (q.mono fun _ _ _ m n o=>Yb hn hm hM (z _ m) (z _ n) (z _ o))
end
structure Rgs(F:List AN):Prop where
 nd:∀ i,i<F.length->(F.getD i []).Nodup
 rev:∀ i j,i<F.length->j<F.length->i≠j->Rv (F.getD i []) (F.getD j [])
 nox:∀ i j k,i<F.length->j<F.length->k<F.length->i≠j->i≠k->j≠k->NoX (F.getD i []) (F.getD j []) (F.getD k [])
def Rm{F:List AN}{n:Nat}(c:n<F.length)(a b:AN)(i:Nat):(F.set n a++[b]).getD i []=if i=n then a else if i=F.length then b else F.getD i []:=by
 grind
def Sc(f g:AN):Prop:=(∀ v,v∈f↔v∈g)/\∀ x y z,Cy f x y z↔Cy g x y z
def ES{a b:AN}(c:(a++b).Nodup):Sc (a++b) (b++a):=⟨by grind,fun _ _ _=>Rk c⟩
def Sc.rv{f e g:AN}(h:Sc f e)(k:Rv f g):Rv e g:=fun x y z a b c d=>k x y z a b c ((h.2 x y z).2 d)
def Sc.nox{f e g h:AN}(s:Sc f e)(k:NoX f g h):NoX e g h:=fun a b c d j l m n q=>k a b c d j l m n (q.mono fun _ _ _ _ _ _=>(s.2 _ _ _).2)
def Sc.nox2{f g e h:AN}(s:Sc g e)(k:NoX f g h):NoX f e h:=fun a b c d j l m n q=>k a b c d ((s.1 _).2 j) ((s.1 _).2 l) m n q
def Rgs.lay{F:List AN}(h:Rgs F){n:Nat}(I:n<F.length){x y:Int}{P Q M:AN}(s:Sc (F.getD n []) (x::(P++y::Q)))(o:(x::(P++y::Q)).Nodup)(p:M.Nodup)(m:∀ i,i<F.length->∀ v∈M,v∉F.getD i []):
 Rgs (F.set n (x::(P++y::M.reverse))++[y::(Q++x::M)]):=by
 have e:∀ v∈M,v∉x::(P++y::Q):=fun v k c=>m n I v k ((s.1 v).2 c)
 have C:∀ i,i<(F.set n (x::(P++y::M.reverse))++[y::(Q++x::M)]).length->(i=n/\(F.set n (x::(P++y::M.reverse))++[y::(Q++x::M)]).getD i []=x::(P++y::M.reverse))\/(i=F.length/\(F.set n (x::(P++y::M.reverse))++[y::(Q++x::M)]).getD i []=y::(Q++x::M))\/
  ((i<F.length/\i≠n)/\(F.set n (x::(P++y::M.reverse))++[y::(Q++x::M)]).getD i []=F.getD i []):=by
  grind
 generalize F.set n (x::(P++y::M.reverse))++[y::(Q++x::M)]=G at *;have B:∀ i,(i<F.length/\i≠n)->Rv (x::(P++y::Q)) (F.getD i []):=fun i k=>s.rv (h.rev n i I k.1 k.2.symm);have E:∀ i j,(i<F.length/\i≠n)->(j<F.length/\j≠n)->i≠j->NoX (x::(P++y::Q)) (F.getD i []) (F.getD j []):=fun i j k D q=>s.nox (h.nox n i j I k.1 D.1 k.2.symm D.2.symm q);have w:∀ i j,(i<F.length/\i≠n)->(j<F.length/\j≠n)->i≠j->NoX (F.getD i []) (x::(P++y::Q)) (F.getD j []):=fun i j k D q=>s.nox2 (h.nox i n j k.1 I D.1 k.2 q D.2.symm);have U:∀ g r,NoX g (x::(P++y::Q)) r->(∀ v∈M,v∉g)->NoX g (x::(P++y::M.reverse)) r:=fun g r k W a b c d Y Z S T q=>k a b c d (by grind [Cr]) (by grind [Cr]) S T q;have V:∀ g r,NoX g (x::(P++y::Q)) r->(∀ v∈M,v∉g)->NoX g (y::(Q++x::M)) r:=fun g r k W a b c d Y Z S T q=>k a b c d (by grind [Cr]) (by grind [Cr]) S T q;refine⟨fun i H=>?_,fun i j H R O=>?_,fun i j k H R X K L N=>?_⟩
 .have:=h.nd i;grind
 .rcases C i H with⟨f,z⟩|⟨f,z⟩|⟨f,z⟩<;>rcases C j R with⟨l,A⟩|⟨l,A⟩|⟨l,A⟩<;>rw[z,A]
  .omega
  .exact WJ o p e
  .exact Yh o p e (m j l.1) (B j l)
  .exact(WJ o p e).symm
  .omega
  .exact YM o p e (m j l.1) (B j l)
  .exact(Yh o p e (m i f.1) (B i f)).symm
  .exact(YM o p e (m i f.1) (B i f)).symm
  .exact h.rev i j f.1 l.1 O
 .rcases C i H with⟨f,z⟩|⟨f,z⟩|⟨f,z⟩<;>rcases C j R with⟨l,A⟩|⟨l,A⟩|⟨l,A⟩<;>rcases C k X with⟨t,J⟩|⟨t,J⟩|⟨t,J⟩<;>first|omega|rw[z,A,J]
  .exact PY o p e (m k t.1)
  .exact(PY o p e (m j l.1)).symm
  .exact Yd o p e (m j l.1) (m k t.1) (E j k l t N)
  .exact RL o p e (m k t.1)
  .exact(RL o p e (m j l.1)).symm
  .exact Yn o p e (m j l.1) (m k t.1) (E j k l t N)
  .exact WE o p e (m i f.1) (B i f)
  .exact U _ _ (w i k f t L) (m i f.1)
  .exact(WE o p e (m i f.1) (B i f)).symm
  .exact V _ _ (w i k f t L) (m i f.1)
  .exact(U _ _ (w i j f l K) (m i f.1)).symm
  .exact(V _ _ (w i j f l K) (m i f.1)).symm
  .exact h.nox i j k f.1 l.1 t.1 K L N
structure Avo(r:AN)(C D:Int->Prop):Prop where
 no:∀ a b c d,C a->C b->D c->D d->¬Cr r a b c d
 three:∀ a b c,C a->C b->C c->D a->D b->D c->a=b\/b=c\/a=c
def Mm{r:AN}{a b c d:Int}(h:Cr r a b c d):Cr r c d a b:=by obtain⟨⟨e,f,g,j⟩,q⟩:=h;refine⟨⟨g,j,e,f⟩,?_⟩;unfold iq dt at *;omega
def VS{r d:AN}{x y z w:Int}(h:Cr r x y z w)(k:∀ a b c,a∈[x,y,z,w]->b∈[x,y,z,w]->c∈[x,y,z,w]->Cy r a b c->Cy d c b a):Cr d x y z w:=by
 rw[SF]at *
 grind
def Avo.symm{r:AN}{C D:Int->Prop}(h:Avo r C D):Avo r D C:=⟨fun a b c d k1 k2 k3 k4 q=>h.no c d a b k3 k4 k1 k2 (Mm q),by grind [Avo]⟩
def Sm(C:Int->Prop)(f g:AN):Prop:=∀ x y z,C x->C y->C z->(Cy f x y z↔Cy g x y z)
theorem Avo.mono{r l:AN}{C D e f:Int->Prop}(h:Avo r C D)(g:∀ v,e v->C v)(j:∀ v,f v->D v)(k:∀ a b c,(e a\/f a)->(e b\/f b)->(e c\/f c)->Cy l a b c->Cy r a b c):Avo l e f:=
 ⟨fun a b c d m n o p q=>h.no a b c d (g _ m) (g _ n) (j _ o) (j _ p) (q.mono fun _ _ _ s t w=>k _ _ _ (by grind) (by grind) (by grind)),by grind [Avo]⟩
def Avo.flip{r e:AN}{C D:Int->Prop}(h:Avo r C D)(k:∀ a b c,(C a\/D a)->(C b\/D b)->(C c\/D c)->Cy e a b c->Cy r c b a):Avo e C D:=
 ⟨fun a b c d f g j l q=>h.no a b c d f g j l (VS q fun _ _ _ m n o=>k _ _ _ (by grind) (by grind) (by grind)),h.three⟩
def Avo.rev{r:AN}{C D:Int->Prop}(a:r.Nodup)(h:Avo r C D):Avo r.reverse C D:=h.flip fun _ _ _ _ _ _=>(Kh a).1
def Avo.rot{a b:AN}{C D:Int->Prop}(c:(a++b).Nodup)(h:Avo (a++b) C D):Avo (b++a) C D:=h.mono (fun _=>id) (fun _=>id) fun _ _ _ _ _ _=>(Rk c).2
def NF{f g h:AN}{C D:Int->Prop}(w:NoX f g h)(j:∀ v,C v->v∈f/\v∈g)(o:∀ v,D v->v∈f/\v∈h){t:Int}(m:D t)(r:t∉g):Avo f C D:=by
 have q:∀ a b c d,C a->C b->D c->D d->¬Cr f a b c d:=fun a b c d l n p x=>w a b c d (j _ l).2 (j _ n).2 (o _ p).2 (o _ x).2;refine⟨q,fun a b c l n p B E F=>?_⟩;have s:∀ v,C v->t≠v:=fun v k e=>r (e ▸ (j v k).2);have H:=@mR f t a (o t m).1;have I:=@mR f t b (o t m).1;have J:=@mR f t c (o t m).1;have K:=@mR f a b (j a l).1;have L:=@mR f b c (j b n).1;have M:=@mR f a c (j a l).1;have y:=q a b t c l n m F;have z:=q b c t a n p m B;have A:=q a c t b l p m E;have:=j a l;have:=j b n;have:=j c p;have:=o t m;have:=s a l;have:=s b n;have:=s c p;simp only[Cr,iq,dt]at y z A
 grind
section
variable {x y:Int} {P Q M:List Int} (hn:(x::(P++y::Q)).Nodup) (hm:M.Nodup) (hM:∀ v∈M,v∉x::(P++y::Q))
include hn hm hM
theorem Yv{u v w:Int}(d:u∈x::(P++[y]))(e:v∈x::(P++[y]))(f:w∈x::(P++[y])):Cy (x::(P++y::M.reverse)) u v w↔Cy (x::(P++y::Q)) u v w:=by
 have a:=eG hn hm hM (v:=u) (by grind);have b:=eG hn hm hM (v:=v) (by grind);have c:=eG hn hm hM (v:=w) (by grind);unfold Cy
 grind
theorem DE{C D B:Int->Prop}(z:B x)(A:B y)(l:Avo (x::(P++y::Q)) D B)(W:∀ v,D v->v∈x::(P++[y]))(w:(∃ v,D v/\v∈P)\/(∀ v,B v->v∉P)\/¬(D x/\D y))(V:∀ v,C v->v∈M\/(B v/\v∈x::(P++[y]))):Avo (x::(P++y::M.reverse)) D C:=by
 have g:∀ v,D v->v∈x::(P++y::Q)/\v∉M/\(x::(P++y::M.reverse)).idxOf v=(x::(P++y::Q)).idxOf v/\(x::(P++y::Q)).idxOf v<=P.length+1:=fun v k=>by
  have:=eG hn hm hM (v:=v) (by grind)
  grind
 have F:∀ v,C v->(v∈M/\P.length+1<(x::(P++y::M.reverse)).idxOf v)\/(B v/\v∈x::(P++y::Q)/\v∉M/\(x::(P++y::M.reverse)).idxOf v=(x::(P++y::Q)).idxOf v/\(x::(P++y::Q)).idxOf v<=P.length+1):=fun v k=>by
  by_cases q:v∈M
  .have:=MA hn hm hM q;exact .inl ⟨q,oO⟩
  .have:=eG hn hm hM (v:=v) (by grind)
   grind
 have o:∀ a b d,D a->D b->B d->d∈x::(P++y::Q)->(x::(P++y::Q)).idxOf a<(x::(P++y::Q)).idxOf d->(x::(P++y::Q)).idxOf d<(x::(P++y::Q)).idxOf b->False:=by
  intro a b d e f n N T U;have Z:(x::(P++y::Q)).idxOf x=0:=by grind
  have py:(x::(P++y::Q)).idxOf y=P.length+1:=by
   have:=eG hn hm hM (v:=y) (by grind)
   grind
  have X:x∈x::(P++y::Q):=by grind
  have Y:y∈x::(P++y::Q):=by grind
  have r:=g a e;have s:=g b f;have J:d∈P:=by
   have:=eG hn hm hM N
   grind
  have K:a=x:=by
   have:=l.no a b d x e f n z;have:=@mR (x::(P++y::Q)) a x r.1;simp only[Cr,iq,dt]at *
   grind
  have L:b=y:=by
   have:=l.no a b d y e f n A;have:=@mR (x::(P++y::Q)) b y s.1;simp only[Cr,iq,dt]at *
   grind
  subst K L;rcases w with⟨t,m,E⟩|k|k
  .have H:=g t m;have:=l.three a b t e f m z A;have:=l.no t b d a m f n z;have:=l.no a t d b e m n A;have:=@mR (a::(P++b::Q)) t d H.1;have:=eG hn hm hM H.1;simp only[Cr,iq,dt]at *
   grind
  .exact k d n J
  .exact k ⟨e,f⟩
 refine⟨fun a b c d e f O n q=>?_,fun a b c m E I q1 p q3=>?_⟩
 .have r:=g a e;have s:=g b f;have p:=q.2;rcases F c O with fc|fc<;>rcases F d n with j|j
  .unfold iq dt at p;omega
  .have R:¬((x::(P++y::Q)).idxOf a<(x::(P++y::Q)).idxOf d/\(x::(P++y::Q)).idxOf d<(x::(P++y::Q)).idxOf b):=fun h=>o a b d e f j.1 j.2.1 h.1 h.2;have S:¬((x::(P++y::Q)).idxOf b<(x::(P++y::Q)).idxOf d/\(x::(P++y::Q)).idxOf d<(x::(P++y::Q)).idxOf a):=fun h=>o b a d f e j.1 j.2.1 h.1 h.2;unfold iq dt at p;omega
  .have R:¬((x::(P++y::Q)).idxOf a<(x::(P++y::Q)).idxOf c/\(x::(P++y::Q)).idxOf c<(x::(P++y::Q)).idxOf b):=fun h=>o a b c e f fc.1 fc.2.1 h.1 h.2;have S:¬((x::(P++y::Q)).idxOf b<(x::(P++y::Q)).idxOf c/\(x::(P++y::Q)).idxOf c<(x::(P++y::Q)).idxOf a):=fun h=>o b a c f e fc.1 fc.2.1 h.1 h.2;unfold iq dt at p;omega
  .refine l.no a b c d e f fc.1 j.1 ⟨⟨r.1,s.1,fc.2.1,j.2.1⟩,?_⟩;unfold iq dt at *;omega
 .have:=g a m;have:=g b E;have:=g c I;exact l.three a b c m E I (by grind) (by grind) (by grind)
end
section
variable {x y:Int} {P Q P' Q' M:List Int} (hn:(x::(P++y::Q)).Nodup) (K4:(x::(P'++y::Q')).Nodup) (hm:M.Nodup) (hM:∀ v∈M,v∉x::(P++y::Q)) (hM':∀ v∈M,v∉x::(P'++y::Q')) {B:Int->Prop} (hx:B x) (hy:B y) (hs:Sm B (x::(P++y::Q)) (x::(P'++y::Q')))
include hn K4 hm hM hM' hx hy hs
theorem Qu{v:Int}(f:B v)(h:v∈x::(P'++[y])):v∈x::(P++[y]):=by
 by_cases k:v∈P'
 .have a:=eG K4 hm hM' (v:=v) (by grind);have b:=eG K4 hm hM' (v:=y) (by grind);have c:=eG K4 hm hM' (v:=x) (by grind);have d:=(hs x v y hx f hy).2 ⟨⟨by grind,by grind,by grind⟩,by unfold dt;grind⟩;have e:=eG hn hm hM (v:=v) d.1.2.1;have g:=eG hn hm hM (v:=y) (by grind);have i:=eG hn hm hM (v:=x) (by grind);have q:=d.2;unfold dt at q
  grind
 .grind
theorem ZR{a b:Int}(g:B a)(j:B b)(k:a∈x::(P++[y]))(l:b∈x::(P++[y]))(h:(x::(P'++y::Q')).idxOf a<(x::(P'++y::Q')).idxOf b)(c:a∈x::(P'++[y]))(f:b∈x::(P'++[y])):(x::(P++y::Q)).idxOf a<(x::(P++y::Q)).idxOf b:=by
 have m:=eG K4 hm hM' (v:=a) (by grind);have n:=eG K4 hm hM' (v:=b) (by grind);have o:=eG K4 hm hM' (v:=x) (by grind);have p:=eG hn hm hM (v:=a) (by grind);have r:=eG hn hm hM (v:=b) (by grind);have s:=eG hn hm hM (v:=x) (by grind);by_cases e:a=x
 .grind
 .have d:=(hs x a b hx g j).2 ⟨⟨by grind,by grind,by grind⟩,by unfold dt;grind⟩;have q:=d.2;unfold dt at q
  grind
theorem Jc{a b c:Int}(l:a∈M\/(B a/\a∈x::(P'++[y])))(n:b∈M\/(B b/\b∈x::(P'++[y])))(o:c∈M\/(B c/\c∈x::(P'++[y])))(h:Cy (x::(P'++y::M.reverse)) a b c):Cy (x::(P++y::M.reverse)) a b c:=by
 have f:∀ u v,(u∈M\/(B u/\u∈x::(P'++[y])))->(v∈M\/(B v/\v∈x::(P'++[y])))->(x::(P'++y::M.reverse)).idxOf u<(x::(P'++y::M.reverse)).idxOf v->u∈x::(P++y::M.reverse)/\v∈x::(P++y::M.reverse)/\(x::(P++y::M.reverse)).idxOf u<(x::(P++y::M.reverse)).idxOf v:=by
  intro u v d e h;have g:∀ w,w∈M->(x::(P'++y::M.reverse)).idxOf w+M.idxOf w=P'.length+M.length+1/\(x::(P++y::M.reverse)).idxOf w+M.idxOf w=P.length+M.length+1/\M.idxOf w<M.length/\w∈x::(P++y::M.reverse):=fun w k=>by
   have:=MA hn hm hM k;have:=MA K4 hm hM' k
   grind
  have j:∀ w,B w/\w∈x::(P'++[y])->(x::(P'++y::M.reverse)).idxOf w=(x::(P'++y::Q')).idxOf w/\(x::(P'++y::Q')).idxOf w<=P'.length+1/\(x::(P++y::M.reverse)).idxOf w=(x::(P++y::Q)).idxOf w/\(x::(P++y::Q)).idxOf w<=P.length+1/\w∈x::(P++[y])/\w∈x::(P++y::M.reverse):=fun w k=>by
   have q:=Qu hn K4 hm hM hM' hx hy hs k.1 k.2;have:=eG K4 hm hM' (v:=w) (by grind);have:=eG hn hm hM (v:=w) (by grind)
   grind
  rcases d with d|d<;>rcases e with e|e
  .have:=g u d;have:=g v e
   exact⟨by grind,by grind,oO⟩
  .have:=g u d;have:=j v e
   exact⟨by grind,by grind,oO⟩
  .have:=j u d;have:=g v e
   exact⟨by grind,by grind,oO⟩
  .have p:=j u d;have r:=j v e;have:=ZR hn K4 hm hM hM' hx hy hs d.1 e.1 p.2.2.2.2.1 r.2.2.2.2.1 oO d.2 e.2;exact⟨by grind,by grind,oO⟩
 obtain⟨m,h⟩:=h;have:=f a b l n;have:=f b c n o;have:=f c a o l;unfold dt at h;exact⟨by grind,by unfold dt;grind⟩
end
theorem Sm.symm{B:Int->Prop}{f g:AN}(h:Sm B f g):Sm B g f:=fun x y z a b c=>(h x y z a b c).symm
structure Al{Θ:Type}(F:List AN)(live:Θ->Prop)(ct:Θ->Int->Prop)(K:Θ->AN->Prop)(α:Θ->Nat):Prop where
 lt:∀ T,live T->α T<F.length
 on:∀ T,live T->∀ v,ct T v->v∈F.getD (α T) []
 avo:∀ T T',live T->live T'->T≠T'->α T=α T'->Avo (F.getD (α T) []) (ct T) (ct T')
 sim:∀ T,live T->∃ r,K T r/\Sm (ct T) (F.getD (α T) []) r
def QF{C:Int->Prop}{f g r:AN}(hf:Rv f g)(e:r.Nodup)(d:∀ v,C v->v∈f/\v∈g)(h:Sm C f r):Sm C g r.reverse:=fun x y z a b c=>by
 rw[Kh e,<- h z y x c b a];have:=hf z y x (d z c).2 (d y b).2 (d x a).2;have:=hf.symm x y z (d x a).1 (d y b).1 (d z c).1
 grind
def Al.swap{Θ:Type}{F:List AN}{live:Θ->Prop}{l:Θ->Int->Prop}{K:Θ->AN->Prop}{o:Θ->Nat}(h:Al F live l K o)(R:Rgs F)(O:∀ T r,K T r->K T r.reverse/\r.Nodup)(h2:∀ T,live T->∀ g,∃ i,i≠g/\i<F.length/\∀ v,l T v->v∈F.getD i [])
 {b:Θ} (hb:live b) {f:Nat} (hf:f<F.length) (U:∀ v,l b v->v∈F.getD f []):∃ B,Al F live l K B/\B b=f:=by
 by_cases e:o b=f
 .exact⟨o,h,e⟩
 have L:=h.lt b hb;have V:=h.on b hb;generalize X:o b=g at *
 have W:∃ B:Θ->Nat,∀ T,((∀ v,l T v->v∈F.getD f []/\v∈F.getD g [])->B T=if o T=f then g else if o T=g then f else o T)/\(¬(∀ v,l T v->v∈F.getD f []/\v∈F.getD g [])->B T=o T):=
  ⟨fun T=>open Classical in if(∀ v,l T v->v∈F.getD f []/\v∈F.getD g [])then(if o T=f then g else if o T=g then f else o T)else o T,fun T=>⟨fun k=>ad k,fun k=>ac k⟩⟩
 obtain⟨B,A⟩:=W;refine⟨B,⟨fun T k=>?_,fun T k v H=>?_,fun T p k N c7 n=>?_,fun T k=>?_⟩,?_⟩
 .have:=h.lt T k;by_cases c:∀ v,l T v->v∈F.getD f []/\v∈F.getD g []
  .have:=(A T).1 c;grind
  .have:=(A T).2 c;grind
 .have:=h.on T k v H;by_cases c:∀ v,l T v->v∈F.getD f []/\v∈F.getD g []
  .have:=(A T).1 c;have:=c v H;grind
  .have:=(A T).2 c;grind
 .have E:=h.avo T p k N c7;have o1:=h.on T k;have o2:=h.on p N;have l1:=h.lt T k;have l2:=h.lt p N;have I:=R.rev f g hf L (fD e);have Z:∀ i j,Rv (F.getD i []) (F.getD j [])->(∀ v,l T v->v∈F.getD i []/\v∈F.getD j [])->(∀ v,l p v->v∈F.getD i []/\v∈F.getD j [])->Avo (F.getD j []) (l T) (l p)->Avo (F.getD i []) (l T) (l p):=fun i j r w D q=>q.flip fun x y z a b c=>r x y z (by grind) (by grind) (by grind);have s:∀ i j S J,live J->i<F.length->j<F.length->i≠j->(∀ v,l S v->v∈F.getD i []/\v∈F.getD j [])->(∀ v,l J v->v∈F.getD i [])->¬(∀ v,l J v->v∈F.getD i []/\v∈F.getD j [])->Avo (F.getD i []) (l S) (l J):=by
   intro i j S J hl hi hj Y w D c3;obtain⟨m,m1,m2,m3⟩:=h2 J hl i;have:∃ t,l J t/\t∉F.getD j []:=by grind
   obtain⟨t,t1,t2⟩:=this;exact NF (R.nox i j m hi hj m2 Y m1.symm (fun e=>t2 (e ▸ m3 t t1))) w (fun v H=>⟨D v H,m3 v H⟩) t1 t2
  have sw:∀ {S:Θ},(∀ v,l S v->v∈F.getD f []/\v∈F.getD g [])->∀ v,l S v->v∈F.getD g []/\v∈F.getD f []:=fun k v q=>(k v q).symm;by_cases w:∀ v,l T v->v∈F.getD f []/\v∈F.getD g []<;>by_cases D:∀ v,l p v->v∈F.getD f []/\v∈F.getD g []
  .rw[(A T).1 w]at n ⊢;rw[(A p).1 D]at n;by_cases d:o T=f
   .have Q:o p=f:=by grind
    rw[ad d];exact Z g f I.symm (sw w) (sw D) (d ▸ E (by rw[d,Q]))
   .by_cases C:o T=g
    .have Q:o p=g:=by grind
     rw[ac d,ad C];exact Z f g I w D (C ▸ E (by rw[C,Q]))
    .rw[ac d,ac C];exact E (by grind)
  .rw[(A T).1 w]at n ⊢;rw[(A p).2 D]at n;by_cases d:o T=f
   .rw[ad d]at n ⊢;exact s g f T p N L hf e (sw w) (fun v H=>n ▸ o2 v H) fun q=>D fun v k=>(q v k).symm
   .by_cases C:o T=g
    .rw[ac d,ad C]at n ⊢;exact s f g T p N hf L (fD e) w (fun v H=>n ▸ o2 v H) D
    .rw[ac d,ac C]at n ⊢;exact E n
  .rw[(A T).2 w]at n ⊢;rw[(A p).1 D]at n;by_cases d:o p=f
   .rw[ad d]at n;rw[n];exact(s g f p T k L hf e (sw D) (fun v H=>n ▸ o1 v H) fun q=>w fun v k=>(q v k).symm).symm
   .by_cases C:o p=g
    .rw[ac d,ad C]at n;rw[n];exact(s f g p T k hf L (fD e) D (fun v H=>n ▸ o1 v H) w).symm
    .rw[ac d,ac C]at n;exact E n
  .rw[(A T).2 w]at n ⊢;rw[(A p).2 D]at n;exact E n
 .obtain⟨r,M,P⟩:=h.sim T k;have I:=R.rev f g hf L (fD e);by_cases w:∀ v,l T v->v∈F.getD f []/\v∈F.getD g []
  .rw[(A T).1 w];by_cases d:o T=f
   .rw[ad d];exact⟨_,(O T r M).1,QF I (O T r M).2 w (d ▸ P)⟩
   .by_cases C:o T=g
    .rw[ac d,ad C];exact⟨_,(O T r M).1,QF I.symm (O T r M).2 (fun v q=>(w v q).symm) (C ▸ P)⟩
    .rw[ac d,ac C];exact⟨r,M,P⟩
  .rw[(A T).2 w];exact⟨r,M,P⟩
 .rw[(A b).1 fun v k=>⟨U v k,V v k⟩,X,ac e,ad rfl]
def half{x y:Int}{P Q P' Q' M:AN}(t:(x::(P++y::Q)).Nodup)(C:(x::(P'++y::Q')).Nodup)(s:M.Nodup)(p:∀ v∈M,v∉x::(P++y::Q))(j:∀ v∈M,v∉x::(P'++y::Q')){B:Int->Prop}(w:B x)(A:B y)(E:Sm B (x::(P++y::Q)) (x::(P'++y::Q')))
 {Θ:Type} {ct:Θ->Int->Prop} {K:Θ->AN->Prop} {old pc:Θ->Prop}
 (g:∀ T,old T->(∀ v,ct T v->v∈x::(P++[y]))/\((∃ v,ct T v/\v∈P)\/(∀ v,B v->v∉P)\/¬(ct T x/\ct T y))/\Avo (x::(P++y::Q)) (ct T) B/\∃ r,K T r/\Sm (ct T) (x::(P++y::Q)) r)
 (F:∀ T d,old T->old d->T≠d->Avo (x::(P++y::Q)) (ct T) (ct d))
 (H:∀ T,pc T->(∀ v,ct T v->v∈M\/B v)/\(∀ v,ct T v->v∈x::(P'++y::M.reverse))/\K T (x::(P'++y::M.reverse)))
 (I:∀ T d,pc T->pc d->T≠d->Avo (x::(P'++y::M.reverse)) (ct T) (ct d)):
 (∀ T,old T\/pc T->(∀ v,ct T v->v∈x::(P++y::M.reverse))/\∃ r,K T r/\Sm (ct T) (x::(P++y::M.reverse)) r)/\∀ T d,old T\/pc T->old d\/pc d->T≠d->Avo (x::(P++y::M.reverse)) (ct T) (ct d):=by
 have q:∀ T,pc T->∀ v,ct T v->v∈M\/(B v/\v∈x::(P'++[y])):=fun T k v o=>by
  have:=(H T k).1 v o;have:=(H T k).2.1 v o
  grind
 have h:∀ T,pc T->∀ v,ct T v->v∈M\/(B v/\v∈x::(P++[y])):=fun T k v o=>(q T k v o).imp id fun z=>⟨z.1,Qu t C s p j w A E z.1 z.2⟩;have e:=@Yv x y P Q M t s p;refine⟨fun T k=>?_,fun T d k f J=>?_⟩
 .rcases k with k|k
  .obtain⟨D,_,_,r,L,N⟩:=g T k;exact⟨fun v o=>by have:=D v o;grind,r,L,fun a b c l m n=>(e (D a l) (D b m) (D c n)).trans (N a b c l m n)⟩
  .refine⟨fun v o=>by have:=h T k v o;grind,_,(H T k).2.2,fun a b c l m n=>⟨?_,?_⟩⟩
   .exact Jc C t s j p w A E.symm (h T k a l) (h T k b m) (h T k c n)
   .exact Jc t C s p j w A E (q T k a l) (q T k b m) (q T k c n)
 .rcases k with k|k<;>rcases f with f|f
  .exact(F T d k f J).mono (fun _=>id) (fun _=>id) fun a b c l m n=>(e (l.elim ((g T k).1 a) ((g d f).1 a)) (m.elim ((g T k).1 b) ((g d f).1 b)) (n.elim ((g T k).1 c) ((g d f).1 c))).1
  .exact DE t s p w A (g T k).2.2.1 (g T k).1 (g T k).2.1 (h d f)
  .exact(DE t s p w A (g d f).2.2.1 (g d f).1 (g d f).2.1 (h T k)).symm
  .exact(I T d k f J).mono (fun _=>id) (fun _=>id) fun a b c l m n=>Jc C t s j p w A E.symm (l.elim (h T k a) (h d f a)) (m.elim (h T k b) (h d f b)) (n.elim (h T k c) (h d f c))
def Fi{r:AN}{x y:Int}(e:x∈r)(g:y∈r)(f:x≠y):∃ a b P Q,r=a++b/\b++a=x::(P++y::Q):=by
 obtain⟨a,b,rfl⟩:=ij e;rcases(by grind:y∈b\/y∈a)with h|h
 .obtain⟨c,d,rfl⟩:=ij h;exact⟨a,x::(c++y::d),c,d++a,rfl,sS⟩
 .obtain⟨c,d,rfl⟩:=ij h;exact⟨c++y::d,x::b,b++c,d,rfl,sS⟩
def Sc.avo{f g:AN}{C D:Int->Prop}(s:Sc f g)(h:Avo f C D):Avo g C D:=h.mono (fun _=>id) (fun _=>id) fun a b c _ _ _=>(s.2 a b c).2
def Tt{x y v w:Int}{P Q:AN}(c:(x::(P++y::Q)).Nodup)(a:v∈P)(b:w∈Q):Cr (x::(P++y::Q)) x y v w:=by have:=Ay a;have:=Ay b;refine⟨by grind,.inl ⟨?_,?_⟩⟩<;>unfold dt<;>grind
def lg(a:Int->Prop)(B:Int->Prop)(x y:Int)(P:AN):Prop:=(∀ v,a v->v∈x::(P++[y]))/\((∃ v,a v/\v∈P)\/(∀ v,B v->v∉P)\/¬(a x/\a y))
def UU{x y:Int}{P Q:AN}(p:(x::(P++y::Q)).Nodup){C B:Int->Prop}(g:B x)(j:B y)(o:Avo (x::(P++y::Q)) C B)(e:∀ v,C v->v∈x::(P++y::Q))(h:¬lg C B x y P):lg C B y x Q:=by
 have f:∀ v w,v∈P->w∈Q->Cr (x::(P++y::Q)) x y v w:=fun v w=>Tt p;have r:∀ v w,C v->C w->v∈P->w∈Q->False:=fun v w k l m n=>o.no v w x y k l g j (Mm (f v w m n));have s:∀ v w,B v->B w->v∈P->w∈Q->C x->C y->False:=fun v w k l m n g j=>o.no x y v w g j k l (f v w m n);unfold lg at *;by_cases a:∃ v,C v/\v∈P<;>by_cases b:∃ v,C v/\v∈Q
 .grind
 .exact absurd ⟨fun v k=>by have:=e v k;grind,.inl a⟩ h
 .exact⟨fun v k=>by have:=e v k;grind,.inl b⟩
 .have k:∀ v,C v->v=x\/v=y:=fun v k=>by have:=e v k;grind
  refine⟨by grind,?_⟩;by_cases c:C x/\C y
  .by_cases d:∀ v,B v->v∉P
   .exact absurd ⟨fun v q=>by have:=k v q;grind,.inr (.inl d)⟩ h
   .right;left;grind
  .grind
def Kw{x y:Int}{P Q:AN}(h:(x::(P++y::Q)).Nodup):(y::(Q++x::P)).Nodup:=by grind
def Al.lay{Θ:Type}{F:List AN}{live:Θ->Prop}{f:Θ->Int->Prop}{K:Θ->AN->Prop}{m:Θ->Nat}(h:Al F live f K m)(hK:∀ T r,K T r->K T r.reverse/\r.Nodup)
 {b:Θ} (X:live b) {n:Nat} (e:m b=n) {x y:Int} {P Q M:AN} (s:Sc (F.getD n []) (x::(P++y::Q))) (hd:(x::(P++y::Q)).Nodup) (hm:M.Nodup) (hM:∀ i,i<F.length->∀ v∈M,v∉F.getD i []) (hx:f b x) (hy:f b y)
 (J:∀ r,K b r->(∀ v∈M,v∉r)/\∀ v,f b v->v∈r) {p H:Θ->Prop} (hl:∀ T,p T->(live T/\T≠b)\/(H T/\¬live T))
 (hp:∀ a b' t A,K b (a++b')->b'++a=x::(t++y::A)->∃ side:Θ->Bool,∀ T,H T->(∀ v,f T v->v∈M\/f b v)/\(∀ v,f T v->v∈if side T then x::(t++y::M.reverse)else y::(A++x::M))/\K T (if side T then x::(t++y::M.reverse)else y::(A++x::M))/\
   ∀ j,H j->T≠j->side T=side j->Avo (if side T then x::(t++y::M.reverse)else y::(A++x::M)) (f T) (f j)):
 ∃ l,Al (F.set n (x::(P++y::M.reverse))++[y::(Q++x::M)]) p f K l:=by
 have Y:=e ▸ h.lt b X;obtain⟨r,Z,hs⟩:=h.sim b X;rw[e]at hs;have J6:x≠y:=by grind
 obtain⟨a,b',t,A,e1,e2⟩:=Fi ((J r Z).2 x hx) ((J r Z).2 y hy) J6;have Y0:=(hK b r Z).2;have K4:(x::(t++y::A)).Nodup:=by rw[<- e2];grind
 have hMr:=(J r Z).1;have sc':Sc r (x::(t++y::A)):=by rw[e1,<- e2];exact ES (e1 ▸ Y0)
 have hs1:Sm (f b) (x::(P++y::Q)) (x::(t++y::A)):=fun u v w N O R=>by rw[<- s.2,hs u v w N O R,sc'.2]
 have W:∀ v∈M,v∉x::(P++y::Q):=fun v k c=>hM n Y v k ((s.1 v).2 c);have I:∀ v∈M,v∉x::(t++y::A):=fun v k c=>hMr v k ((sc'.1 v).2 c);obtain⟨side,o⟩:=hp a b' t A (e1 ▸ Z) e2
 have hex:∃ l:Θ->Nat,∀ T,(live T->(m T≠n->l T=m T)/\(m T=n->lg (f T) (f b) x y P->l T=n)/\(m T=n->¬lg (f T) (f b) x y P->l T=F.length))/\(¬live T->l T=if side T then n else F.length):=
  ⟨fun T=>open Classical in if live T then(if m T=n then if lg (f T) (f b) x y P then n else F.length else m T)else if side T then n else F.length,fun T=>by grind⟩
 obtain⟨l,Z9⟩:=hex;have E:∀ T j,(live T/\m T=n)->(live j/\m j=n)->T≠j->Avo (x::(P++y::Q)) (f T) (f j):=fun T j k q C=>s.avo (k.2 ▸ h.avo T j k.1 q.1 C (by rw[k.2,q.2]));have hon:∀ T,(live T/\m T=n)->∀ v,f T v->v∈x::(P++y::Q):=fun T k v L=>(s.1 v).1 (k.2 ▸ h.on T k.1 v L);have T6:∀ T,(live T/\m T=n)->∃ r,K T r/\Sm (f T) (x::(P++y::Q)) r:=fun T k=>by obtain⟨r,h1,V⟩:=h.sim T k.1;exact⟨r,h1,fun u v w N O R=>by rw[<- s.2,<- k.2,V u v w N O R]⟩
 have H1:=half (K:=K) (ct:=f) (old:=fun T=>(live T/\m T=n)/\T≠b/\lg (f T) (f b) x y P) (pc:=fun T=>H T/\side T=true) hd K4 hm W I hx hy hs1
  (fun T k=>⟨k.2.2.1,k.2.2.2,E T b k.1 ⟨X,e⟩ k.2.1,T6 T k.1⟩) (fun T j k q=>E T j k.1 q.1)
  (fun T k=>by have:=o T k.1;simp only[k.2,dE]at this;exact⟨this.1,this.2.1,this.2.2.1⟩)
  (fun T j k q C=>by have:=(o T k.1).2.2.2 j q.1 C;simp only[k.2,q.2,dE,true_implies]at this;exact this)
 have sd:∀ P Q:AN,(x::(P++y::Q)).Nodup->Sc (x::(P++y::Q)) (y::(Q++x::P)):=fun P Q hn=>ES (a:=x::P) (b:=y::Q) (by simpa using hn);have U:=sd P Q hd;have d2:=sd t A K4
 have H2:=half (K:=K) (ct:=f) (old:=fun T=>(live T/\m T=n)/\T≠b/\¬lg (f T) (f b) x y P) (pc:=fun T=>H T/\side T=false) (x:=y) (y:=x) (P:=Q) (Q:=P) (P':=A) (Q':=t) (M:=M.reverse) (B:=f b) (Kw hd) (Kw K4) ((jw M).nodup_iff.2 hm) (fun v k c=>W v (jl.1 k) ((U.1 v).2 c)) (fun v k c=>I v (jl.1 k) ((d2.1 v).2 c)) hy hx
  (fun u v w N O R=>by rw[<- U.2,<- d2.2,hs1 u v w N O R])
  (fun T k=>by
    have z:=UU hd hx hy (E T b k.1 ⟨X,e⟩ k.2.1) (hon T k.1) k.2.2;obtain⟨r,h1,V⟩:=T6 T k.1
    exact⟨z.1,z.2,U.avo (E T b k.1 ⟨X,e⟩ k.2.1),r,h1,fun u v w N O R=>by rw[<- U.2,V u v w N O R]⟩)
  (fun T j k q C=>U.avo (E T j k.1 q.1 C))
  (fun T k=>by have:=o T k.1;simp only[k.2]at this;rw[qh];exact⟨fun v L=>by rw[jl];exact this.1 v L,this.2.1,this.2.2.1⟩)
  (fun T j k q C=>by have:=(o T k.1).2.2.2 j q.1 C;simp only[k.2,q.2,true_implies]at this;rw[qh];exact this)
 rw[qh]at H2;have D:∀ T,p T->(l T=n/\(((live T/\m T=n)/\T≠b/\lg (f T) (f b) x y P)\/(H T/\side T=true)))\/(l T=F.length/\(((live T/\m T=n)/\T≠b/\¬lg (f T) (f b) x y P)\/(H T/\side T=false)))\/(l T=m T/\live T/\m T<F.length/\m T≠n):=fun T k=>by have:=Z9 T;have:=h.lt T;have:=hl T k;by_cases c:live T<;>by_cases d:side T<;>by_cases g:m T=n<;>by_cases i:lg (f T) (f b) x y P<;>grind
 have gl:=fun i=>Rm Y (x::(P++y::M.reverse)) (y::(Q++x::M)) i;have g1:(F.set n (x::(P++y::M.reverse))++[y::(Q++x::M)]).getD n []=x::(P++y::M.reverse):=by rw[gl,ad rfl]
 have g2:(F.set n (x::(P++y::M.reverse))++[y::(Q++x::M)]).getD F.length []=y::(Q++x::M):=by rw[gl,ac oO,ad rfl]
 have g3:∀ i,i<F.length->i≠n->(F.set n (x::(P++y::M.reverse))++[y::(Q++x::M)]).getD i []=F.getD i []:=fun i h1 V=>by rw[gl,ac V,ac oO]
 have hlen:(F.set n (x::(P++y::M.reverse))++[y::(Q++x::M)]).length=F.length+1:=sS;generalize F.set n (x::(P++y::M.reverse))++[y::(Q++x::M)]=G at *;refine⟨l,fun T k=>?_,fun T k v L=>?_,fun T j k q C he=>?_,fun T k=>?_⟩
 .rcases D T k with c|c|c<;>omega
 .rcases D T k with c|c|c
  .rw[c.1,g1];exact(H1.1 T c.2).1 v L
  .rw[c.1,g2];exact(H2.1 T c.2).1 v L
  .rw[c.1,g3 _ c.2.2.1 c.2.2.2];exact h.on T c.2.1 v L
 .rcases D T k with c|c|c<;>rcases D j q with S|S|S<;>first|omega|skip
  .rw[c.1,g1];exact H1.2 T j c.2 S.2 C
  .rw[c.1,g2];exact H2.2 T j c.2 S.2 C
  .rw[c.1,g3 _ c.2.2.1 c.2.2.2];exact h.avo T j c.2.1 S.2.1 C oO
 .rcases D T k with c|c|c
  .rw[c.1,g1];exact(H1.1 T c.2).2
  .rw[c.1,g2];exact(H2.1 T c.2).2
  .rw[c.1,g3 _ c.2.2.1 c.2.2.2];exact h.sim T c.2.1
end Aw
namespace Aw
open Go Go.RowKit Pl Eu
abbrev kA(A:fX)(k:Nat):Int:=(A.getD k (0,0)).1
abbrev pA(A:fX)(k:Nat):Int:=(A.getD k (0,0)).2
def xG{A B:fX}{k:Nat}(h:k<A.length):(A++B).getD k (0,0)=A.getD k (0,0):=by rw[cp,jv h,<- cp]
def Qr{A:fX}{v:Int}(h:v∈A.map (·.1)):∃ k,k<A.length/\kA A k=v:=by obtain⟨p,b,rfl⟩:=aq.1 h;obtain⟨k,a,rfl⟩:=eh b;exact⟨k,a,by unfold kA;rw[cp,cg a];rfl⟩
section
variable {near:Int->List Int} {may:Int->Bool} {SZ to:Int} {vs:List Int}
structure LA(near:Int->AN)(may:Int->Bool)(SZ:Int)(A:fX):Prop where
 nd:(A.map (·.1)).Nodup
 pos:0<A.length
 hd:kA A 0=SZ
 par:∀ k,0<k->k<A.length->∃ j,j<k/\kA A j=pA A k/\kA A k∈near (pA A k)/\(pA A k=SZ\/may (pA A k)=true)
theorem LA.snoc{A:fX}(h:LA near may SZ A){w v:Int}(B:w∉A.map (·.1))(z:v∈A.map (·.1))(y:w∈near v)(x:v=SZ\/may v=true):LA near may SZ (A++[(w,v)]):=by
 refine⟨?_,sS,?_,fun k m t=>?_⟩
 .rw[cr,bw];exact⟨h.nd,sS,fun a r b l e=>B (by rw[List.map_singleton,bf]at l;have d:b=w:=l;rw[<- d,<- e];exact r)⟩
 .show((A++[(w,v)]).getD 0 (0,0)).1=SZ;rw[xG h.pos];exact h.hd
 .rw[cf,List.length_singleton]at t;by_cases c:k<A.length
  .obtain⟨j,n,o,p,q⟩:=h.par k m c;refine⟨j,n,?_,?_,?_⟩
   .show((A++[(w,v)]).getD j (0,0)).1=((A++[(w,v)]).getD k (0,0)).2;rw[xG c,xG oO];exact o
   .show((A++[(w,v)]).getD k (0,0)).1∈near ((A++[(w,v)]).getD k (0,0)).2;rw[xG c];exact p
   .show((A++[(w,v)]).getD k (0,0)).2=SZ\/may ((A++[(w,v)]).getD k (0,0)).2=true;rw[xG c];exact q
  .have e:k=A.length:=oO;have g:(A++[(w,v)]).getD k (0,0)=(w,v):=by rw[e];simp
   obtain⟨j,s,f⟩:=Qr z;refine⟨j,oO,?_,?_,?_⟩
   .show((A++[(w,v)]).getD j (0,0)).1=((A++[(w,v)]).getD k (0,0)).2;rw[xG s,g];exact f
   .show((A++[(w,v)]).getD k (0,0)).1∈near ((A++[(w,v)]).getD k (0,0)).2;rw[g];exact y
   .show((A++[(w,v)]).getD k (0,0)).2=SZ\/may ((A++[(w,v)]).getD k (0,0)).2=true;rw[g];exact x
theorem Ew{v:Int}(B:v=SZ\/may v=true):∀(a:AN) (A:fX) (Q:AN),LA near may SZ A->v∈A.map (·.1)->to∉A.map (·.1)->(∀ u∈a,u∈near v)->
 ∃ D g b,dS may to v ⟨A,Q,false⟩ a=⟨A++D,Q++g,b⟩/\LA near may SZ (A++D)/\(∀ p∈D,p.1∈a)/\(b=true->to∈D.map (·.1))/\
  (b=false->to∉(A++D).map (·.1)/\(∀ u∈a,u∈(A++D).map (·.1))/\(∀ u∈D.map (·.1),may u=true->u∈g)/\(∀ q∈g,q∈D.map (·.1)/\may q=true)/\g.length<=D.length)
 |[],A,Q,hA,_,ht,_=>⟨[],[],false,by simp[dS],by simpa using hA,sS,sS,by simpa using ht⟩
 |u::a,A,Q,hA,hv,ht,hr=>by
  have I:∀ x∈a,x∈near v:=fun x c=>hr x (ar _ c);have r:dS may to v ⟨A,Q,false⟩ (u::a)=dS may to v (gO may to v ⟨A,Q,false⟩ u) a:=rfl;by_cases o:u∈A.map (·.1)
  .have j:gO may to v ⟨A,Q,false⟩ u=⟨A,Q,false⟩:=by simp only[gO];rw[ac sS,ad o]
   obtain⟨D,g,b,s,t,w,y,z⟩:=Ew B a A Q hA hv ht I;refine⟨D,g,b,by rw[r,j];exact s,t,fun p n=>ar _ (w p n),y,fun h=>?_⟩;obtain⟨E,F,H⟩:=z h;refine⟨E,fun x c=>?_,H⟩;rcases ah.1 c with rfl|c
   .rw[cr];exact cX _ o
   .exact F x c
  .have l:=hA.snoc o hv (hr u aw) B;by_cases f:u=to
   .have j:gO may to v ⟨A,Q,false⟩ u=⟨A++[(u,v)],Q,true⟩:=by simp only[gO];rw[ac sS,ac o,ad f]
    refine⟨[(u,v)],[],true,?_,l,sS,aa f,sS⟩;rw[r,j,Dn _ _ _ rfl,eP]
   .have j:gO may to v ⟨A,Q,false⟩ u=⟨A++[(u,v)],if may u=true then Q++[u]else Q,false⟩:=by simp only[gO];rw[ac sS,ac o,ac f]
    have K:(if may u=true then Q++[u]else Q)=Q++if may u=true then [u]else []:=by split<;>simp
    obtain⟨D,g,b,s,t,w,y,z⟩:=Ew B a (A++[(u,v)]) (Q++if may u=true then [u]else []) l (by rw[cr];exact cX _ hv) (by
     rw[cr,an];rintro(k|k)
     .exact ht k
     .simp at k;exact f k.symm) I
    refine⟨(u,v)::D,(if may u=true then [u]else [])++g,b,?_,by simpa using t,?_,fun h=>?_,fun h=>?_⟩
    .rw[r,j,K,s];simp
    .intro p n;rcases ah.1 n with rfl|n
     .exact aw
     .exact ar _ (w p n)
    .rw[ax];exact ar _ (y h)
    .obtain⟨E,F,H,J,M⟩:=z h;have L:A++(u,v)::D=A++[(u,v)]++D:=sS;rw[L];refine⟨E,fun x c=>?_,fun x c m=>?_,fun q d=>?_,?_⟩
     .rcases ah.1 c with rfl|c
      .simp
      .exact F x c
     .rw[ax]at c;rcases ah.1 c with e|c
      .subst e;rw[ad m];simp
      .exact dv _ (H x c m)
     .rw[ax];rcases an.1 d with d|d
      .split at d
       .rename_i C;rw[bf]at d;subst d;exact⟨aw,C⟩
       .cases d
      .exact⟨ar _ (J q d).1,(J q d).2⟩
     .rw[cf,List.length_cons]
      split
      .simp;omega
      .simp;omega
def Xo(near:Int->AN)(may:Int->Bool)(SZ:Int)(S:Int->Prop):Prop:=S SZ/\∀ v,S v->(v=SZ\/may v=true)->∀ w∈near v,S w
theorem QZ(a:∀ v,∀ w∈near v,w∈vs):∀(n:Nat) (A:fX) (Q:AN),LA near may SZ A->to∉A.map (·.1)->(∀ v∈A.map (·.1),v∈vs)->(∀ q∈Q,q∈A.map (·.1)/\(q=SZ\/may q=true))->
 (∀ v∈A.map (·.1),v∉Q->(v=SZ\/may v=true)->∀ w∈near v,w∈A.map (·.1))->Q.length+vs.length<=n+A.length->
 (∃ g,lD near may to n A Q=some (some g)/\LA near may SZ g/\to∈g.map (·.1)/\∀ v∈g.map (·.1),v∈vs)\/∃ S,Xo near may SZ S/\¬S to
 |n,A,[],hA,ht,_,_,hc,_=>.inr ⟨fun v=>v∈A.map (·.1),⟨by
   have:=hA.hd;rw[<- this];unfold kA;rw[cp,cg hA.pos]
   exact de (dq _),fun v o l w j=>hc v o sS l w j⟩,ht⟩
 |0,A,v::Q,hA,_,hs,_,_,hl=>by have:=fg hA.nd hs;rw[dh]at this;rw[List.length_cons]at hl;omega
 |n+1,A,v::Q,hA,ht,hs,hq,hc,hl=>by
  obtain⟨o,l⟩:=hq v aw;obtain⟨D,z,k,B,s,C,E,F⟩:=Ew (to:=to) l (near v) A Q hA o ht fun _ h=>h;have r:∀ x∈(A++D).map (·.1),x∈vs:=fun x f=>by
   rw[cr]at f;rcases an.1 f with f|f
   .exact hs x f
   .obtain⟨p,I,rfl⟩:=aq.1 f;exact a _ _ (C p I)
  simp only[lD,B];cases k with
  |true=>exact .inl ⟨_,sS,s,by rw[cr];exact dv _ (E rfl),r⟩
  |false=>
   obtain⟨J,K,L,y,M⟩:=F rfl;rw[ac sS];refine QZ a n (A++D) (Q++z) s J r (fun q m=>?_) (fun u t c b w j=>?_) ?_
   .rw[cr];rcases an.1 m with h|h
    .have:=hq q (ar _ h);exact⟨cX _ this.1,this.2⟩
    .exact⟨dv _ (y q h).1,.inr (y q h).2⟩
   .rw[an,gy]at c;by_cases d:u∈A.map (·.1)
    .by_cases e:u=v
     .subst e;exact K w j
     .rw[cr];exact cX _ (hc u d (by rw[ah,gy];exact⟨e,c.1⟩) b w j)
    .rw[cr]at t;have H:=(an.1 t).resolve_left d;rcases b with e|b
     .exfalso;apply d;rw[e,<- hA.hd];unfold kA;rw[cp,cg hA.pos];exact de (dq _)
     .exact absurd (L u H b) c.2
   .simp only[cf,List.length_cons]at hl ⊢;omega
theorem Py:∀ {A:fX},(A.map (·.1)).Nodup->∀ {k:Nat},k<A.length->kD A (kA A k)=some (pA A k)
 |a::A,hn,0,_=>by simp[kD,kA,pA]
 |a::A,hn,k+1,h=>by
  rw[ax,cb]at hn;have c:=Py hn.2 (k:=k) (by simpa using h)
  have b:kA A k≠a.1:=fun e=>hn.1 (by
   rw[<- e];unfold kA;rw[cp,cg (by simpa using h)]
   exact de (dq _))
  show kD (a::A) (kA A k)=some (pA A k);unfold kD;rw[ac b];exact c
theorem Uj{A:fX}(d:LA near may SZ A):∀(n k:Nat),k<A.length->k<=n->∃ l,iM A SZ n (kA A k)=some l/\(kA A k::l).getLast (by simp)=SZ/\(∀ x y,(x,y)∈ae (kA A k::l)->x∈near y/\(y=SZ\/may y=true))/\
 (∀ y∈l,∃ j,j<k/\kA A j=y)/\(kA A k::l).Nodup:=by
 have b:∀ i j,i<A.length->j<A.length->kA A i=kA A j->i=j:=fun i j p q e=>by
  have f:(A.map (·.1))[i]'(by simpa using p)=(A.map (·.1))[j]'(by simpa using q):=by unfold kA at e;rw[cp,cg p,cp,cg q]at e;simpa using e
  exact get_inj d.nd _ _ f
 have a:∀ n k,k<A.length->kA A k=SZ->∃ l,iM A SZ n (kA A k)=some l/\(kA A k::l).getLast (by simp)=SZ/\(∀ x y,(x,y)∈ae (kA A k::l)->x∈near y/\(y=SZ\/may y=true))/\(∀ y∈l,∃ j,j<k/\kA A j=y)/\(kA A k::l).Nodup:=fun n k c e=>by refine⟨[],?_,by simpa using e,fun x y h=>by simp[ae]at h,sS,sS⟩;cases n<;>simp[iM,e]
 intro n;induction n with
 |zero=>intro k c g;have:k=0:=oO;subst this;exact a 0 0 c d.hd
 |succ n C=>
  intro k c g;by_cases e:kA A k=SZ
  .exact a _ _ c e
  have v:0<k:=by
   rcases ql k with h|h
   .subst h;exact absurd d.hd e
   .exact h
  obtain⟨j,D,r,E,F⟩:=d.par k v c;obtain⟨l,H,I,J,s,K⟩:=C j oO oO;have w:iM A SZ (n+1) (kA A k)=some (kA A j::l):=by rw[iM,ac e,Py d.nd c];show(iM A SZ n (pA A k)).map _=_;rw[<- r,H];rfl
  refine⟨kA A j::l,w,?_,fun x y h=>?_,fun y m=>?_,?_⟩
  .rw[List.getLast_cons sS];exact I
  .rcases ah.1 h with h|h
   .injection h with f t;subst f;subst t;rw[r];exact⟨E,F⟩
   .exact J x y h
  .rcases ah.1 m with rfl|m
   .exact⟨j,D,rfl⟩
   .obtain⟨i,B,o⟩:=s y m;exact⟨i,oO,o⟩
  .refine cb.2 ⟨fun z=>?_,K⟩;rcases ah.1 z with h|h
   .have:=b k j c oO h;omega
   .obtain⟨i,B,o⟩:=s _ h;have:=b i k oO c o;omega
theorem MW:∀ {l:AN} {a y:Int},y∈l->∃ x,(x,y)∈ae (a::l)
 |b::l,a,y,h=>by
  rcases ah.1 h with rfl|h
  .exact⟨a,by simp[ae]⟩
  .obtain⟨x,c⟩:=MW (a:=b) h;exact⟨x,ar _ c⟩
theorem Mi(f:∀ v,∀ w∈near v,w∈vs)(hf:SZ∈vs)(M:to∈vs)(o:SZ≠to){n:Nat}(Z:vs.length+1<=n)(Q:∀ S,Xo near may SZ S->S to):
 ∃ w,uT vs near may SZ to n=some w/\w.Nodup/\2<=w.length/\w.length<=vs.length/\(∀ v∈w,v∈vs)/\w.getD 0 0=SZ/\w.getD (w.length-1) 0=to/\(∀ x y,(x,y)∈ae w->y∈near x)/\∀ v∈dH w,may v=true:=by
 have s:LA near may SZ [(SZ,SZ)]:=⟨sS,sS,rfl,fun k X t=>by simp at t;omega⟩;rcases QZ (may:=may) (to:=to) f n [(SZ,SZ)] [SZ] s (by simpa using fun e=>o e.symm) (by simpa using hf) sS (fun v b B=>by simp at b;exact absurd (aa b) B) (by simp;omega)with⟨A,p,J,r,I⟩|⟨S,p,r⟩;rotate_left
 .exact absurd (Q S p) r
 obtain⟨k,t,z⟩:=Qr r;have Y:A.length<=vs.length:=by
  have:=fg J.nd I
  rwa [dh]at this
 obtain⟨l,N,m,F,U,O⟩:=Uj J n k t oO;rw[z]at N m F O;have P:∀ v∈to::l,v∈vs:=fun v b=>by
  rcases ah.1 b with rfl|b
  .exact M
  .obtain⟨j,j1,rfl⟩:=U v b;refine I _ ?_;unfold kA;rw[cp,cg oO];exact de (dq _)
 have g:l≠[]:=by rintro rfl;simp at m;exact o m.symm
 have R:uT vs near may SZ to n=some (to::l).reverse:=by unfold uT;rw[ac (by simp[hf,M]),ac o,p];show(iM A SZ n to).map _=_;rw[N];rfl
 have c:((to::l).reverse).Nodup:=(jw _).nodup_iff.2 O;have d:2<=((to::l).reverse).length:=by have:=iu.2 g;rw[yv,List.length_cons];omega
 have g0:((to::l).reverse).getD 0 0=SZ:=by
  have e:(to::l)=(to::l).dropLast++[SZ]:=by rw[<- m,qe]
  rw[e,yu];rfl
 have H:((to::l).reverse).getD (((to::l).reverse).length-1) 0=to:=by rw[yv,List.length_cons,qm,qq,cp,mw sS];simp
 refine⟨_,R,c,d,?_,fun v b=>P v (jl.1 b),g0,H,fun x y h=>?_,fun v b=>?_⟩
 .exact fg c fun v b=>P v (jl.1 b)
 .rw[(oZ _).mem_iff,aq]at h;obtain⟨q,K,e⟩:=h;have:q=(y,x):=by rw[<- kf q,e];rfl
  rw[this]at K;exact(F y x K).1
 .have L:=mZ d;rw[g0,H]at L;have C:=nE b;have E:v∈to::l:=jl.1 C;rw[L]at c;have V:v≠SZ:=fun e=>(cb.1 c).1 (by rw[<- e];exact cX _ b);have W:v≠to:=fun e=>(bw.1 (cb.1 c).2).2.2 v b to sS e;have D:v∈l:=(ah.1 E).resolve_left W;obtain⟨x,T⟩:=MW (a:=to) D;exact(F x v T).2.resolve_left V
end
def Jl{P Q:AN}{y z:Int}(c:(P++y::z::Q).Nodup):nx (P++y::z::Q) y=z:=by
 have b:P.length<(P++y::z::Q).length:=sS;have e:(P++y::z::Q)[P.length]=y:=by rw[mz (au _)];simp
 have:=iI c b;rw[e]at this;rw[this];have a:(P.length+1) % (P++y::z::Q).length=P.length+1:=ej sS;simp only[a];rw[mz oO];simp
def FY{z:Int}{Q P:AN}{y:Int}(b:(z::Q).Nodup)(h:z::Q=P++[y]):nx (z::Q) y=z:=by
 have a:(P++[y])[0]?=some z:=by rw[<- h];rfl
 rw[h]at b ⊢;have d:P.length<(P++[y]).length:=sS;have e:(P++[y])[P.length]=y:=by rw[mz (au _)];simp
 have:=iI b d;rw[e]at this;rw[this];have c:(P.length+1) % (P++[y]).length=0:=sS;simp only[c];rw[cg sS,ap]at a;exact a
def Xw{R:AN}{S:Int->AN}(f:R.Nodup)(c:(R.flatMap S).Nodup)(d:∀ x∈R,S x≠[]){x:Int}(j:x∈R):
 (∀ p y z q,S x=p++y::z::q->nx (R.flatMap S) y=z)/\∀ p y,S x=p++[y]->∃ z q,S (nx R x)=z::q/\nx (R.flatMap S) y=z:=by
 obtain⟨A,B,rfl⟩:=ij j;constructor
 .intro p y z q h;have e:(A++x::B).flatMap S=(A.flatMap S++p)++y::z::(q++B.flatMap S):=by simp[nh,ec,h]
  rw[e]at c ⊢;exact Jl c
 .intro p y h;cases B with
  |cons b B=>
   have g:=d b sS;obtain⟨z,q,a⟩:=my g;refine⟨z,q,?_,?_⟩
   .rw[Jl f,a]
   .have e:(A++x::b::B).flatMap S=(A.flatMap S++p)++y::z::(q++B.flatMap S):=by simp[nh,ec,h,a]
    rw[e]at c ⊢;exact Jl c
  |nil=>
   cases A with
   |nil=>
    obtain⟨z,q,a⟩:=my (d x sS);refine⟨z,q,?_,?_⟩
    .have e:nx [x] x=x:=FY (z:=x) (Q:=[]) (P:=[]) sS rfl;rw[List.nil_append,e,a]
    .have e:([]++[x]).flatMap S=z::q:=by simp[a]
     rw[e]at c ⊢;exact FY c (by rw[<- a,h])
   |cons b A=>
    obtain⟨z,q,a⟩:=my (d b sS);refine⟨z,q,?_,?_⟩
    .have e:nx (b::A++[x]) x=b:=FY (z:=b) (Q:=A++[x]) (P:=b::A) (by simpa using f) sS;rw[e,a]
    .have e:(b::A++[x]).flatMap S=z::(q++A.flatMap S++(p++[y])):=by simp[nh,ec,h,a]
     rw[e]at c ⊢;exact FY (P:=z::(q++A.flatMap S++p)) c sS
theorem lH:∀ G:List (List AN),(G.map List.flatten).flatten=G.flatten.flatten
 |[]=>rfl
 |a::G=>by rw[ax,List.flatten_cons,List.flatten_cons,mg,lH G]
noncomputable def ig(al:Int->Int)(D:AN)(a:List AN):Nat:=bg (Orb fun d=>di a (al d)) D
def gG(a:List AN):Nat:=(a.filter fun t=>decide (t≠[])).length
structure Inv2(al:Int->Int)(D:AN):Prop where
 two:∀ d,al (al d)=d
 mem:∀ d∈D,al d∈D
section
variable {al:Int->Int} {D:List Int} (hal:Inv2 al D) (K1:∀ d,d∉D->al d=d)
include hal K1
theorem KF{a:List AN}(g:a.flatten.Nodup)(c:∀ d∈a.flatten,d∈D):cD D fun d=>di a (al d):=by
 have h:=kT g;refine⟨fun x b=>?_,fun x y e=>?_,fun x b=>?_⟩
 .by_cases f:al x∈a.flatten
  .exact c _ (h.mem _ f)
  .show di a (al x)∈D;rw[h.out _ f];exact hal.mem x b
 .have:=h.inj _ _ e;rw[<- hal.two x,this,hal.two]
 .show di a (al x)=x;rw[K1 x b,h.out x fun k=>b (c x k)]
theorem Ym(a b d:Int):Eu.sw a b (al d)=al (Eu.sw (al a) (al b) d):=by
 by_cases c:d=al a
 .subst c;rw[tG,hal.two,hal.two,tG]
 .by_cases f:d=al b
  .subst f;rw[Cm,hal.two,hal.two,Cm]
  .rw[jT c f,jT (fun e=>c (by rw[<- e,hal.two])) (fun e=>f (by rw[<- e,hal.two]))]
omit hal K1 in
theorem qA{b a:List AN}(c:b.flatten.Nodup)(e:b.Perm a):ig al D b=ig al D a:=by
 unfold ig;have:(fun d=>di b (al d))=fun d=>di a (al d):=by funext d;exact TE c e _
 rw[this]
omit hal K1 in
theorem nT{b a:List AN}(c:b.Perm a):gG b=gG a:=(c.filter _).length_eq
omit hal K1 in
theorem Fx(a:List AN):ig al D ([]::a)=ig al D a:=by
 unfold ig;have:(fun d=>di ([]::a) (al d))=fun d=>di a (al d):=by
  funext d;unfold di;rw[sf sS]
 rw[this]
omit hal K1 in
theorem AW(a:List AN):gG ([]::a)=gG a:=by simp[gG]
theorem XE{A B:AN}{a:List AN}(g:(A::B::a).flatten.Nodup)(f:∀ d∈(A::B::a).flatten,d∈D):ig al D (A::B::a)+gG ((A++B)::a)<=ig al D ((A++B)::a)+gG (A::B::a):=by
 by_cases b:A=[]
 .subst b;rw[Fx,AW,List.nil_append];exact au _
 by_cases c:B=[]
 .subst c;have h:(A::[]::a).Perm ([]::A::a):=List.Perm.swap _ _ _;rw[qA g h,nT h,Fx,AW,eP];exact au _
 have e:(fun d=>di ((A++B)::a) (al d))=fun d=>(fun d=>di (A::B::a) (al d)) (Eu.sw (al (A.getLast b)) (al (B.getLast c)) d):=by
  funext d
  show di ((A++B)::a) (al d)=di (A::B::a) (al (Eu.sw (al (A.getLast b)) (al (B.getLast c)) d));rw[UF g b c,Ym hal K1]
 have j:=KF hal K1 g f;have k:al (A.getLast b)∈D:=hal.mem _ (f _ sS);have l:al (B.getLast c)∈D:=hal.mem _ (f _ sS);have:=Wi j k l;have m:ig al D (A::B::a)<=ig al D ((A++B)::a)+1:=by unfold ig;rw[e];exact this
 have n:gG (A::B::a)=gG a+2:=by simp[gG,b,c]
 have o:gG ((A++B)::a)=gG a+1:=by simp[gG,b]
 omega
theorem PV:∀(L:List AN) {a:List AN},(L++a).flatten.Nodup->(∀ d∈(L++a).flatten,d∈D)->ig al D (L++a)+gG (L.flatten::a)<=ig al D (L.flatten::a)+gG (L++a)
 |[],a,_,_=>by rw[List.nil_append,List.flatten_nil,Fx,AW];exact au _
 |A::L,a,hn,hD=>by have c:(A::L++a).Perm (L++A::a):=lk.symm;have f:(L++A::a).flatten.Nodup:=c.flatten.nodup_iff.1 hn;have b:∀ d∈(L++A::a).flatten,d∈D:=fun d j=>hD d (c.flatten.mem_iff.2 j);have l:=PV L f b;have g:(L.flatten::A::a).flatten=(L++A::a).flatten:=sS;have e:(L.flatten::A::a).Perm (A::L.flatten::a):=List.Perm.swap _ _ _;have k:(A::L.flatten::a).flatten.Nodup:=e.flatten.nodup_iff.1 (by rw[g];exact f);have h:∀ d∈(A::L.flatten::a).flatten,d∈D:=fun d j=>b d (by rw[<- g];exact e.flatten.mem_iff.2 j);have m:=XE hal K1 k h;rw[qA hn c,nT c,List.flatten_cons];rw[qA (by rw[g];exact f) e,nT e]at l;omega
theorem PR:∀(G:List (List AN)) {Rs:List AN},(G.flatten++Rs).flatten.Nodup->(∀ d∈(G.flatten++Rs).flatten,d∈D)->ig al D (G.flatten++Rs)+gG (G.map List.flatten++Rs)<=ig al D (G.map List.flatten++Rs)+gG (G.flatten++Rs)
 |[],Rs,_,_=>by simp
 |L::G,Rs,hn,hD=>by
  have g:(L::G).flatten++Rs=L++(G.flatten++Rs):=sS;rw[g]at hn hD;have m:=PV hal K1 L hn hD;have a:(L.flatten::(G.flatten++Rs)).Perm (G.flatten++L.flatten::Rs):=lk.symm;have h:(L.flatten::(G.flatten++Rs)).flatten=(L++(G.flatten++Rs)).flatten:=sS;have e:(L.flatten::(G.flatten++Rs)).flatten.Nodup:=by rw[h];exact hn
  have f:(G.flatten++L.flatten::Rs).flatten.Nodup:=a.flatten.nodup_iff.1 e;have b:∀ d∈(G.flatten++L.flatten::Rs).flatten,d∈D:=fun d k=>hD d (by rw[<- h];exact a.flatten.mem_iff.2 k);have l:=PR G f b;have j:(G.map List.flatten++L.flatten::Rs).Perm (L.flatten::(G.map List.flatten++Rs)):=lk;have hf:(G.map List.flatten++L.flatten::Rs).flatten.Perm (G.flatten++L.flatten::Rs).flatten:=by
   have:(G.map List.flatten++L.flatten::Rs).flatten=(G.flatten++L.flatten::Rs).flatten:=by rw[mg,mg,lH]
   rw[this]
  have c:(G.map List.flatten++L.flatten::Rs).flatten.Nodup:=hf.nodup_iff.2 f;rw[qA e a,nT a]at m;rw[qA c j,nT j]at l;rw[g,ax,List.cons_append];omega
end
def GF{x y:Ed}:fo x y=true↔aj x=aj y:=by
 rw[rW];constructor
 .rintro(⟨a,b⟩|⟨a,b⟩)
  .show ay _ _=ay _ _;rw[a,b]
  .show ay _ _=ay _ _;rw[a,b];exact aG _ _
 .intro h;rcases aT h with⟨a,b⟩|⟨a,b⟩
  .exact .inl ⟨a,b⟩
  .exact .inr ⟨a,b⟩
def pB(l:List Ed):((sE l).map aj).Nodup:=by unfold List.Nodup;rw[fa];exact(Gt l).imp fun {x y} h e=>by rw[GF.2 e]at h;cases h
def IL{l:List Ed}:l.Pairwise (fun x y=>x.id<y.id)->∀ x∈l,∃ y∈sE l,aj y=aj x/\y.id<=x.id:=by
 induction l using xZ with
 |h0=>intro _ x c;cases c
 |h1 l z e=>
  intro b x c;rw[nc]at b;rw[mG];rcases an.1 c with h|h
  .obtain⟨y,h1,a⟩:=e b.1 x h
   split
   .exact⟨y,h1,a⟩
   .exact⟨y,cX _ h1,a⟩
  .rw[bf]at h;subst h
   split
   .rename_i d;rw[oY]at d;obtain⟨y,h1,a⟩:=d;exact⟨y,h1,(GF.1 a).symm,Int.le_of_lt (b.2.2 y (fM _ y h1) x sS)⟩
   .exact⟨x,sS,rfl,oi _⟩
theorem kU{e n:Type}{f:e->List n}:∀ {l:List e},l.Nodup->(∀ x∈l,(f x).Nodup)->(∀ x∈l,∀ y∈l,∀ z,z∈f x->z∈f y->x=y)->(l.flatMap f).Nodup
 |[],_,_,_=>.nil
 |x::l,hl,h1,h2=>by obtain⟨k,m⟩:=cb.1 hl;rw[ec,bw];refine⟨h1 x aw,kU m (fun y c=>h1 y (ar _ c)) fun y c z j=>h2 y (ar _ c) z (ar _ j),?_⟩;rintro a g b h rfl;obtain⟨y,c,d⟩:=gh.1 h;have:=h2 x aw y (ar _ c) a g d;exact k (by rw[this];exact c)
def JT{P Q:AN}{y z:Int}(d:(P++y::z::Q).Nodup):pv (P++y::z::Q) z=y:=by
 have c:P.length+1<(P++y::z::Q).length:=sS;have e:(P++y::z::Q)[P.length+1]=z:=by rw[mz oO];simp
 have f:z∈P++y::z::Q:=sS;have b:(P++y::z::Q).idxOf z=P.length+1:=by
  have:=d.idxOf_getElem (P.length+1) c
  rwa [e]at this
 unfold pv;rw[ad f,b];have a:(P.length+1+((P++y::z::Q).length-1)) % (P++y::z::Q).length=P.length:=by have g:(P++y::z::Q).length=P.length+(Q.length+2):=sS;rw[show P.length+1+((P++y::z::Q).length-1)=P.length+(P++y::z::Q).length by omega,tc,ej oO]
 rw[a,cp,mw (au _)];simp
abbrev dj(g:Gr)(v x:Int):AN:=fT (kK g v x) v x
def ek(v:Int)(e:Ed):Int:=2*e.id+if e.b=v then 1 else 0
def jQ(v:Int)(e:Ed):ek v e / 2=e.id:=by unfold ek;split<;>omega
def oA{g:Gr}{v x:Int}{e:Ed}:e∈kK g v x↔e∈g.E/\aj e=ay v x:=by unfold kK jX;rw[cx,gg]
def kM{g:Gr}{v x d:Int}:d∈dj g v x↔∃ e∈g.E,aj e=ay v x/\d=ek v e:=by
 unfold dj fT;have a:d∈((kK g v x).map fun e=>2*e.id+if e.b=v then 1 else 0)↔∃ e∈g.E,aj e=ay v x/\d=ek v e:=by
  rw[aq];constructor
  .rintro⟨e,c,rfl⟩;exact⟨e,(oA.1 c).1,(oA.1 c).2,rfl⟩
  .rintro⟨e,f,h,rfl⟩;exact⟨e,oA.2 ⟨f,h⟩,rfl⟩
 split
 .rw[jl,a]
 .exact a
section
variable {g:Gr} (hg:GoodE g)
include hg
theorem QY{e:Ed}(d:e∈g.E){v x:Int}(h:aj e=ay v x):tw (ek v e)=ek x e:=by
 have f:=hg.ne e d;unfold tw ek;rcases aT h with⟨a,c⟩|⟨a,c⟩
 .rw[ac (show ¬e.b=v by omega),ad (show e.b=x by omega),ad oO];omega
 .rw[ad (show e.b=v by omega),ac (show ¬e.b=x by omega),ac oO];omega
theorem Qy{e f:Ed}(a:e∈g.E)(hf:f∈g.E)(h:e.id=f.id):e=f:=id_eq hg.ids a hf h
theorem nQ(v x:Int):(dj g v x).Nodup:=by
 have c:((kK g v x).map fun e=>2*e.id+if e.b=v then 1 else 0).Nodup:=by unfold List.Nodup;rw[fa];refine(hg.ids.sublist (jc (p:=fun e=>decide (aj e=ay v x)))).imp fun {a b} h e=>?_;have d:=jQ v a;have f:=jQ v b;unfold ek at d f;omega
 unfold dj fT
 split
 .exact(jw _).nodup_iff.2 c
 .exact c
theorem WX{v x:Int}(f:v≠x):dj g x v=((dj g v x).map tw).reverse:=by
 have d:kK g x v=kK g v x:=by unfold kK;rw[aG]
 have a:((kK g v x).map fun e=>2*e.id+if e.b=x then 1 else 0)=((kK g v x).map fun e=>2*e.id+if e.b=v then 1 else 0).map tw:=by rw[dy];refine ii fun e c=>?_;exact(QY hg (oA.1 c).1 (oA.1 c).2).symm
 unfold dj fT;rw[d,a];by_cases h:x<v
 .rw[ac oO,ad h,List.map_reverse,qh]
 .rw[ad oO,ac h]
def px(g:Gr)(d:Int):Ed:=(g.E.find? fun e=>decide (e.id=d / 2)).getD ed0
def jk(g:Gr)(d:Int):Int:=if d % 2=0 then(px g d).a else(px g d).b
def jt(g:Gr)(d:Int):Int:=if d % 2=0 then(px g d).b else(px g d).a
theorem XM{e:Ed}(a:e∈g.E){d:Int}(h:d / 2=e.id):px g d=e:=by
 unfold px;cases hf:g.E.find? fun e=>decide (e.id=d / 2) with
 |none=>exact absurd h.symm (by simpa using qo.1 hf e a)
 |some f=>have b:=ow hf;have c:=o0 hf;rw[gg]at c;show f=e;exact Qy hg b a oO
theorem SL{e:Ed}(d:e∈g.E){v x:Int}(h:aj e=ay v x):jk g (ek v e)=v/\jt g (ek v e)=x:=by
 have f:=hg.ne e d;unfold jk jt;rw[XM hg d (jQ v e)];unfold ek;rcases aT h with⟨a,c⟩|⟨a,c⟩
 .rw[ac (show ¬e.b=v by omega),ad oO,ad oO];exact⟨a,c⟩
 .rw[ad (show e.b=v by omega),ac oO,ac oO];exact⟨c,a⟩
theorem xR{v x d:Int}(h:d∈dj g v x):jk g d=v/\jt g d=x:=by obtain⟨e,a,b,rfl⟩:=kM.1 h;exact SL hg a b
theorem Si{d:Int}(h:d∈aW g.E):∃ e∈g.E,aj e=ay (jk g d) (jt g d)/\d=ek (jk g d) e/\d∈dj g (jk g d) (jt g d):=by
 obtain⟨e,j,c⟩:=dK.1 h;have o:=hg.ne e j;have f:∀ v x,aj e=ay v x->d=ek v e->∃ e∈g.E,aj e=ay (jk g d) (jt g d)/\d=ek (jk g d) e/\d∈dj g (jk g d) (jt g d):=fun v x l c=>by obtain⟨m,n⟩:=SL hg j l;rw[<- c]at m n;rw[m,n];exact⟨e,j,l,c,kM.2 ⟨e,j,l,c⟩⟩
 rcases c with c|c
 .exact f e.a e.b rfl (by unfold ek;rw[ac (fun k=>o k.symm)];omega)
 .exact f e.b e.a (aG _ _) (by unfold ek;rw[ad rfl];exact c)
theorem Gk{v x d:Int}(h:d∈dj g v x):d∈aW g.E:=by obtain⟨e,a,b,rfl⟩:=kM.1 h;exact gF.2 ⟨e,a,(jQ _ _).symm⟩
theorem PU{v d:Int}:d∈ends g.E v↔∃ e∈g.E,(∃ x,aj e=ay v x)/\d=ek v e:=by
 rw[cH];constructor
 .rintro⟨e,h,⟨c,f⟩|⟨c,f⟩⟩
  .have:=hg.ne e h;exact⟨e,h,⟨e.b,by rw[<- c]⟩,by unfold ek;rw[ac oO];omega⟩
  .exact⟨e,h,⟨e.a,by rw[<- c];exact aG _ _⟩,by unfold ek;rw[ad c];exact f⟩
 .rintro⟨e,h,⟨x,j⟩,rfl⟩;have:=hg.ne e h;refine⟨e,h,?_⟩;unfold ek;rcases aT j with⟨c,f⟩|⟨c,f⟩
  .exact .inl ⟨c,by rw[ac oO];omega⟩
  .exact .inr ⟨f,by rw[ad f]⟩
end
def bt(g:Gr)(F:List AN)(v:Int):AN:=(bY (dI v (aU F))).flatMap (dj g v)
theorem Da(v a:Int)(d:AN):∀ T:TL,eF v (pJ a d T)=if v=a then eF v T++d else eF v T
 |[]=>by
  unfold pJ eF eF;by_cases h:v=a
  .simp[h]
  .rw[ac fun e=>h e.symm,ac h]
 |p::T=>by
  have c:=Da v a d T;unfold pJ;by_cases b:p.1=a
  .rw[ad b];by_cases h:v=a
   .simp[eF,h,b]
   .simp only[eF,ac h,ac (fun e:a=v=>h e.symm),ac (fun e:p.1=v=>h (by rw[<- e,b]))]
  .rw[ac b];by_cases h:v=a
   .rw[ad h]at c ⊢;simp only[eF,ac (fun e:p.1=v=>b (by rw[e,h])),c]
   .rw[ac h]at c ⊢;simp only[eF,c]
theorem CO(g:Gr)(v a:Int):∀(L:AN) (T:TL),eF v (dX g a L T)=if v=a then eF v T++L.flatMap (dj g a)else eF v T
 |[],T=>by simp[dX]
 |x::L,T=>by
  have b:=CO g v a L (pJ a (dj g a x) T);have e:dX g a (x::L) T=dX g a L (pJ a (dj g a x) T):=rfl;rw[e,b,Da];by_cases h:v=a
  .simp[h,ec]
  .simp[h]
theorem BU(g:Gr)(A:Tn)(v:Int):∀(K:AN) (T:TL),K.Nodup->eF v (fS g A K T)=if v∈K then eF v T++(bY (dI v A)).flatMap (dj g v)else eF v T
 |[],T,_=>by simp[fS]
 |k::K,T,hn=>by
  obtain⟨b,c⟩:=cb.1 hn;have d:=BU g A v K (dX g k (bY (dI k A)) T) c;have e:fS g A (k::K) T=fS g A K (dX g k (bY (dI k A)) T):=rfl;rw[e,d,CO];by_cases h:v=k
  .subst h;rw[ac b,ad rfl,ad aw]
  .rw[ac h];by_cases a:v∈K
   .rw[ad a,ad (ar _ a)]
   .rw[ac a,ac (dg h a)]
theorem DU{v:Int}:∀ {A:Tn},v∉A.map (·.1)->dI v A=[]
 |[],_=>rfl
 |a::A,h=>by rw[ax,ah,gy]at h;unfold dI;rw[ac fun e=>h.1 e.symm,DU h.2]
def nO:bY []=[]:=rfl
def Om(g:Gr)(F:List AN)(T:TL)(v:Int):eF v (vK g F T)=eF v T++bt g F v:=by
 have a:(qU ((aU F).map (·.1))).Nodup:=(zR _).imp fun k=>by omega
 unfold vK;rw[BU g _ v _ T a]
 split
 .rfl
 .rename_i h;rw[pS]at h;unfold bt;rw[DU h,nO];simp
theorem CZ(g:Gr):∀(c:List (List Ed)) (T a:TL),yR g c T=some (some a)->∃ Bs:List (List Ed×List AN),Bs.map (·.1)=c/\(∀ p∈Bs,rG p.1=some (some p.2))/\∀ v,eF v a=eF v T++Bs.flatMap fun p=>bt g p.2 v
 |[],T,a,h=>by
  simp only[yR,ap]at h;subst h;refine⟨[],?_,?_,?_⟩
  .rfl
  .intro p b;cases b
  .intro v;simp
 |l::c,T,a,h=>by
  unfold yR at h;cases d:rG l with
  |none=>rw[d]at h;simp at h
  |some o=>
   rw[d]at h;cases o with
   |none=>simp at h
   |some F=>
    simp only[Option.bind_some]at h
    split at h
    .obtain⟨Bs,e,f,j⟩:=CZ g c _ a h;refine⟨(l,F)::Bs,by rw[ax,e],fun p b=>?_,fun v=>?_⟩
     .rcases ah.1 b with rfl|b
      .exact d
      .exact f p b
     .rw[j,Om,ec,dz]
    .cases h
end Aw
end Go.Proofs.YtbgngpdonpeboaaGreatDoor
