/- Lemmas. -/
import Derived.Test.YtbgngpdonpeboaaGreatDoorJn
set_option linter.unusedSectionVars false
set_option linter.defProp false
namespace Go.Proofs.YtbgngpdonpeboaaGreatDoor
namespace Aw
open Go Go.RowKit Pl Eu
def tb(b:dm):(Int->Prop)×(Int->Prop):=(fun v=>v∈b.inner,fun v=>v∈b.ends)
def St'(E:QR)(h:Sh)(T:(Int->Prop)×(Int->Prop)):Prop:=∃ b,io E h.L h.on b/\T=tb b
variable{g:Gr}{v x:Int}{s:Int->Int}{L:List (Int×Int)}{A E l:List Ed}{D:List Int}{b c:dm}
def D7(a:∀ v,v∈b.inner↔v∈c.inner)(d:∀ v,v∈b.ends↔v∈c.ends):tb b=tb c:=by unfold tb;rw[fj];exact⟨funext fun v=>propext (a v),funext fun v=>propext (d v)⟩
def yE{m:PP}(j:io E L m b)(k:io E L m c)(f:v∈b.inner)(g:v∈c.inner):(∀ u,u∈b.inner->u∈c.inner)/\∀ u,u∈b.ends->u∈c.ends:=by
 rcases j.kind with⟨d,_⟩|⟨_,n,o,A,r⟩
 .rw[d]at f;simp at f
 rcases k.kind with⟨d,_⟩|⟨_,s,B,h,C⟩
 .rw[d]at g;simp at g
 have l:∀ u,u∈b.inner->u∈c.inner:=fun u a=>(o v f u a).closed (L:=fun z=>z∈c.inner) g fun z y w x e=>(h z y w x).resolve_right fun q=>(n w e).2 (k.en w q).1;refine⟨l,fun u a=>?_⟩;obtain⟨p,t,q⟩:=r u a;exact(h p (l p t) u q).resolve_left fun i=>(s u i).2 (j.en u a).1
def Sx{g:PP}(a:io E L g b)(d:io E L g c)(e:v∈b.inner)(f:v∈c.inner):tb b=tb c:=
 D7 (fun u=>⟨(yE a d e f).1 u,(yE d a f e).1 u⟩) fun u=>⟨(yE a d e f).2 u,(yE d a f e).2 u⟩
def TJ{h:Sh}{T e:(Int->Prop)×(Int->Prop)}(k:St' E h T)(j:St' E h e)(Tv:T≠e):∀ v,T.1 v->¬e.1 v:=fun v a b=>by obtain⟨c,f,rfl⟩:=k;obtain⟨d,g,rfl⟩:=j;exact Tv (Sx f g a b)
def ml(T:(Int->Prop)×(Int->Prop))(e:Ed):Prop:=T.1 e.a\/T.1 e.b\/((∀ v,¬T.1 v)/\T.2 e.a/\T.2 e.b)
def Kq(E:QR)(T:(Int->Prop)×(Int->Prop))(r:PP):Prop:=∃ a s,PlE a s/\Kr a T r/\(∀ e∈a,∃ f∈E,ae f=ae e)/\∀ e∈E,ml T e->∃ f∈a,ae f=ae e
theorem Kq.rev{E:QR}{T:(Int->Prop)×(Int->Prop)}{r:PP}(h:Kq E T r):Kq E T r.reverse/\r.Nodup:=by obtain⟨b,s,c,a,d,e⟩:=h;exact⟨⟨b,s,c,a.rev,d,e⟩,a.nd⟩
theorem Thg.by{E m:QR}{T:(Int->Prop)×(Int->Prop)}(h:Thg E T)(o:∀ e∈E,ml T e->∃ f∈m,ae f=ae e):Thg m T:=by
 have r:∀ p q,(T.1 p\/T.1 q)->q∈nbr E p->q∈nbr m p:=fun p q l t=>by
  obtain⟨e,n,k⟩:=cF.1 t
  obtain⟨f,hf,C⟩:=o e n (by
   unfold ml
   rcases aN k with⟨g,d⟩|⟨g,d⟩<;>rw[g,d]<;>grind)
  exact cF.2 ⟨f,hf,C.trans k⟩
 refine⟨?_,h.off,h.two⟩;rcases h.kind with⟨e,n,g,d⟩|⟨g,d,D⟩
 .obtain⟨f,hf,k⟩:=o e n (.inr (.inr ⟨g,(d _).2 (.inl rfl),(d _).2 (.inr rfl)⟩));refine .inl ⟨f,hf,g,fun v=>(d v).trans ?_⟩;rcases aN (u:=f.a) (v:=f.b) (x:=e.a) (y:=e.b) k with⟨i,j⟩|⟨i,j⟩<;>rw[i,j];exact qg
 .refine .inr ⟨g,fun p q l w=>?_,fun c s=>?_⟩
  .have:=d p q l w;induction this with
   |refl h=>exact .refl h
   |step h A z B=>exact .step (B h.here.2) (r _ _ (.inl h.here.2) A) z
  .obtain⟨p,l,k⟩:=D c s;exact⟨p,l,r p c (.inl l) k⟩
structure Exd(E:QR)(h:Sh):Prop where
 drn:Drn E h
 rgs:Rgs h.F
 al:∃ α,Al h.F (St' E h) (fun T=>T.2) (Kq E) α
section
variable {E:List Ed} (hT:Tc E)
include hT
theorem yF{h:Sh}(k:Drn E h){b:dm}(d:io E h.L h.on b):Thg E (tb b):=by
 refine⟨?_,fun v a f=>?_,xG hT k d⟩
 .rcases d.kind with⟨c,e,l,_,a⟩|⟨c,a,f,g,j⟩
  .exact .inl ⟨e,l,fun v=>by simp[tb,c],fun v=>by simp[tb,a]⟩
  .exact .inr ⟨gv _ c,fun p q m n=>f p m q n,j⟩
 .rcases d.kind with⟨c,_⟩|⟨c,g,_⟩
  .have a:v∈b.inner:=a;rw[c]at a;simp at a
  .exact(g v a).2 (d.en v f).1
theorem Exd.lay{h:Sh}(hD:Drn E h)(hR:Rgs h.F){α:(Int->Prop)×(Int->Prop)->Nat}(hα:Al h.F (St' E h) (fun T=>T.2) (Kq E) α){b:dm}(hb:io E h.L h.on b){w:PP}(w2:w.Nodup)(w3:2<=w.length)(w6:w.getD 0 0∈b.ends)(w7:w.getD (w.length-1) 0∈b.ends)(w8:∀ v∈dO w,v∉h.on)
 (w9:∀ x y,(x,y)∈ad w->aj x y∉h.L/\∃ e∈E,ae e=aj x y) (n:∀ v∈dO w,v∈b.inner) (w11:b.inner≠[]->dO w≠[]):Exd E (iS h w (α (tb b))):=by
 have I:St' E h (tb b):=⟨b,hb,rfl⟩;have hk:=hα.lt _ I;have U:=hα.on _ I;generalize hkk:α (tb b)=k at *;have hD':=hD.lay hk w3 w2 (U _ w6) (U _ w7) w8 w9;have N:=pF w3;have hL:(iS h w k).L=h.L++jI w:=by
  have:(iS h w k).L=lJ h.L w:=rfl;rw[this];exact lX _ _ (gL w2) fun p hpp=>by rw[fH]at hpp;obtain⟨q,hq,rfl⟩:=ao.1 hpp;exact(w9 q.1 q.2 hq).1
 have hOn:(iS h w k).on=h.on++w:=rfl;have Tv:w.getD 0 0≠w.getD (w.length-1) 0:=fun e=>by rw[N,e]at w2;exact(bw.1 w2).1 Y
 have i1:=lg (U _ w6);have i2:=lg (U _ w7);have g1:(h.F.getD k []).getD ((h.F.getD k []).idxOf (w.getD 0 0)) 0=w.getD 0 0:=by rw[bv (l:=h.F.getD k []),bu i1,Option.getD_some,nr]
 have g2:(h.F.getD k []).getD ((h.F.getD k []).idxOf (w.getD (w.length-1) 0)) 0=w.getD (w.length-1) 0:=by rw[bv (l:=h.F.getD k []),bu i2,Option.getD_some,nr]
 obtain⟨A,B,q1,X,_,q4⟩:=oU (fun e=>Tv (by rw[<- g1,e,g2])) i1 i2;rw[g1,g2]at q1 X q4;have hF:(iS h w k).F=h.F.set k (w.getD 0 0::(A++w.getD (w.length-1) 0::(dO w).reverse))++[w.getD (w.length-1) 0::(B++w.getD 0 0::dO w)]:=by show h.F.set k (jX (h.F.getD k []) ((h.F.getD k []).idxOf (w.getD 0 0)) ((h.F.getD k []).idxOf (w.getD (w.length-1) 0))++(dO w).reverse)++[jX (h.F.getD k []) ((h.F.getD k []).idxOf (w.getD (w.length-1) 0)) ((h.F.getD k []).idxOf (w.getD 0 0))++dO w]=_;rw[q1,X];simp
 have hgen:∃ x y M,x=w.getD 0 0/\y=w.getD (w.length-1) 0/\M=dO w:=⟨_,_,_,rfl,rfl,rfl⟩;obtain⟨x,y,M,ex,ey,eM⟩:=hgen;rw[<- ex,<- ey]at Tv q4;rw[<- ex,<- ey,<- eM]at hF N;rw[<- ex]at w6;rw[<- ey]at w7;rw[<- eM]at w8 n w11;have hdn:(h.F.getD k []).Nodup:=hR.nd k hk;have hsc:Sc (h.F.getD k []) (x::(A++y::B)):=by obtain⟨c,d,D,H⟩:=q4;rw[D,H];exact EB (D ▸ hdn)
 have hd2:(x::(A++y::B)).Nodup:=by obtain⟨c,d,D,H⟩:=q4;rw[H];rw[D]at hdn;exact(kT (l₁:=c) (l₂:=d)).nodup_iff.1 hdn
 have hMn:M.Nodup:=by rw[N]at w2;exact(bo.1 (bw.1 w2).2).1
 have hMF:∀ i,i<h.F.length->∀ v∈M,v∉h.F.getD i []:=fun i hi v g q=>w8 v g (hD.ring_on (by rw[bv,bu hi];exact dz _) q);have onx:x∈h.on:=(hb.en x w6).1;have ony:y∈h.on:=(hb.en y w7).1;have hwm:∀ v,v∈w↔v=x\/v∈M\/v=y:=fun v=>by rw[N];simp
 have hwP:∀ u v,aj u v∈jI w↔(u,v)∈ad w\/(v,u)∈ad w:=fun u v=>by
  rw[fH,ao];constructor
  .rintro⟨q,hq,e⟩;rcases aN e with⟨D,H⟩|⟨D,H⟩
   .left;rw[<- D,<- H];exact hq
   .right;rw[<- D,<- H];exact hq
  .rintro(q|q)
   .exact⟨_,q,rfl⟩
   .exact⟨_,q,aH _ _⟩
 have r8:∀ p,p∈b.inner->∀ q∈nbr E p,q∈b.inner\/q∈b.ends:=fun p V q hq=>by
  rcases hb.kind with⟨J,_⟩|⟨_,_,_,h3,_⟩
  .rw[J]at V;simp at V
  .exact h3 p V q hq
 have j7:∀ p,p∈b.inner->p∉h.on:=fun p V=>by
  rcases hb.kind with⟨J,_⟩|⟨_,C,_⟩
  .rw[J]at V;simp at V
  .exact(C p V).2
 have hM0:M=[]->∀ v,¬(tb b).1 v:=fun e v g=>w11 (kc g) e;have piece:∀ S,St' E (iS h w k) S->¬St' E h S->(∀ v,S.1 v->(tb b).1 v/\v∉M)/\(∀ v,S.2 v->v∈M\/(tb b).2 v)/\((∀ v,¬S.1 v)->(∃ v,S.2 v/\v∈M)/\∀ a b,S.2 a->S.2 b->(a,b)∉ad (x::(M++[y]))):=by
  rintro S ⟨c,hc,rfl⟩ o7;have o:=hc.en;rw[hOn]at o;have W:∀ v,v∈h.on++w->v∉M->v∈h.on:=fun v g hvM=>by
   rcases am.1 g with i|i
   .exact i
   .rcases(hwm v).1 i with rfl|i|rfl
    .exact onx
    .exact absurd i hvM
    .exact ony
  rcases hc.kind with⟨J,e,he,C,R⟩|⟨J,C,R,h3,h4⟩
  .rw[hL]at C;have t:∀ v,(tb c).2 v↔v=e.a\/v=e.b:=fun v=>by simp[tb,R]
   have hemp:∀ v,¬(tb c).1 v:=fun v=>by simp[tb,J]
   have hex:e.a∈M\/e.b∈M:=dq fun q=>o7 ⟨c,⟨fun v g=>⟨W v (o v g).1 fun i=>q (by have:=(t v).1 g;grind),(o v g).2⟩,.inl ⟨J,e,he,fun i=>C (dg _ i),R⟩⟩,rfl⟩;have bh:∀ v v',v'∈nbr E v->v'∈c.ends->v∈M->v'∈M\/v'∈b.ends:=fun v v' hn hv' i=>by
    rcases r8 v (n v i) v' hn with k|k
    .exact .inl (dq fun q=>j7 v' k (W v' (o v' hv').1 q))
    .exact .inr k
   have n1:e.b∈nbr E e.a:=cF.2 ⟨e,he,rfl⟩;have n2:e.a∈nbr E e.b:=cF.2 ⟨e,he,aH _ _⟩;have o1:=bh e.a e.b n1 (by rw[R];simp);have o2:=bh e.b e.a n2 (by rw[R];simp);refine⟨fun v g=>absurd g (hemp v),fun v g=>?_,fun _=>⟨?_,fun a' b' ha hb' hl=>?_⟩⟩
   .show v∈M\/v∈b.ends;have:=(t v).1 g
    grind
   .rcases hex with q|q
    .exact⟨_,(t _).2 (.inl rfl),q⟩
    .exact⟨_,(t _).2 (.inr rfl),q⟩
   .rw[<- N]at hl;have r9:=((eC w2).2 a' b' hl).1;refine C (dE _ ?_);have D:=(t a').1 ha;have H:=(t b').1 hb';have:ae e=aj a' b':=by
     show aj e.a e.b=_;rcases D with rfl|rfl<;>rcases H with rfl|rfl
     .exact absurd rfl r9
     .rfl
     .exact aH _ _
     .exact absurd rfl r9
    rw[this];exact(hwP a' b').2 (.inl hl)
  .rw[hOn]at C;by_cases hx:∃ p∈c.inner,p∈b.inner
   .obtain⟨p,p1,p2⟩:=hx;have hsub:∀ v,v∈c.inner->v∈b.inner:=fun v g=>(R p p1 v g).closed (L:=fun z=>z∈b.inner) p2 fun z hz q hq hqc=>(r8 z hz q hq).resolve_right fun i=>(C q hqc).2 (dg _ (hb.en q i).1);refine⟨fun v g=>⟨hsub v g,fun i=>(C v g).2 (dE _ ((hwm v).2 (.inr (.inl i))))⟩,fun v g=>?_,fun q=>absurd p1 (q p)⟩;obtain⟨u,hu,hn⟩:=h4 v g;rcases r8 u (hsub u hu) v hn with i|i
    .exact .inl (dq fun q=>j7 v i (W v (o v g).1 q))
    .exact .inr i
   .refine absurd ⟨c,⟨fun v g=>⟨W v (o v g).1 fun i=>?_,(o v g).2⟩,.inr ⟨J,fun v g=>⟨(C v g).1,fun i=>(C v g).2 (dg _ i)⟩,R,h3,h4⟩⟩,rfl⟩ o7;obtain⟨u,hu,hn⟩:=h4 v g;rcases r8 v (n v i) u (mH hn)with j|j
    .exact hx ⟨u,hu,j⟩
    .exact(C u hu).2 (dg _ (hb.en u j).1)
 have other:∀ S,St' E (iS h w k) S->S≠tb b:=by
  rintro S ⟨c,hc,rfl⟩ e;have ei:∀ v,v∈c.inner↔v∈b.inner:=fun v=>iff_of_eq (congrFun (congrArg Prod.fst e) v);have ee:∀ v,v∈c.ends↔v∈b.ends:=fun v=>iff_of_eq (congrFun (congrArg Prod.snd e) v);rcases hc.kind with⟨J,f,hf,C,R⟩|⟨J,C,_⟩
  .have hM:M=[]:=by
    cases K:M with
    |nil=>rfl
    |cons m M'=>have:=(ei m).2 (n m (by rw[K];simp));rw[J]at this;simp at this
   rw[hL]at C;have kx:=(ee x).2 w6;have ky:=(ee y).2 w7;rw[R]at kx ky;have W0:(x,y)∈ad w:=by rw[N,hM];simp[ad]
   refine C (dE _ ?_);have:ae f=aj x y:=by
    show aj f.a f.b=_;simp at kx ky;rcases kx with D|D<;>rcases ky with H|H
    .exact absurd (D.trans H.symm) Tv
    .rw[D,H]
    .rw[D,H];exact aH _ _
    .exact absurd (D.trans H.symm) Tv
   rw[this];exact(hwP x y).2 (.inl W0)
  .obtain⟨p,V⟩:=gv _ J;obtain⟨m,K⟩:=gv _ (w11 (kc ((ei p).1 V)));exact(C m ((ei m).2 (n m K))).2 (by rw[hOn];exact dE _ ((hwm m).2 (.inr (.inl K))))
 obtain⟨α',hα'⟩:=hα.lay (fun T r q=>q.rev) I hkk hsc hd2 hMn hMF w6 w7 (fun r q=>by
  obtain⟨_,_,_,q,_⟩:=q
  exact⟨fun v g i=>q.off v i (n v g),q.on⟩) (p:=St' E (iS h w k)) (E:=fun S=>St' E (iS h w k) S/\¬St' E h S)
  (fun S hS=>by by_cases q:St' E h S;exact .inl ⟨q,other S hS⟩;exact .inr ⟨⟨hS,q⟩,q⟩)
  (fun c d P' Q' hk e=>by
    obtain⟨E1,s,hP,hk,h3,h4⟩:=hk;have up:∀ S,St' E (iS h w k) S->¬St' E h S->∀ e∈E,ml S e->∃ f∈E1,ae f=ae e:=fun S q q' e he ht=>by
     obtain⟨k1,k2,k3⟩:=piece S q q';refine h4 e he ?_;rcases ht with ht|ht|⟨ht,ha,hb'⟩
     .exact .inl (k1 _ ht).1
     .exact .inr (.inl (k1 _ ht).1)
     .have hSt:=q;obtain⟨⟨m,m1,m2⟩,_⟩:=k3 ht;obtain⟨c',hc',rfl⟩:=q;have hth:=yF hT hD' hc';have Tv:=hT.ne e he;rcases hth.kind with⟨f,hf,_,z2⟩|⟨⟨z,z1⟩,_⟩
      .have:=(z2 m).1 m1;have:=(z2 e.a).1 ha;have:=(z2 e.b).1 hb';have:m=e.a\/m=e.b:=by grind
       rcases this with rfl|rfl
       .exact .inl (n _ m2)
       .exact .inr (.inl (n _ m2))
      .exact absurd z1 (ht z)
    obtain⟨side,hs⟩:=pieces hP ((yF hT hD hb).by h4) hk (Q:=Q') (P:=P') ⟨c,d,rfl,e.symm⟩ w6 w7 (N ▸ w2) (fun u v q=>by
     obtain⟨e,he,k'⟩:=(w9 u v (N ▸ q)).2
     obtain⟨f,hf,i⟩:=h4 e he (by
      unfold ml;cases K:M with
      |nil=>
       rw[K]at q;simp only[List.nil_append,ad,bi,fj]at q;have z1:(tb b).2 u:=by rw[q.1];exact w6
       have z2:(tb b).2 v:=by rw[q.2];exact w7
       rcases aN k' with⟨i,j⟩|⟨i,j⟩<;>rw[i,j]
       .exact .inr (.inr ⟨hM0 K,z1,z2⟩)
       .exact .inr (.inr ⟨hM0 K,z2,z1⟩)
      |cons m M'=>
       have:u∈M\/v∈M:=by
        have q1:=eO (y:=y) (l:=x::M) q;have X:=iI q;rcases ai.1 q1 with rfl|q1
        .rcases am.1 X with X|X
         .exact .inr X
         .rw[bi]at X;subst X;rw[K]at q;have:=eR (by rw[<- K];exact N ▸ w2) q (b':=m) (by simp[ad]);exact .inr (by rw[this,K];simp)
        .exact .inl q1
       rcases aN k' with⟨i,j⟩|⟨i,j⟩<;>rw[i,j]
       .exact this.elim (fun z=>.inl (n _ z)) fun z=>.inr (.inl (n _ z))
       .exact this.elim (fun z=>.inr (.inl (n _ z))) fun z=>.inl (n _ z))
     exact⟨f,hf,i.trans k'⟩) n hM0 (D:=fun S=>St' E (iS h w k) S/\¬St' E h S) (fun S q=>by
     have q1:=q.1;obtain⟨c,hc,rfl⟩:=q1
     exact⟨(yF hT hD' hc).by (up _ q.1 q.2),piece _ q.1 q.2⟩) (fun S S' q q'=>TJ q.1 q'.1)
    exact⟨side,fun S q=>⟨(piece S q.1 q.2).2.1,(hs S q).1.on,⟨E1,s,hP,(hs S q).1,h3,up S q.1 q.2⟩,(hs S q).2⟩⟩)
 rw[<- hF]at hα';exact⟨hD',by rw[hF];exact hR.lay hk hsc hd2 hMn hMF,α',hα'⟩
end
def xK:∀ {l:QP},l.Nodup->(∀ p∈l,∃ e∈E,ae e=aj p.1 p.2)->l.length<=2*E.length:=by
 intro l j h;have g:(E.flatMap fun e=>[(e.a,e.b),(e.b,e.a)]).length=2*E.length:=by
  clear h;induction E with
  |nil=>rfl
  |cons e E n=>simp only[dt,cb,List.length_cons,List.length_nil]at n ⊢;omega
 rw[<- g];refine gu j fun p m=>?_;obtain⟨e,f,k⟩:=h p m;refine fu.2 ⟨e,f,?_⟩;rcases aN k with⟨c,d⟩|⟨c,d⟩
 .rw[c,d];simp
 .rw[c,d];simp
section
variable {E:List Ed} (hT:Tc E)
include hT
omit hT in
theorem Drn.L_le{h:Sh}(a:Drn E h):h.L.length<=E.length:=by
 have:=gu a.lnd (l₂:=E.map ae) fun p c=>by obtain⟨e,b,rfl⟩:=a.sub p c;exact dd b
 rwa [du]at this
omit hT in
theorem Drn.ring_le{h:Sh}(a:Drn E h){r:PP}(c:r∈h.F):r.length<=2*E.length:=by
 rw[<- pW r];have b:=a.nd;refine xK ?_ fun p d=>?_
 .unfold PF at b;rw[List.flatMap_def]at b;exact(mm (dd (f:=prs) c)).nodup b
 .obtain⟨_,k⟩:=(a.mem p.1 p.2).1 (bB.2 ⟨r,c,d⟩);exact a.sub _ k
theorem YP{h:Sh}(g:Drn E h):∃ B,(∀ b∈B,io E h.L h.on b)/\(∀ e∈E,ae e∉h.L->e.a∈h.on->e.b∈h.on->⟨[],[e.a,e.b]⟩∈B)/\(∀ v∈af E,v∉h.on->∃ b∈B,v∈b.inner)/\
 (((bL h.F B (⟨[],[]⟩,-1)).2<0/\Ac ⟨af E,E⟩ h=some none)\/∃ w k,(bL h.F B (⟨[],[]⟩,-1)).2=((k:Nat):Int)/\Ac ⟨af E,E⟩ h=some (some (iS h w k))/\Drn E (iS h w k)/\h.L.length<(iS h w k).L.length/\io E h.L h.on (bL h.F B (⟨[],[]⟩,-1)).1/\
   w.Nodup/\2<=w.length/\w.getD 0 0∈(bL h.F B (⟨[],[]⟩,-1)).1.ends/\w.getD (w.length-1) 0∈(bL h.F B (⟨[],[]⟩,-1)).1.ends/\(∀ v∈dO w,v∉h.on)/\(∀ x y,(x,y)∈ad w->aj x y∉h.L/\∃ e∈E,ae e=aj x y)/\(∀ v∈dO w,v∈(bL h.F B (⟨[],[]⟩,-1)).1.inner)/\((bL h.F B (⟨[],[]⟩,-1)).1.inner≠[]->dO w≠[])):=by
 obtain⟨B,P,o,b3,Q,R⟩:=Wj (E:=E) (on:=h.on) h.L;refine⟨B,o,Q,R,?_⟩;have J:wk E h (bL h.F B (⟨[],[]⟩,-1)):=Ec B _ o ⟨Y,.inl Y⟩;have M:=hT.few;unfold Ac;rw[P,Option.bind_some,ac ⟨fun b n v X=>((o b n).en v X).2,O,J.1⟩];generalize bL h.F B (⟨[],[]⟩,-1)=r at *;by_cases d:r.2<0
 .rw[ac d];exact .inl ⟨d,rfl⟩
 rw[aa d];obtain⟨n,k,U,f,c⟩:=J.2.resolve_left d;have s:r.2.toNat=k:=O;rw[s];obtain⟨w,w1,A,C,w4,w5,D,H,N,I,t,z⟩:=ZX hT g n;have m:h.F.getD k []∈h.F:=by rw[bv,bu f];exact dz _
 have W:=g.ring_le m;have T:=g.L_le;have K:=g.cnt;have j:OX ⟨af E,E⟩ h k w:=⟨f,C,w4,w5,O,c _ D,c _ H,O⟩;rw[w1,Option.bind_some,ac j];refine .inr ⟨w,k,U,rfl,g.lay f C A (c _ D) (c _ H) N I,?_,n,A,C,D,H,N,I,t,z⟩;have S:(iS h w k).L=h.L++jI w:=by
  have:(iS h w k).L=lJ h.L w:=rfl;rw[this];exact lX _ _ (gL A) fun p l=>by rw[fH]at l;obtain⟨q,V,rfl⟩:=ao.1 l;exact(I q.1 q.2 V).1
 rw[S,cb,pQ];omega
theorem UM{h:Sh}(e:Drn E h):Ac ⟨af E,E⟩ h=some none\/∃ a,Ac ⟨af E,E⟩ h=some (some a)/\Drn E a/\h.L.length<a.L.length:=by
 obtain⟨B,_,_,_,k|⟨w,k,_,b,c,d,_⟩⟩:=YP hT e
 .exact .inl k.2
 .exact .inr ⟨_,b,c,d⟩
theorem xF:∀(n:Nat) (h:Sh),Drn E h->E.length+1<=n+h.L.length->∃ o,tD ⟨af E,E⟩ n h=some o/\∀ a,o=some a->Drn E a/\E.length<=a.L.length
 |0,h,hD,hl=>by have:=hD.L_le;omega
 |n+1,h,hD,hl=>by
  unfold tD;by_cases dS:h.L.length<(⟨af E,E⟩:Gr).E.length
  .rw[ac dS];rcases UM hT hD with c|⟨a,c,b,d⟩
   .rw[c];exact⟨none,rfl,fun a e=>by cases e⟩
   .rw[c,Option.bind_some];exact xF n a b O
  .rw[aa dS];refine⟨some h,rfl,fun a e=>?_⟩;injection e with e;subst e;exact⟨hD,by show E.length<=_;simp only at dS;omega⟩
end
def Fit(b:dm)(F:List PP)(i:Nat):Prop:=∀ v∈b.ends,v∈F.getD i []
def uV(b:dm)(F:List PP):((cJ b F.zipIdx).2=0->∀ i,i<F.length->¬Fit b F i)/\((cJ b F.zipIdx).2=1->∃ i:Nat,(cJ b F.zipIdx).1=i/\∀ j,j<F.length->Fit b F j->j=i)/\
 ((cJ b F.zipIdx).2≠0->∃ i:Nat,(cJ b F.zipIdx).1=i/\i<F.length/\Fit b F i)/\(2<=(cJ b F.zipIdx).2->∃ i j,i<j/\j<F.length/\Fit b F i/\Fit b F j):=by
 have m:∀ k,k<=F.length->((cJ b (F.zipIdx.take k)).2=0->(cJ b (F.zipIdx.take k)).1 = -1/\∀ i,i<k->¬Fit b F i)/\((cJ b (F.zipIdx.take k)).2=1->∃ i:Nat,(cJ b (F.zipIdx.take k)).1=i/\∀ j,j<k->Fit b F j->j=i)/\
  ((cJ b (F.zipIdx.take k)).2≠0->∃ i:Nat,(cJ b (F.zipIdx.take k)).1=i/\i<k/\Fit b F i)/\(2<=(cJ b (F.zipIdx.take k)).2->∃ i j,i<j/\j<k/\Fit b F i/\Fit b F j)/\0<=(cJ b (F.zipIdx.take k)).2:=by
  intro k;induction k with
  |zero=>intro _;simp[cJ]
  |succ k v=>
   intro x;obtain⟨l,o,n,r,s⟩:=v O;rw[Dg b F k O];generalize cJ b (F.zipIdx.take k)=p at *;have hf:off b.ends (F.getD k [])=[]↔Fit b F k:=by
    unfold Fit;rw[qp];simp only[gP]
    grind
   unfold pR;by_cases e:Fit b F k
   .rw[ac (hf.2 e)];by_cases h:p.2=0
    .rw[ac h];have:=(l h).2;refine⟨fun q=>by simp only at q;omega,fun _=>⟨k,rfl,fun j t hf=>dq fun q=>this j O hf⟩,fun _=>⟨k,rfl,O,e⟩,fun q=>by simp only at q;omega,by simp only;omega⟩
    .rw[aa h];obtain⟨i,a,g,d⟩:=n h;exact⟨fun q=>by simp only at q;omega,fun q=>by simp only at q;omega,fun _=>⟨i,a,O,d⟩,fun _=>⟨i,k,g,O,d,e⟩,by simp only;omega⟩
   .rw[aa fun q=>e (hf.1 q)];refine⟨fun q=>⟨(l q).1,fun i w=>?_⟩,fun q=>?_,fun q=>?_,fun q=>?_,s⟩
    .by_cases c:i=k
     .rw[c];exact e
     .exact(l q).2 i O
    .obtain⟨i,a,g⟩:=o q;refine⟨i,a,fun j t f=>?_⟩;by_cases c:j=k
     .exact absurd (c ▸ f) e
     .exact g j O f
    .obtain⟨i,a,g,d⟩:=n q;exact⟨i,a,O,d⟩
    .obtain⟨i,j,a,g,d⟩:=r q;exact⟨i,j,a,O,d⟩
 have:=m F.length (au _);rw[ej Y]at this;exact⟨fun q=>(this.1 q).2,this.2.1,this.2.2.1,this.2.2.2.1⟩
theorem xB(F:List PP):∀(B:List dm) (a:dm×Int),(∃ b∈B,bL F B a=(b,(cJ b F.zipIdx).1)/\(cJ b F.zipIdx).2<=1)\/((∀ b∈B,2<=(cJ b F.zipIdx).2)/\(0<=a.2->bL F B a=a)/\(a.2<0->B≠[]->∃ b∈B,bL F B a=(b,(cJ b F.zipIdx).1)))
 |[],a=>.inr ⟨Y,fun _=>rfl,fun _ h=>absurd rfl h⟩
 |b::B,a=>by
  unfold bL;by_cases h:(cJ b F.zipIdx).2<=1
  .rw[ac h];exact .inl ⟨b,ar,rfl,h⟩
  .rw[aa h];rcases xB F B (if a.2<0 then(b,(cJ b F.zipIdx).1)else a)with⟨c,e,d,g⟩|⟨e,d,g⟩
   .exact .inl ⟨c,aq _ e,d,g⟩
   .right;have j:=(uV b F).2.2.1 O;refine⟨fun c f=>by rcases ai.1 f with rfl|f;omega;exact e c f,fun q=>?_,fun q _=>⟨b,ar,?_⟩⟩
    .rw[aa O]at d ⊢;exact d q
    .rw[ac q]at d ⊢;obtain⟨i,k,_⟩:=j;exact d (by simp only;omega)
def HK{r:PP}(e:r.Nodup):Rgs [r,r.reverse]:=by
 have f:r.reverse.Nodup:=(ik r).nodup_iff.2 e;have c:Rv r r.reverse:=fun x y z _ _ _ k=>(Mt e).2 k;refine⟨fun i a=>?_,fun i j a d b=>?_,fun i j k a d g c h l=>?_⟩
 .match i,a with
  |0,_=>exact e
  |1,_=>exact f
 .match i,a,j,d with
  |0,_,0,_=>exact absurd rfl b
  |0,_,1,_=>exact c
  |1,_,0,_=>exact c.symm
  |1,_,1,_=>exact absurd rfl b
 .simp only[List.length_cons,List.length_nil]at a d g;omega
section
variable {E:List Ed} (hT:Tc E)
include hT
theorem Exd.step{h:Sh}(hx:Exd E h)(hl:h.L.length<E.length):∃ K,Ac ⟨af E,E⟩ h=some (some K)/\Exd E K/\h.L.length<K.L.length:=by
 obtain⟨hD,hR,W,m⟩:=hx;obtain⟨B,x,X,J,R⟩:=YP hT hD;have hB:B≠[]:=by
  obtain⟨e,y,hn⟩:∃ e∈E,ae e∉h.L:=dq fun q=>by
   have:=gu hT.sim (l₂:=h.L) fun p z=>by obtain⟨e,y,rfl⟩:=ao.1 z;exact dq fun i=>q ⟨e,y,i⟩
   rw[du]at this;omega
  by_cases ha:e.a∈h.on
  .by_cases l:e.b∈h.on
   .exact kc (X e y hn ha l)
   .obtain⟨b,l,_⟩:=J e.b ((aI _ _).2 ⟨e,y,.inr rfl⟩) l;exact kc l
  .obtain⟨b,l,_⟩:=J e.a ((aI _ _).2 ⟨e,y,.inl rfl⟩) ha;exact kc l
 have s:∀ b∈B,Fit b h.F (W (tb b))/\W (tb b)<h.F.length:=fun b l=>⟨fun v o=>m.on (tb b) ⟨b,x b l,rfl⟩ v o,m.lt (tb b) ⟨b,x b l,rfl⟩⟩;have Q:∃ k:Nat,(bL h.F B (⟨[],[]⟩,-1)).2=k/\io E h.L h.on (bL h.F B (⟨[],[]⟩,-1)).1/\∃ t,Al h.F (St' E h) (fun T=>T.2) (Kq E) t/\t (tb (bL h.F B (⟨[],[]⟩,-1)).1)=k:=by
  rcases xB h.F B (⟨[],[]⟩,-1)with⟨b,l,e,k⟩|⟨k,_,e⟩
  .rw[e];obtain⟨f1,f2⟩:=s b l;obtain⟨s0,s1,s2,_⟩:=uV b h.F;have n0:(cJ b h.F.zipIdx).2≠0:=fun q=>s0 q _ f2 f1;have n1:0<=(cJ b h.F.zipIdx).2:=(Cf b _).1;obtain⟨i,I,A⟩:=s1 O;exact⟨i,I,x b l,W,m,A _ f2 f1⟩
  .obtain⟨b,l,e⟩:=e Y hB;rw[e];have:=k b l;obtain⟨i,I,A,S⟩:=(uV b h.F).2.2.1 O;refine⟨i,I,x b l,m.swap hR (fun T r q=>q.rev) (fun T N g=>?_) ⟨b,x b l,rfl⟩ A S⟩;obtain⟨c,D,rfl⟩:=N;have P:∃ d∈B,∀ v,v∈c.ends->v∈d.ends:=by
    rcases D.kind with⟨h0,f,hf,C,M⟩|⟨h0,C,_⟩
    .have e1:=D.en f.a (by rw[M];simp);have e2:=D.en f.b (by rw[M];simp);exact⟨_,X f hf C e1.1 e2.1,fun v o=>by rw[M]at o;exact o⟩
    .obtain⟨p,z⟩:=gv _ h0;obtain⟨d,H,k⟩:=J p (C p z).1 (C p z).2;exact⟨d,H,(yE D (x d H) z k).2⟩
   obtain⟨d,H,n⟩:=P;obtain⟨i,j,I,A,S,i4⟩:=(uV d h.F).2.2.2 (k d H);by_cases q:i=g
   .exact⟨j,O,A,fun v o=>i4 v (n v o)⟩
   .exact⟨i,q,O,fun v o=>S v (n v o)⟩
 obtain⟨k,k1,k2,t,k3,k4⟩:=Q;rcases R with⟨q,_⟩|⟨w,k',q1,q2,q3,q4,q5,w2,w3,w6,w7,w8,w9,U,V⟩
 .omega
 .have:k'=k:=O;subst this;have:=Exd.lay hT hD hR k3 k2 w2 w3 w6 w7 w8 w9 U V;rw[k4]at this;exact⟨_,q2,this,q4⟩
theorem Exd.loop:∀(n:Nat) (h:Sh),Exd E h->E.length+1<=n+h.L.length->∃ a,tD ⟨af E,E⟩ n h=some (some a)
 |0,h,hx,hl=>by have:=hx.drn.L_le;omega
 |n+1,h,hx,hl=>by
  unfold tD;by_cases dS:h.L.length<(⟨af E,E⟩:Gr).E.length
  .rw[ac dS];obtain⟨a,e,b,c⟩:=hx.step hT dS;rw[e,Option.bind_some];exact Exd.loop n a b O
  .rw[aa dS];exact⟨h,rfl⟩
theorem Exd.start{s:Int->Int}(C:PlE E s){h:Sh}(o:Drn E h){r:PP}(l:h.F=[r,r.reverse])(J:r.Nodup)(hl:3<=r.length)(R:∀ u v,(u,v)∈prs r->∃ e∈E,ae e=aj u v):Exd E h:=by
 have T:∀ v,v∈h.on->v∈r:=fun v m=>by
  obtain⟨u,A,N⟩:=(o.on v).1 m;have:=(o.mem v u).2 ⟨jk A,by rw[aH];exact N⟩;rw[l]at this;rcases iA.1 this with i|i
  .exact(nY i).1
  .exact(nY (x:=u) (y:=v) i).2
 have U:∀ v,v∈r->v∈h.on:=fun v m=>o.ring_on (r:=r) (by rw[l];simp) m;have hrn:r.reverse.Nodup:=(ik r).nodup_iff.2 J;have g:∀ S,St' E h S->Kr E S r:=by
  rintro S ⟨b,D,rfl⟩;refine⟨J,hl,R,fun v m k=>?_,fun v m=>T v (D.en v m).1,fun q c d t H k=>?_⟩
  .rcases D.kind with⟨I,_⟩|⟨_,A,_⟩
   .have k:v∈b.inner:=k;rw[I]at k;simp at k
   .exact(A v k).2 (U v m)
  .rcases D.kind with⟨I,e,z,A,N⟩|⟨I,_⟩
   .obtain⟨W,n2⟩:=(o.mem c d).1 (by rw[l];exact iA.2 (.inl k));refine A ?_;have t:c∈b.ends:=t;have H:d∈b.ends:=H;rw[N]at t H;simp at t H;have:ae e=aj c d:=by
     show aj e.a e.b=_;rcases t with rfl|rfl<;>rcases H with rfl|rfl
     .exact absurd rfl W
     .rfl
     .exact aH _ _
     .exact absurd rfl W
    rw[this];exact n2
   .obtain⟨p,hp⟩:=gv _ I;exact q p hp
 have B:∀ S,St' E h S->Kq E S r:=fun S k=>⟨E,s,C,g S k,fun e z=>⟨e,z,rfl⟩,fun e z _=>⟨e,z,rfl⟩⟩;by_cases j:∃ S,St' E h S
 .obtain⟨X,Q⟩:=j;have P:=(g X Q).emb C;have f:∀ S,St' E h S->Thg E S:=fun S ⟨b,D,e⟩=>by rw[e];exact yF hT o D
  have w:∀ S,∃ c:Nat,St' E h S->c<2/\In' E s (prs r) ([r,r.reverse].getD c []) S:=fun S=>by
   by_cases k:St' E h S
   .obtain⟨q,hq,V⟩:=P.in_ex C (f S k) (g S k).by';have:q=r\/q=r.reverse:=by simpa using hq
    rcases this with rfl|rfl
    .exact⟨0,fun _=>⟨O,V⟩⟩
    .exact⟨1,fun _=>⟨O,V⟩⟩
   .exact⟨0,fun q=>absurd q k⟩
  have n:∀ c:Nat,c<2->[r,r.reverse].getD c []∈[r,r.reverse]:=fun c t=>by
   match c,t with
   |0,_=>simp
   |1,_=>simp
  refine⟨o,l ▸ HK J,fun S=>(w S).choose,fun S k=>?_,fun S k v m=>?_,fun S M k L Tv z=>?_,fun S k=>?_⟩
  .rw[l];exact((w S).choose_spec k).1
  .have:=(w S).choose_spec k;rw[l];exact P.in_on C (f S k) (g S k).by' (n _ this.1) this.2 m
  .have K:=(w S).choose_spec k;have i2:=(w M).choose_spec L;rw[l];exact P.avo C (f S k) (g S k).by' (f M L) (g M L).by' (TJ k L Tv) (n _ K.1) K.2 (by rw[z];exact i2.2)
  .have K:=((w S).choose_spec k).1;rw[l];generalize (w S).choose=c at *
   match c,K with
   |0,_=>exact⟨r,B S k,fun _ _ _ _ _ _=>lq⟩
   |1,_=>exact⟨r.reverse,(B S k).rev.1,fun _ _ _ _ _ _=>lq⟩
 .exact⟨o,l ▸ HK J,fun _=>0,fun S k=>absurd ⟨S,k⟩ j,fun S k=>absurd ⟨S,k⟩ j,fun S _ k=>absurd ⟨S,k⟩ j,fun S k=>absurd ⟨S,k⟩ j⟩
end
section
variable {E:List Ed} (hT:Tc E) {h:Sh} (hD:Drn E h) (hl:E.length<=h.L.length)
include hT hD hl
theorem NA{r:PP}(f:r∈h.F):3<=r.length:=by
 have Tv:∀ u v,(u,v)∈prs r->u≠v:=fun u v k=>((hD.mem u v).1 (bB.2 ⟨r,f,k⟩)).1
 match r,f,Tv with
 |[],f,_=>exact absurd rfl (hD.ne _ f)
 |[a],f,Tv=>exact absurd rfl (Tv a a (by simp[prs,ad]))
 |[a,b],f,Tv=>
  exfalso;have g:∀ p,p∈prs [a,b]↔p=(a,b)\/p=(b,a):=fun p=>by simp[prs,ad]
  have n:(a,b)∈PF h.F:=bB.2 ⟨_,f,(g _).2 (.inl rfl)⟩;have:=hD.con (fun p q=>(p∈prs [a,b]↔q∈prs [a,b])) (fun p q k=>k.symm) (fun p q r k s=>k.trans s) (fun t m p g q l=>?_) (fun p _=>by rw[g,g];obtain⟨u,v⟩:=p;simp only[Prod.swap,fj];grind)
  .have j:∀ p∈h.L,p=aj a b:=fun p d=>by
    obtain⟨e,o,rfl⟩:=hD.sub p d;have w:=hT.ne e o;have k:=(this _ n _ ((hD.mem e.a e.b).2 ⟨w,d⟩)).1 ((g _).2 (.inl rfl));rcases(g _).1 k with k|k
    .injection k with k1 k2;show aj e.a e.b=_;rw[k1,k2]
    .injection k with k1 k2;show aj e.a e.b=_;rw[k1,k2];exact aH _ _
   have x:=hT.two;have:=gu hD.lnd (l₂:=[aj a b]) fun p d=>by rw[j p d];simp
   simp at this;omega
  .by_cases c:t=[a,b]
   .subst c;exact⟨fun _=>l,fun _=>g⟩
   .exact⟨fun k=>absurd (HL hD.nd m f g k) c,fun k=>absurd (HL hD.nd m f l k) c⟩
 |_::_::_::_,_,_=>simp
theorem Pj:E.length+6<=3*(af E).length:=by
 have a:=hD.done hT.ne hT.sim hl;have j:(PF h.F).length<=2*E.length:=xK a.nd fun p d=>(a.mem p.1 p.2).1 d;have k:=a.cnt;have c:∀ F:List PP,(∀ r∈F,3<=r.length)->3*F.length<=(PF F).length:=fun F=>by
  induction F with
  |nil=>intro _;simp
  |cons r F g=>
   intro b;have:=g fun t f=>b t (aq _ f);have l:=b r ar;have m:=pW r;have n:(PF (r::F)).length=(prs r).length+(PF F).length:=by simp[PF]
   simp only[List.length_cons];omega
 have:=c h.F fun r e=>NA hT hD hl e;omega
end
def WV(l:PP):(fb l).Perm l:=by unfold fb rt;exact kT.trans (by rw[gw])
def U8(l:PP):fb (fb l)=fb l:=by
 by_cases h:l=[]
 .subst h;rfl
 .obtain⟨r,b⟩:=SH l h;have a:mn (fb l)=mn l:=YN ((WV l).mem_iff.2 (AW h)) fun x c=>US ((WV l).mem_iff.1 c);exact Ji b a
def WL{A B:PP}(d:(A++B).Nodup)(e:x∈A++B):nx (B++A) x=nx (A++B) x:=by
 by_cases a:A=[]
 .subst a;simp
 by_cases b:B=[]
 .subst b;simp
 have c:(B++A).Nodup:=kT.nodup_iff.1 d;rcases am.1 e with h|h
 .rw[(yV d a b).1 h,(yV c b a).2 h]
 .rw[(yV d a b).2 h,(yV c b a).1 h]
def Zq{l:PP}(a:l.Nodup)(b:x∈l):nx (fb l) x=nx l x:=by have e:l.take (l.idxOf (mn l))++l.drop (l.idxOf (mn l))=l:=gw _ _;have:=WL (A:=l.take (l.idxOf (mn l))) (B:=l.drop (l.idxOf (mn l))) (by rw[e];exact a) (x:=x) (by rw[e];exact b);rw[e]at this;exact this
def QH(m:GoodE g):((gY g.E).flatten).Nodup/\∀ i,i∈(gY g.E).flatten↔i<g.E.length:=by
 have c:∀ B∈gY g.E,eH g.E B:=fun B a=>mO m a;constructor
 .have:=mV (f:=fun B:PQ=>B) (On g.E) (fun B a=>(c B a).rise.imp fun k=>lp k) fun B a n e i o d=>(c B a).eq (g:=g) (c n e) o d
  rwa [List.flatMap_def,List.map_id']at this
 .intro i;rw[fI];constructor
  .rintro⟨B,a,j⟩;exact(c B a).lt i j
  .intro j;obtain⟨s,_,_,d,_,p⟩:=uQ m;obtain⟨B,a,l⟩:=fI.1 ((d i).2 j);have b:=p B a;have h:=head_mem b.ne;refine⟨B,?_,l⟩;unfold gY;rw[b.cls h];refine ao.2 ⟨B.headD 0,?_,rfl⟩;rw[cj,ii,gm,<- b.cls h];exact⟨b.lt _ h,rfl⟩
def iH(f:GoodE g):((aT g).flatten).Perm (sE g.E):=by
 have b:=f.simple;obtain⟨c,a⟩:=QH b;have h:(gY (sE g.E)).flatten.Perm (List.range (sE g.E).length):=(jd c vm).2 fun i=>by rw[a,ii]
 have e:(aT g).flatten=(gY (sE g.E)).flatten.map (an (sE g.E)):=by unfold aT;rw[vn]
 have d:(List.range (sE g.E).length).map (an (sE g.E))=sE g.E:=by refine ti Y fun i c a=>?_;simp only[pz,List.getElem_range];exact gH _ _ a
 rw[e]
 conv=>rhs;rw[<- d]
 exact h.map _
def Yf(c:GoodE g)(q:∀ v∈g.V,0<=v/\v<4194304){Bs:ki}(o:Bs.map (·.1)=aT g)(t:∀ p∈Bs,jG p.1 p.2):Sys g Bs:=by
 have m:∀ p∈Bs,p.1∈aT g:=fun p b=>by rw[<- o];exact dd (f:=(·.1)) b
 have d:(Bs.flatMap (·.1)).Perm (sE g.E):=by rw[List.flatMap_def,o];exact iH c
 refine⟨c,fun p b=>⟨t p b,⟨(oZ c (m p b)).1.ne,?_,fun v h=>?_⟩,?_⟩,d⟩
 .have n:=(d.map ae).nodup_iff.2 (tI g.E);rw[xo]at n;have:∀ {l:ki},(l.flatMap fun p=>p.1.map ae).Nodup->∀ p∈l,(p.1.map ae).Nodup:=by
   intro l;induction l with
   |nil=>intro _ p h;cases h
   |cons a l x=>
    intro j p h;rw[dt,bo]at j;rcases ai.1 h with rfl|h
    .exact j.1
    .exact x j.2.1 p h
  exact this n p b
 .obtain⟨e,w,k⟩:=(aI v _).1 h;have:=c.ends e ((oZ c (m p b)).2 e w);rcases k with rfl|rfl
  .exact q _ this.1
  .exact q _ this.2
 .have:=m p b;unfold aT at this;obtain⟨B,s,e⟩:=ao.1 this;rw[<- e];intro r;exact(mO c.simple s).ne (sm.1 r)
abbrev ET(g:Gr)(Bs:ki):Mp:=⟨g,g.V.map fun v=>fb (lG g Bs v)⟩
def SR(A B:List PP):iK (A++B)=iK A+iK B:=by unfold iK;rw[po,cb]
theorem Na(Bs:ki)(f:QR×List (PP)->Int->PP)(j:∀ p∈Bs,∀ v,v∉af p.1->f p v=[]):∀ a:PP,a.Nodup->iK ((a.map fun v=>Bs.map fun p=>f p v).flatten)<=(Bs.map fun p=>(a.filter fun v=>decide (v∈af p.1)).length).sum
 |[],_=>by simp[iK]
 |v::a,hn=>by
  have n:=Na Bs f j a (bw.1 hn).2;rw[ax,List.flatten_cons,SR];have d:∀ l:ki,(∀ p∈l,p∈Bs)->iK (l.map fun p=>f p v)+(l.map fun p=>(a.filter fun v=>decide (v∈af p.1)).length).sum<=(l.map fun p=>((v::a).filter fun v=>decide (v∈af p.1)).length).sum:=by
   intro l;induction l with
   |nil=>intro _;simp[iK]
   |cons p l c=>
    intro g;have m:=c fun q k=>g q (aq _ k);have e:iK ((p::l).map fun p=>f p v)=(if f p v≠[]then 1 else 0)+iK (l.map fun p=>f p v):=by
     unfold iK;rw[ax,qd];by_cases h:f p v=[]
     .simp[h]
     .simp[h];omega
    rw[e];simp only[ax,List.sum_cons];by_cases h:v∈af p.1
    .have b:((v::a).filter fun v=>decide (v∈af p.1)).length=(a.filter fun v=>decide (v∈af p.1)).length+1:=by simp[h]
     rw[b]
     split<;>omega
    .have b:((v::a).filter fun v=>decide (v∈af p.1)).length=(a.filter fun v=>decide (v∈af p.1)).length:=by simp[h]
     rw[b,aa (by simp[j p (g p ar) v h])];omega
  have:=d Bs fun _ h=>h;omega
section
variable {g:Gr} {Bs:ki} (hS:Sys g Bs)
include hS
theorem Sys.map_ok:bZ (ET g Bs):=by
 refine⟨hS.gE,Y,fun k b=>?_⟩;have a:k<(g.V.map fun v=>fb (lG g Bs v)).length:=by simpa using b
 have e:(ET g Bs).rots.getD k []=fb (lG g Bs (g.V.getD k 0)):=by show(g.V.map fun v=>fb (lG g Bs v)).getD k []=_;rw[nJ _ _ a,pz,bT _ _ b]
 rw[e];exact⟨(WV _).trans (hS.turn_perm _),U8 _⟩
theorem Sys.sg_eq(d:Int):sg (ET g Bs) d=dn ((fY g Bs).map List.flatten) d:=by
 have e:=hS.map_ok;have j:((fY g Bs).map List.flatten).flatten.Nodup:=by rw[mF];exact hS.grp_nd
 by_cases c:d∈bA g.E
 .obtain⟨t,f,a⟩:=e.turn_of c;rw[FL e f a];obtain⟨v,k,rfl⟩:=ao.1 f;have b:d∈lG g Bs v:=(WV _).mem_iff.1 a;rw[Zq (hS.turn_nodup v) b,iF j (t:=lG g Bs v) (by rw[Kg];exact dd k) b]
 .rw[e.sg_id c,nL];rw[mF];exact fun h=>c (hS.grp_mem.1 h)
theorem Sys.plane(k:Bs.map (·.1)=aT g):gn (ET g Bs)=0:=by
 have b:=hS.gE;have n:=hS.map_ok;have w:=n.gn;have I:=hS.faces;have f:((fY g Bs).map List.flatten).flatten.Nodup:=by rw[mF];exact hS.grp_nd
 have x:=SV (al:=al g.E) (D:=bA g.E) ⟨YW g.E,fun d a=>(Hh _ _ _).2 a⟩ (fun d a=>wU a) (fY g Bs) (Rs:=[]) (by rw[dT];exact hS.grp_nd) (fun d a=>hS.grp_mem.1 (by rwa [dT]at a));rw[dT,dT]at x;have y:bj (Orb (fc (ET g Bs) g.E)) (bA g.E)=iw (al g.E) (bA g.E) ((fY g Bs).map List.flatten):=by
  unfold iw;have:fc (ET g Bs) g.E=fun d=>dn ((fY g Bs).map List.flatten) (al g.E d):=by
   funext d;unfold fc;exact hS.sg_eq _
  rw[this]
 have J:iK ((fY g Bs).map List.flatten)+alone g=g.V.length:=by
  have r:=n.ncl_sg;have F:=OY f;have j:(bA g.E).Perm ((fY g Bs).map List.flatten).flatten:=(jd (jS (rV b.ids)) f).2 fun d=>by rw[mF];exact hS.grp_mem.symm
  have e:sg (ET g Bs)=dn ((fY g Bs).map List.flatten):=funext hS.sg_eq;rw[e]at r;have H:bj (Orb (dn ((fY g Bs).map List.flatten))) (bA g.E)=iK ((fY g Bs).map List.flatten):=by rw[yO (jO f).per.eqv j];exact F
  have s:bj (Orb (dn ((fY g Bs).map List.flatten))) (bA g.E)+alone g=g.V.length:=r;rw[H]at s;exact s
 have K:iK (fY g Bs).flatten<=((aT g).map fun l=>(af l).length).sum:=by
  refine fa (Na Bs (fun p v=>bt g p.2 v) (fun p j v c=>?_) g.V b.toGood.nodup) ?_
  .obtain⟨A,z,_⟩:=hS.ok p j;show bt g p.2 v=[];unfold bt;rw[qU A z c,pO];rfl
  .rw[<- k,dC];have:∀ l:ki,(l.map fun p=>(g.V.filter fun v=>decide (v∈af p.1)).length).sum<=(l.map ((fun l=>(af l).length)∘fun p=>p.1)).sum:=by
    intro l;induction l with
    |nil=>simp
    |cons p l o=>
     rw[ax,ax,List.sum_cons,List.sum_cons];have:(g.V.filter fun v=>decide (v∈af p.1)).length<=(af p.1).length:=by refine gu (b.toGood.nodup.sublist eu) fun v c=>?_;rw[cj,gm]at c;exact c.2
     simp only[Function.comp_apply];omega
   exact this Bs
 have L:=EY b;have M:(Bs.flatMap (·.2)).length+((aT g).map fun l=>(af l).length).sum=(sE g.E).length+2*(aT g).length:=by
  rw[<- (iH b).length_eq,<- k];have:∀ l:ki,(∀ p∈l,p∈Bs)->(l.flatMap (·.2)).length+((l.map (·.1)).map fun l=>(af l).length).sum=(l.map (·.1)).flatten.length+2*(l.map (·.1)).length:=by
   intro l;induction l with
   |nil=>intro _;rfl
   |cons p l o=>intro m;have C:=o fun q B=>m q (aq _ B);have P:=(hS.ok p (m p ar)).1.cnt;simp only[dt,ax,List.sum_cons,List.flatten_cons,cb,List.length_cons]at C ⊢;omega
  exact this Bs fun _ h=>h
 have N:(sE g.E).length<=g.E.length:=pZ g.E;have t:(ET g Bs).g=g:=rfl;rw[t,y]at w;omega
end
noncomputable def Fz(m:Mp):Int:=if zM m≠0 then zM m else if gn m≠0 then 23 else 0
section
variable {E:List Ed} (hT:Tc E)
include hT
theorem TO(a:E.length<=200):∃ o,rY E=some o/\∀ F,o=some F->jG E F:=by
 have g:=hT.two;obtain⟨x,y,R,c⟩:∃ x y R,E=x::y::R:=by
  match E,g with
  |x::y::R,_=>exact⟨x,y,R,rfl⟩
 have m:rY E=if(af E).length<=64/\E.length<=200 then
  if(3:Int)*(af E).length-6<E.length then some none
  else(newF ⟨af E,E⟩).bind fun h=>(tD ⟨af E,E⟩ 1000 h).map fun o=>o.map (·.F)
  else none:=by rw[c];rfl
 rw[m,ac ⟨hT.few.1,a⟩]
 split
 .exact⟨none,rfl,fun F e=>by cases e⟩
 .obtain⟨h,f,l,_⟩:=hT.start c;obtain⟨o,j,k⟩:=xF hT 1000 h l (by have:=hT.few.2;omega);rw[f,Option.bind_some,j];refine⟨o.map (·.F),rfl,fun F e=>?_⟩;cases o with
  |none=>cases e
  |some d=>simp only[Option.map_some,ap]at e;subst e;obtain⟨b,n⟩:=k d rfl;exact b.done hT.ne hT.sim n
end
def IK(o:GoodE g)(Q:g.V.length<=64)(y:g.E.length<=200)(m:l∈aT g):l≠[]/\(∀ e∈l,e∈g.E/\e.a≠e.b)/\l.length<=g.E.length/\(2<=l.length->Tc l):=by
 have c:=o.simple;obtain⟨d,J⟩:=oZ o m;have s:∀ v∈af l,v∈g.V:=fun v h=>by
  obtain⟨e,z,k⟩:=(aI v l).1 h;have:=o.ends e (J e z)
  grind
 have r:l.length<=g.E.length:=by have t:l.length<=(aT g).flatten.length:=(mm m).length_le;have D:=(iH o).length_eq;have P:=pZ g.E;omega
 refine⟨fun K=>?_,fun e y=>⟨J e y,d.ne e y⟩,r,fun D=>⟨d.ids,d.ne,?_,?_,D,?_,O⟩⟩
 .unfold aT at m;obtain⟨B,x,e⟩:=ao.1 m;rw[K]at e;exact absurd (sm.1 e) (mO c x).ne
 .have t:=((iH o).map ae).nodup_iff.2 (tI g.E);rw[vn]at t;exact(mm (dd (f:=List.map ae) m)).nodup t
 .unfold aT at m;obtain⟨B,x,e⟩:=ao.1 m;have n:=mO c x;intro w p q H I A C;rw[<- e]at H I ⊢;obtain⟨i,F,M⟩:=vX c H;obtain⟨j,L,N⟩:=vX c I;exact n.con c w F (n.rel i F j L) p q M N A C
 .have:=gu ((jM l).imp fun k=>by omega) s;omega
def OT(j:GoodE g)(n:g.V.length<=64)(h:g.E.length<=200)(c:g.E.length<=200)(m:l∈aT g):∃ o,rY l=some o/\∀ F,o=some F->jG l F:=by
 obtain⟨f,a,d,b⟩:=IK j n h m
 match l,f,a,b,d with
 |[e],_,a,_,_=>exact⟨_,rfl,fun F k=>by injection k with k;subst k;exact UE (a e Y).2⟩
 |x::y::R,_,_,b,d=>exact TO (b Y) O
theorem Jn(x y:Int):∀ P,(tF x y P).length<=P.length+1
 |[]=>by simp[tF]
 |p::P=>by have:=Jn x y P;unfold tF;split<;>simp<;>omega
theorem KE(v x y:Int)(n:Nat):∀ A:Tn,(∀ a∈A,a.2.length<=n)->(jE v x y A).length<=A.length+1/\∀ a∈jE v x y A,a.2.length<=n+1
 |[],_=>by simp[jE]
 |a::A,h=>by
  obtain⟨e,d⟩:=KE v x y n A fun b c=>h b (aq _ c);unfold jE
  split
  .refine⟨Y,fun b c=>?_⟩;rcases ai.1 c with rfl|c
   .have:=Jn x y a.2;have:=h a ar;simp only;omega
   .have:=h b (aq _ c);omega
  .refine⟨by simp;omega,fun b c=>?_⟩;rcases ai.1 c with rfl|c
   .have:=h b ar;omega
   .exact d b c
def Ua:∀ T:List (Int×Int×Int),(T.foldl Dj []).length<=T.length/\(∀ a∈T.foldl Dj [],a.2.length<=T.length)/\∀ v∈(T.foldl Dj []).map (·.1),∃ t∈T,t.2.1=v:=by
 intro T;induction T using Aj with
 |h0=>simp
 |h1 T t c=>
  rw[lD,List.foldl_cons,List.foldl_nil,cb,List.length_singleton];have:=KE t.2.1 t.1 t.2.2 T.length (T.foldl Dj []) c.2.1;refine⟨fa this.1 O,this.2,?_⟩;have d:∀ A:Tn,∀ v∈(jE t.2.1 t.1 t.2.2 A).map (·.1),v=t.2.1\/v∈A.map (·.1):=by
   intro A;induction A with
   |nil=>intro v b;simp[jE]at b;exact .inl b
   |cons a A c=>
    intro v b;unfold jE at b
    split at b
    .rw[ax]at b ⊢;rcases ai.1 b with h|h
     .exact .inl h
     .exact .inr (aq _ h)
    .rw[ax]at b ⊢;rcases ai.1 b with h|h
     .exact .inr (by rw[h];exact ar)
     .exact(c v h).imp id fun k=>aq _ k
  intro v b;rcases d _ v b with h|h
  .exact⟨t,Y,h.symm⟩
  .obtain⟨s,f,e⟩:=c.2.2 v h;exact⟨s,dg _ f,e⟩
theorem Iv(g:Gr)(v:Int):∀(L:PP) (T:TL),iT (eU g v L T)=iT T+(L.flatMap (dp g v)).length
 |[],T=>by simp[eU]
 |x::L,T=>by have a:=Iv g v L (sF v (dp g v x) T);have e:eU g v (x::L) T=eU g v L (sF v (dp g v x) T):=rfl;rw[e,a,yB,dt,cb];omega
theorem KK(g:Gr)(A:Tn)(n:Nat):∀(K:PP) (T:TL),(∀ v∈K,((cG (dV v A)).flatMap (dp g v)).length<=n)->iT (gR g A K T)<=iT T+K.length*n
 |[],T,_=>by simp[gR]
 |v::K,T,h=>by have b:=KK g A n K (eU g v (cG (dV v A)) T) fun w a=>h w (aq _ a);have e:gR g A (v::K) T=gR g A K (eU g v (cG (dV v A)) T):=rfl;have c:=h v ar;rw[Iv]at b;rw[e,List.length_cons,nc];omega
def FG(A:GoodE g)(D:g.V.length<=64)(z:g.E.length<=200)(p:g.E.length<=200)(B:l∈aT g)(C:∃ s,PlE l s):∃ F,rY l=some (some F):=by
 obtain⟨v,m,t,c⟩:=IK A D z B;obtain⟨s,f⟩:=C
 match l,v,m,c,t,f with
 |[e],_,m,_,_,_=>exact⟨_,rfl⟩
 |x::y::R,_,_,c,t,f=>
  have a:=c Y;obtain⟨h,I,n,r,J,K,L,M⟩:=a.start rfl;have H:=Exd.start a f n J K L M;obtain⟨k,q⟩:=Exd.loop a 1000 h H (by have:=a.few.2;omega);obtain⟨o,b,N⟩:=xF a 1000 h n (by have:=a.few.2;omega);rw[q]at b;injection b with b;obtain⟨d,j⟩:=N k b.symm;have:=Pj a d j
  have w:rY (x::y::R)=if(af (x::y::R)).length<=64/\(x::y::R).length<=200 then
   if(3:Int)*(af (x::y::R)).length-6<(x::y::R).length then some none
   else(newF ⟨af (x::y::R),x::y::R⟩).bind fun h=>(tD ⟨af (x::y::R),x::y::R⟩ 1000 h).map fun o=>o.map (·.F)
   else none:=rfl
  rw[w,ac ⟨a.few.1,O⟩,aa O,I,Option.bind_some,q];exact⟨k.F,rfl⟩
theorem Fp(g:Gr):∀(a:List QR) (T:TL) (o:Option TL),(∀ l∈a,∃ F,rY l=some (some F))->BI g a T=some o->o≠none
 |[],T,o,_,h=>by injection h with h;rw[<- h];simp
 |l::a,T,o,hb,h=>by
  obtain⟨F,b⟩:=hb l ar;unfold BI at h;rw[b,Option.bind_some]at h;simp only at h
  split at h
  .exact Fp g a _ o (fun x c=>hb x (aq _ c)) h
  .cases h
def Bz{a:List QR}{o:Option Mp}(c:∀ l∈a,∃ F,rY l=some (some F))(h:iX g a=some o):o.isSome=true:=by
 unfold iX at h;cases b:BI g a [] with
 |none=>rw[b]at h;cases h
 |some T=>
  have:=Fp g a [] T c b;rw[b,Option.bind_some]at h;cases T with
  |none=>exact absurd rfl this
  |some T=>
   simp only at h
   split at h
   .injection h with h;rw[<- h];rfl
   .cases h
def PlD.oU(h:PlD E s D){A:QP}(e:fE E A):Flat D s (bm A):=by
 have a:PlE E s:=⟨D,h⟩;obtain⟨R,f⟩:=a.sub e;have b:=a.ors A;have c:(bm (E.map (gk A))).Perm (bm R++bm A):=by have:=f.map fun p:Int×Int=>(cd p,cd p.swap);rw[cz]at this;exact this
 have d:=lW h.perm (a.fl_nd b) c (h.flat_or A);exact DI h.perm (fun q g=>h.pairs b q (c.mem_iff.2 g)) d
def PlE.of_sub{c:QR}(h:PlE E s)(l:BlE c)(m:∀ e∈c,∃ f∈E,ae f=ae e):PlE c s:=by
 obtain⟨D,h⟩:=h;have j:∀ p:Int×Int,(∃ e∈c,ae e=bk p)->∃ e∈E,ae e=bk p:=fun p ⟨e,g,q⟩=>by obtain⟨f,hf,k⟩:=m e g;exact⟨f,hf,k.trans q⟩
 refine⟨D,l,h.perm,fun p d=>h.mem p (j p d),fun p q d o=>h.orb p q (j p d) (j q o),?_⟩;have n:fE E (c.map fun e=>(e.a,e.b)):=by
  refine⟨fun p d=>?_,?_⟩
  .obtain⟨e,g,rfl⟩:=ao.1 d;exact m e g
  .rw[dC];exact l.sim
 have:=h.oU n;have e:bm (c.map fun e=>(e.a,e.b))=cx c:=by unfold bm cx;rw[dC];rfl
 rwa [e]at this
section
variable {D:List Int} {s:Int->Int} (hs:cK D s) {P:List (Int×Int)} (hP:dH D P)
include hs hP
theorem yC{z:Int}(c:z∉D)(h:Flat D s P):cK (z::D) s/\Flat (z::D) s P:=by
 have b:s z=z:=hs.out z c;have m:cK (z::D) s:=⟨fun x a=>by rcases ai.1 a with rfl|a;rw[b];simp;exact aq _ (hs.mem x a),hs.inj,fun x a=>hs.out x fun k=>a (aq _ k)⟩;refine⟨m,?_⟩;have alone:∀ f:Int->Int,cK D f->¬∃ y∈D,Orb f y z:=fun f hf ⟨y,o,n,g⟩=>by
  have:∀ n,it f n y∈D:=fun n=>by
   induction n with
   |zero=>exact o
   |succ n d=>rw[bI];exact hf.mem _ d
  exact c (g ▸ this n)
 have j:=fQ hs P fun q j=>⟨(hP q j).1,(hP q j).2.1⟩;have l:¬∃ y∈D,cw (Orb s) P y z:=by
  rintro⟨y,o,k⟩
  have r:∀ x y,cw (Orb s) P x y->(x=z↔y=z):=lF (S:=fun x y=>(x=z↔y=z)) ⟨fun _=>lq,fun h=>h.symm,fun h k=>h.trans k⟩ (fun x y ⟨n,g⟩=>by
   constructor
   .intro e;subst e;have:∀ n,it s n x=x:=fun n=>by
     induction n with
     |zero=>rfl
     |succ n d=>rw[bI,d];exact b
    rw[<- g];exact this n
   .intro e;refine dq fun k=>?_;have a:∀ n,it s n x≠z:=fun n=>by
     induction n with
     |zero=>exact k
     |succ n d=>rw[bI];exact fun q=>d (hs.inj _ _ (q.trans b.symm))
    exact a n (g.trans e)) fun p m=>by
   have:=hP p m;constructor<;>intro e<;>rw[e]at this
   .exact absurd this.1 c
   .exact absurd this.2.1 c
  have:=(r y z k).2 rfl;exact c (this ▸ o)
 unfold Flat at *;rw[aQ (alone s hs),aQ (alone _ j),aQ l];omega
theorem CO{x z:Int}(E:x∈D)(F:z∈D)(v:x≠z)(l:s z=z)(d:z∉cf P)(h:Flat D s P):cK D (fun y=>s (Eu.sw x z y))/\Flat D (fun y=>s (Eu.sw x z y)) P:=by
 have c:cK D fun y=>s (Eu.sw x z y):=hs.sw E F;refine⟨c,?_⟩;have g:=fQ hs P fun q g=>⟨(hP q g).1,(hP q g).2.1⟩;have B:=fQ c P fun q g=>⟨(hP q g).1,(hP q g).2.1⟩;have o:∀(f:Int->Int),f z=z->∀ y,Orb f z y->y=z:=fun f hf y ⟨n,Q⟩=>by
  have:∀ n,it f n z=z:=fun n=>by
   induction n with
   |zero=>rfl
   |succ n I=>rw[bI,I];exact hf
  rw[<- Q];exact this n
 have C:ce s P z=z:=by rw[lT,l];intro p m;exact⟨fun e=>d (bK.2 ⟨p,m,.inl e⟩),fun e=>d (bK.2 ⟨p,m,.inr e⟩)⟩
 have M:=oL hs.per c.per (fun _=>rfl) E F fun k=>v (o s l x (k.symm hs.per));have j:Orb (fun y=>s (Eu.sw x z y)) x z:=⟨1,by show s (Eu.sw x z x)=z;rw[vV,l]⟩;have back:∀ u w,Orb s u w->Orb (fun y=>s (Eu.sw x z y)) u w:=fun u w k=>by have:=EI (f:=fun y=>s (Eu.sw x z y)) (f':=s) (a:=x) (b:=z) c.per (fun y=>by rw[Oi]) k;exact(Mg.same c.per.eqv j u w).1 this
 have A:=cO hs.per.eqv P;have t:=cO c.per.eqv P;have N:bj (cw (Orb s) P) D=bj (cw (Orb fun y=>s (Eu.sw x z y)) P) D+1:=by
  have R:¬cw (Orb s) P x z:=fun k=>by
   have J:∀ u w,cw (Orb s) P u w->(u=z↔w=z):=lF (S:=fun u w=>(u=z↔w=z)) ⟨fun _=>lq,fun h=>h.symm,fun h k=>h.trans k⟩ (fun u w k=>⟨fun e=>by rw[e]at k;exact o s l w k,fun e=>by rw[e]at k;exact o s l u (k.symm hs.per)⟩) fun p m=>by
    constructor<;>intro e
    .exact absurd (bK.2 ⟨p,m,.inl e.symm⟩) d
    .exact absurd (bK.2 ⟨p,m,.inr e.symm⟩) d
   exact v ((J x z k).2 rfl)
  rw[sV A R E F]
  congr 1
  refine dA fun u _ w _=>⟨fun k=>Mg.le t (gC P j) (fun u w k=>lF t (fun u w k=>gC P (back u w k)) (fun p m=>gV c.per.eqv P m) u w k) k,fun k=>?_⟩;refine lF (Mg.eqv A x z) (fun u w k=>?_) (fun p m=>.inl (gV hs.per.eqv P m)) u w k;exact Mg.le (Mg.eqv A x z) (.inr (.inl ⟨A.refl _,A.refl _⟩)) (fun u w k=>.inl (gC P k)) (EI hs.per (fun _=>rfl) k)
 have T:bj (Orb (ce s P)) D=bj (Orb (ce (fun y=>s (Eu.sw x z y)) P)) D+1:=by
  obtain⟨r,K,L,H⟩:∃ r,r∈D/\r≠z/\∀ y,ce (fun y=>s (Eu.sw x z y)) P y=ce s P (Eu.sw r z y):=by
   clear M N A t g B C h;induction P with
   |nil=>exact⟨x,E,v,fun _=>rfl⟩
   |cons p P I=>
    have m:=hP p ar;have U:z≠p.1:=fun e=>d (bK.2 ⟨p,ar,.inl e⟩);have V:z≠p.2:=fun e=>d (bK.2 ⟨p,ar,.inr e⟩);obtain⟨r,K,L,H⟩:=I (fun q g=>hP q (aq _ g)) fun k=>d (by obtain⟨q,g,e⟩:=bK.1 k;exact bK.2 ⟨q,aq _ g,e⟩);refine⟨Eu.sw p.1 p.2 r,?_,?_,fun y=>?_⟩
    .unfold Eu.sw;grind
    .unfold Eu.sw;grind
    .show ce _ P (Eu.sw p.1 p.2 y)=ce s P (Eu.sw p.1 p.2 (Eu.sw (Eu.sw p.1 p.2 r) z y));rw[H]
     congr 1
     unfold Eu.sw
     grind
  exact oL g.per B.per H K F fun k=>L (o _ C r (k.symm g.per))
 unfold Flat at *;omega
end
def Gi(g:cK D s){z:Int}(h:x∈D)(j:z∈D)(e:s z=z)(u w:Int):Orb (fun y=>s (Eu.sw x z y)) u w↔Mg (Orb s) x z u w:=by have d:cK D fun y=>s (Eu.sw x z y):=g.sw h j;have c:Orb (fun y=>s (Eu.sw x z y)) x z:=⟨1,by show s (Eu.sw x z x)=z;rw[vV,e]⟩;refine⟨EI g.per fun _=>rfl,Mg.le d.per.eqv c fun u w k=>?_⟩;have:=EI (f:=fun y=>s (Eu.sw x z y)) (f':=s) (a:=x) (b:=z) d.per (fun y=>by rw[Oi]) k;exact(Mg.same d.per.eqv c u w).1 this
def An(d:BlE E){p:Int×Int}(h:∃ e∈E,ae e=bk p):(0<=p.1/\p.1<4194304)/\(0<=p.2/\p.2<4194304)/\p.1≠p.2/\p.1∈af E/\p.2∈af E:=by
 obtain⟨e,g,j⟩:=h;have c:=bN (x:=p.1) (y:=p.2) g j;have k:=d.bnd _ c.1;have l:=d.bnd _ c.2;have f:=d.ne e g;refine⟨k,l,?_,c⟩;rcases aN j with⟨a,b⟩|⟨a,b⟩
 .rw[<- a,<- b];exact f
 .rw[<- a,<- b];exact jk f
def PlE.lay1(h:PlE E s){F:Ed}(C:F∈E)(hv:v∉af E)(o:0<=v/\v<4194304):∃ s',PlE (⟨0,F.b,v⟩::⟨0,F.a,v⟩::E) s':=by
 obtain⟨D0,h0⟩:=h;have N:=h0.bl;obtain⟨s,D,M,hneg⟩:=HW N h0.perm cd h0.mem (fun p q K c k=>dX (An N K).2.1 (An N c).2.1 k) h0.orb h0.flat;clear h0 D0;generalize ha:F.a=a at *;generalize hb:F.b=b at *;have r9:a≠b:=by rw[<- ha,<- hb];exact N.ne F C
 have va:a∈af E:=by rw[<- ha];exact(aI _ _).2 ⟨F,C,.inl rfl⟩
 have vb:b∈af E:=by rw[<- hb];exact(aI _ _).2 ⟨F,C,.inr rfl⟩
 have R:=N.bnd a va;have T:=N.bnd b vb;have hav:a≠v:=fun e=>hv (e ▸ va);have hbv:b≠v:=fun e=>hv (e ▸ vb);have fresh:∀ z,(∃ p:Int×Int,(p.1=v\/p.2=v)/\(0<=p.1/\p.1<4194304)/\(0<=p.2/\p.2<4194304)/\z=cd p)->z∉D:=by
  rintro z ⟨p,K,b1,b2,rfl⟩ k;rcases hneg _ k with k|k
  .obtain⟨q,c,e⟩:=bK.1 k;obtain⟨f,hf,rfl⟩:=ao.1 c;have c1:=N.bnd _ ((aI f.a E).2 ⟨f,hf,.inl rfl⟩);have c2:=N.bnd _ ((aI f.b E).2 ⟨f,hf,.inr rfl⟩);have n1:f.a≠v:=fun e=>hv (e ▸ (aI f.a E).2 ⟨f,hf,.inl rfl⟩);have n2:f.b≠v:=fun e=>hv (e ▸ (aI f.b E).2 ⟨f,hf,.inr rfl⟩);rcases e with e|e
   .have:=dX (p:=p) (q:=(f.a,f.b)) b2 c2 e;rw[this]at K;exact K.elim n1 n2
   .have:=dX (p:=p) (q:=(f.b,f.a)) b2 c1 e;rw[this]at K;exact K.elim n2 n1
  .have:0<=cd p:=by unfold cd;omega
   omega
 have f1:cd (a,v)∉D:=fresh _ ⟨(a,v),.inr rfl,R,o,rfl⟩;have f2:cd (b,v)∉D:=fresh _ ⟨(b,v),.inr rfl,T,o,rfl⟩;have f3:cd (v,a)∉D:=fresh _ ⟨(v,a),.inl rfl,o,R,rfl⟩;have f4:cd (v,b)∉D:=fresh _ ⟨(v,b),.inl rfl,o,T,rfl⟩;have ne:∀ p q:Int×Int,(0<=p.2/\p.2<4194304)->(0<=q.2/\q.2<4194304)->p≠q->cd p≠cd q:=fun p q h1 h2 h3 e=>h3 (dX h1 h2 e);have n12:cd (a,v)≠cd (b,v):=ne _ _ o o (Z r9);have n13:cd (a,v)≠cd (v,a):=ne _ _ o R (Z hav);have n14:cd (a,v)≠cd (v,b):=ne _ _ o T (Z hav);have n23:cd (b,v)≠cd (v,a):=ne _ _ o R (Z hbv);have n24:cd (b,v)≠cd (v,b):=ne _ _ o T (Z hbv);have n34:cd (v,a)≠cd (v,b):=ne _ _ R T (Z r9);have x0D:cd (a,b)∈D:=M.mem (a,b) ⟨F,C,by rw[<- ha,<- hb];rfl⟩;have y0D:cd (b,a)∈D:=M.mem (b,a) ⟨F,C,by rw[<- ha,<- hb];exact aH _ _⟩;generalize hz1:cd (a,v)=l at *;generalize hz2:cd (b,v)=A at *;generalize hz3:cd (v,a)=m at *;generalize hz4:cd (v,b)=B at *;generalize hx0:cd (a,b)=x0 at *;generalize hy0:cd (b,a)=U at *;have j:dH D (cx E):=fun q c=>by obtain⟨e,d,rfl⟩:=ao.1 c;refine⟨M.mem _ ⟨e,d,rfl⟩,M.mem _ ⟨e,d,aH _ _⟩,fun k=>N.ne e d ?_⟩;exact congrArg Prod.fst (dX (p:=(e.a,e.b)) (q:=(e.b,e.a)) (N.bnd _ ((aI _ _).2 ⟨e,d,.inr rfl⟩)) (N.bnd _ ((aI _ _).2 ⟨e,d,.inl rfl⟩)) k)
 have X:∀ z,z∉D->z∉cf (cx E):=fun z hz k=>by
  obtain⟨q,c,e⟩:=bK.1 k;rcases e with rfl|rfl
  .exact hz (j q c).1
  .exact hz (j q c).2.1
 have hB':BlE (⟨0,b,v⟩::⟨0,a,v⟩::E):=by
  have sim:=N.sim;have nov:∀ e∈E,∀ u,ae e≠aj u v:=fun e d u k=>hv (bN d k).2;refine⟨fun e d=>?_,?_,fun w hw=>?_⟩
  .rcases ai.1 d with rfl|d
   .exact hbv
   .rcases ai.1 d with rfl|d
    .exact hav
    .exact N.ne e d
  .simp only[ax,bw,ai,ao,fJ];refine⟨⟨fun k=>?_,fun⟨e,d,k⟩=>nov e d _ k⟩,fun⟨e,d,k⟩=>nov e d _ k,sim⟩;rcases aN (u:=b) (v:=v) (x:=a) (y:=v) k with⟨k,_⟩|⟨k,_⟩
   .exact r9 k.symm
   .exact hbv k
  .obtain⟨e,d,k⟩:=(aI _ _).1 hw;rcases ai.1 d with rfl|d
   .rcases k with rfl|rfl
    .exact T
    .exact o
   .rcases ai.1 d with rfl|d
    .rcases k with rfl|rfl
     .exact R
     .exact o
    .exact N.bnd w ((aI _ _).2 ⟨e,d,k⟩)
 have hPn:(cf (cx E)).Nodup:=by
  have hA:fE E (E.map fun e=>(e.a,e.b)):=⟨fun p K=>by obtain⟨e,d,rfl⟩:=ao.1 K;exact⟨e,d,rfl⟩,by rw[dC];exact N.sim⟩;have:=PlE.fl_nd ⟨D,M⟩ hA;have e:bm (E.map fun e=>(e.a,e.b))=cx E:=by unfold bm cx;rw[dC];rfl
  rwa [e]at this
 obtain⟨p1,q1⟩:=yC M.perm j f1 M.flat;have H:dH (l::D) (cx E):=fun q c=>⟨aq _ (j q c).1,aq _ (j q c).2.1,(j q c).2.2⟩;obtain⟨p2,q2⟩:=yC p1 H (z:=A) (by grind) q1;have I:dH (A::l::D) (cx E):=fun q c=>⟨aq _ (H q c).1,aq _ (H q c).2.1,(j q c).2.2⟩;obtain⟨p3,q3⟩:=yC p2 I (z:=m) (by grind) q2;have J:dH (m::A::l::D) (cx E):=fun q c=>⟨aq _ (I q c).1,aq _ (I q c).2.1,(j q c).2.2⟩;obtain⟨p4,q4⟩:=yC p3 J (z:=B) (by grind) q3;have r:dH (B::m::A::l::D) (cx E):=fun q c=>⟨aq _ (J q c).1,aq _ (J q c).2.1,(j q c).2.2⟩;have s1:=M.perm.out l f1;have s2:=M.perm.out A f2;have s3:=M.perm.out m f3;have s4:=M.perm.out B f4;have mD:∀ x,x∈D->x∈B::m::A::l::D:=fun x hx=>by simp[hx]
 clear p1 q1 p2 q2 p3 q3 H I J;generalize hDD:B::m::A::l::D=DD at *;have m1:l∈DD:=by rw[<- hDD];simp
 have m2:A∈DD:=by rw[<- hDD];simp
 have m3:m∈DD:=by rw[<- hDD];simp
 have m4:B∈DD:=by rw[<- hDD];simp
 have Q:∀ z,z∉D->x0≠z:=fun z hz e=>hz (e ▸ x0D);have V:∀ z,z∉D->U≠z:=fun z hz e=>hz (e ▸ y0D);obtain⟨pa,qa⟩:=CO p4 r (mD _ x0D) m1 (Q _ f1) s1 (X _ f1) q4;have oa:=Gi p4 (mD _ x0D) m1 s1;obtain⟨t,ht,t1,t2,t3,t4⟩:∃ t:Int->Int,(∀ y,t y=s (Eu.sw x0 l y))/\t x0=l/\t A=A/\t m=m/\t B=B:=⟨_,fun _=>rfl,by rw[vV,s1],by rw[kZ (Q _ f2).symm n12.symm,s2],by rw[kZ (Q _ f3).symm n13.symm,s3],by rw[kZ (Q _ f4).symm n14.symm,s4]⟩;rw[show(fun y=>s (Eu.sw x0 l y))=t from funext fun y=>(ht y).symm]at pa qa oa;obtain⟨w,hw,wy⟩:∃ w∈DD,t w=U:=by
  obtain⟨n,hn0,hn⟩:=pa.per U;obtain⟨k,rfl⟩:∃ k,n=k+1:=⟨n-1,O⟩;rw[bI]at hn;refine⟨it t k U,?_,hn⟩;clear hn hn0;induction k with
  |zero=>exact mD _ y0D
  |succ k ih=>rw[bI];exact pa.mem _ ih
 have wz2:w≠A:=fun e=>by rw[e,t2]at wy;exact V _ f2 wy.symm
 have wx0:x0≠w:=fun e=>by rw[<- e,t1]at wy;exact V _ f1 wy.symm
 obtain⟨pb,qb⟩:=CO pa r hw m2 wz2 t2 (X _ f2) qa;have ob:=Gi pa hw m2 t2;have wz3:w≠m:=fun e=>by rw[e,t3]at wy;exact V _ f3 wy.symm
 have wz4:w≠B:=fun e=>by rw[e,t4]at wy;exact V _ f4 wy.symm
 obtain⟨g,hg,g1,g2,g3,g4⟩:∃ g:Int->Int,(∀ y,g y=t (Eu.sw w A y))/\g x0=l/\g A=U/\g m=m/\g B=B:=⟨_,fun _=>rfl,by rw[kZ wx0 (Q _ f2),t1],by rw[EK,wy],by rw[kZ wz3.symm n23.symm,t3],by rw[kZ wz4.symm n24.symm,t4]⟩;rw[show(fun y=>t (Eu.sw w A y))=g from funext fun y=>(hg y).symm]at pb qb ob;obtain⟨pc,qc⟩:=CO pb r m3 m4 n34 g4 (X _ f4) qb;have oc:=Gi pb m3 m4 g4;obtain⟨f,hf,e1,e2,e3,e4⟩:∃ f:Int->Int,(∀ y,f y=g (Eu.sw m B y))/\f x0=l/\f A=U/\f m=B/\f B=m:=⟨_,fun _=>rfl,by rw[kZ (Q _ f3) (Q _ f4),g1],by rw[kZ n23 n24,g2],by rw[vV,g4],by rw[EK,g3]⟩;rw[show(fun y=>g (Eu.sw m B y))=f from funext fun y=>(hf y).symm]at pc qc oc;have old:∀ x y,Orb s x y->Orb f x y:=fun x y k=>(oc x y).2 (.inl ((ob x y).2 (.inl ((oa x y).2 (.inl k)))));have hE:=pc.per.eqv;have r1:Orb f x0 l:=⟨1,e1⟩;have r2:Orb f A U:=⟨1,e2⟩;have r3:Orb f m B:=⟨1,e3⟩;obtain⟨eo,l1,l2⟩:∃ eo:Int->Int,(∀ p:Int×Int,(∃ e∈E,ae e=bk p)->eo (cd p)=p.1)/\∀ x∈D,∀ y,Orb s x y->eo x=eo y:=by
  refine⟨fun x=>open Classical in if h:∃ p:Int×Int,(∃ e∈E,ae e=bk p)/\Orb s (cd p) x then h.choose.1 else -1,fun p K=>?_,fun x hx y k=>?_⟩
  .have h:∃ q:Int×Int,(∃ e∈E,ae e=bk q)/\Orb s (cd q) (cd p):=⟨p,K,Orb.refl _ _⟩;simp only[ry h];exact(M.orb _ _ h.choose_spec.1 K).1 h.choose_spec.2
  .have hs:=M.perm.per;by_cases h:∃ p:Int×Int,(∃ e∈E,ae e=bk p)/\Orb s (cd p) x
   .have h':∃ p:Int×Int,(∃ e∈E,ae e=bk p)/\Orb s (cd p) y:=⟨_,h.choose_spec.1,h.choose_spec.2.trans k⟩;simp only[ry h,ry h'];exact(M.orb _ _ h.choose_spec.1 h'.choose_spec.1).1 (h.choose_spec.2.trans (k.trans (h'.choose_spec.2.symm hs)))
   .have h':¬∃ p:Int×Int,(∃ e∈E,ae e=bk p)/\Orb s (cd p) y:=fun⟨p,K,q⟩=>h ⟨p,K,q.trans (k.symm hs)⟩;simp only[dif_neg h,dif_neg h']
 obtain⟨L,L1,L2,L3,L4⟩:∃ L:Int->Int,L l=a/\L A=b/\(L m=v/\L B=v)/\∀ x∈D,L x=eo x:=⟨fun x=>if x=l then a else if x=A then b else if x=m\/x=B then v else eo x,by grind,by grind,by grind,fun x hx=>by grind⟩;have Lq:gh fun x y=>L x=L y:=⟨fun _=>rfl,fun h=>h.symm,fun h k=>h.trans k⟩;have Lx0:L x0=a:=by rw[L4 _ x0D,<- hx0];exact l1 (a,b) ⟨F,C,by rw[<- ha,<- hb];rfl⟩
 have Ly0:L U=b:=by rw[L4 _ y0D,<- hy0];exact l1 (b,a) ⟨F,C,by rw[<- ha,<- hb];exact aH _ _⟩
 have Ls:∀ x y,Orb s x y->L x=L y:=fun x y k=>by
  by_cases hx:x∈D
  .have hy:y∈D:=by
    obtain⟨n,rfl⟩:=k;induction n with
    |zero=>exact hx
    |succ n ih=>rw[bI];exact M.perm.mem _ ih
   rw[L4 x hx,L4 y hy];exact l2 x hx y k
  .obtain⟨n,rfl⟩:=k;have:it s n x=x:=by
    induction n with
    |zero=>rfl
    |succ n ih=>rw[bI,ih];exact M.perm.out x hx
   rw[this]
 have Lt:∀ x y,Orb t x y->L x=L y:=fun x y k=>Mg.le (S:=fun x y=>L x=L y) Lq (Lx0.trans L1.symm) Ls ((oa x y).1 k);have Lw:L w=b:=(Lt w U ⟨1,wy⟩).trans Ly0;have Lg:∀ x y,Orb g x y->L x=L y:=fun x y k=>Mg.le (S:=fun x y=>L x=L y) Lq (Lw.trans L2.symm) Lt ((ob x y).1 k);have Lf:∀ x y,Orb f x y->L x=L y:=fun x y k=>Mg.le (S:=fun x y=>L x=L y) Lq (L3.1.trans L3.2.symm) Lg ((oc x y).1 k);have nP:∀ z,z∉D->∀ q∈cx E,z≠q.1/\z≠q.2:=fun z hz q c=>⟨fun e=>X z hz (bK.2 ⟨q,c,.inl e⟩),fun e=>X z hz (bK.2 ⟨q,c,.inr e⟩)⟩;have F1:Flat DD f ((l,m)::cx E):=by
  refine(oS pc (p:=(l,m)) fun q c=>?_).2 ⟨qc,fun k=>?_⟩
  .rcases ai.1 c with rfl|c
   .exact⟨m1,m3,n13⟩
   .exact r q c
  .exfalso
   have key:=lF (S:=fun x y=>(L x=v↔L y=v)) ⟨fun _=>lq,fun h=>h.symm,fun h k=>h.trans k⟩ (fun x y k=>by rw[Lf x y k]) (P:=cx E) (fun q c=>by
    obtain⟨e,d,rfl⟩:=ao.1 c;have i1:L (cd (e.a,e.b))=e.a:=(L4 _ (j _ c).1).trans (l1 (e.a,e.b) ⟨e,d,rfl⟩);have i2:L (cd (e.b,e.a))=e.b:=(L4 _ (j _ c).2.1).trans (l1 (e.b,e.a) ⟨e,d,aH _ _⟩);have j1:e.a≠v:=fun q=>hv (q ▸ (aI _ _).2 ⟨e,d,.inl rfl⟩);have j2:e.b≠v:=fun q=>hv (q ▸ (aI _ _).2 ⟨e,d,.inr rfl⟩);simp only[i1,i2]
    exact⟨fun q=>absurd q j1,fun q=>absurd q j2⟩) _ _ k
   exact hav (L1.symm.trans (key.2 L3.1))
 have F2:Flat DD f ((A,B)::(l,m)::cx E):=by
  refine(oS pc (p:=(A,B)) fun q c=>?_).2 ⟨F1,fun _=>⟨3,?_⟩⟩
  .rcases ai.1 c with rfl|c
   .exact⟨m2,m4,n24⟩
   .rcases ai.1 c with rfl|c
    .exact⟨m1,m3,n13⟩
    .exact r q c
  .have a1:ce f ((l,m)::cx E) A=U:=by show ce f (cx E) (Eu.sw l m A)=U;rw[kZ n12.symm n23,lT f _ (nP _ f2),e2]
   have a2:ce f ((l,m)::cx E) U=l:=by show ce f (cx E) (Eu.sw l m U)=l;rw[kZ (V _ f1) (V _ f3)];have hm:(cd (F.a,F.b),cd (F.b,F.a))∈cx E:=ao.2 ⟨F,C,rfl⟩;rw[ha,hb,hx0,hy0]at hm;rw[(lE f hPn _ hm).2,e1]
   have a3:ce f ((l,m)::cx E) l=B:=by show ce f (cx E) (Eu.sw l m l)=B;rw[vV,lT f _ (nP _ f3),e3]
   rw[bI,bI,bI];show ce f ((l,m)::cx E) (ce f ((l,m)::cx E) (ce f ((l,m)::cx E) A))=B;rw[a1,a2,a3]
 have W:∀ p:Int×Int,(∃ e∈(⟨0,b,v⟩::⟨0,a,v⟩::E:QR),ae e=bk p)->cd p∈DD/\L (cd p)=p.1/\(p.1=v->Orb f (cd p) m)/\(p.1≠v->∃ q:Int×Int,(∃ e∈E,ae e=bk q)/\q.1=p.1/\Orb f (cd p) (cd q)):=by
  rintro⟨u,x⟩ ⟨e,d,k⟩;rcases ai.1 d with rfl|d
  .rcases aN (u:=b) (v:=v) (x:=u) (y:=x) k with⟨rfl,rfl⟩|⟨rfl,rfl⟩
   .rw[hz2];exact⟨m2,L2,fun q=>absurd q hbv,fun _=>⟨(b,a),⟨F,C,by rw[<- ha,<- hb];exact aH _ _⟩,rfl,by rw[hy0];exact r2⟩⟩
   .rw[hz4];exact⟨m4,L3.2,fun _=>r3.symm pc.per,fun q=>absurd rfl q⟩
  .rcases ai.1 d with rfl|d
   .rcases aN (u:=a) (v:=v) (x:=u) (y:=x) k with⟨rfl,rfl⟩|⟨rfl,rfl⟩
    .rw[hz1];exact⟨m1,L1,fun q=>absurd q hav,fun _=>⟨(a,b),⟨F,C,by rw[<- ha,<- hb];rfl⟩,rfl,by rw[hx0];exact r1.symm pc.per⟩⟩
    .rw[hz3];exact⟨m3,L3.1,fun _=>Orb.refl _ _,fun q=>absurd rfl q⟩
   .have hm:=M.mem (u,x) ⟨e,d,k⟩;exact⟨mD _ hm,(L4 _ hm).trans (l1 (u,x) ⟨e,d,k⟩),fun q=>absurd (q ▸ (bN d k).1) hv,fun _=>⟨(u,x),⟨e,d,k⟩,rfl,Orb.refl _ _⟩⟩
 obtain⟨s',D',h',_⟩:=HW hB' pc cd (fun p K=>(W p K).1) (fun p q K c k=>dX (An hB' K).2.1 (An hB' c).2.1 k) (fun p q K c=>by
  obtain⟨_,i1,i2,i3⟩:=W p K;obtain⟨_,j1,j2,j3⟩:=W q c;constructor
  .intro k;rw[<- i1,<- j1];exact Lf _ _ k
  .intro k;by_cases hpv:p.1=v
   .exact(i2 hpv).trans ((j2 (k ▸ hpv)).symm pc.per)
   .obtain⟨p',k1,k2,k3⟩:=i3 hpv;obtain⟨q',t1,t2,t3⟩:=j3 (k ▸ hpv)
    exact k3.trans ((old _ _ ((M.orb p' q' k1 t1).2 (by rw[k2,t2,k]))).trans (t3.symm pc.per))) (by
  show Flat DD f ((cd (b,v),cd (v,b))::(cd (a,v),cd (v,a))::cx E)
  rw[hz1,hz2,hz3,hz4];exact F2)
 exact⟨s',D',h'⟩
def Uw{x:Ed}(h:BlE (x::E)):BlE E:=by
 have:=h.sim;rw[ax,bw]at this
 exact⟨fun e a=>h.ne e (aq _ a),this.2,fun v b=>by
  obtain⟨e,a,k⟩:=(aI v E).1 b
  exact h.bnd v ((aI _ _).2 ⟨e,aq _ a,k⟩)⟩
def PlE.unlay{a b:Int}(h:PlE (⟨0,b,v⟩::⟨0,a,v⟩::E) s)(S:v∉af E)(o:BlE (⟨0,a,b⟩::E)):∃ T,PlE (⟨0,a,b⟩::E) T:=by
 have L:a≠b:=o.ne _ ar;have hP:=h;obtain⟨D,h⟩:=h;have A:=h.bl;have R:b≠v:=A.ne ⟨0,b,v⟩ Y;have P:a≠v:=A.ne ⟨0,a,v⟩ Y;have hBE:=Uw o;have t:=o.sim;rw[ax,bw]at t;have o7:∀ e∈E,ae e≠aj a b:=fun e g k=>t.1 (ao.2 ⟨e,g,k⟩);have U:∀ p:Int×Int,(∃ e∈E,ae e=bk p)->∃ e∈(⟨0,b,v⟩::⟨0,a,v⟩::E:QR),ae e=bk p:=fun p ⟨e,g,k⟩=>⟨e,Z g,k⟩;have n:∀ u w,(u=a/\w=v\/u=v/\w=a\/u=b/\w=v\/u=v/\w=b)->∃ e∈(⟨0,b,v⟩::⟨0,a,v⟩::E:QR),ae e=bk (u,w):=fun u w k=>by
  rcases k with⟨rfl,rfl⟩|⟨rfl,rfl⟩|⟨rfl,rfl⟩|⟨rfl,rfl⟩
  .exact⟨⟨0,u,w⟩,Y,rfl⟩
  .exact⟨⟨0,w,u⟩,Y,aH _ _⟩
  .exact⟨⟨0,u,w⟩,Y,rfl⟩
  .exact⟨⟨0,w,u⟩,Y,aH _ _⟩
 have K:fE (⟨0,b,v⟩::⟨0,a,v⟩::E) ((v,b)::(a,v)::E.map fun e=>(e.a,e.b)):=by
  refine⟨fun p l=>?_,?_⟩
  .rcases ai.1 l with rfl|l
   .exact n v b Y
   .rcases ai.1 l with rfl|l
    .exact n a v Y
    .obtain⟨e,g,rfl⟩:=ao.1 l;exact⟨e,Z g,rfl⟩
  .have:=A.sim;rw[ax,ax]at this;rw[ax,ax,dC];rw[show bk (v,b)=ae ⟨0,b,v⟩ from aH _ _];exact this
 have I:fE (⟨0,b,v⟩::⟨0,a,v⟩::E) ((a,v)::E.map fun e=>(e.a,e.b)):=⟨fun p l=>K.mem p (aq _ l),(bw.1 K.nd).2⟩;have H:fE (⟨0,b,v⟩::⟨0,a,v⟩::E) (E.map fun e=>(e.a,e.b)):=⟨fun p l=>I.mem p (aq _ l),(bw.1 I.nd).2⟩;have J:bm (E.map fun e=>(e.a,e.b))=cx E:=by unfold bm cx;rw[dC];rfl
 have hn:=hP.fl_nd K;have V:=h.oU H;rw[J]at V;have r:∀ p:Int×Int,(∃ e∈(⟨0,b,v⟩::⟨0,a,v⟩::E:QR),ae e=bk p)->lz s [(cd (a,v),cd (v,a))] (cd p)->p.1=v:=fun p l ⟨q,m,k⟩=>by rw[bi]at m;subst m;exact((h.orb (v,a) p (n v a Y) l).1 k).symm
 have F:cw (Orb s) (cx E) (cd (a,v)) (cd (b,v))->Orb (ce s (cx E)) (cd (a,v)) (cd (b,v)):=by
  refine Iw (z:=(cd (v,b),cd (b,v))) (Q:=[(cd (a,v),cd (v,a))]) h.perm ?_ ⟨(h.orb (v,a) (v,b) (n v a Y) (n v b Y)).2 rfl,trivial⟩ (fun d hd k=>?_) (fun k=>R (r (b,v) (n b v Y) k)) (.inr ⟨_,[],rfl,rfl⟩) (fun k=>P (r (a,v) (n a v Y) k)) ?_
  .rw[<- J];exact hn
  .obtain⟨q,m,e⟩:=bK.1 hd;obtain⟨f,hf,rfl⟩:=ao.1 m;rcases e with rfl|rfl
   .exact S (r (f.a,f.b) (U _ ⟨f,hf,rfl⟩) k ▸ (aI _ _).2 ⟨f,hf,.inl rfl⟩)
   .exact S (r (f.b,f.a) (U _ ⟨f,hf,aH _ _⟩) k ▸ (aI _ _).2 ⟨f,hf,.inr rfl⟩)
  .have:=hP.face K;have e:bm ((a,v)::E.map fun e=>(e.a,e.b))=[(cd (a,v),cd (v,a))]++cx E:=by rw[<- J];rfl
   rw[e]at this;exact this
 obtain⟨δ,W,X,M⟩:∃ δ:Int×Int->Int,δ (a,b)=cd (a,v)/\δ (b,a)=cd (b,v)/\∀ p:Int×Int,(∃ e∈E,ae e=bk p)->δ p=cd p:=by
  refine⟨fun p=>if p=(a,b)then cd (a,v)else if p=(b,a)then cd (b,v)else cd p,ac rfl,?_,fun p ⟨e,g,k⟩=>?_⟩
  .show(if(b,a)=(a,b)then cd (a,v)else if(b,a)=(b,a)then cd (b,v)else cd (b,a))=cd (b,v);rw[aa (by simp[L.symm]),ac rfl]
  .simp only;rw[aa,aa]
   .rintro rfl;exact o7 e g (k.trans (aH _ _))
   .rintro rfl;exact o7 e g k
 have c:∀ p:Int×Int,(∃ e∈(⟨0,a,b⟩::E:QR),ae e=bk p)->∃ q:Int×Int,(∃ e∈(⟨0,b,v⟩::⟨0,a,v⟩::E:QR),ae e=bk q)/\δ p=cd q/\q.1=p.1/\((p=(a,b)/\q=(a,v))\/(p=(b,a)/\q=(b,v))\/(p=q/\p.2≠v)):=by
  rintro⟨u,x⟩ ⟨e,g,k⟩;rcases ai.1 g with rfl|g
  .rcases aN (u:=a) (v:=b) (x:=u) (y:=x) k with⟨rfl,rfl⟩|⟨rfl,rfl⟩
   .exact⟨(a,v),n a v Y,W,rfl,.inl ⟨rfl,rfl⟩⟩
   .exact⟨(b,v),n b v Y,X,rfl,.inr (.inl ⟨rfl,rfl⟩)⟩
  .exact⟨(u,x),U _ ⟨e,g,k⟩,M _ ⟨e,g,k⟩,rfl,.inr (.inr ⟨rfl,fun q=>S (q ▸ (bN g k).2)⟩)⟩
 obtain⟨T,D',h',_⟩:=HW o h.perm δ (fun p l=>by obtain⟨q,m,e,_⟩:=c p l;rw[e];exact h.mem q m) (fun p q l m k=>by
  obtain⟨p',B,e,_,i⟩:=c p l;obtain⟨q',C,N,_,j⟩:=c q m;rw[e,N]at k;have:=dX (An A B).2.1 (An A C).2.1 k;subst this;rcases i with⟨rfl,i⟩|⟨rfl,i⟩|⟨rfl,i⟩<;>rcases j with⟨rfl,j⟩|⟨rfl,j⟩|⟨rfl,j⟩
  .rfl
  .rw[i]at j;injection j with j _;exact absurd j L
  .rw[i]at j;exact absurd rfl j
  .rw[i]at j;injection j with j _;exact absurd j L.symm
  .rfl
  .rw[i]at j;exact absurd rfl j
  .rw[j]at i;exact absurd rfl i
  .rw[j]at i;exact absurd rfl i
  .rfl) (fun p q l m=>by
  obtain⟨p',B,e,i,_⟩:=c p l;obtain⟨q',C,N,j,_⟩:=c q m;rw[e,N,<- i,<- j]
  exact h.orb p' q' B C) (by
  have e:E.map (fun e=>(δ (e.a,e.b),δ (e.b,e.a)))=cx E:=jf fun e g=>by rw[M (e.a,e.b) ⟨e,g,rfl⟩,M (e.b,e.a) ⟨e,g,aH _ _⟩]
  rw[ax,e,W,X];refine(oS h.perm (p:=(cd (a,v),cd (b,v))) fun q m=>?_).2 ⟨V,F⟩;rcases ai.1 m with rfl|m
  .exact⟨h.mem _ (n a v Y),h.mem _ (n b v Y),fun e=>L (congrArg Prod.fst (dX (p:=(a,v)) (q:=(b,v)) (An A (n a v Y)).2.1 (An A (n b v Y)).2.1 e))⟩
  .have:=h.pairs H;rw[J]at this
   exact this q m)
 exact⟨T,D',h'⟩
def vO(A:QR):Prop:=∀ e∈A,e.a≠e.b/\(0<=e.a/\e.a<4194304)/\0<=e.b/\e.b<4194304
def Pg(A:QR):Prop:=∃ s,PlE (sE A) s
def Tj{e:Ed}(h:e∈A):∃ f∈sE A,ae f=ae e:=by obtain⟨y,a,k⟩:=Ld A e h;exact⟨y,a,(Gf.1 k).symm⟩
def vO.bl(h:vO A):BlE (sE A):=⟨fun e a=>(h e (iZ A e a)).1,tI A,fun v b=>by
 obtain⟨e,a,k⟩:=(aI v _).1 b;have:=h e (iZ A e a)
 grind⟩
def Pg.sub{B:QR}(h:Pg A)(c:vO B)(g:∀ e∈B,∃ f∈A,ae f=ae e):Pg B:=by obtain⟨s,h⟩:=h;refine⟨s,h.of_sub c.bl fun e d=>?_⟩;obtain⟨f,hf,k⟩:=g e (iZ B e d);obtain⟨b,a,j⟩:=Tj hf;exact⟨b,a,j.trans k⟩
def vO.of(b:GoodE g)(d:∀ v∈g.V,0<=v/\v<4194304):vO g.E:=fun e c=>by have f:=b.ne e c;have a:=b.ends e c;exact⟨f,d _ a.1,d _ a.2⟩
theorem Pg.blk(d:GoodE g)(n:∀ v∈g.V,0<=v/\v<4194304)(p:g.V.length<=64)(o:g.E.length<=200)(h:Pg g.E)(m:l∈aT g):∃ s,PlE l s:=by
 obtain⟨q,a,t,r⟩:=IK d p o m;obtain⟨s,h⟩:=h;have hf:=iH d;have c:∀ e∈l,e∈sE g.E:=fun e k=>hf.mem_iff.1 (fI.2 ⟨l,m,k⟩);have b:(l.map ae).Nodup:=by have a:=(hf.map ae).nodup_iff.2 (tI g.E);rw[vn]at a;exact(mm (dd (f:=List.map ae) m)).nodup a
 refine⟨s,h.of_sub ⟨fun e k=>(a e k).2,b,fun v k=>?_⟩ fun e k=>⟨e,c e k,rfl⟩⟩;obtain⟨e,j,k⟩:=(aI v l).1 k;have:=vO.of d n e (a e j).1
 grind
def bZ.pg{m:Mp}(h:bZ m)(c:Aw.gn m=0)(a:∀ v∈m.g.V,0<=v/\v<4194304):Pg m.g.E:=
 h.plE c (fun e b=>iZ _ e b) (eG _ (tI _)) (vO.of h.g a).bl
def UP(b:GoodE g)(p:∀ v∈g.V,0<=v/\v<4194304)(c:l∈aT g):BlE l/\l≠[]/\∀ v∈af l,v∈g.V:=by
 obtain⟨d,q⟩:=oZ b c;have a:∀ v∈af l,v∈g.V:=fun v h=>by
  obtain⟨e,j,k⟩:=(aI v l).1 h;have:=b.ends e (q e j);rcases k with rfl|rfl
  .exact this.1
  .exact this.2
 refine⟨⟨d.ne,?_,fun v h=>p v (a v h)⟩,?_,a⟩
 .have m:=((iH b).map ae).nodup_iff.2 (tI g.E);rw[vn]at m;exact(mm (dd (f:=List.map ae) c)).nodup m
 .unfold aT at c;obtain⟨B,o,e⟩:=ao.1 c;rw[<- e];intro n;exact(mO b.simple o).ne (sm.1 n)
section
variable {g:Gr} (hg:GoodE g) (hv:∀ v∈g.V,0<=v/\v<4194304) (hn:g.V.length<=24) (he:g.E.length<=50)
include hg hv hn he
theorem Ze{l:QR}(b:l∈aT g):l.length<=50/\(af l).length<=24:=by
 obtain⟨_,_,a⟩:=UP hg hv b;constructor
 .have c:l.length<=(aT g).flatten.length:=(mm b).length_le;have d:=(iH hg).length_eq;have e:=pZ g.E;omega
 .have:=gu ((jM l).imp fun k=>by omega) a;omega
theorem Xr{l:QR}(H:l∈aT g){F:List PP}(b:jG l F)(T:TL)(W:iT T+1200<=100000):wh F (aX F) (yM g F T)/\iT (yM g F T)<=iT T+1200:=by
 obtain⟨C,L,J⟩:=UP hg hv H;obtain⟨X,l2⟩:=Ze hg hv hn he H;have D:=b.cnt;have P:(PF F).length<=100:=by have:=xK (E:=l) b.nd fun p z=>(b.mem p.1 p.2).1 z;omega
 obtain⟨K,A,B⟩:=Ua (F.flatMap ju);have R:(F.flatMap ju).length=(PF F).length:=by
  have:=(AM F).length_eq
  rwa [du]at this
 rw[<- Ap]at K A B;have j:∀ v∈(aX F).map (·.1),v∈af l:=fun v U=>by obtain⟨t,V,rfl⟩:=B v U;have:=(AM F).mem_iff.1 (dd (f:=fun t:Int×Int×Int=>(t.1,t.2.1)) V);obtain⟨e,he,k⟩:=(b.mem t.1 t.2.1).1 this;exact(bN he k).2
 have N:(sZ ((aX F).map (·.1))).length<=24:=by have:=gu (l₂:=af l) ((Bc ((aX F).map (·.1))).imp fun k=>by omega) fun v h=>j v ((sH v _).1 h);omega
 have q:∀ v,((cG (dV v (aX F))).flatMap (dp g v)).length<=50:=fun v=>by
  by_cases n:v∈af l
  .have Q:=b.round C L n;have w:((cG (dV v (aX F))).flatMap (dp g v)).Nodup:=mV Q.1 (fun x _=>pI hg v x) fun x _ y _ d o M=>by rw[<- (Ak hg o).2,(Ak hg M).2]
   have:=gu w (l₂:=g.E.map (eQ v)) fun d s=>by obtain⟨x,_,s⟩:=fu.1 s;obtain⟨e,he,_,rfl⟩:=lQ.1 s;exact dd he
   rw[du]at this;omega
  .rw[qU b C n,pO];simp
 have m:iT (yM g F T)<=iT T+1200:=by have:=KK g (aX F) 50 (sZ ((aX F).map (·.1))) T fun v _=>q v;unfold yM;omega
 refine⟨⟨O,fun r I=>?_,O,fun a S=>by have:=A a S;omega,O⟩,m⟩;have c:=b.nd;unfold PF at c;rw[List.flatMap_def]at c;have o:=xK (E:=l) ((mm (dd (f:=prs) I)).nodup c) fun p z=>(b.mem p.1 p.2).1 (bB.2 ⟨r,I,z⟩);rw[pW]at o;omega
theorem UF:∀(c:List QR) (T:TL),(∀ l∈c,l∈aT g)->iT T+c.length*1200<=100000->∃ o,BI g c T=some o
 |[],T,_,_=>⟨_,rfl⟩
 |l::c,T,hl,hT=>by
  obtain⟨o,e,f⟩:=OT hg O O O (hl l ar);unfold BI;rw[e,Option.bind_some];cases o with
  |none=>exact⟨none,rfl⟩
  |some F=>
   have d:iT T+1200<=100000/\(∀ t,t<=iT T+1200->t+c.length*1200<=100000):=by rw[List.length_cons]at hT;clear e f;generalize iT T=a at *;generalize c.length=b at *;exact⟨O,fun t h=>by omega⟩
   obtain⟨k,m⟩:=Xr hg hv hn he (hl l ar) (f F rfl) T d.1;simp only;rw[ac k];exact UF c _ (fun x j=>hl x (aq _ j)) (d.2 _ m)
end
def PR(l:chk g=0)(C:g.V.length<=24)(A:g.E.length<=50):∃ o,iX g (aT g)=some o/\∀ m,o=some m->∃ Bs,Sys g Bs/\Bs.map (·.1)=aT g/\m=ET g Bs/\∀ v,(lG g Bs v).length<=100:=by
 have x:=kP l;have d:=fF l;have s:∀ v∈g.V,0<=v/\v<4194304:=fun v h=>by have:=x.vpos v h;omega
 have y:(aT g).length<=50:=by have b:=FZ g;have j:=pZ g.E;omega
 have b:iT ([]:TL)+(aT g).length*1200<=100000:=by have w:iT ([]:TL)=0:=rfl;rw[w,jw];generalize (aT g).length=n at *;omega
 obtain⟨o,q⟩:=UF d s C A (aT g) [] (fun _ h=>h) b;unfold iX;rw[q,Option.bind_some];cases o with
 |none=>exact⟨none,rfl,fun m e=>by cases e⟩
 |some T=>
  obtain⟨Bs,c,z,D⟩:=Cn g (aT g) [] T q;have k:Sys g Bs:=Yf d s c fun p r=>by
   have B:p.1∈aT g:=by rw[<- c];exact dd (f:=(·.1)) r
   obtain⟨o,b,j⟩:=OT d O O O B;rw[z p r]at b;injection b with b;exact j p.2 b.symm
  have a:∀ v,fK v T=lG g Bs v:=fun v=>by rw[D v];rfl
  have t:∀ v,(lG g Bs v).length<=100:=fun v=>by rw[(k.turn_perm v).length_eq];have:=JR (nC v) (KB v) g.E;show(g.E.flatMap (nC v)).length<=100;omega
  simp only;rw[ac fun v _=>by rw[a v];exact fa (t v) O];refine⟨_,rfl,fun m e=>⟨Bs,k,c,?_,t⟩⟩;injection e with e;rw[<- e];show(⟨g,g.V.map fun v=>fb (fK v T)⟩:Mp)=_
  congr 1
  exact jf fun v _=>by rw[a]
def UG(d:chk g=0)(l:g.V.length<=24)(j:g.E.length<=50):∃ o,iX g (aT g)=some o/\∀ m,o=some m->m.g=g/\Fz m=0/\m.rots.length=g.V.length/\∀ t∈m.rots,t.length<=100:=by
 obtain⟨o,n,b⟩:=PR d l j;refine⟨o,n,fun m e=>?_⟩;obtain⟨Bs,c,h,rfl,r⟩:=b m e;have f:=c.map_ok;have a:=c.plane h;have p:zM (ET g Bs)=0:=Vh d f.len fun k b=>f.ok k b;refine⟨rfl,?_,Y,fun t q=>?_⟩
 .unfold Fz;rw[aa (fun k=>k p),aa (fun k=>k a)]
 .obtain⟨v,_,rfl⟩:=ao.1 q;rw[pV];exact r v
end Aw
namespace Aw
open Pl
def UY{m:Mp}(h:Fz m=0):bZ m/\gn m=0/\chk m.g=0:=by
 unfold Fz at h;by_cases a:zM m=0
 .rw[aa (fun k=>k a)]at h;obtain⟨b,c⟩:=PB a;exact⟨c,O,b⟩
 .rw[ac a]at h;exact absurd h a
end Aw
namespace Aw
open Go Go.RowKit Pl Eu
variable{g:Gr}
def Nr(a:chk g=0):vO g.E:=
 vO.of (fF a) fun v h=>by have:=(kP a).vpos v h;omega
def Jr(a:chk g=0)(n:g.V.length<=24)(e:g.E.length<=50):∃ o,iX g (aT g)=some o/\(o.isSome=true↔Pg g.E):=by
 obtain⟨o,c,j⟩:=UG a n e;have d:∀ v∈g.V,0<=v/\v<4194304:=fun v h=>by have:=(kP a).vpos v h;omega
 refine⟨o,c,fun h=>?_,fun h=>?_⟩
 .obtain⟨m,rfl⟩:=AS.1 h;obtain⟨rfl,p,_,_⟩:=j m rfl;obtain⟨k,f,_⟩:=UY p;exact k.pg f d
 .exact Bz (fun l b=>FG (fF a) O O O b (h.blk (fF a) d O O b)) c
end Aw
namespace Aw
open Go Go.RowKit Pl
variable{g:Gr}
def HO(h:chk g=0){A:QR}(b:A.Sublist g.E):chk ⟨g.V,A⟩=0:=by have a:=kP h;exact Mc ⟨a.rise,a.vpos,a.ids.sublist b,fun x c=>a.pos x (b.subset c),fun x c=>a.ne x (b.subset c),fun x c=>a.ends x (b.subset c),a.l1,fa b.length_le a.l2⟩
def IB(a:chk g=0)(e:g.V.length<=24)(d:g.E.length<=50):∃ o,CJ g=some o/\(o.isSome=true↔Pg g.E):=by obtain⟨o,b,c⟩:=Jr a e d;exact⟨o,by unfold CJ;rw[ac a];exact b,c⟩
def WD(c:chk g=0)(e:g.V.length<=24)(d:g.E.length<=50):dM g=true↔¬Pg g.E:=by obtain⟨o,a,b⟩:=IB c e d;unfold dM;rw[a,<- b];simp
def DQ(f:chk g=0)(l:g.V.length<=24)(c:g.E.length<=50):
 sW dM Qn g g.E/\(cD dM g g.E).E.Sublist g.E/\(dM g=true->¬Pg (cD dM g g.E).E)/\∀ x∈(cD dM g g.E).E,Pg ((cD dM g g.E).E.filter fun y=>decide (y≠x)):=by
 have d:∀ A:QR,A.Sublist g.E->(dM ⟨g.V,A⟩=true↔¬Pg A):=fun A a=>WD (HO f a) l (fa a.length_le c);have r:∀ A B:QR,A.Sublist g.E->B.Sublist g.E->(∀ e∈A,e∈B)->dM ⟨g.V,A⟩=true->dM ⟨g.V,B⟩=true:=fun A B a p s h=>by rw[d _ a]at h;rw[d _ p];exact fun k=>h (k.sub (Nr (HO f a)) fun e c=>⟨e,s e c,rfl⟩)
 obtain⟨j,b⟩:=pD dM g.E g;have q:cD dM g g.E=⟨g.V,(cD dM g g.E).E⟩:=by rw[<- j]
 refine⟨Cm g.V g.E (fun A a=>?_) g.E g rfl (tf _),b,fun h=>?_,fun x m=>?_⟩
 .obtain⟨o,n,_⟩:=IB (HO f a) l (fa a.length_le c);exact⟨by show g.V.length<=1000;omega,by have:=a.length_le;show A.length<=_;omega,o,n⟩
 .have:=wR dM g.E g h;rw[q]at this;exact(d _ b).1 this
 .have:=zF dM g.V g.E r g.E g rfl (tf _) x (b.subset m) m;have e:eF (cD dM g g.E) x=⟨g.V,(cD dM g g.E).E.filter fun y=>decide (y≠x)⟩:=by unfold eF;rw[j]
  rw[e]at this;have k:=d _ (eu.trans b (l₁:=(cD dM g g.E).E.filter fun y=>decide (y≠x)));rw[this]at k;exact dq fun h=>absurd (k.2 h) Y
end Aw
namespace Aw
open Go Go.RowKit Pl Eu
variable{s:Int->Int}{P:List (Int×Int)}
def Wo(d:(cf P).Nodup):ce (ce s P) P=s:=funext fun x=>by
 by_cases h:x∈cf P
 .obtain⟨p,a,e⟩:=bK.1 h;have b:=lE s d p a;have c:=lE (ce s P) d p a;rcases e with rfl|rfl
  .rw[c.1,b.2]
  .rw[c.2,b.1]
 .have:∀ p∈P,x≠p.1/\x≠p.2:=fun p a=>⟨fun e=>h (bK.2 ⟨p,a,.inl e⟩),fun e=>h (bK.2 ⟨p,a,.inr e⟩)⟩;rw[lT _ P this,lT _ P this]
def RS{D:PP}(c:cK D s)(b:dH D P)(k:(cf P).Nodup)(h:Flat D s P):Flat D (ce s P) P:=by
 have a:=fQ c P fun q a=>⟨(b q a).1,(b q a).2.1⟩;have e:=Wo (s:=s) k;have j:=(pL c P b).1;have f:=(pL a P b).1;rw[e]at f
 have g:bj (cw (Orb (ce s P)) P) D=bj (cw (Orb s) P) D:=dA fun x _ y _=>
  ⟨lF (cO c.per.eqv P) j (fun p d=>gV c.per.eqv P d) x y,lF (cO a.per.eqv P) f (fun p d=>gV a.per.eqv P d) x y⟩
 unfold Flat at *;rw[e,g];omega
def jG.plE{E:QR}{F:List PP}(d:jG E F)(c:BlE E)(l:E≠[]):PlE E (la E F):=by
 obtain⟨m,o⟩:=d.count c l;have t:=d.cdnd c;have v:dH (fg F).flatten (cx E):=d.tws_mem c;have h:(cf (cx E)).Nodup:=by
  have r:fE E (E.map fun e=>(e.a,e.b)):=⟨fun p f=>by obtain⟨e,s,rfl⟩:=ao.1 f;exact⟨e,s,rfl⟩,by rw[dC];exact c.sim⟩;have:=c.fl_nd r;have e:bm (E.map fun e=>(e.a,e.b))=cx E:=by unfold bm cx;rw[dC];rfl
  rwa [e]at this
 have g:∀ p:Int×Int,(∃ e∈E,ae e=bk p)->(p.1,p.2)∈PF F:=fun p f=>(d.mem p.1 p.2).2 f;refine⟨(fg F).flatten,c,d.sgV_permOn c,fun p f=>by rw[fT];exact dd (g p f),fun p q f j=>⟨fun⟨n,k⟩=>?_,fun k=>?_⟩,RS (jO t) v h m⟩
 .have:=d.sgV_it c n (cd p);rw[k,nW (d.b2 c (g p f)).2,nW (d.b2 c (g q j)).2]at this;exact this.symm
 .refine o _ (by rw[fT];exact dd (g p f)) _ (by rw[fT];exact dd (g q j)) ?_;rw[nW (d.b2 c (g p f)).2,nW (d.b2 c (g q j)).2,k]
end Aw
end Go.Proofs.YtbgngpdonpeboaaGreatDoor
