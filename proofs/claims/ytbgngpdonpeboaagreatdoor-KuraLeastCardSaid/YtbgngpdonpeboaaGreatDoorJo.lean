/- Plain: the things beside a drawing; a way that is drawn keeps them in their rings. -/
import Derived.Test.YtbgngpdonpeboaaGreatDoorJn
import Derived.Test.YtbgngpdonpeboaaGreatDoorAwShp
set_option linter.unusedVariables false
set_option linter.unusedSimpArgs false
set_option linter.unusedSectionVars false
set_option maxHeartbeats 4000000
open Go.Proofs.Tryz
namespace Go.Proofs.YtbgngpdonpeboaaGreatDoor
namespace Aw
open Go Go.RowKit Pl Eu
def tb(b:Brg):(Int->Prop)×(Int->Prop):=(fun v=>v∈b.inner,fun v=>v∈b.ends)
def St'(E:List Ed)(h:Sh)(T:(Int->Prop)×(Int->Prop)):Prop:=∃ b,Brd E h.L h.on b/\T=tb b
theorem WC{b c:Brg}(h1:∀ v,v∈b.inner↔v∈c.inner)(h2:∀ v,v∈b.ends↔v∈c.ends):tb b=tb c:=by unfold tb;rw[aBd];exact⟨funext fun v=>propext (h1 v),funext fun v=>propext (h2 v)⟩
theorem uW{E:List Ed}{L:List (Int×Int)}{on:List Int}{b c:Brg}(hb:Brd E L on b)(hc:Brd E L on c){v:Int}(k1:v∈b.inner)(k2:v∈c.inner):(∀ u,u∈b.inner->u∈c.inner)/\∀ u,u∈b.ends->u∈c.ends:=by
 rcases hb.kind with⟨h0,_⟩|⟨_,b1,b2,b3,b4⟩
 .rw[h0]at k1;simp at k1
 rcases hc.kind with⟨h0,_⟩|⟨_,c1,c2,c3,c4⟩
 .rw[h0]at k2;simp at k2
 have hi:∀ u,u∈b.inner->u∈c.inner:=fun u hu=>(b2 v k1 u hu).closed (L:=fun z=>z∈c.inner) k2 fun z hz w hw hwb=>(c3 z hz w hw).resolve_right fun q=>(b1 w hwb).2 (hc.en w q).1;refine⟨hi,fun u hu=>?_⟩;obtain⟨p,hp,q⟩:=b4 u hu;exact(c3 p (hi p hp) u q).resolve_left fun i=>(c1 u i).2 (hb.en u hu).1
theorem WI{E:List Ed}{L:List (Int×Int)}{on:List Int}{b c:Brg}(hb:Brd E L on b)(hc:Brd E L on c){v:Int}(k1:v∈b.inner)(k2:v∈c.inner):tb b=tb c:=
 WC (fun u=>⟨(uW hb hc k1 k2).1 u,(uW hc hb k2 k1).1 u⟩) fun u=>⟨(uW hb hc k1 k2).2 u,(uW hc hb k2 k1).2 u⟩
theorem RC{E:List Ed}{h:Sh}{T T':(Int->Prop)×(Int->Prop)}(k:St' E h T)(k':St' E h T')(Zo:T≠T'):∀ v,T.1 v->¬T'.1 v:=fun v a b=>by obtain⟨c,hc,rfl⟩:=k;obtain⟨d,hd,rfl⟩:=k';exact Zo (WI hc hd a b)
def Tch(T:(Int->Prop)×(Int->Prop))(e:Ed):Prop:=T.1 e.a\/T.1 e.b\/((∀ v,¬T.1 v)/\T.2 e.a/\T.2 e.b)
def Kq(E:List Ed)(T:(Int->Prop)×(Int->Prop))(r:List Int):Prop:=∃ E1 s,PlE E1 s/\Kr E1 T r/\(∀ e∈E1,∃ f∈E,prE f=prE e)/\∀ e∈E,Tch T e->∃ f∈E1,prE f=prE e
theorem Kq.rev{E:List Ed}{T:(Int->Prop)×(Int->Prop)}{r:List Int}(h:Kq E T r):Kq E T r.reverse/\r.Nodup:=by obtain⟨E1,s,h1,h2,h3,h4⟩:=h;exact⟨⟨E1,s,h1,h2.rev,h3,h4⟩,h2.nd⟩
theorem Thg.by{E E1:List Ed}{T:(Int->Prop)×(Int->Prop)}(h:Thg E T)(h4:∀ e∈E,Tch T e->∃ f∈E1,prE f=prE e):Thg E1 T:=by
 have nb:∀ p q,(T.1 p\/T.1 q)->q∈nbr E p->q∈nbr E1 p:=fun p q hp hn=>by
  obtain⟨e,he,k⟩:=kK.1 hn
  obtain⟨f,hf,k'⟩:=h4 e he (by
   unfold Tch
   rcases bF k with⟨k1,k2⟩|⟨k1,k2⟩<;>rw[k1,k2]<;>grind)
  exact kK.2 ⟨f,hf,k'.trans k⟩
 refine⟨?_,h.off,h.two⟩;rcases h.kind with⟨e,he,k1,k2⟩|⟨k1,k2,k3⟩
 .obtain⟨f,hf,k⟩:=h4 e he (.inr (.inr ⟨k1,(k2 _).2 (.inl rfl),(k2 _).2 (.inr rfl)⟩));refine .inl ⟨f,hf,k1,fun v=>(k2 v).trans ?_⟩;rcases bF (u:=f.a) (v:=f.b) (x:=e.a) (y:=e.b) k with⟨i,j⟩|⟨i,j⟩<;>rw[i,j];exact Or.comm
 .refine .inr ⟨k1,fun p q hp hq=>?_,fun c hc=>?_⟩
  .have:=k2 p q hp hq;induction this with
   |refl h=>exact .refl h
   |step h hz hs ih=>exact .step (ih h.here.2) (nb _ _ (.inl h.here.2) hz) hs
  .obtain⟨p,hp,k⟩:=k3 c hc;exact⟨p,hp,nb p c (.inl hp) k⟩
structure Exd(E:List Ed)(h:Sh):Prop where
 drn:Drn E h
 rgs:Rgs h.F
 al:∃ α,Al h.F (St' E h) (fun T=>T.2) (Kq E) α
section
variable {E:List Ed} (hT:Tc E)
include hT
theorem AV{h:Sh}(hD:Drn E h){b:Brg}(hb:Brd E h.L h.on b):Thg E (tb b):=by
 refine⟨?_,fun v h1 h2=>?_,Gx hT hD hb⟩
 .rcases hb.kind with⟨h0,e,he,_,h1⟩|⟨h0,h1,h2,h3,h4⟩
  .exact .inl ⟨e,he,fun v=>by simp[tb,h0],fun v=>by simp[tb,h1]⟩
  .exact .inr ⟨aAM _ h0,fun p q hp hq=>h2 p hp q hq,h4⟩
 .rcases hb.kind with⟨h0,_⟩|⟨h0,h3,_⟩
  .have h1:v∈b.inner:=h1;rw[h0]at h1;simp at h1
  .exact(h3 v h1).2 (hb.en v h2).1
theorem Exd.lay{h:Sh}(hD:Drn E h)(hR:Rgs h.F){α:(Int->Prop)×(Int->Prop)->Nat}(X4:Al h.F (St' E h) (fun T=>T.2) (Kq E) α){b:Brg}(hb:Brd E h.L h.on b){w:List Int}(w2:w.Nodup)(w3:2<=w.length)(w6:w.getD 0 0∈b.ends)(w7:w.getD (w.length-1) 0∈b.ends)(w8:∀ v∈dD w,v∉h.on)
 (w9:∀ x y,(x,y)∈lnk w->prP x y∉h.L/\∃ e∈E,prE e=prP x y) (w10:∀ v∈dD w,v∈b.inner) (w11:b.inner≠[]->dD w≠[]):Exd E (gT h w (α (tb b))):=by
 have hlive:St' E h (tb b):=⟨b,hb,rfl⟩;have hk:=X4.lt _ hlive;have hon:=X4.on _ hlive;generalize Y7:α (tb b)=k at *;have hD':=hD.lay hk w3 w2 (hon _ w6) (hon _ w7) w8 w9;have ew:=nN w3;have hL:(gT h w k).L=h.L++iI w:=by
  have:(gT h w k).L=jY h.L w:=rfl;rw[this];exact kN _ _ (fH w2) fun p hpp=>by rw[eE]at hpp;obtain⟨q,hq,rfl⟩:=aAi.1 hpp;exact(w9 q.1 q.2 hq).1
 have hOn:(gT h w k).on=h.on++w:=rfl;have Zo:w.getD 0 0≠w.getD (w.length-1) 0:=fun e=>by rw[ew,e]at w2;exact(aAp.1 w2).1 sS
 have i1:=aBg (hon _ w6);have i2:=aBg (hon _ w7);have g1:(h.F.getD k []).getD ((h.F.getD k []).idxOf (w.getD 0 0)) 0=w.getD 0 0:=by rw[aAg (l:=h.F.getD k []),aAh i1,Option.getD_some,aBL]
 have g2:(h.F.getD k []).getD ((h.F.getD k []).idxOf (w.getD (w.length-1) 0)) 0=w.getD (w.length-1) 0:=by rw[aAg (l:=h.F.getD k []),aAh i2,Option.getD_some,aBL]
 obtain⟨A,B,q1,q2,_,q4⟩:=nY (fun e=>Zo (by rw[<- g1,e,g2])) i1 i2;rw[g1,g2]at q1 q2 q4;have hF:(gT h w k).F=h.F.set k (w.getD 0 0::(A++w.getD (w.length-1) 0::(dD w).reverse))++[w.getD (w.length-1) 0::(B++w.getD 0 0::dD w)]:=by show h.F.set k (jC (h.F.getD k []) ((h.F.getD k []).idxOf (w.getD 0 0)) ((h.F.getD k []).idxOf (w.getD (w.length-1) 0))++(dD w).reverse)++[jC (h.F.getD k []) ((h.F.getD k []).idxOf (w.getD (w.length-1) 0)) ((h.F.getD k []).idxOf (w.getD 0 0))++dD w]=_;rw[q1,q2];simp
 have hgen:∃ x y M,x=w.getD 0 0/\y=w.getD (w.length-1) 0/\M=dD w:=⟨_,_,_,rfl,rfl,rfl⟩;obtain⟨x,y,M,ex,ey,eM⟩:=hgen;rw[<- ex,<- ey]at Zo q4;rw[<- ex,<- ey,<- eM]at hF ew;rw[<- ex]at w6;rw[<- ey]at w7;rw[<- eM]at w8 w10 w11;have hdn:(h.F.getD k []).Nodup:=hR.nd k hk;have K0:Sc (h.F.getD k []) (x::(A++y::B)):=by obtain⟨c,d,e1,e2⟩:=q4;rw[e1,e2];exact Ew (e1 ▸ hdn)
 have K8:(x::(A++y::B)).Nodup:=by obtain⟨c,d,e1,e2⟩:=q4;rw[e2];rw[e1]at hdn;exact(aBm (l₁:=c) (l₂:=d)).nodup_iff.1 hdn
 have hMn:M.Nodup:=by rw[ew]at w2;exact(aAo.1 (aAp.1 w2).2).1
 have hMF:∀ i,i<h.F.length->∀ v∈M,v∉h.F.getD i []:=fun i hi v hv q=>w8 v hv (hD.ring_on (by rw[aAg,aAh hi];exact aAI _) q);have onx:x∈h.on:=(hb.en x w6).1;have ony:y∈h.on:=(hb.en y w7).1;have hwm:∀ v,v∈w↔v=x\/v∈M\/v=y:=fun v=>by rw[ew];simp
 have hwP:∀ u v,prP u v∈iI w↔(u,v)∈lnk w\/(v,u)∈lnk w:=fun u v=>by
  rw[eE,aAi];constructor
  .rintro⟨q,hq,e⟩;rcases bF e with⟨e1,e2⟩|⟨e1,e2⟩
   .left;rw[<- e1,<- e2];exact hq
   .right;rw[<- e1,<- e2];exact hq
  .rintro(q|q)
   .exact⟨_,q,rfl⟩
   .exact⟨_,q,aJ _ _⟩
 have o7:∀ p,p∈b.inner->∀ q∈nbr E p,q∈b.inner\/q∈b.ends:=fun p hp q hq=>by
  rcases hb.kind with⟨h0,_⟩|⟨_,_,_,h3,_⟩
  .rw[h0]at hp;simp at hp
  .exact h3 p hp q hq
 have j5:∀ p,p∈b.inner->p∉h.on:=fun p hp=>by
  rcases hb.kind with⟨h0,_⟩|⟨_,h1,_⟩
  .rw[h0]at hp;simp at hp
  .exact(h1 p hp).2
 have hM0:M=[]->∀ v,¬(tb b).1 v:=fun e v hv=>w11 (aBs hv) e;have piece:∀ S,St' E (gT h w k) S->¬St' E h S->(∀ v,S.1 v->(tb b).1 v/\v∉M)/\(∀ v,S.2 v->v∈M\/(tb b).2 v)/\((∀ v,¬S.1 v)->(∃ v,S.2 v/\v∈M)/\∀ a b,S.2 a->S.2 b->(a,b)∉lnk (x::(M++[y]))):=by
  rintro S ⟨c,hc,rfl⟩ x8;have T9:=hc.en;rw[hOn]at T9;have onM:∀ v,v∈h.on++w->v∉M->v∈h.on:=fun v hv hvM=>by
   rcases aAd.1 hv with i|i
   .exact i
   .rcases(hwm v).1 i with rfl|i|rfl
    .exact onx
    .exact absurd i hvM
    .exact ony
  rcases hc.kind with⟨h0,e,he,h1,h2⟩|⟨h0,h1,h2,h3,h4⟩
  .rw[hL]at h1;have Y1:∀ v,(tb c).2 v↔v=e.a\/v=e.b:=fun v=>by simp[tb,h2]
   have hemp:∀ v,¬(tb c).1 v:=fun v=>by simp[tb,h0]
   have hex:e.a∈M\/e.b∈M:=aAG fun q=>x8 ⟨c,⟨fun v hv=>⟨onM v (T9 v hv).1 fun i=>q (by have:=(Y1 v).1 hv;grind),(T9 v hv).2⟩,.inl ⟨h0,e,he,fun i=>h1 (aAq _ i),h2⟩⟩,rfl⟩;have oth:∀ v v',v'∈nbr E v->v'∈c.ends->v∈M->v'∈M\/v'∈b.ends:=fun v v' hn hv' i=>by
    rcases o7 v (w10 v i) v' hn with k|k
    .exact .inl (aAG fun q=>j5 v' k (onM v' (T9 v' hv').1 q))
    .exact .inr k
   have n1:e.b∈nbr E e.a:=kK.2 ⟨e,he,rfl⟩;have n2:e.a∈nbr E e.b:=kK.2 ⟨e,he,aJ _ _⟩;have o1:=oth e.a e.b n1 (by rw[h2];simp);have o2:=oth e.b e.a n2 (by rw[h2];simp);refine⟨fun v hv=>absurd hv (hemp v),fun v hv=>?_,fun _=>⟨?_,fun a' b' ha hb' hl=>?_⟩⟩
   .show v∈M\/v∈b.ends;have:=(Y1 v).1 hv
    grind
   .rcases hex with q|q
    .exact⟨_,(Y1 _).2 (.inl rfl),q⟩
    .exact⟨_,(Y1 _).2 (.inr rfl),q⟩
   .rw[<- ew]at hl;have v8:=((dK w2).2 a' b' hl).1;refine h1 (aAx _ ?_);have e1:=(Y1 a').1 ha;have e2:=(Y1 b').1 hb';have:prE e=prP a' b':=by
     show prP e.a e.b=_;rcases e1 with rfl|rfl<;>rcases e2 with rfl|rfl
     .exact absurd rfl v8
     .rfl
     .exact aJ _ _
     .exact absurd rfl v8
    rw[this];exact(hwP a' b').2 (.inl hl)
  .rw[hOn]at h1;by_cases hx:∃ p∈c.inner,p∈b.inner
   .obtain⟨p,p1,p2⟩:=hx;have H7:∀ v,v∈c.inner->v∈b.inner:=fun v hv=>(h2 p p1 v hv).closed (L:=fun z=>z∈b.inner) p2 fun z hz q hq hqc=>(o7 z hz q hq).resolve_right fun i=>(h1 q hqc).2 (aAq _ (hb.en q i).1);refine⟨fun v hv=>⟨H7 v hv,fun i=>(h1 v hv).2 (aAx _ ((hwm v).2 (.inr (.inl i))))⟩,fun v hv=>?_,fun q=>absurd p1 (q p)⟩;obtain⟨u,hu,hn⟩:=h4 v hv;rcases o7 u (H7 u hu) v hn with i|i
    .exact .inl (aAG fun q=>j5 v i (onM v (T9 v hv).1 q))
    .exact .inr i
   .refine absurd ⟨c,⟨fun v hv=>⟨onM v (T9 v hv).1 fun i=>?_,(T9 v hv).2⟩,.inr ⟨h0,fun v hv=>⟨(h1 v hv).1,fun i=>(h1 v hv).2 (aAq _ i)⟩,h2,h3,h4⟩⟩,rfl⟩ x8;obtain⟨u,hu,hn⟩:=h4 v hv;rcases o7 v (w10 v i) u (nI hn)with j|j
    .exact hx ⟨u,hu,j⟩
    .exact(h1 u hu).2 (aAq _ (hb.en u j).1)
 have other:∀ S,St' E (gT h w k) S->S≠tb b:=by
  rintro S ⟨c,hc,rfl⟩ e;have ei:∀ v,v∈c.inner↔v∈b.inner:=fun v=>iff_of_eq (congrFun (congrArg Prod.fst e) v);have ee:∀ v,v∈c.ends↔v∈b.ends:=fun v=>iff_of_eq (congrFun (congrArg Prod.snd e) v);rcases hc.kind with⟨h0,f,hf,h1,h2⟩|⟨h0,h1,_⟩
  .have hM:M=[]:=by
    cases hm:M with
    |nil=>rfl
    |cons m M'=>have:=(ei m).2 (w10 m (by rw[hm];simp));rw[h0]at this;simp at this
   rw[hL]at h1;have kx:=(ee x).2 w6;have ky:=(ee y).2 w7;rw[h2]at kx ky;have G8:(x,y)∈lnk w:=by rw[ew,hM];simp[lnk]
   refine h1 (aAx _ ?_);have:prE f=prP x y:=by
    show prP f.a f.b=_;simp at kx ky;rcases kx with e1|e1<;>rcases ky with e2|e2
    .exact absurd (e1.trans e2.symm) Zo
    .rw[e1,e2]
    .rw[e1,e2];exact aJ _ _
    .exact absurd (e1.trans e2.symm) Zo
   rw[this];exact(hwP x y).2 (.inl G8)
  .obtain⟨p,hp⟩:=aAM _ h0;obtain⟨m,hm⟩:=aAM _ (w11 (aBs ((ei p).1 hp)));exact(h1 m ((ei m).2 (w10 m hm))).2 (by rw[hOn];exact aAx _ ((hwm m).2 (.inr (.inl hm))))
 obtain⟨Y5,hα'⟩:=X4.lay (fun T r q=>q.rev) hlive Y7 K0 K8 hMn hMF w6 w7 (fun r q=>by
  obtain⟨_,_,_,q,_⟩:=q
  exact⟨fun v hv i=>q.off v i (w10 v hv),q.on⟩) (live':=St' E (gT h w k)) (pc:=fun S=>St' E (gT h w k) S/\¬St' E h S)
  (fun S hS=>by by_cases q:St' E h S;exact .inl ⟨q,other S hS⟩;exact .inr ⟨⟨hS,q⟩,q⟩)
  (fun c d P' Q' hk e=>by
    obtain⟨E1,s,hP,hk,h3,h4⟩:=hk;have up:∀ S,St' E (gT h w k) S->¬St' E h S->∀ e∈E,Tch S e->∃ f∈E1,prE f=prE e:=fun S q q' e he ht=>by
     obtain⟨k1,k2,k3⟩:=piece S q q';refine h4 e he ?_;rcases ht with ht|ht|⟨ht,ha,hb'⟩
     .exact .inl (k1 _ ht).1
     .exact .inr (.inl (k1 _ ht).1)
     .have hSt:=q;obtain⟨⟨m,m1,m2⟩,_⟩:=k3 ht;obtain⟨c',hc',rfl⟩:=q;have hth:=AV hT hD' hc';have Zo:=hT.ne e he;rcases hth.kind with⟨f,hf,_,z2⟩|⟨⟨z,z1⟩,_⟩
      .have:=(z2 m).1 m1;have:=(z2 e.a).1 ha;have:=(z2 e.b).1 hb';have:m=e.a\/m=e.b:=by grind
       rcases this with rfl|rfl
       .exact .inl (w10 _ m2)
       .exact .inr (.inl (w10 _ m2))
      .exact absurd z1 (ht z)
    obtain⟨side,hs⟩:=pieces hP ((AV hT hD hb).by h4) hk (Q:=Q') (P:=P') ⟨c,d,rfl,e.symm⟩ w6 w7 (ew ▸ w2) (fun u v q=>by
     obtain⟨e,he,k'⟩:=(w9 u v (ew ▸ q)).2
     obtain⟨f,hf,i⟩:=h4 e he (by
      unfold Tch;cases hm:M with
      |nil=>
       rw[hm]at q;simp only[List.nil_append,lnk,aAk,aBd]at q;have z1:(tb b).2 u:=by rw[q.1];exact w6
       have z2:(tb b).2 v:=by rw[q.2];exact w7
       rcases bF k' with⟨i,j⟩|⟨i,j⟩<;>rw[i,j]
       .exact .inr (.inr ⟨hM0 hm,z1,z2⟩)
       .exact .inr (.inr ⟨hM0 hm,z2,z1⟩)
      |cons m M'=>
       have:u∈M\/v∈M:=by
        have q1:=eX (y:=y) (l:=x::M) q;have q2:=iR q;rcases aAe.1 q1 with rfl|q1
        .rcases aAd.1 q2 with q2|q2
         .exact .inr q2
         .rw[aAk]at q2;subst q2;rw[hm]at q;have:=fG (by rw[<- hm];exact ew ▸ w2) q (b':=m) (by simp[lnk]);exact .inr (by rw[this,hm];simp)
        .exact .inl q1
       rcases bF k' with⟨i,j⟩|⟨i,j⟩<;>rw[i,j]
       .exact this.elim (fun z=>.inl (w10 _ z)) fun z=>.inr (.inl (w10 _ z))
       .exact this.elim (fun z=>.inr (.inl (w10 _ z))) fun z=>.inl (w10 _ z))
     exact⟨f,hf,i.trans k'⟩) w10 hM0 (Pc:=fun S=>St' E (gT h w k) S/\¬St' E h S) (fun S q=>by
     have q1:=q.1;obtain⟨c,hc,rfl⟩:=q1
     exact⟨(AV hT hD' hc).by (up _ q.1 q.2),piece _ q.1 q.2⟩) (fun S S' q q'=>RC q.1 q'.1)
    exact⟨side,fun S q=>⟨(piece S q.1 q.2).2.1,(hs S q).1.on,⟨E1,s,hP,(hs S q).1,h3,up S q.1 q.2⟩,(hs S q).2⟩⟩)
 rw[<- hF]at hα';exact⟨hD',by rw[hF];exact hR.lay hk K0 K8 hMn hMF,Y5,hα'⟩
end
theorem uF{E:List Ed}:∀ {l:List (Int×Int)},l.Nodup->(∀ p∈l,∃ e∈E,prE e=prP p.1 p.2)->l.length<=2*E.length:=by
 intro l hn h;have hl:(E.flatMap fun e=>[(e.a,e.b),(e.b,e.a)]).length=2*E.length:=by
  clear h;induction E with
  |nil=>rfl
  |cons e E ih=>simp only[aAF,aAn,List.length_cons,List.length_nil]at ih ⊢;omega
 rw[<- hl];refine aAA hn fun p hp=>?_;obtain⟨e,he,k⟩:=h p hp;refine aAY.2 ⟨e,he,?_⟩;rcases bF k with⟨k1,k2⟩|⟨k1,k2⟩
 .rw[k1,k2];simp
 .rw[k1,k2];simp
section
variable {E:List Ed} (hT:Tc E)
include hT
omit hT in
theorem Drn.L_le{h:Sh}(hD:Drn E h):h.L.length<=E.length:=by
 have:=aAA hD.lnd (l₂:=E.map prE) fun p hp=>by obtain⟨e,he,rfl⟩:=hD.sub p hp;exact aAt he
 rwa [aAB]at this
omit hT in
theorem Drn.ring_le{h:Sh}(hD:Drn E h){r:List Int}(hr:r∈h.F):r.length<=2*E.length:=by
 rw[<- oK r];have hn:=hD.nd;refine uF ?_ fun p hp=>?_
 .unfold PF at hn;rw[List.flatMap_def]at hn;exact(aBo (aAt (f:=prs) hr)).nodup hn
 .obtain⟨_,k⟩:=(hD.mem p.1 p.2).1 (aV.2 ⟨r,hr,hp⟩);exact hD.sub _ k
theorem Vg{h:Sh}(hD:Drn E h):∃ B,(∀ b∈B,Brd E h.L h.on b)/\(∀ e∈E,prE e∉h.L->e.a∈h.on->e.b∈h.on->⟨[],[e.a,e.b]⟩∈B)/\(∀ v∈vsF E,v∉h.on->∃ b∈B,v∈b.inner)/\
 (((bG h.F B (⟨[],[]⟩,-1)).2<0/\yM ⟨vsF E,E⟩ h=some none)\/∃ w k,(bG h.F B (⟨[],[]⟩,-1)).2=((k:Nat):Int)/\yM ⟨vsF E,E⟩ h=some (some (gT h w k))/\Drn E (gT h w k)/\h.L.length<(gT h w k).L.length/\Brd E h.L h.on (bG h.F B (⟨[],[]⟩,-1)).1/\
   w.Nodup/\2<=w.length/\w.getD 0 0∈(bG h.F B (⟨[],[]⟩,-1)).1.ends/\w.getD (w.length-1) 0∈(bG h.F B (⟨[],[]⟩,-1)).1.ends/\(∀ v∈dD w,v∉h.on)/\(∀ x y,(x,y)∈lnk w->prP x y∉h.L/\∃ e∈E,prE e=prP x y)/\(∀ v∈dD w,v∈(bG h.F B (⟨[],[]⟩,-1)).1.inner)/\((bG h.F B (⟨[],[]⟩,-1)).1.inner≠[]->dD w≠[])):=by
 obtain⟨B,b1,b2,b3,b4,b5⟩:=Tw (E:=E) (on:=h.on) h.L;refine⟨B,b2,b4,b5,?_⟩;have hc:Chn E h (bG h.F B (⟨[],[]⟩,-1)):=Dc B _ b2 ⟨sS,.inl sS⟩;have hfew:=hT.few;unfold yM;rw[b1,Option.bind_some,aAj ⟨fun b hb v hv=>((b2 b hb).en v hv).2,oO,hc.1⟩];generalize bG h.F B (⟨[],[]⟩,-1)=r at *;by_cases I0:r.2<0
 .rw[aAj I0];exact .inl ⟨I0,rfl⟩
 rw[aAa I0];obtain⟨hb,k,hk,hkl,S9⟩:=hc.2.resolve_left I0;have hkn:r.2.toNat=k:=oO;rw[hkn];obtain⟨w,w1,w2,w3,w4,w5,w6,w7,w8,w9,w10,w11⟩:=XC hT hD hb;have hrin:h.F.getD k []∈h.F:=by rw[aAg,aAh hkl];exact aAI _
 have hrl:=hD.ring_le hrin;have hLl:=hD.L_le;have hcnt:=hD.cnt;have hlay:Lv ⟨vsF E,E⟩ h k w:=⟨hkl,w3,w4,w5,oO,S9 _ w6,S9 _ w7,oO⟩;rw[w1,Option.bind_some,aAj hlay];refine .inr ⟨w,k,hk,rfl,hD.lay hkl w3 w2 (S9 _ w6) (S9 _ w7) w8 w9,?_,hb,w2,w3,w6,w7,w8,w9,w10,w11⟩;have hL:(gT h w k).L=h.L++iI w:=by
  have:(gT h w k).L=jY h.L w:=rfl;rw[this];exact kN _ _ (fH w2) fun p hpp=>by rw[eE]at hpp;obtain⟨q,hq,rfl⟩:=aAi.1 hpp;exact(w9 q.1 q.2 hq).1
 rw[hL,aAn,nJ];omega
theorem Rp{h:Sh}(hD:Drn E h):yM ⟨vsF E,E⟩ h=some none\/∃ h',yM ⟨vsF E,E⟩ h=some (some h')/\Drn E h'/\h.L.length<h'.L.length:=by
 obtain⟨B,_,_,_,k|⟨w,k,_,h1,h2,h3,_⟩⟩:=Vg hT hD
 .exact .inl k.2
 .exact .inr ⟨_,h1,h2,h3⟩
theorem CO:∀(n:Nat) (h:Sh),Drn E h->E.length+1<=n+h.L.length->∃ o,pV ⟨vsF E,E⟩ n h=some o/\∀ h',o=some h'->Drn E h'/\E.length<=h'.L.length
 |0,h,hD,hl=>by have:=hD.L_le;omega
 |n+1,h,hD,hl=>by
  unfold pV;by_cases dG:h.L.length<(⟨vsF E,E⟩:Gr).es.length
  .rw[aAj dG];rcases Rp hT hD with hs|⟨h',hs,hD',K3⟩
   .rw[hs];exact⟨none,rfl,fun h' e=>by cases e⟩
   .rw[hs,Option.bind_some];exact CO n h' hD' oO
  .rw[aAa dG];refine⟨some h,rfl,fun h' e=>?_⟩;injection e with e;subst e;exact⟨hD,by show E.length<=_;simp only at dG;omega⟩
end
def Fit(b:Brg)(F:List (List Int))(i:Nat):Prop:=∀ v∈b.ends,v∈F.getD i []
theorem sF(b:Brg)(F:List (List Int)):((bZ b F.zipIdx).2=0->∀ i,i<F.length->¬Fit b F i)/\((bZ b F.zipIdx).2=1->∃ i:Nat,(bZ b F.zipIdx).1=i/\∀ j,j<F.length->Fit b F j->j=i)/\
 ((bZ b F.zipIdx).2≠0->∃ i:Nat,(bZ b F.zipIdx).1=i/\i<F.length/\Fit b F i)/\(2<=(bZ b F.zipIdx).2->∃ i j,i<j/\j<F.length/\Fit b F i/\Fit b F j):=by
 have key:∀ k,k<=F.length->((bZ b (F.zipIdx.take k)).2=0->(bZ b (F.zipIdx.take k)).1 = -1/\∀ i,i<k->¬Fit b F i)/\((bZ b (F.zipIdx.take k)).2=1->∃ i:Nat,(bZ b (F.zipIdx.take k)).1=i/\∀ j,j<k->Fit b F j->j=i)/\
  ((bZ b (F.zipIdx.take k)).2≠0->∃ i:Nat,(bZ b (F.zipIdx.take k)).1=i/\i<k/\Fit b F i)/\(2<=(bZ b (F.zipIdx.take k)).2->∃ i j,i<j/\j<k/\Fit b F i/\Fit b F j)/\0<=(bZ b (F.zipIdx.take k)).2:=by
  intro k;induction k with
  |zero=>intro _;simp[bZ]
  |succ k ih=>
   intro hk;obtain⟨h1,h2,h3,h4,h5⟩:=ih oO;rw[Bc b F k oO];generalize bZ b (F.zipIdx.take k)=p at *;have hf:off b.ends (F.getD k [])=[]↔Fit b F k:=by
    unfold Fit;rw[aBU];simp only[fL]
    grind
   unfold nQ;by_cases e:Fit b F k
   .rw[aAj (hf.2 e)];by_cases e2:p.2=0
    .rw[aAj e2];have:=(h1 e2).2;refine⟨fun q=>by simp only at q;omega,fun _=>⟨k,rfl,fun j hj hf=>aAG fun q=>this j oO hf⟩,fun _=>⟨k,rfl,oO,e⟩,fun q=>by simp only at q;omega,by simp only;omega⟩
    .rw[aAa e2];obtain⟨i,i1,i2,i3⟩:=h3 e2;exact⟨fun q=>by simp only at q;omega,fun q=>by simp only at q;omega,fun _=>⟨i,i1,oO,i3⟩,fun _=>⟨i,k,i2,oO,i3,e⟩,by simp only;omega⟩
   .rw[aAa fun q=>e (hf.1 q)];refine⟨fun q=>⟨(h1 q).1,fun i hi=>?_⟩,fun q=>?_,fun q=>?_,fun q=>?_,h5⟩
    .by_cases c:i=k
     .rw[c];exact e
     .exact(h1 q).2 i oO
    .obtain⟨i,i1,i2⟩:=h2 q;refine⟨i,i1,fun j hj hfj=>?_⟩;by_cases c:j=k
     .exact absurd (c ▸ hfj) e
     .exact i2 j oO hfj
    .obtain⟨i,i1,i2,i3⟩:=h3 q;exact⟨i,i1,oO,i3⟩
    .obtain⟨i,j,i1,i2,i3⟩:=h4 q;exact⟨i,j,i1,oO,i3⟩
 have:=key F.length (aAm _);rw[aAv sS]at this;exact⟨fun q=>(this.1 q).2,this.2.1,this.2.2.1,this.2.2.2.1⟩
theorem uU(F:List (List Int)):∀(B:List Brg) (J3:Brg×Int),(∃ b∈B,bG F B J3=(b,(bZ b F.zipIdx).1)/\(bZ b F.zipIdx).2<=1)\/((∀ b∈B,2<=(bZ b F.zipIdx).2)/\(0<=J3.2->bG F B J3=J3)/\(J3.2<0->B≠[]->∃ b∈B,bG F B J3=(b,(bZ b F.zipIdx).1)))
 |[],J3=>.inr ⟨sS,fun _=>rfl,fun _ h=>absurd rfl h⟩
 |b::B,J3=>by
  unfold bG;by_cases h:(bZ b F.zipIdx).2<=1
  .rw[aAj h];exact .inl ⟨b,aAf,rfl,h⟩
  .rw[aAa h];rcases uU F B (if J3.2<0 then(b,(bZ b F.zipIdx).1)else J3)with⟨c,c1,c2,c3⟩|⟨c1,c2,c3⟩
   .exact .inl ⟨c,aAc _ c1,c2,c3⟩
   .right;have hs:=(sF b F).2.2.1 oO;refine⟨fun c hc=>by rcases aAe.1 hc with rfl|hc;omega;exact c1 c hc,fun q=>?_,fun q _=>⟨b,aAf,?_⟩⟩
    .rw[aAa oO]at c2 ⊢;exact c2 q
    .rw[aAj q]at c2 ⊢;obtain⟨i,hi,_⟩:=hs;exact c2 (by simp only;omega)
theorem Ki{r:List Int}(hn:r.Nodup):Rgs [r,r.reverse]:=by
 have V8:r.reverse.Nodup:=(aBr r).nodup_iff.2 hn;have h1:Rv r r.reverse:=fun x y z _ _ _ k=>(Jw hn).2 k;refine⟨fun i hi=>?_,fun i j hi hj hij=>?_,fun i j k hi hj hk h1 h2 h3=>?_⟩
 .match i,hi with
  |0,_=>exact hn
  |1,_=>exact V8
 .match i,hi,j,hj with
  |0,_,0,_=>exact absurd rfl hij
  |0,_,1,_=>exact h1
  |1,_,0,_=>exact h1.symm
  |1,_,1,_=>exact absurd rfl hij
 .simp only[List.length_cons,List.length_nil]at hi hj hk;omega
section
variable {E:List Ed} (hT:Tc E)
include hT
theorem Exd.step{h:Sh}(hx:Exd E h)(hl:h.L.length<E.length):∃ h',yM ⟨vsF E,E⟩ h=some (some h')/\Exd E h'/\h.L.length<h'.L.length:=by
 obtain⟨hD,hR,α,X4⟩:=hx;obtain⟨B,b2,b4,b5,I2⟩:=Vg hT hD;have hB:B≠[]:=by
  obtain⟨e,he,hn⟩:∃ e∈E,prE e∉h.L:=aAG fun q=>by
   have:=aAA hT.sim (l₂:=h.L) fun p hp=>by obtain⟨e,he,rfl⟩:=aAi.1 hp;exact aAG fun i=>q ⟨e,he,i⟩
   rw[aAB]at this;omega
  by_cases ha:e.a∈h.on
  .by_cases hb:e.b∈h.on
   .exact aBs (b4 e he hn ha hb)
   .obtain⟨b,hb,_⟩:=b5 e.b ((bA _ _).2 ⟨e,he,.inr rfl⟩) hb;exact aBs hb
  .obtain⟨b,hb,_⟩:=b5 e.a ((bA _ _).2 ⟨e,he,.inl rfl⟩) ha;exact aBs hb
 have fitα:∀ b∈B,Fit b h.F (α (tb b))/\α (tb b)<h.F.length:=fun b hb=>⟨fun v hv=>X4.on (tb b) ⟨b,b2 b hb,rfl⟩ v hv,X4.lt (tb b) ⟨b,b2 b hb,rfl⟩⟩;have S7:∃ k:Nat,(bG h.F B (⟨[],[]⟩,-1)).2=k/\Brd E h.L h.on (bG h.F B (⟨[],[]⟩,-1)).1/\∃ Y5,Al h.F (St' E h) (fun T=>T.2) (Kq E) Y5/\Y5 (tb (bG h.F B (⟨[],[]⟩,-1)).1)=k:=by
  rcases uU h.F B (⟨[],[]⟩,-1)with⟨b,hb,e,k⟩|⟨k,_,e⟩
  .rw[e];obtain⟨f1,f2⟩:=fitα b hb;obtain⟨s0,s1,s2,_⟩:=sF b h.F;have n0:(bZ b h.F.zipIdx).2≠0:=fun q=>s0 q _ f2 f1;have n1:0<=(bZ b h.F.zipIdx).2:=(CH b _).1;obtain⟨i,i1,i2⟩:=s1 oO;exact⟨i,i1,b2 b hb,α,X4,i2 _ f2 f1⟩
  .obtain⟨b,hb,e⟩:=e sS hB;rw[e];have:=k b hb;obtain⟨i,i1,i2,i3⟩:=(sF b h.F).2.2.1 oO;refine⟨i,i1,b2 b hb,X4.swap hR (fun T r q=>q.rev) (fun T hT' g=>?_) ⟨b,b2 b hb,rfl⟩ i2 i3⟩;obtain⟨c,hc,rfl⟩:=hT';have hcB:∃ d∈B,∀ v,v∈c.ends->v∈d.ends:=by
    rcases hc.kind with⟨h0,f,hf,h1,h2⟩|⟨h0,h1,_⟩
    .have e1:=hc.en f.a (by rw[h2];simp);have e2:=hc.en f.b (by rw[h2];simp);exact⟨_,b4 f hf h1 e1.1 e2.1,fun v hv=>by rw[h2]at hv;exact hv⟩
    .obtain⟨p,hp⟩:=aAM _ h0;obtain⟨d,hd,k⟩:=b5 p (h1 p hp).1 (h1 p hp).2;exact⟨d,hd,(uW hc (b2 d hd) hp k).2⟩
   obtain⟨d,hd,H7⟩:=hcB;obtain⟨i,j,i1,i2,i3,i4⟩:=(sF d h.F).2.2.2 (k d hd);by_cases q:i=g
   .exact⟨j,oO,i2,fun v hv=>i4 v (H7 v hv)⟩
   .exact⟨i,q,oO,fun v hv=>i3 v (H7 v hv)⟩
 obtain⟨k,k1,k2,Y5,k3,k4⟩:=S7;rcases I2 with⟨q,_⟩|⟨w,k',q1,q2,q3,q4,q5,w2,w3,w6,w7,w8,w9,w10,w11⟩
 .omega
 .have:k'=k:=oO;subst this;have:=Exd.lay hT hD hR k3 k2 w2 w3 w6 w7 w8 w9 w10 w11;rw[k4]at this;exact⟨_,q2,this,q4⟩
theorem Exd.loop:∀(n:Nat) (h:Sh),Exd E h->E.length+1<=n+h.L.length->∃ h',pV ⟨vsF E,E⟩ n h=some (some h')
 |0,h,hx,hl=>by have:=hx.drn.L_le;omega
 |n+1,h,hx,hl=>by
  unfold pV;by_cases dG:h.L.length<(⟨vsF E,E⟩:Gr).es.length
  .rw[aAj dG];obtain⟨h',e,P3,K3⟩:=hx.step hT dG;rw[e,Option.bind_some];exact Exd.loop n h' P3 oO
  .rw[aAa dG];exact⟨h,rfl⟩
theorem Exd.start{s:Int->Int}(hP:PlE E s){h:Sh}(hD:Drn E h){r:List Int}(hF:h.F=[r,r.reverse])(hn:r.Nodup)(hl:3<=r.length)(hed:∀ u v,(u,v)∈prs r->∃ e∈E,prE e=prP u v):Exd E h:=by
 have hon:∀ v,v∈h.on->v∈r:=fun v hv=>by
  obtain⟨u,h1,h2⟩:=(hD.on v).1 hv;have:=(hD.mem v u).2 ⟨aCB h1,by rw[aJ];exact h2⟩;rw[hF]at this;rcases jG.1 this with i|i
  .exact(pS i).1
  .exact(pS (x:=u) (y:=v) i).2
 have Q3:∀ v,v∈r->v∈h.on:=fun v hv=>hD.ring_on (r:=r) (by rw[hF];simp) hv;have V8:r.reverse.Nodup:=(aBr r).nodup_iff.2 hn;have hKr:∀ S,St' E h S->Kr E S r:=by
  rintro S ⟨b,hb,rfl⟩;refine⟨hn,hl,hed,fun v hv k=>?_,fun v hv=>hon v (hb.en v hv).1,fun q c d hc hd k=>?_⟩
  .rcases hb.kind with⟨h0,_⟩|⟨_,h1,_⟩
   .have k:v∈b.inner:=k;rw[h0]at k;simp at k
   .exact(h1 v k).2 (Q3 v hv)
  .rcases hb.kind with⟨h0,e,he,h1,h2⟩|⟨h0,_⟩
   .obtain⟨n1,n2⟩:=(hD.mem c d).1 (by rw[hF];exact jG.2 (.inl k));refine h1 ?_;have hc:c∈b.ends:=hc;have hd:d∈b.ends:=hd;rw[h2]at hc hd;simp at hc hd;have:prE e=prP c d:=by
     show prP e.a e.b=_;rcases hc with rfl|rfl<;>rcases hd with rfl|rfl
     .exact absurd rfl n1
     .rfl
     .exact aJ _ _
     .exact absurd rfl n1
    rw[this];exact n2
   .obtain⟨p,hp⟩:=aAM _ h0;exact q p hp
 have hKq:∀ S,St' E h S->Kq E S r:=fun S k=>⟨E,s,hP,hKr S k,fun e he=>⟨e,he,rfl⟩,fun e he _=>⟨e,he,rfl⟩⟩;by_cases hex:∃ S,St' E h S
 .obtain⟨S0,hS0⟩:=hex;have hE:=(hKr S0 hS0).emb hP;have hthg:∀ S,St' E h S->Thg E S:=fun S ⟨b,hb,e⟩=>by rw[e];exact AV hT hD hb
  have j5:∀ S,∃ c:Nat,St' E h S->c<2/\In' E s (prs r) ([r,r.reverse].getD c []) S:=fun S=>by
   by_cases k:St' E h S
   .obtain⟨q,hq,hi⟩:=hE.in_ex hP (hthg S k) (hKr S k).by';have:q=r\/q=r.reverse:=by simpa using hq
    rcases this with rfl|rfl
    .exact⟨0,fun _=>⟨oO,hi⟩⟩
    .exact⟨1,fun _=>⟨oO,hi⟩⟩
   .exact⟨0,fun q=>absurd q k⟩
  have J8:∀ c:Nat,c<2->[r,r.reverse].getD c []∈[r,r.reverse]:=fun c hc=>by
   match c,hc with
   |0,_=>simp
   |1,_=>simp
  refine⟨hD,hF ▸ Ki hn,fun S=>(j5 S).choose,fun S k=>?_,fun S k v hv=>?_,fun S S' k k' Zo he=>?_,fun S k=>?_⟩
  .rw[hF];exact((j5 S).choose_spec k).1
  .have:=(j5 S).choose_spec k;rw[hF];exact hE.in_on hP (hthg S k) (hKr S k).by' (J8 _ this.1) this.2 hv
  .have i1:=(j5 S).choose_spec k;have i2:=(j5 S').choose_spec k';rw[hF];exact hE.avo hP (hthg S k) (hKr S k).by' (hthg S' k') (hKr S' k').by' (RC k k' Zo) (J8 _ i1.1) i1.2 (by rw[he];exact i2.2)
  .have i1:=((j5 S).choose_spec k).1;rw[hF];generalize (j5 S).choose=c at *
   match c,i1 with
   |0,_=>exact⟨r,hKq S k,fun _ _ _ _ _ _=>aEF⟩
   |1,_=>exact⟨r.reverse,(hKq S k).rev.1,fun _ _ _ _ _ _=>aEF⟩
 .exact⟨hD,hF ▸ Ki hn,fun _=>0,fun S k=>absurd ⟨S,k⟩ hex,fun S k=>absurd ⟨S,k⟩ hex,fun S _ k=>absurd ⟨S,k⟩ hex,fun S k=>absurd ⟨S,k⟩ hex⟩
end
section
variable {E:List Ed} (hT:Tc E) {h:Sh} (hD:Drn E h) (hl:E.length<=h.L.length)
include hT hD hl
theorem KJ{r:List Int}(hr:r∈h.F):3<=r.length:=by
 have Zo:∀ u v,(u,v)∈prs r->u≠v:=fun u v k=>((hD.mem u v).1 (aV.2 ⟨r,hr,k⟩)).1
 match r,hr,Zo with
 |[],hr,_=>exact absurd rfl (hD.ne _ hr)
 |[a],hr,Zo=>exact absurd rfl (Zo a a (by simp[prs,lnk]))
 |[a,b],hr,Zo=>
  exfalso;have hp:∀ p,p∈prs [a,b]↔p=(a,b)\/p=(b,a):=fun p=>by simp[prs,lnk]
  have ha:(a,b)∈PF h.F:=aV.2 ⟨_,hr,(hp _).2 (.inl rfl)⟩;have:=hD.con (fun p q=>(p∈prs [a,b]↔q∈prs [a,b])) (fun p q k=>k.symm) (fun p q r k k'=>k.trans k') (fun t ht p hp q hq=>?_) (fun p _=>by rw[hp,hp];obtain⟨u,v⟩:=p;simp only[Prod.swap,aBd];grind)
  .have hall:∀ p∈h.L,p=prP a b:=fun p hpL=>by
    obtain⟨e,he,rfl⟩:=hD.sub p hpL;have v8:=hT.ne e he;have k:=(this _ ha _ ((hD.mem e.a e.b).2 ⟨v8,hpL⟩)).1 ((hp _).2 (.inl rfl));rcases(hp _).1 k with k|k
    .injection k with k1 k2;show prP e.a e.b=_;rw[k1,k2]
    .injection k with k1 k2;show prP e.a e.b=_;rw[k1,k2];exact aJ _ _
   have h2:=hT.two;have:=aAA hD.lnd (l₂:=[prP a b]) fun p hpL=>by rw[hall p hpL];simp
   simp at this;omega
  .by_cases c:t=[a,b]
   .subst c;exact⟨fun _=>hq,fun _=>hp⟩
   .exact⟨fun k=>absurd (Er hD.nd ht hr hp k) c,fun k=>absurd (Er hD.nd ht hr hq k) c⟩
 |_::_::_::_,_,_=>simp
theorem NA:E.length+6<=3*(vsF E).length:=by
 have hO:=hD.done hT.ne hT.sim hl;have h1:(PF h.F).length<=2*E.length:=uF hO.nd fun p hp=>(hO.mem p.1 p.2).1 hp;have h2:=hO.cnt;have h3:∀ F:List (List Int),(∀ r∈F,3<=r.length)->3*F.length<=(PF F).length:=fun F=>by
  induction F with
  |nil=>intro _;simp
  |cons r F ih=>
   intro hF;have:=ih fun t ht=>hF t (aAc _ ht);have h4:=hF r aAf;have h5:=oK r;have h6:(PF (r::F)).length=(prs r).length+(PF F).length:=by simp[PF]
   simp only[List.length_cons];omega
 have:=h3 h.F fun r hr=>KJ hT hD hl hr;omega
end
theorem Sv(l:List Int):(nrm l).Perm l:=by unfold nrm rt;exact aBm.trans (by rw[aAE])
theorem C7(l:List Int):nrm (nrm l)=nrm l:=by
 by_cases h:l=[]
 .subst h;rfl
 .obtain⟨r,hr⟩:=SM l h;have hm:mn (nrm l)=mn l:=Vv ((Sv l).mem_iff.2 (xM h)) fun x hx=>PK ((Sv l).mem_iff.1 hx);exact HQ hr hm
theorem Uk{A B:List Int}(hn:(A++B).Nodup){x:Int}(hx:x∈A++B):nx (B++A) x=nx (A++B) x:=by
 by_cases hA:A=[]
 .subst hA;simp
 by_cases hB:B=[]
 .subst hB;simp
 have I1:(B++A).Nodup:=aBm.nodup_iff.1 hn;rcases aAd.1 hx with h|h
 .rw[(xC hn hA hB).1 h,(xC I1 hB hA).2 h]
 .rw[(xC hn hA hB).2 h,(xC I1 hB hA).1 h]
theorem Wm{l:List Int}(hn:l.Nodup){x:Int}(hx:x∈l):nx (nrm l) x=nx l x:=by have e:l.take (l.idxOf (mn l))++l.drop (l.idxOf (mn l))=l:=aAE _ _;have:=Uk (A:=l.take (l.idxOf (mn l))) (B:=l.drop (l.idxOf (mn l))) (by rw[e];exact hn) (x:=x) (by rw[e];exact hx);rw[e]at this;exact this
theorem OG{g:Gr}(hg:GoodE g):((fP g.es).flatten).Nodup/\∀ i,i∈(fP g.es).flatten↔i<g.es.length:=by
 have Q1:∀ B∈fP g.es,dU g.es B:=fun B hB=>kP hg hB;constructor
 .have:=lA (f:=fun B:List Nat=>B) (Lc g.es) (fun B hB=>(Q1 B hB).rise.imp fun k=>aCb k) fun B hB B' hB' i h1 h2=>(Q1 B hB).eq (g:=g) (Q1 B' hB') h1 h2
  rwa [List.flatMap_def,List.map_id']at this
 .intro i;rw[aAQ];constructor
  .rintro⟨B,hB,hi⟩;exact(Q1 B hB).lt i hi
  .intro hi;obtain⟨s,_,_,h2,_,h3⟩:=rS hg;obtain⟨B,hB,hiB⟩:=aAQ.1 ((h2 i).2 hi);have U0:=h3 B hB;have hh:=head_mem U0.ne;refine⟨B,?_,hiB⟩;unfold fP;rw[U0.cls hh];refine aAi.2 ⟨B.headD 0,?_,rfl⟩;rw[aAy,aBl,aAR,<- U0.cls hh];exact⟨U0.lt _ hh,rfl⟩
theorem gB{g:Gr}(hg:GoodE g):((aP g).flatten).Perm (sE g.es):=by
 have V1:=hg.simple;obtain⟨h1,h2⟩:=OG V1;have hp:(fP (sE g.es)).flatten.Perm (List.range (sE g.es).length):=(aAZ h1 aDB).2 fun i=>by rw[h2,aBl]
 have e:(aP g).flatten=(fP (sE g.es)).flatten.map (eAt (sE g.es)):=by unfold aP;rw[aDE]
 have e2:(List.range (sE g.es).length).map (eAt (sE g.es))=sE g.es:=by refine aCZ sS fun i h1 h2=>?_;simp only[aCt,List.getElem_range];exact fB _ _ h2
 rw[e]
 conv=>rhs;rw[<- e2]
 exact hp.map _
theorem XE{g:Gr}(hg:GoodE g)(hv:∀ v∈g.vs,0<=v/\v<4194304){Bs:BsT}(hb:Bs.map (·.1)=aP g)(hd:∀ p∈Bs,jP p.1 p.2):Sys g Bs:=by
 have j5:∀ p∈Bs,p.1∈aP g:=fun p hp=>by rw[<- hb];exact aAt (f:=(·.1)) hp
 have U4:(Bs.flatMap (·.1)).Perm (sE g.es):=by rw[List.flatMap_def,hb];exact gB hg
 refine⟨hg,fun p hp=>⟨hd p hp,⟨(mW hg (j5 p hp)).1.ne,?_,fun v h=>?_⟩,?_⟩,U4⟩
 .have h1:=(U4.map prE).nodup_iff.2 (rF g.es);rw[aEa]at h1;have:∀ {l:BsT},(l.flatMap fun p=>p.1.map prE).Nodup->∀ p∈l,(p.1.map prE).Nodup:=by
   intro l;induction l with
   |nil=>intro _ p h;cases h
   |cons a l ih=>
    intro hn p h;rw[aAF,aAo]at hn;rcases aAe.1 h with rfl|h
    .exact hn.1
    .exact ih hn.2.1 p h
  exact this h1 p hp
 .obtain⟨e,he,k⟩:=(bA v _).1 h;have:=hg.ends e ((mW hg (j5 p hp)).2 e he);rcases k with rfl|rfl
  .exact hv _ this.1
  .exact hv _ this.2
 .have:=j5 p hp;unfold aP at this;obtain⟨B,hB,e⟩:=aAi.1 this;rw[<- e];intro h0;exact(kP hg.simple hB).ne (aCG.1 h0)
abbrev Ch(g:Gr)(Bs:BsT):Mp:=⟨g,g.vs.map fun v=>nrm (jT g Bs v)⟩
theorem RD(A B:List (List Int)):gG (A++B)=gG A+gG B:=by unfold gG;rw[aCy,aAn]
theorem Kg(Bs:BsT)(f:List Ed×List (List Int)->Int->List Int)(hz:∀ p∈Bs,∀ v,v∉vsF p.1->f p v=[]):∀ vs:List Int,vs.Nodup->gG ((vs.map fun v=>Bs.map fun p=>f p v).flatten)<=(Bs.map fun p=>(vs.filter fun v=>decide (v∈vsF p.1)).length).sum
 |[],_=>by simp[gG]
 |v::vs,hn=>by
  have ih:=Kg Bs f hz vs (aAp.1 hn).2;rw[aAl,List.flatten_cons,RD];have key:∀ l:BsT,(∀ p∈l,p∈Bs)->gG (l.map fun p=>f p v)+(l.map fun p=>(vs.filter fun v=>decide (v∈vsF p.1)).length).sum<=(l.map fun p=>((v::vs).filter fun v=>decide (v∈vsF p.1)).length).sum:=by
   intro l;induction l with
   |nil=>intro _;simp[gG]
   |cons p l ihl=>
    intro hl;have i1:=ihl fun q hq=>hl q (aAc _ hq);have e:gG ((p::l).map fun p=>f p v)=(if f p v≠[]then 1 else 0)+gG (l.map fun p=>f p v):=by
     unfold gG;rw[aAl,aDC];by_cases h:f p v=[]
     .simp[h]
     .simp[h];omega
    rw[e];simp only[aAl,List.sum_cons];by_cases h:v∈vsF p.1
    .have e2:((v::vs).filter fun v=>decide (v∈vsF p.1)).length=(vs.filter fun v=>decide (v∈vsF p.1)).length+1:=by simp[h]
     rw[e2]
     split<;>omega
    .have e2:((v::vs).filter fun v=>decide (v∈vsF p.1)).length=(vs.filter fun v=>decide (v∈vsF p.1)).length:=by simp[h]
     rw[e2,aAa (by simp[hz p (hl p aAf) v h])];omega
  have:=key Bs fun _ h=>h;omega
section
variable {g:Gr} {Bs:BsT} (hS:Sys g Bs)
include hS
theorem Sys.map_ok:bS (Ch g Bs):=by
 refine⟨hS.gE,sS,fun k hk=>?_⟩;have Q0:k<(g.vs.map fun v=>nrm (jT g Bs v)).length:=by simpa using hk
 have e:(Ch g Bs).rots.getD k []=nrm (jT g Bs (g.vs.getD k 0)):=by show(g.vs.map fun v=>nrm (jT g Bs v)).getD k []=_;rw[lS _ _ Q0,aCt,bL _ _ hk]
 rw[e];exact⟨(Sv _).trans (hS.turn_perm _),C7 _⟩
theorem Sys.sg_eq(d:Int):sg (Ch g Bs) d=sgR ((grp g Bs).map List.flatten) d:=by
 have hm:=hS.map_ok;have hn:((grp g Bs).map List.flatten).flatten.Nodup:=by rw[lE];exact hS.grp_nd
 by_cases hd:d∈aU g.es
 .obtain⟨t,ht,hdt⟩:=hm.turn_of hd;rw[DE hm ht hdt];obtain⟨v,hv,rfl⟩:=aAi.1 ht;have hdv:d∈jT g Bs v:=(Sv _).mem_iff.1 hdt;rw[Wm (hS.turn_nodup v) hdv,gA hn (t:=jT g Bs v) (by rw[IA];exact aAt hv) hdv]
 .rw[hm.sg_id hd,lU];rw[lE];exact fun h=>hd (hS.grp_mem.1 h)
theorem Sys.plane(hb:Bs.map (·.1)=aP g):gn (Ch g Bs)=0:=by
 have hg:=hS.gE;have hm:=hS.map_ok;have h1:=hm.gn;have h2:=hS.faces;have hn:((grp g Bs).map List.flatten).flatten.Nodup:=by rw[lE];exact hS.grp_nd
 have h3:=Pn (al:=al g.es) (D:=aU g.es) ⟨Vk g.es,fun d hd=>(Ff _ _ _).2 hd⟩ (fun d hd=>tV hd) (grp g Bs) (Rs:=[]) (by rw[aAO];exact hS.grp_nd) (fun d hd=>hS.grp_mem.1 (by rwa [aAO]at hd));rw[aAO,aAO]at h3;have h4:ncl (Orb (fc (Ch g Bs) g.es)) (aU g.es)=fcs (al g.es) (aU g.es) ((grp g Bs).map List.flatten):=by
  unfold fcs;have:fc (Ch g Bs) g.es=fun d=>sgR ((grp g Bs).map List.flatten) (al g.es d):=by
   funext d;unfold fc;exact hS.sg_eq _
  rw[this]
 have h5:gG ((grp g Bs).map List.flatten)+alone g=g.vs.length:=by
  have k1:=hm.ncl_sg;have k2:=Lx hn;have hp:(aU g.es).Perm ((grp g Bs).map List.flatten).flatten:=(aAZ (iW (oQ hg.ids)) hn).2 fun d=>by rw[lE];exact hS.grp_mem.symm
  have e:sg (Ch g Bs)=sgR ((grp g Bs).map List.flatten):=funext hS.sg_eq;rw[e]at k1;have k3:ncl (Orb (sgR ((grp g Bs).map List.flatten))) (aU g.es)=gG ((grp g Bs).map List.flatten):=by rw[vN (lK hn).per.eqv hp];exact k2
  have k4:ncl (Orb (sgR ((grp g Bs).map List.flatten))) (aU g.es)+alone g=g.vs.length:=k1;rw[k3]at k4;exact k4
 have h6:gG (grp g Bs).flatten<=((aP g).map fun l=>(vsF l).length).sum:=by
  refine aBa (Kg Bs (fun p v=>bt g p.2 v) (fun p hp v hv=>?_) g.vs hg.toGood.nodup) ?_
  .obtain⟨hO,hE,_⟩:=hS.ok p hp;show bt g p.2 v=[];unfold bt;rw[oS hO hE hv,nG];rfl
  .rw[<- hb,aAX];have:∀ l:BsT,(l.map fun p=>(g.vs.filter fun v=>decide (v∈vsF p.1)).length).sum<=(l.map ((fun l=>(vsF l).length)∘fun p=>p.1)).sum:=by
    intro l;induction l with
    |nil=>simp
    |cons p l ih=>
     rw[aAl,aAl,List.sum_cons,List.sum_cons];have:(g.vs.filter fun v=>decide (v∈vsF p.1)).length<=(vsF p.1).length:=by refine aAA (hg.toGood.nodup.sublist aAP) fun v hv=>?_;rw[aAy,aAR]at hv;exact hv.2
     simp only[Function.comp_apply];omega
   exact this Bs
 have h7:=Ci hg;have h8:(Bs.flatMap (·.2)).length+((aP g).map fun l=>(vsF l).length).sum=(sE g.es).length+2*(aP g).length:=by
  rw[<- (gB hg).length_eq,<- hb];have:∀ l:BsT,(∀ p∈l,p∈Bs)->(l.flatMap (·.2)).length+((l.map (·.1)).map fun l=>(vsF l).length).sum=(l.map (·.1)).flatten.length+2*(l.map (·.1)).length:=by
   intro l;induction l with
   |nil=>intro _;rfl
   |cons p l ih=>intro hl;have i1:=ih fun q hq=>hl q (aAc _ hq);have i2:=(hS.ok p (hl p aAf)).1.cnt;simp only[aAF,aAl,List.sum_cons,List.flatten_cons,aAn,List.length_cons]at i1 ⊢;omega
  exact this Bs fun _ h=>h
 have h9:(sE g.es).length<=g.es.length:=oA g.es;have e1:(Ch g Bs).g=g:=rfl;rw[e1,h4]at h1;omega
end
noncomputable def Ev(m:Mp):Int:=if xT m≠0 then xT m else if gn m≠0 then 23 else 0
section
variable {E:List Ed} (hT:Tc E)
include hT
theorem Rn(hlim:E.length<=200):∃ o,pU E=some o/\∀ F,o=some F->jP E F:=by
 have h2:=hT.two;obtain⟨x,y,R,hE⟩:∃ x y R,E=x::y::R:=by
  match E,h2 with
  |x::y::R,_=>exact⟨x,y,R,rfl⟩
 have hd:pU E=if(vsF E).length<=64/\E.length<=200 then
  if(3:Int)*(vsF E).length-6<E.length then some none
  else(newF ⟨vsF E,E⟩).bind fun h=>(pV ⟨vsF E,E⟩ 1000 h).map fun o=>o.map (·.F)
  else none:=by rw[hE];rfl
 rw[hd,aAj ⟨hT.few.1,hlim⟩]
 split
 .exact⟨none,rfl,fun F e=>by cases e⟩
 .obtain⟨h,h1,hD,_⟩:=hT.start hE;obtain⟨o,h3,h4⟩:=CO hT 1000 h hD (by have:=hT.few.2;omega);rw[h1,Option.bind_some,h3];refine⟨o.map (·.F),rfl,fun F e=>?_⟩;cases o with
  |none=>cases e
  |some h'=>simp only[Option.map_some,aAb]at e;subst e;obtain⟨hD',hl⟩:=h4 h' rfl;exact hD'.done hT.ne hT.sim hl
end
theorem Jn{g:Gr}(hg:GoodE g)(hv:g.vs.length<=64)(he:g.es.length<=200){l:List Ed}(hl:l∈aP g):l≠[]/\(∀ e∈l,e∈g.es/\e.a≠e.b)/\l.length<=g.es.length/\(2<=l.length->Tc l):=by
 have V1:=hg.simple;obtain⟨X6,j5⟩:=mW hg hl;have H7:∀ v∈vsF l,v∈g.vs:=fun v h=>by
  obtain⟨e,hel,k⟩:=(bA v l).1 h;have:=hg.ends e (j5 e hel)
  grind
 have hlen:l.length<=g.es.length:=by have h1:l.length<=(aP g).flatten.length:=(aBo hl).length_le;have h2:=(gB hg).length_eq;have h3:=oA g.es;omega
 refine⟨fun h0=>?_,fun e he=>⟨j5 e he,X6.ne e he⟩,hlen,fun h2=>⟨X6.ids,X6.ne,?_,?_,h2,?_,oO⟩⟩
 .unfold aP at hl;obtain⟨B,hB,e⟩:=aAi.1 hl;rw[h0]at e;exact absurd (aCG.1 e) (kP V1 hB).ne
 .have h1:=((gB hg).map prE).nodup_iff.2 (rF g.es);rw[aDE]at h1;exact(aBo (aAt (f:=List.map prE) hl)).nodup h1
 .unfold aP at hl;obtain⟨B,hB,e⟩:=aAi.1 hl;have U0:=kP V1 hB;intro w p q hp hq hpw hqw;rw[<- e]at hp hq ⊢;obtain⟨i,hi,ip⟩:=tO V1 hp;obtain⟨j,hj,jq⟩:=tO V1 hq;exact U0.con V1 w hi (U0.rel i hi j hj) p q ip jq hpw hqw
 .have:=aAA ((kQ l).imp fun k=>by omega) H7;omega
theorem Lg{g:Gr}(hg:GoodE g)(hv:g.vs.length<=64)(he:g.es.length<=200)(hlim:g.es.length<=200){l:List Ed}(hl:l∈aP g):∃ o,pU l=some o/\∀ F,o=some F->jP l F:=by
 obtain⟨h0,h1,u7,h2⟩:=Jn hg hv he hl
 match l,h0,h1,h2,u7 with
 |[e],_,h1,_,_=>exact⟨_,rfl,fun F k=>by injection k with k;subst k;exact Rl (h1 e sS).2⟩
 |x::y::R,_,_,h2,u7=>exact Rn (h2 sS) oO
theorem HT(x y:Int):∀ P,(rJ x y P).length<=P.length+1
 |[]=>by simp[rJ]
 |p::P=>by have:=HT x y P;unfold rJ;split<;>simp<;>omega
theorem IE(v x y:Int)(n:Nat):∀ A:Tn,(∀ a∈A,a.2.length<=n)->(iE v x y A).length<=A.length+1/\∀ a∈iE v x y A,a.2.length<=n+1
 |[],_=>by simp[iE]
 |a::A,h=>by
  obtain⟨h1,h2⟩:=IE v x y n A fun b hb=>h b (aAc _ hb);unfold iE
  split
  .refine⟨sS,fun b hb=>?_⟩;rcases aAe.1 hb with rfl|hb
   .have:=HT x y a.2;have:=h a aAf;simp only;omega
   .have:=h b (aAc _ hb);omega
  .refine⟨by simp;omega,fun b hb=>?_⟩;rcases aAe.1 hb with rfl|hb
   .have:=h b aAf;omega
   .exact h2 b hb
theorem Oz:∀ T:List (Int×Int×Int),(T.foldl CF []).length<=T.length/\(∀ a∈T.foldl CF [],a.2.length<=T.length)/\∀ v∈(T.foldl CF []).map (·.1),∃ t∈T,t.2.1=v:=by
 intro T;induction T using yI with
 |h0=>simp
 |h1 T t ih=>
  rw[aBI,List.foldl_cons,List.foldl_nil,aAn,List.length_singleton];have:=IE t.2.1 t.1 t.2.2 T.length (T.foldl CF []) ih.2.1;refine⟨aBa this.1 oO,this.2,?_⟩;have key:∀ A:Tn,∀ v∈(iE t.2.1 t.1 t.2.2 A).map (·.1),v=t.2.1\/v∈A.map (·.1):=by
   intro A;induction A with
   |nil=>intro v hv;simp[iE]at hv;exact .inl hv
   |cons a A ih=>
    intro v hv;unfold iE at hv
    split at hv
    .rw[aAl]at hv ⊢;rcases aAe.1 hv with h|h
     .exact .inl h
     .exact .inr (aAc _ h)
    .rw[aAl]at hv ⊢;rcases aAe.1 hv with h|h
     .exact .inr (by rw[h];exact aAf)
     .exact(ih v h).imp id fun k=>aAc _ k
  intro v hv;rcases key _ v hv with h|h
  .exact⟨t,sS,h.symm⟩
  .obtain⟨s,hs,e⟩:=ih.2.2 v h;exact⟨s,aAq _ hs,e⟩
theorem IY(g:Gr)(v:Int):∀(L:List Int) (T:TL),gR (dZ g v L T)=gR T+(L.flatMap (seg g v)).length
 |[],T=>by simp[dZ]
 |x::L,T=>by have ih:=IY g v L (pG v (seg g v x) T);have e:dZ g v (x::L) T=dZ g v L (pG v (seg g v x) T):=rfl;rw[e,ih,uH,aAF,aAn];omega
theorem Gf(g:Gr)(A:Tn)(n:Nat):∀(K:List Int) (T:TL),(∀ v∈K,((bX (dJ v A)).flatMap (seg g v)).length<=n)->gR (fM g A K T)<=gR T+K.length*n
 |[],T,_=>by simp[fM]
 |v::K,T,h=>by have ih:=Gf g A n K (dZ g v (bX (dJ v A)) T) fun w hw=>h w (aAc _ hw);have e:fM g A (v::K) T=fM g A K (dZ g v (bX (dJ v A)) T):=rfl;have h0:=h v aAf;rw[IY]at ih;rw[e,List.length_cons,aCc];omega
theorem Ol{g:Gr}(hg:GoodE g)(hv:g.vs.length<=64)(he:g.es.length<=200)(hlim:g.es.length<=200){l:List Ed}(hl:l∈aP g)(hs:∃ s,PlE l s):∃ F,pU l=some (some F):=by
 obtain⟨h0,h1,u7,h2⟩:=Jn hg hv he hl;obtain⟨s,hP⟩:=hs
 match l,h0,h1,h2,u7,hP with
 |[e],_,h1,_,_,_=>exact⟨_,rfl⟩
 |x::y::R,_,_,h2,u7,hP=>
  have hT:=h2 sS;obtain⟨h,q1,hD,r,q2,q3,q4,q5⟩:=hT.start rfl;have hx:=Exd.start hT hP hD q2 q3 q4 q5;obtain⟨h',q6⟩:=Exd.loop hT 1000 h hx (by have:=hT.few.2;omega);obtain⟨o,q7,q8⟩:=CO hT 1000 h hD (by have:=hT.few.2;omega);rw[q6]at q7;injection q7 with q7;obtain⟨hD',K3⟩:=q8 h' q7.symm;have:=NA hT hD' K3
  have hd:pU (x::y::R)=if(vsF (x::y::R)).length<=64/\(x::y::R).length<=200 then
   if(3:Int)*(vsF (x::y::R)).length-6<(x::y::R).length then some none
   else(newF ⟨vsF (x::y::R),x::y::R⟩).bind fun h=>(pV ⟨vsF (x::y::R),x::y::R⟩ 1000 h).map fun o=>o.map (·.F)
   else none:=rfl
  rw[hd,aAj ⟨hT.few.1,oO⟩,aAa oO,q1,Option.bind_some,q6];exact⟨h'.F,rfl⟩
theorem DK(g:Gr):∀(bl:List (List Ed)) (T:TL) (o:Option TL),(∀ l∈bl,∃ F,pU l=some (some F))->yY g bl T=some o->o≠none
 |[],T,o,_,h=>by injection h with h;rw[<- h];simp
 |l::bl,T,o,hb,h=>by
  obtain⟨F,hF⟩:=hb l aAf;unfold yY at h;rw[hF,Option.bind_some]at h;simp only at h
  split at h
  .exact DK g bl _ o (fun x hx=>hb x (aAc _ hx)) h
  .cases h
theorem JV{g:Gr}{bl:List (List Ed)}{o:Option Mp}(hb:∀ l∈bl,∃ F,pU l=some (some F))(h:iA g bl=some o):o.isSome=true:=by
 unfold iA at h;cases hT:yY g bl [] with
 |none=>rw[hT]at h;cases h
 |some T=>
  have:=DK g bl [] T hb hT;rw[hT,Option.bind_some]at h;cases T with
  |none=>exact absurd rfl this
  |some T=>
   simp only at h
   split at h
   .injection h with h;rw[<- h];rfl
   .cases h
theorem PlD.nY{E:List Ed}{s:Int->Int}{D:List Int}(h:PlD E s D){A:List (Int×Int)}(hA:gH E A):Flat D s (pls A):=by
 have hP:PlE E s:=⟨D,h⟩;obtain⟨R,hR⟩:=hP.sub hA;have hB:=hP.ors A;have hp:(pls (E.map (orA A))).Perm (pls R++pls A):=by have:=hR.map fun p:Int×Int=>(cd p,cd p.swap);rw[aAu]at this;exact this
 have h1:=kL h.perm (hP.fl_nd hB) hp (h.flat_or A);exact BN h.perm (fun q hq=>h.pairs hB q (hp.mem_iff.2 hq)) h1
theorem PlE.of_sub{E E':List Ed}{s:Int->Int}(h:PlE E s)(hB:BlE E')(hs:∀ e∈E',∃ f∈E,prE f=prE e):PlE E' s:=by
 obtain⟨D,h⟩:=h;have up:∀ p:Int×Int,(∃ e∈E',prE e=unA p)->∃ e∈E,prE e=unA p:=fun p ⟨e,he,q⟩=>by obtain⟨f,hf,k⟩:=hs e he;exact⟨f,hf,k.trans q⟩
 refine⟨D,hB,h.perm,fun p hp=>h.mem p (up p hp),fun p q hp hq=>h.orb p q (up p hp) (up q hq),?_⟩;have hA:gH E (E'.map fun e=>(e.a,e.b)):=by
  refine⟨fun p hp=>?_,?_⟩
  .obtain⟨e,he,rfl⟩:=aAi.1 hp;exact hs e he
  .rw[aAX];exact hB.sim
 have:=h.nY hA;have e:pls (E'.map fun e=>(e.a,e.b))=tws E':=by unfold pls tws;rw[aAX];rfl
 rwa [e]at this
section
variable {D:List Int} {s:Int->Int} (hs:dF D s) {P:List (Int×Int)} (hP:fU D P)
include hs hP
end
def uY(A:List Ed):Prop:=∀ e∈A,e.a≠e.b/\(0<=e.a/\e.a<4194304)/\0<=e.b/\e.b<4194304
def Pg(A:List Ed):Prop:=∃ s,PlE (sE A) s
theorem ZI{A:List Ed}{e:Ed}(h:e∈A):∃ f∈sE A,prE f=prE e:=by obtain⟨y,hy,k⟩:=KX A e h;exact⟨y,hy,(Eg.1 k).symm⟩
theorem uY.bl{A:List Ed}(h:uY A):BlE (sE A):=⟨fun e he=>(h e (iT A e he)).1,rF A,fun v hv=>by
 obtain⟨e,he,k⟩:=(bA v _).1 hv;have:=h e (iT A e he)
 grind⟩
theorem Pg.sub{A B:List Ed}(h:Pg A)(hB:uY B)(hs:∀ e∈B,∃ f∈A,prE f=prE e):Pg B:=by obtain⟨s,h⟩:=h;refine⟨s,h.of_sub hB.bl fun e he=>?_⟩;obtain⟨f,hf,k⟩:=hs e (iT B e he);obtain⟨f',Q8,k'⟩:=ZI hf;exact⟨f',Q8,k'.trans k⟩
theorem uY.of{g:Gr}(hG:GoodE g)(hv:∀ v∈g.vs,0<=v/\v<4194304):uY g.es:=fun e he=>by have h1:=hG.ne e he;have h2:=hG.ends e he;exact⟨h1,hv _ h2.1,hv _ h2.2⟩
theorem Pg.blk{g:Gr}(hG:GoodE g)(hvb:∀ v∈g.vs,0<=v/\v<4194304)(hv:g.vs.length<=64)(he:g.es.length<=200)(h:Pg g.es){l:List Ed}(hl:l∈aP g):∃ s,PlE l s:=by
 obtain⟨h0,h1,u7,h2⟩:=Jn hG hv he hl;obtain⟨s,h⟩:=h;have hf:=gB hG;have H7:∀ e∈l,e∈sE g.es:=fun e k=>hf.mem_iff.1 (aAQ.2 ⟨l,hl,k⟩);have hsim:(l.map prE).Nodup:=by have h1:=(hf.map prE).nodup_iff.2 (rF g.es);rw[aDE]at h1;exact(aBo (aAt (f:=List.map prE) hl)).nodup h1
 refine⟨s,h.of_sub ⟨fun e k=>(h1 e k).2,hsim,fun v k=>?_⟩ fun e k=>⟨e,H7 e k,rfl⟩⟩;obtain⟨e,hel,k⟩:=(bA v l).1 k;have:=uY.of hG hvb e (h1 e hel).1
 grind
theorem bS.pg{m:Mp}(h:bS m)(hg:Aw.gn m=0)(hvb:∀ v∈m.g.vs,0<=v/\v<4194304):Pg m.g.es:=
 h.plE hg (fun e he=>iT _ e he) (gN _ (rF _)) (uY.of h.g hvb).bl
theorem Rr{g:Gr}(hg:GoodE g)(hv:∀ v∈g.vs,0<=v/\v<4194304){l:List Ed}(hl:l∈aP g):BlE l/\l≠[]/\∀ v∈vsF l,v∈g.vs:=by
 obtain⟨X6,j5⟩:=mW hg hl;have H7:∀ v∈vsF l,v∈g.vs:=fun v h=>by
  obtain⟨e,hel,k⟩:=(bA v l).1 h;have:=hg.ends e (j5 e hel);rcases k with rfl|rfl
  .exact this.1
  .exact this.2
 refine⟨⟨X6.ne,?_,fun v h=>hv v (H7 v h)⟩,?_,H7⟩
 .have h1:=((gB hg).map prE).nodup_iff.2 (rF g.es);rw[aDE]at h1;exact(aBo (aAt (f:=List.map prE) hl)).nodup h1
 .unfold aP at hl;obtain⟨B,hB,e⟩:=aAi.1 hl;rw[<- e];intro h0;exact(kP hg.simple hB).ne (aCG.1 h0)
section
variable {g:Gr} (hg:GoodE g) (hv:∀ v∈g.vs,0<=v/\v<4194304) (hn:g.vs.length<=24) (he:g.es.length<=50)
include hg hv hn he
theorem WK{l:List Ed}(hl:l∈aP g):l.length<=50/\(vsF l).length<=24:=by
 obtain⟨_,_,H7⟩:=Rr hg hv hl;constructor
 .have h1:l.length<=(aP g).flatten.length:=(aBo hl).length_le;have h2:=(gB hg).length_eq;have h3:=oA g.es;omega
 .have:=aAA ((kQ l).imp fun k=>by omega) H7;omega
theorem Uw{l:List Ed}(hl:l∈aP g){F:List (List Int)}(hO:jP l F)(T:TL)(hT:gR T+1200<=100000):okE F (aS F) (uR g F T)/\gR (uR g F T)<=gR T+1200:=by
 obtain⟨hE,h0,H7⟩:=Rr hg hv hl;obtain⟨l1,l2⟩:=WK hg hv hn he hl;have hcnt:=hO.cnt;have hPF:(PF F).length<=100:=by have:=uF (E:=l) hO.nd fun p hp=>(hO.mem p.1 p.2).1 hp;omega
 obtain⟨a1,a2,a3⟩:=Oz (F.flatMap trs);have hTF:(F.flatMap trs).length=(PF F).length:=by
  have:=(wV F).length_eq
  rwa [aAB]at this
 rw[<- yP]at a1 a2 a3;have J4:∀ v∈(aS F).map (·.1),v∈vsF l:=fun v hk=>by obtain⟨t,ht,rfl⟩:=a3 v hk;have:=(wV F).mem_iff.1 (aAt (f:=fun t:Int×Int×Int=>(t.1,t.2.1)) ht);obtain⟨e,he,k⟩:=(hO.mem t.1 t.2.1).1 this;exact(fT he k).2
 have hKl:(rH ((aS F).map (·.1))).length<=24:=by have:=aAA (l₂:=vsF l) ((zC ((aS F).map (·.1))).imp fun k=>by omega) fun v h=>J4 v ((rM v _).1 h);omega
 have hbt:∀ v,((bX (dJ v (aS F))).flatMap (seg g v)).length<=50:=fun v=>by
  by_cases Y8:v∈vsF l
  .have hR:=hO.round hE h0 Y8;have hnd:((bX (dJ v (aS F))).flatMap (seg g v)).Nodup:=lA hR.1 (fun x _=>nK hg v x) fun x _ y _ d h1 h2=>by rw[<- (xW hg h1).2,(xW hg h2).2]
   have:=aAA hnd (l₂:=g.es.map (dAt v)) fun d hd=>by obtain⟨x,_,hd⟩:=aAY.1 hd;obtain⟨e,he,_,rfl⟩:=kJ.1 hd;exact aAt he
   rw[aAB]at this;omega
  .rw[oS hO hE Y8,nG];simp
 have htot:gR (uR g F T)<=gR T+1200:=by have:=Gf g (aS F) 50 (rH ((aS F).map (·.1))) T fun v _=>hbt v;unfold uR;omega
 refine⟨⟨oO,fun r hr=>?_,oO,fun a ha=>by have:=a2 a ha;omega,oO⟩,htot⟩;have V8:=hO.nd;unfold PF at V8;rw[List.flatMap_def]at V8;have h1:=uF (E:=l) ((aBo (aAt (f:=prs) hr)).nodup V8) fun p hp=>(hO.mem p.1 p.2).1 (aV.2 ⟨r,hr,hp⟩);rw[oK]at h1;omega
theorem SR:∀(bl:List (List Ed)) (T:TL),(∀ l∈bl,l∈aP g)->gR T+bl.length*1200<=100000->∃ o,yY g bl T=some o
 |[],T,_,_=>⟨_,rfl⟩
 |l::bl,T,hl,hT=>by
  obtain⟨o,h1,h2⟩:=Lg hg oO oO oO (hl l aAf);unfold yY;rw[h1,Option.bind_some];cases o with
  |none=>exact⟨none,rfl⟩
  |some F=>
   have e1:gR T+1200<=100000/\(∀ t,t<=gR T+1200->t+bl.length*1200<=100000):=by rw[List.length_cons]at hT;clear h1 h2;generalize gR T=a at *;generalize bl.length=b at *;exact⟨oO,fun t h=>by omega⟩
   obtain⟨k1,k2⟩:=Uw hg hv hn he (hl l aAf) (h2 F rfl) T e1.1;simp only;rw[aAj k1];exact SR bl _ (fun x hx=>hl x (aAc _ hx)) (e1.2 _ k2)
end
theorem NP{g:Gr}(hc:chk g=0)(hn:g.vs.length<=24)(he:g.es.length<=50):∃ o,iA g (aP g)=some o/\∀ m,o=some m->∃ Bs,Sys g Bs/\Bs.map (·.1)=aP g/\m=Ch g Bs/\∀ v,(jT g Bs v).length<=100:=by
 have hG:=nP hc;have hg:=eT hc;have hv:∀ v∈g.vs,0<=v/\v<4194304:=fun v h=>by have:=hG.vpos v h;omega
 have P0:(aP g).length<=50:=by have h1:=EE g;have h2:=oA g.es;omega
 have h1:gR ([]:TL)+(aP g).length*1200<=100000:=by have h0:gR ([]:TL)=0:=rfl;rw[h0,aBy];generalize (aP g).length=n at *;omega
 obtain⟨o,ho⟩:=SR hg hv hn he (aP g) [] (fun _ h=>h) h1;unfold iA;rw[ho,Option.bind_some];cases o with
 |none=>exact⟨none,rfl,fun m e=>by cases e⟩
 |some T=>
  obtain⟨Bs,hb,hd,ht⟩:=Ai g (aP g) [] T ho;have hS:Sys g Bs:=XE hg hv hb fun p hp=>by
   have hl:p.1∈aP g:=by rw[<- hb];exact aAt (f:=(·.1)) hp
   obtain⟨o,h1,h2⟩:=Lg hg oO oO oO hl;rw[hd p hp]at h1;injection h1 with h1;exact h2 p.2 h1.symm
  have hturn:∀ v,eH v T=jT g Bs v:=fun v=>by rw[ht v];rfl
  have u7:∀ v,(jT g Bs v).length<=100:=fun v=>by rw[(hS.turn_perm v).length_eq];have:=PN (Ei v) (SU v) g.es;show(g.es.flatMap (Ei v)).length<=100;omega
  simp only;rw[aAj fun v _=>by rw[hturn v];exact aBa (u7 v) oO];refine⟨_,rfl,fun m e=>⟨Bs,hS,hb,?_,u7⟩⟩;injection e with e;rw[<- e];show(⟨g,g.vs.map fun v=>nrm (eH v T)⟩:Mp)=_
  congr 1
  exact aAN fun v _=>by rw[hturn]
theorem SP{g:Gr}(hc:chk g=0)(hn:g.vs.length<=24)(he:g.es.length<=50):∃ o,iA g (aP g)=some o/\∀ m,o=some m->m.g=g/\Ev m=0/\m.rots.length=g.vs.length/\∀ t∈m.rots,t.length<=100:=by
 obtain⟨o,ho,hk⟩:=NP hc hn he;refine⟨o,ho,fun m e=>?_⟩;obtain⟨Bs,hS,hb,rfl,u7⟩:=hk m e;have hm:=hS.map_ok;have hgn:=hS.plane hb;have hr:xT (Ch g Bs)=0:=TJ hc hm.len fun k hk=>hm.ok k hk;refine⟨rfl,?_,sS,fun t ht=>?_⟩
 .unfold Ev;rw[aAa (fun k=>k hr),aAa (fun k=>k hgn)]
 .obtain⟨v,_,rfl⟩:=aAi.1 ht;rw[nX];exact u7 v
end Aw
namespace Aw
open Pl
theorem Qz{m:Mp}(h:Ev m=0):bS m/\gn m=0/\chk m.g=0:=by
 unfold Ev at h;by_cases h1:xT m=0
 .rw[aAa (fun k=>k h1)]at h;obtain⟨h2,h3⟩:=Og h1;exact⟨h3,oO,h2⟩
 .rw[aAj h1]at h;exact absurd h h1
end Aw
namespace Aw
open Go Go.RowKit Pl Eu
theorem VP{g:Gr}(hc:chk g=0):uY g.es:=
 uY.of (eT hc) fun v h=>by have:=(nP hc).vpos v h;omega
theorem RB{g:Gr}(hc:chk g=0)(hn:g.vs.length<=24)(he:g.es.length<=50):∃ o,iA g (aP g)=some o/\(o.isSome=true↔Pg g.es):=by
 obtain⟨o,ho,hk⟩:=SP hc hn he;have hv:∀ v∈g.vs,0<=v/\v<4194304:=fun v h=>by have:=(nP hc).vpos v h;omega
 refine⟨o,ho,fun h=>?_,fun h=>?_⟩
 .obtain⟨m,rfl⟩:=aDl.1 h;obtain⟨rfl,hr,_,_⟩:=hk m rfl;obtain⟨hm,hg,_⟩:=Qz hr;exact hm.pg hg hv
 .exact JV (fun l hl=>Ol (eT hc) oO oO oO hl (h.blk (eT hc) hv oO oO hl)) ho
end Aw
namespace Aw
open Go Go.RowKit Pl
theorem zP{g:Gr}(h:chk g=0){A:List Ed}(hA:A.Sublist g.es):chk ⟨g.vs,A⟩=0:=by have hG:=nP h;exact SF ⟨hG.rise,hG.vpos,hG.ids.sublist hA,fun x hx=>hG.pos x (hA.subset hx),fun x hx=>hG.ne x (hA.subset hx),fun x hx=>hG.ends x (hA.subset hx),hG.l1,aBa hA.length_le hG.l2⟩
theorem vI{g:Gr}(hc:chk g=0)(hn:g.vs.length<=24)(he:g.es.length<=50):∃ o,wY g=some o/\(o.isSome=true↔Pg g.es):=by obtain⟨o,h1,h2⟩:=RB hc hn he;exact⟨o,by unfold wY;rw[aAj hc];exact h1,h2⟩
theorem VS{g:Gr}(hc:chk g=0)(hn:g.vs.length<=24)(he:g.es.length<=50):dB g=true↔¬Pg g.es:=by obtain⟨o,h1,h2⟩:=vI hc hn he;unfold dB;rw[h1,<- h2];simp
theorem CJ{g:Gr}(hc:chk g=0)(hn:g.vs.length<=24)(he:g.es.length<=50):
 qU dB Mu g g.es/\(bV dB g g.es).es.Sublist g.es/\(dB g=true->¬Pg (bV dB g g.es).es)/\∀ x∈(bV dB g g.es).es,Pg ((bV dB g g.es).es.filter fun y=>decide (y≠x)):=by
 have pq:∀ A:List Ed,A.Sublist g.es->(dB ⟨g.vs,A⟩=true↔¬Pg A):=fun A hA=>VS (zP hc hA) hn (aBa hA.length_le he);have hm:∀ A B:List Ed,A.Sublist g.es->B.Sublist g.es->(∀ e∈A,e∈B)->dB ⟨g.vs,A⟩=true->dB ⟨g.vs,B⟩=true:=fun A B hA hB hs h=>by rw[pq _ hA]at h;rw[pq _ hB];exact fun k=>h (k.sub (VP (zP hc hA)) fun e he=>⟨e,hs e he,rfl⟩)
 obtain⟨h1,h2⟩:=nL dB g.es g;have hL:bV dB g g.es=⟨g.vs,(bV dB g g.es).es⟩:=by rw[<- h1]
 refine⟨Bt g.vs g.es (fun A hA=>?_) g.es g rfl (aCT _),h2,fun h=>?_,fun x hx=>?_⟩
 .obtain⟨o,h3,_⟩:=vI (zP hc hA) hn (aBa hA.length_le he);exact⟨by show g.vs.length<=1000;omega,by have:=hA.length_le;show A.length<=_;omega,o,h3⟩
 .have:=tW dB g.es g h;rw[hL]at this;exact(pq _ h2).1 this
 .have:=xO dB g.vs g.es hm g.es g rfl (aCT _) x (h2.subset hx) hx;have e:dW (bV dB g g.es) x=⟨g.vs,(bV dB g g.es).es.filter fun y=>decide (y≠x)⟩:=by unfold dW;rw[h1]
  rw[e]at this;have k:=pq _ (aAP.trans h2 (l₁:=(bV dB g g.es).es.filter fun y=>decide (y≠x)));rw[this]at k;exact aAG fun h=>absurd (k.2 h) sS
theorem Ml{g:Gr}(hc:chk g=0)(hn:g.vs.length<=14)(he:g.es.length<=30):∃(K:Gr) (ok:Bool) (og:Option Mp),oZ g=.tu [.ag (grL K),bb ok]/\wY g=some og/\K.vs.length<=1000/\K.es.length<=200/\
 (∀ x∈K.es,∃ m,wY ⟨K.vs,K.es.filter fun y=>decide (y.id≠x.id)⟩=some (some m))/\((ok=false/\og.isSome=true)\/(ok=true/\og=none/\wY K=some none)):=by
 obtain⟨o,ho,hoP⟩:=vI hc oO oO;obtain⟨_,h2,h3,h4⟩:=CJ hc oO oO;have x8:dB g=!o.isSome:=by unfold dB;rw[ho];rfl
 cases o with
 |some m=>refine⟨⟨[],[]⟩,false,some m,?_,ho,sS,sS,fun x hx=>(by cases hx),.inl ⟨rfl,rfl⟩⟩;unfold oZ;rw[x8];simp
 |none=>
  have hnt:dB g=true:=x8;have hL:bV dB g g.es=⟨g.vs,(bV dB g g.es).es⟩:=by rw[<- (nL dB g.es g).1]
  have hlen:=h2.length_le;have hk:=h3 hnt;generalize (bV dB g g.es).es=A at *;have hbc:=PM (nP hc) h2;have hbv:(lV ⟨g.vs,A⟩).vs.length<=14:=aBa (aAU _ _) hn;have Y2:(lV ⟨g.vs,A⟩).es=A:=rfl;refine⟨lV ⟨g.vs,A⟩,true,none,?_,ho,oO,by rw[Y2];omega,fun x hx=>?_,.inr ⟨rfl,rfl,?_⟩⟩
  .unfold oZ;rw[aAj ⟨hc,hnt⟩,hnt,hL,aBQ hc];rfl
  .rw[Y2]at hx ⊢;have hG:=nP hc;have e:A.filter (fun y=>decide (y.id≠x.id))=A.filter fun y=>decide (y≠x):=aDR fun y hy=>by
    have:y.id=x.id↔y=x:=⟨fun h=>by
     have hnd:g.es.Pairwise fun x y=>x.id<y.id:=hG.ids;rcases aDb.1 (h2.subset hy)with⟨i,hi,rfl⟩;rcases aDb.1 (h2.subset hx)with⟨j,hj,rfl⟩;rw[aAz]at hnd;rcases aCg i j with k|k|k
     .have:=hnd i j hi hj k;omega
     .subst k;rfl
     .have:=hnd j i hj hi k;omega,fun h=>by rw[h]⟩
    simp[this]
   rw[e];obtain⟨o,h5,h6⟩:=vI (g:=⟨(lV ⟨g.vs,A⟩).vs,A.filter fun y=>decide (y≠x)⟩) (zP (g:=lV ⟨g.vs,A⟩) hbc aAP) (by show(lV ⟨g.vs,A⟩).vs.length<=24;omega) (by have:=aAU (fun y:Ed=>decide (y≠x)) A;show(A.filter _).length<=50;omega);obtain⟨m,rfl⟩:=aDl.1 (h6.2 (h4 x hx));exact⟨m,h5⟩
  .obtain⟨o,h5,h6⟩:=vI hbc oO (by rw[Y2];omega);rw[Y2]at h6;cases o with
   |none=>exact h5
   |some m=>exact absurd (h6.1 rfl) hk
theorem Ts(g:Gr)(st:St):aB prog 13 [.ag (grL g)] st fun r st'=>r=i (chk g)/\aA st st':=by
 by_cases h1:(64:Int)<(g.vs.length:Int)
 .have:chk g=6:=by unfold chk;rw[aAj oO]
  refine zN func13 ntmps13 [.tmp 2] ?_;refine xw2 h1 this ?_;exact aA.new _ _
 by_cases h2:(160:Int)<(g.es.length:Int)
 .have:chk g=6:=by unfold chk;rw[aAj oO]
  refine zN func13 ntmps13 [.tmp 2] ?_;refine xw3 h1 h2 this ?_;exact aA.new _ _
 exact MY g st oO oO
theorem NR(x y:Ed)(q:Nat)(st:St)(hq:st.H q=.box 36 3 (edL x))(V6:q<st.next):
 aB prog 25 [.ag (edL y),.pt q 0] st fun r st'=>r=bb (decide (y.id≠x.id))/\aA st st':=by
 obtain⟨d,a,b⟩:=x;obtain⟨d',a',b'⟩:=y;have h1:¬q=st.next:=oO;refine zN func25 ntmps25 [.tmp 3] ?_;refine xw2 hq h1 ?_;exact⟨rfl,aA.new _ _⟩
theorem KuraLeast(g:Gr)(st:St):aB prog 5 [.ag (grL g)] st fun r st'=>r=bb true:=by
 refine zN func5 ntmps5 [.tmp 2] ?_;refine iF fun M3=>?_
 (refine xj0 ?_;intro J hJ)
 refine xcP (VQ _) ?_
 (refine mS hJ ?_;intro J hJ)
 refine qE (Ts g _) sS ?_;rintro r s1 ⟨rfl,c8⟩;have I7:=c8.next;simp only[aG]at I7;have V3:s1.H st.next=.box 25 2 (grL g):=by rw[c8.H _ sS];simp
 clear c8;by_cases hc:chk g=0;rotate_left
 .have hcb:(chk g != 0)=true:=by simpa using hc
  exact XU hJ hcb hc
 by_cases hv:(14:Int)<g.vs.length
 .exact E4 hJ hc V3 hv
 by_cases he:(30:Int)<g.es.length
 .exact B6 hJ hc V3 hv he
 obtain⟨K,ok,og,hF,ho,hKv,hKe,hK,Y1⟩:=Ml hc oO oO
 (refine Zq hJ hc V3 hv he ?_;intro J hJ)
 refine qE (SE g ⟨oO,oO,og,ho⟩ (fun _=>(CJ hc oO oO).1) _ oO) sS ?_;rintro r s2 ⟨rfl,o8⟩;rw[hF];have N8:=o8.next;have hG2:=(o8.H st.next oO).trans V3;have a2:¬st.next=s2.next:=oO;clear V3 o8;refine pD hJ hG2 a2 ?_;refine bD 32 31 33 41 (K.es.length) (fun j fr st2=>fr 1=.pt st.next 0/\fr 3=.pt s2.next 0/\fr 4=bb ok/\fr 30=.sl 0 K.es.length (eds K.es)/\st2.H st.next=.box 25 2 (grL g)/\st2.H s2.next=.box 25 2 (grL K)/\s2.next<st2.next) ?_ ?_ ?_
 .exact⟨sS,sS,sS,sS,sF2 a2 hG2,sS,sS⟩
 .rintro j fr s dG ⟨f1,f3,f4,f30,hG,hL,T0⟩ fi fn JO hJO;have hd:=aL K.es j dG;have hel:=aI K.es;have u5:j*3<K.es.length*3:=oO;have hxm:K.es.getD j ed0∈K.es:=by rw[aAg,aAh dG];exact aAI _
  obtain⟨m,hm⟩:=hK _ hxm;generalize K.es.getD j ed0=x at *;have b1:¬s2.next=s.next:=oO;have b2:¬st.next=s.next:=oO;have hTe:DV 25 [.pt s.next 0] (s.new (.box 36 3 (edL x))) K.es fun y=>decide (y.id≠x.id):=fun y _ s2 h2=>NR x y s.next s2 (by rw[h2.H _ sS];simp) (by have:=h2.next;simp at this;omega);have U4:=aAU (fun y:Ed=>decide (y.id≠x.id)) K.es;obtain⟨dx,ax,bx⟩:=x
  (refine Yh f1 f3 f30 fi fn hd hel dG u5 hL b1 ?_;intro J hJ)
  refine qE (GU K _ _ _ _ oO oO hTe) (by simp[grL]) ?_;rintro r s3 ⟨rfl,Q6⟩;have hn3:=Q6.next;simp only[aG]at hn3;have hG3:s3.H st.next=.box 25 2 (grL g):=by rw[Q6.H _ (by simp;omega)];simp[b2,hG]
  have hL3:s3.H s2.next=.box 25 2 (grL K):=by rw[Q6.H _ (by simp;omega)];simp[b1,hL]
  clear Q6 hL hG;refine dA hJ ?_;refine qE (rO ⟨K.vs,K.es.filter fun y=>decide (y.id≠dx)⟩ hKv (aBa U4 hKe) hm _) (by simp[grL]) ?_;rintro r s4 ⟨rfl,I3⟩;have hn4:=I3.next;have hG4:=(I3.H st.next oO).trans hG3;have hL4:=(I3.H s2.next oO).trans hL3;refine dA hJ ?_;exact hJO _ _ (sF1 fi) (sF1 fn) ⟨sF1 f1,sF1 f3,sF1 f4,sF1 f30,hG4,hL4,oO⟩
 .rintro fr s ⟨f1,f3,f4,f30,hG,hL,T0⟩;rcases Y1 with⟨rfl,h1⟩|⟨rfl,rfl,h1⟩
  ·(refine xj4 f1 f3 f4 hG ?_;intro J hJ)
   refine qE (rO g oO oO ho _) sS ?_;rintro r s5 ⟨rfl,hk5⟩;rw[h1];exact NL hJ f4
  ·(refine xj4 f1 f3 f4 hG ?_;intro J hJ)
   refine qE (rO g oO oO ho _) sS ?_;rintro r s5 ⟨rfl,hk5⟩;have hL5:=(hk5.H s2.next oO).trans hL;refine sL hJ f3 f4 hL5 ?_;refine qE (rO K hKv oO h1 _) sS ?_;rintro r s6 ⟨rfl,hk6⟩;exact OE hJ
theorem Cf(l0:List LV)(st:St)(h0:Shp tab 25 l0):aB prog 5 [NX tab 25 l0] st fun r st'=>r=bb true:=by obtain⟨g,rfl,_⟩:=WG h0;exact KuraLeast g st
end Aw
end Go.Proofs.YtbgngpdonpeboaaGreatDoor
