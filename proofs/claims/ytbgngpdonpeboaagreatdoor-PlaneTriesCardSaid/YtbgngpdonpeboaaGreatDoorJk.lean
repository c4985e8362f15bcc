/- Plain: a way laid through a ring of what lies in the plane: two rings; the sides. -/
import Derived.Test.YtbgngpdonpeboaaGreatDoorJj
set_option linter.unusedVariables false
set_option linter.unusedSimpArgs false
set_option linter.unusedSectionVars false
namespace Go.Proofs.YtbgngpdonpeboaaGreatDoor
namespace Aw
open Go Go.RowKit Pl Eu
section
variable {E:List Ed} {s:Int->Int} (hP:PlE E s) {A:List (Int×Int)} {F:List (List Int)} {x y:Int} {P Q M:List Int}
 (hE:Emb E s A ((x::(P++y::Q))::F)) (hw:WyE E ((x::(P++y::Q))::F) x y M) {u t:Int} (hu:(x,u)∈lnk (x::(M++[y]))) (ht:(t,y)∈lnk (x::(M++[y])))
include hP hE hw hu ht
theorem wV:∃ e∈E,prE e=unA (y,t):=by rw[show unA (y,t)=unA (t,y) from aI _ _];exact hw.ed t y ht
theorem LW:cd (x,u)∉flP (pls A):=fun k=>oL hE hw (.inl hu) ((hE.at_iff hP (p:=(x,u)) (hw.ed x u hu)).1 k)
theorem MN:cd (y,t)∉flP (pls A):=fun k=>oL hE hw (p:=(y,t)) (.inr ht) ((hE.at_iff hP (wV hP hE hw hu ht)).1 k)
theorem RJ(hT:SdT s A (x::(P++y::Q)) (cd (x,u))):∃ b,(x,b)∈lnk (x::(P++[y]))/\Nx s (flP (pls A)) (cd (x,u)) (cd (x,b)):=by
 obtain⟨p,hp,hx⟩:=hT;have hpF:p∈PF ((x::(P++y::Q))::F):=aX.2 ⟨_,aAf,hp⟩;have h1:x=p.1:=(hP.orb (p:=(x,u)) (hw.ed x u hu) (hE.sub hpF)).1 hx.orb;obtain⟨r1,r2,r3,r4,r5,r6,r7⟩:=uU hE hw;have h2:p=(x,p.2):=aCe h1.symm rfl;refine⟨p.2,?_,h2 ▸ hx⟩;rw[cC]at hp;rcases hp with h|h
 .rw[<- h2];exact h
 .have:=eX (y:=x) (l:=y::Q) (a:=p.1) (b:=p.2) h;rw[<- h1]at this;rcases aAe.1 this with k|k
  .exact absurd k (BV hE hw).2.2
  .exact absurd k r3
theorem Sn(hT:SdT s A (x::(P++y::Q)) (cd (x,u))):∃ b,(y,b)∈lnk (y::(Q++[x]))/\Nx s (flP (pls A)) (cd (y,t)) (cd (y,b)):=by
 obtain⟨p,hp,hx⟩:=hE.wayT hP hw hu ht aAf hT;have hpF:p∈PF ((x::(P++y::Q))::F):=aX.2 ⟨_,aAf,hp⟩;have h1:y=p.1:=(hP.orb (p:=(y,t)) (wV hP hE hw hu ht) (hE.sub hpF)).1 hx.orb;obtain⟨r1,r2,r3,r4,r5,r6,r7⟩:=uU hE hw;have h2:p=(y,p.2):=aCe h1.symm rfl;refine⟨p.2,?_,h2 ▸ hx⟩;rw[cC]at hp;rcases hp with h|h
 .have:=eX (y:=y) (l:=x::P) (a:=p.1) (b:=p.2) h;rw[<- h1]at this;rcases aAe.1 this with k|k
  .exact absurd k.symm (BV hE hw).2.2
  .exact absurd k r2
 .rw[<- h2];exact h
variable {bx by':Int} (hbx:(x,bx)∈lnk (x::(P++[y]))) (X5:(y,by')∈lnk (y::(Q++[x]))) (hx:Nx s (flP (pls A)) (cd (x,u)) (cd (x,bx))) (hy:Nx s (flP (pls A)) (cd (y,t)) (cd (y,by')))
include hbx X5 hx hy
theorem WM:(x,bx)∈PF ((x::(P++y::Q))::F)/\(y,by')∈PF ((x::(P++y::Q))::F):=
 ⟨aX.2 ⟨_,aAf,cC.2 (.inl hbx)⟩,aX.2 ⟨_,aAf,cC.2 (.inr X5)⟩⟩
theorem WC{r:List Int}(hr:r∈(x::(P++y::Q))::F){a v b:Int}(h1:(a,v)∈prs r)(h2:(v,b)∈prs r)(nx:(v,b)≠(x,bx))(ny:(v,b)≠(y,by')):
 Nx s (flP (pls (lnk (x::(M++[y]))++A))) (s (cd (v,a))) (cd (v,b)):=by
 have h0:=hE.step r hr a v b h1 h2;have hva:(v,a)∈PF ((x::(P++y::Q))::F):=hE.swap (aX.2 ⟨r,hr,h1⟩);have hvb:(v,b)∈PF ((x::(P++y::Q))::F):=aX.2 ⟨r,hr,h2⟩;have eva:=hE.sub hva;obtain⟨b1,b2⟩:=WM hP hE hw hu ht hbx X5 hx hy;by_cases hv:v∈x::(M++[y])
 .rcases aAe.1 hv with rfl|hv
  .exact Nx.add_other hP.per (MH hP hE hw hu ht) (LW hP hE hw hu ht) hx ((hP.orb (p:=(v,u)) (hw.ed v u hu) eva).2 rfl) h0 fun e=>nx (hP.cdin (hE.sub hvb) (hE.sub b1) e)
  .rcases aAd.1 hv with hv|hv
   .exact absurd hva (hw.off v hv a)
   .have:=aAk.1 hv;subst this;exact Nx.add_other hP.per (Kw hP hE hw hu ht) (MN hP hE hw hu ht) hy ((hP.orb (wV hP hE hw hu ht) eva).2 rfl) h0 fun e=>ny (hP.cdin (hE.sub hvb) (hE.sub b2) e)
 .exact h0.same fun z hz=>HY hP hE hw hu ht (p:=(v,a)) eva hv z ((Orb.step s _).trans hz)
theorem Sv{r:List Int}(hr:r∈(x::(P++y::M.reverse))::(y::(Q++x::M))::F){a v b:Int}(h1:(a,v)∈prs r)(h2:(v,b)∈prs r):
 Nx s (flP (pls (lnk (x::(M++[y]))++A))) (s (cd (v,a))) (cd (v,b)):=by
 obtain⟨b1,b2⟩:=WM hP hE hw hu ht hbx X5 hx hy;obtain⟨r1,r2,r3,r4,r5,r6,r7⟩:=uU hE hw;obtain⟨m1,m2,m3⟩:=BV hE hw;have o6:=fun v=>FO hE hw (v:=v);have inr0:x::(P++y::Q)∈(x::(P++y::Q))::F:=aAf;have old:=fun(r:List Int) hr a v b h1 h2=>WC hP hE hw hu ht hbx X5 hx hy (r:=r) hr (a:=a) (v:=v) (b:=b) h1 h2;have nxd:=LW hP hE hw hu ht;have nyd:=MN hP hE hw hu ht
 have toX:∀ a,(a,x)∈PF ((x::(P++y::Q))::F)->(a,x)∈prs (x::(P++y::Q))->Nx s (flP (pls (lnk (x::(M++[y]))++A))) (s (cd (x,a))) (cd (x,u)):=fun a k1 k2=>
  Nx.add_at hP.per (MH hP hE hw hu ht) nxd hx (hE.dart.2 ⟨_,hE.swap k1,rfl⟩) ((hP.orb (p:=(x,u)) (hw.ed x u hu) (hE.sub (hE.swap k1))).2 rfl) (hE.step _ inr0 a x bx k2 (cC.2 (.inl hbx)))
 have toY:∀ a,(a,y)∈PF ((x::(P++y::Q))::F)->(a,y)∈prs (x::(P++y::Q))->Nx s (flP (pls (lnk (x::(M++[y]))++A))) (s (cd (y,a))) (cd (y,t)):=fun a k1 k2=>
  Nx.add_at hP.per (Kw hP hE hw hu ht) nyd hy (hE.dart.2 ⟨_,hE.swap k1,rfl⟩) ((hP.orb (wV hP hE hw hu ht) (hE.sub (hE.swap k1))).2 rfl) (hE.step _ inr0 a y by' k2 (cC.2 (.inr X5)))
 have ofX:=Nx.add_of hP.per (MH hP hE hw hu ht) nxd hx;have ofY:=Nx.add_of hP.per (Kw hP hE hw hu ht) nyd hy;rcases aAe.1 hr with rfl|hr
 .rw[cC]at h1 h2;rcases h1 with h1|h1
  .have v1:=jE h1;rcases h2 with h2|h2
   .have v2:=eX (y:=y) (l:=x::P) h2;refine old _ inr0 a v b (cC.2 (.inl h1)) (cC.2 (.inl h2)) (fun e=>?_) fun e=>?_
    .have e:v=x:=congrArg Prod.fst e;subst e;rcases aAd.1 v1 with k|k
     .exact r1 k
     .exact m3 (aAk.1 k)
    .have e:v=y:=congrArg Prod.fst e;subst e;rcases aAe.1 v2 with k|k
     .exact m3 k.symm
     .exact r2 k
   .have h2':=oI.1 h2;have v2:=jE h2';have hvy:v=y:=by
     rcases aAd.1 v2 with k|k
     .rcases aAd.1 v1 with k'|k'
      .exact absurd (aAc _ (aAr _ k')) (o6 v k)
      .exact aAk.1 k'
     .exact aAk.1 k
    subst hvy;rw[xE hw.nd h2' ht];exact toY a (aX.2 ⟨_,inr0,cC.2 (.inl h1)⟩) (cC.2 (.inl h1))
  .have h1':=oI.1 h1;rcases h2 with h2|h2
   .have v1:=eX (y:=y) (l:=x::M) h1';have v2:=eX (y:=y) (l:=x::P) h2;have hvx:v=x:=by
     rcases aAe.1 v1 with k|k
     .exact k
     .rcases aAe.1 v2 with k'|k'
      .exact k'
      .exact absurd (aAc _ (aAr _ k')) (o6 v k)
    subst hvx;rw[fG hw.nd h1' hu,fG r6 h2 hbx];exact ofX
   .have h2':=oI.1 h2;have v1:=eX (y:=y) (l:=x::M) h1';have v2:=jE h2';have hv:v∈M:=by
     rcases aAe.1 v1 with k|k
     .subst k;rcases aAd.1 v2 with k'|k'
      .exact k'
      .exact absurd (aAk.1 k') m3
     .exact k
    exact MR hP hE hw hu ht hv (.inr ⟨h1',h2'⟩)
 rcases aAe.1 hr with rfl|hr
 .rw[cC]at h1 h2;rcases h1 with h1|h1
  .have v1:=jE h1;rcases h2 with h2|h2
   .have v2:=eX (y:=x) (l:=y::Q) h2;refine old _ inr0 a v b (cC.2 (.inr h1)) (cC.2 (.inr h2)) (fun e=>?_) fun e=>?_
    .have e:v=x:=congrArg Prod.fst e;subst e;rcases aAe.1 v2 with k|k
     .exact m3 k
     .exact r3 k
    .have e:v=y:=congrArg Prod.fst e;subst e;rcases aAd.1 v1 with k|k
     .exact r4 k
     .exact m3 (aAk.1 k).symm
   .have v2:=eX (y:=y) (l:=x::M) h2;have hvx:v=x:=by
     rcases aAe.1 v2 with k|k
     .exact k
     .rcases aAd.1 v1 with k'|k'
      .exact absurd (aAc _ (aAx _ (aAc _ k'))) (o6 v k)
      .exact aAk.1 k'
    subst hvx;rw[fG hw.nd h2 hu];exact toX a (aX.2 ⟨_,inr0,cC.2 (.inr h1)⟩) (cC.2 (.inr h1))
  .have v1:=jE h1;rcases h2 with h2|h2
   .have v2:=eX (y:=x) (l:=y::Q) h2;have hvy:v=y:=by
     rcases aAd.1 v1 with k|k
     .rcases aAe.1 v2 with k'|k'
      .exact k'
      .exact absurd (aAc _ (aAx _ (aAc _ k'))) (o6 v k)
     .exact aAk.1 k
    subst hvy;rw[xE hw.nd h1 ht,fG r7 h2 X5];exact ofY
   .have v2:=eX (y:=y) (l:=x::M) h2;have hv:v∈M:=by
     rcases aAe.1 v2 with k|k
     .subst k;rcases aAd.1 v1 with k'|k'
      .exact k'
      .exact absurd (aAk.1 k') m3
     .exact k
    exact MR hP hE hw hu ht hv (.inl ⟨h1,h2⟩)
 .have hn:=hE.nd;have hn:(prs (x::(P++y::Q))++PF F).Nodup:=hn;have hd:=(aAo.1 hn).2.2;refine old r (aAc _ hr) a v b h1 h2 (fun e=>?_) fun e=>?_
  .exact hd (x,bx) (cC.2 (.inl hbx)) (x,bx) (aX.2 ⟨r,hr,e ▸ h2⟩) rfl
  .exact hd (y,by') (cC.2 (.inr X5)) (y,by') (aX.2 ⟨r,hr,e ▸ h2⟩) rfl
end
section
variable {E:List Ed} {s:Int->Int} (hP:PlE E s) {A:List (Int×Int)} {F:List (List Int)} {x y:Int} {P Q M:List Int}
 (hE:Emb E s A ((x::(P++y::Q))::F)) (hw:WyE E ((x::(P++y::Q))::F) x y M) {u t:Int} (hu:(x,u)∈lnk (x::(M++[y]))) (ht:(t,y)∈lnk (x::(M++[y])))
 (hT:SdT s A (x::(P++y::Q)) (cd (x,u)))
include hP hE hw hu ht hT
theorem Emb.lay:Emb E s (lnk (x::(M++[y]))++A) ((x::(P++y::M.reverse))::(y::(Q++x::M))::F):=by
 obtain⟨bx,hbx,hx⟩:=RJ hP hE hw hu ht hT;obtain⟨by',X5,hy⟩:=Sn hP hE hw hu ht hT;obtain⟨r1,r2,r3,r4,r5,r6,r7⟩:=uU hE hw;have hM:M.Nodup:=(aAo.1 (aAq.1 hw.nd).2).1;refine⟨hE.arcs_way hw,Wd hE hw,fun r hr=>?_,fun p=>?_,fun r hr a v b h1 h2=>Sv hP hE hw hu ht hbx X5 hx hy hr h1 h2,?_⟩
 .rcases aAe.1 hr with rfl|hr
  .have e:x::(P++y::M.reverse)=(x::(P++[y]))++M.reverse:=sS;rw[e,aAo];refine⟨r6,(aBq M).nodup_iff.2 hM,fun a ha b hb e=>?_⟩;subst e;refine FO hE hw (aBm.1 hb) ?_;rcases aAe.1 ha with k|k
   .rw[k];exact aAf
   .refine aAc _ ?_;rcases aAd.1 k with k|k
    .exact aAr _ k
    .rw[aAk.1 k];simp
  rcases aAe.1 hr with rfl|hr
  .have e:y::(Q++x::M)=(y::(Q++[x]))++M:=sS;rw[e,aAo];refine⟨r7,hM,fun a ha b hb e=>?_⟩;subst e;refine FO hE hw hb ?_;rcases aAe.1 ha with k|k
   .rw[k];simp
   .rcases aAd.1 k with k|k
    .exact aAc _ (aAx _ (aAc _ k))
    .rw[aAk.1 k];exact aAf
  .exact hE.simple r (aAc _ hr)
 .rw[AW hE hw,hE.mem,aAd,aAd];constructor
  .rintro((h|h)|h|h)
   .exact .inl (.inr h)
   .exact .inr (.inr h)
   .exact .inl (.inl h)
   .exact .inr (.inl h)
  .rintro((h|h)|h|h)
   .exact .inr (.inl h)
   .exact .inl (.inl h)
   .exact .inr (.inr h)
   .exact .inl (.inr h)
 .have hR:=dR hP.per.eqv (pls (lnk (x::(M++[y]))++A));have key:∀ z∈flP (pls (lnk (x::(M++[y]))++A)),mgP (Orb s) (pls (lnk (x::(M++[y]))++A)) (cd (x,u)) z:=by
   have hwl:∀ p∈lnk (x::(M++[y])),mgP (Orb s) (pls (lnk (x::(M++[y]))++A)) (cd (x,u)) (cd p):=by
    intro p hp;obtain⟨a,L,hL⟩:∃ a L,lnk (x::(M++[y]))=(x,a)::L:=by
     cases M with
     |nil=>exact⟨y,[],rfl⟩
     |cons m M=>exact⟨m,_,rfl⟩
    have hau:a=u:=fG hw.nd (by rw[hL];exact aAf) hu;subst hau;have hway:=hP.way (w:=x::(M++[y])) hw.ed;have e:pls (lnk (x::(M++[y])))=(cd (x,a),cd (x,a).swap)::pls L:=by rw[hL];rfl
    rw[e]at hway;refine AE hR (fun _ _ k=>fZ _ k) hway (fun q hq=>jV hP.per.eqv _ ?_) (cd p,cd p.swap) ?_
    .rw[<- e]at hq;obtain⟨p,hp,rfl⟩:=aAi.1 hq;exact aAi.2 ⟨p,aAr _ hp,rfl⟩
    .rw[<- e];exact aAi.2 ⟨p,hp,rfl⟩
   intro z hz;obtain⟨p,hp,rfl⟩:=eV.1 hz;have h4:p∈PF ((x::(P++y::Q))::F)\/p∈lnk (x::(M++[y]))\/p.swap∈lnk (x::(M++[y])):=by
    rw[hE.mem];simp only[aAd]at hp;rcases hp with(k|k)|k|k
    .exact .inr (.inl k)
    .exact .inl (.inl k)
    .exact .inr (.inr k)
    .exact .inl (.inr k)
   rcases h4 with k|k|k
   .obtain⟨ux,hux⟩:=hw.onx;have h1:Orb s (cd (x,u)) (cd (x,ux)):=(hP.orb (p:=(x,u)) (hw.ed x u hu) (hE.sub hux)).2 rfl;have h2:=hE.con _ (hE.dart.2 ⟨_,hux,rfl⟩) _ (hE.dart.2 ⟨_,k,rfl⟩)
    exact hR.trans (fZ _ h1) (zU hP.per.eqv (fun q hq=>by
     obtain⟨q,h,rfl⟩:=aAi.1 hq
     exact aAi.2 ⟨q,aAx _ h,rfl⟩) h2)
   .exact hwl p k
   .refine hR.trans (hwl _ k) (hR.symm ?_);have:=jV hP.per.eqv (pls (lnk (x::(M++[y]))++A)) (p:=(cd p.swap,cd p)) (aAi.2 ⟨p.swap,aAr _ k,by rw[aBN]⟩);exact hR.symm this
  exact fun a ha b hb=>hR.trans (hR.symm (key a ha)) (key b hb)
theorem Emb.lay_side{p:Int×Int}(hp:∃ e∈E,prE e=unA p){v0:Int}(hv0:(p.1,v0)∈PF ((x::(P++y::Q))::F)){r:List Int}(hr:r∈(x::(P++y::M.reverse))::(y::(Q++x::M))::F)
 (h:SdT s (lnk (x::(M++[y]))++A) r (cd p)):(r∈F/\SdT s A r (cd p))\/((r=x::(P++y::M.reverse)\/r=y::(Q++x::M))/\SdT s A (x::(P++y::Q)) (cd p)):=by
 obtain⟨bx,hbx,hx⟩:=RJ hP hE hw hu ht hT;obtain⟨by',X5,hy⟩:=Sn hP hE hw hu ht hT;obtain⟨q,hq,hn⟩:=h;have hqn:q∈PF ((x::(P++y::M.reverse))::(y::(Q++x::M))::F):=aX.2 ⟨r,hr,hq⟩;have hqe:=BZ hP hE hw hu ht ((AW hE hw q).1 hqn);have hb:=(hP.orb hp hqe).1 hn.orb;have old:∀ q,q∈prs r->q∈PF ((x::(P++y::Q))::F)->Nx s (flP (pls A)) (cd p) (cd q)->(r∈F/\SdT s A r (cd p))\/((r=x::(P++y::M.reverse)\/r=y::(Q++x::M))/\SdT s A (x::(P++y::Q)) (cd p)):=by
  intro q hq hqo hn;rcases aAe.1 hr with e|hr
  .refine .inr ⟨.inl e,q,?_,hn⟩;rw[e,cC]at hq;rw[cC];rcases hq with k|k
   .exact .inl k
   .exact absurd hqo (oL hE hw (.inr (oI (a:=q.1) (b:=q.2).1 k)))
  rcases aAe.1 hr with e|hr
  .refine .inr ⟨.inr e,q,?_,hn⟩;rw[e,cC]at hq;rw[cC];rcases hq with k|k
   .exact .inr k
   .exact absurd hqo (oL hE hw (.inl k))
  .exact .inl ⟨hr,q,hq,hn⟩
 have inr0:x::(P++y::Q)∈(x::(P++y::Q))::F:=aAf;have notF:∀ q,q∈prs r->q∉PF ((x::(P++y::Q))::F)->r=x::(P++y::M.reverse)\/r=y::(Q++x::M):=by
  intro q hq x9;rcases aAe.1 hr with e|hr
  .exact .inl e
  rcases aAe.1 hr with e|hr
  .exact .inr e
  .exact absurd (aX.2 ⟨r,aAc _ hr,hq⟩) x9
 by_cases hv:p.1∈x::(M++[y])
 .rcases aAe.1 hv with hv|hv
  .have ho:Orb s (cd (x,u)) (cd p):=(hP.orb (p:=(x,u)) (hw.ed x u hu) hp).2 hv.symm;rcases Nx.back (MH hP hE hw hu ht) hx ho hn with⟨e,k⟩|⟨e,k⟩
   .have e:q=(x,u):=hP.cdin hqe (hw.ed x u hu) e;exact .inr ⟨notF q hq (by rw[e];exact oL hE hw (.inl hu)),(x,bx),cC.2 (.inl hbx),k⟩
   .exact old q hq ((hE.at_iff hP hqe).1 k.mem) k
  .rcases aAd.1 hv with hv|hv
   .exact absurd hv0 (hw.off _ hv v0)
   .have hv:=aAk.1 hv;have ho:Orb s (cd (y,t)) (cd p):=(hP.orb (wV hP hE hw hu ht) hp).2 hv.symm;rcases Nx.back (Kw hP hE hw hu ht) hy ho hn with⟨e,k⟩|⟨e,k⟩
    .have e:q=(y,t):=hP.cdin hqe (wV hP hE hw hu ht) e;exact .inr ⟨notF q hq (by rw[e];exact oL hE hw (p:=(y,t)) (.inr ht)),(y,by'),cC.2 (.inr X5),k⟩
    .exact old q hq ((hE.at_iff hP hqe).1 k.mem) k
 .have hs:=HY hP hE hw hu ht hp hv;have k:Nx s (flP (pls A)) (cd p) (cd q):=hn.same fun z hz=>(hs z hz).symm;exact old q hq ((hE.at_iff hP hqe).1 k.mem) k
end
theorem Sf(x:Int):∀ l:List Int,(prs (x::l)).Perm (prs (l++[x]))
 |[]=>.refl _
 |y::l=>by
  have e1:prs (x::y::l)=(x,y)::lnk (y::(l++[x])):=by unfold prs;simp[lnk]
  have e2:prs (y::l++[x])=lnk ((y::l)++x::[y]):=by unfold prs;simp
  rw[e1,e2,fA];refine List.perm_cons_append_cons (l₂:=[]) _ ?_;simp
theorem sQ:∀ a b:List Int,(prs (a++b)).Perm (prs (b++a))
 |[],b=>by simp
 |x::a,b=>by have h1:=Sf x (a++b);have h2:=sQ a (b++[x]);rw[aAF]at h1;have e:b++[x]++a=b++x::a:=sS;rw[e]at h2;exact h1.trans h2
theorem SdT.turn{s:Int->Int}{A:List (Int×Int)}{r r':List Int}(hp:(prs r).Perm (prs r')){d:Int}(h:SdT s A r d):SdT s A r' d:=by obtain⟨p,h1,h2⟩:=h;exact⟨p,hp.mem_iff.1 h1,h2⟩
section
variable {E:List Ed} {s:Int->Int} {A:List (Int×Int)} {F F':List (List Int)}
theorem Emb.permF(hE:Emb E s A F)(hp:F.Perm F'):Emb E s A F':=by have hf:(PF F).Perm (PF F'):=hp.flatMap_right _;exact⟨hE.oG,hf.nodup_iff.1 hE.nd,fun r hr=>hE.simple r (hp.mem_iff.2 hr),fun p=>by rw[<- hf.mem_iff];exact hE.mem p,fun r hr=>hE.step r (hp.mem_iff.2 hr),hE.con⟩
theorem Emb.turn{a b:List Int}(hE:Emb E s A ((a++b)::F)):Emb E s A ((b++a)::F):=by
 have hr:=sQ a b;have hf:(PF ((a++b)::F)).Perm (PF ((b++a)::F)):=hr.append_right _;refine⟨hE.oG,hf.nodup_iff.1 hE.nd,fun r h=>?_,fun p=>by rw[<- hf.mem_iff];exact hE.mem p,fun r h u v w h1 h2=>?_,hE.con⟩
 .rcases aAe.1 h with rfl|h
  .exact(aBj (l₁:=a) (l₂:=b)).nodup_iff.1 (hE.simple _ aAf)
  .exact hE.simple r (aAc _ h)
 .rcases aAe.1 h with rfl|h
  .exact hE.step _ aAf u v w (hr.mem_iff.2 h1) (hr.mem_iff.2 h2)
  .exact hE.step r (aAc _ h) u v w h1 h2
theorem Wy{r:List Int}{x y:Int}(hx:x∈r)(hy:y∈r)(L7:x≠y):∃ a b P Q,r=a++b/\b++a=x::(P++y::Q):=by
 obtain⟨a,b,rfl⟩:=aBb hx;refine⟨a,x::b,?_⟩;have:y∈b++a:=by
  rw[aAd,aAe]at hy;rw[aAd];rcases hy with h|h|h
  .exact .inr h
  .exact absurd h.symm L7
  .exact .inl h
 obtain⟨P,Q,h⟩:=aBb this;exact⟨P,Q,rfl,by rw[<- h];rfl⟩
theorem Emb.norm(hE:Emb E s A F){r:List Int}(hr:r∈F){x y:Int}(hx:x∈r)(hy:y∈r)(L7:x≠y):∃ a b P Q F',r=a++b/\b++a=x::(P++y::Q)/\F.Perm (r::F')/\Emb E s A ((x::(P++y::Q))::F'):=by obtain⟨a,b,P,Q,h1,h2⟩:=Wy hx hy L7;obtain⟨F1,F2,rfl⟩:=aBb hr;refine⟨a,b,P,Q,F1++F2,h1,h2,aBE,?_⟩;have:=hE.permF (F':=(a++b)::(F1++F2)) (by rw[<- h1];exact aBE);rw[<- h2];exact this.turn
end
structure Rng(E:List Ed)(x y:Int)(M:List Int):Prop where
 nd:(x::(M++[y])).Nodup
 ne:M≠[]
 ed:∀ u v,(u,v)∈prs (x::(M++[y]))->∃ e∈E,prE e=prP u v
theorem kP{x y:Int}{M:List Int}{p:Int×Int}:p∈prs (x::(M++[y]))↔p∈lnk (x::(M++[y]))\/p=(y,x):=by have:=cC (x:=x) (y:=y) (P:=M) (Q:=[]) (p:=p);rw[this];simp[lnk]
section
variable {E:List Ed} {x y:Int} {M:List Int} (h:Rng E x y M)
include h
theorem Rng.off:x∉M/\y∉M/\x≠y:=by obtain⟨h1,h2⟩:=aAq.1 h.nd;exact⟨fun k=>h1 (aAr _ k),fun k=>(aAo.1 h2).2.2 y k y sS rfl,fun e=>h1 (by rw[e];simp)⟩
theorem Rng.rev:Rng E y x M.reverse:=by
 have e:y::(M.reverse++[x])=(x::(M++[y])).reverse:=sS;refine⟨by rw[e];exact(aBq _).nodup_iff.2 h.nd,by simpa using h.ne,fun u v k=>?_⟩;rw[kP]at k;rw[aI];refine h.ed v u (kP.2 ?_);rcases k with k|k
 .exact .inl (oI.1 k)
 .injection k with k1 k2;exact .inr (by rw[k1,k2])
theorem Rng.swap(p:Int×Int):p∈prs (y::(M.reverse++[x]))↔p.swap∈prs (x::(M++[y])):=by rw[kP,kP,show(p∈lnk (y::(M.reverse++[x]))↔p.swap∈lnk (x::(M++[y]))) from oI (a:=p.1) (b:=p.2)];refine or_congr aEL ⟨fun e=>by rw[e];rfl,fun e=>?_⟩;rw[<- aBN p,e];rfl
theorem Rng.fn{a b b':Int}(h1:(a,b)∈prs (x::(M++[y])))(h2:(a,b')∈prs (x::(M++[y]))):b=b':=by
 obtain⟨n1,n2,n3⟩:=h.off;have no:∀ b,(y,b)∉lnk (x::(M++[y])):=fun b k=>by
  have:=eX (y:=y) (l:=x::M) k;rcases aAe.1 this with k|k
  .exact n3 k.symm
  .exact n2 k
 rw[kP]at h1 h2;rcases h1 with h1|h1
 .rcases h2 with h2|h2
  .exact fG h.nd h1 h2
  .injection h2 with e1 e2;subst e1;exact absurd h1 (no b)
 .injection h1 with e1 e2;subst e1;rcases h2 with h2|h2
  .exact absurd h2 (no b')
  .injection h2 with _ e3;rw[e2,e3]
theorem Rng.oG:gF E (prs (x::(M++[y]))):=by
 obtain⟨n1,n2,n3⟩:=h.off;have e:prs (x::(M++[y]))=lnk (x::(M++[y]))++[(y,x)]:=by unfold prs;have:x::(M++[y])++(x::(M++[y])).take 1=(x::M)++y::[x]:=sS;rw[this,fA];rfl
 refine⟨fun p hp=>h.ed p.1 p.2 hp,?_⟩;rw[e,aAv,aAo];have hw:=fE h.nd;rw[eC]at hw;refine⟨hw,sS,fun a ha b hb ee=>?_⟩;obtain⟨p,hp,rfl⟩:=aAi.1 ha;have hb:b=unA (y,x):=by simpa using hb
 rw[hb]at ee;rcases bG ee with⟨k1,k2⟩|⟨k1,k2⟩
 .have k1:p.1=y:=k1;have:=eX (y:=y) (l:=x::M) (a:=p.1) (b:=p.2) hp;rw[k1]at this;rcases aAe.1 this with k|k
  .exact n3 k.symm
  .exact n2 k
 .have k1:p.1=x:=k1;have k2:p.2=y:=k2;have hp:(x,y)∈lnk (x::(M++[y])):=by rw[<- k1,<- k2]at hp ⊢;exact hp
  cases hM:M with
  |nil=>exact h.ne hM
  |cons m M'=>subst hM;have:=fG h.nd hp (b':=m) (by simp[lnk]);exact n2 (by rw[this];exact aAf)
end
theorem OE{E:List Ed}{s:Int->Int}(hP:PlE E s){S:List Int}{v a b:Int}(ea:∃ e∈E,prE e=unA (v,a))(eb:∃ e∈E,prE e=unA (v,b))(x8:a≠b)(ib:cd (v,b)∈S)
 (hS:∀ z∈S,∃ q,(∃ e∈E,prE e=unA q)/\z=cd q/\(q.1=v->q.2=a\/q.2=b)):Nx s S (s (cd (v,a))) (cd (v,b)):=by
 have oab:Orb s (cd (v,a)) (cd (v,b)):=(hP.orb ea eb).2 rfl;have oa:Orb s (s (cd (v,a))) (cd (v,b)):=(Orb.symm hP.per (Orb.step s _)).trans oab;obtain⟨f,hf⟩:=Nx.ex oa ib;obtain⟨q,hqe,rfl,hq⟩:=hS f hf.mem;have hqv:v=q.1:=(hP.orb (p:=(v,a)) ea hqe).1 ((Orb.step s _).trans hf.orb);rcases hq hqv.symm with h|h
 .have e:q=(v,a):=aCe hqv.symm h;rw[e]at hf;have:=hf.loop ib oab;exact absurd (congrArg Prod.snd (hP.cdin eb ea this)).symm x8
 .have e:q=(v,b):=aCe hqv.symm h;rw[<- e];exact hf
section
variable {E:List Ed} {s:Int->Int} (hP:PlE E s) {x y:Int} {M:List Int} (h:Rng E x y M)
include hP h
theorem Rng.step{A:List (Int×Int)}(hA:∀ p,(p∈A\/p.swap∈A)↔p∈prs (x::(M++[y]))\/p.swap∈prs (x::(M++[y]))){u v w:Int}(h1:(u,v)∈prs (x::(M++[y])))(h2:(v,w)∈prs (x::(M++[y]))):
 Nx s (flP (pls A)) (s (cd (v,u))) (cd (v,w)):=by
 have e1:∃ e∈E,prE e=unA (v,u):=by rw[show unA (v,u)=prP u v from aI _ _];exact h.ed u v h1
 have e2:∃ e∈E,prE e=unA (v,w):=h.ed v w h2;refine OE hP e1 e2 (fun e=>?_) (eV.2 ⟨(v,w),(hA _).2 (.inl h2),rfl⟩) fun z hz=>?_
 ·
  subst e;have hA2:=h.oG;have c7:=(hP.arc_bd e2).2.2;have:=rL hA2.nd h1 h2 (aI u v);injection this with k1 k2;exact c7 k2
 .obtain⟨q,hq,rfl⟩:=eV.1 hz;have hq:=(hA q).1 hq;have hqe:∃ e∈E,prE e=unA q:=by
   rcases hq with k|k
   .exact h.ed q.1 q.2 k
   .rw[<- fS];exact h.ed q.2 q.1 k
  refine⟨q,hqe,rfl,fun hv=>?_⟩;rcases hq with k|k
  .have k:(v,q.2)∈prs (x::(M++[y])):=by rw[<- hv];exact k
   exact .inr (h.fn k h2)
  .have k:(q.2,v)∈prs (x::(M++[y])):=by rw[<- hv];exact k
   have k':=(h.swap (v,q.2)).2 k;have k'':=(h.swap (v,u)).2 h1;exact .inl (h.rev.fn k' k'')
theorem Rng.emb:Emb E s (prs (x::(M++[y]))) [x::(M++[y]),y::(M.reverse++[x])]:=by
 have hA:=h.oG;have hPF:PF [x::(M++[y]),y::(M.reverse++[x])]=prs (x::(M++[y]))++prs (y::(M.reverse++[x])):=by unfold PF;simp
 have N5:∀ p,p∈PF [x::(M++[y]),y::(M.reverse++[x])]↔p∈prs (x::(M++[y]))\/p.swap∈prs (x::(M++[y])):=fun p=>by rw[hPF,aAd,h.swap]
 refine⟨hA,?_,fun r hr=>?_,N5,fun r hr u v w h1 h2=>?_,?_⟩
 .rw[hPF,aAo];refine⟨gU unA hA.nd,gU unA h.rev.oG.nd,fun a ha b hb e=>?_⟩;subst e;have hb:=(h.swap a).1 hb;have e:=rL hA.nd ha hb (fS a).symm;exact(hP.arc_bd (hA.mem a ha)).2.2 (congrArg Prod.fst e)
 .rcases aAe.1 hr with rfl|hr
  .exact h.nd
  .rw[aAk.1 hr];exact h.rev.nd
 .rcases aAe.1 hr with rfl|hr
  .exact h.step hP (fun p=>aEL) h1 h2
  .rw[aAk.1 hr]at h1 h2;refine h.rev.step hP (fun p=>?_) h1 h2;rw[h.swap,h.swap,aBN];exact Or.comm
 .have hR:=dR hP.per.eqv (pls (prs (x::(M++[y]))));obtain⟨m,M',hM⟩:=aBy h.ne;have hxm:(x,m)∈prs (x::(M++[y])):=kP.2 (.inl (by rw[hM];simp[lnk]))
  have W9:∀ p∈prs (x::(M++[y])),mgP (Orb s) (pls (prs (x::(M++[y])))) (cd p) (cd p.swap):=fun p hp=>
   jV hP.per.eqv _ (p:=(cd p,cd p.swap)) (aAi.2 ⟨p,hp,rfl⟩)
  have key:∀ p∈prs (x::(M++[y])),mgP (Orb s) (pls (prs (x::(M++[y])))) (cd (x,m)) (cd p):=by
   intro p hp;rcases kP.1 hp with k|k
   .have hL:lnk (x::(M++[y]))=(x,m)::lnk (m::(M'++[y])):=by rw[hM];rfl
    have hway:=hP.way (w:=x::(M++[y])) fun u v k=>h.ed u v (kP.2 (.inl k));have e:pls (lnk (x::(M++[y])))=(cd (x,m),cd (x,m).swap)::pls (lnk (m::(M'++[y]))):=by rw[hL];rfl
    rw[e]at hway;refine AE hR (fun _ _ k=>fZ _ k) hway (fun q hq=>?_) (cd p,cd p.swap) (by rw[<- e];exact aAi.2 ⟨p,k,rfl⟩);rw[<- e]at hq;obtain⟨a,ha,rfl⟩:=aAi.1 hq;exact W9 a (kP.2 (.inl ha))
   .subst k;have e1:Orb s (cd (x,m)) (cd (x,y)):=(hP.orb (p:=(x,m)) (h.ed x m hxm) (by rw[show unA (x,y)=prP y x from aI _ _];exact h.ed y x hp)).2 rfl;exact hR.trans (fZ _ e1) (hR.symm (W9 _ hp))
  have key2:∀ z∈flP (pls (prs (x::(M++[y])))),mgP (Orb s) (pls (prs (x::(M++[y])))) (cd (x,m)) z:=by
   intro z hz;obtain⟨p,hp,rfl⟩:=eV.1 hz;rcases hp with k|k
   .exact key p k
   .have:=W9 _ k;rw[aBN]at this;exact hR.trans (key _ k) this
  exact fun a ha b hb=>hR.trans (hR.symm (key2 a ha)) (key2 b hb)
end
theorem WyE.sub{E:List Ed}{F F':List (List Int)}{x y:Int}{M:List Int}(hw:WyE E F x y M)(h:∀ p,p∈PF F↔p∈PF F'):WyE E F' x y M:=
 ⟨hw.nd,hw.ed,fun p k k'=>hw.new p k ((h p).2 k'),fun v k u k'=>hw.off v k u ((h _).2 k'),hw.onx.imp fun _ k=>(h _).1 k,hw.ony.imp fun _ k=>(h _).1 k⟩
section
variable {E:List Ed} {s:Int->Int} (hP:PlE E s) {A:List (Int×Int)} {F:List (List Int)} (hE:Emb E s A F)
 {x y:Int} {M:List Int} (hw:WyE E F x y M) {u t:Int} (hu:(x,u)∈lnk (x::(M++[y]))) (ht:(t,y)∈lnk (x::(M++[y]))) {r:List Int} (hr:r∈F) (hT:SdT s A r (cd (x,u)))
include hP hE hw hu ht hr hT
theorem Emb.both:x∈r/\y∈r/\x≠y:=by refine⟨hE.here hP hr (p:=(x,u)) (hw.ed x u hu) hT,hE.here hP hr (p:=(y,t)) (by rw[show unA (y,t)=unA (t,y) from aI _ _];exact hw.ed t y ht) (hE.wayT hP hw hu ht hr hT),fun e=>?_⟩;exact(aAq.1 hw.nd).1 (by rw[e];simp)
structure Laid(E:List Ed)(s:Int->Int)(A:List (Int×Int))(F:List (List Int))(r:List Int)(x y:Int)(M P Q:List Int)(F':List (List Int)):Prop where
 perm:F.Perm (r::F')
 rot:∃ a b,r=a++b/\b++a=x::(P++y::Q)
 nf:r∉F'
 emb:Emb E s (lnk (x::(M++[y]))++A) ((x::(P++y::M.reverse))::(y::(Q++x::M))::F')
 mem:∀ p,p∈PF ((x::(P++y::M.reverse))::(y::(Q++x::M))::F')↔p∈PF F\/p∈lnk (x::(M++[y]))\/p.swap∈lnk (x::(M++[y]))
 side:∀ p,(∃ e∈E,prE e=unA p)->∀ v,(p.1,v)∈PF F->SdT s A r (cd p)->SdT s (lnk (x::(M++[y]))++A) (x::(P++y::M.reverse)) (cd p)\/SdT s (lnk (x::(M++[y]))++A) (y::(Q++x::M)) (cd p)
theorem Emb.layAt:∃ P Q F',Laid E s A F r x y M P Q F':=by
 obtain⟨h1,h2,h3⟩:=hE.both hP hw hu ht hr hT;obtain⟨a,b,P,Q,F',e1,e2,e3,hE'⟩:=hE.norm hr h1 h2 h3;have hpp:(prs r).Perm (prs (x::(P++y::Q))):=by rw[e1,<- e2];exact sQ a b
 have hPF:∀ p,p∈PF F↔p∈PF ((x::(P++y::Q))::F'):=fun p=>by rw[hE.mem,hE'.mem]
 have hw':=hw.sub hPF;have hT':=hT.turn hpp;have hem:=hE'.lay hP hw' hu ht hT';have hnf:r∉F':=fun k=>by have hn:=(hE.permF e3).nd;have hn:(prs r++PF F').Nodup:=hn;obtain⟨z,hz⟩:=iH h1;exact(aAo.1 hn).2.2 _ hz _ (aX.2 ⟨r,k,hz⟩) rfl
 refine⟨P,Q,F',e3,⟨a,b,e1,e2⟩,hnf,hem,fun p=>by rw[AW hE' hw',<- hPF],fun p hp v hv hs=>?_⟩;have hv':=(AW hE' hw' (p.1,v)).2 (.inl ((hPF _).1 hv));obtain⟨r',T0,hs'⟩:=hem.ex hP hp hv';rcases hE'.lay_side hP hw' hu ht hT' hp ((hPF _).1 hv) T0 hs' with⟨k1,k2⟩|⟨k1,k2⟩
 .have hrF:r'∈F:=e3.mem_iff.2 (aAc _ k1);have:=hE.fn hP hr hrF hs k2;exact absurd (this ▸ k1) hnf
 .rcases k1 with rfl|rfl
  .exact .inl hs'
  .exact .inr hs'
theorem Emb.no_cross{a b:List Int}{P Q:List Int}(e1:r=a++b)(e2:b++a=x::(P++y::Q)){p q:Int}{N:List Int}(N9:WyE E F p q N){u2 t2:Int}(hu2:(p,u2)∈lnk (p::(N++[q])))(ht2:(t2,q)∈lnk (p::(N++[q])))
 (hT2:SdT s A r (cd (p,u2))) (hp:p∈P) (hq:q∈Q) (hMN:∀ v∈N,v∉M):False:=by
 have Z7:(b++a).Nodup:=(aBj (l₁:=a) (l₂:=b)).nodup_iff.1 (e1 ▸ hE.simple r hr);rw[e2]at Z7;obtain⟨P',Q',F',hL⟩:=hE.layAt hP hw hu ht hr hT;obtain⟨a',b',f1,f2⟩:=hL.rot;have hPQ:P'=P/\Q'=Q:=by
  have hr2:∃ c d,x::(P++y::Q)=c++d/\d++c=x::(P'++y::Q'):=by
   rw[<- e2,<- f2];rw[e1]at f1;rcases aDn.1 f1 with⟨c,g1,g2⟩|⟨c,g1,g2⟩
   .exact⟨c,b'++a,by rw[g2];simp,by rw[g1];simp⟩
   .exact⟨b++a',c,by rw[g1];simp,by rw[g2];simp⟩
  obtain⟨c,d,g1,g2⟩:=hr2;have hsame:x::(P++y::Q)=x::(P'++y::Q'):=by
   cases c with
   |nil=>rw[g1,<- g2];simp
   |cons z c=>
    have hz:z=x:=by injection g1 with g _;exact g.symm
    subst hz;cases d with
    |nil=>rw[g1,<- g2];simp
    |cons w d=>
     have hwz:w=z:=by injection g2
     subst hwz;rw[g1]at Z7;exact absurd rfl ((aAo.1 Z7).2.2 w aAf w aAf)
  have hs2:P++y::Q=P'++y::Q':=by injection hsame
  have O6:(P++y::Q).Nodup:=(aAq.1 Z7).2;have hyP:y∉P:=fun k=>(aAo.1 O6).2.2 y k y aAf rfl;have hyP':y∉P':=fun k=>(aAo.1 (hs2 ▸ O6)).2.2 y k y aAf rfl;have:∀(P P':List Int),y∉P->y∉P'->P++y::Q=P'++y::Q'->P'=P/\Q'=Q:=by
   intro P;induction P with
   |nil=>
    intro P' _ h' e;cases P' with
    |nil=>injection e with _ e;exact⟨rfl,e.symm⟩
    |cons z P'=>injection e with e _;exact absurd (by rw[e];exact aAf) h'
   |cons z P ih=>
    intro P' h h' e;cases P' with
    |nil=>injection e with e _;exact absurd (by rw[<- e];exact aAf) h
    |cons z' P'=>injection e with e1 e2;obtain⟨k1,k2⟩:=ih P' (fun k=>h (aAc _ k)) (fun k=>h' (aAc _ k)) e2;exact⟨by rw[e1,k1],k2⟩
  exact this P P' hyP hyP' hs2
 obtain⟨rfl,rfl⟩:=hPQ;have O6:=(aAq.1 Z7);have hd:=(aAo.1 O6.2);have hpx:p≠x:=fun e=>O6.1 (by rw[<- e];exact aAr _ hp);have hqx:q≠x:=fun e=>O6.1 (by rw[<- e];exact aAx _ (aAc _ hq));have hpy:p≠y:=fun e=>hd.2.2 p hp y aAf e;have hqy:q≠y:=fun e=>(aAq.1 hd.2.1).1 (by rw[<- e];exact hq);have hpQ:p∉Q':=fun k=>hd.2.2 p hp p (aAc _ k) rfl;have hqP:q∉P':=fun k=>hd.2.2 q k q (aAc _ hq) rfl;have offw:∀ v∈p::(N++[q]),v∉x::(M++[y]):=by
  intro v hv k;have hvM:v∈M->False:=fun hm=>by
   rcases aAe.1 hv with rfl|hv
   .obtain⟨z,hz⟩:=N9.onx;exact hw.off _ hm z hz
   .rcases aAd.1 hv with hv|hv
    .exact hMN v hv hm
    .rw[aAk.1 hv]at hm;obtain⟨z,hz⟩:=N9.ony;exact hw.off _ hm z hz
  have hvN:v=x\/v=y->False:=fun h=>by
   rcases aAe.1 hv with rfl|hv
   .exact h.elim hpx hpy
   .rcases aAd.1 hv with hv|hv
    .rcases h with rfl|rfl
     .obtain⟨z,hz⟩:=hw.onx;exact N9.off _ hv z hz
     .obtain⟨z,hz⟩:=hw.ony;exact N9.off _ hv z hz
    .rw[aAk.1 hv]at h;exact h.elim hqx hqy
  rcases aAe.1 k with k|k
  .exact hvN (.inl k)
  .rcases aAd.1 k with k|k
   .exact hvM k
   .exact hvN (.inr (aAk.1 k))
 have hw3:WyE E ((x::(P'++y::M.reverse))::(y::(Q'++x::M))::F') p q N:=by
  refine⟨N9.nd,N9.ed,fun z hz k=>?_,fun v hv z k=>?_,N9.onx.imp fun z k=>(hL.mem _).2 (.inl k),N9.ony.imp fun z k=>(hL.mem _).2 (.inl k)⟩
  .rcases(hL.mem z).1 k with k|k|k
   .exact N9.new z hz k
   .exact offw z.1 (bF (x:=z.1) (y:=z.2) hz).1 (bF (x:=z.1) (y:=z.2) k).1
   .exact offw z.1 (bF (x:=z.1) (y:=z.2) hz).1 (bF (x:=z.2) (y:=z.1) k).2
  .have hv':v∈p::(N++[q]):=aAc _ (aAr _ hv);rcases(hL.mem (v,z)).1 k with k|k|k
   .exact N9.off v hv z k
   .exact offw v hv' (bF k).1
   .exact offw v hv' (bF (x:=z) (y:=v) k).2
 obtain⟨zp,hzp⟩:=N9.onx;have hpM:p∉M:=fun k=>hw.off p k zp hzp;have hqM:q∉M:=fun k=>by obtain⟨z,hz⟩:=N9.ony;exact hw.off q k z hz
 rcases hL.side (p,u2) (N9.ed p u2 hu2) zp hzp hT2 with k|k
 .have j5:x::(P'++y::M.reverse)∈(x::(P'++y::M.reverse))::(y::(Q'++x::M))::F':=aAf;have:=(hL.emb.both hP hw3 hu2 ht2 j5 k).2.1;rcases aAe.1 this with e|h
  .exact hqx e
  .rcases aAd.1 h with h|h
   .exact hqP h
   .rcases aAe.1 h with e|h
    .exact hqy e
    .exact hqM (aBm.1 h)
 .have j5:y::(Q'++x::M)∈(x::(P'++y::M.reverse))::(y::(Q'++x::M))::F':=aAc _ aAf;have:=(hL.emb.both hP hw3 hu2 ht2 j5 k).1;rcases aAe.1 this with e|h
  .exact hpy e
  .rcases aAd.1 h with h|h
   .exact hpQ h
   .rcases aAe.1 h with e|h
    .exact hpx e
    .exact hpM h
end
theorem LN{y:Int}{Q Q':List Int}:∀ {P P':List Int},y∉P->y∉P'->P++y::Q=P'++y::Q'->P'=P/\Q'=Q
 |[],[],_,_,e=>by injection e with _ e;exact⟨rfl,e.symm⟩
 |[],z::P',_,h',e=>by injection e with e _;exact absurd (by rw[e];exact aAf) h'
 |z::P,[],h,_,e=>by injection e with e _;exact absurd (by rw[<- e];exact aAf) h
 |z::P,z'::P',h,h',e=>by injection e with e1 e2;obtain⟨k1,k2⟩:=LN (fun k=>h (aAc _ k)) (fun k=>h' (aAc _ k)) e2;exact⟨by rw[e1,k1],k2⟩
theorem Em{x y:Int}{P Q P' Q' a b a' b':List Int}(hn:(a++b).Nodup)(e:a++b=a'++b')(h1:b++a=x::(P++y::Q))(h2:b'++a'=x::(P'++y::Q')):P'=P/\Q'=Q:=by
 have Z7:(x::(P++y::Q)).Nodup:=by rw[<- h1];exact(aBj (l₁:=a) (l₂:=b)).nodup_iff.1 hn
 obtain⟨c,d,g1,g2⟩:∃ c d,x::(P++y::Q)=c++d/\d++c=x::(P'++y::Q'):=by
  rw[<- h1,<- h2];rcases aDn.1 e with⟨c,g1,g2⟩|⟨c,g1,g2⟩
  .exact⟨c,b'++a,by rw[g2];simp,by rw[g1];simp⟩
  .exact⟨b++a',c,by rw[g1];simp,by rw[g2];simp⟩
 have hsame:x::(P++y::Q)=x::(P'++y::Q'):=by
  cases c with
  |nil=>rw[g1,<- g2];simp
  |cons z c=>
   have hz:z=x:=by injection g1 with g _;exact g.symm
   subst hz;cases d with
   |nil=>rw[g1,<- g2];simp
   |cons w d=>
    have hwz:w=z:=by injection g2
    subst hwz;rw[g1]at Z7;exact absurd rfl ((aAo.1 Z7).2.2 w aAf w aAf)
 have hs2:P++y::Q=P'++y::Q':=by injection hsame
 have O6:(P++y::Q).Nodup:=(aAq.1 Z7).2;exact LN (fun k=>(aAo.1 O6).2.2 y k y aAf rfl) (fun k=>(aAo.1 (hs2 ▸ O6)).2.2 y k y aAf rfl) hs2
theorem WyE.lay{E:List Ed}{s:Int->Int}{A:List (Int×Int)}{F F':List (List Int)}{r:List Int}{x y p q:Int}{M N P Q:List Int}(hL:Laid E s A F r x y M P Q F')(hw:WyE E F p q N)(hN:N≠[])(o6:∀ v∈N,v∉x::(M++[y])):
 WyE E ((x::(P++y::M.reverse))::(y::(Q++x::M))::F') p q N:=by
 have x9:∀ z,z∈lnk (p::(N++[q]))->z.1∈N\/z.2∈N:=by
  intro z hz;have h1:=eX (y:=q) (l:=p::N) (a:=z.1) (b:=z.2) hz;have h2:=jE (a:=z.1) (b:=z.2) hz;rcases aAe.1 h1 with k|k
  .rcases aAd.1 h2 with k'|k'
   .exact .inr k'
   .exfalso;have k':=aAk.1 k';obtain⟨n,N',hN'⟩:=aBy hN;have hz:(p,q)∈lnk (p::(N++[q])):=by rw[<- k,<- k']at hz ⊢;exact hz
    have:=fG hw.nd hz (b':=n) (by rw[hN'];simp[lnk]);have hn:=(aAo.1 (aAq.1 hw.nd).2).2.2 n (by rw[hN'];simp) q sS;exact hn this.symm
  .exact .inl k
 refine⟨hw.nd,hw.ed,fun z hz k=>?_,fun v hv z k=>?_,hw.onx.imp fun z k=>(hL.mem _).2 (.inl k),hw.ony.imp fun z k=>(hL.mem _).2 (.inl k)⟩
 .rcases(hL.mem z).1 k with k|k|k
  .exact hw.new z hz k
  .rcases x9 z hz with h|h
   .exact o6 _ h (bF (x:=z.1) (y:=z.2) k).1
   .exact o6 _ h (bF (x:=z.1) (y:=z.2) k).2
  .rcases x9 z hz with h|h
   .exact o6 _ h (bF (x:=z.2) (y:=z.1) k).2
   .exact o6 _ h (bF (x:=z.2) (y:=z.1) k).1
 .rcases(hL.mem (v,z)).1 k with k|k|k
  .exact hw.off v hv z k
  .exact o6 v hv (bF k).1
  .exact o6 v hv (bF (x:=z) (y:=v) k).2
section
variable {E:List Ed} {s:Int->Int} (hP:PlE E s) {A:List (Int×Int)} {F:List (List Int)} (hE:Emb E s A F)
 {x y:Int} {M:List Int} (hw:WyE E F x y M) {u t:Int} (hu:(x,u)∈lnk (x::(M++[y]))) (ht:(t,y)∈lnk (x::(M++[y]))) {r:List Int} (hr:r∈F) (hT:SdT s A r (cd (x,u)))
include hP hE hw hu ht hr hT
theorem Emb.no_three{a b:List Int}{Pa Pb Q Ma Mb:List Int}{c z:Int}(e1:r=a++b)(e2:b++a=x::((Pa++c::Pb)++y::Q))(hM:M=Ma++z::Mb)
 {N:List Int} (hn:(c::(N++[z])).Nodup) (hed:∀ u v,(u,v)∈lnk (c::(N++[z]))->∃ e∈E,prE e=prP u v) (hNo:∀ v∈N,∀ u,(v,u)∉PF F) (hNM:∀ v∈N,v∉M)
 {uc tz:Int} (huc:(c,uc)∈lnk (c::(N++[z]))) (htz:(tz,z)∈lnk (c::(N++[z]))) (hTc:SdT s A r (cd (c,uc)))
 {N1 N2:List Int} {ix iy ic:Int} (R6:WyE E F x y N1) (N9:WyE E F y c N2) (n1:N1≠[]) (n2:N2≠[]) (o1:∀ v∈N1,v∉M/\v∉N) (o2:∀ v∈N2,v∉M/\v∉N)
 (hx1:(x,ix)∈lnk (x::(N1++[y]))) (hy1:(iy,y)∈lnk (x::(N1++[y]))) (Y1:(y,iy)∈lnk (y::(N2++[c]))) (hc2:(ic,c)∈lnk (y::(N2++[c]))) (hTx:SdT s A r (cd (x,ix))):False:=by
 have hrr:=hE.simple r hr;rw[e1]at hrr;have Z7:(b++a).Nodup:=(aBj (l₁:=a) (l₂:=b)).nodup_iff.1 hrr;rw[e2]at Z7;obtain⟨P',Q',F',hL⟩:=hE.layAt hP hw hu ht hr hT;obtain⟨a',b',f1,f2⟩:=hL.rot;obtain⟨rfl,rfl⟩:=Em hrr (by rw[<- e1,f1]) e2 f2;have hon:∀ v,v∈x::((Pa++c::Pb)++y::Q')->∃ w,(v,w)∈PF F:=fun v hv=>by
  have:v∈r:=by rw[e1,aAd];rw[<- e2,aAd]at hv;exact hv.symm
  obtain⟨w,k⟩:=iH this;exact⟨w,aX.2 ⟨r,hr,k⟩⟩
 have offr:∀(N:List Int),(∀ v∈N,∀ u,(v,u)∉PF F)->∀ v∈N,v∉x::((Pa++c::Pb)++y::Q'):=fun N hN v hv k=>by obtain⟨w,h⟩:=hon v k;exact hN v hv w h
 have Q4:x∈x::((Pa++c::Pb)++y::Q'):=aAf;have hy0:y∈x::((Pa++c::Pb)++y::Q'):=sS;have hc0:c∈x::((Pa++c::Pb)++y::Q'):=sS;have offw:∀(N:List Int),(∀ v∈N,∀ u,(v,u)∉PF F)->(∀ v∈N,v∉M)->∀ v∈N,v∉x::(M++[y]):=fun N hN hNM v hv k=>by
  rcases aAe.1 k with rfl|k
  .exact offr N hN _ hv Q4
  .rcases aAd.1 k with k|k
   .exact hNM v hv k
   .rw[aAk.1 k]at hv;exact offr N hN _ hv hy0
 have w1:=R6.lay hL n1 (offw N1 R6.off fun v hv=>(o1 v hv).1);have w2:=N9.lay hL n2 (offw N2 N9.off fun v hv=>(o2 v hv).1);have hcn:=Z7;have hcx:c≠x:=fun e=>(aAq.1 hcn).1 (by rw[<- e];simp);have hd:=aAo.1 (aAq.1 hcn).2;have hcy:c≠y:=fun e=>hd.2.2 c sS y aAf e;have hcQ:c∉Q':=fun k=>hd.2.2 c sS c (aAc _ k) rfl;have hcM:c∉M:=fun k=>by obtain⟨w,h⟩:=hon c hc0;exact hw.off c k w h
 have hzM:z∈M:=by rw[hM];simp
 have hcr2:c∉y::(Q'++x::M):=fun k=>by
  rcases aAe.1 k with k|k
  .exact hcy k
  .rcases aAd.1 k with k|k
   .exact hcQ k
   .rcases aAe.1 k with k|k
    .exact hcx k
    .exact hcM k
 have in1:x::((Pa++c::Pb)++y::M.reverse)∈(x::((Pa++c::Pb)++y::M.reverse))::(y::(Q'++x::M))::F':=aAf;have in2:y::(Q'++x::M)∈(x::((Pa++c::Pb)++y::M.reverse))::(y::(Q'++x::M))::F':=aAc _ aAf;obtain⟨wx,hwx⟩:=hon x Q4;obtain⟨wc,hwc⟩:=hon c hc0
 have hTx1:=(hL.side (x,ix) (R6.ed x ix hx1) wx hwx hTx).resolve_right fun k=>
  hcr2 (hL.emb.both hP w2 Y1 hc2 in2 (hL.emb.wayT hP w1 hx1 hy1 in2 k)).2.1
 have hTc1:=(hL.side (c,uc) (hed c uc huc) wc hwc hTc).resolve_right fun k=>hcr2 (hL.emb.here hP in2 (p:=(c,uc)) (hed c uc huc) k);have hcw:c∉x::(M++[y]):=fun k=>by
  rcases aAe.1 k with k|k
  .exact hcx k
  .rcases aAd.1 k with k|k
   .exact hcM k
   .exact hcy (aAk.1 k)
 have hNw:=offw N hNo hNM;have hw3:WyE E ((x::((Pa++c::Pb)++y::M.reverse))::(y::(Q'++x::M))::F') c z N:=by
  refine⟨hn,hed,fun p hp k=>?_,fun v hv w k=>?_,⟨wc,(hL.mem _).2 (.inl hwc)⟩,?_⟩
  .have h1:=eX (y:=z) (l:=c::N) (a:=p.1) (b:=p.2) hp;have h2:=jE (a:=p.1) (b:=p.2) hp;have T7:p.1∉x::(M++[y]):=fun k=>by
    rcases aAe.1 h1 with e|e
    .exact hcw (e ▸ k)
    .exact hNw _ e k
   rcases(hL.mem p).1 k with k|k|k
   .have:=hE.swap k;rcases aAd.1 h2 with e|e
    .exact hNo _ e _ this
    .exact hw.off p.2 (by rw[aAk.1 e];exact hzM) _ this
   .exact T7 (bF (x:=p.1) (y:=p.2) k).1
   .exact T7 (bF (x:=p.2) (y:=p.1) k).2
  .rcases(hL.mem (v,w)).1 k with k|k|k
   .exact hNo v hv w k
   .exact hNw v hv (bF k).1
   .exact hNw v hv (bF (x:=w) (y:=v) k).2
  .obtain⟨w,k⟩:=tU (w:=x::(M++[y])) (v:=z) sS (aAc _ (aAr _ hzM));exact⟨w,(hL.mem _).2 (.inr k.symm)⟩
 obtain⟨P2,Q2,F2,hL2⟩:=hL.emb.layAt hP hw3 huc htz in1 hTc1;have hrr1:=hL.emb.simple _ in1;obtain⟨a2,b2,g1,g2⟩:=hL2.rot;have hsp:x::((Pa++c::Pb)++y::M.reverse)=(x::Pa)++(c::(Pb++y::(Mb.reverse++z::Ma.reverse))):=by rw[hM];simp
 have hsp2:(c::(Pb++y::(Mb.reverse++z::Ma.reverse)))++(x::Pa)=c::((Pb++y::Mb.reverse)++z::(Ma.reverse++x::Pa)):=sS;obtain⟨rfl,rfl⟩:=Em (by rw[<- hsp];exact hrr1) (by rw[<- hsp];exact g1) hsp2 g2;have w1':=w1.lay hL2 n1 fun v hv k=>by
  rcases aAe.1 k with k|k
  .exact offr N1 R6.off v hv (k ▸ hc0)
  .rcases aAd.1 k with k|k
   .exact(o1 v hv).2 k
   .exact(o1 v hv).1 (by rw[aAk.1 k];exact hzM)
 have hxn:=(aAq.1 Z7).1;have hzr:∀ v,v∈x::((Pa++c::Pb)++y::Q')->v≠z:=fun v hv e=>by obtain⟨w,h⟩:=hon v hv;exact hw.off z hzM w (e ▸ h)
 have hMr:∀ v,v∈x::((Pa++c::Pb)++y::Q')->v∉M:=fun v hv k=>by obtain⟨w,h⟩:=hon v hv;exact hw.off v k w h
 have hNr:∀ v,v∈x::((Pa++c::Pb)++y::Q')->v∉N:=fun v hv k=>offr N hNo v k hv;have L7:x≠y:=fun e=>hxn (by rw[e];simp);have in3:c::((Pb++y::Mb.reverse)++z::N.reverse)∈(c::((Pb++y::Mb.reverse)++z::N.reverse))::(z::((Ma.reverse++x::Pa)++c::N))::F2:=aAf;have in4:z::((Ma.reverse++x::Pa)++c::N)∈(c::((Pb++y::Mb.reverse)++z::N.reverse))::(z::((Ma.reverse++x::Pa)++c::N))::F2:=aAc _ aAf;rcases hL2.side (x,ix) (R6.ed x ix hx1) wx ((hL.mem _).2 (.inl hwx)) hTx1 with k|k
 .have:=(hL2.emb.both hP w1' hx1 hy1 in3 k).1;have hxMb:x∉Mb:=fun h=>hMr x Q4 (by rw[hM];simp[h]);have hxN:=hNr x Q4;have hxPb:x∉Pb:=fun h=>hxn (sF1 h);simp only[aAe,aAd,aBm]at this;rcases this with h|(h|h|h)|h|h
  .exact hcx h.symm
  .exact hxPb h
  .exact L7 h
  .exact hxMb h
  .exact hzr x Q4 h
  .exact hxN h
 .have:=(hL2.emb.both hP w1' hx1 hy1 in4 k).2.1;have hyMa:y∉Ma:=fun h=>hMr y hy0 (by rw[hM];simp[h]);have hyN:=hNr y hy0;have hyPa:y∉Pa:=fun h=>hd.2.2 y (sF1 h) y aAf rfl;simp only[aAe,aAd,aBm]at this;rcases this with h|(h|h|h)|h|h
  .exact hzr y hy0 h
  .exact hyMa h
  .exact L7 h.symm
  .exact hyPa h
  .exact hcy h.symm
  .exact hyN h
end
end Aw
namespace Aw
open Go Go.RowKit Pl
def cyn(i j k:Nat):Prop:=(i<j/\j<k)\/(j<k/\k<i)\/(k<i/\i<j)
def Cy(r:List Int)(x y z:Int):Prop:=(x∈r/\y∈r/\z∈r)/\cyn (r.idxOf x) (r.idxOf y) (r.idxOf z)
def crn(i j k l:Nat):Prop:=(cyn i k j/\cyn j l i)\/(cyn i l j/\cyn j k i)
def Cr(r:List Int)(x y z w:Int):Prop:=(x∈r/\y∈r/\z∈r/\w∈r)/\crn (r.idxOf x) (r.idxOf y) (r.idxOf z) (r.idxOf w)
theorem mZ{r:List Int}{x y:Int}(hx:x∈r)(h:r.idxOf x=r.idxOf y):x=y:=by
 have:=aAO hx;have e1:=aBu (xs:=r) (x:=x) this;have e2:=aBu (xs:=r) (x:=y) oO
 grind
theorem CD{r:List Int}{x:Int}(h:x∈r):r.idxOf x<r.length:=aAO h
theorem JZ{a b:List Int}(hn:(a++b).Nodup){v:Int}(h:v∈a++b):((a++b).idxOf v=a.idxOf v/\(b++a).idxOf v=b.length+a.idxOf v/\a.idxOf v<a.length)\/((a++b).idxOf v=a.length+b.idxOf v/\(b++a).idxOf v=b.idxOf v/\b.idxOf v<b.length):=by
 grind [CD]
theorem Mh{a b:List Int}(hn:(a++b).Nodup){x y z:Int}(h:Cy (a++b) x y z):Cy (b++a) x y z:=by obtain⟨⟨h1,h2,h3⟩,h⟩:=h;have:=JZ hn h1;have:=JZ hn h2;have:=JZ hn h3;unfold cyn at h;exact⟨by grind,by unfold cyn;omega⟩
theorem Ss{a b:List Int}(hn:(a++b).Nodup){x y z:Int}:Cy (a++b) x y z↔Cy (b++a) x y z:=⟨Mh hn,Mh (by grind)⟩
theorem TP{r:List Int}(hn:r.Nodup){x:Int}(hx:x∈r):r.reverse.idxOf x+r.idxOf x+1=r.length:=by
 induction r with
 |nil=>cases hx
 |cons a r ih => 
  grind [CD]
theorem KP{r:List Int}(hn:r.Nodup){x y z:Int}:Cy r.reverse x y z↔Cy r z y x:=by
 have:=@TP r hn;unfold Cy cyn
 grind
theorem SH{r:List Int}{x y z w:Int}:Cr r x y z w↔(Cy r x z y/\Cy r y w x)\/(Cy r x w y/\Cy r y z x):=by
 unfold Cr Cy crn
 grind
theorem Cr.mono{r r':List Int}{x y z w:Int}(h:Cr r x y z w)(k:∀ a b c,a∈[x,y,z,w]->b∈[x,y,z,w]->c∈[x,y,z,w]->Cy r a b c->Cy r' a b c):Cr r' x y z w:=by
 rw[SH]at *
 grind
def Rv(f g:List Int):Prop:=∀ x y z,x∈g->y∈g->z∈g->Cy f x y z->Cy g z y x
def NoX(f g h:List Int):Prop:=∀ a b c d,a∈g->b∈g->c∈h->d∈h->¬Cr f a b c d
theorem XV{r:List Int}{x y z:Int}(hx:x∈r)(hy:y∈r)(hz:z∈r)(h1:x≠y)(h2:y≠z)(h3:x≠z):Cy r x y z\/Cy r z y x:=by
 have:=@mZ r;unfold Cy cyn
 grind
theorem ZV{r:List Int}{x y z:Int}(h:Cy r x y z):x∈r/\y∈r/\z∈r/\x≠y/\y≠z/\x≠z/\¬Cy r z y x:=by
 unfold Cy cyn at *
 grind
theorem Rv.symm{f g:List Int}(h:Rv f g):Rv g f:=fun x y z hx hy hz k=>by
 have:=ZV k;have:=@XV f x y z
 grind [Rv]
theorem NoX.symm{f g h:List Int}(k:NoX f g h):NoX f h g:=fun a b c d ha hb hc hd q=>by obtain⟨⟨h1,h2,h3,h4⟩,q⟩:=q;refine k c d a b hc hd ha hb ⟨⟨h3,h4,h1,h2⟩,?_⟩;unfold crn cyn at *;omega
section
variable {x y:Int} {P Q M:List Int} (hn:(x::(P++y::Q)).Nodup) (hm:M.Nodup) (hM:∀ v∈M,v∉x::(P++y::Q))
include hn hm hM
theorem eG{v:Int}(h:v∈x::(P++y::Q)):(x::(P++y::Q)).idxOf v<P.length+Q.length+2/\(v=x->(x::(P++y::Q)).idxOf v=0)/\
 ((v∈x::(P++[y])/\v∈x::(P++y::M.reverse)/\(x::(P++y::M.reverse)).idxOf v=(x::(P++y::Q)).idxOf v/\(x::(P++y::Q)).idxOf v<=P.length+1)\/
 (v∈Q/\v∉x::(P++y::M.reverse)/\P.length+1<(x::(P++y::Q)).idxOf v))/\
 ((v∈y::Q/\v∈y::(Q++x::M)/\v≠x/\(y::(Q++x::M)).idxOf v+P.length+1=(x::(P++y::Q)).idxOf v)\/
 (v=x/\v∈y::(Q++x::M)/\(y::(Q++x::M)).idxOf v=Q.length+1)\/(v∈P/\v∉y::(Q++x::M)/\0<(x::(P++y::Q)).idxOf v/\(x::(P++y::Q)).idxOf v<=P.length)):=by
 have:=@CD P v;have:=@CD Q v;rw[aAe,aAd,aAe]at h;rcases h with rfl|h|rfl|h
 .grind
 .refine⟨by grind,by grind,by grind,.inr (.inr (by grind))⟩
 .refine⟨by grind,by grind,by grind,.inl (by grind)⟩
 .refine⟨by grind,by grind,by grind,.inl (by grind)⟩
theorem Lz{v:Int}(h:v∈M):M.idxOf v<M.length/\(x::(P++y::M.reverse)).idxOf v+M.idxOf v=P.length+M.length+1/\(y::(Q++x::M)).idxOf v=Q.length+2+M.idxOf v:=by have:=@CD M v h;have:=TP hm h;refine⟨by grind,by grind,by grind⟩
theorem Jc{v:Int}(h:v∈x::(P++y::M.reverse))(k:v∉M):v∈x::(P++y::Q)/\(x::(P++y::M.reverse)).idxOf v=(x::(P++y::Q)).idxOf v/\(x::(P++y::Q)).idxOf v<=P.length+1:=by
 have:=eG hn hm hM (v:=v) (by grind)
 grind
theorem KD{v:Int}(h:v∈y::(Q++x::M))(k:v∉M):v∈x::(P++y::Q)/\(x::(P++y::Q)).idxOf v<P.length+Q.length+2/\(((x::(P++y::Q)).idxOf v=0/\(y::(Q++x::M)).idxOf v=Q.length+1)\/((y::(Q++x::M)).idxOf v+P.length+1=(x::(P++y::Q)).idxOf v)):=by
 have:=eG hn hm hM (v:=v) (by grind)
 grind
theorem Cl{v:Int}(h:v∈x::(P++y::M.reverse))(h':v∈y::(Q++x::M)):((x::(P++y::M.reverse)).idxOf v=0/\(y::(Q++x::M)).idxOf v=Q.length+1)\/((x::(P++y::M.reverse)).idxOf v=P.length+1/\(y::(Q++x::M)).idxOf v=0)\/
 (P.length+1<(x::(P++y::M.reverse)).idxOf v/\Q.length+1<(y::(Q++x::M)).idxOf v/\(x::(P++y::M.reverse)).idxOf v+(y::(Q++x::M)).idxOf v=P.length+M.length+Q.length+3):=by
 by_cases k:v∈M
 .have:=Lz hn hm hM k;omega
 .have:=eG hn hm hM (v:=v) (by grind)
  grind
theorem ZZ{u v w:Int}(hu:u∉M)(hv:v∉M)(hw:w∉M)(h:Cy (x::(P++y::M.reverse)) u v w):Cy (x::(P++y::Q)) u v w:=by obtain⟨⟨h1,h2,h3⟩,h⟩:=h;have a:=Jc hn hm hM h1 hu;have b:=Jc hn hm hM h2 hv;have c:=Jc hn hm hM h3 hw;unfold cyn at h;exact⟨⟨a.1,b.1,c.1⟩,by unfold cyn;omega⟩
theorem ZK{u v w:Int}(hu:u∉M)(hv:v∉M)(hw:w∉M)(h:Cy (y::(Q++x::M)) u v w):Cy (x::(P++y::Q)) u v w:=by obtain⟨⟨h1,h2,h3⟩,h⟩:=h;have a:=KD hn hm hM h1 hu;have b:=KD hn hm hM h2 hv;have c:=KD hn hm hM h3 hw;unfold cyn at h;exact⟨⟨a.1,b.1,c.1⟩,by unfold cyn;omega⟩
theorem WS:Rv (x::(P++y::M.reverse)) (y::(Q++x::M)):=by rintro u v w k1 k2 k3 ⟨⟨h1,h2,h3⟩,h⟩;have:=Cl hn hm hM h1 k1;have:=Cl hn hm hM h2 k2;have:=Cl hn hm hM h3 k3;refine⟨⟨k3,k2,k1⟩,?_⟩;unfold cyn at *;omega
variable {g h:List Int} (hg:∀ v∈M,v∉g) (hh:∀ v∈M,v∉h)
include hg
theorem Yq(h:Rv (x::(P++y::Q)) g):Rv (x::(P++y::M.reverse)) g:=fun u v w k1 k2 k3 k=>h u v w k1 k2 k3 (ZZ hn hm hM (fun c=>hg _ c k1) (fun c=>hg _ c k2) (fun c=>hg _ c k3) k)
theorem Yp(h:Rv (x::(P++y::Q)) g):Rv (y::(Q++x::M)) g:=fun u v w k1 k2 k3 k=>h u v w k1 k2 k3 (ZK hn hm hM (fun c=>hg _ c k1) (fun c=>hg _ c k2) (fun c=>hg _ c k3) k)
theorem Rb:NoX (x::(P++y::M.reverse)) (y::(Q++x::M)) g:=by rintro a b c d k1 k2 k3 k4 ⟨⟨h1,h2,h3,h4⟩,h⟩;have:=Cl hn hm hM h1 k1;have:=Cl hn hm hM h2 k2;have:=Jc hn hm hM h3 fun k=>hg _ k k3;have:=Jc hn hm hM h4 fun k=>hg _ k k4;unfold crn cyn at *;omega
theorem Po:NoX (y::(Q++x::M)) (x::(P++y::M.reverse)) g:=by rintro a b c d k1 k2 k3 k4 ⟨⟨h1,h2,h3,h4⟩,h⟩;have:=Cl hn hm hM k1 h1;have:=Cl hn hm hM k2 h2;have:=KD hn hm hM h3 fun k=>hg _ k k3;have:=KD hn hm hM h4 fun k=>hg _ k k4;unfold crn cyn at *;omega
theorem WK(hr:Rv (x::(P++y::Q)) g):NoX g (x::(P++y::M.reverse)) (y::(Q++x::M)):=by
 rintro a b c d k1 k2 k3 k4 ⟨⟨h1,h2,h3,h4⟩,h⟩;obtain⟨a1,a2⟩:=Jc hn hm hM k1 fun k=>hg _ k h1;obtain⟨b1,b2⟩:=Jc hn hm hM k2 fun k=>hg _ k h2;obtain⟨c1,c2⟩:=KD hn hm hM k3 fun k=>hg _ k h3;obtain⟨d1,d2⟩:=KD hn hm hM k4 fun k=>hg _ k h4;have e:=hr.symm;rcases h with⟨q1,q2⟩|⟨q1,q2⟩
 .have z1:=(e a c b a1 c1 b1 ⟨⟨h1,h3,h2⟩,q1⟩).2;have z2:=(e b d a b1 d1 a1 ⟨⟨h2,h4,h1⟩,q2⟩).2;unfold cyn at z1 z2;omega
 .have z1:=(e a d b a1 d1 b1 ⟨⟨h1,h4,h2⟩,q1⟩).2;have z2:=(e b c a b1 c1 a1 ⟨⟨h2,h3,h1⟩,q2⟩).2;unfold cyn at z1 z2;omega
include hh
theorem WZ{a b c d:Int}(k1:a∈g)(k2:b∈g)(k3:c∈h)(k4:d∈h):∀ v∈[a,b,c,d],v∉M:=by simp only[List.forall_mem_cons];exact⟨fun k=>hg _ k k1,fun k=>hg _ k k2,fun k=>hh _ k k3,fun k=>hh _ k k4,sS⟩
theorem ZA(k:NoX (x::(P++y::Q)) g h):NoX (x::(P++y::M.reverse)) g h:=fun a b c d k1 k2 k3 k4 q=>
 have z:=WZ hn hm hM hg hh k1 k2 k3 k4
 k a b c d k1 k2 k3 k4 (q.mono fun _ _ _ p1 p2 p3=>ZZ hn hm hM (z _ p1) (z _ p2) (z _ p3))
theorem ZT(k:NoX (x::(P++y::Q)) g h):NoX (y::(Q++x::M)) g h:=fun a b c d k1 k2 k3 k4 q=>
 have z:=WZ hn hm hM hg hh k1 k2 k3 k4
 k a b c d k1 k2 k3 k4 (q.mono fun _ _ _ p1 p2 p3=>ZK hn hm hM (z _ p1) (z _ p2) (z _ p3))
end
structure Rgs(F:List (List Int)):Prop where
 nd:∀ i,i<F.length->(F.getD i []).Nodup
 rev:∀ i j,i<F.length->j<F.length->i≠j->Rv (F.getD i []) (F.getD j [])
 nox:∀ i j k,i<F.length->j<F.length->k<F.length->i≠j->i≠k->j≠k->NoX (F.getD i []) (F.getD j []) (F.getD k [])
theorem SR{F:List (List Int)}{n:Nat}(hn:n<F.length)(r1 r2:List Int)(i:Nat):(F.set n r1++[r2]).getD i []=if i=n then r1 else if i=F.length then r2 else F.getD i []:=by
 grind
def Sc(f g:List Int):Prop:=(∀ v,v∈f↔v∈g)/\∀ x y z,Cy f x y z↔Cy g x y z
theorem Fi{a b:List Int}(hn:(a++b).Nodup):Sc (a++b) (b++a):=⟨by grind,fun _ _ _=>Ss hn⟩
theorem Sc.rv{f f' g:List Int}(h:Sc f f')(k:Rv f g):Rv f' g:=fun x y z a b c d=>k x y z a b c ((h.2 x y z).2 d)
theorem Sc.nox{f f' g h:List Int}(s:Sc f f')(k:NoX f g h):NoX f' g h:=fun a b c d k1 k2 k3 k4 q=>k a b c d k1 k2 k3 k4 (q.mono fun _ _ _ _ _ _=>(s.2 _ _ _).2)
theorem Sc.nox2{f g g' h:List Int}(s:Sc g g')(k:NoX f g h):NoX f g' h:=fun a b c d k1 k2 k3 k4 q=>k a b c d ((s.1 _).2 k1) ((s.1 _).2 k2) k3 k4 q
theorem Rgs.lay{F:List (List Int)}(h:Rgs F){n:Nat}(hn:n<F.length){x y:Int}{P Q M:List Int}(s:Sc (F.getD n []) (x::(P++y::Q)))(hd:(x::(P++y::Q)).Nodup)(hm:M.Nodup)(hM:∀ i,i<F.length->∀ v∈M,v∉F.getD i []):
 Rgs (F.set n (x::(P++y::M.reverse))++[y::(Q++x::M)]):=by
 have hMf:∀ v∈M,v∉x::(P++y::Q):=fun v k c=>hM n hn v k ((s.1 v).2 c)
 have cs:∀ i,i<(F.set n (x::(P++y::M.reverse))++[y::(Q++x::M)]).length->(i=n/\(F.set n (x::(P++y::M.reverse))++[y::(Q++x::M)]).getD i []=x::(P++y::M.reverse))\/(i=F.length/\(F.set n (x::(P++y::M.reverse))++[y::(Q++x::M)]).getD i []=y::(Q++x::M))\/
  ((i<F.length/\i≠n)/\(F.set n (x::(P++y::M.reverse))++[y::(Q++x::M)]).getD i []=F.getD i []):=by
  grind
 generalize F.set n (x::(P++y::M.reverse))++[y::(Q++x::M)]=G at *;have rv:∀ i,(i<F.length/\i≠n)->Rv (x::(P++y::Q)) (F.getD i []):=fun i k=>s.rv (h.rev n i hn k.1 k.2.symm);have nx1:∀ i j,(i<F.length/\i≠n)->(j<F.length/\j≠n)->i≠j->NoX (x::(P++y::Q)) (F.getD i []) (F.getD j []):=fun i j k k' q=>s.nox (h.nox n i j hn k.1 k'.1 k.2.symm k'.2.symm q);have nx2:∀ i j,(i<F.length/\i≠n)->(j<F.length/\j≠n)->i≠j->NoX (F.getD i []) (x::(P++y::Q)) (F.getD j []):=fun i j k k' q=>s.nox2 (h.nox i n j k.1 hn k'.1 k.2 q k'.2.symm);have m1:∀ g r,NoX g (x::(P++y::Q)) r->(∀ v∈M,v∉g)->NoX g (x::(P++y::M.reverse)) r:=fun g r k hg a b c d k1 k2 k3 k4 q=>k a b c d (by grind [Cr]) (by grind [Cr]) k3 k4 q;have m2:∀ g r,NoX g (x::(P++y::Q)) r->(∀ v∈M,v∉g)->NoX g (y::(Q++x::M)) r:=fun g r k hg a b c d k1 k2 k3 k4 q=>k a b c d (by grind [Cr]) (by grind [Cr]) k3 k4 q;refine⟨fun i hi=>?_,fun i j hi hj hij=>?_,fun i j k hi hj hk h1 h2 h3=>?_⟩
 .have:=h.nd i;grind
 .rcases cs i hi with⟨ei,e1⟩|⟨ei,e1⟩|⟨ei,e1⟩<;>rcases cs j hj with⟨ej,e2⟩|⟨ej,e2⟩|⟨ej,e2⟩<;>rw[e1,e2]
  .omega
  .exact WS hd hm hMf
  .exact Yq hd hm hMf (hM j ej.1) (rv j ej)
  .exact(WS hd hm hMf).symm
  .omega
  .exact Yp hd hm hMf (hM j ej.1) (rv j ej)
  .exact(Yq hd hm hMf (hM i ei.1) (rv i ei)).symm
  .exact(Yp hd hm hMf (hM i ei.1) (rv i ei)).symm
  .exact h.rev i j ei.1 ej.1 hij
 .rcases cs i hi with⟨ei,e1⟩|⟨ei,e1⟩|⟨ei,e1⟩<;>rcases cs j hj with⟨ej,e2⟩|⟨ej,e2⟩|⟨ej,e2⟩<;>rcases cs k hk with⟨ek,e3⟩|⟨ek,e3⟩|⟨ek,e3⟩<;>first|omega|rw[e1,e2,e3]
  .exact Rb hd hm hMf (hM k ek.1)
  .exact(Rb hd hm hMf (hM j ej.1)).symm
  .exact ZA hd hm hMf (hM j ej.1) (hM k ek.1) (nx1 j k ej ek h3)
  .exact Po hd hm hMf (hM k ek.1)
  .exact(Po hd hm hMf (hM j ej.1)).symm
  .exact ZT hd hm hMf (hM j ej.1) (hM k ek.1) (nx1 j k ej ek h3)
  .exact WK hd hm hMf (hM i ei.1) (rv i ei)
  .exact m1 _ _ (nx2 i k ei ek h2) (hM i ei.1)
  .exact(WK hd hm hMf (hM i ei.1) (rv i ei)).symm
  .exact m2 _ _ (nx2 i k ei ek h2) (hM i ei.1)
  .exact(m1 _ _ (nx2 i j ei ej h1) (hM i ei.1)).symm
  .exact(m2 _ _ (nx2 i j ei ej h1) (hM i ei.1)).symm
  .exact h.nox i j k ei.1 ej.1 ek.1 h1 h2 h3
structure Avo(r:List Int)(C D:Int->Prop):Prop where
 no:∀ a b c d,C a->C b->D c->D d->¬Cr r a b c d
 three:∀ a b c,C a->C b->C c->D a->D b->D c->a=b\/b=c\/a=c
theorem Mk{r:List Int}{a b c d:Int}(h:Cr r a b c d):Cr r c d a b:=by obtain⟨⟨h1,h2,h3,h4⟩,q⟩:=h;refine⟨⟨h3,h4,h1,h2⟩,?_⟩;unfold crn cyn at *;omega
theorem Tj{r r':List Int}{x y z w:Int}(h:Cr r x y z w)(k:∀ a b c,a∈[x,y,z,w]->b∈[x,y,z,w]->c∈[x,y,z,w]->Cy r a b c->Cy r' c b a):Cr r' x y z w:=by
 rw[SH]at *
 grind
theorem Avo.symm{r:List Int}{C D:Int->Prop}(h:Avo r C D):Avo r D C:=⟨fun a b c d k1 k2 k3 k4 q=>h.no c d a b k3 k4 k1 k2 (Mk q),by grind [Avo]⟩
def Sm(C:Int->Prop)(f g:List Int):Prop:=∀ x y z,C x->C y->C z->(Cy f x y z↔Cy g x y z)
theorem Avo.mono{r r':List Int}{C D C' D':Int->Prop}(h:Avo r C D)(hC:∀ v,C' v->C v)(hD:∀ v,D' v->D v)(k:∀ a b c,(C' a\/D' a)->(C' b\/D' b)->(C' c\/D' c)->Cy r' a b c->Cy r a b c):Avo r' C' D':=
 ⟨fun a b c d k1 k2 k3 k4 q=>h.no a b c d (hC _ k1) (hC _ k2) (hD _ k3) (hD _ k4) (q.mono fun _ _ _ p1 p2 p3=>k _ _ _ (by grind) (by grind) (by grind)),by grind [Avo]⟩
theorem Avo.flip{r r':List Int}{C D:Int->Prop}(h:Avo r C D)(k:∀ a b c,(C a\/D a)->(C b\/D b)->(C c\/D c)->Cy r' a b c->Cy r c b a):Avo r' C D:=
 ⟨fun a b c d k1 k2 k3 k4 q=>h.no a b c d k1 k2 k3 k4 (Tj q fun _ _ _ p1 p2 p3=>k _ _ _ (by grind) (by grind) (by grind)),h.three⟩
theorem Avo.rev{r:List Int}{C D:Int->Prop}(hn:r.Nodup)(h:Avo r C D):Avo r.reverse C D:=h.flip fun _ _ _ _ _ _=>(KP hn).1
theorem Avo.rot{a b:List Int}{C D:Int->Prop}(hn:(a++b).Nodup)(h:Avo (a++b) C D):Avo (b++a) C D:=h.mono (fun _=>id) (fun _=>id) fun _ _ _ _ _ _=>(Ss hn).2
theorem Nb{f g h:List Int}{C D:Int->Prop}(hx:NoX f g h)(hC:∀ v,C v->v∈f/\v∈g)(hD:∀ v,D v->v∈f/\v∈h){t:Int}(ht:D t)(htg:t∉g):Avo f C D:=by
 have no:∀ a b c d,C a->C b->D c->D d->¬Cr f a b c d:=fun a b c d k1 k2 k3 k4=>hx a b c d (hC _ k1).2 (hC _ k2).2 (hD _ k3).2 (hD _ k4).2;refine⟨no,fun a b c k1 k2 k3 q1 q2 q3=>?_⟩;have ta:∀ v,C v->t≠v:=fun v k e=>htg (e ▸ (hC v k).2);have i1:=@mZ f t a (hD t ht).1;have i2:=@mZ f t b (hD t ht).1;have i3:=@mZ f t c (hD t ht).1;have i4:=@mZ f a b (hC a k1).1;have i5:=@mZ f b c (hC b k2).1;have i6:=@mZ f a c (hC a k1).1;have n1:=no a b t c k1 k2 ht q3;have n2:=no b c t a k2 k3 ht q1;have n3:=no a c t b k1 k3 ht q2;have:=hC a k1;have:=hC b k2;have:=hC c k3;have:=hD t ht;have:=ta a k1;have:=ta b k2;have:=ta c k3;simp only[Cr,crn,cyn]at n1 n2 n3
 grind
section
variable {x y:Int} {P Q M:List Int} (hn:(x::(P++y::Q)).Nodup) (hm:M.Nodup) (hM:∀ v∈M,v∉x::(P++y::Q))
include hn hm hM
theorem ZC{u v w:Int}(hu:u∈x::(P++[y]))(hv:v∈x::(P++[y]))(hw:w∈x::(P++[y])):Cy (x::(P++y::M.reverse)) u v w↔Cy (x::(P++y::Q)) u v w:=by
 have a:=eG hn hm hM (v:=u) (by grind);have b:=eG hn hm hM (v:=v) (by grind);have c:=eG hn hm hM (v:=w) (by grind);unfold Cy
 grind
theorem ET{C D B:Int->Prop}(hx:B x)(hy:B y)(hA:Avo (x::(P++y::Q)) D B)(hD:∀ v,D v->v∈x::(P++[y]))(hDP:(∃ v,D v/\v∈P)\/(∀ v,B v->v∉P)\/¬(D x/\D y))(hC:∀ v,C v->v∈M\/(B v/\v∈x::(P++[y]))):Avo (x::(P++y::M.reverse)) D C:=by
 have fD:∀ v,D v->v∈x::(P++y::Q)/\v∉M/\(x::(P++y::M.reverse)).idxOf v=(x::(P++y::Q)).idxOf v/\(x::(P++y::Q)).idxOf v<=P.length+1:=fun v k=>by
  have:=eG hn hm hM (v:=v) (by grind)
  grind
 have fC:∀ v,C v->(v∈M/\P.length+1<(x::(P++y::M.reverse)).idxOf v)\/(B v/\v∈x::(P++y::Q)/\v∉M/\(x::(P++y::M.reverse)).idxOf v=(x::(P++y::Q)).idxOf v/\(x::(P++y::Q)).idxOf v<=P.length+1):=fun v k=>by
  by_cases q:v∈M
  .have:=Lz hn hm hM q;exact .inl ⟨q,oO⟩
  .have:=eG hn hm hM (v:=v) (by grind)
   grind
 have G8:∀ a b d,D a->D b->B d->d∈x::(P++y::Q)->(x::(P++y::Q)).idxOf a<(x::(P++y::Q)).idxOf d->(x::(P++y::Q)).idxOf d<(x::(P++y::Q)).idxOf b->False:=by
  intro a b d ka kb kd hd h1 h2;have px:(x::(P++y::Q)).idxOf x=0:=by grind
  have py:(x::(P++y::Q)).idxOf y=P.length+1:=by
   have:=eG hn hm hM (v:=y) (by grind)
   grind
  have mx:x∈x::(P++y::Q):=by grind
  have my:y∈x::(P++y::Q):=by grind
  have fa:=fD a ka;have fb:=fD b kb;have dP:d∈P:=by
   have:=eG hn hm hM hd
   grind
  have ea:a=x:=by
   have:=hA.no a b d x ka kb kd hx;have:=@mZ (x::(P++y::Q)) a x fa.1;simp only[Cr,crn,cyn]at *
   grind
  have eb:b=y:=by
   have:=hA.no a b d y ka kb kd hy;have:=@mZ (x::(P++y::Q)) b y fb.1;simp only[Cr,crn,cyn]at *
   grind
  subst ea eb;rcases hDP with⟨t,k1,k2⟩|k|k
  .have ft:=fD t k1;have:=hA.three a b t ka kb k1 hx hy;have:=hA.no t b d a k1 kb kd hx;have:=hA.no a t d b ka k1 kd hy;have:=@mZ (a::(P++b::Q)) t d ft.1;have:=eG hn hm hM ft.1;simp only[Cr,crn,cyn]at *
   grind
  .exact k d kd dP
  .exact k ⟨ka,kb⟩
 refine⟨fun a b c d ka kb kc kd q=>?_,fun a b c k1 k2 k3 q1 q2 q3=>?_⟩
 .have fa:=fD a ka;have fb:=fD b kb;have q2:=q.2;rcases fC c kc with fc|fc<;>rcases fC d kd with fd|fd
  .unfold crn cyn at q2;omega
  .have m1:¬((x::(P++y::Q)).idxOf a<(x::(P++y::Q)).idxOf d/\(x::(P++y::Q)).idxOf d<(x::(P++y::Q)).idxOf b):=fun h=>G8 a b d ka kb fd.1 fd.2.1 h.1 h.2;have m2:¬((x::(P++y::Q)).idxOf b<(x::(P++y::Q)).idxOf d/\(x::(P++y::Q)).idxOf d<(x::(P++y::Q)).idxOf a):=fun h=>G8 b a d kb ka fd.1 fd.2.1 h.1 h.2;unfold crn cyn at q2;omega
  .have m1:¬((x::(P++y::Q)).idxOf a<(x::(P++y::Q)).idxOf c/\(x::(P++y::Q)).idxOf c<(x::(P++y::Q)).idxOf b):=fun h=>G8 a b c ka kb fc.1 fc.2.1 h.1 h.2;have m2:¬((x::(P++y::Q)).idxOf b<(x::(P++y::Q)).idxOf c/\(x::(P++y::Q)).idxOf c<(x::(P++y::Q)).idxOf a):=fun h=>G8 b a c kb ka fc.1 fc.2.1 h.1 h.2;unfold crn cyn at q2;omega
  .refine hA.no a b c d ka kb fc.1 fd.1 ⟨⟨fa.1,fb.1,fc.2.1,fd.2.1⟩,?_⟩;unfold crn cyn at *;omega
 .have:=fD a k1;have:=fD b k2;have:=fD c k3;exact hA.three a b c k1 k2 k3 (by grind) (by grind) (by grind)
end
section
variable {x y:Int} {P Q P' Q' M:List Int} (hn:(x::(P++y::Q)).Nodup) (M3:(x::(P'++y::Q')).Nodup) (hm:M.Nodup) (hM:∀ v∈M,v∉x::(P++y::Q)) (hM':∀ v∈M,v∉x::(P'++y::Q')) {B:Int->Prop} (hx:B x) (hy:B y) (hs:Sm B (x::(P++y::Q)) (x::(P'++y::Q')))
include hn M3 hm hM hM' hx hy hs
theorem Pu{v:Int}(hv:B v)(h:v∈x::(P'++[y])):v∈x::(P++[y]):=by
 by_cases k:v∈P'
 .have a:=eG M3 hm hM' (v:=v) (by grind);have b:=eG M3 hm hM' (v:=y) (by grind);have c:=eG M3 hm hM' (v:=x) (by grind);have d:=(hs x v y hx hv hy).2 ⟨⟨by grind,by grind,by grind⟩,by unfold cyn;grind⟩;have e:=eG hn hm hM (v:=v) d.1.2.1;have g:=eG hn hm hM (v:=y) (by grind);have i:=eG hn hm hM (v:=x) (by grind);have q:=d.2;unfold cyn at q
  grind
 .grind
theorem Zc{a b:Int}(ka:B a)(kb:B b)(ha:a∈x::(P++[y]))(hb:b∈x::(P++[y]))(h:(x::(P'++y::Q')).idxOf a<(x::(P'++y::Q')).idxOf b)(ha':a∈x::(P'++[y]))(hb':b∈x::(P'++[y])):(x::(P++y::Q)).idxOf a<(x::(P++y::Q)).idxOf b:=by
 have i1:=eG M3 hm hM' (v:=a) (by grind);have i2:=eG M3 hm hM' (v:=b) (by grind);have i3:=eG M3 hm hM' (v:=x) (by grind);have j1:=eG hn hm hM (v:=a) (by grind);have j2:=eG hn hm hM (v:=b) (by grind);have j3:=eG hn hm hM (v:=x) (by grind);by_cases e:a=x
 .grind
 .have d:=(hs x a b hx ka kb).2 ⟨⟨by grind,by grind,by grind⟩,by unfold cyn;grind⟩;have q:=d.2;unfold cyn at q
  grind
theorem Kc{a b c:Int}(ha:a∈M\/(B a/\a∈x::(P'++[y])))(hb:b∈M\/(B b/\b∈x::(P'++[y])))(hc:c∈M\/(B c/\c∈x::(P'++[y])))(h:Cy (x::(P'++y::M.reverse)) a b c):Cy (x::(P++y::M.reverse)) a b c:=by
 have key:∀ u v,(u∈M\/(B u/\u∈x::(P'++[y])))->(v∈M\/(B v/\v∈x::(P'++[y])))->(x::(P'++y::M.reverse)).idxOf u<(x::(P'++y::M.reverse)).idxOf v->u∈x::(P++y::M.reverse)/\v∈x::(P++y::M.reverse)/\(x::(P++y::M.reverse)).idxOf u<(x::(P++y::M.reverse)).idxOf v:=by
  intro u v hu hv h;have f1:∀ w,w∈M->(x::(P'++y::M.reverse)).idxOf w+M.idxOf w=P'.length+M.length+1/\(x::(P++y::M.reverse)).idxOf w+M.idxOf w=P.length+M.length+1/\M.idxOf w<M.length/\w∈x::(P++y::M.reverse):=fun w k=>by
   have:=Lz hn hm hM k;have:=Lz M3 hm hM' k
   grind
  have f2:∀ w,B w/\w∈x::(P'++[y])->(x::(P'++y::M.reverse)).idxOf w=(x::(P'++y::Q')).idxOf w/\(x::(P'++y::Q')).idxOf w<=P'.length+1/\(x::(P++y::M.reverse)).idxOf w=(x::(P++y::Q)).idxOf w/\(x::(P++y::Q)).idxOf w<=P.length+1/\w∈x::(P++[y])/\w∈x::(P++y::M.reverse):=fun w k=>by
   have q:=Pu hn M3 hm hM hM' hx hy hs k.1 k.2;have:=eG M3 hm hM' (v:=w) (by grind);have:=eG hn hm hM (v:=w) (by grind)
   grind
  rcases hu with hu|hu<;>rcases hv with hv|hv
  .have:=f1 u hu;have:=f1 v hv
   exact⟨by grind,by grind,oO⟩
  .have:=f1 u hu;have:=f2 v hv
   exact⟨by grind,by grind,oO⟩
  .have:=f2 u hu;have:=f1 v hv
   exact⟨by grind,by grind,oO⟩
  .have a1:=f2 u hu;have a2:=f2 v hv;have:=Zc hn M3 hm hM hM' hx hy hs hu.1 hv.1 a1.2.2.2.2.1 a2.2.2.2.2.1 oO hu.2 hv.2;exact⟨by grind,by grind,oO⟩
 obtain⟨m,h⟩:=h;have:=key a b ha hb;have:=key b c hb hc;have:=key c a hc ha;unfold cyn at h;exact⟨by grind,by unfold cyn;grind⟩
end
theorem Sm.symm{B:Int->Prop}{f g:List Int}(h:Sm B f g):Sm B g f:=fun x y z a b c=>(h x y z a b c).symm
structure Al{Θ:Type}(F:List (List Int))(live:Θ->Prop)(ct:Θ->Int->Prop)(K:Θ->List Int->Prop)(α:Θ->Nat):Prop where
 lt:∀ T,live T->α T<F.length
 on:∀ T,live T->∀ v,ct T v->v∈F.getD (α T) []
 avo:∀ T T',live T->live T'->T≠T'->α T=α T'->Avo (F.getD (α T) []) (ct T) (ct T')
 sim:∀ T,live T->∃ r,K T r/\Sm (ct T) (F.getD (α T) []) r
theorem SV{C:Int->Prop}{f g r:List Int}(hf:Rv f g)(hr:r.Nodup)(hC:∀ v,C v->v∈f/\v∈g)(h:Sm C f r):Sm C g r.reverse:=fun x y z a b c=>by
 rw[KP hr,<- h z y x c b a];have:=hf z y x (hC z c).2 (hC y b).2 (hC x a).2;have:=hf.symm x y z (hC x a).1 (hC y b).1 (hC z c).1
 grind
theorem Al.swap{Θ:Type}{F:List (List Int)}{live:Θ->Prop}{ct:Θ->Int->Prop}{K:Θ->List Int->Prop}{α:Θ->Nat}(h:Al F live ct K α)(hF:Rgs F)(hK:∀ T r,K T r->K T r.reverse/\r.Nodup)(h2:∀ T,live T->∀ g,∃ i,i≠g/\i<F.length/\∀ v,ct T v->v∈F.getD i [])
 {b:Θ} (hb:live b) {f:Nat} (hf:f<F.length) (hbf:∀ v,ct b v->v∈F.getD f []):∃ α',Al F live ct K α'/\α' b=f:=by
 by_cases e:α b=f
 .exact⟨α,h,e⟩
 have hg:=h.lt b hb;have hbg:=h.on b hb;generalize hgg:α b=g at *
 have hex:∃ α':Θ->Nat,∀ T,((∀ v,ct T v->v∈F.getD f []/\v∈F.getD g [])->α' T=if α T=f then g else if α T=g then f else α T)/\(¬(∀ v,ct T v->v∈F.getD f []/\v∈F.getD g [])->α' T=α T):=
  ⟨fun T=>open Classical in if(∀ v,ct T v->v∈F.getD f []/\v∈F.getD g [])then(if α T=f then g else if α T=g then f else α T)else α T,fun T=>⟨fun k=>aAj k,fun k=>aAa k⟩⟩
 obtain⟨α',hα⟩:=hex;refine⟨α',⟨fun T k=>?_,fun T k v hv=>?_,fun T T' k k' c7 he=>?_,fun T k=>?_⟩,?_⟩
 .have:=h.lt T k;by_cases c:∀ v,ct T v->v∈F.getD f []/\v∈F.getD g []
  .have:=(hα T).1 c;grind
  .have:=(hα T).2 c;grind
 .have:=h.on T k v hv;by_cases c:∀ v,ct T v->v∈F.getD f []/\v∈F.getD g []
  .have:=(hα T).1 c;have:=c v hv;grind
  .have:=(hα T).2 c;grind
 .have hav:=h.avo T T' k k' c7;have o1:=h.on T k;have o2:=h.on T' k';have l1:=h.lt T k;have l2:=h.lt T' k';have hfg:=hF.rev f g hf hg (aCE e);have fl:∀ i j,Rv (F.getD i []) (F.getD j [])->(∀ v,ct T v->v∈F.getD i []/\v∈F.getD j [])->(∀ v,ct T' v->v∈F.getD i []/\v∈F.getD j [])->Avo (F.getD j []) (ct T) (ct T')->Avo (F.getD i []) (ct T) (ct T'):=fun i j r c1 c2 q=>q.flip fun x y z a b c=>r x y z (by grind) (by grind) (by grind);have third:∀ i j S S',live S'->i<F.length->j<F.length->i≠j->(∀ v,ct S v->v∈F.getD i []/\v∈F.getD j [])->(∀ v,ct S' v->v∈F.getD i [])->¬(∀ v,ct S' v->v∈F.getD i []/\v∈F.getD j [])->Avo (F.getD i []) (ct S) (ct S'):=by
   intro i j S S' hl hi hj hij c1 c2 c3;obtain⟨m,m1,m2,m3⟩:=h2 S' hl i;have:∃ t,ct S' t/\t∉F.getD j []:=by grind
   obtain⟨t,t1,t2⟩:=this;exact Nb (hF.nox i j m hi hj m2 hij m1.symm (fun e=>t2 (e ▸ m3 t t1))) c1 (fun v hv=>⟨c2 v hv,m3 v hv⟩) t1 t2
  have sw:∀ {S:Θ},(∀ v,ct S v->v∈F.getD f []/\v∈F.getD g [])->∀ v,ct S v->v∈F.getD g []/\v∈F.getD f []:=fun k v q=>(k v q).symm;by_cases c1:∀ v,ct T v->v∈F.getD f []/\v∈F.getD g []<;>by_cases c2:∀ v,ct T' v->v∈F.getD f []/\v∈F.getD g []
  .rw[(hα T).1 c1]at he ⊢;rw[(hα T').1 c2]at he;by_cases d:α T=f
   .have d':α T'=f:=by grind
    rw[aAj d];exact fl g f hfg.symm (sw c1) (sw c2) (d ▸ hav (by rw[d,d']))
   .by_cases d2:α T=g
    .have d':α T'=g:=by grind
     rw[aAa d,aAj d2];exact fl f g hfg c1 c2 (d2 ▸ hav (by rw[d2,d']))
    .rw[aAa d,aAa d2];exact hav (by grind)
  .rw[(hα T).1 c1]at he ⊢;rw[(hα T').2 c2]at he;by_cases d:α T=f
   .rw[aAj d]at he ⊢;exact third g f T T' k' hg hf e (sw c1) (fun v hv=>he ▸ o2 v hv) fun q=>c2 fun v k=>(q v k).symm
   .by_cases d2:α T=g
    .rw[aAa d,aAj d2]at he ⊢;exact third f g T T' k' hf hg (aCE e) c1 (fun v hv=>he ▸ o2 v hv) c2
    .rw[aAa d,aAa d2]at he ⊢;exact hav he
  .rw[(hα T).2 c1]at he ⊢;rw[(hα T').1 c2]at he;by_cases d:α T'=f
   .rw[aAj d]at he;rw[he];exact(third g f T' T k hg hf e (sw c2) (fun v hv=>he ▸ o1 v hv) fun q=>c1 fun v k=>(q v k).symm).symm
   .by_cases d2:α T'=g
    .rw[aAa d,aAj d2]at he;rw[he];exact(third f g T' T k hf hg (aCE e) c2 (fun v hv=>he ▸ o1 v hv) c1).symm
    .rw[aAa d,aAa d2]at he;exact hav he
  .rw[(hα T).2 c1]at he ⊢;rw[(hα T').2 c2]at he;exact hav he
 .obtain⟨r,kr,hs⟩:=h.sim T k;have hfg:=hF.rev f g hf hg (aCE e);by_cases c1:∀ v,ct T v->v∈F.getD f []/\v∈F.getD g []
  .rw[(hα T).1 c1];by_cases d:α T=f
   .rw[aAj d];exact⟨_,(hK T r kr).1,SV hfg (hK T r kr).2 c1 (d ▸ hs)⟩
   .by_cases d2:α T=g
    .rw[aAa d,aAj d2];exact⟨_,(hK T r kr).1,SV hfg.symm (hK T r kr).2 (fun v q=>(c1 v q).symm) (d2 ▸ hs)⟩
    .rw[aAa d,aAa d2];exact⟨r,kr,hs⟩
  .rw[(hα T).2 c1];exact⟨r,kr,hs⟩
 .rw[(hα b).1 fun v k=>⟨hbf v k,hbg v k⟩,hgg,aAa e,aAj rfl]
theorem half{x y:Int}{P Q P' Q' M:List Int}(hn:(x::(P++y::Q)).Nodup)(M3:(x::(P'++y::Q')).Nodup)(hm:M.Nodup)(hM:∀ v∈M,v∉x::(P++y::Q))(hM':∀ v∈M,v∉x::(P'++y::Q')){B:Int->Prop}(hx:B x)(hy:B y)(hs:Sm B (x::(P++y::Q)) (x::(P'++y::Q')))
 {Θ:Type} {ct:Θ->Int->Prop} {K:Θ->List Int->Prop} {old pc:Θ->Prop}
 (ho:∀ T,old T->(∀ v,ct T v->v∈x::(P++[y]))/\((∃ v,ct T v/\v∈P)\/(∀ v,B v->v∉P)\/¬(ct T x/\ct T y))/\Avo (x::(P++y::Q)) (ct T) B/\∃ r,K T r/\Sm (ct T) (x::(P++y::Q)) r)
 (hoo:∀ T T',old T->old T'->T≠T'->Avo (x::(P++y::Q)) (ct T) (ct T'))
 (hp:∀ T,pc T->(∀ v,ct T v->v∈M\/B v)/\(∀ v,ct T v->v∈x::(P'++y::M.reverse))/\K T (x::(P'++y::M.reverse)))
 (hpp:∀ T T',pc T->pc T'->T≠T'->Avo (x::(P'++y::M.reverse)) (ct T) (ct T')):
 (∀ T,old T\/pc T->(∀ v,ct T v->v∈x::(P++y::M.reverse))/\∃ r,K T r/\Sm (ct T) (x::(P++y::M.reverse)) r)/\∀ T T',old T\/pc T->old T'\/pc T'->T≠T'->Avo (x::(P++y::M.reverse)) (ct T) (ct T'):=by
 have q:∀ T,pc T->∀ v,ct T v->v∈M\/(B v/\v∈x::(P'++[y])):=fun T k v hv=>by
  have:=(hp T k).1 v hv;have:=(hp T k).2.1 v hv
  grind
 have q':∀ T,pc T->∀ v,ct T v->v∈M\/(B v/\v∈x::(P++[y])):=fun T k v hv=>(q T k v hv).imp id fun z=>⟨z.1,Pu hn M3 hm hM hM' hx hy hs z.1 z.2⟩;have e:=@ZC x y P Q M hn hm hM;refine⟨fun T k=>?_,fun T T' k k' c7=>?_⟩
 .rcases k with k|k
  .obtain⟨h1,_,_,r,h4,h5⟩:=ho T k;exact⟨fun v hv=>by have:=h1 v hv;grind,r,h4,fun a b c ka kb kc=>(e (h1 a ka) (h1 b kb) (h1 c kc)).trans (h5 a b c ka kb kc)⟩
  .refine⟨fun v hv=>by have:=q' T k v hv;grind,_,(hp T k).2.2,fun a b c ka kb kc=>⟨?_,?_⟩⟩
   .exact Kc M3 hn hm hM' hM hx hy hs.symm (q' T k a ka) (q' T k b kb) (q' T k c kc)
   .exact Kc hn M3 hm hM hM' hx hy hs (q T k a ka) (q T k b kb) (q T k c kc)
 .rcases k with k|k<;>rcases k' with k'|k'
  .exact(hoo T T' k k' c7).mono (fun _=>id) (fun _=>id) fun a b c ka kb kc=>(e (ka.elim ((ho T k).1 a) ((ho T' k').1 a)) (kb.elim ((ho T k).1 b) ((ho T' k').1 b)) (kc.elim ((ho T k).1 c) ((ho T' k').1 c))).1
  .exact ET hn hm hM hx hy (ho T k).2.2.1 (ho T k).1 (ho T k).2.1 (q' T' k')
  .exact(ET hn hm hM hx hy (ho T' k').2.2.1 (ho T' k').1 (ho T' k').2.1 (q' T k)).symm
  .exact(hpp T T' k k' c7).mono (fun _=>id) (fun _=>id) fun a b c ka kb kc=>Kc M3 hn hm hM' hM hx hy hs.symm (ka.elim (q' T k a) (q' T' k' a)) (kb.elim (q' T k b) (q' T' k' b)) (kc.elim (q' T k c) (q' T' k' c))
theorem GZ{r:List Int}{x y:Int}(hx:x∈r)(hy:y∈r)(L7:x≠y):∃ a b P Q,r=a++b/\b++a=x::(P++y::Q):=by
 obtain⟨a,b,rfl⟩:=aBb hx;rcases(by grind:y∈b\/y∈a)with h|h
 .obtain⟨c,d,rfl⟩:=aBb h;exact⟨a,x::(c++y::d),c,d++a,rfl,sS⟩
 .obtain⟨c,d,rfl⟩:=aBb h;exact⟨c++y::d,x::b,b++c,d,rfl,sS⟩
theorem Sc.avo{f g:List Int}{C D:Int->Prop}(s:Sc f g)(h:Avo f C D):Avo g C D:=h.mono (fun _=>id) (fun _=>id) fun a b c _ _ _=>(s.2 a b c).2
theorem Ul{x y v w:Int}{P Q:List Int}(hn:(x::(P++y::Q)).Nodup)(hv:v∈P)(hw:w∈Q):Cr (x::(P++y::Q)) x y v w:=by have:=CD hv;have:=CD hw;refine⟨by grind,.inl ⟨?_,?_⟩⟩<;>unfold cyn<;>grind
def onE(ct:Int->Prop)(B:Int->Prop)(x y:Int)(P:List Int):Prop:=(∀ v,ct v->v∈x::(P++[y]))/\((∃ v,ct v/\v∈P)\/(∀ v,B v->v∉P)\/¬(ct x/\ct y))
theorem Vk{x y:Int}{P Q:List Int}(hn:(x::(P++y::Q)).Nodup){C B:Int->Prop}(hx:B x)(hy:B y)(hA:Avo (x::(P++y::Q)) C B)(hC:∀ v,C v->v∈x::(P++y::Q))(h:¬onE C B x y P):onE C B y x Q:=by
 have f:∀ v w,v∈P->w∈Q->Cr (x::(P++y::Q)) x y v w:=fun v w=>Ul hn;have n1:∀ v w,C v->C w->v∈P->w∈Q->False:=fun v w k k' kv kw=>hA.no v w x y k k' hx hy (Mk (f v w kv kw));have n2:∀ v w,B v->B w->v∈P->w∈Q->C x->C y->False:=fun v w k k' kv kw hx hy=>hA.no x y v w hx hy k k' (f v w kv kw);unfold onE at *;by_cases a:∃ v,C v/\v∈P<;>by_cases b:∃ v,C v/\v∈Q
 .grind
 .exact absurd ⟨fun v k=>by have:=hC v k;grind,.inl a⟩ h
 .exact⟨fun v k=>by have:=hC v k;grind,.inl b⟩
 .have k:∀ v,C v->v=x\/v=y:=fun v k=>by have:=hC v k;grind
  refine⟨by grind,?_⟩;by_cases c:C x/\C y
  .by_cases d:∀ v,B v->v∉P
   .exact absurd ⟨fun v q=>by have:=k v q;grind,.inr (.inl d)⟩ h
   .right;left;grind
  .grind
theorem ML{x y:Int}{P Q:List Int}(h:(x::(P++y::Q)).Nodup):(y::(Q++x::P)).Nodup:=by grind
theorem Al.lay{Θ:Type}{F:List (List Int)}{live:Θ->Prop}{ct:Θ->Int->Prop}{K:Θ->List Int->Prop}{α:Θ->Nat}(h:Al F live ct K α)(hK:∀ T r,K T r->K T r.reverse/\r.Nodup)
 {b:Θ} (hb:live b) {n:Nat} (e:α b=n) {x y:Int} {P Q M:List Int} (s:Sc (F.getD n []) (x::(P++y::Q))) (hd:(x::(P++y::Q)).Nodup) (hm:M.Nodup) (hM:∀ i,i<F.length->∀ v∈M,v∉F.getD i []) (hx:ct b x) (hy:ct b y)
 (hKb:∀ r,K b r->(∀ v∈M,v∉r)/\∀ v,ct b v->v∈r) {live' pc:Θ->Prop} (hl:∀ T,live' T->(live T/\T≠b)\/(pc T/\¬live T))
 (hp:∀ a b' P' Q',K b (a++b')->b'++a=x::(P'++y::Q')->∃ side:Θ->Bool,∀ T,pc T->(∀ v,ct T v->v∈M\/ct b v)/\(∀ v,ct T v->v∈if side T then x::(P'++y::M.reverse)else y::(Q'++x::M))/\K T (if side T then x::(P'++y::M.reverse)else y::(Q'++x::M))/\
   ∀ T',pc T'->T≠T'->side T=side T'->Avo (if side T then x::(P'++y::M.reverse)else y::(Q'++x::M)) (ct T) (ct T')):
 ∃ α',Al (F.set n (x::(P++y::M.reverse))++[y::(Q++x::M)]) live' ct K α':=by
 have hnF:=e ▸ h.lt b hb;obtain⟨r,hr,hs⟩:=h.sim b hb;rw[e]at hs;have L7:x≠y:=by grind
 obtain⟨a,b',P',Q',e1,e2⟩:=GZ ((hKb r hr).2 x hx) ((hKb r hr).2 y hy) L7;have Z7:=(hK b r hr).2;have M3:(x::(P'++y::Q')).Nodup:=by rw[<- e2];grind
 have hMr:=(hKb r hr).1;have sc':Sc r (x::(P'++y::Q')):=by rw[e1,<- e2];exact Fi (e1 ▸ Z7)
 have hs1:Sm (ct b) (x::(P++y::Q)) (x::(P'++y::Q')):=fun u v w ku kv kw=>by rw[<- s.2,hs u v w ku kv kw,sc'.2]
 have hMf:∀ v∈M,v∉x::(P++y::Q):=fun v k c=>hM n hnF v k ((s.1 v).2 c);have hMf':∀ v∈M,v∉x::(P'++y::Q'):=fun v k c=>hMr v k ((sc'.1 v).2 c);obtain⟨side,hside⟩:=hp a b' P' Q' (e1 ▸ hr) e2
 have hex:∃ α':Θ->Nat,∀ T,(live T->(α T≠n->α' T=α T)/\(α T=n->onE (ct T) (ct b) x y P->α' T=n)/\(α T=n->¬onE (ct T) (ct b) x y P->α' T=F.length))/\(¬live T->α' T=if side T then n else F.length):=
  ⟨fun T=>open Classical in if live T then(if α T=n then if onE (ct T) (ct b) x y P then n else F.length else α T)else if side T then n else F.length,fun T=>by grind⟩
 obtain⟨α',hα⟩:=hex;have hav:∀ T T',(live T/\α T=n)->(live T'/\α T'=n)->T≠T'->Avo (x::(P++y::Q)) (ct T) (ct T'):=fun T T' k k' c7=>s.avo (k.2 ▸ h.avo T T' k.1 k'.1 c7 (by rw[k.2,k'.2]));have hon:∀ T,(live T/\α T=n)->∀ v,ct T v->v∈x::(P++y::Q):=fun T k v hv=>(s.1 v).1 (k.2 ▸ h.on T k.1 v hv);have S5:∀ T,(live T/\α T=n)->∃ r,K T r/\Sm (ct T) (x::(P++y::Q)) r:=fun T k=>by obtain⟨r,h1,h2⟩:=h.sim T k.1;exact⟨r,h1,fun u v w ku kv kw=>by rw[<- s.2,<- k.2,h2 u v w ku kv kw]⟩
 have H1:=half (K:=K) (ct:=ct) (old:=fun T=>(live T/\α T=n)/\T≠b/\onE (ct T) (ct b) x y P) (pc:=fun T=>pc T/\side T=true) hd M3 hm hMf hMf' hx hy hs1
  (fun T k=>⟨k.2.2.1,k.2.2.2,hav T b k.1 ⟨hb,e⟩ k.2.1,S5 T k.1⟩) (fun T T' k k'=>hav T T' k.1 k'.1)
  (fun T k=>by have:=hside T k.1;simp only[k.2,aBs]at this;exact⟨this.1,this.2.1,this.2.2.1⟩)
  (fun T T' k k' c7=>by have:=(hside T k.1).2.2.2 T' k'.1 c7;simp only[k.2,k'.2,aBs,true_implies]at this;exact this)
 have sd:∀ P Q:List Int,(x::(P++y::Q)).Nodup->Sc (x::(P++y::Q)) (y::(Q++x::P)):=fun P Q hn=>Fi (a:=x::P) (b:=y::Q) (by simpa using hn);have d1:=sd P Q hd;have d2:=sd P' Q' M3
 have H2:=half (K:=K) (ct:=ct) (old:=fun T=>(live T/\α T=n)/\T≠b/\¬onE (ct T) (ct b) x y P) (pc:=fun T=>pc T/\side T=false) (x:=y) (y:=x) (P:=Q) (Q:=P) (P':=Q') (Q':=P') (M:=M.reverse) (B:=ct b) (ML hd) (ML M3) ((aBq M).nodup_iff.2 hm) (fun v k c=>hMf v (aBm.1 k) ((d1.1 v).2 c)) (fun v k c=>hMf' v (aBm.1 k) ((d2.1 v).2 c)) hy hx
  (fun u v w ku kv kw=>by rw[<- d1.2,<- d2.2,hs1 u v w ku kv kw])
  (fun T k=>by
    have z:=Vk hd hx hy (hav T b k.1 ⟨hb,e⟩ k.2.1) (hon T k.1) k.2.2;obtain⟨r,h1,h2⟩:=S5 T k.1
    exact⟨z.1,z.2,d1.avo (hav T b k.1 ⟨hb,e⟩ k.2.1),r,h1,fun u v w ku kv kw=>by rw[<- d1.2,h2 u v w ku kv kw]⟩)
  (fun T T' k k' c7=>d1.avo (hav T T' k.1 k'.1 c7))
  (fun T k=>by have:=hside T k.1;simp only[k.2]at this;rw[aCI];exact⟨fun v hv=>by rw[aBm];exact this.1 v hv,this.2.1,this.2.2.1⟩)
  (fun T T' k k' c7=>by have:=(hside T k.1).2.2.2 T' k'.1 c7;simp only[k.2,k'.2,true_implies]at this;rw[aCI];exact this)
 rw[aCI]at H2;have cls:∀ T,live' T->(α' T=n/\(((live T/\α T=n)/\T≠b/\onE (ct T) (ct b) x y P)\/(pc T/\side T=true)))\/(α' T=F.length/\(((live T/\α T=n)/\T≠b/\¬onE (ct T) (ct b) x y P)\/(pc T/\side T=false)))\/(α' T=α T/\live T/\α T<F.length/\α T≠n):=fun T k=>by have:=hα T;have:=h.lt T;have:=hl T k;by_cases c:live T<;>by_cases d:side T<;>by_cases g:α T=n<;>by_cases i:onE (ct T) (ct b) x y P<;>grind
 have gl:=fun i=>SR hnF (x::(P++y::M.reverse)) (y::(Q++x::M)) i;have g1:(F.set n (x::(P++y::M.reverse))++[y::(Q++x::M)]).getD n []=x::(P++y::M.reverse):=by rw[gl,aAj rfl]
 have g2:(F.set n (x::(P++y::M.reverse))++[y::(Q++x::M)]).getD F.length []=y::(Q++x::M):=by rw[gl,aAa oO,aAj rfl]
 have g3:∀ i,i<F.length->i≠n->(F.set n (x::(P++y::M.reverse))++[y::(Q++x::M)]).getD i []=F.getD i []:=fun i h1 h2=>by rw[gl,aAa h2,aAa oO]
 have hlen:(F.set n (x::(P++y::M.reverse))++[y::(Q++x::M)]).length=F.length+1:=sS;generalize F.set n (x::(P++y::M.reverse))++[y::(Q++x::M)]=G at *;refine⟨α',fun T k=>?_,fun T k v hv=>?_,fun T T' k k' c7 he=>?_,fun T k=>?_⟩
 .rcases cls T k with c|c|c<;>omega
 .rcases cls T k with c|c|c
  .rw[c.1,g1];exact(H1.1 T c.2).1 v hv
  .rw[c.1,g2];exact(H2.1 T c.2).1 v hv
  .rw[c.1,g3 _ c.2.2.1 c.2.2.2];exact h.on T c.2.1 v hv
 .rcases cls T k with c|c|c<;>rcases cls T' k' with c'|c'|c'<;>first|omega|skip
  .rw[c.1,g1];exact H1.2 T T' c.2 c'.2 c7
  .rw[c.1,g2];exact H2.2 T T' c.2 c'.2 c7
  .rw[c.1,g3 _ c.2.2.1 c.2.2.2];exact h.avo T T' c.2.1 c'.2.1 c7 oO
 .rcases cls T k with c|c|c
  .rw[c.1,g1];exact(H1.1 T c.2).2
  .rw[c.1,g2];exact(H2.1 T c.2).2
  .rw[c.1,g3 _ c.2.2.1 c.2.2.2];exact h.sim T c.2.1
end Aw
namespace Aw
open Go Go.RowKit Pl Eu
abbrev kA(A:Led)(k:Nat):Int:=(A.getD k (0,0)).1
abbrev pA(A:Led)(k:Nat):Int:=(A.getD k (0,0)).2
theorem yC{A B:Led}{k:Nat}(h:k<A.length):(A++B).getD k (0,0)=A.getD k (0,0):=by rw[aAg,aBe h,<- aAg]
theorem SE{A:Led}{v:Int}(h:v∈A.map (·.1)):∃ k,k<A.length/\kA A k=v:=by obtain⟨p,hp,rfl⟩:=aAi.1 h;obtain⟨k,hk,rfl⟩:=aAA hp;exact⟨k,hk,by unfold kA;rw[aAg,aAh hk];rfl⟩
section
variable {near:Int->List Int} {may:Int->Bool} {Sd to:Int} {vs:List Int}
structure LA(near:Int->List Int)(may:Int->Bool)(Sd:Int)(A:Led):Prop where
 nd:(A.map (·.1)).Nodup
 pos:0<A.length
 hd:kA A 0=Sd
 par:∀ k,0<k->k<A.length->∃ j,j<k/\kA A j=pA A k/\kA A k∈near (pA A k)/\(pA A k=Sd\/may (pA A k)=true)
theorem LA.snoc{A:Led}(h:LA near may Sd A){w v:Int}(hw:w∉A.map (·.1))(hv:v∈A.map (·.1))(hn:w∈near v)(hm:v=Sd\/may v=true):LA near may Sd (A++[(w,v)]):=by
 refine⟨?_,sS,?_,fun k h0 hk=>?_⟩
 .rw[aAv,aAo];exact⟨h.nd,sS,fun a ha b hb e=>hw (by rw[List.map_singleton,aAk]at hb;have hb':b=w:=hb;rw[<- hb',<- e];exact ha)⟩
 .show((A++[(w,v)]).getD 0 (0,0)).1=Sd;rw[yC h.pos];exact h.hd
 .rw[aAn,List.length_singleton]at hk;by_cases hl:k<A.length
  .obtain⟨j,h1,h2,h3,h4⟩:=h.par k h0 hl;refine⟨j,h1,?_,?_,?_⟩
   .show((A++[(w,v)]).getD j (0,0)).1=((A++[(w,v)]).getD k (0,0)).2;rw[yC hl,yC oO];exact h2
   .show((A++[(w,v)]).getD k (0,0)).1∈near ((A++[(w,v)]).getD k (0,0)).2;rw[yC hl];exact h3
   .show((A++[(w,v)]).getD k (0,0)).2=Sd\/may ((A++[(w,v)]).getD k (0,0)).2=true;rw[yC hl];exact h4
  .have e:k=A.length:=oO;have g:(A++[(w,v)]).getD k (0,0)=(w,v):=by rw[e];simp
   obtain⟨j,hj,hjv⟩:=SE hv;refine⟨j,oO,?_,?_,?_⟩
   .show((A++[(w,v)]).getD j (0,0)).1=((A++[(w,v)]).getD k (0,0)).2;rw[yC hj,g];exact hjv
   .show((A++[(w,v)]).getD k (0,0)).1∈near ((A++[(w,v)]).getD k (0,0)).2;rw[g];exact hn
   .show((A++[(w,v)]).getD k (0,0)).2=Sd\/may ((A++[(w,v)]).getD k (0,0)).2=true;rw[g];exact hm
theorem GS{v:Int}(hm:v=Sd\/may v=true):∀(row:List Int) (A:Led) (Q:List Int),LA near may Sd A->v∈A.map (·.1)->to∉A.map (·.1)->(∀ u∈row,u∈near v)->
 ∃ D Q' hit,dN may to v ⟨A,Q,false⟩ row=⟨A++D,Q++Q',hit⟩/\LA near may Sd (A++D)/\(∀ p∈D,p.1∈row)/\(hit=true->to∈D.map (·.1))/\
  (hit=false->to∉(A++D).map (·.1)/\(∀ u∈row,u∈(A++D).map (·.1))/\(∀ u∈D.map (·.1),may u=true->u∈Q')/\(∀ q∈Q',q∈D.map (·.1)/\may q=true)/\Q'.length<=D.length)
 |[],A,Q,hA,_,ht,_=>⟨[],[],false,by simp[dN],by simpa using hA,sS,sS,by simpa using ht⟩
 |u::row,A,Q,hA,hv,ht,hr=>by
  have T0:∀ x∈row,x∈near v:=fun x hx=>hr x (aAc _ hx);have e0:dN may to v ⟨A,Q,false⟩ (u::row)=dN may to v (gP may to v ⟨A,Q,false⟩ u) row:=rfl;by_cases hu:u∈A.map (·.1)
  .have e1:gP may to v ⟨A,Q,false⟩ u=⟨A,Q,false⟩:=by simp only[gP];rw[aAa sS,aAj hu]
   obtain⟨D,Q',hit,h1,h2,h3,h4,h5⟩:=GS hm row A Q hA hv ht T0;refine⟨D,Q',hit,by rw[e0,e1];exact h1,h2,fun p hp=>aAc _ (h3 p hp),h4,fun h=>?_⟩;obtain⟨k1,k2,k3⟩:=h5 h;refine⟨k1,fun x hx=>?_,k3⟩;rcases aAe.1 hx with rfl|hx
   .rw[aAv];exact aAr _ hu
   .exact k2 x hx
  .have hA':=hA.snoc hu hv (hr u aAf) hm;by_cases hut:u=to
   .have e1:gP may to v ⟨A,Q,false⟩ u=⟨A++[(u,v)],Q,true⟩:=by simp only[gP];rw[aAa sS,aAa hu,aAj hut]
    refine⟨[(u,v)],[],true,?_,hA',sS,sF1 hut,sS⟩;rw[e0,e1,Df _ _ _ rfl,aAS]
   .have e1:gP may to v ⟨A,Q,false⟩ u=⟨A++[(u,v)],if may u=true then Q++[u]else Q,false⟩:=by simp only[gP];rw[aAa sS,aAa hu,aAa hut]
    have e2:(if may u=true then Q++[u]else Q)=Q++if may u=true then [u]else []:=by split<;>simp
    obtain⟨D,Q',hit,h1,h2,h3,h4,h5⟩:=GS hm row (A++[(u,v)]) (Q++if may u=true then [u]else []) hA' (by rw[aAv];exact aAr _ hv) (by
     rw[aAv,aAd];rintro(k|k)
     .exact ht k
     .simp at k;exact hut k.symm) T0
    refine⟨(u,v)::D,(if may u=true then [u]else [])++Q',hit,?_,by simpa using h2,?_,fun h=>?_,fun h=>?_⟩
    .rw[e0,e1,e2,h1];simp
    .intro p hp;rcases aAe.1 hp with rfl|hp
     .exact aAf
     .exact aAc _ (h3 p hp)
    .rw[aAm];exact aAc _ (h4 h)
    .obtain⟨k1,k2,k3,k4,k5⟩:=h5 h;have el:A++(u,v)::D=A++[(u,v)]++D:=sS;rw[el];refine⟨k1,fun x hx=>?_,fun x hx hmx=>?_,fun q hq=>?_,?_⟩
     .rcases aAe.1 hx with rfl|hx
      .simp
      .exact k2 x hx
     .rw[aAm]at hx;rcases aAe.1 hx with e|hx
      .subst e;rw[aAj hmx];simp
      .exact aAx _ (k3 x hx hmx)
     .rw[aAm];rcases aAd.1 hq with hq|hq
      .split at hq
       .rename_i hmu;rw[aAk]at hq;subst hq;exact⟨aAf,hmu⟩
       .cases hq
      .exact⟨aAc _ (k4 q hq).1,(k4 q hq).2⟩
     .rw[aAn,List.length_cons]
      split
      .simp;omega
      .simp;omega
def YT(near:Int->List Int)(may:Int->Bool)(Sd:Int)(S:Int->Prop):Prop:=S Sd/\∀ v,S v->(v=Sd\/may v=true)->∀ w∈near v,S w
theorem TB(hnear:∀ v,∀ w∈near v,w∈vs):∀(n:Nat) (A:Led) (Q:List Int),LA near may Sd A->to∉A.map (·.1)->(∀ v∈A.map (·.1),v∈vs)->(∀ q∈Q,q∈A.map (·.1)/\(q=Sd\/may q=true))->
 (∀ v∈A.map (·.1),v∉Q->(v=Sd\/may v=true)->∀ w∈near v,w∈A.map (·.1))->Q.length+vs.length<=n+A.length->
 (∃ A',bfs near may to n A Q=some (some A')/\LA near may Sd A'/\to∈A'.map (·.1)/\∀ v∈A'.map (·.1),v∈vs)\/∃ S,YT near may Sd S/\¬S to
 |n,A,[],hA,ht,_,_,hc,_=>.inr ⟨fun v=>v∈A.map (·.1),⟨by
   have:=hA.hd;rw[<- this];unfold kA;rw[aAg,aAh hA.pos]
   exact aAt (aAE _),fun v hv hm w hw=>hc v hv sS hm w hw⟩,ht⟩
 |0,A,v::Q,hA,_,hs,_,_,hl=>by have:=aAy hA.nd hs;rw[aAD]at this;rw[List.length_cons]at hl;omega
 |n+1,A,v::Q,hA,ht,hs,hq,hc,hl=>by
  obtain⟨hv,hm⟩:=hq v aAf;obtain⟨D,Q',hit,h1,h2,h3,h4,h5⟩:=GS (to:=to) hm (near v) A Q hA hv ht fun _ h=>h;have hs':∀ x∈(A++D).map (·.1),x∈vs:=fun x hx=>by
   rw[aAv]at hx;rcases aAd.1 hx with hx|hx
   .exact hs x hx
   .obtain⟨p,hp,rfl⟩:=aAi.1 hx;exact hnear _ _ (h3 p hp)
  simp only[bfs,h1];cases hit with
  |true=>exact .inl ⟨_,sS,h2,by rw[aAv];exact aAx _ (h4 rfl),hs'⟩
  |false=>
   obtain⟨k1,k2,k3,k4,k5⟩:=h5 rfl;rw[aAa sS];refine TB hnear n (A++D) (Q++Q') h2 k1 hs' (fun q hqm=>?_) (fun u hu hnq hmu w hw=>?_) ?_
   .rw[aAv];rcases aAd.1 hqm with h|h
    .have:=hq q (aAc _ h);exact⟨aAr _ this.1,this.2⟩
    .exact⟨aAx _ (k4 q h).1,.inr (k4 q h).2⟩
   .rw[aAd,aCx]at hnq;by_cases huA:u∈A.map (·.1)
    .by_cases e:u=v
     .subst e;exact k2 w hw
     .rw[aAv];exact aAr _ (hc u huA (by rw[aAe,aCx];exact⟨e,hnq.1⟩) hmu w hw)
    .rw[aAv]at hu;have hD:=(aAd.1 hu).resolve_left huA;rcases hmu with e|hmu
     .exfalso;apply huA;rw[e,<- hA.hd];unfold kA;rw[aAg,aAh hA.pos];exact aAt (aAE _)
     .exact absurd (k3 u hD hmu) hnq.2
   .simp only[aAn,List.length_cons]at hl ⊢;omega
theorem RZ:∀ {A:Led},(A.map (·.1)).Nodup->∀ {k:Nat},k<A.length->kI A (kA A k)=some (pA A k)
 |a::A,hn,0,_=>by simp[kI,kA,pA]
 |a::A,hn,k+1,h=>by
  rw[aAm,aAq]at hn;have ih:=RZ hn.2 (k:=k) (by simpa using h)
  have c7:kA A k≠a.1:=fun e=>hn.1 (by
   rw[<- e];unfold kA;rw[aAg,aAh (by simpa using h)]
   exact aAt (aAE _))
  show kI (a::A) (kA A k)=some (pA A k);unfold kI;rw[aAa c7];exact ih
theorem UG{A:Led}(hA:LA near may Sd A):∀(n k:Nat),k<A.length->k<=n->∃ l,iQ A Sd n (kA A k)=some l/\(kA A k::l).getLast (by simp)=Sd/\(∀ x y,(x,y)∈lnk (kA A k::l)->x∈near y/\(y=Sd\/may y=true))/\
 (∀ y∈l,∃ j,j<k/\kA A j=y)/\(kA A k::l).Nodup:=by
 have hinj:∀ i j,i<A.length->j<A.length->kA A i=kA A j->i=j:=fun i j hi hj e=>by
  have e1:(A.map (·.1))[i]'(by simpa using hi)=(A.map (·.1))[j]'(by simpa using hj):=by unfold kA at e;rw[aAg,aAh hi,aAg,aAh hj]at e;simpa using e
  exact get_inj hA.nd _ _ e1
 have base:∀ n k,k<A.length->kA A k=Sd->∃ l,iQ A Sd n (kA A k)=some l/\(kA A k::l).getLast (by simp)=Sd/\(∀ x y,(x,y)∈lnk (kA A k::l)->x∈near y/\(y=Sd\/may y=true))/\(∀ y∈l,∃ j,j<k/\kA A j=y)/\(kA A k::l).Nodup:=fun n k hk e=>by refine⟨[],?_,by simpa using e,fun x y h=>by simp[lnk]at h,sS,sS⟩;cases n<;>simp[iQ,e]
 intro n;induction n with
 |zero=>intro k hk hkn;have:k=0:=oO;subst this;exact base 0 0 hk hA.hd
 |succ n ih=>
  intro k hk hkn;by_cases e:kA A k=Sd
  .exact base _ _ hk e
  have h0:0<k:=by
   rcases aCB k with h|h
   .subst h;exact absurd hA.hd e
   .exact h
  obtain⟨j,j1,j2,j3,j4⟩:=hA.par k h0 hk;obtain⟨l,l1,l2,l3,l4,l5⟩:=ih j oO oO;have hb:iQ A Sd (n+1) (kA A k)=some (kA A j::l):=by rw[iQ,aAa e,RZ hA.nd hk];show(iQ A Sd n (pA A k)).map _=_;rw[<- j2,l1];rfl
  refine⟨kA A j::l,hb,?_,fun x y h=>?_,fun y hy=>?_,?_⟩
  .rw[List.getLast_cons sS];exact l2
  .rcases aAe.1 h with h|h
   .injection h with e1 e2;subst e1;subst e2;rw[j2];exact⟨j3,j4⟩
   .exact l3 x y h
  .rcases aAe.1 hy with rfl|hy
   .exact⟨j,j1,rfl⟩
   .obtain⟨i,i1,i2⟩:=l4 y hy;exact⟨i,oO,i2⟩
  .refine aAq.2 ⟨fun hm=>?_,l5⟩;rcases aAe.1 hm with h|h
   .have:=hinj k j hk oO h;omega
   .obtain⟨i,i1,i2⟩:=l4 _ h;have:=hinj i k oO hk i2;omega
theorem Mu:∀ {l:List Int} {a y:Int},y∈l->∃ x,(x,y)∈lnk (a::l)
 |b::l,a,y,h=>by
  rcases aAe.1 h with rfl|h
  .exact⟨a,by simp[lnk]⟩
  .obtain⟨x,hx⟩:=Mu (a:=b) h;exact⟨x,aAc _ hx⟩
theorem MT(hnear:∀ v,∀ w∈near v,w∈vs)(hf:Sd∈vs)(ht:to∈vs)(c7:Sd≠to){n:Nat}(hn:vs.length+1<=n)(hr:∀ S,YT near may Sd S->S to):
 ∃ w,vY vs near may Sd to n=some w/\w.Nodup/\2<=w.length/\w.length<=vs.length/\(∀ v∈w,v∈vs)/\w.getD 0 0=Sd/\w.getD (w.length-1) 0=to/\(∀ x y,(x,y)∈lnk w->y∈near x)/\∀ v∈dF w,may v=true:=by
 have hA0:LA near may Sd [(Sd,Sd)]:=⟨sS,sS,rfl,fun k h0 hk=>by simp at hk;omega⟩;rcases TB (may:=may) (to:=to) hnear n [(Sd,Sd)] [Sd] hA0 (by simpa using fun e=>c7 e.symm) (by simpa using hf) sS (fun v hv hnq=>by simp at hv;exact absurd (sF1 hv) hnq) (by simp;omega)with⟨A,h1,hA,h2,h3⟩|⟨S,h1,h2⟩;rotate_left
 .exact absurd (hr S h1) h2
 obtain⟨k,hk,hkt⟩:=SE h2;have hl:A.length<=vs.length:=by
  have:=aAy hA.nd h3
  rwa [aAD]at this
 obtain⟨l,l1,l2,l3,l4,l5⟩:=UG hA n k hk oO;rw[hkt]at l1 l2 l3 l5;have j5:∀ v∈to::l,v∈vs:=fun v hv=>by
  rcases aAe.1 hv with rfl|hv
  .exact ht
  .obtain⟨j,j1,rfl⟩:=l4 v hv;refine h3 _ ?_;unfold kA;rw[aAg,aAh oO];exact aAt (aAE _)
 have hlne:l≠[]:=by rintro rfl;simp at l2;exact c7 l2.symm
 have hw:vY vs near may Sd to n=some (to::l).reverse:=by unfold vY;rw[aAa (by simp[hf,ht]),aAa c7,h1];show(iQ A Sd n to).map _=_;rw[l1];rfl
 have hnd:((to::l).reverse).Nodup:=(aBq _).nodup_iff.2 l5;have hlen:2<=((to::l).reverse).length:=by have:=aBh.2 hlne;rw[aEG,List.length_cons];omega
 have g0:((to::l).reverse).getD 0 0=Sd:=by
  have e:(to::l)=(to::l).dropLast++[Sd]:=by rw[<- l2,aCi]
  rw[e,aCw];rfl
 have g1:((to::l).reverse).getD (((to::l).reverse).length-1) 0=to:=by rw[aEG,List.length_cons,aBP,aCZ,aAg,aBx sS];simp
 refine⟨_,hw,hnd,hlen,?_,fun v hv=>j5 v (aBm.1 hv),g0,g1,fun x y h=>?_,fun v hv=>?_⟩
 .exact aAy hnd fun v hv=>j5 v (aBm.1 hv)
 .rw[(pB _).mem_iff,aAi]at h;obtain⟨q,hq,e⟩:=h;have:q=(y,x):=by rw[<- aBN q,e];rfl
  rw[this]at hq;exact(l3 y x hq).1
 .have hs:=nW hlen;rw[g0,g1]at hs;have hv2:=nN hv;have hvl:v∈to::l:=aBm.1 hv2;rw[hs]at hnd;have n1:v≠Sd:=fun e=>(aAq.1 hnd).1 (by rw[<- e];exact aAr _ hv);have n2:v≠to:=fun e=>(aAo.1 (aAq.1 hnd).2).2.2 v hv to sS e;have hv3:v∈l:=(aAe.1 hvl).resolve_left n2;obtain⟨x,hx⟩:=Mu (a:=to) hv3;exact(l3 x v hx).2.resolve_left n1
end
end Aw
end Go.Proofs.YtbgngpdonpeboaaGreatDoor
