/- Lemmas. -/
import Derived.Test.YtbgngpdonpeboaaGreatDoorJl
set_option linter.unusedSectionVars false
set_option linter.defProp false
namespace Go.Proofs.YtbgngpdonpeboaaGreatDoor
namespace Aw
open Go Go.RowKit Pl Eu
section
variable {E:List Ed} {s:Int->Int} (hP:PlE E s) {A:List (Int×Int)} {F:List (List Int)} {x y:Int} {P Q M:List Int}
 (hE:Emb E s A ((x::(P++y::Q))::F)) (hw:WyE E ((x::(P++y::Q))::F) x y M) {u t:Int} (hu:(x,u)∈ad (x::(M++[y]))) (ht:(t,y)∈ad (x::(M++[y])))
include hP hE hw hu ht
theorem zO:∃ e∈E,ae e=bk (y,t):=by rw[show bk (y,t)=bk (t,y) from aH _ _];exact hw.ed t y ht
theorem Nc:cd (x,u)∉cf (bm A):=fun k=>rN hE hw (.inl hu) ((hE.at_iff hP (p:=(x,u)) (hw.ed x u hu)).1 k)
theorem NV:cd (y,t)∉cf (bm A):=fun k=>rN hE hw (p:=(y,t)) (.inr ht) ((hE.at_iff hP (zO hP hE hw hu ht)).1 k)
theorem VD(j:SdT s A (x::(P++y::Q)) (cd (x,u))):∃ b,(x,b)∈ad (x::(P++[y]))/\Nx s (cf (bm A)) (cd (x,u)) (cd (x,b)):=by
 obtain⟨p,c,g⟩:=j;have d:p∈PF ((x::(P++y::Q))::F):=bB.2 ⟨_,ar,c⟩;have e:x=p.1:=(hP.orb (p:=(x,u)) (hw.ed x u hu) (hE.sub d)).1 g.orb;obtain⟨n,o,m,q,r,v,w⟩:=xZ hE hw;have f:p=(x,p.2):=jj e.symm rfl;refine⟨p.2,?_,f ▸ g⟩;rw[bH]at c;rcases c with h|h
 .rw[<- f];exact h
 .have:=eO (y:=x) (l:=y::Q) (a:=p.1) (b:=p.2) h;rw[<- e]at this;rcases ai.1 this with k|k
  .exact absurd k (Cw hE hw).2.2
  .exact absurd k m
theorem TV(j:SdT s A (x::(P++y::Q)) (cd (x,u))):∃ b,(y,b)∈ad (y::(Q++[x]))/\Nx s (cf (bm A)) (cd (y,t)) (cd (y,b)):=by
 obtain⟨p,c,g⟩:=hE.wayT hP hw hu ht ar j;have d:p∈PF ((x::(P++y::Q))::F):=bB.2 ⟨_,ar,c⟩;have e:y=p.1:=(hP.orb (p:=(y,t)) (zO hP hE hw hu ht) (hE.sub d)).1 g.orb;obtain⟨n,m,o,q,r,v,w⟩:=xZ hE hw;have f:p=(y,p.2):=jj e.symm rfl;refine⟨p.2,?_,f ▸ g⟩;rw[bH]at c;rcases c with h|h
 .have:=eO (y:=y) (l:=x::P) (a:=p.1) (b:=p.2) h;rw[<- e]at this;rcases ai.1 this with k|k
  .exact absurd k.symm (Cw hE hw).2.2
  .exact absurd k m
 .rw[<- f];exact h
variable {bx by':Int} (hbx:(x,bx)∈ad (x::(P++[y]))) (hby:(y,by')∈ad (y::(Q++[x]))) (hx:Nx s (cf (bm A)) (cd (x,u)) (cd (x,bx))) (hy:Nx s (cf (bm A)) (cd (y,t)) (cd (y,by')))
include hbx hby hx hy
theorem YZ:(x,bx)∈PF ((x::(P++y::Q))::F)/\(y,by')∈PF ((x::(P++y::Q))::F):=
 ⟨bB.2 ⟨_,ar,bH.2 (.inl hbx)⟩,bB.2 ⟨_,ar,bH.2 (.inr hby)⟩⟩
theorem WZ{r:PP}(j:r∈(x::(P++y::Q))::F){a v b:Int}(k:(a,v)∈prs r)(l:(v,b)∈prs r)(nx:(v,b)≠(x,bx))(q:(v,b)≠(y,by')):
 Nx s (cf (bm (ad (x::(M++[y]))++A))) (s (cd (v,a))) (cd (v,b)):=by
 have h:=hE.step r j a v b k l;have f:(v,a)∈PF ((x::(P++y::Q))::F):=hE.swap (bB.2 ⟨r,j,k⟩);have g:(v,b)∈PF ((x::(P++y::Q))::F):=bB.2 ⟨r,j,l⟩;have d:=hE.sub f;obtain⟨m,n⟩:=YZ hP hE hw hu ht hbx hby hx hy;by_cases c:v∈x::(M++[y])
 .rcases ai.1 c with rfl|c
  .exact Nx.add_other hP.per (OS hP hE hw hu ht) (Nc hP hE hw hu ht) hx ((hP.orb (p:=(v,u)) (hw.ed v u hu) d).2 rfl) h fun e=>nx (hP.cdin (hE.sub g) (hE.sub m) e)
  .rcases am.1 c with c|c
   .exact absurd f (hw.off v c a)
   .have:=bi.1 c;subst this;exact Nx.add_other hP.per (OD hP hE hw hu ht) (NV hP hE hw hu ht) hy ((hP.orb (zO hP hE hw hu ht) d).2 rfl) h fun e=>q (hP.cdin (hE.sub g) (hE.sub n) e)
 .exact h.same fun z o=>KW hP hE hw hu ht (p:=(v,a)) d c z ((Orb.step s _).trans o)
theorem Tx{r:PP}(o:r∈(x::(P++y::M.reverse))::(y::(Q++x::M))::F){a v b:Int}(d:(a,v)∈prs r)(c:(v,b)∈prs r):
 Nx s (cf (bm (ad (x::(M++[y]))++A))) (s (cd (v,a))) (cd (v,b)):=by
 obtain⟨b1,b2⟩:=YZ hP hE hw hu ht hbx hby hx hy;obtain⟨V,W,X,r4,r5,r6,r7⟩:=xZ hE hw;obtain⟨m1,m2,B⟩:=Cw hE hw;have I:=fun v=>Hj hE hw (v:=v);have g:x::(P++y::Q)∈(x::(P++y::Q))::F:=ar;have z:=fun(r:PP) o a v b d c=>WZ hP hE hw hu ht hbx hby hx hy (r:=r) o (a:=a) (v:=v) (b:=b) d c;have D:=Nc hP hE hw hu ht;have H:=NV hP hE hw hu ht
 have S:∀ a,(a,x)∈PF ((x::(P++y::Q))::F)->(a,x)∈prs (x::(P++y::Q))->Nx s (cf (bm (ad (x::(M++[y]))++A))) (s (cd (x,a))) (cd (x,u)):=fun a C L=>
  Nx.add_at hP.per (OS hP hE hw hu ht) D hx (hE.dart.2 ⟨_,hE.swap C,rfl⟩) ((hP.orb (p:=(x,u)) (hw.ed x u hu) (hE.sub (hE.swap C))).2 rfl) (hE.step _ g a x bx L (bH.2 (.inl hbx)))
 have T:∀ a,(a,y)∈PF ((x::(P++y::Q))::F)->(a,y)∈prs (x::(P++y::Q))->Nx s (cf (bm (ad (x::(M++[y]))++A))) (s (cd (y,a))) (cd (y,t)):=fun a C L=>
  Nx.add_at hP.per (OD hP hE hw hu ht) H hy (hE.dart.2 ⟨_,hE.swap C,rfl⟩) ((hP.orb (zO hP hE hw hu ht) (hE.sub (hE.swap C))).2 rfl) (hE.step _ g a y by' L (bH.2 (.inr hby)))
 have N:=Nx.add_of hP.per (OS hP hE hw hu ht) D hx;have R:=Nx.add_of hP.per (OD hP hE hw hu ht) H hy;rcases ai.1 o with rfl|o
 .rw[bH]at d c;rcases d with d|d
  .have j:=iI d;rcases c with c|c
   .have h:=eO (y:=y) (l:=x::P) c;refine z _ g a v b (bH.2 (.inl d)) (bH.2 (.inl c)) (fun e=>?_) fun e=>?_
    .have e:v=x:=congrArg Prod.fst e;subst e;rcases am.1 j with k|k
     .exact V k
     .exact B (bi.1 k)
    .have e:v=y:=congrArg Prod.fst e;subst e;rcases ai.1 h with k|k
     .exact B k.symm
     .exact W k
   .have m:=jR.1 c;have h:=iI m;have w:v=y:=by
     rcases am.1 h with k|k
     .rcases am.1 j with f|f
      .exact absurd (aq _ (dg _ f)) (I v k)
      .exact bi.1 f
     .exact bi.1 k
    subst w;rw[wI hw.nd m ht];exact T a (bB.2 ⟨_,g,bH.2 (.inl d)⟩) (bH.2 (.inl d))
  .have n:=jR.1 d;rcases c with c|c
   .have j:=eO (y:=y) (l:=x::M) n;have h:=eO (y:=y) (l:=x::P) c;have q:v=x:=by
     rcases ai.1 j with k|k
     .exact k
     .rcases ai.1 h with f|f
      .exact f
      .exact absurd (aq _ (dg _ f)) (I v k)
    subst q;rw[eR hw.nd n hu,eR r6 c hbx];exact N
   .have m:=jR.1 c;have j:=eO (y:=y) (l:=x::M) n;have h:=iI m;have K:v∈M:=by
     rcases ai.1 j with k|k
     .subst k;rcases am.1 h with f|f
      .exact f
      .exact absurd (bi.1 f) B
     .exact k
    exact NI hP hE hw hu ht K (.inr ⟨n,m⟩)
 rcases ai.1 o with rfl|o
 .rw[bH]at d c;rcases d with d|d
  .have j:=iI d;rcases c with c|c
   .have h:=eO (y:=x) (l:=y::Q) c;refine z _ g a v b (bH.2 (.inr d)) (bH.2 (.inr c)) (fun e=>?_) fun e=>?_
    .have e:v=x:=congrArg Prod.fst e;subst e;rcases ai.1 h with k|k
     .exact B k
     .exact X k
    .have e:v=y:=congrArg Prod.fst e;subst e;rcases am.1 j with k|k
     .exact r4 k
     .exact B (bi.1 k).symm
   .have h:=eO (y:=y) (l:=x::M) c;have q:v=x:=by
     rcases ai.1 h with k|k
     .exact k
     .rcases am.1 j with f|f
      .exact absurd (aq _ (dE _ (aq _ f))) (I v k)
      .exact bi.1 f
    subst q;rw[eR hw.nd c hu];exact S a (bB.2 ⟨_,g,bH.2 (.inr d)⟩) (bH.2 (.inr d))
  .have j:=iI d;rcases c with c|c
   .have h:=eO (y:=x) (l:=y::Q) c;have w:v=y:=by
     rcases am.1 j with k|k
     .rcases ai.1 h with f|f
      .exact f
      .exact absurd (aq _ (dE _ (aq _ f))) (I v k)
     .exact bi.1 k
    subst w;rw[wI hw.nd d ht,eR r7 c hby];exact R
   .have h:=eO (y:=y) (l:=x::M) c;have K:v∈M:=by
     rcases ai.1 h with k|k
     .subst k;rcases am.1 j with f|f
      .exact f
      .exact absurd (bi.1 f) B
     .exact k
    exact NI hP hE hw hu ht K (.inl ⟨d,c⟩)
 .have J:=hE.nd;have J:(prs (x::(P++y::Q))++PF F).Nodup:=J;have U:=(bo.1 J).2.2;refine z r (aq _ o) a v b d c (fun e=>?_) fun e=>?_
  .exact U (x,bx) (bH.2 (.inl hbx)) (x,bx) (bB.2 ⟨r,o,e ▸ c⟩) rfl
  .exact U (y,by') (bH.2 (.inr hby)) (y,by') (bB.2 ⟨r,o,e ▸ c⟩) rfl
end
section
variable {E:List Ed} {s:Int->Int} (hP:PlE E s) {A:List (Int×Int)} {F:List (List Int)} {x y:Int} {P Q M:List Int}
 (hE:Emb E s A ((x::(P++y::Q))::F)) (hw:WyE E ((x::(P++y::Q))::F) x y M) {u t:Int} (hu:(x,u)∈ad (x::(M++[y]))) (ht:(t,y)∈ad (x::(M++[y])))
 (hT:SdT s A (x::(P++y::Q)) (cd (x,u)))
include hP hE hw hu ht hT
theorem Emb.lay:Emb E s (ad (x::(M++[y]))++A) ((x::(P++y::M.reverse))::(y::(Q++x::M))::F):=by
 obtain⟨bx,J,U⟩:=VD hP hE hw hu ht hT;obtain⟨S,K,V⟩:=TV hP hE hw hu ht hT;obtain⟨r1,r2,r3,r4,r5,X,r7⟩:=xZ hE hw;have R:M.Nodup:=(bo.1 (bw.1 hw.nd).2).1;refine⟨hE.arcs_way hw,Zr hE hw,fun r f=>?_,fun p=>?_,fun r f a v b D H=>Tx hP hE hw hu ht J K U V f D H,?_⟩
 .rcases ai.1 f with rfl|f
  .have e:x::(P++y::M.reverse)=(x::(P++[y]))++M.reverse:=Y;rw[e,bo];refine⟨X,(ik M).nodup_iff.2 R,fun a j b l e=>?_⟩;subst e;refine Hj hE hw (iu.1 l) ?_;rcases ai.1 j with k|k
   .rw[k];exact ar
   .refine aq _ ?_;rcases am.1 k with k|k
    .exact dg _ k
    .rw[bi.1 k];simp
  rcases ai.1 f with rfl|f
  .have e:y::(Q++x::M)=(y::(Q++[x]))++M:=Y;rw[e,bo];refine⟨r7,R,fun a j b l e=>?_⟩;subst e;refine Hj hE hw l ?_;rcases ai.1 j with k|k
   .rw[k];simp
   .rcases am.1 k with k|k
    .exact aq _ (dE _ (aq _ k))
    .rw[bi.1 k];exact ar
  .exact hE.simple r (aq _ f)
 .rw[BW hE hw,hE.mem,am,am];constructor
  .rintro((h|h)|h|h)
   .exact .inl (.inr h)
   .exact .inr (.inr h)
   .exact .inl (.inl h)
   .exact .inr (.inl h)
  .rintro((h|h)|h|h)
   .exact .inr (.inl h)
   .exact .inl (.inl h)
   .exact .inr (.inr h)
   .exact .inl (.inr h)
 .have d:=cO hP.per.eqv (bm (ad (x::(M++[y]))++A));have B:∀ z∈cf (bm (ad (x::(M++[y]))++A)),cw (Orb s) (bm (ad (x::(M++[y]))++A)) (cd (x,u)) z:=by
   have o:∀ p∈ad (x::(M++[y])),cw (Orb s) (bm (ad (x::(M++[y]))++A)) (cd (x,u)) (cd p):=by
    intro p g;obtain⟨a,L,N⟩:∃ a L,ad (x::(M++[y]))=(x,a)::L:=by
     cases M with
     |nil=>exact⟨y,[],rfl⟩
     |cons m M=>exact⟨m,_,rfl⟩
    have I:a=u:=eR hw.nd (by rw[N];exact ar) hu;subst I;have c:=hP.way (w:=x::(M++[y])) hw.ed;have e:bm (ad (x::(M++[y])))=(cd (x,a),cd (x,a).swap)::bm L:=by rw[N];rfl
    rw[e]at c;refine Bl d (fun _ _ k=>gC _ k) c (fun q C=>gV hP.per.eqv _ ?_) (cd p,cd p.swap) ?_
    .rw[<- e]at C;obtain⟨p,g,rfl⟩:=ao.1 C;exact ao.2 ⟨p,dg _ g,rfl⟩
    .rw[<- e];exact ao.2 ⟨p,g,rfl⟩
   intro z W;obtain⟨p,g,rfl⟩:=gD.1 W;have T:p∈PF ((x::(P++y::Q))::F)\/p∈ad (x::(M++[y]))\/p.swap∈ad (x::(M++[y])):=by
    rw[hE.mem];simp only[am]at g;rcases g with(k|k)|k|k
    .exact .inr (.inl k)
    .exact .inl (.inl k)
    .exact .inr (.inr k)
    .exact .inl (.inr k)
   rcases T with k|k|k
   .obtain⟨ux,n⟩:=hw.onx;have D:Orb s (cd (x,u)) (cd (x,ux)):=(hP.orb (p:=(x,u)) (hw.ed x u hu) (hE.sub n)).2 rfl;have H:=hE.con _ (hE.dart.2 ⟨_,n,rfl⟩) _ (hE.dart.2 ⟨_,k,rfl⟩)
    exact d.trans (gC _ D) (BX hP.per.eqv (fun q C=>by
     obtain⟨q,h,rfl⟩:=ao.1 C
     exact ao.2 ⟨q,dE _ h,rfl⟩) H)
   .exact o p k
   .refine d.trans (o _ k) (d.symm ?_);have:=gV hP.per.eqv (bm (ad (x::(M++[y]))++A)) (p:=(cd p.swap,cd p)) (ao.2 ⟨p.swap,dg _ k,by rw[lk]⟩);exact d.symm this
  exact fun a j b l=>d.trans (d.symm (B a j)) (B b l)
theorem Emb.lay_side{p:Int×Int}(o:∃ e∈E,ae e=bk p){J:Int}(H:(p.1,J)∈PF ((x::(P++y::Q))::F)){r:PP}(g:r∈(x::(P++y::M.reverse))::(y::(Q++x::M))::F)
 (h:SdT s (ad (x::(M++[y]))++A) r (cd p)):(r∈F/\SdT s A r (cd p))\/((r=x::(P++y::M.reverse)\/r=y::(Q++x::M))/\SdT s A (x::(P++y::Q)) (cd p)):=by
 obtain⟨bx,w,L⟩:=VD hP hE hw hu ht hT;obtain⟨v,B,N⟩:=TV hP hE hw hu ht hT;obtain⟨q,c,j⟩:=h;have D:q∈PF ((x::(P++y::M.reverse))::(y::(Q++x::M))::F):=bB.2 ⟨r,g,c⟩;have d:=Dp hP hE hw hu ht ((BW hE hw q).1 D);have T:=(hP.orb o d).1 j.orb;have m:∀ q,q∈prs r->q∈PF ((x::(P++y::Q))::F)->Nx s (cf (bm A)) (cd p) (cd q)->(r∈F/\SdT s A r (cd p))\/((r=x::(P++y::M.reverse)\/r=y::(Q++x::M))/\SdT s A (x::(P++y::Q)) (cd p)):=by
  intro q c n j;rcases ai.1 g with e|g
  .refine .inr ⟨.inl e,q,?_,j⟩;rw[e,bH]at c;rw[bH];rcases c with k|k
   .exact .inl k
   .exact absurd n (rN hE hw (.inr (jR (a:=q.1) (b:=q.2).1 k)))
  rcases ai.1 g with e|g
  .refine .inr ⟨.inr e,q,?_,j⟩;rw[e,bH]at c;rw[bH];rcases c with k|k
   .exact .inr k
   .exact absurd n (rN hE hw (.inl k))
  .exact .inl ⟨g,q,c,j⟩
 have I:x::(P++y::Q)∈(x::(P++y::Q))::F:=ar;have l:∀ q,q∈prs r->q∉PF ((x::(P++y::Q))::F)->r=x::(P++y::M.reverse)\/r=y::(Q++x::M):=by
  intro q c S;rcases ai.1 g with e|g
  .exact .inl e
  rcases ai.1 g with e|g
  .exact .inr e
  .exact absurd (bB.2 ⟨r,aq _ g,c⟩) S
 by_cases f:p.1∈x::(M++[y])
 .rcases ai.1 f with f|f
  .have C:Orb s (cd (x,u)) (cd p):=(hP.orb (p:=(x,u)) (hw.ed x u hu) o).2 f.symm;rcases Nx.back (OS hP hE hw hu ht) L C j with⟨e,k⟩|⟨e,k⟩
   .have e:q=(x,u):=hP.cdin d (hw.ed x u hu) e;exact .inr ⟨l q c (by rw[e];exact rN hE hw (.inl hu)),(x,bx),bH.2 (.inl w),k⟩
   .exact m q c ((hE.at_iff hP d).1 k.mem) k
  .rcases am.1 f with f|f
   .exact absurd H (hw.off _ f J)
   .have f:=bi.1 f;have C:Orb s (cd (y,t)) (cd p):=(hP.orb (zO hP hE hw hu ht) o).2 f.symm;rcases Nx.back (OD hP hE hw hu ht) N C j with⟨e,k⟩|⟨e,k⟩
    .have e:q=(y,t):=hP.cdin d (zO hP hE hw hu ht) e;exact .inr ⟨l q c (by rw[e];exact rN hE hw (p:=(y,t)) (.inr ht)),(y,v),bH.2 (.inr B),k⟩
    .exact m q c ((hE.at_iff hP d).1 k.mem) k
 .have K:=KW hP hE hw hu ht o f;have k:Nx s (cf (bm A)) (cd p) (cd q):=j.same fun z R=>(K z R).symm;exact m q c ((hE.at_iff hP d).1 k.mem) k
end
def Um(x:Int):∀ l:PP,(prs (x::l)).Perm (prs (l++[x]))
 |[]=>.refl _
 |y::l=>by
  have a:prs (x::y::l)=(x,y)::ad (y::(l++[x])):=by unfold prs;simp[ad]
  have b:prs (y::l++[x])=ad ((y::l)++x::[y]):=by unfold prs;simp
  rw[a,b,fR];refine List.perm_cons_append_cons (l₂:=[]) _ ?_;simp
theorem qP:∀ a b:PP,(prs (a++b)).Perm (prs (b++a))
 |[],b=>by simp
 |x::a,b=>by have c:=Um x (a++b);have d:=qP a (b++[x]);rw[dw]at c;have e:b++[x]++a=b++x::a:=Y;rw[e]at d;exact c.trans d
variable{x y:Int}{s:Int->Int}{A:List (Int×Int)}{F:List (List Int)}{E:List Ed}{M P Q a r:List Int}
def SdT.turn(e:(prs r).Perm (prs a)){d:Int}(h:SdT s A r d):SdT s A a d:=by obtain⟨p,b,c⟩:=h;exact⟨p,e.mem_iff.1 b,c⟩
section
variable {E:List Ed} {s:Int->Int} {A:List (Int×Int)} {F F':List (List Int)}
theorem Emb.permF(a:Emb E s A F)(b:F.Perm F'):Emb E s A F':=by have hf:(PF F).Perm (PF F'):=b.flatMap_right _;exact⟨a.oU,hf.nodup_iff.1 a.nd,fun r c=>a.simple r (b.mem_iff.2 c),fun p=>by rw[<- hf.mem_iff];exact a.mem p,fun r c=>a.step r (b.mem_iff.2 c),a.con⟩
theorem Emb.turn{a b:PP}(c:Emb E s A ((a++b)::F)):Emb E s A ((b++a)::F):=by
 have d:=qP a b;have hf:(PF ((a++b)::F)).Perm (PF ((b++a)::F)):=d.append_right _;refine⟨c.oU,hf.nodup_iff.1 c.nd,fun r h=>?_,fun p=>by rw[<- hf.mem_iff];exact c.mem p,fun r h u v w e f=>?_,c.con⟩
 .rcases ai.1 h with rfl|h
  .exact(kT (l₁:=a) (l₂:=b)).nodup_iff.1 (c.simple _ ar)
  .exact c.simple r (aq _ h)
 .rcases ai.1 h with rfl|h
  .exact c.step _ ar u v w (d.mem_iff.2 e) (d.mem_iff.2 f)
  .exact c.step r (aq _ h) u v w e f
theorem D5{r:PP}{x y:Int}(d:x∈r)(c:y∈r)(W0:x≠y):∃ a b P Q,r=a++b/\b++a=x::(P++y::Q):=by
 obtain⟨a,b,rfl⟩:=fo d;refine⟨a,x::b,?_⟩;have:y∈b++a:=by
  rw[am,ai]at c;rw[am];rcases c with h|h|h
  .exact .inr h
  .exact absurd h.symm W0
  .exact .inl h
 obtain⟨P,Q,h⟩:=fo this;exact⟨P,Q,rfl,by rw[<- h];rfl⟩
theorem Emb.norm(g:Emb E s A F){r:PP}(h:r∈F){x y:Int}(j:x∈r)(k:y∈r)(W0:x≠y):∃ a b P Q F',r=a++b/\b++a=x::(P++y::Q)/\F.Perm (r::F')/\Emb E s A ((x::(P++y::Q))::F'):=by obtain⟨a,b,P,Q,e,f⟩:=D5 j k W0;obtain⟨c,d,rfl⟩:=fo h;refine⟨a,b,P,Q,c++d,e,f,mw,?_⟩;have:=g.permF (F':=(a++b)::(c++d)) (by rw[<- e];exact mw);rw[<- f];exact this.turn
end
structure Rng(E:QR)(x y:Int)(M:PP):Prop where
 nd:(x::(M++[y])).Nodup
 ne:M≠[]
 ed:∀ u v,(u,v)∈prs (x::(M++[y]))->∃ e∈E,ae e=aj u v
def iB{p:Int×Int}:p∈prs (x::(M++[y]))↔p∈ad (x::(M++[y]))\/p=(y,x):=by have:=bH (x:=x) (y:=y) (P:=M) (Q:=[]) (p:=p);rw[this];simp[ad]
section
variable {E:List Ed} {x y:Int} {M:List Int} (h:Rng E x y M)
include h
theorem Rng.off:x∉M/\y∉M/\x≠y:=by obtain⟨a,b⟩:=bw.1 h.nd;exact⟨fun k=>a (dg _ k),fun k=>(bo.1 b).2.2 y k y Y rfl,fun e=>a (by rw[e];simp)⟩
theorem Rng.rev:Rng E y x M.reverse:=by
 have e:y::(M.reverse++[x])=(x::(M++[y])).reverse:=Y;refine⟨by rw[e];exact(ik _).nodup_iff.2 h.nd,by simpa using h.ne,fun u v k=>?_⟩;rw[iB]at k;rw[aH];refine h.ed v u (iB.2 ?_);rcases k with k|k
 .exact .inl (jR.1 k)
 .injection k with k1 k2;exact .inr (by rw[k1,k2])
theorem Rng.swap(p:Int×Int):p∈prs (y::(M.reverse++[x]))↔p.swap∈prs (x::(M++[y])):=by rw[iB,iB,show(p∈ad (y::(M.reverse++[x]))↔p.swap∈ad (x::(M++[y]))) from jR (a:=p.1) (b:=p.2)];refine or_congr lq ⟨fun e=>by rw[e];rfl,fun e=>?_⟩;rw[<- lk p,e];rfl
theorem Rng.fn{a b e:Int}(d:(a,b)∈prs (x::(M++[y])))(c:(a,e)∈prs (x::(M++[y]))):b=e:=by
 obtain⟨n,j,m⟩:=h.off;have g:∀ b,(y,b)∉ad (x::(M++[y])):=fun b k=>by
  have:=eO (y:=y) (l:=x::M) k;rcases ai.1 this with k|k
  .exact m k.symm
  .exact j k
 rw[iB]at d c;rcases d with d|d
 .rcases c with c|c
  .exact eR h.nd d c
  .injection c with f e2;subst f;exact absurd d (g b)
 .injection d with f e2;subst f;rcases c with c|c
  .exact absurd c (g e)
  .injection c with _ e3;rw[e2,e3]
theorem Rng.oU:fE E (prs (x::(M++[y]))):=by
 obtain⟨v,q,s⟩:=h.off;have e:prs (x::(M++[y]))=ad (x::(M++[y]))++[(y,x)]:=by unfold prs;have:x::(M++[y])++(x::(M++[y])).take 1=(x::M)++y::[x]:=Y;rw[this,fR];rfl
 refine⟨fun p c=>h.ed p.1 p.2 c,?_⟩;rw[e,cz,bo];have o:=gL h.nd;rw[fH]at o;refine⟨o,Y,fun a r b g j=>?_⟩;obtain⟨p,c,rfl⟩:=ao.1 r;have g:b=bk (y,x):=by simpa using g
 rw[g]at j;rcases aN j with⟨d,f⟩|⟨d,f⟩
 .have d:p.1=y:=d;have:=eO (y:=y) (l:=x::M) (a:=p.1) (b:=p.2) c;rw[d]at this;rcases ai.1 this with k|k
  .exact s k.symm
  .exact q k
 .have d:p.1=x:=d;have f:p.2=y:=f;have c:(x,y)∈ad (x::(M++[y])):=by rw[<- d,<- f]at c ⊢;exact c
  cases n:M with
  |nil=>exact h.ne n
  |cons m t=>subst n;have:=eR h.nd c (b':=m) (by simp[ad]);exact q (by rw[this];exact ar)
end
def RK(g:PlE E s){S:PP}{v a b:Int}(j:∃ e∈E,ae e=bk (v,a))(l:∃ e∈E,ae e=bk (v,b))(t:a≠b)(m:cd (v,b)∈S)
 (n:∀ z∈S,∃ q,(∃ e∈E,ae e=bk q)/\z=cd q/\(q.1=v->q.2=a\/q.2=b)):Nx s S (s (cd (v,a))) (cd (v,b)):=by
 have d:Orb s (cd (v,a)) (cd (v,b)):=(g.orb j l).2 rfl;have r:Orb s (s (cd (v,a))) (cd (v,b)):=(Orb.symm g.per (Orb.step s _)).trans d;obtain⟨f,hf⟩:=Nx.ex r m;obtain⟨q,k,rfl,o⟩:=n f hf.mem;have c:v=q.1:=(g.orb (p:=(v,a)) j k).1 ((Orb.step s _).trans hf.orb);rcases o c.symm with h|h
 .have e:q=(v,a):=jj c.symm h;rw[e]at hf;have:=hf.loop m d;exact absurd (congrArg Prod.snd (g.cdin l j this)).symm t
 .have e:q=(v,b):=jj c.symm h;rw[<- e];exact hf
section
variable {E:List Ed} {s:Int->Int} (hP:PlE E s) {x y:Int} {M:List Int} (h:Rng E x y M)
include hP h
theorem Rng.step{A:QP}(l:∀ p,(p∈A\/p.swap∈A)↔p∈prs (x::(M++[y]))\/p.swap∈prs (x::(M++[y]))){u v w:Int}(c:(u,v)∈prs (x::(M++[y])))(a:(v,w)∈prs (x::(M++[y]))):
 Nx s (cf (bm A)) (s (cd (v,u))) (cd (v,w)):=by
 have n:∃ e∈E,ae e=bk (v,u):=by rw[show bk (v,u)=aj u v from aH _ _];exact h.ed u v c
 have j:∃ e∈E,ae e=bk (v,w):=h.ed v w a;refine RK hP n j (fun e=>?_) (gD.2 ⟨(v,w),(l _).2 (.inl a),rfl⟩) fun z o=>?_
 ·
  subst e;have d:=h.oU;have Tv:=(hP.arc_bd j).2.2;have:=eZ d.nd c a (aH u v);injection this with k1 k2;exact Tv k2
 .obtain⟨q,b,rfl⟩:=gD.1 o;have b:=(l q).1 b;have f:∃ e∈E,ae e=bk q:=by
   rcases b with k|k
   .exact h.ed q.1 q.2 k
   .rw[<- gZ];exact h.ed q.2 q.1 k
  refine⟨q,f,rfl,fun m=>?_⟩;rcases b with k|k
  .have k:(v,q.2)∈prs (x::(M++[y])):=by rw[<- m];exact k
   exact .inr (h.fn k a)
  .have k:(q.2,v)∈prs (x::(M++[y])):=by rw[<- m];exact k
   have r:=(h.swap (v,q.2)).2 k;have g:=(h.swap (v,u)).2 c;exact .inl (h.rev.fn r g)
theorem Rng.emb:Emb E s (prs (x::(M++[y]))) [x::(M++[y]),y::(M.reverse++[x])]:=by
 have C:=h.oU;have o:PF [x::(M++[y]),y::(M.reverse++[x])]=prs (x::(M++[y]))++prs (y::(M.reverse++[x])):=by unfold PF;simp
 have A:∀ p,p∈PF [x::(M++[y]),y::(M.reverse++[x])]↔p∈prs (x::(M++[y]))\/p.swap∈prs (x::(M++[y])):=fun p=>by rw[o,am,h.swap]
 refine⟨C,?_,fun r j=>?_,A,fun r j u v w D F=>?_,?_⟩
 .rw[o,bo];refine⟨eG bk C.nd,eG bk h.rev.oU.nd,fun a n b t e=>?_⟩;subst e;have t:=(h.swap a).1 t;have e:=eZ C.nd n t (gZ a).symm;exact(hP.arc_bd (C.mem a n)).2.2 (congrArg Prod.fst e)
 .rcases ai.1 j with rfl|j
  .exact h.nd
  .rw[bi.1 j];exact h.rev.nd
 .rcases ai.1 j with rfl|j
  .exact h.step hP (fun p=>lq) D F
  .rw[bi.1 j]at D F;refine h.rev.step hP (fun p=>?_) D F;rw[h.swap,h.swap,lk];exact qg
 .have l:=cO hP.per.eqv (bm (prs (x::(M++[y]))));obtain⟨m,I,J⟩:=nm h.ne;have H:(x,m)∈prs (x::(M++[y])):=iB.2 (.inl (by rw[J];simp[ad]))
  have f:∀ p∈prs (x::(M++[y])),cw (Orb s) (bm (prs (x::(M++[y])))) (cd p) (cd p.swap):=fun p g=>
   gV hP.per.eqv _ (p:=(cd p,cd p.swap)) (ao.2 ⟨p,g,rfl⟩)
  have B:∀ p∈prs (x::(M++[y])),cw (Orb s) (bm (prs (x::(M++[y])))) (cd (x,m)) (cd p):=by
   intro p g;rcases iB.1 g with k|k
   .have N:ad (x::(M++[y]))=(x,m)::ad (m::(I++[y])):=by rw[J];rfl
    have c:=hP.way (w:=x::(M++[y])) fun u v k=>h.ed u v (iB.2 (.inl k));have e:bm (ad (x::(M++[y])))=(cd (x,m),cd (x,m).swap)::bm (ad (m::(I++[y]))):=by rw[N];rfl
    rw[e]at c;refine Bl l (fun _ _ k=>gC _ k) c (fun q K=>?_) (cd p,cd p.swap) (by rw[<- e];exact ao.2 ⟨p,k,rfl⟩);rw[<- e]at K;obtain⟨a,n,rfl⟩:=ao.1 K;exact f a (iB.2 (.inl n))
   .subst k;have L:Orb s (cd (x,m)) (cd (x,y)):=(hP.orb (p:=(x,m)) (h.ed x m H) (by rw[show bk (x,y)=aj y x from aH _ _];exact h.ed y x g)).2 rfl;exact l.trans (gC _ L) (l.symm (f _ g))
  have d:∀ z∈cf (bm (prs (x::(M++[y])))),cw (Orb s) (bm (prs (x::(M++[y])))) (cd (x,m)) z:=by
   intro z P;obtain⟨p,g,rfl⟩:=gD.1 P;rcases g with k|k
   .exact B p k
   .have:=f _ k;rw[lk]at this;exact l.trans (B _ k) this
  exact fun a n b t=>l.trans (l.symm (d a n)) (d b t)
end
def WyE.sub{c:List PP}(a:WyE E F x y M)(h:∀ p,p∈PF F↔p∈PF c):WyE E c x y M:=
 ⟨a.nd,a.ed,fun p k b=>a.new p k ((h p).2 b),fun v k u b=>a.off v k u ((h _).2 b),a.onx.imp fun _ k=>(h _).1 k,a.ony.imp fun _ k=>(h _).1 k⟩
section
variable {E:List Ed} {s:Int->Int} (hP:PlE E s) {A:List (Int×Int)} {F:List (List Int)} (hE:Emb E s A F)
 {x y:Int} {M:List Int} (hw:WyE E F x y M) {u t:Int} (hu:(x,u)∈ad (x::(M++[y]))) (ht:(t,y)∈ad (x::(M++[y]))) {r:List Int} (hr:r∈F) (hT:SdT s A r (cd (x,u)))
include hP hE hw hu ht hr hT
theorem Emb.both:x∈r/\y∈r/\x≠y:=by refine⟨hE.here hP hr (p:=(x,u)) (hw.ed x u hu) hT,hE.here hP hr (p:=(y,t)) (by rw[show bk (y,t)=bk (t,y) from aH _ _];exact hw.ed t y ht) (hE.wayT hP hw hu ht hr hT),fun e=>?_⟩;exact(bw.1 hw.nd).1 (by rw[e];simp)
structure Laid(E:QR)(s:Int->Int)(A:QP)(F:List PP)(r:PP)(x y:Int)(M P Q:PP)(F':List PP):Prop where
 perm:F.Perm (r::F')
 rot:∃ a b,r=a++b/\b++a=x::(P++y::Q)
 nf:r∉F'
 emb:Emb E s (ad (x::(M++[y]))++A) ((x::(P++y::M.reverse))::(y::(Q++x::M))::F')
 mem:∀ p,p∈PF ((x::(P++y::M.reverse))::(y::(Q++x::M))::F')↔p∈PF F\/p∈ad (x::(M++[y]))\/p.swap∈ad (x::(M++[y]))
 side:∀ p,(∃ e∈E,ae e=bk p)->∀ v,(p.1,v)∈PF F->SdT s A r (cd p)->SdT s (ad (x::(M++[y]))++A) (x::(P++y::M.reverse)) (cd p)\/SdT s (ad (x::(M++[y]))++A) (y::(Q++x::M)) (cd p)
theorem Emb.layAt:∃ P Q g,Laid E s A F r x y M P Q g:=by
 obtain⟨I,R,S⟩:=hE.both hP hw hu ht hr hT;obtain⟨a,b,P,Q,g,D,H,n,c⟩:=hE.norm hr I R S;have q:(prs r).Perm (prs (x::(P++y::Q))):=by rw[D,<- H];exact qP a b
 have d:∀ p,p∈PF F↔p∈PF ((x::(P++y::Q))::g):=fun p=>by rw[hE.mem,c.mem]
 have e:=hw.sub d;have h:=hT.turn q;have j:=c.lay hP e hu ht h;have l:r∉g:=fun k=>by have o:=(hE.permF n).nd;have o:(prs r++PF g).Nodup:=o;obtain⟨z,L⟩:=gK I;exact(bo.1 o).2.2 _ L _ (bB.2 ⟨r,k,L⟩) rfl
 refine⟨P,Q,g,n,⟨a,b,D,H⟩,l,j,fun p=>by rw[BW c e,<- d],fun p J v K T=>?_⟩;have C:=(BW c e (p.1,v)).2 (.inl ((d _).1 K));obtain⟨U,w,f⟩:=j.ex hP J C;rcases c.lay_side hP e hu ht h J ((d _).1 K) w f with⟨m,N⟩|⟨m,N⟩
 .have B:U∈F:=n.mem_iff.2 (aq _ m);have:=hE.fn hP hr B T N;exact absurd (this ▸ m) l
 .rcases m with rfl|rfl
  .exact .inl f
  .exact .inr f
theorem Emb.no_cross{a b:PP}{P Q:PP}(e1:r=a++b)(e2:b++a=x::(P++y::Q)){p q:Int}{N:PP}(f:WyE E F p q N){u2 t2:Int}(K:(p,u2)∈ad (p::(N++[q])))(V:(t2,q)∈ad (p::(N++[q])))
 (hT2:SdT s A r (cd (p,u2))) (hp:p∈P) (hq:q∈Q) (hMN:∀ v∈N,v∉M):False:=by
 have C:(b++a).Nodup:=(kT (l₁:=a) (l₂:=b)).nodup_iff.1 (e1 ▸ hE.simple r hr);rw[e2]at C;obtain⟨j,B,F',H⟩:=hE.layAt hP hw hu ht hr hT;obtain⟨a',b',f1,f2⟩:=H.rot;have hPQ:j=P/\B=Q:=by
  have hr2:∃ c d,x::(P++y::Q)=c++d/\d++c=x::(j++y::B):=by
   rw[<- e2,<- f2];rw[e1]at f1;rcases wn.1 f1 with⟨c,D,I⟩|⟨c,D,I⟩
   .exact⟨c,b'++a,by rw[I];simp,by rw[D];simp⟩
   .exact⟨b++a',c,by rw[D];simp,by rw[I];simp⟩
  obtain⟨c,d,D,I⟩:=hr2;have J:x::(P++y::Q)=x::(j++y::B):=by
   cases c with
   |nil=>rw[D,<- I];simp
   |cons z c=>
    have m:z=x:=by injection D with g _;exact g.symm
    subst m;cases d with
    |nil=>rw[D,<- I];simp
    |cons w d=>
     have hwz:w=z:=by injection I
     subst hwz;rw[D]at C;exact absurd rfl ((bo.1 C).2.2 w ar w ar)
  have U:P++y::Q=j++y::B:=by injection J
  have o:(P++y::Q).Nodup:=(bw.1 C).2;have hyP:y∉P:=fun k=>(bo.1 o).2.2 y k y ar rfl;have hyP':y∉j:=fun k=>(bo.1 (U ▸ o)).2.2 y k y ar rfl;have:∀(P j:PP),y∉P->y∉j->P++y::Q=j++y::B->j=P/\B=Q:=by
   intro P;induction P with
   |nil=>
    intro j _ h' e;cases j with
    |nil=>injection e with _ e;exact⟨rfl,e.symm⟩
    |cons z j=>injection e with e _;exact absurd (by rw[e];exact ar) h'
   |cons z P ih=>
    intro j h h' e;cases j with
    |nil=>injection e with e _;exact absurd (by rw[<- e];exact ar) h
    |cons z' j=>injection e with e1 e2;obtain⟨k1,k2⟩:=ih j (fun k=>h (aq _ k)) (fun k=>h' (aq _ k)) e2;exact⟨by rw[e1,k1],k2⟩
  exact this P j hyP hyP' U
 obtain⟨rfl,rfl⟩:=hPQ;have o:=(bw.1 C);have hd:=(bo.1 o.2);have L:p≠x:=fun e=>o.1 (by rw[<- e];exact dg _ hp);have S:q≠x:=fun e=>o.1 (by rw[<- e];exact dE _ (aq _ hq));have R:p≠y:=fun e=>hd.2.2 p hp y ar e;have T:q≠y:=fun e=>(bw.1 hd.2.1).1 (by rw[<- e];exact hq);have hpQ:p∉B:=fun k=>hd.2.2 p hp p (aq _ k) rfl;have hqP:q∉j:=fun k=>hd.2.2 q k q (aq _ hq) rfl;have n:∀ v∈p::(N++[q]),v∉x::(M++[y]):=by
  intro v l k;have hvM:v∈M->False:=fun hm=>by
   rcases ai.1 l with rfl|l
   .obtain⟨z,m⟩:=f.onx;exact hw.off _ hm z m
   .rcases am.1 l with l|l
    .exact hMN v l hm
    .rw[bi.1 l]at hm;obtain⟨z,m⟩:=f.ony;exact hw.off _ hm z m
  have X:v=x\/v=y->False:=fun h=>by
   rcases ai.1 l with rfl|l
   .exact h.elim L R
   .rcases am.1 l with l|l
    .rcases h with rfl|rfl
     .obtain⟨z,m⟩:=hw.onx;exact f.off _ l z m
     .obtain⟨z,m⟩:=hw.ony;exact f.off _ l z m
    .rw[bi.1 l]at h;exact h.elim S T
  rcases ai.1 k with k|k
  .exact X (.inl k)
  .rcases am.1 k with k|k
   .exact hvM k
   .exact X (.inr (bi.1 k))
 have hw3:WyE E ((x::(j++y::M.reverse))::(y::(B++x::M))::F') p q N:=by
  refine⟨f.nd,f.ed,fun z m k=>?_,fun v l z k=>?_,f.onx.imp fun z k=>(H.mem _).2 (.inl k),f.ony.imp fun z k=>(H.mem _).2 (.inl k)⟩
  .rcases(H.mem z).1 k with k|k|k
   .exact f.new z m k
   .exact n z.1 (bC (x:=z.1) (y:=z.2) m).1 (bC (x:=z.1) (y:=z.2) k).1
   .exact n z.1 (bC (x:=z.1) (y:=z.2) m).1 (bC (x:=z.2) (y:=z.1) k).2
  .have W:v∈p::(N++[q]):=aq _ (dg _ l);rcases(H.mem (v,z)).1 k with k|k|k
   .exact f.off v l z k
   .exact n v W (bC k).1
   .exact n v W (bC (x:=z) (y:=v) k).2
 obtain⟨zp,hzp⟩:=f.onx;have hpM:p∉M:=fun k=>hw.off p k zp hzp;have hqM:q∉M:=fun k=>by obtain⟨z,m⟩:=f.ony;exact hw.off q k z m
 rcases H.side (p,u2) (f.ed p u2 K) zp hzp hT2 with k|k
 .have j7:x::(j++y::M.reverse)∈(x::(j++y::M.reverse))::(y::(B++x::M))::F':=ar;have:=(H.emb.both hP hw3 K V j7 k).2.1;rcases ai.1 this with e|h
  .exact S e
  .rcases am.1 h with h|h
   .exact hqP h
   .rcases ai.1 h with e|h
    .exact T e
    .exact hqM (iu.1 h)
 .have j7:y::(B++x::M)∈(x::(j++y::M.reverse))::(y::(B++x::M))::F':=aq _ ar;have:=(H.emb.both hP hw3 K V j7 k).1;rcases ai.1 this with e|h
  .exact R e
  .rcases am.1 h with h|h
   .exact hpQ h
   .rcases ai.1 h with e|h
    .exact L e
    .exact hpM h
end
theorem Nn{y:Int}{Q b:PP}:∀ {P a:PP},y∉P->y∉a->P++y::Q=a++y::b->a=P/\b=Q
 |[],[],_,_,e=>by injection e with _ e;exact⟨rfl,e.symm⟩
 |[],z::a,_,h',e=>by injection e with e _;exact absurd (by rw[e];exact ar) h'
 |z::P,[],h,_,e=>by injection e with e _;exact absurd (by rw[<- e];exact ar) h
 |z::P,z'::a,h,h',e=>by injection e with e1 e2;obtain⟨c,d⟩:=Nn (fun k=>h (aq _ k)) (fun k=>h' (aq _ k)) e2;exact⟨by rw[e1,c],d⟩
def Hp{m n b q:PP}(A:(a++b).Nodup)(e:a++b=q++r)(t:b++a=x::(P++y::Q))(v:r++q=x::(m++y::n)):m=P/\n=Q:=by
 have j:(x::(P++y::Q)).Nodup:=by rw[<- t];exact(kT (l₁:=a) (l₂:=b)).nodup_iff.1 A
 obtain⟨c,d,f,h⟩:∃ c d,x::(P++y::Q)=c++d/\d++c=x::(m++y::n):=by
  rw[<- t,<- v];rcases wn.1 e with⟨c,f,h⟩|⟨c,f,h⟩
  .exact⟨c,r++a,by rw[h];simp,by rw[f];simp⟩
  .exact⟨b++q,c,by rw[f];simp,by rw[h];simp⟩
 have l:x::(P++y::Q)=x::(m++y::n):=by
  cases c with
  |nil=>rw[f,<- h];simp
  |cons z c=>
   have B:z=x:=by injection f with g _;exact g.symm
   subst B;cases d with
   |nil=>rw[f,<- h];simp
   |cons w d=>
    have s:w=z:=by injection h
    subst s;rw[f]at j;exact absurd rfl ((bo.1 j).2.2 w ar w ar)
 have p:P++y::Q=m++y::n:=by injection l
 have o:(P++y::Q).Nodup:=(bw.1 j).2;exact Nn (fun k=>(bo.1 o).2.2 y k y ar rfl) (fun k=>(bo.1 (p ▸ o)).2.2 y k y ar rfl) p
def WyE.lay{o:List PP}{p q:Int}{N:PP}(j:Laid E s A F r x y M P Q o)(d:WyE E F p q N)(C:N≠[])(e:∀ v∈N,v∉x::(M++[y])):
 WyE E ((x::(P++y::M.reverse))::(y::(Q++x::M))::o) p q N:=by
 have t:∀ z,z∈ad (p::(N++[q]))->z.1∈N\/z.2∈N:=by
  intro z c;have w:=eO (y:=q) (l:=p::N) (a:=z.1) (b:=z.2) c;have B:=iI (a:=z.1) (b:=z.2) c;rcases ai.1 w with k|k
  .rcases am.1 B with g|g
   .exact .inr g
   .exfalso;have g:=bi.1 g;obtain⟨n,H,f⟩:=nm C;have c:(p,q)∈ad (p::(N++[q])):=by rw[<- k,<- g]at c ⊢;exact c
    have:=eR d.nd c (b':=n) (by rw[f];simp[ad]);have D:=(bo.1 (bw.1 d.nd).2).2.2 n (by rw[f];simp) q Y;exact D this.symm
  .exact .inl k
 refine⟨d.nd,d.ed,fun z c k=>?_,fun v m z k=>?_,d.onx.imp fun z k=>(j.mem _).2 (.inl k),d.ony.imp fun z k=>(j.mem _).2 (.inl k)⟩
 .rcases(j.mem z).1 k with k|k|k
  .exact d.new z c k
  .rcases t z c with h|h
   .exact e _ h (bC (x:=z.1) (y:=z.2) k).1
   .exact e _ h (bC (x:=z.1) (y:=z.2) k).2
  .rcases t z c with h|h
   .exact e _ h (bC (x:=z.2) (y:=z.1) k).2
   .exact e _ h (bC (x:=z.2) (y:=z.1) k).1
 .rcases(j.mem (v,z)).1 k with k|k|k
  .exact d.off v m z k
  .exact e v m (bC k).1
  .exact e v m (bC (x:=z) (y:=v) k).2
section
variable {E:List Ed} {s:Int->Int} (hP:PlE E s) {A:List (Int×Int)} {F:List (List Int)} (hE:Emb E s A F)
 {x y:Int} {M:List Int} (hw:WyE E F x y M) {u t:Int} (hu:(x,u)∈ad (x::(M++[y]))) (ht:(t,y)∈ad (x::(M++[y]))) {r:List Int} (hr:r∈F) (hT:SdT s A r (cd (x,u)))
include hP hE hw hu ht hr hT
theorem Emb.no_three{a b:PP}{f g Q L P:PP}{c z:Int}(e1:r=a++b)(e2:b++a=x::((f++c::g)++y::Q))(hM:M=L++z::P)
 {N:PP} (hn:(c::(N++[z])).Nodup) (hed:∀ u v,(u,v)∈ad (c::(N++[z]))->∃ e∈E,ae e=aj u v) (I:∀ v∈N,∀ u,(v,u)∉PF F) (T:∀ v∈N,v∉M)
 {uc tz:Int} (huc:(c,uc)∈ad (c::(N++[z]))) (htz:(tz,z)∈ad (c::(N++[z]))) (hTc:SdT s A r (cd (c,uc)))
 {S N2:PP} {ix iy ic:Int} (B:WyE E F x y S) (hw2:WyE E F y c N2) (n1:S≠[]) (n2:N2≠[]) (o1:∀ v∈S,v∉M/\v∉N) (o2:∀ v∈N2,v∉M/\v∉N)
 (D:(x,ix)∈ad (x::(S++[y]))) (hy1:(iy,y)∈ad (x::(S++[y]))) (hy2:(y,iy)∈ad (y::(N2++[c]))) (hc2:(ic,c)∈ad (y::(N2++[c]))) (hTx:SdT s A r (cd (x,ix))):False:=by
 have hrr:=hE.simple r hr;rw[e1]at hrr;have hrn:(b++a).Nodup:=(kT (l₁:=a) (l₂:=b)).nodup_iff.1 hrr;rw[e2]at hrn;obtain⟨P',m,F',j⟩:=hE.layAt hP hw hu ht hr hT;obtain⟨a',b',f1,f2⟩:=j.rot;obtain⟨rfl,rfl⟩:=Hp hrr (by rw[<- e1,f1]) e2 f2;have o:∀ v,v∈x::((f++c::g)++y::m)->∃ w,(v,w)∈PF F:=fun v d=>by
  have:v∈r:=by rw[e1,am];rw[<- e2,am]at d;exact d.symm
  obtain⟨w,k⟩:=gK this;exact⟨w,bB.2 ⟨r,hr,k⟩⟩
 have n:∀(N:PP),(∀ v∈N,∀ u,(v,u)∉PF F)->∀ v∈N,v∉x::((f++c::g)++y::m):=fun N hN v d k=>by obtain⟨w,h⟩:=o v k;exact hN v d w h
 have C:x∈x::((f++c::g)++y::m):=ar;have J:y∈x::((f++c::g)++y::m):=Y;have V:c∈x::((f++c::g)++y::m):=Y;have H:∀(N:PP),(∀ v∈N,∀ u,(v,u)∉PF F)->(∀ v∈N,v∉M)->∀ v∈N,v∉x::(M++[y]):=fun N hN T v d k=>by
  rcases ai.1 k with rfl|k
  .exact n N hN _ d C
  .rcases am.1 k with k|k
   .exact T v d k
   .rw[bi.1 k]at d;exact n N hN _ d J
 have w1:=B.lay j n1 (H S B.off fun v d=>(o1 v d).1);have w2:=hw2.lay j n2 (H N2 hw2.off fun v d=>(o2 v d).1);have hcn:=hrn;have W:c≠x:=fun e=>(bw.1 hcn).1 (by rw[<- e];simp);have hd:=bo.1 (bw.1 hcn).2;have X:c≠y:=fun e=>hd.2.2 c Y y ar e;have hcQ:c∉m:=fun k=>hd.2.2 c Y c (aq _ k) rfl;have hcM:c∉M:=fun k=>by obtain⟨w,h⟩:=o c V;exact hw.off c k w h
 have K:z∈M:=by rw[hM];simp
 have R:c∉y::(m++x::M):=fun k=>by
  rcases ai.1 k with k|k
  .exact X k
  .rcases am.1 k with k|k
   .exact hcQ k
   .rcases ai.1 k with k|k
    .exact W k
    .exact hcM k
 have in1:x::((f++c::g)++y::M.reverse)∈(x::((f++c::g)++y::M.reverse))::(y::(m++x::M))::F':=ar;have in2:y::(m++x::M)∈(x::((f++c::g)++y::M.reverse))::(y::(m++x::M))::F':=aq _ ar;obtain⟨wx,hwx⟩:=o x C;obtain⟨wc,hwc⟩:=o c V
 have hTx1:=(j.side (x,ix) (B.ed x ix D) wx hwx hTx).resolve_right fun k=>
  R (j.emb.both hP w2 hy2 hc2 in2 (j.emb.wayT hP w1 D hy1 in2 k)).2.1
 have hTc1:=(j.side (c,uc) (hed c uc huc) wc hwc hTc).resolve_right fun k=>R (j.emb.here hP in2 (p:=(c,uc)) (hed c uc huc) k);have hcw:c∉x::(M++[y]):=fun k=>by
  rcases ai.1 k with k|k
  .exact W k
  .rcases am.1 k with k|k
   .exact hcM k
   .exact X (bi.1 k)
 have U:=H N I T;have hw3:WyE E ((x::((f++c::g)++y::M.reverse))::(y::(m++x::M))::F') c z N:=by
  refine⟨hn,hed,fun p hp k=>?_,fun v d w k=>?_,⟨wc,(j.mem _).2 (.inl hwc)⟩,?_⟩
  .have h1:=eO (y:=z) (l:=c::N) (a:=p.1) (b:=p.2) hp;have h2:=iI (a:=p.1) (b:=p.2) hp;have hp1:p.1∉x::(M++[y]):=fun k=>by
    rcases ai.1 h1 with e|e
    .exact hcw (e ▸ k)
    .exact U _ e k
   rcases(j.mem p).1 k with k|k|k
   .have:=hE.swap k;rcases am.1 h2 with e|e
    .exact I _ e _ this
    .exact hw.off p.2 (by rw[bi.1 e];exact K) _ this
   .exact hp1 (bC (x:=p.1) (y:=p.2) k).1
   .exact hp1 (bC (x:=p.2) (y:=p.1) k).2
  .rcases(j.mem (v,w)).1 k with k|k|k
   .exact I v d w k
   .exact U v d (bC k).1
   .exact U v d (bC (x:=w) (y:=v) k).2
  .obtain⟨w,k⟩:=wK (w:=x::(M++[y])) (v:=z) Y (aq _ (dg _ K));exact⟨w,(j.mem _).2 (.inr k.symm)⟩
 obtain⟨P2,Q2,F2,q⟩:=j.emb.layAt hP hw3 huc htz in1 hTc1;have hrr1:=j.emb.simple _ in1;obtain⟨a2,b2,g1,g2⟩:=q.rot;have hsp:x::((f++c::g)++y::M.reverse)=(x::f)++(c::(g++y::(P.reverse++z::L.reverse))):=by rw[hM];simp
 have hsp2:(c::(g++y::(P.reverse++z::L.reverse)))++(x::f)=c::((g++y::P.reverse)++z::(L.reverse++x::f)):=Y;obtain⟨rfl,rfl⟩:=Hp (by rw[<- hsp];exact hrr1) (by rw[<- hsp];exact g1) hsp2 g2;have w1':=w1.lay q n1 fun v d k=>by
  rcases ai.1 k with k|k
  .exact n S B.off v d (k ▸ V)
  .rcases am.1 k with k|k
   .exact(o1 v d).2 k
   .exact(o1 v d).1 (by rw[bi.1 k];exact K)
 have hxn:=(bw.1 hrn).1;have hzr:∀ v,v∈x::((f++c::g)++y::m)->v≠z:=fun v d e=>by obtain⟨w,h⟩:=o v d;exact hw.off z K w (e ▸ h)
 have hMr:∀ v,v∈x::((f++c::g)++y::m)->v∉M:=fun v d k=>by obtain⟨w,h⟩:=o v d;exact hw.off v k w h
 have hNr:∀ v,v∈x::((f++c::g)++y::m)->v∉N:=fun v d k=>n N I v k d;have W0:x≠y:=fun e=>hxn (by rw[e];simp);have in3:c::((g++y::P.reverse)++z::N.reverse)∈(c::((g++y::P.reverse)++z::N.reverse))::(z::((L.reverse++x::f)++c::N))::F2:=ar;have in4:z::((L.reverse++x::f)++c::N)∈(c::((g++y::P.reverse)++z::N.reverse))::(z::((L.reverse++x::f)++c::N))::F2:=aq _ ar;rcases q.side (x,ix) (B.ed x ix D) wx ((j.mem _).2 (.inl hwx)) hTx1 with k|k
 .have:=(q.emb.both hP w1' D hy1 in3 k).1;have hxMb:x∉P:=fun h=>hMr x C (by rw[hM];simp[h]);have hxN:=hNr x C;have hxPb:x∉g:=fun h=>hxn (Z h);simp only[ai,am,iu]at this;rcases this with h|(h|h|h)|h|h
  .exact W h.symm
  .exact hxPb h
  .exact W0 h
  .exact hxMb h
  .exact hzr x C h
  .exact hxN h
 .have:=(q.emb.both hP w1' D hy1 in4 k).2.1;have hyMa:y∉L:=fun h=>hMr y J (by rw[hM];simp[h]);have hyN:=hNr y J;have hyPa:y∉f:=fun h=>hd.2.2 y (Z h) y ar rfl;simp only[ai,am,iu]at this;rcases this with h|(h|h|h)|h|h
  .exact hzr y J h
  .exact hyMa h
  .exact W0 h.symm
  .exact hyPa h
  .exact X h.symm
  .exact hyN h
end
end Aw
namespace Aw
open Go Go.RowKit Pl
def dh(i j k:Nat):Prop:=(i<j/\j<k)\/(j<k/\k<i)\/(k<i/\i<j)
def Cy(r:PP)(x y z:Int):Prop:=(x∈r/\y∈r/\z∈r)/\dh (r.idxOf x) (r.idxOf y) (r.idxOf z)
def dP(i j k l:Nat):Prop:=(dh i k j/\dh j l i)\/(dh i l j/\dh j k i)
def Cr(r:PP)(x y z w:Int):Prop:=(x∈r/\y∈r/\z∈r/\w∈r)/\dP (r.idxOf x) (r.idxOf y) (r.idxOf z) (r.idxOf w)
def gA{r:PP}{x y:Int}(a:x∈r)(h:r.idxOf x=r.idxOf y):x=y:=by
 have:=lg a;have b:=nr (xs:=r) (x:=x) this;have c:=nr (xs:=r) (x:=y) O
 grind
theorem lO{r:PP}{x:Int}(h:x∈r):r.idxOf x<r.length:=lg h
variable{v w x y z:Int}{B C D:Int->Prop}{F:List (List Int)}{M P Q a b d e f g h r:List Int}{n:Nat}
def Mm(c:(a++b).Nodup)(h:v∈a++b):((a++b).idxOf v=a.idxOf v/\(b++a).idxOf v=b.length+a.idxOf v/\a.idxOf v<a.length)\/((a++b).idxOf v=a.length+b.idxOf v/\(b++a).idxOf v=b.idxOf v/\b.idxOf v<b.length):=by
 grind [lO]
def Nv(c:(a++b).Nodup)(h:Cy (a++b) x y z):Cy (b++a) x y z:=by obtain⟨⟨d,e,f⟩,h⟩:=h;have:=Mm c d;have:=Mm c e;have:=Mm c f;unfold dh at h;exact⟨by grind,by unfold dh;omega⟩
def Mh(c:(a++b).Nodup):Cy (a++b) x y z↔Cy (b++a) x y z:=⟨Nv c,Nv (by grind)⟩
def Gn{r:PP}(c:r.Nodup){x:Int}(b:x∈r):r.reverse.idxOf x+r.idxOf x+1=r.length:=by
 induction r with
 |nil=>cases b
 |cons a r d => 
  grind [lO]
def Mt(a:r.Nodup):Cy r.reverse x y z↔Cy r z y x:=by
 have:=@Gn r a;unfold Cy dh
 grind
def UQ:Cr r x y z w↔(Cy r x z y/\Cy r y w x)\/(Cy r x w y/\Cy r y z x):=by
 unfold Cr Cy dP
 grind
theorem Cr.mono(h:Cr r x y z w)(k:∀ a b c,a∈[x,y,z,w]->b∈[x,y,z,w]->c∈[x,y,z,w]->Cy r a b c->Cy d a b c):Cr d x y z w:=by
 rw[UQ]at *
 grind
def Rv(f g:PP):Prop:=∀ x y z,x∈g->y∈g->z∈g->Cy f x y z->Cy g z y x
def NoX(f g h:PP):Prop:=∀ a b c d,a∈g->b∈g->c∈h->d∈h->¬Cr f a b c d
def Ys{r:PP}{x y z:Int}(d:x∈r)(e:y∈r)(f:z∈r)(a:x≠y)(b:y≠z)(c:x≠z):Cy r x y z\/Cy r z y x:=by
 have:=@gA r;unfold Cy dh
 grind
def K1(h:Cy r x y z):x∈r/\y∈r/\z∈r/\x≠y/\y≠z/\x≠z/\¬Cy r z y x:=by
 unfold Cy dh at *
 grind
def Rv.symm{f g:PP}(h:Rv f g):Rv g f:=fun x y z hx hy hz k=>by
 have:=K1 k;have:=@Ys f x y z
 grind [Rv]
def NoX.symm{f g h:PP}(k:NoX f g h):NoX f h g:=fun a b c d ha hb hc hd q=>by obtain⟨⟨h1,h2,h3,h4⟩,q⟩:=q;refine k c d a b hc hd ha hb ⟨⟨h3,h4,h1,h2⟩,?_⟩;unfold dP dh at *;omega
section
variable {x y:Int} {P Q M:List Int} (hn:(x::(P++y::Q)).Nodup) (hm:M.Nodup) (hM:∀ v∈M,v∉x::(P++y::Q))
include hn hm hM
theorem fN{v:Int}(h:v∈x::(P++y::Q)):(x::(P++y::Q)).idxOf v<P.length+Q.length+2/\(v=x->(x::(P++y::Q)).idxOf v=0)/\
 ((v∈x::(P++[y])/\v∈x::(P++y::M.reverse)/\(x::(P++y::M.reverse)).idxOf v=(x::(P++y::Q)).idxOf v/\(x::(P++y::Q)).idxOf v<=P.length+1)\/
 (v∈Q/\v∉x::(P++y::M.reverse)/\P.length+1<(x::(P++y::Q)).idxOf v))/\
 ((v∈y::Q/\v∈y::(Q++x::M)/\v≠x/\(y::(Q++x::M)).idxOf v+P.length+1=(x::(P++y::Q)).idxOf v)\/
 (v=x/\v∈y::(Q++x::M)/\(y::(Q++x::M)).idxOf v=Q.length+1)\/(v∈P/\v∉y::(Q++x::M)/\0<(x::(P++y::Q)).idxOf v/\(x::(P++y::Q)).idxOf v<=P.length)):=by
 have:=@lO P v;have:=@lO Q v;rw[ai,am,ai]at h;rcases h with rfl|h|rfl|h
 .grind
 .refine⟨by grind,by grind,by grind,.inr (.inr (by grind))⟩
 .refine⟨by grind,by grind,by grind,.inl (by grind)⟩
 .refine⟨by grind,by grind,by grind,.inl (by grind)⟩
theorem NM{v:Int}(h:v∈M):M.idxOf v<M.length/\(x::(P++y::M.reverse)).idxOf v+M.idxOf v=P.length+M.length+1/\(y::(Q++x::M)).idxOf v=Q.length+2+M.idxOf v:=by have:=@lO M v h;have:=Gn hm h;refine⟨by grind,by grind,by grind⟩
theorem MC{v:Int}(h:v∈x::(P++y::M.reverse))(k:v∉M):v∈x::(P++y::Q)/\(x::(P++y::M.reverse)).idxOf v=(x::(P++y::Q)).idxOf v/\(x::(P++y::Q)).idxOf v<=P.length+1:=by
 have:=fN hn hm hM (v:=v) (by grind)
 grind
theorem LH{v:Int}(h:v∈y::(Q++x::M))(k:v∉M):v∈x::(P++y::Q)/\(x::(P++y::Q)).idxOf v<P.length+Q.length+2/\(((x::(P++y::Q)).idxOf v=0/\(y::(Q++x::M)).idxOf v=Q.length+1)\/((y::(Q++x::M)).idxOf v+P.length+1=(x::(P++y::Q)).idxOf v)):=by
 have:=fN hn hm hM (v:=v) (by grind)
 grind
theorem ED{v:Int}(h:v∈x::(P++y::M.reverse))(a:v∈y::(Q++x::M)):((x::(P++y::M.reverse)).idxOf v=0/\(y::(Q++x::M)).idxOf v=Q.length+1)\/((x::(P++y::M.reverse)).idxOf v=P.length+1/\(y::(Q++x::M)).idxOf v=0)\/
 (P.length+1<(x::(P++y::M.reverse)).idxOf v/\Q.length+1<(y::(Q++x::M)).idxOf v/\(x::(P++y::M.reverse)).idxOf v+(y::(Q++x::M)).idxOf v=P.length+M.length+Q.length+3):=by
 by_cases k:v∈M
 .have:=NM hn hm hM k;omega
 .have:=fN hn hm hM (v:=v) (by grind)
  grind
theorem M8{u v w:Int}(g:u∉M)(j:v∉M)(k:w∉M)(h:Cy (x::(P++y::M.reverse)) u v w):Cy (x::(P++y::Q)) u v w:=by obtain⟨⟨d,e,f⟩,h⟩:=h;have a:=MC hn hm hM d g;have b:=MC hn hm hM e j;have c:=MC hn hm hM f k;unfold dh at h;exact⟨⟨a.1,b.1,c.1⟩,by unfold dh;omega⟩
theorem H9{u v w:Int}(g:u∉M)(j:v∉M)(k:w∉M)(h:Cy (y::(Q++x::M)) u v w):Cy (x::(P++y::Q)) u v w:=by obtain⟨⟨d,e,f⟩,h⟩:=h;have a:=LH hn hm hM d g;have b:=LH hn hm hM e j;have c:=LH hn hm hM f k;unfold dh at h;exact⟨⟨a.1,b.1,c.1⟩,by unfold dh;omega⟩
theorem YU:Rv (x::(P++y::M.reverse)) (y::(Q++x::M)):=by rintro u v w a b c ⟨⟨d,e,f⟩,h⟩;have:=ED hn hm hM d a;have:=ED hn hm hM e b;have:=ED hn hm hM f c;refine⟨⟨c,b,a⟩,?_⟩;unfold dh at *;omega
variable {g h:List Int} (hg:∀ v∈M,v∉g) (hh:∀ v∈M,v∉h)
include hg
theorem L0(h:Rv (x::(P++y::Q)) g):Rv (x::(P++y::M.reverse)) g:=fun u v w a b d k=>h u v w a b d (M8 hn hm hM (fun c=>hg _ c a) (fun c=>hg _ c b) (fun c=>hg _ c d) k)
theorem K2(h:Rv (x::(P++y::Q)) g):Rv (y::(Q++x::M)) g:=fun u v w a b d k=>h u v w a b d (H9 hn hm hM (fun c=>hg _ c a) (fun c=>hg _ c b) (fun c=>hg _ c d) k)
theorem TB:NoX (x::(P++y::M.reverse)) (y::(Q++x::M)) g:=by rintro a b c d m n o p ⟨⟨e,f,j,l⟩,h⟩;have:=ED hn hm hM e m;have:=ED hn hm hM f n;have:=MC hn hm hM j fun k=>hg _ k o;have:=MC hn hm hM l fun k=>hg _ k p;unfold dP dh at *;omega
theorem TU:NoX (y::(Q++x::M)) (x::(P++y::M.reverse)) g:=by rintro a b c d m n o p ⟨⟨e,f,j,l⟩,h⟩;have:=ED hn hm hM m e;have:=ED hn hm hM n f;have:=LH hn hm hM j fun k=>hg _ k o;have:=LH hn hm hM l fun k=>hg _ k p;unfold dP dh at *;omega
theorem YL(w:Rv (x::(P++y::Q)) g):NoX g (x::(P++y::M.reverse)) (y::(Q++x::M)):=by
 rintro a b c d z A B C ⟨⟨f,j,n,o⟩,h⟩;obtain⟨l,D⟩:=MC hn hm hM z fun k=>hg _ k f;obtain⟨m,E⟩:=MC hn hm hM A fun k=>hg _ k j;obtain⟨t,F⟩:=LH hn hm hM B fun k=>hg _ k n;obtain⟨v,H⟩:=LH hn hm hM C fun k=>hg _ k o;have e:=w.symm;rcases h with⟨p,q⟩|⟨p,q⟩
 .have r:=(e a c b l t m ⟨⟨f,n,j⟩,p⟩).2;have s:=(e b d a m v l ⟨⟨j,o,f⟩,q⟩).2;unfold dh at r s;omega
 .have r:=(e a d b l v m ⟨⟨f,o,j⟩,p⟩).2;have s:=(e b c a m t l ⟨⟨j,n,f⟩,q⟩).2;unfold dh at r s;omega
include hh
theorem YM{a b c d:Int}(e:a∈g)(f:b∈g)(j:c∈h)(l:d∈h):∀ v∈[a,b,c,d],v∉M:=by simp only[rf];exact⟨fun k=>hg _ k e,fun k=>hg _ k f,fun k=>hh _ k j,fun k=>hh _ k l,Y⟩
theorem L5(k:NoX (x::(P++y::Q)) g h):NoX (x::(P++y::M.reverse)) g h:=fun a b c d e f j l q=>
 have z:=YM hn hm hM hg hh e f j l
 k a b c d e f j l (q.mono fun _ _ _ m n o=>M8 hn hm hM (z _ m) (z _ n) (z _ o))
theorem H8(k:NoX (x::(P++y::Q)) g h):NoX (y::(Q++x::M)) g h:=fun a b c d e f j l q=>
 have z:=YM hn hm hM hg hh e f j l
 k a b c d e f j l (q.mono fun _ _ _ m n o=>H9 hn hm hM (z _ m) (z _ n) (z _ o))
end
structure Rgs(F:List PP):Prop where
 nd:∀ i,i<F.length->(F.getD i []).Nodup
 rev:∀ i j,i<F.length->j<F.length->i≠j->Rv (F.getD i []) (F.getD j [])
 nox:∀ i j k,i<F.length->j<F.length->k<F.length->i≠j->i≠k->j≠k->NoX (F.getD i []) (F.getD j []) (F.getD k [])
def Uu(c:n<F.length)(a b:PP)(i:Nat):(F.set n a++[b]).getD i []=if i=n then a else if i=F.length then b else F.getD i []:=by
 grind
def Sc(f g:PP):Prop:=(∀ v,v∈f↔v∈g)/\∀ x y z,Cy f x y z↔Cy g x y z
def EB(c:(a++b).Nodup):Sc (a++b) (b++a):=⟨by grind,fun _ _ _=>Mh c⟩
def Sc.rv(h:Sc f e)(k:Rv f g):Rv e g:=fun x y z a b c d=>k x y z a b c ((h.2 x y z).2 d)
def Sc.nox(s:Sc f e)(k:NoX f g h):NoX e g h:=fun a b c d j l m n q=>k a b c d j l m n (q.mono fun _ _ _ _ _ _=>(s.2 _ _ _).2)
def Sc.nox2(s:Sc g e)(k:NoX f g h):NoX f e h:=fun a b c d j l m n q=>k a b c d ((s.1 _).2 j) ((s.1 _).2 l) m n q
def Rgs.lay(h:Rgs F)(I:n<F.length)(s:Sc (F.getD n []) (x::(P++y::Q)))(o:(x::(P++y::Q)).Nodup)(p:M.Nodup)(m:∀ i,i<F.length->∀ v∈M,v∉F.getD i []):
 Rgs (F.set n (x::(P++y::M.reverse))++[y::(Q++x::M)]):=by
 have e:∀ v∈M,v∉x::(P++y::Q):=fun v k c=>m n I v k ((s.1 v).2 c)
 have C:∀ i,i<(F.set n (x::(P++y::M.reverse))++[y::(Q++x::M)]).length->(i=n/\(F.set n (x::(P++y::M.reverse))++[y::(Q++x::M)]).getD i []=x::(P++y::M.reverse))\/(i=F.length/\(F.set n (x::(P++y::M.reverse))++[y::(Q++x::M)]).getD i []=y::(Q++x::M))\/
  ((i<F.length/\i≠n)/\(F.set n (x::(P++y::M.reverse))++[y::(Q++x::M)]).getD i []=F.getD i []):=by
  grind
 generalize F.set n (x::(P++y::M.reverse))++[y::(Q++x::M)]=G at *;have B:∀ i,(i<F.length/\i≠n)->Rv (x::(P++y::Q)) (F.getD i []):=fun i k=>s.rv (h.rev n i I k.1 k.2.symm);have E:∀ i j,(i<F.length/\i≠n)->(j<F.length/\j≠n)->i≠j->NoX (x::(P++y::Q)) (F.getD i []) (F.getD j []):=fun i j k D q=>s.nox (h.nox n i j I k.1 D.1 k.2.symm D.2.symm q);have w:∀ i j,(i<F.length/\i≠n)->(j<F.length/\j≠n)->i≠j->NoX (F.getD i []) (x::(P++y::Q)) (F.getD j []):=fun i j k D q=>s.nox2 (h.nox i n j k.1 I D.1 k.2 q D.2.symm);have V:∀ g r,NoX g (x::(P++y::Q)) r->(∀ v∈M,v∉g)->NoX g (x::(P++y::M.reverse)) r:=fun g r k X a b c d k1 k2 T U q=>k a b c d (by grind [Cr]) (by grind [Cr]) T U q;have W:∀ g r,NoX g (x::(P++y::Q)) r->(∀ v∈M,v∉g)->NoX g (y::(Q++x::M)) r:=fun g r k X a b c d k1 k2 T U q=>k a b c d (by grind [Cr]) (by grind [Cr]) T U q;refine⟨fun i H=>?_,fun i j H S R=>?_,fun i j k H S hk K L N=>?_⟩
 .have:=h.nd i;grind
 .rcases C i H with⟨f,z⟩|⟨f,z⟩|⟨f,z⟩<;>rcases C j S with⟨l,A⟩|⟨l,A⟩|⟨l,A⟩<;>rw[z,A]
  .omega
  .exact YU o p e
  .exact L0 o p e (m j l.1) (B j l)
  .exact(YU o p e).symm
  .omega
  .exact K2 o p e (m j l.1) (B j l)
  .exact(L0 o p e (m i f.1) (B i f)).symm
  .exact(K2 o p e (m i f.1) (B i f)).symm
  .exact h.rev i j f.1 l.1 R
 .rcases C i H with⟨f,z⟩|⟨f,z⟩|⟨f,z⟩<;>rcases C j S with⟨l,A⟩|⟨l,A⟩|⟨l,A⟩<;>rcases C k hk with⟨t,J⟩|⟨t,J⟩|⟨t,J⟩<;>first|omega|rw[z,A,J]
  .exact TB o p e (m k t.1)
  .exact(TB o p e (m j l.1)).symm
  .exact L5 o p e (m j l.1) (m k t.1) (E j k l t N)
  .exact TU o p e (m k t.1)
  .exact(TU o p e (m j l.1)).symm
  .exact H8 o p e (m j l.1) (m k t.1) (E j k l t N)
  .exact YL o p e (m i f.1) (B i f)
  .exact V _ _ (w i k f t L) (m i f.1)
  .exact(YL o p e (m i f.1) (B i f)).symm
  .exact W _ _ (w i k f t L) (m i f.1)
  .exact(V _ _ (w i j f l K) (m i f.1)).symm
  .exact(W _ _ (w i j f l K) (m i f.1)).symm
  .exact h.nox i j k f.1 l.1 t.1 K L N
structure Avo(r:PP)(C D:Int->Prop):Prop where
 no:∀ a b c d,C a->C b->D c->D d->¬Cr r a b c d
 three:∀ a b c,C a->C b->C c->D a->D b->D c->a=b\/b=c\/a=c
def rS{a b c d:Int}(h:Cr r a b c d):Cr r c d a b:=by obtain⟨⟨e,f,g,j⟩,q⟩:=h;refine⟨⟨g,j,e,f⟩,?_⟩;unfold dP dh at *;omega
def Wh(h:Cr r x y z w)(k:∀ a b c,a∈[x,y,z,w]->b∈[x,y,z,w]->c∈[x,y,z,w]->Cy r a b c->Cy d c b a):Cr d x y z w:=by
 rw[UQ]at *
 grind
def Avo.symm{r:PP}{C D:Int->Prop}(h:Avo r C D):Avo r D C:=⟨fun a b c d k1 k2 k3 k4 q=>h.no c d a b k3 k4 k1 k2 (rS q),by grind [Avo]⟩
def Sm(C:Int->Prop)(f g:PP):Prop:=∀ x y z,C x->C y->C z->(Cy f x y z↔Cy g x y z)
theorem Avo.mono{r l:PP}{C D e f:Int->Prop}(h:Avo r C D)(g:∀ v,e v->C v)(j:∀ v,f v->D v)(k:∀ a b c,(e a\/f a)->(e b\/f b)->(e c\/f c)->Cy l a b c->Cy r a b c):Avo l e f:=
 ⟨fun a b c d m n o p q=>h.no a b c d (g _ m) (g _ n) (j _ o) (j _ p) (q.mono fun _ _ _ s t w=>k _ _ _ (by grind) (by grind) (by grind)),by grind [Avo]⟩
def Avo.flip(h:Avo r C D)(k:∀ a b c,(C a\/D a)->(C b\/D b)->(C c\/D c)->Cy e a b c->Cy r c b a):Avo e C D:=
 ⟨fun a b c d f g j l q=>h.no a b c d f g j l (Wh q fun _ _ _ m n o=>k _ _ _ (by grind) (by grind) (by grind)),h.three⟩
def Avo.rev(a:r.Nodup)(h:Avo r C D):Avo r.reverse C D:=h.flip fun _ _ _ _ _ _=>(Mt a).1
def Avo.rot(c:(a++b).Nodup)(h:Avo (a++b) C D):Avo (b++a) C D:=h.mono (fun _=>id) (fun _=>id) fun _ _ _ _ _ _=>(Mh c).2
def QZ(w:NoX f g h)(j:∀ v,C v->v∈f/\v∈g)(o:∀ v,D v->v∈f/\v∈h){t:Int}(m:D t)(r:t∉g):Avo f C D:=by
 have q:∀ a b c d,C a->C b->D c->D d->¬Cr f a b c d:=fun a b c d l n p x=>w a b c d (j _ l).2 (j _ n).2 (o _ p).2 (o _ x).2;refine⟨q,fun a b c l n p B E F=>?_⟩;have s:∀ v,C v->t≠v:=fun v k e=>r (e ▸ (j v k).2);have H:=@gA f t a (o t m).1;have I:=@gA f t b (o t m).1;have J:=@gA f t c (o t m).1;have K:=@gA f a b (j a l).1;have L:=@gA f b c (j b n).1;have M:=@gA f a c (j a l).1;have y:=q a b t c l n m F;have z:=q b c t a n p m B;have A:=q a c t b l p m E;have:=j a l;have:=j b n;have:=j c p;have:=o t m;have:=s a l;have:=s b n;have:=s c p;simp only[Cr,dP,dh]at y z A
 grind
section
variable {x y:Int} {P Q M:List Int} (hn:(x::(P++y::Q)).Nodup) (hm:M.Nodup) (hM:∀ v∈M,v∉x::(P++y::Q))
include hn hm hM
theorem Tf{u v w:Int}(d:u∈x::(P++[y]))(e:v∈x::(P++[y]))(f:w∈x::(P++[y])):Cy (x::(P++y::M.reverse)) u v w↔Cy (x::(P++y::Q)) u v w:=by
 have a:=fN hn hm hM (v:=u) (by grind);have b:=fN hn hm hM (v:=v) (by grind);have c:=fN hn hm hM (v:=w) (by grind);unfold Cy
 grind
theorem Fq{C D B:Int->Prop}(z:B x)(A:B y)(m:Avo (x::(P++y::Q)) D B)(X:∀ v,D v->v∈x::(P++[y]))(w:(∃ v,D v/\v∈P)\/(∀ v,B v->v∉P)\/¬(D x/\D y))(W:∀ v,C v->v∈M\/(B v/\v∈x::(P++[y]))):Avo (x::(P++y::M.reverse)) D C:=by
 have j:∀ v,D v->v∈x::(P++y::Q)/\v∉M/\(x::(P++y::M.reverse)).idxOf v=(x::(P++y::Q)).idxOf v/\(x::(P++y::Q)).idxOf v<=P.length+1:=fun v k=>by
  have:=fN hn hm hM (v:=v) (by grind)
  grind
 have F:∀ v,C v->(v∈M/\P.length+1<(x::(P++y::M.reverse)).idxOf v)\/(B v/\v∈x::(P++y::Q)/\v∉M/\(x::(P++y::M.reverse)).idxOf v=(x::(P++y::Q)).idxOf v/\(x::(P++y::Q)).idxOf v<=P.length+1):=fun v k=>by
  by_cases q:v∈M
  .have:=NM hn hm hM q;exact .inl ⟨q,O⟩
  .have:=fN hn hm hM (v:=v) (by grind)
   grind
 have g:∀ a b d,D a->D b->B d->d∈x::(P++y::Q)->(x::(P++y::Q)).idxOf a<(x::(P++y::Q)).idxOf d->(x::(P++y::Q)).idxOf d<(x::(P++y::Q)).idxOf b->False:=by
  intro a b d e f o N U V;have px:(x::(P++y::Q)).idxOf x=0:=by grind
  have py:(x::(P++y::Q)).idxOf y=P.length+1:=by
   have:=fN hn hm hM (v:=y) (by grind)
   grind
  have mx:x∈x::(P++y::Q):=by grind
  have my:y∈x::(P++y::Q):=by grind
  have r:=j a e;have s:=j b f;have J:d∈P:=by
   have:=fN hn hm hM N
   grind
  have K:a=x:=by
   have:=m.no a b d x e f o z;have:=@gA (x::(P++y::Q)) a x r.1;simp only[Cr,dP,dh]at *
   grind
  have L:b=y:=by
   have:=m.no a b d y e f o A;have:=@gA (x::(P++y::Q)) b y s.1;simp only[Cr,dP,dh]at *
   grind
  subst K L;rcases w with⟨t,n,E⟩|k|k
  .have H:=j t n;have:=m.three a b t e f n z A;have:=m.no t b d a n f o z;have:=m.no a t d b e n o A;have:=@gA (a::(P++b::Q)) t d H.1;have:=fN hn hm hM H.1;simp only[Cr,dP,dh]at *
   grind
  .exact k d o J
  .exact k ⟨e,f⟩
 refine⟨fun a b c d e f R o q=>?_,fun a b c n E I q1 p q3=>?_⟩
 .have r:=j a e;have s:=j b f;have p:=q.2;rcases F c R with fc|fc<;>rcases F d o with l|l
  .unfold dP dh at p;omega
  .have S:¬((x::(P++y::Q)).idxOf a<(x::(P++y::Q)).idxOf d/\(x::(P++y::Q)).idxOf d<(x::(P++y::Q)).idxOf b):=fun h=>g a b d e f l.1 l.2.1 h.1 h.2;have T:¬((x::(P++y::Q)).idxOf b<(x::(P++y::Q)).idxOf d/\(x::(P++y::Q)).idxOf d<(x::(P++y::Q)).idxOf a):=fun h=>g b a d f e l.1 l.2.1 h.1 h.2;unfold dP dh at p;omega
  .have S:¬((x::(P++y::Q)).idxOf a<(x::(P++y::Q)).idxOf c/\(x::(P++y::Q)).idxOf c<(x::(P++y::Q)).idxOf b):=fun h=>g a b c e f fc.1 fc.2.1 h.1 h.2;have T:¬((x::(P++y::Q)).idxOf b<(x::(P++y::Q)).idxOf c/\(x::(P++y::Q)).idxOf c<(x::(P++y::Q)).idxOf a):=fun h=>g b a c f e fc.1 fc.2.1 h.1 h.2;unfold dP dh at p;omega
  .refine m.no a b c d e f fc.1 l.1 ⟨⟨r.1,s.1,fc.2.1,l.2.1⟩,?_⟩;unfold dP dh at *;omega
 .have:=j a n;have:=j b E;have:=j c I;exact m.three a b c n E I (by grind) (by grind) (by grind)
end
section
variable {x y:Int} {P Q P' Q' M:List Int} (hn:(x::(P++y::Q)).Nodup) (hn':(x::(P'++y::Q')).Nodup) (hm:M.Nodup) (hM:∀ v∈M,v∉x::(P++y::Q)) (hM':∀ v∈M,v∉x::(P'++y::Q')) {B:Int->Prop} (hx:B x) (hy:B y) (hs:Sm B (x::(P++y::Q)) (x::(P'++y::Q')))
include hn hn' hm hM hM' hx hy hs
theorem VH{v:Int}(f:B v)(h:v∈x::(P'++[y])):v∈x::(P++[y]):=by
 by_cases k:v∈P'
 .have a:=fN hn' hm hM' (v:=v) (by grind);have b:=fN hn' hm hM' (v:=y) (by grind);have c:=fN hn' hm hM' (v:=x) (by grind);have d:=(hs x v y hx f hy).2 ⟨⟨by grind,by grind,by grind⟩,by unfold dh;grind⟩;have e:=fN hn hm hM (v:=v) d.1.2.1;have g:=fN hn hm hM (v:=y) (by grind);have i:=fN hn hm hM (v:=x) (by grind);have q:=d.2;unfold dh at q
  grind
 .grind
theorem E7{a b:Int}(g:B a)(j:B b)(k:a∈x::(P++[y]))(l:b∈x::(P++[y]))(h:(x::(P'++y::Q')).idxOf a<(x::(P'++y::Q')).idxOf b)(c:a∈x::(P'++[y]))(f:b∈x::(P'++[y])):(x::(P++y::Q)).idxOf a<(x::(P++y::Q)).idxOf b:=by
 have m:=fN hn' hm hM' (v:=a) (by grind);have n:=fN hn' hm hM' (v:=b) (by grind);have o:=fN hn' hm hM' (v:=x) (by grind);have p:=fN hn hm hM (v:=a) (by grind);have r:=fN hn hm hM (v:=b) (by grind);have s:=fN hn hm hM (v:=x) (by grind);by_cases e:a=x
 .grind
 .have d:=(hs x a b hx g j).2 ⟨⟨by grind,by grind,by grind⟩,by unfold dh;grind⟩;have q:=d.2;unfold dh at q
  grind
theorem Mz{a b c:Int}(l:a∈M\/(B a/\a∈x::(P'++[y])))(n:b∈M\/(B b/\b∈x::(P'++[y])))(o:c∈M\/(B c/\c∈x::(P'++[y])))(h:Cy (x::(P'++y::M.reverse)) a b c):Cy (x::(P++y::M.reverse)) a b c:=by
 have f:∀ u v,(u∈M\/(B u/\u∈x::(P'++[y])))->(v∈M\/(B v/\v∈x::(P'++[y])))->(x::(P'++y::M.reverse)).idxOf u<(x::(P'++y::M.reverse)).idxOf v->u∈x::(P++y::M.reverse)/\v∈x::(P++y::M.reverse)/\(x::(P++y::M.reverse)).idxOf u<(x::(P++y::M.reverse)).idxOf v:=by
  intro u v d e h;have g:∀ w,w∈M->(x::(P'++y::M.reverse)).idxOf w+M.idxOf w=P'.length+M.length+1/\(x::(P++y::M.reverse)).idxOf w+M.idxOf w=P.length+M.length+1/\M.idxOf w<M.length/\w∈x::(P++y::M.reverse):=fun w k=>by
   have:=NM hn hm hM k;have:=NM hn' hm hM' k
   grind
  have j:∀ w,B w/\w∈x::(P'++[y])->(x::(P'++y::M.reverse)).idxOf w=(x::(P'++y::Q')).idxOf w/\(x::(P'++y::Q')).idxOf w<=P'.length+1/\(x::(P++y::M.reverse)).idxOf w=(x::(P++y::Q)).idxOf w/\(x::(P++y::Q)).idxOf w<=P.length+1/\w∈x::(P++[y])/\w∈x::(P++y::M.reverse):=fun w k=>by
   have q:=VH hn hn' hm hM hM' hx hy hs k.1 k.2;have:=fN hn' hm hM' (v:=w) (by grind);have:=fN hn hm hM (v:=w) (by grind)
   grind
  rcases d with d|d<;>rcases e with e|e
  .have:=g u d;have:=g v e
   exact⟨by grind,by grind,O⟩
  .have:=g u d;have:=j v e
   exact⟨by grind,by grind,O⟩
  .have:=j u d;have:=g v e
   exact⟨by grind,by grind,O⟩
  .have p:=j u d;have r:=j v e;have:=E7 hn hn' hm hM hM' hx hy hs d.1 e.1 p.2.2.2.2.1 r.2.2.2.2.1 O d.2 e.2;exact⟨by grind,by grind,O⟩
 obtain⟨m,h⟩:=h;have:=f a b l n;have:=f b c n o;have:=f c a o l;unfold dh at h;exact⟨by grind,by unfold dh;grind⟩
end
theorem Sm.symm{B:Int->Prop}{f g:PP}(h:Sm B f g):Sm B g f:=fun x y z a b c=>(h x y z a b c).symm
structure Al{Θ:Type}(F:List PP)(live:Θ->Prop)(ct:Θ->Int->Prop)(K:Θ->PP->Prop)(α:Θ->Nat):Prop where
 lt:∀ T,live T->α T<F.length
 on:∀ T,live T->∀ v,ct T v->v∈F.getD (α T) []
 avo:∀ T T',live T->live T'->T≠T'->α T=α T'->Avo (F.getD (α T) []) (ct T) (ct T')
 sim:∀ T,live T->∃ r,K T r/\Sm (ct T) (F.getD (α T) []) r
def TF(hf:Rv f g)(e:r.Nodup)(d:∀ v,C v->v∈f/\v∈g)(h:Sm C f r):Sm C g r.reverse:=fun x y z a b c=>by
 rw[Mt e,<- h z y x c b a];have:=hf z y x (d z c).2 (d y b).2 (d x a).2;have:=hf.symm x y z (d x a).1 (d y b).1 (d z c).1
 grind
def Al.swap{Θ:Type}{live:Θ->Prop}{K:Θ->PP->Prop}{n:Θ->Int->Prop}{p:Θ->Nat}(h:Al F live n K p)(U:Rgs F)(P:∀ T r,K T r->K T r.reverse/\r.Nodup)(h2:∀ T,live T->∀ g,∃ i,i≠g/\i<F.length/\∀ v,n T v->v∈F.getD i [])
 {b:Θ} (hb:live b) {f:Nat} (hf:f<F.length) (V:∀ v,n b v->v∈F.getD f []):∃ B,Al F live n K B/\B b=f:=by
 by_cases e:p b=f
 .exact⟨p,h,e⟩
 have L:=h.lt b hb;have W:=h.on b hb;generalize hgg:p b=g at *
 have X:∃ B:Θ->Nat,∀ T,((∀ v,n T v->v∈F.getD f []/\v∈F.getD g [])->B T=if p T=f then g else if p T=g then f else p T)/\(¬(∀ v,n T v->v∈F.getD f []/\v∈F.getD g [])->B T=p T):=
  ⟨fun T=>open Classical in if(∀ v,n T v->v∈F.getD f []/\v∈F.getD g [])then(if p T=f then g else if p T=g then f else p T)else p T,fun T=>⟨fun k=>ac k,fun k=>aa k⟩⟩
 obtain⟨B,l⟩:=X;refine⟨B,⟨fun T k=>?_,fun T k v H=>?_,fun T s k N Tv o=>?_,fun T k=>?_⟩,?_⟩
 .have:=h.lt T k;by_cases c:∀ v,n T v->v∈F.getD f []/\v∈F.getD g []
  .have:=(l T).1 c;grind
  .have:=(l T).2 c;grind
 .have:=h.on T k v H;by_cases c:∀ v,n T v->v∈F.getD f []/\v∈F.getD g []
  .have:=(l T).1 c;have:=c v H;grind
  .have:=(l T).2 c;grind
 .have E:=h.avo T s k N Tv;have o1:=h.on T k;have o2:=h.on s N;have l1:=h.lt T k;have l2:=h.lt s N;have I:=U.rev f g hf L (jk e);have fl:∀ i j,Rv (F.getD i []) (F.getD j [])->(∀ v,n T v->v∈F.getD i []/\v∈F.getD j [])->(∀ v,n s v->v∈F.getD i []/\v∈F.getD j [])->Avo (F.getD j []) (n T) (n s)->Avo (F.getD i []) (n T) (n s):=fun i j r A D q=>q.flip fun x y z a b c=>r x y z (by grind) (by grind) (by grind);have w:∀ i j S J,live J->i<F.length->j<F.length->i≠j->(∀ v,n S v->v∈F.getD i []/\v∈F.getD j [])->(∀ v,n J v->v∈F.getD i [])->¬(∀ v,n J v->v∈F.getD i []/\v∈F.getD j [])->Avo (F.getD i []) (n S) (n J):=by
   intro i j S J hl hi hj hij A D c3;obtain⟨m,m1,m2,m3⟩:=h2 J hl i;have:∃ t,n J t/\t∉F.getD j []:=by grind
   obtain⟨t,t1,t2⟩:=this;exact QZ (U.nox i j m hi hj m2 hij m1.symm (fun e=>t2 (e ▸ m3 t t1))) A (fun v H=>⟨D v H,m3 v H⟩) t1 t2
  have sw:∀ {S:Θ},(∀ v,n S v->v∈F.getD f []/\v∈F.getD g [])->∀ v,n S v->v∈F.getD g []/\v∈F.getD f []:=fun k v q=>(k v q).symm;by_cases A:∀ v,n T v->v∈F.getD f []/\v∈F.getD g []<;>by_cases D:∀ v,n s v->v∈F.getD f []/\v∈F.getD g []
  .rw[(l T).1 A]at o ⊢;rw[(l s).1 D]at o;by_cases d:p T=f
   .have R:p s=f:=by grind
    rw[ac d];exact fl g f I.symm (sw A) (sw D) (d ▸ E (by rw[d,R]))
   .by_cases C:p T=g
    .have R:p s=g:=by grind
     rw[aa d,ac C];exact fl f g I A D (C ▸ E (by rw[C,R]))
    .rw[aa d,aa C];exact E (by grind)
  .rw[(l T).1 A]at o ⊢;rw[(l s).2 D]at o;by_cases d:p T=f
   .rw[ac d]at o ⊢;exact w g f T s N L hf e (sw A) (fun v H=>o ▸ o2 v H) fun q=>D fun v k=>(q v k).symm
   .by_cases C:p T=g
    .rw[aa d,ac C]at o ⊢;exact w f g T s N hf L (jk e) A (fun v H=>o ▸ o2 v H) D
    .rw[aa d,aa C]at o ⊢;exact E o
  .rw[(l T).2 A]at o ⊢;rw[(l s).1 D]at o;by_cases d:p s=f
   .rw[ac d]at o;rw[o];exact(w g f s T k L hf e (sw D) (fun v H=>o ▸ o1 v H) fun q=>A fun v k=>(q v k).symm).symm
   .by_cases C:p s=g
    .rw[aa d,ac C]at o;rw[o];exact(w f g s T k hf L (jk e) D (fun v H=>o ▸ o1 v H) A).symm
    .rw[aa d,aa C]at o;exact E o
  .rw[(l T).2 A]at o ⊢;rw[(l s).2 D]at o;exact E o
 .obtain⟨r,M,Q⟩:=h.sim T k;have I:=U.rev f g hf L (jk e);by_cases A:∀ v,n T v->v∈F.getD f []/\v∈F.getD g []
  .rw[(l T).1 A];by_cases d:p T=f
   .rw[ac d];exact⟨_,(P T r M).1,TF I (P T r M).2 A (d ▸ Q)⟩
   .by_cases C:p T=g
    .rw[aa d,ac C];exact⟨_,(P T r M).1,TF I.symm (P T r M).2 (fun v q=>(A v q).symm) (C ▸ Q)⟩
    .rw[aa d,aa C];exact⟨r,M,Q⟩
  .rw[(l T).2 A];exact⟨r,M,Q⟩
 .rw[(l b).1 fun v k=>⟨V v k,W v k⟩,hgg,aa e,ac rfl]
def half{P' Q':PP}(w:(x::(P++y::Q)).Nodup)(l:(x::(P'++y::Q')).Nodup)(t:M.Nodup)(s:∀ v∈M,v∉x::(P++y::Q))(j:∀ v∈M,v∉x::(P'++y::Q'))(A:B x)(C:B y)(E:Sm B (x::(P++y::Q)) (x::(P'++y::Q')))
 {Θ:Type} {ct:Θ->Int->Prop} {K:Θ->PP->Prop} {old pc:Θ->Prop}
 (g:∀ T,old T->(∀ v,ct T v->v∈x::(P++[y]))/\((∃ v,ct T v/\v∈P)\/(∀ v,B v->v∉P)\/¬(ct T x/\ct T y))/\Avo (x::(P++y::Q)) (ct T) B/\∃ r,K T r/\Sm (ct T) (x::(P++y::Q)) r)
 (F:∀ T d,old T->old d->T≠d->Avo (x::(P++y::Q)) (ct T) (ct d))
 (H:∀ T,pc T->(∀ v,ct T v->v∈M\/B v)/\(∀ v,ct T v->v∈x::(P'++y::M.reverse))/\K T (x::(P'++y::M.reverse)))
 (I:∀ T d,pc T->pc d->T≠d->Avo (x::(P'++y::M.reverse)) (ct T) (ct d)):
 (∀ T,old T\/pc T->(∀ v,ct T v->v∈x::(P++y::M.reverse))/\∃ r,K T r/\Sm (ct T) (x::(P++y::M.reverse)) r)/\∀ T d,old T\/pc T->old d\/pc d->T≠d->Avo (x::(P++y::M.reverse)) (ct T) (ct d):=by
 have q:∀ T,pc T->∀ v,ct T v->v∈M\/(B v/\v∈x::(P'++[y])):=fun T k v p=>by
  have:=(H T k).1 v p;have:=(H T k).2.1 v p
  grind
 have h:∀ T,pc T->∀ v,ct T v->v∈M\/(B v/\v∈x::(P++[y])):=fun T k v p=>(q T k v p).imp id fun z=>⟨z.1,VH w l t s j A C E z.1 z.2⟩;have e:=@Tf x y P Q M w t s;refine⟨fun T k=>?_,fun T d k f Tv=>?_⟩
 .rcases k with k|k
  .obtain⟨D,_,_,r,J,L⟩:=g T k;exact⟨fun v p=>by have:=D v p;grind,r,J,fun a b c m n o=>(e (D a m) (D b n) (D c o)).trans (L a b c m n o)⟩
  .refine⟨fun v p=>by have:=h T k v p;grind,_,(H T k).2.2,fun a b c m n o=>⟨?_,?_⟩⟩
   .exact Mz l w t j s A C E.symm (h T k a m) (h T k b n) (h T k c o)
   .exact Mz w l t s j A C E (q T k a m) (q T k b n) (q T k c o)
 .rcases k with k|k<;>rcases f with f|f
  .exact(F T d k f Tv).mono (fun _=>id) (fun _=>id) fun a b c m n o=>(e (m.elim ((g T k).1 a) ((g d f).1 a)) (n.elim ((g T k).1 b) ((g d f).1 b)) (o.elim ((g T k).1 c) ((g d f).1 c))).1
  .exact Fq w t s A C (g T k).2.2.1 (g T k).1 (g T k).2.1 (h d f)
  .exact(Fq w t s A C (g d f).2.2.1 (g d f).1 (g d f).2.1 (h T k)).symm
  .exact(I T d k f Tv).mono (fun _=>id) (fun _=>id) fun a b c m n o=>Mz l w t j s A C E.symm (m.elim (h T k a) (h d f a)) (n.elim (h T k b) (h d f b)) (o.elim (h T k c) (h d f c))
def uK(e:x∈r)(f:y∈r)(W0:x≠y):∃ a b P Q,r=a++b/\b++a=x::(P++y::Q):=by
 obtain⟨a,b,rfl⟩:=fo e;rcases(by grind:y∈b\/y∈a)with h|h
 .obtain⟨c,d,rfl⟩:=fo h;exact⟨a,x::(c++y::d),c,d++a,rfl,Y⟩
 .obtain⟨c,d,rfl⟩:=fo h;exact⟨c++y::d,x::b,b++c,d,rfl,Y⟩
def Sc.avo(s:Sc f g)(h:Avo f C D):Avo g C D:=h.mono (fun _=>id) (fun _=>id) fun a b c _ _ _=>(s.2 a b c).2
def rE(c:(x::(P++y::Q)).Nodup)(a:v∈P)(b:w∈Q):Cr (x::(P++y::Q)) x y v w:=by have:=lO a;have:=lO b;refine⟨by grind,.inl ⟨?_,?_⟩⟩<;>unfold dh<;>grind
def mi(a:Int->Prop)(B:Int->Prop)(x y:Int)(P:PP):Prop:=(∀ v,a v->v∈x::(P++[y]))/\((∃ v,a v/\v∈P)\/(∀ v,B v->v∉P)\/¬(a x/\a y))
def Xz(p:(x::(P++y::Q)).Nodup)(g:B x)(j:B y)(o:Avo (x::(P++y::Q)) C B)(e:∀ v,C v->v∈x::(P++y::Q))(h:¬mi C B x y P):mi C B y x Q:=by
 have f:∀ v w,v∈P->w∈Q->Cr (x::(P++y::Q)) x y v w:=fun v w=>rE p;have r:∀ v w,C v->C w->v∈P->w∈Q->False:=fun v w k l m n=>o.no v w x y k l g j (rS (f v w m n));have s:∀ v w,B v->B w->v∈P->w∈Q->C x->C y->False:=fun v w k l m n g j=>o.no x y v w g j k l (f v w m n);unfold mi at *;by_cases a:∃ v,C v/\v∈P<;>by_cases b:∃ v,C v/\v∈Q
 .grind
 .exact absurd ⟨fun v k=>by have:=e v k;grind,.inl a⟩ h
 .exact⟨fun v k=>by have:=e v k;grind,.inl b⟩
 .have k:∀ v,C v->v=x\/v=y:=fun v k=>by have:=e v k;grind
  refine⟨by grind,?_⟩;by_cases c:C x/\C y
  .by_cases d:∀ v,B v->v∉P
   .exact absurd ⟨fun v q=>by have:=k v q;grind,.inr (.inl d)⟩ h
   .right;left;grind
  .grind
def HX(h:(x::(P++y::Q)).Nodup):(y::(Q++x::P)).Nodup:=by grind
def Al.lay{Θ:Type}{live:Θ->Prop}{K:Θ->PP->Prop}{f:Θ->Int->Prop}{m:Θ->Nat}(h:Al F live f K m)(hK:∀ T r,K T r->K T r.reverse/\r.Nodup)
 {b:Θ} (hb:live b) {n:Nat} (e:m b=n) {x y:Int} {P Q M:PP} (s:Sc (F.getD n []) (x::(P++y::Q))) (hd:(x::(P++y::Q)).Nodup) (hm:M.Nodup) (hM:∀ i,i<F.length->∀ v∈M,v∉F.getD i []) (hx:f b x) (hy:f b y)
 (I:∀ r,K b r->(∀ v∈M,v∉r)/\∀ v,f b v->v∈r) {p E:Θ->Prop} (hl:∀ T,p T->(live T/\T≠b)\/(E T/\¬live T))
 (hp:∀ a b' t A,K b (a++b')->b'++a=x::(t++y::A)->∃ side:Θ->Bool,∀ T,E T->(∀ v,f T v->v∈M\/f b v)/\(∀ v,f T v->v∈if side T then x::(t++y::M.reverse)else y::(A++x::M))/\K T (if side T then x::(t++y::M.reverse)else y::(A++x::M))/\
   ∀ j,E j->T≠j->side T=side j->Avo (if side T then x::(t++y::M.reverse)else y::(A++x::M)) (f T) (f j)):
 ∃ l,Al (F.set n (x::(P++y::M.reverse))++[y::(Q++x::M)]) p f K l:=by
 have hnF:=e ▸ h.lt b hb;obtain⟨r,hr,hs⟩:=h.sim b hb;rw[e]at hs;have W0:x≠y:=by grind
 obtain⟨a,b',t,A,e1,e2⟩:=uK ((I r hr).2 x hx) ((I r hr).2 y hy) W0;have hrn:=(hK b r hr).2;have J:(x::(t++y::A)).Nodup:=by rw[<- e2];grind
 have hMr:=(I r hr).1;have sc':Sc r (x::(t++y::A)):=by rw[e1,<- e2];exact EB (e1 ▸ hrn)
 have hs1:Sm (f b) (x::(P++y::Q)) (x::(t++y::A)):=fun u v w N R S=>by rw[<- s.2,hs u v w N R S,sc'.2]
 have X:∀ v∈M,v∉x::(P++y::Q):=fun v k c=>hM n hnF v k ((s.1 v).2 c);have H:∀ v∈M,v∉x::(t++y::A):=fun v k c=>hMr v k ((sc'.1 v).2 c);obtain⟨side,o⟩:=hp a b' t A (e1 ▸ hr) e2
 have hex:∃ l:Θ->Nat,∀ T,(live T->(m T≠n->l T=m T)/\(m T=n->mi (f T) (f b) x y P->l T=n)/\(m T=n->¬mi (f T) (f b) x y P->l T=F.length))/\(¬live T->l T=if side T then n else F.length):=
  ⟨fun T=>open Classical in if live T then(if m T=n then if mi (f T) (f b) x y P then n else F.length else m T)else if side T then n else F.length,fun T=>by grind⟩
 obtain⟨l,hα⟩:=hex;have D:∀ T j,(live T/\m T=n)->(live j/\m j=n)->T≠j->Avo (x::(P++y::Q)) (f T) (f j):=fun T j k q Tv=>s.avo (k.2 ▸ h.avo T j k.1 q.1 Tv (by rw[k.2,q.2]));have hon:∀ T,(live T/\m T=n)->∀ v,f T v->v∈x::(P++y::Q):=fun T k v L=>(s.1 v).1 (k.2 ▸ h.on T k.1 v L);have hsm:∀ T,(live T/\m T=n)->∃ r,K T r/\Sm (f T) (x::(P++y::Q)) r:=fun T k=>by obtain⟨r,h1,W⟩:=h.sim T k.1;exact⟨r,h1,fun u v w N R S=>by rw[<- s.2,<- k.2,W u v w N R S]⟩
 have H1:=half (K:=K) (ct:=f) (old:=fun T=>(live T/\m T=n)/\T≠b/\mi (f T) (f b) x y P) (pc:=fun T=>E T/\side T=true) hd J hm X H hx hy hs1
  (fun T k=>⟨k.2.2.1,k.2.2.2,D T b k.1 ⟨hb,e⟩ k.2.1,hsm T k.1⟩) (fun T j k q=>D T j k.1 q.1)
  (fun T k=>by have:=o T k.1;simp only[k.2,ef]at this;exact⟨this.1,this.2.1,this.2.2.1⟩)
  (fun T j k q Tv=>by have:=(o T k.1).2.2.2 j q.1 Tv;simp only[k.2,q.2,ef,vt]at this;exact this)
 have sd:∀ P Q:PP,(x::(P++y::Q)).Nodup->Sc (x::(P++y::Q)) (y::(Q++x::P)):=fun P Q hn=>EB (a:=x::P) (b:=y::Q) (by simpa using hn);have V:=sd P Q hd;have d2:=sd t A J
 have H2:=half (K:=K) (ct:=f) (old:=fun T=>(live T/\m T=n)/\T≠b/\¬mi (f T) (f b) x y P) (pc:=fun T=>E T/\side T=false) (x:=y) (y:=x) (P:=Q) (Q:=P) (P':=A) (Q':=t) (M:=M.reverse) (B:=f b) (HX hd) (HX J) ((ik M).nodup_iff.2 hm) (fun v k c=>X v (iu.1 k) ((V.1 v).2 c)) (fun v k c=>H v (iu.1 k) ((d2.1 v).2 c)) hy hx
  (fun u v w N R S=>by rw[<- V.2,<- d2.2,hs1 u v w N R S])
  (fun T k=>by
    have z:=Xz hd hx hy (D T b k.1 ⟨hb,e⟩ k.2.1) (hon T k.1) k.2.2;obtain⟨r,h1,W⟩:=hsm T k.1
    exact⟨z.1,z.2,V.avo (D T b k.1 ⟨hb,e⟩ k.2.1),r,h1,fun u v w N R S=>by rw[<- V.2,W u v w N R S]⟩)
  (fun T j k q Tv=>V.avo (D T j k.1 q.1 Tv))
  (fun T k=>by have:=o T k.1;simp only[k.2]at this;rw[om];exact⟨fun v L=>by rw[iu];exact this.1 v L,this.2.1,this.2.2.1⟩)
  (fun T j k q Tv=>by have:=(o T k.1).2.2.2 j q.1 Tv;simp only[k.2,q.2,vt]at this;rw[om];exact this)
 rw[om]at H2;have C:∀ T,p T->(l T=n/\(((live T/\m T=n)/\T≠b/\mi (f T) (f b) x y P)\/(E T/\side T=true)))\/(l T=F.length/\(((live T/\m T=n)/\T≠b/\¬mi (f T) (f b) x y P)\/(E T/\side T=false)))\/(l T=m T/\live T/\m T<F.length/\m T≠n):=fun T k=>by have:=hα T;have:=h.lt T;have:=hl T k;by_cases c:live T<;>by_cases d:side T<;>by_cases g:m T=n<;>by_cases i:mi (f T) (f b) x y P<;>grind
 have gl:=fun i=>Uu hnF (x::(P++y::M.reverse)) (y::(Q++x::M)) i;have g1:(F.set n (x::(P++y::M.reverse))++[y::(Q++x::M)]).getD n []=x::(P++y::M.reverse):=by rw[gl,ac rfl]
 have g2:(F.set n (x::(P++y::M.reverse))++[y::(Q++x::M)]).getD F.length []=y::(Q++x::M):=by rw[gl,aa O,ac rfl]
 have g3:∀ i,i<F.length->i≠n->(F.set n (x::(P++y::M.reverse))++[y::(Q++x::M)]).getD i []=F.getD i []:=fun i h1 W=>by rw[gl,aa W,aa O]
 have hlen:(F.set n (x::(P++y::M.reverse))++[y::(Q++x::M)]).length=F.length+1:=Y;generalize F.set n (x::(P++y::M.reverse))++[y::(Q++x::M)]=G at *;refine⟨l,fun T k=>?_,fun T k v L=>?_,fun T j k q Tv he=>?_,fun T k=>?_⟩
 .rcases C T k with c|c|c<;>omega
 .rcases C T k with c|c|c
  .rw[c.1,g1];exact(H1.1 T c.2).1 v L
  .rw[c.1,g2];exact(H2.1 T c.2).1 v L
  .rw[c.1,g3 _ c.2.2.1 c.2.2.2];exact h.on T c.2.1 v L
 .rcases C T k with c|c|c<;>rcases C j q with U|U|U<;>first|omega|skip
  .rw[c.1,g1];exact H1.2 T j c.2 U.2 Tv
  .rw[c.1,g2];exact H2.2 T j c.2 U.2 Tv
  .rw[c.1,g3 _ c.2.2.1 c.2.2.2];exact h.avo T j c.2.1 U.2.1 Tv O
 .rcases C T k with c|c|c
  .rw[c.1,g1];exact(H1.1 T c.2).2
  .rw[c.1,g2];exact(H2.1 T c.2).2
  .rw[c.1,g3 _ c.2.2.1 c.2.2.2];exact h.sim T c.2.1
end Aw
namespace Aw
open Go Go.RowKit Pl Eu
abbrev kA(A:gj)(k:Nat):Int:=(A.getD k (0,0)).1
abbrev pA(A:gj)(k:Nat):Int:=(A.getD k (0,0)).2
variable{A:gj}
def AG{B:gj}{k:Nat}(h:k<A.length):(A++B).getD k (0,0)=A.getD k (0,0):=by rw[bv,kw h,<- bv]
def SY{v:Int}(h:v∈A.map (·.1)):∃ k,k<A.length/\kA A k=v:=by obtain⟨p,b,rfl⟩:=ao.1 h;obtain⟨k,a,rfl⟩:=er b;exact⟨k,a,by unfold kA;rw[bv,bu a];rfl⟩
section
variable {near:Int->List Int} {may:Int->Bool} {XE to:Int} {vs:List Int}
structure LA(near:Int->PP)(may:Int->Bool)(XE:Int)(A:gj):Prop where
 nd:(A.map (·.1)).Nodup
 pos:0<A.length
 hd:kA A 0=XE
 par:∀ k,0<k->k<A.length->∃ j,j<k/\kA A j=pA A k/\kA A k∈near (pA A k)/\(pA A k=XE\/may (pA A k)=true)
theorem LA.snoc{A:gj}(h:LA near may XE A){w v:Int}(B:w∉A.map (·.1))(z:v∈A.map (·.1))(y:w∈near v)(x:v=XE\/may v=true):LA near may XE (A++[(w,v)]):=by
 refine⟨?_,Y,?_,fun k m t=>?_⟩
 .rw[cz,bo];exact⟨h.nd,Y,fun a r b l e=>B (by rw[List.map_singleton,bi]at l;have d:b=w:=l;rw[<- d,<- e];exact r)⟩
 .show((A++[(w,v)]).getD 0 (0,0)).1=XE;rw[AG h.pos];exact h.hd
 .rw[cb,List.length_singleton]at t;by_cases c:k<A.length
  .obtain⟨j,n,o,p,q⟩:=h.par k m c;refine⟨j,n,?_,?_,?_⟩
   .show((A++[(w,v)]).getD j (0,0)).1=((A++[(w,v)]).getD k (0,0)).2;rw[AG c,AG O];exact o
   .show((A++[(w,v)]).getD k (0,0)).1∈near ((A++[(w,v)]).getD k (0,0)).2;rw[AG c];exact p
   .show((A++[(w,v)]).getD k (0,0)).2=XE\/may ((A++[(w,v)]).getD k (0,0)).2=true;rw[AG c];exact q
  .have e:k=A.length:=O;have g:(A++[(w,v)]).getD k (0,0)=(w,v):=by rw[e];simp
   obtain⟨j,s,f⟩:=SY z;refine⟨j,O,?_,?_,?_⟩
   .show((A++[(w,v)]).getD j (0,0)).1=((A++[(w,v)]).getD k (0,0)).2;rw[AG s,g];exact f
   .show((A++[(w,v)]).getD k (0,0)).1∈near ((A++[(w,v)]).getD k (0,0)).2;rw[g];exact y
   .show((A++[(w,v)]).getD k (0,0)).2=XE\/may ((A++[(w,v)]).getD k (0,0)).2=true;rw[g];exact x
theorem Hy{v:Int}(C:v=XE\/may v=true):∀(a:PP) (A:gj) (Q:PP),LA near may XE A->v∈A.map (·.1)->to∉A.map (·.1)->(∀ u∈a,u∈near v)->
 ∃ D g b,eK may to v ⟨A,Q,false⟩ a=⟨A++D,Q++g,b⟩/\LA near may XE (A++D)/\(∀ p∈D,p.1∈a)/\(b=true->to∈D.map (·.1))/\
  (b=false->to∉(A++D).map (·.1)/\(∀ u∈a,u∈(A++D).map (·.1))/\(∀ u∈D.map (·.1),may u=true->u∈g)/\(∀ q∈g,q∈D.map (·.1)/\may q=true)/\g.length<=D.length)
 |[],A,Q,hA,_,ht,_=>⟨[],[],false,by simp[eK],by simpa using hA,Y,Y,by simpa using ht⟩
 |u::a,A,Q,hA,hv,ht,hr=>by
  have o:∀ x∈a,x∈near v:=fun x c=>hr x (aq _ c);have s:eK may to v ⟨A,Q,false⟩ (u::a)=eK may to v (iN may to v ⟨A,Q,false⟩ u) a:=rfl;by_cases r:u∈A.map (·.1)
  .have j:iN may to v ⟨A,Q,false⟩ u=⟨A,Q,false⟩:=by simp only[iN];rw[aa Y,ac r]
   obtain⟨D,g,b,t,w,y,z,B⟩:=Hy C a A Q hA hv ht o;refine⟨D,g,b,by rw[s,j];exact t,w,fun p n=>aq _ (y p n),z,fun h=>?_⟩;obtain⟨F,H,I⟩:=B h;refine⟨F,fun x c=>?_,I⟩;rcases ai.1 c with rfl|c
   .rw[cz];exact dg _ r
   .exact H x c
  .have l:=hA.snoc r hv (hr u ar) C;by_cases f:u=to
   .have j:iN may to v ⟨A,Q,false⟩ u=⟨A++[(u,v)],Q,true⟩:=by simp only[iN];rw[aa Y,aa r,ac f]
    refine⟨[(u,v)],[],true,?_,l,Y,Z f,Y⟩;rw[s,j,Ej _ _ _ rfl,dT]
   .have j:iN may to v ⟨A,Q,false⟩ u=⟨A++[(u,v)],if may u=true then Q++[u]else Q,false⟩:=by simp only[iN];rw[aa Y,aa r,aa f]
    have K:(if may u=true then Q++[u]else Q)=Q++if may u=true then [u]else []:=by split<;>simp
    obtain⟨D,g,b,t,w,y,z,B⟩:=Hy C a (A++[(u,v)]) (Q++if may u=true then [u]else []) l (by rw[cz];exact dg _ hv) (by
     rw[cz,am];rintro(k|k)
     .exact ht k
     .simp at k;exact f k.symm) o
    refine⟨(u,v)::D,(if may u=true then [u]else [])++g,b,?_,by simpa using w,?_,fun h=>?_,fun h=>?_⟩
    .rw[s,j,K,t];simp
    .intro p n;rcases ai.1 n with rfl|n
     .exact ar
     .exact aq _ (y p n)
    .rw[ax];exact aq _ (z h)
    .obtain⟨F,H,I,J,k5⟩:=B h;have L:A++(u,v)::D=A++[(u,v)]++D:=Y;rw[L];refine⟨F,fun x c=>?_,fun x c m=>?_,fun q d=>?_,?_⟩
     .rcases ai.1 c with rfl|c
      .simp
      .exact H x c
     .rw[ax]at c;rcases ai.1 c with e|c
      .subst e;rw[ac m];simp
      .exact dE _ (I x c m)
     .rw[ax];rcases am.1 d with d|d
      .split at d
       .rename_i E;rw[bi]at d;subst d;exact⟨ar,E⟩
       .cases d
      .exact⟨aq _ (J q d).1,(J q d).2⟩
     .rw[cb,List.length_cons]
      split
      .simp;omega
      .simp;omega
def Zs(near:Int->PP)(may:Int->Bool)(XE:Int)(S:Int->Prop):Prop:=S XE/\∀ v,S v->(v=XE\/may v=true)->∀ w∈near v,S w
theorem VR(a:∀ v,∀ w∈near v,w∈vs):∀(n:Nat) (A:gj) (Q:PP),LA near may XE A->to∉A.map (·.1)->(∀ v∈A.map (·.1),v∈vs)->(∀ q∈Q,q∈A.map (·.1)/\(q=XE\/may q=true))->
 (∀ v∈A.map (·.1),v∉Q->(v=XE\/may v=true)->∀ w∈near v,w∈A.map (·.1))->Q.length+vs.length<=n+A.length->
 (∃ j,ni near may to n A Q=some (some j)/\LA near may XE j/\to∈j.map (·.1)/\∀ v∈j.map (·.1),v∈vs)\/∃ S,Zs near may XE S/\¬S to
 |n,A,[],hA,ht,_,_,hc,_=>.inr ⟨fun v=>v∈A.map (·.1),⟨by
   have:=hA.hd;rw[<- this];unfold kA;rw[bv,bu hA.pos]
   exact dd (dz _),fun v r m w k=>hc v r Y m w k⟩,ht⟩
 |0,A,v::Q,hA,_,hs,_,_,hl=>by have:=gu hA.nd hs;rw[du]at this;rw[List.length_cons]at hl;omega
 |n+1,A,v::Q,hA,ht,hs,hq,hc,hl=>by
  obtain⟨r,m⟩:=hq v ar;obtain⟨D,z,l,B,s,C,E,F⟩:=Hy (to:=to) m (near v) A Q hA r ht fun _ h=>h;have g:∀ x∈(A++D).map (·.1),x∈vs:=fun x f=>by
   rw[cz]at f;rcases am.1 f with f|f
   .exact hs x f
   .obtain⟨p,I,rfl⟩:=ao.1 f;exact a _ _ (C p I)
  simp only[ni,B];cases l with
  |true=>exact .inl ⟨_,Y,s,by rw[cz];exact dE _ (E rfl),g⟩
  |false=>
   obtain⟨J,K,L,y,k5⟩:=F rfl;rw[aa Y];refine VR a n (A++D) (Q++z) s J g (fun q o=>?_) (fun u t c b w k=>?_) ?_
   .rw[cz];rcases am.1 o with h|h
    .have:=hq q (aq _ h);exact⟨dg _ this.1,this.2⟩
    .exact⟨dE _ (y q h).1,.inr (y q h).2⟩
   .rw[am,fJ]at c;by_cases d:u∈A.map (·.1)
    .by_cases e:u=v
     .subst e;exact K w k
     .rw[cz];exact dg _ (hc u d (by rw[ai,fJ];exact⟨e,c.1⟩) b w k)
    .rw[cz]at t;have H:=(am.1 t).resolve_left d;rcases b with e|b
     .exfalso;apply d;rw[e,<- hA.hd];unfold kA;rw[bv,bu hA.pos];exact dd (dz _)
     .exact absurd (L u H b) c.2
   .simp only[cb,List.length_cons]at hl ⊢;omega
theorem Uq:∀ {A:gj},(A.map (·.1)).Nodup->∀ {k:Nat},k<A.length->lN A (kA A k)=some (pA A k)
 |a::A,hn,0,_=>by simp[lN,kA,pA]
 |a::A,hn,k+1,h=>by
  rw[ax,bw]at hn;have b:=Uq hn.2 (k:=k) (by simpa using h)
  have Tv:kA A k≠a.1:=fun e=>hn.1 (by
   rw[<- e];unfold kA;rw[bv,bu (by simpa using h)]
   exact dd (dz _))
  show lN (a::A) (kA A k)=some (pA A k);unfold lN;rw[aa Tv];exact b
theorem Xe{A:gj}(d:LA near may XE A):∀(n k:Nat),k<A.length->k<=n->∃ l,jK A XE n (kA A k)=some l/\(kA A k::l).getLast (by simp)=XE/\(∀ x y,(x,y)∈ad (kA A k::l)->x∈near y/\(y=XE\/may y=true))/\
 (∀ y∈l,∃ j,j<k/\kA A j=y)/\(kA A k::l).Nodup:=by
 have b:∀ i j,i<A.length->j<A.length->kA A i=kA A j->i=j:=fun i j p q e=>by
  have f:(A.map (·.1))[i]'(by simpa using p)=(A.map (·.1))[j]'(by simpa using q):=by unfold kA at e;rw[bv,bu p,bv,bu q]at e;simpa using e
  exact get_inj d.nd _ _ f
 have a:∀ n k,k<A.length->kA A k=XE->∃ l,jK A XE n (kA A k)=some l/\(kA A k::l).getLast (by simp)=XE/\(∀ x y,(x,y)∈ad (kA A k::l)->x∈near y/\(y=XE\/may y=true))/\(∀ y∈l,∃ j,j<k/\kA A j=y)/\(kA A k::l).Nodup:=fun n k c e=>by refine⟨[],?_,by simpa using e,fun x y h=>by simp[ad]at h,Y,Y⟩;cases n<;>simp[jK,e]
 intro n;induction n with
 |zero=>intro k c g;have:k=0:=O;subst this;exact a 0 0 c d.hd
 |succ n C=>
  intro k c g;by_cases e:kA A k=XE
  .exact a _ _ c e
  have v:0<k:=by
   rcases sr k with h|h
   .subst h;exact absurd d.hd e
   .exact h
  obtain⟨j,D,r,E,F⟩:=d.par k v c;obtain⟨l,H,I,J,s,K⟩:=C j O O;have w:jK A XE (n+1) (kA A k)=some (kA A j::l):=by rw[jK,aa e,Uq d.nd c];show(jK A XE n (pA A k)).map _=_;rw[<- r,H];rfl
  refine⟨kA A j::l,w,?_,fun x y h=>?_,fun y m=>?_,?_⟩
  .rw[List.getLast_cons Y];exact I
  .rcases ai.1 h with h|h
   .injection h with f t;subst f;subst t;rw[r];exact⟨E,F⟩
   .exact J x y h
  .rcases ai.1 m with rfl|m
   .exact⟨j,D,rfl⟩
   .obtain⟨i,B,o⟩:=s y m;exact⟨i,O,o⟩
  .refine bw.2 ⟨fun z=>?_,K⟩;rcases ai.1 z with h|h
   .have:=b k j c O h;omega
   .obtain⟨i,B,o⟩:=s _ h;have:=b i k O c o;omega
theorem NY:∀ {l:PP} {a y:Int},y∈l->∃ x,(x,y)∈ad (a::l)
 |b::l,a,y,h=>by
  rcases ai.1 h with rfl|h
  .exact⟨a,by simp[ad]⟩
  .obtain⟨x,c⟩:=NY (a:=b) h;exact⟨x,aq _ c⟩
theorem Om(f:∀ v,∀ w∈near v,w∈vs)(hf:XE∈vs)(L:to∈vs)(Tv:XE≠to){n:Nat}(hn:vs.length+1<=n)(Q:∀ S,Zs near may XE S->S to):
 ∃ w,xE vs near may XE to n=some w/\w.Nodup/\2<=w.length/\w.length<=vs.length/\(∀ v∈w,v∈vs)/\w.getD 0 0=XE/\w.getD (w.length-1) 0=to/\(∀ x y,(x,y)∈ad w->y∈near x)/\∀ v∈dO w,may v=true:=by
 have r:LA near may XE [(XE,XE)]:=⟨Y,Y,rfl,fun k X s=>by simp at s;omega⟩;rcases VR (may:=may) (to:=to) f n [(XE,XE)] [XE] r (by simpa using fun e=>Tv e.symm) (by simpa using hf) Y (fun v b z=>by simp at b;exact absurd (Z b) z) (by simp;omega)with⟨A,o,I,p,H⟩|⟨S,o,p⟩;rotate_left
 .exact absurd (Q S o) p
 obtain⟨k,s,t⟩:=SY p;have hl:A.length<=vs.length:=by
  have:=gu I.nd H
  rwa [du]at this
 obtain⟨l,N,m,E,U,P⟩:=Xe I n k s O;rw[t]at N m E P;have M:∀ v∈to::l,v∈vs:=fun v b=>by
  rcases ai.1 b with rfl|b
  .exact L
  .obtain⟨j,j1,rfl⟩:=U v b;refine H _ ?_;unfold kA;rw[bv,bu O];exact dd (dz _)
 have g:l≠[]:=by rintro rfl;simp at m;exact Tv m.symm
 have R:xE vs near may XE to n=some (to::l).reverse:=by unfold xE;rw[aa (by simp[hf,L]),aa Tv,o];show(jK A XE n to).map _=_;rw[N];rfl
 have c:((to::l).reverse).Nodup:=(ik _).nodup_iff.2 P;have d:2<=((to::l).reverse).length:=by have:=jg.2 g;rw[xh,List.length_cons];omega
 have g0:((to::l).reverse).getD 0 0=XE:=by
  have e:(to::l)=(to::l).dropLast++[XE]:=by rw[<- m,lf]
  rw[e,Hd];rfl
 have F:((to::l).reverse).getD (((to::l).reverse).length-1) 0=to:=by rw[xh,List.length_cons,sx,tg,bv,oi Y];simp
 refine⟨_,R,c,d,?_,fun v b=>M v (iu.1 b),g0,F,fun x y h=>?_,fun v b=>?_⟩
 .exact gu c fun v b=>M v (iu.1 b)
 .rw[(rG _).mem_iff,ao]at h;obtain⟨q,J,e⟩:=h;have:q=(y,x):=by rw[<- lk q,e];rfl
  rw[this]at J;exact(E y x J).1
 .have K:=pF d;rw[g0,F]at K;have B:=oJ b;have D:v∈to::l:=iu.1 B;rw[K]at c;have V:v≠XE:=fun e=>(bw.1 c).1 (by rw[<- e];exact dg _ b);have W:v≠to:=fun e=>(bo.1 (bw.1 c).2).2.2 v b to Y e;have C:v∈l:=(ai.1 D).resolve_left W;obtain⟨x,T⟩:=NY (a:=to) C;exact(E x v T).2.resolve_left V
end
end Aw
end Go.Proofs.YtbgngpdonpeboaaGreatDoor
