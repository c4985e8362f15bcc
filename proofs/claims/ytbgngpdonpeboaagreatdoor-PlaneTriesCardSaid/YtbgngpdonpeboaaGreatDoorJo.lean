/- Plain: blocks hang together as a forest; what is drawn lies in the plane. -/
import Derived.Test.YtbgngpdonpeboaaGreatDoorJn
set_option linter.unusedVariables false
set_option linter.unusedSimpArgs false
set_option linter.unusedSectionVars false
namespace Go.Proofs.YtbgngpdonpeboaaGreatDoor
namespace Aw
open Go Go.RowKit Pl Eu
theorem IB{R S:Int->Int->Prop}(hR:Eqv R)(hS:Eqv S)(h:∀ x y,R x y->S x y){l:List Int}{v0:Int}:∀(vs:List Int),v0∈l->(∀ v∈vs,v∈l/\S v0 v)->(v0::vs).Pairwise (fun x y=>¬R x y)->ncl S l+vs.length<=ncl R l
 |[],_,_,_=>by simpa using rT (R:=R) (S:=S) (l:=l) fun x _ y _=>h x y
 |v::vs,h0,hv,hp=>by
  obtain⟨p1,p2⟩:=aBf.1 hp;obtain⟨p3,p4⟩:=aBf.1 p2;obtain⟨v1,v2⟩:=hv v aAf;have e:=tJ hR (p1 v aAf) h0 v1;have:=IB (R:=Eu.Mg R v0 v) (S:=S) (Mg.eqv hR _ _) hS (fun x y k=>Mg.le hS v2 h k) (l:=l) (v0:=v0) vs h0 (fun w hw=>hv w (aAc _ hw)) (aBf.2 ⟨?_,?_⟩)
  .rw[List.length_cons];omega
  .rintro w hw (k|⟨_,k⟩|⟨k,_⟩)
   .exact p1 w (aAc _ hw) k
   .exact p3 w hw k
   .exact p1 v aAf k
  .refine p4.imp_of_mem fun {x y} hx hy L7 k=>?_;rcases k with k|⟨k1,k2⟩|⟨k1,k2⟩
   .exact L7 k
   .exact p3 y hy k2
   .exact p3 x hx (hR.symm k1)
theorem PZ(vs:List Int):∀(Ls:List (List Ed)) (es0:List Ed),(∀ l∈Ls,(vsF l≠[])/\(∀ v∈vsF l,v∈vs)/\∀ u∈vsF l,∀ v∈vsF l,Reach l u v)->(∀ A l B,Ls=A++l::B->∀ u∈vsF l,∀ v∈vsF l,Reach (es0++A.flatten) u v->u=v)->
 ncl (Reach (es0++Ls.flatten)) vs+(Ls.map fun l=>(vsF l).length).sum<=ncl (Reach es0) vs+Ls.length
 |[],es0,_,_=>by simp
 |l::Ls,es0,h1,h2=>by
  obtain⟨k1,k2,k3⟩:=h1 l aAf;have ih:=PZ vs Ls (es0++l) (fun l hl=>h1 l (aAc _ hl)) fun A l' B e u hu v hv k=>h2 (l::A) l' B (by rw[e];rfl) u hu v hv (by simpa using k);obtain⟨v0,V,hV⟩:=aBy k1;have hz:=h2 [] l Ls rfl;rw[List.flatten_nil,aAS]at hz
  have st:=IB (R:=Reach es0) (S:=Reach (es0++l)) (gT _) (gT _) (fun x y k=>k.mono fun x hx=>aAr _ hx) (l:=vs) (v0:=v0) V (k2 v0 (by rw[hV];exact aAf))
   (fun v hv=>⟨k2 v (by rw[hV];exact aAc _ hv),(k3 v0 (by rw[hV];exact aAf) v (by rw[hV];exact aAc _ hv)).mono fun x hx=>aAx _ hx⟩) (by
     rw[<- hV];refine(kY l).imp_of_mem fun {u v} hu hv huv k=>?_;have:=hz u hu v hv k
     omega)
  have hl:(vsF l).length=V.length+1:=by rw[hV];rfl
  rw[List.flatten_cons,<- aAF,aAm,List.sum_cons,List.length_cons];omega
theorem Uj{es:List Ed}{u v:Int}(h:Reach es u v):v=u\/∃ e∈es,(e.a=u\/e.b=u)/\RIn es (·≠u) (oth e u) v:=by
 induction h with
 |refl=>exact .inl rfl
 |@step y z h hz ih=>
  by_cases hzu:z=u
  .exact .inl hzu
  right;rcases ih with rfl|⟨e,he,h1,h2⟩
  .obtain⟨i,hi,e⟩:=Er hz;have h1:=aP.1 hi;refine⟨_,sF h1.1,h1.2,?_⟩;rw[e];exact .refl hzu
  .exact⟨e,he,h1,.step h2 hz hzu⟩
theorem RIn.emono{es es':List Ed}(hs:∀ x∈es,x∈es'){S:Int->Prop}{x y:Int}(h:RIn es S x y):RIn es' S x y:=by
 induction h with
 |refl h=>exact .refl h
 |step _ hz hs' ih=>refine .step ih ?_ hs';rw[cJ]at hz ⊢;obtain⟨x,hx,h⟩:=hz;exact⟨x,hs x hx,h⟩
theorem RIn.reach{es:List Ed}{S:Int->Prop}{x y:Int}(h:RIn es S x y):Reach es x y:=by
 induction h with
 |refl=>exact .refl
 |step _ hz _ ih=>exact .step ih hz
section
variable {g:Gr} (hg:GoodE g)
include hg
theorem tR{B:List Nat}{v:Int}(h:v∈vsF (esB g.es B)):∃ i∈B,(eAt g.es i).a=v\/(eAt g.es i).b=v:=by obtain⟨e,he,k⟩:=(bA _ _).1 h;obtain⟨i,hi,rfl⟩:=aAi.1 he;exact⟨i,hi,k.imp Eq.symm Eq.symm⟩
theorem dS.reach{B:List Nat}(h:dS g.es B){u v:Int}(hu:u∈vsF (esB g.es B))(hv:v∈vsF (esB g.es B)):Reach (esB g.es B) u v:=by obtain⟨i,hi,iu⟩:=tR hg hu;obtain⟨j,hj,jv⟩:=tR hg hv;exact(h.con hg (max u v+1) hi (h.rel i hi j hj) u v iu jv oO oO).reach
theorem dS.cut{B:List Nat}(h:dS g.es B){es:List Ed}(hes:∀ e∈es,∃ j,j<g.es.length/\j∉B/\e=eAt g.es j){u v:Int}(hu:u∈vsF (esB g.es B))(hv:v∈vsF (esB g.es B))(hr:Reach es u v):u=v:=by
 obtain⟨i,hi,iu⟩:=tR hg hu;obtain⟨k,hk,kv⟩:=tR hg hv;rcases Uj hr with e|⟨e,he,h1,h2⟩
 .exact e.symm
 refine aAI fun c7=>?_;obtain⟨j,hj,hjB,rfl⟩:=hes e he;have a:=(h.con hg u hi (h.rel i hi k hk) _ v (mN _ u) kv (tZ hg (aP.2 ⟨h.lt i hi,iu⟩)) fun k=>c7 k.symm).up h.lt;have b:=h2.emono (es':=g.es) fun x hx=>by obtain⟨l,hl,_,rfl⟩:=hes x hx;exact sF hl
 exact hjB (h.all i hi j hj ⟨u,iu,h1,a.trans b.symm⟩)
end
theorem MJ(es:List Ed):(fT es).Nodup:=by unfold fT List.Nodup;rw[aAV];refine(aBH.sublist aBo).imp_of_mem fun {i j} hi hj hij e=>?_;rw[aAB,aAR]at hi hj;have:=hi.2;rw[e,hj.2]at this;omega
theorem DB{g:Gr}(hg:GoodE g):ncl (Reach g.es) g.vs+((aQ g).map fun l=>(vsF l).length).sum<=g.vs.length+(aQ g).length:=by
 have Z4:=hg.simple;have hall:∀ B∈fT (sE g.es),dS (sE g.es) B:=fun B hB=>lV Z4 hB;have hf:=PZ g.vs (aQ g) [] (fun l hl=>?_) fun A l B e u hu v hv k=>?_
 .rw[MQ (fun x y=>EO) hg.toGood.nodup,List.nil_append]at hf
  suffices key:∀ x y,Reach (aQ g).flatten x y->Reach g.es x y from aBa (Nat.add_le_add_right (rT fun x _ y _ k=>key x y k) _) hf
  intro x y k;induction k with
  |refl=>exact .refl
  |step _ hz ih=>rw[cJ]at hz;obtain⟨x,hx,h⟩:=hz;obtain⟨l,hl,hx⟩:=aAT.1 hx;refine .step ih ?_;rw[cJ];exact⟨x,(nC hg hl).2 x hx,h⟩
 .unfold aQ at hl;obtain⟨B,hB,rfl⟩:=aAi.1 hl;have hB:=hall B hB;refine⟨?_,fun v hv=>?_,fun u hu v hv=>hB.reach Z4 hu hv⟩
  .obtain⟨i,hi⟩:=aAP _ hB.ne;exact aBr ((bA _ _).2 ⟨_,aAt hi,.inl rfl⟩)
  .obtain⟨i,hi,h⟩:=tR Z4 hv;have:=Z4.ends _ (sF (hB.lt i hi));rcases h with rfl|rfl
   .exact this.1
   .exact this.2
 .unfold aQ at e;obtain⟨A',R,e1,rfl,e2⟩:=aEl.1 e;obtain⟨B0,R',rfl,rfl,e3⟩:=aEy.1 e2;have hB0:B0∈fT (sE g.es):=by rw[e1];simp
  have hn:=MJ (sE g.es);rw[e1,aAo]at hn;refine(hall B0 hB0).cut Z4 (fun x hx=>?_) hu hv k;rw[List.nil_append]at hx;obtain⟨l,hl,hx⟩:=aAT.1 hx;obtain⟨B',hB',rfl⟩:=aAi.1 hl;obtain⟨j,hj,rfl⟩:=aAi.1 hx;have hB'':=hall B' (by rw[e1];simp[hB']);refine⟨j,hB''.lt j hj,fun hj0=>?_,rfl⟩;exact hn.2.2 B' hB' B0 sS (dS.eq (g:=⟨g.vs,sE g.es⟩) hB'' (hall B0 hB0) hj hj0)
structure Tc(E:List Ed):Prop where
 ids:E.Pairwise fun x y=>x.id<y.id
 ne:∀ e∈E,e.a≠e.b
 sim:(E.map prE).Nodup
 con:∀ w p q,p∈vsF E->q∈vsF E->p≠w->q≠w->RIn E (·≠w) p q
 two:2<=E.length
 few:(vsF E).length<=64/\E.length<=200
theorem lO{es:List Ed}{v w:Int}:w∈cU es v↔∃ e∈es,prE e=prP v w:=by
 rw[NS];constructor
 .rintro⟨x,hx,⟨h1,h2⟩|⟨h1,h2⟩⟩
  .exact⟨x,hx,by show prP _ _=_;rw[h1,h2]⟩
  .exact⟨x,hx,by show prP _ _=_;rw[h1,h2];exact aI _ _⟩
 .rintro⟨x,hx,h⟩;rcases bG h with⟨h1,h2⟩|⟨h1,h2⟩
  .exact⟨x,hx,.inl ⟨h1,h2⟩⟩
  .exact⟨x,hx,.inr ⟨h1,h2⟩⟩
theorem kR{es:List Ed}{v w:Int}:w∈nbr es v↔∃ e∈es,prE e=prP v w:=by
 rw[cJ];constructor
 .rintro⟨x,hx,⟨h1,h2⟩|⟨h1,h2⟩⟩
  .exact⟨x,hx,by show prP _ _=_;rw[h1,h2]⟩
  .exact⟨x,hx,by show prP _ _=_;rw[h1,h2];exact aI _ _⟩
 .rintro⟨x,hx,h⟩;rcases bG h with⟨h1,h2⟩|⟨h1,h2⟩
  .exact⟨x,hx,.inl ⟨h1,h2⟩⟩
  .exact⟨x,hx,.inr ⟨h2,h1⟩⟩
theorem map_inj{α β:Type}{F:α->β}:∀ {l:List α},(l.map F).Nodup->∀ {e f:α},e∈l->f∈l->F e=F f->e=f
 |a::l,h0,e,f,he,hf,h=>by
  rw[aAm,aAq]at h0;rcases aAe.1 he with a1|a1
  .rcases aAe.1 hf with b1|b1
   .rw[a1,b1]
   .exact absurd (by rw[<- a1,h];exact aAt b1) h0.1
  .rcases aAe.1 hf with b1|b1
   .exact absurd (by rw[<- b1,<- h];exact aAt a1) h0.1
   .exact map_inj h0.2 a1 b1 h
section
variable {E:List Ed} (hT:Tc E)
include hT
theorem Tc.sim_eq{e f:Ed}(he:e∈E)(hf:f∈E)(h:prE e=prE f):e=f:=map_inj hT.sim he hf h
theorem Tc.start{x:Ed}{R:List Ed}(hE:E=x::R):∃ h,newF ⟨vsF E,E⟩=some h/\Drn E h/\∃ ring,h.F=[ring,ring.reverse]/\ring.Nodup/\3<=ring.length/\∀ u v,(u,v)∈prs ring->∃ e∈E,prE e=prP u v:=by
 have hx:x∈E:=by rw[hE];exact aAf
 have x8:=hT.ne x hx;have va:x.a∈vsF E:=(bA _ _).2 ⟨x,hx,.inl rfl⟩;have vb:x.b∈vsF E:=(bA _ _).2 ⟨x,hx,.inr rfl⟩;have hnear:∀ v,∀ w∈cU (E.filter fun y=>decide (y≠x)) v,w∈vsF E:=fun v w hw=>by obtain⟨e,he,hp⟩:=lO.1 hw;exact(fR (aAB.1 he).1 hp).2
 obtain⟨c,hc,hca,hcb⟩:∃ c∈vsF E,c≠x.a/\c≠x.b:=by
  have h2:=hT.two;obtain⟨y,R',hR⟩:∃ y R',R=y::R':=by
   cases R with
   |nil=>rw[hE]at h2;simp at h2
   |cons y R'=>exact⟨y,R',rfl⟩
  have hy:y∈E:=by rw[hE,hR];simp
  have V2:y≠x:=fun e=>by have:=hT.ids;rw[hE,hR]at this;have:=(aBf.1 this).1 y sS;rw[e]at this;omega
  have hyn:=hT.ne y hy;refine aAI fun x9=>V2 (hT.sim_eq hy hx ?_);have ya:y.a=x.a\/y.a=x.b:=aAI fun k=>x9 ⟨y.a,(bA _ _).2 ⟨y,hy,.inl rfl⟩,fun e=>k (.inl e),fun e=>k (.inr e)⟩;have yb:y.b=x.a\/y.b=x.b:=aAI fun k=>x9 ⟨y.b,(bA _ _).2 ⟨y,hy,.inr rfl⟩,fun e=>k (.inl e),fun e=>k (.inr e)⟩;show prP _ _=prP _ _;rcases ya with a1|a1<;>rcases yb with b1|b1
  .omega
  .rw[a1,b1]
  .rw[a1,b1];exact aI _ _
  .omega
 have along:∀ S:Int->Prop,YT (cU (E.filter fun y=>decide (y≠x))) (fun _=>true) x.a S->∀ w,(w=x.a\/w=x.b)->∀ p q,RIn E (·≠w) p q->S p->S q:=by
  intro S hS w hw p q h hp;induction h with
  |refl=>exact hp
  |@step y z h hz hs ih=>
   obtain⟨e,he,S4⟩:=kR.1 hz;have hy:=h.here.2;have hex:e≠x:=fun ex=>by
    rw[ex]at S4;rcases bG S4 with⟨k1,k2⟩|⟨k1,k2⟩
    .rcases hw with e1|e1
     .exact hy (by rw[e1,k1])
     .exact hs (by rw[e1,k2])
    .rcases hw with e1|e1
     .exact hs (by rw[e1,k1])
     .exact hy (by rw[e1,k2])
   exact hS.2 y ih (.inr rfl) z (lO.2 ⟨e,aAB.2 ⟨he,aCq hex⟩,S4⟩)
 obtain⟨w,h1,h2,h3,h4,h5,h6,h7,h8,h9⟩:=MT (may:=fun _=>true) hnear va vb x8 (n:=1000) (by have:=hT.few.1;omega) fun S hS=>along S hS x.a (.inl rfl) c x.b (hT.con _ _ _ hc vb hca (fun e=>x8 e.symm)) (along S hS x.b (.inr rfl) x.a c (hT.con _ _ _ va hc x8 hcb) hS.1);have hs:=nW h3;rw[h6,h7]at hs;have x9:∀ e∈E.filter fun y=>decide (y≠x),prE e≠prP x.a x.b:=fun e he k=>by rw[aAB,aAR]at he;exact he.2 (hT.sim_eq he.1 hx k)
 cases hM:dF w with
 |nil=>rw[hM,List.nil_append]at hs;obtain⟨e,he,k⟩:=lO.1 (h8 x.a x.b (by rw[hs];simp[lnk]));exact absurd k (x9 e he)
 |cons m M=>
  rw[hM]at hs;refine⟨⟨kL (kL [] w) [x.a,x.b],w++[x.a,x.b],[w,w.reverse]⟩,?_,Drn.start hx hs h2 fun u v huv=>?_,w,rfl,h2,by rw[hs];simp,fun u v huv=>?_⟩
  .have hh:newF ⟨vsF E,E⟩=(vY (vsF E) (cU (E.filter fun y=>decide (y≠x))) (fun _=>true) x.a x.b 1000).bind fun ring=>
    if ring.length<=200/\∀ v∈ring,v∈vsF E then some ⟨kL (kL [] ring) [x.a,x.b],ring++[x.a,x.b],[ring,ring.reverse]⟩else none:=by
    unfold newF;rw[hE]
   rw[hh,h1,Option.bind_some,aAj ⟨by have:=hT.few.1;omega,h5⟩]
  .obtain⟨e,he,k⟩:=lO.1 (h8 u v huv);exact⟨e,(aAB.1 he).1,k⟩
  .have pr:=CH x.a x.b (m::M);rw[<- hs]at pr;rw[pr,aAd,aAk]at huv;rcases huv with huv|huv
   .obtain⟨e,he,k⟩:=lO.1 (h8 u v huv);exact⟨e,(aAB.1 he).1,k⟩
   .injection huv with k1 k2;exact⟨x,hx,by rw[k1,k2];exact aI _ _⟩
end
theorem fM{A B:List Int}{v:Int}:v∈off A B↔v∈A/\v∉B:=by unfold off;simp
theorem Ft{A B:List Int}{v:Int}:v∈on' A B↔v∈A/\v∈B:=by unfold on';simp
theorem mE{vs A:List Int}{v:Int}:v∈nrS vs A↔v∈vs/\v∈A:=by unfold nrS;simp
theorem Ej{g:Gr}{A:List Int}{v:Int}:v∈arn g A↔∃ u∈A,v∈nbr g.es u:=by unfold arn;rw[aAY]
structure Brd(E:List Ed)(L:List (Int×Int))(on:List Int)(b:Brg):Prop where
 en:∀ v∈b.ends,v∈on/\v∈vsF E
 kind:(b.inner=[]/\∃ e∈E,prE e∉L/\b.ends=[e.a,e.b])\/
  (b.inner≠[]/\(∀ v∈b.inner,v∈vsF E/\v∉on)/\(∀ p∈b.inner,∀ q∈b.inner,RIn E (·∈b.inner) p q)/\(∀ p∈b.inner,∀ q∈nbr E p,q∈b.inner\/q∈b.ends)/\∀ q∈b.ends,∃ p∈b.inner,q∈nbr E p)
section
variable {E:List Ed} {on:List Int}
theorem Xt{p q:Int}(h:q∈nbr E p):q∈vsF E:=by obtain⟨e,he,k⟩:=kR.1 h;exact(fR he k).2
theorem Mv(v:Int)(hv:v∈vsF E)(hvo:v∉on)(L:List (Int×Int)):∀(n:Nat) (I:List Int),I.Nodup->v∈I->(∀ p∈I,p∈vsF E/\p∉on)->(∀ p∈I,RIn E (·∈I) v p)->(vsF E).length+1<=n+I.length->
 ∃ b,yX ⟨vsF E,E⟩ on n I=some b/\Brd E L on b/\v∈b.inner
 |0,I,hn,_,hI,_,hl=>by have:=aAy hn fun p hp=>(hI p hp).1;omega
 |n+1,I,hn,hvI,hI,hc,hl=>by
  unfold yX
  split
  .rename_i u9;refine⟨_,rfl,⟨fun q hq=>?_,.inr ⟨aBr hvI,hI,fun p hp q hq=>(hc p hp).symm.trans (hc q hq),fun p hp q hq=>?_,fun q hq=>?_⟩⟩,hvI⟩
   .have h:=Ft.1 hq;exact⟨h.2,(mE.1 h.1).1⟩
   .have hqv:=Xt hq;have hqa:q∈nrS (vsF E) (arn ⟨vsF E,E⟩ I):=mE.2 ⟨hqv,Ej.2 ⟨p,hp,hq⟩⟩;by_cases h1:q∈on
    .exact .inr (Ft.2 ⟨hqa,h1⟩)
    .by_cases h2:q∈I
     .exact .inl h2
     .have:q∈off (off (nrS (vsF E) (arn ⟨vsF E,E⟩ I)) on) I:=fM.2 ⟨fM.2 ⟨hqa,h1⟩,h2⟩;rw[u9]at this;cases this
   .have h:=Ft.1 hq;obtain⟨p,hp,k⟩:=Ej.1 (mE.1 h.1).2;exact⟨p,hp,k⟩
  .rename_i u9;obtain⟨u,hu⟩:=aAP _ u9;have hu1:=fM.1 hu;have hvsn:(vsF E).Nodup:=(kY E).imp fun k=>by omega
   have mem':∀ q,q∈nrS (vsF E) (I++off (nrS (vsF E) (arn ⟨vsF E,E⟩ I)) on)↔q∈vsF E/\(q∈I\/(q∈arn ⟨vsF E,E⟩ I/\q∉on)):=fun q=>by
    rw[mE,aAd,fM,mE];constructor
    .rintro⟨h1,h2|h2⟩
     .exact⟨h1,.inl h2⟩
     .exact⟨h1,.inr ⟨h2.1.2,h2.2⟩⟩
    .rintro⟨h1,h2|h2⟩
     .exact⟨h1,.inl h2⟩
     .exact⟨h1,.inr ⟨⟨h1,h2.1⟩,h2.2⟩⟩
   have L6:∀ q∈I,q∈nrS (vsF E) (I++off (nrS (vsF E) (arn ⟨vsF E,E⟩ I)) on):=fun q hq=>(mem' q).2 ⟨(hI q hq).1,.inl hq⟩;have M3:(nrS (vsF E) (I++off (nrS (vsF E) (arn ⟨vsF E,E⟩ I)) on)).Nodup:=hvsn.sublist aBo;refine Mv v hv hvo L n _ M3 (L6 v hvI) (fun p hp=>?_) (fun p hp=>?_) ?_
   .obtain⟨h1,h2⟩:=(mem' p).1 hp;exact⟨h1,h2.elim (fun k=>(hI p k).2) And.right⟩
   .have mono:∀ z,RIn E (·∈I) v z->RIn E (·∈nrS (vsF E) (I++off (nrS (vsF E) (arn ⟨vsF E,E⟩ I)) on)) v z:=fun z h=>h.mono L6;obtain⟨h1,h2⟩:=(mem' p).1 hp;rcases h2 with h2|h2
    .exact mono _ (hc p h2)
    .obtain⟨q,hq,k⟩:=Ej.1 h2.1;exact .step (mono _ (hc q hq)) k hp
   .have hul:u∈nrS (vsF E) (I++off (nrS (vsF E) (arn ⟨vsF E,E⟩ I)) on):=(mem' u).2 ⟨(mE.1 (fM.1 hu1.1).1).1,.inr ⟨(mE.1 (fM.1 hu1.1).1).2,(fM.1 hu1.1).2⟩⟩;have:=aAy (aAq.2 ⟨hu1.2,hn⟩) (l₂:=nrS (vsF E) (I++off (nrS (vsF E) (arn ⟨vsF E,E⟩ I)) on)) fun q hq=>by
     rcases aAe.1 hq with rfl|hq
     .exact hul
     .exact L6 q hq
    rw[List.length_cons]at this;show(vsF E).length+1<=n+(nrS (vsF E) (I++off (nrS (vsF E) (arn ⟨vsF E,E⟩ I)) on)).length;omega
theorem Mf(L:List (Int×Int)):∀(n:Nat) (R:List Int),(∀ v∈R,v∈vsF E/\v∉on)->R.length<=n->∃ l,sZ ⟨vsF E,E⟩ on n R=some l/\(∀ b∈l,Brd E L on b)/\l.length<=R.length/\∀ v∈R,∃ b∈l,v∈b.inner
 |n,[],_,_=>⟨[],by cases n<;>rfl,sS,sS,sS⟩
 |0,v::R,_,h=>by simp at h
 |n+1,v::R,hR,h=>by
  obtain⟨hv,hvo⟩:=hR v aAf;obtain⟨b,h1,h2,h3⟩:=Mv (E:=E) v hv hvo L ((vsF E).length+1) [v] sS sS (fun p hp=>by rw[aAk.1 hp];exact⟨hv,hvo⟩) (fun p hp=>by rw[aAk.1 hp];exact .refl sS) sS;have dA:(off (v::R) b.inner).length<=R.length:=by unfold off;rw[aDH,aAa (sF1 h3)];exact aBl _ _
  obtain⟨l,k1,k2,k3,k4⟩:=Mf L n (off (v::R) b.inner) (fun p hp=>hR p (fM.1 hp).1) (by rw[List.length_cons]at h;omega);have e:sZ ⟨vsF E,E⟩ on (n+1) (v::R)=(yX ⟨vsF E,E⟩ on ((vsF E).length+1) [v]).bind fun b=>(sZ ⟨vsF E,E⟩ on n (off (v::R) b.inner)).map (b::·):=rfl;refine⟨b::l,by rw[e,h1,Option.bind_some,k1];rfl,fun c hc=>?_,by rw[List.length_cons,List.length_cons];omega,fun u hu=>?_⟩
  .rcases aAe.1 hc with rfl|hc
   .exact h2
   .exact k2 c hc
  .by_cases q:u∈b.inner
   .exact⟨b,aAf,q⟩
   .obtain⟨c,hc,i⟩:=k4 u (fM.2 ⟨hu,q⟩);exact⟨c,aAc _ hc,i⟩
theorem Tv(L:List (Int×Int)):∃ B,Ng ⟨vsF E,E⟩ L on=some B/\(∀ b∈B,Brd E L on b)/\B.length<=E.length+(vsF E).length/\(∀ e∈E,prE e∉L->e.a∈on->e.b∈on->⟨[],[e.a,e.b]⟩∈B)/\∀ v∈vsF E,v∉on->∃ b∈B,v∈b.inner:=by
 have hlen:(off (vsF E) on).length<=(vsF E).length:=aBl _ _;obtain⟨l,h1,h2,h3,h4⟩:=Mf (E:=E) (on:=on) L ((vsF E).length+1) (off (vsF E) on) (fun v hv=>fM.1 hv) oO;refine⟨pK ⟨vsF E,E⟩ L on E++l,?_,fun b hb=>?_,?_,fun e he h1 h2 h3=>?_,fun v hv hvo=>?_⟩
 .unfold Ng;show(sZ ⟨vsF E,E⟩ on ((vsF E).length+1) (off (vsF E) on)).map _=_;rw[h1];rfl
 .rcases aAd.1 hb with hb|hb
  .unfold pK at hb;obtain⟨e,he,rfl⟩:=aAi.1 hb;rw[aAB]at he;simp only[aAX,aBA]at he;refine⟨fun v hv=>?_,.inl ⟨rfl,e,he.1,he.2.1.1,rfl⟩⟩;rcases aAe.1 hv with rfl|hv
   .exact⟨he.2.1.2,(bA _ _).2 ⟨e,he.1,.inl rfl⟩⟩
   .rw[aAk.1 hv];exact⟨he.2.2,(bA _ _).2 ⟨e,he.1,.inr rfl⟩⟩
  .exact h2 b hb
 .have:(pK ⟨vsF E,E⟩ L on E).length<=E.length:=by unfold pK;rw[aAD];exact aBl _ _
  rw[aAn];omega
 .refine aAr _ (aAi.2 ⟨e,aAB.2 ⟨he,?_⟩,rfl⟩);simp only[aAX,aBA];exact⟨⟨h1,h2⟩,h3⟩
 .obtain⟨b,hb,k⟩:=h4 v (fM.2 ⟨hv,hvo⟩);exact⟨b,aAx _ hb,k⟩
end
def Rw'(E:List Ed)(N:List Int):Prop:=∀ a b,(a,b)∈lnk N->∃ e∈E,prE e=prP a b
theorem uK:∀(N:List Int) (v w:Int),lnk (N++[v,w])=lnk (N++[v])++[(v,w)]:=fun N v w=>by rw[show N++[v,w]=N++v::[w] from rfl,fA];rfl
theorem CE{E:List Ed}{a b:Int}(h:∃ e∈E,prE e=prP a b):∃ e∈E,prE e=prP b a:=by rw[aI];exact h
theorem MV(C:List Int):∀ {B:List Int} {p:Int×Int},p∈lnk B->p∈lnk (B++C)
 |a::b::l,p,h=>by
  rcases aAe.1 h with h|h
  .rw[h];exact aAf
  .exact aAc _ (MV C (B:=b::l) h)
theorem GW:∀(A:List Int) {B:List Int} {p:Int×Int},p∈lnk B->p∈lnk (A++B)
 |[],_,_,h=>h
 |[a],b::B,p,h=>aAc _ h
 |a::a'::A,B,p,h=>aAc _ (GW (a'::A) h)
theorem DU(A B C:List Int){p:Int×Int}(h:p∈lnk B):p∈lnk (A++B++C):=MV C (GW A h)
theorem Rw'.sub{E:List Ed}{A B C:List Int}(h:Rw' E (A++B++C)):Rw' E B:=fun a b k=>by exact h a b (DU A B C k)
theorem La{E:List Ed}{S:Int->Prop}{u v:Int}(h:RIn E S u v):∃ N,(N++[v]).Nodup/\(∀ w∈N++[v],S w)/\Rw' E (N++[v])/\(N++[v]).head?=some u:=by
 induction h with
 |refl h=>exact⟨[],sS,by simpa using h,by intro a b k;simp[lnk]at k,rfl⟩
 |@step y z h hz hs ih=>
  obtain⟨N,h1,h2,h3,h4⟩:=ih;by_cases k:z∈N++[y]
  .obtain⟨A,B,e⟩:=aBb k;refine⟨A,?_,?_,?_,?_⟩
   .grind
   .grind
   .rw[e]at h3;exact Rw'.sub (A:=[]) (C:=B) (by simpa using h3)
   .cases A<;>simp_all
  .refine⟨N++[y],by grind,by grind,fun a b q=>?_,by cases N<;>simp_all⟩;rw[aAF,List.singleton_append,uK]at q;rcases aAd.1 q with q|q
   .exact h3 a b q
   .rw[aAk]at q;injection q with q1 q2;rw[q1,q2];exact kR.1 hz
theorem II{M:List Int}:∀ {l:List Int},(∃ m∈l,m∈M)->∃ A z B,l=A++z::B/\z∈M/\∀ w∈A,w∉M
 |[],h=>by grind
 |a::l,h=>by
  by_cases k:a∈M
  .exact⟨[],a,l,rfl,k,sS⟩
  .obtain⟨A,z,B,h1,h2,h3⟩:=II (M:=M) (l:=l) (by grind);exact⟨a::A,z,B,by rw[h1];rfl,h2,by grind⟩
structure Thg(E:List Ed)(T:(Int->Prop)×(Int->Prop)):Prop where
 kind:(∃ e∈E,(∀ v,¬T.1 v)/\∀ v,T.2 v↔v=e.a\/v=e.b)\/
  ((∃ v,T.1 v)/\(∀ p q,T.1 p->T.1 q->RIn E T.1 p q)/\∀ c,T.2 c->∃ p,T.1 p/\c∈nbr E p)
 off:∀ v,T.1 v->¬T.2 v
 two:∃ a b,T.2 a/\T.2 b/\a≠b
def Dt(E:List Ed)(T:(Int->Prop)×(Int->Prop))(c u:Int):Prop:=T.2 c/\(∃ e∈E,prE e=prP c u)/\(T.1 u\/((∀ v,¬T.1 v)/\T.2 u))
structure By'(F:List (List Int))(T:(Int->Prop)×(Int->Prop)):Prop where
 on:∀ c,T.2 c->∃ u,(c,u)∈PF F
 off:∀ v,T.1 v->∀ u,(v,u)∉PF F
 new:(∀ v,¬T.1 v)->∀ a b,T.2 a->T.2 b->(a,b)∉PF F
section
variable {E:List Ed} {T:(Int->Prop)×(Int->Prop)} (hT:Thg E T) (c7:∀ e∈E,e.a≠e.b)
include hT c7
theorem Thg.way{F:List (List Int)}(hF:By' F T){c u d v:Int}(h:Dt E T c u)(k:Dt E T d v)(hcd:c≠d):∃ M,WyE E F c d M/\(∀ w∈M,T.1 w)/\(c,u)∈lnk (c::(M++[d]))/\(v,d)∈lnk (c::(M++[d]))/\((∃ w,T.1 w)->M≠[]):=by
 obtain⟨h1,h2,h3⟩:=h;obtain⟨k1,k2,k3⟩:=k;rcases hT.kind with⟨e,he,z1,z2⟩|⟨z1,z2,z3⟩
 .have hu:u=d:=by
   have a1:=(z2 c).1 h1;have a2:=(z2 u).1 (by grind);have a3:=(z2 d).1 k1;obtain⟨f,hf,q⟩:=h2;have:=c7 f hf;have:=bG q
   grind
  have hv:v=c:=by
   have a1:=(z2 c).1 h1;have a2:=(z2 v).1 (by grind);have a3:=(z2 d).1 k1;obtain⟨f,hf,q⟩:=k2;have:=c7 f hf;have:=bG q
   grind
  subst hu hv;refine⟨[],⟨by grind,fun a b q=>?_,fun p q=>?_,sS,hF.on _ h1,hF.on _ k1⟩,sS,by simp[lnk],by simp[lnk],fun⟨w,q⟩=>absurd q (z1 w)⟩
  .simp[lnk]at q;rw[q.1,q.2];exact h2
  .simp[lnk]at q;rw[q];exact hF.new z1 _ _ h1 k1
 .have hu:T.1 u:=h3.resolve_right fun q=>z1.elim q.1;have hv:T.1 v:=k3.resolve_right fun q=>z1.elim q.1;obtain⟨N,n1,n2,n3,n4⟩:=La (z2 u v hu hv);have hc:=hT.off;have e1:∃ N',N++[v]=u::N':=by
   cases N with
   |nil=>exact⟨[],by simp at n4;simp[n4]⟩
   |cons a N=>exact⟨N++[v],by simp at n4;simp[n4]⟩
  obtain⟨N',e1⟩:=e1;have l1:lnk (c::((N++[v])++[d]))=(c,u)::lnk ((N++[v])++[d]):=by rw[e1];rfl
  have l2:lnk ((N++[v])++[d])=lnk (N++[v])++[(v,d)]:=by rw[aAF];exact uK N v d
  refine⟨N++[v],⟨?_,fun a b q=>?_,fun p q w=>?_,fun w q=>hF.off w (n2 w q),hF.on _ h1,hF.on _ k1⟩,n2,?_,?_,fun _=>by simp⟩
  .grind
  .rw[l1,l2]at q;rcases aAe.1 q with q|q
   .injection q with q1 q2;rw[q1,q2];exact h2
   .rcases aAd.1 q with q|q
    .exact n3 a b q
    .rw[aAk]at q;injection q with q1 q2;rw[q1,q2];exact CE k2
  .have io:∀ w,T.1 w->∀ z,(w,z)∉PF F/\(z,w)∉PF F:=fun w hw z=>⟨hF.off w hw z,fun q=>by
    obtain⟨r,hr,i⟩:=aX.1 q;obtain⟨z',hz⟩:=iH (pS i).2
    exact hF.off w hw z' (aX.2 ⟨r,hr,hz⟩)⟩
   obtain⟨a,b⟩:=p;have q1:=eX (y:=d) (l:=c::(N++[v])) q;rcases aAe.1 q1 with rfl|q1
   .rw[l1]at q;rcases aAe.1 q with q|q
    .injection q with _ q;exact(io u hu a).2 (q ▸ w)
    .rw[l2]at q;rcases aAd.1 q with q|q
     .exact hc a (n2 a (bF q).1) h1
     .rw[aAk]at q;injection q with q _;exact hc a (q ▸ hv) h1
   .exact(io a (n2 a q1) b).1 w
  .rw[l1];exact aAf
  .rw[l1,l2];simp
end
theorem Thg.dart{E:List Ed}{T:(Int->Prop)×(Int->Prop)}(hT:Thg E T)(c7:∀ e∈E,e.a≠e.b){c:Int}(hc:T.2 c):∃ u,Dt E T c u:=by
 rcases hT.kind with⟨e,he,z1,z2⟩|⟨z1,z2,z3⟩
 .rcases(z2 c).1 hc with rfl|rfl
  .exact⟨e.b,hc,⟨e,he,rfl⟩,.inr ⟨z1,(z2 _).2 (.inr rfl)⟩⟩
  .exact⟨e.a,hc,⟨e,he,aI _ _⟩,.inr ⟨z1,(z2 _).2 (.inl rfl)⟩⟩
 .obtain⟨p,hp,k⟩:=z3 c hc;exact⟨p,hc,CE (kR.1 k),.inl hp⟩
def In'(E:List Ed)(s:Int->Int)(A:List (Int×Int))(r:List Int)(T:(Int->Prop)×(Int->Prop)):Prop:=∀ c u,Dt E T c u->SdT s A r (cd (c,u))
section
variable {E:List Ed} {s:Int->Int} (hP:PlE E s) {A:List (Int×Int)} {F:List (List Int)} (hE:Emb E s A F) {T:(Int->Prop)×(Int->Prop)} (hT:Thg E T) (hB:By' F T)
include hP hE hT hB
theorem Emb.dart_in{r:List Int}(hr:r∈F){c u d v:Int}(h:Dt E T c u)(k:Dt E T d v)(hcd:c≠d)(hs:SdT s A r (cd (c,u))):SdT s A r (cd (d,v)):=by obtain⟨M,w1,_,w3,w4,_⟩:=hT.way hP.bl.ne hB h k hcd;exact hE.wayT hP w1 w3 w4 hr hs
theorem Emb.in_all{r:List Int}(hr:r∈F){c u:Int}(h:Dt E T c u)(hs:SdT s A r (cd (c,u))):In' E s A r T:=fun d v k=>by
 by_cases e:c=d
 .obtain⟨a,b,h1,h2,h3⟩:=hT.two;have:∃ m,T.2 m/\m≠c:=by
   by_cases q:a=c
   .exact⟨b,h2,fun q'=>h3 (q.trans q'.symm)⟩
   .exact⟨a,h1,q⟩
  obtain⟨m,m1,m2⟩:=this;obtain⟨t,ht⟩:=hT.dart hP.bl.ne m1;exact hE.dart_in hP hT hB hr ht k (e ▸ m2) (hE.dart_in hP hT hB hr h ht m2.symm hs)
 .exact hE.dart_in hP hT hB hr h k e hs
theorem Emb.in_ex:∃ r∈F,In' E s A r T:=by obtain⟨a,b,h1,h2,h3⟩:=hT.two;obtain⟨u,hu⟩:=hT.dart hP.bl.ne h1;obtain⟨v,hv⟩:=hB.on a h1;obtain⟨r,hr,k⟩:=hE.ex hP (p:=(a,u)) hu.2.1 hv;exact⟨r,hr,hE.in_all hP hT hB hr hu k⟩
theorem Emb.in_on{r:List Int}(hr:r∈F)(h:In' E s A r T){c:Int}(hc:T.2 c):c∈r:=by obtain⟨u,hu⟩:=hT.dart hP.bl.ne hc;exact hE.here hP hr (p:=(c,u)) hu.2.1 (h c u hu)
theorem Thg.legs{x y c:Int}(hx:T.2 x)(hy:T.2 y)(hc:T.2 c)(h1:x≠y)(h2:y≠c)(h3:x≠c):∃ M u t Ma z Mb N uc tz,WyE E F x y M/\Dt E T x u/\(x,u)∈lnk (x::(M++[y]))/\(t,y)∈lnk (x::(M++[y]))/\M=Ma++z::Mb/\(∀ w∈M,T.1 w)/\(∀ w∈N,T.1 w)/\
 (c::(N++[z])).Nodup/\(∀ u v,(u,v)∈lnk (c::(N++[z]))->∃ e∈E,prE e=prP u v)/\(∀ v∈N,v∉M)/\(c,uc)∈lnk (c::(N++[z]))/\(tz,z)∈lnk (c::(N++[z]))/\Dt E T c uc:=by
 obtain⟨u,hu⟩:=hT.dart hP.bl.ne hx;obtain⟨t,ht⟩:=hT.dart hP.bl.ne hy;obtain⟨uc,huc⟩:=hT.dart hP.bl.ne hc;have hi:∃ w,T.1 w:=by
  rcases hT.kind with⟨e,he,z1,z2⟩|⟨z1,_⟩
  .have:=(z2 x).1 hx;have:=(z2 y).1 hy;have:=(z2 c).1 hc;grind
  .exact z1
 obtain⟨M,w1,w2,w3,w4,w5⟩:=hT.way hP.bl.ne hB hu ht h1;have hM:=w5 hi;have z2:∀ p q,T.1 p->T.1 q->RIn E T.1 p q:=by
  rcases hT.kind with⟨e,he,z1,z2⟩|⟨_,z2,_⟩
  .exact absurd hi.choose_spec (z1 _)
  .exact z2
 obtain⟨m,M',rfl⟩:=aBy hM;have hci:T.1 uc:=huc.2.2.resolve_right fun q=>q.1 _ hi.choose_spec;obtain⟨l,n1,n2,n3,n4⟩:=La (z2 uc m hci (w2 m aAf));obtain⟨N,z,B,e1,e2,e3⟩:=II (M:=m::M') (l:=l++[m]) ⟨m,sS,aAf⟩;obtain⟨Ma,Mb,e4⟩:=aBb e2;have hN:∀ w∈N,T.1 w:=fun w k=>n2 w (by rw[e1];simp[k]);have hco:=hT.off;have row:∀ a b,(a,b)∈lnk (N++[z])->∃ e∈E,prE e=prP a b:=fun a b k=>n3 a b (by rw[e1];have:=DU [] (N++[z]) B k;simpa using this);have hnd:(c::(N++[z])).Nodup:=by
  have:T.1 z:=w2 z e2
  grind
 cases N with
 |nil=>
  have hz:z=uc:=by rw[e1]at n4;simpa using n4
  subst hz;exact⟨_,u,t,Ma,z,Mb,[],z,c,w1,hu,w3,w4,e4,w2,sS,hnd,fun a b q=>by simp[lnk]at q;rw[q.1,q.2];exact huc.2.1,sS,by simp[lnk],by simp[lnk],huc⟩
 |cons n N=>
  have hn:n=uc:=by rw[e1]at n4;simpa using n4
  subst hn;obtain⟨N',t',e5⟩:∃ N' t',n::N=N'++[t']:=⟨(n::N).dropLast,(n::N).getLast sS,(aCi _).symm⟩;refine⟨_,u,t,Ma,z,Mb,n::N,n,t',w1,hu,w3,w4,e4,w2,hN,hnd,fun a b q=>?_,e3,by simp[lnk],?_,huc⟩
  .rcases aAe.1 q with q|q
   .injection q with q1 q2;rw[q1,q2];exact huc.2.1
   .exact row a b q
  .refine GW [c] ?_;show(t',z)∈lnk ((n::N)++[z]);rw[e5,aAF];exact List.mem_of_mem_getLast? (by rw[show N'++([t']++[z])=N'++[t',z] from rfl,uK];simp)
end
section
variable {E:List Ed} {s:Int->Int} (hP:PlE E s) {A:List (Int×Int)} {F:List (List Int)} (hE:Emb E s A F) {T T':(Int->Prop)×(Int->Prop)} (hT:Thg E T) (hB:By' F T) (hT':Thg E T') (hB':By' F T') (ho:∀ v,T.1 v->¬T'.1 v)
include hP hE hT hB hT' hB' ho
theorem ZS{r:List Int}(hn:r.Nodup){x y p q:Int}(h:Cr r x y p q):∃ a b P Q,r=a++b/\b++a=x::(P++y::Q)/\((p∈P/\q∈Q)\/(q∈P/\p∈Q)):=by
 have h':=h.2;obtain⟨a,b,P,Q,e1,e2⟩:=GZ h.1.1 h.1.2.1 (by intro e;rw[e]at h';unfold crn cyn at h';omega);refine⟨a,b,P,Q,e1,e2,?_⟩;have hd:(x::(P++y::Q)).Nodup:=by rw[<- e2];grind
 have k:Cr (x::(P++y::Q)) x y p q:=h.mono fun u v w _ _ _=>by rw[<- e2];exact(Fi (e1 ▸ hn)).2 u v w |>.1 |> fun z=>by rw[e1];exact z
 have f:=@eG x y P Q [] hd sS sS;have f1:=f k.1.1;have f2:=f k.1.2.1;have f3:=f k.1.2.2.1;have f4:=f k.1.2.2.2;have k2:=k.2;unfold crn cyn at k2
 grind
theorem Emb.avo{r:List Int}(hr:r∈F)(h:In' E s A r T)(h':In' E s A r T'):Avo r T.2 T'.2:=by
 have hn:=hE.simple r hr;have dart:=fun {c} (k:T.2 c)=>hT.dart hP.bl.ne k;have dart':=fun {c} (k:T'.2 c)=>hT'.dart hP.bl.ne k;refine⟨fun a b c d ka kb kc kd q=>?_,fun a b c ka kb kc ka' kb' kc'=>?_⟩
 .have x8:a≠b:=fun e=>by have:=q.2;rw[e]at this;unfold crn cyn at this;omega
  have hcd:c≠d:=fun e=>by have:=q.2;rw[e]at this;unfold crn cyn at this;omega
  obtain⟨u,hu⟩:=dart ka;obtain⟨t,ht⟩:=dart kb;obtain⟨M,w1,w2,w3,w4,_⟩:=hT.way hP.bl.ne hB hu ht x8;obtain⟨a',b',P,Q,e1,e2,e3⟩:=ZS hP hE hT hB hT' hB' ho hn q;have fin:∀ {c d},T'.2 c->T'.2 d->c≠d->c∈P->d∈Q->False:=fun {c d} kc kd hcd hp hq=>by obtain⟨u',hu'⟩:=dart' kc;obtain⟨t',ht'⟩:=dart' kd;obtain⟨N,v1,v2,v3,v4,_⟩:=hT'.way hP.bl.ne hB' hu' ht' hcd;exact hE.no_cross hP w1 w3 w4 hr (h a u hu) e1 e2 v1 v3 v4 (h' c u' hu') hp hq fun v k k'=>ho v (w2 v k') (v2 v k)
  rcases e3 with e3|e3
  .exact fin kc kd hcd e3.1 e3.2
  .exact fin kd kc hcd.symm e3.1 e3.2
 .by_cases h1:a=b
  .exact .inl h1
  by_cases h2:b=c
  .exact .inr (.inl h2)
  by_cases h3:a=c
  .exact .inr (.inr h3)
  exfalso;have fin:∀ x y c,T.2 x->T.2 y->T.2 c->T'.2 x->T'.2 y->T'.2 c->x≠y->y≠c->x≠c->∀ a b P Q,r=a++b->b++a=x::(P++y::Q)->c∈P->False:=by
   intro x y c kx ky kc kx' ky' kc' h1 h2 h3 a b P Q e1 e2 hcP;obtain⟨Pa,Pb,rfl⟩:=aBb hcP;obtain⟨M,u,t,Ma,z,Mb,N,uc,tz,w1,hu,w3,w4,w5,w6,w7,w8,w9,w10,w11,w12,huc⟩:=hT.legs hP hE hB kx ky kc h1 h2 h3;have hi:∃ w,T'.1 w:=by
    rcases hT'.kind with⟨e,he,z1,z2⟩|⟨z1,_⟩
    .have:=(z2 x).1 kx';have:=(z2 y).1 ky';have:=(z2 c).1 kc';grind
    .exact z1
   obtain⟨ix,hix⟩:=dart' kx';obtain⟨iy,hiy⟩:=dart' ky';obtain⟨ic,hic⟩:=dart' kc';obtain⟨N1,v1,v2,v3,v4,v5⟩:=hT'.way hP.bl.ne hB' hix hiy h1;obtain⟨N2,x1,x2,x3,x4,x5⟩:=hT'.way hP.bl.ne hB' hiy hic h2
   exact hE.no_three hP w1 w3 w4 hr (h x u hu) e1 e2 w5 w8 w9 (fun v k=>hB.off v (w7 v k)) w10 w11 w12 (h c uc huc) v1 x1 (v5 hi) (x5 hi)
    (fun v k=>⟨fun k'=>ho v (w6 v k') (v2 v k),fun k'=>ho v (w7 v k') (v2 v k)⟩) (fun v k=>⟨fun k'=>ho v (w6 v k') (x2 v k),fun k'=>ho v (w7 v k') (x2 v k)⟩) v3 v4 x3 x4 (h' x ix hix)
  have ra:=hE.in_on hP hT hB hr h ka;have rb:=hE.in_on hP hT hB hr h kb;have rc:=hE.in_on hP hT hB hr h kc;obtain⟨a',b',P,Q,e1,e2⟩:=GZ ra rb h1;have hc:c∈P\/c∈Q:=by
   have:c∈b'++a':=by rw[aAd];rw[e1,aAd]at rc;exact rc.symm
   rw[e2]at this
   grind
  rcases hc with k|k
  .exact fin a b c ka kb kc ka' kb' kc' h1 h2 h3 a' b' P Q e1 e2 k
  .obtain⟨Qa,Qb,rfl⟩:=aBb k;refine fin a c b ka kc kb ka' kc' kb' h3 (aCE h2) h1 a' b' (P++b::Qa) Qb e1 (by rw[e2];simp) sS
end
theorem Rt.rev{l m:List Int}(h:Rt l m):Rt l.reverse m.reverse:=by obtain⟨a,b,rfl,rfl⟩:=h;exact⟨b.reverse,a.reverse,sS,sS⟩
theorem Eb(r:List Int)(u v:Int):(u,v)∈prs r.reverse↔(v,u)∈prs r:=by
 cases r with
 |nil=>simp[prs,lnk]
 |cons x l=>
  have h1:(prs (x::l).reverse).Perm (prs (x::l.reverse)):=by rw[aCZ];exact sQ l.reverse [x]
  have h2:prs (x::l.reverse)=lnk (x::(l++[x])).reverse:=by unfold prs;simp
  rw[h1.mem_iff,h2,<- rI];unfold prs;simp
structure Kr(E:List Ed)(T:(Int->Prop)×(Int->Prop))(r:List Int):Prop where
 nd:r.Nodup
 len:3<=r.length
 ed:∀ u v,(u,v)∈prs r->∃ e∈E,prE e=prP u v
 off:∀ v∈r,¬T.1 v
 on:∀ v,T.2 v->v∈r
 new:(∀ v,¬T.1 v)->∀ a b,T.2 a->T.2 b->(a,b)∉prs r
theorem Kr.rt{E:List Ed}{T:(Int->Prop)×(Int->Prop)}{r r':List Int}(h:Kr E T r)(k:Rt r r'):Kr E T r':=by obtain⟨a,b,rfl,rfl⟩:=k;have hp:∀ p,p∈prs (b++a)↔p∈prs (a++b):=fun p=>(sQ b a).mem_iff;obtain⟨h1,h2,h3,h4,h5,h6⟩:=h;exact⟨by grind,by grind,fun u v=>by rw[hp];exact h3 u v,by grind,by grind,fun q c d=>by rw[hp];exact h6 q c d⟩
theorem Kr.rev{E:List Ed}{T:(Int->Prop)×(Int->Prop)}{r:List Int}(h:Kr E T r):Kr E T r.reverse:=by obtain⟨h1,h2,h3,h4,h5,h6⟩:=h;exact⟨(aBq r).nodup_iff.2 h1,by simpa using h2,fun u v k=>CE (h3 v u ((Eb r u v).1 k)),by simpa using h4,by simpa using h5,fun q c d i j k=>h6 q d c j i ((Eb r c d).1 k)⟩
theorem Avo.rt{r r':List Int}{C D:Int->Prop}(hn:r.Nodup)(h:Avo r C D)(k:Rt r r'):Avo r' C D:=by obtain⟨a,b,rfl,rfl⟩:=k;exact h.rot hn
theorem jF{r:List Int}{p:Int×Int}:p∈PF [r,r.reverse]↔p∈prs r\/p.swap∈prs r:=by rw[show PF [r,r.reverse]=prs r++prs r.reverse by simp[PF],aAd];exact or_congr aEL (Eb r p.1 p.2)
section
variable {E:List Ed} {s:Int->Int} (hP:PlE E s) {T:(Int->Prop)×(Int->Prop)}
include hP
theorem Kr.emb{r:List Int}(h:Kr E T r):Emb E s (prs r) [r,r.reverse]:=by
 obtain⟨h1,h2,h3,h4,h5,h6⟩:=h
 match r,h2 with
 |x::y::l,h2=>
  obtain⟨N,z,e⟩:∃ N z,y::l=N++[z]:=⟨_,_,(aCi (List.cons_ne_nil y l)).symm⟩;rw[e]at h1 h2 h3 ⊢;have hR:Rng E x z N:=⟨h1,by intro e;rw[e]at h2;simp at h2,h3⟩;have:=hR.emb hP
  rwa [show(x::(N++[z])).reverse=z::(N.reverse++[x]) by simp]
omit hP in
theorem Kr.by'{r:List Int}(h:Kr E T r):By' [r,r.reverse] T:=by
 refine⟨fun c hc=>?_,fun v hv u k=>?_,fun q a b ka kb k=>?_⟩
 .obtain⟨u,hu⟩:=iH (h.on c hc);exact⟨u,jF.2 (.inl hu)⟩
 .rcases jF.1 k with k|k
  .exact h.off v (pS k).1 hv
  .exact h.off v (pS (x:=u) (y:=v) k).2 hv
 .rcases jF.1 k with k|k
  .exact h.new q a b ka kb k
  .exact h.new q b a kb ka k
theorem Emb.kr{A:List (Int×Int)}{F:List (List Int)}(hE:Emb E s A F)(hT:Thg E T)(hB:By' F T){r:List Int}(hr:r∈F)(h:In' E s A r T)(hl:3<=r.length):Kr E T r:=
 ⟨hE.simple r hr,hl,fun u v k=>hE.sub (aX.2 ⟨r,hr,k⟩),fun v hv k=>by obtain⟨u,hu⟩:=iH hv;exact hB.off v k u (aX.2 ⟨r,hr,hu⟩),fun v k=>hE.in_on hP hT hB hr h k,fun q a b ka kb k=>hB.new q a b ka kb (aX.2 ⟨r,hr,k⟩)⟩
theorem pieces(hT:Thg E T){r:List Int}(hk:Kr E T r){x y:Int}{P Q M:List Int}(hrt:Rt r (x::(P++y::Q)))(hx:T.2 x)(hy:T.2 y)(hn:(x::(M++[y])).Nodup)(hed:∀ u v,(u,v)∈lnk (x::(M++[y]))->∃ e∈E,prE e=prP u v)(hM:∀ v∈M,T.1 v)(hM0:M=[]->∀ v,¬T.1 v)
 {Pc:(Int->Prop)×(Int->Prop)->Prop} (hp:∀ S,Pc S->Thg E S/\(∀ v,S.1 v->T.1 v/\v∉M)/\(∀ v,S.2 v->v∈M\/T.2 v)/\((∀ v,¬S.1 v)->(∃ v,S.2 v/\v∈M)/\∀ a b,S.2 a->S.2 b->(a,b)∉lnk (x::(M++[y])))) (hd:∀ S S',Pc S->Pc S'->S≠S'->∀ v,S.1 v->¬S'.1 v):
 ∃ side:(Int->Prop)×(Int->Prop)->Bool,∀ S,Pc S->Kr E S (if side S then x::(P++y::M.reverse)else y::(Q++x::M))/\∀ S',Pc S'->S≠S'->side S=side S'->Avo (if side S then x::(P++y::M.reverse)else y::(Q++x::M)) S.2 S'.2:=by
 have hE:=hk.emb hP;have hB:=hk.by';have c7:=hP.bl.ne;obtain⟨q,hq,j5⟩:=hE.in_ex hP hT hB;have L7:x≠y:=by grind
 obtain⟨u,hu⟩:∃ u,(x,u)∈lnk (x::(M++[y])):=by cases M with|nil=>exact⟨y,by simp[lnk]⟩|cons m M=>exact⟨m,by simp[lnk]⟩
 obtain⟨t,ht⟩:∃ t,(t,y)∈lnk (x::(M++[y])):=by obtain⟨N,t,e⟩:∃ N t,x::M=N++[t]:=⟨_,_,(aCi (List.cons_ne_nil x M)).symm⟩;exact⟨t,by rw[<- List.cons_append,e,aAF,show [t]++[y]=[t,y] from rfl,uK];simp⟩
 have offr:∀ v∈M,∀ w,(v,w)∉PF [r,r.reverse]:=fun v k=>hB.off v (hM v k);have hw:WyE E [r,r.reverse] x y M:=by
  refine⟨hn,hed,fun p hp k=>?_,offr,hB.on x hx,hB.on y hy⟩;obtain⟨a,b⟩:=p;have h1:=eX (y:=y) (l:=x::M) hp;rcases aAe.1 h1 with rfl|h1
  .have h2:=jE hp;rcases aAd.1 h2 with h2|h2
   .exact offr b h2 a (jF.2 ((jF.1 k).symm.imp id id))
   .rw[aAk]at h2;subst h2;cases M with
    |nil=>exact hB.new (hM0 rfl) _ _ hx hy k
    |cons m M=>
     have:(a,m)∈lnk (a::(m::M++[b])):=by simp[lnk]
     have:=fG hn hp this
     grind
  .exact offr a h1 b k
 have hdu:Dt E T x u:=by
  refine⟨hx,hed x u hu,?_⟩;have h2:=jE hu;rcases aAd.1 h2 with h2|h2
  .exact .inl (hM u h2)
  .rw[aAk]at h2;subst h2;cases M with
   |nil=>exact .inr ⟨hM0 rfl,hy⟩
   |cons m M=>
    have:(x,m)∈lnk (x::(m::M++[u])):=by simp[lnk]
    have:=fG hn hu this
    grind
 obtain⟨P2,Q2,F',hL⟩:=hE.layAt hP hw hu ht hq (j5 x u hdu);have hF':∀ z∈F',z=r\/z=r.reverse:=fun z k=>by have:=hL.perm.mem_iff.2 (aAc _ k);simpa using this
 have mr:∀ v,(∃ w,(v,w)∈PF [r,r.reverse])->v∉M:=fun v ⟨w,k⟩ q=>offr v q w k;have onr:∀ v,(v=x\/v=y\/T.2 v)->∃ w,(v,w)∈PF [r,r.reverse]:=fun v k=>hB.on v (by grind);have X5:∀ S,Pc S->By' ((x::(P2++y::M.reverse))::(y::(Q2++x::M))::F') S:=fun S k=>by
  obtain⟨k1,k2,k3,k4⟩:=hp S k;refine⟨fun c hc=>?_,fun v hv w i=>?_,fun z a b ka kb i=>?_⟩
  .rcases k3 c hc with h|h
   .obtain⟨w,i⟩:=iH (r:=x::(P2++y::M.reverse)) (v:=c) (sF1 h);exact⟨w,aX.2 ⟨_,aAf,i⟩⟩
   .obtain⟨w,i⟩:=hB.on c h;exact⟨w,(hL.mem _).2 (.inl i)⟩
  .obtain⟨v1,v2⟩:=k2 v hv;have vw:v∉x::(M++[y]):=fun i=>by
    have:=hT.off v v1
    grind
   rcases(hL.mem _).1 i with i|i|i
   .exact hB.off v v1 w i
   .exact vw (bF i).1
   .exact vw (bF (x:=w) (y:=v) i).2
  .obtain⟨⟨m,m1,m2⟩,k5⟩:=k4 z;rcases(hL.mem _).1 i with i|i|i
   .have ha:=mr a ⟨b,i⟩;have hb':=mr b ⟨a,jF.2 ((jF.1 i).symm.imp id id)⟩;obtain⟨e,he,eq⟩:=hE.sub i;have:=c7 e he;have:=bG (u:=e.a) (v:=e.b) (x:=a) (y:=b) eq;rcases k1.kind with⟨f,hf,_,z2⟩|⟨⟨v,z1⟩,_⟩
    .have:=(z2 m).1 m1;have:=(z2 a).1 ka;have:=(z2 b).1 kb
     grind
    .exact z v z1
   .exact k5 a b ka kb i
   .exact k5 b a kb ka i
 have hring:∀ S,Pc S->∃ c:Bool,In' E s (lnk (x::(M++[y]))++prs r) (if c then x::(P2++y::M.reverse)else y::(Q2++x::M)) S:=fun S k=>by
  obtain⟨k1,k2,k3,k4⟩:=hp S k;obtain⟨z,hz,hi⟩:=hL.emb.in_ex hP k1 (X5 S k);have:z∉F':=fun hzF=>by
   by_cases c:∃ v,S.2 v/\v∈M
   .obtain⟨v,v1,v2⟩:=c;have:=hL.emb.in_on hP k1 (X5 S k) hz hi v1;have:v∈r:=by rcases hF' z hzF with e|e<;>rw[e]at this<;>simpa using this
    obtain⟨w,i⟩:=iH this;exact offr v v2 w (jF.2 (.inl i))
   .obtain⟨a,_,ha,_⟩:=k1.two;have hTa:=(k3 a ha).resolve_left fun i=>c ⟨a,ha,i⟩;obtain⟨w,hw⟩:=k1.dart c7 ha;have R6:S.1 w:=hw.2.2.resolve_right fun i=>c (k4 i.1).1;obtain⟨v0,hv0⟩:=hB.on a hTa;have hs:=hL.side (a,w) hw.2.1 v0 hv0 (j5 a w ⟨hTa,hw.2.1,.inl (k2 w R6).1⟩);have hz2:=hi a w hw;rcases hs with hs|hs
    .have:=hL.emb.fn hP hz aAf hz2 hs;have hnd:=hL.emb.nd;obtain⟨i,M4⟩:=iH (r:=z) (v:=x) (by rw[this];simp);have hpf:(prs (x::(P2++y::M.reverse))++(prs (y::(Q2++x::M))++PF F')).Nodup:=hnd;exact(aAo.1 hpf).2.2 _ (this ▸ M4) _ (aAx _ (aX.2 ⟨z,hzF,M4⟩)) rfl
    .have:=hL.emb.fn hP hz (aAc _ aAf) hz2 hs;have hnd:=hL.emb.nd;obtain⟨i,M4⟩:=iH (r:=z) (v:=x) (by rw[this];simp);have hpf:(prs (x::(P2++y::M.reverse))++(prs (y::(Q2++x::M))++PF F')).Nodup:=hnd;exact(aAo.1 (aAo.1 hpf).2.1).2.2 _ (this ▸ M4) _ (aX.2 ⟨z,hzF,M4⟩) rfl
  rcases aAe.1 hz with e|hz
  .exact⟨true,e ▸ hi⟩
  .rcases aAe.1 hz with e|hz
   .exact⟨false,e ▸ hi⟩
   .exact absurd hz this
 obtain⟨c,hc⟩:∃ c:(Int->Prop)×(Int->Prop)->Bool,∀ S,Pc S->In' E s (lnk (x::(M++[y]))++prs r) (if c S then x::(P2++y::M.reverse)else y::(Q2++x::M)) S:=
  ⟨fun S=>open Classical in if h:Pc S then(hring S h).choose else true,fun S k=>by simp only[dif_pos k];exact(hring S k).choose_spec⟩
 have hrq:Rt q (x::(P2++y::Q2)):=by obtain⟨a,b,e1,e2⟩:=hL.rot;exact⟨a,b,e1,e2.symm⟩
 have hqn:q.Nodup:=hE.simple q hq;have hin':∀ b:Bool,(if b then x::(P2++y::M.reverse)else y::(Q2++x::M))∈(x::(P2++y::M.reverse))::(y::(Q2++x::M))::F':=fun b=>by cases b<;>simp
 have hlen:∀ b:Bool,3<=(if b then x::(P2++y::M.reverse)else y::(Q2++x::M)).length:=fun b=>by
  have hnew:M=[]->∀ i,i=(x,y)\/i=(y,x)->i∉prs q:=fun e i hi k=>by
   have k:=aX.2 ⟨q,hq,k⟩;rcases hi with rfl|rfl
   .exact hB.new (hM0 e) _ _ hx hy k
   .exact hB.new (hM0 e) _ _ hy hx k
  have hpq:∀ i,i∈prs (x::(P2++y::Q2))->i∈prs q:=fun i k=>by obtain⟨a,b,e1,e2⟩:=hrq;rw[e1,(sQ a b).mem_iff,<- e2];exact k
  cases hm:M with
  |cons m M=>cases b<;>simp<;>omega
  |nil=>
   cases b with
   |true=>
    cases Y8:P2 with
    |cons m M=>simp
    |nil=>exact absurd (hpq _ (by rw[Y8,cC];left;simp[lnk])) (hnew hm _ (.inl rfl))
   |false=>
    cases Y8:Q2 with
    |cons m M=>simp
    |nil=>exact absurd (hpq _ (by rw[Y8,cC];right;simp[lnk])) (hnew hm _ (.inr rfl))
 have kr:∀ S,Pc S->Kr E S (if c S then x::(P2++y::M.reverse)else y::(Q2++x::M)):=fun S k=>hL.emb.kr hP (hp S k).1 (X5 S k) (hin' _) (hc S k) (hlen _)
 have av:∀ S S',Pc S->Pc S'->S≠S'->c S=c S'->Avo (if c S then x::(P2++y::M.reverse)else y::(Q2++x::M)) S.2 S'.2:=fun S S' k k' c7 he=>
  hL.emb.avo hP (hp S k).1 (X5 S k) (hp S' k').1 (X5 S' k') (hd S S' k k' c7) (hin' _) (hc S k) (by rw[he];exact hc S' k')
 have uniq:∀ {P' Q':List Int},Rt q (x::(P'++y::Q'))->P2=P'/\Q2=Q':=fun {P' Q'} h=>by obtain⟨a,b,e1,e2⟩:=hrq;obtain⟨a',b',f1,f2⟩:=h;exact Em (by rw[<- f1];exact hqn) (f1.symm.trans e1) f2.symm e2.symm
 have S9:q=r\/q=r.reverse:=by simpa using hq
 rcases S9 with e|e
 .obtain⟨rfl,rfl⟩:=uniq (e ▸ hrt);exact⟨c,fun S k=>⟨kr S k,fun S' k'=>av S S' k k'⟩⟩
 .have h1:Rt (x::(P++y::Q)).reverse (x::(Q.reverse++y::P.reverse)):=⟨Q.reverse++y::P.reverse,[x],sS,sS⟩;obtain⟨rfl,rfl⟩:=uniq (e ▸ hrt.rev.trans h1);have t1:Rt (x::(Q.reverse++y::M.reverse)).reverse (y::(Q++x::M)):=⟨M,y::Q++[x],sS,sS⟩;have t2:Rt (y::(P.reverse++x::M)).reverse (x::(P++y::M.reverse)):=⟨M.reverse,x::P++[y],sS,sS⟩;refine⟨fun S=>!c S,fun S k=>?_⟩;have k1:=kr S k;have k2:=av S;cases hcS:c S with
  |true=>simp only[hcS,aBs]at k1 k2;simp only[hcS,Bool.not_true,aBg,aBS];exact⟨k1.rev.rt t1,fun S' k' c7 he=>((k2 S' k k' c7 (by simpa[hcS]using he)).rev k1.nd).rt k1.rev.nd t1⟩
  |false=>simp only[hcS,aBg,aBS]at k1 k2;simp only[hcS,Bool.not_false,aBs];exact⟨k1.rev.rt t2,fun S' k' c7 he=>((k2 S' k k' c7 (by simpa[hcS]using he)).rev k1.nd).rt k1.rev.nd t2⟩
end
theorem Ru{vs S:List Int}(h:∃ v∈vs,v∈S):fst' vs S<vs.length/\vs.getD (fst' vs S) 0∈S:=by obtain⟨v,h1,h2⟩:=h;have hl:fst' vs S<vs.length:=List.findIdx_lt_length_of_exists ⟨v,h1,by simpa using h2⟩;refine⟨hl,?_⟩;have:=aEw (w:=hl);rw[aAg,aAh hl];exact aCl this
theorem RT(b:Brg)(F:List (List Int)):(bZ b F.zipIdx).1<0\/∃ k:Nat,(bZ b F.zipIdx).1=k/\k<F.length/\∀ v∈b.ends,v∈F.getD k []:=by
 have key:∀(l:List (List Int×Nat)) (p:Int×Int),(∀ q∈l,q.2<F.length/\F.getD q.2 []=q.1)->(p.1<0\/∃ k:Nat,p.1=k/\k<F.length/\∀ v∈b.ends,v∈F.getD k [])->
  ((l.foldl (nJ b) p).1<0\/∃ k:Nat,(l.foldl (nJ b) p).1=k/\k<F.length/\∀ v∈b.ends,v∈F.getD k []):=by
  intro l;induction l with
  |nil=>intro p _ h;exact h
  |cons q l ih=>
   intro p hl hp;rw[List.foldl_cons];refine ih _ (fun r hr=>hl r (aAc _ hr)) ?_;obtain⟨q1,q2⟩:=hl q aAf;unfold nJ;by_cases e:off b.ends q.1=[]
   .rw[aAj e];by_cases e2:p.2=0
    .rw[aAj e2];refine .inr ⟨q.2,rfl,q1,fun v hv=>?_⟩;rw[q2];refine aAI fun x9=>?_;have:v∈off b.ends q.1:=fM.2 ⟨hv,x9⟩;rw[e]at this;cases this
    .rw[aAa e2];exact hp
   .rw[aAa e];exact hp
 refine key F.zipIdx (-1,0) (fun q hq=>?_) (.inl sS);obtain⟨r,k⟩:=q;have:=List.mem_zipIdx hq;simp only[aBI,aBv,Nat.sub_zero,true_and]at this;refine⟨this.1,?_⟩;rw[aAg,aAh this.1];exact this.2.symm
section
variable {E:List Ed} (hT:Tc E)
include hT
def Chn(E:List Ed)(h:Sh)(r:Brg×Int):Prop:=(∀ v∈r.1.ends,v∈vsF E)/\(r.2<0\/Brd E h.L h.on r.1/\∃ k:Nat,r.2=k/\k<h.F.length/\∀ v∈r.1.ends,v∈h.F.getD k [])
omit hT in
theorem Db{h:Sh}:∀(B:List Brg) (N4:Brg×Int),(∀ b∈B,Brd E h.L h.on b)->Chn E h N4->Chn E h (bI h.F B N4)
 |[],N4,_,hb=>hb
 |b::B,N4,hB,hb=>by
  have h1:=hB b aAf;have hg:Chn E h (b,(bZ b h.F.zipIdx).1):=⟨fun v hv=>(h1.en v hv).2,(RT b h.F).imp id fun k=>⟨h1,k⟩⟩;unfold bI
  split
  .exact hg
  .refine Db B _ (fun c hc=>hB c (aAc _ hc)) ?_
   split
   .exact hg
   .exact hb
omit hT in
theorem Drn.two{h:Sh}(hD:Drn E h)(c7:∀ e∈E,e.a≠e.b):∃ u v,u∈h.on/\v∈h.on/\u≠v:=by
 cases hL:h.L with
 |nil=>
  have hon:∀ v,v∉h.on:=fun v hv=>by obtain⟨u,_,k⟩:=(hD.on v).1 hv;rw[hL]at k;cases k
  have h1:=hD.cnt;rw[hL,aDA.2 fun v _=>by simpa using hon v]at h1;cases hF:h.F with
  |nil=>rw[hF]at h1;simp at h1
  |cons r F=>
   have hr:r∈h.F:=by rw[hF];exact aAf
   obtain⟨v,hv⟩:=aAP _ (hD.ne r hr);exact absurd (hD.ring_on hr hv) (hon v)
 |cons p L=>
  obtain⟨e,he,rfl⟩:=hD.sub p (by rw[hL];exact aAf);have hp:prE e∈h.L:=by rw[hL];exact aAf
  have:=c7 e he;exact⟨e.a,e.b,(hD.on _).2 ⟨e.b,fun k=>this k.symm,by rw[aI];exact hp⟩,(hD.on _).2 ⟨e.a,this,hp⟩,this⟩
omit hT in
theorem Drn.link_on{h:Sh}(hD:Drn E h){x y:Int}(L7:x≠y)(hm:prP x y∈h.L):x∈h.on/\y∈h.on:=
 ⟨(hD.on x).2 ⟨y,fun e=>L7 e.symm,by rw[aI];exact hm⟩,(hD.on y).2 ⟨x,L7,hm⟩⟩
theorem Ge{h:Sh}(hD:Drn E h){b:Brg}(hb:Brd E h.L h.on b):∃ u v,u∈b.ends/\v∈b.ends/\u≠v:=by
 rcases hb.kind with⟨_,e,he,_,k⟩|⟨h0,h1,h2,h3,h4⟩
 .exact⟨e.a,e.b,by rw[k];simp,by rw[k];simp,hT.ne e he⟩
 refine aAI fun x9=>?_;obtain⟨u,v,hu,hv,huv⟩:=hD.two hT.ne;obtain⟨p,hp⟩:=aAP _ h0;obtain⟨c,hc⟩:∃ c,∀ z∈b.ends,z=c:=by
  cases hE:b.ends with
  |nil=>exact⟨0,sS⟩
  |cons c R=>exact⟨c,fun z hz=>aAI fun k=>x9 ⟨z,c,by rw[hE];exact hz,by rw[hE];exact aAf,k⟩⟩
 have key:∀ t,t∈h.on->t≠c->p≠c->False:=fun t ht htc hpc=>by have hr:=hT.con c p t (h1 p hp).1 (hD.on_vs ht) hpc htc;have:=hr.closed (L:=fun z=>z∈b.inner) hp fun z hz w hw hwc=>(h3 z hz w hw).resolve_right fun k=>hwc (hc w k);exact(h1 t this).2 ht
 by_cases hpc:p=c
 ·
  have hno2:∀ z∈b.ends,False:=fun z hz=>by have:=(hb.en z hz).1;rw[hc z hz,<- hpc]at this;exact(h1 p hp).2 this
  have hr:=hT.con (max p u+1) p u (h1 p hp).1 (hD.on_vs hu) oO oO;have:=hr.closed (L:=fun z=>z∈b.inner) hp fun z hz w hw _=>(h3 z hz w hw).resolve_right fun k=>hno2 w k;exact(h1 u this).2 hu
 .by_cases huc:u=c
  .exact key v hv (fun k=>huv (by rw[huc,k])) hpc
  .exact key u hu huc hpc
theorem YH{h:Sh}(hD:Drn E h){b:Brg}(hb:Brd E h.L h.on b):∃ w,Og ⟨vsF E,E⟩ b=some w/\w.Nodup/\2<=w.length/\w.length<=200/\(∀ v∈w,v∈vsF E)/\w.getD 0 0∈b.ends/\w.getD (w.length-1) 0∈b.ends/\(∀ v∈dF w,v∉h.on)/\
 (∀ x y,(x,y)∈lnk w->prP x y∉h.L/\∃ e∈E,prE e=prP x y)/\(∀ v∈dF w,v∈b.inner)/\(b.inner≠[]->dF w≠[]):=by
 obtain⟨u,v,hu,hv,huv⟩:=Ge hT hD hb;obtain⟨f1,f2⟩:=Ru (vs:=vsF E) (S:=b.ends) ⟨u,(hb.en u hu).2,hu⟩;have hfr:Cv ⟨vsF E,E⟩ b=(vsF E).getD (fst' (vsF E) b.ends) 0:=rfl;rw[<- hfr]at f2;have h2e:∃ z∈vsF E,z∈lH ⟨vsF E,E⟩ b:=by
  unfold lH;by_cases k:u=Cv ⟨vsF E,E⟩ b
  .exact⟨v,(hb.en v hv).2,by rw[aAB];exact⟨hv,by simpa using fun e=>huv (by rw[k,e])⟩⟩
  .exact⟨u,(hb.en u hu).2,by rw[aAB];exact⟨hu,by simpa using k⟩⟩
 obtain⟨g1,g2⟩:=Ru h2e;have hto:toW ⟨vsF E,E⟩ b=(vsF E).getD (fst' (vsF E) (lH ⟨vsF E,E⟩ b)) 0:=rfl;rw[<- hto]at g2;unfold lH at g2;rw[aAB,aAR]at g2;have hw:Og ⟨vsF E,E⟩ b=if nrS (vsF E) b.inner=[]then some [Cv ⟨vsF E,E⟩ b,toW ⟨vsF E,E⟩ b]else vY (vsF E) (cU (tC ⟨vsF E,E⟩ b.inner).es) (inW (vsF E) b.inner) (Cv ⟨vsF E,E⟩ b) (toW ⟨vsF E,E⟩ b) 1000:=by unfold Og;rw[aAj ⟨f1,g1⟩]
 rw[hw];generalize Cv ⟨vsF E,E⟩ b=fr at *;generalize toW ⟨vsF E,E⟩ b=to at *;have hen1:=hb.en fr f2;have hen2:=hb.en to g2.1;have c7:fr≠to:=fun e=>g2.2 e.symm;rcases hb.kind with⟨h0,e,he,heL,Q0⟩|⟨h0,h1,h2,h3,h4⟩
 .have X9:nrS (vsF E) b.inner=[]:=by rw[h0];unfold nrS;simp
  rw[aAj X9];refine⟨_,rfl,by simpa using c7,sS,sS,?_,by simpa using f2,by simpa using g2.1,by simp[dF],fun x y L7=>?_,by simp[dF],fun k=>absurd h0 k⟩
  .intro z hz;rcases aAe.1 hz with rfl|hz
   .exact hen1.2
   .rw[aAk.1 hz];exact hen2.2
  .simp only[lnk,aAk,aBd]at L7;obtain⟨rfl,rfl⟩:=L7;have k1:=f2;have k2:=g2.1;rw[Q0]at k1 k2;simp at k1 k2;have hp:prE e=prP x y:=by
    show prP e.a e.b=_;rcases k1 with rfl|rfl
    .rcases k2 with rfl|rfl
     .exact absurd rfl c7
     .rfl
    .rcases k2 with rfl|rfl
     .exact aI _ _
     .exact absurd rfl c7
   exact⟨by rw[<- hp];exact heL,e,he,hp⟩
 .obtain⟨p0,hp0⟩:=aAP _ h0;have X9:nrS (vsF E) b.inner≠[]:=aBr (mE.2 ⟨(h1 p0 hp0).1,hp0⟩);rw[aAa X9];have j5:∀ v∈vsF E,inW (vsF E) b.inner v=decide (v∈b.inner):=fun v hv=>by unfold inW PR;rw[aAj hv]
  have hpart:∀ e,e∈(tC ⟨vsF E,E⟩ b.inner).es↔e∈E/\(e.a∈b.inner\/e.b∈b.inner):=fun e=>by
   show e∈E.filter _↔_;rw[aAB];constructor
   .rintro⟨k1,k2⟩;rw[j5 _ ((bA _ _).2 ⟨e,k1,.inl rfl⟩),j5 _ ((bA _ _).2 ⟨e,k1,.inr rfl⟩)]at k2;exact⟨k1,by simpa using k2⟩
   .rintro⟨k1,k2⟩;rw[j5 _ ((bA _ _).2 ⟨e,k1,.inl rfl⟩),j5 _ ((bA _ _).2 ⟨e,k1,.inr rfl⟩)];exact⟨k1,by simpa using k2⟩
  have hnr:∀ x y,(x∈b.inner\/y∈b.inner)->y∈nbr E x->y∈cU (tC ⟨vsF E,E⟩ b.inner).es x:=fun x y L7 hn=>by
   obtain⟨e,he,k⟩:=kR.1 hn;refine lO.2 ⟨e,(hpart e).2 ⟨he,?_⟩,k⟩;rcases bG k with⟨k1,k2⟩|⟨k1,k2⟩
   .rw[k1,k2];exact L7
   .rw[k1,k2];exact L7.symm
  have hback:∀ x y,y∈cU (tC ⟨vsF E,E⟩ b.inner).es x->(∃ e∈E,prE e=prP x y)/\(x∈b.inner\/y∈b.inner):=fun x y hn=>by
   obtain⟨e,he,k⟩:=lO.1 hn;obtain⟨he,hi⟩:=(hpart e).1 he;refine⟨⟨e,he,k⟩,?_⟩;rcases bG k with⟨k1,k2⟩|⟨k1,k2⟩
   .rw[k1,k2]at hi;exact hi
   .rw[k1,k2]at hi;exact hi.symm
  obtain⟨w,w1,w2,w3,w4,w5,w6,w7,w8,w9⟩:=MT (may:=inW (vsF E) b.inner) (fun x y hy=>by obtain⟨⟨e,he,k⟩,_⟩:=hback x y hy;exact(fR he k).2) hen1.2 hen2.2 c7 (n:=1000) (by have:=hT.few.1;omega) fun S hS=>by
   obtain⟨p,hp,kp⟩:=h4 fr f2;obtain⟨q,hq,kq⟩:=h4 to g2.1;have sp:S p:=hS.2 fr hS.1 (.inl rfl) p (hnr fr p (.inr hp) (nV kp));have sq:q∈b.inner/\S q:=(h2 p hp q hq).closed (L:=fun z=>z∈b.inner/\S z) ⟨hp,sp⟩ fun z hz y hy hyi=>by obtain⟨hzi,hz⟩:=hz;exact⟨hyi,hS.2 z hz (.inr (by rw[j5 z (h1 z hzi).1];simpa using hzi)) y (hnr z y (.inl hzi) hy)⟩
   exact hS.2 q sq.2 (.inr (by rw[j5 q (h1 q hq).1];simpa using hq)) to (hnr q to (.inl hq) kq)
  refine⟨w,w1,w2,w3,by have:=hT.few.1;omega,w5,by rw[w6];exact f2,by rw[w7];exact g2.1,fun z hz=>?_,fun x y L7=>?_,fun z hz=>?_,fun _ e=>?_⟩
  .have k:=w9 z hz;rw[j5 z (w5 z (nN hz))]at k;exact(h1 z (by simpa using k)).2
  .obtain⟨k1,k2⟩:=hback x y (w8 x y L7);refine⟨fun hm=>?_,k1⟩;obtain⟨o1,o2⟩:=hD.link_on ((dJ w2).2 x y L7).1 hm;rcases k2 with k2|k2
   .exact(h1 x k2).2 o1
   .exact(h1 y k2).2 o2
  .have k:=w9 z hz;rw[j5 z (w5 z (nN hz))]at k;simpa using k
  .have hm:(w.getD 0 0,w.getD (w.length-1) 0)∈lnk w:=by have ew:=nW w3;rw[e]at ew;generalize w.getD 0 0=A at *;generalize w.getD (w.length-1) 0=B at *;rw[ew];simp[lnk]
   obtain⟨_,k⟩:=hback _ _ (w8 _ _ hm);rw[w6,w7]at k;rcases k with k|k
   .exact(h1 _ k).2 hen1.1
   .exact(h1 _ k).2 hen2.1
end
def tb(b:Brg):(Int->Prop)×(Int->Prop):=(fun v=>v∈b.inner,fun v=>v∈b.ends)
def St'(E:List Ed)(h:Sh)(T:(Int->Prop)×(Int->Prop)):Prop:=∃ b,Brd E h.L h.on b/\T=tb b
theorem Wh{b c:Brg}(h1:∀ v,v∈b.inner↔v∈c.inner)(h2:∀ v,v∈b.ends↔v∈c.ends):tb b=tb c:=by unfold tb;rw[aBd];exact⟨funext fun v=>propext (h1 v),funext fun v=>propext (h2 v)⟩
theorem uP{E:List Ed}{L:List (Int×Int)}{on:List Int}{b c:Brg}(hb:Brd E L on b)(hc:Brd E L on c){v:Int}(k1:v∈b.inner)(k2:v∈c.inner):(∀ u,u∈b.inner->u∈c.inner)/\∀ u,u∈b.ends->u∈c.ends:=by
 rcases hb.kind with⟨h0,_⟩|⟨_,b1,b2,b3,b4⟩
 .rw[h0]at k1;simp at k1
 rcases hc.kind with⟨h0,_⟩|⟨_,c1,c2,c3,c4⟩
 .rw[h0]at k2;simp at k2
 have hi:∀ u,u∈b.inner->u∈c.inner:=fun u hu=>(b2 v k1 u hu).closed (L:=fun z=>z∈c.inner) k2 fun z hz w hw hwb=>(c3 z hz w hw).resolve_right fun q=>(b1 w hwb).2 (hc.en w q).1;refine⟨hi,fun u hu=>?_⟩;obtain⟨p,hp,q⟩:=b4 u hu;exact(c3 p (hi p hp) u q).resolve_left fun i=>(c1 u i).2 (hb.en u hu).1
theorem Xi{E:List Ed}{L:List (Int×Int)}{on:List Int}{b c:Brg}(hb:Brd E L on b)(hc:Brd E L on c){v:Int}(k1:v∈b.inner)(k2:v∈c.inner):tb b=tb c:=
 Wh (fun u=>⟨(uP hb hc k1 k2).1 u,(uP hc hb k2 k1).1 u⟩) fun u=>⟨(uP hb hc k1 k2).2 u,(uP hc hb k2 k1).2 u⟩
theorem QE{E:List Ed}{h:Sh}{T T':(Int->Prop)×(Int->Prop)}(k:St' E h T)(k':St' E h T')(c7:T≠T'):∀ v,T.1 v->¬T'.1 v:=fun v a b=>by obtain⟨c,hc,rfl⟩:=k;obtain⟨d,hd,rfl⟩:=k';exact c7 (Xi hc hd a b)
def Tch(T:(Int->Prop)×(Int->Prop))(e:Ed):Prop:=T.1 e.a\/T.1 e.b\/((∀ v,¬T.1 v)/\T.2 e.a/\T.2 e.b)
def Kq(E:List Ed)(T:(Int->Prop)×(Int->Prop))(r:List Int):Prop:=∃ E1 s,PlE E1 s/\Kr E1 T r/\(∀ e∈E1,∃ f∈E,prE f=prE e)/\∀ e∈E,Tch T e->∃ f∈E1,prE f=prE e
theorem Kq.rev{E:List Ed}{T:(Int->Prop)×(Int->Prop)}{r:List Int}(h:Kq E T r):Kq E T r.reverse/\r.Nodup:=by obtain⟨E1,s,h1,h2,h3,h4⟩:=h;exact⟨⟨E1,s,h1,h2.rev,h3,h4⟩,h2.nd⟩
theorem Thg.by{E E1:List Ed}{T:(Int->Prop)×(Int->Prop)}(h:Thg E T)(h4:∀ e∈E,Tch T e->∃ f∈E1,prE f=prE e):Thg E1 T:=by
 have nb:∀ p q,(T.1 p\/T.1 q)->q∈nbr E p->q∈nbr E1 p:=fun p q hp hn=>by
  obtain⟨e,he,k⟩:=kR.1 hn
  obtain⟨f,hf,k'⟩:=h4 e he (by
   unfold Tch
   rcases bG k with⟨k1,k2⟩|⟨k1,k2⟩<;>rw[k1,k2]<;>grind)
  exact kR.2 ⟨f,hf,k'.trans k⟩
 refine⟨?_,h.off,h.two⟩;rcases h.kind with⟨e,he,k1,k2⟩|⟨k1,k2,k3⟩
 .obtain⟨f,hf,k⟩:=h4 e he (.inr (.inr ⟨k1,(k2 _).2 (.inl rfl),(k2 _).2 (.inr rfl)⟩));refine .inl ⟨f,hf,k1,fun v=>(k2 v).trans ?_⟩;rcases bG (u:=f.a) (v:=f.b) (x:=e.a) (y:=e.b) k with⟨i,j⟩|⟨i,j⟩<;>rw[i,j];exact Or.comm
 .refine .inr ⟨k1,fun p q hp hq=>?_,fun c hc=>?_⟩
  .have:=k2 p q hp hq;induction this with
   |refl h=>exact .refl h
   |step h hz hs ih=>exact .step (ih h.here.2) (nb _ _ (.inl h.here.2) hz) hs
  .obtain⟨p,hp,k⟩:=k3 c hc;exact⟨p,hp,nb p c (.inl hp) k⟩
structure Exd(E:List Ed)(h:Sh):Prop where
 drn:Drn E h
 rgs:Rgs h.F
 al:∃ α,Al h.F (St' E h) (fun T=>T.2) (Kq E) α
section
variable {E:List Ed} (hT:Tc E)
include hT
theorem Af{h:Sh}(hD:Drn E h){b:Brg}(hb:Brd E h.L h.on b):Thg E (tb b):=by
 refine⟨?_,fun v h1 h2=>?_,Ge hT hD hb⟩
 .rcases hb.kind with⟨h0,e,he,_,h1⟩|⟨h0,h1,h2,h3,h4⟩
  .exact .inl ⟨e,he,fun v=>by simp[tb,h0],fun v=>by simp[tb,h1]⟩
  .exact .inr ⟨aAP _ h0,fun p q hp hq=>h2 p hp q hq,h4⟩
 .rcases hb.kind with⟨h0,_⟩|⟨h0,h3,_⟩
  .have h1:v∈b.inner:=h1;rw[h0]at h1;simp at h1
  .exact(h3 v h1).2 (hb.en v h2).1
theorem Exd.lay{h:Sh}(hD:Drn E h)(hR:Rgs h.F){α:(Int->Prop)×(Int->Prop)->Nat}(hα:Al h.F (St' E h) (fun T=>T.2) (Kq E) α){b:Brg}(hb:Brd E h.L h.on b){w:List Int}(w2:w.Nodup)(w3:2<=w.length)(w6:w.getD 0 0∈b.ends)(w7:w.getD (w.length-1) 0∈b.ends)(w8:∀ v∈dF w,v∉h.on)
 (w9:∀ x y,(x,y)∈lnk w->prP x y∉h.L/\∃ e∈E,prE e=prP x y) (w10:∀ v∈dF w,v∈b.inner) (w11:b.inner≠[]->dF w≠[]):Exd E (gV h w (α (tb b))):=by
 have hlive:St' E h (tb b):=⟨b,hb,rfl⟩;have hk:=hα.lt _ hlive;have hon:=hα.on _ hlive;generalize hkk:α (tb b)=k at *;have hD':=hD.lay hk w3 w2 (hon _ w6) (hon _ w7) w8 w9;have ew:=nW w3;have hL:(gV h w k).L=h.L++iP w:=by
  have:(gV h w k).L=kL h.L w:=rfl;rw[this];exact kV _ _ (fE w2) fun p hpp=>by rw[eC]at hpp;obtain⟨q,hq,rfl⟩:=aAi.1 hpp;exact(w9 q.1 q.2 hq).1
 have hOn:(gV h w k).on=h.on++w:=rfl;have c7:w.getD 0 0≠w.getD (w.length-1) 0:=fun e=>by rw[ew,e]at w2;exact(aAq.1 w2).1 sS
 have i1:=aAO (hon _ w6);have i2:=aAO (hon _ w7);have g1:(h.F.getD k []).getD ((h.F.getD k []).idxOf (w.getD 0 0)) 0=w.getD 0 0:=by rw[aAg (l:=h.F.getD k []),aAh i1,Option.getD_some,aBu]
 have g2:(h.F.getD k []).getD ((h.F.getD k []).idxOf (w.getD (w.length-1) 0)) 0=w.getD (w.length-1) 0:=by rw[aAg (l:=h.F.getD k []),aAh i2,Option.getD_some,aBu]
 obtain⟨A,B,q1,q2,_,q4⟩:=oG (fun e=>c7 (by rw[<- g1,e,g2])) i1 i2;rw[g1,g2]at q1 q2 q4;have hF:(gV h w k).F=h.F.set k (w.getD 0 0::(A++w.getD (w.length-1) 0::(dF w).reverse))++[w.getD (w.length-1) 0::(B++w.getD 0 0::dF w)]:=by show h.F.set k (iW (h.F.getD k []) ((h.F.getD k []).idxOf (w.getD 0 0)) ((h.F.getD k []).idxOf (w.getD (w.length-1) 0))++(dF w).reverse)++[iW (h.F.getD k []) ((h.F.getD k []).idxOf (w.getD (w.length-1) 0)) ((h.F.getD k []).idxOf (w.getD 0 0))++dF w]=_;rw[q1,q2];simp
 have hgen:∃ x y M,x=w.getD 0 0/\y=w.getD (w.length-1) 0/\M=dF w:=⟨_,_,_,rfl,rfl,rfl⟩;obtain⟨x,y,M,ex,ey,eM⟩:=hgen;rw[<- ex,<- ey]at c7 q4;rw[<- ex,<- ey,<- eM]at hF ew;rw[<- ex]at w6;rw[<- ey]at w7;rw[<- eM]at w8 w10 w11;have hdn:(h.F.getD k []).Nodup:=hR.nd k hk;have O8:Sc (h.F.getD k []) (x::(A++y::B)):=by obtain⟨c,d,e1,e2⟩:=q4;rw[e1,e2];exact Fi (e1 ▸ hdn)
 have O7:(x::(A++y::B)).Nodup:=by obtain⟨c,d,e1,e2⟩:=q4;rw[e2];rw[e1]at hdn;exact(aBj (l₁:=c) (l₂:=d)).nodup_iff.1 hdn
 have hMn:M.Nodup:=by rw[ew]at w2;exact(aAo.1 (aAq.1 w2).2).1
 have hMF:∀ i,i<h.F.length->∀ v∈M,v∉h.F.getD i []:=fun i hi v hv q=>w8 v hv (hD.ring_on (by rw[aAg,aAh hi];exact aAE _) q);have onx:x∈h.on:=(hb.en x w6).1;have ony:y∈h.on:=(hb.en y w7).1;have hwm:∀ v,v∈w↔v=x\/v∈M\/v=y:=fun v=>by rw[ew];simp
 have hwP:∀ u v,prP u v∈iP w↔(u,v)∈lnk w\/(v,u)∈lnk w:=fun u v=>by
  rw[eC,aAi];constructor
  .rintro⟨q,hq,e⟩;rcases bG e with⟨e1,e2⟩|⟨e1,e2⟩
   .left;rw[<- e1,<- e2];exact hq
   .right;rw[<- e1,<- e2];exact hq
  .rintro(q|q)
   .exact⟨_,q,rfl⟩
   .exact⟨_,q,aI _ _⟩
 have r8:∀ p,p∈b.inner->∀ q∈nbr E p,q∈b.inner\/q∈b.ends:=fun p hp q hq=>by
  rcases hb.kind with⟨h0,_⟩|⟨_,_,_,h3,_⟩
  .rw[h0]at hp;simp at hp
  .exact h3 p hp q hq
 have j5:∀ p,p∈b.inner->p∉h.on:=fun p hp=>by
  rcases hb.kind with⟨h0,_⟩|⟨_,h1,_⟩
  .rw[h0]at hp;simp at hp
  .exact(h1 p hp).2
 have hM0:M=[]->∀ v,¬(tb b).1 v:=fun e v hv=>w11 (aBr hv) e;have piece:∀ S,St' E (gV h w k) S->¬St' E h S->(∀ v,S.1 v->(tb b).1 v/\v∉M)/\(∀ v,S.2 v->v∈M\/(tb b).2 v)/\((∀ v,¬S.1 v)->(∃ v,S.2 v/\v∈M)/\∀ a b,S.2 a->S.2 b->(a,b)∉lnk (x::(M++[y]))):=by
  rintro S ⟨c,hc,rfl⟩ x9;have X8:=hc.en;rw[hOn]at X8;have onM:∀ v,v∈h.on++w->v∉M->v∈h.on:=fun v hv hvM=>by
   rcases aAd.1 hv with i|i
   .exact i
   .rcases(hwm v).1 i with rfl|i|rfl
    .exact onx
    .exact absurd i hvM
    .exact ony
  rcases hc.kind with⟨h0,e,he,h1,h2⟩|⟨h0,h1,h2,h3,h4⟩
  .rw[hL]at h1;have hend:∀ v,(tb c).2 v↔v=e.a\/v=e.b:=fun v=>by simp[tb,h2]
   have hemp:∀ v,¬(tb c).1 v:=fun v=>by simp[tb,h0]
   have hex:e.a∈M\/e.b∈M:=aAI fun q=>x9 ⟨c,⟨fun v hv=>⟨onM v (X8 v hv).1 fun i=>q (by have:=(hend v).1 hv;grind),(X8 v hv).2⟩,.inl ⟨h0,e,he,fun i=>h1 (aAr _ i),h2⟩⟩,rfl⟩;have oth:∀ v v',v'∈nbr E v->v'∈c.ends->v∈M->v'∈M\/v'∈b.ends:=fun v v' hn hv' i=>by
    rcases r8 v (w10 v i) v' hn with k|k
    .exact .inl (aAI fun q=>j5 v' k (onM v' (X8 v' hv').1 q))
    .exact .inr k
   have n1:e.b∈nbr E e.a:=kR.2 ⟨e,he,rfl⟩;have n2:e.a∈nbr E e.b:=kR.2 ⟨e,he,aI _ _⟩;have o1:=oth e.a e.b n1 (by rw[h2];simp);have o2:=oth e.b e.a n2 (by rw[h2];simp);refine⟨fun v hv=>absurd hv (hemp v),fun v hv=>?_,fun _=>⟨?_,fun a' b' ha hb' hl=>?_⟩⟩
   .show v∈M\/v∈b.ends;have:=(hend v).1 hv
    grind
   .rcases hex with q|q
    .exact⟨_,(hend _).2 (.inl rfl),q⟩
    .exact⟨_,(hend _).2 (.inr rfl),q⟩
   .rw[<- ew]at hl;have x8:=((dJ w2).2 a' b' hl).1;refine h1 (aAx _ ?_);have e1:=(hend a').1 ha;have e2:=(hend b').1 hb';have:prE e=prP a' b':=by
     show prP e.a e.b=_;rcases e1 with rfl|rfl<;>rcases e2 with rfl|rfl
     .exact absurd rfl x8
     .rfl
     .exact aI _ _
     .exact absurd rfl x8
    rw[this];exact(hwP a' b').2 (.inl hl)
  .rw[hOn]at h1;by_cases hx:∃ p∈c.inner,p∈b.inner
   .obtain⟨p,p1,p2⟩:=hx;have L6:∀ v,v∈c.inner->v∈b.inner:=fun v hv=>(h2 p p1 v hv).closed (L:=fun z=>z∈b.inner) p2 fun z hz q hq hqc=>(r8 z hz q hq).resolve_right fun i=>(h1 q hqc).2 (aAr _ (hb.en q i).1);refine⟨fun v hv=>⟨L6 v hv,fun i=>(h1 v hv).2 (aAx _ ((hwm v).2 (.inr (.inl i))))⟩,fun v hv=>?_,fun q=>absurd p1 (q p)⟩;obtain⟨u,hu,hn⟩:=h4 v hv;rcases r8 u (L6 u hu) v hn with i|i
    .exact .inl (aAI fun q=>j5 v i (onM v (X8 v hv).1 q))
    .exact .inr i
   .refine absurd ⟨c,⟨fun v hv=>⟨onM v (X8 v hv).1 fun i=>?_,(X8 v hv).2⟩,.inr ⟨h0,fun v hv=>⟨(h1 v hv).1,fun i=>(h1 v hv).2 (aAr _ i)⟩,h2,h3,h4⟩⟩,rfl⟩ x9;obtain⟨u,hu,hn⟩:=h4 v hv;rcases r8 v (w10 v i) u (nV hn)with j|j
    .exact hx ⟨u,hu,j⟩
    .exact(h1 u hu).2 (aAr _ (hb.en u j).1)
 have other:∀ S,St' E (gV h w k) S->S≠tb b:=by
  rintro S ⟨c,hc,rfl⟩ e;have ei:∀ v,v∈c.inner↔v∈b.inner:=fun v=>iff_of_eq (congrFun (congrArg Prod.fst e) v);have ee:∀ v,v∈c.ends↔v∈b.ends:=fun v=>iff_of_eq (congrFun (congrArg Prod.snd e) v);rcases hc.kind with⟨h0,f,hf,h1,h2⟩|⟨h0,h1,_⟩
  .have hM:M=[]:=by
    cases hm:M with
    |nil=>rfl
    |cons m M'=>have:=(ei m).2 (w10 m (by rw[hm];simp));rw[h0]at this;simp at this
   rw[hL]at h1;have kx:=(ee x).2 w6;have ky:=(ee y).2 w7;rw[h2]at kx ky;have L7:(x,y)∈lnk w:=by rw[ew,hM];simp[lnk]
   refine h1 (aAx _ ?_);have:prE f=prP x y:=by
    show prP f.a f.b=_;simp at kx ky;rcases kx with e1|e1<;>rcases ky with e2|e2
    .exact absurd (e1.trans e2.symm) c7
    .rw[e1,e2]
    .rw[e1,e2];exact aI _ _
    .exact absurd (e1.trans e2.symm) c7
   rw[this];exact(hwP x y).2 (.inl L7)
  .obtain⟨p,hp⟩:=aAP _ h0;obtain⟨m,hm⟩:=aAP _ (w11 (aBr ((ei p).1 hp)));exact(h1 m ((ei m).2 (w10 m hm))).2 (by rw[hOn];exact aAx _ ((hwm m).2 (.inr (.inl hm))))
 obtain⟨α',hα'⟩:=hα.lay (fun T r q=>q.rev) hlive hkk O8 O7 hMn hMF w6 w7 (fun r q=>by
  obtain⟨_,_,_,q,_⟩:=q
  exact⟨fun v hv i=>q.off v i (w10 v hv),q.on⟩) (live':=St' E (gV h w k)) (pc:=fun S=>St' E (gV h w k) S/\¬St' E h S)
  (fun S hS=>by by_cases q:St' E h S;exact .inl ⟨q,other S hS⟩;exact .inr ⟨⟨hS,q⟩,q⟩)
  (fun c d P' Q' hk e=>by
    obtain⟨E1,s,hP,hk,h3,h4⟩:=hk;have up:∀ S,St' E (gV h w k) S->¬St' E h S->∀ e∈E,Tch S e->∃ f∈E1,prE f=prE e:=fun S q q' e he ht=>by
     obtain⟨k1,k2,k3⟩:=piece S q q';refine h4 e he ?_;rcases ht with ht|ht|⟨ht,ha,hb'⟩
     .exact .inl (k1 _ ht).1
     .exact .inr (.inl (k1 _ ht).1)
     .have hSt:=q;obtain⟨⟨m,m1,m2⟩,_⟩:=k3 ht;obtain⟨c',hc',rfl⟩:=q;have hth:=Af hT hD' hc';have c7:=hT.ne e he;rcases hth.kind with⟨f,hf,_,z2⟩|⟨⟨z,z1⟩,_⟩
      .have:=(z2 m).1 m1;have:=(z2 e.a).1 ha;have:=(z2 e.b).1 hb';have:m=e.a\/m=e.b:=by grind
       rcases this with rfl|rfl
       .exact .inl (w10 _ m2)
       .exact .inr (.inl (w10 _ m2))
      .exact absurd z1 (ht z)
    obtain⟨side,hs⟩:=pieces hP ((Af hT hD hb).by h4) hk (Q:=Q') (P:=P') ⟨c,d,rfl,e.symm⟩ w6 w7 (ew ▸ w2) (fun u v q=>by
     obtain⟨e,he,k'⟩:=(w9 u v (ew ▸ q)).2
     obtain⟨f,hf,i⟩:=h4 e he (by
      unfold Tch;cases hm:M with
      |nil=>
       rw[hm]at q;simp only[List.nil_append,lnk,aAk,aBd]at q;have z1:(tb b).2 u:=by rw[q.1];exact w6
       have z2:(tb b).2 v:=by rw[q.2];exact w7
       rcases bG k' with⟨i,j⟩|⟨i,j⟩<;>rw[i,j]
       .exact .inr (.inr ⟨hM0 hm,z1,z2⟩)
       .exact .inr (.inr ⟨hM0 hm,z2,z1⟩)
      |cons m M'=>
       have:u∈M\/v∈M:=by
        have q1:=eX (y:=y) (l:=x::M) q;have q2:=jE q;rcases aAe.1 q1 with rfl|q1
        .rcases aAd.1 q2 with q2|q2
         .exact .inr q2
         .rw[aAk]at q2;subst q2;rw[hm]at q;have:=fG (by rw[<- hm];exact ew ▸ w2) q (b':=m) (by simp[lnk]);exact .inr (by rw[this,hm];simp)
        .exact .inl q1
       rcases bG k' with⟨i,j⟩|⟨i,j⟩<;>rw[i,j]
       .exact this.elim (fun z=>.inl (w10 _ z)) fun z=>.inr (.inl (w10 _ z))
       .exact this.elim (fun z=>.inr (.inl (w10 _ z))) fun z=>.inl (w10 _ z))
     exact⟨f,hf,i.trans k'⟩) w10 hM0 (Pc:=fun S=>St' E (gV h w k) S/\¬St' E h S) (fun S q=>by
     have q1:=q.1;obtain⟨c,hc,rfl⟩:=q1
     exact⟨(Af hT hD' hc).by (up _ q.1 q.2),piece _ q.1 q.2⟩) (fun S S' q q'=>QE q.1 q'.1)
    exact⟨side,fun S q=>⟨(piece S q.1 q.2).2.1,(hs S q).1.on,⟨E1,s,hP,(hs S q).1,h3,up S q.1 q.2⟩,(hs S q).2⟩⟩)
 rw[<- hF]at hα';exact⟨hD',by rw[hF];exact hR.lay hk O8 O7 hMn hMF,α',hα'⟩
end
theorem wI{E:List Ed}:∀ {l:List (Int×Int)},l.Nodup->(∀ p∈l,∃ e∈E,prE e=prP p.1 p.2)->l.length<=2*E.length:=by
 intro l hn h;have hl:(E.flatMap fun e=>[(e.a,e.b),(e.b,e.a)]).length=2*E.length:=by
  clear h;induction E with
  |nil=>rfl
  |cons e E ih=>simp only[aAH,aAn,List.length_cons,List.length_nil]at ih ⊢;omega
 rw[<- hl];refine aAy hn fun p hp=>?_;obtain⟨e,he,k⟩:=h p hp;refine aAY.2 ⟨e,he,?_⟩;rcases bG k with⟨k1,k2⟩|⟨k1,k2⟩
 .rw[k1,k2];simp
 .rw[k1,k2];simp
section
variable {E:List Ed} (hT:Tc E)
include hT
omit hT in
theorem Drn.L_le{h:Sh}(hD:Drn E h):h.L.length<=E.length:=by
 have:=aAy hD.lnd (l₂:=E.map prE) fun p hp=>by obtain⟨e,he,rfl⟩:=hD.sub p hp;exact aAt he
 rwa [aAD]at this
omit hT in
theorem Drn.ring_le{h:Sh}(hD:Drn E h){r:List Int}(hr:r∈h.F):r.length<=2*E.length:=by
 rw[<- oZ r];have hn:=hD.nd;refine wI ?_ fun p hp=>?_
 .unfold PF at hn;rw[List.flatMap_def]at hn;exact(aBp (aAt (f:=prs) hr)).nodup hn
 .obtain⟨_,k⟩:=(hD.mem p.1 p.2).1 (aX.2 ⟨r,hr,hp⟩);exact hD.sub _ k
theorem WI{h:Sh}(hD:Drn E h):∃ B,(∀ b∈B,Brd E h.L h.on b)/\(∀ e∈E,prE e∉h.L->e.a∈h.on->e.b∈h.on->⟨[],[e.a,e.b]⟩∈B)/\(∀ v∈vsF E,v∉h.on->∃ b∈B,v∈b.inner)/\
 (((bI h.F B (⟨[],[]⟩,-1)).2<0/\yO ⟨vsF E,E⟩ h=some none)\/∃ w k,(bI h.F B (⟨[],[]⟩,-1)).2=((k:Nat):Int)/\yO ⟨vsF E,E⟩ h=some (some (gV h w k))/\Drn E (gV h w k)/\h.L.length<(gV h w k).L.length/\Brd E h.L h.on (bI h.F B (⟨[],[]⟩,-1)).1/\
   w.Nodup/\2<=w.length/\w.getD 0 0∈(bI h.F B (⟨[],[]⟩,-1)).1.ends/\w.getD (w.length-1) 0∈(bI h.F B (⟨[],[]⟩,-1)).1.ends/\(∀ v∈dF w,v∉h.on)/\(∀ x y,(x,y)∈lnk w->prP x y∉h.L/\∃ e∈E,prE e=prP x y)/\(∀ v∈dF w,v∈(bI h.F B (⟨[],[]⟩,-1)).1.inner)/\((bI h.F B (⟨[],[]⟩,-1)).1.inner≠[]->dF w≠[])):=by
 obtain⟨B,b1,b2,b3,b4,b5⟩:=Tv (E:=E) (on:=h.on) h.L;refine⟨B,b2,b4,b5,?_⟩;have hc:Chn E h (bI h.F B (⟨[],[]⟩,-1)):=Db B _ b2 ⟨sS,.inl sS⟩;have hfew:=hT.few;unfold yO;rw[b1,Option.bind_some,aAj ⟨fun b hb v hv=>((b2 b hb).en v hv).2,oO,hc.1⟩];generalize bI h.F B (⟨[],[]⟩,-1)=r at *;by_cases L9:r.2<0
 .rw[aAj L9];exact .inl ⟨L9,rfl⟩
 rw[aAa L9];obtain⟨hb,k,hk,hkl,X0⟩:=hc.2.resolve_left L9;have hkn:r.2.toNat=k:=oO;rw[hkn];obtain⟨w,w1,w2,w3,w4,w5,w6,w7,w8,w9,w10,w11⟩:=YH hT hD hb;have hrin:h.F.getD k []∈h.F:=by rw[aAg,aAh hkl];exact aAE _
 have hrl:=hD.ring_le hrin;have hLl:=hD.L_le;have hcnt:=hD.cnt;have hlay:MP ⟨vsF E,E⟩ h k w:=⟨hkl,w3,w4,w5,oO,X0 _ w6,X0 _ w7,oO⟩;rw[w1,Option.bind_some,aAj hlay];refine .inr ⟨w,k,hk,rfl,hD.lay hkl w3 w2 (X0 _ w6) (X0 _ w7) w8 w9,?_,hb,w2,w3,w6,w7,w8,w9,w10,w11⟩;have hL:(gV h w k).L=h.L++iP w:=by
  have:(gV h w k).L=kL h.L w:=rfl;rw[this];exact kV _ _ (fE w2) fun p hpp=>by rw[eC]at hpp;obtain⟨q,hq,rfl⟩:=aAi.1 hpp;exact(w9 q.1 q.2 hq).1
 rw[hL,aAn,nR];omega
theorem PY{h:Sh}(hD:Drn E h):yO ⟨vsF E,E⟩ h=some none\/∃ h',yO ⟨vsF E,E⟩ h=some (some h')/\Drn E h'/\h.L.length<h'.L.length:=by
 obtain⟨B,_,_,_,k|⟨w,k,_,h1,h2,h3,_⟩⟩:=WI hT hD
 .exact .inl k.2
 .exact .inr ⟨_,h1,h2,h3⟩
theorem BK:∀(n:Nat) (h:Sh),Drn E h->E.length+1<=n+h.L.length->∃ o,rR ⟨vsF E,E⟩ n h=some o/\∀ h',o=some h'->Drn E h'/\E.length<=h'.L.length
 |0,h,hD,hl=>by have:=hD.L_le;omega
 |n+1,h,hD,hl=>by
  unfold rR;by_cases dA:h.L.length<(⟨vsF E,E⟩:Gr).es.length
  .rw[aAj dA];rcases PY hT hD with hs|⟨h',hs,hD',O5⟩
   .rw[hs];exact⟨none,rfl,fun h' e=>by cases e⟩
   .rw[hs,Option.bind_some];exact BK n h' hD' oO
  .rw[aAa dA];refine⟨some h,rfl,fun h' e=>?_⟩;injection e with e;subst e;exact⟨hD,by show E.length<=_;simp only at dA;omega⟩
end
def Fit(b:Brg)(F:List (List Int))(i:Nat):Prop:=∀ v∈b.ends,v∈F.getD i []
theorem rW(b:Brg)(F:List (List Int)):((bZ b F.zipIdx).2=0->∀ i,i<F.length->¬Fit b F i)/\((bZ b F.zipIdx).2=1->∃ i:Nat,(bZ b F.zipIdx).1=i/\∀ j,j<F.length->Fit b F j->j=i)/\
 ((bZ b F.zipIdx).2≠0->∃ i:Nat,(bZ b F.zipIdx).1=i/\i<F.length/\Fit b F i)/\(2<=(bZ b F.zipIdx).2->∃ i j,i<j/\j<F.length/\Fit b F i/\Fit b F j):=by
 have key:∀ k,k<=F.length->((bZ b (F.zipIdx.take k)).2=0->(bZ b (F.zipIdx.take k)).1 = -1/\∀ i,i<k->¬Fit b F i)/\((bZ b (F.zipIdx.take k)).2=1->∃ i:Nat,(bZ b (F.zipIdx.take k)).1=i/\∀ j,j<k->Fit b F j->j=i)/\
  ((bZ b (F.zipIdx.take k)).2≠0->∃ i:Nat,(bZ b (F.zipIdx.take k)).1=i/\i<k/\Fit b F i)/\(2<=(bZ b (F.zipIdx.take k)).2->∃ i j,i<j/\j<k/\Fit b F i/\Fit b F j)/\0<=(bZ b (F.zipIdx.take k)).2:=by
  intro k;induction k with
  |zero=>intro _;simp[bZ]
  |succ k ih=>
   intro hk;obtain⟨h1,h2,h3,h4,h5⟩:=ih oO;rw[Bk b F k oO];generalize bZ b (F.zipIdx.take k)=p at *;have hf:off b.ends (F.getD k [])=[]↔Fit b F k:=by
    unfold Fit;rw[aBZ];simp only[fM]
    grind
   unfold nJ;by_cases e:Fit b F k
   .rw[aAj (hf.2 e)];by_cases e2:p.2=0
    .rw[aAj e2];have:=(h1 e2).2;refine⟨fun q=>by simp only at q;omega,fun _=>⟨k,rfl,fun j hj hf=>aAI fun q=>this j oO hf⟩,fun _=>⟨k,rfl,oO,e⟩,fun q=>by simp only at q;omega,by simp only;omega⟩
    .rw[aAa e2];obtain⟨i,i1,i2,i3⟩:=h3 e2;exact⟨fun q=>by simp only at q;omega,fun q=>by simp only at q;omega,fun _=>⟨i,i1,oO,i3⟩,fun _=>⟨i,k,i2,oO,i3,e⟩,by simp only;omega⟩
   .rw[aAa fun q=>e (hf.1 q)];refine⟨fun q=>⟨(h1 q).1,fun i hi=>?_⟩,fun q=>?_,fun q=>?_,fun q=>?_,h5⟩
    .by_cases c:i=k
     .rw[c];exact e
     .exact(h1 q).2 i oO
    .obtain⟨i,i1,i2⟩:=h2 q;refine⟨i,i1,fun j hj hfj=>?_⟩;by_cases c:j=k
     .exact absurd (c ▸ hfj) e
     .exact i2 j oO hfj
    .obtain⟨i,i1,i2,i3⟩:=h3 q;exact⟨i,i1,oO,i3⟩
    .obtain⟨i,j,i1,i2,i3⟩:=h4 q;exact⟨i,j,i1,oO,i3⟩
 have:=key F.length (aAl _);rw[aAu sS]at this;exact⟨fun q=>(this.1 q).2,this.2.1,this.2.2.1,this.2.2.2.1⟩
theorem vR(F:List (List Int)):∀(B:List Brg) (N4:Brg×Int),(∃ b∈B,bI F B N4=(b,(bZ b F.zipIdx).1)/\(bZ b F.zipIdx).2<=1)\/((∀ b∈B,2<=(bZ b F.zipIdx).2)/\(0<=N4.2->bI F B N4=N4)/\(N4.2<0->B≠[]->∃ b∈B,bI F B N4=(b,(bZ b F.zipIdx).1)))
 |[],N4=>.inr ⟨sS,fun _=>rfl,fun _ h=>absurd rfl h⟩
 |b::B,N4=>by
  unfold bI;by_cases h:(bZ b F.zipIdx).2<=1
  .rw[aAj h];exact .inl ⟨b,aAf,rfl,h⟩
  .rw[aAa h];rcases vR F B (if N4.2<0 then(b,(bZ b F.zipIdx).1)else N4)with⟨c,c1,c2,c3⟩|⟨c1,c2,c3⟩
   .exact .inl ⟨c,aAc _ c1,c2,c3⟩
   .right;have hs:=(rW b F).2.2.1 oO;refine⟨fun c hc=>by rcases aAe.1 hc with rfl|hc;omega;exact c1 c hc,fun q=>?_,fun q _=>⟨b,aAf,?_⟩⟩
    .rw[aAa oO]at c2 ⊢;exact c2 q
    .rw[aAj q]at c2 ⊢;obtain⟨i,hi,_⟩:=hs;exact c2 (by simp only;omega)
theorem Ld{r:List Int}(hn:r.Nodup):Rgs [r,r.reverse]:=by
 have Z7:r.reverse.Nodup:=(aBq r).nodup_iff.2 hn;have h1:Rv r r.reverse:=fun x y z _ _ _ k=>(KP hn).2 k;refine⟨fun i hi=>?_,fun i j hi hj hij=>?_,fun i j k hi hj hk h1 h2 h3=>?_⟩
 .match i,hi with
  |0,_=>exact hn
  |1,_=>exact Z7
 .match i,hi,j,hj with
  |0,_,0,_=>exact absurd rfl hij
  |0,_,1,_=>exact h1
  |1,_,0,_=>exact h1.symm
  |1,_,1,_=>exact absurd rfl hij
 .simp only[List.length_cons,List.length_nil]at hi hj hk;omega
section
variable {E:List Ed} (hT:Tc E)
include hT
theorem Exd.step{h:Sh}(hx:Exd E h)(hl:h.L.length<E.length):∃ h',yO ⟨vsF E,E⟩ h=some (some h')/\Exd E h'/\h.L.length<h'.L.length:=by
 obtain⟨hD,hR,α,hα⟩:=hx;obtain⟨B,b2,b4,b5,D3⟩:=WI hT hD;have hB:B≠[]:=by
  obtain⟨e,he,hn⟩:∃ e∈E,prE e∉h.L:=aAI fun q=>by
   have:=aAy hT.sim (l₂:=h.L) fun p hp=>by obtain⟨e,he,rfl⟩:=aAi.1 hp;exact aAI fun i=>q ⟨e,he,i⟩
   rw[aAD]at this;omega
  by_cases ha:e.a∈h.on
  .by_cases hb:e.b∈h.on
   .exact aBr (b4 e he hn ha hb)
   .obtain⟨b,hb,_⟩:=b5 e.b ((bA _ _).2 ⟨e,he,.inr rfl⟩) hb;exact aBr hb
  .obtain⟨b,hb,_⟩:=b5 e.a ((bA _ _).2 ⟨e,he,.inl rfl⟩) ha;exact aBr hb
 have fitα:∀ b∈B,Fit b h.F (α (tb b))/\α (tb b)<h.F.length:=fun b hb=>⟨fun v hv=>hα.on (tb b) ⟨b,b2 b hb,rfl⟩ v hv,hα.lt (tb b) ⟨b,b2 b hb,rfl⟩⟩;have W8:∃ k:Nat,(bI h.F B (⟨[],[]⟩,-1)).2=k/\Brd E h.L h.on (bI h.F B (⟨[],[]⟩,-1)).1/\∃ α',Al h.F (St' E h) (fun T=>T.2) (Kq E) α'/\α' (tb (bI h.F B (⟨[],[]⟩,-1)).1)=k:=by
  rcases vR h.F B (⟨[],[]⟩,-1)with⟨b,hb,e,k⟩|⟨k,_,e⟩
  .rw[e];obtain⟨f1,f2⟩:=fitα b hb;obtain⟨s0,s1,s2,_⟩:=rW b h.F;have n0:(bZ b h.F.zipIdx).2≠0:=fun q=>s0 q _ f2 f1;have n1:0<=(bZ b h.F.zipIdx).2:=(BA b _).1;obtain⟨i,i1,i2⟩:=s1 oO;exact⟨i,i1,b2 b hb,α,hα,i2 _ f2 f1⟩
  .obtain⟨b,hb,e⟩:=e sS hB;rw[e];have:=k b hb;obtain⟨i,i1,i2,i3⟩:=(rW b h.F).2.2.1 oO;refine⟨i,i1,b2 b hb,hα.swap hR (fun T r q=>q.rev) (fun T hT' g=>?_) ⟨b,b2 b hb,rfl⟩ i2 i3⟩;obtain⟨c,hc,rfl⟩:=hT';have hcB:∃ d∈B,∀ v,v∈c.ends->v∈d.ends:=by
    rcases hc.kind with⟨h0,f,hf,h1,h2⟩|⟨h0,h1,_⟩
    .have e1:=hc.en f.a (by rw[h2];simp);have e2:=hc.en f.b (by rw[h2];simp);exact⟨_,b4 f hf h1 e1.1 e2.1,fun v hv=>by rw[h2]at hv;exact hv⟩
    .obtain⟨p,hp⟩:=aAP _ h0;obtain⟨d,hd,k⟩:=b5 p (h1 p hp).1 (h1 p hp).2;exact⟨d,hd,(uP hc (b2 d hd) hp k).2⟩
   obtain⟨d,hd,L6⟩:=hcB;obtain⟨i,j,i1,i2,i3,i4⟩:=(rW d h.F).2.2.2 (k d hd);by_cases q:i=g
   .exact⟨j,oO,i2,fun v hv=>i4 v (L6 v hv)⟩
   .exact⟨i,q,oO,fun v hv=>i3 v (L6 v hv)⟩
 obtain⟨k,k1,k2,α',k3,k4⟩:=W8;rcases D3 with⟨q,_⟩|⟨w,k',q1,q2,q3,q4,q5,w2,w3,w6,w7,w8,w9,w10,w11⟩
 .omega
 .have:k'=k:=oO;subst this;have:=Exd.lay hT hD hR k3 k2 w2 w3 w6 w7 w8 w9 w10 w11;rw[k4]at this;exact⟨_,q2,this,q4⟩
theorem Exd.loop:∀(n:Nat) (h:Sh),Exd E h->E.length+1<=n+h.L.length->∃ h',rR ⟨vsF E,E⟩ n h=some (some h')
 |0,h,hx,hl=>by have:=hx.drn.L_le;omega
 |n+1,h,hx,hl=>by
  unfold rR;by_cases dA:h.L.length<(⟨vsF E,E⟩:Gr).es.length
  .rw[aAj dA];obtain⟨h',e,U9,O5⟩:=hx.step hT dA;rw[e,Option.bind_some];exact Exd.loop n h' U9 oO
  .rw[aAa dA];exact⟨h,rfl⟩
theorem Exd.start{s:Int->Int}(hP:PlE E s){h:Sh}(hD:Drn E h){r:List Int}(hF:h.F=[r,r.reverse])(hn:r.Nodup)(hl:3<=r.length)(hed:∀ u v,(u,v)∈prs r->∃ e∈E,prE e=prP u v):Exd E h:=by
 have hon:∀ v,v∈h.on->v∈r:=fun v hv=>by
  obtain⟨u,h1,h2⟩:=(hD.on v).1 hv;have:=(hD.mem v u).2 ⟨aCE h1,by rw[aI];exact h2⟩;rw[hF]at this;rcases jF.1 this with i|i
  .exact(pS i).1
  .exact(pS (x:=u) (y:=v) i).2
 have V3:∀ v,v∈r->v∈h.on:=fun v hv=>hD.ring_on (r:=r) (by rw[hF];simp) hv;have Z7:r.reverse.Nodup:=(aBq r).nodup_iff.2 hn;have hKr:∀ S,St' E h S->Kr E S r:=by
  rintro S ⟨b,hb,rfl⟩;refine⟨hn,hl,hed,fun v hv k=>?_,fun v hv=>hon v (hb.en v hv).1,fun q c d hc hd k=>?_⟩
  .rcases hb.kind with⟨h0,_⟩|⟨_,h1,_⟩
   .have k:v∈b.inner:=k;rw[h0]at k;simp at k
   .exact(h1 v k).2 (V3 v hv)
  .rcases hb.kind with⟨h0,e,he,h1,h2⟩|⟨h0,_⟩
   .obtain⟨n1,n2⟩:=(hD.mem c d).1 (by rw[hF];exact jF.2 (.inl k));refine h1 ?_;have hc:c∈b.ends:=hc;have hd:d∈b.ends:=hd;rw[h2]at hc hd;simp at hc hd;have:prE e=prP c d:=by
     show prP e.a e.b=_;rcases hc with rfl|rfl<;>rcases hd with rfl|rfl
     .exact absurd rfl n1
     .rfl
     .exact aI _ _
     .exact absurd rfl n1
    rw[this];exact n2
   .obtain⟨p,hp⟩:=aAP _ h0;exact q p hp
 have hKq:∀ S,St' E h S->Kq E S r:=fun S k=>⟨E,s,hP,hKr S k,fun e he=>⟨e,he,rfl⟩,fun e he _=>⟨e,he,rfl⟩⟩;by_cases hex:∃ S,St' E h S
 .obtain⟨S0,hS0⟩:=hex;have hE:=(hKr S0 hS0).emb hP;have hthg:∀ S,St' E h S->Thg E S:=fun S ⟨b,hb,e⟩=>by rw[e];exact Af hT hD hb
  have j5:∀ S,∃ c:Nat,St' E h S->c<2/\In' E s (prs r) ([r,r.reverse].getD c []) S:=fun S=>by
   by_cases k:St' E h S
   .obtain⟨q,hq,hi⟩:=hE.in_ex hP (hthg S k) (hKr S k).by';have:q=r\/q=r.reverse:=by simpa using hq
    rcases this with rfl|rfl
    .exact⟨0,fun _=>⟨oO,hi⟩⟩
    .exact⟨1,fun _=>⟨oO,hi⟩⟩
   .exact⟨0,fun q=>absurd q k⟩
  have N5:∀ c:Nat,c<2->[r,r.reverse].getD c []∈[r,r.reverse]:=fun c hc=>by
   match c,hc with
   |0,_=>simp
   |1,_=>simp
  refine⟨hD,hF ▸ Ld hn,fun S=>(j5 S).choose,fun S k=>?_,fun S k v hv=>?_,fun S S' k k' c7 he=>?_,fun S k=>?_⟩
  .rw[hF];exact((j5 S).choose_spec k).1
  .have:=(j5 S).choose_spec k;rw[hF];exact hE.in_on hP (hthg S k) (hKr S k).by' (N5 _ this.1) this.2 hv
  .have i1:=(j5 S).choose_spec k;have i2:=(j5 S').choose_spec k';rw[hF];exact hE.avo hP (hthg S k) (hKr S k).by' (hthg S' k') (hKr S' k').by' (QE k k' c7) (N5 _ i1.1) i1.2 (by rw[he];exact i2.2)
  .have i1:=((j5 S).choose_spec k).1;rw[hF];generalize (j5 S).choose=c at *
   match c,i1 with
   |0,_=>exact⟨r,hKq S k,fun _ _ _ _ _ _=>aEL⟩
   |1,_=>exact⟨r.reverse,(hKq S k).rev.1,fun _ _ _ _ _ _=>aEL⟩
 .exact⟨hD,hF ▸ Ld hn,fun _=>0,fun S k=>absurd ⟨S,k⟩ hex,fun S k=>absurd ⟨S,k⟩ hex,fun S _ k=>absurd ⟨S,k⟩ hex,fun S k=>absurd ⟨S,k⟩ hex⟩
end
section
variable {E:List Ed} (hT:Tc E) {h:Sh} (hD:Drn E h) (hl:E.length<=h.L.length)
include hT hD hl
theorem Jv{r:List Int}(hr:r∈h.F):3<=r.length:=by
 have c7:∀ u v,(u,v)∈prs r->u≠v:=fun u v k=>((hD.mem u v).1 (aX.2 ⟨r,hr,k⟩)).1
 match r,hr,c7 with
 |[],hr,_=>exact absurd rfl (hD.ne _ hr)
 |[a],hr,c7=>exact absurd rfl (c7 a a (by simp[prs,lnk]))
 |[a,b],hr,c7=>
  exfalso;have hp:∀ p,p∈prs [a,b]↔p=(a,b)\/p=(b,a):=fun p=>by simp[prs,lnk]
  have ha:(a,b)∈PF h.F:=aX.2 ⟨_,hr,(hp _).2 (.inl rfl)⟩;have:=hD.con (fun p q=>(p∈prs [a,b]↔q∈prs [a,b])) (fun p q k=>k.symm) (fun p q r k k'=>k.trans k') (fun t ht p hp q hq=>?_) (fun p _=>by rw[hp,hp];obtain⟨u,v⟩:=p;simp only[Prod.swap,aBd];grind)
  .have hall:∀ p∈h.L,p=prP a b:=fun p hpL=>by
    obtain⟨e,he,rfl⟩:=hD.sub p hpL;have x8:=hT.ne e he;have k:=(this _ ha _ ((hD.mem e.a e.b).2 ⟨x8,hpL⟩)).1 ((hp _).2 (.inl rfl));rcases(hp _).1 k with k|k
    .injection k with k1 k2;show prP e.a e.b=_;rw[k1,k2]
    .injection k with k1 k2;show prP e.a e.b=_;rw[k1,k2];exact aI _ _
   have h2:=hT.two;have:=aAy hD.lnd (l₂:=[prP a b]) fun p hpL=>by rw[hall p hpL];simp
   simp at this;omega
  .by_cases c:t=[a,b]
   .subst c;exact⟨fun _=>hq,fun _=>hp⟩
   .exact⟨fun k=>absurd (Ek hD.nd ht hr hp k) c,fun k=>absurd (Ek hD.nd ht hr hq k) c⟩
 |_::_::_::_,_,_=>simp
theorem Ou:E.length+6<=3*(vsF E).length:=by
 have hO:=hD.done hT.ne hT.sim hl;have h1:(PF h.F).length<=2*E.length:=wI hO.nd fun p hp=>(hO.mem p.1 p.2).1 hp;have h2:=hO.cnt;have h3:∀ F:List (List Int),(∀ r∈F,3<=r.length)->3*F.length<=(PF F).length:=fun F=>by
  induction F with
  |nil=>intro _;simp
  |cons r F ih=>
   intro hF;have:=ih fun t ht=>hF t (aAc _ ht);have h4:=hF r aAf;have h5:=oZ r;have h6:(PF (r::F)).length=(prs r).length+(PF F).length:=by simp[PF]
   simp only[List.length_cons];omega
 have:=h3 h.F fun r hr=>Jv hT hD hl hr;omega
end
theorem UB(l:List Int):(nrm l).Perm l:=by unfold nrm rt;exact aBj.trans (by rw[aAz])
theorem I8(l:List Int):nrm (nrm l)=nrm l:=by
 by_cases h:l=[]
 .subst h;rfl
 .obtain⟨r,hr⟩:=IF l h;have hm:mn (nrm l)=mn l:=LL ((UB l).mem_iff.2 (nA h)) fun x hx=>Da ((UB l).mem_iff.1 hx);exact yJ hr hm
theorem Uh{A B:List Int}(hn:(A++B).Nodup){x:Int}(hx:x∈A++B):nx (B++A) x=nx (A++B) x:=by
 by_cases hA:A=[]
 .subst hA;simp
 by_cases hB:B=[]
 .subst hB;simp
 have M3:(B++A).Nodup:=aBj.nodup_iff.1 hn;rcases aAd.1 hx with h|h
 .rw[(yA hn hA hB).1 h,(yA M3 hB hA).2 h]
 .rw[(yA hn hA hB).2 h,(yA M3 hB hA).1 h]
theorem Wx{l:List Int}(hn:l.Nodup){x:Int}(hx:x∈l):nx (nrm l) x=nx l x:=by have e:l.take (l.idxOf (mn l))++l.drop (l.idxOf (mn l))=l:=aAz _ _;have:=Uh (A:=l.take (l.idxOf (mn l))) (B:=l.drop (l.idxOf (mn l))) (by rw[e];exact hn) (x:=x) (by rw[e];exact hx);rw[e]at this;exact this
theorem Oi{g:Gr}(hg:GoodE g):((fT g.es).flatten).Nodup/\∀ i,i∈(fT g.es).flatten↔i<g.es.length:=by
 have U6:∀ B∈fT g.es,dS g.es B:=fun B hB=>lV hg hB;constructor
 .have:=lP (f:=fun B:List Nat=>B) (MJ g.es) (fun B hB=>(U6 B hB).rise.imp fun k=>aCf k) fun B hB B' hB' i h1 h2=>(U6 B hB).eq (g:=g) (U6 B' hB') h1 h2
  rwa [List.flatMap_def,List.map_id']at this
 .intro i;rw[aAT];constructor
  .rintro⟨B,hB,hi⟩;exact(U6 B hB).lt i hi
  .intro hi;obtain⟨s,_,_,h2,_,h3⟩:=sN hg;obtain⟨B,hB,hiB⟩:=aAT.1 ((h2 i).2 hi);have Y0:=h3 B hB;have hh:=head_mem Y0.ne;refine⟨B,?_,hiB⟩;unfold fT;rw[Y0.cls hh];refine aAi.2 ⟨B.headD 0,?_,rfl⟩;rw[aAB,aBi,aAR,<- Y0.cls hh];exact⟨Y0.lt _ hh,rfl⟩
theorem gJ{g:Gr}(hg:GoodE g):((aQ g).flatten).Perm (sE g.es):=by
 have Z4:=hg.simple;obtain⟨h1,h2⟩:=Oi Z4;have hp:(fT (sE g.es)).flatten.Perm (List.range (sE g.es).length):=(aAZ h1 aDG).2 fun i=>by rw[h2,aBi]
 have e:(aQ g).flatten=(fT (sE g.es)).flatten.map (eAt (sE g.es)):=by unfold aQ;rw[aDJ]
 have e2:(List.range (sE g.es).length).map (eAt (sE g.es))=sE g.es:=by refine aDY sS fun i h1 h2=>?_;simp only[aCy,List.getElem_range];exact eJ _ _ h2
 rw[e]
 conv=>rhs;rw[<- e2]
 exact hp.map _
theorem Xh{g:Gr}(hg:GoodE g)(hv:∀ v∈g.vs,0<=v/\v<4194304){Bs:BsT}(hb:Bs.map (·.1)=aQ g)(hd:∀ p∈Bs,jQ p.1 p.2):Sys g Bs:=by
 have j5:∀ p∈Bs,p.1∈aQ g:=fun p hp=>by rw[<- hb];exact aAt (f:=(·.1)) hp
 have hfl:(Bs.flatMap (·.1)).Perm (sE g.es):=by rw[List.flatMap_def,hb];exact gJ hg
 refine⟨hg,fun p hp=>⟨hd p hp,⟨(nC hg (j5 p hp)).1.ne,?_,fun v h=>?_⟩,?_⟩,hfl⟩
 .have h1:=(hfl.map prE).nodup_iff.2 (pY g.es);rw[aEd]at h1;have:∀ {l:BsT},(l.flatMap fun p=>p.1.map prE).Nodup->∀ p∈l,(p.1.map prE).Nodup:=by
   intro l;induction l with
   |nil=>intro _ p h;cases h
   |cons a l ih=>
    intro hn p h;rw[aAH,aAo]at hn;rcases aAe.1 h with rfl|h
    .exact hn.1
    .exact ih hn.2.1 p h
  exact this h1 p hp
 .obtain⟨e,he,k⟩:=(bA v _).1 h;have:=hg.ends e ((nC hg (j5 p hp)).2 e he);rcases k with rfl|rfl
  .exact hv _ this.1
  .exact hv _ this.2
 .have:=j5 p hp;unfold aQ at this;obtain⟨B,hB,e⟩:=aAi.1 this;rw[<- e];intro h0;exact(lV hg.simple hB).ne (aCN.1 h0)
abbrev Cx(g:Gr)(Bs:BsT):Mp:=⟨g,g.vs.map fun v=>nrm (kJ g Bs v)⟩
theorem RK(A B:List (List Int)):gC (A++B)=gC A+gC B:=by unfold gC;rw[aCR,aAn]
theorem MZ(Bs:BsT)(f:List Ed×List (List Int)->Int->List Int)(hz:∀ p∈Bs,∀ v,v∉vsF p.1->f p v=[]):∀ vs:List Int,vs.Nodup->gC ((vs.map fun v=>Bs.map fun p=>f p v).flatten)<=(Bs.map fun p=>(vs.filter fun v=>decide (v∈vsF p.1)).length).sum
 |[],_=>by simp[gC]
 |v::vs,hn=>by
  have ih:=MZ Bs f hz vs (aAq.1 hn).2;rw[aAm,List.flatten_cons,RK];have key:∀ l:BsT,(∀ p∈l,p∈Bs)->gC (l.map fun p=>f p v)+(l.map fun p=>(vs.filter fun v=>decide (v∈vsF p.1)).length).sum<=(l.map fun p=>((v::vs).filter fun v=>decide (v∈vsF p.1)).length).sum:=by
   intro l;induction l with
   |nil=>intro _;simp[gC]
   |cons p l ihl=>
    intro hl;have i1:=ihl fun q hq=>hl q (aAc _ hq);have e:gC ((p::l).map fun p=>f p v)=(if f p v≠[]then 1 else 0)+gC (l.map fun p=>f p v):=by
     unfold gC;rw[aAm,aDH];by_cases h:f p v=[]
     .simp[h]
     .simp[h];omega
    rw[e];simp only[aAm,List.sum_cons];by_cases h:v∈vsF p.1
    .have e2:((v::vs).filter fun v=>decide (v∈vsF p.1)).length=(vs.filter fun v=>decide (v∈vsF p.1)).length+1:=by simp[h]
     rw[e2]
     split<;>omega
    .have e2:((v::vs).filter fun v=>decide (v∈vsF p.1)).length=(vs.filter fun v=>decide (v∈vsF p.1)).length:=by simp[h]
     rw[e2,aAa (by simp[hz p (hl p aAf) v h])];omega
  have:=key Bs fun _ h=>h;omega
section
variable {g:Gr} {Bs:BsT} (hS:Sys g Bs)
include hS
theorem Sys.map_ok:bL (Cx g Bs):=by
 refine⟨hS.gE,sS,fun k hk=>?_⟩;have P0:k<(g.vs.map fun v=>nrm (kJ g Bs v)).length:=by simpa using hk
 have e:(Cx g Bs).rots.getD k []=nrm (kJ g Bs (g.vs.getD k 0)):=by show(g.vs.map fun v=>nrm (kJ g Bs v)).getD k []=_;rw[iN _ _ P0,aCy,aW _ _ hk]
 rw[e];exact⟨(UB _).trans (hS.turn_perm _),I8 _⟩
theorem Sys.sg_eq(d:Int):sg (Cx g Bs) d=sgR ((grp g Bs).map List.flatten) d:=by
 have hm:=hS.map_ok;have hn:((grp g Bs).map List.flatten).flatten.Nodup:=by rw[lZ];exact hS.grp_nd
 by_cases hd:d∈aL g.es
 .obtain⟨t,ht,hdt⟩:=hm.turn_of hd;rw[BQ hm ht hdt];obtain⟨v,hv,rfl⟩:=aAi.1 ht;have hdv:d∈kJ g Bs v:=(UB _).mem_iff.1 hdt;rw[Wx (hS.turn_nodup v) hdv,gA hn (t:=kJ g Bs v) (by rw[HS];exact aAt hv) hdv]
 .rw[hm.sg_id hd,mR];rw[lZ];exact fun h=>hd (hS.grp_mem.1 h)
theorem Sys.plane(hb:Bs.map (·.1)=aQ g):gn (Cx g Bs)=0:=by
 have hg:=hS.gE;have hm:=hS.map_ok;have h1:=hm.gn;have h2:=hS.faces;have hn:((grp g Bs).map List.flatten).flatten.Nodup:=by rw[lZ];exact hS.grp_nd
 have h3:=Qq (al:=al g.es) (D:=aL g.es) ⟨WV g.es,fun d hd=>(Ea _ _ _).2 hd⟩ (fun d hd=>uI hd) (grp g Bs) (Rs:=[]) (by rw[aAS];exact hS.grp_nd) (fun d hd=>hS.grp_mem.1 (by rwa [aAS]at hd));rw[aAS,aAS]at h3;have h4:ncl (Orb (fc (Cx g Bs) g.es)) (aL g.es)=fcs (al g.es) (aL g.es) ((grp g Bs).map List.flatten):=by
  unfold fcs;have:fc (Cx g Bs) g.es=fun d=>sgR ((grp g Bs).map List.flatten) (al g.es d):=by
   funext d;unfold fc;exact hS.sg_eq _
  rw[this]
 have h5:gC ((grp g Bs).map List.flatten)+alone g=g.vs.length:=by
  have k1:=hm.ncl_sg;have k2:=My hn;have hp:(aL g.es).Perm ((grp g Bs).map List.flatten).flatten:=(aAZ (gD (lY hg.ids)) hn).2 fun d=>by rw[lZ];exact hS.grp_mem.symm
  have e:sg (Cx g Bs)=sgR ((grp g Bs).map List.flatten):=funext hS.sg_eq;rw[e]at k1;have k3:ncl (Orb (sgR ((grp g Bs).map List.flatten))) (aL g.es)=gC ((grp g Bs).map List.flatten):=by rw[nM (lA hn).per.eqv hp];exact k2
  have k4:ncl (Orb (sgR ((grp g Bs).map List.flatten))) (aL g.es)+alone g=g.vs.length:=k1;rw[k3]at k4;exact k4
 have h6:gC (grp g Bs).flatten<=((aQ g).map fun l=>(vsF l).length).sum:=by
  refine aBa (MZ Bs (fun p v=>bt g p.2 v) (fun p hp v hv=>?_) g.vs hg.toGood.nodup) ?_
  .obtain⟨hO,hE,_⟩:=hS.ok p hp;show bt g p.2 v=[];unfold bt;rw[oP hO hE hv,nU];rfl
  .rw[<- hb,aAW];have:∀ l:BsT,(l.map fun p=>(g.vs.filter fun v=>decide (v∈vsF p.1)).length).sum<=(l.map ((fun l=>(vsF l).length)∘fun p=>p.1)).sum:=by
    intro l;induction l with
    |nil=>simp
    |cons p l ih=>
     rw[aAm,aAm,List.sum_cons,List.sum_cons];have:(g.vs.filter fun v=>decide (v∈vsF p.1)).length<=(vsF p.1).length:=by refine aAy (hg.toGood.nodup.sublist aBo) fun v hv=>?_;rw[aAB,aAR]at hv;exact hv.2
     simp only[Function.comp_apply];omega
   exact this Bs
 have h7:=DB hg;have h8:(Bs.flatMap (·.2)).length+((aQ g).map fun l=>(vsF l).length).sum=(sE g.es).length+2*(aQ g).length:=by
  rw[<- (gJ hg).length_eq,<- hb];have:∀ l:BsT,(∀ p∈l,p∈Bs)->(l.flatMap (·.2)).length+((l.map (·.1)).map fun l=>(vsF l).length).sum=(l.map (·.1)).flatten.length+2*(l.map (·.1)).length:=by
   intro l;induction l with
   |nil=>intro _;rfl
   |cons p l ih=>intro hl;have i1:=ih fun q hq=>hl q (aAc _ hq);have i2:=(hS.ok p (hl p aAf)).1.cnt;simp only[aAH,aAm,List.sum_cons,List.flatten_cons,aAn,List.length_cons]at i1 ⊢;omega
  exact this Bs fun _ h=>h
 have h9:(sE g.es).length<=g.es.length:=oV g.es;have e1:(Cx g Bs).g=g:=rfl;rw[e1,h4]at h1;omega
end
noncomputable def GY(m:Mp):Int:=if xR m≠0 then xR m else if gn m≠0 then 23 else 0
end Aw
end Go.Proofs.YtbgngpdonpeboaaGreatDoor
