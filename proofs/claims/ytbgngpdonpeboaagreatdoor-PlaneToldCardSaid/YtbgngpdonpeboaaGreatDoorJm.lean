/- Plain: the first ring is found; bridges are what they are to be. -/
import Derived.Test.YtbgngpdonpeboaaGreatDoorJl
import Derived.Test.YtbgngpdonpeboaaGreatDoorAwFn
set_option linter.unusedVariables false
set_option linter.unusedSimpArgs false
set_option linter.unusedSectionVars false
set_option maxHeartbeats 1000000
open Go.Proofs.Tryz
namespace Go.Proofs.YtbgngpdonpeboaaGreatDoor
namespace Aw
open Go Go.RowKit Pl Eu
structure Tc(E:List Ed):Prop where
 ids:E.Pairwise fun x y=>x.id<y.id
 ne:∀ e∈E,e.a≠e.b
 sim:(E.map prE).Nodup
 con:∀ w p q,p∈vsF E->q∈vsF E->p≠w->q≠w->RIn E (·≠w) p q
 two:2<=E.length
 few:(vsF E).length<=64/\E.length<=200
theorem kK{es:List Ed}{v w:Int}:w∈cS es v↔∃ e∈es,prE e=prP v w:=by
 rw[Mk];constructor
 .rintro⟨x,hx,⟨h1,h2⟩|⟨h1,h2⟩⟩
  .exact⟨x,hx,by show prP _ _=_;rw[h1,h2]⟩
  .exact⟨x,hx,by show prP _ _=_;rw[h1,h2];exact aL _ _⟩
 .rintro⟨x,hx,h⟩;rcases bK h with⟨h1,h2⟩|⟨h1,h2⟩
  .exact⟨x,hx,.inl ⟨h1,h2⟩⟩
  .exact⟨x,hx,.inr ⟨h1,h2⟩⟩
theorem jZ{es:List Ed}{v w:Int}:w∈nbr es v↔∃ e∈es,prE e=prP v w:=by
 rw[dB];constructor
 .rintro⟨x,hx,⟨h1,h2⟩|⟨h1,h2⟩⟩
  .exact⟨x,hx,by show prP _ _=_;rw[h1,h2]⟩
  .exact⟨x,hx,by show prP _ _=_;rw[h1,h2];exact aL _ _⟩
 .rintro⟨x,hx,h⟩;rcases bK h with⟨h1,h2⟩|⟨h1,h2⟩
  .exact⟨x,hx,.inl ⟨h1,h2⟩⟩
  .exact⟨x,hx,.inr ⟨h2,h1⟩⟩
theorem map_inj{α β:Type}{F:α->β}:∀ {l:List α},(l.map F).Nodup->∀ {e f:α},e∈l->f∈l->F e=F f->e=f
 |a::l,h0,e,f,he,hf,h=>by
  rw[aAn,aAq]at h0;rcases aAe.1 he with a1|a1
  .rcases aAe.1 hf with b1|b1
   .rw[a1,b1]
   .exact absurd (by rw[<- a1,h];exact aAw b1) h0.1
  .rcases aAe.1 hf with b1|b1
   .exact absurd (by rw[<- b1,<- h];exact aAw a1) h0.1
   .exact map_inj h0.2 a1 b1 h
section
variable {E:List Ed} (hT:Tc E)
include hT
theorem Tc.sim_eq{e f:Ed}(he:e∈E)(hf:f∈E)(h:prE e=prE f):e=f:=map_inj hT.sim he hf h
theorem Tc.start{x:Ed}{R:List Ed}(hE:E=x::R):∃ h,newF ⟨vsF E,E⟩=some h/\Drn E h/\∃ ring,h.F=[ring,ring.reverse]/\ring.Nodup/\3<=ring.length/\∀ u v,(u,v)∈prs ring->∃ e∈E,prE e=prP u v:=by
 have hx:x∈E:=by rw[hE];exact aAf
 have x7:=hT.ne x hx;have va:x.a∈vsF E:=(bG _ _).2 ⟨x,hx,.inl rfl⟩;have vb:x.b∈vsF E:=(bG _ _).2 ⟨x,hx,.inr rfl⟩;have Z8:∀ v,∀ w∈cS (E.filter fun y=>decide (y≠x)) v,w∈vsF E:=fun v w hw=>by obtain⟨e,he,hp⟩:=kK.1 hw;exact(gN (aAC.1 he).1 hp).2
 obtain⟨c,hc,hca,hcb⟩:∃ c∈vsF E,c≠x.a/\c≠x.b:=by
  have h2:=hT.two;obtain⟨y,R',hR⟩:∃ y R',R=y::R':=by
   cases R with
   |nil=>rw[hE]at h2;simp at h2
   |cons y R'=>exact⟨y,R',rfl⟩
  have hy:y∈E:=by rw[hE,hR];simp
  have M3:y≠x:=fun e=>by have:=hT.ids;rw[hE,hR]at this;have:=(aBl.1 this).1 y sS;rw[e]at this;omega
  have hyn:=hT.ne y hy;refine aAI fun x9=>M3 (hT.sim_eq hy hx ?_);have ya:y.a=x.a\/y.a=x.b:=aAI fun k=>x9 ⟨y.a,(bG _ _).2 ⟨y,hy,.inl rfl⟩,fun e=>k (.inl e),fun e=>k (.inr e)⟩;have yb:y.b=x.a\/y.b=x.b:=aAI fun k=>x9 ⟨y.b,(bG _ _).2 ⟨y,hy,.inr rfl⟩,fun e=>k (.inl e),fun e=>k (.inr e)⟩;show prP _ _=prP _ _;rcases ya with a1|a1<;>rcases yb with b1|b1
  .omega
  .rw[a1,b1]
  .rw[a1,b1];exact aL _ _
  .omega
 have along:∀ S:Int->Prop,VZ (cS (E.filter fun y=>decide (y≠x))) (fun _=>true) x.a S->∀ w,(w=x.a\/w=x.b)->∀ p q,RIn E (·≠w) p q->S p->S q:=by
  intro S hS w hw p q h hp;induction h with
  |refl=>exact hp
  |@step y z h hz hs ih=>
   obtain⟨e,he,N9⟩:=jZ.1 hz;have hy:=h.here.2;have hex:e≠x:=fun ex=>by
    rw[ex]at N9;rcases bK N9 with⟨k1,k2⟩|⟨k1,k2⟩
    .rcases hw with e1|e1
     .exact hy (by rw[e1,k1])
     .exact hs (by rw[e1,k2])
    .rcases hw with e1|e1
     .exact hs (by rw[e1,k1])
     .exact hy (by rw[e1,k2])
   exact hS.2 y ih (.inr rfl) z (kK.2 ⟨e,aAC.2 ⟨he,aBs hex⟩,N9⟩)
 obtain⟨w,h1,h2,h3,h4,h5,h6,h7,h8,h9⟩:=LI (may:=fun _=>true) Z8 va vb x7 (n:=1000) (by have:=hT.few.1;omega) fun S hS=>along S hS x.a (.inl rfl) c x.b (hT.con _ _ _ hc vb hca (fun e=>x7 e.symm)) (along S hS x.b (.inr rfl) x.a c (hT.con _ _ _ va hc x7 hcb) hS.1);have hs:=mF h3;rw[h6,h7]at hs;have x9:∀ e∈E.filter fun y=>decide (y≠x),prE e≠prP x.a x.b:=fun e he k=>by rw[aAC,aAT]at he;exact he.2 (hT.sim_eq he.1 hx k)
 cases hM:dA w with
 |nil=>rw[hM,List.nil_append]at hs;obtain⟨e,he,k⟩:=kK.1 (h8 x.a x.b (by rw[hs];simp[lnk]));exact absurd k (x9 e he)
 |cons m M=>
  rw[hM]at hs;refine⟨⟨jV (jV [] w) [x.a,x.b],w++[x.a,x.b],[w,w.reverse]⟩,?_,Drn.start hx hs h2 fun u v huv=>?_,w,rfl,h2,by rw[hs];simp,fun u v huv=>?_⟩
  .have hh:newF ⟨vsF E,E⟩=(tM (vsF E) (cS (E.filter fun y=>decide (y≠x))) (fun _=>true) x.a x.b 1000).bind fun ring=>
    if ring.length<=200/\∀ v∈ring,v∈vsF E then some ⟨jV (jV [] ring) [x.a,x.b],ring++[x.a,x.b],[ring,ring.reverse]⟩else none:=by
    unfold newF;rw[hE]
   rw[hh,h1,Option.bind_some,aAk ⟨by have:=hT.few.1;omega,h5⟩]
  .obtain⟨e,he,k⟩:=kK.1 (h8 u v huv);exact⟨e,(aAC.1 he).1,k⟩
  .have pr:=BH x.a x.b (m::M);rw[<- hs]at pr;rw[pr,aAd,aAi]at huv;rcases huv with huv|huv
   .obtain⟨e,he,k⟩:=kK.1 (h8 u v huv);exact⟨e,(aAC.1 he).1,k⟩
   .injection huv with k1 k2;exact⟨x,hx,by rw[k1,k2];exact aL _ _⟩
end
theorem fK{A B:List Int}{v:Int}:v∈off A B↔v∈A/\v∉B:=by unfold off;simp
theorem FL{A B:List Int}{v:Int}:v∈on' A B↔v∈A/\v∈B:=by unfold on';simp
theorem lO{vs A:List Int}{v:Int}:v∈nrS vs A↔v∈vs/\v∈A:=by unfold nrS;simp
theorem Dy{g:Gr}{A:List Int}{v:Int}:v∈arn g A↔∃ u∈A,v∈nbr g.es u:=by unfold arn;rw[aBk]
structure Brd(E:List Ed)(L:List (Int×Int))(on:List Int)(b:Brg):Prop where
 en:∀ v∈b.ends,v∈on/\v∈vsF E
 kind:(b.inner=[]/\∃ e∈E,prE e∉L/\b.ends=[e.a,e.b])\/
  (b.inner≠[]/\(∀ v∈b.inner,v∈vsF E/\v∉on)/\(∀ p∈b.inner,∀ q∈b.inner,RIn E (·∈b.inner) p q)/\(∀ p∈b.inner,∀ q∈nbr E p,q∈b.inner\/q∈b.ends)/\∀ q∈b.ends,∃ p∈b.inner,q∈nbr E p)
section
variable {E:List Ed} {on:List Int}
theorem Vb{p q:Int}(h:q∈nbr E p):q∈vsF E:=by obtain⟨e,he,k⟩:=jZ.1 h;exact(gN he k).2
theorem LS(v:Int)(hv:v∈vsF E)(hvo:v∉on)(L:List (Int×Int)):∀(n:Nat) (I:List Int),I.Nodup->v∈I->(∀ p∈I,p∈vsF E/\p∉on)->(∀ p∈I,RIn E (·∈I) v p)->(vsF E).length+1<=n+I.length->
 ∃ b,xC ⟨vsF E,E⟩ on n I=some b/\Brd E L on b/\v∈b.inner
 |0,I,hn,_,hI,_,hl=>by have:=aAy hn fun p hp=>(hI p hp).1;omega
 |n+1,I,hn,hvI,hI,hc,hl=>by
  unfold xC
  split
  .rename_i u6;refine⟨_,rfl,⟨fun q hq=>?_,.inr ⟨aBB hvI,hI,fun p hp q hq=>(hc p hp).symm.trans (hc q hq),fun p hp q hq=>?_,fun q hq=>?_⟩⟩,hvI⟩
   .have h:=FL.1 hq;exact⟨h.2,(lO.1 h.1).1⟩
   .have hqv:=Vb hq;have hqa:q∈nrS (vsF E) (arn ⟨vsF E,E⟩ I):=lO.2 ⟨hqv,Dy.2 ⟨p,hp,hq⟩⟩;by_cases h1:q∈on
    .exact .inr (FL.2 ⟨hqa,h1⟩)
    .by_cases h2:q∈I
     .exact .inl h2
     .have:q∈off (off (nrS (vsF E) (arn ⟨vsF E,E⟩ I)) on) I:=fK.2 ⟨fK.2 ⟨hqa,h1⟩,h2⟩;rw[u6]at this;cases this
   .have h:=FL.1 hq;obtain⟨p,hp,k⟩:=Dy.1 (lO.1 h.1).2;exact⟨p,hp,k⟩
  .rename_i u6;obtain⟨u,hu⟩:=aAS _ u6;have hu1:=fK.1 hu;have hvsn:(vsF E).Nodup:=(mC E).imp fun k=>by omega
   have mem':∀ q,q∈nrS (vsF E) (I++off (nrS (vsF E) (arn ⟨vsF E,E⟩ I)) on)↔q∈vsF E/\(q∈I\/(q∈arn ⟨vsF E,E⟩ I/\q∉on)):=fun q=>by
    rw[lO,aAd,fK,lO];constructor
    .rintro⟨h1,h2|h2⟩
     .exact⟨h1,.inl h2⟩
     .exact⟨h1,.inr ⟨h2.1.2,h2.2⟩⟩
    .rintro⟨h1,h2|h2⟩
     .exact⟨h1,.inl h2⟩
     .exact⟨h1,.inr ⟨⟨h1,h2.1⟩,h2.2⟩⟩
   have D5:∀ q∈I,q∈nrS (vsF E) (I++off (nrS (vsF E) (arn ⟨vsF E,E⟩ I)) on):=fun q hq=>(mem' q).2 ⟨(hI q hq).1,.inl hq⟩;have F4:(nrS (vsF E) (I++off (nrS (vsF E) (arn ⟨vsF E,E⟩ I)) on)).Nodup:=hvsn.sublist aBF;refine LS v hv hvo L n _ F4 (D5 v hvI) (fun p hp=>?_) (fun p hp=>?_) ?_
   .obtain⟨h1,h2⟩:=(mem' p).1 hp;exact⟨h1,h2.elim (fun k=>(hI p k).2) And.right⟩
   .have mono:∀ z,RIn E (·∈I) v z->RIn E (·∈nrS (vsF E) (I++off (nrS (vsF E) (arn ⟨vsF E,E⟩ I)) on)) v z:=fun z h=>h.mono D5;obtain⟨h1,h2⟩:=(mem' p).1 hp;rcases h2 with h2|h2
    .exact mono _ (hc p h2)
    .obtain⟨q,hq,k⟩:=Dy.1 h2.1;exact .step (mono _ (hc q hq)) k hp
   .have hul:u∈nrS (vsF E) (I++off (nrS (vsF E) (arn ⟨vsF E,E⟩ I)) on):=(mem' u).2 ⟨(lO.1 (fK.1 hu1.1).1).1,.inr ⟨(lO.1 (fK.1 hu1.1).1).2,(fK.1 hu1.1).2⟩⟩;have:=aAy (aAq.2 ⟨hu1.2,hn⟩) (l₂:=nrS (vsF E) (I++off (nrS (vsF E) (arn ⟨vsF E,E⟩ I)) on)) fun q hq=>by
     rcases aAe.1 hq with rfl|hq
     .exact hul
     .exact D5 q hq
    rw[List.length_cons]at this;show(vsF E).length+1<=n+(nrS (vsF E) (I++off (nrS (vsF E) (arn ⟨vsF E,E⟩ I)) on)).length;omega
theorem Kh(L:List (Int×Int)):∀(n:Nat) (R:List Int),(∀ v∈R,v∈vsF E/\v∉on)->R.length<=n->∃ l,sA ⟨vsF E,E⟩ on n R=some l/\(∀ b∈l,Brd E L on b)/\l.length<=R.length/\∀ v∈R,∃ b∈l,v∈b.inner
 |n,[],_,_=>⟨[],by cases n<;>rfl,sS,sS,sS⟩
 |0,v::R,_,h=>by simp at h
 |n+1,v::R,hR,h=>by
  obtain⟨hv,hvo⟩:=hR v aAf;obtain⟨b,h1,h2,h3⟩:=LS (E:=E) v hv hvo L ((vsF E).length+1) [v] sS sS (fun p hp=>by rw[aAi.1 hp];exact⟨hv,hvo⟩) (fun p hp=>by rw[aAi.1 hp];exact .refl sS) sS;have dQ:(off (v::R) b.inner).length<=R.length:=by unfold off;rw[aDR,aAa (sF1 h3)];exact aBf _ _
  obtain⟨l,k1,k2,k3,k4⟩:=Kh L n (off (v::R) b.inner) (fun p hp=>hR p (fK.1 hp).1) (by rw[List.length_cons]at h;omega);have e:sA ⟨vsF E,E⟩ on (n+1) (v::R)=(xC ⟨vsF E,E⟩ on ((vsF E).length+1) [v]).bind fun b=>(sA ⟨vsF E,E⟩ on n (off (v::R) b.inner)).map (b::·):=rfl;refine⟨b::l,by rw[e,h1,Option.bind_some,k1];rfl,fun c hc=>?_,by rw[List.length_cons,List.length_cons];omega,fun u hu=>?_⟩
  .rcases aAe.1 hc with rfl|hc
   .exact h2
   .exact k2 c hc
  .by_cases q:u∈b.inner
   .exact⟨b,aAf,q⟩
   .obtain⟨c,hc,i⟩:=k4 u (fK.2 ⟨hu,q⟩);exact⟨c,aAc _ hc,i⟩
theorem Ui(L:List (Int×Int)):∃ B,Nh ⟨vsF E,E⟩ L on=some B/\(∀ b∈B,Brd E L on b)/\B.length<=E.length+(vsF E).length/\(∀ e∈E,prE e∉L->e.a∈on->e.b∈on->⟨[],[e.a,e.b]⟩∈B)/\∀ v∈vsF E,v∉on->∃ b∈B,v∈b.inner:=by
 have hlen:(off (vsF E) on).length<=(vsF E).length:=aBf _ _;obtain⟨l,h1,h2,h3,h4⟩:=Kh (E:=E) (on:=on) L ((vsF E).length+1) (off (vsF E) on) (fun v hv=>fK.1 hv) oO;refine⟨oF ⟨vsF E,E⟩ L on E++l,?_,fun b hb=>?_,?_,fun e he h1 h2 h3=>?_,fun v hv hvo=>?_⟩
 .unfold Nh;show(sA ⟨vsF E,E⟩ on ((vsF E).length+1) (off (vsF E) on)).map _=_;rw[h1];rfl
 .rcases aAd.1 hb with hb|hb
  .unfold oF at hb;obtain⟨e,he,rfl⟩:=aAj.1 hb;rw[aAC]at he;simp only[aAQ,aBr]at he;refine⟨fun v hv=>?_,.inl ⟨rfl,e,he.1,he.2.1.1,rfl⟩⟩;rcases aAe.1 hv with rfl|hv
   .exact⟨he.2.1.2,(bG _ _).2 ⟨e,he.1,.inl rfl⟩⟩
   .rw[aAi.1 hv];exact⟨he.2.2,(bG _ _).2 ⟨e,he.1,.inr rfl⟩⟩
  .exact h2 b hb
 .have:(oF ⟨vsF E,E⟩ L on E).length<=E.length:=by unfold oF;rw[aAD];exact aBf _ _
  rw[aAm];omega
 .refine aAr _ (aAj.2 ⟨e,aAC.2 ⟨he,?_⟩,rfl⟩);simp only[aAQ,aBr];exact⟨⟨h1,h2⟩,h3⟩
 .obtain⟨b,hb,k⟩:=h4 v (fK.2 ⟨hv,hvo⟩);exact⟨b,aAx _ hb,k⟩
end
theorem QL{vs S:List Int}(h:∃ v∈vs,v∈S):fst' vs S<vs.length/\vs.getD (fst' vs S) 0∈S:=by obtain⟨v,h1,h2⟩:=h;have hl:fst' vs S<vs.length:=List.findIdx_lt_length_of_exists ⟨v,h1,by simpa using h2⟩;refine⟨hl,?_⟩;have:=aEm (w:=hl);rw[aAg,aAh hl];exact aCc this
theorem Rl(b:Brg)(F:List (List Int)):(bZ b F.zipIdx).1<0\/∃ k:Nat,(bZ b F.zipIdx).1=k/\k<F.length/\∀ v∈b.ends,v∈F.getD k []:=by
 have key:∀(l:List (List Int×Nat)) (p:Int×Int),(∀ q∈l,q.2<F.length/\F.getD q.2 []=q.1)->(p.1<0\/∃ k:Nat,p.1=k/\k<F.length/\∀ v∈b.ends,v∈F.getD k [])->
  ((l.foldl (mS b) p).1<0\/∃ k:Nat,(l.foldl (mS b) p).1=k/\k<F.length/\∀ v∈b.ends,v∈F.getD k []):=by
  intro l;induction l with
  |nil=>intro p _ h;exact h
  |cons q l ih=>
   intro p hl hp;rw[List.foldl_cons];refine ih _ (fun r hr=>hl r (aAc _ hr)) ?_;obtain⟨q1,q2⟩:=hl q aAf;unfold mS;by_cases e:off b.ends q.1=[]
   .rw[aAk e];by_cases e2:p.2=0
    .rw[aAk e2];refine .inr ⟨q.2,rfl,q1,fun v hv=>?_⟩;rw[q2];refine aAI fun x9=>?_;have:v∈off b.ends q.1:=fK.2 ⟨hv,x9⟩;rw[e]at this;cases this
    .rw[aAa e2];exact hp
   .rw[aAa e];exact hp
 refine key F.zipIdx (-1,0) (fun q hq=>?_) (.inl sS);obtain⟨r,k⟩:=q;have:=List.mem_zipIdx hq;simp only[aBE,aBv,Nat.sub_zero,true_and]at this;refine⟨this.1,?_⟩;rw[aAg,aAh this.1];exact this.2.symm
section
variable {E:List Ed} (hT:Tc E)
include hT
def Chn(E:List Ed)(h:Sh)(r:Brg×Int):Prop:=(∀ v∈r.1.ends,v∈vsF E)/\(r.2<0\/Brd E h.L h.on r.1/\∃ k:Nat,r.2=k/\k<h.F.length/\∀ v∈r.1.ends,v∈h.F.getD k [])
omit hT in
theorem DE{h:Sh}:∀(B:List Brg) (E8:Brg×Int),(∀ b∈B,Brd E h.L h.on b)->Chn E h E8->Chn E h (bJ h.F B E8)
 |[],E8,_,hb=>hb
 |b::B,E8,hB,hb=>by
  have h1:=hB b aAf;have hg:Chn E h (b,(bZ b h.F.zipIdx).1):=⟨fun v hv=>(h1.en v hv).2,(Rl b h.F).imp id fun k=>⟨h1,k⟩⟩;unfold bJ
  split
  .exact hg
  .refine DE B _ (fun c hc=>hB c (aAc _ hc)) ?_
   split
   .exact hg
   .exact hb
omit hT in
theorem Drn.two{h:Sh}(hD:Drn E h)(Zy:∀ e∈E,e.a≠e.b):∃ u v,u∈h.on/\v∈h.on/\u≠v:=by
 cases hL:h.L with
 |nil=>
  have hon:∀ v,v∉h.on:=fun v hv=>by obtain⟨u,_,k⟩:=(hD.on v).1 hv;rw[hL]at k;cases k
  have h1:=hD.cnt;rw[hL,aDm.2 fun v _=>by simpa using hon v]at h1;cases hF:h.F with
  |nil=>rw[hF]at h1;simp at h1
  |cons r F=>
   have hr:r∈h.F:=by rw[hF];exact aAf
   obtain⟨v,hv⟩:=aAS _ (hD.ne r hr);exact absurd (hD.ring_on hr hv) (hon v)
 |cons p L=>
  obtain⟨e,he,rfl⟩:=hD.sub p (by rw[hL];exact aAf);have hp:prE e∈h.L:=by rw[hL];exact aAf
  have:=Zy e he;exact⟨e.a,e.b,(hD.on _).2 ⟨e.b,fun k=>this k.symm,by rw[aL];exact hp⟩,(hD.on _).2 ⟨e.a,this,hp⟩,this⟩
omit hT in
theorem Drn.link_on{h:Sh}(hD:Drn E h){x y:Int}(D4:x≠y)(hm:prP x y∈h.L):x∈h.on/\y∈h.on:=
 ⟨(hD.on x).2 ⟨y,fun e=>D4 e.symm,by rw[aL];exact hm⟩,(hD.on y).2 ⟨x,D4,hm⟩⟩
theorem Gx{h:Sh}(hD:Drn E h){b:Brg}(hb:Brd E h.L h.on b):∃ u v,u∈b.ends/\v∈b.ends/\u≠v:=by
 rcases hb.kind with⟨_,e,he,_,k⟩|⟨h0,h1,h2,h3,h4⟩
 .exact⟨e.a,e.b,by rw[k];simp,by rw[k];simp,hT.ne e he⟩
 refine aAI fun x9=>?_;obtain⟨u,v,hu,hv,huv⟩:=hD.two hT.ne;obtain⟨p,hp⟩:=aAS _ h0;obtain⟨c,hc⟩:∃ c,∀ z∈b.ends,z=c:=by
  cases hE:b.ends with
  |nil=>exact⟨0,sS⟩
  |cons c R=>exact⟨c,fun z hz=>aAI fun k=>x9 ⟨z,c,by rw[hE];exact hz,by rw[hE];exact aAf,k⟩⟩
 have key:∀ t,t∈h.on->t≠c->p≠c->False:=fun t ht htc hpc=>by have hr:=hT.con c p t (h1 p hp).1 (hD.on_vs ht) hpc htc;have:=hr.closed (L:=fun z=>z∈b.inner) hp fun z hz w hw hwc=>(h3 z hz w hw).resolve_right fun k=>hwc (hc w k);exact(h1 t this).2 ht
 by_cases hpc:p=c
 ·
  have hno2:∀ z∈b.ends,False:=fun z hz=>by have:=(hb.en z hz).1;rw[hc z hz,<- hpc]at this;exact(h1 p hp).2 this
  have hr:=hT.con (max p u+1) p u (h1 p hp).1 (hD.on_vs hu) oO oO;have:=hr.closed (L:=fun z=>z∈b.inner) hp fun z hz w hw _=>(h3 z hz w hw).resolve_right fun k=>hno2 w k;exact(h1 u this).2 hu
 .by_cases huc:u=c
  .exact key v hv (fun k=>huv (by rw[huc,k])) hpc
  .exact key u hu huc hpc
theorem Vh{h:Sh}(hD:Drn E h){b:Brg}(hb:Brd E h.L h.on b):∃ w,NN ⟨vsF E,E⟩ b=some w/\w.Nodup/\2<=w.length/\w.length<=200/\(∀ v∈w,v∈vsF E)/\w.getD 0 0∈b.ends/\w.getD (w.length-1) 0∈b.ends/\(∀ v∈dA w,v∉h.on)/\
 (∀ x y,(x,y)∈lnk w->prP x y∉h.L/\∃ e∈E,prE e=prP x y)/\(∀ v∈dA w,v∈b.inner)/\(b.inner≠[]->dA w≠[]):=by
 obtain⟨u,v,hu,hv,huv⟩:=Gx hT hD hb;obtain⟨f1,f2⟩:=QL (vs:=vsF E) (S:=b.ends) ⟨u,(hb.en u hu).2,hu⟩;have hfr:CQ ⟨vsF E,E⟩ b=(vsF E).getD (fst' (vsF E) b.ends) 0:=rfl;rw[<- hfr]at f2;have h2e:∃ z∈vsF E,z∈kY ⟨vsF E,E⟩ b:=by
  unfold kY;by_cases k:u=CQ ⟨vsF E,E⟩ b
  .exact⟨v,(hb.en v hv).2,by rw[aAC];exact⟨hv,by simpa using fun e=>huv (by rw[k,e])⟩⟩
  .exact⟨u,(hb.en u hu).2,by rw[aAC];exact⟨hu,by simpa using k⟩⟩
 obtain⟨g1,g2⟩:=QL h2e;have hto:toW ⟨vsF E,E⟩ b=(vsF E).getD (fst' (vsF E) (kY ⟨vsF E,E⟩ b)) 0:=rfl;rw[<- hto]at g2;unfold kY at g2;rw[aAC,aAT]at g2;have hw:NN ⟨vsF E,E⟩ b=if nrS (vsF E) b.inner=[]then some [CQ ⟨vsF E,E⟩ b,toW ⟨vsF E,E⟩ b]else tM (vsF E) (cS (rW ⟨vsF E,E⟩ b.inner).es) (inW (vsF E) b.inner) (CQ ⟨vsF E,E⟩ b) (toW ⟨vsF E,E⟩ b) 1000:=by unfold NN;rw[aAk ⟨f1,g1⟩]
 rw[hw];generalize CQ ⟨vsF E,E⟩ b=fr at *;generalize toW ⟨vsF E,E⟩ b=to at *;have hen1:=hb.en fr f2;have hen2:=hb.en to g2.1;have Zy:fr≠to:=fun e=>g2.2 e.symm;rcases hb.kind with⟨h0,e,he,heL,I8⟩|⟨h0,h1,h2,h3,h4⟩
 .have P6:nrS (vsF E) b.inner=[]:=by rw[h0];unfold nrS;simp
  rw[aAk P6];refine⟨_,rfl,by simpa using Zy,sS,sS,?_,by simpa using f2,by simpa using g2.1,by simp[dA],fun x y D4=>?_,by simp[dA],fun k=>absurd h0 k⟩
  .intro z hz;rcases aAe.1 hz with rfl|hz
   .exact hen1.2
   .rw[aAi.1 hz];exact hen2.2
  .simp only[lnk,aAi,aAW]at D4;obtain⟨rfl,rfl⟩:=D4;have k1:=f2;have k2:=g2.1;rw[I8]at k1 k2;simp at k1 k2;have hp:prE e=prP x y:=by
    show prP e.a e.b=_;rcases k1 with rfl|rfl
    .rcases k2 with rfl|rfl
     .exact absurd rfl Zy
     .rfl
    .rcases k2 with rfl|rfl
     .exact aL _ _
     .exact absurd rfl Zy
   exact⟨by rw[<- hp];exact heL,e,he,hp⟩
 .obtain⟨p0,hp0⟩:=aAS _ h0;have P6:nrS (vsF E) b.inner≠[]:=aBB (lO.2 ⟨(h1 p0 hp0).1,hp0⟩);rw[aAa P6];have c8:∀ v∈vsF E,inW (vsF E) b.inner v=decide (v∈b.inner):=fun v hv=>by unfold inW OP;rw[aAk hv]
  have hpart:∀ e,e∈(rW ⟨vsF E,E⟩ b.inner).es↔e∈E/\(e.a∈b.inner\/e.b∈b.inner):=fun e=>by
   show e∈E.filter _↔_;rw[aAC];constructor
   .rintro⟨k1,k2⟩;rw[c8 _ ((bG _ _).2 ⟨e,k1,.inl rfl⟩),c8 _ ((bG _ _).2 ⟨e,k1,.inr rfl⟩)]at k2;exact⟨k1,by simpa using k2⟩
   .rintro⟨k1,k2⟩;rw[c8 _ ((bG _ _).2 ⟨e,k1,.inl rfl⟩),c8 _ ((bG _ _).2 ⟨e,k1,.inr rfl⟩)];exact⟨k1,by simpa using k2⟩
  have hnr:∀ x y,(x∈b.inner\/y∈b.inner)->y∈nbr E x->y∈cS (rW ⟨vsF E,E⟩ b.inner).es x:=fun x y D4 hn=>by
   obtain⟨e,he,k⟩:=jZ.1 hn;refine kK.2 ⟨e,(hpart e).2 ⟨he,?_⟩,k⟩;rcases bK k with⟨k1,k2⟩|⟨k1,k2⟩
   .rw[k1,k2];exact D4
   .rw[k1,k2];exact D4.symm
  have hback:∀ x y,y∈cS (rW ⟨vsF E,E⟩ b.inner).es x->(∃ e∈E,prE e=prP x y)/\(x∈b.inner\/y∈b.inner):=fun x y hn=>by
   obtain⟨e,he,k⟩:=kK.1 hn;obtain⟨he,hi⟩:=(hpart e).1 he;refine⟨⟨e,he,k⟩,?_⟩;rcases bK k with⟨k1,k2⟩|⟨k1,k2⟩
   .rw[k1,k2]at hi;exact hi
   .rw[k1,k2]at hi;exact hi.symm
  obtain⟨w,w1,w2,w3,w4,w5,w6,w7,w8,w9⟩:=LI (may:=inW (vsF E) b.inner) (fun x y hy=>by obtain⟨⟨e,he,k⟩,_⟩:=hback x y hy;exact(gN he k).2) hen1.2 hen2.2 Zy (n:=1000) (by have:=hT.few.1;omega) fun S hS=>by
   obtain⟨p,hp,kp⟩:=h4 fr f2;obtain⟨q,hq,kq⟩:=h4 to g2.1;have sp:S p:=hS.2 fr hS.1 (.inl rfl) p (hnr fr p (.inr hp) (mK kp));have sq:q∈b.inner/\S q:=(h2 p hp q hq).closed (L:=fun z=>z∈b.inner/\S z) ⟨hp,sp⟩ fun z hz y hy hyi=>by obtain⟨hzi,hz⟩:=hz;exact⟨hyi,hS.2 z hz (.inr (by rw[c8 z (h1 z hzi).1];simpa using hzi)) y (hnr z y (.inl hzi) hy)⟩
   exact hS.2 q sq.2 (.inr (by rw[c8 q (h1 q hq).1];simpa using hq)) to (hnr q to (.inl hq) kq)
  refine⟨w,w1,w2,w3,by have:=hT.few.1;omega,w5,by rw[w6];exact f2,by rw[w7];exact g2.1,fun z hz=>?_,fun x y D4=>?_,fun z hz=>?_,fun _ e=>?_⟩
  .have k:=w9 z hz;rw[c8 z (w5 z (mG hz))]at k;exact(h1 z (by simpa using k)).2
  .obtain⟨k1,k2⟩:=hback x y (w8 x y D4);refine⟨fun hm=>?_,k1⟩;obtain⟨o1,o2⟩:=hD.link_on ((dF w2).2 x y D4).1 hm;rcases k2 with k2|k2
   .exact(h1 x k2).2 o1
   .exact(h1 y k2).2 o2
  .have k:=w9 z hz;rw[c8 z (w5 z (mG hz))]at k;simpa using k
  .have hm:(w.getD 0 0,w.getD (w.length-1) 0)∈lnk w:=by have ew:=mF w3;rw[e]at ew;generalize w.getD 0 0=A at *;generalize w.getD (w.length-1) 0=B at *;rw[ew];simp[lnk]
   obtain⟨_,k⟩:=hback _ _ (w8 _ _ hm);rw[w6,w7]at k;rcases k with k|k
   .exact(h1 _ k).2 hen1.1
   .exact(h1 _ k).2 hen2.1
end
theorem tZ{E:List Ed}:∀ {l:List (Int×Int)},l.Nodup->(∀ p∈l,∃ e∈E,prE e=prP p.1 p.2)->l.length<=2*E.length:=by
 intro l hn h;have hl:(E.flatMap fun e=>[(e.a,e.b),(e.b,e.a)]).length=2*E.length:=by
  clear h;induction E with
  |nil=>rfl
  |cons e E ih=>simp only[aAJ,aAm,List.length_cons,List.length_nil]at ih ⊢;omega
 rw[<- hl];refine aAy hn fun p hp=>?_;obtain⟨e,he,k⟩:=h p hp;refine aBk.2 ⟨e,he,?_⟩;rcases bK k with⟨k1,k2⟩|⟨k1,k2⟩
 .rw[k1,k2];simp
 .rw[k1,k2];simp
section
variable {E:List Ed} (hT:Tc E)
include hT
omit hT in
theorem Drn.L_le{h:Sh}(hD:Drn E h):h.L.length<=E.length:=by
 have:=aAy hD.lnd (l₂:=E.map prE) fun p hp=>by obtain⟨e,he,rfl⟩:=hD.sub p hp;exact aAw he
 rwa [aAD]at this
omit hT in
theorem Drn.ring_le{h:Sh}(hD:Drn E h){r:List Int}(hr:r∈h.F):r.length<=2*E.length:=by
 rw[<- qJ r];have hn:=hD.nd;refine tZ ?_ fun p hp=>?_
 .unfold PF at hn;rw[List.flatMap_def]at hn;exact(aBn (aAw (f:=prs) hr)).nodup hn
 .obtain⟨_,k⟩:=(hD.mem p.1 p.2).1 (bE.2 ⟨r,hr,hp⟩);exact hD.sub _ k
theorem Uz{h:Sh}(hD:Drn E h):∃ B,(∀ b∈B,Brd E h.L h.on b)/\(∀ e∈E,prE e∉h.L->e.a∈h.on->e.b∈h.on->⟨[],[e.a,e.b]⟩∈B)/\(∀ v∈vsF E,v∉h.on->∃ b∈B,v∈b.inner)/\
 (((bJ h.F B (⟨[],[]⟩,-1)).2<0/\xY ⟨vsF E,E⟩ h=some none)\/∃ w k,(bJ h.F B (⟨[],[]⟩,-1)).2=((k:Nat):Int)/\xY ⟨vsF E,E⟩ h=some (some (gJ h w k))/\Drn E (gJ h w k)/\h.L.length<(gJ h w k).L.length/\Brd E h.L h.on (bJ h.F B (⟨[],[]⟩,-1)).1/\
   w.Nodup/\2<=w.length/\w.getD 0 0∈(bJ h.F B (⟨[],[]⟩,-1)).1.ends/\w.getD (w.length-1) 0∈(bJ h.F B (⟨[],[]⟩,-1)).1.ends/\(∀ v∈dA w,v∉h.on)/\(∀ x y,(x,y)∈lnk w->prP x y∉h.L/\∃ e∈E,prE e=prP x y)/\(∀ v∈dA w,v∈(bJ h.F B (⟨[],[]⟩,-1)).1.inner)/\((bJ h.F B (⟨[],[]⟩,-1)).1.inner≠[]->dA w≠[])):=by
 obtain⟨B,b1,b2,b3,b4,b5⟩:=Ui (E:=E) (on:=h.on) h.L;refine⟨B,b2,b4,b5,?_⟩;have hc:Chn E h (bJ h.F B (⟨[],[]⟩,-1)):=DE B _ b2 ⟨sS,.inl sS⟩;have hfew:=hT.few;unfold xY;rw[b1,Option.bind_some,aAk ⟨fun b hb v hv=>((b2 b hb).en v hv).2,oO,hc.1⟩];generalize bJ h.F B (⟨[],[]⟩,-1)=r at *;by_cases D7:r.2<0
 .rw[aAk D7];exact .inl ⟨D7,rfl⟩
 rw[aAa D7];obtain⟨hb,k,hk,hkl,O6⟩:=hc.2.resolve_left D7;have hkn:r.2.toNat=k:=oO;rw[hkn];obtain⟨w,w1,w2,w3,w4,w5,w6,w7,w8,w9,Y3,w11⟩:=Vh hT hD hb;have hrin:h.F.getD k []∈h.F:=by rw[aAg,aAh hkl];exact aAz _
 have hrl:=hD.ring_le hrin;have hLl:=hD.L_le;have hcnt:=hD.cnt;have hlay:Ls ⟨vsF E,E⟩ h k w:=⟨hkl,w3,w4,w5,oO,O6 _ w6,O6 _ w7,oO⟩;rw[w1,Option.bind_some,aAk hlay];refine .inr ⟨w,k,hk,rfl,hD.lay hkl w3 w2 (O6 _ w6) (O6 _ w7) w8 w9,?_,hb,w2,w3,w6,w7,w8,w9,Y3,w11⟩;have hL:(gJ h w k).L=h.L++iB w:=by
  have:(gJ h w k).L=jV h.L w:=rfl;rw[this];exact kI _ _ (fG w2) fun p X7=>by rw[eC]at X7;obtain⟨q,hq,rfl⟩:=aAj.1 X7;exact(w9 q.1 q.2 hq).1
 rw[hL,aAm,mT];omega
theorem Pp{h:Sh}(hD:Drn E h):xY ⟨vsF E,E⟩ h=some none\/∃ h',xY ⟨vsF E,E⟩ h=some (some h')/\Drn E h'/\h.L.length<h'.L.length:=by
 obtain⟨B,_,_,_,k|⟨w,k,_,h1,h2,h3,_⟩⟩:=Uz hT hD
 .exact .inl k.2
 .exact .inr ⟨_,h1,h2,h3⟩
theorem AG:∀(n:Nat) (h:Sh),Drn E h->E.length+1<=n+h.L.length->∃ o,pS ⟨vsF E,E⟩ n h=some o/\∀ h',o=some h'->Drn E h'/\E.length<=h'.L.length
 |0,h,hD,hl=>by have:=hD.L_le;omega
 |n+1,h,hD,hl=>by
  unfold pS;by_cases dQ:h.L.length<(⟨vsF E,E⟩:Gr).es.length
  .rw[aAk dQ];rcases Pp hT hD with hs|⟨h',hs,hD',G5⟩
   .rw[hs];exact⟨none,rfl,fun h' e=>by cases e⟩
   .rw[hs,Option.bind_some];exact AG n h' hD' oO
  .rw[aAa dQ];refine⟨some h,rfl,fun h' e=>?_⟩;injection e with e;subst e;exact⟨hD,by show E.length<=_;simp only at dQ;omega⟩
end
theorem Nq{g:Gr}(hg:GoodE g):((gK g.es).flatten).Nodup/\∀ i,i∈(gK g.es).flatten↔i<g.es.length:=by
 have K8:∀ B∈gK g.es,fB g.es B:=fun B hB=>mP hg hB;constructor
 .have:=pH (f:=fun B:List Nat=>B) (Uw g.es) (fun B hB=>(K8 B hB).rise.imp fun k=>aBW k) fun B hB B' hB' i h1 h2=>(K8 B hB).eq (g:=g) (K8 B' hB') h1 h2
  rwa [List.flatMap_def,List.map_id']at this
 .intro i;rw[aAX];constructor
  .rintro⟨B,hB,hi⟩;exact(K8 B hB).lt i hi
  .intro hi;obtain⟨s,_,_,h2,_,h3⟩:=qW hg;obtain⟨B,hB,hiB⟩:=aAX.1 ((h2 i).2 hi);have P9:=h3 B hB;have hh:=head_mem P9.ne;refine⟨B,?_,hiB⟩;unfold gK;rw[P9.cls hh];refine aAj.2 ⟨B.headD 0,?_,rfl⟩;rw[aAC,aBb,aAT,<- P9.cls hh];exact⟨P9.lt _ hh,rfl⟩
theorem iH{g:Gr}(hg:GoodE g):((aX g).flatten).Perm (sE g.es):=by
 have W4:=hg.simple;obtain⟨h1,h2⟩:=Nq W4;have hp:(gK (sE g.es)).flatten.Perm (List.range (sE g.es).length):=(aBd h1 aDt).2 fun i=>by rw[h2,aBb]
 have e:(aX g).flatten=(gK (sE g.es)).flatten.map (eAt (sE g.es)):=by unfold aX;rw[aDu]
 have e2:(List.range (sE g.es).length).map (eAt (sE g.es))=sE g.es:=by refine aDp sS fun i h1 h2=>?_;simp only[aCy,List.getElem_range];exact eH _ _ h2
 rw[e]
 conv=>rhs;rw[<- e2]
 exact hp.map _
theorem WN{g:Gr}(hg:GoodE g)(hv:∀ v∈g.vs,0<=v/\v<4194304){Bs:BsT}(hb:Bs.map (·.1)=aX g)(hd:∀ p∈Bs,jJ p.1 p.2):Sys g Bs:=by
 have c8:∀ p∈Bs,p.1∈aX g:=fun p hp=>by rw[<- hb];exact aAw (f:=(·.1)) hp
 have T6:(Bs.flatMap (·.1)).Perm (sE g.es):=by rw[List.flatMap_def,hb];exact iH hg
 refine⟨hg,fun p hp=>⟨hd p hp,⟨(pO hg (c8 p hp)).1.ne,?_,fun v h=>?_⟩,?_⟩,T6⟩
 .have h1:=(T6.map prE).nodup_iff.2 (Ac g.es);rw[aDP]at h1;have:∀ {l:BsT},(l.flatMap fun p=>p.1.map prE).Nodup->∀ p∈l,(p.1.map prE).Nodup:=by
   intro l;induction l with
   |nil=>intro _ p h;cases h
   |cons a l ih=>
    intro hn p h;rw[aAJ,aAo]at hn;rcases aAe.1 h with rfl|h
    .exact hn.1
    .exact ih hn.2.1 p h
  exact this h1 p hp
 .obtain⟨e,he,k⟩:=(bG v _).1 h;have:=hg.ends e ((pO hg (c8 p hp)).2 e he);rcases k with rfl|rfl
  .exact hv _ this.1
  .exact hv _ this.2
 .have:=c8 p hp;unfold aX at this;obtain⟨B,hB,e⟩:=aAj.1 this;rw[<- e];intro h0;exact(mP hg.simple hB).ne (aCC.1 h0)
abbrev B0(g:Gr)(Bs:BsT):Mp:=⟨g,g.vs.map fun v=>nrm (xR g Bs v)⟩
section
variable {g:Gr} {Bs:BsT} (hS:Sys g Bs)
include hS
end
theorem JY(m:Mp)(st:St)(hv:m.g.vs.length<=1000)(he:m.g.es.length<=1000)(hr:m.rots.length<=1000):
 aB prog 37 [.ag (mpL m)] st fun r st'=>r=i (rP m)/\aA st st':=by
 refine zN func37 ntmps37 [.tmp 2] ?_
 (refine xj0 ?_;intro J hJ)
 refine qE (Ce m.g _ hv he) sS ?_;rintro r s1 ⟨rfl,j7⟩;have I2:=j7.next;simp only[aG]at I2;have O2:s1.H st.next=.box 28 3 (mpL m):=by rw[j7.H _ sS];simp
 have hK1:aA st s1:=(aA.new _ _).trans j7;by_cases hc:chk m.g=0;rotate_left
 .have hrc:=Od hc;generalize chk m.g=x at *;refine pX hJ hc hrc ?_;exact hK1
 have hgd:=kF hc;have hid:Mf m.g.es:=fun x hx=>by have:=hgd.pos x hx;omega
 by_cases hl:m.rots.length=m.g.vs.length;rotate_left
 .have hrc:=HB hc hl
  (repeat' (first|apply qS|refine qK (zZ ?_)|(refine qR (zZ ?_);simp[hc,hrc,O2,hl])|(apply qC;simp[hc,hrc,O2,hl];(try with_reducible refine⟨?_,?_⟩)<;>(try with_reducible intro hc)<;>try (exfalso;omega))|((first|(refine zE ?_;intro J hJ)|(apply cD));simp[hc,hrc,O2,hl];(refine zJ hJ ?_;clear hJ J))))
  exact hK1
 refine nR hJ hc O2 hl ?_;refine aY 28 27 29 65 (m.g.vs.length) (fun j fr st2=>fr 1=.pt st.next 0/\fr 26=.sl 0 m.g.vs.length (us m.g.vs)/\st2.H st.next=.box 28 3 (mpL m)/\aA st st2/\st.next<st2.next/\∀ k,k<j->rok m k) ?_ ?_ ?_
 .exact⟨sS,sS,O2,hK1,oO,fun k hk=>by omega⟩
 .rintro j0 fr st2 dQ ⟨f1,f26,hG,j5,O9,K8⟩ fi fn JJ hJJ;have hd:=qG m.g.vs j0 dQ;have F7:=nV m.rots j0 oO;have hRl:j0<(fF m.rots).length:=by simp;omega
  have htin:m.rots.getD j0 []∈m.rots:=by rw[jC _ _ oO];exact aAz _
  have D6:=fun h=>GI hc dQ h;have D9:rok m j0->∀ k,k<j0+1->rok m k:=fun h k hk=>by
   rcases aAK k j0 with h1|h1
   .exact K8 k h1
   .obtain rfl:k=j0:=oO;exact h
  have hok1:rok m j0↔(m.rots.getD j0 []).Perm (ends m.g.es (m.g.vs.getD j0 0))/\nrm (m.rots.getD j0 [])=m.rots.getD j0 []:=aEh;have hel:(ends m.g.es (m.g.vs.getD j0 0)).length<=2*m.g.es.length:=tN _ (uJ _) _;have hrise:=vA hgd.ids (m.g.vs.getD j0 0);generalize rok m j0=OK at *;generalize m.rots.getD j0 []=t at *;generalize m.g.vs.getD j0 0=v at *
  (refine UE f1 f26 fi fn hd dQ hG F7 hRl hl ?_;intro J hJ)
  refine qE (Fu m.g v _ he hid) sS ?_;rintro r s3 ⟨⟨te,rfl⟩,o9⟩;have hn3:=o9.next;have hG3:=(o9.H st.next oO).trans hG;have hK3:=j5.trans o9;generalize ends m.g.es v=E at *;by_cases h1:t.length=E.length;rotate_left
  .have hrc:=D6 fun h=>h1 (hok1.1 h).1.length_eq;have h1b:((t.length:Int) != (E.length:Int))=true:=by simp;omega
   refine nR hJ h1b h1 hrc ?_;exact hK3
  (refine HE hJ h1 ?_;intro J hJ)
  refine qE (AL t 0 _ (by unfold small;omega)) (sF1 h1) ?_;rintro r s4 ⟨rfl,F5⟩;have W8:=F5.next;have hG4:=(F5.H st.next oO).trans hG3;have hK4:=hK3.trans F5;have r8:=cJ t;refine dK hJ ?_;refine qE (SJ t (nrm t) 0 0 _ (by unfold small;omega)) (sF2 h1 r8) ?_;rintro r s5 ⟨rfl,rfl⟩;by_cases h2:t=nrm t;rotate_left
  .have hrc:=D6 fun h=>h2 (hok1.1 h).2.symm;refine pX hJ h2 hrc ?_;exact hK4
  have h2':decide (t=nrm t)=true:=by simpa using h2
  rw[h2'];refine dK hJ ?_;refine aY 56 55 57 64 (E.length) (fun j fr st2=>fr 1=.pt st.next 0/\fr 26=.sl 0 m.g.vs.length (us m.g.vs)/\fr 28=i j0/\fr 27=i m.g.vs.length/\fr 6=.sl 0 t.length (us t)/\fr 54=.sl te E.length (us E)/\st2=s5/\∀ k,k<j->E.getD k 0∈t) ?_ ?_ ?_
  .exact⟨sF1 f1,sF1 f26,sF1 fi,sF1 fn,sF1 h1,sS,rfl,fun k hk=>by omega⟩
  .clear f1 f26 fi fn fr;rintro k fr st6 hk ⟨f1,f26,f28,f27,f6,f54,rfl,hall⟩ fi fn J2 S5;have hd3:=qG E k hk;have c8:E.getD k 0∈E:=by rw[bB _ _ hk];exact aAz _
   generalize hx:E.getD k 0=x at *
   (refine xj6 f54 f6 fi fn hd3 hk ?_;intro J hJ)
   refine qE (Wg t 0 x _ (by unfold small;omega)) (sF1 h1) ?_;rintro r s7 ⟨rfl,rfl⟩;by_cases hxt:x∈t
   .have hg:=sO hxt
    (repeat' (first|refine qK (zZ ?_)|(apply qC;simp[hg];(try with_reducible refine⟨?_,?_⟩)<;>(try with_reducible intro hc)<;>try (exfalso;omega))|(apply cD;simp[hg];(refine zJ hJ ?_;clear hJ J))))
    refine S5 _ _ (sF1 fi) (sF1 fn) ⟨sF1 f1,sF1 f26,sF1 f28,sF1 f27,sF1 f6,sF1 f54,rfl,fun q hq=>?_⟩;rcases aAK q k with h3|h3
    .exact hall q h3
    .obtain rfl:q=k:=oO;rw[hx];exact hxt
   .have hg:=BZ hxt;have hrc:=D6 fun h=>hxt ((hok1.1 h).1.mem_iff.2 c8);refine pX hJ hg hrc ?_;exact hK4
  .clear f1 f26 fi fn fr;rintro fr st6 ⟨f1,f26,f28,f27,f6,f54,rfl,hall⟩;refine xw0 ?_;refine hJJ _ _ (sF1 f28) (sF1 f27) ⟨sF1 f1,sF1 f26,hG4,hK4,oO,D9 (hok1.2 ⟨?_,h2.symm⟩)⟩;refine(xU (iL hrise) (fun x hx=>?_) oO).symm;obtain⟨q,hq,rfl⟩:=aAA hx;have:=hall q hq
   rwa [bB _ _ hq]at this
 .rintro fr st2 ⟨f1,f26,hG,j5,O9,K8⟩;have hrc:=Ug hc hl K8;refine xw1 hrc ?_;exact j5
noncomputable def jM(m:Mp):Int:=if rP m≠0 then rP m else if gn m≠0 then 23 else 0
theorem Iy(m:Mp)(st:St)(hv:m.g.vs.length<=1000)(he:m.g.es.length<=1000)(hr:m.rots.length<=1000):
 aB prog 11 [.ag (mpL m)] st fun r st'=>r=i (jM m)/\aA st st':=by
 refine zN func11 ntmps11 [.tmp 2] ?_
 (refine xj0 ?_;intro J hJ)
 refine qE (JY m _ hv he hr) sS ?_;rintro r s1 ⟨rfl,j7⟩;have I2:=j7.next;simp only[aG]at I2;have O2:s1.H st.next=.box 28 3 (mpL m):=by rw[j7.H _ sS];simp
 have hK1:aA st s1:=(aA.new _ _).trans j7;by_cases hc:rP m=0;rotate_left
 .have hrc:jM m=rP m:=by unfold jM;rw[aAk hc]
  generalize rP m=x at *;have hcb:(x==0)=false:=by simpa using hc
  refine nR hJ hcb hc hrc ?_;exact hK1
 (refine Ij hJ hc O2 ?_;intro J hJ)
 refine qE (Xh m (Cx hc).2 _ hv he) sS ?_;rintro r s2 ⟨rfl,u5⟩;by_cases hg:gn m=0
 .have hrc:jM m=0:=by unfold jM;rw[aAa (fun e=>e hc),aAa (fun e=>e hg)]
  refine pX hJ hg hrc ?_;exact hK1.trans u5
 .have hrc:jM m=23:=by unfold jM;rw[aAa (fun e=>e hc),aAk hg]
  generalize gn m=x at *;have P0:¬(2*(x:Int)=0):=oO;refine nR hJ P0 hg hrc ?_;exact hK1.trans u5
section
variable {E:List Ed} (hT:Tc E)
include hT
theorem Rk(hlim:E.length<=200):∃ o,pM E=some o/\∀ F,o=some F->jJ E F:=by
 have h2:=hT.two;obtain⟨x,y,R,hE⟩:∃ x y R,E=x::y::R:=by
  match E,h2 with
  |x::y::R,_=>exact⟨x,y,R,rfl⟩
 have hd:pM E=if(vsF E).length<=64/\E.length<=200 then
  if(3:Int)*(vsF E).length-6<E.length then some none
  else(newF ⟨vsF E,E⟩).bind fun h=>(pS ⟨vsF E,E⟩ 1000 h).map fun o=>o.map (·.F)
  else none:=by rw[hE];rfl
 rw[hd,aAk ⟨hT.few.1,hlim⟩]
 split
 .exact⟨none,rfl,fun F e=>by cases e⟩
 .obtain⟨h,h1,hD,_⟩:=hT.start hE;obtain⟨o,h3,h4⟩:=AG hT 1000 h hD (by have:=hT.few.2;omega);rw[h1,Option.bind_some,h3];refine⟨o.map (·.F),rfl,fun F e=>?_⟩;cases o with
  |none=>cases e
  |some h'=>simp only[Option.map_some,aAb]at e;subst e;obtain⟨hD',hl⟩:=h4 h' rfl;exact hD'.done hT.ne hT.sim hl
end
theorem Iq{g:Gr}(hg:GoodE g)(hv:g.vs.length<=64)(he:g.es.length<=200){l:List Ed}(hl:l∈aX g):l≠[]/\(∀ e∈l,e∈g.es/\e.a≠e.b)/\l.length<=g.es.length/\(2<=l.length->Tc l):=by
 have W4:=hg.simple;obtain⟨O0,c8⟩:=pO hg hl;have D5:∀ v∈vsF l,v∈g.vs:=fun v h=>by
  obtain⟨e,hel,k⟩:=(bG v l).1 h;have:=hg.ends e (c8 e hel)
  grind
 have hlen:l.length<=g.es.length:=by have h1:l.length<=(aX g).flatten.length:=(aBn hl).length_le;have h2:=(iH hg).length_eq;have h3:=oH g.es;omega
 refine⟨fun h0=>?_,fun e he=>⟨c8 e he,O0.ne e he⟩,hlen,fun h2=>⟨O0.ids,O0.ne,?_,?_,h2,?_,oO⟩⟩
 .unfold aX at hl;obtain⟨B,hB,e⟩:=aAj.1 hl;rw[h0]at e;exact absurd (aCC.1 e) (mP W4 hB).ne
 .have h1:=((iH hg).map prE).nodup_iff.2 (Ac g.es);rw[aDu]at h1;exact(aBn (aAw (f:=List.map prE) hl)).nodup h1
 .unfold aX at hl;obtain⟨B,hB,e⟩:=aAj.1 hl;have P9:=mP W4 hB;intro w p q hp hq hpw hqw;rw[<- e]at hp hq ⊢;obtain⟨i,hi,ip⟩:=QU W4 hp;obtain⟨j,hj,jq⟩:=QU W4 hq;exact P9.con W4 w hi (P9.rel i hi j hj) p q ip jq hpw hqw
 .have:=aAy ((mC l).imp fun k=>by omega) D5;omega
theorem Lv{g:Gr}(hg:GoodE g)(hv:g.vs.length<=64)(he:g.es.length<=200)(hlim:g.es.length<=200){l:List Ed}(hl:l∈aX g):∃ o,pM l=some o/\∀ F,o=some F->jJ l F:=by
 obtain⟨h0,h1,u9,h2⟩:=Iq hg hv he hl
 match l,h0,h1,h2,u9 with
 |[e],_,h1,_,_=>exact⟨_,rfl,fun F k=>by injection k with k;subst k;exact Rw (h1 e sS).2⟩
 |x::y::R,_,_,h2,u9=>exact Rk (h2 sS) oO
theorem IG(x y:Int):∀ P,(pZ x y P).length<=P.length+1
 |[]=>by simp[pZ]
 |p::P=>by have:=IG x y P;unfold pZ;split<;>simp<;>omega
theorem HI(v x y:Int)(n:Nat):∀ A:Tn,(∀ a∈A,a.2.length<=n)->(iA v x y A).length<=A.length+1/\∀ a∈iA v x y A,a.2.length<=n+1
 |[],_=>by simp[iA]
 |a::A,h=>by
  obtain⟨h1,h2⟩:=HI v x y n A fun b hb=>h b (aAc _ hb);unfold iA
  split
  .refine⟨sS,fun b hb=>?_⟩;rcases aAe.1 hb with rfl|hb
   .have:=IG x y a.2;have:=h a aAf;simp only;omega
   .have:=h b (aAc _ hb);omega
  .refine⟨by simp;omega,fun b hb=>?_⟩;rcases aAe.1 hb with rfl|hb
   .have:=h b aAf;omega
   .exact h2 b hb
theorem RQ:∀ T:List (Int×Int×Int),(T.foldl Bj []).length<=T.length/\(∀ a∈T.foldl Bj [],a.2.length<=T.length)/\∀ v∈(T.foldl Bj []).map (·.1),∃ t∈T,t.2.1=v:=by
 intro T;induction T using xD with
 |h0=>simp
 |h1 T t ih=>
  rw[aBI,List.foldl_cons,List.foldl_nil,aAm,List.length_singleton];have:=HI t.2.1 t.1 t.2.2 T.length (T.foldl Bj []) ih.2.1;refine⟨aBg this.1 oO,this.2,?_⟩;have key:∀ A:Tn,∀ v∈(iA t.2.1 t.1 t.2.2 A).map (·.1),v=t.2.1\/v∈A.map (·.1):=by
   intro A;induction A with
   |nil=>intro v hv;simp[iA]at hv;exact .inl hv
   |cons a A ih=>
    intro v hv;unfold iA at hv
    split at hv
    .rw[aAn]at hv ⊢;rcases aAe.1 hv with h|h
     .exact .inl h
     .exact .inr (aAc _ h)
    .rw[aAn]at hv ⊢;rcases aAe.1 hv with h|h
     .exact .inr (by rw[h];exact aAf)
     .exact(ih v h).imp id fun k=>aAc _ k
  intro v hv;rcases key _ v hv with h|h
  .exact⟨t,sS,h.symm⟩
  .obtain⟨s,hs,e⟩:=ih.2.2 v h;exact⟨s,aAr _ hs,e⟩
theorem GF(g:Gr)(v:Int):∀(L:List Int) (T:TL),gG (dU g v L T)=gG T+(L.flatMap (seg g v)).length
 |[],T=>by simp[dU]
 |x::L,T=>by have ih:=GF g v L (oC v (seg g v x) T);have e:dU g v (x::L) T=dU g v L (oC v (seg g v x) T):=rfl;rw[e,ih,uS,aAJ,aAm];omega
theorem Gt(g:Gr)(A:Tn)(n:Nat):∀(K:List Int) (T:TL),(∀ v∈K,((cC (dS v A)).flatMap (seg g v)).length<=n)->gG (fM g A K T)<=gG T+K.length*n
 |[],T,_=>by simp[fM]
 |v::K,T,h=>by have ih:=Gt g A n K (dU g v (cC (dS v A)) T) fun w hw=>h w (aAc _ hw);have e:fM g A (v::K) T=fM g A K (dU g v (cC (dS v A)) T):=rfl;have h0:=h v aAf;rw[GF]at ih;rw[e,List.length_cons,aBX];omega
end Aw
namespace Aw
open Go Go.RowKit Pl
structure GrF(g:Gr):Prop where
 rise:g.vs.Pairwise (· < ·)
 vpos:∀ v∈g.vs,1<=v/\v<=1048576
 ids:g.es.Pairwise fun x y=>x.id<y.id
 pos:∀ x∈g.es,1<=x.id/\x.id<=1048576
 ne:∀ x∈g.es,x.a≠x.b
 ends:∀ x∈g.es,x.a∈g.vs/\x.b∈g.vs
 l1:g.vs.length<=64
 l2:g.es.length<=160
theorem QW{f:Nat->Int}{n:Nat}(h:cA f n=0):∀ j,j<n->f j=0:=by
 induction n with
 |zero=>omega
 |succ n ih=>
  grind [cA]
theorem CO(n a:Int)(b:Bool):eZ n a b=0↔(1<=n/\n<=1048576)/\(b=false->a<n):=by
 grind [eZ]
theorem De{l:List Int}(h:∀ j,j<l.length->0<j->l.getD (j-1) 0<l.getD j 0):l.Pairwise (· < ·):=by
 have g:∀ j (hj:j<l.length),l.getD j 0=l[j]:=fun j hj=>by grind
 rw[aAB];intro a b ha hb x7;induction b with
 |zero=>omega
 |succ b ih=>
  grind
theorem gE(l:List Ed)(j:Nat)(hj:j<l.length):l.getD j ed0=l[j]:=by
 grind
theorem OI(g:Gr)(j:Nat)(x:Ed)(hx:g.es.getD j ed0=x):lI g j=0↔((1<=x.id/\x.id<=1048576)/\(0<j->(g.es.getD (j-1) ed0).id<x.id))/\x.a≠x.b/\x.a∈g.vs/\x.b∈g.vs:=by
 grind [lI,eZ]
theorem Fy{g:Gr}(h:chk g=0):GrF g:=by
 unfold chk at h;by_cases h1:64<g.vs.length\/160<g.es.length
 .omega
 rw[aAa h1]at h;by_cases h2:cA (lB g) g.vs.length=0;rotate_left
 .omega
 rw[aAa oO]at h;have gI:∀ j (hj:j<g.vs.length),g.vs.getD j 0=g.vs[j]:=fun j hj=>by grind
 have hV:=fun j hj=>(CO _ _ _).1 (QW h2 j hj);have hE:=fun j hj=>(OI g j _ rfl).1 (QW h j hj);have c8:∀ x∈g.es,∃ j,j<g.es.length/\g.es.getD j ed0=x:=fun x hx=>by obtain⟨j,hj,rfl⟩:=aAA hx;exact⟨j,hj,gE _ _ hj⟩
 refine⟨De fun j hj h0=>(hV j hj).2 (by simp;omega),fun v hv=>?_,?_,fun x hx=>?_,fun x hx=>?_,fun x hx=>?_,oO,oO⟩
 .obtain⟨j,hj,rfl⟩:=aAA hv;simp_all
 .have:=De (l:=g.es.map (·.id)) fun j hj h0=>by rw[aAD]at hj;have:=(hE j hj).1.2 h0;rw[gE _ _ hj,gE _ _ oO]at this;rw[aAg,aAh (by simp;omega),aAg,aAh (by simp_all)];simp_all
  rwa [aAU]at this
 .obtain⟨j,hj,rfl⟩:=c8 x hx;simp_all
 .obtain⟨j,hj,rfl⟩:=c8 x hx;simp_all
 .obtain⟨j,hj,rfl⟩:=c8 x hx;simp_all
end Aw
namespace Aw
open Go Go.RowKit Pl Eu
theorem Rb{g:Gr}(hg:GoodE g)(hv:∀ v∈g.vs,0<=v/\v<4194304){l:List Ed}(hl:l∈aX g):BlE l/\l≠[]/\∀ v∈vsF l,v∈g.vs:=by
 obtain⟨O0,c8⟩:=pO hg hl;have D5:∀ v∈vsF l,v∈g.vs:=fun v h=>by
  obtain⟨e,hel,k⟩:=(bG v l).1 h;have:=hg.ends e (c8 e hel);rcases k with rfl|rfl
  .exact this.1
  .exact this.2
 refine⟨⟨O0.ne,?_,fun v h=>hv v (D5 v h)⟩,?_,D5⟩
 .have h1:=((iH hg).map prE).nodup_iff.2 (Ac g.es);rw[aDu]at h1;exact(aBn (aAw (f:=List.map prE) hl)).nodup h1
 .unfold aX at hl;obtain⟨B,hB,e⟩:=aAj.1 hl;rw[<- e];intro h0;exact(mP hg.simple hB).ne (aCC.1 h0)
section
variable {g:Gr} (hg:GoodE g) (hv:∀ v∈g.vs,0<=v/\v<4194304) (hn:g.vs.length<=24) (he:g.es.length<=50)
include hg hv hn he
theorem WC{l:List Ed}(hl:l∈aX g):l.length<=50/\(vsF l).length<=24:=by
 obtain⟨_,_,D5⟩:=Rb hg hv hl;constructor
 .have h1:l.length<=(aX g).flatten.length:=(aBn hl).length_le;have h2:=(iH hg).length_eq;have h3:=oH g.es;omega
 .have:=aAy ((mC l).imp fun k=>by omega) D5;omega
theorem Si{l:List Ed}(hl:l∈aX g){F:List (List Int)}(hO:jJ l F)(T:TL)(hT:gG T+1200<=100000):okE F (aV F) (uC g F T)/\gG (uC g F T)<=gG T+1200:=by
 obtain⟨hE,h0,D5⟩:=Rb hg hv hl;obtain⟨l1,l2⟩:=WC hg hv hn he hl;have hcnt:=hO.cnt;have hPF:(PF F).length<=100:=by have:=tZ (E:=l) hO.nd fun p hp=>(hO.mem p.1 p.2).1 hp;omega
 obtain⟨a1,a2,a3⟩:=RQ (F.flatMap trs);have hTF:(F.flatMap trs).length=(PF F).length:=by
  have:=(xA F).length_eq
  rwa [aAD]at this
 rw[<- xT]at a1 a2 a3;have E9:∀ v∈(aV F).map (·.1),v∈vsF l:=fun v hk=>by obtain⟨t,ht,rfl⟩:=a3 v hk;have:=(xA F).mem_iff.1 (aAw (f:=fun t:Int×Int×Int=>(t.1,t.2.1)) ht);obtain⟨e,he,k⟩:=(hO.mem t.1 t.2.1).1 this;exact(gN he k).2
 have hKl:(pK ((aV F).map (·.1))).length<=24:=by have:=aAy (l₂:=vsF l) ((zQ ((aV F).map (·.1))).imp fun k=>by omega) fun v h=>E9 v ((oQ v _).1 h);omega
 have hbt:∀ v,((cC (dS v (aV F))).flatMap (seg g v)).length<=50:=fun v=>by
  by_cases U9:v∈vsF l
  .have hR:=hO.round hE h0 U9;have hnd:((cC (dS v (aV F))).flatMap (seg g v)).Nodup:=pH hR.1 (fun x _=>DM hg v x) fun x _ y _ d h1 h2=>by rw[<- (LF hg h1).2,(LF hg h2).2]
   have:=aAy hnd (l₂:=g.es.map (dAt v)) fun d hd=>by obtain⟨x,_,hd⟩:=aBk.1 hd;obtain⟨e,he,_,rfl⟩:=zR.1 hd;exact aAw he
   rw[aAD]at this;omega
  .rw[sP hO hE U9,qH];simp
 have htot:gG (uC g F T)<=gG T+1200:=by have:=Gt g (aV F) 50 (pK ((aV F).map (·.1))) T fun v _=>hbt v;unfold uC;omega
 refine⟨⟨oO,fun r hr=>?_,oO,fun a ha=>by have:=a2 a ha;omega,oO⟩,htot⟩;have S4:=hO.nd;unfold PF at S4;rw[List.flatMap_def]at S4;have h1:=tZ (E:=l) ((aBn (aAw (f:=prs) hr)).nodup S4) fun p hp=>(hO.mem p.1 p.2).1 (bE.2 ⟨r,hr,hp⟩);rw[qJ]at h1;omega
theorem Ov:∀(bl:List (List Ed)) (T:TL),(∀ l∈bl,l∈aX g)->gG T+bl.length*1200<=100000->∃ o,yC g bl T=some o
 |[],T,_,_=>⟨_,rfl⟩
 |l::bl,T,hl,hT=>by
  obtain⟨o,h1,h2⟩:=Lv hg oO oO oO (hl l aAf);unfold yC;rw[h1,Option.bind_some];cases o with
  |none=>exact⟨none,rfl⟩
  |some F=>
   have e1:gG T+1200<=100000/\(∀ t,t<=gG T+1200->t+bl.length*1200<=100000):=by rw[List.length_cons]at hT;clear h1 h2;generalize gG T=a at *;generalize bl.length=b at *;exact⟨oO,fun t h=>by omega⟩
   obtain⟨k1,k2⟩:=Si hg hv hn he (hl l aAf) (h2 F rfl) T e1.1;simp only;rw[aAk k1];exact Ov bl _ (fun x hx=>hl x (aAc _ hx)) (e1.2 _ k2)
end
theorem OQ{g:Gr}(hc:chk g=0)(hn:g.vs.length<=24)(he:g.es.length<=50):∃ o,kR g (aX g)=some o/\∀ m,o=some m->∃ Bs,Sys g Bs/\Bs.map (·.1)=aX g/\m=B0 g Bs/\∀ v,(xR g Bs v).length<=100:=by
 have hG:=Fy hc;have hg:=kF hc;have hv:∀ v∈g.vs,0<=v/\v<4194304:=fun v h=>by have:=hG.vpos v h;omega
 have L6:(aX g).length<=50:=by have h1:=DR g;have h2:=oH g.es;omega
 have h1:gG ([]:TL)+(aX g).length*1200<=100000:=by have h0:gG ([]:TL)=0:=rfl;rw[h0,aBv];generalize (aX g).length=n at *;omega
 obtain⟨o,ho⟩:=Ov hg hv hn he (aX g) [] (fun _ h=>h) h1;unfold kR;rw[ho,Option.bind_some];cases o with
 |none=>exact⟨none,rfl,fun m e=>by cases e⟩
 |some T=>
  obtain⟨Bs,hb,hd,ht⟩:=CA g (aX g) [] T ho;have hS:Sys g Bs:=WN hg hv hb fun p hp=>by
   have hl:p.1∈aX g:=by rw[<- hb];exact aAw (f:=(·.1)) hp
   obtain⟨o,h1,h2⟩:=Lv hg oO oO oO hl;rw[hd p hp]at h1;injection h1 with h1;exact h2 p.2 h1.symm
  have hturn:∀ v,eD v T=xR g Bs v:=fun v=>by rw[ht v];rfl
  have u9:∀ v,(xR g Bs v).length<=100:=fun v=>by rw[(hS.turn_perm v).length_eq];have:=tN (mX v) (uJ v) g.es;show(g.es.flatMap (mX v)).length<=100;omega
  simp only;rw[aAk fun v _=>by rw[hturn v];exact aBg (u9 v) oO];refine⟨_,rfl,fun m e=>⟨Bs,hS,hb,?_,u9⟩⟩;injection e with e;rw[<- e];show(⟨g,g.vs.map fun v=>nrm (eD v T)⟩:Mp)=_
  congr 1
  exact aAP fun v _=>by rw[hturn]
end Aw
namespace Aw
open Go Go.RowKit Pl
def CP:Gr:=⟨[1,2,3],[⟨1,1,2⟩,⟨2,2,3⟩,⟨3,3,1⟩]⟩
def rV:Gr:=⟨[1,2,3,4,5],[⟨1,1,2⟩,⟨2,1,3⟩,⟨3,1,4⟩,⟨4,1,5⟩,⟨5,2,3⟩,⟨6,2,4⟩,⟨7,2,5⟩,⟨8,3,4⟩,⟨9,3,5⟩,⟨10,4,5⟩]⟩
theorem RC{g:Gr}(hg:GoodE g){s:Bw}(h:sN g.es g.vs.length g.vs ⟨[],[],[],[]⟩=some s){B:List (List Nat)}(hp:B.Perm s.out)(hr:B.Pairwise fun x y=>x.headD 0<y.headD 0):gK g.es=B:=by
 grind [qW,Bb]
theorem DN{g:Gr}(hg:GoodE g){out:List (List Nat)}(h:(sN (sE g.es) g.vs.length g.vs ⟨[],[],[],[]⟩).map (·.out)=some out){B:List (List Nat)}(hp:B.Perm out)(hr:B.Pairwise fun x y=>x.headD 0<y.headD 0):aX g=B.map fun B=>B.map (eAt (sE g.es)):=by obtain⟨s,h1,rfl⟩:=aBe.1 h;unfold aX;rw[RC (g:=⟨g.vs,sE g.es⟩) hg.simple h1 hp hr]
theorem GM:chk CP=0:=by decide +kernel
theorem DY:chk rV=0:=by decide +kernel
theorem Mr:aX CP=[CP.es]:=by rw[DN (kF GM) (out:=[[0,1,2]]) (by decide +kernel) (aEg _) (by decide)];decide +kernel
theorem Ip:aX rV=[rV.es]:=by rw[DN (kF DY) (out:=[[0,1,2,3,4,5,6,7,8,9]]) (by decide +kernel) (aEg _) (by decide)];decide +kernel
theorem Nk:(if chk rV=0 then kR rV (aX rV)else some none)=some none:=by rw[aAk DY,Ip];rfl
theorem PJ:(if chk CP=0 then kR CP (aX CP)else some none)=some (some ⟨CP,[[2,7],[3,4],[5,6]]⟩):=by rw[aAk GM,Mr];rfl
def oB(a b:Nat):List Ed:=rV.es.filter fun e=>decide (e.a<a)||(decide (e.a=a)&&decide (e.b<b))
theorem OE(a b:Nat)(h1:1<=a)(h2:a<b)(h3:b<=5):oB a (b+1)=oB a b++[⟨(oB a b).length+1,a,b⟩]:=by
 have h:∀ a:Fin 6,∀ b:Fin 6,1<=a.1->a.1<b.1->oB a.1 (b.1+1)=oB a.1 b.1++[⟨(oB a.1 b.1).length+1,a.1,b.1⟩]:=by decide +kernel
 exact h ⟨a,oO⟩ ⟨b,oO⟩ h1 h2
theorem ND(a:Nat)(h1:1<=a)(h2:a<=5):oB a 6=oB (a+1) (a+2):=by
 have h:∀ a:Fin 6,1<=a.1->oB a.1 6=oB (a.1+1) (a.1+2):=by decide +kernel
 exact h ⟨a,oO⟩ h1
theorem Ud(a b:Nat):(oB a b).length<=10:=aBf _ _
def FvS(st:St)(a b:Nat)(s:St):Prop:=s.H st.next=.box 25 2 [.nil,.nil]/\aA st s/\∃ tv t,s.H (st.next+2)=.box 25 2 [.sl tv 5 (us [1,2,3,4,5]),.sl t (oB a b).length (eds (oB a b))]/\t≠0/\st.next+2<t/\t<s.next/\s.H t=.own 36 3 (oB a b).length
theorem YD(st:St):aB prog 34 [] st fun r st'=>r=.ag (grL rV)/\aA st st':=by
 refine eR ?_;refine zN func34 ntmps34 [.cell 0 25] ?_;refine fE fun E0=>?_;refine xw0 ?_;refine Gj (st.next+2) 36 3 (e:=25) (s:=2) [.sl (st.next+1) 5 (us [1,2,3,4,5])] [] sS ?_;refine qL (fun n fr s=>∃ a:Nat,1<=a/\a<=6/\n=6-a/\fr 0=.pt st.next 0/\fr 1=.pt (st.next+2) 0/\fr 2=u a/\FvS st a (a+1) s) 5 ?_ ?_
 .refine⟨1,oO,oO,rfl,sS,sS,sS,?_,?_,st.next+1,st.next+3,?_,oO,oO,sS,?_⟩
  ·(repeat (first|rw[nHh nOo]|rw[sHh oO]|rw[nIi nQq]|rw[sIi oO]))
  .exact(((((aA.new _ _).trans (aA.new _ _)).trans (aA.new _ _)).set oO _).trans (aA.new _ _)).set oO _
  .have:oB 1 (1+1)=[]:=by decide +kernel
   rw[this];(repeat (first|rw[nHh nOo]|rw[sHh oO]|rw[nIi nQq]|rw[sIi oO]));simp[us,eds]
  .have:oB 1 (1+1)=[]:=by decide +kernel
   rw[this];(repeat (first|rw[nHh nOo]|rw[sHh oO]|rw[nIi nQq]|rw[sIi oO]));simp
 rintro n fr s ⟨a,a1,a2,rfl,f0,f1,f2,hS⟩ JJ hJJ;by_cases ha:a<=5
 .have hw:IntKind.u32.wrap ((a:Int)+1)=((a+1:Nat):Int):=by rw[wrap_u32' _ oO oO];omega
  have ha2:(a:Int)<=5:=oO;refine xw3 f2 ha2 hw ?_;refine qL (fun n fr s=>∃ b:Nat,a<b/\b<=6/\n=6-b/\fr 0=.pt st.next 0/\fr 1=.pt (st.next+2) 0/\fr 2=u a/\fr 3=u b/\FvS st a b s) (6-(a+1)) ?_ ?_
  .exact⟨a+1,oO,oO,rfl,sF1 f0,sF1 f1,sF1 f2,sS,hS⟩
  clear f0 f1 f2 hS fr s;rintro n fr s ⟨b,b1,b2,rfl,f0,f1,f2,f3,hS⟩ J2 S5;by_cases hb:b<=5
  .have hwb:IntKind.u32.wrap ((b:Int)+1)=((b+1:Nat):Int):=by rw[wrap_u32' _ oO oO];omega
   have P3:(b:Int)<=5:=oO;obtain⟨hR,hk,tv,t,hB,t0,t1,t2,tH⟩:=hS;have z8:=OE a b a1 b1 hb;have M8:=Ud a b;generalize oB a b=E at *;have w1:IntKind.i64.wrap ((E.length:Int)+1)=(E.length:Int)+1:=zW;have w2:IntKind.u32.wrap ((E.length:Int)+1)=(E.length:Int)+1:=wrap_u32' _ oO oO;have hel:=aJ E;have J7:=VM E;have c1:¬t=s.next:=oO;have c2:¬s.next=t:=oO;have c3:¬st.next+2=s.next:=oO;have c4:¬st.next+2=t:=oO;have c5:¬st.next+2=s.next+1:=oO;have c6:¬s.next=st.next+2:=oO
   (repeat' (first|apply qS|apply qB|refine qK (zZ ?_)|(apply qC;simp[f0,f1,f2,f3,P3,hwb,hB,tH,t0,w1,w2,hel,J7,c1,c2,c3,c4,c5,c6])|(refine zE ?_;intro J hJ;simp[f0,f1,f2,f3,P3,hwb,hB,tH,t0,w1,w2,hel,J7,c1,c2,c3,c4,c5,c6];(repeat refine ca ?_);refine zJ hJ ?_)))
   refine S5 (6-(b+1)) _ _ oO ⟨b+1,oO,oO,rfl,sF1 f0,sF1 f1,sF1 f2,sS,?_,?_,tv,s.next+1,?_,oO,oO,sS,?_⟩
   ·(repeat (first|rw[nHh nOo]|rw[sHh oO]|rw[nIi nQq]|rw[sIi oO]));exact hR
   .exact(((hk.trans (aA.new _ _)).set oO _).trans (aA.new _ _)).set oO _
   .rw[z8];(repeat (first|rw[nHh nOo]|rw[sHh oO]|rw[nIi nQq]|rw[sIi oO]));simp[eds,edL]
   .rw[z8];(repeat (first|rw[nHh nOo]|rw[sHh oO]|rw[nIi nQq]|rw[sIi oO]));simp
  .obtain rfl:b=6:=oO;have P3:¬((6:Nat):Int)<=5:=oO;unfold FvS at hS hJJ;rw[ND a a1 ha]at hS;refine xw3 f3 f2 hw ?_;exact hJJ _ _ _ oO ⟨a+1,oO,oO,rfl,sF1 f0,sF1 f1,sS,hS⟩
 .obtain rfl:a=6:=oO;clear hJJ;obtain⟨hR,hk,tv,t,hB,t0,t1,t2,tH⟩:=hS;have hp:oB 6 (6+1)=rV.es:=by decide +kernel
  rw[hp]at hB tH;refine xw5 f0 f1 f2 hB hR ?_;exact⟨by simp only[z0,z0L,yN];rfl,hk.set oO _⟩
end Aw
namespace Aw
open Go Go.RowKit
end Aw
namespace Aw
open Go Go.RowKit Pl
mutual
def lG:LV->Bool
 |.sl t _ cs=>t==0&&sC cs
 |.nil=>true
 |.ag cs=>sC cs
 |.tu cs=>sC cs
 |.atom _=>true
 |_=>false
def sC:List LV->Bool
 |[]=>true
 |c::cs=>lG c&&sC cs
end
abbrev G0:G:=⟨1,fun _=>none,fun _=>0,fun _=>0,fun _=>false⟩
theorem XV(b o:Nat):G0.ok b o:=by simp[G.ok]
mutual
theorem HC{w:World}{g:G}:∀(lv:LV) (v:Value),lG lv=true->Rep w g lv v->Rep w G0 lv v
 |.sl t n cs,v,hp,h=>by simp only[lG,aAQ,aDJ]at hp;obtain⟨rfl,hp⟩:=hp;simp only[Rep]at h ⊢;obtain⟨A,cap,h1,h2,h3,_,h5⟩:=h;refine⟨A,cap,h1,h2,h3,fun h=>absurd rfl h,fun Zy=>?_⟩;obtain⟨b,o,h6,h7⟩:=h5 Zy;exact⟨b,o,h6,xV b cs o hp h7⟩
 |.nil,v,_,h=>by simpa only[Rep]using h
 |.ag cs,v,hp,h=>by simp only[lG]at hp;simp only[Rep]at h ⊢;obtain⟨vs,h1,h2⟩:=h;exact⟨vs,h1,qY cs vs hp h2⟩
 |.tu cs,v,hp,h=>by simp only[lG]at hp;simp only[Rep]at h ⊢;obtain⟨vs,h1,h2⟩:=h;exact⟨vs,h1,qY cs vs hp h2⟩
 |.atom _,_,_,h=>by simpa only[Rep]using h
 |.emp,_,hp,_=>by simp[lG]at hp
 |.dead,_,hp,_=>by simp[lG]at hp
 |.ms _ _ _,_,hp,_=>by simp[lG]at hp
 |.pt _ _,_,hp,_=>by simp[lG]at hp
 |.ep _,_,hp,_=>by simp[lG]at hp
 |.mp _,_,hp,_=>by simp[lG]at hp
 |.fn _ _,_,hp,_=>by simp[lG]at hp
 |.qu _ _ _ _,_,hp,_=>by simp[lG]at hp
 |.pe _ _,_,hp,_=>by simp[lG]at hp
 |.kap _ _ _,_,hp,_=>by simp[lG]at hp
theorem qY{w:World}{g:G}:∀(cs:List LV) (vs:List Value),sC cs=true->aC w g cs vs->aC w G0 cs vs
 |[],vs,_,h=>h
 |c::cs,vs,hp,h=>by simp only[sC,aAQ]at hp;simp only[aC]at h ⊢;obtain⟨v,vs',rfl,h1,h2⟩:=h;exact⟨v,vs',rfl,HC c v hp.1 h1,qY cs vs' hp.2 h2⟩
theorem xV{w:World}{g:G}(b:Nat):∀(cs:List LV) (o:Nat),sC cs=true->aN w g b cs o->aN w G0 b cs o
 |[],_,_,h=>h
 |c::cs,o,hp,h=>by simp only[sC,aAQ]at hp;simp only[aN]at h ⊢;obtain⟨⟨v,h1,h2,h3⟩,h4⟩:=h;exact⟨⟨v,h1,HC c v hp.1 h2,XV b o⟩,xV b cs (o+1) hp.2 h4⟩
end
theorem CX{P:Program}{f:FuncId}{args:List LV}{r0:LV}{st:St}(ha:sC args=true)(hr:∀(w:World) (g g':G) v,Rep w g r0 v->Rep w g' r0 v)
 (h:aB P f args ⟨1,fun _=>.dead⟩ fun r _=>r=r0):aB P f args st fun r st'=>r=r0/\st'=st:=by
 refine⟨h.1,fun w g vs hi hrp=>?_⟩;have hi0:Inv w G0 ⟨1,fun _=>.dead⟩:=by refine⟨rfl,by decide,fun _ _=>rfl,fun l hl=>hl.elim,fun l l' hl=>hl.elim,fun l e s n hl=>(by cases hl),fun l e s cs hl=>(by cases hl),fun l ag ks es hl=>(by cases hl),fun l e n hl=>(by cases hl),sG (hi.aside.glob.phi fun _ _ _ _ _=>rfl) fun _=>rfl⟩
 refine(h.2 w _ vs hi0 (qY _ _ ha hrp)).mono ?_;rintro e w' ⟨v,r,st',g',rfl,rfl,C8,_,he⟩;have hB:Below w.heap.size w w':=⟨he.os,he.tape,he.output,he.size,fun k hk=>(he.still k hk rfl).2⟩;exact⟨v,_,st,g,rfl,⟨rfl,rfl⟩,hr _ _ _ _ C8,vK hi hB,rJ g hB⟩
def YO(k:Int)(p:LV×St):Bool:=match p.1 with
 |.atom (.int .i64 n)=>n==k
 |_=>false
def xIP(k:Int)(r:Option (List (LV×St))):Bool:=match r with
 |some l=>l.all (YO k)
 |none=>false
theorem yD⦃P:Program⦄{T:Tab}{fns:FuncId->Option Func}{pr:jR}(hT:aZ P T)(hf:Ck P fns)(hp:nX P pr)(hm:P.follows .mixedOrders=true)(n:Nat){f:FuncId}{args:List LV}{k:Int}{st:St}(ha:sC args=true)
 (h:xIP k (xE T fns pr n f args ⟨1,fun _=>.dead⟩)=true):aB P f args st fun r st'=>r=i k/\st'=st:=by
 cases hx:xE T fns pr n f args ⟨1,fun _=>.dead⟩ with
 |none=>rw[hx]at h;simp[xIP]at h
 |some l=>
  rw[hx]at h;simp only[xIP]at h;rw[aBO]at h;have:=pR hT hf hp (fun N c fr st L hx=>AZ hT hf hp hm n N c fr st L hx) f args _ l hx;refine CX ha (fun w g g' v h=>by simp only[Rep]at h ⊢;exact h) (this.mono ?_);intro r1 st1 hmm;have hb:=h _ hmm;unfold YO at hb
  split at hb
  .rename_i m c;simp only at c;rw[c,eq_of_beq hb]
  .cases hb
def Ul:Mp:=⟨CP,[[2,7],[3,4],[5,6]]⟩
theorem Jh(st:St):aB prog 11 [.ag (mpL Ul)] st fun r st'=>r=i 0/\st'=st:=
 yD mN SD FZ mixed 1000000 (by kernel_rfl) (by kernel_rfl)
theorem SI(st:St):aB prog 35 [] st fun r st'=>r=bb true/\st'=st:=by
 refine zN func35 ntmps35 [.tmp 0] ?_
 (refine xj0 ?_;intro J hJ)
 refine qE (SR _) (by simp[]) ?_;rintro r st' ⟨rfl,rfl⟩;exact Oq hJ
theorem Qe(st:St):aB prog 36 [] st fun r st'=>r=bb true/\st'=st:=by
 refine zN func36 ntmps36 [.tmp 0] ?_
 (refine xj0 ?_;intro J hJ)
 refine qE (TB _) (by simp[]) ?_;rintro r st' ⟨rfl,rfl⟩;exact Oq hJ
theorem UH(st:St):aB prog 9 [] st fun r st'=>r=bb true/\st'=st:=by
 refine qT (Q:=fun r=>r=bb true) ?_ fun r h=>by subst h;trivial
 have hE1:=Ja CP (by decide) (by decide) PJ;have hE2:=Ja rV (by decide) (by decide) Nk;have hR:=fun s=>Jh s;refine zN func9 ntmps9 [.tmp 0] ?_
 (refine xj0 ?_;intro J hJ)
 refine MD (hE1 _) (by simp[z0,z0L,grL,CP,us,eds,edL]) ?_;rintro r s1 ⟨rfl,j7⟩;unfold JB;have I2:=j7.next;simp only[aG]at I2
 (refine nJ hJ ?_;intro J hJ)
 refine qE (YD _) sS ?_;rintro r s2 ⟨rfl,u5⟩;have K2:=u5.next;simp only[aG]at K2;have Z5:s2.H s1.next=.box 28 3 (mpL Ul):=by rw[u5.H _ sS];simp[Ul]
 have hK2:aA st s2:=((((aA.new _ _).trans (aA.new _ _)).trans j7).trans (aA.new _ _)).trans u5;refine dK hJ ?_;refine qE (hE2 _) sS ?_;rintro r s3 ⟨rfl,o9⟩;unfold JB;have hn3:=o9.next;have hB3:=(o9.H s1.next oO).trans Z5;have c1:¬s1.next=s3.next:=oO;have h3:Ul.g.es.length=3:=rfl
 (refine Ij hJ hB3 c1 ?_;intro J hJ)
 refine xcP (hR _) ?_ (by simp[mpL,grL]);refine nR hJ hB3 c1 h3 ?_;refine xcP (SI _) ?_;refine nR hJ hB3 c1 h3 ?_;refine xcP (Qe _) ?_;refine nR hJ hB3 c1 h3 ?_;exact(hK2.trans o9).trans (aA.new _ _)
theorem Uu(g:Gr)(st:St):aB prog 13 [.ag (grL g)] st fun r st'=>r=i (chk g)/\aA st st':=by
 by_cases h1:(64:Int)<(g.vs.length:Int)
 .have:chk g=6:=by unfold chk;rw[aAk oO]
  refine zN func13 ntmps13 [.tmp 2] ?_;refine xw2 h1 this ?_;exact aA.new _ _
 by_cases h2:(160:Int)<(g.es.length:Int)
 .have:chk g=6:=by unfold chk;rw[aAk oO]
  refine zN func13 ntmps13 [.tmp 2] ?_;refine xw3 h1 h2 this ?_;exact aA.new _ _
 exact Ce g st oO oO
theorem TN(g:Gr)(hv:g.vs.length<=1000)(he:g.es.length<=50){o:Option Mp}(ho:(if chk g=0 then kR g (aX g)else some none)=some o)(st:St):
 aB prog 12 [.ag (grL g)] st fun r st'=>r=bb o.isSome/\aA st st':=by
 refine zN func12 ntmps12 [.tmp 2] ?_
 (refine xj0 ?_;intro J hJ)
 refine qE (Ja g hv oO ho _) sS ?_;rintro r s1 ⟨rfl,j7⟩;unfold JB;cases o with
 |none=>refine dK hJ ?_;exact((aA.new _ _).trans j7).trans (aA.new _ _)
 |some m=>refine dK hJ ?_;exact((aA.new _ _).trans j7).trans (aA.new _ _)
def nZ(g:Gr):Bool:=decide (chk g=0)&&decide (g.vs.length<=24)&&decide (g.es.length<=50)
theorem Uv(g:Gr)(st:St):aB prog 10 [.ag (grL g)] st fun r st'=>r=bb (nZ g)/\st'=st:=by
 refine qT (Q:=fun r=>r=bb (nZ g)) ?_ fun r h=>by subst h;trivial
 refine zN func10 ntmps10 [.tmp 2] ?_
 (refine xj0 ?_;intro J hJ)
 refine qE (Uu g _) sS ?_;rintro r s1 ⟨rfl,j7⟩;have O2:s1.H st.next=.box 25 2 (grL g):=by rw[j7.H _ sS];simp
 have hK1:aA st s1:=(aA.new _ _).trans j7;by_cases hc:chk g=0;rotate_left
 .have hf:nZ g=false:=by unfold nZ;rw[aBC hc];rfl
  generalize chk g=x at *;have hcb:(x==0)=false:=by simpa using hc
  refine nR hJ hcb hc hf ?_;exact hK1
 by_cases h1:(g.vs.length:Int)<=24;rotate_left
 .have hf:nZ g=false:=by unfold nZ;rw[aBs hc,aBC oO];rfl
  refine WB hJ hc hf O2 h1 ?_;exact hK1
 by_cases h2:(g.es.length:Int)<=50
 .have hf:nZ g=true:=by unfold nZ;rw[aBs hc,aBs oO,aBs oO];rfl
  refine ON hJ hc hf O2 h1 h2 ?_;exact hK1
 .have hf:nZ g=false:=by unfold nZ;rw[aBs hc,aBs oO,aBC oO];rfl
  refine ON hJ hc hf O2 h1 h2 ?_;exact hK1
end Aw
namespace Aw
open Go Go.RowKit Pl Eu
def Way(s:Int->Int):List (Int×Int)->Prop
 |[]=>True
 |[_]=>True
 |p::q::Q=>Orb s p.2 q.1/\Way s (q::Q)
def Inn(s:Int->Int)(Q:List (Int×Int))(d:Int):Prop:=∃ q∈Q,Orb s q.2 d
theorem LY{s:Int->Int}:∀ {Q R:List (Int×Int)},Way s (Q++R)->Way s Q/\Way s R
 |[],_,h=>⟨trivial,h⟩
 |[p],R,h=>by
  refine⟨trivial,?_⟩;cases R with
  |nil=>trivial
  |cons r R=>exact h.2
 |p::q::Q,R,h=>by obtain⟨h1,h2⟩:=h;have:=LY (Q:=q::Q) (R:=R) h2;exact⟨⟨h1,this.1⟩,this.2⟩
theorem yZ{s:Int->Int}{R:Int->Int->Prop}(hR:Eqv R)(hs:∀ x y,Orb s x y->R x y):∀ {Q:List (Int×Int)} {a:Int×Int},Way s (a::Q)->(∀ q∈a::Q,R q.1 q.2)->∀ q∈a::Q,R a.1 q.1
 |[],a,_,_,q,hq=>by rw[aAi]at hq;subst hq;exact hR.refl _
 |b::Q,a,hw,hp,q,hq=>by
  rcases aAe.1 hq with rfl|hq
  .exact hR.refl _
  .have h1:R a.1 b.1:=hR.trans (hp a aAf) (hs _ _ hw.1);exact hR.trans h1 (yZ hR hs hw.2 (fun q k=>hp q (aAc _ k)) q hq)
theorem Qo{D:List Int}{s:Int->Int}(hs:dW D s){S Q:List (Int×Int)}{z:Int×Int}(hn:(flP (z::(Q++S))).Nodup)
 (hw:Way s (Q++[z])) (hS:∀ d∈flP S,¬Inn s Q d) (hz:¬Inn s Q z.2) {a:Int} (ha:((Q=[]/\a=z.1)\/∃ p Q',Q=p::Q'/\a=p.1)) (hai:¬Inn s Q a)
 (hf:mgP (Orb s) (Q++S) z.1 z.2->Orb (swP s (Q++S)) z.1 z.2) (hc:mgP (Orb s) S a z.2):Orb (swP s S) a z.2:=by
 have hE:=dM hs.per.eqv (Q++S);have F4:(flP (Q++S)).Nodup:=by have h:(z.1::z.2::flP (Q++S)).Nodup:=hn;exact(aAq.1 (aAq.1 h).2).2
 have hnS:(flP S).Nodup:=by unfold flP at F4 ⊢;rw[aCA]at F4;exact(aAo.1 F4).2.1
 have hdis:∀ x∈flP Q,x∉flP S:=by unfold flP at F4 ⊢;rw[aCA]at F4;exact fun x hx hy=>(aAo.1 F4).2.2 x hx x hy rfl
 have hus:∀ x y,Orb s x y->mgP (Orb s) (Q++S) x y:=fun x y k=>fT _ k;have haz:mgP (Orb s) (Q++S) a z.1:=by
  rcases ha with⟨_,rfl⟩|⟨p,Q',hQ,rfl⟩
  .exact hE.refl _
  .have key:∀(Q:List (Int×Int)) (p:Int×Int),Way s (p::Q++[z])->(∀ q∈p::Q,mgP (Orb s) (p::Q++S) q.1 q.2)->True:=fun _ _ _ _=>trivial;have hway:Way s (p::(Q'++[(z.1,z.1)])):=by
    rw[hQ]at hw;have chg:∀(L:List (Int×Int)) (p:Int×Int),Way s (p::(L++[z]))->Way s (p::(L++[(z.1,z.1)])):=by
     intro L;induction L with
     |nil=>intro p h;exact⟨h.1,trivial⟩
     |cons q L ih=>intro p h;exact⟨h.1,ih q h.2⟩
    exact chg Q' p hw
   exact yZ hE hus hway (fun q hq=>by
    rcases aAe.1 hq with rfl|hq
    .exact jO hs.per.eqv _ (by rw[hQ];exact aAr _ aAf)
    .rcases aAd.1 hq with hq|hq
     .exact jO hs.per.eqv _ (by rw[hQ];exact aAr _ (aAc _ hq))
     .rw[aAi]at hq;subst hq;exact hE.refl _) (z.1,z.1) (aAc _ (aAx _ (aAi.2 rfl)))
 have P7:mgP (Orb s) (Q++S) z.1 z.2:=hE.trans (hE.symm haz) (zT hs.per.eqv (fun p hp=>aAx _ hp) hc);have horb:=hf P7;have c8:∀ d,Inn s Q d->Inn s Q (s d):=fun d ⟨q,hq,k⟩=>⟨q,hq,k.trans (Orb.step s d)⟩;have hpred:∀ p∈Q,(p.1=a/\a≠z.1)\/Inn s Q p.1:=by
  intro p hp;rcases ha with⟨rfl,_⟩|⟨p0,Q',hQ,rfl⟩
  .cases hp
  .have key:∀(L:List (Int×Int)) (b:Int×Int),Way s (b::L)->(∀ q∈b::L,q∈Q)->∀ q∈L,Inn s Q q.1:=by
    intro L;induction L with
    |nil=>intro b _ _ q hq;cases hq
    |cons c L ih=>
     intro b hb hm q hq;rcases aAe.1 hq with rfl|hq
     .exact⟨b,hm b aAf,hb.1⟩
     .exact ih c hb.2 (fun q k=>hm q (aAc _ k)) q hq
   rw[hQ]at hp;rcases aAe.1 hp with rfl|hp
   .refine .inl ⟨rfl,fun e=>?_⟩;have h:(z.1::z.2::flP (Q++S)).Nodup:=hn;exact(aAq.1 h).1 (aAc _ (dD.2 ⟨p,by rw[hQ];exact aAr _ aAf,.inl e.symm⟩))
   .have hw':=(LY hw).1;rw[hQ]at hw';exact .inr (key Q' p0 hw' (fun q k=>by rw[hQ];exact k) p hp)
 have hz1:a=z.1\/Inn s Q z.1:=by
  rcases ha with⟨_,rfl⟩|⟨p0,Q',hQ,rfl⟩
  .exact .inl rfl
  .refine .inr ?_;have key:∀(L:List (Int×Int)) (b:Int×Int),Way s (b::(L++[z]))->(∀ q∈b::L,q∈Q)->Inn s Q z.1:=by
    intro L;induction L with
    |nil=>intro b hb hm;exact⟨b,hm b aAf,hb.1⟩
    |cons c L ih=>intro b hb hm;exact ih c hb.2 fun q k=>hm q (aAc _ k)
   rw[hQ]at hw;exact key Q' p0 hw fun q k=>by rw[hQ];exact k
 have haS:a∉flP S:=fun k=>by
  rcases ha with⟨rfl,rfl⟩|⟨p0,Q',hQ,rfl⟩
  .have h:(z.1::z.2::flP ([]++S)).Nodup:=hn;exact(aAq.1 h).1 (aAc _ k)
  .exact hdis p0.1 (dD.2 ⟨p0,by rw[hQ];exact aAf,.inl rfl⟩) k
 let T:Int->Prop:=fun d=>Orb (swP s S) a d\/Inn s Q d;have hT:∀ d,T d->T (swP s (Q++S) d):=by
  intro d hd;by_cases h1:d∈flP Q
  .obtain⟨p,hp,e⟩:=dD.1 h1;have hx:=nL s F4 p (aAr _ hp);rcases e with rfl|rfl
   .rw[hx.1];exact .inr ⟨p,hp,Orb.step s _⟩
   .rw[hx.2];rcases hpred p hp with⟨k,_⟩|k
    .rw[k];refine .inl ?_;have:swP s S a=s a:=nI s haS;exact⟨1,this⟩
    .exact .inr (c8 _ k)
  .by_cases h2:d∈flP S
   .obtain⟨p,hp,e⟩:=dD.1 h2;have hx:=nL s F4 p (aAx _ hp);have hy:=nL s hnS p hp;have I1:Orb (swP s S) a d:=hd.resolve_right (hS d h2);have heq:swP s (Q++S) d=swP s S d:=by
     rcases e with rfl|rfl
     .rw[hx.1,hy.1]
     .rw[hx.2,hy.2]
    rw[heq];exact .inl (I1.trans (Orb.step _ _))
   .have h3:d∉flP (Q++S):=fun k=>by unfold flP at k h1 h2;rw[aCA,aAd]at k;exact k.elim h1 h2
    rw[nI s h3];rcases hd with hd|hd
    .refine .inl ?_;have:swP s S d=s d:=nI s h2;rw[<- this];exact hd.trans (Orb.step _ _)
    .exact .inr (c8 _ hd)
 have hTn:∀ n d,T d->T (it (swP s (Q++S)) n d):=by
  intro n;induction n with
  |zero=>intro d h;exact h
  |succ n ih=>intro d h;rw[bW];exact hT _ (ih d h)
 obtain⟨n,hnn⟩:=horb;have h0:T z.1:=by
  rcases hz1 with rfl|k
  .exact .inl (Orb.refl _ _)
  .exact .inr k
 have u7:=hTn n z.1 h0;rw[hnn]at u7;exact u7.resolve_right hz
def unA(p:Int×Int):Int×Int:=prP p.1 p.2
def pls(A:List (Int×Int)):List (Int×Int):=A.map fun p=>(cd p,cd p.swap)
structure PlD(E:List Ed)(s:Int->Int)(D:List Int):Prop where
 bl:BlE E
 perm:dW D s
 mem:∀ p:Int×Int,(∃ e∈E,prE e=unA p)->cd p∈D
 orb:∀ p q:Int×Int,(∃ e∈E,prE e=unA p)->(∃ e∈E,prE e=unA q)->(Orb s (cd p) (cd q)↔p.1=q.1)
 flat:Flat D s (tws E)
def PlE(E:List Ed)(s:Int->Int):Prop:=∃ D,PlD E s D
theorem PlE.bl{E:List Ed}{s:Int->Int}(h:PlE E s):BlE E:=let ⟨_,k⟩:=h;k.bl
theorem PlE.per{E:List Ed}{s:Int->Int}(h:PlE E s):Per s:=let ⟨_,k⟩:=h;k.perm.per
structure iP(E:List Ed)(A:List (Int×Int)):Prop where
 mem:∀ p∈A,∃ e∈E,prE e=unA p
 nd:(A.map unA).Nodup
theorem fZ{α β:Type}(f:α->β):∀ {l:List α},(l.map f).Nodup->l.Nodup
 |[],_=>List.nodup_nil
 |x::l,h=>by rw[aAn,aAq]at h;exact aAq.2 ⟨fun k=>h.1 (aAw k),fZ f h.2⟩
theorem pU{α β:Type}{f:α->β}:∀ {l:List α},(l.map f).Nodup->∀ {x y:α},x∈l->y∈l->f x=f y->x=y
 |z::l,h,x,y,hx,hy,e=>by
  rw[aAn,aAq]at h;rcases aAe.1 hx with rfl|kx
  .rcases aAe.1 hy with rfl|ky
   .rfl
   .exact absurd (aAj.2 ⟨y,ky,e.symm⟩) h.1
  .rcases aAe.1 hy with rfl|ky
   .exact absurd (aAj.2 ⟨x,kx,e⟩) h.1
   .exact pU h.2 kx ky e
theorem fQ(p:Int×Int):unA p.swap=unA p:=aL _ _
def orA(A:List (Int×Int))(e:Ed):Int×Int:=if(e.a,e.b)∈A then(e.a,e.b)else if(e.b,e.a)∈A then(e.b,e.a)else(e.a,e.b)
theorem Fb(A:List (Int×Int))(e:Ed):orA A e=(e.a,e.b)\/orA A e=(e.b,e.a):=by
 unfold orA
 split
 .exact .inl rfl
 .split
  .exact .inr rfl
  .exact .inl rfl
theorem Qp(A:List (Int×Int))(e:Ed):unA (orA A e)=prE e:=by
 rcases Fb A e with h|h
 .rw[h];rfl
 .rw[h];exact aL _ _
theorem Sx(a b x:Int):Eu.sw a b x=Eu.sw b a x:=by
 unfold Eu.sw;by_cases h1:x=a
 .by_cases h2:x=b
  .rw[aAk h1,aAk h2,<- h1,<- h2]
  .rw[aAk h1,aAa h2,aAk h1]
 .rw[aAa h1];by_cases h2:x=b
  .rw[aAk h2,aAk h2]
  .rw[aAa h2,aAa h2,aAa h1]
theorem Ra(s:Int->Int)(A:List (Int×Int)):∀(E:List Ed) (x:Int),swP s (tws E) x=swP s (pls (E.map (orA A))) x
 |[],_=>rfl
 |e::E,x=>by
  show swP s (tws E) (Eu.sw _ _ x)=swP s (pls (E.map (orA A))) (Eu.sw (cd (orA A e)) (cd (orA A e).swap) x);rw[Ra s A E];rcases Fb A e with h|h
  .rw[h];rfl
  .rw[h];show _=swP s _ (Eu.sw (cd (e.b,e.a)) (cd (e.a,e.b)) x);rw[Sx]
section
variable {E:List Ed} (hP:BlE E)
include hP
theorem BlE.bd{e:Ed}(he:e∈E):(0<=e.a/\e.a<4194304)/\0<=e.b/\e.b<4194304:=by have:=gN (x:=e.a) (y:=e.b) he rfl;exact⟨hP.bnd _ this.1,hP.bnd _ this.2⟩
theorem BlE.arc_bd{p:Int×Int}(h:∃ e∈E,prE e=unA p):(0<=p.1/\p.1<4194304)/\(0<=p.2/\p.2<4194304)/\p.1≠p.2:=by
 obtain⟨e,he,hp⟩:=h;have hb:=hP.bd he;have Zy:=hP.ne e he;rcases bK hp with⟨e1,e2⟩|⟨e1,e2⟩
 .rw[<- e1,<- e2];exact⟨hb.1,hb.2,Zy⟩
 .rw[<- e1,<- e2];exact⟨hb.2,hb.1,aCv Zy⟩
theorem BlE.fl_nd:∀ {A:List (Int×Int)},iP E A->(flP (pls A)).Nodup
 |[],_=>List.nodup_nil
 |p::A,h=>by
  have hA:iP E A:=⟨fun q hq=>h.mem q (aAc _ hq),(aAq.1 h.nd).2⟩;have ih:=BlE.fl_nd hA;obtain⟨b1,b2,b3⟩:=hP.arc_bd (h.mem p aAf);have hn:=(aAq.1 h.nd).1;have key:∀ q:Int×Int,unA q=unA p->((0<=q.1/\q.1<4194304)/\0<=q.2/\q.2<4194304)->cd q∉flP (pls A):=by
   intro q hq bq k;obtain⟨r,hr,e⟩:=dD.1 k;obtain⟨a,ha,rfl⟩:=aAj.1 hr;obtain⟨c1,c2,_⟩:=hP.arc_bd (h.mem a (aAc _ ha));rcases e with e|e
   .have:=gR bq.2 c2 e;exact hn (aAj.2 ⟨a,ha,by rw[<- this,hq]⟩)
   .have:=gR (q:=a.swap) bq.2 c1 e;exact hn (aAj.2 ⟨a,ha,by rw[<- hq,this,fQ]⟩)
  show(cd p::cd p.swap::flP (pls A)).Nodup;rw[aAq,aAq];refine⟨fun k=>?_,key p.swap (fQ p) ⟨b2,b1⟩,ih⟩;rcases aAe.1 k with k|k
  .have:=gR (p:=p) (q:=p.swap) b2 b1 k;exact b3 (congrArg Prod.fst this)
  .exact key p rfl ⟨b1,b2⟩ k
end
section
variable {E:List Ed} {s:Int->Int} (hP:PlE E s)
include hP
theorem PlE.arc_bd{p:Int×Int}(h:∃ e∈E,prE e=unA p):(0<=p.1/\p.1<4194304)/\(0<=p.2/\p.2<4194304)/\p.1≠p.2:=hP.bl.arc_bd h
theorem PlE.fl_nd{A:List (Int×Int)}(h:iP E A):(flP (pls A)).Nodup:=hP.bl.fl_nd h
theorem PlE.ors(A:List (Int×Int)):iP E (E.map (orA A)):=by
 refine⟨fun p hp=>?_,?_⟩
 .obtain⟨e,he,rfl⟩:=aAj.1 hp;exact⟨e,he,(Qp A e).symm⟩
 .have e:(E.map (orA A)).map unA=E.map prE:=by rw[aAZ];exact aAP fun e _=>Qp A e
  rw[e];exact hP.bl.sim
theorem PlE.sub{A:List (Int×Int)}(hA:iP E A):∃ R,(E.map (orA A)).Perm (R++A):=by
 refine⟨(E.map (orA A)).filter fun p=>decide (p∉A),?_⟩;have hB:=hP.ors A;have hBn:=fZ unA hB.nd;have hAn:=fZ unA hA.nd;refine(aBd hBn ?_).2 fun p=>?_
 .rw[aAo];refine⟨hBn.filter _,hAn,fun x hx y hy e=>?_⟩;have:=(aAC.1 hx).2;simp only[aBr]at this;exact this (e ▸ hy)
 .rw[aAd,aAC];simp only[aBr];constructor
  .intro h;by_cases k:p∈A
   .exact .inr k
   .exact .inl ⟨h,k⟩
  .rintro(h|h)
   .exact h.1
   .obtain⟨e,he,hp⟩:=hA.mem p h;refine aAj.2 ⟨e,he,?_⟩;rcases bK hp with⟨e1,e2⟩|⟨e1,e2⟩
    .have:(e.a,e.b)=p:=aBU e1 e2;unfold orA;rw[this,aAk h]
    .have h1:(e.a,e.b)∉A:=fun k=>by have h3:unA (e.a,e.b)=unA p:=hp;have:=pU hA.nd k h h3;have h4:=hP.bl.ne e he;rw[<- this]at e1 e2;exact h4 e1
     have:(e.b,e.a)=p:=aBU e2 e1;unfold orA;rw[aAa h1,this,aAk h]
omit hP in
theorem PlD.pairs{D:List Int}(hP:PlD E s D){A:List (Int×Int)}(hA:iP E A):gM (D) (pls A):=by intro q hq;obtain⟨p,hp,rfl⟩:=aAj.1 hq;have hm:=hA.mem p hp;obtain⟨b1,b2,b3⟩:=PlE.arc_bd ⟨D,hP⟩ hm;exact⟨hP.mem _ hm,hP.mem _ (by rw[fQ];exact hm),fun e=>b3 (congrArg Prod.fst (gR (p:=p) (q:=p.swap) b2 b1 e))⟩
omit hP in
theorem PlD.flat_or{D:List Int}(hP:PlD E s D)(A:List (Int×Int)):Flat (D) s (pls (E.map (orA A))):=by
 have h:=hP.flat;have e:swP s (tws E)=swP s (pls (E.map (orA A))):=funext fun x=>Ra s A E x;have hE:=hP.perm.per.eqv;have up:∀ x y,Orb s x y->mgP (Orb s) (pls (E.map (orA A))) x y:=fun x y k=>fT _ k;have up':∀ x y,Orb s x y->mgP (Orb s) (tws E) x y:=fun x y k=>fT _ k;have e2:ncl (mgP (Orb s) (tws E)) (D)=ncl (mgP (Orb s) (pls (E.map (orA A)))) (D):=by
  refine dH fun x _ y _=>⟨fun k=>Aj (dM hE _) up (fun p hp=>?_) x y k,fun k=>Aj (dM hE _) up' (fun p hp=>?_) x y k⟩
  .obtain⟨f,hf,rfl⟩:=aAj.1 hp;have hm:(cd (orA A f),cd (orA A f).swap)∈pls (E.map (orA A)):=aAj.2 ⟨_,aAw hf,rfl⟩;have:=jO hE _ hm;rcases Fb A f with h|h
   .rw[h]at this;exact this
   .rw[h]at this;exact(dM hE _).symm this
  .obtain⟨q,hq,rfl⟩:=aAj.1 hp;obtain⟨f,hf,rfl⟩:=aAj.1 hq;have hm:(cd (f.a,f.b),cd (f.b,f.a))∈tws E:=aAj.2 ⟨f,hf,rfl⟩;have:=jO hE _ hm;rcases Fb A f with h|h
   .rw[h];exact this
   .rw[h];exact(dM hE _).symm this
 unfold Flat at h ⊢;rw[<- e,<- e2];have:(pls (E.map (orA A))).length=(tws E).length:=by unfold pls tws;simp
 rw[this];exact h
theorem PlE.face{p:Int×Int}{A:List (Int×Int)}(hA:iP E (p::A)):mgP (Orb s) (pls A) (cd p) (cd p.swap)->Orb (swP s (pls A)) (cd p) (cd p.swap):=by
 obtain⟨R,hR⟩:=hP.sub hA;have hB:=hP.ors (p::A);have hp:(pls (E.map (orA (p::A)))).Perm (pls R++(cd p,cd p.swap)::pls A):=by have:=hR.map fun p:Int×Int=>(cd p,cd p.swap);rw[aAu]at this;exact this
 have hnd:=hP.fl_nd hB;obtain⟨D,hP⟩:=hP;exact(NR hP.perm (hP.pairs hB) hnd (hP.flat_or _) hp).2
end
def Lp(m:Mp)(R:List (List Int)):Prop:=rN (fc m m.g.es) (aQ m.g.es) (aQ m.g.es).length R
section
variable {m:Mp} (h:bM m) {R:List (List Int)} (hR:Lp m R)
include h hR
end
section
variable {m:Mp} (h:bM m)
include h
end
def CC(m:Mp)(x y:Int):Prop:=x=y\/∃ v w,x∈ends m.g.es v/\y∈ends m.g.es w/\Reach m.g.es v w
theorem CC.eqv{m:Mp}(h:bM m):Eqv (CC m):=by
 refine⟨fun x=>.inl rfl,?_,?_⟩
 .rintro x y (rfl|⟨v,w,h1,h2,h3⟩)
  .exact .inl rfl
  .exact .inr ⟨w,v,h2,h1,h3.symm⟩
 .rintro x y z (rfl|⟨v,w,h1,h2,h3⟩) (rfl|⟨v',w',k1,k2,k3⟩)
  .exact .inl rfl
  .exact .inr ⟨v',w',k1,k2,k3⟩
  .exact .inr ⟨v,w,h1,h2,h3⟩
  .have:=dY h.g.ids h2 k1;subst this;exact .inr ⟨v,w',h1,k2,h3.trans k3⟩
theorem HY{C:Int->Int->Prop}(hC:Eqv C){l:List Int}:∀(t:List Int) (x:Int),x∈t->(∀ y∈t,∀ z∈t,C y z)->ncl C (t++l)=ncl C l+@ite Nat (∃ y∈l,C y x) (Classical.propDecidable _) 0 1
 |[],x,hx,_=>by grind
 |[z],x,hx,_=>by rw[aAi]at hx;subst hx;rfl
 |z::z'::t,x,hx,hall=>by
  have ih:=HY hC (l:=l) (z'::t) z' aAf (fun y hy w hw=>hall y (aAc _ hy) w (aAc _ hw));have hzx:C z' x:=hall z' sS x hx;rw[List.cons_append,aT ⟨z',sS,hall z' sS z sS⟩,ih]
  congr 1
  by_cases h1:∃ y∈l,C y z'
  .obtain⟨y,hy,hr⟩:=h1;rw[aAk ⟨y,hy,hr⟩,aAk ⟨y,hy,hC.trans hr hzx⟩]
  .rw[aAa h1,aAa];rintro⟨y,hy,hr⟩;exact h1 ⟨y,hy,hC.trans hr (hC.symm hzx)⟩
theorem Hl{R C:Int->Int->Prop}(hC:Eqv C):∀(L:List (Int×List Int)),(∀ p∈L,∀ q∈L,∀ x∈p.2,∀ y∈q.2,(C x y↔R p.1 q.1))->(∀ p∈L,R p.1 p.1)->L.Pairwise (fun p q=>(p.2=[]\/q.2=[])->¬R q.1 p.1)->
 ncl R (L.map (·.1))=ncl C (L.map (·.2)).flatten+(L.filter fun p=>decide (p.2=[])).length
 |[],_,_,_=>rfl
 |(v,t)::L,h1,h3,h2=>by
  rw[aBl]at h2;have ih:=Hl hC L (fun p hp q hq=>h1 p (aAc _ hp) q (aAc _ hq)) (fun p hp=>h3 p (aAc _ hp)) h2.2;simp only[aAn,List.flatten_cons];by_cases ht:t=[]
  .grind [aM]
  .obtain⟨x,hx⟩:=aAS t ht;have E7:(v,t)∈(v,t)::L:=aAf;rw[HY hC t x hx (fun y hy z hz=>(h1 _ E7 _ E7 y hy z hz).2 (h3 _ E7))];have hf:((v,t)::L).filter (fun p=>decide (p.2=[]))=L.filter (fun p=>decide (p.2=[])):=by rw[aDR,aAa (by grind)]
   rw[hf];by_cases he:∃ u∈L.map (·.1),R u v
   .rw[aT he,ih,aAk]
    .omega
    .obtain⟨u,hu,hr⟩:=he;obtain⟨q,hq,rfl⟩:=aAj.1 hu;have S7:q.2≠[]:=fun e=>h2.1 q hq (.inr e) hr;obtain⟨y,hy⟩:=aAS q.2 S7;exact⟨y,aAX.2 ⟨q.2,aAj.2 ⟨q,hq,rfl⟩,hy⟩,(h1 q (aAc _ hq) _ E7 y hy x hx).2 hr⟩
   .rw[aM he,ih,aAa]
    .omega
    .rintro⟨y,hy,hr⟩;obtain⟨s,hs,hys⟩:=aAX.1 hy;obtain⟨q,hq,rfl⟩:=aAj.1 hs;exact he ⟨q.1,aAj.2 ⟨q,hq,rfl⟩,(h1 q (aAc _ hq) _ E7 y hys x hx).1 hr⟩
theorem xF{es:List Ed}{v w:Int}(hn:nbr es v=[])(h:Reach es v w):v=w:=by
 induction h with
 |refl=>rfl
 |step _ hw ih=>grind
section
variable {m:Mp} (h:bM m)
include h
theorem bM.ncl_parts:ncl (Reach m.g.es) m.g.vs=ncl (CC m) (aQ m.g.es)+alone m.g:=by
 have O7:∀ p∈m.g.vs.zip m.rots,∃ k,∃ h1:k<m.g.vs.length,∃ h2:k<m.rots.length,p=(m.g.vs[k],m.rots[k]):=by intro p hp;obtain⟨k,hk,rfl⟩:=aAA hp;rw[aDU]at hk;exact⟨k,oO,oO,by grind⟩
 have K8:∀ k (h1:k<m.g.vs.length) (h2:k<m.rots.length),Eg m.g.es m.g.vs[k] m.rots[k]:=fun k h1 h2=>by
  have:=h.ok k h1
  grind
 have key:=Hl (R:=Reach m.g.es) (CC.eqv h) (m.g.vs.zip m.rots) (fun p hp q hq x hx y hy=>?_) (fun p _=>.refl) ?_
 .rw[aDS (by rw[h.len];omega),aDv (by rw[h.len];omega)]at key;rw[key,oU (CC.eqv h) h.mW]
  congr 1
  have e1:((m.g.vs.zip m.rots).filter fun p=>decide (p.2=[])).length=(m.rots.filter fun t=>decide (t=[])).length:=by
   have e2:m.rots.filter (fun t=>decide (t=[]))=((m.g.vs.zip m.rots).filter fun p=>decide (p.2=[])).map (·.2):=by
    conv=>lhs;rw[<- aDv (l₁:=m.g.vs) (l₂:=m.rots) (by rw[h.len];omega)]
    rw[List.filter_map];rfl
   rw[e2,aAD]
  have e3:=filter_eq (fun t=>decide (t=[])) (fun v=>!decide (nbr m.g.es v=[])) m.rots m.g.vs h.len fun k h1 h2=>by
   have hk:=K8 k h2 h1;have e4:m.rots[k]=[]↔nbr m.g.es m.g.vs[k]=[]:=by
    rw[<- oR];constructor
    .intro h3;have:=hk.1;simp_all
    .intro h3;have:=hk.1;simp_all
   grind
  have e5:alone m.g+m.g.vs.countP (fun v=>!decide (nbr m.g.es v=[]))=m.g.vs.length:=by
   unfold alone;rw[List.length_eq_countP_add_countP (fun v=>decide (nbr m.g.es v=[])) (l:=m.g.vs)]
   congr 1
   congr 1
   funext v
   simp
  have:=h.len;omega
 .obtain⟨j,j1,j2,rfl⟩:=O7 p hp;obtain⟨k,k1,k2,rfl⟩:=O7 q hq;have L9:=(K8 j j1 j2).1.mem_iff.1 hx;have hy':=(K8 k k1 k2).1.mem_iff.1 hy;constructor
  .rintro(rfl|⟨v,w,h1,h2,h3⟩)
   .rw[dY h.g.ids L9 hy'];exact .refl
   .rw[dY h.g.ids L9 h1,dY h.g.ids hy' h2];omega
  .intro hr;exact .inr ⟨_,_,L9,hy',hr⟩
 .rw[aAB];intro a b ha hb x7;rw[aDU]at ha hb;rw[aDs,aDs];simp only;intro he hr;have dQ:=aAB.1 h.g.rise a b oO oO x7;rcases he with he|he
  .have h1:=(K8 a oO oO).1;rw[he]at h1;have:=xF ((oR _ _).1 h1.symm.eq_nil) hr.symm;omega
  .have h1:=(K8 b oO oO).1;rw[he]at h1;have:=xF ((oR _ _).1 h1.symm.eq_nil) hr;omega
variable {R:List (List Int)} (hR:Lp m R) (hb:∀ x∈m.g.es,tix R (2*x.id)≠tix R (2*x.id+1))
include hR hb
end
section
variable {m:Mp} (h:bM m)
include h
end
section
variable {m:Mp} (h:bM m)
include h
theorem bM.it_v{v d:Int}(hd:d∈ends m.g.es v):∀ n,it (sg m) n d∈ends m.g.es v
 |0=>hd
 |n+1=>by rw[bW];exact h.sg_at_v (bM.it_v hd n)
theorem bM.sg_orb{v d e:Int}(hd:d∈ends m.g.es v)(he:e∈ends m.g.es v):∃ n,it (sg m) n d=e:=by
 obtain⟨t,ht,X6⟩:=h.turn_of (rL hd);have het:e∈t:=by obtain⟨k,_,_,h1,_⟩:=h.turn ht;have:=dY h.g.ids (h1.mem_iff.1 X6) hd;rw[this]at h1;exact h1.mem_iff.2 he
 have hit:∀ n,it (sg m) n d=it (nx t) n d/\it (sg m) n d∈t:=fun n=>by
  induction n with
  |zero=>exact⟨rfl,X6⟩
  |succ n ih=>rw[bW,bW,<- ih.1];exact⟨Dg h ht ih.2,h.sg_mem ht ih.2⟩
 obtain⟨n,hn⟩:=Ii (h.nodup ht) X6 het;exact⟨n,by rw[(hit n).1,hn]⟩
end
end Aw
end Go.Proofs.YtbgngpdonpeboaaGreatDoor
