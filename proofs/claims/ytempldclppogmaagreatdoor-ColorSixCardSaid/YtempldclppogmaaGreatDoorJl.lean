/- Plain: all blocks of a graph are found. -/
import Derived.Test.YtempldclppogmaaGreatDoorJk
import Derived.Test.YtempldclppogmaaGreatDoorAwTd
set_option linter.unusedVariables false
set_option linter.unusedSimpArgs false
set_option linter.defProp false
set_option maxHeartbeats 4000000
open Go.Proofs.Tryz
namespace Go.Proofs.YtempldclppogmaaGreatDoor
namespace Aw
open Go Go.RowKit Pl Eu
section
variable {g:Gr} (hg:GoodE g)
include hg
theorem KQ(n:Nat)(ih:∀(A:Int->Prop) (s:Bw) (v YJ:Int),yP g A s v YJ->v∈g.vs->(∀ w∈s.vis,w∈g.vs)->g.vs.length<=n+s.vis.length->∃ s1 C T N,nT g.es n v YJ s=some s1/\Jp g s v YJ s1 C T N/\∀ c∈C,c∈g.vs)
 {A:Int->Prop} {s0:Bw} {v YJ:Int} (h0:yP g A s0 v YJ) (hn:g.vs.length<=n+(s0.vis.length+1)):
 ∀(R Q:List Nat) (s:Bw) (D:List Int) (T:List Nat) (N:List (List Nat)),Q++R=atP g.es v->BLp g s0 v YJ Q s D T N->(∀ w∈s.vis,w∈g.vs)->
  ∃ s1 D T N,goB (gQ (nT g.es n) g.es v YJ ((s0.vis.length:Int)+1)) R s=some s1/\BLp g s0 v YJ (atP g.es v) s1 D T N/\∀ w∈s1.vis,w∈g.vs
 |[],Q,s,D,T,N,hQ,h,hv=>⟨s,D,T,N,rfl,by rw[aAK]at hQ;rw[<- hQ];exact h,hv⟩
 |i::R,Q,s,D,T,N,hQ,h,hv=>by
  have hi:i∈atP g.es v:=by rw[<- hQ];simp
  have hnd:(atP g.es v).Nodup:=aCJ _ aDo;have hiQ:i∉Q:=fun k=>by rw[<- hQ,aAs]at hnd;exact hnd.2.2 i k i sS rfl
  have hQ2:(Q++[i])++R=atP g.es v:=by rw[<- hQ];simp
  have go:∀ s2 D T N,gQ (nT g.es n) g.es v YJ ((s0.vis.length:Int)+1) s i=some s2->BLp g s0 v YJ (Q++[i]) s2 D T N->(∀ w∈s2.vis,w∈g.vs)->∃ s1 D T N,goB (gQ (nT g.es n) g.es v YJ ((s0.vis.length:Int)+1)) (i::R) s=some s1/\BLp g s0 v YJ (atP g.es v) s1 D T N/\∀ w∈s1.vis,w∈g.vs:=fun s2 D T N e h2 hv2=>by obtain⟨s1,D1,T1,N1,k1,k2,k3⟩:=KQ n ih h0 hn R (Q++[i]) s2 D T N hQ2 h2 hv2;exact⟨s1,D1,T1,N1,by rw[goB,e];exact k1,k2,k3⟩
  by_cases hb:(i:Int)=YJ
  .exact go s D T N (by unfold gQ;rw[aAe hb]) (h.same hg h0 hi hb) hv
  by_cases Xl:oth (eAt g.es i) v∈s.vis
  .by_cases I6:nmW s.vis (oth (eAt g.es i) v)<(s0.vis.length:Int)+1
   .exact go _ D _ N (by unfold gQ;rw[aAa hb,aAe Xl,aAe I6]) (h.back hg h0 hi hiQ hb Xl I6) hv
   .exact go s D T N (by unfold gQ;rw[aAa hb,aAe Xl,aAa I6]) (h.skip hg h0 hi Xl I6) hv
  .have hlen:s.vis.length=s0.vis.length+1+D.length:=by rw[h.vis,aAh,List.length_cons];omega
   have huv:oth (eAt g.es i) v∈g.vs:=hg.nbr (lW hi);obtain⟨s1,C,T',N',e,hp,hC⟩:=ih _ (eF s i) _ i (h.pre hg h0 hi Xl) huv hv (by show g.vs.length<=n+s.vis.length;omega);obtain⟨s2,D2,T2,N2,e2,h2⟩:=h.child hg h0 hi hiQ hb Xl hp;refine go s2 D2 T2 N2 (by unfold gQ;rw[aAa hb,aAa Xl,e];exact e2) h2 fun w hw=>?_;have e3:s2.vis=s1.vis:=by
    unfold LM at e2
    split at e2
    .unfold Fj at e2
     split at e2
     .cases e2;rfl
     .cases e2
    .cases e2;rfl
   rw[e3,hp.vis,aAg]at hw;exact hw.elim (hv w) (hC w)
theorem Dw:∀(n:Nat) (A:Int->Prop) (s:Bw) (v YJ:Int),yP g A s v YJ->v∈g.vs->(∀ w∈s.vis,w∈g.vs)->g.vs.length<=n+s.vis.length->∃ s1 C T N,nT g.es n v YJ s=some s1/\Jp g s v YJ s1 C T N/\∀ c∈C,c∈g.vs
 |0,A,s,v,YJ,h,hv,hs,hn=>by
  have h1:(s.vis++[v]).length<=g.vs.length:=aAF (by
   rw[aAs]
   exact⟨h.nd,sS,fun a ha b hb=>by rintro rfl;rw[aAl]at hb;subst hb;exact h.new ha⟩) fun w hw=>by
    rcases aAg.1 hw with k|k
    .exact hs w k
    .rw[aAl]at k;rw[k];exact hv
  simp at h1;omega
 |n+1,A,s,v,YJ,h,hv,hs,hn=>by
  obtain⟨s1,D,T,N,e,h1,v5⟩:=KQ hg n (Dw n) h oO (atP g.es v) [] (oR s v) [] [] [] rfl h.start fun w hw=>by
   have hw:w∈s.vis++[v]:=hw;rcases aAg.1 hw with k|k
   .exact hs w k
   .rw[aAl]at k;rw[k];exact hv
  have hp:=h1.done hg h;exact⟨s1,_,T,N,e,hp,fun c hc=>v5 c (by rw[hp.vis];exact aAI _ hc)⟩
structure JC(g:Gr)(s:Bw):Prop where
 ln:s.low.length=s.vis.length
 nd:s.vis.Nodup
 sub:∀ w∈s.vis,w∈g.vs
 fin:∀ w∈s.vis,∀ i∈atP g.es w,oth (eAt g.es i) w∈s.vis
 stk:s.stk=[]
 pl:∀ i,i∈s.out.flatten↔i<g.es.length/\(eAt g.es i).a∈s.vis
 pn:s.out.flatten.Nodup
 good:∀ B∈s.out,dF g.es B
theorem Dt(n:Nat)(hn:g.vs.length<=n):∀(l:List Int) (s:Bw),(∀ v∈l,v∈g.vs)->JC g s->∃ s1,wL g.es n l s=some s1/\JC g s1/\(∀ v∈s.vis,v∈s1.vis)/\∀ v∈l,v∈s1.vis
 |[],s,_,h=>⟨s,rfl,h,fun _ h=>h,fun v hv=>by cases hv⟩
 |v::l,s,hl,h=>by
  by_cases hv:v∈s.vis
  .obtain⟨s1,e,k1,k2,k3⟩:=Dt n hn l s (fun w hw=>hl w (aAj _ hw)) h;refine⟨s1,by rw[wL,aAe hv];exact e,k1,k2,fun w hw=>?_⟩;rcases aAf.1 hw with rfl|hw
   .exact k2 _ hv
   .exact k3 _ hw
  .have Z8:yP g (fun _=>False) s v (-1):=⟨h.ln,h.nd,fun a ha=>ha.elim,fun w hw _=>h.fin w hw,hv,fun a b ha=>ha.elim,.inl ⟨rfl,fun a ha=>ha⟩⟩;obtain⟨s1,C,T,N,e,hp,hC⟩:=Dw hg n _ s v (-1) Z8 (hl v sS) h.sub oO;have hT:T=[]:=by
    cases T with
    |nil=>rfl
    |cons i T=>obtain⟨b,hb,_⟩:=hp.rel i sS;omega
   subst hT;have Xh:∀ w∈s1.vis,∀ i∈atP g.es w,oth (eAt g.es i) w∈s1.vis:=fun w hw i hi=>by
    have ZV:=hw;rw[hp.vis,aAg]at ZV;rcases ZV with k|k
    .rw[hp.vis];exact aAt _ (h.fin w k i hi)
    .exact hp.clo w k i hi
   have hall:JC g s1:={
    ln:=hp.ln
    nd:=hp.nd
    sub:=fun w hw=>by rw[hp.vis,aAg]at hw;exact hw.elim (h.sub w) (hC w)
    fin:=Xh
    stk:=by rw[hp.stk,h.stk];rfl
    pl:=fun i=>by
     have h2:=hp.pl i;rw[List.nil_append]at h2;rw[hp.out,aCb,aAg,h.pl i,h2,hp.vis,aAg];constructor
     .rintro(⟨k1,k2⟩|⟨k1,_,k2⟩)
      .exact⟨k1,.inl k2⟩
      .refine⟨k1,?_⟩;rcases k2 with k2|k2
       .exact .inr k2
       .have:=hp.clo _ k2 i (aT.2 ⟨k1,.inr rfl⟩);rw[hp.vis,aAg]at this;have e1:oth (eAt g.es i) (eAt g.es i).b=(eAt g.es i).a:=by unfold oth;split<;>first|(next q=>exact q.symm)|rfl
        rwa [e1]at this
     .rintro⟨k1,k2|k2⟩
      .exact .inl ⟨k1,k2⟩
      .exact .inr ⟨k1,oO,.inl k2⟩
    pn:=by
     have h2:=hp.pn;rw[List.nil_append]at h2;rw[hp.out,aCb,aAs];refine⟨h.pn,h2,fun a ha b hb=>?_⟩;rintro rfl;have k1:=(h.pl a).1 ha;have k2:=(hp.pl a).1 (by rw[List.nil_append];exact hb);have hd:∀ c∈C,c∉s.vis:=fun c hc k=>by have:=hp.nd;rw[hp.vis,aAs]at this;exact this.2.2 c k c hc rfl
     rcases k2.2.2 with k|k
     .exact hd _ k k1.2
     .have:=h.fin _ k1.2 a (aT.2 ⟨k1.1,.inl rfl⟩);have e1:oth (eAt g.es a) (eAt g.es a).a=(eAt g.es a).b:=by unfold oth;rw[aAe rfl]
      rw[e1]at this;exact hd _ k this
    good:=fun B hB=>by
     rw[hp.out,aAg]at hB
     exact hB.elim (h.good B) (hp.good B) }
   obtain⟨s2,e2,k1,k2,k3⟩:=Dt n hn l s1 (fun w hw=>hl w (aAj _ hw)) hall;refine⟨s2,by rw[wL,aAa hv,e];exact e2,k1,fun w hw=>k2 w (by rw[hp.vis];exact aAt _ hw),fun w hw=>?_⟩;rcases aAf.1 hw with rfl|hw
   .exact k2 _ (by rw[hp.vis];exact aAI _ hp.hd)
   .exact k3 _ hw
theorem vJ:∃ s,wL g.es g.vs.length g.vs ⟨[],[],[],[]⟩=some s/\s.stk=[]/\(∀ i,i∈s.out.flatten↔i<g.es.length)/\s.out.flatten.Nodup/\∀ B∈s.out,dF g.es B:=by obtain⟨s,e,h,_,h3⟩:=Dt hg g.vs.length (aAk _) g.vs ⟨[],[],[],[]⟩ (fun _ h=>h) ⟨rfl,.nil,fun w hw=>(by cases hw),fun w hw=>(by cases hw),rfl,fun i=>by simp,sS,fun B hB=>(by cases hB)⟩;refine⟨s,e,h.stk,fun i=>?_,h.pn,h.good⟩;rw[h.pl i];exact and_iff_left_of_imp fun hi=>h3 _ (hg.ends _ (nN hi)).1
end
def esB(es:List Ed)(B:List Nat):List Ed:=B.map (eAt es)
theorem Lg{es:List Ed}{w p z:Int}(hz:z≠p){y:Int}(h:RIn es (·≠w) p y):RIn es (fun t=>t≠w/\t≠z) p y\/∃ y',z∈nbr es y'/\RIn es (fun t=>t≠w/\t≠z) p y':=by
 induction h with
 |refl h=>exact .inl (.refl ⟨h,fun e=>hz e.symm⟩)
 |@step y u h hn hs ih=>
  rcases ih with ih|ih
  .by_cases e:u=z
   .subst e;exact .inr ⟨y,hn,ih⟩
   .exact .inl (.step ih hn ⟨hs,e⟩)
  .exact .inr ih
theorem LC{es:List Ed}{w p q:Int}{S:Int->Prop}(hp:S p)(h:RIn es (·≠w) p q):S q\/∃ z z',S z/\z'∈nbr es z/\RIn es (fun t=>t≠w/\¬S t) z' q:=by
 induction h with
 |refl h=>exact .inl hp
 |@step y u h hn hs ih=>
  by_cases hu:S u
  .exact .inl hu
  by_cases hy:S y
  .exact .inr ⟨y,u,hy,hn,.refl ⟨hs,hu⟩⟩
  rcases ih with ih|⟨z,z',h1,h2,h3⟩
  .exact absurd ih hy
  .exact .inr ⟨z,z',h1,h2,.step h3 hn ⟨hs,hu⟩⟩
theorem Kr{es:List Ed}{B:List Nat}{y z:Int}(h:z∈nbr (esB es B) y):∃ i∈B,((eAt es i).a=y\/(eAt es i).b=y)/\oth (eAt es i) y=z:=by
 rw[cM]at h;obtain⟨x,hx,h⟩:=h;obtain⟨i,hi,rfl⟩:=aAm.1 hx;refine⟨i,hi,oO,?_⟩;unfold oth
 split<;>omega
theorem KV{es:List Ed}{B:List Nat}{i:Nat}(hi:i∈B){y:Int}(h:(eAt es i).a=y\/(eAt es i).b=y):oth (eAt es i) y∈nbr (esB es B) y:=by
 rw[cM];refine⟨_,aAx hi,?_⟩;unfold oth
 split
 .exact .inl ⟨by assumption,rfl⟩
 .exact .inr ⟨oO,rfl⟩
theorem RIn.up{es:List Ed}{B:List Nat}(hB:∀ i∈B,i<es.length){S:Int->Prop}{x y:Int}(h:RIn (esB es B) S x y):RIn es S x y:=by
 induction h with
 |refl h=>exact .refl h
 |step h hn hs ih=>refine .step ih ?_ hs;obtain⟨i,hi,he,rfl⟩:=Kr hn;exact lW (aT.2 ⟨hB i hi,he⟩)
section
variable {g:Gr} (hg:GoodE g)
include hg
theorem dF.ring_in{B:List Nat}(h:dF g.es B){i j:Nat}(hi:i∈B)(hj:j<g.es.length){w:Int}(hr:QN g.es w (eAt g.es i) (eAt g.es j)):RIn (esB g.es B) (·≠w) (oth (eAt g.es i) w) (oth (eAt g.es j) w):=by
 obtain⟨h1,h2,h3⟩:=hr;have hjB:j∈B:=h.all i hi j hj ⟨w,h1,h2,h3⟩;have hpw:oth (eAt g.es i) w≠w:=sU hg (aT.2 ⟨h.lt i hi,h1⟩);have hqw:oth (eAt g.es j) w≠w:=sU hg (aT.2 ⟨hj,h2⟩);rcases LC (S:=fun t=>RIn (esB g.es B) (·≠w) (oth (eAt g.es i) w) t) (.refl hpw) h3 with k|⟨z,z',k1,k2,k3⟩
 .exact k
 exfalso;have hzw:z≠w:=k1.here.2;obtain⟨l,hl,he⟩:=ER k2;have S7:=aT.1 hl;have back:RIn g.es (·≠z) z' w:=by have a:=k3.mono (S':=(·≠z)) fun t ht e=>ht.2 (by rw[e];exact k1);refine .step a (pJ (lW (aT.2 ⟨hj,h2⟩))) fun e=>hzw e.symm
 have Xl:l∈B:=by
  by_cases ez:z=oth (eAt g.es i) w
  .refine h.all i hi l S7.1 ⟨z,by rw[ez];exact lQ _ _,S7.2,?_⟩;rw[he,ez,lY h1,<- ez];exact back.symm
  .rcases Lg ez k1 with k|⟨y',k4,k5⟩
   .exact absurd rfl k.here.2.2
   .obtain⟨o,ho,hoe,hoz⟩:=Kr k4;refine h.all o ho l S7.1 ⟨z,by rw[<- hoz];exact lQ _ _,S7.2,?_⟩;rw[he,<- hoz,lY hoe,hoz];have a:RIn g.es (·≠z) (oth (eAt g.es i) w) y':=(k5.mono (S':=(·≠z)) fun t ht=>ht.2).up h.lt;have b:RIn g.es (·≠z) w (oth (eAt g.es i) w):=.step (.refl fun e=>hzw e.symm) (lW (aT.2 ⟨h.lt i hi,h1⟩)) fun e=>ez e.symm;exact((back.trans b).trans a).symm
 have:RIn (esB g.es B) (·≠w) (oth (eAt g.es i) w) z':=.step k1 (by rw[<- he];exact KV Xl S7.2) k3.here.1.1;exact k3.here.1.2 this
theorem dF.con{B:List Nat}(h:dF g.es B)(v:Int){i j:Nat}(hi:i∈B)(hr:mH g.es i j):∀ p q,((eAt g.es i).a=p\/(eAt g.es i).b=p)->((eAt g.es j).a=q\/(eAt g.es j).b=q)->p≠v->q≠v->RIn (esB g.es B) (·≠v) p q:=by
 have one:∀ k∈B,∀ p q,((eAt g.es k).a=p\/(eAt g.es k).b=p)->((eAt g.es k).a=q\/(eAt g.es k).b=q)->p≠v->q≠v->RIn (esB g.es B) (·≠v) p q:=fun k hk p q h1 h2 hp hq=>by
  rcases(fE h1 q).1 h2 with e|e
  .rw[e];exact .refl hp
  .exact .step (.refl hp) (by rw[e];exact KV hk h1) hq
 induction hr with
 |refl=>exact one i hi
 |@step j k hr Y9 hk hre ih=>
  intro p q hp hq hpv hqv;have hj:j∈B:=(h.iff hi).2 hr;have hkB:k∈B:=h.all j hj k hk hre;obtain⟨w,w1,w2,w3⟩:=hre;by_cases e:v=w
  .subst e;have h1:=ih p (oth (eAt g.es j) v) hp (lQ _ _) hpv (sU hg (aT.2 ⟨Y9,w1⟩));have h2:=h.ring_in hg hj hk ⟨w1,w2,w3⟩;rcases(fE w2 q).1 hq with e|e
   .exact absurd e hqv
   .rw[e];exact h1.trans h2
  .exact(ih p w hp w1 hpv fun x=>e x.symm).trans (one k hkB w q w2 hq (fun x=>e x.symm) hqv)
omit hg in
theorem dF.eq{B B':List Nat}(h:dF g.es B)(h':dF g.es B'){j:Nat}(hj:j∈B)(hj':j∈B'):B=B':=by
 have hn:B.Nodup:=h.rise.imp fun k=>aBu k;have D8:B'.Nodup:=h'.rise.imp fun k=>aBu k;have hp:B.Perm B':=(aAZ hn D8).2 fun k=>by rw[h.iff hj,h'.iff hj']
 exact hp.eq_of_pairwise (fun a b _ _ h1 h2=>absurd h1 oO) h.rise h'.rise
end
noncomputable def gX(es:List Ed)(i:Nat):List Nat:=(List.range es.length).filter fun j=>@decide (mH es i j) (Classical.propDecidable _)
theorem GJ{es:List Ed}{i j:Nat}:j∈gX es i↔j<es.length/\mH es i j:=by unfold gX;rw[aAr,aBa,@aAL _ (Classical.propDecidable _)]
theorem DC(es:List Ed)(i:Nat):(gX es i).Pairwise (· < ·):=aCJ _ aBY
noncomputable def fO(es:List Ed):List (List Nat):=((List.range es.length).filter fun i=>decide ((gX es i).headD 0=i)).map (gX es)
theorem head_mem{l:List Nat}(h:l≠[]):l.headD 0∈l:=by
 cases l with
 |nil=>exact absurd rfl h
 |cons a l=>simp
theorem dF.cls{es:List Ed}{B:List Nat}(h:dF es B){i:Nat}(hi:i∈B):B=gX es i:=by
 have hn:B.Nodup:=h.rise.imp fun k=>aBu k;have D8:(gX es i).Nodup:=(DC es i).imp fun k=>aBu k;have hp:B.Perm (gX es i):=(aAZ hn D8).2 fun k=>by rw[GJ,<- h.iff hi];exact⟨fun q=>⟨h.lt k q,q⟩,fun q=>q.2⟩
 exact hp.eq_of_pairwise (fun a b _ _ h1 h2=>absurd h1 oO) h.rise (DC es i)
theorem IZ{es:List Ed}{out B:List (List Nat)}(hall:∀ i,i∈out.flatten↔i<es.length)(v9:∀ B∈out,dF es B)(hp:B.Perm out)(hr:B.Pairwise fun x y=>x.headD 0<y.headD 0):B=fO es:=by
 have Yp:∀ b,b∈B↔b∈fO es:=fun b=>by
  unfold fO;rw[hp.mem_iff,aAm];constructor
  .intro hb;have ho:=v9 b hb;have hh:=head_mem ho.ne;have hc:=ho.cls hh;refine⟨b.headD 0,?_,hc.symm⟩;rw[aAr,aBa,aAL,<- hc];exact⟨ho.lt _ hh,rfl⟩
  .rintro⟨i,hi,rfl⟩;rw[aAr,aBa,aAL]at hi;obtain⟨b,hb,hib⟩:=aAY.1 ((hall i).2 hi.1);rw[<- (v9 b hb).cls hib];exact hb
 have hl:(fO es).Pairwise fun x y=>x.headD 0<y.headD 0:=by unfold fO;rw[aAV];refine(aCJ (fun i=>decide ((gX es i).headD 0=i)) (aBY (n:=es.length))).imp_of_mem ?_;intro a b ha hb YC;rw[aAr,aAL]at ha hb;rw[ha.2,hb.2];exact YC
 have U8:B.Perm (fO es):=(aAZ (hr.imp fun k e=>by rw[e]at k;omega) (hl.imp fun k e=>by rw[e]at k;omega)).2 Yp;exact U8.eq_of_pairwise (fun a b _ _ h1 h2=>absurd h1 oO) hr hl
end Aw
theorem Aw.CE.zns:True:=trivial
theorem Aw.CR.zns:True:=trivial
open Go Go.RowKit Pl Aw
open Aw.CE
open Aw.CR
namespace Aw.CR
structure Rw where
 en:Int->Nat
 ec:Int->List LV
end Aw.CR
namespace Aw.CE
structure fR(OM:FuncId)(cX:List LV)(eg:Int->Ed)(Dm:Int->Prop):Prop where
 call:∀ x y st,Dm x->Dm y->aB prog OM ([.ag (edL (eg x)),.ag (edL (eg y))]++cX) st fun r st'=>(∃ n,r=i n/\(n<0↔x<y))/\st'=st
end Aw.CE
namespace Aw.CR
structure fR(OM:FuncId)(cX:List LV)(eg:Rw)(Dm:Int->Prop):Prop where
 call:∀ x y st,Dm x->Dm y->aB prog OM ([.sl 0 (eg.en x) (eg.ec x),.sl 0 (eg.en y) (eg.ec y)]++cX) st fun r st'=>(∃ n,r=i n/\(n<0↔x<y))/\st'=st
end Aw.CR
namespace Aw.CE
def es3(eg:Int->Ed)(c:List Int):List LV:=eds (c.map eg)
theorem aQ(eg:Int->Ed)(c:List Int):(es3 eg c).length=c.length*3:=by unfold es3;rw[aN,aAz]
end Aw.CE
namespace Aw.CR
abbrev ws(eg:Rw)(c:List Int):List LV:=c.map fun x=>.sl 0 (eg.en x) (eg.ec x)
end Aw.CR
namespace Aw.CE
theorem aR(eg:Int->Ed)(l:List Int)(j:Nat)(hj:j<l.length):(es3 eg l).drop (j*3)=u (eg (l.getD j 0)).id::u (eg (l.getD j 0)).a::u (eg (l.getD j 0)).b::es3 eg (l.drop (j+1)):=by
 unfold es3;rw[aW _ _ (by simpa using hj),aCi];have e:(l.map eg).getD j ed0=eg (l.getD j 0):=by rw[jF _ _ (by simpa using hj),bG _ _ hj,aCl]
 rw[e]
end Aw.CE
namespace Aw.CR
theorem aR(eg:Rw)(l:List Int)(j:Nat)(hj:j<l.length):(ws eg l).drop j=.sl 0 (eg.en (l.getD j 0)) (eg.ec (l.getD j 0))::ws eg (l.drop (j+1)):=by rw[bG _ _ hj,ws,ws,<- aCi,aAO hj];rfl
end Aw.CR
namespace Aw.CE
theorem BK(eg:Int->Ed)(c:List Int)(k:Nat)(x:Int)(hk:k<c.length):(es3 eg c).take (k*3)++u (eg x).id::u (eg x).a::u (eg x).b::(es3 eg c).drop (k*3+3)=es3 eg (c.set k x):=by unfold es3;rw[gP _ _ _ (by simpa using hk),aEU]
end Aw.CE
namespace Aw.CR
theorem BK(eg:Rw)(c:List Int)(k:Nat)(x:Int)(hk:k<c.length):(ws eg c).take k++.sl 0 (eg.en x) (eg.ec x)::(ws eg c).drop (k+1)=ws eg (c.set k x):=by simp only[ws];rw[<- aEO,<- aCi,aBG,aAe hk];simp
end Aw.CR
namespace Aw.CE
theorem cF{Dm:Int->Prop}{l:List Int}(h:∀ x∈l,Dm x){k:Nat}(hk:k<l.length):Dm (l.getD k 0):=h _ (by rw[bG _ _ hk];exact aAA _)
theorem cS{Dm:Int->Prop}{a b:Nat}{l c:List Int}(h:∀ x∈l,Dm x)(k:Pm a b l c):∀ x∈c,Dm x:=fun x hx=>h x (k.perm.mem_iff.1 hx)
abbrev bx(eg:Int->Ed)(st:St)(q:Nat)(c:List Int):St:=st.set q (.box 56 3 (es3 eg c))
end Aw.CE
namespace Aw.CR
abbrev bx(eg:Rw)(st:St)(q:Nat)(c:List Int):St:=st.set q (.box 23 1 (ws eg c))
end Aw.CR
namespace Aw.CE
theorem fH{eg:Int->Ed}{st:St}{q:Nat}{c:List Int}(h:st.H q=.box 56 3 (es3 eg c)):st=bx eg st q c:=
 St.ext' rfl fun x=>by by_cases hx:x=q<;>simp[hx,h]
end Aw.CE
namespace Aw.CR
theorem fH{eg:Rw}{st:St}{q:Nat}{c:List Int}(h:st.H q=.box 23 1 (ws eg c)):st=bx eg st q c:=
 St.ext' rfl fun x=>by by_cases hx:x=q<;>simp[hx,h]
end Aw.CR
namespace Aw.CE
theorem dL(eg:Int->Ed)(st:St)(q:Nat)(c:List Int)(k m:Nat){x y:Int}(hk:k<c.length)(hm:m<c.length)(hx:c.getD k 0=x)(hy:c.getD m 0=y):
 ((bx eg st q c).set q (.box 56 3 (List.take (k*3) (es3 eg c)++u (eg y).id::u (eg y).a::u (eg y).b::List.drop (k*3+3) (es3 eg c)))).set q
   (.box 56 3 (List.take (m*3) (List.take (k*3) (es3 eg c)++u (eg y).id::u (eg y).a::u (eg y).b::List.drop (k*3+3) (es3 eg c))++u (eg x).id::u (eg x).a::u (eg x).b::List.drop (m*3+3) (List.take (k*3) (es3 eg c)++u (eg y).id::u (eg y).a::u (eg y).b::List.drop (k*3+3) (es3 eg c))))=bx eg st q (sw c k m):=by
 have e:List.take (k*3) (es3 eg c)++u (eg y).id::u (eg y).a::u (eg y).b::List.drop (k*3+3) (es3 eg c)=es3 eg (c.set k y):=BK eg c k y hk;rw[e,BK eg (c.set k y) m x (by simpa using hm)];unfold bx sw;rw[hx,hy];exact St.ext' rfl fun z=>by by_cases hz:z=q<;>simp[hz]
end Aw.CE
namespace Aw.CR
theorem dL(eg:Rw)(st:St)(q:Nat)(c:List Int)(k m:Nat){x y:Int}(hk:k<c.length)(hm:m<c.length)(hx:c.getD k 0=x)(hy:c.getD m 0=y):
 ((bx eg st q c).set q (.box 23 1 (List.take k (ws eg c)++.sl 0 (eg.en y) (eg.ec y)::List.drop (k+1) (ws eg c)))).set q
   (.box 23 1 (List.take m (List.take k (ws eg c)++.sl 0 (eg.en y) (eg.ec y)::List.drop (k+1) (ws eg c))++.sl 0 (eg.en x) (eg.ec x)::List.drop (m+1) (List.take k (ws eg c)++.sl 0 (eg.en y) (eg.ec y)::List.drop (k+1) (ws eg c))))=bx eg st q (sw c k m):=by
 have e:List.take k (ws eg c)++.sl 0 (eg.en y) (eg.ec y)::List.drop (k+1) (ws eg c)=ws eg (c.set k y):=BK eg c k y hk;rw[e,BK eg (c.set k y) m x (by simpa using hm)];unfold bx sw;rw[hx,hy];exact St.ext' rfl fun z=>by by_cases hz:z=q<;>simp[hz]
end Aw.CR
theorem mU:(∀ ⦃OM:FuncId⦄ ⦃cX:List LV⦄ ⦃eg:Int->Ed⦄ ⦃Dm:Int->Prop⦄ (hC:fR OM cX eg Dm) (l:List Int) (q a b:Nat) (st:St) (hD:∀ x∈l,Dm x) (hl:small l) (ha:a<=b) (hb:b<=l.length) (hH:st.H q=.box 56 3 (es3 eg l)),
 aB prog 200 [.ms q 0 l.length,i a,i b,.fn (.func OM) cX] st fun r st'=>∃ c,st'=bx eg st q c/\Pm a b l c/\Srt a b c)/\(∀ ⦃OM:FuncId⦄ ⦃cX:List LV⦄ ⦃eg:Rw⦄ ⦃Dm:Int->Prop⦄ (hC:fR OM cX eg Dm) (l:List Int) (q a b:Nat) (st:St) (hD:∀ x∈l,Dm x) (hl:small l) (ha:a<=b) (hb:b<=l.length) (hH:st.H q=.box 23 1 (ws eg l)),
 aB prog 147 [.ms q 0 l.length,i a,i b,.fn (.func OM) cX] st fun r st'=>∃ c,st'=bx eg st q c/\Pm a b l c/\Srt a b c):=by
 refine⟨?_,?_⟩
 all_goals
  intro OM cX eg Dm hC l q a b st hD hl ha hb hH;unfold small at hl
  first|(have _:Int->Ed:=eg;refine zN func200 ntmps200 [] ?_)|refine zN func147 ntmps147 [] ?_
  have G7:=qN a oO
  (repeat' (first|apply qS|apply qB|(refine zE ?_;intro J hJ;simp[G7];refine zJ hJ ?_)))
  refine qL (fun n fr st'=>∃(k:Nat) (c:List Int),a<k/\n=b-k/\(fr 0=.ms q 0 l.length/\fr 3=.fn (.func OM) cX)/\fr 1=i a/\fr 2=i b/\fr 8=i k/\st'=bx eg st q c/\Pm a b l c/\Srt a k c) (b-(a+1)) ?_ ?_
  .exact⟨a+1,l,oO,rfl,sS,sS,sS,sS,fH hH,.refl,fun p q h1 h2 h3=>by omega⟩
  rintro n fr Yy ⟨k,c,n9,rfl,⟨f0,fC⟩,f1,f2,f6,rfl,Xf,hs⟩ JJ hJJ;have Xh:=Xf.len;have x8:=cS hD Xf;by_cases GD:k<b;rotate_left
  .clear hJJ;have YG:¬(k:Int)<(b:Int):=oO
   (repeat' (first|apply qS|refine qX (zZ ?_)|(apply qC;simp[f0,fC,f1,f2,f6,GD])|(refine zE ?_;intro J hJ;simp[f0,fC,f1,f2,f6,GD];refine zJ hJ ?_)))
   exact⟨trivial,c,rfl,Xf,fun p q h1 h2 h3=>hs p q h1 h2 oO⟩
  have Yt:=qN k oO
  (repeat' (first|apply qS|apply qB|refine qK (zZ ?_)|(apply qC;simp[f0,fC,f1,f2,f6,GD])|(refine zE ?_;intro J hJ;simp[f0,fC,f1,f2,f6,GD];refine zJ hJ ?_)))
  refine qL (fun n fr st'=>∃(j:Nat) (c:List Int),a<=j/\j<=k/\j=n/\(fr 0=.ms q 0 l.length/\fr 3=.fn (.func OM) cX)/\fr 1=i a/\fr 2=i b/\fr 8=i k/\fr 9=i j/\st'=bx eg st q c/\Pm a b l c/\Ins a j k c) k ?_ ?_
  .exact⟨k,c,oO,oO,rfl,by simp[f0,fC],by simp[f1],by simp[f2],by simp[f6],sS,rfl,Xf,hs.ins⟩
  clear f0 fC f1 f2 f6 hs Xf Xh x8 c fr;rintro n fr Yy ⟨j,c,haj,K8,rfl,⟨f0,fC⟩,f1,f2,f6,f7,rfl,Xf,hI⟩ JJ2 K1;have Xh:=Xf.len;have x8:=cS hD Xf;by_cases hj:a<j;rotate_left
  .clear K1;have hj':¬(a:Int)<(j:Int):=oO
   (repeat (apply qS));(refine zS [] [q] [0,2,4,6,8,10,12,14,16,18,20,22,24,26,29,30,32] ?_;intro J hJ;simp[f0,fC,f1,f2,f6,f7,hj];refine zJ hJ ?_)
   (repeat' (first|refine qX (zZ ?_)|(apply qC;simp[f6,Yt])|(refine zE ?_;intro J hJ;simp[f6,Yt];refine zJ hJ ?_)))
   exact hJJ (b-(k+1)) _ _ oO ⟨k+1,c,oO,rfl,by simp[f0,fC],by simp[f1],by simp[f2],sS,rfl,Xf,hI.done haj (.inl oO)⟩
  have ZV:=aG j oO oO;have Y9:j<l.length:=oO;have hjl1:j-1<l.length:=oO;have hd:=aR eg c j oO;have YM:=aR eg c (j-1) oO;have hI1:=hI.step hj K8 oO;have hI2:=hI.done haj;have Yo:=Xf.step j (j-1) oO oO oO oO oO;generalize hx:c.getD j 0=x at *;generalize hy:c.getD (j-1) 0=y at *
  (repeat (apply qS));(refine zS [] [q] [0,2,4,6,8,10,12,14,16,18,20,22,24,26,29,30,32] ?_;intro J hJ;simp[f0,fC,f1,f2,f6,f7,hj,ZV,Y9,hjl1,Xh,hd,YM,aQ])
  refine aK (hC.call x y _ (by first|assumption|(subst_vars;exact cF (by assumption) oO)) (by first|assumption|(subst_vars;exact cF (by assumption) oO))) ?_;rintro r s2 ⟨⟨nv,rfl,ZS⟩,rfl⟩;refine⟨fun _=>by simp,?_⟩;by_cases hcd:x<y;rotate_left
  .clear K1
   (apply aS;simp[ZS,hcd];refine zJ hJ ?_)
   (repeat' (first|refine qX (zZ ?_)|(apply qC;simp[f6,Yt])|(refine zE ?_;intro J hJ;simp[f6,Yt];refine zJ hJ ?_)))
   exact hJJ (b-(k+1)) _ _ oO ⟨k+1,c,oO,rfl,by simp[f0,fC],by simp[f1],by simp[f2],sS,rfl,Xf,hI2 (.inr hcd)⟩
  clear hJJ
  (apply aS;simp[ZS,hcd];refine zJ hJ ?_)
  (repeat' (first|apply qS|apply qB|refine qK (zZ ?_)|(apply qC;simp[])))
  (refine zS [] [q] [0,2,4,6,8,10,12,14,16,18,20,22,24,26,28,31,32,35] ?_;intro J hJ;simp[f0,fC,f1,f2,f6,f7,ZV,Y9,hjl1,Xh,hd,YM,aQ];(repeat refine ca ?_);refine zJ hJ ?_)
  (repeat' (refine zE ?_;intro J hJ;simp[f7,ZV];refine zJ hJ ?_))
  exact K1 (j-1) _ _ oO ⟨j-1,sw c j (j-1),oO,oO,rfl,by simp[f0,fC],by simp[f1],by simp[f2],by simp[f6],sS,dL eg st q c j (j-1) oO oO hx hy,Yo,hI1 hcd⟩
def Aw.CE.insertionSort:=mU.1
def Aw.CR.insertionSort:=mU.2
theorem oQ:(∀ ⦃OM:FuncId⦄ ⦃cX:List LV⦄ ⦃eg:Int->Ed⦄ ⦃Dm:Int->Prop⦄ (hC:fR OM cX eg Dm) (l:List Int) (q a b:Nat) (st:St) (hD:∀ x∈l,Dm x) (hl:small l) (ha:a<=b) (hb:b<=l.length) (h0:0<b) (hH:st.H q=.box 56 3 (es3 eg l)),
 aB prog 204 [.ms q 0 l.length,i a,i b,.fn (.func OM) cX] st fun r st'=>∃ c,st'=bx eg st q c/\Pm a b l c)/\(∀ ⦃OM:FuncId⦄ ⦃cX:List LV⦄ ⦃eg:Rw⦄ ⦃Dm:Int->Prop⦄ (hC:fR OM cX eg Dm) (l:List Int) (q a b:Nat) (st:St) (hD:∀ x∈l,Dm x) (hl:small l) (ha:a<=b) (hb:b<=l.length) (h0:0<b) (hH:st.H q=.box 23 1 (ws eg l)),
 aB prog 151 [.ms q 0 l.length,i a,i b,.fn (.func OM) cX] st fun r st'=>∃ c,st'=bx eg st q c/\Pm a b l c):=by
 refine⟨?_,?_⟩
 all_goals
  intro OM cX eg Dm hC l q a b st hD hl ha hb h0 hH;unfold small at hl
  first|(have _:Int->Ed:=eg;refine zN func204 ntmps204 [] ?_)|refine zN func151 ntmps151 [] ?_
  have G7:=aG b oO oO
  (repeat' (first|apply qS|apply qB|(refine zE ?_;intro J hJ;simp[G7];refine zJ hJ ?_)))
  refine qL (fun n fr st'=>∃(k m:Nat) (c:List Int),a<=k/\m<b/\m=n/\(fr 0=.ms q 0 l.length/\fr 3=.fn (.func OM) cX)/\fr 8=i k/\fr 9=i m/\st'=bx eg st q c/\Pm a b l c) (b-1) ?_ ?_
  .exact⟨a,b-1,l,oO,oO,rfl,sS,sS,sS,fH hH,.refl⟩
  rintro n fr Yy ⟨k,m,c,n9,Zf,rfl,⟨f0,fC⟩,f6,f7,rfl,Xf⟩ JJ hJJ;have Xh:=Xf.len;have x8:=cS hD Xf;by_cases GD:k<m;rotate_left
  .clear hJJ
   (repeat' (first|apply qS|refine qX (zZ ?_)|(apply qC;simp[f0,fC,f6,f7,GD])|(refine zE ?_;intro J hJ;simp[f0,fC,f6,f7,GD];refine zJ hJ ?_)))
   exact⟨trivial,c,rfl,Xf⟩
  have Yt:=qN k oO;have ZV:=aG m oO oO;have K7:k<l.length:=oO;have Yw:m<l.length:=oO;have hd:=aR eg c k oO;have YM:=aR eg c m oO;have Yo:=Xf.step k m oO oO oO oO oO;generalize hx:c.getD k 0=x at *;generalize hy:c.getD m 0=y at *
  (repeat' (first|apply qS|apply qB|refine qK (zZ ?_)|(apply qC;simp[f0,fC,f6,f7,GD])|(refine zE ?_;intro J hJ;simp[f0,fC,f6,f7,GD];refine zJ hJ ?_)))
  (refine zS [] [q] [0,2,4,6,8,10,12,14,16,18,20,22,24,27,28,31] ?_;intro J hJ;simp[f0,fC,f6,f7,K7,Yw,Xh,hd,YM,aQ];(repeat refine ca ?_);refine zJ hJ ?_)
  (repeat' (first|apply qS|(refine zE ?_;intro J hJ;simp[f6,f7,Yt,ZV];refine zJ hJ ?_)))
  exact hJJ (m-1) _ _ oO ⟨k+1,m-1,sw c k m,oO,oO,rfl,by simp[f0,fC],sS,sS,dL eg st q c k m oO oO hx hy,Yo⟩
def Aw.CE.jX:=oQ.1
def Aw.CR.jX:=oQ.2
open Go Go.RowKit Pl Aw
open Aw.CE
open Aw.CR
theorem DA:(∀(eg:Int->Ed) (st:St) (q:Nat) (c:List Int) (k m:Nat) ⦃x y:Int⦄ (hk:k<c.length) (hm:m<c.length) (hx:c.getD k 0=x) (hy:c.getD m 0=y),
 (st.set q (.box 56 3 (List.take (k*3) (es3 eg c)++u (eg y).id::u (eg y).a::u (eg y).b::List.drop (k*3+3) (es3 eg c)))).set q
   (.box 56 3 (List.take (m*3) (List.take (k*3) (es3 eg c)++u (eg y).id::u (eg y).a::u (eg y).b::List.drop (k*3+3) (es3 eg c))++u (eg x).id::u (eg x).a::u (eg x).b::List.drop (m*3+3) (List.take (k*3) (es3 eg c)++u (eg y).id::u (eg y).a::u (eg y).b::List.drop (k*3+3) (es3 eg c))))=bx eg st q (sw c k m))/\(∀(eg:Rw) (st:St) (q:Nat) (c:List Int) (k m:Nat) ⦃x y:Int⦄ (hk:k<c.length) (hm:m<c.length) (hx:c.getD k 0=x) (hy:c.getD m 0=y),
 (st.set q (.box 23 1 (List.take k (ws eg c)++.sl 0 (eg.en y) (eg.ec y)::List.drop (k+1) (ws eg c)))).set q
   (.box 23 1 (List.take m (List.take k (ws eg c)++.sl 0 (eg.en y) (eg.ec y)::List.drop (k+1) (ws eg c))++.sl 0 (eg.en x) (eg.ec x)::List.drop (m+1) (List.take k (ws eg c)++.sl 0 (eg.en y) (eg.ec y)::List.drop (k+1) (ws eg c))))=bx eg st q (sw c k m)):=by
 refine⟨?_,?_⟩
 all_goals
  intro eg st q c k m x y hk hm hx hy;rw[<- dL eg st q c k m hk hm hx hy];exact St.ext' rfl fun z=>by by_cases hz:z=q<;>simp[hz]
def Aw.CE.pZ:=DA.1
def Aw.CR.pZ:=DA.2
theorem xU:(∀ ⦃OM:FuncId⦄ ⦃cX:List LV⦄ ⦃eg:Int->Ed⦄ ⦃Dm:Int->Prop⦄ (hC:fR OM cX eg Dm) (l:List Int) (q lo hi f:Nat) (st:St) (hD:∀ x∈l,Dm x) (hl:small l) (hb:f+hi<=l.length) (C1:lo<=l.length) (hh:mV (lo+1) hi f l) (hH:st.H q=.box 56 3 (es3 eg l)),
 aB prog 214 [.ms q 0 l.length,i lo,i hi,i f,.fn (.func OM) cX] st fun r st'=>∃ c,st'=bx eg st q c/\Pm (f+lo) (f+hi) l c/\mV lo hi f c)/\(∀ ⦃OM:FuncId⦄ ⦃cX:List LV⦄ ⦃eg:Rw⦄ ⦃Dm:Int->Prop⦄ (hC:fR OM cX eg Dm) (l:List Int) (q lo hi f:Nat) (st:St) (hD:∀ x∈l,Dm x) (hl:small l) (hb:f+hi<=l.length) (C1:lo<=l.length) (hh:mV (lo+1) hi f l) (hH:st.H q=.box 23 1 (ws eg l)),
 aB prog 189 [.ms q 0 l.length,i lo,i hi,i f,.fn (.func OM) cX] st fun r st'=>∃ c,st'=bx eg st q c/\Pm (f+lo) (f+hi) l c/\mV lo hi f c):=by
 refine⟨?_,?_⟩
 all_goals
  intro OM cX eg Dm hC l q lo hi f st hD hl hb C1 hh hH;unfold small at hl
  first|(have _:Int->Ed:=eg;refine zN func214 ntmps214 [] ?_)|refine zN func189 ntmps189 [] ?_
  (repeat' (first|apply qS|apply qB|(refine zE ?_;intro J hJ;simp[];refine zJ hJ ?_)))
  refine qL (fun n fr st'=>∃(r:Nat) (c:List Int),lo<=r/\r<=l.length/\n=hi-r/\(fr 0=.ms q 0 l.length/\fr 4=.fn (.func OM) cX)/\fr 2=i hi/\fr 3=i f/\fr 10=i r/\st'=bx eg st q c/\Pm (f+lo) (f+hi) l c/\rV lo hi f r c) (hi-lo) ?_ ?_
  .exact⟨lo,l,aAk _,C1,rfl,sS,sS,sS,sS,fH hH,.refl,hh.x⟩
  rintro n fr Yy ⟨r,c,hlr,hrl,rfl,⟨f0,fC⟩,f2,f3,f8,rfl,Xf,hX⟩ JJ hJJ;have Xh:=Xf.len;have x8:=cS hD Xf;obtain⟨m,hm⟩:∃ m:Nat,m=2*r+1:=⟨_,rfl⟩;obtain⟨m2,X4⟩:∃ m:Nat,m=2*r+2:=⟨_,rfl⟩;have w1:IntKind.i64.wrap (2*(r:Int))=2*(r:Int):=zW;have w2:IntKind.i64.wrap (2*(r:Int)+1)=(m:Int):=zW;have w3:IntKind.i64.wrap ((m:Int)+1)=(m2:Int):=zW;by_cases hmh:hi<=m
  .clear hJJ
   (repeat' (first|apply qS|apply qB|refine qX (zZ ?_)|(apply qC;simp[f0,fC,f2,f3,f8,w1,w2,hmh])|(refine zE ?_;intro J hJ;simp[f0,fC,f2,f3,f8,w1,w2,hmh];refine zJ hJ ?_)))
   exact⟨trivial,c,rfl,Xf,hX.leaf oO⟩
  obtain⟨x1,hx1⟩:∃ x:Nat,x=f+m:=⟨_,rfl⟩;obtain⟨x2,Ys⟩:∃ x:Nat,x=f+m2:=⟨_,rfl⟩;obtain⟨x0,ZF⟩:∃ x:Nat,x=f+r:=⟨_,rfl⟩;have w4:IntKind.i64.wrap ((f:Int)+(m:Int))=(x1:Int):=zW;have w5:IntKind.i64.wrap ((x1:Int)+1)=(x2:Int):=zW;have w6:IntKind.i64.wrap ((f:Int)+(r:Int))=(x0:Int):=zW
  (repeat' (first|apply qS|apply qB|(refine zE ?_;intro J hJ;simp[f0,fC,f2,f3,f8,w1,w2,hmh];refine zJ hJ ?_)))
  (apply qC;simp[])
  (repeat' (first|apply qS|refine qK (zZ ?_)))
  refine GI (fun Zq st2=>st2=bx eg st q c/\(Zq 0=.ms q 0 l.length/\Zq 4=.fn (.func OM) cX)/\Zq 2=i hi/\Zq 3=i f/\Zq 10=i r/\∃ ch:Nat,Zq 11=i ch/\(ch=2*r+1\/ch=2*r+2)/\ch<hi/\Qa c f r hi ch) ?_ ?_
  .by_cases h2h:m2<hi;rotate_left
   ·(refine zS [] [q] [0,2,4,6,8,10,12,14,16,18,20,22,24,26,28,30,32,34,36,39,40,42] ?_;intro J hJ;simp[f0,fC,f2,f3,f8,w3,h2h];refine zJ hJ ?_)
    (repeat' (first|refine qK (zZ ?_)|(apply qC;simp[f0,fC])))
    refine⟨trivial,trivial,by simp[f0,fC],by simp[f2],by simp[f3],by simp[f8],m,sS,oO,oO,fun x h1 h2=>?_⟩;rw[show x=m by omega];exact aCe _
   have Xn:=aR eg c x1 oO;have YM:=aR eg c x2 oO;have F6:x1<l.length:=oO;have E0:x2<l.length:=oO;generalize D4:c.getD x1 0=y1 at *;generalize p7:c.getD x2 0=y2 at *
   (refine zS [] [q] [0,2,4,6,8,10,12,14,16,18,20,22,24,26,28,30,32,34,36,39,40,42] ?_;intro J hJ;simp[f0,fC,f2,f3,f8,w3,w4,w5,h2h,F6,E0,Xh,Xn,YM,aQ])
   refine aK (hC.call y1 y2 _ (by first|assumption|(subst_vars;exact cF (by assumption) oO)) (by first|assumption|(subst_vars;exact cF (by assumption) oO))) ?_;rintro r1 s2 ⟨⟨nv,rfl,ZS⟩,rfl⟩;refine⟨fun _=>by simp,?_⟩;by_cases Z0:y1<y2
   ·(apply aS;simp[ZS,Z0];refine zJ hJ ?_)
    (repeat' (first|(apply qC;simp[w3])|(refine zE ?_;intro J hJ;simp[w3];refine zJ hJ ?_)))
    refine⟨trivial,trivial,by simp[f0,fC],by simp[f2],by simp[f3],by simp[f8],m2,sS,oO,oO,fun x h1 h2=>?_⟩;rcases(show x=m\/x=m2 by omega)with rfl|rfl
    .rw[<- hx1,<- Ys,D4,p7];omega
    .exact aCe _
   ·(apply aS;simp[ZS,Z0];refine zJ hJ ?_)
    (repeat' (first|refine qK (zZ ?_)|(apply qC;simp[])))
    refine⟨trivial,trivial,by simp[f0,fC],by simp[f2],by simp[f3],by simp[f8],m,sS,oO,oO,fun x h1 h2=>?_⟩;rcases(show x=m\/x=m2 by omega)with rfl|rfl
    .exact aCe _
    .rw[<- hx1,<- Ys,D4,p7];omega
  clear f0 fC f2 f3 f8 w1 w2 w3 w4 w5 hx1 Ys x1 x2 fr;rintro fr st2 ⟨rfl,⟨f0,fC⟩,f2,f3,f8,ch,f9,r9,hchi,O1⟩;obtain⟨x1,hx1⟩:∃ x:Nat,x=f+ch:=⟨_,rfl⟩;have w4:IntKind.i64.wrap ((f:Int)+(ch:Int))=(x1:Int):=zW;have Xn:=aR eg c x1 oO;have hd0:=aR eg c x0 oO;have F6:x1<l.length:=oO;have Zu:x0<l.length:=oO;unfold Qa at O1;have YH:=hX.step (c:=ch) hlr r9 hchi oO O1;have Yo:=Xf.step x0 x1 oO oO oO oO oO;have hbig:=hX.big;rw[<- ZF,<- hx1]at YH;rw[<- ZF]at hbig;rw[<- hx1]at O1;generalize Q9:c.getD x0 0=y0 at *;generalize D4:c.getD x1 0=y1 at *
  (repeat (apply qS));(refine zS [] [q] [0,2,4,6,8,10,12,14,16,18,20,22,24,27,28,30] ?_;intro J hJ;simp[f0,fC,f2,f3,f8,f9,w4,w6,F6,Zu,Xh,Xn,hd0,aQ])
  refine aK (hC.call y0 y1 _ (by first|assumption|(subst_vars;exact cF (by assumption) oO)) (by first|assumption|(subst_vars;exact cF (by assumption) oO))) ?_;rintro r1 s2 ⟨⟨nv,rfl,ZS⟩,rfl⟩;refine⟨fun _=>by simp,?_⟩;by_cases Z0:y0<y1;rotate_left
  .clear hJJ
   (apply aS;simp[ZS,Z0];refine zJ hJ ?_)
   (repeat' (first|(refine qR (zZ ?_);simp[])|(apply qC;simp[])))
   exact⟨c,rfl,Xf,hbig fun x h1 h2=>by have:=O1 x h1 h2;omega⟩
  (apply aS;simp[ZS,Z0];refine zJ hJ ?_)
  (repeat' (first|apply qS|refine qK (zZ ?_)|(apply qC;simp[])))
  (refine zS [] [q] [0,2,4,6,8,10,12,14,16,18,20,22,24,26,28,30,32,34,36,38,40,43,44,47] ?_;intro J hJ;simp[f0,fC,f2,f3,f8,f9,w4,w6,F6,Zu,Xh,Xn,hd0,aQ];(repeat refine ca ?_);refine zJ hJ ?_)
  (repeat' (refine zE ?_;intro J hJ;simp[f9];refine zJ hJ ?_))
  exact hJJ (hi-ch) _ _ oO ⟨ch,sw c x0 x1,oO,oO,rfl,by simp[f0,fC],by simp[f2],by simp[f3],sS,dL eg st q c x0 x1 oO oO Q9 D4,Yo,YH Z0⟩
def Aw.CE.nG:=xU.1
def Aw.CR.nG:=xU.2
open Go Go.RowKit Pl Aw
open Aw.CE
open Aw.CR
theorem yF:(∀ ⦃OM:FuncId⦄ ⦃cX:List LV⦄ ⦃eg:Int->Ed⦄ ⦃Dm:Int->Prop⦄ (hC:fR OM cX eg Dm) (l:List Int) (q a b:Nat) (st:St) (hD:∀ x∈l,Dm x) (hl:small l) (ha:a<b) (hb:b<=l.length) (hH:st.H q=.box 56 3 (es3 eg l)),
 aB prog 201 [.ms q 0 l.length,i a,i b,.fn (.func OM) cX] st fun r st'=>∃ c,st'=bx eg st q c/\Pm a b l c/\Srt a b c)/\(∀ ⦃OM:FuncId⦄ ⦃cX:List LV⦄ ⦃eg:Rw⦄ ⦃Dm:Int->Prop⦄ (hC:fR OM cX eg Dm) (l:List Int) (q a b:Nat) (st:St) (hD:∀ x∈l,Dm x) (hl:small l) (ha:a<b) (hb:b<=l.length) (hH:st.H q=.box 23 1 (ws eg l)),
 aB prog 148 [.ms q 0 l.length,i a,i b,.fn (.func OM) cX] st fun r st'=>∃ c,st'=bx eg st q c/\Pm a b l c/\Srt a b c):=by
 refine⟨?_,?_⟩
 all_goals
  intro OM cX eg Dm hC l q a b st hD hl ha hb hH;have p8:=hl;unfold small at hl;obtain⟨n,hn⟩:∃ n:Nat,n=b-a:=⟨_,rfl⟩;obtain⟨n1,Yi⟩:∃ n:Nat,n=b-a-1:=⟨_,rfl⟩;obtain⟨n2,Zk⟩:∃ n:Nat,n=n1 / 2:=⟨_,rfl⟩;have w1:IntKind.i64.wrap ((b:Int)-(a:Int))=(n:Int):=zW;have w2:IntKind.i64.wrap ((n:Int)-1)=(n1:Int):=zW;have w3:IntKind.i64.wrap ((n1:Int) / 2)=(n2:Int):=by rw[show(n1:Int) / 2=((n1 / 2:Nat):Int) from rfl,<- Zk];exact wrap_i64 _ oO oO
  first|(have _:Int->Ed:=eg;refine zN func201 ntmps201 [] ?_)|refine zN func148 ntmps148 [] ?_
  (repeat' (first|apply qS|apply qB|(refine zE ?_;intro J hJ;simp[w1,w2,w3];refine zJ hJ ?_)))
  refine qL (fun m fr st'=>∃(c:List Int),m<=n2+1/\(fr 0=.ms q 0 l.length/\fr 3=.fn (.func OM) cX)/\fr 8=i a/\fr 9=i 0/\fr 10=i n/\fr 11=i ((m:Int)-1)/\st'=bx eg st q c/\Pm a b l c/\mV m n a c) (n2+1) ?_ ?_
  .exact⟨l,oO,sS,sS,sS,sS,sS,fH hH,.refl,fun k x h1 h2 h3=>by omega⟩
  rintro m fr Yy ⟨c,hm,⟨f0,fC⟩,f6,f7,f8,f9,rfl,Xf,hh⟩ JJ hJJ;have Xh:=Xf.len;have x8:=cS hD Xf;cases m with
  |succ m=>
   have T0:fr 11=i (m:Int):=by rw[f9];congr 2;omega
   have w4:IntKind.i64.wrap ((m:Int)-1)=(m:Int)-1:=zW;have u6:(0:Int)<=(m:Int):=oO
   (repeat' (first|apply qS|apply qB|refine qK (zZ ?_)|(apply qC;simp[f0,fC,f6,f7,f8,T0,u6])|(refine zE ?_;intro J hJ;simp[f0,fC,f6,f7,f8,T0,u6];(try refine zJ hJ ?_))))
   rw[<- Xh];refine qF (nG hC c q m n a _ (by first|assumption|exact cS hD ‹Pm _ _ l c›) (by unfold small;omega) oO oO hh sS) ?_;rintro r s2 ⟨c2,rfl,YE,hh2⟩;rw[Xh]
   (repeat' ((first|(refine zE ?_;intro J hJ)|(apply aF));simp[T0,w4];refine zJ hJ ?_))
   exact hJJ m _ _ oO ⟨c2,oO,by simp[f0,fC],by simp[f6],by simp[f7],by simp[f8],sS,St.set_set _ _ _ _,Xf.trans (YE.wide oO oO oO),hh2⟩
  |zero=>
   clear hJJ;have T0:fr 11=i (-1):=by rw[f9];rfl
   (repeat' (first|apply qS|apply qB|refine qX (zZ ?_)|(apply qC;simp[f0,fC,f6,f7,f8,T0,w2])|(refine zE ?_;intro J hJ;simp[f0,fC,f6,f7,f8,T0,w2];refine zJ hJ ?_)))
   refine qL (fun m fr st'=>∃(c:List Int),m<=n/\(fr 0=.ms q 0 l.length/\fr 3=.fn (.func OM) cX)/\fr 8=i a/\fr 9=i 0/\fr 12=i ((m:Int)-1)/\st'=bx eg st q c/\Pm a b l c/\mV 0 m a c/\VN c a m n) n ?_ ?_
   .exact⟨c,aAk _,by simp[f0,fC],by simp[f6],by simp[f7],by simp;omega,rfl,Xf,hh,fun p q h1 h2 h3=>by omega⟩
   clear f0 fC f6 f7 f8 f9 T0 Xf hh Xh x8 c fr;rintro m fr Yy ⟨c,hm,⟨f0,fC⟩,f6,f7,f10,rfl,Xf,hh,B7⟩ JJ hJJ;have Xh:=Xf.len;have x8:=cS hD Xf;cases m with
   |zero=>
    have n6:fr 12=i (-1):=by rw[f10];rfl
    (repeat' (first|apply qS|refine qX (zZ ?_)|(apply qC;simp[n6])|(refine zE ?_;intro J hJ;simp[n6];refine zJ hJ ?_)))
    refine⟨trivial,c,rfl,Xf,fun p q h1 h2 h3=>?_⟩;have:=B7 (p-a) (q-a) oO oO oO
    rwa [show a+(p-a)=p by omega,show a+(q-a)=q by omega]at this
   |succ m=>
    have n6:fr 12=i (m:Int):=by rw[f10];congr 2;omega
    have w4:IntKind.i64.wrap ((m:Int)-1)=(m:Int)-1:=zW;have u6:(0:Int)<=(m:Int):=oO;obtain⟨x1,hx1⟩:∃ x:Nat,x=a+m:=⟨_,rfl⟩;have w5:IntKind.i64.wrap ((a:Int)+(m:Int))=(x1:Int):=zW;have hd0:=aR eg c a oO;have Xn:=aR eg c x1 oO;have Zu:a<l.length:=oO;have F6:x1<l.length:=oO;have hpop:=hh.pop oO;have Yu:=fun c2=>Db (c2:=c2) hh B7 oO oO;have Yo:=Xf.step a x1 oO oO oO oO oO;rw[<- hx1]at hpop Yu;have D5:=xF c a x1;have YP:=fun x y=>dL eg st q c a x1 (x:=x) (y:=y) oO oO;generalize Q9:c.getD a 0=y0 at *;generalize D4:c.getD x1 0=y1 at *;have Xy:=YP y0 y1 rfl rfl
    (repeat' (first|apply qS|apply qB|refine qK (zZ ?_)|(apply qC;simp[f0,fC,f6,f7,n6,u6])|(refine zE ?_;intro J hJ;simp[f0,fC,f6,f7,n6,u6];refine zJ hJ ?_)))
    (refine zS [] [q] [0,2,4,6,8,10,12,14,16,18,20,22,24,26,28,30,32,35,36,39] ?_;intro J hJ;simp[f0,fC,f6,f7,n6,w5,Zu,F6,Xh,hd0,Xn,aQ];(repeat refine ca ?_);refine zJ hJ ?_)
    rw[Xy];generalize ZK:sw c a x1=c1 at *
    (repeat' (refine zE ?_;intro J hJ;simp[f0,fC,f6,f7,n6]))
    rw[<- Xh,<- D5];refine qF (nG hC c1 q 0 m a _ (by first|assumption|exact cS hD ‹Pm _ _ l c1›) (by unfold small;omega) oO oO hpop sS) ?_;rintro r s2 ⟨c2,rfl,YE,hh2⟩;rw[D5,Xh]
    (repeat' ((first|(refine zE ?_;intro J hJ)|(apply aF));simp[n6,w4];refine zJ hJ ?_))
    exact hJJ m _ _ oO ⟨c2,oO,by simp[f0,fC],by simp[f6],by simp[f7],sS,St.set_set _ _ _ _,Yo.trans (YE.wide oO oO oO),hh2,Yu c2 (by rw[hx1];exact YE)⟩
def Aw.CE.vD:=yF.1
def Aw.CR.vD:=yF.2
open Go Go.RowKit Pl Aw
open Aw.CE
open Aw.CR
theorem uS:(∀ ⦃OM:FuncId⦄ ⦃cX:List LV⦄ ⦃eg:Int->Ed⦄ ⦃Dm:Int->Prop⦄ (hC:fR OM cX eg Dm) (l:List Int) (q a b pv:Nat) (st:St) (hD:∀ x∈l,Dm x) (hl:small l) (YC:a<b) (hb:b<=l.length) (ZB:a<=pv) (Zt:pv<b) (hH:st.H q=.box 56 3 (es3 eg l)),
 aB prog 207 [.ms q 0 l.length,i a,i b,i pv,.fn (.func OM) cX] st fun r st'=>∃(c:List Int) (Xw:Nat) (p:Bool),r=.tu [i Xw,bb p]/\st'=bx eg st q c/\Pm a b l c/\a<=Xw/\Xw<b/\cD c a Xw b)/\(∀ ⦃OM:FuncId⦄ ⦃cX:List LV⦄ ⦃eg:Rw⦄ ⦃Dm:Int->Prop⦄ (hC:fR OM cX eg Dm) (l:List Int) (q a b pv:Nat) (st:St) (hD:∀ x∈l,Dm x) (hl:small l) (YC:a<b) (hb:b<=l.length) (ZB:a<=pv) (Zt:pv<b) (hH:st.H q=.box 23 1 (ws eg l)),
 aB prog 154 [.ms q 0 l.length,i a,i b,i pv,.fn (.func OM) cX] st fun r st'=>∃(c:List Int) (Xw:Nat) (p:Bool),r=.tu [i Xw,bb p]/\st'=bx eg st q c/\Pm a b l c/\a<=Xw/\Xw<b/\cD c a Xw b):=by
 refine⟨?_,?_⟩
 all_goals
  intro OM cX eg Dm hC l q a b pv st hD hl YC hb ZB Zt hH;unfold small at hl
  first|(have _:Int->Ed:=eg;refine zN func207 ntmps207 [.tmp 10,.tmp 11] ?_)|refine zN func154 ntmps154 [.tmp 10,.tmp 11] ?_
  (repeat (apply qS));(refine zE ?_;intro J hJ;simp[];refine zJ hJ ?_)
  have B7:a<l.length:=oO;have B9:pv<l.length:=oO;have YP:=fun x y=>pZ eg st q l a pv (x:=x) (y:=y) oO oO;have hd0:=aR eg l a oO;have Xn:=aR eg l pv oO;have Xf:Pm a b l (sw l a pv):=Pm.one a pv oO oO oO oO oO;have hx:(sw l a pv).getD a 0=l.getD pv 0:=by
   rw[bZ _ _ _ _ oO oO];by_cases e:a=pv
   .rw[aAe e,e]
   .rw[aAa e,aAe rfl]
  generalize Q9:l.getD a 0=y0 at *;generalize D4:l.getD pv 0=x at *;have Xy:=YP y0 x rfl rfl
  (repeat (apply qS));(refine zS [] [q] [0,2,4,6,8,10,12,14,16,18,20,22,24,27,28,31] ?_;intro J hJ;simp[hH,B7,B9,hd0,Xn,aQ];(repeat refine ca ?_);refine zJ hJ ?_)
  rw[Xy];clear YP Xy hd0 Xn Q9;generalize hc:sw l a pv=c at *;clear hc;have Xh:=Xf.len;have x8:=cS hD Xf;have w1:=qN a oO;have w2:=aG b oO oO;obtain⟨P,hPd⟩:∃ P:Int->Bool,∀ v,P v=decide (v<x):=⟨_,fun _=>rfl⟩;apply qS;refine bC (fun fr st2=>(fr 0=.ms q 0 l.length/\fr 4=.fn (.func OM) cX)/\fr 1=i a/\fr 12=i ((a+1:Nat):Int)/\fr 13=i ((b-1:Nat):Int)/\st2=bx eg st q c) (by(refine zE ?_;intro J hJ;simp[w1,w2];refine zJ hJ ?_);simp) ?_;rintro fr st2 ⟨⟨f0,fC⟩,f1,fI,fJ,rfl⟩;have c8:a<a+1:=oO;have hij:a+1<=b-1+1:=oO;have I4:b-1<b:=oO;have YU:Lo P c a (a+1):=fun p h1 h2=>by omega
  have YT:Hi P c (b-1) b:=fun p h1 h2=>by omega
  generalize a+1=ii at *;generalize b-1=jj at *;clear w1 w2;have hd0:=aR eg c a oO;rw[hx]at hd0;apply qS;refine bC (fun fr st2=>∃ ii:Nat,a<ii/\ii<=jj+1/\(fr 0=.ms q 0 l.length/\fr 4=.fn (.func OM) cX)/\fr 1=i a/\fr 12=i ii/\fr 13=i jj/\st2=bx eg st q c/\Lo P c a ii/\StU P c ii jj) ?_ ?_
  .apply qB;refine qL (fun m fr st2=>∃ ii:Nat,a<ii/\ii<=jj+1/\m=jj+1-ii/\(fr 0=.ms q 0 l.length/\fr 4=.fn (.func OM) cX)/\fr 1=i a/\fr 12=i ii/\fr 13=i jj/\st2=bx eg st q c/\Lo P c a ii) (jj+1-ii) ?_ ?_
   .exact⟨ii,oO,oO,rfl,by simp[f0,fC],by simp[f1],by simp[fI],by simp[fJ],rfl,YU⟩
   clear f0 fC f1 fI fJ YU c8 hij fr ii;rintro m fr st2 ⟨ii,c8,hij,rfl,⟨f0,fC⟩,f1,fI,fJ,rfl,YU⟩ JJ hJJ;have y9:=qN ii oO;by_cases Xm:ii<=jj;rotate_left
   .clear hJJ
    (repeat (apply qS));(refine zS [] [q] [0,2,4,6,8,10,12,14,16,18,20,22,24,27,28,30] ?_;intro J hJ;simp[f0,fC,f1,fI,fJ,Xm];refine zJ hJ ?_)
    (repeat' (first|refine qX (zZ ?_)|(apply qC;simp[])))
    exact⟨trivial,ii,oO,oO,by simp[f0,fC],by simp[f1],by simp[fI],by simp[fJ],by trivial,YU,fun h=>absurd h Xm⟩
   have E7:ii<l.length:=oO;have Xn:=aR eg c ii oO;have z7:=YU.more;generalize hy:c.getD ii 0=y at *
   (repeat (apply qS));(refine zS [] [q] [0,2,4,6,8,10,12,14,16,18,20,22,24,27,28,30] ?_;intro J hJ;simp[f0,fC,f1,fI,fJ,Xm,E7,B7,Xh,hd0,Xn,aQ])
   refine aK (hC.call y x _ (by first|assumption|(subst_vars;exact cF (by assumption) oO)) (by first|assumption|(subst_vars;exact cF (by assumption) oO))) ?_;rintro r s2 ⟨⟨nv,rfl,ZS⟩,rfl⟩;refine⟨fun _=>by simp,?_⟩;have hP:=hPd y;by_cases YV:y<x
   ·(apply aS;simp[ZS,YV];refine zJ hJ ?_)
    (repeat' (first|apply qB|refine qK (zZ ?_)|(apply qC;simp[fI,y9])|(refine zE ?_;intro J hJ;simp[fI,y9];refine zJ hJ ?_)))
    exact hJJ (jj+1-(ii+1)) _ _ oO ⟨ii+1,oO,oO,rfl,by simp[f0,fC],by simp[f1],sS,by simp[fJ],rfl,z7 (by rw[hP];simp[YV])⟩
   .clear hJJ
    (apply aS;simp[ZS,YV];refine zJ hJ ?_)
    (repeat' (first|refine qX (zZ ?_)|(apply qC;simp[])))
    exact⟨trivial,ii,oO,oO,by simp[f0,fC],by simp[f1],by simp[fI],by simp[fJ],by trivial,YU,fun _=>by rw[hy,hP];simp[YV]⟩
  clear f0 fC f1 fI fJ YU c8 hij fr ii;rintro fr st2 ⟨ii,c8,hij,⟨f0,fC⟩,f1,fI,fJ,rfl,YU,YY⟩;apply qS;refine bC (fun fr st2=>∃ kk:Nat,a<=kk/\kk<=jj/\ii<=kk+1/\(fr 0=.ms q 0 l.length/\fr 4=.fn (.func OM) cX)/\fr 1=i a/\fr 12=i ii/\fr 13=i kk/\st2=bx eg st q c/\Hi P c kk b/\StD P c ii kk) ?_ ?_
  .apply qB;refine qL (fun m fr st2=>∃ kk:Nat,a<=kk/\kk<=jj/\ii<=kk+1/\kk=m/\(fr 0=.ms q 0 l.length/\fr 4=.fn (.func OM) cX)/\fr 1=i a/\fr 12=i ii/\fr 13=i kk/\st2=bx eg st q c/\Hi P c kk b) jj ?_ ?_
   .exact⟨jj,oO,oO,oO,rfl,by simp[f0,fC],by simp[f1],by simp[fI],by simp[fJ],rfl,YT⟩
   clear f0 fC f1 fI fJ YT fr;rintro m fr st2 ⟨kk,n9,U3,S0,rfl,⟨f0,fC⟩,f1,fI,fJ,rfl,YT⟩ JJ hJJ;by_cases Xm:ii<=kk;rotate_left
   .clear hJJ
    (repeat (apply qS));(refine zS [] [q] [0,2,4,6,8,10,12,14,16,18,20,22,24,27,28,30,32] ?_;intro J hJ;simp[f0,fC,f1,fI,fJ,Xm];refine zJ hJ ?_)
    (repeat' (first|refine qX (zZ ?_)|(apply qC;simp[])))
    exact⟨trivial,kk,oO,oO,oO,by simp[f0,fC],by simp[f1],by simp[fI],by simp[fJ],by trivial,YT,fun h=>absurd h Xm⟩
   have P8:=aG kk oO oO;have hlj:kk<l.length:=oO;have Xn:=aR eg c kk oO;have z7:=YT.more;generalize hy:c.getD kk 0=y at *
   (repeat (apply qS));(refine zS [] [q] [0,2,4,6,8,10,12,14,16,18,20,22,24,27,28,30,32] ?_;intro J hJ;simp[f0,fC,f1,fI,fJ,Xm,hlj,B7,Xh,hd0,Xn,aQ])
   refine aK (hC.call y x _ (by first|assumption|(subst_vars;exact cF (by assumption) oO)) (by first|assumption|(subst_vars;exact cF (by assumption) oO))) ?_;rintro r s2 ⟨⟨nv,rfl,ZS⟩,rfl⟩;refine⟨fun _=>by simp,?_⟩;have hP:=hPd y;by_cases YV:y<x
   .clear hJJ
    (apply aS;simp[ZS,YV];refine zJ hJ ?_)
    (repeat' (first|refine qX (zZ ?_)|(apply qC;simp[])))
    exact⟨trivial,kk,oO,oO,oO,by simp[f0,fC],by simp[f1],by simp[fI],by simp[fJ],by trivial,YT,fun _=>by rw[hy,hP];simp[YV]⟩
   ·(apply aS;simp[ZS,YV];refine zJ hJ ?_)
    (repeat' (first|apply qB|refine qK (zZ ?_)|(apply qC;simp[fJ,P8])|(refine zE ?_;intro J hJ;simp[fJ,P8];refine zJ hJ ?_)))
    exact hJJ (kk-1) _ _ oO ⟨kk-1,oO,oO,oO,rfl,by simp[f0,fC],by simp[f1],by simp[fI],sS,rfl,z7 oO (by rw[hP];simp[YV])⟩
  clear f0 fC f1 fI fJ YT fr;rintro fr st2 ⟨kk,n9,U3,S0,⟨f0,fC⟩,f1,fI,fJ,rfl,YT,Yx⟩;by_cases Xm:ii<=kk;rotate_left
  .have hke:ii=kk+1:=oO;have j8:=lN (hke ▸ YU) YT oO oO oO;have YE:=Xf.step kk a oO oO oO oO oO;have Ze:kk<l.length:=oO;have Xn:=aR eg c kk oO;have YP:=fun x y=>dL eg st q c kk a (x:=x) (y:=y) oO oO;generalize D4:c.getD kk 0=y1 at *;have Xy:=YP y1 x rfl hx
   (repeat' (first|apply qS|(apply qC;simp[f0,fC,f1,fI,fJ,Xm];(try with_reducible intro hc))|(refine zE ?_;intro J hJ;simp[f0,fC,f1,fI,fJ,Xm];refine zJ hJ ?_)))
   (refine zS [] [q] [0,2,4,6,8,10,12,14,16,18,20,22,24,27,28,31] ?_;intro J hJ;simp[f0,fC,f1,fI,fJ,B7,Ze,Xh,hd0,Xn,aQ];(repeat refine ca ?_);refine zJ hJ ?_)
   (repeat' (first|apply qS|(refine qR (zZ ?_);simp[f0,fC,f1,fI,fJ])|(refine zE ?_;intro J hJ;simp[f0,fC,f1,fI,fJ];refine zJ hJ ?_)))
   exact⟨_,kk,rfl,Xy,YE,oO,oO,by unfold cD;rw[j8.2,hx];have h:=j8.1;rwa [show P=_ from funext hPd]at h⟩
  have Zj:ii<kk:=by
   rcases aAN ii kk with h|h
   .exact h
   .exfalso;have e:ii=kk:=oO;have h1:=YY oO;have h2:=Yx Xm;rw[e,h2]at h1;cases h1
  have C9:=YU.swp Zj oO (Yx Xm);have D3:=YT.swp Zj oO (YY oO);have YE:=Xf.step ii kk oO oO oO oO oO;have Z5:(sw c ii kk).getD a 0=x:=by rw[bZ _ _ _ _ oO oO,aAa oO,aAa oO];exact hx
  have E7:ii<l.length:=oO;have Ze:kk<l.length:=oO;have Xn:=aR eg c ii oO;have YM:=aR eg c kk oO;have YP:=fun x y=>dL eg st q c ii kk (x:=x) (y:=y) oO oO;have y9:=qN ii oO;have hka:=aG kk oO oO;clear YY Yx;generalize D4:c.getD ii 0=y1 at *;generalize p7:c.getD kk 0=y2 at *;have Xy:=YP y1 y2 rfl rfl
  (repeat' (first|apply qS|refine qK (zZ ?_)|(apply qC;simp[f0,fC,f1,fI,fJ,Xm];(try with_reducible refine⟨?_,?_⟩)<;>(try with_reducible intro hc)<;>try (exfalso;omega))|(refine zE ?_;intro J hJ;simp[f0,fC,f1,fI,fJ,Xm];refine zJ hJ ?_)))
  (refine zS [] [q] [0,2,4,6,8,10,12,14,16,18,20,22,24,27,28,31] ?_;intro J hJ;simp[f0,fC,f1,fI,fJ,E7,Ze,Xh,Xn,YM,aQ];(repeat refine ca ?_);refine zJ hJ ?_)
  (repeat' (first|apply qS|apply qB|(refine zE ?_;intro J hJ;simp[fI,fJ,y9,hka];refine zJ hJ ?_)))
  rw[Xy];refine qL (fun m fr st2=>∃(ii jj:Nat) (c:List Int),a<ii/\ii<=jj+1/\jj<b/\jj=m/\(fr 0=.ms q 0 l.length/\fr 4=.fn (.func OM) cX)/\fr 1=i a/\fr 12=i ii/\fr 13=i jj/\st2=bx eg st q c/\Pm a b l c/\c.getD a 0=x/\Lo P c a ii/\Hi P c jj b) (kk-1) ?_ ?_
  .exact⟨ii+1,kk-1,sw c ii kk,oO,oO,oO,rfl,by simp[f0,fC],by simp[f1],sS,sS,rfl,YE,Z5,C9,D3⟩
  clear f0 fC f1 fI fJ YU YT C9 D3 Xf YE hx Z5 Xh x8 hd0 Xn YM YP Xy D4 p7 y1 y2 c8 hij n9 S0 Zj E7 Ze y9 hka Xm U3 I4 ii jj kk c fr;rintro m fr st2 ⟨ii,jj,c,c8,hij,I4,rfl,⟨f0,fC⟩,f1,fI,fJ,rfl,Xf,hx,YU,YT⟩ JJ0 x9;have Xh:=Xf.len;have x8:=cS hD Xf;have hd0:=aR eg c a oO;rw[hx]at hd0;apply qB;apply qS;refine bC (fun fr st2=>∃ ii:Nat,a<ii/\ii<=jj+1/\(fr 0=.ms q 0 l.length/\fr 4=.fn (.func OM) cX)/\fr 1=i a/\fr 12=i ii/\fr 13=i jj/\st2=bx eg st q c/\Lo P c a ii/\StU P c ii jj) ?_ ?_
  .apply qB;refine qL (fun m fr st2=>∃ ii:Nat,a<ii/\ii<=jj+1/\m=jj+1-ii/\(fr 0=.ms q 0 l.length/\fr 4=.fn (.func OM) cX)/\fr 1=i a/\fr 12=i ii/\fr 13=i jj/\st2=bx eg st q c/\Lo P c a ii) (jj+1-ii) ?_ ?_
   .exact⟨ii,oO,oO,rfl,by simp[f0,fC],by simp[f1],by simp[fI],by simp[fJ],rfl,YU⟩
   clear f0 fC f1 fI fJ YU c8 hij fr ii;rintro m fr st2 ⟨ii,c8,hij,rfl,⟨f0,fC⟩,f1,fI,fJ,rfl,YU⟩ JJ hJJ;have y9:=qN ii oO;by_cases Xm:ii<=jj;rotate_left
   .clear hJJ
    (repeat (apply qS));(refine zS [] [q] [0,2,4,6,8,10,12,14,16,18,20,22,24,27,28,30] ?_;intro J hJ;simp[f0,fC,f1,fI,fJ,Xm];refine zJ hJ ?_)
    (repeat' (first|refine qX (zZ ?_)|(apply qC;simp[])))
    exact⟨trivial,ii,oO,oO,by simp[f0,fC],by simp[f1],by simp[fI],by simp[fJ],by trivial,YU,fun h=>absurd h Xm⟩
   have E7:ii<l.length:=oO;have Xn:=aR eg c ii oO;have z7:=YU.more;generalize hy:c.getD ii 0=y at *
   (repeat (apply qS));(refine zS [] [q] [0,2,4,6,8,10,12,14,16,18,20,22,24,27,28,30] ?_;intro J hJ;simp[f0,fC,f1,fI,fJ,Xm,E7,B7,Xh,hd0,Xn,aQ])
   refine aK (hC.call y x _ (by first|assumption|(subst_vars;exact cF (by assumption) oO)) (by first|assumption|(subst_vars;exact cF (by assumption) oO))) ?_;rintro r s2 ⟨⟨nv,rfl,ZS⟩,rfl⟩;refine⟨fun _=>by simp,?_⟩;have hP:=hPd y;by_cases YV:y<x
   ·(apply aS;simp[ZS,YV];refine zJ hJ ?_)
    (repeat' (first|apply qB|refine qK (zZ ?_)|(apply qC;simp[fI,y9])|(refine zE ?_;intro J hJ;simp[fI,y9];refine zJ hJ ?_)))
    exact hJJ (jj+1-(ii+1)) _ _ oO ⟨ii+1,oO,oO,rfl,by simp[f0,fC],by simp[f1],sS,by simp[fJ],rfl,z7 (by rw[hP];simp[YV])⟩
   .clear hJJ
    (apply aS;simp[ZS,YV];refine zJ hJ ?_)
    (repeat' (first|refine qX (zZ ?_)|(apply qC;simp[])))
    exact⟨trivial,ii,oO,oO,by simp[f0,fC],by simp[f1],by simp[fI],by simp[fJ],by trivial,YU,fun _=>by rw[hy,hP];simp[YV]⟩
  clear f0 fC f1 fI fJ YU c8 hij fr ii;rintro fr st2 ⟨ii,c8,hij,⟨f0,fC⟩,f1,fI,fJ,rfl,YU,YY⟩;apply qS;refine bC (fun fr st2=>∃ kk:Nat,a<=kk/\kk<=jj/\ii<=kk+1/\(fr 0=.ms q 0 l.length/\fr 4=.fn (.func OM) cX)/\fr 1=i a/\fr 12=i ii/\fr 13=i kk/\st2=bx eg st q c/\Hi P c kk b/\StD P c ii kk) ?_ ?_
  .apply qB;refine qL (fun m fr st2=>∃ kk:Nat,a<=kk/\kk<=jj/\ii<=kk+1/\kk=m/\(fr 0=.ms q 0 l.length/\fr 4=.fn (.func OM) cX)/\fr 1=i a/\fr 12=i ii/\fr 13=i kk/\st2=bx eg st q c/\Hi P c kk b) jj ?_ ?_
   .exact⟨jj,oO,oO,oO,rfl,by simp[f0,fC],by simp[f1],by simp[fI],by simp[fJ],rfl,YT⟩
   clear f0 fC f1 fI fJ YT fr;rintro m fr st2 ⟨kk,n9,U3,S0,rfl,⟨f0,fC⟩,f1,fI,fJ,rfl,YT⟩ JJ hJJ;by_cases Xm:ii<=kk;rotate_left
   .clear hJJ
    (repeat (apply qS));(refine zS [] [q] [0,2,4,6,8,10,12,14,16,18,20,22,24,27,28,30,32] ?_;intro J hJ;simp[f0,fC,f1,fI,fJ,Xm];refine zJ hJ ?_)
    (repeat' (first|refine qX (zZ ?_)|(apply qC;simp[])))
    exact⟨trivial,kk,oO,oO,oO,by simp[f0,fC],by simp[f1],by simp[fI],by simp[fJ],by trivial,YT,fun h=>absurd h Xm⟩
   have P8:=aG kk oO oO;have hlj:kk<l.length:=oO;have Xn:=aR eg c kk oO;have z7:=YT.more;generalize hy:c.getD kk 0=y at *
   (repeat (apply qS));(refine zS [] [q] [0,2,4,6,8,10,12,14,16,18,20,22,24,27,28,30,32] ?_;intro J hJ;simp[f0,fC,f1,fI,fJ,Xm,hlj,B7,Xh,hd0,Xn,aQ])
   refine aK (hC.call y x _ (by first|assumption|(subst_vars;exact cF (by assumption) oO)) (by first|assumption|(subst_vars;exact cF (by assumption) oO))) ?_;rintro r s2 ⟨⟨nv,rfl,ZS⟩,rfl⟩;refine⟨fun _=>by simp,?_⟩;have hP:=hPd y;by_cases YV:y<x
   .clear hJJ
    (apply aS;simp[ZS,YV];refine zJ hJ ?_)
    (repeat' (first|refine qX (zZ ?_)|(apply qC;simp[])))
    exact⟨trivial,kk,oO,oO,oO,by simp[f0,fC],by simp[f1],by simp[fI],by simp[fJ],by trivial,YT,fun _=>by rw[hy,hP];simp[YV]⟩
   ·(apply aS;simp[ZS,YV];refine zJ hJ ?_)
    (repeat' (first|apply qB|refine qK (zZ ?_)|(apply qC;simp[fJ,P8])|(refine zE ?_;intro J hJ;simp[fJ,P8];refine zJ hJ ?_)))
    exact hJJ (kk-1) _ _ oO ⟨kk-1,oO,oO,oO,rfl,by simp[f0,fC],by simp[f1],by simp[fI],sS,rfl,z7 oO (by rw[hP];simp[YV])⟩
  clear f0 fC f1 fI fJ YT fr;rintro fr st2 ⟨kk,n9,U3,S0,⟨f0,fC⟩,f1,fI,fJ,rfl,YT,Yx⟩;by_cases Xm:ii<=kk;rotate_left
  .clear x9;have hke:ii=kk+1:=oO;have j8:=lN (hke ▸ YU) YT oO oO oO;have YE:=Xf.step kk a oO oO oO oO oO;have Ze:kk<l.length:=oO;have Xn:=aR eg c kk oO;have YP:=fun x y=>dL eg st q c kk a (x:=x) (y:=y) oO oO;generalize D4:c.getD kk 0=y1 at *;have Xy:=YP y1 x rfl hx
   (repeat' (first|apply qS|refine qX (zZ ?_)|(apply qC;simp[f0,fC,f1,fI,fJ,Xm];(try with_reducible intro hc))|(refine zE ?_;intro J hJ;simp[f0,fC,f1,fI,fJ,Xm];refine zJ hJ ?_)))
   (refine zS [] [q] [0,2,4,6,8,10,12,14,16,18,20,22,24,27,28,31] ?_;intro J hJ;simp[f0,fC,f1,fI,fJ,B7,Ze,Xh,hd0,Xn,aQ];(repeat refine ca ?_);refine zJ hJ ?_)
   (repeat' (first|apply qS|(refine qR (zZ ?_);simp[f0,fC,f1,fI,fJ])|(refine zE ?_;intro J hJ;simp[f0,fC,f1,fI,fJ];refine zJ hJ ?_)))
   exact⟨_,kk,rfl,Xy,YE,oO,oO,by unfold cD;rw[j8.2,hx];have h:=j8.1;rwa [show P=_ from funext hPd]at h⟩
  have Zj:ii<kk:=by
   rcases aAN ii kk with h|h
   .exact h
   .exfalso;have e:ii=kk:=oO;have h1:=YY oO;have h2:=Yx Xm;rw[e,h2]at h1;cases h1
  have C9:=YU.swp Zj oO (Yx Xm);have D3:=YT.swp Zj oO (YY oO);have YE:=Xf.step ii kk oO oO oO oO oO;have Z5:(sw c ii kk).getD a 0=x:=by rw[bZ _ _ _ _ oO oO,aAa oO,aAa oO];exact hx
  have E7:ii<l.length:=oO;have Ze:kk<l.length:=oO;have Xn:=aR eg c ii oO;have YM:=aR eg c kk oO;have YP:=fun x y=>dL eg st q c ii kk (x:=x) (y:=y) oO oO;have y9:=qN ii oO;have hka:=aG kk oO oO;clear YY Yx;generalize D4:c.getD ii 0=y1 at *;generalize p7:c.getD kk 0=y2 at *;have Xy:=YP y1 y2 rfl rfl
  (repeat' (first|apply qS|refine qK (zZ ?_)|(apply qC;simp[f0,fC,f1,fI,fJ,Xm];(try with_reducible refine⟨?_,?_⟩)<;>(try with_reducible intro hc)<;>try (exfalso;omega))|(refine zE ?_;intro J hJ;simp[f0,fC,f1,fI,fJ,Xm];refine zJ hJ ?_)))
  (refine zS [] [q] [0,2,4,6,8,10,12,14,16,18,20,22,24,27,28,31] ?_;intro J hJ;simp[f0,fC,f1,fI,fJ,E7,Ze,Xh,Xn,YM,aQ];(repeat refine ca ?_);refine zJ hJ ?_)
  (repeat' (first|apply qS|(refine zE ?_;intro J hJ;simp[fI,fJ,y9,hka];refine zJ hJ ?_)))
  exact x9 (kk-1) _ _ oO ⟨ii+1,kk-1,sw c ii kk,oO,oO,oO,rfl,by simp[f0,fC],by simp[f1],sS,sS,Xy,YE,Z5,C9,D3⟩
def Aw.CE.partition:=uS.1
def Aw.CR.partition:=uS.2
open Go Go.RowKit Pl Aw
open Aw.CE
open Aw.CR
theorem mC:(∀ ⦃OM:FuncId⦄ ⦃cX:List LV⦄ ⦃eg:Int->Ed⦄ ⦃Dm:Int->Prop⦄ (hC:fR OM cX eg Dm) (l:List Int) (q a b pv:Nat) (st:St) (hD:∀ x∈l,Dm x) (hl:small l) (YC:a<b) (hb:b<=l.length) (ZB:a<=pv) (Zt:pv<b) (hH:st.H q=.box 56 3 (es3 eg l)),
 aB prog 206 [.ms q 0 l.length,i a,i b,i pv,.fn (.func OM) cX] st fun r st'=>∃(c:List Int) (Xw:Nat),r=i Xw/\st'=bx eg st q c/\Pm a b l c/\a<Xw/\Xw<=b/\uE c a Xw b (l.getD pv 0))/\(∀ ⦃OM:FuncId⦄ ⦃cX:List LV⦄ ⦃eg:Rw⦄ ⦃Dm:Int->Prop⦄ (hC:fR OM cX eg Dm) (l:List Int) (q a b pv:Nat) (st:St) (hD:∀ x∈l,Dm x) (hl:small l) (YC:a<b) (hb:b<=l.length) (ZB:a<=pv) (Zt:pv<b) (hH:st.H q=.box 23 1 (ws eg l)),
 aB prog 153 [.ms q 0 l.length,i a,i b,i pv,.fn (.func OM) cX] st fun r st'=>∃(c:List Int) (Xw:Nat),r=i Xw/\st'=bx eg st q c/\Pm a b l c/\a<Xw/\Xw<=b/\uE c a Xw b (l.getD pv 0)):=by
 refine⟨?_,?_⟩
 all_goals
  intro OM cX eg Dm hC l q a b pv st hD hl YC hb ZB Zt hH;unfold small at hl
  first|(have _:Int->Ed:=eg;refine zN func206 ntmps206 [.tmp 10] ?_)|refine zN func153 ntmps153 [.tmp 10] ?_
  (repeat (apply qS));(refine zE ?_;intro J hJ;simp[];refine zJ hJ ?_)
  have B7:a<l.length:=oO;have B9:pv<l.length:=oO;have YP:=fun x y=>pZ eg st q l a pv (x:=x) (y:=y) oO oO;have hd0:=aR eg l a oO;have Xn:=aR eg l pv oO;have Xf:Pm a b l (sw l a pv):=Pm.one a pv oO oO oO oO oO;have hx:(sw l a pv).getD a 0=l.getD pv 0:=by
   rw[bZ _ _ _ _ oO oO];by_cases e:a=pv
   .rw[aAe e,e]
   .rw[aAa e,aAe rfl]
  generalize Q9:l.getD a 0=y0 at *;generalize D4:l.getD pv 0=x at *;have Xy:=YP y0 x rfl rfl
  (repeat (apply qS));(refine zS [] [q] [0,2,4,6,8,10,12,14,16,18,20,22,24,27,28,31] ?_;intro J hJ;simp[hH,B7,B9,hd0,Xn,aQ];(repeat refine ca ?_);refine zJ hJ ?_)
  rw[Xy];clear YP Xy hd0 Xn Q9;generalize hc:sw l a pv=c at *;clear hc;have Xh:=Xf.len;have x8:=cS hD Xf;have w1:=qN a oO;have w2:=aG b oO oO;obtain⟨P,hPd⟩:∃ P:Int->Bool,∀ v,P v=!decide (x<v):=⟨_,fun _=>rfl⟩;apply qS;refine bC (fun fr st2=>(fr 0=.ms q 0 l.length/\fr 4=.fn (.func OM) cX)/\fr 1=i a/\fr 11=i ((a+1:Nat):Int)/\fr 12=i ((b-1:Nat):Int)/\st2=bx eg st q c) (by(refine zE ?_;intro J hJ;simp[w1,w2];refine zJ hJ ?_);simp) ?_;rintro fr st2 ⟨⟨f0,fC⟩,f1,fI,fJ,rfl⟩;have c8:a<a+1:=oO;have hij:a+1<=b-1+1:=oO;have I4:b-1<b:=oO;have YU:Lo P c a (a+1):=fun p h1 h2=>by omega
  have YT:Hi P c (b-1) b:=fun p h1 h2=>by omega
  generalize a+1=ii at *;generalize b-1=jj at *;clear w1 w2;have hd0:=aR eg c a oO;rw[hx]at hd0;apply qS;apply qB;refine qL (fun m fr st2=>∃(ii jj:Nat) (c:List Int),a<ii/\ii<=jj+1/\jj<b/\jj=m/\(fr 0=.ms q 0 l.length/\fr 4=.fn (.func OM) cX)/\fr 1=i a/\fr 11=i ii/\fr 12=i jj/\st2=bx eg st q c/\Pm a b l c/\c.getD a 0=x/\Lo P c a ii/\Hi P c jj b) jj ?_ ?_
  .exact⟨ii,jj,c,oO,oO,oO,rfl,⟨f0,fC⟩,f1,fI,fJ,rfl,Xf,hx,YU,YT⟩
  clear f0 fC f1 fI fJ YU YT Xf hx Xh x8 hd0 c8 hij I4 ii jj c fr;rintro m fr st2 ⟨ii,jj,c,c8,hij,I4,rfl,⟨f0,fC⟩,f1,fI,fJ,rfl,Xf,hx,YU,YT⟩ JJ0 x9;have Xh:=Xf.len;have x8:=cS hD Xf;have hd0:=aR eg c a oO;rw[hx]at hd0;apply qB;apply qS;refine bC (fun fr st2=>∃ ii:Nat,a<ii/\ii<=jj+1/\(fr 0=.ms q 0 l.length/\fr 4=.fn (.func OM) cX)/\fr 1=i a/\fr 11=i ii/\fr 12=i jj/\st2=bx eg st q c/\Lo P c a ii/\StU P c ii jj) ?_ ?_
  .apply qB;refine qL (fun m fr st2=>∃ ii:Nat,a<ii/\ii<=jj+1/\m=jj+1-ii/\(fr 0=.ms q 0 l.length/\fr 4=.fn (.func OM) cX)/\fr 1=i a/\fr 11=i ii/\fr 12=i jj/\st2=bx eg st q c/\Lo P c a ii) (jj+1-ii) ?_ ?_
   .exact⟨ii,oO,oO,rfl,by simp[f0,fC],by simp[f1],by simp[fI],by simp[fJ],rfl,YU⟩
   clear f0 fC f1 fI fJ YU c8 hij fr ii;rintro m fr st2 ⟨ii,c8,hij,rfl,⟨f0,fC⟩,f1,fI,fJ,rfl,YU⟩ JJ hJJ;have y9:=qN ii oO;by_cases Xm:ii<=jj;rotate_left
   .clear hJJ
    (repeat (apply qS));(refine zS [] [q] [0,2,4,6,8,10,12,14,16,18,20,22,24,27,28,30,32] ?_;intro J hJ;simp[f0,fC,f1,fI,fJ,Xm];refine zJ hJ ?_)
    (repeat' (first|refine qX (zZ ?_)|(apply qC;simp[])))
    exact⟨trivial,ii,oO,oO,by simp[f0,fC],by simp[f1],by simp[fI],by simp[fJ],by trivial,YU,fun h=>absurd h Xm⟩
   have E7:ii<l.length:=oO;have Xn:=aR eg c ii oO;have z7:=YU.more;generalize hy:c.getD ii 0=y at *
   (repeat (apply qS));(refine zS [] [q] [0,2,4,6,8,10,12,14,16,18,20,22,24,27,28,30,32] ?_;intro J hJ;simp[f0,fC,f1,fI,fJ,Xm,E7,B7,Xh,hd0,Xn,aQ])
   refine aK (hC.call x y _ (by first|assumption|(subst_vars;exact cF (by assumption) oO)) (by first|assumption|(subst_vars;exact cF (by assumption) oO))) ?_;rintro r s2 ⟨⟨nv,rfl,ZS⟩,rfl⟩;refine⟨fun _=>by simp,?_⟩;have hP:=hPd y;by_cases YV:x<y
   .clear hJJ
    (apply aS;simp[ZS,YV];refine zJ hJ ?_)
    (repeat' (first|refine qX (zZ ?_)|(apply qC;simp[])))
    exact⟨trivial,ii,oO,oO,by simp[f0,fC],by simp[f1],by simp[fI],by simp[fJ],by trivial,YU,fun _=>by rw[hy,hP];simp[YV]⟩
   ·(apply aS;simp[ZS,YV];refine zJ hJ ?_)
    (repeat' (first|apply qB|refine qK (zZ ?_)|(apply qC;simp[fI,y9])|(refine zE ?_;intro J hJ;simp[fI,y9];refine zJ hJ ?_)))
    exact hJJ (jj+1-(ii+1)) _ _ oO ⟨ii+1,oO,oO,rfl,by simp[f0,fC],by simp[f1],sS,by simp[fJ],rfl,z7 (by rw[hP];simp[YV])⟩
  clear f0 fC f1 fI fJ YU c8 hij fr ii;rintro fr st2 ⟨ii,c8,hij,⟨f0,fC⟩,f1,fI,fJ,rfl,YU,YY⟩;apply qS;refine bC (fun fr st2=>∃ kk:Nat,a<=kk/\kk<=jj/\ii<=kk+1/\(fr 0=.ms q 0 l.length/\fr 4=.fn (.func OM) cX)/\fr 1=i a/\fr 11=i ii/\fr 12=i kk/\st2=bx eg st q c/\Hi P c kk b/\StD P c ii kk) ?_ ?_
  .apply qB;refine qL (fun m fr st2=>∃ kk:Nat,a<=kk/\kk<=jj/\ii<=kk+1/\kk=m/\(fr 0=.ms q 0 l.length/\fr 4=.fn (.func OM) cX)/\fr 1=i a/\fr 11=i ii/\fr 12=i kk/\st2=bx eg st q c/\Hi P c kk b) jj ?_ ?_
   .exact⟨jj,oO,oO,oO,rfl,by simp[f0,fC],by simp[f1],by simp[fI],by simp[fJ],rfl,YT⟩
   clear f0 fC f1 fI fJ YT fr;rintro m fr st2 ⟨kk,n9,U3,S0,rfl,⟨f0,fC⟩,f1,fI,fJ,rfl,YT⟩ JJ hJJ;by_cases Xm:ii<=kk;rotate_left
   .clear hJJ
    (repeat (apply qS));(refine zS [] [q] [0,2,4,6,8,10,12,14,16,18,20,22,24,27,28,30] ?_;intro J hJ;simp[f0,fC,f1,fI,fJ,Xm];refine zJ hJ ?_)
    (repeat' (first|refine qX (zZ ?_)|(apply qC;simp[])))
    exact⟨trivial,kk,oO,oO,oO,by simp[f0,fC],by simp[f1],by simp[fI],by simp[fJ],by trivial,YT,fun h=>absurd h Xm⟩
   have P8:=aG kk oO oO;have hlj:kk<l.length:=oO;have Xn:=aR eg c kk oO;have z7:=YT.more;generalize hy:c.getD kk 0=y at *
   (repeat (apply qS));(refine zS [] [q] [0,2,4,6,8,10,12,14,16,18,20,22,24,27,28,30] ?_;intro J hJ;simp[f0,fC,f1,fI,fJ,Xm,hlj,B7,Xh,hd0,Xn,aQ])
   refine aK (hC.call x y _ (by first|assumption|(subst_vars;exact cF (by assumption) oO)) (by first|assumption|(subst_vars;exact cF (by assumption) oO))) ?_;rintro r s2 ⟨⟨nv,rfl,ZS⟩,rfl⟩;refine⟨fun _=>by simp,?_⟩;have hP:=hPd y;by_cases YV:x<y
   ·(apply aS;simp[ZS,YV];refine zJ hJ ?_)
    (repeat' (first|apply qB|refine qK (zZ ?_)|(apply qC;simp[fJ,P8])|(refine zE ?_;intro J hJ;simp[fJ,P8];refine zJ hJ ?_)))
    exact hJJ (kk-1) _ _ oO ⟨kk-1,oO,oO,oO,rfl,by simp[f0,fC],by simp[f1],by simp[fI],sS,rfl,z7 oO (by rw[hP];simp[YV])⟩
   .clear hJJ
    (apply aS;simp[ZS,YV];refine zJ hJ ?_)
    (repeat' (first|refine qX (zZ ?_)|(apply qC;simp[])))
    exact⟨trivial,kk,oO,oO,oO,by simp[f0,fC],by simp[f1],by simp[fI],by simp[fJ],by trivial,YT,fun _=>by rw[hy,hP];simp[YV]⟩
  clear f0 fC f1 fI fJ YT fr;rintro fr st2 ⟨kk,n9,U3,S0,⟨f0,fC⟩,f1,fI,fJ,rfl,YT,Yx⟩;by_cases Xm:ii<=kk;rotate_left
  .clear x9
   (repeat' (first|apply qS|refine qX (zZ ?_)|(refine qR (zZ ?_);simp[f0,fC,f1,fI,fJ,Xm])|(apply qC;simp[f0,fC,f1,fI,fJ,Xm];(try with_reducible intro hc))|(refine zE ?_;intro J hJ;simp[f0,fC,f1,fI,fJ,Xm];refine zJ hJ ?_)))
   refine⟨c,ii,rfl,rfl,Xf,oO,oO,fun p h1 h2=>?_,fun p h1 h2=>?_⟩
   .by_cases e:p=a
    .rw[e,hx];exact aCe _
    .have:=YU p oO h2;rw[hPd]at this;simpa using this
   .have:=YT p oO h2;rw[hPd]at this;simpa using this
  have Zj:ii<kk:=by
   rcases aAN ii kk with h|h
   .exact h
   .exfalso;have e:ii=kk:=oO;have h1:=YY oO;have h2:=Yx Xm;rw[e,h2]at h1;cases h1
  have C9:=YU.swp Zj oO (Yx Xm);have D3:=YT.swp Zj oO (YY oO);have YE:=Xf.step ii kk oO oO oO oO oO;have Z5:(sw c ii kk).getD a 0=x:=by rw[bZ _ _ _ _ oO oO,aAa oO,aAa oO];exact hx
  have E7:ii<l.length:=oO;have Ze:kk<l.length:=oO;have Xn:=aR eg c ii oO;have YM:=aR eg c kk oO;have YP:=fun x y=>dL eg st q c ii kk (x:=x) (y:=y) oO oO;have y9:=qN ii oO;have hka:=aG kk oO oO;clear YY Yx;generalize D4:c.getD ii 0=y1 at *;generalize p7:c.getD kk 0=y2 at *;have Xy:=YP y1 y2 rfl rfl
  (repeat' (first|apply qS|refine qK (zZ ?_)|(apply qC;simp[f0,fC,f1,fI,fJ,Xm];(try with_reducible refine⟨?_,?_⟩)<;>(try with_reducible intro hc)<;>try (exfalso;omega))|(refine zE ?_;intro J hJ;simp[f0,fC,f1,fI,fJ,Xm];refine zJ hJ ?_)))
  (refine zS [] [q] [0,2,4,6,8,10,12,14,16,18,20,22,24,27,28,31] ?_;intro J hJ;simp[f0,fC,f1,fI,fJ,E7,Ze,Xh,Xn,YM,aQ];(repeat refine ca ?_);refine zJ hJ ?_)
  (repeat' (first|apply qS|(refine zE ?_;intro J hJ;simp[fI,fJ,y9,hka];refine zJ hJ ?_)))
  exact x9 (kk-1) _ _ oO ⟨ii+1,kk-1,sw c ii kk,oO,oO,oO,rfl,by simp[f0,fC],by simp[f1],sS,sS,Xy,YE,Z5,C9,D3⟩
def Aw.CE.gM:=mC.1
def Aw.CR.gM:=mC.2
end Go.Proofs.YtempldclppogmaaGreatDoor
