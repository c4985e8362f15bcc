/- Plain: the steps of the search for blocks. -/
import Derived.Test.YtempldclppogmaaGreatDoorJj
import Derived.Test.YtempldclppogmaaGreatDoorAwTd
set_option linter.unusedVariables false
set_option linter.unusedSimpArgs false
set_option linter.unusedSectionVars false
set_option linter.defProp false
set_option maxHeartbeats 4000000
open Go.Proofs.Tryz
namespace Go.Proofs.YtempldclppogmaaGreatDoor
namespace Aw
open Go Go.RowKit Pl Eu
theorem zL{x:Ed}{L:List Int}{w:Int}(hw:w∈L)(he:x.a=w\/x.b=w)(ho:oth x w∈L):x.a∈L/\x.b∈L:=by have e1:=(eU he x.a).1 (.inl rfl);have e2:=(eU he x.b).1 (.inr rfl);exact⟨by rcases e1 with e|e<;>rw[e]<;>assumption,by rcases e2 with e|e<;>rw[e]<;>assumption⟩
section
variable {g:Gr} (hg:GoodE g) {A:Int->Prop} {s0 s:Bw} {v YN:Int} {Q:List Nat} {D:List Int} {T:List Nat} {N:List (List Nat)} (h0:yI g A s0 v YN) (h:BLp g s0 v YN Q s D T N)
include hg h0 h
theorem BLp.v_in:v∈s.vis:=by rw[h.vis];simp
theorem BLp.old_in{w:Int}(hw:w∈s0.vis):w∈s.vis:=by rw[h.vis];exact aAw _ hw
theorem BLp.d_in{w:Int}(hw:w∈D):w∈s.vis:=by rw[h.vis];simp[hw]
theorem BLp.by_out{b:Nat}(hb:YN=b):oth (eAt g.es b) v∈s0.vis/\b∈atP g.es v/\A (oth (eAt g.es b) v):=by
 rcases h0.par with⟨h1,_⟩|⟨i,h1,h2,h3⟩
 .omega
 .obtain rfl:i=b:=oO;exact⟨h0.act _ h3,h2,h3⟩
theorem BLp.d_new{d:Int}(hd:d∈D):d∉s0.vis/\d≠v:=by have hn:=h.nd;rw[h.vis,aAs]at hn;refine⟨fun k=>hn.2.2 d k d (aAk _ hd) rfl,fun e=>?_⟩;subst e;exact(aAD.1 hn.2.1).1 hd
theorem BLp.pl_in{j:Nat}(hj:j∈T++N.flatten):(eAt g.es j).a∈s.vis/\(eAt g.es j).b∈s.vis:=by
 obtain⟨h1,_,h3⟩:=(h.pl j).1 hj;rcases h3 with(k|k)|⟨k,ho⟩
 .exact zL (h.d_in hg h0 k) (.inl rfl) (h.cloD _ k j (aU.2 ⟨h1,.inl rfl⟩))
 .exact zL (h.d_in hg h0 k) (.inr rfl) (h.cloD _ k j (aU.2 ⟨h1,.inr rfl⟩))
 .exact zL (h.v_in hg h0) (aU.1 (h.qs j k)).2 (h.cloQ j k)
theorem BLp.back_act{c:Int}(hc:c∉s0.vis){i:Nat}(hi:i∈atP g.es c)(ho:oth (eAt g.es i) c∈s0.vis):A (oth (eAt g.es i) c):=
 aAL fun hA=>hc (by
  have:=h0.fin _ ho hA i (yO hi)
  rwa [lM (aU.1 hi).2]at this)
theorem BLp.same{i:Nat}(hi:i∈atP g.es v)(hb:(i:Int)=YN):BLp g s0 v YN (Q++[i]) s D T N where
 vis:=h.vis
 nd:=h.nd
 ln:=h.ln
 low:=h.low
 qs:=fun j hj=>by rcases aAg.1 hj with k|k;exact h.qs j k;rw[aAl]at k;subst k;exact hi
 cloQ:=fun j hj=>by
  rcases aAg.1 hj with k|k
  .exact h.cloQ j k
  .rw[aAl]at k;subst k;exact h.old_in hg h0 (h.by_out hg h0 hb.symm).1
 cloD:=h.cloD
 stk:=h.stk
 out:=h.out
 pl:=fun j=>by rw[h.pl j,aAg,aAl];refine aCH fun _=>aCH fun hj=>or_congr_right ?_;refine and_congr_left fun _=>⟨.inl,fun k=>k.resolve_right ?_⟩;rintro rfl;exact hj hb
 pn:=h.pn
 lw1:=h.lw1
 lwD:=h.lwD
 lwQ:=fun j hj I9=>by
  rcases aAg.1 hj with k|k
  .exact h.lwQ j k I9
  .rw[aAl]at k;subst k;exact absurd hb I9
 lw3:=h.lw3
 rel:=h.rel
 good:=h.good
 cn:=h.cn
theorem BLp.skip{i:Nat}(hi:i∈atP g.es v)(Xt:oth (eAt g.es i) v∈s.vis)(hn:¬nmW s.vis (oth (eAt g.es i) v)<(s0.vis.length:Int)+1):BLp g s0 v YN (Q++[i]) s D T N:=by
 have YY:oth (eAt g.es i) v∉s0.vis:=fun k=>hn (by rw[h.vis,Dj k];exact Ny k)
 exact {
 vis:=h.vis
 nd:=h.nd
 ln:=h.ln
 low:=h.low
 qs:=fun j hj=>by rcases aAg.1 hj with k|k;exact h.qs j k;rw[aAl]at k;subst k;exact hi
 cloQ:=fun j hj=>by
  rcases aAg.1 hj with k|k
  .exact h.cloQ j k
  .rw[aAl]at k;subst k;exact Xt
 cloD:=h.cloD
 stk:=h.stk
 out:=h.out
 pl:=fun j=>by rw[h.pl j,aAg,aAl];refine aCH fun _=>aCH fun hj=>or_congr_right ?_;refine⟨fun k=>⟨.inl k.1,k.2⟩,fun k=>⟨k.1.resolve_right ?_,k.2⟩⟩;rintro rfl;exact YY k.2
 pn:=h.pn
 lw1:=h.lw1
 lwD:=h.lwD
 lwQ:=fun j hj I9=>by
  rcases aAg.1 hj with k|k
  .exact h.lwQ j k I9
  .rw[aAl]at k;subst k;exact fun k2=>absurd k2 YY
 lw3:=h.lw3
 rel:=h.rel
 good:=h.good
 cn:=h.cn }
theorem BLp.act_to{b:Nat}(hb:YN=b){a:Int}(ha:A a):RIn g.es (·≠v) a (oth (eAt g.es b) v):=
 (h0.con _ _ ha (h.by_out hg h0 hb).2.2).mono fun z hz e=>by subst e;exact h0.new (h0.act _ hz)
theorem BLp.no_root{a:Int}(ha:A a):∃ b:Nat,YN=b:=by
 rcases h0.par with⟨_,h2⟩|⟨b,h2,_⟩
 .exact absurd ha (h2 a)
 .exact⟨b,h2⟩
theorem BLp.back{i:Nat}(hi:i∈atP g.es v)(hiQ:i∉Q)(hib:(i:Int)≠YN)(Xt:oth (eAt g.es i) v∈s.vis)(hn:nmW s.vis (oth (eAt g.es i) v)<(s0.vis.length:Int)+1):
 BLp g s0 v YN (Q++[i]) (mV (eD s i) v (min (lwW s v) (nmW s.vis (oth (eAt g.es i) v)))) D (T++[i]) N:=by
 have Ym:oth (eAt g.es i) v∈s0.vis:=aAL fun k=>by have h1:=Xt;rw[h.vis,aAg]at h1;have:=Ke k (h1.resolve_left k);rw[h.vis]at hn;omega
 have hA:=h.back_act hg h0 h0.new hi Ym;have A5:=h.v_in hg h0;have I8:nmW s.vis (oth (eAt g.es i) v)=nmW s0.vis (oth (eAt g.es i) v):=by rw[h.vis,Dj Ym]
 have I2:∀ w∈s.vis,∀ x,lwW (mV (eD s i) v x) w=if w=v then x else lwW s w:=fun w hw x=>FB (s:=eD s i) h.ln A5 hw
 have O0:i∉T++N.flatten:=fun k=>by
  obtain⟨_,_,h3⟩:=(h.pl i).1 k;rcases h3 with(k2|k2)|⟨k2,_⟩
  .rcases(eU (aU.1 hi).2 _).1 (.inl rfl)with e|e
   .rw[e]at k2;exact(h.d_new hg h0 k2).2 rfl
   .rw[e]at k2;exact(h.d_new hg h0 k2).1 Ym
  .rcases(eU (aU.1 hi).2 _).1 (.inr rfl)with e|e
   .rw[e]at k2;exact(h.d_new hg h0 k2).2 rfl
   .rw[e]at k2;exact(h.d_new hg h0 k2).1 Ym
  .exact hiQ k2
 exact {
 vis:=h.vis
 nd:=h.nd
 ln:=by show(s.low.set _ _).length=_;rw[aCI];exact h.ln
 low:=fun w hw=>by rw[I2 w (h.old_in hg h0 hw),aAa (fun e=>h0.new (by rw[<- e];exact hw))];exact h.low w hw
 qs:=fun j hj=>by rcases aAg.1 hj with k|k;exact h.qs j k;rw[aAl]at k;subst k;exact hi
 cloQ:=fun j hj=>by
  rcases aAg.1 hj with k|k
  .exact h.cloQ j k
  .rw[aAl]at k;subst k;exact Xt
 cloD:=h.cloD
 stk:=by show s.stk++[i]=_;rw[h.stk,aAF]
 out:=h.out
 pl:=fun j=>by
  rw[aAF,aAg,aAg,or_left_comm,<- aAg,h.pl j,aAl,aAg,aAl];constructor
  .rintro(rfl|⟨k1,k2,k3⟩)
   .exact⟨(aU.1 hi).1,hib,.inr ⟨.inr rfl,Ym⟩⟩
   .exact⟨k1,k2,k3.imp_right fun k=>⟨.inl k.1,k.2⟩⟩
  .rintro⟨k1,k2,k3|⟨k3|k3,k4⟩⟩
   .exact .inr ⟨k1,k2,.inl k3⟩
   .exact .inr ⟨k1,k2,.inr ⟨k3,k4⟩⟩
   .exact .inl k3
 pn:=by rw[aAF];refine((aBW (a:=i) (l₁:=T) (l₂:=N.flatten)).nodup_iff).2 ?_;exact aAD.2 ⟨O0,h.pn⟩
 lw1:=by rw[I2 v A5,aAe rfl];have:=h.lw1;omega
 lwD:=fun c hc j hj h1 h2=>by rw[I2 v A5,aAe rfl];have:=h.lwD c hc j hj h1 h2;omega
 lwQ:=fun j hj I9 ho=>by
  rw[I2 v A5,aAe rfl];rcases aAg.1 hj with k|k
  .have:=h.lwQ j k I9 ho;omega
  .rw[aAl]at k;subst k;omega
 lw3:=fun hl=>by
  rw[I2 v A5,aAe rfl]at hl ⊢;by_cases Yp:lwW s v<=nmW s.vis (oth (eAt g.es i) v)
  .rw[Int.min_eq_left Yp]at hl ⊢;exact h.lw3 hl
  .rw[Int.min_eq_right oO]at hl ⊢;exact⟨v,sS,i,hi,hib,Ym,I8.symm⟩
 rel:=fun j hj=>by
  rcases aAg.1 hj with k|k
  .exact h.rel j k
  .rw[aAl]at k;subst k;obtain⟨b,hb⟩:=h.no_root hg h0 hA;obtain⟨_,b2,_⟩:=h.by_out hg h0 hb;exact⟨b,hb,.step .refl (aU.1 b2).1 (aU.1 hi).1 ⟨v,(aU.1 b2).2,(aU.1 hi).2,(h.act_to hg h0 hb hA).symm⟩⟩
 good:=h.good
 cn:=h.cn }
end
section
variable {g:Gr} (hg:GoodE g) {A:Int->Prop} {s0 s:Bw} {v YN:Int} {Q:List Nat} {D:List Int} {T:List Nat} {N:List (List Nat)} (h0:yI g A s0 v YN) (h:BLp g s0 v YN Q s D T N)
include hg h0 h
theorem BLp.pre{i:Nat}(hi:i∈atP g.es v)(YY:oth (eAt g.es i) v∉s.vis):yI g (fun a=>A a\/a=v) (eD s i) (oth (eAt g.es i) v) i where
 ln:=h.ln
 nd:=h.nd
 act:=fun a ha=>by
  rcases ha with ha|e
  .exact h.old_in hg h0 (h0.act _ ha)
  .show a∈s.vis;rw[e];exact h.v_in hg h0
 fin:=fun w hw hA j hj=>by
  have ZP:w∈s.vis:=hw;show oth (eAt g.es j) w∈s.vis;rw[h.vis,aAg,aAf]at ZP;rcases ZP with k|k|k
  .exact h.old_in hg h0 (h0.fin w k (fun x=>hA (.inl x)) j hj)
  .exact absurd (.inr k) hA
  .exact h.cloD w k j hj
 new:=YY
 con:=by
  have up:∀ a b,A a->A b->RIn g.es (fun a=>A a\/a=v) a b:=fun a b ha hb=>(h0.con a b ha hb).mono fun z hz=>.inl hz;have tov:∀ a,A a->RIn g.es (fun a=>A a\/a=v) a v:=fun a ha=>by obtain⟨b,hb⟩:=h.no_root hg h0 ha;obtain⟨_,b2,b3⟩:=h.by_out hg h0 hb;exact .step (up a _ ha b3) (qH (lS b2)) (.inr rfl)
  rintro a b (ha|rfl) (hb|rfl)
  .exact up a b ha hb
  .exact tov a ha
  .exact(tov b hb).symm
  .exact .refl (.inr rfl)
 par:=.inr ⟨i,rfl,yO hi,.inr (lM (aU.1 hi).2)⟩
theorem BLp.child{i:Nat}(hi:i∈atP g.es v)(hiQ:i∉Q)(hib:(i:Int)≠YN)(YY:oth (eAt g.es i) v∉s.vis){s1:Bw}{C:List Int}{T':List Nat}{N':List (List Nat)}
 (hp:JY g (eD s i) (oth (eAt g.es i) v) i s1 C T' N'):∃ s2 D2 T2 N2,LY g.es.length v ((s0.vis.length:Int)+1) i (oth (eAt g.es i) v) s1=some s2/\BLp g s0 v YN (Q++[i]) s2 D2 T2 N2:=by
 obtain⟨u,hu⟩:∃ u,u=oth (eAt g.es i) v:=⟨_,rfl⟩;have A5:=h.v_in hg h0;have D9:s1.vis=s.vis++C:=hp.vis;have hvis2:s1.vis=s0.vis++v::(D++C):=by rw[D9,h.vis,aAF];rfl
 have F9:v∈s1.vis:=by rw[D9];exact aAw _ A5
 have hcn:∀ c∈C,c∉s.vis:=fun c hc k=>by have:=hp.nd;rw[D9,aAs]at this;exact this.2.2 c k c hc rfl
 have hend:(eAt g.es i).a=v\/(eAt g.es i).b=v:=(aU.1 hi).2;have hil:=(aU.1 hi).1;have huC:u∈C:=by rw[hu];exact hp.hd
 have W6:u∈s1.vis:=by rw[D9];exact aAI _ huC
 have huv:u≠v:=by rw[hu];exact sX hg hi
 have hlen:s.vis.length=s0.vis.length+1+D.length:=by rw[h.vis,aAh,List.length_cons];omega
 have hlv:lwW s1 v=lwW s v:=hp.low v A5;have inS:∀ {j:Nat},j∈T++N.flatten->¬((eAt g.es j).a∈C\/(eAt g.es j).b∈C):=fun hj k=>by
  have:=h.pl_in hg h0 hj;rcases k with k|k
  .exact hcn _ k this.1
  .exact hcn _ k this.2
 have byC:∀ b:Nat,YN=b->¬((eAt g.es b).a∈C\/(eAt g.es b).b∈C):=fun b hb k=>by
  obtain⟨b1,b2,_⟩:=h.by_out hg h0 hb;have:=zL A5 (aU.1 b2).2 (h.old_in hg h0 b1);rcases k with k|k
  .exact hcn _ k this.1
  .exact hcn _ k this.2
 have iC:(eAt g.es i).a∈C\/(eAt g.es i).b∈C:=by
  rcases lT (eAt g.es i) v with e|e
  .exact .inl (by rw[e,<- hu];exact huC)
  .exact .inr (by rw[e,<- hu];exact huC)
 have iT':i∉T'++N'.flatten:=fun k=>((hp.pl i).1 k).2.1 rfl;have O0:∀ j,(j=i\/j∈T'++N'.flatten)↔j<g.es.length/\((eAt g.es j).a∈C\/(eAt g.es j).b∈C):=fun j=>by
  rw[hp.pl j];constructor
  .rintro(rfl|⟨k1,_,k3⟩)
   .exact⟨hil,iC⟩
   .exact⟨k1,k3⟩
  .rintro⟨k1,k3⟩;by_cases e:j=i
   .exact .inl e
   .exact .inr ⟨k1,fun k=>e oO,k3⟩
 have Zn:∀ j,(j∈T++N.flatten\/(j=i\/j∈T'++N'.flatten))↔j<g.es.length/\(j:Int)≠YN/\(((eAt g.es j).a∈D++C\/(eAt g.es j).b∈D++C)\/(j∈Q++[i]/\oth (eAt g.es j) v∈s0.vis)):=fun j=>by
  rw[h.pl j,O0 j];simp only[aAg,aAl];constructor
  .rintro(⟨k1,k2,(k3|k3)|⟨k3,k4⟩⟩|⟨k1,k3⟩)
   .exact⟨k1,k2,.inl (.inl (.inl k3))⟩
   .exact⟨k1,k2,.inl (.inr (.inl k3))⟩
   .exact⟨k1,k2,.inr ⟨.inl k3,k4⟩⟩
   .exact⟨k1,fun e=>byC j e.symm k3,.inl (k3.imp .inr .inr)⟩
  .rintro⟨k1,k2,((k3|k3)|(k3|k3))|⟨k3|k3,k4⟩⟩
   .exact .inl ⟨k1,k2,.inl (.inl k3)⟩
   .exact .inr ⟨k1,.inl k3⟩
   .exact .inl ⟨k1,k2,.inl (.inr k3)⟩
   .exact .inr ⟨k1,.inr k3⟩
   .exact .inl ⟨k1,k2,.inr ⟨k3,k4⟩⟩
   .subst k3;exact absurd (h.old_in hg h0 k4) YY
 have hnd:((T++N.flatten)++i::(T'++N'.flatten)).Nodup:=by rw[aAs];refine⟨h.pn,aAD.2 ⟨iT',hp.pn⟩,fun a ha b hb=>?_⟩;rintro rfl;exact inS ha ((O0 a).1 (aAf.1 hb)).2
 have E9:∀ x,∀ w∈s1.vis,lwW (mV s1 v x) w=if w=v then x else lwW s1 w:=fun x w hw=>FB hp.ln F9 hw
 have hold1:∀ w∈s0.vis,w≠v:=fun w hw e=>h0.new (by rw[<- e];exact hw);have nm0:∀ w∈s0.vis,nmW s.vis w=nmW s0.vis w:=fun w hw=>by rw[h.vis,Dj hw]
 have wit:lwW s1 u<(s0.vis.length:Int)+1->∃ c∈C,∃ j∈atP g.es c,j≠i/\oth (eAt g.es j) c∈s0.vis/\nmW s0.vis (oth (eAt g.es j) c)=lwW s1 u:=fun hl=>by
  have C4:lwW s1 u<((eD s i).vis.length:Int)+1:=by show _<(s.vis.length:Int)+1;omega
  rw[hu]at C4;obtain⟨c,hc,j,hj,R7,ho,he⟩:=hp.lw3 C4;have he:nmW s.vis (oth (eAt g.es j) c)=lwW s1 u:=by rw[hu];exact he
  have Xt:oth (eAt g.es j) c∈s.vis:=ho;have h1:oth (eAt g.es j) c∈s0.vis:=aAL fun k=>by have h2:=Xt;rw[h.vis,aAg]at h2;have:=Ke k (h2.resolve_left k);rw[<- h.vis]at this;omega
  exact⟨c,hc,j,hj,fun e=>R7 oO,h1,by rw[<- nm0 _ h1];exact he⟩
 have base:∀(s2:Bw) (T2:List Nat) (N2:List (List Nat)),s2.vis=s1.vis->s2.low=(mV s1 v (min (lwW s1 v) (lwW s1 u))).low->s2.stk=s0.stk++T2->s2.out=s0.out++N2->
  (T2++N2.flatten).Perm ((T++N.flatten)++i::(T'++N'.flatten))->(∀ j∈T2,∃ b:Nat,YN=b/\mF g.es b j)->(∀ B∈N2,dJ g.es B)->BLp g s0 v YN (Q++[i]) s2 (D++C) T2 N2:=fun s2 T2 N2 e1 e2 e3 e4 hperm hrel hgood=>by
  have I2:∀ w∈s1.vis,lwW s2 w=if w=v then min (lwW s1 v) (lwW s1 u)else lwW s1 w:=fun w hw=>by rw[<- E9 _ w hw];unfold lwW;rw[e1,e2];rfl
  exact {
  vis:=by rw[e1,hvis2]
  nd:=by rw[e1];exact hp.nd
  ln:=by rw[e1,e2];show(s1.low.set _ _).length=_;rw[aCI];exact hp.ln
  low:=fun w hw=>by have ZE:=h.old_in hg h0 hw;rw[I2 w (by rw[D9];exact aAw _ ZE),aAa (hold1 w hw),hp.low w ZE];exact h.low w hw
  qs:=fun j hj=>by rcases aAg.1 hj with k|k;exact h.qs j k;rw[aAl]at k;subst k;exact hi
  cloQ:=fun j hj=>by
   rw[e1];rcases aAg.1 hj with k|k
   .rw[D9];exact aAw _ (h.cloQ j k)
   .rw[aAl]at k;subst k;rw[<- hu];exact W6
  cloD:=fun c hc j hj=>by
   rw[e1];rcases aAg.1 hc with k|k
   .rw[D9];exact aAw _ (h.cloD c k j hj)
   .exact hp.clo c k j hj
  stk:=e3
  out:=e4
  pl:=fun j=>by rw[hperm.mem_iff,<- Zn j,aAg,aAf]
  pn:=hperm.nodup_iff.2 hnd
  lw1:=by rw[I2 v F9,aAe rfl,hlv];have:=h.lw1;omega
  lwD:=fun c hc j hj h1 h2=>by
   rw[I2 v F9,aAe rfl,hlv];rw[aAg,aCv]at h1;rcases aAg.1 hc with k|k
   .have:=h.lwD c k j hj h1.1 h2;omega
   .have R7:(j:Int)≠i:=fun e=>by
     obtain rfl:j=i:=oO;rcases(eU hend c).1 (aU.1 hj).2 with e|e
     .subst e;exact hcn _ k A5
     .exact h2 (by rw[e];exact lM hend)
    have h3:=hp.lw2 c k j hj R7 h1.2;have h4:lwW s1 u<=nmW s.vis (oth (eAt g.es j) c):=by rw[hu];exact h3
    have Xt:=hp.clo c k j hj;rw[hvis2,aAg,aAf,aAg]at Xt;have Xt:=Xt.resolve_right fun x=>by rcases x with x|x|x;exact h2 x;exact h1.1 x;exact h1.2 x
    rw[nm0 _ Xt]at h4;omega
  lwQ:=fun j hj I9 ho=>by
   rw[I2 v F9,aAe rfl,hlv];rcases aAg.1 hj with k|k
   .have:=h.lwQ j k I9 ho;omega
   .rw[aAl]at k;subst k;exact absurd (h.old_in hg h0 ho) YY
  lw3:=fun hl=>by
   rw[I2 v F9,aAe rfl]at hl ⊢;by_cases Yp:lwW s1 v<=lwW s1 u
   .rw[Int.min_eq_left Yp,hlv]at hl ⊢;obtain⟨c,hc,j,hj,I9,ho,he⟩:=h.lw3 hl;exact⟨c,by rcases aAf.1 hc with k|k<;>simp[k],j,hj,I9,ho,he⟩
   .rw[Int.min_eq_right oO]at hl ⊢;obtain⟨c,hc,j,hj,R7,ho,he⟩:=wit hl;refine⟨c,by simp[hc],j,hj,fun e=>byC j e.symm ?_,ho,he⟩;rcases(aU.1 hj).2 with x|x
    .exact .inl (by rw[x];exact hc)
    .exact .inr (by rw[x];exact hc)
  rel:=hrel
  good:=hgood
  cn:=fun c hc=>by
   rcases aAg.1 hc with k|k
   .exact(h.cn c k).mono fun z hz=>hz.imp_right fun x=>aAw _ x
   .have h1:=(hp.cn c k).mono (S':=fun x=>x=v\/x∈D++C) fun z hz=>.inr (aAI _ hz)
    exact(RIn.step (.refl (.inl rfl)) (lS hi) (.inr (aAI _ (by rw[<- hu];exact huC)))).trans h1 }
 rw[<- hu];unfold LY;by_cases hc:(s0.vis.length:Int)+1<=lwW s1 u
 .rw[aAe hc];have Q3:s1.stk=(s0.stk++T)++i::T':=by rw[hp.stk];show(s.stk++[i])++T'=_;rw[h.stk];simp
  have hiT:i∉T':=fun k=>iT' (aAw _ k);have A8:iU s1.stk i=(s0.stk++T).length:=by rw[Q3];exact wX hiT
  have hSn:(i::T').Nodup:=aAD.2 ⟨hiT,(aAs.1 hp.pn).1⟩;have hSl:∀ j∈i::T',j<g.es.length:=fun j hj=>by have:j=i\/j∈T'++N'.flatten:=(aAf.1 hj).imp_right fun k=>aAw _ k;exact((O0 j).1 this).1
  have hbp:=wQ hSn hSl;have hrelS:∀ j∈i::T',mF g.es i j:=fun j hj=>by
   rcases aAf.1 hj with e|k
   .rw[e];exact .refl
   .obtain⟨b,hb,hr⟩:=hp.rel j k;obtain rfl:i=b:=oO;exact hr
  have hlu:∀ c∈C,∀ j∈atP g.es c,oth (eAt g.es j) c∈C\/oth (eAt g.es j) c=v:=fun c hcC j hj=>by
   by_cases e1:oth (eAt g.es j) c∈C
   .exact .inl e1
   refine .inr (aAL fun e2=>?_);by_cases R7:(j:Int)=i
   .obtain rfl:j=i:=oO;rcases(eU hend c).1 (aU.1 hj).2 with e|e
    .subst e;exact hcn _ hcC A5
    .exact e2 (by rw[e];exact lM hend)
   .have h3:=hp.lw2 c hcC j hj R7 e1;have h4:lwW s1 u<=nmW s.vis (oth (eAt g.es j) c):=by rw[hu];exact h3
    have Xt:=hp.clo c hcC j hj;rw[D9]at Xt;have Xt:=(aAg.1 Xt).resolve_right e1;have Ym:oth (eAt g.es j) c∈s0.vis\/oth (eAt g.es j) c∈D:=by
     rw[h.vis,aAg,aAf]at Xt;rcases Xt with k|k|k
     .exact .inl k
     .exact absurd k e2
     .exact .inr k
    rcases Ym with k|k
    .rw[nm0 _ k]at h4;have:=Ny k;omega
    .have:=h.cloD _ k j (yO hj);rw[lM (aU.1 hj).2]at this;exact hcn _ hcC this
  have hgood:dJ g.es (sW g.es.length (i::T')):={
   ne:=fun e=>by have:i∈sW g.es.length (i::T'):=jZ.2 ⟨hil,sS⟩;rw[e]at this;cases this
   rise:=vN _ _
   lt:=fun j hj=>(jZ.1 hj).1
   rel:=fun j hj k hk=>(hrelS j (jZ.1 hj).2).symm.trans (hrelS k (jZ.1 hk).2)
   all:=fun j hj k hk hr=>by
    have hjS:=(jZ.1 hj).2;have hjC:=((O0 j).1 ((aAf.1 hjS).imp_right fun x=>aAw _ x)).2;have hkC:(eAt g.es k).a∈C\/(eAt g.es k).b∈C:=by
     obtain⟨w,w1,w2,w3⟩:=hr;have hjw:j∈atP g.es w:=aU.2 ⟨hSl j hjS,w1⟩;have hkw:k∈atP g.es w:=aU.2 ⟨hk,w2⟩;by_cases hwC:w∈C
     .rcases w2 with e|e
      .exact .inl (by rw[e];exact hwC)
      .exact .inr (by rw[e];exact hwC)
     have hoC:oth (eAt g.es j) w∈C:=by
      rcases hjC with x|x
      .rcases(eU w1 _).1 (.inl rfl)with e|e
       .exact absurd (by rw[<- e];exact x) hwC
       .rw[<- e];exact x
      .rcases(eU w1 _).1 (.inr rfl)with e|e
       .exact absurd (by rw[<- e];exact x) hwC
       .rw[<- e];exact x
     have hwv:w=v:=by have:=hlu _ hoC j (yO hjw);rw[lM w1]at this;exact this.resolve_left hwC
     subst hwv;have hq:oth (eAt g.es k) w∈C:=w3.closed (L:=(·∈C)) hoC fun z hz x hx Wx=>by obtain⟨l,hl,rfl⟩:=Ek hx;exact(hlu z hz l hl).resolve_right Wx
     rcases lT (eAt g.es k) w with e|e
     .exact .inl (by rw[e];exact hq)
     .exact .inr (by rw[e];exact hq)
    refine jZ.2 ⟨hk,?_⟩;rcases(O0 k).2 ⟨hk,hkC⟩with e|e
    .rw[e];simp
    .rcases aAg.1 e with e|e
     .exact aAk _ e
     .obtain⟨B,hB,hkB⟩:=aAZ.1 e;have hjB:=(hp.good B hB).all k hkB j (hSl j hjS) hr.symm;have hjN:j∈N'.flatten:=aAZ.2 ⟨B,hB,hjB⟩;exfalso;rcases aAf.1 hjS with e|e
      .exact iT' (by rw[<- e];exact aAI _ hjN)
      .exact(aAs.1 hp.pn).2.2 j e j hjN rfl }
  have Y0:Gy g.es.length (mV s1 v (min (lwW s1 v) (lwW s1 u))) i=some { mV s1 v (min (lwW s1 v) (lwW s1 u))with stk:=s0.stk++T,out:=s0.out++(N++N'++[sW g.es.length (i::T')]) }:=by unfold Gy;have e1:(mV s1 v (min (lwW s1 v) (lwW s1 u))).stk=s1.stk:=rfl;have e2:(mV s1 v (min (lwW s1 v) (lwW s1 u))).out=s1.out:=rfl;rw[e1,e2,A8,aAe (by rw[Q3];simp),Q3,aDx,aDw,hp.out];show some _=some _;have:(eD s i).out=s0.out++N:=h.out;rw[this];simp only[aAF]
  refine⟨_,D++C,T,N++N'++[sW g.es.length (i::T')],Y0,base _ _ _ rfl rfl rfl rfl ?_ h.rel ?_⟩
  .simp only[aBZ,List.flatten_cons,List.flatten_nil,aAP,aAF];refine aBT _ (aBT _ ?_);refine aBR.trans ?_;exact(hbp.append_right _)
  .intro B hB;rcases aAg.1 hB with hB|hB
   .rcases aAg.1 hB with hB|hB
    .exact h.good B hB
    .exact hp.good B hB
   .rw[aAl]at hB;rw[hB];exact hgood
 .rw[aAa hc];have hl:lwW s1 u<(s0.vis.length:Int)+1:=oO;obtain⟨c,hcC,j,hj,R7,ho,he⟩:=wit hl;have hA:=h.back_act hg h0 (c:=c) (fun k=>hcn c hcC (h.old_in hg h0 k)) hj ho;obtain⟨b,hb⟩:=h.no_root hg h0 hA;obtain⟨_,b2,_⟩:=h.by_out hg h0 hb;have hbi:mF g.es b i:=by
   refine .step .refl (aU.1 b2).1 hil ⟨v,(aU.1 b2).2,hend,?_⟩;refine(((hp.cn c hcC).mono fun z hz=>?_).trans (.step (.refl ?_) (lS hj) ?_) |>.trans (h.act_to hg h0 hb hA)).symm
   .intro e;subst e;exact hcn _ hz A5
   .intro e;subst e;exact hcn _ hcC A5
   .exact hold1 _ ho
  refine⟨_,D++C,T++(i::T'),N++N',rfl,base _ _ _ rfl rfl ?_ ?_ ?_ ?_ ?_⟩
  .show s1.stk=_;rw[hp.stk];show(s.stk++[i])++T'=_;rw[h.stk];simp
  .show s1.out=_;rw[hp.out];show s.out++N'=_;rw[h.out];simp
  .simp only[aBZ,aAF,List.cons_append];refine aBT _ ?_;have:(i::(T'++(N.flatten++N'.flatten))).Perm (N.flatten++(i::(T'++N'.flatten))):=by refine List.Perm.trans ?_ aBW.symm;refine List.Perm.cons _ ?_;rw[<- aAF,<- aAF];exact aDA _ aBR
   exact this
  .intro k hk;rcases aAg.1 hk with hk|hk
   .exact h.rel k hk
   .refine⟨b,hb,hbi.trans ?_⟩;rcases aAf.1 hk with e|e
    .rw[e];exact .refl
    .obtain⟨b',hb',hr⟩:=hp.rel k e;obtain rfl:i=b':=oO;exact hr
  .intro B hB;rcases aAg.1 hB with hB|hB
   .exact h.good B hB
   .exact hp.good B hB
end
end Aw
namespace Aw
open Go Go.RowKit Pl Eu
section
variable {g:Gr} (hg:GoodE g)
include hg
theorem JX(n:Nat)(ih:∀(A:Int->Prop) (s:Bw) (v YN:Int),yI g A s v YN->v∈g.vs->(∀ w∈s.vis,w∈g.vs)->g.vs.length<=n+s.vis.length->∃ s1 C T N,nO g.es n v YN s=some s1/\JY g s v YN s1 C T N/\∀ c∈C,c∈g.vs)
 {A:Int->Prop} {s0:Bw} {v YN:Int} (h0:yI g A s0 v YN) (hn:g.vs.length<=n+(s0.vis.length+1)):
 ∀(R Q:List Nat) (s:Bw) (D:List Int) (T:List Nat) (N:List (List Nat)),Q++R=atP g.es v->BLp g s0 v YN Q s D T N->(∀ w∈s.vis,w∈g.vs)->
  ∃ s1 D T N,goB (fW (nO g.es n) g.es v YN ((s0.vis.length:Int)+1)) R s=some s1/\BLp g s0 v YN (atP g.es v) s1 D T N/\∀ w∈s1.vis,w∈g.vs
 |[],Q,s,D,T,N,hQ,h,hv=>⟨s,D,T,N,rfl,by rw[aAP]at hQ;rw[<- hQ];exact h,hv⟩
 |i::R,Q,s,D,T,N,hQ,h,hv=>by
  have hi:i∈atP g.es v:=by rw[<- hQ];simp
  have hnd:(atP g.es v).Nodup:=aCM _ aDH;have hiQ:i∉Q:=fun k=>by rw[<- hQ,aAs]at hnd;exact hnd.2.2 i k i sS rfl
  have hQ2:(Q++[i])++R=atP g.es v:=by rw[<- hQ];simp
  have go:∀ s2 D T N,fW (nO g.es n) g.es v YN ((s0.vis.length:Int)+1) s i=some s2->BLp g s0 v YN (Q++[i]) s2 D T N->(∀ w∈s2.vis,w∈g.vs)->∃ s1 D T N,goB (fW (nO g.es n) g.es v YN ((s0.vis.length:Int)+1)) (i::R) s=some s1/\BLp g s0 v YN (atP g.es v) s1 D T N/\∀ w∈s1.vis,w∈g.vs:=fun s2 D T N e h2 hv2=>by obtain⟨s1,D1,T1,N1,k1,k2,k3⟩:=JX n ih h0 hn R (Q++[i]) s2 D T N hQ2 h2 hv2;exact⟨s1,D1,T1,N1,by rw[goB,e];exact k1,k2,k3⟩
  by_cases hb:(i:Int)=YN
  .exact go s D T N (by unfold fW;rw[aAe hb]) (h.same hg h0 hi hb) hv
  by_cases Xt:oth (eAt g.es i) v∈s.vis
  .by_cases I8:nmW s.vis (oth (eAt g.es i) v)<(s0.vis.length:Int)+1
   .exact go _ D _ N (by unfold fW;rw[aAa hb,aAe Xt,aAe I8]) (h.back hg h0 hi hiQ hb Xt I8) hv
   .exact go s D T N (by unfold fW;rw[aAa hb,aAe Xt,aAa I8]) (h.skip hg h0 hi Xt I8) hv
  .have hlen:s.vis.length=s0.vis.length+1+D.length:=by rw[h.vis,aAh,List.length_cons];omega
   have huv:oth (eAt g.es i) v∈g.vs:=hg.nbr (lS hi);obtain⟨s1,C,T',N',e,hp,hC⟩:=ih _ (eD s i) _ i (h.pre hg h0 hi Xt) huv hv (by show g.vs.length<=n+s.vis.length;omega);obtain⟨s2,D2,T2,N2,e2,h2⟩:=h.child hg h0 hi hiQ hb Xt hp;refine go s2 D2 T2 N2 (by unfold fW;rw[aAa hb,aAa Xt,e];exact e2) h2 fun w hw=>?_;have e3:s2.vis=s1.vis:=by
    unfold LY at e2
    split at e2
    .unfold Gy at e2
     split at e2
     .cases e2;rfl
     .cases e2
    .cases e2;rfl
   rw[e3,hp.vis,aAg]at hw;exact hw.elim (hv w) (hC w)
theorem Dx:∀(n:Nat) (A:Int->Prop) (s:Bw) (v YN:Int),yI g A s v YN->v∈g.vs->(∀ w∈s.vis,w∈g.vs)->g.vs.length<=n+s.vis.length->∃ s1 C T N,nO g.es n v YN s=some s1/\JY g s v YN s1 C T N/\∀ c∈C,c∈g.vs
 |0,A,s,v,YN,h,hv,hs,hn=>by
  have h1:(s.vis++[v]).length<=g.vs.length:=aAC (by
   rw[aAs]
   exact⟨h.nd,sS,fun a ha b hb=>by rintro rfl;rw[aAl]at hb;subst hb;exact h.new ha⟩) fun w hw=>by
    rcases aAg.1 hw with k|k
    .exact hs w k
    .rw[aAl]at k;rw[k];exact hv
  simp at h1;omega
 |n+1,A,s,v,YN,h,hv,hs,hn=>by
  obtain⟨s1,D,T,N,e,h1,G5⟩:=JX hg n (Dx n) h oO (atP g.es v) [] (oN s v) [] [] [] rfl h.start fun w hw=>by
   have hw:w∈s.vis++[v]:=hw;rcases aAg.1 hw with k|k
   .exact hs w k
   .rw[aAl]at k;rw[k];exact hv
  have hp:=h1.done hg h;exact⟨s1,_,T,N,e,hp,fun c hc=>G5 c (by rw[hp.vis];exact aAI _ hc)⟩
structure Iw(g:Gr)(s:Bw):Prop where
 ln:s.low.length=s.vis.length
 nd:s.vis.Nodup
 sub:∀ w∈s.vis,w∈g.vs
 fin:∀ w∈s.vis,∀ i∈atP g.es w,oth (eAt g.es i) w∈s.vis
 stk:s.stk=[]
 pl:∀ i,i∈s.out.flatten↔i<g.es.length/\(eAt g.es i).a∈s.vis
 pn:s.out.flatten.Nodup
 good:∀ B∈s.out,dJ g.es B
theorem EV(n:Nat)(hn:g.vs.length<=n):∀(l:List Int) (s:Bw),(∀ v∈l,v∈g.vs)->Iw g s->∃ s1,sN g.es n l s=some s1/\Iw g s1/\(∀ v∈s.vis,v∈s1.vis)/\∀ v∈l,v∈s1.vis
 |[],s,_,h=>⟨s,rfl,h,fun _ h=>h,fun v hv=>by cases hv⟩
 |v::l,s,hl,h=>by
  by_cases hv:v∈s.vis
  .obtain⟨s1,e,k1,k2,k3⟩:=EV n hn l s (fun w hw=>hl w (aAk _ hw)) h;refine⟨s1,by rw[sN,aAe hv];exact e,k1,k2,fun w hw=>?_⟩;rcases aAf.1 hw with rfl|hw
   .exact k2 _ hv
   .exact k3 _ hw
  .have Z7:yI g (fun _=>False) s v (-1):=⟨h.ln,h.nd,fun a ha=>ha.elim,fun w hw _=>h.fin w hw,hv,fun a b ha=>ha.elim,.inl ⟨rfl,fun a ha=>ha⟩⟩;obtain⟨s1,C,T,N,e,hp,hC⟩:=Dx hg n _ s v (-1) Z7 (hl v sS) h.sub oO;have hT:T=[]:=by
    cases T with
    |nil=>rfl
    |cons i T=>obtain⟨b,hb,_⟩:=hp.rel i sS;omega
   subst hT;have Xk:∀ w∈s1.vis,∀ i∈atP g.es w,oth (eAt g.es i) w∈s1.vis:=fun w hw i hi=>by
    have ZP:=hw;rw[hp.vis,aAg]at ZP;rcases ZP with k|k
    .rw[hp.vis];exact aAw _ (h.fin w k i hi)
    .exact hp.clo w k i hi
   have hall:Iw g s1:={
    ln:=hp.ln
    nd:=hp.nd
    sub:=fun w hw=>by rw[hp.vis,aAg]at hw;exact hw.elim (h.sub w) (hC w)
    fin:=Xk
    stk:=by rw[hp.stk,h.stk];rfl
    pl:=fun i=>by
     have h2:=hp.pl i;rw[List.nil_append]at h2;rw[hp.out,aBZ,aAg,h.pl i,h2,hp.vis,aAg];constructor
     .rintro(⟨k1,k2⟩|⟨k1,_,k2⟩)
      .exact⟨k1,.inl k2⟩
      .refine⟨k1,?_⟩;rcases k2 with k2|k2
       .exact .inr k2
       .have:=hp.clo _ k2 i (aU.2 ⟨k1,.inr rfl⟩);rw[hp.vis,aAg]at this;have e1:oth (eAt g.es i) (eAt g.es i).b=(eAt g.es i).a:=by unfold oth;split<;>first|(next q=>exact q.symm)|rfl
        rwa [e1]at this
     .rintro⟨k1,k2|k2⟩
      .exact .inl ⟨k1,k2⟩
      .exact .inr ⟨k1,oO,.inl k2⟩
    pn:=by
     have h2:=hp.pn;rw[List.nil_append]at h2;rw[hp.out,aBZ,aAs];refine⟨h.pn,h2,fun a ha b hb=>?_⟩;rintro rfl;have k1:=(h.pl a).1 ha;have k2:=(hp.pl a).1 (by rw[List.nil_append];exact hb);have hd:∀ c∈C,c∉s.vis:=fun c hc k=>by have:=hp.nd;rw[hp.vis,aAs]at this;exact this.2.2 c k c hc rfl
     rcases k2.2.2 with k|k
     .exact hd _ k k1.2
     .have:=h.fin _ k1.2 a (aU.2 ⟨k1.1,.inl rfl⟩);have e1:oth (eAt g.es a) (eAt g.es a).a=(eAt g.es a).b:=by unfold oth;rw[aAe rfl]
      rw[e1]at this;exact hd _ k this
    good:=fun B hB=>by
     rw[hp.out,aAg]at hB
     exact hB.elim (h.good B) (hp.good B) }
   obtain⟨s2,e2,k1,k2,k3⟩:=EV n hn l s1 (fun w hw=>hl w (aAk _ hw)) hall;refine⟨s2,by rw[sN,aAa hv,e];exact e2,k1,fun w hw=>k2 w (by rw[hp.vis];exact aAw _ hw),fun w hw=>?_⟩;rcases aAf.1 hw with rfl|hw
   .exact k2 _ (by rw[hp.vis];exact aAI _ hp.hd)
   .exact k3 _ hw
theorem rK:∃ s,sN g.es g.vs.length g.vs ⟨[],[],[],[]⟩=some s/\s.stk=[]/\(∀ i,i∈s.out.flatten↔i<g.es.length)/\s.out.flatten.Nodup/\∀ B∈s.out,dJ g.es B:=by obtain⟨s,e,h,_,h3⟩:=EV hg g.vs.length (aAi _) g.vs ⟨[],[],[],[]⟩ (fun _ h=>h) ⟨rfl,.nil,fun w hw=>(by cases hw),fun w hw=>(by cases hw),rfl,fun i=>by simp,sS,fun B hB=>(by cases hB)⟩;refine⟨s,e,h.stk,fun i=>?_,h.pn,h.good⟩;rw[h.pl i];exact and_iff_left_of_imp fun hi=>h3 _ (hg.ends _ (nN hi)).1
end
def esB(es:List Ed)(B:List Nat):List Ed:=B.map (eAt es)
theorem LC{es:List Ed}{w p z:Int}(hz:z≠p){y:Int}(h:RIn es (·≠w) p y):RIn es (fun t=>t≠w/\t≠z) p y\/∃ y',z∈nbr es y'/\RIn es (fun t=>t≠w/\t≠z) p y':=by
 induction h with
 |refl h=>exact .inl (.refl ⟨h,fun e=>hz e.symm⟩)
 |@step y u h hn hs ih=>
  rcases ih with ih|ih
  .by_cases e:u=z
   .subst e;exact .inr ⟨y,hn,ih⟩
   .exact .inl (.step ih hn ⟨hs,e⟩)
  .exact .inr ih
theorem MW{es:List Ed}{w p q:Int}{S:Int->Prop}(hp:S p)(h:RIn es (·≠w) p q):S q\/∃ z z',S z/\z'∈nbr es z/\RIn es (fun t=>t≠w/\¬S t) z' q:=by
 induction h with
 |refl h=>exact .inl hp
 |@step y u h hn hs ih=>
  by_cases hu:S u
  .exact .inl hu
  by_cases hy:S y
  .exact .inr ⟨y,u,hy,hn,.refl ⟨hs,hu⟩⟩
  rcases ih with ih|⟨z,z',h1,h2,h3⟩
  .exact absurd ih hy
  .exact .inr ⟨z,z',h1,h2,.step h3 hn ⟨hs,hu⟩⟩
theorem KA{es:List Ed}{B:List Nat}{y z:Int}(h:z∈nbr (esB es B) y):∃ i∈B,((eAt es i).a=y\/(eAt es i).b=y)/\oth (eAt es i) y=z:=by
 rw[cU]at h;obtain⟨x,hx,h⟩:=h;obtain⟨i,hi,rfl⟩:=aAm.1 hx;refine⟨i,hi,oO,?_⟩;unfold oth
 split<;>omega
theorem Jz{es:List Ed}{B:List Nat}{i:Nat}(hi:i∈B){y:Int}(h:(eAt es i).a=y\/(eAt es i).b=y):oth (eAt es i) y∈nbr (esB es B) y:=by
 rw[cU];refine⟨_,aAx hi,?_⟩;unfold oth
 split
 .exact .inl ⟨by assumption,rfl⟩
 .exact .inr ⟨oO,rfl⟩
theorem RIn.up{es:List Ed}{B:List Nat}(hB:∀ i∈B,i<es.length){S:Int->Prop}{x y:Int}(h:RIn (esB es B) S x y):RIn es S x y:=by
 induction h with
 |refl h=>exact .refl h
 |step h hn hs ih=>refine .step ih ?_ hs;obtain⟨i,hi,he,rfl⟩:=KA hn;exact lS (aU.2 ⟨hB i hi,he⟩)
section
variable {g:Gr} (hg:GoodE g)
include hg
theorem dJ.ring_in{B:List Nat}(h:dJ g.es B){i j:Nat}(hi:i∈B)(hj:j<g.es.length){w:Int}(hr:QM g.es w (eAt g.es i) (eAt g.es j)):RIn (esB g.es B) (·≠w) (oth (eAt g.es i) w) (oth (eAt g.es j) w):=by
 obtain⟨h1,h2,h3⟩:=hr;have hjB:j∈B:=h.all i hi j hj ⟨w,h1,h2,h3⟩;have hpw:oth (eAt g.es i) w≠w:=sX hg (aU.2 ⟨h.lt i hi,h1⟩);have hqw:oth (eAt g.es j) w≠w:=sX hg (aU.2 ⟨hj,h2⟩);rcases MW (S:=fun t=>RIn (esB g.es B) (·≠w) (oth (eAt g.es i) w) t) (.refl hpw) h3 with k|⟨z,z',k1,k2,k3⟩
 .exact k
 exfalso;have hzw:z≠w:=k1.here.2;obtain⟨l,hl,he⟩:=Ek k2;have T0:=aU.1 hl;have back:RIn g.es (·≠z) z' w:=by have a:=k3.mono (S':=(·≠z)) fun t ht e=>ht.2 (by rw[e];exact k1);refine .step a (qH (lS (aU.2 ⟨hj,h2⟩))) fun e=>hzw e.symm
 have Xt:l∈B:=by
  by_cases ez:z=oth (eAt g.es i) w
  .refine h.all i hi l T0.1 ⟨z,by rw[ez];exact lT _ _,T0.2,?_⟩;rw[he,ez,lM h1,<- ez];exact back.symm
  .rcases LC ez k1 with k|⟨y',k4,k5⟩
   .exact absurd rfl k.here.2.2
   .obtain⟨o,ho,hoe,hoz⟩:=KA k4;refine h.all o ho l T0.1 ⟨z,by rw[<- hoz];exact lT _ _,T0.2,?_⟩;rw[he,<- hoz,lM hoe,hoz];have a:RIn g.es (·≠z) (oth (eAt g.es i) w) y':=(k5.mono (S':=(·≠z)) fun t ht=>ht.2).up h.lt;have b:RIn g.es (·≠z) w (oth (eAt g.es i) w):=.step (.refl fun e=>hzw e.symm) (lS (aU.2 ⟨h.lt i hi,h1⟩)) fun e=>ez e.symm;exact((back.trans b).trans a).symm
 have:RIn (esB g.es B) (·≠w) (oth (eAt g.es i) w) z':=.step k1 (by rw[<- he];exact Jz Xt T0.2) k3.here.1.1;exact k3.here.1.2 this
theorem dJ.con{B:List Nat}(h:dJ g.es B)(v:Int){i j:Nat}(hi:i∈B)(hr:mF g.es i j):∀ p q,((eAt g.es i).a=p\/(eAt g.es i).b=p)->((eAt g.es j).a=q\/(eAt g.es j).b=q)->p≠v->q≠v->RIn (esB g.es B) (·≠v) p q:=by
 have one:∀ k∈B,∀ p q,((eAt g.es k).a=p\/(eAt g.es k).b=p)->((eAt g.es k).a=q\/(eAt g.es k).b=q)->p≠v->q≠v->RIn (esB g.es B) (·≠v) p q:=fun k hk p q h1 h2 hp hq=>by
  rcases(eU h1 q).1 h2 with e|e
  .rw[e];exact .refl hp
  .exact .step (.refl hp) (by rw[e];exact Jz hk h1) hq
 induction hr with
 |refl=>exact one i hi
 |@step j k hr Z6 hk hre ih=>
  intro p q hp hq hpv hqv;have hj:j∈B:=(h.iff hi).2 hr;have hkB:k∈B:=h.all j hj k hk hre;obtain⟨w,w1,w2,w3⟩:=hre;by_cases e:v=w
  .subst e;have h1:=ih p (oth (eAt g.es j) v) hp (lT _ _) hpv (sX hg (aU.2 ⟨Z6,w1⟩));have h2:=h.ring_in hg hj hk ⟨w1,w2,w3⟩;rcases(eU w2 q).1 hq with e|e
   .exact absurd e hqv
   .rw[e];exact h1.trans h2
  .exact(ih p w hp w1 hpv fun x=>e x.symm).trans (one k hkB w q w2 hq (fun x=>e x.symm) hqv)
omit hg in
theorem dJ.eq{B B':List Nat}(h:dJ g.es B)(h':dJ g.es B'){j:Nat}(hj:j∈B)(hj':j∈B'):B=B':=by
 have hn:B.Nodup:=h.rise.imp fun k=>aBs k;have E6:B'.Nodup:=h'.rise.imp fun k=>aBs k;have hp:B.Perm B':=(aBk hn E6).2 fun k=>by rw[h.iff hj,h'.iff hj']
 exact hp.eq_of_pairwise (fun a b _ _ h1 h2=>absurd h1 oO) h.rise h'.rise
end
noncomputable def gQ(es:List Ed)(i:Nat):List Nat:=(List.range es.length).filter fun j=>@decide (mF es i j) (Classical.propDecidable _)
theorem Gj{es:List Ed}{i j:Nat}:j∈gQ es i↔j<es.length/\mF es i j:=by unfold gQ;rw[aAz,aAX,@aAO _ (Classical.propDecidable _)]
theorem Co(es:List Ed)(i:Nat):(gQ es i).Pairwise (· < ·):=aCM _ aBN
noncomputable def eZ(es:List Ed):List (List Nat):=((List.range es.length).filter fun i=>decide ((gQ es i).headD 0=i)).map (gQ es)
theorem head_mem{l:List Nat}(h:l≠[]):l.headD 0∈l:=by
 cases l with
 |nil=>exact absurd rfl h
 |cons a l=>simp
theorem dJ.cls{es:List Ed}{B:List Nat}(h:dJ es B){i:Nat}(hi:i∈B):B=gQ es i:=by
 have hn:B.Nodup:=h.rise.imp fun k=>aBs k;have E6:(gQ es i).Nodup:=(Co es i).imp fun k=>aBs k;have hp:B.Perm (gQ es i):=(aBk hn E6).2 fun k=>by rw[Gj,<- h.iff hi];exact⟨fun q=>⟨h.lt k q,q⟩,fun q=>q.2⟩
 exact hp.eq_of_pairwise (fun a b _ _ h1 h2=>absurd h1 oO) h.rise (Co es i)
theorem BS{es:List Ed}{out B:List (List Nat)}(hall:∀ i,i∈out.flatten↔i<es.length)(j8:∀ B∈out,dJ es B)(hp:B.Perm out)(hr:B.Pairwise fun x y=>x.headD 0<y.headD 0):B=eZ es:=by
 have Zt:∀ b,b∈B↔b∈eZ es:=fun b=>by
  unfold eZ;rw[hp.mem_iff,aAm];constructor
  .intro hb;have ho:=j8 b hb;have hh:=head_mem ho.ne;have hc:=ho.cls hh;refine⟨b.headD 0,?_,hc.symm⟩;rw[aAz,aAX,aAO,<- hc];exact⟨ho.lt _ hh,rfl⟩
  .rintro⟨i,hi,rfl⟩;rw[aAz,aAX,aAO]at hi;obtain⟨b,hb,hib⟩:=aAZ.1 ((hall i).2 hi.1);rw[<- (j8 b hb).cls hib];exact hb
 have hl:(eZ es).Pairwise fun x y=>x.headD 0<y.headD 0:=by unfold eZ;rw[aAU];refine(aCM (fun i=>decide ((gQ es i).headD 0=i)) (aBN (n:=es.length))).imp_of_mem ?_;intro a b ha hb YA;rw[aAz,aAO]at ha hb;rw[ha.2,hb.2];exact YA
 have W2:B.Perm (eZ es):=(aBk (hr.imp fun k e=>by rw[e]at k;omega) (hl.imp fun k e=>by rw[e]at k;omega)).2 Zt;exact W2.eq_of_pairwise (fun a b _ _ h1 h2=>absurd h1 oO) hr hl
theorem Iq{m:Mp}(h:cP m){d:Int}(hd:d∈aS m.g.es):2<=d/\d<=2097153:=by obtain⟨x,hx,h1⟩:=fR.1 hd;have:=h.g.pos x hx;omega
theorem cP.cyc_le{m:Mp}(h:cP m){d:Int}(hd:d∈aS m.g.es){L:List Int}(hc:kO (fc m m.g.es) d L):(∀ x∈L,x∈aS m.g.es)/\L.length<=2*m.g.es.length:=by
 have V3:∀ k,it (fc m m.g.es) k d∈aS m.g.es:=by
  intro k;induction k with
  |zero=>exact hd
  |succ k ih=>rw[cT];exact h.fc_dart _ _ ih
 have hs:∀ x∈L,x∈aS m.g.es:=fun x hx=>by obtain⟨n,rfl⟩:=hc.mem.1 hx;exact V3 n
 have:=aAC (hc.nodup (h.fc_inj _)) (l₂:=aS m.g.es) hs;rw[nL]at this;exact⟨hs,this⟩
def itL(f:Int->Int)(d:Int)(k:Nat):List Int:=(List.range k).map fun j=>it f j d
theorem QE(f:Int->Int)(d:Int)(k:Nat):itL f d (k+1)=itL f d k++[it f k d]:=by unfold itL;rw[aDL];simp
@[simp] theorem EO(f:Int->Int)(d:Int)(k:Nat):(itL f d k).length=k:=by simp[itL]
section
variable {f:Int->Int} (hf:Per f) {ds:List Int} (hd:∀ x∈ds,f x∈ds)
include hf hd
end
def tix(rs:List (List Int))(d:Int):Int:=if(rs.any fun t=>decide (d∈t))=true then(rs.findIdx fun t=>decide (d∈t):Int)else -1
theorem FK{rs:List (List Int)}{d:Int}{k:Nat}(hk:k<rs.length)(h:d∈rs.getD k [])(hn:∀ j,j<k->d∉rs.getD j []):tix rs d=k:=by
 rw[dA _ _ hk]at h;unfold tix;rw[aAe (aBO.2 ⟨_,aAu hk,by simpa using h⟩)]
 congr 1
 refine(List.findIdx_eq hk).2 ⟨by simpa using h,fun j hj=>?_⟩;have:=hn j hj;rw[dA _ _ oO]at this;simpa using this
theorem FP{rs:List (List Int)}{d:Int}(hn:∀ j,j<rs.length->d∉rs.getD j []):tix rs d = -1:=by unfold tix;rw[aAa];intro h;obtain⟨t,ht,hp⟩:=aBO.1 h;obtain⟨j,hj,rfl⟩:=aAy ht;have:=hn j hj;rw[dA _ _ hj]at this;exact this (by simpa using hp)
theorem QH{rs:List (List Int)}{d:Int}(h:∃ t∈rs,d∈t):∃ k,k<rs.length/\tix rs d=(k:Int)/\d∈rs.getD k []:=by obtain⟨t,ht,hd⟩:=h;obtain⟨j,hj,rfl⟩:=aAy ht;obtain⟨k,hk,Yp⟩:=least (P:=fun k=>k<rs.length/\d∈rs.getD k []) ⟨hj,by rw[dA _ _ hj];exact hd⟩;exact⟨k,hk.1,FK hk.1 hk.2 fun i hi hd=>Yp i hi ⟨oO,hd⟩,hk.2⟩
theorem SV{rs:List (List Int)}{d:Int}(h:∀ t∈rs,d∉t):tix rs d = -1:=FP fun j hj=>by rw[dA _ _ hj];exact h _ (aAu _)
theorem zV(m:Mp)(d:Int)(st:St)(hr:m.rots.length<=1000)(hs:∀ t∈m.rots,small t):
 aB prog 176 [.ag (mpL m),u d] st fun r st'=>r=i (tix m.rots d)/\aA st st':=by
 refine zN func176 ntmps176 [.tmp 4] ?_
 (repeat' (first|apply qS|apply qB|(refine zE ?_;intro J hJ;simp[];refine zJ hJ ?_)))
 refine bE 9 8 10 21 (m.rots.length) (fun j fr st2=>fr 1=u d/\fr 2=.pt st.next 0/\st2.H st.next=.box 39 3 (mpL m)/\aA st st2/\∀ k,k<j->d∉m.rots.getD k []) ?_ ?_ ?_
 .exact⟨sS,sS,sS,aA.new _ _,fun k hk=>by omega⟩
 .rintro j fr st2 dN ⟨f1,f2,hG,Xm,YI⟩ fi fn JJ hJJ;have hd:=kQ m.rots j dN;have hRl:j<(dU m.rots).length:=by simpa using dN
  have htin:m.rots.getD j []∈m.rots:=by rw[dA _ _ dN];exact aAu _
  have ZZ:=hs _ htin;have S7:=fun h=>FK (d:=d) dN h YI;have hnn:d∉m.rots.getD j []->∀ k,k<j+1->d∉m.rots.getD k []:=fun h k hk=>by
   rcases aAB k j with h1|h1
   .exact YI k h1
   .obtain rfl:k=j:=oO;exact h
  generalize m.rots.getD j []=t at *
  (repeat' (first|apply qS|(refine zE ?_;intro J hJ;simp[f1,f2,hG,fi,fn,hd,hRl,dN];(try refine zJ hJ ?_))))
  refine qE (Uc t 0 d _ ZZ) sS ?_;rintro r s3 ⟨rfl,rfl⟩;by_cases L0:d∈t
  .have hr:=S7 L0;have hg:=sF L0
   (repeat' (first|apply qS|(refine qR (zZ ?_);simp[hg,hr])|(apply qC;simp[hg,hr])|((first|(refine zE ?_;intro J hJ)|(apply aD));simp[hg,hr];refine zJ hJ ?_)))
   exact Xm
  .have hg:=At L0
   (repeat' (first|refine qK (zZ ?_)|(apply qC;simp[hg])|(apply aD;simp[hg];refine zJ hJ ?_)))
   exact hJJ _ _ (by simp[fi]) (by simp[fn]) ⟨by simp[f1],by simp[f2],hG,Xm,hnn L0⟩
 .rintro fr st2 ⟨f1,f2,hG,Xm,YI⟩;have hr:=FP YI
  (repeat' (first|apply qS|(refine qR (zZ ?_);simp[hr])|(refine zE ?_;intro J hJ;simp[hr];refine zJ hJ ?_)))
  exact Xm
theorem Qb(d:Int)(st:St)(h0:0<=d)(h1:d<4294967295):aB prog 177 [u d] st fun r st'=>r=u (tw d)/\st'=st:=by
 have hm:d.tmod 2=d % 2:=aDq h0;by_cases hp:d % 2=0
 .have ht:tw d=d+1:=by unfold tw;rw[aAe hp]
  have hw:IntKind.u32.wrap (d+1)=d+1:=wrap_u32' _ oO oO;refine zN func177 ntmps177 [.tmp 2] ?_
  (repeat' (first|apply qS|(refine qR (zZ ?_);simp[hm,hp,ht,hw])|(apply qC;simp[hm,hp,ht,hw])|(refine zE ?_;intro J hJ;simp[hm,hp,ht,hw];refine zJ hJ ?_)))
 .have ht:tw d=d-1:=by unfold tw;rw[aAa hp]
  have hw:IntKind.u32.wrap (d-1)=d-1:=wrap_u32' _ oO oO;refine zN func177 ntmps177 [.tmp 2] ?_
  (repeat' (first|apply qS|refine qK (zZ ?_)|(refine qR (zZ ?_);simp[hm,hp,ht,hw])|(apply qC;simp[hm,hp,ht,hw])|(refine zE ?_;intro J hJ;simp[hm,hp,ht,hw];refine zJ hJ ?_)))
def UK(m:Mp)(d:Int)(c:List Int):Prop:=(d∈aS m.g.es/\∃ L,kO (fc m m.g.es) d L/\c=nrm L)\/(d∉aS m.g.es/\c=[])
def Ux(m:Mp)(d:Int)(st:St)(r:LV)(st':St):Prop:=(∃ c,r=.sl 0 c.length (us c)/\UK m d c)/\aA st st'
theorem PR(m:Mp)(h:cP m)(d:Int)(st:St)(hv:m.g.vs.length<=1000)(he:m.g.es.length<=1000):
 aB prog 127 [.ag (mpL m),u d] st (Ux m d st):=by
 have ZZ:∀ t∈m.rots,small t:=fun t ht=>by have:=h.row_le ht;unfold small;omega
 have Z3:=h.len;refine xZ ?_;by_cases hd:d∈aS m.g.es;rotate_left
 .have ht:=SV (rs:=m.rots) fun t ht L0=>hd (h.turn_dart ht L0);refine zN func127 ntmps127 [.tmp 4] ?_
  (repeat' (first|apply qS|(refine zE ?_;intro J hJ;simp[];(try refine zJ hJ ?_))))
  refine qE (zV m d _ oO ZZ) sS ?_;rintro r s1 ⟨rfl,Xn⟩
  (repeat' (first|apply qS|(refine qR (zZ ?_);simp[ht])|(apply qC;simp[ht])|((first|(refine zE ?_;intro J hJ)|(apply aD));simp[ht];refine zJ hJ ?_)))
  exact⟨⟨[],rfl,.inr ⟨hd,rfl⟩⟩,(aA.new _ _).trans Xn⟩
 have hP:=h.fc_per m.g.es (fun x hx=>hx);obtain⟨L,p,hp,hL,ZF,Zg⟩:=PJ hP d;have hcyc:kO (fc m m.g.es) d L:=⟨p,hp,hL,ZF,Zg⟩;have hL':L=itL (fc m m.g.es) d p:=hL;have V3:∀ k,it (fc m m.g.es) k d∈aS m.g.es:=by
  intro k;induction k with
  |zero=>exact hd
  |succ k ih=>rw[cT];exact h.fc_dart _ _ ih
 have Zn:p<=2*m.g.es.length:=by
  have:=(h.cyc_le hd hcyc).2
  rwa [hL',EO]at this
 obtain⟨k0,Yj,ht0,_⟩:=QH (h.turn_of hd);have hfx:∀ x,x∈aS m.g.es->fc m m.g.es x=sg m (tw x):=fun x hx=>by unfold fc;rw[uB hx]
 refine zN func127 ntmps127 [.tmp 4] ?_
 (repeat' (first|apply qS|(refine zE ?_;intro J hJ;simp[];(try refine zJ hJ ?_))))
 refine qE (zV m d _ oO ZZ) sS ?_;rintro r s1 ⟨rfl,Xn⟩;have YZ:=Xn.next;simp only[aF]at YZ;have ZW:s1.H st.next=.box 39 3 (mpL m):=by rw[Xn.H _ sS];simp
 (repeat' (first|apply qS|apply qB|refine qK (zZ ?_)|(apply qC;simp[ht0];(try with_reducible refine⟨?_,?_⟩)<;>(try with_reducible intro hc)<;>try (exfalso;omega))|((first|(refine zE ?_;intro J hJ)|(apply aD));simp[ht0];refine zJ hJ ?_)))
 refine eP fun Yi=>?_;refine jK 5 34 1 sS ?_;generalize hf:fc m m.g.es=f at *;refine qL (fun n fr st2=>∃ k:Nat,k<p/\n=p-k/\fr 1=u d/\fr 2=.pt st.next 0/\fr 6=u (it f k d)/\st2.H st.next=.box 39 3 (mpL m)/\∃ t,fr 5=.sl t k (us (itL f d k))/\(t≠0/\st.next<t/\t<st2.next)/\st2.H t=.own 34 1 k/\aA st st2) p ?_ ?_
 .exact⟨0,oO,oO,sS,sS,by simp[it],by simp[show ¬st.next=s1.next by omega,ZW],s1.next,by simp[itL],⟨oO,oO,sS⟩,sS,((aA.new _ _).trans Xn).trans (aA.new _ _)⟩
 rintro n fr st2 ⟨k,hk,rfl,f1,f2,f6,hG,t,f5,⟨t0,t1,t2⟩,J9,Xm⟩ JJ hJJ;have ZI:=Xm.next;have hxd:=V3 k;have hx1:=Iq h hxd;obtain⟨kt,hkt,htx,Zt⟩:=QH (h.turn_of (Jp.2 hxd));have Zs:=kQ m.rots kt hkt;have hRl:kt<(dU m.rots).length:=by simpa using hkt
 have htin:m.rots.getD kt []∈m.rots:=by rw[dA _ _ hkt];exact aAu _
 have hsmt:=ZZ _ htin;have YK:nx (m.rots.getD kt []) (tw (it f k d))=it f (k+1) d:=by rw[cT,hfx _ hxd,Cb h htin Zt]
 have N8:=QE f d k;have hLl:=EO f d k;have hstop:it f (k+1) d=d->k+1=p:=fun e=>by
  rcases aAB (k+1) p with h1|h1
  .exact absurd e (Zg _ oO h1)
  .omega
 have F7:¬it f (k+1) d=d->k+1<p:=fun e=>by
  rcases aAB (k+1) p with h1|h1
  .exact h1
  .exact absurd (by rw[show k+1=p by omega];exact ZF) e
 generalize itL f d k=Lk at *;generalize m.rots.getD kt []=tt at *;generalize hxe:it f k d=x at *;generalize hye:it f (k+1) d=y at *;have m1:¬t=st2.next:=oO;have m2:¬st.next=st2.next:=oO;have m3:¬st.next=st2.next+1:=oO;have m4:¬st.next=t:=oO
 (repeat' (first|apply qS|apply qB|(refine zE ?_;intro J hJ;simp[f1,f2,f5,f6,J9,t0,m1,hLl];(repeat refine ca ?_);(try refine zJ hJ ?_))))
 refine qE (Qb x _ oO oO) sS ?_;rintro r s3 ⟨rfl,rfl⟩
 (repeat' (first|apply qS|(apply aD;simp[];refine zJ hJ ?_)))
 (refine zS [] [st.next] [0,2,4,6,14,8,10,12,16,18] ?_;intro J hJ;simp[f2,hG,m2,m3,m4])
 refine qD (zV m (tw x) _ oO ZZ) sS ?_;rintro r s4 ⟨rfl,Yh⟩;have C5:=Yh.next;have U7:=Yh.H st.next (by simp;omega);simp[m2,m3,m4,hG]at U7;refine⟨fun _=>by simp[m2,m3,m4,hG,U7],?_⟩;rw[htx]
 (apply aV;simp[f2,U7,Zs,hkt,hRl,m2,m3,m4,hG])
 refine qD (Oi tt 0 (tw x) _ hsmt) rfl ?_;rintro r s5 ⟨rfl,rfl⟩;rw[YK];refine⟨fun _=>by simp[m2,m3,m4,hG,U7],?_⟩
 (apply aV;simp[U7,m2,m3,m4,hG];refine zJ hJ ?_)
 have hkp4:aA st s5:=(((Xm.trans (aA.new _ _)).set oO _).trans (aA.new _ _)).trans Yh;have htH4:=Yh.H (st2.next+1) sS;simp at htH4 C5;by_cases hyd:y=d
 .have p7:=hstop hyd
  (repeat' (first|apply qS|(apply qC;simp[hyd,f1])|(refine zE ?_;intro J hJ;simp[hyd,f1];(try refine zJ hJ ?_))))
  refine qE (Ae L (st2.next+1) _ (by rw[hL',small,EO];omega)) ?_ ?_
  .rw[hL',<- p7,N8];simp[hLl]
  rintro r s6 ⟨rfl,hk6⟩
  (repeat' (first|(refine qR (zZ ?_);simp[])|(apply aD;simp[];refine zJ hJ ?_)))
  exact⟨⟨nrm L,by rw[cE],.inl ⟨hd,L,by rw[hf];exact hcyc,rfl⟩⟩,hkp4.trans hk6⟩
 .have p7:=F7 hyd
  (repeat' (first|apply qS|refine qK (zZ ?_)|(apply qC;simp[hyd,f1])|(refine zE ?_;intro J hJ;simp[hyd,f1];refine zJ hJ ?_)))
  refine hJJ (p-(k+1)) _ _ oO ⟨k+1,p7,rfl,by simp[f1],by simp[f2],by simp[hye],U7,st2.next+1,by simp[N8],⟨oO,oO,oO⟩,htH4,hkp4⟩
def Te(m:Mp)(st:St)(r:LV)(st':St):Prop:=(∃ t R,r=.sl t R.length (Em R)/\sM (fc m m.g.es) (aS m.g.es) (aS m.g.es).length R)/\aA st st'
structure RfI(m:Mp)(st:St)(K:Nat)(fr:Frm)(st2:St):Prop where
 f1:fr 1=.pt st.next 0
 hG:st2.H st.next=.box 39 3 (mpL m)
 kp:aA st st2
 lt:st.next<st2.next
 rows:∃ t R,fr 3=.sl t R.length (Em R)/\sM (fc m m.g.es) (aS m.g.es) K R/\(t≠0/\st.next<t/\t<st2.next)/\st2.H t=.own 22 1 R.length
theorem RfI.fr{m:Mp}{st:St}{K:Nat}{fr Xj:Frm}{st2 Yy:St}(h:RfI m st K fr st2)(h3:Xj 3=fr 3)(h1:Xj 1=fr 1)(hk:aA st2 Yy):RfI m st K Xj Yy:=by obtain⟨f1,hG,kp,lt,t,R,f3,hL,⟨t0,t1,t2⟩,hH⟩:=h;have:=hk.next;exact⟨h1.trans f1,(hk.H _ lt).trans hG,kp.trans hk,oO,t,R,h3.trans f3,hL,⟨t0,t1,oO⟩,(hk.H _ t2).trans hH⟩
theorem Lp(m:Mp)(h:cP m)(st:St)(hv:m.g.vs.length<=1000)(he:m.g.es.length<=1000):
 aB prog 89 [.ag (mpL m)] st (Te m st):=by
 have hel:=aK m.g.es;have u6:=nL m.g.es;have hP:=h.fc_per m.g.es (fun x hx=>hx);refine zN func89 ntmps89 [.tmp 2] ?_
 (repeat' (first|apply qS|apply qB|(refine zE ?_;intro J hJ;simp[];refine zJ hJ ?_)))
 refine eP fun Yi=>?_;refine jK 3 22 1 sS ?_;refine bE 12 11 13 39 (m.g.es.length) (fun j fr st2=>fr 10=.sl 0 m.g.es.length (eds m.g.es)/\RfI m st (2*j) fr st2) ?_ ?_ ?_
 .exact⟨sS,sS,sS,(aA.new _ _).trans (aA.new _ _),by simp;omega,st.next+1,[],sS,.zero,⟨oO,oO,sS⟩,sS⟩
 .rintro j fr s2 dN ⟨f10,hI⟩ fi fn JJ hJJ;have hd:=aR m.g.es j dN;have Xq:j*3<m.g.es.length*3:=oO;have u9:m.g.es.getD j ed0∈m.g.es:=by rw[cV _ _ dN];exact aAu _
  have Yi:=h.g.pos _ u9;have hg:=LX m.g.es j dN;generalize hx:m.g.es.getD j ed0=x at *;obtain⟨id,a,b⟩:=x;simp only at Yi hd hg;have w1:IntKind.u32.wrap (2*id)=2*id:=wrap_u32' _ oO oO;have w2:IntKind.u32.wrap (2*id+2)=2*id+2:=wrap_u32' _ oO oO
  (repeat' (first|apply qS|apply qB|(refine zE ?_;intro J hJ;simp[fi,fn,f10,hd,hel,Xq,w1,w2];(repeat refine ca ?_);refine zJ hJ ?_)))
  refine qL (fun n fr st2=>∃ e:Nat,e<=2/\n=2-e/\fr 6=u (2*id+e)/\fr 5=.pt s2.next 0/\fr 10=.sl 0 m.g.es.length (eds m.g.es)/\fr 12=i j/\fr 11=i m.g.es.length/\st2.H s2.next=.box 56 3 (edL ⟨id,a,b⟩)/\s2.next<st2.next/\RfI m st (2*j+e) fr st2) 2 ?_ ?_
  .exact⟨0,oO,oO,sS,sS,by simp[f10],by simp[fi],by simp[fn],sS,sS,hI.fr sS sS (aA.new _ _)⟩
  clear f10 fi fn hI fr;rintro n fr st2 ⟨e,Xr,rfl,f6,f5,f10,f12,f11,hX,hXl,hI⟩ J2 v8;rcases aAB e 2 with he2|he2;rotate_left
  .clear v8;obtain rfl:e=2:=oO
   (repeat' (first|apply qS|refine qX (zZ ?_)|(apply qC;simp[f6,f5,hX,w1,w2])|(refine zE ?_;intro J hJ;simp[f6,f5,hX,w1,w2];refine zJ hJ ?_)))
   exact hJJ _ _ (by simp[f12]) (by simp[f11]) ⟨by simp[f10],hI.fr sS sS (aA.refl _)⟩
  clear hJJ;have hK:2*j+e<(aS m.g.es).length:=oO;have hKd:(aS m.g.es).getD (2*j+e) 0=2*id+e:=by
   rcases aAB e 1 with h1|h1
   .obtain rfl:e=0:=oO;rw[Nat.add_zero,hg.1];omega
   .obtain rfl:e=1:=oO;rw[hg.2];rfl
  have hdin:2*id+(e:Int)∈aS m.g.es:=by rw[<- hKd,aN _ _ hK];exact aAu _
  have w3:IntKind.u32.wrap (2*id+e+1)=2*id+((e+1:Nat):Int):=by rw[wrap_u32' _ oO oO];omega
  have YJ:2*id+(e:Int)<2*id+2:=oO;obtain⟨f1,hG,Xm,x9,t,R,f3,hL,⟨t0,t1,t2⟩,hH⟩:=hI;have hRl:=hL.len
  (repeat' (first|apply qS|apply qB|refine qK (zZ ?_)|(apply qC;simp[f6,f5,hX,w1,w2,f1,hG,YJ])|(refine zE ?_;intro J hJ;simp[f6,f5,hX,w1,w2,f1,hG,YJ];(try refine zJ hJ ?_))))
  refine qE (PR m h (2*id+e) _ hv he) sS ?_;rintro r s3 ⟨⟨c,rfl,hc⟩,Xq⟩;rcases hc with⟨_,L,hc,rfl⟩|⟨YI,_⟩;rotate_left
  .exact absurd hdin YI
  have Xk:=(h.cyc_le hdin hc).2;obtain⟨Lr,hLr⟩:=kO.head hc;obtain⟨nr,hnr⟩:=FZ L hc.ne;have Xl:(nrm L).length=L.length:=cE L;have x8:=hc;rw[<- hKd]at x8;have hld:=NR hP (tE h.g.ids) (h.fc_dart _) hK x8;rw[hKd]at hld;have hL0:0<(nrm L).length:=by rw[hnr];simp
  have hn3:=Xq.next;have gX:=(Xq.H _ hXl).trans hX;have gH:=(Xq.H _ t2).trans hH;have m1:¬t=s3.next:=oO;have m5:¬s2.next=t:=by rintro rfl;rw[hX]at hH;cases hH
  by_cases hs:KH (fc m m.g.es) (aS m.g.es) (2*j+e) (2*id+e)
  .have hmn:¬mn L=2*id+e:=fun e1=>(hld.2 e1) hs;have N5:=sM.seen hL hK (by rw[hKd];exact hs)
   (repeat' (first|apply qS|refine qK (zZ ?_)|(apply qC;simp[f6,hnr,hmn,hL0,w3])|((first|(refine zE ?_;intro J hJ)|(apply aD));simp[f6,hnr,hmn,hL0,w3];refine zJ hJ ?_)))
   exact v8 (2-(e+1)) _ _ oO ⟨e+1,oO,rfl,sS,by simp[f5],by simp[f10],by simp[f12],by simp[f11],gX,oO,by simp[f1],(Xq.H _ x9).trans hG,Xm.trans Xq,oO,t,R,by simp[f3],N5,⟨t0,t1,oO⟩,gH⟩
  .have hmn:=hld.1 hs;have hnL:nrm L=L:=xJ hLr hmn;have N5:=sM.lead hL hK (by rw[hKd];exact hs) x8;rw[hnL];subst hLr
   (repeat' (first|apply qS|(apply qC;simp[f6,w3,f3,gH,t0,m1])|((first|(refine zE ?_;intro J hJ)|(apply aD));simp[f6,w3,f3,gH,t0,m1];(repeat refine ca ?_);refine zJ hJ ?_)))
   exact v8 (2-(e+1)) _ _ oO ⟨e+1,oO,rfl,sS,by simp[f5],by simp[f10],by simp[f12],by simp[f11],by rw[cB,aAa (by simp only[bC,aF];omega),bN,aAa m5,cB,aAa oO];exact gX,by simp;omega,by simp[f1],by rw[cB,aAa (by simp only[bC,aF];omega),bN,aAa oO,cB,aAa oO];exact(Xq.H _ x9).trans hG,(((Xm.trans Xq).trans (aA.new _ _)).set oO _).trans (aA.new _ _),by simp;omega,s3.next+1,R++[(2*id+e)::Lr],sS,N5,⟨oO,oO,sS⟩,sS⟩
 .rintro fr st2 ⟨f10,hI⟩;obtain⟨t,R,f3,hL,_⟩:=hI.rows
  (repeat' (first|apply qS|(refine qR (zZ ?_);simp[f3])|(refine zE ?_;intro J hJ;simp[f3];refine zJ hJ ?_)))
  exact⟨⟨t,R,rfl,by rw[u6];exact hL⟩,hI.kp⟩
noncomputable def gn(m:Mp):Nat:=(2*ncl (Reach m.g.es) m.g.vs+m.g.es.length-(alone m.g+m.g.vs.length+ncl (Orb (fc m m.g.es)) (aS m.g.es))) / 2
theorem cP.gn{m:Mp}(h:cP m):2*ncl (Reach m.g.es) m.g.vs+m.g.es.length=2*gn m+alone m.g+m.g.vs.length+ncl (Orb (fc m m.g.es)) (aS m.g.es):=by
 obtain⟨k,hk⟩:=h.euler;have:Aw.gn m=k:=by unfold Aw.gn;omega
 omega
theorem Kw(es:List Ed)(v:Int):(ends es v).length=0↔nbr es v=[]:=by rw[aCz,Gc]
theorem VA(m:Mp)(h:cP m)(st:St)(hv:m.g.vs.length<=1000)(he:m.g.es.length<=1000):
 aB prog 52 [.ag (mpL m)] st fun r st'=>r=i (2*gn m)/\aA st st':=by
 have hP:=h.fc_per m.g.es (fun x hx=>hx);have hgn:=h.gn;have F8:alone m.g<=m.g.vs.length:=aEw;have u6:=nL m.g.es;have hid:MT m.g.es:=fun x hx=>by have:=h.g.pos x hx;omega
 refine zN func52 ntmps52 [.tmp 2] ?_
 (repeat' (first|apply qS|apply qB|(refine zE ?_;intro J hJ;simp[];refine zJ hJ ?_)))
 refine bE 10 9 11 22 (m.g.vs.length) (fun j fr st2=>fr 1=.pt st.next 0/\fr 8=.sl 0 m.g.vs.length (us m.g.vs)/\fr 3=i ((m.g.vs.take j).countP fun v=>decide (nbr m.g.es v=[]):Nat)/\st2.H st.next=.box 39 3 (mpL m)/\aA st st2/\st.next<st2.next) ?_ ?_ ?_
 .exact⟨sS,sS,sS,sS,aA.new _ _,sS⟩
 .rintro j fr st2 dN ⟨f1,f8,f3,hG,Xm,p9⟩ fi fn JJ hJJ;have hd:=qG m.g.vs j dN;have hct:=IM (fun v=>decide (nbr m.g.es v=[])) m.g.vs j dN;have Xr:(m.g.vs.take j).countP (fun v=>decide (nbr m.g.es v=[]))<=j:=aBh aEw (by simp;omega);generalize m.g.vs.getD j 0=v at *;generalize (m.g.vs.take j).countP (fun v=>decide (nbr m.g.es v=[]))=c at *
  (repeat' (first|apply qS|(refine zE ?_;intro J hJ;simp[f1,f8,fi,fn,hd,hG,dN];(try refine zJ hJ ?_))))
  refine qE (Gh m.g v _ he hid) sS ?_;rintro r s3 ⟨⟨t,rfl⟩,Xq⟩;have hn3:=Xq.next;have e0:=Kw m.g.es v;have hw:=qN c oO;by_cases h0:nbr m.g.es v=[]
  .have e1:=e0.2 h0;rw[aAe (by simpa using h0)]at hct
   (repeat' (first|(apply qC;simp[e1,f3,hw])|((first|(refine zE ?_;intro J hJ)|(apply aD));simp[e1,f3,hw];refine zJ hJ ?_)))
   exact hJJ _ _ (by simp[fi]) (by simp[fn]) ⟨by simp[f1],by simp[f8],by simp[hct],(Xq.H _ p9).trans hG,Xm.trans Xq,oO⟩
  .have e1:¬(ends m.g.es v).length=0:=fun e=>h0 (e0.1 e);rw[aAa (by simpa using h0)]at hct;generalize (ends m.g.es v).length=el at *
   (repeat' (first|refine qK (zZ ?_)|(apply qC;simp[e1,f3])|(apply aD;simp[e1,f3];refine zJ hJ ?_)))
   exact hJJ _ _ (by simp[fi]) (by simp[fn]) ⟨by simp[f1],by simp[f8],by simp[hct,f3],(Xq.H _ p9).trans hG,Xm.trans Xq,oO⟩
 rintro fr st2 ⟨f1,f8,f3,hG,Xm,p9⟩;rw[aAQ]at f3;have f3':fr 3=i (alone m.g):=f3;clear f3
 (repeat' apply qS)
 (refine zS [] [st.next] [0,2,10,14,16,18,20,24,26,28,30,34,4,6,8,12,22,32,36,38,40,42] ?_;intro J hJ;simp[f1,f3',hG])
 refine qD (Ml m.g _ h.g.toGood hv he) sS ?_;rintro r s1 ⟨⟨t,R,rfl,hR⟩,Xn⟩;have YZ:=Xn.next;have ZW:=(Xn.H st.next oO).trans hG;refine⟨fun _=>by simp[ZW,hG],?_⟩;have hRn:=hR.all;have hRl:=hR.len;generalize R.length=p at *;generalize alone m.g=al at *;have w1:IntKind.i64.wrap (2*(p:Int))=2*p:=zW;have w2:IntKind.i64.wrap (2*(p:Int)-al)=2*p-al:=zW;have w3:IntKind.i64.wrap (2*(p:Int)-al-m.g.vs.length)=2*p-al-m.g.vs.length:=zW;have w4:IntKind.i64.wrap (2*(p:Int)-al-m.g.vs.length+m.g.es.length)=2*p-al-m.g.vs.length+m.g.es.length:=zW
 (apply aV;simp[ZW,hG,f1,f3',w1,w2,w3,w4])
 refine qD (Lp m h _ hv he) sS ?_;rintro r s3 ⟨⟨t3,F,rfl,hF⟩,Xq⟩;have hG3:=(Xq.H st.next oO).trans ZW;refine⟨fun _=>by simp[hG3,ZW,hG],?_⟩;have hFn:=hF.all hP;have hFl:=hF.len;generalize F.length=f at *;have w5:IntKind.i64.wrap (2*(p:Int)-al-m.g.vs.length+m.g.es.length-f)=2*(gn m:Int):=zW
 (apply aV;simp[hG3,ZW,hG,w1,w2,w3,w4,w5,f1,f3'];refine zJ hJ ?_)
 (repeat' (refine qR (zZ ?_);simp[]))
 exact(Xm.trans Xn).trans Xq
end Aw
theorem Aw.CE.zns:True:=trivial
theorem Aw.CR.zns:True:=trivial
open Go Go.RowKit Pl Aw
open Aw.CE
open Aw.CR
namespace Aw.CR
structure Rw where
 en:Int->Nat
 ec:Int->List LV
end Aw.CR
namespace Aw.CE
structure fF(NQ:FuncId)(cY:List LV)(eg:Int->Ed)(Dm:Int->Prop):Prop where
 call:∀ x y st,Dm x->Dm y->aB prog NQ ([.ag (edL (eg x)),.ag (edL (eg y))]++cY) st fun r st'=>(∃ n,r=i n/\(n<0↔x<y))/\st'=st
end Aw.CE
namespace Aw.CR
structure fF(NQ:FuncId)(cY:List LV)(eg:Rw)(Dm:Int->Prop):Prop where
 call:∀ x y st,Dm x->Dm y->aB prog NQ ([.sl 0 (eg.en x) (eg.ec x),.sl 0 (eg.en y) (eg.ec y)]++cY) st fun r st'=>(∃ n,r=i n/\(n<0↔x<y))/\st'=st
end Aw.CR
namespace Aw.CE
def es3(eg:Int->Ed)(c:List Int):List LV:=eds (c.map eg)
theorem aQ(eg:Int->Ed)(c:List Int):(es3 eg c).length=c.length*3:=by unfold es3;rw[aK,aAA]
end Aw.CE
namespace Aw.CR
abbrev ws(eg:Rw)(c:List Int):List LV:=c.map fun x=>.sl 0 (eg.en x) (eg.ec x)
end Aw.CR
namespace Aw.CE
theorem aP(eg:Int->Ed)(l:List Int)(j:Nat)(hj:j<l.length):(es3 eg l).drop (j*3)=u (eg (l.getD j 0)).id::u (eg (l.getD j 0)).a::u (eg (l.getD j 0)).b::es3 eg (l.drop (j+1)):=by
 unfold es3;rw[aR _ _ (by simpa using hj),aCk];have e:(l.map eg).getD j ed0=eg (l.getD j 0):=by rw[iR _ _ (by simpa using hj),aN _ _ hj,aCn]
 rw[e]
end Aw.CE
namespace Aw.CR
theorem aP(eg:Rw)(l:List Int)(j:Nat)(hj:j<l.length):(ws eg l).drop j=.sl 0 (eg.en (l.getD j 0)) (eg.ec (l.getD j 0))::ws eg (l.drop (j+1)):=by rw[aN _ _ hj,ws,ws,<- aCk,aAM hj];rfl
end Aw.CR
namespace Aw.CE
theorem Al(eg:Int->Ed)(c:List Int)(k:Nat)(x:Int)(hk:k<c.length):(es3 eg c).take (k*3)++u (eg x).id::u (eg x).a::u (eg x).b::(es3 eg c).drop (k*3+3)=es3 eg (c.set k x):=by unfold es3;rw[gG _ _ _ (by simpa using hk),aEP]
end Aw.CE
namespace Aw.CR
theorem Al(eg:Rw)(c:List Int)(k:Nat)(x:Int)(hk:k<c.length):(ws eg c).take k++.sl 0 (eg.en x) (eg.ec x)::(ws eg c).drop (k+1)=ws eg (c.set k x):=by simp only[ws];rw[<- aEI,<- aCk,aBH,aAe hk];simp
end Aw.CR
namespace Aw.CE
theorem cC{Dm:Int->Prop}{l:List Int}(h:∀ x∈l,Dm x){k:Nat}(hk:k<l.length):Dm (l.getD k 0):=h _ (by rw[aN _ _ hk];exact aAu _)
theorem cQ{Dm:Int->Prop}{a b:Nat}{l c:List Int}(h:∀ x∈l,Dm x)(k:Pm a b l c):∀ x∈c,Dm x:=fun x hx=>h x (k.perm.mem_iff.1 hx)
abbrev bx(eg:Int->Ed)(st:St)(q:Nat)(c:List Int):St:=st.set q (.box 56 3 (es3 eg c))
end Aw.CE
namespace Aw.CR
abbrev bx(eg:Rw)(st:St)(q:Nat)(c:List Int):St:=st.set q (.box 23 1 (ws eg c))
end Aw.CR
namespace Aw.CE
theorem fB{eg:Int->Ed}{st:St}{q:Nat}{c:List Int}(h:st.H q=.box 56 3 (es3 eg c)):st=bx eg st q c:=
 St.ext' rfl fun x=>by by_cases hx:x=q<;>simp[hx,h]
end Aw.CE
namespace Aw.CR
theorem fB{eg:Rw}{st:St}{q:Nat}{c:List Int}(h:st.H q=.box 23 1 (ws eg c)):st=bx eg st q c:=
 St.ext' rfl fun x=>by by_cases hx:x=q<;>simp[hx,h]
end Aw.CR
namespace Aw.CE
theorem dM(eg:Int->Ed)(st:St)(q:Nat)(c:List Int)(k m:Nat){x y:Int}(hk:k<c.length)(hm:m<c.length)(hx:c.getD k 0=x)(hy:c.getD m 0=y):
 ((bx eg st q c).set q (.box 56 3 (List.take (k*3) (es3 eg c)++u (eg y).id::u (eg y).a::u (eg y).b::List.drop (k*3+3) (es3 eg c)))).set q
   (.box 56 3 (List.take (m*3) (List.take (k*3) (es3 eg c)++u (eg y).id::u (eg y).a::u (eg y).b::List.drop (k*3+3) (es3 eg c))++u (eg x).id::u (eg x).a::u (eg x).b::List.drop (m*3+3) (List.take (k*3) (es3 eg c)++u (eg y).id::u (eg y).a::u (eg y).b::List.drop (k*3+3) (es3 eg c))))=bx eg st q (sw c k m):=by
 have e:List.take (k*3) (es3 eg c)++u (eg y).id::u (eg y).a::u (eg y).b::List.drop (k*3+3) (es3 eg c)=es3 eg (c.set k y):=Al eg c k y hk;rw[e,Al eg (c.set k y) m x (by simpa using hm)];unfold bx sw;rw[hx,hy];exact St.ext' rfl fun z=>by by_cases hz:z=q<;>simp[hz]
end Aw.CE
namespace Aw.CR
theorem dM(eg:Rw)(st:St)(q:Nat)(c:List Int)(k m:Nat){x y:Int}(hk:k<c.length)(hm:m<c.length)(hx:c.getD k 0=x)(hy:c.getD m 0=y):
 ((bx eg st q c).set q (.box 23 1 (List.take k (ws eg c)++.sl 0 (eg.en y) (eg.ec y)::List.drop (k+1) (ws eg c)))).set q
   (.box 23 1 (List.take m (List.take k (ws eg c)++.sl 0 (eg.en y) (eg.ec y)::List.drop (k+1) (ws eg c))++.sl 0 (eg.en x) (eg.ec x)::List.drop (m+1) (List.take k (ws eg c)++.sl 0 (eg.en y) (eg.ec y)::List.drop (k+1) (ws eg c))))=bx eg st q (sw c k m):=by
 have e:List.take k (ws eg c)++.sl 0 (eg.en y) (eg.ec y)::List.drop (k+1) (ws eg c)=ws eg (c.set k y):=Al eg c k y hk;rw[e,Al eg (c.set k y) m x (by simpa using hm)];unfold bx sw;rw[hx,hy];exact St.ext' rfl fun z=>by by_cases hz:z=q<;>simp[hz]
end Aw.CR
theorem mR:(∀ ⦃NQ:FuncId⦄ ⦃cY:List LV⦄ ⦃eg:Int->Ed⦄ ⦃Dm:Int->Prop⦄ (hC:fF NQ cY eg Dm) (l:List Int) (q a b:Nat) (st:St) (hD:∀ x∈l,Dm x) (hl:small l) (ha:a<=b) (hb:b<=l.length) (hH:st.H q=.box 56 3 (es3 eg l)),
 aB prog 200 [.ms q 0 l.length,i a,i b,.fn (.func NQ) cY] st fun r st'=>∃ c,st'=bx eg st q c/\Pm a b l c/\Srt a b c)/\(∀ ⦃NQ:FuncId⦄ ⦃cY:List LV⦄ ⦃eg:Rw⦄ ⦃Dm:Int->Prop⦄ (hC:fF NQ cY eg Dm) (l:List Int) (q a b:Nat) (st:St) (hD:∀ x∈l,Dm x) (hl:small l) (ha:a<=b) (hb:b<=l.length) (hH:st.H q=.box 23 1 (ws eg l)),
 aB prog 147 [.ms q 0 l.length,i a,i b,.fn (.func NQ) cY] st fun r st'=>∃ c,st'=bx eg st q c/\Pm a b l c/\Srt a b c):=by
 refine⟨?_,?_⟩
 all_goals
  intro NQ cY eg Dm hC l q a b st hD hl ha hb hH;unfold small at hl
  first|(have _:Int->Ed:=eg;refine zN func200 ntmps200 [] ?_)|refine zN func147 ntmps147 [] ?_
  have H8:=qN a oO
  (repeat' (first|apply qS|apply qB|(refine zE ?_;intro J hJ;simp[H8];refine zJ hJ ?_)))
  refine qL (fun n fr st'=>∃(k:Nat) (c:List Int),a<k/\n=b-k/\(fr 0=.ms q 0 l.length/\fr 3=.fn (.func NQ) cY)/\fr 1=i a/\fr 2=i b/\fr 8=i k/\st'=bx eg st q c/\Pm a b l c/\Srt a k c) (b-(a+1)) ?_ ?_
  .exact⟨a+1,l,oO,rfl,sS,sS,sS,sS,fB hH,.refl,fun p q h1 h2 h3=>by omega⟩
  rintro n fr Yt ⟨k,c,o8,rfl,⟨f0,fC⟩,f1,f2,f6,rfl,Xi,hs⟩ JJ hJJ;have Xk:=Xi.len;have y9:=cQ hD Xi;by_cases dN:k<b;rotate_left
  .clear hJJ;have Xy:¬(k:Int)<(b:Int):=oO
   (repeat' (first|apply qS|refine qX (zZ ?_)|(apply qC;simp[f0,fC,f1,f2,f6,dN])|(refine zE ?_;intro J hJ;simp[f0,fC,f1,f2,f6,dN];refine zJ hJ ?_)))
   exact⟨trivial,c,rfl,Xi,fun p q h1 h2 h3=>hs p q h1 h2 oO⟩
  have ZE:=qN k oO
  (repeat' (first|apply qS|apply qB|refine qK (zZ ?_)|(apply qC;simp[f0,fC,f1,f2,f6,dN])|(refine zE ?_;intro J hJ;simp[f0,fC,f1,f2,f6,dN];refine zJ hJ ?_)))
  refine qL (fun n fr st'=>∃(j:Nat) (c:List Int),a<=j/\j<=k/\j=n/\(fr 0=.ms q 0 l.length/\fr 3=.fn (.func NQ) cY)/\fr 1=i a/\fr 2=i b/\fr 8=i k/\fr 9=i j/\st'=bx eg st q c/\Pm a b l c/\Ins a j k c) k ?_ ?_
  .exact⟨k,c,oO,oO,rfl,by simp[f0,fC],by simp[f1],by simp[f2],by simp[f6],sS,rfl,Xi,hs.ins⟩
  clear f0 fC f1 f2 f6 hs Xi Xk y9 c fr;rintro n fr Yt ⟨j,c,haj,I6,rfl,⟨f0,fC⟩,f1,f2,f6,f7,rfl,Xi,hI⟩ JJ2 v8;have Xk:=Xi.len;have y9:=cQ hD Xi;by_cases hj:a<j;rotate_left
  .clear v8;have hj':¬(a:Int)<(j:Int):=oO
   (repeat (apply qS));(refine zS [] [q] [0,2,4,6,8,10,12,14,16,18,20,22,24,26,29,30,32] ?_;intro J hJ;simp[f0,fC,f1,f2,f6,f7,hj];refine zJ hJ ?_)
   (repeat' (first|refine qX (zZ ?_)|(apply qC;simp[f6,ZE])|(refine zE ?_;intro J hJ;simp[f6,ZE];refine zJ hJ ?_)))
   exact hJJ (b-(k+1)) _ _ oO ⟨k+1,c,oO,rfl,by simp[f0,fC],by simp[f1],by simp[f2],sS,rfl,Xi,hI.done haj (.inl oO)⟩
  have ZP:=aH j oO oO;have Z6:j<l.length:=oO;have hjl1:j-1<l.length:=oO;have hd:=aP eg c j oO;have YQ:=aP eg c (j-1) oO;have hI1:=hI.step hj I6 oO;have hI2:=hI.done haj;have Yz:=Xi.step j (j-1) oO oO oO oO oO;generalize hx:c.getD j 0=x at *;generalize hy:c.getD (j-1) 0=y at *
  (repeat (apply qS));(refine zS [] [q] [0,2,4,6,8,10,12,14,16,18,20,22,24,26,29,30,32] ?_;intro J hJ;simp[f0,fC,f1,f2,f6,f7,hj,ZP,Z6,hjl1,Xk,hd,YQ,aQ])
  refine aJ (hC.call x y _ (by first|assumption|(subst_vars;exact cC (by assumption) oO)) (by first|assumption|(subst_vars;exact cC (by assumption) oO))) ?_;rintro r s2 ⟨⟨nv,rfl,ZV⟩,rfl⟩;refine⟨fun _=>by simp,?_⟩;by_cases hcd:x<y;rotate_left
  .clear v8
   (apply aV;simp[ZV,hcd];refine zJ hJ ?_)
   (repeat' (first|refine qX (zZ ?_)|(apply qC;simp[f6,ZE])|(refine zE ?_;intro J hJ;simp[f6,ZE];refine zJ hJ ?_)))
   exact hJJ (b-(k+1)) _ _ oO ⟨k+1,c,oO,rfl,by simp[f0,fC],by simp[f1],by simp[f2],sS,rfl,Xi,hI2 (.inr hcd)⟩
  clear hJJ
  (apply aV;simp[ZV,hcd];refine zJ hJ ?_)
  (repeat' (first|apply qS|apply qB|refine qK (zZ ?_)|(apply qC;simp[])))
  (refine zS [] [q] [0,2,4,6,8,10,12,14,16,18,20,22,24,26,28,31,32,35] ?_;intro J hJ;simp[f0,fC,f1,f2,f6,f7,ZP,Z6,hjl1,Xk,hd,YQ,aQ];(repeat refine ca ?_);refine zJ hJ ?_)
  (repeat' (refine zE ?_;intro J hJ;simp[f7,ZP];refine zJ hJ ?_))
  exact v8 (j-1) _ _ oO ⟨j-1,sw c j (j-1),oO,oO,rfl,by simp[f0,fC],by simp[f1],by simp[f2],by simp[f6],sS,dM eg st q c j (j-1) oO oO hx hy,Yz,hI1 hcd⟩
def Aw.CE.insertionSort:=mR.1
def Aw.CR.insertionSort:=mR.2
theorem oC:(∀ ⦃NQ:FuncId⦄ ⦃cY:List LV⦄ ⦃eg:Int->Ed⦄ ⦃Dm:Int->Prop⦄ (hC:fF NQ cY eg Dm) (l:List Int) (q a b:Nat) (st:St) (hD:∀ x∈l,Dm x) (hl:small l) (ha:a<=b) (hb:b<=l.length) (h0:0<b) (hH:st.H q=.box 56 3 (es3 eg l)),
 aB prog 204 [.ms q 0 l.length,i a,i b,.fn (.func NQ) cY] st fun r st'=>∃ c,st'=bx eg st q c/\Pm a b l c)/\(∀ ⦃NQ:FuncId⦄ ⦃cY:List LV⦄ ⦃eg:Rw⦄ ⦃Dm:Int->Prop⦄ (hC:fF NQ cY eg Dm) (l:List Int) (q a b:Nat) (st:St) (hD:∀ x∈l,Dm x) (hl:small l) (ha:a<=b) (hb:b<=l.length) (h0:0<b) (hH:st.H q=.box 23 1 (ws eg l)),
 aB prog 151 [.ms q 0 l.length,i a,i b,.fn (.func NQ) cY] st fun r st'=>∃ c,st'=bx eg st q c/\Pm a b l c):=by
 refine⟨?_,?_⟩
 all_goals
  intro NQ cY eg Dm hC l q a b st hD hl ha hb h0 hH;unfold small at hl
  first|(have _:Int->Ed:=eg;refine zN func204 ntmps204 [] ?_)|refine zN func151 ntmps151 [] ?_
  have H8:=aH b oO oO
  (repeat' (first|apply qS|apply qB|(refine zE ?_;intro J hJ;simp[H8];refine zJ hJ ?_)))
  refine qL (fun n fr st'=>∃(k m:Nat) (c:List Int),a<=k/\m<b/\m=n/\(fr 0=.ms q 0 l.length/\fr 3=.fn (.func NQ) cY)/\fr 8=i k/\fr 9=i m/\st'=bx eg st q c/\Pm a b l c) (b-1) ?_ ?_
  .exact⟨a,b-1,l,oO,oO,rfl,sS,sS,sS,fB hH,.refl⟩
  rintro n fr Yt ⟨k,m,c,o8,u5,rfl,⟨f0,fC⟩,f6,f7,rfl,Xi⟩ JJ hJJ;have Xk:=Xi.len;have y9:=cQ hD Xi;by_cases dN:k<m;rotate_left
  .clear hJJ
   (repeat' (first|apply qS|refine qX (zZ ?_)|(apply qC;simp[f0,fC,f6,f7,dN])|(refine zE ?_;intro J hJ;simp[f0,fC,f6,f7,dN];refine zJ hJ ?_)))
   exact⟨trivial,c,rfl,Xi⟩
  have ZE:=qN k oO;have ZP:=aH m oO oO;have P8:k<l.length:=oO;have ZK:m<l.length:=oO;have hd:=aP eg c k oO;have YQ:=aP eg c m oO;have Yz:=Xi.step k m oO oO oO oO oO;generalize hx:c.getD k 0=x at *;generalize hy:c.getD m 0=y at *
  (repeat' (first|apply qS|apply qB|refine qK (zZ ?_)|(apply qC;simp[f0,fC,f6,f7,dN])|(refine zE ?_;intro J hJ;simp[f0,fC,f6,f7,dN];refine zJ hJ ?_)))
  (refine zS [] [q] [0,2,4,6,8,10,12,14,16,18,20,22,24,27,28,31] ?_;intro J hJ;simp[f0,fC,f6,f7,P8,ZK,Xk,hd,YQ,aQ];(repeat refine ca ?_);refine zJ hJ ?_)
  (repeat' (first|apply qS|(refine zE ?_;intro J hJ;simp[f6,f7,ZE,ZP];refine zJ hJ ?_)))
  exact hJJ (m-1) _ _ oO ⟨k+1,m-1,sw c k m,oO,oO,rfl,by simp[f0,fC],sS,sS,dM eg st q c k m oO oO hx hy,Yz⟩
def Aw.CE.jJ:=oC.1
def Aw.CR.jJ:=oC.2
open Go Go.RowKit Pl Aw
open Aw.CE
open Aw.CR
theorem Cy:(∀(eg:Int->Ed) (st:St) (q:Nat) (c:List Int) (k m:Nat) ⦃x y:Int⦄ (hk:k<c.length) (hm:m<c.length) (hx:c.getD k 0=x) (hy:c.getD m 0=y),
 (st.set q (.box 56 3 (List.take (k*3) (es3 eg c)++u (eg y).id::u (eg y).a::u (eg y).b::List.drop (k*3+3) (es3 eg c)))).set q
   (.box 56 3 (List.take (m*3) (List.take (k*3) (es3 eg c)++u (eg y).id::u (eg y).a::u (eg y).b::List.drop (k*3+3) (es3 eg c))++u (eg x).id::u (eg x).a::u (eg x).b::List.drop (m*3+3) (List.take (k*3) (es3 eg c)++u (eg y).id::u (eg y).a::u (eg y).b::List.drop (k*3+3) (es3 eg c))))=bx eg st q (sw c k m))/\(∀(eg:Rw) (st:St) (q:Nat) (c:List Int) (k m:Nat) ⦃x y:Int⦄ (hk:k<c.length) (hm:m<c.length) (hx:c.getD k 0=x) (hy:c.getD m 0=y),
 (st.set q (.box 23 1 (List.take k (ws eg c)++.sl 0 (eg.en y) (eg.ec y)::List.drop (k+1) (ws eg c)))).set q
   (.box 23 1 (List.take m (List.take k (ws eg c)++.sl 0 (eg.en y) (eg.ec y)::List.drop (k+1) (ws eg c))++.sl 0 (eg.en x) (eg.ec x)::List.drop (m+1) (List.take k (ws eg c)++.sl 0 (eg.en y) (eg.ec y)::List.drop (k+1) (ws eg c))))=bx eg st q (sw c k m)):=by
 refine⟨?_,?_⟩
 all_goals
  intro eg st q c k m x y hk hm hx hy;rw[<- dM eg st q c k m hk hm hx hy];exact St.ext' rfl fun z=>by by_cases hz:z=q<;>simp[hz]
def Aw.CE.pJ:=Cy.1
def Aw.CR.pJ:=Cy.2
theorem xX:(∀ ⦃NQ:FuncId⦄ ⦃cY:List LV⦄ ⦃eg:Int->Ed⦄ ⦃Dm:Int->Prop⦄ (hC:fF NQ cY eg Dm) (l:List Int) (q lo hi f:Nat) (st:St) (hD:∀ x∈l,Dm x) (hl:small l) (hb:f+hi<=l.length) (x9:lo<=l.length) (hh:nA (lo+1) hi f l) (hH:st.H q=.box 56 3 (es3 eg l)),
 aB prog 214 [.ms q 0 l.length,i lo,i hi,i f,.fn (.func NQ) cY] st fun r st'=>∃ c,st'=bx eg st q c/\Pm (f+lo) (f+hi) l c/\nA lo hi f c)/\(∀ ⦃NQ:FuncId⦄ ⦃cY:List LV⦄ ⦃eg:Rw⦄ ⦃Dm:Int->Prop⦄ (hC:fF NQ cY eg Dm) (l:List Int) (q lo hi f:Nat) (st:St) (hD:∀ x∈l,Dm x) (hl:small l) (hb:f+hi<=l.length) (x9:lo<=l.length) (hh:nA (lo+1) hi f l) (hH:st.H q=.box 23 1 (ws eg l)),
 aB prog 189 [.ms q 0 l.length,i lo,i hi,i f,.fn (.func NQ) cY] st fun r st'=>∃ c,st'=bx eg st q c/\Pm (f+lo) (f+hi) l c/\nA lo hi f c):=by
 refine⟨?_,?_⟩
 all_goals
  intro NQ cY eg Dm hC l q lo hi f st hD hl hb x9 hh hH;unfold small at hl
  first|(have _:Int->Ed:=eg;refine zN func214 ntmps214 [] ?_)|refine zN func189 ntmps189 [] ?_
  (repeat' (first|apply qS|apply qB|(refine zE ?_;intro J hJ;simp[];refine zJ hJ ?_)))
  refine qL (fun n fr st'=>∃(r:Nat) (c:List Int),lo<=r/\r<=l.length/\n=hi-r/\(fr 0=.ms q 0 l.length/\fr 4=.fn (.func NQ) cY)/\fr 2=i hi/\fr 3=i f/\fr 10=i r/\st'=bx eg st q c/\Pm (f+lo) (f+hi) l c/\sD lo hi f r c) (hi-lo) ?_ ?_
  .exact⟨lo,l,aAi _,x9,rfl,sS,sS,sS,sS,fB hH,.refl,hh.x⟩
  rintro n fr Yt ⟨r,c,hlr,Z3,rfl,⟨f0,fC⟩,f2,f3,f8,rfl,Xi,hX⟩ JJ hJJ;have Xk:=Xi.len;have y9:=cQ hD Xi;obtain⟨m,hm⟩:∃ m:Nat,m=2*r+1:=⟨_,rfl⟩;obtain⟨m2,P6⟩:∃ m:Nat,m=2*r+2:=⟨_,rfl⟩;have w1:IntKind.i64.wrap (2*(r:Int))=2*(r:Int):=zW;have w2:IntKind.i64.wrap (2*(r:Int)+1)=(m:Int):=zW;have w3:IntKind.i64.wrap ((m:Int)+1)=(m2:Int):=zW;by_cases hmh:hi<=m
  .clear hJJ
   (repeat' (first|apply qS|apply qB|refine qX (zZ ?_)|(apply qC;simp[f0,fC,f2,f3,f8,w1,w2,hmh])|(refine zE ?_;intro J hJ;simp[f0,fC,f2,f3,f8,w1,w2,hmh];refine zJ hJ ?_)))
   exact⟨trivial,c,rfl,Xi,hX.leaf oO⟩
  obtain⟨x1,hx1⟩:∃ x:Nat,x=f+m:=⟨_,rfl⟩;obtain⟨x2,Ys⟩:∃ x:Nat,x=f+m2:=⟨_,rfl⟩;obtain⟨x0,ZX⟩:∃ x:Nat,x=f+r:=⟨_,rfl⟩;have w4:IntKind.i64.wrap ((f:Int)+(m:Int))=(x1:Int):=zW;have w5:IntKind.i64.wrap ((x1:Int)+1)=(x2:Int):=zW;have w6:IntKind.i64.wrap ((f:Int)+(r:Int))=(x0:Int):=zW
  (repeat' (first|apply qS|apply qB|(refine zE ?_;intro J hJ;simp[f0,fC,f2,f3,f8,w1,w2,hmh];refine zJ hJ ?_)))
  (apply qC;simp[])
  (repeat' (first|apply qS|refine qK (zZ ?_)))
  refine HQ (fun Zr st2=>st2=bx eg st q c/\(Zr 0=.ms q 0 l.length/\Zr 4=.fn (.func NQ) cY)/\Zr 2=i hi/\Zr 3=i f/\Zr 10=i r/\∃ ch:Nat,Zr 11=i ch/\(ch=2*r+1\/ch=2*r+2)/\ch<hi/\Sf c f r hi ch) ?_ ?_
  .by_cases h2h:m2<hi;rotate_left
   ·(refine zS [] [q] [0,2,4,6,8,10,12,14,16,18,20,22,24,26,28,30,32,34,36,39,40,42] ?_;intro J hJ;simp[f0,fC,f2,f3,f8,w3,h2h];refine zJ hJ ?_)
    (repeat' (first|refine qK (zZ ?_)|(apply qC;simp[f0,fC])))
    refine⟨trivial,trivial,by simp[f0,fC],by simp[f2],by simp[f3],by simp[f8],m,sS,oO,oO,fun x h1 h2=>?_⟩;rw[show x=m by omega];exact aCg _
   have Xu:=aP eg c x1 oO;have YQ:=aP eg c x2 oO;have G3:x1<l.length:=oO;have C4:x2<l.length:=oO;generalize D8:c.getD x1 0=y1 at *;generalize j7:c.getD x2 0=y2 at *
   (refine zS [] [q] [0,2,4,6,8,10,12,14,16,18,20,22,24,26,28,30,32,34,36,39,40,42] ?_;intro J hJ;simp[f0,fC,f2,f3,f8,w3,w4,w5,h2h,G3,C4,Xk,Xu,YQ,aQ])
   refine aJ (hC.call y1 y2 _ (by first|assumption|(subst_vars;exact cC (by assumption) oO)) (by first|assumption|(subst_vars;exact cC (by assumption) oO))) ?_;rintro r1 s2 ⟨⟨nv,rfl,ZV⟩,rfl⟩;refine⟨fun _=>by simp,?_⟩;by_cases Y9:y1<y2
   ·(apply aV;simp[ZV,Y9];refine zJ hJ ?_)
    (repeat' (first|(apply qC;simp[w3])|(refine zE ?_;intro J hJ;simp[w3];refine zJ hJ ?_)))
    refine⟨trivial,trivial,by simp[f0,fC],by simp[f2],by simp[f3],by simp[f8],m2,sS,oO,oO,fun x h1 h2=>?_⟩;rcases(show x=m\/x=m2 by omega)with rfl|rfl
    .rw[<- hx1,<- Ys,D8,j7];omega
    .exact aCg _
   ·(apply aV;simp[ZV,Y9];refine zJ hJ ?_)
    (repeat' (first|refine qK (zZ ?_)|(apply qC;simp[])))
    refine⟨trivial,trivial,by simp[f0,fC],by simp[f2],by simp[f3],by simp[f8],m,sS,oO,oO,fun x h1 h2=>?_⟩;rcases(show x=m\/x=m2 by omega)with rfl|rfl
    .exact aCg _
    .rw[<- hx1,<- Ys,D8,j7];omega
  clear f0 fC f2 f3 f8 w1 w2 w3 w4 w5 hx1 Ys x1 x2 fr;rintro fr st2 ⟨rfl,⟨f0,fC⟩,f2,f3,f8,ch,f9,v5,hchi,O2⟩;obtain⟨x1,hx1⟩:∃ x:Nat,x=f+ch:=⟨_,rfl⟩;have w4:IntKind.i64.wrap ((f:Int)+(ch:Int))=(x1:Int):=zW;have Xu:=aP eg c x1 oO;have hd0:=aP eg c x0 oO;have G3:x1<l.length:=oO;have v7:x0<l.length:=oO;unfold Sf at O2;have YR:=hX.step (c:=ch) hlr v5 hchi oO O2;have Yz:=Xi.step x0 x1 oO oO oO oO oO;have hbig:=hX.big;rw[<- ZX,<- hx1]at YR;rw[<- ZX]at hbig;rw[<- hx1]at O2;generalize S9:c.getD x0 0=y0 at *;generalize D8:c.getD x1 0=y1 at *
  (repeat (apply qS));(refine zS [] [q] [0,2,4,6,8,10,12,14,16,18,20,22,24,27,28,30] ?_;intro J hJ;simp[f0,fC,f2,f3,f8,f9,w4,w6,G3,v7,Xk,Xu,hd0,aQ])
  refine aJ (hC.call y0 y1 _ (by first|assumption|(subst_vars;exact cC (by assumption) oO)) (by first|assumption|(subst_vars;exact cC (by assumption) oO))) ?_;rintro r1 s2 ⟨⟨nv,rfl,ZV⟩,rfl⟩;refine⟨fun _=>by simp,?_⟩;by_cases Y9:y0<y1;rotate_left
  .clear hJJ
   (apply aV;simp[ZV,Y9];refine zJ hJ ?_)
   (repeat' (first|(refine qR (zZ ?_);simp[])|(apply qC;simp[])))
   exact⟨c,rfl,Xi,hbig fun x h1 h2=>by have:=O2 x h1 h2;omega⟩
  (apply aV;simp[ZV,Y9];refine zJ hJ ?_)
  (repeat' (first|apply qS|refine qK (zZ ?_)|(apply qC;simp[])))
  (refine zS [] [q] [0,2,4,6,8,10,12,14,16,18,20,22,24,26,28,30,32,34,36,38,40,43,44,47] ?_;intro J hJ;simp[f0,fC,f2,f3,f8,f9,w4,w6,G3,v7,Xk,Xu,hd0,aQ];(repeat refine ca ?_);refine zJ hJ ?_)
  (repeat' (refine zE ?_;intro J hJ;simp[f9];refine zJ hJ ?_))
  exact hJJ (hi-ch) _ _ oO ⟨ch,sw c x0 x1,oO,oO,rfl,by simp[f0,fC],by simp[f2],by simp[f3],sS,dM eg st q c x0 x1 oO oO S9 D8,Yz,YR Y9⟩
def Aw.CE.mP:=xX.1
def Aw.CR.mP:=xX.2
open Go Go.RowKit Pl Aw
open Aw.CE
open Aw.CR
theorem xE:(∀ ⦃NQ:FuncId⦄ ⦃cY:List LV⦄ ⦃eg:Int->Ed⦄ ⦃Dm:Int->Prop⦄ (hC:fF NQ cY eg Dm) (l:List Int) (q a b:Nat) (st:St) (hD:∀ x∈l,Dm x) (hl:small l) (ha:a<b) (hb:b<=l.length) (hH:st.H q=.box 56 3 (es3 eg l)),
 aB prog 201 [.ms q 0 l.length,i a,i b,.fn (.func NQ) cY] st fun r st'=>∃ c,st'=bx eg st q c/\Pm a b l c/\Srt a b c)/\(∀ ⦃NQ:FuncId⦄ ⦃cY:List LV⦄ ⦃eg:Rw⦄ ⦃Dm:Int->Prop⦄ (hC:fF NQ cY eg Dm) (l:List Int) (q a b:Nat) (st:St) (hD:∀ x∈l,Dm x) (hl:small l) (ha:a<b) (hb:b<=l.length) (hH:st.H q=.box 23 1 (ws eg l)),
 aB prog 148 [.ms q 0 l.length,i a,i b,.fn (.func NQ) cY] st fun r st'=>∃ c,st'=bx eg st q c/\Pm a b l c/\Srt a b c):=by
 refine⟨?_,?_⟩
 all_goals
  intro NQ cY eg Dm hC l q a b st hD hl ha hb hH;have ZZ:=hl;unfold small at hl;obtain⟨n,hn⟩:∃ n:Nat,n=b-a:=⟨_,rfl⟩;obtain⟨n1,YZ⟩:∃ n:Nat,n=b-a-1:=⟨_,rfl⟩;obtain⟨n2,ZI⟩:∃ n:Nat,n=n1 / 2:=⟨_,rfl⟩;have w1:IntKind.i64.wrap ((b:Int)-(a:Int))=(n:Int):=zW;have w2:IntKind.i64.wrap ((n:Int)-1)=(n1:Int):=zW;have w3:IntKind.i64.wrap ((n1:Int) / 2)=(n2:Int):=by rw[show(n1:Int) / 2=((n1 / 2:Nat):Int) from rfl,<- ZI];exact wrap_i64 _ oO oO
  first|(have _:Int->Ed:=eg;refine zN func201 ntmps201 [] ?_)|refine zN func148 ntmps148 [] ?_
  (repeat' (first|apply qS|apply qB|(refine zE ?_;intro J hJ;simp[w1,w2,w3];refine zJ hJ ?_)))
  refine qL (fun m fr st'=>∃(c:List Int),m<=n2+1/\(fr 0=.ms q 0 l.length/\fr 3=.fn (.func NQ) cY)/\fr 8=i a/\fr 9=i 0/\fr 10=i n/\fr 11=i ((m:Int)-1)/\st'=bx eg st q c/\Pm a b l c/\nA m n a c) (n2+1) ?_ ?_
  .exact⟨l,oO,sS,sS,sS,sS,sS,fB hH,.refl,fun k x h1 h2 h3=>by omega⟩
  rintro m fr Yt ⟨c,hm,⟨f0,fC⟩,f6,f7,f8,f9,rfl,Xi,hh⟩ JJ hJJ;have Xk:=Xi.len;have y9:=cQ hD Xi;cases m with
  |succ m=>
   have V1:fr 11=i (m:Int):=by rw[f9];congr 2;omega
   have w4:IntKind.i64.wrap ((m:Int)-1)=(m:Int)-1:=zW;have D7:(0:Int)<=(m:Int):=oO
   (repeat' (first|apply qS|apply qB|refine qK (zZ ?_)|(apply qC;simp[f0,fC,f6,f7,f8,V1,D7])|(refine zE ?_;intro J hJ;simp[f0,fC,f6,f7,f8,V1,D7];(try refine zJ hJ ?_))))
   rw[<- Xk];refine qF (mP hC c q m n a _ (by first|assumption|exact cQ hD ‹Pm _ _ l c›) (by unfold small;omega) oO oO hh sS) ?_;rintro r s2 ⟨c2,rfl,YM,hh2⟩;rw[Xk]
   (repeat' ((first|(refine zE ?_;intro J hJ)|(apply aD));simp[V1,w4];refine zJ hJ ?_))
   exact hJJ m _ _ oO ⟨c2,oO,by simp[f0,fC],by simp[f6],by simp[f7],by simp[f8],sS,St.set_set _ _ _ _,Xi.trans (YM.wide oO oO oO),hh2⟩
  |zero=>
   clear hJJ;have V1:fr 11=i (-1):=by rw[f9];rfl
   (repeat' (first|apply qS|apply qB|refine qX (zZ ?_)|(apply qC;simp[f0,fC,f6,f7,f8,V1,w2])|(refine zE ?_;intro J hJ;simp[f0,fC,f6,f7,f8,V1,w2];refine zJ hJ ?_)))
   refine qL (fun m fr st'=>∃(c:List Int),m<=n/\(fr 0=.ms q 0 l.length/\fr 3=.fn (.func NQ) cY)/\fr 8=i a/\fr 9=i 0/\fr 12=i ((m:Int)-1)/\st'=bx eg st q c/\Pm a b l c/\nA 0 m a c/\Ur c a m n) n ?_ ?_
   .exact⟨c,aAi _,by simp[f0,fC],by simp[f6],by simp[f7],by simp;omega,rfl,Xi,hh,fun p q h1 h2 h3=>by omega⟩
   clear f0 fC f6 f7 f8 f9 V1 Xi hh Xk y9 c fr;rintro m fr Yt ⟨c,hm,⟨f0,fC⟩,f6,f7,f10,rfl,Xi,hh,o6⟩ JJ hJJ;have Xk:=Xi.len;have y9:=cQ hD Xi;cases m with
   |zero=>
    have j5:fr 12=i (-1):=by rw[f10];rfl
    (repeat' (first|apply qS|refine qX (zZ ?_)|(apply qC;simp[j5])|(refine zE ?_;intro J hJ;simp[j5];refine zJ hJ ?_)))
    refine⟨trivial,c,rfl,Xi,fun p q h1 h2 h3=>?_⟩;have:=o6 (p-a) (q-a) oO oO oO
    rwa [show a+(p-a)=p by omega,show a+(q-a)=q by omega]at this
   |succ m=>
    have j5:fr 12=i (m:Int):=by rw[f10];congr 2;omega
    have w4:IntKind.i64.wrap ((m:Int)-1)=(m:Int)-1:=zW;have D7:(0:Int)<=(m:Int):=oO;obtain⟨x1,hx1⟩:∃ x:Nat,x=a+m:=⟨_,rfl⟩;have w5:IntKind.i64.wrap ((a:Int)+(m:Int))=(x1:Int):=zW;have hd0:=aP eg c a oO;have Xu:=aP eg c x1 oO;have v7:a<l.length:=oO;have G3:x1<l.length:=oO;have hpop:=hh.pop oO;have ZB:=fun c2=>CT (c2:=c2) hh o6 oO oO;have Yz:=Xi.step a x1 oO oO oO oO oO;rw[<- hx1]at hpop ZB;have I1:=vJ c a x1;have YT:=fun x y=>dM eg st q c a x1 (x:=x) (y:=y) oO oO;generalize S9:c.getD a 0=y0 at *;generalize D8:c.getD x1 0=y1 at *;have YC:=YT y0 y1 rfl rfl
    (repeat' (first|apply qS|apply qB|refine qK (zZ ?_)|(apply qC;simp[f0,fC,f6,f7,j5,D7])|(refine zE ?_;intro J hJ;simp[f0,fC,f6,f7,j5,D7];refine zJ hJ ?_)))
    (refine zS [] [q] [0,2,4,6,8,10,12,14,16,18,20,22,24,26,28,30,32,35,36,39] ?_;intro J hJ;simp[f0,fC,f6,f7,j5,w5,v7,G3,Xk,hd0,Xu,aQ];(repeat refine ca ?_);refine zJ hJ ?_)
    rw[YC];generalize A4:sw c a x1=c1 at *
    (repeat' (refine zE ?_;intro J hJ;simp[f0,fC,f6,f7,j5]))
    rw[<- Xk,<- I1];refine qF (mP hC c1 q 0 m a _ (by first|assumption|exact cQ hD ‹Pm _ _ l c1›) (by unfold small;omega) oO oO hpop sS) ?_;rintro r s2 ⟨c2,rfl,YM,hh2⟩;rw[I1,Xk]
    (repeat' ((first|(refine zE ?_;intro J hJ)|(apply aD));simp[j5,w4];refine zJ hJ ?_))
    exact hJJ m _ _ oO ⟨c2,oO,by simp[f0,fC],by simp[f6],by simp[f7],sS,St.set_set _ _ _ _,Yz.trans (YM.wide oO oO oO),hh2,ZB c2 (by rw[hx1];exact YM)⟩
def Aw.CE.tG:=xE.1
def Aw.CR.tG:=xE.2
end Go.Proofs.YtempldclppogmaaGreatDoor
