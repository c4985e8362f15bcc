/- Plain: all blocks of a graph are found. -/
import Derived.Test.YtiiejclelbilkaaGreatDoorJh
import Derived.Test.YtiiejclelbilkaaGreatDoorAwTd
import Derived.Test.YtiiejclelbilkaaGreatDoorAwFz
import Derived.Test.YtiiejclelbilkaaGreatDoorAwRg
namespace Go.Proofs.YtiiejclelbilkaaGreatDoor.Aw
open Go Go.RowKit Go.Proofs.YtiiejclelbilkaaGreatDoor.Pl Go.Proofs.YtiiejclelbilkaaGreatDoor.Eu
set_option linter.unusedSimpArgs false
set_option linter.unusedVariables false
section
variable {g:Gr} (hg:GoodE g)
include hg
theorem loop_ok (n:Nat) (ih:∀ (A:Int→Prop) (s:Bw) (v by_:Int),BPre g A s v by_→v∈g.vs→(∀ w∈s.vis,w∈g.vs)→g.vs.length≤n+s.vis.length→∃ s1 C T N,visF g.es n v by_ s=some s1∧BPost g s v by_ s1 C T N∧∀ c∈C,c∈g.vs)
 {A:Int→Prop} {s0:Bw} {v by_:Int} (h0:BPre g A s0 v by_) (hn:g.vs.length≤n+(s0.vis.length+1)):
 ∀ (R Q:List Nat) (s:Bw) (D:List Int) (T:List Nat) (N:List (List Nat)),Q++R=atP g.es v→BLp g s0 v by_ Q s D T N→(∀ w∈s.vis,w∈g.vs)→
  ∃ s1 D T N,goB (stepB (visF g.es n) g.es v by_ ((s0.vis.length:Int)+1)) R s=some s1∧BLp g s0 v by_ (atP g.es v) s1 D T N∧∀ w∈s1.vis,w∈g.vs
 | [],Q,s,D,T,N,hQ,h,hv=>⟨s,D,T,N,rfl,by rw [List.append_nil] at hQ;rw [← hQ];exact h,hv⟩
 | i::R,Q,s,D,T,N,hQ,h,hv=>by
   have hi:i∈atP g.es v:=by rw [← hQ];simp
   have hnd:(atP g.es v).Nodup:=List.Pairwise.filter _ List.nodup_range
   have hiQ:i∉Q:=fun k=>by rw [← hQ,List.nodup_append] at hnd;exact hnd.2.2 i k i (by simp) rfl
   have hQ2:(Q++[i])++R=atP g.es v:=by rw [← hQ];simp
   have go:∀ s2 D T N,stepB (visF g.es n) g.es v by_ ((s0.vis.length:Int)+1) s i=some s2→BLp g s0 v by_ (Q++[i]) s2 D T N→(∀ w∈s2.vis,w∈g.vs)→∃ s1 D T N,goB (stepB (visF g.es n) g.es v by_ ((s0.vis.length:Int)+1)) (i::R) s=some s1∧BLp g s0 v by_ (atP g.es v) s1 D T N∧∀ w∈s1.vis,w∈g.vs:=fun s2 D T N e h2 hv2=>by
    obtain ⟨s1,D1,T1,N1,k1,k2,k3⟩:=loop_ok n ih h0 hn R (Q++[i]) s2 D T N hQ2 h2 hv2
    exact ⟨s1,D1,T1,N1,by rw [goB,e];exact k1,k2,k3⟩
   by_cases hb:(i:Int)=by_
   ·exact go s D T N (by unfold stepB;rw [if_pos hb]) (h.same hg h0 hi hb) hv
   by_cases hin:oth (eAt g.es i) v∈s.vis
   ·by_cases hnm:nmW s.vis (oth (eAt g.es i) v) < (s0.vis.length:Int)+1
    ·exact go _ D _ N (by unfold stepB;rw [if_neg hb,if_pos hin,if_pos hnm]) (h.back hg h0 hi hiQ hb hin hnm) hv
    ·exact go s D T N (by unfold stepB;rw [if_neg hb,if_pos hin,if_neg hnm]) (h.skip hg h0 hi hin hnm) hv
   ·have hlen:s.vis.length=s0.vis.length+1+D.length:=by rw [h.vis,List.length_append,List.length_cons];omega
    have huv:oth (eAt g.es i) v∈g.vs:=hg.nbr (oth_nbr hi)
    obtain ⟨s1,C,T',N',e,hp,hC⟩:=ih _ (pushW s i) _ i (h.pre hg h0 hi hin) huv hv (by show g.vs.length≤n+s.vis.length;omega)
    obtain ⟨s2,D2,T2,N2,e2,h2⟩:=h.child hg h0 hi hiQ hb hin hp
    refine go s2 D2 T2 N2 (by unfold stepB;rw [if_neg hb,if_neg hin,e];exact e2) h2 fun w hw=>?_
    have e3:s2.vis=s1.vis:=by
     unfold lowB at e2
     split at e2
     ·unfold cutW at e2
      split at e2
      ·cases e2;rfl
      ·cases e2
     ·cases e2;rfl
    rw [e3,hp.vis,List.mem_append] at hw
    exact hw.elim (hv w) (hC w)
theorem vis_ok:∀ (n:Nat) (A:Int→Prop) (s:Bw) (v by_:Int),BPre g A s v by_→v∈g.vs→(∀ w∈s.vis,w∈g.vs)→g.vs.length≤n+s.vis.length→∃ s1 C T N,visF g.es n v by_ s=some s1∧BPost g s v by_ s1 C T N∧∀ c∈C,c∈g.vs
 | 0,A,s,v,by_,h,hv,hs,hn=>by
   have h1:(s.vis++[v]).length≤g.vs.length:=List.Nodup.length_le_of_subset (by
    rw [List.nodup_append]
    exact ⟨h.nd,by simp,fun a ha b hb=>by rintro rfl;rw [List.mem_singleton] at hb;subst hb;exact h.new ha⟩) fun w hw=>by
     rcases List.mem_append.1 hw with k | k
     ·exact hs w k
     ·rw [List.mem_singleton] at k;rw [k];exact hv
   simp at h1
   omega
 | n+1,A,s,v,by_,h,hv,hs,hn=>by
   obtain ⟨s1,D,T,N,e,h1,hs1⟩:=loop_ok hg n (vis_ok n) h (by omega) (atP g.es v) [] (newW s v) [] [] [] rfl h.start fun w hw=>by
    have hw:w∈s.vis++[v]:=hw
    rcases List.mem_append.1 hw with k | k
    ·exact hs w k
    ·rw [List.mem_singleton] at k;rw [k];exact hv
   have hp:=h1.done hg h
   exact ⟨s1,_,T,N,e,hp,fun c hc=>hs1 c (by rw [hp.vis];exact List.mem_append_right _ hc)⟩
structure BAll (g:Gr) (s:Bw):Prop where
 ln:s.low.length=s.vis.length
 nd:s.vis.Nodup
 sub:∀ w∈s.vis,w∈g.vs
 fin:∀ w∈s.vis,∀ i∈atP g.es w,oth (eAt g.es i) w∈s.vis
 stk:s.stk=[]
 pl:∀ i,i∈s.out.flatten↔i < g.es.length∧(eAt g.es i).a∈s.vis
 pn:s.out.flatten.Nodup
 good:∀ B∈s.out,BlkOk g.es B
theorem all_ok (n:Nat) (hn:g.vs.length≤n):∀ (l:List Int) (s:Bw),(∀ v∈l,v∈g.vs)→BAll g s→∃ s1,allB g.es n l s=some s1∧BAll g s1∧(∀ v∈s.vis,v∈s1.vis)∧∀ v∈l,v∈s1.vis
 | [],s,_,h=>⟨s,rfl,h,fun _ h=>h,fun v hv=>by cases hv⟩
 | v::l,s,hl,h=>by
   by_cases hv:v∈s.vis
   ·obtain ⟨s1,e,k1,k2,k3⟩:=all_ok n hn l s (fun w hw=>hl w (List.mem_cons_of_mem _ hw)) h
    refine ⟨s1,by rw [allB,if_pos hv];exact e,k1,k2,fun w hw=>?_⟩
    rcases List.mem_cons.1 hw with rfl | hw
    ·exact k2 _ hv
    ·exact k3 _ hw
   ·have hpre:BPre g (fun _=>False) s v (-1):=⟨h.ln,h.nd,fun a ha=>ha.elim,fun w hw _=>h.fin w hw,hv,fun a b ha=>ha.elim,.inl ⟨rfl,fun a ha=>ha⟩⟩
    obtain ⟨s1,C,T,N,e,hp,hC⟩:=vis_ok hg n _ s v (-1) hpre (hl v (by simp)) h.sub (by omega)
    have hT:T=[]:=by
     cases T with
     | nil=>rfl
     | cons i T=>
       obtain ⟨b,hb,_⟩:=hp.rel i (by simp)
       omega
    subst hT
    have hcl:∀ w∈s1.vis,∀ i∈atP g.es w,oth (eAt g.es i) w∈s1.vis:=fun w hw i hi=>by
     have hw2:=hw
     rw [hp.vis,List.mem_append] at hw2
     rcases hw2 with k | k
     ·rw [hp.vis];exact List.mem_append_left _ (h.fin w k i hi)
     ·exact hp.clo w k i hi
    have hall:BAll g s1:={
     ln:=hp.ln
     nd:=hp.nd
     sub:=fun w hw=>by
      rw [hp.vis,List.mem_append] at hw
      exact hw.elim (h.sub w) (hC w)
     fin:=hcl
     stk:=by rw [hp.stk,h.stk];rfl
     pl:=fun i=>by
      have h2:=hp.pl i
      rw [List.nil_append] at h2
      rw [hp.out,List.flatten_append,List.mem_append,h.pl i,h2,hp.vis,List.mem_append]
      constructor
      ·rintro (⟨k1,k2⟩ | ⟨k1,_,k2⟩)
       ·exact ⟨k1,.inl k2⟩
       ·refine ⟨k1,?_⟩
        rcases k2 with k2 | k2
        ·exact .inr k2
        ·have:=hp.clo _ k2 i (atP_mem.2 ⟨k1,.inr rfl⟩)
         rw [hp.vis,List.mem_append] at this
         have e1:oth (eAt g.es i) (eAt g.es i).b=(eAt g.es i).a:=by unfold oth;split<;>first | (next q=>exact q.symm) | rfl
         rwa [e1] at this
      ·rintro ⟨k1,k2 | k2⟩
       ·exact .inl ⟨k1,k2⟩
       ·exact .inr ⟨k1,by omega,.inl k2⟩
     pn:=by
      have h2:=hp.pn
      rw [List.nil_append] at h2
      rw [hp.out,List.flatten_append,List.nodup_append]
      refine ⟨h.pn,h2,fun a ha b hb=>?_⟩
      rintro rfl
      have k1:=(h.pl a).1 ha
      have k2:=(hp.pl a).1 (by rw [List.nil_append];exact hb)
      have hd:∀ c∈C,c∉s.vis:=fun c hc k=>by
       have:=hp.nd
       rw [hp.vis,List.nodup_append] at this
       exact this.2.2 c k c hc rfl
      rcases k2.2.2 with k | k
      ·exact hd _ k k1.2
      ·have:=h.fin _ k1.2 a (atP_mem.2 ⟨k1.1,.inl rfl⟩)
       have e1:oth (eAt g.es a) (eAt g.es a).a=(eAt g.es a).b:=by unfold oth;rw [if_pos rfl]
       rw [e1] at this
       exact hd _ k this
     good:=fun B hB=>by
      rw [hp.out,List.mem_append] at hB
      exact hB.elim (h.good B) (hp.good B) }
    obtain ⟨s2,e2,k1,k2,k3⟩:=all_ok n hn l s1 (fun w hw=>hl w (List.mem_cons_of_mem _ hw)) hall
    refine ⟨s2,by rw [allB,if_neg hv,e];exact e2,k1,fun w hw=>k2 w (by rw [hp.vis];exact List.mem_append_left _ hw),fun w hw=>?_⟩
    rcases List.mem_cons.1 hw with rfl | hw
    ·exact k2 _ (by rw [hp.vis];exact List.mem_append_right _ hp.hd)
    ·exact k3 _ hw
theorem blocks_ok:∃ s,allB g.es g.vs.length g.vs ⟨[],[],[],[]⟩=some s∧s.stk=[]∧(∀ i,i∈s.out.flatten↔i < g.es.length)∧s.out.flatten.Nodup∧∀ B∈s.out,BlkOk g.es B:=by
 obtain ⟨s,e,h,_,h3⟩:=all_ok hg g.vs.length (Nat.le_refl _) g.vs ⟨[],[],[],[]⟩ (fun _ h=>h) ⟨rfl,.nil,fun w hw=>(by cases hw),fun w hw=>(by cases hw),rfl,fun i=>by simp,by simp,fun B hB=>(by cases hB)⟩
 refine ⟨s,e,h.stk,fun i=>?_,h.pn,h.good⟩
 rw [h.pl i]
 exact and_iff_left_of_imp fun hi=>h3 _ (hg.ends _ (eAt_mem hi)).1
end
section
variable {g:Gr} (hg:GoodE g)
include hg
end
noncomputable def clsB (es:List Ed) (i:Nat):List Nat:=(List.range es.length).filter fun j=>@decide (RelB es i j) (Classical.propDecidable _)
theorem clsB_mem {es:List Ed} {i j:Nat}:j∈clsB es i↔j < es.length∧RelB es i j:=by
 unfold clsB;rw [List.mem_filter,List.mem_range,@decide_eq_true_iff _ (Classical.propDecidable _)]
theorem clsB_rise (es:List Ed) (i:Nat):(clsB es i).Pairwise (· < ·):=List.Pairwise.filter _ List.pairwise_lt_range
noncomputable def ledB (es:List Ed):List (List Nat):=((List.range es.length).filter fun i=>decide ((clsB es i).headD 0=i)).map (clsB es)
theorem head_mem {l:List Nat} (h:l≠[]):l.headD 0∈l:=by
 cases l with
 | nil=>exact absurd rfl h
 | cons a l=>simp
theorem BlkOk.cls {es:List Ed} {B:List Nat} (h:BlkOk es B) {i:Nat} (hi:i∈B):B=clsB es i:=by
 have hn:B.Nodup:=h.rise.imp fun k=>Nat.ne_of_lt k
 have hn':(clsB es i).Nodup:=(clsB_rise es i).imp fun k=>Nat.ne_of_lt k
 have hp:B.Perm (clsB es i):=(List.perm_ext_iff_of_nodup hn hn').2 fun k=>by rw [clsB_mem,← h.iff hi];exact ⟨fun q=>⟨h.lt k q,q⟩,fun q=>q.2⟩
 exact hp.eq_of_pairwise (fun a b _ _ h1 h2=>absurd h1 (by omega)) h.rise (clsB_rise es i)
theorem blocks_led {es:List Ed} {out B:List (List Nat)} (hall:∀ i,i∈out.flatten↔i < es.length) (hok:∀ B∈out,BlkOk es B) (hp:B.Perm out) (hr:B.Pairwise fun x y=>x.headD 0 < y.headD 0):B=ledB es:=by
 have hmem:∀ b,b∈B↔b∈ledB es:=fun b=>by
  unfold ledB
  rw [hp.mem_iff,List.mem_map]
  constructor
  ·intro hb
   have ho:=hok b hb
   have hh:=head_mem ho.ne
   have hc:=ho.cls hh
   refine ⟨b.headD 0,?_,hc.symm⟩
   rw [List.mem_filter,List.mem_range,decide_eq_true_iff,← hc]
   exact ⟨ho.lt _ hh,rfl⟩
  ·rintro ⟨i,hi,rfl⟩
   rw [List.mem_filter,List.mem_range,decide_eq_true_iff] at hi
   obtain ⟨b,hb,hib⟩:=List.mem_flatten.1 ((hall i).2 hi.1)
   rw [← (hok b hb).cls hib]
   exact hb
 have hl:(ledB es).Pairwise fun x y=>x.headD 0 < y.headD 0:=by
  unfold ledB
  rw [List.pairwise_map]
  refine (List.Pairwise.filter (fun i=>decide ((clsB es i).headD 0=i)) (List.pairwise_lt_range (n:=es.length))).imp_of_mem ?_
  intro a b ha hb hab
  rw [List.mem_filter,decide_eq_true_iff] at ha hb
  rw [ha.2,hb.2]
  exact hab
 have hpp:B.Perm (ledB es):=(List.perm_ext_iff_of_nodup (hr.imp fun k e=>by rw [e] at k;omega) (hl.imp fun k e=>by rw [e] at k;omega)).2 hmem
 exact hpp.eq_of_pairwise (fun a b _ _ h1 h2=>absurd h1 (by omega)) hr hl
end Go.Proofs.YtiiejclelbilkaaGreatDoor.Aw
namespace Go.Proofs.YtiiejclelbilkaaGreatDoor.Aw.CE
open Go Go.RowKit Go.Proofs.YtiiejclelbilkaaGreatDoor.Pl
set_option linter.unusedSimpArgs false
set_option linter.unusedVariables false
structure CmpW (fid:FuncId) (caps:List LV) (eg:Int→Ed) (Dm:Int→Prop):Prop where
 call:∀ x y st,Dm x→Dm y→ACalls Tryz.prog fid ([.ag (edL (eg x)),.ag (edL (eg y))]++caps) st fun r st'=>(∃ n,r=i n∧(n < 0↔x < y))∧st'=st
def es3 (eg:Int→Ed) (c:List Int):List LV:=eds (c.map eg)
theorem es3_length (eg:Int→Ed) (c:List Int):(es3 eg c).length=c.length * 3:=by unfold es3;rw [eds_length,List.length_map]
theorem ws_drop (eg:Int→Ed) (l:List Int) (j:Nat) (hj:j < l.length):(es3 eg l).drop (j * 3)=u (eg (l.getD j 0)).id::u (eg (l.getD j 0)).a::u (eg (l.getD j 0)).b::es3 eg (l.drop (j+1)):=by
 unfold es3
 rw [eds_drop _ _ (by simpa using hj),List.map_drop]
 have e:(l.map eg).getD j ed0=eg (l.getD j 0):=by
  rw [getDE _ _ (by simpa using hj),getD_lt _ _ hj,List.getElem_map]
 rw [e]
theorem ws_set (eg:Int→Ed) (c:List Int) (k:Nat) (x:Int) (hk:k < c.length):(es3 eg c).take (k * 3)++u (eg x).id::u (eg x).a::u (eg x).b::(es3 eg c).drop (k * 3+3)=es3 eg (c.set k x):=by
 unfold es3
 rw [eds_set _ _ _ (by simpa using hk),List.map_set]
theorem dm_get {Dm:Int→Prop} {l:List Int} (h:∀ x∈l,Dm x) {k:Nat} (hk:k < l.length):Dm (l.getD k 0):=h _ (by rw [getD_lt _ _ hk];exact List.getElem_mem _)
theorem dm_pm {Dm:Int→Prop} {a b:Nat} {l c:List Int} (h:∀ x∈l,Dm x) (k:Pm a b l c):∀ x∈c,Dm x:=fun x hx=>h x (k.perm.mem_iff.1 hx)
abbrev bx (eg:Int→Ed) (st:St) (q:Nat) (c:List Int):St:=st.set q (.box 38 3 (es3 eg c))
theorem bx_self {eg:Int→Ed} {st:St} {q:Nat} {c:List Int} (h:st.H q=.box 38 3 (es3 eg c)):st=bx eg st q c:=
 St.ext' rfl fun x=>by by_cases hx:x=q<;>simp [hx,h]
theorem bx_sw (eg:Int→Ed) (st:St) (q:Nat) (c:List Int) (k m:Nat) {x y:Int} (hk:k < c.length) (hm:m < c.length) (hx:c.getD k 0=x) (hy:c.getD m 0=y):
 ((bx eg st q c).set q (.box 38 3 (List.take (k * 3) (es3 eg c)++u (eg y).id::u (eg y).a::u (eg y).b::List.drop (k * 3+3) (es3 eg c)))).set q
   (.box 38 3 (List.take (m * 3) (List.take (k * 3) (es3 eg c)++u (eg y).id::u (eg y).a::u (eg y).b::List.drop (k * 3+3) (es3 eg c))++u (eg x).id::u (eg x).a::u (eg x).b::List.drop (m * 3+3) (List.take (k * 3) (es3 eg c)++u (eg y).id::u (eg y).a::u (eg y).b::List.drop (k * 3+3) (es3 eg c))))=bx eg st q (sw c k m):=by
 have e:List.take (k * 3) (es3 eg c)++u (eg y).id::u (eg y).a::u (eg y).b::List.drop (k * 3+3) (es3 eg c)=es3 eg (c.set k y):=ws_set eg c k y hk
 rw [e,ws_set eg (c.set k y) m x (by simpa using hm)]
 unfold bx sw
 rw [hx,hy]
 exact St.ext' rfl fun z=>by by_cases hz:z=q<;>simp [hz]
theorem insertionSort {fid:FuncId} {caps:List LV} {eg:Int→Ed} {Dm:Int→Prop} (hC:CmpW fid caps eg Dm) (l:List Int) (q a b:Nat) (st:St) (hD:∀ x∈l,Dm x) (hl:small l) (ha:a≤b) (hb:b≤l.length) (hH:st.H q=.box 38 3 (es3 eg l)):
 ACalls Tryz.prog 203 [.ms q 0 l.length,i a,i b,.fn (.func fid) caps] st fun r st'=>∃ c,st'=bx eg st q c∧Pm a b l c∧Srt a b c:=by
 unfold small at hl
 refine qO tabOk Tryz.func203 rfl rfl Tryz.ntmps203 (rs:=[]) rfl (by simp) ?_
 have hw0:=qN a (by omega)
 (repeat' (first | refine qS ?_ | refine qB ?_ | (refine w_e [] ?_;intro J hJ;simp only [];simp [hw0];(refine hJ _ _ ?_;clear hJ J;simp only [ak,reduceIte]))))
 refine qL (fun n fr st'=>∃ (k:Nat) (c:List Int),a < k∧n=b - k∧(fr 0=.ms q 0 l.length∧fr 3=.fn (.func fid) caps)∧fr 1=i a∧fr 2=i b∧fr 8=i k∧st'=bx eg st q c∧Pm a b l c∧Srt a k c) (b - (a+1)) ?_ ?_
 ·exact ⟨a+1,l,by omega,rfl,by simp,by simp,by simp,by simp,bx_self hH,.refl,fun p q h1 h2 h3=>by omega⟩
 rintro n fr st1 ⟨k,c,hak,rfl,⟨f0,fC⟩,f1,f2,f6,rfl,hpm,hs⟩ JJ hJJ
 have hcl:=hpm.len
 have hDc:=dm_pm hD hpm
 by_cases hlt:k < b
 rotate_left
 ·clear hJJ
  have hlt':¬ (k:Int) < (b:Int):=by omega
  (repeat' (first | refine qS ?_ | (refine qX ?_;simp only [ak,reduceIte]) | (refine qC ?_;simp [f0,fC,f1,f2,f6,hlt]) | (refine w_e [] ?_;intro J hJ;simp only [];simp [f0,fC,f1,f2,f6,hlt];(refine hJ _ _ ?_;clear hJ J;simp only [ak,reduceIte]))))
  exact ⟨trivial,c,rfl,hpm,fun p q h1 h2 h3=>hs p q h1 h2 (by omega)⟩
 have hw1:=qN k (by omega)
 (repeat' (first | refine qS ?_ | refine qB ?_ | (refine qK ?_;simp only [ak,reduceIte]) | (refine qC ?_;simp [f0,fC,f1,f2,f6,hlt]) | (refine w_e [] ?_;intro J hJ;simp only [];simp [f0,fC,f1,f2,f6,hlt];(refine hJ _ _ ?_;clear hJ J;simp only [ak,reduceIte]))))
 refine qL (fun n fr st'=>∃ (j:Nat) (c:List Int),a≤j∧j≤k∧j=n∧(fr 0=.ms q 0 l.length∧fr 3=.fn (.func fid) caps)∧fr 1=i a∧fr 2=i b∧fr 8=i k∧fr 9=i j∧st'=bx eg st q c∧Pm a b l c∧Ins a j k c) k ?_ ?_
 ·exact ⟨k,c,by omega,by omega,rfl,by simp [f0,fC],by simp [f1],by simp [f2],by simp [f6],by simp,rfl,hpm,hs.ins⟩
 clear f0 fC f1 f2 f6 hs hpm hcl hDc c fr
 rintro n fr st1 ⟨j,c,haj,hjk,rfl,⟨f0,fC⟩,f1,f2,f6,f7,rfl,hpm,hI⟩ JJ2 hJ2
 have hcl:=hpm.len
 have hDc:=dm_pm hD hpm
 by_cases hj:a < j
 rotate_left
 ·clear hJ2
  have hj':¬ (a:Int) < (j:Int):=by omega
  (repeat (refine qS ?_));(refine w_s [] [q] [(0,true),(1,true),(2,true),(3,true),(4,true),(5,true),(6,true),(7,true),(8,true),(9,true),(10,true),(11,true),(12,true),(13,true),(14,false),(15,true),(16,true)] ?_;intro J hJ;simp [f0,fC,f1,f2,f6,f7,hj];(refine hJ _ _ ?_;clear hJ J;simp only [ak,reduceIte]))
  (repeat' (first | (refine qX ?_;simp only [ak,reduceIte]) | (refine qC ?_;simp [f6,hw1]) | (refine w_e [] ?_;intro J hJ;simp only [];simp [f6,hw1];(refine hJ _ _ ?_;clear hJ J;simp only [ak,reduceIte]))))
  exact hJJ (b - (k+1)) _ _ (by omega) ⟨k+1,c,by omega,rfl,by simp [f0,fC],by simp [f1],by simp [f2],by simp,rfl,hpm,hI.done haj (.inl (by omega))⟩
 have hw2:=nat_sub_one j (by omega) (by omega)
 have hjl:j < l.length:=by omega
 have hjl1:j - 1 < l.length:=by omega
 have hd:=ws_drop eg c j (by omega)
 have hd2:=ws_drop eg c (j - 1) (by omega)
 have hI1:=hI.step hj hjk (by omega)
 have hI2:=hI.done haj
 have hpm1:=hpm.step j (j - 1) (by omega) (by omega) (by omega) (by omega) (by omega)
 generalize hx:c.getD j 0=x at *
 generalize hy:c.getD (j - 1) 0=y at *
 (repeat (refine qS ?_));(refine w_s [] [q] [(0,true),(1,true),(2,true),(3,true),(4,true),(5,true),(6,true),(7,true),(8,true),(9,true),(10,true),(11,true),(12,true),(13,true),(14,false),(15,true),(16,true)] ?_;intro J hJ;simp [f0,fC,f1,f2,f6,f7,hj,hw2,hjl,hjl1,hcl,hd,hd2,es3_length])
 refine dcallK_of (hC.call x y _ (by first | assumption | (subst_vars;exact dm_get (by assumption) (by omega))) (by first | assumption | (subst_vars;exact dm_get (by assumption) (by omega)))) ?_;rintro r s2 ⟨⟨nv,rfl,hnv⟩,rfl⟩
 refine ⟨fun _=>by simp,?_⟩
 by_cases hcd:x < y
 rotate_left
 ·clear hJ2
  (refine d_go ?_;simp [hnv,hcd];(refine hJ _ _ ?_;clear hJ J;simp only [ak,reduceIte]))
  (repeat' (first | (refine qX ?_;simp only [ak,reduceIte]) | (refine qC ?_;simp [f6,hw1]) | (refine w_e [] ?_;intro J hJ;simp only [];simp [f6,hw1];(refine hJ _ _ ?_;clear hJ J;simp only [ak,reduceIte]))))
  exact hJJ (b - (k+1)) _ _ (by omega) ⟨k+1,c,by omega,rfl,by simp [f0,fC],by simp [f1],by simp [f2],by simp,rfl,hpm,hI2 (.inr hcd)⟩
 clear hJJ
 (refine d_go ?_;simp [hnv,hcd];(refine hJ _ _ ?_;clear hJ J;simp only [ak,reduceIte]))
 (repeat' (first | refine qS ?_ | refine qB ?_ | (refine qK ?_;simp only [ak,reduceIte]) | (refine qC ?_;simp [])))
 (refine w_s [] [q] [(0,true),(1,true),(2,true),(3,true),(4,true),(5,true),(6,true),(7,true),(8,true),(9,true),(10,true),(11,true),(12,true),(13,true),(14,true),(15,false),(16,true),(17,false)] ?_;intro J hJ;simp [f0,fC,f1,f2,f6,f7,hw2,hjl,hjl1,hcl,hd,hd2,es3_length];(repeat refine ca ?_);(refine hJ _ _ ?_;clear hJ J;simp only [ak,reduceIte]))
 (repeat' (refine w_e [] ?_;intro J hJ;simp only [];simp [f7,hw2];(refine hJ _ _ ?_;clear hJ J;simp only [ak,reduceIte])))
 exact hJ2 (j - 1) _ _ (by omega) ⟨j - 1,sw c j (j - 1),by omega,by omega,rfl,by simp [f0,fC],by simp [f1],by simp [f2],by simp [f6],by simp,bx_sw eg st q c j (j - 1) (by omega) (by omega) hx hy,hpm1,hI1 hcd⟩
def Ahead (l:List Int) (a b:Nat):Prop:=0 < a→∀ j,a≤j→j < b→l.getD (a - 1) 0≤l.getD j 0
def Fin9 (a b a' b':Nat) (c:List Int):Prop:=∀ d,Pm a' b' c d→Srt a' b' d→Srt a b d
def PdI (fid:FuncId) (caps:List LV) (eg:Int→Ed) (q:Nat) (l:List Int) (st:St) (a b a' b':Nat) (wb wp:Bool) (lim n:Nat) (fr:Frm) (st2:St):Prop:=
 (fr 0=.ms q 0 l.length∧fr 4=.fn (.func fid) caps)∧fr 1=i a'∧fr 2=i b'∧fr 3=i lim∧fr 10=bb wb∧fr 11=bb wp∧fr 12=i n∧lim < 1000000∧q < st2.next∧OffS q st st2∧∃ c,st2.H q=.box 38 3 (es3 eg c)∧Pm a b l c∧Ahead c a' b'∧Fin9 a b a' b' c
theorem PdI.mk {fid:FuncId} {caps:List LV} {eg:Int→Ed} {q:Nat} {l:List Int} {st:St} {a b a' b':Nat} {wb wp:Bool} {lim n:Nat} {fr:Frm} {st2:St} {c:List Int} (f0:(fr 0=.ms q 0 l.length∧fr 4=.fn (.func fid) caps)) (f1:fr 1=i a') (f2:fr 2=i b') (f3:fr 3=i lim) (f8:fr 10=bb wb) (f9:fr 11=bb wp) (f10:fr 12=i n) (hlm:lim < 1000000) (hqn:q < st2.next) (ho:OffS q st st2) (hc:st2.H q=.box 38 3 (es3 eg c)) (hp:Pm a b l c) (ha:Ahead c a' b') (hf:Fin9 a b a' b' c):PdI fid caps eg q l st a b a' b' wb wp lim n fr st2:=
 ⟨f0,f1,f2,f3,f8,f9,f10,hlm,hqn,ho,c,hc,hp,ha,hf⟩
set_option maxHeartbeats 4000000 in
theorem pdqsort_upto {fid:FuncId} {caps:List LV} {eg:Int→Ed} {Dm:Int→Prop} (hC:CmpW fid caps eg Dm) (Z:Nat):∀ (l:List Int) (q a b lim:Nat) (st:St),(∀ x∈l,Dm x)→l.length≤12→a≤b→b≤l.length→b - a < Z→Ahead l a b→lim < 1000000→q < st.next→st.H q=.box 38 3 (es3 eg l)→
 ACalls Tryz.prog 191 [.ms q 0 l.length,i a,i b,i lim,.fn (.func fid) caps] st fun r st'=>∃ c,st'.H q=.box 38 3 (es3 eg c)∧Pm a b l c∧Srt a b c∧OffS q st st':=by
 induction Z with
 | zero=>intro l q a b lim st _ _ _ _ h;omega
 | succ Z ih=>
 intro l q a b lim st hD hl hab hb hZ hah hlim hqn hH
 have hsm:small l:=by unfold small;omega
 refine qO tabOk Tryz.func191 rfl rfl Tryz.ntmps191 (rs:=[]) rfl (by simp) ?_
 (repeat' (first | refine qS ?_ | refine qB ?_ | (refine w_e [] ?_;intro J hJ;simp only [];simp [];(refine hJ _ _ ?_;clear hJ J;simp only [ak,reduceIte]))))
 refine qL (fun z fr st2=>∃ (a' b' lim:Nat) (wb wp:Bool) (n:LV),a≤a'∧a'≤b'∧b'≤b∧z=b' - a'∧PdI fid caps eg q l st a b a' b' wb wp lim 0 (upd fr 12 (i (0:Nat))) st2) (b - a) ?_ ?_
 ·refine ⟨a,b,lim,true,true,.nil,by omega,by omega,by omega,rfl,?_⟩
  exact PdI.mk (by simp) (by simp) (by simp) (by simp) (by simp) (by simp) (by simp) hlim hqn (.refl _ _) hH .refl hah fun d h1 h2=>h2
 rintro z fr st2 ⟨a',b',lim,wb,wp,-,ha1,ha2,hb2,rfl,⟨f0,fC⟩,f1,f2,f3,f8,f9,-,hlm,hqn2,hof,c,hc,hpm,hah2,hfin⟩ JJ hJJ
 rw [upd_at,if_neg (by omega)] at f0 fC f1 f2 f3 f8 f9
 have hcl:=hpm.len
 have hDc:=dm_pm hD hpm
 have hsc:small c:=by unfold small;omega
 obtain ⟨n,hn⟩:∃ n:Nat,n=b' - a':=⟨_,rfl⟩
 have w1:IntKind.i64.wrap ((b':Int) - (a':Int))=(n:Int):=by rw [wrap_i64 _ (by omega) (by omega)];omega
 refine qB ?_
 (repeat' (first | refine qS ?_ | (refine w_e [] ?_;intro J hJ;simp only [];simp [f1,f2,w1];(refine hJ _ _ ?_;clear hJ J;simp only [ak,reduceIte]))))
 by_cases hn12:(n:Int)≤12
 ·clear hJJ
  refine qC ?_;simp [hn12]
  (repeat' (first | refine qS ?_ | (refine w_e [] ?_;intro J hJ;simp only [];simp [f0,fC,f1,f2])))
  refine qE (insertionSort hC c q a' b' st2 (by first | assumption | exact dm_pm hD ‹Pm _ _ l c›) hsc (by omega) (by omega) hc) (by simp [f0,fC,f1,f2,hcl]) ?_;rintro r st' ⟨d,rfl,k1,k2⟩
  (repeat' (first | (refine qR ?_;simp only [ak,reduceIte];simp []) | (refine e_go ?_;simp [];(refine hJ _ _ ?_;clear hJ J;simp only [ak,reduceIte]))))
  exact ⟨d,rfl,hpm.trans (k1.wide (by omega) (by omega) (by omega)),hfin d k1 k2,hof.set _⟩
 exact absurd (show (n:Int)≤12 by omega) hn12
theorem SortW {fid:FuncId} {caps:List LV} {eg:Int→Ed} {Dm:Int→Prop} (hC:CmpW fid caps eg Dm) (l:List Int) (q:Nat) (st:St) (hD:∀ x∈l,Dm x) (hl:l.length≤12) (hqn:q < st.next) (hH:st.H q=.box 38 3 (es3 eg l)):
 ACalls Tryz.prog 150 [.ms q 0 l.length,.fn (.func fid) caps] st fun r st'=>∃ c,st'.H q=.box 38 3 (es3 eg c)∧c.Perm l∧c.Pairwise (·≤·)∧OffS q st st':=by
 have w1:IntKind.u64.wrap (l.length:Int)=(l.length:Int):=wrap_u64 _ (by omega) (by omega)
 have hbl:=(blen_at l.length (by omega)).1
 refine qO tabOk Tryz.func150 rfl rfl Tryz.ntmps150 (rs:=[]) rfl (by simp) ?_
 (repeat' (first | refine qS ?_ | (refine w_e [] ?_;intro J hJ;simp only [];simp [w1];(try (refine hJ _ _ ?_;clear hJ J;simp only [ak,reduceIte])))))
 refine qF (Len l.length _ (by omega)) ?_;rintro r st' ⟨rfl,rfl⟩
 (repeat' (refine e_go ?_;simp []))
 refine qE (pdqsort_upto hC (l.length+1) l q 0 l.length (blen l.length) _ hD hl (by omega) (by omega) (by omega) (fun h=>absurd h (by omega)) (by omega) hqn hH) (by simp []) ?_;rintro r st' ⟨c,k1,k2,k3,k4⟩
 (repeat' (refine e_go ?_;simp [];(refine hJ _ _ ?_;clear hJ J;simp only [ak,reduceIte])))
 have hcl:=k2.len
 exact ⟨trivial,c,k1,k2.perm,srt_pair (by rw [hcl];exact k3),k4⟩
end Go.Proofs.YtiiejclelbilkaaGreatDoor.Aw.CE
namespace Go.Proofs.YtiiejclelbilkaaGreatDoor.Aw
open Go Go.RowKit Go.Proofs.YtiiejclelbilkaaGreatDoor.Pl Go.Proofs.YtiiejclelbilkaaGreatDoor.Eu
set_option linter.unusedSimpArgs false
set_option linter.unusedVariables false
def cmpI (x y:Int):Int:=if x < y then -1 else if y < x then 1 else 0
theorem cmpI_neg (x y:Int):cmpI x y < 0↔x < y:=by
 unfold cmpI
 by_cases h1:x < y
 ·rw [if_pos h1];omega
 ·rw [if_neg h1];by_cases h2:y < x
  ·rw [if_pos h2];omega
  ·rw [if_neg h2];omega
theorem CompareB (x y:Int) (st:St):ACalls Tryz.prog 81 [u x,u y] st fun r st'=>r=i (cmpI x y)∧st'=st:=by
 refine qO tabOk Tryz.func81 rfl rfl Tryz.ntmps81 (rs:=[.tmp 4]) rfl (by simp) ?_
 (repeat' (first | refine qS ?_ | (refine w_e [] ?_;intro J hJ;simp only [];simp [];(try (refine hJ _ _ ?_;clear hJ J;simp only [ak,reduceIte])))))
 refine qF (isNaN x _) ?_;rintro r st' ⟨rfl,rfl⟩
 (repeat' (first | refine qS ?_ | ((first | (refine w_e [] ?_;intro J hJ;simp only []) | (refine e_go ?_));simp [];(try (refine hJ _ _ ?_;clear hJ J;simp only [ak,reduceIte])))))
 refine qF (isNaN y _) ?_;rintro r st' ⟨rfl,rfl⟩
 by_cases h1:x < y
 ·(repeat' (first | refine qS ?_ | (refine qK ?_;simp only [ak,reduceIte]) | (refine qR ?_;simp only [ak,reduceIte];simp [h1,cmpI]) | (refine qC ?_;simp [h1,cmpI]) | ((first | (refine w_e [] ?_;intro J hJ;simp only []) | (refine e_go ?_));simp [h1,cmpI];(refine hJ _ _ ?_;clear hJ J;simp only [ak,reduceIte]))))
 ·by_cases h2:y < x
  ·(repeat' (first | refine qS ?_ | (refine qK ?_;simp only [ak,reduceIte]) | (refine qR ?_;simp only [ak,reduceIte];simp [h1,h2,cmpI]) | (refine qC ?_;simp [h1,h2,cmpI]) | ((first | (refine w_e [] ?_;intro J hJ;simp only []) | (refine e_go ?_));simp [h1,h2,cmpI];(refine hJ _ _ ?_;clear hJ J;simp only [ak,reduceIte]))))
  ·(repeat' (first | refine qS ?_ | (refine qK ?_;simp only [ak,reduceIte]) | (refine qR ?_;simp only [ak,reduceIte];simp [h1,h2,cmpI]) | (refine qC ?_;simp [h1,h2,cmpI]) | ((first | (refine w_e [] ?_;intro J hJ;simp only []) | (refine e_go ?_));simp [h1,h2,cmpI];(refine hJ _ _ ?_;clear hJ J;simp only [ak,reduceIte]))))
theorem cut_1 (x y:Ed) (st:St):ACalls Tryz.prog 151 [.ag (edL x),.ag (edL y)] st fun r st'=>r=i (cmpI x.id y.id)∧st'=st:=by
 refine qT (Q:=fun r=>r=i (cmpI x.id y.id)) ?_ fun r h=>by subst h;trivial
 obtain ⟨xi,xa,xb⟩:=x
 obtain ⟨yi,ya,yb⟩:=y
 refine qO tabOk Tryz.func151 rfl rfl Tryz.ntmps151 (rs:=[.tmp 4]) rfl (by simp) ?_
 (repeat' (first | refine qS ?_ | (refine w_e [] ?_;intro J hJ;simp only [];simp [];(try (refine hJ _ _ ?_;clear hJ J;simp only [ak,reduceIte])))))
 refine qE (CompareB xi yi _) (by simp) ?_;rintro r s1 ⟨rfl,rfl⟩
 (repeat' (first | (refine qR ?_;simp only [ak,reduceIte];simp [cmpI]) | (refine e_go ?_;simp [cmpI];(refine hJ _ _ ?_;clear hJ J;simp only [ak,reduceIte]))))
 exact (Keeps.new _ _).trans (Keeps.new _ _)
theorem Blocks_1 (x y:Ed) (X Y:List Ed) (st:St):ACalls Tryz.prog 87 [.sl 0 (X.length+1) (eds (x::X)),.sl 0 (Y.length+1) (eds (y::Y))] st fun r st'=>r=i (cmpI x.id y.id)∧st'=st:=by
 refine qT (Q:=fun r=>r=i (cmpI x.id y.id)) ?_ fun r h=>by subst h;trivial
 obtain ⟨xi,xa,xb⟩:=x
 obtain ⟨yi,ya,yb⟩:=y
 have e1:eds (⟨xi,xa,xb⟩::X)=u xi::u xa::u xb::eds X:=rfl
 have e2:eds (⟨yi,ya,yb⟩::Y)=u yi::u ya::u yb::eds Y:=rfl
 rw [e1,e2]
 refine qO tabOk Tryz.func87 rfl rfl Tryz.ntmps87 (rs:=[.tmp 4]) rfl (by simp) ?_
 (repeat' (first | refine qS ?_ | (refine w_e [] ?_;intro J hJ;simp only [];simp [];(refine hJ _ _ ?_;clear hJ J;simp only [ak,reduceIte]))))
 (refine w_s [] [] [(0,true),(1,true),(2,true),(3,true),(4,true),(5,true),(6,true),(7,true),(8,false),(9,true)] ?_;intro J hJ;simp [])
 refine qD (CompareB xi yi _) (by simp) ?_;rintro r s1 ⟨rfl,rfl⟩
 refine ⟨fun h=>by first | (cases h;done) | simp,?_⟩
 (refine d_go ?_;simp [];(refine hJ _ _ ?_;clear hJ J;simp only [ak,reduceIte]))
 (repeat' (refine qR ?_;simp only [ak,reduceIte];simp [cmpI]))
 exact Keeps.refl _
section
variable {es:List Ed} (hids:es.Pairwise fun x y=>x.id < y.id)
include hids
theorem id_lt {a b:Nat} (ha:a < es.length) (hb:b < es.length):(eAt es a).id < (eAt es b).id↔a < b:=by
 unfold eAt
 rw [getE_lt _ _ ha,getE_lt _ _ hb]
 rw [List.pairwise_iff_getElem] at hids
 rcases Nat.lt_trichotomy a b with k | k | k
 ·exact ⟨fun _=>k,fun _=>hids a b ha hb k⟩
 ·subst k;omega
 ·have:=hids b a hb ha k;omega
theorem cut_cmp:CE.CmpW 151 [] (fun x=>eAt es x.toNat) fun x=>0≤x∧x.toNat < es.length:=
 ⟨fun x y st hx hy=>(cut_1 _ _ st).mono fun r s h=>⟨⟨_,h.1,by rw [cmpI_neg,id_lt hids hx.2 hy.2];omega⟩,h.2⟩⟩
theorem SortE (P:List Nat) (hn:P.Nodup) (hP:∀ i∈P,i < es.length) (q:Nat) (st:St) (hl:P.length≤12) (hq:q < st.next) (hH:st.H q=.box 38 3 (eds (P.map (eAt es)))):
 ACalls Tryz.prog 150 [.ms q 0 P.length,.fn (.func 151) []] st fun r st'=>st'.H q=.box 38 3 (eds ((blkW es.length P).map (eAt es)))∧OffS q st st':=by
 have e:∀ L:List Nat,CE.es3 (fun x=>eAt es x.toNat) (L.map fun k:Nat=>(k:Int))=eds (L.map (eAt es)):=fun L=>by
  unfold CE.es3;rw [List.map_map];rfl
 have h:=CE.SortW (cut_cmp hids) (P.map fun k:Nat=>(k:Int)) q st (fun x hx=>by
  obtain ⟨k,hk,rfl⟩:=List.mem_map.1 hx
  exact ⟨by omega,by simpa using hP k hk⟩) (by simpa using hl) hq (by rw [e];exact hH)
 rw [List.length_map] at h
 refine h.mono ?_
 rintro r s ⟨c,h1,h2,h3,h4⟩
 refine ⟨?_,h4⟩
 have hc:c=(blkW es.length P).map fun k:Nat=>(k:Int):=by
  refine srt_unique h3 ?_ (h2.trans ((blkW_perm hn hP).map _).symm)
  rw [List.pairwise_map]
  exact (blkW_rise _ _).imp fun k=>by omega
 rw [h1,hc,e]
def bkL (es:List Ed) (out:List (List Nat)):List LV:=out.map fun B=>.sl 0 B.length (eds (B.map (eAt es)))
omit hids in
theorem bkL_length (es:List Ed) (out:List (List Nat)):(bkL es out).length=out.length:=by simp [bkL]
theorem blk_cmp:CB.CmpW 87 [] (fun x=>(clsB es x.toNat).length) (fun x=>eds ((clsB es x.toNat).map (eAt es))) fun x=>0≤x∧x.toNat < es.length∧(clsB es x.toNat).headD 0=x.toNat:=by
 refine ⟨fun x y st hx hy=>?_⟩
 have hh:∀ z:Nat,z < es.length→(clsB es z).headD 0=z→∃ R,clsB es z=z::R:=fun z hz he=>by
  have hm:z∈clsB es z:=clsB_mem.2 ⟨hz,.refl⟩
  cases hc:clsB es z with
  | nil=>rw [hc] at hm;cases hm
  | cons a R=>rw [hc] at he;simp at he;exact ⟨R,by rw [he]⟩
 obtain ⟨X,eX⟩:=hh _ hx.2.1 hx.2.2
 obtain ⟨Y,eY⟩:=hh _ hy.2.1 hy.2.2
 rw [eX,eY]
 have:=Blocks_1 (eAt es x.toNat) (eAt es y.toNat) (X.map (eAt es)) (Y.map (eAt es)) st
 rw [List.length_map,List.length_map] at this
 exact this.mono fun r s h=>⟨⟨_,h.1,by rw [cmpI_neg,id_lt hids hx.2.1 hy.2.1];omega⟩,h.2⟩
theorem SortB (out:List (List Nat)) (hall:∀ i,i∈out.flatten↔i < es.length) (hok:∀ B∈out,BlkOk es B) (hnd:out.flatten.Nodup) (q:Nat) (st:St) (hl:out.length≤12) (hq:q < st.next) (hH:st.H q=.box 33 1 (bkL es out)):
 ACalls Tryz.prog 86 [.ms q 0 out.length,.fn (.func 87) []] st fun r st'=>st'.H q=.box 33 1 (bkL es (ledB es))∧(ledB es).Perm out∧OffS q st st':=by
 obtain ⟨L,hL⟩:∃ L:List Int,L=out.map fun B=>((B.headD 0:Nat):Int):=⟨_,rfl⟩
 have hB:∀ B∈out,clsB es (B.headD 0)=B:=fun B h=>((hok B h).cls (head_mem (hok B h).ne)).symm
 have hD:∀ x∈L,0≤x∧x.toNat < es.length∧(clsB es x.toNat).headD 0=x.toNat:=fun x hx=>by
  rw [hL] at hx
  obtain ⟨B,h,rfl⟩:=List.mem_map.1 hx
  refine ⟨by omega,?_,?_⟩
  ·simpa using (hok B h).lt _ (head_mem (hok B h).ne)
  ·rw [Int.toNat_natCast,hB B h]
 have e:∀ c:List Int,CB.ws (fun x=>(clsB es x.toNat).length) (fun x=>eds ((clsB es x.toNat).map (eAt es))) c=bkL es (c.map fun x=>clsB es x.toNat):=fun c=>by
  unfold bkL CB.ws;rw [List.map_map];rfl
 have eL:L.map (fun x=>clsB es x.toNat)=out:=by
  rw [hL,List.map_map]
  have:∀ B∈out,((fun x:Int=>clsB es x.toNat)∘fun B:List Nat=>((B.headD 0:Nat):Int)) B=B:=fun B h=>by
   show clsB es ((B.headD 0:Nat):Int).toNat=B
   rw [Int.toNat_natCast];exact hB B h
  rw [List.map_congr_left this,List.map_id']
 have hLn:L.Nodup:=by
  rw [hL]
  refine List.pairwise_map.2 ?_
  have:=(List.pairwise_flatten.1 hnd).2
  refine this.imp_of_mem fun {a b} ha hb hd he=>?_
  exact hd _ (head_mem (hok a ha).ne) _ (head_mem (hok b hb).ne) (by omega)
 have h:=CB.SortW (blk_cmp hids) L q st hD (by rw [hL,List.length_map];exact hl) hq (by rw [e,eL];exact hH)
 rw [show L.length=out.length by rw [hL,List.length_map]] at h
 refine h.mono ?_
 rintro r s ⟨c,h1,h2,h3,h4⟩
 have hcD:∀ x∈c,0≤x∧x.toNat < es.length∧(clsB es x.toNat).headD 0=x.toNat:=fun x hx=>hD x (h2.mem_iff.1 hx)
 have hp:(c.map fun x=>clsB es x.toNat).Perm out:=by
  have:=h2.map fun x:Int=>clsB es x.toNat
  rwa [eL] at this
 have hr:(c.map fun x=>clsB es x.toNat).Pairwise fun x y=>x.headD 0 < y.headD 0:=by
  rw [List.pairwise_map]
  have hcn:=h2.nodup_iff.2 hLn
  refine (h3.and hcn).imp_of_mem fun {a b} ha hb hab=>?_
  have h5:=hcD a ha
  have h6:=hcD b hb
  rw [h5.2.2,h6.2.2]
  have:=hab.2
  have:=hab.1
  omega
 have hled:=blocks_led hall hok hp hr
 refine ⟨by rw [h1,e,hled],by rw [← hled];exact hp,h4⟩
end
def isN (l:List Nat):List LV:=l.map fun k:Nat=>i (k:Int)
@[simp] theorem isN_length (l:List Nat):(isN l).length=l.length:=by simp [isN]
theorem isN_drop (l:List Nat) (k:Nat) (hk:k < l.length):(isN l).drop k=i ((l.getD k 0:Nat):Int)::(isN l).drop (k+1):=by
 unfold isN
 rw [List.drop_eq_getElem_cons (by simpa using hk)]
 simp [hk]
theorem isN_take (l:List Nat) (k:Nat):(isN l).take k=isN (l.take k):=by simp [isN]
theorem idxC {v x:Int} {V:List Int} (h:¬ v=x):(v::V).idxOf x=V.idxOf x+1:=by
 have e:(v==x)=false:=by rw [beq_eq_false_iff_ne];exact h
 rw [List.idxOf_cons,e];rfl
def nbF:Nat→List Int→List (List Int×LV)
 | _,[]=>[]
 | k,v::V=>([v],i ((k:Int)+1))::nbF (k+1) V
theorem nbF_length (V:List Int):∀ k,(nbF k V).length=V.length:=by
 induction V with
 | nil=>intro k;rfl
 | cons v V ih=>intro k;simp [nbF,ih]
theorem mget_nbF (V:List Int) (x:Int):∀ k,mget (nbF k V) [x]=if x∈V then some (i ((k:Int)+nmW V x)) else none:=by
 induction V with
 | nil=>intro k;rfl
 | cons v V ih=>
   intro k
   unfold nbF mget
   by_cases e:v=x
   ·subst e
    simp [nmW]
   ·have e2:¬ ([x]==[v])=true:=by simpa using fun k=>e k.symm
    rw [if_neg e2,ih (k+1)]
    by_cases hx:x∈V
    ·rw [if_pos hx,if_pos (List.mem_cons_of_mem _ hx)]
     unfold nmW
     rw [if_pos hx,if_pos (List.mem_cons_of_mem _ hx),idxC e]
     congr 2
     omega
    ·rw [if_neg hx,if_neg]
     rw [List.mem_cons,not_or]
     exact ⟨fun h=>e h.symm,hx⟩
theorem mset_nbF {x:Int} (V:List Int) (h:x∉V):∀ k,mset (nbF k V) [x] (i ((k:Int)+V.length+1))=nbF k (V++[x]):=by
 induction V with
 | nil=>intro k;simp [nbF,mset]
 | cons v V ih=>
   intro k
   rw [List.mem_cons,not_or] at h
   have e:¬ ([x]==[v])=true:=by simpa using h.1
   unfold nbF mset
   simp only [e,Bool.false_eq_true,if_false,List.cons_append]
   have:=ih h.2 (k+1)
   rw [show ((k:Int)+(v::V).length+1)=((k+1:Nat):Int)+V.length+1 by simp;omega,this]
theorem mget_nb (V:List Int) (x:Int):mget (nbF 0 V) [x]=if x∈V then some (i (nmW V x)) else none:=by
 rw [mget_nbF];split<;>simp
theorem mset_nb {x:Int} {V:List Int} (h:x∉V):mset (nbF 0 V) [x] (i ((V.length:Int)+1))=nbF 0 (V++[x]):=by
 have:=mset_nbF V h 0
 simpa using this
def lwF:List Int→List Int→List (List Int×LV)
 | v::V,x::L=>([v],i x)::lwF V L
 | _,_=>[]
theorem mget_lw:∀ (V L:List Int) (x:Int),L.length=V.length→x∈V→mget (lwF V L) [x]=some (i (L.getD (V.idxOf x) 0))
 | [],_,_,_,h=>by cases h
 | v::V,[],x,hl,_=>by simp at hl
 | v::V,y::L,x,hl,h=>by
   unfold lwF mget
   by_cases e:v=x
   ·subst e;simp
   ·have e2:¬ ([x]==[v])=true:=by simpa using fun k=>e k.symm
    simp only [e2,Bool.false_eq_true,if_false]
    rw [mget_lw V L x (by simpa using hl) (by rcases List.mem_cons.1 h with k | k;exact absurd k.symm e;exact k),idxC e]
    rfl
theorem mset_lw_new:∀ (V L:List Int) (x y:Int),L.length=V.length→x∉V→mset (lwF V L) [x] (i y)=lwF (V++[x]) (L++[y])
 | [],[],_,_,_,_=>rfl
 | [],_::_,_,_,hl,_=>by simp at hl
 | v::V,[],x,_,hl,_=>by simp at hl
 | v::V,z::L,x,y,hl,h=>by
   rw [List.mem_cons,not_or] at h
   have e:¬ ([x]==[v])=true:=by simpa using h.1
   unfold lwF mset
   simp only [e,Bool.false_eq_true,if_false,List.cons_append]
   rw [mset_lw_new V L x y (by simpa using hl) h.2]
theorem mset_lw_old:∀ (V L:List Int) (x y:Int),L.length=V.length→x∈V→mset (lwF V L) [x] (i y)=lwF V (L.set (V.idxOf x) y)
 | [],_,_,_,_,h=>by cases h
 | v::V,[],x,_,hl,_=>by simp at hl
 | v::V,z::L,x,y,hl,h=>by
   unfold lwF mset
   by_cases e:v=x
   ·subst e;simp [lwF]
   ·have e2:¬ ([x]==[v])=true:=by simpa using fun k=>e k.symm
    simp only [e2,Bool.false_eq_true,if_false]
    rw [mset_lw_old V L x y (by simpa using hl) (by rcases List.mem_cons.1 h with k | k;exact absurd k.symm e;exact k),idxC e]
    rfl
theorem lastP_spec {l:List Nat} {i:Nat} (h:i∈l):lastP l i < l.length∧l.getD (lastP l i) 0=i∧∀ j,lastP l i < j→j < l.length→l.getD j 0≠i:=by
 obtain ⟨P,R,rfl,hR⟩:∃ P R,l=P++i::R∧i∉R:=by
  obtain ⟨P,R,e,hR⟩:=List.eq_append_cons_of_mem (List.mem_reverse.2 h)
  refine ⟨R.reverse,P.reverse,?_,by simpa using hR⟩
  have:=congrArg List.reverse e
  simpa using this
 rw [lastP_app hR]
 refine ⟨by simp,by simp,fun j h1 h2 e=>hR ?_⟩
 rw [List.getD_eq_getElem?_getD,List.getElem?_append_right (by omega)] at e
 obtain ⟨m,hm⟩:∃ m,j - P.length=m+1:=⟨j - P.length - 1,by omega⟩
 rw [hm,List.getElem?_cons_succ] at e
 simp at h2
 rw [List.getElem?_eq_getElem (by omega)] at e
 simp only [Option.getD_some] at e
 rw [← e]
 exact List.getElem_mem _
structure BwAt (g:Gr) (B W a nb lw:Nat) (tk:Int→Nat) (s:Bw) (st:St):Prop where
 ex:∃ tS tB CS ea,st.H W=.box 119 6 [.sl 0 g.es.length (eds g.es),.mp a,.mp nb,.mp lw,.ms tS 0 s.stk.length,.ms tB 0 s.out.length]∧
  (st.H a=.map false [.u32] ea∧∀ v,mget ea [v]=if atP g.es v=[] then none else some (.sl (tk v) (atP g.es v).length (isN (atP g.es v))))∧
  st.H nb=.map false [.u32] (nbF 0 s.vis)∧st.H lw=.map false [.u32] (lwF s.vis s.low)∧(st.H tS=.box 3 1 CS∧CS.take s.stk.length=isN s.stk)∧st.H tB=.box 33 1 (bkL g.es s.out)∧
  (a≠nb∧a≠lw∧nb≠lw)∧(B≤tS∧B≤tB∧tS < st.next∧tB < st.next)
 bd:(B≤W∧B≤a∧B≤nb∧B≤lw)∧(W < st.next∧a < st.next∧nb < st.next∧lw < st.next)
theorem box_neB {st:St} {a b:Nat} {x y:LObj} (ha:st.H a=x) (hb:st.H b=y) (h:x≠y):¬ a=b:=fun e=>h (by rw [← ha,e,hb])
theorem eAt_drop {es:List Ed} {P:List Nat} {j:Nat} (hj:j < P.length):(P.take (j+1)).map (eAt es)=(P.take j).map (eAt es)++[eAt es (P.getD j 0)]:=by
 rw [List.take_succ_eq_append_getElem hj,List.map_append,List.getD_eq_getElem?_getD,List.getElem?_eq_getElem hj];rfl
structure KbB (B:Nat) (st st':St):Prop where
 next:st.next≤st'.next
 H:∀ x,x < B→st'.H x=st.H x
theorem KbB.refl (B:Nat) (st:St):KbB B st st:=⟨Nat.le_refl _,fun _ _=>rfl⟩
theorem KbB.trans {B:Nat} {a b c:St} (h:KbB B a b) (k:KbB B b c):KbB B a c:=⟨Nat.le_trans h.next k.next,fun x hx=>by rw [k.H x hx,h.H x hx]⟩
theorem KbB.new {B:Nat} {a b:St} (h:KbB B a b) (hB:B≤b.next) (o:LObj):KbB B a (b.new o):=⟨by rw [new_next];exact Nat.le_succ_of_le h.next,fun x hx=>by rw [new_H,if_neg (by omega)];exact h.H x hx⟩
theorem KbB.set {B:Nat} {a b:St} (h:KbB B a b) {l:Nat} (hl:B≤l) (o:LObj):KbB B a (b.set l o):=⟨h.next,fun x hx=>by rw [set_H,if_neg (by omega)];exact h.H x hx⟩
set_option maxHeartbeats 4000000 in
theorem cutS (g:Gr) (hids:g.es.Pairwise fun x y=>x.id < y.id) (B W a nb lw:Nat) (tk:Int→Nat) (s:Bw) (i0:Nat) (st:St) (h:BwAt g B W a nb lw tk s st) (hi:i0∈s.stk) (hsl:∀ k∈s.stk.drop (lastP s.stk i0),k < g.es.length) (hsn:(s.stk.drop (lastP s.stk i0)).Nodup) (he:g.es.length≤10) (hkl:s.stk.length≤60000) (hol:s.out.length≤100000):
 ACalls Tryz.prog 114 [.pt W 0,i i0] st fun r st'=>∃ s',cutW g.es.length s i0=some s'∧BwAt g B W a nb lw tk s' st'∧KbB B st st':=by
 obtain ⟨hl1,hl2,hl3⟩:=lastP_spec hi
 have hcw:cutW g.es.length s i0=some { s with stk:=s.stk.take (lastP s.stk i0),out:=s.out++[blkW g.es.length (s.stk.drop (lastP s.stk i0))] }:=by unfold cutW;rw [if_pos hi]
 rw [hcw]
 clear hcw
 obtain ⟨⟨tS,tB,CS,ea,hW,⟨hA,hAm⟩,hN,hL,⟨hS,hSt⟩,hBk,⟨n1,n2,n3⟩,⟨b1,b2,b3,b4⟩⟩,⟨c1,c2,c3,c4⟩,d1,d2,d3,d4⟩:=h
 generalize hkk:lastP s.stk i0=kl at *
 obtain ⟨P,hP⟩:∃ P,P=s.stk.drop kl:=⟨_,rfl⟩
 rw [← hP] at hsl hsn ⊢
 have hPl:P.length=s.stk.length - kl:=by rw [hP,List.length_drop]
 have hPe:P.length≤g.es.length:=by have:=List.Nodup.length_le_of_subset hsn (fun k hk=>List.mem_range.2 (hsl k hk));rwa [List.length_range] at this
 have hCS:s.stk.length≤CS.length:=by
  have:=congrArg List.length hSt
  rw [List.length_take,isN_length] at this
  omega
 have hCd:∀ k,k < s.stk.length→CS.drop k=i ((s.stk.getD k 0:Nat):Int)::CS.drop (k+1):=fun k hk=>by
  have e1:CS=isN s.stk++CS.drop s.stk.length:=by rw [← hSt];exact (List.take_append_drop _ _).symm
  rw [List.drop_eq_getElem_cons (by omega)]
  congr 1
  have:CS[k]'(by omega)=(isN s.stk)[k]'(by simpa using hk):=by
   have h2:=List.getElem_of_eq hSt (i:=k) (by rw [List.length_take];omega)
   rw [List.getElem_take] at h2
   exact h2
  rw [this]
  simp [isN,hk]
 have w1:=nat_sub_one s.stk.length (by omega) (by omega)
 have m1:¬ W=tS:=box_neB hW hS (by simp)
 have m2:¬ W=tB:=box_neB hW hBk (by simp)
 have m3:¬ tS=tB:=box_neB hS hBk (by simp)
 have m4:¬ W=a:=box_neB hW hA (by simp)
 have m5:¬ W=nb:=box_neB hW hN (by simp)
 have m6:¬ W=lw:=box_neB hW hL (by simp)
 have m7:¬ a=tS:=box_neB hA hS (by simp)
 have m8:¬ a=tB:=box_neB hA hBk (by simp)
 have m9:¬ nb=tS:=box_neB hN hS (by simp)
 have m10:¬ nb=tB:=box_neB hN hBk (by simp)
 have m11:¬ lw=tS:=box_neB hL hS (by simp)
 have m12:¬ lw=tB:=box_neB hL hBk (by simp)
 refine qO tabOk Tryz.func114 rfl rfl Tryz.ntmps114 (rs:=[]) rfl (by simp) ?_
 (repeat' (first | refine qS ?_ | refine qB ?_ | (refine w_e [] ?_;intro J hJ;simp only [];simp [hW,w1];(refine hJ _ _ ?_;clear hJ J;simp only [ak,reduceIte]))))
 refine qL (fun n fr st2=>∃ k:Nat,n=k∧st2=st∧fr 0=.pt W 0∧fr 1=i i0∧fr 4=i k∧kl≤k∧k < s.stk.length) (s.stk.length - 1) ?_ ?_
 ·exact ⟨s.stk.length - 1,rfl,rfl,by simp,by simp,by simp,by omega,by omega⟩
 rintro k fr st2 ⟨_,rfl,hst2,f0,f1,f4,hk1,hk2⟩ JJ hJJ
 rw [hst2];clear hst2 st2
 have hd:=hCd k hk2
 have hkc:k < CS.length:=by omega
 by_cases hk:k=kl
 rotate_left
 ·have hne:=hl3 k (by omega) hk2
  generalize s.stk.getD k 0=y at *
  have hnb:((y:Int) != (i0:Int))=true:=by rw [bne_iff_ne];omega
  have w2:=nat_sub_one k (by omega) (by omega)
  (repeat' (first | refine qS ?_ | refine qB ?_ | (refine qK ?_;simp only [ak,reduceIte]) | (refine qC ?_;simp [f0,f1,f4,hW,hS,hd,hkc,hk2,hnb,w2]) | (refine w_e [] ?_;intro J hJ;simp only [];simp [f0,f1,f4,hW,hS,hd,hkc,hk2,hnb,w2];(refine hJ _ _ ?_;clear hJ J;simp only [ak,reduceIte]))))
  exact hJJ (k - 1) _ _ (by omega) ⟨k - 1,rfl,rfl,by simp [f0],by simp [f1],by simp,by omega,by omega⟩
 clear hJJ
 subst hk
 rw [hl2] at hd
 have hnb:((i0:Int) != (i0:Int))=false:=by simp
 (repeat' (first | refine qS ?_ | refine qB ?_ | (refine qX ?_;simp only [ak,reduceIte]) | (refine qC ?_;simp [f0,f1,f4,hW,hS,hd,hkc,hk2,hnb]) | (refine w_e [] ?_;intro J hJ;simp only [];simp [f0,f1,f4,hW,hS,hd,hkc,hk2,hnb];(repeat refine ca ?_);(refine hJ _ _ ?_;clear hJ J;simp only [ak,reduceIte]))))
 rw [← hPl]
 refine awp_ownM 5 38 3 (by simp) ?_
 have hel:=eds_length g.es
 refine awp_range 32 31 33 46 (P.length) (fun j fr st2=>fr 0=.pt W 0∧fr 4=i k∧fr 30=.ms tS k P.length∧Keeps st st2∧∃ q,fr 5=.ms q 0 j∧st2.H q=.box 38 3 (eds ((P.take j).map (eAt g.es)))∧st.next≤q∧q < st2.next) ?_ ?_ ?_
 ·refine ⟨by simp [f0],by simp [f4],by simp [hPl],Keeps.new _ _,st.next,by simp,by simp [eds],by omega,by simp⟩
 ·clear f0 f1 f4 fr hd hnb
  rintro j fr s1 hlt ⟨g0,g4,g30,hkp,q,g5,hq,hq1,hq2⟩ fi fn JO hJO
  have hW1:=(hkp.H W d1).trans hW
  have hS1:=(hkp.H tS b3).trans hS
  have hd2:=hCd (k+j) (by omega)
  have hPd:s.stk.getD (k+j) 0=P.getD j 0:=by rw [hP,List.getD_eq_getElem?_getD,List.getD_eq_getElem?_getD,List.getElem?_drop]
  rw [hPd] at hd2
  have hpl:P.getD j 0 < g.es.length:=hsl _ (by rw [List.getD_eq_getElem?_getD,List.getElem?_eq_getElem hlt];exact List.getElem_mem _)
  have hde:=eds_drop g.es _ hpl
  rw [eAt_drop hlt] at hJO
  have hql:(eds ((P.take j).map (eAt g.es))).length=j * 3:=by rw [eds_length,List.length_map,List.length_take];congr 1;omega
  have hap:eds ((P.take j).map (eAt g.es)++[eAt g.es (P.getD j 0)])=eds ((P.take j).map (eAt g.es))++edL (eAt g.es (P.getD j 0)):=by simp [eds]
  rw [hap] at hJO
  unfold eAt at hJO
  generalize hpp:P.getD j 0=p0 at *
  generalize eds ((P.take j).map (eAt g.es))=RR at *
  generalize g.es.getD p0 ed0=x at *
  obtain ⟨xi,xa,xb⟩:=x
  simp only [edL] at hJO
  simp only at hde
  have hkj:k+j < CS.length:=by omega
  have hp3:p0 * 3 < g.es.length * 3:=by omega
  have y1:¬ q=s1.next:=by omega
  have y2:¬ q=0:=by omega
  (repeat' (first | refine qS ?_ | (refine w_e [] ?_;intro J hJ;simp only [];simp [g0,g4,g5,g30,fi,fn,hW1,hS1,hd2,hde,hlt,hq,hql,hkj,hpl,hp3,hel,y1,y2];(repeat refine ca ?_);(refine hJ _ _ ?_;clear hJ J;simp only [ak,reduceIte]))))
  refine hJO _ _ (by simp [fi]) (by simp [fn]) ⟨by simp [g0],by simp [g4],by simp [g30],?_,s1.next+1,by simp,by simp,by omega,by simp⟩
  (repeat (first | exact hkp | (refine Keeps.trans ?_ (Keeps.new _ _)) | (refine Keeps.set ?_ (by omega) _)))
 ·rintro fr s1 ⟨g0,g4,g30,hkp,q,g5,hq,hq1,hq2⟩
  rw [List.take_length] at hq
  have hW1:=(hkp.H W d1).trans hW
  have hS1:=(hkp.H tS b3).trans hS
  have hk':k≤s.stk.length:=by omega
  have hnx:=hkp.next
  have y1:¬ q=W:=by omega
  (repeat' (first | refine qS ?_ | (refine w_e [] ?_;intro J hJ;simp only [];simp [g0,g4,g5,hW1,hk'];(try (refine hJ _ _ ?_;clear hJ J;simp only [ak,reduceIte])))))
  refine qE (SortE hids P hsn hsl q _ (by omega) (by simp;omega) (by simp [y1,hq])) (by simp) ?_;rintro r s2 ⟨hq3,hoff⟩
  have hn2:=hoff.1
  simp only [set_next] at hn2
  have old:∀ x,x≠q→x≠W→x < st.next→s2.H x=st.H x:=fun x h1 h2 h3=>by
   rw [hoff.2 x h1 (by simp;omega),set_H,if_neg h2];exact hkp.H x h3
  have hW2:=hoff.2 W (fun e=>y1 e.symm) (by simp;omega)
  rw [set_H,if_pos rfl] at hW2
  have hB2:=(old tB (by omega) (fun e=>m2 e.symm) b4).trans hBk
  have hS2:=(old tS (by omega) (fun e=>m1 e.symm) b3).trans hS
  have hA2:=(old a (by omega) (fun e=>m4 e.symm) d2).trans hA
  have hN2:=(old nb (by omega) (fun e=>m5 e.symm) d3).trans hN
  have hL2:=(old lw (by omega) (fun e=>m6 e.symm) d4).trans hL
  have hbl:=(blkW_perm hsn hsl).length_eq
  have hcl:(eds ((blkW g.es.length P).map (eAt g.es))).length=P.length * 3:=by rw [eds_length,List.length_map,hbl]
  (refine e_go ?_;simp [];(refine hJ _ _ ?_;clear hJ J;simp only [ak,reduceIte]))
  refine awp_freeze 5 (l:=q) (n:=P.length) (by simp [g5]) hq3 (Nat.le_of_eq hcl.symm) ?_
  rw [List.take_of_length_le (Nat.le_of_eq hcl)]
  have hbL:(bkL g.es s.out).length=s.out.length:=bkL_length _ _
  have z1:¬ W=q:=fun e=>y1 e.symm
  have z2:¬ tB=q:=by omega
  have z3:¬ W=s2.next:=by omega
  have z4:¬ tB=s2.next:=by omega
  have z5:¬ W=s2.next+1:=by omega
  (repeat' (refine w_e [] ?_;intro J hJ;simp only [];simp [g0,hW2,hB2,m2,z1,z2,z3,z4,z5,hbL];(repeat refine ca ?_);(refine hJ _ _ ?_;clear hJ J;simp only [ak,reduceIte])))
  have q1:¬ a=q:=by omega
  have q2:¬ nb=q:=by omega
  have q3:¬ lw=q:=by omega
  have q4:¬ tS=q:=by omega
  have q5:¬ a=s2.next:=by omega
  have q6:¬ nb=s2.next:=by omega
  have q7:¬ lw=s2.next:=by omega
  have q8:¬ tS=s2.next:=by omega
  have q9:¬ a=s2.next+1:=by omega
  have q10:¬ nb=s2.next+1:=by omega
  have q11:¬ lw=s2.next+1:=by omega
  have q12:¬ tS=s2.next+1:=by omega
  have q13:¬ s2.next+1=W:=by omega
  have r1:¬ a=W:=fun e=>m4 e.symm
  have r2:¬ nb=W:=fun e=>m5 e.symm
  have r3:¬ lw=W:=fun e=>m6 e.symm
  have r4:¬ tS=W:=fun e=>m1 e.symm
  have hbk:bkL g.es (s.out++[blkW g.es.length P])=bkL g.es s.out++[.sl 0 P.length (eds ((blkW g.es.length P).map (eAt g.es)))]:=by
   unfold bkL;rw [List.map_append];simp [hbl]
  have htk:(s.stk.take k).length=k:=by rw [List.length_take];omega
  refine ⟨trivial,⟨⟨tS,s2.next+1,CS,ea,by simp [htk],⟨by simp [z1,z2,z3,z4,z5,q1,q2,q3,q4,q5,q6,q7,q8,q9,q10,q11,q12,q13,r1,r2,r3,r4,m2,m3,m8,m10,m12,hA2],hAm⟩,by simp [z1,z2,z3,z4,z5,q1,q2,q3,q4,q5,q6,q7,q8,q9,q10,q11,q12,q13,r1,r2,r3,r4,m2,m3,m8,m10,m12,hN2],by simp [z1,z2,z3,z4,z5,q1,q2,q3,q4,q5,q6,q7,q8,q9,q10,q11,q12,q13,r1,r2,r3,r4,m2,m3,m8,m10,m12,hL2],⟨by simp [z1,z2,z3,z4,z5,q1,q2,q3,q4,q5,q6,q7,q8,q9,q10,q11,q12,q13,r1,r2,r3,r4,m2,m3,m8,m10,m12,hS2],?_⟩,by simp [z1,z2,z3,z4,z5,q1,q2,q3,q4,q5,q6,q7,q8,q9,q10,q11,q12,q13,r1,r2,r3,r4,m2,m3,m8,m10,m12,hbk],⟨n1,n2,n3⟩,b1,by omega,by simp;omega,by simp⟩,⟨c1,c2,c3,c4⟩,by simp;omega,by simp;omega,by simp;omega,by simp;omega⟩,?_⟩
  ·rw [htk,show CS.take k=(CS.take s.stk.length).take k by rw [List.take_take,Nat.min_eq_left hk'],hSt,isN_take]
  ·refine (((((KbB.mk (by omega) fun x hx=>?_:KbB B st s2).set (by omega) _).new ?_ _).set b2 _).new ?_ _).set c1 _
   ·exact old x (by omega) (by omega) (by omega)
   ·simp;omega
   ·simp;omega
theorem awp_cutBk {P:Program} {N:Nat} {Q:AQ} {k:List AItem} {fr:Frm} {st:St} {x y:Code} (I:Frm→St→Prop) (h1:AWp P N x (AK P N (fun e f s=>e=.normal∧I f s) []) fr st) (h2:∀ fr st,I fr st→AWp P N y (AK P N Q k) fr st):
 AWp P N x (AK P N Q (.code y::k)) fr st:=by
 refine awp_mono h1 ?_
 rintro e fr' st' ⟨rfl,hI⟩
 rw [ak_code]
 exact h2 _ _ hI
theorem goB_app {f:Bw→Nat→Option Bw}:∀ (l:List Nat) (i:Nat) (s:Bw),goB f (l++[i]) s=(goB f l s).bind fun s'=>f s' i
 | [],i,s=>by
   show (f s i).bind (goB f [])=f s i
   cases f s i<;>rfl
 | j::l,i,s=>by
   show (f s j).bind (goB f (l++[i]))=((f s j).bind (goB f l)).bind _
   cases f s j with
   | none=>rfl
   | some s'=>exact goB_app l i s'
theorem len_le {P:List Nat} {n:Nat} (hn:P.Nodup) (h:∀ i∈P,i < n):P.length≤n:=by
 have:=List.Nodup.length_le_of_subset hn (l₂:=List.range n) fun i hi=>List.mem_range.2 (h i hi)
 simpa using this
theorem flat_ge:∀ (N:List (List Nat)),(∀ B∈N,B≠[])→N.length≤N.flatten.length
 | [],_=>Nat.le_refl _
 | B::N,h=>by
   have h1:=flat_ge N fun B hB=>h B (List.mem_cons_of_mem _ hB)
   have h2:=List.length_pos_iff.2 (h B (by simp))
   simp only [List.flatten_cons,List.length_append,List.length_cons]
   omega
theorem BLp.sz {g:Gr} {s0 s:Bw} {v by_:Int} {Q:List Nat} {D:List Int} {T:List Nat} {N:List (List Nat)} (h:BLp g s0 v by_ Q s D T N):T.length≤g.es.length∧N.length≤g.es.length:=by
 have hl:∀ i∈T++N.flatten,i < g.es.length:=fun i hi=>((h.pl i).1 hi).1
 have h1:=len_le h.pn hl
 have h2:=flat_ge N fun B hB=>(h.good B hB).ne
 rw [List.length_append] at h1
 omega
def SzB (g:Gr) (s:Bw):Prop:=s.stk.length≤s.vis.length * (g.es.length+1)∧s.out.length≤s.vis.length * (g.es.length+1)
theorem SzB.child {g:Gr} {s0 s:Bw} {v by_:Int} {Q:List Nat} {D:List Int} {T:List Nat} {N:List (List Nat)} (h0:SzB g s0) (h:BLp g s0 v by_ Q s D T N):s.stk.length+1≤s.vis.length * (g.es.length+1)∧s.out.length≤s.vis.length * (g.es.length+1):=by
 obtain ⟨h1,h2⟩:=h.sz
 have h3:(s0.vis.length+1) * (g.es.length+1)≤s.vis.length * (g.es.length+1):=Nat.mul_le_mul_right _ (by rw [h.vis,List.length_append,List.length_cons];omega)
 rw [Nat.add_mul,Nat.one_mul] at h3
 have e1:s.stk.length=s0.stk.length+T.length:=by rw [h.stk,List.length_append]
 have e2:s.out.length=s0.out.length+N.length:=by rw [h.out,List.length_append]
 obtain ⟨k1,k2⟩:=h0
 omega
theorem sz_bound {g:Gr} {s:Bw} (hv:g.vs.length≤100) (he:g.es.length≤10) (hnd:s.vis.Nodup) (hs:∀ w∈s.vis,w∈g.vs):s.vis.length≤100∧s.vis.length * (g.es.length+1)≤20100:=by
 have h1:s.vis.length≤g.vs.length:=List.Nodup.length_le_of_subset hnd hs
 exact ⟨by omega,by have:=Nat.mul_le_mul (show s.vis.length≤100 by omega) (show g.es.length+1≤201 by omega);omega⟩
theorem BwAt.keeps {g:Gr} {B W a nb lw:Nat} {tk:Int→Nat} {s:Bw} {st st':St} (h:BwAt g B W a nb lw tk s st) (hk:Keeps st st'):BwAt g B W a nb lw tk s st':=by
 obtain ⟨⟨tS,tB,CS,ea,hW,⟨hA,hAm⟩,hN,hL,⟨hS,hSt⟩,hBk,hn,⟨b1,b2,b3,b4⟩⟩,hc,d1,d2,d3,d4⟩:=h
 have hx:=hk.next
 exact ⟨⟨tS,tB,CS,ea,(hk.H W d1).trans hW,⟨(hk.H a d2).trans hA,hAm⟩,(hk.H nb d3).trans hN,(hk.H lw d4).trans hL,⟨(hk.H tS b3).trans hS,hSt⟩,(hk.H tB b4).trans hBk,hn,b1,b2,by omega,by omega⟩,hc,by omega,by omega,by omega,by omega⟩
theorem bw_push {g:Gr} {B W a nb lw:Nat} {tk:Int→Nat} {s:Bw} {S:St} {tS tB:Nat} {CS:List LV} {ea:List (List Int×LV)} (i0:Nat)
 (hW:S.H W=.box 119 6 [.sl 0 g.es.length (eds g.es),.mp a,.mp nb,.mp lw,.ms tS 0 s.stk.length,.ms tB 0 s.out.length])
 (hA:S.H a=.map false [.u32] ea) (hAm:∀ v,mget ea [v]=if atP g.es v=[] then none else some (.sl (tk v) (atP g.es v).length (isN (atP g.es v))))
 (hN:S.H nb=.map false [.u32] (nbF 0 s.vis)) (hL:S.H lw=.map false [.u32] (lwF s.vis s.low)) (hS:S.H tS=.box 3 1 CS) (hBk:S.H tB=.box 33 1 (bkL g.es s.out))
 (hn:a≠nb∧a≠lw∧nb≠lw) (hb:B≤tS∧B≤tB∧tS < S.next∧tB < S.next) (hc:B≤W∧B≤a∧B≤nb∧B≤lw) (hd:W < S.next∧a < S.next∧nb < S.next∧lw < S.next) (o:LObj):
 BwAt g B W a nb lw tk (pushW s i0) ((((S.new o).set tS .dead).new (.box 3 1 (isN s.stk++[i (i0:Int)]))).set W (.box 119 6 [.sl 0 g.es.length (eds g.es),.mp a,.mp nb,.mp lw,.ms (S.next+1) 0 (s.stk.length+1),.ms tB 0 s.out.length]))∧
 KbB B S ((((S.new o).set tS .dead).new (.box 3 1 (isN s.stk++[i (i0:Int)]))).set W (.box 119 6 [.sl 0 g.es.length (eds g.es),.mp a,.mp nb,.mp lw,.ms (S.next+1) 0 (s.stk.length+1),.ms tB 0 s.out.length])):=by
 obtain ⟨b1,b2,b3,b4⟩:=hb
 obtain ⟨c1,c2,c3,c4⟩:=hc
 obtain ⟨d1,d2,d3,d4⟩:=hd
 have m1:¬ a=W:=box_neB hA hW (by simp)
 have m2:¬ nb=W:=box_neB hN hW (by simp)
 have m3:¬ lw=W:=box_neB hL hW (by simp)
 have m4:¬ tB=W:=box_neB hBk hW (by simp)
 have m5:¬ a=tS:=box_neB hA hS (by simp)
 have m6:¬ nb=tS:=box_neB hN hS (by simp)
 have m7:¬ lw=tS:=box_neB hL hS (by simp)
 have m8:¬ tB=tS:=box_neB hBk hS (by simp)
 have e1:¬ a=S.next:=by omega
 have e2:¬ nb=S.next:=by omega
 have e3:¬ lw=S.next:=by omega
 have e4:¬ tB=S.next:=by omega
 have e5:¬ a=S.next+1:=by omega
 have e6:¬ nb=S.next+1:=by omega
 have e7:¬ lw=S.next+1:=by omega
 have e8:¬ tB=S.next+1:=by omega
 have e9:¬ S.next+1=W:=by omega
 have hpl:(pushW s i0).stk.length=s.stk.length+1:=by simp [pushW]
 have hpn:isN (pushW s i0).stk=isN s.stk++[i (i0:Int)]:=by simp [pushW,isN]
 refine ⟨⟨⟨S.next+1,tB,isN s.stk++[i (i0:Int)],ea,by rw [hpl];simp [pushW],⟨by simp [m1,m5,e1,e5,hA],hAm⟩,by simp [m2,m6,e2,e6,hN,pushW],by simp [m3,m7,e3,e7,hL,pushW],⟨by simp [e9],?_⟩,by simp [m4,m8,e4,e8,hBk,pushW],hn,by omega,b2,by simp,by simp;omega⟩,⟨c1,c2,c3,c4⟩,by simp;omega,by simp;omega,by simp;omega,by simp;omega⟩,?_⟩
 ·rw [hpl,← hpn,List.take_of_length_le]
  rw [isN_length,hpl];exact Nat.le_refl _
 ·exact (((((KbB.refl B S).new (by omega) _).set b1 _).new (by simp;omega) _).set c1 _)
theorem awp_weakBk {P:Program} {N:Nat} {Q:AQ} {c:Code} {fr:Frm} {st:St} (I:Frm→St→Prop) (h0:I fr st) (h:∀ fr st,I fr st→AWp P N c Q fr st):AWp P N c Q fr st:=h _ _ h0
theorem bw_low {g:Gr} {B W a nb lw:Nat} {tk:Int→Nat} {s:Bw} {T:St} (h:BwAt g B W a nb lw tk s T) (v x:Int):BwAt g B W a nb lw tk (setW s v x) (T.set lw (.map false [.u32] (lwF s.vis (s.low.set (s.vis.idxOf v) x)))):=by
 obtain ⟨⟨tS,tB,CS,ea,hW,⟨hA,hAm⟩,hN,hL,⟨hS,hSt⟩,hBk,⟨n1,n2,n3⟩,⟨b1,b2,b3,b4⟩⟩,hc,d1,d2,d3,d4⟩:=h
 have m1:¬ W=lw:=box_neB hW hL (by simp)
 have m2:¬ tS=lw:=box_neB hS hL (by simp)
 have m3:¬ tB=lw:=box_neB hBk hL (by simp)
 have m4:¬ a=lw:=n2
 have m5:¬ nb=lw:=n3
 exact ⟨⟨tS,tB,CS,ea,by simp [m1,hW,setW],⟨by simp [m4,hA],hAm⟩,by simp [m5,hN,setW],by simp [setW],⟨by simp [m2,hS],hSt⟩,by simp [m3,hBk,setW],⟨n1,n2,n3⟩,b1,b2,by simpa using b3,by simpa using b4⟩,hc,by simpa using d1,by simpa using d2,by simpa using d3,by simpa using d4⟩
def VsI (g:Gr) (tk:Int→Nat) (hgo:Nat→Bw→Bw→Prop) (B W a nb lw:Nat) (s0:Bw) (v by_:Int) (st:St) (j:Nat) (fr:Frm) (st2:St):Prop:=
 fr 0=.pt W 0∧fr 1=u v∧fr 2=i by_∧fr 6=i ((s0.vis.length:Int)+1)∧fr 35=.sl (tk v) (atP g.es v).length (isN (atP g.es v))∧
 ∃ s D T N,hgo j s0 s∧BLp g s0 v by_ ((atP g.es v).take j) s D T N∧(∀ w∈s.vis,w∈g.vs)∧BwAt g B W a nb lw tk s st2∧KbB B st st2
set_option maxHeartbeats 8000000 in
theorem visitS (g:Gr) (hg:GoodE g) (B W a nb lw:Nat) (tk:Int→Nat) (hv:g.vs.length≤100) (he:g.es.length≤10):∀ (n:Nat) (A:Int→Prop) (s:Bw) (v by_:Int) (st:St),BPre g A s v by_→v∈g.vs→(∀ w∈s.vis,w∈g.vs)→g.vs.length≤n+s.vis.length→SzB g s→BwAt g B W a nb lw tk s st→
 ACalls Tryz.prog 85 [.pt W 0,u v,i by_] st fun r st'=>∃ s1,visF g.es n v by_ s=some s1∧BwAt g B W a nb lw tk s1 st'∧KbB B st st':=by
 intro n
 induction n with
 | zero=>
   intro A s v by_ st h hvv hs hn _ _
   obtain ⟨s1,C,T,N,e,_⟩:=vis_ok hg 0 A s v by_ h hvv hs hn
   cases e
 | succ n ih=>
   intro A s0 v by_ st h0 hvv hs hn hsz hbw
   obtain ⟨hvl,hsb⟩:=sz_bound hv he h0.nd hs
   obtain ⟨⟨tS,tB,CS,ea,hW,⟨hA,hAm⟩,hN,hL,⟨hS,hSt⟩,hBk,⟨n1,n2,n3⟩,⟨b1,b2,b3,b4⟩⟩,⟨c1,c2,c3,c4⟩,d1,d2,d3,d4⟩:=hbw
   have m4:¬ W=a:=box_neB hW hA (by simp)
   have m5:¬ W=nb:=box_neB hW hN (by simp)
   have m6:¬ W=lw:=box_neB hW hL (by simp)
   have hnl:=nbF_length s0.vis 0
   have hms:=mset_nb h0.new
   have hml:=mset_lw_new s0.vis s0.low v ((s0.vis.length:Int)+1) h0.ln h0.new
   have hav:=hAm v
   have w1:IntKind.i64.wrap ((s0.vis.length:Int)+1)=(s0.vis.length:Int)+1:=wrap_i64 _ (by omega) (by omega)
   have r1:¬ a=nb:=n1
   have r2:¬ a=lw:=n2
   have r3:¬ nb=lw:=n3
   have r4:¬ lw=nb:=fun e=>n3 e.symm
   refine qO tabOk Tryz.func85 rfl rfl Tryz.ntmps85 (rs:=[]) rfl (by simp) ?_
   have hbs:=h0.start
   have hstS:(newW s0 v).stk=s0.stk:=rfl
   have hb0:BwAt g B W a nb lw tk (newW s0 v) ((st.set nb (.map false [.u32] (nbF 0 (s0.vis++[v])))).set lw (.map false [.u32] (lwF (s0.vis++[v]) (s0.low++[(s0.vis.length:Int)+1])))):=by
    have q1:¬ W=nb:=m5
    have q2:¬ tS=nb:=box_neB hS hN (by simp)
    have q3:¬ tS=lw:=box_neB hS hL (by simp)
    have q4:¬ tB=nb:=box_neB hBk hN (by simp)
    have q5:¬ tB=lw:=box_neB hBk hL (by simp)
    exact ⟨⟨tS,tB,CS,ea,by simp [m5,m6,hW,newW],⟨by simp [r1,r2,hA],hAm⟩,by simp [r3,newW],by simp [newW],⟨by simp [q2,q3,hS],hSt⟩,by simp [q4,q5,hBk,newW],⟨n1,n2,n3⟩,b1,b2,by simpa using b3,by simpa using b4⟩,⟨c1,c2,c3,c4⟩,by simpa using d1,by simpa using d2,by simpa using d3,by simpa using d4⟩
   have hk0:KbB B st ((st.set nb (.map false [.u32] (nbF 0 (s0.vis++[v])))).set lw (.map false [.u32] (lwF (s0.vis++[v]) (s0.low++[(s0.vis.length:Int)+1])))):=((KbB.refl B st).set c3 _).set c4 _
   have hv0:∀ w∈(newW s0 v).vis,w∈g.vs:=fun w hw=>by
    have hw:w∈s0.vis++[v]:=hw
    rcases List.mem_append.1 hw with k | k
    ·exact hs w k
    ·rw [List.mem_singleton] at k;rw [k];exact hvv
   by_cases hat:atP g.es v=[]
   ·rw [if_pos hat] at hav
    have hvis:visF g.es (n+1) v by_ s0=some (newW s0 v):=by unfold visF;rw [hat];rfl
    (repeat' (first | refine qS ?_ | refine qB ?_ | (refine w_e [] ?_;intro J hJ;simp only [];simp [hW,hN,hL,hA,m4,m5,m6,hnl,hms,hml,hav,w1,r1,r2,r3,r4];(refine hJ _ _ ?_;clear hJ J;simp only [ak,reduceIte]))))
    refine awp_range 37 36 38 137 (0) (fun j fr st2=>st2=(st.set nb (.map false [.u32] (nbF 0 (s0.vis++[v])))).set lw (.map false [.u32] (lwF (s0.vis++[v]) (s0.low++[(s0.vis.length:Int)+1])))) ?_ ?_ ?_
    ·rfl
    ·intro j fr s hlt;omega
    ·rintro fr s hs2
     rw [hs2]
     skip
     exact ⟨trivial,_,hvis,hb0,hk0⟩
   ·rw [if_neg hat] at hav
    have hnd:(atP g.es v).Nodup:=List.Pairwise.filter _ List.nodup_range
    have hatl:(atP g.es v).length≤g.es.length:=len_le hnd fun i hi=>(atP_mem.1 hi).1
    (repeat' (first | refine qS ?_ | refine qB ?_ | (refine w_e [] ?_;intro J hJ;simp only [];simp [hW,hN,hL,hA,m4,m5,m6,hnl,hms,hml,hav,w1,r1,r2,r3,r4];(refine hJ _ _ ?_;clear hJ J;simp only [ak,reduceIte]))))
    clear hW hN hL hA hAm hS hSt hBk hnl hms hml hav m4 m5 m6 r1 r2 r3 r4 n1 n2 n3 b1 b2 b3 b4 d1 d2 d3 d4
    refine awp_range 37 36 38 137 ((atP g.es v).length) (fun j fr st2=>VsI g tk (fun j s' s=>goB (stepB (visF g.es n) g.es v by_ ((s0.vis.length:Int)+1)) ((atP g.es v).take j) (newW s' v)=some s) B W a nb lw s0 v by_ st j fr st2) ?_ ?_ ?_
    ·exact ⟨by simp,by simp,by simp,by simp,by simp,newW s0 v,[],[],[],rfl,hbs,hv0,hb0,hk0⟩
    ·rintro j fr s1 hlt ⟨f0,f1,f2,f6,f35,s,D,T,N,hgo,hbl,hsv,hbw,hkb⟩ fi fn JO hJO
     have hgt:(atP g.es v).getD j 0=(atP g.es v)[j]:=by rw [List.getD_eq_getElem?_getD,List.getElem?_eq_getElem hlt];rfl
     have htk:(atP g.es v).take (j+1)=(atP g.es v).take j++[(atP g.es v).getD j 0]:=by rw [List.take_succ_eq_append_getElem hlt,hgt]
     have hi:(atP g.es v).getD j 0∈atP g.es v:=by rw [hgt];exact List.getElem_mem _
     have hiQ:(atP g.es v).getD j 0∉(atP g.es v).take j:=fun k=>by
      have h1:=hnd
      rw [← List.take_append_drop (j+1) (atP g.es v),htk,List.append_assoc,List.nodup_append] at h1
      exact h1.2.2 _ k _ (by simp) rfl
     have hd:=isN_drop (atP g.es v) j hlt
     generalize (atP g.es v).getD j 0=i0 at *
     obtain ⟨hil,hie⟩:=atP_mem.1 hi
     have next:∀ s2,stepB (visF g.es n) g.es v by_ ((s0.vis.length:Int)+1) s i0=some s2→goB (stepB (visF g.es n) g.es v by_ ((s0.vis.length:Int)+1)) ((atP g.es v).take (j+1)) (newW s0 v)=some s2:=fun s2 e=>by rw [htk,goB_app,hgo];exact e
     by_cases hb:(i0:Int)=by_
     ·have hbb:((i0:Int)==by_)=true:=by simpa using hb
      (repeat' (first | refine qS ?_ | (refine qX ?_;simp only [ak,reduceIte]) | (refine qC ?_;simp [f0,f2,f35,fi,fn,hd,hlt,hbb]) | (refine w_e [] ?_;intro J hJ;simp only [];simp [f0,f2,f35,fi,fn,hd,hlt,hbb];(refine hJ _ _ ?_;clear hJ J;simp only [ak,reduceIte]))))
      exact hJO _ _ (by simp [fi]) (by simp [fn]) ⟨by simp [f0],by simp [f1],by simp [f2],by simp [f6],by simp [f35],s,D,T,N,next s (by unfold stepB;rw [if_pos hb]),by rw [htk];exact hbl.same hg h0 hi hb,hsv,hbw,hkb⟩
     have hbb:((i0:Int)==by_)=false:=by simpa using hb
     have hbw':=hbw
     obtain ⟨⟨tS,tB,CS,ea,hW,⟨hA,hAm⟩,hN,hL,⟨hS,hSt⟩,hBk,⟨n1,n2,n3⟩,⟨b1,b2,b3,b4⟩⟩,-,d1,d2,d3,d4⟩:=hbw'
     have hde:=eds_drop g.es i0 hil
     have hel:=eds_length g.es
     have hi3:i0 * 3 < g.es.length * 3:=by omega
     have y1:¬ W=s1.next:=by omega
     have y2:¬ nb=s1.next:=by omega
     have y3:¬ lw=s1.next:=by omega
     have y4:¬ tS=s1.next:=by omega
     have y5:¬ a=s1.next:=by omega
     have y6:¬ tB=s1.next:=by omega
     obtain ⟨w,hw⟩:∃ w,w=oth (eAt g.es i0) v:=⟨_,rfl⟩
     have hoth:w=if (g.es.getD i0 ed0).a=v then (g.es.getD i0 ed0).b else (g.es.getD i0 ed0).a:=hw
     -- to the edge
     (repeat (refine qS ?_));(refine w_e [] ?_;intro J hJ;simp only [];simp [f35,fi,fn,hd,hlt];(refine hJ _ _ ?_;clear hJ J;simp only [ak,reduceIte]))
     (repeat (refine qS ?_));(refine w_e [] ?_;intro J hJ;simp only [];simp [f2];(refine hJ _ _ ?_;clear hJ J;simp only [ak,reduceIte]))
     (refine qC ?_;simp [hbb])
     refine qK ?_;simp only [ak,reduceIte]
     (repeat (refine qS ?_));(refine w_e [] ?_;intro J hJ;simp only [];simp [f0,hW,hde,hil,hi3,hel];(refine hJ _ _ ?_;clear hJ J;simp only [ak,reduceIte]))
     (repeat (refine qS ?_));(refine w_e [] ?_;intro J hJ;simp only [];simp [];(refine hJ _ _ ?_;clear hJ J;simp only [ak,reduceIte]))
     refine qS ?_
     refine awp_cutBk (fun f T=>f 0=.pt W 0∧f 1=u v∧f 2=i by_∧f 6=i ((s0.vis.length:Int)+1)∧f 35=.sl (tk v) (atP g.es v).length (isN (atP g.es v))∧f 36=i (atP g.es v).length∧f 37=i j∧f 8=i i0∧f 10=u w∧∃ o,T=s1.new o) ?_ ?_
     ·have hxg:g.es.getD i0 ed0=g.es[i0]:=getE_lt _ _ hil
      rw [hxg] at hoth
      by_cases hxa:g.es[i0].a=v
      ·have hxb:(g.es[i0].a==v)=true:=by simpa using hxa
       rw [if_pos hxa] at hoth
       (repeat' (first | refine qS ?_ | (refine qC ?_;simp [f0,f1,hxb]) | (refine w_e [] ?_;intro J hJ;simp only [];simp [f0,f1,hxb];(refine hJ _ _ ?_;clear hJ J;simp only [ak,reduceIte]))))
       exact ⟨trivial,by simp [f0],by simp [f1],by simp [f2],by simp [f6],by simp [f35],by simp [fn],by simp [fi],by simp,by rw [hoth];simp,_,rfl⟩
      ·have hxb:(g.es[i0].a==v)=false:=by simpa using hxa
       rw [if_neg hxa] at hoth
       (repeat' (first | refine qS ?_ | (refine qK ?_;simp only [ak,reduceIte]) | (refine qC ?_;simp [f0,f1,hxb]) | (refine w_e [] ?_;intro J hJ;simp only [];simp [f0,f1,hxb];(refine hJ _ _ ?_;clear hJ J;simp only [ak,reduceIte]))))
       exact ⟨trivial,by simp [f0],by simp [f1],by simp [f2],by simp [f6],by simp [f35],by simp [fn],by simp [fi],by simp,by rw [hoth];simp,_,rfl⟩
     clear f0 f1 f2 f6 f35 fi fn hd hde hoth fr
     rintro fr T ⟨f0,f1,f2,f6,f35,f36,f37,f8,f10,o,hT⟩
     rw [hT];clear hT T
     subst hw
     have hW':=(show (s1.new o).H W=s1.H W by rw [new_H,if_neg y1]).trans hW
     have hN':=(show (s1.new o).H nb=s1.H nb by rw [new_H,if_neg y2]).trans hN
     have hL':=(show (s1.new o).H lw=s1.H lw by rw [new_H,if_neg y3]).trans hL
     have hS':=(show (s1.new o).H tS=s1.H tS by rw [new_H,if_neg y4]).trans hS
     have hA':=(show (s1.new o).H a=s1.H a by rw [new_H,if_neg y5]).trans hA
     have hB':=(show (s1.new o).H tB=s1.H tB by rw [new_H,if_neg y6]).trans hBk
     have hbT:BwAt g B W a nb lw tk s (s1.new o):=hbw.keeps (Keeps.new _ _)
     have hkT:KbB B st (s1.new o):=hkb.new (by omega) o
     have hTn:(s1.new o).next=s1.next+1:=new_next _ _
     generalize s1.new o=T1 at *
     obtain ⟨szp,szo⟩:=hsz.child hbl
     obtain ⟨vl,sb⟩:=sz_bound hv he hbl.nd hsv
     have hm:=mget_nb s.vis (oth (eAt g.es i0) v)
     have m5:¬ W=nb:=box_neB hW hN (by simp)
     have m6:¬ W=lw:=box_neB hW hL (by simp)
     have m1:¬ W=tS:=box_neB hW hS (by simp)
     have hCS:s.stk.length≤CS.length:=by
      have:=congrArg List.length hSt
      rw [List.length_take,isN_length] at this
      omega
     have t1:¬ W=T1.next:=by omega
     have t2:¬ W=T1.next+1:=by omega
     have t3:¬ tS=T1.next:=by omega
     obtain ⟨hpb,hpk⟩:=bw_push i0 hW' hA' hAm hN' hL' hS' hB' ⟨n1,n2,n3⟩ ⟨b1,b2,by omega,by omega⟩ ⟨c1,c2,c3,c4⟩ ⟨by omega,by omega,by omega,by omega⟩ (.own 3 1 1)
     by_cases hin:oth (eAt g.es i0) v∈s.vis
     ·rw [if_pos hin] at hm
      have hn1:1≤nmW s.vis (oth (eAt g.es i0) v):=by unfold nmW;rw [if_pos hin];omega
      by_cases hnm:nmW s.vis (oth (eAt g.es i0) v) < (s0.vis.length:Int)+1
      ·have hback:=hbl.back hg h0 hi hiQ hb hin hnm
       have hst:stepB (visF g.es n) g.es v by_ ((s0.vis.length:Int)+1) s i0=some (setW (pushW s i0) v (min (lwW s v) (nmW s.vis (oth (eAt g.es i0) v)))):=by unfold stepB;rw [if_neg hb,if_pos hin,if_pos hnm]
       generalize oth (eAt g.es i0) v=w at *
       generalize nmW s.vis w=z at *
       have hzb:(z==0)=false:=by rw [beq_eq_false_iff_ne];omega
       have hz0:¬ z=0:=by omega
       (repeat' (first | refine qS ?_ | refine qB ?_ | (refine qC ?_;simp [f0,f1,f6,f8,f10,hW',hN',hm,hzb,hz0,hnm,hS',hSt,hCS,m1,t1,t2,t3]) | (refine w_e [] ?_;intro J hJ;simp only [];simp [f0,f1,f6,f8,f10,hW',hN',hm,hzb,hz0,hnm,hS',hSt,hCS,m1,t1,t2,t3];(repeat refine ca ?_);(refine hJ _ _ ?_;clear hJ J;simp only [ak,reduceIte]))))
       refine awp_weakBk (fun f T2=>f 0=.pt W 0∧f 1=u v∧f 2=i by_∧f 6=i ((s0.vis.length:Int)+1)∧f 35=.sl (tk v) (atP g.es v).length (isN (atP g.es v))∧f 36=i (atP g.es v).length∧f 37=i j∧f 11=i z∧BwAt g B W a nb lw tk (pushW s i0) T2∧KbB B T1 T2) ⟨by simp [f0],by simp [f1],by simp [f2],by simp [f6],by simp [f35],by simp [f36],by simp [f37],by simp,hpb,hpk⟩ ?_
       clear f0 f1 f2 f6 f35 f36 f37 f8 f10 hpb hpk fr
       rintro fr T2 ⟨f0,f1,f2,f6,f35,f36,f37,f11,hp2,hk2⟩
       have hlow:=bw_low hp2 v (min (lwW s v) z)
       have hml:=mget_lw s.vis s.low v hbl.ln (hbl.v_in hg h0)
       have hmo:=mset_lw_old s.vis s.low v (min (lwW s v) z) hbl.ln (hbl.v_in hg h0)
       obtain ⟨⟨tS2,tB2,CS2,ea2,jW,-,-,jL,-,-,-,-⟩,-,-⟩:=hp2
       have jm6:¬ W=lw:=box_neB jW jL (by simp)
       have jL:T2.H lw=.map false [.u32] (lwF s.vis s.low):=jL
       have hml:mget (lwF s.vis s.low) [v]=some (i (lwW s v)):=hml
       (refine w_s [] [W,lw] [(0,true),(1,true),(2,true),(3,true),(4,true),(5,true),(6,true),(7,true),(8,true),(9,true),(10,true),(11,true),(12,true),(13,false)] ?_;intro J hJ;simp [f0,f1,f11,jW,jL,hml,hmo];(refine hJ _ _ ?_;clear hJ J;simp only [ak,reduceIte]))
       have hmin:(if z < lwW s v then z else lwW s v)=min (lwW s v) z:=by split<;>omega
       rw [hmin,show mset (lwF s.vis s.low) [v] (LV.atom (Value.int IntKind.i64 (min (lwW s v) z)))=_ from hmo]
       exact hJO _ _ (by simp [f37]) (by simp [f36]) ⟨by simp [f0],by simp [f1],by simp [f2],by simp [f6],by simp [f35],_,D,T++[i0],N,next _ hst,by rw [htk];exact hback,hsv,hlow,(hkT.trans hk2).set c4 _⟩
      ·have hskip:=hbl.skip hg h0 hi hin hnm
       have hst:stepB (visF g.es n) g.es v by_ ((s0.vis.length:Int)+1) s i0=some s:=by unfold stepB;rw [if_neg hb,if_pos hin,if_neg hnm]
       generalize oth (eAt g.es i0) v=w at *
       generalize nmW s.vis w=z at *
       have hzb:(z==0)=false:=by rw [beq_eq_false_iff_ne];omega
       have hz0:¬ z=0:=by omega
       (repeat' (first | refine qS ?_ | refine qB ?_ | (refine qK ?_;simp only [ak,reduceIte]) | (refine qC ?_;simp [f0,f1,f6,f10,hW',hN',hm,hzb,hz0,hnm]) | (refine w_e [] ?_;intro J hJ;simp only [];simp [f0,f1,f6,f10,hW',hN',hm,hzb,hz0,hnm];(refine hJ _ _ ?_;clear hJ J;simp only [ak,reduceIte]))))
       exact hJO _ _ (by simp [f37]) (by simp [f36]) ⟨by simp [f0],by simp [f1],by simp [f2],by simp [f6],by simp [f35],s,D,T,N,next s hst,by rw [htk];exact hskip,hsv,hbT,hkT⟩
     ·rw [if_neg hin] at hm
      have hpre:=hbl.pre hg h0 hi hin
      have hch:=fun s1 C T' N' hp=>hbl.child hg h0 hi hiQ hb hin (s1:=s1) (C:=C) (T':=T') (N':=N') hp
      have hwv:oth (eAt g.es i0) v∈g.vs:=hg.nbr (oth_nbr hi)
      have hwne:=eAt_ne hg hi
      have hst:stepB (visF g.es n) g.es v by_ ((s0.vis.length:Int)+1) s i0=(visF g.es n (oth (eAt g.es i0) v) i0 (pushW s i0)).bind (lowB g.es.length v ((s0.vis.length:Int)+1) i0 (oth (eAt g.es i0) v)):=by unfold stepB;rw [if_neg hb,if_neg hin]
      generalize oth (eAt g.es i0) v=w at *
      (repeat' (first | refine qS ?_ | refine qB ?_ | (refine qC ?_;simp [f0,f1,f6,f8,f10,hW',hN',hm,hS',hSt,hCS,m1,t1,t2,t3]) | (refine w_e [] ?_;intro J hJ;simp only [];simp [f0,f1,f6,f8,f10,hW',hN',hm,hS',hSt,hCS,m1,t1,t2,t3];(repeat refine ca ?_);(try (refine hJ _ _ ?_;clear hJ J;simp only [ak,reduceIte])))))
      have hlen:s.vis.length=s0.vis.length+1+D.length:=by rw [hbl.vis,List.length_append,List.length_cons];omega
      refine qE (ih _ (pushW s i0) w i0 _ hpre hwv hsv (by show g.vs.length≤n+s.vis.length;omega) ⟨by simpa [pushW] using szp,szo⟩ hpb) (by simp) ?_;rintro r T2 ⟨s2,hvis,hb2,hk2⟩
      obtain ⟨s2',C,T',N',hvis',hp,hC⟩:=vis_ok hg n _ (pushW s i0) w i0 hpre hwv hsv (by show g.vs.length≤n+s.vis.length;omega)
      obtain rfl:s2=s2':=by rw [hvis] at hvis';exact Option.some.inj hvis'
      clear hvis'
      obtain ⟨s3,D2,T3,N2,hlo,hbl3⟩:=hch s2 C T' N' hp
      have hst3:stepB (visF g.es n) g.es v by_ ((s0.vis.length:Int)+1) s i0=some s3:=by rw [hst,hvis];exact hlo
      have hkT2:KbB B st T2:=(hkT.trans hpk).trans hk2
      have hvs:v∈s.vis:=hbl.v_in hg h0
      have hvs2:v∈s2.vis:=by rw [hp.vis];exact List.mem_append_left _ hvs
      have hws2:w∈s2.vis:=by rw [hp.vis];exact List.mem_append_right _ hp.hd
      have hs2v:∀ x∈s2.vis,x∈g.vs:=fun x hx=>by
       rw [hp.vis,List.mem_append] at hx
       exact hx.elim (hsv x) (hC x)
      have hmv:mget (lwF s2.vis s2.low) [v]=some (i (lwW s2 v)):=mget_lw s2.vis s2.low v hp.ln hvs2
      have hmw:mget (lwF s2.vis s2.low) [w]=some (i (lwW s2 w)):=mget_lw s2.vis s2.low w hp.ln hws2
      have hmo:=mset_lw_old s2.vis s2.low v (min (lwW s2 v) (lwW s2 w)) hp.ln hvs2
      have hlow:=bw_low hb2 v (min (lwW s2 v) (lwW s2 w))
      have hmw3:mget (lwF s2.vis (s2.low.set (s2.vis.idxOf v) (min (lwW s2 v) (lwW s2 w)))) [w]=some (i (lwW s2 w)):=by
       have h1:=mget_lw s2.vis (s2.low.set (s2.vis.idxOf v) (min (lwW s2 v) (lwW s2 w))) w (by rw [List.length_set];exact hp.ln) hws2
       have h2:=lwW_set (x:=min (lwW s2 v) (lwW s2 w)) hp.ln hvs2 hws2
       rw [if_neg hwne] at h2
       rw [h1]
       exact congrArg (fun y=>some (i y)) h2
      obtain ⟨⟨tS2,tB2,CS2,ea2,jW,-,-,jL,-,-,-,-⟩,-,-⟩:=hb2
      have jm6:¬ W=lw:=box_neB jW jL (by simp)
      have hmin:(if lwW s2 w < lwW s2 v then lwW s2 w else lwW s2 v)=min (lwW s2 v) (lwW s2 w):=by split<;>omega
      (refine e_go ?_;simp [];(refine hJ _ _ ?_;clear hJ J;simp only [ak,reduceIte]))
      (repeat (refine qS ?_));(refine w_s [] [W,lw] [(0,true),(1,true),(2,true),(3,true),(4,true),(5,true),(6,true),(7,true),(8,true),(9,true),(10,true),(11,true),(12,true),(13,true),(14,true),(15,true),(16,true),(17,true),(18,false)] ?_;intro J hJ;simp [f0,f1,f10,jW,jL,hmv,hmw];(refine hJ _ _ ?_;clear hJ J;simp only [ak,reduceIte]))
      rw [hmin,show mset (lwF s2.vis s2.low) [v] (LV.atom (Value.int IntKind.i64 (min (lwW s2 v) (lwW s2 w))))=_ from hmo]
      have hW3:(T2.set lw (.map false [.u32] (lwF s2.vis (s2.low.set (s2.vis.idxOf v) (min (lwW s2 v) (lwW s2 w)))))).H W=T2.H W:=by rw [set_H,if_neg jm6]
      unfold lowB at hlo
      by_cases hc:(s0.vis.length:Int)+1≤lwW s2 w
      ·rw [if_pos hc] at hlo
       have hstk:s2.stk=s.stk++i0::T':=by rw [hp.stk];show (s.stk++[i0])++T'=_;simp
       have hiT:i0∉T':=fun k=>((hp.pl i0).1 (List.mem_append_left _ k)).2.1 rfl
       have hTn:=(List.nodup_append.1 hp.pn).1
       have hTl:∀ k∈T',k < g.es.length:=fun k hk=>((hp.pl k).1 (List.mem_append_left _ hk)).1
       have hTlen:=len_le hTn hTl
       have hNl:=flat_ge N' fun B hB=>(hp.good B hB).ne
       have hNf:=len_le (List.nodup_append.1 hp.pn).2.1 fun k hk=>((hp.pl k).1 (List.mem_append_right _ hk)).1
       have ho2:s2.out.length=s.out.length+N'.length:=by rw [hp.out,List.length_append];rfl
       have hk2l:s2.stk.length=s.stk.length+1+T'.length:=by rw [hstk,List.length_append,List.length_cons];omega
       have hlp:lastP s2.stk i0=s.stk.length:=by rw [hstk];exact lastP_app hiT
       have hdrop:s2.stk.drop (lastP s2.stk i0)=i0::T':=by rw [hlp,hstk,List.drop_left]
       have hcall:=cutS g hg.ids B W a nb lw tk (setW s2 v (min (lwW s2 v) (lwW s2 w))) i0 _ hlow (by show i0∈s2.stk;rw [hstk];simp)
        (by show ∀ k∈s2.stk.drop (lastP s2.stk i0),k < g.es.length
            rw [hdrop];intro k hk;rcases List.mem_cons.1 hk with e | e
            ·rw [e];exact hil
            ·exact hTl k e)
        (by show (s2.stk.drop (lastP s2.stk i0)).Nodup
            rw [hdrop];exact List.nodup_cons.2 ⟨hiT,hTn⟩) (by omega) (by show s2.stk.length≤60000;omega) (by show s2.out.length≤100000;omega)
       (repeat' (first | refine qS ?_ | (refine qC ?_;simp [f0,f6,f8,f10,jW,jm6,hmw3,hc]) | (refine w_e [] ?_;intro J hJ;simp only [];simp [f0,f6,f8,f10,jW,jm6,hmw3,hc];(try (refine hJ _ _ ?_;clear hJ J;simp only [ak,reduceIte])))))
       refine qE hcall (by simp) ?_;rintro r T4 ⟨s4,hcw,hb4,hk4⟩
       obtain rfl:s4=s3:=by rw [hcw] at hlo;exact Option.some.inj hlo
       have hv4:s4.vis=s2.vis:=by
        unfold cutW at hcw
        split at hcw
        ·cases hcw;rfl
        ·cases hcw
       (repeat' (refine e_go ?_;simp [];(refine hJ _ _ ?_;clear hJ J;simp only [ak,reduceIte])))
       exact hJO _ _ (by simp [f37]) (by simp [f36]) ⟨by simp [f0],by simp [f1],by simp [f2],by simp [f6],by simp [f35],_,D2,T3,N2,next _ hst3,by rw [htk];exact hbl3,fun x hx=>hs2v x (by rw [← hv4];exact hx),hb4,(hkT2.set c4 _).trans hk4⟩
      ·rw [if_neg hc] at hlo
       obtain rfl:=Option.some.inj hlo
       (repeat' (first | refine qS ?_ | (refine qK ?_;simp only [ak,reduceIte]) | (refine qC ?_;simp [f0,f6,f10,jW,jm6,hmw3,hc]) | (refine w_e [] ?_;intro J hJ;simp only [];simp [f0,f6,f10,jW,jm6,hmw3,hc];(refine hJ _ _ ?_;clear hJ J;simp only [ak,reduceIte]))))
       exact hJO _ _ (by simp [f37]) (by simp [f36]) ⟨by simp [f0],by simp [f1],by simp [f2],by simp [f6],by simp [f35],_,D2,T3,N2,next _ hst3,by rw [htk];exact hbl3,hs2v,hlow,hkT2.set c4 _⟩
    ·rintro fr s1 ⟨f0,f1,f2,f6,f35,s,D,T,N,hgo,hbl,hsv,hbw,hkb⟩
     rw [List.take_length] at hgo
     skip
     exact ⟨trivial,s,hgo,hbw,hkb⟩
end Go.Proofs.YtiiejclelbilkaaGreatDoor.Aw
