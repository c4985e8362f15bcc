/- Plain: all blocks of a graph are found. -/
import Derived.Test.YtempldclppogmaaGreatDoorJg
import Derived.Test.YtempldclppogmaaGreatDoorAwTd
import Derived.Test.YtempldclppogmaaGreatDoorAwAlt
import Derived.Test.YtempldclppogmaaGreatDoorAwZ
import Derived.Test.YtempldclppogmaaGreatDoorAwRg
set_option linter.unusedVariables false
set_option linter.unusedSimpArgs false
namespace Go.Proofs.YtempldclppogmaaGreatDoor.Aw
open Go Go.RowKit Go.Proofs.YtempldclppogmaaGreatDoor.Pl Go.Proofs.YtempldclppogmaaGreatDoor.Eu
section
variable {g:Gr} (hg:GoodE g)
include hg
theorem aFN(n:Nat)(ih:∀(A:Int→Prop) (s:Bw) (v by_:Int),tU g A s v by_→v∈g.vs→(∀ w∈s.vis,w∈g.vs)→g.vs.length≤n+s.vis.length→∃ s1 C T N,lE g.es n v by_ s=some s1∧aFW g s v by_ s1 C T N∧∀ c∈C,c∈g.vs)
 {A:Int→Prop} {s0:Bw} {v by_:Int} (h0:tU g A s0 v by_) (hn:g.vs.length≤n+(s0.vis.length+1)):
 ∀(R Q:List Nat) (s:Bw) (D:List Int) (T:List Nat) (N:List (List Nat)),Q++R=atP g.es v→BLp g s0 v by_ Q s D T N→(∀ w∈s.vis,w∈g.vs)→
  ∃ s1 D T N,goB (eP (lE g.es n) g.es v by_ ((s0.vis.length:Int)+1)) R s=some s1∧BLp g s0 v by_ (atP g.es v) s1 D T N∧∀ w∈s1.vis,w∈g.vs
 |[],Q,s,D,T,N,hQ,h,hv=>⟨s,D,T,N,rfl,by rw[List.append_nil]at hQ;rw[← hQ];exact h,hv⟩
 |i::R,Q,s,D,T,N,hQ,h,hv=>by
  have hi:i∈atP g.es v:=by rw[← hQ];simp
  have hnd:(atP g.es v).Nodup:=List.Pairwise.filter _ List.nodup_range
  have hiQ:i∉Q:=fun k=>by rw[← hQ,List.nodup_append]at hnd;exact hnd.2.2 i k i (by simp) rfl
  have hQ2:(Q++[i])++R=atP g.es v:=by rw[← hQ];simp
  have go:∀ s2 D T N,eP (lE g.es n) g.es v by_ ((s0.vis.length:Int)+1) s i=some s2→BLp g s0 v by_ (Q++[i]) s2 D T N→(∀ w∈s2.vis,w∈g.vs)→∃ s1 D T N,goB (eP (lE g.es n) g.es v by_ ((s0.vis.length:Int)+1)) (i::R) s=some s1∧BLp g s0 v by_ (atP g.es v) s1 D T N∧∀ w∈s1.vis,w∈g.vs:=fun s2 D T N e h2 hv2=>by
   obtain⟨s1,D1,T1,N1,k1,k2,k3⟩:=aFN n ih h0 hn R (Q++[i]) s2 D T N hQ2 h2 hv2
   exact⟨s1,D1,T1,N1,by rw[goB,e];exact k1,k2,k3⟩
  by_cases hb:(i:Int)=by_
  ·exact go s D T N (by unfold eP;rw[if_pos hb]) (h.same hg h0 hi hb) hv
  by_cases hin:oth (eAt g.es i) v∈s.vis
  ·by_cases hnm:nmW s.vis (oth (eAt g.es i) v)<(s0.vis.length:Int)+1
   ·exact go _ D _ N (by unfold eP;rw[if_neg hb,if_pos hin,if_pos hnm]) (h.back hg h0 hi hiQ hb hin hnm) hv
   ·exact go s D T N (by unfold eP;rw[if_neg hb,if_pos hin,if_neg hnm]) (h.skip hg h0 hi hin hnm) hv
  ·have hlen:s.vis.length=s0.vis.length+1+D.length:=by rw[h.vis,List.length_append,List.length_cons];omega
   have huv:oth (eAt g.es i) v∈g.vs:=hg.nbr (pQ hi)
   obtain⟨s1,C,T',N',e,hp,hC⟩:=ih _ (cZ s i) _ i (h.pre hg h0 hi hin) huv hv (by show g.vs.length≤n+s.vis.length;omega)
   obtain⟨s2,D2,T2,N2,e2,h2⟩:=h.child hg h0 hi hiQ hb hin hp
   refine go s2 D2 T2 N2 (by unfold eP;rw[if_neg hb,if_neg hin,e];exact e2) h2 fun w hw=>?_
   have e3:s2.vis=s1.vis:=by
    unfold aGh at e2
    split at e2
    ·unfold aCT at e2
     split at e2
     ·cases e2;rfl
     ·cases e2
    ·cases e2;rfl
   rw[e3,hp.vis,List.mem_append]at hw
   exact hw.elim (hv w) (hC w)
theorem aBN:∀(n:Nat) (A:Int→Prop) (s:Bw) (v by_:Int),tU g A s v by_→v∈g.vs→(∀ w∈s.vis,w∈g.vs)→g.vs.length≤n+s.vis.length→∃ s1 C T N,lE g.es n v by_ s=some s1∧aFW g s v by_ s1 C T N∧∀ c∈C,c∈g.vs
 |0,A,s,v,by_,h,hv,hs,hn=>by
  have h1:(s.vis++[v]).length≤g.vs.length:=List.Nodup.length_le_of_subset (by
   rw[List.nodup_append]
   exact⟨h.nd,by simp,fun a ha b hb=>by rintro rfl;rw[List.mem_singleton]at hb;subst hb;exact h.new ha⟩) fun w hw=>by
    rcases List.mem_append.1 hw with k|k
    ·exact hs w k
    ·rw[List.mem_singleton]at k;rw[k];exact hv
  simp at h1
  omega
 |n+1,A,s,v,by_,h,hv,hs,hn=>by
  obtain⟨s1,D,T,N,e,h1,hs1⟩:=aFN hg n (aBN n) h (by omega) (atP g.es v) [] (lK s v) [] [] [] rfl h.start fun w hw=>by
   have hw:w∈s.vis++[v]:=hw
   rcases List.mem_append.1 hw with k|k
   ·exact hs w k
   ·rw[List.mem_singleton]at k;rw[k];exact hv
  have hp:=h1.done hg h
  exact⟨s1,_,T,N,e,hp,fun c hc=>hs1 c (by rw[hp.vis];exact List.mem_append_right _ hc)⟩
structure aFa(g:Gr)(s:Bw):Prop where
 ln:s.low.length=s.vis.length
 nd:s.vis.Nodup
 sub:∀ w∈s.vis,w∈g.vs
 fin:∀ w∈s.vis,∀ i∈atP g.es w,oth (eAt g.es i) w∈s.vis
 stk:s.stk=[]
 pl:∀ i,i∈s.out.flatten↔i<g.es.length∧(eAt g.es i).a∈s.vis
 pn:s.out.flatten.Nodup
 good:∀ B∈s.out,gQ g.es B
theorem aAO(n:Nat)(hn:g.vs.length≤n):∀(l:List Int) (s:Bw),(∀ v∈l,v∈g.vs)→aFa g s→∃ s1,nW g.es n l s=some s1∧aFa g s1∧(∀ v∈s.vis,v∈s1.vis)∧∀ v∈l,v∈s1.vis
 |[],s,_,h=>⟨s,rfl,h,fun _ h=>h,fun v hv=>by cases hv⟩
 |v::l,s,hl,h=>by
  by_cases hv:v∈s.vis
  ·obtain⟨s1,e,k1,k2,k3⟩:=aAO n hn l s (fun w hw=>hl w (List.mem_cons_of_mem _ hw)) h
   refine⟨s1,by rw[nW,if_pos hv];exact e,k1,k2,fun w hw=>?_⟩
   rcases List.mem_cons.1 hw with rfl|hw
   ·exact k2 _ hv
   ·exact k3 _ hw
  ·have hpre:tU g (fun _=>False) s v (-1):=⟨h.ln,h.nd,fun a ha=>ha.elim,fun w hw _=>h.fin w hw,hv,fun a b ha=>ha.elim,.inl ⟨rfl,fun a ha=>ha⟩⟩
   obtain⟨s1,C,T,N,e,hp,hC⟩:=aBN hg n _ s v (-1) hpre (hl v (by simp)) h.sub (by omega)
   have hT:T=[]:=by
    cases T with
    |nil=>rfl
    |cons i T=>
     obtain⟨b,hb,_⟩:=hp.rel i (by simp)
     omega
   subst hT
   have hcl:∀ w∈s1.vis,∀ i∈atP g.es w,oth (eAt g.es i) w∈s1.vis:=fun w hw i hi=>by
    have hw2:=hw
    rw[hp.vis,List.mem_append]at hw2
    rcases hw2 with k|k
    ·rw[hp.vis];exact List.mem_append_left _ (h.fin w k i hi)
    ·exact hp.clo w k i hi
   have hall:aFa g s1:={
    ln:=hp.ln
    nd:=hp.nd
    sub:=fun w hw=>by
     rw[hp.vis,List.mem_append]at hw
     exact hw.elim (h.sub w) (hC w)
    fin:=hcl
    stk:=by rw[hp.stk,h.stk];rfl
    pl:=fun i=>by
     have h2:=hp.pl i
     rw[List.nil_append]at h2
     rw[hp.out,List.flatten_append,List.mem_append,h.pl i,h2,hp.vis,List.mem_append]
     constructor
     ·rintro(⟨k1,k2⟩|⟨k1,_,k2⟩)
      ·exact⟨k1,.inl k2⟩
      ·refine⟨k1,?_⟩
       rcases k2 with k2|k2
       ·exact .inr k2
       ·have:=hp.clo _ k2 i (bC.2 ⟨k1,.inr rfl⟩)
        rw[hp.vis,List.mem_append]at this
        have e1:oth (eAt g.es i) (eAt g.es i).b=(eAt g.es i).a:=by unfold oth;split<;>first|(next q=>exact q.symm)|rfl
        rwa [e1]at this
     ·rintro⟨k1,k2|k2⟩
      ·exact .inl ⟨k1,k2⟩
      ·exact .inr ⟨k1,by omega,.inl k2⟩
    pn:=by
     have h2:=hp.pn
     rw[List.nil_append]at h2
     rw[hp.out,List.flatten_append,List.nodup_append]
     refine⟨h.pn,h2,fun a ha b hb=>?_⟩
     rintro rfl
     have k1:=(h.pl a).1 ha
     have k2:=(hp.pl a).1 (by rw[List.nil_append];exact hb)
     have hd:∀ c∈C,c∉s.vis:=fun c hc k=>by
      have:=hp.nd
      rw[hp.vis,List.nodup_append]at this
      exact this.2.2 c k c hc rfl
     rcases k2.2.2 with k|k
     ·exact hd _ k k1.2
     ·have:=h.fin _ k1.2 a (bC.2 ⟨k1.1,.inl rfl⟩)
      have e1:oth (eAt g.es a) (eAt g.es a).a=(eAt g.es a).b:=by unfold oth;rw[if_pos rfl]
      rw[e1]at this
      exact hd _ k this
    good:=fun B hB=>by
     rw[hp.out,List.mem_append]at hB
     exact hB.elim (h.good B) (hp.good B) }
   obtain⟨s2,e2,k1,k2,k3⟩:=aAO n hn l s1 (fun w hw=>hl w (List.mem_cons_of_mem _ hw)) hall
   refine⟨s2,by rw[nW,if_neg hv,e];exact e2,k1,fun w hw=>k2 w (by rw[hp.vis];exact List.mem_append_left _ hw),fun w hw=>?_⟩
   rcases List.mem_cons.1 hw with rfl|hw
   ·exact k2 _ (by rw[hp.vis];exact List.mem_append_right _ hp.hd)
   ·exact k3 _ hw
theorem rG:∃ s,nW g.es g.vs.length g.vs ⟨[],[],[],[]⟩=some s∧s.stk=[]∧(∀ i,i∈s.out.flatten↔i<g.es.length)∧s.out.flatten.Nodup∧∀ B∈s.out,gQ g.es B:=by
 obtain⟨s,e,h,_,h3⟩:=aAO hg g.vs.length (Nat.le_refl _) g.vs ⟨[],[],[],[]⟩ (fun _ h=>h) ⟨rfl,.nil,fun w hw=>(by cases hw),fun w hw=>(by cases hw),rfl,fun i=>by simp,by simp,fun B hB=>(by cases hB)⟩
 refine⟨s,e,h.stk,fun i=>?_,h.pn,h.good⟩
 rw[h.pl i]
 exact and_iff_left_of_imp fun hi=>h3 _ (hg.ends _ (uT hi)).1
end
section
variable {g:Gr} (hg:GoodE g)
include hg
end
noncomputable def eZ(es:List Ed)(i:Nat):List Nat:=(List.range es.length).filter fun j=>@decide (jV es i j) (Classical.propDecidable _)
theorem aDM{es:List Ed}{i j:Nat}:j∈eZ es i↔j<es.length∧jV es i j:=by
 unfold eZ;rw[List.mem_filter,List.mem_range,@decide_eq_true_iff _ (Classical.propDecidable _)]
theorem zU(es:List Ed)(i:Nat):(eZ es i).Pairwise (· < ·):=List.Pairwise.filter _ List.pairwise_lt_range
noncomputable def iM(es:List Ed):List (List Nat):=((List.range es.length).filter fun i=>decide ((eZ es i).headD 0=i)).map (eZ es)
theorem head_mem{l:List Nat}(h:l≠[]):l.headD 0∈l:=by
 cases l with
 |nil=>exact absurd rfl h
 |cons a l=>simp
theorem gQ.cls{es:List Ed}{B:List Nat}(h:gQ es B){i:Nat}(hi:i∈B):B=eZ es i:=by
 have hn:B.Nodup:=h.rise.imp fun k=>Nat.ne_of_lt k
 have hn':(eZ es i).Nodup:=(zU es i).imp fun k=>Nat.ne_of_lt k
 have hp:B.Perm (eZ es i):=(List.perm_ext_iff_of_nodup hn hn').2 fun k=>by rw[aDM,← h.iff hi];exact⟨fun q=>⟨h.lt k q,q⟩,fun q=>q.2⟩
 exact hp.eq_of_pairwise (fun a b _ _ h1 h2=>absurd h1 (by omega)) h.rise (zU es i)
theorem wL{es:List Ed}{out B:List (List Nat)}(hall:∀ i,i∈out.flatten↔i<es.length)(hok:∀ B∈out,gQ es B)(hp:B.Perm out)(hr:B.Pairwise fun x y=>x.headD 0<y.headD 0):B=iM es:=by
 have hmem:∀ b,b∈B↔b∈iM es:=fun b=>by
  unfold iM
  rw[hp.mem_iff,List.mem_map]
  constructor
  ·intro hb
   have ho:=hok b hb
   have hh:=head_mem ho.ne
   have hc:=ho.cls hh
   refine⟨b.headD 0,?_,hc.symm⟩
   rw[List.mem_filter,List.mem_range,decide_eq_true_iff,← hc]
   exact⟨ho.lt _ hh,rfl⟩
  ·rintro⟨i,hi,rfl⟩
   rw[List.mem_filter,List.mem_range,decide_eq_true_iff]at hi
   obtain⟨b,hb,hib⟩:=List.mem_flatten.1 ((hall i).2 hi.1)
   rw[← (hok b hb).cls hib]
   exact hb
 have hl:(iM es).Pairwise fun x y=>x.headD 0<y.headD 0:=by
  unfold iM
  rw[List.pairwise_map]
  refine(List.Pairwise.filter (fun i=>decide ((eZ es i).headD 0=i)) (List.pairwise_lt_range (n:=es.length))).imp_of_mem ?_
  intro a b ha hb hab
  rw[List.mem_filter,decide_eq_true_iff]at ha hb
  rw[ha.2,hb.2]
  exact hab
 have hpp:B.Perm (iM es):=(List.perm_ext_iff_of_nodup (hr.imp fun k e=>by rw[e]at k;omega) (hl.imp fun k e=>by rw[e]at k;omega)).2 hmem
 exact hpp.eq_of_pairwise (fun a b _ _ h1 h2=>absurd h1 (by omega)) hr hl
end Go.Proofs.YtempldclppogmaaGreatDoor.Aw
namespace Go.Proofs.YtempldclppogmaaGreatDoor.Aw.CE
open Go Go.RowKit Go.Proofs.YtempldclppogmaaGreatDoor.Pl
structure oY(fid:FuncId)(caps:List LV)(eg:Int→Ed)(Dm:Int→Prop):Prop where
 call:∀ x y st,Dm x→Dm y→aF Tryz.prog fid ([.ag (edL (eg x)),.ag (edL (eg y))]++caps) st fun r st'=>(∃ n,r=i n∧(n<0↔x<y))∧st'=st
def es3(eg:Int→Ed)(c:List Int):List LV:=eds (c.map eg)
theorem yP(eg:Int→Ed)(c:List Int):(es3 eg c).length=c.length*3:=by unfold es3;rw[aO,List.length_map]
theorem iX(eg:Int→Ed)(l:List Int)(j:Nat)(hj:j<l.length):(es3 eg l).drop (j*3)=u (eg (l.getD j 0)).id::u (eg (l.getD j 0)).a::u (eg (l.getD j 0)).b::es3 eg (l.drop (j+1)):=by
 unfold es3
 rw[bE _ _ (by simpa using hj),List.map_drop]
 have e:(l.map eg).getD j ed0=eg (l.getD j 0):=by
  rw[oC _ _ (by simpa using hj),aX _ _ hj,List.getElem_map]
 rw[e]
theorem mT(eg:Int→Ed)(c:List Int)(k:Nat)(x:Int)(hk:k<c.length):(es3 eg c).take (k*3)++u (eg x).id::u (eg x).a::u (eg x).b::(es3 eg c).drop (k*3+3)=es3 eg (c.set k x):=by
 unfold es3
 rw[aBA _ _ _ (by simpa using hk),List.map_set]
theorem mC{Dm:Int→Prop}{l:List Int}(h:∀ x∈l,Dm x){k:Nat}(hk:k<l.length):Dm (l.getD k 0):=h _ (by rw[aX _ _ hk];exact List.getElem_mem _)
theorem iY{Dm:Int→Prop}{a b:Nat}{l c:List Int}(h:∀ x∈l,Dm x)(k:Pm a b l c):∀ x∈c,Dm x:=fun x hx=>h x (k.perm.mem_iff.1 hx)
abbrev bx(eg:Int→Ed)(st:St)(q:Nat)(c:List Int):St:=st.set q (.box 56 3 (es3 eg c))
theorem kS{eg:Int→Ed}{st:St}{q:Nat}{c:List Int}(h:st.H q=.box 56 3 (es3 eg c)):st=bx eg st q c:=
 St.ext' rfl fun x=>by by_cases hx:x=q<;>simp[hx,h]
theorem wV(eg:Int→Ed)(st:St)(q:Nat)(c:List Int)(k m:Nat){x y:Int}(hk:k<c.length)(hm:m<c.length)(hx:c.getD k 0=x)(hy:c.getD m 0=y):
 ((bx eg st q c).set q (.box 56 3 (List.take (k*3) (es3 eg c)++u (eg y).id::u (eg y).a::u (eg y).b::List.drop (k*3+3) (es3 eg c)))).set q
   (.box 56 3 (List.take (m*3) (List.take (k*3) (es3 eg c)++u (eg y).id::u (eg y).a::u (eg y).b::List.drop (k*3+3) (es3 eg c))++u (eg x).id::u (eg x).a::u (eg x).b::List.drop (m*3+3) (List.take (k*3) (es3 eg c)++u (eg y).id::u (eg y).a::u (eg y).b::List.drop (k*3+3) (es3 eg c))))=bx eg st q (sw c k m):=by
 have e:List.take (k*3) (es3 eg c)++u (eg y).id::u (eg y).a::u (eg y).b::List.drop (k*3+3) (es3 eg c)=es3 eg (c.set k y):=mT eg c k y hk
 rw[e,mT eg (c.set k y) m x (by simpa using hm)]
 unfold bx sw
 rw[hx,hy]
 exact St.ext' rfl fun z=>by by_cases hz:z=q<;>simp[hz]
theorem insertionSort{fid:FuncId}{caps:List LV}{eg:Int→Ed}{Dm:Int→Prop}(hC:oY fid caps eg Dm)(l:List Int)(q a b:Nat)(st:St)(hD:∀ x∈l,Dm x)(hl:small l)(ha:a≤b)(hb:b≤l.length)(hH:st.H q=.box 56 3 (es3 eg l)):
 aF Tryz.prog 200 [.ms q 0 l.length,i a,i b,.fn (.func fid) caps] st fun r st'=>∃ c,st'=bx eg st q c∧Pm a b l c∧Srt a b c:=by
 unfold small at hl
 refine qO aK Tryz.func200 rfl rfl Tryz.ntmps200 (rs:=[]) rfl (by simp) ?_
 have hw0:=qN a (by omega)
 (repeat' (first|refine qS ?_|refine qB ?_|(refine w_e [] ?_;intro J hJ;simp only[];simp[hw0];(refine hJ _ _ ?_;clear hJ J;simp only[ak,reduceIte]))))
 refine qL (fun n fr st'=>∃(k:Nat) (c:List Int),a<k∧n=b-k∧(fr 0=.ms q 0 l.length∧fr 3=.fn (.func fid) caps)∧fr 1=i a∧fr 2=i b∧fr 8=i k∧st'=bx eg st q c∧Pm a b l c∧Srt a k c) (b-(a+1)) ?_ ?_
 ·exact⟨a+1,l,by omega,rfl,by simp,by simp,by simp,by simp,kS hH,.refl,fun p q h1 h2 h3=>by omega⟩
 rintro n fr st1 ⟨k,c,hak,rfl,⟨f0,fC⟩,f1,f2,f6,rfl,hpm,hs⟩ JJ hJJ
 have hcl:=hpm.len
 have hDc:=iY hD hpm
 by_cases hlt:k<b
 rotate_left
 ·clear hJJ
  have hlt':¬(k:Int)<(b:Int):=by omega
  (repeat' (first|refine qS ?_|(refine qX ?_;simp only[ak,reduceIte])|(refine qC ?_;simp[f0,fC,f1,f2,f6,hlt])|(refine w_e [] ?_;intro J hJ;simp only[];simp[f0,fC,f1,f2,f6,hlt];(refine hJ _ _ ?_;clear hJ J;simp only[ak,reduceIte]))))
  exact⟨trivial,c,rfl,hpm,fun p q h1 h2 h3=>hs p q h1 h2 (by omega)⟩
 have hw1:=qN k (by omega)
 (repeat' (first|refine qS ?_|refine qB ?_|(refine qK ?_;simp only[ak,reduceIte])|(refine qC ?_;simp[f0,fC,f1,f2,f6,hlt])|(refine w_e [] ?_;intro J hJ;simp only[];simp[f0,fC,f1,f2,f6,hlt];(refine hJ _ _ ?_;clear hJ J;simp only[ak,reduceIte]))))
 refine qL (fun n fr st'=>∃(j:Nat) (c:List Int),a≤j∧j≤k∧j=n∧(fr 0=.ms q 0 l.length∧fr 3=.fn (.func fid) caps)∧fr 1=i a∧fr 2=i b∧fr 8=i k∧fr 9=i j∧st'=bx eg st q c∧Pm a b l c∧Ins a j k c) k ?_ ?_
 ·exact⟨k,c,by omega,by omega,rfl,by simp[f0,fC],by simp[f1],by simp[f2],by simp[f6],by simp,rfl,hpm,hs.ins⟩
 clear f0 fC f1 f2 f6 hs hpm hcl hDc c fr
 rintro n fr st1 ⟨j,c,haj,hjk,rfl,⟨f0,fC⟩,f1,f2,f6,f7,rfl,hpm,hI⟩ JJ2 hJ2
 have hcl:=hpm.len
 have hDc:=iY hD hpm
 by_cases hj:a<j
 rotate_left
 ·clear hJ2
  have hj':¬(a:Int)<(j:Int):=by omega
  (repeat (refine qS ?_));(refine w_s [] [q] [(0,true),(1,true),(2,true),(3,true),(4,true),(5,true),(6,true),(7,true),(8,true),(9,true),(10,true),(11,true),(12,true),(13,true),(14,false),(15,true),(16,true)] ?_;intro J hJ;simp[f0,fC,f1,f2,f6,f7,hj];(refine hJ _ _ ?_;clear hJ J;simp only[ak,reduceIte]))
  (repeat' (first|(refine qX ?_;simp only[ak,reduceIte])|(refine qC ?_;simp[f6,hw1])|(refine w_e [] ?_;intro J hJ;simp only[];simp[f6,hw1];(refine hJ _ _ ?_;clear hJ J;simp only[ak,reduceIte]))))
  exact hJJ (b-(k+1)) _ _ (by omega) ⟨k+1,c,by omega,rfl,by simp[f0,fC],by simp[f1],by simp[f2],by simp,rfl,hpm,hI.done haj (.inl (by omega))⟩
 have hw2:=eE j (by omega) (by omega)
 have hjl:j<l.length:=by omega
 have hjl1:j-1<l.length:=by omega
 have hd:=iX eg c j (by omega)
 have hd2:=iX eg c (j-1) (by omega)
 have hI1:=hI.step hj hjk (by omega)
 have hI2:=hI.done haj
 have hpm1:=hpm.step j (j-1) (by omega) (by omega) (by omega) (by omega) (by omega)
 generalize hx:c.getD j 0=x at *
 generalize hy:c.getD (j-1) 0=y at *
 (repeat (refine qS ?_));(refine w_s [] [q] [(0,true),(1,true),(2,true),(3,true),(4,true),(5,true),(6,true),(7,true),(8,true),(9,true),(10,true),(11,true),(12,true),(13,true),(14,false),(15,true),(16,true)] ?_;intro J hJ;simp[f0,fC,f1,f2,f6,f7,hj,hw2,hjl,hjl1,hcl,hd,hd2,yP])
 refine bF (hC.call x y _ (by first|assumption|(subst_vars;exact mC (by assumption) (by omega))) (by first|assumption|(subst_vars;exact mC (by assumption) (by omega)))) ?_;rintro r s2 ⟨⟨nv,rfl,hnv⟩,rfl⟩
 refine⟨fun _=>by simp,?_⟩
 by_cases hcd:x<y
 rotate_left
 ·clear hJ2
  (refine bN ?_;simp[hnv,hcd];(refine hJ _ _ ?_;clear hJ J;simp only[ak,reduceIte]))
  (repeat' (first|(refine qX ?_;simp only[ak,reduceIte])|(refine qC ?_;simp[f6,hw1])|(refine w_e [] ?_;intro J hJ;simp only[];simp[f6,hw1];(refine hJ _ _ ?_;clear hJ J;simp only[ak,reduceIte]))))
  exact hJJ (b-(k+1)) _ _ (by omega) ⟨k+1,c,by omega,rfl,by simp[f0,fC],by simp[f1],by simp[f2],by simp,rfl,hpm,hI2 (.inr hcd)⟩
 clear hJJ
 (refine bN ?_;simp[hnv,hcd];(refine hJ _ _ ?_;clear hJ J;simp only[ak,reduceIte]))
 (repeat' (first|refine qS ?_|refine qB ?_|(refine qK ?_;simp only[ak,reduceIte])|(refine qC ?_;simp[])))
 (refine w_s [] [q] [(0,true),(1,true),(2,true),(3,true),(4,true),(5,true),(6,true),(7,true),(8,true),(9,true),(10,true),(11,true),(12,true),(13,true),(14,true),(15,false),(16,true),(17,false)] ?_;intro J hJ;simp[f0,fC,f1,f2,f6,f7,hw2,hjl,hjl1,hcl,hd,hd2,yP];(repeat refine ca ?_);(refine hJ _ _ ?_;clear hJ J;simp only[ak,reduceIte]))
 (repeat' (refine w_e [] ?_;intro J hJ;simp only[];simp[f7,hw2];(refine hJ _ _ ?_;clear hJ J;simp only[ak,reduceIte])))
 exact hJ2 (j-1) _ _ (by omega) ⟨j-1,sw c j (j-1),by omega,by omega,rfl,by simp[f0,fC],by simp[f1],by simp[f2],by simp[f6],by simp,wV eg st q c j (j-1) (by omega) (by omega) hx hy,hpm1,hI1 hcd⟩
def iF(l:List Int)(a b:Nat):Prop:=0<a→∀ j,a≤j→j<b→l.getD (a-1) 0≤l.getD j 0
def yH(a b a' b':Nat)(c:List Int):Prop:=∀ d,Pm a' b' c d→Srt a' b' d→Srt a b d
def PdI(fid:FuncId)(caps:List LV)(eg:Int→Ed)(q:Nat)(l:List Int)(st:St)(a b a' b':Nat)(wb wp:Bool)(lim n:Nat)(fr:Frm)(st2:St):Prop:=
 (fr 0=.ms q 0 l.length∧fr 4=.fn (.func fid) caps)∧fr 1=i a'∧fr 2=i b'∧fr 3=i lim∧fr 10=bb wb∧fr 11=bb wp∧fr 12=i n∧lim<1000000∧q<st2.next∧bQ q st st2∧∃ c,st2.H q=.box 56 3 (es3 eg c)∧Pm a b l c∧iF c a' b'∧yH a b a' b' c
theorem PdI.mk{fid:FuncId}{caps:List LV}{eg:Int→Ed}{q:Nat}{l:List Int}{st:St}{a b a' b':Nat}{wb wp:Bool}{lim n:Nat}{fr:Frm}{st2:St}{c:List Int}(f0:(fr 0=.ms q 0 l.length∧fr 4=.fn (.func fid) caps))(f1:fr 1=i a')(f2:fr 2=i b')(f3:fr 3=i lim)(f8:fr 10=bb wb)(f9:fr 11=bb wp)(f10:fr 12=i n)(hlm:lim<1000000)(hqn:q<st2.next)(ho:bQ q st st2)(hc:st2.H q=.box 56 3 (es3 eg c))(hp:Pm a b l c)(ha:iF c a' b')(hf:yH a b a' b' c):PdI fid caps eg q l st a b a' b' wb wp lim n fr st2:=
 ⟨f0,f1,f2,f3,f8,f9,f10,hlm,hqn,ho,c,hc,hp,ha,hf⟩
set_option maxHeartbeats 4000000 in
theorem cR{fid:FuncId}{caps:List LV}{eg:Int→Ed}{Dm:Int→Prop}(hC:oY fid caps eg Dm)(Z:Nat):∀(l:List Int) (q a b lim:Nat) (st:St),(∀ x∈l,Dm x)→l.length≤12→a≤b→b≤l.length→b-a<Z→iF l a b→lim<1000000→q<st.next→st.H q=.box 56 3 (es3 eg l)→
 aF Tryz.prog 188 [.ms q 0 l.length,i a,i b,i lim,.fn (.func fid) caps] st fun r st'=>∃ c,st'.H q=.box 56 3 (es3 eg c)∧Pm a b l c∧Srt a b c∧bQ q st st':=by
 induction Z with
 |zero=>intro l q a b lim st _ _ _ _ h;omega
 |succ Z ih=>
 intro l q a b lim st hD hl hab hb hZ hah hlim hqn hH
 have hsm:small l:=by unfold small;omega
 refine qO aK Tryz.func188 rfl rfl Tryz.ntmps188 (rs:=[]) rfl (by simp) ?_
 (repeat' (first|refine qS ?_|refine qB ?_|(refine w_e [] ?_;intro J hJ;simp only[];simp[];(refine hJ _ _ ?_;clear hJ J;simp only[ak,reduceIte]))))
 refine qL (fun z fr st2=>∃(a' b' lim:Nat) (wb wp:Bool) (n:LV),a≤a'∧a'≤b'∧b'≤b∧z=b' - a'∧PdI fid caps eg q l st a b a' b' wb wp lim 0 (upd fr 12 (i (0:Nat))) st2) (b-a) ?_ ?_
 ·refine⟨a,b,lim,true,true,.nil,by omega,by omega,by omega,rfl,?_⟩
  exact PdI.mk (by simp) (by simp) (by simp) (by simp) (by simp) (by simp) (by simp) hlim hqn (.refl _ _) hH .refl hah fun d h1 h2=>h2
 rintro z fr st2 ⟨a',b',lim,wb,wp,-,ha1,ha2,hb2,rfl,⟨f0,fC⟩,f1,f2,f3,f8,f9,-,hlm,hqn2,hof,c,hc,hpm,hah2,hfin⟩ JJ hJJ
 rw[mJ,if_neg (by omega)]at f0 fC f1 f2 f3 f8 f9
 have hcl:=hpm.len
 have hDc:=iY hD hpm
 have hsc:small c:=by unfold small;omega
 obtain⟨n,hn⟩:∃ n:Nat,n=b' - a':=⟨_,rfl⟩
 have w1:IntKind.i64.wrap ((b':Int)-(a':Int))=(n:Int):=by rw[wrap_i64 _ (by omega) (by omega)];omega
 refine qB ?_
 (repeat' (first|refine qS ?_|(refine w_e [] ?_;intro J hJ;simp only[];simp[f1,f2,w1];(refine hJ _ _ ?_;clear hJ J;simp only[ak,reduceIte]))))
 by_cases hn12:(n:Int)≤12
 ·clear hJJ
  refine qC ?_;simp[hn12]
  (repeat' (first|refine qS ?_|(refine w_e [] ?_;intro J hJ;simp only[];simp[f0,fC,f1,f2])))
  refine qE (insertionSort hC c q a' b' st2 (by first|assumption|exact iY hD ‹Pm _ _ l c›) hsc (by omega) (by omega) hc) (by simp[f0,fC,f1,f2,hcl]) ?_;rintro r st' ⟨d,rfl,k1,k2⟩
  (repeat' (first|(refine qR ?_;simp only[ak,reduceIte];simp[])|(refine aL ?_;simp[];(refine hJ _ _ ?_;clear hJ J;simp only[ak,reduceIte]))))
  exact⟨d,rfl,hpm.trans (k1.wide (by omega) (by omega) (by omega)),hfin d k1 k2,hof.set _⟩
 exact absurd (show(n:Int)≤12 by omega) hn12
theorem aCb{fid:FuncId}{caps:List LV}{eg:Int→Ed}{Dm:Int→Prop}(hC:oY fid caps eg Dm)(l:List Int)(q:Nat)(st:St)(hD:∀ x∈l,Dm x)(hl:l.length≤12)(hqn:q<st.next)(hH:st.H q=.box 56 3 (es3 eg l)):
 aF Tryz.prog 145 [.ms q 0 l.length,.fn (.func fid) caps] st fun r st'=>∃ c,st'.H q=.box 56 3 (es3 eg c)∧c.Perm l∧c.Pairwise (·≤·)∧bQ q st st':=by
 have w1:IntKind.u64.wrap (l.length:Int)=(l.length:Int):=wrap_u64 _ (by omega) (by omega)
 have hbl:=(uH l.length (by omega)).1
 refine qO aK Tryz.func145 rfl rfl Tryz.ntmps145 (rs:=[]) rfl (by simp) ?_
 (repeat' (first|refine qS ?_|(refine w_e [] ?_;intro J hJ;simp only[];simp[w1];(try (refine hJ _ _ ?_;clear hJ J;simp only[ak,reduceIte])))))
 refine qF (Len l.length _ (by omega)) ?_;rintro r st' ⟨rfl,rfl⟩
 (repeat' (refine aL ?_;simp[]))
 refine qE (cR hC (l.length+1) l q 0 l.length (pP l.length) _ hD hl (by omega) (by omega) (by omega) (fun h=>absurd h (by omega)) (by omega) hqn hH) (by simp[]) ?_;rintro r st' ⟨c,k1,k2,k3,k4⟩
 (repeat' (refine aL ?_;simp[];(refine hJ _ _ ?_;clear hJ J;simp only[ak,reduceIte])))
 have hcl:=k2.len
 exact⟨trivial,c,k1,k2.perm,pI (by rw[hcl];exact k3),k4⟩
end Go.Proofs.YtempldclppogmaaGreatDoor.Aw.CE
namespace Go.Proofs.YtempldclppogmaaGreatDoor.Aw
open Go Go.RowKit Go.Proofs.YtempldclppogmaaGreatDoor.Pl Go.Proofs.YtempldclppogmaaGreatDoor.Eu
def fW(x y:Int):Int:=if x<y then -1 else if y<x then 1 else 0
theorem aCK(x y:Int):fW x y<0↔x<y:=by
 unfold fW
 by_cases h1:x<y
 ·rw[if_pos h1];omega
 ·rw[if_neg h1];by_cases h2:y<x
  ·rw[if_pos h2];omega
  ·rw[if_neg h2];omega
theorem pK(x y:Int)(st:St):aF Tryz.prog 64 [u x,u y] st fun r st'=>r=i (fW x y)∧st'=st:=by
 refine qO aK Tryz.func64 rfl rfl Tryz.ntmps64 (rs:=[.tmp 4]) rfl (by simp) ?_
 (repeat' (first|refine qS ?_|(refine w_e [] ?_;intro J hJ;simp only[];simp[];(try (refine hJ _ _ ?_;clear hJ J;simp only[ak,reduceIte])))))
 refine qF (isNaN x _) ?_;rintro r st' ⟨rfl,rfl⟩
 (repeat' (first|refine qS ?_|((first|(refine w_e [] ?_;intro J hJ;simp only[])|(refine aL ?_));simp[];(try (refine hJ _ _ ?_;clear hJ J;simp only[ak,reduceIte])))))
 refine qF (isNaN y _) ?_;rintro r st' ⟨rfl,rfl⟩
 by_cases h1:x<y
 ·(repeat' (first|refine qS ?_|(refine qK ?_;simp only[ak,reduceIte])|(refine qR ?_;simp only[ak,reduceIte];simp[h1,fW])|(refine qC ?_;simp[h1,fW])|((first|(refine w_e [] ?_;intro J hJ;simp only[])|(refine aL ?_));simp[h1,fW];(refine hJ _ _ ?_;clear hJ J;simp only[ak,reduceIte]))))
 ·by_cases h2:y<x
  ·(repeat' (first|refine qS ?_|(refine qK ?_;simp only[ak,reduceIte])|(refine qR ?_;simp only[ak,reduceIte];simp[h1,h2,fW])|(refine qC ?_;simp[h1,h2,fW])|((first|(refine w_e [] ?_;intro J hJ;simp only[])|(refine aL ?_));simp[h1,h2,fW];(refine hJ _ _ ?_;clear hJ J;simp only[ak,reduceIte]))))
  ·(repeat' (first|refine qS ?_|(refine qK ?_;simp only[ak,reduceIte])|(refine qR ?_;simp only[ak,reduceIte];simp[h1,h2,fW])|(refine qC ?_;simp[h1,h2,fW])|((first|(refine w_e [] ?_;intro J hJ;simp only[])|(refine aL ?_));simp[h1,h2,fW];(refine hJ _ _ ?_;clear hJ J;simp only[ak,reduceIte]))))
theorem aOE(x y:Ed)(st:St):aF Tryz.prog 146 [.ag (edL x),.ag (edL y)] st fun r st'=>r=i (fW x.id y.id)∧st'=st:=by
 refine qT (Q:=fun r=>r=i (fW x.id y.id)) ?_ fun r h=>by subst h;trivial
 obtain⟨xi,xa,xb⟩:=x
 obtain⟨yi,ya,yb⟩:=y
 refine qO aK Tryz.func146 rfl rfl Tryz.ntmps146 (rs:=[.tmp 4]) rfl (by simp) ?_
 (repeat' (first|refine qS ?_|(refine w_e [] ?_;intro J hJ;simp only[];simp[];(try (refine hJ _ _ ?_;clear hJ J;simp only[ak,reduceIte])))))
 refine qE (pK xi yi _) (by simp) ?_;rintro r s1 ⟨rfl,rfl⟩
 (repeat' (first|(refine qR ?_;simp only[ak,reduceIte];simp[fW])|(refine aL ?_;simp[fW];(refine hJ _ _ ?_;clear hJ J;simp only[ak,reduceIte]))))
 exact(aB.new _ _).trans (aB.new _ _)
theorem aIc(x y:Ed)(X Y:List Ed)(st:St):aF Tryz.prog 72 [.sl 0 (X.length+1) (eds (x::X)),.sl 0 (Y.length+1) (eds (y::Y))] st fun r st'=>r=i (fW x.id y.id)∧st'=st:=by
 refine qT (Q:=fun r=>r=i (fW x.id y.id)) ?_ fun r h=>by subst h;trivial
 obtain⟨xi,xa,xb⟩:=x
 obtain⟨yi,ya,yb⟩:=y
 have e1:eds (⟨xi,xa,xb⟩::X)=u xi::u xa::u xb::eds X:=rfl
 have e2:eds (⟨yi,ya,yb⟩::Y)=u yi::u ya::u yb::eds Y:=rfl
 rw[e1,e2]
 refine qO aK Tryz.func72 rfl rfl Tryz.ntmps72 (rs:=[.tmp 4]) rfl (by simp) ?_
 (repeat' (first|refine qS ?_|(refine w_e [] ?_;intro J hJ;simp only[];simp[];(refine hJ _ _ ?_;clear hJ J;simp only[ak,reduceIte]))))
 (refine w_s [] [] [(0,true),(1,true),(2,true),(3,true),(4,true),(5,true),(6,true),(7,true),(8,false),(9,true)] ?_;intro J hJ;simp[])
 refine qD (pK xi yi _) (by simp) ?_;rintro r s1 ⟨rfl,rfl⟩
 refine⟨fun h=>by first|(cases h;done)|simp,?_⟩
 (refine bN ?_;simp[];(refine hJ _ _ ?_;clear hJ J;simp only[ak,reduceIte]))
 (repeat' (refine qR ?_;simp only[ak,reduceIte];simp[fW]))
 exact aB.refl _
section
variable {es:List Ed} (hids:es.Pairwise fun x y=>x.id<y.id)
include hids
theorem aMR{a b:Nat}(ha:a<es.length)(hb:b<es.length):(eAt es a).id<(eAt es b).id↔a<b:=by
 unfold eAt
 rw[cC _ _ ha,cC _ _ hb]
 rw[List.pairwise_iff_getElem]at hids
 rcases Nat.lt_trichotomy a b with k|k|k
 ·exact⟨fun _=>k,fun _=>hids a b ha hb k⟩
 ·subst k;omega
 ·have:=hids b a hb ha k;omega
theorem aMf:CE.oY 146 [] (fun x=>eAt es x.toNat) fun x=>0≤x∧x.toNat<es.length:=
 ⟨fun x y st hx hy=>(aOE _ _ st).mono fun r s h=>⟨⟨_,h.1,by rw[aCK,aMR hids hx.2 hy.2];omega⟩,h.2⟩⟩
theorem aPe(P:List Nat)(hn:P.Nodup)(hP:∀ i∈P,i<es.length)(q:Nat)(st:St)(hl:P.length≤12)(hq:q<st.next)(hH:st.H q=.box 56 3 (eds (P.map (eAt es)))):
 aF Tryz.prog 145 [.ms q 0 P.length,.fn (.func 146) []] st fun r st'=>st'.H q=.box 56 3 (eds ((oX es.length P).map (eAt es)))∧bQ q st st':=by
 have e:∀ L:List Nat,CE.es3 (fun x=>eAt es x.toNat) (L.map fun k:Nat=>(k:Int))=eds (L.map (eAt es)):=fun L=>by
  unfold CE.es3;rw[List.map_map];rfl
 have h:=CE.aCb (aMf hids) (P.map fun k:Nat=>(k:Int)) q st (fun x hx=>by
  obtain⟨k,hk,rfl⟩:=List.mem_map.1 hx
  exact⟨by omega,by simpa using hP k hk⟩) (by simpa using hl) hq (by rw[e];exact hH)
 rw[List.length_map]at h
 refine h.mono ?_
 rintro r s ⟨c,h1,h2,h3,h4⟩
 refine⟨?_,h4⟩
 have hc:c=(oX es.length P).map fun k:Nat=>(k:Int):=by
  refine xL h3 ?_ (h2.trans ((rW hn hP).map _).symm)
  rw[List.pairwise_map]
  exact(sJ _ _).imp fun k=>by omega
 rw[h1,hc,e]
def bkL(es:List Ed)(out:List (List Nat)):List LV:=out.map fun B=>.sl 0 B.length (eds (B.map (eAt es)))
omit hids in
theorem vC(es:List Ed)(out:List (List Nat)):(bkL es out).length=out.length:=by simp[bkL]
theorem aLp:CB.oY 72 [] (fun x=>(eZ es x.toNat).length) (fun x=>eds ((eZ es x.toNat).map (eAt es))) fun x=>0≤x∧x.toNat<es.length∧(eZ es x.toNat).headD 0=x.toNat:=by
 refine⟨fun x y st hx hy=>?_⟩
 have hh:∀ z:Nat,z<es.length→(eZ es z).headD 0=z→∃ R,eZ es z=z::R:=fun z hz he=>by
  have hm:z∈eZ es z:=aDM.2 ⟨hz,.refl⟩
  cases hc:eZ es z with
  |nil=>rw[hc]at hm;cases hm
  |cons a R=>rw[hc]at he;simp at he;exact⟨R,by rw[he]⟩
 obtain⟨X,eX⟩:=hh _ hx.2.1 hx.2.2
 obtain⟨Y,eY⟩:=hh _ hy.2.1 hy.2.2
 rw[eX,eY]
 have:=aIc (eAt es x.toNat) (eAt es y.toNat) (X.map (eAt es)) (Y.map (eAt es)) st
 rw[List.length_map,List.length_map]at this
 exact this.mono fun r s h=>⟨⟨_,h.1,by rw[aCK,aMR hids hx.2.1 hy.2.1];omega⟩,h.2⟩
theorem aPn(out:List (List Nat))(hall:∀ i,i∈out.flatten↔i<es.length)(hok:∀ B∈out,gQ es B)(hnd:out.flatten.Nodup)(q:Nat)(st:St)(hl:out.length≤12)(hq:q<st.next)(hH:st.H q=.box 23 1 (bkL es out)):
 aF Tryz.prog 71 [.ms q 0 out.length,.fn (.func 72) []] st fun r st'=>st'.H q=.box 23 1 (bkL es (iM es))∧(iM es).Perm out∧bQ q st st':=by
 obtain⟨L,hL⟩:∃ L:List Int,L=out.map fun B=>((B.headD 0:Nat):Int):=⟨_,rfl⟩
 have hB:∀ B∈out,eZ es (B.headD 0)=B:=fun B h=>((hok B h).cls (head_mem (hok B h).ne)).symm
 have hD:∀ x∈L,0≤x∧x.toNat<es.length∧(eZ es x.toNat).headD 0=x.toNat:=fun x hx=>by
  rw[hL]at hx
  obtain⟨B,h,rfl⟩:=List.mem_map.1 hx
  refine⟨by omega,?_,?_⟩
  ·simpa using(hok B h).lt _ (head_mem (hok B h).ne)
  ·rw[Int.toNat_natCast,hB B h]
 have e:∀ c:List Int,CB.ws (fun x=>(eZ es x.toNat).length) (fun x=>eds ((eZ es x.toNat).map (eAt es))) c=bkL es (c.map fun x=>eZ es x.toNat):=fun c=>by
  unfold bkL CB.ws;rw[List.map_map];rfl
 have eL:L.map (fun x=>eZ es x.toNat)=out:=by
  rw[hL,List.map_map]
  have:∀ B∈out,((fun x:Int=>eZ es x.toNat)∘fun B:List Nat=>((B.headD 0:Nat):Int)) B=B:=fun B h=>by
   show eZ es ((B.headD 0:Nat):Int).toNat=B
   rw[Int.toNat_natCast];exact hB B h
  rw[List.map_congr_left this,List.map_id']
 have hLn:L.Nodup:=by
  rw[hL]
  refine List.pairwise_map.2 ?_
  have:=(List.pairwise_flatten.1 hnd).2
  refine this.imp_of_mem fun {a b} ha hb hd he=>?_
  exact hd _ (head_mem (hok a ha).ne) _ (head_mem (hok b hb).ne) (by omega)
 have h:=CB.aCb (aLp hids) L q st hD (by rw[hL,List.length_map];exact hl) hq (by rw[e,eL];exact hH)
 rw[show L.length=out.length by rw[hL,List.length_map]]at h
 refine h.mono ?_
 rintro r s ⟨c,h1,h2,h3,h4⟩
 have hcD:∀ x∈c,0≤x∧x.toNat<es.length∧(eZ es x.toNat).headD 0=x.toNat:=fun x hx=>hD x (h2.mem_iff.1 hx)
 have hp:(c.map fun x=>eZ es x.toNat).Perm out:=by
  have:=h2.map fun x:Int=>eZ es x.toNat
  rwa [eL]at this
 have hr:(c.map fun x=>eZ es x.toNat).Pairwise fun x y=>x.headD 0<y.headD 0:=by
  rw[List.pairwise_map]
  have hcn:=h2.nodup_iff.2 hLn
  refine(h3.and hcn).imp_of_mem fun {a b} ha hb hab=>?_
  have h5:=hcD a ha
  have h6:=hcD b hb
  rw[h5.2.2,h6.2.2]
  have:=hab.2
  have:=hab.1
  omega
 have hled:=wL hall hok hp hr
 refine⟨by rw[h1,e,hled],by rw[← hled];exact hp,h4⟩
end
end Go.Proofs.YtempldclppogmaaGreatDoor.Aw
namespace Go.Proofs.YtempldclppogmaaGreatDoor.Aw
open Go Go.RowKit Go.Proofs.YtempldclppogmaaGreatDoor.Pl
theorem aPc(a b:Int)(t:Nat)(st:St):aF Tryz.prog 63 [.sl t 2 [i a,i b]] st fun r st'=>r=i (if a=0 then b else a)∧st'=st:=by
 have w1:IntKind.i64.wrap (0+1)=1:=by decide
 have w2:IntKind.i64.wrap (1+1)=2:=by decide
 refine qO aK Tryz.func63 rfl rfl Tryz.ntmps63 (rs:=[.tmp 2]) rfl (by simp) ?_
 (repeat' (first|refine qS ?_|refine qB ?_|(refine w_e [] ?_;intro J hJ;simp only[];simp[];(refine hJ _ _ ?_;clear hJ J;simp only[ak,reduceIte]))))
 refine aP 8 7 9 16 (2) (fun j fr st2=>fr 3=i 0∧fr 6=.sl t 2 [i a,i b]∧st2=st∧(j=1→a=0)∧(j=2→a=0∧b=0)) ?_ ?_ ?_
 ·exact⟨by simp,by simp,rfl,fun h=>by omega,fun h=>by omega⟩
 ·rintro j fr s hlt ⟨f3,f6,rfl,h1,h2⟩ fi fn J hJ
  have hj:j=0∨j=1:=by omega
  rcases hj with rfl|rfl
  ·by_cases ha:a=0
   ·(repeat' (first|refine qS ?_|(refine qK ?_;simp only[ak,reduceIte])|(refine qC ?_;simp[f3,f6,fi,fn,ha])|(refine w_e [] ?_;intro J hJ;simp only[];simp[f3,f6,fi,fn,ha];(refine hJ _ _ ?_;clear hJ J;simp only[ak,reduceIte]))))
    exact hJ _ _ (by simp[fi]) (by simp[fn]) ⟨by simp[f3],by simp[f6],rfl,fun _=>ha,fun h=>by omega⟩
   ·(repeat' (first|refine qS ?_|(refine qR ?_;simp only[ak,reduceIte];simp[f3,f6,fi,fn,ha])|(refine qC ?_;simp[f3,f6,fi,fn,ha])|(refine w_e [] ?_;intro J hJ;simp only[];simp[f3,f6,fi,fn,ha];(refine hJ _ _ ?_;clear hJ J;simp only[ak,reduceIte]))))
  ·have ha:=h1 rfl
   by_cases hb:b=0
   ·(repeat' (first|refine qS ?_|(refine qK ?_;simp only[ak,reduceIte])|(refine qC ?_;simp[f3,f6,fi,fn,ha,hb])|(refine w_e [] ?_;intro J hJ;simp only[];simp[f3,f6,fi,fn,ha,hb];(refine hJ _ _ ?_;clear hJ J;simp only[ak,reduceIte]))))
    exact hJ _ _ (by simp[fi]) (by simp[fn]) ⟨by simp[f3],by simp[f6],rfl,fun h=>by omega,fun _=>⟨ha,hb⟩⟩
   ·(repeat' (first|refine qS ?_|(refine qR ?_;simp only[ak,reduceIte];simp[f3,f6,fi,fn,ha,hb])|(refine qC ?_;simp[f3,f6,fi,fn,ha,hb])|(refine w_e [] ?_;intro J hJ;simp only[];simp[f3,f6,fi,fn,ha,hb];(refine hJ _ _ ?_;clear hJ J;simp only[ak,reduceIte]))))
 ·rintro fr s ⟨f3,f6,rfl,h1,h2⟩
  obtain⟨ha,hb⟩:=h2 rfl
  (repeat' (first|refine qS ?_|(refine qR ?_;simp only[ak,reduceIte];simp[f3,ha,hb])|(refine w_e [] ?_;intro J hJ;simp only[];simp[f3,ha,hb];(refine hJ _ _ ?_;clear hJ J;simp only[ak,reduceIte]))))
def dZ(w:List Int):Int:=w.getD 0 0*4294967296+w.getD (w.length-1) 0
theorem aNH(x y:List Int)(hx:0<x.length)(hy:0<y.length)(hxs:x.length≤1000)(hys:y.length≤1000)(hxb:∀ v∈x,0≤v∧v<4294967296)(hyb:∀ v∈y,0≤v∧v<4294967296)(st:St):
 aF Tryz.prog 62 [.sl 0 x.length (us x),.sl 0 y.length (us y)] st fun r st'=>(∃ n,r=i n∧(n<0↔dZ x<dZ y))∧st'=st:=by
 refine qT (Q:=fun r=>∃ n,r=i n∧(n<0↔dZ x<dZ y)) ?_ fun r h=>by obtain⟨n,rfl,_⟩:=h;trivial
 have hm:∀(l:List Int) (k:Nat),k<l.length→l.getD k 0∈l:=fun l k hk=>by rw[aX _ _ hk];exact List.getElem_mem hk
 have b1:=hxb _ (hm x 0 hx)
 have b2:=hyb _ (hm y 0 hy)
 have b3:=hxb _ (hm x (x.length-1) (by omega))
 have b4:=hyb _ (hm y (y.length-1) (by omega))
 have d1:=qG x 0 hx
 have d2:=qG y 0 hy
 have d3:=qG x (x.length-1) (by omega)
 have d4:=qG y (y.length-1) (by omega)
 have w1:IntKind.i64.wrap ((x.length:Int)-1)=((x.length-1:Nat):Int):=by rw[wrap_i64 _ (by omega) (by omega)];omega
 have w2:IntKind.i64.wrap ((y.length:Int)-1)=((y.length-1:Nat):Int):=by rw[wrap_i64 _ (by omega) (by omega)];omega
 have hfin:∀ n,n=(if fW (x.getD 0 0) (y.getD 0 0)=0 then fW (x.getD (x.length-1) 0) (y.getD (y.length-1) 0)else fW (x.getD 0 0) (y.getD 0 0))→(n<0↔dZ x<dZ y):=by
  intro n hn
  unfold dZ
  generalize x.getD 0 0=a at *
  generalize y.getD 0 0=b at *
  generalize x.getD (x.length-1) 0=c at *
  generalize y.getD (y.length-1) 0=d at *
  subst hn
  unfold fW
  by_cases h1:a<b
  ·rw[if_pos h1,if_neg (by omega)];omega
  ·rw[if_neg h1]
   by_cases h2:b<a
   ·rw[if_pos h2,if_neg (by omega)];omega
   ·rw[if_neg h2,if_pos rfl]
    by_cases h3:c<d
    ·rw[if_pos h3];omega
    ·rw[if_neg h3]
     by_cases h4:d<c
     ·rw[if_pos h4];omega
     ·rw[if_neg h4];omega
 rw[List.drop_zero]at d1 d2
 have h0:hdL (us x)=u (x.getD 0 0):=by rw[d1];rfl
 have h0':hdL (us y)=u (y.getD 0 0):=by rw[d2];rfl
 have e1:x.length-1<x.length:=by omega
 have e2:y.length-1<y.length:=by omega
 have e1':((x.length-1:Nat):Int)<x.length:=by omega
 have e2':((y.length-1:Nat):Int)<y.length:=by omega
 refine qO aK Tryz.func62 rfl rfl Tryz.ntmps62 (rs:=[.tmp 4]) rfl (by simp) ?_
 (repeat' (first|refine qS ?_|(refine w_e [] ?_;intro J hJ;simp only[];simp[];(refine hJ _ _ ?_;clear hJ J;simp only[ak,reduceIte]))))
 generalize x.getD 0 0=xa at *
 generalize y.getD 0 0=ya at *
 generalize x.getD (x.length-1) 0=xc at *
 generalize y.getD (y.length-1) 0=yc at *
 clear d1 d2
 (refine w_s [] [] [(0,true),(1,true),(2,true),(3,true),(4,true),(5,true),(7,true),(8,true),(9,true),(10,true),(11,true),(12,true),(13,true),(14,true),(15,true),(16,true),(17,true),(18,true),(6,true),(19,true),(20,true),(21,true),(22,true)] ?_;intro J hJ;simp[hx,hy,h0,h0',w1,w2,d3,d4,e1,e2,e1',e2'])
 refine qD (pK xa ya _) (by simp) ?_;rintro r s1 ⟨rfl,q1⟩
 rw[q1];clear q1 s1
 refine⟨fun h=>by first|(cases h;done)|simp,?_⟩
 (refine bN ?_;simp[])
 refine qD (pK xc yc _) (by simp) ?_;rintro r s1 ⟨rfl,q1⟩
 rw[q1];clear q1 s1
 refine⟨fun h=>by first|(cases h;done)|simp,?_⟩
 (refine bN ?_;simp[])
 refine qD (aPc (fW xa ya) (fW xc yc) st.next _) (by simp) ?_;rintro r s1 ⟨rfl,q1⟩
 rw[q1];clear q1 s1
 refine⟨fun h=>by first|(cases h;done)|simp,?_⟩
 (refine bN ?_;simp[];(refine hJ _ _ ?_;clear hJ J;simp only[ak,reduceIte]))
 (repeat' (refine qR ?_;simp only[ak,reduceIte];simp[]))
 exact⟨hfin _ rfl,aB.new _ _⟩
end Go.Proofs.YtempldclppogmaaGreatDoor.Aw
namespace Go.Proofs.YtempldclppogmaaGreatDoor.Aw
open Go Go.RowKit
section
variable {P:Program} {T:Tab} {w:World} {g:G} {st:St}
theorem aAm{xs1:List Int}{lv:LV}:∀ {es:List (List Int×LV)},aR es xs1=some lv→aS es xs1 lv=es
 |[],h=>by simp[aR]at h
 |p::es,h=>by
  simp only[aR]at h
  split at h
  ·rename_i hq
   simp only[aS,if_pos hq]
   obtain⟨k,v⟩:=p
   simp only[Option.some.injEq]at h
   simp only[beq_iff_eq]at hq
   rw[hq,h]
  ·rename_i hne
   simp only[aS,if_neg hne,aAm h]
def aJj(w:World)(b:Nat)(xs1:List Int)(es:List (List Int×LV))(born:Nat):Prop:=
 ∃(ents:List MapEntry) (clock j:Nat) (en:MapEntry),w.heap[b]?=some (.map ents.toArray clock)∧ents[j]?=some en∧en.born=born∧fnd xs1 es ents 0=some (0+j,en.val)
theorem aDJ{xs1:List Int}{lv:LV}{e:MapEntry}:∀(es:List (List Int×LV)) (ents:List MapEntry) (i:Nat),aR es xs1=none→es.length=ents.length→fnd xs1 (aS es xs1 lv) (ents++[e]) i=some (i+ents.length,e.val)
 |[],[],i,_,_=>by simp[aS,fnd]
 |[],_::_,_,_,h=>by simp at h
 |_::_,[],_,_,h=>by simp at h
 |p::es,e'::ents,i,h1,h2=>by
  simp only[aR]at h1
  split at h1
  ·cases h1
  ·rename_i hne
   simp only[aS,if_neg hne,List.cons_append,fnd]
   rw[aDJ es ents (i+1) h1 (by simpa using h2)]
   simp only[List.length_cons]
   congr 2;omega
theorem aBm(hT:aZ P T)(hi:Inv w g st){t k e l:Nat}{rk re:bD}{ks:List IntKind}{es:List (List Int×LV)}{xs1:List Int}(hm:fS T t=some (k,e))(hk:T k=some rk)(hz:T e=some re)(hck:rk.ck=some ks)(hl:st.H l=.map rk.agg ks es)(hlen:xs1.length=ks.length):
 ∃(v:Value) (born:Nat) (w':World),(Instr.mapEntry t (.map (some (g.β l))) (mkV rk.agg ks xs1)).run P w=.ok (.tuple #[v,goInt born]) w'∧Inv w' g (st.set l (.map rk.agg ks (aS es xs1 ((aR es xs1).getD (jZ re)))))∧Ext w g w' g∧aJj w' (g.β l) xs1 (aS es xs1 ((aR es xs1).getD (jZ re))) born:=by
 have hu:=kA hT hm
 have E:=(hT k rk hk).eqk _ hck
 obtain⟨m0,m1,ents,clock,m2,m3,m4,m5,m6,m7⟩:=hi.mp l _ _ es hl
 have hlt:g.β l<w.heap.size:=(Array.getElem?_eq_some_iff.1 m2).1
 have hrun:=fQ (w:=w) E hlen es ents m3 m1
 have hchk:=fun em=>E.chk w em xs1 hlen
 cases hg:aR es xs1 with
 |none=>
  obtain⟨z,hz1,hz2⟩:∃ z,(zeroValue e).run P w=.ok z w∧Rep w g (jZ re) z:=⟨_,(hT e re hz).zeroValue w,aAg (hT e re hz)⟩
  have hf:=mP xs1 es ents 0 hg
  obtain⟨a1,a2⟩:=yB (ag:=rk.agg) (ks:=ks) clock hz2 es ents hg m3 m4
  obtain⟨b1,b2⟩:=eA (clock':=clock+1) hi hl (qV m1 hlen) a1 a2 (fun z hz=>by
   rcases List.mem_append.1 hz with hz|hz
   ·have:=m6 z hz;omega
   ·simp at hz;subst hz;simp) (by
   rw[List.map_append,List.nodup_append]
   refine⟨m7,by simp,?_⟩
   intro a ha b hb
   simp at hb;subst hb
   obtain⟨z,hz,rfl⟩:=List.mem_map.1 ha
   have:=m6 z hz
   omega)
  refine⟨z,clock,_,?_,b1,b2,ents++[⟨mkV rk.agg ks xs1,z,clock⟩],clock+1,ents.length,⟨mkV rk.agg ks xs1,z,clock⟩,?_,List.getElem?_concat_length,rfl,?_⟩
  ·unfold Instr.mapEntry
   simp only[Sem.run_bind,run_underlying hu,Result.andThen_ok,MapKept.run_getObj_map m2,hchk,hrun,hf,hz1]
   rw[MapKept.run_setObj_map _ m2]
   simp
  ·simp[Array.getElem?_setIfInBounds,hlt]
  ·have:=aDJ (lv:=jZ re) (e:=⟨mkV rk.agg ks xs1,z,clock⟩) es ents 0 hg (by have:=congrArg List.length m3;simpa using this.symm)
   simpa using this
 |some lv=>
  obtain⟨j,en,hf,hen,hrep,hkey⟩:=mD (w:=w) (g:=g) xs1 es ents 0 lv m4 hg
  simp only[Option.getD_some]
  rw[aAm hg]
  obtain⟨b1,b2⟩:=eA (clock':=clock) hi hl m1 m3 m4 m6 m7
  have hek:en.key=mkV rk.agg ks xs1:=by
   have h1:(ents.map (·.key))[j]?=some en.key:=by simp[hen]
   rw[m3,List.getElem?_map]at h1
   cases hej:es[j]? with
   |none=>simp[hej]at hkey
   |some q=>simp[hej]at hkey h1;rw[← h1,hkey]
  have hmod:ents.toArray.modify (0+j) (fun e=>{ e with key:=mkV rk.agg ks xs1 })=ents.toArray:=by
   rw[Nat.zero_add,List.modify_toArray]
   congr 1
   apply List.ext_getElem?
   intro n
   rw[List.getElem?_modify]
   by_cases hjn:j=n
   ·subst hjn
    rw[hen]
    simp only[if_pos,Option.map_eq_map,Option.map_some]
    rw[← hek]
   ·simp[hjn]
  refine⟨en.val,en.born,_,?_,b1,b2,ents,clock,j,en,?_,hen,rfl,hf⟩
  ·unfold Instr.mapEntry
   simp only[Sem.run_bind,run_underlying hu,Result.andThen_ok,MapKept.run_getObj_map m2,hchk,hrun,hf]
   have hst:(Instr.keyThatStays (((ents.toArray[0+j]?).map (·.key)).getD (mkV rk.agg ks xs1)) (mkV rk.agg ks xs1)).run P w=.ok (mkV rk.agg ks xs1) w:=by
    have:(((ents.toArray[0+j]?).map (·.key)).getD (mkV rk.agg ks xs1))=mkV rk.agg ks xs1:=by simp[hen,hek]
    rw[this]
    unfold Instr.keyThatStays
    rw[qU E.one hlen]
    simp
   rw[hst]
   simp only[Result.andThen_ok]
   rw[MapKept.run_setObj_map _ m2,hmod]
   simp[hen]
  ·simp[Array.getElem?_setIfInBounds,hlt]
theorem aFm{xs1:List Int}:∀(es:List (List Int×LV)) (ents:List MapEntry) (i j:Nat) (v:Value),fnd xs1 es ents i=some (i+j,v)→(es[j]?).map (·.1)=some xs1
 |[],_,_,_,_,h=>by simp[fnd]at h
 |_::_,[],_,_,_,h=>by simp[fnd]at h
 |p::es,e::ents,i,j,v,h=>by
  simp only[fnd]at h
  split at h
  ·rename_i hq
   simp only[Option.some.injEq,Prod.mk.injEq]at h
   obtain rfl:j=0:=by omega
   simpa using(beq_iff_eq.1 hq).symm
  ·cases j with
   |zero=>
    exfalso
    have:∀(es:List (List Int×LV)) (ents:List MapEntry) (i m:Nat) (v:Value),fnd xs1 es ents i=some (m,v)→i≤m:=by
     intro es
     induction es with
     |nil=>intro ents i m v h;simp[fnd]at h
     |cons p es ih=>
      intro ents i m v h
      cases ents with
      |nil=>simp[fnd]at h
      |cons e ents=>
       simp only[fnd]at h
       split at h
       ·simp at h;omega
       ·have:=ih _ _ _ _ h;omega
    have:=this _ _ _ _ _ h
    omega
   |succ j=>
    have:=aFm es ents (i+1) j v (by rw[h];congr 2;omega)
    simpa using this
theorem aEw{ents:List MapEntry}{j:Nat}{en:MapEntry}{k v:Value}(h:ents[j]?=some en)(hk:en.key=k):ents.toArray.modify j (fun e=>{ e with val:=v })=(ents.modify j fun e=>{ e with key:=k,val:=v }).toArray:=by
 rw[List.modify_toArray]
 congr 1
 apply List.ext_getElem?
 intro n
 rw[List.getElem?_modify,List.getElem?_modify]
 by_cases hjn:j=n
 ·subst hjn
  rw[h]
  simp[hk]
 ·simp[hjn]
theorem zE{l:List MapEntry}(hn:(l.map (·.born)).Nodup){j:Nat}{e0:MapEntry}(h:l[j]?=some e0):l.findIdx? (fun e=>(e.born:Int)==(e0.born:Int))=some j:=by
 obtain⟨hj,he⟩:=List.getElem?_eq_some_iff.1 h
 rw[List.findIdx?_eq_some_iff_getElem]
 refine⟨hj,by rw[he];simp,fun i hi=>?_⟩
 simp only[beq_iff_eq,Int.natCast_inj]
 intro hb
 have h1:=(List.pairwise_iff_getElem.1 hn) i j (by simp;omega) (by simpa using hj) hi
 apply h1
 simp[hb,he]
theorem wB(hi:Inv w g st){t l born:Nat}{ag:Bool}{ks:List IntKind}{es:List (List Int×LV)}{xs1:List Int}(hl:st.H l=.map ag ks es)(hlen:xs1.length=ks.length)(ho:aJj w (g.β l) xs1 es born){y:LV}{v:Value}(hv:Rep w g y v):
 ∃ w',(Instr.entryStore t (.map (some (g.β l))) (goInt born) v).run P w=.ok () w'∧Inv w' g (st.set l (.map ag ks (aS es xs1 y)))∧Ext w g w' g:=by
 obtain⟨m0,m1,ents,clock,m2,m3,m4,m5,m6,m7⟩:=hi.mp l _ _ es hl
 obtain⟨ents',clock',j,en,h1,h2,rfl,h4⟩:=ho
 rw[m2]at h1
 injection h1 with h1
 injection h1 with h1 h1'
 have h1:=congrArg Array.toList h1
 simp only at h1
 subst h1 h1'
 obtain⟨a1,a2,a3⟩:=wH (ag:=ag) (ks:=ks) hv es ents 0 j en.val h4 m3 m4
 obtain⟨b1,b2⟩:=eA (clock':=clock) hi hl (qV m1 hlen) a1 a2 (fun z hz=>by
  have:z.born∈(ents.map (·.born)):=by rw[← a3];exact List.mem_map.2 ⟨z,hz,rfl⟩
  obtain⟨z',hz',hb⟩:=List.mem_map.1 this
  rw[← hb];exact m6 z' hz') (by rw[a3];exact m7)
 refine⟨_,?_,b1,b2⟩
 unfold Instr.entryStore
 simp only[Sem.run_bind,Result.andThen_ok,MapKept.run_getObj_map m2]
 have hb:(asInt (goInt (en.born:Int))).run P w=.ok (en.born:Int) w:=by simp[asInt,goInt,asIntOf]
 rw[hb]
 simp only[Result.andThen_ok]
 have hf:ents.toArray.findIdx? (fun e=>(e.born:Int)==(en.born:Int))=some j:=by
  have:=zE m7 h2
  simpa using this
 rw[hf]
 simp only
 rw[MapKept.run_setObj_map _ m2]
 have hkey:=aFm es ents 0 j en.val h4
 have hek:en.key=mkV ag ks xs1:=by
  have h1:(ents.map (·.key))[j]?=some en.key:=by simp[h2]
  rw[m3,List.getElem?_map]at h1
  cases hej:es[j]? with
  |none=>simp[hej]at hkey
  |some q=>simp[hej]at hkey h1;rw[← h1,hkey]
 rw[aEw h2 hek]
end
theorem aHz(es:List (List Int×LV))(k:List Int)(v v':LV):aS (aS es k v) k v'=aS es k v':=by
 induction es with
 |nil=>simp[aS]
 |cons p es ih=>
  by_cases h:k=p.1
  ·simp[aS,h]
  ·simp[aS,h,ih]
theorem aJX(st:St)(l:Nat)(a b:aD):(st.set l a).set l b=st.set l b:=by
 unfold St.set
 congr 1
 funext x
 by_cases h:x=l<;>simp[h]
theorem bS.loose{w:World}{g:G}{a:Act}{fr fr':Frm}(h:bS w g a fr)(hl:∀ t,fr' t=fr t∨fr' t=.dead):bS w g a fr':=fun t=>by
 rcases hl t with e|e
 ·rw[e];exact h t
 ·rw[e];simp only[Rep]
def tO(ops:Array Oper)(i:Nat)(op:Op)(d:Option Nat):Prop:=∃ o,ops[i]?=some o∧o.op=op∧o.dst=d∧o.guard=none
section
variable {P:Program} {T:Tab} {ops:Array Oper} {N:Nat} {X:Act→World→Prop}
theorem fD{i:Nat}{op:Op}{d:Nat}{v:Value}{fuel:Nat}{listed:Array Bool}{a:Act}{w:World}(ho:tO ops i op (some d))(hs:Region.noSelect ops=true)(hf:Region.free .any ops listed i=true)(hr:(Region.ready .any ops listed).contains i=true)
 (hrun:∀(o:Oper) (w:World),o.op=op→(execOp a.eval o).run P w=.ok (.value v) w) (h:wpAny P .any ops (fun e a w=>e=.normal∧X a w) fuel (listed.setIfInBounds i true) (a.put (some d) v) w):wpAny P .any ops (fun e a w=>e=.normal∧X a w) (fuel+1) listed a w:=by
 obtain⟨o,h1,h2,h3,h4⟩:=ho
 refine wpAny_take (v:=v) h1 hs hf hr (fun c a w h=>by cases h.1) (.inl ⟨?_,fun w=>hrun o w h2⟩) (by rw[h3];exact h)
 simp[Region.wanted,h4]
theorem kI{i:Nat}{op:Op}{d:Option Nat}{v:Value}{a:Act}{w w':World}{Q:Exit→Act→World→Prop}{K:Act→World→Prop}(ho:tO ops i op d)(hrun:∀ o:Oper,o.op=op→(execOp a.eval o).run P w=.ok (.value v) w')(h:K (a.put d v) w'):wpOp P ops Q i K a w:=by
 obtain⟨o,h1,h2,h3,h4⟩:=ho
 unfold wpOp
 simp only[h1]
 rw[if_pos (by simp[Region.wanted,h4])]
 left
 unfold Oper.wp
 rw[hrun o h2,Oper.upon_value,h3]
 exact h
theorem step_skip{i:Nat}{op:Op}{a:Act}{w w':World}{Q:Exit→Act→World→Prop}{K:Act→World→Prop}(ho:tO ops i op none)(hrun:∀ o:Oper,o.op=op→(execOp a.eval o).run P w=.ok .skip w')(h:K a w'):wpOp P ops Q i K a w:=by
 obtain⟨o,h1,h2,h3,h4⟩:=ho
 unfold wpOp
 simp only[h1]
 rw[if_pos (by simp[Region.wanted,h4])]
 left
 unfold Oper.wp
 rw[hrun o h2,Oper.upon_skip]
 simpa[h3,Act.put]using h
def aMM(ops:Array Oper):Bool:=
 let R:=fun L=>Region.ready .any ops L
 let F:=fun L i=>Region.free .any ops L i&&(R L).contains i
 Region.noSelect ops&&F #[false,false,false,false,false,false,false,false,false] 0&&F #[true,false,false,false,false,false,false,false,false] 1&&F #[true,true,false,false,false,false,false,false,false] 2&&
  (R #[true,true,true,false,false,false,false,false,false]==[3])&&(R #[true,true,true,true,false,false,false,false,false]==[4,6])&&F #[true,true,true,true,true,false,false,false,false] 5&&(R #[true,true,true,true,true,true,false,false,false]==[6])&&
  F #[true,true,true,true,true,true,true,false,false] 7&&(R #[true,true,true,true,true,true,true,true,false]==[8])&&(R #[true,true,true,true,true,true,true,true,true]==[])&&F #[true,true,true,true,false,false,true,false,false] 7&&
  (R #[true,true,true,true,false,false,true,true,false]==[4])&&F #[true,true,true,true,true,false,true,true,false] 5
end
section
variable {ops:Array Oper} {N:Nat}
theorem aLn{Q:AQ}{id l:Nat}{fr:Frm}{st:St}{es:List (List Int×LV)}{a b c:Int}(hsz:ops.size=9)
 (h0:tO ops 0 (.move (.tmp 9)) (some 53)) (h1:tO ops 1 (.move (.tmp 11)) (some 54)) (h2:tO ops 2 (.move (.tmp 15)) (some 55)) (h3:tO ops 3 (.build 73 #[(0,.tmp 54),(1,.tmp 55)]) (some 56))
 (h4:tO ops 4 (.lookup 97 (.tmp 53) (.tmp 56) false) (some 57)) (h5:tO ops 5 (.binOp .add 3 (.tmp 57) (.const (.int .i64 1)) 3) (some 58))
 (h6:tO ops 6 (.mapEntry 97 (.tmp 53) (.tmp 56)) (some 59)) (h7:tO ops 7 (.extract (.tmp 59) 1) (some 60)) (h8:tO ops 8 (.entryStore 97 (.tmp 53) (.tmp 60) (.tmp 58)) none)
 (hreg:cE N ops ops.toList=true) (hN:60<N) (hk:aMM ops=true)
 (f9:fr 9=.mp l) (f11:fr 11=u a) (f15:fr 15=u b) (hM:st.H l=.map true [.u32,.u32] es) (hc:(aR es [a,b]).getD (i 0)=i c) (hw:IntKind.i64.wrap (c+1)=c+1)
 (hQ:∀ fr',(∀ t,t<53∨60<t→fr' t=fr t)→Q .normal fr' (st.set l (.map true [.u32,.u32] (aS es [a,b] (i (c+1)))))) (hm:Tryz.prog.follows .mixedOrders=true:=by kernel_rfl):
 AWp Tryz.prog N (.region id ops true) Q fr st:=by
 intro A w g hi hr hsz2 hd
 refine Code.wp_mono (Q:=fun e a' w'=>e=.normal∧∃ fr' g',(∀ t,t<53∨60<t→fr' t=fr t)∧Inv w' g' (st.set l (.map true [.u32,.u32] (aS es [a,b] (i (c+1)))))∧bS w' g' a' fr'∧a'.tmps.size=N∧a'.defers=[]∧Ext w g w' g') ?_ ?_
 ·rintro e a' w' ⟨rfl,fr',g',k1,k2,k3,k4,k5,k6⟩
  exact⟨fr',_,g',hQ fr' k1,k2,k3,k4,k5,k6⟩
 refine wp_region_any hm ?_
 rw[hsz]
 simp only[aMM,Bool.and_eq_true,beq_iff_eq]at hk
 obtain⟨⟨⟨⟨⟨⟨⟨⟨⟨⟨⟨⟨⟨hs,k0a,k0b⟩,k1a,k1b⟩,k2a,k2b⟩,k3⟩,k4⟩,k5a,k5b⟩,k6⟩,k7a,k7b⟩,k8⟩,k9⟩,j7a,j7b⟩,j4⟩,j5a,j5b⟩:=hk
 have he0:=cG w g
 have hi0:=hi.drew
 have r0:=hr.mono he0
 change wpAny _ _ _ _ 9 _ A w.drew
 generalize w.drew=w0 at *
 have v9:A.eval (.tmp 9)=.map (some (g.β l)):=by have:=aI r0 (.tmp 9);simp only[aJ,f9,Rep]at this;exact this.1
 refine fD (v:=A.eval (.tmp 9)) h0 hs k0a k0b (fun o w ho=>by simp[execOp,ho]) ?_
 have r1:bS w0 g (A.put (some 53) (A.eval (.tmp 9))) (upd fr 53 (.mp l)):=r0.put (by omega) (by have:=aI r0 (.tmp 9);simpa only[aJ,f9]using this)
 have s1:=(aU A (some 53) (A.eval (.tmp 9))).trans hsz2
 have d1:=(put_defers A (some 53) (A.eval (.tmp 9))).trans hd
 generalize A.put (some 53) (A.eval (.tmp 9))=A1 at *
 refine fD (v:=A1.eval (.tmp 11)) h1 hs k1a k1b (fun o w ho=>by simp[execOp,ho]) ?_
 have r2:bS w0 g (A1.put (some 54) (A1.eval (.tmp 11))) (upd (upd fr 53 (.mp l)) 54 (u a)):=r1.put (by omega) (by have:=aI r1 (.tmp 11);simpa[aJ,upd,f11]using this)
 have s2:=(aU A1 (some 54) (A1.eval (.tmp 11))).trans s1
 have d2:=(put_defers A1 (some 54) (A1.eval (.tmp 11))).trans d1
 generalize A1.put (some 54) (A1.eval (.tmp 11))=A2 at *
 refine fD (v:=A2.eval (.tmp 15)) h2 hs k2a k2b (fun o w ho=>by simp[execOp,ho]) ?_
 have r3:bS w0 g (A2.put (some 55) (A2.eval (.tmp 15))) (upd (upd (upd fr 53 (.mp l)) 54 (u a)) 55 (u b)):=r2.put (by omega) (by have:=aI r2 (.tmp 15);simpa[aJ,upd,f15]using this)
 have s3:=(aU A2 (some 55) (A2.eval (.tmp 15))).trans s2
 have d3:=(put_defers A2 (some 55) (A2.eval (.tmp 15))).trans d2
 generalize A2.put (some 55) (A2.eval (.tmp 15))=A3 at *
 refine wpAny_all k3 (by simp) fun i hmem=>?_
 obtain rfl:i=3:=by simpa using hmem
 obtain⟨o3,q1,q2,q3,q4⟩:=h3
 have hko:jO N o3.dst=true∧fL N ops o3.guard=true:=by
  unfold cE at hreg
  rw[List.all_eq_true]at hreg
  have:=hreg o3 (Array.mem_toList_iff.2 (Array.mem_of_getElem? q1))
  simpa using this
 refine sQ (N:=N) (T:=tab) (M:=[]) (K:=fun fr' st'=>fr'=upd (upd (upd (upd fr 53 (.mp l)) 54 (u a)) 55 (u b)) 56 (.ag [u a,u b])∧st'=st) aK q1 hko.1 hko.2 hi0 r3 s3 d3 he0 (fun fr' st' A4 w1 g1 hi1 r4 s4 d4 he1 hK=>?_) ?_
 rotate_left
 ·unfold fY
  simp only[q4,aY,q2,q3]
  refine⟨fun _=>?_,fun h=>by cases h⟩
  have e:aop tab (inM [] (some 56)) o3 (upd (upd (upd fr 53 (.mp l)) 54 (u a)) 55 (u b)) st=wO tab 73 [(0,u a),(1,u b)] st:=by
   unfold aop;rw[q2];rfl
  rw[e]
  exact⟨rfl,rfl,rfl⟩
 obtain⟨rfl,rfl⟩:=hK
 clear r0 r1 r2 r3 s1 s2 s3 d1 d2 d3 hi0 he0 hr hi hd hsz2 v9
 change wpAny _ _ _ _ 5 #[true,true,true,true,false,false,false,false,false] A4 w1
 obtain⟨F,hF⟩:∃ F,F=upd (upd (upd (upd fr 53 (.mp l)) 54 (u a)) 55 (u b)) 56 (.ag [u a,u b]):=⟨_,rfl⟩
 rw[← hF]at r4
 have F53:F 53=.mp l:=by rw[hF];simp[upd]
 have F56:F 56=.ag [u a,u b]:=by rw[hF];simp[upd]
 have Fo:∀ t,t<53∨60<t→F t=fr t:=fun t ht=>by rw[hF];simp[upd,show t≠53 by omega,show t≠54 by omega,show t≠55 by omega,show t≠56 by omega]
 clear hF
 obtain⟨rk,hrk,hck,hag⟩:∃ rk,tab 73=some rk∧rk.ck=some [.u32,.u32]∧rk.agg=true:=⟨_,rfl,rfl,rfl⟩
 obtain⟨re,hre,hze⟩:∃ re,tab 3=some re∧jZ re=i 0:=⟨_,rfl,rfl⟩
 have hme:fS tab 97=some (73,3):=rfl
 obtain⟨vE,born,w2,e1,e2,e3,e4⟩:=aBm (xs1:=[a,b]) aK hi1 hme hrk hre hck (by rw[hag];exact hM) rfl
 rw[hag]at e1
 rw[hag,hze,hc]at e2
 rw[hze,hc]at e4
 have hM2:(st'.set l (.map true [.u32,.u32] (aS es [a,b] (i c)))).H l=.map true [.u32,.u32] (aS es [a,b] (i c)):=by simp
 obtain⟨w3,x1,x2,x3⟩:=wB (P:=Tryz.prog) (t:=97) e2 hM2 rfl e4 (y:=i (c+1)) (v:=.int .i64 (c+1)) (by simp only[Rep])
 rw[aJX,aHz]at x2
 have key:∀(A:Act) (G:Frm),bS w1 g1 A G→G 53=.mp l→G 56=.ag [u a,u b]→A.eval (.tmp 53)=.map (some (g1.β l))∧A.eval (.tmp 56)=mkV true [.u32,.u32] [a,b]:=fun A G h k1 k2=>by
  have q1:=aI h (.tmp 53)
  have q2:=aI h (.tmp 56)
  simp only[aJ,k1,k2]at q1 q2
  refine⟨by simp only[Rep]at q1;exact q1.1,(kT (ag:=true) (ks:=[.u32,.u32]) (xs1:=[a,b]) rfl q2).1⟩
 have he3:Ext w g w3 g1:=(he1.trans e3).trans x3
 have hadd:∀(A:Act) (w:World) (o:Oper),A.eval (.tmp 57)=.int .i64 c→o.op=.binOp .add 3 (.tmp 57) (.const (.int .i64 1)) 3→(execOp A.eval o).run Tryz.prog w=.ok (.value (.int .i64 (c+1))) w:=fun A w o hv ho=>by
  obtain⟨_,z,hz,hr⟩:=sR (w:=w) (g:=g1) (st:=st') (T:=tab) aK (op:=.add) (t:=3) (x:=i c) (y:=i 1) (v:=.int .i64 c) (u:=.int .i64 1) (.tmp 57) (.const (.int .i64 1)) rfl rfl (by simp only[Rep]) (by simp only[Rep])
  have hz2:z=.int .i64 (c+1):=by
   simp only[Rep]at hr
   rw[hr,hw]
  rw[hz2]at hz
  have hv':A.tmps.getD 57 undef=.int .i64 c:=hv
  simp only[execOp,ho,Sem.run_bind,Act.eval]at hz ⊢
  rw[hv',hz]
  simp
 have hlook:∀ {w:World} {s:St} {es':List (List Int×LV)} (A:Act) (G:Frm),Inv w g1 s→s.H l=.map true [.u32,.u32] es'→(aR es' [a,b]).getD (i 0)=i c→bS w g1 A G→G 53=.mp l→G 56=.ag [u a,u b]→∀ o:Oper,o.op=.lookup 97 (.tmp 53) (.tmp 56) false→(execOp A.eval o).run Tryz.prog w=.ok (.value (.int .i64 c)) w:=fun {w s es'} A G hi hH hg hr k1 k2 o ho=>by
  have q1:=aI hr (.tmp 53)
  have q2:=aI hr (.tmp 56)
  simp only[aJ,k1,k2]at q1 q2
  obtain⟨r,he,hrc,hrv⟩:∃ r,kX tab 97 (.mp l) (.ag [u a,u b]) false s=some r∧r.c∧r.v=(aR es' [a,b]).getD (jZ re):=by
   unfold kX
   rw[hme]
   simp only[hrk,hre,show rT (.ag [u a,u b])=some (true,[.u32,.u32],[a,b]) from rfl,hH]
   exact⟨_,rfl,⟨hck,hag,trivial,trivial⟩,rfl⟩
  obtain⟨_,z,hz,hzr⟩:=rB (P:=Tryz.prog) (T:=tab) aK hi he hrc q1 q2
  rw[hrv]at hzr
  simp only[hze,hg,Rep]at hzr
  rw[hzr]at hz
  simp only[execOp,ho,Sem.run_bind]
  rw[hz]
  simp
 have hcd:(aR (aS es [a,b] (i c)) [a,b]).getD (i 0)=i c:=by rw[cL,if_pos rfl];rfl
 refine wpAny_all k4 (by simp) fun i hmem=>?_
 have hi46:i=4∨i=6:=by simpa using hmem
 rcases hi46 with rfl|rfl
 ·refine kI (v:=.int .i64 c) h4 (hlook A4 F hi1 hM hc r4 F53 F56) ?_
  have r5:bS w1 g1 (A4.put (some 57) (.int .i64 c)) (upd F 57 (Aw.i c)):=r4.put (by omega) (by simp only[Rep])
  have s5:=(aU A4 (some 57) (.int .i64 c)).trans s4
  have d5:=(put_defers A4 (some 57) (.int .i64 c)).trans d4
  generalize A4.put (some 57) (.int .i64 c)=A5 at *
  change wpAny _ _ _ _ 4 #[true,true,true,true,true,false,false,false,false] A5 w1
  have v57:A5.eval (.tmp 57)=.int .i64 c:=by have:=aI r5 (.tmp 57);simpa[aJ,upd,Rep]using this
  refine fD (v:=.int .i64 (c+1)) h5 hs k5a k5b (fun o w ho=>hadd A5 w o v57 ho) ?_
  have r6:bS w1 g1 (A5.put (some 58) (.int .i64 (c+1))) (upd (upd F 57 (Aw.i c)) 58 (Aw.i (c+1))):=r5.put (by omega) (by simp only[Rep])
  have s6:=(aU A5 (some 58) (.int .i64 (c+1))).trans s5
  have d6:=(put_defers A5 (some 58) (.int .i64 (c+1))).trans d5
  generalize A5.put (some 58) (.int .i64 (c+1))=A6 at *
  change wpAny _ _ _ _ 3 #[true,true,true,true,true,true,false,false,false] A6 w1
  refine wpAny_all k6 (by simp) fun i hmem=>?_
  obtain rfl:i=6:=by simpa using hmem
  obtain⟨v53,v56⟩:=key A6 _ r6 (by simp[upd,F53]) (by simp[upd,F56])
  refine kI (w':=w2) (v:=.tuple #[vE,goInt born]) h6 (fun o ho=>by simp only[execOp,ho,Sem.run_bind,v53,v56];rw[e1];simp) ?_
  have r7:bS w2 g1 (A6.put (some 59) (.tuple #[vE,goInt born])) (upd (upd (upd F 57 (Aw.i c)) 58 (Aw.i (c+1))) 59 (.tu [.dead,.atom (goInt born)])):=(r6.mono e3).put (by omega) (by simp only[Rep,aH];exact⟨[vE,goInt born],rfl,_,_,rfl,trivial,_,_,rfl,rfl,rfl⟩)
  have s7:=(aU A6 (some 59) (.tuple #[vE,goInt born])).trans s6
  have d7:=(put_defers A6 (some 59) (.tuple #[vE,goInt born])).trans d6
  have v59:(A6.put (some 59) (.tuple #[vE,goInt born])).eval (.tmp 59)=.tuple #[vE,goInt born]:=by simp[Act.put,Act.eval,Array.getD_eq_getD_getElem?,show 59<A6.tmps.size by omega]
  generalize A6.put (some 59) (.tuple #[vE,goInt born])=A7 at *
  change wpAny _ _ _ _ 2 #[true,true,true,true,true,true,true,false,false] A7 w2
  refine fD (v:=goInt born) h7 hs k7a k7b (fun o w ho=>by simp[execOp,ho,v59,Instr.extract]) ?_
  have r8:bS w2 g1 (A7.put (some 60) (goInt born)) (upd (upd (upd (upd F 57 (Aw.i c)) 58 (Aw.i (c+1))) 59 (.tu [.dead,.atom (goInt born)])) 60 (.atom (goInt born))):=r7.put (by omega) (by simp only[Rep])
  have s8:=(aU A7 (some 60) (goInt born)).trans s7
  have d8:=(put_defers A7 (some 60) (goInt born)).trans d7
  generalize A7.put (some 60) (goInt born)=A8 at *
  change wpAny _ _ _ _ 1 #[true,true,true,true,true,true,true,true,false] A8 w2
  refine wpAny_all k8 (by simp) fun i hmem=>?_
  obtain rfl:i=8:=by simpa using hmem
  have v53:A8.eval (.tmp 53)=.map (some (g1.β l)):=by have:=aI r8 (.tmp 53);simp[aJ,upd,F53,Rep]at this;exact this.1
  have v60:A8.eval (.tmp 60)=goInt born:=by have:=aI r8 (.tmp 60);simpa[aJ,upd,Rep]using this
  have v58:A8.eval (.tmp 58)=.int .i64 (c+1):=by have:=aI r8 (.tmp 58);simpa[aJ,upd,Rep]using this
  refine step_skip (w':=w3) h8 (fun o ho=>by simp only[execOp,ho,Sem.run_bind,v53,v60,v58];rw[x1];simp) ?_
  refine⟨k9,rfl,fun t=>if t<53∨60<t then fr t else .dead,g1,fun t ht=>if_pos ht,x2,(r8.mono x3).loose fun t=>?_,s8,d8,he3⟩
  by_cases ht:t<53∨60<t
  ·left
   rw[if_pos ht]
   simp only[upd]
   rw[if_neg (by omega),if_neg (by omega),if_neg (by omega),if_neg (by omega)]
   exact(Fo t ht).symm
  ·exact .inr (if_neg ht)
 ·obtain⟨v53,v56⟩:=key A4 _ r4 F53 F56
  refine kI (w':=w2) (v:=.tuple #[vE,goInt born]) h6 (fun o ho=>by simp only[execOp,ho,Sem.run_bind,v53,v56];rw[e1];simp) ?_
  have r5:bS w2 g1 (A4.put (some 59) (.tuple #[vE,goInt born])) (upd F 59 (.tu [.dead,.atom (goInt born)])):=(r4.mono e3).put (by omega) (by simp only[Rep,aH];exact⟨[vE,goInt born],rfl,_,_,rfl,trivial,_,_,rfl,rfl,rfl⟩)
  have s5:=(aU A4 (some 59) (.tuple #[vE,goInt born])).trans s4
  have d5:=(put_defers A4 (some 59) (.tuple #[vE,goInt born])).trans d4
  have v59:(A4.put (some 59) (.tuple #[vE,goInt born])).eval (.tmp 59)=.tuple #[vE,goInt born]:=by simp[Act.put,Act.eval,Array.getD_eq_getD_getElem?,show 59<A4.tmps.size by omega]
  generalize A4.put (some 59) (.tuple #[vE,goInt born])=A5 at *
  change wpAny _ _ _ _ 4 #[true,true,true,true,false,false,true,false,false] A5 w2
  refine fD (v:=goInt born) h7 hs j7a j7b (fun o w ho=>by simp[execOp,ho,v59,Instr.extract]) ?_
  have r6:bS w2 g1 (A5.put (some 60) (goInt born)) (upd (upd F 59 (.tu [.dead,.atom (goInt born)])) 60 (.atom (goInt born))):=r5.put (by omega) (by simp only[Rep])
  have s6:=(aU A5 (some 60) (goInt born)).trans s5
  have d6:=(put_defers A5 (some 60) (goInt born)).trans d5
  generalize A5.put (some 60) (goInt born)=A6 at *
  change wpAny _ _ _ _ 3 #[true,true,true,true,false,false,true,true,false] A6 w2
  refine wpAny_all j4 (by simp) fun i hmem=>?_
  obtain rfl:i=4:=by simpa using hmem
  refine kI (w':=w2) (v:=.int .i64 c) h4 (hlook A6 _ e2 hM2 hcd r6 (by simp[upd,F53]) (by simp[upd,F56])) ?_
  have r7:bS w2 g1 (A6.put (some 57) (.int .i64 c)) (upd (upd (upd F 59 (.tu [.dead,.atom (goInt born)])) 60 (.atom (goInt born))) 57 (Aw.i c)):=r6.put (by omega) (by simp only[Rep])
  have s7:=(aU A6 (some 57) (.int .i64 c)).trans s6
  have d7:=(put_defers A6 (some 57) (.int .i64 c)).trans d6
  generalize A6.put (some 57) (.int .i64 c)=A7 at *
  change wpAny _ _ _ _ 2 #[true,true,true,true,true,false,true,true,false] A7 w2
  have v57:A7.eval (.tmp 57)=.int .i64 c:=by have:=aI r7 (.tmp 57);simpa[aJ,upd,Rep]using this
  refine fD (v:=.int .i64 (c+1)) h5 hs j5a j5b (fun o w ho=>hadd A7 w o v57 ho) ?_
  have r8:bS w2 g1 (A7.put (some 58) (.int .i64 (c+1))) (upd (upd (upd (upd F 59 (.tu [.dead,.atom (goInt born)])) 60 (.atom (goInt born))) 57 (Aw.i c)) 58 (Aw.i (c+1))):=r7.put (by omega) (by simp only[Rep])
  have s8:=(aU A7 (some 58) (.int .i64 (c+1))).trans s7
  have d8:=(put_defers A7 (some 58) (.int .i64 (c+1))).trans d7
  generalize A7.put (some 58) (.int .i64 (c+1))=A8 at *
  change wpAny _ _ _ _ 1 #[true,true,true,true,true,true,true,true,false] A8 w2
  refine wpAny_all k8 (by simp) fun i hmem=>?_
  obtain rfl:i=8:=by simpa using hmem
  have v53:A8.eval (.tmp 53)=.map (some (g1.β l)):=by have:=aI r8 (.tmp 53);simp[aJ,upd,F53,Rep]at this;exact this.1
  have v60:A8.eval (.tmp 60)=goInt born:=by have:=aI r8 (.tmp 60);simpa[aJ,upd,Rep]using this
  have v58:A8.eval (.tmp 58)=.int .i64 (c+1):=by have:=aI r8 (.tmp 58);simpa[aJ,upd,Rep]using this
  refine step_skip (w':=w3) h8 (fun o ho=>by simp only[execOp,ho,Sem.run_bind,v53,v60,v58];rw[x1];simp) ?_
  refine⟨k9,rfl,fun t=>if t<53∨60<t then fr t else .dead,g1,fun t ht=>if_pos ht,x2,(r8.mono x3).loose fun t=>?_,s8,d8,he3⟩
  by_cases ht:t<53∨60<t
  ·left
   rw[if_pos ht]
   simp only[upd]
   rw[if_neg (by omega),if_neg (by omega),if_neg (by omega),if_neg (by omega)]
   exact(Fo t ht).symm
  ·exact .inr (if_neg ht)
end
end Go.Proofs.YtempldclppogmaaGreatDoor.Aw
namespace Go.Proofs.YtempldclppogmaaGreatDoor.Aw
open Go Go.RowKit Go.Proofs.YtempldclppogmaaGreatDoor.Pl
structure Wy where
 seen:List (Int×Int)
 W:List (List Int)
 e:Int
def pW(es:List Ed)(S:Wy)(d:Int):Option Wy:=
 let v:=bG es d
 let way:=eR es d
 let x:=way.getD (way.length-1) 0
 if x=v then none else if x<v then some S else if(v,x)∈S.seen then none else some ⟨(v,x)::S.seen,S.W++[way],S.e-(way.length-1:Nat)⟩
def tR(es:List Ed):List Int→Wy→Option Wy
 |[],S=>some S
 |d::ds,S=>(pW es S d).bind (tR es ds)
def aBL(sm:List (List Int×LV))(L:List (Int×Int)):Prop:=∀ a b,(aR sm [a,b]).getD (i 0)=i (if(a,b)∈L then 1 else 0)
theorem aBL.put{sm:List (List Int×LV)}{L:List (Int×Int)}(h:aBL sm L){a b:Int}(hn:(a,b)∉L):aBL (aS sm [a,b] (i (0+1))) ((a,b)::L):=fun x y=>by
 rw[cL]
 by_cases hx:([x,y]:List Int)=[a,b]
 ·rw[if_pos hx]
  have h1:x=a∧y=b:=by simpa using hx
  rw[h1.1,h1.2];simp
 ·rw[if_neg hx,h x y]
  have h1:¬(x=a∧y=b):=by simpa using hx
  simp[h1]
def wOf(W:List (List Int))(x:Int):List Int:=(W.find? fun w=>decide (dZ w=x)).getD []
def kV(W:List (List Int)):List (List Int):=(mR (W.map dZ)).map (wOf W)
def aBf:Option Wy→LV
 |none=>.tu [.sl 0 0 [],bb false]
 |some S=>.tu [.sl 0 S.W.length (bA (kV S.W)),bb (decide (S.e=0))]
theorem kW{W:List (List Int)}(hn:(W.map dZ).Nodup){w:List Int}(hw:w∈W):wOf W (dZ w)=w:=by
 unfold wOf
 cases hf:W.find? (fun w'=>decide (dZ w'=dZ w)) with
 |none=>exact absurd (decide_eq_true (rfl:dZ w=dZ w)) (List.find?_eq_none.1 hf w hw)
 |some w'=>
  have h1:=List.mem_of_find?_eq_some hf
  have h2:dZ w'=dZ w:=by simpa using List.find?_some hf
  obtain⟨a,ha,rfl⟩:=List.getElem_of_mem h1
  obtain⟨b,hb,rfl⟩:=List.getElem_of_mem hw
  have h3:=(List.pairwise_iff_getElem.1 hn)
  rcases Nat.lt_trichotomy a b with h|h|h
  ·exact absurd (by rw[List.getElem_map,List.getElem_map];exact h2) (h3 a b (by simpa using ha) (by simpa using hb) h)
  ·subst h;rfl
  ·exact absurd (by rw[List.getElem_map,List.getElem_map];exact h2.symm) (h3 b a (by simpa using hb) (by simpa using ha) h)
structure oW(es:List Ed)(n:Nat)(S:Wy):Prop where
 labs:(S.W.map dZ).Nodup
 seen:∀ w∈S.W,(w.getD 0 0,w.getD (w.length-1) 0)∈S.seen
 len:∀ w∈S.W,2≤w.length∧w.length≤2*es.length+1
 bnd:∀ w∈S.W,∀ v∈w,0≤v∧v<4294967296
 few:S.W.length≤n
 lo : -(300*(S.W.length:Int))≤S.e
 hi:S.e≤1000
section
variable {es:List Ed} (hids:es.Pairwise fun x y=>x.id<y.id)
include hids
theorem mX{d:Int}{k:Nat}(ht:eH es d k):eR es d=bG es d::(List.range (k+1)).map fun i=>bG es (tw (cF es i d)):=by
 unfold eR
 rw[ht.dS hids]
 simp only[List.map_map]
 rfl
theorem qJ{d:Int}{k:Nat}(ht:eH es d k):(eR es d).length=k+2:=by rw[mX hids ht];simp
theorem aIL{d:Int}{k:Nat}(ht:eH es d k){v:Int}(hv:v∈eR es d):∃ e∈bP es,v=bG es e:=by
 rw[mX hids ht]at hv
 rcases List.mem_cons.1 hv with rfl|hv
 ·exact⟨d,ht.dart,rfl⟩
 ·obtain⟨i,hi,rfl⟩:=List.mem_map.1 hv
  exact⟨_,pY.2 (ht.bP hids (by have:=List.mem_range.1 hi;omega)),rfl⟩
end
theorem aKs{x y:List Int}(hx:∀ v∈x,0≤v∧v<4294967296)(hy:∀ v∈y,0≤v∧v<4294967296)(h1:0<x.length)(h2:0<y.length)(h:dZ x=dZ y):x.getD 0 0=y.getD 0 0∧x.getD (x.length-1) 0=y.getD (y.length-1) 0:=by
 have hm:∀(l:List Int) (k:Nat),k<l.length→l.getD k 0∈l:=fun l k hk=>by rw[aX _ _ hk];exact List.getElem_mem hk
 have b1:=hx _ (hm x 0 h1)
 have b2:=hy _ (hm y 0 h2)
 have b3:=hx _ (hm x (x.length-1) (by omega))
 have b4:=hy _ (hm y (y.length-1) (by omega))
 unfold dZ at h
 omega
theorem oW.step{es:List Ed}(hids:es.Pairwise fun x y=>x.id<y.id)(hes:es.length≤100)(hvb:∀ e∈bP es,0≤bG es e∧bG es e<4294967296){n:Nat}{S S':Wy}(h:oW es n S){d:Int}{k:Nat}(ht:eH es d k)(hs:pW es S d=some S'):oW es (n+1) S':=by
 have hl:=qJ hids ht
 have hk:=ht.lt hids
 have hb:∀ v∈eR es d,0≤v∧v<4294967296:=fun v hv=>by obtain⟨e,he,rfl⟩:=aIL hids ht hv;exact hvb e he
 have h0:(eR es d).getD 0 0=bG es d:=by rw[mX hids ht];rfl
 unfold pW at hs
 simp only at hs
 split at hs
 ·cases hs
 split at hs
 ·injection hs with hs;subst hs
  exact⟨h.labs,h.seen,h.len,h.bnd,by have:=h.few;omega,h.lo,h.hi⟩
 split at hs
 ·cases hs
 rename_i hns
 injection hs with hs;subst hs
 refine⟨?_,fun w hw=>?_,fun w hw=>?_,fun w hw=>?_,?_,?_,?_⟩
 ·rw[List.map_append,List.nodup_append]
  refine⟨h.labs,by simp,fun a ha b hb'=>?_⟩
  obtain⟨w,hw,rfl⟩:=List.mem_map.1 ha
  rw[List.map_cons,List.map_nil,List.mem_singleton]at hb'
  rintro rfl
  obtain⟨e1,e2⟩:=aKs (h.bnd w hw) hb (by have:=(h.len w hw).1;omega) (by omega) hb'
  have:=h.seen w hw
  rw[e1,e2,h0]at this
  exact hns this
 ·rcases List.mem_append.1 hw with hw|hw
  ·exact List.mem_cons_of_mem _ (h.seen w hw)
  ·rw[List.mem_singleton.1 hw,h0];exact List.mem_cons_self
 ·rcases List.mem_append.1 hw with hw|hw
  ·exact h.len w hw
  ·rw[List.mem_singleton.1 hw,hl];omega
 ·rcases List.mem_append.1 hw with hw|hw
  ·exact h.bnd w hw
  ·rw[List.mem_singleton.1 hw];exact hb
 ·have:=h.few;simp;omega
 ·have:=h.lo;simp only[List.length_append,List.length_singleton,hl];omega
 ·have:=h.hi;simp only[hl];omega
theorem aNa(W:List (List Int))(hn:∀ w∈W,2≤w.length∧w.length≤1000)(hb:∀ w∈W,∀ v∈w,0≤v∧v<4294967296)(hl:(W.map dZ).Nodup):CA.oY 62 [] (fun x=>(wOf W x).length) (fun x=>us (wOf W x)) (fun x=>x∈W.map dZ):=by
 refine⟨fun x y st hx hy=>?_⟩
 obtain⟨a,ha,rfl⟩:=List.mem_map.1 hx
 obtain⟨b,hb',rfl⟩:=List.mem_map.1 hy
 simp only[kW hl ha,kW hl hb',List.append_nil]
 exact aNH a b (by have:=(hn a ha).1;omega) (by have:=(hn b hb').1;omega) (hn a ha).2 (hn b hb').2 (hb a ha) (hb b hb') st
def WyI(es:List Ed)(M A p tB:Nat)(B:List Int)(st:St)(R:Option Wy)(L:List Int)(f:Frm)(s:St):Prop:=
 f 1=.sl tB B.length (us B)∧f 3=.pt p 0∧f 9=.mp (p+1)∧s.H p=.box 62 2 [.mp M,.mp A]∧aB st s∧p+2≤s.next∧∃(S:Wy) (n q:Nat) (sm:List (List Int×LV)),n+L.length≤100∧oW es n S∧tR es L S=R∧f 2=i S.e∧f 8=.ms q 0 S.W.length∧s.H (p+1)=.map true [.u32,.u32] sm∧aBL sm S.seen∧s.H q=.box 22 1 (bA S.W)∧p+1<q∧q<s.next
theorem rK{l:List Int}(h:l.Nodup):(mR l).Perm l:=(List.perm_ext_iff_of_nodup ((qA l).imp fun h=>by omega) h).2 fun x=>iL x l
theorem mW:∀ R:List (List Int),z0L (bA R)=bA R
 |[]=>by simp[bA,z0L]
 |r::R=>by
  have ih:=mW R
  unfold bA at ih ⊢
  rw[List.map_cons]
  simp only[z0L,z0,iO,ih]
theorem oP(n:Nat):∀ R:List (List Int),dR n (bA R)
 |[]=>trivial
 |r::R=>⟨⟨.inl rfl,iT n r⟩,oP n R⟩
set_option maxHeartbeats 4000000 in
theorem aOQ{es:List Ed}(hids:es.Pairwise fun x y=>x.id<y.id)(hpos:∀ x∈es,1≤x.id∧x.id≤1048576)(hes:es.length≤100)(hvb:∀ e∈bP es,0≤bG es e∧bG es e<4294967296){M A:Nat}{st:St}(hL:aGw es M A st)(B:List Int)(tB:Nat)
 (hB:∀ v∈B,(ends es v).length≠2∧ends es v≠[]) (hBl:B.length≤1000) (hn:(B.flatMap (ends es)).length≤100) (R:Option Wy) (hR:tR es (B.flatMap (ends es)) ⟨[],[],es.length⟩=R) (h12:∀ S,R=some S→S.W.length≤12) (hp:0<st.next):
 aF Tryz.prog 33 [.ag [.mp M,.mp A],.sl tB B.length (us B),i es.length] st fun r st'=>r=aBf R∧st'=st:=by
 refine qT (Q:=fun r=>r=aBf R) (bR ?_) fun r h=>?_
 rotate_left
 ·subst h
  cases R with
  |none=>exact⟨⟨.inl rfl,trivial⟩,trivial,trivial⟩
  |some S=>exact⟨⟨.inl rfl,oP _ _⟩,trivial,trivial⟩
 have hM:=hL.lt.1
 have hA:=hL.lt.2
 refine qO aK Tryz.func33 rfl rfl Tryz.ntmps33 (rs:=[.tmp 6,.tmp 7]) rfl (by simp) ?_
 (repeat' (first|refine qS ?_|refine qB ?_|(refine w_e [] ?_;intro J hJ;simp only[];simp[];(refine hJ _ _ ?_;clear hJ J;simp only[ak,reduceIte]))))
 refine pT 8 22 1 (by simp) ?_
 refine aP 19 18 20 71 (B.length) (fun j fr st2=>WyI es M A st.next tB B st R ((B.drop j).flatMap (ends es)) fr st2∧fr 17=.sl tB B.length (us B)) ?_ ?_ ?_
 ·refine⟨⟨by simp,by simp,by simp,by simp[show ¬st.next=st.next+1 by omega,show ¬st.next=st.next+1+1 by omega],((aB.new _ _).trans (aB.new _ _)).trans (aB.new _ _),by simp,⟨[],[],es.length⟩,0,st.next+1+1,[],by simpa using hn,⟨by simp,by simp,by simp,by simp,by simp,by simp,by simp only;omega⟩,by simpa using hR,by simp,by simp,by simp[show ¬st.next+1=st.next+1+1 by omega],fun a b=>by simp[aR],by simp[bA],by omega,by simp⟩,by simp⟩
 ·rintro oj fr s hlt ⟨hI,f17⟩ fi fn JO hJO
  have hd:=qG B oj hlt
  have hdr:(B.drop oj).flatMap (ends es)=ends es (B.getD oj 0)++(B.drop (oj+1)).flatMap (ends es):=by
   rw[List.getD_eq_getElem?_getD,List.getElem?_eq_getElem hlt,List.drop_eq_getElem_cons hlt,List.flatMap_cons];rfl
  have hvB:B.getD oj 0∈B:=by rw[aX _ _ hlt];exact List.getElem_mem _
  obtain⟨hv2,hv0⟩:=hB _ hvB
  rw[hdr]at hI
  generalize B.getD oj 0=v at *
  generalize (B.drop (oj+1)).flatMap (ends es)=rest at *
  obtain⟨⟨em,ea,hM1,hRow,-,-⟩,-⟩:=hL.keeps hI.2.2.2.2.1
  have hcs:∃ t,(aR em [v]).getD .nil=.sl t (ends es v).length (us (ends es v)):=by
   rcases hRow.cases v with⟨-,h⟩|h
   ·exact absurd h hv0
   ·exact h
  obtain⟨tE,hcs⟩:=hcs
  have f3:=hI.2.1
  have hBx:=hI.2.2.2.1
  (repeat' (first|refine qS ?_|refine qB ?_|(refine w_e [] ?_;intro J hJ;simp only[];simp[f17,fi,fn,hlt,hd,f3,hBx,hM1,hcs];(refine hJ _ _ ?_;clear hJ J;simp only[ak,reduceIte]))))
  generalize hE:ends es v=E at *
  have hEl:E.length≤100:=by
   obtain⟨-,-,-,-,-,-,S,n,q,sm,i1,-⟩:=hI
   rw[List.length_append]at i1;omega
  refine aP 28 27 29 70 (E.length) (fun j fr st2=>WyI es M A st.next tB B st R (E.drop j++rest) fr st2∧fr 11=u v∧fr 17=.sl tB B.length (us B)∧fr 19=i oj∧fr 18=i B.length∧fr 26=.sl tE E.length (us E)) ?_ ?_ ?_
  ·obtain⟨g1,g3,g9,gB,gK,gn,S,n,q,sm,i1,i2,i3,i4,i5,i6,i7,i8,i9,i10⟩:=hI
   exact⟨⟨by simp[g1],by simp[g3],by simp[g9],gB,gK,gn,S,n,q,sm,by simpa using i1,i2,by simpa using i3,by simp[i4],by simp[i5],i6,i7,i8,i9,i10⟩,by simp,by simp[f17],by simp[fi],by simp[fn],by simp⟩
  ·clear f17 fi fn f3 hBx hM1 hI hJO fr s
   rintro j fr s hlj ⟨⟨g1,g3,g9,gB,gK,gn,S,n,q,sm,i1,i2,i3,i4,i5,i6,i7,i8,i9,i10⟩,f11,f17,f19,f18,f26⟩ fi fn J hJ
   have hdj:=qG E j hlj
   have hdr2:E.drop j=E.getD j 0::E.drop (j+1):=by
    rw[List.getD_eq_getElem?_getD,List.getElem?_eq_getElem hlj];exact List.drop_eq_getElem_cons hlj
   have hdE:E.getD j 0∈ends es v:=by rw[hE,aX _ _ hlj];exact List.getElem_mem _
   rw[hdr2,List.cons_append]at i1 i3
   generalize E.getD j 0=d at *
   have hdv:bG es d=v:=iJ hids hdE
   obtain⟨k,ht⟩:=aKn hids (nU hdE) (by rw[hdv,hE];exact hv2)
   have hwl:=qJ hids ht
   have hkl:=ht.lt hids
   have hstep:=fun S' (h:pW es S d=some S')=>i2.step hids hes hvb ht h
   have hwx:=qG (eR es d) (k+1) (by omega)
   have hst:pW es S d=if(eR es d).getD (k+1) 0=v then none else if(eR es d).getD (k+1) 0<v then some S else if(v,(eR es d).getD (k+1) 0)∈S.seen then none else some ⟨(v,(eR es d).getD (k+1) 0)::S.seen,S.W++[eR es d],S.e-(k+1:Nat)⟩:=by
    unfold pW
    simp only[hdv,hwl]
    rfl
   have hw:=aPu hids hpos (by omega) (hL.keeps gK) ht (by omega)
   simp only[tR]at i3
   generalize hway:eR es d=way at *
   generalize way.getD (k+1) 0=x at *
   have w1:IntKind.i64.wrap ((way.length:Int)-1)=((k+1:Nat):Int):=by rw[wrap_i64 _ (by omega) (by omega)];omega
   have e1:k+1<way.length:=by omega
   have e1':((k+1:Nat):Int)<way.length:=by omega
   (repeat' (first|refine qS ?_|(refine w_e [] ?_;intro J hJ;simp only[];simp[f26,fi,fn,hlj,hdj,g3,gB];(try (refine hJ _ _ ?_;clear hJ J;simp only[ak,reduceIte])))))
   refine qE hw (by simp) ?_;rintro r s1 ⟨rfl,q1⟩
   rw[q1];clear q1 s1
   have z1:¬st.next=s.next:=by omega
   by_cases hxv:x=v
   ·rw[hst,if_pos hxv]at i3
    have hRn:R=none:=i3.symm
    subst hRn
    (repeat' (first|refine qS ?_|(refine qR ?_;simp only[ak,reduceIte];simp[w1,hwx,e1,e1',f11,hxv])|(refine qC ?_;simp[w1,hwx,e1,e1',f11,hxv])|((first|(refine w_e [] ?_;intro J hJ;simp only[])|(refine aL ?_));simp[w1,hwx,e1,e1',f11,hxv];(repeat refine ca ?_);(refine hJ _ _ ?_;clear hJ J;simp only[ak,reduceIte]))))
    exact⟨by simp[z0,z0L,aBf],gK⟩
   rw[if_neg hxv]at hst
   have hxv':(x==v)=false:=by simpa using hxv
   by_cases hlt2:x<v
   ·rw[if_pos hlt2]at hst
    rw[hst]at i3
    have hok:=hstep S hst
    (repeat' (first|refine qS ?_|(refine qK ?_;simp only[ak,reduceIte])|(refine qX ?_;simp only[ak,reduceIte])|(refine qC ?_;simp[w1,hwx,e1,e1',f11,hxv,hxv',hlt2])|((first|(refine w_e [] ?_;intro J hJ;simp only[])|(refine aL ?_));simp[w1,hwx,e1,e1',f11,hxv,hxv',hlt2];(repeat refine ca ?_);(refine hJ _ _ ?_;clear hJ J;simp only[ak,reduceIte]))))
    exact hJ _ _ (by simp[fi]) (by simp[fn]) ⟨⟨by simp[g1],by simp[g3],by simp[g9],gB,gK,gn,S,n+1,q,sm,by simp only[List.length_cons]at i1;omega,hok,i3,by simp[i4],by simp[i5],i6,i7,i8,i9,i10⟩,by simp[f11],by simp[f17],by simp[f19],by simp[f18],by simp[f26]⟩
   rw[if_neg hlt2]at hst
   have hsn:=i7 v x
   by_cases hsee:(v,x)∈S.seen
   ·rw[if_pos hsee]at hsn
    rw[hst,if_pos hsee]at i3
    have hRn:R=none:=i3.symm
    subst hRn
    (repeat' (first|refine qS ?_|(refine qK ?_;simp only[ak,reduceIte])|(refine qR ?_;simp only[ak,reduceIte];simp[w1,hwx,e1,e1',f11,hxv,hxv',hlt2,g9,i6,hsn])|(refine qC ?_;simp[w1,hwx,e1,e1',f11,hxv,hxv',hlt2,g9,i6,hsn])|((first|(refine w_e [] ?_;intro J hJ;simp only[])|(refine aL ?_));simp[w1,hwx,e1,e1',f11,hxv,hxv',hlt2,g9,i6,hsn];(repeat refine ca ?_);(refine hJ _ _ ?_;clear hJ J;simp only[ak,reduceIte]))))
    exact⟨by simp[z0,z0L,aBf],gK⟩
   rw[if_neg hsee]at hsn hst
   rw[hst]at i3
   have hok:=hstep _ hst
   (repeat' (first|refine qS ?_|(refine qK ?_;simp only[ak,reduceIte])|(refine qC ?_;simp[w1,hwx,e1,e1',f11,hxv,hxv',hlt2,g9,i6,hsn])|((first|(refine w_e [] ?_;intro J hJ;simp only[])|(refine aL ?_));simp[w1,hwx,e1,e1',f11,hxv,hxv',hlt2,g9,i6,hsn];(repeat refine ca ?_);(refine hJ _ _ ?_;clear hJ J;simp only[ak,reduceIte]))))
   refine aLn (l:=st.next+1) (es:=sm) (a:=v) (b:=x) (c:=0) rfl ⟨_,rfl,rfl,rfl,rfl⟩ ⟨_,rfl,rfl,rfl,rfl⟩ ⟨_,rfl,rfl,rfl,rfl⟩ ⟨_,rfl,rfl,rfl,rfl⟩ ⟨_,rfl,rfl,rfl,rfl⟩ ⟨_,rfl,rfl,rfl,rfl⟩ ⟨_,rfl,rfl,rfl,rfl⟩ ⟨_,rfl,rfl,rfl,rfl⟩ ⟨_,rfl,rfl,rfl,rfl⟩ (by rfl) (by decide) (by kernel_rfl) (by simp[g9]) (by simp[f11]) (by simp) i6 hsn (by decide) (fun fr2 hfr2=>?_)
   have hlo:=hok.lo
   have hhi:=i2.hi
   have hlo2:=i2.lo
   have hfw:=i2.few
   have hWl:S.W.length≤100:=by omega
   have w5:IntKind.i64.wrap (S.e-((k:Int)+1))=S.e-((k:Int)+1):=wrap_i64 _ (by omega) (by omega)
   have hrl:(bA S.W).length=S.W.length:=by simp[bA]
   have htj:(bA S.W).take S.W.length=bA S.W:=List.take_of_length_le (by omega)
   have hjl:S.W.length≤(bA S.W).length:=by omega
   have hj1:(S.W.length+1)*24≤140737488355328:=by omega
   have hj2:S.W.length+1≤maxLen:=by unfold maxLen;omega
   have k1:fr2 1=.sl tB B.length (us B):=(hfr2 1 (.inl (by omega))).trans (by simp[g1])
   have k2:fr2 2=i S.e:=(hfr2 2 (.inl (by omega))).trans (by simp[i4])
   have k3:fr2 3=.pt st.next 0:=(hfr2 3 (.inl (by omega))).trans (by simp[g3])
   have k8:fr2 8=.ms q 0 S.W.length:=(hfr2 8 (.inl (by omega))).trans (by simp[i5])
   have k9:fr2 9=.mp (st.next+1):=(hfr2 9 (.inl (by omega))).trans (by simp[g9])
   have k11:fr2 11=u v:=(hfr2 11 (.inl (by omega))).trans (by simp[f11])
   have k14:fr2 14=.sl 0 way.length (us way):=(hfr2 14 (.inl (by omega))).trans (by simp)
   have k17:fr2 17=.sl tB B.length (us B):=(hfr2 17 (.inl (by omega))).trans (by simp[f17])
   have k18:fr2 18=i B.length:=(hfr2 18 (.inl (by omega))).trans (by simp[f18])
   have k19:fr2 19=i oj:=(hfr2 19 (.inl (by omega))).trans (by simp[f19])
   have k26:fr2 26=.sl tE E.length (us E):=(hfr2 26 (.inl (by omega))).trans (by simp[f26])
   have k27:fr2 27=i E.length:=(hfr2 27 (.inl (by omega))).trans (by simp[fn])
   have k28:fr2 28=i j:=(hfr2 28 (.inl (by omega))).trans (by simp[fi])
   clear hfr2
   simp only[ak,reduceIte]
   have y1:¬q=s.next:=by omega
   have y2:¬q=st.next+1:=by omega
   have y3:¬q=s.next+1:=by omega
   (repeat' (first|refine qS ?_|(refine w_e [] ?_;intro J hJ;simp only[];simp[k2,k14,k8,w1,w5,i8,hrl,htj,hjl,hj1,hj2,y1,y2,y3];(refine hJ _ _ ?_;clear hJ J;simp only[ak,reduceIte]))))
   have hput:=i7.put hsee
   have hp1:(bA S.W++[.sl 0 way.length (us way)]:List LV)=bA (S.W++[way]):=by simp[bA]
   rw[hp1]
   refine hJ _ _ (by simp[k28]) (by simp[k27]) ⟨⟨by simp[k1],by simp[k3],by simp[k9],?_,?_,by simp;omega,⟨(v,x)::S.seen,S.W++[way],S.e-(k+1:Nat)⟩,n+1,s.next+1,aS sm [v,x] (i (0+1)),by simp only[List.length_cons]at i1;omega,hok,i3,by simp,by simp,?_,hput,by simp,by omega,by simp⟩,by simp[k11],by simp[k17],by simp[k19],by simp[k18],by simp[k26]⟩
   ·simp[show ¬st.next=s.next+1 by omega,show ¬st.next=q by omega,show ¬st.next=s.next by omega,gB]
   ·exact(((gK.set (by omega) _).trans (aB.new _ _)).set (by omega) _).trans (aB.new _ _)
   ·simp[z1,show ¬st.next+1=q by omega,show ¬st.next+1=s.next by omega]
  ·rintro fr s ⟨⟨g1,g3,g9,gB,gK,gn,S,n,q,sm,i1,i2,i3,i4,i5,i6,i7,i8,i9,i10⟩,f11,f17,f19,f18,f26⟩
   rw[List.drop_length,List.nil_append]at i1 i3
   skip
   exact hJO _ _ (by simp[f19]) (by simp[f18]) ⟨⟨by simp[g1],by simp[g3],by simp[g9],gB,gK,gn,S,n,q,sm,i1,i2,i3,by simp[i4],by simp[i5],i6,i7,i8,i9,i10⟩,by simp[f17]⟩
 ·rintro fr s ⟨⟨g1,g3,g9,gB,gK,gn,S,n,q,sm,i1,i2,i3,i4,i5,i6,i7,i8,i9,i10⟩,f17⟩
  rw[List.drop_length,List.flatMap_nil]at i3
  simp only[tR]at i3
  have h12':=h12 S i3.symm
  have hWl:(S.W.map dZ).length=S.W.length:=by simp
  have hlb:∀ w∈S.W,wOf S.W (dZ w)=w:=fun w hw=>kW i2.labs hw
  have hws:CA.ws (fun x=>(wOf S.W x).length) (fun x=>us (wOf S.W x)) (S.W.map dZ)=bA S.W:=by
   unfold CA.ws bA
   rw[List.map_map]
   refine List.map_congr_left fun w hw=>?_
   simp only[Function.comp,hlb w hw]
  have hC:=aNa S.W (fun w hw=>⟨(i2.len w hw).1,by have:=(i2.len w hw).2;omega⟩) i2.bnd i2.labs
  have hsort:=CA.aCb hC (S.W.map dZ) q s (fun x hx=>hx) (by rw[hWl];exact h12') i10 (by rw[hws];exact i8)
  rw[hWl]at hsort
  (repeat' (first|refine qS ?_|(refine w_e [] ?_;intro J hJ;simp only[];simp[i5])))
  refine qE hsort (by simp) ?_;rintro r s1 ⟨c,c1,c2,c3,c4⟩
  have hc:c=mR (S.W.map dZ):=xL c3 ((qA _).imp fun h=>by omega) (c2.trans (rK i2.labs).symm)
  have hcw:CA.ws (fun x=>(wOf S.W x).length) (fun x=>us (wOf S.W x)) c=bA (kV S.W):=by
   rw[hc]
   unfold CA.ws bA kV
   rw[List.map_map];rfl
  rw[hcw]at c1
  have hcl:(bA (kV S.W)).length=S.W.length*1:=by
   rw[← hcw,CA.ws,List.length_map,c2.length_eq,hWl,Nat.mul_one]
  have hkeep:=c4.2
  have hsn:=c4.1
  (refine aL ?_;simp[];(refine hJ _ _ ?_;clear hJ J;simp only[ak,reduceIte]))
  refine kY 8 (l:=q) (n:=S.W.length) (by simp[i5]) c1 (Nat.le_of_eq hcl.symm) ?_
  rw[List.take_of_length_le (Nat.le_of_eq hcl)]
  (repeat' (first|refine qS ?_|(refine qR ?_;simp only[ak,reduceIte];simp[i4])|(refine w_e [] ?_;intro J hJ;simp only[];simp[i4];(refine hJ _ _ ?_;clear hJ J;simp only[ak,reduceIte]))))
  rw[← i3]
  refine⟨?_,by have:=gK.next;simp;omega,fun l hl=>?_⟩
  ·simp only[z0,z0L,mW,aBf]
   rfl
  ·have hlq:¬l=q:=by omega
   simp only[aE,if_neg hlq]
   rw[hkeep l hlq (by have:=gK.next;omega)]
   exact gK.H l hl
def aCu(w:List Int):Int:=w.getD (w.length-1) 0
def eT(B:List Int)(W:List (List Int))(v:Int):Int:=if W.any (fun w=>decide (w.getD 0 0=B.getD 0 0∧aCu w=v))=true then 2 else if v∈B then 1 else 0
def jF(B:List Int)(W:List (List Int)):Bool:=W.all fun w=>decide (eT B W (w.getD 0 0)≠eT B W (aCu w))
def wS(sm:List (List Int×LV))(f:Int→Int):Prop:=∀ v,(aR sm [v]).getD (i 0)=i (f v)
theorem wS.put{sm:List (List Int×LV)}{f g:Int→Int}(h:wS sm f)(a c:Int)(hg:∀ v,g v=if v=a then c else f v):wS (aS sm [a] (i c)) g:=fun v=>by
 rw[cL,hg]
 by_cases hv:v=a
 ·subst hv;simp
 ·rw[if_neg (by simpa using hv),if_neg hv];exact h v
set_option maxHeartbeats 2000000 in
theorem aNf(B:List Int)(W:List (List Int))(tB tW:Nat)(hB:0<B.length)(hBl:B.length≤1000)(hW:∀ w∈W,0<w.length∧w.length≤1000)(hWl:W.length≤1000)(st:St):
 aF Tryz.prog 34 [.sl tB B.length (us B),.sl tW W.length (bA W)] st fun r st'=>r=bb (jF B W)∧st'=st:=by
 refine qT (Q:=fun r=>r=bb (jF B W)) ?_ fun r h=>by subst h;trivial
 have hb0:=qG B 0 hB
 rw[List.drop_zero]at hb0
 have hh0:hdL (us B)=u (B.getD 0 0):=by rw[hb0];rfl
 refine qO aK Tryz.func34 rfl rfl Tryz.ntmps34 (rs:=[.tmp 4]) rfl (by simp) ?_
 (repeat' (first|refine qS ?_|refine qB ?_|(refine w_e [] ?_;intro J hJ;simp only[];simp[];(refine hJ _ _ ?_;clear hJ J;simp only[ak,reduceIte]))))
 refine aP 15 14 16 21 (B.length) (fun j fr st2=>fr 0=.sl tB B.length (us B)∧fr 1=.sl tW W.length (bA W)∧fr 5=.mp st.next∧fr 13=.sl tB B.length (us B)∧aB st st2∧st.next<st2.next∧∃ sm,st2.H st.next=.map false [.u32] sm∧wS sm fun v=>if v∈B.take j then 1 else 0) ?_ ?_ ?_
 ·exact⟨by simp,by simp,by simp,by simp,aB.new _ _,by simp,[],by simp,fun v=>by simp[aR]⟩
 ·rintro j fr s hlt ⟨f0,f1,f5,f13,hK,hn,sm,hM,hS⟩ fi fn J hJ
  have hd:=qG B j hlt
  have htk:B.take (j+1)=B.take j++[B.getD j 0]:=by rw[aX _ _ hlt];exact List.take_succ_eq_append_getElem hlt
  generalize B.getD j 0=v at *
  (repeat' (first|refine qS ?_|(refine w_e [] ?_;intro J hJ;simp only[];simp[f13,f5,fi,fn,hlt,hd,hM];(refine hJ _ _ ?_;clear hJ J;simp only[ak,reduceIte]))))
  refine hJ _ _ (by simp[fi]) (by simp[fn]) ⟨by simp[f0],by simp[f1],by simp[f5],by simp[f13],hK.set (Nat.le_refl _) _,by simpa using hn,aS sm [v] (i 1),by simp,hS.put v 1 fun x=>?_⟩
  rw[htk]
  by_cases hx:x=v
  ·simp[hx]
  ·simp[hx]
 rintro fr s ⟨f0,f1,f5,f13,hK,hn,sm,hM,hS⟩
 rw[List.take_length]at hS
 (repeat' (first|refine qS ?_|refine qB ?_|(refine w_e [] ?_;intro J hJ;simp only[];simp[f1];(refine hJ _ _ ?_;clear hJ J;simp only[ak,reduceIte]))))
 refine aP 24 23 25 42 (W.length) (fun j fr st2=>fr 0=.sl tB B.length (us B)∧fr 1=.sl tW W.length (bA W)∧fr 5=.mp st.next∧fr 22=.sl tW W.length (bA W)∧aB st st2∧st.next<st2.next∧∃ sm,st2.H st.next=.map false [.u32] sm∧wS sm (eT B (W.take j))) ?_ ?_ ?_
 ·exact⟨by simp[f0],by simp[f1],by simp[f5],by simp,hK,hn,sm,hM,fun v=>by simpa[eT]using hS v⟩
 ·clear f0 f1 f5 f13 hK hn hM hS sm fr s
  rintro j fr s hlt ⟨f0,f1,f5,f22,hK,hn,sm,hM,hS⟩ fi fn J hJ
  have hd:=iE W j hlt
  have hwm:W.getD j []∈W:=by rw[gM _ _ hlt];exact List.getElem_mem _
  obtain⟨hw0,hw1⟩:=hW _ hwm
  have htk:W.take (j+1)=W.take j++[W.getD j []]:=by rw[gM _ _ hlt];exact List.take_succ_eq_append_getElem hlt
  generalize W.getD j []=w at *
  have d1:=qG w 0 hw0
  have d2:=qG w (w.length-1) (by omega)
  rw[List.drop_zero]at d1
  have h1:hdL (us w)=u (w.getD 0 0):=by rw[d1];rfl
  have hside:∀ x,eT B (W.take (j+1)) x=if w.getD 0 0=B.getD 0 0∧aCu w=x then 2 else eT B (W.take j) x:=fun x=>by
   unfold eT
   rw[htk,List.any_append]
   by_cases h:w.getD 0 0=B.getD 0 0∧aCu w=x
   ·rw[if_pos h,if_pos (by simp only[List.any_cons,List.any_nil,decide_eq_true h,Bool.true_or,Bool.or_true])]
   ·rw[if_neg h]
    simp only[List.any_cons,List.any_nil,decide_eq_false h,Bool.or_false]
  unfold aCu at hside
  generalize w.getD 0 0=a at *
  generalize w.getD (w.length-1) 0=b at *
  generalize hb00:B.getD 0 0=b0 at *
  have w1:IntKind.i64.wrap ((w.length:Int)-1)=((w.length-1:Nat):Int):=by rw[wrap_i64 _ (by omega) (by omega)];omega
  have e1:w.length-1<w.length:=by omega
  have e1':((w.length-1:Nat):Int)<w.length:=by omega
  by_cases hab:a=b0
  ·(repeat' (first|refine qS ?_|(refine qC ?_;simp[f22,f0,f5,fi,fn,hlt,hd,hw0,h1,hB,hh0,hab,w1,d2,e1,e1',hM])|((first|(refine w_e [] ?_;intro J hJ;simp only[])|(refine w_q ?_;intro J hJ));simp[f22,f0,f5,fi,fn,hlt,hd,hw0,h1,hB,hh0,hab,w1,d2,e1,e1',hM];(refine hJ _ _ ?_;clear hJ J;simp only[ak,reduceIte]))))
   refine hJ _ _ (by simp[fi]) (by simp[fn]) ⟨by simp[f0],by simp[f1],by simp[f5],by simp[f22],hK.set (Nat.le_refl _) _,by simpa using hn,aS sm [b] (i 2),by simp,hS.put b 2 fun x=>?_⟩
   rw[hside x]
   by_cases hx:x=b
   ·rw[if_pos hx,if_pos ⟨hab,hx.symm⟩]
   ·rw[if_neg hx,if_neg fun h=>hx h.2.symm]
  ·have hab':(a==b0)=false:=by simpa using hab
   have hsd:eT B (W.take (j+1))=eT B (W.take j):=funext fun x=>by rw[hside x,if_neg fun h=>hab h.1]
   rw[← hsd]at hS
   (repeat' (first|refine qS ?_|(refine qK ?_;simp only[ak,reduceIte])|(refine qC ?_;simp[f22,f0,f5,fi,fn,hlt,hd,hw0,h1,hB,hh0,hab,hab'])|((first|(refine w_e [] ?_;intro J hJ;simp only[])|(refine w_q ?_;intro J hJ));simp[f22,f0,f5,fi,fn,hlt,hd,hw0,h1,hB,hh0,hab,hab'];(refine hJ _ _ ?_;clear hJ J;simp only[ak,reduceIte]))))
   exact hJ _ _ (by simp[fi]) (by simp[fn]) ⟨by simp[f0],by simp[f1],by simp[f5],by simp[f22],hK,hn,sm,hM,hS⟩
 clear f0 f1 f5 f13 hK hn hM hS sm fr s
 rintro fr s ⟨f0,f1,f5,f22,hK,hn,sm,hM,hS⟩
 rw[List.take_length]at hS
 (repeat' (first|refine qS ?_|refine qB ?_|(refine w_e [] ?_;intro J hJ;simp only[];simp[f1];(refine hJ _ _ ?_;clear hJ J;simp only[ak,reduceIte]))))
 refine aP 45 44 46 63 (W.length) (fun j fr st2=>fr 5=.mp st.next∧fr 43=.sl tW W.length (bA W)∧st2=s∧∀ w∈W.take j,eT B W (w.getD 0 0)≠eT B W (aCu w)) ?_ ?_ ?_
 ·exact⟨by simp[f5],by simp,rfl,by simp⟩
 ·clear f0 f1 f5 f22 fr
  rintro j fr s2 hlt ⟨f5,f43,rfl,hall⟩ fi fn J hJ
  have hd:=iE W j hlt
  have hwm:W.getD j []∈W:=by rw[gM _ _ hlt];exact List.getElem_mem _
  obtain⟨hw0,hw1⟩:=hW _ hwm
  have htk:W.take (j+1)=W.take j++[W.getD j []]:=by rw[gM _ _ hlt];exact List.take_succ_eq_append_getElem hlt
  generalize W.getD j []=w at *
  have d1:=qG w 0 hw0
  have d2:=qG w (w.length-1) (by omega)
  rw[List.drop_zero]at d1
  have h1:hdL (us w)=u (w.getD 0 0):=by rw[d1];rfl
  have s1:=hS (w.getD 0 0)
  have s2':=hS (w.getD (w.length-1) 0)
  have w1:IntKind.i64.wrap ((w.length:Int)-1)=((w.length-1:Nat):Int):=by rw[wrap_i64 _ (by omega) (by omega)];omega
  have e1:w.length-1<w.length:=by omega
  have e1':((w.length-1:Nat):Int)<w.length:=by omega
  have hcr:eT B W (w.getD 0 0)=eT B W (w.getD (w.length-1) 0)→jF B W=false:=fun h=>by
   unfold jF
   rw[List.all_eq_false]
   exact⟨w,hwm,by simp only[decide_eq_true_eq,aCu];exact fun hh=>(of_decide_eq_true hh) h⟩
  have hnx:eT B W (w.getD 0 0)≠eT B W (w.getD (w.length-1) 0)→∀ y∈W.take (j+1),eT B W (y.getD 0 0)≠eT B W (aCu y):=fun h y hy=>by
   rw[htk]at hy
   rcases List.mem_append.1 hy with hy|hy
   ·exact hall y hy
   ·rw[List.mem_singleton.1 hy];exact h
  generalize w.getD 0 0=a at *
  generalize w.getD (w.length-1) 0=b at *
  generalize eT B W a=x at *
  generalize eT B W b=y at *
  by_cases hxy:x=y
  ·have hcf:=hcr hxy
   rw[hcf]
   (repeat' (first|refine qS ?_|(refine qR ?_;simp only[ak,reduceIte];simp[f43,f5,fi,fn,hlt,hd,hw0,h1,w1,d2,e1,e1',hM,s1,s2',hxy])|(refine qC ?_;simp[f43,f5,fi,fn,hlt,hd,hw0,h1,w1,d2,e1,e1',hM,s1,s2',hxy])|((first|(refine w_e [] ?_;intro J hJ;simp only[])|(refine w_q ?_;intro J hJ));simp[f43,f5,fi,fn,hlt,hd,hw0,h1,w1,d2,e1,e1',hM,s1,s2',hxy];(refine hJ _ _ ?_;clear hJ J;simp only[ak,reduceIte]))))
   exact hK
  ·have hxy':(x==y)=false:=by simpa using hxy
   (repeat' (first|refine qS ?_|(refine qK ?_;simp only[ak,reduceIte])|(refine qC ?_;simp[f43,f5,fi,fn,hlt,hd,hw0,h1,w1,d2,e1,e1',hM,s1,s2',hxy,hxy'])|((first|(refine w_e [] ?_;intro J hJ;simp only[])|(refine w_q ?_;intro J hJ));simp[f43,f5,fi,fn,hlt,hd,hw0,h1,w1,d2,e1,e1',hM,s1,s2',hxy,hxy'];(refine hJ _ _ ?_;clear hJ J;simp only[ak,reduceIte]))))
   exact hJ _ _ (by simp[fi]) (by simp[fn]) ⟨by simp[f5],by simp[f43],rfl,hnx hxy⟩
 ·rintro fr s2 ⟨f5,f43,rfl,hall⟩
  rw[List.take_length]at hall
  have hcf:jF B W=true:=by unfold jF;rw[List.all_eq_true];exact fun w hw=>decide_eq_true (hall w hw)
  rw[hcf]
  (repeat' (first|refine qS ?_|(refine qR ?_;simp only[ak,reduceIte];simp[])|(refine w_e [] ?_;intro J hJ;simp only[];simp[];(refine hJ _ _ ?_;clear hJ J;simp only[ak,reduceIte]))))
  exact hK
theorem zL(l:List Ed)(p:Ed→Bool)(k:Nat)(hk:k<l.length):(l.take (k+1)).any p=((l.take k).any p||p (l.getD k ed0)):=by
 rw[List.take_succ_eq_append_getElem hk,List.any_append,List.getD_eq_getElem?_getD,List.getElem?_eq_getElem hk]
 simp
theorem kG(l:List Int)(p:Int→Bool)(k:Nat)(hk:k<l.length):(l.take (k+1)).filter p=(l.take k).filter p++if p (l.getD k 0)=true then [l.getD k 0]else []:=by
 rw[List.take_succ_eq_append_getElem hk,List.filter_append,List.getD_eq_getElem?_getD,List.getElem?_eq_getElem hk]
 by_cases h:p l[k]=true<;>simp[h]
theorem aBd{st:St}{a b:Nat}{x y:aD}(ha:st.H a=x)(hb:st.H b=y)(h:x≠y):¬a=b:=fun e=>h (by rw[← ha,e,hb])
def aQU(t:Nat)(lo:St)(l:List Int)(st:St):Prop:=t≠0∧lo.next≤t∧t<st.next∧st.H t=.own 34 1 l.length
end Go.Proofs.YtempldclppogmaaGreatDoor.Aw
