/- Blocks: the search goes through a vertex. -/
import Derived.Test.YtkcokoefodgigaaGreatJf
import Derived.Test.YtkcokoefodgigaaGreatAwZ
import Derived.Test.YtkcokoefodgigaaGreatAwFr
namespace Go.Proofs.YtkcokoefodgigaaGreat.Aw
open Go Go.RowKit Go.Proofs.YtkcokoefodgigaaGreat.Pl Go.Proofs.YtkcokoefodgigaaGreat.Eu
set_option linter.unusedSimpArgs false
set_option linter.unusedVariables false
theorem awp_cutB {P:Program} {N:Nat} {Q:AQ} {k:List AItem} {fr:Frm} {st:St} {x y:Code} (I:Frm→St→Prop) (h1:AWp P N x (AK P N (fun e f s=>e=.normal∧I f s) []) fr st) (h2:∀ fr st,I fr st→AWp P N y (AK P N Q k) fr st):
 AWp P N x (AK P N Q (.code y::k)) fr st:=by
 refine awp_mono h1 ?_
 rintro e fr' st' ⟨rfl,hI⟩
 rw [ak_code]
 exact h2 _ _ hI
theorem goB_app {f:Bw→Nat→Option Bw}:∀ (l:List Nat) (i:Nat) (s:Bw),goB f (l++[i]) s=(goB f l s).bind fun s'=>f s' i
 | [],i,s=>by
   show (f s i).bind (goB f [])=f s i
   cases f s i<;>rfl
 | j::l,i,s=>by
   show (f s j).bind (goB f (l++[i]))=((f s j).bind (goB f l)).bind _
   cases f s j with
   | none=>rfl
   | some s'=>exact goB_app l i s'
theorem len_le {P:List Nat} {n:Nat} (hn:P.Nodup) (h:∀ i∈P,i < n):P.length≤n:=by
 have:=List.Nodup.length_le_of_subset hn (l₂:=List.range n) fun i hi=>List.mem_range.2 (h i hi)
 simpa using this
theorem flat_ge:∀ (N:List (List Nat)),(∀ B∈N,B≠[])→N.length≤N.flatten.length
 | [],_=>Nat.le_refl _
 | B::N,h=>by
   have h1:=flat_ge N fun B hB=>h B (List.mem_cons_of_mem _ hB)
   have h2:=List.length_pos_iff.2 (h B (by simp))
   simp only [List.flatten_cons,List.length_append,List.length_cons]
   omega
theorem BLp.sz {g:Gr} {s0 s:Bw} {v by_:Int} {Q:List Nat} {D:List Int} {T:List Nat} {N:List (List Nat)} (h:BLp g s0 v by_ Q s D T N):T.length≤g.es.length∧N.length≤g.es.length:=by
 have hl:∀ i∈T++N.flatten,i < g.es.length:=fun i hi=>((h.pl i).1 hi).1
 have h1:=len_le h.pn hl
 have h2:=flat_ge N fun B hB=>(h.good B hB).ne
 rw [List.length_append] at h1
 omega
def SzB (g:Gr) (s:Bw):Prop:=s.stk.length≤s.vis.length * (g.es.length+1)∧s.out.length≤s.vis.length * (g.es.length+1)
theorem SzB.child {g:Gr} {s0 s:Bw} {v by_:Int} {Q:List Nat} {D:List Int} {T:List Nat} {N:List (List Nat)} (h0:SzB g s0) (h:BLp g s0 v by_ Q s D T N):s.stk.length+1≤s.vis.length * (g.es.length+1)∧s.out.length≤s.vis.length * (g.es.length+1):=by
 obtain ⟨h1,h2⟩:=h.sz
 have h3:(s0.vis.length+1) * (g.es.length+1)≤s.vis.length * (g.es.length+1):=Nat.mul_le_mul_right _ (by rw [h.vis,List.length_append,List.length_cons];omega)
 rw [Nat.add_mul,Nat.one_mul] at h3
 have e1:s.stk.length=s0.stk.length+T.length:=by rw [h.stk,List.length_append]
 have e2:s.out.length=s0.out.length+N.length:=by rw [h.out,List.length_append]
 obtain ⟨k1,k2⟩:=h0
 omega
theorem sz_bound {g:Gr} {s:Bw} (hv:g.vs.length≤100) (he:g.es.length≤200) (hnd:s.vis.Nodup) (hs:∀ w∈s.vis,w∈g.vs):s.vis.length≤100∧s.vis.length * (g.es.length+1)≤20100:=by
 have h1:s.vis.length≤g.vs.length:=List.Nodup.length_le_of_subset hnd hs
 exact ⟨by omega,by have:=Nat.mul_le_mul (show s.vis.length≤100 by omega) (show g.es.length+1≤201 by omega);omega⟩
theorem BwAt.keeps {g:Gr} {B W a nb lw:Nat} {tk:Int→Nat} {s:Bw} {st st':St} (h:BwAt g B W a nb lw tk s st) (hk:Keeps st st'):BwAt g B W a nb lw tk s st':=by
 obtain ⟨⟨tS,tB,CS,ea,hW,⟨hA,hAm⟩,hN,hL,⟨hS,hSt⟩,hBk,hn,⟨b1,b2,b3,b4⟩⟩,hc,d1,d2,d3,d4⟩:=h
 have hx:=hk.next
 exact ⟨⟨tS,tB,CS,ea,(hk.H W d1).trans hW,⟨(hk.H a d2).trans hA,hAm⟩,(hk.H nb d3).trans hN,(hk.H lw d4).trans hL,⟨(hk.H tS b3).trans hS,hSt⟩,(hk.H tB b4).trans hBk,hn,b1,b2,by omega,by omega⟩,hc,by omega,by omega,by omega,by omega⟩
theorem bw_push {g:Gr} {B W a nb lw:Nat} {tk:Int→Nat} {s:Bw} {S:St} {tS tB:Nat} {CS:List LV} {ea:List (List Int×LV)} (i0:Nat)
 (hW:S.H W=.box 46 6 [.sl 0 g.es.length (eds g.es),.mp a,.mp nb,.mp lw,.ms tS 0 s.stk.length,.ms tB 0 s.out.length])
 (hA:S.H a=.map false [.u32] ea) (hAm:∀ v,mget ea [v]=if atP g.es v=[] then none else some (.sl (tk v) (atP g.es v).length (isN (atP g.es v))))
 (hN:S.H nb=.map false [.u32] (nbF 0 s.vis)) (hL:S.H lw=.map false [.u32] (lwF s.vis s.low)) (hS:S.H tS=.box 3 1 CS) (hBk:S.H tB=.box 23 1 (bkL g.es s.out))
 (hn:a≠nb∧a≠lw∧nb≠lw) (hb:B≤tS∧B≤tB∧tS < S.next∧tB < S.next) (hc:B≤W∧B≤a∧B≤nb∧B≤lw) (hd:W < S.next∧a < S.next∧nb < S.next∧lw < S.next) (o:LObj):
 BwAt g B W a nb lw tk (pushW s i0) ((((S.new o).set tS .dead).new (.box 3 1 (isN s.stk++[i (i0:Int)]))).set W (.box 46 6 [.sl 0 g.es.length (eds g.es),.mp a,.mp nb,.mp lw,.ms (S.next+1) 0 (s.stk.length+1),.ms tB 0 s.out.length]))∧
 KbB B S ((((S.new o).set tS .dead).new (.box 3 1 (isN s.stk++[i (i0:Int)]))).set W (.box 46 6 [.sl 0 g.es.length (eds g.es),.mp a,.mp nb,.mp lw,.ms (S.next+1) 0 (s.stk.length+1),.ms tB 0 s.out.length])):=by
 obtain ⟨b1,b2,b3,b4⟩:=hb
 obtain ⟨c1,c2,c3,c4⟩:=hc
 obtain ⟨d1,d2,d3,d4⟩:=hd
 have m1:¬ a=W:=box_neB hA hW (by simp)
 have m2:¬ nb=W:=box_neB hN hW (by simp)
 have m3:¬ lw=W:=box_neB hL hW (by simp)
 have m4:¬ tB=W:=box_neB hBk hW (by simp)
 have m5:¬ a=tS:=box_neB hA hS (by simp)
 have m6:¬ nb=tS:=box_neB hN hS (by simp)
 have m7:¬ lw=tS:=box_neB hL hS (by simp)
 have m8:¬ tB=tS:=box_neB hBk hS (by simp)
 have e1:¬ a=S.next:=by omega
 have e2:¬ nb=S.next:=by omega
 have e3:¬ lw=S.next:=by omega
 have e4:¬ tB=S.next:=by omega
 have e5:¬ a=S.next+1:=by omega
 have e6:¬ nb=S.next+1:=by omega
 have e7:¬ lw=S.next+1:=by omega
 have e8:¬ tB=S.next+1:=by omega
 have e9:¬ S.next+1=W:=by omega
 have hpl:(pushW s i0).stk.length=s.stk.length+1:=by simp [pushW]
 have hpn:isN (pushW s i0).stk=isN s.stk++[i (i0:Int)]:=by simp [pushW,isN]
 refine ⟨⟨⟨S.next+1,tB,isN s.stk++[i (i0:Int)],ea,by rw [hpl];simp [pushW],⟨by simp [m1,m5,e1,e5,hA],hAm⟩,by simp [m2,m6,e2,e6,hN,pushW],by simp [m3,m7,e3,e7,hL,pushW],⟨by simp [e9],?_⟩,by simp [m4,m8,e4,e8,hBk,pushW],hn,by omega,b2,by simp,by simp;omega⟩,⟨c1,c2,c3,c4⟩,by simp;omega,by simp;omega,by simp;omega,by simp;omega⟩,?_⟩
 ·rw [hpl,← hpn,List.take_of_length_le]
  rw [isN_length,hpl];exact Nat.le_refl _
 ·exact (((((KbB.refl B S).new (by omega) _).set b1 _).new (by simp;omega) _).set c1 _)
theorem awp_weakB {P:Program} {N:Nat} {Q:AQ} {c:Code} {fr:Frm} {st:St} (I:Frm→St→Prop) (h0:I fr st) (h:∀ fr st,I fr st→AWp P N c Q fr st):AWp P N c Q fr st:=h _ _ h0
theorem bw_low {g:Gr} {B W a nb lw:Nat} {tk:Int→Nat} {s:Bw} {T:St} (h:BwAt g B W a nb lw tk s T) (v x:Int):BwAt g B W a nb lw tk (setW s v x) (T.set lw (.map false [.u32] (lwF s.vis (s.low.set (s.vis.idxOf v) x)))):=by
 obtain ⟨⟨tS,tB,CS,ea,hW,⟨hA,hAm⟩,hN,hL,⟨hS,hSt⟩,hBk,⟨n1,n2,n3⟩,⟨b1,b2,b3,b4⟩⟩,hc,d1,d2,d3,d4⟩:=h
 have m1:¬ W=lw:=box_neB hW hL (by simp)
 have m2:¬ tS=lw:=box_neB hS hL (by simp)
 have m3:¬ tB=lw:=box_neB hBk hL (by simp)
 have m4:¬ a=lw:=n2
 have m5:¬ nb=lw:=n3
 exact ⟨⟨tS,tB,CS,ea,by simp [m1,hW,setW],⟨by simp [m4,hA],hAm⟩,by simp [m5,hN,setW],by simp [setW],⟨by simp [m2,hS],hSt⟩,by simp [m3,hBk,setW],⟨n1,n2,n3⟩,b1,b2,by simpa using b3,by simpa using b4⟩,hc,by simpa using d1,by simpa using d2,by simpa using d3,by simpa using d4⟩
def VsI (g:Gr) (tk:Int→Nat) (hgo:Nat→Bw→Bw→Prop) (B W a nb lw:Nat) (s0:Bw) (v by_:Int) (st:St) (j:Nat) (fr:Frm) (st2:St):Prop:=
 fr 0=.pt W 0∧fr 1=u v∧fr 2=i by_∧fr 6=i ((s0.vis.length:Int)+1)∧fr 35=.sl (tk v) (atP g.es v).length (isN (atP g.es v))∧
 ∃ s D T N,hgo j s0 s∧BLp g s0 v by_ ((atP g.es v).take j) s D T N∧(∀ w∈s.vis,w∈g.vs)∧BwAt g B W a nb lw tk s st2∧KbB B st st2
set_option maxHeartbeats 8000000 in
theorem visitS (g:Gr) (hg:GoodE g) (B W a nb lw:Nat) (tk:Int→Nat) (hv:g.vs.length≤100) (he:g.es.length≤200):∀ (n:Nat) (A:Int→Prop) (s:Bw) (v by_:Int) (st:St),BPre g A s v by_→v∈g.vs→(∀ w∈s.vis,w∈g.vs)→g.vs.length≤n+s.vis.length→SzB g s→BwAt g B W a nb lw tk s st→
 ACalls Tryz.prog 15 [.pt W 0,u v,i by_] st fun r st'=>∃ s1,visF g.es n v by_ s=some s1∧BwAt g B W a nb lw tk s1 st'∧KbB B st st':=by
 intro n
 induction n with
 | zero=>
   intro A s v by_ st h hvv hs hn _ _
   obtain ⟨s1,C,T,N,e,_⟩:=vis_ok hg 0 A s v by_ h hvv hs hn
   cases e
 | succ n ih=>
   intro A s0 v by_ st h0 hvv hs hn hsz hbw
   obtain ⟨hvl,hsb⟩:=sz_bound hv he h0.nd hs
   obtain ⟨⟨tS,tB,CS,ea,hW,⟨hA,hAm⟩,hN,hL,⟨hS,hSt⟩,hBk,⟨n1,n2,n3⟩,⟨b1,b2,b3,b4⟩⟩,⟨c1,c2,c3,c4⟩,d1,d2,d3,d4⟩:=hbw
   have m4:¬ W=a:=box_neB hW hA (by simp)
   have m5:¬ W=nb:=box_neB hW hN (by simp)
   have m6:¬ W=lw:=box_neB hW hL (by simp)
   have hnl:=nbF_length s0.vis 0
   have hms:=mset_nb h0.new
   have hml:=mset_lw_new s0.vis s0.low v ((s0.vis.length:Int)+1) h0.ln h0.new
   have hav:=hAm v
   have w1:IntKind.i64.wrap ((s0.vis.length:Int)+1)=(s0.vis.length:Int)+1:=wrap_i64 _ (by omega) (by omega)
   have r1:¬ a=nb:=n1
   have r2:¬ a=lw:=n2
   have r3:¬ nb=lw:=n3
   have r4:¬ lw=nb:=fun e=>n3 e.symm
   refine qO tabOk Tryz.func15 rfl rfl Tryz.ntmps15 (rs:=[]) rfl (by simp) ?_
   have hbs:=h0.start
   have hstS:(newW s0 v).stk=s0.stk:=rfl
   have hb0:BwAt g B W a nb lw tk (newW s0 v) ((st.set nb (.map false [.u32] (nbF 0 (s0.vis++[v])))).set lw (.map false [.u32] (lwF (s0.vis++[v]) (s0.low++[(s0.vis.length:Int)+1])))):=by
    have q1:¬ W=nb:=m5
    have q2:¬ tS=nb:=box_neB hS hN (by simp)
    have q3:¬ tS=lw:=box_neB hS hL (by simp)
    have q4:¬ tB=nb:=box_neB hBk hN (by simp)
    have q5:¬ tB=lw:=box_neB hBk hL (by simp)
    exact ⟨⟨tS,tB,CS,ea,by simp [m5,m6,hW,newW],⟨by simp [r1,r2,hA],hAm⟩,by simp [r3,newW],by simp [newW],⟨by simp [q2,q3,hS],hSt⟩,by simp [q4,q5,hBk,newW],⟨n1,n2,n3⟩,b1,b2,by simpa using b3,by simpa using b4⟩,⟨c1,c2,c3,c4⟩,by simpa using d1,by simpa using d2,by simpa using d3,by simpa using d4⟩
   have hk0:KbB B st ((st.set nb (.map false [.u32] (nbF 0 (s0.vis++[v])))).set lw (.map false [.u32] (lwF (s0.vis++[v]) (s0.low++[(s0.vis.length:Int)+1])))):=((KbB.refl B st).set c3 _).set c4 _
   have hv0:∀ w∈(newW s0 v).vis,w∈g.vs:=fun w hw=>by
    have hw:w∈s0.vis++[v]:=hw
    rcases List.mem_append.1 hw with k | k
    ·exact hs w k
    ·rw [List.mem_singleton] at k;rw [k];exact hvv
   by_cases hat:atP g.es v=[]
   ·rw [if_pos hat] at hav
    have hvis:visF g.es (n+1) v by_ s0=some (newW s0 v):=by unfold visF;rw [hat];rfl
    (repeat' (first | refine qS ?_ | refine qB ?_ | ((first | refine qK ?_ | refine qX ?_);simp only [ak,reduceIte]) | (refine qR ?_;simp only [ak,reduceIte];simp [hW,hN,hL,hA,m4,m5,m6,hnl,hms,hml,hav,w1,r1,r2,r3,r4]) | (refine qC ?_;simp [hW,hN,hL,hA,m4,m5,m6,hnl,hms,hml,hav,w1,r1,r2,r3,r4];(try with_reducible refine ⟨?_,?_⟩)<;>(try with_reducible intro hc)<;>try (exfalso;omega)) | ((first | (refine w_e [] ?_;intro J hJ;simp only []) | (refine w_q ?_;intro J hJ) | refine e_go ?_);simp [hW,hN,hL,hA,m4,m5,m6,hnl,hms,hml,hav,w1,r1,r2,r3,r4];(repeat refine ca ?_);(try ((try with_reducible refine ⟨?_,?_⟩)<;>(try with_reducible intro hnil)<;>refine hJ _ _ ?_<;>clear hJ J<;>simp only [ak,reduceIte]<;>try subst hnil)))))
    refine awp_range 37 36 38 137 (0) (fun j fr st2=>st2=(st.set nb (.map false [.u32] (nbF 0 (s0.vis++[v])))).set lw (.map false [.u32] (lwF (s0.vis++[v]) (s0.low++[(s0.vis.length:Int)+1])))) ?_ ?_ ?_
    ·rfl
    ·intro j fr s hlt;omega
    ·rintro fr s hs2
     rw [hs2]
     (repeat' (first | refine qS ?_ | refine qB ?_ | ((first | refine qK ?_ | refine qX ?_);simp only [ak,reduceIte]) | (refine qR ?_;simp only [ak,reduceIte];simp []) | (refine qC ?_;simp [];(try with_reducible refine ⟨?_,?_⟩)<;>(try with_reducible intro hc)<;>try (exfalso;omega)) | ((first | (refine w_e [] ?_;intro J hJ;simp only []) | (refine w_q ?_;intro J hJ) | refine e_go ?_);simp [];(repeat refine ca ?_);(try ((try with_reducible refine ⟨?_,?_⟩)<;>(try with_reducible intro hnil)<;>refine hJ _ _ ?_<;>clear hJ J<;>simp only [ak,reduceIte]<;>try subst hnil)))))
     exact ⟨trivial,_,hvis,hb0,hk0⟩
   ·rw [if_neg hat] at hav
    have hnd:(atP g.es v).Nodup:=List.Pairwise.filter _ List.nodup_range
    have hatl:(atP g.es v).length≤g.es.length:=len_le hnd fun i hi=>(atP_mem.1 hi).1
    (repeat' (first | refine qS ?_ | refine qB ?_ | ((first | refine qK ?_ | refine qX ?_);simp only [ak,reduceIte]) | (refine qR ?_;simp only [ak,reduceIte];simp [hW,hN,hL,hA,m4,m5,m6,hnl,hms,hml,hav,w1,r1,r2,r3,r4]) | (refine qC ?_;simp [hW,hN,hL,hA,m4,m5,m6,hnl,hms,hml,hav,w1,r1,r2,r3,r4];(try with_reducible refine ⟨?_,?_⟩)<;>(try with_reducible intro hc)<;>try (exfalso;omega)) | ((first | (refine w_e [] ?_;intro J hJ;simp only []) | (refine w_q ?_;intro J hJ) | refine e_go ?_);simp [hW,hN,hL,hA,m4,m5,m6,hnl,hms,hml,hav,w1,r1,r2,r3,r4];(repeat refine ca ?_);(try ((try with_reducible refine ⟨?_,?_⟩)<;>(try with_reducible intro hnil)<;>refine hJ _ _ ?_<;>clear hJ J<;>simp only [ak,reduceIte]<;>try subst hnil)))))
    clear hW hN hL hA hAm hS hSt hBk hnl hms hml hav m4 m5 m6 r1 r2 r3 r4 n1 n2 n3 b1 b2 b3 b4 d1 d2 d3 d4
    refine awp_range 37 36 38 137 ((atP g.es v).length) (fun j fr st2=>VsI g tk (fun j s' s=>goB (stepB (visF g.es n) g.es v by_ ((s0.vis.length:Int)+1)) ((atP g.es v).take j) (newW s' v)=some s) B W a nb lw s0 v by_ st j fr st2) ?_ ?_ ?_
    ·exact ⟨by simp,by simp,by simp,by simp,by simp,newW s0 v,[],[],[],rfl,hbs,hv0,hb0,hk0⟩
    ·rintro j fr s1 hlt ⟨f0,f1,f2,f6,f35,s,D,T,N,hgo,hbl,hsv,hbw,hkb⟩ fi fn JO hJO
     have hgt:(atP g.es v).getD j 0=(atP g.es v)[j]:=by rw [List.getD_eq_getElem?_getD,List.getElem?_eq_getElem hlt];rfl
     have htk:(atP g.es v).take (j+1)=(atP g.es v).take j++[(atP g.es v).getD j 0]:=by rw [List.take_succ_eq_append_getElem hlt,hgt]
     have hi:(atP g.es v).getD j 0∈atP g.es v:=by rw [hgt];exact List.getElem_mem _
     have hiQ:(atP g.es v).getD j 0∉(atP g.es v).take j:=fun k=>by
      have h1:=hnd
      rw [← List.take_append_drop (j+1) (atP g.es v),htk,List.append_assoc,List.nodup_append] at h1
      exact h1.2.2 _ k _ (by simp) rfl
     have hd:=isN_drop (atP g.es v) j hlt
     generalize (atP g.es v).getD j 0=i0 at *
     obtain ⟨hil,hie⟩:=atP_mem.1 hi
     have next:∀ s2,stepB (visF g.es n) g.es v by_ ((s0.vis.length:Int)+1) s i0=some s2→goB (stepB (visF g.es n) g.es v by_ ((s0.vis.length:Int)+1)) ((atP g.es v).take (j+1)) (newW s0 v)=some s2:=fun s2 e=>by rw [htk,goB_app,hgo];exact e
     by_cases hb:(i0:Int)=by_
     ·have hbb:((i0:Int)==by_)=true:=by simpa using hb
      (repeat' (first | refine qS ?_ | refine qB ?_ | ((first | refine qK ?_ | refine qX ?_);simp only [ak,reduceIte]) | (refine qR ?_;simp only [ak,reduceIte];simp [f0,f2,f35,fi,fn,hd,hlt,hbb]) | (refine qC ?_;simp [f0,f2,f35,fi,fn,hd,hlt,hbb];(try with_reducible refine ⟨?_,?_⟩)<;>(try with_reducible intro hc)<;>try (exfalso;omega)) | ((first | (refine w_e [] ?_;intro J hJ;simp only []) | (refine w_q ?_;intro J hJ) | refine e_go ?_);simp [f0,f2,f35,fi,fn,hd,hlt,hbb];(repeat refine ca ?_);(try ((try with_reducible refine ⟨?_,?_⟩)<;>(try with_reducible intro hnil)<;>refine hJ _ _ ?_<;>clear hJ J<;>simp only [ak,reduceIte]<;>try subst hnil)))))
      exact hJO _ _ (by simp [fi]) (by simp [fn]) ⟨by simp [f0],by simp [f1],by simp [f2],by simp [f6],by simp [f35],s,D,T,N,next s (by unfold stepB;rw [if_pos hb]),by rw [htk];exact hbl.same hg h0 hi hb,hsv,hbw,hkb⟩
     have hbb:((i0:Int)==by_)=false:=by simpa using hb
     have hbw':=hbw
     obtain ⟨⟨tS,tB,CS,ea,hW,⟨hA,hAm⟩,hN,hL,⟨hS,hSt⟩,hBk,⟨n1,n2,n3⟩,⟨b1,b2,b3,b4⟩⟩,-,d1,d2,d3,d4⟩:=hbw'
     have hde:=eds_drop g.es i0 hil
     have hel:=eds_length g.es
     have hi3:i0 * 3 < g.es.length * 3:=by omega
     have y1:¬ W=s1.next:=by omega
     have y2:¬ nb=s1.next:=by omega
     have y3:¬ lw=s1.next:=by omega
     have y4:¬ tS=s1.next:=by omega
     have y5:¬ a=s1.next:=by omega
     have y6:¬ tB=s1.next:=by omega
     obtain ⟨w,hw⟩:∃ w,w=oth (eAt g.es i0) v:=⟨_,rfl⟩
     have hoth:w=if (g.es.getD i0 ed0).a=v then (g.es.getD i0 ed0).b else (g.es.getD i0 ed0).a:=hw
     -- to the edge
     (repeat (refine qS ?_));(refine w_e [] ?_;intro J hJ;simp only [];simp [f35,fi,fn,hd,hlt];(repeat refine ca ?_);(try ((try with_reducible refine ⟨?_,?_⟩)<;>(try with_reducible intro hnil)<;>refine hJ _ _ ?_<;>clear hJ J<;>simp only [ak,reduceIte]<;>try subst hnil)))
     (repeat (refine qS ?_));(refine w_e [] ?_;intro J hJ;simp only [];simp [f2];(repeat refine ca ?_);(try ((try with_reducible refine ⟨?_,?_⟩)<;>(try with_reducible intro hnil)<;>refine hJ _ _ ?_<;>clear hJ J<;>simp only [ak,reduceIte]<;>try subst hnil)))
     (refine qC ?_;simp [hbb];(try with_reducible refine ⟨?_,?_⟩)<;>(try with_reducible intro hc)<;>try (exfalso;omega))
     refine qK ?_;simp only [ak,reduceIte]
     (repeat (refine qS ?_));(refine w_e [] ?_;intro J hJ;simp only [];simp [f0,hW,hde,hil,hi3,hel];(repeat refine ca ?_);(try ((try with_reducible refine ⟨?_,?_⟩)<;>(try with_reducible intro hnil)<;>refine hJ _ _ ?_<;>clear hJ J<;>simp only [ak,reduceIte]<;>try subst hnil)))
     (repeat (refine qS ?_));(refine w_e [] ?_;intro J hJ;simp only [];simp [];(repeat refine ca ?_);(try ((try with_reducible refine ⟨?_,?_⟩)<;>(try with_reducible intro hnil)<;>refine hJ _ _ ?_<;>clear hJ J<;>simp only [ak,reduceIte]<;>try subst hnil)))
     refine qS ?_
     refine awp_cutB (fun f T=>f 0=.pt W 0∧f 1=u v∧f 2=i by_∧f 6=i ((s0.vis.length:Int)+1)∧f 35=.sl (tk v) (atP g.es v).length (isN (atP g.es v))∧f 36=i (atP g.es v).length∧f 37=i j∧f 8=i i0∧f 10=u w∧∃ o,T=s1.new o) ?_ ?_
     ·have hxg:g.es.getD i0 ed0=g.es[i0]:=getE_lt _ _ hil
      rw [hxg] at hoth
      by_cases hxa:g.es[i0].a=v
      ·have hxb:(g.es[i0].a==v)=true:=by simpa using hxa
       rw [if_pos hxa] at hoth
       (repeat' (first | refine qS ?_ | refine qB ?_ | ((first | refine qK ?_ | refine qX ?_);simp only [ak,reduceIte]) | (refine qR ?_;simp only [ak,reduceIte];simp [f0,f1,hxb]) | (refine qC ?_;simp [f0,f1,hxb];(try with_reducible refine ⟨?_,?_⟩)<;>(try with_reducible intro hc)<;>try (exfalso;omega)) | ((first | (refine w_e [] ?_;intro J hJ;simp only []) | (refine w_q ?_;intro J hJ) | refine e_go ?_);simp [f0,f1,hxb];(repeat refine ca ?_);(try ((try with_reducible refine ⟨?_,?_⟩)<;>(try with_reducible intro hnil)<;>refine hJ _ _ ?_<;>clear hJ J<;>simp only [ak,reduceIte]<;>try subst hnil)))))
       exact ⟨trivial,by simp [f0],by simp [f1],by simp [f2],by simp [f6],by simp [f35],by simp [fn],by simp [fi],by simp,by rw [hoth];simp,_,rfl⟩
      ·have hxb:(g.es[i0].a==v)=false:=by simpa using hxa
       rw [if_neg hxa] at hoth
       (repeat' (first | refine qS ?_ | refine qB ?_ | ((first | refine qK ?_ | refine qX ?_);simp only [ak,reduceIte]) | (refine qR ?_;simp only [ak,reduceIte];simp [f0,f1,hxb]) | (refine qC ?_;simp [f0,f1,hxb];(try with_reducible refine ⟨?_,?_⟩)<;>(try with_reducible intro hc)<;>try (exfalso;omega)) | ((first | (refine w_e [] ?_;intro J hJ;simp only []) | (refine w_q ?_;intro J hJ) | refine e_go ?_);simp [f0,f1,hxb];(repeat refine ca ?_);(try ((try with_reducible refine ⟨?_,?_⟩)<;>(try with_reducible intro hnil)<;>refine hJ _ _ ?_<;>clear hJ J<;>simp only [ak,reduceIte]<;>try subst hnil)))))
       exact ⟨trivial,by simp [f0],by simp [f1],by simp [f2],by simp [f6],by simp [f35],by simp [fn],by simp [fi],by simp,by rw [hoth];simp,_,rfl⟩
     clear f0 f1 f2 f6 f35 fi fn hd hde hoth fr
     rintro fr T ⟨f0,f1,f2,f6,f35,f36,f37,f8,f10,o,hT⟩
     rw [hT];clear hT T
     subst hw
     have hW':=(show (s1.new o).H W=s1.H W by rw [new_H,if_neg y1]).trans hW
     have hN':=(show (s1.new o).H nb=s1.H nb by rw [new_H,if_neg y2]).trans hN
     have hL':=(show (s1.new o).H lw=s1.H lw by rw [new_H,if_neg y3]).trans hL
     have hS':=(show (s1.new o).H tS=s1.H tS by rw [new_H,if_neg y4]).trans hS
     have hA':=(show (s1.new o).H a=s1.H a by rw [new_H,if_neg y5]).trans hA
     have hB':=(show (s1.new o).H tB=s1.H tB by rw [new_H,if_neg y6]).trans hBk
     have hbT:BwAt g B W a nb lw tk s (s1.new o):=hbw.keeps (Keeps.new _ _)
     have hkT:KbB B st (s1.new o):=hkb.new (by omega) o
     have hTn:(s1.new o).next=s1.next+1:=new_next _ _
     generalize s1.new o=T1 at *
     obtain ⟨szp,szo⟩:=hsz.child hbl
     obtain ⟨vl,sb⟩:=sz_bound hv he hbl.nd hsv
     have hm:=mget_nb s.vis (oth (eAt g.es i0) v)
     have m5:¬ W=nb:=box_neB hW hN (by simp)
     have m6:¬ W=lw:=box_neB hW hL (by simp)
     have m1:¬ W=tS:=box_neB hW hS (by simp)
     have hCS:s.stk.length≤CS.length:=by
      have:=congrArg List.length hSt
      rw [List.length_take,isN_length] at this
      omega
     have t1:¬ W=T1.next:=by omega
     have t2:¬ W=T1.next+1:=by omega
     have t3:¬ tS=T1.next:=by omega
     obtain ⟨hpb,hpk⟩:=bw_push i0 hW' hA' hAm hN' hL' hS' hB' ⟨n1,n2,n3⟩ ⟨b1,b2,by omega,by omega⟩ ⟨c1,c2,c3,c4⟩ ⟨by omega,by omega,by omega,by omega⟩ (.own 3 1 1)
     by_cases hin:oth (eAt g.es i0) v∈s.vis
     ·rw [if_pos hin] at hm
      have hn1:1≤nmW s.vis (oth (eAt g.es i0) v):=by unfold nmW;rw [if_pos hin];omega
      by_cases hnm:nmW s.vis (oth (eAt g.es i0) v) < (s0.vis.length:Int)+1
      ·have hback:=hbl.back hg h0 hi hiQ hb hin hnm
       have hst:stepB (visF g.es n) g.es v by_ ((s0.vis.length:Int)+1) s i0=some (setW (pushW s i0) v (min (lwW s v) (nmW s.vis (oth (eAt g.es i0) v)))):=by unfold stepB;rw [if_neg hb,if_pos hin,if_pos hnm]
       generalize oth (eAt g.es i0) v=w at *
       generalize nmW s.vis w=z at *
       have hzb:(z==0)=false:=by rw [beq_eq_false_iff_ne];omega
       have hz0:¬ z=0:=by omega
       (repeat' (first | refine qS ?_ | refine qB ?_ | ((first | refine qK ?_ | refine qX ?_);simp only [ak,reduceIte]) | (refine qR ?_;simp only [ak,reduceIte];simp [f0,f1,f6,f8,f10,hW',hN',hm,hzb,hz0,hnm,hS',hSt,hCS,m1,t1,t2,t3]) | (refine qC ?_;simp [f0,f1,f6,f8,f10,hW',hN',hm,hzb,hz0,hnm,hS',hSt,hCS,m1,t1,t2,t3];(try with_reducible refine ⟨?_,?_⟩)<;>(try with_reducible intro hc)<;>try (exfalso;omega)) | ((first | (refine w_e [] ?_;intro J hJ;simp only []) | (refine w_q ?_;intro J hJ) | refine e_go ?_);simp [f0,f1,f6,f8,f10,hW',hN',hm,hzb,hz0,hnm,hS',hSt,hCS,m1,t1,t2,t3];(repeat refine ca ?_);(try ((try with_reducible refine ⟨?_,?_⟩)<;>(try with_reducible intro hnil)<;>refine hJ _ _ ?_<;>clear hJ J<;>simp only [ak,reduceIte]<;>try subst hnil)))))
       refine awp_weakB (fun f T2=>f 0=.pt W 0∧f 1=u v∧f 2=i by_∧f 6=i ((s0.vis.length:Int)+1)∧f 35=.sl (tk v) (atP g.es v).length (isN (atP g.es v))∧f 36=i (atP g.es v).length∧f 37=i j∧f 11=i z∧BwAt g B W a nb lw tk (pushW s i0) T2∧KbB B T1 T2) ⟨by simp [f0],by simp [f1],by simp [f2],by simp [f6],by simp [f35],by simp [f36],by simp [f37],by simp,hpb,hpk⟩ ?_
       clear f0 f1 f2 f6 f35 f36 f37 f8 f10 hpb hpk fr
       rintro fr T2 ⟨f0,f1,f2,f6,f35,f36,f37,f11,hp2,hk2⟩
       have hlow:=bw_low hp2 v (min (lwW s v) z)
       have hml:=mget_lw s.vis s.low v hbl.ln (hbl.v_in hg h0)
       have hmo:=mset_lw_old s.vis s.low v (min (lwW s v) z) hbl.ln (hbl.v_in hg h0)
       obtain ⟨⟨tS2,tB2,CS2,ea2,jW,-,-,jL,-,-,-,-⟩,-,-⟩:=hp2
       have jm6:¬ W=lw:=box_neB jW jL (by simp)
       have jL:T2.H lw=.map false [.u32] (lwF s.vis s.low):=jL
       have hml:mget (lwF s.vis s.low) [v]=some (i (lwW s v)):=hml
       (refine w_s [] [W,lw] [(0,true),(1,true),(2,true),(3,true),(4,true),(5,true),(6,true),(7,true),(8,true),(9,true),(10,true),(11,true),(12,true),(13,false)] ?_;intro J hJ;simp [f0,f1,f11,jW,jL,hml,hmo];(repeat refine ca ?_);(try ((try with_reducible refine ⟨?_,?_⟩)<;>(try with_reducible intro hnil)<;>refine hJ _ _ ?_<;>clear hJ J<;>simp only [ak,reduceIte]<;>try subst hnil)))
       have hmin:(if z < lwW s v then z else lwW s v)=min (lwW s v) z:=by split<;>omega
       rw [hmin,show mset (lwF s.vis s.low) [v] (LV.atom (Value.int IntKind.i64 (min (lwW s v) z)))=_ from hmo]
       exact hJO _ _ (by simp [f37]) (by simp [f36]) ⟨by simp [f0],by simp [f1],by simp [f2],by simp [f6],by simp [f35],_,D,T++[i0],N,next _ hst,by rw [htk];exact hback,hsv,hlow,(hkT.trans hk2).set c4 _⟩
      ·have hskip:=hbl.skip hg h0 hi hin hnm
       have hst:stepB (visF g.es n) g.es v by_ ((s0.vis.length:Int)+1) s i0=some s:=by unfold stepB;rw [if_neg hb,if_pos hin,if_neg hnm]
       generalize oth (eAt g.es i0) v=w at *
       generalize nmW s.vis w=z at *
       have hzb:(z==0)=false:=by rw [beq_eq_false_iff_ne];omega
       have hz0:¬ z=0:=by omega
       (repeat' (first | refine qS ?_ | refine qB ?_ | ((first | refine qK ?_ | refine qX ?_);simp only [ak,reduceIte]) | (refine qR ?_;simp only [ak,reduceIte];simp [f0,f1,f6,f10,hW',hN',hm,hzb,hz0,hnm]) | (refine qC ?_;simp [f0,f1,f6,f10,hW',hN',hm,hzb,hz0,hnm];(try with_reducible refine ⟨?_,?_⟩)<;>(try with_reducible intro hc)<;>try (exfalso;omega)) | ((first | (refine w_e [] ?_;intro J hJ;simp only []) | (refine w_q ?_;intro J hJ) | refine e_go ?_);simp [f0,f1,f6,f10,hW',hN',hm,hzb,hz0,hnm];(repeat refine ca ?_);(try ((try with_reducible refine ⟨?_,?_⟩)<;>(try with_reducible intro hnil)<;>refine hJ _ _ ?_<;>clear hJ J<;>simp only [ak,reduceIte]<;>try subst hnil)))))
       exact hJO _ _ (by simp [f37]) (by simp [f36]) ⟨by simp [f0],by simp [f1],by simp [f2],by simp [f6],by simp [f35],s,D,T,N,next s hst,by rw [htk];exact hskip,hsv,hbT,hkT⟩
     ·rw [if_neg hin] at hm
      have hpre:=hbl.pre hg h0 hi hin
      have hch:=fun s1 C T' N' hp=>hbl.child hg h0 hi hiQ hb hin (s1:=s1) (C:=C) (T':=T') (N':=N') hp
      have hwv:oth (eAt g.es i0) v∈g.vs:=hg.nbr (oth_nbr hi)
      have hwne:=eAt_ne hg hi
      have hst:stepB (visF g.es n) g.es v by_ ((s0.vis.length:Int)+1) s i0=(visF g.es n (oth (eAt g.es i0) v) i0 (pushW s i0)).bind (lowB g.es.length v ((s0.vis.length:Int)+1) i0 (oth (eAt g.es i0) v)):=by unfold stepB;rw [if_neg hb,if_neg hin]
      generalize oth (eAt g.es i0) v=w at *
      (repeat' (first | refine qS ?_ | refine qB ?_ | ((first | refine qK ?_ | refine qX ?_);simp only [ak,reduceIte]) | (refine qR ?_;simp only [ak,reduceIte];simp [f0,f1,f6,f8,f10,hW',hN',hm,hS',hSt,hCS,m1,t1,t2,t3]) | (refine qC ?_;simp [f0,f1,f6,f8,f10,hW',hN',hm,hS',hSt,hCS,m1,t1,t2,t3];(try with_reducible refine ⟨?_,?_⟩)<;>(try with_reducible intro hc)<;>try (exfalso;omega)) | ((first | (refine w_e [] ?_;intro J hJ;simp only []) | (refine w_q ?_;intro J hJ) | refine e_go ?_);simp [f0,f1,f6,f8,f10,hW',hN',hm,hS',hSt,hCS,m1,t1,t2,t3];(repeat refine ca ?_);(try ((try with_reducible refine ⟨?_,?_⟩)<;>(try with_reducible intro hnil)<;>refine hJ _ _ ?_<;>clear hJ J<;>simp only [ak,reduceIte]<;>try subst hnil)))))
      have hlen:s.vis.length=s0.vis.length+1+D.length:=by rw [hbl.vis,List.length_append,List.length_cons];omega
      refine qE (ih _ (pushW s i0) w i0 _ hpre hwv hsv (by show g.vs.length≤n+s.vis.length;omega) ⟨by simpa [pushW] using szp,szo⟩ hpb) (by simp) ?_;rintro r T2 ⟨s2,hvis,hb2,hk2⟩
      obtain ⟨s2',C,T',N',hvis',hp,hC⟩:=vis_ok hg n _ (pushW s i0) w i0 hpre hwv hsv (by show g.vs.length≤n+s.vis.length;omega)
      obtain rfl:s2=s2':=by rw [hvis] at hvis';exact Option.some.inj hvis'
      clear hvis'
      obtain ⟨s3,D2,T3,N2,hlo,hbl3⟩:=hch s2 C T' N' hp
      have hst3:stepB (visF g.es n) g.es v by_ ((s0.vis.length:Int)+1) s i0=some s3:=by rw [hst,hvis];exact hlo
      have hkT2:KbB B st T2:=(hkT.trans hpk).trans hk2
      have hvs:v∈s.vis:=hbl.v_in hg h0
      have hvs2:v∈s2.vis:=by rw [hp.vis];exact List.mem_append_left _ hvs
      have hws2:w∈s2.vis:=by rw [hp.vis];exact List.mem_append_right _ hp.hd
      have hs2v:∀ x∈s2.vis,x∈g.vs:=fun x hx=>by
       rw [hp.vis,List.mem_append] at hx
       exact hx.elim (hsv x) (hC x)
      have hmv:mget (lwF s2.vis s2.low) [v]=some (i (lwW s2 v)):=mget_lw s2.vis s2.low v hp.ln hvs2
      have hmw:mget (lwF s2.vis s2.low) [w]=some (i (lwW s2 w)):=mget_lw s2.vis s2.low w hp.ln hws2
      have hmo:=mset_lw_old s2.vis s2.low v (min (lwW s2 v) (lwW s2 w)) hp.ln hvs2
      have hlow:=bw_low hb2 v (min (lwW s2 v) (lwW s2 w))
      have hmw3:mget (lwF s2.vis (s2.low.set (s2.vis.idxOf v) (min (lwW s2 v) (lwW s2 w)))) [w]=some (i (lwW s2 w)):=by
       have h1:=mget_lw s2.vis (s2.low.set (s2.vis.idxOf v) (min (lwW s2 v) (lwW s2 w))) w (by rw [List.length_set];exact hp.ln) hws2
       have h2:=lwW_set (x:=min (lwW s2 v) (lwW s2 w)) hp.ln hvs2 hws2
       rw [if_neg hwne] at h2
       rw [h1]
       exact congrArg (fun y=>some (i y)) h2
      obtain ⟨⟨tS2,tB2,CS2,ea2,jW,-,-,jL,-,-,-,-⟩,-,-⟩:=hb2
      have jm6:¬ W=lw:=box_neB jW jL (by simp)
      have hmin:(if lwW s2 w < lwW s2 v then lwW s2 w else lwW s2 v)=min (lwW s2 v) (lwW s2 w):=by split<;>omega
      (refine e_go ?_;simp [];(repeat refine ca ?_);(try ((try with_reducible refine ⟨?_,?_⟩)<;>(try with_reducible intro hnil)<;>refine hJ _ _ ?_<;>clear hJ J<;>simp only [ak,reduceIte]<;>try subst hnil)))
      (repeat (refine qS ?_));(refine w_s [] [W,lw] [(0,true),(1,true),(2,true),(3,true),(4,true),(5,true),(6,true),(7,true),(8,true),(9,true),(10,true),(11,true),(12,true),(13,true),(14,true),(15,true),(16,true),(17,true),(18,false)] ?_;intro J hJ;simp [f0,f1,f10,jW,jL,hmv,hmw];(repeat refine ca ?_);(try ((try with_reducible refine ⟨?_,?_⟩)<;>(try with_reducible intro hnil)<;>refine hJ _ _ ?_<;>clear hJ J<;>simp only [ak,reduceIte]<;>try subst hnil)))
      rw [hmin,show mset (lwF s2.vis s2.low) [v] (LV.atom (Value.int IntKind.i64 (min (lwW s2 v) (lwW s2 w))))=_ from hmo]
      have hW3:(T2.set lw (.map false [.u32] (lwF s2.vis (s2.low.set (s2.vis.idxOf v) (min (lwW s2 v) (lwW s2 w)))))).H W=T2.H W:=by rw [set_H,if_neg jm6]
      unfold lowB at hlo
      by_cases hc:(s0.vis.length:Int)+1≤lwW s2 w
      ·rw [if_pos hc] at hlo
       have hstk:s2.stk=s.stk++i0::T':=by rw [hp.stk];show (s.stk++[i0])++T'=_;simp
       have hiT:i0∉T':=fun k=>((hp.pl i0).1 (List.mem_append_left _ k)).2.1 rfl
       have hTn:=(List.nodup_append.1 hp.pn).1
       have hTl:∀ k∈T',k < g.es.length:=fun k hk=>((hp.pl k).1 (List.mem_append_left _ hk)).1
       have hTlen:=len_le hTn hTl
       have hNl:=flat_ge N' fun B hB=>(hp.good B hB).ne
       have hNf:=len_le (List.nodup_append.1 hp.pn).2.1 fun k hk=>((hp.pl k).1 (List.mem_append_right _ hk)).1
       have ho2:s2.out.length=s.out.length+N'.length:=by rw [hp.out,List.length_append];rfl
       have hk2l:s2.stk.length=s.stk.length+1+T'.length:=by rw [hstk,List.length_append,List.length_cons];omega
       have hlp:lastP s2.stk i0=s.stk.length:=by rw [hstk];exact lastP_app hiT
       have hdrop:s2.stk.drop (lastP s2.stk i0)=i0::T':=by rw [hlp,hstk,List.drop_left]
       have hcall:=cutS g hg.ids B W a nb lw tk (setW s2 v (min (lwW s2 v) (lwW s2 w))) i0 _ hlow (by show i0∈s2.stk;rw [hstk];simp)
        (by show ∀ k∈s2.stk.drop (lastP s2.stk i0),k < g.es.length
            rw [hdrop];intro k hk;rcases List.mem_cons.1 hk with e | e
            ·rw [e];exact hil
            ·exact hTl k e)
        (by show (s2.stk.drop (lastP s2.stk i0)).Nodup
            rw [hdrop];exact List.nodup_cons.2 ⟨hiT,hTn⟩) (by omega) (by show s2.stk.length≤60000;omega) (by show s2.out.length≤100000;omega)
       (repeat' (first | refine qS ?_ | refine qB ?_ | ((first | refine qK ?_ | refine qX ?_);simp only [ak,reduceIte]) | (refine qR ?_;simp only [ak,reduceIte];simp [f0,f6,f8,f10,jW,jm6,hmw3,hc]) | (refine qC ?_;simp [f0,f6,f8,f10,jW,jm6,hmw3,hc];(try with_reducible refine ⟨?_,?_⟩)<;>(try with_reducible intro hc)<;>try (exfalso;omega)) | ((first | (refine w_e [] ?_;intro J hJ;simp only []) | (refine w_q ?_;intro J hJ) | refine e_go ?_);simp [f0,f6,f8,f10,jW,jm6,hmw3,hc];(repeat refine ca ?_);(try ((try with_reducible refine ⟨?_,?_⟩)<;>(try with_reducible intro hnil)<;>refine hJ _ _ ?_<;>clear hJ J<;>simp only [ak,reduceIte]<;>try subst hnil)))))
       refine qE hcall (by simp) ?_;rintro r T4 ⟨s4,hcw,hb4,hk4⟩
       obtain rfl:s4=s3:=by rw [hcw] at hlo;exact Option.some.inj hlo
       have hv4:s4.vis=s2.vis:=by
        unfold cutW at hcw
        split at hcw
        ·cases hcw;rfl
        ·cases hcw
       (repeat' (first | refine qS ?_ | refine qB ?_ | ((first | refine qK ?_ | refine qX ?_);simp only [ak,reduceIte]) | (refine qR ?_;simp only [ak,reduceIte];simp []) | (refine qC ?_;simp [];(try with_reducible refine ⟨?_,?_⟩)<;>(try with_reducible intro hc)<;>try (exfalso;omega)) | ((first | (refine w_e [] ?_;intro J hJ;simp only []) | (refine w_q ?_;intro J hJ) | refine e_go ?_);simp [];(repeat refine ca ?_);(try ((try with_reducible refine ⟨?_,?_⟩)<;>(try with_reducible intro hnil)<;>refine hJ _ _ ?_<;>clear hJ J<;>simp only [ak,reduceIte]<;>try subst hnil)))))
       exact hJO _ _ (by simp [f37]) (by simp [f36]) ⟨by simp [f0],by simp [f1],by simp [f2],by simp [f6],by simp [f35],_,D2,T3,N2,next _ hst3,by rw [htk];exact hbl3,fun x hx=>hs2v x (by rw [← hv4];exact hx),hb4,(hkT2.set c4 _).trans hk4⟩
      ·rw [if_neg hc] at hlo
       obtain rfl:=Option.some.inj hlo
       (repeat' (first | refine qS ?_ | refine qB ?_ | ((first | refine qK ?_ | refine qX ?_);simp only [ak,reduceIte]) | (refine qR ?_;simp only [ak,reduceIte];simp [f0,f6,f10,jW,jm6,hmw3,hc]) | (refine qC ?_;simp [f0,f6,f10,jW,jm6,hmw3,hc];(try with_reducible refine ⟨?_,?_⟩)<;>(try with_reducible intro hc)<;>try (exfalso;omega)) | ((first | (refine w_e [] ?_;intro J hJ;simp only []) | (refine w_q ?_;intro J hJ) | refine e_go ?_);simp [f0,f6,f10,jW,jm6,hmw3,hc];(repeat refine ca ?_);(try ((try with_reducible refine ⟨?_,?_⟩)<;>(try with_reducible intro hnil)<;>refine hJ _ _ ?_<;>clear hJ J<;>simp only [ak,reduceIte]<;>try subst hnil)))))
       exact hJO _ _ (by simp [f37]) (by simp [f36]) ⟨by simp [f0],by simp [f1],by simp [f2],by simp [f6],by simp [f35],_,D2,T3,N2,next _ hst3,by rw [htk];exact hbl3,hs2v,hlow,hkT2.set c4 _⟩
    ·rintro fr s1 ⟨f0,f1,f2,f6,f35,s,D,T,N,hgo,hbl,hsv,hbw,hkb⟩
     rw [List.take_length] at hgo
     (repeat' (first | refine qS ?_ | refine qB ?_ | ((first | refine qK ?_ | refine qX ?_);simp only [ak,reduceIte]) | (refine qR ?_;simp only [ak,reduceIte];simp []) | (refine qC ?_;simp [];(try with_reducible refine ⟨?_,?_⟩)<;>(try with_reducible intro hc)<;>try (exfalso;omega)) | ((first | (refine w_e [] ?_;intro J hJ;simp only []) | (refine w_q ?_;intro J hJ) | refine e_go ?_);simp [];(repeat refine ca ?_);(try ((try with_reducible refine ⟨?_,?_⟩)<;>(try with_reducible intro hnil)<;>refine hJ _ _ ?_<;>clear hJ J<;>simp only [ak,reduceIte]<;>try subst hnil)))))
     exact ⟨trivial,s,hgo,hbw,hkb⟩
theorem awp_cutZ {P:Program} {N:Nat} {Q:AQ} {k:List AItem} {fr:Frm} {st:St} {x:Code} (I:Frm→St→Prop) (h1:AWp P N x (AK P N (fun e f s=>e=.normal∧I f s) []) fr st) (h2:∀ fr st,I fr st→AK P N Q k .normal fr st):
 AWp P N x (AK P N Q k) fr st:=by
 refine awp_mono h1 ?_
 rintro e fr' st' ⟨rfl,hI⟩
 exact h2 _ _ hI
theorem awp_cellB {P:Program} {N:Nat} {Q:AQ} {fr:Frm} {st:St} {c:Code} (q e' s':Nat) {e s:Nat} (pre post:List LV) (hH:st.H q=.box e s (pre++.nil::post))
 (h:AWp P N c Q fr ((st.new (.box e' s' [])).set q (.box e s (pre++.ms st.next 0 0::post)))):AWp P N c Q fr st:=by
 refine awp_ghost (fun a w g hi hr _=>?_) h
 have he:=ext_nil w g
 have h1:Inv w g.addNil (st.new (.box e' s' [])):=inv_nil hi _ (.inr ⟨e',s',rfl⟩)
 have hlt:q < st.next:=box_lt hi hH (by simp)
 refine ⟨g.addNil,inv_recell h1 (cs:=pre++.nil::post) (by rw [new_H,if_neg (by omega)];exact hH) (by simp) (fun vs hv=>?_),hr.mono he,he⟩
 obtain ⟨v,k1,k2⟩:=repL_mid pre vs hv
 refine k2 g.addNil _ (Ext.refl _ _) ?_
 simp only [Rep] at k1 ⊢
 exact ⟨none,0,k1,Nat.le_refl _,Nat.zero_le _,fun _=>by simp [G.addNil,hi.next],fun h=>absurd rfl h,by simp [G.addNil,hi.next]⟩
structure AtR (lo:Nat) (ρ:Int→List Nat) (ea:List (List Int×LV)) (tk:Int→Nat) (st:St):Prop where
 get:∀ v,mget ea [v]=if ρ v=[] then none else some (.sl (tk v) (ρ v).length (isN (ρ v)))
 own:∀ v,ρ v≠[]→st.H (tk v)=.own 3 1 (ρ v).length∧(tk v≠0∧lo≤tk v∧tk v < st.next)
 inj:∀ v w,ρ v≠[]→ρ w≠[]→tk v=tk w→v=w
def addR (ρ:Int→List Nat) (v:Int) (k:Nat):Int→List Nat:=fun w=>if w=v then ρ v++[k] else ρ w
theorem AtR.put {lo:Nat} {ρ:Int→List Nat} {ea:List (List Int×LV)} {tk:Int→Nat} {st st':St} (h:AtR lo ρ ea tk st) (v:Int) (k:Nat) {t n:Nat} (hn:n=(ρ v).length+1) (ht:st.next≤t∧t < st'.next∧t≠0∧lo≤t) (hH:st'.H t=.own 3 1 n)
 (ho:∀ w,w≠v→ρ w≠[]→st'.H (tk w)=st.H (tk w)) (hl:st.next≤st'.next):AtR lo (addR ρ v k) (mset ea [v] (.sl t n (isN (ρ v)++[i (k:Int)]))) (fun w=>if w=v then t else tk w) st' where
 get:=fun w=>by
  rw [mget_mset]
  unfold addR
  by_cases e:w=v
  ·subst e
   rw [if_pos rfl,if_pos rfl,if_pos rfl,if_neg (by simp),hn]
   simp [isN]
  ·rw [if_neg (by simpa using e),if_neg e,if_neg e]
   exact h.get w
 own:=fun w hw=>by
  unfold addR at hw ⊢
  by_cases e:w=v
  ·rw [if_pos e,if_pos e]
   exact ⟨by rw [hH,hn];simp,ht.2.2.1,ht.2.2.2,ht.2.1⟩
  ·rw [if_neg e] at hw
   rw [if_neg e,if_neg e]
   obtain ⟨h1,h2,h3,h4⟩:=h.own w hw
   exact ⟨by rw [ho w e hw];exact h1,h2,h3,by omega⟩
 inj:=fun x y hx hy he=>by
  unfold addR at hx hy
  by_cases e1:x=v
  ·by_cases e2:y=v
   ·rw [e1,e2]
   ·rw [if_neg e2] at hy
    simp only [if_pos e1,if_neg e2] at he
    have:=(h.own y hy).2.2.2
    omega
  ·rw [if_neg e1] at hx
   by_cases e2:y=v
   ·simp only [if_neg e1,if_pos e2] at he
    have:=(h.own x hx).2.2.2
    omega
   ·rw [if_neg e2] at hy
    simp only [if_neg e1,if_neg e2] at he
    exact h.inj x y hx hy he
theorem AtR.keeps {lo:Nat} {ρ:Int→List Nat} {ea:List (List Int×LV)} {tk:Int→Nat} {st st':St} (h:AtR lo ρ ea tk st) (hk:Keeps st st'):AtR lo ρ ea tk st':=
 ⟨h.get,fun v hv=>by obtain ⟨h1,h2,h3,h4⟩:=h.own v hv;exact ⟨by rw [hk.H _ h4];exact h1,h2,h3,by have:=hk.next;omega⟩,h.inj⟩
def atK (es:List Ed) (k:Nat) (v:Int):List Nat:=(List.range k).filter fun i=>decide ((eAt es i).a=v∨(eAt es i).b=v)
theorem atK_succ {es:List Ed} {k:Nat} (hne:(eAt es k).a≠(eAt es k).b):atK es (k+1)=addR (addR (atK es k) (eAt es k).a k) (eAt es k).b k:=by
 funext v
 unfold atK addR
 rw [List.range_succ,List.filter_append]
 by_cases hb:v=(eAt es k).b
 ·subst hb
  rw [if_pos rfl,if_neg (fun e=>hne e.symm)]
  simp
 ·rw [if_neg hb]
  by_cases ha:v=(eAt es k).a
  ·subst ha
   simp
  ·rw [if_neg ha]
   have:¬ ((eAt es k).a=v∨(eAt es k).b=v):=by omega
   rw [List.filter_cons,if_neg (by simpa using this)]
   simp
def AtI (g:Gr) (p:Nat) (st:St) (ρ:Int→List Nat) (s:St):Prop:=s.H p=.box 25 2 (grL g)∧s.H (p+4)=.box 46 6 [.sl 0 g.es.length (eds g.es),.mp (p+1),.mp (p+2),.mp (p+3),.ms (p+5) 0 0,.ms (p+6) 0 0]∧s.H (p+2)=.map false [.u32] []∧s.H (p+3)=.map false [.u32] []∧s.H (p+5)=.box 3 1 []∧s.H (p+6)=.box 23 1 []∧p+7≤s.next∧Keeps st s∧
 ∃ ea tk,s.H (p+1)=.map false [.u32] ea∧AtR (p+7) ρ ea tk s
theorem allB_app {es:List Ed} {n:Nat}:∀ (l:List Int) (v:Int) (s:Bw),allB es n (l++[v]) s=(allB es n l s).bind fun s'=>allB es n [v] s'
 | [],v,s=>rfl
 | w::l,v,s=>by
   simp only [List.cons_append,allB]
   split
   ·exact allB_app l v s
   ·cases visF es n w (-1) s with
    | none=>rfl
    | some s'=>exact allB_app l v s'
theorem BAll.sz {g:Gr} {s:Bw} (h:BAll g s):SzB g s:=by
 have h1:=flat_ge s.out fun B hB=>(h.good B hB).ne
 have h2:=len_le h.pn fun i hi=>((h.pl i).1 hi).1
 unfold SzB
 rw [h.stk]
 refine ⟨Nat.zero_le _,?_⟩
 cases hv:s.vis with
 | nil=>
   have:s.out.flatten=[]:=List.eq_nil_iff_forall_not_mem.2 fun i hi=>by
    have:=((h.pl i).1 hi).2
    rw [hv] at this;cases this
   rw [this] at h1
   rw [List.length_nil,Nat.zero_mul]
   exact h1
 | cons w V=>
   rw [List.length_cons,Nat.add_mul]
   omega
theorem AtI.keeps {g:Gr} {p:Nat} {st:St} {ρ:Int→List Nat} {s s':St} (h:AtI g p st ρ s) (hk:Keeps s s'):AtI g p st ρ s':=by
 obtain ⟨h0,h1,h2,h3,h4,h5,h6,h7,ea,tk,h8,h9⟩:=h
 have:=hk.next
 exact ⟨(hk.H _ (by omega)).trans h0,(hk.H _ (by omega)).trans h1,(hk.H _ (by omega)).trans h2,(hk.H _ (by omega)).trans h3,(hk.H _ (by omega)).trans h4,(hk.H _ (by omega)).trans h5,by omega,h7.trans hk,ea,tk,(hk.H _ (by omega)).trans h8,h9.keeps hk⟩
set_option maxHeartbeats 8000000 in
theorem BlocksK (g:Gr) (hg:GoodE g) (st:St) (hv:g.vs.length≤100) (he:g.es.length≤200):
 ACalls Tryz.prog 7 [.ag (grL g)] st fun r st'=>∃ q,r=.ms q 0 (ledB g.es).length∧st'.H q=.box 23 1 (bkL g.es (ledB g.es))∧st.next≤q∧q < st'.next∧Keeps st st':=by
 obtain ⟨S,hS,hSk,hSa,hSn,hSb⟩:=blocks_ok hg
 have hel:=eds_length g.es
 have hids:=hg.ids
 refine qO tabOk Tryz.func7 rfl rfl Tryz.ntmps7 (rs:=[.tmp 2]) rfl (by simp) ?_
 refine awp_posG fun hpos=>?_
 have x1:¬ st.next=st.next+1:=by omega
 have x2:¬ st.next=st.next+1+1:=by omega
 have x3:¬ st.next=st.next+1+1+1:=by omega
 have x4:¬ st.next=st.next+1+1+1+1:=by omega
 have x5:¬ st.next=st.next+1+1+1+1+1:=by omega
 have x6:¬ st.next=st.next+1+1+1+1+1+1:=by omega
 (repeat' (first | refine qS ?_ | refine qB ?_ | ((first | refine qK ?_ | refine qX ?_);simp only [ak,reduceIte]) | (refine qR ?_;simp only [ak,reduceIte];simp [x1,x2,x3,x4]) | (refine qC ?_;simp [x1,x2,x3,x4];(try with_reducible refine ⟨?_,?_⟩)<;>(try with_reducible intro hc)<;>try (exfalso;omega)) | ((first | (refine w_e [] ?_;intro J hJ;simp only []) | (refine w_q ?_;intro J hJ) | refine e_go ?_);simp [x1,x2,x3,x4];(repeat refine ca ?_);(try ((try with_reducible refine ⟨?_,?_⟩)<;>(try with_reducible intro hnil)<;>refine hJ _ _ ?_<;>clear hJ J<;>simp only [ak,reduceIte]<;>try subst hnil)))))
 refine awp_cellB (st.next+1+1+1+1) 3 1 (e:=46) (s:=6) [.sl 0 g.es.length (eds g.es),.mp (st.next+1),.mp (st.next+1+1),.mp (st.next+1+1+1)] [.nil] (by simp) ?_
 refine awp_cellB (st.next+1+1+1+1) 23 1 (e:=46) (s:=6) [.sl 0 g.es.length (eds g.es),.mp (st.next+1),.mp (st.next+1+1),.mp (st.next+1+1+1),.ms (st.next+5) 0 0] [] (by simp) ?_
 obtain ⟨p,hp⟩:∃ p,p=st.next:=⟨_,rfl⟩
 refine awp_range 18 17 19 55 (g.es.length) (fun j fr st2=>fr 1=.pt p 0∧fr 3=.pt (p+4) 0∧fr 16=.sl 0 g.es.length (eds g.es)∧AtI g p st (atK g.es j) st2) ?_ ?_ ?_
 ·subst hp
  refine ⟨by simp,by simp,by simp,?_⟩
  refine ⟨by simp [x1,x2,x3,x4,x5,x6],?_,by simp,by simp,by simp,by simp,by simp,?_,[],fun _=>0,by simp,⟨fun v=>rfl,fun v hv=>absurd rfl hv,fun v w hv=>absurd rfl hv⟩⟩
  ·simp
  ·(repeat (first | exact Keeps.refl _ | (refine Keeps.trans ?_ (Keeps.new _ _)) | (refine Keeps.set ?_ (by omega) _)))
 ·clear x1 x2 x3 x4 x5 x6
  rintro j fr s hlt ⟨f1,f3,f16,hI⟩ fi fn JO hJO
  have hde:=eds_drop g.es j hlt
  have hj3:j * 3 < g.es.length * 3:=by omega
  have hne:=hg.ne _ (eAt_mem hlt)
  have hsu:=atK_succ (es:=g.es) (k:=j) hne
  rw [hsu] at hJO
  clear hsu
  unfold eAt at hJO
  generalize g.es.getD j ed0=x at *
  obtain ⟨id,xa,xb⟩:=x
  simp only at hJO hde
  have hρ:∀ w,(atK g.es j w).length≤10000:=fun w=>by
   have:=List.length_filter_le (fun i=>decide ((eAt g.es i).a=w∨(eAt g.es i).b=w)) (List.range j)
   rw [List.length_range] at this
   unfold atK;omega
  generalize atK g.es j=ρ at *
  have hpn:p+7≤s.next:=hI.2.2.2.2.2.2.1
  (repeat' (first | refine qS ?_ | refine qB ?_ | ((first | refine qK ?_ | refine qX ?_);simp only [ak,reduceIte]) | (refine qR ?_;simp only [ak,reduceIte];simp [f1,f3,f16,fi,fn,hde,hlt,hj3,hel]) | (refine qC ?_;simp [f1,f3,f16,fi,fn,hde,hlt,hj3,hel];(try with_reducible refine ⟨?_,?_⟩)<;>(try with_reducible intro hc)<;>try (exfalso;omega)) | ((first | (refine w_e [] ?_;intro J hJ;simp only []) | (refine w_q ?_;intro J hJ) | refine e_go ?_);simp [f1,f3,f16,fi,fn,hde,hlt,hj3,hel];(repeat refine ca ?_);(try ((try with_reducible refine ⟨?_,?_⟩)<;>(try with_reducible intro hnil)<;>refine hJ _ _ ?_<;>clear hJ J<;>simp only [ak,reduceIte]<;>try subst hnil)))))
  refine awp_weakB (fun f T=>f 1=.pt p 0∧f 3=.pt (p+4) 0∧f 4=i j∧f 5=.pt s.next 0∧f 16=.sl 0 g.es.length (eds g.es)∧f 17=i g.es.length∧f 18=i j∧s.next < T.next∧T.H s.next=.box 34 3 [u id,u xa,u xb]∧AtI g p st (ρ) T) ⟨by simp [f1],by simp [f3],by simp,by simp,by simp [f16],by simp [fn],by simp [fi],by simp,by simp,hI.keeps (Keeps.new _ _)⟩ ?_
  generalize s.next=X at *
  clear f1 f3 f16 fi fn hI fr
  rintro fr s2 ⟨f1,f3,f4,f5,f16,fn,fi,hXl,hX,hI⟩
  refine awp_cutB (fun f T=>f 1=.pt p 0∧f 3=.pt (p+4) 0∧f 4=i j∧f 5=.pt X 0∧f 16=.sl 0 g.es.length (eds g.es)∧f 17=i g.es.length∧f 18=i j∧X < T.next∧T.H X=.box 34 3 [u id,u xa,u xb]∧AtI g p st (addR ρ xa j) T) ?_ ?_
  ·obtain ⟨hG,hW,hN,hL,hS,hB,hnx,hkp,ea,tk,hA,hR⟩:=hI
   have hget:=hR.get xa
   have k1:¬ X=s2.next:=by omega
   have k2:¬ X=s2.next+1:=by omega
   have k3:¬ X=p+1:=by omega
   have e0:¬ p+4=s2.next:=by omega
   have e1:¬ p+1=s2.next:=by omega
   have e2:¬ p+2=s2.next:=by omega
   have e3:¬ p+3=s2.next:=by omega
   have e4:¬ p=s2.next:=by omega
   have e5:¬ p+5=s2.next:=by omega
   have e6:¬ p+6=s2.next:=by omega
   have e7:¬ p+4=s2.next+1:=by omega
   have e8:¬ p+1=s2.next+1:=by omega
   have e9:¬ p+2=s2.next+1:=by omega
   have e10:¬ p+3=s2.next+1:=by omega
   have e11:¬ p=s2.next+1:=by omega
   have e12:¬ p+5=s2.next+1:=by omega
   have e13:¬ p+6=s2.next+1:=by omega
   have e14:¬ s2.next+1=p+1:=by omega
   have e15:¬ s2.next=p:=by omega
   have tkl:∀ w,ρ w≠[]→¬ tk w=s2.next∧¬ tk w=s2.next+1∧¬ tk w=p+1:=fun w hw=>by have:=(hR.own w hw).2;omega
   by_cases hr:ρ xa=[]
   ·rw [if_pos hr] at hget
    (refine w_s [] [X,p+4,p+1] [(0,true),(1,true),(2,true),(3,true),(4,true),(5,true),(6,true),(7,true),(8,true),(9,true),(10,true),(11,true),(12,true),(13,true),(14,true),(15,true),(16,false)] ?_;intro J hJ;simp [f3,f4,f5,hX,hW,hA,hget,k1,k2,k3,e0,e1,e4,e7,e8,e14,e15];(repeat refine ca ?_);(try ((try with_reducible refine ⟨?_,?_⟩)<;>(try with_reducible intro hnil)<;>refine hJ _ _ ?_<;>clear hJ J<;>simp only [ak,reduceIte]<;>try subst hnil)))
    have hput:=hR.put xa j (t:=s2.next+1) (n:=1) (st':=(((s2.new (.own 3 1 1)).new (.own 3 1 1)).set (p+1) (.map false [.u32] (mset ea [xa] (.sl (s2.next+1) 1 [i (j:Int)]))))) (by rw [hr];rfl) ⟨by omega,by simp,by omega,by omega⟩ (by simp [e14,e15]) (fun w hw h0=>by obtain ⟨t1,t2,t3⟩:=tkl w h0;simp [t1,t2,t3]) (by simp;omega)
    rw [hr] at hput
    refine ⟨by trivial,by simp [f1],by simp [f3],by simp [f4],by simp [f5],by simp [f16],by simp [fn],by simp [fi],by simp;omega,by simp [k1,k2,k3,hX],?_⟩
    refine ⟨by simp [e4,e11,hG],by simp [e0,e7,hW],by simp [e2,e9,hN],by simp [e3,e10,hL],by simp [e5,e12,hS],by simp [e6,e13,hB],by simp;omega,?_,_,_,by simp<;>rfl,hput⟩
    (repeat (first | exact hkp | (refine Keeps.trans ?_ (Keeps.new _ _)) | (refine Keeps.set ?_ (by omega) _)))
   ·rw [if_neg hr] at hget
    obtain ⟨hO,t0,tl,tu⟩:=hR.own xa hr
    obtain ⟨t1,t2,t3⟩:=tkl xa hr
    have t4:¬ X=tk xa:=fun e=>by rw [← e,hX] at hO;cases hO
    have hrl:(isN (ρ xa)).length=(ρ xa).length:=isN_length _
    have hrb:(ρ xa).length≤10000:=hρ _
    have p0:¬ p=tk xa:=by omega
    have p1:¬ p+1=tk xa:=by omega
    have p2:¬ p+2=tk xa:=by omega
    have p3:¬ p+3=tk xa:=by omega
    have p4:¬ p+4=tk xa:=by omega
    have p5:¬ p+5=tk xa:=by omega
    have p6:¬ p+6=tk xa:=by omega
    (refine w_s [] [X,p+4,p+1] [(0,true),(1,true),(2,true),(3,true),(4,true),(5,true),(6,true),(7,true),(8,true),(9,true),(10,true),(11,true),(12,true),(13,true),(14,true),(15,true),(16,false)] ?_;intro J hJ;simp [f3,f4,f5,hX,hW,hA,hget,hO,hrl,t0,t1,t4,p1,p4,k1,k2,k3,e0,e1,e4,e7,e8,e14,e15];(repeat refine ca ?_);(try ((try with_reducible refine ⟨?_,?_⟩)<;>(try with_reducible intro hnil)<;>refine hJ _ _ ?_<;>clear hJ J<;>simp only [ak,reduceIte]<;>try subst hnil)))
    have hput:=hR.put xa j (t:=s2.next+1) (n:=(ρ xa).length+1) (st':=((((s2.new (.own 3 1 1)).set (tk xa) .dead).new (.own 3 1 ((ρ xa).length+1))).set (p+1) (.map false [.u32] (mset ea [xa] (.sl (s2.next+1) ((ρ xa).length+1) (isN (ρ xa)++[i (j:Int)]))))) ) rfl ⟨by omega,by simp,by omega,by omega⟩ (by simp [e14,e15]) (fun w hw h0=>by obtain ⟨u1,u2,u3⟩:=tkl w h0;have u4:¬ tk w=tk xa:=fun e=>hw (hR.inj w xa h0 hr e);simp [u1,u2,u3,u4]) (by simp;omega)
    refine ⟨by trivial,by simp [f1],by simp [f3],by simp [f4],by simp [f5],by simp [f16],by simp [fn],by simp [fi],by simp;omega,by simp [k1,k2,k3,t4,hX],?_⟩
    refine ⟨by simp [p0,e4,e11,hG],by simp [p4,e0,e7,hW],by simp [p2,e2,e9,hN],by simp [p3,e3,e10,hL],by simp [p5,e5,e12,hS],by simp [p6,e6,e13,hB],by simp;omega,?_,_,_,by simp<;>rfl,hput⟩
    (repeat (first | exact hkp | (refine Keeps.trans ?_ (Keeps.new _ _)) | (refine Keeps.set ?_ (by omega) _)))
  clear f1 f3 f4 f5 f16 fi fn hXl hX hI fr s2
  rintro fr s2 ⟨f1,f3,f4,f5,f16,fn,fi,hXl,hX,hI⟩
  have hρ':∀ w,((addR ρ xa j) w).length≤10001:=fun w=>by
   have h1:=hρ xa
   have h2:=hρ w
   unfold addR
   split
   ·rw [List.length_append,List.length_singleton];omega
   ·omega
  refine awp_cutZ (fun f T=>f 1=.pt p 0∧f 3=.pt (p+4) 0∧f 4=i j∧f 5=.pt X 0∧f 16=.sl 0 g.es.length (eds g.es)∧f 17=i g.es.length∧f 18=i j∧X < T.next∧T.H X=.box 34 3 [u id,u xa,u xb]∧AtI g p st (addR (addR ρ xa j) xb j) T) ?_ ?_
  ·obtain ⟨hG,hW,hN,hL,hS,hB,hnx,hkp,ea,tk,hA,hR⟩:=hI
   have hget:=hR.get xb
   have k1:¬ X=s2.next:=by omega
   have k2:¬ X=s2.next+1:=by omega
   have k3:¬ X=p+1:=by omega
   have e0:¬ p+4=s2.next:=by omega
   have e1:¬ p+1=s2.next:=by omega
   have e2:¬ p+2=s2.next:=by omega
   have e3:¬ p+3=s2.next:=by omega
   have e4:¬ p=s2.next:=by omega
   have e5:¬ p+5=s2.next:=by omega
   have e6:¬ p+6=s2.next:=by omega
   have e7:¬ p+4=s2.next+1:=by omega
   have e8:¬ p+1=s2.next+1:=by omega
   have e9:¬ p+2=s2.next+1:=by omega
   have e10:¬ p+3=s2.next+1:=by omega
   have e11:¬ p=s2.next+1:=by omega
   have e12:¬ p+5=s2.next+1:=by omega
   have e13:¬ p+6=s2.next+1:=by omega
   have e14:¬ s2.next+1=p+1:=by omega
   have e15:¬ s2.next=p:=by omega
   have tkl:∀ w,(addR ρ xa j) w≠[]→¬ tk w=s2.next∧¬ tk w=s2.next+1∧¬ tk w=p+1:=fun w hw=>by have:=(hR.own w hw).2;omega
   by_cases hr:(addR ρ xa j) xb=[]
   ·rw [if_pos hr] at hget
    (refine w_s [] [X,p+4,p+1] [(0,true),(1,true),(2,true),(3,true),(4,true),(5,true),(6,true),(7,true),(8,true),(9,true),(10,true),(11,true),(12,true),(13,true),(14,true),(15,true),(16,false)] ?_;intro J hJ;simp [f3,f4,f5,hX,hW,hA,hget,k1,k2,k3,e0,e1,e4,e7,e8,e14,e15];(repeat refine ca ?_);(try ((try with_reducible refine ⟨?_,?_⟩)<;>(try with_reducible intro hnil)<;>refine hJ _ _ ?_<;>clear hJ J<;>simp only [ak,reduceIte]<;>try subst hnil)))
    have hput:=hR.put xb j (t:=s2.next+1) (n:=1) (st':=(((s2.new (.own 3 1 1)).new (.own 3 1 1)).set (p+1) (.map false [.u32] (mset ea [xb] (.sl (s2.next+1) 1 [i (j:Int)]))))) (by rw [hr];rfl) ⟨by omega,by simp,by omega,by omega⟩ (by simp [e14,e15]) (fun w hw h0=>by obtain ⟨t1,t2,t3⟩:=tkl w h0;simp [t1,t2,t3]) (by simp;omega)
    rw [hr] at hput
    refine ⟨by trivial,by simp [f1],by simp [f3],by simp [f4],by simp [f5],by simp [f16],by simp [fn],by simp [fi],by simp;omega,by simp [k1,k2,k3,hX],?_⟩
    refine ⟨by simp [e4,e11,hG],by simp [e0,e7,hW],by simp [e2,e9,hN],by simp [e3,e10,hL],by simp [e5,e12,hS],by simp [e6,e13,hB],by simp;omega,?_,_,_,by simp<;>rfl,hput⟩
    (repeat (first | exact hkp | (refine Keeps.trans ?_ (Keeps.new _ _)) | (refine Keeps.set ?_ (by omega) _)))
   ·rw [if_neg hr] at hget
    obtain ⟨hO,t0,tl,tu⟩:=hR.own xb hr
    obtain ⟨t1,t2,t3⟩:=tkl xb hr
    have t4:¬ X=tk xb:=fun e=>by rw [← e,hX] at hO;cases hO
    have hrl:(isN ((addR ρ xa j) xb)).length=((addR ρ xa j) xb).length:=isN_length _
    have hrb:((addR ρ xa j) xb).length≤10001:=hρ' _
    have p0:¬ p=tk xb:=by omega
    have p1:¬ p+1=tk xb:=by omega
    have p2:¬ p+2=tk xb:=by omega
    have p3:¬ p+3=tk xb:=by omega
    have p4:¬ p+4=tk xb:=by omega
    have p5:¬ p+5=tk xb:=by omega
    have p6:¬ p+6=tk xb:=by omega
    (refine w_s [] [X,p+4,p+1] [(0,true),(1,true),(2,true),(3,true),(4,true),(5,true),(6,true),(7,true),(8,true),(9,true),(10,true),(11,true),(12,true),(13,true),(14,true),(15,true),(16,false)] ?_;intro J hJ;simp [f3,f4,f5,hX,hW,hA,hget,hO,hrl,t0,t1,t4,p1,p4,k1,k2,k3,e0,e1,e4,e7,e8,e14,e15];(repeat refine ca ?_);(try ((try with_reducible refine ⟨?_,?_⟩)<;>(try with_reducible intro hnil)<;>refine hJ _ _ ?_<;>clear hJ J<;>simp only [ak,reduceIte]<;>try subst hnil)))
    have hput:=hR.put xb j (t:=s2.next+1) (n:=((addR ρ xa j) xb).length+1) (st':=((((s2.new (.own 3 1 1)).set (tk xb) .dead).new (.own 3 1 (((addR ρ xa j) xb).length+1))).set (p+1) (.map false [.u32] (mset ea [xb] (.sl (s2.next+1) (((addR ρ xa j) xb).length+1) (isN ((addR ρ xa j) xb)++[i (j:Int)]))))) ) rfl ⟨by omega,by simp,by omega,by omega⟩ (by simp [e14,e15]) (fun w hw h0=>by obtain ⟨u1,u2,u3⟩:=tkl w h0;have u4:¬ tk w=tk xb:=fun e=>hw (hR.inj w xb h0 hr e);simp [u1,u2,u3,u4]) (by simp;omega)
    refine ⟨by trivial,by simp [f1],by simp [f3],by simp [f4],by simp [f5],by simp [f16],by simp [fn],by simp [fi],by simp;omega,by simp [k1,k2,k3,t4,hX],?_⟩
    refine ⟨by simp [p0,e4,e11,hG],by simp [p4,e0,e7,hW],by simp [p2,e2,e9,hN],by simp [p3,e3,e10,hL],by simp [p5,e5,e12,hS],by simp [p6,e6,e13,hB],by simp;omega,?_,_,_,by simp<;>rfl,hput⟩
    (repeat (first | exact hkp | (refine Keeps.trans ?_ (Keeps.new _ _)) | (refine Keeps.set ?_ (by omega) _)))
  rintro fr s3 ⟨f1,f3,f4,f5,f16,fn,fi,hXl,hX,hI⟩
  simp only [ak]
  exact hJO _ _ (by simp [fi]) (by simp [fn]) ⟨f1,f3,f16,hI⟩
 ·clear x1 x2 x3 x4 x5 x6
  rintro fr s1 ⟨f1,f3,f16,hI⟩
  have hI':=hI
  obtain ⟨hG,hW,hN,hL,hSt,hB,hnx,hkp,ea,tk,hA,hR⟩:=hI'
  have hget:∀ v,mget ea [v]=if atP g.es v=[] then none else some (.sl (tk v) (atP g.es v).length (isN (atP g.es v))):=hR.get
  have hb0:BwAt g (p+1) (p+4) (p+1) (p+2) (p+3) tk ⟨[],[],[],[]⟩ s1:=by
   refine ⟨⟨p+5,p+6,[],ea,hW,⟨hA,hget⟩,hN,hL,⟨hSt,rfl⟩,hB,⟨by omega,by omega,by omega⟩,by omega,by omega,by omega,by omega⟩,⟨by omega,by omega,by omega,by omega⟩,by omega,by omega,by omega,by omega⟩
  have hall0:BAll g ⟨[],[],[],[]⟩:=⟨rfl,.nil,fun w hw=>(by cases hw),fun w hw=>(by cases hw),rfl,fun i=>by simp,by simp,fun B hB=>(by cases hB)⟩
  clear hW hN hL hSt hB hA hR hI
  (repeat' (first | refine qS ?_ | refine qB ?_ | ((first | refine qK ?_ | refine qX ?_);simp only [ak,reduceIte]) | (refine qR ?_;simp only [ak,reduceIte];simp [f1,hG]) | (refine qC ?_;simp [f1,hG];(try with_reducible refine ⟨?_,?_⟩)<;>(try with_reducible intro hc)<;>try (exfalso;omega)) | ((first | (refine w_e [] ?_;intro J hJ;simp only []) | (refine w_q ?_;intro J hJ) | refine e_go ?_);simp [f1,hG];(repeat refine ca ?_);(try ((try with_reducible refine ⟨?_,?_⟩)<;>(try with_reducible intro hnil)<;>refine hJ _ _ ?_<;>clear hJ J<;>simp only [ak,reduceIte]<;>try subst hnil)))))
  refine awp_range 59 58 60 73 (g.vs.length) (fun j fr st2=>fr 1=.pt p 0∧fr 3=.pt (p+4) 0∧fr 57=.sl 0 g.vs.length (us g.vs)∧KbB (p+1) s1 st2∧∃ sB,allB g.es g.vs.length (g.vs.take j) ⟨[],[],[],[]⟩=some sB∧BAll g sB∧BwAt g (p+1) (p+4) (p+1) (p+2) (p+3) tk sB st2) ?_ ?_ ?_
  ·exact ⟨by simp [f1],by simp [f3],by simp,KbB.refl _ _,_,rfl,hall0,hb0⟩
  ·clear f1 f3 f16 hb0 hall0 fr
   rintro j fr s2 hlt ⟨f1,f3,f57,hkb,sB,hsB,hall,hbw⟩ fi fn JO hJO
   have hd:=qG g.vs j hlt
   have hvm:g.vs.getD j 0∈g.vs:=by rw [getD_lt _ _ hlt];exact List.getElem_mem _
   have htk:g.vs.take (j+1)=g.vs.take j++[g.vs.getD j 0]:=by rw [List.take_succ_eq_append_getElem hlt,getD_lt _ _ hlt]
   rw [htk,allB_app,hsB] at hJO
   simp only [Option.bind_some] at hJO
   generalize g.vs.getD j 0=v at *
   have hm:=mget_nb sB.vis v
   have hsz:=hall.sz
   obtain ⟨s3,e3,hall3,_,_⟩:=all_ok hg g.vs.length (Nat.le_refl _) [v] sB (fun w hw=>by rw [List.mem_singleton] at hw;rw [hw];exact hvm) hall
   rw [e3] at hJO
   have hbw':=hbw
   obtain ⟨⟨tS,tB,CS,ea2,jW,-,jN,-,-,-,-,-⟩,-,-⟩:=hbw'
   by_cases hin:v∈sB.vis
   ·rw [if_pos hin] at hm
    have e4:s3=sB:=by
     unfold allB at e3
     rw [if_pos hin] at e3
     exact (Option.some.inj e3).symm
    have hz1:1≤nmW sB.vis v:=by unfold nmW;rw [if_pos hin];omega
    generalize nmW sB.vis v=z at *
    have hzb:(z==0)=false:=by rw [beq_eq_false_iff_ne];omega
    have hz0:¬ z=0:=by omega
    (repeat' (first | refine qS ?_ | refine qB ?_ | ((first | refine qK ?_ | refine qX ?_);simp only [ak,reduceIte]) | (refine qR ?_;simp only [ak,reduceIte];simp [f3,f57,fi,fn,hd,hlt,jW,jN,hm,hzb,hz0]) | (refine qC ?_;simp [f3,f57,fi,fn,hd,hlt,jW,jN,hm,hzb,hz0];(try with_reducible refine ⟨?_,?_⟩)<;>(try with_reducible intro hc)<;>try (exfalso;omega)) | ((first | (refine w_e [] ?_;intro J hJ;simp only []) | (refine w_q ?_;intro J hJ) | refine e_go ?_);simp [f3,f57,fi,fn,hd,hlt,jW,jN,hm,hzb,hz0];(repeat refine ca ?_);(try ((try with_reducible refine ⟨?_,?_⟩)<;>(try with_reducible intro hnil)<;>refine hJ _ _ ?_<;>clear hJ J<;>simp only [ak,reduceIte]<;>try subst hnil)))))
    exact hJO _ _ (by simp [fi]) (by simp [fn]) ⟨by simp [f1],by simp [f3],by simp [f57],hkb,s3,rfl,hall3,by rw [e4];exact hbw⟩
   ·rw [if_neg hin] at hm
    have hpre:BPre g (fun _=>False) sB v (-1):=⟨hall.ln,hall.nd,fun a ha=>ha.elim,fun w hw _=>hall.fin w hw,hin,fun a b ha=>ha.elim,.inl ⟨rfl,fun a ha=>ha⟩⟩
    (repeat' (first | refine qS ?_ | refine qB ?_ | ((first | refine qK ?_ | refine qX ?_);simp only [ak,reduceIte]) | (refine qR ?_;simp only [ak,reduceIte];simp [f3,f57,fi,fn,hd,hlt,jW,jN,hm]) | (refine qC ?_;simp [f3,f57,fi,fn,hd,hlt,jW,jN,hm];(try with_reducible refine ⟨?_,?_⟩)<;>(try with_reducible intro hc)<;>try (exfalso;omega)) | ((first | (refine w_e [] ?_;intro J hJ;simp only []) | (refine w_q ?_;intro J hJ) | refine e_go ?_);simp [f3,f57,fi,fn,hd,hlt,jW,jN,hm];(repeat refine ca ?_);(try ((try with_reducible refine ⟨?_,?_⟩)<;>(try with_reducible intro hnil)<;>refine hJ _ _ ?_<;>clear hJ J<;>simp only [ak,reduceIte]<;>try subst hnil)))))
    refine qE (visitS g hg (p+1) (p+4) (p+1) (p+2) (p+3) tk hv he g.vs.length _ sB v (-1) _ hpre hvm hall.sub (by omega) hsz hbw) (by simp) ?_;rintro r s4 ⟨s5,h5,hb5,hk5⟩
    have e5:s3=s5:=by
     unfold allB at e3
     rw [if_neg hin,h5] at e3
     exact (Option.some.inj e3).symm
    (repeat' (first | refine qS ?_ | refine qB ?_ | ((first | refine qK ?_ | refine qX ?_);simp only [ak,reduceIte]) | (refine qR ?_;simp only [ak,reduceIte];simp []) | (refine qC ?_;simp [];(try with_reducible refine ⟨?_,?_⟩)<;>(try with_reducible intro hc)<;>try (exfalso;omega)) | ((first | (refine w_e [] ?_;intro J hJ;simp only []) | (refine w_q ?_;intro J hJ) | refine e_go ?_);simp [];(repeat refine ca ?_);(try ((try with_reducible refine ⟨?_,?_⟩)<;>(try with_reducible intro hnil)<;>refine hJ _ _ ?_<;>clear hJ J<;>simp only [ak,reduceIte]<;>try subst hnil)))))
    exact hJO _ _ (by simp [fi]) (by simp [fn]) ⟨by simp [f1],by simp [f3],by simp [f57],hkb.trans hk5,s3,rfl,hall3,by rw [e5];exact hb5⟩
  ·clear f1 f3 f16 hb0 hall0 fr
   rintro fr s2 ⟨f1,f3,f57,hkb,sB,hsB,hall,hbw⟩
   rw [List.take_length,hS] at hsB
   obtain rfl:=Option.some.inj hsB
   have hsz:=hall.sz
   obtain ⟨_,sb⟩:=sz_bound hv he hall.nd hall.sub
   obtain ⟨⟨tS,tB,CS,ea2,jW,-,jN,-,-,jB,-,b1,b2,b3,b4⟩,-,d1,-⟩:=hbw
   (repeat' (first | refine qS ?_ | refine qB ?_ | ((first | refine qK ?_ | refine qX ?_);simp only [ak,reduceIte]) | (refine qR ?_;simp only [ak,reduceIte];simp [f3,jW]) | (refine qC ?_;simp [f3,jW];(try with_reducible refine ⟨?_,?_⟩)<;>(try with_reducible intro hc)<;>try (exfalso;omega)) | ((first | (refine w_e [] ?_;intro J hJ;simp only []) | (refine w_q ?_;intro J hJ) | refine e_go ?_);simp [f3,jW];(repeat refine ca ?_);(try ((try with_reducible refine ⟨?_,?_⟩)<;>(try with_reducible intro hnil)<;>refine hJ _ _ ?_<;>clear hJ J<;>simp only [ak,reduceIte]<;>try subst hnil)))))
   refine qE (SortB hids S.out hSa hSb hSn tB _ (by have:=hsz.2;omega) b4 jB) (by simp) ?_;rintro r s4 ⟨h1,h2,h3⟩
   have hW4:=(h3.2 (p+4) (box_neB jW jB (by simp)) d1).trans jW
   have hle:=h2.length_eq
   (repeat' (first | refine qS ?_ | refine qB ?_ | ((first | refine qK ?_ | refine qX ?_);simp only [ak,reduceIte]) | (refine qR ?_;simp only [ak,reduceIte];simp [f3,hW4]) | (refine qC ?_;simp [f3,hW4];(try with_reducible refine ⟨?_,?_⟩)<;>(try with_reducible intro hc)<;>try (exfalso;omega)) | ((first | (refine w_e [] ?_;intro J hJ;simp only []) | (refine w_q ?_;intro J hJ) | refine e_go ?_);simp [f3,hW4];(repeat refine ca ?_);(try ((try with_reducible refine ⟨?_,?_⟩)<;>(try with_reducible intro hnil)<;>refine hJ _ _ ?_<;>clear hJ J<;>simp only [ak,reduceIte]<;>try subst hnil)))))
   refine ⟨tB,by simp [hle],h1,by omega,Nat.lt_of_lt_of_le b4 h3.1,?_⟩
   refine ⟨Nat.le_trans hkp.next (Nat.le_trans hkb.next h3.1),fun x hx=>?_⟩
   rw [h3.2 x (by omega) (by have:=hkb.next;omega),hkb.H x (by omega),hkp.H x hx]
noncomputable def cdecB (p:Prop):Bool:=@decide p (Classical.propDecidable p)
theorem cdecB_t {p:Prop} (h:p):cdecB p=true:=by unfold cdecB;exact @decide_eq_true p (Classical.propDecidable p) h
theorem cdecB_f {p:Prop} (h:¬ p):cdecB p=false:=by unfold cdecB;exact @decide_eq_false p (Classical.propDecidable p) h
theorem belL_usB (n:Nat):∀ l:List Int,belL n (us l):=fun l=>by
 induction l with
 | nil=>simp only [us,List.map_nil,belL]
 | cons x l ih=>simp only [us,List.map_cons,belL];exact ⟨trivial,ih⟩
theorem belL_edsB (n:Nat):∀ l:List Ed,belL n (eds l):=fun l=>by
 induction l with
 | nil=>simp only [eds,List.flatMap_nil,belL]
 | cons x l ih=>simp only [eds,List.flatMap_cons,edL,List.cons_append,List.nil_append,belL];exact ⟨trivial,trivial,trivial,ih⟩
theorem belL_bk (n:Nat) (es:List Ed):∀ out:List (List Nat),belL n (bkL es out):=fun out=>by
 induction out with
 | nil=>simp only [bkL,List.map_nil,belL]
 | cons B out ih=>simp only [bkL,List.map_cons,belL];exact ⟨⟨.inl rfl,belL_edsB _ _⟩,ih⟩
theorem Blocks (g:Gr) (hg:GoodE g) (st:St) (hv:g.vs.length≤100) (he:g.es.length≤200):
 ACalls Tryz.prog 7 [.ag (grL g)] st fun r st'=>r=.sl 0 (ledB g.es).length (bkL g.es (ledB g.es))∧st'=st:=by
 refine qT (Q:=fun r=>r=.sl 0 (ledB g.es).length (bkL g.es (ledB g.es))) (acalls_freeze ((BlocksK g hg st hv he).mono ?_)) fun r h=>by subst h;exact ⟨.inl rfl,belL_bk _ _ _⟩
 rintro r s ⟨q,rfl,hH,hq,hq2,hk⟩
 have hl:=bkL_length g.es (ledB g.es)
 exact ⟨q,_,_,_,_,rfl,hH,by rw [hl,Nat.mul_one];exact Nat.le_refl _,by rw [List.take_of_length_le (by rw [hl,Nat.mul_one];exact Nat.le_refl _)],hk.set hq _⟩
theorem refLessK (g:Gr) (v:Int) (st:St) (hv:g.vs.length≤1000) (he:g.es.length≤1000):
 ACalls Tryz.prog 70 [.ag (grL g),u v] st fun r st'=>∃ y s',Frz st' s' r y∧y=.ag (grL ⟨g.vs.filter fun w=>decide (w≠v),lessE g.es v⟩)∧Keeps st s':=by
 have hel:=eds_length g.es
 refine qO tabOk Tryz.func70 rfl rfl Tryz.ntmps70 (rs:=[.cell 4 25]) rfl (by simp) ?_
 refine awp_posG fun hpos=>?_
 have x1:¬ st.next=st.next+1:=by omega
 have x2:¬ st.next=st.next+1+1:=by omega
 have x3:¬ st.next+1=st.next+1+1:=by omega
 (repeat' (first | refine qS ?_ | refine qB ?_ | ((first | refine qK ?_ | refine qX ?_);simp only [ak,reduceIte]) | (refine qR ?_;simp only [ak,reduceIte];simp [x1,x2,x3]) | (refine qC ?_;simp [x1,x2,x3];(try with_reducible refine ⟨?_,?_⟩)<;>(try with_reducible intro hc)<;>try (exfalso;omega)) | ((first | (refine w_e [] ?_;intro J hJ;simp only []) | (refine w_q ?_;intro J hJ) | refine e_go ?_);simp [x1,x2,x3];(repeat refine ca ?_);(try ((try with_reducible refine ⟨?_,?_⟩)<;>(try with_reducible intro hnil)<;>refine hJ _ _ ?_<;>clear hJ J<;>simp only [ak,reduceIte]<;>try subst hnil)))))
 refine awp_cell (st.next+1+1) 32 1 (e:=25) (s:=2) [] [.nil] (by simp) ?_
 refine awp_cell (st.next+1+1) 34 3 (e:=25) (s:=2) [.sl (st.next+3) 0 []] [] (by simp) ?_
 obtain ⟨p,hp⟩:∃ p,p=st.next:=⟨_,rfl⟩
 refine awp_range 13 12 14 26 (g.vs.length) (fun j fr st2=>fr 1=u v∧fr 2=.pt p 0∧fr 4=.pt (p+1) 0∧fr 5=.pt (p+2) 0∧fr 11=.sl 0 g.vs.length (us g.vs)∧st2.H p=.box 25 2 (grL g)∧st2.H (p+1)=.box 25 2 [.nil,.nil]∧Keeps st st2∧∃ tv te,st2.H (p+2)=.box 25 2 [.sl tv ((g.vs.take j).filter fun w=>decide (w≠v)).length (us ((g.vs.take j).filter fun w=>decide (w≠v))),.sl te 0 []]∧st2.H tv=.own 32 1 ((g.vs.take j).filter fun w=>decide (w≠v)).length∧st2.H te=.own 34 3 0∧p+2 < tv∧p+2 < te∧tv≠te∧tv < st2.next∧te < st2.next) ?_ ?_ ?_
 ·subst hp
  refine ⟨by simp,by simp,by simp,by simp,by simp,by simp [x1,x2,x3],by simp [x3],?_,st.next+3,st.next+4,by simp [us],by simp,by simp,by omega,by omega,by omega,by simp,by simp⟩
  (repeat (first | exact Keeps.refl _ | (refine Keeps.trans ?_ (Keeps.new _ _)) | (refine Keeps.set ?_ (by omega) _)))
 ·clear x1 x2 x3
  rintro j fr s hlt ⟨f1,f2,f4,f5,f11,hG,hO,hkp,tv,te,hC,hV,hE,l1,l2,l3,l4,l5⟩ fi fn JO hJO
  have hd:=qG g.vs j hlt
  have hst:(g.vs.take (j+1)).filter (fun w=>decide (w≠v))=if g.vs.getD j 0=v then (g.vs.take j).filter (fun w=>decide (w≠v)) else (g.vs.take j).filter (fun w=>decide (w≠v))++[g.vs.getD j 0]:=by
   rw [List.take_succ_eq_append_getElem hlt,List.filter_append,getD_lt _ _ hlt]
   by_cases e:g.vs[j]=v
   ·rw [if_pos e,List.filter_cons,if_neg (by simpa using e),List.filter_nil,List.append_nil]
   ·rw [if_neg e,List.filter_cons,if_pos (by simpa using e),List.filter_nil]
  have hfl:=List.length_filter_le (fun w=>decide (w≠v)) (g.vs.take j)
  rw [List.length_take] at hfl
  rw [hst] at hJO
  clear hst
  generalize (g.vs.take j).filter (fun w=>decide (w≠v))=F at *
  generalize g.vs.getD j 0=w at *
  by_cases e:w=v
  ·have hb:(w != v)=false:=by simpa using e
   rw [if_pos e] at hJO
   (repeat' (first | refine qS ?_ | refine qB ?_ | ((first | refine qK ?_ | refine qX ?_);simp only [ak,reduceIte]) | (refine qR ?_;simp only [ak,reduceIte];simp [f1,f11,fi,fn,hd,hlt,hb]) | (refine qC ?_;simp [f1,f11,fi,fn,hd,hlt,hb];(try with_reducible refine ⟨?_,?_⟩)<;>(try with_reducible intro hc)<;>try (exfalso;omega)) | ((first | (refine w_e [] ?_;intro J hJ;simp only []) | (refine w_q ?_;intro J hJ) | refine e_go ?_);simp [f1,f11,fi,fn,hd,hlt,hb];(repeat refine ca ?_);(try ((try with_reducible refine ⟨?_,?_⟩)<;>(try with_reducible intro hnil)<;>refine hJ _ _ ?_<;>clear hJ J<;>simp only [ak,reduceIte]<;>try subst hnil)))))
   exact hJO _ _ (by simp [fi]) (by simp [fn]) ⟨by simp [f1],by simp [f2],by simp [f4],by simp [f5],by simp [f11],hG,hO,hkp,tv,te,hC,hV,hE,l1,l2,l3,l4,l5⟩
  ·have hb:(w != v)=true:=by simpa using e
   rw [if_neg e] at hJO
   have e1:¬ p+2=s.next:=by omega
   have e2:¬ p+2=s.next+1:=by omega
   have e3:¬ p+2=tv:=by omega
   have e4:¬ tv=s.next:=by omega
   have e5:¬ tv=0:=by omega
   have e6:¬ te=s.next:=by omega
   have e7:¬ te=s.next+1:=by omega
   have e8:¬ te=tv:=fun h=>l3 h.symm
   have e9:¬ te=p+2:=by omega
   have e10:¬ p=s.next:=by omega
   have e11:¬ p=s.next+1:=by omega
   have e12:¬ p=tv:=by omega
   have e13:¬ p+1=s.next:=by omega
   have e14:¬ p+1=tv:=by omega
   have e15:¬ s.next+1=p+2:=by omega
   have e16:¬ s.next=p+1:=by omega
   (repeat' (first | refine qS ?_ | refine qB ?_ | ((first | refine qK ?_ | refine qX ?_);simp only [ak,reduceIte]) | (refine qR ?_;simp only [ak,reduceIte];simp [f1,f5,f11,fi,fn,hd,hlt,hb,hC,hV,e1,e2,e3,e4,e5]) | (refine qC ?_;simp [f1,f5,f11,fi,fn,hd,hlt,hb,hC,hV,e1,e2,e3,e4,e5];(try with_reducible refine ⟨?_,?_⟩)<;>(try with_reducible intro hc)<;>try (exfalso;omega)) | ((first | (refine w_e [] ?_;intro J hJ;simp only []) | (refine w_q ?_;intro J hJ) | refine e_go ?_);simp [f1,f5,f11,fi,fn,hd,hlt,hb,hC,hV,e1,e2,e3,e4,e5];(repeat refine ca ?_);(try ((try with_reducible refine ⟨?_,?_⟩)<;>(try with_reducible intro hnil)<;>refine hJ _ _ ?_<;>clear hJ J<;>simp only [ak,reduceIte]<;>try subst hnil)))))
   refine hJO _ _ (by simp [fi]) (by simp [fn]) ⟨by simp [f1],by simp [f2],by simp [f4],by simp [f5],by simp [f11],by simp [e10,e11,e12,hG],by simp [e10,e11,e13,e14,hO],?_,s.next+1,te,by simp [us],by simp [e15,e16],by simp [e6,e7,e8,e9,hE],by omega,l2,by omega,by simp,by simp;omega⟩
   (repeat (first | exact hkp | (refine Keeps.trans ?_ (Keeps.new _ _)) | (refine Keeps.set ?_ (by omega) _)))
 ·clear x1 x2 x3
  rintro fr s ⟨f1,f2,f4,f5,f11,hG,hO,hkp,tv,te,hC,hV,hE,l1,l2,l3,l4,l5⟩
  rw [List.take_length] at hC hV
  generalize g.vs.filter (fun w=>decide (w≠v))=V at *
  clear hV
  (repeat' (first | refine qS ?_ | refine qB ?_ | ((first | refine qK ?_ | refine qX ?_);simp only [ak,reduceIte]) | (refine qR ?_;simp only [ak,reduceIte];simp [f2,hG]) | (refine qC ?_;simp [f2,hG];(try with_reducible refine ⟨?_,?_⟩)<;>(try with_reducible intro hc)<;>try (exfalso;omega)) | ((first | (refine w_e [] ?_;intro J hJ;simp only []) | (refine w_q ?_;intro J hJ) | refine e_go ?_);simp [f2,hG];(repeat refine ca ?_);(try ((try with_reducible refine ⟨?_,?_⟩)<;>(try with_reducible intro hnil)<;>refine hJ _ _ ?_<;>clear hJ J<;>simp only [ak,reduceIte]<;>try subst hnil)))))
  refine awp_range 30 29 31 50 (g.es.length) (fun j fr st2=>fr 1=u v∧fr 4=.pt (p+1) 0∧fr 5=.pt (p+2) 0∧fr 28=.sl 0 g.es.length (eds g.es)∧st2.H (p+1)=.box 25 2 [.nil,.nil]∧Keeps st st2∧∃ te,st2.H (p+2)=.box 25 2 [.sl tv V.length (us V),.sl te (lessE (g.es.take j) v).length (eds (lessE (g.es.take j) v))]∧st2.H te=.own 34 3 (lessE (g.es.take j) v).length∧p+2 < te∧te < st2.next) ?_ ?_ ?_
  ·exact ⟨by simp [f1],by simp [f4],by simp [f5],by simp,hO,hkp,te,by simpa [lessE,eds] using hC,by simpa [lessE] using hE,l2,l5⟩
  ·clear f1 f2 f4 f5 f11 hG hO hkp hC hE l1 l2 l3 l4 l5 s fr te
   rintro j fr s hlt ⟨f1,f4,f5,f28,hO,hkp,te,hC,hE,l2,l5⟩ fi fn JO hJO
   have hd:=eds_drop g.es j hlt
   have hj3:j * 3 < g.es.length * 3:=by omega
   have hst:lessE (g.es.take (j+1)) v=if (g.es.getD j ed0).a≠v∧(g.es.getD j ed0).b≠v then lessE (g.es.take j) v++[g.es.getD j ed0] else lessE (g.es.take j) v:=by
    unfold lessE
    rw [List.take_succ_eq_append_getElem hlt,List.filter_append,getE_lt _ _ hlt]
    by_cases e:g.es[j].a≠v∧g.es[j].b≠v
    ·rw [if_pos e,List.filter_cons,if_pos (by simpa using e),List.filter_nil]
    ·rw [if_neg e,List.filter_cons,if_neg (by simpa using e),List.filter_nil,List.append_nil]
   have hfl:(lessE (g.es.take j) v).length≤j:=by
    have:=List.length_filter_le (fun x:Ed=>decide (x.a≠v∧x.b≠v)) (g.es.take j)
    rw [List.length_take] at this
    unfold lessE;omega
   have hFo:=eds_length (lessE (g.es.take j) v)
   rw [hst] at hJO
   clear hst
   generalize lessE (g.es.take j) v=F at *
   generalize g.es.getD j ed0=x at *
   obtain ⟨xi,xa,xb⟩:=x
   simp only at hd hJO
   have e1:¬ p+2=s.next:=by omega
   have e2:¬ p+2=s.next+1:=by omega
   have e3:¬ p+2=te:=by omega
   have e4:¬ te=s.next:=by omega
   have e5:¬ te=0:=by omega
   have e6:¬ te=s.next+1:=by omega
   have e7:¬ p+2=s.next+1+1:=by omega
   have e13:¬ p+1=s.next:=by omega
   have e14:¬ p+1=te:=by omega
   have e15:¬ p=s.next:=by omega
   have e16:¬ p=s.next+1:=by omega
   have e17:¬ s.next+1+1=p+2:=by omega
   have e18:¬ s.next=s.next+1:=by omega
   have e19:¬ s.next=p:=by omega
   by_cases ea:xa=v
   ·have hba:(xa != v)=false:=by simpa using ea
    rw [if_neg (fun h=>h.1 ea)] at hJO
    (repeat' (first | refine qS ?_ | refine qB ?_ | ((first | refine qK ?_ | refine qX ?_);simp only [ak,reduceIte]) | (refine qR ?_;simp only [ak,reduceIte];simp [f1,f28,fi,fn,hd,hlt,hj3,hel,hba]) | (refine qC ?_;simp [f1,f28,fi,fn,hd,hlt,hj3,hel,hba];(try with_reducible refine ⟨?_,?_⟩)<;>(try with_reducible intro hc)<;>try (exfalso;omega)) | ((first | (refine w_e [] ?_;intro J hJ;simp only []) | (refine w_q ?_;intro J hJ) | refine e_go ?_);simp [f1,f28,fi,fn,hd,hlt,hj3,hel,hba];(repeat refine ca ?_);(try ((try with_reducible refine ⟨?_,?_⟩)<;>(try with_reducible intro hnil)<;>refine hJ _ _ ?_<;>clear hJ J<;>simp only [ak,reduceIte]<;>try subst hnil)))))
    exact hJO _ _ (by simp [fi]) (by simp [fn]) ⟨by simp [f1],by simp [f4],by simp [f5],by simp [f28],by simp [e13,hO],hkp.trans (Keeps.new _ _),te,by simp [e1,hC],by simp [e4,hE],l2,by simp;omega⟩
   have hba:(xa != v)=true:=by simpa using ea
   by_cases eb:xb=v
   ·have hbb:(xb != v)=false:=by simpa using eb
    rw [if_neg (fun h=>h.2 eb)] at hJO
    (repeat' (first | refine qS ?_ | refine qB ?_ | ((first | refine qK ?_ | refine qX ?_);simp only [ak,reduceIte]) | (refine qR ?_;simp only [ak,reduceIte];simp [f1,f28,fi,fn,hd,hlt,hj3,hel,hba,hbb]) | (refine qC ?_;simp [f1,f28,fi,fn,hd,hlt,hj3,hel,hba,hbb];(try with_reducible refine ⟨?_,?_⟩)<;>(try with_reducible intro hc)<;>try (exfalso;omega)) | ((first | (refine w_e [] ?_;intro J hJ;simp only []) | (refine w_q ?_;intro J hJ) | refine e_go ?_);simp [f1,f28,fi,fn,hd,hlt,hj3,hel,hba,hbb];(repeat refine ca ?_);(try ((try with_reducible refine ⟨?_,?_⟩)<;>(try with_reducible intro hnil)<;>refine hJ _ _ ?_<;>clear hJ J<;>simp only [ak,reduceIte]<;>try subst hnil)))))
    exact hJO _ _ (by simp [fi]) (by simp [fn]) ⟨by simp [f1],by simp [f4],by simp [f5],by simp [f28],by simp [e13,hO],hkp.trans (Keeps.new _ _),te,by simp [e1,hC],by simp [e4,hE],l2,by simp;omega⟩
   ·have hbb:(xb != v)=true:=by simpa using eb
    rw [if_pos ⟨ea,eb⟩] at hJO
    have hap:eds (F++[⟨xi,xa,xb⟩])=eds F++[u xi,u xa,u xb]:=by simp [eds]
    (repeat' (first | refine qS ?_ | refine qB ?_ | ((first | refine qK ?_ | refine qX ?_);simp only [ak,reduceIte]) | (refine qR ?_;simp only [ak,reduceIte];simp [f1,f5,f28,fi,fn,hd,hlt,hj3,hel,hba,hbb,hC,hE,hFo,e1,e2,e3,e4,e5,e6,e7,e15,e16,e18]) | (refine qC ?_;simp [f1,f5,f28,fi,fn,hd,hlt,hj3,hel,hba,hbb,hC,hE,hFo,e1,e2,e3,e4,e5,e6,e7,e15,e16,e18];(try with_reducible refine ⟨?_,?_⟩)<;>(try with_reducible intro hc)<;>try (exfalso;omega)) | ((first | (refine w_e [] ?_;intro J hJ;simp only []) | (refine w_q ?_;intro J hJ) | refine e_go ?_);simp [f1,f5,f28,fi,fn,hd,hlt,hj3,hel,hba,hbb,hC,hE,hFo,e1,e2,e3,e4,e5,e6,e7,e15,e16,e18];(repeat refine ca ?_);(try ((try with_reducible refine ⟨?_,?_⟩)<;>(try with_reducible intro hnil)<;>refine hJ _ _ ?_<;>clear hJ J<;>simp only [ak,reduceIte]<;>try subst hnil)))))
    refine hJO _ _ (by simp [fi]) (by simp [fn]) ⟨by simp [f1],by simp [f4],by simp [f5],by simp [f28],by simp [e13,e14,e15,e16,hO],?_,s.next+1+1,by simp [hap],by simp [e17,e19],by omega,by simp⟩
    (repeat (first | exact hkp | (refine Keeps.trans ?_ (Keeps.new _ _)) | (refine Keeps.set ?_ (by omega) _)))
  ·clear f1 f2 f4 f5 f11 hG hO hkp hC hE l1 l2 l3 l4 l5 s fr te
   rintro fr s ⟨f1,f4,f5,f28,hO,hkp,te,hC,hE,l2,l5⟩
   rw [List.take_length] at hC
   (repeat' (first | refine qS ?_ | refine qB ?_ | ((first | refine qK ?_ | refine qX ?_);simp only [ak,reduceIte]) | (refine qR ?_;simp only [ak,reduceIte];simp [f4,f5,hO,hC]) | (refine qC ?_;simp [f4,f5,hO,hC];(try with_reducible refine ⟨?_,?_⟩)<;>(try with_reducible intro hc)<;>try (exfalso;omega)) | ((first | (refine w_e [] ?_;intro J hJ;simp only []) | (refine w_q ?_;intro J hJ) | refine e_go ?_);simp [f4,f5,hO,hC];(repeat refine ca ?_);(try ((try with_reducible refine ⟨?_,?_⟩)<;>(try with_reducible intro hnil)<;>refine hJ _ _ ?_<;>clear hJ J<;>simp only [ak,reduceIte]<;>try subst hnil)))))
   exact ⟨_,_,frz_ag (frzL_cons (frz_tok _ _ _ _) (frzL_cons (frz_tok _ _ _ _) (frzL_same _ []))),rfl,hkp.set (by omega) _⟩
theorem refLess (g:Gr) (v:Int) (st:St) (hv:g.vs.length≤1000) (he:g.es.length≤1000):
 ACalls Tryz.prog 70 [.ag (grL g),u v] st fun r st'=>r=.ag (grL ⟨g.vs.filter fun w=>decide (w≠v),lessE g.es v⟩)∧st'=st:=
 qT (Q:=fun r=>r=.ag (grL ⟨g.vs.filter fun w=>decide (w≠v),lessE g.es v⟩)) (acalls_frzR (refLessK g v st hv he)) fun r h=>by subst h;exact ⟨⟨.inl rfl,belL_usB _ _⟩,⟨.inl rfl,belL_edsB _ _⟩,trivial⟩
theorem refPartB (g:Gr) (v:Int) (st:St) (hg:Good g) (hv:g.vs.length≤1000) (he:g.es.length≤1000) (hvin:v∈g.vs):
 ACalls Tryz.prog 69 [.ag (grL g),u v] st fun r st'=>(∃ c,r=.sl 0 c.length (us c)∧IsPart g v c)∧st'=st:=
 qT (Q:=fun r=>∃ c,r=.sl 0 c.length (us c)∧IsPart g v c) ((ref_Part g v st hg hv he hvin).mono fun r s h=>h) fun r h=>by obtain ⟨c,rfl,_⟩:=h;exact ⟨.inl rfl,belL_usB _ _⟩
set_option maxHeartbeats 8000000 in
theorem refRingK (g:Gr) (hg:GoodE g) (x y:Ed) (st:St) (hv:g.vs.length≤100) (he:g.es.length≤200) (hvp:∀ v∈g.vs,1≤v∧v≤1048576) (hx:x∈g.es) (hy:y∈g.es):
 ACalls Tryz.prog 42 [.ag (grL g),.ag (edL x),.ag (edL y)] st fun r st'=>r=bb (cdecB (RingE g.es x y))∧Keeps st st':=by
 obtain ⟨xav,xbv⟩:=hg.ends x hx
 obtain ⟨yav,ybv⟩:=hg.ends y hy
 have b1:=hvp _ xav
 have b2:=hvp _ xbv
 have b3:=hvp _ yav
 have b4:=hvp _ ybv
 have hxn:=hg.ne x hx
 have hri:=ring_iff (es:=g.es) (x:=x) (y:=y)
 have hVa:∀ w:Int,(x.a=w∨x.b=w)→(y.a=w∨y.b=w)→oth x w∈g.vs∧oth x w≠w∧x.a+x.b - w=oth x w∧y.a+y.b - w=oth y w:=fun w h1 h2=>by
  refine ⟨?_,oth_ne hxn h1,oth_sum h1,oth_sum h2⟩
  rcases oth_end x w with e | e
  ·rw [← e];exact xav
  ·rw [← e];exact xbv
 have hRw:∀ w:Int,RingAt g.es w x y↔(x.a=w∨x.b=w)∧(y.a=w∨y.b=w)∧RIn g.es (·≠w) (oth x w) (oth y w):=fun w=>Iff.rfl
 obtain ⟨xi,xa,xb⟩:=x
 obtain ⟨yi,ya,yb⟩:=y
 simp only at *
 have hrc:=fun h=>cdecB_t (p:=RingE g.es ⟨xi,xa,xb⟩ ⟨yi,ya,yb⟩) h
 have hrf:=fun h=>cdecB_f (p:=RingE g.es ⟨xi,xa,xb⟩ ⟨yi,ya,yb⟩) h
 refine qO tabOk Tryz.func42 rfl rfl Tryz.ntmps42 (rs:=[.tmp 6]) rfl (by simp) ?_
 refine awp_posG fun hpos=>?_
 have x1:¬ st.next=st.next+1:=by omega
 have x2:¬ st.next=st.next+1+1:=by omega
 have x3:¬ st.next+1=st.next+1+1:=by omega
 (repeat' (first | refine qS ?_ | refine qB ?_ | ((first | refine qK ?_ | refine qX ?_);simp only [ak,reduceIte]) | (refine qR ?_;simp only [ak,reduceIte];simp [edL,x1,x2,x3]) | (refine qC ?_;simp [edL,x1,x2,x3];(try with_reducible refine ⟨?_,?_⟩)<;>(try with_reducible intro hc)<;>try (exfalso;omega)) | ((first | (refine w_e [] ?_;intro J hJ;simp only []) | (refine w_q ?_;intro J hJ) | refine e_go ?_);simp [edL,x1,x2,x3];(repeat refine ca ?_);(try ((try with_reducible refine ⟨?_,?_⟩)<;>(try with_reducible intro hnil)<;>refine hJ _ _ ?_<;>clear hJ J<;>simp only [ak,reduceIte]<;>try subst hnil)))))
 obtain ⟨p,hp⟩:∃ p,p=st.next:=⟨_,rfl⟩
 obtain ⟨L,hL⟩:∃ L:List Int,L=[xa,xb]:=⟨_,rfl⟩
 have hLl:L.length=2:=by rw [hL];rfl
 refine awp_range 19 18 20 61 (2) (fun j fr st2=>fr 3=.pt p 0∧fr 4=.pt (p+1) 0∧fr 5=.pt (p+2) 0∧(∃ t,fr 17=.sl t 2 (us L))∧st2.H p=.box 25 2 (grL g)∧st2.H (p+1)=.box 34 3 [u xi,u xa,u xb]∧st2.H (p+2)=.box 34 3 [u yi,u ya,u yb]∧Keeps st st2∧∀ k,k < j→¬ RingAt g.es (L.getD k 0) ⟨xi,xa,xb⟩ ⟨yi,ya,yb⟩) ?_ ?_ ?_
 ·subst hp
  refine ⟨by simp,by simp,by simp,⟨st.next+3,by rw [hL];simp [us]⟩,by simp [x1,x2,x3],by simp [x3],by simp,?_,fun k hk=>by omega⟩
  (repeat (first | exact Keeps.refl _ | (refine Keeps.trans ?_ (Keeps.new _ _)) | (refine Keeps.set ?_ (by omega) _)))
 ·clear x1 x2 x3
  rintro jo fr s hlt ⟨f3,f4,f5,⟨t,f17⟩,hG,hX,hY,hkp,hno⟩ fi fn JO hJO
  have hd:=qG L jo (by omega)
  have hww:xa=L.getD jo 0∨xb=L.getD jo 0:=by
   rw [hL]
   rcases jo with _ | _ | jo
   ·exact .inl rfl
   ·exact .inr rfl
   ·omega
  have hnx:¬ RingAt g.es (L.getD jo 0) ⟨xi,xa,xb⟩ ⟨yi,ya,yb⟩→∀ k,k < jo+1→¬ RingAt g.es (L.getD k 0) ⟨xi,xa,xb⟩ ⟨yi,ya,yb⟩:=fun h k hk=>by
   by_cases e:k=jo
   ·rw [e];exact h
   ·exact hno k (by omega)
  generalize L.getD jo 0=w at *
  by_cases hyw:ya=w∨yb=w
  rotate_left
  ·have hb1:(w != ya)=true:=by rw [bne_iff_ne];omega
   have hb2:(w != yb)=true:=by rw [bne_iff_ne];omega
   (repeat' (first | refine qS ?_ | refine qB ?_ | ((first | refine qK ?_ | refine qX ?_);simp only [ak,reduceIte]) | (refine qR ?_;simp only [ak,reduceIte];simp [f5,f17,fi,fn,hd,hlt,hY,hb1,hb2]) | (refine qC ?_;simp [f5,f17,fi,fn,hd,hlt,hY,hb1,hb2];(try with_reducible refine ⟨?_,?_⟩)<;>(try with_reducible intro hc)<;>try (exfalso;omega)) | ((first | (refine w_e [] ?_;intro J hJ;simp only []) | (refine w_q ?_;intro J hJ) | refine e_go ?_);simp [f5,f17,fi,fn,hd,hlt,hY,hb1,hb2];(repeat refine ca ?_);(try ((try with_reducible refine ⟨?_,?_⟩)<;>(try with_reducible intro hnil)<;>refine hJ _ _ ?_<;>clear hJ J<;>simp only [ak,reduceIte]<;>try subst hnil)))))
   exact hJO _ _ (by simp [fi]) (by simp [fn]) ⟨by simp [f3],by simp [f4],by simp [f5],⟨t,by simp [f17]⟩,hG,hX,hY,hkp,hnx fun h=>hyw h.2.1⟩
  obtain ⟨v1,v2,v3,v4⟩:=hVa w hww hyw
  have hg2:=less_good hg.toGood w
  have w1:IntKind.u32.wrap (xa+xb)=xa+xb:=wrap_u32' _ (by omega) (by omega)
  have w2:IntKind.u32.wrap (ya+yb)=ya+yb:=wrap_u32' _ (by omega) (by omega)
  have w3:IntKind.u32.wrap (xa+xb - w)=xa+xb - w:=wrap_u32' _ (by omega) (by omega)
  have w4:IntKind.u32.wrap (ya+yb - w)=ya+yb - w:=wrap_u32' _ (by omega) (by omega)
  rw [v3] at w3
  rw [v4] at w4
  have hpart:=fun st=>refPartB ⟨g.vs.filter fun z=>decide (z≠w),lessE g.es w⟩ (oth ⟨xi,xa,xb⟩ w) st hg2 (Nat.le_trans (List.length_filter_le _ _) (by omega)) (Nat.le_trans (List.length_filter_le _ _) (by omega)) (List.mem_filter.2 ⟨v1,by simpa using v2⟩)
  have hpr:=fun c (hc:IsPart ⟨g.vs.filter fun z=>decide (z≠w),lessE g.es w⟩ (oth ⟨xi,xa,xb⟩ w) c)=>hc.2 (oth ⟨yi,ya,yb⟩ w)
  have hrw:=hRw w
  simp only [reach_less v2] at hpr
  have hQg:oth ⟨yi,ya,yb⟩ w∈g.vs∧oth ⟨yi,ya,yb⟩ w≠w:=by
   refine ⟨?_,oth_ne (hg.ne _ hy) hyw⟩
   rcases oth_end ⟨yi,ya,yb⟩ w with e | e
   ·rw [← e];exact yav
   ·rw [← e];exact ybv
  (repeat (refine qS ?_));(refine w_e [] ?_;intro J hJ;simp only [];simp [f17,fi,fn,hd,hlt];(repeat refine ca ?_);(try ((try with_reducible refine ⟨?_,?_⟩)<;>(try with_reducible intro hnil)<;>refine hJ _ _ ?_<;>clear hJ J<;>simp only [ak,reduceIte]<;>try subst hnil)))
  refine qS ?_
  refine awp_cutB (fun f T=>f 3=.pt p 0∧f 4=.pt (p+1) 0∧f 5=.pt (p+2) 0∧(∃ t,f 17=.sl t 2 (us L))∧f 18=i 2∧f 19=i jo∧f 8=u w∧T=s) ?_ ?_
  ·by_cases e:w=ya
   ·have hb1:(w != ya)=false:=by simpa using e
    (repeat' (first | refine qS ?_ | refine qB ?_ | ((first | refine qK ?_ | refine qX ?_);simp only [ak,reduceIte]) | (refine qR ?_;simp only [ak,reduceIte];simp [f5,hY,hb1]) | (refine qC ?_;simp [f5,hY,hb1];(try with_reducible refine ⟨?_,?_⟩)<;>(try with_reducible intro hc)<;>try (exfalso;omega)) | ((first | (refine w_e [] ?_;intro J hJ;simp only []) | (refine w_q ?_;intro J hJ) | refine e_go ?_);simp [f5,hY,hb1];(repeat refine ca ?_);(try ((try with_reducible refine ⟨?_,?_⟩)<;>(try with_reducible intro hnil)<;>refine hJ _ _ ?_<;>clear hJ J<;>simp only [ak,reduceIte]<;>try subst hnil)))))
    exact ⟨trivial,by simp [f3],by simp [f4],by simp [f5],⟨t,by simp [f17]⟩,by simp [fn],by simp [fi],by simp,trivial⟩
   ·have hb1:(w != ya)=true:=by simpa using e
    have hb2:(w != yb)=false:=by rw [bne_eq_false_iff_eq];omega
    (repeat' (first | refine qS ?_ | refine qB ?_ | ((first | refine qK ?_ | refine qX ?_);simp only [ak,reduceIte]) | (refine qR ?_;simp only [ak,reduceIte];simp [f5,hY,hb1,hb2]) | (refine qC ?_;simp [f5,hY,hb1,hb2];(try with_reducible refine ⟨?_,?_⟩)<;>(try with_reducible intro hc)<;>try (exfalso;omega)) | ((first | (refine w_e [] ?_;intro J hJ;simp only []) | (refine w_q ?_;intro J hJ) | refine e_go ?_);simp [f5,hY,hb1,hb2];(repeat refine ca ?_);(try ((try with_reducible refine ⟨?_,?_⟩)<;>(try with_reducible intro hnil)<;>refine hJ _ _ ?_<;>clear hJ J<;>simp only [ak,reduceIte]<;>try subst hnil)))))
    exact ⟨trivial,by simp [f3],by simp [f4],by simp [f5],⟨t,by simp [f17]⟩,by simp [fn],by simp [fi],by simp,trivial⟩
  clear f3 f4 f5 f17 fi fn hd fr t
  rintro fr T ⟨f3,f4,f5,⟨t,f17⟩,fn,fi,f8,hT⟩
  rw [hT];clear hT T
  generalize oth ⟨xi,xa,xb⟩ w=P at *
  generalize oth ⟨yi,ya,yb⟩ w=Q at *
  (repeat (refine qS ?_));(refine w_s [] [p+1,p+2] [(0,true),(1,true),(2,true),(3,true),(4,true),(5,true),(6,true),(7,true),(8,true),(9,true),(10,true),(11,true),(12,true),(13,true),(14,true),(15,true)] ?_;intro J hJ;simp [f4,f5,f8,hX,hY,w1,w2,w3,w4,v3,v4];(repeat refine ca ?_);(try ((try with_reducible refine ⟨?_,?_⟩)<;>(try with_reducible intro hnil)<;>refine hJ _ _ ?_<;>clear hJ J<;>simp only [ak,reduceIte]<;>try subst hnil)))
  (repeat' (first | refine qS ?_ | refine qB ?_ | ((first | refine qK ?_ | refine qX ?_);simp only [ak,reduceIte]) | (refine qR ?_;simp only [ak,reduceIte];simp [f3,f8,hG]) | (refine qC ?_;simp [f3,f8,hG];(try with_reducible refine ⟨?_,?_⟩)<;>(try with_reducible intro hc)<;>try (exfalso;omega)) | ((first | (refine w_e [] ?_;intro J hJ;simp only []) | (refine w_q ?_;intro J hJ) | refine e_go ?_);simp [f3,f8,hG];(repeat refine ca ?_);(try ((try with_reducible refine ⟨?_,?_⟩)<;>(try with_reducible intro hnil)<;>refine hJ _ _ ?_<;>clear hJ J<;>simp only [ak,reduceIte]<;>try subst hnil)))))
  refine qE (refLess g w _ (by omega) (by omega)) (by simp [grL]) ?_;rintro r s1 ⟨rfl,h7⟩
  rw [h7];clear h7 s1
  (repeat' (first | refine qS ?_ | refine qB ?_ | ((first | refine qK ?_ | refine qX ?_);simp only [ak,reduceIte]) | (refine qR ?_;simp only [ak,reduceIte];simp []) | (refine qC ?_;simp [];(try with_reducible refine ⟨?_,?_⟩)<;>(try with_reducible intro hc)<;>try (exfalso;omega)) | ((first | (refine w_e [] ?_;intro J hJ;simp only []) | (refine w_q ?_;intro J hJ) | refine e_go ?_);simp [];(repeat refine ca ?_);(try ((try with_reducible refine ⟨?_,?_⟩)<;>(try with_reducible intro hnil)<;>refine hJ _ _ ?_<;>clear hJ J<;>simp only [ak,reduceIte]<;>try subst hnil)))))
  refine qE (hpart _) (by simp [grL]) ?_;rintro r s1 ⟨⟨c,rfl,hc⟩,h7⟩
  rw [h7];clear h7 s1
  have hcr:=hpr c hc
  have hcl:c.length≤100:=Nat.le_trans (List.Nodup.length_le_of_subset (hc.1.imp fun h=>Int.ne_of_lt h) fun z hz=>(List.mem_filter.1 ((hc.2 z).1 hz).1).1) hv
  (repeat' (first | refine qS ?_ | refine qB ?_ | ((first | refine qK ?_ | refine qX ?_);simp only [ak,reduceIte]) | (refine qR ?_;simp only [ak,reduceIte];simp []) | (refine qC ?_;simp [];(try with_reducible refine ⟨?_,?_⟩)<;>(try with_reducible intro hc)<;>try (exfalso;omega)) | ((first | (refine w_e [] ?_;intro J hJ;simp only []) | (refine w_q ?_;intro J hJ) | refine e_go ?_);simp [];(repeat refine ca ?_);(try ((try with_reducible refine ⟨?_,?_⟩)<;>(try with_reducible intro hnil)<;>refine hJ _ _ ?_<;>clear hJ J<;>simp only [ak,reduceIte]<;>try subst hnil)))))
  refine awp_range 53 52 54 60 (c.length) (fun j fr st2=>fr 3=.pt p 0∧fr 4=.pt (p+1) 0∧fr 5=.pt (p+2) 0∧(∃ t,fr 17=.sl t 2 (us L))∧fr 18=i 2∧fr 19=i jo∧fr 10=u Q∧fr 51=.sl 0 c.length (us c)∧st2=s∧∀ k (hk:k < c.length),k < j→c[k]≠Q) ?_ ?_ ?_
  ·exact ⟨by simp [f3],by simp [f4],by simp [f5],⟨t,by simp [f17]⟩,by simp [fn],by simp [fi],by simp,by simp,rfl,fun k hk h=>by omega⟩
  ·clear f3 f4 f5 f17 fi fn f8 fr t
   rintro k fr s2 hlk ⟨f3,f4,f5,⟨t,f17⟩,fn,fi,f10,f51,hs2,hno2⟩ gi gn JI hJI
   rw [hs2] at *
   have hd:=qG c k hlk
   rw [getD_lt _ _ hlk] at hd
   have hnx2:c[k]≠Q→∀ k' (hk:k' < c.length),k' < k+1→c[k']≠Q:=fun h k' hk' hkk=>by
    by_cases e:k'=k
    ·subst e;exact h
    ·exact hno2 k' hk' (by omega)
   have hyes:c[k]=Q→RingE g.es ⟨xi,xa,xb⟩ ⟨yi,ya,yb⟩:=fun e=>⟨w,(hrw).2 ⟨hww,hyw,(hcr.1 (by rw [← e];exact List.getElem_mem _)).2⟩⟩
   generalize c[k]=z at *
   by_cases e:z=Q
   ·have hb:(z==Q)=true:=by simpa using e
    have hr:=hrc (hyes e)
    rw [hr]
    (repeat' (first | refine qS ?_ | refine qB ?_ | ((first | refine qK ?_ | refine qX ?_);simp only [ak,reduceIte]) | (refine qR ?_;simp only [ak,reduceIte];simp [f10,f51,gi,gn,hd,hlk,hb]) | (refine qC ?_;simp [f10,f51,gi,gn,hd,hlk,hb];(try with_reducible refine ⟨?_,?_⟩)<;>(try with_reducible intro hc)<;>try (exfalso;omega)) | ((first | (refine w_e [] ?_;intro J hJ;simp only []) | (refine w_q ?_;intro J hJ) | refine e_go ?_);simp [f10,f51,gi,gn,hd,hlk,hb];(repeat refine ca ?_);(try ((try with_reducible refine ⟨?_,?_⟩)<;>(try with_reducible intro hnil)<;>refine hJ _ _ ?_<;>clear hJ J<;>simp only [ak,reduceIte]<;>try subst hnil)))))
    exact hkp
   ·have hb:(z==Q)=false:=by simpa using e
    (repeat' (first | refine qS ?_ | refine qB ?_ | ((first | refine qK ?_ | refine qX ?_);simp only [ak,reduceIte]) | (refine qR ?_;simp only [ak,reduceIte];simp [f10,f51,gi,gn,hd,hlk,hb]) | (refine qC ?_;simp [f10,f51,gi,gn,hd,hlk,hb];(try with_reducible refine ⟨?_,?_⟩)<;>(try with_reducible intro hc)<;>try (exfalso;omega)) | ((first | (refine w_e [] ?_;intro J hJ;simp only []) | (refine w_q ?_;intro J hJ) | refine e_go ?_);simp [f10,f51,gi,gn,hd,hlk,hb];(repeat refine ca ?_);(try ((try with_reducible refine ⟨?_,?_⟩)<;>(try with_reducible intro hnil)<;>refine hJ _ _ ?_<;>clear hJ J<;>simp only [ak,reduceIte]<;>try subst hnil)))))
    exact hJI _ _ (by simp [gi]) (by simp [gn]) ⟨by simp [f3],by simp [f4],by simp [f5],⟨t,by simp [f17]⟩,by simp [fn],by simp [fi],by simp [f10],by simp [f51],rfl,hnx2 e⟩
  ·clear f3 f4 f5 f17 fi fn f8 fr t
   rintro fr s2 ⟨f3,f4,f5,⟨t,f17⟩,fn,fi,f10,f51,hs2,hno2⟩
   rw [hs2]
   have hnQ:Q∉c:=fun h=>by
    obtain ⟨k,hk,e⟩:=List.getElem_of_mem h
    exact hno2 k hk hk e
   (repeat' (first | refine qS ?_ | refine qB ?_ | ((first | refine qK ?_ | refine qX ?_);simp only [ak,reduceIte]) | (refine qR ?_;simp only [ak,reduceIte];simp []) | (refine qC ?_;simp [];(try with_reducible refine ⟨?_,?_⟩)<;>(try with_reducible intro hc)<;>try (exfalso;omega)) | ((first | (refine w_e [] ?_;intro J hJ;simp only []) | (refine w_q ?_;intro J hJ) | refine e_go ?_);simp [];(repeat refine ca ?_);(try ((try with_reducible refine ⟨?_,?_⟩)<;>(try with_reducible intro hnil)<;>refine hJ _ _ ?_<;>clear hJ J<;>simp only [ak,reduceIte]<;>try subst hnil)))))
   exact hJO _ _ (by simp [fi]) (by simp [fn]) ⟨by simp [f3],by simp [f4],by simp [f5],⟨t,by simp [f17]⟩,hG,hX,hY,hkp,hnx fun h=>hnQ (hcr.2 ⟨List.mem_filter.2 ⟨hQg.1,by simpa using hQg.2⟩,(hrw.1 h).2.2⟩)⟩
 ·rintro fr s ⟨f3,f4,f5,⟨t,f17⟩,hG,hX,hY,hkp,hno⟩
  have hr:=hrf fun h=>by
   rcases hri.1 h with h | h
   ·exact hno 0 (by omega) (by rw [hL];exact h)
   ·exact hno 1 (by omega) (by rw [hL];exact h)
  rw [hr]
  (repeat' (first | refine qS ?_ | refine qB ?_ | ((first | refine qK ?_ | refine qX ?_);simp only [ak,reduceIte]) | (refine qR ?_;simp only [ak,reduceIte];simp []) | (refine qC ?_;simp [];(try with_reducible refine ⟨?_,?_⟩)<;>(try with_reducible intro hc)<;>try (exfalso;omega)) | ((first | (refine w_e [] ?_;intro J hJ;simp only []) | (refine w_q ?_;intro J hJ) | refine e_go ?_);simp [];(repeat refine ca ?_);(try ((try with_reducible refine ⟨?_,?_⟩)<;>(try with_reducible intro hnil)<;>refine hJ _ _ ?_<;>clear hJ J<;>simp only [ak,reduceIte]<;>try subst hnil)))))
  exact hkp
theorem refRing (g:Gr) (hg:GoodE g) (x y:Ed) (st:St) (hv:g.vs.length≤100) (he:g.es.length≤200) (hvp:∀ v∈g.vs,1≤v∧v≤1048576) (hx:x∈g.es) (hy:y∈g.es):
 ACalls Tryz.prog 42 [.ag (grL g),.ag (edL x),.ag (edL y)] st fun r st'=>r=bb (cdecB (RingE g.es x y))∧st'=st:=
 qT (Q:=fun r=>r=bb (cdecB (RingE g.es x y))) (refRingK g hg x y st hv he hvp hx hy) fun r h=>by subst h;trivial
end Go.Proofs.YtkcokoefodgigaaGreat.Aw
