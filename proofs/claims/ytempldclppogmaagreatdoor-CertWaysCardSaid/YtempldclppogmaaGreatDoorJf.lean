/- plane: newSheet. -/
import Derived.Test.YtempldclppogmaaGreatDoorJe
import Derived.Test.YtempldclppogmaaGreatDoorAwAlt
set_option linter.unusedVariables false
set_option linter.unusedSimpArgs false
namespace Go.Proofs.YtempldclppogmaaGreatDoor.Aw
open Go Go.RowKit Go.Proofs.YtempldclppogmaaGreatDoor.Pl
theorem aNt{ops:Array Oper}{M B:List Nat}{st0:St}{J:Frm→St→Prop}{listed:Array Bool}{fr:Frm}{st:St}{k:Nat}(n:Nat)(p q r:Nat×Bool)(h1:cU Tryz.prog tab ops M B st0 (fun fr st=>fV Tryz.prog tab ops M (SB B st0) J n (listed.setIfInBounds p.1 true) fr st) (pick ops [p]) fr st)
 (h2:cU Tryz.prog tab ops M B st0 (fun fr st=>fV Tryz.prog tab ops M (SB B st0) J n (listed.setIfInBounds q.1 true) fr st) (pick ops [q]) fr st)
 (h3:cU Tryz.prog tab ops M B st0 (fun fr st=>fV Tryz.prog tab ops M (SB B st0) J n (listed.setIfInBounds r.1 true) fr st) (pick ops [r]) fr st) (hn:k=n+1:=by rfl) (hk:aFO ops [p,q,r] listed=true:=by kernel_rfl):fV Tryz.prog tab ops M (SB B st0) J k listed fr st:=by
 subst hn
 refine aCs n [p,q,r] hk fun x hx=>?_
 simp only[List.mem_cons,List.not_mem_nil,or_false]at hx
 rcases hx with rfl|rfl|rfl
 ·exact h1
 ·exact h2
 ·exact h3
structure NeI(g:Gr)(lo S nl pl ll:Nat)(f6:LV)(st0 s:St)(near:List LV)(pm lm:List (List Int×LV))(on:Nat):Prop where
 gr:s.H lo=.box 25 2 (grL g)
 box:s.H S=.box 119 7 [.sl 0 g.vs.length (us g.vs),.sl 0 g.es.length (eds g.es),.ms nl 0 g.vs.length,.mp pl,.mp ll,wv on,f6]
 near:s.H nl=.box 116 1 near
 plc:s.H pl=.map false [.u32] pm
 lin:s.H ll=.map true [.u32,.u32] lm
 b:st0.next≤lo∧lo<s.next∧st0.next≤S∧S<s.next∧st0.next≤nl∧nl<s.next∧st0.next≤pl∧pl<s.next∧st0.next≤ll∧ll<s.next
 kp:aB st0 s
theorem fJ(n:Nat):cO [.atom (.int .u64 0)] n=List.replicate n (wv 0):=by
 induction n with
 |zero=>rfl
 |succ n ih=>rw[List.replicate_succ,← ih];rfl
def aGH(vs:List Int)(j:Nat):List (List Int×LV):=(List.range j).map fun k=>([vs.getD k 0],i k)
theorem vW:∀(L:List (List Int×LV)) (k:List Int) (x:LV),k∉L.map (·.1)→aS L k x=L++[(k,x)]
 |[],k,x,_=>rfl
 |q::L,k,x,h=>by
  simp only[List.map_cons,List.mem_cons,not_or]at h
  simp only[aS]
  rw[if_neg (by simpa using h.1),vW L k x h.2];rfl
theorem aGi{vs:List Int}(hn:vs.Nodup){j:Nat}(hj:j<vs.length):aS (aGH vs j) [vs.getD j 0] (i j)=aGH vs (j+1):=by
 rw[vW]
 ·unfold aGH;rw[List.range_succ,List.map_append];rfl
 ·unfold aGH
  rw[List.map_map]
  intro h
  obtain⟨k,hk,e⟩:=List.mem_map.1 h
  have hk:=List.mem_range.1 hk
  simp only[Function.comp,List.cons.injEq,and_true]at e
  rw[aX _ _ hj,aX _ _ (show k<vs.length by omega),aAV hn (by omega) hj]at e
  omega
def jQ(g:Gr)(j:Nat):List LV:=g.vs.map fun v=>wv (mk g.vs (nbr (g.es.take j) v))
@[simp] theorem zT(g:Gr)(j:Nat):(jQ g j).length=g.vs.length:=by simp[jQ]
theorem aEC(g:Gr):jQ g 0=List.replicate g.vs.length (wv 0):=by
 have hz:mk g.vs []=0:=(mk_zero g.vs []).2 fun _ _=>by simp
 unfold jQ
 rw[List.eq_replicate_iff]
 refine⟨by simp,fun b hb=>?_⟩
 obtain⟨v,_,rfl⟩:=List.mem_map.1 hb
 simp[nbr,hz]
theorem aGE(g:Gr):jQ g g.es.length=iU g:=by unfold jQ iU;rw[List.take_length]
theorem nK(g:Gr)(j k:Nat)(hk:k<g.vs.length):(jQ g j)[k]?=some (wv (mk g.vs (nbr (g.es.take j) (g.vs.getD k 0)))):=by
 unfold jQ
 rw[List.getElem?_map,List.getElem?_eq_getElem hk,aX _ _ hk];rfl
theorem aJb(es:List Ed)(x:Ed)(v:Int):nbr (es++[x]) v=nbr es v++aHt v x:=by simp[nbr]
theorem aFe{g:Gr}(hn:g.vs.Nodup){j:Nat}(hj:j<g.es.length){d a b:Int}(hx:g.es.getD j ed0=⟨d,a,b⟩)(hab:a≠b)(ha:a∈g.vs)(hb:b∈g.vs):
 ((jQ g j).set (g.vs.idxOf a) (wv (mk g.vs (nbr (g.es.take j) a++[b])))).set (g.vs.idxOf b) (wv (mk g.vs (nbr (g.es.take j) b++[a])))=jQ g (j+1):=by
 obtain⟨ia,ga⟩:=yX ha
 obtain⟨ib,gb⟩:=yX hb
 have htk:g.es.take (j+1)=g.es.take j++[⟨d,a,b⟩]:=by
  rw[List.take_succ_eq_append_getElem hj,← cC _ _ hj,hx]
 refine List.ext_getElem? fun k=>?_
 by_cases hk:k<g.vs.length
 ·rw[nK g (j+1) k hk,htk,aJb,List.getElem?_set,List.getElem?_set,nK g j k hk]
  simp only[List.length_set,zT]
  by_cases e1:g.vs.idxOf b=k
  ·rw[if_pos e1,if_pos (by omega),← e1,gb]
   simp[aHt,hab]
  ·rw[if_neg e1]
   by_cases e2:g.vs.idxOf a=k
   ·rw[if_pos e2,if_pos (by omega),← e2,ga]
    simp[aHt,Ne.symm hab]
   ·rw[if_neg e2]
    have v1:¬a=g.vs.getD k 0:=fun e=>e2 (by rw[e,aX _ _ hk];exact hn.idxOf_getElem k hk)
    have v2:¬b=g.vs.getD k 0:=fun e=>e1 (by rw[e,aX _ _ hk];exact hn.idxOf_getElem k hk)
    unfold aHt
    rw[if_neg v1,if_neg v2];simp
 ·rw[List.getElem?_eq_none (by simp;omega),List.getElem?_eq_none (by simp;omega)]
theorem aQG(x y:Ed)(q:Nat)(st:St)(hq:st.H q=.box 56 3 (edL x))(hqn:q<st.next):
 aF Tryz.prog 112 [.ag (edL y),.pt q 0] st fun r st'=>r=bb (decide (y≠x))∧aB st st':=by
 obtain⟨d,a,b⟩:=x
 obtain⟨d',a',b'⟩:=y
 have h1:¬q=st.next:=by omega
 refine qO aK Tryz.func112 rfl rfl Tryz.ntmps112 (rs:=[.tmp 3]) rfl (by simp) ?_
 (repeat' (first|refine qS ?_|(refine qR ?_;simp only[ak,reduceIte];simp[hq,h1])|(refine w_e [] ?_;intro J hJ;simp only[];simp[hq,h1];(refine hJ _ _ ?_;clear hJ J;simp only[ak,reduceIte]))))
 exact⟨rfl,aB.new _ _⟩
def newF(g:Gr):Option Sh:=match g.es with
 |[]=>none
 |x::_=>(aFM g.vs (dG (g.es.filter fun y=>decide (y≠x))) (fun _=>true) x.a x.b 1000).bind fun ring=>
  if ring.length≤200∧∀ v∈ring,v∈g.vs then some ⟨aFo (aFo [] ring) [x.a,x.b],ring++[x.a,x.b],[ring,ring.reverse]⟩else none
set_option maxHeartbeats 4000000 in
theorem aIJ{g:Gr}(hg:GP g){h:Sh}(hh:newF g=some h)(st:St):aF Tryz.prog 74 [.ag (grL g)] st fun r st'=>∃ S nl pl ll fl le,r=.pt S 0∧ShA g h.L h.on h.F S nl pl ll fl le st'∧(st.next≤S∧st.next≤ll∧st.next≤fl)∧aB st st':=by
 have he:=hg.he
 have h64:=hg.h64
 refine qO aK Tryz.func74 rfl rfl Tryz.ntmps74 (rs:=[.tmp 2]) rfl (by simp) ?_
 refine dL fun hpos=>?_
 (repeat' (first|refine qS ?_|(refine w_e [] ?_;intro J hJ;simp only[];simp[];(refine hJ _ _ ?_;clear hJ J;simp only[ak,reduceIte]))))
 refine wA (fun f s=>∃ S nl pl ll,f 1=.pt st.next 0∧f 3=.pt S 0∧NeI g st.next S nl pl ll .nil st s (List.replicate g.vs.length (wv 0)) [] [] 0) ?_ ?_
 ·refine w_a [] [st.next] ?_;intro J hJ
  refine iH 6 [(0,true),(1,true),(2,true),(3,true)] ?_
  simp
  refine aNt 5 (4,true) (5,true) (6,true) ?_ ?_ ?_
  ·simp
   refine⟨⟨by omega,by omega⟩,?_⟩
   refine oN 4 (5,true) (6,true) ?_ ?_
   ·simp
    refine iH 0 [(6,true),(7,true),(8,true),(9,true)] ?_
    simp
    refine cY (hJ _ _ ?_)
    simp only[ak]
    refine⟨trivial,st.next+4,st.next+1,st.next+2,st.next+3,by simp,by simp,⟨?_,?_,?_,?_,?_,?_,?_⟩⟩
    ·(repeat (first|rw[aG,if_neg (α:=aD) (by(try simp only[aC,aA]);omega)]|rw[aE,if_neg (α:=aD) (by omega)]|rw[aG,if_pos (α:=aD) (by(try simp only[aC,aA]))]|rw[aE,if_pos (α:=aD) (by omega)]))
    ·(repeat (first|rw[aG,if_neg (α:=aD) (by(try simp only[aC,aA]);omega)]|rw[aE,if_neg (α:=aD) (by omega)]|rw[aG,if_pos (α:=aD) (by(try simp only[aC,aA]))]|rw[aE,if_pos (α:=aD) (by omega)]));rfl
    ·(repeat (first|rw[aG,if_neg (α:=aD) (by(try simp only[aC,aA]);omega)]|rw[aE,if_neg (α:=aD) (by omega)]|rw[aG,if_pos (α:=aD) (by(try simp only[aC,aA]))]|rw[aE,if_pos (α:=aD) (by omega)]));rw[fJ]
    ·(repeat (first|rw[aG,if_neg (α:=aD) (by(try simp only[aC,aA]);omega)]|rw[aE,if_neg (α:=aD) (by omega)]|rw[aG,if_pos (α:=aD) (by(try simp only[aC,aA]))]|rw[aE,if_pos (α:=aD) (by omega)]))
    ·(repeat (first|rw[aG,if_neg (α:=aD) (by(try simp only[aC,aA]);omega)]|rw[aE,if_neg (α:=aD) (by omega)]|rw[aG,if_pos (α:=aD) (by(try simp only[aC,aA]))]|rw[aE,if_pos (α:=aD) (by omega)]))
    ·simp only[aA];omega
    ·(repeat (first|exact aB.refl _|(refine aB.trans ?_ (aB.new _ _))))
   ·simp
    refine iH 0 [(5,true),(7,true),(8,true),(9,true)] ?_
    simp
    refine cY (hJ _ _ ?_)
    simp only[ak]
    refine⟨trivial,st.next+4,st.next+1,st.next+3,st.next+2,by simp,by simp,⟨?_,?_,?_,?_,?_,?_,?_⟩⟩
    ·(repeat (first|rw[aG,if_neg (α:=aD) (by(try simp only[aC,aA]);omega)]|rw[aE,if_neg (α:=aD) (by omega)]|rw[aG,if_pos (α:=aD) (by(try simp only[aC,aA]))]|rw[aE,if_pos (α:=aD) (by omega)]))
    ·(repeat (first|rw[aG,if_neg (α:=aD) (by(try simp only[aC,aA]);omega)]|rw[aE,if_neg (α:=aD) (by omega)]|rw[aG,if_pos (α:=aD) (by(try simp only[aC,aA]))]|rw[aE,if_pos (α:=aD) (by omega)]));rfl
    ·(repeat (first|rw[aG,if_neg (α:=aD) (by(try simp only[aC,aA]);omega)]|rw[aE,if_neg (α:=aD) (by omega)]|rw[aG,if_pos (α:=aD) (by(try simp only[aC,aA]))]|rw[aE,if_pos (α:=aD) (by omega)]));rw[fJ]
    ·(repeat (first|rw[aG,if_neg (α:=aD) (by(try simp only[aC,aA]);omega)]|rw[aE,if_neg (α:=aD) (by omega)]|rw[aG,if_pos (α:=aD) (by(try simp only[aC,aA]))]|rw[aE,if_pos (α:=aD) (by omega)]))
    ·(repeat (first|rw[aG,if_neg (α:=aD) (by(try simp only[aC,aA]);omega)]|rw[aE,if_neg (α:=aD) (by omega)]|rw[aG,if_pos (α:=aD) (by(try simp only[aC,aA]))]|rw[aE,if_pos (α:=aD) (by omega)]))
    ·simp only[aA];omega
    ·(repeat (first|exact aB.refl _|(refine aB.trans ?_ (aB.new _ _))))
  ·simp
   refine oN 4 (4,true) (6,true) ?_ ?_
   ·simp
    refine⟨⟨by omega,by omega⟩,?_⟩
    refine iH 0 [(6,true),(7,true),(8,true),(9,true)] ?_
    simp
    refine cY (hJ _ _ ?_)
    simp only[ak]
    refine⟨trivial,st.next+4,st.next+2,st.next+1,st.next+3,by simp,by simp,⟨?_,?_,?_,?_,?_,?_,?_⟩⟩
    ·(repeat (first|rw[aG,if_neg (α:=aD) (by(try simp only[aC,aA]);omega)]|rw[aE,if_neg (α:=aD) (by omega)]|rw[aG,if_pos (α:=aD) (by(try simp only[aC,aA]))]|rw[aE,if_pos (α:=aD) (by omega)]))
    ·(repeat (first|rw[aG,if_neg (α:=aD) (by(try simp only[aC,aA]);omega)]|rw[aE,if_neg (α:=aD) (by omega)]|rw[aG,if_pos (α:=aD) (by(try simp only[aC,aA]))]|rw[aE,if_pos (α:=aD) (by omega)]));rfl
    ·(repeat (first|rw[aG,if_neg (α:=aD) (by(try simp only[aC,aA]);omega)]|rw[aE,if_neg (α:=aD) (by omega)]|rw[aG,if_pos (α:=aD) (by(try simp only[aC,aA]))]|rw[aE,if_pos (α:=aD) (by omega)]));rw[fJ]
    ·(repeat (first|rw[aG,if_neg (α:=aD) (by(try simp only[aC,aA]);omega)]|rw[aE,if_neg (α:=aD) (by omega)]|rw[aG,if_pos (α:=aD) (by(try simp only[aC,aA]))]|rw[aE,if_pos (α:=aD) (by omega)]))
    ·(repeat (first|rw[aG,if_neg (α:=aD) (by(try simp only[aC,aA]);omega)]|rw[aE,if_neg (α:=aD) (by omega)]|rw[aG,if_pos (α:=aD) (by(try simp only[aC,aA]))]|rw[aE,if_pos (α:=aD) (by omega)]))
    ·simp only[aA];omega
    ·(repeat (first|exact aB.refl _|(refine aB.trans ?_ (aB.new _ _))))
   ·simp
    refine iH 0 [(4,true),(7,true),(8,true),(9,true)] ?_
    simp
    refine⟨⟨by omega,by omega⟩,?_⟩
    refine cY (hJ _ _ ?_)
    simp only[ak]
    refine⟨trivial,st.next+4,st.next+3,st.next+1,st.next+2,by simp,by simp,⟨?_,?_,?_,?_,?_,?_,?_⟩⟩
    ·(repeat (first|rw[aG,if_neg (α:=aD) (by(try simp only[aC,aA]);omega)]|rw[aE,if_neg (α:=aD) (by omega)]|rw[aG,if_pos (α:=aD) (by(try simp only[aC,aA]))]|rw[aE,if_pos (α:=aD) (by omega)]))
    ·(repeat (first|rw[aG,if_neg (α:=aD) (by(try simp only[aC,aA]);omega)]|rw[aE,if_neg (α:=aD) (by omega)]|rw[aG,if_pos (α:=aD) (by(try simp only[aC,aA]))]|rw[aE,if_pos (α:=aD) (by omega)]));rfl
    ·(repeat (first|rw[aG,if_neg (α:=aD) (by(try simp only[aC,aA]);omega)]|rw[aE,if_neg (α:=aD) (by omega)]|rw[aG,if_pos (α:=aD) (by(try simp only[aC,aA]))]|rw[aE,if_pos (α:=aD) (by omega)]));rw[fJ]
    ·(repeat (first|rw[aG,if_neg (α:=aD) (by(try simp only[aC,aA]);omega)]|rw[aE,if_neg (α:=aD) (by omega)]|rw[aG,if_pos (α:=aD) (by(try simp only[aC,aA]))]|rw[aE,if_pos (α:=aD) (by omega)]))
    ·(repeat (first|rw[aG,if_neg (α:=aD) (by(try simp only[aC,aA]);omega)]|rw[aE,if_neg (α:=aD) (by omega)]|rw[aG,if_pos (α:=aD) (by(try simp only[aC,aA]))]|rw[aE,if_pos (α:=aD) (by omega)]))
    ·simp only[aA];omega
    ·(repeat (first|exact aB.refl _|(refine aB.trans ?_ (aB.new _ _))))
  ·simp
   refine oN 4 (4,true) (5,true) ?_ ?_
   ·simp
    refine⟨⟨by omega,by omega⟩,?_⟩
    refine iH 0 [(5,true),(7,true),(8,true),(9,true)] ?_
    simp
    refine cY (hJ _ _ ?_)
    simp only[ak]
    refine⟨trivial,st.next+4,st.next+2,st.next+3,st.next+1,by simp,by simp,⟨?_,?_,?_,?_,?_,?_,?_⟩⟩
    ·(repeat (first|rw[aG,if_neg (α:=aD) (by(try simp only[aC,aA]);omega)]|rw[aE,if_neg (α:=aD) (by omega)]|rw[aG,if_pos (α:=aD) (by(try simp only[aC,aA]))]|rw[aE,if_pos (α:=aD) (by omega)]))
    ·(repeat (first|rw[aG,if_neg (α:=aD) (by(try simp only[aC,aA]);omega)]|rw[aE,if_neg (α:=aD) (by omega)]|rw[aG,if_pos (α:=aD) (by(try simp only[aC,aA]))]|rw[aE,if_pos (α:=aD) (by omega)]));rfl
    ·(repeat (first|rw[aG,if_neg (α:=aD) (by(try simp only[aC,aA]);omega)]|rw[aE,if_neg (α:=aD) (by omega)]|rw[aG,if_pos (α:=aD) (by(try simp only[aC,aA]))]|rw[aE,if_pos (α:=aD) (by omega)]));rw[fJ]
    ·(repeat (first|rw[aG,if_neg (α:=aD) (by(try simp only[aC,aA]);omega)]|rw[aE,if_neg (α:=aD) (by omega)]|rw[aG,if_pos (α:=aD) (by(try simp only[aC,aA]))]|rw[aE,if_pos (α:=aD) (by omega)]))
    ·(repeat (first|rw[aG,if_neg (α:=aD) (by(try simp only[aC,aA]);omega)]|rw[aE,if_neg (α:=aD) (by omega)]|rw[aG,if_pos (α:=aD) (by(try simp only[aC,aA]))]|rw[aE,if_pos (α:=aD) (by omega)]))
    ·simp only[aA];omega
    ·(repeat (first|exact aB.refl _|(refine aB.trans ?_ (aB.new _ _))))
   ·simp
    refine iH 0 [(4,true),(7,true),(8,true),(9,true)] ?_
    simp
    refine⟨⟨by omega,by omega⟩,?_⟩
    refine cY (hJ _ _ ?_)
    simp only[ak]
    refine⟨trivial,st.next+4,st.next+3,st.next+2,st.next+1,by simp,by simp,⟨?_,?_,?_,?_,?_,?_,?_⟩⟩
    ·(repeat (first|rw[aG,if_neg (α:=aD) (by(try simp only[aC,aA]);omega)]|rw[aE,if_neg (α:=aD) (by omega)]|rw[aG,if_pos (α:=aD) (by(try simp only[aC,aA]))]|rw[aE,if_pos (α:=aD) (by omega)]))
    ·(repeat (first|rw[aG,if_neg (α:=aD) (by(try simp only[aC,aA]);omega)]|rw[aE,if_neg (α:=aD) (by omega)]|rw[aG,if_pos (α:=aD) (by(try simp only[aC,aA]))]|rw[aE,if_pos (α:=aD) (by omega)]));rfl
    ·(repeat (first|rw[aG,if_neg (α:=aD) (by(try simp only[aC,aA]);omega)]|rw[aE,if_neg (α:=aD) (by omega)]|rw[aG,if_pos (α:=aD) (by(try simp only[aC,aA]))]|rw[aE,if_pos (α:=aD) (by omega)]));rw[fJ]
    ·(repeat (first|rw[aG,if_neg (α:=aD) (by(try simp only[aC,aA]);omega)]|rw[aE,if_neg (α:=aD) (by omega)]|rw[aG,if_pos (α:=aD) (by(try simp only[aC,aA]))]|rw[aE,if_pos (α:=aD) (by omega)]))
    ·(repeat (first|rw[aG,if_neg (α:=aD) (by(try simp only[aC,aA]);omega)]|rw[aE,if_neg (α:=aD) (by omega)]|rw[aG,if_pos (α:=aD) (by(try simp only[aC,aA]))]|rw[aE,if_pos (α:=aD) (by omega)]))
    ·simp only[aA];omega
    ·(repeat (first|exact aB.refl _|(refine aB.trans ?_ (aB.new _ _))))
 ·rintro fr s ⟨S,nl,pl,ll,f1,f3,hI⟩
  have hn:g.vs.Nodup:=hg.toGoodE.toGood.nodup
  have hG:=hI.gr
  (repeat' (first|refine qS ?_|refine qB ?_|(refine w_e [] ?_;intro J hJ;simp only[];simp[f1,hG];(refine hJ _ _ ?_;clear hJ J;simp only[ak,reduceIte]))))
  refine aP 24 23 25 35 (g.vs.length) (fun j fr st2=>fr 1=.pt st.next 0∧fr 3=.pt S 0∧fr 22=.sl 0 g.vs.length (us g.vs)∧NeI g st.next S nl pl ll .nil st st2 (List.replicate g.vs.length (wv 0)) (aGH g.vs j) [] 0) ?_ ?_ ?_
  ·exact⟨by simp[f1],by simp[f3],by simp,hI⟩
  ·clear f1 f3 hI hG fr s
   rintro j fr s hlt ⟨f1,f3,f22,hI⟩ fi fn JO hJO
   have hd:=qG g.vs j hlt
   have hps:=aGi hn hlt
   generalize g.vs.getD j 0=v at *
   obtain⟨hG,hSb,hN,hP,hL,hb,hk⟩:=id hI
   have a1:¬st.next=pl:=fun e=>by rw[e,hP]at hG;cases hG
   have a2:¬S=pl:=fun e=>by rw[e,hP]at hSb;cases hSb
   have a3:¬nl=pl:=fun e=>by rw[e,hP]at hN;cases hN
   have a4:¬ll=pl:=fun e=>by rw[e,hP]at hL;cases hL
   (repeat' (first|refine qS ?_|(refine w_e [] ?_;intro J hJ;simp only[];simp[f3,f22,fi,fn,hd,hlt,hSb,hP,hps];(refine hJ _ _ ?_;clear hJ J;simp only[ak,reduceIte]))))
   exact hJO _ _ (by simp[fi]) (by simp[fn]) ⟨by simp[f1],by simp[f3],by simp[f22],⟨by(repeat (first|rw[aG,if_neg (α:=aD) (by(try simp only[aC,aA]);omega)]|rw[aE,if_neg (α:=aD) (by omega)]|rw[aG,if_pos (α:=aD) (by(try simp only[aC,aA]))]|rw[aE,if_pos (α:=aD) (by omega)]));exact hG,by(repeat (first|rw[aG,if_neg (α:=aD) (by(try simp only[aC,aA]);omega)]|rw[aE,if_neg (α:=aD) (by omega)]|rw[aG,if_pos (α:=aD) (by(try simp only[aC,aA]))]|rw[aE,if_pos (α:=aD) (by omega)]));exact hSb,by(repeat (first|rw[aG,if_neg (α:=aD) (by(try simp only[aC,aA]);omega)]|rw[aE,if_neg (α:=aD) (by omega)]|rw[aG,if_pos (α:=aD) (by(try simp only[aC,aA]))]|rw[aE,if_pos (α:=aD) (by omega)]));exact hN,by(repeat (first|rw[aG,if_neg (α:=aD) (by(try simp only[aC,aA]);omega)]|rw[aE,if_neg (α:=aD) (by omega)]|rw[aG,if_pos (α:=aD) (by(try simp only[aC,aA]))]|rw[aE,if_pos (α:=aD) (by omega)])),by(repeat (first|rw[aG,if_neg (α:=aD) (by(try simp only[aC,aA]);omega)]|rw[aE,if_neg (α:=aD) (by omega)]|rw[aG,if_pos (α:=aD) (by(try simp only[aC,aA]))]|rw[aE,if_pos (α:=aD) (by omega)]));exact hL,by simp only[aC];exact hb,hk.set (by omega) _⟩⟩
  ·clear f1 f3 hI hG fr s
   rintro fr s ⟨f1,f3,f22,hI⟩
   have hG:=hI.gr
   have hel:=aO g.es
   (repeat' (first|refine qS ?_|refine qB ?_|(refine w_e [] ?_;intro J hJ;simp only[];simp[f1,hG];(refine hJ _ _ ?_;clear hJ J;simp only[ak,reduceIte]))))
   rw[← aEC]at hI
   have hplc:aGH g.vs g.vs.length=rI g.vs:=rfl
   rw[hplc]at hI
   clear hplc
   refine aP 39 38 40 81 (g.es.length) (fun j fr st2=>fr 1=.pt st.next 0∧fr 3=.pt S 0∧fr 37=.sl 0 g.es.length (eds g.es)∧NeI g st.next S nl pl ll .nil st st2 (jQ g j) (rI g.vs) [] 0) ?_ ?_ ?_
   ·exact⟨by simp[f1],by simp[f3],by simp,hI⟩
   ·clear f1 f3 f22 hI hG fr s
    rintro j fr s hlt ⟨f1,f3,f37,hI⟩ fi fn JO hJO
    have hde:=bE g.es j hlt
    have hj3:j*3<g.es.length*3:=by omega
    have hm:g.es.getD j ed0∈g.es:=by rw[cC _ _ hlt];exact List.getElem_mem _
    have hends:=hg.ends _ hm
    have hne:=hg.ne _ hm
    generalize hx:g.es.getD j ed0=x at *
    obtain⟨d,a,b⟩:=x
    simp only at hends hne
    have hsu:=aFe hn hlt hx hne hends.1 hends.2
    obtain⟨ia,ga⟩:=yX hends.1
    obtain⟨ib,gb⟩:=yX hends.2
    have pa:=wN hn ia
    have pb:=wN hn ib
    rw[ga]at pa
    rw[gb]at pb
    have na:=nK g j _ ia
    rw[ga]at na
    have oa:=yQ g.vs (nbr (g.es.take j) a) [b] h64
    have ob:=yQ g.vs (nbr (g.es.take j) b) [a] h64
    have nb:=nK g j _ ib
    rw[gb]at nb
    have hidx:¬g.vs.idxOf a=g.vs.idxOf b:=fun e=>hne (by rw[← ga,← gb,e])
    have nb2:((jQ g j).set (g.vs.idxOf a) (wv (mk g.vs (nbr (g.es.take j) a++[b]))))[g.vs.idxOf b]?=some (wv (mk g.vs (nbr (g.es.take j) b))):=by
     rw[List.getElem?_set,if_neg hidx];exact nb
    have hl:=zT g j
    generalize jQ g j=N at *
    generalize g.vs.idxOf a=ka at *
    generalize g.vs.idxOf b=kb at *
    generalize mk g.vs (nbr (g.es.take j) a)=ma at *
    generalize mk g.vs (nbr (g.es.take j) b)=mb at *
    obtain⟨hG,hSb,hN,hP,hL,hb,hk⟩:=id hI
    have a1:¬st.next=s.next:=by omega
    have a2:¬S=s.next:=by omega
    have a3:¬nl=s.next:=by omega
    have a4:¬ll=s.next:=by omega
    have a5:¬pl=s.next:=by omega
    have da:N.drop ka=wv ma::N.drop (ka+1):=by
     rw[List.drop_eq_getElem_cons (by omega)]
     rw[List.getElem?_eq_getElem (by omega),Option.some.injEq]at na
     rw[na]
    have ka1:(ka:Int)<g.vs.length:=by omega
    have kb1:(kb:Int)<g.vs.length:=by omega
    (repeat' (first|refine qS ?_|(refine w_e [] ?_;intro J hJ;simp only[];simp[f37,fi,fn,hde,hel,hj3,hlt];(refine hJ _ _ ?_;clear hJ J;simp only[ak,reduceIte]))))
    (refine w_s [] [S,s.next,nl,pl] [(0,true),(1,true),(2,true),(3,true),(4,true),(5,true),(6,true),(7,true),(8,true),(9,true),(10,true),(11,true),(12,true),(13,true),(14,true),(15,true),(16,true),(17,true),(18,true),(19,false)] ?_;intro J hJ;simp[f3,hSb,hN,hP,a1,a2,a3,a4,a5,pa,da,ia,ka1,hl])
    have hBb:∀ {v:Int} {s':St},v∈g.vs→s'.H S=.box 119 7 [.sl 0 g.vs.length (us g.vs),.sl 0 g.es.length (eds g.es),.ms nl 0 g.vs.length,.mp pl,.mp ll,wv 0,.nil]→s'.H pl=.map false [.u32] (rI g.vs)→aF Tryz.prog 110 [.pt S 0,u v] s' fun r st'=>r=wv (mk g.vs [v])∧st'=s':=
     fun {v s'} hv h1 h2=>aLj ⟨⟨_,_,_,_,_,_,h1⟩,h2⟩ hn h64 hv
    refine qD (hBb hends.2 (by rw[aG,if_neg a2];exact hSb) (by rw[aG,if_neg a5];exact hP)) (by simp) ?_;rintro r s1 ⟨rfl,h1⟩
    rw[h1];clear h1 s1
    refine⟨fun h=>by first|(cases h;done)|exact fun _ _=>rfl|simp,?_⟩
    have hset:∀(M:List LV) (k:Nat) (y:LV),k<M.length→M.take k++y::M.drop (k+1)=M.set k y:=fun M k y h=>by rw[List.set_eq_take_append_cons_drop,if_pos h]
    have hs1:=hset N ka (wv (mk g.vs (nbr (g.es.take j) a++[b]))) (by omega)
    have b1:¬S=nl:=fun e=>by rw[e,hN]at hSb;cases hSb
    have b2:¬pl=nl:=fun e=>by rw[e,hN]at hP;cases hP
    have b3:¬s.next=nl:=by omega
    have b4:¬ll=nl:=fun e=>by rw[e,hN]at hL;cases hL
    have b5:¬st.next=nl:=fun e=>by rw[e,hN]at hG;cases hG
    (refine bN ?_;simp[hSb,hN,hP,a1,a2,a3,a4,a5,ia,ka1,hl,oa];(repeat refine ca ?_);(refine hJ _ _ ?_;clear hJ J;simp only[ak,reduceIte]))
    rw[hs1]
    have hl2:(N.set ka (wv (mk g.vs (nbr (g.es.take j) a++[b])))).length=g.vs.length:=by rw[List.length_set,hl]
    generalize N.set ka (wv (mk g.vs (nbr (g.es.take j) a++[b])))=N2 at *
    have db:N2.drop kb=wv mb::N2.drop (kb+1):=by
     rw[List.drop_eq_getElem_cons (by omega)]
     rw[List.getElem?_eq_getElem (by omega),Option.some.injEq]at nb2
     rw[nb2]
    have hs2:=hset N2 kb (wv (mk g.vs (nbr (g.es.take j) b++[a]))) (by omega)
    (repeat (refine qS ?_))
    (refine w_s [] [S,s.next,nl,pl] [(0,true),(1,true),(2,true),(3,true),(4,true),(5,true),(6,true),(7,true),(8,true),(9,true),(10,true),(11,true),(12,true),(13,true),(14,true),(15,true),(16,true),(17,true),(18,true),(19,false)] ?_;intro J hJ;simp[f3,hSb,hP,a1,a2,a3,a4,a5,b1,b2,b3,b4,pb,db,ib,kb1,hl2])
    refine qD (hBb hends.1 (by rw[aE,if_neg b1,aG,if_neg a2];exact hSb) (by rw[aE,if_neg b2,aG,if_neg a5];exact hP)) (by simp) ?_;rintro r s1 ⟨rfl,h1⟩
    rw[h1];clear h1 s1
    refine⟨fun h=>by first|(cases h;done)|exact fun _ _=>rfl|simp,?_⟩
    (refine bN ?_;simp[hSb,hP,a1,a2,a3,a4,a5,b1,b2,b3,b4,ib,kb1,hl2,ob];(repeat refine ca ?_);(refine hJ _ _ ?_;clear hJ J;simp only[ak,reduceIte]))
    rw[hs2,hsu]
    skip
    refine hJO _ _ (by simp[fi]) (by simp[fn]) ⟨by simp[f1],by simp[f3],by simp[f37],⟨by(repeat (first|rw[aG,if_neg (α:=aD) (by(try simp only[aC,aA]);omega)]|rw[aE,if_neg (α:=aD) (by omega)]|rw[aG,if_pos (α:=aD) (by(try simp only[aC,aA]))]|rw[aE,if_pos (α:=aD) (by omega)]));exact hG,by(repeat (first|rw[aG,if_neg (α:=aD) (by(try simp only[aC,aA]);omega)]|rw[aE,if_neg (α:=aD) (by omega)]|rw[aG,if_pos (α:=aD) (by(try simp only[aC,aA]))]|rw[aE,if_pos (α:=aD) (by omega)]));exact hSb,by(repeat (first|rw[aG,if_neg (α:=aD) (by(try simp only[aC,aA]);omega)]|rw[aE,if_neg (α:=aD) (by omega)]|rw[aG,if_pos (α:=aD) (by(try simp only[aC,aA]))]|rw[aE,if_pos (α:=aD) (by omega)])),by(repeat (first|rw[aG,if_neg (α:=aD) (by(try simp only[aC,aA]);omega)]|rw[aE,if_neg (α:=aD) (by omega)]|rw[aG,if_pos (α:=aD) (by(try simp only[aC,aA]))]|rw[aE,if_pos (α:=aD) (by omega)]));exact hP,by(repeat (first|rw[aG,if_neg (α:=aD) (by(try simp only[aC,aA]);omega)]|rw[aE,if_neg (α:=aD) (by omega)]|rw[aG,if_pos (α:=aD) (by(try simp only[aC,aA]))]|rw[aE,if_pos (α:=aD) (by omega)]));exact hL,by simp only[aC,aA];omega,?_⟩⟩
    exact((hk.trans (aB.new _ _)).set (by omega) _).set (by omega) _
   ·clear f1 f3 f22 hI hG fr s
    rintro fr s ⟨f1,f3,f37,hI⟩
    rw[aGE]at hI
    unfold newF at hh
    cases hes:g.es with
    |nil=>rw[hes]at hh;cases hh
    |cons x es'=>
     rw[hes]at hh
     simp only at hh
     obtain⟨ring,hring,hh⟩:=Option.bind_eq_some_iff.1 hh
     by_cases hc:ring.length≤200∧∀ v∈ring,v∈g.vs
     case neg=>rw[if_neg hc]at hh;cases hh
     rw[if_pos hc,Option.some.injEq]at hh
     subst hh
     obtain⟨hrl,hrv⟩:=hc
     obtain⟨hG,hSb,hN,hP,hL,hb,hk⟩:=id hI
     simp only[ak]
     have hT3:(eds g.es).take 3=edL x:=by rw[hes];simp[eds,edL]
     have hlp:0<g.es.length:=by rw[hes];simp
     have hlp3:0<g.es.length*3:=by omega
     have hlp4:3≤g.es.length*3:=by omega
     have hlpi:(0:Int)<g.es.length:=by omega
     have a1:¬st.next=s.next:=by omega
     obtain⟨dx,ax,bx⟩:=x
     have hTe:∀ s2,aB s s2→s.next<s2.next→s2.H s.next=.box 56 3 (edL ⟨dx,ax,bx⟩)→aDX 112 [.pt s.next 0] s2 g.es fun y=>decide (y≠⟨dx,ax,bx⟩):=fun s2 h1 h2 h3 y _ s3 h4=>aQG _ y s.next s3 ((h4.H _ h2).trans h3) (Nat.lt_of_lt_of_le h2 h4.next)
     (repeat' (first|refine qS ?_|(refine w_e [] ?_;intro J hJ;simp only[];simp[f1,hG,hel,hT3,hlp,hlp3,hlp4,hlpi,a1];(try (refine hJ _ _ ?_;clear hJ J;simp only[ak,reduceIte])))))
     refine qE (aFC g _ _ _ _ (by omega) (by omega) (hTe _ (aB.new _ _) (by simp) (by simp))) (by simp[grL]) ?_;rintro r s1 ⟨rfl,hk1⟩
     have hn1:=hk1.next
     simp only[aA]at hn1
     have hX1:s1.H s.next=.box 56 3 (edL ⟨dx,ax,bx⟩):=by rw[hk1.H _ (by simp)];simp
     have hK1:aB s s1:=(aB.new _ _).trans hk1
     clear hk1
     have hfl:(g.es.filter fun y=>decide (y≠⟨dx,ax,bx⟩)).length≤10:=by have:=List.length_filter_le (fun y:Ed=>decide (y≠⟨dx,ax,bx⟩)) g.es;omega
     have hmay:∀ s,aIv (.atom .nilFunc) (fun _=>true) s:=fun s=>.inl ⟨rfl,fun _=>rfl⟩
     rw[← hes]at hring
     have b1:¬s.next=s1.next:=by omega
     (repeat' (first|refine qS ?_|((first|(refine w_e [] ?_;intro J hJ;simp only[])|(refine aL ?_));simp[hX1,b1];(try (refine hJ _ _ ?_;clear hJ J;simp only[ak,reduceIte])))))
     refine qE (Path ⟨g.vs,g.es.filter fun y=>decide (y≠⟨dx,ax,bx⟩)⟩ ax bx _ (fun _=>true) 1000 ring _ (by simp only;omega) hfl (fun x hx=>hg.ne x ((List.mem_filter.1 hx).1)) (by omega) (hmay _) hring) (by simp[grL]) ?_;rintro r s2 ⟨rfl,hk2⟩
     have hn2:=hk2.next
     simp only[aA]at hn2
     have hX2:s2.H s.next=.box 56 3 (edL ⟨dx,ax,bx⟩):=by rw[hk2.H _ (by simp;omega),aG,if_neg b1];exact hX1
     have hK2:aB s s2:=(hK1.trans (aB.new _ _)).trans hk2
     clear hk2
     (repeat' (first|refine qS ?_|((first|(refine w_e [] ?_;intro J hJ;simp only[])|(refine aL ?_));simp[];(try (refine hJ _ _ ?_;clear hJ J;simp only[ak,reduceIte])))))
     refine qE (aBe ring 0 _ (by omega)) (by simp) ?_;rintro r s3 ⟨q,rfl,q1,q2,hq,hk3⟩
     (repeat' (first|refine qS ?_|((first|(refine w_e [] ?_;intro J hJ;simp only[])|(refine aL ?_));simp[];(try (refine hJ _ _ ?_;clear hJ J;simp only[ak,reduceIte])))))
     refine qE (uO ring q s3 (by unfold small;omega) hq) (by simp) ?_;rintro r s4 e4
     have hK4:aB s s4:=by rw[e4];exact(hK2.trans hk3).set (by have:=hK2.next;omega) _
     have hn4:s4.next=s3.next:=by rw[e4];rfl
     have hn3:=hk3.next
     have hq4:s4.H q=.box 34 1 (us ring.reverse):=by rw[e4];simp
     have hX4:s4.H s.next=.box 56 3 (edL ⟨dx,ax,bx⟩):=by rw[e4,aE,if_neg (by omega),hk3.H _ (by omega)];exact hX2
     clear e4 hq hk3
     have hz:mk g.vs []=0:=(mk_zero g.vs []).2 fun _ _=>by simp
     have hSb4:s4.H S=.box 119 7 [.sl 0 g.vs.length (us g.vs),.sl 0 g.es.length (eds g.es),.ms nl 0 g.vs.length,.mp pl,.mp ll,wv (mk g.vs []),.nil]:=by rw[hz];exact(hK4.H S (by omega)).trans hSb
     have hN4:=(hK4.H nl (by omega)).trans hN
     have hP4:=(hK4.H pl (by omega)).trans hP
     have hL4:=(hK4.H ll (by omega)).trans hL
     have c1:¬pl=ll:=fun e=>by rw[e,hL]at hP;cases hP
     have c2:¬nl=ll:=fun e=>by rw[e,hL]at hN;cases hN
     have c3:¬nl=S:=fun e=>by rw[e,hSb]at hN;cases hN
     have c4:¬pl=S:=fun e=>by rw[e,hSb]at hP;cases hP
     have c5:¬ll=S:=fun e=>by rw[e,hSb]at hL;cases hL
     have c6:¬S=ll:=fun e=>c5 e.symm
     have hn5:=hK4.next
     (repeat' (first|refine qS ?_|((first|(refine w_e [] ?_;intro J hJ;simp only[])|(refine aL ?_));simp[f3];(try (refine hJ _ _ ?_;clear hJ J;simp only[ak,reduceIte])))))
     refine qE (aJK hSb4 hP4 hL4 (L:=[]) rfl c1 hn h64 ring 0 hrv (by omega)) (by simp) ?_;rintro r s5 ⟨le1,e5,hk5⟩
     rw[List.nil_append]at e5
     have n5:s5.next=s4.next:=by rw[e5];rfl
     have hSb5:s5.H S=.box 119 7 [.sl 0 g.vs.length (us g.vs),.sl 0 g.es.length (eds g.es),.ms nl 0 g.vs.length,.mp pl,.mp ll,wv (mk g.vs ring),.nil]:=by rw[e5];simp
     have hN5:s5.H nl=.box 116 1 (iU g):=by rw[e5];simp[c3,c2,hN4]
     have hP5:s5.H pl=.map false [.u32] (rI g.vs):=by rw[e5];simp[c4,c1,hP4]
     have hL5:s5.H ll=.map true [.u32,.u32] le1:=by rw[e5];simp[c5]
     have hq5:s5.H q=.box 34 1 (us ring.reverse):=by rw[e5];simp[show ¬q=S by omega,show ¬q=ll by omega,hq4]
     have hX5:s5.H s.next=.box 56 3 (edL ⟨dx,ax,bx⟩):=by rw[e5];simp[show ¬s.next=S by omega,show ¬s.next=ll by omega,hX4]
     have hK5:aB st s5:=by rw[e5];exact((hk.trans hK4).set (by omega) _).set (by omega) _
     clear e5 hSb4 hN4 hP4 hL4 hq4 hX4
     have hab:=hg.ends ⟨dx,ax,bx⟩ (by rw[hes];simp)
     simp only at hab
     have hv2:∀ v∈[ax,bx],v∈g.vs:=fun v hv=>by
      simp only[List.mem_cons,List.not_mem_nil,or_false]at hv
      rcases hv with e|e
      ·rw[e];exact hab.1
      ·rw[e];exact hab.2
     (repeat' (first|refine qS ?_|((first|(refine w_e [] ?_;intro J hJ;simp only[])|(refine aL ?_));simp[hX5,f3];(try (refine hJ _ _ ?_;clear hJ J;simp only[ak,reduceIte])))))
     have hk6:=aB.new s5 (.own 34 1 2)
     refine qE (aJK ((hk6.H S (by omega)).trans hSb5) ((hk6.H pl (by omega)).trans hP5) ((hk6.H ll (by omega)).trans hL5) hk5 c1 hn h64 [ax,bx] s5.next hv2 (by simp)) (by simp) ?_;rintro r s7 ⟨le2,e7,hk7⟩
     have n7:s7.next=s5.next+1:=by rw[e7];simp
     have hSb7:s7.H S=.box 119 7 [.sl 0 g.vs.length (us g.vs),.sl 0 g.es.length (eds g.es),.ms nl 0 g.vs.length,.mp pl,.mp ll,wv (mk g.vs (ring++[ax,bx])),.nil]:=by rw[e7];simp
     have d1:¬nl=s5.next:=by omega
     have d2:¬pl=s5.next:=by omega
     have d3:¬ll=s5.next:=by omega
     have hN7:s7.H nl=.box 116 1 (iU g):=by rw[e7];simp[c3,c2,d1,hN5]
     have hP7:s7.H pl=.map false [.u32] (rI g.vs):=by rw[e7];simp[c4,c1,d2,hP5]
     have hL7:s7.H ll=.map true [.u32,.u32] le2:=by rw[e7];simp[c5]
     have hq7:s7.H q=.box 34 1 (us ring.reverse):=by rw[e7];simp[show ¬q=S by omega,show ¬q=ll by omega,show ¬q=s5.next by omega,hq5]
     have hK7:aB st s7:=by rw[e7];exact((hK5.trans hk6).set (by omega) _).set (by omega) _
     clear e7 hSb5 hN5 hP5 hL5 hq5 hX5
     (refine aL ?_;simp[];(refine hJ _ _ ?_;clear hJ J;simp only[ak,reduceIte]))
     refine kY 11 (l:=q) (n:=ring.length) (by simp) hq7 (by simp) ?_
     have htk:(us ring.reverse).take (ring.length*1)=us ring.reverse:=by rw[List.take_of_length_le (by simp)]
     rw[htk]
     have hrv2:∀ v∈ring.reverse,v∈g.vs:=fun v hv=>hrv v (List.mem_reverse.1 hv)
     have hrl2:ring.length=ring.reverse.length:=by simp
     have e1:¬S=q:=by omega
     have hk8:aB st (s7.set q .dead):=hK7.set (by omega) _
     have n8:(s7.set q .dead).next=s7.next:=rfl
     have hSb8:(s7.set q .dead).H S=.box 119 7 [.sl 0 g.vs.length (us g.vs),.sl 0 g.es.length (eds g.es),.ms nl 0 g.vs.length,.mp pl,.mp ll,wv (mk g.vs (ring++[ax,bx])),.nil]:=by rw[aE,if_neg e1];exact hSb7
     have hN8:(s7.set q .dead).H nl=.box 116 1 (iU g):=by rw[aE,if_neg (by omega)];exact hN7
     have hP8:(s7.set q .dead).H pl=.map false [.u32] (rI g.vs):=by rw[aE,if_neg (by omega)];exact hP7
     have hL8:(s7.set q .dead).H ll=.map true [.u32,.u32] le2:=by rw[aE,if_neg (by omega)];exact hL7
     generalize s7.set q .dead=s8 at *
     have hB8:ShB g.vs S pl s8:=⟨⟨_,_,_,_,_,_,hSb8⟩,hP8⟩
     have hFa:=fun(l:List Int) (hl:∀ v∈l,v∈g.vs) (hll:l.length≤1048576)=>aIx hB8 (by omega) (by omega) hn h64 l 0 hl hll
     have hF2:=hFa ring.reverse hrv2 (by simp;omega)
     rw[← hrl2]at hF2
     (repeat (refine qS ?_))
     (refine w_e [116] ?_;intro J hJ;simp only[];simp[f3])
     refine qE (hFa ring hrv (by omega)) (by simp) ?_;rintro r s9 ⟨rfl,e9⟩
     rw[e9];clear e9 s9
     (refine aL ?_;simp[f3])
     refine qE hF2 (by simp) ?_;rintro r s9 ⟨rfl,e9⟩
     rw[e9];clear e9 s9
     have z1:¬S=s8.next:=by omega
     (repeat' (first|refine qS ?_|(refine qR ?_;simp only[ak,reduceIte];simp[hSb8,z1,f3])|((first|(refine w_e [] ?_;intro J hJ;simp only[])|(refine aL ?_));simp[hSb8,z1,f3];(refine hJ _ _ ?_;clear hJ J;simp only[ak,reduceIte]))))
     have hfac:[LV.sl 0 ring.length (us ring),wv (mk g.vs ring),LV.sl 0 ring.length (List.map u ring).reverse,wv (mk g.vs ring.reverse)]=eN g.vs [ring,ring.reverse]:=by simp[eN]
     rw[hfac]
     refine⟨nl,pl,ll,s8.next,⟨le2,⟨⟨by simp,?_,?_,?_,hk7,?_⟩,?_,?_,?_,?_,by simp⟩⟩,⟨by omega,by omega,by have:=hk8.next;omega⟩,(hk8.trans (aB.new _ _)).set (by omega) _⟩
     ·(repeat (first|rw[aG,if_neg (α:=aD) (by(try simp only[aC,aA]);omega)]|rw[aE,if_neg (α:=aD) (by omega)]|rw[aG,if_pos (α:=aD) (by(try simp only[aC,aA]))]|rw[aE,if_pos (α:=aD) (by omega)]));exact hN8
     ·(repeat (first|rw[aG,if_neg (α:=aD) (by(try simp only[aC,aA]);omega)]|rw[aE,if_neg (α:=aD) (by omega)]|rw[aG,if_pos (α:=aD) (by(try simp only[aC,aA]))]|rw[aE,if_pos (α:=aD) (by omega)]));exact hP8
     ·(repeat (first|rw[aG,if_neg (α:=aD) (by(try simp only[aC,aA]);omega)]|rw[aE,if_neg (α:=aD) (by omega)]|rw[aG,if_pos (α:=aD) (by(try simp only[aC,aA]))]|rw[aE,if_pos (α:=aD) (by omega)]));exact hL8
     ·simp only[aC,aA];omega
     ·(repeat (first|rw[aG,if_neg (α:=aD) (by(try simp only[aC,aA]);omega)]|rw[aE,if_neg (α:=aD) (by omega)]|rw[aG,if_pos (α:=aD) (by(try simp only[aC,aA]))]|rw[aE,if_pos (α:=aD) (by omega)]))
     ·simp only[aC,aA];omega
     ·intro r hr v hv
      simp only[List.mem_cons,List.not_mem_nil,or_false]at hr
      rcases hr with e|e
      ·rw[e]at hv;exact hrv v hv
      ·rw[e]at hv;exact hrv2 v hv
     ·intro v hv
      rw[List.mem_append]at hv
      exact hv.elim (hrv v) (hv2 v)
theorem aBc(x:Int)(st:St):aF Tryz.prog 107 [u x] st fun r st'=>r=u x∧aB st st':=by
 refine qO aK Tryz.func107 rfl rfl Tryz.ntmps107 (rs:=[.tmp 2]) rfl (by simp) ?_
 (repeat' (first|refine qS ?_|(refine qR ?_;simp only[ak,reduceIte];simp[])|(refine w_e [] ?_;intro J hJ;simp only[];simp[];(refine hJ _ _ ?_;clear hJ J;simp only[ak,reduceIte]))))
 exact aB.refl _
theorem aBG(x:Ed)(st:St):aF Tryz.prog 109 [.ag (edL x)] st fun r st'=>r=u x.id∧aB st st':=by
 obtain⟨d,a,b⟩:=x
 refine qO aK Tryz.func109 rfl rfl Tryz.ntmps109 (rs:=[.tmp 2]) rfl (by simp) ?_
 (repeat' (first|refine qS ?_|(refine qR ?_;simp only[ak,reduceIte];simp[])|(refine w_e [] ?_;intro J hJ;simp only[];simp[];(refine hJ _ _ ?_;clear hJ J;simp only[ak,reduceIte]))))
 exact aB.new _ _
@[simp] def aJN(fn:FuncId):aD:=.box 140 1 [.fn (.func fn) []]
@[simp] def wY(fn:FuncId):aD:=.box 148 1 [.fn (.func fn) []]
def PcU(b:Nat)(st:St):Prop:=b<st.next∧st.H b=aJN 107
def PcE(b:Nat)(st:St):Prop:=b<st.next∧st.H b=wY 109
theorem aIG(b:Nat)(x y:Int)(st:St)(h:PcU b st):aF Tryz.prog 156 [u x,u y,.pt b 0] st fun r st'=>r=i (U.rS x y)∧aB st st':=by
 obtain⟨hb,hH⟩:=h
 simp only[aJN]at hH
 refine qO aK Tryz.func156 rfl rfl Tryz.ntmps156 (rs:=[.tmp 5]) rfl (by simp) ?_
 (repeat' (first|refine qS ?_|(refine w_e [] ?_;intro J hJ;simp only[];simp[];(refine hJ _ _ ?_;clear hJ J;simp only[ak,reduceIte]))))
 (refine w_s [] [b] [(0,true),(1,true),(3,true),(4,true),(2,true),(5,true),(6,true),(7,true)] ?_;intro J hJ;simp[hH])
 refine bF (aBc x st) ?_;rintro r s1 ⟨rfl,hk1⟩
 have hH1:=(hk1.H b hb).trans hH
 refine⟨fun _=>by simp[hH1,hH],?_⟩
 (refine bN ?_;simp[hH1,hH])
 refine bF (aBc y s1) ?_;rintro r s2 ⟨rfl,hk2⟩
 have hH2:=(hk2.H b (Nat.lt_of_lt_of_le hb hk1.next)).trans hH1
 refine⟨fun _=>by simp[hH2,hH],?_⟩
 (refine bN ?_;simp[hH2,hH])
 refine bF (aFP x y s2) ?_;rintro r s3 ⟨rfl,rfl⟩
 refine⟨fun _=>by simp[hH2,hH],?_⟩
 (refine bN ?_;simp[hH2,hH];(refine hJ _ _ ?_;clear hJ J;simp only[ak,reduceIte]))
 (repeat' (refine qR ?_;simp only[ak,reduceIte];simp[U.rS]))
 exact hk1.trans hk2
theorem aIg(b:Nat)(x y:Int)(st:St)(h:PcU b st):aF Tryz.prog 158 [u x,u y,.pt b 0] st fun r st'=>r=bb (decide (x=y))∧aB st st':=by
 obtain⟨hb,hH⟩:=h
 simp only[aJN]at hH
 refine qO aK Tryz.func158 rfl rfl Tryz.ntmps158 (rs:=[.tmp 5]) rfl (by simp) ?_
 (repeat' (first|refine qS ?_|(refine w_e [] ?_;intro J hJ;simp only[];simp[];(refine hJ _ _ ?_;clear hJ J;simp only[ak,reduceIte]))))
 (refine w_s [] [b] [(0,true),(1,true),(3,true),(4,true),(2,true),(5,true),(6,true),(7,true)] ?_;intro J hJ;simp[hH])
 refine bF (aBc x st) ?_;rintro r s1 ⟨rfl,hk1⟩
 have hH1:=(hk1.H b hb).trans hH
 refine⟨fun _=>by simp[hH1,hH],?_⟩
 (refine bN ?_;simp[hH1,hH])
 refine bF (aBc y s1) ?_;rintro r s2 ⟨rfl,hk2⟩
 have hH2:=(hk2.H b (Nat.lt_of_lt_of_le hb hk1.next)).trans hH1
 refine⟨fun _=>by simp[hH2,hH],?_⟩
 (refine bN ?_;simp[hH2,hH];(refine hJ _ _ ?_;clear hJ J;simp only[ak,reduceIte]))
 (repeat' (refine qR ?_;simp only[ak,reduceIte];simp[]))
 exact⟨by by_cases h:x=y<;>simp[h],hk1.trans hk2⟩
theorem aHu(b:Nat)(x y:Ed)(st:St)(h:PcE b st):aF Tryz.prog 160 [.ag (edL x),.ag (edL y),.pt b 0] st fun r st'=>r=i (rS x y)∧aB st st':=by
 obtain⟨hb,hH⟩:=h
 obtain⟨xi,xa,xb⟩:=x
 obtain⟨yi,ya,yb⟩:=y
 simp only[wY]at hH
 have b1:¬b=st.next:=by omega
 have b2:¬b=st.next+1:=by omega
 refine qO aK Tryz.func160 rfl rfl Tryz.ntmps160 (rs:=[.tmp 5]) rfl (by simp) ?_
 (repeat' (first|refine qS ?_|(refine w_e [] ?_;intro J hJ;simp only[];simp[];(refine hJ _ _ ?_;clear hJ J;simp only[ak,reduceIte]))))
 (refine w_s [] [b,st.next,st.next+1] [(0,true),(1,true),(3,true),(4,true),(2,true),(5,true),(6,true),(7,true)] ?_;intro J hJ;simp[hH,b1,b2])
 refine bF (aBG ⟨xi,xa,xb⟩ _) ?_;rintro r s1 ⟨rfl,hk1⟩
 have hn1:=hk1.next
 simp only[aA]at hn1
 have hH1:s1.H b=wY 109:=by rw[hk1.H b (by simp;omega)];simp[b1,b2,hH]
 have hX1:s1.H st.next=.box 56 3 [u xi,u xa,u xb]:=by rw[hk1.H _ (by simp;omega)];simp
 have hY1:s1.H (st.next+1)=.box 56 3 [u yi,u ya,u yb]:=by rw[hk1.H _ (by simp)];simp
 simp only[wY]at hH1
 refine⟨fun _=>by simp[hH1,hH,hX1,hY1,b1,b2],?_⟩
 (refine bN ?_;simp[hH1,hH,hX1,hY1])
 refine bF (aBG ⟨yi,ya,yb⟩ s1) ?_;rintro r s2 ⟨rfl,hk2⟩
 have hH2:=(hk2.H b (by omega)).trans hH1
 have hX2:=(hk2.H st.next (by omega)).trans hX1
 have hY2:=(hk2.H (st.next+1) (by omega)).trans hY1
 refine⟨fun _=>by simp[hH2,hH,hX2,hY2,b1,b2],?_⟩
 (refine bN ?_;simp[hH2,hH,hX2,hY2])
 refine bF (aFP xi yi s2) ?_;rintro r s3 ⟨rfl,rfl⟩
 refine⟨fun _=>by simp[hH2,hH,hX2,hY2,b1,b2],?_⟩
 (refine bN ?_;simp[hH2,hH,hX2,hY2];(refine hJ _ _ ?_;clear hJ J;simp only[ak,reduceIte]))
 (repeat' (refine qR ?_;simp only[ak,reduceIte];simp[rS]))
 exact(((aB.new _ _).trans (aB.new _ _)).trans hk1).trans hk2
theorem aGC(b:Nat)(x y:Ed)(st:St)(h:PcE b st):aF Tryz.prog 162 [.ag (edL x),.ag (edL y),.pt b 0] st fun r st'=>r=bb (decide (x.id=y.id))∧aB st st':=by
 obtain⟨hb,hH⟩:=h
 obtain⟨xi,xa,xb⟩:=x
 obtain⟨yi,ya,yb⟩:=y
 simp only[wY]at hH
 have b1:¬b=st.next:=by omega
 have b2:¬b=st.next+1:=by omega
 refine qO aK Tryz.func162 rfl rfl Tryz.ntmps162 (rs:=[.tmp 5]) rfl (by simp) ?_
 (repeat' (first|refine qS ?_|(refine w_e [] ?_;intro J hJ;simp only[];simp[];(refine hJ _ _ ?_;clear hJ J;simp only[ak,reduceIte]))))
 (refine w_s [] [b,st.next,st.next+1] [(0,true),(1,true),(3,true),(4,true),(2,true),(5,true),(6,true),(7,true)] ?_;intro J hJ;simp[hH,b1,b2])
 refine bF (aBG ⟨xi,xa,xb⟩ _) ?_;rintro r s1 ⟨rfl,hk1⟩
 have hn1:=hk1.next
 simp only[aA]at hn1
 have hH1:s1.H b=wY 109:=by rw[hk1.H b (by simp;omega)];simp[b1,b2,hH]
 have hX1:s1.H st.next=.box 56 3 [u xi,u xa,u xb]:=by rw[hk1.H _ (by simp;omega)];simp
 have hY1:s1.H (st.next+1)=.box 56 3 [u yi,u ya,u yb]:=by rw[hk1.H _ (by simp)];simp
 simp only[wY]at hH1
 refine⟨fun _=>by simp[hH1,hH,hX1,hY1,b1,b2],?_⟩
 (refine bN ?_;simp[hH1,hH,hX1,hY1])
 refine bF (aBG ⟨yi,ya,yb⟩ s1) ?_;rintro r s2 ⟨rfl,hk2⟩
 have hH2:=(hk2.H b (by omega)).trans hH1
 have hX2:=(hk2.H st.next (by omega)).trans hX1
 have hY2:=(hk2.H (st.next+1) (by omega)).trans hY1
 refine⟨fun _=>by simp[hH2,hH,hX2,hY2,b1,b2],?_⟩
 (refine bN ?_;simp[hH2,hH,hX2,hY2];(refine hJ _ _ ?_;clear hJ J;simp only[ak,reduceIte]))
 (repeat' (refine qR ?_;simp only[ak,reduceIte];simp[]))
 exact⟨by by_cases h:xi=yi<;>simp[h],(((aB.new _ _).trans (aB.new _ _)).trans hk1).trans hk2⟩
theorem aMT(b q:Nat)(hbq:b≠q):U.lO 156 [.pt b 0] q (PcU b):=
 ⟨fun st st' h hof=>⟨Nat.lt_of_lt_of_le h.1 hof.1,(hof.2 b hbq h.1).trans h.2⟩,fun st x y h=>aIG b x y st h⟩
theorem aOH(b q:Nat)(hbq:b≠q):lO 160 [.pt b 0] q (PcE b):=
 ⟨fun st st' h hof=>⟨Nat.lt_of_lt_of_le h.1 hof.1,(hof.2 b hbq h.1).trans h.2⟩,fun st x y h=>aHu b x y st h⟩
theorem eqU(b:Nat):aMQ 158 [.pt b 0] (PcU b):=
 ⟨fun st st' h hk=>⟨Nat.lt_of_lt_of_le h.1 hk.next,(hk.H b h.1).trans h.2⟩,fun st x y h=>aIg b x y st h⟩
theorem eqE(b:Nat):aMD 162 [.pt b 0] (PcE b):=
 ⟨fun st st' h hk=>⟨Nat.lt_of_lt_of_le h.1 hk.next,(hk.H b h.1).trans h.2⟩,fun st x y h=>aGC b x y st h⟩
theorem aMc(D0:List Int)(q:Nat)(fid:FuncId)(caps:List LV)(Pc:St→Prop)(st:St)(hcmp:U.lO fid caps q Pc)(hPc:Pc st)(hq:q<st.next)(hl:D0.length≤20)(hH:st.H q=.box 34 1 (us D0)):
 aF Tryz.prog 155 [.ms q 0 D0.length,.fn (.func fid) caps] st fun r st'=>∃ D,D.Perm D0∧U.Ris D∧st'.H q=.box 34 1 (us D)∧bQ q st st':=by
 have hc:=U.aED D0 q _ fid caps Pc st hcmp hPc hq rfl hl hH
 refine qO aK Tryz.func155 rfl rfl Tryz.ntmps155 (rs:=[]) rfl (by simp) ?_
 (repeat' (refine w_e [] ?_;intro J hJ;simp only[];simp[]))
 refine qE hc (by simp) ?_;rintro r s1 h
 (repeat' (refine aL ?_;simp[];(refine hJ _ _ ?_;clear hJ J;simp only[ak,reduceIte])))
 exact⟨trivial,h⟩
theorem aKO(D0:List Ed)(q:Nat)(fid:FuncId)(caps:List LV)(Pc:St→Prop)(st:St)(hcmp:lO fid caps q Pc)(hPc:Pc st)(hq:q<st.next)(hl:D0.length≤20)(hH:st.H q=.box 56 3 (eds D0)):
 aF Tryz.prog 159 [.ms q 0 D0.length,.fn (.func fid) caps] st fun r st'=>∃ D,D.Perm D0∧Ris D∧st'.H q=.box 56 3 (eds D)∧bQ q st st':=by
 have hc:=aED D0 q _ fid caps Pc st hcmp hPc hq rfl hl hH
 refine qO aK Tryz.func159 rfl rfl Tryz.ntmps159 (rs:=[]) rfl (by simp) ?_
 (repeat' (refine w_e [] ?_;intro J hJ;simp only[];simp[]))
 refine qE hc (by simp) ?_;rintro r s1 h
 (repeat' (refine aL ?_;simp[];(refine hJ _ _ ?_;clear hJ J;simp only[ak,reduceIte])))
 exact⟨trivial,h⟩
theorem aLE(l:List Ed)(t:Nat)(st:St)(hl:l.length≤20)(hn:(l.map (·.id)).Nodup):
 aF Tryz.prog 108 [.sl t l.length (eds l),.fn (.func 109) []] st fun r st'=>(∃ E:List Ed,E.Perm l∧(E.map (·.id)).Pairwise (· < ·)∧r=.sl 0 E.length (eds E))∧aB st st':=by
 refine bV ?_
 have hel:=aO l
 refine qO aK Tryz.func108 rfl rfl Tryz.ntmps108 (rs:=[.tmp 4]) rfl (by simp) ?_
 (repeat' (first|refine qS ?_|(refine w_e [] ?_;intro J hJ;simp only[];simp[];(try (refine hJ _ _ ?_;clear hJ J;simp only[ak,reduceIte])))))
 refine qE (aLf l t _ (by omega)) (by simp) ?_;rintro r s1 ⟨q,rfl,hq1,hq2,hB1,hk1⟩
 have hn1:=hk1.next
 simp only[aA]at hn1 hq1
 have hF1:PcE st.next s1:=⟨by omega,by rw[hk1.H _ (by simp)];simp⟩
 have k1:aB st s1:=(aB.new _ _).trans hk1
 (repeat' (first|refine qS ?_|((first|(refine w_e [] ?_;intro J hJ;simp only[])|(refine aL ?_));simp[];(try (refine hJ _ _ ?_;clear hJ J;simp only[ak,reduceIte])))))
 refine qE (aKO l q _ [.pt st.next 0] (PcE st.next) s1 (aOH st.next q (by omega)) hF1 hq2 (by omega) hB1) (by simp) ?_;rintro r s2 ⟨D,hp,hr,hB2,hof⟩
 have hn2:=hof.1
 have lD:=hp.length_eq
 have hF2:=(aOH st.next q (by omega)).keep _ _ hF1 hof
 have k2:aB st s2:=⟨by have:=k1.next;omega,fun l hl=>(hof.2 l (by omega) (by have:=k1.next;omega)).trans (k1.H l hl)⟩
 have hlt:(D.map (·.id)).Pairwise (· < ·):=by
  have hnd:(D.map (·.id)).Nodup:=(hp.map (·.id)).nodup_iff.2 hn
  have hr2:(D.map (·.id)).Pairwise (·≤·):=by rw[List.pairwise_map];exact hr
  refine(List.Pairwise.and hr2 hnd).imp fun h=>?_
  have:=h.1
  have:=h.2
  omega
 have hne:∀ j,j+1<D.length→(D.getD (j+1) ed0).id≠(D.getD j ed0).id:=fun j hj=>by
  have:=List.pairwise_iff_getElem.1 hlt j (j+1) (by simp;omega) (by simpa using hj) (by omega)
  simp only[List.getElem_map]at this
  rw[List.getD_eq_getElem?_getD,List.getD_eq_getElem?_getD,List.getElem?_eq_getElem hj,List.getElem?_eq_getElem (by omega:j<D.length)]
  simp only[Option.getD_some];omega
 (repeat' (first|refine qS ?_|((first|(refine w_e [] ?_;intro J hJ;simp only[])|(refine aL ?_));simp[];(try (refine hJ _ _ ?_;clear hJ J;simp only[ak,reduceIte])))))
 refine qE (aJB D q _ [.pt st.next 0] (PcE st.next) s2 (eqE st.next) hF2 (by omega) hne (by omega) hB2) (by simp[lD]) ?_;rintro r s3 ⟨rfl,hk3⟩
 have hB3:=(hk3.H q (by omega)).trans hB2
 have helD:=aO D
 (repeat' (first|(refine qR ?_;simp only[ak,reduceIte];simp[])|(refine aL ?_;simp[];(refine hJ _ _ ?_;clear hJ J;simp only[ak,reduceIte]))))
 exact⟨q,D.length,⟨rfl,rfl⟩,56,3,eds D,hB3,by omega,⟨D,hp,hlt,rfl,by rw[List.take_of_length_le (by omega)]⟩,(k2.trans hk3).set (by omega) _⟩
end Go.Proofs.YtempldclppogmaaGreatDoor.Aw
namespace Go.Proofs.YtempldclppogmaaGreatDoor.Aw.Cu
open Go Go.RowKit Go.Proofs.YtempldclppogmaaGreatDoor.Pl Go.Proofs.YtempldclppogmaaGreatDoor.Aw
def nY(c:List Int):Nat→List Int
 |0=>[]
 |k+1=>if k=0∨c.getD k 0≠c.getD (k-1) 0 then nY c k++[c.getD k 0]else nY c k
structure Rsn(c:List Int)(k:Nat)(l:List Int):Prop where
 lt:l.Pairwise (· < ·)
 mem:∀ y,y∈l↔∃ j,j<k∧c.getD j 0=y
theorem vU{c:List Int}(h:c.Pairwise (·≤·)):∀ k,k≤c.length→Rsn c k (nY c k)
 |0,_=>⟨.nil,fun y=>by simp[nY]⟩
 |k+1,hk=>by
  have ih:=vU h k (by omega)
  have hle:∀ j,j<k→c.getD j 0≤c.getD (k-1) 0:=fun j hj=>by
   rcases Nat.lt_or_ge j (k-1)with h1|h1
   ·rw[List.getD_eq_getElem?_getD,List.getElem?_eq_getElem (by omega),List.getD_eq_getElem?_getD,List.getElem?_eq_getElem (by omega)]
    exact List.pairwise_iff_getElem.1 h j (k-1) (by omega) (by omega) h1
   ·obtain rfl:j=k-1:=by omega
    exact Int.le_refl _
  have hle2:0<k→c.getD (k-1) 0≤c.getD k 0:=fun h0=>by
   rw[List.getD_eq_getElem?_getD,List.getElem?_eq_getElem (by omega),List.getD_eq_getElem?_getD,List.getElem?_eq_getElem (by omega)]
   exact List.pairwise_iff_getElem.1 h (k-1) k (by omega) (by omega) (by omega)
  unfold nY
  split
  ·rename_i h0
   refine⟨?_,fun y=>?_⟩
   ·rw[List.pairwise_append]
    refine⟨ih.lt,List.pairwise_singleton _ _,fun a ha b hb=>?_⟩
    rw[List.mem_singleton]at hb
    subst hb
    obtain⟨j,hj,rfl⟩:=(ih.mem a).1 ha
    have:=hle j hj
    have:=hle2 (by omega)
    rcases h0 with h0|h0
    ·omega
    ·omega
   ·rw[List.mem_append,List.mem_singleton,ih.mem]
    constructor
    ·rintro(⟨j,hj,rfl⟩|rfl)
     ·exact⟨j,by omega,rfl⟩
     ·exact⟨k,by omega,rfl⟩
    ·rintro⟨j,hj,rfl⟩
     rcases Nat.lt_or_ge j k with h1|h1
     ·exact .inl ⟨j,h1,rfl⟩
     ·obtain rfl:j=k:=by omega
      exact .inr rfl
  ·rename_i h0
   refine⟨ih.lt,fun y=>?_⟩
   rw[ih.mem]
   constructor
   ·rintro⟨j,hj,rfl⟩
    exact⟨j,by omega,rfl⟩
   ·rintro⟨j,hj,rfl⟩
    rcases Nat.lt_or_ge j k with h1|h1
    ·exact⟨j,h1,rfl⟩
    ·obtain rfl:j=k:=by omega
     exact⟨j-1,by omega,by omega⟩
def cpt(c:List Int):List Int:=nY c c.length
theorem aMW{c:List Int}(h:c.Pairwise (·≤·)):(cpt c).Pairwise (· < ·):=(vU h _ (Nat.le_refl _)).lt
theorem aLI{c:List Int}(h:c.Pairwise (·≤·))(y:Int):y∈cpt c↔y∈c:=by
 unfold cpt
 rw[(vU h _ (Nat.le_refl _)).mem]
 constructor
 ·rintro⟨j,hj,rfl⟩
  rw[List.getD_eq_getElem?_getD,List.getElem?_eq_getElem hj]
  exact List.getElem_mem _
 ·intro hy
  obtain⟨j,hj,rfl⟩:=List.getElem_of_mem hy
  exact⟨j,hj,by rw[List.getD_eq_getElem?_getD,List.getElem?_eq_getElem hj];rfl⟩
theorem uQ(c:List Int):∀ k,k≤c.length→(∀ j,0<j→j<k→c.getD j 0≠c.getD (j-1) 0)→nY c k=c.take k
 |0,_,_=>rfl
 |k+1,hk,h=>by
  have ih:=uQ c k (by omega) fun j h1 h2=>h j h1 (by omega)
  have hg:c.take (k+1)=c.take k++[c.getD k 0]:=by
   rw[List.getD_eq_getElem?_getD,List.getElem?_eq_getElem (by omega)]
   exact List.take_succ_eq_append_getElem (by omega)
  unfold nY
  rw[if_pos,ih,hg]
  rcases Nat.eq_zero_or_pos k with h0|h0
  ·exact .inl h0
  ·exact .inr (h k h0 (by omega))
theorem aHo(c:List Int)(h:c.length<2):cpt c=c:=by
 unfold cpt
 rw[uQ c c.length (Nat.le_refl _) fun j h1 h2=>by omega,List.take_length]
set_option maxHeartbeats 2000000 in
theorem aIk(c:List Int)(q:Nat)(fid:FuncId)(caps:List LV)(Pc:St→Prop)(st:St)(heq:aMQ fid caps Pc)(hkp:∀ s s',Pc s→bQ q s s'→Pc s')(hPc:Pc st)(hl:c.length≤100000)(hq:q<st.next)(hH:st.H q=.box 34 1 (us c)):
 aF Tryz.prog 157 [.ms q 0 c.length,.fn (.func fid) caps] st fun r st'=>r=.ms q 0 (cpt c).length∧(∃ cs,st'.H q=.box 34 1 (us (cpt c)++cs))∧bQ q st st':=by
 refine qO aK Tryz.func157 rfl rfl Tryz.ntmps157 (rs:=[.tmp 4]) rfl (by simp) ?_
 by_cases h2:c.length<2
 ·have h2':(c.length:Int)<2:=by omega
  have hc:=aHo c h2
  rw[hc]
  (repeat' (first|refine qS ?_|(refine qR ?_;simp only[ak,reduceIte];simp[h2',h2])|(refine qC ?_;simp[h2',h2])|(refine w_e [] ?_;intro J hJ;simp only[];simp[h2',h2];(refine hJ _ _ ?_;clear hJ J;simp only[ak,reduceIte]))))
  exact⟨⟨[],by rw[hH,List.append_nil]⟩,bQ.refl _ _⟩
 have h2':¬(c.length:Int)<2:=by omega
 (repeat' (first|refine qS ?_|refine qB ?_|(refine qK ?_;simp only[ak,reduceIte])|(refine qC ?_;simp[h2',h2])|(refine w_e [] ?_;intro J hJ;simp only[];simp[h2',h2];(refine hJ _ _ ?_;clear hJ J;simp only[ak,reduceIte]))))
 refine qL (fun z fr st2=>∃ k:Nat,0<k∧k≤c.length∧z=c.length-k∧fr 0=.ms q 0 c.length∧fr 1=.fn (.func fid) caps∧fr 5=i k∧aB st st2∧∀ j,0<j→j<k→c.getD j 0≠c.getD (j-1) 0) (c.length-1) ?_ ?_
 ·exact⟨1,by omega,by omega,rfl,by simp,by simp,by simp,aB.refl _,fun j h1 h2=>by omega⟩
 rintro z fr st2 ⟨k,hk0,hkl,rfl,f0,f1,f5,hks,hno⟩ JJ hJJ
 by_cases hlt:k<c.length
 rotate_left
 ·clear hJJ
  have hc:cpt c=c:=by
   unfold cpt
   rw[uQ c c.length (Nat.le_refl _) fun j h1 h2=>hno j h1 (by omega),List.take_length]
  rw[hc]
  (repeat' (first|refine qS ?_|(refine qX ?_;simp only[ak,reduceIte])|(refine qR ?_;simp only[ak,reduceIte];simp[f0,f5,hlt])|(refine qC ?_;simp[f0,f5,hlt])|(refine w_e [] ?_;intro J hJ;simp only[];simp[f0,f5,hlt];(refine hJ _ _ ?_;clear hJ J;simp only[ak,reduceIte]))))
  exact⟨⟨[],by rw[hks.H q hq,hH,List.append_nil]⟩,(bQ.refl q st).keeps hks⟩
 obtain⟨k1,rfl⟩:∃ k1,k=k1+1:=⟨k-1,by omega⟩
 have hd:=qG c (k1+1) hlt
 have hd1:=qG c k1 (by omega)
 have w1:IntKind.i64.wrap (k1:Int)=(k1:Int):=wrap_i64 _ (by omega) (by omega)
 have w2':IntKind.i64.wrap ((k1:Int)+1+1)=(k1:Int)+1+1:=wrap_i64 _ (by omega) (by omega)
 have hkl1:k1<c.length:=by omega
 have hlt':(k1:Int)+1<c.length:=by omega
 have hnx:c.getD (k1+1) 0≠c.getD k1 0→∀ j,0<j→j<k1+1+1→c.getD j 0≠c.getD (j-1) 0:=fun h j h1 h3=>by
  rcases Nat.lt_or_ge j (k1+1)with h4|h4
  ·exact hno j h1 h4
  ·obtain rfl:j=k1+1:=by omega
   exact h
 have hid:=uQ c (k1+1) (by omega) hno
 have hcs:c.getD (k1+1) 0=c.getD k1 0→nY c (k1+1+1)=c.take (k1+1):=fun h=>by
  rw[nY,if_neg,hid]
  rintro(h3|h3)
  ·omega
  ·exact h3 h
 have hH2:=(hks.H q hq).trans hH
 have hPc2:=heq.1 _ _ hPc hks
 have hc:=heq.2 st2 (c.getD (k1+1) 0) (c.getD k1 0) hPc2
 generalize hx:c.getD (k1+1) 0=x at *
 generalize hy:c.getD k1 0=y at *
 (repeat' (first|refine qS ?_|refine qB ?_|(refine qK ?_;simp only[ak,reduceIte])|(refine qC ?_;simp[f0,f5,hlt,hlt'])|(refine w_e [] ?_;intro J hJ;simp only[];simp[f0,f5,hlt,hlt'];(refine hJ _ _ ?_;clear hJ J;simp only[ak,reduceIte]))))
 (refine w_s [] [q] [(0,true),(1,true),(2,true),(3,true),(4,true),(5,true),(6,true),(7,true),(8,true),(9,true),(10,false)] ?_;intro J hJ;simp[f0,f1,f5,hlt,hlt',hd,hd1,w1,hkl1,hH2];(repeat refine ca ?_))
 refine bF hc ?_;rintro r s3 ⟨rfl,hk3⟩
 have hH3:=(hk3.H q (Nat.lt_of_lt_of_le hq hks.next)).trans hH2
 have hPc3:=heq.1 _ _ hPc2 hk3
 have hk13:=hks.trans hk3
 refine⟨fun _=>by simp[hH3,hH2],?_⟩
 (refine bN ?_;simp[hH3,hH2];(refine hJ _ _ ?_;clear hJ J;simp only[ak,reduceIte]))
 by_cases hxy:x=y
 rotate_left
 ·(repeat' (first|(refine qK ?_;simp only[ak,reduceIte])|(refine qC ?_;simp[f5,w2',hxy])|(refine w_e [] ?_;intro J hJ;simp only[];simp[f5,w2',hxy];(refine hJ _ _ ?_;clear hJ J;simp only[ak,reduceIte]))))
  exact hJJ (c.length-(k1+1+1)) _ _ (by omega) ⟨k1+1+1,by omega,by omega,rfl,by simp[f0],by simp[f1],by simp,hk13,hnx hxy⟩
 clear hJJ hnx
 have hcs:=hcs hxy
 clear w2' hid hno hc
 (repeat' (first|refine qS ?_|refine qB ?_|(refine qC ?_;simp[f0,f5,hlt,hlt',hd,hd1,w1,hkl1,hxy,hH3])|(refine w_e [] ?_;intro J hJ;simp only[];simp[f0,f5,hlt,hlt',hd,hd1,w1,hkl1,hxy,hH3];(repeat refine ca ?_);(refine hJ _ _ ?_;clear hJ J;simp only[ak,reduceIte]))))
 refine qL (fun z fr s=>∃(p w:Nat) (d:List Int),k1+1+(p+1)≤c.length∧z=c.length-(k1+1+(p+1))∧w=(nY c (k1+1+(p+1))).length∧w≤k1+1+p∧fr 0=.ms q 0 c.length∧fr 1=.fn (.func fid) caps∧fr 5=i w∧fr 6=.ms q (k1+1) (c.length-(k1+1))∧fr 7=i (p+1:Nat)∧d.length=c.length∧d.take w=nY c (k1+1+(p+1))∧d.drop (k1+1+p)=c.drop (k1+1+p)∧s.H q=.box 34 1 (us d)∧Pc s∧bQ q st s) (c.length-(k1+1+1)) ?_ ?_
 ·refine⟨0,k1+1,c,by omega,by omega,by rw[hcs];simp;omega,by omega,by simp[f0],by simp[f1],by simp[f5],by simp,by simp,rfl,hcs.symm,rfl,hH3,hPc3,(bQ.refl q st).keeps hk13⟩
 clear hd hd1 w1 hlt' hx hy hxy hcs f0 f1 f5 fr hH3 hPc3 hk13 hk3 hH2 hPc2 hks s3 st2
 rintro z fr s ⟨p,w,d,hpl,rfl,hw,hwl,f0,f1,f5,f6,f7,hdl,hdt,hdd,hsH,hPs,hof⟩ JJ hJJ
 by_cases hlp:k1+1+(p+1)<c.length
 ·have e1:∀ j,k1+1+p≤j→d.getD j 0=c.getD j 0:=fun j hj=>by
   have h1:(d.drop (k1+1+p)).getD (j-(k1+1+p)) 0=(c.drop (k1+1+p)).getD (j-(k1+1+p)) 0:=by rw[hdd]
   simp only[List.getD_eq_getElem?_getD,List.getElem?_drop]at h1 ⊢
   rw[show k1+1+p+(j-(k1+1+p))=j by omega]at h1
   exact h1
  have hd:=qG d (k1+1+(p+1)) (by omega)
  have hd1:=qG d (k1+1+p) (by omega)
  rw[e1 _ (by omega)]at hd
  rw[e1 _ (by omega)]at hd1
  have hstep:nY c (k1+1+(p+1)+1)=if c.getD (k1+1+(p+1)) 0≠c.getD (k1+1+p) 0 then nY c (k1+1+(p+1))++[c.getD (k1+1+(p+1)) 0]else nY c (k1+1+(p+1)):=by
   rw[nY,show k1+1+(p+1)-1=k1+1+p by omega]
   by_cases h:c.getD (k1+1+(p+1)) 0≠c.getD (k1+1+p) 0
   ·rw[if_pos (.inr h),if_pos h]
   ·rw[if_neg (by rintro(h1|h1);omega;exact h h1),if_neg h]
  have hdd2:d.drop (k1+1+(p+1))=c.drop (k1+1+(p+1)):=by
   have h1:(d.drop (k1+1+p)).drop 1=(c.drop (k1+1+p)).drop 1:=by rw[hdd]
   rwa [List.drop_drop,List.drop_drop,show k1+1+p+1=k1+1+(p+1) by omega]at h1
  have w1:IntKind.i64.wrap (p:Int)=(p:Int):=wrap_i64 _ (by omega) (by omega)
  have w2:IntKind.i64.wrap ((p:Int)+1+1)=(p:Int)+1+1:=wrap_i64 _ (by omega) (by omega)
  have w3:=qN w (by omega)
  have hA:p+1<c.length-(k1+1):=by omega
  have hA':(p:Int)+1<(c.length-(k1+1):Nat):=by omega
  have hB:p<c.length-(k1+1):=by omega
  have hW:w<c.length:=by omega
  have hc:=heq.2 s (c.getD (k1+1+(p+1)) 0) (c.getD (k1+1+p) 0) hPs
  generalize c.getD (k1+1+(p+1)) 0=x at *
  generalize c.getD (k1+1+p) 0=y at *
  (repeat' (first|refine qS ?_|refine qB ?_|(refine qK ?_;simp only[ak,reduceIte])|(refine qC ?_;simp[f0,f5,f6,f7,hA,hA'])|(refine w_e [] ?_;intro J hJ;simp only[];simp[f0,f5,f6,f7,hA,hA'];(refine hJ _ _ ?_;clear hJ J;simp only[ak,reduceIte]))))
  (refine w_s [] [q] [(0,true),(1,true),(2,true),(3,true),(4,true),(5,true),(6,true),(7,true),(8,true),(9,true),(10,false),(11,true)] ?_;intro J hJ;simp[f0,f1,f5,f6,f7,hA,hA',hB,hd,hd1,w1,hdl,hsH];(repeat refine ca ?_))
  refine bF hc ?_;rintro r s3 ⟨rfl,hk3⟩
  have hqs:q<s.next:=Nat.lt_of_lt_of_le hq hof.1
  have hH3:=(hk3.H q hqs).trans hsH
  have hP3:=heq.1 _ _ hPs hk3
  have hof3:=hof.keeps hk3
  refine⟨fun _=>by simp[hH3,hsH],?_⟩
  (refine bN ?_;simp[hH3,hsH];(refine hJ _ _ ?_;clear hJ J;simp only[ak,reduceIte]))
  by_cases hxy:x=y
  ·rw[if_neg (fun h=>h hxy)]at hstep
   (repeat' (first|(refine qK ?_;simp only[ak,reduceIte])|(refine qC ?_;simp[f5,f6,f7,w2,hxy])|(refine w_e [] ?_;intro J hJ;simp only[];simp[f5,f6,f7,w2,hxy];(refine hJ _ _ ?_;clear hJ J;simp only[ak,reduceIte]))))
   refine hJJ (c.length-(k1+1+(p+1+1))) _ _ (by omega) ⟨p+1,w,d,by omega,rfl,?_,by omega,by simp[f0],by simp[f1],by simp[f5],by simp[f6],by simp,hdl,?_,hdd2,hH3,hP3,hof3⟩
   ·rw[show k1+1+(p+1+1)=k1+1+(p+1)+1 by omega,hstep];exact hw
   ·rw[show k1+1+(p+1+1)=k1+1+(p+1)+1 by omega,hstep];exact hdt
  ·rw[if_pos hxy]at hstep
   have hset:=vT d w x (by omega)
   (repeat' (first|refine qS ?_|(refine qC ?_;simp[f0,f5,f6,f7,hA,hA',hB,hd,hd1,w1,w2,w3,hdl,hxy,hW,hH3])|(refine w_e [] ?_;intro J hJ;simp only[];simp[f0,f5,f6,f7,hA,hA',hB,hd,hd1,w1,w2,w3,hdl,hxy,hW,hH3];(repeat refine ca ?_);(refine hJ _ _ ?_;clear hJ J;simp only[ak,reduceIte]))))
   refine hJJ (c.length-(k1+1+(p+1+1))) _ _ (by omega) ⟨p+1,w+1,d.set w x,by omega,rfl,?_,by omega,by simp[f0],by simp[f1],by simp,by simp[f6],by simp,by simp[hdl],?_,?_,?_,?_,?_⟩
   ·rw[show k1+1+(p+1+1)=k1+1+(p+1)+1 by omega,hstep,List.length_append,← hw];rfl
   ·rw[show k1+1+(p+1+1)=k1+1+(p+1)+1 by omega,hstep,aJv d w x (by omega),hdt]
   ·rw[show k1+1+(p+1)=k1+1+p+1 by omega,set_drop d w (k1+1+p) x (by omega)]
    rw[show k1+1+p+1=k1+1+(p+1) by omega];exact hdd2
   ·simp[hset]
   ·exact hkp _ _ hP3 ((bQ.refl q _).set _)
   ·exact hof3.set _
 clear hJJ
 have hpe:k1+1+(p+1)=c.length:=by omega
 rw[hpe]at hw hdt
 have hcw:(cpt c).length=w:=hw.symm
 have hct:d.take w=cpt c:=hdt
 have hA:¬p+1<c.length-(k1+1):=by omega
 have hA':¬(p:Int)+1<(c.length-(k1+1):Nat):=by omega
 have hW:w≤c.length:=by omega
 rw[hcw,← hct]
 (repeat' (first|refine qS ?_|(refine qX ?_;simp only[ak,reduceIte])|(refine qR ?_;simp only[ak,reduceIte];simp[f0,f5,f6,f7,hA,hA',hdl,hW,hsH])|(refine qC ?_;simp[f0,f5,f6,f7,hA,hA',hdl,hW,hsH])|(refine w_e [] ?_;intro J hJ;simp only[];simp[f0,f5,f6,f7,hA,hA',hdl,hW,hsH];(refine hJ _ _ ?_;clear hJ J;simp only[ak,reduceIte]))))
 exact hof.set _
end Go.Proofs.YtempldclppogmaaGreatDoor.Aw.Cu
namespace Go.Proofs.YtempldclppogmaaGreatDoor.Aw
open Go Go.RowKit Go.Proofs.YtempldclppogmaaGreatDoor.Pl
def sL(x:Int):List Int→List Int
 |[]=>[x]
 |y::l=>if x<y then x::y::l else if y<x then y::sL x l else y::l
theorem mG(x z:Int):∀ l:List Int,z∈sL x l↔z=x∨z∈l
 |[]=>by simp[sL]
 |y::l=>by
  unfold sL
  split
  ·simp
  ·split
   ·simp only[List.mem_cons,mG x z l]
    exact or_left_comm
   ·have:y=x:=by omega
    subst this
    simp
theorem uG(x:Int):∀ l:List Int,l.Pairwise (· < ·)→(sL x l).Pairwise (· < ·)
 |[],_=>by simp[sL]
 |y::l,h=>by
  obtain⟨h1,h2⟩:=List.pairwise_cons.1 h
  unfold sL
  split
  ·rename_i hx
   refine List.pairwise_cons.2 ⟨fun z hz=>?_,h⟩
   rcases List.mem_cons.1 hz with rfl|hz
   ·exact hx
   ·have:=h1 z hz;omega
  ·split
   ·refine List.pairwise_cons.2 ⟨fun z hz=>?_,uG x l h2⟩
    rcases(mG x z l).1 hz with rfl|hz
    ·assumption
    ·exact h1 z hz
   ·exact h
def vsF:List Ed→List Int
 |[]=>[]
 |e::E=>sL e.a (sL e.b (vsF E))
theorem aFh:∀ E,(vsF E).Pairwise (· < ·)
 |[]=>.nil
 |e::E=>uG _ _ (uG _ _ (aFh E))
theorem uM(v:Int):∀ E,v∈vsF E↔∃ e∈E,v=e.a∨v=e.b
 |[]=>by simp[vsF]
 |e::E=>by
  unfold vsF
  rw[mG,mG,uM v E]
  simp only[List.mem_cons,exists_eq_or_imp]
  rw[or_assoc]
def gF(E:List Ed):List Int:=E.flatMap fun e=>[e.a,e.b]
theorem rX(E:List Ed):(gF E).length=E.length*2:=by
 induction E with
 |nil=>rfl
 |cons e E ih=>simp only[gF,List.flatMap_cons,List.length_append,List.length_cons,List.length_nil]at ih ⊢;omega
theorem aGS(v:Int)(E:List Ed):v∈gF E↔∃ e∈E,v=e.a∨v=e.b:=by simp[gF]
theorem aEq(E:List Ed)(k:Nat)(hk:k<E.length):gF (E.take (k+1))=gF (E.take k)++[(E.getD k ed0).a,(E.getD k ed0).b]:=by
 have h:E.take (k+1)=E.take k++[E[k]]:=List.take_succ_eq_append_getElem hk
 rw[cC E k hk,h]
 unfold gF
 rw[List.flatMap_append]
 rfl
set_option maxHeartbeats 1000000 in
theorem aMa(l:List Int)(t:Nat)(st:St)(hl:l.length≤20):
 aF Tryz.prog 106 [.sl t l.length (us l),.fn (.func 107) []] st fun r st'=>(∃ V:List Int,V.Pairwise (· < ·)∧(∀ v,v∈V↔v∈l)∧r=.sl 0 V.length (us V))∧aB st st':=by
 refine bV ?_
 refine qO aK Tryz.func106 rfl rfl Tryz.ntmps106 (rs:=[.tmp 4]) rfl (by simp) ?_
 (repeat' (first|refine qS ?_|(refine w_e [] ?_;intro J hJ;simp only[];simp[];(try (refine hJ _ _ ?_;clear hJ J;simp only[ak,reduceIte])))))
 refine qE (aBe l t _ (by omega)) (by simp) ?_;rintro r s1 ⟨q,rfl,hq1,hq2,hB1,hk1⟩
 have hn1:=hk1.next
 simp only[aA]at hn1 hq1
 have hF1:PcU st.next s1:=⟨by omega,by rw[hk1.H _ (by simp)];simp⟩
 have k1:aB st s1:=(aB.new _ _).trans hk1
 (repeat' (first|refine qS ?_|((first|(refine w_e [] ?_;intro J hJ;simp only[])|(refine aL ?_));simp[];(try (refine hJ _ _ ?_;clear hJ J;simp only[ak,reduceIte])))))
 refine qE (aMc l q _ [.pt st.next 0] (PcU st.next) s1 (aMT st.next q (by omega)) hF1 hq2 (by omega) hB1) (by simp) ?_;rintro r s2 ⟨D,hp,hr,hB2,hof⟩
 have hn2:=hof.1
 have lD:=hp.length_eq
 have hF2:=(aMT st.next q (by omega)).keep _ _ hF1 hof
 have k2:aB st s2:=⟨by have:=k1.next;omega,fun l hl=>(hof.2 l (by omega) (by have:=k1.next;omega)).trans (k1.H l hl)⟩
 have hc1:=Cu.aMW hr
 have hc2:=fun v=>Cu.aLI hr v
 (repeat' (first|refine qS ?_|((first|(refine w_e [] ?_;intro J hJ;simp only[])|(refine aL ?_));simp[];(try (refine hJ _ _ ?_;clear hJ J;simp only[ak,reduceIte])))))
 refine qE (Cu.aIk D q _ [.pt st.next 0] (PcU st.next) s2 (eqU st.next) (aMT st.next q (by omega)).keep hF2 (by omega) (by omega) hB2) (by simp[lD]) ?_;rintro r s3 ⟨rfl,⟨cs,hB3⟩,hof3⟩
 have k3:aB st s3:=⟨by have:=k2.next;have:=hof3.1;omega,fun l hl=>(hof3.2 l (by omega) (by have:=k2.next;omega)).trans (k2.H l hl)⟩
 generalize Cu.cpt D=V at *
 (repeat' (first|(refine qR ?_;simp only[ak,reduceIte];simp[])|(refine aL ?_;simp[];(refine hJ _ _ ?_;clear hJ J;simp only[ak,reduceIte]))))
 exact⟨q,V.length,⟨rfl,rfl⟩,34,1,us V++cs,hB3,by simp,⟨V,hc1,fun v=>(hc2 v).trans hp.mem_iff,rfl,by rw[Nat.mul_one,List.take_append_of_le_length (by simp),List.take_of_length_le (by simp)]⟩,k3.set (by omega) _⟩
theorem aOs(es:List Ed)(t1 t2:Nat)(st:St)(he:es.length≤10)(hen:es.Pairwise fun x y=>x.id<y.id):
 aF Tryz.prog 73 [.sl t1 (gF es).length (us (gF es)),.sl t2 es.length (eds es)] st fun r st'=>r=.ag (grL ⟨vsF es,es⟩)∧aB st st':=by
 have hel:=rX es
 have hm:(es.map (·.id)).Pairwise (· < ·):=by rw[List.pairwise_map];exact hen
 refine qO aK Tryz.func73 rfl rfl Tryz.ntmps73 (rs:=[.cell 4 25]) rfl (by simp) ?_
 (repeat' (first|refine qS ?_|(refine w_e [] ?_;intro J hJ;simp only[];simp[];(try (refine hJ _ _ ?_;clear hJ J;simp only[ak,reduceIte])))))
 refine qE (aMa (gF es) t1 _ (by omega)) (by simp) ?_;rintro r s1 ⟨⟨V,hV1,hV2,rfl⟩,hk1⟩
 have hV:V=vsF es:=uL id (by simpa using hV1) (by simpa using aFh es) fun v=>by rw[hV2,aGS,uM]
 subst hV
 have hn1:=hk1.next
 simp only[aA]at hn1
 have hG1:s1.H st.next=.box 25 2 [.nil,.nil]:=by rw[hk1.H _ (by simp)];simp
 (repeat' (refine aL ?_;simp[]))
 refine qE (aLE es t2 _ (by omega) (hm.imp fun h=>by omega)) (by simp) ?_;rintro r s2 ⟨⟨E,hE1,hE2,rfl⟩,hk2⟩
 have hE:=uL (·.id) hE2 hm fun x=>hE1.mem_iff
 subst hE
 have hn2:=hk2.next
 have hG2:=(hk2.H st.next (by omega)).trans hG1
 (repeat' (first|(refine qR ?_;simp only[ak,reduceIte];simp[hG2])|(refine aL ?_;simp[hG2];(refine hJ _ _ ?_;clear hJ J;simp only[ak,reduceIte]))))
 exact(((aB.new _ _).trans hk1).trans hk2).set (by omega) _
def aJT(g:Gr)(h:Sh)(at':Nat)(w:List Int):Prop:=at' < h.F.length∧2≤w.length∧w.length≤200∧(∀ v∈w,v∈g.vs)∧(h.F.getD at' []).length≤1000∧w.getD 0 0∈h.F.getD at' []∧w.getD (w.length-1) 0∈h.F.getD at' []∧h.F.length<300
instance (g:Gr) (h:Sh) (a:Nat) (w:List Int):Decidable (aJT g h a w):=by unfold aJT;infer_instance
def aMJ(g:Gr)(h:Sh):Option (Option Sh):=(aKH g h.L h.on).bind fun B=>
 if(∀ b∈B,∀ v∈b.ends,v∈g.vs)∧B.length≤300∧∀ v∈(cS h.F B (⟨[],[]⟩,-1)).1.ends,v∈g.vs then
  if(cS h.F B (⟨[],[]⟩,-1)).2<0 then some none
  else(aNC g (cS h.F B (⟨[],[]⟩,-1)).1).bind fun w=>if aJT g h (cS h.F B (⟨[],[]⟩,-1)).2.toNat w then some (some (aHW h w (cS h.F B (⟨[],[]⟩,-1)).2.toNat))else none
 else none
def aDa(g:Gr):Nat→Sh→Option (Option Sh)
 |0,_=>none
 |n+1,h=>if h.L.length<g.es.length then(aMJ g h).bind fun o=>match o with
   |none=>some none
   |some h'=>aDa g n h'
  else some (some h)
def aMF(E:List Ed):Option (Option (List (List Int))):=
 match E with
 |[e]=>some (some [[e.a,e.b]])
 |E=>if(vsF E).length≤64∧E.length≤10 then
   if(3:Int)*(vsF E).length-6<E.length then some none
   else(newF ⟨vsF E,E⟩).bind fun h=>(aDa ⟨vsF E,E⟩ 1000 h).map fun o=>o.map (·.F)
  else none
structure DrE(E:List Ed):Prop where
 ids:E.Pairwise (fun x y=>x.id<y.id)
 pos:∀ x∈E,1≤x.id∧x.id≤1048576
 ne:∀ x∈E,x.a≠x.b
theorem DrE.gp{E:List Ed}(h:DrE E)(h1:(vsF E).length≤64)(h2:E.length≤10):GP ⟨vsF E,E⟩:=
 ⟨⟨⟨aFh E,fun x hx=>⟨(uM _ _).2 ⟨x,hx,.inl rfl⟩,(uM _ _).2 ⟨x,hx,.inr rfl⟩⟩⟩,h.ids,h.pos,h.ne⟩,h1,(by simp only;omega)⟩
def drR:Option (List (List Int))→LV
 |none=>.tu [.sl 0 0 [],bb false]
 |some F=>.tu [.sl 0 F.length (bA F),bb true]
set_option maxHeartbeats 4000000 in
theorem aOD{E:List Ed}(hE:DrE E){o:Option (List (List Int))}(ho:aMF E=some o)(st:St)(hpos:0<st.next):
 aF Tryz.prog 44 [.sl 0 E.length (eds E)] st fun r st'=>r=drR o∧aB st st':=by
 refine bR ?_
 have hel:=aO E
 by_cases h1:E.length=1
 ·obtain⟨⟨e1,ea,eb⟩,rfl⟩:∃ e,E=[e]:=List.length_eq_one_iff.1 h1
  have:o=some [[ea,eb]]:=by
   have:some (some [[ea,eb]])=some o:=ho
   exact(Option.some.inj this).symm
  subst this
  have hd:eds [(⟨e1,ea,eb⟩:Ed)]=[u e1,u ea,u eb]:=rfl
  refine qO aK Tryz.func44 rfl rfl Tryz.ntmps44 (rs:=[.tmp 2,.tmp 3]) rfl (by simp) ?_
  (repeat' (first|refine qS ?_|(refine qC ?_;simp[hd])|(refine w_e [] ?_;intro J hJ;simp only[];simp[hd];(refine hJ _ _ ?_;clear hJ J;simp only[ak,reduceIte]))))
  (refine w_s [] [] [(0,true),(1,true),(2,true),(3,true),(4,true),(5,true),(6,true),(7,true),(8,false),(9,true),(10,true),(11,true)] ?_;intro J hJ;simp[hd];(refine hJ _ _ ?_;clear hJ J;simp only[ak,reduceIte]))
  (repeat' (refine qR ?_;simp only[ak,reduceIte];simp[]))
  exact⟨by simp[z0,z0L,drR,bA],(aB.new _ _).trans (aB.new _ _)⟩
 have hb1:((E.length:Int)==1)=false:=by
  rw[beq_eq_false_iff_ne];omega
 have ho2:(if(vsF E).length≤64∧E.length≤10 then
  if(3:Int)*(vsF E).length-6<E.length then some none
  else(newF ⟨vsF E,E⟩).bind fun h=>(aDa ⟨vsF E,E⟩ 1000 h).map fun o=>o.map (·.F)
  else none)=some o:=by
  rcases E with _|⟨e,_|⟨e2,E⟩⟩
  ·exact ho
  ·simp at h1
  ·exact ho
 clear ho
 split at ho2
 case isFalse=>cases ho2
 rename_i hq
 obtain⟨hq1,hq2⟩:=hq
 have hg:=hE.gp hq1 hq2
 have hvl:=rX E
 refine qO aK Tryz.func44 rfl rfl Tryz.ntmps44 (rs:=[.tmp 2,.tmp 3]) rfl (by simp) ?_
 (repeat' (first|refine qS ?_|refine qB ?_|(refine qK ?_;simp only[ak,reduceIte])|(refine qC ?_;simp[hb1])|(refine w_e [] ?_;intro J hJ;simp only[];simp[hb1];(refine hJ _ _ ?_;clear hJ J;simp only[ak,reduceIte]))))
 refine qW 4 34 1 (by simp) ?_
 have e0:¬st.next=0:=by omega
 refine aP 29 28 30 40 (E.length) (fun j fr st2=>fr 0=.sl 0 E.length (eds E)∧fr 27=.sl 0 E.length (eds E)∧aB st st2∧∃ t,fr 4=.sl t (gF (E.take j)).length (us (gF (E.take j)))∧aAK t 34 1 (gF (E.take j)).length st st2) ?_ ?_ ?_
 ·exact⟨by simp,by simp,aB.new _ _,st.next,by simp[gF],e0,Nat.le_refl _,by simp,by simp[gF]⟩
 ·rintro j fr s hlt ⟨f0,f27,hkp,t,f4,a1,a2,a3,a4⟩ fi fn JO hJO
  have hd:=bE E j hlt
  have hk3:j*3<E.length*3:=by omega
  have htk:=aEq E j hlt
  have hFl:=rX (E.take j)
  rw[List.length_take]at hFl
  generalize E.getD j ed0=x at *
  generalize gF (E.take j)=F at *
  obtain⟨d,a,b⟩:=x
  simp only at htk
  have c1:¬t=s.next:=by omega
  have c1b:¬t=s.next+1:=by omega
  have c4:¬s.next=t:=by omega
  have c5:¬s.next+1=t:=by omega
  (repeat' (first|refine qS ?_|(refine w_e [] ?_;intro J hJ;simp only[];simp[f4,f27,fi,fn,hd,hel,hk3,hlt,a4,a1,c1,c1b,c4,c5];(repeat refine ca ?_);(refine hJ _ _ ?_;clear hJ J;simp only[ak,reduceIte]))))
  refine hJO _ _ (by simp[fi]) (by simp[fn]) ⟨by simp[f0],by simp[f27],?_,s.next+2,by rw[htk];simp,by omega,by omega,by simp,by rw[htk];simp⟩
  exact(((hkp.trans (aB.new _ _)).trans (aB.new _ _)).set a2 _).trans (aB.new _ _)
 ·rintro fr s ⟨f0,f27,hkp,t,f4,a1,a2,a3,a4⟩
  rw[List.take_length]at f4 a4
  (repeat' (first|refine qS ?_|(refine w_e [] ?_;intro J hJ;simp only[];simp[f0,f4])))
  refine qE (aOs E t 0 s hq2 hE.ids) (by simp) ?_;rintro r s1 ⟨rfl,hk1⟩
  have hk1:=hkp.trans hk1
  have w1:IntKind.i64.wrap (3*((vsF E).length:Int))=3*((vsF E).length:Int):=wrap_i64 _ (by omega) (by omega)
  have w2:IntKind.i64.wrap (3*((vsF E).length:Int)-6)=3*((vsF E).length:Int)-6:=wrap_i64 _ (by omega) (by omega)
  have hel2:=aO E
  by_cases hc:(3:Int)*(vsF E).length-6<E.length
  ·rw[if_pos hc]at ho2
   obtain rfl:none=o:=Option.some.inj ho2
   (repeat' (first|refine qS ?_|(refine qR ?_;simp only[ak,reduceIte];simp[w1,w2,hc])|(refine qC ?_;simp[w1,w2,hc])|((first|(refine w_e [] ?_;intro J hJ;simp only[])|(refine aL ?_));simp[w1,w2,hc];(refine hJ _ _ ?_;clear hJ J;simp only[ak,reduceIte]))))
   exact⟨by simp[z0,z0L,drR],hk1.trans (aB.new _ _)⟩
  rw[if_neg hc]at ho2
  have hk2:=hk1.trans (aB.new s1 (.box 25 2 (grL ⟨vsF E,E⟩)))
  have hG:(s1.new (.box 25 2 (grL ⟨vsF E,E⟩))).H s1.next=.box 25 2 (grL ⟨vsF E,E⟩):=by simp
  obtain⟨h,hh,ho3⟩:=Option.bind_eq_some_iff.1 ho2
  obtain⟨o2,hlp,ho4⟩:=Option.map_eq_some_iff.1 ho3
  (repeat' (first|refine qS ?_|(refine qK ?_;simp only[ak,reduceIte])|(refine qC ?_;simp[w1,w2,hc])|((first|(refine w_e [] ?_;intro J hJ;simp only[])|(refine aL ?_));simp[w1,w2,hc];(try (refine hJ _ _ ?_;clear hJ J;simp only[ak,reduceIte])))))
  refine qE (aIJ hg hh _) (by simp) ?_;rintro r s2 ⟨S,nl,pl,ll,fl,le,rfl,hS,⟨b1,b2,b3⟩,hk3⟩
  have hG2:s2.H s1.next=.box 25 2 (grL ⟨vsF E,E⟩):=by rw[hk3.H _ (by simp)];exact hG
  have hn1:=hk1.next
  simp only[aA]at b1 b2 b3
  have hk2:=hk2.trans hk3
  (repeat' (first|refine qS ?_|refine qB ?_|(refine aL ?_;simp[];(refine hJ _ _ ?_;clear hJ J;simp only[ak,reduceIte]))))
  refine qL (fun n fr st2=>∃ h fl le,aDa ⟨vsF E,E⟩ n h=some o2∧fr 7=.pt s1.next 0∧fr 8=.pt S 0∧ShA ⟨vsF E,E⟩ h.L h.on h.F S nl pl ll fl le st2∧s1.next<S∧s1.next<ll∧s1.next<fl∧st2.H s1.next=.box 25 2 (grL ⟨vsF E,E⟩)∧aB st st2) 1000 ?_ ?_
  ·exact⟨h,fl,le,hlp,by simp,by simp,hS,by omega,by omega,by omega,hG2,hk2⟩
  clear hS hG2 hk2 hk3 hlp hG f0 f27 f4 fr b1 b2 b3 hh ho2 ho3 h
  rintro n fr s3 ⟨h,fl,le,hlp,f7,f8,hS,b1,b2,b3,hG,hk⟩ JJ hJJ
  obtain _|n:=n
  ·cases hlp
  have hSb:=hS.r.box
  have hsl:=hS.r.lt
  have hL:=hS.r.lin
  have hkl:le.length=h.L.length:=by rw[← List.length_map (f:=(·.1)),hS.r.key,List.length_map]
  unfold aDa at hlp
  by_cases hlt:h.L.length<E.length
  ·rw[if_pos hlt]at hlp
   have hlt':((le.length:Nat):Int)<E.length:=by omega
   obtain⟨so,hso,hlp⟩:=Option.bind_eq_some_iff.1 hlp
   unfold aMJ at hso
   obtain⟨B,hB,hso⟩:=Option.bind_eq_some_iff.1 hso
   split at hso
   case isFalse=>cases hso
   rename_i hc
   obtain⟨hc1,hc2,hc3⟩:=hc
   (repeat' (first|refine qS ?_|refine qB ?_|(refine qK ?_;simp only[ak,reduceIte])|(refine qC ?_;simp[f7,f8,hSb,hL,hG,hlt'])|((first|(refine w_e [] ?_;intro J hJ;simp only[])|(refine w_q ?_;intro J hJ));simp[f7,f8,hSb,hL,hG,hlt'];(try (refine hJ _ _ ?_;clear hJ J;simp only[ak,reduceIte])))))
   refine qE (aKw hg hS hB hc1 hc2) (by simp) ?_;rintro r s4 ⟨rfl,e4⟩
   rw[e4];clear e4 s4
   generalize cS h.F B (⟨[],[]⟩,-1)=ch at *
   obtain⟨b,at'⟩:=ch
   simp only at hso hc3
   by_cases hneg:at' < 0
   ·rw[if_pos hneg]at hso
    obtain rfl:none=so:=Option.some.inj hso
    simp only at hlp
    obtain rfl:none=o2:=Option.some.inj hlp
    obtain rfl:none=o:=ho4
    (repeat' (first|refine qS ?_|(refine qR ?_;simp only[ak,reduceIte];simp[hneg])|(refine qC ?_;simp[hneg])|((first|(refine w_e [] ?_;intro J hJ;simp only[])|(refine aL ?_));simp[hneg];(refine hJ _ _ ?_;clear hJ J;simp only[ak,reduceIte]))))
    exact⟨by simp[z0,z0L,drR],hk.trans (aB.new _ _)⟩
   rw[if_neg hneg]at hso
   obtain⟨w,hw,hso⟩:=Option.bind_eq_some_iff.1 hso
   split at hso
   case isFalse=>cases hso
   rename_i hlay
   obtain⟨y1,y2,y3,y4,y5,y6,y7,y8⟩:=hlay
   obtain rfl:=Option.some.inj hso
   simp only at hlp
   obtain⟨at',rfl⟩:∃ k:Nat,at'=(k:Int):=⟨at'.toNat,by omega⟩
   simp only[Int.toNat_natCast]at *
   have hneg':¬(at':Int)<0:=by omega
   (repeat' (first|refine qS ?_|(refine qK ?_;simp only[ak,reduceIte])|(refine qC ?_;simp[hneg',f8])|((first|(refine w_e [] ?_;intro J hJ;simp only[])|(refine aL ?_));simp[hneg',f8];(try (refine hJ _ _ ?_;clear hJ J;simp only[ak,reduceIte])))))
   have hk4:=aB.new s3 (.box 121 2 [wv (mk (vsF E) b.inner),wv (mk (vsF E) b.ends)])
   refine qE (aQD hg (hS.keep hk4) hc3 hw) (by simp[aMw]) ?_;rintro r s4 ⟨rfl,e4⟩
   rw[e4];clear e4 s4
   (repeat' (refine aL ?_;simp[]))
   refine qE (aQh hg (hS.keep hk4) y1 y2 y3 y4 y5 y6 y7 y8 (by simp)) (by simp) ?_;rintro r s4 ⟨fl2,le2,hS4,hfl,hkm⟩
   have hkn:=hkm.next
   simp only[aA]at hkn hfl
   have hk34:=hkm.H
   have hKK:aB st s4:=⟨by have:=hk.next;omega,fun l hl=>by
    have:=hk.next
    rw[hk34 l (by simp;omega) (by simp;omega),aG,if_neg (by omega)]
    exact hk.H l hl⟩
   have hG4:s4.H s1.next=.box 25 2 (grL ⟨vsF E,E⟩):=by
    rw[hk34 _ (by simp;omega) (by simp;omega),aG,if_neg (by omega)];exact hG
   (repeat' (refine aL ?_;simp[];(refine hJ _ _ ?_;clear hJ J;simp only[ak,reduceIte])))
   refine hJJ n _ _ (by omega) ⟨aHW h w at',fl2,le2,hlp,by simp[f7],by simp[f8],hS4,by omega,by omega,by omega,hG4,hKK⟩
  ·rw[if_neg hlt]at hlp
   obtain rfl:some h=o2:=Option.some.inj hlp
   obtain rfl:some h.F=o:=ho4
   have hlt':¬((le.length:Nat):Int)<E.length:=by omega
   clear hJJ
   (repeat' (first|refine qS ?_|refine qB ?_|(refine qX ?_;simp only[ak,reduceIte])|(refine qC ?_;simp[f7,f8,hSb,hL,hG,hlt'])|((first|(refine w_e [] ?_;intro J hJ;simp only[])|(refine w_q ?_;intro J hJ));simp[f7,f8,hSb,hL,hG,hlt'];(refine hJ _ _ ?_;clear hJ J;simp only[ak,reduceIte]))))
   refine qW 11 22 1 (by simp) ?_
   have hF:=hS.fac
   have hfl:=lX (vsF E) h.F
   have hfw:=hS.few
   have hflt:=hS.flt
   refine aP 82 81 83 91 (h.F.length) (fun j fr st2=>fr 80=.ms fl 0 h.F.length∧st2.H fl=.box 127 2 (eN (vsF E) h.F)∧fl<st2.next∧aB st st2∧∃ t,fr 11=.sl t j (bA (h.F.take j))∧aAK t 22 1 j st st2) ?_ ?_ ?_
   ·exact⟨by simp,by rw[aG,if_neg (by omega)];exact hF,by simp;omega,hk.trans (aB.new _ _),s3.next,by simp[bA],by have:=hk.next;omega,hk.next,by simp,by simp⟩
   ·clear hF hflt hG hSb hL hlt' f7 f8 hk
    rintro j fr s hlt ⟨f80,hF,hflt,hk,t,f11,t0,t1,t2,tH⟩ fi fn JO hJO
    have hd:=nG (vsF E) h.F j hlt
    have hjj:j*2<h.F.length*2:=by omega
    have htk:=vY h.F j hlt
    have hgd:h.F.getD j []=h.F[j]:=by rw[List.getD_eq_getElem?_getD,List.getElem?_eq_getElem hlt];rfl
    rw[hgd]at hd
    generalize h.F[j]=R at *
    have c0:¬fl=t:=fun e=>by rw[e,tH]at hF;cases hF
    have c1:¬t=s.next:=by omega
    have c2:¬s.next=t:=by omega
    have c3:¬t=s.next+1:=by omega
    have c4:¬s.next+1=t:=by omega
    have c5:¬fl=s.next:=by omega
    (repeat' (first|refine qS ?_|(refine w_e [] ?_;intro J hJ;simp only[];simp[f80,f11,fi,fn,hF,hd,hjj,hfl,hlt,tH,t0,c0,c1,c2,c3,c4,c5];(repeat refine ca ?_);(refine hJ _ _ ?_;clear hJ J;simp only[ak,reduceIte]))))
    refine hJO _ _ (by simp[fi]) (by simp[fn]) ⟨by simp[f80],?_,by simp;omega,?_,s.next+1+1,by rw[htk];simp[bA],by omega,by omega,by simp,by simp⟩
    ·(repeat (first|rw[aG,if_neg (α:=aD) (by(try simp only[aC,aA]);omega)]|rw[aE,if_neg (α:=aD) (by omega)]|rw[aG,if_pos (α:=aD) (by(try simp only[aC,aA]))]|rw[aE,if_pos (α:=aD) (by omega)]));exact hF
    ·exact(((hk.trans (aB.new _ _)).trans (aB.new _ _)).set t1 _).trans (aB.new _ _)
   ·clear hF hflt hG hSb hL hlt' f7 f8 hk
    rintro fr s ⟨f80,hF,hflt,hk,t,f11,t0,t1,t2,tH⟩
    rw[List.take_length]at f11
    (repeat' (first|refine qS ?_|(refine qR ?_;simp only[ak,reduceIte];simp[f11])|(refine w_e [] ?_;intro J hJ;simp only[];simp[f11];(refine hJ _ _ ?_;clear hJ J;simp only[ak,reduceIte]))))
    have hzu:∀ l:List Int,z0L (us l)=us l:=fun l=>by
     induction l with
     |nil=>rfl
     |cons x l ih=>simp only[us,List.map_cons,z0L,z0]at ih ⊢;rw[ih]
    have hz:∀ R:List (List Int),z0L (bA R)=bA R:=fun R=>by
     induction R with
     |nil=>rfl
     |cons r R ih=>simp only[bA,List.map_cons,z0L,z0,hzu]at ih ⊢;rw[ih]
    exact⟨by simp[z0,z0L,drR,hz],hk⟩
abbrev Tn:=List (Int×List (Int×Int))
def zC(x y:Int):List (Int×Int)→List (Int×Int)
 |[]=>[(x,y)]
 |p::P=>if p.1=x then(x,y)::P else p::zC x y P
def mQ(v x y:Int):Tn→Tn
 |[]=>[(v,[(x,y)])]
 |a::A=>if a.1=v then(v,zC x y a.2)::A else a::mQ v x y A
def sY(n k:Nat):Nat:=if k=0 then n-1 else k-1
def jC(r:List Int)(A:Tn):Nat→Tn
 |0=>A
 |j+1=>mQ (r.getD j 0) (r.getD (sY r.length j) 0) (r.getD ((j+1) % r.length) 0) (jC r A j)
def dQ(R:List (List Int)):Tn:=R.foldl (fun A r=>jC r A r.length) []
def inL(P:List (Int×Int)):List (List Int×LV):=P.map fun p=>([p.1],u p.2)
theorem aAN(x y:Int):∀ P,aS (inL P) [x] (u y)=inL (zC x y P)
 |[]=>rfl
 |p::P=>by
  have ih:=aAN x y P
  unfold zC
  simp only[inL,List.map_cons,aS,List.cons.injEq,and_true]at ih ⊢
  by_cases h:p.1=x
  ·rw[if_pos h,if_pos (by simp[h])];rfl
  ·rw[if_neg h,if_neg (by simpa using fun e=>h e.symm),ih];rfl
def ouL(A:Tn)(loc:Int→Nat):List (List Int×LV):=A.map fun a=>([a.1],.mp (loc a.1))
structure MM(A:Tn)(loc:Int→Nat)(o:Nat)(lo st:St):Prop where
 out:st.H o=.map false [.u32] (ouL A loc)
 olt:lo.next≤o∧o<st.next
 inn:∀ a∈A,st.H (loc a.1)=.map false [.u32] (inL a.2)∧(lo.next≤loc a.1∧loc a.1≠o)∧loc a.1<st.next
 inj:∀ a∈A,∀ b∈A,loc a.1=loc b.1→a.1=b.1
 nd:(A.map (·.1)).Nodup
 kp:aB lo st
theorem aBo(A:Tn)(loc:Int→Nat)(v:Int):aR (ouL A loc) [v]=if v∈A.map (·.1)then some (.mp (loc v))else none:=by
 induction A with
 |nil=>rfl
 |cons a A ih=>
  simp only[ouL,List.map_cons,aR,List.mem_cons]at ih ⊢
  by_cases h:a.1=v
  ·rw[if_pos (by simp[h]),if_pos (.inl h.symm),h]
  ·rw[if_neg (by simpa using fun e=>h e.symm),ih]
   have:¬v=a.1:=fun e=>h e.symm
   simp only[this,false_or]
theorem aLS{A:Tn}{v:Int}(loc:Int→Nat)(l:Nat)(h:v∉A.map (·.1)):aS (ouL A loc) [v] (.mp l)=ouL (A++[(v,[])]) (fun x=>if x=v then l else loc x):=by
 rw[vW]
 ·unfold ouL
  rw[List.map_append]
  congr 1
  ·refine List.map_congr_left fun a ha=>?_
   have:a.1≠v:=fun e=>h (e ▸ List.mem_map.2 ⟨a,ha,rfl⟩)
   simp only[if_neg this]
  ·simp
 ·intro hm
  obtain⟨q,hq,e⟩:=List.mem_map.1 hm
  obtain⟨a,ha,rfl⟩:=List.mem_map.1 hq
  simp only[List.cons.injEq,and_true]at e
  exact h (e ▸ List.mem_map.2 ⟨a,ha,rfl⟩)
theorem MM.add{A:Tn}{loc:Int→Nat}{o:Nat}{lo s:St}(h:MM A loc o lo s){v:Int}(hv:v∉A.map (·.1)):
 MM (A++[(v,[])]) (fun x=>if x=v then s.next else loc x) o lo ((s.new (.map false [.u32] [])).set o (.map false [.u32] (ouL (A++[(v,[])]) (fun x=>if x=v then s.next else loc x)))):=by
 obtain⟨h1,h2,h3,h4,h5,h6⟩:=h
 have hne:∀ a∈A,a.1≠v:=fun a ha e=>hv (e ▸ List.mem_map.2 ⟨a,ha,rfl⟩)
 have hn:=h6.next
 refine⟨by simp,⟨h2.1,by simp;omega⟩,fun a ha=>?_,fun a ha b hb e=>?_,?_,(h6.trans (aB.new _ _)).set h2.1 _⟩
 ·rcases List.mem_append.1 ha with ha|ha
  ·obtain⟨k1,k2,k3⟩:=h3 a ha
   simp only[if_neg (hne a ha)]
   have e1:¬loc a.1=o:=k2.2
   refine⟨?_,k2,by simp;omega⟩
   rw[aE,if_neg e1,aG,if_neg (by omega)];exact k1
  ·rw[List.mem_singleton]at ha
   subst ha
   simp only[if_true]
   refine⟨?_,⟨hn,by omega⟩,by simp⟩
   rw[aE,if_neg (by omega),aG,if_pos rfl];rfl
 ·rcases List.mem_append.1 ha with ha|ha
  ·rcases List.mem_append.1 hb with hb|hb
   ·simp only[if_neg (hne a ha),if_neg (hne b hb)]at e
    exact h4 a ha b hb e
   ·rw[List.mem_singleton]at hb
    subst hb
    simp only[if_neg (hne a ha),if_true]at e
    have:=(h3 a ha).2.2
    omega
  ·rw[List.mem_singleton]at ha
   subst ha
   rcases List.mem_append.1 hb with hb|hb
   ·simp only[if_neg (hne b hb),if_true]at e
    have:=(h3 b hb).2.2
    omega
   ·rw[List.mem_singleton]at hb
    subst hb
    rfl
 ·rw[List.map_append,List.nodup_append]
  refine⟨h5,by simp,fun a ha b hb e=>?_⟩
  simp only[List.map_cons,List.map_nil,List.mem_singleton]at hb
  subst hb;subst e
  exact hv ha
theorem aAb(v x y:Int):∀ A:Tn,v∈A.map (·.1)→(mQ v x y A).map (·.1)=A.map (·.1)
 |a::A,h=>by
  unfold mQ
  by_cases e:a.1=v
  ·rw[if_pos e];simp[e]
  ·rw[if_neg e,List.map_cons,List.map_cons,aAb v x y A]
   simp only[List.map_cons,List.mem_cons]at h
   exact h.resolve_left fun h=>e h.symm
theorem aCc{v x y:Int}{P:List (Int×Int)}:∀ {A:Tn},(A.map (·.1)).Nodup→(v,P)∈A→∀ a,a∈mQ v x y A→a=(v,zC x y P)∨(a∈A∧a.1≠v)
 |b::A,hn,h,a,ha=>by
  obtain⟨n1,n2⟩:=List.nodup_cons.1 (by simpa using hn:(b.1::A.map (·.1)).Nodup)
  unfold mQ at ha
  by_cases e:b.1=v
  ·rw[if_pos e]at ha
   have hb:(v,P)=b:=by
    rcases List.mem_cons.1 h with h|h
    ·exact h
    ·exact absurd (List.mem_map.2 ⟨_,h,rfl⟩) (e ▸ n1)
   subst hb
   rcases List.mem_cons.1 ha with ha|ha
   ·exact .inl ha
   ·exact .inr ⟨List.mem_cons_of_mem _ ha,fun h2=>n1 (List.mem_map.2 ⟨a,ha,h2⟩)⟩
  ·rw[if_neg e]at ha
   rcases List.mem_cons.1 ha with ha|ha
   ·exact .inr ⟨by simp[ha],by rw[ha];exact e⟩
   ·have h2:(v,P)∈A:=by
     rcases List.mem_cons.1 h with h|h
     ·exact absurd (by rw[← h]) e
     ·exact h
    rcases aCc n2 h2 a ha with h3|⟨h3,h4⟩
    ·exact .inl h3
    ·exact .inr ⟨List.mem_cons_of_mem _ h3,h4⟩
theorem aDN(v x y:Int):∀ A:Tn,v∉A.map (·.1)→mQ v x y (A++[(v,[])])=mQ v x y A
 |[],_=>by simp[mQ,zC]
 |a::A,h=>by
  simp only[List.map_cons,List.mem_cons,not_or]at h
  have e:¬a.1=v:=fun e=>h.1 e.symm
  simp only[List.cons_append,mQ,if_neg e,aDN v x y A h.2]
theorem MM.put{A:Tn}{loc:Int→Nat}{o:Nat}{lo s:St}(h:MM A loc o lo s){v x y:Int}{P:List (Int×Int)}(hv:(v,P)∈A):
 MM (mQ v x y A) loc o lo (s.set (loc v) (.map false [.u32] (inL (zC x y P)))):=by
 obtain⟨h1,h2,h3,h4,h5,h6⟩:=h
 have hk:=aAb v x y A (List.mem_map.2 ⟨_,hv,rfl⟩)
 obtain⟨k1,k2,k3⟩:=h3 _ hv
 have hin:∀ a∈mQ v x y A,∃ b∈A,b.1=a.1:=fun a ha=>by
  have:a.1∈A.map (·.1):=by rw[← hk];exact List.mem_map.2 ⟨a,ha,rfl⟩
  obtain⟨b,hb,e⟩:=List.mem_map.1 this
  exact⟨b,hb,e⟩
 have ho:ouL (mQ v x y A) loc=ouL A loc:=by
  have e:∀ B:Tn,ouL B loc=(B.map (·.1)).map fun k=>([k],LV.mp (loc k)):=fun B=>by simp[ouL]
  rw[e,e,hk]
 have e1:¬o=loc v:=fun e=>k2.2 e.symm
 refine⟨?_,⟨h2.1,h2.2⟩,fun a ha=>?_,fun a ha b hb e=>?_,by rw[hk];exact h5,h6.set k2.1 _⟩
 ·rw[aE,if_neg e1,h1,ho]
 ·rcases aCc h5 hv a ha with rfl|⟨ha,hne⟩
  ·exact⟨by simp,k2,k3⟩
  ·obtain⟨q1,q2,q3⟩:=h3 a ha
   refine⟨?_,q2,q3⟩
   rw[aE,if_neg fun e=>hne (h4 a ha _ hv e)];exact q1
 ·obtain⟨a2,ha2,ea⟩:=hin a ha
  obtain⟨b2,hb2,eb⟩:=hin b hb
  rw[← ea,← eb]at e ⊢
  exact h4 a2 ha2 b2 hb2 e
set_option maxHeartbeats 2000000 in
theorem aIK(R:List (List Int))(st:St)(hR:R.length≤300)(hr:∀ r∈R,r.length≤1000):
 aF Tryz.prog 45 [.sl 0 R.length (bA R)] st fun r st'=>∃ o loc,r=.mp o∧MM (dQ R) loc o st st':=by
 refine qO aK Tryz.func45 rfl rfl Tryz.ntmps45 (rs:=[.tmp 2]) rfl (by simp) ?_
 (repeat' (first|refine qS ?_|refine qB ?_|(refine w_e [] ?_;intro J hJ;simp only[];simp[];(refine hJ _ _ ?_;clear hJ J;simp only[ak,reduceIte]))))
 have e0:st.next<st.next+1:=by omega
 refine aP 12 11 13 50 (R.length) (fun j fr st2=>fr 3=.mp st.next∧fr 10=.sl 0 R.length (bA R)∧∃ loc,MM ((R.take j).foldl (fun A r=>jC r A r.length) []) loc st.next st st2) ?_ ?_ ?_
 ·exact⟨by simp,by simp,fun _=>0,by simp[ouL],by simp,by simp,by simp,by simp,aB.new _ _⟩
 ·rintro j0 fr s hlt ⟨f3,f10,loc,hM⟩ fi fn JO hJO
  have hd:=iE R j0 hlt
  have htk:(R.take (j0+1)).foldl (fun A r=>jC r A r.length) []=jC (R.getD j0 []) ((R.take j0).foldl (fun A r=>jC r A r.length) []) (R.getD j0 []).length:=by
   have h1:R.take (j0+1)=R.take j0++[R[j0]]:=List.take_succ_eq_append_getElem hlt
   rw[h1,List.foldl_append,List.getD_eq_getElem?_getD,List.getElem?_eq_getElem hlt];rfl
  have hl:(R.getD j0 []).length≤1000:=hr _ (by rw[List.getD_eq_getElem?_getD,List.getElem?_eq_getElem hlt];exact List.getElem_mem _)
  generalize (R.take j0).foldl (fun A r=>jC r A r.length) []=A0 at *
  generalize R.getD j0 []=r at *
  have w1:IntKind.i64.wrap ((r.length:Int)-1)=(r.length:Int)-1:=wrap_i64 _ (by omega) (by omega)
  (repeat' (first|refine qS ?_|refine qB ?_|(refine w_e [] ?_;intro J hJ;simp only[];simp[f3,f10,fi,fn,hlt,hd,w1];(refine hJ _ _ ?_;clear hJ J;simp only[ak,reduceIte]))))
  have hJ0:∀ loc' fr' s',fr' 3=.mp st.next→fr' 10=.sl 0 R.length (bA R)→fr' 12=i j0→fr' 11=i R.length→MM (jC r A0 r.length) loc' st.next st s'→JO fr' s':=fun loc' fr' s' g1 g2 g3 g4 g5=>hJO _ _ g3 g4 ⟨by simp[g1],by simp[g2],loc',by rw[htk];exact g5⟩
  clear hJO htk
  refine aP 21 20 22 49 (r.length) (fun j fr st2=>(fr 3=.mp st.next∧fr 10=.sl 0 R.length (bA R)∧fr 12=i j0∧fr 11=i R.length)∧fr 5=.sl 0 r.length (us r)∧fr 19=.sl 0 r.length (us r)∧fr 6=i (if j=0 then(r.length:Int)-1 else(j:Int)-1)∧∃ loc,MM (jC r A0 j) loc st.next st st2) ?_ ?_ ?_
  ·exact⟨⟨by simp[f3],by simp[f10],by simp[fi],by simp[fn]⟩,by simp,by simp,by simp,loc,hM⟩
  ·clear f3 f10 fi fn hM loc s fr
   rintro k fr s hlk ⟨⟨f3,f10,f12,f11⟩,f5,f19,f6,loc,hM⟩ fi fn JO2 hJO2
   have hdk:=qG r k hlk
   have hpk:sY r.length k<r.length:=by unfold sY;split<;>omega
   have hpi:(if k=0 then(r.length:Int)-1 else(k:Int)-1)=((sY r.length k:Nat):Int):=by unfold sY;split<;>omega
   rw[hpi]at f6
   have hdp:=qG r (sY r.length k) hpk
   have hmod:((k:Int)+1).tmod (r.length:Int)=(((k+1) % r.length:Nat):Int):=by
    rw[Int.tmod_eq_emod_of_nonneg (by omega)]
    exact(Int.natCast_emod _ _).symm
   have hml:(k+1) % r.length<r.length:=Nat.mod_lt _ (by omega)
   have hdm:=qG r ((k+1) % r.length) hml
   have hw:IntKind.i64.wrap ((k:Int)+1)=(k:Int)+1:=wrap_i64 _ (by omega) (by omega)
   have hsn:jC r A0 (k+1)=mQ (r.getD k 0) (r.getD (sY r.length k) 0) (r.getD ((k+1) % r.length) 0) (jC r A0 k):=rfl
   generalize jC r A0 k=A at *
   generalize sY r.length k=pk at *
   generalize (k+1) % r.length=mk' at *
   generalize r.getD k 0=v at *
   generalize r.getD pk 0=x at *
   generalize r.getD mk' 0=y at *
   have hr0:¬(r.length:Int)=0:=by omega
   have hrn:¬r=[]:=fun e=>by rw[e]at hlk;simp at hlk
   have hpk':(pk:Int)<r.length:=by omega
   have hml':(mk':Int)<r.length:=by omega
   have hH:=hM.out
   have hg:=aBo A loc v
   by_cases hv:v∈A.map (·.1)
   ·rw[if_pos hv]at hg
    obtain⟨⟨v',P⟩,hP,rfl⟩:=List.mem_map.1 hv
    simp only at hg hsn hdk
    have hI:=(hM.inn _ hP).1
    have hput:=aAN x y P
    have hM2:=hM.put (x:=x) (y:=y) hP
    simp only at hI
    generalize loc v'=lv at *
    (repeat' (first|refine qS ?_|(refine qK ?_;simp only[ak,reduceIte])|(refine qC ?_;simp[f3,f5,f19,f6,fi,fn,hlk,hdk,hH,hg])|(refine w_e [] ?_;intro J hJ;simp only[];simp[f3,f5,f19,f6,fi,fn,hlk,hdk,hH,hg];(refine hJ _ _ ?_;clear hJ J;simp only[ak,reduceIte]))))
    (refine w_s [] [st.next,lv] [(0,true),(1,true),(2,true),(3,true),(4,true),(5,true),(6,true),(7,true),(8,true),(9,true),(10,true),(11,true),(12,true),(13,true),(14,true),(15,false)] ?_;intro J hJ;simp[f3,f5,f19,f6,fi,fn,hlk,hdk,hdp,hdm,hpk,hml,hpk',hml',hr0,hrn,hw,hmod,hH,hg,hI];(refine hJ _ _ ?_;clear hJ J;simp only[ak,reduceIte]))
    rw[hput]
    (repeat' (refine w_e [] ?_;intro J hJ;simp only[];simp[];(refine hJ _ _ ?_;clear hJ J;simp only[ak,reduceIte])))
    refine hJO2 _ _ (by simp[fi]) (by simp[fn]) ⟨⟨by simp[f3],by simp[f10],by simp[f12],by simp[f11]⟩,by simp[f5],by simp[f19],by simp,loc,?_⟩
    rw[hsn];exact hM2
   ·rw[if_neg hv]at hg
    have c1:¬st.next=s.next:=by have:=hM.olt;omega
    have hM1:=hM.add hv
    have hadd:=aLS loc s.next hv
    have hpa:=aDN v x y A hv
    (repeat' (first|refine qS ?_|(refine qC ?_;simp[f3,f5,f19,f6,fi,fn,hlk,hdk,hH,hg,c1])|(refine w_e [] ?_;intro J hJ;simp only[];simp[f3,f5,f19,f6,fi,fn,hlk,hdk,hH,hg,c1];(refine hJ _ _ ?_;clear hJ J;simp only[ak,reduceIte]))))
    rw[hadd]
    generalize (s.new (.map false [.u32] [])).set st.next (.map false [.u32] (ouL (A++[(v,[])]) fun x=>if x=v then s.next else loc x))=s1 at *
    generalize hl1:(fun x=>if x=v then s.next else loc x)=loc1 at *
    have hP:(v,[])∈A++[(v,([]:List (Int×Int)))]:=by simp
    have hH:=hM1.out
    have hg:=aBo (A++[(v,[])]) loc1 v
    rw[if_pos (by simp)]at hg
    have hI:=(hM1.inn _ hP).1
    have hput:=aAN x y []
    have hM2:=hM1.put (x:=x) (y:=y) hP
    rw[hpa]at hM2
    simp only at hI
    generalize A++[(v,([]:List (Int×Int)))]=A1 at *
    generalize loc1 v=lv at *
    clear hM
    (refine w_s [] [st.next,lv] [(0,true),(1,true),(2,true),(3,true),(4,true),(5,true),(6,true),(7,true),(8,true),(9,true),(10,true),(11,true),(12,true),(13,true),(14,true),(15,false)] ?_;intro J hJ;simp[f3,f5,f19,f6,fi,fn,hlk,hdk,hdp,hdm,hpk,hml,hpk',hml',hr0,hrn,hw,hmod,hH,hg,hI];(refine hJ _ _ ?_;clear hJ J;simp only[ak,reduceIte]))
    rw[hput]
    (repeat' (refine w_e [] ?_;intro J hJ;simp only[];simp[];(refine hJ _ _ ?_;clear hJ J;simp only[ak,reduceIte])))
    refine hJO2 _ _ (by simp[fi]) (by simp[fn]) ⟨⟨by simp[f3],by simp[f10],by simp[f12],by simp[f11]⟩,by simp[f5],by simp[f19],by simp,loc1,?_⟩
    rw[hsn];exact hM2
  ·clear f3 f10 fi fn hM loc s fr
   rintro fr s ⟨⟨f3,f10,f12,f11⟩,f5,f19,f6,loc,hM⟩
   skip
   exact hJ0 loc _ _ (by simp[f3]) (by simp[f10]) (by simp[f12]) (by simp[f11]) hM
 ·rintro fr s ⟨f3,f10,loc,hM⟩
  rw[List.take_length]at hM
  (repeat' (first|refine qS ?_|(refine qR ?_;simp only[ak,reduceIte];simp[f3])|(refine w_e [] ?_;intro J hJ;simp only[];simp[f3];(refine hJ _ _ ?_;clear hJ J;simp only[ak,reduceIte]))))
  exact⟨_,hM⟩
end Go.Proofs.YtempldclppogmaaGreatDoor.Aw
