/- Blocks: rows of edges and rows of blocks in order. -/
import Derived.Test.YtempldclppogmaaGreatDoorJj
import Derived.Test.YtempldclppogmaaGreatDoorAwFz
import Derived.Test.YtempldclppogmaaGreatDoorAwRg
import Derived.Test.YtempldclppogmaaGreatDoorAwZ
import Derived.Test.YtempldclppogmaaGreatDoorAwFr
set_option linter.unusedVariables false
set_option linter.unusedSimpArgs false
namespace Go.Proofs.YtempldclppogmaaGreatDoor.Aw
open Go Go.RowKit Go.Proofs.YtempldclppogmaaGreatDoor.Pl Go.Proofs.YtempldclppogmaaGreatDoor.Eu
def kU(x y:Int):Int:=if x<y then -1 else if y<x then 1 else 0
theorem aDI(x y:Int):kU x y<0↔x<y:=by
 unfold kU
 by_cases h1:x<y
 ·rw[if_pos h1];omega
 ·rw[if_neg h1];by_cases h2:y<x
  ·rw[if_pos h2];omega
  ·rw[if_neg h2];omega
theorem aCh(x y:Int)(st:St):aB Tryz.prog 64 [u x,u y] st fun r st'=>r=i (kU x y)∧st'=st:=by
 refine qO aF Tryz.func64 rfl rfl Tryz.ntmps64 (rs:=[.tmp 4]) rfl sS ?_
 (repeat' (first|refine qS ?_|(refine w_e [] ?_;intro J hJ;simp only[];simp[];(try refine hJ _ _ (zZ ?_)))))
 refine qF (isNaN x _) ?_;rintro r st' ⟨rfl,rfl⟩
 (repeat' (first|refine qS ?_|((first|(refine w_e [] ?_;intro J hJ;simp only[])|(refine aE ?_));simp[];(try refine hJ _ _ (zZ ?_)))))
 refine qF (isNaN y _) ?_;rintro r st' ⟨rfl,rfl⟩
 by_cases h1:x<y
 ·(repeat' (first|refine qS ?_|(refine qK (zZ ?_))|(refine qR (zZ ?_);simp[h1,kU])|(refine qC ?_;simp[h1,kU])|((first|(refine w_e [] ?_;intro J hJ;simp only[])|(refine aE ?_));simp[h1,kU];refine hJ _ _ (zZ ?_))))
 ·by_cases h2:y<x
  ·(repeat' (first|refine qS ?_|(refine qK (zZ ?_))|(refine qR (zZ ?_);simp[h1,h2,kU])|(refine qC ?_;simp[h1,h2,kU])|((first|(refine w_e [] ?_;intro J hJ;simp only[])|(refine aE ?_));simp[h1,h2,kU];refine hJ _ _ (zZ ?_))))
  ·(repeat' (first|refine qS ?_|(refine qK (zZ ?_))|(refine qR (zZ ?_);simp[h1,h2,kU])|(refine qC ?_;simp[h1,h2,kU])|((first|(refine w_e [] ?_;intro J hJ;simp only[])|(refine aE ?_));simp[h1,h2,kU];refine hJ _ _ (zZ ?_))))
theorem aPU(x y:Ed)(st:St):aB Tryz.prog 146 [.ag (edL x),.ag (edL y)] st fun r st'=>r=i (kU x.id y.id)∧st'=st:=by
 refine qT (Q:=fun r=>r=i (kU x.id y.id)) ?_ fun r h=>by subst h;trivial
 obtain⟨xi,xa,xb⟩:=x
 obtain⟨yi,ya,yb⟩:=y
 refine qO aF Tryz.func146 rfl rfl Tryz.ntmps146 (rs:=[.tmp 4]) rfl sS ?_
 (repeat' (first|refine qS ?_|(refine w_e [] ?_;intro J hJ;simp only[];simp[];(try refine hJ _ _ (zZ ?_)))))
 refine qE (aCh xi yi _) sS ?_;rintro r s1 ⟨rfl,rfl⟩
 (repeat' (first|(refine qR (zZ ?_);simp[kU])|(refine aE ?_;simp[kU];refine hJ _ _ (zZ ?_))))
 exact(aA.new _ _).trans (aA.new _ _)
theorem aIL(x y:Ed)(X Y:List Ed)(st:St):aB Tryz.prog 72 [.sl 0 (X.length+1) (eds (x::X)),.sl 0 (Y.length+1) (eds (y::Y))] st fun r st'=>r=i (kU x.id y.id)∧st'=st:=by
 refine qT (Q:=fun r=>r=i (kU x.id y.id)) ?_ fun r h=>by subst h;trivial
 obtain⟨xi,xa,xb⟩:=x
 obtain⟨yi,ya,yb⟩:=y
 have e1:eds (⟨xi,xa,xb⟩::X)=u xi::u xa::u xb::eds X:=rfl
 have e2:eds (⟨yi,ya,yb⟩::Y)=u yi::u ya::u yb::eds Y:=rfl
 rw[e1,e2]
 refine qO aF Tryz.func72 rfl rfl Tryz.ntmps72 (rs:=[.tmp 4]) rfl sS ?_
 (repeat' (first|refine qS ?_|(refine w_e [] ?_;intro J hJ;simp only[];simp[];refine hJ _ _ (zZ ?_))))
 (refine w_s [] [] [(0,true),(1,true),(2,true),(3,true),(4,true),(5,true),(6,true),(7,true),(8,false),(9,true)] ?_;intro J hJ;simp[])
 refine qD (aCh xi yi _) sS ?_;rintro r s1 ⟨rfl,rfl⟩
 refine⟨fun h=>by first|(cases h;done)|simp,?_⟩
 (refine bE ?_;simp[];refine hJ _ _ (zZ ?_))
 (repeat' (refine qR (zZ ?_);simp[kU]))
 exact aA.refl _
section
variable {es:List Ed} (hids:es.Pairwise fun x y=>x.id<y.id)
include hids
theorem aNz{a b:Nat}(ha:a<es.length)(hb:b<es.length):(eAt es a).id<(eAt es b).id↔a<b:=by
 unfold eAt
 rw[bZ _ _ ha,bZ _ _ hb]
 rw[List.pairwise_iff_getElem]at hids
 rcases Nat.lt_trichotomy a b with k|k|k
 ·exact⟨fun _=>k,fun _=>hids a b ha hb k⟩
 ·subst k;omega
 ·have:=hids b a hb ha k;omega
theorem aMc:CE.aAZ 146 [] (fun x=>eAt es x.toNat) fun x=>0≤x∧x.toNat<es.length:=
 ⟨fun x y st hx hy=>(aPU _ _ st).mono fun r s h=>⟨⟨_,h.1,by rw[aDI,aNz hids hx.2 hy.2];omega⟩,h.2⟩⟩
theorem aPP(P:List Nat)(hn:P.Nodup)(hP:∀ i∈P,i<es.length)(q:Nat)(st:St)(hl:P.length≤12)(hq:q<st.next)(hH:st.H q=.box 56 3 (eds (P.map (eAt es)))):
 aB Tryz.prog 145 [.ms q 0 P.length,.fn (.func 146) []] st fun r st'=>st'.H q=.box 56 3 (eds ((oQ es.length P).map (eAt es)))∧bN q st st':=by
 have e:∀ L:List Nat,CE.es3 (fun x=>eAt es x.toNat) (L.map fun k:Nat=>(k:Int))=eds (L.map (eAt es)):=fun L=>by
  unfold CE.es3;rw[List.map_map];rfl
 have h:=CE.aKr (aMc hids) (P.map fun k:Nat=>(k:Int)) q st (fun x hx=>by
  obtain⟨k,hk,rfl⟩:=List.mem_map.1 hx
  exact⟨oO,by simpa using hP k hk⟩) (by simpa using hl) hq (by rw[e];exact hH)
 rw[List.length_map]at h
 refine h.mono ?_
 rintro r s ⟨c,h1,h2,h3,h4⟩
 refine⟨?_,h4⟩
 have hc:c=(oQ es.length P).map fun k:Nat=>(k:Int):=by
  refine oL h3 ?_ (h2.trans ((rD hn hP).map _).symm)
  rw[List.pairwise_map]
  exact(rL _ _).imp fun k=>by omega
 rw[h1,hc,e]
def bkL(es:List Ed)(out:List (List Nat)):List LV:=out.map fun B=>.sl 0 B.length (eds (B.map (eAt es)))
omit hids in
theorem xP(es:List Ed)(out:List (List Nat)):(bkL es out).length=out.length:=by simp[bkL]
theorem aMr:CB.aAZ 72 [] (fun x=>(fL es x.toNat).length) (fun x=>eds ((fL es x.toNat).map (eAt es))) fun x=>0≤x∧x.toNat<es.length∧(fL es x.toNat).headD 0=x.toNat:=by
 refine⟨fun x y st hx hy=>?_⟩
 have hh:∀ z:Nat,z<es.length→(fL es z).headD 0=z→∃ R,fL es z=z::R:=fun z hz he=>by
  have hm:z∈fL es z:=aCO.2 ⟨hz,.refl⟩
  cases hc:fL es z with
  |nil=>rw[hc]at hm;cases hm
  |cons a R=>rw[hc]at he;simp at he;exact⟨R,by rw[he]⟩
 obtain⟨X,eX⟩:=hh _ hx.2.1 hx.2.2
 obtain⟨Y,eY⟩:=hh _ hy.2.1 hy.2.2
 rw[eX,eY]
 have:=aIL (eAt es x.toNat) (eAt es y.toNat) (X.map (eAt es)) (Y.map (eAt es)) st
 rw[List.length_map,List.length_map]at this
 exact this.mono fun r s h=>⟨⟨_,h.1,by rw[aDI,aNz hids hx.2.1 hy.2.1];omega⟩,h.2⟩
theorem aPS(out:List (List Nat))(hall:∀ i,i∈out.flatten↔i<es.length)(hok:∀ B∈out,iT es B)(hnd:out.flatten.Nodup)(q:Nat)(st:St)(hl:out.length≤12)(hq:q<st.next)(hH:st.H q=.box 23 1 (bkL es out)):
 aB Tryz.prog 71 [.ms q 0 out.length,.fn (.func 72) []] st fun r st'=>st'.H q=.box 23 1 (bkL es (iV es))∧(iV es).Perm out∧bN q st st':=by
 obtain⟨L,hL⟩:∃ L:List Int,L=out.map fun B=>((B.headD 0:Nat):Int):=⟨_,rfl⟩
 have hB:∀ B∈out,fL es (B.headD 0)=B:=fun B h=>((hok B h).cls (head_mem (hok B h).ne)).symm
 have hD:∀ x∈L,0≤x∧x.toNat<es.length∧(fL es x.toNat).headD 0=x.toNat:=fun x hx=>by
  rw[hL]at hx
  obtain⟨B,h,rfl⟩:=List.mem_map.1 hx
  refine⟨oO,?_,?_⟩
  ·simpa using(hok B h).lt _ (head_mem (hok B h).ne)
  ·rw[Int.toNat_natCast,hB B h]
 have e:∀ c:List Int,CB.ws (fun x=>(fL es x.toNat).length) (fun x=>eds ((fL es x.toNat).map (eAt es))) c=bkL es (c.map fun x=>fL es x.toNat):=fun c=>by
  unfold bkL CB.ws;rw[List.map_map];rfl
 have eL:L.map (fun x=>fL es x.toNat)=out:=by
  rw[hL,List.map_map]
  have:∀ B∈out,((fun x:Int=>fL es x.toNat)∘fun B:List Nat=>((B.headD 0:Nat):Int)) B=B:=fun B h=>by
   show fL es ((B.headD 0:Nat):Int).toNat=B
   rw[Int.toNat_natCast];exact hB B h
  rw[List.map_congr_left this,List.map_id']
 have hLn:L.Nodup:=by
  rw[hL]
  refine List.pairwise_map.2 ?_
  have:=(List.pairwise_flatten.1 hnd).2
  refine this.imp_of_mem fun {a b} ha hb hd he=>?_
  exact hd _ (head_mem (hok a ha).ne) _ (head_mem (hok b hb).ne) oO
 have h:=CB.aKr (aMr hids) L q st hD (by rw[hL,List.length_map];exact hl) hq (by rw[e,eL];exact hH)
 rw[show L.length=out.length by rw[hL,List.length_map]]at h
 refine h.mono ?_
 rintro r s ⟨c,h1,h2,h3,h4⟩
 have hcD:∀ x∈c,0≤x∧x.toNat<es.length∧(fL es x.toNat).headD 0=x.toNat:=fun x hx=>hD x (h2.mem_iff.1 hx)
 have hp:(c.map fun x=>fL es x.toNat).Perm out:=by
  have:=h2.map fun x:Int=>fL es x.toNat
  rwa [eL]at this
 have hr:(c.map fun x=>fL es x.toNat).Pairwise fun x y=>x.headD 0<y.headD 0:=by
  rw[List.pairwise_map]
  have hcn:=h2.nodup_iff.2 hLn
  refine(h3.and hcn).imp_of_mem fun {a b} ha hb hab=>?_
  have h5:=hcD a ha
  have h6:=hcD b hb
  rw[h5.2.2,h6.2.2]
  have:=hab.2
  have:=hab.1
  omega
 have hled:=yF hall hok hp hr
 refine⟨by rw[h1,e,hled],by rw[← hled];exact hp,h4⟩
end
def isN(l:List Nat):List LV:=l.map fun k:Nat=>i (k:Int)
@[simp] theorem iP(l:List Nat):(isN l).length=l.length:=by simp[isN]
theorem aKQ(l:List Nat)(k:Nat)(hk:k<l.length):(isN l).drop k=i ((l.getD k 0:Nat):Int)::(isN l).drop (k+1):=by
 unfold isN
 rw[List.drop_eq_getElem_cons (by simpa using hk)]
 simp[hk]
theorem aKg(l:List Nat)(k:Nat):(isN l).take k=isN (l.take k):=by simp[isN]
theorem aOS{v x:Int}{V:List Int}(h:¬v=x):(v::V).idxOf x=V.idxOf x+1:=by
 have e:(v==x)=false:=by rw[beq_eq_false_iff_ne];exact h
 rw[List.idxOf_cons,e];rfl
def nbF:Nat→List Int→List (List Int×LV)
 |_,[]=>[]
 |k,v::V=>([v],i ((k:Int)+1))::nbF (k+1) V
theorem aFa(V:List Int):∀ k,(nbF k V).length=V.length:=by
 induction V with
 |nil=>intro k;rfl
 |cons v V ih=>intro k;simp[nbF,ih]
theorem aIS(V:List Int)(x:Int):∀ k,aY (nbF k V) [x]=if x∈V then some (i ((k:Int)+nmW V x))else none:=by
 induction V with
 |nil=>intro k;rfl
 |cons v V ih=>
  intro k
  unfold nbF aY
  by_cases e:v=x
  ·subst e
   simp[nmW]
  ·have e2:¬([x]==[v])=true:=by simpa using fun k=>e k.symm
   rw[if_neg e2,ih (k+1)]
   by_cases hx:x∈V
   ·rw[if_pos hx,if_pos (List.mem_cons_of_mem _ hx)]
    unfold nmW
    rw[if_pos hx,if_pos (List.mem_cons_of_mem _ hx),aOS e]
    congr 2
    omega
   ·rw[if_neg hx,if_neg]
    rw[List.mem_cons,not_or]
    exact⟨fun h=>e h.symm,hx⟩
theorem aKS{x:Int}(V:List Int)(h:x∉V):∀ k,aV (nbF k V) [x] (i ((k:Int)+V.length+1))=nbF k (V++[x]):=by
 induction V with
 |nil=>intro k;simp[nbF,aV]
 |cons v V ih=>
  intro k
  rw[List.mem_cons,not_or]at h
  have e:¬([x]==[v])=true:=by simpa using h.1
  unfold nbF aV
  simp only[e,Bool.false_eq_true,if_false,List.cons_append]
  have:=ih h.2 (k+1)
  rw[show((k:Int)+(v::V).length+1)=((k+1:Nat):Int)+V.length+1 by simp;omega,this]
theorem aGh(V:List Int)(x:Int):aY (nbF 0 V) [x]=if x∈V then some (i (nmW V x))else none:=by
 rw[aIS];split<;>simp
theorem aKU{x:Int}{V:List Int}(h:x∉V):aV (nbF 0 V) [x] (i ((V.length:Int)+1))=nbF 0 (V++[x]):=by
 have:=aKS V h 0
 simpa using this
def lwF:List Int→List Int→List (List Int×LV)
 |v::V,x::L=>([v],i x)::lwF V L
 |_,_=>[]
theorem qQ:∀(V L:List Int) (x:Int),L.length=V.length→x∈V→aY (lwF V L) [x]=some (i (L.getD (V.idxOf x) 0))
 |[],_,_,_,h=>by cases h
 |v::V,[],x,hl,_=>by simp at hl
 |v::V,y::L,x,hl,h=>by
  unfold lwF aY
  by_cases e:v=x
  ·subst e;simp
  ·have e2:¬([x]==[v])=true:=by simpa using fun k=>e k.symm
   simp only[e2,Bool.false_eq_true,if_false]
   rw[qQ V L x (by simpa using hl) (by rcases List.mem_cons.1 h with k|k;exact absurd k.symm e;exact k),aOS e]
   rfl
theorem sN:∀(V L:List Int) (x y:Int),L.length=V.length→x∉V→aV (lwF V L) [x] (i y)=lwF (V++[x]) (L++[y])
 |[],[],_,_,_,_=>rfl
 |[],_::_,_,_,hl,_=>by simp at hl
 |v::V,[],x,_,hl,_=>by simp at hl
 |v::V,z::L,x,y,hl,h=>by
  rw[List.mem_cons,not_or]at h
  have e:¬([x]==[v])=true:=by simpa using h.1
  unfold lwF aV
  simp only[e,Bool.false_eq_true,if_false,List.cons_append]
  rw[sN V L x y (by simpa using hl) h.2]
theorem mB:∀(V L:List Int) (x y:Int),L.length=V.length→x∈V→aV (lwF V L) [x] (i y)=lwF V (L.set (V.idxOf x) y)
 |[],_,_,_,_,h=>by cases h
 |v::V,[],x,_,hl,_=>by simp at hl
 |v::V,z::L,x,y,hl,h=>by
  unfold lwF aV
  by_cases e:v=x
  ·subst e;simp[lwF]
  ·have e2:¬([x]==[v])=true:=by simpa using fun k=>e k.symm
   simp only[e2,Bool.false_eq_true,if_false]
   rw[mB V L x y (by simpa using hl) (by rcases List.mem_cons.1 h with k|k;exact absurd k.symm e;exact k),aOS e]
   rfl
theorem aER{l:List Nat}{i:Nat}(h:i∈l):gI l i<l.length∧l.getD (gI l i) 0=i∧∀ j,gI l i<j→j<l.length→l.getD j 0≠i:=by
 obtain⟨P,R,rfl,hR⟩:∃ P R,l=P++i::R∧i∉R:=by
  obtain⟨P,R,e,hR⟩:=List.eq_append_cons_of_mem (List.mem_reverse.2 h)
  refine⟨R.reverse,P.reverse,?_,by simpa using hR⟩
  have:=congrArg List.reverse e
  simpa using this
 rw[sJ hR]
 refine⟨sS,sS,fun j h1 h2 e=>hR ?_⟩
 rw[List.getD_eq_getElem?_getD,List.getElem?_append_right oO]at e
 obtain⟨m,hm⟩:∃ m,j-P.length=m+1:=⟨j-P.length-1,oO⟩
 rw[hm,List.getElem?_cons_succ]at e
 simp at h2
 rw[List.getElem?_eq_getElem oO]at e
 simp only[Option.getD_some]at e
 rw[← e]
 exact List.getElem_mem _
structure nO(g:Gr)(B W a nb lw:Nat)(tk:Int→Nat)(s:Bw)(st:St):Prop where
 ex:∃ tS tB CS ea,st.H W=.box 108 6 [.sl 0 g.es.length (eds g.es),.mp a,.mp nb,.mp lw,.ms tS 0 s.stk.length,.ms tB 0 s.out.length]∧
  (st.H a=.map false [.u32] ea∧∀ v,aY ea [v]=if atP g.es v=[]then none else some (.sl (tk v) (atP g.es v).length (isN (atP g.es v))))∧
  st.H nb=.map false [.u32] (nbF 0 s.vis)∧st.H lw=.map false [.u32] (lwF s.vis s.low)∧(st.H tS=.box 3 1 CS∧CS.take s.stk.length=isN s.stk)∧st.H tB=.box 23 1 (bkL g.es s.out)∧
  (a≠nb∧a≠lw∧nb≠lw)∧(B≤tS∧B≤tB∧tS<st.next∧tB<st.next)
 bd:(B≤W∧B≤a∧B≤nb∧B≤lw)∧(W<st.next∧a<st.next∧nb<st.next∧lw<st.next)
theorem bD{st:St}{a b:Nat}{x y:cA}(ha:st.H a=x)(hb:st.H b=y)(h:x≠y):¬a=b:=fun e=>h (by rw[← ha,e,hb])
theorem aIV{es:List Ed}{P:List Nat}{j:Nat}(hj:j<P.length):(P.take (j+1)).map (eAt es)=(P.take j).map (eAt es)++[eAt es (P.getD j 0)]:=by
 rw[List.take_succ_eq_append_getElem hj,List.map_append,List.getD_eq_getElem?_getD,List.getElem?_eq_getElem hj];rfl
structure KbB(B:Nat)(st st':St):Prop where
 next:st.next≤st'.next
 H:∀ x,x<B→st'.H x=st.H x
theorem KbB.refl(B:Nat)(st:St):KbB B st st:=⟨Nat.le_refl _,fun _ _=>rfl⟩
theorem KbB.trans{B:Nat}{a b c:St}(h:KbB B a b)(k:KbB B b c):KbB B a c:=⟨Nat.le_trans h.next k.next,fun x hx=>by rw[k.H x hx,h.H x hx]⟩
theorem KbB.new{B:Nat}{a b:St}(h:KbB B a b)(hB:B≤b.next)(o:cA):KbB B a (b.new o):=⟨by rw[aC];exact Nat.le_succ_of_le h.next,fun x hx=>by rw[bI,if_neg oO];exact h.H x hx⟩
theorem KbB.set{B:Nat}{a b:St}(h:KbB B a b){l:Nat}(hl:B≤l)(o:cA):KbB B a (b.set l o):=⟨h.next,fun x hx=>by rw[bH,if_neg oO];exact h.H x hx⟩
set_option maxHeartbeats 4000000 in
theorem aRI(g:Gr)(hids:g.es.Pairwise fun x y=>x.id<y.id)(B W a nb lw:Nat)(tk:Int→Nat)(s:Bw)(i0:Nat)(st:St)(h:nO g B W a nb lw tk s st)(hi:i0∈s.stk)(hsl:∀ k∈s.stk.drop (gI s.stk i0),k<g.es.length)(hsn:(s.stk.drop (gI s.stk i0)).Nodup)(he:g.es.length≤10)(hkl:s.stk.length≤60000)(hol:s.out.length≤100000):
 aB Tryz.prog 104 [.pt W 0,i i0] st fun r st'=>∃ s',aDv g.es.length s i0=some s'∧nO g B W a nb lw tk s' st'∧KbB B st st':=by
 obtain⟨hl1,hl2,hl3⟩:=aER hi
 have hcw:aDv g.es.length s i0=some { s with stk:=s.stk.take (gI s.stk i0),out:=s.out++[oQ g.es.length (s.stk.drop (gI s.stk i0))] }:=by unfold aDv;rw[if_pos hi]
 rw[hcw]
 clear hcw
 obtain⟨⟨tS,tB,CS,ea,hW,⟨hA,hAm⟩,hN,hL,⟨hS,hSt⟩,hBk,⟨n1,n2,n3⟩,⟨b1,b2,b3,b4⟩⟩,⟨c1,c2,c3,c4⟩,d1,d2,d3,d4⟩:=h
 generalize hkk:gI s.stk i0=kl at *
 obtain⟨P,hP⟩:∃ P,P=s.stk.drop kl:=⟨_,rfl⟩
 rw[← hP]at hsl hsn ⊢
 have hPl:P.length=s.stk.length-kl:=by rw[hP,List.length_drop]
 have hPe:P.length≤g.es.length:=by have:=List.Nodup.length_le_of_subset hsn (fun k hk=>List.mem_range.2 (hsl k hk));rwa [List.length_range]at this
 have hCS:s.stk.length≤CS.length:=by
  have:=congrArg List.length hSt
  rw[List.length_take,iP]at this
  omega
 have hCd:∀ k,k<s.stk.length→CS.drop k=i ((s.stk.getD k 0:Nat):Int)::CS.drop (k+1):=fun k hk=>by
  have e1:CS=isN s.stk++CS.drop s.stk.length:=by rw[← hSt];exact(List.take_append_drop _ _).symm
  rw[List.drop_eq_getElem_cons oO]
  congr 1
  have:CS[k]'(by omega)=(isN s.stk)[k]'(by simpa using hk):=by
   have h2:=List.getElem_of_eq hSt (i:=k) (by rw[List.length_take];omega)
   rw[List.getElem_take]at h2
   exact h2
  rw[this]
  simp[isN,hk]
 have w1:=aR s.stk.length oO oO
 have m1:¬W=tS:=bD hW hS sS
 have m2:¬W=tB:=bD hW hBk sS
 have m3:¬tS=tB:=bD hS hBk sS
 have m4:¬W=a:=bD hW hA sS
 have m5:¬W=nb:=bD hW hN sS
 have m6:¬W=lw:=bD hW hL sS
 have m7:¬a=tS:=bD hA hS sS
 have m8:¬a=tB:=bD hA hBk sS
 have m9:¬nb=tS:=bD hN hS sS
 have m10:¬nb=tB:=bD hN hBk sS
 have m11:¬lw=tS:=bD hL hS sS
 have m12:¬lw=tB:=bD hL hBk sS
 refine qO aF Tryz.func104 rfl rfl Tryz.ntmps104 (rs:=[]) rfl sS ?_
 (repeat' (first|refine qS ?_|refine qB ?_|(refine w_e [] ?_;intro J hJ;simp only[];simp[hW,w1];refine hJ _ _ (zZ ?_))))
 refine qL (fun n fr st2=>∃ k:Nat,n=k∧st2=st∧fr 0=.pt W 0∧fr 1=i i0∧fr 4=i k∧kl≤k∧k<s.stk.length) (s.stk.length-1) ?_ ?_
 ·exact⟨s.stk.length-1,rfl,rfl,sS,sS,sS,oO,oO⟩
 rintro k fr st2 ⟨_,rfl,hst2,f0,f1,f4,hk1,hk2⟩ JJ hJJ
 rw[hst2];clear hst2 st2
 have hd:=hCd k hk2
 have hkc:k<CS.length:=oO
 by_cases hk:k=kl
 rotate_left
 ·have hne:=hl3 k oO hk2
  generalize s.stk.getD k 0=y at *
  have hnb:((y:Int) != (i0:Int))=true:=by rw[bne_iff_ne];omega
  have w2:=aR k oO oO
  (repeat' (first|refine qS ?_|refine qB ?_|(refine qK (zZ ?_))|(refine qC ?_;simp[f0,f1,f4,hW,hS,hd,hkc,hk2,hnb,w2])|(refine w_e [] ?_;intro J hJ;simp only[];simp[f0,f1,f4,hW,hS,hd,hkc,hk2,hnb,w2];refine hJ _ _ (zZ ?_))))
  exact hJJ (k-1) _ _ oO ⟨k-1,rfl,rfl,by simp[f0],by simp[f1],sS,oO,oO⟩
 clear hJJ
 subst hk
 rw[hl2]at hd
 have hnb:((i0:Int) != (i0:Int))=false:=sS
 (repeat' (first|refine qS ?_|refine qB ?_|(refine qX (zZ ?_))|(refine qC ?_;simp[f0,f1,f4,hW,hS,hd,hkc,hk2,hnb])|(refine w_e [] ?_;intro J hJ;simp only[];simp[f0,f1,f4,hW,hS,hd,hkc,hk2,hnb];(repeat refine ca ?_);refine hJ _ _ (zZ ?_))))
 rw[← hPl]
 refine qH 5 56 3 sS ?_
 have hel:=aJ g.es
 refine aM 32 31 33 46 (P.length) (fun j fr st2=>fr 0=.pt W 0∧fr 4=i k∧fr 30=.ms tS k P.length∧aA st st2∧∃ q,fr 5=.ms q 0 j∧st2.H q=.box 56 3 (eds ((P.take j).map (eAt g.es)))∧st.next≤q∧q<st2.next) ?_ ?_ ?_
 ·refine⟨by simp[f0],by simp[f4],by simp[hPl],aA.new _ _,st.next,sS,by simp[eds],oO,sS⟩
 ·clear f0 f1 f4 fr hd hnb
  rintro j fr s1 hlt ⟨g0,g4,g30,hkp,q,g5,hq,hq1,hq2⟩ fi fn JO hJO
  have hW1:=(hkp.H W d1).trans hW
  have hS1:=(hkp.H tS b3).trans hS
  have hd2:=hCd (k+j) oO
  have hPd:s.stk.getD (k+j) 0=P.getD j 0:=by rw[hP,List.getD_eq_getElem?_getD,List.getD_eq_getElem?_getD,List.getElem?_drop]
  rw[hPd]at hd2
  have hpl:P.getD j 0<g.es.length:=hsl _ (by rw[List.getD_eq_getElem?_getD,List.getElem?_eq_getElem hlt];exact List.getElem_mem _)
  have hde:=aW g.es _ hpl
  rw[aIV hlt]at hJO
  have hql:(eds ((P.take j).map (eAt g.es))).length=j*3:=by rw[aJ,List.length_map,List.length_take];congr 1;omega
  have hap:eds ((P.take j).map (eAt g.es)++[eAt g.es (P.getD j 0)])=eds ((P.take j).map (eAt g.es))++edL (eAt g.es (P.getD j 0)):=by simp[eds]
  rw[hap]at hJO
  unfold eAt at hJO
  generalize hpp:P.getD j 0=p0 at *
  generalize eds ((P.take j).map (eAt g.es))=RR at *
  generalize g.es.getD p0 ed0=x at *
  obtain⟨xi,xa,xb⟩:=x
  simp only[edL]at hJO
  simp only at hde
  have hkj:k+j<CS.length:=oO
  have hp3:p0*3<g.es.length*3:=oO
  have y1:¬q=s1.next:=oO
  have y2:¬q=0:=oO
  (repeat' (first|refine qS ?_|(refine w_e [] ?_;intro J hJ;simp only[];simp[g0,g4,g5,g30,fi,fn,hW1,hS1,hd2,hde,hlt,hq,hql,hkj,hpl,hp3,hel,y1,y2];(repeat refine ca ?_);refine hJ _ _ (zZ ?_))))
  refine hJO _ _ (by simp[fi]) (by simp[fn]) ⟨by simp[g0],by simp[g4],by simp[g30],?_,s1.next+1,sS,sS,oO,sS⟩
  (repeat (first|exact hkp|(refine aA.trans ?_ (aA.new _ _))|(refine aA.set ?_ oO _)))
 ·rintro fr s1 ⟨g0,g4,g30,hkp,q,g5,hq,hq1,hq2⟩
  rw[List.take_length]at hq
  have hW1:=(hkp.H W d1).trans hW
  have hS1:=(hkp.H tS b3).trans hS
  have hk':k≤s.stk.length:=oO
  have hnx:=hkp.next
  have y1:¬q=W:=oO
  (repeat' (first|refine qS ?_|(refine w_e [] ?_;intro J hJ;simp only[];simp[g0,g4,g5,hW1,hk'];(try refine hJ _ _ (zZ ?_)))))
  refine qE (aPP hids P hsn hsl q _ oO (by simp;omega) (by simp[y1,hq])) sS ?_;rintro r s2 ⟨hq3,hoff⟩
  have hn2:=hoff.1
  simp only[aQ]at hn2
  have old:∀ x,x≠q→x≠W→x<st.next→s2.H x=st.H x:=fun x h1 h2 h3=>by
   rw[hoff.2 x h1 (by simp;omega),bH,if_neg h2];exact hkp.H x h3
  have hW2:=hoff.2 W (fun e=>y1 e.symm) (by simp;omega)
  rw[bH,if_pos rfl]at hW2
  have hB2:=(old tB oO (fun e=>m2 e.symm) b4).trans hBk
  have hS2:=(old tS oO (fun e=>m1 e.symm) b3).trans hS
  have hA2:=(old a oO (fun e=>m4 e.symm) d2).trans hA
  have hN2:=(old nb oO (fun e=>m5 e.symm) d3).trans hN
  have hL2:=(old lw oO (fun e=>m6 e.symm) d4).trans hL
  have hbl:=(rD hsn hsl).length_eq
  have hcl:(eds ((oQ g.es.length P).map (eAt g.es))).length=P.length*3:=by rw[aJ,List.length_map,hbl]
  (refine aE ?_;simp[];refine hJ _ _ (zZ ?_))
  refine lG 5 (l:=q) (n:=P.length) (by simp[g5]) hq3 (Nat.le_of_eq hcl.symm) ?_
  rw[List.take_of_length_le (Nat.le_of_eq hcl)]
  have hbL:(bkL g.es s.out).length=s.out.length:=xP _ _
  have z1:¬W=q:=fun e=>y1 e.symm
  have z2:¬tB=q:=oO
  have z3:¬W=s2.next:=oO
  have z4:¬tB=s2.next:=oO
  have z5:¬W=s2.next+1:=oO
  (repeat' (refine w_e [] ?_;intro J hJ;simp only[];simp[g0,hW2,hB2,m2,z1,z2,z3,z4,z5,hbL];(repeat refine ca ?_);refine hJ _ _ (zZ ?_)))
  have q1:¬a=q:=oO
  have q2:¬nb=q:=oO
  have q3:¬lw=q:=oO
  have q4:¬tS=q:=oO
  have q5:¬a=s2.next:=oO
  have q6:¬nb=s2.next:=oO
  have q7:¬lw=s2.next:=oO
  have q8:¬tS=s2.next:=oO
  have q9:¬a=s2.next+1:=oO
  have q10:¬nb=s2.next+1:=oO
  have q11:¬lw=s2.next+1:=oO
  have q12:¬tS=s2.next+1:=oO
  have q13:¬s2.next+1=W:=oO
  have r1:¬a=W:=fun e=>m4 e.symm
  have r2:¬nb=W:=fun e=>m5 e.symm
  have r3:¬lw=W:=fun e=>m6 e.symm
  have r4:¬tS=W:=fun e=>m1 e.symm
  have hbk:bkL g.es (s.out++[oQ g.es.length P])=bkL g.es s.out++[.sl 0 P.length (eds ((oQ g.es.length P).map (eAt g.es)))]:=by
   unfold bkL;rw[List.map_append];simp[hbl]
  have htk:(s.stk.take k).length=k:=by rw[List.length_take];omega
  refine⟨trivial,⟨⟨tS,s2.next+1,CS,ea,by simp[htk],⟨by simp[z1,z2,z3,z4,z5,q1,q2,q3,q4,q5,q6,q7,q8,q9,q10,q11,q12,q13,r1,r2,r3,r4,m2,m3,m8,m10,m12,hA2],hAm⟩,by simp[z1,z2,z3,z4,z5,q1,q2,q3,q4,q5,q6,q7,q8,q9,q10,q11,q12,q13,r1,r2,r3,r4,m2,m3,m8,m10,m12,hN2],by simp[z1,z2,z3,z4,z5,q1,q2,q3,q4,q5,q6,q7,q8,q9,q10,q11,q12,q13,r1,r2,r3,r4,m2,m3,m8,m10,m12,hL2],⟨by simp[z1,z2,z3,z4,z5,q1,q2,q3,q4,q5,q6,q7,q8,q9,q10,q11,q12,q13,r1,r2,r3,r4,m2,m3,m8,m10,m12,hS2],?_⟩,by simp[z1,z2,z3,z4,z5,q1,q2,q3,q4,q5,q6,q7,q8,q9,q10,q11,q12,q13,r1,r2,r3,r4,m2,m3,m8,m10,m12,hbk],⟨n1,n2,n3⟩,b1,oO,by simp;omega,sS⟩,⟨c1,c2,c3,c4⟩,by simp;omega,by simp;omega,by simp;omega,by simp;omega⟩,?_⟩
  ·rw[htk,show CS.take k=(CS.take s.stk.length).take k by rw[List.take_take,Nat.min_eq_left hk'],hSt,aKg]
  ·refine(((((KbB.mk oO fun x hx=>?_:KbB B st s2).set oO _).new ?_ _).set b2 _).new ?_ _).set c1 _
   ·exact old x oO oO oO
   ·simp;omega
   ·simp;omega
theorem zS{P:Program}{N:Nat}{Q:AQ}{k:List eM}{fr:Frm}{st:St}{x y:Code}(I:Frm→St→Prop)(h1:AWp P N x (AK P N (fun e f s=>e=.normal∧I f s) []) fr st)(h2:∀ fr st,I fr st→AWp P N y (AK P N Q k) fr st):
 AWp P N x (AK P N Q (.code y::k)) fr st:=by
 refine cR h1 ?_
 rintro e fr' st' ⟨rfl,hI⟩
 rw[eD]
 exact h2 _ _ hI
theorem aFs{f:Bw→Nat→Option Bw}:∀(l:List Nat) (i:Nat) (s:Bw),goB f (l++[i]) s=(goB f l s).bind fun s'=>f s' i
 |[],i,s=>by
  show(f s i).bind (goB f [])=f s i
  cases f s i<;>rfl
 |j::l,i,s=>by
  show(f s j).bind (goB f (l++[i]))=((f s j).bind (goB f l)).bind _
  cases f s j with
  |none=>rfl
  |some s'=>exact aFs l i s'
theorem xQ{P:List Nat}{n:Nat}(hn:P.Nodup)(h:∀ i∈P,i<n):P.length≤n:=by
 have:=List.Nodup.length_le_of_subset hn (l₂:=List.range n) fun i hi=>List.mem_range.2 (h i hi)
 simpa using this
theorem uJ:∀(N:List (List Nat)),(∀ B∈N,B≠[])→N.length≤N.flatten.length
 |[],_=>Nat.le_refl _
 |B::N,h=>by
  have h1:=uJ N fun B hB=>h B (List.mem_cons_of_mem _ hB)
  have h2:=List.length_pos_iff.2 (h B sS)
  simp only[List.flatten_cons,List.length_append,List.length_cons]
  omega
theorem BLp.sz{g:Gr}{s0 s:Bw}{v by_:Int}{Q:List Nat}{D:List Int}{T:List Nat}{N:List (List Nat)}(h:BLp g s0 v by_ Q s D T N):T.length≤g.es.length∧N.length≤g.es.length:=by
 have hl:∀ i∈T++N.flatten,i<g.es.length:=fun i hi=>((h.pl i).1 hi).1
 have h1:=xQ h.pn hl
 have h2:=uJ N fun B hB=>(h.good B hB).ne
 rw[List.length_append]at h1
 omega
def SzB(g:Gr)(s:Bw):Prop:=s.stk.length≤s.vis.length*(g.es.length+1)∧s.out.length≤s.vis.length*(g.es.length+1)
theorem SzB.child{g:Gr}{s0 s:Bw}{v by_:Int}{Q:List Nat}{D:List Int}{T:List Nat}{N:List (List Nat)}(h0:SzB g s0)(h:BLp g s0 v by_ Q s D T N):s.stk.length+1≤s.vis.length*(g.es.length+1)∧s.out.length≤s.vis.length*(g.es.length+1):=by
 obtain⟨h1,h2⟩:=h.sz
 have h3:(s0.vis.length+1)*(g.es.length+1)≤s.vis.length*(g.es.length+1):=Nat.mul_le_mul_right _ (by rw[h.vis,List.length_append,List.length_cons];omega)
 rw[Nat.add_mul,Nat.one_mul]at h3
 have e1:s.stk.length=s0.stk.length+T.length:=by rw[h.stk,List.length_append]
 have e2:s.out.length=s0.out.length+N.length:=by rw[h.out,List.length_append]
 obtain⟨k1,k2⟩:=h0
 omega
theorem vG{g:Gr}{s:Bw}(hv:g.vs.length≤100)(he:g.es.length≤10)(hnd:s.vis.Nodup)(hs:∀ w∈s.vis,w∈g.vs):s.vis.length≤100∧s.vis.length*(g.es.length+1)≤20100:=by
 have h1:s.vis.length≤g.vs.length:=List.Nodup.length_le_of_subset hnd hs
 exact⟨oO,by have:=Nat.mul_le_mul (show s.vis.length≤100 by omega) (show g.es.length+1≤201 by omega);omega⟩
theorem nO.keeps{g:Gr}{B W a nb lw:Nat}{tk:Int→Nat}{s:Bw}{st st':St}(h:nO g B W a nb lw tk s st)(hk:aA st st'):nO g B W a nb lw tk s st':=by
 obtain⟨⟨tS,tB,CS,ea,hW,⟨hA,hAm⟩,hN,hL,⟨hS,hSt⟩,hBk,hn,⟨b1,b2,b3,b4⟩⟩,hc,d1,d2,d3,d4⟩:=h
 have hx:=hk.next
 exact⟨⟨tS,tB,CS,ea,(hk.H W d1).trans hW,⟨(hk.H a d2).trans hA,hAm⟩,(hk.H nb d3).trans hN,(hk.H lw d4).trans hL,⟨(hk.H tS b3).trans hS,hSt⟩,(hk.H tB b4).trans hBk,hn,b1,b2,oO,oO⟩,hc,oO,oO,oO,oO⟩
theorem aMo{g:Gr}{B W a nb lw:Nat}{tk:Int→Nat}{s:Bw}{S:St}{tS tB:Nat}{CS:List LV}{ea:List (List Int×LV)}(i0:Nat)
 (hW:S.H W=.box 108 6 [.sl 0 g.es.length (eds g.es),.mp a,.mp nb,.mp lw,.ms tS 0 s.stk.length,.ms tB 0 s.out.length])
 (hA:S.H a=.map false [.u32] ea) (hAm:∀ v,aY ea [v]=if atP g.es v=[]then none else some (.sl (tk v) (atP g.es v).length (isN (atP g.es v))))
 (hN:S.H nb=.map false [.u32] (nbF 0 s.vis)) (hL:S.H lw=.map false [.u32] (lwF s.vis s.low)) (hS:S.H tS=.box 3 1 CS) (hBk:S.H tB=.box 23 1 (bkL g.es s.out))
 (hn:a≠nb∧a≠lw∧nb≠lw) (hb:B≤tS∧B≤tB∧tS<S.next∧tB<S.next) (hc:B≤W∧B≤a∧B≤nb∧B≤lw) (hd:W<S.next∧a<S.next∧nb<S.next∧lw<S.next) (o:cA):
 nO g B W a nb lw tk (dL s i0) ((((S.new o).set tS .dead).new (.box 3 1 (isN s.stk++[i (i0:Int)]))).set W (.box 108 6 [.sl 0 g.es.length (eds g.es),.mp a,.mp nb,.mp lw,.ms (S.next+1) 0 (s.stk.length+1),.ms tB 0 s.out.length]))∧
 KbB B S ((((S.new o).set tS .dead).new (.box 3 1 (isN s.stk++[i (i0:Int)]))).set W (.box 108 6 [.sl 0 g.es.length (eds g.es),.mp a,.mp nb,.mp lw,.ms (S.next+1) 0 (s.stk.length+1),.ms tB 0 s.out.length])):=by
 obtain⟨b1,b2,b3,b4⟩:=hb
 obtain⟨c1,c2,c3,c4⟩:=hc
 obtain⟨d1,d2,d3,d4⟩:=hd
 have m1:¬a=W:=bD hA hW sS
 have m2:¬nb=W:=bD hN hW sS
 have m3:¬lw=W:=bD hL hW sS
 have m4:¬tB=W:=bD hBk hW sS
 have m5:¬a=tS:=bD hA hS sS
 have m6:¬nb=tS:=bD hN hS sS
 have m7:¬lw=tS:=bD hL hS sS
 have m8:¬tB=tS:=bD hBk hS sS
 have e1:¬a=S.next:=oO
 have e2:¬nb=S.next:=oO
 have e3:¬lw=S.next:=oO
 have e4:¬tB=S.next:=oO
 have e5:¬a=S.next+1:=oO
 have e6:¬nb=S.next+1:=oO
 have e7:¬lw=S.next+1:=oO
 have e8:¬tB=S.next+1:=oO
 have e9:¬S.next+1=W:=oO
 have hpl:(dL s i0).stk.length=s.stk.length+1:=by simp[dL]
 have hpn:isN (dL s i0).stk=isN s.stk++[i (i0:Int)]:=by simp[dL,isN]
 refine⟨⟨⟨S.next+1,tB,isN s.stk++[i (i0:Int)],ea,by rw[hpl];simp[dL],⟨by simp[m1,m5,e1,e5,hA],hAm⟩,by simp[m2,m6,e2,e6,hN,dL],by simp[m3,m7,e3,e7,hL,dL],⟨by simp[e9],?_⟩,by simp[m4,m8,e4,e8,hBk,dL],hn,oO,b2,sS,by simp;omega⟩,⟨c1,c2,c3,c4⟩,by simp;omega,by simp;omega,by simp;omega,by simp;omega⟩,?_⟩
 ·rw[hpl,← hpn,List.take_of_length_le]
  rw[iP,hpl];exact Nat.le_refl _
 ·exact(((((KbB.refl B S).new oO _).set b1 _).new (by simp;omega) _).set c1 _)
theorem wR{P:Program}{N:Nat}{Q:AQ}{c:Code}{fr:Frm}{st:St}(I:Frm→St→Prop)(h0:I fr st)(h:∀ fr st,I fr st→AWp P N c Q fr st):AWp P N c Q fr st:=h _ _ h0
theorem aKN{g:Gr}{B W a nb lw:Nat}{tk:Int→Nat}{s:Bw}{T:St}(h:nO g B W a nb lw tk s T)(v x:Int):nO g B W a nb lw tk (kH s v x) (T.set lw (.map false [.u32] (lwF s.vis (s.low.set (s.vis.idxOf v) x)))):=by
 obtain⟨⟨tS,tB,CS,ea,hW,⟨hA,hAm⟩,hN,hL,⟨hS,hSt⟩,hBk,⟨n1,n2,n3⟩,⟨b1,b2,b3,b4⟩⟩,hc,d1,d2,d3,d4⟩:=h
 have m1:¬W=lw:=bD hW hL sS
 have m2:¬tS=lw:=bD hS hL sS
 have m3:¬tB=lw:=bD hBk hL sS
 have m4:¬a=lw:=n2
 have m5:¬nb=lw:=n3
 exact⟨⟨tS,tB,CS,ea,by simp[m1,hW,kH],⟨by simp[m4,hA],hAm⟩,by simp[m5,hN,kH],by simp[kH],⟨by simp[m2,hS],hSt⟩,by simp[m3,hBk,kH],⟨n1,n2,n3⟩,b1,b2,by simpa using b3,by simpa using b4⟩,hc,by simpa using d1,by simpa using d2,by simpa using d3,by simpa using d4⟩
def VsI(g:Gr)(tk:Int→Nat)(hgo:Nat→Bw→Bw→Prop)(B W a nb lw:Nat)(s0:Bw)(v by_:Int)(st:St)(j:Nat)(fr:Frm)(st2:St):Prop:=
 fr 0=.pt W 0∧fr 1=u v∧fr 2=i by_∧fr 6=i ((s0.vis.length:Int)+1)∧fr 35=.sl (tk v) (atP g.es v).length (isN (atP g.es v))∧
 ∃ s D T N,hgo j s0 s∧BLp g s0 v by_ ((atP g.es v).take j) s D T N∧(∀ w∈s.vis,w∈g.vs)∧nO g B W a nb lw tk s st2∧KbB B st st2
set_option maxHeartbeats 8000000 in
theorem aOE(g:Gr)(hg:GoodE g)(B W a nb lw:Nat)(tk:Int→Nat)(hv:g.vs.length≤100)(he:g.es.length≤10):∀(n:Nat) (A:Int→Prop) (s:Bw) (v by_:Int) (st:St),tR g A s v by_→v∈g.vs→(∀ w∈s.vis,w∈g.vs)→g.vs.length≤n+s.vis.length→SzB g s→nO g B W a nb lw tk s st→
 aB Tryz.prog 70 [.pt W 0,u v,i by_] st fun r st'=>∃ s1,lA g.es n v by_ s=some s1∧nO g B W a nb lw tk s1 st'∧KbB B st st':=by
 intro n
 induction n with
 |zero=>
  intro A s v by_ st h hvv hs hn _ _
  obtain⟨s1,C,T,N,e,_⟩:=aAE hg 0 A s v by_ h hvv hs hn
  cases e
 |succ n ih=>
  intro A s0 v by_ st h0 hvv hs hn hsz hbw
  obtain⟨hvl,hsb⟩:=vG hv he h0.nd hs
  obtain⟨⟨tS,tB,CS,ea,hW,⟨hA,hAm⟩,hN,hL,⟨hS,hSt⟩,hBk,⟨n1,n2,n3⟩,⟨b1,b2,b3,b4⟩⟩,⟨c1,c2,c3,c4⟩,d1,d2,d3,d4⟩:=hbw
  have m4:¬W=a:=bD hW hA sS
  have m5:¬W=nb:=bD hW hN sS
  have m6:¬W=lw:=bD hW hL sS
  have hnl:=aFa s0.vis 0
  have hms:=aKU h0.new
  have hml:=sN s0.vis s0.low v ((s0.vis.length:Int)+1) h0.ln h0.new
  have hav:=hAm v
  have w1:IntKind.i64.wrap ((s0.vis.length:Int)+1)=(s0.vis.length:Int)+1:=wrap_i64 _ oO oO
  have r1:¬a=nb:=n1
  have r2:¬a=lw:=n2
  have r3:¬nb=lw:=n3
  have r4:¬lw=nb:=fun e=>n3 e.symm
  refine qO aF Tryz.func70 rfl rfl Tryz.ntmps70 (rs:=[]) rfl sS ?_
  have hbs:=h0.start
  have hstS:(lP s0 v).stk=s0.stk:=rfl
  have hb0:nO g B W a nb lw tk (lP s0 v) ((st.set nb (.map false [.u32] (nbF 0 (s0.vis++[v])))).set lw (.map false [.u32] (lwF (s0.vis++[v]) (s0.low++[(s0.vis.length:Int)+1])))):=by
   have q1:¬W=nb:=m5
   have q2:¬tS=nb:=bD hS hN sS
   have q3:¬tS=lw:=bD hS hL sS
   have q4:¬tB=nb:=bD hBk hN sS
   have q5:¬tB=lw:=bD hBk hL sS
   exact⟨⟨tS,tB,CS,ea,by simp[m5,m6,hW,lP],⟨by simp[r1,r2,hA],hAm⟩,by simp[r3,lP],by simp[lP],⟨by simp[q2,q3,hS],hSt⟩,by simp[q4,q5,hBk,lP],⟨n1,n2,n3⟩,b1,b2,by simpa using b3,by simpa using b4⟩,⟨c1,c2,c3,c4⟩,by simpa using d1,by simpa using d2,by simpa using d3,by simpa using d4⟩
  have hk0:KbB B st ((st.set nb (.map false [.u32] (nbF 0 (s0.vis++[v])))).set lw (.map false [.u32] (lwF (s0.vis++[v]) (s0.low++[(s0.vis.length:Int)+1])))):=((KbB.refl B st).set c3 _).set c4 _
  have hv0:∀ w∈(lP s0 v).vis,w∈g.vs:=fun w hw=>by
   have hw:w∈s0.vis++[v]:=hw
   rcases List.mem_append.1 hw with k|k
   ·exact hs w k
   ·rw[List.mem_singleton]at k;rw[k];exact hvv
  by_cases hat:atP g.es v=[]
  ·rw[if_pos hat]at hav
   have hvis:lA g.es (n+1) v by_ s0=some (lP s0 v):=by unfold lA;rw[hat];rfl
   (repeat' (first|refine qS ?_|refine qB ?_|(refine w_e [] ?_;intro J hJ;simp only[];simp[hW,hN,hL,hA,m4,m5,m6,hnl,hms,hml,hav,w1,r1,r2,r3,r4];refine hJ _ _ (zZ ?_))))
   refine aM 37 36 38 137 (0) (fun j fr st2=>st2=(st.set nb (.map false [.u32] (nbF 0 (s0.vis++[v])))).set lw (.map false [.u32] (lwF (s0.vis++[v]) (s0.low++[(s0.vis.length:Int)+1])))) ?_ ?_ ?_
   ·rfl
   ·intro j fr s hlt;omega
   ·rintro fr s hs2
    rw[hs2]
    skip
    exact⟨trivial,_,hvis,hb0,hk0⟩
  ·rw[if_neg hat]at hav
   have hnd:(atP g.es v).Nodup:=List.Pairwise.filter _ List.nodup_range
   have hatl:(atP g.es v).length≤g.es.length:=xQ hnd fun i hi=>(bF.1 hi).1
   (repeat' (first|refine qS ?_|refine qB ?_|(refine w_e [] ?_;intro J hJ;simp only[];simp[hW,hN,hL,hA,m4,m5,m6,hnl,hms,hml,hav,w1,r1,r2,r3,r4];refine hJ _ _ (zZ ?_))))
   clear hW hN hL hA hAm hS hSt hBk hnl hms hml hav m4 m5 m6 r1 r2 r3 r4 n1 n2 n3 b1 b2 b3 b4 d1 d2 d3 d4
   refine aM 37 36 38 137 ((atP g.es v).length) (fun j fr st2=>VsI g tk (fun j s' s=>goB (fB (lA g.es n) g.es v by_ ((s0.vis.length:Int)+1)) ((atP g.es v).take j) (lP s' v)=some s) B W a nb lw s0 v by_ st j fr st2) ?_ ?_ ?_
   ·exact⟨sS,sS,sS,sS,sS,lP s0 v,[],[],[],rfl,hbs,hv0,hb0,hk0⟩
   ·rintro j fr s1 hlt ⟨f0,f1,f2,f6,f35,s,D,T,N,hgo,hbl,hsv,hbw,hkb⟩ fi fn JO hJO
    have hgt:(atP g.es v).getD j 0=(atP g.es v)[j]:=by rw[List.getD_eq_getElem?_getD,List.getElem?_eq_getElem hlt];rfl
    have htk:(atP g.es v).take (j+1)=(atP g.es v).take j++[(atP g.es v).getD j 0]:=by rw[List.take_succ_eq_append_getElem hlt,hgt]
    have hi:(atP g.es v).getD j 0∈atP g.es v:=by rw[hgt];exact List.getElem_mem _
    have hiQ:(atP g.es v).getD j 0∉(atP g.es v).take j:=fun k=>by
     have h1:=hnd
     rw[← List.take_append_drop (j+1) (atP g.es v),htk,List.append_assoc,List.nodup_append]at h1
     exact h1.2.2 _ k _ sS rfl
    have hd:=aKQ (atP g.es v) j hlt
    generalize (atP g.es v).getD j 0=i0 at *
    obtain⟨hil,hie⟩:=bF.1 hi
    have next:∀ s2,fB (lA g.es n) g.es v by_ ((s0.vis.length:Int)+1) s i0=some s2→goB (fB (lA g.es n) g.es v by_ ((s0.vis.length:Int)+1)) ((atP g.es v).take (j+1)) (lP s0 v)=some s2:=fun s2 e=>by rw[htk,aFs,hgo];exact e
    by_cases hb:(i0:Int)=by_
    ·have hbb:((i0:Int)==by_)=true:=by simpa using hb
     (repeat' (first|refine qS ?_|(refine qX (zZ ?_))|(refine qC ?_;simp[f0,f2,f35,fi,fn,hd,hlt,hbb])|(refine w_e [] ?_;intro J hJ;simp only[];simp[f0,f2,f35,fi,fn,hd,hlt,hbb];refine hJ _ _ (zZ ?_))))
     exact hJO _ _ (by simp[fi]) (by simp[fn]) ⟨by simp[f0],by simp[f1],by simp[f2],by simp[f6],by simp[f35],s,D,T,N,next s (by unfold fB;rw[if_pos hb]),by rw[htk];exact hbl.same hg h0 hi hb,hsv,hbw,hkb⟩
    have hbb:((i0:Int)==by_)=false:=by simpa using hb
    have hbw':=hbw
    obtain⟨⟨tS,tB,CS,ea,hW,⟨hA,hAm⟩,hN,hL,⟨hS,hSt⟩,hBk,⟨n1,n2,n3⟩,⟨b1,b2,b3,b4⟩⟩,-,d1,d2,d3,d4⟩:=hbw'
    have hde:=aW g.es i0 hil
    have hel:=aJ g.es
    have hi3:i0*3<g.es.length*3:=oO
    have y1:¬W=s1.next:=oO
    have y2:¬nb=s1.next:=oO
    have y3:¬lw=s1.next:=oO
    have y4:¬tS=s1.next:=oO
    have y5:¬a=s1.next:=oO
    have y6:¬tB=s1.next:=oO
    obtain⟨w,hw⟩:∃ w,w=oth (eAt g.es i0) v:=⟨_,rfl⟩
    have hoth:w=if(g.es.getD i0 ed0).a=v then(g.es.getD i0 ed0).b else(g.es.getD i0 ed0).a:=hw
    -- to the edge
    (repeat (refine qS ?_));(refine w_e [] ?_;intro J hJ;simp only[];simp[f35,fi,fn,hd,hlt];refine hJ _ _ (zZ ?_))
    (repeat (refine qS ?_));(refine w_e [] ?_;intro J hJ;simp only[];simp[f2];refine hJ _ _ (zZ ?_))
    (refine qC ?_;simp[hbb])
    refine qK (zZ ?_)
    (repeat (refine qS ?_));(refine w_e [] ?_;intro J hJ;simp only[];simp[f0,hW,hde,hil,hi3,hel];refine hJ _ _ (zZ ?_))
    (repeat (refine qS ?_));(refine w_e [] ?_;intro J hJ;simp only[];simp[];refine hJ _ _ (zZ ?_))
    refine qS ?_
    refine zS (fun f T=>f 0=.pt W 0∧f 1=u v∧f 2=i by_∧f 6=i ((s0.vis.length:Int)+1)∧f 35=.sl (tk v) (atP g.es v).length (isN (atP g.es v))∧f 36=i (atP g.es v).length∧f 37=i j∧f 8=i i0∧f 10=u w∧∃ o,T=s1.new o) ?_ ?_
    ·have hxg:g.es.getD i0 ed0=g.es[i0]:=bZ _ _ hil
     rw[hxg]at hoth
     by_cases hxa:g.es[i0].a=v
     ·have hxb:(g.es[i0].a==v)=true:=by simpa using hxa
      rw[if_pos hxa]at hoth
      (repeat' (first|refine qS ?_|(refine qC ?_;simp[f0,f1,hxb])|(refine w_e [] ?_;intro J hJ;simp only[];simp[f0,f1,hxb];refine hJ _ _ (zZ ?_))))
      exact⟨trivial,by simp[f0],by simp[f1],by simp[f2],by simp[f6],by simp[f35],by simp[fn],by simp[fi],sS,by rw[hoth];simp,_,rfl⟩
     ·have hxb:(g.es[i0].a==v)=false:=by simpa using hxa
      rw[if_neg hxa]at hoth
      (repeat' (first|refine qS ?_|(refine qK (zZ ?_))|(refine qC ?_;simp[f0,f1,hxb])|(refine w_e [] ?_;intro J hJ;simp only[];simp[f0,f1,hxb];refine hJ _ _ (zZ ?_))))
      exact⟨trivial,by simp[f0],by simp[f1],by simp[f2],by simp[f6],by simp[f35],by simp[fn],by simp[fi],sS,by rw[hoth];simp,_,rfl⟩
    clear f0 f1 f2 f6 f35 fi fn hd hde hoth fr
    rintro fr T ⟨f0,f1,f2,f6,f35,f36,f37,f8,f10,o,hT⟩
    rw[hT];clear hT T
    subst hw
    have hW':=(show(s1.new o).H W=s1.H W by rw[bI,if_neg y1]).trans hW
    have hN':=(show(s1.new o).H nb=s1.H nb by rw[bI,if_neg y2]).trans hN
    have hL':=(show(s1.new o).H lw=s1.H lw by rw[bI,if_neg y3]).trans hL
    have hS':=(show(s1.new o).H tS=s1.H tS by rw[bI,if_neg y4]).trans hS
    have hA':=(show(s1.new o).H a=s1.H a by rw[bI,if_neg y5]).trans hA
    have hB':=(show(s1.new o).H tB=s1.H tB by rw[bI,if_neg y6]).trans hBk
    have hbT:nO g B W a nb lw tk s (s1.new o):=hbw.keeps (aA.new _ _)
    have hkT:KbB B st (s1.new o):=hkb.new oO o
    have hTn:(s1.new o).next=s1.next+1:=aC _ _
    generalize s1.new o=T1 at *
    obtain⟨szp,szo⟩:=hsz.child hbl
    obtain⟨vl,sb⟩:=vG hv he hbl.nd hsv
    have hm:=aGh s.vis (oth (eAt g.es i0) v)
    have m5:¬W=nb:=bD hW hN sS
    have m6:¬W=lw:=bD hW hL sS
    have m1:¬W=tS:=bD hW hS sS
    have hCS:s.stk.length≤CS.length:=by
     have:=congrArg List.length hSt
     rw[List.length_take,iP]at this
     omega
    have t1:¬W=T1.next:=oO
    have t2:¬W=T1.next+1:=oO
    have t3:¬tS=T1.next:=oO
    obtain⟨hpb,hpk⟩:=aMo i0 hW' hA' hAm hN' hL' hS' hB' ⟨n1,n2,n3⟩ ⟨b1,b2,oO,oO⟩ ⟨c1,c2,c3,c4⟩ ⟨oO,oO,oO,oO⟩ (.own 3 1 1)
    by_cases hin:oth (eAt g.es i0) v∈s.vis
    ·rw[if_pos hin]at hm
     have hn1:1≤nmW s.vis (oth (eAt g.es i0) v):=by unfold nmW;rw[if_pos hin];omega
     by_cases hnm:nmW s.vis (oth (eAt g.es i0) v)<(s0.vis.length:Int)+1
     ·have hback:=hbl.back hg h0 hi hiQ hb hin hnm
      have hst:fB (lA g.es n) g.es v by_ ((s0.vis.length:Int)+1) s i0=some (kH (dL s i0) v (min (lwW s v) (nmW s.vis (oth (eAt g.es i0) v)))):=by unfold fB;rw[if_neg hb,if_pos hin,if_pos hnm]
      generalize oth (eAt g.es i0) v=w at *
      generalize nmW s.vis w=z at *
      have hzb:(z==0)=false:=by rw[beq_eq_false_iff_ne];omega
      have hz0:¬z=0:=oO
      (repeat' (first|refine qS ?_|refine qB ?_|(refine qC ?_;simp[f0,f1,f6,f8,f10,hW',hN',hm,hzb,hz0,hnm,hS',hSt,hCS,m1,t1,t2,t3])|(refine w_e [] ?_;intro J hJ;simp only[];simp[f0,f1,f6,f8,f10,hW',hN',hm,hzb,hz0,hnm,hS',hSt,hCS,m1,t1,t2,t3];(repeat refine ca ?_);refine hJ _ _ (zZ ?_))))
      refine wR (fun f T2=>f 0=.pt W 0∧f 1=u v∧f 2=i by_∧f 6=i ((s0.vis.length:Int)+1)∧f 35=.sl (tk v) (atP g.es v).length (isN (atP g.es v))∧f 36=i (atP g.es v).length∧f 37=i j∧f 11=i z∧nO g B W a nb lw tk (dL s i0) T2∧KbB B T1 T2) ⟨by simp[f0],by simp[f1],by simp[f2],by simp[f6],by simp[f35],by simp[f36],by simp[f37],sS,hpb,hpk⟩ ?_
      clear f0 f1 f2 f6 f35 f36 f37 f8 f10 hpb hpk fr
      rintro fr T2 ⟨f0,f1,f2,f6,f35,f36,f37,f11,hp2,hk2⟩
      have hlow:=aKN hp2 v (min (lwW s v) z)
      have hml:=qQ s.vis s.low v hbl.ln (hbl.v_in hg h0)
      have hmo:=mB s.vis s.low v (min (lwW s v) z) hbl.ln (hbl.v_in hg h0)
      obtain⟨⟨tS2,tB2,CS2,ea2,jW,-,-,jL,-,-,-,-⟩,-,-⟩:=hp2
      have jm6:¬W=lw:=bD jW jL sS
      have jL:T2.H lw=.map false [.u32] (lwF s.vis s.low):=jL
      have hml:aY (lwF s.vis s.low) [v]=some (i (lwW s v)):=hml
      (refine w_s [] [W,lw] [(0,true),(1,true),(2,true),(3,true),(4,true),(5,true),(6,true),(7,true),(8,true),(9,true),(10,true),(11,true),(12,true),(13,false)] ?_;intro J hJ;simp[f0,f1,f11,jW,jL,hml,hmo];refine hJ _ _ (zZ ?_))
      have hmin:(if z<lwW s v then z else lwW s v)=min (lwW s v) z:=by split<;>omega
      rw[hmin,show aV (lwF s.vis s.low) [v] (LV.atom (Value.int IntKind.i64 (min (lwW s v) z)))=_ from hmo]
      exact hJO _ _ (by simp[f37]) (by simp[f36]) ⟨by simp[f0],by simp[f1],by simp[f2],by simp[f6],by simp[f35],_,D,T++[i0],N,next _ hst,by rw[htk];exact hback,hsv,hlow,(hkT.trans hk2).set c4 _⟩
     ·have hskip:=hbl.skip hg h0 hi hin hnm
      have hst:fB (lA g.es n) g.es v by_ ((s0.vis.length:Int)+1) s i0=some s:=by unfold fB;rw[if_neg hb,if_pos hin,if_neg hnm]
      generalize oth (eAt g.es i0) v=w at *
      generalize nmW s.vis w=z at *
      have hzb:(z==0)=false:=by rw[beq_eq_false_iff_ne];omega
      have hz0:¬z=0:=oO
      (repeat' (first|refine qS ?_|refine qB ?_|(refine qK (zZ ?_))|(refine qC ?_;simp[f0,f1,f6,f10,hW',hN',hm,hzb,hz0,hnm])|(refine w_e [] ?_;intro J hJ;simp only[];simp[f0,f1,f6,f10,hW',hN',hm,hzb,hz0,hnm];refine hJ _ _ (zZ ?_))))
      exact hJO _ _ (by simp[f37]) (by simp[f36]) ⟨by simp[f0],by simp[f1],by simp[f2],by simp[f6],by simp[f35],s,D,T,N,next s hst,by rw[htk];exact hskip,hsv,hbT,hkT⟩
    ·rw[if_neg hin]at hm
     have hpre:=hbl.pre hg h0 hi hin
     have hch:=fun s1 C T' N' hp=>hbl.child hg h0 hi hiQ hb hin (s1:=s1) (C:=C) (T':=T') (N':=N') hp
     have hwv:oth (eAt g.es i0) v∈g.vs:=hg.nbr (pG hi)
     have hwne:=aEh hg hi
     have hst:fB (lA g.es n) g.es v by_ ((s0.vis.length:Int)+1) s i0=(lA g.es n (oth (eAt g.es i0) v) i0 (dL s i0)).bind (aHa g.es.length v ((s0.vis.length:Int)+1) i0 (oth (eAt g.es i0) v)):=by unfold fB;rw[if_neg hb,if_neg hin]
     generalize oth (eAt g.es i0) v=w at *
     (repeat' (first|refine qS ?_|refine qB ?_|(refine qC ?_;simp[f0,f1,f6,f8,f10,hW',hN',hm,hS',hSt,hCS,m1,t1,t2,t3])|(refine w_e [] ?_;intro J hJ;simp only[];simp[f0,f1,f6,f8,f10,hW',hN',hm,hS',hSt,hCS,m1,t1,t2,t3];(repeat refine ca ?_);(try refine hJ _ _ (zZ ?_)))))
     have hlen:s.vis.length=s0.vis.length+1+D.length:=by rw[hbl.vis,List.length_append,List.length_cons];omega
     refine qE (ih _ (dL s i0) w i0 _ hpre hwv hsv (by show g.vs.length≤n+s.vis.length;omega) ⟨by simpa[dL]using szp,szo⟩ hpb) sS ?_;rintro r T2 ⟨s2,hvis,hb2,hk2⟩
     obtain⟨s2',C,T',N',hvis',hp,hC⟩:=aAE hg n _ (dL s i0) w i0 hpre hwv hsv (by show g.vs.length≤n+s.vis.length;omega)
     obtain rfl:s2=s2':=by rw[hvis]at hvis';exact Option.some.inj hvis'
     clear hvis'
     obtain⟨s3,D2,T3,N2,hlo,hbl3⟩:=hch s2 C T' N' hp
     have hst3:fB (lA g.es n) g.es v by_ ((s0.vis.length:Int)+1) s i0=some s3:=by rw[hst,hvis];exact hlo
     have hkT2:KbB B st T2:=(hkT.trans hpk).trans hk2
     have hvs:v∈s.vis:=hbl.v_in hg h0
     have hvs2:v∈s2.vis:=by rw[hp.vis];exact List.mem_append_left _ hvs
     have hws2:w∈s2.vis:=by rw[hp.vis];exact List.mem_append_right _ hp.hd
     have hs2v:∀ x∈s2.vis,x∈g.vs:=fun x hx=>by
      rw[hp.vis,List.mem_append]at hx
      exact hx.elim (hsv x) (hC x)
     have hmv:aY (lwF s2.vis s2.low) [v]=some (i (lwW s2 v)):=qQ s2.vis s2.low v hp.ln hvs2
     have hmw:aY (lwF s2.vis s2.low) [w]=some (i (lwW s2 w)):=qQ s2.vis s2.low w hp.ln hws2
     have hmo:=mB s2.vis s2.low v (min (lwW s2 v) (lwW s2 w)) hp.ln hvs2
     have hlow:=aKN hb2 v (min (lwW s2 v) (lwW s2 w))
     have hmw3:aY (lwF s2.vis (s2.low.set (s2.vis.idxOf v) (min (lwW s2 v) (lwW s2 w)))) [w]=some (i (lwW s2 w)):=by
      have h1:=qQ s2.vis (s2.low.set (s2.vis.idxOf v) (min (lwW s2 v) (lwW s2 w))) w (by rw[List.length_set];exact hp.ln) hws2
      have h2:=aAR (x:=min (lwW s2 v) (lwW s2 w)) hp.ln hvs2 hws2
      rw[if_neg hwne]at h2
      rw[h1]
      exact congrArg (fun y=>some (i y)) h2
     obtain⟨⟨tS2,tB2,CS2,ea2,jW,-,-,jL,-,-,-,-⟩,-,-⟩:=hb2
     have jm6:¬W=lw:=bD jW jL sS
     have hmin:(if lwW s2 w<lwW s2 v then lwW s2 w else lwW s2 v)=min (lwW s2 v) (lwW s2 w):=by split<;>omega
     (refine aE ?_;simp[];refine hJ _ _ (zZ ?_))
     (repeat (refine qS ?_));(refine w_s [] [W,lw] [(0,true),(1,true),(2,true),(3,true),(4,true),(5,true),(6,true),(7,true),(8,true),(9,true),(10,true),(11,true),(12,true),(13,true),(14,true),(15,true),(16,true),(17,true),(18,false)] ?_;intro J hJ;simp[f0,f1,f10,jW,jL,hmv,hmw];refine hJ _ _ (zZ ?_))
     rw[hmin,show aV (lwF s2.vis s2.low) [v] (LV.atom (Value.int IntKind.i64 (min (lwW s2 v) (lwW s2 w))))=_ from hmo]
     have hW3:(T2.set lw (.map false [.u32] (lwF s2.vis (s2.low.set (s2.vis.idxOf v) (min (lwW s2 v) (lwW s2 w)))))).H W=T2.H W:=by rw[bH,if_neg jm6]
     unfold aHa at hlo
     by_cases hc:(s0.vis.length:Int)+1≤lwW s2 w
     ·rw[if_pos hc]at hlo
      have hstk:s2.stk=s.stk++i0::T':=by rw[hp.stk];show(s.stk++[i0])++T'=_;simp
      have hiT:i0∉T':=fun k=>((hp.pl i0).1 (List.mem_append_left _ k)).2.1 rfl
      have hTn:=(List.nodup_append.1 hp.pn).1
      have hTl:∀ k∈T',k<g.es.length:=fun k hk=>((hp.pl k).1 (List.mem_append_left _ hk)).1
      have hTlen:=xQ hTn hTl
      have hNl:=uJ N' fun B hB=>(hp.good B hB).ne
      have hNf:=xQ (List.nodup_append.1 hp.pn).2.1 fun k hk=>((hp.pl k).1 (List.mem_append_right _ hk)).1
      have ho2:s2.out.length=s.out.length+N'.length:=by rw[hp.out,List.length_append];rfl
      have hk2l:s2.stk.length=s.stk.length+1+T'.length:=by rw[hstk,List.length_append,List.length_cons];omega
      have hlp:gI s2.stk i0=s.stk.length:=by rw[hstk];exact sJ hiT
      have hdrop:s2.stk.drop (gI s2.stk i0)=i0::T':=by rw[hlp,hstk,List.drop_left]
      have hcall:=aRI g hg.ids B W a nb lw tk (kH s2 v (min (lwW s2 v) (lwW s2 w))) i0 _ hlow (by show i0∈s2.stk;rw[hstk];simp)
       (by show ∀ k∈s2.stk.drop (gI s2.stk i0),k<g.es.length
           rw[hdrop];intro k hk;rcases List.mem_cons.1 hk with e|e
           ·rw[e];exact hil
           ·exact hTl k e)
       (by show(s2.stk.drop (gI s2.stk i0)).Nodup
           rw[hdrop];exact List.nodup_cons.2 ⟨hiT,hTn⟩) oO (by show s2.stk.length≤60000;omega) (by show s2.out.length≤100000;omega)
      (repeat' (first|refine qS ?_|(refine qC ?_;simp[f0,f6,f8,f10,jW,jm6,hmw3,hc])|(refine w_e [] ?_;intro J hJ;simp only[];simp[f0,f6,f8,f10,jW,jm6,hmw3,hc];(try refine hJ _ _ (zZ ?_)))))
      refine qE hcall sS ?_;rintro r T4 ⟨s4,hcw,hb4,hk4⟩
      obtain rfl:s4=s3:=by rw[hcw]at hlo;exact Option.some.inj hlo
      have hv4:s4.vis=s2.vis:=by
       unfold aDv at hcw
       split at hcw
       ·cases hcw;rfl
       ·cases hcw
      (repeat' (refine aE ?_;simp[];refine hJ _ _ (zZ ?_)))
      exact hJO _ _ (by simp[f37]) (by simp[f36]) ⟨by simp[f0],by simp[f1],by simp[f2],by simp[f6],by simp[f35],_,D2,T3,N2,next _ hst3,by rw[htk];exact hbl3,fun x hx=>hs2v x (by rw[← hv4];exact hx),hb4,(hkT2.set c4 _).trans hk4⟩
     ·rw[if_neg hc]at hlo
      obtain rfl:=Option.some.inj hlo
      (repeat' (first|refine qS ?_|(refine qK (zZ ?_))|(refine qC ?_;simp[f0,f6,f10,jW,jm6,hmw3,hc])|(refine w_e [] ?_;intro J hJ;simp only[];simp[f0,f6,f10,jW,jm6,hmw3,hc];refine hJ _ _ (zZ ?_))))
      exact hJO _ _ (by simp[f37]) (by simp[f36]) ⟨by simp[f0],by simp[f1],by simp[f2],by simp[f6],by simp[f35],_,D2,T3,N2,next _ hst3,by rw[htk];exact hbl3,hs2v,hlow,hkT2.set c4 _⟩
   ·rintro fr s1 ⟨f0,f1,f2,f6,f35,s,D,T,N,hgo,hbl,hsv,hbw,hkb⟩
    rw[List.take_length]at hgo
    skip
    exact⟨trivial,s,hgo,hbw,hkb⟩
theorem aKw{P:Program}{N:Nat}{Q:AQ}{k:List eM}{fr:Frm}{st:St}{x:Code}(I:Frm→St→Prop)(h1:AWp P N x (AK P N (fun e f s=>e=.normal∧I f s) []) fr st)(h2:∀ fr st,I fr st→AK P N Q k .normal fr st):
 AWp P N x (AK P N Q k) fr st:=by
 refine cR h1 ?_
 rintro e fr' st' ⟨rfl,hI⟩
 exact h2 _ _ hI
theorem aAm{P:Program}{N:Nat}{Q:AQ}{fr:Frm}{st:St}{c:Code}(q e' s':Nat){e s:Nat}(pre post:List LV)(hH:st.H q=.box e s (pre++.nil::post))
 (h:AWp P N c Q fr ((st.new (.box e' s' [])).set q (.box e s (pre++.ms st.next 0 0::post)))):AWp P N c Q fr st:=by
 refine fT (fun a w g hi hr _=>?_) h
 have he:=ext_nil w g
 have h1:Inv w g.addNil (st.new (.box e' s' [])):=gD hi _ (.inr ⟨e',s',rfl⟩)
 have hlt:q<st.next:=yK hi hH sS
 refine⟨g.addNil,vB h1 (cs:=pre++.nil::post) (by rw[bI,if_neg oO];exact hH) sS (fun vs hv=>?_),hr.mono he,he⟩
 obtain⟨v,k1,k2⟩:=kA pre vs hv
 refine k2 g.addNil _ (Ext.refl _ _) ?_
 simp only[Rep]at k1 ⊢
 exact⟨none,0,k1,Nat.le_refl _,Nat.zero_le _,fun _=>by simp[G.addNil,hi.next],fun h=>absurd rfl h,by simp[G.addNil,hi.next]⟩
structure AtR(lo:Nat)(ρ:Int→List Nat)(ea:List (List Int×LV))(tk:Int→Nat)(st:St):Prop where
 get:∀ v,aY ea [v]=if ρ v=[]then none else some (.sl (tk v) (ρ v).length (isN (ρ v)))
 own:∀ v,ρ v≠[]→st.H (tk v)=.own 3 1 (ρ v).length∧(tk v≠0∧lo≤tk v∧tk v<st.next)
 inj:∀ v w,ρ v≠[]→ρ w≠[]→tk v=tk w→v=w
def jJ(ρ:Int→List Nat)(v:Int)(k:Nat):Int→List Nat:=fun w=>if w=v then ρ v++[k]else ρ w
theorem AtR.put{lo:Nat}{ρ:Int→List Nat}{ea:List (List Int×LV)}{tk:Int→Nat}{st st':St}(h:AtR lo ρ ea tk st)(v:Int)(k:Nat){t n:Nat}(hn:n=(ρ v).length+1)(ht:st.next≤t∧t<st'.next∧t≠0∧lo≤t)(hH:st'.H t=.own 3 1 n)
 (ho:∀ w,w≠v→ρ w≠[]→st'.H (tk w)=st.H (tk w)) (hl:st.next≤st'.next):AtR lo (jJ ρ v k) (aV ea [v] (.sl t n (isN (ρ v)++[i (k:Int)]))) (fun w=>if w=v then t else tk w) st' where
 get:=fun w=>by
  rw[dA]
  unfold jJ
  by_cases e:w=v
  ·subst e
   rw[if_pos rfl,if_pos rfl,if_pos rfl,if_neg sS,hn]
   simp[isN]
  ·rw[if_neg (by simpa using e),if_neg e,if_neg e]
   exact h.get w
 own:=fun w hw=>by
  unfold jJ at hw ⊢
  by_cases e:w=v
  ·rw[if_pos e,if_pos e]
   exact⟨by rw[hH,hn];simp,ht.2.2.1,ht.2.2.2,ht.2.1⟩
  ·rw[if_neg e]at hw
   rw[if_neg e,if_neg e]
   obtain⟨h1,h2,h3,h4⟩:=h.own w hw
   exact⟨by rw[ho w e hw];exact h1,h2,h3,oO⟩
 inj:=fun x y hx hy he=>by
  unfold jJ at hx hy
  by_cases e1:x=v
  ·by_cases e2:y=v
   ·rw[e1,e2]
   ·rw[if_neg e2]at hy
    simp only[if_pos e1,if_neg e2]at he
    have:=(h.own y hy).2.2.2
    omega
  ·rw[if_neg e1]at hx
   by_cases e2:y=v
   ·simp only[if_neg e1,if_pos e2]at he
    have:=(h.own x hx).2.2.2
    omega
   ·rw[if_neg e2]at hy
    simp only[if_neg e1,if_neg e2]at he
    exact h.inj x y hx hy he
theorem AtR.keeps{lo:Nat}{ρ:Int→List Nat}{ea:List (List Int×LV)}{tk:Int→Nat}{st st':St}(h:AtR lo ρ ea tk st)(hk:aA st st'):AtR lo ρ ea tk st':=
 ⟨h.get,fun v hv=>by obtain⟨h1,h2,h3,h4⟩:=h.own v hv;exact⟨by rw[hk.H _ h4];exact h1,h2,h3,by have:=hk.next;omega⟩,h.inj⟩
def atK(es:List Ed)(k:Nat)(v:Int):List Nat:=(List.range k).filter fun i=>decide ((eAt es i).a=v∨(eAt es i).b=v)
theorem aKk{es:List Ed}{k:Nat}(hne:(eAt es k).a≠(eAt es k).b):atK es (k+1)=jJ (jJ (atK es k) (eAt es k).a k) (eAt es k).b k:=by
 funext v
 unfold atK jJ
 rw[List.range_succ,List.filter_append]
 by_cases hb:v=(eAt es k).b
 ·subst hb
  rw[if_pos rfl,if_neg (fun e=>hne e.symm)]
  simp
 ·rw[if_neg hb]
  by_cases ha:v=(eAt es k).a
  ·subst ha
   simp
  ·rw[if_neg ha]
   have:¬((eAt es k).a=v∨(eAt es k).b=v):=oO
   rw[List.filter_cons,if_neg (by simpa using this)]
   simp
def AtI(g:Gr)(p:Nat)(st:St)(ρ:Int→List Nat)(s:St):Prop:=s.H p=.box 25 2 (grL g)∧s.H (p+4)=.box 108 6 [.sl 0 g.es.length (eds g.es),.mp (p+1),.mp (p+2),.mp (p+3),.ms (p+5) 0 0,.ms (p+6) 0 0]∧s.H (p+2)=.map false [.u32] []∧s.H (p+3)=.map false [.u32] []∧s.H (p+5)=.box 3 1 []∧s.H (p+6)=.box 23 1 []∧p+7≤s.next∧aA st s∧
 ∃ ea tk,s.H (p+1)=.map false [.u32] ea∧AtR (p+7) ρ ea tk s
theorem wP{es:List Ed}{n:Nat}:∀(l:List Int) (v:Int) (s:Bw),nN es n (l++[v]) s=(nN es n l s).bind fun s'=>nN es n [v] s'
 |[],v,s=>rfl
 |w::l,v,s=>by
  simp only[List.cons_append,nN]
  split
  ·exact wP l v s
  ·cases lA es n w (-1) s with
   |none=>rfl
   |some s'=>exact wP l v s'
theorem aEk.sz{g:Gr}{s:Bw}(h:aEk g s):SzB g s:=by
 have h1:=uJ s.out fun B hB=>(h.good B hB).ne
 have h2:=xQ h.pn fun i hi=>((h.pl i).1 hi).1
 unfold SzB
 rw[h.stk]
 refine⟨Nat.zero_le _,?_⟩
 cases hv:s.vis with
 |nil=>
  have:s.out.flatten=[]:=List.eq_nil_iff_forall_not_mem.2 fun i hi=>by
   have:=((h.pl i).1 hi).2
   rw[hv]at this;cases this
  rw[this]at h1
  rw[List.length_nil,Nat.zero_mul]
  exact h1
 |cons w V=>
  rw[List.length_cons,Nat.add_mul]
  omega
theorem AtI.keeps{g:Gr}{p:Nat}{st:St}{ρ:Int→List Nat}{s s':St}(h:AtI g p st ρ s)(hk:aA s s'):AtI g p st ρ s':=by
 obtain⟨h0,h1,h2,h3,h4,h5,h6,h7,ea,tk,h8,h9⟩:=h
 have:=hk.next
 exact⟨(hk.H _ oO).trans h0,(hk.H _ oO).trans h1,(hk.H _ oO).trans h2,(hk.H _ oO).trans h3,(hk.H _ oO).trans h4,(hk.H _ oO).trans h5,oO,h7.trans hk,ea,tk,(hk.H _ oO).trans h8,h9.keeps hk⟩
set_option maxHeartbeats 8000000 in
theorem aCF:∀ {out:List (List Nat)},(∀ B∈out,B≠[])→out.length≤out.flatten.length
 |[],_=>by simp
 |B::out,h=>by
  have h1:=aCF (out:=out) fun B hB=>h B (List.mem_cons_of_mem _ hB)
  have h2:=List.length_pos_iff.2 (h B sS)
  simp only[List.length_cons,List.flatten_cons,List.length_append];omega
theorem aMX{es:List Ed}{out:List (List Nat)}(hall:∀ i,i∈out.flatten↔i<es.length)(hok:∀ B∈out,iT es B)(hnd:out.flatten.Nodup):out.length≤es.length:=by
 have h1:=aCF fun B hB=>(hok B hB).ne
 have h2:=List.Nodup.length_le_of_subset hnd fun k hk=>List.mem_range.2 ((hall k).1 hk)
 rw[List.length_range]at h2;omega
theorem aMk(g:Gr)(hg:GoodE g)(st:St)(hv:g.vs.length≤100)(he:g.es.length≤10):
 aB Tryz.prog 43 [.ag (grL g)] st fun r st'=>∃ q,r=.ms q 0 (iV g.es).length∧st'.H q=.box 23 1 (bkL g.es (iV g.es))∧st.next≤q∧q<st'.next∧aA st st':=by
 obtain⟨S,hS,hSk,hSa,hSn,hSb⟩:=rK hg
 have hel:=aJ g.es
 have hids:=hg.ids
 refine qO aF Tryz.func43 rfl rfl Tryz.ntmps43 (rs:=[.tmp 2]) rfl sS ?_
 refine cG fun hpos=>?_
 have x1:¬st.next=st.next+1:=oO
 have x2:¬st.next=st.next+1+1:=oO
 have x3:¬st.next=st.next+1+1+1:=oO
 have x4:¬st.next=st.next+1+1+1+1:=oO
 have x5:¬st.next=st.next+1+1+1+1+1:=oO
 have x6:¬st.next=st.next+1+1+1+1+1+1:=oO
 (repeat' (first|refine qS ?_|refine qB ?_|(refine w_e [] ?_;intro J hJ;simp only[];simp[x1,x2,x3,x4];refine hJ _ _ (zZ ?_))))
 refine aAm (st.next+1+1+1+1) 3 1 (e:=108) (s:=6) [.sl 0 g.es.length (eds g.es),.mp (st.next+1),.mp (st.next+1+1),.mp (st.next+1+1+1)] [.nil] sS ?_
 refine aAm (st.next+1+1+1+1) 23 1 (e:=108) (s:=6) [.sl 0 g.es.length (eds g.es),.mp (st.next+1),.mp (st.next+1+1),.mp (st.next+1+1+1),.ms (st.next+5) 0 0] [] sS ?_
 obtain⟨p,hp⟩:∃ p,p=st.next:=⟨_,rfl⟩
 refine aM 18 17 19 55 (g.es.length) (fun j fr st2=>fr 1=.pt p 0∧fr 3=.pt (p+4) 0∧fr 16=.sl 0 g.es.length (eds g.es)∧AtI g p st (atK g.es j) st2) ?_ ?_ ?_
 ·subst hp
  refine⟨sS,sS,sS,?_⟩
  refine⟨by simp[x1,x2,x3,x4,x5,x6],?_,sS,sS,sS,sS,sS,?_,[],fun _=>0,sS,⟨fun v=>rfl,fun v hv=>absurd rfl hv,fun v w hv=>absurd rfl hv⟩⟩
  ·simp
  ·(repeat (first|exact aA.refl _|(refine aA.trans ?_ (aA.new _ _))|(refine aA.set ?_ oO _)))
 ·clear x1 x2 x3 x4 x5 x6
  rintro j fr s hlt ⟨f1,f3,f16,hI⟩ fi fn JO hJO
  have hde:=aW g.es j hlt
  have hj3:j*3<g.es.length*3:=oO
  have hne:=hg.ne _ (uP hlt)
  have hsu:=aKk (es:=g.es) (k:=j) hne
  rw[hsu]at hJO
  clear hsu
  unfold eAt at hJO
  generalize g.es.getD j ed0=x at *
  obtain⟨id,xa,xb⟩:=x
  simp only at hJO hde
  have hρ:∀ w,(atK g.es j w).length≤10000:=fun w=>by
   have:=List.length_filter_le (fun i=>decide ((eAt g.es i).a=w∨(eAt g.es i).b=w)) (List.range j)
   rw[List.length_range]at this
   unfold atK;omega
  generalize atK g.es j=ρ at *
  have hpn:p+7≤s.next:=hI.2.2.2.2.2.2.1
  (repeat' (first|refine qS ?_|(refine w_e [] ?_;intro J hJ;simp only[];simp[f1,f3,f16,fi,fn,hde,hlt,hj3,hel];refine hJ _ _ (zZ ?_))))
  refine wR (fun f T=>f 1=.pt p 0∧f 3=.pt (p+4) 0∧f 4=i j∧f 5=.pt s.next 0∧f 16=.sl 0 g.es.length (eds g.es)∧f 17=i g.es.length∧f 18=i j∧s.next<T.next∧T.H s.next=.box 56 3 [u id,u xa,u xb]∧AtI g p st (ρ) T) ⟨by simp[f1],by simp[f3],sS,sS,by simp[f16],by simp[fn],by simp[fi],sS,sS,hI.keeps (aA.new _ _)⟩ ?_
  generalize s.next=X at *
  clear f1 f3 f16 fi fn hI fr
  rintro fr s2 ⟨f1,f3,f4,f5,f16,fn,fi,hXl,hX,hI⟩
  refine zS (fun f T=>f 1=.pt p 0∧f 3=.pt (p+4) 0∧f 4=i j∧f 5=.pt X 0∧f 16=.sl 0 g.es.length (eds g.es)∧f 17=i g.es.length∧f 18=i j∧X<T.next∧T.H X=.box 56 3 [u id,u xa,u xb]∧AtI g p st (jJ ρ xa j) T) ?_ ?_
  ·obtain⟨hG,hW,hN,hL,hS,hB,hnx,hkp,ea,tk,hA,hR⟩:=hI
   have hget:=hR.get xa
   have k1:¬X=s2.next:=oO
   have k2:¬X=s2.next+1:=oO
   have k3:¬X=p+1:=oO
   have e0:¬p+4=s2.next:=oO
   have e1:¬p+1=s2.next:=oO
   have e2:¬p+2=s2.next:=oO
   have e3:¬p+3=s2.next:=oO
   have e4:¬p=s2.next:=oO
   have e5:¬p+5=s2.next:=oO
   have e6:¬p+6=s2.next:=oO
   have e7:¬p+4=s2.next+1:=oO
   have e8:¬p+1=s2.next+1:=oO
   have e9:¬p+2=s2.next+1:=oO
   have e10:¬p+3=s2.next+1:=oO
   have e11:¬p=s2.next+1:=oO
   have e12:¬p+5=s2.next+1:=oO
   have e13:¬p+6=s2.next+1:=oO
   have e14:¬s2.next+1=p+1:=oO
   have e15:¬s2.next=p:=oO
   have tkl:∀ w,ρ w≠[]→¬tk w=s2.next∧¬tk w=s2.next+1∧¬tk w=p+1:=fun w hw=>by have:=(hR.own w hw).2;omega
   by_cases hr:ρ xa=[]
   ·rw[if_pos hr]at hget
    (refine w_s [] [X,p+4,p+1] [(0,true),(1,true),(2,true),(3,true),(4,true),(5,true),(6,true),(7,true),(8,true),(9,true),(10,true),(11,true),(12,true),(13,true),(14,true),(15,true),(16,false)] ?_;intro J hJ;simp[f3,f4,f5,hX,hW,hA,hget,k1,k2,k3,e0,e1,e4,e7,e8,e14,e15];(repeat refine ca ?_);refine hJ _ _ (zZ ?_))
    have hput:=hR.put xa j (t:=s2.next+1) (n:=1) (st':=(((s2.new (.own 3 1 1)).new (.own 3 1 1)).set (p+1) (.map false [.u32] (aV ea [xa] (.sl (s2.next+1) 1 [i (j:Int)]))))) (by rw[hr];rfl) ⟨oO,sS,oO,oO⟩ (by simp[e14,e15]) (fun w hw h0=>by obtain⟨t1,t2,t3⟩:=tkl w h0;simp[t1,t2,t3]) (by simp;omega)
    rw[hr]at hput
    refine⟨by trivial,by simp[f1],by simp[f3],by simp[f4],by simp[f5],by simp[f16],by simp[fn],by simp[fi],by simp;omega,by simp[k1,k2,k3,hX],?_⟩
    refine⟨by simp[e4,e11,hG],by simp[e0,e7,hW],by simp[e2,e9,hN],by simp[e3,e10,hL],by simp[e5,e12,hS],by simp[e6,e13,hB],by simp;omega,?_,_,_,by simp<;>rfl,hput⟩
    (repeat (first|exact hkp|(refine aA.trans ?_ (aA.new _ _))|(refine aA.set ?_ oO _)))
   ·rw[if_neg hr]at hget
    obtain⟨hO,t0,tl,tu⟩:=hR.own xa hr
    obtain⟨t1,t2,t3⟩:=tkl xa hr
    have t4:¬X=tk xa:=fun e=>by rw[← e,hX]at hO;cases hO
    have hrl:(isN (ρ xa)).length=(ρ xa).length:=iP _
    have hrb:(ρ xa).length≤10000:=hρ _
    have p0:¬p=tk xa:=oO
    have p1:¬p+1=tk xa:=oO
    have p2:¬p+2=tk xa:=oO
    have p3:¬p+3=tk xa:=oO
    have p4:¬p+4=tk xa:=oO
    have p5:¬p+5=tk xa:=oO
    have p6:¬p+6=tk xa:=oO
    (refine w_s [] [X,p+4,p+1] [(0,true),(1,true),(2,true),(3,true),(4,true),(5,true),(6,true),(7,true),(8,true),(9,true),(10,true),(11,true),(12,true),(13,true),(14,true),(15,true),(16,false)] ?_;intro J hJ;simp[f3,f4,f5,hX,hW,hA,hget,hO,hrl,t0,t1,t4,p1,p4,k1,k2,k3,e0,e1,e4,e7,e8,e14,e15];(repeat refine ca ?_);refine hJ _ _ (zZ ?_))
    have hput:=hR.put xa j (t:=s2.next+1) (n:=(ρ xa).length+1) (st':=((((s2.new (.own 3 1 1)).set (tk xa) .dead).new (.own 3 1 ((ρ xa).length+1))).set (p+1) (.map false [.u32] (aV ea [xa] (.sl (s2.next+1) ((ρ xa).length+1) (isN (ρ xa)++[i (j:Int)]))))) ) rfl ⟨oO,sS,oO,oO⟩ (by simp[e14,e15]) (fun w hw h0=>by obtain⟨u1,u2,u3⟩:=tkl w h0;have u4:¬tk w=tk xa:=fun e=>hw (hR.inj w xa h0 hr e);simp[u1,u2,u3,u4]) (by simp;omega)
    refine⟨by trivial,by simp[f1],by simp[f3],by simp[f4],by simp[f5],by simp[f16],by simp[fn],by simp[fi],by simp;omega,by simp[k1,k2,k3,t4,hX],?_⟩
    refine⟨by simp[p0,e4,e11,hG],by simp[p4,e0,e7,hW],by simp[p2,e2,e9,hN],by simp[p3,e3,e10,hL],by simp[p5,e5,e12,hS],by simp[p6,e6,e13,hB],by simp;omega,?_,_,_,by simp<;>rfl,hput⟩
    (repeat (first|exact hkp|(refine aA.trans ?_ (aA.new _ _))|(refine aA.set ?_ oO _)))
  clear f1 f3 f4 f5 f16 fi fn hXl hX hI fr s2
  rintro fr s2 ⟨f1,f3,f4,f5,f16,fn,fi,hXl,hX,hI⟩
  have hρ':∀ w,((jJ ρ xa j) w).length≤10001:=fun w=>by
   have h1:=hρ xa
   have h2:=hρ w
   unfold jJ
   split
   ·rw[List.length_append,List.length_singleton];omega
   ·omega
  refine aKw (fun f T=>f 1=.pt p 0∧f 3=.pt (p+4) 0∧f 4=i j∧f 5=.pt X 0∧f 16=.sl 0 g.es.length (eds g.es)∧f 17=i g.es.length∧f 18=i j∧X<T.next∧T.H X=.box 56 3 [u id,u xa,u xb]∧AtI g p st (jJ (jJ ρ xa j) xb j) T) ?_ ?_
  ·obtain⟨hG,hW,hN,hL,hS,hB,hnx,hkp,ea,tk,hA,hR⟩:=hI
   have hget:=hR.get xb
   have k1:¬X=s2.next:=oO
   have k2:¬X=s2.next+1:=oO
   have k3:¬X=p+1:=oO
   have e0:¬p+4=s2.next:=oO
   have e1:¬p+1=s2.next:=oO
   have e2:¬p+2=s2.next:=oO
   have e3:¬p+3=s2.next:=oO
   have e4:¬p=s2.next:=oO
   have e5:¬p+5=s2.next:=oO
   have e6:¬p+6=s2.next:=oO
   have e7:¬p+4=s2.next+1:=oO
   have e8:¬p+1=s2.next+1:=oO
   have e9:¬p+2=s2.next+1:=oO
   have e10:¬p+3=s2.next+1:=oO
   have e11:¬p=s2.next+1:=oO
   have e12:¬p+5=s2.next+1:=oO
   have e13:¬p+6=s2.next+1:=oO
   have e14:¬s2.next+1=p+1:=oO
   have e15:¬s2.next=p:=oO
   have tkl:∀ w,(jJ ρ xa j) w≠[]→¬tk w=s2.next∧¬tk w=s2.next+1∧¬tk w=p+1:=fun w hw=>by have:=(hR.own w hw).2;omega
   by_cases hr:(jJ ρ xa j) xb=[]
   ·rw[if_pos hr]at hget
    (refine w_s [] [X,p+4,p+1] [(0,true),(1,true),(2,true),(3,true),(4,true),(5,true),(6,true),(7,true),(8,true),(9,true),(10,true),(11,true),(12,true),(13,true),(14,true),(15,true),(16,false)] ?_;intro J hJ;simp[f3,f4,f5,hX,hW,hA,hget,k1,k2,k3,e0,e1,e4,e7,e8,e14,e15];(repeat refine ca ?_);refine hJ _ _ (zZ ?_))
    have hput:=hR.put xb j (t:=s2.next+1) (n:=1) (st':=(((s2.new (.own 3 1 1)).new (.own 3 1 1)).set (p+1) (.map false [.u32] (aV ea [xb] (.sl (s2.next+1) 1 [i (j:Int)]))))) (by rw[hr];rfl) ⟨oO,sS,oO,oO⟩ (by simp[e14,e15]) (fun w hw h0=>by obtain⟨t1,t2,t3⟩:=tkl w h0;simp[t1,t2,t3]) (by simp;omega)
    rw[hr]at hput
    refine⟨by trivial,by simp[f1],by simp[f3],by simp[f4],by simp[f5],by simp[f16],by simp[fn],by simp[fi],by simp;omega,by simp[k1,k2,k3,hX],?_⟩
    refine⟨by simp[e4,e11,hG],by simp[e0,e7,hW],by simp[e2,e9,hN],by simp[e3,e10,hL],by simp[e5,e12,hS],by simp[e6,e13,hB],by simp;omega,?_,_,_,by simp<;>rfl,hput⟩
    (repeat (first|exact hkp|(refine aA.trans ?_ (aA.new _ _))|(refine aA.set ?_ oO _)))
   ·rw[if_neg hr]at hget
    obtain⟨hO,t0,tl,tu⟩:=hR.own xb hr
    obtain⟨t1,t2,t3⟩:=tkl xb hr
    have t4:¬X=tk xb:=fun e=>by rw[← e,hX]at hO;cases hO
    have hrl:(isN ((jJ ρ xa j) xb)).length=((jJ ρ xa j) xb).length:=iP _
    have hrb:((jJ ρ xa j) xb).length≤10001:=hρ' _
    have p0:¬p=tk xb:=oO
    have p1:¬p+1=tk xb:=oO
    have p2:¬p+2=tk xb:=oO
    have p3:¬p+3=tk xb:=oO
    have p4:¬p+4=tk xb:=oO
    have p5:¬p+5=tk xb:=oO
    have p6:¬p+6=tk xb:=oO
    (refine w_s [] [X,p+4,p+1] [(0,true),(1,true),(2,true),(3,true),(4,true),(5,true),(6,true),(7,true),(8,true),(9,true),(10,true),(11,true),(12,true),(13,true),(14,true),(15,true),(16,false)] ?_;intro J hJ;simp[f3,f4,f5,hX,hW,hA,hget,hO,hrl,t0,t1,t4,p1,p4,k1,k2,k3,e0,e1,e4,e7,e8,e14,e15];(repeat refine ca ?_);refine hJ _ _ (zZ ?_))
    have hput:=hR.put xb j (t:=s2.next+1) (n:=((jJ ρ xa j) xb).length+1) (st':=((((s2.new (.own 3 1 1)).set (tk xb) .dead).new (.own 3 1 (((jJ ρ xa j) xb).length+1))).set (p+1) (.map false [.u32] (aV ea [xb] (.sl (s2.next+1) (((jJ ρ xa j) xb).length+1) (isN ((jJ ρ xa j) xb)++[i (j:Int)]))))) ) rfl ⟨oO,sS,oO,oO⟩ (by simp[e14,e15]) (fun w hw h0=>by obtain⟨u1,u2,u3⟩:=tkl w h0;have u4:¬tk w=tk xb:=fun e=>hw (hR.inj w xb h0 hr e);simp[u1,u2,u3,u4]) (by simp;omega)
    refine⟨by trivial,by simp[f1],by simp[f3],by simp[f4],by simp[f5],by simp[f16],by simp[fn],by simp[fi],by simp;omega,by simp[k1,k2,k3,t4,hX],?_⟩
    refine⟨by simp[p0,e4,e11,hG],by simp[p4,e0,e7,hW],by simp[p2,e2,e9,hN],by simp[p3,e3,e10,hL],by simp[p5,e5,e12,hS],by simp[p6,e6,e13,hB],by simp;omega,?_,_,_,by simp<;>rfl,hput⟩
    (repeat (first|exact hkp|(refine aA.trans ?_ (aA.new _ _))|(refine aA.set ?_ oO _)))
  rintro fr s3 ⟨f1,f3,f4,f5,f16,fn,fi,hXl,hX,hI⟩
  simp only[ak]
  exact hJO _ _ (by simp[fi]) (by simp[fn]) ⟨f1,f3,f16,hI⟩
 ·clear x1 x2 x3 x4 x5 x6
  rintro fr s1 ⟨f1,f3,f16,hI⟩
  have hI':=hI
  obtain⟨hG,hW,hN,hL,hSt,hB,hnx,hkp,ea,tk,hA,hR⟩:=hI'
  have hget:∀ v,aY ea [v]=if atP g.es v=[]then none else some (.sl (tk v) (atP g.es v).length (isN (atP g.es v))):=hR.get
  have hb0:nO g (p+1) (p+4) (p+1) (p+2) (p+3) tk ⟨[],[],[],[]⟩ s1:=by
   refine⟨⟨p+5,p+6,[],ea,hW,⟨hA,hget⟩,hN,hL,⟨hSt,rfl⟩,hB,⟨oO,oO,oO⟩,oO,oO,oO,oO⟩,⟨oO,oO,oO,oO⟩,oO,oO,oO,oO⟩
  have hall0:aEk g ⟨[],[],[],[]⟩:=⟨rfl,.nil,fun w hw=>(by cases hw),fun w hw=>(by cases hw),rfl,fun i=>by simp,sS,fun B hB=>(by cases hB)⟩
  clear hW hN hL hSt hB hA hR hI
  (repeat' (first|refine qS ?_|refine qB ?_|(refine w_e [] ?_;intro J hJ;simp only[];simp[f1,hG];refine hJ _ _ (zZ ?_))))
  refine aM 59 58 60 73 (g.vs.length) (fun j fr st2=>fr 1=.pt p 0∧fr 3=.pt (p+4) 0∧fr 57=.sl 0 g.vs.length (us g.vs)∧KbB (p+1) s1 st2∧∃ sB,nN g.es g.vs.length (g.vs.take j) ⟨[],[],[],[]⟩=some sB∧aEk g sB∧nO g (p+1) (p+4) (p+1) (p+2) (p+3) tk sB st2) ?_ ?_ ?_
  ·exact⟨by simp[f1],by simp[f3],sS,KbB.refl _ _,_,rfl,hall0,hb0⟩
  ·clear f1 f3 f16 hb0 hall0 fr
   rintro j fr s2 hlt ⟨f1,f3,f57,hkb,sB,hsB,hall,hbw⟩ fi fn JO hJO
   have hd:=qG g.vs j hlt
   have hvm:g.vs.getD j 0∈g.vs:=by rw[aI _ _ hlt];exact List.getElem_mem _
   have htk:g.vs.take (j+1)=g.vs.take j++[g.vs.getD j 0]:=by rw[List.take_succ_eq_append_getElem hlt,aI _ _ hlt]
   rw[htk,wP,hsB]at hJO
   simp only[Option.bind_some]at hJO
   generalize g.vs.getD j 0=v at *
   have hm:=aGh sB.vis v
   have hsz:=hall.sz
   obtain⟨s3,e3,hall3,_,_⟩:=aBE hg g.vs.length (Nat.le_refl _) [v] sB (fun w hw=>by rw[List.mem_singleton]at hw;rw[hw];exact hvm) hall
   rw[e3]at hJO
   have hbw':=hbw
   obtain⟨⟨tS,tB,CS,ea2,jW,-,jN,-,-,-,-,-⟩,-,-⟩:=hbw'
   by_cases hin:v∈sB.vis
   ·rw[if_pos hin]at hm
    have e4:s3=sB:=by
     unfold nN at e3
     rw[if_pos hin]at e3
     exact(Option.some.inj e3).symm
    have hz1:1≤nmW sB.vis v:=by unfold nmW;rw[if_pos hin];omega
    generalize nmW sB.vis v=z at *
    have hzb:(z==0)=false:=by rw[beq_eq_false_iff_ne];omega
    have hz0:¬z=0:=oO
    (repeat' (first|refine qS ?_|(refine qK (zZ ?_))|(refine qC ?_;simp[f3,f57,fi,fn,hd,hlt,jW,jN,hm,hzb,hz0])|(refine w_e [] ?_;intro J hJ;simp only[];simp[f3,f57,fi,fn,hd,hlt,jW,jN,hm,hzb,hz0];refine hJ _ _ (zZ ?_))))
    exact hJO _ _ (by simp[fi]) (by simp[fn]) ⟨by simp[f1],by simp[f3],by simp[f57],hkb,s3,rfl,hall3,by rw[e4];exact hbw⟩
   ·rw[if_neg hin]at hm
    have hpre:tR g (fun _=>False) sB v (-1):=⟨hall.ln,hall.nd,fun a ha=>ha.elim,fun w hw _=>hall.fin w hw,hin,fun a b ha=>ha.elim,.inl ⟨rfl,fun a ha=>ha⟩⟩
    (repeat' (first|refine qS ?_|(refine qC ?_;simp[f3,f57,fi,fn,hd,hlt,jW,jN,hm])|(refine w_e [] ?_;intro J hJ;simp only[];simp[f3,f57,fi,fn,hd,hlt,jW,jN,hm];(try refine hJ _ _ (zZ ?_)))))
    refine qE (aOE g hg (p+1) (p+4) (p+1) (p+2) (p+3) tk hv he g.vs.length _ sB v (-1) _ hpre hvm hall.sub oO hsz hbw) sS ?_;rintro r s4 ⟨s5,h5,hb5,hk5⟩
    have e5:s3=s5:=by
     unfold nN at e3
     rw[if_neg hin,h5]at e3
     exact(Option.some.inj e3).symm
    (repeat' (refine aE ?_;simp[];refine hJ _ _ (zZ ?_)))
    exact hJO _ _ (by simp[fi]) (by simp[fn]) ⟨by simp[f1],by simp[f3],by simp[f57],hkb.trans hk5,s3,rfl,hall3,by rw[e5];exact hb5⟩
  ·clear f1 f3 f16 hb0 hall0 fr
   rintro fr s2 ⟨f1,f3,f57,hkb,sB,hsB,hall,hbw⟩
   rw[List.take_length,hS]at hsB
   obtain rfl:=Option.some.inj hsB
   have hsz:=hall.sz
   obtain⟨_,sb⟩:=vG hv he hall.nd hall.sub
   obtain⟨⟨tS,tB,CS,ea2,jW,-,jN,-,-,jB,-,b1,b2,b3,b4⟩,-,d1,-⟩:=hbw
   (repeat' (first|refine qS ?_|(refine w_e [] ?_;intro J hJ;simp only[];simp[f3,jW])))
   refine qE (aPS hids S.out hSa hSb hSn tB _ (by have:=hsz.2;have:=aMX hSa hSb hSn;omega) b4 jB) sS ?_;rintro r s4 ⟨h1,h2,h3⟩
   have hW4:=(h3.2 (p+4) (bD jW jB sS) d1).trans jW
   have hle:=h2.length_eq
   (repeat' (first|refine qS ?_|(refine qR (zZ ?_);simp[f3,hW4])|((first|(refine w_e [] ?_;intro J hJ;simp only[])|(refine aE ?_));simp[f3,hW4];refine hJ _ _ (zZ ?_))))
   refine⟨tB,by simp[hle],h1,oO,Nat.lt_of_lt_of_le b4 h3.1,?_⟩
   refine⟨Nat.le_trans hkp.next (Nat.le_trans hkb.next h3.1),fun x hx=>?_⟩
   rw[h3.2 x oO (by have:=hkb.next;omega),hkb.H x oO,hkp.H x hx]
theorem aHu(n:Nat):∀ l:List Ed,eI n (eds l):=fun l=>by
 induction l with
 |nil=>simp only[eds,List.flatMap_nil,eI]
 |cons x l ih=>simp only[eds,List.flatMap_cons,edL,List.cons_append,List.nil_append,eI];exact⟨trivial,trivial,trivial,ih⟩
theorem aLz(n:Nat)(es:List Ed):∀ out:List (List Nat),eI n (bkL es out):=fun out=>by
 induction out with
 |nil=>simp only[bkL,List.map_nil,eI]
 |cons B out ih=>simp only[bkL,List.map_cons,eI];exact⟨⟨.inl rfl,aHu _ _⟩,ih⟩
theorem aNA(g:Gr)(hg:GoodE g)(st:St)(hv:g.vs.length≤100)(he:g.es.length≤10):
 aB Tryz.prog 43 [.ag (grL g)] st fun r st'=>r=.sl 0 (iV g.es).length (bkL g.es (iV g.es))∧st'=st:=by
 refine qT (Q:=fun r=>r=.sl 0 (iV g.es).length (bkL g.es (iV g.es))) (bQ ((aMk g hg st hv he).mono ?_)) fun r h=>by subst h;exact⟨.inl rfl,aLz _ _ _⟩
 rintro r s ⟨q,rfl,hH,hq,hq2,hk⟩
 have hl:=xP g.es (iV g.es)
 exact⟨q,_,_,_,_,rfl,hH,by rw[hl,Nat.mul_one];exact Nat.le_refl _,by rw[List.take_of_length_le (by rw[hl,Nat.mul_one];exact Nat.le_refl _)],hk.set hq _⟩
end Go.Proofs.YtempldclppogmaaGreatDoor.Aw
