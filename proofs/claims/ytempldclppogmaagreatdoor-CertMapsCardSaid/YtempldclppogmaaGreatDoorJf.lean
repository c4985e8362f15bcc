/- plane: around. -/
import Derived.Test.YtempldclppogmaaGreatDoorJe
import Derived.Test.YtempldclppogmaaGreatDoorAwShp
import Derived.Test.YtempldclppogmaaGreatDoorAwZ
set_option linter.unusedVariables false
set_option linter.unusedSimpArgs false
namespace Go.Proofs.YtempldclppogmaaGreatDoor.Aw
open Go Go.RowKit Go.Proofs.YtempldclppogmaaGreatDoor.Pl
def jA(g:Gr):List LV:=g.vs.map fun v=>wv (mk g.vs (nbr g.es v))
@[simp] theorem aPd(g:Gr):(jA g).length=g.vs.length:=by simp[jA]
theorem aEA(g:Gr)(k:Nat)(hk:k<g.vs.length):(jA g).drop k=wv (mk g.vs (nbr g.es (g.vs.getD k 0)))::(jA g).drop (k+1):=by
 unfold jA
 rw[List.drop_eq_getElem_cons (by simpa using hk),List.getElem_map,aI _ _ hk]
def arn(g:Gr)(A:List Int):List Int:=A.flatMap (nbr g.es)
theorem aIj{g:Gr}{A B:List Int}(h:∀ v,v∈A↔v∈B):mk g.vs (arn g A)=mk g.vs (arn g B):=mk_congr fun v _=>by
 unfold arn
 rw[List.mem_flatMap,List.mem_flatMap]
 exact⟨fun⟨x,hx,h2⟩=>⟨x,(h x).1 hx,h2⟩,fun⟨x,hx,h2⟩=>⟨x,(h x).2 hx,h2⟩⟩
set_option maxHeartbeats 1000000 in
theorem aLe{g:Gr}{S nl:Nat}{st:St}{a b d e f h:LV}(hSb:st.H S=.box 119 7 [a,b,.ms nl 0 g.vs.length,d,e,f,h])(hN:st.H nl=.box 116 1 (jA g))(hn:g.vs.Nodup)(h64:g.vs.length≤64)(A:List Int)(hA:∀ v∈A,v∈g.vs):
 aB Tryz.prog 165 [.pt S 0,wv (mk g.vs A)] st fun r st'=>r=wv (mk g.vs (arn g A))∧st'=st:=by
 refine qO aF Tryz.func165 rfl rfl Tryz.ntmps165 (rs:=[.tmp 4]) rfl sS ?_
 (repeat' (first|refine qS ?_|refine qB ?_|(refine w_e [] ?_;intro J hJ;simp only[];simp[];refine hJ _ _ (zZ ?_))))
 have h0:mk g.vs []=0:=(mk_zero g.vs []).2 fun _ _=>by simp
 refine qL (fun n fr st'=>∃ D R:List Int,n=(g.vs.filter fun v=>decide (v∈R)).length∧(∀ v,v∈A↔v∈D∨v∈R)∧fr 0=.pt S 0∧fr 1=wv (mk g.vs R)∧fr 5=wv (mk g.vs (arn g D))∧st'=st) (g.vs.filter fun v=>decide (v∈A)).length ?_ ?_
 ·exact⟨[],A,rfl,fun v=>by simp,sS,sS,by simp[arn,h0],rfl⟩
 rintro n fr s ⟨D,R,rfl,hDR,f0,f1,f5,rfl⟩ JJ hJJ
 have hRA:∀ v∈R,v∈g.vs:=fun v hv=>hA v ((hDR v).2 (.inr hv))
 by_cases hR:fst' g.vs R<g.vs.length
 ·have hne:=aBb hR
  have hb:((mk g.vs R:Int) != 0)=true:=by simpa using hne
  have hct:=aBo h64 hR
  have hlt:=jZ g.vs R h64
  have hdr:=aEA g _ hR
  obtain⟨hv1,hv2⟩:=aLq hR
  have hdp:=aGd h64 hn hR
  have hi0:(0:Int)≤(fst' g.vs R:Int):=oO
  have hi1:(fst' g.vs R:Int)<g.vs.length:=oO
  have hTz:=fun st=>Tz (mk g.vs R) hlt st
  rw[hct]at hTz
  generalize g.vs.getD (fst' g.vs R) 0=v at *
  have hor:=vO g.vs (arn g D) (nbr g.es v) h64
  (repeat' (first|refine qS ?_|refine qB ?_|(refine qK (zZ ?_))|(refine qC ?_;simp[f1,hb])|(refine w_e [] ?_;intro J hJ;simp only[];simp[f1,hb];refine hJ _ _ (zZ ?_))))
  (refine w_s [] [S,nl] [(0,true),(1,true),(2,true),(3,true),(4,true),(5,true),(6,true),(7,true),(8,true),(9,true),(10,true)] ?_;intro J hJ;simp[f0,f1,f5,hSb,hN])
  refine qD (hTz _) sS ?_;rintro r s1 ⟨rfl,h1⟩
  rw[h1];clear h1 s1
  refine⟨fun h=>by first|(cases h;done)|simp,?_⟩
  (refine bE ?_;simp[hSb,hN,hdr,hi0,hi1,hR,hor];refine hJ _ _ (zZ ?_))
  (repeat' (refine w_e [] ?_;intro J hJ;simp only[];simp[f1,hdp];refine hJ _ _ (zZ ?_)))
  refine hJJ _ _ _ ?_ ⟨D++[v],R.filter fun w=>decide (w≠v),rfl,fun w=>?_,by simp[f0],sS,by simp[arn],rfl⟩
  ·have hsub:(g.vs.filter fun w=>decide (w∈R.filter fun w=>decide (w≠v)))=(g.vs.filter fun w=>decide (w∈R)).filter fun w=>decide (w≠v):=by
    rw[List.filter_filter]
    refine List.filter_congr fun w _=>?_
    simp only[List.mem_filter,decide_eq_true_iff,Bool.decide_and]
    rw[Bool.and_comm]
   rw[hsub]
   refine List.length_filter_lt_length_iff_exists.2 ⟨v,?_,sS⟩
   rw[List.mem_filter];exact⟨hv2,by simpa using hv1⟩
  ·rw[hDR,List.mem_append,List.mem_singleton,List.mem_filter,decide_eq_true_iff]
   constructor
   ·rintro(h|h)
    ·exact .inl (.inl h)
    ·by_cases e:w=v
     ·exact .inl (.inr e)
     ·exact .inr ⟨h,e⟩
   ·rintro((h|h)|h)
    ·exact .inl h
    ·rw[h];exact .inr hv1
    ·exact .inr h.1
 ·have hno:∀ v∈g.vs,v∉R:=fun v hv hvR=>hR (aOv.2 ⟨v,hv,hvR⟩)
  have hz:mk g.vs R=0:=(mk_zero g.vs R).2 hno
  have hb:((mk g.vs R:Int) != 0)=false:=by rw[hz];rfl
  have hfin:mk g.vs (arn g D)=mk g.vs (arn g A):=aIj fun v=>by
   rw[hDR]
   exact⟨.inl,fun h=>h.elim id fun h=>absurd h (hno v (hRA v h))⟩
  rw[hz]at f1
  (repeat' (first|refine qS ?_|(refine qX (zZ ?_))|(refine qR (zZ ?_);simp[f1,f5,hfin])|(refine qC ?_;simp[f1,f5,hfin])|(refine w_e [] ?_;intro J hJ;simp only[];simp[f1,f5,hfin];refine hJ _ _ (zZ ?_))))
structure Brg where
 inner:List Int
 ends:List Int
def nrS(vs A:List Int):List Int:=vs.filter fun v=>decide (v∈A)
def off(A B:List Int):List Int:=A.filter fun v=>!decide (v∈B)
def on'(A B:List Int):List Int:=A.filter fun v=>decide (v∈B)
theorem aAO(vs A:List Int):mk vs (nrS vs A)=mk vs A:=mk_congr fun v hv=>by simp[nrS,hv]
def aCj(g:Gr)(on:List Int):Nat→List Int→Option Brg
 |0,_=>none
 |n+1,inner=>
  if off (off (nrS g.vs (arn g inner)) on) inner=[]then some ⟨inner,on' (nrS g.vs (arn g inner)) on⟩
  else aCj g on n (nrS g.vs (inner++off (nrS g.vs (arn g inner)) on))
def aAx(g:Gr)(on:List Int):Nat→List Int→Option (List Brg)
 |_,[]=>some []
 |0,_::_=>none
 |n+1,v::R=>(aCj g on (g.vs.length+1) [v]).bind fun b=>(aAx g on n (off (v::R) b.inner)).map (b::·)
def qJ(g:Gr)(L:List (Int×Int))(on:List Int)(es:List Ed):List Brg:=
 (es.filter fun x=>decide (prP x.a x.b∉L)&&decide (x.a∈on)&&decide (x.b∈on)).map fun x=>⟨[],[x.a,x.b]⟩
def aMp(g:Gr)(L:List (Int×Int))(on:List Int):Option (List Brg):=(aAx g on (g.vs.length+1) (off g.vs on)).map fun l=>qJ g L on g.es++l
def jQ(vs:List Int)(l:List Brg):List LV:=l.flatMap fun b=>[wv (mk vs b.inner),wv (mk vs b.ends)]
@[simp] theorem aCU(vs:List Int):∀ l:List Brg,(jQ vs l).length=l.length*2
  |[]=>rfl
  |b::l=>by have:=aCU vs l;simp only[jQ,List.flatMap_cons,List.length_append,List.length_cons,List.length_nil]at this ⊢;omega
theorem zT(vs:List Int)(l:List Brg)(b:Brg):jQ vs l++[wv (mk vs b.inner),wv (mk vs b.ends)]=jQ vs (l++[b]):=by simp[jQ]
theorem aJp{es:List (List Int×LV)}{L:List (Int×Int)}(h:es.map (·.1)=L.map pk)(p:Int×Int):(p∈L→∃ v,aY es (pk p)=some v)∧(p∉L→aY es (pk p)=none):=by
 have hin:pk p∈es.map (·.1)↔p∈L:=by
  rw[h,List.mem_map]
  constructor
  ·rintro⟨q,hq,e⟩
   simp only[pk,List.cons.injEq,and_true]at e
   have:q=p:=Prod.ext e.1 e.2
   rw[← this];exact hq
  ·intro hp;exact⟨p,hp,rfl⟩
 have key:∀ es:List (List Int×LV),(pk p∈es.map (·.1)→∃ v,aY es (pk p)=some v)∧(pk p∉es.map (·.1)→aY es (pk p)=none):=by
  intro es
  induction es with
  |nil=>simp[aY]
  |cons q es ih=>
   simp only[aY,List.map_cons,List.mem_cons]
   by_cases e:pk p=q.1
   ·rw[if_pos (by simpa using e)]
    exact⟨fun _=>⟨_,rfl⟩,fun h=>absurd (.inl e) h⟩
   ·rw[if_neg (by simpa using e)]
    exact⟨fun h=>ih.1 (h.resolve_left e),fun h=>ih.2 fun k=>h (.inr k)⟩
 rw[← hin]
 exact key es
theorem aHF(g:Gr)(L:List (Int×Int))(on:List Int)(es:List Ed)(j:Nat)(hj:j<es.length):
 qJ g L on (es.take (j+1))=qJ g L on (es.take j)++if(prP (es.getD j ed0).a (es.getD j ed0).b∉L∧(es.getD j ed0).a∈on)∧(es.getD j ed0).b∈on then [⟨[],[(es.getD j ed0).a,(es.getD j ed0).b]⟩]else []:=by
 unfold qJ
 rw[List.take_succ_eq_append_getElem hj,List.filter_append,List.map_append,List.getD_eq_getElem?_getD,List.getElem?_eq_getElem hj,Option.getD_some]
 generalize es[j]=x
 congr 1
 by_cases h:(prP x.a x.b∉L∧x.a∈on)∧x.b∈on
 ·rw[if_pos h];simp[h.1.1,h.1.2,h.2]
 ·rw[if_neg h]
  rw[List.filter_eq_nil_iff.2];rfl
  intro y hy
  rw[List.mem_singleton]at hy
  subst hy
  simpa[and_assoc]using h
theorem aGq{vs A B:List Int}(hA:∀ v∈A,v∈vs):mk vs (off A B)=0↔off A B=[]:=by
 rw[mk_zero]
 constructor
 ·intro h
  exact List.eq_nil_iff_forall_not_mem.2 fun v hv=>h v (hA v (List.mem_filter.1 hv).1) hv
 ·intro h v _;rw[h];simp
theorem zH:∀ {vs R:List Int} {v:Int},vs.Nodup→(v::R).Sublist vs→vs.getD (fst' vs (v::R)) 0=v∧fst' vs (v::R)<vs.length
 |[],R,v,_,h=>by cases h
 |w::vs,R,v,hn,h=>by
  have hn2:=(List.nodup_cons.1 hn)
  cases h with
  |cons _ h=>
   have hw:w∉v::R:=fun hw=>hn2.1 (h.subset hw)
   obtain⟨h1,h2⟩:=zH hn2.2 h
   have e:fst' (w::vs) (v::R)=fst' vs (v::R)+1:=by
    unfold fst';rw[List.findIdx_cons];simp only[decide_eq_true_eq,cond_eq_ite];rw[if_neg hw]
   rw[e]
   exact⟨by simpa using h1,by simpa using h2⟩
  |cons_cons _ h=>
   have e:fst' (w::vs) (w::R)=0:=by
    unfold fst';rw[List.findIdx_cons];simp
   rw[e]
   exact⟨sS,sS⟩
theorem aOB(vs:List Int)(l:List Brg):(jQ vs l).map z0=jQ vs l:=by
 induction l with
 |nil=>rfl
 |cons b l ih=>simp only[jQ,List.flatMap_cons,List.map_append]at ih ⊢;rw[ih];rfl
def aAH(t e s n:Nat)(lo:St)(st:St):Prop:=t≠0∧lo.next≤t∧t<st.next∧st.H t=.own e s n
structure ShR(g:Gr)(L:List (Int×Int))(on:List Int)(S nl pl ll:Nat)(f:LV)(le:List (List Int×LV))(st:St):Prop where
 box:st.H S=.box 119 7 [.sl 0 g.vs.length (us g.vs),.sl 0 g.es.length (eds g.es),.ms nl 0 g.vs.length,.mp pl,.mp ll,wv (mk g.vs on),f]
 near:st.H nl=.box 116 1 (jA g)
 plc:st.H pl=.map false [.u32] (sC g.vs)
 lin:st.H ll=.map true [.u32,.u32] le
 key:le.map (·.1)=L.map pk
 lt:S<st.next∧nl<st.next∧pl<st.next∧ll<st.next
theorem ShR.keep{g:Gr}{L:List (Int×Int)}{on:List Int}{S nl pl ll:Nat}{f:LV}{le:List (List Int×LV)}{st st':St}(h:ShR g L on S nl pl ll f le st)(k:aA st st'):ShR g L on S nl pl ll f le st':=by
 obtain⟨a,b,c,d,e,f1,f2,f3,f4⟩:=h
 have hx:=k.next
 exact⟨(k.H _ f1).trans a,(k.H _ f2).trans b,(k.H _ f3).trans c,(k.H _ f4).trans d,e,oO,oO,oO,oO⟩
theorem ShR.b{g:Gr}{L:List (Int×Int)}{on:List Int}{S nl pl ll:Nat}{f:LV}{le:List (List Int×LV)}{st:St}(h:ShR g L on S nl pl ll f le st):ShB g.vs S pl st:=⟨⟨_,_,_,_,_,_,h.box⟩,h.plc⟩
theorem aDc{g:Gr}{L:List (Int×Int)}{on:List Int}{S nl pl ll:Nat}{f:LV}{le:List (List Int×LV)}{st:St}(h:ShR g L on S nl pl ll f le st)(hn:g.vs.Nodup)(h64:g.vs.length≤64)(A:List Int)(hA:∀ v∈A,v∈g.vs):
 aB Tryz.prog 165 [.pt S 0,wv (mk g.vs A)] st fun r st'=>r=wv (mk g.vs (arn g A))∧st'=st:=aLe h.box h.near hn h64 A hA
structure GP(g:Gr):Prop extends GoodE g where
 h64:g.vs.length≤64
 he:g.es.length≤200
set_option maxHeartbeats 2000000 in
theorem aJv{g:Gr}(hg:GP g){L:List (Int×Int)}{on:List Int}(hon:∀ v∈on,v∈g.vs){S nl pl ll:Nat}{f:LV}{le:List (List Int×LV)}{st:St}(hS:ShR g L on S nl pl ll f le st){B:List Brg}(hB:aMp g L on=some B):
 aB Tryz.prog 116 [.pt S 0] st fun r st'=>r=.sl 0 B.length (jQ g.vs B)∧st'=st:=by
 refine qT (Q:=fun r=>r=.sl 0 B.length (jQ g.vs B)) (cQ ?_) fun r h=>by
  subst h
  refine⟨.inl rfl,?_⟩
  clear hB
  induction B with
  |nil=>trivial
  |cons b B ih=>exact⟨trivial,trivial,ih⟩
 have hn:g.vs.Nodup:=hg.toGoodE.toGood.nodup
 have h64:=hg.h64
 have hel:=aJ g.es
 unfold aMp at hB
 obtain⟨l2,hl2,rfl⟩:=Option.map_eq_some_iff.1 hB
 obtain⟨hSb,hN,hP,hL,hkey,q1,q2,q3,q4⟩:=id hS
 refine qO aF Tryz.func116 rfl rfl Tryz.ntmps116 (rs:=[.tmp 2]) rfl sS ?_
 refine cG fun hpos=>?_
 (repeat' (first|refine qS ?_|refine qB ?_|(refine w_e [] ?_;intro J hJ;simp only[];simp[hSb];refine hJ _ _ (zZ ?_))))
 refine dW 3 121 2 sS ?_
 have e0:¬st.next=0:=oO
 have he200:=hg.he
 refine aM 18 17 19 60 (g.es.length) (fun j fr st2=>fr 0=.pt S 0∧fr 16=.sl 0 g.es.length (eds g.es)∧aA st st2∧∃ t,fr 3=.sl t (qJ g L on (g.es.take j)).length (jQ g.vs (qJ g L on (g.es.take j)))∧aAH t 121 2 (qJ g L on (g.es.take j)).length st st2) ?_ ?_ ?_
 ·exact⟨sS,sS,aA.new _ _,st.next,by simp[qJ,jQ],e0,Nat.le_refl _,sS,by simp[qJ]⟩
 ·rintro j fr s hlt ⟨f0,f16,hk,t,f3,t0,t1,t2,tH⟩ fi fn JO hJO
  have hd:=aW g.es j hlt
  have hk3:j*3<g.es.length*3:=oO
  have hsn:=aHF g L on g.es j hlt
  have hends:=hg.ends _ (show g.es.getD j ed0∈g.es by rw[bZ _ _ hlt];exact List.getElem_mem _)
  generalize g.es.getD j ed0=ee at *
  generalize hF:qJ g L on (g.es.take j)=F at *
  obtain⟨d,a,b⟩:=ee
  simp only at hsn hends
  have hS1:=(hS.keep hk).keep (aA.new s (.box 56 3 [u d,u a,u b]))
  obtain⟨hSb1,hN1,hP1,hL1,-,p1,p2,p3,p4⟩:=id hS1
  have hB1:=fun v hv=>aMC (v:=v) hS1.b hn h64 hv
  have hor:=vO g.vs [a] [b] h64
  simp only[List.cons_append,List.nil_append]at hor
  obtain⟨hgs,hgn⟩:=aJp hkey (prP a b)
  have hnS:¬S=s.next:=by have:=hk.next;omega
  have hnl:¬ll=s.next:=by have:=hk.next;omega
  have hSb0:=(hS.keep hk).box
  have hL0:=(hS.keep hk).lin
  have hdf:=nI g.vs [a,b] on h64
  have hwl:(F:List Brg).length≤g.es.length:=by
   have h1:=List.length_filter_le (fun x=>decide (prP x.a x.b∉L)&&decide (x.a∈on)&&decide (x.b∈on)) (g.es.take j)
   have h2:F.length=((g.es.take j).filter (fun x=>decide (prP x.a x.b∉L)&&decide (x.a∈on)&&decide (x.b∈on))).length:=by rw[← hF];unfold qJ;rw[List.length_map]
   rw[List.length_take]at h1
   omega
  (repeat' (first|refine qS ?_|(refine w_e [] ?_;intro J hJ;simp only[];simp[f0,f16,fi,fn,hd,hel,hk3,hlt];refine hJ _ _ (zZ ?_))))
  (refine w_s [] [s.next] [(0,true),(1,true),(2,true),(4,true),(5,true),(6,true),(3,true),(7,true),(8,true),(9,true)] ?_;intro J hJ;simp[f0])
  refine qD (hB1 a hends.1) sS ?_;rintro r s1 ⟨rfl,h1⟩
  rw[h1];clear h1 s1
  refine⟨fun h=>by first|(cases h;done)|exact fun _ _=>rfl|simp,?_⟩
  (refine bE ?_;simp[])
  refine qD (hB1 b hends.2) sS ?_;rintro r s1 ⟨rfl,h1⟩
  rw[h1];clear h1 s1
  refine⟨fun h=>by first|(cases h;done)|exact fun _ _=>rfl|simp,?_⟩
  (refine bE ?_;simp[hor];refine hJ _ _ (zZ ?_))
  (repeat (refine qS ?_))
  (refine w_s [] [S,s.next,ll] [(0,true),(1,true),(2,true),(3,true),(4,true),(5,true),(6,true),(7,true),(8,true),(9,true),(10,true),(11,true),(12,true),(13,true),(14,true)] ?_;intro J hJ;simp[f0,hSb0,hnS])
  refine qD (pair a b _) sS ?_;rintro r s1 ⟨rfl,h1⟩
  rw[h1];clear h1 s1
  refine⟨fun h=>by first|(cases h;done)|exact fun _ _=>rfl|simp,?_⟩
  have c1:¬t=s.next:=oO
  have c2:¬t=s.next+1:=oO
  have c3:¬s.next=t:=oO
  have hFs:=zT g.vs F ⟨[],[a,b]⟩
  have hz0:mk g.vs []=0:=(mk_zero g.vs []).2 fun _ _=>by simp
  simp only[hz0]at hFs
  by_cases hp:prP a b∈L
  ·obtain⟨v,hv⟩:=hgs hp
   have hv:aY le [min a b,max a b]=some v:=hv
   rw[if_neg (by simp[hp]),List.append_nil]at hsn
   (refine bE ?_;simp[hL0,hnl,hv];refine hJ _ _ (zZ ?_))
   (repeat' (first|refine qS ?_|(refine qK (zZ ?_))|(refine qC ?_;simp[])|(refine w_e [] ?_;intro J hJ;simp only[];simp[];refine hJ _ _ (zZ ?_))))
   exact hJO _ _ (by simp[fi]) (by simp[fn]) ⟨by simp[f0],by simp[f16],hk.trans (aA.new _ _),t,by rw[hsn];simp[f3],t0,t1,by simp;omega,by rw[hsn];(repeat (first|rw[nHh nOo]|rw[sHh oO]|rw[nIi nQq]|rw[sIi oO]));exact tH⟩
  ·have hv:aY le [min a b,max a b]=none:=hgn hp
   by_cases hc:a∈on∧b∈on
   ·rw[if_pos ⟨⟨hp,hc.1⟩,hc.2⟩]at hsn
    have hz:mk g.vs (off [a,b] on)=0:=(mk_zero _ _).2 fun v _ h=>by
     simp only[off,List.mem_filter,List.mem_cons,List.not_mem_nil,or_false,Bool.not_eq_true',decide_eq_false_iff_not]at h
     rcases h.1 with e|e
     ·exact h.2 (by rw[e];exact hc.1)
     ·exact h.2 (by rw[e];exact hc.2)
    have hdz:fH .u64 (mk g.vs [a,b]) (mk g.vs on)=0:=by rw[hdf];exact congrArg Int.ofNat hz
    (refine bE ?_;simp[hL0,hnl,hv];refine hJ _ _ (zZ ?_))
    (repeat' (first|refine qS ?_|(refine qC ?_;simp[hSb0,f0,hnS,hdz,f3,tH,t0,c1,c2,c3])|(refine w_e [] ?_;intro J hJ;simp only[];simp[hSb0,f0,hnS,hdz,f3,tH,t0,c1,c2,c3];(repeat refine ca ?_);refine hJ _ _ (zZ ?_))))
    exact hJO _ _ (by simp[fi]) (by simp[fn]) ⟨by simp[f0],by simp[f16],((hk.trans (aA.new _ _)).trans (aA.new _ _)).set t1 _ |>.trans (aA.new _ _),s.next+2,by rw[hsn,← hFs];simp,oO,oO,sS,by rw[hsn];simp⟩
   ·rw[if_neg (by intro h;exact hc ⟨h.1.2,h.2⟩),List.append_nil]at hsn
    have hz:mk g.vs (off [a,b] on)≠0:=fun h=>by
     rw[mk_zero]at h
     have ha:=h a hends.1
     have hb:=h b hends.2
     simp[off]at ha hb
     exact hc ⟨ha,hb⟩
    have hdz:(fH .u64 (mk g.vs [a,b]) (mk g.vs on)==0)=false:=by rw[hdf];simpa[off]using hz
    (refine bE ?_;simp[hL0,hnl,hv];refine hJ _ _ (zZ ?_))
    (repeat' (first|refine qS ?_|(refine qK (zZ ?_))|(refine qC ?_;simp[hSb0,f0,hnS,hdz])|(refine w_e [] ?_;intro J hJ;simp only[];simp[hSb0,f0,hnS,hdz];refine hJ _ _ (zZ ?_))))
    exact hJO _ _ (by simp[fi]) (by simp[fn]) ⟨by simp[f0],by simp[f16],hk.trans (aA.new _ _),t,by rw[hsn];simp[f3],t0,t1,by simp;omega,by rw[hsn];(repeat (first|rw[nHh nOo]|rw[sHh oO]|rw[nIi nQq]|rw[sIi oO]));exact tH⟩
 ·rintro fr s ⟨f0,f16,hk,t,f3,t0,t1,t2,tH⟩
  rw[List.take_length]at f3 tH
  have hE1:(qJ g L on g.es).length≤200:=by
   have h1:=List.length_filter_le (fun x=>decide (prP x.a x.b∉L)&&decide (x.a∈on)&&decide (x.b∈on)) g.es
   unfold qJ;rw[List.length_map];omega
  generalize qJ g L on g.es=E1 at *
  have hSk:=hS.keep hk
  have hSb0:=hSk.box
  have hdf:=nI g.vs g.vs on h64
  have hsv:=fun st' (h:ShB g.vs S pl st')=>aOQ h hn h64 g.vs 0 (fun v h=>h) oO
  (repeat' refine qS ?_)
  (refine w_s [] [S] [(0,true),(1,true),(2,true),(3,true),(4,true),(5,true),(7,true),(8,true),(9,true),(10,true),(6,true),(11,true),(12,true)] ?_;intro J hJ;simp[f0,hSb0])
  refine qD (hsv _ hSk.b) sS ?_;rintro r s1 ⟨rfl,h1⟩
  rw[h1];clear h1 s1
  refine⟨fun h=>by first|(cases h;done)|exact fun _ _=>rfl|simp,?_⟩
  (refine bE ?_;simp[hSb0,hdf];refine hJ _ _ (zZ ?_))
  (repeat (first|refine qS ?_|refine qB ?_))
  refine qL (fun n fr st'=>∃ R l l2',aAx g on n R=some l2'∧l2=l++l2'∧l.length+n≤g.vs.length+1∧R.Sublist g.vs∧fr 0=.pt S 0∧fr 9=wv (mk g.vs R)∧aA st st'∧∃ t,fr 3=.sl t (E1++l).length (jQ g.vs (E1++l))∧aAH t 121 2 (E1++l).length st st') (g.vs.length+1) ?_ ?_
  ·exact⟨off g.vs on,[],l2,hl2,rfl,sS,List.filter_sublist,by simp[f0],by simp[off],hk,t,by simp[f3],t0,t1,t2,by simpa using tH⟩
  ·clear f0 f16 hk f3 t0 t1 t2 tH hSk hSb0 fr s
   rintro n fr s ⟨R,l,l2',hr,rfl,hln,hsub,f0,f9,hk,t,f3,t0,t1,t2,tH⟩ JJ hJJ
   have hSk:=hS.keep hk
   obtain⟨hSb0,hN0,-,-,-,p1,p2,p3,p4⟩:=id hSk
   have hRv:∀ v∈R,v∈g.vs:=fun v hv=>hsub.subset hv
   cases R with
   |nil=>
    have hz:mk g.vs []=0:=(mk_zero g.vs []).2 fun _ _=>by simp
    rw[hz]at f9
    have hl2':l2'=[]:=by cases n<;>simpa[aAx]using hr.symm
    subst hl2'
    rw[List.append_nil]
    (repeat' (first|refine qS ?_|(refine qX (zZ ?_))|(refine qR (zZ ?_);simp[f9,f3])|(refine qC ?_;simp[f9,f3])|(refine w_e [] ?_;intro J hJ;simp only[];simp[f9,f3];refine hJ _ _ (zZ ?_))))
    exact⟨by simp[z0,lE,aOB],hk⟩
   |cons v R=>
    obtain⟨hfv,hflt⟩:=zH hn hsub
    have hne:=aBb hflt
    have hb:((mk g.vs (v::R):Int) != 0)=true:=by simpa using hne
    have hlow:=aPb h64 hn hflt
    rw[hfv,Int.zero_sub]at hlow
    cases n with
    |zero=>simp[aAx]at hr
    |succ n=>
     rw[aAx]at hr
     obtain⟨b,hgb,hr⟩:=Option.bind_eq_some_iff.1 hr
     obtain⟨l3,hr3,rfl⟩:=Option.map_eq_some_iff.1 hr
     have hvv:∀ w∈[v],w∈g.vs:=fun w hw=>by rw[List.mem_singleton]at hw;rw[hw];exact hRv v sS
     (repeat' (first|refine qS ?_|refine qB ?_|(refine qK (zZ ?_))|(refine qC ?_;simp[f0,f9,hb,hlow])|(refine w_e [] ?_;intro J hJ;simp only[];simp[f0,f9,hb,hlow];(try refine hJ _ _ (zZ ?_)))))
     refine qE (aDc hSk hn h64 [v] hvv) sS ?_;rintro r s1 ⟨rfl,h1⟩
     rw[h1];clear h1 s1
     (refine aE ?_;simp[];refine hJ _ _ (zZ ?_))
     (repeat (first|refine qS ?_|refine qB ?_))
     refine qL (fun m fr st'=>∃ inner,aCj g on m inner=some b∧(∀ w∈inner,w∈g.vs)∧fr 0=.pt S 0∧fr 9=wv (mk g.vs (v::R))∧fr 3=.sl t (E1++l).length (jQ g.vs (E1++l))∧fr 10=wv (mk g.vs inner)∧fr 11=wv (mk g.vs (arn g inner))∧st'=s) (g.vs.length+1) ?_ ?_
     ·exact⟨[v],hgb,hvv,by simp[f0],by simp[f9],by simp[f3],sS,sS,rfl⟩
     ·clear f0 f9 f3 fr
      rintro m fr s3 ⟨inner,hgi,hiv,f0,f9,f3,f10,f11,hs3⟩ JI hJI
      subst hs3
      cases m with
      |zero=>simp[aCj]at hgi
      |succ m=>
       have hRR:∀ w∈nrS g.vs (arn g inner),w∈g.vs:=fun w hw=>(List.mem_filter.1 hw).1
       rw[← aAO]at f11
       rw[aCj]at hgi
       generalize nrS g.vs (arn g inner)=RR at *
       have hd1:fH .u64 (mk g.vs RR) (mk g.vs on)=mk g.vs (off RR on):=nI g.vs RR on h64
       have hd2:fH .u64 (mk g.vs (off RR on)) (mk g.vs inner)=mk g.vs (off (off RR on) inner):=nI g.vs _ inner h64
       by_cases hc:off (off RR on) inner=[]
       ·rw[if_pos hc]at hgi
        have hbe:b=⟨inner,on' RR on⟩:=by simpa using hgi.symm
        subst hbe
        have hz:mk g.vs (off (off RR on) inner)=0:=by rw[hc];exact(mk_zero g.vs []).2 fun _ _=>by simp
        have hb2:((mk g.vs (off (off RR on) inner):Int) != 0)=false:=by rw[hz];rfl
        have hd3:rN .u64 (mk g.vs RR) (mk g.vs on)=mk g.vs (on' RR on):=aKH g.vs RR on h64
        have hd4:fH .u64 (mk g.vs (v::R)) (mk g.vs inner)=mk g.vs (off (v::R) inner):=nI g.vs _ inner h64
        have c1:¬t=s3.next:=oO
        have c2:¬s3.next=t:=oO
        have hFs:=zT g.vs (E1++l) ⟨inner,on' RR on⟩
        have hle:(E1++l).length≤300:=by rw[List.length_append];have:=hg.h64;omega
        rw[List.append_assoc]at hFs
        have hlen:(E1++l).length+1=(E1++(l++[(⟨inner,on' RR on⟩:Brg)])).length:=by simp;omega
        generalize hEl:E1++l=El at *
        (repeat' (first|refine qS ?_|(refine qX (zZ ?_))|(refine qC ?_;simp[f0,f9,f10,f11,f3,hSb0,hd1,hd2,hb2,hd3,hd4,tH,t0,c1,c2])|(refine w_e [] ?_;intro J hJ;simp only[];simp[f0,f9,f10,f11,f3,hSb0,hd1,hd2,hb2,hd3,hd4,tH,t0,c1,c2];(repeat refine ca ?_);refine hJ _ _ (zZ ?_))))
        exact hJJ _ _ _ (Nat.lt_succ_self n) ⟨off (v::R) inner,l++[⟨inner,on' RR on⟩],l3,hr3,sS,by simp;omega,List.filter_sublist.trans hsub,by simp[f0],sS,((hk.trans (aA.new _ _)).set t1 _).trans (aA.new _ _),s3.next+1,by rw[← hFs,← hlen];simp,oO,oO,sS,by rw[← hlen];simp⟩
       ·rw[if_neg hc]at hgi
        have hz:mk g.vs (off (off RR on) inner)≠0:=fun h=>hc ((aGq fun w hw=>hRR w (List.mem_filter.1 hw).1).1 h)
        have hb2:((mk g.vs (off (off RR on) inner):Int) != 0)=true:=by simpa using hz
        have hor:gor .u64 (mk g.vs inner) (mk g.vs (off RR on))=mk g.vs (nrS g.vs (inner++off RR on)):=by rw[vO _ _ _ h64,aAO]
        have hnv:∀ w∈nrS g.vs (inner++off RR on),w∈g.vs:=fun w hw=>(List.mem_filter.1 hw).1
        generalize nrS g.vs (inner++off RR on)=IN at *
        (repeat' (first|refine qS ?_|refine qB ?_|(refine qK (zZ ?_))|(refine qC ?_;simp[f0,f10,f11,hSb0,hd1,hd2,hb2,hor])|(refine w_e [] ?_;intro J hJ;simp only[];simp[f0,f10,f11,hSb0,hd1,hd2,hb2,hor];(try refine hJ _ _ (zZ ?_)))))
        refine qE (aDc hSk hn h64 IN hnv) sS ?_;rintro r s1 ⟨rfl,h1⟩
        rw[h1];clear h1 s1
        (refine aE ?_;simp[];refine hJ _ _ (zZ ?_))
        exact hJI _ _ _ (Nat.lt_succ_self m) ⟨IN,hgi,hnv,by simp[f0],by simp[f9],by simp[f3],sS,sS,rfl⟩
def fK(vs:List Int)(F:List (List Int)):List LV:=F.flatMap fun r=>[.sl 0 r.length (us r),wv (mk vs r)]
@[simp] theorem lS(vs:List Int):∀ F:List (List Int),(fK vs F).length=F.length*2
  |[]=>rfl
  |r::F=>by have:=lS vs F;simp only[fK,List.flatMap_cons,List.length_append,List.length_cons,List.length_nil]at this ⊢;omega
theorem nB(vs:List Int):∀(F:List (List Int)) (k:Nat),k<F.length→(fK vs F).drop (k*2)=.sl 0 (F.getD k []).length (us (F.getD k []))::wv (mk vs (F.getD k []))::fK vs (F.drop (k+1))
 |r::F,0,_=>by simp[fK]
 |r::F,k+1,h=>by
  have:=nB vs F k (by simpa using h)
  rw[show(k+1)*2=k*2+2 by omega]
  simp only[fK,List.flatMap_cons,List.cons_append,List.nil_append,List.drop_succ_cons]at this ⊢
  rw[this];simp
 |[],k,h=>by simp at h
theorem zG(vs:List Int):∀(B:List Brg) (k:Nat),k<B.length→(jQ vs B).drop (k*2)=wv (mk vs (B.getD k ⟨[],[]⟩).inner)::wv (mk vs (B.getD k ⟨[],[]⟩).ends)::jQ vs (B.drop (k+1))
 |r::F,0,_=>by simp[jQ]
 |r::F,k+1,h=>by
  have:=zG vs F k (by simpa using h)
  rw[show(k+1)*2=k*2+2 by omega]
  simp only[jQ,List.flatMap_cons,List.cons_append,List.nil_append,List.drop_succ_cons]at this ⊢
  rw[this];simp
 |[],k,h=>by simp at h
def pJ(b:Brg)(p:Int×Int)(r:List Int×Nat):Int×Int:=if off b.ends r.1=[]then(if p.2=0 then(r.2:Int)else p.1,p.2+1)else p
def iL(b:Brg)(F:List (List Int×Nat)):Int×Int:=F.foldl (pJ b) (-1,0)
def dH(F:List (List Int)):List Brg→Brg×Int→Brg×Int
 |[],best=>best
 |b::l,best=>if(iL b F.zipIdx).2≤1 then(b,(iL b F.zipIdx).1)else dH F l (if best.2<0 then(b,(iL b F.zipIdx).1)else best)
theorem aEw(b:Brg)(F:List (List Int))(k:Nat)(hk:k<F.length):iL b (F.zipIdx.take (k+1))=pJ b (iL b (F.zipIdx.take k)) (F.getD k [],k):=by
 unfold iL
 have hz:k<F.zipIdx.length:=by simpa using hk
 rw[List.take_succ_eq_append_getElem hz,List.foldl_append,List.getElem_zipIdx,List.getD_eq_getElem?_getD,List.getElem?_eq_getElem hk]
 simp
theorem aDB(b:Brg):∀(F:List (List Int×Nat)),0≤(iL b F).2∧(iL b F).2≤F.length:=by
 have key:∀(F:List (List Int×Nat)) (p:Int×Int),0≤p.2→0≤(F.foldl (pJ b) p).2∧(F.foldl (pJ b) p).2≤p.2+F.length:=by
  intro F
  induction F with
  |nil=>intro p h;simpa using h
  |cons r F ih=>
   intro p h
   have h1:0≤(pJ b p r).2∧(pJ b p r).2≤p.2+1:=by unfold pJ;by_cases e:off b.ends r.1=[];(· rw[if_pos e];simp only;omega);(· rw[if_neg e];omega)
   have:=ih (pJ b p r) h1.1
   rw[List.foldl_cons,List.length_cons]
   omega
 intro F
 have:=key F (-1,0) sS
 unfold iL
 simp only at this
 omega
structure ShA(g:Gr)(L:List (Int×Int))(on:List Int)(F:List (List Int))(S nl pl ll fl:Nat)(le:List (List Int×LV))(st:St):Prop where
 r:ShR g L on S nl pl ll (.ms fl 0 F.length) le st
 fac:st.H fl=.box 127 2 (fK g.vs F)
 flt:fl<st.next
 sub:∀ r∈F,∀ v∈r,v∈g.vs
 onv:∀ v∈on,v∈g.vs
 few:F.length≤300
theorem ShA.keep{g:Gr}{L:List (Int×Int)}{on:List Int}{F:List (List Int)}{S nl pl ll fl:Nat}{le:List (List Int×LV)}{st st':St}(h:ShA g L on F S nl pl ll fl le st)(k:aA st st'):ShA g L on F S nl pl ll fl le st':=
 ⟨h.r.keep k,(k.H _ h.flt).trans h.fac,Nat.lt_of_lt_of_le h.flt k.next,h.sub,h.onv,h.few⟩
abbrev aLF(vs:List Int)(b:Brg):LV:=.ag [wv (mk vs b.inner),wv (mk vs b.ends)]
set_option maxHeartbeats 2000000 in
theorem aLg{g:Gr}(hg:GP g){L:List (Int×Int)}{on:List Int}{F:List (List Int)}{S nl pl ll fl:Nat}{le:List (List Int×LV)}{st:St}(hS:ShA g L on F S nl pl ll fl le st){B:List Brg}(hB:aMp g L on=some B)(hBe:∀ b∈B,∀ v∈b.ends,v∈g.vs)(hBl:B.length≤300):
 aB Tryz.prog 75 [.pt S 0] st fun r st'=>r=.tu [aLF g.vs (dH F B (⟨[],[]⟩,-1)).1,i (dH F B (⟨[],[]⟩,-1)).2]∧st'=st:=by
 refine qT (Q:=fun r=>r=.tu [aLF g.vs (dH F B (⟨[],[]⟩,-1)).1,i (dH F B (⟨[],[]⟩,-1)).2]) ?_ fun r h=>by subst h;exact⟨⟨trivial,trivial,trivial⟩,trivial,trivial⟩
 have h64:=hg.h64
 have hz:mk g.vs []=0:=(mk_zero g.vs []).2 fun _ _=>by simp
 have hq:=hS.r.lt
 refine qO aF Tryz.func75 rfl rfl Tryz.ntmps75 (rs:=[.cell 2 121,.tmp 3]) rfl sS ?_
 (repeat' (first|refine qS ?_|(refine w_e [] ?_;intro J hJ;simp only[];simp[];(try refine hJ _ _ (zZ ?_)))))
 refine qE (aJv hg hS.onv (hS.r.keep ((aA.new _ _).trans (aA.new _ _))) hB) sS ?_;rintro r s1 ⟨rfl,h1⟩
 rw[h1];clear h1 s1
 (repeat' (first|refine qB ?_|(refine aE ?_;simp[];refine hJ _ _ (zZ ?_))))
 have e0:¬st.next=st.next+1:=oO
 have hbl:=aCU g.vs B
 have hfl:=lS g.vs F
 have hfew:=hS.few
 generalize hCC:dH F B (⟨[],[]⟩,-1)=CC
 refine aM 15 14 16 49 (B.length) (fun j fr st2=>fr 0=.pt S 0∧fr 2=.pt st.next 0∧fr 4=.pt (st.next+1) 0∧fr 13=.sl 0 B.length (jQ g.vs B)∧aA st st2∧st.next+1<st2.next∧st2.H st.next=.box 121 2 [wv 0,wv 0]∧∃ best at_,fr 5=i at_∧st2.H (st.next+1)=.box 121 2 [wv (mk g.vs best.inner),wv (mk g.vs best.ends)]∧dH F (B.drop j) (best,at_)=CC) ?_ ?_ ?_
 ·exact⟨sS,sS,sS,sS,(aA.new _ _).trans (aA.new _ _),sS,by simp[e0],⟨[],[]⟩,-1,sS,by simp[hz],hCC⟩
 ·rintro jo fr s hlt ⟨f0,f2,f4,f13,hk,hsn,hR,best,at_,f5,hB5,hch⟩ fi fn JO hJO
  have hd:=zG g.vs B jo hlt
  have hk2:jo*2<B.length*2:=oO
  rw[List.drop_eq_getElem_cons hlt,dH]at hch
  have hbm:B.getD jo ⟨[],[]⟩=B[jo]:=by rw[List.getD_eq_getElem?_getD,List.getElem?_eq_getElem hlt];rfl
  have hbe:=hBe _ (List.getElem_mem hlt)
  rw[hbm]at hd
  generalize B[jo]=b at *
  have hSk:=hS.keep hk
  obtain⟨hSb,-,-,-,-,p1,p2,p3,p4⟩:=id hSk.r
  have hF:=hSk.fac
  have hFl:=hSk.flt
  have x1:¬S=s.next:=oO
  have x2:¬fl=s.next:=oO
  have x3:¬st.next=s.next:=oO
  have x4:¬st.next+1=s.next:=oO
  (repeat' (first|refine qS ?_|refine qB ?_|(refine w_e [] ?_;intro J hJ;simp only[];simp[f0,f13,fi,fn,hd,hk2,hbl,hlt,hSb,x1];refine hJ _ _ (zZ ?_))))
  refine aM 24 23 25 40 (F.length) (fun j fr st2=>fr 0=.pt S 0∧fr 2=.pt st.next 0∧fr 4=.pt (st.next+1) 0∧fr 13=.sl 0 B.length (jQ g.vs B)∧fr 14=i B.length∧fr 15=i jo∧fr 5=i at_∧fr 7=.pt s.next 0∧fr 22=.ms fl 0 F.length∧fr 8=i (iL b (F.zipIdx.take j)).1∧fr 9=i (iL b (F.zipIdx.take j)).2∧aA (s.new (.box 121 2 [wv (mk g.vs b.inner),wv (mk g.vs b.ends)])) st2) ?_ ?_ ?_
  ·exact⟨by simp[f0],by simp[f2],by simp[f4],by simp[f13],by simp[fn],by simp[fi],by simp[f5],sS,sS,by simp[iL],by simp[iL],aA.refl _⟩
  ·clear f0 f2 f4 f13 f5 fi fn fr
   rintro k fr s2 hlk ⟨f0,f2,f4,f13,f14,f15,f5,f7,f22,f8,f9,hk3⟩ fi fn JI hJI
   have hn3:=hk3.next
   simp only[aC]at hn3
   have hbx:s2.H s.next=.box 121 2 [wv (mk g.vs b.inner),wv (mk g.vs b.ends)]:=by rw[hk3.H _ sS];simp
   have hF2:s2.H fl=.box 127 2 (fK g.vs F):=by rw[hk3.H _ (by simp;omega),bI,if_neg x2];exact hF
   have hdF:=nB g.vs F k hlk
   have hsc:=aEw b F k hlk
   have hle:=aDB b (F.zipIdx.take k)
   rw[List.length_take,List.length_zipIdx]at hle
   generalize F.getD k []=rr at *
   generalize hpp:iL b (F.zipIdx.take k)=pp at *
   obtain⟨p1',p2'⟩:=pp
   simp only at hle f8 f9
   have hk22:k*2<F.length*2:=oO
   have hdf:fH .u64 (mk g.vs b.ends) (mk g.vs rr)=mk g.vs (off b.ends rr):=nI g.vs b.ends rr h64
   have y1:¬s.next=s2.next:=oO
   have y2:¬fl=s2.next:=oO
   have hw:=wrap_i64 (p2'+1) oO oO
   unfold pJ at hsc
   by_cases hfit:off b.ends rr=[]
   ·have hb:((mk g.vs (off b.ends rr):Int) != 0)=false:=by rw[hfit,hz];rfl
    rw[if_pos hfit]at hsc
    simp only at hsc
    by_cases h0:p2'=0
    ·have hb0:(p2'==0)=true:=by simpa using h0
     rw[if_pos h0]at hsc
     (repeat' (first|refine qS ?_|(refine qK (zZ ?_))|(refine qC ?_;simp[f7,f22,f8,f9,fi,fn,hdF,hF2,hlk,hk22,hfl,hbx,y1,y2,hdf,hb,hb0,hw])|(refine w_e [] ?_;intro J hJ;simp only[];simp[f7,f22,f8,f9,fi,fn,hdF,hF2,hlk,hk22,hfl,hbx,y1,y2,hdf,hb,hb0,hw];refine hJ _ _ (zZ ?_))))
     exact hJI _ _ (by simp[fi]) (by simp[fn]) ⟨by simp[f0],by simp[f2],by simp[f4],by simp[f13],by simp[f14],by simp[f15],by simp[f5],by simp[f7],by simp[f22],by rw[hsc];simp,by rw[hsc];simp,hk3.trans (aA.new _ _)⟩
    ·have hb0:(p2'==0)=false:=by simpa using h0
     rw[if_neg h0]at hsc
     (repeat' (first|refine qS ?_|(refine qK (zZ ?_))|(refine qC ?_;simp[f7,f22,f8,f9,fi,fn,hdF,hF2,hlk,hk22,hfl,hbx,y1,y2,hdf,hb,hb0,hw])|(refine w_e [] ?_;intro J hJ;simp only[];simp[f7,f22,f8,f9,fi,fn,hdF,hF2,hlk,hk22,hfl,hbx,y1,y2,hdf,hb,hb0,hw];refine hJ _ _ (zZ ?_))))
     exact hJI _ _ (by simp[fi]) (by simp[fn]) ⟨by simp[f0],by simp[f2],by simp[f4],by simp[f13],by simp[f14],by simp[f15],by simp[f5],by simp[f7],by simp[f22],by rw[hsc];simp[f8],by rw[hsc];simp,hk3.trans (aA.new _ _)⟩
   ·have hb:((mk g.vs (off b.ends rr):Int) != 0)=true:=by
     have:mk g.vs (off b.ends rr)≠0:=fun h=>hfit ((aGq hbe).1 h)
     simpa using this
    rw[if_neg hfit]at hsc
    (repeat' (first|refine qS ?_|(refine qX (zZ ?_))|(refine qC ?_;simp[f7,f22,f8,f9,fi,fn,hdF,hF2,hlk,hk22,hfl,hbx,y1,y2,hdf,hb])|(refine w_e [] ?_;intro J hJ;simp only[];simp[f7,f22,f8,f9,fi,fn,hdF,hF2,hlk,hk22,hfl,hbx,y1,y2,hdf,hb];refine hJ _ _ (zZ ?_))))
    exact hJI _ _ (by simp[fi]) (by simp[fn]) ⟨by simp[f0],by simp[f2],by simp[f4],by simp[f13],by simp[f14],by simp[f15],by simp[f5],by simp[f7],by simp[f22],by rw[hsc];simp[f8],by rw[hsc];simp[f9],hk3.trans (aA.new _ _)⟩
  ·clear f0 f2 f4 f13 f5 fi fn fr
   rintro fr s2 ⟨f0,f2,f4,f13,f14,f15,f5,f7,f22,f8,f9,hk3⟩
   rw[List.take_of_length_le sS]at f8 f9
   have hle:=aDB b F.zipIdx
   generalize hpp:iL b F.zipIdx=pp at *
   obtain⟨p1',p2'⟩:=pp
   simp only at hle f8 f9 hch
   have hn3:=hk3.next
   simp only[aC]at hn3
   have hbx:s2.H s.next=.box 121 2 [wv (mk g.vs b.inner),wv (mk g.vs b.ends)]:=by rw[hk3.H _ sS];simp
   have hR2:s2.H st.next=.box 121 2 [wv 0,wv 0]:=by rw[hk3.H _ (by simp;omega),bI,if_neg x3];exact hR
   have hB2:s2.H (st.next+1)=.box 121 2 [wv (mk g.vs best.inner),wv (mk g.vs best.ends)]:=by rw[hk3.H _ (by simp;omega),bI,if_neg x4];exact hB5
   have hkk:=(hk.trans (aA.new _ _)).trans hk3
   have z1:¬s.next=st.next:=oO
   have z2:¬st.next+1=st.next:=oO
   by_cases hn1:p2'≤1
   ·rw[if_pos hn1]at hch
    subst hch
    (repeat' (first|refine qS ?_|(refine qR (zZ ?_);simp[f2,f7,f8,f9,hn1,hbx,hR2,z1])|(refine qC ?_;simp[f2,f7,f8,f9,hn1,hbx,hR2,z1])|(refine w_e [] ?_;intro J hJ;simp only[];simp[f2,f7,f8,f9,hn1,hbx,hR2,z1];refine hJ _ _ (zZ ?_))))
    exact hkk.set (Nat.le_refl _) _
   ·rw[if_neg hn1]at hch
    by_cases hat:at_<0
    ·rw[if_pos hat]at hch
     (repeat' (first|refine qS ?_|(refine qK (zZ ?_))|(refine qC ?_;simp[f4,f5,f7,f8,f9,hn1,hat,hbx,hB2])|(refine w_e [] ?_;intro J hJ;simp only[];simp[f4,f5,f7,f8,f9,hn1,hat,hbx,hB2];refine hJ _ _ (zZ ?_))))
     exact hJO _ _ (by simp[f15]) (by simp[f14]) ⟨by simp[f0],by simp[f2],by simp[f4],by simp[f13],hkk.set oO _,by simp;omega,by(repeat (first|rw[nHh nOo]|rw[sHh oO]|rw[nIi nQq]|rw[sIi oO]));exact hR2,b,p1',sS,sS,hch⟩
    ·rw[if_neg hat]at hch
     (repeat' (first|refine qS ?_|(refine qK (zZ ?_))|(refine qC ?_;simp[f4,f5,f7,f8,f9,hn1,hat])|(refine w_e [] ?_;intro J hJ;simp only[];simp[f4,f5,f7,f8,f9,hn1,hat];refine hJ _ _ (zZ ?_))))
     exact hJO _ _ (by simp[f15]) (by simp[f14]) ⟨by simp[f0],by simp[f2],by simp[f4],by simp[f13],hkk,oO,hR2,best,at_,by simp[f5],hB2,hch⟩
 ·rintro fr s ⟨f0,f2,f4,f13,hk,hsn,hR,best,at_,f5,hB5,hch⟩
  rw[List.drop_length,dH]at hch
  subst hch
  have z1:¬st.next+1=st.next:=oO
  (repeat' (first|refine qS ?_|(refine qR (zZ ?_);simp[f2,f4,f5,hB5,hR,z1])|(refine w_e [] ?_;intro J hJ;simp only[];simp[f2,f4,f5,hB5,hR,z1];refine hJ _ _ (zZ ?_))))
  exact hk.set (Nat.le_refl _) _
theorem uN{α:Type}(f:α→Int):∀ {a b:List α},(a.map f).Pairwise (· < ·)→(b.map f).Pairwise (· < ·)→(∀ x,x∈a↔x∈b)→a=b
 |[],[],_,_,_=>rfl
 |[],y::b,_,_,h=>by have:=(h y).2 sS;simp at this
 |x::a,[],_,_,h=>by have:=(h x).1 sS;simp at this
 |x::a,y::b,ha,hb,h=>by
  simp only[List.map_cons,List.pairwise_cons,List.mem_map,forall_exists_index,and_imp,forall_apply_eq_imp_iff₂]at ha hb
  have hxy:x=y:=by
   rcases List.mem_cons.1 ((h x).1 sS)with h1|h1
   ·exact h1
   ·rcases List.mem_cons.1 ((h y).2 sS)with h2|h2
    ·exact h2.symm
    ·have:=ha.1 y h2;have:=hb.1 x h1;omega
  subst hxy
  congr 1
  refine uN f ha.2 hb.2 fun z=>?_
  have hz:=h z
  rw[List.mem_cons,List.mem_cons]at hz
  constructor
  ·intro hza
   rcases hz.1 (.inr hza)with h1|h1
   ·subst h1;have:=ha.1 z hza;omega
   ·exact h1
  ·intro hzb
   rcases hz.2 (.inr hzb)with h1|h1
   ·subst h1;have:=hb.1 z hzb;omega
   ·exact h1
section
variable {α:Type} (f:α→Int)
end
theorem aCf{α:Type}{P:List α→Prop}(h0:P [])(h1:∀ l x,P l→P (l++[x]))(l:List α):P l:=by
 rw[← List.reverse_reverse l]
 generalize l.reverse=r
 induction r with
 |nil=>exact h0
 |cons x r ih=>rw[List.reverse_cons];exact h1 _ _ ih
def bes(x y:Ed):Bool:=decide (x.a=y.a∧x.b=y.b∨x.a=y.b∧x.b=y.a)
theorem uF{x y:Ed}:bes x y=true↔(x.a=y.a∧x.b=y.b∨x.a=y.b∧x.b=y.a):=by simp[bes]
theorem lY{x y:Ed}(h:bes x y=true):bes y x=true:=by
 rw[uF]at h ⊢
 rcases h with⟨h1,h2⟩|⟨h1,h2⟩
 ·exact .inl ⟨h1.symm,h2.symm⟩
 ·exact .inr ⟨h2.symm,h1.symm⟩
theorem aCm(x:Ed):bes x x=true:=by rw[uF];exact .inl ⟨rfl,rfl⟩
theorem rC{x y z:Ed}(h:bes x y=true)(k:bes y z=true):bes x z=true:=by
 rw[uF]at h k ⊢
 rcases h with⟨h1,h2⟩|⟨h1,h2⟩<;>rcases k with⟨k1,k2⟩|⟨k1,k2⟩
 ·exact .inl ⟨h1.trans k1,h2.trans k2⟩
 ·exact .inr ⟨h1.trans k1,h2.trans k2⟩
 ·exact .inr ⟨h1.trans k2,h2.trans k1⟩
 ·exact .inl ⟨h1.trans k2,h2.trans k1⟩
def sE(l:List Ed):List Ed:=l.foldl (fun acc x=>if acc.any (bes x)then acc else acc++[x]) []
theorem kP(l:List Ed)(x:Ed):sE (l++[x])=if(sE l).any (bes x)then sE l else sE l++[x]:=by
 simp[sE,List.foldl_append]
theorem aBN(l:List Ed):∀ x∈sE l,x∈l:=by
 induction l using aCf with
 |h0=>simp[sE]
 |h1 l x ih=>
  intro y hy
  rw[kP]at hy
  split at hy
  ·exact List.mem_append_left _ (ih y hy)
  ·rcases List.mem_append.1 hy with h|h
   ·exact List.mem_append_left _ (ih y h)
   ·exact List.mem_append_right _ h
theorem aOP(l:List Ed):∀ x∈l,∃ y∈sE l,bes x y=true:=by
 induction l using aCf with
 |h0=>simp
 |h1 l x ih=>
  intro y hy
  rw[kP]
  rcases List.mem_append.1 hy with h|h
  ·obtain⟨z,h1,h2⟩:=ih y h
   split
   ·exact⟨z,h1,h2⟩
   ·exact⟨z,List.mem_append_left _ h1,h2⟩
  ·rw[List.mem_singleton]at h
   subst h
   split
   ·rename_i ha
    rw[List.any_eq_true]at ha
    obtain⟨z,h1,h2⟩:=ha
    exact⟨z,h1,h2⟩
   ·exact⟨y,List.mem_append_right _ sS,aCm y⟩
theorem vQ(l:List Ed):(sE l).length≤l.length:=by
 induction l using aCf with
 |h0=>simp[sE]
 |h1 l x ih=>
  rw[kP]
  split
  ·rw[List.length_append];omega
  ·rw[List.length_append,List.length_append];simp only[List.length_cons,List.length_nil];omega
theorem aIY(l:List Ed):(sE l).Pairwise fun x y=>bes x y=false:=by
 induction l using aCf with
 |h0=>simp[sE]
 |h1 l x ih=>
  rw[kP]
  split
  ·exact ih
  ·rename_i ha
   rw[List.pairwise_append]
   refine⟨ih,List.pairwise_singleton _ _,fun y hy z hz=>?_⟩
   rw[List.mem_singleton]at hz
   subst hz
   cases hb:bes y z with
   |false=>rfl
   |true=>exact absurd (List.any_eq_true.2 ⟨y,hy,lY hb⟩) ha
abbrev hf(x:Ed):List (Int×Int):=[(x.a,x.b),(x.b,x.a)]
def hfs(l:List Ed):List (Int×Int):=l.flatMap hf
theorem aKs(l:List Ed)(x:Ed):hfs (l++[x])=hfs l++[(x.a,x.b)]++[(x.b,x.a)]:=by simp[hfs]
theorem aBz(l:List Ed):(hfs l).length=2*l.length:=by
 induction l with
 |nil=>rfl
 |cons x l ih=>simp only[hfs,List.flatMap_cons,List.length_append,List.length_cons,List.length_nil]at ih ⊢;omega
def nbH(v:Int)(H:List (Int×Int)):List Int:=(H.filter fun p=>decide (p.1=v)).map (·.2)
theorem aBU(v:Int)(H:List (Int×Int))(p:Int×Int):nbH v (H++[p])=nbH v H++if p.1=v then [p.2]else []:=by
 unfold nbH
 rw[List.filter_append,List.map_append]
 by_cases h:p.1=v
 ·simp[h]
 ·simp[h]
theorem uT(v:Int)(H:List (Int×Int)):(nbH v H).length≤H.length:=by
 unfold nbH
 rw[List.length_map]
 exact List.length_filter_le _ _
def aGW(x:Int):List Int→List Int
 |[]=>[x]
 |y::l=>if x≤y then x::y::l else y::aGW x l
def srt:List Int→List Int
 |[]=>[]
 |x::l=>aGW x (srt l)
theorem zM(x:Int)(l:List Int):(aGW x l).Perm (x::l):=by
 induction l with
 |nil=>exact .refl _
 |cons y l ih=>
  unfold aGW
  split
  ·exact .refl _
  ·exact(ih.cons y).trans (.swap x y l)
theorem pS(l:List Int):(srt l).Perm l:=by
 induction l with
 |nil=>exact .refl _
 |cons x l ih=>exact(zM x _).trans (ih.cons x)
theorem aCC(x:Int){l:List Int}(h:l.Pairwise (·≤·)):(aGW x l).Pairwise (·≤·):=by
 induction l with
 |nil=>exact List.pairwise_singleton _ _
 |cons y l ih=>
  have h':=List.pairwise_cons.1 h
  unfold aGW
  split
  ·rename_i hxy
   refine List.pairwise_cons.2 ⟨fun z hz=>?_,h⟩
   rcases List.mem_cons.1 hz with rfl|hz
   ·exact hxy
   ·have:=h'.1 z hz;omega
  ·rename_i hxy
   refine List.pairwise_cons.2 ⟨fun z hz=>?_,ih h'.2⟩
   rcases List.mem_cons.1 ((zM x l).mem_iff.1 hz)with rfl|hz
   ·omega
   ·exact h'.1 z hz
theorem aEP(l:List Int):(srt l).Pairwise (·≤·):=by
 induction l with
 |nil=>exact .nil
 |cons x l ih=>exact aCC x ih
theorem nT:∀ {a b:List Int},a.Pairwise (·≤·)→b.Pairwise (·≤·)→a.Perm b→a=b
 |[],b,_,_,h=>by rw[h.nil_eq]
 |x::a,[],_,_,h=>absurd h.symm.nil_eq sS
 |x::a,y::b,ha,hb,h=>by
  obtain⟨a1,a2⟩:=List.pairwise_cons.1 ha
  obtain⟨b1,b2⟩:=List.pairwise_cons.1 hb
  have hxy:x=y:=by
   have h1:x∈y::b:=h.mem_iff.1 sS
   have h2:y∈x::a:=h.mem_iff.2 sS
   rcases List.mem_cons.1 h1 with h1|h1
   ·exact h1
   ·rcases List.mem_cons.1 h2 with h2|h2
    ·exact h2.symm
    ·have:=b1 x h1
     have:=a1 y h2
     omega
  subst hxy
  rw[nT a2 b2 ((List.perm_cons x).1 h)]
theorem aOO{c l:List Int}(h:c.Perm l)(hs:c.Pairwise (·≤·)):c=srt l:=nT hs (aEP l) (h.trans (pS l).symm)
def dS(es:List Ed)(v:Int):List Int:=srt (nbH v (hfs (sE es)))
def adj(es:List Ed)(v w:Int):Prop:=∃ x∈es,(x.a=v∧x.b=w)∨(x.a=w∧x.b=v)
instance (es:List Ed) (v w:Int):Decidable (adj es v w):=by unfold adj;exact inferInstance
theorem aGP(es:List Ed)(v:Int):(dS es v).length≤2*es.length:=by
 have h1:=(pS (nbH v (hfs (sE es)))).length_eq
 have h2:=uT v (hfs (sE es))
 have h3:=aBz (sE es)
 have h4:=vQ es
 unfold dS
 omega
abbrev Led:=List (Int×Int)
def lK(A:Led)(v:Int):Option Int:=match A with
 |[]=>none
 |p::A=>if v=p.1 then some p.2 else lK A v
theorem yJ{v:Int}:∀ {A:Led},v∉A.map (·.1)→lK A v=none
 |[],_=>rfl
 |p::A,h=>by
  simp only[List.map_cons,List.mem_cons,not_or]at h
  simp only[lK]
  rw[if_neg h.1,yJ h.2]
theorem wO{v:Int}:∀ {A:Led},v∈A.map (·.1)→∃ w,lK A v=some w
 |[],h=>by simp at h
 |p::A,h=>by
  simp only[lK]
  by_cases e:v=p.1
  ·exact⟨p.2,by rw[if_pos e]⟩
  ·rw[if_neg e]
   simp only[List.map_cons,List.mem_cons]at h
   exact wO (h.resolve_left e)
structure BF where
 A:Led
 Q:List Int
 hit:Bool
def jU(may:Int→Bool)(to v:Int)(S:BF)(u:Int):BF:=
 if S.hit=true then S else if u∈S.A.map (·.1)then S else if u=to then⟨S.A++[(u,v)],S.Q,true⟩else⟨S.A++[(u,v)],if may u=true then S.Q++[u]else S.Q,false⟩
def dK(may:Int→Bool)(to v:Int)(S:BF)(l:List Int):BF:=l.foldl (jU may to v) S
theorem aHv(may:Int→Bool)(to v:Int){S:BF}(h:S.hit=true)(l:List Int):dK may to v S l=S:=by
 induction l with
 |nil=>rfl
 |cons u l ih=>simp only[dK,List.foldl_cons]at ih ⊢;rw[jU,if_pos h];exact ih
theorem aEz(may:Int→Bool)(to v:Int)(S:BF)(l:List Int)(u:Int):dK may to v S (l++[u])=jU may to v (dK may to v S l) u:=by simp[dK,List.foldl_append]
theorem aAg(may:Int→Bool)(to v:Int)(S:BF)(l:List Int):(dK may to v S l).Q.length≤S.Q.length+l.length∧(dK may to v S l).A.length≤S.A.length+l.length:=by
 induction l generalizing S with
 |nil=>simp[dK]
 |cons u l ih=>
  have:=ih (jU may to v S u)
  have h1:(jU may to v S u).Q.length≤S.Q.length+1∧(jU may to v S u).A.length≤S.A.length+1:=by
   unfold jU
   split
   ·omega
   ·split
    ·omega
    ·split
     ·simp
     ·constructor
      ·simp only;split<;>simp
      ·simp
  simp only[dK,List.foldl_cons,List.length_cons]at this ⊢
  omega
def bfs(near:Int→List Int)(may:Int→Bool)(to:Int):Nat→Led→List Int→Option (Option Led)
 |_,_,[]=>some none
 |0,_,_::_=>none
 |n+1,A,v::Q=>if(dK may to v ⟨A,Q,false⟩ (near v)).hit=true then some (some (dK may to v ⟨A,Q,false⟩ (near v)).A)else bfs near may to n (dK may to v ⟨A,Q,false⟩ (near v)).A (dK may to v ⟨A,Q,false⟩ (near v)).Q
def mU(A:Led)(from':Int):Nat→Int→Option (List Int)
 |0,v=>if v=from' then some []else none
 |n+1,v=>if v=from' then some []else(mU A from' n ((lK A v).getD 0)).map fun l=>(lK A v).getD 0::l
theorem aAf{A:Led}{from':Int}:∀ {n:Nat} {v:Int} {l:List Int},mU A from' n v=some l→l.length≤n
 |0,v,l,h=>by
  simp only[mU]at h
  split at h
  ·injection h with h;subst h;simp
  ·cases h
 |n+1,v,l,h=>by
  simp only[mU]at h
  split at h
  ·injection h with h;subst h;simp
  ·rw[Option.map_eq_some_iff]at h
   obtain⟨l',h1,rfl⟩:=h
   have:=aAf h1
   simp only[List.length_cons];omega
def aGe(vs:List Int)(near:Int→List Int)(may:Int→Bool)(from' to:Int)(n:Nat):Option (List Int):=
 if from'∉vs∨to∉vs then some []else if from'=to then some [from']else match bfs near may to n [(from',from')] [from'] with
  |some none=>some []
  |some (some A)=>(mU A from' n to).map fun l=>(to::l).reverse
  |none=>none
def kE(x:Ed):List Int:=[if x.b<x.a then x.b else x.a,if x.a<x.b then x.b else x.a]
theorem aEB(x y:Ed):kE x=kE y↔bes x y=true:=by
 rw[uF]
 unfold kE
 simp only[List.cons.injEq,and_true]
 constructor
 ·rintro⟨h1,h2⟩
  split at h1<;>split at h1<;>split at h2<;>split at h2<;>omega
 ·rintro(⟨h1,h2⟩|⟨h1,h2⟩)
  ·rw[h1,h2];exact⟨rfl,rfl⟩
  ·rw[h1,h2]
   constructor
   ·split<;>split<;>omega
   ·split<;>split<;>omega
def bnd(l:List Ed):List (List Int):=(sE l).map fun y=>(l.filter fun x=>bes y x).map (·.id)
theorem aLT(l:List Ed):(bnd l).length=(sE l).length:=by simp[bnd]
theorem aFu{l:List Ed}{x:Ed}(h:(sE l).any (bes x)=false):sE (l++[x])=sE l++[x]∧bnd (l++[x])=bnd l++[[x.id]]:=by
 have h':∀ y∈sE l,bes x y=false:=fun y hy=>by
  cases hb:bes x y with
  |false=>rfl
  |true=>rw[List.any_eq_true.2 ⟨y,hy,hb⟩]at h;cases h
 have hs:sE (l++[x])=sE l++[x]:=by rw[kP,h];rfl
 refine⟨hs,?_⟩
 unfold bnd
 rw[hs,List.map_append]
 congr 1
 ·refine List.map_congr_left fun y hy=>?_
  have:bes y x=false:=by
   cases hb:bes y x with
   |false=>rfl
   |true=>have:=h' y hy;rw[lY hb]at this;cases this
  rw[List.filter_append]
  simp[this]
 ·have:l.filter (fun z=>bes x z)=[]:=by
   rw[List.filter_eq_nil_iff]
   intro z hz hb
   obtain⟨y,hy,h2⟩:=aOP l z hz
   have:=h' y hy
   rw[rC hb h2]at this;cases this
  simp[List.filter_append,this,aCm]
theorem aLS{l:List Ed}{x:Ed}(h:(sE l).any (bes x)=true):sE (l++[x])=sE l∧∃ L1 y L2 B1 r B2,sE l=L1++y::L2∧bes x y=true∧bnd l=B1++r::B2∧B1.length=L1.length∧bnd (l++[x])=B1++(r++[x.id])::B2∧r.length≤l.length:=by
 have hs:sE (l++[x])=sE l:=by rw[kP,h];rfl
 refine⟨hs,?_⟩
 obtain⟨y,hy,hb⟩:=List.any_eq_true.1 h
 obtain⟨L1,L2,hL⟩:=List.append_of_mem hy
 have hap:=aIY l
 rw[hL,List.pairwise_append,List.pairwise_cons]at hap
 obtain⟨_,⟨p2,_⟩,p3⟩:=hap
 have hno:∀ z,(z∈L1∨z∈L2)→bes z x=false:=by
  intro z hz
  cases hzx:bes z x with
  |false=>rfl
  |true=>
   have hzy:=rC hzx hb
   rcases hz with hz|hz
   ·have:=p3 z hz y sS;rw[hzy]at this;cases this
   ·have:=p2 z hz;rw[lY hzy]at this;cases this
 refine⟨L1,y,L2,_,_,_,hL,hb,by unfold bnd;rw[hL,List.map_append,List.map_cons],sS,?_,?_⟩
 ·unfold bnd
  rw[hs,hL,List.map_append,List.map_cons]
  have e:∀ L:List Ed,(∀ z∈L,bes z x=false)→L.map (fun y=>((l++[x]).filter fun x=>bes y x).map (·.id))=L.map fun y=>(l.filter fun x=>bes y x).map (·.id):=by
   intro L hL
   refine List.map_congr_left fun z hz=>?_
   rw[List.filter_append]
   simp[hL z hz]
  rw[e L1 fun z hz=>hno z (.inl hz),e L2 fun z hz=>hno z (.inr hz)]
  congr 2
  rw[List.filter_append]
  simp[lY hb]
 ·rw[List.length_map];exact List.length_filter_le _ _
structure AtM(l:List Ed)(es:List (List Int×LV)):Prop where
 old:∀ x L1 y L2,sE l=L1++y::L2→bes x y=true→aY es (kE x)=some (i L1.length)
 new:∀ x,(sE l).any (bes x)=false→aY es (kE x)=none
theorem AtM.nil:AtM [] []:=⟨fun x L1 y L2 h _=>by simp[sE]at h,fun x _=>rfl⟩
theorem AtM.keep{l:List Ed}{es:List (List Int×LV)}(h:AtM l es){x:Ed}(hx:sE (l++[x])=sE l):AtM (l++[x]) es:=
 ⟨by rw[hx];exact h.old,by rw[hx];exact h.new⟩
theorem AtM.add{l:List Ed}{es:List (List Int×LV)}(h:AtM l es){x:Ed}(hx:(sE l).any (bes x)=false):AtM (l++[x]) (aV es (kE x) (i (sE l).length)):=by
 have hs:=(aFu hx).1
 constructor
 ·intro z L1 y L2 hL hb
  rw[hs]at hL
  rw[dA]
  rcases List.eq_nil_or_concat L2 with rfl|⟨L2',y',rfl⟩
  ·have:=List.append_inj' hL rfl
   obtain⟨h1,h2⟩:=this
   simp only[List.cons.injEq,and_true]at h2
   subst h1 h2
   rw[if_pos ((aEB _ _).2 hb)]
  ·rw[List.concat_eq_append,show L1++y::(L2'++[y'])=(L1++y::L2')++[y'] by simp]at hL
   obtain⟨h1,h2⟩:=List.append_inj' hL rfl
   rw[if_neg,h.old z L1 y L2' h1 hb]
   intro hk
   have hxy:=rC (lY ((aEB _ _).1 hk)) hb
   rw[List.any_eq_true.2 ⟨y,by rw[h1];simp,hxy⟩]at hx
   cases hx
 ·intro z hz
  rw[hs,List.any_append,Bool.or_eq_false_iff]at hz
  rw[dA,if_neg,h.new z hz.1]
  intro hk
  have:=(aEB _ _).1 hk
  simp[this]at hz
abbrev TR:=Nat×List Int
def aDf(p:TR):LV:=.sl p.1 p.2.length (us p.2)
def bJ(R:List TR):List LV:=R.map aDf
theorem iM(R:List TR):(bJ R).length=R.length:=by simp[bJ]
structure aRi(E:List Ed)(st0:St)(L2 L4 M te q:Nat)(vs:List Int)(mes:List (List Int×LV))(R:List TR)(s:St):Prop where
 h2:s.H L2=.box 25 2 [.nil,.nil]
 h4:s.H L4=.box 25 2 [.sl 0 vs.length (us vs),.sl te (sE E).length (eds (sE E))]
 ht:s.H te=.own 56 3 (sE E).length
 hM:s.H M=.map true [.u32,.u32] mes
 hq:s.H q=.box 22 1 (bJ R)
 bn:R.map (·.2)=bnd E
 at':AtM E mes
 nd:(R.map (·.1)).Nodup
 tk:∀ p∈R,st0.next≤p.1∧p.1<s.next∧s.H p.1=.own 34 1 p.2.length
 b:st0.next≤L2∧st0.next≤L4∧st0.next≤M∧st0.next≤te∧st0.next≤q∧L2<s.next∧L4<s.next∧M<s.next∧te<s.next∧q<s.next
 kp:aA st0 s
def aRl(g:Gr)(st0:St)(L2 L4 M k:Nat)(fr:Frm)(s:St):Prop:=
 fr 2=.pt L2 0∧fr 4=.pt L4 0∧fr 6=.mp M∧fr 18=.sl 0 g.es.length (eds g.es)∧fr 19=i g.es.length∧fr 20=i k∧
 ∃ te q mes R,fr 5=.ms q 0 R.length∧aRi (g.es.take k) st0 L2 L4 M te q g.vs mes R s
theorem bM{st:St}{a b:Nat}{x y:cA}(ha:st.H a=x)(hb:st.H b=y)(h:x≠y):¬a=b:=fun e=>h (by rw[← ha,e,hb])
theorem kW(l:List Ed):z0L (eds l)=eds l:=by
 induction l with
 |nil=>rfl
 |cons e l ih=>simp only[eds,List.flatMap_cons,List.cons_append,List.nil_append,z0L,z0]at ih ⊢;rw[ih]
theorem aHU(R:List TR):z0L (bJ R)=R.map fun p=>.sl 0 p.2.length (us p.2):=by
 rw[lE,bJ,List.map_map]
 refine List.map_congr_left fun p _=>?_
 simp[aDf,z0]
set_option maxHeartbeats 2000000 in
theorem aJF(g:Gr)(st:St)(hv:g.vs.length≤1048576)(he:g.es.length≤1000)(hp:0<st.next):
 aB Tryz.prog 42 [.ag (grL g)] st fun r st'=>r=.tu [.ag [.sl 0 g.vs.length (us g.vs),.sl 0 (sE g.es).length (eds (sE g.es))],.sl 0 (bnd g.es).length ((bnd g.es).map fun l=>.sl 0 l.length (us l))]∧aA st st':=by
 refine cQ ?_
 have hel:=aJ g.es
 refine qO aF Tryz.func42 rfl rfl Tryz.ntmps42 (rs:=[.cell 2 25,.tmp 3]) rfl sS ?_
 (repeat' (first|refine qS ?_|(refine w_e [] ?_;intro J hJ;simp only[];simp[];(try refine hJ _ _ (zZ ?_)))))
 refine qE (aJq g.vs 0 _ hv) (by simp[]) ?_;rintro r st' ⟨rfl,hk1⟩
 have hn1:=hk1.next
 simp only[aC]at hn1
 have hG1:st'.H st.next=.box 25 2 (grL g):=by rw[hk1.H _ (by simp<;>omega)];simp
 have hC1:st'.H (st.next+1)=.box 25 2 [.nil,.nil]:=by rw[hk1.H _ sS];simp
 have hkp:aA st st':=((aA.new _ _).trans (aA.new _ _)).trans hk1
 generalize hL:st'=s1 at *
 have e1:¬st.next=s1.next:=oO
 have e2:¬st.next=s1.next+1:=oO
 (repeat' (first|refine qS ?_|refine qB ?_|((first|(refine w_e [] ?_;intro J hJ;simp only[])|(refine aE ?_));simp[e1,e2,hG1];refine hJ _ _ (zZ ?_))))
 refine wE s1.next 56 3 (e:=25) (s:=2) [.sl 0 g.vs.length (us g.vs)] [] sS ?_
 refine qH 5 22 1 sS ?_
 refine qL (fun n fr s=>∃ k:Nat,k≤g.es.length∧n=g.es.length-k∧aRl g st (st.next+1) s1.next (s1.next+1) k fr s) g.es.length ?_ ?_
 ·refine⟨0,oO,oO,sS,sS,sS,sS,sS,sS,s1.next+2,s1.next+3,[],[],sS,?_⟩
  have h5:¬st.next=s1.next+2:=oO
  have h1:¬st.next+1=s1.next:=oO
  refine⟨by simp[h1,h5,e1,e2,hC1],by simp[sE]<;>omega,by simp[sE],sS,by simp[bJ],by simp[bnd,sE],AtM.nil,sS,sS,⟨oO,oO,oO,oO,oO,by simp<;>omega,by simp<;>omega,sS,sS,sS⟩,?_⟩
  exact(((((hkp.trans (aA.new _ _)).trans (aA.new _ _)).trans (aA.new _ _)).set oO _).trans (aA.new _ _))
 rintro n fr s ⟨k,hk,rfl,f2,f4,f6,f18,f19,f20,te,q,mes,R,f5,hB⟩ JJ hJJ
 obtain⟨H2,H4,Ht,HM,Hq,hbn,hat,hnd,htk,⟨b1,b2,b3,b4,b5,b6,b7,b8,b9,b10⟩,hkps⟩:=hB
 have q24:¬q=s1.next:=bM Hq H4 sS
 by_cases hlt:k<g.es.length
 rotate_left
 ·clear hJJ
  have hk':k=g.es.length:=oO
  rw[hk',List.take_length]at H4 Ht hbn
  have hbl:(bnd g.es).length=R.length:=by rw[← hbn,List.length_map]
  have n1:¬st.next+1=q:=bM H2 Hq sS
  have n2:¬s1.next=q:=fun h=>q24 h.symm
  have n3:¬s1.next=st.next+1:=oO
  have hsl:=vQ g.es
  refine lG 5 f5 Hq (by simp[iM]) ?_
  have htk2:(bJ R).take (R.length*1)=bJ R:=List.take_of_length_le (by rw[iM];omega)
  rw[htk2]
  (repeat' (first|refine qS ?_|(refine qX (zZ ?_))|(refine qR (zZ ?_);simp[f2,f4,f19,f20,hlt,H4,H2,n1,n2,n3])|(refine qC ?_;simp[f2,f4,f19,f20,hlt,H4,H2,n1,n2,n3])|(refine w_e [] ?_;intro J hJ;simp only[];simp[f2,f4,f19,f20,hlt,H4,H2,n1,n2,n3];refine hJ _ _ (zZ ?_))))
  refine⟨?_,(hkps.set oO _).set oO _⟩
  rw[hbl,← hbn]
  simp only[z0,z0L,sM,kW,aHU,List.map_map]
  rfl
 have hd:=aW g.es k hlt
 have hw:=qN k oO
 have hk3:k*3<g.es.length*3:=oO
 have htk1:g.es.take (k+1)=g.es.take k++[g.es.getD k ed0]:=by
  rw[List.getD_eq_getElem?_getD,List.getElem?_eq_getElem hlt];exact List.take_succ_eq_append_getElem hlt
 have hEl:(g.es.take k).length≤1000:=by rw[List.length_take];omega
 generalize g.es.getD k ed0=x at *
 generalize hE:g.es.take k=E at *
 obtain⟨id,a,b⟩:=x
 simp only at hd
 cases hany:(sE E).any (bes ⟨id,a,b⟩)
 ·have hm:=hat.new ⟨id,a,b⟩ hany
  simp only[kE]at hm
  have hsm:(List.map (fun _:Ed=>3) (sE E)).sum=(sE E).length*3:=by
   induction sE E with
   |nil=>rfl
   |cons x l ih=>simp only[List.map_cons,List.sum_cons,List.length_cons,ih];omega
  have hsl:=vQ E
  have te0:¬te=0:=oO
  have hcl:=iM R
  have hRl:R.length=(sE E).length:=by rw[← aLT,← hbn,List.length_map]
  have htR:List.take R.length (bJ R)=bJ R:=List.take_of_length_le oO
  have hdl:List.drop R.length (bJ R++[LV.nil])=[.nil]:=by rw[← hcl];exact List.drop_left
  have htl:List.take R.length (bJ R++[LV.nil])=bJ R:=by rw[← hcl];exact List.take_left
  have hdl2:List.drop (R.length+1) (bJ R++[LV.nil])=[]:=List.drop_eq_nil_of_le (by simp[hcl])
  have hRn:((R.length:Int)).toNat=R.length:=oO
  have c0:¬s1.next=s.next:=oO
  have c0':¬s.next=s1.next:=oO
  have c1:¬s1.next=s.next+1:=oO
  have c1':¬s.next+1=s1.next:=oO
  have c2:¬s1.next=s.next+2:=oO
  have c2':¬s.next+2=s1.next:=oO
  have c3:¬s1.next=s.next+3:=oO
  have c3':¬s.next+3=s1.next:=oO
  have c4:¬s1.next=s.next+4:=oO
  have c4':¬s.next+4=s1.next:=oO
  have e0:¬te=s.next:=oO
  have e0':¬s.next=te:=oO
  have e1:¬te=s.next+1:=oO
  have e1':¬s.next+1=te:=oO
  have e2:¬te=s.next+2:=oO
  have e2':¬s.next+2=te:=oO
  have e3:¬te=s.next+3:=oO
  have e3':¬s.next+3=te:=oO
  have e4:¬te=s.next+4:=oO
  have e4':¬s.next+4=te:=oO
  have d0:¬q=s.next:=oO
  have d0':¬s.next=q:=oO
  have d1:¬q=s.next+1:=oO
  have d1':¬s.next+1=q:=oO
  have d2:¬q=s.next+2:=oO
  have d2':¬s.next+2=q:=oO
  have d3:¬q=s.next+3:=oO
  have d3':¬s.next+3=q:=oO
  have d4:¬q=s.next+4:=oO
  have d4':¬s.next+4=q:=oO
  have c9:¬s1.next+1=s.next:=oO
  have c9':¬s.next=s1.next+1:=oO
  have n1:¬te=s1.next:=bM Ht H4 sS
  have n2:¬te=s1.next+1:=bM Ht HM sS
  have n3:¬q=s1.next+1:=bM Hq HM sS
  have n4:¬q=te:=bM Hq Ht sS
  have n1':¬s1.next=te:=fun h=>n1 h.symm
  have n2':¬s1.next+1=te:=fun h=>n2 h.symm
  have n3':¬s1.next+1=q:=fun h=>n3 h.symm
  have n4':¬te=q:=fun h=>n4 h.symm
  have n5':¬s1.next=q:=fun h=>q24 h.symm
  have r2:¬s.next=s.next+1+1:=oO
  have r3:¬s.next=s.next+1+1+1:=oO
  have r4:¬s.next=s.next+1+1+1+1:=oO
  have r5:¬s.next=s.next+1+1+1+1+1:=oO
  have r6:¬s.next=s.next+1+1+1+1+1+1:=oO
  have r7:¬s.next=s.next+1+1+1+1+1+1+1:=oO
  have p1:R.length<R.length+1:=oO
  (repeat' (first|refine qS ?_|refine qB ?_|(refine qK (zZ ?_))|(refine qC ?_;simp[hcl,htR,hsm,te0,c0,c0',c1,c1',c2,c2',c3,c3',c4,c4',e0,e0',e1,e1',e2,e2',e3,e3',e4,e4',d0,d0',d1,d1',d2,d2',d3,d3',d4,d4',c9,c9',n1,n2,n3,n4,n1',n2',n3',n4',n5',Ht,Hq,q24,f4,f5,f6,f18,f19,f20,hlt,hd,hel,hk3,hw,H4,HM,hm])|(refine w_e [] ?_;intro J hJ;simp only[];simp[hcl,htR,hsm,te0,c0,c0',c1,c1',c2,c2',c3,c3',c4,c4',e0,e0',e1,e1',e2,e2',e3,e3',e4,e4',d0,d0',d1,d1',d2,d2',d3,d3',d4,d4',c9,c9',n1,n2,n3,n4,n1',n2',n3',n4',n5',Ht,Hq,q24,f4,f5,f6,f18,f19,f20,hlt,hd,hel,hk3,hw,H4,HM,hm];(repeat refine ca ?_);refine hJ _ _ (zZ ?_))))
  (refine w_s [] [s.next,s.next+1+1+1+1+1] [(0,true),(1,true),(2,true),(3,true),(4,true),(5,true),(6,true),(7,true),(8,true),(9,true),(10,true),(11,false)] ?_;intro J hJ;simp[r2,r3,r4,r5,r6,r7,c0,c0',c1,c1',c2,c2',c3,c3',c4,c4',e0,e0',e1,e1',e2,e2',e3,e3',e4,e4',d0,d0',d1,d1',d2,d2',d3,d3',d4,d4',c9,c9',n1,n2,n3,n4,n1',n2',n3',n4',n5',hcl,htR,hdl,htl,hdl2,p1];(repeat refine ca ?_);refine hJ _ _ (zZ ?_))
  (repeat' (refine w_e [] ?_;intro J hJ;simp only[];simp[f20,hw];refine hJ _ _ (zZ ?_)))
  have l1:¬st.next+1=te:=bM H2 Ht sS
  have l2:¬st.next+1=q:=bM H2 Hq sS
  obtain⟨hs,hb⟩:=aFu hany
  refine hJJ (g.es.length-(k+1)) _ _ oO ⟨k+1,oO,rfl,by simp[f2],by simp[f4],by simp[f6],by simp[f18],by simp[f19],sS,s.next+3,s.next+5,aV mes (kE ⟨id,a,b⟩) (i (sE E).length),R++[(s.next+7,[id])],sS,?_⟩
  rw[htk1]
  refine⟨?_,?_,?_,?_,?_,?_,hat.add hany,?_,?_,?_,?_⟩
  ·(repeat (first|rw[nHh nOo]|rw[sHh oO]|rw[nIi nQq]|rw[sIi oO]));exact H2
  ·(repeat (first|rw[nHh nOo]|rw[sHh oO]|rw[nIi nQq]|rw[sIi oO]));rw[hs];simp[eds]
  ·(repeat (first|rw[nHh nOo]|rw[sHh oO]|rw[nIi nQq]|rw[sIi oO]));rw[hs];simp
  ·(repeat (first|rw[nHh nOo]|rw[sHh oO]|rw[nIi nQq]|rw[sIi oO]));rw[hRl];rfl
  ·(repeat (first|rw[nHh nOo]|rw[sHh oO]|rw[nIi nQq]|rw[sIi oO]));simp[bJ,aDf]
  ·rw[List.map_append,hbn,hb];rfl
  ·rw[List.map_append,List.nodup_append]
   refine⟨hnd,sS,fun x hx y hy=>?_⟩
   obtain⟨p,hp,rfl⟩:=List.mem_map.1 hx
   simp at hy
   have:=(htk p hp).2.1
   omega
  ·intro p hp
   rcases List.mem_append.1 hp with hp|hp
   ·obtain⟨h1,h2,h3⟩:=htk p hp
    have t1:¬p.1=te:=bM h3 Ht sS
    have t2:¬p.1=q:=bM h3 Hq sS
    have t3:¬p.1=s1.next:=bM h3 H4 sS
    have t4:¬p.1=s1.next+1:=bM h3 HM sS
    refine⟨h1,by simp<;>omega,?_⟩
    (repeat (first|rw[nHh nOo]|rw[sHh oO]|rw[nIi nQq]|rw[sIi oO]));exact h3
   ·rw[List.mem_singleton]at hp
    subst hp
    refine⟨by simp<;>omega,sS,?_⟩
    (repeat (first|rw[nHh nOo]|rw[sHh oO]|rw[nIi nQq]|rw[sIi oO]));rfl
  ·simp only[aQ,aC];omega
  ·refine⟨by have:=hkps.next;simp only[aQ,aC];omega,fun l hl=>?_⟩
   (repeat (first|rw[nHh nOo]|rw[sHh oO]|rw[nIi nQq]|rw[sIi oO]));exact hkps.H l hl
 obtain⟨hs,L1,y,L2,B1,r,B2,hL,hyb,hB0,hBl,hB1,hrl⟩:=aLS hany
 have hm:=hat.old ⟨id,a,b⟩ L1 y L2 hL hyb
 simp only[kE]at hm
 rw[hB0]at hbn
 obtain⟨R1,R',rfl,hR1,hR'⟩:=List.map_eq_append_iff.1 hbn
 obtain⟨p,R2,rfl,hpr,hR2⟩:=List.map_eq_cons_iff.1 hR'
 obtain⟨t0,r0⟩:=p
 simp only at hpr
 subst hpr
 obtain⟨hb1,hb2,hb3⟩:=htk (t0,r0) sS
 simp only at hb1 hb2 hb3
 have hR1l:R1.length=L1.length:=by rw[← hBl,← hR1,List.length_map]
 have hcl:(bJ (R1++(t0,r0)::R2)).length=R1.length+(R2.length+1):=by rw[iM];simp
 have hRl:(R1++(t0,r0)::R2).length=R1.length+(R2.length+1):=sS
 have hcs:bJ (R1++(t0,r0)::R2)=bJ R1++.sl t0 r0.length (us r0)::bJ R2:=by simp[bJ,aDf]
 have hc1:(bJ R1).length=R1.length:=iM R1
 have hdl:List.drop R1.length (bJ R1++LV.sl t0 r0.length (us r0)::bJ R2)=.sl t0 r0.length (us r0)::bJ R2:=by rw[← hc1];exact List.drop_left
 have htl:List.take R1.length (bJ R1++LV.sl t0 r0.length (us r0)::bJ R2)=bJ R1:=by rw[← hc1];exact List.take_left
 have hdl2:List.drop (R1.length+1) (bJ R1++LV.sl t0 r0.length (us r0)::bJ R2)=bJ R2:=by
  rw[← hc1,show bJ R1++LV.sl t0 r0.length (us r0)::bJ R2=(bJ R1++[LV.sl t0 r0.length (us r0)])++bJ R2 by simp]
  rw[show(bJ R1).length+1=(bJ R1++[LV.sl t0 r0.length (us r0)]).length by simp]
  exact List.drop_left
 rw[hRl]at f5
 rw[hcs]at Hq
 rw[← hR1l]at hm
 have t00:¬t0=0:=oO
 have m1:¬s1.next=s.next:=oO
 have m1':¬s.next=s1.next:=oO
 have m2:¬s1.next+1=s.next:=oO
 have m2':¬s.next=s1.next+1:=oO
 have m5:¬t0=s.next:=oO
 have m6:¬t0=s.next+1:=oO
 have m6b:¬t0=s.next+2:=oO
 have m5':¬s.next=t0:=oO
 have m6':¬s.next+1=t0:=oO
 have m6b':¬s.next+2=t0:=oO
 have m7:¬q=s.next:=oO
 have m8:¬q=s.next+1:=oO
 have m9:¬q=s.next+2:=oO
 have m9b:¬q=s.next+3:=oO
 have n4:¬q=t0:=bM Hq hb3 sS
 have r2:¬s.next=s.next+1+1:=oO
 have r3:¬s.next=s.next+1+1+1:=oO
 have p1:R1.length<R1.length+(R2.length+1):=oO
 have p2:(R1.length:Int)<(R1.length:Int)+((R2.length:Int)+1):=oO
 have hr1:r0.length≤1000:=oO
 (repeat' (first|refine qS ?_|refine qB ?_|(refine qK (zZ ?_))|(refine qC ?_;simp[m1,m1',m2,m2',f4,f5,f6,f18,f19,f20,hlt,hd,hel,hk3,hw,HM,hm])|(refine w_e [] ?_;intro J hJ;simp only[];simp[m1,m1',m2,m2',f4,f5,f6,f18,f19,f20,hlt,hd,hel,hk3,hw,HM,hm];refine hJ _ _ (zZ ?_))))
 (refine w_s [] [s.next,q] [(0,true),(1,true),(2,true),(3,true),(4,true),(5,true),(6,true),(7,true),(8,true),(9,true),(10,true),(11,false)] ?_;intro J hJ;simp[m1,m1',m2,m2',m5,m6,m6b,m5',m6',m6b',m7,m8,m9,m9b,n4,r2,r3,f5,Hq,hb3,hc1,hdl,htl,hdl2,p1,p2,t00];(repeat refine ca ?_);refine hJ _ _ (zZ ?_))
 (repeat' (refine w_e [] ?_;intro J hJ;simp only[];simp[f20,hw];refine hJ _ _ (zZ ?_)))
 have l2:¬st.next+1=q:=bM H2 Hq sS
 have l3:¬st.next+1=t0:=bM H2 hb3 sS
 have l4:¬s1.next=q:=fun h=>q24 h.symm
 have l5:¬s1.next=t0:=bM H4 hb3 sS
 have l6:¬s1.next+1=q:=bM HM Hq sS
 have l7:¬s1.next+1=t0:=bM HM hb3 sS
 have l8:¬te=q:=bM Ht Hq sS
 have l9:¬te=t0:=bM Ht hb3 sS
 refine hJJ (g.es.length-(k+1)) _ _ oO ⟨k+1,oO,rfl,by simp[f2],by simp[f4],by simp[f6],by simp[f18],by simp[f19],sS,te,q,mes,R1++(s.next+3,r0++[id])::R2,by simp[f5],?_⟩
 rw[htk1]
 have hnd':=hnd
 rw[List.map_append,List.map_cons,List.nodup_append,List.nodup_cons]at hnd'
 obtain⟨nd1,⟨nd2,nd3⟩,nd4⟩:=hnd'
 refine⟨?_,?_,?_,?_,?_,?_,hat.keep hs,?_,?_,?_,?_⟩
 ·(repeat (first|rw[nHh nOo]|rw[sHh oO]|rw[nIi nQq]|rw[sIi oO]));exact H2
 ·(repeat (first|rw[nHh nOo]|rw[sHh oO]|rw[nIi nQq]|rw[sIi oO]));rw[hs];exact H4
 ·(repeat (first|rw[nHh nOo]|rw[sHh oO]|rw[nIi nQq]|rw[sIi oO]));rw[hs];exact Ht
 ·(repeat (first|rw[nHh nOo]|rw[sHh oO]|rw[nIi nQq]|rw[sIi oO]));exact HM
 ·(repeat (first|rw[nHh nOo]|rw[sHh oO]|rw[nIi nQq]|rw[sIi oO]));simp[bJ,aDf]
 ·rw[hB1,List.map_append,List.map_cons,hR1,hR2]
 ·rw[List.map_append,List.map_cons,List.nodup_append,List.nodup_cons]
  have lt1:∀ x∈R1.map (·.1),x<s.next:=fun x hx=>by
   obtain⟨p,hp,rfl⟩:=List.mem_map.1 hx
   exact(htk p (by simp[hp])).2.1
  have lt2:∀ x∈R2.map (·.1),x<s.next:=fun x hx=>by
   obtain⟨p,hp,rfl⟩:=List.mem_map.1 hx
   exact(htk p (by simp[hp])).2.1
  refine⟨nd1,⟨fun h=>by have:=lt2 _ h;omega,nd3⟩,fun x hx y hy=>?_⟩
  rcases List.mem_cons.1 hy with rfl|hy
  ·have:=lt1 x hx;simp only;omega
  ·exact nd4 x hx y (List.mem_cons_of_mem _ hy)
 ·intro p hp
  have old:∀ p,p∈R1∨p∈R2→¬p.1=t0→st.next≤p.1∧p.1<s.next∧s.H p.1=.own 34 1 p.2.length∧¬p.1=t0∧¬p.1=q:=by
   intro p hp hne
   obtain⟨h1,h2,h3⟩:=htk p (by rcases hp with hp|hp<;>simp[hp])
   exact⟨h1,h2,h3,hne,bM h3 Hq sS⟩
  have hp':(p∈R1∨p∈R2)∧¬p.1=t0∨p=(s.next+3,r0++[id]):=by
   rcases List.mem_append.1 hp with hp|hp
   ·exact .inl ⟨.inl hp,nd4 _ (List.mem_map.2 ⟨p,hp,rfl⟩) t0 sS⟩
   ·rcases List.mem_cons.1 hp with hp|hp
    ·exact .inr hp
    ·exact .inl ⟨.inr hp,fun h=>nd2 (by rw[← h];exact List.mem_map.2 ⟨p,hp,rfl⟩)⟩
  rcases hp' with⟨hp,hne⟩|rfl
  ·obtain⟨h1,h2,h3,t1,t2⟩:=old p hp hne
   refine⟨h1,by simp only[aQ,aC];omega,?_⟩
   (repeat (first|rw[nHh nOo]|rw[sHh oO]|rw[nIi nQq]|rw[sIi oO]));exact h3
  ·refine⟨by simp only;omega,sS,?_⟩
   simp only
   (repeat (first|rw[nHh nOo]|rw[sHh oO]|rw[nIi nQq]|rw[sIi oO]));simp
 ·simp only[aQ,aC];omega
 ·refine⟨by have:=hkps.next;simp only[aQ,aC];omega,fun l hl=>?_⟩
  (repeat (first|rw[nHh nOo]|rw[sHh oO]|rw[nIi nQq]|rw[sIi oO]));exact hkps.H l hl
end Go.Proofs.YtempldclppogmaaGreatDoor.Aw
