/- Blocks: the search goes through a vertex. -/
import Derived.Test.YtempldclppogmaaGreatDoorJi
import Derived.Test.YtempldclppogmaaGreatDoorAwZ
import Derived.Test.YtempldclppogmaaGreatDoorAwFr
import Derived.Test.YtempldclppogmaaGreatDoorAwFn
set_option linter.unusedVariables false
set_option linter.unusedSimpArgs false
namespace Go.Proofs.YtempldclppogmaaGreatDoor.Aw
open Go Go.RowKit Go.Proofs.YtempldclppogmaaGreatDoor.Pl Go.Proofs.YtempldclppogmaaGreatDoor.Eu
theorem aAj{P:Program}{N:Nat}{Q:AQ}{k:List fZ}{fr:Frm}{st:St}{x y:Code}(I:Frm→St→Prop)(h1:AWp P N x (AK P N (fun e f s=>e=.normal∧I f s) []) fr st)(h2:∀ fr st,I fr st→AWp P N y (AK P N Q k) fr st):
 AWp P N x (AK P N Q (.code y::k)) fr st:=by
 refine dV h1 ?_
 rintro e fr' st' ⟨rfl,hI⟩
 rw[mY]
 exact h2 _ _ hI
theorem aFx{f:Bw→Nat→Option Bw}:∀(l:List Nat) (i:Nat) (s:Bw),goB f (l++[i]) s=(goB f l s).bind fun s'=>f s' i
 |[],i,s=>by
  show(f s i).bind (goB f [])=f s i
  cases f s i<;>rfl
 |j::l,i,s=>by
  show(f s j).bind (goB f (l++[i]))=((f s j).bind (goB f l)).bind _
  cases f s j with
  |none=>rfl
  |some s'=>exact aFx l i s'
theorem yF{P:List Nat}{n:Nat}(hn:P.Nodup)(h:∀ i∈P,i<n):P.length≤n:=by
 have:=List.Nodup.length_le_of_subset hn (l₂:=List.range n) fun i hi=>List.mem_range.2 (h i hi)
 simpa using this
theorem uF:∀(N:List (List Nat)),(∀ B∈N,B≠[])→N.length≤N.flatten.length
 |[],_=>Nat.le_refl _
 |B::N,h=>by
  have h1:=uF N fun B hB=>h B (List.mem_cons_of_mem _ hB)
  have h2:=List.length_pos_iff.2 (h B (by simp))
  simp only[List.flatten_cons,List.length_append,List.length_cons]
  omega
theorem BLp.sz{g:Gr}{s0 s:Bw}{v by_:Int}{Q:List Nat}{D:List Int}{T:List Nat}{N:List (List Nat)}(h:BLp g s0 v by_ Q s D T N):T.length≤g.es.length∧N.length≤g.es.length:=by
 have hl:∀ i∈T++N.flatten,i<g.es.length:=fun i hi=>((h.pl i).1 hi).1
 have h1:=yF h.pn hl
 have h2:=uF N fun B hB=>(h.good B hB).ne
 rw[List.length_append]at h1
 omega
def SzB(g:Gr)(s:Bw):Prop:=s.stk.length≤s.vis.length*(g.es.length+1)∧s.out.length≤s.vis.length*(g.es.length+1)
theorem SzB.child{g:Gr}{s0 s:Bw}{v by_:Int}{Q:List Nat}{D:List Int}{T:List Nat}{N:List (List Nat)}(h0:SzB g s0)(h:BLp g s0 v by_ Q s D T N):s.stk.length+1≤s.vis.length*(g.es.length+1)∧s.out.length≤s.vis.length*(g.es.length+1):=by
 obtain⟨h1,h2⟩:=h.sz
 have h3:(s0.vis.length+1)*(g.es.length+1)≤s.vis.length*(g.es.length+1):=Nat.mul_le_mul_right _ (by rw[h.vis,List.length_append,List.length_cons];omega)
 rw[Nat.add_mul,Nat.one_mul]at h3
 have e1:s.stk.length=s0.stk.length+T.length:=by rw[h.stk,List.length_append]
 have e2:s.out.length=s0.out.length+N.length:=by rw[h.out,List.length_append]
 obtain⟨k1,k2⟩:=h0
 omega
theorem xT{g:Gr}{s:Bw}(hv:g.vs.length≤100)(he:g.es.length≤10)(hnd:s.vis.Nodup)(hs:∀ w∈s.vis,w∈g.vs):s.vis.length≤100∧s.vis.length*(g.es.length+1)≤20100:=by
 have h1:s.vis.length≤g.vs.length:=List.Nodup.length_le_of_subset hnd hs
 exact⟨by omega,by have:=Nat.mul_le_mul (show s.vis.length≤100 by omega) (show g.es.length+1≤201 by omega);omega⟩
theorem nZ.keeps{g:Gr}{B W a nb lw:Nat}{tk:Int→Nat}{s:Bw}{st st':St}(h:nZ g B W a nb lw tk s st)(hk:aB st st'):nZ g B W a nb lw tk s st':=by
 obtain⟨⟨tS,tB,CS,ea,hW,⟨hA,hAm⟩,hN,hL,⟨hS,hSt⟩,hBk,hn,⟨b1,b2,b3,b4⟩⟩,hc,d1,d2,d3,d4⟩:=h
 have hx:=hk.next
 exact⟨⟨tS,tB,CS,ea,(hk.H W d1).trans hW,⟨(hk.H a d2).trans hA,hAm⟩,(hk.H nb d3).trans hN,(hk.H lw d4).trans hL,⟨(hk.H tS b3).trans hS,hSt⟩,(hk.H tB b4).trans hBk,hn,b1,b2,by omega,by omega⟩,hc,by omega,by omega,by omega,by omega⟩
theorem aLL{g:Gr}{B W a nb lw:Nat}{tk:Int→Nat}{s:Bw}{S:St}{tS tB:Nat}{CS:List LV}{ea:List (List Int×LV)}(i0:Nat)
 (hW:S.H W=.box 108 6 [.sl 0 g.es.length (eds g.es),.mp a,.mp nb,.mp lw,.ms tS 0 s.stk.length,.ms tB 0 s.out.length])
 (hA:S.H a=.map false [.u32] ea) (hAm:∀ v,aR ea [v]=if atP g.es v=[]then none else some (.sl (tk v) (atP g.es v).length (isN (atP g.es v))))
 (hN:S.H nb=.map false [.u32] (nbF 0 s.vis)) (hL:S.H lw=.map false [.u32] (lwF s.vis s.low)) (hS:S.H tS=.box 3 1 CS) (hBk:S.H tB=.box 23 1 (bkL g.es s.out))
 (hn:a≠nb∧a≠lw∧nb≠lw) (hb:B≤tS∧B≤tB∧tS<S.next∧tB<S.next) (hc:B≤W∧B≤a∧B≤nb∧B≤lw) (hd:W<S.next∧a<S.next∧nb<S.next∧lw<S.next) (o:aD):
 nZ g B W a nb lw tk (cZ s i0) ((((S.new o).set tS .dead).new (.box 3 1 (isN s.stk++[i (i0:Int)]))).set W (.box 108 6 [.sl 0 g.es.length (eds g.es),.mp a,.mp nb,.mp lw,.ms (S.next+1) 0 (s.stk.length+1),.ms tB 0 s.out.length]))∧
 KbB B S ((((S.new o).set tS .dead).new (.box 3 1 (isN s.stk++[i (i0:Int)]))).set W (.box 108 6 [.sl 0 g.es.length (eds g.es),.mp a,.mp nb,.mp lw,.ms (S.next+1) 0 (s.stk.length+1),.ms tB 0 s.out.length])):=by
 obtain⟨b1,b2,b3,b4⟩:=hb
 obtain⟨c1,c2,c3,c4⟩:=hc
 obtain⟨d1,d2,d3,d4⟩:=hd
 have m1:¬a=W:=bB hA hW (by simp)
 have m2:¬nb=W:=bB hN hW (by simp)
 have m3:¬lw=W:=bB hL hW (by simp)
 have m4:¬tB=W:=bB hBk hW (by simp)
 have m5:¬a=tS:=bB hA hS (by simp)
 have m6:¬nb=tS:=bB hN hS (by simp)
 have m7:¬lw=tS:=bB hL hS (by simp)
 have m8:¬tB=tS:=bB hBk hS (by simp)
 have e1:¬a=S.next:=by omega
 have e2:¬nb=S.next:=by omega
 have e3:¬lw=S.next:=by omega
 have e4:¬tB=S.next:=by omega
 have e5:¬a=S.next+1:=by omega
 have e6:¬nb=S.next+1:=by omega
 have e7:¬lw=S.next+1:=by omega
 have e8:¬tB=S.next+1:=by omega
 have e9:¬S.next+1=W:=by omega
 have hpl:(cZ s i0).stk.length=s.stk.length+1:=by simp[cZ]
 have hpn:isN (cZ s i0).stk=isN s.stk++[i (i0:Int)]:=by simp[cZ,isN]
 refine⟨⟨⟨S.next+1,tB,isN s.stk++[i (i0:Int)],ea,by rw[hpl];simp[cZ],⟨by simp[m1,m5,e1,e5,hA],hAm⟩,by simp[m2,m6,e2,e6,hN,cZ],by simp[m3,m7,e3,e7,hL,cZ],⟨by simp[e9],?_⟩,by simp[m4,m8,e4,e8,hBk,cZ],hn,by omega,b2,by simp,by simp;omega⟩,⟨c1,c2,c3,c4⟩,by simp;omega,by simp;omega,by simp;omega,by simp;omega⟩,?_⟩
 ·rw[hpl,← hpn,List.take_of_length_le]
  rw[gW,hpl];exact Nat.le_refl _
 ·exact(((((KbB.refl B S).new (by omega) _).set b1 _).new (by simp;omega) _).set c1 _)
theorem vD{P:Program}{N:Nat}{Q:AQ}{c:Code}{fr:Frm}{st:St}(I:Frm→St→Prop)(h0:I fr st)(h:∀ fr st,I fr st→AWp P N c Q fr st):AWp P N c Q fr st:=h _ _ h0
theorem aIz{g:Gr}{B W a nb lw:Nat}{tk:Int→Nat}{s:Bw}{T:St}(h:nZ g B W a nb lw tk s T)(v x:Int):nZ g B W a nb lw tk (jX s v x) (T.set lw (.map false [.u32] (lwF s.vis (s.low.set (s.vis.idxOf v) x)))):=by
 obtain⟨⟨tS,tB,CS,ea,hW,⟨hA,hAm⟩,hN,hL,⟨hS,hSt⟩,hBk,⟨n1,n2,n3⟩,⟨b1,b2,b3,b4⟩⟩,hc,d1,d2,d3,d4⟩:=h
 have m1:¬W=lw:=bB hW hL (by simp)
 have m2:¬tS=lw:=bB hS hL (by simp)
 have m3:¬tB=lw:=bB hBk hL (by simp)
 have m4:¬a=lw:=n2
 have m5:¬nb=lw:=n3
 exact⟨⟨tS,tB,CS,ea,by simp[m1,hW,jX],⟨by simp[m4,hA],hAm⟩,by simp[m5,hN,jX],by simp[jX],⟨by simp[m2,hS],hSt⟩,by simp[m3,hBk,jX],⟨n1,n2,n3⟩,b1,b2,by simpa using b3,by simpa using b4⟩,hc,by simpa using d1,by simpa using d2,by simpa using d3,by simpa using d4⟩
def VsI(g:Gr)(tk:Int→Nat)(hgo:Nat→Bw→Bw→Prop)(B W a nb lw:Nat)(s0:Bw)(v by_:Int)(st:St)(j:Nat)(fr:Frm)(st2:St):Prop:=
 fr 0=.pt W 0∧fr 1=u v∧fr 2=i by_∧fr 6=i ((s0.vis.length:Int)+1)∧fr 35=.sl (tk v) (atP g.es v).length (isN (atP g.es v))∧
 ∃ s D T N,hgo j s0 s∧BLp g s0 v by_ ((atP g.es v).take j) s D T N∧(∀ w∈s.vis,w∈g.vs)∧nZ g B W a nb lw tk s st2∧KbB B st st2
set_option maxHeartbeats 8000000 in
theorem aOg(g:Gr)(hg:GoodE g)(B W a nb lw:Nat)(tk:Int→Nat)(hv:g.vs.length≤100)(he:g.es.length≤10):∀(n:Nat) (A:Int→Prop) (s:Bw) (v by_:Int) (st:St),tU g A s v by_→v∈g.vs→(∀ w∈s.vis,w∈g.vs)→g.vs.length≤n+s.vis.length→SzB g s→nZ g B W a nb lw tk s st→
 aF Tryz.prog 70 [.pt W 0,u v,i by_] st fun r st'=>∃ s1,lE g.es n v by_ s=some s1∧nZ g B W a nb lw tk s1 st'∧KbB B st st':=by
 intro n
 induction n with
 |zero=>
  intro A s v by_ st h hvv hs hn _ _
  obtain⟨s1,C,T,N,e,_⟩:=aBN hg 0 A s v by_ h hvv hs hn
  cases e
 |succ n ih=>
  intro A s0 v by_ st h0 hvv hs hn hsz hbw
  obtain⟨hvl,hsb⟩:=xT hv he h0.nd hs
  obtain⟨⟨tS,tB,CS,ea,hW,⟨hA,hAm⟩,hN,hL,⟨hS,hSt⟩,hBk,⟨n1,n2,n3⟩,⟨b1,b2,b3,b4⟩⟩,⟨c1,c2,c3,c4⟩,d1,d2,d3,d4⟩:=hbw
  have m4:¬W=a:=bB hW hA (by simp)
  have m5:¬W=nb:=bB hW hN (by simp)
  have m6:¬W=lw:=bB hW hL (by simp)
  have hnl:=aEb s0.vis 0
  have hms:=aLM h0.new
  have hml:=sP s0.vis s0.low v ((s0.vis.length:Int)+1) h0.ln h0.new
  have hav:=hAm v
  have w1:IntKind.i64.wrap ((s0.vis.length:Int)+1)=(s0.vis.length:Int)+1:=wrap_i64 _ (by omega) (by omega)
  have r1:¬a=nb:=n1
  have r2:¬a=lw:=n2
  have r3:¬nb=lw:=n3
  have r4:¬lw=nb:=fun e=>n3 e.symm
  refine qO aK Tryz.func70 rfl rfl Tryz.ntmps70 (rs:=[]) rfl (by simp) ?_
  have hbs:=h0.start
  have hstS:(lK s0 v).stk=s0.stk:=rfl
  have hb0:nZ g B W a nb lw tk (lK s0 v) ((st.set nb (.map false [.u32] (nbF 0 (s0.vis++[v])))).set lw (.map false [.u32] (lwF (s0.vis++[v]) (s0.low++[(s0.vis.length:Int)+1])))):=by
   have q1:¬W=nb:=m5
   have q2:¬tS=nb:=bB hS hN (by simp)
   have q3:¬tS=lw:=bB hS hL (by simp)
   have q4:¬tB=nb:=bB hBk hN (by simp)
   have q5:¬tB=lw:=bB hBk hL (by simp)
   exact⟨⟨tS,tB,CS,ea,by simp[m5,m6,hW,lK],⟨by simp[r1,r2,hA],hAm⟩,by simp[r3,lK],by simp[lK],⟨by simp[q2,q3,hS],hSt⟩,by simp[q4,q5,hBk,lK],⟨n1,n2,n3⟩,b1,b2,by simpa using b3,by simpa using b4⟩,⟨c1,c2,c3,c4⟩,by simpa using d1,by simpa using d2,by simpa using d3,by simpa using d4⟩
  have hk0:KbB B st ((st.set nb (.map false [.u32] (nbF 0 (s0.vis++[v])))).set lw (.map false [.u32] (lwF (s0.vis++[v]) (s0.low++[(s0.vis.length:Int)+1])))):=((KbB.refl B st).set c3 _).set c4 _
  have hv0:∀ w∈(lK s0 v).vis,w∈g.vs:=fun w hw=>by
   have hw:w∈s0.vis++[v]:=hw
   rcases List.mem_append.1 hw with k|k
   ·exact hs w k
   ·rw[List.mem_singleton]at k;rw[k];exact hvv
  by_cases hat:atP g.es v=[]
  ·rw[if_pos hat]at hav
   have hvis:lE g.es (n+1) v by_ s0=some (lK s0 v):=by unfold lE;rw[hat];rfl
   (repeat' (first|refine qS ?_|refine qB ?_|(refine w_e [] ?_;intro J hJ;simp only[];simp[hW,hN,hL,hA,m4,m5,m6,hnl,hms,hml,hav,w1,r1,r2,r3,r4];(refine hJ _ _ ?_;clear hJ J;simp only[ak,reduceIte]))))
   refine aP 37 36 38 137 (0) (fun j fr st2=>st2=(st.set nb (.map false [.u32] (nbF 0 (s0.vis++[v])))).set lw (.map false [.u32] (lwF (s0.vis++[v]) (s0.low++[(s0.vis.length:Int)+1])))) ?_ ?_ ?_
   ·rfl
   ·intro j fr s hlt;omega
   ·rintro fr s hs2
    rw[hs2]
    skip
    exact⟨trivial,_,hvis,hb0,hk0⟩
  ·rw[if_neg hat]at hav
   have hnd:(atP g.es v).Nodup:=List.Pairwise.filter _ List.nodup_range
   have hatl:(atP g.es v).length≤g.es.length:=yF hnd fun i hi=>(bC.1 hi).1
   (repeat' (first|refine qS ?_|refine qB ?_|(refine w_e [] ?_;intro J hJ;simp only[];simp[hW,hN,hL,hA,m4,m5,m6,hnl,hms,hml,hav,w1,r1,r2,r3,r4];(refine hJ _ _ ?_;clear hJ J;simp only[ak,reduceIte]))))
   clear hW hN hL hA hAm hS hSt hBk hnl hms hml hav m4 m5 m6 r1 r2 r3 r4 n1 n2 n3 b1 b2 b3 b4 d1 d2 d3 d4
   refine aP 37 36 38 137 ((atP g.es v).length) (fun j fr st2=>VsI g tk (fun j s' s=>goB (eP (lE g.es n) g.es v by_ ((s0.vis.length:Int)+1)) ((atP g.es v).take j) (lK s' v)=some s) B W a nb lw s0 v by_ st j fr st2) ?_ ?_ ?_
   ·exact⟨by simp,by simp,by simp,by simp,by simp,lK s0 v,[],[],[],rfl,hbs,hv0,hb0,hk0⟩
   ·rintro j fr s1 hlt ⟨f0,f1,f2,f6,f35,s,D,T,N,hgo,hbl,hsv,hbw,hkb⟩ fi fn JO hJO
    have hgt:(atP g.es v).getD j 0=(atP g.es v)[j]:=by rw[List.getD_eq_getElem?_getD,List.getElem?_eq_getElem hlt];rfl
    have htk:(atP g.es v).take (j+1)=(atP g.es v).take j++[(atP g.es v).getD j 0]:=by rw[List.take_succ_eq_append_getElem hlt,hgt]
    have hi:(atP g.es v).getD j 0∈atP g.es v:=by rw[hgt];exact List.getElem_mem _
    have hiQ:(atP g.es v).getD j 0∉(atP g.es v).take j:=fun k=>by
     have h1:=hnd
     rw[← List.take_append_drop (j+1) (atP g.es v),htk,List.append_assoc,List.nodup_append]at h1
     exact h1.2.2 _ k _ (by simp) rfl
    have hd:=aKm (atP g.es v) j hlt
    generalize (atP g.es v).getD j 0=i0 at *
    obtain⟨hil,hie⟩:=bC.1 hi
    have next:∀ s2,eP (lE g.es n) g.es v by_ ((s0.vis.length:Int)+1) s i0=some s2→goB (eP (lE g.es n) g.es v by_ ((s0.vis.length:Int)+1)) ((atP g.es v).take (j+1)) (lK s0 v)=some s2:=fun s2 e=>by rw[htk,aFx,hgo];exact e
    by_cases hb:(i0:Int)=by_
    ·have hbb:((i0:Int)==by_)=true:=by simpa using hb
     (repeat' (first|refine qS ?_|(refine qX ?_;simp only[ak,reduceIte])|(refine qC ?_;simp[f0,f2,f35,fi,fn,hd,hlt,hbb])|(refine w_e [] ?_;intro J hJ;simp only[];simp[f0,f2,f35,fi,fn,hd,hlt,hbb];(refine hJ _ _ ?_;clear hJ J;simp only[ak,reduceIte]))))
     exact hJO _ _ (by simp[fi]) (by simp[fn]) ⟨by simp[f0],by simp[f1],by simp[f2],by simp[f6],by simp[f35],s,D,T,N,next s (by unfold eP;rw[if_pos hb]),by rw[htk];exact hbl.same hg h0 hi hb,hsv,hbw,hkb⟩
    have hbb:((i0:Int)==by_)=false:=by simpa using hb
    have hbw':=hbw
    obtain⟨⟨tS,tB,CS,ea,hW,⟨hA,hAm⟩,hN,hL,⟨hS,hSt⟩,hBk,⟨n1,n2,n3⟩,⟨b1,b2,b3,b4⟩⟩,-,d1,d2,d3,d4⟩:=hbw'
    have hde:=bE g.es i0 hil
    have hel:=aO g.es
    have hi3:i0*3<g.es.length*3:=by omega
    have y1:¬W=s1.next:=by omega
    have y2:¬nb=s1.next:=by omega
    have y3:¬lw=s1.next:=by omega
    have y4:¬tS=s1.next:=by omega
    have y5:¬a=s1.next:=by omega
    have y6:¬tB=s1.next:=by omega
    obtain⟨w,hw⟩:∃ w,w=oth (eAt g.es i0) v:=⟨_,rfl⟩
    have hoth:w=if(g.es.getD i0 ed0).a=v then(g.es.getD i0 ed0).b else(g.es.getD i0 ed0).a:=hw
    -- to the edge
    (repeat (refine qS ?_));(refine w_e [] ?_;intro J hJ;simp only[];simp[f35,fi,fn,hd,hlt];(refine hJ _ _ ?_;clear hJ J;simp only[ak,reduceIte]))
    (repeat (refine qS ?_));(refine w_e [] ?_;intro J hJ;simp only[];simp[f2];(refine hJ _ _ ?_;clear hJ J;simp only[ak,reduceIte]))
    (refine qC ?_;simp[hbb])
    refine qK ?_;simp only[ak,reduceIte]
    (repeat (refine qS ?_));(refine w_e [] ?_;intro J hJ;simp only[];simp[f0,hW,hde,hil,hi3,hel];(refine hJ _ _ ?_;clear hJ J;simp only[ak,reduceIte]))
    (repeat (refine qS ?_));(refine w_e [] ?_;intro J hJ;simp only[];simp[];(refine hJ _ _ ?_;clear hJ J;simp only[ak,reduceIte]))
    refine qS ?_
    refine aAj (fun f T=>f 0=.pt W 0∧f 1=u v∧f 2=i by_∧f 6=i ((s0.vis.length:Int)+1)∧f 35=.sl (tk v) (atP g.es v).length (isN (atP g.es v))∧f 36=i (atP g.es v).length∧f 37=i j∧f 8=i i0∧f 10=u w∧∃ o,T=s1.new o) ?_ ?_
    ·have hxg:g.es.getD i0 ed0=g.es[i0]:=cC _ _ hil
     rw[hxg]at hoth
     by_cases hxa:g.es[i0].a=v
     ·have hxb:(g.es[i0].a==v)=true:=by simpa using hxa
      rw[if_pos hxa]at hoth
      (repeat' (first|refine qS ?_|(refine qC ?_;simp[f0,f1,hxb])|(refine w_e [] ?_;intro J hJ;simp only[];simp[f0,f1,hxb];(refine hJ _ _ ?_;clear hJ J;simp only[ak,reduceIte]))))
      exact⟨trivial,by simp[f0],by simp[f1],by simp[f2],by simp[f6],by simp[f35],by simp[fn],by simp[fi],by simp,by rw[hoth];simp,_,rfl⟩
     ·have hxb:(g.es[i0].a==v)=false:=by simpa using hxa
      rw[if_neg hxa]at hoth
      (repeat' (first|refine qS ?_|(refine qK ?_;simp only[ak,reduceIte])|(refine qC ?_;simp[f0,f1,hxb])|(refine w_e [] ?_;intro J hJ;simp only[];simp[f0,f1,hxb];(refine hJ _ _ ?_;clear hJ J;simp only[ak,reduceIte]))))
      exact⟨trivial,by simp[f0],by simp[f1],by simp[f2],by simp[f6],by simp[f35],by simp[fn],by simp[fi],by simp,by rw[hoth];simp,_,rfl⟩
    clear f0 f1 f2 f6 f35 fi fn hd hde hoth fr
    rintro fr T ⟨f0,f1,f2,f6,f35,f36,f37,f8,f10,o,hT⟩
    rw[hT];clear hT T
    subst hw
    have hW':=(show(s1.new o).H W=s1.H W by rw[aG,if_neg y1]).trans hW
    have hN':=(show(s1.new o).H nb=s1.H nb by rw[aG,if_neg y2]).trans hN
    have hL':=(show(s1.new o).H lw=s1.H lw by rw[aG,if_neg y3]).trans hL
    have hS':=(show(s1.new o).H tS=s1.H tS by rw[aG,if_neg y4]).trans hS
    have hA':=(show(s1.new o).H a=s1.H a by rw[aG,if_neg y5]).trans hA
    have hB':=(show(s1.new o).H tB=s1.H tB by rw[aG,if_neg y6]).trans hBk
    have hbT:nZ g B W a nb lw tk s (s1.new o):=hbw.keeps (aB.new _ _)
    have hkT:KbB B st (s1.new o):=hkb.new (by omega) o
    have hTn:(s1.new o).next=s1.next+1:=aA _ _
    generalize s1.new o=T1 at *
    obtain⟨szp,szo⟩:=hsz.child hbl
    obtain⟨vl,sb⟩:=xT hv he hbl.nd hsv
    have hm:=aFp s.vis (oth (eAt g.es i0) v)
    have m5:¬W=nb:=bB hW hN (by simp)
    have m6:¬W=lw:=bB hW hL (by simp)
    have m1:¬W=tS:=bB hW hS (by simp)
    have hCS:s.stk.length≤CS.length:=by
     have:=congrArg List.length hSt
     rw[List.length_take,gW]at this
     omega
    have t1:¬W=T1.next:=by omega
    have t2:¬W=T1.next+1:=by omega
    have t3:¬tS=T1.next:=by omega
    obtain⟨hpb,hpk⟩:=aLL i0 hW' hA' hAm hN' hL' hS' hB' ⟨n1,n2,n3⟩ ⟨b1,b2,by omega,by omega⟩ ⟨c1,c2,c3,c4⟩ ⟨by omega,by omega,by omega,by omega⟩ (.own 3 1 1)
    by_cases hin:oth (eAt g.es i0) v∈s.vis
    ·rw[if_pos hin]at hm
     have hn1:1≤nmW s.vis (oth (eAt g.es i0) v):=by unfold nmW;rw[if_pos hin];omega
     by_cases hnm:nmW s.vis (oth (eAt g.es i0) v)<(s0.vis.length:Int)+1
     ·have hback:=hbl.back hg h0 hi hiQ hb hin hnm
      have hst:eP (lE g.es n) g.es v by_ ((s0.vis.length:Int)+1) s i0=some (jX (cZ s i0) v (min (lwW s v) (nmW s.vis (oth (eAt g.es i0) v)))):=by unfold eP;rw[if_neg hb,if_pos hin,if_pos hnm]
      generalize oth (eAt g.es i0) v=w at *
      generalize nmW s.vis w=z at *
      have hzb:(z==0)=false:=by rw[beq_eq_false_iff_ne];omega
      have hz0:¬z=0:=by omega
      (repeat' (first|refine qS ?_|refine qB ?_|(refine qC ?_;simp[f0,f1,f6,f8,f10,hW',hN',hm,hzb,hz0,hnm,hS',hSt,hCS,m1,t1,t2,t3])|(refine w_e [] ?_;intro J hJ;simp only[];simp[f0,f1,f6,f8,f10,hW',hN',hm,hzb,hz0,hnm,hS',hSt,hCS,m1,t1,t2,t3];(repeat refine ca ?_);(refine hJ _ _ ?_;clear hJ J;simp only[ak,reduceIte]))))
      refine vD (fun f T2=>f 0=.pt W 0∧f 1=u v∧f 2=i by_∧f 6=i ((s0.vis.length:Int)+1)∧f 35=.sl (tk v) (atP g.es v).length (isN (atP g.es v))∧f 36=i (atP g.es v).length∧f 37=i j∧f 11=i z∧nZ g B W a nb lw tk (cZ s i0) T2∧KbB B T1 T2) ⟨by simp[f0],by simp[f1],by simp[f2],by simp[f6],by simp[f35],by simp[f36],by simp[f37],by simp,hpb,hpk⟩ ?_
      clear f0 f1 f2 f6 f35 f36 f37 f8 f10 hpb hpk fr
      rintro fr T2 ⟨f0,f1,f2,f6,f35,f36,f37,f11,hp2,hk2⟩
      have hlow:=aIz hp2 v (min (lwW s v) z)
      have hml:=pE s.vis s.low v hbl.ln (hbl.v_in hg h0)
      have hmo:=mE s.vis s.low v (min (lwW s v) z) hbl.ln (hbl.v_in hg h0)
      obtain⟨⟨tS2,tB2,CS2,ea2,jW,-,-,jL,-,-,-,-⟩,-,-⟩:=hp2
      have jm6:¬W=lw:=bB jW jL (by simp)
      have jL:T2.H lw=.map false [.u32] (lwF s.vis s.low):=jL
      have hml:aR (lwF s.vis s.low) [v]=some (i (lwW s v)):=hml
      (refine w_s [] [W,lw] [(0,true),(1,true),(2,true),(3,true),(4,true),(5,true),(6,true),(7,true),(8,true),(9,true),(10,true),(11,true),(12,true),(13,false)] ?_;intro J hJ;simp[f0,f1,f11,jW,jL,hml,hmo];(refine hJ _ _ ?_;clear hJ J;simp only[ak,reduceIte]))
      have hmin:(if z<lwW s v then z else lwW s v)=min (lwW s v) z:=by split<;>omega
      rw[hmin,show aS (lwF s.vis s.low) [v] (LV.atom (Value.int IntKind.i64 (min (lwW s v) z)))=_ from hmo]
      exact hJO _ _ (by simp[f37]) (by simp[f36]) ⟨by simp[f0],by simp[f1],by simp[f2],by simp[f6],by simp[f35],_,D,T++[i0],N,next _ hst,by rw[htk];exact hback,hsv,hlow,(hkT.trans hk2).set c4 _⟩
     ·have hskip:=hbl.skip hg h0 hi hin hnm
      have hst:eP (lE g.es n) g.es v by_ ((s0.vis.length:Int)+1) s i0=some s:=by unfold eP;rw[if_neg hb,if_pos hin,if_neg hnm]
      generalize oth (eAt g.es i0) v=w at *
      generalize nmW s.vis w=z at *
      have hzb:(z==0)=false:=by rw[beq_eq_false_iff_ne];omega
      have hz0:¬z=0:=by omega
      (repeat' (first|refine qS ?_|refine qB ?_|(refine qK ?_;simp only[ak,reduceIte])|(refine qC ?_;simp[f0,f1,f6,f10,hW',hN',hm,hzb,hz0,hnm])|(refine w_e [] ?_;intro J hJ;simp only[];simp[f0,f1,f6,f10,hW',hN',hm,hzb,hz0,hnm];(refine hJ _ _ ?_;clear hJ J;simp only[ak,reduceIte]))))
      exact hJO _ _ (by simp[f37]) (by simp[f36]) ⟨by simp[f0],by simp[f1],by simp[f2],by simp[f6],by simp[f35],s,D,T,N,next s hst,by rw[htk];exact hskip,hsv,hbT,hkT⟩
    ·rw[if_neg hin]at hm
     have hpre:=hbl.pre hg h0 hi hin
     have hch:=fun s1 C T' N' hp=>hbl.child hg h0 hi hiQ hb hin (s1:=s1) (C:=C) (T':=T') (N':=N') hp
     have hwv:oth (eAt g.es i0) v∈g.vs:=hg.nbr (pQ hi)
     have hwne:=aEk hg hi
     have hst:eP (lE g.es n) g.es v by_ ((s0.vis.length:Int)+1) s i0=(lE g.es n (oth (eAt g.es i0) v) i0 (cZ s i0)).bind (aGh g.es.length v ((s0.vis.length:Int)+1) i0 (oth (eAt g.es i0) v)):=by unfold eP;rw[if_neg hb,if_neg hin]
     generalize oth (eAt g.es i0) v=w at *
     (repeat' (first|refine qS ?_|refine qB ?_|(refine qC ?_;simp[f0,f1,f6,f8,f10,hW',hN',hm,hS',hSt,hCS,m1,t1,t2,t3])|(refine w_e [] ?_;intro J hJ;simp only[];simp[f0,f1,f6,f8,f10,hW',hN',hm,hS',hSt,hCS,m1,t1,t2,t3];(repeat refine ca ?_);(try (refine hJ _ _ ?_;clear hJ J;simp only[ak,reduceIte])))))
     have hlen:s.vis.length=s0.vis.length+1+D.length:=by rw[hbl.vis,List.length_append,List.length_cons];omega
     refine qE (ih _ (cZ s i0) w i0 _ hpre hwv hsv (by show g.vs.length≤n+s.vis.length;omega) ⟨by simpa[cZ]using szp,szo⟩ hpb) (by simp) ?_;rintro r T2 ⟨s2,hvis,hb2,hk2⟩
     obtain⟨s2',C,T',N',hvis',hp,hC⟩:=aBN hg n _ (cZ s i0) w i0 hpre hwv hsv (by show g.vs.length≤n+s.vis.length;omega)
     obtain rfl:s2=s2':=by rw[hvis]at hvis';exact Option.some.inj hvis'
     clear hvis'
     obtain⟨s3,D2,T3,N2,hlo,hbl3⟩:=hch s2 C T' N' hp
     have hst3:eP (lE g.es n) g.es v by_ ((s0.vis.length:Int)+1) s i0=some s3:=by rw[hst,hvis];exact hlo
     have hkT2:KbB B st T2:=(hkT.trans hpk).trans hk2
     have hvs:v∈s.vis:=hbl.v_in hg h0
     have hvs2:v∈s2.vis:=by rw[hp.vis];exact List.mem_append_left _ hvs
     have hws2:w∈s2.vis:=by rw[hp.vis];exact List.mem_append_right _ hp.hd
     have hs2v:∀ x∈s2.vis,x∈g.vs:=fun x hx=>by
      rw[hp.vis,List.mem_append]at hx
      exact hx.elim (hsv x) (hC x)
     have hmv:aR (lwF s2.vis s2.low) [v]=some (i (lwW s2 v)):=pE s2.vis s2.low v hp.ln hvs2
     have hmw:aR (lwF s2.vis s2.low) [w]=some (i (lwW s2 w)):=pE s2.vis s2.low w hp.ln hws2
     have hmo:=mE s2.vis s2.low v (min (lwW s2 v) (lwW s2 w)) hp.ln hvs2
     have hlow:=aIz hb2 v (min (lwW s2 v) (lwW s2 w))
     have hmw3:aR (lwF s2.vis (s2.low.set (s2.vis.idxOf v) (min (lwW s2 v) (lwW s2 w)))) [w]=some (i (lwW s2 w)):=by
      have h1:=pE s2.vis (s2.low.set (s2.vis.idxOf v) (min (lwW s2 v) (lwW s2 w))) w (by rw[List.length_set];exact hp.ln) hws2
      have h2:=aBj (x:=min (lwW s2 v) (lwW s2 w)) hp.ln hvs2 hws2
      rw[if_neg hwne]at h2
      rw[h1]
      exact congrArg (fun y=>some (i y)) h2
     obtain⟨⟨tS2,tB2,CS2,ea2,jW,-,-,jL,-,-,-,-⟩,-,-⟩:=hb2
     have jm6:¬W=lw:=bB jW jL (by simp)
     have hmin:(if lwW s2 w<lwW s2 v then lwW s2 w else lwW s2 v)=min (lwW s2 v) (lwW s2 w):=by split<;>omega
     (refine aL ?_;simp[];(refine hJ _ _ ?_;clear hJ J;simp only[ak,reduceIte]))
     (repeat (refine qS ?_));(refine w_s [] [W,lw] [(0,true),(1,true),(2,true),(3,true),(4,true),(5,true),(6,true),(7,true),(8,true),(9,true),(10,true),(11,true),(12,true),(13,true),(14,true),(15,true),(16,true),(17,true),(18,false)] ?_;intro J hJ;simp[f0,f1,f10,jW,jL,hmv,hmw];(refine hJ _ _ ?_;clear hJ J;simp only[ak,reduceIte]))
     rw[hmin,show aS (lwF s2.vis s2.low) [v] (LV.atom (Value.int IntKind.i64 (min (lwW s2 v) (lwW s2 w))))=_ from hmo]
     have hW3:(T2.set lw (.map false [.u32] (lwF s2.vis (s2.low.set (s2.vis.idxOf v) (min (lwW s2 v) (lwW s2 w)))))).H W=T2.H W:=by rw[aE,if_neg jm6]
     unfold aGh at hlo
     by_cases hc:(s0.vis.length:Int)+1≤lwW s2 w
     ·rw[if_pos hc]at hlo
      have hstk:s2.stk=s.stk++i0::T':=by rw[hp.stk];show(s.stk++[i0])++T'=_;simp
      have hiT:i0∉T':=fun k=>((hp.pl i0).1 (List.mem_append_left _ k)).2.1 rfl
      have hTn:=(List.nodup_append.1 hp.pn).1
      have hTl:∀ k∈T',k<g.es.length:=fun k hk=>((hp.pl k).1 (List.mem_append_left _ hk)).1
      have hTlen:=yF hTn hTl
      have hNl:=uF N' fun B hB=>(hp.good B hB).ne
      have hNf:=yF (List.nodup_append.1 hp.pn).2.1 fun k hk=>((hp.pl k).1 (List.mem_append_right _ hk)).1
      have ho2:s2.out.length=s.out.length+N'.length:=by rw[hp.out,List.length_append];rfl
      have hk2l:s2.stk.length=s.stk.length+1+T'.length:=by rw[hstk,List.length_append,List.length_cons];omega
      have hlp:fR s2.stk i0=s.stk.length:=by rw[hstk];exact sF hiT
      have hdrop:s2.stk.drop (fR s2.stk i0)=i0::T':=by rw[hlp,hstk,List.drop_left]
      have hcall:=aQz g hg.ids B W a nb lw tk (jX s2 v (min (lwW s2 v) (lwW s2 w))) i0 _ hlow (by show i0∈s2.stk;rw[hstk];simp)
       (by show ∀ k∈s2.stk.drop (fR s2.stk i0),k<g.es.length
           rw[hdrop];intro k hk;rcases List.mem_cons.1 hk with e|e
           ·rw[e];exact hil
           ·exact hTl k e)
       (by show(s2.stk.drop (fR s2.stk i0)).Nodup
           rw[hdrop];exact List.nodup_cons.2 ⟨hiT,hTn⟩) (by omega) (by show s2.stk.length≤60000;omega) (by show s2.out.length≤100000;omega)
      (repeat' (first|refine qS ?_|(refine qC ?_;simp[f0,f6,f8,f10,jW,jm6,hmw3,hc])|(refine w_e [] ?_;intro J hJ;simp only[];simp[f0,f6,f8,f10,jW,jm6,hmw3,hc];(try (refine hJ _ _ ?_;clear hJ J;simp only[ak,reduceIte])))))
      refine qE hcall (by simp) ?_;rintro r T4 ⟨s4,hcw,hb4,hk4⟩
      obtain rfl:s4=s3:=by rw[hcw]at hlo;exact Option.some.inj hlo
      have hv4:s4.vis=s2.vis:=by
       unfold aCT at hcw
       split at hcw
       ·cases hcw;rfl
       ·cases hcw
      (repeat' (refine aL ?_;simp[];(refine hJ _ _ ?_;clear hJ J;simp only[ak,reduceIte])))
      exact hJO _ _ (by simp[f37]) (by simp[f36]) ⟨by simp[f0],by simp[f1],by simp[f2],by simp[f6],by simp[f35],_,D2,T3,N2,next _ hst3,by rw[htk];exact hbl3,fun x hx=>hs2v x (by rw[← hv4];exact hx),hb4,(hkT2.set c4 _).trans hk4⟩
     ·rw[if_neg hc]at hlo
      obtain rfl:=Option.some.inj hlo
      (repeat' (first|refine qS ?_|(refine qK ?_;simp only[ak,reduceIte])|(refine qC ?_;simp[f0,f6,f10,jW,jm6,hmw3,hc])|(refine w_e [] ?_;intro J hJ;simp only[];simp[f0,f6,f10,jW,jm6,hmw3,hc];(refine hJ _ _ ?_;clear hJ J;simp only[ak,reduceIte]))))
      exact hJO _ _ (by simp[f37]) (by simp[f36]) ⟨by simp[f0],by simp[f1],by simp[f2],by simp[f6],by simp[f35],_,D2,T3,N2,next _ hst3,by rw[htk];exact hbl3,hs2v,hlow,hkT2.set c4 _⟩
   ·rintro fr s1 ⟨f0,f1,f2,f6,f35,s,D,T,N,hgo,hbl,hsv,hbw,hkb⟩
    rw[List.take_length]at hgo
    skip
    exact⟨trivial,s,hgo,hbw,hkb⟩
theorem aIC{P:Program}{N:Nat}{Q:AQ}{k:List fZ}{fr:Frm}{st:St}{x:Code}(I:Frm→St→Prop)(h1:AWp P N x (AK P N (fun e f s=>e=.normal∧I f s) []) fr st)(h2:∀ fr st,I fr st→AK P N Q k .normal fr st):
 AWp P N x (AK P N Q k) fr st:=by
 refine dV h1 ?_
 rintro e fr' st' ⟨rfl,hI⟩
 exact h2 _ _ hI
theorem aAo{P:Program}{N:Nat}{Q:AQ}{fr:Frm}{st:St}{c:Code}(q e' s':Nat){e s:Nat}(pre post:List LV)(hH:st.H q=.box e s (pre++.nil::post))
 (h:AWp P N c Q fr ((st.new (.box e' s' [])).set q (.box e s (pre++.ms st.next 0 0::post)))):AWp P N c Q fr st:=by
 refine fH (fun a w g hi hr _=>?_) h
 have he:=ext_nil w g
 have h1:Inv w g.addNil (st.new (.box e' s' [])):=fN hi _ (.inr ⟨e',s',rfl⟩)
 have hlt:q<st.next:=wX hi hH (by simp)
 refine⟨g.addNil,vP h1 (cs:=pre++.nil::post) (by rw[aG,if_neg (by omega)];exact hH) (by simp) (fun vs hv=>?_),hr.mono he,he⟩
 obtain⟨v,k1,k2⟩:=kB pre vs hv
 refine k2 g.addNil _ (Ext.refl _ _) ?_
 simp only[Rep]at k1 ⊢
 exact⟨none,0,k1,Nat.le_refl _,Nat.zero_le _,fun _=>by simp[G.addNil,hi.next],fun h=>absurd rfl h,by simp[G.addNil,hi.next]⟩
structure AtR(lo:Nat)(ρ:Int→List Nat)(ea:List (List Int×LV))(tk:Int→Nat)(st:St):Prop where
 get:∀ v,aR ea [v]=if ρ v=[]then none else some (.sl (tk v) (ρ v).length (isN (ρ v)))
 own:∀ v,ρ v≠[]→st.H (tk v)=.own 3 1 (ρ v).length∧(tk v≠0∧lo≤tk v∧tk v<st.next)
 inj:∀ v w,ρ v≠[]→ρ w≠[]→tk v=tk w→v=w
def jJ(ρ:Int→List Nat)(v:Int)(k:Nat):Int→List Nat:=fun w=>if w=v then ρ v++[k]else ρ w
theorem AtR.put{lo:Nat}{ρ:Int→List Nat}{ea:List (List Int×LV)}{tk:Int→Nat}{st st':St}(h:AtR lo ρ ea tk st)(v:Int)(k:Nat){t n:Nat}(hn:n=(ρ v).length+1)(ht:st.next≤t∧t<st'.next∧t≠0∧lo≤t)(hH:st'.H t=.own 3 1 n)
 (ho:∀ w,w≠v→ρ w≠[]→st'.H (tk w)=st.H (tk w)) (hl:st.next≤st'.next):AtR lo (jJ ρ v k) (aS ea [v] (.sl t n (isN (ρ v)++[i (k:Int)]))) (fun w=>if w=v then t else tk w) st' where
 get:=fun w=>by
  rw[cL]
  unfold jJ
  by_cases e:w=v
  ·subst e
   rw[if_pos rfl,if_pos rfl,if_pos rfl,if_neg (by simp),hn]
   simp[isN]
  ·rw[if_neg (by simpa using e),if_neg e,if_neg e]
   exact h.get w
 own:=fun w hw=>by
  unfold jJ at hw ⊢
  by_cases e:w=v
  ·rw[if_pos e,if_pos e]
   exact⟨by rw[hH,hn];simp,ht.2.2.1,ht.2.2.2,ht.2.1⟩
  ·rw[if_neg e]at hw
   rw[if_neg e,if_neg e]
   obtain⟨h1,h2,h3,h4⟩:=h.own w hw
   exact⟨by rw[ho w e hw];exact h1,h2,h3,by omega⟩
 inj:=fun x y hx hy he=>by
  unfold jJ at hx hy
  by_cases e1:x=v
  ·by_cases e2:y=v
   ·rw[e1,e2]
   ·rw[if_neg e2]at hy
    simp only[if_pos e1,if_neg e2]at he
    have:=(h.own y hy).2.2.2
    omega
  ·rw[if_neg e1]at hx
   by_cases e2:y=v
   ·simp only[if_neg e1,if_pos e2]at he
    have:=(h.own x hx).2.2.2
    omega
   ·rw[if_neg e2]at hy
    simp only[if_neg e1,if_neg e2]at he
    exact h.inj x y hx hy he
theorem AtR.keeps{lo:Nat}{ρ:Int→List Nat}{ea:List (List Int×LV)}{tk:Int→Nat}{st st':St}(h:AtR lo ρ ea tk st)(hk:aB st st'):AtR lo ρ ea tk st':=
 ⟨h.get,fun v hv=>by obtain⟨h1,h2,h3,h4⟩:=h.own v hv;exact⟨by rw[hk.H _ h4];exact h1,h2,h3,by have:=hk.next;omega⟩,h.inj⟩
def atK(es:List Ed)(k:Nat)(v:Int):List Nat:=(List.range k).filter fun i=>decide ((eAt es i).a=v∨(eAt es i).b=v)
theorem aJJ{es:List Ed}{k:Nat}(hne:(eAt es k).a≠(eAt es k).b):atK es (k+1)=jJ (jJ (atK es k) (eAt es k).a k) (eAt es k).b k:=by
 funext v
 unfold atK jJ
 rw[List.range_succ,List.filter_append]
 by_cases hb:v=(eAt es k).b
 ·subst hb
  rw[if_pos rfl,if_neg (fun e=>hne e.symm)]
  simp
 ·rw[if_neg hb]
  by_cases ha:v=(eAt es k).a
  ·subst ha
   simp
  ·rw[if_neg ha]
   have:¬((eAt es k).a=v∨(eAt es k).b=v):=by omega
   rw[List.filter_cons,if_neg (by simpa using this)]
   simp
def AtI(g:Gr)(p:Nat)(st:St)(ρ:Int→List Nat)(s:St):Prop:=s.H p=.box 25 2 (grL g)∧s.H (p+4)=.box 108 6 [.sl 0 g.es.length (eds g.es),.mp (p+1),.mp (p+2),.mp (p+3),.ms (p+5) 0 0,.ms (p+6) 0 0]∧s.H (p+2)=.map false [.u32] []∧s.H (p+3)=.map false [.u32] []∧s.H (p+5)=.box 3 1 []∧s.H (p+6)=.box 23 1 []∧p+7≤s.next∧aB st s∧
 ∃ ea tk,s.H (p+1)=.map false [.u32] ea∧AtR (p+7) ρ ea tk s
theorem vR{es:List Ed}{n:Nat}:∀(l:List Int) (v:Int) (s:Bw),nW es n (l++[v]) s=(nW es n l s).bind fun s'=>nW es n [v] s'
 |[],v,s=>rfl
 |w::l,v,s=>by
  simp only[List.cons_append,nW]
  split
  ·exact vR l v s
  ·cases lE es n w (-1) s with
   |none=>rfl
   |some s'=>exact vR l v s'
theorem aFa.sz{g:Gr}{s:Bw}(h:aFa g s):SzB g s:=by
 have h1:=uF s.out fun B hB=>(h.good B hB).ne
 have h2:=yF h.pn fun i hi=>((h.pl i).1 hi).1
 unfold SzB
 rw[h.stk]
 refine⟨Nat.zero_le _,?_⟩
 cases hv:s.vis with
 |nil=>
  have:s.out.flatten=[]:=List.eq_nil_iff_forall_not_mem.2 fun i hi=>by
   have:=((h.pl i).1 hi).2
   rw[hv]at this;cases this
  rw[this]at h1
  rw[List.length_nil,Nat.zero_mul]
  exact h1
 |cons w V=>
  rw[List.length_cons,Nat.add_mul]
  omega
theorem AtI.keeps{g:Gr}{p:Nat}{st:St}{ρ:Int→List Nat}{s s':St}(h:AtI g p st ρ s)(hk:aB s s'):AtI g p st ρ s':=by
 obtain⟨h0,h1,h2,h3,h4,h5,h6,h7,ea,tk,h8,h9⟩:=h
 have:=hk.next
 exact⟨(hk.H _ (by omega)).trans h0,(hk.H _ (by omega)).trans h1,(hk.H _ (by omega)).trans h2,(hk.H _ (by omega)).trans h3,(hk.H _ (by omega)).trans h4,(hk.H _ (by omega)).trans h5,by omega,h7.trans hk,ea,tk,(hk.H _ (by omega)).trans h8,h9.keeps hk⟩
set_option maxHeartbeats 8000000 in
theorem aDg:∀ {out:List (List Nat)},(∀ B∈out,B≠[])→out.length≤out.flatten.length
 |[],_=>by simp
 |B::out,h=>by
  have h1:=aDg (out:=out) fun B hB=>h B (List.mem_cons_of_mem _ hB)
  have h2:=List.length_pos_iff.2 (h B (by simp))
  simp only[List.length_cons,List.flatten_cons,List.length_append];omega
theorem aMo{es:List Ed}{out:List (List Nat)}(hall:∀ i,i∈out.flatten↔i<es.length)(hok:∀ B∈out,gQ es B)(hnd:out.flatten.Nodup):out.length≤es.length:=by
 have h1:=aDg fun B hB=>(hok B hB).ne
 have h2:=List.Nodup.length_le_of_subset hnd fun k hk=>List.mem_range.2 ((hall k).1 hk)
 rw[List.length_range]at h2;omega
theorem aLi(g:Gr)(hg:GoodE g)(st:St)(hv:g.vs.length≤100)(he:g.es.length≤10):
 aF Tryz.prog 43 [.ag (grL g)] st fun r st'=>∃ q,r=.ms q 0 (iM g.es).length∧st'.H q=.box 23 1 (bkL g.es (iM g.es))∧st.next≤q∧q<st'.next∧aB st st':=by
 obtain⟨S,hS,hSk,hSa,hSn,hSb⟩:=rG hg
 have hel:=aO g.es
 have hids:=hg.ids
 refine qO aK Tryz.func43 rfl rfl Tryz.ntmps43 (rs:=[.tmp 2]) rfl (by simp) ?_
 refine dL fun hpos=>?_
 have x1:¬st.next=st.next+1:=by omega
 have x2:¬st.next=st.next+1+1:=by omega
 have x3:¬st.next=st.next+1+1+1:=by omega
 have x4:¬st.next=st.next+1+1+1+1:=by omega
 have x5:¬st.next=st.next+1+1+1+1+1:=by omega
 have x6:¬st.next=st.next+1+1+1+1+1+1:=by omega
 (repeat' (first|refine qS ?_|refine qB ?_|(refine w_e [] ?_;intro J hJ;simp only[];simp[x1,x2,x3,x4];(refine hJ _ _ ?_;clear hJ J;simp only[ak,reduceIte]))))
 refine aAo (st.next+1+1+1+1) 3 1 (e:=108) (s:=6) [.sl 0 g.es.length (eds g.es),.mp (st.next+1),.mp (st.next+1+1),.mp (st.next+1+1+1)] [.nil] (by simp) ?_
 refine aAo (st.next+1+1+1+1) 23 1 (e:=108) (s:=6) [.sl 0 g.es.length (eds g.es),.mp (st.next+1),.mp (st.next+1+1),.mp (st.next+1+1+1),.ms (st.next+5) 0 0] [] (by simp) ?_
 obtain⟨p,hp⟩:∃ p,p=st.next:=⟨_,rfl⟩
 refine aP 18 17 19 55 (g.es.length) (fun j fr st2=>fr 1=.pt p 0∧fr 3=.pt (p+4) 0∧fr 16=.sl 0 g.es.length (eds g.es)∧AtI g p st (atK g.es j) st2) ?_ ?_ ?_
 ·subst hp
  refine⟨by simp,by simp,by simp,?_⟩
  refine⟨by simp[x1,x2,x3,x4,x5,x6],?_,by simp,by simp,by simp,by simp,by simp,?_,[],fun _=>0,by simp,⟨fun v=>rfl,fun v hv=>absurd rfl hv,fun v w hv=>absurd rfl hv⟩⟩
  ·simp
  ·(repeat (first|exact aB.refl _|(refine aB.trans ?_ (aB.new _ _))|(refine aB.set ?_ (by omega) _)))
 ·clear x1 x2 x3 x4 x5 x6
  rintro j fr s hlt ⟨f1,f3,f16,hI⟩ fi fn JO hJO
  have hde:=bE g.es j hlt
  have hj3:j*3<g.es.length*3:=by omega
  have hne:=hg.ne _ (uT hlt)
  have hsu:=aJJ (es:=g.es) (k:=j) hne
  rw[hsu]at hJO
  clear hsu
  unfold eAt at hJO
  generalize g.es.getD j ed0=x at *
  obtain⟨id,xa,xb⟩:=x
  simp only at hJO hde
  have hρ:∀ w,(atK g.es j w).length≤10000:=fun w=>by
   have:=List.length_filter_le (fun i=>decide ((eAt g.es i).a=w∨(eAt g.es i).b=w)) (List.range j)
   rw[List.length_range]at this
   unfold atK;omega
  generalize atK g.es j=ρ at *
  have hpn:p+7≤s.next:=hI.2.2.2.2.2.2.1
  (repeat' (first|refine qS ?_|(refine w_e [] ?_;intro J hJ;simp only[];simp[f1,f3,f16,fi,fn,hde,hlt,hj3,hel];(refine hJ _ _ ?_;clear hJ J;simp only[ak,reduceIte]))))
  refine vD (fun f T=>f 1=.pt p 0∧f 3=.pt (p+4) 0∧f 4=i j∧f 5=.pt s.next 0∧f 16=.sl 0 g.es.length (eds g.es)∧f 17=i g.es.length∧f 18=i j∧s.next<T.next∧T.H s.next=.box 56 3 [u id,u xa,u xb]∧AtI g p st (ρ) T) ⟨by simp[f1],by simp[f3],by simp,by simp,by simp[f16],by simp[fn],by simp[fi],by simp,by simp,hI.keeps (aB.new _ _)⟩ ?_
  generalize s.next=X at *
  clear f1 f3 f16 fi fn hI fr
  rintro fr s2 ⟨f1,f3,f4,f5,f16,fn,fi,hXl,hX,hI⟩
  refine aAj (fun f T=>f 1=.pt p 0∧f 3=.pt (p+4) 0∧f 4=i j∧f 5=.pt X 0∧f 16=.sl 0 g.es.length (eds g.es)∧f 17=i g.es.length∧f 18=i j∧X<T.next∧T.H X=.box 56 3 [u id,u xa,u xb]∧AtI g p st (jJ ρ xa j) T) ?_ ?_
  ·obtain⟨hG,hW,hN,hL,hS,hB,hnx,hkp,ea,tk,hA,hR⟩:=hI
   have hget:=hR.get xa
   have k1:¬X=s2.next:=by omega
   have k2:¬X=s2.next+1:=by omega
   have k3:¬X=p+1:=by omega
   have e0:¬p+4=s2.next:=by omega
   have e1:¬p+1=s2.next:=by omega
   have e2:¬p+2=s2.next:=by omega
   have e3:¬p+3=s2.next:=by omega
   have e4:¬p=s2.next:=by omega
   have e5:¬p+5=s2.next:=by omega
   have e6:¬p+6=s2.next:=by omega
   have e7:¬p+4=s2.next+1:=by omega
   have e8:¬p+1=s2.next+1:=by omega
   have e9:¬p+2=s2.next+1:=by omega
   have e10:¬p+3=s2.next+1:=by omega
   have e11:¬p=s2.next+1:=by omega
   have e12:¬p+5=s2.next+1:=by omega
   have e13:¬p+6=s2.next+1:=by omega
   have e14:¬s2.next+1=p+1:=by omega
   have e15:¬s2.next=p:=by omega
   have tkl:∀ w,ρ w≠[]→¬tk w=s2.next∧¬tk w=s2.next+1∧¬tk w=p+1:=fun w hw=>by have:=(hR.own w hw).2;omega
   by_cases hr:ρ xa=[]
   ·rw[if_pos hr]at hget
    (refine w_s [] [X,p+4,p+1] [(0,true),(1,true),(2,true),(3,true),(4,true),(5,true),(6,true),(7,true),(8,true),(9,true),(10,true),(11,true),(12,true),(13,true),(14,true),(15,true),(16,false)] ?_;intro J hJ;simp[f3,f4,f5,hX,hW,hA,hget,k1,k2,k3,e0,e1,e4,e7,e8,e14,e15];(repeat refine ca ?_);(refine hJ _ _ ?_;clear hJ J;simp only[ak,reduceIte]))
    have hput:=hR.put xa j (t:=s2.next+1) (n:=1) (st':=(((s2.new (.own 3 1 1)).new (.own 3 1 1)).set (p+1) (.map false [.u32] (aS ea [xa] (.sl (s2.next+1) 1 [i (j:Int)]))))) (by rw[hr];rfl) ⟨by omega,by simp,by omega,by omega⟩ (by simp[e14,e15]) (fun w hw h0=>by obtain⟨t1,t2,t3⟩:=tkl w h0;simp[t1,t2,t3]) (by simp;omega)
    rw[hr]at hput
    refine⟨by trivial,by simp[f1],by simp[f3],by simp[f4],by simp[f5],by simp[f16],by simp[fn],by simp[fi],by simp;omega,by simp[k1,k2,k3,hX],?_⟩
    refine⟨by simp[e4,e11,hG],by simp[e0,e7,hW],by simp[e2,e9,hN],by simp[e3,e10,hL],by simp[e5,e12,hS],by simp[e6,e13,hB],by simp;omega,?_,_,_,by simp<;>rfl,hput⟩
    (repeat (first|exact hkp|(refine aB.trans ?_ (aB.new _ _))|(refine aB.set ?_ (by omega) _)))
   ·rw[if_neg hr]at hget
    obtain⟨hO,t0,tl,tu⟩:=hR.own xa hr
    obtain⟨t1,t2,t3⟩:=tkl xa hr
    have t4:¬X=tk xa:=fun e=>by rw[← e,hX]at hO;cases hO
    have hrl:(isN (ρ xa)).length=(ρ xa).length:=gW _
    have hrb:(ρ xa).length≤10000:=hρ _
    have p0:¬p=tk xa:=by omega
    have p1:¬p+1=tk xa:=by omega
    have p2:¬p+2=tk xa:=by omega
    have p3:¬p+3=tk xa:=by omega
    have p4:¬p+4=tk xa:=by omega
    have p5:¬p+5=tk xa:=by omega
    have p6:¬p+6=tk xa:=by omega
    (refine w_s [] [X,p+4,p+1] [(0,true),(1,true),(2,true),(3,true),(4,true),(5,true),(6,true),(7,true),(8,true),(9,true),(10,true),(11,true),(12,true),(13,true),(14,true),(15,true),(16,false)] ?_;intro J hJ;simp[f3,f4,f5,hX,hW,hA,hget,hO,hrl,t0,t1,t4,p1,p4,k1,k2,k3,e0,e1,e4,e7,e8,e14,e15];(repeat refine ca ?_);(refine hJ _ _ ?_;clear hJ J;simp only[ak,reduceIte]))
    have hput:=hR.put xa j (t:=s2.next+1) (n:=(ρ xa).length+1) (st':=((((s2.new (.own 3 1 1)).set (tk xa) .dead).new (.own 3 1 ((ρ xa).length+1))).set (p+1) (.map false [.u32] (aS ea [xa] (.sl (s2.next+1) ((ρ xa).length+1) (isN (ρ xa)++[i (j:Int)]))))) ) rfl ⟨by omega,by simp,by omega,by omega⟩ (by simp[e14,e15]) (fun w hw h0=>by obtain⟨u1,u2,u3⟩:=tkl w h0;have u4:¬tk w=tk xa:=fun e=>hw (hR.inj w xa h0 hr e);simp[u1,u2,u3,u4]) (by simp;omega)
    refine⟨by trivial,by simp[f1],by simp[f3],by simp[f4],by simp[f5],by simp[f16],by simp[fn],by simp[fi],by simp;omega,by simp[k1,k2,k3,t4,hX],?_⟩
    refine⟨by simp[p0,e4,e11,hG],by simp[p4,e0,e7,hW],by simp[p2,e2,e9,hN],by simp[p3,e3,e10,hL],by simp[p5,e5,e12,hS],by simp[p6,e6,e13,hB],by simp;omega,?_,_,_,by simp<;>rfl,hput⟩
    (repeat (first|exact hkp|(refine aB.trans ?_ (aB.new _ _))|(refine aB.set ?_ (by omega) _)))
  clear f1 f3 f4 f5 f16 fi fn hXl hX hI fr s2
  rintro fr s2 ⟨f1,f3,f4,f5,f16,fn,fi,hXl,hX,hI⟩
  have hρ':∀ w,((jJ ρ xa j) w).length≤10001:=fun w=>by
   have h1:=hρ xa
   have h2:=hρ w
   unfold jJ
   split
   ·rw[List.length_append,List.length_singleton];omega
   ·omega
  refine aIC (fun f T=>f 1=.pt p 0∧f 3=.pt (p+4) 0∧f 4=i j∧f 5=.pt X 0∧f 16=.sl 0 g.es.length (eds g.es)∧f 17=i g.es.length∧f 18=i j∧X<T.next∧T.H X=.box 56 3 [u id,u xa,u xb]∧AtI g p st (jJ (jJ ρ xa j) xb j) T) ?_ ?_
  ·obtain⟨hG,hW,hN,hL,hS,hB,hnx,hkp,ea,tk,hA,hR⟩:=hI
   have hget:=hR.get xb
   have k1:¬X=s2.next:=by omega
   have k2:¬X=s2.next+1:=by omega
   have k3:¬X=p+1:=by omega
   have e0:¬p+4=s2.next:=by omega
   have e1:¬p+1=s2.next:=by omega
   have e2:¬p+2=s2.next:=by omega
   have e3:¬p+3=s2.next:=by omega
   have e4:¬p=s2.next:=by omega
   have e5:¬p+5=s2.next:=by omega
   have e6:¬p+6=s2.next:=by omega
   have e7:¬p+4=s2.next+1:=by omega
   have e8:¬p+1=s2.next+1:=by omega
   have e9:¬p+2=s2.next+1:=by omega
   have e10:¬p+3=s2.next+1:=by omega
   have e11:¬p=s2.next+1:=by omega
   have e12:¬p+5=s2.next+1:=by omega
   have e13:¬p+6=s2.next+1:=by omega
   have e14:¬s2.next+1=p+1:=by omega
   have e15:¬s2.next=p:=by omega
   have tkl:∀ w,(jJ ρ xa j) w≠[]→¬tk w=s2.next∧¬tk w=s2.next+1∧¬tk w=p+1:=fun w hw=>by have:=(hR.own w hw).2;omega
   by_cases hr:(jJ ρ xa j) xb=[]
   ·rw[if_pos hr]at hget
    (refine w_s [] [X,p+4,p+1] [(0,true),(1,true),(2,true),(3,true),(4,true),(5,true),(6,true),(7,true),(8,true),(9,true),(10,true),(11,true),(12,true),(13,true),(14,true),(15,true),(16,false)] ?_;intro J hJ;simp[f3,f4,f5,hX,hW,hA,hget,k1,k2,k3,e0,e1,e4,e7,e8,e14,e15];(repeat refine ca ?_);(refine hJ _ _ ?_;clear hJ J;simp only[ak,reduceIte]))
    have hput:=hR.put xb j (t:=s2.next+1) (n:=1) (st':=(((s2.new (.own 3 1 1)).new (.own 3 1 1)).set (p+1) (.map false [.u32] (aS ea [xb] (.sl (s2.next+1) 1 [i (j:Int)]))))) (by rw[hr];rfl) ⟨by omega,by simp,by omega,by omega⟩ (by simp[e14,e15]) (fun w hw h0=>by obtain⟨t1,t2,t3⟩:=tkl w h0;simp[t1,t2,t3]) (by simp;omega)
    rw[hr]at hput
    refine⟨by trivial,by simp[f1],by simp[f3],by simp[f4],by simp[f5],by simp[f16],by simp[fn],by simp[fi],by simp;omega,by simp[k1,k2,k3,hX],?_⟩
    refine⟨by simp[e4,e11,hG],by simp[e0,e7,hW],by simp[e2,e9,hN],by simp[e3,e10,hL],by simp[e5,e12,hS],by simp[e6,e13,hB],by simp;omega,?_,_,_,by simp<;>rfl,hput⟩
    (repeat (first|exact hkp|(refine aB.trans ?_ (aB.new _ _))|(refine aB.set ?_ (by omega) _)))
   ·rw[if_neg hr]at hget
    obtain⟨hO,t0,tl,tu⟩:=hR.own xb hr
    obtain⟨t1,t2,t3⟩:=tkl xb hr
    have t4:¬X=tk xb:=fun e=>by rw[← e,hX]at hO;cases hO
    have hrl:(isN ((jJ ρ xa j) xb)).length=((jJ ρ xa j) xb).length:=gW _
    have hrb:((jJ ρ xa j) xb).length≤10001:=hρ' _
    have p0:¬p=tk xb:=by omega
    have p1:¬p+1=tk xb:=by omega
    have p2:¬p+2=tk xb:=by omega
    have p3:¬p+3=tk xb:=by omega
    have p4:¬p+4=tk xb:=by omega
    have p5:¬p+5=tk xb:=by omega
    have p6:¬p+6=tk xb:=by omega
    (refine w_s [] [X,p+4,p+1] [(0,true),(1,true),(2,true),(3,true),(4,true),(5,true),(6,true),(7,true),(8,true),(9,true),(10,true),(11,true),(12,true),(13,true),(14,true),(15,true),(16,false)] ?_;intro J hJ;simp[f3,f4,f5,hX,hW,hA,hget,hO,hrl,t0,t1,t4,p1,p4,k1,k2,k3,e0,e1,e4,e7,e8,e14,e15];(repeat refine ca ?_);(refine hJ _ _ ?_;clear hJ J;simp only[ak,reduceIte]))
    have hput:=hR.put xb j (t:=s2.next+1) (n:=((jJ ρ xa j) xb).length+1) (st':=((((s2.new (.own 3 1 1)).set (tk xb) .dead).new (.own 3 1 (((jJ ρ xa j) xb).length+1))).set (p+1) (.map false [.u32] (aS ea [xb] (.sl (s2.next+1) (((jJ ρ xa j) xb).length+1) (isN ((jJ ρ xa j) xb)++[i (j:Int)]))))) ) rfl ⟨by omega,by simp,by omega,by omega⟩ (by simp[e14,e15]) (fun w hw h0=>by obtain⟨u1,u2,u3⟩:=tkl w h0;have u4:¬tk w=tk xb:=fun e=>hw (hR.inj w xb h0 hr e);simp[u1,u2,u3,u4]) (by simp;omega)
    refine⟨by trivial,by simp[f1],by simp[f3],by simp[f4],by simp[f5],by simp[f16],by simp[fn],by simp[fi],by simp;omega,by simp[k1,k2,k3,t4,hX],?_⟩
    refine⟨by simp[p0,e4,e11,hG],by simp[p4,e0,e7,hW],by simp[p2,e2,e9,hN],by simp[p3,e3,e10,hL],by simp[p5,e5,e12,hS],by simp[p6,e6,e13,hB],by simp;omega,?_,_,_,by simp<;>rfl,hput⟩
    (repeat (first|exact hkp|(refine aB.trans ?_ (aB.new _ _))|(refine aB.set ?_ (by omega) _)))
  rintro fr s3 ⟨f1,f3,f4,f5,f16,fn,fi,hXl,hX,hI⟩
  simp only[ak]
  exact hJO _ _ (by simp[fi]) (by simp[fn]) ⟨f1,f3,f16,hI⟩
 ·clear x1 x2 x3 x4 x5 x6
  rintro fr s1 ⟨f1,f3,f16,hI⟩
  have hI':=hI
  obtain⟨hG,hW,hN,hL,hSt,hB,hnx,hkp,ea,tk,hA,hR⟩:=hI'
  have hget:∀ v,aR ea [v]=if atP g.es v=[]then none else some (.sl (tk v) (atP g.es v).length (isN (atP g.es v))):=hR.get
  have hb0:nZ g (p+1) (p+4) (p+1) (p+2) (p+3) tk ⟨[],[],[],[]⟩ s1:=by
   refine⟨⟨p+5,p+6,[],ea,hW,⟨hA,hget⟩,hN,hL,⟨hSt,rfl⟩,hB,⟨by omega,by omega,by omega⟩,by omega,by omega,by omega,by omega⟩,⟨by omega,by omega,by omega,by omega⟩,by omega,by omega,by omega,by omega⟩
  have hall0:aFa g ⟨[],[],[],[]⟩:=⟨rfl,.nil,fun w hw=>(by cases hw),fun w hw=>(by cases hw),rfl,fun i=>by simp,by simp,fun B hB=>(by cases hB)⟩
  clear hW hN hL hSt hB hA hR hI
  (repeat' (first|refine qS ?_|refine qB ?_|(refine w_e [] ?_;intro J hJ;simp only[];simp[f1,hG];(refine hJ _ _ ?_;clear hJ J;simp only[ak,reduceIte]))))
  refine aP 59 58 60 73 (g.vs.length) (fun j fr st2=>fr 1=.pt p 0∧fr 3=.pt (p+4) 0∧fr 57=.sl 0 g.vs.length (us g.vs)∧KbB (p+1) s1 st2∧∃ sB,nW g.es g.vs.length (g.vs.take j) ⟨[],[],[],[]⟩=some sB∧aFa g sB∧nZ g (p+1) (p+4) (p+1) (p+2) (p+3) tk sB st2) ?_ ?_ ?_
  ·exact⟨by simp[f1],by simp[f3],by simp,KbB.refl _ _,_,rfl,hall0,hb0⟩
  ·clear f1 f3 f16 hb0 hall0 fr
   rintro j fr s2 hlt ⟨f1,f3,f57,hkb,sB,hsB,hall,hbw⟩ fi fn JO hJO
   have hd:=qG g.vs j hlt
   have hvm:g.vs.getD j 0∈g.vs:=by rw[aX _ _ hlt];exact List.getElem_mem _
   have htk:g.vs.take (j+1)=g.vs.take j++[g.vs.getD j 0]:=by rw[List.take_succ_eq_append_getElem hlt,aX _ _ hlt]
   rw[htk,vR,hsB]at hJO
   simp only[Option.bind_some]at hJO
   generalize g.vs.getD j 0=v at *
   have hm:=aFp sB.vis v
   have hsz:=hall.sz
   obtain⟨s3,e3,hall3,_,_⟩:=aAO hg g.vs.length (Nat.le_refl _) [v] sB (fun w hw=>by rw[List.mem_singleton]at hw;rw[hw];exact hvm) hall
   rw[e3]at hJO
   have hbw':=hbw
   obtain⟨⟨tS,tB,CS,ea2,jW,-,jN,-,-,-,-,-⟩,-,-⟩:=hbw'
   by_cases hin:v∈sB.vis
   ·rw[if_pos hin]at hm
    have e4:s3=sB:=by
     unfold nW at e3
     rw[if_pos hin]at e3
     exact(Option.some.inj e3).symm
    have hz1:1≤nmW sB.vis v:=by unfold nmW;rw[if_pos hin];omega
    generalize nmW sB.vis v=z at *
    have hzb:(z==0)=false:=by rw[beq_eq_false_iff_ne];omega
    have hz0:¬z=0:=by omega
    (repeat' (first|refine qS ?_|(refine qK ?_;simp only[ak,reduceIte])|(refine qC ?_;simp[f3,f57,fi,fn,hd,hlt,jW,jN,hm,hzb,hz0])|(refine w_e [] ?_;intro J hJ;simp only[];simp[f3,f57,fi,fn,hd,hlt,jW,jN,hm,hzb,hz0];(refine hJ _ _ ?_;clear hJ J;simp only[ak,reduceIte]))))
    exact hJO _ _ (by simp[fi]) (by simp[fn]) ⟨by simp[f1],by simp[f3],by simp[f57],hkb,s3,rfl,hall3,by rw[e4];exact hbw⟩
   ·rw[if_neg hin]at hm
    have hpre:tU g (fun _=>False) sB v (-1):=⟨hall.ln,hall.nd,fun a ha=>ha.elim,fun w hw _=>hall.fin w hw,hin,fun a b ha=>ha.elim,.inl ⟨rfl,fun a ha=>ha⟩⟩
    (repeat' (first|refine qS ?_|(refine qC ?_;simp[f3,f57,fi,fn,hd,hlt,jW,jN,hm])|(refine w_e [] ?_;intro J hJ;simp only[];simp[f3,f57,fi,fn,hd,hlt,jW,jN,hm];(try (refine hJ _ _ ?_;clear hJ J;simp only[ak,reduceIte])))))
    refine qE (aOg g hg (p+1) (p+4) (p+1) (p+2) (p+3) tk hv he g.vs.length _ sB v (-1) _ hpre hvm hall.sub (by omega) hsz hbw) (by simp) ?_;rintro r s4 ⟨s5,h5,hb5,hk5⟩
    have e5:s3=s5:=by
     unfold nW at e3
     rw[if_neg hin,h5]at e3
     exact(Option.some.inj e3).symm
    (repeat' (refine aL ?_;simp[];(refine hJ _ _ ?_;clear hJ J;simp only[ak,reduceIte])))
    exact hJO _ _ (by simp[fi]) (by simp[fn]) ⟨by simp[f1],by simp[f3],by simp[f57],hkb.trans hk5,s3,rfl,hall3,by rw[e5];exact hb5⟩
  ·clear f1 f3 f16 hb0 hall0 fr
   rintro fr s2 ⟨f1,f3,f57,hkb,sB,hsB,hall,hbw⟩
   rw[List.take_length,hS]at hsB
   obtain rfl:=Option.some.inj hsB
   have hsz:=hall.sz
   obtain⟨_,sb⟩:=xT hv he hall.nd hall.sub
   obtain⟨⟨tS,tB,CS,ea2,jW,-,jN,-,-,jB,-,b1,b2,b3,b4⟩,-,d1,-⟩:=hbw
   (repeat' (first|refine qS ?_|(refine w_e [] ?_;intro J hJ;simp only[];simp[f3,jW])))
   refine qE (aPn hids S.out hSa hSb hSn tB _ (by have:=hsz.2;have:=aMo hSa hSb hSn;omega) b4 jB) (by simp) ?_;rintro r s4 ⟨h1,h2,h3⟩
   have hW4:=(h3.2 (p+4) (bB jW jB (by simp)) d1).trans jW
   have hle:=h2.length_eq
   (repeat' (first|refine qS ?_|(refine qR ?_;simp only[ak,reduceIte];simp[f3,hW4])|((first|(refine w_e [] ?_;intro J hJ;simp only[])|(refine aL ?_));simp[f3,hW4];(refine hJ _ _ ?_;clear hJ J;simp only[ak,reduceIte]))))
   refine⟨tB,by simp[hle],h1,by omega,Nat.lt_of_lt_of_le b4 h3.1,?_⟩
   refine⟨Nat.le_trans hkp.next (Nat.le_trans hkb.next h3.1),fun x hx=>?_⟩
   rw[h3.2 x (by omega) (by have:=hkb.next;omega),hkb.H x (by omega),hkp.H x hx]
theorem aHe(n:Nat):∀ l:List Ed,dR n (eds l):=fun l=>by
 induction l with
 |nil=>simp only[eds,List.flatMap_nil,dR]
 |cons x l ih=>simp only[eds,List.flatMap_cons,edL,List.cons_append,List.nil_append,dR];exact⟨trivial,trivial,trivial,ih⟩
theorem aLl(n:Nat)(es:List Ed):∀ out:List (List Nat),dR n (bkL es out):=fun out=>by
 induction out with
 |nil=>simp only[bkL,List.map_nil,dR]
 |cons B out ih=>simp only[bkL,List.map_cons,dR];exact⟨⟨.inl rfl,aHe _ _⟩,ih⟩
theorem aMY(g:Gr)(hg:GoodE g)(st:St)(hv:g.vs.length≤100)(he:g.es.length≤10):
 aF Tryz.prog 43 [.ag (grL g)] st fun r st'=>r=.sl 0 (iM g.es).length (bkL g.es (iM g.es))∧st'=st:=by
 refine qT (Q:=fun r=>r=.sl 0 (iM g.es).length (bkL g.es (iM g.es))) (bV ((aLi g hg st hv he).mono ?_)) fun r h=>by subst h;exact⟨.inl rfl,aLl _ _ _⟩
 rintro r s ⟨q,rfl,hH,hq,hq2,hk⟩
 have hl:=vC g.es (iM g.es)
 exact⟨q,_,_,_,_,rfl,hH,by rw[hl,Nat.mul_one];exact Nat.le_refl _,by rw[List.take_of_length_le (by rw[hl,Nat.mul_one];exact Nat.le_refl _)],hk.set hq _⟩
end Go.Proofs.YtempldclppogmaaGreatDoor.Aw
namespace Go.Proofs.YtempldclppogmaaGreatDoor.Aw
open Go Go.RowKit Go.Proofs.YtempldclppogmaaGreatDoor.Pl
def aFk:Option Mp→LV
 |none=>.tu [.ag [.sl 0 0 [],.sl 0 0 [],.sl 0 0 []],bb false]
 |some m=>.tu [.ag (mpL m),bb true]
noncomputable def bW(g:Gr):List (List Ed):=(iM (sE g.es)).map fun B=>B.map (eAt (sE g.es))
def oH(l:List (List Ed)):List LV:=l.map fun l=>.sl 0 l.length (eds l)
theorem aEK(l:List Ed):(sE l).Sublist l:=by
 induction l using aCN with
 |h0=>exact List.Sublist.refl _
 |h1 l x ih=>
  rw[kU]
  split
  ·exact ih.trans (List.sublist_append_left _ _)
  ·exact ih.append (List.Sublist.refl _)
theorem GoodE.simple{g:Gr}(h:GoodE g):GoodE ⟨g.vs,sE g.es⟩:=
 ⟨⟨h.rise,fun x hx=>h.ends x (yW _ x hx)⟩,h.ids.sublist (aEK _),fun x hx=>h.pos x (yW _ x hx),fun x hx=>h.ne x (yW _ x hx)⟩
theorem aGs(g:Gr):(bW g).length≤(sE g.es).length:=by
 unfold bW iM
 rw[List.length_map,List.length_map]
 exact Nat.le_trans (List.length_filter_le _ _) (by rw[List.length_range];exact Nat.le_refl _)
theorem aIb{g:Gr}(hg:GoodE g){B:List Nat}(hB:B∈iM g.es):gQ g.es B:=by
 unfold iM at hB
 obtain⟨i,hi,rfl⟩:=List.mem_map.1 hB
 rw[List.mem_filter,List.mem_range]at hi
 obtain⟨s,_,_,h2,_,h3⟩:=rG hg
 obtain⟨B,hB,hiB⟩:=List.mem_flatten.1 ((h2 i).2 hi.1)
 rw[← (h3 B hB).cls hiB]
 exact h3 B hB
theorem aIw{g:Gr}(hg:GoodE g){l:List Ed}(hl:l∈bW g):DrE l∧∀ e∈l,e∈g.es:=by
 unfold bW at hl
 obtain⟨B,hB,rfl⟩:=List.mem_map.1 hl
 have hg2:=hg.simple
 have hB:gQ (sE g.es) B:=aIb hg2 hB
 have hin:∀ e∈B.map (eAt (sE g.es)),e∈sE g.es:=fun e he=>by
  obtain⟨i,hi,rfl⟩:=List.mem_map.1 he
  have e:eAt (sE g.es) i=(sE g.es)[i]'(hB.lt i hi):=cC _ _ (hB.lt i hi)
  rw[e]
  exact List.getElem_mem _
 refine⟨⟨?_,fun x hx=>hg2.pos x (hin x hx),fun x hx=>hg2.ne x (hin x hx)⟩,fun e he=>yW _ e (hin e he)⟩
 rw[List.pairwise_map]
 refine hB.rise.imp_of_mem fun {i j} hi hj hij=>?_
 have e:∀ k,(hk:k∈B)→eAt (sE g.es) k=(sE g.es)[k]'(hB.lt k hk):=fun k hk=>cC _ _ (hB.lt k hk)
 rw[e i hi,e j hj]
 exact List.pairwise_iff_getElem.1 hg2.ids i j (hB.lt i hi) (hB.lt j hj) hij
theorem z0m(R:List (List Int)):z0L (R.map fun r=>LV.sl 0 r.length (us r))=R.map fun r=>LV.sl 0 r.length (us r):=by
 induction R with
 |nil=>rfl
 |cons r R ih=>simp only[List.map_cons,z0L,z0,iO];rw[ih]
theorem aEG(l:List (List Ed))(j:Nat)(h:j<l.length):(oH l).drop j=.sl 0 (l.getD j []).length (eds (l.getD j []))::oH (l.drop (j+1)):=by
 unfold oH
 rw[← List.map_drop,List.drop_eq_getElem_cons h,List.getD_eq_getElem?_getD,List.getElem?_eq_getElem h];rfl
theorem aDk(x:Int):∀ l,(sL x l).length≤l.length+1
 |[]=>by simp[sL]
 |y::l=>by
  have:=aDk x l
  unfold sL
  split
  ·simp
  ·split
   ·simp;omega
   ·simp
theorem aCz:∀ l,(mR l).length≤l.length
 |[]=>by simp[mR]
 |x::l=>by
  have h:=aCz l
  have h2:=aDk x (mR l)
  unfold mR at h h2 ⊢
  rw[List.foldr_cons,List.length_cons];omega
theorem aMP(l:List Ed):(List.map (fun _:Ed=>3) l).sum=l.length*3:=by
 induction l with
 |nil=>rfl
 |cons x l ih=>simp only[List.map_cons,List.sum_cons,List.length_cons,ih];omega
def TI(M1 M2 a:Nat)(s3 s8:St)(T:TL)(st:St):Prop:=aB s3 st∧s8.next≤st.next∧(∀ l,a≤l→l<s8.next→st.H l=s8.H l)∧∃ A,tP false [.u32] 34 1 A M2 M2 st∧qQ T A∧∀ x∈A,x.2.1<a∨s8.next≤x.2.1
set_option maxHeartbeats 8000000 in
theorem aEy(g:Gr)(hv:g.vs.length≤1000)(he:g.es.length≤10){o:Option Mp}(ho:(if chk g=0 then mU g (bW g)else some none)=some o)(st:St):
 aF Tryz.prog 17 [.ag (grL g)] st fun r st'=>r=aFk o∧aB st st':=by
 refine bR ?_
 have hel:=aO g.es
 refine qO aK Tryz.func17 rfl rfl Tryz.ntmps17 (rs:=[.cell 2 39,.tmp 3]) rfl (by simp) ?_
 refine dL fun hpos=>?_
 (repeat' (first|refine qS ?_|(refine w_e [] ?_;intro J hJ;simp only[];simp[];(try (refine hJ _ _ ?_;clear hJ J;simp only[ak,reduceIte])))))
 refine qE (Check g _ hv (by omega)) (by simp) ?_;rintro r s1 ⟨rfl,hk1⟩
 have hn1:=hk1.next
 simp only[aA]at hn1
 have hG1:s1.H st.next=.box 25 2 (grL g):=by rw[hk1.H _ (by simp;omega)];simp
 have hO1:s1.H (st.next+1)=.box 39 3 [.nil,.nil,.nil]:=by rw[hk1.H _ (by simp)];simp
 have hK1:aB st s1:=((aB.new _ _).trans (aB.new _ _)).trans hk1
 by_cases hc:chk g=0
 case neg=>
  rw[if_neg hc]at ho
  obtain rfl:none=o:=Option.some.inj ho
  have hc2:(chk g != 0)=true:=by simpa using hc
  (repeat' (first|refine qS ?_|(refine qR ?_;simp only[ak,reduceIte];simp[hc2,hO1])|(refine qC ?_;simp[hc2,hO1])|((first|(refine w_e [] ?_;intro J hJ;simp only[])|(refine aL ?_));simp[hc2,hO1];(refine hJ _ _ ?_;clear hJ J;simp only[ak,reduceIte]))))
  exact⟨by simp[aFk,z0,z0L],hK1.set (by omega) _⟩
 rw[if_pos hc]at ho
 have hgE:=eD hc
 have hg2:=hgE.simple
 have hc2:(chk g != 0)=false:=by simpa using hc
 have e1:¬st.next=s1.next:=by omega
 (repeat' (first|refine qS ?_|refine qB ?_|(refine qK ?_;simp only[ak,reduceIte])|(refine qC ?_;simp[hc2,hG1,e1])|((first|(refine w_e [] ?_;intro J hJ;simp only[])|(refine aL ?_));simp[hc2,hG1,e1];(refine hJ _ _ ?_;clear hJ J;simp only[ak,reduceIte]))))
 refine aP 27 26 28 47 (g.es.length) (fun j fr st2=>fr 1=.pt st.next 0∧fr 2=.pt (st.next+1) 0∧fr 4=.mp s1.next∧fr 25=.sl 0 g.es.length (eds g.es)∧aB s1 st2∧∃ A,tP true [.u32,.u32] 56 3 A s1.next s1.next st2∧aAX (g.es.take j) A) ?_ ?_ ?_
 ·exact⟨by simp,by simp,by simp,by simp,aB.new _ _,[],⟨by simp[rmL],by simp,by simp,by simp,by simp⟩,⟨by simp,by simp⟩⟩
 ·rintro j fr s hlt ⟨f1,f2,f4,f25,hk,A,hA,hB⟩ fi fn JO hJO
  have hd:=bE g.es j hlt
  have hk3:j*3<g.es.length*3:=by omega
  have htk:g.es.take (j+1)=g.es.take j++[g.es.getD j ed0]:=by rw[cC _ _ hlt];exact List.take_succ_eq_append_getElem hlt
  have hget:=hB.get hA.nd (prE (g.es.getD j ed0))
  have hadd:=hB.add hA.nd (g.es.getD j ed0)
  rw[← htk]at hadd
  have hEl:(g.es.take j).length≤200:=by rw[List.length_take];omega
  generalize g.es.take j=E at *
  generalize g.es.take (j+1)=E' at *
  generalize g.es.getD j ed0=x at *
  obtain⟨d,a,b⟩:=x
  have hbl:(gJ E (prP a b)).length≤200:=Nat.le_trans (List.length_filter_le _ _) hEl
  simp only[prE,prP,pk]at hget hadd hbl hd
  have hM:=hA.map
  have hMl:=oZ [min a b,max a b] A
  have c0:¬s1.next=s.next:=by have:=hA.mlt;omega
  (repeat' (first|refine qS ?_|(refine w_e [] ?_;intro J hJ;simp only[];simp[f25,fi,fn,hlt,hd,hel,hk3];(refine hJ _ _ ?_;clear hJ J;simp only[ak,reduceIte]))))
  refine wA (fun f s'=>f 1=.pt st.next 0∧f 2=.pt (st.next+1) 0∧f 4=.mp s1.next∧f 25=.sl 0 g.es.length (eds g.es)∧f 26=i g.es.length∧f 27=i j∧aB s1 s'∧∃ A,tP true [.u32,.u32] 56 3 A s1.next s1.next s'∧aAX E' A) ?_ ?_
  rotate_left
  ·rintro fr s' ⟨f1,f2,f4,f25,fn,fi,hk',hA'⟩
   exact hJO _ _ fi fn ⟨by simp[f1],by simp[f2],by simp[f4],by simp[f25],hk',hA'⟩
  have hx0:¬s.next=s1.next:=fun e=>c0 e.symm
  have x1:¬s1.next=s.next+1:=by have:=hA.mlt;omega
  have x2:¬s.next+1=s1.next:=fun e=>x1 e.symm
  have x3:¬s1.next=s.next+1+1:=by have:=hA.mlt;omega
  have x4:¬s.next+1+1=s1.next:=fun e=>x3 e.symm
  rcases hget with⟨hnil,hgn⟩|⟨t,hgs⟩
  ·rw[hgn]at hMl
   simp only[Option.map_none]at hMl
   have hadd:=hadd (s.next+1+1)
   rw[hnil]at hadd
   simp only[eds,List.flatMap_nil,List.nil_append,List.length_nil,Nat.zero_add]at hadd
   have hfin:∀ f:Frm,f 1=.pt st.next 0→f 2=.pt (st.next+1) 0→f 4=.mp s1.next→f 25=.sl 0 g.es.length (eds g.es)→f 26=i g.es.length→f 27=i j→(f 1=.pt st.next 0∧f 2=.pt (st.next+1) 0∧f 4=.mp s1.next∧f 25=.sl 0 g.es.length (eds g.es)∧f 26=i g.es.length∧f 27=i j∧aB s1 ((((s.new (.box 56 3 [u d,u a,u b])).new (.own 56 3 1)).new (.own 56 3 1)).set s1.next (.map true [.u32,.u32] (aS (rmL A) [min a b,max a b] (.sl (s.next+1+1) 1 [u d,u a,u b]))))∧∃ A',tP true [.u32,.u32] 56 3 A' s1.next s1.next ((((s.new (.box 56 3 [u d,u a,u b])).new (.own 56 3 1)).new (.own 56 3 1)).set s1.next (.map true [.u32,.u32] (aS (rmL A) [min a b,max a b] (.sl (s.next+1+1) 1 [u d,u a,u b]))))∧aAX E' A'):=fun f q1 q2 q3 q4 q5 q6=>
    ⟨q1,q2,q3,q4,q5,q6,(((hk.trans (aB.new _ _)).trans (aB.new _ _)).trans (aB.new _ _)).set (Nat.le_refl _) _,_,hA.put (k:=[min a b,max a b]) (t:=s.next+1+1) (n:=1) (c:=[u d,u a,u b]) ⟨by omega,by simp⟩ (by simp;omega) hk.next (by omega) (by simp[rmV]) (by simp[x4]) (fun l hl hlm _=>by simp[show ¬l=s.next by omega,show ¬l=s.next+1 by omega,show ¬l=s.next+1+1 by omega,hlm]),hadd⟩
   refine w_a [] [s1.next,s.next] ?_;intro J hJ
   refine iH 6 [(0,true),(1,true),(2,true),(3,true),(4,true),(6,true),(7,true),(8,true),(9,true),(10,true),(13,true)] ?_
   simp[f4,c0,hx0,hM,hMl,x1,x2,x3,x4]
   refine oN 5 (5,true) (14,true) ?_ ?_
   ·simp[f4,c0,hx0,hM,hMl,x1,x2,x3,x4]
    refine qD (pair a b _) (by simp) ?_;rintro r s5 ⟨rfl,e5⟩
    rw[e5];clear e5 s5
    refine⟨fun h=>by first|(cases h;done)|exact fun _ _=>rfl|simp[f4,c0,hx0,hM,hMl,x1,x2,x3,x4],?_⟩
    refine oN 4 (11,true) (14,true) ?_ ?_
    ·simp[f4,c0,hx0,hM,hMl,x1,x2,x3,x4]
     refine qD (pair a b _) (by simp) ?_;rintro r s5 ⟨rfl,e5⟩
     rw[e5];clear e5 s5
     refine⟨fun h=>by first|(cases h;done)|exact fun _ _=>rfl|simp[f4,c0,hx0,hM,hMl,x1,x2,x3,x4],?_⟩
     refine iH 0 [(12,true),(14,true),(15,true),(16,false)] ?_
     simp[f4,c0,hx0,hM,hMl,x1,x2,x3,x4]
     refine⟨by unfold maxLen;omega,cY (hJ _ _ ?_)⟩
     simp only[ak]
     refine⟨trivial,hfin _ ?_ ?_ ?_ ?_ ?_ ?_⟩<;>simp[f1,f2,f4,f25,fn,fi]
    ·simp[f4,c0,hx0,hM,hMl,x1,x2,x3,x4]
     refine iH 0 [(11,true),(12,true),(15,true),(16,false)] ?_
     simp[f4,c0,hx0,hM,hMl,x1,x2,x3,x4]
     refine qD (pair a b _) (by simp) ?_;rintro r s5 ⟨rfl,e5⟩
     rw[e5];clear e5 s5
     refine⟨fun h=>by first|(cases h;done)|exact fun _ _=>rfl|simp[f4,c0,hx0,hM,hMl,x1,x2,x3,x4],?_⟩
     simp[f4,c0,hx0,hM,hMl,x1,x2,x3,x4]
     refine⟨by unfold maxLen;omega,cY (hJ _ _ ?_)⟩
     simp only[ak]
     refine⟨trivial,hfin _ ?_ ?_ ?_ ?_ ?_ ?_⟩<;>simp[f1,f2,f4,f25,fn,fi]
   ·simp[f4,c0,hx0,hM,hMl,x1,x2,x3,x4]
    refine iH 0 [(5,true),(11,true),(12,true),(15,true),(16,false)] ?_
    simp[f4,c0,hx0,hM,hMl,x1,x2,x3,x4]
    refine qD (pair a b _) (by simp) ?_;rintro r s5 ⟨rfl,e5⟩
    rw[e5];clear e5 s5
    refine⟨fun h=>by first|(cases h;done)|exact fun _ _=>rfl|simp[f4,c0,hx0,hM,hMl,x1,x2,x3,x4],?_⟩
    simp[f4,c0,hx0,hM,hMl,x1,x2,x3,x4]
    refine qD (pair a b _) (by simp) ?_;rintro r s5 ⟨rfl,e5⟩
    rw[e5];clear e5 s5
    refine⟨fun h=>by first|(cases h;done)|exact fun _ _=>rfl|simp[f4,c0,hx0,hM,hMl,x1,x2,x3,x4],?_⟩
    simp[f4,c0,hx0,hM,hMl,x1,x2,x3,x4]
    refine⟨by unfold maxLen;omega,cY (hJ _ _ ?_)⟩
    simp only[ak]
    refine⟨trivial,hfin _ ?_ ?_ ?_ ?_ ?_ ?_⟩<;>simp[f1,f2,f4,f25,fn,fi]
  ·rw[hgs]at hMl
   simp only[Option.map_some]at hMl
   unfold rmV at hMl
   simp only at hMl
   obtain⟨k1,k2,k3,k4⟩:=hA.tok _ (jP hgs)
   simp only at k1 k2 k3 k4
   have y1:¬t=s.next:=by omega
   have y2:¬t=s.next+1:=by omega
   have y3:¬s.next=t:=by omega
   have y4:¬s.next+1=t:=by omega
   have y5:¬s1.next=t:=fun e=>by rw[← e,hM]at k4;cases k4
   have y6:¬t=s1.next:=fun e=>y5 e.symm
   have hsm:(List.map (fun _:Ed=>3) (gJ E (min a b,max a b))).sum=(gJ E (min a b,max a b)).length*3:=aMP _
   have hadd:=hadd (s.next+1+1)
   have hbe:=aO (gJ E (min a b,max a b))
   have hfin:∀ f:Frm,f 1=.pt st.next 0→f 2=.pt (st.next+1) 0→f 4=.mp s1.next→f 25=.sl 0 g.es.length (eds g.es)→f 26=i g.es.length→f 27=i j→(f 1=.pt st.next 0∧f 2=.pt (st.next+1) 0∧f 4=.mp s1.next∧f 25=.sl 0 g.es.length (eds g.es)∧f 26=i g.es.length∧f 27=i j∧aB s1 (((((s.new (.box 56 3 [u d,u a,u b])).new (.own 56 3 1)).set t .dead).new (.own 56 3 ((gJ E (min a b,max a b)).length+1))).set s1.next (.map true [.u32,.u32] (aS (rmL A) [min a b,max a b] (.sl (s.next+1+1) ((gJ E (min a b,max a b)).length+1) (eds (gJ E (min a b,max a b))++[u d,u a,u b])))))∧∃ A',tP true [.u32,.u32] 56 3 A' s1.next s1.next (((((s.new (.box 56 3 [u d,u a,u b])).new (.own 56 3 1)).set t .dead).new (.own 56 3 ((gJ E (min a b,max a b)).length+1))).set s1.next (.map true [.u32,.u32] (aS (rmL A) [min a b,max a b] (.sl (s.next+1+1) ((gJ E (min a b,max a b)).length+1) (eds (gJ E (min a b,max a b))++[u d,u a,u b])))))∧aAX E' A'):=fun f q1 q2 q3 q4 q5 q6=>
    ⟨q1,q2,q3,q4,q5,q6,((((hk.trans (aB.new _ _)).trans (aB.new _ _)).set k2 _).trans (aB.new _ _)).set (Nat.le_refl _) _,_,hA.put (k:=[min a b,max a b]) (t:=s.next+1+1) (n:=(gJ E (min a b,max a b)).length+1) (c:=eds (gJ E (min a b,max a b))++[u d,u a,u b]) ⟨by omega,by simp⟩ (by simp;omega) hk.next (by omega) (by simp[rmV]) (by simp[x4]) (fun l hl hlm hx=>by
      have:=hx _ hgs
      simp only at this
      simp[show ¬l=s.next by omega,show ¬l=s.next+1 by omega,show ¬l=s.next+1+1 by omega,hlm,this]),hadd⟩
   refine w_a [] [s1.next,s.next] ?_;intro J hJ
   refine iH 6 [(0,true),(1,true),(2,true),(3,true),(4,true),(6,true),(7,true),(8,true),(9,true),(10,true),(13,true)] ?_
   simp[f4,c0,hx0,hM,hMl,x1,x2,x3,x4,y1,y2,y3,y4,y5,y6,k4,k1,hbe,hsm]
   refine oN 5 (5,true) (14,true) ?_ ?_
   ·simp[f4,c0,hx0,hM,hMl,x1,x2,x3,x4,y1,y2,y3,y4,y5,y6,k4,k1,hbe,hsm]
    refine qD (pair a b _) (by simp) ?_;rintro r s5 ⟨rfl,e5⟩
    rw[e5];clear e5 s5
    refine⟨fun h=>by first|(cases h;done)|exact fun _ _=>rfl|simp[f4,c0,hx0,hM,hMl,x1,x2,x3,x4,y1,y2,y3,y4,y5,y6,k4,k1,hbe,hsm],?_⟩
    refine oN 4 (11,true) (14,true) ?_ ?_
    ·simp[f4,c0,hx0,hM,hMl,x1,x2,x3,x4,y1,y2,y3,y4,y5,y6,k4,k1,hbe,hsm]
     refine qD (pair a b _) (by simp) ?_;rintro r s5 ⟨rfl,e5⟩
     rw[e5];clear e5 s5
     refine⟨fun h=>by first|(cases h;done)|exact fun _ _=>rfl|simp[f4,c0,hx0,hM,hMl,x1,x2,x3,x4,y1,y2,y3,y4,y5,y6,k4,k1,hbe,hsm],?_⟩
     refine iH 0 [(12,true),(14,true),(15,true),(16,false)] ?_
     simp[f4,c0,hx0,hM,hMl,x1,x2,x3,x4,y1,y2,y3,y4,y5,y6,k4,k1,hbe,hsm]
     refine⟨by unfold maxLen;omega,cY (hJ _ _ ?_)⟩
     simp only[ak]
     refine⟨trivial,hfin _ ?_ ?_ ?_ ?_ ?_ ?_⟩<;>simp[f1,f2,f4,f25,fn,fi]
    ·simp[f4,c0,hx0,hM,hMl,x1,x2,x3,x4,y1,y2,y3,y4,y5,y6,k4,k1,hbe,hsm]
     refine iH 0 [(11,true),(12,true),(15,true),(16,false)] ?_
     simp[f4,c0,hx0,hM,hMl,x1,x2,x3,x4,y1,y2,y3,y4,y5,y6,k4,k1,hbe,hsm]
     refine qD (pair a b _) (by simp) ?_;rintro r s5 ⟨rfl,e5⟩
     rw[e5];clear e5 s5
     refine⟨fun h=>by first|(cases h;done)|exact fun _ _=>rfl|simp[f4,c0,hx0,hM,hMl,x1,x2,x3,x4,y1,y2,y3,y4,y5,y6,k4,k1,hbe,hsm],?_⟩
     simp[f4,c0,hx0,hM,hMl,x1,x2,x3,x4,y1,y2,y3,y4,y5,y6,k4,k1,hbe,hsm]
     refine⟨by unfold maxLen;omega,cY (hJ _ _ ?_)⟩
     simp only[ak]
     refine⟨trivial,hfin _ ?_ ?_ ?_ ?_ ?_ ?_⟩<;>simp[f1,f2,f4,f25,fn,fi]
   ·simp[f4,c0,hx0,hM,hMl,x1,x2,x3,x4,y1,y2,y3,y4,y5,y6,k4,k1,hbe,hsm]
    refine iH 0 [(5,true),(11,true),(12,true),(15,true),(16,false)] ?_
    simp[f4,c0,hx0,hM,hMl,x1,x2,x3,x4,y1,y2,y3,y4,y5,y6,k4,k1,hbe,hsm]
    refine qD (pair a b _) (by simp) ?_;rintro r s5 ⟨rfl,e5⟩
    rw[e5];clear e5 s5
    refine⟨fun h=>by first|(cases h;done)|exact fun _ _=>rfl|simp[f4,c0,hx0,hM,hMl,x1,x2,x3,x4,y1,y2,y3,y4,y5,y6,k4,k1,hbe,hsm],?_⟩
    simp[f4,c0,hx0,hM,hMl,x1,x2,x3,x4,y1,y2,y3,y4,y5,y6,k4,k1,hbe,hsm]
    refine qD (pair a b _) (by simp) ?_;rintro r s5 ⟨rfl,e5⟩
    rw[e5];clear e5 s5
    refine⟨fun h=>by first|(cases h;done)|exact fun _ _=>rfl|simp[f4,c0,hx0,hM,hMl,x1,x2,x3,x4,y1,y2,y3,y4,y5,y6,k4,k1,hbe,hsm],?_⟩
    simp[f4,c0,hx0,hM,hMl,x1,x2,x3,x4,y1,y2,y3,y4,y5,y6,k4,k1,hbe,hsm]
    refine⟨by unfold maxLen;omega,cY (hJ _ _ ?_)⟩
    simp only[ak]
    refine⟨trivial,hfin _ ?_ ?_ ?_ ?_ ?_ ?_⟩<;>simp[f1,f2,f4,f25,fn,fi]
 ·rintro fr s ⟨f1,f2,f4,f25,hk,A,hA,hB⟩
  rw[List.take_length]at hB
  have hkn:=hk.next
  have hGs:s.H st.next=.box 25 2 (grL g):=(hk.H _ (by omega)).trans hG1
  have hOs:s.H (st.next+1)=.box 39 3 [.nil,.nil,.nil]:=(hk.H _ (by omega)).trans hO1
  (repeat' (first|refine qS ?_|(refine w_e [] ?_;intro J hJ;simp only[];simp[f1,hGs])))
  refine qE (aKg g s (by omega) (by omega) (by omega)) (by simp) ?_;rintro r s2 ⟨rfl,hk2⟩
  have hkn2:=hk2.next
  have hA2:=hA.keep hk2
  have hK2:=hk.trans hk2
  have hsl:=xO g.es
  have hO2:=(hk2.H _ (by omega)).trans hOs
  have hG2:=(hk2.H _ (by omega)).trans hGs
  clear hk2 hOs hGs hA hk
  (repeat' (first|refine qS ?_|((first|(refine w_e [] ?_;intro J hJ;simp only[])|(refine aL ?_));simp[];(try (refine hJ _ _ ?_;clear hJ J;simp only[ak,reduceIte])))))
  have hbk:=aGs g
  have hbl:bkL (sE g.es) (iM (sE g.es))=oH (bW g):=by simp[bkL,oH,bW]
  have hbn:(iM (sE g.es)).length=(bW g).length:=by simp[bW]
  have hblk:=aMY ⟨g.vs,sE g.es⟩ hg2 ((s2.new (.box 25 2 [.sl 0 g.vs.length (us g.vs),.sl 0 (sE g.es).length (eds (sE g.es))])).new (.map false [.u32] [])) (Nat.le_trans (xB hc).2.2.1 (by decide)) (by simp only;omega)
  simp only[]at hblk
  rw[hbl,hbn]at hblk
  refine qE hblk (by simp[grL]) ?_;rintro r s3 ⟨rfl,e3⟩
  rw[e3];clear e3 s3 hblk
  have hk3:=aB.new s2 (.box 25 2 [.sl 0 g.vs.length (us g.vs),.sl 0 (sE g.es).length (eds (sE g.es))])
  have hn3:(s2.new (.box 25 2 [.sl 0 g.vs.length (us g.vs),.sl 0 (sE g.es).length (eds (sE g.es))])).next=s2.next+1:=rfl
  rw[← hn3]
  generalize s2.new (.box 25 2 [.sl 0 g.vs.length (us g.vs),.sl 0 (sE g.es).length (eds (sE g.es))])=s3 at *
  have hA3:=hA2.keep hk3
  have hK3:=hK2.trans hk3
  have hO3:=(hk3.H _ (by omega)).trans hO2
  have hG3:=(hk3.H _ (by omega)).trans hG2
  clear hA2 hK2 hO2 hG2 hk3
  unfold mU at ho
  obtain⟨oT,hoT,ho⟩:=Option.bind_eq_some_iff.1 ho
  have hKt:=hK1.trans hK3
  (repeat' (first|refine qB ?_|(refine aL ?_;simp[];(refine hJ _ _ ?_;clear hJ J;simp only[ak,reduceIte]))))
  refine aP 57 56 58 104 ((bW g).length) (fun j fr st2=>fr 1=.pt st.next 0∧fr 2=.pt (st.next+1) 0∧fr 4=.mp s1.next∧fr 9=.mp s3.next∧fr 55=.sl 0 (bW g).length (oH (bW g))∧aB s3 st2∧∃ T A2,aLg g ((bW g).drop j) T=some oT∧tP false [.u32] 34 1 A2 s3.next s3.next st2∧qQ T A2∧lP T≤100000) ?_ ?_ ?_
  ·exact⟨by simp[f1],by simp[f2],by simp[f4],by simp,by simp,aB.new _ _,[],[],by simpa using hoT,⟨by simp[rmL],by simp,by simp,by simp,by simp⟩,rfl,by simp[lP]⟩
  ·clear f1 f2 f4 f25 hoT fr
   rintro j0 fr s4 hlt ⟨f1,f2,f4,f9,f55,hk4,T,A2,hE,hT,hR,htot⟩ fi fn JO hJO
   have hd:=aEG (bW g) j0 hlt
   have hdr:(bW g).drop j0=(bW g).getD j0 []::(bW g).drop (j0+1):=by
    rw[List.drop_eq_getElem_cons hlt,List.getD_eq_getElem?_getD,List.getElem?_eq_getElem hlt];rfl
   obtain⟨hdre,hsub⟩:=aIw hgE (l:=(bW g).getD j0 []) (by rw[List.getD_eq_getElem?_getD,List.getElem?_eq_getElem hlt];exact List.getElem_mem _)
   rw[hdr]at hE
   unfold aLg at hE
   obtain⟨oD,hD,hE⟩:=Option.bind_eq_some_iff.1 hE
   generalize (bW g).getD j0 []=l at *
   have hkn4:=hk4.next
   have hM24:=hT.mlt.2
   have hel4:(oH (bW g)).length=(bW g).length:=by simp[oH]
   (repeat' (first|refine qS ?_|(refine w_e [] ?_;intro J hJ;simp only[];simp[f55,fi,fn,hlt,hd,hel4];(try (refine hJ _ _ ?_;clear hJ J;simp only[ak,reduceIte])))))
   refine qE (aOD hdre hD s4 (by omega)) (by simp) ?_;rintro r s5 ⟨rfl,hk5⟩
   have hO5:=(hk5.H (st.next+1) (by omega)).trans ((hk4.H (st.next+1) (by omega)).trans hO3)
   have hk45:=hk4.trans hk5
   cases oD with
   |none=>
    simp only at hE
    obtain rfl:none=oT:=Option.some.inj hE
    simp only at ho
    obtain rfl:none=o:=Option.some.inj ho
    unfold drR
    (repeat' (first|refine qS ?_|(refine qR ?_;simp only[ak,reduceIte];simp[f2,hO5])|(refine qC ?_;simp[f2,hO5])|((first|(refine w_e [] ?_;intro J hJ;simp only[])|(refine aL ?_));simp[f2,hO5];(refine hJ _ _ ?_;clear hJ J;simp only[ak,reduceIte]))))
    exact⟨by simp[aFk,z0,z0L],(hKt.trans hk45).set (by omega) _⟩
   |some F=>
    simp only at hE
    split at hE
    case isFalse=>cases hE
    rename_i hok
    obtain⟨o1,o2,o3,o4,o5⟩:=hok
    unfold drR
    (repeat' (first|refine qS ?_|(refine qK ?_;simp only[ak,reduceIte])|(refine qC ?_;simp[f2,hO5])|((first|(refine w_e [] ?_;intro J hJ;simp only[])|(refine aL ?_));simp[f2,hO5];(try (refine hJ _ _ ?_;clear hJ J;simp only[ak,reduceIte])))))
    refine qE (aIK F s5 o1 o2) (by simp) ?_;rintro r s6 ⟨M,loc,rfl,hM⟩
    have hMk:=hM.kp
    have hnd:=hM.nd
    have hkeyN:=aJL (dQ F) loc
    (repeat' (first|refine qS ?_|((first|(refine w_e [] ?_;intro J hJ;simp only[])|(refine aL ?_));simp[];(try (refine hJ _ _ ?_;clear hJ J;simp only[ak,reduceIte])))))
    refine qE (aPt M _) (by simp) ?_;rintro r s7 ⟨rfl,e7⟩
    rw[e7];clear e7 s7
    have hM7:(s6.new (.box 80 1 [.mp M])).H M=.map false [.u32] (ouL (dQ F) loc):=by rw[aG,if_neg (by have:=hM.olt;omega)];exact hM.out
    (repeat' (refine aL ?_;simp[]))
    refine qE (aMB M s6.next (ouL (dQ F) loc) ((dQ F).map (·.1)) _ (by simpa[ouL]using o3) (by simp) hM7 hkeyN hnd) (by simp) ?_;rintro r s8 ⟨rfl,hk8⟩
    have hk68:=(aB.new s6 _).trans hk8
    have hn5:=hk5.next
    have hn6:=hMk.next
    have hn8:=hk68.next
    have hout:s8.H M=.map false [.u32] (ouL (dQ F) loc):=(hk68.H M hM.olt.2).trans hM.out
    have hinn:∀ a∈dQ F,s8.H (loc a.1)=.map false [.u32] (inL a.2)∧s5.next≤loc a.1∧loc a.1<s8.next:=fun a ha=>by
     obtain⟨q1,q2,q3⟩:=hM.inn a ha
     exact⟨(hk68.H _ q3).trans q1,q2.1,by omega⟩
    have hMo:s5.next≤M∧M<s8.next:=⟨hM.olt.1,by have:=hM.olt.2;omega⟩
    have hk48:=(hk5.trans hMk).trans hk68
    have hT8:=hT.keep hk48
    have hk38:=hk4.trans hk48
    have hTW:∀ a∈A2,a.2.1<s5.next∨s8.next≤a.2.1:=fun a ha=>.inl (by have:=(hT.tok a ha).2.2.1;omega)
    have hne:=aES F
    clear hM hM7 hk68 hMk hk48 hT hk8 hk5 hO5 hk45 hkeyN
    unfold aJD at hE o5
    generalize dQ F=AF at *
    have hKm:=fun x=>iL x (AF.map (·.1))
    have hKl:(mR (AF.map (·.1))).length≤1000:=Nat.le_trans (aCz _) (by rw[List.length_map];exact Nat.le_trans o3 (by decide))
    generalize mR (AF.map (·.1))=K at *
    (repeat' (first|refine qB ?_|(refine aL ?_;simp[];(refine hJ _ _ ?_;clear hJ J;simp only[ak,reduceIte]))))
    refine aP 75 74 76 103 (K.length) (fun j fr st2=>(fr 1=.pt st.next 0∧fr 2=.pt (st.next+1) 0∧fr 4=.mp s1.next∧fr 9=.mp s3.next∧fr 55=.sl 0 (bW g).length (oH (bW g))∧fr 56=i (bW g).length∧fr 57=i j0∧fr 14=.mp M∧fr 73=.sl 0 K.length (us K))∧TI s1.next s3.next s5.next s3 s8 (iQ g AF (K.take j) T) st2) ?_ ?_ ?_
    ·exact⟨⟨by simp[f1],by simp[f2],by simp[f4],by simp[f9],by simp[f55],by simp[fn],by simp[fi],by simp,by simp⟩,hk38,Nat.le_refl _,fun l _ _=>rfl,A2,hT8,hR,hTW⟩
    ·clear f1 f2 f4 f9 f55 fn fi fr hT8 hR hTW
     rintro k1 fr s9 hlt1 ⟨⟨f1,f2,f4,f9,f55,f56,f57,f14,f73⟩,hTI⟩ fi fn J1 hJ1
     have hd1:=qG K k1 hlt1
     have hsn1:iQ g AF (K.take (k1+1)) T=gC g (K.getD k1 0) (eS (aBE (K.getD k1 0) AF)) (iQ g AF (K.take k1) T):=by
      have h1:K.take (k1+1)=K.take k1++[K[k1]]:=List.take_succ_eq_append_getElem hlt1
      unfold iQ
      rw[h1,List.foldl_append,aX _ _ hlt1];rfl
     have htot1:lP (iQ g AF (K.take (k1+1)) T)≤100000:=by
      have h1:=aAx g AF (K.drop (k1+1)) (iQ g AF (K.take (k1+1)) T)
      rw[← aDf]at h1
      omega
     have hvK:K.getD k1 0∈AF.map (·.1):=(hKm _).1 (by rw[aX _ _ hlt1];exact List.getElem_mem _)
     have hvA:=aDz hvK
     have hgM:=aBo AF loc (K.getD k1 0)
     rw[if_pos hvK]at hgM
     rw[hsn1]at htot1 hJ1
     clear hsn1
     generalize iQ g AF (K.take k1) T=Tk at *
     generalize K.getD k1 0=v at *
     obtain⟨hI1,hI2,hI3⟩:=hinn _ hvA
     have hPl:=o4 _ hvA
     have hP0:=hne _ hvA
     simp only at hI1 hI2 hI3 hPl hP0
     have hLl:=aEP (aBE v AF)
     generalize aBE v AF=P at *
     have hTI':=hTI
     obtain⟨hk9,hn9,hW,A9,hT9,hR9,hTW9⟩:=hTI'
     have hM9:=(hW M hMo.1 hMo.2).trans hout
     have hI9:=(hW _ hI2 hI3).trans hI1
     clear hT9 hR9 hTW9 hW
     generalize loc v=lv at *
     (repeat' (first|refine qS ?_|(refine w_e [] ?_;intro J hJ;simp only[];simp[f73,fi,fn,hlt1,hd1,f14,hM9,hgM];(try (refine hJ _ _ ?_;clear hJ J;simp only[ak,reduceIte])))))
     refine qE (aNW P lv s9 hP0 (by omega) hI9 (by omega)) (by simp) ?_;rintro r s10 ⟨rfl,e10⟩
     rw[e10];clear e10 s10
     have hLn:(eS P).length≤1000:=by omega
     generalize eS P=L at *
     (repeat' (first|refine qB ?_|(refine aL ?_;simp[];(refine hJ _ _ ?_;clear hJ J;simp only[ak,reduceIte]))))
     refine aP 84 83 85 102 (L.length) (fun j fr st2=>(fr 1=.pt st.next 0∧fr 2=.pt (st.next+1) 0∧fr 4=.mp s1.next∧fr 9=.mp s3.next∧fr 55=.sl 0 (bW g).length (oH (bW g))∧fr 56=i (bW g).length∧fr 57=i j0∧fr 14=.mp M∧fr 73=.sl 0 K.length (us K))∧(fr 74=i K.length∧fr 75=i k1∧fr 16=u v∧fr 82=.sl 0 L.length (us L))∧TI s1.next s3.next s5.next s3 s8 (gC g v (L.take j) Tk) st2) ?_ ?_ ?_
     ·exact⟨⟨by simp[f1],by simp[f2],by simp[f4],by simp[f9],by simp[f55],by simp[f56],by simp[f57],by simp[f14],by simp[f73]⟩,⟨by simp[fn],by simp[fi],by simp,by simp⟩,hTI⟩
     ·clear f1 f2 f4 f9 f55 f56 f57 f14 f73 fi fn fr hTI hk9 hn9 hM9 hI9 s9
      rintro k2 fr s9 hlt2 ⟨⟨f1,f2,f4,f9,f55,f56,f57,f14,f73⟩,⟨f74,f75,f16,f82⟩,hk9,hn9,hW,A9,hT9,hR9,hTW9⟩ fi fn J2 hJ2
      have hd2:=qG L k2 hlt2
      have hsn2:gC g v (L.take (k2+1)) Tk=vN v (fX (xU g v (L.getD k2 0)) v (L.getD k2 0)) (gC g v (L.take k2) Tk):=by
       have h1:L.take (k2+1)=L.take k2++[L[k2]]:=List.take_succ_eq_append_getElem hlt2
       unfold gC
       rw[h1,List.foldl_append,aX _ _ hlt2];rfl
      have htot2:lP (gC g v (L.take (k2+1)) Tk)≤100000:=by
       have h1:=sK g v (L.drop (k2+1)) (gC g v (L.take (k2+1)) Tk)
       rw[← aDt]at h1
       omega
      rw[hsn2]at htot2 hJ2
      clear hsn2
      generalize gC g v (L.take k2) Tk=Tq at *
      generalize L.getD k2 0=x at *
      have hbun:=hB.get hA3.nd (prP v x)
      have hMB:s9.H s1.next=.map true [.u32,.u32] (rmL A):=(hk9.H _ hA3.mlt.2).trans hA3.map
      obtain⟨X,hX,tX,hXn⟩:∃ X,(aR (rmL A) [min v x,max v x]).getD .nil=X∧∃ t,norm X=.sl t (xU g v x).length (eds (xU g v x)):=by
       refine⟨_,rfl,?_⟩
       rw[oZ]
       rcases hbun with⟨h1,h2⟩|⟨t,h2⟩
       ·refine⟨0,?_⟩
        simp only[prP,pk]at h2
        rw[h2]
        unfold xU
        rw[h1];rfl
       ·refine⟨t,?_⟩
        simp only[prP,pk]at h2
        rw[h2];rfl
      have hBl:(xU g v x).length≤200:=Nat.le_trans (List.length_filter_le _ _) (Nat.le_trans he (by omega))
      have hBp:∀ e∈xU g v x,1≤e.id∧e.id≤1048576:=fun e h=>hgE.pos e (List.mem_filter.1 h).1
      have hdarts:=fun st=>aOc (xU g v x) v x tX st (by omega) hBp
      generalize xU g v x=B at *
      have hmg:=oZ [v] A9
      have hadd:=hR9.add (v:=v) (ds:=fX B v x)
      have htq:=wF v (vN v (fX B v x) Tq)
      have hgq:=hR9.get (v:=v)
      generalize hDD:fX B v x=D at *
      have hMT:=hT9.map
      have z1:¬s1.next=s3.next:=by have:=hA3.mlt;omega
      have z2:¬s3.next=s1.next:=fun e=>z1 e.symm
      have hn39:=hk9.next
      have hDt:=wD v D Tq
      have hDt2:=wF v Tq
      have hD1:D.length*4≤140737488355328:=by omega
      have hD2:D.length≤maxLen:=by unfold maxLen;omega
      have hm2:=hT9.mlt.2
      have z3:¬s3.next=s9.next:=by omega
      have z4:¬s9.next=s3.next:=by omega
      have z5:¬s1.next=s9.next:=by have:=hA3.mlt;omega
      have h35:s3.next<s5.next:=by omega
      (repeat' (first|refine qS ?_|(refine w_e [] ?_;intro J hJ;simp only[];simp[f82,fi,fn,hlt2,hd2];(refine hJ _ _ ?_;clear hJ J;simp only[ak,reduceIte]))))
      (refine w_s [] [s1.next,s3.next] [(0,true),(1,true),(2,true),(3,true),(4,true),(5,true),(6,true),(7,true),(10,true),(11,true),(8,true),(9,true),(12,true),(13,true),(14,false)] ?_;intro J hJ;simp[f4,f9,f16,hMT,hMB])
      refine qD (pair v x _) (by simp) ?_;rintro r s10 ⟨rfl,e10⟩
      rw[e10];clear e10 s10
      refine⟨fun h=>by first|(cases h;done)|exact fun _ _=>rfl|simp,?_⟩
      (refine bN ?_;simp[hMT,hMB,hX])
      refine qD (hdarts _) (by simp;exact hXn) ?_;rintro r s10 ⟨rfl,e10⟩
      rw[e10];clear e10 s10
      refine⟨fun h=>by first|(cases h;done)|exact fun _ _=>rfl|simp,?_⟩
      rcases hgq with⟨hq1,hq2⟩|⟨t,hq2⟩
      ·rw[hq2]at hmg
       simp only[Option.map_none]at hmg
       (refine bN ?_;simp[hMT,hMB,hX,hmg,hD1,hD2,z3,z4,z5];(refine hJ _ _ ?_;clear hJ J;simp only[ak,reduceIte]))
       skip
       have hadd:=hadd s9.next
       rw[hq1]at hadd
       simp only[us,List.map_nil,List.nil_append,List.length_nil,Nat.zero_add]at hadd
       refine hJ2 _ _ (by simp[fi]) (by simp[fn]) ⟨⟨by simp[f1],by simp[f2],by simp[f4],by simp[f9],by simp[f55],by simp[f56],by simp[f57],by simp[f14],by simp[f73]⟩,⟨by simp[f74],by simp[f75],by simp[f16],by simp[f82]⟩,(hk9.trans (aB.new _ _)).set (Nat.le_refl _) _,by simp;omega,fun l q1 q2=>?_,_,hT9.put (k:=[v]) (t:=s9.next) (n:=D.length) (c:=us D) ⟨Nat.le_refl _,by simp⟩ (by simp) hn39 (by omega) (by simp[rmV]) (by simp[z4]) (fun l hl hlm _=>by simp[show ¬l=s9.next by omega,hlm]),hadd,fun y hy=>?_⟩
       ·rw[aE,if_neg (by omega),aG,if_neg (by omega)];exact hW l q1 q2
       ·rcases lT hT9.nd y hy with rfl|⟨hy,_⟩
        ·exact .inr hn9
        ·exact hTW9 y hy
      ·rw[hq2]at hmg
       simp only[Option.map_some]at hmg
       unfold rmV at hmg
       simp only at hmg
       obtain⟨g1,g2,g3,g4⟩:=hT9.tok _ (jP hq2)
       simp only at g1 g2 g3 g4
       have y5:¬s3.next=t:=fun e=>by rw[← e,hMT]at g4;cases g4
       have y6:¬t=s3.next:=fun e=>y5 e.symm
       have y1:¬t=s9.next:=by omega
       have y2:¬s9.next=t:=by omega
       have z6:¬s1.next=t:=by have:=hA3.mlt.2;omega
       have hD3:((kK v Tq).length+D.length)*4≤140737488355328:=by omega
       have hD4:(kK v Tq).length+D.length≤maxLen:=by unfold maxLen;omega
       (refine bN ?_;simp[hMT,hMB,hX,hmg,hD1,hD2,z3,z4,z5,z6,y1,y2,y5,y6,g1,g4,hD3,hD4];(refine hJ _ _ ?_;clear hJ J;simp only[ak,reduceIte]))
       skip
       refine hJ2 _ _ (by simp[fi]) (by simp[fn]) ⟨⟨by simp[f1],by simp[f2],by simp[f4],by simp[f9],by simp[f55],by simp[f56],by simp[f57],by simp[f14],by simp[f73]⟩,⟨by simp[f74],by simp[f75],by simp[f16],by simp[f82]⟩,((hk9.set g2 _).trans (aB.new _ _)).set (Nat.le_refl _) _,by simp;omega,fun l q1 q2=>?_,_,hT9.put (k:=[v]) (t:=s9.next) (n:=(kK v Tq).length+D.length) (c:=us (kK v Tq)++us D) ⟨Nat.le_refl _,by simp⟩ (by simp) hn39 (by omega) (by simp[rmV]) (by simp[z4]) (fun l hl hlm hx=>?_),hadd s9.next,fun y hy=>?_⟩
       ·have:=hTW9 _ (jP hq2)
        simp only at this
        rw[aE,if_neg (by omega),aG,if_neg (by simp;omega),aE,if_neg (by omega)];exact hW l q1 q2
       ·have:=hx _ hq2
        simp only at this
        simp[show ¬l=s9.next by omega,hlm,this]
       ·rcases lT hT9.nd y hy with rfl|⟨hy,_⟩
        ·exact .inr hn9
        ·exact hTW9 y hy
     ·rintro fr s10 ⟨⟨f1,f2,f4,f9,f55,f56,f57,f14,f73⟩,⟨f74,f75,f16,f82⟩,hTI2⟩
      rw[List.take_length]at hTI2
      skip
      exact hJ1 _ _ (by simp[f75]) (by simp[f74]) ⟨⟨by simp[f1],by simp[f2],by simp[f4],by simp[f9],by simp[f55],by simp[f56],by simp[f57],by simp[f14],by simp[f73]⟩,hTI2⟩
    ·rintro fr s9 ⟨⟨f1,f2,f4,f9,f55,fn,fi,f14,f73⟩,hk9,hn9,_,A9,hT9,hR9,_⟩
     rw[List.take_length]at hR9
     skip
     exact hJO _ _ (by simp[fi]) (by simp[fn]) ⟨by simp[f1],by simp[f2],by simp[f4],by simp[f9],by simp[f55],hk9,_,A9,hE,hT9,hR9,o5⟩
  ·clear f1 f2 f4 f25 hoT fr
   rintro fr s4 ⟨f1,f2,f4,f9,f55,hk4,T,A2,hE,hT,hR,htot⟩
   rw[List.drop_length]at hE
   obtain rfl:some T=oT:=Option.some.inj hE
   simp only at ho
   by_cases hg1:∀ v∈g.vs,(kK v T).length≤1000
   case neg=>rw[if_neg hg1]at ho;cases ho
   rw[if_pos hg1]at ho
   obtain rfl:some _=o:=Option.some.inj ho
   have hO4:=(hk4.H (st.next+1) (by omega)).trans hO3
   have hG4:=(hk4.H st.next (by omega)).trans hG3
   (repeat' (first|refine qS ?_|(refine w_e [] ?_;intro J hJ;simp only[];simp[f1,hG4,f9])))
   refine qE (aNo g s3.next (rmL A2) (fun v=>kK v T) s4 hv (by omega) hT.mlt.2 hT.map fun v hv'=>?_) (by simp[grL]) ?_
   ·rw[oZ]
    rcases hR.get (v:=v)with⟨h1,h2⟩|⟨t,h2⟩
    ·refine⟨_,0,rfl,?_,hg1 v hv'⟩
     rw[h2,h1];rfl
    ·refine⟨_,t,rfl,?_,hg1 v hv'⟩
     rw[h2];rfl
   rintro r s5 ⟨rfl,hk5⟩
   have hO5:=(hk5.H (st.next+1) (by have:=hk4.next;omega)).trans hO4
   (repeat' (first|(refine qR ?_;simp only[ak,reduceIte];simp[f2,hO5])|(refine aL ?_;simp[f2,hO5];(refine hJ _ _ ?_;clear hJ J;simp only[ak,reduceIte]))))
   refine⟨?_,((hKt.trans hk4).trans hk5).set (by omega) _⟩
   rw[← List.map_map]
   simp only[aFk,z0,z0L,iO,kZ,z0m,mpL,grL,List.length_map,List.cons_append,List.nil_append,bA]
def zH:Gr:=⟨[1,2,3],[⟨1,1,2⟩,⟨2,2,3⟩,⟨3,3,1⟩]⟩
def cH:Gr:=⟨[1,2,3,4,5],[⟨1,1,2⟩,⟨2,1,3⟩,⟨3,1,4⟩,⟨4,1,5⟩,⟨5,2,3⟩,⟨6,2,4⟩,⟨7,2,5⟩,⟨8,3,4⟩,⟨9,3,5⟩,⟨10,4,5⟩]⟩
theorem aIt{g:Gr}(hg:GoodE g){s:Bw}(h:nW g.es g.vs.length g.vs ⟨[],[],[],[]⟩=some s){B:List (List Nat)}(hp:B.Perm s.out)(hr:B.Pairwise fun x y=>x.headD 0<y.headD 0):iM g.es=B:=by
 obtain⟨s',h1,_,h2,_,h3⟩:=rG hg
 rw[h]at h1
 obtain rfl:=Option.some.inj h1
 exact(wL h2 h3 hp hr).symm
theorem nO{g:Gr}(hg:GoodE g){out:List (List Nat)}(h:(nW (sE g.es) g.vs.length g.vs ⟨[],[],[],[]⟩).map (·.out)=some out){B:List (List Nat)}(hp:B.Perm out)(hr:B.Pairwise fun x y=>x.headD 0<y.headD 0):bW g=B.map fun B=>B.map (eAt (sE g.es)):=by
 obtain⟨s,h1,rfl⟩:=Option.map_eq_some_iff.1 h
 unfold bW
 rw[aIt (g:=⟨g.vs,sE g.es⟩) hg.simple h1 hp hr]
theorem aCp:chk zH=0:=by decide +kernel
theorem nR:chk cH=0:=by decide +kernel
theorem aGW:bW zH=[zH.es]:=by
 rw[nO (eD aCp) (out:=[[0,1,2]]) (by decide +kernel) (List.Perm.refl _) (by decide)]
 decide +kernel
theorem aEH:bW cH=[cH.es]:=by
 rw[nO (eD nR) (out:=[[0,1,2,3,4,5,6,7,8,9]]) (by decide +kernel) (List.Perm.refl _) (by decide)]
 decide +kernel
theorem sO:(if chk cH=0 then mU cH (bW cH)else some none)=some none:=by
 rw[if_pos nR,aEH]
 rfl
theorem aIu:(if chk zH=0 then mU zH (bW zH)else some none)=some (some ⟨zH,[[2,7],[3,4],[5,6]]⟩):=by
 rw[if_pos aCp,aGW]
 rfl
def lJ(a b:Nat):List Ed:=cH.es.filter fun e=>decide (e.a<a)||(decide (e.a=a)&&decide (e.b<b))
theorem aGT(a b:Nat)(h1:1≤a)(h2:a<b)(h3:b≤5):lJ a (b+1)=lJ a b++[⟨(lJ a b).length+1,a,b⟩]:=by
 have h:∀ a:Fin 6,∀ b:Fin 6,1≤a.1→a.1<b.1→lJ a.1 (b.1+1)=lJ a.1 b.1++[⟨(lJ a.1 b.1).length+1,a.1,b.1⟩]:=by decide +kernel
 exact h ⟨a,by omega⟩ ⟨b,by omega⟩ h1 h2
theorem aHp(a:Nat)(h1:1≤a)(h2:a≤5):lJ a 6=lJ (a+1) (a+2):=by
 have h:∀ a:Fin 6,1≤a.1→lJ a.1 6=lJ (a.1+1) (a.1+2):=by decide +kernel
 exact h ⟨a,by omega⟩ h1
theorem aLh(a b:Nat):(lJ a b).length≤10:=List.length_filter_le _ _
def FvS(st:St)(a b:Nat)(s:St):Prop:=s.H st.next=.box 25 2 [.nil,.nil]∧aB st s∧∃ tv t,s.H (st.next+2)=.box 25 2 [.sl tv 5 (us [1,2,3,4,5]),.sl t (lJ a b).length (eds (lJ a b))]∧t≠0∧st.next+2<t∧t<s.next∧s.H t=.own 56 3 (lJ a b).length
set_option maxHeartbeats 1000000 in
theorem aGe(st:St):aF Tryz.prog 27 [] st fun r st'=>r=.ag (grL cH)∧aB st st':=by
 refine bR ?_
 refine qO aK Tryz.func27 rfl rfl Tryz.ntmps27 (rs:=[.cell 0 25]) rfl (by simp) ?_
 refine dL fun hpos=>?_
 (repeat' (first|refine qS ?_|refine qB ?_|(refine w_e [] ?_;intro J hJ;simp only[];simp[];(refine hJ _ _ ?_;clear hJ J;simp only[ak,reduceIte]))))
 refine yE (st.next+2) 56 3 (e:=25) (s:=2) [.sl (st.next+1) 5 (us [1,2,3,4,5])] [] (by simp) ?_
 refine qL (fun n fr s=>∃ a:Nat,1≤a∧a≤6∧n=6-a∧fr 0=.pt st.next 0∧fr 1=.pt (st.next+2) 0∧fr 2=u a∧FvS st a (a+1) s) 5 ?_ ?_
 ·refine⟨1,by omega,by omega,rfl,by simp,by simp,by simp,?_,?_,st.next+1,st.next+3,?_,by omega,by omega,by simp,?_⟩
  ·(repeat (first|rw[aG,if_neg (α:=aD) (by(try simp only[aC,aA]);omega)]|rw[aE,if_neg (α:=aD) (by omega)]|rw[aG,if_pos (α:=aD) (by(try simp only[aC,aA]))]|rw[aE,if_pos (α:=aD) (by omega)]))
  ·exact(((((aB.new _ _).trans (aB.new _ _)).trans (aB.new _ _)).set (by omega) _).trans (aB.new _ _)).set (by omega) _
  ·have:lJ 1 (1+1)=[]:=by decide +kernel
   rw[this];(repeat (first|rw[aG,if_neg (α:=aD) (by(try simp only[aC,aA]);omega)]|rw[aE,if_neg (α:=aD) (by omega)]|rw[aG,if_pos (α:=aD) (by(try simp only[aC,aA]))]|rw[aE,if_pos (α:=aD) (by omega)]));simp[us,eds]
  ·have:lJ 1 (1+1)=[]:=by decide +kernel
   rw[this];(repeat (first|rw[aG,if_neg (α:=aD) (by(try simp only[aC,aA]);omega)]|rw[aE,if_neg (α:=aD) (by omega)]|rw[aG,if_pos (α:=aD) (by(try simp only[aC,aA]))]|rw[aE,if_pos (α:=aD) (by omega)]));simp
 rintro n fr s ⟨a,a1,a2,rfl,f0,f1,f2,hS⟩ JJ hJJ
 by_cases ha:a≤5
 ·have hw:IntKind.u32.wrap ((a:Int)+1)=((a+1:Nat):Int):=by rw[wrap_u32' _ (by omega) (by omega)];omega
  have ha2:(a:Int)≤5:=by omega
  (repeat' (first|refine qS ?_|refine qB ?_|(refine qK ?_;simp only[ak,reduceIte])|(refine qC ?_;simp[f2,ha2,hw])|(refine w_e [] ?_;intro J hJ;simp only[];simp[f2,ha2,hw];(refine hJ _ _ ?_;clear hJ J;simp only[ak,reduceIte]))))
  refine qL (fun n fr s=>∃ b:Nat,a<b∧b≤6∧n=6-b∧fr 0=.pt st.next 0∧fr 1=.pt (st.next+2) 0∧fr 2=u a∧fr 3=u b∧FvS st a b s) (6-(a+1)) ?_ ?_
  ·exact⟨a+1,by omega,by omega,rfl,by simp[f0],by simp[f1],by simp[f2],by simp,hS⟩
  clear f0 f1 f2 hS fr s
  rintro n fr s ⟨b,b1,b2,rfl,f0,f1,f2,f3,hS⟩ J2 hJ2
  by_cases hb:b≤5
  ·have hwb:IntKind.u32.wrap ((b:Int)+1)=((b+1:Nat):Int):=by rw[wrap_u32' _ (by omega) (by omega)];omega
   have hb2:(b:Int)≤5:=by omega
   obtain⟨hR,hk,tv,t,hB,t0,t1,t2,tH⟩:=hS
   have hst:=aGT a b a1 b1 hb
   have hpl:=aLh a b
   generalize lJ a b=E at *
   have w1:IntKind.i64.wrap ((E.length:Int)+1)=(E.length:Int)+1:=wrap_i64 _ (by omega) (by omega)
   have w2:IntKind.u32.wrap ((E.length:Int)+1)=(E.length:Int)+1:=wrap_u32' _ (by omega) (by omega)
   have hel:=aO E
   have hsm:=aMP E
   have c1:¬t=s.next:=by omega
   have c2:¬s.next=t:=by omega
   have c3:¬st.next+2=s.next:=by omega
   have c4:¬st.next+2=t:=by omega
   have c5:¬st.next+2=s.next+1:=by omega
   have c6:¬s.next=st.next+2:=by omega
   (repeat' (first|refine qS ?_|refine qB ?_|(refine qK ?_;simp only[ak,reduceIte])|(refine qC ?_;simp[f0,f1,f2,f3,hb2,hwb,hB,tH,t0,w1,w2,hel,hsm,c1,c2,c3,c4,c5,c6])|(refine w_e [] ?_;intro J hJ;simp only[];simp[f0,f1,f2,f3,hb2,hwb,hB,tH,t0,w1,w2,hel,hsm,c1,c2,c3,c4,c5,c6];(repeat refine ca ?_);(refine hJ _ _ ?_;clear hJ J;simp only[ak,reduceIte]))))
   refine hJ2 (6-(b+1)) _ _ (by omega) ⟨b+1,by omega,by omega,rfl,by simp[f0],by simp[f1],by simp[f2],by simp,?_,?_,tv,s.next+1,?_,by omega,by omega,by simp,?_⟩
   ·(repeat (first|rw[aG,if_neg (α:=aD) (by(try simp only[aC,aA]);omega)]|rw[aE,if_neg (α:=aD) (by omega)]|rw[aG,if_pos (α:=aD) (by(try simp only[aC,aA]))]|rw[aE,if_pos (α:=aD) (by omega)]));exact hR
   ·exact(((hk.trans (aB.new _ _)).set (by omega) _).trans (aB.new _ _)).set (by omega) _
   ·rw[hst];(repeat (first|rw[aG,if_neg (α:=aD) (by(try simp only[aC,aA]);omega)]|rw[aE,if_neg (α:=aD) (by omega)]|rw[aG,if_pos (α:=aD) (by(try simp only[aC,aA]))]|rw[aE,if_pos (α:=aD) (by omega)]));simp[eds,edL]
   ·rw[hst];(repeat (first|rw[aG,if_neg (α:=aD) (by(try simp only[aC,aA]);omega)]|rw[aE,if_neg (α:=aD) (by omega)]|rw[aG,if_pos (α:=aD) (by(try simp only[aC,aA]))]|rw[aE,if_pos (α:=aD) (by omega)]));simp
  ·obtain rfl:b=6:=by omega
   have hb2:¬((6:Nat):Int)≤5:=by omega
   unfold FvS at hS hJJ
   rw[aHp a a1 ha]at hS
   (repeat' (first|refine qS ?_|(refine qX ?_;simp only[ak,reduceIte])|(refine qC ?_;simp[f3,f2,hw])|(refine w_e [] ?_;intro J hJ;simp only[];simp[f3,f2,hw];(refine hJ _ _ ?_;clear hJ J;simp only[ak,reduceIte]))))
   exact hJJ _ _ _ (by omega) ⟨a+1,by omega,by omega,rfl,by simp[f0],by simp[f1],by simp,hS⟩
 ·obtain rfl:a=6:=by omega
  clear hJJ
  obtain⟨hR,hk,tv,t,hB,t0,t1,t2,tH⟩:=hS
  have hp:lJ 6 (6+1)=cH.es:=by decide +kernel
  rw[hp]at hB tH
  (repeat' (first|refine qS ?_|(refine qX ?_;simp only[ak,reduceIte])|(refine qR ?_;simp only[ak,reduceIte];simp[f0,f1,f2,hB,hR])|(refine qC ?_;simp[f0,f1,f2,hB,hR])|(refine w_e [] ?_;intro J hJ;simp only[];simp[f0,f1,f2,hB,hR];(refine hJ _ _ ?_;clear hJ J;simp only[ak,reduceIte]))))
  exact⟨by simp only[z0,z0L,kZ];rfl,hk.set (by omega) _⟩
end Go.Proofs.YtempldclppogmaaGreatDoor.Aw
namespace Go.Proofs.YtempldclppogmaaGreatDoor.Aw
open Go Go.RowKit
end Go.Proofs.YtempldclppogmaaGreatDoor.Aw
namespace Go.Proofs.YtempldclppogmaaGreatDoor.Aw
open Go Go.RowKit Go.Proofs.YtempldclppogmaaGreatDoor.Pl
mutual
def iD:LV→Bool
 |.sl t _ cs=>t==0&&oG cs
 |.nil=>true
 |.ag cs=>oG cs
 |.tu cs=>oG cs
 |.atom _=>true
 |_=>false
def oG:List LV→Bool
 |[]=>true
 |c::cs=>iD c&&oG cs
end
abbrev G0:G:=⟨1,fun _=>none,fun _=>0,fun _=>0,fun _=>false⟩
theorem aPv(b o:Nat):G0.ok b o:=by simp[G.ok]
mutual
theorem aDy{w:World}{g:G}:∀(lv:LV) (v:Value),iD lv=true→Rep w g lv v→Rep w G0 lv v
 |.sl t n cs,v,hp,h=>by
  simp only[iD,Bool.and_eq_true,beq_iff_eq]at hp
  obtain⟨rfl,hp⟩:=hp
  simp only[Rep]at h ⊢
  obtain⟨A,cap,h1,h2,h3,_,h5⟩:=h
  refine⟨A,cap,h1,h2,h3,fun h=>absurd rfl h,fun hne=>?_⟩
  obtain⟨b,o,h6,h7⟩:=h5 hne
  exact⟨b,o,h6,sV b cs o hp h7⟩
 |.nil,v,_,h=>by simpa only[Rep]using h
 |.ag cs,v,hp,h=>by
  simp only[iD]at hp
  simp only[Rep]at h ⊢
  obtain⟨vs,h1,h2⟩:=h
  exact⟨vs,h1,nC cs vs hp h2⟩
 |.tu cs,v,hp,h=>by
  simp only[iD]at hp
  simp only[Rep]at h ⊢
  obtain⟨vs,h1,h2⟩:=h
  exact⟨vs,h1,nC cs vs hp h2⟩
 |.atom _,_,_,h=>by simpa only[Rep]using h
 |.emp,_,hp,_=>by simp[iD]at hp
 |.dead,_,hp,_=>by simp[iD]at hp
 |.ms _ _ _,_,hp,_=>by simp[iD]at hp
 |.pt _ _,_,hp,_=>by simp[iD]at hp
 |.ep _,_,hp,_=>by simp[iD]at hp
 |.mp _,_,hp,_=>by simp[iD]at hp
 |.fn _ _,_,hp,_=>by simp[iD]at hp
 |.qu _ _ _ _,_,hp,_=>by simp[iD]at hp
 |.pe _ _,_,hp,_=>by simp[iD]at hp
 |.kap _ _ _,_,hp,_=>by simp[iD]at hp
theorem nC{w:World}{g:G}:∀(cs:List LV) (vs:List Value),oG cs=true→aH w g cs vs→aH w G0 cs vs
 |[],vs,_,h=>h
 |c::cs,vs,hp,h=>by
  simp only[oG,Bool.and_eq_true]at hp
  simp only[aH]at h ⊢
  obtain⟨v,vs',rfl,h1,h2⟩:=h
  exact⟨v,vs',rfl,aDy c v hp.1 h1,nC cs vs' hp.2 h2⟩
theorem sV{w:World}{g:G}(b:Nat):∀(cs:List LV) (o:Nat),oG cs=true→aQ w g b cs o→aQ w G0 b cs o
 |[],_,_,h=>h
 |c::cs,o,hp,h=>by
  simp only[oG,Bool.and_eq_true]at hp
  simp only[aQ]at h ⊢
  obtain⟨⟨v,h1,h2,h3⟩,h4⟩:=h
  exact⟨⟨v,h1,aDy c v hp.1 h2,aPv b o⟩,sV b cs (o+1) hp.2 h4⟩
end
theorem zI{P:Program}{f:FuncId}{args:List LV}{r0:LV}{st:St}(ha:oG args=true)(hr:∀(w:World) (g g':G) v,Rep w g r0 v→Rep w g' r0 v)
 (h:aF P f args ⟨1,fun _=>.dead⟩ fun r _=>r=r0):aF P f args st fun r st'=>r=r0∧st'=st:=by
 refine⟨h.1,fun w g vs hi hrp=>?_⟩
 have hi0:Inv w G0 ⟨1,fun _=>.dead⟩:=by
  refine⟨rfl,by decide,fun _ _=>rfl,fun l hl=>hl.elim,fun l l' hl=>hl.elim,fun l e s n hl=>(by cases hl),fun l e s cs hl=>(by cases hl),fun l ag ks es hl=>(by cases hl),fun l e n hl=>(by cases hl),kP (hi.aside.glob.phi fun _ _ _ _ _=>rfl) fun _=>rfl⟩
 refine(h.2 w _ vs hi0 (nC _ _ ha hrp)).mono ?_
 rintro e w' ⟨v,r,st',g',rfl,rfl,hrep,_,he⟩
 have hB:Below w.heap.size w w':=⟨he.os,he.tape,he.output,he.size,fun k hk=>(he.still k hk rfl).2⟩
 exact⟨v,_,st,g,rfl,⟨rfl,rfl⟩,hr _ _ _ _ hrep,aAF hi hB,rF g hB⟩
def aOy(k:Int)(p:LV×St):Bool:=match p.1 with
 |.atom (.int .i64 n)=>n==k
 |_=>false
def xIP(k:Int)(r:Option (List (LV×St))):Bool:=match r with
 |some l=>l.all (aOy k)
 |none=>false
theorem tQ{P:Program}{T:Tab}{fns:FuncId→Option Func}{pr:gG}(hT:aZ P T)(hf:zP P fns)(hp:lC P pr)(hm:P.follows .mixedOrders=true)(n:Nat){f:FuncId}{args:List LV}{k:Int}{st:St}(ha:oG args=true)
 (h:xIP k (sZ T fns pr n f args ⟨1,fun _=>.dead⟩)=true):aF P f args st fun r st'=>r=i k∧st'=st:=by
 cases hx:sZ T fns pr n f args ⟨1,fun _=>.dead⟩ with
 |none=>rw[hx]at h;simp[xIP]at h
 |some l=>
  rw[hx]at h
  simp only[xIP]at h
  rw[List.all_eq_true]at h
  have:=lN hT hf hp (fun N c fr st L hx=>yK hT hf hp hm n N c fr st L hx) f args _ l hx
  refine zI ha (fun w g g' v h=>by simp only[Rep]at h ⊢;exact h) (this.mono ?_)
  intro r1 st1 hmm
  have hb:=h _ hmm
  unfold aOy at hb
  split at hb
  ·rename_i m c
   simp only at c
   rw[c,eq_of_beq hb]
  ·cases hb
def aLm:Mp:=⟨zH,[[2,7],[3,4],[5,6]]⟩
theorem aEZ(st:St):aF Tryz.prog 21 [.ag (mpL aLm)] st fun r st'=>r=i 0∧st'=st:=
 tQ aK aIE aBu mixed 1000000 (by kernel_rfl) (by kernel_rfl)
end Go.Proofs.YtempldclppogmaaGreatDoor.Aw
