/- plane: awake. -/
import Derived.Test.YtempldclppogmaaGreatDoorJj
import Derived.Test.YtempldclppogmaaGreatDoorAwShp
set_option linter.unusedVariables false
set_option linter.unusedSimpArgs false
namespace Go.Proofs.YtempldclppogmaaGreatDoor.Aw
open Go Go.RowKit Go.Proofs.YtempldclppogmaaGreatDoor.Pl
theorem aJV(st:St):aF Tryz.prog 39 [] st fun r st'=>r=bb true∧st'=st:=by
 refine qO aK Tryz.func39 rfl rfl Tryz.ntmps39 (rs:=[.tmp 0]) rfl (by simp) ?_
 (repeat' (first|refine qS ?_|(refine w_e [] ?_;intro J hJ;simp only[];simp[];(try (refine hJ _ _ ?_;clear hJ J;simp only[ak,reduceIte])))))
 refine qE (aKN _) (by simp[]) ?_;rintro r st' ⟨rfl,rfl⟩
 (repeat' (first|(refine qR ?_;simp only[ak,reduceIte];simp[])|(refine aL ?_;simp[];(refine hJ _ _ ?_;clear hJ J;simp only[ak,reduceIte]))))
theorem aKr(st:St):aF Tryz.prog 40 [] st fun r st'=>r=bb true∧st'=st:=by
 refine qO aK Tryz.func40 rfl rfl Tryz.ntmps40 (rs:=[.tmp 0]) rfl (by simp) ?_
 (repeat' (first|refine qS ?_|(refine w_e [] ?_;intro J hJ;simp only[];simp[];(try (refine hJ _ _ ?_;clear hJ J;simp only[ak,reduceIte])))))
 refine qE (aMt _) (by simp[]) ?_;rintro r st' ⟨rfl,rfl⟩
 (repeat' (first|(refine qR ?_;simp only[ak,reduceIte];simp[])|(refine aL ?_;simp[];(refine hJ _ _ ?_;clear hJ J;simp only[ak,reduceIte]))))
set_option maxHeartbeats 1000000 in
theorem aKx(st:St):aF Tryz.prog 15 [] st fun r st'=>r=bb true∧st'=st:=by
 refine qT (Q:=fun r=>r=bb true) ?_ fun r h=>by subst h;trivial
 have hE1:=aEy zH (by decide) (by decide) aIu
 have hE2:=aEy cH (by decide) (by decide) sO
 have hR:=fun s=>aEZ s
 refine qO aK Tryz.func15 rfl rfl Tryz.ntmps15 (rs:=[.tmp 0]) rfl (by simp) ?_
 (repeat' (first|refine qS ?_|(refine w_e [] ?_;intro J hJ;simp only[];simp[];(try (refine hJ _ _ ?_;clear hJ J;simp only[ak,reduceIte])))))
 refine zQ (hE1 _) (by simp[z0,z0L,grL,zH,us,eds,edL]) ?_;rintro r s1 ⟨rfl,hk1⟩
 unfold aFk
 have hn1:=hk1.next
 simp only[aA]at hn1
 (repeat' (first|refine qS ?_|((first|(refine w_e [] ?_;intro J hJ;simp only[])|(refine aL ?_));simp[];(try (refine hJ _ _ ?_;clear hJ J;simp only[ak,reduceIte])))))
 refine qE (aGe _) (by simp) ?_;rintro r s2 ⟨rfl,hk2⟩
 have hn2:=hk2.next
 simp only[aA]at hn2
 have hB2:s2.H s1.next=.box 39 3 (mpL aLm):=by rw[hk2.H _ (by simp)];simp[aLm]
 have hK2:aB st s2:=((((aB.new _ _).trans (aB.new _ _)).trans hk1).trans (aB.new _ _)).trans hk2
 (repeat' (refine aL ?_;simp[]))
 refine qE (hE2 _) (by simp) ?_;rintro r s3 ⟨rfl,hk3⟩
 unfold aFk
 have hn3:=hk3.next
 have hB3:=(hk3.H s1.next (by omega)).trans hB2
 have c1:¬s1.next=s3.next:=by omega
 have h3:aLm.g.es.length=3:=rfl
 (repeat' (first|refine qS ?_|((first|(refine w_e [] ?_;intro J hJ;simp only[])|(refine aL ?_));simp[hB3,c1];(try (refine hJ _ _ ?_;clear hJ J;simp only[ak,reduceIte])))))
 refine qE (hR _) (by simp[mpL,grL]) ?_;rintro r s4 ⟨rfl,e4⟩
 rw[e4];clear e4 s4
 (repeat' (refine aL ?_;simp[hB3,c1,h3]))
 refine qE (aJV _) (by simp) ?_;rintro r s4 ⟨rfl,e4⟩
 rw[e4];clear e4 s4
 (repeat' (refine aL ?_;simp[hB3,c1,h3]))
 refine qE (aKr _) (by simp) ?_;rintro r s4 ⟨rfl,e4⟩
 rw[e4];clear e4 s4
 (repeat' (first|(refine qR ?_;simp only[ak,reduceIte];simp[hB3,c1,h3])|(refine aL ?_;simp[hB3,c1,h3];(refine hJ _ _ ?_;clear hJ J;simp only[ak,reduceIte]))))
 exact(hK2.trans hk3).trans (aB.new _ _)
def aOC(l:List Int):LV:=.sl 0 l.length (us l)
def aIo(R:List (List Int)):List LV:=R.map aOC
@[simp] theorem aNl(R:List (List Int)):(aIo R).length=R.length:=by simp[aIo]
def lI(v:Int)(x:Ed):Bool:=x.a==v||x.b==v
def CU(p:Int→Bool)(B:Int)(mes:List (List Int×LV)):Prop:=∀ v,∃ c:Int,(aR mes [v]).getD (i 0)=i c∧0≤c∧c≤B∧(0<c↔p v=true)
theorem CU.one{p:Int→Bool}{B:Int}{mes:List (List Int×LV)}(h:CU p B mes)(a:Int){c:Int}(hc:(aR mes [a]).getD (i 0)=i c):CU (fun v=>p v||v==a) (B+1) (aS mes [a] (i (c+1))):=by
 intro v
 obtain⟨c0,h1,h2,h3,h4⟩:=h v
 rw[cL]
 by_cases hv:v=a
 ·subst hv
  rw[hc]at h1
  have hcc:c=c0:=by injection h1 with h1;injection h1
  subst hcc
  exact⟨c+1,by simp,by omega,by omega,by simp;omega⟩
 ·rw[if_neg (by simpa using hv)]
  refine⟨c0,h1,h2,by omega,?_⟩
  simp[hv,h4]
set_option maxHeartbeats 1000000 in
theorem aQy(g:Gr)(st:St)(hv:g.vs.length≤1000)(he:g.es.length≤1000)(hp:0<st.next):
 aF Tryz.prog 181 [.ag (grL g)] st fun r st'=>r=.ag (grL ⟨g.vs.filter fun v=>g.es.any (lI v),g.es⟩)∧aB st st':=by
 refine bR ?_
 have hel:=aO g.es
 refine qO aK Tryz.func181 rfl rfl Tryz.ntmps181 (rs:=[.cell 2 25]) rfl (by simp) ?_
 (repeat' (first|refine qS ?_|refine qB ?_|(refine w_e [] ?_;intro J hJ;simp only[];simp[];(refine hJ _ _ ?_;clear hJ J;simp only[ak,reduceIte]))))
 refine aP 13 12 14 27 (g.es.length) (fun j fr st2=>fr 1=.pt st.next 0∧fr 2=.pt (st.next+1) 0∧fr 3=.mp (st.next+2)∧fr 11=.sl 0 g.es.length (eds g.es)∧st2.H st.next=.box 25 2 (grL g)∧st2.H (st.next+1)=.box 25 2 [.nil,.nil]∧st.next+2<st2.next∧aB st st2∧∃ mes,st2.H (st.next+2)=.map false [.u32] mes∧CU (fun v=>(g.es.take j).any (lI v)) (2*j) mes) ?_ ?_ ?_
 ·have e1:¬st.next=st.next+1+1:=by omega
  refine⟨by simp,by simp,by simp,by simp,by simp[e1],by simp,by simp,((aB.new _ _).trans (aB.new _ _)).trans (aB.new _ _),[],by simp,fun v=>⟨0,by simp[aR],by omega,by omega,by simp⟩⟩
 ·rintro j fr s hlt ⟨f1,f2,f3,f11,hG,h2,hsn,hkp,mes,hM,hC⟩ fi fn J hJ
  have hd:=bE g.es j hlt
  have hk3:j*3<g.es.length*3:=by omega
  have han:=fun v=>zL g.es (lI v) j hlt
  generalize g.es.getD j ed0=x at *
  obtain⟨d,a,b⟩:=x
  obtain⟨c,c1,c2,c3,-⟩:=hC a
  have hC2:=hC.one a c1
  obtain⟨c',c1',c2',c3',-⟩:=hC2 b
  have hC3:=hC2.one b c1'
  have w1:IntKind.i64.wrap (c+1)=c+1:=wrap_i64 _ (by omega) (by omega)
  have w2:IntKind.i64.wrap (c'+1)=c'+1:=wrap_i64 _ (by omega) (by omega)
  have e1:¬st.next+2=s.next:=by omega
  have e2:¬s.next=st.next+2:=by omega
  (repeat' (first|refine qS ?_|(refine w_e [] ?_;intro J hJ;simp only[];simp[f1,f3,f11,fi,fn,hd,hel,hk3,hlt,hM,c1,c1',w1,w2,e1,e2];(refine hJ _ _ ?_;clear hJ J;simp only[ak,reduceIte]))))
  refine hJ _ _ (by simp[fi]) (by simp[fn]) ⟨by simp[f1],by simp[f2],by simp[f3],by simp[f11],?_,?_,by simp;omega,?_,aS (aS mes [a] (i (c+1))) [b] (i (c'+1)),by simp,fun v=>?_⟩
  ·(repeat (first|rw[aG,if_neg (α:=aD) (by(try simp only[aC,aA]);omega)]|rw[aE,if_neg (α:=aD) (by omega)]|rw[aG,if_pos (α:=aD) (by(try simp only[aC,aA]))]|rw[aE,if_pos (α:=aD) (by omega)]));exact hG
  ·(repeat (first|rw[aG,if_neg (α:=aD) (by(try simp only[aC,aA]);omega)]|rw[aE,if_neg (α:=aD) (by omega)]|rw[aG,if_pos (α:=aD) (by(try simp only[aC,aA]))]|rw[aE,if_pos (α:=aD) (by omega)]));exact h2
  ·refine⟨by have:=hkp.next;simp;omega,fun l hl=>?_⟩
   (repeat (first|rw[aG,if_neg (α:=aD) (by(try simp only[aC,aA]);omega)]|rw[aE,if_neg (α:=aD) (by omega)]|rw[aG,if_pos (α:=aD) (by(try simp only[aC,aA]))]|rw[aE,if_pos (α:=aD) (by omega)]));exact hkp.H l hl
  ·obtain⟨cv,k1,k2,k3,k4⟩:=hC3 v
   refine⟨cv,k1,k2,by omega,?_⟩
   rw[k4]
   dsimp only
   rw[han v]
   simp only[lI,Bool.or_assoc]
   rw[show(v==a)=(a==v) from by rw[Bool.eq_iff_iff];simp;exact eq_comm,show(v==b)=(b==v) from by rw[Bool.eq_iff_iff];simp;exact eq_comm]
 ·rintro fr s ⟨f1,f2,f3,f11,hG,h2,hsn,hkp,mes,hM,hC⟩
  rw[List.take_length]at hC
  (repeat' (first|refine qS ?_|(refine w_e [] ?_;intro J hJ;simp only[];simp[f1,hG])))
  refine qE (aJc g.es 0 _ (by omega)) (by simp) ?_;rintro r s1 ⟨rfl,hk1⟩
  have hn1:=hk1.next
  have hG1:=(hk1.H st.next (by omega)).trans hG
  have h21:=(hk1.H (st.next+1) (by omega)).trans h2
  have hM1:=(hk1.H (st.next+2) (by omega)).trans hM
  have hs1:st.next+2<s1.next:=by omega
  have e1:¬st.next=s1.next:=by omega
  have e2:¬st.next+1=s1.next:=by omega
  have e3:¬st.next+2=s1.next:=by omega
  have e4:¬st.next=s1.next+1:=by omega
  (repeat' (first|refine qS ?_|refine qB ?_|((first|(refine w_e [] ?_;intro J hJ;simp only[])|(refine aL ?_));simp[hG1,e1,f1];(refine hJ _ _ ?_;clear hJ J;simp only[ak,reduceIte]))))
  refine yE s1.next 34 1 (e:=25) (s:=2) [] [.sl 0 g.es.length (eds g.es)] (by simp) ?_
  refine aP 35 34 36 49 (g.vs.length) (fun j fr st2=>fr 2=.pt (st.next+1) 0∧fr 3=.mp (st.next+2)∧fr 6=.pt s1.next 0∧fr 33=.sl 0 g.vs.length (us g.vs)∧st2.H (st.next+1)=.box 25 2 [.nil,.nil]∧st2.H (st.next+2)=.map false [.u32] mes∧s1.next<st2.next∧aB st st2∧∃ t,st2.H s1.next=.box 25 2 [.sl t ((g.vs.take j).filter fun v=>g.es.any (lI v)).length (us ((g.vs.take j).filter fun v=>g.es.any (lI v))),.sl 0 g.es.length (eds g.es)]∧aQU t st ((g.vs.take j).filter fun v=>g.es.any (lI v)) st2) ?_ ?_ ?_
  ·refine⟨by simp[f2],by simp[f3],by simp,by simp,?_,?_,by simp;omega,?_,s1.next+1,by simp,⟨by omega,by omega,by simp,by simp⟩⟩
   ·(repeat (first|rw[aG,if_neg (α:=aD) (by(try simp only[aC,aA]);omega)]|rw[aE,if_neg (α:=aD) (by omega)]|rw[aG,if_pos (α:=aD) (by(try simp only[aC,aA]))]|rw[aE,if_pos (α:=aD) (by omega)]));exact h21
   ·(repeat (first|rw[aG,if_neg (α:=aD) (by(try simp only[aC,aA]);omega)]|rw[aE,if_neg (α:=aD) (by omega)]|rw[aG,if_pos (α:=aD) (by(try simp only[aC,aA]))]|rw[aE,if_pos (α:=aD) (by omega)]));exact hM1
   ·refine⟨by have:=hkp.next;simp;omega,fun l hl=>?_⟩
    have:=hkp.next
    (repeat (first|rw[aG,if_neg (α:=aD) (by(try simp only[aC,aA]);omega)]|rw[aE,if_neg (α:=aD) (by omega)]|rw[aG,if_pos (α:=aD) (by(try simp only[aC,aA]))]|rw[aE,if_pos (α:=aD) (by omega)]));rw[hk1.H l (by omega)];exact hkp.H l hl
  ·clear f1 f2 f3 f11 hG h2 hsn hkp hM fr
   rintro j fr s2 hlt ⟨f2,f3,f6,f33,h22,hM2,hs2,hkp,t,hB,t1,t2,t3,t4⟩ fi fn J hJ
   have hd:=qG g.vs j hlt
   have htk:=kG g.vs (fun v=>g.es.any (lI v)) j hlt
   have hfl:=List.length_filter_le (fun v=>g.es.any (lI v)) (g.vs.take j)
   rw[List.length_take]at hfl
   generalize g.vs.getD j 0=v at *
   generalize (g.vs.take j).filter (fun v=>g.es.any (lI v))=F at *
   obtain⟨c,c1,c2,c3,c4⟩:=hC v
   cases hany:g.es.any (lI v)
   ·have hc:¬0<c:=fun h=>by have h2:=c4.1 h;simp only[hany]at h2;cases h2
    rw[hany,if_neg (by simp),List.append_nil]at htk
    (repeat' (first|refine qS ?_|(refine qK ?_;simp only[ak,reduceIte])|(refine qC ?_;simp[f3,f33,fi,fn,hd,hlt,hM2,c1,hc])|(refine w_e [] ?_;intro J hJ;simp only[];simp[f3,f33,fi,fn,hd,hlt,hM2,c1,hc];(refine hJ _ _ ?_;clear hJ J;simp only[ak,reduceIte]))))
    exact hJ _ _ (by simp[fi]) (by simp[fn]) ⟨by simp[f2],by simp[f3],by simp[f6],by simp[f33],h22,hM2,hs2,hkp,t,by rw[htk];exact hB,by rw[htk];exact⟨t1,t2,t3,t4⟩⟩
   ·have hc:0<c:=c4.2 hany
    rw[hany,if_pos rfl]at htk
    have q1:¬t=s2.next:=by omega
    have q2:¬s1.next=s2.next:=by omega
    have q3:¬s1.next=s2.next+1:=by omega
    have q4:¬s1.next=t:=aBd hB t4 (by simp)
    have q5:¬st.next+1=t:=aBd h22 t4 (by simp)
    have q6:¬st.next+2=t:=aBd hM2 t4 (by simp)
    (repeat' (first|refine qS ?_|(refine qC ?_;simp[f3,f6,f33,fi,fn,hd,hlt,hM2,c1,hc,hB,t4,q1,q2,q3,q4,t1])|(refine w_e [] ?_;intro J hJ;simp only[];simp[f3,f6,f33,fi,fn,hd,hlt,hM2,c1,hc,hB,t4,q1,q2,q3,q4,t1];(repeat refine ca ?_);(refine hJ _ _ ?_;clear hJ J;simp only[ak,reduceIte]))))
    refine hJ _ _ (by simp[fi]) (by simp[fn]) ⟨by simp[f2],by simp[f3],by simp[f6],by simp[f33],?_,?_,by simp;omega,?_,s2.next+1,by rw[htk];simp,by rw[htk];exact⟨by omega,by omega,by simp,by(repeat (first|rw[aG,if_neg (α:=aD) (by(try simp only[aC,aA]);omega)]|rw[aE,if_neg (α:=aD) (by omega)]|rw[aG,if_pos (α:=aD) (by(try simp only[aC,aA]))]|rw[aE,if_pos (α:=aD) (by omega)]));simp⟩⟩
    ·(repeat (first|rw[aG,if_neg (α:=aD) (by(try simp only[aC,aA]);omega)]|rw[aE,if_neg (α:=aD) (by omega)]|rw[aG,if_pos (α:=aD) (by(try simp only[aC,aA]))]|rw[aE,if_pos (α:=aD) (by omega)]));exact h22
    ·(repeat (first|rw[aG,if_neg (α:=aD) (by(try simp only[aC,aA]);omega)]|rw[aE,if_neg (α:=aD) (by omega)]|rw[aG,if_pos (α:=aD) (by(try simp only[aC,aA]))]|rw[aE,if_pos (α:=aD) (by omega)]));exact hM2
    ·refine⟨by have:=hkp.next;simp;omega,fun l hl=>?_⟩
     have:=hkp.next
     (repeat (first|rw[aG,if_neg (α:=aD) (by(try simp only[aC,aA]);omega)]|rw[aE,if_neg (α:=aD) (by omega)]|rw[aG,if_pos (α:=aD) (by(try simp only[aC,aA]))]|rw[aE,if_pos (α:=aD) (by omega)]));exact hkp.H l hl
  ·clear f1 f2 f3 f11 hG h2 hsn hkp hM fr
   rintro fr s2 ⟨f2,f3,f6,f33,h22,hM2,hs2,hkp,t,hB,t1,t2,t3,t4⟩
   rw[List.take_length]at hB
   (repeat' (first|refine qS ?_|(refine qR ?_;simp only[ak,reduceIte];simp[f2,f6,h22,hB,e2])|(refine w_e [] ?_;intro J hJ;simp only[];simp[f2,f6,h22,hB,e2];(refine hJ _ _ ?_;clear hJ J;simp only[ak,reduceIte]))))
   refine⟨?_,hkp.set (by omega) _⟩
   simp only[z0,z0L,iO,kZ]
def fO(L:Gr)(x:Ed):Gr:=⟨L.vs,L.es.filter fun y=>decide (y≠x)⟩
def hU(P:Gr→Bool):Gr→List Ed→Gr
 |L,[]=>L
 |L,x::xs=>hU P (if P (fO L x)=true then fO L x else L) xs
def sW(P:Gr→Bool)(D:Gr→Prop):Gr→List Ed→Prop
 |_,[]=>True
 |L,x::xs=>D (fO L x)∧sW P D (if P (fO L x)=true then fO L x else L) xs
def aDV(g:Gr):Gr:=⟨g.vs.filter fun v=>g.es.any (lI v),g.es⟩
theorem aFD(g:Gr)(hv:g.vs.length≤1000)(he:g.es.length≤10){o:Option Mp}(ho:(if chk g=0 then mU g (bW g)else some none)=some o)(st:St):
 aF Tryz.prog 18 [.ag (grL g)] st fun r st'=>r=bb o.isSome∧aB st st':=by
 refine qO aK Tryz.func18 rfl rfl Tryz.ntmps18 (rs:=[.tmp 2]) rfl (by simp) ?_
 (repeat' (first|refine qS ?_|(refine w_e [] ?_;intro J hJ;simp only[];simp[];(try (refine hJ _ _ ?_;clear hJ J;simp only[ak,reduceIte])))))
 refine qE (aEy g hv he ho _) (by simp) ?_;rintro r s1 ⟨rfl,hk1⟩
 unfold aFk
 cases o with
 |none=>
  (repeat' (first|refine qS ?_|(refine qR ?_;simp only[ak,reduceIte];simp[])|((first|(refine w_e [] ?_;intro J hJ;simp only[])|(refine aL ?_));simp[];(refine hJ _ _ ?_;clear hJ J;simp only[ak,reduceIte]))))
  exact((aB.new _ _).trans hk1).trans (aB.new _ _)
 |some m=>
  (repeat' (first|refine qS ?_|(refine qR ?_;simp only[ak,reduceIte];simp[])|((first|(refine w_e [] ?_;intro J hJ;simp only[])|(refine aL ?_));simp[];(refine hJ _ _ ?_;clear hJ J;simp only[ak,reduceIte]))))
  exact((aB.new _ _).trans hk1).trans (aB.new _ _)
def aPa(f:FuncId)(caps:List LV)(st:St)(D:Gr→Prop)(P:Gr→Bool):Prop:=∀ g,D g→∀ s,aB st s→aF Tryz.prog f (.ag (grL g)::caps) s fun r s'=>r=bb (P g)∧aB s s'
theorem aLk(x:Ed)(st:St):aF Tryz.prog 179 [.ag (edL x)] st fun r st'=>r=bb true∧aB st st':=by
 obtain⟨d,a,b⟩:=x
 refine qO aK Tryz.func179 rfl rfl Tryz.ntmps179 (rs:=[.tmp 2]) rfl (by simp) ?_
 (repeat' (first|refine qS ?_|(refine qR ?_;simp only[ak,reduceIte];simp[])|(refine w_e [] ?_;intro J hJ;simp only[];simp[];(refine hJ _ _ ?_;clear hJ J;simp only[ak,reduceIte]))))
 exact aB.new _ _
theorem aKI(x y:Ed)(q:Nat)(st:St)(hq:st.H q=.box 56 3 (edL x))(hqn:q<st.next):
 aF Tryz.prog 180 [.ag (edL y),.pt q 0] st fun r st'=>r=bb (decide (y≠x))∧aB st st':=by
 obtain⟨d,a,b⟩:=x
 obtain⟨d',a',b'⟩:=y
 have h1:¬q=st.next:=by omega
 refine qO aK Tryz.func180 rfl rfl Tryz.ntmps180 (rs:=[.tmp 3]) rfl (by simp) ?_
 (repeat' (first|refine qS ?_|(refine qR ?_;simp only[ak,reduceIte];simp[hq,h1])|(refine w_e [] ?_;intro J hJ;simp only[];simp[hq,h1];(refine hJ _ _ ?_;clear hJ J;simp only[ak,reduceIte]))))
 exact⟨rfl,aB.new _ _⟩
set_option maxHeartbeats 1000000 in
theorem aNY(g:Gr)(f:FuncId)(caps:List LV)(P:Gr→Bool)(D:Gr→Prop)(st:St)(hv:g.vs.length≤1000)(he:g.es.length≤1000)(hp:0<st.next)(hT:aPa f caps st D P)(hD:D g)(hA:P g=true→sW P D g g.es):
 aF Tryz.prog 128 [.ag (grL g),.fn (.func f) caps] st fun r st'=>r=.ag (grL (if P g=true then aDV (hU P g g.es)else⟨[],[]⟩))∧aB st st':=by
 refine bR ?_
 have hel:=aO g.es
 refine qO aK Tryz.func128 rfl rfl Tryz.ntmps128 (rs:=[.cell 4 25]) rfl (by simp) ?_
 (repeat' (first|refine qS ?_|(refine w_e [] ?_;intro J hJ;simp only[];simp[];(try (refine hJ _ _ ?_;clear hJ J;simp only[ak,reduceIte])))))
 refine qE (aFC g _ [] (fun _=>true) _ hv he (fun x _ s _=>aLk x s)) (by simp[grL]) ?_;rintro r s1 ⟨rfl,hk1⟩
 rw[List.filter_eq_self.2 (fun _ _=>rfl)]
 have hn1:=hk1.next
 simp only[aA]at hn1
 have hG1:s1.H st.next=.box 25 2 (grL g):=by rw[hk1.H _ (by simp;omega)];simp
 have hR1:s1.H (st.next+1)=.box 25 2 [.nil,.nil]:=by rw[hk1.H _ (by simp)];simp
 have hK1:aB st s1:=((aB.new _ _).trans (aB.new _ _)).trans hk1
 have a1:¬st.next=s1.next:=by omega
 have a2:¬st.next+1=s1.next:=by omega
 clear hk1
 (repeat' (first|refine qS ?_|((first|(refine w_e [] ?_;intro J hJ;simp only[])|(refine aL ?_));simp[];(try (refine hJ _ _ ?_;clear hJ J;simp only[ak,reduceIte])))))
 refine qF (hT g hD _ (hK1.trans (aB.new _ (.box 25 2 (grL g))))) ?_;rintro r s2 ⟨rfl,hk2⟩
 have hn2:=hk2.next
 simp only[aA]at hn2
 have hG2:s2.H st.next=.box 25 2 (grL g):=by rw[hk2.H _ (by simp;omega)];simp[a1,hG1]
 have hR2:s2.H (st.next+1)=.box 25 2 [.nil,.nil]:=by rw[hk2.H _ (by simp;omega)];simp[a2,hR1]
 have hL2:s2.H s1.next=.box 25 2 (grL g):=by rw[hk2.H _ (by simp)];simp
 have hK2:aB st s2:=(hK1.trans (aB.new _ _)).trans hk2
 clear hk2 hG1 hR1
 cases hP:P g with
 |false=>
  (repeat' (first|refine qS ?_|(refine qR ?_;simp only[ak,reduceIte];simp[hP,hR2])|(refine qC ?_;simp[hP,hR2])|((first|(refine w_e [] ?_;intro J hJ;simp only[])|(refine aL ?_));simp[hP,hR2];(refine hJ _ _ ?_;clear hJ J;simp only[ak,reduceIte]))))
  refine⟨by simp[z0,z0L,grL],hK2.set (by omega) _⟩
 |true=>
 (repeat' (first|refine qS ?_|refine qB ?_|(refine qK ?_;simp only[ak,reduceIte])|(refine qC ?_;simp[hP,hG2])|((first|(refine w_e [] ?_;intro J hJ;simp only[])|(refine aL ?_));simp[hP,hG2];(refine hJ _ _ ?_;clear hJ J;simp only[ak,reduceIte]))))
 refine aP 19 18 20 30 (g.es.length) (fun j fr st2=>fr 1=.fn (.func f) caps∧fr 4=.pt (st.next+1) 0∧fr 5=.pt s1.next 0∧fr 17=.sl 0 g.es.length (eds g.es)∧st2.H (st.next+1)=.box 25 2 [.nil,.nil]∧s1.next<st2.next∧aB st st2∧∃ L:Gr,st2.H s1.next=.box 25 2 (grL L)∧L.vs.length≤g.vs.length∧L.es.length≤g.es.length∧sW P D L (g.es.drop j)∧hU P L (g.es.drop j)=hU P g g.es) ?_ ?_ ?_
 ·exact⟨by simp,by simp,by simp,by simp,hR2,by omega,hK2,g,hL2,Nat.le_refl _,Nat.le_refl _,by simpa using hA hP,by simp⟩
 ·clear hG2 hR2 hL2
  rintro j fr s hlt ⟨f1,f4,f5,f17,hR,hsn,hK,L,hL,hLv,hLe,hAs,hLe2⟩ fi fn JO hJO
  have hd:=bE g.es j hlt
  have hdr:g.es.drop j=g.es.getD j ed0::g.es.drop (j+1):=by
   rw[List.getD_eq_getElem?_getD,List.getElem?_eq_getElem hlt];exact List.drop_eq_getElem_cons hlt
  rw[hdr]at hAs hLe2
  have hk3:j*3<g.es.length*3:=by omega
  generalize g.es.getD j ed0=x at *
  obtain⟨hDx,hAs⟩:=hAs
  simp only[hU]at hLe2
  have b1:¬s1.next=s.next:=by omega
  have hfl:=List.length_filter_le (fun y:Ed=>decide (y≠x)) L.es
  have hTe:aDX 180 [.pt s.next 0] (s.new (.box 56 3 (edL x))) L.es fun y=>decide (y≠x):=fun y _ s2 h2=>aKI x y s.next s2 (by rw[h2.H _ (by simp)];simp) (by have:=h2.next;simp at this;omega)
  obtain⟨dx,ax,bx⟩:=x
  (repeat' (first|refine qS ?_|(refine w_e [] ?_;intro J hJ;simp only[];simp[f1,f5,f17,fi,fn,hd,hel,hlt,hk3,hL,b1];(try (refine hJ _ _ ?_;clear hJ J;simp only[ak,reduceIte])))))
  refine qE (aFC L _ _ _ _ (by omega) (by omega) hTe) (by simp[grL]) ?_;rintro r s3 ⟨rfl,hk3'⟩
  have hn3:=hk3'.next
  simp only[aA]at hn3
  have hR3:s3.H (st.next+1)=.box 25 2 [.nil,.nil]:=by rw[hk3'.H _ (by simp;omega)];simp[show ¬st.next+1=s.next by omega,hR]
  have hL3:s3.H s1.next=.box 25 2 (grL L):=by rw[hk3'.H _ (by simp;omega)];simp[b1,hL]
  have hK3:aB st s3:=(hK.trans (aB.new _ _)).trans hk3'
  clear hk3' hL hR
  have c1:¬s1.next=s3.next:=by omega
  have c2:¬st.next+1=s3.next:=by omega
  change sW P D (if P (fO L ⟨dx,ax,bx⟩)=true then fO L ⟨dx,ax,bx⟩else L) (g.es.drop (j+1))at hAs
  have hlg:(⟨L.vs,L.es.filter fun y=>decide (y≠⟨dx,ax,bx⟩)⟩:Gr)=fO L ⟨dx,ax,bx⟩:=rfl
  have hlv:(fO L ⟨dx,ax,bx⟩).vs.length≤g.vs.length:=hLv
  have hle:(fO L ⟨dx,ax,bx⟩).es.length≤g.es.length:=by unfold fO;simp only;omega
  rw[hlg]
  generalize fO L ⟨dx,ax,bx⟩=L' at *
  (repeat' (first|refine qS ?_|((first|(refine w_e [] ?_;intro J hJ;simp only[])|(refine aL ?_));simp[f1];(try (refine hJ _ _ ?_;clear hJ J;simp only[ak,reduceIte])))))
  refine qF (hT L' hDx _ (hK3.trans (aB.new _ (.box 25 2 (grL L'))))) ?_;rintro r s4 ⟨rfl,hk4⟩
  have hn4:=hk4.next
  simp only[aA]at hn4
  have hR4:s4.H (st.next+1)=.box 25 2 [.nil,.nil]:=by rw[hk4.H _ (by simp;omega)];simp[c2,hR3]
  have hL4:s4.H s1.next=.box 25 2 (grL L):=by rw[hk4.H _ (by simp;omega)];simp[c1,hL3]
  have hX4:s4.H s3.next=.box 25 2 (grL L'):=by rw[hk4.H _ (by simp)];simp
  have hK4:aB st s4:=(hK3.trans (aB.new _ _)).trans hk4
  clear hk4
  cases hPx:P L' with
  |false=>
   rw[hPx,if_neg (by simp)]at hAs hLe2
   (repeat' (first|(refine qK ?_;simp only[ak,reduceIte])|(refine qC ?_;simp[])|(refine aL ?_;simp[];(refine hJ _ _ ?_;clear hJ J;simp only[ak,reduceIte]))))
   exact hJO _ _ (by simp[fi]) (by simp[fn]) ⟨by simp[f1],by simp[f4],by simp[f5],by simp[f17],hR4,by omega,hK4,L,hL4,hLv,hLe,hAs,hLe2⟩
  |true=>
   rw[hPx,if_pos rfl]at hAs hLe2
   have c3:¬st.next+1=s1.next:=by omega
   (repeat' (first|(refine qC ?_;simp[f5,hX4,hL4])|((first|(refine w_e [] ?_;intro J hJ;simp only[])|(refine aL ?_));simp[f5,hX4,hL4];(refine hJ _ _ ?_;clear hJ J;simp only[ak,reduceIte]))))
   exact hJO _ _ (by simp[fi]) (by simp[fn]) ⟨by simp[f1],by simp[f4],by simp[f5],by simp[f17],by simp[c3,hR4],by simp;omega,hK4.set (by omega) _,L',by simp,hlv,hle,hAs,hLe2⟩
 ·rintro fr s ⟨f1,f4,f5,f17,hR,hsn,hK,L,hL,hLv,hLe,hAs,hLe2⟩
  rw[List.drop_length]at hLe2
  simp only[hU]at hLe2
  rw[← hLe2]
  (repeat' (first|refine qS ?_|(refine w_e [] ?_;intro J hJ;simp only[];simp[f5,hL])))
  refine qE (aQy L _ (by omega) (by omega) (by omega)) (by simp[grL]) ?_;rintro r s3 ⟨rfl,hk3⟩
  have hR3:=(hk3.H (st.next+1) (by omega)).trans hR
  (repeat' (first|(refine qR ?_;simp only[ak,reduceIte];simp[f4,hR3])|(refine aL ?_;simp[f4,hR3];(refine hJ _ _ ?_;clear hJ J;simp only[ak,reduceIte]))))
  refine⟨by simp only[z0,z0L,grL,aDV,iO,kZ],(hK.trans hk3).set (by omega) _⟩
noncomputable def aDP(g:Gr):Option (Option Mp):=if chk g=0 then mU g (bW g)else some none
noncomputable def jK(g:Gr):Bool:=!((aDP g).getD none).isSome
def aIA(g:Gr):Prop:=g.vs.length≤1000∧g.es.length≤10∧∃ o,aDP g=some o
theorem aNx(g:Gr)(hD:aIA g)(st:St):aF Tryz.prog 129 [.ag (grL g)] st fun r st'=>r=bb (jK g)∧aB st st':=by
 obtain⟨hv,he,o,ho⟩:=hD
 have hn:jK g=!o.isSome:=by unfold jK;rw[ho];rfl
 rw[hn]
 refine qO aK Tryz.func129 rfl rfl Tryz.ntmps129 (rs:=[.tmp 2]) rfl (by simp) ?_
 (repeat' (first|refine qS ?_|(refine w_e [] ?_;intro J hJ;simp only[];simp[];(try (refine hJ _ _ ?_;clear hJ J;simp only[ak,reduceIte])))))
 refine qE (aFD g hv he ho _) (by simp) ?_;rintro r s1 ⟨rfl,hk1⟩
 (repeat' (first|(refine qR ?_;simp only[ak,reduceIte];simp[])|(refine aL ?_;simp[];(refine hJ _ _ ?_;clear hJ J;simp only[ak,reduceIte]))))
 exact(aB.new _ _).trans hk1
noncomputable def pS(g:Gr):LV:=.tu [.ag (grL (if chk g=0∧jK g=true then aDV (hU jK g g.es)else⟨[],[]⟩)),bb (decide (chk g=0)&&jK g)]
theorem aMI(g:Gr)(hD:aIA g)(hA:jK g=true→sW jK aIA g g.es)(st:St)(hp:0<st.next):
 aF Tryz.prog 92 [.ag (grL g)] st fun r st'=>r=pS g∧aB st st':=by
 obtain⟨hv,he,o,ho⟩:=hD
 have hn:jK g=!o.isSome:=by unfold jK;rw[ho];rfl
 refine bR ?_
 refine qO aK Tryz.func92 rfl rfl Tryz.ntmps92 (rs:=[.cell 2 25,.tmp 3]) rfl (by simp) ?_
 (repeat' (first|refine qS ?_|(refine w_e [] ?_;intro J hJ;simp only[];simp[];(try (refine hJ _ _ ?_;clear hJ J;simp only[ak,reduceIte])))))
 refine qE (Check g _ hv (by omega)) (by simp) ?_;rintro r s1 ⟨rfl,hk1⟩
 have hn1:=hk1.next
 simp only[aA]at hn1
 have hG1:s1.H st.next=.box 25 2 (grL g):=by rw[hk1.H _ (by simp;omega)];simp
 have hR1:s1.H (st.next+1)=.box 25 2 [.nil,.nil]:=by rw[hk1.H _ (by simp)];simp
 have hK1:aB st s1:=((aB.new _ _).trans (aB.new _ _)).trans hk1
 clear hk1
 by_cases hc:chk g=0
 rotate_left
 ·have hc2:(chk g != 0)=true:=by simpa using hc
  have hfr:pS g=.tu [.ag (grL ⟨[],[]⟩),bb false]:=by unfold pS;rw[if_neg fun h=>hc h.1,decide_eq_false hc];rfl
  (repeat' (first|refine qS ?_|(refine qR ?_;simp only[ak,reduceIte];simp[hc2,hR1])|(refine qC ?_;simp[hc2,hR1])|((first|(refine w_e [] ?_;intro J hJ;simp only[])|(refine aL ?_));simp[hc2,hR1];(refine hJ _ _ ?_;clear hJ J;simp only[ak,reduceIte]))))
  refine⟨by rw[hfr];simp[z0,z0L,grL],hK1.set (by omega) _⟩
 have hc2:(chk g != 0)=false:=by simpa using hc
 (repeat' (refine aL ?_;simp[hc2,hG1]))
 refine qE (aFD g hv he ho _) (by simp) ?_;rintro r s2 ⟨rfl,hk2⟩
 have hn2:=hk2.next
 have hG2:s2.H st.next=.box 25 2 (grL g):=(hk2.H _ (by omega)).trans hG1
 have hR2:s2.H (st.next+1)=.box 25 2 [.nil,.nil]:=(hk2.H _ (by omega)).trans hR1
 have hK2:aB st s2:=hK1.trans hk2
 clear hk2
 cases o with
 |some m=>
  have hnf:jK g=false:=hn
  have hfr:pS g=.tu [.ag (grL ⟨[],[]⟩),bb false]:=by unfold pS;rw[if_neg fun h=>by rw[hnf]at h;exact absurd h.2 (by simp),hnf];simp
  (repeat' (first|refine qS ?_|(refine qR ?_;simp only[ak,reduceIte];simp[hc2,hR2])|(refine qC ?_;simp[hc2,hR2])|((first|(refine w_e [] ?_;intro J hJ;simp only[])|(refine aL ?_));simp[hc2,hR2];(refine hJ _ _ ?_;clear hJ J;simp only[ak,reduceIte]))))
  refine⟨by rw[hfr];simp[z0,z0L,grL],hK2.set (by omega) _⟩
 |none=>
  have hnt:jK g=true:=hn
  have hfr:pS g=.tu [.ag (grL (aDV (hU jK g g.es))),bb true]:=by unfold pS;rw[if_pos ⟨hc,hnt⟩,hnt,decide_eq_true hc];rfl
  (repeat' (first|refine qS ?_|(refine qK ?_;simp only[ak,reduceIte])|(refine qC ?_;simp[hc2,hG2])|((first|(refine w_e [] ?_;intro J hJ;simp only[])|(refine aL ?_));simp[hc2,hG2];(try (refine hJ _ _ ?_;clear hJ J;simp only[ak,reduceIte])))))
  refine qE (aNY g 129 [] jK aIA _ hv (by omega) (by omega) (fun g' hg' s _=>aNx g' hg' s) ⟨hv,he,none,ho⟩ hA) (by simp) ?_;rintro r s3 ⟨rfl,hk3⟩
  rw[if_pos hnt]
  have hR3:s3.H (st.next+1)=.box 25 2 [.nil,.nil]:=(hk3.H _ (by omega)).trans hR2
  (repeat' (first|(refine qR ?_;simp only[ak,reduceIte];simp[hR3])|(refine aL ?_;simp[hR3];(refine hJ _ _ ?_;clear hJ J;simp only[ak,reduceIte]))))
  refine⟨by rw[hfr];simp only[z0,z0L,grL,iO,kZ],(hK2.trans hk3).set (by omega) _⟩
theorem aAD{P:Gr→Bool}{D:Gr→Prop}{L:Gr}:∀ {xs:List Ed},(∀ x∈xs,D (fO L x)∧P (fO L x)=false)→sW P D L xs∧hU P L xs=L
 |[],_=>⟨trivial,rfl⟩
 |x::xs,h=>by
  obtain⟨h1,h2⟩:=h x (by simp)
  have ih:=aAD (L:=L) fun y hy=>h y (List.mem_cons_of_mem _ hy)
  simp only[sW,hU,h2,Bool.false_eq_true,if_false]
  exact⟨⟨h1,ih.1⟩,ih.2⟩
def aNU(g:Gr):Bool:=decide (chk g=0)&&decide ((nW (sE g.es) g.vs.length g.vs ⟨[],[],[],[]⟩).map (·.out)=some [List.range (sE g.es).length])&&decide ((List.range (sE g.es).length).map (eAt (sE g.es))=g.es)&&decide (((mU g [g.es]).map Option.isSome)=some true)
theorem aJE{g:Gr}(h:aNU g=true):∃ m,aDP g=some (some m):=by
 unfold aNU at h
 simp only[Bool.and_eq_true,decide_eq_true_eq]at h
 obtain⟨⟨⟨h1,h2⟩,h3⟩,h4⟩:=h
 unfold aDP
 rw[if_pos h1,nO (eD h1) h2 (List.Perm.refl _) (by simp)]
 simp only[List.map_cons,List.map_nil,h3]
 cases he:mU g [g.es] with
 |none=>rw[he]at h4;cases h4
 |some o=>
  rw[he]at h4
  cases o with
  |none=>cases h4
  |some m=>exact⟨m,rfl⟩
theorem aGM:(cH.es.all fun x=>aNU (fO cH x))=true:=by decide +kernel
theorem aAt:jK cH=true:=by
 unfold jK aDP;rw[sO];rfl
theorem aAd:sW jK aIA cH cH.es∧hU jK cH cH.es=cH:=by
 refine aAD fun x hx=>?_
 obtain⟨m,hm⟩:=aJE (List.all_eq_true.1 aGM x hx)
 have hl:=List.length_filter_le (fun y:Ed=>decide (y≠x)) cH.es
 have hl2:cH.es.length=10:=rfl
 have hl3:(fO cH x).vs.length=5:=rfl
 refine⟨⟨by omega,by simp only[fO];omega,_,hm⟩,?_⟩
 unfold jK;rw[hm];rfl
theorem aGK:aDV cH=cH:=by decide
def aHx:Gr:=⟨[1],[]⟩
theorem aDj:chk aHx=0:=by decide +kernel
theorem aCm:aDP aHx=some (some ⟨aHx,[[]]⟩):=by
 unfold aDP
 rw[if_pos aDj,nO (eD aDj) (out:=[]) (by decide +kernel) (List.Perm.refl _) (by decide)]
 rfl
theorem wJ:jK aHx=false:=by unfold jK;rw[aCm];rfl
theorem aLJ(st:St):aF Tryz.prog 93 [] st fun r st'=>r=bb true∧st'=st:=by
 refine qO aK Tryz.func93 rfl rfl Tryz.ntmps93 (rs:=[.tmp 0]) rfl (by simp) ?_
 (repeat' (first|refine qS ?_|(refine w_e [] ?_;intro J hJ;simp only[];simp[];(try (refine hJ _ _ ?_;clear hJ J;simp only[ak,reduceIte])))))
 refine qE (aKx _) (by simp[]) ?_;rintro r st' ⟨rfl,rfl⟩
 (repeat' (first|(refine qR ?_;simp only[ak,reduceIte];simp[])|(refine aL ?_;simp[];(refine hJ _ _ ?_;clear hJ J;simp only[ak,reduceIte]))))
set_option maxHeartbeats 1000000 in
theorem aMr(st:St):aF Tryz.prog 58 [] st fun r st'=>r=bb true∧st'=st:=by
 refine qT (Q:=fun r=>r=bb true) ?_ fun r h=>by subst h;trivial
 refine qO aK Tryz.func58 rfl rfl Tryz.ntmps58 (rs:=[.tmp 0]) rfl (by simp) ?_
 refine dL fun hpos=>?_
 (repeat' (first|refine qS ?_|(refine w_e [] ?_;intro J hJ;simp only[];simp[];(try (refine hJ _ _ ?_;clear hJ J;simp only[ak,reduceIte])))))
 refine qE (aGe _) (by simp) ?_;rintro r s1 ⟨rfl,hk1⟩
 have hn1:=hk1.next
 have hF:=aMI cH ⟨by decide,by decide,none,by unfold aDP;exact sO⟩ (fun _=>aAd.1) s1 (by omega)
 unfold pS at hF
 rw[if_pos ⟨nR,aAt⟩,aAt,aAd.2,aGK,decide_eq_true nR]at hF
 (repeat' (refine aL ?_;simp[]))
 refine qE hF (by simp) ?_;rintro r s2 ⟨rfl,hk2⟩
 have hn2:=hk2.next
 have hF1:=fun st hp=>aMI aHx ⟨by decide,by decide,_,aCm⟩ (fun h=>by rw[wJ]at h;cases h) st hp
 unfold pS at hF1
 rw[if_neg fun h=>by rw[wJ]at h;exact absurd h.2 (by simp),wJ,Bool.and_false]at hF1
 (repeat' (first|refine qS ?_|((first|(refine w_e [] ?_;intro J hJ;simp only[])|(refine aL ?_));simp[];(try (refine hJ _ _ ?_;clear hJ J;simp only[ak,reduceIte])))))
 refine zQ (hF1 _ (by simp)) (by simp[z0,z0L,grL,aHx,us,eds]) ?_;rintro r s3 ⟨rfl,hk3⟩
 have hn3:=hk3.next
 simp only[aA]at hn3
 have hB3:s3.H s2.next=.box 25 2 (grL cH):=by rw[hk3.H _ (by simp;omega)];simp[show ¬s2.next=s2.next+1 by omega]
 have hK3:aB st s3:=((hk1.trans hk2).trans ((aB.new _ _).trans (aB.new _ _))).trans hk3
 have b1:¬s2.next=s3.next:=by omega
 (repeat' (first|refine qS ?_|(refine aL ?_;simp[];(refine hJ _ _ ?_;clear hJ J;simp only[ak,reduceIte]))))
 (refine w_s [] [s2.next] [(0,true),(1,true),(2,true),(3,true),(4,false),(5,true),(6,true),(7,true),(8,true),(9,true),(10,true),(11,true),(12,true),(13,true)] ?_;intro J hJ;simp[hB3,b1])
 refine qD (aGe _) (by simp) ?_;rintro r s4 ⟨rfl,hk4⟩
 have hn4:=hk4.next
 simp only[aA]at hn4
 have hB4:s4.H s2.next=.box 25 2 (grL cH):=by rw[hk4.H _ (by simp;omega)];simp[b1,hB3]
 refine⟨fun _=>by simp[hB4,hB3,b1],?_⟩
 (refine bN ?_;simp[hB4])
 refine qD (aGl cH cH _ (by decide) (by decide)) (by simp) ?_;rintro r s5 ⟨rfl,hk5⟩
 have hB5:=(hk5.H s2.next (by omega)).trans hB4
 refine⟨fun _=>by simp[hB5,hB3,b1],?_⟩
 (refine bN ?_;simp[hB5])
 refine qD (aLJ _) (by simp) ?_;rintro r s6 ⟨rfl,e6⟩
 rw[e6];clear e6 s6
 refine⟨fun _=>by simp[hB5,hB3,b1],?_⟩
 (refine bN ?_;simp[hB5];(refine hJ _ _ ?_;clear hJ J;simp only[ak,reduceIte]))
 (repeat' (refine qR ?_;simp only[ak,reduceIte];simp[]))
 exact((hK3.trans (aB.new _ _)).trans hk4).trans hk5
theorem aHG:eB cH=⟨5,[1,2,3,4,5],[[1,2],[1,3],[1,4],[1,5],[2,3],[2,4],[2,5],[3,4],[3,5],[4,5]]⟩:=by decide +kernel
theorem aJd:(tM cH).map (fun S=>S.W.length)=some 10:=by decide +kernel
theorem aMi(st:St):aF Tryz.prog 28 [] st fun r st'=>r=bb true∧st'=st:=by
 refine qO aK Tryz.func28 rfl rfl Tryz.ntmps28 (rs:=[.tmp 0]) rfl (by simp) ?_
 (repeat' (first|refine qS ?_|(refine w_e [] ?_;intro J hJ;simp only[];simp[];(try (refine hJ _ _ ?_;clear hJ J;simp only[ak,reduceIte])))))
 refine qE (aMr _) (by simp[]) ?_;rintro r st' ⟨rfl,rfl⟩
 (repeat' (first|(refine qR ?_;simp only[ak,reduceIte];simp[])|(refine aL ?_;simp[];(refine hJ _ _ ?_;clear hJ J;simp only[ak,reduceIte]))))
set_option maxHeartbeats 1000000 in
theorem aMe(st:St):aF Tryz.prog 7 [] st fun r st'=>r=bb true∧st'=st:=by
 refine qT (Q:=fun r=>r=bb true) ?_ fun r h=>by subst h;trivial
 refine qO aK Tryz.func7 rfl rfl Tryz.ntmps7 (rs:=[.tmp 0]) rfl (by simp) ?_
 refine dL fun hpos=>?_
 (repeat' (first|refine qS ?_|(refine w_e [] ?_;intro J hJ;simp only[];simp[];(try (refine hJ _ _ ?_;clear hJ J;simp only[ak,reduceIte])))))
 refine qE (aGe _) (by simp) ?_;rintro r s1 ⟨rfl,hk1⟩
 have hn1:=hk1.next
 have hF:=aML cH (by decide) (by decide) (fun _ S hS=>by have:=aJd;rw[hS]at this;simp at this;omega) s1 (by omega)
 rw[aHG]at hF
 simp only[rpL,bA]at hF
 (repeat' (refine aL ?_;simp[]))
 refine qE hF (by simp) ?_;rintro r s2 ⟨rfl,q1⟩
 rw[q1];clear q1 s2
 (repeat' (first|refine qS ?_|((first|(refine w_e [] ?_;intro J hJ;simp only[])|(refine aL ?_));simp[];(try (refine hJ _ _ ?_;clear hJ J;simp only[ak,reduceIte])))))
 refine qE (aMi _) (by simp) ?_;rintro r s3 ⟨rfl,q1⟩
 rw[q1];clear q1 s3
 (repeat' (first|(refine qR ?_;simp only[ak,reduceIte];simp[])|(refine aL ?_;simp[];(refine hJ _ _ ?_;clear hJ J;simp only[ak,reduceIte]))))
 exact hk1.trans (aB.new _ _)
end Go.Proofs.YtempldclppogmaaGreatDoor.Aw
namespace Go.Proofs.YtempldclppogmaaGreatDoor.Aw
open Go Go.RowKit Go.Proofs.YtempldclppogmaaGreatDoor.Pl
set_option maxHeartbeats 2000000 in
theorem CertWays(k:Gr)(st:St):aF Tryz.prog 3 [.ag (grL k)] st fun r st'=>r=bb true:=by
 refine qO aK Tryz.func3 rfl rfl Tryz.ntmps3 (rs:=[.tmp 2]) rfl (by simp) ?_
 refine dL fun hpos=>?_
 (repeat' (first|refine qS ?_|(refine w_e [] ?_;intro J hJ;simp only[];simp[];(try (refine hJ _ _ ?_;clear hJ J;simp only[ak,reduceIte])))))
 refine qE (aMe _) (by simp) ?_;rintro r s1 ⟨rfl,q1⟩
 rw[q1];clear q1 s1
 (repeat' (first|refine qS ?_|(refine qK ?_;simp only[ak,reduceIte])|(refine qC ?_;simp[])|((first|(refine w_e [] ?_;intro J hJ;simp only[])|(refine aL ?_));simp[];(try (refine hJ _ _ ?_;clear hJ J;simp only[ak,reduceIte])))))
 refine qE (aEt k _) (by simp) ?_;rintro r s1 ⟨rfl,hk1⟩
 have hn1:=hk1.next
 simp only[aA]at hn1
 have hG1:s1.H st.next=.box 25 2 (grL k):=by rw[hk1.H _ (by simp)];simp
 clear hk1
 by_cases hc:chk k=0
 rotate_left
 ·have hc2:(chk k != 0)=true:=by simpa using hc
  (repeat' (first|refine qS ?_|(refine qR ?_;simp only[ak,reduceIte];simp[hc2])|(refine qC ?_;simp[hc2])|((first|(refine w_e [] ?_;intro J hJ;simp only[])|(refine aL ?_));simp[hc2];(refine hJ _ _ ?_;clear hJ J;simp only[ak,reduceIte]))))
 have hc2:(chk k != 0)=false:=by simpa using hc
 by_cases h24:(24:Int)<k.vs.length
 ·(repeat' (first|refine qS ?_|(refine qR ?_;simp only[ak,reduceIte];simp[hc2,hG1,h24])|(refine qC ?_;simp[hc2,hG1,h24])|((first|(refine w_e [] ?_;intro J hJ;simp only[])|(refine aL ?_));simp[hc2,hG1,h24];(refine hJ _ _ ?_;clear hJ J;simp only[ak,reduceIte]))))
 by_cases h40:(40:Int)<k.es.length
 ·(repeat' (first|refine qS ?_|(refine qR ?_;simp only[ak,reduceIte];simp[hc2,hG1,h24,h40])|(refine qC ?_;simp[hc2,hG1,h24,h40])|((first|(refine w_e [] ?_;intro J hJ;simp only[])|(refine aL ?_));simp[hc2,hG1,h24,h40];(refine hJ _ _ ?_;clear hJ J;simp only[ak,reduceIte]))))
 obtain⟨-,hid,-,-⟩:=xB hc
 have hL:=aML k (by omega) (by omega) (fun hk=>aKR hc hk) s1 (by omega)
 have hT:=aGg (k:=k) (by omega)
 generalize eB k=R at *
 obtain⟨kd,br,W⟩:=R
 (repeat' (first|refine qS ?_|(refine qK ?_;simp only[ak,reduceIte])|(refine qC ?_;simp[hc2,hG1,h24,h40])|((first|(refine w_e [] ?_;intro J hJ;simp only[])|(refine aL ?_));simp[hc2,hG1,h24,h40];(try (refine hJ _ _ ?_;clear hJ J;simp only[ak,reduceIte])))))
 refine qE hL (by simp) ?_;rintro r s2 ⟨rfl,q1⟩
 rw[q1];clear q1 s2
 have a1:¬st.next=s1.next:=by omega
 simp only[rpL]
 rcases hT with hT|⟨hk0,hT⟩
 ·injection hT with e1 e2 e3
  subst e1 e2 e3
  have w0:IntKind.i64.wrap 0=0:=by decide
  (repeat' (first|refine qS ?_|(refine qR ?_;simp only[ak,reduceIte];simp[w0])|(refine qC ?_;simp[w0])|((first|(refine w_e [] ?_;intro J hJ;simp only[])|(refine aL ?_));simp[w0];(refine hJ _ _ ?_;clear hJ J;simp only[ak,reduceIte]))))
 have hk0':(kd==0)=false:=by simpa using hk0
 have hWl:W.length≤10:=by rw[hT.len];split<;>omega
 have hrl:(bA W).length=W.length:=by simp[bA]
 obtain⟨S,hS⟩:∃ S,S=s1.new (.box 31 3 [i kd,.sl 0 br.length (us br),.sl 0 W.length (bA W)]):=⟨_,rfl⟩
 have hSB:S.H s1.next=.box 31 3 [i kd,.sl 0 br.length (us br),.sl 0 W.length (bA W)]:=by rw[hS];simp
 have hSG:S.H st.next=.box 25 2 (grL k):=by rw[hS];simp[a1,hG1]
 have hSn:s1.next<S.next:=by rw[hS];simp
 (repeat' (first|refine qS ?_|refine qB ?_|(refine qK ?_;simp only[ak,reduceIte])|(refine qC ?_;simp[hk0,hk0'])|((first|(refine w_e [] ?_;intro J hJ;simp only[])|(refine aL ?_));simp[hk0,hk0'];(refine hJ _ _ ?_;clear hJ J;simp only[ak,reduceIte]))))
 refine aP 46 45 47 99 (W.length) (fun j fr st2=>fr 1=.pt st.next 0∧fr 3=.pt s1.next 0∧fr 44=.sl 0 W.length (bA W)∧fr 4=i (gL (W.take j))∧st2=S) ?_ ?_ ?_
 ·exact⟨by simp,by simp,by simp,by simp[gL],hS.symm⟩
 ·rintro j fr s hlt ⟨f1,f3,f44,f4,rfl⟩ fi fn J hJ
  clear hS
  have hd:=iE W j hlt
  have hwm:W.getD j []∈W:=by rw[gM _ _ hlt];exact List.getElem_mem _
  have hw:=hT.ways _ hwm
  have htk:W.take (j+1)=W.take j++[W.getD j []]:=by rw[gM _ _ hlt];exact List.take_succ_eq_append_getElem hlt
  have hsum:gL (W.take (j+1))=gL (W.take j)+((W.getD j []).length-1:Nat):=by rw[htk];simp only[gL,List.map_append,List.map_cons,List.map_nil,List.sum_append,List.sum_cons,List.sum_nil];omega
  have hsb:0≤gL (W.take j)∧gL (W.take j)≤1000*W.length:=by
   have:∀ L:List (List Int),(∀ w∈L,w.length≤1000)→0≤gL L∧gL L≤1000*L.length:=by
    intro L
    induction L with
    |nil=>intro _;simp[gL]
    |cons w L ih=>
     intro h
     have h1:=ih fun x hx=>h x (List.mem_cons_of_mem _ hx)
     have h2:=h w (by simp)
     simp only[gL,List.map_cons,List.sum_cons,List.length_cons]at h1 ⊢
     omega
   have h1:=this (W.take j) fun w hw=>(hT.ways w (List.mem_of_mem_take hw)).le
   rw[List.length_take]at h1
   omega
  have hprev:0<j→(W.getD (j-1) []).getD 0 0<(W.getD j []).getD 0 0∨((W.getD (j-1) []).getD 0 0=(W.getD j []).getD 0 0∧(W.getD (j-1) []).getD ((W.getD (j-1) []).length-1) 0<(W.getD j []).getD ((W.getD j []).length-1) 0):=fun h0=>by
   rw[gM _ _ hlt,gM _ _ (by omega:j-1<W.length)]
   exact List.pairwise_iff_getElem.1 hT.rise (j-1) j (by show j-1<W.length;omega) hlt (by omega)
  have hdp:=fun h:0<j=>iE W (j-1) (by omega)
  have hpm:0<j→aFn k (W.getD (j-1) []):=fun h=>hT.ways _ (by rw[gM _ _ (by omega:j-1<W.length)];exact List.getElem_mem _)
  obtain⟨w,hw0⟩:∃ w,W.getD j []=w:=⟨_,rfl⟩
  rw[hw0]at hd hwm hw htk hsum
  simp only[hw0]at hprev
  have hwl:=hw.le
  have hw2:=hw.two'
  have w1:IntKind.i64.wrap ((w.length:Int)-1)=((w.length-1:Nat):Int):=by rw[wrap_i64 _ (by omega) (by omega)];omega
  have w2:IntKind.i64.wrap (gL (W.take j)+((w.length-1:Nat):Int))=gL (W.take (j+1)):=by rw[hsum];exact wrap_i64 _ (by omega) (by omega)
  have hnx:∀ f s2,f 1=.pt st.next 0→f 3=.pt s1.next 0→f 44=.sl 0 W.length (bA W)→f 46=i j→f 45=i W.length→f 4=i (gL (W.take (j+1)))→s2=s→J f s2:=fun f s2 q1 q2 q3 q4 q5 q6 q7=>hJ f s2 q4 q5 ⟨by simp[q1],by simp[q2],by simp[q3],by simp[q6],q7⟩
  clear hJ
  have hrW:=aMV k hid (by omega) w hw 0 s
  generalize gL (W.take j)=σ at *
  generalize gL (W.take (j+1))=σ' at *
  by_cases hj0:j=0
  ·subst hj0
   (repeat' (first|refine qS ?_|(refine w_e [] ?_;intro J hJ;simp only[];simp[f1,f44,fi,fn,hlt,hd,hSG,hrl];(try (refine hJ _ _ ?_;clear hJ J;simp only[ak,reduceIte])))))
   refine qE hrW (by simp[grL]) ?_;rintro r s2 ⟨rfl,q1⟩
   rw[q1];clear q1 s2
   (repeat' (first|refine qS ?_|(refine qK ?_;simp only[ak,reduceIte])|(refine qX ?_;simp only[ak,reduceIte])|(refine qC ?_;simp[f4,w1,w2,fi])|((first|(refine w_e [] ?_;intro J hJ;simp only[])|(refine aL ?_));simp[f4,w1,w2,fi];(refine hJ _ _ ?_;clear hJ J;simp only[ak,reduceIte]))))
   exact hnx _ _ (by simp[f1]) (by simp[f3]) (by simp[f44]) (by simp[fi]) (by simp[fn]) (by simp) rfl
  have hj0':((j:Int)==0)=false:=by simp;omega
  have hp:=hprev (by omega)
  have hdp:=hdp (by omega)
  have hpw:=hpm (by omega)
  have w3:IntKind.i64.wrap ((j:Int)-1)=((j-1:Nat):Int):=by rw[wrap_i64 _ (by omega) (by omega)];omega
  have hjl:j-1<W.length:=by omega
  have hjl':((j-1:Nat):Int)<W.length:=by omega
  generalize W.getD (j-1) []=p at *
  have hpl:=hpw.le
  have hp2:=hpw.two'
  have d1:=qG w 0 (by omega)
  have d2:=qG w (w.length-1) (by omega)
  have d3:=qG p 0 (by omega)
  have d4:=qG p (p.length-1) (by omega)
  rw[List.drop_zero]at d1 d3
  have h1:hdL (us w)=u (w.getD 0 0):=by rw[d1];rfl
  have h3:hdL (us p)=u (p.getD 0 0):=by rw[d3];rfl
  generalize w.getD 0 0=c at *
  generalize w.getD (w.length-1) 0=d at *
  generalize p.getD 0 0=a at *
  generalize p.getD (p.length-1) 0=b at *
  clear d1 d3
  have w4:IntKind.i64.wrap ((p.length:Int)-1)=((p.length-1:Nat):Int):=by rw[wrap_i64 _ (by omega) (by omega)];omega
  have e1:w.length-1<w.length:=by omega
  have e1':((w.length-1:Nat):Int)<w.length:=by omega
  have e2:p.length-1<p.length:=by omega
  have e2':((p.length-1:Nat):Int)<p.length:=by omega
  have e3:0<w.length:=by omega
  have e4:0<p.length:=by omega
  have hca:¬c<a:=by omega
  (repeat' (first|refine qS ?_|(refine w_e [] ?_;intro J hJ;simp only[];simp[f1,f44,fi,fn,hlt,hd,hSG,hrl];(try (refine hJ _ _ ?_;clear hJ J;simp only[ak,reduceIte])))))
  refine qE hrW (by simp[grL]) ?_;rintro r s2 ⟨rfl,q1⟩
  rw[q1];clear q1 s2
  rcases hp with hp|⟨hp,hp'⟩
  ·have hac:(a==c)=false:=by simp;omega
   (repeat' (first|refine qS ?_|(refine qK ?_;simp only[ak,reduceIte])|(refine qC ?_;simp[f3,f4,w1,w2,w3,w4,fi,fn,hj0',hSB,hjl,hjl',hdp,hrl,h1,h3,d2,d4,e1,e1',e2,e2',e3,e4,hca,hac])|((first|(refine w_e [] ?_;intro J hJ;simp only[])|(refine w_q ?_;intro J hJ)|(refine aL ?_));simp[f3,f4,w1,w2,w3,w4,fi,fn,hj0',hSB,hjl,hjl',hdp,hrl,h1,h3,d2,d4,e1,e1',e2,e2',e3,e4,hca,hac];(refine hJ _ _ ?_;clear hJ J;simp only[ak,reduceIte]))))
   exact hnx _ _ (by simp[f1]) (by simp[f3]) (by simp[f44]) (by simp[fi]) (by simp[fn]) (by simp) rfl
  ·have hdb:¬d≤b:=by omega
   subst hp
   (repeat' (first|refine qS ?_|(refine qK ?_;simp only[ak,reduceIte])|(refine qC ?_;simp[f3,f4,w1,w2,w3,w4,fi,fn,hj0',hSB,hjl,hjl',hdp,hrl,h1,h3,d2,d4,e1,e1',e2,e2',e3,e4,hca,hdb])|((first|(refine w_e [] ?_;intro J hJ;simp only[])|(refine w_q ?_;intro J hJ)|(refine aL ?_));simp[f3,f4,w1,w2,w3,w4,fi,fn,hj0',hSB,hjl,hjl',hdp,hrl,h1,h3,d2,d4,e1,e1',e2,e2',e3,e4,hca,hdb];(refine hJ _ _ ?_;clear hJ J;simp only[ak,reduceIte]))))
   exact hnx _ _ (by simp[f1]) (by simp[f3]) (by simp[f44]) (by simp[fi]) (by simp[fn]) (by simp) rfl
 ·rintro fr s ⟨f1,f3,f44,f4,rfl⟩
  rw[List.take_length,hT.sum]at f4
  have hlen:=hT.len
  have hbr:=hT.br
  simp only at hlen hbr
  have hBr:=aCL k hid (by omega) (by omega)
  rw[← hbr]at hBr
  have hbs:small br:=by unfold small;rw[hbr];have:=List.length_filter_le (fun v=>decide (2<(ends k.es v).length)) k.vs;omega
  by_cases h33:kd=33
  ·rw[if_pos h33]at hlen
   have hlen':(W.length:Int)=9:=by rw[hlen];rfl
   (repeat' (first|refine qS ?_|(refine qC ?_;simp[f3,hSB,h33])|(refine w_e [] ?_;intro J hJ;simp only[];simp[f3,hSB,h33];(refine hJ _ _ ?_;clear hJ J;simp only[ak,reduceIte]))))
   (refine w_s [] [st.next,s1.next] [(0,true),(1,true),(2,true),(3,true),(4,true),(5,true),(6,true),(7,true),(8,true),(9,true),(10,true),(11,true),(12,true),(13,true),(14,true),(15,true),(16,true),(17,true),(18,true),(19,true)] ?_;intro J hJ;simp[f1,f3,hSB,hSG])
   refine qD (hBr s (by omega)) (by simp[grL]) ?_;rintro r s2 ⟨rfl,q1⟩
   rw[q1];clear q1 s2
   refine⟨fun _=>by simp,?_⟩
   (refine bN ?_;simp[])
   refine qD (aCj br br 0 0 s hbs) (by simp) ?_;rintro r s2 ⟨rfl,q1⟩
   rw[q1];clear q1 s2
   refine⟨fun _=>by simp,?_⟩
   (refine bN ?_;simp[f1,f3,f4,hSB,hSG,hlen',hrl];(refine hJ _ _ ?_;clear hJ J;simp only[ak,reduceIte]))
   (repeat' (refine qR ?_;simp only[ak,reduceIte];simp[]))
  ·rw[if_neg h33]at hlen
   have hlen':(W.length:Int)=10:=by rw[hlen];rfl
   have h33':(kd==33)=false:=by simpa using h33
   (repeat' (first|refine qS ?_|(refine qK ?_;simp only[ak,reduceIte])|(refine qC ?_;simp[f3,hSB,h33,h33'])|(refine w_e [] ?_;intro J hJ;simp only[];simp[f3,hSB,h33,h33'];(refine hJ _ _ ?_;clear hJ J;simp only[ak,reduceIte]))))
   (refine w_s [] [st.next,s1.next] [(0,true),(1,true),(2,true),(3,true),(4,true),(5,true),(6,true),(7,true),(8,true),(9,true),(10,true),(11,true),(12,true),(13,true),(14,true),(15,true),(16,true),(17,true),(18,true),(19,true)] ?_;intro J hJ;simp[f1,f3,hSB,hSG])
   refine qD (hBr s (by omega)) (by simp[grL]) ?_;rintro r s2 ⟨rfl,q1⟩
   rw[q1];clear q1 s2
   refine⟨fun _=>by simp,?_⟩
   (refine bN ?_;simp[])
   refine qD (aCj br br 0 0 s hbs) (by simp) ?_;rintro r s2 ⟨rfl,q1⟩
   rw[q1];clear q1 s2
   refine⟨fun _=>by simp,?_⟩
   (refine bN ?_;simp[f1,f3,f4,hSB,hSG,hlen',hrl];(refine hJ _ _ ?_;clear hJ J;simp only[ak,reduceIte]))
   (repeat' (refine qR ?_;simp only[ak,reduceIte];simp[]))
theorem aAY(l0:List LV)(st:St)(h0:Shp tab 25 l0):aF Tryz.prog 3 [aHS tab 25 l0] st fun r st'=>r=bb true:=by
 obtain⟨g,rfl,_⟩:=aNA h0
 exact CertWays g st
end Go.Proofs.YtempldclppogmaaGreatDoor.Aw
