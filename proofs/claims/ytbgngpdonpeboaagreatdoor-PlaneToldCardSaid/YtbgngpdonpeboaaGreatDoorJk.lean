/- Maps, the document's: Face. -/
import Derived.Test.YtbgngpdonpeboaaGreatDoorJj
import Derived.Shelf.SlSortCmp.WholeK
import Derived.Shelf.SlSortCmp.QuietGrown
import Derived.Test.YtbgngpdonpeboaaGreatDoorAwShp
import Derived.Shelf.SlSortCmp.Whole1
import Derived.Shelf.SlSortCmp.NoneTotal
set_option linter.unusedVariables false
set_option linter.unusedSimpArgs false
set_option maxHeartbeats 1000000
open Go.Proofs.Tryz
namespace Go.Proofs.YtbgngpdonpeboaaGreatDoor
namespace Aw
open Go Go.RowKit Pl Eu
def Vj(m:Mp)(d:Int)(c:List Int):Prop:=(d∈aQ m.g.es/\∃ L,kW (fc m m.g.es) d L/\c=nrm L)\/(d∉aQ m.g.es/\c=[])
def YY(m:Mp)(d:Int)(st:St)(r:LV)(st':St):Prop:=(∃ c,r=.sl 0 c.length (us c)/\Vj m d c)/\aA st st'
theorem SM(m:Mp)(h:bM m)(d:Int)(st:St)(hv:m.g.vs.length<=1000)(he:m.g.es.length<=1000):
 aB prog 116 [.ag (mpL m),u d] st (YY m d st):=by
 have J7:∀ t∈m.rots,small t:=fun t ht=>by have:=h.row_le ht;unfold small;omega
 have hrl:=h.len;refine xG ?_;by_cases hd:d∈aQ m.g.es;rotate_left
 .have ht:=Sw (rs:=m.rots) fun t ht X6=>hd (h.turn_dart ht X6);refine zN func116 ntmps116 [.tmp 4] ?_
  (refine xj0 ?_;intro J hJ)
  refine qE (AD m d _ oO J7) sS ?_;rintro r s1 ⟨rfl,j7⟩;refine rR hJ ht ?_;exact⟨⟨[],rfl,.inr ⟨hd,rfl⟩⟩,(aA.new _ _).trans j7⟩
 have hP:=h.fc_per m.g.es (fun x hx=>hx);obtain⟨L,p,hp,hL,M7,R6⟩:=PV hP d;have hcyc:kW (fc m m.g.es) d L:=⟨p,hp,hL,M7,R6⟩;have hL':L=itL (fc m m.g.es) d p:=hL;have hdk:∀ k,it (fc m m.g.es) k d∈aQ m.g.es:=by
  intro k;induction k with
  |zero=>exact hd
  |succ k ih=>rw[bW];exact h.fc_dart _ _ ih
 have M8:p<=2*m.g.es.length:=by
  have:=(h.cyc_le hd hcyc).2
  rwa [hL',Ds]at this
 obtain⟨k0,J8,ht0,_⟩:=Pq (h.turn_of hd);have hfx:∀ x,x∈aQ m.g.es->fc m m.g.es x=sg m (tw x):=fun x hx=>by unfold fc;rw[Da hx]
 refine zN func116 ntmps116 [.tmp 4] ?_
 (repeat' (first|apply qS|(refine zE ?_;intro J hJ;simp[];(try (refine zJ hJ ?_;clear hJ J)))))
 refine qE (AD m d _ oO J7) sS ?_;rintro r s1 ⟨rfl,j7⟩;have I2:=j7.next;simp only[aG]at I2;have O2:s1.H st.next=.box 28 3 (mpL m):=by rw[j7.H _ sS];simp
 (repeat' (first|apply qS|apply qB|refine qK (zZ ?_)|(apply qC;simp[ht0];(try with_reducible refine⟨?_,?_⟩)<;>(try with_reducible intro hc)<;>try (exfalso;omega))|((first|(refine zE ?_;intro J hJ)|(apply cD));simp[ht0];(refine zJ hJ ?_;clear hJ J))))
 refine fE fun E0=>?_;refine kD 5 34 1 sS ?_;generalize hf:fc m m.g.es=f at *;refine qL (fun n fr st2=>∃ k:Nat,k<p/\n=p-k/\fr 1=u d/\fr 2=.pt st.next 0/\fr 6=u (it f k d)/\st2.H st.next=.box 28 3 (mpL m)/\∃ t,fr 5=.sl t k (us (itL f d k))/\(t≠0/\st.next<t/\t<st2.next)/\st2.H t=.own 34 1 k/\aA st st2) p ?_ ?_
 .exact⟨0,oO,oO,sS,sS,by simp[it],by simp[show ¬st.next=s1.next by omega,O2],s1.next,by simp[itL],⟨oO,oO,sS⟩,sS,((aA.new _ _).trans j7).trans (aA.new _ _)⟩
 rintro n fr st2 ⟨k,hk,rfl,f1,f2,f6,hG,t,f5,⟨t0,t1,t2⟩,htH,j5⟩ JJ hJJ;have K2:=j5.next;have hxd:=hdk k;have hx1:=JX h hxd;obtain⟨kt,hkt,htx,E7⟩:=Pq (h.turn_of (KA.2 hxd));have O0:=nV m.rots kt hkt;have hRl:kt<(fF m.rots).length:=by simpa using hkt
 have htin:m.rots.getD kt []∈m.rots:=by rw[jC _ _ hkt];exact aAz _
 have hsmt:=J7 _ htin;have D9:nx (m.rots.getD kt []) (tw (it f k d))=it f (k+1) d:=by rw[bW,hfx _ hxd,Dg h htin E7]
 have hLn:=Qf f d k;have hLl:=Ds f d k;have hstop:it f (k+1) d=d->k+1=p:=fun e=>by
  rcases aAK (k+1) p with h1|h1
  .exact absurd e (R6 _ oO h1)
  .omega
 have Z4:¬it f (k+1) d=d->k+1<p:=fun e=>by
  rcases aAK (k+1) p with h1|h1
  .exact h1
  .exact absurd (by rw[show k+1=p by omega];exact M7) e
 generalize itL f d k=Lk at *;generalize m.rots.getD kt []=tt at *;generalize hxe:it f k d=x at *;generalize hye:it f (k+1) d=y at *;have m1:¬t=st2.next:=oO;have m2:¬st.next=st2.next:=oO;have m3:¬st.next=st2.next+1:=oO;have m4:¬st.next=t:=oO
 (repeat' (first|apply qS|apply qB|(refine zE ?_;intro J hJ;simp[f1,f2,f5,f6,htH,t0,m1,hLl];(repeat refine ca ?_);(try (refine zJ hJ ?_;clear hJ J)))))
 refine qE (Ry x _ oO oO) sS ?_;rintro r s3 ⟨rfl,rfl⟩;refine xw0 ?_
 (refine zS [] [st.next] [0,2,4,6,14,8,10,12,16,18] ?_;intro J hJ;simp[f2,hG,m2,m3,m4])
 refine qD (AD m (tw x) _ oO J7) sS ?_;rintro r s4 ⟨rfl,F5⟩;have W8:=F5.next;have hG4:=F5.H st.next (by simp;omega);simp[m2,m3,m4,hG]at hG4;refine⟨fun _=>by simp[m2,m3,m4,hG,hG4],?_⟩;rw[htx]
 (apply bL;simp[f2,hG4,O0,hkt,hRl,m2,m3,m4,hG])
 refine qD (QY tt 0 (tw x) _ hsmt) rfl ?_;rintro r s5 ⟨rfl,rfl⟩;rw[D9];refine⟨fun _=>by simp[m2,m3,m4,hG,hG4],?_⟩
 (apply bL;simp[hG4,m2,m3,m4,hG];(refine zJ hJ ?_;clear hJ J))
 have hkp4:aA st s5:=(((j5.trans (aA.new _ _)).set oO _).trans (aA.new _ _)).trans F5;have htH4:=F5.H (st2.next+1) sS;simp at htH4 W8;by_cases hyd:y=d
 .have N5:=hstop hyd
  (repeat' (first|apply qS|(apply qC;simp[hyd,f1])|(refine zE ?_;intro J hJ;simp[hyd,f1];(try (refine zJ hJ ?_;clear hJ J)))))
  refine qE (AL L (st2.next+1) _ (by rw[hL',small,Ds];omega)) ?_ ?_
  .rw[hL',<- N5,hLn];simp[hLl]
  rintro r s6 ⟨rfl,hk6⟩;refine xw0 ?_;exact⟨⟨nrm L,by rw[cJ],.inl ⟨hd,L,by rw[hf];exact hcyc,rfl⟩⟩,hkp4.trans hk6⟩
 .have N5:=Z4 hyd;refine xw2 hyd f1 ?_;refine hJJ (p-(k+1)) _ _ oO ⟨k+1,N5,rfl,sF1 f1,sF1 f2,sF1 hye,hG4,st2.next+1,sF1 hLn,⟨oO,oO,oO⟩,htH4,hkp4⟩
def WW(m:Mp)(st:St)(r:LV)(st':St):Prop:=(∃ t R,r=.sl t R.length (FP R)/\rN (fc m m.g.es) (aQ m.g.es) (aQ m.g.es).length R)/\aA st st'
structure RfI(m:Mp)(st:St)(K:Nat)(fr:Frm)(st2:St):Prop where
 f1:fr 1=.pt st.next 0
 hG:st2.H st.next=.box 28 3 (mpL m)
 kp:aA st st2
 lt:st.next<st2.next
 rows:∃ t R,fr 3=.sl t R.length (FP R)/\rN (fc m m.g.es) (aQ m.g.es) K R/\(t≠0/\st.next<t/\t<st2.next)/\st2.H t=.own 22 1 R.length
theorem RfI.fr{m:Mp}{st:St}{K:Nat}{fr c7:Frm}{st2 F9:St}(h:RfI m st K fr st2)(h3:c7 3=fr 3)(h1:c7 1=fr 1)(hk:aA st2 F9):RfI m st K c7 F9:=by obtain⟨f1,hG,kp,lt,t,R,f3,hL,⟨t0,t1,t2⟩,hH⟩:=h;have:=hk.next;exact⟨h1.trans f1,(hk.H _ lt).trans hG,kp.trans hk,oO,t,R,h3.trans f3,hL,⟨t0,t1,oO⟩,(hk.H _ t2).trans hH⟩
theorem Ns(m:Mp)(h:bM m)(st:St)(hv:m.g.vs.length<=1000)(he:m.g.es.length<=1000):
 aB prog 74 [.ag (mpL m)] st (WW m st):=by
 have hel:=aJ m.g.es;have Y0:=nC m.g.es;have hP:=h.fc_per m.g.es (fun x hx=>hx);refine zN func74 ntmps74 [.tmp 2] ?_;refine xw0 ?_;refine fE fun E0=>?_;refine kD 3 22 1 sS ?_;refine aY 12 11 13 39 (m.g.es.length) (fun j fr st2=>fr 10=.sl 0 m.g.es.length (eds m.g.es)/\RfI m st (2*j) fr st2) ?_ ?_ ?_
 .exact⟨sS,sS,sS,(aA.new _ _).trans (aA.new _ _),by simp;omega,st.next+1,[],sS,.zero,⟨oO,oO,sS⟩,sS⟩
 .rintro j fr s2 dQ ⟨f10,hI⟩ fi fn JJ hJJ;have hd:=aP m.g.es j dQ;have o9:j*3<m.g.es.length*3:=oO;have O4:m.g.es.getD j ed0∈m.g.es:=by rw[eH _ _ dQ];exact aAz _
  have E0:=h.g.pos _ O4;have hg:=NP m.g.es j dQ;generalize hx:m.g.es.getD j ed0=x at *;obtain⟨id,a,b⟩:=x;simp only at E0 hd hg;have w1:IntKind.u32.wrap (2*id)=2*id:=wrap_u32' _ oO oO;have w2:IntKind.u32.wrap (2*id+2)=2*id+2:=wrap_u32' _ oO oO;refine xw8 fi fn f10 hd hel o9 w1 w2 ?_;refine qL (fun n fr st2=>∃ e:Nat,e<=2/\n=2-e/\fr 6=u (2*id+e)/\fr 5=.pt s2.next 0/\fr 10=.sl 0 m.g.es.length (eds m.g.es)/\fr 12=i j/\fr 11=i m.g.es.length/\st2.H s2.next=.box 36 3 (edL ⟨id,a,b⟩)/\s2.next<st2.next/\RfI m st (2*j+e) fr st2) 2 ?_ ?_
  .exact⟨0,oO,oO,sS,sS,sF1 f10,sF1 fi,sF1 fn,sS,sS,hI.fr sS sS (aA.new _ _)⟩
  clear f10 fi fn hI fr;rintro n fr st2 ⟨e,u9,rfl,f6,f5,f10,f12,f11,hX,hXl,hI⟩ J2 S5;rcases aAK e 2 with he2|he2;rotate_left
  .clear S5;obtain rfl:e=2:=oO;refine xw5 f6 f5 hX w1 w2 ?_;exact hJJ _ _ (sF1 f12) (sF1 f11) ⟨sF1 f10,hI.fr sS sS (aA.refl _)⟩
  clear hJJ;have hK:2*j+e<(aQ m.g.es).length:=oO;have hKd:(aQ m.g.es).getD (2*j+e) 0=2*id+e:=by
   rcases aAK e 1 with h1|h1
   .obtain rfl:e=0:=oO;rw[Nat.add_zero,hg.1];omega
   .obtain rfl:e=1:=oO;rw[hg.2];rfl
  have hdin:2*id+(e:Int)∈aQ m.g.es:=by rw[<- hKd,bB _ _ hK];exact aAz _
  have w3:IntKind.u32.wrap (2*id+e+1)=2*id+((e+1:Nat):Int):=by rw[wrap_u32' _ oO oO];omega
  have x8:2*id+(e:Int)<2*id+2:=oO;obtain⟨f1,hG,j5,U1,t,R,f3,hL,⟨t0,t1,t2⟩,hH⟩:=hI;have hRl:=hL.len
  (refine xj8 f6 f5 hX w1 w2 f1 hG x8 ?_;intro J hJ)
  refine qE (SM m h (2*id+e) _ hv he) sS ?_;rintro r s3 ⟨⟨c,rfl,hc⟩,o9⟩;rcases hc with⟨_,L,hc,rfl⟩|⟨x9,_⟩;rotate_left
  .exact absurd hdin x9
  have o8:=(h.cyc_le hdin hc).2;obtain⟨Lr,hLr⟩:=kW.head hc;obtain⟨nr,hnr⟩:=Pt L hc.ne;have r8:(nrm L).length=L.length:=cJ L;have V1:=hc;rw[<- hKd]at V1;have hld:=Rj hP (nN h.g.ids) (h.fc_dart _) hK V1;rw[hKd]at hld;have hL0:0<(nrm L).length:=by rw[hnr];simp
  have hn3:=o9.next;have gX:=(o9.H _ hXl).trans hX;have gH:=(o9.H _ t2).trans hH;have m1:¬t=s3.next:=oO;have m5:¬s2.next=t:=by rintro rfl;rw[hX]at hH;cases hH
  by_cases hs:Ll (fc m m.g.es) (aQ m.g.es) (2*j+e) (2*id+e)
  .have hmn:¬mn L=2*id+e:=fun e1=>(hld.2 e1) hs;have hL2:=rN.seen hL hK (by rw[hKd];exact hs);refine ON hJ f6 hnr hmn hL0 w3 ?_;exact S5 (2-(e+1)) _ _ oO ⟨e+1,oO,rfl,sS,sF1 f5,sF1 f10,sF1 f12,sF1 f11,gX,oO,sF1 f1,(o9.H _ U1).trans hG,j5.trans o9,oO,t,R,sF1 f3,hL2,⟨t0,t1,oO⟩,gH⟩
  .have hmn:=hld.1 hs;have hnL:nrm L=L:=GN hLr hmn;have hL2:=rN.lead hL hK (by rw[hKd];exact hs) V1;rw[hnL];subst hLr
   (repeat' (first|apply qS|(apply qC;simp[f6,w3,f3,gH,t0,m1])|((first|(refine zE ?_;intro J hJ)|(apply cD));simp[f6,w3,f3,gH,t0,m1];(repeat refine ca ?_);(refine zJ hJ ?_;clear hJ J))))
   exact S5 (2-(e+1)) _ _ oO ⟨e+1,oO,rfl,sS,sF1 f5,sF1 f10,sF1 f12,sF1 f11,by rw[bY,aAa (by simp only[bH,aG];omega),bR,aAa m5,bY,aAa oO];exact gX,by simp;omega,sF1 f1,by rw[bY,aAa (by simp only[bH,aG];omega),bR,aAa oO,bY,aAa oO];exact(o9.H _ U1).trans hG,(((j5.trans o9).trans (aA.new _ _)).set oO _).trans (aA.new _ _),by simp;omega,s3.next+1,R++[(2*id+e)::Lr],sS,hL2,⟨oO,oO,sS⟩,sS⟩
 .rintro fr st2 ⟨f10,hI⟩;obtain⟨t,R,f3,hL,_⟩:=hI.rows;refine xw1 f3 ?_;exact⟨⟨t,R,rfl,by rw[Y0];exact hL⟩,hI.kp⟩
noncomputable def gn(m:Mp):Nat:=(2*ncl (Reach m.g.es) m.g.vs+m.g.es.length-(alone m.g+m.g.vs.length+ncl (Orb (fc m m.g.es)) (aQ m.g.es))) / 2
theorem bM.gn{m:Mp}(h:bM m):2*ncl (Reach m.g.es) m.g.vs+m.g.es.length=2*gn m+alone m.g+m.g.vs.length+ncl (Orb (fc m m.g.es)) (aQ m.g.es):=by
 obtain⟨k,hk⟩:=h.euler;have:Aw.gn m=k:=by unfold Aw.gn;omega
 omega
theorem Nz(es:List Ed)(v:Int):(ends es v).length=0↔nbr es v=[]:=by rw[aCn,oR]
theorem Xh(m:Mp)(h:bM m)(st:St)(hv:m.g.vs.length<=1000)(he:m.g.es.length<=1000):
 aB prog 38 [.ag (mpL m)] st fun r st'=>r=i (2*gn m)/\aA st st':=by
 have hP:=h.fc_per m.g.es (fun x hx=>hx);have hgn:=h.gn;have hal:alone m.g<=m.g.vs.length:=aEe;have Y0:=nC m.g.es;have hid:Mf m.g.es:=fun x hx=>by have:=h.g.pos x hx;omega
 refine zN func38 ntmps38 [.tmp 2] ?_;refine xw0 ?_;refine aY 10 9 11 22 (m.g.vs.length) (fun j fr st2=>fr 1=.pt st.next 0/\fr 8=.sl 0 m.g.vs.length (us m.g.vs)/\fr 3=i ((m.g.vs.take j).countP fun v=>decide (nbr m.g.es v=[]):Nat)/\st2.H st.next=.box 28 3 (mpL m)/\aA st st2/\st.next<st2.next) ?_ ?_ ?_
 .exact⟨sS,sS,sS,sS,aA.new _ _,sS⟩
 .rintro j fr st2 dQ ⟨f1,f8,f3,hG,j5,O9⟩ fi fn JJ hJJ;have hd:=qG m.g.vs j dQ;have hct:=JP (fun v=>decide (nbr m.g.es v=[])) m.g.vs j dQ;have u9:(m.g.vs.take j).countP (fun v=>decide (nbr m.g.es v=[]))<=j:=aBg aEe (by simp;omega);generalize m.g.vs.getD j 0=v at *;generalize (m.g.vs.take j).countP (fun v=>decide (nbr m.g.es v=[]))=c at *
  (refine xj7 f1 f8 fi fn hd hG dQ ?_;intro J hJ)
  refine qE (Fu m.g v _ he hid) sS ?_;rintro r s3 ⟨⟨t,rfl⟩,o9⟩;have hn3:=o9.next;have e0:=Nz m.g.es v;have hw:=qN c oO;by_cases h0:nbr m.g.es v=[]
  .have e1:=e0.2 h0;rw[aAk (by simpa using h0)]at hct;refine nR hJ e1 f3 hw ?_;exact hJJ _ _ (sF1 fi) (sF1 fn) ⟨sF1 f1,sF1 f8,sF1 hct,(o9.H _ O9).trans hG,j5.trans o9,oO⟩
  .have e1:¬(ends m.g.es v).length=0:=fun e=>h0 (e0.1 e);rw[aAa (by simpa using h0)]at hct;generalize (ends m.g.es v).length=el at *;refine pX hJ e1 f3 ?_;exact hJJ _ _ (sF1 fi) (sF1 fn) ⟨sF1 f1,sF1 f8,sF2 hct f3,(o9.H _ O9).trans hG,j5.trans o9,oO⟩
 rintro fr st2 ⟨f1,f8,f3,hG,j5,O9⟩;rw[aAN]at f3;have f3':fr 3=i (alone m.g):=f3;clear f3;refine xw0 ?_
 (refine zS [] [st.next] [0,2,10,14,16,18,20,24,26,28,30,34,4,6,8,12,22,32,36,38,40,42] ?_;intro J hJ;simp[f1,f3',hG])
 refine qD (MG m.g _ h.g.toGood hv he) sS ?_;rintro r s1 ⟨⟨t,R,rfl,hR⟩,j7⟩;have I2:=j7.next;have O2:=(j7.H st.next oO).trans hG;refine⟨fun _=>by simp[O2,hG],?_⟩;have hRn:=hR.all;have hRl:=hR.len;generalize R.length=p at *;generalize alone m.g=al at *;have w1:IntKind.i64.wrap (2*(p:Int))=2*p:=zW;have w2:IntKind.i64.wrap (2*(p:Int)-al)=2*p-al:=zW;have w3:IntKind.i64.wrap (2*(p:Int)-al-m.g.vs.length)=2*p-al-m.g.vs.length:=zW;have w4:IntKind.i64.wrap (2*(p:Int)-al-m.g.vs.length+m.g.es.length)=2*p-al-m.g.vs.length+m.g.es.length:=zW
 (apply bL;simp[O2,hG,f1,f3',w1,w2,w3,w4])
 refine qD (Ns m h _ hv he) sS ?_;rintro r s3 ⟨⟨t3,F,rfl,hF⟩,o9⟩;have hG3:=(o9.H st.next oO).trans O2;refine⟨fun _=>by simp[hG3,O2,hG],?_⟩;have hFn:=hF.all hP;have hFl:=hF.len;generalize F.length=f at *;have w5:IntKind.i64.wrap (2*(p:Int)-al-m.g.vs.length+m.g.es.length-f)=2*(gn m:Int):=zW
 (apply bL;simp[hG3,O2,hG,w1,w2,w3,w4,w5,f1,f3'];(refine zJ hJ ?_;clear hJ J))
 refine xw0 ?_;exact(j5.trans j7).trans o9
end Aw
namespace Aw
open Go Go.RowKit Pl Go.Sort
def mU(x y:Int):Int:=if x<y then -1 else if y<x then 1 else 0
theorem HW(x y:Int):mU x y<0↔x<y:=by grind [mU]
theorem PK{α β:Type}{k:Nat}(f:α->List β):∀(l:List α) (t:Nat),(∀ x∈l,(f x).length=k)->t<l.length*k->∃ x,l[t / k]?=some x/\(l.flatMap f)[t]?=(f x)[t % k]?
 |[],t,_,h=>by simp at h
 |a::l,t,hk,h=>by
  have h1:=hk a aAf;rw[aAJ];by_cases ht:t<k
  .exact⟨a,by rw[aDr ht];rfl,by rw[aAM ht,aAY oO]⟩
  .have k0:0<k:=by
    rcases aCs k with h0|h0
    .subst h0;simp at h
    .exact h0
   rw[List.length_cons,aDL]at h;obtain⟨x,h2,h3⟩:=PK f l (t-k) (fun x hx=>hk x (aAc _ hx)) oO;refine⟨x,?_,?_⟩
   .rw[Nat.div_eq_sub_div k0 oO,List.getElem?_cons_succ,h2]
   .rw[aBz oO,h1,h3,<- Nat.mod_eq_sub_mod oO]
theorem FJ{α β:Type}{k:Nat}(f:α->List β):∀(l:List α),(∀ x∈l,(f x).length=k)->(l.flatMap f).length=l.length*k
 |[],_=>by simp
 |a::l,h=>by have h1:=h a aAf;have h2:=FJ f l fun x hx=>h x (aAc _ hx);rw[aAJ,aAm,h1,h2,List.length_cons,aDL,Nat.add_comm]
theorem wZ{α:Type}[Inhabited α]{k:Nat}(enc:α->List Value)(hk:∀ x,(enc x).length=k)(d:Array α):(flatK enc k d).toList=d.toList.flatMap enc:=by
 have hl:=FJ enc d.toList fun x _=>hk x;refine aCm fun t=>?_;by_cases ht:t<d.size*k
 .obtain⟨x,h1,h2⟩:=PK enc d.toList t (fun x _=>hk x) (by simpa using ht);have k0:0<k:=by
   rcases aCs k with h0|h0
   .subst h0;simp at ht
   .exact h0
  have h3:=get_flatK enc k d t ht;rw[h2];have h4:(d[t / k]!)=x:=by rw[aBR]at h1;rw[getElem!_def,h1]
  rw[h4,aCt _ t (by simpa using ht),aCt _ _ (by rw[hk];exact aBY _ k0)]at h3;rw[aBR,aDa (by simpa using ht),h3,aAh]
 .rw[aBQ (by simp;omega),aBQ (by rw[hl];simpa using ht)]
theorem HQ{α:Type}[Inhabited α](enc:α->Value)(d:Array α):flatK (fun x=>[enc x]) 1 d=d.map enc:=by refine Array.toList_inj.1 ?_;rw[wZ (k:=1) _ (fun _=>rfl),Array.toList_map];induction d.toList<;>simp_all
theorem Tt{α:Type}[Inhabited α](enc:α->Value)(b:Nat)(d:Array α)(w:World):putRow enc w b 0 d=putRowK (fun x=>[enc x]) 1 w b 0 d:=by
 unfold putRowK;rw[HQ];unfold putRow
 congr 1
 funext c
 unfold putCells;refine Array.ext sS fun i h1 h2=>?_;simp only[Array.getElem_mapIdx,Array.size_map]
 split
 .rename_i h;have h3:i-0<d.size:=oO;rw[aCt d (i-0) h3,aCt (d.map enc) (i-0) (by simpa using h3)];simp
 .rfl
theorem OS{α:Type}[Inhabited α]{enc:α->Value}{w:World}{b:Nat}{d:Array α}(h:HoldsK (fun x=>[enc x]) 1 w b 0 d):Holds enc w b 0 d:=fun j hj=>by have h1:=h j (by simpa using hj);rw[HQ,aCt (d.map enc) j (by simpa using hj)]at h1;rw[aCt d j hj];simpa using h1
theorem Tw{w:World}{g:G}{st:St}(h:Inv w g st){q e s:Nat}{cs cs':List LV}(hl:st.H q=.box e s cs)(r8:g.nl q=false){F:Array Value}(hF:F.size=cs.length)(hc:cs'.length=cs.length)(hr:aC w g cs' F.toList)(m:Nat)(os:Array Obj):
 Inv (grow (putRow id (Sort.ahead w m) (g.β q) 0 F) os) g (st.set q (.box e s cs'))/\Ext w g (grow (putRow id (Sort.ahead w m) (g.β q) 0 F) os) g:=by
 obtain⟨_,_,k'⟩:=h.box q e s cs hl;obtain⟨j9,k1,k2,k4,k5,k6⟩:=k' r8
 obtain⟨i1,i2⟩:=pI (cs':=cs') (vs':=(putCells id 0 F j9.toArray).toList) h hl r8 (by simp[putCells,k2]) (by simp[putCells];omega) (by
  have:(putCells id 0 F j9.toArray).toList.take cs'.length=F.toList:=by
   refine aCm fun t=>?_;rw[aBL];by_cases ht:t<cs'.length
   .have h1:t<j9.length:=oO;have h2:t<F.size:=oO;simp[putCells,ht,h1,h2]
   .rw[aAa ht,aBQ (by simp;omega)]
  rw[this];exact hr)
 have hB:Below (w.setRow (g.β q) (putCells id 0 F j9.toArray).toList.toArray).heap.size (w.setRow (g.β q) (putCells id 0 F j9.toArray).toList.toArray) (grow (putRow id (Sort.ahead w m) (g.β q) 0 F) os):=by
  refine⟨rfl,rfl,rfl,by simp[Sort.ahead],fun b hb=>?_⟩;have P3:b<w.heap.size:=by simpa using hb
  have e1:(grow (putRow id (Sort.ahead w m) (g.β q) 0 F) os).heap[b]?=(putRow id (Sort.ahead w m) (g.β q) 0 F).heap[b]?:=by show((putRow id (Sort.ahead w m) (g.β q) 0 F).heap++os)[b]?=_;rw[aDH (by simpa[Sort.ahead]using P3)]
  rw[e1];by_cases hbq:b=g.β q
  .subst hbq;rw[setRow_heap _ _ _ _ _ _ k1];show((w.heap.modify (g.β q) (onCells (putCells id 0 F)))[g.β q]?)=_;rw[aEf,aAk rfl,k1];simp[onCells]
  .rw[setRow_other _ _ _ _ hbq];show((w.heap.modify (g.β q) (onCells (putCells id 0 F)))[b]?)=_;rw[aEf,aAa (fun h=>hbq h.symm)]
 exact⟨vK i1 hB,i2.trans (rJ g hB)⟩
abbrev El(w:World)(g:G)(ec:Int->List LV)(Dm:Int->Prop):Type:={ p:Int×List Value // Dm p.1/\aC w g (ec p.1) p.2 }
theorem QM{w:World}{g:G}{ec:Int->List LV}{Dm:Int->Prop}:∀(l:List Int) (vs:List Value),(∀ x∈l,Dm x)->aC w g (l.flatMap ec) vs->∃ ps:List (El w g ec Dm),ps.map (·.1.1)=l/\ps.flatMap (·.1.2)=vs
 |[],vs,_,h=>⟨[],rfl,by simp only[aCS,aC]at h;simp[h]⟩
 |x::l,vs,hD,h=>by rw[aAJ]at h;have h1:=dJ (ec x).length _ _ h;have h2:=gC (ec x).length _ _ h;rw[aDg]at h1;rw[aCN]at h2;obtain⟨ps,e1,e2⟩:=QM l _ (fun y hy=>hD y (aAc _ hy)) h2;refine⟨⟨(x,vs.take (ec x).length),hD x aAf,h1⟩::ps,by rw[aAn,e1],?_⟩;rw[aAJ,e2];exact aAG _ _
theorem LR{w:World}{g:G}{ec:Int->List LV}{Dm:Int->Prop}:∀ ps:List (El w g ec Dm),aC w g ((ps.map (·.1.1)).flatMap ec) (ps.flatMap (·.1.2))
 |[]=>by simp[aC]
 |p::ps=>by rw[aAn,aAJ,aAJ];exact bX _ _ _ _ p.2.2 (LR ps)
theorem Kk{α:Type}(f:α->Int):SWO (ltOf fun x y=>mU (f x) (f y)):=by refine⟨fun x=>?_,fun x y z=>?_,fun x y z=>?_⟩<;>simp only[ltOf,aBr,aCb,HW]<;>omega
theorem xJ{P:Program}{f v8:FuncId}{e k:Nat}(hf:Enters P f){ec:Int->List LV}(hk:∀ x,(ec x).length=k)(k0:0<k){Dm:Int->Prop}
 (hN:∀(p:Option Addr) (cap:Nat) (w:World),Calls P f #[.slice p 0 cap,.func (.func v8) #[] #[]] w fun e w'=>e=.returned (.tuple #[])/\w'=w)
 (hS:∀(w:World) (g:G) (b cap:Nat) [Inhabited (El w g ec Dm)] (d:Array (El w g ec Dm)),hU w g->g.φ b=some 0->b<w.heap.size->d.size<65536->HoldsK (fun x:El w g ec Dm=>x.1.2) k w b 0 d->
   Calls P f #[.slice (some ⟨b,0,none⟩) d.size cap,.func (.func v8) #[] #[]] w fun e w'=>e=.returned (.tuple #[])/\∃ d' n os,PermIn 0 d.size d d'/\SortedIn (ltOf fun x y=>mU x.1.1 y.1.1) 0 d.size d'/\w'=sortWorldK (fun x:El w g ec Dm=>x.1.2) k w b 0 n d' os)
 (l:List Int) (hD:∀ x∈l,Dm x) (q:Nat) (st:St) (hl:l.length<65536) (hq:q<st.next) (hH:st.H q=.box e k (l.flatMap ec)):
 aB P f [.ms q 0 l.length,.fn (.func v8) []] st fun r st'=>∃ c:List Int,st'.H q=.box e k (c.flatMap ec)/\c.Perm l/\c.Pairwise (·<=·)/\bQ q st st':=by
 refine⟨hf,fun w g vs hi hr=>?_⟩;simp only[aC]at hr;obtain⟨v1,_,rfl,h1,v2,_,rfl,h2,rfl⟩:=hr;simp only[Rep]at h1 h2;obtain⟨A,cap,rfl,h3,h4,h5,h6,h7⟩:=h1;obtain⟨ws,rfl,h8⟩:=h2;simp only[aC]at h8;subst h8;by_cases hn:l.length=0
 .have hl0:l=[]:=aCn.1 hn;subst hl0;refine(hN A cap w).mono ?_;rintro e w' ⟨rfl,rfl⟩;exact⟨_,.tu [],st,g,rfl,⟨[],hH,aEg _,List.Pairwise.nil,bQ.refl q st⟩,by simp[Rep,aC],hi,Ext.refl w' g⟩
 have hA:=h6 hn;subst hA;obtain⟨b1,b2,b3⟩:=hi.box q e k _ hH;have I0:=FJ ec l fun x _=>hk x;have r8:g.nl q=false:=by refine Bool.eq_false_iff.2 fun h=>?_;have:=(b2 h).2;rw[this]at I0;have:0<l.length*k:=aDk oO k0;simp at I0;omega
 obtain⟨j9,c1,c2,c3,c4,c5⟩:=b3 r8;obtain⟨ps,p1,p2⟩:=QM l _ hD c4;have M8:ps.length=l.length:=by rw[<- p1,aAD]
 haveI:Inhabited (El w g ec Dm):=⟨ps[0]'(by omega)⟩
 have hlen:∀ x:El w g ec Dm,x.1.2.length=k:=fun x=>by rw[<- aI _ _ x.2.2,hk]
 have T6:=wZ (fun x:El w g ec Dm=>x.1.2) hlen ps.toArray;have hHo:HoldsK (fun x:El w g ec Dm=>x.1.2) k w (g.β q) 0 ps.toArray:=by
  intro j hj;have hj2:j<l.length*k:=by simpa[M8]using hj
  have h9:(flatK (fun x:El w g ec Dm=>x.1.2) k ps.toArray)[j]?=j9[j]?:=by rw[<- aBR,T6];show(ps.flatMap fun x=>x.1.2)[j]?=_;rw[p2,aBL,aAk (by rw[I0];exact hj2)]
  rw[aCt _ j hj];rw[aDa hj]at h9;rw[aBv];constructor
  .rw[cell_of_row _ _ _ _ _ _ c1,aBS,<- h9];rfl
  .unfold World.frozen?;rw[c1];simp
 have hb:=(aAH.1 c1).1;have hC:=hS w g (g.β q) cap ps.toArray hi.aside.glob c5 hb (sF2 M8 hl) hHo;rw[aAV,M8]at hC;refine hC.mono ?_;rintro e' w' ⟨rfl,d',n,os,hp,hs,rfl⟩;have hds:d'.size=l.length:=by rw[hp.1,aAV,M8]
 have N9:d'.toList.Perm ps:=by have h:=hp.2.2;rw[aDG oO,aDG (sF1 M8)]at h;exact h
 have hfl2:=wZ (fun x:El w g ec Dm=>x.1.2) hlen d';have hcs2:=FJ ec (d'.toList.map (·.1.1)) fun x _=>hk x;have X1:(d'.toList.map (·.1.1)).length=l.length:=by simp[hds]
 obtain⟨i1,i2⟩:=Tw hi hH r8 (F:=flatK (fun x:El w g ec Dm=>x.1.2) k d') (cs':=(d'.toList.map (·.1.1)).flatMap ec) (by rw[size_flatK,hds,I0]) (by rw[hcs2,X1,I0]) (by rw[hfl2];exact LR _) n os;refine⟨_,.tu [],_,g,rfl,⟨d'.toList.map (·.1.1),by simp[St.set],?_,?_,(bQ.refl q st).set _⟩,by simp[Rep,aC],i1,i2⟩
 .have:=N9.map (·.1.1)
  rwa [p1]at this
 .rw[aAU,aAB];intro i j D8 hj' hij;have:=hs i j (aBE _) hij (by simp at hj';omega);rw[ltOf,aCb,HW,aCt _ j (by simpa using hj'),aCt _ i (by simpa using D8)]at this;simp only[Array.getElem_toList];omega
end Aw
namespace Aw
open Go Go.RowKit Pl Go.Sort Go.Shelf Go.Lib
theorem Ku(x:Int)(W:World):Calls prog 118 #[.int .u32 x] W fun e w'=>e=.returned (.bool false)/\w'=W:=by
 go_enter func118,ntmps118
 go_wp2
 go_ret
 simp
set_option maxRecDepth 100000 in
theorem DW(x y:Int)(W:World):Calls prog 77 #[.int .u32 x,.int .u32 y] W fun e w'=>e=.returned (.int .i64 (mU x y))/\w'=W:=by
 have h1:=fun W=>Ku x W;have h2:=fun W=>Ku y W
 go_enter func77,ntmps77
 go_wp2_with (go_at_call 118;first|(refine(h1 _).mono ?_;rintro e w' ⟨rfl,rfl⟩)|(refine(h2 _).mono ?_;rintro e w' ⟨rfl,rfl⟩))
 all_goals go_ret
 all_goals clear h1 h2
 all_goals exact⟨congrArg (fun z=>Ending.returned (.int .i64 z)) (by unfold mU;grind),rfl⟩
theorem XC(a b:Ed)(W:World):Calls prog 170 #[.agg #[.int .u32 a.id,.int .u32 a.a,.int .u32 a.b],.agg #[.int .u32 b.id,.int .u32 b.a,.int .u32 b.b]] W fun e w'=>e=.returned (.int .i64 (mU a.id b.id))/\∃ q os',w'=grow (W.drewN q) os':=by
 have P7:=fun W'=>DW a.id b.id W';generalize mU a.id b.id=r at P7 ⊢
 go_enter func170,ntmps170
 go_wp2_with (go_at_call 77;refine(P7 _).mono ?_;rintro e w' ⟨rfl,rfl⟩)
 go_ret
 exact⟨rfl,0,_,by rw[alloc_eq_grow,alloc_eq_grow,grow_grow];rfl⟩
theorem PD{W:World}{b1 o1 n1 c1 b2 o2 n2 c2:Nat}{x y:Int}(h1:W.cell? ⟨b1,o1,none⟩=some (.int .u32 x))(h2:W.cell? ⟨b2,o2,none⟩=some (.int .u32 y))(k1:0<n1)(k2:0<n2):
 Calls prog 99 #[.slice (some ⟨b1,o1,none⟩) n1 c1,.slice (some ⟨b2,o2,none⟩) n2 c2] W fun e w'=>e=.returned (.int .i64 (mU x y))/\∃ q os',w'=grow (W.drewN q) os':=by
 have P7:=fun W'=>DW x y W';generalize mU x y=r at P7 ⊢;have mixed:prog.follows .mixedOrders=true:=by kernel_rfl
 go_enter func99,ntmps99
 go_wp2
 go_quiet ((go_at_call 77;refine(P7 _).mono ?_;rintro e w' ⟨rfl,rfl⟩;exact⟨rfl,_,rfl⟩))
 go_wp2
 go_ret
 exact⟨rfl,_,#[],by rw[grow_empty]⟩
theorem brs{P:Program}{f:FuncId}{F B:Func}(h:P.funcs[f]?=some F)(hn:(F.name== "runtime.NumGoroutine")=false:=by decide)(e:F={ B with name:=F.name }:=by kernel_rfl):Bears P f B:=⟨F.name,hn,h.trans (congrArg some e)⟩
theorem frs{P:Program}{f:FuncId}{F B:Func}(h:P.funcs[f]?=some F)(e:F=B:=by kernel_rfl):P.funcs[f]?=some B:=h.trans (congrArg some e)
def Ng:Ren:=⟨fun|6=>169|15=>85|14=>199|28=>129|29=>130|20=>161|21=>211|22=>212|23=>213|24=>214|25=>215|26=>216|27=>217|46=>221|47=>164|48=>165|49=>222|50=>223|57=>224|n=>n,fun|22=>23|24=>36|25=>104|3=>3|39=>109|0=>0|53=>34|55=>133|4=>4|46=>155|45=>154|50=>121|5=>5|9=>9|66=>184|70=>188|76=>203|77=>204|n=>n,fun|n=>n⟩
theorem PT:SlLaysF0.n6 prog Ng:=
 {mixed:=by kernel_rfl,
  f6:=brs func169,
  f14:=brs func199,
  f15:=frs func85,
  f20:=brs func161,
  f21:=brs func211,
  f22:=brs func212,
  f23:=brs func213,
  f24:=brs func214,
  f25:=brs func215,
  f26:=brs func216,
  f27:=brs func217,
  f28:=frs func129,
  f29:=frs func130,
  f46:=brs func221,
  f47:=frs func164,
  f48:=frs func165,
  f49:=brs func222,
  f50:=brs func223,
  f57:=brs func224,
  t0:=underlying0,
  a0:=isAgg0,
  z0:=Tryz.sizeOf0,
  v0:=Tryz.zeroValue0,
  t3:=underlying3,
  a3:=isAgg3,
  z3:=Tryz.sizeOf3,
  v3:=Tryz.zeroValue3,
  t4:=underlying4,
  a4:=isAgg4,
  z4:=Tryz.sizeOf4,
  v4:=Tryz.zeroValue4,
  t5:=underlying5,
  a5:=isAgg5,
  z5:=Tryz.sizeOf5,
  v5:=Tryz.zeroValue5,
  t9:=underlying9,
  a9:=isAgg9,
  z9:=Tryz.sizeOf9,
  v9:=Tryz.zeroValue9,
  t22:=underlying23,
  a22:=isAgg23,
  z22:=Tryz.sizeOf23,
  v22:=Tryz.zeroValue23,
  t25:=underlying104,
  a25:=isAgg104,
  z25:=Tryz.sizeOf104,
  v25:=Tryz.zeroValue104,
  t39:=underlying109,
  a39:=isAgg109,
  z39:=Tryz.sizeOf109,
  v39:=Tryz.zeroValue109,
  t45:=underlying154,
  a45:=isAgg154,
  z45:=Tryz.sizeOf154,
  v45:=Tryz.zeroValue154,
  t46:=underlying155,
  a46:=isAgg155,
  z46:=Tryz.sizeOf155,
  v46:=Tryz.zeroValue155,
  t50:=underlying121,
  a50:=isAgg121,
  z50:=Tryz.sizeOf121,
  v50:=Tryz.zeroValue121,
  t53:=underlying34,
  a53:=isAgg34,
  z53:=Tryz.sizeOf34,
  v53:=Tryz.zeroValue34,
  t55:=underlying133,
  a55:=isAgg133,
  z55:=Tryz.sizeOf133,
  v55:=Tryz.zeroValue133,
  t66:=underlying184,
  a66:=isAgg184,
  z66:=Tryz.sizeOf184,
  v66:=Tryz.zeroValue184,
  t70:=underlying188,
  a70:=isAgg188,
  z70:=Tryz.sizeOf188,
  v70:=Tryz.zeroValue188,
  t76:=underlying203,
  a76:=isAgg203,
  z76:=Tryz.sizeOf203,
  v76:=Tryz.zeroValue203,
  t77:=underlying204,
  a77:=isAgg204,
  z77:=Tryz.sizeOf204,
  v77:=Tryz.zeroValue204 }
def DX:Ren:=⟨fun|6=>98|15=>85|14=>136|28=>129|29=>130|20=>171|21=>172|22=>173|23=>174|24=>175|25=>176|26=>177|27=>178|46=>200|47=>164|48=>165|49=>201|50=>202|57=>218|n=>n,fun|22=>83|24=>23|25=>129|3=>3|39=>109|0=>0|53=>34|55=>133|4=>4|46=>155|45=>154|50=>121|5=>5|9=>9|66=>184|70=>188|76=>203|77=>204|n=>n,fun|n=>n⟩
theorem Py:SlLaysF.n6 prog DX:=
 {mixed:=by kernel_rfl,
  f6:=brs func98,
  f14:=brs func136,
  f15:=frs func85,
  f20:=brs func171,
  f21:=brs func172,
  f22:=brs func173,
  f23:=brs func174,
  f24:=brs func175,
  f25:=brs func176,
  f26:=brs func177,
  f27:=brs func178,
  f28:=frs func129,
  f29:=frs func130,
  f46:=brs func200,
  f47:=frs func164,
  f48:=frs func165,
  f49:=brs func201,
  f50:=brs func202,
  f57:=brs func218,
  t0:=underlying0,
  a0:=isAgg0,
  z0:=Tryz.sizeOf0,
  v0:=Tryz.zeroValue0,
  t3:=underlying3,
  a3:=isAgg3,
  z3:=Tryz.sizeOf3,
  v3:=Tryz.zeroValue3,
  t4:=underlying4,
  a4:=isAgg4,
  z4:=Tryz.sizeOf4,
  v4:=Tryz.zeroValue4,
  t5:=underlying5,
  a5:=isAgg5,
  z5:=Tryz.sizeOf5,
  v5:=Tryz.zeroValue5,
  t9:=underlying9,
  a9:=isAgg9,
  z9:=Tryz.sizeOf9,
  v9:=Tryz.zeroValue9,
  t22:=underlying83,
  a22:=isAgg83,
  z22:=Tryz.sizeOf83,
  v22:=Tryz.zeroValue83,
  a24:=isAgg23,
  z24:=Tryz.sizeOf23,
  t25:=underlying129,
  a25:=isAgg129,
  z25:=Tryz.sizeOf129,
  v25:=Tryz.zeroValue129,
  t39:=underlying109,
  a39:=isAgg109,
  z39:=Tryz.sizeOf109,
  v39:=Tryz.zeroValue109,
  t45:=underlying154,
  a45:=isAgg154,
  z45:=Tryz.sizeOf154,
  v45:=Tryz.zeroValue154,
  t46:=underlying155,
  a46:=isAgg155,
  z46:=Tryz.sizeOf155,
  v46:=Tryz.zeroValue155,
  t50:=underlying121,
  a50:=isAgg121,
  z50:=Tryz.sizeOf121,
  v50:=Tryz.zeroValue121,
  t53:=underlying34,
  a53:=isAgg34,
  z53:=Tryz.sizeOf34,
  v53:=Tryz.zeroValue34,
  t55:=underlying133,
  a55:=isAgg133,
  z55:=Tryz.sizeOf133,
  v55:=Tryz.zeroValue133,
  t66:=underlying184,
  a66:=isAgg184,
  z66:=Tryz.sizeOf184,
  v66:=Tryz.zeroValue184,
  t70:=underlying188,
  a70:=isAgg188,
  z70:=Tryz.sizeOf188,
  v70:=Tryz.zeroValue188,
  t76:=underlying203,
  a76:=isAgg203,
  z76:=Tryz.sizeOf203,
  v76:=Tryz.zeroValue203,
  t77:=underlying204,
  a77:=isAgg204,
  z77:=Tryz.sizeOf204,
  v77:=Tryz.zeroValue204 }
theorem Xg(eg:Int->Ed)(Dm:Int->Prop)(ho:∀ x y,Dm x->Dm y->((eg x).id<(eg y).id↔x<y))(l:List Int)(hD:∀ x∈l,Dm x)(q:Nat)(st:St)(hl:l.length<65536)(hq:q<st.next)(hH:st.H q=.box 36 3 (eds (l.map eg))):
 aB prog 169 [.ms q 0 l.length,.fn (.func 170) []] st fun r st'=>∃ c:List Int,st'.H q=.box 36 3 (eds (c.map eg))/\c.Perm l/\c.Pairwise (·<=·)/\bQ q st st':=by
 have e:∀ c:List Int,eds (c.map eg)=c.flatMap fun x=>edL (eg x):=fun c=>by rw[<- List.flatMap_map]
 simp only[e]at hH ⊢;have hE:Enters prog 169:=PT.f6.enters rfl;have hN:=fun p cap v w=>AnyF.slices_SortFunc_none PT p cap v w;change ∀ p cap v w,Calls prog 169 _ _ _ at hN;refine xJ (k:=3) hE (fun _=>rfl) oO (fun p cap w=>hN p cap _ w) (fun w g b cap _ d _ _ hb hd hHo=>?_) l hD q st hl hq hH;have hv:∀ x:El w g (fun x=>edL (eg x)) Dm,x.1.2=[.int .u32 (eg x.1.1).id,.int .u32 (eg x.1.1).a,.int .u32 (eg x.1.1).b]:=fun x=>by have:=x.2.2;simpa[edL,aC,Rep]using this
 have enC:=enters_of func170 (by kernel_rfl) rfl;have h1:∀(x:El w g (fun x=>edL (eg x)) Dm),∀ v∈x.1.2,v.oneCell'=true:=fun x v h=>by rw[hv]at h;simp only[aAe,aBV,aDq]at h;rcases h with rfl|rfl|rfl<;>rfl
 have hc:CmpLays prog 170 #[] (fun x:El w g (fun x=>edL (eg x)) Dm=>x.1.2) 3 (fun x y=>mU x.1.1 y.1.1) b 0 d.size w:=fun m os dk _ x y=>by
  have hc:=XC (eg x.1.1) (eg y.1.1) (sortWorldK (fun x:El w g (fun x=>edL (eg x)) Dm=>x.1.2) 3 w b 0 m dk os);have e1:mU (eg x.1.1).id (eg y.1.1).id=mU x.1.1 y.1.1:=by have h1:=ho _ _ x.2.1 y.2.1;have h2:=ho _ _ y.2.1 x.2.1;simp only[mU,h1,h2]
  rw[e1]at hc;dsimp only;rw[hv x,hv y];exact hc
 exact AnyQ.slices_SortFunc (α:=El w g (fun x=>edL (eg x)) Dm) PT 3 isAgg36 Tryz.sizeOf36 (fun x=>x.1.2) (fun x=>by rw[hv];rfl) h1 (fun x y=>mU x.1.1 y.1.1) (Kk fun x:El w g (fun x=>edL (eg x)) Dm=>x.1.1) 170 #[] b 0 cap d w enC hc hHo hb oO
theorem XP(en:Int->Nat)(ec:Int->List LV)(key:Int->Int)(Dm:Int->Prop)(hx:∀ x,Dm x->0<en x/\∃ R,ec x=u (key x)::R)(ho:∀ x y,Dm x->Dm y->(key x<key y↔x<y))(l:List Int)(hD:∀ x∈l,Dm x)(q:Nat)(st:St)(hl:l.length<65536)(hq:q<st.next)(hH:st.H q=.box 23 1 (l.map fun x=>.sl 0 (en x) (ec x))):
 aB prog 98 [.ms q 0 l.length,.fn (.func 99) []] st fun r st'=>∃ c:List Int,st'.H q=.box 23 1 (c.map fun x=>.sl 0 (en x) (ec x))/\c.Perm l/\c.Pairwise (·<=·)/\bQ q st st':=by
 have e:∀ c:List Int,(c.map fun x=>LV.sl 0 (en x) (ec x))=c.flatMap fun x=>[LV.sl 0 (en x) (ec x)]:=fun c=>by induction c<;>simp_all
 simp only[e]at hH ⊢;have hE:Enters prog 98:=Py.f6.enters rfl;have hN:=fun p cap v w=>AnyF.slices_SortFunc_none (P:=prog) (ρ:=DX) { Py with } p cap v w;change ∀ p cap v w,Calls prog 98 _ _ _ at hN;refine xJ (k:=1) hE (fun _=>rfl) oO (fun p cap w=>hN p cap _ w) (fun w g b cap _ d _ hφ hb hd hHo=>?_) l hD q st hl hq hH;have hv:∀ x:El w g (fun x=>[LV.sl 0 (en x) (ec x)]) Dm,∃ B o cap,x.1.2=[.slice (some ⟨B,o,none⟩) (en x.1.1) cap]/\w.cell? ⟨B,o,none⟩=some (.int .u32 (key x.1.1))/\B≠b:=fun x=>by have h:=x.2.2;obtain⟨_,R,hR⟩:=hx _ x.2.1;simp only[aC,Rep]at h;obtain⟨v,_,h1,⟨A,cap,h2,_,_,_,h6⟩,rfl⟩:=h;obtain⟨B,o,rfl,h7⟩:=h6 (by rw[hR];simp);rw[hR]at h7;simp only[aN,Rep]at h7;obtain⟨⟨v',h8,rfl,h9⟩,_⟩:=h7;exact⟨B,o,cap,by rw[h1,h2],h8,fun e=>by subst e;exact absurd (h9 0 hφ) (aDB _)⟩
 have henc:(fun x:El w g (fun x=>[LV.sl 0 (en x) (ec x)]) Dm=>x.1.2)=fun x=>[x.1.2.headD undef]:=funext fun x=>by obtain⟨_,_,_,h,_⟩:=hv x;rw[h];rfl
 rw[henc]at hHo;have hSW:∀ n d' os,sortWorldK (fun x:El w g (fun x=>[LV.sl 0 (en x) (ec x)]) Dm=>x.1.2) 1 w b 0 n d' os=sortWorld (fun x=>x.1.2.headD undef) w b 0 n d' os:=fun n d' os=>by rw[henc];unfold sortWorldK sortWorld;rw[Tt]
 simp only[hSW];have enC:=enters_of func99 (by kernel_rfl) rfl;have h1:OneCell (fun x:El w g (fun x=>[LV.sl 0 (en x) (ec x)]) Dm=>x.1.2.headD undef):=fun x=>by obtain⟨_,_,_,h,_⟩:=hv x;show(x.1.2.headD undef).oneCell'=true;rw[h];rfl
 have hc:CmpLays1 prog 99 #[] (fun x:El w g (fun x=>[LV.sl 0 (en x) (ec x)]) Dm=>x.1.2.headD undef) (fun x y=>mU x.1.1 y.1.1) b 0 d.size w:=fun m os dk _ x y=>by
  obtain⟨B1,o1,c1,h1,h2,h3⟩:=hv x;obtain⟨B2,o2,c2,k1,k2,k3⟩:=hv y;have cl:∀ {B o:Nat} {v:Value},w.cell? ⟨B,o,none⟩=some v->B≠b->(sortWorld (fun x:El w g (fun x=>[LV.sl 0 (en x) (ec x)]) Dm=>x.1.2.headD undef) w b 0 m dk os).cell? ⟨B,o,none⟩=some v:=fun {B o v} h hB=>by unfold sortWorld;rw[cell?_grow _ _ _ (by simpa[Sort.ahead]using nO h),cell?_putRow_other _ _ _ _ _ _ (.inl hB)];exact h
  have hc:=PD (c1:=c1) (c2:=c2) (cl h2 h3) (cl k2 k3) (hx _ x.2.1).1 (hx _ y.2.1).1;have e1:mU (key x.1.1) (key y.1.1)=mU x.1.1 y.1.1:=by have h1:=ho _ _ x.2.1 y.2.1;have h2:=ho _ _ y.2.1 x.2.1;simp only[mU,h1,h2]
  rw[e1]at hc;dsimp only;rw[h1,k1];exact hc
 exact Any.slices_SortFunc (α:=El w g (fun x=>[LV.sl 0 (en x) (ec x)]) Dm) Py (fun x=>x.1.2.headD undef) h1 (fun x y=>mU x.1.1 y.1.1) (Kk fun x:El w g (fun x=>[LV.sl 0 (en x) (ec x)]) Dm=>x.1.1) 99 #[] b 0 cap d w enC hc (OS hHo) hb oO
end Aw
end Go.Proofs.YtbgngpdonpeboaaGreatDoor
