/- Plain: what Embed answers. -/
import Derived.Test.YtempldclppogmaaGreatDoorJp
import Derived.Test.YtempldclppogmaaGreatDoorAwFn
import Derived.Test.YtempldclppogmaaGreatDoorAwShp
set_option linter.unusedVariables false
set_option linter.unusedSimpArgs false
set_option linter.unusedSectionVars false
set_option maxHeartbeats 2000000
open Go.Proofs.Tryz
namespace Go.Proofs.YtempldclppogmaaGreatDoor
namespace Aw
open Go Go.RowKit Pl Eu
theorem OT{g:Gr}(hg:GoodE g)(hv:∀ v∈g.vs,0<=v/\v<4194304){l:List Ed}(hl:l∈aZ g):BlE l/\l≠[]/\∀ v∈vsF l,v∈g.vs:=by
 obtain⟨Zs,Xt⟩:=mH hg hl;have Yv:∀ v∈vsF l,v∈g.vs:=fun v h=>by
  obtain⟨e,hel,k⟩:=(bJ v l).1 h;have:=hg.ends e (Xt e hel);rcases k with rfl|rfl
  .exact this.1
  .exact this.2
 refine⟨⟨Zs.ne,?_,fun v h=>hv v (Yv v h)⟩,?_,Yv⟩
 .have h1:=((gZ hg).map prE).nodup_iff.2 (AV g.es);rw[aEe]at h1;exact(aBA (aAx (f:=List.map prE) hl)).nodup h1
 .unfold aZ at hl;obtain⟨B,hB,e⟩:=aAm.1 hl;rw[<- e];intro h0;exact(kW hg.simple hB).ne (aCS.1 h0)
section
variable {g:Gr} (hg:GoodE g) (hv:∀ v∈g.vs,0<=v/\v<4194304) (hn:g.vs.length<=24) (he:g.es.length<=50)
include hg hv hn he
theorem TS{l:List Ed}(hl:l∈aZ g):l.length<=50/\(vsF l).length<=24:=by
 obtain⟨_,_,Yv⟩:=OT hg hv hl;constructor
 .have h1:l.length<=(aZ g).flatten.length:=(aBA hl).length_le;have h2:=(gZ hg).length_eq;have h3:=nR g.es;omega
 .have:=aAC ((kR l).imp fun k=>by omega) Yv;omega
theorem Rj{l:List Ed}(hl:l∈aZ g){F:List (List Int)}(hO:iX l F)(T:TL)(hT:eV T+1200<=100000):okE F (aY F) (tZ g F T)/\eV (tZ g F T)<=eV T+1200:=by
 obtain⟨hE,h0,Yv⟩:=OT hg hv hl;obtain⟨l1,l2⟩:=TS hg hv hn he hl;have hcnt:=hO.cnt;have hPF:(PF F).length<=100:=by have:=BX (E:=l) hO.nd fun p hp=>(hO.mem p.1 p.2).1 hp;omega
 obtain⟨a1,a2,a3⟩:=QU (F.flatMap trs);have hTF:(F.flatMap trs).length=(PF F).length:=by
  have:=(uZ F).length_eq
  rwa [aAA]at this
 rw[<- xF]at a1 a2 a3;have Yf:∀ v∈(aY F).map (·.1),v∈vsF l:=fun v hk=>by obtain⟨t,ht,rfl⟩:=a3 v hk;have:=(uZ F).mem_iff.1 (aAx (f:=fun t:Int×Int×Int=>(t.1,t.2.1)) ht);obtain⟨e,he,k⟩:=(hO.mem t.1 t.2.1).1 this;exact(iT he k).2
 have hKl:(pN ((aY F).map (·.1))).length<=24:=by have:=aAC (l₂:=vsF l) ((yW ((aY F).map (·.1))).imp fun k=>by omega) fun v h=>Yf v ((pU v _).1 h);omega
 have hbt:∀ v,((bY (dB v (aY F))).flatMap (seg g v)).length<=50:=fun v=>by
  by_cases C7:v∈vsF l
  .have hR:=hO.round hE h0 C7;have hnd:((bY (dB v (aY F))).flatMap (seg g v)).Nodup:=kN hR.1 (fun x _=>mK hg v x) fun x _ y _ d h1 h2=>by rw[<- (xT hg h1).2,(xT hg h2).2]
   have:=aAC hnd (l₂:=g.es.map (dAt v)) fun d hd=>by obtain⟨x,_,hd⟩:=aAT.1 hd;obtain⟨e,he,_,rfl⟩:=jM.1 hd;exact aAx he
   rw[aAA]at this;omega
  .rw[nD hO hE C7,mX];simp
 have htot:eV (tZ g F T)<=eV T+1200:=by have:=GU g (aY F) 50 (pN ((aY F).map (·.1))) T fun v _=>hbt v;unfold tZ;omega
 refine⟨⟨oO,fun r hr=>?_,oO,fun a ha=>by have:=a2 a ha;omega,oO⟩,htot⟩;have hrn:=hO.nd;unfold PF at hrn;rw[List.flatMap_def]at hrn;have h1:=BX (E:=l) ((aBA (aAx (f:=prs) hr)).nodup hrn) fun p hp=>(hO.mem p.1 p.2).1 (fX.2 ⟨r,hr,hp⟩);rw[qJ]at h1;omega
theorem NP:∀(bl:List (List Ed)) (T:TL),(∀ l∈bl,l∈aZ g)->eV T+bl.length*1200<=100000->∃ o,Dl g bl T=some o
 |[],T,_,_=>⟨_,rfl⟩
 |l::bl,T,hl,hT=>by
  obtain⟨o,h1,h2⟩:=Kh hg oO oO (hl l aAq);unfold Dl;rw[h1,Option.bind_some];cases o with
  |none=>exact⟨none,rfl⟩
  |some F=>
   have e1:eV T+1200<=100000/\(∀ t,t<=eV T+1200->t+bl.length*1200<=100000):=by rw[List.length_cons]at hT;clear h1 h2;generalize eV T=a at *;generalize bl.length=b at *;exact⟨oO,fun t h=>by omega⟩
   obtain⟨k1,k2⟩:=Rj hg hv hn he (hl l aAq) (h2 F rfl) T e1.1;simp only;rw[aAe k1];exact NP bl _ (fun x hx=>hl x (aAk _ hx)) (e1.2 _ k2)
end
theorem PB{g:Gr}(hc:chk g=0)(hn:g.vs.length<=24)(he:g.es.length<=50):∃ o,pY g (aZ g)=some o/\∀ m,o=some m->m.g=g/\oB m=0/\m.rots.length=g.vs.length/\∀ t∈m.rots,t.length<=100:=by
 have hG:=QC hc;have hg:=jU hc;have hv:∀ v∈g.vs,0<=v/\v<4194304:=fun v h=>by have:=hG.vpos v h;omega
 have ZR:(aZ g).length<=50:=by have h1:=DM g;have h2:=nR g.es;omega
 have h1:eV ([]:TL)+(aZ g).length*1200<=100000:=by have h0:eV ([]:TL)=0:=rfl;rw[h0,aBt];generalize (aZ g).length=n at *;omega
 obtain⟨o,ho⟩:=NP hg hv hn he (aZ g) [] (fun _ h=>h) h1;unfold pY;rw[ho,Option.bind_some];cases o with
 |none=>exact⟨none,rfl,fun m e=>by cases e⟩
 |some T=>
  obtain⟨Bs,hb,hd,ht⟩:=Bh g (aZ g) [] T ho;have hS:Sys g Bs:=Tr hg hv hb fun p hp=>by
   have hl:p.1∈aZ g:=by rw[<- hb];exact aAx (f:=(·.1)) hp
   obtain⟨o,h1,h2⟩:=Kh hg oO oO hl;rw[hd p hp]at h1;injection h1 with h1;exact h2 p.2 h1.symm
  have hturn:∀ v,dS v T=jV g Bs v:=fun v=>by rw[ht v];rfl
  have Xr:∀ v,(jV g Bs v).length<=100:=fun v=>by rw[(hS.turn_perm v).length_eq];have:=tL (nU v) (uE v) g.es;show(g.es.flatMap (nU v)).length<=100;omega
  simp only;rw[aAe fun v _=>by rw[hturn v];exact aBh (Xr v) oO];refine⟨_,rfl,fun m e=>?_⟩;injection e with e;have em:m=Bz g Bs:=by
   rw[<- e];show(⟨g,g.vs.map fun v=>nrm (dS v T)⟩:Mp)=_
   congr 1
   exact aAW fun v _=>by rw[hturn]
  subst em;have hm:=hS.map_ok;have hgn:=hS.plane hb;have hr:rR (Bz g Bs)=0:=Kj hc hm.len fun k hk=>hm.ok k hk;refine⟨rfl,?_,sS,fun t ht=>?_⟩
  .unfold oB;rw[aAa (fun k=>k hr),aAa (fun k=>k hgn)]
  .obtain⟨v,_,rfl⟩:=aAm.1 ht;rw[cE];exact Xr v
end Aw
namespace Aw
open Go Go.RowKit Pl
def Bt:Gr:=⟨[1,2,3],[⟨1,1,2⟩,⟨2,2,3⟩,⟨3,3,1⟩]⟩
def rY:Gr:=⟨[1,2,3,4,5],[⟨1,1,2⟩,⟨2,1,3⟩,⟨3,1,4⟩,⟨4,1,5⟩,⟨5,2,3⟩,⟨6,2,4⟩,⟨7,2,5⟩,⟨8,3,4⟩,⟨9,3,5⟩,⟨10,4,5⟩]⟩
theorem PZ{g:Gr}(hg:GoodE g){s:Bw}(h:sN g.es g.vs.length g.vs ⟨[],[],[],[]⟩=some s){B:List (List Nat)}(hp:B.Perm s.out)(hr:B.Pairwise fun x y=>x.headD 0<y.headD 0):eZ g.es=B:=by obtain⟨s',h1,_,h2,_,h3⟩:=rK hg;rw[h]at h1;obtain rfl:=aBb h1;exact(BS h2 h3 hp hr).symm
theorem Cs{g:Gr}(hg:GoodE g){out:List (List Nat)}(h:(sN (sE g.es) g.vs.length g.vs ⟨[],[],[],[]⟩).map (·.out)=some out){B:List (List Nat)}(hp:B.Perm out)(hr:B.Pairwise fun x y=>x.headD 0<y.headD 0):aZ g=B.map fun B=>B.map (eAt (sE g.es)):=by obtain⟨s,h1,rfl⟩:=aBm.1 h;unfold aZ;rw[PZ (g:=⟨g.vs,sE g.es⟩) hg.simple h1 hp hr]
theorem HW:chk Bt=0:=by decide +kernel
theorem Cl:chk rY=0:=by decide +kernel
theorem LM:aZ Bt=[Bt.es]:=by rw[Cs (jU HW) (out:=[[0,1,2]]) (by decide +kernel) (List.Perm.refl _) (by decide)];decide +kernel
theorem Ic:aZ rY=[rY.es]:=by rw[Cs (jU Cl) (out:=[[0,1,2,3,4,5,6,7,8,9]]) (by decide +kernel) (List.Perm.refl _) (by decide)];decide +kernel
theorem Mt:(if chk rY=0 then pY rY (aZ rY)else some none)=some none:=by rw[aAe Cl,Ic];rfl
theorem Ob:(if chk Bt=0 then pY Bt (aZ Bt)else some none)=some (some ⟨Bt,[[2,7],[3,4],[5,6]]⟩):=by rw[aAe HW,LM];rfl
def oL(a b:Nat):List Ed:=rY.es.filter fun e=>decide (e.a<a)||(decide (e.a=a)&&decide (e.b<b))
theorem My(a b:Nat)(h1:1<=a)(h2:a<b)(h3:b<=5):oL a (b+1)=oL a b++[⟨(oL a b).length+1,a,b⟩]:=by
 have h:∀ a:Fin 6,∀ b:Fin 6,1<=a.1->a.1<b.1->oL a.1 (b.1+1)=oL a.1 b.1++[⟨(oL a.1 b.1).length+1,a.1,b.1⟩]:=by decide +kernel
 exact h ⟨a,oO⟩ ⟨b,oO⟩ h1 h2
theorem Mf(a:Nat)(h1:1<=a)(h2:a<=5):oL a 6=oL (a+1) (a+2):=by
 have h:∀ a:Fin 6,1<=a.1->oL a.1 6=oL (a.1+1) (a.1+2):=by decide +kernel
 exact h ⟨a,oO⟩ h1
theorem Sg(a b:Nat):(oL a b).length<=10:=aBe _ _
def FvS(st:St)(a b:Nat)(s:St):Prop:=s.H st.next=.box 25 2 [.nil,.nil]/\aA st s/\∃ tv t,s.H (st.next+2)=.box 25 2 [.sl tv 5 (us [1,2,3,4,5]),.sl t (oL a b).length (eds (oL a b))]/\t≠0/\st.next+2<t/\t<s.next/\s.H t=.own 56 3 (oL a b).length
theorem VZ(st:St):aB prog 27 [] st fun r st'=>r=.ag (grL rY)/\aA st st':=by
 refine eE ?_;refine zN func27 ntmps27 [.cell 0 25] ?_;refine eP fun Yi=>?_
 (repeat' (first|apply qS|apply qB|(refine zE ?_;intro J hJ;simp[];refine zJ hJ ?_)))
 refine Fj (st.next+2) 56 3 (e:=25) (s:=2) [.sl (st.next+1) 5 (us [1,2,3,4,5])] [] sS ?_;refine qL (fun n fr s=>∃ a:Nat,1<=a/\a<=6/\n=6-a/\fr 0=.pt st.next 0/\fr 1=.pt (st.next+2) 0/\fr 2=u a/\FvS st a (a+1) s) 5 ?_ ?_
 .refine⟨1,oO,oO,rfl,sS,sS,sS,?_,?_,st.next+1,st.next+3,?_,oO,oO,sS,?_⟩
  ·(repeat (first|rw[nHh nOo]|rw[sHh oO]|rw[nIi nQq]|rw[sIi oO]))
  .exact(((((aA.new _ _).trans (aA.new _ _)).trans (aA.new _ _)).set oO _).trans (aA.new _ _)).set oO _
  .have:oL 1 (1+1)=[]:=by decide +kernel
   rw[this];(repeat (first|rw[nHh nOo]|rw[sHh oO]|rw[nIi nQq]|rw[sIi oO]));simp[us,eds]
  .have:oL 1 (1+1)=[]:=by decide +kernel
   rw[this];(repeat (first|rw[nHh nOo]|rw[sHh oO]|rw[nIi nQq]|rw[sIi oO]));simp
 rintro n fr s ⟨a,a1,a2,rfl,f0,f1,f2,hS⟩ JJ hJJ;by_cases ha:a<=5
 .have hw:IntKind.u32.wrap ((a:Int)+1)=((a+1:Nat):Int):=by rw[wrap_u32' _ oO oO];omega
  have ha2:(a:Int)<=5:=oO
  (repeat' (first|apply qS|apply qB|refine qK (zZ ?_)|(apply qC;simp[f2,ha2,hw])|(refine zE ?_;intro J hJ;simp[f2,ha2,hw];refine zJ hJ ?_)))
  refine qL (fun n fr s=>∃ b:Nat,a<b/\b<=6/\n=6-b/\fr 0=.pt st.next 0/\fr 1=.pt (st.next+2) 0/\fr 2=u a/\fr 3=u b/\FvS st a b s) (6-(a+1)) ?_ ?_
  .exact⟨a+1,oO,oO,rfl,by simp[f0],by simp[f1],by simp[f2],sS,hS⟩
  clear f0 f1 f2 hS fr s;rintro n fr s ⟨b,b1,b2,rfl,f0,f1,f2,f3,hS⟩ J2 v8;by_cases hb:b<=5
  .have hwb:IntKind.u32.wrap ((b:Int)+1)=((b+1:Nat):Int):=by rw[wrap_u32' _ oO oO];omega
   have c7:(b:Int)<=5:=oO;obtain⟨hR,hk,tv,t,hB,t0,t1,t2,tH⟩:=hS;have YL:=My a b a1 b1 hb;have Zn:=Sg a b;generalize oL a b=E at *;have w1:IntKind.i64.wrap ((E.length:Int)+1)=(E.length:Int)+1:=zW;have w2:IntKind.u32.wrap ((E.length:Int)+1)=(E.length:Int)+1:=wrap_u32' _ oO oO;have hel:=aK E;have ZZ:=Sz E;have c1:¬t=s.next:=oO;have c2:¬s.next=t:=oO;have c3:¬st.next+2=s.next:=oO;have c4:¬st.next+2=t:=oO;have c5:¬st.next+2=s.next+1:=oO;have c6:¬s.next=st.next+2:=oO
   (repeat' (first|apply qS|apply qB|refine qK (zZ ?_)|(apply qC;simp[f0,f1,f2,f3,c7,hwb,hB,tH,t0,w1,w2,hel,ZZ,c1,c2,c3,c4,c5,c6])|(refine zE ?_;intro J hJ;simp[f0,f1,f2,f3,c7,hwb,hB,tH,t0,w1,w2,hel,ZZ,c1,c2,c3,c4,c5,c6];(repeat refine ca ?_);refine zJ hJ ?_)))
   refine v8 (6-(b+1)) _ _ oO ⟨b+1,oO,oO,rfl,by simp[f0],by simp[f1],by simp[f2],sS,?_,?_,tv,s.next+1,?_,oO,oO,sS,?_⟩
   ·(repeat (first|rw[nHh nOo]|rw[sHh oO]|rw[nIi nQq]|rw[sIi oO]));exact hR
   .exact(((hk.trans (aA.new _ _)).set oO _).trans (aA.new _ _)).set oO _
   .rw[YL];(repeat (first|rw[nHh nOo]|rw[sHh oO]|rw[nIi nQq]|rw[sIi oO]));simp[eds,edL]
   .rw[YL];(repeat (first|rw[nHh nOo]|rw[sHh oO]|rw[nIi nQq]|rw[sIi oO]));simp
  .obtain rfl:b=6:=oO;have c7:¬((6:Nat):Int)<=5:=oO;unfold FvS at hS hJJ;rw[Mf a a1 ha]at hS
   (repeat' (first|apply qS|refine qX (zZ ?_)|(apply qC;simp[f3,f2,hw])|(refine zE ?_;intro J hJ;simp[f3,f2,hw];refine zJ hJ ?_)))
   exact hJJ _ _ _ oO ⟨a+1,oO,oO,rfl,by simp[f0],by simp[f1],sS,hS⟩
 .obtain rfl:a=6:=oO;clear hJJ;obtain⟨hR,hk,tv,t,hB,t0,t1,t2,tH⟩:=hS;have hp:oL 6 (6+1)=rY.es:=by decide +kernel
  rw[hp]at hB tH
  (repeat' (first|apply qS|refine qX (zZ ?_)|(refine qR (zZ ?_);simp[f0,f1,f2,hB,hR])|(apply qC;simp[f0,f1,f2,hB,hR])|(refine zE ?_;intro J hJ;simp[f0,f1,f2,hB,hR];refine zJ hJ ?_)))
  exact⟨by simp only[z0,z0L,zA];rfl,hk.set oO _⟩
end Aw
namespace Aw
open Go Go.RowKit
end Aw
namespace Aw
open Go Go.RowKit Pl
mutual
def kJ:LV->Bool
 |.sl t _ cs=>t==0&&rT cs
 |.nil=>true
 |.ag cs=>rT cs
 |.tu cs=>rT cs
 |.atom _=>true
 |_=>false
def rT:List LV->Bool
 |[]=>true
 |c::cs=>kJ c&&rT cs
end
abbrev G0:G:=⟨1,fun _=>none,fun _=>0,fun _=>0,fun _=>false⟩
theorem Vw(b o:Nat):G0.ok b o:=by simp[G.ok]
mutual
theorem HN{w:World}{g:G}:∀(lv:LV) (v:Value),kJ lv=true->Rep w g lv v->Rep w G0 lv v
 |.sl t n cs,v,hp,h=>by simp only[kJ,aAS,aCL]at hp;obtain⟨rfl,hp⟩:=hp;simp only[Rep]at h ⊢;obtain⟨A,cap,h1,h2,h3,_,h5⟩:=h;refine⟨A,cap,h1,h2,h3,fun h=>absurd rfl h,fun Wx=>?_⟩;obtain⟨b,o,h6,h7⟩:=h5 Wx;exact⟨b,o,h6,xU b cs o hp h7⟩
 |.nil,v,_,h=>by simpa only[Rep]using h
 |.ag cs,v,hp,h=>by simp only[kJ]at hp;simp only[Rep]at h ⊢;obtain⟨vs,h1,h2⟩:=h;exact⟨vs,h1,rL cs vs hp h2⟩
 |.tu cs,v,hp,h=>by simp only[kJ]at hp;simp only[Rep]at h ⊢;obtain⟨vs,h1,h2⟩:=h;exact⟨vs,h1,rL cs vs hp h2⟩
 |.atom _,_,_,h=>by simpa only[Rep]using h
 |.emp,_,hp,_=>by simp[kJ]at hp
 |.dead,_,hp,_=>by simp[kJ]at hp
 |.ms _ _ _,_,hp,_=>by simp[kJ]at hp
 |.pt _ _,_,hp,_=>by simp[kJ]at hp
 |.ep _,_,hp,_=>by simp[kJ]at hp
 |.mp _,_,hp,_=>by simp[kJ]at hp
 |.fn _ _,_,hp,_=>by simp[kJ]at hp
 |.qu _ _ _ _,_,hp,_=>by simp[kJ]at hp
 |.pe _ _,_,hp,_=>by simp[kJ]at hp
 |.kap _ _ _,_,hp,_=>by simp[kJ]at hp
theorem rL{w:World}{g:G}:∀(cs:List LV) (vs:List Value),rT cs=true->aC w g cs vs->aC w G0 cs vs
 |[],vs,_,h=>h
 |c::cs,vs,hp,h=>by simp only[rT,aAS]at hp;simp only[aC]at h ⊢;obtain⟨v,vs',rfl,h1,h2⟩:=h;exact⟨v,vs',rfl,HN c v hp.1 h1,rL cs vs' hp.2 h2⟩
theorem xU{w:World}{g:G}(b:Nat):∀(cs:List LV) (o:Nat),rT cs=true->aT w g b cs o->aT w G0 b cs o
 |[],_,_,h=>h
 |c::cs,o,hp,h=>by simp only[rT,aAS]at hp;simp only[aT]at h ⊢;obtain⟨⟨v,h1,h2,h3⟩,h4⟩:=h;exact⟨⟨v,h1,HN c v hp.1 h2,Vw b o⟩,xU b cs (o+1) hp.2 h4⟩
end
theorem CJ{P:Program}{f:FuncId}{args:List LV}{r0:LV}{st:St}(ha:rT args=true)(hr:∀(w:World) (g g':G) v,Rep w g r0 v->Rep w g' r0 v)
 (h:aB P f args ⟨1,fun _=>.dead⟩ fun r _=>r=r0):aB P f args st fun r st'=>r=r0/\st'=st:=by
 refine⟨h.1,fun w g vs hi hrp=>?_⟩;have hi0:Inv w G0 ⟨1,fun _=>.dead⟩:=by refine⟨rfl,by decide,fun _ _=>rfl,fun l hl=>hl.elim,fun l l' hl=>hl.elim,fun l e s n hl=>(by cases hl),fun l e s cs hl=>(by cases hl),fun l ag ks es hl=>(by cases hl),fun l e n hl=>(by cases hl),sP (hi.aside.glob.phi fun _ _ _ _ _=>rfl) fun _=>rfl⟩
 refine(h.2 w _ vs hi0 (rL _ _ ha hrp)).mono ?_;rintro e w' ⟨v,r,st',g',rfl,rfl,YF,_,he⟩;have hB:Below w.heap.size w w':=⟨he.os,he.tape,he.output,he.size,fun k hk=>(he.still k hk rfl).2⟩;exact⟨v,_,st,g,rfl,⟨rfl,rfl⟩,hr _ _ _ _ YF,DR hi hB,vY g hB⟩
def Uu(k:Int)(p:LV×St):Bool:=match p.1 with
 |.atom (.int .i64 n)=>n==k
 |_=>false
def xIP(k:Int)(r:Option (List (LV×St))):Bool:=match r with
 |some l=>l.all (Uu k)
 |none=>false
theorem yB⦃P:Program⦄{T:Tab}{fns:FuncId->Option Func}{pr:jD}(hT:bF P T)(hf:DV P fns)(hp:oA P pr)(hm:P.follows .mixedOrders=true)(n:Nat){f:FuncId}{args:List LV}{k:Int}{st:St}(ha:rT args=true)
 (h:xIP k (xQ T fns pr n f args ⟨1,fun _=>.dead⟩)=true):aB P f args st fun r st'=>r=i k/\st'=st:=by
 cases hx:xQ T fns pr n f args ⟨1,fun _=>.dead⟩ with
 |none=>rw[hx]at h;simp[xIP]at h
 |some l=>
  rw[hx]at h;simp only[xIP]at h;rw[aBC]at h;have:=pI hT hf hp (fun N c fr st L hx=>Bc hT hf hp hm n N c fr st L hx) f args _ l hx;refine CJ ha (fun w g g' v h=>by simp only[Rep]at h ⊢;exact h) (this.mono ?_);intro r1 Yt M4;have hb:=h _ M4;unfold Uu at hb
  split at hb
  .rename_i m c;simp only at c;rw[c,eq_of_beq hb]
  .cases hb
def SS:Mp:=⟨Bt,[[2,7],[3,4],[5,6]]⟩
theorem Hz(st:St):aB prog 21 [.ag (mpL SS)] st fun r st'=>r=i 0/\st'=st:=
 yB mL Nl Ea mixed 1000000 (by kernel_rfl) (by kernel_rfl)
theorem Px(st:St):aB prog 39 [] st fun r st'=>r=bb true/\st'=st:=by
 refine zN func39 ntmps39 [.tmp 0] ?_
 (repeat' (first|apply qS|(refine zE ?_;intro J hJ;simp[];(try refine zJ hJ ?_))))
 refine qE (Qo _) (by simp[]) ?_;rintro r st' ⟨rfl,rfl⟩
 (repeat' (first|(refine qR (zZ ?_);simp[])|(apply aD;simp[];refine zJ hJ ?_)))
theorem Nv(st:St):aB prog 40 [] st fun r st'=>r=bb true/\st'=st:=by
 refine zN func40 ntmps40 [.tmp 0] ?_
 (repeat' (first|apply qS|(refine zE ?_;intro J hJ;simp[];(try refine zJ hJ ?_))))
 refine qE (So _) (by simp[]) ?_;rintro r st' ⟨rfl,rfl⟩
 (repeat' (first|(refine qR (zZ ?_);simp[])|(apply aD;simp[];refine zJ hJ ?_)))
theorem Qi(st:St):aB prog 15 [] st fun r st'=>r=bb true/\st'=st:=by
 refine qT (Q:=fun r=>r=bb true) ?_ fun r h=>by subst h;trivial
 have hE1:=wU Bt (by decide) (by decide) Ob;have hE2:=wU rY (by decide) (by decide) Mt;have hR:=fun s=>Hz s;refine zN func15 ntmps15 [.tmp 0] ?_
 (repeat' (first|apply qS|(refine zE ?_;intro J hJ;simp[];(try refine zJ hJ ?_))))
 refine DD (hE1 _) (by simp[z0,z0L,grL,Bt,us,eds,edL]) ?_;rintro r s1 ⟨rfl,Xn⟩;unfold BJ;have YZ:=Xn.next;simp only[aF]at YZ
 (repeat' (first|apply qS|((first|(refine zE ?_;intro J hJ)|(apply aD));simp[];(try refine zJ hJ ?_))))
 refine qE (VZ _) sS ?_;rintro r s2 ⟨rfl,Xx⟩;have ZI:=Xx.next;simp only[aF]at ZI;have J4:s2.H s1.next=.box 39 3 (mpL SS):=by rw[Xx.H _ sS];simp[SS]
 have Z4:aA st s2:=((((aA.new _ _).trans (aA.new _ _)).trans Xn).trans (aA.new _ _)).trans Xx
 (repeat' (apply aD;simp[]))
 refine qE (hE2 _) sS ?_;rintro r s3 ⟨rfl,Xq⟩;unfold BJ;have hn3:=Xq.next;have L6:=(Xq.H s1.next oO).trans J4;have c1:¬s1.next=s3.next:=oO;have h3:SS.g.es.length=3:=rfl
 (repeat' (first|apply qS|((first|(refine zE ?_;intro J hJ)|(apply aD));simp[L6,c1];(try refine zJ hJ ?_))))
 refine qE (hR _) (by simp[mpL,grL]) ?_;rintro r s4 ⟨rfl,e4⟩;rw[e4];clear e4 s4
 (repeat' (apply aD;simp[L6,c1,h3]))
 refine qE (Px _) sS ?_;rintro r s4 ⟨rfl,e4⟩;rw[e4];clear e4 s4
 (repeat' (apply aD;simp[L6,c1,h3]))
 refine qE (Nv _) sS ?_;rintro r s4 ⟨rfl,e4⟩;rw[e4];clear e4 s4
 (repeat' (first|(refine qR (zZ ?_);simp[L6,c1,h3])|(apply aD;simp[L6,c1,h3];refine zJ hJ ?_)))
 exact(Z4.trans Xq).trans (aA.new _ _)
theorem Sr(g:Gr)(st:St):aB prog 8 [.ag (grL g)] st fun r st'=>r=i (chk g)/\aA st st':=by
 by_cases h1:(64:Int)<(g.vs.length:Int)
 .have:chk g=6:=by unfold chk;rw[aAe oO]
  refine zN func8 ntmps8 [.tmp 2] ?_
  (repeat' (first|apply qS|(refine qR (zZ ?_);simp[h1,this])|(apply qC;simp[h1,this])|(refine zE ?_;intro J hJ;simp[h1,this];refine zJ hJ ?_)))
  exact aA.new _ _
 by_cases h2:(160:Int)<(g.es.length:Int)
 .have:chk g=6:=by unfold chk;rw[aAe oO]
  refine zN func8 ntmps8 [.tmp 2] ?_
  (repeat' (first|apply qS|(refine qR (zZ ?_);simp[h1,h2,this])|(apply qC;simp[h1,h2,this])|(refine zE ?_;intro J hJ;simp[h1,h2,this];refine zJ hJ ?_)))
  exact aA.new _ _
 exact CL g st oO oO
theorem Ks(g:Gr)(hv:g.vs.length<=1000)(he:g.es.length<=50){o:Option Mp}(ho:(if chk g=0 then pY g (aZ g)else some none)=some o)(st:St):
 aB prog 18 [.ag (grL g)] st fun r st'=>r=bb o.isSome/\aA st st':=by
 refine zN func18 ntmps18 [.tmp 2] ?_
 (repeat' (first|apply qS|(refine zE ?_;intro J hJ;simp[];(try refine zJ hJ ?_))))
 refine qE (wU g hv oO ho _) sS ?_;rintro r s1 ⟨rfl,Xn⟩;unfold BJ;cases o with
 |none=>
  (repeat' (first|apply qS|(refine qR (zZ ?_);simp[])|((first|(refine zE ?_;intro J hJ)|(apply aD));simp[];refine zJ hJ ?_)))
  exact((aA.new _ _).trans Xn).trans (aA.new _ _)
 |some m=>
  (repeat' (first|apply qS|(refine qR (zZ ?_);simp[])|((first|(refine zE ?_;intro J hJ)|(apply aD));simp[];refine zJ hJ ?_)))
  exact((aA.new _ _).trans Xn).trans (aA.new _ _)
theorem Ow(a:Mp)(st:St)(hv:a.g.vs.length<=1000)(he:a.g.es.length<=1000)(hr:a.rots.length<=1000)(hs:∀ t∈a.rots,small t):
 aB prog 19 [.ag (mpL a),.ag (mpL a)] st fun r st'=>r=bb true/\aA st st':=by
 refine zN func19 ntmps19 [.tmp 4] ?_
 (repeat' (first|apply qS|(refine zE ?_;intro J hJ;simp[];(try refine zJ hJ ?_))))
 refine qE (Ca a.g a.g _ oO oO) sS ?_;rintro r s1 ⟨rfl,Xn⟩;have YZ:=Xn.next;simp only[aF]at YZ;have L3:s1.H st.next=.box 39 3 (mpL a):=by rw[Xn.H _ (by simp;omega)];simp
 have Zj:s1.H (st.next+1)=.box 39 3 (mpL a):=by rw[Xn.H _ sS];simp
 have J6:aA st s1:=((aA.new _ _).trans (aA.new _ _)).trans Xn
 (repeat' (first|apply qS|apply qB|refine qK (zZ ?_)|(apply qC;simp[L3,Zj])|((first|(refine zE ?_;intro J hJ)|(apply aD));simp[L3,Zj];refine zJ hJ ?_)))
 refine bE 24 23 25 39 (a.rots.length) (fun j fr st2=>fr 2=.pt st.next 0/\fr 3=.pt (st.next+1) 0/\st2=s1) ?_ ?_ ?_
 .exact⟨sS,sS,rfl⟩
 .rintro j fr s2 dN ⟨f2,f3,rfl⟩ fi fn JJ hJJ;have hd:=kQ a.rots j dN;have hRl2:j<(dU a.rots).length:=by simpa using dN
  have hsk:=hs (a.rots.getD j []) (by rw[dA _ _ dN];exact aAu _);generalize a.rots.getD j []=c at *
  (repeat' (first|apply qS|(refine zE ?_;intro J hJ;simp[fi,fn];refine zJ hJ ?_)))
  (refine zS [] [st.next,st.next+1] [0,2,4,6,8,10,12,14,16,18,20,22] ?_;intro J hJ;simp[f2,f3,L3,Zj,hd,hRl2,dN])
  refine qD (Fi c c 0 0 _ hsk) sS ?_;rintro r s3 ⟨rfl,rfl⟩;refine⟨fun _=>by simp,?_⟩
  (apply aV;simp[];refine zJ hJ ?_)
  (repeat' (first|refine qK (zZ ?_)|(apply qC;simp[])))
  exact hJJ _ _ (by simp[fi]) (by simp[fn]) ⟨by simp[f2],by simp[f3],rfl⟩
 .rintro fr s2 ⟨f2,f3,rfl⟩
  (repeat' (first|apply qS|(refine qR (zZ ?_);simp[])|(refine zE ?_;intro J hJ;simp[];refine zJ hJ ?_)))
  exact J6
def oF(g:Gr):Bool:=decide (chk g=0)&&decide (g.vs.length<=24)&&decide (g.es.length<=50)
theorem Qv(g:Gr)(st:St):aB prog 16 [.ag (grL g)] st fun r st'=>r=bb (oF g)/\st'=st:=by
 refine qT (Q:=fun r=>r=bb (oF g)) ?_ fun r h=>by subst h;trivial
 refine zN func16 ntmps16 [.tmp 2] ?_
 (repeat' (first|apply qS|(refine zE ?_;intro J hJ;simp[];(try refine zJ hJ ?_))))
 refine qE (Sr g _) sS ?_;rintro r s1 ⟨rfl,Xn⟩;have ZW:s1.H st.next=.box 25 2 (grL g):=by rw[Xn.H _ sS];simp
 have J6:aA st s1:=(aA.new _ _).trans Xn;by_cases hc:chk g=0;rotate_left
 .have hf:oF g=false:=by unfold oF;rw[aBM hc];rfl
  generalize chk g=x at *;have hcb:(x==0)=false:=by simpa using hc
  (repeat' (first|(refine qR (zZ ?_);simp[hcb,hc,hf])|(apply aD;simp[hcb,hc,hf];refine zJ hJ ?_)))
  exact J6
 by_cases h1:(g.vs.length:Int)<=24;rotate_left
 .have hf:oF g=false:=by unfold oF;rw[aBy hc,aBM oO];rfl
  (repeat' (first|(refine qR (zZ ?_);simp[hc,hf,ZW,h1])|(apply aD;simp[hc,hf,ZW,h1];refine zJ hJ ?_)))
  exact J6
 by_cases h2:(g.es.length:Int)<=50
 .have hf:oF g=true:=by unfold oF;rw[aBy hc,aBy oO,aBy oO];rfl
  (repeat' (first|(refine qR (zZ ?_);simp[hc,hf,ZW,h1,h2])|(apply aD;simp[hc,hf,ZW,h1,h2];refine zJ hJ ?_)))
  exact J6
 .have hf:oF g=false:=by unfold oF;rw[aBy hc,aBy oO,aBM oO];rfl
  (repeat' (first|(refine qR (zZ ?_);simp[hc,hf,ZW,h1,h2])|(apply aD;simp[hc,hf,ZW,h1,h2];refine zJ hJ ?_)))
  exact J6
theorem PlaneEmbeds(g:Gr)(st:St):aB prog 5 [.ag (grL g)] st fun r st'=>r=bb true:=by
 refine zN func5 ntmps5 [.tmp 2] ?_
 (repeat' (first|apply qS|(refine zE ?_;intro J hJ;simp[];(try refine zJ hJ ?_))))
 refine qE (Qi _) sS ?_;rintro r s1 ⟨rfl,q1⟩;rw[q1];clear q1 s1
 (repeat' (first|apply qS|refine qK (zZ ?_)|(apply qC;simp[])|((first|(refine zE ?_;intro J hJ)|(apply aD));simp[];(try refine zJ hJ ?_))))
 refine qE (Qv g _) sS ?_;rintro r s1 ⟨rfl,q1⟩;rw[q1];clear q1 s1;by_cases hl:oF g=true;rotate_left
 .rw[Bool.not_eq_true]at hl
  (repeat' (first|apply qS|(refine qR (zZ ?_);simp[hl])|(apply qC;simp[hl])|((first|(refine zE ?_;intro J hJ)|(apply aD));simp[hl];refine zJ hJ ?_)))
 have C4:=hl;unfold oF at C4;simp only[aAS,aBX]at C4;obtain⟨⟨hc,hv⟩,he⟩:=C4;obtain⟨o,ho,hm⟩:=PB hc hv he;have hO:(if chk g=0 then pY g (aZ g)else some none)=some o:=by rw[aAe hc];exact ho
 (repeat' (first|apply qS|refine qK (zZ ?_)|(apply qC;simp[hl])|((first|(refine zE ?_;intro J hJ)|(apply aD));simp[hl];(try refine zJ hJ ?_))))
 refine qE (wU g oO oO hO _) sS ?_;rintro r s1 ⟨rfl,Xn⟩;have YZ:=Xn.next;simp only[aF]at YZ;have ZW:s1.H st.next=.box 25 2 (grL g):=by rw[Xn.H _ sS];simp
 have F4:mpL ⟨⟨[],[]⟩,[]⟩=[.sl 0 0 [],.sl 0 0 [],.sl 0 0 []]:=rfl;cases o with
 |none=>
  unfold BJ;have c1:¬st.next=s1.next:=oO
  (repeat' (first|apply qS|((first|(refine zE ?_;intro J hJ)|(apply aD));simp[ZW,c1];(try refine zJ hJ ?_))))
  refine qE (wU g oO oO hO _) sS ?_;rintro r s2 ⟨rfl,Xx⟩;unfold BJ;have ZI:=Xx.next;simp only[aF,bC]at ZI;have G4:s2.H st.next=.box 25 2 (grL g):=by rw[Xx.H _ (by simp;omega)];simp[c1,ZW]
  have Zx:s2.H s1.next=.box 39 3 [.sl 0 0 [],.sl 0 0 [],.sl 0 0 []]:=by rw[Xx.H _ sS];simp
  have c2:¬st.next=s2.next:=oO;have c3:¬s1.next=s2.next:=oO
  (repeat' (first|apply qS|((first|(refine zE ?_;intro J hJ)|(apply aD));simp[G4,Zx,c2,c3];(try refine zJ hJ ?_))))
  refine qE (Ks g oO he hO _) sS ?_;rintro r s3 ⟨rfl,Xq⟩;have hn3:=Xq.next;simp only[aF,bC]at hn3;have hG3:s3.H st.next=.box 25 2 (grL g):=by rw[Xq.H _ (by simp;omega)];simp[c2,G4]
  have hM3:s3.H s1.next=.box 39 3 [.sl 0 0 [],.sl 0 0 [],.sl 0 0 []]:=by rw[Xq.H _ (by simp;omega)];simp[c3,Zx]
  have hN3:s3.H s2.next=.box 39 3 [.sl 0 0 [],.sl 0 0 [],.sl 0 0 []]:=by rw[Xq.H _ sS];simp
  have hS0:=fun s=>Ow ⟨⟨[],[]⟩,[]⟩ s sS sS sS sS
  (repeat' (apply aD;simp[hM3,hN3]))
  refine qE (hS0 _) (by simp[F4]) ?_;rintro r s4 ⟨rfl,Yh⟩;have hM4:=(Yh.H s1.next oO).trans hM3
  (repeat' (first|apply qS|refine qK (zZ ?_)|(apply qC;simp[hM4])|((first|(refine zE ?_;intro J hJ)|(apply aD));simp[hM4];(try refine zJ hJ ?_))))
  refine DD (hS0 _) (by simp[F4,z0,z0L]) ?_;rintro r s5 ⟨rfl,V4⟩
  (repeat' (first|(refine qR (zZ ?_);simp[])|(apply aD;simp[];refine zJ hJ ?_)))
 |some m=>
  unfold BJ;have c1:¬st.next=s1.next:=oO
  (repeat' (first|apply qS|((first|(refine zE ?_;intro J hJ)|(apply aD));simp[ZW,c1];(try refine zJ hJ ?_))))
  refine qE (wU g oO oO hO _) sS ?_;rintro r s2 ⟨rfl,Xx⟩;unfold BJ;have ZI:=Xx.next;simp only[aF,bC]at ZI;have G4:s2.H st.next=.box 25 2 (grL g):=by rw[Xx.H _ (by simp;omega)];simp[c1,ZW]
  have Zx:s2.H s1.next=.box 39 3 (mpL m):=by rw[Xx.H _ sS];simp
  have c2:¬st.next=s2.next:=oO;have c3:¬s1.next=s2.next:=oO
  (repeat' (first|apply qS|((first|(refine zE ?_;intro J hJ)|(apply aD));simp[G4,Zx,c2,c3];(try refine zJ hJ ?_))))
  refine qE (Ks g oO he hO _) sS ?_;rintro r s3 ⟨rfl,Xq⟩;have hn3:=Xq.next;simp only[aF,bC]at hn3;have hG3:s3.H st.next=.box 25 2 (grL g):=by rw[Xq.H _ (by simp;omega)];simp[c2,G4]
  have hM3:s3.H s1.next=.box 39 3 (mpL m):=by rw[Xq.H _ (by simp;omega)];simp[c3,Zx]
  have hN3:s3.H s2.next=.box 39 3 (mpL m):=by rw[Xq.H _ sS];simp
  obtain⟨e1,e2,e3,e4⟩:=hm m rfl;have m1:m.g.vs.length<=1000:=by rw[e1];omega
  have m2:m.g.es.length<=1000:=by rw[e1];omega
  have m3:m.rots.length<=1000:=oO;have hS:=fun s=>Ow m s m1 m2 m3 fun t ht=>by have:=e4 t ht;unfold small;omega
  (repeat' (apply aD;simp[hM3,hN3]))
  refine qE (hS _) sS ?_;rintro r s4 ⟨rfl,Yh⟩;have hM4:=(Yh.H s1.next oO).trans hM3;have U7:=(Yh.H st.next oO).trans hG3;have hgg:m.g=g:=e1
  (repeat' (first|apply qS|refine qK (zZ ?_)|(apply qC;simp[hM4,U7])|((first|(refine zE ?_;intro J hJ)|(apply aD));simp[hM4,U7];(try refine zJ hJ ?_))))
  refine qE (Ca m.g g _ oO oO) sS ?_;rintro r s5 ⟨rfl,V4⟩;have hM5:=(V4.H s1.next (by have:=Yh.next;omega)).trans hM4;rw[aBy hgg]
  (repeat' (apply aD;simp[hM5]))
  refine qE (Ir m _ m1 m2 m3) sS ?_;rintro r s6 ⟨rfl,hk6⟩;rw[e2]
  (repeat' (first|(refine qR (zZ ?_);simp[])|(apply aD;simp[];refine zJ hJ ?_)))
theorem yE(l0:List LV)(st:St)(h0:Shp tab 25 l0):aB prog 5 [Kz tab 25 l0] st fun r st'=>r=bb true:=by obtain⟨g,rfl,_⟩:=UD h0;exact PlaneEmbeds g st
end Aw
end Go.Proofs.YtempldclppogmaaGreatDoor
