/- Plain: what Embed answers. -/
import Derived.Test.YtempldclppogmaaGreatDoorJp
import Derived.Test.YtempldclppogmaaGreatDoorAwFn
import Derived.Test.YtempldclppogmaaGreatDoorAwShp
set_option linter.unusedVariables false
set_option linter.unusedSimpArgs false
set_option linter.unusedSectionVars false
set_option maxHeartbeats 2000000
open Go.Proofs.Tryz
namespace Go.Proofs.YtempldclppogmaaGreatDoor
namespace Aw
open Go Go.RowKit Pl Eu
theorem OS{g:Gr}(hg:GoodE g)(hv:∀ v∈g.vs,0<=v/\v<4194304){l:List Ed}(hl:l∈aZ g):BlE l/\l≠[]/\∀ v∈vsF l,v∈g.vs:=by
 obtain⟨Zv,Xt⟩:=mW hg hl;have Yt:∀ v∈vsF l,v∈g.vs:=fun v h=>by
  obtain⟨e,hel,k⟩:=(bJ v l).1 h;have:=hg.ends e (Xt e hel);rcases k with rfl|rfl
  .exact this.1
  .exact this.2
 refine⟨⟨Zv.ne,?_,fun v h=>hv v (Yt v h)⟩,?_,Yt⟩
 .have h1:=((iE hg).map prE).nodup_iff.2 (Ag g.es);rw[aEe]at h1;exact(aBA (aAx (f:=List.map prE) hl)).nodup h1
 .unfold aZ at hl;obtain⟨B,hB,e⟩:=aAm.1 hl;rw[<- e];intro h0;exact(kX hg.simple hB).ne (aCS.1 h0)
section
variable {g:Gr} (hg:GoodE g) (hv:∀ v∈g.vs,0<=v/\v<4194304) (hn:g.vs.length<=24) (he:g.es.length<=50)
include hg hv hn he
theorem UN{l:List Ed}(hl:l∈aZ g):l.length<=50/\(vsF l).length<=24:=by
 obtain⟨_,_,Yt⟩:=OS hg hv hl;constructor
 .have h1:l.length<=(aZ g).flatten.length:=(aBA hl).length_le;have h2:=(iE hg).length_eq;have h3:=nM g.es;omega
 .have:=aAC ((jV l).imp fun k=>by omega) Yt;omega
theorem Sm{l:List Ed}(hl:l∈aZ g){F:List (List Int)}(hO:iZ l F)(T:TL)(hT:eU T+1200<=100000):okE F (aY F) (uU g F T)/\eU (uU g F T)<=eU T+1200:=by
 obtain⟨hE,h0,Yt⟩:=OS hg hv hl;obtain⟨l1,l2⟩:=UN hg hv hn he hl;have hcnt:=hO.cnt;have hPF:(PF F).length<=100:=by have:=Bn (E:=l) hO.nd fun p hp=>(hO.mem p.1 p.2).1 hp;omega
 obtain⟨a1,a2,a3⟩:=OZ (F.flatMap trs);have hTF:(F.flatMap trs).length=(PF F).length:=by
  have:=(uY F).length_eq
  rwa [aAA]at this
 rw[<- xJ]at a1 a2 a3;have Yf:∀ v∈(aY F).map (·.1),v∈vsF l:=fun v hk=>by obtain⟨t,ht,rfl⟩:=a3 v hk;have:=(uY F).mem_iff.1 (aAx (f:=fun t:Int×Int×Int=>(t.1,t.2.1)) ht);obtain⟨e,he,k⟩:=(hO.mem t.1 t.2.1).1 this;exact(iT he k).2
 have hKl:(oS ((aY F).map (·.1))).length<=24:=by have:=aAC (l₂:=vsF l) ((zC ((aY F).map (·.1))).imp fun k=>by omega) fun v h=>Yf v ((pB v _).1 h);omega
 have hbt:∀ v,((bX (dB v (aY F))).flatMap (seg g v)).length<=50:=fun v=>by
  by_cases D8:v∈vsF l
  .have hR:=hO.round hE h0 D8;have hnd:((bX (dB v (aY F))).flatMap (seg g v)).Nodup:=kJ hR.1 (fun x _=>nA hg v x) fun x _ y _ d h1 h2=>by rw[<- (xI hg h1).2,(xI hg h2).2]
   have:=aAC hnd (l₂:=g.es.map (dAt v)) fun d hd=>by obtain⟨x,_,hd⟩:=aAT.1 hd;obtain⟨e,he,_,rfl⟩:=jK.1 hd;exact aAx he
   rw[aAA]at this;omega
  .rw[nH hO hE D8,mH];simp
 have htot:eU (uU g F T)<=eU T+1200:=by have:=Fs g (aY F) 50 (oS ((aY F).map (·.1))) T fun v _=>hbt v;unfold uU;omega
 refine⟨⟨oO,fun r hr=>?_,oO,fun a ha=>by have:=a2 a ha;omega,oO⟩,htot⟩;have hrn:=hO.nd;unfold PF at hrn;rw[List.flatMap_def]at hrn;have h1:=Bn (E:=l) ((aBA (aAx (f:=prs) hr)).nodup hrn) fun p hp=>(hO.mem p.1 p.2).1 (gB.2 ⟨r,hr,hp⟩);rw[rI]at h1;omega
theorem Ph:∀(bl:List (List Ed)) (T:TL),(∀ l∈bl,l∈aZ g)->eU T+bl.length*1200<=100000->∃ o,Eh g bl T=some o
 |[],T,_,_=>⟨_,rfl⟩
 |l::bl,T,hl,hT=>by
  obtain⟨o,h1,h2⟩:=KD hg oO oO (hl l aAq);unfold Eh;rw[h1,Option.bind_some];cases o with
  |none=>exact⟨none,rfl⟩
  |some F=>
   have e1:eU T+1200<=100000/\(∀ t,t<=eU T+1200->t+bl.length*1200<=100000):=by rw[List.length_cons]at hT;clear h1 h2;generalize eU T=a at *;generalize bl.length=b at *;exact⟨oO,fun t h=>by omega⟩
   obtain⟨k1,k2⟩:=Sm hg hv hn he (hl l aAq) (h2 F rfl) T e1.1;simp only;rw[aAe k1];exact Ph bl _ (fun x hx=>hl x (aAk _ hx)) (e1.2 _ k2)
end
theorem Qc{g:Gr}(hc:chk g=0)(hn:g.vs.length<=24)(he:g.es.length<=50):∃ o,pE g (aZ g)=some o/\∀ m,o=some m->m.g=g/\nJ m=0/\m.rots.length=g.vs.length/\∀ t∈m.rots,t.length<=100:=by
 have hG:=NI hc;have hg:=jS hc;have hv:∀ v∈g.vs,0<=v/\v<4194304:=fun v h=>by have:=hG.vpos v h;omega
 have ZT:(aZ g).length<=50:=by have h1:=CT g;have h2:=nM g.es;omega
 have h1:eU ([]:TL)+(aZ g).length*1200<=100000:=by have h0:eU ([]:TL)=0:=rfl;rw[h0,aBt];generalize (aZ g).length=n at *;omega
 obtain⟨o,ho⟩:=Ph hg hv hn he (aZ g) [] (fun _ h=>h) h1;unfold pE;rw[ho,Option.bind_some];cases o with
 |none=>exact⟨none,rfl,fun m e=>by cases e⟩
 |some T=>
  obtain⟨Bs,hb,hd,ht⟩:=AD g (aZ g) [] T ho;have hS:Sys g Bs:=UB hg hv hb fun p hp=>by
   have hl:p.1∈aZ g:=by rw[<- hb];exact aAx (f:=(·.1)) hp
   obtain⟨o,h1,h2⟩:=KD hg oO oO hl;rw[hd p hp]at h1;injection h1 with h1;exact h2 p.2 h1.symm
  have hturn:∀ v,dS v T=kW g Bs v:=fun v=>by rw[ht v];rfl
  have Xr:∀ v,(kW g Bs v).length<=100:=fun v=>by rw[(hS.turn_perm v).length_eq];have:=uL (nK v) (tQ v) g.es;show(g.es.flatMap (nK v)).length<=100;omega
  simp only;rw[aAe fun v _=>by rw[hturn v];exact aBh (Xr v) oO];refine⟨_,rfl,fun m e=>?_⟩;injection e with e;have em:m=CH g Bs:=by
   rw[<- e];show(⟨g,g.vs.map fun v=>nrm (dS v T)⟩:Mp)=_
   congr 1
   exact aAW fun v _=>by rw[hturn]
  subst em;have hm:=hS.map_ok;have hgn:=hS.plane hb;have hr:rO (CH g Bs)=0:=Jq hc hm.len fun k hk=>hm.ok k hk;refine⟨rfl,?_,sS,fun t ht=>?_⟩
  .unfold nJ;rw[aAa (fun k=>k hr),aAa (fun k=>k hgn)]
  .obtain⟨v,_,rfl⟩:=aAm.1 ht;rw[cE];exact Xr v
end Aw
namespace Aw
open Go Go.RowKit Pl
def Br:Gr:=⟨[1,2,3],[⟨1,1,2⟩,⟨2,2,3⟩,⟨3,3,1⟩]⟩
def rS:Gr:=⟨[1,2,3,4,5],[⟨1,1,2⟩,⟨2,1,3⟩,⟨3,1,4⟩,⟨4,1,5⟩,⟨5,2,3⟩,⟨6,2,4⟩,⟨7,2,5⟩,⟨8,3,4⟩,⟨9,3,5⟩,⟨10,4,5⟩]⟩
theorem Pf{g:Gr}(hg:GoodE g){s:Bw}(h:tC g.es g.vs.length g.vs ⟨[],[],[],[]⟩=some s){B:List (List Nat)}(hp:B.Perm s.out)(hr:B.Pairwise fun x y=>x.headD 0<y.headD 0):fA g.es=B:=by obtain⟨s',h1,_,h2,_,h3⟩:=rH hg;rw[h]at h1;obtain rfl:=aBb h1;exact(Bh h2 h3 hp hr).symm
theorem Cj{g:Gr}(hg:GoodE g){out:List (List Nat)}(h:(tC (sE g.es) g.vs.length g.vs ⟨[],[],[],[]⟩).map (·.out)=some out){B:List (List Nat)}(hp:B.Perm out)(hr:B.Pairwise fun x y=>x.headD 0<y.headD 0):aZ g=B.map fun B=>B.map (eAt (sE g.es)):=by obtain⟨s,h1,rfl⟩:=aBm.1 h;unfold aZ;rw[Pf (g:=⟨g.vs,sE g.es⟩) hg.simple h1 hp hr]
theorem Fl:chk Br=0:=by decide +kernel
theorem Cb:chk rS=0:=by decide +kernel
theorem Ly:aZ Br=[Br.es]:=by rw[Cj (jS Fl) (out:=[[0,1,2]]) (by decide +kernel) (List.Perm.refl _) (by decide)];decide +kernel
theorem JC:aZ rS=[rS.es]:=by rw[Cj (jS Cb) (out:=[[0,1,2,3,4,5,6,7,8,9]]) (by decide +kernel) (List.Perm.refl _) (by decide)];decide +kernel
theorem LR:(if chk rS=0 then pE rS (aZ rS)else some none)=some none:=by rw[aAe Cb,JC];rfl
theorem QZ:(if chk Br=0 then pE Br (aZ Br)else some none)=some (some ⟨Br,[[2,7],[3,4],[5,6]]⟩):=by rw[aAe Fl,Ly];rfl
def oN(a b:Nat):List Ed:=rS.es.filter fun e=>decide (e.a<a)||(decide (e.a=a)&&decide (e.b<b))
theorem Kv(a b:Nat)(h1:1<=a)(h2:a<b)(h3:b<=5):oN a (b+1)=oN a b++[⟨(oN a b).length+1,a,b⟩]:=by
 have h:∀ a:Fin 6,∀ b:Fin 6,1<=a.1->a.1<b.1->oN a.1 (b.1+1)=oN a.1 b.1++[⟨(oN a.1 b.1).length+1,a.1,b.1⟩]:=by decide +kernel
 exact h ⟨a,oO⟩ ⟨b,oO⟩ h1 h2
theorem MZ(a:Nat)(h1:1<=a)(h2:a<=5):oN a 6=oN (a+1) (a+2):=by
 have h:∀ a:Fin 6,1<=a.1->oN a.1 6=oN (a.1+1) (a.1+2):=by decide +kernel
 exact h ⟨a,oO⟩ h1
theorem SM(a b:Nat):(oN a b).length<=10:=aBe _ _
def FvS(st:St)(a b:Nat)(s:St):Prop:=s.H st.next=.box 25 2 [.nil,.nil]/\aA st s/\∃ tv t,s.H (st.next+2)=.box 25 2 [.sl tv 5 (us [1,2,3,4,5]),.sl t (oN a b).length (eds (oN a b))]/\t≠0/\st.next+2<t/\t<s.next/\s.H t=.own 56 3 (oN a b).length
theorem Vt(st:St):aB prog 27 [] st fun r st'=>r=.ag (grL rS)/\aA st st':=by
 refine eF ?_;refine zN func27 ntmps27 [.cell 0 25] ?_;refine eN fun Yh=>?_
 (repeat' (first|apply qS|apply qB|(refine zE ?_;intro J hJ;simp[];refine zJ hJ ?_)))
 refine FE (st.next+2) 56 3 (e:=25) (s:=2) [.sl (st.next+1) 5 (us [1,2,3,4,5])] [] sS ?_;refine qL (fun n fr s=>∃ a:Nat,1<=a/\a<=6/\n=6-a/\fr 0=.pt st.next 0/\fr 1=.pt (st.next+2) 0/\fr 2=u a/\FvS st a (a+1) s) 5 ?_ ?_
 .refine⟨1,oO,oO,rfl,sS,sS,sS,?_,?_,st.next+1,st.next+3,?_,oO,oO,sS,?_⟩
  ·(repeat (first|rw[nHh nOo]|rw[sHh oO]|rw[nIi nQq]|rw[sIi oO]))
  .exact(((((aA.new _ _).trans (aA.new _ _)).trans (aA.new _ _)).set oO _).trans (aA.new _ _)).set oO _
  .have:oN 1 (1+1)=[]:=by decide +kernel
   rw[this];(repeat (first|rw[nHh nOo]|rw[sHh oO]|rw[nIi nQq]|rw[sIi oO]));simp[us,eds]
  .have:oN 1 (1+1)=[]:=by decide +kernel
   rw[this];(repeat (first|rw[nHh nOo]|rw[sHh oO]|rw[nIi nQq]|rw[sIi oO]));simp
 rintro n fr s ⟨a,a1,a2,rfl,f0,f1,f2,hS⟩ JJ hJJ;by_cases ha:a<=5
 .have hw:IntKind.u32.wrap ((a:Int)+1)=((a+1:Nat):Int):=by rw[wrap_u32' _ oO oO];omega
  have ha2:(a:Int)<=5:=oO
  (repeat' (first|apply qS|apply qB|refine qK (zZ ?_)|(apply qC;simp[f2,ha2,hw])|(refine zE ?_;intro J hJ;simp[f2,ha2,hw];refine zJ hJ ?_)))
  refine qL (fun n fr s=>∃ b:Nat,a<b/\b<=6/\n=6-b/\fr 0=.pt st.next 0/\fr 1=.pt (st.next+2) 0/\fr 2=u a/\fr 3=u b/\FvS st a b s) (6-(a+1)) ?_ ?_
  .exact⟨a+1,oO,oO,rfl,by simp[f0],by simp[f1],by simp[f2],sS,hS⟩
  clear f0 f1 f2 hS fr s;rintro n fr s ⟨b,b1,b2,rfl,f0,f1,f2,f3,hS⟩ J2 v7;by_cases hb:b<=5
  .have hwb:IntKind.u32.wrap ((b:Int)+1)=((b+1:Nat):Int):=by rw[wrap_u32' _ oO oO];omega
   have c7:(b:Int)<=5:=oO;obtain⟨hR,hk,tv,t,hB,t0,t1,t2,tH⟩:=hS;have YJ:=Kv a b a1 b1 hb;have Zl:=SM a b;generalize oN a b=E at *;have w1:IntKind.i64.wrap ((E.length:Int)+1)=(E.length:Int)+1:=zW;have w2:IntKind.u32.wrap ((E.length:Int)+1)=(E.length:Int)+1:=wrap_u32' _ oO oO;have hel:=aK E;have Za:=TG E;have c1:¬t=s.next:=oO;have c2:¬s.next=t:=oO;have c3:¬st.next+2=s.next:=oO;have c4:¬st.next+2=t:=oO;have c5:¬st.next+2=s.next+1:=oO;have c6:¬s.next=st.next+2:=oO
   (repeat' (first|apply qS|apply qB|refine qK (zZ ?_)|(apply qC;simp[f0,f1,f2,f3,c7,hwb,hB,tH,t0,w1,w2,hel,Za,c1,c2,c3,c4,c5,c6])|(refine zE ?_;intro J hJ;simp[f0,f1,f2,f3,c7,hwb,hB,tH,t0,w1,w2,hel,Za,c1,c2,c3,c4,c5,c6];(repeat refine ca ?_);refine zJ hJ ?_)))
   refine v7 (6-(b+1)) _ _ oO ⟨b+1,oO,oO,rfl,by simp[f0],by simp[f1],by simp[f2],sS,?_,?_,tv,s.next+1,?_,oO,oO,sS,?_⟩
   ·(repeat (first|rw[nHh nOo]|rw[sHh oO]|rw[nIi nQq]|rw[sIi oO]));exact hR
   .exact(((hk.trans (aA.new _ _)).set oO _).trans (aA.new _ _)).set oO _
   .rw[YJ];(repeat (first|rw[nHh nOo]|rw[sHh oO]|rw[nIi nQq]|rw[sIi oO]));simp[eds,edL]
   .rw[YJ];(repeat (first|rw[nHh nOo]|rw[sHh oO]|rw[nIi nQq]|rw[sIi oO]));simp
  .obtain rfl:b=6:=oO;have c7:¬((6:Nat):Int)<=5:=oO;unfold FvS at hS hJJ;rw[MZ a a1 ha]at hS
   (repeat' (first|apply qS|refine qX (zZ ?_)|(apply qC;simp[f3,f2,hw])|(refine zE ?_;intro J hJ;simp[f3,f2,hw];refine zJ hJ ?_)))
   exact hJJ _ _ _ oO ⟨a+1,oO,oO,rfl,by simp[f0],by simp[f1],sS,hS⟩
 .obtain rfl:a=6:=oO;clear hJJ;obtain⟨hR,hk,tv,t,hB,t0,t1,t2,tH⟩:=hS;have hp:oN 6 (6+1)=rS.es:=by decide +kernel
  rw[hp]at hB tH
  (repeat' (first|apply qS|refine qX (zZ ?_)|(refine qR (zZ ?_);simp[f0,f1,f2,hB,hR])|(apply qC;simp[f0,f1,f2,hB,hR])|(refine zE ?_;intro J hJ;simp[f0,f1,f2,hB,hR];refine zJ hJ ?_)))
  exact⟨by simp only[z0,z0L,zM];rfl,hk.set oO _⟩
end Aw
namespace Aw
open Go Go.RowKit
end Aw
namespace Aw
open Go Go.RowKit Pl
mutual
def kC:LV->Bool
 |.sl t _ cs=>t==0&&rX cs
 |.nil=>true
 |.ag cs=>rX cs
 |.tu cs=>rX cs
 |.atom _=>true
 |_=>false
def rX:List LV->Bool
 |[]=>true
 |c::cs=>kC c&&rX cs
end
abbrev G0:G:=⟨1,fun _=>none,fun _=>0,fun _=>0,fun _=>false⟩
theorem VQ(b o:Nat):G0.ok b o:=by simp[G.ok]
mutual
theorem Hf{w:World}{g:G}:∀(lv:LV) (v:Value),kC lv=true->Rep w g lv v->Rep w G0 lv v
 |.sl t n cs,v,hp,h=>by simp only[kC,aAS,aCL]at hp;obtain⟨rfl,hp⟩:=hp;simp only[Rep]at h ⊢;obtain⟨A,cap,h1,h2,h3,_,h5⟩:=h;refine⟨A,cap,h1,h2,h3,fun h=>absurd rfl h,fun Wm=>?_⟩;obtain⟨b,o,h6,h7⟩:=h5 Wm;exact⟨b,o,h6,xT b cs o hp h7⟩
 |.nil,v,_,h=>by simpa only[Rep]using h
 |.ag cs,v,hp,h=>by simp only[kC]at hp;simp only[Rep]at h ⊢;obtain⟨vs,h1,h2⟩:=h;exact⟨vs,h1,qY cs vs hp h2⟩
 |.tu cs,v,hp,h=>by simp only[kC]at hp;simp only[Rep]at h ⊢;obtain⟨vs,h1,h2⟩:=h;exact⟨vs,h1,qY cs vs hp h2⟩
 |.atom _,_,_,h=>by simpa only[Rep]using h
 |.emp,_,hp,_=>by simp[kC]at hp
 |.dead,_,hp,_=>by simp[kC]at hp
 |.ms _ _ _,_,hp,_=>by simp[kC]at hp
 |.pt _ _,_,hp,_=>by simp[kC]at hp
 |.ep _,_,hp,_=>by simp[kC]at hp
 |.mp _,_,hp,_=>by simp[kC]at hp
 |.fn _ _,_,hp,_=>by simp[kC]at hp
 |.qu _ _ _ _,_,hp,_=>by simp[kC]at hp
 |.pe _ _,_,hp,_=>by simp[kC]at hp
 |.kap _ _ _,_,hp,_=>by simp[kC]at hp
theorem qY{w:World}{g:G}:∀(cs:List LV) (vs:List Value),rX cs=true->aC w g cs vs->aC w G0 cs vs
 |[],vs,_,h=>h
 |c::cs,vs,hp,h=>by simp only[rX,aAS]at hp;simp only[aC]at h ⊢;obtain⟨v,vs',rfl,h1,h2⟩:=h;exact⟨v,vs',rfl,Hf c v hp.1 h1,qY cs vs' hp.2 h2⟩
theorem xT{w:World}{g:G}(b:Nat):∀(cs:List LV) (o:Nat),rX cs=true->aT w g b cs o->aT w G0 b cs o
 |[],_,_,h=>h
 |c::cs,o,hp,h=>by simp only[rX,aAS]at hp;simp only[aT]at h ⊢;obtain⟨⟨v,h1,h2,h3⟩,h4⟩:=h;exact⟨⟨v,h1,Hf c v hp.1 h2,VQ b o⟩,xT b cs (o+1) hp.2 h4⟩
end
theorem CA{P:Program}{f:FuncId}{args:List LV}{r0:LV}{st:St}(ha:rX args=true)(hr:∀(w:World) (g g':G) v,Rep w g r0 v->Rep w g' r0 v)
 (h:aB P f args ⟨1,fun _=>.dead⟩ fun r _=>r=r0):aB P f args st fun r st'=>r=r0/\st'=st:=by
 refine⟨h.1,fun w g vs hi hrp=>?_⟩;have hi0:Inv w G0 ⟨1,fun _=>.dead⟩:=by refine⟨rfl,by decide,fun _ _=>rfl,fun l hl=>hl.elim,fun l l' hl=>hl.elim,fun l e s n hl=>(by cases hl),fun l e s cs hl=>(by cases hl),fun l ag ks es hl=>(by cases hl),fun l e n hl=>(by cases hl),sM (hi.aside.glob.phi fun _ _ _ _ _=>rfl) fun _=>rfl⟩
 refine(h.2 w _ vs hi0 (qY _ _ ha hrp)).mono ?_;rintro e w' ⟨v,r,st',g',rfl,rfl,YG,_,he⟩;have hB:Below w.heap.size w w':=⟨he.os,he.tape,he.output,he.size,fun k hk=>(he.still k hk rfl).2⟩;exact⟨v,_,st,g,rfl,⟨rfl,rfl⟩,hr _ _ _ _ YG,DJ hi hB,vY g hB⟩
def Vl(k:Int)(p:LV×St):Bool:=match p.1 with
 |.atom (.int .i64 n)=>n==k
 |_=>false
def xIP(k:Int)(r:Option (List (LV×St))):Bool:=match r with
 |some l=>l.all (Vl k)
 |none=>false
theorem yJ⦃P:Program⦄{T:Tab}{fns:FuncId->Option Func}{pr:jE}(hT:bF P T)(hf:Cp P fns)(hp:nO P pr)(hm:P.follows .mixedOrders=true)(n:Nat){f:FuncId}{args:List LV}{k:Int}{st:St}(ha:rX args=true)
 (h:xIP k (xO T fns pr n f args ⟨1,fun _=>.dead⟩)=true):aB P f args st fun r st'=>r=i k/\st'=st:=by
 cases hx:xO T fns pr n f args ⟨1,fun _=>.dead⟩ with
 |none=>rw[hx]at h;simp[xIP]at h
 |some l=>
  rw[hx]at h;simp only[xIP]at h;rw[aBC]at h;have:=pD hT hf hp (fun N c fr st L hx=>AR hT hf hp hm n N c fr st L hx) f args _ l hx;refine CA ha (fun w g g' v h=>by simp only[Rep]at h ⊢;exact h) (this.mono ?_);intro r1 Yv L9;have hb:=h _ L9;unfold Vl at hb
  split at hb
  .rename_i m c;simp only at c;rw[c,eq_of_beq hb]
  .cases hb
def Rv:Mp:=⟨Br,[[2,7],[3,4],[5,6]]⟩
theorem JL(st:St):aB prog 21 [.ag (mpL Rv)] st fun r st'=>r=i 0/\st'=st:=
 yJ mU Qb Dn mixed 1000000 (by kernel_rfl) (by kernel_rfl)
theorem Om(st:St):aB prog 39 [] st fun r st'=>r=bb true/\st'=st:=by
 refine zN func39 ntmps39 [.tmp 0] ?_
 (repeat' (first|apply qS|(refine zE ?_;intro J hJ;simp[];(try refine zJ hJ ?_))))
 refine qE (Si _) (by simp[]) ?_;rintro r st' ⟨rfl,rfl⟩
 (repeat' (first|(refine qR (zZ ?_);simp[])|(apply aD;simp[];refine zJ hJ ?_)))
theorem OR(st:St):aB prog 40 [] st fun r st'=>r=bb true/\st'=st:=by
 refine zN func40 ntmps40 [.tmp 0] ?_
 (repeat' (first|apply qS|(refine zE ?_;intro J hJ;simp[];(try refine zJ hJ ?_))))
 refine qE (Rd _) (by simp[]) ?_;rintro r st' ⟨rfl,rfl⟩
 (repeat' (first|(refine qR (zZ ?_);simp[])|(apply aD;simp[];refine zJ hJ ?_)))
theorem Rl(st:St):aB prog 15 [] st fun r st'=>r=bb true/\st'=st:=by
 refine qT (Q:=fun r=>r=bb true) ?_ fun r h=>by subst h;trivial
 have hE1:=vC Br (by decide) (by decide) QZ;have hE2:=vC rS (by decide) (by decide) LR;have hR:=fun s=>JL s;refine zN func15 ntmps15 [.tmp 0] ?_
 (repeat' (first|apply qS|(refine zE ?_;intro J hJ;simp[];(try refine zJ hJ ?_))))
 refine DQ (hE1 _) (by simp[z0,z0L,grL,Br,us,eds,edL]) ?_;rintro r s1 ⟨rfl,Xn⟩;unfold Bj;have Yb:=Xn.next;simp only[aF]at Yb
 (repeat' (first|apply qS|((first|(refine zE ?_;intro J hJ)|(apply aD));simp[];(try refine zJ hJ ?_))))
 refine qE (Vt _) sS ?_;rintro r s2 ⟨rfl,Xx⟩;have ZK:=Xx.next;simp only[aF]at ZK;have I9:s2.H s1.next=.box 39 3 (mpL Rv):=by rw[Xx.H _ sS];simp[Rv]
 have Z3:aA st s2:=((((aA.new _ _).trans (aA.new _ _)).trans Xn).trans (aA.new _ _)).trans Xx
 (repeat' (apply aD;simp[]))
 refine qE (hE2 _) sS ?_;rintro r s3 ⟨rfl,Xq⟩;unfold Bj;have hn3:=Xq.next;have M0:=(Xq.H s1.next oO).trans I9;have c1:¬s1.next=s3.next:=oO;have h3:Rv.g.es.length=3:=rfl
 (repeat' (first|apply qS|((first|(refine zE ?_;intro J hJ)|(apply aD));simp[M0,c1];(try refine zJ hJ ?_))))
 refine qE (hR _) (by simp[mpL,grL]) ?_;rintro r s4 ⟨rfl,e4⟩;rw[e4];clear e4 s4
 (repeat' (apply aD;simp[M0,c1,h3]))
 refine qE (Om _) sS ?_;rintro r s4 ⟨rfl,e4⟩;rw[e4];clear e4 s4
 (repeat' (apply aD;simp[M0,c1,h3]))
 refine qE (OR _) sS ?_;rintro r s4 ⟨rfl,e4⟩;rw[e4];clear e4 s4
 (repeat' (first|(refine qR (zZ ?_);simp[M0,c1,h3])|(apply aD;simp[M0,c1,h3];refine zJ hJ ?_)))
 exact(Z3.trans Xq).trans (aA.new _ _)
theorem RE(g:Gr)(st:St):aB prog 8 [.ag (grL g)] st fun r st'=>r=i (chk g)/\aA st st':=by
 by_cases h1:(64:Int)<(g.vs.length:Int)
 .have:chk g=6:=by unfold chk;rw[aAe oO]
  refine zN func8 ntmps8 [.tmp 2] ?_
  (repeat' (first|apply qS|(refine qR (zZ ?_);simp[h1,this])|(apply qC;simp[h1,this])|(refine zE ?_;intro J hJ;simp[h1,this];refine zJ hJ ?_)))
  exact aA.new _ _
 by_cases h2:(160:Int)<(g.es.length:Int)
 .have:chk g=6:=by unfold chk;rw[aAe oO]
  refine zN func8 ntmps8 [.tmp 2] ?_
  (repeat' (first|apply qS|(refine qR (zZ ?_);simp[h1,h2,this])|(apply qC;simp[h1,h2,this])|(refine zE ?_;intro J hJ;simp[h1,h2,this];refine zJ hJ ?_)))
  exact aA.new _ _
 exact CW g st oO oO
theorem Kq(g:Gr)(hv:g.vs.length<=1000)(he:g.es.length<=50){o:Option Mp}(ho:(if chk g=0 then pE g (aZ g)else some none)=some o)(st:St):
 aB prog 18 [.ag (grL g)] st fun r st'=>r=bb o.isSome/\aA st st':=by
 refine zN func18 ntmps18 [.tmp 2] ?_
 (repeat' (first|apply qS|(refine zE ?_;intro J hJ;simp[];(try refine zJ hJ ?_))))
 refine qE (vC g hv oO ho _) sS ?_;rintro r s1 ⟨rfl,Xn⟩;unfold Bj;cases o with
 |none=>
  (repeat' (first|apply qS|(refine qR (zZ ?_);simp[])|((first|(refine zE ?_;intro J hJ)|(apply aD));simp[];refine zJ hJ ?_)))
  exact((aA.new _ _).trans Xn).trans (aA.new _ _)
 |some m=>
  (repeat' (first|apply qS|(refine qR (zZ ?_);simp[])|((first|(refine zE ?_;intro J hJ)|(apply aD));simp[];refine zJ hJ ?_)))
  exact((aA.new _ _).trans Xn).trans (aA.new _ _)
theorem QY(a:Mp)(st:St)(hv:a.g.vs.length<=1000)(he:a.g.es.length<=1000)(hr:a.rots.length<=1000)(hs:∀ t∈a.rots,small t):
 aB prog 19 [.ag (mpL a),.ag (mpL a)] st fun r st'=>r=bb true/\aA st st':=by
 refine zN func19 ntmps19 [.tmp 4] ?_
 (repeat' (first|apply qS|(refine zE ?_;intro J hJ;simp[];(try refine zJ hJ ?_))))
 refine qE (CN a.g a.g _ oO oO) sS ?_;rintro r s1 ⟨rfl,Xn⟩;have Yb:=Xn.next;simp only[aF]at Yb;have K6:s1.H st.next=.box 39 3 (mpL a):=by rw[Xn.H _ (by simp;omega)];simp
 have Zi:s1.H (st.next+1)=.box 39 3 (mpL a):=by rw[Xn.H _ sS];simp
 have J6:aA st s1:=((aA.new _ _).trans (aA.new _ _)).trans Xn
 (repeat' (first|apply qS|apply qB|refine qK (zZ ?_)|(apply qC;simp[K6,Zi])|((first|(refine zE ?_;intro J hJ)|(apply aD));simp[K6,Zi];refine zJ hJ ?_)))
 refine bD 24 23 25 39 (a.rots.length) (fun j fr st2=>fr 2=.pt st.next 0/\fr 3=.pt (st.next+1) 0/\st2=s1) ?_ ?_ ?_
 .exact⟨sS,sS,rfl⟩
 .rintro j fr s2 dN ⟨f2,f3,rfl⟩ fi fn JJ hJJ;have hd:=kN a.rots j dN;have hRl2:j<(dU a.rots).length:=by simpa using dN
  have hsk:=hs (a.rots.getD j []) (by rw[dA _ _ dN];exact aAu _);generalize a.rots.getD j []=c at *
  (repeat' (first|apply qS|(refine zE ?_;intro J hJ;simp[fi,fn];refine zJ hJ ?_)))
  (refine zS [] [st.next,st.next+1] [0,2,4,6,8,10,12,14,16,18,20,22] ?_;intro J hJ;simp[f2,f3,K6,Zi,hd,hRl2,dN])
  refine qD (FL c c 0 0 _ hsk) sS ?_;rintro r s3 ⟨rfl,rfl⟩;refine⟨fun _=>by simp,?_⟩
  (apply aV;simp[];refine zJ hJ ?_)
  (repeat' (first|refine qK (zZ ?_)|(apply qC;simp[])))
  exact hJJ _ _ (by simp[fi]) (by simp[fn]) ⟨by simp[f2],by simp[f3],rfl⟩
 .rintro fr s2 ⟨f2,f3,rfl⟩
  (repeat' (first|apply qS|(refine qR (zZ ?_);simp[])|(refine zE ?_;intro J hJ;simp[];refine zJ hJ ?_)))
  exact J6
def oE(g:Gr):Bool:=decide (chk g=0)&&decide (g.vs.length<=24)&&decide (g.es.length<=50)
theorem Qg(g:Gr)(st:St):aB prog 16 [.ag (grL g)] st fun r st'=>r=bb (oE g)/\st'=st:=by
 refine qT (Q:=fun r=>r=bb (oE g)) ?_ fun r h=>by subst h;trivial
 refine zN func16 ntmps16 [.tmp 2] ?_
 (repeat' (first|apply qS|(refine zE ?_;intro J hJ;simp[];(try refine zJ hJ ?_))))
 refine qE (RE g _) sS ?_;rintro r s1 ⟨rfl,Xn⟩;have ZV:s1.H st.next=.box 25 2 (grL g):=by rw[Xn.H _ sS];simp
 have J6:aA st s1:=(aA.new _ _).trans Xn;by_cases hc:chk g=0;rotate_left
 .have hf:oE g=false:=by unfold oE;rw[aBM hc];rfl
  generalize chk g=x at *;have hcb:(x==0)=false:=by simpa using hc
  (repeat' (first|(refine qR (zZ ?_);simp[hcb,hc,hf])|(apply aD;simp[hcb,hc,hf];refine zJ hJ ?_)))
  exact J6
 by_cases h1:(g.vs.length:Int)<=24;rotate_left
 .have hf:oE g=false:=by unfold oE;rw[aBy hc,aBM oO];rfl
  (repeat' (first|(refine qR (zZ ?_);simp[hc,hf,ZV,h1])|(apply aD;simp[hc,hf,ZV,h1];refine zJ hJ ?_)))
  exact J6
 by_cases h2:(g.es.length:Int)<=50
 .have hf:oE g=true:=by unfold oE;rw[aBy hc,aBy oO,aBy oO];rfl
  (repeat' (first|(refine qR (zZ ?_);simp[hc,hf,ZV,h1,h2])|(apply aD;simp[hc,hf,ZV,h1,h2];refine zJ hJ ?_)))
  exact J6
 .have hf:oE g=false:=by unfold oE;rw[aBy hc,aBy oO,aBM oO];rfl
  (repeat' (first|(refine qR (zZ ?_);simp[hc,hf,ZV,h1,h2])|(apply aD;simp[hc,hf,ZV,h1,h2];refine zJ hJ ?_)))
  exact J6
theorem PlaneEmbeds(g:Gr)(st:St):aB prog 5 [.ag (grL g)] st fun r st'=>r=bb true:=by
 refine zN func5 ntmps5 [.tmp 2] ?_
 (repeat' (first|apply qS|(refine zE ?_;intro J hJ;simp[];(try refine zJ hJ ?_))))
 refine qE (Rl _) sS ?_;rintro r s1 ⟨rfl,q1⟩;rw[q1];clear q1 s1
 (repeat' (first|apply qS|refine qK (zZ ?_)|(apply qC;simp[])|((first|(refine zE ?_;intro J hJ)|(apply aD));simp[];(try refine zJ hJ ?_))))
 refine qE (Qg g _) sS ?_;rintro r s1 ⟨rfl,q1⟩;rw[q1];clear q1 s1;by_cases hl:oE g=true;rotate_left
 .rw[Bool.not_eq_true]at hl
  (repeat' (first|apply qS|(refine qR (zZ ?_);simp[hl])|(apply qC;simp[hl])|((first|(refine zE ?_;intro J hJ)|(apply aD));simp[hl];refine zJ hJ ?_)))
 have C6:=hl;unfold oE at C6;simp only[aAS,aBX]at C6;obtain⟨⟨hc,hv⟩,he⟩:=C6;obtain⟨o,ho,hm⟩:=Qc hc hv he;have hO:(if chk g=0 then pE g (aZ g)else some none)=some o:=by rw[aAe hc];exact ho
 (repeat' (first|apply qS|refine qK (zZ ?_)|(apply qC;simp[hl])|((first|(refine zE ?_;intro J hJ)|(apply aD));simp[hl];(try refine zJ hJ ?_))))
 refine qE (vC g oO oO hO _) sS ?_;rintro r s1 ⟨rfl,Xn⟩;have Yb:=Xn.next;simp only[aF]at Yb;have ZV:s1.H st.next=.box 25 2 (grL g):=by rw[Xn.H _ sS];simp
 have F5:mpL ⟨⟨[],[]⟩,[]⟩=[.sl 0 0 [],.sl 0 0 [],.sl 0 0 []]:=rfl;cases o with
 |none=>
  unfold Bj;have c1:¬st.next=s1.next:=oO
  (repeat' (first|apply qS|((first|(refine zE ?_;intro J hJ)|(apply aD));simp[ZV,c1];(try refine zJ hJ ?_))))
  refine qE (vC g oO oO hO _) sS ?_;rintro r s2 ⟨rfl,Xx⟩;unfold Bj;have ZK:=Xx.next;simp only[aF,bC]at ZK;have G5:s2.H st.next=.box 25 2 (grL g):=by rw[Xx.H _ (by simp;omega)];simp[c1,ZV]
  have Zx:s2.H s1.next=.box 39 3 [.sl 0 0 [],.sl 0 0 [],.sl 0 0 []]:=by rw[Xx.H _ sS];simp
  have c2:¬st.next=s2.next:=oO;have c3:¬s1.next=s2.next:=oO
  (repeat' (first|apply qS|((first|(refine zE ?_;intro J hJ)|(apply aD));simp[G5,Zx,c2,c3];(try refine zJ hJ ?_))))
  refine qE (Kq g oO he hO _) sS ?_;rintro r s3 ⟨rfl,Xq⟩;have hn3:=Xq.next;simp only[aF,bC]at hn3;have hG3:s3.H st.next=.box 25 2 (grL g):=by rw[Xq.H _ (by simp;omega)];simp[c2,G5]
  have hM3:s3.H s1.next=.box 39 3 [.sl 0 0 [],.sl 0 0 [],.sl 0 0 []]:=by rw[Xq.H _ (by simp;omega)];simp[c3,Zx]
  have hN3:s3.H s2.next=.box 39 3 [.sl 0 0 [],.sl 0 0 [],.sl 0 0 []]:=by rw[Xq.H _ sS];simp
  have hS0:=fun s=>QY ⟨⟨[],[]⟩,[]⟩ s sS sS sS sS
  (repeat' (apply aD;simp[hM3,hN3]))
  refine qE (hS0 _) (by simp[F5]) ?_;rintro r s4 ⟨rfl,Yg⟩;have hM4:=(Yg.H s1.next oO).trans hM3
  (repeat' (first|apply qS|refine qK (zZ ?_)|(apply qC;simp[hM4])|((first|(refine zE ?_;intro J hJ)|(apply aD));simp[hM4];(try refine zJ hJ ?_))))
  refine DQ (hS0 _) (by simp[F5,z0,z0L]) ?_;rintro r s5 ⟨rfl,V7⟩
  (repeat' (first|(refine qR (zZ ?_);simp[])|(apply aD;simp[];refine zJ hJ ?_)))
 |some m=>
  unfold Bj;have c1:¬st.next=s1.next:=oO
  (repeat' (first|apply qS|((first|(refine zE ?_;intro J hJ)|(apply aD));simp[ZV,c1];(try refine zJ hJ ?_))))
  refine qE (vC g oO oO hO _) sS ?_;rintro r s2 ⟨rfl,Xx⟩;unfold Bj;have ZK:=Xx.next;simp only[aF,bC]at ZK;have G5:s2.H st.next=.box 25 2 (grL g):=by rw[Xx.H _ (by simp;omega)];simp[c1,ZV]
  have Zx:s2.H s1.next=.box 39 3 (mpL m):=by rw[Xx.H _ sS];simp
  have c2:¬st.next=s2.next:=oO;have c3:¬s1.next=s2.next:=oO
  (repeat' (first|apply qS|((first|(refine zE ?_;intro J hJ)|(apply aD));simp[G5,Zx,c2,c3];(try refine zJ hJ ?_))))
  refine qE (Kq g oO he hO _) sS ?_;rintro r s3 ⟨rfl,Xq⟩;have hn3:=Xq.next;simp only[aF,bC]at hn3;have hG3:s3.H st.next=.box 25 2 (grL g):=by rw[Xq.H _ (by simp;omega)];simp[c2,G5]
  have hM3:s3.H s1.next=.box 39 3 (mpL m):=by rw[Xq.H _ (by simp;omega)];simp[c3,Zx]
  have hN3:s3.H s2.next=.box 39 3 (mpL m):=by rw[Xq.H _ sS];simp
  obtain⟨e1,e2,e3,e4⟩:=hm m rfl;have m1:m.g.vs.length<=1000:=by rw[e1];omega
  have m2:m.g.es.length<=1000:=by rw[e1];omega
  have m3:m.rots.length<=1000:=oO;have hS:=fun s=>QY m s m1 m2 m3 fun t ht=>by have:=e4 t ht;unfold small;omega
  (repeat' (apply aD;simp[hM3,hN3]))
  refine qE (hS _) sS ?_;rintro r s4 ⟨rfl,Yg⟩;have hM4:=(Yg.H s1.next oO).trans hM3;have U0:=(Yg.H st.next oO).trans hG3;have hgg:m.g=g:=e1
  (repeat' (first|apply qS|refine qK (zZ ?_)|(apply qC;simp[hM4,U0])|((first|(refine zE ?_;intro J hJ)|(apply aD));simp[hM4,U0];(try refine zJ hJ ?_))))
  refine qE (CN m.g g _ oO oO) sS ?_;rintro r s5 ⟨rfl,V7⟩;have hM5:=(V7.H s1.next (by have:=Yg.next;omega)).trans hM4;rw[aBy hgg]
  (repeat' (apply aD;simp[hM5]))
  refine qE (II m _ m1 m2 m3) sS ?_;rintro r s6 ⟨rfl,hk6⟩;rw[e2]
  (repeat' (first|(refine qR (zZ ?_);simp[])|(apply aD;simp[];refine zJ hJ ?_)))
theorem yM(l0:List LV)(st:St)(h0:Shp tab 25 l0):aB prog 5 [LB tab 25 l0] st fun r st'=>r=bb true:=by obtain⟨g,rfl,_⟩:=Te h0;exact PlaneEmbeds g st
end Aw
end Go.Proofs.YtempldclppogmaaGreatDoor
