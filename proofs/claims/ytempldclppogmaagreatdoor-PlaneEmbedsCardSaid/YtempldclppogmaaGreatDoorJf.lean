/- block.Path: the way from one vertex to another one. -/
import Derived.Test.YtempldclppogmaaGreatDoorJe
set_option linter.unusedVariables false
set_option linter.unusedSimpArgs false
set_option linter.defProp false
set_option maxHeartbeats 4000000
open Go.Proofs.Tryz
namespace Go.Proofs.YtempldclppogmaaGreatDoor
namespace Aw
open Go Go.RowKit Pl
def Nk(th:LV)(may:Int->Bool)(st:St):Prop:=
 (th=.atom .nilFunc/\∀ v,may v=true)\/∃ f cY,th=.fn (.func f) cY/\cY.map norm=cY/\∀ v s,aA st s->aB prog f (u v::cY) s fun r s'=>r=bb (may v)/\aA s s'
structure PaB(Xs:St)(A:Led)(Q:List Int)(Ma Mn tq o:Nat)(es:List (List Int×LV))(s:St):Prop where
 ha:s.H Ma=.map false [.u32] (rQ A)
 hn:s.H Mn=.map false [.u32] es
 hq:s.H tq=.que 34 (o+Q.length)
 b:Xs.next<=Ma/\Xs.next<=Mn/\Xs.next<=tq/\Ma<s.next/\Mn<s.next/\tq<s.next/\tq≠0/\¬Mn=Ma
 kp:aA Xs s
theorem Path(g:Gr)(Wn to:Int)(th:LV)(may:Int->Bool)(n:Nat)(l:List Int)(st:St)(hv:g.vs.length<=1048576)(he:g.es.length<=1000)(hn:n<=1000)(hm:Nk th may st)(hl:uO g.vs (cR g.es) may Wn to n=some l):
 aB prog 113 [.ag (grL g),u Wn,u to,th] st fun r st'=>r=.sl 0 l.length (us l)/\aA st st':=by
 have hth:norm th=th:=by rcases hm with⟨rfl,_⟩|⟨f,c,rfl,_,_⟩<;>rfl
 refine eE ?_;refine zN func113 ntmps113 [.tmp 8] ?_;refine eP fun Yi=>?_
 (repeat' (first|apply qS|(refine zE ?_;intro J hJ;simp[];(try (refine zJ hJ ?_;clear hJ J)))))
 refine qE (Qh g Wn _ hv) sS ?_;rintro r s1 ⟨rfl,Xn⟩;have YZ:=Xn.next;simp only[aF]at YZ;have ZW:s1.H st.next=.box 25 2 (grL g):=by rw[Xn.H _ sS];simp
 have p7:aA st s1:=(aA.new _ _).trans Xn;clear Xn;unfold uO at hl;by_cases hf:Wn∈g.vs;rotate_left
 .have h0:gi g.vs Wn<0:=(Dv _ _).2 hf;rw[aAe (.inl hf)]at hl;injection hl with hl;subst hl
  (apply aD;simp[h0];(refine zJ hJ ?_;clear hJ J))
  (repeat' (first|apply qS|(refine qR (zZ ?_);simp[])|(apply qC;simp[])|(refine zE ?_;intro J hJ;simp[];(refine zJ hJ ?_;clear hJ J))))
  exact⟨rfl,p7⟩
 have h0:¬gi g.vs Wn<0:=fun h=>(Dv _ _).1 h hf
 (apply aD;simp[h0,ZW])
 refine qE (Qh g to _ hv) sS ?_;rintro r s2 ⟨rfl,Xx⟩;have ZI:=Xx.next;have G4:=(Xx.H st.next oO).trans ZW;have U9:=p7.trans Xx;clear Xx p7 ZW h0;by_cases ht:to∈g.vs;rotate_left
 .have h0:gi g.vs to<0:=(Dv _ _).2 ht;rw[aAe (.inr ht)]at hl;injection hl with hl;subst hl
  (apply aD;simp[h0];(refine zJ hJ ?_;clear hJ J))
  (repeat' (first|apply qS|(refine qR (zZ ?_);simp[])|(apply qC;simp[])|(refine zE ?_;intro J hJ;simp[];(refine zJ hJ ?_;clear hJ J))))
  exact⟨rfl,U9⟩
 have h0:¬gi g.vs to<0:=fun h=>(Dv _ _).1 h ht;rw[aAa (by simp[hf,ht])]at hl
 (apply aD;simp[h0];(refine zJ hJ ?_;clear hJ J))
 by_cases hft:Wn=to
 .rw[aAe hft]at hl;injection hl with hl;subst hl
  (repeat' (first|apply qS|refine qK (zZ ?_)|(refine qR (zZ ?_);simp[hft])|(apply qC;simp[hft])|(refine zE ?_;intro J hJ;simp[hft];(refine zJ hJ ?_;clear hJ J))))
  refine⟨by simp[z0,z0L,hft],U9.trans (aA.new _ _)⟩
 rw[aAa hft]at hl
 (repeat' (first|apply qS|refine qK (zZ ?_)|(apply qC;simp[hft,G4])|(refine zE ?_;intro J hJ;simp[hft,G4];(try (refine zJ hJ ?_;clear hJ J)))))
 refine qE (Uk g _ hv he oO) sS ?_;rintro r s3 ⟨Mn,es,rfl,m1,m2,Xq,hMn,T8⟩;have hn3:=Xq.next;have Y5:=U9.trans Xq;obtain⟨R0,hbfs,hR0⟩:∃ R0,bfs (cR g.es) may to n [(Wn,Wn)] [Wn]=some R0/\((R0=none/\l=[])\/∃ A l',R0=some A/\gT A Wn n to=some l'/\l=(to::l').reverse):=by
  cases hb:bfs (cR g.es) may to n [(Wn,Wn)] [Wn] with
  |none=>rw[hb]at hl;cases hl
  |some R0=>
   rw[hb]at hl;cases R0 with
   |none=>injection hl with hl;exact⟨_,rfl,.inl ⟨rfl,hl.symm⟩⟩
   |some A=>simp only[aBm]at hl;obtain⟨l',h1,h2⟩:=hl;exact⟨_,rfl,.inr ⟨A,l',rfl,h1,h2.symm⟩⟩
 clear hl
 (repeat' (first|apply qS|apply qB|((first|(refine zE ?_;intro J hJ)|(apply aD));simp[];(refine zJ hJ ?_;clear hJ J))))
 refine UT 11 (t:=s3.next+1) (n:=1) (e:=34) (cs:=[u Wn]) sS sS oO oO ?_;have P1:¬Mn=s3.next:=oO;have A4:¬Mn=s3.next+1:=oO;refine qL (fun k fr s=>∃(A:Led) (Q:List Int) (tq o:Nat),bfs (cR g.es) may to k A Q=some R0/\k<=n/\Q.length+2000*k<=2000*n+1/\fr 1=u Wn/\fr 2=u to/\fr 3=th/\fr 9=.mp Mn/\fr 10=.mp s3.next/\fr 11=.qu tq o Q.length (us Q)/\PaB st A Q s3.next Mn tq o es s) n ?_ ?_
 .refine⟨_,_,s3.next+1,0,hbfs,aAi _,by simp;omega,sS,sS,sS,sS,sS,sS,?_⟩;refine⟨by simp[rQ,bQ],by simp[P1,A4,hMn],sS,⟨oO,oO,oO,by simp;omega,by simp;omega,sS,oO,P1⟩,?_⟩;exact(((Y5.trans (aA.new _ _)).trans (aA.new _ _)).set (q:=s3.next+1) oO _)
 generalize s3.next=Ma at *;clear Xq hn3 Y5 hMn m1 m2 G4 U9 ZI YZ P1 A4 hbfs;rintro k fr s ⟨A,Q,tq,o,hb,hk,hQ,f1,f2,f3,f9,f10,f11,W5,hPn,hPq,⟨b1,b2,b3,b4,b5,b6,b7,b8⟩,Xm⟩ JJ hJJ;cases Q with
 |nil=>
  clear hJJ;have h1:R0=none:=by cases k<;>(simp only[bfs,aAb]at hb;exact hb.symm)
  subst h1;rcases hR0 with⟨_,rfl⟩|⟨_,_,h,_⟩
  ·(repeat' (first|apply qS|refine qX (zZ ?_)|(refine qR (zZ ?_);simp[f11])|(apply qC;simp[f11])|(refine zE ?_;intro J hJ;simp[f11];(refine zJ hJ ?_;clear hJ J))))
   exact⟨rfl,Xm⟩
  .cases h
 |cons v Q=>
 cases k with
 |zero=>simp[bfs]at hb
 |succ k=>
 have hQl:(Q.length:Int)+1 > 0:=oO;have Rp:=T8 v;have Z3:=Lb g.es v;simp only[bfs]at hb;generalize O7:cR g.es v=row at *;have hslc:List.take (Q.length+1-1) (us Q)=us Q:=aAr sS;have hbn:¬(Q.length:Int)+1<=0:=oO
 (repeat (first|apply qS|apply qB))
 (refine zE ?_;intro J hJ;simp[f11,hQl];(refine zJ hJ ?_;clear hJ J))
 (repeat (first|apply qS|apply qB))
 (apply qC;simp[])
 refine qK ?_;simp only[ak]
 (repeat (first|apply qS|apply qB))
 (refine zE ?_;intro J hJ;simp[f11,hQl];(refine zJ hJ ?_;clear hJ J))
 (repeat (first|apply qS|apply qB))
 (refine zE ?_;intro J hJ;simp[f11,hQl,hslc];(repeat refine ca ?_);(refine zJ hJ ?_;clear hJ J))
 apply qS;refine bB (fun f s'=>s'=s/\f 1=u Wn/\f 2=u to/\f 3=th/\f 9=.mp Mn/\f 10=.mp Ma/\f 11=.qu tq (o+1) Q.length (us Q)/\f 12=u v/\(f 50=.nil/\row=[]\/f 50=.sl 0 row.length (us row))/\f 51=i row.length/\f 52=i (0:Nat)) ?_ ?_
 .clear hJJ;unfold Tl at Rp;rw[O7]at Rp;by_cases G1:row=[]
  .rw[aAe G1]at Rp
   (repeat' (refine zE ?_;intro J hJ;simp[f9,hPn,Rp];(refine zJ hJ ?_;clear hJ J)))
   simp[f1,f2,f3,f9,f10,G1]
  .rw[aAa G1]at Rp
   (repeat' (refine zE ?_;intro J hJ;simp[f9,hPn,Rp];(refine zJ hJ ?_;clear hJ J)))
   simp[f1,f2,f3,f9,f10]
 clear f1 f2 f3 f9 f10 f11 fr Rp;rintro fr s' ⟨rfl,f1,f2,f3,f9,f10,f11,f12,f50,f51,f52⟩;apply qB;refine bE 52 51 53 84 row.length (fun j fr st2=>fr 1=u Wn/\fr 2=u to/\fr 3=th/\fr 9=.mp Mn/\fr 10=.mp Ma/\fr 12=u v/\(fr 50=.nil/\row=[]\/fr 50=.sl 0 row.length (us row))/\(dG may to v ⟨A,Q,false⟩ (row.take j)).hit=false/\∃ tq o,fr 11=.qu tq o (dG may to v ⟨A,Q,false⟩ (row.take j)).Q.length (us (dG may to v ⟨A,Q,false⟩ (row.take j)).Q)/\PaB st (dG may to v ⟨A,Q,false⟩ (row.take j)).A (dG may to v ⟨A,Q,false⟩ (row.take j)).Q Ma Mn tq o es st2) ?_ ?_ ?_ (hti:=f52) (htn:=f51)
 .refine⟨f1,f2,f3,f9,f10,f12,f50,rfl,tq,o+1,f11,⟨W5,hPn,?_,⟨b1,b2,b3,b4,b5,b6,b7,b8⟩,Xm⟩⟩;rw[hPq];simp only[List.take_zero,dG,List.foldl_nil,List.length_cons]
  congr 1
  omega
 .clear f1 f2 f3 f9 f10 f11 f12 f50 f51 f52 W5 hPn hPq b1 b2 b3 b4 b5 b6 b7 b8 Xm fr hJJ;rintro j fr s dN ⟨f1,f2,f3,f9,f10,f12,f50,hh,tq,o,f11,W5,hPn,hPq,⟨b1,b2,b3,b4,b5,b6,b7,b8⟩,Xm⟩ fi fn J hJ;have f50:fr 50=.sl 0 row.length (us row):=by
   rcases f50 with⟨_,h⟩|h
   .rw[h]at dN;simp at dN
   .exact h
  have hd:=qG row j dN;have YP:row.take (j+1)=row.take j++[row.getD j 0]:=by rw[aAc,aAd dN];exact aAn dN
  have Yd:=JP may to v ⟨A,Q,false⟩ (row.take j) (row.getD j 0);rw[<- YP]at Yd;have I1:=DG may to v ⟨A,Q,false⟩ (row.take j);simp only[aAo]at I1;have hfull:(dG may to v ⟨A,Q,false⟩ (row.take (j+1))).hit=true->dG may to v ⟨A,Q,false⟩ row=dG may to v ⟨A,Q,false⟩ (row.take (j+1)):=by intro h;have:row=row.take (j+1)++row.drop (j+1):=(aAH _ _).symm;rw[this,dG,aBo];have h2:=Ck may to v h (row.drop (j+1));simp only[dG]at h2 ⊢;rw[h2];simp
  generalize row.getD j 0=x at *;generalize hS:dG may to v ⟨A,Q,false⟩ (row.take j)=S at *;obtain⟨SA,SQ,Sh⟩:=S;simp only at hh f11 W5 hPq I1;subst hh;have K8:=Gt SA x;have hqa:¬tq=Ma:=bU hPq W5 sS;have Zv:¬tq=Mn:=bU hPq hPn sS;have hqa':¬Ma=tq:=fun h=>hqa h.symm;have Zc:¬Mn=tq:=fun h=>Zv h.symm;by_cases Xt:x∈SA.map (·.1)
  .obtain⟨y,hy⟩:=BK Xt;rw[hy]at K8;simp only[Option.map_some]at K8;have h1:fT may to v ⟨SA,SQ,false⟩ x=⟨SA,SQ,false⟩:=by simp[fT,Xt]
   rw[h1]at Yd
   (repeat' (first|apply qS|refine qX (zZ ?_)|(apply qC;simp[f10,f50,fi,fn,hd,dN,W5,K8])|(refine zE ?_;intro J hJ;simp[f10,f50,fi,fn,hd,dN,W5,K8];(refine zJ hJ ?_;clear hJ J))))
   refine hJ _ _ (by simp[fi]) (by simp[fn]) ⟨by simp[f1],by simp[f2],by simp[f3],by simp[f9],by simp[f10],by simp[f12],.inr (by simp[f50]),by rw[Yd],tq,o,by rw[Yd];simp[f11],by rw[Yd];exact⟨W5,hPn,hPq,⟨b1,b2,b3,b4,b5,b6,b7,b8⟩,Xm⟩⟩
  rw[Ad Xt]at K8;simp only[Option.map_none]at K8;have N3:bQ (rQ SA) [x] (u v)=rQ (SA++[(x,v)]):=Nq Xt;by_cases Y6:x=to
  .clear hJ;subst Y6;have h1:fT may x v ⟨SA,SQ,false⟩ x=⟨SA++[(x,v)],SQ,true⟩:=by unfold fT;rw[aAa sS,aAa Xt,aAe rfl]
   rw[h1]at Yd;have hf2:=hfull (by rw[Yd]);rw[hf2,Yd]at hb;simp only[aBn,aAb]at hb;subst hb;rcases hR0 with⟨h,_⟩|⟨A2,l',h,hbk,rfl⟩
   .cases h
   injection h with h;subst h
   (repeat' (first|apply qS|refine qK (zZ ?_)|(apply qC;simp[f1,f2,f10,f12,f50,fi,fn,hd,dN,W5,K8,N3])|(refine zE ?_;intro J hJ;simp[f1,f2,f10,f12,f50,fi,fn,hd,dN,W5,K8,N3];(try (refine zJ hJ ?_;clear hJ J)))))
   refine qE (back (SA++[(x,v)]) Ma Wn x n l' _ oO hbk (by simp;exact b4) sS) sS ?_;rintro r s4 ⟨rfl,Yh⟩
   (repeat' (first|(refine qR (zZ ?_);simp[])|(apply aD;simp[];(refine zJ hJ ?_;clear hJ J))))
   refine⟨by simp only[z0];congr 1;have:=HY (x::l').reverse;simpa using this,?_⟩;exact(Xm.set b1 _).trans Yh
  have h1:fT may to v ⟨SA,SQ,false⟩ x=⟨SA++[(x,v)],if may x=true then SQ++[x]else SQ,false⟩:=by unfold fT;rw[aAa sS,aAa Xt,aAa Y6]
  rw[h1]at Yd;have tn0:¬tq=s.next:=oO;have hQ2:SQ.length<=3000000:=by simp only[List.length_cons]at hQ;omega
  have hT2:∀ m s',s'.H Ma=.map false [.u32] (rQ (SA++[(x,v)]))->s'.H Mn=.map false [.u32] es->s'.H m=.que 34 (0+(SQ++[x]).length)->st.next<=m->m<s'.next->s.next<=s'.next->aA st s'->PaB st (SA++[(x,v)]) (SQ++[x]) Ma Mn m 0 es s':=fun m s' h1 h2 h3 h4 h5 h6 h7=>⟨h1,h2,h3,⟨b1,b2,h4,oO,oO,h5,oO,b8⟩,h7⟩;have hT1:∀ s',s'.H Ma=.map false [.u32] (rQ (SA++[(x,v)]))->s'.H Mn=.map false [.u32] es->s'.H tq=.que 34 (o+SQ.length)->s.next<=s'.next->aA st s'->PaB st (SA++[(x,v)]) SQ Ma Mn tq o es s':=fun s' h1 h2 h3 h6 h7=>⟨h1,h2,h3,⟨b1,b2,b3,oO,oO,oO,b7,b8⟩,h7⟩;rcases hm with⟨rfl,hm⟩|⟨f,cY,rfl,hcaps,hm⟩
  .rw[aAe (hm x)]at Yd
   (repeat' (first|apply qS|refine qK (zZ ?_)|(apply qC;simp[f1,f2,f3,f10,f11,f12,f50,fi,fn,hd,dN,W5,K8,N3,Y6,hPq,hqa,Zv,hqa',Zc,tn0])|(refine zE ?_;intro J hJ;simp[f1,f2,f3,f10,f11,f12,f50,fi,fn,hd,dN,W5,K8,N3,Y6,hPq,hqa,Zv,hqa',Zc,tn0];(repeat refine ca ?_);(refine zJ hJ ?_;clear hJ J))))
   refine hJ _ _ (by simp[fi]) (by simp[fn]) ⟨by simp[f1],by simp[f2],by simp[f3],by simp[f9],by simp[f10],by simp[f12],.inr (by simp[f50]),by rw[Yd],s.next+1,0,by rw[Yd];simp,?_⟩;rw[Yd];refine hT2 _ _ (by(repeat (first|rw[nHh nOo]|rw[sHh oO]|rw[nIi nQq]|rw[sIi oO]))) (by(repeat (first|rw[nHh nOo]|rw[sHh oO]|rw[nIi nQq]|rw[sIi oO]));exact hPn) (by(repeat (first|rw[nHh nOo]|rw[sHh oO]|rw[nIi nQq]|rw[sIi oO]));simp) oO sS (by simp;omega) ?_;exact((((Xm.set b1 _).trans (aA.new _ _)).set b3 _).trans (aA.new _ _))
  ·(repeat' (first|apply qS|refine qK (zZ ?_)|(apply qC;simp[f1,f2,f3,f10,f11,f12,f50,fi,fn,hd,dN,W5,K8,N3,Y6])|(refine zE ?_;intro J hJ;simp[f1,f2,f3,f10,f11,f12,f50,fi,fn,hd,dN,W5,K8,N3,Y6];(try (refine zJ hJ ?_;clear hJ J)))))
   have hkz:aA st (s.set Ma (.map false [.u32] (rQ (SA++[(x,v)])))):=Xm.set b1 _;refine qE (hm x _ hkz) (by simp[hcaps]) ?_;rintro r s4 ⟨rfl,Yh⟩;have C5:=Yh.next;simp only[bC]at C5;have hPa4:s4.H Ma=.map false [.u32] (rQ (SA++[(x,v)])):=by rw[Yh.H Ma (by simp;exact b4)];simp
   have hPn4:s4.H Mn=.map false [.u32] es:=by rw[Yh.H Mn (by simp;exact b5)];simp[b8,hPn]
   have hPq4:s4.H tq=.que 34 (o+SQ.length):=by rw[Yh.H tq (by simp;exact b6)];simp[hqa,hPq]
   have tn4:¬tq=s4.next:=oO;cases hmy:may x
   .rw[hmy,aAa sS]at Yd
    (repeat' (first|refine qK (zZ ?_)|(apply qC;simp[f11])|(apply aD;simp[f11];(refine zJ hJ ?_;clear hJ J))))
    refine hJ _ _ (by simp[fi]) (by simp[fn]) ⟨by simp[f1],by simp[f2],by simp[f3],by simp[f9],by simp[f10],by simp[f12],.inr (by simp[f50]),by rw[Yd],tq,o,by rw[Yd];simp[f11],?_⟩;rw[Yd];exact hT1 _ hPa4 hPn4 hPq4 C5 (hkz.trans Yh)
   .rw[hmy,aAe rfl]at Yd
    (repeat' (first|(apply qC;simp[f11,hPq4,tn4])|((first|(refine zE ?_;intro J hJ)|(apply aD));simp[f11,hPq4,tn4];(repeat refine ca ?_);(refine zJ hJ ?_;clear hJ J))))
    refine hJ _ _ (by simp[fi]) (by simp[fn]) ⟨by simp[f1],by simp[f2],by simp[f3],by simp[f9],by simp[f10],by simp[f12],.inr (by simp[f50]),by rw[Yd],s4.next+1,0,by rw[Yd];simp,?_⟩;rw[Yd];refine hT2 _ _ (by(repeat (first|rw[nHh nOo]|rw[sHh oO]|rw[nIi nQq]|rw[sIi oO]));exact hPa4) (by(repeat (first|rw[nHh nOo]|rw[sHh oO]|rw[nIi nQq]|rw[sIi oO]));exact hPn4) (by(repeat (first|rw[nHh nOo]|rw[sHh oO]|rw[nIi nQq]|rw[sIi oO]));simp) oO sS (by simp;omega) ?_;exact((((hkz.trans Yh).trans (aA.new _ _)).set b3 _).trans (aA.new _ _))
 .rintro fr s ⟨f1,f2,f3,f9,f10,f12,f50,hh,tq,o,f11,hB⟩;rw[aAQ]at hh f11 hB;rw[aAa (by rw[hh];simp)]at hb;have I1:=DG may to v ⟨A,Q,false⟩ row;simp only at I1;simp only[ak];refine hJJ k _ _ oO ⟨_,_,tq,o,hb,oO,by simp only[List.length_cons]at hQ;omega,by simp[f1],by simp[f2],by simp[f3],by simp[f9],by simp[f10],by simp[f11],hB⟩
theorem LK{vs:List Int}{v:Int}(h:v∉vs):bR (vH vs) [v]=none:=by
 have key:∀(L:List Nat),(∀ j∈L,j<vs.length)->bR (L.map fun k=>(([vs.getD k 0],i k):List Int×LV)) [v]=none:=by
  intro L;induction L with
  |nil=>intro _;rfl
  |cons j L ih=>intro hL;have hj:=hL j sS;have Wx:¬v=vs.getD j 0:=fun e=>h (by rw[e,aN _ _ hj];exact aAu _);simp only[aAj,bR];rw[aAa (by simpa using Wx)];exact ih fun j hj=>hL j (aAk _ hj)
 exact key _ fun j hj=>aAX.1 hj
def LJ(vs:List Int)(v:Int):Int:=if v∈vs then v else vs.getD 0 0
theorem VW{vs:List Int}{S pl:Nat}{st:St}(hS:ShB vs S pl st)(hn:vs.Nodup)(h64:vs.length<=64)(h0:0<vs.length)(v:Int):
 aB prog 110 [.pt S 0,u v] st fun r st'=>r=wv (mk vs [LJ vs v])/\st'=st:=by
 unfold LJ;by_cases hv:v∈vs
 .rw[aAe hv];exact RT hS hn h64 hv
 .rw[aAa hv];obtain⟨⟨a,b,c,d,e,f,Yl⟩,hP⟩:=hS;have h1:=LK hv;have h2:=Kl hn h64 h0;have h2:ED .u64 1 0=mk vs [vs.getD 0 0]:=h2;refine zN func110 ntmps110 [.tmp 4] ?_
  (repeat' (first|apply qS|(refine qR (zZ ?_);simp[Yl,hP,h1,h2])|(refine zE ?_;intro J hJ;simp[Yl,hP,h1,h2];refine zJ hJ ?_)))
def inW(vs inner:List Int)(v:Int):Bool:=decide (LJ vs v∈inner)
theorem Ut{vs inner:List Int}(h64:vs.length<=64){v:Int}(hv:v∈vs):((wT .u64 (mk vs [v]) (mk vs inner):Int) != 0)=decide (v∈inner):=by
 rw[QF _ _ _ h64];by_cases h:v∈inner
 .have:mk vs ([v].filter fun v=>decide (v∈inner))≠0:=fun e=>by have:=(mk_zero _ _).1 e v hv;simp[h]at this
  simpa[h]using this
 .have:mk vs ([v].filter fun v=>decide (v∈inner))=0:=(mk_zero _ _).2 fun w _=>by simp[h]
  rw[this];simp[h]
theorem VK{vs inner:List Int}{e:LV}{S pl a b:Nat}{st:St}(hS:ShB vs S pl st)(hn:vs.Nodup)(h64:vs.length<=64)(h0:0<vs.length)(ha:st.H a=.box 113 1 [.pt S 0])(hb:st.H b=.box 121 2 [wv (mk vs inner),e])(v:Int):
 aB prog 119 [u v,.pt a 0,.pt b 0] st fun r st'=>r=bb (inW vs inner v)/\st'=st:=by
 have hbv:LJ vs v∈vs:=by
  unfold LJ;by_cases h:v∈vs
  .rw[aAe h];exact h
  .rw[aAa h,aN _ _ h0];exact aAu _
 have Xt:=Ut (inner:=inner) h64 hbv;unfold inW;refine zN func119 ntmps119 [.tmp 4] ?_
 (repeat' (first|apply qS|(refine zE ?_;intro J hJ;simp[];refine zJ hJ ?_)))
 (refine zS [] [a,b] [0,2,6,8,4,10,12,14] ?_;intro J hJ;simp[ha,hb])
 refine qD (VW hS hn h64 h0 v) sS ?_;rintro r s1 ⟨rfl,h1⟩;rw[h1];clear h1 s1;refine⟨fun h=>by first|(cases h;done)|exact fun _ _=>rfl|simp,?_⟩
 (apply aV;simp[hb,Xt];refine zJ hJ ?_)
 (repeat' (refine qR (zZ ?_);simp[]))
theorem Xa{vs inner:List Int}{e:LV}{S pl a b c:Nat}{st:St}(hS:ShB vs S pl st)(hn:vs.Nodup)(h64:vs.length<=64)(h0:0<vs.length)(ha:st.H a=.box 113 1 [.pt S 0])(hb:st.H b=.box 121 2 [wv (mk vs inner),e])
 (hc:st.H c=.box 129 1 [.fn (.func 119) [.pt a 0,.pt b 0]]) (dN:S<st.next/\pl<st.next/\a<st.next/\b<st.next/\c<st.next) (x:Ed):
 aB prog 120 [.ag (edL x),.pt c 0] st fun r st'=>r=bb (inW vs inner x.a||inW vs inner x.b)/\aA st st':=by
 obtain⟨d,p,q⟩:=x;obtain⟨⟨e1,e2,e3,e4,e5,e6,Yl⟩,hP⟩:=hS;have hk:=aA.new st (.box 56 3 (edL ⟨d,p,q⟩));have hW:=fun v=>VK (vs:=vs) (inner:=inner) (e:=e) (S:=S) (pl:=pl) (a:=a) (b:=b) (st:=st.new (.box 56 3 (edL ⟨d,p,q⟩))) ⟨⟨e1,e2,e3,e4,e5,e6,(hk.H S dN.1).trans Yl⟩,(hk.H pl dN.2.1).trans hP⟩ hn h64 h0 ((hk.H a dN.2.2.1).trans ha) ((hk.H b dN.2.2.2.1).trans hb) v;have c1:¬c=st.next:=oO;refine zN func120 ntmps120 [.tmp 3] ?_
 (repeat' (first|apply qS|(refine zE ?_;intro J hJ;simp[hc,c1];(try refine zJ hJ ?_))))
 refine qE (hW p) sS ?_;rintro r s1 ⟨rfl,h1⟩;rw[h1];clear h1 s1;cases hp:inW vs inner p
 ·(apply aD;simp[hc,c1])
  refine qE (hW q) sS ?_;rintro r s1 ⟨rfl,h1⟩;rw[h1];clear h1 s1
  (repeat' (first|(refine qR (zZ ?_);simp[])|(apply aD;simp[];refine zJ hJ ?_)))
  exact⟨fun h=>(by rw[hp]at h;cases h),hk⟩
 ·(repeat' (first|(refine qR (zZ ?_);simp[])|(apply aD;simp[];refine zJ hJ ?_)))
  exact⟨.inl hp,hk⟩
theorem TG(g:Gr)(f:FuncId)(cY:List LV)(p:Ed->Bool)(st:St)(hv:g.vs.length<=1000)(he:g.es.length<=1000)(hp:Kk f cY st g.es p):
 aB prog 111 [.ag (grL g),.fn (.func f) cY] st fun r st'=>r=.ag (grL ⟨g.vs,g.es.filter p⟩)/\aA st st':=by
 refine eE ((Wl g f cY p st hv he hp).mono ?_);rintro r st' ⟨⟨X,rfl,hX⟩,hk⟩;refine⟨?_,hk⟩;simp only[z0,z0L,HY]
 congr 1
 rcases hX with⟨rfl,h⟩|⟨t,rfl⟩
 .rw[h];simp[z0]
 .simp only[z0,zA]
def sA(g:Gr)(inner:List Int):Gr:=⟨g.vs,g.es.filter fun x=>inW g.vs inner x.a||inW g.vs inner x.b⟩
def CD(g:Gr)(b:Brg):Int:=g.vs.getD (fst' g.vs b.ends) 0
def kV(g:Gr)(b:Brg):List Int:=b.ends.filter fun w=>decide (w≠CD g b)
def toW(g:Gr)(b:Brg):Int:=g.vs.getD (fst' g.vs (kV g b)) 0
def ML(g:Gr)(b:Brg):Option (List Int):=
 if fst' g.vs b.ends<g.vs.length/\fst' g.vs (kV g b)<g.vs.length then
  if nrS g.vs b.inner=[]then some [CD g b,toW g b]else uO g.vs (cR (sA g b.inner).es) (inW g.vs b.inner) (CD g b) (toW g b) 1000
 else none
theorem Wp{g:Gr}(hg:GP g){L:List (Int×Int)}{on:List Int}{F:List (List Int)}{S nl pl ll fl:Nat}{le:List (List Int×LV)}{st:St}(hS:ShA g L on F S nl pl ll fl le st){b:Brg}(hb:∀ v∈b.ends,v∈g.vs){w:List Int}(hw:ML g b=some w):
 aB prog 77 [.pt S 0,Sv g.vs b] st fun r st'=>r=.sl 0 w.length (us w)/\st'=st:=by
 refine qT (Q:=fun r=>r=.sl 0 w.length (us w)) (eE ?_) fun r h=>by subst h;exact⟨.inl rfl,zQ _ _⟩
 have h64:=hg.h64;have he:=hg.he;have hn:g.vs.Nodup:=hg.toGoodE.toGood.nodup;unfold ML at hw;by_cases hq:fst' g.vs b.ends<g.vs.length/\fst' g.vs (kV g b)<g.vs.length
 case neg=>rw[aAa hq]at hw;cases hw
 rw[aAe hq]at hw;obtain⟨X4,Zi⟩:=hq;have h0:0<g.vs.length:=oO;have A4:=Df h64 X4;have V6:=Df h64 Zi;have G3:=mN g.vs b.ends h64;have C4:=mN g.vs (kV g b) h64;have hdp:=Ka h64 hn X4;have hdp:wT .u64 (mk g.vs b.ends) (IntKind.u64.wrap ((mk g.vs b.ends:Int)-1))=mk g.vs (kV g b):=hdp;have Xu:=qG g.vs _ X4;have YQ:=qG g.vs _ Zi;have Xu:(us g.vs).drop (fst' g.vs b.ends)=u (CD g b)::us (g.vs.drop (fst' g.vs b.ends+1)):=Xu;have YQ:(us g.vs).drop (fst' g.vs (kV g b))=u (toW g b)::us (g.vs.drop (fst' g.vs (kV g b)+1)):=YQ;have M5:(fst' g.vs b.ends:Int)<g.vs.length:=oO;have hi2:(fst' g.vs (kV g b):Int)<g.vs.length:=oO;have hT1:=fun st=>Tz (mk g.vs b.ends) G3 st;have hT2:=fun st=>Tz (mk g.vs (kV g b)) C4 st;rw[A4]at hT1;rw[V6]at hT2;have Yl:=hS.r.box;have dN:=hS.r.lt;have x1:¬S=st.next:=oO;have x2:¬S=st.next+1:=oO;generalize CD g b=fm at *;generalize toW g b=tw' at *;generalize fst' g.vs b.ends=k1 at *;generalize fst' g.vs (kV g b)=k2 at *;generalize kV g b=E2 at *;have e0:¬st.next=st.next+1:=oO;refine zN func77 ntmps77 [.tmp 4] ?_
 (repeat' (first|apply qS|(refine zE ?_;intro J hJ;simp[];refine zJ hJ ?_)))
 (refine zS [] [S,st.next,st.next+1] [0,2,4,6,8,10,12,14,16,18,20] ?_;intro J hJ;simp[Yl,x1,x2,e0])
 refine qD (hT1 _) sS ?_;rintro r s1 ⟨rfl,h1⟩;rw[h1];clear h1 s1;refine⟨fun h=>by first|(cases h;done)|exact fun _ _=>rfl|simp,?_⟩
 (apply aV;simp[Xu,M5,X4];refine zJ hJ ?_)
 (repeat (apply qS))
 (refine zS [] [S,st.next,st.next+1] [0,2,4,6,8,10,12,14,16,18,20,22,24,26,28] ?_;intro J hJ;simp[Yl,x1,x2,e0,hdp])
 refine qD (hT2 _) sS ?_;rintro r s1 ⟨rfl,h1⟩;rw[h1];clear h1 s1;refine⟨fun h=>by first|(cases h;done)|exact fun _ _=>rfl|simp,?_⟩
 (apply aV;simp[YQ,hi2,Zi];refine zJ hJ ?_)
 have F4:mk g.vs []=0:=(mk_zero g.vs []).2 fun _ _=>by simp
 by_cases Xt:nrS g.vs b.inner=[]
 .rw[aAe Xt]at hw;obtain rfl:[fm,tw']=w:=by simpa using hw
  have hm:mk g.vs b.inner=0:=by rw[<- EI,Xt,F4]
  (repeat' (first|apply qS|(refine qR (zZ ?_);simp[hm])|(apply qC;simp[hm])|(refine zE ?_;intro J hJ;simp[hm];refine zJ hJ ?_)))
  exact⟨by simp[z0,z0L],((aA.new _ _).trans (aA.new _ _)).trans (aA.new _ _)⟩
 .rw[aAa Xt]at hw
  have hm:mk g.vs b.inner≠0:=fun h=>Xt (by
   rw[<- EI,mk_zero]at h
   exact aCw.2 fun v hv=>h v (aAz.1 hv).1 hv)
  have u5:((mk g.vs b.inner:Int)==0)=false:=by simpa using hm
  have x3:¬S=st.next+1+1:=oO
  have hT:∀ s3,aA st s3->st.next+2<s3.next->s3.H st.next=.box 113 1 [.pt S 0]->s3.H (st.next+1)=.box 121 2 [wv (mk g.vs b.inner),wv (mk g.vs b.ends)]->s3.H (st.next+1+1)=.box 129 1 [.fn (.func 119) [.pt st.next 0,.pt (st.next+1) 0]]->
   Kk 120 [.pt (st.next+1+1) 0] s3 g.es fun x=>inW g.vs b.inner x.a||inW g.vs b.inner x.b:=fun s3 Xq hn3 hA3 L6 hC3 x _ st2 Xx=>by
   have ZI:=Xx.next;exact Xa (hS.keep (Xq.trans Xx)).r.b hn h64 h0 ((Xx.H _ oO).trans hA3) ((Xx.H _ oO).trans L6) ((Xx.H _ oO).trans hC3) oO x
  have hM:∀ s3,aA st s3->st.next+2<s3.next->s3.H st.next=.box 113 1 [.pt S 0]->s3.H (st.next+1)=.box 121 2 [wv (mk g.vs b.inner),wv (mk g.vs b.ends)]->
   Nk (.fn (.func 119) [.pt st.next 0,.pt (st.next+1) 0]) (inW g.vs b.inner) s3:=fun s3 Xq hn3 hA3 L6=>.inr ⟨_,_,rfl,rfl,fun v s hk=>by
   refine(VK (hS.keep (Xq.trans hk)).r.b hn h64 h0 ((hk.H _ oO).trans hA3) ((hk.H _ oO).trans L6) v).mono ?_;rintro r s' ⟨h1,rfl⟩
   exact⟨h1,aA.refl _⟩⟩
  (repeat' (first|apply qS|refine qK (zZ ?_)|(apply qC;simp[u5,Yl,x1,x2,x3])|(refine zE ?_;intro J hJ;simp[u5,Yl,x1,x2,x3];(try refine zJ hJ ?_))))
  refine qE (TG g _ _ _ _ oO oO (hT _ ?_ ?_ ?_ ?_ ?_)) (by simp[grL]) ?_
  .exact(((aA.new _ _).trans (aA.new _ _)).trans (aA.new _ _)).set oO _
  .simp
  ·(repeat (first|rw[nHh nOo]|rw[sHh oO]|rw[nIi nQq]|rw[sIi oO]))
  ·(repeat (first|rw[nHh nOo]|rw[sHh oO]|rw[nIi nQq]|rw[sIi oO]))
  .simp
  rintro r s1 ⟨rfl,Xn⟩;have YZ:=Xn.next;simp only[bC,aF]at YZ;have J6:aA st s1:=((((aA.new _ _).trans (aA.new _ _)).trans (aA.new _ _)).set oO _).trans Xn;have L3:s1.H st.next=.box 113 1 [.pt S 0]:=by rw[Xn.H _ (by simp only[bC,aF];omega)];(repeat (first|rw[nHh nOo]|rw[sHh oO]|rw[nIi nQq]|rw[sIi oO]))
  have Zj:s1.H (st.next+1)=.box 121 2 [wv (mk g.vs b.inner),wv (mk g.vs b.ends)]:=by rw[Xn.H _ (by simp only[bC,aF];omega)];(repeat (first|rw[nHh nOo]|rw[sHh oO]|rw[nIi nQq]|rw[sIi oO]))
  have hC1:s1.H (st.next+1+1)=.box 129 1 [.fn (.func 119) [.pt st.next 0,.pt (st.next+1) 0]]:=by rw[Xn.H _ (by simp only[bC,aF];omega)];simp
  clear Xn;have y1:¬st.next+1+1=s1.next:=oO;have y2:¬st.next=s1.next:=oO;have y3:¬st.next+1=s1.next:=oO;have Zn:(sA g b.inner).es.length<=1000:=by have:=aBe (fun x:Ed=>inW g.vs b.inner x.a||inW g.vs b.inner x.b) g.es;unfold sA;simp only;omega
  (repeat' (first|apply qS|((first|(refine zE ?_;intro J hJ)|(apply aD));simp[hC1,y1];(try refine zJ hJ ?_))))
  refine qE (Path (sA g b.inner) fm tw' _ _ 1000 w _ (by unfold sA;simp only;omega) Zn oO (hM _ (J6.trans (aA.new _ _)) (by simp only[aF];omega) ?_ ?_) hw) (by simp[grL,sA]) ?_
  .rw[cB,aAa y2];exact L3
  .rw[cB,aAa y3];exact Zj
  rintro r s2 ⟨rfl,Xx⟩
  (repeat' (first|(refine qR (zZ ?_);simp[])|(apply aD;simp[];refine zJ hJ ?_)))
  exact⟨by simp[z0],(J6.trans (aA.new _ _)).trans Xx⟩
def uK(n i j:Nat):Nat:=if i<=j then j-i else j+n-i
def jA(r:List Int)(i j:Nat):List Int:=((r++r).drop i).take (uK r.length i j+1)
theorem SO{n i j p:Nat}(hi:i<n)(hj:j<n)(hp:p<=uK n i j):((i+p) % n=j↔p=uK n i j):=by
 unfold uK at *;by_cases h:i<=j
 .rw[aAe h]at *;rw[aAK oO];omega
 .rw[aAa h]at *;by_cases h2:i+p<n
  .rw[aAK h2];omega
  .rw[show i+p=(i+p-n)+n by omega,aDy,aAK oO];omega
theorem zI{n i j:Nat}(hi:i<n)(hj:j<n):uK n i j<n:=by unfold uK;split<;>omega
theorem Qz(r:List Int)(i p:Nat)(hi:i<r.length)(hp:p<r.length):((r++r).drop i)[p]?=some (r.getD ((i+p) % r.length) 0):=by
 rw[aCo];by_cases h:i+p<r.length
 .rw[aAY h,aAK h,aAc,aAd h];rfl
 .rw[aBl oO,show i+p=(i+p-r.length)+r.length by omega,aDy,aAK oO,aAc];have:i+p-r.length<r.length:=oO;rw[show i+p-r.length+r.length-r.length=i+p-r.length by omega,aAd this];rfl
theorem FR(r:List Int)(i p:Nat)(hi:i<r.length)(hp:p<r.length):((r++r).drop i).take (p+1)=((r++r).drop i).take p++[r.getD ((i+p) % r.length) 0]:=by
 have h:=Qz r i p hi hp;have hl:p<((r++r).drop i).length:=by rw[aAN,aAh];omega
 rw[aAn hl];rw[aAd hl,aAb]at h;rw[h]
theorem BE(r:List Int)(i j:Nat)(hi:i<r.length)(hj:j<r.length):(jA r i j).length=uK r.length i j+1:=by have:=zI hi hj;unfold jA;rw[aAo,aAN,aAh];omega
theorem Uv(r:List Int)(k j:Nat)(st:St)(hi:k<r.length)(hj:j<r.length)(hl:r.length<=1000)(hp:0<st.next):
 aB prog 117 [.sl 0 r.length (us r),i k,i j] st fun v st'=>(∃ t,v=.sl t (jA r k j).length (us (jA r k j))/\EF t 34 1 (jA r k j).length st st')/\aA st st':=by
 have hd0:=qG r k hi;have Xn:(k:Int)<r.length:=oO;have F8:=BE r k j hi hj;have YL:=zI hi hj;refine zN func117 ntmps117 [.tmp 6] ?_
 (repeat' (first|apply qS|apply qB|(refine zE ?_;intro J hJ;simp[hd0,Xn,hi];refine zJ hJ ?_)))
 have e0:¬st.next=0:=oO;have Yj:(k+0) % r.length=k:=by rw[Nat.add_zero,aAK hi]
 refine qL (fun n fr st'=>∃ p t:Nat,p<=uK r.length k j/\n=uK r.length k j-p/\fr 0=.sl 0 r.length (us r)/\fr 1=i (((k+p) % r.length:Nat):Int)/\fr 2=i j/\fr 7=.sl t (p+1) (us (((r++r).drop k).take (p+1)))/\EF t 34 1 (p+1) st st'/\aA st st') (uK r.length k j) ?_ ?_
 .refine⟨0,st.next,oO,oO,sS,?_,sS,?_,⟨e0,aAi _,sS,sS⟩,aA.new _ _⟩
  .rw[Yj];simp
  .have:=FR r k 0 hi oO;rw[this,Yj];simp[hi]
 rintro n fr s ⟨p,t,ZF,rfl,f0,f1,f2,f7,⟨t0,t1,t2,tH⟩,hk⟩ JJ hJJ;have C0:=SO hi hj ZF;by_cases Zb:p=uK r.length k j
 .have hb:((((k+p) % r.length:Nat):Int) != j)=false:=by rw[C0.2 Zb];simp
  generalize ((k+p) % r.length:Nat)=q at *;subst Zb;have hta:((r++r).drop k).take (uK r.length k j+1)=jA r k j:=rfl;rw[hta,<- F8]at f7;rw[<- F8]at tH
  (repeat' (first|apply qS|refine qX (zZ ?_)|(refine qR (zZ ?_);simp[f1,f2,f7,hb])|(apply qC;simp[f1,f2,f7,hb])|(refine zE ?_;intro J hJ;simp[f1,f2,f7,hb];refine zJ hJ ?_)))
  exact⟨⟨t0,t1,t2,tH⟩,hk⟩
 .have hb:((((k+p) % r.length:Nat):Int) != j)=true:=by have:¬(k+p) % r.length=j:=fun h=>Zb (C0.1 h);rw[bne_iff_ne];intro h;exact this (Int.ofNat_inj.1 h)
  have YR:=FR r k (p+1) hi oO;have hq:(k+p) % r.length<r.length:=aCj _ oO;have Zi:(k+(p+1)) % r.length=((k+p) % r.length+1) % r.length:=by rw[<- aDp,Nat.mod_add_mod]
  rw[Zi]at YR;have hmod:((((k+p) % r.length:Nat):Int)+1).tmod (r.length:Int)=((((k+p) % r.length+1) % r.length:Nat):Int):=by rw[aDq oO];exact(Int.natCast_emod _ _).symm
  have Y8:((k+p) % r.length+1) % r.length<r.length:=aCj _ oO;generalize (k+p) % r.length=q at *;have hw:=qN q oO;have hw:IntKind.i64.wrap ((q:Int)+1)=(q:Int)+1:=by rw[hw];omega
  generalize (q+1) % r.length=q2 at *;have hd:=qG r q2 Y8;generalize r.getD q2 0=x at *;have X8:(q2:Int)<r.length:=oO;have G1:¬(r.length:Int)=0:=oO;have hrn:¬r=[]:=fun h=>by rw[h]at hi;simp at hi
  have c1:¬t=s.next:=oO;have c2:¬s.next=t:=oO
  (repeat' (first|apply qS|apply qB|refine qK (zZ ?_)|(apply qC;simp[f0,f1,f2,f7,hb,hw,hmod,G1,hrn,hd,Y8,X8,tH,t0,c1,c2])|(refine zE ?_;intro J hJ;simp[f0,f1,f2,f7,hb,hw,hmod,G1,hrn,hd,Y8,X8,tH,t0,c1,c2];(repeat refine ca ?_);refine zJ hJ ?_)))
  exact hJJ _ _ _ oO ⟨p+1,s.next+1,oO,rfl,by simp[f0],by rw[Zi];simp,by simp[f2],by rw[YR];simp,⟨oO,oO,sS,sS⟩,((hk.trans (aA.new _ _)).set t1 _).trans (aA.new _ _)⟩
end Aw
theorem Aw.U.zns:True:=trivial
open Go Go.RowKit Pl Aw
open Aw.U
namespace Aw
theorem iR(l:List Ed)(j:Nat)(hj:j<l.length):l.getD j ed0=l[j]:=by rw[aAc,aAd hj];rfl
theorem Im(a b:List Ed):eds (a++b)=eds a++eds b:=by simp[eds]
theorem TY(l:List Ed)(k:Nat):(eds l).take (k*3)=eds (l.take k):=by
 induction l generalizing k with
 |nil=>simp[eds]
 |cons x l ih=>
  cases k with
  |zero=>simp[eds]
  |succ k=>rw[show(k+1)*3=k*3+1+1+1 by omega];simp only[eds,aAJ,edL,List.cons_append,List.nil_append,List.take_succ_cons];have:=ih k;simp only[eds,edL]at this;rw[this]
theorem TX(l:List Ed)(k:Nat):(eds l).drop (k*3)=eds (l.drop k):=by
 induction l generalizing k with
 |nil=>simp[eds]
 |cons x l ih=>
  cases k with
  |zero=>simp[eds]
  |succ k=>rw[show(k+1)*3=k*3+1+1+1 by omega];simp only[eds,aAJ,edL,List.cons_append,List.nil_append,aCB];have:=ih k;simpa only[eds,edL]using this
theorem gG(l:List Ed)(k:Nat)(x:Ed)(hk:k<l.length):(eds l).take (k*3)++(u x.id::u x.a::u x.b::(eds l).drop (k*3+3))=eds (l.set k x):=by rw[show k*3+3=(k+1)*3 by omega,TY,TX,aBH,aAe hk,Im];rfl
end Aw
namespace Aw.U
abbrev Bv{α:Type}(_:List α):Type:=α
structure Nu where
 id:Int
def ed0:Nu:=⟨0⟩
def eds(l:List Nu):List LV:=us (l.map Nu.id)
theorem iR(l:List Nu)(j:Nat)(hj:j<l.length):l.getD j ed0=l[j]:=by rw[aAc,aAd hj];rfl
theorem aK(l:List Nu):(eds l).length=l.length:=by unfold eds;rw[To,aAA]
theorem aR(l:List Nu)(k:Nat)(hk:k<l.length):(eds l).drop k=u (l.getD k ed0).id::eds (l.drop (k+1)):=by unfold eds us;rw[<- aCk,<- aCk,aAM hk,iR l k hk];rfl
theorem gG(l:List Nu)(k:Nat)(x:Nu)(hk:k<l.length):(eds l).take k++(u x.id::(eds l).drop (k+1))=eds (l.set k x):=by unfold eds;rw[Dc _ _ _ (by simpa using hk),aEP]
@[simp] abbrev bxo(l:List Nu):cI:=.box 34 1 (eds l)
end Aw.U
namespace Aw
@[simp] abbrev bxo(l:List Ed):cI:=.box 56 3 (eds l)
def be(st:St)(q:Nat)(c:List Ed):St:=st.set q (.box 56 3 (eds c))
end Aw
namespace Aw.U
def be(st:St)(q:Nat)(c:List Nu):St:=st.set q (.box 34 1 (eds c))
end Aw.U
namespace Aw
@[simp] theorem SL(st:St)(q:Nat)(c:List Ed):(be st q c).next=st.next:=rfl
@[simp] theorem TT(st:St)(q:Nat)(c:List Ed):(be st q c).H q=.box 56 3 (eds c):=by simp[be]
theorem Nt(st:St)(q l:Nat)(c:List Ed)(h:l≠q):(be st q c).H l=st.H l:=by simp[be,h]
end Aw
namespace Aw.U
@[simp] theorem SL(st:St)(q:Nat)(c:List Nu):(be st q c).next=st.next:=rfl
@[simp] theorem TT(st:St)(q:Nat)(c:List Nu):(be st q c).H q=.box 34 1 (eds c):=by simp[be]
theorem Nt(st:St)(q l:Nat)(c:List Nu)(h:l≠q):(be st q c).H l=st.H l:=by simp[be,h]
end Aw.U
namespace Aw
theorem An(st:St)(q:Nat)(c d:List Ed):be (be st q c) q d=be st q d:=by unfold be;exact St.set_set _ _ _ _
end Aw
namespace Aw.U
theorem An(st:St)(q:Nat)(c d:List Nu):be (be st q c) q d=be st q d:=by unfold be;exact St.set_set _ _ _ _
end Aw.U
namespace Aw
theorem EK{st:St}{q:Nat}{c:List Ed}(h:st.H q=.box 56 3 (eds c)):be st q c=st:=St.ext' rfl fun y=>by
 by_cases hy:y=q
 .subst hy;rw[TT,h]
 .rw[Nt _ _ _ _ hy]
end Aw
namespace Aw.U
theorem EK{st:St}{q:Nat}{c:List Nu}(h:st.H q=.box 34 1 (eds c)):be st q c=st:=St.ext' rfl fun y=>by
 by_cases hy:y=q
 .subst hy;rw[TT,h]
 .rw[Nt _ _ _ _ hy]
end Aw.U
namespace Aw
theorem IG(st:St)(q:Nat)(c:List Ed)(k:Nat)(x:Ed)(hk:k<c.length):(be st q c).set q (.box 56 3 ((eds c).take (k*3)++(u x.id::u x.a::u x.b::(eds c).drop (k*3+3))))=be st q (c.set k x):=by rw[gG _ _ _ hk];unfold be;exact St.set_set _ _ _ _
end Aw
namespace Aw.U
theorem IG(st:St)(q:Nat)(c:List Nu)(k:Nat)(x:Nu)(hk:k<c.length):(be st q c).set q (.box 34 1 ((eds c).take k++(u x.id::(eds c).drop (k+1))))=be st q (c.set k x):=by rw[gG _ _ _ hk];unfold be;exact St.set_set _ _ _ _
end Aw.U
namespace Aw
theorem Hx(st:St)(q:Nat)(c d:List Ed):(be st q c).set q (.box 56 3 (eds d))=be st q d:=by unfold be;exact St.set_set _ _ _ _
end Aw
namespace Aw.U
theorem Hx(st:St)(q:Nat)(c d:List Nu):(be st q c).set q (.box 34 1 (eds d))=be st q d:=by unfold be;exact St.set_set _ _ _ _
end Aw.U
namespace Aw
def swR(c:List Ed)(a b:Nat):Nat->List Ed
 |0=>c
 |n+1=>swR ((c.set a (c.getD b ed0)).set b (c.getD a ed0)) (a+1) (b+1) n
end Aw
namespace Aw.U
def swR(c:List Nu)(a b:Nat):Nat->List Nu
 |0=>c
 |n+1=>swR ((c.set a (c.getD b ed0)).set b (c.getD a ed0)) (a+1) (b+1) n
end Aw.U
namespace Aw
theorem uW{α:Type}(U:List α)(x y:α)(W:List α):(U++x::W).set U.length y=U++y::W:=by rw[aEs _ _ (aAi _)];simp
theorem kS(U:List Ed)(x:Ed)(W:List Ed):(U++x::W).getD U.length ed0=x:=by rw[aAc,aBl (aAi _)];simp
end Aw
namespace Aw.U
theorem kS(U:List Nu)(x:Nu)(W:List Nu):(U++x::W).getD U.length ed0=x:=by rw[aAc,aBl (aAi _)];simp
end Aw.U
namespace Aw
theorem iA:∀(n:Nat) (U A M B V:List Ed),A.length=n->B.length=n->swR (U++A++M++B++V) U.length (U.length+n+M.length) n=U++B++M++A++V
 |0,U,A,M,B,V,hA,hB=>by rw[aAE hA,aAE hB];rfl
 |n+1,U,x::A,M,y::B,V,hA,hB=>by
  simp only[List.length_cons,aEc]at hA hB;rw[swR];have e1:U++x::A++M++y::B++V=U++x::(A++M++y::B++V):=sS;have e2:U++x::(A++M++y::B++V)=(U++x::A++M)++y::(B++V):=sS;have l2:U.length+(n+1)+M.length=(U++x::A++M).length:=by simp[hA];omega
  have g1:(U++x::A++M++y::B++V).getD U.length ed0=x:=by rw[e1,kS]
  have g2:(U++x::A++M++y::B++V).getD (U.length+(n+1)+M.length) ed0=y:=by rw[e1,e2,l2,kS]
  rw[g1,g2,e1,uW];have e3:U++y::(A++M++y::B++V)=(U++y::A++M)++y::(B++V):=sS;have l3:U.length+(n+1)+M.length=(U++y::A++M).length:=by simp[hA];omega
  rw[e3,l3,uW,<- l3];have e4:U++y::A++M++x::(B++V)=(U++[y])++A++(M++[x])++B++V:=sS;have l4:U.length+(n+1)+M.length+1=(U++[y]).length+n+(M++[x]).length:=by simp;omega
  have l5:U.length+1=(U++[y]).length:=sS;rw[e4,l4,l5,iA n (U++[y]) A (M++[x]) B V hA hB];simp
end Aw
namespace Aw.U
theorem iA:∀(n:Nat) (U A M B V:List Nu),A.length=n->B.length=n->swR (U++A++M++B++V) U.length (U.length+n+M.length) n=U++B++M++A++V
 |0,U,A,M,B,V,hA,hB=>by rw[aAE hA,aAE hB];rfl
 |n+1,U,x::A,M,y::B,V,hA,hB=>by
  simp only[List.length_cons,aEc]at hA hB;rw[swR];have e1:U++x::A++M++y::B++V=U++x::(A++M++y::B++V):=sS;have e2:U++x::(A++M++y::B++V)=(U++x::A++M)++y::(B++V):=sS;have l2:U.length+(n+1)+M.length=(U++x::A++M).length:=by simp[hA];omega
  have g1:(U++x::A++M++y::B++V).getD U.length ed0=x:=by rw[e1,kS]
  have g2:(U++x::A++M++y::B++V).getD (U.length+(n+1)+M.length) ed0=y:=by rw[e1,e2,l2,kS]
  rw[g1,g2,e1,uW];have e3:U++y::(A++M++y::B++V)=(U++y::A++M)++y::(B++V):=sS;have l3:U.length+(n+1)+M.length=(U++y::A++M).length:=by simp[hA];omega
  rw[e3,l3,uW,<- l3];have e4:U++y::A++M++x::(B++V)=(U++[y])++A++(M++[x])++B++V:=sS;have l4:U.length+(n+1)+M.length+1=(U++[y]).length+n+(M++[x]).length:=by simp;omega
  have l5:U.length+1=(U++[y]).length:=sS;rw[e4,l4,l5,iA n (U++[y]) A (M++[x]) B V hA hB];simp
end Aw.U
namespace Aw
theorem vT(n:Int)(h0 : -9223372036854775808<=n)(h1:n<=9223372036854775807):IntKind.i64.wrap n=n:=by
 simp only[IntKind.wrap,IntKind.signed,IntKind.bits];simp
 split<;>omega
end Aw
theorem tW:(∀(c:List Ed) (q a b n:Nat) (F:Fn) (cY:List LV) (st:St) (hc:c.length<=100000) (YA:a+n<=b) (hb:b+n<=c.length) (hH:st.H q=.box 56 3 (eds c)),
 aB prog 221 [.ms q 0 c.length,i a,i b,i n,.fn F cY] st fun r st'=>st'=be st q (swR c a b n))/\(∀(c:List Nu) (q a b n:Nat) (F:Fn) (cY:List LV) (st:St) (hc:c.length<=100000) (YA:a+n<=b) (hb:b+n<=c.length) (hH:st.H q=.box 34 1 (eds c)),
 aB prog 220 [.ms q 0 c.length,i a,i b,i n,.fn F cY] st fun r st'=>st'=be st q (swR c a b n)):=by
 refine⟨?_,?_⟩
 all_goals
  intro c q a b n F cY st hc YA hb hH
  first|(have _:List Ed:=c;refine zN func221 ntmps221 [] ?_)|refine zN func220 ntmps220 [] ?_
  (repeat' (first|apply qS|apply qB|(refine zE ?_;intro J hJ;simp[];refine zJ hJ ?_)))
  refine qL (fun z fr st2=>∃(k:Nat) (d:List (Bv c)),k<=n/\z=n-k/\fr 0=.ms q 0 c.length/\fr 1=i a/\fr 2=i b/\fr 3=i n/\fr 10=i k/\st2=be st q d/\d.length=c.length/\swR d (a+k) (b+k) (n-k)=swR c a b n) n ?_ ?_
  .exact⟨0,c,oO,oO,sS,sS,sS,sS,sS,(EK hH).symm,rfl,rfl⟩
  rintro z fr st2 ⟨k,d,hk,rfl,f0,f1,f2,f3,f10,rfl,u6,YT⟩ JJ hJJ;by_cases dN:k<n;rotate_left
  .clear hJJ;obtain rfl:k=n:=oO;rw[aES]at YT
   (repeat' (first|apply qS|refine qX (zZ ?_)|(apply qC;simp[f3,f10])|(refine zE ?_;intro J hJ;simp[f3,f10];refine zJ hJ ?_)))
   simp;rw[<- YT];rfl
  have hw:=vT ((k:Int)+1) oO oO;have wa:IntKind.i64.wrap ((a:Int)+k)=((a+k:Nat):Int):=zW;have wb:IntKind.i64.wrap ((b:Int)+k)=((b+k:Nat):Int):=zW;have hel:=aK d;have da:=aR d (a+k) oO;have db:=aR d (b+k) oO;have p9:swR ((d.set (a+k) (d.getD (b+k) ed0)).set (b+k) (d.getD (a+k) ed0)) (a+(k+1)) (b+(k+1)) (n-(k+1))=swR c a b n:=by
   (first|rw[<- YT,show n-k=(n-(k+1))+1 by omega,Aw.swR]|rw[<- YT,show n-k=(n-(k+1))+1 by omega,Aw.U.swR]);rfl
  have s1:=fun x=>IG st q d (a+k) x oO;have s2:=fun x y=>IG st q (d.set (a+k) y) (b+k) x (by simp;omega);generalize ha:a+k=pa at *;generalize hbk:b+k=pb at *;have Wx:¬pa=pb:=oO;generalize hxe:d.getD pa ed0=x at *;generalize hye:d.getD pb ed0=y at *;have hA3:pa*3+3<=d.length*3:=oO;have L3:pa+1<=d.length:=oO;have Zj:pb+1<=d.length:=oO;have L6:pb*3+3<=d.length*3:=oO;have hA4:pa<d.length:=oO;have hB4:pb<d.length:=oO;have s1':=s1 y;have s2':=s2 x y;have hel2:=aK (d.set pa y);rw[aCI]at hel2
  (repeat' (first|apply qS|apply qB|refine qK (zZ ?_)|(apply qC;simp[f0,f1,f2,f3,f10,dN])|(refine zE ?_;intro J hJ;simp[f0,f1,f2,f3,f10,dN];refine zJ hJ ?_)))
  (refine zS [] [q] [0,2,4,6,8,10,12,14,16,18,20,22,24,26,28,30,32,34,36,38,40,43,44,47] ?_;intro J hJ;simp[f0,f1,f2,f10,wa,wb,u6,da,db,hel];(repeat refine ca ?_);refine zJ hJ ?_)
  have e1:=gG d pa y hA4
  (first|rw[e1,Aw.Hx,s2']|rw[e1,Aw.U.Hx,s2'])
  (repeat' (refine zE ?_;intro J hJ;simp[f10,hw];refine zJ hJ ?_))
  exact hJJ (n-(k+1)) _ _ oO ⟨k+1,_,oO,rfl,by simp[f0],by simp[f1],by simp[f2],by simp[f3],sS,rfl,by simp[u6],p9⟩
def Aw.rM:=tW.1
def Aw.U.rM:=tW.2
theorem Cq:(∀(P X Y S:List Ed) (q:Nat) (F:Fn) (cY:List LV) (st:St) (hX:X≠[]) (hY:Y≠[]) (hl:(P++X++Y++S).length<=100000) (hH:st.H q=.box 56 3 (eds (P++X++Y++S))),
 aB prog 218 [.ms q 0 (P++X++Y++S).length,i P.length,i (P.length+X.length:Nat),i (P.length+X.length+Y.length:Nat),.fn F cY] st fun r st'=>st'=be st q (P++Y++X++S))/\(∀(P X Y S:List Nu) (q:Nat) (F:Fn) (cY:List LV) (st:St) (hX:X≠[]) (hY:Y≠[]) (hl:(P++X++Y++S).length<=100000) (hH:st.H q=.box 34 1 (eds (P++X++Y++S))),
 aB prog 217 [.ms q 0 (P++X++Y++S).length,i P.length,i (P.length+X.length:Nat),i (P.length+X.length+Y.length:Nat),.fn F cY] st fun r st'=>st'=be st q (P++Y++X++S)):=by
 refine⟨?_,?_⟩
 all_goals
  intro P X Y S q F cY st hX hY hl hH;generalize hL:(P++X++Y++S).length=L at *;have hLl:L=P.length+X.length+Y.length+S.length:=by rw[<- hL];simp only[aAh]
  generalize hm:P.length+X.length=m at *;have hX0:0<X.length:=aBi.2 hX;have hY0:0<Y.length:=aBi.2 hY
  first|(have _:List Ed:=P;refine zN func218 ntmps218 [] ?_)|refine zN func217 ntmps217 [] ?_
  have w1:IntKind.i64.wrap ((m:Int)-P.length)=(X.length:Int):=zW;have w2:IntKind.i64.wrap ((m:Int)+Y.length-m)=(Y.length:Int):=zW
  (repeat' (first|apply qS|apply qB|(refine zE ?_;intro J hJ;simp[w1,w2];refine zJ hJ ?_)))
  refine qL (fun z fr st2=>∃ U A B V:List (Bv P),z=A.length+B.length/\(A≠[]/\B≠[])/\U.length+A.length=m/\U++B++A++V=P++Y++X++S/\(U++A++B++V).length=L/\st2=be st q (U++A++B++V)/\fr 0=.ms q 0 L/\fr 2=i m/\fr 4=.fn F cY/\fr 10=i A.length/\fr 11=i B.length) (X.length+Y.length) ?_ ?_
  .exact⟨P,X,Y,S,rfl,⟨hX,hY⟩,hm,rfl,hL,(EK hH).symm,sS,sS,sS,sS,sS⟩
  rintro z fr st2 ⟨U,A,B,V,rfl,⟨hA,hB⟩,hUm,htg,Xk,rfl,f0,f2,f4,f10,f11⟩ JJ hJJ;have hA0:0<A.length:=aBi.2 hA;have P2:0<B.length:=aBi.2 hB;have hcl':L=U.length+A.length+B.length+V.length:=by rw[<- Xk];simp only[aAh]
  have wa:IntKind.i64.wrap ((m:Int)-A.length)=(U.length:Int):=zW;by_cases hEq:A.length=B.length
  .clear hJJ;have YS:=rM (U++A++B++V) q U.length m A.length F cY (be st q (U++A++B++V)) oO oO oO sS;have YT:=iA A.length U A [] B V rfl hEq.symm;simp only[List.length_nil,Nat.add_zero,aAP]at YT
   (first|rw[Xk,<- hUm,YT,hUm,Aw.An,htg]at YS|rw[Xk,<- hUm,YT,hUm,Aw.U.An,htg]at YS)
   generalize U++A++B++V=c0 at *;generalize P++Y++X++S=c1 at *;have wa':=wa;rw[hEq]at wa'
   (repeat' (first|apply qS|refine qX (zZ ?_)|(apply qC;simp[f0,f2,f4,f10,f11,hEq,wa,wa'])|(refine zE ?_;intro J hJ;simp[f0,f2,f4,f10,f11,hEq,wa,wa'];(try refine zJ hJ ?_))))
   refine qE YS (by simp[hEq]) ?_;rintro r s3 rfl
   (repeat' (apply aD;simp[];refine zJ hJ ?_))
   simp
  .have hEq':¬(A.length:Int)=B.length:=oO;by_cases hgt:B.length<A.length
   .have L3:(A.take B.length).length=B.length:=by simp;omega
    have hAd:A.take B.length++A.drop B.length=A:=aAH _ _;have hA2:(A.drop B.length).length=A.length-B.length:=sS;generalize A.take B.length=A1 at *;generalize A.drop B.length=A2 at *;have YS:=rM (U++A++B++V) q U.length m B.length F cY (be st q (U++A++B++V)) oO oO oO sS;have YT:=iA B.length U A1 A2 B V L3 rfl;have e1:U++A1++A2++B++V=U++A++B++V:=by rw[<- hAd];simp
    have e2:U.length+B.length+A2.length=m:=oO;rw[e1,e2]at YT
    (first|rw[Xk,YT,Aw.An]at YS|rw[Xk,YT,Aw.U.An]at YS)
    have hgt':(B.length:Int)<A.length:=oO;have wb:IntKind.i64.wrap ((A.length:Int)-B.length)=(A2.length:Int):=zW;generalize U++A++B++V=c0 at *;generalize A4:U++B++A2++A1++V=c1 at YS
    (repeat' (first|apply qS|apply qB|refine qK (zZ ?_)|(apply qC;simp[f0,f2,f4,f10,f11,hEq',hgt',hEq,hgt,wa,wb])|(refine zE ?_;intro J hJ;simp[f0,f2,f4,f10,f11,hEq',hgt',hEq,hgt,wa,wb];(try refine zJ hJ ?_))))
    refine qE YS sS ?_;rintro r s3 rfl
    (repeat' ((first|(refine zE ?_;intro J hJ)|(apply aD));simp[f10,f11,wb];refine zJ hJ ?_))
    refine hJJ (A2.length+A1.length) _ _ oO ⟨U++B,A2,A1,V,rfl,⟨?_,?_⟩,by simp;omega,?_,?_,by rw[A4],by simp[f0],by simp[f2],by simp[f4],sS,by simp[f11,L3]⟩
    .rintro rfl;simp at hA2;omega
    .rintro rfl;simp at L3;omega
    .rw[<- htg,<- hAd];simp
    .simp only[aAh];omega
   .have Zj:(B.take (B.length-A.length)).length=B.length-A.length:=sS;have hBd:B.take (B.length-A.length)++B.drop (B.length-A.length)=B:=aAH _ _;have J4:(B.drop (B.length-A.length)).length=A.length:=by simp;omega
    generalize B.take (B.length-A.length)=B1 at *;generalize B.drop (B.length-A.length)=B2 at *;have YS:=rM (U++A++B++V) q U.length (m+B1.length) A.length F cY (be st q (U++A++B++V)) oO oO oO sS;have YT:=iA A.length U A B1 B2 V rfl J4;have e1:U++A++B1++B2++V=U++A++B++V:=by rw[<- hBd];simp
    have e2:U.length+A.length+B1.length=m+B1.length:=oO;rw[e1,e2]at YT
    (first|rw[Xk,YT,Aw.An]at YS|rw[Xk,YT,Aw.U.An]at YS)
    have hgt':¬(B.length:Int)<A.length:=oO;have wb:IntKind.i64.wrap ((B.length:Int)-A.length)=(B1.length:Int):=zW;have wc:IntKind.i64.wrap ((m:Int)+B.length)=(m:Int)+B.length:=zW;have wd:IntKind.i64.wrap ((m:Int)+B.length-A.length)=((m+B1.length:Nat):Int):=zW;generalize U++A++B++V=c0 at *;generalize A4:U++B2++B1++A++V=c1 at YS
    (repeat' (first|apply qS|apply qB|refine qK (zZ ?_)|(apply qC;simp[f0,f2,f4,f10,f11,hEq',hgt',hEq,hgt,wa,wc,wd])|(refine zE ?_;intro J hJ;simp[f0,f2,f4,f10,f11,hEq',hgt',hEq,hgt,wa,wc,wd];(try refine zJ hJ ?_))))
    refine qE YS sS ?_;rintro r s3 rfl
    (repeat' ((first|(refine zE ?_;intro J hJ)|(apply aD));simp[f10,f11,wb];refine zJ hJ ?_))
    refine hJJ (B2.length+B1.length) _ _ oO ⟨U,B2,B1,A++V,rfl,⟨?_,?_⟩,oO,?_,?_,by rw[<- A4,aAF _ A V],by simp[f0],by simp[f2],by simp[f4],by simp[f10,J4],sS⟩
    .rintro rfl;simp at J4;omega
    .rintro rfl;simp at Zj;omega
    .rw[<- htg,<- hBd];simp
    .simp only[aAh];omega
def Aw.OE:=Cq.1
def Aw.U.OE:=Cq.2
open Go Go.RowKit Pl Aw
open Aw.U
namespace Aw
def sU(x y:Ed):Int:=if x.id<y.id then -1 else if y.id<x.id then 1 else 0
end Aw
namespace Aw.U
def sU(x y:Nu):Int:=if x.id<y.id then -1 else if y.id<x.id then 1 else 0
end Aw.U
theorem yA:(∀(x y:Ed),
 decide (sU x y<0)=decide (x.id<y.id))/\(∀(x y:Nu),
 decide (sU x y<0)=decide (x.id<y.id)):=by
 refine⟨?_,?_⟩
 all_goals
  intro x y
  (first|unfold Aw.sU|unfold Aw.U.sU)
  by_cases h:x.id<y.id
  .simp[h]
  .rw[aAa h];by_cases h2:y.id<x.id<;>simp[h,h2]
def Aw.pT:=yA.1
def Aw.U.pT:=yA.2
namespace Aw
structure fU(NQ:FuncId)(cY:List LV)(q:Nat)(Pc:St->Prop):Prop where
 keep:∀ st st',Pc st->bK q st st'->Pc st'
 call:∀ st x y,Pc st->aB prog NQ ([.ag (edL x),.ag (edL y)]++cY) st fun r st'=>r=i (sU x y)/\aA st st'
end Aw
namespace Aw.U
structure fU(NQ:FuncId)(cY:List LV)(q:Nat)(Pc:St->Prop):Prop where
 keep:∀ st st',Pc st->bK q st st'->Pc st'
 call:∀ st x y,Pc st->aB prog NQ ([u x.id,u y.id]++cY) st fun r st'=>r=i (sU x y)/\aA st st'
end Aw.U
namespace Aw
def Ris(l:List Ed):Prop:=l.Pairwise fun x y=>x.id<=y.id
end Aw
namespace Aw.U
def Ris(l:List Nu):Prop:=l.Pairwise fun x y=>x.id<=y.id
end Aw.U
namespace Aw
end Aw
namespace Aw.U
end Aw.U
namespace Aw
theorem DZ(U:List Ed)(x:Ed)(W:List Ed){j:Nat}(hj:j=U.length):(U++x::W).getD j ed0=x:=by subst hj;exact kS _ _ _
end Aw
namespace Aw.U
theorem DZ(U:List Nu)(x:Nu)(W:List Nu){j:Nat}(hj:j=U.length):(U++x::W).getD j ed0=x:=by subst hj;exact kS _ _ _
end Aw.U
namespace Aw
theorem LN{α:Type}(U:List α)(x y:α)(W:List α){j:Nat}(hj:j=U.length):(U++x::W).set j y=U++y::W:=by subst hj;exact uW _ _ _ _
def UR(P X S:List Ed)(q:Nat)(st:St)(r:LV)(st':St):Prop:=∃ Y,Y.Perm X/\Ris Y/\st'.H q=.box 56 3 (eds (P++Y++S))/\bK q st st'
end Aw
namespace Aw.U
def UR(P X S:List Nu)(q:Nat)(st:St)(r:LV)(st':St):Prop:=∃ Y,Y.Perm X/\Ris Y/\st'.H q=.box 34 1 (eds (P++Y++S))/\bK q st st'
end Aw.U
theorem Ah:(∀ ⦃A B:List Ed⦄ ⦃x:Ed⦄ (h:Ris (A++B)) (h1:∀ y∈A,y.id<=x.id) (h2:∀ y∈B,x.id<=y.id),
 Ris (A++x::B))/\(∀ ⦃A B:List Nu⦄ ⦃x:Nu⦄ (h:Ris (A++B)) (h1:∀ y∈A,y.id<=x.id) (h2:∀ y∈B,x.id<=y.id),
 Ris (A++x::B)):=by
 refine⟨?_,?_⟩
 all_goals
  intro A B x h h1 h2
  (first|unfold Aw.Ris at h ⊢|unfold Aw.U.Ris at h ⊢)
  rw[aBG]at h ⊢;refine⟨h.1,aBc.2 ⟨h2,h.2.1⟩,fun a ha b hb=>?_⟩;rcases aAf.1 hb with rfl|hb
  .exact h1 a ha
  .exact h.2.2 a ha b hb
def Aw.Ee:=Ah.1
def Aw.U.Ee:=Ah.2
theorem xB:(∀ ⦃A:List Ed⦄ ⦃y:Ed⦄ (h:Ris (A++[y])),
 ∀ a∈A,a.id<=y.id)/\(∀ ⦃A:List Nu⦄ ⦃y:Nu⦄ (h:Ris (A++[y])),
 ∀ a∈A,a.id<=y.id):=by
 refine⟨?_,?_⟩
 all_goals
  intro A y h
  (first|unfold Aw.Ris at h|unfold Aw.U.Ris at h)
  rw[aBG]at h;exact fun a ha=>h.2.2 a ha y sS
def Aw.Fc:=xB.1
def Aw.U.Fc:=xB.2
theorem AZ:(∀(P X S:List Ed) (q:Nat) (NQ:FuncId) (cY:List LV) (Pc:St->Prop) (st:St) (YJ:Aw.fU NQ cY q Pc) (Zq:Pc st) (hq:q<st.next) (hl:(P++X++S).length<=100000) (hH:st.H q=.box 56 3 (eds (P++X++S))),
 aB prog 200 [.ms q 0 (P++X++S).length,i P.length,i (P.length+X.length:Nat),.fn (.func NQ) cY] st (UR P X S q st))/\(∀(P X S:List Nu) (q:Nat) (NQ:FuncId) (cY:List LV) (Pc:St->Prop) (st:St) (YJ:Aw.U.fU NQ cY q Pc) (Zq:Pc st) (hq:q<st.next) (hl:(P++X++S).length<=100000) (hH:st.H q=.box 34 1 (eds (P++X++S))),
 aB prog 209 [.ms q 0 (P++X++S).length,i P.length,i (P.length+X.length:Nat),.fn (.func NQ) cY] st (UR P X S q st)):=by
 refine⟨?_,?_⟩
 all_goals
  intro P X S q NQ cY Pc st YJ Zq hq hl hH;generalize hL:(P++X++S).length=L at *;have hLl:L=P.length+X.length+S.length:=by rw[<- hL];simp only[aAh]
  generalize hp:P.length=p at *;have wp:IntKind.i64.wrap ((p:Int)+1)=((p+1:Nat):Int):=zW
  first|(have _:List Ed:=P;refine zN func200 ntmps200 [] ?_)|refine zN func209 ntmps209 [] ?_
  (repeat' (first|apply qS|apply qB|(refine zE ?_;intro J hJ;simp[wp];refine zJ hJ ?_)))
  refine qL (fun z fr st2=>∃ Y Z:List (Bv P),Z.length<=z/\fr 0=.ms q 0 L/\fr 1=i p/\fr 2=i (p+X.length:Nat)/\fr 3=.fn (.func NQ) cY/\(X=[]/\Y=[]/\fr 8=i (p+1:Nat)\/Y≠[]/\fr 8=i (p+Y.length:Nat))/\(Y++Z).Perm X/\Ris Y/\st2.H q=bxo (P++Y++Z++S)/\bK q st st2) X.length ?_ ?_
  .cases X with
   |nil=>exact⟨[],[],sS,sS,sS,sS,sS,.inl ⟨rfl,rfl,sS⟩,.refl _,.nil,by simpa using hH,bK.refl _ _⟩
   |cons x X=>refine⟨[x],X,sS,sS,sS,sS,sS,.inr ⟨sS,sS⟩,.refl _,aCW _ _,?_,bK.refl _ _⟩;rw[hH];simp
  rintro z fr st2 ⟨Y,Z,hz,f0,f1,f2,f3,f8,Xi,Z8,hB,Xz⟩ JJ hJJ;have Zn:=Xi.length_eq;simp only[aAh]at Zn;cases Z with
  |nil=>
   clear hJJ;simp only[List.length_nil,Nat.add_zero]at Zn;rw[aAP]at Xi hB;have hex:∃ e:Nat,fr 8=i e/\¬((e:Int)<(p+X.length:Nat)):=by
    rcases f8 with⟨h1,h2,h3⟩|⟨h1,h2⟩
    .exact⟨p+1,h3,by rw[h1];simp;omega⟩
    .exact⟨p+Y.length,h2,by rw[Zn];omega⟩
   obtain⟨e,g8,he⟩:=hex
   (repeat' (first|apply qS|refine qX (zZ ?_)|(apply qC;simp[f2,g8,he];(try with_reducible refine⟨?_,?_⟩)<;>(try with_reducible intro hc)<;>try (exfalso;omega))|(refine zE ?_;intro J hJ;simp[f2,g8,he];refine zJ hJ ?_)))
   simp;exact⟨Y,Xi,Z8,hB,Xz⟩
  |cons x Z=>
  have hYne:Y≠[]/\fr 8=i (p+Y.length:Nat):=by
   rcases f8 with⟨h1,h2,h3⟩|h
   .subst h1;simp at Zn
   .exact h
  obtain⟨hYn,g8⟩:=hYne;clear f8;have hY0:=aBi.2 hYn;simp only[List.length_cons]at Zn hz;have dN:(((p+Y.length:Nat):Int))<((p+X.length:Nat):Int):=oO
  (repeat' (first|apply qS|apply qB|refine qK (zZ ?_)|(apply qC;simp[f2,g8,dN];(try with_reducible refine⟨?_,?_⟩)<;>(try with_reducible intro hc)<;>try (exfalso;omega))|(refine zE ?_;intro J hJ;simp[f2,g8,dN];refine zJ hJ ?_)))
  refine qL (fun z fr Yy=>∃ A B:List (Bv P),z=A.length/\A++B=Y/\(∀ y∈B,x.id<=y.id)/\fr 0=.ms q 0 L/\fr 1=i p/\fr 2=i (p+X.length:Nat)/\fr 3=.fn (.func NQ) cY/\fr 8=i (p+Y.length:Nat)/\fr 9=i (p+A.length:Nat)/\Yy.H q=bxo (P++A++x::(B++Z++S))/\bK q st Yy) Y.length ?_ ?_
  .exact⟨Y,[],rfl,sS,sS,by simp[f0],by simp[f1],by simp[f2],by simp[f3],by simp[g8],sS,by rw[hB];simp,Xz⟩
  clear f0 f1 f2 f3 g8 hB Xz fr st2;rintro z' fr Yy ⟨A,B,rfl,rfl,hxB,f0,f1,f2,f3,f8,f9,hB,Xz⟩ J2 v8;have P7:=YJ.keep _ _ Zq Xz;have Xp:(∀ y∈A,y.id<=x.id)->Ris (A++x::B):=fun h1=>Ee Z8 h1 hxB;have YM:((A++x::B)++Z).Perm X:=by refine List.Perm.trans ?_ Xi;rw[aAF,aAF];refine aBT A ?_;rw[List.cons_append];exact aBW.symm
  have hAB:(A++x::B).length=(A++B).length+1:=by simp;omega
  simp only[aAh]at Zn hY0;have w8:IntKind.i64.wrap (((p+(A++B).length:Nat):Int)+1)=((p+(A++x::B).length:Nat):Int):=by rw[hAB,vT _ (by simp only[aAh];omega) (by simp only[aAh];omega)];omega
  have ZB:∀ Xj Q8,(Xj 0=.ms q 0 L/\Xj 1=i p/\Xj 2=i (p+X.length:Nat)/\Xj 3=.fn (.func NQ) cY/\Xj 8=i (p+(A++x::B).length:Nat))->(∀ y∈A,y.id<=x.id)->Q8.H q=bxo (P++A++x::(B++Z++S))->bK q st Q8->JJ Xj Q8:=by rintro Xj Q8 ⟨g0,g1,g2,g3,g8⟩ h1 h2 h3;refine hJJ Z.length _ _ oO ⟨A++x::B,Z,aAi _,g0,g1,g2,g3,.inr ⟨sS,g8⟩,YM,Xp h1,?_,h3⟩;rw[h2];simp
  have hrisA:Ris A:=by
   (first|unfold Aw.Ris at Z8 ⊢|unfold Aw.U.Ris at Z8 ⊢)
   exact(aBG.1 Z8).1
  clear hJJ Xp YM Xi Z8 hAB;generalize (A++B).length=lab at *;generalize (A++x::B).length=laxb at *;have w8':IntKind.i64.wrap ((p:Int)+lab+1)=(p:Int)+laxb:=by have h:=w8;rw[Int.natCast_add,Int.natCast_add]at h;exact h
  rcases aDj A with rfl|⟨W,y,hWy⟩
  .simp only[List.length_nil,Nat.add_zero]at f9
   (repeat' apply qS)
   (refine zS [] [q] [0,2,4,6,8,10,12,14,16,18,20,22,24,26,29,30,32] ?_;intro J hJ;simp[f0,f1,f3,f9];refine zJ hJ ?_)
   (repeat' (first|refine qX (zZ ?_)|(apply qC;simp[f8,w8'])|(refine zE ?_;intro J hJ;simp[f8,w8'];refine zJ hJ ?_)))
   exact ZB _ _ ⟨by simp[f0],by simp[f1],by simp[f2],by simp[f3],sS⟩ sS hB Xz
  rw[aDk]at hWy;subst hWy;have hWl:(W++[y]).length=W.length+1:=sS;rw[hWl,<- aDp]at f9;have hce:P++(W++[y])++x::(B++Z++S)=(P++W)++y::x::(B++Z++S):=sS;have hUl:(P++W).length=p+W.length:=by simp[hp]
  have Xk:((P++W)++y::x::(B++Z++S)).length=L:=by simp only[aAh,List.length_cons,List.length_nil,hp]at Zn hz ⊢;omega
  rw[hce]at hB ZB;have g1:=DZ (P++W) y (x::(B++Z++S)) (j:=p+W.length) hUl.symm;have g2:((P++W)++y::x::(B++Z++S)).getD (p+W.length+1) ed0=x:=by rw[show(P++W)++y::x::(B++Z++S)=(P++W++[y])++x::(B++Z++S) by simp];exact DZ _ _ _ (by simp[hp];omega)
  have s1:(((P++W)++y::x::(B++Z++S)).set (p+W.length+1) y).set (p+W.length) x=P++W++x::(y::B++Z++S):=by rw[show(P++W)++y::x::(B++Z++S)=(P++W++[y])++x::(B++Z++S) by simp,LN _ _ _ _ (by simp[hp];omega)];rw[show(P++W++[y])++y::(B++Z++S)=(P++W)++y::(y::(B++Z++S)) by simp,LN _ _ _ _ hUl.symm];simp
  have YR:x.id<y.id->∀ y'∈y::B,x.id<=y'.id:=fun h1 y' P5=>by
   rcases aAf.1 P5 with rfl|h2
   .omega
   .exact hxB y' h2
  have hstop:¬x.id<y.id->∀ y'∈W++[y],y'.id<=x.id:=fun h1 y' P5=>by
   rcases aAg.1 P5 with h2|h2
   .have:=Fc (hrisA) y' h2;omega
   .rw[aAl]at h2;subst h2;omega
  generalize (P++W)++y::x::(B++Z++S)=c at *;generalize hjx:p+W.length=jx at *;have hel:=aK c;have da:=aR c (jx+1) oO;have db:=aR c jx oO;rw[g2]at da;rw[g1]at db;have wj:IntKind.i64.wrap (((jx+1:Nat):Int)-1)=(jx:Int):=zW;have hgt:(p:Int)<(jx:Int)+1:=oO;have M3:=YJ.call Yy x y P7;have Ya:=pT x y;generalize sU x y=cv at *;have wj':IntKind.i64.wrap (jx:Int)=(jx:Int):=vT _ oO oO;have hA4:jx+1<L:=oO;have hB4:jx<L:=oO
  (repeat' apply qS)
  (refine zS [] [q] [0,2,4,6,8,10,12,14,16,18,20,22,24,26,29,30,32] ?_;intro J hJ;simp[f0,f1,f3,f9,hgt,hB,da,db,hel,Xk,wj'];(repeat refine ca ?_))
  refine aJ M3 ?_;rintro r s4 ⟨rfl,Yh⟩;have Y8:q<Yy.next:=by have:=Xz.1;omega
  have hB4':=(Yh.H q Y8).trans hB;have hoff4:=Xz.keeps Yh;refine⟨fun _=>by simp[hB4',hB],?_⟩;by_cases Yk:x.id<y.id
  .have U4:cv<0:=by rw[aBy Yk]at Ya;exact aBY Ya
   (apply aV;simp[U4,hB4',hB];refine zJ hJ ?_)
   (repeat' (first|apply qS|apply qB|refine qK (zZ ?_)|(apply qC;simp[])))
   (refine zS [] [q] [0,2,4,6,8,10,12,14,16,18,20,22,24,26,28,31,32,35] ?_;intro J hJ;simp[f0,f9,hB4',da,db,hel,Xk,wj'];(repeat refine ca ?_);refine zJ hJ ?_)
   have e1:=gG c (jx+1) y oO;have e2:=gG (c.set (jx+1) y) jx x (by simp;omega);rw[e1,e2,s1,St.set_set]
   (repeat' (refine zE ?_;intro J hJ;simp[f9,wj'];refine zJ hJ ?_))
   refine v8 W.length _ _ sS ⟨W,y::B,rfl,sS,YR Yk,by simp[f0],by simp[f1],by simp[f2],by simp[f3],by simp[f8],by simp[hjx],?_,hoff4.set _⟩;simp
  .have U4:¬cv<0:=by rw[aBM Yk]at Ya;exact aDa Ya
   (apply aV;simp[U4,hB4',hB];refine zJ hJ ?_)
   (repeat' (first|refine qX (zZ ?_)|(apply qC;simp[f8,w8'])|(refine zE ?_;intro J hJ;simp[f8,w8'];refine zJ hJ ?_)))
   exact ZB _ _ ⟨by simp[f0],by simp[f1],by simp[f2],by simp[f3],sS⟩ (hstop Yk) hB4' hoff4
def Aw.Jc:=AZ.1
def Aw.U.Jc:=AZ.2
open Go Go.RowKit Pl Aw
open Aw.U
theorem BU:(∀ ⦃l:List Ed⦄ (h:Ris l) ⦃j k:Nat⦄ (I6:j<=k) (hk:k<l.length),
 (l.getD j ed0).id<=(l.getD k ed0).id)/\(∀ ⦃l:List Nu⦄ (h:Ris l) ⦃j k:Nat⦄ (I6:j<=k) (hk:k<l.length),
 (l.getD j ed0).id<=(l.getD k ed0).id):=by
 refine⟨?_,?_⟩
 all_goals
  intro l h j k I6 hk;rw[iR _ _ hk,iR _ _ oO];rcases aAB j k with h1|h1
  .exact aAG.1 h j k oO hk h1
  .obtain rfl:j=k:=oO;exact aCg _
def Aw.iN:=BU.1
def Aw.U.iN:=BU.2
namespace Aw
structure Cut(A B:List Ed)(s e:Nat):Prop where
 hs:s<=A.length
 he:e<=B.length
 ab:s=0\/e=B.length\/(A.getD (s-1) ed0).id<=(B.getD e ed0).id
 ba:e=0\/s=A.length\/(B.getD (e-1) ed0).id<=(A.getD s ed0).id
end Aw
namespace Aw.U
structure Cut(A B:List Nu)(s e:Nat):Prop where
 hs:s<=A.length
 he:e<=B.length
 ab:s=0\/e=B.length\/(A.getD (s-1) ed0).id<=(B.getD e ed0).id
 ba:e=0\/s=A.length\/(B.getD (e-1) ed0).id<=(A.getD s ed0).id
end Aw.U
theorem Cut.leTwo:(∀ ⦃A B:List Ed⦄ (hA:Ris A) (hB:Ris B) ⦃s e:Nat⦄ (h:Cut A B s e),
 ∀ x∈A.take s++B.take e,∀ y∈A.drop s++B.drop e,x.id<=y.id)/\(∀ ⦃A B:List Nu⦄ (hA:Ris A) (hB:Ris B) ⦃s e:Nat⦄ (h:Cut A B s e),
 ∀ x∈A.take s++B.take e,∀ y∈A.drop s++B.drop e,x.id<=y.id):=by
 refine⟨?_,?_⟩
 all_goals
  intro A B hA hB s e h;intro x hx y hy;obtain⟨h1,h2,h3,h4⟩:=h;rw[aAg]at hx hy;rcases hx with hx|hx<;>rcases hy with hy|hy
  .obtain⟨j,hj,rfl⟩:=aAy hx;obtain⟨k,hk,rfl⟩:=aAy hy;simp only[aAo,aAN]at hj hk;rw[aBE,aCi];exact aAG.1 hA j (s+k) oO oO oO
  .obtain⟨j,hj,rfl⟩:=aAy hx;obtain⟨k,hk,rfl⟩:=aAy hy;simp only[aAo,aAN]at hj hk;rw[aBE,aCi];have e1:=iN hA (j:=j) (k:=s-1) oO oO;have e2:=iN hB (j:=e) (k:=e+k) oO oO;rw[iR A j oO]at e1;rw[iR B (e+k) oO]at e2;omega
  .obtain⟨j,hj,rfl⟩:=aAy hx;obtain⟨k,hk,rfl⟩:=aAy hy;simp only[aAo,aAN]at hj hk;rw[aBE,aCi];have e1:=iN hB (j:=j) (k:=e-1) oO oO;have e2:=iN hA (j:=s) (k:=s+k) oO oO;rw[iR B j oO]at e1;rw[iR A (s+k) oO]at e2;omega
  .obtain⟨j,hj,rfl⟩:=aAy hx;obtain⟨k,hk,rfl⟩:=aAy hy;simp only[aAo,aAN]at hj hk;rw[aBE,aCi];exact aAG.1 hB j (e+k) oO oO oO
def Aw.Cut.le:=Cut.leTwo.1
def Aw.U.Cut.le:=Cut.leTwo.2
theorem Cut.joinTwo:(∀ ⦃A B C D:List Ed⦄ (hA:Ris A) (hB:Ris B) ⦃s e:Nat⦄ (h:Cut A B s e) (hC:C.Perm (A.take s++B.take e)) (hD:D.Perm (A.drop s++B.drop e)) (rC:Ris C) (rD:Ris D),
 (C++D).Perm (A++B)/\Ris (C++D))/\(∀ ⦃A B C D:List Nu⦄ (hA:Ris A) (hB:Ris B) ⦃s e:Nat⦄ (h:Cut A B s e) (hC:C.Perm (A.take s++B.take e)) (hD:D.Perm (A.drop s++B.drop e)) (rC:Ris C) (rD:Ris D),
 (C++D).Perm (A++B)/\Ris (C++D)):=by
 refine⟨?_,?_⟩
 all_goals
  intro A B C D hA hB s e h hC hD rC rD;refine⟨?_,aBG.2 ⟨rC,rD,fun x hx y hy=>h.le hA hB x (hC.mem_iff.1 hx) y (hD.mem_iff.1 hy)⟩⟩;refine(hC.append hD).trans ?_;have e1:A++B=(A.take s++A.drop s)++(B.take e++B.drop e):=by rw[aAH,aAH]
  rw[e1,aAF,aAF];refine aBT _ ?_;rw[<- aAF,<- aAF];exact aDA _ aBR
def Aw.Cut.join:=Cut.joinTwo.1
def Aw.U.Cut.join:=Cut.joinTwo.2
open Go Go.RowKit Pl Aw
open Aw.U
namespace Aw
theorem ER(n h:Nat)(hh:h=n / 2):Lj .u64 (n:Int) 1=(h:Int):=by show(n:Int).fdiv 2=(h:Int);rw[aDU _ oO];omega
theorem zH(n:Nat)(hn:n<=1000000):IntKind.u64.wrap (n:Int)=(n:Int):=by simp only[IntKind.wrap,IntKind.signed,IntKind.bits];simp;omega
end Aw
theorem Kr:(∀(U W:List Ed) (j:Nat),
 (U++W).getD (U.length+j) ed0=W.getD j ed0)/\(∀(U W:List Nu) (j:Nat),
 (U++W).getD (U.length+j) ed0=W.getD j ed0):=by
 refine⟨?_,?_⟩
 all_goals
  intro U W j;rw[aAc,aBl oO,Nat.add_sub_cancel_left,<- aAc]
def Aw.BD:=Kr.1
def Aw.U.BD:=Kr.2
theorem Jj:(∀(U W:List Ed) (j:Nat) (h:j<U.length),
 (U++W).getD j ed0=U.getD j ed0)/\(∀(U W:List Nu) (j:Nat) (h:j<U.length),
 (U++W).getD j ed0=U.getD j ed0):=by
 refine⟨?_,?_⟩
 all_goals
  intro U W j h;rw[aAc,aAY h,<- aAc]
def Aw.oW:=Jj.1
def Aw.U.oW:=Jj.2
namespace Aw
theorem Ig(B:List Ed)(t:Nat)(h:t<B.length):B.drop t=B.getD t ed0::B.drop (t+1):=by rw[iR _ _ h];exact aAM h
end Aw
namespace Aw.U
theorem Ig(B:List Nu)(t:Nat)(h:t<B.length):B.drop t=B.getD t ed0::B.drop (t+1):=by rw[iR _ _ h];exact aAM h
end Aw.U
namespace Aw
theorem Pt(B:List Ed)(t:Nat)(h:t<B.length):B.take (t+1)=B.take t++[B.getD t ed0]:=by rw[iR _ _ h];exact aAn h
end Aw
namespace Aw.U
theorem Pt(B:List Nu)(t:Nat)(h:t<B.length):B.take (t+1)=B.take t++[B.getD t ed0]:=by rw[iR _ _ h];exact aAn h
end Aw.U
namespace Aw
def EP(P A B S:List Ed)(q:Nat)(st:St)(r:LV)(st':St):Prop:=∃ C,C.Perm (A++B)/\Ris C/\st'.H q=.box 56 3 (eds (P++C++S))/\bK q st st'
end Aw
namespace Aw.U
def EP(P A B S:List Nu)(q:Nat)(st:St)(r:LV)(st':St):Prop:=∃ C,C.Perm (A++B)/\Ris C/\st'.H q=.box 34 1 (eds (P++C++S))/\bK q st st'
end Aw.U
theorem AP:(∀ ⦃B:List Ed⦄ (hB:Ris B) ⦃x:Ed⦄ ⦃k:Nat⦄ (hk:k<=B.length) (h1:∀ j,j<k->(B.getD j ed0).id<=x.id) (h2:∀ j,k<=j->j<B.length->x.id<=(B.getD j ed0).id),
 Ris (B.take k++x::B.drop k))/\(∀ ⦃B:List Nu⦄ (hB:Ris B) ⦃x:Nu⦄ ⦃k:Nat⦄ (hk:k<=B.length) (h1:∀ j,j<k->(B.getD j ed0).id<=x.id) (h2:∀ j,k<=j->j<B.length->x.id<=(B.getD j ed0).id),
 Ris (B.take k++x::B.drop k)):=by
 refine⟨?_,?_⟩
 all_goals
  intro B hB x k hk h1 h2;refine Ee (by rwa [aAH]) (fun y hy=>?_) fun y hy=>?_
  .obtain⟨j,hj,rfl⟩:=aAy hy;simp only[aAo]at hj;rw[aBE,<- iR B j oO];exact h1 j oO
  .obtain⟨j,hj,rfl⟩:=aAy hy;simp only[aAN]at hj;rw[aCi,<- iR B (k+j) oO];exact h2 (k+j) oO oO
def Aw.EL:=AP.1
def Aw.U.EL:=AP.2
theorem KO:(∀(P:List Ed) (x:Ed) (B S:List Ed) (q L p m:Nat) (NQ:FuncId) (cY:List LV) (Pc:St->Prop) (st:St) (YJ:Aw.fU NQ cY q Pc) (Zq:Pc st) (hq:q<st.next) (hB:Ris B) (hL:(P++x::B++S).length=L) (hl:L<=100000) (hp:P.length=p) (hm:m=p+1) (hH:st.H q=.box 56 3 (eds (P++x::B++S))),
 aB prog 211 [.ms q 0 L,i p,i m,i (m+B.length:Nat),.fn (.func NQ) cY] st (EP P [x] B S q st))/\(∀(P:List Nu) (x:Nu) (B S:List Nu) (q L p m:Nat) (NQ:FuncId) (cY:List LV) (Pc:St->Prop) (st:St) (YJ:Aw.U.fU NQ cY q Pc) (Zq:Pc st) (hq:q<st.next) (hB:Ris B) (hL:(P++x::B++S).length=L) (hl:L<=100000) (hp:P.length=p) (hm:m=p+1) (hH:st.H q=.box 34 1 (eds (P++x::B++S))),
 aB prog 210 [.ms q 0 L,i p,i m,i (m+B.length:Nat),.fn (.func NQ) cY] st (EP P [x] B S q st)):=by
 refine⟨?_,?_⟩
 all_goals
  intro P x B S q L p m NQ cY Pc st YJ Zq hq hB hL hl hp hm hH;have hLl:L=p+(B.length+1)+S.length:=by rw[<- hL,<- hp];simp only[aAh,List.length_cons]
  have e1:IntKind.i64.wrap ((m:Int)-p)=1:=zW
  first|(have _:List Ed:=P;refine zN func211 ntmps211 [] ?_)|refine zN func210 ntmps210 [] ?_
  (repeat' (first|apply qS|apply qB|(apply qC;simp[e1])|(refine zE ?_;intro J hJ;simp[e1];refine zJ hJ ?_)))
  refine qL (fun z fr st2=>∃ k v:Nat,k<=v/\v<=B.length/\z=v-k/\fr 0=.ms q 0 L/\fr 1=i p/\fr 4=.fn (.func NQ) cY/\fr 10=i (m+k:Nat)/\fr 11=i (m+v:Nat)/\(∀ j,j<k->(B.getD j ed0).id<x.id)/\(∀ j,v<=j->j<B.length->x.id<=(B.getD j ed0).id)/\st2.H q=bxo (P++x::B++S)/\bK q st st2) B.length ?_ ?_
  .exact⟨0,B.length,oO,aAi _,rfl,sS,sS,sS,sS,sS,fun j h=>by omega,fun j h1 h2=>by omega,hH,bK.refl _ _⟩
  rintro z fr st2 ⟨k,v,hkv,hvB,rfl,f0,f1,f4,f10,f11,h1,h2,hD,Xz⟩ JJ hJJ;have P7:=YJ.keep _ _ Zq Xz;have Zi:q<st2.next:=by have:=Xz.1;omega
  by_cases dN:k<v
  .obtain⟨s,hs⟩:∃ s:Nat,s=(m+k)+(m+v):=⟨_,rfl⟩;obtain⟨h,hh⟩:∃ h:Nat,m+h=s / 2:=⟨s / 2-m,oO⟩;have wA:IntKind.i64.wrap ((m:Int)+k+(m+v))=(s:Int):=zW;have wB:=zH s oO;obtain⟨ph,hph⟩:∃ ph:Nat,ph=m+h:=⟨_,rfl⟩;have wC:=ER s ph oO;have wD:IntKind.i64.wrap (ph:Int)=(ph:Int):=zW;have wE:IntKind.i64.wrap ((ph:Int)+1)=((m+(h+1):Nat):Int):=zW;have g1:(P++x::B++S).getD p ed0=x:=by rw[aAF];exact DZ _ _ _ hp.symm
   have g2:(P++x::B++S).getD ph ed0=B.getD h ed0:=by
    (first|rw[show P++x::B++S=(P++[x])++(B++S) by simp,show ph=(P++[x]).length+h by simp;omega,Aw.BD,Aw.oW _ _ _ oO]|rw[show P++x::B++S=(P++[x])++(B++S) by simp,show ph=(P++[x]).length+h by simp;omega,Aw.U.BD,Aw.U.oW _ _ _ oO])
   have F7:(B.getD h ed0).id<x.id->∀ j,j<h+1->(B.getD j ed0).id<x.id:=fun h3 j hj=>by have:=iN hB (j:=j) (k:=h) oO oO;omega
   have YL:¬(B.getD h ed0).id<x.id->∀ j,h<=j->j<B.length->x.id<=(B.getD j ed0).id:=fun h3 j hj hj2=>by have:=iN hB (j:=h) (k:=j) hj hj2;omega
   have hel:=aK (P++x::B++S);have da:=aR (P++x::B++S) p oO;have db:=aR (P++x::B++S) ph oO;rw[g1]at da;rw[g2]at db;rw[hL]at hel;have T7:∀ Xj Yy,Yy.H q=st2.H q->bK q st Yy->Xj 0=.ms q 0 L/\Xj 1=i p/\Xj 4=.fn (.func NQ) cY->(((B.getD h ed0).id<x.id/\Xj 10=i (m+(h+1):Nat)/\Xj 11=i (m+v:Nat))\/(¬(B.getD h ed0).id<x.id/\Xj 10=i (m+k:Nat)/\Xj 11=i (m+h:Nat)))->JJ Xj Yy:=by
    rintro Xj Yy k1 k2 ⟨k3,k4,k5⟩ (⟨k6,k7,k8⟩|⟨k6,k7,k8⟩)
    .exact hJJ (v-(h+1)) _ _ oO ⟨h+1,v,oO,hvB,rfl,k3,k4,k5,k7,k8,F7 k6,h2,k1.trans hD,k2⟩
    .exact hJJ (h-k) _ _ oO ⟨k,h,oO,oO,rfl,k3,k4,k5,k7,k8,h1,YL k6,k1.trans hD,k2⟩
   clear hJJ F7 YL h1 h2;have M3:=YJ.call st2 (B.getD h ed0) x P7;have Ya:=pT (B.getD h ed0) x;generalize hy:B.getD h ed0=y at *;generalize hc:P++x::B++S=c at *;generalize sU y x=cv at *;have hA4:ph<L:=oO;have hB4:p<L:=oO;have hkv':(m:Int)+k<m+v:=oO
   (repeat' (first|apply qS|apply qB|refine qK (zZ ?_)|(apply qC;simp[f10,f11,hkv',dN,wA,wB,wC,wD])|(refine zE ?_;intro J hJ;simp[f10,f11,hkv',dN,wA,wB,wC,wD];refine zJ hJ ?_)))
   (refine zS [] [q] [0,2,4,6,8,10,12,14,16,19,20] ?_;intro J hJ;simp[f0,f1,f4,hD,da,db,hel];(repeat refine ca ?_))
   refine aJ M3 ?_;rintro r s4 ⟨rfl,Yh⟩;have O3:=Yh.H q Zi;refine⟨fun _=>by simp[O3,hD],?_⟩;by_cases Yk:y.id<x.id
   .have U4:cv<0:=by rw[aBy Yk]at Ya;exact aBY Ya
    (apply aV;simp[U4,O3,hD];refine zJ hJ ?_)
    (repeat' (first|(apply qC;simp[wE])|(refine zE ?_;intro J hJ;simp[wE];refine zJ hJ ?_)))
    exact T7 _ _ O3 (Xz.keeps Yh) ⟨by simp[f0],by simp[f1],by simp[f4]⟩ (.inl ⟨Yk,sS,by simp[f11]⟩)
   .have U4:¬cv<0:=by rw[aBM Yk]at Ya;exact aDa Ya
    (apply aV;simp[U4,O3,hD];refine zJ hJ ?_)
    (repeat' (first|(apply qC;simp[])|(refine zE ?_;intro J hJ;simp[];refine zJ hJ ?_)))
    exact T7 _ _ O3 (Xz.keeps Yh) ⟨by simp[f0],by simp[f1],by simp[f4]⟩ (.inr ⟨Yk,by simp[f10],by simp[hph]⟩)
  clear hJJ;obtain rfl:k=v:=oO;have hR:=EL hB hvB (fun j hj=>by have:=h1 j hj;omega) h2;clear h1 h2;have wF:IntKind.i64.wrap ((m:Int)+k-1)=((p+k:Nat):Int):=zW
  (repeat' (first|apply qS|apply qB|refine qX (zZ ?_)|(apply qC;simp[f1,f10,f11])|(refine zE ?_;intro J hJ;simp[f1,f10,f11];refine zJ hJ ?_)))
  refine qL (fun z fr Yy=>∃ t:Nat,t<=k/\z=k-t/\fr 0=.ms q 0 L/\fr 10=i (m+k:Nat)/\fr 13=i (p+t:Nat)/\Yy.H q=bxo (P++B.take t++x::(B.drop t++S))/\bK q st Yy) k ?_ ?_
  .exact⟨0,oO,oO,by simp[f0],by simp[f10],sS,by simp;rw[hD];simp,Xz⟩
  clear f0 f1 f4 f10 f11 hD Xz P7 Zi fr st2;rintro z fr st2 ⟨t,YP,rfl,f0,f10,f13,hD,Xz⟩ JJ hJJ;by_cases dN:t<k;rotate_left
  .clear hJJ;obtain rfl:t=k:=oO;have Xl:¬((p:Int)+t<p+t):=oO
   (repeat' (first|apply qS|refine qX (zZ ?_)|(refine qR (zZ ?_);simp[f10,f13,wF,Xl])|(apply qC;simp[f10,f13,wF,Xl])|(refine zE ?_;intro J hJ;simp[f10,f13,wF,Xl];refine zJ hJ ?_)))
   refine⟨_,?_,hR,by rw[hD];simp,Xz⟩;refine aBW.trans ?_;rw[aAH];rfl
  have Xy:(p:Int)+t<p+k:=oO;have hce:P++B.take t++x::(B.drop t++S)=(P++B.take t)++x::B.getD t ed0::(B.drop (t+1)++S):=by rw[Ig B t oO];simp
  have hUl:(P++B.take t).length=p+t:=by simp[hp];omega
  have YK:(((P++B.take t)++x::B.getD t ed0::(B.drop (t+1)++S)).set (p+t) (B.getD t ed0)).set (p+t+1) x=P++B.take (t+1)++x::(B.drop (t+1)++S):=by rw[LN _ _ _ _ hUl.symm];rw[show(P++B.take t)++B.getD t ed0::B.getD t ed0::(B.drop (t+1)++S)=(P++B.take t++[B.getD t ed0])++B.getD t ed0::(B.drop (t+1)++S) by simp];rw[LN _ _ _ _ (by simp[hp];omega),Pt B t oO];simp
  have g1:=DZ (P++B.take t) x (B.getD t ed0::(B.drop (t+1)++S)) (j:=p+t) hUl.symm;have g2:((P++B.take t)++x::B.getD t ed0::(B.drop (t+1)++S)).getD (p+t+1) ed0=B.getD t ed0:=by rw[show(P++B.take t)++x::B.getD t ed0::(B.drop (t+1)++S)=(P++B.take t++[x])++B.getD t ed0::(B.drop (t+1)++S) by simp];exact DZ _ _ _ (by simp[hp];omega)
  have Xk:((P++B.take t)++x::B.getD t ed0::(B.drop (t+1)++S)).length=L:=by rw[<- hce];simp only[aAh,List.length_cons,aAo,aAN];omega
  rw[hce]at hD;generalize B.getD t ed0=y at *;generalize hc:(P++B.take t)++x::y::(B.drop (t+1)++S)=c at *;obtain⟨k1,Xn⟩:∃ k1:Nat,k1=p+t:=⟨_,rfl⟩;rw[<- Xn]at g1 g2 YK;have hel:=aK c;have da:=aR c k1 oO;have db:=aR c (k1+1) oO;rw[g1]at da;rw[g2]at db;rw[Xk]at hel;have wG:IntKind.i64.wrap ((k1:Int)+1)=((k1+1:Nat):Int):=zW;have wG':IntKind.i64.wrap ((k1:Int)+1)=(k1:Int)+1:=vT _ oO oO;have hk1':(p:Int)+t=(k1:Int):=oO;have f13':fr 13=i k1:=by rw[f13,Xn]
  have hA4:k1+1<L:=oO;have hB4:k1<L:=oO;rw[hk1']at Xy
  (repeat' (first|apply qS|apply qB|refine qK (zZ ?_)|(apply qC;simp[f10,f13',wF,Xy])|(refine zE ?_;intro J hJ;simp[f10,f13',wF,Xy];refine zJ hJ ?_)))
  (refine zS [] [q] [0,2,4,6,8,10,12,14,16,18,20,22,24,26,28,31,32,35] ?_;intro J hJ;simp[f0,f13',hD,da,db,hel,Xk,wG'];(repeat refine ca ?_);refine zJ hJ ?_)
  have e1:=gG c k1 y oO;have e2:=gG (c.set k1 y) (k1+1) x (by simp;omega)
  first|rw[e1,e2,YK,St.set_set]|(rw[db]at e1;rw[e1,e2,YK,St.set_set])
  (repeat' (refine zE ?_;intro J hJ;simp[f13',wG'];refine zJ hJ ?_))
  exact hJJ (k-(t+1)) _ _ oO ⟨t+1,oO,rfl,by simp[f0],by simp[f10],by simp;omega,sS,Xz.set _⟩
def Aw.VN:=KO.1
def Aw.U.VN:=KO.2
end Go.Proofs.YtempldclppogmaaGreatDoor
