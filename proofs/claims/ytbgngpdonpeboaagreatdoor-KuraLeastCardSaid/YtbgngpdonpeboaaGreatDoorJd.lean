/- Plain: the way from one vertex to another one, as it is sought. No program. -/
import Derived.Test.YtbgngpdonpeboaaGreatDoorJc
import Derived.Test.YtbgngpdonpeboaaGreatDoorAwZ
import Derived.Test.YtbgngpdonpeboaaGreatDoorAwFz
import Derived.Test.YtbgngpdonpeboaaGreatDoorAwMr4
import Derived.Test.YtbgngpdonpeboaaGreatDoorAwRg
set_option linter.unusedVariables false
set_option linter.unusedSimpArgs false
set_option maxHeartbeats 4000000
open Go.Proofs.Tryz
namespace Go.Proofs.YtbgngpdonpeboaaGreatDoor
namespace Aw
open Go Go.RowKit Pl
abbrev Led:=List (Int×Int)
def jZ(A:Led)(v:Int):Option Int:=match A with
 |[]=>none
 |p::A=>if v=p.1 then some p.2 else jZ A v
theorem BQ{v:Int}:∀ {A:Led},v∉A.map (·.1)->jZ A v=none
 |[],_=>rfl
 |p::A,h=>by simp only[aAl,aAe,aCr]at h;simp only[jZ];rw[aAa h.1,BQ h.2]
theorem Bu{v:Int}:∀ {A:Led},v∈A.map (·.1)->∃ w,jZ A v=some w
 |[],h=>by grind
 |p::A,h=>by
  simp only[jZ];by_cases e:v=p.1
  .simp_all
  .rw[aAa e];simp only[aAl,aAe]at h;exact Bu (h.resolve_left e)
structure BF where
 A:Led
 Q:List Int
 hit:Bool
def gP(may:Int->Bool)(to v:Int)(S:BF)(u:Int):BF:=
 if S.hit=true then S else if u∈S.A.map (·.1)then S else if u=to then⟨S.A++[(u,v)],S.Q,true⟩else⟨S.A++[(u,v)],if may u=true then S.Q++[u]else S.Q,false⟩
def dV(may:Int->Bool)(to v:Int)(S:BF)(l:List Int):BF:=l.foldl (gP may to v) S
theorem DW(may:Int->Bool)(to v:Int){S:BF}(h:S.hit=true)(l:List Int):dV may to v S l=S:=by
 induction l with
 |nil=>rfl
 |cons u l ih=>grind [dV,gP]
theorem JL(may:Int->Bool)(to v:Int)(S:BF)(l:List Int)(u:Int):dV may to v S (l++[u])=gP may to v (dV may to v S l) u:=by grind [dV]
theorem Dl(may:Int->Bool)(to v:Int)(S:BF)(l:List Int):(dV may to v S l).Q.length<=S.Q.length+l.length/\(dV may to v S l).A.length<=S.A.length+l.length:=by
 induction l generalizing S with
 |nil=>simp[dV]
 |cons u l ih=>
  have:=ih (gP may to v S u);have h1:(gP may to v S u).Q.length<=S.Q.length+1/\(gP may to v S u).A.length<=S.A.length+1:=by
   unfold gP
   split
   .omega
   .grind
  grind [dV]
def bfs(near:Int->List Int)(may:Int->Bool)(to:Int):Nat->Led->List Int->Option (Option Led)
 |_,_,[]=>some none
 |0,_,_::_=>none
 |n+1,A,v::Q=>if(dV may to v ⟨A,Q,false⟩ (near v)).hit=true then some (some (dV may to v ⟨A,Q,false⟩ (near v)).A)else bfs near may to n (dV may to v ⟨A,Q,false⟩ (near v)).A (dV may to v ⟨A,Q,false⟩ (near v)).Q
def iM(A:Led)(SD:Int):Nat->Int->Option (List Int)
 |0,v=>if v=SD then some []else none
 |n+1,v=>if v=SD then some []else(iM A SD n ((jZ A v).getD 0)).map fun l=>(jZ A v).getD 0::l
theorem Cw{A:Led}{SD:Int}:∀ {n:Nat} {v:Int} {l:List Int},iM A SD n v=some l->l.length<=n
 |0,v,l,h=>by
  grind [iM]
 |n+1,v,l,h=>by
  simp only[iM]at h
  split at h
  .grind
  .rw[aBj]at h;obtain⟨l',h1,rfl⟩:=h;have:=Cw h1
   grind
def vO(vs:List Int)(near:Int->List Int)(may:Int->Bool)(SD to:Int)(n:Nat):Option (List Int):=
 if SD∉vs\/to∉vs then some []else if SD=to then some [SD]else match bfs near may to n [(SD,SD)] [SD] with
  |some none=>some []
  |some (some A)=>(iM A SD n to).map fun l=>(to::l).reverse
  |none=>none
def kE(x:Ed):List Int:=[if x.b<x.a then x.b else x.a,if x.a<x.b then x.b else x.a]
theorem Jo(x y:Ed):kE x=kE y↔bes x y=true:=by
 grind [rP,kE]
def bnd(l:List Ed):List (List Int):=(sE l).map fun y=>(l.filter fun x=>bes y x).map (·.id)
theorem Um(l:List Ed):(bnd l).length=(sE l).length:=by simp[bnd]
theorem Li{l:List Ed}{x:Ed}(h:(sE l).any (bes x)=false):sE (l++[x])=sE l++[x]/\bnd (l++[x])=bnd l++[[x.id]]:=by
 have h':∀ y∈sE l,bes x y=false:=fun y hy=>by
  grind
 have hs:sE (l++[x])=sE l++[x]:=by rw[mC,h];rfl
 refine⟨hs,?_⟩;unfold bnd;rw[hs,aAu]
 congr 1
 .grind [List.map_congr_left,uC]
 .have:l.filter (fun z=>bes x z)=[]:=by rw[aDu];intro z hz hb;obtain⟨y,hy,h2⟩:=KX l z hz;have:=h' y hy;rw[xQ hb h2]at this;cases this
  grind [Gh]
theorem VI{l:List Ed}{x:Ed}(h:(sE l).any (bes x)=true):sE (l++[x])=sE l/\∃ L1 y L2 B1 r B2,sE l=L1++y::L2/\bes x y=true/\bnd l=B1++r::B2/\B1.length=L1.length/\bnd (l++[x])=B1++(r++[x.id])::B2/\r.length<=l.length:=by
 have hs:sE (l++[x])=sE l:=by rw[mC,h];rfl
 refine⟨hs,?_⟩;obtain⟨y,hy,hb⟩:=aDy.1 h;obtain⟨L1,L2,hL⟩:=aBh hy;have hap:=Ho l;rw[hL,aBO,aBk]at hap;obtain⟨_,⟨p2,_⟩,p3⟩:=hap;have x8:∀ z,(z∈L1\/z∈L2)->bes z x=false:=by
  intro z hz;cases hzx:bes z x with
  |false=>rfl
  |true=>
   grind [xQ,uC]
 refine⟨L1,y,L2,_,_,_,hL,hb,by unfold bnd;rw[hL,aAu,aAl],sS,?_,?_⟩
 .unfold bnd;rw[hs,hL,aAu,aAl]
  grind [List.map_congr_left,uC]
 grind
structure AtM(l:List Ed)(es:List (List Int×LV)):Prop where
 old:∀ x L1 y L2,sE l=L1++y::L2->bes x y=true->bN es (kE x)=some (i L1.length)
 new:∀ x,(sE l).any (bes x)=false->bN es (kE x)=none
theorem AtM.nil:AtM [] []:=⟨fun x L1 y L2 h _=>by grind [sE],fun x _=>rfl⟩
theorem AtM.keep{l:List Ed}{es:List (List Int×LV)}(h:AtM l es){x:Ed}(hx:sE (l++[x])=sE l):AtM (l++[x]) es:=
 ⟨by rw[hx];exact h.old,by rw[hx];exact h.new⟩
theorem AtM.add{l:List Ed}{es:List (List Int×LV)}(h:AtM l es){x:Ed}(hx:(sE l).any (bes x)=false):AtM (l++[x]) (bQ es (kE x) (i (sE l).length)):=by
 have hs:=(Li hx).1;constructor
 .intro z L1 y L2 hL hb;rw[hs]at hL;rw[rY];rcases aCV L2 with rfl|⟨L2',y',rfl⟩
  .grind [List.append_inj',Jo]
  .rw[aCW,show L1++y::(L2'++[y'])=(L1++y::L2')++[y'] by simp]at hL;obtain⟨h1,h2⟩:=List.append_inj' hL rfl;rw[aAa,h.old z L1 y L2' h1 hb]
   grind [xQ,Jo]
 .intro z hz;rw[hs,List.any_append,Bool.or_eq_false_iff]at hz;rw[rY,aAa,h.new z hz.1]
  grind [Jo]
abbrev TR:=Nat×List Int
def Gj(p:TR):LV:=.sl p.1 p.2.length (us p.2)
def bJ(R:List TR):List LV:=R.map Gj
theorem lM(R:List TR):(bJ R).length=R.length:=by simp[bJ]
structure F6(E:List Ed)(j7:St)(L2 L4 M te q:Nat)(vs:List Int)(mes:List (List Int×LV))(R:List TR)(s:St):Prop where
 h2:s.H L2=.box 25 2 [.nil,.nil]
 h4:s.H L4=.box 25 2 [.sl 0 vs.length (us vs),.sl te (sE E).length (eds (sE E))]
 ht:s.H te=.own 36 3 (sE E).length
 hM:s.H M=.map true [.u32,.u32] mes
 hq:s.H q=.box 22 1 (bJ R)
 bn:R.map (·.2)=bnd E
 at':AtM E mes
 nd:(R.map (·.1)).Nodup
 tk:∀ p∈R,j7.next<=p.1/\p.1<s.next/\s.H p.1=.own 34 1 p.2.length
 b:j7.next<=L2/\j7.next<=L4/\j7.next<=M/\j7.next<=te/\j7.next<=q/\L2<s.next/\L4<s.next/\M<s.next/\te<s.next/\q<s.next
 kp:aA j7 s
def F5(g:Gr)(j7:St)(L2 L4 M k:Nat)(fr:Frm)(s:St):Prop:=
 fr 2=.pt L2 0/\fr 4=.pt L4 0/\fr 6=.mp M/\fr 18=.sl 0 g.es.length (eds g.es)/\fr 19=i g.es.length/\fr 20=i k/\
 ∃ te q mes R,fr 5=.ms q 0 R.length/\F6 (g.es.take k) j7 L2 L4 M te q g.vs mes R s
theorem bR{st:St}{a b:Nat}{x y:cI}(ha:st.H a=x)(hb:st.H b=y)(h:x≠y):¬a=b:=fun e=>h (by rw[<- ha,e,hb])
theorem nS(l:List Ed):z0L (eds l)=eds l:=by
 induction l with
 |nil=>rfl
 |cons e l ih=>simp only[eds,aAF,List.cons_append,List.nil_append,z0L,z0]at ih ⊢;rw[ih]
theorem NY(R:List TR):z0L (bJ R)=R.map fun p=>.sl 0 p.2.length (us p.2):=by rw[oR,bJ,aAX];refine aAN fun p _=>?_;simp[Gj,z0]
theorem Se(g:Gr)(st:St)(hv:g.vs.length<=1048576)(he:g.es.length<=1000)(hp:0<st.next):
 aB prog 59 [.ag (grL g)] st fun r st'=>r=.tu [.ag [.sl 0 g.vs.length (us g.vs),.sl 0 (sE g.es).length (eds (sE g.es))],.sl 0 (bnd g.es).length ((bnd g.es).map fun l=>.sl 0 l.length (us l))]/\aA st st':=by
 refine cZ ?_;have hel:=aI g.es;refine zN func59 ntmps59 [.cell 2 25,.tmp 3] ?_
 (refine xj0 ?_;intro J hJ)
 refine qE (Rz g.vs 0 _ hv) (by simp[]) ?_;rintro r st' ⟨rfl,c8⟩;have I7:=c8.next;simp only[aG]at I7;have V3:st'.H st.next=.box 25 2 (grL g):=by rw[c8.H _ (by simp<;>omega)];simp
 have hC1:st'.H (st.next+1)=.box 25 2 [.nil,.nil]:=by rw[c8.H _ sS];simp
 have o9:aA st st':=((aA.new _ _).trans (aA.new _ _)).trans c8;generalize hL:st'=s1 at *;have e1:¬st.next=s1.next:=oO;have e2:¬st.next=s1.next+1:=oO;refine sL hJ e1 e2 V3 ?_;refine AZ s1.next 36 3 (e:=25) (s:=2) [.sl 0 g.vs.length (us g.vs)] [] sS ?_;refine CW 5 22 1 sS ?_;refine qL (fun n fr s=>∃ k:Nat,k<=g.es.length/\n=g.es.length-k/\F5 g st (st.next+1) s1.next (s1.next+1) k fr s) g.es.length ?_ ?_
 .refine⟨0,oO,oO,sS,sS,sS,sS,sS,sS,s1.next+2,s1.next+3,[],[],sS,?_⟩;have h5:¬st.next=s1.next+2:=oO;have h1:¬st.next+1=s1.next:=oO;refine⟨sF5 h1 h5 e1 e2 hC1,by simp[sE]<;>omega,by simp[sE],sS,by simp[bJ],by simp[bnd,sE],AtM.nil,sS,sS,⟨oO,oO,oO,oO,oO,by simp<;>omega,by simp<;>omega,sS,sS,sS⟩,?_⟩;exact(((((o9.trans (aA.new _ _)).trans (aA.new _ _)).trans (aA.new _ _)).set oO _).trans (aA.new _ _))
 rintro n fr s ⟨k,hk,rfl,f2,f4,f6,f18,f19,f20,te,q,mes,R,f5,hB⟩ JJ hJJ;obtain⟨H2,H4,Ht,HM,Hq,hbn,S8,hnd,C9,⟨b1,b2,b3,b4,b5,b6,b7,b8,b9,b10⟩,hkps⟩:=hB;have q24:¬q=s1.next:=bR Hq H4 sS;by_cases dG:k<g.es.length;rotate_left
 .clear hJJ;have Q0:k=g.es.length:=oO;rw[Q0,aBe]at H4 Ht hbn;have P0:(bnd g.es).length=R.length:=by rw[<- hbn,aAB]
  have n1:¬st.next+1=q:=bR H2 Hq sS;have n2:¬s1.next=q:=fun h=>q24 h.symm;have n3:¬s1.next=st.next+1:=oO;have hsl:=oA g.es;refine tK 5 f5 Hq (by simp[lM]) ?_;have htk2:(bJ R).take (R.length*1)=bJ R:=aAv (by rw[lM];omega);rw[htk2];refine EW f2 f4 f19 f20 dG H4 H2 n1 n2 n3 ?_;refine⟨?_,(hkps.set oO _).set oO _⟩;rw[P0,<- hbn];simp only[z0,z0L,yF,nS,NY,aAX];rfl
 have hd:=aL g.es k dG;have hw:=qN k oO;have u5:k*3<g.es.length*3:=oO;have htk1:g.es.take (k+1)=g.es.take k++[g.es.getD k ed0]:=by rw[aAg,aAh dG];exact aAs dG
 have hEl:(g.es.take k).length<=1000:=by rw[aAw];omega
 generalize g.es.getD k ed0=x at *;generalize hE:g.es.take k=E at *;obtain⟨id,a,b⟩:=x;simp only at hd;cases hany:(sE E).any (bes ⟨id,a,b⟩)
 .have hm:=S8.new ⟨id,a,b⟩ hany;simp only[kE]at hm;have Q4:(List.map (fun _:Ed=>3) (sE E)).sum=(sE E).length*3:=by
   induction sE E with
   |nil=>rfl
   |cons x l ih=>simp only[aAl,List.sum_cons,List.length_cons,ih];omega
  have hsl:=oA E;have te0:¬te=0:=oO;have o7:=lM R;have hRl:R.length=(sE E).length:=by rw[<- Um,<- hbn,aAB]
  have htR:List.take R.length (bJ R)=bJ R:=aAv oO;have hdl:List.drop R.length (bJ R++[LV.nil])=[.nil]:=by rw[<- o7];exact aCX
  have htl:List.take R.length (bJ R++[LV.nil])=bJ R:=by rw[<- o7];exact aDm
  have hdl2:List.drop (R.length+1) (bJ R++[LV.nil])=[]:=List.drop_eq_nil_of_le (sF1 o7);have hRn:((R.length:Int)).toNat=R.length:=oO;have c0:¬s1.next=s.next:=oO;have c0':¬s.next=s1.next:=oO;have c1:¬s1.next=s.next+1:=oO;have c1':¬s.next+1=s1.next:=oO;have c2:¬s1.next=s.next+2:=oO;have c2':¬s.next+2=s1.next:=oO;have c3:¬s1.next=s.next+3:=oO;have c3':¬s.next+3=s1.next:=oO;have c4:¬s1.next=s.next+4:=oO;have c4':¬s.next+4=s1.next:=oO;have e0:¬te=s.next:=oO;have e0':¬s.next=te:=oO;have e1:¬te=s.next+1:=oO;have e1':¬s.next+1=te:=oO;have e2:¬te=s.next+2:=oO;have e2':¬s.next+2=te:=oO;have e3:¬te=s.next+3:=oO;have e3':¬s.next+3=te:=oO;have e4:¬te=s.next+4:=oO;have e4':¬s.next+4=te:=oO;have d0:¬q=s.next:=oO;have d0':¬s.next=q:=oO;have d1:¬q=s.next+1:=oO;have d1':¬s.next+1=q:=oO;have d2:¬q=s.next+2:=oO;have d2':¬s.next+2=q:=oO;have d3:¬q=s.next+3:=oO;have d3':¬s.next+3=q:=oO;have d4:¬q=s.next+4:=oO;have d4':¬s.next+4=q:=oO;have c9:¬s1.next+1=s.next:=oO;have c9':¬s.next=s1.next+1:=oO;have n1:¬te=s1.next:=bR Ht H4 sS;have n2:¬te=s1.next+1:=bR Ht HM sS;have n3:¬q=s1.next+1:=bR Hq HM sS;have n4:¬q=te:=bR Hq Ht sS;have n1':¬s1.next=te:=fun h=>n1 h.symm;have n2':¬s1.next+1=te:=fun h=>n2 h.symm;have n3':¬s1.next+1=q:=fun h=>n3 h.symm;have n4':¬te=q:=fun h=>n4 h.symm;have n5':¬s1.next=q:=fun h=>q24 h.symm;have r2:¬s.next=s.next+1+1:=oO;have r3:¬s.next=s.next+1+1+1:=oO;have r4:¬s.next=s.next+1+1+1+1:=oO;have r5:¬s.next=s.next+1+1+1+1+1:=oO;have r6:¬s.next=s.next+1+1+1+1+1+1:=oO;have r7:¬s.next=s.next+1+1+1+1+1+1+1:=oO;have p1:R.length<R.length+1:=oO
  (repeat' (first|apply qS|apply qB|refine qK (zZ ?_)|(apply qC;simp[o7,htR,Q4,te0,c0,c0',c1,c1',c2,c2',c3,c3',c4,c4',e0,e0',e1,e1',e2,e2',e3,e3',e4,e4',d0,d0',d1,d1',d2,d2',d3,d3',d4,d4',c9,c9',n1,n2,n3,n4,n1',n2',n3',n4',n5',Ht,Hq,q24,f4,f5,f6,f18,f19,f20,dG,hd,hel,u5,hw,H4,HM,hm])|(refine zE ?_;intro J hJ;simp[o7,htR,Q4,te0,c0,c0',c1,c1',c2,c2',c3,c3',c4,c4',e0,e0',e1,e1',e2,e2',e3,e3',e4,e4',d0,d0',d1,d1',d2,d2',d3,d3',d4,d4',c9,c9',n1,n2,n3,n4,n1',n2',n3',n4',n5',Ht,Hq,q24,f4,f5,f6,f18,f19,f20,dG,hd,hel,u5,hw,H4,HM,hm];(repeat refine ca ?_);(refine zJ hJ ?_;clear hJ J))))
  (refine zS [] [s.next,s.next+1+1+1+1+1] [0,2,4,6,8,10,12,14,16,18,20,23] ?_;intro J hJ;simp[r2,r3,r4,r5,r6,r7,c0,c0',c1,c1',c2,c2',c3,c3',c4,c4',e0,e0',e1,e1',e2,e2',e3,e3',e4,e4',d0,d0',d1,d1',d2,d2',d3,d3',d4,d4',c9,c9',n1,n2,n3,n4,n1',n2',n3',n4',n5',o7,htR,hdl,htl,hdl2,p1];(repeat refine ca ?_);(refine zJ hJ ?_;clear hJ J))
  refine xw2 f20 hw ?_;have l1:¬st.next+1=te:=bR H2 Ht sS;have l2:¬st.next+1=q:=bR H2 Hq sS;obtain⟨hs,hb⟩:=Li hany;refine hJJ (g.es.length-(k+1)) _ _ oO ⟨k+1,oO,rfl,sF1 f2,sF1 f4,sF1 f6,sF1 f18,sF1 f19,sS,s.next+3,s.next+5,bQ mes (kE ⟨id,a,b⟩) (i (sE E).length),R++[(s.next+7,[id])],sS,?_⟩;rw[htk1];refine⟨?_,?_,?_,?_,?_,?_,S8.add hany,?_,?_,?_,?_⟩
  ·(repeat (first|rw[nHh nOo]|rw[sHh oO]|rw[nIi nQq]|rw[sIi oO]));exact H2
  ·(repeat (first|rw[nHh nOo]|rw[sHh oO]|rw[nIi nQq]|rw[sIi oO]));rw[hs];simp[eds]
  ·(repeat (first|rw[nHh nOo]|rw[sHh oO]|rw[nIi nQq]|rw[sIi oO]));rw[hs];simp
  ·(repeat (first|rw[nHh nOo]|rw[sHh oO]|rw[nIi nQq]|rw[sIi oO]));rw[hRl];rfl
  ·(repeat (first|rw[nHh nOo]|rw[sHh oO]|rw[nIi nQq]|rw[sIi oO]));simp[bJ,Gj]
  .rw[aAu,hbn,hb];rfl
  .rw[aAu,aAo];refine⟨hnd,sS,fun x hx y hy=>?_⟩;obtain⟨p,hp,rfl⟩:=aAi.1 hx;simp at hy;have:=(C9 p hp).2.1;omega
  .intro p hp;rcases aAd.1 hp with hp|hp
   .obtain⟨h1,h2,h3⟩:=C9 p hp;have t1:¬p.1=te:=bR h3 Ht sS;have t2:¬p.1=q:=bR h3 Hq sS;have t3:¬p.1=s1.next:=bR h3 H4 sS;have t4:¬p.1=s1.next+1:=bR h3 HM sS;refine⟨h1,by simp<;>omega,?_⟩
    (repeat (first|rw[nHh nOo]|rw[sHh oO]|rw[nIi nQq]|rw[sIi oO]));exact h3
   .rw[aAk]at hp;subst hp;refine⟨by simp<;>omega,sS,?_⟩
    (repeat (first|rw[nHh nOo]|rw[sHh oO]|rw[nIi nQq]|rw[sIi oO]));rfl
  .simp only[bT,aG];omega
  .refine⟨by have:=hkps.next;simp only[bT,aG];omega,fun l hl=>?_⟩
   (repeat (first|rw[nHh nOo]|rw[sHh oO]|rw[nIi nQq]|rw[sIi oO]));exact hkps.H l hl
 obtain⟨hs,L1,y,L2,B1,r,B2,hL,hyb,hB0,hBl,V5,hrl⟩:=VI hany;have hm:=S8.old ⟨id,a,b⟩ L1 y L2 hL hyb;simp only[kE]at hm;rw[hB0]at hbn;obtain⟨R1,R',rfl,hR1,hR'⟩:=aEi.1 hbn;obtain⟨p,R2,rfl,hpr,hR2⟩:=aEv.1 hR';obtain⟨t0,r0⟩:=p;simp only at hpr;subst hpr;obtain⟨hb1,T7,hb3⟩:=C9 (t0,r0) sS;simp only at hb1 T7 hb3;have hR1l:R1.length=L1.length:=by rw[<- hBl,<- hR1,aAB]
 have o7:(bJ (R1++(t0,r0)::R2)).length=R1.length+(R2.length+1):=by rw[lM];simp
 have hRl:(R1++(t0,r0)::R2).length=R1.length+(R2.length+1):=sS;have L5:bJ (R1++(t0,r0)::R2)=bJ R1++.sl t0 r0.length (us r0)::bJ R2:=by simp[bJ,Gj]
 have hc1:(bJ R1).length=R1.length:=lM R1;have hdl:List.drop R1.length (bJ R1++LV.sl t0 r0.length (us r0)::bJ R2)=.sl t0 r0.length (us r0)::bJ R2:=by rw[<- hc1];exact aCX
 have htl:List.take R1.length (bJ R1++LV.sl t0 r0.length (us r0)::bJ R2)=bJ R1:=by rw[<- hc1];exact aDm
 have hdl2:List.drop (R1.length+1) (bJ R1++LV.sl t0 r0.length (us r0)::bJ R2)=bJ R2:=by rw[<- hc1,show bJ R1++LV.sl t0 r0.length (us r0)::bJ R2=(bJ R1++[LV.sl t0 r0.length (us r0)])++bJ R2 by simp];rw[show(bJ R1).length+1=(bJ R1++[LV.sl t0 r0.length (us r0)]).length by simp];exact aCX
 rw[hRl]at f5;rw[L5]at Hq;rw[<- hR1l]at hm;have t00:¬t0=0:=oO;have m1:¬s1.next=s.next:=oO;have m1':¬s.next=s1.next:=oO;have m2:¬s1.next+1=s.next:=oO;have m2':¬s.next=s1.next+1:=oO;have m5:¬t0=s.next:=oO;have m6:¬t0=s.next+1:=oO;have m6b:¬t0=s.next+2:=oO;have m5':¬s.next=t0:=oO;have m6':¬s.next+1=t0:=oO;have m6b':¬s.next+2=t0:=oO;have m7:¬q=s.next:=oO;have m8:¬q=s.next+1:=oO;have m9:¬q=s.next+2:=oO;have m9b:¬q=s.next+3:=oO;have n4:¬q=t0:=bR Hq hb3 sS;have r2:¬s.next=s.next+1+1:=oO;have r3:¬s.next=s.next+1+1+1:=oO;have p1:R1.length<R1.length+(R2.length+1):=oO;have p2:(R1.length:Int)<(R1.length:Int)+((R2.length:Int)+1):=oO;have hr1:r0.length<=1000:=oO;refine B9 m1 m1' m2 m2' f4 f5 f6 f18 f19 f20 dG hd hel u5 hw HM hm ?_
 (refine zS [] [s.next,q] [0,2,4,6,8,10,12,14,16,18,20,23] ?_;intro J hJ;simp[m1,m1',m2,m2',m5,m6,m6b,m5',m6',m6b',m7,m8,m9,m9b,n4,r2,r3,f5,Hq,hb3,hc1,hdl,htl,hdl2,p1,p2,t00];(repeat refine ca ?_);(refine zJ hJ ?_;clear hJ J))
 refine xw2 f20 hw ?_;have l2:¬st.next+1=q:=bR H2 Hq sS;have l3:¬st.next+1=t0:=bR H2 hb3 sS;have l4:¬s1.next=q:=fun h=>q24 h.symm;have l5:¬s1.next=t0:=bR H4 hb3 sS;have l6:¬s1.next+1=q:=bR HM Hq sS;have l7:¬s1.next+1=t0:=bR HM hb3 sS;have l8:¬te=q:=bR Ht Hq sS;have l9:¬te=t0:=bR Ht hb3 sS;refine hJJ (g.es.length-(k+1)) _ _ oO ⟨k+1,oO,rfl,sF1 f2,sF1 f4,sF1 f6,sF1 f18,sF1 f19,sS,te,q,mes,R1++(s.next+3,r0++[id])::R2,sF1 f5,?_⟩;rw[htk1];have hnd':=hnd;rw[aAu,aAl,aAo,aAp]at hnd';obtain⟨nd1,⟨nd2,nd3⟩,nd4⟩:=hnd';refine⟨?_,?_,?_,?_,?_,?_,S8.keep hs,?_,?_,?_,?_⟩
 ·(repeat (first|rw[nHh nOo]|rw[sHh oO]|rw[nIi nQq]|rw[sIi oO]));exact H2
 ·(repeat (first|rw[nHh nOo]|rw[sHh oO]|rw[nIi nQq]|rw[sIi oO]));rw[hs];exact H4
 ·(repeat (first|rw[nHh nOo]|rw[sHh oO]|rw[nIi nQq]|rw[sIi oO]));rw[hs];exact Ht
 ·(repeat (first|rw[nHh nOo]|rw[sHh oO]|rw[nIi nQq]|rw[sIi oO]));exact HM
 ·(repeat (first|rw[nHh nOo]|rw[sHh oO]|rw[nIi nQq]|rw[sIi oO]));simp[bJ,Gj]
 .rw[V5,aAu,aAl,hR1,hR2]
 .rw[aAu,aAl,aAo,aAp];have lt1:∀ x∈R1.map (·.1),x<s.next:=fun x hx=>by obtain⟨p,hp,rfl⟩:=aAi.1 hx;exact(C9 p (sF1 hp)).2.1
  have lt2:∀ x∈R2.map (·.1),x<s.next:=fun x hx=>by obtain⟨p,hp,rfl⟩:=aAi.1 hx;exact(C9 p (sF1 hp)).2.1
  refine⟨nd1,⟨fun h=>by have:=lt2 _ h;omega,nd3⟩,fun x hx y hy=>?_⟩;rcases aAe.1 hy with rfl|hy
  .have:=lt1 x hx;simp only;omega
  .exact nd4 x hx y (aAc _ hy)
 .intro p hp;have old:∀ p,p∈R1\/p∈R2->¬p.1=t0->st.next<=p.1/\p.1<s.next/\s.H p.1=.own 34 1 p.2.length/\¬p.1=t0/\¬p.1=q:=by intro p hp Zo;obtain⟨h1,h2,h3⟩:=C9 p (by rcases hp with hp|hp<;>simp[hp]);exact⟨h1,h2,h3,Zo,bR h3 Hq sS⟩
  have O9:(p∈R1\/p∈R2)/\¬p.1=t0\/p=(s.next+3,r0++[id]):=by
   rcases aAd.1 hp with hp|hp
   .exact .inl ⟨.inl hp,nd4 _ (aAi.2 ⟨p,hp,rfl⟩) t0 sS⟩
   .rcases aAe.1 hp with hp|hp
    .exact .inr hp
    .exact .inl ⟨.inr hp,fun h=>nd2 (by rw[<- h];exact aAi.2 ⟨p,hp,rfl⟩)⟩
  rcases O9 with⟨hp,Zo⟩|rfl
  .obtain⟨h1,h2,h3,t1,t2⟩:=old p hp Zo;refine⟨h1,by simp only[bT,aG];omega,?_⟩
   (repeat (first|rw[nHh nOo]|rw[sHh oO]|rw[nIi nQq]|rw[sIi oO]));exact h3
  .refine⟨by simp only;omega,sS,?_⟩;simp only
   (repeat (first|rw[nHh nOo]|rw[sHh oO]|rw[nIi nQq]|rw[sIi oO]));simp
 .simp only[bT,aG];omega
 .refine⟨by have:=hkps.next;simp only[bT,aG];omega,fun l hl=>?_⟩
  (repeat (first|rw[nHh nOo]|rw[sHh oO]|rw[nIi nQq]|rw[sIi oO]));exact hkps.H l hl
abbrev VB:=Int×Nat
def iQ(H:List (Int×Int))(L:List VB):List (List Int×LV):=L.map fun p=>([p.1],.ms p.2 0 (nbH p.1 H).length)
structure NbM(H:List (Int×Int))(lo:Nat)(m:Nat)(L:List VB)(s:St):Prop where
 hm:s.H m=.map false [.u32] (iQ H L)
 bx:∀ p∈L,lo<=p.2/\p.2<s.next/\s.H p.2=.box 34 1 (us (nbH p.1 H))
 nd:(L.map (·.2)).Nodup
 kd:(L.map (·.1)).Nodup
 all:∀ v,nbH v H≠[]↔v∈L.map (·.1)
theorem wK{H:List (Int×Int)}{v:Int}:∀ {L:List VB},v∉L.map (·.1)->bN (iQ H L) [v]=none
 |[],_=>rfl
 |p::L,h=>by simp only[aAl,aAe,aCr]at h;simp only[iQ,aAl,bN];rw[aAa (by simpa using h.1)];exact wK h.2
theorem wS{H:List (Int×Int)}{v:Int}{q:Nat}:∀ {L1 L2:List VB},v∉L1.map (·.1)->bN (iQ H (L1++(v,q)::L2)) [v]=some (.ms q 0 (nbH v H).length)
 |[],L2,_=>by simp[iQ,bN]
 |p::L1,L2,h=>by simp only[aAl,aAe,aCr]at h;simp only[List.cons_append,iQ,aAl,bN];rw[aAa (by simpa using h.1)];exact wS h.2
theorem Hv{H H':List (Int×Int)}{v:Int}{q q':Nat}:∀ {L1 L2:List VB},v∉L1.map (·.1)->v∉L2.map (·.1)->(∀ u,u≠v->nbH u H'=nbH u H)->bQ (iQ H (L1++(v,q)::L2)) [v] (.ms q' 0 (nbH v H').length)=iQ H' (L1++(v,q')::L2)
 |[],L2,_,h2,hn=>by
  simp only[List.nil_append,iQ,aAl,bQ,beq_self_eq_true,aBq]
  congr 1
  refine aAN fun p hp=>?_;rw[hn p.1 (fun e=>h2 (by rw[<- e];exact aAi.2 ⟨p,hp,rfl⟩))]
 |p::L1,L2,h,h2,hn=>by simp only[aAl,aAe,aCr]at h;have ih:=Hv (H:=H) (H':=H') (q:=q) (q':=q') (L1:=L1) (L2:=L2) h.2 h2 hn;simp only[List.cons_append,iQ,aAl,bQ]at ih ⊢;rw[aAa (by simpa using h.1),ih,hn p.1 (fun e=>h.1 e.symm)]
theorem IG{H H':List (Int×Int)}{v:Int}{q':Nat}:∀ {L:List VB},v∉L.map (·.1)->(∀ u,u≠v->nbH u H'=nbH u H)->bQ (iQ H L) [v] (.ms q' 0 (nbH v H').length)=iQ H' (L++[(v,q')])
 |[],_,_=>rfl
 |p::L,h,hn=>by simp only[aAl,aAe,aCr]at h;have ih:=IG (H:=H) (H':=H') (q':=q') (L:=L) h.2 hn;simp only[List.cons_append,iQ,aAl,bQ]at ih ⊢;rw[aAa (by simpa using h.1),ih,hn p.1 (fun e=>h.1 e.symm)]
theorem Dy{H:List (Int×Int)}{a b u:Int}(h:u≠a):nbH u (H++[(a,b)])=nbH u H:=by rw[Hj,aAa (fun e=>h e.symm),aAO]
theorem nA{H:List (Int×Int)}{a b:Int}:nbH a (H++[(a,b)])=nbH a H++[b]:=by rw[Hj,aAj rfl]
theorem NbM.add{H:List (Int×Int)}{lo m:Nat}{L:List VB}{s:St}(h:NbM H lo m L s){a b:Int}(ha:a∉L.map (·.1)){q':Nat}{s':St}(hq:lo<=q'/\s.next<=q'/\q' < s'.next)
 (hm:s'.H m=.map false [.u32] (bQ (iQ H L) [a] (.ms q' 0 (nbH a H++[b]).length))) (hb:s'.H q'=.box 34 1 (us (nbH a H++[b]))) (ho:∀ p∈L,s'.H p.2=s.H p.2) (hn:s.next<=s'.next):NbM (H++[(a,b)]) lo m (L++[(a,q')]) s':=by
 have S3:∀ u,u≠a->nbH u (H++[(a,b)])=nbH u H:=fun u hu=>Dy hu;refine⟨?_,fun p hp=>?_,?_,?_,fun v=>?_⟩
 .rw[hm,<- nA,IG ha S3]
 .rcases aAd.1 hp with hp|hp
  .obtain⟨h1,h2,h3⟩:=h.bx p hp;exact⟨h1,oO,by rw[ho p hp,h3,S3 p.1 (fun e=>ha (by rw[<- e];exact aAi.2 ⟨p,hp,rfl⟩))]⟩
  .rw[aAk]at hp;subst hp;exact⟨hq.1,hq.2.2,by rw[hb,nA]⟩
 .rw[aAu,aAo];refine⟨h.nd,sS,fun x hx y hy=>?_⟩;obtain⟨p,hp,rfl⟩:=aAi.1 hx;simp at hy;have:=(h.bx p hp).2.1;omega
 .rw[aAu,aAo];exact⟨h.kd,sS,fun x hx y hy=>by simp at hy;subst hy;rintro rfl;exact ha hx⟩
 .rw[aAu,aAd];by_cases hv:v=a
  .subst hv;rw[nA];simp
  .rw[S3 v hv,h.all v];simp[hv]
theorem NbM.put{H:List (Int×Int)}{lo m:Nat}{L1 L2:List VB}{s:St}{a b:Int}{q:Nat}(h:NbM H lo m (L1++(a,q)::L2) s){q':Nat}{s':St}(hq:lo<=q'/\s.next<=q'/\q' < s'.next)
 (hm:s'.H m=.map false [.u32] (bQ (iQ H (L1++(a,q)::L2)) [a] (.ms q' 0 (nbH a H++[b]).length))) (hb:s'.H q'=.box 34 1 (us (nbH a H++[b]))) (ho:∀ p,p∈L1\/p∈L2->p.2≠q->p.2<s.next->s'.H p.2=s.H p.2) (hn:s.next<=s'.next):NbM (H++[(a,b)]) lo m (L1++(a,q')::L2) s':=by
 have S3:∀ u,u≠a->nbH u (H++[(a,b)])=nbH u H:=fun u hu=>Dy hu;have kd:=h.kd;have nd:=h.nd;rw[aAu,aAl,aAo,aAp]at kd nd;obtain⟨kd1,⟨kd2,kd3⟩,kd4⟩:=kd;obtain⟨nd1,⟨nd2,nd3⟩,nd4⟩:=nd;have ha1:a∉L1.map (·.1):=fun e=>kd4 a e a sS rfl;have hb1:∀ p,p∈L1\/p∈L2->p.1≠a/\p.2≠q/\(lo<=p.2/\p.2<s.next/\s.H p.2=.box 34 1 (us (nbH p.1 H))):=by
  intro p hp;refine⟨?_,?_,h.bx p (by rcases hp with hp|hp<;>simp[hp])⟩
  .rcases hp with hp|hp
   .exact fun e=>ha1 (by rw[<- e];exact aAi.2 ⟨p,hp,rfl⟩)
   .exact fun e=>kd2 (by rw[<- e];exact aAi.2 ⟨p,hp,rfl⟩)
  .rcases hp with hp|hp
   .exact nd4 _ (aAi.2 ⟨p,hp,rfl⟩) q sS
   .exact fun e=>nd2 (by rw[<- e];exact aAi.2 ⟨p,hp,rfl⟩)
 refine⟨?_,fun p hp=>?_,?_,?_,fun v=>?_⟩
 .rw[hm,<- nA,Hv ha1 kd2 S3]
 .have O9:(p∈L1\/p∈L2)\/p=(a,q'):=by
   rcases aAd.1 hp with hp|hp
   .exact .inl (.inl hp)
   .rcases aAe.1 hp with hp|hp
    .exact .inr hp
    .exact .inl (.inr hp)
  rcases O9 with hp|rfl
  .obtain⟨h1,h2,h3,h4,h5⟩:=hb1 p hp;exact⟨h3,oO,by rw[ho p hp h2 h4,h5,S3 p.1 h1]⟩
  .exact⟨hq.1,hq.2.2,by rw[hb,nA]⟩
 .rw[aAu,aAl,aAo,aAp];have lt:∀ p,p∈L1\/p∈L2->p.2<s.next:=fun p hp=>(hb1 p hp).2.2.2.1;refine⟨nd1,⟨fun e=>?_,nd3⟩,fun x hx y hy=>?_⟩
  .obtain⟨p,hp,e⟩:=aAi.1 e;have:=lt p (.inr hp);simp only at e;omega
  .rcases aAe.1 hy with rfl|hy
   .obtain⟨p,hp,rfl⟩:=aAi.1 hx;have:=lt p (.inl hp);omega
   .exact nd4 x hx y (aAc _ hy)
 .have:=h.kd;rw[aAu,aAl]at this ⊢;exact this
 .by_cases hv:v=a
  .subst hv;rw[nA];simp
  .rw[S3 v hv,h.all v,aAu,aAu,aAl,aAl]
theorem mQ{α β:Type}{f:α->β}:∀ {L:List α},(L.map f).Nodup->∀ {x y:α},x∈L->y∈L->f x=f y->x=y
 |[],_,_,_,hx,_,_=>by simp at hx
 |z::L,h,x,y,hx,hy,e=>by
  simp only[aAl,aAp]at h;rcases aAe.1 hx with P3|P3<;>rcases aAe.1 hy with hy'|hy'
  .rw[P3,hy']
  .exact absurd (aAi.2 ⟨y,hy',by rw[<- e,P3]⟩) h.1
  .exact absurd (aAi.2 ⟨x,P3,by rw[e,hy']⟩) h.1
  .exact mQ h.2 P3 hy' e
theorem Cd{P:Program}{N:Nat}{Q:AQ}{k:List gQ}{fr:Frm}{st:St}{x:Code}(I:Frm->St->Prop)(h1:AWp P N x (AK P N (fun e f s=>e=.normal/\I f s) []) fr st)(h2:∀ fr st,I fr st->AK P N Q k .normal fr st):
 AWp P N x (AK P N Q k) fr st:=by
 refine dH h1 ?_;rintro e c7 st' ⟨rfl,hI⟩;exact h2 _ _ hI
theorem Na{P:Program}{N:Nat}{Q:AQ}{c:Code}{fr:Frm}{st:St}(I:Frm->St->Prop)(h0:I fr st)(h:∀ fr st,I fr st->AWp P N c Q fr st):AWp P N c Q fr st:=h _ _ h0
theorem NbM.keeps{H:List (Int×Int)}{lo m:Nat}{L:List VB}{s s':St}(h:NbM H lo m L s)(k:aA s s')(hm:m<s.next):NbM H lo m L s':=
 ⟨by rw[k.H m hm];exact h.hm,fun p hp=>by obtain⟨h1,h2,h3⟩:=h.bx p hp;exact⟨h1,aAr h2 k.next,by rw[k.H _ h2];exact h3⟩,h.nd,h.kd,h.all⟩
def SoI(j7:St)(H:List (Int×Int))(M:Nat)(L:List VB)(Lr:List (List Int×LV))(fr:Frm)(s:St):Prop:=
 fr 3=.mp M/\(Lr.map (·.1)).Nodup/\(∀ e∈Lr,∃ p∈L,e=([p.1],.ms p.2 0 (nbH p.1 H).length))/\s.H M=.frz false [.u32] (iQ H L)/\M<s.next/\aA j7 s/\
 ∀ p∈L,p.2<s.next/\∃ c,s.H p.2=.box 34 1 (us c)/\c.Perm (nbH p.1 H)/\([p.1]∉Lr.map (·.1)->c.Pairwise (·<=·))
def NrI(j7:St)(S:List Ed)(M k:Nat)(H:List (Int×Int))(fr:Frm)(s:St):Prop:=
 fr 3=.mp M/\fr 17=.sl 0 S.length (eds S)/\fr 18=i S.length/\fr 19=i k/\j7.next<=M/\M<s.next/\aA j7 s/\∃ L,NbM H j7.next M L s
theorem TT(g:Gr)(st:St)(hv:g.vs.length<=1048576)(he:g.es.length<=1000)(hp:0<st.next):
 aB prog 179 [.ag (grL g)] st fun r st'=>∃ m L,r=.mp m/\st.next<=m/\m<st'.next/\aA st st'/\st'.H m=.map false [.u32] (Gi L)/\(∀ p∈L,st.next<=p.2.1/\st'.H p.2.1=.box 34 1 p.2.2)/\(L.map fun p=>p.2.1).Nodup/\
  ∃ K:List Int,K.Nodup/\(∀ v,nbH v (hfs (sE g.es))≠[]↔v∈K)/\L.map (fun p=>(p.1,p.2.2))=K.map fun v=>([v],us (cR g.es v)):=by
 have hel:=aI (sE g.es);have hsl:=oA g.es;refine zN func179 ntmps179 [.tmp 2] ?_
 (refine xj0 ?_;intro J hJ)
 refine qE (Se g _ hv oO sS) sS ?_;rintro r s1 ⟨rfl,c8⟩;have I7:=c8.next;simp only[aG]at I7;have W2:aA st s1:=((aA.new _ _).trans (aA.new _ _)).trans c8;have hm1:s1.H (st.next+1)=.map false [.u32] []:=by rw[c8.H _ sS];simp
 have e1:¬st.next+1=s1.next:=oO;generalize P0:(bnd g.es).length=bl;generalize hbc:((bnd g.es).map fun l=>LV.sl 0 l.length (us l))=bc;refine pN hJ hel ?_;refine qL (fun n fr s=>∃ k:Nat,k<=(sE g.es).length/\n=(sE g.es).length-k/\NrI st (sE g.es) (st.next+1) k (hfs ((sE g.es).take k)) fr s) (sE g.es).length ?_ ?_
 .refine⟨0,oO,oO,sS,sS,sS,sS,oO,by simp;omega,(W2.trans (aA.new _ _)),[],?_⟩;exact⟨by simp[e1,hm1,iQ],sS,sS,sS,by simp[hfs,nbH]⟩
 rintro n fr s ⟨k,hk,rfl,f3,f17,f18,f19,hM1,Q7,o9,L,S1⟩ JJ hJJ;generalize hMM:st.next+1=M at *;by_cases dG:k<(sE g.es).length;rotate_left
 .clear hJJ;have Q0:k=(sE g.es).length:=oO;rw[Q0,aBe]at S1;apply qS
  (refine zE ?_;intro J hJ;simp[f18,f19,dG];(refine zJ hJ ?_;clear hJ J))
  apply qS
  (apply qC;simp[])
  refine qX (zZ ?_);have hHl:(hfs (sE g.es)).length<=2000:=by rw[FB];omega
  generalize hHH:hfs (sE g.es)=H at *;apply qS;refine FJ nB [] (SoI st H M L) (sF1 f3) S1.hm ?_ ?_ ?_ underlying62
  .intro r;refine⟨sF1 f3,?_,?_,sS,by simp;omega,o9.set hM1 _,fun p hp=>?_⟩
   .have:=S1.kd;rw[iQ,aAX];have e:L.map ((fun x=>x.1)∘fun p:VB=>(([p.1],LV.ms p.2 0 (nbH p.1 H).length):List Int×LV))=(L.map (·.1)).map fun v=>[v]:=by rw[aAX];rfl
    rw[e];exact this.map (fun v=>[v]) fun a b v8 h=>v8 (by simpa using h)
   .intro e hee;obtain⟨p,hp,rfl⟩:=aAi.1 hee;exact⟨p,hp,rfl⟩
   .obtain⟨h1,h2,h3⟩:=S1.bx p hp;have h4:¬p.2=M:=bR h3 S1.hm sS;refine⟨by simp;exact h2,nbH p.1 H,by rw[bU,aAa h4];exact h3,.refl _,fun h=>absurd (aAi.2 ⟨_,aAi.2 ⟨p,hp,rfl⟩,rfl⟩) h⟩
  .rintro r L1 e L2 fr s2 ⟨F3,hnd,hem,hMd,I8,hK2,V2⟩ ft J hJ;obtain⟨p,hp,rfl⟩:=hem e sS;obtain⟨v,q⟩:=p;obtain⟨hql,c,hcH,hcp,-⟩:=V2 (v,q) hp;have o7:c.length=(nbH v H).length:=hcp.length_eq;have r8:=AP v H;simp only at o7 hcH hql hcp;have hsort:=Vo c q s2 oO hql hcH;rw[o7]at hsort;apply cS;simp[GJ,mkC]
   (refine mS hJ ?_;intro J hJ)
   refine qE (hsort) (by simp[]) ?_;rintro r st' ⟨d,y9,K8,hd3,hd4⟩
   (repeat' (apply cS;simp[];(refine zJ hJ ?_;clear hJ J)))
   rw[aAu,aAl,aAo,aAp]at hnd;obtain⟨nd1,⟨nd2,nd3⟩,nd4⟩:=hnd;have hMq:¬M=q:=fun h=>by rw[h,hcH]at hMd;cases hMd
   refine hJ _ _ ⟨sF1 F3,?_,fun e he=>hem e (by simp only[aAd,aAe]at he ⊢;rcases he with h|h;exact .inl h;exact .inr (.inr h)),by rw[hd4.2 M hMq I8];exact hMd,aAr I8 hd4.1,?_,fun p X5=>?_⟩ (sF1 ft) (by rw[hd4.2 M hMq I8];exact hMd)
   .rw[aAu,aAo];exact⟨nd1,nd3,fun a ha b hb=>nd4 a ha b (aAc _ hb)⟩
   .have hq0:st.next<=q:=(S1.bx (v,q) hp).1;exact⟨aBa hK2.next hd4.1,fun l hl=>by rw[hd4.2 l oO (aAr hl hK2.next)];exact hK2.H l hl⟩
   .obtain⟨h1,c2,h2,h3,h4⟩:=V2 p X5;by_cases hpq:p.2=q
    .obtain rfl:p=(v,q):=by exact mQ S1.nd X5 hp hpq
     exact⟨aAr h1 hd4.1,d,y9,K8.trans hcp,fun _=>hd3⟩
    .refine⟨aAr h1 hd4.1,c2,by rw[hd4.2 _ hpq h1];exact h2,h3,fun x8=>h4 fun j5=>x8 ?_⟩;rw[aAu,aAl,aAd,aAe]at j5;rw[aAu,aAd];rcases j5 with h|h|h
     .exact .inl h
     .exfalso;simp at h;have e2:=mQ S1.kd X5 hp h;exact hpq (by rw[e2])
     .exact .inr h
  .rintro fr s2 ⟨F3,-,-,hMd,I8,hK2,V2⟩;simp only[ak];have r8:∀ v,(us (cR g.es v)).length=(nbH v H).length:=fun v=>by rw[aAB,<- hHH];exact(pO _).length_eq
   refine xw1 F3 ?_;refine⟨hM1,oO,hK2.set hM1 _,L.map fun p=>([p.1],p.2,us (cR g.es p.1)),?_,?_,?_,L.map (·.1),S1.kd,?_,?_⟩
   .congr 1
    rw[Gi,aAX,iQ];refine aAN fun p _=>?_;simp only[Function.comp,r8]
   .intro a q b j5;obtain⟨p,hp,he⟩:=aAi.1 j5;injection he with e1 e2;injection e2 with e2 e3;subst e1 e2 e3;obtain⟨h1,c,h2,h3,h4⟩:=V2 p hp;have h5:¬p.2=M:=fun h=>by rw[h,hMd]at h2;cases h2
    rw[aAa h5];refine⟨(S1.bx p hp).1,?_⟩;rw[h2,Wq h3 (h4 sS),<- hHH];rfl
   .have:=S1.nd;rw[aAX];exact this
   .intro v;exact S1.all v
   .rw[aAX,aAX];rfl
 have hd:=aL (sE g.es) k dG;have hw:=qN k oO;have u5:k*3<(sE g.es).length*3:=oO;have htk1:(sE g.es).take (k+1)=(sE g.es).take k++[(sE g.es).getD k ed0]:=by rw[aAg,aAh dG];exact aAs dG
 have hEl:(hfs ((sE g.es).take k)).length<=2000:=by rw[FB,aAw];omega
 generalize (sE g.es).getD k ed0=x at *;have U5:hfs ((sE g.es).take (k+1))=hfs ((sE g.es).take k)++[(x.a,x.b)]++[(x.b,x.a)]:=by rw[htk1,PY]
 obtain⟨id,a,b⟩:=x;simp only at hd U5;generalize hfs ((sE g.es).take k)=H at *;have b0:¬s.next=M:=oO;refine xw7 f17 f18 f19 dG hd hel u5 ?_;refine Na (fun f s'=>NrI st (sE g.es) M k H f s'/\f 7=.pt s.next 0/\s.next<s'.next/\s'.H s.next=.box 36 3 [u id,u a,u b]) ?_ ?_
 .exact⟨⟨sF1 f3,sF1 f17,sF1 f18,sF1 f19,hM1,by simp;omega,o9.trans (aA.new _ _),L,S1.keeps (aA.new _ _) Q7⟩,sS,sS,sS⟩
 generalize s.next=X at *;clear S1 o9 hM1 Q7 f19 f18 f17 f3 L;rintro fr s ⟨⟨f3,f17,f18,f19,hM1,Q7,o9,L,S1⟩,f7,hXl,hX⟩;refine cD (fun f s'=>NrI st (sE g.es) M k (H++[(a,b)]) f s'/\f 7=.pt X 0/\X<s'.next/\s'.H X=.box 36 3 [u id,u a,u b]) ?_ ?_
 .clear hJJ;have I8:=S1.hm;have x1:¬X=M:=bR hX I8 sS;have x2:¬M=X:=fun h=>x1 h.symm;have x3:¬X=s.next:=oO;have x4:¬X=s.next+1:=oO;have y3:¬M=s.next:=oO;have y4:¬M=s.next+1:=oO;have y5:¬s.next=M:=oO;have y6:¬s.next+1=M:=oO;have r8:=AP a (H);by_cases j5:a∈L.map (·.1)
  .obtain⟨p,hp,rfl⟩:=aAi.1 j5;obtain⟨v,q⟩:=p;obtain⟨L1,L2,rfl⟩:=aBh hp;have kd:=S1.kd;rw[aAu,aAl,aAo]at kd;have K5:=wS (H:=H) (q:=q) (L1:=L1) (L2:=L2) (v:=v) (fun e=>kd.2.2 v e v sS rfl);obtain⟨q1,q2,q3⟩:=S1.bx (v,q) sS;simp only at q1 q2 q3 r8;have z1:¬q=M:=bR q3 I8 sS;have z2:¬q=s.next:=oO;have z3:¬q=s.next+1:=oO;have z4:¬X=q:=bR hX q3 sS;have z5:¬M=q:=fun h=>z1 h.symm;have z6:List.take (nbH v (H)).length (us (nbH v (H)))=us (nbH v (H)):=aAv sS
   have put:=S1.put (b:=b) (q':=s.next+1) (s':=(((s.new (.own 34 1 1)).set q .dead).new (.box 34 1 (us (nbH v (H)++[b])))).set M (.map false [.u32] (bQ (iQ (H) (L1++(v,q)::L2)) [v] (.ms (s.next+1) 0 (nbH v (H)++[b]).length)))) ⟨oO,oO,sS⟩ sS (by(repeat (first|rw[nHh nOo]|rw[sHh oO]|rw[nIi nQq]|rw[sIi oO]))) (fun p hp h1 h2=>by
    have:=S1.bx p (by rcases hp with hp|hp<;>simp[hp]);have h3:¬p.2=M:=bR this.2.2 I8 sS
    (repeat (first|rw[nHh nOo]|rw[sHh oO]|rw[nIi nQq]|rw[sIi oO]))) (by simp;omega)
   generalize hF:nbH v (H)=F at *;generalize hN:iQ (H) (L1++(v,q)::L2)=EM at *
   (refine zS [33] [X,M] [0,2,4,6,8,10,12,14,16,18,20,23] ?_;intro J hJ;simp[f3,f7,hX,I8,x1,x2,x3,x4,y3,y4,y5,y6,K5,q3,z1,z2,z3,z4,z5,z6];(repeat refine ca ?_);(refine zJ hJ ?_;clear hJ J))
   refine⟨by trivial,⟨sF1 f3,sF1 f17,sF1 f18,sF1 f19,hM1,by simp;omega,?_,L1++(v,s.next+1)::L2,?_⟩,sF1 f7,by simp;omega,?_⟩
   .refine⟨by have:=o9.next;simp;omega,fun l hl=>?_⟩;have:=o9.next
    (repeat (first|rw[nHh nOo]|rw[sHh oO]|rw[nIi nQq]|rw[sIi oO]));exact o9.H l hl
   .simpa using put
   ·(repeat (first|rw[nHh nOo]|rw[sHh oO]|rw[nIi nQq]|rw[sIi oO]));exact hX
  .have K5:=wK (H:=H) j5;have x7:nbH a (H)=[]:=by
    cases hc:nbH a (H) with
    |nil=>rfl
    |cons _ _=>exact absurd ((S1.all _).1 (by rw[hc];simp)) j5
   have put:=S1.add (a:=a) (b:=b) (q':=s.next+1) (s':=((s.new (.own 34 1 1)).new (.box 34 1 (us (nbH a (H)++[b])))).set M (.map false [.u32] (bQ (iQ (H) L) [a] (.ms (s.next+1) 0 (nbH a (H)++[b]).length)))) j5 ⟨oO,oO,sS⟩ sS (by(repeat (first|rw[nHh nOo]|rw[sHh oO]|rw[nIi nQq]|rw[sIi oO]))) (fun p hp=>by
    have:=S1.bx p hp;have h3:¬p.2=M:=bR this.2.2 I8 sS
    (repeat (first|rw[nHh nOo]|rw[sHh oO]|rw[nIi nQq]|rw[sIi oO]))) (by simp only[bT,aG];omega)
   rw[x7]at put;generalize hN:iQ (H) L=EM at *
   (refine zS [33] [X,M] [0,2,4,6,8,10,12,14,16,18,20,23] ?_;intro J hJ;simp[f3,f7,hX,I8,x1,x2,x3,x4,y3,y4,y5,y6,K5];(repeat refine ca ?_);(refine zJ hJ ?_;clear hJ J))
   refine⟨by trivial,⟨sF1 f3,sF1 f17,sF1 f18,sF1 f19,hM1,by simp;omega,?_,L++[(a,s.next+1)],?_⟩,sF1 f7,by simp;omega,?_⟩
   .refine⟨by have:=o9.next;simp;omega,fun l hl=>?_⟩;have:=o9.next
    (repeat (first|rw[nHh nOo]|rw[sHh oO]|rw[nIi nQq]|rw[sIi oO]));exact o9.H l hl
   .simpa using put
   ·(repeat (first|rw[nHh nOo]|rw[sHh oO]|rw[nIi nQq]|rw[sIi oO]));exact hX
 clear S1 o9 hM1 Q7 f19 f18 f17 f3 f7 hXl hX L;rintro fr s ⟨⟨f3,f17,f18,f19,hM1,Q7,o9,L,S1⟩,f7,hXl,hX⟩;have hEl2:(H++[(a,b)]).length<=2001:=by rw[aAn];simp only[List.length_cons,List.length_nil];omega
 generalize H++[(a,b)]=H2 at *;refine Cd (fun f s'=>NrI st (sE g.es) M k (H2++[(b,a)]) f s'/\f 7=.pt X 0/\X<s'.next/\s'.H X=.box 36 3 [u id,u a,u b]) ?_ ?_
 .clear hJJ;have I8:=S1.hm;have x1:¬X=M:=bR hX I8 sS;have x2:¬M=X:=fun h=>x1 h.symm;have x3:¬X=s.next:=oO;have x4:¬X=s.next+1:=oO;have y3:¬M=s.next:=oO;have y4:¬M=s.next+1:=oO;have y5:¬s.next=M:=oO;have y6:¬s.next+1=M:=oO;have r8:=AP b (H2);by_cases j5:b∈L.map (·.1)
  .obtain⟨p,hp,rfl⟩:=aAi.1 j5;obtain⟨v,q⟩:=p;obtain⟨L1,L2,rfl⟩:=aBh hp;have kd:=S1.kd;rw[aAu,aAl,aAo]at kd;have K5:=wS (H:=H2) (q:=q) (L1:=L1) (L2:=L2) (v:=v) (fun e=>kd.2.2 v e v sS rfl);obtain⟨q1,q2,q3⟩:=S1.bx (v,q) sS;simp only at q1 q2 q3 r8;have z1:¬q=M:=bR q3 I8 sS;have z2:¬q=s.next:=oO;have z3:¬q=s.next+1:=oO;have z4:¬X=q:=bR hX q3 sS;have z5:¬M=q:=fun h=>z1 h.symm;have z6:List.take (nbH v (H2)).length (us (nbH v (H2)))=us (nbH v (H2)):=aAv sS
   have put:=S1.put (b:=a) (q':=s.next+1) (s':=(((s.new (.own 34 1 1)).set q .dead).new (.box 34 1 (us (nbH v (H2)++[a])))).set M (.map false [.u32] (bQ (iQ (H2) (L1++(v,q)::L2)) [v] (.ms (s.next+1) 0 (nbH v (H2)++[a]).length)))) ⟨oO,oO,sS⟩ sS (by(repeat (first|rw[nHh nOo]|rw[sHh oO]|rw[nIi nQq]|rw[sIi oO]))) (fun p hp h1 h2=>by
    have:=S1.bx p (by rcases hp with hp|hp<;>simp[hp]);have h3:¬p.2=M:=bR this.2.2 I8 sS
    (repeat (first|rw[nHh nOo]|rw[sHh oO]|rw[nIi nQq]|rw[sIi oO]))) (by simp;omega)
   generalize hF:nbH v (H2)=F at *;generalize hN:iQ (H2) (L1++(v,q)::L2)=EM at *
   (refine zS [44] [X,M] [0,2,4,6,8,10,12,14,16,18,20,23] ?_;intro J hJ;simp[f3,f7,hX,I8,x1,x2,x3,x4,y3,y4,y5,y6,K5,q3,z1,z2,z3,z4,z5,z6];(repeat refine ca ?_);(refine zJ hJ ?_;clear hJ J))
   refine⟨by trivial,⟨sF1 f3,sF1 f17,sF1 f18,sF1 f19,hM1,by simp;omega,?_,L1++(v,s.next+1)::L2,?_⟩,sF1 f7,by simp;omega,?_⟩
   .refine⟨by have:=o9.next;simp;omega,fun l hl=>?_⟩;have:=o9.next
    (repeat (first|rw[nHh nOo]|rw[sHh oO]|rw[nIi nQq]|rw[sIi oO]));exact o9.H l hl
   .simpa using put
   ·(repeat (first|rw[nHh nOo]|rw[sHh oO]|rw[nIi nQq]|rw[sIi oO]));exact hX
  .have K5:=wK (H:=H2) j5;have x7:nbH b (H2)=[]:=by
    cases hc:nbH b (H2) with
    |nil=>rfl
    |cons _ _=>exact absurd ((S1.all _).1 (by rw[hc];simp)) j5
   have put:=S1.add (a:=b) (b:=a) (q':=s.next+1) (s':=((s.new (.own 34 1 1)).new (.box 34 1 (us (nbH b (H2)++[a])))).set M (.map false [.u32] (bQ (iQ (H2) L) [b] (.ms (s.next+1) 0 (nbH b (H2)++[a]).length)))) j5 ⟨oO,oO,sS⟩ sS (by(repeat (first|rw[nHh nOo]|rw[sHh oO]|rw[nIi nQq]|rw[sIi oO]))) (fun p hp=>by
    have:=S1.bx p hp;have h3:¬p.2=M:=bR this.2.2 I8 sS
    (repeat (first|rw[nHh nOo]|rw[sHh oO]|rw[nIi nQq]|rw[sIi oO]))) (by simp only[bT,aG];omega)
   rw[x7]at put;generalize hN:iQ (H2) L=EM at *
   (refine zS [44] [X,M] [0,2,4,6,8,10,12,14,16,18,20,23] ?_;intro J hJ;simp[f3,f7,hX,I8,x1,x2,x3,x4,y3,y4,y5,y6,K5];(repeat refine ca ?_);(refine zJ hJ ?_;clear hJ J))
   refine⟨by trivial,⟨sF1 f3,sF1 f17,sF1 f18,sF1 f19,hM1,by simp;omega,?_,L++[(b,s.next+1)],?_⟩,sF1 f7,by simp;omega,?_⟩
   .refine⟨by have:=o9.next;simp;omega,fun l hl=>?_⟩;have:=o9.next
    (repeat (first|rw[nHh nOo]|rw[sHh oO]|rw[nIi nQq]|rw[sIi oO]));exact o9.H l hl
   .simpa using put
   ·(repeat (first|rw[nHh nOo]|rw[sHh oO]|rw[nIi nQq]|rw[sIi oO]));exact hX
 clear S1 o9 hM1 Q7 f19 f18 f17 f3 f7 hXl hX L;rintro fr s ⟨⟨f3,f17,f18,f19,hM1,Q7,o9,L,S1⟩,f7,hXl,hX⟩;simp only[ak];refine xw2 f19 hw ?_;exact hJJ ((sE g.es).length-(k+1)) _ _ oO ⟨k+1,oO,rfl,sF1 f3,sF1 f17,sF1 f18,sS,hM1,Q7,o9,L,by rw[U5];exact S1⟩
def Xa(es:List Ed)(v:Int):Option LV:=if cR es v=[]then none else some (.sl 0 (cR es v).length (us (cR es v)))
theorem Dx{es:List Ed}(v:Int):∀ {K:List Int},bN (K.map fun v=>(([v],.sl 0 (cR es v).length (us (cR es v))):List Int×LV)) [v]=if v∈K then some (.sl 0 (cR es v).length (us (cR es v)))else none
 |[]=>rfl
 |k::K=>by
  simp only[aAl,bN];by_cases h:v=k
  .subst h;simp
  .have h':¬([v]==[k])=true:=by simpa using h
   rw[aAa h',Dx v (K:=K)];simp[h]
theorem Xm(g:Gr)(st:St)(hv:g.vs.length<=1048576)(he:g.es.length<=1000)(hp:0<st.next):
 aB prog 179 [.ag (grL g)] st fun r st'=>∃ m es,r=.mp m/\st.next<=m/\m<st'.next/\aA st st'/\st'.H m=.map false [.u32] es/\∀ v,bN es [v]=Xa g.es v:=by
 refine(CX (R:=fun L=>∃ K:List Int,K.Nodup/\(∀ v,nbH v (hfs (sE g.es))≠[]↔v∈K)/\L.map (fun p=>(p.1,p.2.2))=K.map fun v=>([v],us (cR g.es v))) (TT g st hv he hp)).mono ?_;rintro r st' ⟨m,L,rfl,h1,h2,h3,h4,K,hK,hall,hL⟩;refine⟨m,_,rfl,h1,h2,h3,h4,fun v=>?_⟩;have e:Ic L=K.map fun v=>([v],.sl 0 (cR g.es v).length (us (cR g.es v))):=by
  have e1:Ic L=(L.map fun p=>(p.1,p.2.2)).map fun p=>(p.1,LV.sl 0 p.2.length p.2):=by rw[aAX];rfl
  rw[e1,hL,aAX];refine aAN fun v _=>?_;simp
 rw[e,Dx];unfold Xa;have hn:cR g.es v=[]↔nbH v (hfs (sE g.es))=[]:=by
  have:=(pO (nbH v (hfs (sE g.es)))).length_eq;unfold cR;constructor
  .intro h;rw[h]at this;exact aAK this.symm
  .intro h;rw[h];rfl
 by_cases hv:v∈K
 .rw[aAj hv,aAa (fun h=>(hall v).2 hv (hn.1 h))]
 .rw[aAa hv]
  split
  .rfl
  .rename_i h;exact absurd ((hall v).1 fun h2=>h (hn.2 h2)) hv
def sM(A:Led):List (List Int×LV):=A.map fun p=>([p.1],u p.2)
theorem Gc(A:Led)(v:Int):bN (sM A) [v]=(jZ A v).map u:=by
 induction A with
 |nil=>rfl
 |cons p A ih=>
  simp only[sM,aAl,bN,jZ]at ih ⊢;by_cases h:v=p.1
  .subst h;simp
  .rw[aAa (by simpa using h),aAa h];exact ih
theorem Rk{A:Led}{v w:Int}(h:v∉A.map (·.1)):bQ (sM A) [v] (u w)=sM (A++[(v,w)]):=by
 induction A with
 |nil=>rfl
 |cons p A ih=>simp only[aAl,aAe,aCr]at h;have ih:=ih h.2;simp only[sM,aAl,List.cons_append,bQ]at ih ⊢;rw[aAa (by simpa using h.1),ih]
theorem back(A:Led)(ma:Nat)(SD to:Int)(n:Nat)(l:List Int)(st:St)(hn:n<=100000)(hl:iM A SD n to=some l)(hm:ma<st.next)(hH:st.H ma=.map false [.u32] (sM A)):
 aB prog 180 [.mp ma,u SD,u to] st fun r st'=>r=.sl 0 (to::l).reverse.length (us (to::l).reverse)/\aA st st':=by
 have hll:=Cw hl;refine cH ?_;refine zN func180 ntmps180 [.tmp 6] ?_
 (repeat' (first|apply qS|apply qB|(refine w_e [10] ?_;intro J hJ;simp only[];simp[];(refine zJ hJ ?_;clear hJ J))))
 refine qL (fun k fr s=>∃(v:Int) (W R:List Int),iM A SD k v=some R/\to::l=W++R/\k<=n/\W.length+k<=n+1/\fr 0=.mp ma/\fr 1=u SD/\fr 8=u v/\∃ q,fr 7=.ms q 0 W.length/\s.H q=.box 34 1 (us W)/\st.next<=q/\q<s.next/\aA st s) n ?_ ?_
 .exact⟨to,[to],l,hl,rfl,oO,by simp;omega,sS,sS,sS,st.next,sS,sS,aAm _,sS,aA.new _ _⟩
 rintro k fr s ⟨v,W,R,hb,hW,hk,hWk,f0,f1,f8,q,f7,hq,hq0,hql,o9⟩ JJ hJJ;have hHs:s.H ma=.map false [.u32] (sM A):=by rw[o9.H ma hm];exact hH
 have hg:=Gc A v;by_cases hv:v=SD
 .clear hJJ;have hR:R=[]:=by cases k<;>(simp only[iM,aAj hv,aAb]at hb;exact hb.symm)
  subst hR;rw[aAO]at hW;have hv2:(v != SD)=false:=by simpa using hv
  (refine xj5 f1 f8 hv hv2 f7 ?_;intro J hJ)
  refine qE (AE W q s (by unfold small;omega) hq) (by simp[]) ?_;rintro r st' rfl;refine pN hJ f7 ?_;exact⟨q,W.length,⟨rfl,rfl⟩,34,1,us W.reverse,sS,sS,by subst hW;simp,(o9.set hq0 _).set hq0 _⟩
 .cases k with
  |zero=>simp only[iM,aAa hv]at hb;cases hb
  |succ k=>
   simp only[iM,aAa hv,aBj]at hb;obtain⟨R',hb,rfl⟩:=hb;have hv2:(v != SD)=true:=by simpa using hv
   have V1:((bN (sM A) [v]).getD (u 0))=u ((jZ A v).getD 0):=by rw[hg];cases jZ A v<;>rfl
   generalize (jZ A v).getD 0=x at *;have q1:¬q=s.next:=oO;have C9:List.take W.length (us W)=us W:=aAv sS
   (repeat' (first|apply qS|apply qB|refine qK (zZ ?_)|(apply qC;simp[f0,f1,f8,hv,hv2,f7,hHs,V1,q1,hq,C9])|(refine zE ?_;intro J hJ;simp[f0,f1,f8,hv,hv2,f7,hHs,V1,q1,hq,C9];(repeat refine ca ?_);(refine zJ hJ ?_;clear hJ J))))
   refine hJJ k _ _ oO ⟨x,W++[x],R',hb,by rw[hW];simp,oO,by simp;omega,sF1 f0,sF1 f1,sS,s.next+1,sS,sS,by have:=o9.next;omega,sS,?_⟩;exact(((o9.trans (aA.new _ _)).set hq0 _).trans (aA.new _ _))
def QF(th:LV)(may:Int->Bool)(st:St):Prop:=
 (th=.atom .nilFunc/\∀ v,may v=true)\/∃ f IQ,th=.fn (.func f) IQ/\IQ.map norm=IQ/\∀ v s,aA st s->aB prog f (u v::IQ) s fun r s'=>r=bb (may v)/\aA s s'
structure PaB(j7:St)(A:Led)(Q:List Int)(Ma Mn tq o:Nat)(es:List (List Int×LV))(s:St):Prop where
 ha:s.H Ma=.map false [.u32] (sM A)
 hn:s.H Mn=.map false [.u32] es
 hq:s.H tq=.que 34 (o+Q.length)
 b:j7.next<=Ma/\j7.next<=Mn/\j7.next<=tq/\Ma<s.next/\Mn<s.next/\tq<s.next/\tq≠0/\¬Mn=Ma
 kp:aA j7 s
theorem Path(g:Gr)(SD to:Int)(th:LV)(may:Int->Bool)(n:Nat)(l:List Int)(st:St)(hv:g.vs.length<=1048576)(he:g.es.length<=1000)(hn:n<=1000)(hm:QF th may st)(hl:vO g.vs (cR g.es) may SD to n=some l):
 aB prog 139 [.ag (grL g),u SD,u to,th] st fun r st'=>r=.sl 0 l.length (us l)/\aA st st':=by
 have hth:norm th=th:=by rcases hm with⟨rfl,_⟩|⟨f,c,rfl,_,_⟩<;>rfl
 refine cZ ?_;refine zN func139 ntmps139 [.tmp 8] ?_;refine iF fun M3=>?_
 (refine xj0 ?_;intro J hJ)
 refine qE (TS g SD _ hv) sS ?_;rintro r s1 ⟨rfl,c8⟩;have I7:=c8.next;simp only[aG]at I7;have V3:s1.H st.next=.box 25 2 (grL g):=by rw[c8.H _ sS];simp
 have W2:aA st s1:=(aA.new _ _).trans c8;clear c8;unfold vO at hl;by_cases hf:SD∈g.vs;rotate_left
 .have h0:gi g.vs SD<0:=(GG _ _).2 hf;rw[aAj (.inl hf)]at hl;injection hl with hl;subst hl
  (apply cS;simp[h0];(refine zJ hJ ?_;clear hJ J))
  refine xw0 ?_;exact⟨rfl,W2⟩
 have h0:¬gi g.vs SD<0:=fun h=>(GG _ _).1 h hf
 (apply cS;simp[h0,V3])
 refine qE (TS g to _ hv) sS ?_;rintro r s2 ⟨rfl,o8⟩;have N8:=o8.next;have hG2:=(o8.H st.next oO).trans V3;have hkp2:=W2.trans o8;clear o8 W2 V3 h0;by_cases ht:to∈g.vs;rotate_left
 .have h0:gi g.vs to<0:=(GG _ _).2 ht;rw[aAj (.inr ht)]at hl;injection hl with hl;subst hl
  (apply cS;simp[h0];(refine zJ hJ ?_;clear hJ J))
  refine xw0 ?_;exact⟨rfl,hkp2⟩
 have h0:¬gi g.vs to<0:=fun h=>(GG _ _).1 h ht;rw[aAa (by simp[hf,ht])]at hl
 (apply cS;simp[h0];(refine zJ hJ ?_;clear hJ J))
 by_cases hft:SD=to
 .rw[aAj hft]at hl;injection hl with hl;subst hl;refine xw1 hft ?_;refine⟨by simp[z0,z0L,hft],hkp2.trans (aA.new _ _)⟩
 rw[aAa hft]at hl
 (refine xj2 hft hG2 ?_;intro J hJ)
 refine qE (Xm g _ hv he oO) sS ?_;rintro r s3 ⟨Mn,es,rfl,m1,m2,u5,hMn,hes⟩;have hn3:=u5.next;have hkp3:=hkp2.trans u5;obtain⟨R0,hbfs,hR0⟩:∃ R0,bfs (cR g.es) may to n [(SD,SD)] [SD]=some R0/\((R0=none/\l=[])\/∃ A l',R0=some A/\iM A SD n to=some l'/\l=(to::l').reverse):=by
  cases hb:bfs (cR g.es) may to n [(SD,SD)] [SD] with
  |none=>rw[hb]at hl;cases hl
  |some R0=>
   rw[hb]at hl;cases R0 with
   |none=>injection hl with hl;exact⟨_,rfl,.inl ⟨rfl,hl.symm⟩⟩
   |some A=>simp only[aBj]at hl;obtain⟨l',h1,h2⟩:=hl;exact⟨_,rfl,.inr ⟨A,l',rfl,h1,h2.symm⟩⟩
 clear hl;refine dA hJ ?_;refine Xk 11 (t:=s3.next+1) (n:=1) (e:=34) (cs:=[u SD]) sS sS oO oO ?_;have hc0:¬Mn=s3.next:=oO;have hc1:¬Mn=s3.next+1:=oO;refine qL (fun k fr s=>∃(A:Led) (Q:List Int) (tq o:Nat),bfs (cR g.es) may to k A Q=some R0/\k<=n/\Q.length+2000*k<=2000*n+1/\fr 1=u SD/\fr 2=u to/\fr 3=th/\fr 9=.mp Mn/\fr 10=.mp s3.next/\fr 11=.qu tq o Q.length (us Q)/\PaB st A Q s3.next Mn tq o es s) n ?_ ?_
 .refine⟨_,_,s3.next+1,0,hbfs,aAm _,by simp;omega,sS,sS,sS,sS,sS,sS,?_⟩;refine⟨by simp[sM,bQ],sF3 hc0 hc1 hMn,sS,⟨oO,oO,oO,by simp;omega,by simp;omega,sS,oO,hc0⟩,?_⟩;exact(((hkp3.trans (aA.new _ _)).trans (aA.new _ _)).set (q:=s3.next+1) oO _)
 generalize s3.next=Ma at *;clear u5 hn3 hkp3 hMn m1 m2 hG2 hkp2 N8 I7 hc0 hc1 hbfs;rintro k fr s ⟨A,Q,tq,o,hb,hk,hQ,f1,f2,f3,f9,f10,f11,hPa,hPn,hPq,⟨b1,b2,b3,b4,b5,b6,b7,b8⟩,o9⟩ JJ hJJ;cases Q with
 |nil=>
  clear hJJ;have h1:R0=none:=by cases k<;>(simp only[bfs,aAb]at hb;exact hb.symm)
  subst h1;rcases hR0 with⟨_,rfl⟩|⟨_,_,h,_⟩
  .refine xw1 f11 ?_;exact⟨rfl,o9⟩
  .cases h
 |cons v Q=>
 cases k with
 |zero=>simp[bfs]at hb
 |succ k=>
 have hQl:(Q.length:Int)+1 > 0:=oO;have VU:=hes v;have hrl:=Nb g.es v;simp only[bfs]at hb;generalize hrw:cR g.es v=row at *;have hslc:List.take (Q.length+1-1) (us Q)=us Q:=aAv sS;have hbn:¬(Q.length:Int)+1<=0:=oO
 (repeat (first|apply qS|apply qB))
 (refine zE ?_;intro J hJ;simp[f11,hQl];(refine zJ hJ ?_;clear hJ J))
 (repeat (first|apply qS|apply qB))
 (apply qC;simp[])
 refine qK ?_;simp only[ak]
 (repeat (first|apply qS|apply qB))
 (refine zE ?_;intro J hJ;simp[f11,hQl];(refine zJ hJ ?_;clear hJ J))
 (repeat (first|apply qS|apply qB))
 (refine zE ?_;intro J hJ;simp[f11,hQl,hslc];(repeat refine ca ?_);(refine zJ hJ ?_;clear hJ J))
 apply qS;refine cD (fun f s'=>s'=s/\f 1=u SD/\f 2=u to/\f 3=th/\f 9=.mp Mn/\f 10=.mp Ma/\f 11=.qu tq (o+1) Q.length (us Q)/\f 12=u v/\(f 50=.nil/\row=[]\/f 50=.sl 0 row.length (us row))/\f 51=i row.length/\f 52=i (0:Nat)) ?_ ?_
 .clear hJJ;unfold Xa at VU;rw[hrw]at VU;by_cases hr0:row=[]
  .rw[aAj hr0]at VU;refine xw3 f9 hPn VU ?_;simp[f1,f2,f3,f9,f10,hr0]
  .rw[aAa hr0]at VU;refine xw3 f9 hPn VU ?_;simp[f1,f2,f3,f9,f10]
 clear f1 f2 f3 f9 f10 f11 fr VU;rintro fr s' ⟨rfl,f1,f2,f3,f9,f10,f11,f12,f50,f51,f52⟩;apply qB;refine bD 52 51 53 84 row.length (fun j fr st2=>fr 1=u SD/\fr 2=u to/\fr 3=th/\fr 9=.mp Mn/\fr 10=.mp Ma/\fr 12=u v/\(fr 50=.nil/\row=[]\/fr 50=.sl 0 row.length (us row))/\(dV may to v ⟨A,Q,false⟩ (row.take j)).hit=false/\∃ tq o,fr 11=.qu tq o (dV may to v ⟨A,Q,false⟩ (row.take j)).Q.length (us (dV may to v ⟨A,Q,false⟩ (row.take j)).Q)/\PaB st (dV may to v ⟨A,Q,false⟩ (row.take j)).A (dV may to v ⟨A,Q,false⟩ (row.take j)).Q Ma Mn tq o es st2) ?_ ?_ ?_ (hti:=f52) (htn:=f51)
 .refine⟨f1,f2,f3,f9,f10,f12,f50,rfl,tq,o+1,f11,⟨hPa,hPn,?_,⟨b1,b2,b3,b4,b5,b6,b7,b8⟩,o9⟩⟩;rw[hPq];simp only[List.take_zero,dV,List.foldl_nil,List.length_cons]
  congr 1
  omega
 .clear f1 f2 f3 f9 f10 f11 f12 f50 f51 f52 hPa hPn hPq b1 b2 b3 b4 b5 b6 b7 b8 o9 fr hJJ;rintro j fr s dG ⟨f1,f2,f3,f9,f10,f12,f50,hh,tq,o,f11,hPa,hPn,hPq,⟨b1,b2,b3,b4,b5,b6,b7,b8⟩,o9⟩ fi fn J hJ;have f50:fr 50=.sl 0 row.length (us row):=by
   rcases f50 with⟨_,h⟩|h
   .rw[h]at dG;simp at dG
   .exact h
  have hd:=qG row j dG;have C9:row.take (j+1)=row.take j++[row.getD j 0]:=by rw[aAg,aAh dG];exact aAs dG
  have K0:=JL may to v ⟨A,Q,false⟩ (row.take j) (row.getD j 0);rw[<- C9]at K0;have hsl:=Dl may to v ⟨A,Q,false⟩ (row.take j);simp only[aAw]at hsl;have hfull:(dV may to v ⟨A,Q,false⟩ (row.take (j+1))).hit=true->dV may to v ⟨A,Q,false⟩ row=dV may to v ⟨A,Q,false⟩ (row.take (j+1)):=by intro h;have:row=row.take (j+1)++row.drop (j+1):=(aAE _ _).symm;rw[this,dV,aBI];have h2:=DW may to v h (row.drop (j+1));simp only[dV]at h2 ⊢;rw[h2];simp
  generalize row.getD j 0=x at *;generalize hS:dV may to v ⟨A,Q,false⟩ (row.take j)=S at *;obtain⟨SA,SQ,Sh⟩:=S;simp only at hh f11 hPa hPq hsl;subst hh;have hmg:=Gc SA x;have hqa:¬tq=Ma:=bR hPq hPa sS;have V6:¬tq=Mn:=bR hPq hPn sS;have hqa':¬Ma=tq:=fun h=>hqa h.symm;have hqn':¬Mn=tq:=fun h=>V6 h.symm;by_cases j5:x∈SA.map (·.1)
  .obtain⟨y,hy⟩:=Bu j5;rw[hy]at hmg;simp only[Option.map_some]at hmg;have h1:gP may to v ⟨SA,SQ,false⟩ x=⟨SA,SQ,false⟩:=by simp[gP,j5]
   rw[h1]at K0;refine XM hJ f10 f50 fi fn hd dG hPa hmg ?_;refine hJ _ _ (sF1 fi) (sF1 fn) ⟨sF1 f1,sF1 f2,sF1 f3,sF1 f9,sF1 f10,sF1 f12,.inr (sF1 f50),by rw[K0],tq,o,by rw[K0];simp[f11],by rw[K0];exact⟨hPa,hPn,hPq,⟨b1,b2,b3,b4,b5,b6,b7,b8⟩,o9⟩⟩
  rw[BQ j5]at hmg;simp only[Option.map_none]at hmg;have hms:bQ (sM SA) [x] (u v)=sM (SA++[(x,v)]):=Rk j5;by_cases hxt:x=to
  .clear hJ;subst hxt;have h1:gP may x v ⟨SA,SQ,false⟩ x=⟨SA++[(x,v)],SQ,true⟩:=by unfold gP;rw[aAa sS,aAa j5,aAj rfl]
   rw[h1]at K0;have hf2:=hfull (by rw[K0]);rw[hf2,K0]at hb;simp only[aBq,aAb]at hb;subst hb;rcases hR0 with⟨h,_⟩|⟨A2,l',h,hbk,rfl⟩
   .cases h
   injection h with h;subst h
   (refine F0 f1 f2 f10 f12 f50 fi fn hd dG hPa hmg hms ?_;intro J hJ)
   refine qE (back (SA++[(x,v)]) Ma SD x n l' _ oO hbk (by simp;exact b4) sS) sS ?_;rintro r s4 ⟨rfl,I3⟩;refine dA hJ ?_;refine⟨by simp only[z0];congr 1;have:=yF (x::l').reverse;simpa using this,?_⟩;exact(o9.set b1 _).trans I3
  have h1:gP may to v ⟨SA,SQ,false⟩ x=⟨SA++[(x,v)],if may x=true then SQ++[x]else SQ,false⟩:=by unfold gP;rw[aAa sS,aAa j5,aAa hxt]
  rw[h1]at K0;have tn0:¬tq=s.next:=oO;have hQ2:SQ.length<=3000000:=by simp only[List.length_cons]at hQ;omega
  have hT2:∀ m s',s'.H Ma=.map false [.u32] (sM (SA++[(x,v)]))->s'.H Mn=.map false [.u32] es->s'.H m=.que 34 (0+(SQ++[x]).length)->st.next<=m->m<s'.next->s.next<=s'.next->aA st s'->PaB st (SA++[(x,v)]) (SQ++[x]) Ma Mn m 0 es s':=fun m s' h1 h2 h3 h4 h5 h6 h7=>⟨h1,h2,h3,⟨b1,b2,h4,oO,oO,h5,oO,b8⟩,h7⟩;have hT1:∀ s',s'.H Ma=.map false [.u32] (sM (SA++[(x,v)]))->s'.H Mn=.map false [.u32] es->s'.H tq=.que 34 (o+SQ.length)->s.next<=s'.next->aA st s'->PaB st (SA++[(x,v)]) SQ Ma Mn tq o es s':=fun s' h1 h2 h3 h6 h7=>⟨h1,h2,h3,⟨b1,b2,b3,oO,oO,oO,b7,b8⟩,h7⟩;rcases hm with⟨rfl,hm⟩|⟨f,IQ,rfl,hcaps,hm⟩
  .rw[aAj (hm x)]at K0
   (repeat' (first|apply qS|refine qK (zZ ?_)|(apply qC;simp[f1,f2,f3,f10,f11,f12,f50,fi,fn,hd,dG,hPa,hmg,hms,hxt,hPq,hqa,V6,hqa',hqn',tn0])|(refine zE ?_;intro J hJ;simp[f1,f2,f3,f10,f11,f12,f50,fi,fn,hd,dG,hPa,hmg,hms,hxt,hPq,hqa,V6,hqa',hqn',tn0];(repeat refine ca ?_);(refine zJ hJ ?_;clear hJ J))))
   refine hJ _ _ (sF1 fi) (sF1 fn) ⟨sF1 f1,sF1 f2,sF1 f3,sF1 f9,sF1 f10,sF1 f12,.inr (sF1 f50),by rw[K0],s.next+1,0,by rw[K0];simp,?_⟩;rw[K0];refine hT2 _ _ (by(repeat (first|rw[nHh nOo]|rw[sHh oO]|rw[nIi nQq]|rw[sIi oO]))) (by(repeat (first|rw[nHh nOo]|rw[sHh oO]|rw[nIi nQq]|rw[sIi oO]));exact hPn) (by(repeat (first|rw[nHh nOo]|rw[sHh oO]|rw[nIi nQq]|rw[sIi oO]));simp) oO sS (by simp;omega) ?_;exact((((o9.set b1 _).trans (aA.new _ _)).set b3 _).trans (aA.new _ _))
  ·(refine ZG hJ f1 f2 f3 f10 f11 f12 f50 fi fn hd dG hPa hmg hms hxt ?_;intro J hJ)
   have hkz:aA st (s.set Ma (.map false [.u32] (sM (SA++[(x,v)])))):=o9.set b1 _;refine qE (hm x _ hkz) (sF1 hcaps) ?_;rintro r s4 ⟨rfl,I3⟩;have hn4:=I3.next;simp only[bT]at hn4;have hPa4:s4.H Ma=.map false [.u32] (sM (SA++[(x,v)])):=by rw[I3.H Ma (by simp;exact b4)];simp
   have hPn4:s4.H Mn=.map false [.u32] es:=by rw[I3.H Mn (by simp;exact b5)];simp[b8,hPn]
   have hPq4:s4.H tq=.que 34 (o+SQ.length):=by rw[I3.H tq (by simp;exact b6)];simp[hqa,hPq]
   have tn4:¬tq=s4.next:=oO;cases hmy:may x
   .rw[hmy,aAa sS]at K0
    (repeat' (first|refine qK (zZ ?_)|(apply qC;simp[f11])|(apply cS;simp[f11];(refine zJ hJ ?_;clear hJ J))))
    refine hJ _ _ (sF1 fi) (sF1 fn) ⟨sF1 f1,sF1 f2,sF1 f3,sF1 f9,sF1 f10,sF1 f12,.inr (sF1 f50),by rw[K0],tq,o,by rw[K0];simp[f11],?_⟩;rw[K0];exact hT1 _ hPa4 hPn4 hPq4 hn4 (hkz.trans I3)
   .rw[hmy,aAj rfl]at K0
    (repeat' (first|(apply qC;simp[f11,hPq4,tn4])|((first|(refine zE ?_;intro J hJ)|(apply cS));simp[f11,hPq4,tn4];(repeat refine ca ?_);(refine zJ hJ ?_;clear hJ J))))
    refine hJ _ _ (sF1 fi) (sF1 fn) ⟨sF1 f1,sF1 f2,sF1 f3,sF1 f9,sF1 f10,sF1 f12,.inr (sF1 f50),by rw[K0],s4.next+1,0,by rw[K0];simp,?_⟩;rw[K0];refine hT2 _ _ (by(repeat (first|rw[nHh nOo]|rw[sHh oO]|rw[nIi nQq]|rw[sIi oO]));exact hPa4) (by(repeat (first|rw[nHh nOo]|rw[sHh oO]|rw[nIi nQq]|rw[sIi oO]));exact hPn4) (by(repeat (first|rw[nHh nOo]|rw[sHh oO]|rw[nIi nQq]|rw[sIi oO]));simp) oO sS (by simp;omega) ?_;exact((((hkz.trans I3).trans (aA.new _ _)).set b3 _).trans (aA.new _ _))
 .rintro fr s ⟨f1,f2,f3,f9,f10,f12,f50,hh,tq,o,f11,hB⟩;rw[aBe]at hh f11 hB;rw[aAa (by rw[hh];simp)]at hb;have hsl:=Dl may to v ⟨A,Q,false⟩ row;simp only at hsl;simp only[ak];refine hJJ k _ _ oO ⟨_,_,tq,o,hb,oO,by simp only[List.length_cons]at hQ;omega,sF1 f1,sF1 f2,sF1 f3,sF1 f9,sF1 f10,sF1 f11,hB⟩
theorem Nv{vs:List Int}{v:Int}(h:v∉vs):bN (wQ vs) [v]=none:=by
 have key:∀(L:List Nat),(∀ j∈L,j<vs.length)->bN (L.map fun k=>(([vs.getD k 0],i k):List Int×LV)) [v]=none:=by
  intro L;induction L with
  |nil=>intro _;rfl
  |cons j L ih=>intro hL;have hj:=hL j sS;have Zo:¬v=vs.getD j 0:=fun e=>h (by rw[e,bL _ _ hj];exact aAI _);simp only[aAl,bN];rw[aAa (by simpa using Zo)];exact ih fun j hj=>hL j (aAc _ hj)
 exact key _ fun j hj=>aBl.1 hj
def Om(vs:List Int)(v:Int):Int:=if v∈vs then v else vs.getD 0 0
theorem YK{vs:List Int}{S pl:Nat}{st:St}(hS:ShB vs S pl st)(hn:vs.Nodup)(h64:vs.length<=64)(h0:0<vs.length)(v:Int):
 aB prog 137 [.pt S 0,u v] st fun r st'=>r=wv (mk vs [Om vs v])/\st'=st:=by
 unfold Om;by_cases hv:v∈vs
 .rw[aAj hv];exact UG hS hn h64 hv
 .rw[aAa hv];obtain⟨⟨a,b,c,d,e,f,J6⟩,hP⟩:=hS;have h1:=Nv hv;have h2:=Kw hn h64 h0;have h2:FN .u64 1 0=mk vs [vs.getD 0 0]:=h2;refine zN func137 ntmps137 [.tmp 4] ?_;exact xv4 J6 hP h1 h2
def inW(vs inner:List Int)(v:Int):Bool:=decide (Om vs v∈inner)
theorem YI{vs inner:List Int}(h64:vs.length<=64){v:Int}(hv:v∈vs):((wM .u64 (mk vs [v]) (mk vs inner):Int) != 0)=decide (v∈inner):=by
 rw[SI _ _ _ h64];by_cases h:v∈inner
 .have:mk vs ([v].filter fun v=>decide (v∈inner))≠0:=fun e=>by have:=(mk_zero _ _).1 e v hv;simp[h]at this
  simpa[h]using this
 .have:mk vs ([v].filter fun v=>decide (v∈inner))=0:=(mk_zero _ _).2 fun w _=>by simp[h]
  rw[this];simp[h]
theorem YM{vs inner:List Int}{e:LV}{S pl a b:Nat}{st:St}(hS:ShB vs S pl st)(hn:vs.Nodup)(h64:vs.length<=64)(h0:0<vs.length)(ha:st.H a=.box 130 1 [.pt S 0])(hb:st.H b=.box 138 2 [wv (mk vs inner),e])(v:Int):
 aB prog 145 [u v,.pt a 0,.pt b 0] st fun r st'=>r=bb (inW vs inner v)/\st'=st:=by
 have hbv:Om vs v∈vs:=by
  unfold Om;by_cases h:v∈vs
  .rw[aAj h];exact h
  .rw[aAa h,bL _ _ h0];exact aAI _
 have j5:=YI (inner:=inner) h64 hbv;unfold inW;refine zN func145 ntmps145 [.tmp 4] ?_;refine xw0 ?_
 (refine zS [] [a,b] [0,2,6,8,4,10,12,14] ?_;intro J hJ;simp[ha,hb])
 refine xdP (YK hS hn h64 h0 v) ?_;refine⟨fun h=>by first|(cases h;done)|exact fun _ _=>rfl|simp,?_⟩
 (apply bI;simp[hb,j5];refine zJ hJ ?_)
 exact xv0
theorem Zs{vs inner:List Int}{e:LV}{S pl a b c:Nat}{st:St}(hS:ShB vs S pl st)(hn:vs.Nodup)(h64:vs.length<=64)(h0:0<vs.length)(ha:st.H a=.box 130 1 [.pt S 0])(hb:st.H b=.box 138 2 [wv (mk vs inner),e])
 (hc:st.H c=.box 145 1 [.fn (.func 145) [.pt a 0,.pt b 0]]) (dG:S<st.next/\pl<st.next/\a<st.next/\b<st.next/\c<st.next) (x:Ed):
 aB prog 146 [.ag (edL x),.pt c 0] st fun r st'=>r=bb (inW vs inner x.a||inW vs inner x.b)/\aA st st':=by
 obtain⟨d,p,q⟩:=x;obtain⟨⟨e1,e2,e3,e4,e5,e6,J6⟩,hP⟩:=hS;have hk:=aA.new st (.box 36 3 (edL ⟨d,p,q⟩));have hW:=fun v=>YM (vs:=vs) (inner:=inner) (e:=e) (S:=S) (pl:=pl) (a:=a) (b:=b) (st:=st.new (.box 36 3 (edL ⟨d,p,q⟩))) ⟨⟨e1,e2,e3,e4,e5,e6,(hk.H S dG.1).trans J6⟩,(hk.H pl dG.2.1).trans hP⟩ hn h64 h0 ((hk.H a dG.2.2.1).trans ha) ((hk.H b dG.2.2.2.1).trans hb) v;have c1:¬c=st.next:=oO;refine zN func146 ntmps146 [.tmp 3] ?_
 (refine xj2 hc c1 ?_;intro J hJ)
 refine xcP (hW p) ?_;cases hp:inW vs inner p
 ·(apply cS;simp[hc,c1])
  refine xcP (hW q) ?_;refine dA hJ ?_;exact⟨fun h=>(by rw[hp]at h;cases h),hk⟩
 .refine dA hJ ?_;exact⟨.inl hp,hk⟩
theorem GU(g:Gr)(f:FuncId)(IQ:List LV)(p:Ed->Bool)(st:St)(hv:g.vs.length<=1000)(he:g.es.length<=1000)(hp:DV f IQ st g.es p):
 aB prog 14 [.ag (grL g),.fn (.func f) IQ] st fun r st'=>r=.ag (grL ⟨g.vs,g.es.filter p⟩)/\aA st st':=by
 refine cZ ((C6 g f IQ p st hv he hp).mono ?_);rintro r st' ⟨⟨X,rfl,hX⟩,hk⟩;refine⟨?_,hk⟩;simp only[z0,z0L,yF]
 congr 1
 rcases hX with⟨rfl,h⟩|⟨t,rfl⟩
 .rw[h];simp[z0]
 .simp only[z0,nS]
def tA(g:Gr)(inner:List Int):Gr:=⟨g.vs,g.es.filter fun x=>inW g.vs inner x.a||inW g.vs inner x.b⟩
def Ck(g:Gr)(b:Brg):Int:=g.vs.getD (fst' g.vs b.ends) 0
def lO(g:Gr)(b:Brg):List Int:=b.ends.filter fun w=>decide (w≠Ck g b)
def toW(g:Gr)(b:Brg):Int:=g.vs.getD (fst' g.vs (lO g b)) 0
def Mm(g:Gr)(b:Brg):Option (List Int):=
 if fst' g.vs b.ends<g.vs.length/\fst' g.vs (lO g b)<g.vs.length then
  if nrS g.vs b.inner=[]then some [Ck g b,toW g b]else vO g.vs (cR (tA g b.inner).es) (inW g.vs b.inner) (Ck g b) (toW g b) 1000
 else none
theorem Zn{g:Gr}(hg:GP g){L:List (Int×Int)}{on:List Int}{F:List (List Int)}{S nl pl ll fl:Nat}{le:List (List Int×LV)}{st:St}(hS:ShA g L on F S nl pl ll fl le st){b:Brg}(hb:∀ v∈b.ends,v∈g.vs){w:List Int}(hw:Mm g b=some w):
 aB prog 103 [.pt S 0,TO g.vs b] st fun r st'=>r=.sl 0 w.length (us w)/\st'=st:=by
 refine qT (Q:=fun r=>r=.sl 0 w.length (us w)) (cZ ?_) fun r h=>by subst h;exact⟨.inl rfl,zU _ _⟩
 have h64:=hg.h64;have he:=hg.he;have hn:g.vs.Nodup:=hg.toGoodE.toGood.nodup;unfold Mm at hw;by_cases hq:fst' g.vs b.ends<g.vs.length/\fst' g.vs (lO g b)<g.vs.length
 case neg=>rw[aAa hq]at hw;cases hw
 rw[aAj hq]at hw;obtain⟨hq1,N7⟩:=hq;have h0:0<g.vs.length:=oO;have hc1:=Ef h64 hq1;have hc2:=Ef h64 N7;have hl1:=nC g.vs b.ends h64;have hl2:=nC g.vs (lO g b) h64;have hdp:=LR h64 hn hq1;have hdp:wM .u64 (mk g.vs b.ends) (IntKind.u64.wrap ((mk g.vs b.ends:Int)-1))=mk g.vs (lO g b):=hdp;have y9:=qG g.vs _ hq1;have K8:=qG g.vs _ N7;have y9:(us g.vs).drop (fst' g.vs b.ends)=u (Ck g b)::us (g.vs.drop (fst' g.vs b.ends+1)):=y9;have K8:(us g.vs).drop (fst' g.vs (lO g b))=u (toW g b)::us (g.vs.drop (fst' g.vs (lO g b)+1)):=K8;have hi1:(fst' g.vs b.ends:Int)<g.vs.length:=oO;have hi2:(fst' g.vs (lO g b):Int)<g.vs.length:=oO;have hT1:=fun st=>Tz (mk g.vs b.ends) hl1 st;have hT2:=fun st=>Tz (mk g.vs (lO g b)) hl2 st;rw[hc1]at hT1;rw[hc2]at hT2;have J6:=hS.r.box;have dG:=hS.r.lt;have x1:¬S=st.next:=oO;have x2:¬S=st.next+1:=oO;generalize Ck g b=fm at *;generalize toW g b=tw' at *;generalize fst' g.vs b.ends=k1 at *;generalize fst' g.vs (lO g b)=k2 at *;generalize lO g b=E2 at *;have e0:¬st.next=st.next+1:=oO;refine zN func103 ntmps103 [.tmp 4] ?_;refine xw0 ?_
 (refine zS [] [S,st.next,st.next+1] [0,2,4,6,8,10,12,14,16,18,20] ?_;intro J hJ;simp[J6,x1,x2,e0])
 refine xdP (hT1 _) ?_;refine⟨fun h=>by first|(cases h;done)|exact fun _ _=>rfl|simp,?_⟩
 (apply bI;simp[y9,hi1,hq1];(refine zJ hJ ?_;clear hJ J))
 (repeat (apply qS))
 (refine zS [] [S,st.next,st.next+1] [0,2,4,6,8,10,12,14,16,18,20,22,24,26,28] ?_;intro J hJ;simp[J6,x1,x2,e0,hdp])
 refine xdP (hT2 _) ?_;refine⟨fun h=>by first|(cases h;done)|exact fun _ _=>rfl|simp,?_⟩
 (apply bI;simp[K8,hi2,N7];(refine zJ hJ ?_;clear hJ J))
 have hz0:mk g.vs []=0:=(mk_zero g.vs []).2 fun _ _=>by simp
 by_cases j5:nrS g.vs b.inner=[]
 .rw[aAj j5]at hw;obtain rfl:[fm,tw']=w:=by simpa using hw
  have hm:mk g.vs b.inner=0:=by rw[<- Fc,j5,hz0]
  refine xw1 hm ?_;exact⟨by simp[z0,z0L],((aA.new _ _).trans (aA.new _ _)).trans (aA.new _ _)⟩
 .rw[aAa j5]at hw
  have hm:mk g.vs b.inner≠0:=fun h=>j5 (by
   rw[<- Fc,mk_zero]at h
   exact aBU.2 fun v hv=>h v (aAy.1 hv).1 hv)
  have Z5:((mk g.vs b.inner:Int)==0)=false:=by simpa using hm
  have x3:¬S=st.next+1+1:=oO
  have hT:∀ s3,aA st s3->st.next+2<s3.next->s3.H st.next=.box 130 1 [.pt S 0]->s3.H (st.next+1)=.box 138 2 [wv (mk g.vs b.inner),wv (mk g.vs b.ends)]->s3.H (st.next+1+1)=.box 145 1 [.fn (.func 145) [.pt st.next 0,.pt (st.next+1) 0]]->
   DV 146 [.pt (st.next+1+1) 0] s3 g.es fun x=>inW g.vs b.inner x.a||inW g.vs b.inner x.b:=fun s3 u5 hn3 hA3 Z3 hC3 x _ st2 o8=>by
   have N8:=o8.next;exact Zs (hS.keep (u5.trans o8)).r.b hn h64 h0 ((o8.H _ oO).trans hA3) ((o8.H _ oO).trans Z3) ((o8.H _ oO).trans hC3) oO x
  have hM:∀ s3,aA st s3->st.next+2<s3.next->s3.H st.next=.box 130 1 [.pt S 0]->s3.H (st.next+1)=.box 138 2 [wv (mk g.vs b.inner),wv (mk g.vs b.ends)]->
   QF (.fn (.func 145) [.pt st.next 0,.pt (st.next+1) 0]) (inW g.vs b.inner) s3:=fun s3 u5 hn3 hA3 Z3=>.inr ⟨_,_,rfl,rfl,fun v s hk=>by
   refine(YM (hS.keep (u5.trans hk)).r.b hn h64 h0 ((hk.H _ oO).trans hA3) ((hk.H _ oO).trans Z3) v).mono ?_;rintro r s' ⟨h1,rfl⟩
   exact⟨h1,aA.refl _⟩⟩
  (refine xj5 Z5 J6 x1 x2 x3 ?_;intro J hJ)
  refine qE (GU g _ _ _ _ oO oO (hT _ ?_ ?_ ?_ ?_ ?_)) (by simp[grL]) ?_
  .exact(((aA.new _ _).trans (aA.new _ _)).trans (aA.new _ _)).set oO _
  .simp
  ·(repeat (first|rw[nHh nOo]|rw[sHh oO]|rw[nIi nQq]|rw[sIi oO]))
  ·(repeat (first|rw[nHh nOo]|rw[sHh oO]|rw[nIi nQq]|rw[sIi oO]))
  .simp
  rintro r s1 ⟨rfl,c8⟩;have I7:=c8.next;simp only[bT,aG]at I7;have hK1:aA st s1:=((((aA.new _ _).trans (aA.new _ _)).trans (aA.new _ _)).set oO _).trans c8;have hA1:s1.H st.next=.box 130 1 [.pt S 0]:=by rw[c8.H _ (by simp only[bT,aG];omega)];(repeat (first|rw[nHh nOo]|rw[sHh oO]|rw[nIi nQq]|rw[sIi oO]))
  have V5:s1.H (st.next+1)=.box 138 2 [wv (mk g.vs b.inner),wv (mk g.vs b.ends)]:=by rw[c8.H _ (by simp only[bT,aG];omega)];(repeat (first|rw[nHh nOo]|rw[sHh oO]|rw[nIi nQq]|rw[sIi oO]))
  have hC1:s1.H (st.next+1+1)=.box 145 1 [.fn (.func 145) [.pt st.next 0,.pt (st.next+1) 0]]:=by rw[c8.H _ (by simp only[bT,aG];omega)];simp
  clear c8;have y1:¬st.next+1+1=s1.next:=oO;have y2:¬st.next=s1.next:=oO;have y3:¬st.next+1=s1.next:=oO;have S6:(tA g b.inner).es.length<=1000:=by have:=aAU (fun x:Ed=>inW g.vs b.inner x.a||inW g.vs b.inner x.b) g.es;unfold tA;simp only;omega
  (refine JP hJ hC1 y1 ?_;intro J hJ)
  refine qE (Path (tA g b.inner) fm tw' _ _ 1000 w _ (by unfold tA;simp only;omega) S6 oO (hM _ (hK1.trans (aA.new _ _)) (by simp only[aG];omega) ?_ ?_) hw) (by simp[grL,tA]) ?_
  .rw[cE,aAa y2];exact hA1
  .rw[cE,aAa y3];exact V5
  rintro r s2 ⟨rfl,o8⟩;refine dA hJ ?_;exact⟨by simp[z0],(hK1.trans (aA.new _ _)).trans o8⟩
def vB(n i j:Nat):Nat:=if i<=j then j-i else j+n-i
def jC(r:List Int)(i j:Nat):List Int:=((r++r).drop i).take (vB r.length i j+1)
theorem Sq{n i j p:Nat}(hi:i<n)(hj:j<n)(hp:p<=vB n i j):((i+p) % n=j↔p=vB n i j):=by
 unfold vB at *;by_cases h:i<=j
 .rw[aAj h]at *;rw[aAJ oO];omega
 .rw[aAa h]at *;by_cases h2:i+p<n
  .rw[aAJ h2];omega
  .rw[show i+p=(i+p-n)+n by omega,aDq,aAJ oO];omega
theorem zV{n i j:Nat}(hi:i<n)(hj:j<n):vB n i j<n:=by unfold vB;split<;>omega
theorem Ti(r:List Int)(i p:Nat)(hi:i<r.length)(hp:p<r.length):((r++r).drop i)[p]?=some (r.getD ((i+p) % r.length) 0):=by
 rw[aDk];by_cases h:i+p<r.length
 .rw[aBf h,aAJ h,aAg,aAh h];rfl
 .rw[aBu oO,show i+p=(i+p-r.length)+r.length by omega,aDq,aAJ oO,aAg];have:i+p-r.length<r.length:=oO;rw[show i+p-r.length+r.length-r.length=i+p-r.length by omega,aAh this];rfl
theorem He(r:List Int)(i p:Nat)(hi:i<r.length)(hp:p<r.length):((r++r).drop i).take (p+1)=((r++r).drop i).take p++[r.getD ((i+p) % r.length) 0]:=by
 have h:=Ti r i p hi hp;have hl:p<((r++r).drop i).length:=by rw[aAT,aAn];omega
 rw[aAs hl];rw[aAh hl,aAb]at h;rw[h]
theorem Ba(r:List Int)(i j:Nat)(hi:i<r.length)(hj:j<r.length):(jC r i j).length=vB r.length i j+1:=by have:=zV hi hj;unfold jC;rw[aAw,aAT,aAn];omega
theorem Yo(r:List Int)(k j:Nat)(st:St)(hi:k<r.length)(hj:j<r.length)(hl:r.length<=1000)(hp:0<st.next):
 aB prog 143 [.sl 0 r.length (us r),i k,i j] st fun v st'=>(∃ t,v=.sl t (jC r k j).length (us (jC r k j))/\Fb t 34 1 (jC r k j).length st st')/\aA st st':=by
 have hd0:=qG r k hi;have c8:(k:Int)<r.length:=oO;have Z7:=Ba r k j hi hj;have I2:=zV hi hj;refine zN func143 ntmps143 [.tmp 6] ?_
 (repeat' (first|apply qS|apply qB|(refine zE ?_;intro J hJ;simp[hd0,c8,hi];refine zJ hJ ?_)))
 have e0:¬st.next=0:=oO;have N9:(k+0) % r.length=k:=by rw[Nat.add_zero,aAJ hi]
 refine qL (fun n fr st'=>∃ p t:Nat,p<=vB r.length k j/\n=vB r.length k j-p/\fr 0=.sl 0 r.length (us r)/\fr 1=i (((k+p) % r.length:Nat):Int)/\fr 2=i j/\fr 7=.sl t (p+1) (us (((r++r).drop k).take (p+1)))/\Fb t 34 1 (p+1) st st'/\aA st st') (vB r.length k j) ?_ ?_
 .refine⟨0,st.next,oO,oO,sS,?_,sS,?_,⟨e0,aAm _,sS,sS⟩,aA.new _ _⟩
  .rw[N9];simp
  .have:=He r k 0 hi oO;rw[this,N9];simp[hi]
 rintro n fr s ⟨p,t,P7,rfl,f0,f1,f2,f7,⟨t0,t1,t2,tH⟩,hk⟩ JJ hJJ;have S8:=Sq hi hj P7;by_cases N4:p=vB r.length k j
 .have hb:((((k+p) % r.length:Nat):Int) != j)=false:=by rw[S8.2 N4];simp
  generalize ((k+p) % r.length:Nat)=q at *;subst N4;have hta:((r++r).drop k).take (vB r.length k j+1)=jC r k j:=rfl;rw[hta,<- Z7]at f7;rw[<- Z7]at tH;refine xw4 f1 f2 f7 hb ?_;exact⟨⟨t0,t1,t2,tH⟩,hk⟩
 .have hb:((((k+p) % r.length:Nat):Int) != j)=true:=by have:¬(k+p) % r.length=j:=fun h=>N4 (S8.1 h);rw[bne_iff_ne];intro h;exact this (Int.ofNat_inj.1 h)
  have H8:=He r k (p+1) hi oO;have hq:(k+p) % r.length<r.length:=aCw _ oO;have N7:(k+(p+1)) % r.length=((k+p) % r.length+1) % r.length:=by rw[<- Nat.add_assoc,Nat.mod_add_mod]
  rw[N7]at H8;have hmod:((((k+p) % r.length:Nat):Int)+1).tmod (r.length:Int)=((((k+p) % r.length+1) % r.length:Nat):Int):=by rw[aDO oO];exact(Int.natCast_emod _ _).symm
  have hq3:((k+p) % r.length+1) % r.length<r.length:=aCw _ oO;generalize (k+p) % r.length=q at *;have hw:=qN q oO;have hw:IntKind.i64.wrap ((q:Int)+1)=(q:Int)+1:=by rw[hw];omega
  generalize (q+1) % r.length=q2 at *;have hd:=qG r q2 hq3;generalize r.getD q2 0=x at *;have hq4:(q2:Int)<r.length:=oO;have hr0:¬(r.length:Int)=0:=oO;have V8:¬r=[]:=fun h=>by rw[h]at hi;simp at hi
  have c1:¬t=s.next:=oO;have c2:¬s.next=t:=oO
  (repeat' (first|apply qS|apply qB|refine qK (zZ ?_)|(apply qC;simp[f0,f1,f2,f7,hb,hw,hmod,hr0,V8,hd,hq3,hq4,tH,t0,c1,c2])|(refine zE ?_;intro J hJ;simp[f0,f1,f2,f7,hb,hw,hmod,hr0,V8,hd,hq3,hq4,tH,t0,c1,c2];(repeat refine ca ?_);refine zJ hJ ?_)))
  exact hJJ _ _ _ oO ⟨p+1,s.next+1,oO,rfl,sF1 f0,by rw[N7];simp,sF1 f2,by rw[H8];simp,⟨oO,oO,sS,sS⟩,((hk.trans (aA.new _ _)).set t1 _).trans (aA.new _ _)⟩
end Aw
end Go.Proofs.YtbgngpdonpeboaaGreatDoor
