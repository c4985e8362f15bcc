/- color.Color, Count, Right. -/
import Derived.Test.YtempldclppogmaaGreatDoorJj
import Derived.Test.YtempldclppogmaaGreatDoorAwMr4
import Derived.Test.YtempldclppogmaaGreatDoorAwFz
set_option linter.unusedVariables false
set_option linter.unusedSimpArgs false
set_option linter.unusedSectionVars false
set_option maxHeartbeats 1000000
open Go.Proofs.Tryz
namespace Go.Proofs.YtempldclppogmaaGreatDoor
namespace Aw
open Go Go.RowKit Pl
def MH(X:LV)(K:List Int):List (List Int×LV):=K.map fun n=>([n],X)
theorem NG(X:LV)(K:List Int):(MH X K).length=K.length:=by simp[MH]
theorem Ci(X:LV)(n:Int):∀ K:List Int,bP (MH X K) [n] X=MH X (if n∈K then K else K++[n])
 |[]=>rfl
 |k::K=>by
  have ih:=Ci X n K;simp only[MH,aAi,bP]at ih ⊢;by_cases h:n=k
  .subst h;simp
  .rw[aAa (by simpa using h),ih];by_cases h2:n∈K
   .simp[h,h2]
   .simp[h,h2]
def sD(l K:List Int):Prop:=K.Nodup/\∀ n,n∈K↔n∈l/\0<n
theorem sD.len{l l' K K':List Int}(h:sD l K)(h':sD l' K')(hl:∀ n,n∈l↔n∈l'):K.length=K'.length:=
 ((aAZ h.1 h'.1).2 fun n=>by rw[h.2,h'.2,hl]).length_eq
theorem sD.add{l K:List Int}(h:sD l K)(n:Int)(l':List Int)(hl:∀ x,x∈l'↔x=n\/x∈l):sD l' (if 0<n then(if n∈K then K else K++[n])else K):=by
 obtain⟨h1,h2⟩:=h;by_cases hn:0<n
 .rw[aAe hn];by_cases hk:n∈K
  .rw[aAe hk];refine⟨h1,fun x=>?_⟩;rw[h2,hl];constructor
   .exact fun h=>⟨.inr h.1,h.2⟩
   .rintro⟨rfl|h,h3⟩
    .exact(h2 _).1 hk
    .exact⟨h,h3⟩
  .rw[aAa hk];refine⟨?_,fun x=>?_⟩
   .rw[aAs];refine⟨h1,sS,fun a ha b hb=>?_⟩;rw[aAl]at hb;subst hb;rintro rfl;exact hk ha
   .rw[aAg,aAl,h2,hl];constructor
    .rintro(h|rfl)
     .exact⟨.inr h.1,h.2⟩
     .exact⟨.inl rfl,hn⟩
    .rintro⟨rfl|h,h3⟩
     .exact .inr rfl
     .exact .inl ⟨h,h3⟩
 .rw[aAa hn];refine⟨h1,fun x=>?_⟩;rw[h2,hl];constructor
  .exact fun h=>⟨.inr h.1,h.2⟩
  .rintro⟨rfl|h,h3⟩
   .exact absurd h3 hn
   .exact⟨h,h3⟩
theorem MQ{B:Led}{L1 L2:List (List Int×LV)}{p:List Int×LV}(h:clL B=L1++p::L2):∃(B1 B2:Led) (v n:Int),B=B1++(v,n)::B2/\L1=clL B1/\L2=clL B2/\p=([v],i n):=by obtain⟨B1,B',rfl,h1,h2⟩:=aDB.1 h;obtain⟨⟨v,n⟩,B2,rfl,h3,h4⟩:=aDR.1 h2;exact⟨B1,B2,v,n,rfl,h1.symm,h4.symm,h3.symm⟩
theorem KG(A B:Led):clL A++clL B=clL (A++B):=by simp[clL]
structure XU(st:St)(m q:Nat)(X:LV)(ag:Bool)(A:Led)(L:List (List Int×LV))(s:St):Prop where
 row:∃ B D:Led,L=clL B/\(A.map (·.2)).Perm ((B.map (·.2))++D.map (·.2))/\∃ K,sD (D.map (·.2)) K/\K.length<=D.length/\s.H q=.map false [.i64] (MH X K)
 hid:s.H m=.frz false [.u32] (clL A)/\∀ l,l<st.next->l≠m->s.H l=st.H l
 b:st.next<=q/\q<s.next
theorem TC(m:Nat)(A:Led)(st:St)(hm:st.H m=.map false [.u32] (clL A))(Yw:m<st.next)(hl:A.length<=1000):
 aB prog 26 [.mp m] st fun r st'=>(∃ K,sD (A.map (·.2)) K/\r=i K.length)/\aA st st':=by
 have hmn:m≠st.next:=oO;refine zN func26 ntmps26 [.tmp 2] ?_;apply qS
 (refine zE ?_;intro J hJ;simp[];(refine zJ hJ ?_;clear hJ J))
 apply qS
 (refine zE ?_;intro J hJ;simp[];(refine zJ hJ ?_;clear hJ J))
 apply qS;refine uO nB [] (fun L fr s=>fr 3=.mp st.next/\XU st m st.next (.ag []) false A L s) (m:=m) (ag:=false) (ks:=[.u32]) (es:=clL A) sS (by rw[bX,aAa hmn];exact hm) ?_ ?_ ?_ underlying49
 .intro r;refine⟨sS,⟨⟨A,[],rfl,sS,[],⟨sS,sS⟩,sS,?_⟩,⟨sS,fun l h1 h2=>by rw[bF,aAa h2,bX,aAa oO]⟩,⟨aAk _,sS⟩⟩⟩;rw[bF,aAa (fun e=>hmn e.symm),bX,aAe rfl];rfl
 .rintro r L1 p L2 fr s ⟨f3,⟨⟨B,D,hB,Xf,K,hK,hKl,hq⟩,⟨Xn,YM⟩,⟨b1,b2⟩⟩⟩ ft J hJ;obtain⟨B1,B2,v,n,rfl,rfl,rfl,rfl⟩:=MQ hB.symm;have YE:(A.map (·.2)).Perm ((B1++B2).map (·.2)++((v,n)::D).map (·.2)):=by refine Xf.trans ?_;simp only[aAu,aAi];rw[aAD,aAD];refine aBL _ ?_;exact aBO.symm
  have V1:=hK.add n (((v,n)::D).map (·.2)) sS;have hK2l:(if 0<n then(if n∈K then K else K++[n])else K).length<=((v,n)::D).length:=by
   split
   .split<;>simp<;>omega
   .simp;omega
  have K3:=Ci (.ag []) n K;have hmq:¬m=st.next:=hmn;apply aF;simp[CP,mkC];by_cases h0:0<n
  .have L9:decide (0<n)=true:=aBB h0
   (repeat' (first|apply qS|(apply qC;simp[h0,L9,f3,hq,K3])|(refine zE ?_;intro J hJ;simp[h0,L9,f3,hq,K3];(refine zJ hJ ?_;clear hJ J))))
   refine hJ _ _ ⟨by simp[f3],⟨B1++B2,(v,n)::D,KG _ _,YE,_,V1,hK2l,?_⟩,⟨?_,fun l h1 h2=>?_⟩,⟨b1,by simpa using b2⟩⟩ (by simp[ft]) ?_
   .rw[bF,aAe rfl,aAe h0]
   .rw[bF,aAa hmq];exact Xn
   .rw[bF,aAa oO];exact YM l h1 h2
   .rw[bF,aAa hmq];exact Xn
  .have L9:decide (0<n)=false:=aBH h0;rw[aAa h0]at V1 hK2l
   (repeat' (first|apply qS|refine qK (zZ ?_)|(apply qC;simp[h0,L9,f3])|(refine zE ?_;intro J hJ;simp[h0,L9,f3];(refine zJ hJ ?_;clear hJ J))))
   exact hJ _ _ ⟨by simp[f3],⟨B1++B2,(v,n)::D,KG _ _,YE,_,V1,hK2l,hq⟩,⟨Xn,YM⟩,⟨b1,b2⟩⟩ (by simp[ft]) Xn
 .rintro fr s ⟨f3,⟨⟨B,D,hB,Xf,K,hK,hKl,hq⟩,⟨Xn,YM⟩,⟨b1,b2⟩⟩⟩;simp only[ak];have L3:B=[]:=by
   cases B with
   |nil=>rfl
   |cons x B=>simp[clL]at hB
  subst L3;have hmq:¬st.next=m:=fun e=>hmn e.symm;have hDl:D.length=A.length:=by have:=Xf.length_eq;simpa using this.symm
  have hKA:sD (A.map (·.2)) K:=⟨hK.1,fun x=>by
   rw[hK.2];have:=Xf.mem_iff (a:=x);simp only[aBt,List.nil_append]at this
   rw[this]⟩
  have D5:=NG (.ag []) K;have hKl2:K.length<=1000:=oO
  (repeat' (first|apply qS|(refine qR (zZ ?_);simp[f3,hq,hmq,D5])|(refine zE ?_;intro J hJ;simp[f3,hq,hmq,D5];(refine zJ hJ ?_;clear hJ J))))
  refine⟨⟨K,hKA,rfl⟩,⟨by rw[bS];omega,fun l h1=>?_⟩⟩;by_cases e:l=m
  .subst e;rw[bF,aAe rfl];exact hm.symm
  .rw[bF,aAa e];exact YM l h1 e
def mL(g:Gr)(col:Int->Int):Bool:=g.vs.all (fun v=>decide (0<col v))&&g.es.all fun x=>decide (col x.a≠col x.b)
theorem QG(g:Gr)(m:Nat)(es:List (List Int×LV))(col:Int->Int)(st:St)(hv:g.vs.length<=1000)(he:g.es.length<=1000)(hm:st.H m=.map false [.u32] es)(Yw:m<st.next)(Y8:∀ v,(bQ es [v]).getD (i 0)=i (col v)):
 aB prog 24 [.ag (grL g),.mp m] st fun r st'=>r=bb (mL g col)/\aA st st':=by
 have hel:=aN g.es;have e1:¬m=st.next:=oO;refine zN func24 ntmps24 [.tmp 4] ?_
 (repeat' (first|apply qS|apply qB|(refine zE ?_;intro J hJ;simp[];refine zJ hJ ?_)))
 refine aZ 12 11 13 20 (g.vs.length) (fun j fr st2=>fr 1=.mp m/\fr 2=.pt st.next 0/\fr 10=.sl 0 g.vs.length (us g.vs)/\st2.H st.next=.box 25 2 (grL g)/\st2.H m=.map false [.u32] es/\st.next<st2.next/\aA st st2/\∀ v∈g.vs.take j,0<col v) ?_ ?_ ?_
 .exact⟨sS,sS,sS,sS,by simp[e1,hm],sS,aA.new _ _,sS⟩
 .rintro j fr s GD ⟨f1,f2,f10,hG,hM,Zi,Xt,hall⟩ fi fn JO hJO;have hd:=qG g.vs j GD;have Xx:g.vs.take (j+1)=g.vs.take j++[g.vs.getD j 0]:=by rw[aAc,aAd GD];exact aAn GD
  have Xl:g.vs.getD j 0∈g.vs:=by rw[aAc,aAd GD];exact aAA _
  generalize g.vs.getD j 0=v at *;have hc:=Y8 v;by_cases h0:col v<=0
  .have L9:decide (col v<=0)=true:=aBB h0;have hr:mL g col=false:=by unfold mL;rw[aEE];refine .inl ?_;rw[List.all_eq_false];exact⟨v,Xl,by simpa using h0⟩
   (repeat' (first|apply qS|(refine qR (zZ ?_);simp[f1,f10,fi,fn,hd,GD,hM,hc,h0,L9,hr])|(apply qC;simp[f1,f10,fi,fn,hd,GD,hM,hc,h0,L9,hr])|(refine zE ?_;intro J hJ;simp[f1,f10,fi,fn,hd,GD,hM,hc,h0,L9,hr];refine zJ hJ ?_)))
   exact Xt
  .have L9:decide (col v<=0)=false:=aBH h0
   (repeat' (first|apply qS|refine qK (zZ ?_)|(apply qC;simp[f1,f10,fi,fn,hd,GD,hM,hc,h0,L9])|(refine zE ?_;intro J hJ;simp[f1,f10,fi,fn,hd,GD,hM,hc,h0,L9];refine zJ hJ ?_)))
   refine hJO _ _ (by simp[fi]) (by simp[fn]) ⟨by simp[f1],by simp[f2],by simp[f10],hG,hM,Zi,Xt,fun w hw=>?_⟩;rw[Xx,aAg,aAl]at hw;rcases hw with hw|rfl
   .exact hall w hw
   .omega
 rintro fr s ⟨f1,f2,f10,hG,hM,Zi,Xt,hall⟩;rw[aAQ]at hall
 (repeat' (first|apply qS|apply qB|(refine zE ?_;intro J hJ;simp[f1,f2,hG];refine zJ hJ ?_)))
 refine aZ 24 23 25 37 (g.es.length) (fun j fr st2=>fr 1=.mp m/\fr 22=.sl 0 g.es.length (eds g.es)/\st2.H m=.map false [.u32] es/\m<st2.next/\aA st st2/\∀ x∈g.es.take j,col x.a≠col x.b) ?_ ?_ ?_
 .exact⟨by simp[f1],sS,hM,oO,Xt,sS⟩
 .clear f1 f2 f10 hG hM Zi Xt fr s;rintro j fr s GD ⟨f1,f22,hM,Zi,Xt,hal2⟩ fi fn JO hJO;have hd:=aW g.es j GD;have Xv:j*3<g.es.length*3:=oO;have Xx:g.es.take (j+1)=g.es.take j++[g.es.getD j ed0]:=by rw[aAc,aAd GD];exact aAn GD
  have J5:g.es.getD j ed0∈g.es:=by rw[aAc,aAd GD];exact aAA _
  generalize g.es.getD j ed0=x at *;obtain⟨d,a,b⟩:=x;have hca:=Y8 a;have hcb:=Y8 b;have e2:¬m=s.next:=oO;by_cases h0:col a=col b
  .have L9:(col a==col b)=true:=by simpa using h0
   have hr:mL g col=false:=by unfold mL;rw[aEE];refine .inr ?_;rw[List.all_eq_false];exact⟨_,J5,by simpa using h0⟩
   (repeat' (first|apply qS|(refine qR (zZ ?_);simp[f1,f22,fi,fn,hd,hel,Xv,GD,hM,hca,hcb,h0,L9,hr,e2])|(apply qC;simp[f1,f22,fi,fn,hd,hel,Xv,GD,hM,hca,hcb,h0,L9,hr,e2])|(refine zE ?_;intro J hJ;simp[f1,f22,fi,fn,hd,hel,Xv,GD,hM,hca,hcb,h0,L9,hr,e2];refine zJ hJ ?_)))
   first|exact Xt.trans (aA.new _ _)|exact(0:Nat)
  .have L9:(col a==col b)=false:=by simpa using h0
   (repeat' (first|apply qS|refine qK (zZ ?_)|(apply qC;simp[f1,f22,fi,fn,hd,hel,Xv,GD,hM,hca,hcb,h0,L9,e2])|(refine zE ?_;intro J hJ;simp[f1,f22,fi,fn,hd,hel,Xv,GD,hM,hca,hcb,h0,L9,e2];refine zJ hJ ?_)))
   refine hJO _ _ (by simp[fi]) (by simp[fn]) ⟨by simp[f1],by simp[f22],by simp[e2,hM],by simp;omega,Xt.trans (aA.new _ _),fun w hw=>?_⟩;rw[Xx,aAg,aAl]at hw;rcases hw with hw|rfl
   .exact hal2 w hw
   .exact h0
 rintro fr s ⟨f1,f22,Zd,hsn2,Z3,hal2⟩;rw[aAQ]at hal2;have hr:mL g col=true:=by unfold mL;rw[aAT,aBr,aBr];exact⟨fun v hv=>by simpa using hall v hv,fun x hx=>by simpa using hal2 x hx⟩
 (repeat' (first|apply qS|(refine qR (zZ ?_);simp[hr])|(refine zE ?_;intro J hJ;simp[hr];refine zJ hJ ?_)))
 exact Z3
noncomputable def oB(g:Gr)(l:List Int):Led:=dW (aI g.es) g.vs (dW (aI g.es) g.vs [] l) g.vs
def mO(g:Gr):List Int:=(nE (aI g.es) g.vs.length g.vs).reverse
theorem Oy(g:Gr):(mO g).length<=g.vs.length:=by unfold mO;rw[aDU];exact HO _ _ _
theorem Color(g:Gr)(st:St)(hF:GrF g):aB prog 23 [.ag (grL g)] st (Vu st (oB g (mO g))):=by
 have v8:=Oy g;have hv:=hF.l1;have he:=hF.l2;refine zN func23 ntmps23 [.tmp 2] ?_
 (repeat' (first|apply qS|(refine zE ?_;intro J hJ;simp[];refine zJ hJ ?_)))
 (refine zS [] [st.next] [0,2,4,6,8] ?_;intro J hJ;simp[])
 refine qD (Order g _ hF) sS ?_;rintro r s2 ⟨rfl,Xq⟩;have Zk:=Xq.next;simp only[aJ]at Zk;have r8:(st.new (.box 25 2 (grL g))).H st.next=.box 25 2 (grL g):=sS;have p9:=(Xq.H st.next sS).trans r8;refine⟨fun _=>by simp[p9],?_⟩
 (apply aS;simp[p9])
 refine qD (OR g (mO g) 0 s2 oO oO oO) (by simp[mO]) ?_;rintro r s3 ⟨M,rfl,h1,h2,h3,h4⟩;have hG3:=(h4.H st.next oO).trans p9;refine⟨fun _=>by simp[hG3],?_⟩
 (apply aS;simp[hG3];refine zJ hJ ?_)
 (repeat' (refine qR (zZ ?_);simp[]))
 exact⟨M,rfl,oO,h2,h3,((aA.new _ _).trans Xq).trans h4⟩
end Aw
namespace Aw
open Go Go.RowKit Pl Eu
theorem Kq(near:Int->List Int)(left:List Int):∀(l:List Int) (b:Int),(∀ w∈l,w≠0)->(∀ w∈l,dZ near left (bst near left l b)<=dZ near left w)/\(b≠0->dZ near left (bst near left l b)<=dZ near left b)
 |[],b,_=>⟨fun w hw=>(by cases hw),fun _=>aAk _⟩
 |v::l,b,h=>by
  have hv:=h v aAo;have e:bst near left (v::l) b=bst near left l (AU near left b v):=rfl;have hb:AU near left b v≠0/\dZ near left (AU near left b v)<=dZ near left v/\(b≠0->dZ near left (AU near left b v)<=dZ near left b):=by
   unfold AU
   split
   .rename_i k;exact⟨hv,aAk _,fun k2=>k.resolve_left k2⟩
   .rename_i k;rw[aBV]at k;exact⟨k.1,oO,fun _=>aAk _⟩
  obtain⟨i1,i2⟩:=Kq near left l (AU near left b v) fun w hw=>h w (aAj _ hw);have i3:=i2 hb.1;rw[e];refine⟨fun w hw=>?_,fun k=>by have:=hb.2.2 k;omega⟩;rcases aAf.1 hw with rfl|hw
  .have:=hb.2.1;omega
  .exact i1 w hw
section
variable {near:Int->List Int} {vs:List Int} (h0:∀ v∈vs,v≠0)
include h0
theorem FC:∀(n:Nat) (left:List Int),left.Nodup->(∀ v∈left,v∈vs)->left.length<=n->∀ w,w∈nE near n left↔w∈left
 |0,left,_,_,hl,w=>by rw[aAE (by omega:left.length=0)];simp[nE]
 |n+1,left,hn,hs,hl,w=>by
  unfold nE;by_cases Wu:left=[]
  .rw[aAe Wu,Wu]
  .rw[aAa Wu];have hb:bst near left left 0∈left:=(vF near left left 0 (.inl rfl) fun v hv=>hv).resolve_left (En near left left 0 (.inr Wu) fun v hv=>h0 v (hs v hv));have ih:=FC n (left.erase (bst near left left 0)) (hn.erase _) (fun v hv=>hs v (aDL hv)) (by rw[aCM hb];omega) w;rw[aAf,ih,hn.mem_erase_iff];constructor
   .rintro(rfl|⟨_,k⟩)
    .exact hb
    .exact k
   .intro k;by_cases e:w=bst near left left 0
    .exact .inl e
    .exact .inr ⟨e,k⟩
theorem Jb(V2:∀ left:List Int,left.Nodup->(∀ v∈left,v∈vs)->left≠[]->∃ v∈left,dZ near left v<=5):∀(n:Nat) (left:List Int),left.Nodup->(∀ v∈left,v∈vs)->left.length<=n->∀ P v Q,nE near n left=P++v::Q->((near v).filter fun w=>decide (w∈Q)).length<=5
 |0,_,_,_,_,P,v,Q,e=>by simp[nE]at e
 |n+1,left,hn,hs,hl,P,v,Q,e=>by
  unfold nE at e;by_cases Wu:left=[]
  .rw[aAe Wu]at e;simp at e
  .rw[aAa Wu]at e;have hb:bst near left left 0∈left:=(vF near left left 0 (.inl rfl) fun v hv=>hv).resolve_left (En near left left 0 (.inr Wu) fun v hv=>h0 v (hs v hv));have Zk:=hn.erase (bst near left left 0);have I5:∀ v∈left.erase (bst near left left 0),v∈vs:=fun v hv=>hs v (aDL hv);have E0:(left.erase (bst near left left 0)).length<=n:=by rw[aCM hb];omega
   cases P with
   |nil=>
    injection e with e1 e2;subst e1;obtain⟨w,hw,k⟩:=V2 left hn hs Wu;have:=(Kq near left left 0 fun w hw=>h0 w (hs w hw)).1 w hw;have YW:((near (bst near left left 0)).filter fun w=>decide (w∈Q)).length<=dZ near left (bst near left left 0):=by unfold dZ;rw[<- aCB,<- aCB];refine List.countP_mono_left fun x _ hx=>?_;rw[aAL]at hx ⊢;rw[<- e2]at hx;exact aDL ((FC h0 n _ Zk I5 E0 x).1 hx)
    omega
   |cons p P=>injection e with e1 e2;exact Jb V2 n _ Zk I5 E0 P v Q e2
end
def Up(vs:List Int)(done:List Int)(A:Led):Prop:=(∀ p∈A,p.1∈done/\1<=p.2/\p.2<=6)/\∀ v∈done,v∈vs->v∈A.map (·.1)
theorem Pn{A:Led}{u:Int}(h:iY A u≠0):∃ p∈A,p.1=u:=by
 by_cases hm:u∈A.map (·.1)
 .obtain⟨p,hp,e⟩:=aAm.1 hm;exact⟨p,hp,e⟩
 .exact absurd (by unfold iY;rw[nV hm];rfl) h
theorem Hh{near:Int->List Int}{vs:List Int}:∀(todo done:List Int) (A:Led),Up vs done A->(∀ P v Q,todo=P++v::Q->((near v).filter fun w=>decide (w∈done++P)).length<=5)->Up vs (done++todo) (dW near vs A todo)
 |[],done,A,hI,_=>by rw[aAK];exact hI
 |v::todo,done,A,hI,h=>by
  have e:done++v::todo=(done++[v])++todo:=sS;have e2:dW near vs A (v::todo)=dW near vs (dR near vs A v) todo:=rfl;rw[e,e2];refine Hh todo (done++[v]) _ ?_ fun P w Q k=>?_
  .unfold dR
   split
   .rename_i hc;refine⟨fun p hp=>⟨aAt _ (hI.1 p hp).1,(hI.1 p hp).2⟩,fun w hw U4=>?_⟩;rcases aAg.1 hw with k|k
    .exact hI.2 w k U4
    .rw[aAl]at k;subst k;exact hc.resolve_right fun k2=>k2 U4
   .have hf:=yW (iY A) (near v);have hk:=h [] v todo rfl;rw[aAK]at hk;have Xm:fN (iY A) (near v)-1<=((near v).filter fun w=>decide (w∈done)).length:=mZ fun m m1 m2=>by obtain⟨u,hu,hc⟩:=hf.2.2 m m1 (by have:=hf.1;omega);refine⟨u,aAr.2 ⟨hu,?_⟩,hc⟩;obtain⟨p,hp,e⟩:=Pn (A:=A) (u:=u) (by rw[hc];omega);rw[<- e];exact aBB (hI.1 p hp).1
    refine⟨fun p hp=>?_,fun w hw U4=>?_⟩
    .rcases aAg.1 hp with k|k
     .exact⟨aAt _ (hI.1 p k).1,(hI.1 p k).2⟩
     .rw[aAl]at k;subst k;have:=hf.1;exact⟨sS,by show(1:Int)<=(fN (iY A) (near v):Int);omega,by show(fN (iY A) (near v):Int)<=6;omega⟩
    .rw[aAu];rcases aAg.1 hw with k|k
     .exact aAt _ (hI.2 w k U4)
     .rw[aAl]at k;subst k;simp
  .have:=h (v::P) w Q (by rw[k];rfl)
   rwa [show(done++[v])++P=done++v::P by simp]
theorem Bv:∀ {A:Led} {p:Int×Int},(A.map (·.1)).Nodup->p∈A->iY A p.1=p.2
 |q::A,p,hn,hp=>by
  rw[aAi,aAy]at hn;rcases aAf.1 hp with rfl|hp
  .unfold iY;simp[fA]
  .have Wu:¬p.1=q.1:=fun e=>hn.1 (by rw[<- e];exact aAx hp);have ih:=Bv hn.2 hp;unfold iY at ih ⊢;simpa[fA,Wu]using ih
structure RX(near:Int->List Int)(vs:List Int)(A:Led):Prop where
 nd:(A.map (·.1)).Nodup
 pos:∀ p∈A,p.1∈vs/\1<=p.2
 dif:∀ p∈A,∀ q∈A,q.1∈near p.1->p.2≠q.2
section
variable {near:Int->List Int} {vs:List Int} (hs:∀ v w,w∈near v↔v∈near w) (hl:∀ v,v∉near v)
include hs hl
theorem AY:∀(l:List Int) (A:Led),RX near vs A->RX near vs (dW near vs A l)
 |[],A,h=>h
 |v::l,A,h=>by
  show RX near vs (dW near vs (dR near vs A v) l);refine AY l _ ?_;unfold dR
  split
  .exact h
  .rename_i hc;rw[aBV,Decidable.not_not]at hc;have hf:=yW (iY A) (near v);have hd:∀ p∈A,p.1∈near v->p.2≠(fN (iY A) (near v):Int):=fun p hp k=>by rw[<- Bv h.nd hp];exact hf.2.1 p.1 k
   refine⟨?_,fun p hp=>?_,fun p hp q hq k=>?_⟩
   .rw[aAu,aAs];refine⟨h.nd,sS,fun a ha b hb e=>?_⟩;simp only[aAi,aBt,aAl]at hb;subst e hb;exact hc.1 ha
   .rcases aAg.1 hp with k|k
    .exact h.pos p k
    .rw[aAl]at k;subst k;have:=hf.1;exact⟨hc.2,by show(1:Int)<=(fN (iY A) (near v):Int);omega⟩
   .rcases aAg.1 hp with a|a<;>rcases aAg.1 hq with b|b
    .exact h.dif p a q b k
    .rw[aAl]at b;subst b;exact hd p a ((hs p.1 v).1 k)
    .rw[aAl]at a;subst a;exact fun e=>hd q b k e.symm
    .rw[aAl]at a b;subst a b;exact absurd k (hl v)
end
theorem Ge{near:Int->List Int}{vs:List Int}:∀(l:List Int) (A:Led) {v:Int},v∈A.map (·.1)->v∈(dW near vs A l).map (·.1)
 |[],_,_,h=>h
 |w::l,A,v,h=>by
  show v∈(dW near vs (dR near vs A w) l).map (·.1);refine Ge l _ ?_;unfold dR
  split
  .exact h
  .rw[aAu];exact aAt _ h
theorem Gk{near:Int->List Int}{vs:List Int}:∀(l:List Int) (A:Led) {v:Int},v∈l->v∈vs->v∈(dW near vs A l).map (·.1)
 |w::l,A,v,h,hv=>by
  show v∈(dW near vs (dR near vs A w) l).map (·.1);rcases aAf.1 h with rfl|h
  .refine Ge l _ ?_;unfold dR
   split
   .rename_i hc;exact hc.resolve_right fun k=>k hv
   .simp
  .exact Gk l _ h hv
theorem DG{near:Int->List Int}{vs:List Int}:∀(l:List Int) (A:Led),(∀ v∈l,v∈A.map (·.1))->dW near vs A l=A
 |[],_,_=>rfl
 |v::l,A,h=>by
  show dW near vs (dR near vs A v) l=A;have e:dR near vs A v=A:=by unfold dR;rw[aAe (.inl (h v aAo))]
  rw[e];exact DG l A fun w hw=>h w (aAj _ hw)
theorem DX{es:List Ed}(Wu:∀ x∈es,x.a≠x.b)(v:Int):v∉aI es v:=fun h=>by obtain⟨x,hx,k⟩:=iI.1 h;have:=Wu x hx;omega
theorem Kc{g:Gr}(hF:GrF g)(l:List Int):RX (aI g.es) g.vs (oB g l):=AY (nQ g.es) (DX hF.ne) _ _ (AY (nQ g.es) (DX hF.ne) _ _ ⟨sS,sS,sS⟩)
theorem Rb{g:Gr}(hF:GrF g)(l:List Int):(oB g l).length<=g.vs.length:=by
 have hI:=Kc hF l;have:=hI.nd.length_le_of_subset (l₂:=g.vs) fun v hv=>by obtain⟨p,hp,rfl⟩:=aAm.1 hv;exact(hI.pos p hp).1
 rwa [aAz]at this
theorem Dd{g:Gr}(hF:GrF g)(l:List Int):mL g (iY (oB g l))=true:=by
 have hI:=Kc hF l;have hk:∀ v∈g.vs,∃ p∈oB g l,p.1=v:=fun v hv=>by obtain⟨p,hp,e⟩:=aAm.1 (Gk (near:=aI g.es) g.vs (dW (aI g.es) g.vs [] l) hv hv);exact⟨p,hp,e⟩
 unfold mL;rw[aAT,aBr,aBr];refine⟨fun v hv=>?_,fun x hx=>?_⟩
 .obtain⟨p,hp,rfl⟩:=hk v hv;have:=(hI.pos p hp).2;rw[Bv hI.nd hp];exact aBB oO
 .have he:=hF.ends x hx;obtain⟨p,hp,ep⟩:=hk x.a he.1;obtain⟨q,hq,eq⟩:=hk x.b he.2;refine aBB ?_;rw[<- ep,<- eq,Bv hI.nd hp,Bv hI.nd hq];refine hI.dif p hp q hq ?_;rw[ep,eq];exact iI.2 ⟨x,hx,.inl ⟨rfl,rfl⟩⟩
theorem SU{m:Mp}(h:cE m)(hg:Aw.gn m=0)(hF:GrF m.g):∀ p∈oB m.g (mO m.g),1<=p.2/\p.2<=6:=by
 have Wu:∀ x∈m.g.es,x.a≠x.b:=hF.ne;have h0:∀ v∈m.g.vs,v≠0:=fun v hv=>by have:=hF.vpos v hv;omega
 have hn:=h.g.toGood.nodup;have V2:∀ left:List Int,left.Nodup->(∀ v∈left,v∈m.g.vs)->left≠[]->∃ v∈left,dZ (aI m.g.es) left v<=5:=fun left _ hs hl=>by obtain⟨v0,hv0⟩:=aBo left hl;obtain⟨v,_,k1,k2⟩:=Ok h hg (fun w=>decide (w∈left)) (hs v0 hv0) (aBB hv0);refine⟨v,aBR k1,k2 _ ((pK Wu v).filter _) fun w hw=>?_⟩;obtain⟨k3,k4⟩:=aAr.1 hw;refine⟨k4,?_⟩;obtain⟨x,hx,k⟩:=iI.1 k3;exact cM.2 ⟨x,hx,by rcases k with⟨a,b⟩|⟨a,b⟩<;>simp[a,b]⟩
 have hfew2:=Jb (near:=aI m.g.es) h0 V2 m.g.vs.length m.g.vs hn (fun _ k=>k) (aAk _);have Yp:=FC (near:=aI m.g.es) h0 m.g.vs.length m.g.vs hn (fun _ k=>k) (aAk _);have hS:=Hh (near:=aI m.g.es) (vs:=m.g.vs) (mO m.g) [] [] ⟨sS,sS⟩ fun P v Q e=>by
  have e2:nE (aI m.g.es) m.g.vs.length m.g.vs=Q.reverse++v::P.reverse:=by have:=congrArg List.reverse e;unfold mO at this;rw[aDQ]at this;rw[this];simp
  have:=hfew2 _ v _ e2;simpa using this
 have H6:oB m.g (mO m.g)=dW (aI m.g.es) m.g.vs [] (mO m.g):=by unfold oB;refine DG _ _ fun v hv=>hS.2 v ?_ hv;rw[List.nil_append];unfold mO;rw[aCm];exact(Yp v).2 hv
 intro p hp;rw[H6]at hp;exact(hS.1 p hp).2
theorem MT{A:Led}{K:List Int}(hK:sD (A.map (·.2)) K)(h:∀ p∈A,1<=p.2/\p.2<=6):K.length<=6:=by
 have:=hK.1.length_le_of_subset (l₂:=[1,2,3,4,5,6]) fun n hn=>by obtain⟨k,_⟩:=(hK.2 n).1 hn;obtain⟨p,hp,rfl⟩:=aAm.1 k;have:=h p hp;simp only[aAf,aBJ,aDa];omega
 simpa using this
end Aw
namespace Aw
open Go Go.RowKit Pl
theorem OU(st:St):aB prog 40 [] st fun r st'=>r=bb true/\st'=st:=by
 refine zN func40 ntmps40 [.tmp 0] ?_
 (repeat' (first|apply qS|(refine zE ?_;intro J hJ;simp[];(try refine zJ hJ ?_))))
 refine qE (SO _) (by simp[]) ?_;rintro r st' ⟨rfl,rfl⟩
 (repeat' (first|(refine qR (zZ ?_);simp[])|(apply aF;simp[];refine zJ hJ ?_)))
def oU:Gr:=⟨[1,2,3],[⟨1,1,2⟩,⟨2,2,3⟩,⟨3,3,1⟩]⟩
theorem Qb:GrF oU:=⟨by decide,by decide,by decide,by decide,by decide,by decide,by decide,by decide⟩
theorem MD:aI oU.es 1=[2,3]/\aI oU.es 2=[1,3]/\aI oU.es 3=[1,2]:=by decide +kernel
theorem Oh:mO oU=[1,2,3]:=by decide +kernel
theorem QT{col:Int->Int}{l:List Int}{n:Nat}(h:sJ col l n):fN col l=n:=(yW col l).unique h
theorem PT:oB oU [1,2,3]=[(1,1),(2,2),(3,3)]:=by
 obtain⟨n1,n2,n3⟩:=MD;have f1:fN (iY []) [2,3]=1:=QT ⟨by decide,by decide,fun m h1 h2=>by omega⟩
 have f2:fN (iY [(1,1)]) [1,3]=2:=QT ⟨by decide,by decide,fun m h1 h2=>⟨1,by decide,by
  have:m=1:=oO
  subst this;rfl⟩⟩
 have f3:fN (iY [(1,1),(2,2)]) [1,2]=3:=QT ⟨by decide,by decide,fun m h1 h2=>by
  rcases(by omega:m=1\/m=2)with rfl|rfl
  .exact⟨1,by decide,rfl⟩
  .exact⟨2,by decide,rfl⟩⟩
 have g1:dR (aI oU.es) oU.vs [] 1=[(1,1)]:=by unfold dR;rw[aAa (by decide),n1,f1];rfl
 have g2:dR (aI oU.es) oU.vs [(1,1)] 2=[(1,1),(2,2)]:=by unfold dR;rw[aAa (by decide),n2,f2];rfl
 have g3:dR (aI oU.es) oU.vs [(1,1),(2,2)] 3=[(1,1),(2,2),(3,3)]:=by unfold dR;rw[aAa (by decide),n3,f3];rfl
 have g4:∀ v∈[(1:Int),2,3],dR (aI oU.es) oU.vs [(1,1),(2,2),(3,3)] v=[(1,1),(2,2),(3,3)]:=fun v hv=>by unfold dR;rw[aAe (.inl (by simpa using hv))]
 have A3:oU.vs=[1,2,3]:=rfl;unfold oB dW;rw[A3]at g1 g2 g3 g4 ⊢;simp only[List.foldl_cons,List.foldl_nil,g1,g2,g3,g4 1 (by decide),g4 2 (by decide),g4 3 (by decide)]
theorem Rq(st:St):aB prog 22 [] st fun r st'=>r=bb true/\st'=st:=by
 refine(tR (R:=fun v=>v=.bool true) ?_).mono ?_;rotate_left
 .rintro r st' ⟨⟨v,rfl,rfl⟩,rfl⟩;exact⟨rfl,rfl⟩
 generalize YY:(⟨1,fun _=>.dead⟩:St)=st;refine zN func22 ntmps22 [.tmp 0] ?_
 (repeat' (first|apply qS|(refine zE ?_;intro J hJ;simp[];(try refine zJ hJ ?_))))
 have hC:=fun s=>Color oU s Qb;rw[Oh,PT]at hC;refine qF (tJ (by simp only[z0L,z0];exact hC _)) ?_;rintro r s1 ⟨M,rfl,m1,m2,hM,Xp⟩;have Yi:=Xp.next;simp only[aJ,bS]at Yi;have hB:=Xp.H (st.next+1+1) sS;simp at hB
 (repeat' (first|apply qS|((first|(refine zE ?_;intro J hJ)|(apply aF));simp[hB];(try refine zJ hJ ?_))))
 refine qE (TC M [(1,1),(2,2),(3,3)] s1 hM m2 (by decide)) sS ?_;rintro r s2 ⟨⟨K,hK,rfl⟩,Xq⟩;have hKl:K.length=3:=hK.len (l':=[1,2,3]) (K':=[1,2,3]) ⟨by decide,fun n=>by simp;omega⟩ sS;have I8:=(Xq.H (st.next+1+1) oO).trans hB;have Zd:=(Xq.H M m2).trans hM;rw[hKl];have hR:=fun s h1 h2=>QG oU M (clL [(1,1),(2,2),(3,3)]) (iY [(1,1),(2,2),(3,3)]) s (by decide) (by decide) h1 h2 (tV _);have hrb:mL oU (iY [(1,1),(2,2),(3,3)])=true:=by decide +kernel
 rw[hrb]at hR
 (apply aF;simp[I8])
 refine qF (tJ (by simp only[z0L,z0];exact hR s2 Zd (by have:=Xq.next;omega))) ?_;rintro r s3 ⟨rfl,Xv⟩
 (apply aF;simp[])
 refine qE (OU _) (by simp[]) ?_;rintro r st' ⟨rfl,rfl⟩
 (repeat' (first|(refine qR (zZ ?_);simp[])|(apply aF;simp[];refine zJ hJ ?_)))
end Aw
namespace Aw
open Go Go.RowKit Pl Eu
abbrev kA(A:Led)(k:Nat):Int:=(A.getD k (0,0)).1
abbrev pA(A:Led)(k:Nat):Int:=(A.getD k (0,0)).2
theorem wJ{A B:Led}{k:Nat}(h:k<A.length):(A++B).getD k (0,0)=A.getD k (0,0):=by rw[aAc,aAX h,<- aAc]
theorem QO{A:Led}{v:Int}(h:v∈A.map (·.1)):∃ k,k<A.length/\kA A k=v:=by obtain⟨p,hp,rfl⟩:=aAm.1 h;obtain⟨k,hk,rfl⟩:=aAB hp;exact⟨k,hk,by unfold kA;rw[aAc,aAd hk];rfl⟩
section
variable {near:Int->List Int} {may:Int->Bool} {XS to:Int} {vs:List Int}
structure LA(near:Int->List Int)(may:Int->Bool)(XS:Int)(A:Led):Prop where
 nd:(A.map (·.1)).Nodup
 pos:0<A.length
 hd:kA A 0=XS
 par:∀ k,0<k->k<A.length->∃ j,j<k/\kA A j=pA A k/\kA A k∈near (pA A k)/\(pA A k=XS\/may (pA A k)=true)
theorem LA.snoc{A:Led}(h:LA near may XS A){w v:Int}(hw:w∉A.map (·.1))(hv:v∈A.map (·.1))(hn:w∈near v)(hm:v=XS\/may v=true):LA near may XS (A++[(w,v)]):=by
 refine⟨?_,sS,?_,fun k h0 hk=>?_⟩
 .rw[aAu,aAs];exact⟨h.nd,sS,fun a ha b hb e=>hw (by rw[List.map_singleton,aAl]at hb;have hb':b=w:=hb;rw[<- hb',<- e];exact ha)⟩
 .show((A++[(w,v)]).getD 0 (0,0)).1=XS;rw[wJ h.pos];exact h.hd
 .rw[aAh,List.length_singleton]at hk;by_cases hl:k<A.length
  .obtain⟨j,h1,h2,h3,h4⟩:=h.par k h0 hl;refine⟨j,h1,?_,?_,?_⟩
   .show((A++[(w,v)]).getD j (0,0)).1=((A++[(w,v)]).getD k (0,0)).2;rw[wJ hl,wJ oO];exact h2
   .show((A++[(w,v)]).getD k (0,0)).1∈near ((A++[(w,v)]).getD k (0,0)).2;rw[wJ hl];exact h3
   .show((A++[(w,v)]).getD k (0,0)).2=XS\/may ((A++[(w,v)]).getD k (0,0)).2=true;rw[wJ hl];exact h4
  .have e:k=A.length:=oO;have g:(A++[(w,v)]).getD k (0,0)=(w,v):=by rw[e];simp
   obtain⟨j,hj,hjv⟩:=QO hv;refine⟨j,oO,?_,?_,?_⟩
   .show((A++[(w,v)]).getD j (0,0)).1=((A++[(w,v)]).getD k (0,0)).2;rw[wJ hj,g];exact hjv
   .show((A++[(w,v)]).getD k (0,0)).1∈near ((A++[(w,v)]).getD k (0,0)).2;rw[g];exact hn
   .show((A++[(w,v)]).getD k (0,0)).2=XS\/may ((A++[(w,v)]).getD k (0,0)).2=true;rw[g];exact hm
theorem EI{v:Int}(hm:v=XS\/may v=true):∀(row:List Int) (A:Led) (Q:List Int),LA near may XS A->v∈A.map (·.1)->to∉A.map (·.1)->(∀ u∈row,u∈near v)->
 ∃ D Q' hit,dJ may to v ⟨A,Q,false⟩ row=⟨A++D,Q++Q',hit⟩/\LA near may XS (A++D)/\(∀ p∈D,p.1∈row)/\(hit=true->to∈D.map (·.1))/\
  (hit=false->to∉(A++D).map (·.1)/\(∀ u∈row,u∈(A++D).map (·.1))/\(∀ u∈D.map (·.1),may u=true->u∈Q')/\(∀ q∈Q',q∈D.map (·.1)/\may q=true)/\Q'.length<=D.length)
 |[],A,Q,hA,_,ht,_=>⟨[],[],false,by simp[dJ],by simpa using hA,sS,sS,by simpa using ht⟩
 |u::row,A,Q,hA,hv,ht,hr=>by
  have j5:∀ x∈row,x∈near v:=fun x hx=>hr x (aAj _ hx);have e0:dJ may to v ⟨A,Q,false⟩ (u::row)=dJ may to v (fW may to v ⟨A,Q,false⟩ u) row:=rfl;by_cases hu:u∈A.map (·.1)
  .have e1:fW may to v ⟨A,Q,false⟩ u=⟨A,Q,false⟩:=by simp only[fW];rw[aAa sS,aAe hu]
   obtain⟨D,Q',hit,h1,h2,h3,h4,h5⟩:=EI hm row A Q hA hv ht j5;refine⟨D,Q',hit,by rw[e0,e1];exact h1,h2,fun p hp=>aAj _ (h3 p hp),h4,fun h=>?_⟩;obtain⟨k1,k2,k3⟩:=h5 h;refine⟨k1,fun x hx=>?_,k3⟩;rcases aAf.1 hx with rfl|hx
   .rw[aAu];exact aAt _ hu
   .exact k2 x hx
  .have K4:=hA.snoc hu hv (hr u aAo) hm;by_cases hut:u=to
   .have e1:fW may to v ⟨A,Q,false⟩ u=⟨A++[(u,v)],Q,true⟩:=by simp only[fW];rw[aAa sS,aAa hu,aAe hut]
    refine⟨[(u,v)],[],true,?_,K4,sS,by simp[hut],sS⟩;rw[e0,e1,DF _ _ _ rfl,aAK]
   .have e1:fW may to v ⟨A,Q,false⟩ u=⟨A++[(u,v)],if may u=true then Q++[u]else Q,false⟩:=by simp only[fW];rw[aAa sS,aAa hu,aAa hut]
    have e2:(if may u=true then Q++[u]else Q)=Q++if may u=true then [u]else []:=by split<;>simp
    obtain⟨D,Q',hit,h1,h2,h3,h4,h5⟩:=EI hm row (A++[(u,v)]) (Q++if may u=true then [u]else []) K4 (by rw[aAu];exact aAt _ hv) (by
     rw[aAu,aAg];rintro(k|k)
     .exact ht k
     .simp at k;exact hut k.symm) j5
    refine⟨(u,v)::D,(if may u=true then [u]else [])++Q',hit,?_,by simpa using h2,?_,fun h=>?_,fun h=>?_⟩
    .rw[e0,e1,e2,h1];simp
    .intro p hp;rcases aAf.1 hp with rfl|hp
     .exact aAo
     .exact aAj _ (h3 p hp)
    .rw[aAi];exact aAj _ (h4 h)
    .obtain⟨k1,k2,k3,k4,k5⟩:=h5 h;have el:A++(u,v)::D=A++[(u,v)]++D:=sS;rw[el];refine⟨k1,fun x hx=>?_,fun x hx hmx=>?_,fun q hq=>?_,?_⟩
     .rcases aAf.1 hx with rfl|hx
      .simp
      .exact k2 x hx
     .rw[aAi]at hx;rcases aAf.1 hx with e|hx
      .subst e;rw[aAe hmx];simp
      .exact aAI _ (k3 x hx hmx)
     .rw[aAi];rcases aAg.1 hq with hq|hq
      .split at hq
       .rename_i hmu;rw[aAl]at hq;subst hq;exact⟨aAo,hmu⟩
       .cases hq
      .exact⟨aAj _ (k4 q hq).1,(k4 q hq).2⟩
     .rw[aAh,List.length_cons]
      split
      .simp;omega
      .simp;omega
def UL(near:Int->List Int)(may:Int->Bool)(XS:Int)(S:Int->Prop):Prop:=S XS/\∀ v,S v->(v=XS\/may v=true)->∀ w∈near v,S w
theorem NT(K2:∀ v,∀ w∈near v,w∈vs):∀(n:Nat) (A:Led) (Q:List Int),LA near may XS A->to∉A.map (·.1)->(∀ v∈A.map (·.1),v∈vs)->(∀ q∈Q,q∈A.map (·.1)/\(q=XS\/may q=true))->
 (∀ v∈A.map (·.1),v∉Q->(v=XS\/may v=true)->∀ w∈near v,w∈A.map (·.1))->Q.length+vs.length<=n+A.length->
 (∃ A',bfs near may to n A Q=some (some A')/\LA near may XS A'/\to∈A'.map (·.1)/\∀ v∈A'.map (·.1),v∈vs)\/∃ S,UL near may XS S/\¬S to
 |n,A,[],hA,ht,_,_,hc,_=>.inr ⟨fun v=>v∈A.map (·.1),⟨by
   have:=hA.hd;rw[<- this];unfold kA;rw[aAc,aAd hA.pos]
   exact aAx (aAA _),fun v hv hm w hw=>hc v hv sS hm w hw⟩,ht⟩
 |0,A,v::Q,hA,_,hs,_,_,hl=>by have:=aAF hA.nd hs;rw[aAz]at this;rw[List.length_cons]at hl;omega
 |n+1,A,v::Q,hA,ht,hs,hq,hc,hl=>by
  obtain⟨hv,hm⟩:=hq v aAo;obtain⟨D,Q',hit,h1,h2,h3,h4,h5⟩:=EI (to:=to) hm (near v) A Q hA hv ht fun _ h=>h;have I3:∀ x∈(A++D).map (·.1),x∈vs:=fun x hx=>by
   rw[aAu]at hx;rcases aAg.1 hx with hx|hx
   .exact hs x hx
   .obtain⟨p,hp,rfl⟩:=aAm.1 hx;exact K2 _ _ (h3 p hp)
  simp only[bfs,h1];cases hit with
  |true=>exact .inl ⟨_,sS,h2,by rw[aAu];exact aAI _ (h4 rfl),I3⟩
  |false=>
   obtain⟨k1,k2,k3,k4,k5⟩:=h5 rfl;rw[aAa sS];refine NT K2 n (A++D) (Q++Q') h2 k1 I3 (fun q hqm=>?_) (fun u hu hnq hmu w hw=>?_) ?_
   .rw[aAu];rcases aAg.1 hqm with h|h
    .have:=hq q (aAj _ h);exact⟨aAt _ this.1,this.2⟩
    .exact⟨aAI _ (k4 q h).1,.inr (k4 q h).2⟩
   .rw[aAg,aBV]at hnq;by_cases huA:u∈A.map (·.1)
    .by_cases e:u=v
     .subst e;exact k2 w hw
     .rw[aAu];exact aAt _ (hc u huA (by rw[aAf,aBV];exact⟨e,hnq.1⟩) hmu w hw)
    .rw[aAu]at hu;have hD:=(aAg.1 hu).resolve_left huA;rcases hmu with e|hmu
     .exfalso;apply huA;rw[e,<- hA.hd];unfold kA;rw[aAc,aAd hA.pos];exact aAx (aAA _)
     .exact absurd (k3 u hD hmu) hnq.2
   .simp only[aAh,List.length_cons]at hl ⊢;omega
theorem PL:∀ {A:Led},(A.map (·.1)).Nodup->∀ {k:Nat},k<A.length->fA A (kA A k)=some (pA A k)
 |a::A,hn,0,_=>by simp[fA,kA,pA]
 |a::A,hn,k+1,h=>by
  rw[aAi,aAy]at hn;have ih:=PL hn.2 (k:=k) (by simpa using h)
  have Wu:kA A k≠a.1:=fun e=>hn.1 (by
   rw[<- e];unfold kA;rw[aAc,aAd (by simpa using h)]
   exact aAx (aAA _))
  show fA (a::A) (kA A k)=some (pA A k);unfold fA;rw[aAa Wu];exact ih
theorem Sl{A:Led}(hA:LA near may XS A):∀(n k:Nat),k<A.length->k<=n->∃ l,gZ A XS n (kA A k)=some l/\(kA A k::l).getLast (by simp)=XS/\(∀ x y,(x,y)∈lnk (kA A k::l)->x∈near y/\(y=XS\/may y=true))/\
 (∀ y∈l,∃ j,j<k/\kA A j=y)/\(kA A k::l).Nodup:=by
 have hinj:∀ i j,i<A.length->j<A.length->kA A i=kA A j->i=j:=fun i j hi hj e=>by
  have e1:(A.map (·.1))[i]'(by simpa using hi)=(A.map (·.1))[j]'(by simpa using hj):=by unfold kA at e;rw[aAc,aAd hi,aAc,aAd hj]at e;simpa using e
  exact get_inj hA.nd _ _ e1
 have base:∀ n k,k<A.length->kA A k=XS->∃ l,gZ A XS n (kA A k)=some l/\(kA A k::l).getLast (by simp)=XS/\(∀ x y,(x,y)∈lnk (kA A k::l)->x∈near y/\(y=XS\/may y=true))/\(∀ y∈l,∃ j,j<k/\kA A j=y)/\(kA A k::l).Nodup:=fun n k hk e=>by refine⟨[],?_,by simpa using e,fun x y h=>by simp[lnk]at h,sS,sS⟩;cases n<;>simp[gZ,e]
 intro n;induction n with
 |zero=>intro k hk hkn;have:k=0:=oO;subst this;exact base 0 0 hk hA.hd
 |succ n ih=>
  intro k hk hkn;by_cases e:kA A k=XS
  .exact base _ _ hk e
  have h0:0<k:=by
   rcases aDt k with h|h
   .subst h;exact absurd hA.hd e
   .exact h
  obtain⟨j,j1,j2,j3,j4⟩:=hA.par k h0 hk;obtain⟨l,l1,l2,l3,l4,l5⟩:=ih j oO oO;have hb:gZ A XS (n+1) (kA A k)=some (kA A j::l):=by rw[gZ,aAa e,PL hA.nd hk];show(gZ A XS n (pA A k)).map _=_;rw[<- j2,l1];rfl
  refine⟨kA A j::l,hb,?_,fun x y h=>?_,fun y hy=>?_,?_⟩
  .rw[List.getLast_cons sS];exact l2
  .rcases aAf.1 h with h|h
   .injection h with e1 e2;subst e1;subst e2;rw[j2];exact⟨j3,j4⟩
   .exact l3 x y h
  .rcases aAf.1 hy with rfl|hy
   .exact⟨j,j1,rfl⟩
   .obtain⟨i,i1,i2⟩:=l4 y hy;exact⟨i,oO,i2⟩
  .refine aAy.2 ⟨fun hm=>?_,l5⟩;rcases aAf.1 hm with h|h
   .have:=hinj k j hk oO h;omega
   .obtain⟨i,i1,i2⟩:=l4 _ h;have:=hinj i k oO hk i2;omega
theorem KD:∀ {l:List Int} {a y:Int},y∈l->∃ x,(x,y)∈lnk (a::l)
 |b::l,a,y,h=>by
  rcases aAf.1 h with rfl|h
  .exact⟨a,by simp[lnk]⟩
  .obtain⟨x,hx⟩:=KD (a:=b) h;exact⟨x,aAj _ hx⟩
theorem JX(K2:∀ v,∀ w∈near v,w∈vs)(hf:XS∈vs)(ht:to∈vs)(Wu:XS≠to){n:Nat}(hn:vs.length+1<=n)(hr:∀ S,UL near may XS S->S to):
 ∃ w,tP vs near may XS to n=some w/\w.Nodup/\2<=w.length/\w.length<=vs.length/\(∀ v∈w,v∈vs)/\w.getD 0 0=XS/\w.getD (w.length-1) 0=to/\(∀ x y,(x,y)∈lnk w->y∈near x)/\∀ v∈fD w,may v=true:=by
 have hA0:LA near may XS [(XS,XS)]:=⟨sS,sS,rfl,fun k h0 hk=>by simp at hk;omega⟩;rcases NT (may:=may) (to:=to) K2 n [(XS,XS)] [XS] hA0 (by simpa using fun e=>Wu e.symm) (by simpa using hf) sS (fun v hv hnq=>by simp at hv;exact absurd (by simp[hv]) hnq) (by simp;omega)with⟨A,h1,hA,h2,h3⟩|⟨S,h1,h2⟩;rotate_left
 .exact absurd (hr S h1) h2
 obtain⟨k,hk,hkt⟩:=QO h2;have hl:A.length<=vs.length:=by
  have:=aAF hA.nd h3
  rwa [aAz]at this
 obtain⟨l,l1,l2,l3,l4,l5⟩:=Sl hA n k hk oO;rw[hkt]at l1 l2 l3 l5;have Xl:∀ v∈to::l,v∈vs:=fun v hv=>by
  rcases aAf.1 hv with rfl|hv
  .exact ht
  .obtain⟨j,j1,rfl⟩:=l4 v hv;refine h3 _ ?_;unfold kA;rw[aAc,aAd oO];exact aAx (aAA _)
 have hlne:l≠[]:=by rintro rfl;simp at l2;exact Wu l2.symm
 have hw:tP vs near may XS to n=some (to::l).reverse:=by unfold tP;rw[aAa (by simp[hf,ht]),aAa Wu,h1];show(gZ A XS n to).map _=_;rw[l1];rfl
 have hnd:((to::l).reverse).Nodup:=(aDg _).nodup_iff.2 l5;have hlen:2<=((to::l).reverse).length:=by have:=aBb.2 hlne;rw[aDU,List.length_cons];omega
 have g0:((to::l).reverse).getD 0 0=XS:=by
  have e:(to::l)=(to::l).dropLast++[XS]:=by rw[<- l2,List.dropLast_concat_getLast]
  rw[e,aET];rfl
 have g1:((to::l).reverse).getD (((to::l).reverse).length-1) 0=to:=by rw[aDU,List.length_cons,aBU,aCI,aAc,aBk sS];simp
 refine⟨_,hw,hnd,hlen,?_,fun v hv=>Xl v (aCm.1 hv),g0,g1,fun x y h=>?_,fun v hv=>?_⟩
 .exact aAF hnd fun v hv=>Xl v (aCm.1 hv)
 .rw[(oI _).mem_iff,aAm]at h;obtain⟨q,hq,e⟩:=h;have:q=(y,x):=by rw[<- aED q,e];rfl
  rw[this]at hq;exact(l3 y x hq).1
 .have hs:=xI hlen;rw[g0,g1]at hs;have hv2:=pC hv;have Zp:v∈to::l:=aCm.1 hv2;rw[hs]at hnd;have n1:v≠XS:=fun e=>(aAy.1 hnd).1 (by rw[<- e];exact aAt _ hv);have n2:v≠to:=fun e=>(aAs.1 (aAy.1 hnd).2).2.2 v hv to sS e;have hv3:v∈l:=(aAf.1 Zp).resolve_left n2;obtain⟨x,hx⟩:=KD (a:=to) hv3;exact(l3 x v hx).2.resolve_left n1
end
abbrev BsT:=List (List Ed×List (List Int))
structure Sys(g:Gr)(Bs:BsT):Prop where
 gE:GoodE g
 ok:∀ p∈Bs,jH p.1 p.2/\BlE p.1/\p.1≠[]
 flat:(Bs.flatMap (·.1)).Perm (sE g.es)
theorem yX{α β:Type}{f:α->List β}:∀ {l:List α},(l.flatMap f).Nodup->∀ x∈l,∀ y∈l,∀ z,z∈f x->z∈f y->x=y
 |[],_,_,hx,_,_,_,_,_=>by cases hx
 |a::l,hn,x,hx,y,hy,z,h1,h2=>by
  rw[aAC,aAs]at hn;rcases aAf.1 hx with ex|hx
  .rcases aAf.1 hy with ey|hy
   .rw[ex,ey]
   .exact absurd rfl (hn.2.2 z (by rw[<- ex];exact h1) z (aAR.2 ⟨y,hy,h2⟩))
  .rcases aAf.1 hy with ey|hy
   .exact absurd rfl (hn.2.2 z (by rw[<- ey];exact h2) z (aAR.2 ⟨x,hx,h1⟩))
   .exact yX hn.2.1 x hx y hy z h1 h2
theorem QY{α β:Type}{f:α->List β}:∀ {l:List α},(l.flatMap f).Nodup->(∀ x∈l,f x≠[])->l.Nodup/\∀ x∈l,(f x).Nodup
 |[],_,_=>⟨.nil,fun _ h=>by cases h⟩
 |a::l,hn,h=>by
  rw[aAC,aAs]at hn;obtain⟨k1,k2⟩:=QY hn.2.1 fun x hx=>h x (aAj _ hx);refine⟨aAy.2 ⟨fun ha=>?_,k1⟩,fun x hx=>?_⟩
  .obtain⟨z,hz⟩:=aBo _ (h a aAo);exact hn.2.2 z hz z (aAR.2 ⟨a,ha,hz⟩) rfl
  .rcases aAf.1 hx with rfl|hx
   .exact hn.1
   .exact k2 x hx
theorem oJ{E:List Ed}{F:List (List Int)}(hO:jH E F)(hE:BlE E){v:Int}(hv:v∉vsF E):dA v (aY F)=[]:=by
 have hk:=(hO.keys hE v).2;cases h:dA v (aY F) with
 |nil=>rfl
 |cons p P=>rw[h]at hk;obtain⟨e,he,hp⟩:=(hO.mem p.1 v).1 ((hk p.1).1 sS);exact absurd (gV he hp).2 hv
def rgO(Bs:BsT)(p:Int×Int):List (Int×Int):=match(Bs.flatMap (·.2)).find? (fun r=>decide (p∈prs r)) with
 |some r=>prs r
 |none=>[]
def lab(g:Gr)(Bs:BsT)(d:Int):List (Int×Int) ⊕ Int:=
 if(seg g (dvt g d) (dot g d)).head?=some d then .inl (rgO Bs (dvt g d,dot g d))else .inr (max (d / 2) (pv (seg g (dvt g d) (dot g d)) d / 2))
def grp(g:Gr)(Bs:BsT):List (List (List Int)):=g.vs.map fun v=>Bs.map fun p=>bt g p.2 v
def kJ(g:Gr)(Bs:BsT)(v:Int):List Int:=Bs.flatMap fun p=>bt g p.2 v
theorem Gt(g:Gr)(Bs:BsT):(grp g Bs).map List.flatten=g.vs.map (kJ g Bs):=by unfold grp kJ;rw[aBd];exact aAU fun v _=>by rw[Function.comp_apply,List.flatMap_def]
section
variable {g:Gr} {Bs:BsT} (hS:Sys g Bs)
include hS
theorem Sys.sim:(Bs.flatMap fun p=>p.1.map prE).Nodup:=by
 have:=(hS.flat.map prE).nodup_iff.2 (AG g.es)
 rwa [aEk]at this
theorem Sys.nd:Bs.Nodup:=(QY hS.sim fun p hp=>by rw[Ne,aCP];exact(hS.ok p hp).2.2).1
theorem Sys.same{p p':List Ed×List (List Int)}(hp:p∈Bs)(ZY:p'∈Bs){e e':Ed}(he:e∈p.1)(F8:e'∈p'.1)(h:prE e=prE e'):p=p':=
 yX hS.sim p hp p' ZY (prE e) (aAx he) (by rw[h];exact aAx F8)
theorem Sys.blk{e:Ed}(he:e∈g.es):∃ p∈Bs,∃ e1∈p.1,prE e1=prE e:=by obtain⟨y,h1,h2,_⟩:=BR hS.gE.ids e he;obtain⟨p,hp,hy⟩:=aAR.1 (hS.flat.mem_iff.2 h1);exact⟨p,hp,y,hy,h2⟩
theorem Sys.sub{p:List Ed×List (List Int)}(hp:p∈Bs){e:Ed}(he:e∈p.1):e∈sE g.es/\e∈g.es:=by have:=hS.flat.mem_iff.1 (aAR.2 ⟨p,hp,he⟩);exact⟨this,mK _ _ this⟩
theorem Sys.bt_mem{p:List Ed×List (List Int)}(hp:p∈Bs){v d:Int}:d∈bt g p.2 v↔∃ e∈g.es,(∃ x,prE e=prP v x)/\d=dAt v e/\∃ e1∈p.1,prE e1=prE e:=by
 obtain⟨hO,hE,h0⟩:=hS.ok p hp;by_cases hv:v∈vsF p.1
 .have hR:=(hO.round hE h0 hv).2.2.1;unfold bt;rw[aAR];constructor
  .rintro⟨x,hx,hd⟩;obtain⟨e,he,ZZ,rfl⟩:=jT.1 hd;obtain⟨e1,J3,ZB⟩:=(hR x).1 hx;exact⟨e,he,⟨x,ZZ⟩,rfl,e1,J3,by rw[ZB,ZZ]⟩
  .rintro⟨e,he,⟨x,ZZ⟩,rfl,e1,J3,ZB⟩;exact⟨x,(hR x).2 ⟨e1,J3,by rw[ZB,ZZ]⟩,jT.2 ⟨e,he,ZZ,rfl⟩⟩
 .unfold bt;rw[oJ hO hE hv,mT];simp only[aDI,aBJ,false_iff];rintro⟨e,he,⟨x,ZZ⟩,_,e1,J3,ZB⟩;exact hv (gV J3 (by rw[ZB,ZZ])).1
theorem Sys.bt_nodup{p:List Ed×List (List Int)}(hp:p∈Bs)(v:Int):(bt g p.2 v).Nodup:=by
 obtain⟨hO,hE,h0⟩:=hS.ok p hp;unfold bt;by_cases hv:v∈vsF p.1
 .refine iX (hO.round hE h0 hv).1 (fun x _=>mX hS.gE v x) fun x _ y _ d h1 h2=>?_;rw[<- (yI hS.gE h1).2,(yI hS.gE h2).2]
 .rw[oJ hO hE hv,mT];exact .nil
theorem Sys.turn_nodup(v:Int):(kJ g Bs v).Nodup:=by refine iX hS.nd (fun p hp=>hS.bt_nodup hp v) fun p hp p' ZY d h1 h2=>?_;obtain⟨e,he,_,k1,e1,a1,a2⟩:=(hS.bt_mem hp).1 h1;obtain⟨f,hf,_,k2,f1,b1,b2⟩:=(hS.bt_mem ZY).1 h2;have:e=f:=Ow hS.gE he hf (by rw[<- jE v e,<- k1,k2,jE]);subst this;exact hS.same hp ZY a1 b1 (by rw[a2,b2])
theorem Sys.turn_mem{v d:Int}:d∈kJ g Bs v↔d∈ends g.es v:=by
 unfold kJ;rw[PE hS.gE,aAR];constructor
 .rintro⟨p,hp,h⟩;obtain⟨e,he,hx,hd,_⟩:=(hS.bt_mem hp).1 h;exact⟨e,he,hx,hd⟩
 .rintro⟨e,he,hx,hd⟩;obtain⟨p,hp,e1,h1,h2⟩:=hS.blk he;exact⟨p,hp,(hS.bt_mem hp).2 ⟨e,he,hx,hd,e1,h1,h2⟩⟩
theorem Sys.turn_perm(v:Int):(kJ g Bs v).Perm (ends g.es v):=
 (aAZ (hS.turn_nodup v) (iN (rI hS.gE.ids v))).2 fun _=>hS.turn_mem
theorem Sys.grp_ff:(grp g Bs).flatten.flatten=g.vs.flatMap (kJ g Bs):=by rw[<- lB,Gt,List.flatMap_def]
theorem Sys.grp_nd:(grp g Bs).flatten.flatten.Nodup:=by rw[hS.grp_ff];refine iX hS.gE.toGood.nodup (fun v _=>hS.turn_nodup v) fun v _ w _ d h1 h2=>?_;exact dD hS.gE.ids (hS.turn_mem.1 h1) (hS.turn_mem.1 h2)
theorem Sys.grp_mem{d:Int}:d∈(grp g Bs).flatten.flatten↔d∈aO g.es:=by
 rw[hS.grp_ff,aAR];constructor
 .rintro⟨v,_,h⟩;exact kG (hS.turn_mem.1 h)
 .intro h;obtain⟨v,h1,x,hx,_,h2⟩:=EE h;have:=hS.gE.ends x hx;exact⟨v,by rcases h2 with rfl|rfl;(· exact this.1);(· exact this.2),hS.turn_mem.2 h1⟩
theorem Sys.ring_at{p:List Ed×List (List Int)}(hp:p∈Bs){r:List Int}(hr:r∈p.2){q:Int×Int}(hq:q∈prs r):rgO Bs q=prs r:=by
 unfold rgO;cases hf:(Bs.flatMap (·.2)).find? fun r=>decide (q∈prs r) with
 |none=>exact absurd hq (by simpa using aCF.1 hf r (aAR.2 ⟨p,hp,hr⟩))
 |some r'=>have h1:=aCr hf;have h2:=aDq hf;rw[aAL]at h2;obtain⟨p',ZY,j5⟩:=aAR.1 h1;obtain⟨e,he,k⟩:=((hS.ok p hp).1.mem q.1 q.2).1 (gN.2 ⟨r,hr,hq⟩);obtain⟨e',F8,k'⟩:=((hS.ok p' ZY).1.mem q.1 q.2).1 (gN.2 ⟨r',j5,h2⟩);have:=hS.same hp ZY he F8 (by rw[k,k']);subst this;have:=yX (f:=prs) (hS.ok p hp).1.nd r hr r' j5 q hq h2;rw[this]
theorem Sys.lab_inv{d:Int}(hd:d∈aO g.es):lab g Bs (sgR (grp g Bs).flatten (al g.es d))=lab g Bs d:=by
 have hg:=hS.gE;rw[kP hd];obtain⟨e,he,ZZ,hde,G6⟩:=PI hg hd;have hlab:lab g Bs d=if(seg g (dvt g d) (dot g d)).head?=some d then .inl (rgO Bs (dvt g d,dot g d))else .inr (max (d / 2) (pv (seg g (dvt g d) (dot g d)) d / 2)):=rfl
 rw[hlab];generalize dvt g d=v at *;generalize dot g d=x at *;obtain⟨p,hp,e1,J3,ZB⟩:=hS.blk he;obtain⟨hO,hE,h0⟩:=hS.ok p hp;have hxv:prE e1=prP x v:=by rw[ZB,ZZ];exact bL _ _
 have hx:=(gV J3 hxv).1;obtain⟨r1,r2,r3,r4⟩:=hO.round hE h0 hx;have hvR:=(r3 v).2 ⟨e1,J3,hxv⟩;have Wu:v≠x:=fun k=>by have:=hg.ne e he;rcases cH ZZ with⟨k1,k2⟩|⟨k1,k2⟩<;>omega
 have htw:tw d∈seg g x v:=jT.2 ⟨e,he,by rw[ZZ];exact bL _ _,by rw[hde];exact NR hg he ZZ⟩;have hxg:x∈g.vs:=by
  have:=hg.ends e he;rcases cH ZZ with⟨_,k2⟩|⟨k1,_⟩
  .rw[<- k2];exact this.2
  .rw[<- k1];exact this.1
 have RN:bt g p.2 x∈(grp g Bs).flatten:=aAY.2 ⟨_,aAx (f:=fun v=>Bs.map fun p=>bt g p.2 v) hxg,aAx (f:=fun p:List Ed×List (List Int)=>bt g p.2 x) hp⟩;have htr:tw d∈bt g p.2 x:=by unfold bt;exact aAR.2 ⟨v,hvR,htw⟩
 rw[fQ hS.grp_nd RN htr];have hbn:=hS.bt_nodup hp x;have hseg:∀ y∈cA (dA x (aY p.2)),seg g x y≠[]:=fun y hy=>by obtain⟨f,hf,hpf⟩:=(r3 y).1 hy;exact aCo (jT.2 ⟨f,(hS.sub hp hf).2,hpf,rfl⟩)
 obtain⟨n1,n2⟩:=Tf r1 hbn hseg hvR;have R7:=mX hg v x;have N7:=mX hg x v;obtain⟨P,Q,hL⟩:=aCd G6;have hL':seg g x v=(Q.map tw).reverse++tw d::(P.map tw).reverse:=by rw[Ub hg Wu,hL];simp
 show lab g Bs (nx (bt g p.2 x) (tw d))=_;rcases aDj P with hP|⟨P',y,hP⟩
 .subst hP;rw[aBt,List.reverse_nil]at hL';obtain⟨z,q,hz,hzz⟩:=n2 _ _ hL';have hw:=(r4 v hvR);have I2:nx (bt g p.2 x) (tw d)=z:=hzz;rw[I2,aAe (by rw[hL];rfl)];have hzs:z∈seg g x (nx (cA (dA x (aY p.2))) v):=by rw[hz];exact aAo
  obtain⟨z1,z2⟩:=yI hg hzs;unfold lab;rw[z1,z2,hz,aAe (show(z::q).head?=some z from rfl)];obtain⟨r,hr,k1,k2⟩:=hw;rw[hS.ring_at hp hr k1,hS.ring_at hp hr k2]
 .rw[hP,aDk,aAD,List.singleton_append]at hL;have U5:seg g x v=(Q.map tw).reverse++tw d::tw y::(P'.map tw).reverse:=by rw[hL',hP];simp
  have I2:nx (bt g p.2 x) (tw d)=tw y:=n1 _ _ _ _ U5;rw[I2];have N0:tw y∈seg g x v:=by rw[U5];simp
  obtain⟨z1,z2⟩:=yI hg N0;have h1:¬(seg g v x).head?=some d:=by
   rw[hL]at R7 ⊢;intro k;cases P' with
   |nil=>simp at k;subst k;simp at R7
   |cons a P'=>simp at k;subst k;simp at R7
  have h2:¬(seg g x v).head?=some (tw y):=by
   rw[U5]at N7 ⊢;intro k;cases hQ:(Q.map tw).reverse with
   |nil=>rw[hQ]at k N7;simp at k;rw[k]at N7;simp at N7
   |cons a Q'=>rw[hQ]at k N7;simp at k;rw[k]at N7;simp at N7
  rw[aAa h1];unfold lab;rw[z1,z2,aAa h2];have p1:pv (seg g v x) d=y:=by rw[hL];rw[hL]at R7;exact Iu R7
  have p2:pv (seg g x v) (tw y)=tw d:=by rw[U5];rw[U5]at N7;exact Iu N7
  rw[p1,p2,Eo,Eo,Int.max_comm]
theorem Sys.faces:(Bs.flatMap (·.2)).length+(g.es.length-(sE g.es).length)<=fcs (al g.es) (aO g.es) (grp g Bs).flatten:=by
 have hg:=hS.gE;let X1:List (List (Int×Int) ⊕ Int):=(Bs.flatMap (·.2)).map fun r=>.inl (prs r);let X2:List (List (Int×Int) ⊕ Int):=(g.es.filter fun e=>!decide (e∈sE g.es)).map fun e=>.inr e.id;have hlen:(X1++X2).length=(Bs.flatMap (·.2)).length+(g.es.length-(sE g.es).length):=by
  have hn:g.es.Nodup:=hg.ids.imp fun {a b} h e=>by rw[e]at h;omega
  have h1:(g.es.filter fun e=>decide (e∈sE g.es)).length+(g.es.filter fun e=>!decide (e∈sE g.es)).length=g.es.length:=by
   have:∀ l:List Ed,(l.filter fun e=>decide (e∈sE g.es)).length+(l.filter fun e=>!decide (e∈sE g.es)).length=l.length:=by
    intro l;induction l with
    |nil=>rfl
    |cons a l ih=>by_cases h:a∈sE g.es<;>simp[h]at ih ⊢<;>omega
   exact this _
  have h2:(g.es.filter fun e=>decide (e∈sE g.es)).length=(sE g.es).length:=by
   refine((aAZ (hn.sublist aBp) ?_).2 fun e=>?_).length_eq
   .have:=AG g.es;exact(aAV.1 this).imp fun {a b} h e=>h (by rw[e])
   .rw[aAr,aAL];exact⟨And.right,fun h=>⟨mK _ _ h,h⟩⟩
  rw[aAh,aAz,aAz];omega
 rw[<- hlen];unfold fcs;have YH:∀ d,d∈aO g.es->lab g Bs (sgR (grp g Bs).flatten (al g.es d))=lab g Bs d:=fun d hd=>hS.lab_inv hd;have Xl:∀ d,d∈aO g.es->sgR (grp g Bs).flatten (al g.es d)∈aO g.es:=fun d hd=>by have h1:al g.es d∈aO g.es:=(EP _ _ _).2 hd;exact hS.grp_mem.1 ((lA hS.grp_nd).mem _ (hS.grp_mem.2 h1))
 refine lH (lab g Bs) (fun x hx y _ ho=>?_) (X1++X2) ?_ fun a ha=>?_
 .have key:∀ n,it (fun d=>sgR (grp g Bs).flatten (al g.es d)) n x∈aO g.es/\lab g Bs (it (fun d=>sgR (grp g Bs).flatten (al g.es d)) n x)=lab g Bs x:=by
   intro n;induction n with
   |zero=>exact⟨hx,rfl⟩
   |succ n ih=>rw[cJ];exact⟨Xl _ ih.1,by rw[YH _ ih.1,ih.2]⟩
  obtain⟨n,hn⟩:=ho;rw[<- hn];exact(key n).2.symm
 .refine aAs.2 ⟨?_,?_,?_⟩
  ·
   have hpf:((Bs.flatMap (·.2)).flatMap prs).Nodup:=by rw[List.flatMap_assoc];refine iX hS.nd (fun p hp=>(hS.ok p hp).1.nd) fun p hp p' ZY q h1 h2=>?_;obtain⟨e,he,k⟩:=((hS.ok p hp).1.mem q.1 q.2).1 h1;obtain⟨e',F8,k'⟩:=((hS.ok p' ZY).1.mem q.1 q.2).1 h2;exact hS.same hp ZY he F8 (by rw[k,k'])
   have Wu:∀ r∈Bs.flatMap (·.2),prs r≠[]:=fun r hr e=>by obtain⟨p,hp,hr⟩:=aAR.1 hr;have h1:=(hS.ok p hp).1.ne r hr;have h2:=qU r;rw[e]at h2;exact h1 (aCR.1 h2.symm)
   have hnd:=(QY hpf Wu).1;show(List.map _ _).Nodup;unfold List.Nodup;rw[aAV];refine hnd.imp_of_mem fun {r r'} hr j5 M8 e=>M8 ?_;injection e with e;obtain⟨z,hz⟩:=aBo _ (Wu r hr);exact yX hpf r hr r' j5 z hz (by rw[<- e];exact hz)
  .show(List.map _ _).Nodup;unfold List.Nodup;rw[aAV];refine(hg.ids.sublist aBp).imp fun {a b} h e=>?_;injection e with e;omega
  .rintro a h1 b h2 rfl;obtain⟨r,_,k1⟩:=aAm.1 h1;obtain⟨e,_,k2⟩:=aAm.1 h2;rw[<- k1]at k2;cases k2
 .rcases aAg.1 ha with ha|ha
  .obtain⟨r,hr,rfl⟩:=aAm.1 ha;obtain⟨p,hp,hr⟩:=aAR.1 hr;obtain⟨hO,hE,h0⟩:=hS.ok p hp;obtain⟨v,hv⟩:=aBo _ (hO.ne r hr);obtain⟨x,hx⟩:=JS hv;obtain⟨e1,J3,ZB⟩:=(hO.mem v x).1 (gN.2 ⟨r,hr,hx⟩);have hs:seg g v x≠[]:=aCo (jT.2 ⟨e1,(hS.sub hp J3).2,ZB,rfl⟩);obtain⟨d,q,hd⟩:=aCj hs;have G6:d∈seg g v x:=by rw[hd];exact aAo
   obtain⟨k1,k2⟩:=yI hg G6;refine⟨d,Hp hg G6,?_⟩;unfold lab;rw[k1,k2,hd,aAe (show(d::q).head?=some d from rfl),hS.ring_at hp hr hx]
  .obtain⟨e,he,rfl⟩:=aAm.1 ha;rw[aAr]at he;obtain⟨he,YD⟩:=he;have YD:e∉sE g.es:=by simpa using YD
   obtain⟨f,hf,hpf,Xm⟩:=BR hg.ids e he;have hfe:f≠e:=fun k=>YD (by rw[<- k];exact hf);have hfg:=mK _ _ hf;have GD:f.id<e.id:=by
    rcases Int.lt_or_eq_of_le Xm with h|h
    .exact h
    .exact absurd (Ow hg hfg he h) hfe
   obtain⟨v,x,hvx,ZZ⟩:∃ v x,v<x/\prE e=prP v x:=by
    have:=hg.ne e he;rcases Int.lt_or_gt_of_ne this with h|h
    .exact⟨e.a,e.b,h,rfl⟩
    .exact⟨e.b,e.a,h,bL _ _⟩
   have hseg:seg g v x=(jK g v x).map (dAt v):=by unfold seg eS;rw[aAa oO];rfl
   have heb:e∈jK g v x:=oA.2 ⟨he,ZZ⟩;have hfb:f∈jK g v x:=oA.2 ⟨hfg,by rw[hpf,ZZ]⟩;have X9:(jK g v x).Pairwise fun a b=>a.id<b.id:=hg.ids.sublist aBp;obtain⟨A,B,hAB⟩:=aCd heb;have hfA:f∈A:=by
    rw[hAB]at hfb X9;rcases aAg.1 hfb with h|h
    .exact h
    .rcases aAf.1 h with h|h
     .exact absurd h hfe
     .have:=(aBg.1 (aBw.1 X9).2.1).1 f h;omega
   rcases aDj A with hA|⟨A',y,hA⟩
   .rw[hA]at hfA;cases hfA
   rw[aDk]at hA;have hL:seg g v x=A'.map (dAt v)++dAt v y::dAt v e::B.map (dAt v):=by rw[hseg,hAB,hA];simp
   have R7:=mX hg v x;have hye:y.id<e.id:=by rw[hAB,hA]at X9;exact(aBw.1 X9).2.2 y sS e sS
   have G6:dAt v e∈seg g v x:=by rw[hL];simp
   obtain⟨k1,k2⟩:=yI hg G6;refine⟨dAt v e,Hp hg G6,?_⟩;unfold lab;rw[k1,k2,aAa,show pv (seg g v x) (dAt v e)=dAt v y by rw[hL];rw[hL]at R7;exact Iu R7,jE,jE,Int.max_eq_left oO];rw[hL]at R7 ⊢;intro k;cases A' with
   |nil=>simp at k;rw[k]at R7;simp at R7
   |cons a A'=>simp at k;rw[aAi,k]at R7;simp at R7
end
def oth(x:Ed)(v:Int):Int:=if x.a=v then x.b else x.a
abbrev eAt(es:List Ed)(i:Nat):Ed:=es.getD i ed0
def atP(es:List Ed)(v:Int):List Nat:=(List.range es.length).filter fun i=>decide ((eAt es i).a=v\/(eAt es i).b=v)
structure Bw where
 vis:List Int
 low:List Int
 stk:List Nat
 out:List (List Nat)
def nmW(V:List Int)(v:Int):Int:=if v∈V then(V.idxOf v:Int)+1 else 0
def lwW(s:Bw)(v:Int):Int:=s.low.getD (s.vis.idxOf v) 0
def nM(s:Bw)(v x:Int):Bw:={ s with low:=s.low.set (s.vis.idxOf v) x }
def eF(s:Bw)(i:Nat):Bw:={ s with stk:=s.stk++[i] }
def jG(l:List Nat)(i:Nat):Nat:=l.length-1-l.reverse.idxOf i
def sR(n:Nat)(seg:List Nat):List Nat:=(List.range n).filter fun i=>decide (i∈seg)
def Fj(n:Nat)(s:Bw)(i:Nat):Option Bw:=if i∈s.stk then some { s with stk:=s.stk.take (jG s.stk i),out:=s.out++[sR n (s.stk.drop (jG s.stk i))] } else none
def goB(f:Bw->Nat->Option Bw):List Nat->Bw->Option Bw
 |[],s=>some s
 |i::l,s=>(f s i).bind (goB f l)
def LM(n:Nat)(v mine:Int)(i:Nat)(u:Int)(s1:Bw):Option Bw:=
 if mine<=lwW s1 u then Fj n (nM s1 v (min (lwW s1 v) (lwW s1 u))) i else some (nM s1 v (min (lwW s1 v) (lwW s1 u)))
def gQ(rec:Int->Int->Bw->Option Bw)(es:List Ed)(v YJ mine:Int)(s:Bw)(i:Nat):Option Bw:=
 if(i:Int)=YJ then some s
 else if oth (eAt es i) v∈s.vis then
  (if nmW s.vis (oth (eAt es i) v)<mine then some (nM (eF s i) v (min (lwW s v) (nmW s.vis (oth (eAt es i) v))))else some s)
 else(rec (oth (eAt es i) v) i (eF s i)).bind (LM es.length v mine i (oth (eAt es i) v))
def oR(s:Bw)(v:Int):Bw:={ s with vis:=s.vis++[v],low:=s.low++[(s.vis.length:Int)+1] }
def nT(es:List Ed):Nat->Int->Int->Bw->Option Bw
 |0,_,_,_=>none
 |n+1,v,YJ,s=>goB (gQ (nT es n) es v YJ ((s.vis.length:Int)+1)) (atP es v) (oR s v)
def wL(es:List Ed)(n:Nat):List Int->Bw->Option Bw
 |[],s=>some s
 |v::l,s=>if v∈s.vis then wL es n l s else(nT es n v (-1) s).bind (wL es n l)
inductive RIn(es:List Ed)(S:Int->Prop)(x:Int):Int->Prop
 |refl (h:S x):RIn es S x x
 |step {y z:Int} (h:RIn es S x y) (hz:z∈nbr es y) (hs:S z):RIn es S x z
theorem RIn.here{es:List Ed}{S:Int->Prop}{x y:Int}(h:RIn es S x y):S x/\S y:=by
 induction h with
 |refl h=>exact⟨h,h⟩
 |step _ _ hs ih=>exact⟨ih.1,hs⟩
theorem RIn.trans{es:List Ed}{S:Int->Prop}{x y z:Int}(h:RIn es S x y)(k:RIn es S y z):RIn es S x z:=by
 induction k with
 |refl=>exact h
 |step _ hz hs ih=>exact .step ih hz hs
theorem RIn.symm{es:List Ed}{S:Int->Prop}{x y:Int}(h:RIn es S x y):RIn es S y x:=by
 induction h with
 |refl h=>exact .refl h
 |step h hz hs ih=>exact(RIn.step (.refl hs) (pJ hz) h.here.2).trans ih
theorem RIn.mono{es:List Ed}{S S':Int->Prop}{x y:Int}(h:RIn es S x y)(hS:∀ z,S z->S' z):RIn es S' x y:=by
 induction h with
 |refl h=>exact .refl (hS _ h)
 |step _ hz hs ih=>exact .step ih hz (hS _ hs)
theorem RIn.closed{es:List Ed}{S L:Int->Prop}{x y:Int}(h:RIn es S x y)(hx:L x)(hc:∀ z,L z->∀ w∈nbr es z,S w->L w):L y:=by
 induction h with
 |refl=>exact hx
 |step h hz hs ih=>exact hc _ ih _ hz hs
def QN(es:List Ed)(w:Int)(x y:Ed):Prop:=(x.a=w\/x.b=w)/\(y.a=w\/y.b=w)/\RIn es (·≠w) (oth x w) (oth y w)
def Hg(es:List Ed)(x y:Ed):Prop:=∃ w,QN es w x y
theorem Hg.symm{es:List Ed}{x y:Ed}:Hg es x y->Hg es y x:=fun⟨w,h1,h2,h3⟩=>⟨w,h2,h1,h3.symm⟩
inductive mH(es:List Ed)(i:Nat):Nat->Prop
 |refl:mH es i i
 |step {j k:Nat} (h:mH es i j) (hj:j<es.length) (hk:k<es.length) (hr:Hg es (eAt es j) (eAt es k)):mH es i k
theorem mH.trans{es:List Ed}{i j k:Nat}(h:mH es i j)(h2:mH es j k):mH es i k:=by
 induction h2 with
 |refl=>exact h
 |step _ hj hk hr ih=>exact .step ih hj hk hr
theorem mH.symm{es:List Ed}{i j:Nat}(h:mH es i j):mH es j i:=by
 induction h with
 |refl=>exact .refl
 |step _ hj hk hr ih=>exact(mH.step .refl hk hj hr.symm).trans ih
structure dF(es:List Ed)(B:List Nat):Prop where
 ne:B≠[]
 rise:B.Pairwise (· < ·)
 lt:∀ i∈B,i<es.length
 rel:∀ i∈B,∀ j∈B,mH es i j
 all:∀ i∈B,∀ j,j<es.length->Hg es (eAt es i) (eAt es j)->j∈B
theorem dF.iff{es:List Ed}{B:List Nat}(h:dF es B){i j:Nat}(hi:i∈B):j∈B↔mH es i j:=by
 refine⟨h.rel i hi j,fun hr=>?_⟩;induction hr with
 |refl=>exact hi
 |step _ _ hk hr ih=>exact h.all _ ih _ hk hr
theorem aT{es:List Ed}{v:Int}{i:Nat}:i∈atP es v↔i<es.length/\((eAt es i).a=v\/(eAt es i).b=v):=by unfold atP;rw[aAr,aBa,aAL]
theorem nN{es:List Ed}{i:Nat}(h:i<es.length):eAt es i∈es:=by unfold eAt;rw[cZ _ _ h];exact aAA _
theorem lY{x:Ed}{v:Int}(h:x.a=v\/x.b=v):oth x (oth x v)=v:=by
 unfold oth;rcases h with h|h
 .rw[aAe h];split<;>omega
 .split
  .split<;>omega
  .rw[aAe rfl,h]
theorem lQ(x:Ed)(v:Int):x.a=oth x v\/x.b=oth x v:=by
 unfold oth;split
 .exact .inr rfl
 .exact .inl rfl
theorem Uc{x:Ed}{v:Int}(h:x.a≠x.b)(hv:x.a=v\/x.b=v):oth x v≠v:=by unfold oth;split<;>omega
theorem fE{x:Ed}{v:Int}(hv:x.a=v\/x.b=v)(c:Int):(x.a=c\/x.b=c)↔(c=v\/c=oth x v):=by unfold oth;split<;>omega
theorem lW{es:List Ed}{i:Nat}{v:Int}(h:i∈atP es v):oth (eAt es i) v∈nbr es v:=by
 obtain⟨h1,h2⟩:=aT.1 h;rw[cM];refine⟨_,nN h1,?_⟩;unfold oth
 split
 .exact .inl ⟨by assumption,rfl⟩
 .refine .inr ⟨oO,rfl⟩
theorem ER{es:List Ed}{v w:Int}(h:w∈nbr es v):∃ i∈atP es v,oth (eAt es i) v=w:=by
 rw[cM]at h;obtain⟨x,hx,h⟩:=h;obtain⟨i,hi,rfl⟩:=aAB hx;have e:eAt es i=es[i]:=cZ _ _ hi;refine⟨i,aT.2 ⟨hi,by rw[e];omega⟩,?_⟩;unfold oth;rw[e]
 split<;>omega
theorem zC{es:List Ed}{i:Nat}{v:Int}(h:i∈atP es v):i∈atP es (oth (eAt es i) v):=aT.2 ⟨(aT.1 h).1,lQ _ _⟩
structure yP(g:Gr)(A:Int->Prop)(s:Bw)(v YJ:Int):Prop where
 ln:s.low.length=s.vis.length
 nd:s.vis.Nodup
 act:∀ a,A a->a∈s.vis
 fin:∀ w∈s.vis,¬A w->∀ i∈atP g.es w,oth (eAt g.es i) w∈s.vis
 new:v∉s.vis
 con:∀ a b,A a->A b->RIn g.es A a b
 par:(YJ = -1/\∀ a,¬A a)\/∃ i:Nat,YJ=i/\i∈atP g.es v/\A (oth (eAt g.es i) v)
structure Jp(g:Gr)(s:Bw)(v YJ:Int)(s1:Bw)(C:List Int)(T:List Nat)(N:List (List Nat)):Prop where
 vis:s1.vis=s.vis++C
 hd:v∈C
 nd:s1.vis.Nodup
 ln:s1.low.length=s1.vis.length
 low:∀ w∈s.vis,lwW s1 w=lwW s w
 clo:∀ c∈C,∀ i∈atP g.es c,oth (eAt g.es i) c∈s1.vis
 stk:s1.stk=s.stk++T
 out:s1.out=s.out++N
 pl:∀ i,(i∈T++N.flatten)↔i<g.es.length/\(i:Int)≠YJ/\((eAt g.es i).a∈C\/(eAt g.es i).b∈C)
 pn:(T++N.flatten).Nodup
 lw1:lwW s1 v<=(s.vis.length:Int)+1
 lw2:∀ c∈C,∀ i∈atP g.es c,(i:Int)≠YJ->oth (eAt g.es i) c∉C->lwW s1 v<=nmW s.vis (oth (eAt g.es i) c)
 lw3:lwW s1 v<(s.vis.length:Int)+1->∃ c∈C,∃ i∈atP g.es c,(i:Int)≠YJ/\oth (eAt g.es i) c∈s.vis/\nmW s.vis (oth (eAt g.es i) c)=lwW s1 v
 rel:∀ i∈T,∃ b:Nat,YJ=b/\mH g.es b i
 good:∀ B∈N,dF g.es B
 cn:∀ c∈C,RIn g.es (·∈C) v c
structure BLp(g:Gr)(s0:Bw)(v YJ:Int)(Q:List Nat)(s:Bw)(D:List Int)(T:List Nat)(N:List (List Nat)):Prop where
 vis:s.vis=s0.vis++v::D
 nd:s.vis.Nodup
 ln:s.low.length=s.vis.length
 low:∀ w∈s0.vis,lwW s w=lwW s0 w
 qs:∀ i∈Q,i∈atP g.es v
 cloQ:∀ i∈Q,oth (eAt g.es i) v∈s.vis
 cloD:∀ c∈D,∀ i∈atP g.es c,oth (eAt g.es i) c∈s.vis
 stk:s.stk=s0.stk++T
 out:s.out=s0.out++N
 pl:∀ i,(i∈T++N.flatten)↔i<g.es.length/\(i:Int)≠YJ/\(((eAt g.es i).a∈D\/(eAt g.es i).b∈D)\/(i∈Q/\oth (eAt g.es i) v∈s0.vis))
 pn:(T++N.flatten).Nodup
 lw1:lwW s v<=(s0.vis.length:Int)+1
 lwD:∀ c∈D,∀ i∈atP g.es c,oth (eAt g.es i) c∉D->oth (eAt g.es i) c≠v->lwW s v<=nmW s0.vis (oth (eAt g.es i) c)
 lwQ:∀ i∈Q,(i:Int)≠YJ->oth (eAt g.es i) v∈s0.vis->lwW s v<=nmW s0.vis (oth (eAt g.es i) v)
 lw3:lwW s v<(s0.vis.length:Int)+1->∃ c∈v::D,∃ i∈atP g.es c,(i:Int)≠YJ/\oth (eAt g.es i) c∈s0.vis/\nmW s0.vis (oth (eAt g.es i) c)=lwW s v
 rel:∀ i∈T,∃ b:Nat,YJ=b/\mH g.es b i
 good:∀ B∈N,dF g.es B
 cn:∀ c∈D,RIn g.es (fun x=>x=v\/x∈D) v c
theorem EW{V W:List Int}{x:Int}(h:x∈V):nmW (V++W) x=nmW V x:=by unfold nmW;rw[aAe (aAt _ h),aAe h,aDh,aAe h]
theorem Kv{V W:List Int}{x:Int}(h:x∉V)(h2:x∈W):(V.length:Int)+1<=nmW (V++W) x:=by unfold nmW;rw[aAe (aAI _ h2),aDh,aAa h];omega
theorem NI{V:List Int}{x:Int}(h:x∈V):nmW V x<(V.length:Int)+1:=by unfold nmW;rw[aAe h];have:=aBl h;omega
theorem EC{s:Bw}(hl:s.low.length=s.vis.length){v w x:Int}(hv:v∈s.vis)(hw:w∈s.vis):lwW (nM s v x) w=if w=v then x else lwW s w:=by
 unfold lwW nM;have h1:=aBl hv;have h2:=aBl hw;simp only;rw[bG _ _ (by rw[aCH];omega),List.getElem_set,bG _ _ oO];by_cases e:w=v
 .subst e;rw[aAe rfl,aAe rfl]
 .rw[aAa e,aAa];intro k;apply e;have e1:=aCn h1;have e2:=aCn h2;rw[<- e1,<- e2]
  congr 1
  exact k.symm
theorem Sj{s:Bw}{v w:Int}(hl:s.low.length=s.vis.length)(hw:w∈s.vis):lwW (oR s v) w=lwW s w:=by unfold lwW oR;have h2:=aBl hw;simp only;rw[aDh,aAe hw,bG _ _ (by rw[aAh];omega),bG _ _ oO,aCt oO]
theorem QK{s:Bw}{v:Int}(hl:s.low.length=s.vis.length)(hv:v∉s.vis):lwW (oR s v) v=(s.vis.length:Int)+1:=by unfold lwW oR;simp only;rw[aDh,aAa hv,List.idxOf_cons_self,aBv,bG _ _ (by rw[aAh];simp;omega),aBA oO];simp[hl]
theorem vL{P R:List Nat}{i:Nat}(h:i∉R):jG (P++i::R) i=P.length:=by unfold jG;rw[aET,aCI,aAD,aDh,aAa (by simpa using h)];simp
theorem kH{n:Nat}{S:List Nat}{i:Nat}:i∈sR n S↔i<n/\i∈S:=by unfold sR;rw[aAr,aBa,aAL]
theorem xA(n:Nat)(S:List Nat):(sR n S).Pairwise (· < ·):=aCJ _ (aBY)
theorem wT{n:Nat}{S:List Nat}(hn:S.Nodup)(hl:∀ i∈S,i<n):(sR n S).Perm S:=
 (aAZ ((xA n S).imp fun h=>aBu h) hn).2 fun i=>by rw[kH];exact⟨fun h=>h.2,fun h=>⟨hl i h,h⟩⟩
section
variable {g:Gr} (hg:GoodE g)
include hg
theorem sU{i:Nat}{v:Int}(h:i∈atP g.es v):oth (eAt g.es i) v≠v:=Uc (hg.ne _ (nN (aT.1 h).1)) (aT.1 h).2
omit hg in
theorem yP.start{A:Int->Prop}{s:Bw}{v YJ:Int}(h:yP g A s v YJ):BLp g s v YJ [] (oR s v) [] [] [] where
 vis:=rfl
 nd:=by show(s.vis++[v]).Nodup;rw[aAs];exact⟨h.nd,sS,fun a ha b hb=>by rintro rfl;rw[aAl]at hb;subst hb;exact h.new ha⟩
 ln:=by show(s.low++[_]).length=(s.vis++[v]).length;simp[h.ln]
 low:=fun w hw=>Sj h.ln hw
 qs:=fun i hi=>by cases hi
 cloQ:=fun i hi=>by cases hi
 cloD:=fun i hi=>by cases hi
 stk:=by show s.stk=s.stk++[];simp
 out:=by show s.out=s.out++[];simp
 pl:=fun i=>by simp
 pn:=sS
 lw1:=by rw[QK h.ln h.new];exact aCe _
 lwD:=fun i hi=>by cases hi
 lwQ:=fun i hi=>by cases hi
 lw3:=fun hl=>by rw[QK h.ln h.new]at hl;omega
 rel:=fun i hi=>by cases hi
 good:=fun i hi=>by cases hi
 cn:=fun i hi=>by cases hi
theorem BLp.done{A:Int->Prop}{s0 s:Bw}{v YJ:Int}{D:List Int}{T:List Nat}{N:List (List Nat)}(h0:yP g A s0 v YJ)(h:BLp g s0 v YJ (atP g.es v) s D T N):Jp g s0 v YJ s (v::D) T N where
 vis:=h.vis
 hd:=sS
 nd:=h.nd
 ln:=h.ln
 low:=h.low
 clo:=fun c hc i hi=>by
  rcases aAf.1 hc with rfl|hc
  .exact h.cloQ i hi
  .exact h.cloD c hc i hi
 stk:=h.stk
 out:=h.out
 pl:=fun i=>by
  rw[h.pl i];refine⟨fun⟨h1,h2,h3⟩=>⟨h1,h2,?_⟩,fun⟨h1,h2,h3⟩=>⟨h1,h2,?_⟩⟩
  .rcases h3 with(h3|h3)|⟨h3,_⟩
   .exact .inl (aAj _ h3)
   .exact .inr (aAj _ h3)
   .rcases(aT.1 h3).2 with e|e
    .exact .inl (by rw[e];simp)
    .exact .inr (by rw[e];simp)
  .by_cases hv:(eAt g.es i).a=v\/(eAt g.es i).b=v
   .have hi:i∈atP g.es v:=aT.2 ⟨h1,hv⟩;have hq:=h.cloQ i hi;rw[h.vis,aAg,aAf]at hq;rcases hq with hq|hq|hq
    .exact .inr ⟨hi,hq⟩
    .exact absurd hq (sU hg hi)
    .refine .inl ?_;rcases lQ (eAt g.es i) v with e|e
     .exact .inl (by rw[e];exact hq)
     .exact .inr (by rw[e];exact hq)
   .refine .inl (h3.imp (fun k=>?_) (fun k=>?_))
    .exact(aAf.1 k).resolve_left fun e=>hv (.inl e)
    .exact(aAf.1 k).resolve_left fun e=>hv (.inr e)
 pn:=h.pn
 lw1:=h.lw1
 lw2:=fun c hc i hi hb ho=>by
  have X6:=ho;rw[aAf,aBV]at X6;rcases aAf.1 hc with rfl|hc
  .refine h.lwQ i hi hb ?_;have hq:=h.cloQ i hi;rw[h.vis,aAg]at hq;exact hq.resolve_right ho
  .exact h.lwD c hc i hi X6.2 X6.1
 lw3:=h.lw3
 rel:=h.rel
 good:=h.good
 cn:=fun c hc=>by
  rcases aAf.1 hc with rfl|hc
  .exact .refl sS
  .exact(h.cn c hc).mono fun z hz=>aAf.2 hz
end
theorem zR{x:Ed}{L:List Int}{w:Int}(hw:w∈L)(he:x.a=w\/x.b=w)(ho:oth x w∈L):x.a∈L/\x.b∈L:=by have e1:=(fE he x.a).1 (.inl rfl);have e2:=(fE he x.b).1 (.inr rfl);exact⟨by rcases e1 with e|e<;>rw[e]<;>assumption,by rcases e2 with e|e<;>rw[e]<;>assumption⟩
section
variable {g:Gr} (hg:GoodE g) {A:Int->Prop} {s0 s:Bw} {v YJ:Int} {Q:List Nat} {D:List Int} {T:List Nat} {N:List (List Nat)} (h0:yP g A s0 v YJ) (h:BLp g s0 v YJ Q s D T N)
include hg h0 h
theorem BLp.v_in:v∈s.vis:=by rw[h.vis];simp
theorem BLp.old_in{w:Int}(hw:w∈s0.vis):w∈s.vis:=by rw[h.vis];exact aAt _ hw
theorem BLp.d_in{w:Int}(hw:w∈D):w∈s.vis:=by rw[h.vis];simp[hw]
theorem BLp.by_out{b:Nat}(hb:YJ=b):oth (eAt g.es b) v∈s0.vis/\b∈atP g.es v/\A (oth (eAt g.es b) v):=by
 rcases h0.par with⟨h1,_⟩|⟨i,h1,h2,h3⟩
 .omega
 .obtain rfl:i=b:=oO;exact⟨h0.act _ h3,h2,h3⟩
theorem BLp.d_new{d:Int}(hd:d∈D):d∉s0.vis/\d≠v:=by have hn:=h.nd;rw[h.vis,aAs]at hn;refine⟨fun k=>hn.2.2 d k d (aAj _ hd) rfl,fun e=>?_⟩;subst e;exact(aAy.1 hn.2.1).1 hd
theorem BLp.pl_in{j:Nat}(hj:j∈T++N.flatten):(eAt g.es j).a∈s.vis/\(eAt g.es j).b∈s.vis:=by
 obtain⟨h1,_,h3⟩:=(h.pl j).1 hj;rcases h3 with(k|k)|⟨k,ho⟩
 .exact zR (h.d_in hg h0 k) (.inl rfl) (h.cloD _ k j (aT.2 ⟨h1,.inl rfl⟩))
 .exact zR (h.d_in hg h0 k) (.inr rfl) (h.cloD _ k j (aT.2 ⟨h1,.inr rfl⟩))
 .exact zR (h.v_in hg h0) (aT.1 (h.qs j k)).2 (h.cloQ j k)
theorem BLp.back_act{c:Int}(hc:c∉s0.vis){i:Nat}(hi:i∈atP g.es c)(ho:oth (eAt g.es i) c∈s0.vis):A (oth (eAt g.es i) c):=
 aAG fun hA=>hc (by
  have:=h0.fin _ ho hA i (zC hi)
  rwa [lY (aT.1 hi).2]at this)
theorem BLp.same{i:Nat}(hi:i∈atP g.es v)(hb:(i:Int)=YJ):BLp g s0 v YJ (Q++[i]) s D T N where
 vis:=h.vis
 nd:=h.nd
 ln:=h.ln
 low:=h.low
 qs:=fun j hj=>by rcases aAg.1 hj with k|k;exact h.qs j k;rw[aAl]at k;subst k;exact hi
 cloQ:=fun j hj=>by
  rcases aAg.1 hj with k|k
  .exact h.cloQ j k
  .rw[aAl]at k;subst k;exact h.old_in hg h0 (h.by_out hg h0 hb.symm).1
 cloD:=h.cloD
 stk:=h.stk
 out:=h.out
 pl:=fun j=>by rw[h.pl j,aAg,aAl];refine aCG fun _=>aCG fun hj=>or_congr_right ?_;refine and_congr_left fun _=>⟨.inl,fun k=>k.resolve_right ?_⟩;rintro rfl;exact hj hb
 pn:=h.pn
 lw1:=h.lw1
 lwD:=h.lwD
 lwQ:=fun j hj I4=>by
  rcases aAg.1 hj with k|k
  .exact h.lwQ j k I4
  .rw[aAl]at k;subst k;exact absurd hb I4
 lw3:=h.lw3
 rel:=h.rel
 good:=h.good
 cn:=h.cn
theorem BLp.skip{i:Nat}(hi:i∈atP g.es v)(Xl:oth (eAt g.es i) v∈s.vis)(hn:¬nmW s.vis (oth (eAt g.es i) v)<(s0.vis.length:Int)+1):BLp g s0 v YJ (Q++[i]) s D T N:=by
 have YR:oth (eAt g.es i) v∉s0.vis:=fun k=>hn (by rw[h.vis,EW k];exact NI k)
 exact {
 vis:=h.vis
 nd:=h.nd
 ln:=h.ln
 low:=h.low
 qs:=fun j hj=>by rcases aAg.1 hj with k|k;exact h.qs j k;rw[aAl]at k;subst k;exact hi
 cloQ:=fun j hj=>by
  rcases aAg.1 hj with k|k
  .exact h.cloQ j k
  .rw[aAl]at k;subst k;exact Xl
 cloD:=h.cloD
 stk:=h.stk
 out:=h.out
 pl:=fun j=>by rw[h.pl j,aAg,aAl];refine aCG fun _=>aCG fun hj=>or_congr_right ?_;refine⟨fun k=>⟨.inl k.1,k.2⟩,fun k=>⟨k.1.resolve_right ?_,k.2⟩⟩;rintro rfl;exact YR k.2
 pn:=h.pn
 lw1:=h.lw1
 lwD:=h.lwD
 lwQ:=fun j hj I4=>by
  rcases aAg.1 hj with k|k
  .exact h.lwQ j k I4
  .rw[aAl]at k;subst k;exact fun k2=>absurd k2 YR
 lw3:=h.lw3
 rel:=h.rel
 good:=h.good
 cn:=h.cn }
theorem BLp.act_to{b:Nat}(hb:YJ=b){a:Int}(ha:A a):RIn g.es (·≠v) a (oth (eAt g.es b) v):=
 (h0.con _ _ ha (h.by_out hg h0 hb).2.2).mono fun z hz e=>by subst e;exact h0.new (h0.act _ hz)
theorem BLp.no_root{a:Int}(ha:A a):∃ b:Nat,YJ=b:=by
 rcases h0.par with⟨_,h2⟩|⟨b,h2,_⟩
 .exact absurd ha (h2 a)
 .exact⟨b,h2⟩
theorem BLp.back{i:Nat}(hi:i∈atP g.es v)(hiQ:i∉Q)(hib:(i:Int)≠YJ)(Xl:oth (eAt g.es i) v∈s.vis)(hn:nmW s.vis (oth (eAt g.es i) v)<(s0.vis.length:Int)+1):
 BLp g s0 v YJ (Q++[i]) (nM (eF s i) v (min (lwW s v) (nmW s.vis (oth (eAt g.es i) v)))) D (T++[i]) N:=by
 have YS:oth (eAt g.es i) v∈s0.vis:=aAG fun k=>by have h1:=Xl;rw[h.vis,aAg]at h1;have:=Kv k (h1.resolve_left k);rw[h.vis]at hn;omega
 have hA:=h.back_act hg h0 h0.new hi YS;have A3:=h.v_in hg h0;have I6:nmW s.vis (oth (eAt g.es i) v)=nmW s0.vis (oth (eAt g.es i) v):=by rw[h.vis,EW YS]
 have G2:∀ w∈s.vis,∀ x,lwW (nM (eF s i) v x) w=if w=v then x else lwW s w:=fun w hw x=>EC (s:=eF s i) h.ln A3 hw
 have N8:i∉T++N.flatten:=fun k=>by
  obtain⟨_,_,h3⟩:=(h.pl i).1 k;rcases h3 with(k2|k2)|⟨k2,_⟩
  .rcases(fE (aT.1 hi).2 _).1 (.inl rfl)with e|e
   .rw[e]at k2;exact(h.d_new hg h0 k2).2 rfl
   .rw[e]at k2;exact(h.d_new hg h0 k2).1 YS
  .rcases(fE (aT.1 hi).2 _).1 (.inr rfl)with e|e
   .rw[e]at k2;exact(h.d_new hg h0 k2).2 rfl
   .rw[e]at k2;exact(h.d_new hg h0 k2).1 YS
  .exact hiQ k2
 exact {
 vis:=h.vis
 nd:=h.nd
 ln:=by show(s.low.set _ _).length=_;rw[aCH];exact h.ln
 low:=fun w hw=>by rw[G2 w (h.old_in hg h0 hw),aAa (fun e=>h0.new (by rw[<- e];exact hw))];exact h.low w hw
 qs:=fun j hj=>by rcases aAg.1 hj with k|k;exact h.qs j k;rw[aAl]at k;subst k;exact hi
 cloQ:=fun j hj=>by
  rcases aAg.1 hj with k|k
  .exact h.cloQ j k
  .rw[aAl]at k;subst k;exact Xl
 cloD:=h.cloD
 stk:=by show s.stk++[i]=_;rw[h.stk,aAD]
 out:=h.out
 pl:=fun j=>by
  rw[aAD,aAg,aAg,or_left_comm,<- aAg,h.pl j,aAl,aAg,aAl];constructor
  .rintro(rfl|⟨k1,k2,k3⟩)
   .exact⟨(aT.1 hi).1,hib,.inr ⟨.inr rfl,YS⟩⟩
   .exact⟨k1,k2,k3.imp_right fun k=>⟨.inl k.1,k.2⟩⟩
  .rintro⟨k1,k2,k3|⟨k3|k3,k4⟩⟩
   .exact .inr ⟨k1,k2,.inl k3⟩
   .exact .inr ⟨k1,k2,.inr ⟨k3,k4⟩⟩
   .exact .inl k3
 pn:=by rw[aAD];refine((aBO (a:=i) (l₁:=T) (l₂:=N.flatten)).nodup_iff).2 ?_;exact aAy.2 ⟨N8,h.pn⟩
 lw1:=by rw[G2 v A3,aAe rfl];have:=h.lw1;omega
 lwD:=fun c hc j hj h1 h2=>by rw[G2 v A3,aAe rfl];have:=h.lwD c hc j hj h1 h2;omega
 lwQ:=fun j hj I4 ho=>by
  rw[G2 v A3,aAe rfl];rcases aAg.1 hj with k|k
  .have:=h.lwQ j k I4 ho;omega
  .rw[aAl]at k;subst k;omega
 lw3:=fun hl=>by
  rw[G2 v A3,aAe rfl]at hl ⊢;by_cases ZP:lwW s v<=nmW s.vis (oth (eAt g.es i) v)
  .rw[Int.min_eq_left ZP]at hl ⊢;exact h.lw3 hl
  .rw[Int.min_eq_right oO]at hl ⊢;exact⟨v,sS,i,hi,hib,YS,I6.symm⟩
 rel:=fun j hj=>by
  rcases aAg.1 hj with k|k
  .exact h.rel j k
  .rw[aAl]at k;subst k;obtain⟨b,hb⟩:=h.no_root hg h0 hA;obtain⟨_,b2,_⟩:=h.by_out hg h0 hb;exact⟨b,hb,.step .refl (aT.1 b2).1 (aT.1 hi).1 ⟨v,(aT.1 b2).2,(aT.1 hi).2,(h.act_to hg h0 hb hA).symm⟩⟩
 good:=h.good
 cn:=h.cn }
end
section
variable {g:Gr} (hg:GoodE g) {A:Int->Prop} {s0 s:Bw} {v YJ:Int} {Q:List Nat} {D:List Int} {T:List Nat} {N:List (List Nat)} (h0:yP g A s0 v YJ) (h:BLp g s0 v YJ Q s D T N)
include hg h0 h
theorem BLp.pre{i:Nat}(hi:i∈atP g.es v)(YR:oth (eAt g.es i) v∉s.vis):yP g (fun a=>A a\/a=v) (eF s i) (oth (eAt g.es i) v) i where
 ln:=h.ln
 nd:=h.nd
 act:=fun a ha=>by
  rcases ha with ha|e
  .exact h.old_in hg h0 (h0.act _ ha)
  .show a∈s.vis;rw[e];exact h.v_in hg h0
 fin:=fun w hw hA j hj=>by
  have ZV:w∈s.vis:=hw;show oth (eAt g.es j) w∈s.vis;rw[h.vis,aAg,aAf]at ZV;rcases ZV with k|k|k
  .exact h.old_in hg h0 (h0.fin w k (fun x=>hA (.inl x)) j hj)
  .exact absurd (.inr k) hA
  .exact h.cloD w k j hj
 new:=YR
 con:=by
  have up:∀ a b,A a->A b->RIn g.es (fun a=>A a\/a=v) a b:=fun a b ha hb=>(h0.con a b ha hb).mono fun z hz=>.inl hz;have tov:∀ a,A a->RIn g.es (fun a=>A a\/a=v) a v:=fun a ha=>by obtain⟨b,hb⟩:=h.no_root hg h0 ha;obtain⟨_,b2,b3⟩:=h.by_out hg h0 hb;exact .step (up a _ ha b3) (pJ (lW b2)) (.inr rfl)
  rintro a b (ha|rfl) (hb|rfl)
  .exact up a b ha hb
  .exact tov a ha
  .exact(tov b hb).symm
  .exact .refl (.inr rfl)
 par:=.inr ⟨i,rfl,zC hi,.inr (lY (aT.1 hi).2)⟩
theorem BLp.child{i:Nat}(hi:i∈atP g.es v)(hiQ:i∉Q)(hib:(i:Int)≠YJ)(YR:oth (eAt g.es i) v∉s.vis){s1:Bw}{C:List Int}{T':List Nat}{N':List (List Nat)}
 (hp:Jp g (eF s i) (oth (eAt g.es i) v) i s1 C T' N'):∃ s2 D2 T2 N2,LM g.es.length v ((s0.vis.length:Int)+1) i (oth (eAt g.es i) v) s1=some s2/\BLp g s0 v YJ (Q++[i]) s2 D2 T2 N2:=by
 obtain⟨u,hu⟩:∃ u,u=oth (eAt g.es i) v:=⟨_,rfl⟩;have A3:=h.v_in hg h0;have C6:s1.vis=s.vis++C:=hp.vis;have hvis2:s1.vis=s0.vis++v::(D++C):=by rw[C6,h.vis,aAD];rfl
 have F5:v∈s1.vis:=by rw[C6];exact aAt _ A3
 have hcn:∀ c∈C,c∉s.vis:=fun c hc k=>by have:=hp.nd;rw[C6,aAs]at this;exact this.2.2 c k c hc rfl
 have hend:(eAt g.es i).a=v\/(eAt g.es i).b=v:=(aT.1 hi).2;have hil:=(aT.1 hi).1;have huC:u∈C:=by rw[hu];exact hp.hd
 have X8:u∈s1.vis:=by rw[C6];exact aAI _ huC
 have huv:u≠v:=by rw[hu];exact sU hg hi
 have hlen:s.vis.length=s0.vis.length+1+D.length:=by rw[h.vis,aAh,List.length_cons];omega
 have hlv:lwW s1 v=lwW s v:=hp.low v A3;have inS:∀ {j:Nat},j∈T++N.flatten->¬((eAt g.es j).a∈C\/(eAt g.es j).b∈C):=fun hj k=>by
  have:=h.pl_in hg h0 hj;rcases k with k|k
  .exact hcn _ k this.1
  .exact hcn _ k this.2
 have byC:∀ b:Nat,YJ=b->¬((eAt g.es b).a∈C\/(eAt g.es b).b∈C):=fun b hb k=>by
  obtain⟨b1,b2,_⟩:=h.by_out hg h0 hb;have:=zR A3 (aT.1 b2).2 (h.old_in hg h0 b1);rcases k with k|k
  .exact hcn _ k this.1
  .exact hcn _ k this.2
 have iC:(eAt g.es i).a∈C\/(eAt g.es i).b∈C:=by
  rcases lQ (eAt g.es i) v with e|e
  .exact .inl (by rw[e,<- hu];exact huC)
  .exact .inr (by rw[e,<- hu];exact huC)
 have iT':i∉T'++N'.flatten:=fun k=>((hp.pl i).1 k).2.1 rfl;have N8:∀ j,(j=i\/j∈T'++N'.flatten)↔j<g.es.length/\((eAt g.es j).a∈C\/(eAt g.es j).b∈C):=fun j=>by
  rw[hp.pl j];constructor
  .rintro(rfl|⟨k1,_,k3⟩)
   .exact⟨hil,iC⟩
   .exact⟨k1,k3⟩
  .rintro⟨k1,k3⟩;by_cases e:j=i
   .exact .inl e
   .exact .inr ⟨k1,fun k=>e oO,k3⟩
 have j8:∀ j,(j∈T++N.flatten\/(j=i\/j∈T'++N'.flatten))↔j<g.es.length/\(j:Int)≠YJ/\(((eAt g.es j).a∈D++C\/(eAt g.es j).b∈D++C)\/(j∈Q++[i]/\oth (eAt g.es j) v∈s0.vis)):=fun j=>by
  rw[h.pl j,N8 j];simp only[aAg,aAl];constructor
  .rintro(⟨k1,k2,(k3|k3)|⟨k3,k4⟩⟩|⟨k1,k3⟩)
   .exact⟨k1,k2,.inl (.inl (.inl k3))⟩
   .exact⟨k1,k2,.inl (.inr (.inl k3))⟩
   .exact⟨k1,k2,.inr ⟨.inl k3,k4⟩⟩
   .exact⟨k1,fun e=>byC j e.symm k3,.inl (k3.imp .inr .inr)⟩
  .rintro⟨k1,k2,((k3|k3)|(k3|k3))|⟨k3|k3,k4⟩⟩
   .exact .inl ⟨k1,k2,.inl (.inl k3)⟩
   .exact .inr ⟨k1,.inl k3⟩
   .exact .inl ⟨k1,k2,.inl (.inr k3)⟩
   .exact .inr ⟨k1,.inr k3⟩
   .exact .inl ⟨k1,k2,.inr ⟨k3,k4⟩⟩
   .subst k3;exact absurd (h.old_in hg h0 k4) YR
 have hnd:((T++N.flatten)++i::(T'++N'.flatten)).Nodup:=by rw[aAs];refine⟨h.pn,aAy.2 ⟨iT',hp.pn⟩,fun a ha b hb=>?_⟩;rintro rfl;exact inS ha ((N8 a).1 (aAf.1 hb)).2
 have E5:∀ x,∀ w∈s1.vis,lwW (nM s1 v x) w=if w=v then x else lwW s1 w:=fun x w hw=>EC hp.ln F5 hw
 have hold1:∀ w∈s0.vis,w≠v:=fun w hw e=>h0.new (by rw[<- e];exact hw);have nm0:∀ w∈s0.vis,nmW s.vis w=nmW s0.vis w:=fun w hw=>by rw[h.vis,EW hw]
 have wit:lwW s1 u<(s0.vis.length:Int)+1->∃ c∈C,∃ j∈atP g.es c,j≠i/\oth (eAt g.es j) c∈s0.vis/\nmW s0.vis (oth (eAt g.es j) c)=lwW s1 u:=fun hl=>by
  have E0:lwW s1 u<((eF s i).vis.length:Int)+1:=by show _<(s.vis.length:Int)+1;omega
  rw[hu]at E0;obtain⟨c,hc,j,hj,P0,ho,he⟩:=hp.lw3 E0;have he:nmW s.vis (oth (eAt g.es j) c)=lwW s1 u:=by rw[hu];exact he
  have Xl:oth (eAt g.es j) c∈s.vis:=ho;have h1:oth (eAt g.es j) c∈s0.vis:=aAG fun k=>by have h2:=Xl;rw[h.vis,aAg]at h2;have:=Kv k (h2.resolve_left k);rw[<- h.vis]at this;omega
  exact⟨c,hc,j,hj,fun e=>P0 oO,h1,by rw[<- nm0 _ h1];exact he⟩
 have base:∀(s2:Bw) (T2:List Nat) (N2:List (List Nat)),s2.vis=s1.vis->s2.low=(nM s1 v (min (lwW s1 v) (lwW s1 u))).low->s2.stk=s0.stk++T2->s2.out=s0.out++N2->
  (T2++N2.flatten).Perm ((T++N.flatten)++i::(T'++N'.flatten))->(∀ j∈T2,∃ b:Nat,YJ=b/\mH g.es b j)->(∀ B∈N2,dF g.es B)->BLp g s0 v YJ (Q++[i]) s2 (D++C) T2 N2:=fun s2 T2 N2 e1 e2 e3 e4 hperm hrel hgood=>by
  have G2:∀ w∈s1.vis,lwW s2 w=if w=v then min (lwW s1 v) (lwW s1 u)else lwW s1 w:=fun w hw=>by rw[<- E5 _ w hw];unfold lwW;rw[e1,e2];rfl
  exact {
  vis:=by rw[e1,hvis2]
  nd:=by rw[e1];exact hp.nd
  ln:=by rw[e1,e2];show(s1.low.set _ _).length=_;rw[aCH];exact hp.ln
  low:=fun w hw=>by have Yt:=h.old_in hg h0 hw;rw[G2 w (by rw[C6];exact aAt _ Yt),aAa (hold1 w hw),hp.low w Yt];exact h.low w hw
  qs:=fun j hj=>by rcases aAg.1 hj with k|k;exact h.qs j k;rw[aAl]at k;subst k;exact hi
  cloQ:=fun j hj=>by
   rw[e1];rcases aAg.1 hj with k|k
   .rw[C6];exact aAt _ (h.cloQ j k)
   .rw[aAl]at k;subst k;rw[<- hu];exact X8
  cloD:=fun c hc j hj=>by
   rw[e1];rcases aAg.1 hc with k|k
   .rw[C6];exact aAt _ (h.cloD c k j hj)
   .exact hp.clo c k j hj
  stk:=e3
  out:=e4
  pl:=fun j=>by rw[hperm.mem_iff,<- j8 j,aAg,aAf]
  pn:=hperm.nodup_iff.2 hnd
  lw1:=by rw[G2 v F5,aAe rfl,hlv];have:=h.lw1;omega
  lwD:=fun c hc j hj h1 h2=>by
   rw[G2 v F5,aAe rfl,hlv];rw[aAg,aBV]at h1;rcases aAg.1 hc with k|k
   .have:=h.lwD c k j hj h1.1 h2;omega
   .have P0:(j:Int)≠i:=fun e=>by
     obtain rfl:j=i:=oO;rcases(fE hend c).1 (aT.1 hj).2 with e|e
     .subst e;exact hcn _ k A3
     .exact h2 (by rw[e];exact lY hend)
    have h3:=hp.lw2 c k j hj P0 h1.2;have h4:lwW s1 u<=nmW s.vis (oth (eAt g.es j) c):=by rw[hu];exact h3
    have Xl:=hp.clo c k j hj;rw[hvis2,aAg,aAf,aAg]at Xl;have Xl:=Xl.resolve_right fun x=>by rcases x with x|x|x;exact h2 x;exact h1.1 x;exact h1.2 x
    rw[nm0 _ Xl]at h4;omega
  lwQ:=fun j hj I4 ho=>by
   rw[G2 v F5,aAe rfl,hlv];rcases aAg.1 hj with k|k
   .have:=h.lwQ j k I4 ho;omega
   .rw[aAl]at k;subst k;exact absurd (h.old_in hg h0 ho) YR
  lw3:=fun hl=>by
   rw[G2 v F5,aAe rfl]at hl ⊢;by_cases ZP:lwW s1 v<=lwW s1 u
   .rw[Int.min_eq_left ZP,hlv]at hl ⊢;obtain⟨c,hc,j,hj,I4,ho,he⟩:=h.lw3 hl;exact⟨c,by rcases aAf.1 hc with k|k<;>simp[k],j,hj,I4,ho,he⟩
   .rw[Int.min_eq_right oO]at hl ⊢;obtain⟨c,hc,j,hj,P0,ho,he⟩:=wit hl;refine⟨c,by simp[hc],j,hj,fun e=>byC j e.symm ?_,ho,he⟩;rcases(aT.1 hj).2 with x|x
    .exact .inl (by rw[x];exact hc)
    .exact .inr (by rw[x];exact hc)
  rel:=hrel
  good:=hgood
  cn:=fun c hc=>by
   rcases aAg.1 hc with k|k
   .exact(h.cn c k).mono fun z hz=>hz.imp_right fun x=>aAt _ x
   .have h1:=(hp.cn c k).mono (S':=fun x=>x=v\/x∈D++C) fun z hz=>.inr (aAI _ hz)
    exact(RIn.step (.refl (.inl rfl)) (lW hi) (.inr (aAI _ (by rw[<- hu];exact huC)))).trans h1 }
 rw[<- hu];unfold LM;by_cases hc:(s0.vis.length:Int)+1<=lwW s1 u
 .rw[aAe hc];have Q2:s1.stk=(s0.stk++T)++i::T':=by rw[hp.stk];show(s.stk++[i])++T'=_;rw[h.stk];simp
  have hiT:i∉T':=fun k=>iT' (aAt _ k);have B9:jG s1.stk i=(s0.stk++T).length:=by rw[Q2];exact vL hiT
  have hSn:(i::T').Nodup:=aAy.2 ⟨hiT,(aAs.1 hp.pn).1⟩;have hSl:∀ j∈i::T',j<g.es.length:=fun j hj=>by have:j=i\/j∈T'++N'.flatten:=(aAf.1 hj).imp_right fun k=>aAt _ k;exact((N8 j).1 this).1
  have hbp:=wT hSn hSl;have hrelS:∀ j∈i::T',mH g.es i j:=fun j hj=>by
   rcases aAf.1 hj with e|k
   .rw[e];exact .refl
   .obtain⟨b,hb,hr⟩:=hp.rel j k;obtain rfl:i=b:=oO;exact hr
  have hlu:∀ c∈C,∀ j∈atP g.es c,oth (eAt g.es j) c∈C\/oth (eAt g.es j) c=v:=fun c hcC j hj=>by
   by_cases e1:oth (eAt g.es j) c∈C
   .exact .inl e1
   refine .inr (aAG fun e2=>?_);by_cases P0:(j:Int)=i
   .obtain rfl:j=i:=oO;rcases(fE hend c).1 (aT.1 hj).2 with e|e
    .subst e;exact hcn _ hcC A3
    .exact e2 (by rw[e];exact lY hend)
   .have h3:=hp.lw2 c hcC j hj P0 e1;have h4:lwW s1 u<=nmW s.vis (oth (eAt g.es j) c):=by rw[hu];exact h3
    have Xl:=hp.clo c hcC j hj;rw[C6]at Xl;have Xl:=(aAg.1 Xl).resolve_right e1;have YS:oth (eAt g.es j) c∈s0.vis\/oth (eAt g.es j) c∈D:=by
     rw[h.vis,aAg,aAf]at Xl;rcases Xl with k|k|k
     .exact .inl k
     .exact absurd k e2
     .exact .inr k
    rcases YS with k|k
    .rw[nm0 _ k]at h4;have:=NI k;omega
    .have:=h.cloD _ k j (zC hj);rw[lY (aT.1 hj).2]at this;exact hcn _ hcC this
  have hgood:dF g.es (sR g.es.length (i::T')):={
   ne:=fun e=>by have:i∈sR g.es.length (i::T'):=kH.2 ⟨hil,sS⟩;rw[e]at this;cases this
   rise:=xA _ _
   lt:=fun j hj=>(kH.1 hj).1
   rel:=fun j hj k hk=>(hrelS j (kH.1 hj).2).symm.trans (hrelS k (kH.1 hk).2)
   all:=fun j hj k hk hr=>by
    have hjS:=(kH.1 hj).2;have hjC:=((N8 j).1 ((aAf.1 hjS).imp_right fun x=>aAt _ x)).2;have hkC:(eAt g.es k).a∈C\/(eAt g.es k).b∈C:=by
     obtain⟨w,w1,w2,w3⟩:=hr;have hjw:j∈atP g.es w:=aT.2 ⟨hSl j hjS,w1⟩;have hkw:k∈atP g.es w:=aT.2 ⟨hk,w2⟩;by_cases hwC:w∈C
     .rcases w2 with e|e
      .exact .inl (by rw[e];exact hwC)
      .exact .inr (by rw[e];exact hwC)
     have hoC:oth (eAt g.es j) w∈C:=by
      rcases hjC with x|x
      .rcases(fE w1 _).1 (.inl rfl)with e|e
       .exact absurd (by rw[<- e];exact x) hwC
       .rw[<- e];exact x
      .rcases(fE w1 _).1 (.inr rfl)with e|e
       .exact absurd (by rw[<- e];exact x) hwC
       .rw[<- e];exact x
     have U4:w=v:=by have:=hlu _ hoC j (zC hjw);rw[lY w1]at this;exact this.resolve_left hwC
     subst U4;have hq:oth (eAt g.es k) w∈C:=w3.closed (L:=(·∈C)) hoC fun z hz x hx Wu=>by obtain⟨l,hl,rfl⟩:=ER hx;exact(hlu z hz l hl).resolve_right Wu
     rcases lQ (eAt g.es k) w with e|e
     .exact .inl (by rw[e];exact hq)
     .exact .inr (by rw[e];exact hq)
    refine kH.2 ⟨hk,?_⟩;rcases(N8 k).2 ⟨hk,hkC⟩with e|e
    .rw[e];simp
    .rcases aAg.1 e with e|e
     .exact aAj _ e
     .obtain⟨B,hB,hkB⟩:=aAY.1 e;have hjB:=(hp.good B hB).all k hkB j (hSl j hjS) hr.symm;have hjN:j∈N'.flatten:=aAY.2 ⟨B,hB,hjB⟩;exfalso;rcases aAf.1 hjS with e|e
      .exact iT' (by rw[<- e];exact aAI _ hjN)
      .exact(aAs.1 hp.pn).2.2 j e j hjN rfl }
  have hcut:Fj g.es.length (nM s1 v (min (lwW s1 v) (lwW s1 u))) i=some { nM s1 v (min (lwW s1 v) (lwW s1 u))with stk:=s0.stk++T,out:=s0.out++(N++N'++[sR g.es.length (i::T')]) }:=by unfold Fj;have e1:(nM s1 v (min (lwW s1 v) (lwW s1 u))).stk=s1.stk:=rfl;have e2:(nM s1 v (min (lwW s1 v) (lwW s1 u))).out=s1.out:=rfl;rw[e1,e2,B9,aAe (by rw[Q2];simp),Q2,aDw,aDv,hp.out];show some _=some _;have:(eF s i).out=s0.out++N:=h.out;rw[this];simp only[aAD]
  refine⟨_,D++C,T,N++N'++[sR g.es.length (i::T')],hcut,base _ _ _ rfl rfl rfl rfl ?_ h.rel ?_⟩
  .simp only[aCb,List.flatten_cons,List.flatten_nil,aAK,aAD];refine aBL _ (aBL _ ?_);refine aBS.trans ?_;exact(hbp.append_right _)
  .intro B hB;rcases aAg.1 hB with hB|hB
   .rcases aAg.1 hB with hB|hB
    .exact h.good B hB
    .exact hp.good B hB
   .rw[aAl]at hB;rw[hB];exact hgood
 .rw[aAa hc];have hl:lwW s1 u<(s0.vis.length:Int)+1:=oO;obtain⟨c,hcC,j,hj,P0,ho,he⟩:=wit hl;have hA:=h.back_act hg h0 (c:=c) (fun k=>hcn c hcC (h.old_in hg h0 k)) hj ho;obtain⟨b,hb⟩:=h.no_root hg h0 hA;obtain⟨_,b2,_⟩:=h.by_out hg h0 hb;have hbi:mH g.es b i:=by
   refine .step .refl (aT.1 b2).1 hil ⟨v,(aT.1 b2).2,hend,?_⟩;refine(((hp.cn c hcC).mono fun z hz=>?_).trans (.step (.refl ?_) (lW hj) ?_) |>.trans (h.act_to hg h0 hb hA)).symm
   .intro e;subst e;exact hcn _ hz A3
   .intro e;subst e;exact hcn _ hcC A3
   .exact hold1 _ ho
  refine⟨_,D++C,T++(i::T'),N++N',rfl,base _ _ _ rfl rfl ?_ ?_ ?_ ?_ ?_⟩
  .show s1.stk=_;rw[hp.stk];show(s.stk++[i])++T'=_;rw[h.stk];simp
  .show s1.out=_;rw[hp.out];show s.out++N'=_;rw[h.out];simp
  .simp only[aCb,aAD,List.cons_append];refine aBL _ ?_;have:(i::(T'++(N.flatten++N'.flatten))).Perm (N.flatten++(i::(T'++N'.flatten))):=by refine List.Perm.trans ?_ aBO.symm;refine List.Perm.cons _ ?_;rw[<- aAD,<- aAD];exact aDC _ aBS
   exact this
  .intro k hk;rcases aAg.1 hk with hk|hk
   .exact h.rel k hk
   .refine⟨b,hb,hbi.trans ?_⟩;rcases aAf.1 hk with e|e
    .rw[e];exact .refl
    .obtain⟨b',hb',hr⟩:=hp.rel k e;obtain rfl:i=b':=oO;exact hr
  .intro B hB;rcases aAg.1 hB with hB|hB
   .exact h.good B hB
   .exact hp.good B hB
end
end Aw
end Go.Proofs.YtempldclppogmaaGreatDoor
