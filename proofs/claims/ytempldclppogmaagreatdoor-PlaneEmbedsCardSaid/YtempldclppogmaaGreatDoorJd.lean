/- Graphs: Keep. -/
import Derived.Test.YtempldclppogmaaGreatDoorJc
import Derived.Test.YtempldclppogmaaGreatDoorAwSet
import Derived.Lib.TrailingZeros
import Derived.Test.YtempldclppogmaaGreatDoorAwTd
import Derived.Test.YtempldclppogmaaGreatDoorAwZ
import Derived.Test.YtempldclppogmaaGreatDoorAwRg
import Derived.Test.YtempldclppogmaaGreatDoorAwMr5
import Derived.Test.YtempldclppogmaaGreatDoorAwFn
import Derived.Laws.Bits64b
set_option linter.unusedVariables false
set_option linter.unusedSimpArgs false
set_option maxHeartbeats 1000000
open Go.Proofs.Tryz
namespace Go.Proofs.YtempldclppogmaaGreatDoor
namespace Aw
open Go Go.RowKit Pl
def Kk(f:FuncId)(cY:List LV)(st:St)(l:List Ed)(p:Ed->Bool):Prop:=∀ x∈l,∀ st2,aA st st2->aB prog f (.ag (edL x)::cY) st2 fun r Yy=>r=bb (p x)/\aA st2 Yy
theorem Dr(l:List Ed)(p:Ed->Bool)(k:Nat)(hk:k<l.length):(l.take (k+1)).filter p=if p (l.getD k ed0)=true then(l.take k).filter p++[l.getD k ed0]else(l.take k).filter p:=by rw[aAn hk,aBu,aAc,aAd hk];by_cases h:p l[k]=true<;>simp[h]
def Xb(X:LV)(F:List Ed):Prop:=(X=.nil/\F=[])\/∃ t,X=.sl t F.length (eds F)
theorem Wl(g:Gr)(f:FuncId)(cY:List LV)(p:Ed->Bool)(st:St)(hv:g.vs.length<=1000)(he:g.es.length<=1000)(hp:Kk f cY st g.es p):
 aB prog 111 [.ag (grL g),.fn (.func f) cY] st fun r st'=>(∃ X,r=.ag [.sl 0 g.vs.length (us g.vs),X]/\Xb X (g.es.filter p))/\aA st st':=by
 have hel:=aK g.es;have ZZ:small g.vs:=by unfold small;omega
 refine zN func111 ntmps111 [.cell 4 25] ?_
 (repeat' (first|apply qS|(refine zE ?_;intro J hJ;simp[];(try refine zJ hJ ?_))))
 refine qE (PU g.vs 0 _ ZZ) sS ?_;rintro r s1 ⟨rfl,Xn⟩;have YZ:=Xn.next;simp only[aF]at YZ;have ZW:s1.H st.next=.box 25 2 (grL g):=by rw[Xn.H _ (by simp;omega)];simp
 have hC1:s1.H (st.next+1)=.box 25 2 [.nil,.nil]:=by rw[Xn.H _ sS];simp
 have e1:¬st.next=s1.next:=oO
 (repeat' (first|apply qS|apply qB|((first|(refine zE ?_;intro J hJ)|(apply aD));simp[ZW,e1];refine zJ hJ ?_)))
 have p7:aA st s1:=((aA.new _ _).trans (aA.new _ _)).trans Xn;obtain⟨q4,X8⟩:∃ q,q=st.next+1:=⟨_,rfl⟩;obtain⟨q5,hq5⟩:∃ q,q=s1.next:=⟨_,rfl⟩;refine qL (fun n fr st2=>∃ k:Nat,k<=g.es.length/\n=g.es.length-k/\fr 1=.fn (.func f) cY/\fr 4=.pt q4 0/\fr 5=.pt q5 0/\fr 13=.sl 0 g.es.length (eds g.es)/\fr 14=i g.es.length/\fr 15=i k/\aA st st2/\q5<st2.next/\st2.H q4=.box 25 2 [.nil,.nil]/\∃ X,st2.H q5=.box 25 2 [.sl 0 g.vs.length (us g.vs),X]/\((X=.nil/\(g.es.take k).filter p=[])\/∃ t,X=.sl t ((g.es.take k).filter p).length (eds ((g.es.take k).filter p))/\t≠0/\q5<t/\t<st2.next/\st2.H t=.own 56 3 ((g.es.take k).filter p).length)) g.es.length ?_ ?_
 .have e2:¬q4=s1.next:=oO;have e3:¬st.next+1=s1.next:=oO;refine⟨0,oO,oO,sS,by simp[X8],by simp[hq5],sS,sS,sS,?_,by simp[hq5],by simp[e2,hC1,X8,e3],.nil,by simp[hq5],.inl ⟨rfl,sS⟩⟩
  (repeat (first|exact p7|(refine aA.trans ?_ (aA.new _ _))|(refine aA.set ?_ oO _)))
 rintro n fr st2 ⟨k,hk,rfl,f1,f4,f5,f13,f14,f15,Xm,h5n,hC,X,hX,hXs⟩ JJ hJJ;have e0:¬q4=q5:=oO;by_cases dN:k<g.es.length;rotate_left
 .clear hJJ;have ZA:k=g.es.length:=oO;rw[ZA,aAQ]at hXs;rcases hXs with⟨rfl,h⟩|⟨t,rfl,h⟩
  ·(repeat' (first|apply qS|refine qX (zZ ?_)|(refine qR (zZ ?_);simp[f4,f5,f14,f15,dN,hX,hC,e0])|(apply qC;simp[f4,f5,f14,f15,dN,hX,hC,e0])|(refine zE ?_;intro J hJ;simp[f4,f5,f14,f15,dN,hX,hC,e0];refine zJ hJ ?_)))
   exact⟨.inl ⟨rfl,h⟩,(by repeat (first|exact Xm|(refine aA.trans ?_ (aA.new _ _))|(refine aA.set ?_ (by have:=Xm.next;omega) _)))⟩
  ·(repeat' (first|apply qS|refine qX (zZ ?_)|(refine qR (zZ ?_);simp[f4,f5,f14,f15,dN,hX,hC,e0])|(apply qC;simp[f4,f5,f14,f15,dN,hX,hC,e0])|(refine zE ?_;intro J hJ;simp[f4,f5,f14,f15,dN,hX,hC,e0];refine zJ hJ ?_)))
   exact⟨.inr ⟨t,rfl⟩,(by repeat (first|exact Xm|(refine aA.trans ?_ (aA.new _ _))|(refine aA.set ?_ (by have:=Xm.next;omega) _)))⟩
 have hd:=aR g.es k dN;have hw:=qN k oO;have Xq:k*3<g.es.length*3:=oO;have u9:g.es.getD k ed0∈g.es:=by rw[aAc,aAd dN];exact aAu dN
 have YL:=Dr g.es p k dN;have Xr:=aBe p (g.es.take k);rw[aAo]at Xr;have htest:=fun s h=>hp _ u9 s h;generalize hx:g.es.getD k ed0=x at *;generalize hFF:(g.es.take k).filter p=F at *;have hFl:=aK F;have hFo:(eds F).length=F.length*3:=hFl;obtain⟨d,a,b⟩:=x;simp only at hd htest
 (repeat' (first|apply qS|apply qB|refine qK (zZ ?_)|(apply qC;simp[f1,f13,f14,f15,dN,hd,hel])|(refine zE ?_;intro J hJ;simp[f1,f13,f14,f15,dN,hd,hel];(try refine zJ hJ ?_))))
 refine qF (htest _ (Xm.trans (aA.new _ (.box 56 3 [u d,u a,u b])))) ?_;rintro r s3 ⟨rfl,K3⟩;have hn3:=K3.next;simp only[aF]at hn3;have H7:aA st2 s3:=(aA.new _ _).trans K3;have hX3:=(H7.H q5 h5n).trans hX;have hC3:=(H7.H q4 oO).trans hC;have hE3:s3.H st2.next=.box 56 3 [u d,u a,u b]:=by rw[K3.H _ sS];simp
 have Y5:aA st s3:=(Xm.trans (aA.new _ _)).trans K3;have z1:¬q5=s3.next:=oO;have z2:¬q5=s3.next+1:=oO;have z3:¬q4=s3.next:=oO;have z4:¬q4=s3.next+1:=oO;have z5:¬s3.next+1=q5:=oO;by_cases hpx:p ⟨d,a,b⟩=true;rotate_left
 .rw[aAa hpx]at YL;have hpx:p ⟨d,a,b⟩=false:=by simpa using hpx
  (repeat' (first|refine qK (zZ ?_)|(apply qC;simp[hpx,f15,hw])|((first|(refine zE ?_;intro J hJ)|(apply aD));simp[hpx,f15,hw];refine zJ hJ ?_)))
  refine hJJ (g.es.length-(k+1)) _ _ oO ⟨k+1,oO,rfl,by simp[f1],by simp[f4],by simp[f5],by simp[f13],by simp[f14],sS,Y5,oO,hC3,X,hX3,?_⟩;rw[YL];rcases hXs with h|⟨t,h,h0,h1,h2,h3⟩
  .exact .inl h
  .exact .inr ⟨t,h,h0,h1,oO,(H7.H t h2).trans h3⟩
 rw[aAe hpx]at YL;have hed:eds (F++[⟨d,a,b⟩])=eds F++[u d,u a,u b]:=by simp[eds]
 rcases hXs with⟨rfl,hF0⟩|⟨t,rfl,h0,h1,h2,h3⟩
 ·(repeat' (first|(apply qC;simp[hpx,f5,f15,hw,hX3,hE3,z1,z2])|((first|(refine zE ?_;intro J hJ)|(apply aD));simp[hpx,f5,f15,hw,hX3,hE3,z1,z2];(repeat refine ca ?_);refine zJ hJ ?_)))
  refine hJJ (g.es.length-(k+1)) _ _ oO ⟨k+1,oO,rfl,by simp[f1],by simp[f4],by simp[f5],by simp[f13],by simp[f14],sS,?_,by simp;omega,by simp[e0,z3,z4,hC3],_,by simp;rfl,.inr ⟨s3.next+1,by rw[YL,hed,hF0];simp[eds],oO,oO,sS,by rw[YL,hF0];simp[z5]⟩⟩
  (repeat (first|exact Y5|(refine aA.trans ?_ (aA.new _ _))|(refine aA.set ?_ oO _)))
 .have h3':s3.H t=.own 56 3 F.length:=(H7.H t h2).trans h3;have y1:¬t=s3.next:=oO;have y2:¬t=s3.next+1:=oO;have y3:¬q5=t:=oO;have y4:¬t=q5:=oO;have y5:¬q4=t:=oO
  (repeat' (first|(apply qC;simp[hpx,f5,f15,hw,hX3,hE3,z1,z2,h3',h0,y1,y2,y3,y4,hFo])|((first|(refine zE ?_;intro J hJ)|(apply aD));simp[hpx,f5,f15,hw,hX3,hE3,z1,z2,h3',h0,y1,y2,y3,y4,hFo];(repeat refine ca ?_);refine zJ hJ ?_)))
  refine hJJ (g.es.length-(k+1)) _ _ oO ⟨k+1,oO,rfl,by simp[f1],by simp[f4],by simp[f5],by simp[f13],by simp[f14],sS,?_,by simp;omega,by simp[e0,z3,z4,y5,hC3],_,by simp;rfl,.inr ⟨s3.next+1,by rw[YL,hed];simp,oO,oO,sS,by rw[YL];simp[z5]⟩⟩
  (repeat (first|exact Y5|(refine aA.trans ?_ (aA.new _ _))|(refine aA.set ?_ oO _)))
theorem pM{f:Nat->Int}{n:Nat}(h:bW f n=0):∀ j,j<n->f j=0:=by
 induction n with
 |zero=>intro j hj;omega
 |succ n ih=>
  intro j hj;simp only[bW]at h;by_cases h0:bW f n=0
  .rw[aAa (by simp[h0])]at h;rcases aAB j n with h1|h1
   .exact ih h0 j h1
   .obtain rfl:j=n:=oO;exact h
  .rw[aAe h0]at h;exact absurd h h0
theorem vP{n a:Int}{b:Bool}(h:eK n a b=0):1<=n/\n<=1048576/\(b=false->a<n):=by
 unfold eK at h;by_cases h1:n<1\/1048576<n
 .rw[aAe h1]at h;cases h
 .rw[aAa h1]at h;by_cases h2:b=false/\n<=a
  .rw[aAe h2]at h;cases h
  .refine⟨oO,oO,fun hb=>?_⟩;rcases aEQ a n with h3|h3
   .exact h3
   .exact absurd ⟨hb,h3⟩ h2
theorem Sk{l:List Int}(h:∀ j,j<l.length->0<j->l.getD (j-1) 0<l.getD j 0):l.Pairwise (· < ·):=by
 rw[aAG];intro a b ha hb YA;induction b with
 |zero=>omega
 |succ b ih=>
  have h1:=h (b+1) hb oO;rw[aCd,aN _ _ hb,aN _ _ oO]at h1;rcases aAB a b with h2|h2
  .have:=ih oO h2;omega
  .obtain rfl:a=b:=oO;exact h1
theorem Fa{g:Gr}(h:chk g=0):Good g/\MT g.es/\g.vs.length<=64/\g.es.length<=160:=by
 unfold chk at h;by_cases h1:64<g.vs.length\/160<g.es.length
 .rw[aAe h1]at h;cases h
 .rw[aAa h1]at h;by_cases h2:bW (jX g) g.vs.length=0
  .rw[aAa (by simp[h2])]at h;have hV:=pM h2;have hE:=pM h;have hEx:∀ j,j<g.es.length->(1<=(g.es.getD j ed0).id/\(g.es.getD j ed0).id<=1048576)/\(g.es.getD j ed0).a∈g.vs/\(g.es.getD j ed0).b∈g.vs:=by
    intro j hj;have:=hE j hj;unfold lB at this;simp only at this;by_cases h3:eK (g.es.getD j ed0).id (g.es.getD (j-1) ed0).id (decide (j=0))=0
    .rw[aAa (fun h=>h h3)]at this;by_cases h4:(g.es.getD j ed0).a=(g.es.getD j ed0).b
     .rw[aAe h4]at this;cases this
     .rw[aAa h4]at this;by_cases h5:(g.es.getD j ed0).a∉g.vs\/(g.es.getD j ed0).b∉g.vs
      .rw[aAe h5]at this;cases this
      .have h6:=vP h3;refine⟨⟨h6.1,h6.2.1⟩,?_,?_⟩
       .exact aAL fun h=>h5 (.inl h)
       .exact aAL fun h=>h5 (.inr h)
    .rw[aAe h3]at this;exact absurd this h3
   have Yg:∀ x∈g.es,∃ j,j<g.es.length/\g.es.getD j ed0=x:=by intro x hx;obtain⟨j,hj,rfl⟩:=aAy hx;exact⟨j,hj,by rw[aAc,aAd hj];rfl⟩
   refine⟨⟨Sk fun j hj h0=>?_,fun x hx=>?_⟩,fun x hx=>?_,oO,oO⟩
   .have:=(vP (hV j hj)).2.2 (by simp;omega);exact this
   .obtain⟨j,hj,rfl⟩:=Yg x hx;exact(hEx j hj).2
   .obtain⟨j,hj,rfl⟩:=Yg x hx;have:=(hEx j hj).1;omega
  .rw[aAe h2]at h;exact absurd h h2
theorem Gc(es:List Ed)(v:Int):ends es v=[]↔nbr es v=[]:=by unfold ends nbr;simp only[List.flatMap_eq_nil_iff];refine forall_congr' fun x=>forall_congr' fun _=>?_;unfold nU IP;by_cases h1:x.a=v<;>by_cases h2:x.b=v<;>simp[h1,h2]
end Aw
namespace Aw
open Go Go.RowKit Pl Eu
def aS(es:List Ed):List Int:=es.flatMap fun x=>[2*x.id,2*x.id+1]
structure GoodE(g:Gr):Prop extends Good g where
 ids:g.es.Pairwise (fun x y=>x.id<y.id)
 pos:∀ x∈g.es,1<=x.id/\x.id<=1048576
 ne:∀ x∈g.es,x.a≠x.b
theorem cV(l:List Ed)(j:Nat)(hj:j<l.length):l.getD j ed0=l[j]:=by rw[aAc,aAd hj];rfl
theorem jU{g:Gr}(h:chk g=0):GoodE g:=by
 obtain⟨hg,_,_,_⟩:=Fa h;unfold chk at h;by_cases h1:64<g.vs.length\/160<g.es.length
 .rw[aAe h1]at h;cases h
 rw[aAa h1]at h;by_cases h2:bW (jX g) g.vs.length=0
 .rw[aAa (by simp[h2])]at h;have hE:=pM h;have hEx:∀ j,j<g.es.length->((1<=(g.es.getD j ed0).id/\(g.es.getD j ed0).id<=1048576)/\(0<j->(g.es.getD (j-1) ed0).id<(g.es.getD j ed0).id))/\(g.es.getD j ed0).a≠(g.es.getD j ed0).b:=by
   intro j hj;have:=hE j hj;unfold lB at this;simp only at this;by_cases h3:eK (g.es.getD j ed0).id (g.es.getD (j-1) ed0).id (decide (j=0))=0
   .rw[aAa (fun h=>h h3)]at this;by_cases h4:(g.es.getD j ed0).a=(g.es.getD j ed0).b
    .rw[aAe h4]at this;cases this
    .have h6:=vP h3;exact⟨⟨⟨h6.1,h6.2.1⟩,fun h0=>h6.2.2 (by simp;omega)⟩,h4⟩
   .rw[aAe h3]at this;exact absurd this h3
  have Yg:∀ x∈g.es,∃ j,j<g.es.length/\g.es.getD j ed0=x:=by intro x hx;obtain⟨j,hj,rfl⟩:=aAy hx;exact⟨j,hj,cV _ _ hj⟩
  refine⟨hg,?_,fun x hx=>?_,fun x hx=>?_⟩
  .rw[aAG];intro a b ha hb YA;induction b with
   |zero=>omega
   |succ b ih=>
    have h1:=(hEx (b+1) hb).1.2 oO;rw[aCd,cV _ _ hb,cV _ _ oO]at h1;rcases aAB a b with h2|h2
    .have:=ih oO h2;omega
    .obtain rfl:a=b:=oO;exact h1
  .obtain⟨j,hj,rfl⟩:=Yg x hx;exact(hEx j hj).1.1
  .obtain⟨j,hj,rfl⟩:=Yg x hx;exact(hEx j hj).2
 .rw[aAe h2]at h;exact absurd h h2
theorem id_eq{es:List Ed}(h:es.Pairwise (fun x y=>x.id<y.id)){x y:Ed}(hx:x∈es)(hy:y∈es)(he:x.id=y.id):x=y:=by
 obtain⟨j,hj,rfl⟩:=aAy hx;obtain⟨k,hk,rfl⟩:=aAy hy;rcases aCJ j k with h1|h1|h1
 .have:=aAG.1 h j k hj hk h1;omega
 .subst h1;rfl
 .have:=aAG.1 h k j hk hj h1;omega
theorem eW{es:List Ed}{v d:Int}:d∈ends es v↔∃ x∈es,(x.a=v/\d=2*x.id)\/(x.b=v/\d=2*x.id+1):=by
 unfold ends;rw[aAT];refine aER fun x=>aCH fun _=>?_;unfold nU;rw[aAg];refine or_congr ?_ ?_
 .split
  .rename_i h;simp[h]
  .rename_i h;simp[h]
 .split
  .rename_i h;simp[h]
  .rename_i h;simp[h]
theorem fR{es:List Ed}{d:Int}:d∈aS es↔∃ x∈es,d=2*x.id\/d=2*x.id+1:=by unfold aS;rw[aAT];refine aER fun x=>aCH fun _=>?_;simp
theorem bX{es:List Ed}{d:Int}:d∈aS es↔∃ x∈es,x.id=d / 2:=by rw[fR];refine aER fun x=>aCH fun _=>?_;omega
theorem tE{es:List Ed}(h:es.Pairwise (fun x y=>x.id<y.id)):(aS es).Pairwise (· < ·):=by unfold aS;rw[aEq];refine⟨fun x _=>by simp;omega,h.imp fun {x y} YH a ha b hb=>?_⟩;simp at ha hb;omega
theorem wV{es:List Ed}(h:es.Pairwise (fun x y=>x.id<y.id))(v:Int):(ends es v).Pairwise (· < ·):=by
 unfold ends;rw[aEq];refine⟨fun x _=>?_,h.imp fun {x y} YH a ha b hb=>?_⟩
 .unfold nU;by_cases h1:x.a=v<;>by_cases h2:x.b=v<;>simp[h1,h2];omega
 .unfold nU at ha hb;simp only[aAg]at ha hb;have h1:a=2*x.id\/a=2*x.id+1:=by
   rcases ha with ha|ha<;>split at ha<;>simp at ha
   .exact .inl ha
   .exact .inr ha
  have h2:b=2*y.id\/b=2*y.id+1:=by
   rcases hb with hb|hb<;>split at hb<;>simp at hb
   .exact .inl hb
   .exact .inr hb
  omega
theorem kB{l:List Int}(h:l.Pairwise (· < ·)):l.Nodup:=h.imp fun h=>by omega
theorem nL(es:List Ed):(aS es).length=2*es.length:=by
 induction es with
 |nil=>rfl
 |cons x l ih=>simp only[aS,aAJ,aAh,List.length_cons,List.length_nil]at ih ⊢;omega
theorem LX(es:List Ed)(k:Nat)(hk:k<es.length):(aS es).getD (2*k) 0=2*(es.getD k ed0).id/\(aS es).getD (2*k+1) 0=2*(es.getD k ed0).id+1:=by
 induction es generalizing k with
 |nil=>simp at hk
 |cons x l ih=>
  cases k with
  |zero=>simp[aS]
  |succ k=>have:=ih k (by simpa using hk);simp only[aS,aAJ,List.cons_append,List.nil_append,show 2*(k+1)=2*k+1+1 by omega,aEM]at this ⊢;exact this
def Ik(es:List Ed)(v:Int)(t:List Int):Prop:=t.Perm (ends es v)/\nrm t=t
structure cP(m:Mp):Prop where
 g:GoodE m.g
 len:m.rots.length=m.g.vs.length
 ok:∀ k,k<m.g.vs.length->Ik m.g.es (m.g.vs.getD k 0) (m.rots.getD k [])
theorem jR{es:List Ed}(h:es.Pairwise (fun x y=>x.id<y.id)){d v w:Int}(hv:d∈ends es v)(hw:d∈ends es w):v=w:=by rw[eW]at hv hw;obtain⟨x,hx,h1⟩:=hv;obtain⟨y,hy,h2⟩:=hw;have he:x.id=y.id:=oO;have:=id_eq h hx hy he;subst this;omega
theorem vB{es:List Ed}{d v:Int}(h:d∈ends es v):d∈aS es:=by rw[eW]at h;rw[fR];obtain⟨x,hx,h1⟩:=h;exact⟨x,hx,oO⟩
theorem KL{es:List Ed}{d:Int}(h:d∈aS es):∃ v,d∈ends es v/\∃ x∈es,x.id=d / 2/\(v=x.a\/v=x.b):=by
 rw[fR]at h;obtain⟨x,hx,h1|h1⟩:=h
 .exact⟨x.a,eW.2 ⟨x,hx,.inl ⟨rfl,h1⟩⟩,x,hx,oO,.inl rfl⟩
 .exact⟨x.b,eW.2 ⟨x,hx,.inr ⟨rfl,h1⟩⟩,x,hx,oO,.inr rfl⟩
theorem dA(l:List (List Int))(j:Nat)(hj:j<l.length):l.getD j []=l[j]:=by rw[aAc,aAd hj];rfl
section
variable {m:Mp} (h:cP m)
include h
theorem cP.turn{t:List Int}(ht:t∈m.rots):∃ k,k<m.g.vs.length/\t=m.rots.getD k []/\Ik m.g.es (m.g.vs.getD k 0) t:=by
 obtain⟨k,hk,rfl⟩:=aAy ht;have ZA:k<m.g.vs.length:=by rw[<- h.len];exact hk
 refine⟨k,ZA,(dA _ _ hk).symm,?_⟩;have:=h.ok k ZA
 rwa [dA _ _ hk]at this
theorem cP.nodup{t:List Int}(ht:t∈m.rots):t.Nodup:=by obtain⟨k,_,_,h1,_⟩:=h.turn ht;exact h1.nodup_iff.2 (kB (wV h.g.ids _))
theorem cP.same{t t':List Int}(ht:t∈m.rots)(F0:t'∈m.rots){d:Int}(hd:d∈t)(Yw:d∈t'):t=t':=by obtain⟨k,hk,rfl,h1,_⟩:=h.turn ht;obtain⟨k',ZA,rfl,h2,_⟩:=h.turn F0;have:=jR h.g.ids (h1.mem_iff.1 hd) (h2.mem_iff.1 Yw);rw[aN _ _ hk,aN _ _ ZA]at this;have h3:=congrArg m.g.vs.idxOf this;rw[h.g.toGood.nodup.idxOf_getElem,h.g.toGood.nodup.idxOf_getElem]at h3;rw[h3]
theorem cP.turn_of{d:Int}(hd:d∈aS m.g.es):∃ t∈m.rots,d∈t:=by
 obtain⟨v,hv,x,hx,_,hvx⟩:=KL hd;have I0:v∈m.g.vs:=by
  rcases hvx with rfl|rfl
  .exact(h.g.ends x hx).1
  .exact(h.g.ends x hx).2
 obtain⟨k,hk,rfl⟩:=aAy I0;have:=h.ok k hk;rw[aN _ _ hk]at this;refine⟨_,?_,this.1.mem_iff.2 hv⟩;rw[dA _ _ (by rw[h.len];exact hk)];exact aAu _
theorem cP.turn_dart{t:List Int}(ht:t∈m.rots){d:Int}(hd:d∈t):d∈aS m.g.es:=by obtain⟨k,_,_,h1,_⟩:=h.turn ht;exact vB (h1.mem_iff.1 hd)
theorem cP.row_le{t:List Int}(ht:t∈m.rots):t.length<=2*m.g.es.length:=by obtain⟨k,_,_,h1,_⟩:=h.turn ht;rw[h1.length_eq];exact tL _ (uE _) _
end
def sg(m:Mp)(d:Int):Int:=match m.rots.find? (fun t=>decide (d∈t)) with
 |some t=>nx t d
 |none=>d
theorem Tm{m:Mp}{d:Int}(h:∀ t∈m.rots,d∉t):sg m d=d:=by
 unfold sg;have:m.rots.find? (fun t=>decide (d∈t))=none:=by rw[aCG];intro t ht;simpa using h t ht
 rw[this]
theorem Cb{m:Mp}(h:cP m){t:List Int}(ht:t∈m.rots){d:Int}(hd:d∈t):sg m d=nx t d:=by
 unfold sg;cases hf:m.rots.find? (fun t=>decide (d∈t)) with
 |none=>rw[aCG]at hf;exact absurd hd (by simpa using hf t ht)
 |some t'=>have h1:=aDr hf;have h2:=aCq hf;simp only at h1 ⊢;rw[h.same h2 ht (by simpa using h1) hd]
def al(es:List Ed)(d:Int):Int:=if(es.any fun x=>decide (x.id=d / 2))=true then tw d else d
theorem uB{es:List Ed}{d:Int}(h:d∈aS es):al es d=tw d:=by unfold al;rw[aAe];obtain⟨x,hx,h⟩:=bX.1 h;exact aBO.2 ⟨x,hx,by simpa using h⟩
theorem nG{es:List Ed}{d:Int}(h:d∉aS es):al es d=d:=by unfold al;rw[aAa];intro ha;obtain⟨x,hx,h1⟩:=aBO.1 ha;exact h (bX.2 ⟨x,hx,by simpa using h1⟩)
theorem EJ(d:Int):tw d / 2=d / 2:=by unfold tw;split<;>omega
theorem XV(d:Int):tw (tw d)=d:=by unfold tw;split<;>split<;>omega
theorem Jp{es:List Ed}{d:Int}:tw d∈aS es↔d∈aS es:=by rw[bX,bX,EJ]
theorem QS(es:List Ed)(d:Int):al es (al es d)=d:=by
 by_cases h:d∈aS es
 .rw[uB h,uB (Jp.2 h),XV]
 .rw[nG h,nG h]
theorem Qn(es:List Ed)(d:Int):al es d / 2=d / 2:=by
 unfold al;split
 .exact EJ d
 .rfl
theorem Ds(es es':List Ed)(d:Int):al es d∈aS es'↔d∈aS es':=by rw[bX,bX,Qn]
theorem Ub(es:List Ed){d e:Int}(h:al es d=al es e):d=e:=by rw[<- QS es d,h,QS]
def fc(m:Mp)(es:List Ed)(d:Int):Int:=sg m (al es d)
section
variable {m:Mp} (h:cP m)
include h
theorem cP.sg_mem{t:List Int}(ht:t∈m.rots){d:Int}(hd:d∈t):sg m d∈t:=by rw[Cb h ht hd];exact IK hd
theorem cP.sg_dart{d:Int}(hd:d∈aS m.g.es):sg m d∈aS m.g.es:=by obtain⟨t,ht,L0⟩:=h.turn_of hd;exact h.turn_dart ht (h.sg_mem ht L0)
theorem cP.sg_id{d:Int}(hd:d∉aS m.g.es):sg m d=d:=Tm fun _ ht L0=>hd (h.turn_dart ht L0)
theorem cP.sg_inj{d e:Int}(he:sg m d=sg m e):d=e:=by
 by_cases h1:d∈aS m.g.es
 .by_cases h2:e∈aS m.g.es
  .obtain⟨t,ht,hd⟩:=h.turn_of h1;obtain⟨t',F0,Yw⟩:=h.turn_of h2;have:=h.same ht F0 (h.sg_mem ht hd) (he ▸ h.sg_mem F0 Yw);subst this;rw[Cb h ht hd,Cb h ht Yw]at he;exact Np (h.nodup ht) hd Yw he
  .have:=h.sg_dart h1;rw[he,h.sg_id h2]at this;exact absurd this h2
 .by_cases h2:e∈aS m.g.es
  .have:=h.sg_dart h2;rw[<- he,h.sg_id h1]at this;exact absurd this h1
  .rwa [h.sg_id h1,h.sg_id h2]at he
theorem cP.fc_inj(es:List Ed)(d e:Int)(he:fc m es d=fc m es e):d=e:=Ub es (h.sg_inj he)
theorem cP.fc_dart(es:List Ed)(d:Int)(hd:d∈aS m.g.es):fc m es d∈aS m.g.es:=h.sg_dart ((Ds es _ d).2 hd)
theorem cP.fc_per(es:List Ed)(hs:∀ x∈es,x∈m.g.es):Per (fc m es):=by
 refine Pj (aS m.g.es) (fun x hx=>h.fc_dart es x hx) (h.fc_inj es) fun x hx=>?_
 have Zm:x∉aS es:=fun hd=>hx (by
  rw[fR]at hd ⊢;obtain⟨y,hy,h1⟩:=hd
  exact⟨y,hs y hy,h1⟩)
 unfold fc;rw[nG Zm,h.sg_id hx]
theorem cP.sg_at_v{d v:Int}(hd:d∈ends m.g.es v):sg m d∈ends m.g.es v:=by obtain⟨t,ht,L0⟩:=h.turn_of (vB hd);obtain⟨k,hk,rfl,h1,_⟩:=h.turn ht;have:=jR h.g.ids hd (h1.mem_iff.1 L0);rw[this];exact h1.mem_iff.1 (h.sg_mem ht L0)
theorem cP.orb_reach(es:List Ed)(hs:∀ x∈es,x∈m.g.es)(n:Nat):∀ {d v:Int},d∈ends m.g.es v->∃ w,it (fc m es) n d∈ends m.g.es w/\Reach es v w:=by
 induction n with
 |zero=>intro d v hd;exact⟨v,hd,.refl⟩
 |succ n ih=>
  intro d v hd;have key:∃ w,fc m es d∈ends m.g.es w/\Reach es v w:=by
   by_cases Xt:d∈aS es
   .unfold fc;rw[uB Xt];obtain⟨x,hx,hxd⟩:=bX.1 Xt;have hxg:=hs x hx;obtain⟨y,hy,hyd⟩:=eW.1 hd;have YH:x=y:=id_eq h.g.ids hxg hy oO;subst YH;rcases hyd with⟨rfl,hdd⟩|⟨rfl,hdd⟩
    .refine⟨x.b,h.sg_at_v (eW.2 ⟨x,hxg,.inr ⟨rfl,?_⟩⟩),.step .refl (cU.2 ⟨x,hx,.inl ⟨rfl,rfl⟩⟩)⟩;unfold tw;split<;>omega
    .refine⟨x.a,h.sg_at_v (eW.2 ⟨x,hxg,.inl ⟨rfl,?_⟩⟩),.step .refl (cU.2 ⟨x,hx,.inr ⟨rfl,rfl⟩⟩)⟩;unfold tw;split<;>omega
   .unfold fc;rw[nG Xt];exact⟨v,h.sg_at_v hd,.refl⟩
  obtain⟨w,h1,h2⟩:=key;obtain⟨w',h3,h4⟩:=ih h1;exact⟨w',h3,h2.trans h4⟩
end
theorem fM(es:List Ed):Eqv (Reach es):=⟨fun _=>.refl,Reach.symm,Reach.trans⟩
theorem Reach.mono{es es':List Ed}(hs:∀ x∈es,x∈es'){v w:Int}(h:Reach es v w):Reach es' v w:=by
 induction h with
 |refl=>exact .refl
 |step _ hw ih=>refine .step ih ?_;rw[cU]at hw ⊢;obtain⟨x,hx,h1⟩:=hw;exact⟨x,hs x hx,h1⟩
theorem Ib(es:List Ed)(x:Ed)(v w:Int):Reach (es++[x]) v w↔Eu.Mg (Reach es) x.a x.b v w:=by
 constructor
 .intro h;have hE:=Mg.eqv (fM es) x.a x.b;induction h with
  |refl=>exact hE.refl _
  |step _ hw ih=>
   refine hE.trans ih ?_;obtain⟨y,hy,h1⟩:=cU.1 hw;rw[aAg,aAl]at hy;rcases hy with hy|rfl
   .exact .inl (.step .refl (cU.2 ⟨y,hy,h1⟩))
   .rcases h1 with⟨rfl,rfl⟩|⟨rfl,rfl⟩
    .exact .inr (.inl ⟨.refl,.refl⟩)
    .exact .inr (.inr ⟨.refl,.refl⟩)
 .refine Mg.le (fM _) (.step .refl (cU.2 ⟨x,sS,.inl ⟨rfl,rfl⟩⟩)) fun v w h=>h.mono fun y hy=>by simp[hy]
theorem Jh{R:Int->Int->Prop}(hR:∀ x y,R x y->x=y){l:List Int}(hn:l.Nodup):ncl R l=l.length:=by
 induction l with
 |nil=>rfl
 |cons x l ih=>rw[aAD]at hn;rw[aO,ih hn.2,List.length_cons];rintro⟨y,hy,hr⟩;exact hn.1 (hR _ _ hr ▸ hy)
theorem CX{v w:Int}(h:Reach [] v w):v=w:=by
 induction h with
 |refl=>rfl
 |step _ hw _=>obtain⟨x,hx,_⟩:=cU.1 hw;cases hx
theorem filter_eq{α β:Type}(p:α->Bool)(q:β->Bool):∀(l:List α) (l':List β),l.length=l'.length->(∀ k (h1:k<l.length) (h2:k<l'.length),p l[k]=!q l'[k])->(l.filter p).length+l'.countP q=l.length
 |[],[],_,_=>rfl
 |[],_::_,h,_=>by simp at h
 |_::_,[],h,_=>by simp at h
 |a::l,b::l',h,hk=>by have ih:=filter_eq p q l l' (by simpa using h) fun k h1 h2=>hk (k+1) (by simpa using h1) (by simpa using h2);have h0:=hk 0 sS sS;simp only[List.getElem_cons_zero]at h0;rw[aDC,List.countP_cons,h0,List.length_cons];cases q b<;>simp<;>omega
section
variable {m:Mp} (h:cP m)
include h
theorem cP.flat_perm:(aS m.g.es).Perm m.rots.flatten:=by
 refine(aBk (kB (tE h.g.ids)) ?_).2 fun d=>?_
 .unfold List.Nodup;rw[aEr];refine⟨fun t ht=>h.nodup ht,?_⟩;rw[aAG];intro a b ha hb YA x hx y hy;rintro rfl;have h1:=h.ok a (by rw[<- h.len];exact ha);have h2:=h.ok b (by rw[<- h.len];exact hb);rw[dA _ _ ha]at h1;rw[dA _ _ hb]at h2;have h3:=jR h.g.ids (h1.1.mem_iff.1 hx) (h2.1.mem_iff.1 hy);have ha':a<m.g.vs.length:=by rw[<- h.len];exact ha
  have hb':b<m.g.vs.length:=by rw[<- h.len];exact hb
  rw[aN _ _ ha',aN _ _ hb']at h3;have:=aAG.1 h.g.rise a b ha' hb' YA;omega
 .rw[aAZ];exact⟨fun hd=>h.turn_of hd,fun⟨t,ht,hd⟩=>h.turn_dart ht hd⟩
theorem cP.ncl_sg:ncl (Orb (sg m)) (aS m.g.es)+alone m.g=m.g.vs.length:=by
 have hfc:fc m []=sg m:=by funext d;simp[fc,al]
 have hP:Per (sg m):=by rw[<- hfc];exact h.fc_per [] (fun x hx=>by cases hx)
 have YL:∀ t∈m.rots,∀ n x,x∈t->it (sg m) n x∈t:=by
  intro t ht n;induction n with
  |zero=>intro x hx;exact hx
  |succ n ih=>intro x hx;exact ih _ (h.sg_mem ht hx)
 have hit:∀ t∈m.rots,∀ n x,x∈t->it (sg m) n x=it (nx t) n x:=by
  intro t ht n;induction n with
  |zero=>intro x hx;rfl
  |succ n ih=>intro x hx;rw[cT,cT,ih x hx,Cb h ht];rw[<- ih x hx];exact YL t ht n x hx
 rw[mI hP.eqv h.flat_perm,Ab]
 .have:=filter_eq (fun t=>decide (t≠[])) (fun v=>decide (nbr m.g.es v=[])) m.rots m.g.vs h.len fun k h1 h2=>?_
  .rw[<- h.len];exact this
  .have hk:=h.ok k h2;rw[dA _ _ h1,aN _ _ h2]at hk;have e1:m.rots[k]=[]↔nbr m.g.es m.g.vs[k]=[]:=by
    rw[<- Gc];constructor
    .intro h3;have:=hk.1;rw[h3]at this;exact this.symm.eq_nil
    .intro h3;have:=hk.1;rw[h3]at this;exact this.eq_nil
   by_cases h3:m.rots[k]=[]
   .simp[h3,e1.1 h3]
   .have h5:¬nbr m.g.es m.g.vs[k]=[]:=fun h4=>h3 (e1.2 h4);simp[h3,h5]
 .intro t ht x hx y hy;obtain⟨n,hn⟩:=Pp (h.nodup ht) hx hy;exact⟨n,by rw[hit t ht n x hx,hn]⟩
 .rw[aAG];rintro a b ha hb YA x hx y hy ⟨n,hn⟩;have h4:=YL _ (aAu hb) n y hy;rw[hn]at h4;have h1:=h.ok a (by rw[<- h.len];exact ha);have h2:=h.ok b (by rw[<- h.len];exact hb);rw[dA _ _ ha]at h1;rw[dA _ _ hb]at h2;have h3:=jR h.g.ids (h1.1.mem_iff.1 hx) (h2.1.mem_iff.1 h4);have ha':a<m.g.vs.length:=by rw[<- h.len];exact ha
  have hb':b<m.g.vs.length:=by rw[<- h.len];exact hb
  rw[aN _ _ ha',aN _ _ hb']at h3;have:=aAG.1 h.g.rise a b ha' hb' YA;omega
theorem cP.euler_at(j:Nat)(hj:j<=m.g.es.length):∃ k:Nat,2*ncl (Reach (m.g.es.take j)) m.g.vs+j=2*k+alone m.g+m.g.vs.length+ncl (Orb (fc m (m.g.es.take j))) (aS m.g.es):=by
 induction j with
 |zero=>
  have hfc:fc m []=sg m:=by funext d;simp[fc,al]
  refine⟨0,?_⟩;rw[List.take_zero,hfc,Jh (fun x y=>CX) h.g.toGood.nodup];have:=h.ncl_sg;omega
 |succ j ih=>
  obtain⟨k,hk⟩:=ih oO;have hs:∀ i,∀ x∈m.g.es.take i,x∈m.g.es:=fun i x hx=>aCu hx;have hp:=h.fc_per (m.g.es.take j) (hs j);have Zh:=h.fc_per (m.g.es.take (j+1)) (hs (j+1));have YP:m.g.es.take (j+1)=m.g.es.take j++[m.g.es[j]]:=aAn oO;have u9:m.g.es[j]∈m.g.es:=aAu _;have hxno:∀ y∈m.g.es.take j,y.id≠m.g.es[j].id:=by intro y hy;obtain⟨i,hi,rfl⟩:=aAy hy;rw[aAo]at hi;rw[aBE];have:=aAG.1 h.g.ids i j oO oO oO;omega
  generalize m.g.es[j]=x at *;have A6:∀ d,fc m (m.g.es.take (j+1)) d=fc m (m.g.es.take j) (sw (2*x.id) (2*x.id+1) d):=by
   intro d;unfold fc
   congr 1
   by_cases h1:d=2*x.id
   .subst h1;rw[CA,uB (bX.2 ⟨x,by rw[YP];simp,oO⟩),nG]
    .unfold tw;rw[aAe oO]
    .intro hd;obtain⟨y,hy,h2⟩:=bX.1 hd;exact hxno y hy oO
   .by_cases h2:d=2*x.id+1
    .subst h2;rw[FO,uB (bX.2 ⟨x,by rw[YP];simp,oO⟩),nG]
     .unfold tw;rw[aAa oO];omega
     .intro hd;obtain⟨y,hy,h2⟩:=bX.1 hd;exact hxno y hy oO
    .rw[uF h1 h2];by_cases h3:d∈aS (m.g.es.take j)
     .rw[uB h3,uB];obtain⟨y,hy,h4⟩:=bX.1 h3;exact bX.2 ⟨y,by rw[YP];simp[hy],h4⟩
     .rw[nG h3,nG];intro hd;obtain⟨y,hy,h4⟩:=bX.1 hd;rw[YP,aAg,aAl]at hy;rcases hy with hy|rfl
      .exact h3 (bX.2 ⟨y,hy,h4⟩)
      .omega
  have ha:2*x.id∈aS m.g.es:=fR.2 ⟨x,u9,.inl rfl⟩;have hb:2*x.id+1∈aS m.g.es:=fR.2 ⟨x,u9,.inr rfl⟩;have hR:∀ v w,Reach (m.g.es.take (j+1)) v w↔Eu.Mg (Reach (m.g.es.take j)) x.a x.b v w:=fun v w=>by rw[YP];exact Ib _ _ _ _
  have hRn:ncl (Reach (m.g.es.take (j+1))) m.g.vs=ncl (Eu.Mg (Reach (m.g.es.take j)) x.a x.b) m.g.vs:=iI fun v _ w _=>hR v w;rw[hRn];by_cases ho:Orb (fc m (m.g.es.take j)) (2*x.id) (2*x.id+1)
  .have h1:=wL hp Zh A6 oO ha hb ho;have hr:Reach (m.g.es.take j) x.a x.b:=by
    obtain⟨n,hn⟩:=ho;obtain⟨w,h2,h3⟩:=h.orb_reach (m.g.es.take j) (hs j) n (eW.2 ⟨x,u9,.inl ⟨rfl,rfl⟩⟩);rw[hn]at h2
    rwa [jR h.g.ids h2 (eW.2 ⟨x,u9,.inr ⟨rfl,rfl⟩⟩)]at h3
   have h2:ncl (Eu.Mg (Reach (m.g.es.take j)) x.a x.b) m.g.vs=ncl (Reach (m.g.es.take j)) m.g.vs:=iI fun v _ w _=>Mg.same (fM _) hr v w;rw[h2,h1];exact⟨k,oO⟩
  .have h1:=Ai hp Zh A6 ha hb ho;by_cases hr:Reach (m.g.es.take j) x.a x.b
   .have h2:ncl (Eu.Mg (Reach (m.g.es.take j)) x.a x.b) m.g.vs=ncl (Reach (m.g.es.take j)) m.g.vs:=iI fun v _ w _=>Mg.same (fM _) hr v w;rw[h2];exact⟨k+1,oO⟩
   .have h2:=vL (fM _) hr (h.g.ends x u9).1 (h.g.ends x u9).2;exact⟨k,oO⟩
theorem cP.euler:∃ k:Nat,2*ncl (Reach m.g.es) m.g.vs+m.g.es.length=2*k+alone m.g+m.g.vs.length+ncl (Orb (fc m m.g.es)) (aS m.g.es):=by
 have:=h.euler_at m.g.es.length (aAi _)
 rwa [aAQ]at this
end
theorem dY.ncl{g:Gr}{k:Nat}{R:List (List Int)}(h:dY g k R):R.length=Eu.ncl (Reach g.es) (g.vs.take k).reverse:=by
 induction h with
 |zero=>rfl
 |@seen k R _ hk hs ih=>rw[aAn hk,aCD,aDc,List.singleton_append,aW,ih];obtain⟨u,hu,hr⟩:=hs;rw[aN _ _ hk]at hr;exact⟨u,aBP.2 hu,hr⟩
 |@lead k R c _ hk hs _ ih=>
  rw[aAn hk,aCD,aDc,List.singleton_append,aO,aAh,ih]
  .rfl
  .rintro⟨u,hu,hr⟩;rw[<- aN _ _ hk]at hr;exact hs ⟨u,aBP.1 hu,hr⟩
theorem dY.all{g:Gr}{R:List (List Int)}(h:dY g g.vs.length R):R.length=Eu.ncl (Reach g.es) g.vs:=by rw[h.ncl,aAQ];exact mI (fM _) (aCy _)
def KH(f:Int->Int)(ds:List Int)(k:Nat)(x:Int):Prop:=∃ y∈ds.take k,Orb f y x
inductive sM(f:Int->Int)(ds:List Int):Nat->List (List Int)->Prop
 |zero:sM f ds 0 []
 |seen {k:Nat} {R:List (List Int)} (h:sM f ds k R) (hk:k<ds.length) (hs:KH f ds k (ds.getD k 0)):sM f ds (k+1) R
 |lead {k:Nat} {R:List (List Int)} {c:List Int} (h:sM f ds k R) (hk:k<ds.length) (hs:¬KH f ds k (ds.getD k 0)) (hc:kO f (ds.getD k 0) c):sM f ds (k+1) (R++[c])
theorem sM.len{f:Int->Int}{ds:List Int}{k:Nat}{R:List (List Int)}(h:sM f ds k R):R.length<=k:=by
 induction h with
 |zero=>simp
 |seen _ _ _ ih=>omega
 |lead _ _ _ _ ih=>simp;omega
theorem sM.ncl{f:Int->Int}{ds:List Int}{k:Nat}{R:List (List Int)}(h:sM f ds k R):R.length=Eu.ncl (Orb f) (ds.take k).reverse:=by
 induction h with
 |zero=>rfl
 |@seen k R _ hk hs ih=>rw[aAn hk,aCD,aDc,List.singleton_append,aW,ih];obtain⟨u,hu,hr⟩:=hs;rw[aN _ _ hk]at hr;exact⟨u,aBP.2 hu,hr⟩
 |@lead k R c _ hk hs _ ih=>
  rw[aAn hk,aCD,aDc,List.singleton_append,aO,aAh,ih]
  .rfl
  .rintro⟨u,hu,hr⟩;rw[<- aN _ _ hk]at hr;exact hs ⟨u,aBP.1 hu,hr⟩
theorem sM.all{f:Int->Int}(hf:Per f){ds:List Int}{R:List (List Int)}(h:sM f ds ds.length R):R.length=Eu.ncl (Orb f) ds:=by rw[h.ncl,aAQ];exact mI hf.eqv (aCy _)
theorem NR{f:Int->Int}(hf:Per f){ds:List Int}(hr:ds.Pairwise (· < ·))(hd:∀ x∈ds,f x∈ds){k:Nat}(hk:k<ds.length){c:List Int}(hc:kO f (ds.getD k 0) c):(¬KH f ds k (ds.getD k 0))↔mn c=ds.getD k 0:=by
 have Xt:∀ n x,x∈ds->it f n x∈ds:=by
  intro n;induction n with
  |zero=>intro x hx;exact hx
  |succ n ih=>intro x hx;exact ih _ (hd x hx)
 have hx:ds.getD k 0∈ds:=by rw[aN _ _ hk];exact aAu _
 constructor
 .intro hs;refine NG (hc.mem.2 (Orb.refl _ _)) fun y hy=>?_;obtain⟨n,hn⟩:=hc.mem.1 hy;rcases aEQ y (ds.getD k 0)with h1|h1
  .have j7:y∈ds:=by rw[<- hn];exact Xt n _ hx
   exact absurd ⟨y,(yN hr hk).2 ⟨j7,h1⟩,Orb.symm hf ⟨n,hn⟩⟩ hs
  .exact h1
 .rintro hm ⟨y,hy,Q7⟩;have h1:=((yN hr hk).1 hy).2;have:=GG (hc.mem.2 (Orb.symm hf Q7));omega
theorem xJ{c:List Int}{d:Int}{r:List Int}(h:c=d::r)(hm:mn c=d):nrm c=c:=by subst h;unfold nrm;rw[hm];simp[rt]
theorem kO.head{f:Int->Int}{d:Int}{c:List Int}(h:kO f d c):∃ r,c=d::r:=by obtain⟨p,hp,rfl,_,_⟩:=h;obtain⟨q,rfl⟩:∃ q,p=q+1:=⟨p-1,oO⟩;rw[List.range_succ_eq_map];exact⟨_,rfl⟩
theorem FZ(c:List Int)(h:c≠[]):∃ r,nrm c=mn c::r:=by
 have hm:=pP h;have dN:=aBa hm;have hl:0<(nrm c).length:=by rw[cE];omega
 have h0:=KB c 0 oO;simp only[Nat.add_zero,aAK dN,aCb]at h0;cases hn:nrm c with
 |nil=>rw[hn]at hl;simp at hl
 |cons a r=>simp only[hn,List.getElem_cons_zero]at h0;rw[h0];exact⟨r,rfl⟩
theorem uL{R S:Int->Int->Prop}:∀ {l:List Int},(∀ x∈l,∀ y∈l,R x y->S x y)->ncl S l<=ncl R l
 |[],_=>aAi _
 |x::l,h=>by
  have ih:=uL (R:=R) (S:=S) (l:=l) fun a ha b hb=>h a (aAk _ ha) b (aAk _ hb);by_cases hx:∃ y∈l,S y x
  .rw[aW hx];refine aBh ih ?_;simp only[ncl];exact aEb _ _
  .rw[aO hx,aO fun⟨y,hy,hr⟩=>hx ⟨y,hy,h y (aAk _ hy) x aAq hr⟩];omega
theorem QL{R S:Int->Int->Prop}(hR:Eqv R)(hS:Eqv S){l:List Int}(h:∀ x y,R x y->S x y)(hn:ncl R l<=ncl S l){x y:Int}(hx:x∈l)(hy:y∈l)(hs:S x y):R x y:=by refine aAL fun YI=>?_;have h1:=vL hR YI hx hy;have h2:=uL (R:=Eu.Mg R x y) (S:=S) (l:=l) fun a _ b _ k=>Mg.le hS hs h k;omega
theorem nI{α:Type}[DecidableEq α]{R:Int->Int->Prop}(lab:Int->α):∀ {D:List Int},(∀ x∈D,∀ y∈D,R x y->lab x=lab y)->∀ X:List α,X.Nodup->(∀ a∈X,∃ d∈D,lab d=a)->X.length<=ncl R D
 |[],_,X,_,h=>by
  cases X with
  |nil=>exact aBr _
  |cons a X=>obtain⟨d,hd,_⟩:=h a aAq;cases hd
 |d::D,hR,X,hn,h=>by
  have hR':∀ x∈D,∀ y∈D,R x y->lab x=lab y:=fun x hx y hy=>hR x (aAk _ hx) y (aAk _ hy);by_cases hx:∃ y∈D,R y d
  .rw[aW hx];obtain⟨y,hy,hr⟩:=hx;refine nI lab hR' X hn fun a ha=>?_;obtain⟨e,he,rfl⟩:=h a ha;rcases aAf.1 he with rfl|he
   .exact⟨y,hy,hR y (aAk _ hy) _ aAq hr⟩
   .exact⟨e,he,rfl⟩
  .rw[aO hx];have:=nI lab hR' (X.erase (lab d)) (hn.erase _) fun a ha=>by
    obtain⟨h1,h2⟩:=(List.Nodup.mem_erase_iff hn).1 ha;obtain⟨e,he,rfl⟩:=h a h2;rcases aAf.1 he with rfl|he
    .exact absurd rfl h1
    .exact⟨e,he,rfl⟩
   have h2:=List.length_erase_le (a:=lab d) (l:=X);have h3:X.length<=(X.erase (lab d)).length+1:=by rw[List.length_erase];split<;>omega
   omega
structure gW(D:List Int)(f:Int->Int):Prop where
 mem:∀ x∈D,f x∈D
 inj:∀ x y,f x=f y->x=y
 out:∀ x,x∉D->f x=x
theorem gW.per{D:List Int}{f:Int->Int}(h:gW D f):Per f:=Pj D h.mem h.inj h.out
theorem gW.sw{D:List Int}{f:Int->Int}(h:gW D f){a b:Int}(ha:a∈D)(hb:b∈D):gW D fun x=>f (Eu.sw a b x):=by
 refine⟨fun x hx=>h.mem _ ?_,fun x y e=>UQ a b (h.inj _ _ e),fun x hx=>?_⟩
 .unfold Eu.sw
  split
  .exact hb
  .split
   .exact ha
   .exact hx
 .rw[uF (fun e=>hx (by rw[e];exact ha)) (fun e=>hx (by rw[e];exact hb))];exact h.out x hx
def swP(s:Int->Int):List (Int×Int)->Int->Int
 |[],x=>s x
 |p::P,x=>swP s P (Eu.sw p.1 p.2 x)
def mgP(R:Int->Int->Prop):List (Int×Int)->Int->Int->Prop
 |[]=>R
 |p::P=>Eu.Mg (mgP R P) p.1 p.2
theorem sV{D:List Int}{s:Int->Int}(hs:gW D s):∀ P:List (Int×Int),(∀ p∈P,p.1∈D/\p.2∈D)->gW D (swP s P)
 |[],_=>hs
 |p::P,h=>(sV hs P fun q hq=>h q (aAk _ hq)).sw (h p aAq).1 (h p aAq).2
theorem rE{R:Int->Int->Prop}(hR:Eqv R):∀ P:List (Int×Int),Eqv (mgP R P)
 |[]=>hR
 |p::P=>Mg.eqv (rE hR P) _ _
theorem Po{R:Int->Int->Prop}:∀(P:List (Int×Int)) {x y:Int},R x y->mgP R P x y
 |[],_,_,h=>h
 |_::P,_,_,h=>.inl (Po P h)
theorem IW{R:Int->Int->Prop}(hR:Eqv R):∀(P:List (Int×Int)) {p:Int×Int},p∈P->mgP R P p.1 p.2
 |q::P,p,h=>by
  rcases aAf.1 h with rfl|h
  .exact .inr (.inl ⟨(rE hR P).refl _,(rE hR P).refl _⟩)
  .exact .inl (IW hR P h)
theorem DH{D:List Int}{s:Int->Int}(hs:gW D s):∀ P:List (Int×Int),(∀ p∈P,p.1∈D/\p.2∈D/\p.1≠p.2)->
 (∀ x y,Orb (swP s P) x y->mgP (Orb s) P x y)/\∃ c,2*ncl (mgP (Orb s) P) D+P.length=2*c+ncl (Orb s) D+ncl (Orb (swP s P)) D
 |[],_=>⟨fun _ _ h=>h,0,by have e:ncl (Orb (swP s [])) D=ncl (Orb s) D:=rfl;have e2:ncl (mgP (Orb s) []) D=ncl (Orb s) D:=rfl;rw[e,e2,List.length_nil];omega⟩
 |p::P,h=>by
  obtain⟨h1,c,h2⟩:=DH hs P fun q hq=>h q (aAk _ hq);obtain⟨ha,hb,YA⟩:=h p aAq;have hq:=sV hs P fun q hq=>⟨(h q (aAk _ hq)).1,(h q (aAk _ hq)).2.1⟩;have P3:gW D (swP s (p::P)):=hq.sw ha hb;have A6:∀ x,swP s (p::P) x=swP s P (Eu.sw p.1 p.2 x):=fun _=>rfl;have hE:=rE hs.per.eqv P;have hE':Eqv (mgP (Orb s) (p::P)):=rE hs.per.eqv (p::P);refine⟨fun x y YH=>?_,?_⟩
  .exact Mg.le hE' (IW hs.per.eqv (p::P) aAq) (fun x y k=>.inl (h1 x y k)) (QT hq.per A6 YH)
  .rw[List.length_cons];by_cases ho:Orb (swP s P) p.1 p.2
   .have e1:=wL hq.per P3.per A6 YA ha hb ho;have e2:ncl (mgP (Orb s) (p::P)) D=ncl (mgP (Orb s) P) D:=iI fun x _ y _=>Mg.same hE (h1 _ _ ho) x y;exact⟨c,oO⟩
   .have e1:=Ai hq.per P3.per A6 ha hb ho;by_cases hr:mgP (Orb s) P p.1 p.2
    .have e2:ncl (mgP (Orb s) (p::P)) D=ncl (mgP (Orb s) P) D:=iI fun x _ y _=>Mg.same hE hr x y;exact⟨c+1,oO⟩
    .have e2:ncl (mgP (Orb s) P) D=ncl (mgP (Orb s) (p::P)) D+1:=vL hE hr ha hb;exact⟨c,oO⟩
theorem Sl{R:Int->Int->Prop}{D:List Int}(h:∀ x∈D,∀ y∈D,R x y)(h0:D≠[]):ncl R D=1:=by have:=Cm (R:=R) (t:=D) (l:=[]) h (fun _ _ _ hy=>by cases hy);rw[aAP,aAa h0]at this;exact this
theorem UL{D:List Int}{f:Int->Int}(hf:gW D f){a b:Int}(ha:a∈D)(hb:b∈D):ncl (Orb f) D<=ncl (Orb fun x=>f (Eu.sw a b x)) D+1:=by
 by_cases YA:a=b
 .subst YA;have:(fun x=>f (Eu.sw a a x))=f:=by funext x;unfold Eu.sw;split<;>simp_all
  rw[this];omega
 have hp:=hf.sw ha hb;by_cases ho:Orb f a b
 .have:=wL hf.per hp.per (fun _=>rfl) YA ha hb ho;omega
 .have:=Ai hf.per hp.per (fun _=>rfl) ha hb ho;omega
def sgR(Rs:List (List Int))(d:Int):Int:=match Rs.find? (fun t=>decide (d∈t)) with
 |some t=>nx t d
 |none=>d
theorem lR{Rs:List (List Int)}{d:Int}(h:d∉Rs.flatten):sgR Rs d=d:=by unfold sgR;rw[aCG.2 fun t ht=>by simpa using fun hd=>h (aAZ.2 ⟨t,ht,hd⟩)]
theorem GJ{Rs:List (List Int)}(hn:Rs.flatten.Nodup){t t':List Int}(ht:t∈Rs)(F0:t'∈Rs){d:Int}(hd:d∈t)(Yw:d∈t'):t=t':=by
 induction Rs with
 |nil=>cases ht
 |cons r Rs ih=>
  rw[List.flatten_cons,aAs]at hn;rcases aAf.1 ht with e|ht
  .rcases aAf.1 F0 with e'|F0
   .rw[e,e']
   .exact absurd rfl (hn.2.2 d (by rw[<- e];exact hd) d (aAZ.2 ⟨t',F0,Yw⟩))
  .rcases aAf.1 F0 with e'|F0
   .exact absurd rfl (hn.2.2 d (by rw[<- e'];exact Yw) d (aAZ.2 ⟨t,ht,hd⟩))
   .exact ih hn.2.1 ht F0
theorem vA{Rs:List (List Int)}(hn:Rs.flatten.Nodup){t:List Int}(ht:t∈Rs):t.Nodup:=(aBA ht).nodup hn
theorem fD{Rs:List (List Int)}(hn:Rs.flatten.Nodup){t:List Int}(ht:t∈Rs){d:Int}(hd:d∈t):sgR Rs d=nx t d:=by
 unfold sgR;cases hf:Rs.find? (fun t=>decide (d∈t)) with
 |none=>exact absurd hd (by simpa using aCG.1 hf t ht)
 |some t'=>rw[GJ hn (aCq hf) ht (by simpa using aDr hf) hd]
theorem kC{Rs:List (List Int)}(hn:Rs.flatten.Nodup):gW Rs.flatten (sgR Rs):=by
 have Xt:∀ x t,t∈Rs->x∈t->sgR Rs x∈t:=fun x t ht hx=>by rw[fD hn ht hx];exact IK hx
 refine⟨fun x hx=>?_,fun x y e=>?_,fun x hx=>lR hx⟩
 .obtain⟨t,ht,hx⟩:=aAZ.1 hx;exact aAZ.2 ⟨t,ht,Xt x t ht hx⟩
 .by_cases hx:x∈Rs.flatten
  .obtain⟨t,ht,hx⟩:=aAZ.1 hx;by_cases hy:y∈Rs.flatten
   .obtain⟨t',F0,hy⟩:=aAZ.1 hy;have h1:=Xt x t ht hx;rw[e]at h1;have:=GJ hn ht F0 h1 (Xt y t' F0 hy);subst this;rw[fD hn ht hx,fD hn ht hy]at e;exact Np (vA hn ht) hx hy e
   .rw[lR hy]at e;exact absurd (aAZ.2 ⟨t,ht,by rw[<- e];exact Xt x t ht hx⟩) hy
  .by_cases hy:y∈Rs.flatten
   .obtain⟨t',F0,P5⟩:=aAZ.1 hy;rw[lR hx]at e;exact absurd (aAZ.2 ⟨t',F0,by rw[e];exact Xt y t' F0 P5⟩) hx
   .rw[lR hx,lR hy]at e;exact e
theorem JR{Rs:List (List Int)}(hn:Rs.flatten.Nodup){t:List Int}(ht:t∈Rs){x:Int}(hx:x∈t):∀ n,it (sgR Rs) n x=it (nx t) n x/\it (sgR Rs) n x∈t
 |0=>⟨rfl,hx⟩
 |n+1=>by obtain⟨h1,h2⟩:=JR hn ht hx n;rw[cT,cT,<- h1,fD hn ht h2];exact⟨rfl,IK h2⟩
theorem ES{Rs:List (List Int)}(hn:Rs.flatten.Nodup){t:List Int}(ht:t∈Rs){x y:Int}(hx:x∈t):Orb (sgR Rs) x y↔y∈t:=by
 constructor
 .rintro⟨n,rfl⟩;exact(JR hn ht hx n).2
 .intro hy;obtain⟨n,E6⟩:=Pp (vA hn ht) hx hy;exact⟨n,by rw[(JR hn ht hx n).1,E6]⟩
theorem Jl{Rs:List (List Int)}(hn:Rs.flatten.Nodup):ncl (Orb (sgR Rs)) Rs.flatten=(Rs.filter fun t=>decide (t≠[])).length:=by
 refine Ab Rs (fun t ht x hx y hy=>(ES hn ht hx).2 hy) ?_;have key:∀ T6:List (List Int),T6.flatten.Nodup->T6.Pairwise fun t t'=>∀ x∈t,x∉t':=by
  intro T6;induction T6 with
  |nil=>exact fun _=>.nil
  |cons r T6 ih=>intro E6;rw[List.flatten_cons,aAs]at E6;refine aBc.2 ⟨fun t ht x hx Zm=>E6.2.2 x hx x (aAZ.2 ⟨t,ht,Zm⟩) rfl,ih E6.2.1⟩
 refine(key Rs hn).imp_of_mem fun {t t'} ht F0 h x hx y hy ho=>?_;exact h x hx ((ES hn F0 hy).1 ho)
theorem NV{Rs T6:List (List Int)}(hn:Rs.flatten.Nodup)(hp:Rs.Perm T6)(d:Int):sgR Rs d=sgR T6 d:=by
 have E6:T6.flatten.Nodup:=(hp.flatten.nodup_iff).1 hn;by_cases hd:d∈Rs.flatten
 .obtain⟨t,ht,hd⟩:=aAZ.1 hd;rw[fD hn ht hd,fD E6 (hp.mem_iff.1 ht) hd]
 .rw[lR hd,lR fun k=>hd (hp.flatten.mem_iff.2 k)]
theorem get_inj{l:List Int}(h:l.Nodup){i j:Nat}(hi:i<l.length)(hj:j<l.length)(e:l[i]=l[j]):i=j:=by
 have:=congrArg l.idxOf e
 rwa [h.idxOf_getElem,h.idxOf_getElem]at this
theorem uY{A B:List Int}(hn:(A++B).Nodup)(hA:A≠[])(hB:B≠[]){x:Int}:(x∈A->nx (A++B) x=if x=A.getLast hA then nx B (B.getLast hB)else nx A x)/\(x∈B->nx (A++B) x=if x=B.getLast hB then nx A (A.getLast hA)else nx B x):=by
 have YZ:=(aAs.1 hn).1;have ZI:=(aAs.1 hn).2.1;have la:=aBi.2 hA;have lb:=aBi.2 hB;have last:∀(L:List Int) (h:L≠[]),L.Nodup->nx L (L.getLast h)=L[0]'(aBi.2 h):=fun L h hL=>by have:=aBi.2 h;rw[aCA,gM hL];simp[show L.length-1+1=L.length by omega]
 constructor
 .intro hx;obtain⟨k,hk,rfl⟩:=aAy hx;have e:A[k]=(A++B)[k]'(by rw[aAh];omega):=(aCs hk).symm;have hlen:(A++B).length=A.length+B.length:=aAh;rw[last B hB ZI];by_cases h:k=A.length-1
  .rw[aAe (by rw[aCA];congr),e,gM hn];have e2:(k+1) % (A++B).length=A.length:=by rw[aAK oO];omega
   simp only[e2];rw[aBx (aAi _)];simp
  .rw[aAa (by rw[aCA];exact fun e3=>h (get_inj YZ _ _ e3)),gM YZ,e,gM hn];have e2:(k+1) % (A++B).length=k+1:=aAK oO;have e3:(k+1) % A.length=k+1:=aAK oO;simp only[e2,e3];exact aCs oO
 .intro hx;obtain⟨k,hk,rfl⟩:=aAy hx;have hlen:(A++B).length=A.length+B.length:=aAh;have e:B[k]=(A++B)[A.length+k]'(by omega):=by rw[aBx (aEb _ _)];simp
  rw[last A hA YZ];by_cases h:k=B.length-1
  .rw[aAe (by rw[aCA];congr),e,gM hn];have e2:(A.length+k+1) % (A++B).length=0:=by rw[show A.length+k+1=(A++B).length by omega,aDu]
   simp only[e2];exact aCs la
  .rw[aAa (by rw[aCA];exact fun e3=>h (get_inj ZI _ _ e3)),gM ZI,e,gM hn];have e2:(A.length+k+1) % (A++B).length=A.length+(k+1):=by rw[aAK oO];omega
   have e3:(k+1) % B.length=k+1:=aAK oO;simp only[e2,e3];rw[aBx (aEb _ _)];simp
theorem Qr{A B:List Int}{Rs:List (List Int)}(hn:(A::B::Rs).flatten.Nodup)(hA:A≠[])(hB:B≠[])(d:Int):sgR ((A++B)::Rs) d=sgR (A::B::Rs) (Eu.sw (A.getLast hA) (B.getLast hB) d):=by
 have hf:((A++B)::Rs).flatten=(A::B::Rs).flatten:=sS;have E6:((A++B)::Rs).flatten.Nodup:=by rw[hf];exact hn
 have YA:(A++B).Nodup:=vA E6 aAq;have hdis:=(aAs.1 YA).2.2;have mA:=List.getLast_mem hA;have mB:=List.getLast_mem hB;by_cases hdA:d∈A
 .rw[fD E6 aAq (aAw _ hdA),(uY YA hA hB).1 hdA];by_cases e:d=A.getLast hA
  .rw[aAe e,e,CA,fD hn (t:=B) sS mB]
  .rw[aAa e,uF e (fun k=>hdis d hdA _ mB k),fD hn (t:=A) sS hdA]
 .by_cases hdB:d∈B
  .rw[fD E6 aAq (aAI _ hdB),(uY YA hA hB).2 hdB];by_cases e:d=B.getLast hB
   .rw[aAe e,e,FO,fD hn (t:=A) sS mA]
   .rw[aAa e,uF (fun k=>hdA (by rw[k];exact mA)) e,fD hn (t:=B) sS hdB]
  .rw[uF (fun k=>hdA (by rw[k];exact mA)) (fun k=>hdB (by rw[k];exact mB))];unfold sgR;rw[aDd (by simp[hdA,hdB]),aDd (by simp[hdA]),aDd (by simp[hdB])]
end Aw
namespace Aw
open Go Go.RowKit Pl
def Ao:List Bool->Nat
 |[]=>0
 |b::l=>(if b then 1 else 0)+2*Ao l
theorem Gu:∀(l:List Bool) (i:Nat),(Ao l).testBit i=l.getD i false
 |[],i=>by simp[Ao]
 |b::l,0=>by rw[Ao,aDn];cases b<;>simp<;>omega
 |b::l,i+1=>by
  rw[Ao,aCm];have:((if b then 1 else 0)+2*Ao l) / 2=Ao l:=by cases b<;>simp<;>omega
  rw[this,Gu l i];simp
theorem Jb:∀ l:List Bool,Ao l<2 ^ l.length
 |[]=>by simp[Ao]
 |b::l=>by have:=Jb l;rw[Ao,List.length_cons,Nat.pow_succ];cases b<;>simp<;>omega
def mk(vs S:List Int):Nat:=Ao (vs.map fun v=>decide (v∈S))
theorem eN(vs S:List Int)(i:Nat):(mk vs S).testBit i=(decide (i<vs.length)&&decide (vs.getD i 0∈S)):=by
 unfold mk;rw[Gu,aAc,aBL];by_cases h:i<vs.length
 .rw[aAd h,aAc,aAd h];simp[h]
 .rw[aBw oO];simp[h]
theorem mN(vs S:List Int)(h:vs.length<=64):mk vs S<18446744073709551616:=by
 have h1:=Jb (vs.map fun v=>decide (v∈S));rw[aAA]at h1
 exact aAp h1 (by
  have:=aEB (show 0<2 by decide) h
  exact this)
theorem mk_congr{vs A B:List Int}(h:∀ v∈vs,(v∈A↔v∈B)):mk vs A=mk vs B:=by
 unfold mk
 congr 1
 exact aAW fun v hv=>by simp[h v hv]
theorem UA{vs A B:List Int}(h:mk vs A=mk vs B):∀ v∈vs,(v∈A↔v∈B):=fun v hv=>by obtain⟨i,hi,rfl⟩:=aAy hv;have h1:=eN vs A i;rw[h,eN vs B i]at h1;simpa[hi]using h1.symm
theorem mk_zero(vs A:List Int):mk vs A=0↔∀ v∈vs,v∉A:=by
 have e:mk vs []=0:=by apply aBV;intro i;rw[eN];simp
 constructor
 .intro h v hv hA;have:=(UA (h.trans e.symm) v hv).1 hA;simp at this
 .intro h;rw[<- e];exact mk_congr fun v hv=>by simp[h v hv]
theorem RP(a b:Nat)(ha:a<18446744073709551616)(hb:b<18446744073709551616):gor .u64 (a:Int) (b:Int)=((a ||| b:Nat):Int):=by
 have hx:a ||| b<2 ^ 64:=Nat.or_lt_two_pow oO oO
 unfold gor;simp only[show IntKind.u64.bits=64 from rfl,BitVec.ofInt_natCast,BitVec.toNat_or,aCZ,aAK ha,aAK hb];rw[IntKind.wrap_u64];omega
theorem Av(a b:Nat)(ha:a<18446744073709551616)(hb:b<18446744073709551616):wT .u64 (a:Int) (b:Int)=((a &&& b:Nat):Int):=by have hx:a &&& b<2 ^ 64:=Nat.and_lt_two_pow _ oO;unfold wT;simp only[show IntKind.u64.bits=64 from rfl,BitVec.ofInt_natCast,BitVec.toNat_and,aCZ,aAK ha,aAK hb];rw[IntKind.wrap_u64];omega
theorem GD(a b:Nat)(ha:a<18446744073709551616)(hb:b<18446744073709551616):fY .u64 (a:Int) (b:Int)=((a &&& (2 ^ 64-(b+1)):Nat):Int):=by have hx:a &&& (2 ^ 64-(b+1))<2 ^ 64:=Nat.and_lt_two_pow _ oO;unfold fY;simp only[show IntKind.u64.bits=64 from rfl,BitVec.ofInt_natCast,BitVec.toNat_and,BitVec.toNat_not,aCZ,aAK ha,aAK hb];rw[show 2 ^ 64-1-b=2 ^ 64-(b+1) by omega,IntKind.wrap_u64];omega
theorem BO(vs A B:List Int)(h:vs.length<=64):gor .u64 (mk vs A) (mk vs B)=mk vs (A++B):=by
 rw[RP _ _ (mN vs A h) (mN vs B h)]
 congr 1
 apply aBV;intro i;rw[Nat.testBit_or,eN,eN,eN];simp only[aAg,Bool.decide_or];cases decide (i<vs.length)<;>simp
theorem QF(vs A B:List Int)(h:vs.length<=64):wT .u64 (mk vs A) (mk vs B)=mk vs (A.filter fun v=>decide (v∈B)):=by
 rw[Av _ _ (mN vs A h) (mN vs B h)]
 congr 1
 apply aBV;intro i;rw[aEf,eN,eN,eN];simp only[aAz,aAO,Bool.decide_and];cases decide (i<vs.length)<;>simp
theorem qV(vs A B:List Int)(h:vs.length<=64):fY .u64 (mk vs A) (mk vs B)=mk vs (A.filter fun v=>!decide (v∈B)):=by
 rw[GD _ _ (mN vs A h) (mN vs B h)]
 congr 1
 apply aBV;intro i;rw[aEf,Nat.testBit_two_pow_sub_succ (mN vs B h),eN,eN,eN];by_cases hi:i<vs.length
 .have:i<64:=oO;simp only[hi,this,aEl,aDV];by_cases h1:vs.getD i 0∈A<;>by_cases h2:vs.getD i 0∈B<;>simp[aAz,h1,h2]
 .simp[hi]
def fst'(vs S:List Int):Nat:=vs.findIdx fun v=>decide (v∈S)
theorem Mu{x k:Nat}(h1:x.testBit k=true)(h2:∀ j,j<k->x.testBit j=false):∃ m,x=2 ^ k*(2*m+1):=by
 induction k generalizing x with
 |zero=>rw[aDn]at h1;simp only[aBX]at h1;exact⟨x / 2,by simp;omega⟩
 |succ k ih=>
  have h0:=h2 0 oO;rw[aDn]at h0;simp only[aCU]at h0;rw[aCm]at h1;obtain⟨m,hm⟩:=ih h1 fun j hj=>by rw[<- aCm];exact h2 (j+1) oO
  refine⟨m,?_⟩;have e:x=2*(x / 2):=oO;rw[Nat.pow_succ,aCX,aBI 2,<- aCX,<- hm];omega
theorem Ar{vs S:List Int}(h:fst' vs S<vs.length):∃ m,mk vs S=2 ^ fst' vs S*(2*m+1):=by
 have hp:decide (vs[fst' vs S]∈S)=true:=aDM (w:=h);refine Mu ?_ fun j hj=>?_
 .rw[eN,aAc,aAd h];simpa[h]using hp
 .rw[eN];have Z6:j<vs.length:=oO;have:=aEj hj;rw[aAc,aAd Z6];simpa[Z6]using this
theorem Gm{a b m n:Nat}(h:2 ^ a*(2*m+1)=2 ^ b*(2*n+1)):a=b:=by
 induction a generalizing b with
 |zero=>
  cases b with
  |zero=>rfl
  |succ b=>
   rw[Nat.pow_succ]at h;simp at h;have:2 ^ b*2*(2*n+1)=2*(2 ^ b*(2*n+1)):=by rw[aBI (2 ^ b) 2,aCX]
   omega
 |succ a ih=>
  cases b with
  |zero=>
   rw[Nat.pow_succ]at h;simp at h;have:2 ^ a*2*(2*m+1)=2*(2 ^ a*(2*m+1)):=by rw[aBI (2 ^ a) 2,aCX]
   omega
  |succ b=>rw[Nat.pow_succ,Nat.pow_succ,aBI (2 ^ a) 2,aBI (2 ^ b) 2,aCX,aCX]at h;rw[ih (Nat.eq_of_mul_eq_mul_left (by decide) h)]
theorem Df{vs S:List Int}(h64:vs.length<=64)(h:fst' vs S<vs.length):Lib.ctz 64 (mk vs S)=fst' vs S:=by
 obtain⟨m,hm⟩:=Ar h;have dN:=mN vs S h64;have h0:mk vs S≠0:=by rw[hm];exact aDN (by exact aEN.1 (aEg _)) oO
 have e:Lib.ctz 64 (mk vs S)=Lib.ctzFrom 64 (mk vs S):=by simp[Lib.ctz,h0]
 obtain⟨n,hn,_⟩:=Lib.ctzFrom_spec 64 (mk vs S) oO dN;rw[e];exact Gm (hn.symm.trans hm)
theorem FA{vs S:List Int}(h:fst' vs S<vs.length):mk vs S≠0:=by obtain⟨m,hm⟩:=Ar h;rw[hm];exact aDN (aEN.1 (aEg _)) oO
theorem Tt{vs S:List Int}:fst' vs S<vs.length↔∃ v∈vs,v∈S:=by unfold fst';rw[List.findIdx_lt_length];simp
theorem RS{vs S:List Int}(h:fst' vs S<vs.length):vs.getD (fst' vs S) 0∈S/\vs.getD (fst' vs S) 0∈vs:=by
 have hp:decide (vs[fst' vs S]∈S)=true:=aDM (w:=h);have e:vs.getD (fst' vs S) 0=vs[fst' vs S]:=by rw[aAc,aAd h];rfl
 rw[e];exact⟨by simpa using hp,aAu _⟩
theorem DW{vs:List Int}(hn:vs.Nodup){i j:Nat}(hi:i<vs.length)(hj:j<vs.length):vs[i]=vs[j]↔i=j:=by
 constructor
 .intro e;refine aAL fun Wx=>?_;rcases Nat.lt_or_gt_of_ne Wx with h|h
  .exact aAG.1 hn i j hi hj h e
  .exact aAG.1 hn j i hj hi h e.symm
 .intro e;subst e;rfl
theorem mk_one{vs:List Int}(hn:vs.Nodup){k:Nat}(hk:k<vs.length):mk vs [vs.getD k 0]=2 ^ k:=by
 apply aBV;intro i;rw[eN,Nat.testBit_two_pow];by_cases hi:i<vs.length
 .rw[aAc,aAc,aAd hi,aAd hk];simp only[hi,aEl,aDV,Option.getD_some,aAl,DW hn hi hk];by_cases e:i=k
  .simp[e]
  .have e2:¬k=i:=fun h=>e h.symm;simp[e,e2]
 .simp only[hi,decide_false,Bool.false_and];have:¬k=i:=oO;simp[this]
theorem UH{vs S:List Int}(h64:vs.length<=64)(hn:vs.Nodup)(h:fst' vs S<vs.length):wT .u64 (mk vs S) (IntKind.u64.wrap (0-(mk vs S:Int)))=mk vs [vs.getD (fst' vs S) 0]:=by
 have dN:=mN vs S h64;have h0:=FA h;have e1:IntKind.u64.wrap (0-(mk vs S:Int))=((18446744073709551616-mk vs S:Nat):Int):=by rw[IntKind.wrap_u64];omega
 rw[e1,Av _ _ dN oO,mk_one hn h];have:=(Lib.lowest_bit 64 (mk vs S) h0 dN).1;rw[Df h64 h]at this;rw[<- this]
theorem GI(k m:Nat):(2 ^ k*(2*m+1)) &&& (2 ^ k*(2*m+1)-1)=2 ^ k*(2*m):=by
 have hp:=aEg k;have e:2 ^ k*(2*m+1)-1=2 ^ k*(2*m)+(2 ^ k-1):=by rw[Nat.mul_add,aCF];omega
 rw[e];apply aBV;intro i;rw[aEf,Nat.testBit_two_pow_mul_add _ (show 2 ^ k-1<2 ^ k by omega)];rw[aBI (2 ^ k),aBI (2 ^ k),aCV,aCV];by_cases T5:i<k
 .have h1:¬k<=i:=oO;simp[T5,h1]
 .have h1:k<=i:=oO;simp only[T5,h1,aEl,aDV,aBB];cases hj:i-k with
  |zero=>simp[aDn]
  |succ j=>rw[aCm,aCm];have d1:(2*m+1) / 2=m:=oO;have d2:2*m / 2=m:=oO;rw[d1,d2];simp
theorem Ka{vs S:List Int}(h64:vs.length<=64)(hn:vs.Nodup)(h:fst' vs S<vs.length):wT .u64 (mk vs S) (IntKind.u64.wrap ((mk vs S:Int)-1))=mk vs (S.filter fun w=>decide (w≠vs.getD (fst' vs S) 0)):=by
 have dN:=mN vs S h64;have h0:=FA h;have e1:IntKind.u64.wrap ((mk vs S:Int)-1)=((mk vs S-1:Nat):Int):=by rw[IntKind.wrap_u64];omega
 rw[e1,Av _ _ dN oO]
 congr 1
 obtain⟨m,hm⟩:=Ar h;have h2:mk vs S &&& (mk vs S-1)=mk vs S-2 ^ fst' vs S:=by rw[hm,GI,Nat.mul_add (2 ^ _) (2*m) 1,aCF];omega
 apply aBV;intro i;have hb:mk vs S &&& (mk vs S-1)=2 ^ fst' vs S*(2*m):=by rw[hm,GI]
 have hS:(mk vs S).testBit i=(2 ^ fst' vs S*(2*m+1)).testBit i:=by rw[<- hm]
 rw[hb,eN];rw[eN,aBI (2 ^ _),aCV]at hS;rw[aBI (2 ^ _),aCV];by_cases e:i=fst' vs S
 .rw[e];simp only[aAi,aEl,aES,aDn,aAz,aAO,aDV,ne_eq,aDX,and_false,decide_false,Bool.and_false];have:2*m % 2=0:=oO;simp[this]
 .have hv:i<vs.length->vs.getD i 0≠vs.getD (fst' vs S) 0:=fun hi=>by rw[aAc,aAc,aAd hi,aAd h];simpa[DW hn hi h]using e
  have h3:(2*m).testBit (i-fst' vs S)=(2*m+1).testBit (i-fst' vs S)\/i<fst' vs S:=by
   by_cases hi:i<fst' vs S
   .exact .inr hi
   .left;obtain⟨j,hj⟩:∃ j,i-fst' vs S=j+1:=⟨i-fst' vs S-1,oO⟩;rw[hj,aCm,aCm]
    congr 1;omega
  have h4:(decide (fst' vs S<=i)&&(2*m).testBit (i-fst' vs S))=(decide (fst' vs S<=i)&&(2*m+1).testBit (i-fst' vs S)):=by
   rcases h3 with h3|h3
   .rw[h3]
   .have:¬fst' vs S<=i:=oO;simp[this]
  rw[h4,<- hS];by_cases hi:i<vs.length
  .have hvi:=hv hi;clear hv hS h4 h3;generalize vs.getD i 0=x at *;generalize vs.getD (fst' vs S) 0=y at *;simp[hi,aAz,hvi]
  .simp[hi]
theorem Kl{vs:List Int}(hn:vs.Nodup)(h64:vs.length<=64){k:Nat}(hk:k<vs.length):ED .u64 1 (k:Int)=mk vs [vs.getD k 0]:=by
 rw[mk_one hn hk];unfold ED;have:min (k:Int).toNat IntKind.u64.bits=k:=by have:IntKind.u64.bits=64:=rfl;omega
 rw[this,Int.one_mul,IntKind.wrap_u64];have h2:2 ^ k<18446744073709551616:=aAp (Nat.pow_lt_pow_right (show 1<2 by decide) (show k<64 by omega)) (aAi _);have h3:((2:Int) ^ k)=((2 ^ k:Nat):Int):=sS;rw[h3];generalize (2:Nat) ^ k=x at h2;omega
abbrev wv(n:Nat):LV:=.atom (.int .u64 n)
theorem zQ(n:Nat):∀ l:List Int,fG n (us l):=fun l=>by
 induction l with
 |nil=>trivial
 |cons a l ih=>exact⟨trivial,ih⟩
def vH(vs:List Int):List (List Int×LV):=(List.range vs.length).map fun k=>([vs.getD k 0],i k)
theorem AX{vs:List Int}(hn:vs.Nodup){k:Nat}(hk:k<vs.length):bR (vH vs) [vs.getD k 0]=some (i k):=by
 have key:∀(L:List Nat),(∀ j∈L,j<vs.length)->k∈L->bR (L.map fun k=>(([vs.getD k 0],i k):List Int×LV)) [vs.getD k 0]=some (i k):=by
  intro L;induction L with
  |nil=>intro _ h;cases h
  |cons j L ih=>
   intro hL hkL;simp only[aAj,bR];by_cases e:j=k
   .subst e;simp
   .have hj:=hL j sS;have Wx:¬vs.getD k 0=vs.getD j 0:=by rw[aAc,aAc,aAd hk,aAd hj];simpa[DW hn hk hj]using fun h=>e h.symm
    rw[aAa (by simpa using Wx)];exact ih (fun j hj=>hL j (aAk _ hj)) ((aAf.1 hkL).resolve_left fun h=>e h.symm)
 exact key _ (fun j hj=>aAX.1 hj) (aAX.2 hk)
def ShB(vs:List Int)(S pl:Nat)(st:St):Prop:=(∃ a b c d e f,st.H S=.box 119 7 [a,b,c,.mp pl,d,e,f])/\st.H pl=.map false [.u32] (vH vs)
theorem AY{vs:List Int}{v:Int}(hv:v∈vs):vs.idxOf v<vs.length/\vs.getD (vs.idxOf v) 0=v:=by have h:=aBa hv;exact⟨h,by rw[aN _ _ h,aCb]⟩
theorem RT{vs:List Int}{S pl:Nat}{st:St}(hS:ShB vs S pl st)(hn:vs.Nodup)(h64:vs.length<=64){v:Int}(hv:v∈vs):
 aB prog 110 [.pt S 0,u v] st fun r st'=>r=wv (mk vs [v])/\st'=st:=by
 obtain⟨⟨a,b,c,d,e,f,Yl⟩,hP⟩:=hS;obtain⟨hk,hg⟩:=AY hv;have h1:=AX hn hk;have h2:=Kl hn h64 hk;rw[hg]at h1 h2;refine zN func110 ntmps110 [.tmp 4] ?_
 (repeat' (first|apply qS|(refine qR (zZ ?_);simp[Yl,hP,h1,h2])|(refine zE ?_;intro J hJ;simp[Yl,hP,h1,h2];refine zJ hJ ?_)))
theorem Rm(vs l:List Int)(j:Nat)(hj:j<l.length)(h:vs.length<=64):gor .u64 (mk vs (l.take j)) (mk vs [l.getD j 0])=mk vs (l.take (j+1)):=by rw[BO vs _ _ h,aAn hj,aAc,aAd hj];rfl
theorem Tv{vs:List Int}{S pl:Nat}{st:St}(hS:ShB vs S pl st)(hn:vs.Nodup)(h64:vs.length<=64)(l:List Int)(t:Nat)(hl:∀ v∈l,v∈vs)(T0:l.length<=1048576):
 aB prog 164 [.pt S 0,.sl t l.length (us l)] st fun r st'=>r=wv (mk vs l)/\st'=st:=by
 refine zN func164 ntmps164 [.tmp 4] ?_
 (repeat' (first|apply qS|apply qB|(refine zE ?_;intro J hJ;simp[];(refine zJ hJ ?_;clear hJ J))))
 have h0:mk vs []=0:=(mk_zero vs []).2 fun _ _=>by simp
 refine bE 10 9 11 19 (l.length) (fun j fr st2=>fr 0=.pt S 0/\fr 8=.sl t l.length (us l)/\fr 5=wv (mk vs (l.take j))/\st2=st) ?_ ?_ ?_
 .exact⟨sS,sS,by simp[h0],rfl⟩
 .rintro j fr s dN ⟨f0,f8,f5,hs⟩ fi fn J hJ;subst hs;have hd:=qG l j dN;have hm:=Rm vs l j dN h64;have hv:l.getD j 0∈vs:=hl _ (by rw[aN _ _ dN];exact aAu _);generalize l.getD j 0=v at *
  (repeat' (first|apply qS|(refine zE ?_;intro J hJ;simp[f0,f8,f5,fi,fn,hd,dN];(try (refine zJ hJ ?_;clear hJ J)))))
  refine qE (RT hS hn h64 hv) sS ?_;rintro r s1 ⟨rfl,h1⟩;rw[h1];clear h1 s1
  (repeat' (apply aD;simp[fi,hm];(refine zJ hJ ?_;clear hJ J)))
  exact hJ _ _ (by simp[fi]) (by simp[fn]) ⟨by simp[f0],by simp[f8],sS,rfl⟩
 .rintro fr s ⟨f0,f8,f5,hs⟩;subst hs;rw[aAQ]at f5
  (repeat' (first|apply qS|(refine qR (zZ ?_);simp[f5])|(refine zE ?_;intro J hJ;simp[f5];(refine zJ hJ ?_;clear hJ J))))
theorem Oy{vs:List Int}{S pl:Nat}{st:St}(hS:ShB vs S pl st)(hSn:S<st.next)(hpn:pl<st.next)(hn:vs.Nodup)(h64:vs.length<=64)(l:List Int)(t:Nat)(hl:∀ v∈l,v∈vs)(T0:l.length<=1048576):
 aB prog 115 [.pt S 0,.sl t l.length (us l)] st fun r st'=>r=.ag [.sl 0 l.length (us l),wv (mk vs l)]/\st'=st:=by
 refine qT (Q:=fun r=>r=.ag [.sl 0 l.length (us l),wv (mk vs l)]) (eE ?_) fun r h=>by subst h;exact⟨⟨.inl rfl,zQ _ _⟩,trivial,trivial⟩
 refine zN func115 ntmps115 [.cell 4 127] ?_
 (repeat' (first|apply qS|(refine zE ?_;intro J hJ;simp[];(try refine zJ hJ ?_))))
 refine qE (Tv (vs:=vs) (S:=S) (pl:=pl) ?_ hn h64 l t hl T0) sS ?_
 .obtain⟨⟨a,b,c,d,e,f,Yl⟩,hP⟩:=hS;exact⟨⟨a,b,c,d,e,f,by rw[cB,aAa oO];exact Yl⟩,by rw[cB,aAa oO];exact hP⟩
 rintro r s1 ⟨rfl,h1⟩;rw[h1];clear h1 s1
 (repeat' (first|(refine qR (zZ ?_);simp[])|(apply aD;simp[];refine zJ hJ ?_)))
 exact⟨by simp[z0,z0L],aA.new _ _⟩
theorem JK{st:St}{m:Nat}{o:cI}(h:st.H m=o):st.set m o=st:=by
 obtain⟨n,H⟩:=st;simp only[St.set,St.mk.injEq,true_and]
 funext y
 by_cases e:y=m
 .subst e;rw[aAe rfl];exact h.symm
 .rw[aAa e]
def prP(a b:Int):Int×Int:=(min a b,max a b)
abbrev pk(p:Int×Int):List Int:=[p.1,p.2]
def JL(L:List (Int×Int))(p:Int×Int):List (Int×Int):=if p∈L then L else L++[p]
def iV:List Int->List (Int×Int)
 |a::b::l=>prP a b::iV (b::l)
 |_=>[]
def kF(L:List (Int×Int))(w:List Int):List (Int×Int):=(iV w).foldl JL L
theorem mQ:∀ w:List Int,(iV w).length=w.length-1
 |[]=>rfl
 |[_]=>rfl
 |a::b::l=>by have:=mQ (b::l);rw[iV,List.length_cons,this];simp
theorem HO:∀(w:List Int) (k:Nat),k+1<w.length->(iV w)[k]?=some (prP (w.getD k 0) (w.getD (k+1) 0))
 |a::b::l,0,_=>by simp[iV]
 |a::b::l,k+1,h=>by rw[iV,List.getElem?_cons_succ,HO (b::l) k (by simpa using h)];simp
 |[],k,h=>by simp at h
 |[_],k,h=>by simp at h
theorem LS(es:List (List Int×LV))(L:List (Int×Int))(p:Int×Int)(v:LV)(h:es.map (·.1)=L.map pk):(bQ es (pk p) v).map (·.1)=(JL L p).map pk:=by
 have Xt:pk p∈L.map pk↔p∈L:=by
  rw[aAm];constructor
  .rintro⟨q,hq,e⟩;simp only[pk,aBj,aDo]at e;obtain⟨e1,e2⟩:=e;have:q=p:=aDD e1 e2;rw[<- this];exact hq
  .intro hp;exact⟨p,hp,rfl⟩
 have key:∀(es:List (List Int×LV)),(bQ es (pk p) v).map (·.1)=if pk p∈es.map (·.1)then es.map (·.1)else es.map (·.1)++[pk p]:=by
  intro es;induction es with
  |nil=>simp[bQ]
  |cons q es ih=>
   simp only[bQ];by_cases e:pk p=q.1
   .rw[aAe (by simpa using e)];simp[e]
   .rw[aAa (by simpa using e),aAj,ih,aAj];by_cases e2:pk p∈es.map (·.1)
    .rw[aAe e2,aAe (aAk _ e2)]
    .rw[aAa e2,aAa (by simp only[aAf,aCv];exact⟨e,e2⟩)];rfl
 rw[key,h];unfold JL;by_cases e:p∈L
 .rw[aAe e,aAe (Xt.2 e)]
 .rw[aAa e,aAa fun k=>e (Xt.1 k),aAv];rfl
theorem pair(a b:Int)(st:St):aB prog 41 [u a,u b] st fun r st'=>r=.ag [u (min a b),u (max a b)]/\st'=st:=by
 refine qT (Q:=fun r=>r=.ag [u (min a b),u (max a b)]) ?_ fun r h=>by subst h;exact⟨trivial,trivial,trivial⟩
 refine zN func41 ntmps41 [.cell 4 73] ?_
 (repeat' (first|apply qS|(refine qR (zZ ?_);simp[])|(refine zE ?_;intro J hJ;simp[];refine zJ hJ ?_)))
 exact⟨⟨by split<;>omega,by split<;>omega⟩,aA.new _ _⟩
theorem OZ{vs:List Int}{S pl ll:Nat}{st:St}{a b c f:LV}{on:List Int}{le:List (List Int×LV)}{L:List (Int×Int)}(Yl:st.H S=.box 119 7 [a,b,c,.mp pl,.mp ll,wv (mk vs on),f])(hP:st.H pl=.map false [.u32] (vH vs))
 (hL:st.H ll=.map true [.u32,.u32] le) (hk:le.map (·.1)=L.map pk) (Zn:¬pl=ll) (hn:vs.Nodup) (h64:vs.length<=64) (w:List Int) (t:Nat) (hw:∀ v∈w,v∈vs) (hwl:w.length<=1000):
 aB prog 114 [.pt S 0,.sl t w.length (us w)] st fun _ st'=>∃ W0,st'=(st.set ll (.map true [.u32,.u32] W0)).set S (.box 119 7 [a,b,c,.mp pl,.mp ll,wv (mk vs (on++w)),f])/\W0.map (·.1)=(kF L w).map pk:=by
 have n1:¬S=ll:=fun h=>by rw[h,hL]at Yl;cases Yl
 have n2:¬ll=S:=fun h=>n1 h.symm;have n3:¬pl=S:=fun h=>by rw[h,Yl]at hP;cases hP
 refine zN func114 ntmps114 [] ?_
 (repeat' (first|apply qS|apply qB|(refine zE ?_;intro J hJ;simp[];refine zJ hJ ?_)))
 refine qL (fun n fr st'=>∃ k:Nat,1<=k/\(k=1\/k<=w.length)/\n=w.length-k/\fr 0=.pt S 0/\fr 1=.sl t w.length (us w)/\fr 4=i k/\∃ W0,st'=st.set ll (.map true [.u32,.u32] W0)/\W0.map (·.1)=(((iV w).take (k-1)).foldl JL L).map pk) (w.length-1) ?_ ?_
 .exact⟨1,oO,.inl rfl,rfl,sS,sS,sS,le,(JK hL).symm,by simpa using hk⟩
 rintro n fr s ⟨k,Xn,Xx,rfl,f0,f1,f4,W0,rfl,Xq⟩ JJ hJJ;by_cases dN:k<w.length
 .have ZE:=qN k oO;have hd:=qG w k dN;have Xu:=qG w (k-1) oO;have hg:=HO w (k-1) oO;have hwl2:=mQ w;have e1:IntKind.i64.wrap ((k:Int)-1)=((k-1:Nat):Int):=zW;have e4:k-1<w.length:=oO;rw[show k-1+1=k by omega]at hg;have E9:∀ v,(bQ W0 (pk (prP (w.getD (k-1) 0) (w.getD k 0))) v).map (·.1)=(((iV w).take (k+1-1)).foldl JL L).map pk:=fun v=>by rw[LS _ _ _ _ Xq,show k+1-1=(k-1)+1 by omega];have ZS:k-1<(iV w).length:=oO;rw[aAn ZS,aBo];rw[aAd ZS,aAb]at hg;rw[hg];rfl
  generalize w.getD (k-1) 0=x at *;generalize w.getD k 0=y at *
  (repeat' (first|apply qS|apply qB|refine qK (zZ ?_)|(apply qC;simp[f0,f1,f4,dN])|(refine zE ?_;intro J hJ;simp[f0,f1,f4,dN];refine zJ hJ ?_)))
  (refine zS [] [S] [0,2,4,6,8,10,12,14,16,18,20,22,24,28,26,31] ?_;intro J hJ;simp[f0,f1,f4,dN,Yl,hL,n1,n2,e1,e4,hd,Xu])
  refine qD (pair x y _) sS ?_;rintro r s1 ⟨rfl,h1⟩;rw[h1];clear h1 s1;refine⟨fun h=>by first|(cases h;done)|simp,?_⟩
  (apply aV;simp[n1,n2,hL];refine zJ hJ ?_)
  (repeat' (refine zE ?_;intro J hJ;simp[f4,ZE];refine zJ hJ ?_))
  refine hJJ _ _ _ ?_ ⟨k+1,oO,.inr oO,rfl,by simp[f0],by simp[f1],sS,_,set_set _ _ _ _,E9 _⟩;omega
 .have H7:(iV w).take (k-1)=iV w:=aAr (by rw[mQ];omega);rw[H7]at Xq;have hB:ShB vs S pl (st.set ll (.map true [.u32,.u32] W0)):=⟨⟨a,b,c,.mp ll,wv (mk vs on),f,by rw[bN,aAa n1];exact Yl⟩,by rw[bN,aAa Zn];exact hP⟩;have hor:=BO vs on w h64
  (repeat' (first|apply qS|refine qX (zZ ?_)|(apply qC;simp[f0,f1,f4,dN])|(refine zE ?_;intro J hJ;simp[f0,f1,f4,dN];refine zJ hJ ?_)))
  (refine zS [] [S] [0,2,4,6,8,10,12,14,16,18,21] ?_;intro J hJ;simp[f0,f1,Yl,n1])
  refine qD (Tv hB hn h64 w t hw oO) sS ?_;rintro r s1 ⟨rfl,h1⟩;rw[h1];clear h1 s1;refine⟨fun h=>by first|(cases h;done)|simp,?_⟩
  (apply aV;simp[Yl,n1,hor];refine zJ hJ ?_)
  skip
  exact⟨trivial,W0,rfl,Xq⟩
end Aw
namespace Aw
open Go Go.RowKit
theorem RF(x k idx:Nat)(w:World)(ZX:((x:Int)==0)=false)
 (key:IntKind.u64.wrap (bits BinOp.and IntKind.u64 (x:Int) (IntKind.u64.wrap (-(x:Int)))*285870213051353865) / 288230376151711744=(idx:Int))
 (hi:idx<64) (hk:k<64) (hcell:w.cell? ⟨0,idx,none⟩=some (.int .u8 k)):
 Calls prog 118 #[.int .u64 x] w fun e w'=>e=.returned (.int .i64 k)/\w'=w:=by
 go_enter func118,ntmps118
 go_wp2_with (simp only[key])
 go_ret
 exact⟨rfl,rfl⟩
theorem Qu(w:World):
 Calls prog 118 #[.int .u64 0] w fun e w'=>e=.returned (.int .i64 64)/\w'=w:=by
 go_enter func118,ntmps118
 go_wp2
 go_ret
 exact⟨rfl,rfl⟩
theorem Uh(x a:Nat)(hx:x<18446744073709551616)(ZX:x≠0)(Zu:x &&& (18446744073709551616-x)=a):
 IntKind.u64.wrap (bits BinOp.and IntKind.u64 (x:Int) (IntKind.u64.wrap (-(x:Int)))*285870213051353865) / 288230376151711744=((a*285870213051353865 % 18446744073709551616 / 288230376151711744:Nat):Int):=by
 have e1:IntKind.u64.wrap (-(x:Int))=((18446744073709551616-x:Nat):Int):=by rw[IntKind.wrap_u64];omega
 rw[e1,bits_and_u64_nat x _ hx oO,Zu,IntKind.wrap_u64];omega
theorem Pz{w:World}{g:G}(h:gU w g)(idx k:Nat)(hi:idx<64)(hk:Lib.deBruijn64tab.getD idx 0=k):w.cell? ⟨0,idx,none⟩=some (.int .u8 k):=by
 have hl:Lib.deBruijn64tab.length=64:=rfl;have h2:Lib.deBruijn64tab[idx]?=some k:=by rw[aAc,aAd (by rw[hl];exact hi),Option.getD_some]at hk;rw[aAd (by rw[hl];exact hi),hk]
 have h3:=h (0,Lib.deBruijn64tab.map fun(n:Nat)=>.int .u8 n) (aAl.2 rfl) idx (.int .u8 k);generalize Lib.deBruijn64tab=T at *;exact(h3 (by show(T.map fun(n:Nat)=>Value.int .u8 n)[idx]?=_;rw[aBL,h2];rfl)).1
theorem PD(x:Nat)(hx:x<18446744073709551616){w:World}{g:G}(h:gU w g):Calls prog 118 #[.int .u64 x] w fun e w'=>e=.returned (.int .i64 (Lib.ctz 64 x))/\w'=w:=by
 by_cases ZX:x=0
 .subst ZX;exact Qu w
 .obtain⟨Zu,hk⟩:=Lib.lowest_bit 64 x ZX hx;obtain⟨Yo,htab⟩:=Lib.deBruijn64_at _ hk;exact RF x _ _ w (by simp;omega) (Uh x _ hx ZX Zu) Yo hk (Pz h _ _ Yo htab)
theorem Kv:Enters prog 118:=enters_of func118 (by kernel_rfl) rfl
theorem Tz(x:Nat)(hx:x<18446744073709551616)(st:St):aB prog 118 [.atom (.int .u64 x)] st fun r st'=>r=i (Lib.ctz 64 x)/\st'=st:=by refine⟨Kv,fun w g vs hi hr=>?_⟩;simp only[aC,Rep]at hr;obtain⟨v,vs',rfl,rfl,rfl⟩:=hr;refine(PD x hx hi.aside.glob).mono ?_;rintro e w' ⟨rfl,rfl⟩;exact⟨_,_,st,g,rfl,⟨rfl,rfl⟩,by simp only[Rep],hi,Ext.refl _ _⟩
end Aw
namespace Aw
open Go Go.RowKit Pl
def lJ(g:Gr):List LV:=g.vs.map fun v=>wv (mk g.vs (nbr g.es v))
@[simp] theorem Up(g:Gr):(lJ g).length=g.vs.length:=by simp[lJ]
theorem Il(g:Gr)(k:Nat)(hk:k<g.vs.length):(lJ g).drop k=wv (mk g.vs (nbr g.es (g.vs.getD k 0)))::(lJ g).drop (k+1):=by unfold lJ;rw[aAM (by simpa using hk),aCn,aN _ _ hk]
def arn(g:Gr)(A:List Int):List Int:=A.flatMap (nbr g.es)
theorem Md{g:Gr}{A B:List Int}(h:∀ v,v∈A↔v∈B):mk g.vs (arn g A)=mk g.vs (arn g B):=mk_congr fun v _=>by unfold arn;rw[aAT,aAT];exact⟨fun⟨x,hx,h2⟩=>⟨x,(h x).1 hx,h2⟩,fun⟨x,hx,h2⟩=>⟨x,(h x).2 hx,h2⟩⟩
theorem SZ{g:Gr}{S nl:Nat}{st:St}{a b d e f h:LV}(Yl:st.H S=.box 119 7 [a,b,.ms nl 0 g.vs.length,d,e,f,h])(hN:st.H nl=.box 116 1 (lJ g))(hn:g.vs.Nodup)(h64:g.vs.length<=64)(A:List Int)(hA:∀ v∈A,v∈g.vs):
 aB prog 165 [.pt S 0,wv (mk g.vs A)] st fun r st'=>r=wv (mk g.vs (arn g A))/\st'=st:=by
 refine zN func165 ntmps165 [.tmp 4] ?_
 (repeat' (first|apply qS|apply qB|(refine zE ?_;intro J hJ;simp[];refine zJ hJ ?_)))
 have h0:mk g.vs []=0:=(mk_zero g.vs []).2 fun _ _=>by simp
 refine qL (fun n fr st'=>∃ D R:List Int,n=(g.vs.filter fun v=>decide (v∈R)).length/\(∀ v,v∈A↔v∈D\/v∈R)/\fr 0=.pt S 0/\fr 1=wv (mk g.vs R)/\fr 5=wv (mk g.vs (arn g D))/\st'=st) (g.vs.filter fun v=>decide (v∈A)).length ?_ ?_
 .exact⟨[],A,rfl,fun v=>by simp,sS,sS,by simp[arn,h0],rfl⟩
 rintro n fr s ⟨D,R,rfl,hDR,f0,f1,f5,rfl⟩ JJ hJJ;have hRA:∀ v∈R,v∈g.vs:=fun v hv=>hA v ((hDR v).2 (.inr hv));by_cases hR:fst' g.vs R<g.vs.length
 .have Wx:=FA hR;have hb:((mk g.vs R:Int) != 0)=true:=by simpa using Wx
  have hct:=Df h64 hR;have dN:=mN g.vs R h64;have Zs:=Il g _ hR;obtain⟨F9,hv2⟩:=RS hR;have hdp:=Ka h64 hn hR;have hi0:(0:Int)<=(fst' g.vs R:Int):=oO;have M5:(fst' g.vs R:Int)<g.vs.length:=oO;have hTz:=fun st=>Tz (mk g.vs R) dN st;rw[hct]at hTz;generalize g.vs.getD (fst' g.vs R) 0=v at *;have hor:=BO g.vs (arn g D) (nbr g.es v) h64
  (repeat' (first|apply qS|apply qB|refine qK (zZ ?_)|(apply qC;simp[f1,hb])|(refine zE ?_;intro J hJ;simp[f1,hb];refine zJ hJ ?_)))
  (refine zS [] [S,nl] [0,2,4,6,8,10,12,14,16,18,20] ?_;intro J hJ;simp[f0,f1,f5,Yl,hN])
  refine qD (hTz _) sS ?_;rintro r s1 ⟨rfl,h1⟩;rw[h1];clear h1 s1;refine⟨fun h=>by first|(cases h;done)|simp,?_⟩
  (apply aV;simp[Yl,hN,Zs,hi0,M5,hR,hor];refine zJ hJ ?_)
  (repeat' (refine zE ?_;intro J hJ;simp[f1,hdp];refine zJ hJ ?_))
  refine hJJ _ _ _ ?_ ⟨D++[v],R.filter fun w=>decide (w≠v),rfl,fun w=>?_,by simp[f0],sS,by simp[arn],rfl⟩
  .have Yv:(g.vs.filter fun w=>decide (w∈R.filter fun w=>decide (w≠v)))=(g.vs.filter fun w=>decide (w∈R)).filter fun w=>decide (w≠v):=by rw[List.filter_filter];refine List.filter_congr fun w _=>?_;simp only[aAz,aAO,Bool.decide_and];rw[Bool.and_comm]
   rw[Yv];refine List.length_filter_lt_length_iff_exists.2 ⟨v,?_,sS⟩;rw[aAz];exact⟨hv2,by simpa using F9⟩
  .rw[hDR,aAg,aAl,aAz,aAO];constructor
   .rintro(h|h)
    .exact .inl (.inl h)
    .by_cases e:w=v
     .exact .inl (.inr e)
     .exact .inr ⟨h,e⟩
   .rintro((h|h)|h)
    .exact .inl h
    .rw[h];exact .inr F9
    .exact .inr h.1
 .have YI:∀ v∈g.vs,v∉R:=fun v hv hvR=>hR (Tt.2 ⟨v,hv,hvR⟩);have hz:mk g.vs R=0:=(mk_zero g.vs R).2 YI;have hb:((mk g.vs R:Int) != 0)=false:=by rw[hz];rfl
  have Xp:mk g.vs (arn g D)=mk g.vs (arn g A):=Md fun v=>by rw[hDR];exact⟨.inl,fun h=>h.elim id fun h=>absurd h (YI v (hRA v h))⟩
  rw[hz]at f1
  (repeat' (first|apply qS|refine qX (zZ ?_)|(refine qR (zZ ?_);simp[f1,f5,Xp])|(apply qC;simp[f1,f5,Xp])|(refine zE ?_;intro J hJ;simp[f1,f5,Xp];refine zJ hJ ?_)))
structure Brg where
 inner:List Int
 ends:List Int
def nrS(vs A:List Int):List Int:=vs.filter fun v=>decide (v∈A)
def off(A B:List Int):List Int:=A.filter fun v=>!decide (v∈B)
def on'(A B:List Int):List Int:=A.filter fun v=>decide (v∈B)
theorem EI(vs A:List Int):mk vs (nrS vs A)=mk vs A:=mk_congr fun v hv=>by simp[nrS,hv]
def xH(g:Gr)(on:List Int):Nat->List Int->Option Brg
 |0,_=>none
 |n+1,inner=>
  if off (off (nrS g.vs (arn g inner)) on) inner=[]then some ⟨inner,on' (nrS g.vs (arn g inner)) on⟩
  else xH g on n (nrS g.vs (inner++off (nrS g.vs (arn g inner)) on))
def rX(g:Gr)(on:List Int):Nat->List Int->Option (List Brg)
 |_,[]=>some []
 |0,_::_=>none
 |n+1,v::R=>(xH g on (g.vs.length+1) [v]).bind fun b=>(rX g on n (off (v::R) b.inner)).map (b::·)
def oM(g:Gr)(L:List (Int×Int))(on:List Int)(es:List Ed):List Brg:=
 (es.filter fun x=>decide (prP x.a x.b∉L)&&decide (x.a∈on)&&decide (x.b∈on)).map fun x=>⟨[],[x.a,x.b]⟩
def Lg(g:Gr)(L:List (Int×Int))(on:List Int):Option (List Brg):=(rX g on (g.vs.length+1) (off g.vs on)).map fun l=>oM g L on g.es++l
def mU(vs:List Int)(l:List Brg):List LV:=l.flatMap fun b=>[wv (mk vs b.inner),wv (mk vs b.ends)]
@[simp] theorem Hh(vs:List Int):∀ l:List Brg,(mU vs l).length=l.length*2
  |[]=>rfl
  |b::l=>by have:=Hh vs l;simp only[mU,aAJ,aAh,List.length_cons,List.length_nil]at this ⊢;omega
theorem CV(vs:List Int)(l:List Brg)(b:Brg):mU vs l++[wv (mk vs b.inner),wv (mk vs b.ends)]=mU vs (l++[b]):=by simp[mU]
theorem Ov{es:List (List Int×LV)}{L:List (Int×Int)}(h:es.map (·.1)=L.map pk)(p:Int×Int):(p∈L->∃ v,bR es (pk p)=some v)/\(p∉L->bR es (pk p)=none):=by
 have Xt:pk p∈es.map (·.1)↔p∈L:=by
  rw[h,aAm];constructor
  .rintro⟨q,hq,e⟩;simp only[pk,aBj,aDo]at e;have:q=p:=aDD e.1 e.2;rw[<- this];exact hq
  .intro hp;exact⟨p,hp,rfl⟩
 have key:∀ es:List (List Int×LV),(pk p∈es.map (·.1)->∃ v,bR es (pk p)=some v)/\(pk p∉es.map (·.1)->bR es (pk p)=none):=by
  intro es;induction es with
  |nil=>simp[bR]
  |cons q es ih=>
   simp only[bR,aAj,aAf];by_cases e:pk p=q.1
   .rw[aAe (by simpa using e)];exact⟨fun _=>⟨_,rfl⟩,fun h=>absurd (.inl e) h⟩
   .rw[aAa (by simpa using e)];exact⟨fun h=>ih.1 (h.resolve_left e),fun h=>ih.2 fun k=>h (.inr k)⟩
 rw[<- Xt];exact key es
theorem Le(g:Gr)(L:List (Int×Int))(on:List Int)(es:List Ed)(j:Nat)(hj:j<es.length):
 oM g L on (es.take (j+1))=oM g L on (es.take j)++if(prP (es.getD j ed0).a (es.getD j ed0).b∉L/\(es.getD j ed0).a∈on)/\(es.getD j ed0).b∈on then [⟨[],[(es.getD j ed0).a,(es.getD j ed0).b]⟩]else []:=by
 unfold oM;rw[aAn hj,aBu,aAv,aAc,aAd hj,Option.getD_some];generalize es[j]=x
 congr 1
 by_cases h:(prP x.a x.b∉L/\x.a∈on)/\x.b∈on
 .rw[aAe h];simp[h.1.1,h.1.2,h.2]
 .rw[aAa h];rw[aDe.2];rfl;intro y hy;rw[aAl]at hy;subst hy;simpa[and_assoc]using h
theorem KK{vs A B:List Int}(hA:∀ v∈A,v∈vs):mk vs (off A B)=0↔off A B=[]:=by
 rw[mk_zero];constructor
 .intro h;exact aCw.2 fun v hv=>h v (hA v (aAz.1 hv).1) hv
 .intro h v _;rw[h];simp
end Aw
end Go.Proofs.YtempldclppogmaaGreatDoor
