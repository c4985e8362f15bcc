/- Blocks: rows of edges and rows of blocks in order. -/
import Derived.Test.YtbgngpdonpeboaaGreatDoorJl
import Derived.Test.YtbgngpdonpeboaaGreatDoorAwFz
import Derived.Test.YtbgngpdonpeboaaGreatDoorAwRg
import Derived.Test.YtbgngpdonpeboaaGreatDoorAwZ
import Derived.Test.YtbgngpdonpeboaaGreatDoorAwFr
set_option linter.defProp false
set_option linter.unusedVariables false
set_option linter.unusedSimpArgs false
set_option maxHeartbeats 8000000
open Go.Proofs.Tryz
namespace Go.Proofs.YtbgngpdonpeboaaGreatDoor
namespace Aw
open Go Go.RowKit Pl Eu
section
variable {es:List Ed} (Y9:es.Pairwise fun x y=>x.id<y.id)
include Y9
theorem WL{a b:Nat}(c:a<es.length)(d:b<es.length):(am es a).id<(am es b).id↔a<b:=by
 unfold am;rw[fA _ _ c,fA _ _ d];rw[fq]at Y9;rcases ni a b with k|k|k
 .exact⟨fun _=>k,fun _=>Y9 a b c d k⟩
 .subst k;omega
 .have:=Y9 b a d c k;omega
theorem ZF(P:List Nat)(t:P.Nodup)(f:∀ i∈P,i<es.length)(q:Nat)(a:St)(A:P.length<65536)(v:q<a.z)(n:a.H q=.box 36 3 (eds (P.map (am es)))):
 aB prog 169 [.ms q 0 P.length,.fn (.func 170) []] a fun r b=>b.H q=.box 36 3 (eds ((tP es.length P).map (am es)))/\bR q a b:=by
 have e:∀ L:List Nat,eds ((L.map fun k:Nat=>(k:Int)).map fun x=>am es x.toNat)=eds (L.map (am es)):=fun L=>by rw[dy];rfl
 have h:=YS (fun x=>am es x.toNat) (fun x=>0<=x/\x.toNat<es.length) (fun x y d w=>by rw[WL Y9 d.2 w.2];omega) (P.map fun k:Nat=>(k:Int)) (fun x d=>by
  obtain⟨k,p,rfl⟩:=aq.1 d
  exact⟨oO,by simpa using f k p⟩) q a (by rw[dh];omega) v (by rw[e];exact n)
 rw[dh]at h;refine h.mono ?_;rintro r s ⟨c,g,j,l,m⟩;refine⟨?_,m⟩;have o:c=(tP es.length P).map fun k:Nat=>(k:Int):=by refine KX l ?_ (j.trans ((vT t f).map _).symm);rw[fa];exact(xH _ _).imp fun k=>by omega
 rw[g,o,e]
def gz(es:List Ed)(a:List (List Nat)):List LV:=a.map fun B=>.sl 0 B.length (eds (B.map (am es)))
omit Y9 in
theorem BW(es:List Ed)(a:List (List Nat)):(gz es a).length=a.length:=by simp[gz]
omit Y9 in
theorem Xc{z:Nat}(e:z<es.length)(b:(iK es z).headD 0=z):∃ R,iK es z=z::R:=by
 have d:z∈iK es z:=Gl.2 ⟨e,.refl⟩;cases c:iK es z with
 |nil=>rw[c]at d;cases d
 |cons a R=>rw[c]at b;simp at b;exact⟨R,by rw[b]⟩
theorem ZJ(d:List (List Nat))(l:∀ i,i∈d.flatten↔i<es.length)(j:∀ B∈d,dO es B)(w:d.flatten.Nodup)(q:Nat)(n:St)(T:d.length<65536)(P:q<n.z)(N:n.H q=.box 23 1 (gz es d)):
 aB prog 98 [.ms q 0 d.length,.fn (.func 99) []] n fun r o=>o.H q=.box 23 1 (gz es (gA es))/\(gA es).Perm d/\bR q n o:=by
 obtain⟨L,k⟩:∃ L:AN,L=d.map fun B=>((B.headD 0:Nat):Int):=⟨_,rfl⟩;have C:∀ B∈d,iK es (B.headD 0)=B:=fun B h=>((j B h).cls (head_mem (j B h).ne)).symm;have D:∀ x∈L,0<=x/\x.toNat<es.length/\(iK es x.toNat).headD 0=x.toNat:=fun x f=>by
  rw[k]at f;obtain⟨B,h,rfl⟩:=aq.1 f;refine⟨oO,?_,?_⟩
  .simpa using(j B h).lt _ (head_mem (j B h).ne)
  .rw[Int.toNat_natCast,C B h]
 have e:∀ c:AN,(c.map fun x=>LV.sl 0 (iK es x.toNat).length (eds ((iK es x.toNat).map (am es))))=gz es (c.map fun x=>iK es x.toNat):=fun c=>by unfold gz;rw[dy];rfl
 have A:L.map (fun x=>iK es x.toNat)=d:=by
  rw[k,dy];have:∀ B∈d,((fun x:Int=>iK es x.toNat)∘fun B:List Nat=>((B.headD 0:Nat):Int)) B=B:=fun B h=>by show iK es ((B.headD 0:Nat):Int).toNat=B;rw[Int.toNat_natCast];exact C B h
  rw[ii this,List.map_id']
 have t:L.Nodup:=by rw[k];refine fa.2 ?_;have:=(yf.1 w).2;refine this.imp_of_mem fun {a b} ha hb hd he=>?_;exact hd _ (head_mem (j a ha).ne) _ (head_mem (j b hb).ne) oO
 have h:=YZ (fun x=>(iK es x.toNat).length) (fun x=>eds ((iK es x.toNat).map (am es))) (fun x=>(am es x.toNat).id) (fun x=>0<=x/\x.toNat<es.length/\(iK es x.toNat).headD 0=x.toNat) (fun x f=>by
  obtain⟨R,O⟩:=Xc f.2.1 f.2.2;rw[O]
  exact⟨sS,_,rfl⟩) (fun x y f S=>by rw[WL Y9 f.2.1 S.2.1];omega) L D q n (by rw[k,dh];omega) P (by rw[e,A];exact N)
 rw[show L.length=d.length by rw[k,dh]]at h;refine h.mono ?_;rintro r s ⟨c,F,p,I,J⟩;have m:∀ x∈c,0<=x/\x.toNat<es.length/\(iK es x.toNat).headD 0=x.toNat:=fun x f=>D x (p.mem_iff.1 f);have E:(c.map fun x=>iK es x.toNat).Perm d:=by
  have:=p.map fun x:Int=>iK es x.toNat
  rwa [A]at this
 have Q:(c.map fun x=>iK es x.toNat).Pairwise fun x y=>x.headD 0<y.headD 0:=by rw[fa];have v:=p.nodup_iff.2 t;refine(I.and v).imp_of_mem fun {a b} ha hb x9=>?_;have K:=m a ha;have M:=m b hb;rw[K.2.2,M.2.2];have:=x9.2;have:=x9.1;omega
 have g:=CL l j E Q;refine⟨by rw[F,e,g],by rw[<- g];exact E,J⟩
end
def eo(l:List Nat):List LV:=l.map fun k:Nat=>i (k:Int)
@[simp] theorem lI(l:List Nat):(eo l).length=l.length:=by simp[eo]
def Qp(l:List Nat)(k:Nat)(a:k<l.length):(eo l).drop k=i ((l.getD k 0:Nat):Int)::(eo l).drop (k+1):=by
 grind [eo,List.drop_eq_getElem_cons]
def Qg(l:List Nat)(k:Nat):(eo l).take k=eo (l.take k):=by simp[eo]
def ZO{v x:Int}{V:AN}(h:¬v=x):(v::V).idxOf x=V.idxOf x+1:=by
 grind
def ja:Nat->AN->List (AN×LV)
 |_,[]=>[]
 |k,v::V=>([v],i ((k:Int)+1))::ja (k+1) V
def KP(V:AN):∀ k,(ja k V).length=V.length:=by
 induction V with
 |nil=>intro k;rfl
 |cons v V a=>grind [ja]
theorem RZ(V:AN)(x:Int):∀ k,bQ (ja k V) [x]=if x∈V then some (i ((k:Int)+du V x))else none:=by
 induction V with
 |nil=>intro k;rfl
 |cons v V a=>
  grind [ja,bQ,du]
def QJ{x:Int}(V:AN)(h:x∉V):∀ k,bV (ja k V) [x] (i ((k:Int)+V.length+1))=ja k (V++[x]):=by
 induction V with
 |nil=>grind [ja,bV]
 |cons v V a=>
  intro k;rw[ah,gy]at h
  grind [ja,bV]
def LY(V:AN)(x:Int):bQ (ja 0 V) [x]=if x∈V then some (i (du V x))else none:=by
 grind [RZ]
def Uv{x:Int}{V:AN}(h:x∉V):bV (ja 0 V) [x] (i ((V.length:Int)+1))=ja 0 (V++[x]):=by
 have:=QJ V h 0
 grind
def gj:AN->AN->List (AN×LV)
 |v::V,x::L=>([v],i x)::gj V L
 |_,_=>[]
theorem uN:∀(V L:AN) (x:Int),L.length=V.length->x∈V->bQ (gj V L) [x]=some (i (L.getD (V.idxOf x) 0))
 |[],_,_,_,h=>by cases h
 |v::V,[],x,hl,_=>by grind
 |v::V,y::L,x,hl,h=>by
  unfold gj bQ;by_cases e:v=x
  .grind
  .have a:¬([x]==[v])=true:=by simpa using fun k=>e k.symm
   simp only[a,iv,gx];rw[uN V L x (by grind) (by grind),ZO e];rfl
theorem xP:∀(V L:AN) (x y:Int),L.length=V.length->x∉V->bV (gj V L) [x] (i y)=gj (V++[x]) (L++[y])
 |[],[],_,_,_,_=>rfl
 |[],_::_,_,_,hl,_=>by grind
 |v::V,[],x,_,hl,_=>by grind
 |v::V,z::L,x,y,hl,h=>by
  rw[ah,gy]at h;have e:¬([x]==[v])=true:=by simpa using h.1
  unfold gj bV;simp only[e,iv,gx,List.cons_append];rw[xP V L x y (by grind) h.2]
theorem qJ:∀(V L:AN) (x y:Int),L.length=V.length->x∈V->bV (gj V L) [x] (i y)=gj V (L.set (V.idxOf x) y)
 |[],_,_,_,_,h=>by cases h
 |v::V,[],x,_,hl,_=>by grind
 |v::V,z::L,x,y,hl,h=>by
  unfold gj bV;by_cases e:v=x
  .grind
  .have a:¬([x]==[v])=true:=by simpa using fun k=>e k.symm
   simp only[a,iv,gx];rw[qJ V L x y (by grind) (by grind),ZO e];rfl
def KI{l:List Nat}{i:Nat}(h:i∈l):jO l i<l.length/\l.getD (jO l i) 0=i/\∀ j,jO l i<j->j<l.length->l.getD j 0≠i:=by
 obtain⟨P,R,rfl,a⟩:∃ P R,l=P++i::R/\i∉R:=by
  obtain⟨P,R,e,a⟩:=List.eq_append_cons_of_mem (jl.2 h);refine⟨R.reverse,P.reverse,?_,by grind⟩
  grind
 grind [vS]
structure sK(g:Gr)(B W a nb lw:Nat)(tk:Int->Nat)(s:Bw)(st:St):Prop where
 ex:∃ tS tB CS ea,st.H W=.box 126 6 [.sl 0 g.E.length (eds g.E),.mp a,.mp nb,.mp lw,.ms tS 0 s.stk.length,.ms tB 0 s.out.length]/\
  (st.H a=.map false [.u32] ea/\∀ v,bQ ea [v]=if cm g.E v=[]then none else some (.sl (tk v) (cm g.E v).length (eo (cm g.E v))))/\
  st.H nb=.map false [.u32] (ja 0 s.w)/\st.H lw=.map false [.u32] (gj s.w s.low)/\(st.H tS=.box 3 1 CS/\CS.take s.stk.length=eo s.stk)/\st.H tB=.box 23 1 (gz g.E s.out)/\
  (a≠nb/\a≠lw/\nb≠lw)/\(B<=tS/\B<=tB/\tS<st.z/\tB<st.z)
 bd:(B<=W/\B<=a/\B<=nb/\B<=lw)/\(W<st.z/\a<st.z/\nb<st.z/\lw<st.z)
def bC{c:St}{a b:Nat}{x y:cK}(d:c.H a=x)(f:c.H b=y)(h:x≠y):¬a=b:=fun e=>h (by rw[<- d,e,f])
def Qf{a:List Ed}{P:List Nat}{j:Nat}(b:j<P.length):(P.take (j+1)).map (am a)=(P.take j).map (am a)++[am a (P.getD j 0)]:=by rw[eL b,cr,cp,cg b];rfl
structure KbB(B:Nat)(st st':St):Prop where
 z:st.z<=st'.z
 H:∀ x,x<B->st'.H x=st.H x
theorem KbB.refl(B:Nat)(a:St):KbB B a a:=⟨au _,fun _ _=>rfl⟩
def KbB.trans{B:Nat}{a b c:St}(h:KbB B a b)(k:KbB B b c):KbB B a c:=⟨er h.z k.z,fun x d=>by rw[k.H x d,h.H x d]⟩
theorem KbB.new{B:Nat}{a b:St}(h:KbB B a b)(d:B<=b.z)(o:cK):KbB B a (b.new o):=⟨by rw[aH];exact Nat.le_succ_of_le h.z,fun x c=>by rw[cB,ac oO];exact h.H x c⟩
theorem KbB.set{B:Nat}{a b:St}(h:KbB B a b){l:Nat}(d:B<=l)(o:cK):KbB B a (b.set l o):=⟨h.z,fun x c=>by rw[bP,ac oO];exact h.H x c⟩
def C9(g:Gr)(Y9:g.E.Pairwise fun x y=>x.id<y.id)(B W a N M:Nat)(tk:Int->Nat)(s:Bw)(f:Nat)(O:St)(h:sK g B W a N M tk s O)(hi:f∈s.stk)(v:∀ k∈s.stk.drop (jO s.stk f),k<g.E.length)(S:(s.stk.drop (jO s.stk f)).Nodup)(he:g.E.length<=1000)(W6:s.stk.length<=60000)(hol:s.out.length<=100000):
 aB prog 135 [.pt W 0,i f] O fun r st'=>∃ s',Gz g.E.length s f=some s'/\sK g B W a N M tk s' st'/\KbB B O st':=by
 obtain⟨hl1,hl2,hl3⟩:=KI hi;have hcw:Gz g.E.length s f=some { s with stk:=s.stk.take (jO s.stk f),out:=s.out++[tP g.E.length (s.stk.drop (jO s.stk f))] }:=by unfold Gz;rw[ad hi]
 rw[hcw];clear hcw;obtain⟨⟨d,U,p,ea,L,⟨hA,hAm⟩,hN,hL,⟨K,Q⟩,W5,⟨n1,n2,n3⟩,⟨b1,b2,b3,b4⟩⟩,⟨c1,c2,c3,c4⟩,d1,d2,d3,d4⟩:=h;generalize R7:jO s.stk f=kl at *;obtain⟨P,hP⟩:∃ P,P=s.stk.drop kl:=⟨_,rfl⟩;rw[<- hP]at v S ⊢;have hPl:P.length=s.stk.length-kl:=by rw[hP,gk]
 have hPe:P.length<=g.E.length:=by have:=fg S (fun k Z=>fC.2 (v k Z));rwa [qt]at this
 have hCS:s.stk.length<=p.length:=by have:=congrArg List.length Q;rw[dn,lI]at this;omega
 have hCd:∀ k,k<s.stk.length->p.drop k=i ((s.stk.getD k 0:Nat):Int)::p.drop (k+1):=fun k Z=>by
  have e1:p=eo s.stk++p.drop s.stk.length:=by rw[<- Q];exact(gd _ _).symm
  rw[ir oO]
  congr 1
  have:p[k]'(by omega)=(eo s.stk)[k]'(by simpa using Z):=by have h2:=List.getElem_of_eq Q (i:=k) (by rw[dn];omega);rw[mj]at h2;exact h2
  rw[this];simp[eo,Z]
 have w1:=aV s.stk.length oO oO;have m1:¬W=d:=bC L K sS;have Y:¬W=U:=bC L W5 sS;have m3:¬d=U:=bC K W5 sS;have m4:¬W=a:=bC L hA sS;have m5:¬W=N:=bC L hN sS;have m6:¬W=M:=bC L hL sS;have m7:¬a=d:=bC hA K sS;have m8:¬a=U:=bC hA W5 sS;have m9:¬N=d:=bC hN K sS;have w:¬N=U:=bC hN W5 sS;have m11:¬M=d:=bC hL K sS;have A:¬M=U:=bC hL W5 sS;refine zN func135 ntmps135 [] ?_;refine cy L w1 ?_;refine qL (fun n o c=>∃ k:Nat,n=k/\c=O/\o 0=.pt W 0/\o 1=i f/\o 4=i k/\kl<=k/\k<s.stk.length) (s.stk.length-1) ?_ ?_
 .exact⟨s.stk.length-1,rfl,rfl,sS,sS,sS,oO,oO⟩
 rintro k o c ⟨_,rfl,X3,f0,f1,f4,o6,u5⟩ JJ hJJ;rw[X3];clear X3 c;have hd:=hCd k u5;have hkc:k<p.length:=oO;by_cases Z:k=kl;rotate_left
 .have c7:=hl3 k oO u5;generalize s.stk.getD k 0=y at *;have R:((y:Int) != (f:Int))=true:=by rw[bne_iff_ne];omega
  have w2:=aV k oO oO;refine Gx f0 f1 f4 L K hd hkc u5 R w2 ?_;exact hJJ (k-1) _ _ oO ⟨k-1,rfl,rfl,aa f0,aa f1,sS,oO,oO⟩
 clear hJJ;subst Z;rw[hl2]at hd;have R:((f:Int) != (f:Int))=false:=sS;refine lz f0 f1 f4 L K hd hkc u5 R ?_;rw[<- hPl];refine BN 5 36 3 sS ?_;have hel:=aJ g.E;refine bH 32 31 33 46 (P.length) (fun j o c=>o 0=.pt W 0/\o 4=i k/\o 30=.ms d k P.length/\aA O c/\∃ q,o 5=.ms q 0 j/\c.H q=.box 36 3 (eds ((P.take j).map (am g.E)))/\O.z<=q/\q<c.z) ?_ ?_ ?_
 .refine⟨aa f0,aa f4,aa hPl,aA.new _ _,O.z,sS,by simp[eds],oO,sS⟩
 .clear f0 f1 f4 o hd R;rintro j o s1 dF ⟨g0,g4,V,T,q,g5,hq,hq1,N9⟩ fi fn JO t;have X:=(T.H W d1).trans L;have hS1:=(T.H d b3).trans K;have N3:=hCd (k+j) oO;have hPd:s.stk.getD (k+j) 0=P.getD j 0:=by rw[hP,cp,cp,sx]
  rw[hPd]at N3;have Q8:P.getD j 0<g.E.length:=v _ (by rw[cp,cg dF];exact dq _);have hde:=aS g.E _ Q8;rw[Qf dF]at t;have hql:(eds ((P.take j).map (am g.E))).length=j*3:=by rw[aJ,dh,dn];congr 1;omega
  have hap:eds ((P.take j).map (am g.E)++[am g.E (P.getD j 0)])=eds ((P.take j).map (am g.E))++dl (am g.E (P.getD j 0)):=by simp[eds]
  rw[hap]at t;unfold am at t;generalize hpp:P.getD j 0=p0 at *;generalize eds ((P.take j).map (am g.E))=RR at *;generalize g.E.getD p0 ed0=x at *;obtain⟨xi,xa,xb⟩:=x;simp only[dl]at t;simp only at hde;have hkj:k+j<p.length:=oO;have hp3:p0*3<g.E.length*3:=oO;have y1:¬q=s1.z:=oO;have y2:¬q=0:=oO
  (repeat' (first|apply qS|(refine zE ?_;intro J hJ;simp[g0,g4,g5,V,fi,fn,X,hS1,N3,hde,dF,hq,hql,hkj,Q8,hp3,hel,y1,y2];(repeat refine ca ?_);refine zJ hJ ?_)))
  refine t _ _ (aa fi) (aa fn) ⟨by simp[g0],aa g4,aa V,?_,s1.z+1,sS,sS,oO,sS⟩
  (repeat (first|exact T|(refine aA.trans ?_ (aA.new _ _))|(refine aA.set ?_ oO _)))
 .rintro o s1 ⟨g0,g4,V,T,q,g5,hq,hq1,N9⟩;rw[gm]at hq;have X:=(T.H W d1).trans L;have hS1:=(T.H d b3).trans K;have J9:k<=s.stk.length:=oO;have hnx:=T.z;have y1:¬q=W:=oO
  (refine tv g0 g4 g5 X J9 ?_;intro J hJ)
  refine qE (ZF Y9 P S v q _ oO (by simp;omega) (dg y1 hq)) sS ?_;rintro r b ⟨hq3,o9⟩;have N0:=o9.1;simp only[bN]at N0;have m:∀ x,x≠q->x≠W->x<O.z->b.H x=O.H x:=fun x h1 h2 h3=>by rw[o9.2 x h1 (by simp;omega),bP,ac h2];exact T.H x h3
  have hW2:=o9.2 W (fun e=>y1 e.symm) (by simp;omega);rw[bP,ad rfl]at hW2;have hB2:=(m U oO (fun e=>Y e.symm) b4).trans W5;have hS2:=(m d oO (fun e=>m1 e.symm) b3).trans K;have hA2:=(m a oO (fun e=>m4 e.symm) d2).trans hA;have hN2:=(m N oO (fun e=>m5 e.symm) d3).trans hN;have hL2:=(m M oO (fun e=>m6 e.symm) d4).trans hL;have R6:=(vT S v).length_eq;have r8:(eds ((tP g.E.length P).map (am g.E))).length=P.length*3:=by rw[aJ,dh,R6]
  (apply cL;simp[];refine zJ hJ ?_)
  refine nY 5 (l:=q) (n:=P.length) (aa g5) hq3 (tn r8.symm) ?_;rw[dp (tn r8)];have hbL:(gz g.E s.out).length=s.out.length:=BW _ _;have z1:¬W=q:=fun e=>y1 e.symm;have z2:¬U=q:=oO;have z3:¬W=b.z:=oO;have z4:¬U=b.z:=oO;have z5:¬W=b.z+1:=oO
  (repeat' (refine zE ?_;intro J hJ;simp[g0,hW2,hB2,Y,z1,z2,z3,z4,z5,hbL];(repeat refine ca ?_);refine zJ hJ ?_))
  have q1:¬a=q:=oO;have q2:¬N=q:=oO;have q3:¬M=q:=oO;have q4:¬d=q:=oO;have q5:¬a=b.z:=oO;have q6:¬N=b.z:=oO;have q7:¬M=b.z:=oO;have q8:¬d=b.z:=oO;have q9:¬a=b.z+1:=oO;have C:¬N=b.z+1:=oO;have D:¬M=b.z+1:=oO;have F:¬d=b.z+1:=oO;have I:¬b.z+1=W:=oO;have r1:¬a=W:=fun e=>m4 e.symm;have r2:¬N=W:=fun e=>m5 e.symm;have r3:¬M=W:=fun e=>m6 e.symm;have r4:¬d=W:=fun e=>m1 e.symm;have hbk:gz g.E (s.out++[tP g.E.length P])=gz g.E s.out++[.sl 0 P.length (eds ((tP g.E.length P).map (am g.E)))]:=by unfold gz;rw[cr];simp[R6]
  have C4:(s.stk.take k).length=k:=by rw[dn];omega
  refine⟨trivial,⟨⟨d,b.z+1,p,ea,aa C4,⟨by simp[z1,z2,z3,z4,z5,q1,q2,q3,q4,q5,q6,q7,q8,q9,C,D,F,I,r1,r2,r3,r4,Y,m3,m8,w,A,hA2],hAm⟩,by simp[z1,z2,z3,z4,z5,q1,q2,q3,q4,q5,q6,q7,q8,q9,C,D,F,I,r1,r2,r3,r4,Y,m3,m8,w,A,hN2],by simp[z1,z2,z3,z4,z5,q1,q2,q3,q4,q5,q6,q7,q8,q9,C,D,F,I,r1,r2,r3,r4,Y,m3,m8,w,A,hL2],⟨by simp[z1,z2,z3,z4,z5,q1,q2,q3,q4,q5,q6,q7,q8,q9,C,D,F,I,r1,r2,r3,r4,Y,m3,m8,w,A,hS2],?_⟩,by simp[z1,z2,z3,z4,z5,q1,q2,q3,q4,q5,q6,q7,q8,q9,C,D,F,I,r1,r2,r3,r4,Y,m3,m8,w,A,hbk],⟨n1,n2,n3⟩,b1,oO,by simp;omega,sS⟩,⟨c1,c2,c3,c4⟩,by simp;omega,by simp;omega,by simp;omega,by simp;omega⟩,?_⟩
  .rw[C4,show p.take k=(p.take s.stk.length).take k by rw[rh,ti J9],Q,Qg]
  .refine(((((KbB.mk oO fun x hx=>?_:KbB B O b).set oO _).new ?_ _).set b2 _).new ?_ _).set c1 _
   .exact m x oO oO oO
   .simp;omega
   .simp;omega
def EH{P:Program}{N:Nat}{Q:AQ}{k:List gQ}{a:af}{b:St}{x y:Code}(I:af->St->Prop)(c:bq P N x (AK P N (fun e f s=>e=.normal/\I f s) []) a b)(d:∀ a b,I a b->bq P N y (AK P N Q k) a b):
 bq P N x (AK P N Q (.code y::k)) a b:=by
 refine dG c ?_;rintro e UK h ⟨rfl,g⟩;rw[jG];exact d _ _ g
theorem Li{f:Bw->Nat->Option Bw}:∀(l:List Nat) (i:Nat) (s:Bw),ku f (l++[i]) s=(ku f l s).bind fun a=>f a i
 |[],i,s=>by show(f s i).bind (ku f [])=f s i;cases f s i<;>rfl
 |j::l,i,s=>by
  show(f s j).bind (ku f (l++[i]))=((f s j).bind (ku f l)).bind _;cases f s j with
  |none=>rfl
  |some a=>exact Li l i a
def CE{P:List Nat}{n:Nat}(b:P.Nodup)(h:∀ i∈P,i<n):P.length<=n:=by have:=fg b (l₂:=List.range n) fun i a=>fC.2 (h i a);simpa using this
theorem zY:∀(N:List (List Nat)),(∀ B∈N,B≠[])->N.length<=N.flatten.length
 |[],_=>au _
 |B::N,h=>by have b:=zY N fun B a=>h B (ar _ a);have c:=iu.2 (h B sS);simp only[List.flatten_cons,cf,List.length_cons];omega
def BLp.sz{g:Gr}{e s:Bw}{v C2:Int}{Q:List Nat}{D:AN}{T:List Nat}{N:List (List Nat)}(h:BLp g e v C2 Q s D T N):T.length<=g.E.length/\N.length<=g.E.length:=by have d:∀ i∈T++N.flatten,i<g.E.length:=fun i c=>((h.pl i).1 c).1;have a:=CE h.pn d;have f:=zY N fun B b=>(h.good B b).ne;rw[cf]at a;omega
def SzB(g:Gr)(s:Bw):Prop:=s.stk.length<=s.w.length*(g.E.length+1)/\s.out.length<=s.w.length*(g.E.length+1)
def SzB.child{g:Gr}{a s:Bw}{v C2:Int}{Q:List Nat}{D:AN}{T:List Nat}{N:List (List Nat)}(b:SzB g a)(h:BLp g a v C2 Q s D T N):s.stk.length+1<=s.w.length*(g.E.length+1)/\s.out.length<=s.w.length*(g.E.length+1):=by
 obtain⟨f,j⟩:=h.sz;have c:(a.w.length+1)*(g.E.length+1)<=s.w.length*(g.E.length+1):=sn _ (by rw[h.w,cf,List.length_cons];omega);rw[lx,Nat.one_mul]at c;have d:s.stk.length=a.stk.length+T.length:=by rw[h.stk,cf]
 have e:s.out.length=a.out.length+N.length:=by rw[h.out,cf]
 obtain⟨k,l⟩:=b;omega
def Ac{g:Gr}{s:Bw}(e:g.V.length<=100)(d:g.E.length<=200)(a:s.w.Nodup)(b:∀ w∈s.w,w∈g.V):s.w.length<=100/\s.w.length*(g.E.length+1)<=20100:=by have c:s.w.length<=g.V.length:=fg a b;exact⟨oO,by have:=Nat.mul_le_mul (show s.w.length<=100 by omega) (show g.E.length+1<=201 by omega);omega⟩
def sK.keeps{g:Gr}{B W a j f:Nat}{n:Int->Nat}{s:Bw}{k c:St}(h:sK g B W a j f n s k)(b:aA k c):sK g B W a j f n s c:=by obtain⟨⟨m,l,o,v,y,⟨w,d⟩,hN,hL,⟨x,e⟩,W5,hn,⟨p,q,r,t⟩⟩,hc,d1,d2,d3,d4⟩:=h;have A:=b.z;exact⟨⟨m,l,o,v,(b.H W d1).trans y,⟨(b.H a d2).trans w,d⟩,(b.H j d3).trans hN,(b.H f d4).trans hL,⟨(b.H m r).trans x,e⟩,(b.H l t).trans W5,hn,p,q,oO,oO⟩,hc,oO,oO,oO,oO⟩
def Un{g:Gr}{B W a c b:Nat}{y:Int->Nat}{s:Bw}{S:St}{e d:Nat}{A:List LV}{m:List (AN×LV)}(f:Nat)
 (j:S.H W=.box 126 6 [.sl 0 g.E.length (eds g.E),.mp a,.mp c,.mp b,.ms e 0 s.stk.length,.ms d 0 s.out.length])
 (n:S.H a=.map false [.u32] m) (p:∀ v,bQ m [v]=if cm g.E v=[]then none else some (.sl (y v) (cm g.E v).length (eo (cm g.E v))))
 (r:S.H c=.map false [.u32] (ja 0 s.w)) (q:S.H b=.map false [.u32] (gj s.w s.low)) (h:S.H e=.box 3 1 A) (l:S.H d=.box 23 1 (gz g.E s.out))
 (Y:a≠c/\a≠b/\c≠b) (U:B<=e/\B<=d/\e<S.z/\d<S.z) (V:B<=W/\B<=a/\B<=c/\B<=b) (X:W<S.z/\a<S.z/\c<S.z/\b<S.z) (o:cK):
 sK g B W a c b y (eO s f) ((((S.new o).set e .dead).new (.box 3 1 (eo s.stk++[i (f:Int)]))).set W (.box 126 6 [.sl 0 g.E.length (eds g.E),.mp a,.mp c,.mp b,.ms (S.z+1) 0 (s.stk.length+1),.ms d 0 s.out.length]))/\
 KbB B S ((((S.new o).set e .dead).new (.box 3 1 (eo s.stk++[i (f:Int)]))).set W (.box 126 6 [.sl 0 g.E.length (eds g.E),.mp a,.mp c,.mp b,.ms (S.z+1) 0 (s.stk.length+1),.ms d 0 s.out.length])):=by
 obtain⟨C,D,b3,b4⟩:=U;obtain⟨x,F,I,J⟩:=V;obtain⟨d1,d2,d3,d4⟩:=X;have Z:¬a=W:=bC n j sS;have m2:¬c=W:=bC r j sS;have m3:¬b=W:=bC q j sS;have m4:¬d=W:=bC l j sS;have m5:¬a=e:=bC n h sS;have m6:¬c=e:=bC r h sS;have m7:¬b=e:=bC q h sS;have m8:¬d=e:=bC l h sS;have K:¬a=S.z:=oO;have L:¬c=S.z:=oO;have M:¬b=S.z:=oO;have N:¬d=S.z:=oO;have O:¬a=S.z+1:=oO;have P:¬c=S.z+1:=oO;have Q:¬b=S.z+1:=oO;have R:¬d=S.z+1:=oO;have T:¬S.z+1=W:=oO;have k:(eO s f).stk.length=s.stk.length+1:=by simp[eO]
 have t:eo (eO s f).stk=eo s.stk++[i (f:Int)]:=by simp[eO,eo]
 refine⟨⟨⟨S.z+1,d,eo s.stk++[i (f:Int)],m,by rw[k];simp[eO],⟨la Z m5 K O n,p⟩,by simp[m2,m6,L,P,r,eO],by simp[m3,m7,M,Q,q,eO],⟨aa T,?_⟩,by simp[m4,m8,N,R,l,eO],Y,oO,D,sS,by simp;omega⟩,⟨x,F,I,J⟩,by simp;omega,by simp;omega,by simp;omega,by simp;omega⟩,?_⟩
 .rw[k,<- t,dp];rw[lI,k];exact au _
 .exact(((((KbB.refl B S).new oO _).set C _).new (by simp;omega) _).set x _)
def Bn{P:Program}{N:Nat}{Q:AQ}{c:Code}{a:af}{b:St}(I:af->St->Prop)(d:I a b)(h:∀ a b,I a b->bq P N c Q a b):bq P N c Q a b:=h _ _ d
def PZ{g:Gr}{B W a e b:Nat}{o:Int->Nat}{s:Bw}{T:St}(h:sK g B W a e b o s T)(v x:Int):sK g B W a e b o (mV s v x) (T.set b (.map false [.u32] (gj s.w (s.low.set (s.w.idxOf v) x)))):=by obtain⟨⟨n,m,p,z,j,⟨A,c⟩,hN,hL,⟨f,d⟩,W5,⟨I,k,l⟩,⟨q,r,t,y⟩⟩,hc,d1,d2,d3,d4⟩:=h;have C:¬W=b:=bC j hL sS;have D:¬n=b:=bC f hL sS;have E:¬m=b:=bC W5 hL sS;have F:¬a=b:=k;have H:¬e=b:=l;exact⟨⟨n,m,p,z,by simp[C,j,mV],⟨dg F A,c⟩,by simp[H,hN,mV],by simp[mV],⟨dg D f,d⟩,by simp[E,W5,mV],⟨I,k,l⟩,q,r,by simpa using t,by simpa using y⟩,hc,by simpa using d1,by simpa using d2,by simpa using d3,by simpa using d4⟩
def zv(g:Gr)(f:Int->Nat)(d:Nat->Bw->Bw->Prop)(B W a k h:Nat)(e:Bw)(v C2:Int)(l:St)(j:Nat)(b:af)(c:St):Prop:=
 b 0=.pt W 0/\b 1=u v/\b 2=i C2/\b 6=i ((e.w.length:Int)+1)/\b 35=.sl (f v) (cm g.E v).length (eo (cm g.E v))/\
 ∃ s D T N,d j e s/\BLp g e v C2 ((cm g.E v).take j) s D T N/\(∀ w∈s.w,w∈g.V)/\sK g B W a k h f s c/\KbB B l c
def Wx(g:Gr)(hg:GoodE g)(B W a K F:Nat)(tk:Int->Nat)(hv:g.V.length<=100)(he:g.E.length<=200):∀(n:Nat) (A:Int->Prop) (s:Bw) (v C2:Int) (st:St),yM g A s v C2->v∈g.V->(∀ w∈s.w,w∈g.V)->g.V.length<=n+s.w.length->SzB g s->sK g B W a K F tk s st->
 aB prog 97 [.pt W 0,u v,i C2] st fun r st'=>∃ m,oH g.E n v C2 s=some m/\sK g B W a K F tk m st'/\KbB B st st':=by
 intro n;induction n with
 |zero=>intro A s v C2 st h hvv hs hn _ _;obtain⟨m,C,T,N,e,_⟩:=Ev hg 0 A s v C2 h hvv hs hn;cases e
 |succ n ih=>
  intro A l v C2 st h0 hvv hs hn U8 X;obtain⟨hvl,hsb⟩:=Ac hv he h0.nd hs;obtain⟨⟨tS,tB,CS,ea,hW,⟨hA,hAm⟩,hN,hL,⟨hS,P⟩,W5,⟨n1,n2,n3⟩,⟨b1,b2,b3,b4⟩⟩,⟨c1,c2,c3,c4⟩,d1,d2,d3,d4⟩:=X;have m4:¬W=a:=bC hW hA sS;have m5:¬W=K:=bC hW hN sS;have m6:¬W=F:=bC hW hL sS;have v8:=KP l.w 0;have hms:=Uv h0.new;have N8:=xP l.w l.low v ((l.w.length:Int)+1) h0.ln h0.new;have hav:=hAm v;have w1:IntKind.i64.wrap ((l.w.length:Int)+1)=(l.w.length:Int)+1:=zW;have r1:¬a=K:=n1;have r2:¬a=F:=n2;have r3:¬K=F:=n3;have r4:¬F=K:=fun e=>n3 e.symm;refine zN func97 ntmps97 [] ?_;have hbs:=h0.start;have hstS:(pI l v).stk=l.stk:=rfl;have hb0:sK g B W a K F tk (pI l v) ((st.set K (.map false [.u32] (ja 0 (l.w++[v])))).set F (.map false [.u32] (gj (l.w++[v]) (l.low++[(l.w.length:Int)+1])))):=by have q1:¬W=K:=m5;have q2:¬tS=K:=bC hS hN sS;have q3:¬tS=F:=bC hS hL sS;have q4:¬tB=K:=bC W5 hN sS;have q5:¬tB=F:=bC W5 hL sS;exact⟨⟨tS,tB,CS,ea,by simp[m5,m6,hW,pI],⟨gv r1 r2 hA,hAm⟩,by simp[r3,pI],by simp[pI],⟨gv q2 q3 hS,P⟩,by simp[q4,q5,W5,pI],⟨n1,n2,n3⟩,b1,b2,by simpa using b3,by simpa using b4⟩,⟨c1,c2,c3,c4⟩,by simpa using d1,by simpa using d2,by simpa using d3,by simpa using d4⟩
  have P3:KbB B st ((st.set K (.map false [.u32] (ja 0 (l.w++[v])))).set F (.map false [.u32] (gj (l.w++[v]) (l.low++[(l.w.length:Int)+1])))):=((KbB.refl B st).set c3 _).set c4 _;have hv0:∀ w∈(pI l v).w,w∈g.V:=fun w hw=>by
   have hw:w∈l.w++[v]:=hw;rcases an.1 hw with k|k
   .exact hs w k
   .rw[bf]at k;rw[k];exact hvv
  by_cases V0:cm g.E v=[]
  .rw[ad V0]at hav;have hvis:oH g.E (n+1) v C2 l=some (pI l v):=by unfold oH;rw[V0];rfl
   refine Pk hW hN hL hA m4 m5 m6 v8 hms N8 hav w1 r1 r2 r3 r4 ?_;refine bH 37 36 38 137 (0) (fun j fr st2=>st2=(st.set K (.map false [.u32] (ja 0 (l.w++[v])))).set F (.map false [.u32] (gj (l.w++[v]) (l.low++[(l.w.length:Int)+1])))) ?_ ?_ ?_
   .rfl
   .intro j fr s dF;omega
   .rintro fr s hs2;rw[hs2];refine bz ?_;exact⟨trivial,_,hvis,hb0,P3⟩
  .rw[ac V0]at hav;have hnd:(cm g.E v).Nodup:=qi _ qy;have hatl:(cm g.E v).length<=g.E.length:=CE hnd fun i hi=>(aR.1 hi).1;refine Pk hW hN hL hA m4 m5 m6 v8 hms N8 hav w1 r1 r2 r3 r4 ?_;clear hW hN hL hA hAm hS P W5 v8 hms N8 hav m4 m5 m6 r1 r2 r3 r4 n1 n2 n3 b1 b2 b3 b4 d1 d2 d3 d4;refine bH 37 36 38 137 ((cm g.E v).length) (fun j fr st2=>zv g tk (fun j s' s=>ku (gZ (oH g.E n) g.E v C2 ((l.w.length:Int)+1)) ((cm g.E v).take j) (pI s' v)=some s) B W a K F l v C2 st j fr st2) ?_ ?_ ?_
   .exact⟨sS,sS,sS,sS,sS,pI l v,[],[],[],rfl,hbs,hv0,hb0,P3⟩
   .rintro j fr m dF ⟨t,I,R,L,p,s,D,T,N,hgo,R6,Q,X,hkb⟩ fi fn JO hJO;have hgt:(cm g.E v).getD j 0=(cm g.E v)[j]:=by rw[cp,cg dF];rfl
    have C4:(cm g.E v).take (j+1)=(cm g.E v).take j++[(cm g.E v).getD j 0]:=by rw[eL dF,hgt]
    have hi:(cm g.E v).getD j 0∈cm g.E v:=by rw[hgt];exact dq _
    have hiQ:(cm g.E v).getD j 0∉(cm g.E v).take j:=fun k=>by have h1:=hnd;rw[<- gd (j+1) (cm g.E v),C4,dz,bw]at h1;exact h1.2.2 _ k _ sS rfl
    have hd:=Qp (cm g.E v) j dF;generalize (cm g.E v).getD j 0=d at *;obtain⟨hil,hie⟩:=aR.1 hi;have next:∀ c,gZ (oH g.E n) g.E v C2 ((l.w.length:Int)+1) s d=some c->ku (gZ (oH g.E n) g.E v C2 ((l.w.length:Int)+1)) ((cm g.E v).take (j+1)) (pI l v)=some c:=fun c e=>by rw[C4,Li,hgo];exact e
    by_cases hb:(d:Int)=C2
    .have hbb:((d:Int)==C2)=true:=by simpa using hb
     refine kk t R p fi fn hd dF hbb ?_;exact hJO _ _ (aa fi) (aa fn) ⟨aa t,aa I,aa R,aa L,aa p,s,D,T,N,next s (by unfold gZ;rw[ad hb]),by rw[C4];exact R6.same hg h0 hi hb,Q,X,hkb⟩
    have hbb:((d:Int)==C2)=false:=by simpa using hb
    have hbw':=X;obtain⟨⟨tS,tB,CS,ea,hW,⟨hA,hAm⟩,hN,hL,⟨hS,P⟩,W5,⟨n1,n2,n3⟩,⟨b1,b2,b3,b4⟩⟩,-,d1,d2,d3,d4⟩:=hbw';have hde:=aS g.E d hil;have hel:=aJ g.E;have hi3:d*3<g.E.length*3:=oO;have y1:¬W=m.z:=oO;have y2:¬K=m.z:=oO;have y3:¬F=m.z:=oO;have y4:¬tS=m.z:=oO;have y5:¬a=m.z:=oO;have y6:¬tB=m.z:=oO;obtain⟨w,hw⟩:∃ w,w=aE (am g.E d) v:=⟨_,rfl⟩;have U4:w=if(g.E.getD d ed0).a=v then(g.E.getD d ed0).b else(g.E.getD d ed0).a:=hw
    (repeat (apply qS));(refine zE ?_;intro J q;simp[p,fi,fn,hd,dF];(refine zJ q ?_;clear q J))
    (repeat (apply qS));(refine zE ?_;intro J q;simp[R];(refine zJ q ?_;clear q J))
    (apply qC;simp[hbb])
    refine qK (zZ ?_)
    (repeat (apply qS));(refine zE ?_;intro J q;simp[t,hW,hde,hil,hi3,hel];(refine zJ q ?_;clear q J))
    (repeat (apply qS));(refine zE ?_;intro J q;simp[];(refine zJ q ?_;clear q J))
    apply qS;refine EH (fun f T=>f 0=.pt W 0/\f 1=u v/\f 2=i C2/\f 6=i ((l.w.length:Int)+1)/\f 35=.sl (tk v) (cm g.E v).length (eo (cm g.E v))/\f 36=i (cm g.E v).length/\f 37=i j/\f 8=i d/\f 10=u w/\∃ o,T=m.new o) ?_ ?_
    .have hxg:g.E.getD d ed0=g.E[d]:=fA _ _ hil;rw[hxg]at U4;by_cases hxa:g.E[d].a=v
     .have hxb:(g.E[d].a==v)=true:=by simpa using hxa
      rw[ad hxa]at U4;refine fk t I hxb ?_;exact⟨trivial,aa t,aa I,aa R,aa L,aa p,aa fn,aa fi,sS,by rw[U4];simp,_,rfl⟩
     .have hxb:(g.E[d].a==v)=false:=by simpa using hxa
      rw[ac hxa]at U4;refine fk t I hxb ?_;exact⟨trivial,aa t,aa I,aa R,aa L,aa p,aa fn,aa fi,sS,by rw[U4];simp,_,rfl⟩
    clear t I R L p fi fn hd hde U4 fr;rintro fr T ⟨t,I,R,L,p,S,U,f8,O,o,hT⟩;rw[hT];clear hT T;subst hw;have hW':=(show(m.new o).H W=m.H W by rw[cB,ac y1]).trans hW;have hN':=(show(m.new o).H K=m.H K by rw[cB,ac y2]).trans hN;have hL':=(show(m.new o).H F=m.H F by rw[cB,ac y3]).trans hL;have hS':=(show(m.new o).H tS=m.H tS by rw[cB,ac y4]).trans hS;have hA':=(show(m.new o).H a=m.H a by rw[cB,ac y5]).trans hA;have X4:=(show(m.new o).H tB=m.H tB by rw[cB,ac y6]).trans W5;have hbT:sK g B W a K F tk s (m.new o):=X.keeps (aA.new _ _);have hkT:KbB B st (m.new o):=hkb.new oO o;have hTn:(m.new o).z=m.z+1:=aH _ _;generalize m.new o=T1 at *;obtain⟨szp,szo⟩:=U8.child R6;obtain⟨vl,sb⟩:=Ac hv he R6.nd Q;have hm:=LY s.w (aE (am g.E d) v);have m5:¬W=K:=bC hW hN sS;have m6:¬W=F:=bC hW hL sS;have m1:¬W=tS:=bC hW hS sS;have hCS:s.stk.length<=CS.length:=by have:=congrArg List.length P;rw[dn,lI]at this;omega
    have t1:¬W=T1.z:=oO;have t2:¬W=T1.z+1:=oO;have t3:¬tS=T1.z:=oO;obtain⟨hpb,hpk⟩:=Un d hW' hA' hAm hN' hL' hS' X4 ⟨n1,n2,n3⟩ ⟨b1,b2,oO,oO⟩ ⟨c1,c2,c3,c4⟩ ⟨oO,oO,oO,oO⟩ (.own 3 1 1);by_cases n9:aE (am g.E d) v∈s.w
    .rw[ad n9]at hm;have K5:1<=du s.w (aE (am g.E d) v):=by unfold du;rw[ad n9];omega
     by_cases Z:du s.w (aE (am g.E d) v)<(l.w.length:Int)+1
     .have hback:=R6.back hg h0 hi hiQ hb n9 Z;have K2:gZ (oH g.E n) g.E v C2 ((l.w.length:Int)+1) s d=some (mV (eO s d) v (min (bu s v) (du s.w (aE (am g.E d) v)))):=by unfold gZ;rw[ac hb,ad n9,ad Z]
      generalize aE (am g.E d) v=w at *;generalize du s.w w=z at *;have hzb:(z==0)=false:=by rw[sr];omega
      have hz0:¬z=0:=oO
      (repeat' (first|apply qS|apply qB|(apply qC;simp[t,I,L,f8,O,hW',hN',hm,hzb,hz0,Z,hS',P,hCS,m1,t1,t2,t3])|(refine zE ?_;intro J q;simp[t,I,L,f8,O,hW',hN',hm,hzb,hz0,Z,hS',P,hCS,m1,t1,t2,t3];(repeat refine ca ?_);(refine zJ q ?_;clear q J))))
      refine Bn (fun f T2=>f 0=.pt W 0/\f 1=u v/\f 2=i C2/\f 6=i ((l.w.length:Int)+1)/\f 35=.sl (tk v) (cm g.E v).length (eo (cm g.E v))/\f 36=i (cm g.E v).length/\f 37=i j/\f 11=i z/\sK g B W a K F tk (eO s d) T2/\KbB B T1 T2) ⟨aa t,aa I,aa R,aa L,aa p,aa S,aa U,sS,hpb,hpk⟩ ?_;clear t I R L p S U f8 O hpb hpk fr;rintro fr T2 ⟨t,I,R,L,p,S,U,f11,Z7,u5⟩;have X5:=PZ Z7 v (min (bu s v) z);have N8:=uN s.w s.low v R6.ln (R6.v_in hg h0);have hmo:=qJ s.w s.low v (min (bu s v) z) R6.ln (R6.v_in hg h0);obtain⟨⟨tS2,tB2,CS2,ea2,jW,-,-,jL,-,-,-,-⟩,-,-⟩:=Z7;have jm6:¬W=F:=bC jW jL sS;have jL:T2.H F=.map false [.u32] (gj s.w s.low):=jL;have N8:bQ (gj s.w s.low) [v]=some (i (bu s v)):=N8
      (refine zS [] [W,F] [0,2,4,6,8,10,12,14,16,18,20,22,24,27] ?_;intro J q;simp[t,I,f11,jW,jL,N8,hmo];(refine zJ q ?_;clear q J))
      have T7:(if z<bu s v then z else bu s v)=min (bu s v) z:=by split<;>omega
      rw[T7,show bV (gj s.w s.low) [v] (LV.atom (Value.int IntKind.i64 (min (bu s v) z)))=_ from hmo];exact hJO _ _ (aa U) (aa S) ⟨aa t,aa I,aa R,aa L,aa p,_,D,T++[d],N,next _ K2,by rw[C4];exact hback,Q,X5,(hkT.trans u5).set c4 _⟩
     .have hskip:=R6.skip hg h0 hi n9 Z;have K2:gZ (oH g.E n) g.E v C2 ((l.w.length:Int)+1) s d=some s:=by unfold gZ;rw[ac hb,ad n9,ac Z]
      generalize aE (am g.E d) v=w at *;generalize du s.w w=z at *;have hzb:(z==0)=false:=by rw[sr];omega
      have hz0:¬z=0:=oO;refine Gx t I L O hW' hN' hm hzb hz0 Z ?_;exact hJO _ _ (aa U) (aa S) ⟨aa t,aa I,aa R,aa L,aa p,s,D,T,N,next s K2,by rw[C4];exact hskip,Q,hbT,hkT⟩
    .rw[ac n9]at hm;have hpre:=R6.pre hg h0 hi n9;have T5:=fun m C T' N' M=>R6.child hg h0 hi hiQ hb n9 (s1:=m) (C:=C) (T':=T') (N':=N') M;have hwv:aE (am g.E d) v∈g.V:=hg.nbr (lY hi);have hwne:=tM hg hi;have K2:gZ (oH g.E n) g.E v C2 ((l.w.length:Int)+1) s d=(oH g.E n (aE (am g.E d) v) d (eO s d)).bind (OV g.E.length v ((l.w.length:Int)+1) d (aE (am g.E d) v)):=by unfold gZ;rw[ac hb,ac n9]
     generalize aE (am g.E d) v=w at *
     (repeat' (first|apply qS|apply qB|(apply qC;simp[t,I,L,f8,O,hW',hN',hm,hS',P,hCS,m1,t1,t2,t3])|(refine zE ?_;intro J q;simp[t,I,L,f8,O,hW',hN',hm,hS',P,hCS,m1,t1,t2,t3];(repeat refine ca ?_);(try (refine zJ q ?_;clear q J)))))
     have hlen:s.w.length=l.w.length+1+D.length:=by rw[R6.w,cf,List.length_cons];omega
     refine qE (ih _ (eO s d) w d _ hpre hwv Q (by show g.V.length<=n+s.w.length;omega) ⟨by simpa[eO]using szp,szo⟩ hpb) sS ?_;rintro r T2 ⟨c,hvis,V5,u5⟩;obtain⟨s2',C,T',N',hvis',M,hC⟩:=Ev hg n _ (eO s d) w d hpre hwv Q (by show g.V.length<=n+s.w.length;omega);obtain rfl:c=s2':=by rw[hvis]at hvis';exact im hvis'
     clear hvis';obtain⟨s3,D2,T3,N2,Y,hbl3⟩:=T5 c C T' N' M;have hst3:gZ (oH g.E n) g.E v C2 ((l.w.length:Int)+1) s d=some s3:=by rw[K2,hvis];exact Y
     have hkT2:KbB B st T2:=(hkT.trans hpk).trans u5;have hvs:v∈s.w:=R6.v_in hg h0;have hvs2:v∈c.w:=by rw[M.w];exact cX _ hvs
     have hws2:w∈c.w:=by rw[M.w];exact dv _ M.hd
     have hs2v:∀ x∈c.w,x∈g.V:=fun x hx=>by rw[M.w,an]at hx;exact hx.elim (Q x) (hC x)
     have hmv:bQ (gj c.w c.low) [v]=some (i (bu c v)):=uN c.w c.low v M.ln hvs2;have hmw:bQ (gj c.w c.low) [w]=some (i (bu c w)):=uN c.w c.low w M.ln hws2;have hmo:=qJ c.w c.low v (min (bu c v) (bu c w)) M.ln hvs2;have X5:=PZ V5 v (min (bu c v) (bu c w));have hmw3:bQ (gj c.w (c.low.set (c.w.idxOf v) (min (bu c v) (bu c w)))) [w]=some (i (bu c w)):=by have h1:=uN c.w (c.low.set (c.w.idxOf v) (min (bu c v) (bu c w))) w (by rw[pd];exact M.ln) hws2;have h2:=FO (x:=min (bu c v) (bu c w)) M.ln hvs2 hws2;rw[ac hwne]at h2;rw[h1];exact congrArg (fun y=>some (i y)) h2
     obtain⟨⟨tS2,tB2,CS2,ea2,jW,-,-,jL,-,-,-,-⟩,-,-⟩:=V5;have jm6:¬W=F:=bC jW jL sS;have T7:(if bu c w<bu c v then bu c w else bu c v)=min (bu c v) (bu c w):=by split<;>omega
     (apply cL;simp[];(refine zJ q ?_;clear q J))
     (repeat (apply qS));(refine zS [] [W,F] [0,2,4,6,8,10,12,14,16,18,20,22,24,26,28,30,32,34,37] ?_;intro J q;simp[t,I,O,jW,jL,hmv,hmw];(refine zJ q ?_;clear q J))
     rw[T7,show bV (gj c.w c.low) [v] (LV.atom (Value.int IntKind.i64 (min (bu c v) (bu c w))))=_ from hmo];have hW3:(T2.set F (.map false [.u32] (gj c.w (c.low.set (c.w.idxOf v) (min (bu c v) (bu c w)))))).H W=T2.H W:=by rw[bP,ac jm6]
     unfold OV at Y;by_cases hc:(l.w.length:Int)+1<=bu c w
     .rw[ad hc]at Y;have hstk:c.stk=s.stk++d::T':=by rw[M.stk];show(s.stk++[d])++T'=_;simp
      have hiT:d∉T':=fun k=>((M.pl d).1 (cX _ k)).2.1 rfl;have hTn:=(bw.1 M.pn).1;have hTl:∀ k∈T',k<g.E.length:=fun k hk=>((M.pl k).1 (cX _ hk)).1;have hTlen:=CE hTn hTl;have hNl:=zY N' fun B hB=>(M.good B hB).ne;have hNf:=CE (bw.1 M.pn).2.1 fun k hk=>((M.pl k).1 (dv _ hk)).1;have ho2:c.out.length=s.out.length+N'.length:=by rw[M.out,cf];rfl
      have hk2l:c.stk.length=s.stk.length+1+T'.length:=by rw[hstk,cf,List.length_cons];omega
      have hlp:jO c.stk d=s.stk.length:=by rw[hstk];exact vS hiT
      have hdrop:c.stk.drop (jO c.stk d)=d::T':=by rw[hlp,hstk,pf]
      have J4:=C9 g hg.ids B W a K F tk (mV c v (min (bu c v) (bu c w))) d _ X5 (by show d∈c.stk;rw[hstk];simp)
       (by show ∀ k∈c.stk.drop (jO c.stk d),k<g.E.length
           rw[hdrop];intro k hk;rcases ah.1 hk with e|e
           .rw[e];exact hil
           .exact hTl k e)
       (by show(c.stk.drop (jO c.stk d)).Nodup
           rw[hdrop];exact cb.2 ⟨hiT,hTn⟩) oO (by show c.stk.length<=60000;omega) (by show c.out.length<=100000;omega)
      (refine wq t L f8 O jW jm6 hmw3 hc ?_;intro J q)
      refine qE J4 sS ?_;rintro r T4 ⟨s4,hcw,hb4,M0⟩;obtain rfl:s4=s3:=by rw[hcw]at Y;exact im Y
      have hv4:s4.w=c.w:=by
       unfold Gz at hcw
       split at hcw
       .cases hcw;rfl
       .cases hcw
      refine dB q ?_;exact hJO _ _ (aa U) (aa S) ⟨aa t,aa I,aa R,aa L,aa p,_,D2,T3,N2,next _ hst3,by rw[C4];exact hbl3,fun x hx=>hs2v x (by rw[<- hv4];exact hx),hb4,(hkT2.set c4 _).trans M0⟩
     .rw[ac hc]at Y;obtain rfl:=im Y;refine mu t L O jW jm6 hmw3 hc ?_;exact hJO _ _ (aa U) (aa S) ⟨aa t,aa I,aa R,aa L,aa p,_,D2,T3,N2,next _ hst3,by rw[C4];exact hbl3,hs2v,X5,hkT2.set c4 _⟩
   .rintro fr m ⟨t,I,R,L,p,s,D,T,N,hgo,R6,Q,X,hkb⟩;rw[gm]at hgo;refine bz ?_;exact⟨trivial,s,hgo,X,hkb⟩
def SH{P:Program}{N:Nat}{Q:AQ}{k:List gQ}{a:af}{b:St}{x:Code}(I:af->St->Prop)(c:bq P N x (AK P N (fun e f s=>e=.normal/\I f s) []) a b)(d:∀ a b,I a b->AK P N Q k .normal a b):
 bq P N x (AK P N Q k) a b:=by
 refine dG c ?_;rintro e UK h ⟨rfl,g⟩;exact d _ _ g
def Dh{P:Program}{N:Nat}{Q:AQ}{l:af}{d:St}{c:Code}(q j k:Nat){e s:Nat}(b post:List LV)(m:d.H q=.box e s (b++.nil::post))
 (h:bq P N c Q l ((d.new (.box j k [])).set q (.box e s (b++.ms d.z 0 0::post)))):bq P N c Q l d:=by
 refine iY (fun a w g f r _=>?_) h;have n:=ext_nil w g;have p:Inv w g.addNil (d.new (.box j k [])):=jF f _ (.inr ⟨j,k,rfl⟩);have dF:q<d.z:=Bq f m sS;refine⟨g.addNil,BR p (cs:=b++.nil::post) (by rw[cB,ac oO];exact m) sS (fun y t=>?_),r.mono n,n⟩;obtain⟨v,o,x⟩:=nK b y t;refine x g.addNil _ (Ext.refl _ _) ?_;simp only[Rep]at o ⊢;exact⟨none,0,o,au _,je _,fun _=>by simp[G.addNil,f.z],fun h=>absurd rfl h,by simp[G.addNil,f.z]⟩
structure AtR(lo:Nat)(ρ:Int->List Nat)(ea:List (AN×LV))(tk:Int->Nat)(st:St):Prop where
 get:∀ v,bQ ea [v]=if ρ v=[]then none else some (.sl (tk v) (ρ v).length (eo (ρ v)))
 own:∀ v,ρ v≠[]->st.H (tk v)=.own 3 1 (ρ v).length/\(tk v≠0/\lo<=tk v/\tk v<st.z)
 inj:∀ v w,ρ v≠[]->ρ w≠[]->tk v=tk w->v=w
def mO(a:Int->List Nat)(v:Int)(k:Nat):Int->List Nat:=fun w=>if w=v then a v++[k]else a w
def AtR.put{lo:Nat}{ρ:Int->List Nat}{ea:List (AN×LV)}{tk:Int->Nat}{st st':St}(h:AtR lo ρ ea tk st)(v:Int)(k:Nat){t n:Nat}(hn:n=(ρ v).length+1)(ht:st.z<=t/\t<st'.z/\t≠0/\lo<=t)(hH:st'.H t=.own 3 1 n)
 (ho:∀ w,w≠v->ρ w≠[]->st'.H (tk w)=st.H (tk w)) (hl:st.z<=st'.z):AtR lo (mO ρ v k) (bV ea [v] (.sl t n (eo (ρ v)++[i (k:Int)]))) (fun w=>if w=v then t else tk w) st' where
 get:=fun w=>by
  rw[jD];unfold mO;by_cases e:w=v
  .subst e;rw[ad rfl,ad rfl,ad rfl,ac sS,hn];simp[eo]
  .rw[ac (by simpa using e),ac e,ac e];exact h.get w
 own:=fun w hw=>by
  unfold mO at hw ⊢;by_cases e:w=v
  .rw[ad e,ad e];exact⟨by rw[hH,hn];simp,ht.2.2.1,ht.2.2.2,ht.2.1⟩
  .rw[ac e]at hw;rw[ac e,ac e];obtain⟨h1,h2,h3,h4⟩:=h.own w hw;exact⟨by rw[ho w e hw];exact h1,h2,h3,oO⟩
 inj:=fun x y hx hy he=>by
  unfold mO at hx hy;by_cases e1:x=v
  .by_cases e2:y=v
   .rw[e1,e2]
   .rw[ac e2]at hy;simp only[ad e1,ac e2]at he;have:=(h.own y hy).2.2.2;omega
  .rw[ac e1]at hx;by_cases e2:y=v
   .simp only[ac e1,ad e2]at he;have:=(h.own x hx).2.2.2;omega
   .rw[ac e2]at hy;simp only[ac e1,ac e2]at he;exact h.inj x y hx hy he
def AtR.keeps{d:Nat}{g:Int->List Nat}{b:List (AN×LV)}{f:Int->Nat}{e a:St}(h:AtR d g b f e)(c:aA e a):AtR d g b f a:=
 ⟨h.get,fun v n=>by obtain⟨j,k,l,m⟩:=h.own v n;exact⟨by rw[c.H _ m];exact j,k,l,by have:=c.z;omega⟩,h.inj⟩
def ou(c:List Ed)(k:Nat)(v:Int):List Nat:=(List.range k).filter fun i=>decide ((am c i).a=v\/(am c i).b=v)
def RQ{es:List Ed}{k:Nat}(f:(am es k).a≠(am es k).b):ou es (k+1)=mO (mO (ou es k) (am es k).a k) (am es k).b k:=by
 funext v
 unfold ou mO;rw[vh,qn];by_cases d:v=(am es k).b
 .subst d;rw[ad rfl,ac (fun e=>f e.symm)];simp
 .rw[ac d];by_cases c:v=(am es k).a
  .subst c;simp
  .rw[ac c];have:¬((am es k).a=v\/(am es k).b=v):=oO;rw[tg,ac (by simpa using this)];simp
def AtI(g:Gr)(p:Nat)(b:St)(d:Int->List Nat)(s:St):Prop:=s.H p=.box 25 2 (bv g)/\s.H (p+4)=.box 126 6 [.sl 0 g.E.length (eds g.E),.mp (p+1),.mp (p+2),.mp (p+3),.ms (p+5) 0 0,.ms (p+6) 0 0]/\s.H (p+2)=.map false [.u32] []/\s.H (p+3)=.map false [.u32] []/\s.H (p+5)=.box 3 1 []/\s.H (p+6)=.box 23 1 []/\p+7<=s.z/\aA b s/\
 ∃ a c,s.H (p+1)=.map false [.u32] a/\AtR (p+7) d a c s
theorem CQ{a:List Ed}{n:Nat}:∀(l:AN) (v:Int) (s:Bw),tD a n (l++[v]) s=(tD a n l s).bind fun b=>tD a n [v] b
 |[],v,s=>rfl
 |w::l,v,s=>by
  simp only[List.cons_append,tD]
  split
  .exact CQ l v s
  .cases oH a n w (-1) s with
   |none=>rfl
   |some b=>exact CQ l v b
def Jp.sz{g:Gr}{s:Bw}(h:Jp g s):SzB g s:=by
 have b:=zY s.out fun B c=>(h.good B c).ne;have e:=CE h.pn fun i a=>((h.pl i).1 a).1;unfold SzB;rw[h.stk];refine⟨je _,?_⟩;cases d:s.w with
 |nil=>
  have:s.out.flatten=[]:=ov.2 fun i a=>by have:=((h.pl i).1 a).2;rw[d]at this;cases this
  rw[this]at b;rw[List.length_nil,vn];exact b
 |cons w V=>rw[List.length_cons,lx];omega
theorem AtI.keeps{g:Gr}{p:Nat}{c:St}{d:Int->List Nat}{s b:St}(h:AtI g p c d s)(a:aA s b):AtI g p c d b:=by obtain⟨f,j,k,l,m,n,v,o,e,t,q,r⟩:=h;have:=a.z;exact⟨(a.H _ oO).trans f,(a.H _ oO).trans j,(a.H _ oO).trans k,(a.H _ oO).trans l,(a.H _ oO).trans m,(a.H _ oO).trans n,oO,o.trans a,e,t,(a.H _ oO).trans q,r.keeps a⟩
theorem HU:∀ {out:List (List Nat)},(∀ B∈out,B≠[])->out.length<=out.flatten.length
 |[],_=>by simp
 |B::out,h=>by have b:=HU (out:=out) fun B a=>h B (ar _ a);have c:=iu.2 (h B sS);simp only[List.length_cons,List.flatten_cons,cf];omega
def Vf{c:List Ed}{a:List (List Nat)}(b:∀ i,i∈a.flatten↔i<c.length)(e:∀ B∈a,dO c B)(d:a.flatten.Nodup):a.length<=c.length:=by have j:=HU fun B g=>(e B g).ne;have f:=fg d fun k h=>fC.2 ((b k).1 h);rw[qt]at f;omega
def UG(g:Gr)(hg:GoodE g)(A:St)(hv:g.V.length<=100)(he:g.E.length<=200):
 aB prog 60 [.ag (bv g)] A fun r R=>∃ q,r=.ms q 0 (gA g.E).length/\R.H q=.box 23 1 (gz g.E (gA g.E))/\A.z<=q/\q<R.z/\aA A R:=by
 obtain⟨S,hS,hSk,hSa,hSn,L9⟩:=rT hg;have hel:=aJ g.E;have Y9:=hg.ids;refine zN func60 ntmps60 [.tmp 2] ?_;refine iF fun P4=>?_;have x1:¬A.z=A.z+1:=oO;have x2:¬A.z=A.z+1+1:=oO;have x3:¬A.z=A.z+1+1+1:=oO;have x4:¬A.z=A.z+1+1+1+1:=oO;have x5:¬A.z=A.z+1+1+1+1+1:=oO;have x6:¬A.z=A.z+1+1+1+1+1+1:=oO;refine ef x1 x2 x3 x4 ?_;refine Dh (A.z+1+1+1+1) 3 1 (e:=126) (s:=6) [.sl 0 g.E.length (eds g.E),.mp (A.z+1),.mp (A.z+1+1),.mp (A.z+1+1+1)] [.nil] sS ?_;refine Dh (A.z+1+1+1+1) 23 1 (e:=126) (s:=6) [.sl 0 g.E.length (eds g.E),.mp (A.z+1),.mp (A.z+1+1),.mp (A.z+1+1+1),.ms (A.z+5) 0 0] [] sS ?_;obtain⟨p,hp⟩:∃ p,p=A.z:=⟨_,rfl⟩;refine bH 18 17 19 55 (g.E.length) (fun j M st2=>M 1=.pt p 0/\M 3=.pt (p+4) 0/\M 16=.sl 0 g.E.length (eds g.E)/\AtI g p A (ou g.E j) st2) ?_ ?_ ?_
 .subst hp;refine⟨sS,sS,sS,?_⟩;refine⟨ww x1 x2 x3 x4 x5 x6,?_,sS,sS,sS,sS,sS,?_,[],fun _=>0,sS,⟨fun v=>rfl,fun v hv=>absurd rfl hv,fun v w hv=>absurd rfl hv⟩⟩
  .simp
  ·(repeat (first|exact aA.refl _|(refine aA.trans ?_ (aA.new _ _))|(refine aA.set ?_ oO _)))
 .clear x1 x2 x3 x4 x5 x6;rintro j M s dF ⟨D,y,m,Z⟩ L fn JO F;have hde:=aS g.E j dF;have hj3:j*3<g.E.length*3:=oO;have c7:=hg.ne _ (sD dF);have hsu:=RQ (es:=g.E) (k:=j) c7;rw[hsu]at F;clear hsu;unfold am at F;generalize g.E.getD j ed0=x at *;obtain⟨id,d,o⟩:=x;simp only at F hde;have hρ:∀ w,(ou g.E j w).length<=10000:=fun w=>by have:=gw (fun i=>decide ((am g.E i).a=w\/(am g.E i).b=w)) (List.range j);rw[qt]at this;unfold ou;omega
  generalize ou g.E j=C at *;have hpn:p+7<=s.z:=Z.2.2.2.2.2.2.1;refine lz D y m L fn hde dF hj3 hel ?_;refine Bn (fun f T=>f 1=.pt p 0/\f 3=.pt (p+4) 0/\f 4=i j/\f 5=.pt s.z 0/\f 16=.sl 0 g.E.length (eds g.E)/\f 17=i g.E.length/\f 18=i j/\s.z<T.z/\T.H s.z=.box 36 3 [u id,u d,u o]/\AtI g p A (C) T) ⟨aa D,aa y,sS,sS,aa m,aa fn,aa L,sS,sS,Z.keeps (aA.new _ _)⟩ ?_;generalize s.z=X at *;clear D y m L fn Z M;rintro M c ⟨D,y,f4,f5,m,fn,L,hXl,hX,Z⟩;refine EH (fun f T=>f 1=.pt p 0/\f 3=.pt (p+4) 0/\f 4=i j/\f 5=.pt X 0/\f 16=.sl 0 g.E.length (eds g.E)/\f 17=i g.E.length/\f 18=i j/\X<T.z/\T.H X=.box 36 3 [u id,u d,u o]/\AtI g p A (mO C d j) T) ?_ ?_
  .obtain⟨hG,hW,hN,hL,hS,hB,hnx,o7,ea,h,hA,O⟩:=Z;have M7:=O.get d;have k1:¬X=c.z:=oO;have k2:¬X=c.z+1:=oO;have k3:¬X=p+1:=oO;have e0:¬p+4=c.z:=oO;have e1:¬p+1=c.z:=oO;have e2:¬p+2=c.z:=oO;have W:¬p+3=c.z:=oO;have e4:¬p=c.z:=oO;have e5:¬p+5=c.z:=oO;have e6:¬p+6=c.z:=oO;have e7:¬p+4=c.z+1:=oO;have e8:¬p+1=c.z+1:=oO;have e9:¬p+2=c.z+1:=oO;have e10:¬p+3=c.z+1:=oO;have e11:¬p=c.z+1:=oO;have e12:¬p+5=c.z+1:=oO;have e13:¬p+6=c.z+1:=oO;have I:¬c.z+1=p+1:=oO;have K:¬c.z=p:=oO;have U:∀ w,C w≠[]->¬h w=c.z/\¬h w=c.z+1/\¬h w=p+1:=fun w N=>by have:=(O.own w N).2;omega
   by_cases Q:C d=[]
   .rw[ad Q]at M7
    (refine zS [] [X,p+4,p+1] [0,2,4,6,8,10,12,14,16,18,20,22,24,26,28,30,33] ?_;intro J hJ;simp[y,f4,f5,hX,hW,hA,M7,k1,k2,k3,e0,e1,e4,e7,e8,I,K];(repeat refine ca ?_);refine zJ hJ ?_)
    have Y5:=O.put d j (t:=c.z+1) (n:=1) (st':=(((c.new (.own 3 1 1)).new (.own 3 1 1)).set (p+1) (.map false [.u32] (bV ea [d] (.sl (c.z+1) 1 [i (j:Int)]))))) (by rw[Q];rfl) ⟨oO,sS,oO,oO⟩ (dg I K) (fun w N h0=>by obtain⟨t1,t2,t3⟩:=U w h0;simp[t1,t2,t3]) (by simp;omega);rw[Q]at Y5;refine⟨by trivial,aa D,aa y,aa f4,aa f5,aa m,aa fn,aa L,by simp;omega,gq k1 k2 k3 hX,?_⟩;refine⟨gv e4 e11 hG,gv e0 e7 hW,gv e2 e9 hN,gv W e10 hL,gv e5 e12 hS,gv e6 e13 hB,by simp;omega,?_,_,_,by simp<;>rfl,Y5⟩
    (repeat (first|exact o7|(refine aA.trans ?_ (aA.new _ _))|(refine aA.set ?_ oO _)))
   .rw[ac Q]at M7;obtain⟨hO,t0,tl,tu⟩:=O.own d Q;obtain⟨t1,t2,t3⟩:=U d Q;have t4:¬X=h d:=fun e=>by rw[<- e,hX]at hO;cases hO
    have hrl:(eo (C d)).length=(C d).length:=lI _;have hrb:(C d).length<=10000:=hρ _;have p0:¬p=h d:=oO;have p1:¬p+1=h d:=oO;have p2:¬p+2=h d:=oO;have p3:¬p+3=h d:=oO;have p4:¬p+4=h d:=oO;have p5:¬p+5=h d:=oO;have p6:¬p+6=h d:=oO
    (refine zS [] [X,p+4,p+1] [0,2,4,6,8,10,12,14,16,18,20,22,24,26,28,30,33] ?_;intro J hJ;simp[y,f4,f5,hX,hW,hA,M7,hO,hrl,t0,t1,t4,p1,p4,k1,k2,k3,e0,e1,e4,e7,e8,I,K];(repeat refine ca ?_);refine zJ hJ ?_)
    have Y5:=O.put d j (t:=c.z+1) (n:=(C d).length+1) (st':=((((c.new (.own 3 1 1)).set (h d) .dead).new (.own 3 1 ((C d).length+1))).set (p+1) (.map false [.u32] (bV ea [d] (.sl (c.z+1) ((C d).length+1) (eo (C d)++[i (j:Int)]))))) ) rfl ⟨oO,sS,oO,oO⟩ (dg I K) (fun w N h0=>by obtain⟨u1,u2,u3⟩:=U w h0;have u4:¬h w=h d:=fun e=>N (O.inj w d h0 Q e);simp[u1,u2,u3,u4]) (by simp;omega);refine⟨by trivial,aa D,aa y,aa f4,aa f5,aa m,aa fn,aa L,by simp;omega,la k1 k2 k3 t4 hX,?_⟩;refine⟨gq p0 e4 e11 hG,gq p4 e0 e7 hW,gq p2 e2 e9 hN,gq p3 W e10 hL,gq p5 e5 e12 hS,gq p6 e6 e13 hB,by simp;omega,?_,_,_,by simp<;>rfl,Y5⟩
    (repeat (first|exact o7|(refine aA.trans ?_ (aA.new _ _))|(refine aA.set ?_ oO _)))
  clear D y f4 f5 m L fn hXl hX Z M c;rintro M c ⟨D,y,f4,f5,m,fn,L,hXl,hX,Z⟩;have hρ':∀ w,((mO C d j) w).length<=10001:=fun w=>by
   have h1:=hρ d;have h2:=hρ w;unfold mO
   split
   .rw[cf,List.length_singleton];omega
   .omega
  refine SH (fun f T=>f 1=.pt p 0/\f 3=.pt (p+4) 0/\f 4=i j/\f 5=.pt X 0/\f 16=.sl 0 g.E.length (eds g.E)/\f 17=i g.E.length/\f 18=i j/\X<T.z/\T.H X=.box 36 3 [u id,u d,u o]/\AtI g p A (mO (mO C d j) o j) T) ?_ ?_
  .obtain⟨hG,hW,hN,hL,hS,hB,hnx,o7,ea,h,hA,O⟩:=Z;have M7:=O.get o;have k1:¬X=c.z:=oO;have k2:¬X=c.z+1:=oO;have k3:¬X=p+1:=oO;have e0:¬p+4=c.z:=oO;have e1:¬p+1=c.z:=oO;have e2:¬p+2=c.z:=oO;have W:¬p+3=c.z:=oO;have e4:¬p=c.z:=oO;have e5:¬p+5=c.z:=oO;have e6:¬p+6=c.z:=oO;have e7:¬p+4=c.z+1:=oO;have e8:¬p+1=c.z+1:=oO;have e9:¬p+2=c.z+1:=oO;have e10:¬p+3=c.z+1:=oO;have e11:¬p=c.z+1:=oO;have e12:¬p+5=c.z+1:=oO;have e13:¬p+6=c.z+1:=oO;have I:¬c.z+1=p+1:=oO;have K:¬c.z=p:=oO;have U:∀ w,(mO C d j) w≠[]->¬h w=c.z/\¬h w=c.z+1/\¬h w=p+1:=fun w N=>by have:=(O.own w N).2;omega
   by_cases Q:(mO C d j) o=[]
   .rw[ad Q]at M7
    (refine zS [] [X,p+4,p+1] [0,2,4,6,8,10,12,14,16,18,20,22,24,26,28,30,33] ?_;intro J hJ;simp[y,f4,f5,hX,hW,hA,M7,k1,k2,k3,e0,e1,e4,e7,e8,I,K];(repeat refine ca ?_);refine zJ hJ ?_)
    have Y5:=O.put o j (t:=c.z+1) (n:=1) (st':=(((c.new (.own 3 1 1)).new (.own 3 1 1)).set (p+1) (.map false [.u32] (bV ea [o] (.sl (c.z+1) 1 [i (j:Int)]))))) (by rw[Q];rfl) ⟨oO,sS,oO,oO⟩ (dg I K) (fun w N h0=>by obtain⟨t1,t2,t3⟩:=U w h0;simp[t1,t2,t3]) (by simp;omega);rw[Q]at Y5;refine⟨by trivial,aa D,aa y,aa f4,aa f5,aa m,aa fn,aa L,by simp;omega,gq k1 k2 k3 hX,?_⟩;refine⟨gv e4 e11 hG,gv e0 e7 hW,gv e2 e9 hN,gv W e10 hL,gv e5 e12 hS,gv e6 e13 hB,by simp;omega,?_,_,_,by simp<;>rfl,Y5⟩
    (repeat (first|exact o7|(refine aA.trans ?_ (aA.new _ _))|(refine aA.set ?_ oO _)))
   .rw[ac Q]at M7;obtain⟨hO,t0,tl,tu⟩:=O.own o Q;obtain⟨t1,t2,t3⟩:=U o Q;have t4:¬X=h o:=fun e=>by rw[<- e,hX]at hO;cases hO
    have hrl:(eo ((mO C d j) o)).length=((mO C d j) o).length:=lI _;have hrb:((mO C d j) o).length<=10001:=hρ' _;have p0:¬p=h o:=oO;have p1:¬p+1=h o:=oO;have p2:¬p+2=h o:=oO;have p3:¬p+3=h o:=oO;have p4:¬p+4=h o:=oO;have p5:¬p+5=h o:=oO;have p6:¬p+6=h o:=oO
    (refine zS [] [X,p+4,p+1] [0,2,4,6,8,10,12,14,16,18,20,22,24,26,28,30,33] ?_;intro J hJ;simp[y,f4,f5,hX,hW,hA,M7,hO,hrl,t0,t1,t4,p1,p4,k1,k2,k3,e0,e1,e4,e7,e8,I,K];(repeat refine ca ?_);refine zJ hJ ?_)
    have Y5:=O.put o j (t:=c.z+1) (n:=((mO C d j) o).length+1) (st':=((((c.new (.own 3 1 1)).set (h o) .dead).new (.own 3 1 (((mO C d j) o).length+1))).set (p+1) (.map false [.u32] (bV ea [o] (.sl (c.z+1) (((mO C d j) o).length+1) (eo ((mO C d j) o)++[i (j:Int)]))))) ) rfl ⟨oO,sS,oO,oO⟩ (dg I K) (fun w N h0=>by obtain⟨u1,u2,u3⟩:=U w h0;have u4:¬h w=h o:=fun e=>N (O.inj w o h0 Q e);simp[u1,u2,u3,u4]) (by simp;omega);refine⟨by trivial,aa D,aa y,aa f4,aa f5,aa m,aa fn,aa L,by simp;omega,la k1 k2 k3 t4 hX,?_⟩;refine⟨gq p0 e4 e11 hG,gq p4 e0 e7 hW,gq p2 e2 e9 hN,gq p3 W e10 hL,gq p5 e5 e12 hS,gq p6 e6 e13 hB,by simp;omega,?_,_,_,by simp<;>rfl,Y5⟩
    (repeat (first|exact o7|(refine aA.trans ?_ (aA.new _ _))|(refine aA.set ?_ oO _)))
  rintro M s3 ⟨D,y,f4,f5,m,fn,L,hXl,hX,Z⟩;simp only[ak];exact F _ _ (aa L) (aa fn) ⟨D,y,m,Z⟩
 .clear x1 x2 x3 x4 x5 x6;rintro M s1 ⟨D,y,m,Z⟩;have hI':=Z;obtain⟨hG,hW,hN,hL,hSt,hB,hnx,o7,ea,h,hA,O⟩:=hI';have M7:∀ v,bQ ea [v]=if cm g.E v=[]then none else some (.sl (h v) (cm g.E v).length (eo (cm g.E v))):=O.get
  have hb0:sK g (p+1) (p+4) (p+1) (p+2) (p+3) h ⟨[],[],[],[]⟩ s1:=by refine⟨⟨p+5,p+6,[],ea,hW,⟨hA,M7⟩,hN,hL,⟨hSt,rfl⟩,hB,⟨oO,oO,oO⟩,oO,oO,oO,oO⟩,⟨oO,oO,oO,oO⟩,oO,oO,oO,oO⟩
  have P:Jp g ⟨[],[],[],[]⟩:=⟨rfl,.nil,fun w N=>(by cases N),fun w N=>(by cases N),rfl,fun i=>by simp,sS,fun B hB=>(by cases hB)⟩;clear hW hN hL hSt hB hA O Z;refine cy D hG ?_;refine bH 59 58 60 73 (g.V.length) (fun j M st2=>M 1=.pt p 0/\M 3=.pt (p+4) 0/\M 57=.sl 0 g.V.length (us g.V)/\KbB (p+1) s1 st2/\∃ sB,tD g.E g.V.length (g.V.take j) ⟨[],[],[],[]⟩=some sB/\Jp g sB/\sK g (p+1) (p+4) (p+1) (p+2) (p+3) h sB st2) ?_ ?_ ?_
  .exact⟨aa D,aa y,sS,KbB.refl _ _,_,rfl,P,hb0⟩
  .clear D y m hb0 P M;rintro j M c dF ⟨D,y,Y,hkb,sB,hsB,l,hbw⟩ L fn JO F;have hd:=qG g.V j dF;have hvm:g.V.getD j 0∈g.V:=by rw[bA _ _ dF];exact dq _
   have C4:g.V.take (j+1)=g.V.take j++[g.V.getD j 0]:=by rw[eL dF,bA _ _ dF]
   rw[C4,CQ,hsB]at F;simp only[Option.bind_some]at F;generalize g.V.getD j 0=v at *;have hm:=LY sB.w v;have U8:=l.sz;obtain⟨s3,W,hall3,_,_⟩:=EX hg g.V.length (au _) [v] sB (fun w N=>by rw[bf]at N;rw[N];exact hvm) l;rw[W]at F;have hbw':=hbw;obtain⟨⟨tS,tB,CS,ea2,jW,-,jN,-,-,-,-,-⟩,-,-⟩:=hbw';by_cases n9:v∈sB.w
   .rw[ad n9]at hm;have e4:s3=sB:=by unfold tD at W;rw[ad n9]at W;exact(im W).symm
    have hz1:1<=du sB.w v:=by unfold du;rw[ad n9];omega
    generalize du sB.w v=z at *;have hzb:(z==0)=false:=by rw[sr];omega
    have hz0:¬z=0:=oO;refine Wo y Y L fn hd dF jW jN hm hzb hz0 ?_;exact F _ _ (aa L) (aa fn) ⟨aa D,aa y,aa Y,hkb,s3,rfl,hall3,by rw[e4];exact hbw⟩
   .rw[ac n9]at hm;have hpre:yM g (fun _=>False) sB v (-1):=⟨l.ln,l.nd,fun a ha=>ha.elim,fun w N _=>l.fin w N,n9,fun a b ha=>ha.elim,.inl ⟨rfl,fun a ha=>ha⟩⟩
    (repeat' (first|apply qS|(apply qC;simp[y,Y,L,fn,hd,dF,jW,jN,hm])|(refine zE ?_;intro J hJ;simp[y,Y,L,fn,hd,dF,jW,jN,hm];(try refine zJ hJ ?_))))
    refine qE (Wx g hg (p+1) (p+4) (p+1) (p+2) (p+3) h hv he g.V.length _ sB v (-1) _ hpre hvm l.sub oO U8 hbw) sS ?_;rintro r s4 ⟨s5,h5,hb5,hk5⟩;have e5:s3=s5:=by unfold tD at W;rw[ac n9,h5]at W;exact(im W).symm
    refine bz ?_;exact F _ _ (aa L) (aa fn) ⟨aa D,aa y,aa Y,hkb.trans hk5,s3,rfl,hall3,by rw[e5];exact hb5⟩
  .clear D y m hb0 P M;rintro M c ⟨D,y,Y,hkb,sB,hsB,l,hbw⟩;rw[gm,hS]at hsB;obtain rfl:=im hsB;have U8:=l.sz;obtain⟨_,sb⟩:=Ac hv he l.nd l.sub;obtain⟨⟨tS,tB,CS,ea2,jW,-,jN,-,-,jB,-,b1,b2,b3,b4⟩,-,d1,-⟩:=hbw
   (repeat' (first|apply qS|(refine zE ?_;intro J hJ;simp[y,jW])))
   refine qE (ZJ Y9 S.out hSa L9 hSn tB _ (by have:=U8.2;have:=Vf hSa L9 hSn;omega) b4 jB) sS ?_;rintro r s4 ⟨h1,h2,h3⟩;have hW4:=(h3.2 (p+4) (bC jW jB sS) d1).trans jW;have v7:=h2.length_eq;refine cy y hW4 ?_;refine⟨tB,aa v7,h1,oO,cz b4 h3.1,?_⟩;refine⟨er o7.z (er hkb.z h3.1),fun x hx=>?_⟩;rw[h3.2 x oO (by have:=hkb.z;omega),hkb.H x oO,o7.H x hx]
def OU(n:Nat):∀ l:List Ed,gJ n (eds l):=fun l=>by
 induction l with
 |nil=>simp only[eds,qx,gJ]
 |cons x l a=>simp only[eds,ec,dl,List.cons_append,List.nil_append,gJ];exact⟨trivial,trivial,trivial,a⟩
def Tw(n:Nat)(b:List Ed):∀ a:List (List Nat),gJ n (gz b a):=fun a=>by
 induction a with
 |nil=>simp only[gz,np,gJ]
 |cons B a c=>simp only[gz,ax,gJ];exact⟨⟨.inl rfl,OU _ _⟩,c⟩
def YH(g:Gr)(f:GoodE g)(a:St)(l:g.V.length<=100)(e:g.E.length<=200):
 aB prog 60 [.ag (bv g)] a fun r b=>r=.sl 0 (gA g.E).length (gz g.E (gA g.E))/\b=a:=by
 refine qT (Q:=fun r=>r=.sl 0 (gA g.E).length (gz g.E (gA g.E))) (cE ((UG g f a l e).mono ?_)) fun r h=>by subst h;exact⟨.inl rfl,Tw _ _ _⟩
 rintro r s ⟨q,rfl,d,k,m,j⟩;have c:=BW g.E (gA g.E);exact⟨q,_,_,_,_,rfl,d,by rw[c,ph];exact au _,by rw[dp (by rw[c,ph];exact au _)],j.set k _⟩
end Aw
namespace Aw
open Go Go.RowKit Pl
def Gp:Option Mp->LV
 |none=>.tu [.ag [.sl 0 0 [],.sl 0 0 [],.sl 0 0 []],bb false]
 |some m=>.tu [.ag (pu m),bb true]
noncomputable def aQ(g:Gr):List (List Ed):=(gA (sE g.E)).map fun B=>B.map (am (sE g.E))
def sO(l:List (List Ed)):List LV:=l.map fun l=>.sl 0 l.length (eds l)
def Jy(l:List Ed):(sE l).Sublist l:=by
 induction l using xZ with
 |h0=>exact List.Sublist.refl _
 |h1 l x a=>
  rw[mG]
  split
  .exact a.trans (List.sublist_append_left _ _)
  .exact a.append (List.Sublist.refl _)
def GoodE.simple{g:Gr}(h:GoodE g):GoodE ⟨g.V,sE g.E⟩:=
 ⟨⟨h.rise,fun x a=>h.ends x (fM _ x a)⟩,h.ids.sublist (Jy _),fun x a=>h.pos x (fM _ x a),fun x a=>h.ne x (fM _ x a)⟩
def DV(g:Gr):(aQ g).length<=(sE g.E).length:=by unfold aQ gA;rw[dh,dh];exact er (gw _ _) (by rw[qt];exact au _)
def kY{g:Gr}(f:GoodE g){B:List Nat}(a:B∈gA g.E):dO g.E B:=by unfold gA at a;obtain⟨i,d,rfl⟩:=aq.1 a;rw[cx,fC]at d;obtain⟨s,_,_,e,_,c⟩:=rT f;obtain⟨B,a,b⟩:=fh.1 ((e i).2 d.1);rw[<- (c B a).cls b];exact c B a
def nJ{g:Gr}(o:GoodE g){l:List Ed}(n:l∈aQ g):DrE l/\∀ e∈l,e∈g.E:=by
 unfold aQ at n;obtain⟨B,a,rfl⟩:=aq.1 n;have c:=o.simple;have a:dO (sE g.E) B:=kY c a;have m:∀ e∈B.map (am (sE g.E)),e∈sE g.E:=fun e d=>by obtain⟨i,b,rfl⟩:=aq.1 d;have e:am (sE g.E) i=(sE g.E)[i]'(a.lt i b):=fA _ _ (a.lt i b);rw[e];exact dq _
 refine⟨⟨?_,fun x h=>c.pos x (m x h),fun x h=>c.ne x (m x h)⟩,fun e d=>fM _ e (m e d)⟩;rw[fa];refine a.rise.imp_of_mem fun {i j} b hj hij=>?_;have e:∀ k,(f:k∈B)->am (sE g.E) k=(sE g.E)[k]'(a.lt k f):=fun k f=>fA _ _ (a.lt k f);rw[e i b,e j hj];exact fq.1 c.ids i j (a.lt i b) (a.lt j hj) hij
def zw(R:List AN):dw (R.map fun r=>LV.sl 0 r.length (us r))=R.map fun r=>LV.sl 0 r.length (us r):=by
 induction R with
 |nil=>rfl
 |cons r R a=>simp only[ax,dw,z0,HY];rw[a]
def Jh(l:List (List Ed))(j:Nat)(h:j<l.length):(sO l).drop j=.sl 0 (l.getD j []).length (eds (l.getD j []))::sO (l.drop (j+1)):=by unfold sO;rw[<- qk,ir h,cp,cg h];rfl
theorem Hp(x:Int):∀ l,(xF x l).length<=l.length+1
 |[]=>by simp[xF]
 |y::l=>by
  have:=Hp x l;unfold xF
  split
  .simp
  .split
   .simp;omega
   .simp
theorem Hs:∀ l,(qU l).length<=l.length
 |[]=>by simp[qU]
 |x::l=>by have h:=Hs l;have a:=Hp x (qU l);unfold qU at h a ⊢;rw[List.foldr_cons,List.length_cons];omega
def WI(l:List Ed):(List.map (fun _:Ed=>3) l).sum=l.length*3:=by
 induction l with
 |nil=>rfl
 |cons x l a=>simp only[ax,List.sum_cons,List.length_cons,a];omega
def TI(f d a:Nat)(e b:St)(T:TL)(c:St):Prop:=aA e c/\b.z<=c.z/\(∀ l,a<=l->l<b.z->c.H l=b.H l)/\∃ A,yL false [.u32] 34 1 A d d c/\uK T A/\∀ x∈A,x.2.1<a\/b.z<=x.2.1
def Ez(g:Gr)(hv:g.V.length<=1000)(he:g.E.length<=200){o:Option Mp}(ho:(if chk g=0 then iX g (aQ g)else some none)=some o)(R:St):
 aB prog 33 [.ag (bv g)] R fun r st'=>r=Gp o/\aA R st':=by
 refine eS ?_;have hel:=aJ g.E;refine zN func33 ntmps33 [.cell 2 28,.tmp 3] ?_;refine iF fun P4=>?_
 (refine eu ?_;intro J Z)
 refine qE (Check g _ hv oO) sS ?_;rintro r q ⟨rfl,o6⟩;have K5:=o6.z;simp only[aH]at K5;have Y8:q.H R.z=.box 25 2 (bv g):=by rw[o6.H _ (by simp;omega)];simp
 have hO1:q.H (R.z+1)=.box 28 3 [.nil,.nil,.nil]:=by rw[o6.H _ sS];simp
 have hK1:aA R q:=((aA.new _ _).trans (aA.new _ _)).trans o6;by_cases hc:chk g=0
 case neg=>
  rw[ac hc]at ho;obtain rfl:none=o:=im ho;have hc2:(chk g != 0)=true:=by simpa using hc
  refine vY Z hc2 hO1 ?_;exact⟨by simp[Gp,z0,dw],hK1.set oO _⟩
 rw[ad hc]at ho;have hgE:=fO hc;have U7:=hgE.simple;have hc2:(chk g != 0)=false:=by simpa using hc
 have e1:¬R.z=q.z:=oO;refine sW Z hc2 Y8 e1 ?_;refine bH 27 26 28 47 (g.E.length) (fun j p st2=>p 1=.pt R.z 0/\p 2=.pt (R.z+1) 0/\p 4=.mp q.z/\p 25=.sl 0 g.E.length (eds g.E)/\aA q st2/\∃ A,yL true [.u32,.u32] 36 3 A q.z q.z st2/\Ff (g.E.take j) A) ?_ ?_ ?_
 .exact⟨sS,sS,sS,sS,aA.new _ _,[],⟨by simp[ji],sS,sS,sS,sS⟩,⟨sS,sS⟩⟩
 .rintro j p s dF ⟨f1,f2,m,f25,hk,A,hA,hB⟩ fi fn JO hJO;have hd:=aS g.E j dF;have u9:j*3<g.E.length*3:=oO;have C4:g.E.take (j+1)=g.E.take j++[g.E.getD j ed0]:=by rw[fA _ _ dF];exact eL dF
  have M7:=hB.get hA.nd (aj (g.E.getD j ed0));have S1:=hB.add hA.nd (g.E.getD j ed0);rw[<- C4]at S1;have hEl:(g.E.take j).length<=200:=by rw[dn];omega
  generalize g.E.take j=E at *;generalize g.E.take (j+1)=E' at *;generalize g.E.getD j ed0=x at *;obtain⟨d,a,b⟩:=x;have R6:(jX E (ay a b)).length<=200:=er (gw _ _) hEl;simp only[aj,ay,pk]at M7 S1 R6 hd;have w:=hA.map;have C:=vJ [min a b,max a b] A;have O:¬q.z=s.z:=by have:=hA.mlt;omega
  refine mu f25 fi fn dF hd hel u9 ?_;refine Br (fun f s'=>f 1=.pt R.z 0/\f 2=.pt (R.z+1) 0/\f 4=.mp q.z/\f 25=.sl 0 g.E.length (eds g.E)/\f 26=i g.E.length/\f 27=i j/\aA q s'/\∃ A,yL true [.u32,.u32] 36 3 A q.z q.z s'/\Ff E' A) ?_ ?_;rotate_left
  .rintro p s' ⟨f1,f2,m,f25,fn,fi,J9,hA'⟩;exact hJO _ _ fi fn ⟨aa f1,aa f2,aa m,aa f25,J9,hA'⟩
  have W:¬s.z=q.z:=fun e=>O e.symm;have S:¬q.z=s.z+1:=by have:=hA.mlt;omega
  have Y:¬s.z+1=q.z:=fun e=>S e.symm;have U:¬q.z=s.z+1+1:=by have:=hA.mlt;omega
  have N:¬s.z+1+1=q.z:=fun e=>U e.symm;rcases M7 with⟨y9,hgn⟩|⟨t,hgs⟩
  .rw[hgn]at C;simp only[Option.map_none]at C;have S1:=S1 (s.z+1+1);rw[y9]at S1;simp only[eds,qx,List.nil_append,List.length_nil,jd]at S1
   have hfin:∀ f:af,f 1=.pt R.z 0->f 2=.pt (R.z+1) 0->f 4=.mp q.z->f 25=.sl 0 g.E.length (eds g.E)->f 26=i g.E.length->f 27=i j->(f 1=.pt R.z 0/\f 2=.pt (R.z+1) 0/\f 4=.mp q.z/\f 25=.sl 0 g.E.length (eds g.E)/\f 26=i g.E.length/\f 27=i j/\aA q ((((s.new (.box 36 3 [u d,u a,u b])).new (.own 36 3 1)).new (.own 36 3 1)).set q.z (.map true [.u32,.u32] (bV (ji A) [min a b,max a b] (.sl (s.z+1+1) 1 [u d,u a,u b]))))/\∃ A',yL true [.u32,.u32] 36 3 A' q.z q.z ((((s.new (.box 36 3 [u d,u a,u b])).new (.own 36 3 1)).new (.own 36 3 1)).set q.z (.map true [.u32,.u32] (bV (ji A) [min a b,max a b] (.sl (s.z+1+1) 1 [u d,u a,u b]))))/\Ff E' A'):=fun f q1 q2 q3 q4 q5 q6=>
    ⟨q1,q2,q3,q4,q5,q6,(((hk.trans (aA.new _ _)).trans (aA.new _ _)).trans (aA.new _ _)).set (au _) _,_,hA.put (k:=[min a b,max a b]) (t:=s.z+1+1) (n:=1) (c:=[u d,u a,u b]) ⟨oO,sS⟩ (by simp;omega) hk.z oO (by simp[mc]) (aa N) (fun l hl hlm _=>by simp[show ¬l=s.z by omega,show ¬l=s.z+1 by omega,show ¬l=s.z+1+1 by omega,hlm]),S1⟩
   refine w_a [] [q.z,s.z] ?_;intro J Z;refine kV 6 [(0,true),(1,true),(2,true),(3,true),(4,true),(6,true),(7,true),(8,true),(9,true),(10,true),(13,true)] ?_;simp[m,O,W,w,C,S,Y,U,N];refine sZ 5 (5,true) (14,true) ?_ ?_
   .simp[m,O,W,w,C,S,Y,U,N];refine fI (pair a b _) ?_;refine⟨fun h=>by first|(cases h;done)|exact fun _ _=>rfl|simp[m,O,W,w,C,S,Y,U,N],?_⟩;refine sZ 4 (11,true) (14,true) ?_ ?_
    .simp[m,O,W,w,C,S,Y,U,N];refine fI (pair a b _) ?_;refine⟨fun h=>by first|(cases h;done)|exact fun _ _=>rfl|simp[m,O,W,w,C,S,Y,U,N],?_⟩;refine kV 0 [(12,true),(14,true),(15,true),(16,false)] ?_;simp[m,O,W,w,C,S,Y,U,N];refine⟨by unfold maxLen;omega,eR (Z _ _ ?_)⟩;simp only[ak];refine⟨trivial,hfin _ ?_ ?_ ?_ ?_ ?_ ?_⟩<;>simp[f1,f2,m,f25,fn,fi]
    .simp[m,O,W,w,C,S,Y,U,N];refine kV 0 [(11,true),(12,true),(15,true),(16,false)] ?_;simp[m,O,W,w,C,S,Y,U,N];refine fI (pair a b _) ?_;refine⟨fun h=>by first|(cases h;done)|exact fun _ _=>rfl|simp[m,O,W,w,C,S,Y,U,N],?_⟩;simp[m,O,W,w,C,S,Y,U,N];refine⟨by unfold maxLen;omega,eR (Z _ _ ?_)⟩;simp only[ak];refine⟨trivial,hfin _ ?_ ?_ ?_ ?_ ?_ ?_⟩<;>simp[f1,f2,m,f25,fn,fi]
   .simp[m,O,W,w,C,S,Y,U,N];refine kV 0 [(5,true),(11,true),(12,true),(15,true),(16,false)] ?_;simp[m,O,W,w,C,S,Y,U,N];refine fI (pair a b _) ?_;refine⟨fun h=>by first|(cases h;done)|exact fun _ _=>rfl|simp[m,O,W,w,C,S,Y,U,N],?_⟩;simp[m,O,W,w,C,S,Y,U,N];refine fI (pair a b _) ?_;refine⟨fun h=>by first|(cases h;done)|exact fun _ _=>rfl|simp[m,O,W,w,C,S,Y,U,N],?_⟩;simp[m,O,W,w,C,S,Y,U,N];refine⟨by unfold maxLen;omega,eR (Z _ _ ?_)⟩;simp only[ak];refine⟨trivial,hfin _ ?_ ?_ ?_ ?_ ?_ ?_⟩<;>simp[f1,f2,m,f25,fn,fi]
  .rw[hgs]at C;simp only[Option.map_some]at C;unfold mc at C;simp only at C;obtain⟨I,k2,k3,k4⟩:=hA.tok _ (nS hgs);simp only at I k2 k3 k4;have y1:¬t=s.z:=oO;have y2:¬t=s.z+1:=oO;have y3:¬s.z=t:=oO;have y4:¬s.z+1=t:=oO;have y5:¬q.z=t:=fun e=>by rw[<- e,w]at k4;cases k4
   have y6:¬t=q.z:=fun e=>y5 e.symm;have T6:(List.map (fun _:Ed=>3) (jX E (min a b,max a b))).sum=(jX E (min a b,max a b)).length*3:=WI _;have S1:=S1 (s.z+1+1);have Q:=aJ (jX E (min a b,max a b))
   have hfin:∀ f:af,f 1=.pt R.z 0->f 2=.pt (R.z+1) 0->f 4=.mp q.z->f 25=.sl 0 g.E.length (eds g.E)->f 26=i g.E.length->f 27=i j->(f 1=.pt R.z 0/\f 2=.pt (R.z+1) 0/\f 4=.mp q.z/\f 25=.sl 0 g.E.length (eds g.E)/\f 26=i g.E.length/\f 27=i j/\aA q (((((s.new (.box 36 3 [u d,u a,u b])).new (.own 36 3 1)).set t .dead).new (.own 36 3 ((jX E (min a b,max a b)).length+1))).set q.z (.map true [.u32,.u32] (bV (ji A) [min a b,max a b] (.sl (s.z+1+1) ((jX E (min a b,max a b)).length+1) (eds (jX E (min a b,max a b))++[u d,u a,u b])))))/\∃ A',yL true [.u32,.u32] 36 3 A' q.z q.z (((((s.new (.box 36 3 [u d,u a,u b])).new (.own 36 3 1)).set t .dead).new (.own 36 3 ((jX E (min a b,max a b)).length+1))).set q.z (.map true [.u32,.u32] (bV (ji A) [min a b,max a b] (.sl (s.z+1+1) ((jX E (min a b,max a b)).length+1) (eds (jX E (min a b,max a b))++[u d,u a,u b])))))/\Ff E' A'):=fun f q1 q2 q3 q4 q5 q6=>
    ⟨q1,q2,q3,q4,q5,q6,((((hk.trans (aA.new _ _)).trans (aA.new _ _)).set k2 _).trans (aA.new _ _)).set (au _) _,_,hA.put (k:=[min a b,max a b]) (t:=s.z+1+1) (n:=(jX E (min a b,max a b)).length+1) (c:=eds (jX E (min a b,max a b))++[u d,u a,u b]) ⟨oO,sS⟩ (by simp;omega) hk.z oO (by simp[mc]) (aa N) (fun l hl hlm hx=>by
      have:=hx _ hgs;simp only at this
      simp[show ¬l=s.z by omega,show ¬l=s.z+1 by omega,show ¬l=s.z+1+1 by omega,hlm,this]),S1⟩
   refine w_a [] [q.z,s.z] ?_;intro J Z;refine kV 6 [(0,true),(1,true),(2,true),(3,true),(4,true),(6,true),(7,true),(8,true),(9,true),(10,true),(13,true)] ?_;simp[m,O,W,w,C,S,Y,U,N,y1,y2,y3,y4,y5,y6,k4,I,Q,T6];refine sZ 5 (5,true) (14,true) ?_ ?_
   .simp[m,O,W,w,C,S,Y,U,N,y1,y2,y3,y4,y5,y6,k4,I,Q,T6];refine fI (pair a b _) ?_;refine⟨fun h=>by first|(cases h;done)|exact fun _ _=>rfl|simp[m,O,W,w,C,S,Y,U,N,y1,y2,y3,y4,y5,y6,k4,I,Q,T6],?_⟩;refine sZ 4 (11,true) (14,true) ?_ ?_
    .simp[m,O,W,w,C,S,Y,U,N,y1,y2,y3,y4,y5,y6,k4,I,Q,T6];refine fI (pair a b _) ?_;refine⟨fun h=>by first|(cases h;done)|exact fun _ _=>rfl|simp[m,O,W,w,C,S,Y,U,N,y1,y2,y3,y4,y5,y6,k4,I,Q,T6],?_⟩;refine kV 0 [(12,true),(14,true),(15,true),(16,false)] ?_;simp[m,O,W,w,C,S,Y,U,N,y1,y2,y3,y4,y5,y6,k4,I,Q,T6];refine⟨by unfold maxLen;omega,eR (Z _ _ ?_)⟩;simp only[ak];refine⟨trivial,hfin _ ?_ ?_ ?_ ?_ ?_ ?_⟩<;>simp[f1,f2,m,f25,fn,fi]
    .simp[m,O,W,w,C,S,Y,U,N,y1,y2,y3,y4,y5,y6,k4,I,Q,T6];refine kV 0 [(11,true),(12,true),(15,true),(16,false)] ?_;simp[m,O,W,w,C,S,Y,U,N,y1,y2,y3,y4,y5,y6,k4,I,Q,T6];refine fI (pair a b _) ?_;refine⟨fun h=>by first|(cases h;done)|exact fun _ _=>rfl|simp[m,O,W,w,C,S,Y,U,N,y1,y2,y3,y4,y5,y6,k4,I,Q,T6],?_⟩;simp[m,O,W,w,C,S,Y,U,N,y1,y2,y3,y4,y5,y6,k4,I,Q,T6];refine⟨by unfold maxLen;omega,eR (Z _ _ ?_)⟩;simp only[ak];refine⟨trivial,hfin _ ?_ ?_ ?_ ?_ ?_ ?_⟩<;>simp[f1,f2,m,f25,fn,fi]
   .simp[m,O,W,w,C,S,Y,U,N,y1,y2,y3,y4,y5,y6,k4,I,Q,T6];refine kV 0 [(5,true),(11,true),(12,true),(15,true),(16,false)] ?_;simp[m,O,W,w,C,S,Y,U,N,y1,y2,y3,y4,y5,y6,k4,I,Q,T6];refine fI (pair a b _) ?_;refine⟨fun h=>by first|(cases h;done)|exact fun _ _=>rfl|simp[m,O,W,w,C,S,Y,U,N,y1,y2,y3,y4,y5,y6,k4,I,Q,T6],?_⟩;simp[m,O,W,w,C,S,Y,U,N,y1,y2,y3,y4,y5,y6,k4,I,Q,T6];refine fI (pair a b _) ?_;refine⟨fun h=>by first|(cases h;done)|exact fun _ _=>rfl|simp[m,O,W,w,C,S,Y,U,N,y1,y2,y3,y4,y5,y6,k4,I,Q,T6],?_⟩;simp[m,O,W,w,C,S,Y,U,N,y1,y2,y3,y4,y5,y6,k4,I,Q,T6];refine⟨by unfold maxLen;omega,eR (Z _ _ ?_)⟩;simp only[ak];refine⟨trivial,hfin _ ?_ ?_ ?_ ?_ ?_ ?_⟩<;>simp[f1,f2,m,f25,fn,fi]
 .rintro p s ⟨f1,f2,m,f25,hk,A,hA,hB⟩;rw[gm]at hB;have hkn:=hk.z;have hGs:s.H R.z=.box 25 2 (bv g):=(hk.H _ oO).trans Y8;have hOs:s.H (R.z+1)=.box 28 3 [.nil,.nil,.nil]:=(hk.H _ oO).trans hO1
  (refine oj f1 hGs ?_;intro J Z)
  refine qE (RI g s oO oO oO) sS ?_;rintro r s2 ⟨rfl,u5⟩;have hkn2:=u5.z;have hA2:=hA.keep u5;have hK2:=hk.trans u5;have hsl:=nX g.E;have hO2:=(u5.H _ oO).trans hOs;have hG2:=(u5.H _ oO).trans hGs;clear u5 hOs hGs hA hk
  (refine mQ Z ?_;intro J Z)
  have hbk:=DV g;have R6:gz (sE g.E) (gA (sE g.E))=sO (aQ g):=by simp[gz,sO,aQ]
  have hbn:(gA (sE g.E)).length=(aQ g).length:=by simp[aQ]
  have hblk:=YH ⟨g.V,sE g.E⟩ U7 ((s2.new (.box 25 2 [.sl 0 g.V.length (us g.V),.sl 0 (sE g.E).length (eds (sE g.E))])).new (.map false [.u32] [])) (er (Hj hc).2.2.1 (by decide)) (by simp only;omega);simp only[]at hblk;rw[R6,hbn]at hblk;refine qE hblk (by simp[bv]) ?_;rintro r s3 ⟨rfl,e3⟩;rw[e3];clear e3 s3 hblk;have u9:=aA.new s2 (.box 25 2 [.sl 0 g.V.length (us g.V),.sl 0 (sE g.E).length (eds (sE g.E))]);have hn3:(s2.new (.box 25 2 [.sl 0 g.V.length (us g.V),.sl 0 (sE g.E).length (eds (sE g.E))])).z=s2.z+1:=rfl;rw[<- hn3];generalize s2.new (.box 25 2 [.sl 0 g.V.length (us g.V),.sl 0 (sE g.E).length (eds (sE g.E))])=s3 at *;have hA3:=hA2.keep u9;have hK3:=hK2.trans u9;have hO3:=(u9.H _ oO).trans hO2;have hG3:=(u9.H _ oO).trans hG2;clear hA2 hK2 hO2 hG2 u9;unfold iX at ho;obtain⟨oT,hoT,ho⟩:=mf.1 ho;have hKt:=hK1.trans hK3;refine dB Z ?_;refine bH 57 56 58 104 ((aQ g).length) (fun j p st2=>p 1=.pt R.z 0/\p 2=.pt (R.z+1) 0/\p 4=.mp q.z/\p 9=.mp s3.z/\p 55=.sl 0 (aQ g).length (sO (aQ g))/\aA s3 st2/\∃ T A2,yR g ((aQ g).drop j) T=some oT/\yL false [.u32] 34 1 A2 s3.z s3.z st2/\uK T A2/\gU T<=100000) ?_ ?_ ?_
  .exact⟨aa f1,aa f2,aa m,sS,sS,aA.new _ _,[],[],by simpa using hoT,⟨by simp[ji],sS,sS,sS,sS⟩,rfl,by simp[gU]⟩
  .clear f1 f2 m f25 hoT p;rintro j0 p s4 dF ⟨f1,f2,m,f9,f55,M0,T,A2,hE,hT,hR,htot⟩ fi fn JO hJO;have hd:=Jh (aQ g) j0 dF;have hdr:(aQ g).drop j0=(aQ g).getD j0 []::(aQ g).drop (j0+1):=by rw[ir dF,cp,cg dF];rfl
   obtain⟨hdre,J8⟩:=nJ hgE (l:=(aQ g).getD j0 []) (by rw[cp,cg dF];exact dq _);rw[hdr]at hE;unfold yR at hE;obtain⟨oD,hD,hE⟩:=mf.1 hE;generalize (aQ g).getD j0 []=l at *;have hkn4:=M0.z;have hM24:=hT.mlt.2;have hel4:(sO (aQ g)).length=(aQ g).length:=by simp[sO]
   (refine ua f55 fi fn dF hd hel4 ?_;intro J Z)
   refine qE (YT hdre hD s4 oO) sS ?_;rintro r s5 ⟨rfl,hk5⟩;have hO5:=(hk5.H (R.z+1) oO).trans ((M0.H (R.z+1) oO).trans hO3);have hk45:=M0.trans hk5;cases oD with
   |none=>simp only at hE;obtain rfl:none=oT:=im hE;simp only at ho;obtain rfl:none=o:=im ho;unfold ot;refine vY Z f2 hO5 ?_;exact⟨by simp[Gp,z0,dw],(hKt.trans hk45).set oO _⟩
   |some F=>
    simp only at hE
    split at hE
    case isFalse=>cases hE
    rename_i S9;obtain⟨o1,o2,o3,o4,o5⟩:=S9;unfold ot
    (refine OY Z f2 hO5 ?_;intro J Z)
    refine qE (Su F s5 o1 o2) sS ?_;rintro r s6 ⟨M,loc,rfl,w⟩;have hMk:=w.kp;have hnd:=w.nd;have hkeyN:=Sq (aU F) loc
    (refine mQ Z ?_;intro J Z)
    refine jh (ZM M _) ?_;have hM7:(s6.new (.box 87 1 [.mp M])).H M=.map false [.u32] (ie (aU F) loc):=by rw[cB,ac (by have:=w.olt;omega)];exact w.out
    refine dB Z ?_;refine qE (TY M s6.z (ie (aU F) loc) ((aU F).map (·.1)) _ (by simpa[ie]using o3) sS hM7 hkeyN hnd) sS ?_;rintro r s8 ⟨rfl,hk8⟩;have hk68:=(aA.new s6 _).trans hk8;have hn5:=hk5.z;have hn6:=hMk.z;have hn8:=hk68.z;have K1:s8.H M=.map false [.u32] (ie (aU F) loc):=(hk68.H M w.olt.2).trans w.out;have hinn:∀ a∈aU F,s8.H (loc a.1)=.map false [.u32] (gu a.2)/\s5.z<=loc a.1/\loc a.1<s8.z:=fun a ha=>by obtain⟨q1,q2,q3⟩:=w.inn a ha;exact⟨(hk68.H _ q3).trans q1,q2.1,oO⟩
    have hMo:s5.z<=M/\M<s8.z:=⟨w.olt.1,by have:=w.olt.2;omega⟩;have hk48:=(hk5.trans hMk).trans hk68;have hT8:=hT.keep hk48;have hk38:=M0.trans hk48;have hTW:∀ a∈A2,a.2.1<s5.z\/s8.z<=a.2.1:=fun a ha=>.inl (by have:=(hT.tok a ha).2.2.1;omega);have c7:=JV F;clear w hM7 hk68 hMk hk48 hT hk8 hk5 hO5 hk45 hkeyN;unfold vK at hE o5;generalize aU F=AF at *;have hKm:=fun x=>pS x (AF.map (·.1));have hKl:(qU (AF.map (·.1))).length<=1000:=er (Hs _) (by rw[dh];exact o3);generalize qU (AF.map (·.1))=K at *;refine dB Z ?_;refine bH 75 74 76 103 (K.length) (fun j p st2=>(p 1=.pt R.z 0/\p 2=.pt (R.z+1) 0/\p 4=.mp q.z/\p 9=.mp s3.z/\p 55=.sl 0 (aQ g).length (sO (aQ g))/\p 56=i (aQ g).length/\p 57=i j0/\p 14=.mp M/\p 73=.sl 0 K.length (us K))/\TI q.z s3.z s5.z s3 s8 (fS g AF (K.take j) T) st2) ?_ ?_ ?_
    .exact⟨⟨aa f1,aa f2,aa m,aa f9,aa f55,aa fn,aa fi,sS,sS⟩,hk38,au _,fun l _ _=>rfl,A2,hT8,hR,hTW⟩
    .clear f1 f2 m f9 f55 fn fi p hT8 hR hTW;rintro I p s9 W7 ⟨⟨f1,f2,m,f9,f55,f56,f57,f14,f73⟩,hTI⟩ fi fn J1 hJ1;have z7:=qG K I W7;have hsn1:fS g AF (K.take (I+1)) T=dX g (K.getD I 0) (bY (dI (K.getD I 0) AF)) (fS g AF (K.take I) T):=by have h1:K.take (I+1)=K.take I++[K[I]]:=eL W7;unfold fS;rw[h1,lq,bA _ _ W7];rfl
     have htot1:gU (fS g AF (K.take (I+1)) T)<=100000:=by have h1:=DK g AF (K.drop (I+1)) (fS g AF (K.take (I+1)) T);rw[<- Iz]at h1;omega
     have hvK:K.getD I 0∈AF.map (·.1):=(hKm _).1 (by rw[bA _ _ W7];exact dq _);have hvA:=Iv hvK;have hgM:=GH AF loc (K.getD I 0);rw[ad hvK]at hgM;rw[hsn1]at htot1 hJ1;clear hsn1;generalize fS g AF (K.take I) T=Tk at *;generalize K.getD I 0=v at *;obtain⟨hI1,hI2,hI3⟩:=hinn _ hvA;have hPl:=o4 _ hvA;have hP0:=c7 _ hvA;simp only at hI1 hI2 hI3 hPl hP0;have hLl:=Jm (dI v AF);generalize dI v AF=P at *;have hTI':=hTI;obtain⟨hk9,hn9,hW,A9,hT9,hR9,hTW9⟩:=hTI';have hM9:=(hW M hMo.1 hMo.2).trans K1;have hI9:=(hW _ hI2 hI3).trans hI1;clear hT9 hR9 hTW9 hW;generalize loc v=lv at *
     (refine wq f73 fi fn W7 z7 f14 hM9 hgM ?_;intro J Z)
     refine jh (Ws P lv s9 hP0 oO hI9 oO) ?_;have hLn:(bY P).length<=1000:=oO;generalize bY P=L at *;refine dB Z ?_;refine bH 84 83 85 102 (L.length) (fun j p st2=>(p 1=.pt R.z 0/\p 2=.pt (R.z+1) 0/\p 4=.mp q.z/\p 9=.mp s3.z/\p 55=.sl 0 (aQ g).length (sO (aQ g))/\p 56=i (aQ g).length/\p 57=i j0/\p 14=.mp M/\p 73=.sl 0 K.length (us K))/\(p 74=i K.length/\p 75=i I/\p 16=u v/\p 82=.sl 0 L.length (us L))/\TI q.z s3.z s5.z s3 s8 (dX g v (L.take j) Tk) st2) ?_ ?_ ?_
     .exact⟨⟨aa f1,aa f2,aa m,aa f9,aa f55,aa f56,aa f57,aa f14,aa f73⟩,⟨aa fn,aa fi,sS,sS⟩,hTI⟩
     .clear f1 f2 m f9 f55 f56 f57 f14 f73 fi fn p hTI hk9 hn9 hM9 hI9 s9;rintro k2 p s9 O5 ⟨⟨f1,f2,m,f9,f55,f56,f57,f14,f73⟩,⟨f74,f75,f16,f82⟩,hk9,hn9,hW,A9,hT9,hR9,hTW9⟩ fi fn J2 hJ2;have N3:=qG L k2 O5;have hsn2:dX g v (L.take (k2+1)) Tk=pJ v (fT (kK g v (L.getD k2 0)) v (L.getD k2 0)) (dX g v (L.take k2) Tk):=by have h1:L.take (k2+1)=L.take k2++[L[k2]]:=eL O5;unfold dX;rw[h1,lq,bA _ _ O5];rfl
      have htot2:gU (dX g v (L.take (k2+1)) Tk)<=100000:=by have h1:=wV g v (L.drop (k2+1)) (dX g v (L.take (k2+1)) Tk);rw[<- Ia]at h1;omega
      rw[hsn2]at htot2 hJ2;clear hsn2;generalize dX g v (L.take k2) Tk=Tq at *;generalize L.getD k2 0=x at *;have hbun:=hB.get hA3.nd (ay v x);have hMB:s9.H q.z=.map true [.u32,.u32] (ji A):=(hk9.H _ hA3.mlt.2).trans hA3.map;obtain⟨X,hX,tX,hXn⟩:∃ X,(bQ (ji A) [min v x,max v x]).getD .nil=X/\∃ t,norm X=.sl t (kK g v x).length (eds (kK g v x)):=by
       refine⟨_,rfl,?_⟩;rw[vJ];rcases hbun with⟨h1,h2⟩|⟨t,h2⟩
       .refine⟨0,?_⟩;simp only[ay,pk]at h2;rw[h2];unfold kK;rw[h1];rfl
       .refine⟨t,?_⟩;simp only[ay,pk]at h2;rw[h2];rfl
      have hBl:(kK g v x).length<=200:=er (gw _ _) (er he oO);have hBp:∀ e∈kK g v x,1<=e.id/\e.id<=1048576:=fun e h=>hgE.pos e (cx.1 h).1;have hdarts:=fun R=>WQ (kK g v x) v x tX R oO hBp;generalize kK g v x=B at *;have hmg:=vJ [v] A9;have S1:=hR9.add (v:=v) (ds:=fT B v x);have htq:=Ap v (pJ v (fT B v x) Tq);have hgq:=hR9.get (v:=v);generalize hDD:fT B v x=D at *;have hMT:=hT9.map;have z1:¬q.z=s3.z:=by have:=hA3.mlt;omega
      have z2:¬s3.z=q.z:=fun e=>z1 e.symm;have hn39:=hk9.z;have hDt:=uC v D Tq;have hDt2:=Ap v Tq;have hD1:D.length*4<=140737488355328:=oO;have hD2:D.length<=maxLen:=by unfold maxLen;omega
      have hm2:=hT9.mlt.2;have z3:¬s3.z=s9.z:=oO;have z4:¬s9.z=s3.z:=oO;have z5:¬q.z=s9.z:=by have:=hA3.mlt;omega
      have h35:s3.z<s5.z:=oO;refine jg f82 fi fn O5 N3 ?_
      (refine zS [] [q.z,s3.z] [0,2,4,6,8,10,12,14,20,22,16,18,24,26,29] ?_;intro J Z;simp[m,f9,f16,hMT,hMB])
      refine fI (pair v x _) ?_;refine⟨fun h=>by first|(cases h;done)|exact fun _ _=>rfl|simp,?_⟩
      (apply bM;simp[hMT,hMB,hX])
      refine fI (hdarts _) ?_ (by simp;exact hXn);refine⟨fun h=>by first|(cases h;done)|exact fun _ _=>rfl|simp,?_⟩;rcases hgq with⟨hq1,N9⟩|⟨t,N9⟩
      .rw[N9]at hmg;simp only[Option.map_none]at hmg
       (apply bM;simp[hMT,hMB,hX,hmg,hD1,hD2,z3,z4,z5];(refine zJ Z ?_;clear Z J))
       refine bz ?_;have S1:=S1 s9.z;rw[hq1]at S1;simp only[us,np,List.nil_append,List.length_nil,jd]at S1;refine hJ2 _ _ (aa fi) (aa fn) ⟨⟨aa f1,aa f2,aa m,aa f9,aa f55,aa f56,aa f57,aa f14,aa f73⟩,⟨aa f74,aa f75,aa f16,aa f82⟩,(hk9.trans (aA.new _ _)).set (au _) _,by simp;omega,fun l q1 q2=>?_,_,hT9.put (k:=[v]) (t:=s9.z) (n:=D.length) (c:=us D) ⟨au _,sS⟩ sS hn39 oO (by simp[mc]) (aa z4) (fun l hl hlm _=>by simp[show ¬l=s9.z by omega,hlm]),S1,fun y hy=>?_⟩
       .rw[bP,ac oO,cB,ac oO];exact hW l q1 q2
       .rcases qZ hT9.nd y hy with rfl|⟨hy,_⟩
        .exact .inr hn9
        .exact hTW9 y hy
      .rw[N9]at hmg;simp only[Option.map_some]at hmg;unfold mc at hmg;simp only at hmg;obtain⟨g1,g2,g3,g4⟩:=hT9.tok _ (nS N9);simp only at g1 g2 g3 g4;have y5:¬s3.z=t:=fun e=>by rw[<- e,hMT]at g4;cases g4
       have y6:¬t=s3.z:=fun e=>y5 e.symm;have y1:¬t=s9.z:=oO;have y2:¬s9.z=t:=oO;have z6:¬q.z=t:=by have:=hA3.mlt.2;omega
       have hD3:((eF v Tq).length+D.length)*4<=140737488355328:=oO;have hD4:(eF v Tq).length+D.length<=maxLen:=by unfold maxLen;omega
       (apply bM;simp[hMT,hMB,hX,hmg,hD1,hD2,z3,z4,z5,z6,y1,y2,y5,y6,g1,g4,hD3,hD4];(refine zJ Z ?_;clear Z J))
       refine bz ?_;refine hJ2 _ _ (aa fi) (aa fn) ⟨⟨aa f1,aa f2,aa m,aa f9,aa f55,aa f56,aa f57,aa f14,aa f73⟩,⟨aa f74,aa f75,aa f16,aa f82⟩,((hk9.set g2 _).trans (aA.new _ _)).set (au _) _,by simp;omega,fun l q1 q2=>?_,_,hT9.put (k:=[v]) (t:=s9.z) (n:=(eF v Tq).length+D.length) (c:=us (eF v Tq)++us D) ⟨au _,sS⟩ sS hn39 oO (by simp[mc]) (aa z4) (fun l hl hlm hx=>?_),S1 s9.z,fun y hy=>?_⟩
       .have:=hTW9 _ (nS N9);simp only at this;rw[bP,ac oO,cB,ac (by simp;omega),bP,ac oO];exact hW l q1 q2
       .have:=hx _ N9;simp only at this;simp[show ¬l=s9.z by omega,hlm,this]
       .rcases qZ hT9.nd y hy with rfl|⟨hy,_⟩
        .exact .inr hn9
        .exact hTW9 y hy
     .rintro p s10 ⟨⟨f1,f2,m,f9,f55,f56,f57,f14,f73⟩,⟨f74,f75,f16,f82⟩,hTI2⟩;rw[gm]at hTI2;refine bz ?_;exact hJ1 _ _ (aa f75) (aa f74) ⟨⟨aa f1,aa f2,aa m,aa f9,aa f55,aa f56,aa f57,aa f14,aa f73⟩,hTI2⟩
    .rintro p s9 ⟨⟨f1,f2,m,f9,f55,fn,fi,f14,f73⟩,hk9,hn9,_,A9,hT9,hR9,_⟩;rw[gm]at hR9;refine bz ?_;exact hJO _ _ (aa fi) (aa fn) ⟨aa f1,aa f2,aa m,aa f9,aa f55,hk9,_,A9,hE,hT9,hR9,o5⟩
  .clear f1 f2 m f25 hoT p;rintro p s4 ⟨f1,f2,m,f9,f55,M0,T,A2,hE,hT,hR,htot⟩;rw[List.drop_length]at hE;obtain rfl:some T=oT:=im hE;simp only at ho;by_cases hg1:∀ v∈g.V,(eF v T).length<=1000
   case neg=>rw[ac hg1]at ho;cases ho
   rw[ad hg1]at ho;obtain rfl:some _=o:=im ho;have hO4:=(M0.H (R.z+1) oO).trans hO3;have hG4:=(M0.H R.z oO).trans hG3
   (refine ol f1 hG4 f9 ?_;intro J Z)
   refine qE (Xb g s3.z (ji A2) (fun v=>eF v T) s4 hv oO hT.mlt.2 hT.map fun v hv'=>?_) (by simp[bv]) ?_
   .rw[vJ];rcases hR.get (v:=v)with⟨h1,h2⟩|⟨t,h2⟩
    .refine⟨_,0,rfl,?_,hg1 v hv'⟩;rw[h2,h1];rfl
    .refine⟨_,t,rfl,?_,hg1 v hv'⟩;rw[h2];rfl
   rintro r s5 ⟨rfl,hk5⟩;have hO5:=(hk5.H (R.z+1) (by have:=M0.z;omega)).trans hO4;refine vY Z f2 hO5 ?_;refine⟨?_,((hKt.trans M0).trans hk5).set oO _⟩;rw[<- dy];simp only[Gp,z0,dw,HY,zF,zw,pu,bv,dh,List.cons_append,List.nil_append,gM]
end Aw
end Go.Proofs.YtbgngpdonpeboaaGreatDoor
