/- Lemmas. -/
import Derived.Test.YtbgngpdonpeboaaGreatDoorJi
import Derived.Test.YtbgngpdonpeboaaGreatDoorAwFr
set_option linter.defProp false
set_option maxHeartbeats 8000000
open Go.Proofs.Tryz
namespace Go.Proofs.YtbgngpdonpeboaaGreatDoor
namespace Aw
open Go Go.RowKit Pl Eu
section
variable {es:List Ed} (hids:es.Pairwise fun x y=>x.id<y.id)
include hids
theorem YO{a b:Nat}(c:a<es.length)(d:b<es.length):(an es a).id<(an es b).id↔a<b:=by
 unfold an;rw[gH _ _ c,gH _ _ d];rw[fD]at hids;rcases lh a b with k|k|k
 .exact⟨fun _=>k,fun _=>hids a b c d k⟩
 .subst k;omega
 .have:=hids b a d c k;omega
theorem J6(P:PQ)(t:P.Nodup)(f:∀ i∈P,i<es.length)(q:Nat)(a:St)(A:P.length<65536)(v:q<a.z)(n:a.H q=.box 36 3 (eds (P.map (an es)))):
 aD prog 169 [.ms q 0 P.length,.fn (.func 170) []] a fun r b=>b.H q=.box 36 3 (eds ((wS es.length P).map (an es)))/\bU q a b:=by
 have e:∀ L:PQ,eds ((L.map fun k:Nat=>(k:Int)).map fun x=>an es x.toNat)=eds (L.map (an es)):=fun L=>by rw[dC];rfl
 have h:=M9 (fun x=>an es x.toNat) (fun x=>0<=x/\x.toNat<es.length) (fun x y d w=>by rw[YO hids d.2 w.2];omega) (P.map fun k:Nat=>(k:Int)) (fun x d=>by
  obtain⟨k,p,rfl⟩:=ao.1 d
  exact⟨O,by simpa using f k p⟩) q a (by rw[du];omega) v (by rw[e];exact n)
 rw[du]at h;refine h.mono ?_;rintro r s ⟨c,g,j,l,m⟩;refine⟨?_,m⟩;have o:c=(wS es.length P).map fun k:Nat=>(k:Int):=by refine MO l ?_ (j.trans ((yW t f).map _).symm);rw[gd];exact(yZ _ _).imp fun k=>by omega
 rw[g,o,e]
def im(es:QR)(a:List PQ):QQ:=a.map fun B=>.sl 0 B.length (eds (B.map (an es)))
omit hids in
theorem De(es:QR)(a:List PQ):(im es a).length=a.length:=by simp[im]
omit hids in
theorem ZH{z:Nat}(e:z<es.length)(b:(jH es z).headD 0=z):∃ R,jH es z=z::R:=by
 have d:z∈jH es z:=KH.2 ⟨e,.refl⟩;cases c:jH es z with
 |nil=>rw[c]at d;cases d
 |cons a R=>rw[c]at b;simp at b;exact⟨R,by rw[b]⟩
theorem G9(d:List PQ)(l:∀ i,i∈d.flatten↔i<es.length)(f:∀ B∈d,eH es B)(w:d.flatten.Nodup)(q:Nat)(n:St)(U:d.length<65536)(Q:q<n.z)(N:n.H q=.box 23 1 (im es d)):
 aD prog 98 [.ms q 0 d.length,.fn (.func 99) []] n fun r o=>o.H q=.box 23 1 (im es (gY es))/\(gY es).Perm d/\bU q n o:=by
 obtain⟨L,k⟩:∃ L:PP,L=d.map fun B=>((B.headD 0:Nat):Int):=⟨_,rfl⟩;have C:∀ B∈d,jH es (B.headD 0)=B:=fun B h=>((f B h).cls (head_mem (f B h).ne)).symm;have D:∀ x∈L,0<=x/\x.toNat<es.length/\(jH es x.toNat).headD 0=x.toNat:=fun x g=>by
  rw[k]at g;obtain⟨B,h,rfl⟩:=ao.1 g;refine⟨O,?_,?_⟩
  .simpa using(f B h).lt _ (head_mem (f B h).ne)
  .rw[Int.toNat_natCast,C B h]
 have e:∀ c:PP,(c.map fun x=>LV.sl 0 (jH es x.toNat).length (eds ((jH es x.toNat).map (an es))))=im es (c.map fun x=>jH es x.toNat):=fun c=>by unfold im;rw[dC];rfl
 have A:L.map (fun x=>jH es x.toNat)=d:=by
  rw[k,dC];have:∀ B∈d,((fun x:Int=>jH es x.toNat)∘fun B:PQ=>((B.headD 0:Nat):Int)) B=B:=fun B h=>by show jH es ((B.headD 0:Nat):Int).toNat=B;rw[Int.toNat_natCast];exact C B h
  rw[jf this,List.map_id']
 have t:L.Nodup:=by rw[k];refine gd.2 ?_;have:=(BY.1 w).2;refine this.imp_of_mem fun {a b} ha hb hd he=>?_;exact hd _ (head_mem (f a ha).ne) _ (head_mem (f b hb).ne) O
 have h:=I9 (fun x=>(jH es x.toNat).length) (fun x=>eds ((jH es x.toNat).map (an es))) (fun x=>(an es x.toNat).id) (fun x=>0<=x/\x.toNat<es.length/\(jH es x.toNat).headD 0=x.toNat) (fun x g=>by
  obtain⟨R,P⟩:=ZH g.2.1 g.2.2;rw[P]
  exact⟨Y,_,rfl⟩) (fun x y g T=>by rw[YO hids g.2.1 T.2.1];omega) L D q n (by rw[k,du];omega) Q (by rw[e,A];exact N)
 rw[show L.length=d.length by rw[k,du]]at h;refine h.mono ?_;rintro r s ⟨c,F,p,I,J⟩;have m:∀ x∈c,0<=x/\x.toNat<es.length/\(jH es x.toNat).headD 0=x.toNat:=fun x g=>D x (p.mem_iff.1 g);have E:(c.map fun x=>jH es x.toNat).Perm d:=by
  have:=p.map fun x:Int=>jH es x.toNat
  rwa [A]at this
 have S:(c.map fun x=>jH es x.toNat).Pairwise fun x y=>x.headD 0<y.headD 0:=by rw[gd];have v:=p.nodup_iff.2 t;refine(I.and v).imp_of_mem fun {a b} ha hb r9=>?_;have K:=m a ha;have M:=m b hb;rw[K.2.2,M.2.2];have:=r9.2;have:=r9.1;omega
 have j:=Cb l f E S;refine⟨by rw[F,e,j],by rw[<- j];exact E,J⟩
end
def eP(l:PQ):QQ:=l.map fun k:Nat=>i (k:Int)
@[simp] theorem mM(l:PQ):(eP l).length=l.length:=by simp[eP]
def Tu(l:PQ)(k:Nat)(a:k<l.length):(eP l).drop k=i ((l.getD k 0:Nat):Int)::(eP l).drop (k+1):=by
 grind [eP,List.drop_eq_getElem_cons]
def SG(l:PQ)(k:Nat):(eP l).take k=eP (l.take k):=by simp[eP]
variable{Q:AQ}{s:Bw}{g:Gr}{v x:Int}{N:List (List Nat)}{D V:List Int}{T:List Nat}{k:List iM}{B W a d e j:Nat}{P:Program}{b c:St}
def K5(h:¬v=x):(v::V).idxOf x=V.idxOf x+1:=by
 grind
def jt:Nat->PP->List (PP×LV)
 |_,[]=>[]
 |k,v::V=>([v],i ((k:Int)+1))::jt (k+1) V
def MH(V:PP):∀ k,(jt k V).length=V.length:=by
 induction V with
 |nil=>intro k;rfl
 |cons v V a=>grind [jt]
theorem Uj(V:PP)(x:Int):∀ k,bY (jt k V) [x]=if x∈V then some (i ((k:Int)+dy V x))else none:=by
 induction V with
 |nil=>intro k;rfl
 |cons v V a=>
  grind [jt,bY,dy]
def Un(V:PP)(h:x∉V):∀ k,bX (jt k V) [x] (i ((k:Int)+V.length+1))=jt k (V++[x]):=by
 induction V with
 |nil=>grind [jt,bX]
 |cons v V a=>
  intro k;rw[ai,fJ]at h
  grind [jt,bX]
def NU(V:PP)(x:Int):bY (jt 0 V) [x]=if x∈V then some (i (dy V x))else none:=by
 grind [Uj]
def VV(h:x∉V):bX (jt 0 V) [x] (i ((V.length:Int)+1))=jt 0 (V++[x]):=by
 have:=Un V h 0
 grind
def gq:PP->PP->List (PP×LV)
 |v::V,x::L=>([v],i x)::gq V L
 |_,_=>[]
theorem xU:∀(V L:PP) (x:Int),L.length=V.length->x∈V->bY (gq V L) [x]=some (i (L.getD (V.idxOf x) 0))
 |[],_,_,_,h=>by cases h
 |v::V,[],x,hl,_=>by grind
 |v::V,y::L,x,hl,h=>by
  unfold gq bY;by_cases e:v=x
  .grind
  .have a:¬([x]==[v])=true:=by simpa using fun k=>e k.symm
   simp only[a,ir,gI];rw[xU V L x (by grind) (by grind),K5 e];rfl
theorem As:∀(V L:PP) (x y:Int),L.length=V.length->x∉V->bX (gq V L) [x] (i y)=gq (V++[x]) (L++[y])
 |[],[],_,_,_,_=>rfl
 |[],_::_,_,_,hl,_=>by grind
 |v::V,[],x,_,hl,_=>by grind
 |v::V,z::L,x,y,hl,h=>by
  rw[ai,fJ]at h;have e:¬([x]==[v])=true:=by simpa using h.1
  unfold gq bX;simp only[e,ir,gI,List.cons_append];rw[As V L x y (by grind) h.2]
theorem tC:∀(V L:PP) (x y:Int),L.length=V.length->x∈V->bX (gq V L) [x] (i y)=gq V (L.set (V.idxOf x) y)
 |[],_,_,_,_,h=>by cases h
 |v::V,[],x,_,hl,_=>by grind
 |v::V,z::L,x,y,hl,h=>by
  unfold gq bX;by_cases e:v=x
  .grind
  .have a:¬([x]==[v])=true:=by simpa using fun k=>e k.symm
   simp only[a,ir,gI];rw[tC V L x y (by grind) (by grind),K5 e];rfl
def Le{l:PQ}{i:Nat}(h:i∈l):kV l i<l.length/\l.getD (kV l i) 0=i/\∀ j,kV l i<j->j<l.length->l.getD j 0≠i:=by
 obtain⟨P,R,rfl,a⟩:∃ P R,l=P++i::R/\i∉R:=by
  obtain⟨P,R,e,a⟩:=List.eq_append_cons_of_mem (iu.2 h);refine⟨R.reverse,P.reverse,?_,by grind⟩
  grind
 grind [yU]
structure vE(g:Gr)(B W a nb lw:Nat)(tk:Int->Nat)(s:Bw)(st:St):Prop where
 ex:∃ tS tB CS ea,st.H W=.box 126 6 [.sl 0 g.E.length (eds g.E),.mp a,.mp nb,.mp lw,.ms tS 0 s.stk.length,.ms tB 0 s.out.length]/\
  (st.H a=.map false [.u32] ea/\∀ v,bY ea [v]=if ci g.E v=[]then none else some (.sl (tk v) (ci g.E v).length (eP (ci g.E v))))/\
  st.H nb=.map false [.u32] (jt 0 s.w)/\st.H lw=.map false [.u32] (gq s.w s.low)/\(st.H tS=.box 3 1 CS/\CS.take s.stk.length=eP s.stk)/\st.H tB=.box 23 1 (im g.E s.out)/\
  (a≠nb/\a≠lw/\nb≠lw)/\(B<=tS/\B<=tB/\tS<st.z/\tB<st.z)
 bd:(B<=W/\B<=a/\B<=nb/\B<=lw)/\(W<st.z/\a<st.z/\nb<st.z/\lw<st.z)
def bF{b:Nat}{x y:cT}(d:c.H a=x)(f:c.H b=y)(h:x≠y):¬a=b:=fun e=>h (by rw[<- d,e,f])
def UH{a:QR}{P:PQ}(b:j<P.length):(P.take (j+1)).map (an a)=(P.take j).map (an a)++[an a (P.getD j 0)]:=by rw[fh b,cz,bv,bu b];rfl
structure KbB(B:Nat)(st st':St):Prop where
 z:st.z<=st'.z
 H:∀ x,x<B->st'.H x=st.H x
theorem KbB.refl(B:Nat)(a:St):KbB B a a:=⟨au _,fun _ _=>rfl⟩
def KbB.trans{a:St}(h:KbB B a b)(k:KbB B b c):KbB B a c:=⟨fa h.z k.z,fun x d=>by rw[k.H x d,h.H x d]⟩
theorem KbB.new{B:Nat}{a b:St}(h:KbB B a b)(d:B<=b.z)(o:cT):KbB B a (b.new o):=⟨by rw[aK];exact Nat.le_succ_of_le h.z,fun x c=>by rw[cN,aa O];exact h.H x c⟩
theorem KbB.set{B:Nat}{a b:St}(h:KbB B a b){l:Nat}(d:B<=l)(o:cT):KbB B a (b.set l o):=⟨h.z,fun x c=>by rw[cC,aa O];exact h.H x c⟩
def U1(g:Gr)(hids:g.E.Pairwise fun x y=>x.id<y.id)(B W a N M:Nat)(tk:Int->Nat)(s:Bw)(f:Nat)(Q:St)(h:vE g B W a N M tk s Q)(hi:f∈s.stk)(v:∀ k∈s.stk.drop (kV s.stk f),k<g.E.length)(T:(s.stk.drop (kV s.stk f)).Nodup)(he:g.E.length<=1000)(hkl:s.stk.length<=60000)(hol:s.out.length<=100000):
 aD prog 135 [.pt W 0,i f] Q fun r st'=>∃ s',KF g.E.length s f=some s'/\vE g B W a N M tk s' st'/\KbB B Q st':=by
 obtain⟨hl1,hl2,hl3⟩:=Le hi;have hcw:KF g.E.length s f=some { s with stk:=s.stk.take (kV s.stk f),out:=s.out++[wS g.E.length (s.stk.drop (kV s.stk f))] }:=by unfold KF;rw[ac hi]
 rw[hcw];clear hcw;obtain⟨⟨d,X,p,ea,L,⟨hA,hAm⟩,hN,hL,⟨K,R⟩,hBk,⟨n1,n2,n3⟩,⟨b1,b2,b3,b4⟩⟩,⟨c1,c2,c3,c4⟩,d1,d2,d3,d4⟩:=h;generalize hkk:kV s.stk f=kl at *;obtain⟨P,hP⟩:∃ P,P=s.stk.drop kl:=⟨_,rfl⟩;rw[<- hP]at v T ⊢;have hPl:P.length=s.stk.length-kl:=by rw[hP,gy]
 have hPe:P.length<=g.E.length:=by have:=gu T (fun k hk=>ii.2 (v k hk));rwa [vj]at this
 have hCS:s.stk.length<=p.length:=by have:=congrArg List.length R;rw[dj,mM]at this;omega
 have hCd:∀ k,k<s.stk.length->p.drop k=i ((s.stk.getD k 0:Nat):Int)::p.drop (k+1):=fun k hk=>by
  have e1:p=eP s.stk++p.drop s.stk.length:=by rw[<- R];exact(gw _ _).symm
  rw[jm O]
  congr 1
  have:p[k]'(by omega)=(eP s.stk)[k]'(by simpa using hk):=by have h2:=List.getElem_of_eq R (i:=k) (by rw[dj];omega);rw[nu]at h2;exact h2
  rw[this];simp[eP,hk]
 have w1:=aY s.stk.length O O;have m1:¬W=d:=bF L K Y;have m2:¬W=X:=bF L hBk Y;have m3:¬d=X:=bF K hBk Y;have m4:¬W=a:=bF L hA Y;have m5:¬W=N:=bF L hN Y;have m6:¬W=M:=bF L hL Y;have m7:¬a=d:=bF hA K Y;have m8:¬a=X:=bF hA hBk Y;have m9:¬N=d:=bF hN K Y;have w:¬N=X:=bF hN hBk Y;have m11:¬M=d:=bF hL K Y;have A:¬M=X:=bF hL hBk Y;refine zN func135 ntmps135 [] ?_;refine cm L w1 ?_;refine qL (fun n o c=>∃ k:Nat,n=k/\c=Q/\o 0=.pt W 0/\o 1=i f/\o 4=i k/\kl<=k/\k<s.stk.length) (s.stk.length-1) ?_ ?_
 .exact⟨s.stk.length-1,rfl,rfl,Y,Y,Y,O,O⟩
 rintro k o c ⟨_,rfl,U,f0,f1,f4,j8,o6⟩ JJ hJJ;rw[U];clear U c;have hd:=hCd k o6;have hkc:k<p.length:=O;by_cases hk:k=kl;rotate_left
 .have Tv:=hl3 k O o6;generalize s.stk.getD k 0=y at *;have S:((y:Int) != (f:Int))=true:=by rw[bne_iff_ne];omega
  have w2:=aY k O O;refine II f0 f1 f4 L K hd hkc o6 S w2 ?_;exact hJJ (k-1) _ _ O ⟨k-1,rfl,rfl,Z f0,Z f1,Y,O,O⟩
 clear hJJ;subst hk;rw[hl2]at hd;have S:((f:Int) != (f:Int))=false:=Y;refine oy f0 f1 f4 L K hd hkc o6 S ?_;rw[<- hPl];refine DB 5 36 3 Y ?_;have hel:=aL g.E;refine aV 32 31 33 46 (P.length) (fun j o c=>o 0=.pt W 0/\o 4=i k/\o 30=.ms d k P.length/\aC Q c/\∃ q,o 5=.ms q 0 j/\c.H q=.box 36 3 (eds ((P.take j).map (an g.E)))/\Q.z<=q/\q<c.z) ?_ ?_ ?_
 .refine⟨Z f0,Z f4,Z hPl,aC.new _ _,Q.z,Y,by simp[eds],O,Y⟩
 .clear f0 f1 f4 o hd S;rintro j o s1 dS ⟨g0,g4,g30,V,q,g5,hq,hq1,hq2⟩ fi fn JO t;have hW1:=(V.H W d1).trans L;have hS1:=(V.H d b3).trans K;have hd2:=hCd (k+j) O;have hPd:s.stk.getD (k+j) 0=P.getD j 0:=by rw[hP,bv,bv,vf]
  rw[hPd]at hd2;have hpl:P.getD j 0<g.E.length:=v _ (by rw[bv,bu dS];exact dz _);have hde:=aP g.E _ hpl;rw[UH dS]at t;have hql:(eds ((P.take j).map (an g.E))).length=j*3:=by rw[aL,du,dj];congr 1;omega
  have hap:eds ((P.take j).map (an g.E)++[an g.E (P.getD j 0)])=eds ((P.take j).map (an g.E))++dv (an g.E (P.getD j 0)):=by simp[eds]
  rw[hap]at t;unfold an at t;generalize hpp:P.getD j 0=p0 at *;generalize eds ((P.take j).map (an g.E))=RR at *;generalize g.E.getD p0 ed0=x at *;obtain⟨xi,xa,xb⟩:=x;simp only[dv]at t;simp only at hde;have hkj:k+j<p.length:=O;have hp3:p0*3<g.E.length*3:=O;have y1:¬q=s1.z:=O;have y2:¬q=0:=O
  (repeat' (first|apply qS|(refine zE ?_;intro J hJ;simp[g0,g4,g5,g30,fi,fn,hW1,hS1,hd2,hde,dS,hq,hql,hkj,hpl,hp3,hel,y1,y2];(repeat refine ca ?_);refine zJ hJ ?_)))
  refine t _ _ (Z fi) (Z fn) ⟨by simp[g0],Z g4,Z g30,?_,s1.z+1,Y,Y,O,Y⟩
  (repeat (first|exact V|(refine aC.trans ?_ (aC.new _ _))|(refine aC.set ?_ O _)))
 .rintro o s1 ⟨g0,g4,g30,V,q,g5,hq,hq1,hq2⟩;rw[fq]at hq;have hW1:=(V.H W d1).trans L;have hS1:=(V.H d b3).trans K;have hk':k<=s.stk.length:=O;have hnx:=V.z;have y1:¬q=W:=O
  (refine vL g0 g4 g5 hW1 hk' ?_;intro J hJ)
  refine qE (J6 hids P T v q _ O (by simp;omega) (ek y1 hq)) Y ?_;rintro r b ⟨hq3,n9⟩;have hn2:=n9.1;simp only[bP]at hn2;have m:∀ x,x≠q->x≠W->x<Q.z->b.H x=Q.H x:=fun x h1 h2 h3=>by rw[n9.2 x h1 (by simp;omega),cC,aa h2];exact V.H x h3
  have hW2:=n9.2 W (fun e=>y1 e.symm) (by simp;omega);rw[cC,ac rfl]at hW2;have hB2:=(m X O (fun e=>m2 e.symm) b4).trans hBk;have hS2:=(m d O (fun e=>m1 e.symm) b3).trans K;have hA2:=(m a O (fun e=>m4 e.symm) d2).trans hA;have hN2:=(m N O (fun e=>m5 e.symm) d3).trans hN;have hL2:=(m M O (fun e=>m6 e.symm) d4).trans hL;have hbl:=(yW T v).length_eq;have r8:(eds ((wS g.E.length P).map (an g.E))).length=P.length*3:=by rw[aL,du,hbl]
  (apply cP;simp[];refine zJ hJ ?_)
  refine wM 5 (l:=q) (n:=P.length) (Z g5) hq3 (vq r8.symm) ?_;rw[ej (vq r8)];have hbL:(im g.E s.out).length=s.out.length:=De _ _;have z1:¬W=q:=fun e=>y1 e.symm;have z2:¬X=q:=O;have z3:¬W=b.z:=O;have z4:¬X=b.z:=O;have z5:¬W=b.z+1:=O
  (repeat' (refine zE ?_;intro J hJ;simp[g0,hW2,hB2,m2,z1,z2,z3,z4,z5,hbL];(repeat refine ca ?_);refine zJ hJ ?_))
  have q1:¬a=q:=O;have q2:¬N=q:=O;have q3:¬M=q:=O;have q4:¬d=q:=O;have q5:¬a=b.z:=O;have q6:¬N=b.z:=O;have q7:¬M=b.z:=O;have q8:¬d=b.z:=O;have q9:¬a=b.z+1:=O;have C:¬N=b.z+1:=O;have D:¬M=b.z+1:=O;have F:¬d=b.z+1:=O;have I:¬b.z+1=W:=O;have r1:¬a=W:=fun e=>m4 e.symm;have r2:¬N=W:=fun e=>m5 e.symm;have r3:¬M=W:=fun e=>m6 e.symm;have r4:¬d=W:=fun e=>m1 e.symm;have hbk:im g.E (s.out++[wS g.E.length P])=im g.E s.out++[.sl 0 P.length (eds ((wS g.E.length P).map (an g.E)))]:=by unfold im;rw[cz];simp[hbl]
  have V9:(s.stk.take k).length=k:=by rw[dj];omega
  refine⟨trivial,⟨⟨d,b.z+1,p,ea,Z V9,⟨by simp[z1,z2,z3,z4,z5,q1,q2,q3,q4,q5,q6,q7,q8,q9,C,D,F,I,r1,r2,r3,r4,m2,m3,m8,w,A,hA2],hAm⟩,by simp[z1,z2,z3,z4,z5,q1,q2,q3,q4,q5,q6,q7,q8,q9,C,D,F,I,r1,r2,r3,r4,m2,m3,m8,w,A,hN2],by simp[z1,z2,z3,z4,z5,q1,q2,q3,q4,q5,q6,q7,q8,q9,C,D,F,I,r1,r2,r3,r4,m2,m3,m8,w,A,hL2],⟨by simp[z1,z2,z3,z4,z5,q1,q2,q3,q4,q5,q6,q7,q8,q9,C,D,F,I,r1,r2,r3,r4,m2,m3,m8,w,A,hS2],?_⟩,by simp[z1,z2,z3,z4,z5,q1,q2,q3,q4,q5,q6,q7,q8,q9,C,D,F,I,r1,r2,r3,r4,m2,m3,m8,w,A,hbk],⟨n1,n2,n3⟩,b1,O,by simp;omega,Y⟩,⟨c1,c2,c3,c4⟩,by simp;omega,by simp;omega,by simp;omega,by simp;omega⟩,?_⟩
  .rw[V9,show p.take k=(p.take s.stk.length).take k by rw[tK,vo hk'],R,SG]
  .refine(((((KbB.mk O fun x hx=>?_:KbB B Q b).set O _).new ?_ _).set b2 _).new ?_ _).set c1 _
   .exact m x O O O
   .simp;omega
   .simp;omega
def FP{N:Nat}{a:ah}{x y:Code}(I:ah->St->Prop)(c:bq P N x (AK P N (fun e f s=>e=.normal/\I f s) []) a b)(d:∀ a b,I a b->bq P N y (AK P N Q k) a b):
 bq P N x (AK P N Q (.code y::k)) a b:=by
 refine dR c ?_;rintro e j h ⟨rfl,g⟩;rw[kO];exact d _ _ g
theorem OM{f:Bw->Nat->Option Bw}:∀(l:PQ) (i:Nat) (s:Bw),ly f (l++[i]) s=(ly f l s).bind fun a=>f a i
 |[],i,s=>by show(f s i).bind (ly f [])=f s i;cases f s i<;>rfl
 |j::l,i,s=>by
  show(f s j).bind (ly f (l++[i]))=((f s j).bind (ly f l)).bind _;cases f s j with
  |none=>rfl
  |some a=>exact OM l i a
def DK{P:PQ}{n:Nat}(b:P.Nodup)(h:∀ i∈P,i<n):P.length<=n:=by have:=gu b (l₂:=List.range n) fun i a=>ii.2 (h i a);simpa using this
theorem Bb:∀(N:List PQ),(∀ B∈N,B≠[])->N.length<=N.flatten.length
 |[],_=>au _
 |B::N,h=>by have b:=Bb N fun B a=>h B (aq _ a);have c:=jg.2 (h B Y);simp only[List.flatten_cons,cb,List.length_cons];omega
def BLp.sz{f:Bw}{a:Int}{Q:PQ}(h:BLp g f v a Q s D T N):T.length<=g.E.length/\N.length<=g.E.length:=by have e:∀ i∈T++N.flatten,i<g.E.length:=fun i d=>((h.pl i).1 d).1;have b:=DK h.pn e;have j:=Bb N fun B c=>(h.good B c).ne;rw[cb]at b;omega
def SzB(g:Gr)(s:Bw):Prop:=s.stk.length<=s.w.length*(g.E.length+1)/\s.out.length<=s.w.length*(g.E.length+1)
def SzB.child{a:Bw}{b:Int}{Q:PQ}(c:SzB g a)(h:BLp g a v b Q s D T N):s.stk.length+1<=s.w.length*(g.E.length+1)/\s.out.length<=s.w.length*(g.E.length+1):=by
 obtain⟨j,k⟩:=h.sz;have d:(a.w.length+1)*(g.E.length+1)<=s.w.length*(g.E.length+1):=vc _ (by rw[h.w,cb,List.length_cons];omega);rw[nc,Nat.one_mul]at d;have e:s.stk.length=a.stk.length+T.length:=by rw[h.stk,cb]
 have f:s.out.length=a.out.length+N.length:=by rw[h.out,cb]
 obtain⟨l,m⟩:=c;omega
def Du(e:g.V.length<=100)(d:g.E.length<=200)(a:s.w.Nodup)(b:∀ w∈s.w,w∈g.V):s.w.length<=100/\s.w.length*(g.E.length+1)<=20100:=by have c:s.w.length<=g.V.length:=gu a b;exact⟨O,by have:=Nat.mul_le_mul (show s.w.length<=100 by omega) (show g.E.length+1<=201 by omega);omega⟩
def vE.keeps{f:Nat}{n:Int->Nat}{k:St}(h:vE g B W a j f n s k)(b:aC k c):vE g B W a j f n s c:=by obtain⟨⟨m,l,o,v,y,⟨w,d⟩,hN,hL,⟨x,e⟩,hBk,hn,⟨p,q,r,t⟩⟩,hc,d1,d2,d3,d4⟩:=h;have A:=b.z;exact⟨⟨m,l,o,v,(b.H W d1).trans y,⟨(b.H a d2).trans w,d⟩,(b.H j d3).trans hN,(b.H f d4).trans hL,⟨(b.H m r).trans x,e⟩,(b.H l t).trans hBk,hn,p,q,O,O⟩,hc,O,O,O,O⟩
def Xi{c b:Nat}{y:Int->Nat}{S:St}{A:QQ}{m:List (PP×LV)}(j:Nat)
 (l:S.H W=.box 126 6 [.sl 0 g.E.length (eds g.E),.mp a,.mp c,.mp b,.ms e 0 s.stk.length,.ms d 0 s.out.length])
 (n:S.H a=.map false [.u32] m) (p:∀ v,bY m [v]=if ci g.E v=[]then none else some (.sl (y v) (ci g.E v).length (eP (ci g.E v))))
 (r:S.H c=.map false [.u32] (jt 0 s.w)) (q:S.H b=.map false [.u32] (gq s.w s.low)) (k:S.H e=.box 3 1 A) (f:S.H d=.box 23 1 (im g.E s.out))
 (hn:a≠c/\a≠b/\c≠b) (V:B<=e/\B<=d/\e<S.z/\d<S.z) (X:B<=W/\B<=a/\B<=c/\B<=b) (hd:W<S.z/\a<S.z/\c<S.z/\b<S.z) (o:cT):
 vE g B W a c b y (fU s j) ((((S.new o).set e .dead).new (.box 3 1 (eP s.stk++[i (j:Int)]))).set W (.box 126 6 [.sl 0 g.E.length (eds g.E),.mp a,.mp c,.mp b,.ms (S.z+1) 0 (s.stk.length+1),.ms d 0 s.out.length]))/\
 KbB B S ((((S.new o).set e .dead).new (.box 3 1 (eP s.stk++[i (j:Int)]))).set W (.box 126 6 [.sl 0 g.E.length (eds g.E),.mp a,.mp c,.mp b,.ms (S.z+1) 0 (s.stk.length+1),.ms d 0 s.out.length])):=by
 obtain⟨C,D,b3,b4⟩:=V;obtain⟨x,F,I,J⟩:=X;obtain⟨d1,d2,d3,d4⟩:=hd;have m1:¬a=W:=bF n l Y;have m2:¬c=W:=bF r l Y;have m3:¬b=W:=bF q l Y;have m4:¬d=W:=bF f l Y;have m5:¬a=e:=bF n k Y;have m6:¬c=e:=bF r k Y;have m7:¬b=e:=bF q k Y;have m8:¬d=e:=bF f k Y;have K:¬a=S.z:=O;have L:¬c=S.z:=O;have M:¬b=S.z:=O;have N:¬d=S.z:=O;have P:¬a=S.z+1:=O;have Q:¬c=S.z+1:=O;have R:¬b=S.z+1:=O;have T:¬d=S.z+1:=O;have U:¬S.z+1=W:=O;have h:(fU s j).stk.length=s.stk.length+1:=by simp[fU]
 have t:eP (fU s j).stk=eP s.stk++[i (j:Int)]:=by simp[fU,eP]
 refine⟨⟨⟨S.z+1,d,eP s.stk++[i (j:Int)],m,by rw[h];simp[fU],⟨qi m1 m5 K P n,p⟩,by simp[m2,m6,L,Q,r,fU],by simp[m3,m7,M,R,q,fU],⟨Z U,?_⟩,by simp[m4,m8,N,T,f,fU],hn,O,D,Y,by simp;omega⟩,⟨x,F,I,J⟩,by simp;omega,by simp;omega,by simp;omega,by simp;omega⟩,?_⟩
 .rw[h,<- t,ej];rw[mM,h];exact au _
 .exact(((((KbB.refl B S).new O _).set C _).new (by simp;omega) _).set x _)
def CY{N:Nat}{c:Code}{a:ah}(I:ah->St->Prop)(d:I a b)(h:∀ a b,I a b->bq P N c Q a b):bq P N c Q a b:=h _ _ d
def TG{b:Nat}{o:Int->Nat}{T:St}(h:vE g B W a e b o s T)(v x:Int):vE g B W a e b o (pP s v x) (T.set b (.map false [.u32] (gq s.w (s.low.set (s.w.idxOf v) x)))):=by obtain⟨⟨n,m,p,z,j,⟨A,c⟩,hN,hL,⟨f,d⟩,hBk,⟨I,k,l⟩,⟨q,r,t,y⟩⟩,hc,d1,d2,d3,d4⟩:=h;have C:¬W=b:=bF j hL Y;have D:¬n=b:=bF f hL Y;have E:¬m=b:=bF hBk hL Y;have F:¬a=b:=k;have H:¬e=b:=l;exact⟨⟨n,m,p,z,by simp[C,j,pP],⟨ek F A,c⟩,by simp[H,hN,pP],by simp[pP],⟨ek D f,d⟩,by simp[E,hBk,pP],⟨I,k,l⟩,q,r,by simpa using t,by simpa using y⟩,hc,by simpa using d1,by simpa using d2,by simpa using d3,by simpa using d4⟩
def Lv(g:Gr)(h:Int->Nat)(e:Nat->Bw->Bw->Prop)(B W a l k:Nat)(f:Bw)(v b:Int)(m:St)(j:Nat)(c:ah)(d:St):Prop:=
 c 0=.pt W 0/\c 1=u v/\c 2=i b/\c 6=i ((f.w.length:Int)+1)/\c 35=.sl (h v) (ci g.E v).length (eP (ci g.E v))/\
 ∃ s D T N,e j f s/\BLp g f v b ((ci g.E v).take j) s D T N/\(∀ w∈s.w,w∈g.V)/\vE g B W a l k h s d/\KbB B m d
def A3(g:Gr)(hg:GoodE g)(B W a M K:Nat)(tk:Int->Nat)(hv:g.V.length<=100)(he:g.E.length<=200):∀(n:Nat) (A:Int->Prop) (s:Bw) (v l:Int) (st:St),BJ g A s v l->v∈g.V->(∀ w∈s.w,w∈g.V)->g.V.length<=n+s.w.length->SzB g s->vE g B W a M K tk s st->
 aD prog 97 [.pt W 0,u v,i l] st fun r st'=>∃ p,qA g.E n v l s=some p/\vE g B W a M K tk p st'/\KbB B st st':=by
 intro n;induction n with
 |zero=>intro A s v l st h hvv hs hn _ _;obtain⟨p,C,T,N,e,_⟩:=IF hg 0 A s v l h hvv hs hn;cases e
 |succ n ih=>
  intro A m v l st h0 hvv hs hn hsz hbw;obtain⟨hvl,hsb⟩:=Du hv he h0.nd hs;obtain⟨⟨tS,tB,CS,ea,hW,⟨hA,hAm⟩,hN,hL,⟨hS,U⟩,hBk,⟨n1,n2,n3⟩,⟨b1,b2,b3,b4⟩⟩,⟨c1,c2,c3,c4⟩,d1,d2,d3,d4⟩:=hbw;have m4:¬W=a:=bF hW hA Y;have m5:¬W=M:=bF hW hN Y;have m6:¬W=K:=bF hW hL Y;have v8:=MH m.w 0;have hms:=VV h0.new;have hml:=As m.w m.low v ((m.w.length:Int)+1) h0.ln h0.new;have hav:=hAm v;have w1:IntKind.i64.wrap ((m.w.length:Int)+1)=(m.w.length:Int)+1:=zW;have r1:¬a=M:=n1;have r2:¬a=K:=n2;have r3:¬M=K:=n3;have r4:¬K=M:=fun e=>n3 e.symm;refine zN func97 ntmps97 [] ?_;have hbs:=h0.start;have hstS:(sG m v).stk=m.stk:=rfl;have hb0:vE g B W a M K tk (sG m v) ((st.set M (.map false [.u32] (jt 0 (m.w++[v])))).set K (.map false [.u32] (gq (m.w++[v]) (m.low++[(m.w.length:Int)+1])))):=by have q1:¬W=M:=m5;have q2:¬tS=M:=bF hS hN Y;have q3:¬tS=K:=bF hS hL Y;have q4:¬tB=M:=bF hBk hN Y;have q5:¬tB=K:=bF hBk hL Y;exact⟨⟨tS,tB,CS,ea,by simp[m5,m6,hW,sG],⟨jy r1 r2 hA,hAm⟩,by simp[r3,sG],by simp[sG],⟨jy q2 q3 hS,U⟩,by simp[q4,q5,hBk,sG],⟨n1,n2,n3⟩,b1,b2,by simpa using b3,by simpa using b4⟩,⟨c1,c2,c3,c4⟩,by simpa using d1,by simpa using d2,by simpa using d3,by simpa using d4⟩
  have hk0:KbB B st ((st.set M (.map false [.u32] (jt 0 (m.w++[v])))).set K (.map false [.u32] (gq (m.w++[v]) (m.low++[(m.w.length:Int)+1])))):=((KbB.refl B st).set c3 _).set c4 _;have hv0:∀ w∈(sG m v).w,w∈g.V:=fun w hw=>by
   have hw:w∈m.w++[v]:=hw;rcases am.1 hw with k|k
   .exact hs w k
   .rw[bi]at k;rw[k];exact hvv
  by_cases hat:ci g.E v=[]
  .rw[ac hat]at hav;have hvis:qA g.E (n+1) v l m=some (sG m v):=by unfold qA;rw[hat];rfl
   refine Rn hW hN hL hA m4 m5 m6 v8 hms hml hav w1 r1 r2 r3 r4 ?_;refine aV 37 36 38 137 (0) (fun j fr st2=>st2=(st.set M (.map false [.u32] (jt 0 (m.w++[v])))).set K (.map false [.u32] (gq (m.w++[v]) (m.low++[(m.w.length:Int)+1])))) ?_ ?_ ?_
   .rfl
   .intro j fr s dS;omega
   .rintro fr s hs2;rw[hs2];refine bz ?_;exact⟨trivial,_,hvis,hb0,hk0⟩
  .rw[aa hat]at hav;have hnd:(ci g.E v).Nodup:=sk _ vm;have hatl:(ci g.E v).length<=g.E.length:=DK hnd fun i hi=>(aU.1 hi).1;refine Rn hW hN hL hA m4 m5 m6 v8 hms hml hav w1 r1 r2 r3 r4 ?_;clear hW hN hL hA hAm hS U hBk v8 hms hml hav m4 m5 m6 r1 r2 r3 r4 n1 n2 n3 b1 b2 b3 b4 d1 d2 d3 d4;refine aV 37 36 38 137 ((ci g.E v).length) (fun j fr st2=>Lv g tk (fun j s' s=>ly (iU (qA g.E n) g.E v l ((m.w.length:Int)+1)) ((ci g.E v).take j) (sG s' v)=some s) B W a M K m v l st j fr st2) ?_ ?_ ?_
   .exact⟨Y,Y,Y,Y,Y,sG m v,[],[],[],rfl,hbs,hv0,hb0,hk0⟩
   .rintro j fr p dS ⟨I,L,f2,P,q,s,D,T,N,hgo,t,X,hbw,hkb⟩ fi fn JO hJO;have hgt:(ci g.E v).getD j 0=(ci g.E v)[j]:=by rw[bv,bu dS];rfl
    have V9:(ci g.E v).take (j+1)=(ci g.E v).take j++[(ci g.E v).getD j 0]:=by rw[fh dS,hgt]
    have hi:(ci g.E v).getD j 0∈ci g.E v:=by rw[hgt];exact dz _
    have hiQ:(ci g.E v).getD j 0∉(ci g.E v).take j:=fun k=>by have h1:=hnd;rw[<- gw (j+1) (ci g.E v),V9,dw,bo]at h1;exact h1.2.2 _ k _ Y rfl
    have hd:=Tu (ci g.E v) j dS;generalize (ci g.E v).getD j 0=d at *;obtain⟨hil,hie⟩:=aU.1 hi;have next:∀ c,iU (qA g.E n) g.E v l ((m.w.length:Int)+1) s d=some c->ly (iU (qA g.E n) g.E v l ((m.w.length:Int)+1)) ((ci g.E v).take (j+1)) (sG m v)=some c:=fun c e=>by rw[V9,OM,hgo];exact e
    by_cases hb:(d:Int)=l
    .have hbb:((d:Int)==l)=true:=by simpa using hb
     refine mf I f2 q fi fn hd dS hbb ?_;exact hJO _ _ (Z fi) (Z fn) ⟨Z I,Z L,Z f2,Z P,Z q,s,D,T,N,next s (by unfold iU;rw[ac hb]),by rw[V9];exact t.same hg h0 hi hb,X,hbw,hkb⟩
    have hbb:((d:Int)==l)=false:=by simpa using hb
    have hbw':=hbw;obtain⟨⟨tS,tB,CS,ea,hW,⟨hA,hAm⟩,hN,hL,⟨hS,U⟩,hBk,⟨n1,n2,n3⟩,⟨b1,b2,b3,b4⟩⟩,-,d1,d2,d3,d4⟩:=hbw';have hde:=aP g.E d hil;have hel:=aL g.E;have hi3:d*3<g.E.length*3:=O;have y1:¬W=p.z:=O;have y2:¬M=p.z:=O;have y3:¬K=p.z:=O;have y4:¬tS=p.z:=O;have y5:¬a=p.z:=O;have y6:¬tB=p.z:=O;obtain⟨w,hw⟩:∃ w,w=bh (an g.E d) v:=⟨_,rfl⟩;have Q:w=if(g.E.getD d ed0).a=v then(g.E.getD d ed0).b else(g.E.getD d ed0).a:=hw
    (repeat (apply qS));(refine zE ?_;intro J F;simp[q,fi,fn,hd,dS];(refine zJ F ?_;clear F J))
    (repeat (apply qS));(refine zE ?_;intro J F;simp[f2];(refine zJ F ?_;clear F J))
    (apply qC;simp[hbb])
    refine qK (zZ ?_)
    (repeat (apply qS));(refine zE ?_;intro J F;simp[I,hW,hde,hil,hi3,hel];(refine zJ F ?_;clear F J))
    (repeat (apply qS));(refine zE ?_;intro J F;simp[];(refine zJ F ?_;clear F J))
    apply qS;refine FP (fun f T=>f 0=.pt W 0/\f 1=u v/\f 2=i l/\f 6=i ((m.w.length:Int)+1)/\f 35=.sl (tk v) (ci g.E v).length (eP (ci g.E v))/\f 36=i (ci g.E v).length/\f 37=i j/\f 8=i d/\f 10=u w/\∃ o,T=p.new o) ?_ ?_
    .have hxg:g.E.getD d ed0=g.E[d]:=gH _ _ hil;rw[hxg]at Q;by_cases hxa:g.E[d].a=v
     .have hxb:(g.E[d].a==v)=true:=by simpa using hxa
      rw[ac hxa]at Q;refine fw I L hxb ?_;exact⟨trivial,Z I,Z L,Z f2,Z P,Z q,Z fn,Z fi,Y,by rw[Q];simp,_,rfl⟩
     .have hxb:(g.E[d].a==v)=false:=by simpa using hxa
      rw[aa hxa]at Q;refine fw I L hxb ?_;exact⟨trivial,Z I,Z L,Z f2,Z P,Z q,Z fn,Z fi,Y,by rw[Q];simp,_,rfl⟩
    clear I L f2 P q fi fn hd hde Q fr;rintro fr T ⟨I,L,f2,P,q,f36,f37,f8,S,o,hT⟩;rw[hT];clear hT T;subst hw;have hW':=(show(p.new o).H W=p.H W by rw[cN,aa y1]).trans hW;have hN':=(show(p.new o).H M=p.H M by rw[cN,aa y2]).trans hN;have hL':=(show(p.new o).H K=p.H K by rw[cN,aa y3]).trans hL;have hS':=(show(p.new o).H tS=p.H tS by rw[cN,aa y4]).trans hS;have hA':=(show(p.new o).H a=p.H a by rw[cN,aa y5]).trans hA;have hB':=(show(p.new o).H tB=p.H tB by rw[cN,aa y6]).trans hBk;have hbT:vE g B W a M K tk s (p.new o):=hbw.keeps (aC.new _ _);have hkT:KbB B st (p.new o):=hkb.new O o;have hTn:(p.new o).z=p.z+1:=aK _ _;generalize p.new o=T1 at *;obtain⟨szp,szo⟩:=hsz.child t;obtain⟨vl,sb⟩:=Du hv he t.nd X;have hm:=NU s.w (bh (an g.E d) v);have m5:¬W=M:=bF hW hN Y;have m6:¬W=K:=bF hW hL Y;have m1:¬W=tS:=bF hW hS Y;have hCS:s.stk.length<=CS.length:=by have:=congrArg List.length U;rw[dj,mM]at this;omega
    have t1:¬W=T1.z:=O;have t2:¬W=T1.z+1:=O;have t3:¬tS=T1.z:=O;obtain⟨hpb,hpk⟩:=Xi d hW' hA' hAm hN' hL' hS' hB' ⟨n1,n2,n3⟩ ⟨b1,b2,O,O⟩ ⟨c1,c2,c3,c4⟩ ⟨O,O,O,O⟩ (.own 3 1 1);by_cases j7:bh (an g.E d) v∈s.w
    .rw[ac j7]at hm;have hn1:1<=dy s.w (bh (an g.E d) v):=by unfold dy;rw[ac j7];omega
     by_cases hnm:dy s.w (bh (an g.E d) v)<(m.w.length:Int)+1
     .have hback:=t.back hg h0 hi hiQ hb j7 hnm;have hst:iU (qA g.E n) g.E v l ((m.w.length:Int)+1) s d=some (pP (fU s d) v (min (bp s v) (dy s.w (bh (an g.E d) v)))):=by unfold iU;rw[aa hb,ac j7,ac hnm]
      generalize bh (an g.E d) v=w at *;generalize dy s.w w=z at *;have hzb:(z==0)=false:=by rw[vd];omega
      have hz0:¬z=0:=O
      (repeat' (first|apply qS|apply qB|(apply qC;simp[I,L,P,f8,S,hW',hN',hm,hzb,hz0,hnm,hS',U,hCS,m1,t1,t2,t3])|(refine zE ?_;intro J F;simp[I,L,P,f8,S,hW',hN',hm,hzb,hz0,hnm,hS',U,hCS,m1,t1,t2,t3];(repeat refine ca ?_);(refine zJ F ?_;clear F J))))
      refine CY (fun f T2=>f 0=.pt W 0/\f 1=u v/\f 2=i l/\f 6=i ((m.w.length:Int)+1)/\f 35=.sl (tk v) (ci g.E v).length (eP (ci g.E v))/\f 36=i (ci g.E v).length/\f 37=i j/\f 11=i z/\vE g B W a M K tk (fU s d) T2/\KbB B T1 T2) ⟨Z I,Z L,Z f2,Z P,Z q,Z f36,Z f37,Y,hpb,hpk⟩ ?_;clear I L f2 P q f36 f37 f8 S hpb hpk fr;rintro fr T2 ⟨I,L,f2,P,q,f36,f37,f11,hp2,o6⟩;have hlow:=TG hp2 v (min (bp s v) z);have hml:=xU s.w s.low v t.ln (t.v_in hg h0);have hmo:=tC s.w s.low v (min (bp s v) z) t.ln (t.v_in hg h0);obtain⟨⟨tS2,tB2,CS2,ea2,jW,-,-,jL,-,-,-,-⟩,-,-⟩:=hp2;have jm6:¬W=K:=bF jW jL Y;have jL:T2.H K=.map false [.u32] (gq s.w s.low):=jL;have hml:bY (gq s.w s.low) [v]=some (i (bp s v)):=hml
      (refine zS [] [W,K] [0,2,4,6,8,10,12,14,16,18,20,22,24,27] ?_;intro J F;simp[I,L,f11,jW,jL,hml,hmo];(refine zJ F ?_;clear F J))
      have hmin:(if z<bp s v then z else bp s v)=min (bp s v) z:=by split<;>omega
      rw[hmin,show bX (gq s.w s.low) [v] (LV.atom (Value.int IntKind.i64 (min (bp s v) z)))=_ from hmo];exact hJO _ _ (Z f37) (Z f36) ⟨Z I,Z L,Z f2,Z P,Z q,_,D,T++[d],N,next _ hst,by rw[V9];exact hback,X,hlow,(hkT.trans o6).set c4 _⟩
     .have hskip:=t.skip hg h0 hi j7 hnm;have hst:iU (qA g.E n) g.E v l ((m.w.length:Int)+1) s d=some s:=by unfold iU;rw[aa hb,ac j7,aa hnm]
      generalize bh (an g.E d) v=w at *;generalize dy s.w w=z at *;have hzb:(z==0)=false:=by rw[vd];omega
      have hz0:¬z=0:=O;refine II I L P S hW' hN' hm hzb hz0 hnm ?_;exact hJO _ _ (Z f37) (Z f36) ⟨Z I,Z L,Z f2,Z P,Z q,s,D,T,N,next s hst,by rw[V9];exact hskip,X,hbT,hkT⟩
    .rw[aa j7]at hm;have hpre:=t.pre hg h0 hi j7;have hch:=fun p C T' N' R=>t.child hg h0 hi hiQ hb j7 (s1:=p) (C:=C) (T':=T') (N':=N') R;have hwv:bh (an g.E d) v∈g.V:=hg.nbr (nH hi);have hwne:=vT hg hi;have hst:iU (qA g.E n) g.E v l ((m.w.length:Int)+1) s d=(qA g.E n (bh (an g.E d) v) d (fU s d)).bind (Qo g.E.length v ((m.w.length:Int)+1) d (bh (an g.E d) v)):=by unfold iU;rw[aa hb,aa j7]
     generalize bh (an g.E d) v=w at *
     (repeat' (first|apply qS|apply qB|(apply qC;simp[I,L,P,f8,S,hW',hN',hm,hS',U,hCS,m1,t1,t2,t3])|(refine zE ?_;intro J F;simp[I,L,P,f8,S,hW',hN',hm,hS',U,hCS,m1,t1,t2,t3];(repeat refine ca ?_);(try (refine zJ F ?_;clear F J)))))
     have hlen:s.w.length=m.w.length+1+D.length:=by rw[t.w,cb,List.length_cons];omega
     refine qE (ih _ (fU s d) w d _ hpre hwv X (by show g.V.length<=n+s.w.length;omega) ⟨by simpa[fU]using szp,szo⟩ hpb) Y ?_;rintro r T2 ⟨c,hvis,hb2,o6⟩;obtain⟨s2',C,T',N',hvis',R,hC⟩:=IF hg n _ (fU s d) w d hpre hwv X (by show g.V.length<=n+s.w.length;omega);obtain rfl:c=s2':=by rw[hvis]at hvis';exact ji hvis'
     clear hvis';obtain⟨s3,D2,T3,N2,hlo,hbl3⟩:=hch c C T' N' R;have hst3:iU (qA g.E n) g.E v l ((m.w.length:Int)+1) s d=some s3:=by rw[hst,hvis];exact hlo
     have hkT2:KbB B st T2:=(hkT.trans hpk).trans o6;have hvs:v∈s.w:=t.v_in hg h0;have hvs2:v∈c.w:=by rw[R.w];exact dg _ hvs
     have hws2:w∈c.w:=by rw[R.w];exact dE _ R.hd
     have hs2v:∀ x∈c.w,x∈g.V:=fun x hx=>by rw[R.w,am]at hx;exact hx.elim (X x) (hC x)
     have hmv:bY (gq c.w c.low) [v]=some (i (bp c v)):=xU c.w c.low v R.ln hvs2;have hmw:bY (gq c.w c.low) [w]=some (i (bp c w)):=xU c.w c.low w R.ln hws2;have hmo:=tC c.w c.low v (min (bp c v) (bp c w)) R.ln hvs2;have hlow:=TG hb2 v (min (bp c v) (bp c w));have hmw3:bY (gq c.w (c.low.set (c.w.idxOf v) (min (bp c v) (bp c w)))) [w]=some (i (bp c w)):=by have h1:=xU c.w (c.low.set (c.w.idxOf v) (min (bp c v) (bp c w))) w (by rw[rp];exact R.ln) hws2;have h2:=Hv (x:=min (bp c v) (bp c w)) R.ln hvs2 hws2;rw[aa hwne]at h2;rw[h1];exact congrArg (fun y=>some (i y)) h2
     obtain⟨⟨tS2,tB2,CS2,ea2,jW,-,-,jL,-,-,-,-⟩,-,-⟩:=hb2;have jm6:¬W=K:=bF jW jL Y;have hmin:(if bp c w<bp c v then bp c w else bp c v)=min (bp c v) (bp c w):=by split<;>omega
     (apply cP;simp[];(refine zJ F ?_;clear F J))
     (repeat (apply qS));(refine zS [] [W,K] [0,2,4,6,8,10,12,14,16,18,20,22,24,26,28,30,32,34,37] ?_;intro J F;simp[I,L,S,jW,jL,hmv,hmw];(refine zJ F ?_;clear F J))
     rw[hmin,show bX (gq c.w c.low) [v] (LV.atom (Value.int IntKind.i64 (min (bp c v) (bp c w))))=_ from hmo];have hW3:(T2.set K (.map false [.u32] (gq c.w (c.low.set (c.w.idxOf v) (min (bp c v) (bp c w)))))).H W=T2.H W:=by rw[cC,aa jm6]
     unfold Qo at hlo;by_cases hc:(m.w.length:Int)+1<=bp c w
     .rw[ac hc]at hlo;have hstk:c.stk=s.stk++d::T':=by rw[R.stk];show(s.stk++[d])++T'=_;simp
      have hiT:d∉T':=fun k=>((R.pl d).1 (dg _ k)).2.1 rfl;have hTn:=(bo.1 R.pn).1;have hTl:∀ k∈T',k<g.E.length:=fun k hk=>((R.pl k).1 (dg _ hk)).1;have hTlen:=DK hTn hTl;have hNl:=Bb N' fun B hB=>(R.good B hB).ne;have hNf:=DK (bo.1 R.pn).2.1 fun k hk=>((R.pl k).1 (dE _ hk)).1;have ho2:c.out.length=s.out.length+N'.length:=by rw[R.out,cb];rfl
      have hk2l:c.stk.length=s.stk.length+1+T'.length:=by rw[hstk,cb,List.length_cons];omega
      have hlp:kV c.stk d=s.stk.length:=by rw[hstk];exact yU hiT
      have hdrop:c.stk.drop (kV c.stk d)=d::T':=by rw[hlp,hstk,rq]
      have hcall:=U1 g hg.ids B W a M K tk (pP c v (min (bp c v) (bp c w))) d _ hlow (by show d∈c.stk;rw[hstk];simp)
       (by show ∀ k∈c.stk.drop (kV c.stk d),k<g.E.length
           rw[hdrop];intro k hk;rcases ai.1 hk with e|e
           .rw[e];exact hil
           .exact hTl k e)
       (by show(c.stk.drop (kV c.stk d)).Nodup
           rw[hdrop];exact bw.2 ⟨hiT,hTn⟩) O (by show c.stk.length<=60000;omega) (by show c.out.length<=100000;omega)
      (refine yv I P f8 S jW jm6 hmw3 hc ?_;intro J F)
      refine qE hcall Y ?_;rintro r T4 ⟨s4,hcw,hb4,hk4⟩;obtain rfl:s4=s3:=by rw[hcw]at hlo;exact ji hlo
      have hv4:s4.w=c.w:=by
       unfold KF at hcw
       split at hcw
       .cases hcw;rfl
       .cases hcw
      refine dU F ?_;exact hJO _ _ (Z f37) (Z f36) ⟨Z I,Z L,Z f2,Z P,Z q,_,D2,T3,N2,next _ hst3,by rw[V9];exact hbl3,fun x hx=>hs2v x (by rw[<- hv4];exact hx),hb4,(hkT2.set c4 _).trans hk4⟩
     .rw[aa hc]at hlo;obtain rfl:=ji hlo;refine oh I P S jW jm6 hmw3 hc ?_;exact hJO _ _ (Z f37) (Z f36) ⟨Z I,Z L,Z f2,Z P,Z q,_,D2,T3,N2,next _ hst3,by rw[V9];exact hbl3,hs2v,hlow,hkT2.set c4 _⟩
   .rintro fr p ⟨I,L,f2,P,q,s,D,T,N,hgo,t,X,hbw,hkb⟩;rw[fq]at hgo;refine bz ?_;exact⟨trivial,s,hgo,hbw,hkb⟩
def Rw{N:Nat}{a:ah}{x:Code}(I:ah->St->Prop)(c:bq P N x (AK P N (fun e f s=>e=.normal/\I f s) []) a b)(d:∀ a b,I a b->AK P N Q k .normal a b):
 bq P N x (AK P N Q k) a b:=by
 refine dR c ?_;rintro e j h ⟨rfl,g⟩;exact d _ _ g
def FY{N:Nat}{l:ah}{d:St}{c:Code}(q j k:Nat){s:Nat}(b post:QQ)(m:d.H q=.box e s (b++.nil::post))
 (h:bq P N c Q l ((d.new (.box j k [])).set q (.box e s (b++.ms d.z 0 0::post)))):bq P N c Q l d:=by
 refine jQ (fun a w g f r _=>?_) h;have n:=ext_nil w g;have p:Inv w g.addNil (d.new (.box j k [])):=kJ f _ (.inr ⟨j,k,rfl⟩);have dS:q<d.z:=EJ f m Y;refine⟨g.addNil,DO p (cs:=b++.nil::post) (by rw[cN,aa O];exact m) Y (fun y t=>?_),r.mono n,n⟩;obtain⟨v,o,x⟩:=oV b y t;refine x g.addNil _ (Ext.refl _ _) ?_;simp only[Rep]at o ⊢;exact⟨none,0,o,au _,jx _,fun _=>by simp[G.addNil,f.z],fun h=>absurd rfl h,by simp[G.addNil,f.z]⟩
structure AtR(lo:Nat)(ρ:Int->PQ)(ea:List (PP×LV))(tk:Int->Nat)(st:St):Prop where
 get:∀ v,bY ea [v]=if ρ v=[]then none else some (.sl (tk v) (ρ v).length (eP (ρ v)))
 own:∀ v,ρ v≠[]->st.H (tk v)=.own 3 1 (ρ v).length/\(tk v≠0/\lo<=tk v/\tk v<st.z)
 inj:∀ v w,ρ v≠[]->ρ w≠[]->tk v=tk w->v=w
def nU(a:Int->PQ)(v:Int)(k:Nat):Int->PQ:=fun w=>if w=v then a v++[k]else a w
def AtR.put{lo:Nat}{ρ:Int->PQ}{ea:List (PP×LV)}{tk:Int->Nat}{st st':St}(h:AtR lo ρ ea tk st)(v:Int)(k:Nat){t n:Nat}(hn:n=(ρ v).length+1)(ht:st.z<=t/\t<st'.z/\t≠0/\lo<=t)(hH:st'.H t=.own 3 1 n)
 (ho:∀ w,w≠v->ρ w≠[]->st'.H (tk w)=st.H (tk w)) (hl:st.z<=st'.z):AtR lo (nU ρ v k) (bX ea [v] (.sl t n (eP (ρ v)++[i (k:Int)]))) (fun w=>if w=v then t else tk w) st' where
 get:=fun w=>by
  rw[uH];unfold nU;by_cases e:w=v
  .subst e;rw[ac rfl,ac rfl,ac rfl,aa Y,hn];simp[eP]
  .rw[aa (by simpa using e),aa e,aa e];exact h.get w
 own:=fun w hw=>by
  unfold nU at hw ⊢;by_cases e:w=v
  .rw[ac e,ac e];exact⟨by rw[hH,hn];simp,ht.2.2.1,ht.2.2.2,ht.2.1⟩
  .rw[aa e]at hw;rw[aa e,aa e];obtain⟨h1,h2,h3,h4⟩:=h.own w hw;exact⟨by rw[ho w e hw];exact h1,h2,h3,O⟩
 inj:=fun x y hx hy he=>by
  unfold nU at hx hy;by_cases e1:x=v
  .by_cases e2:y=v
   .rw[e1,e2]
   .rw[aa e2]at hy;simp only[ac e1,aa e2]at he;have:=(h.own y hy).2.2.2;omega
  .rw[aa e1]at hx;by_cases e2:y=v
   .simp only[aa e1,ac e2]at he;have:=(h.own x hx).2.2.2;omega
   .rw[aa e2]at hy;simp only[aa e1,aa e2]at he;exact h.inj x y hx hy he
def AtR.keeps{g:Int->PQ}{b:List (PP×LV)}{f:Int->Nat}{e a:St}(h:AtR d g b f e)(c:aC e a):AtR d g b f a:=
 ⟨h.get,fun v n=>by obtain⟨j,k,l,m⟩:=h.own v n;exact⟨by rw[c.H _ m];exact j,k,l,by have:=c.z;omega⟩,h.inj⟩
def qn(c:QR)(k:Nat)(v:Int):PQ:=(List.range k).filter fun i=>decide ((an c i).a=v\/(an c i).b=v)
def Si{es:QR}{k:Nat}(Tv:(an es k).a≠(an es k).b):qn es (k+1)=nU (nU (qn es k) (an es k).a k) (an es k).b k:=by
 funext v
 unfold qn nU;rw[xq,po];by_cases d:v=(an es k).b
 .subst d;rw[ac rfl,aa (fun e=>Tv e.symm)];simp
 .rw[aa d];by_cases c:v=(an es k).a
  .subst c;simp
  .rw[aa c];have:¬((an es k).a=v\/(an es k).b=v):=O;rw[qd,aa (by simpa using this)];simp
def AtI(g:Gr)(p:Nat)(b:St)(d:Int->PQ)(s:St):Prop:=s.H p=.box 25 2 (aw g)/\s.H (p+4)=.box 126 6 [.sl 0 g.E.length (eds g.E),.mp (p+1),.mp (p+2),.mp (p+3),.ms (p+5) 0 0,.ms (p+6) 0 0]/\s.H (p+2)=.map false [.u32] []/\s.H (p+3)=.map false [.u32] []/\s.H (p+5)=.box 3 1 []/\s.H (p+6)=.box 23 1 []/\p+7<=s.z/\aC b s/\
 ∃ a c,s.H (p+1)=.map false [.u32] a/\AtR (p+7) d a c s
theorem Df{a:QR}{n:Nat}:∀(l:PP) (v:Int) (s:Bw),vG a n (l++[v]) s=(vG a n l s).bind fun b=>vG a n [v] b
 |[],v,s=>rfl
 |w::l,v,s=>by
  simp only[List.cons_append,vG]
  split
  .exact Df l v s
  .cases qA a n w (-1) s with
   |none=>rfl
   |some b=>exact Df l v b
def MI.sz(h:MI g s):SzB g s:=by
 have b:=Bb s.out fun B c=>(h.good B c).ne;have e:=DK h.pn fun i a=>((h.pl i).1 a).1;unfold SzB;rw[h.stk];refine⟨jx _,?_⟩;cases d:s.w with
 |nil=>
  have:s.out.flatten=[]:=qp.2 fun i a=>by have:=((h.pl i).1 a).2;rw[d]at this;cases this
  rw[this]at b;rw[List.length_nil,xw];exact b
 |cons w V=>rw[List.length_cons,nc];omega
theorem AtI.keeps{g:Gr}{p:Nat}{c:St}{d:Int->PQ}{s b:St}(h:AtI g p c d s)(a:aC s b):AtI g p c d b:=by obtain⟨f,j,k,l,m,n,v,o,e,t,q,r⟩:=h;have:=a.z;exact⟨(a.H _ O).trans f,(a.H _ O).trans j,(a.H _ O).trans k,(a.H _ O).trans l,(a.H _ O).trans m,(a.H _ O).trans n,O,o.trans a,e,t,(a.H _ O).trans q,r.keeps a⟩
theorem JA:∀ {out:List PQ},(∀ B∈out,B≠[])->out.length<=out.flatten.length
 |[],_=>by simp
 |B::out,h=>by have b:=JA (out:=out) fun B a=>h B (aq _ a);have c:=jg.2 (h B Y);simp only[List.length_cons,List.flatten_cons,cb];omega
def Wf{c:QR}{a:List PQ}(b:∀ i,i∈a.flatten↔i<c.length)(e:∀ B∈a,eH c B)(d:a.flatten.Nodup):a.length<=c.length:=by have j:=JA fun B g=>(e B g).ne;have f:=gu d fun k h=>ii.2 ((b k).1 h);rw[vj]at f;omega
def Wp(g:Gr)(hg:GoodE g)(D:St)(hv:g.V.length<=100)(he:g.E.length<=200):
 aD prog 60 [.ag (aw g)] D fun r st'=>∃ q,r=.ms q 0 (gY g.E).length/\st'.H q=.box 23 1 (im g.E (gY g.E))/\D.z<=q/\q<st'.z/\aC D st':=by
 obtain⟨S,hS,hSk,hSa,hSn,hSb⟩:=uQ hg;have hel:=aL g.E;have hids:=hg.ids;refine zN func60 ntmps60 [.tmp 2] ?_;refine fB fun hpos=>?_;have x1:¬D.z=D.z+1:=O;have x2:¬D.z=D.z+1+1:=O;have x3:¬D.z=D.z+1+1+1:=O;have x4:¬D.z=D.z+1+1+1+1:=O;have x5:¬D.z=D.z+1+1+1+1+1:=O;have x6:¬D.z=D.z+1+1+1+1+1+1:=O;refine eI x1 x2 x3 x4 ?_;refine FY (D.z+1+1+1+1) 3 1 (e:=126) (s:=6) [.sl 0 g.E.length (eds g.E),.mp (D.z+1),.mp (D.z+1+1),.mp (D.z+1+1+1)] [.nil] Y ?_;refine FY (D.z+1+1+1+1) 23 1 (e:=126) (s:=6) [.sl 0 g.E.length (eds g.E),.mp (D.z+1),.mp (D.z+1+1),.mp (D.z+1+1+1),.ms (D.z+5) 0 0] [] Y ?_;obtain⟨p,hp⟩:∃ p,p=D.z:=⟨_,rfl⟩;refine aV 18 17 19 55 (g.E.length) (fun j P st2=>P 1=.pt p 0/\P 3=.pt (p+4) 0/\P 16=.sl 0 g.E.length (eds g.E)/\AtI g p D (qn g.E j) st2) ?_ ?_ ?_
 .subst hp;refine⟨Y,Y,Y,?_⟩;refine⟨yx x1 x2 x3 x4 x5 x6,?_,Y,Y,Y,Y,Y,?_,[],fun _=>0,Y,⟨fun v=>rfl,fun v hv=>absurd rfl hv,fun v w hv=>absurd rfl hv⟩⟩
  .simp
  ·(repeat (first|exact aC.refl _|(refine aC.trans ?_ (aC.new _ _))|(refine aC.set ?_ O _)))
 .clear x1 x2 x3 x4 x5 x6;rintro j P s dS ⟨I,A,o,hI⟩ N fn JO K;have hde:=aP g.E j dS;have hj3:j*3<g.E.length*3:=O;have Tv:=hg.ne _ (uY dS);have hsu:=Si (es:=g.E) (k:=j) Tv;rw[hsu]at K;clear hsu;unfold an at K;generalize g.E.getD j ed0=x at *;obtain⟨id,d,y⟩:=x;simp only at K hde;have hρ:∀ w,(qn g.E j w).length<=10000:=fun w=>by have:=gx (fun i=>decide ((an g.E i).a=w\/(an g.E i).b=w)) (List.range j);rw[vj]at this;unfold qn;omega
  generalize qn g.E j=F at *;have hpn:p+7<=s.z:=hI.2.2.2.2.2.2.1;refine oy I A o N fn hde dS hj3 hel ?_;refine CY (fun f T=>f 1=.pt p 0/\f 3=.pt (p+4) 0/\f 4=i j/\f 5=.pt s.z 0/\f 16=.sl 0 g.E.length (eds g.E)/\f 17=i g.E.length/\f 18=i j/\s.z<T.z/\T.H s.z=.box 36 3 [u id,u d,u y]/\AtI g p D (F) T) ⟨Z I,Z A,Y,Y,Z o,Z fn,Z N,Y,Y,hI.keeps (aC.new _ _)⟩ ?_;generalize s.z=X at *;clear I A o N fn hI P;rintro P c ⟨I,A,f4,f5,o,fn,N,hXl,hX,hI⟩;refine FP (fun f T=>f 1=.pt p 0/\f 3=.pt (p+4) 0/\f 4=i j/\f 5=.pt X 0/\f 16=.sl 0 g.E.length (eds g.E)/\f 17=i g.E.length/\f 18=i j/\X<T.z/\T.H X=.box 36 3 [u id,u d,u y]/\AtI g p D (nU F d j) T) ?_ ?_
  .obtain⟨hG,hW,hN,hL,hS,hB,hnx,j5,ea,l,hA,R⟩:=hI;have h:=R.get d;have k1:¬X=c.z:=O;have k2:¬X=c.z+1:=O;have k3:¬X=p+1:=O;have e0:¬p+4=c.z:=O;have e1:¬p+1=c.z:=O;have e2:¬p+2=c.z:=O;have e3:¬p+3=c.z:=O;have e4:¬p=c.z:=O;have e5:¬p+5=c.z:=O;have e6:¬p+6=c.z:=O;have e7:¬p+4=c.z+1:=O;have e8:¬p+1=c.z+1:=O;have e9:¬p+2=c.z+1:=O;have e10:¬p+3=c.z+1:=O;have e11:¬p=c.z+1:=O;have e12:¬p+5=c.z+1:=O;have e13:¬p+6=c.z+1:=O;have L:¬c.z+1=p+1:=O;have M:¬c.z=p:=O;have tkl:∀ w,F w≠[]->¬l w=c.z/\¬l w=c.z+1/\¬l w=p+1:=fun w Q=>by have:=(R.own w Q).2;omega
   by_cases W:F d=[]
   .rw[ac W]at h
    (refine zS [] [X,p+4,p+1] [0,2,4,6,8,10,12,14,16,18,20,22,24,26,28,30,33] ?_;intro J hJ;simp[A,f4,f5,hX,hW,hA,h,k1,k2,k3,e0,e1,e4,e7,e8,L,M];(repeat refine ca ?_);refine zJ hJ ?_)
    have C:=R.put d j (t:=c.z+1) (n:=1) (st':=(((c.new (.own 3 1 1)).new (.own 3 1 1)).set (p+1) (.map false [.u32] (bX ea [d] (.sl (c.z+1) 1 [i (j:Int)]))))) (by rw[W];rfl) ⟨O,Y,O,O⟩ (ek L M) (fun w Q h0=>by obtain⟨t1,t2,t3⟩:=tkl w h0;simp[t1,t2,t3]) (by simp;omega);rw[W]at C;refine⟨by trivial,Z I,Z A,Z f4,Z f5,Z o,Z fn,Z N,by simp;omega,gS k1 k2 k3 hX,?_⟩;refine⟨jy e4 e11 hG,jy e0 e7 hW,jy e2 e9 hN,jy e3 e10 hL,jy e5 e12 hS,jy e6 e13 hB,by simp;omega,?_,_,_,by simp<;>rfl,C⟩
    (repeat (first|exact j5|(refine aC.trans ?_ (aC.new _ _))|(refine aC.set ?_ O _)))
   .rw[aa W]at h;obtain⟨hO,t0,tl,tu⟩:=R.own d W;obtain⟨t1,t2,t3⟩:=tkl d W;have t4:¬X=l d:=fun e=>by rw[<- e,hX]at hO;cases hO
    have hrl:(eP (F d)).length=(F d).length:=mM _;have hrb:(F d).length<=10000:=hρ _;have p0:¬p=l d:=O;have p1:¬p+1=l d:=O;have p2:¬p+2=l d:=O;have p3:¬p+3=l d:=O;have p4:¬p+4=l d:=O;have p5:¬p+5=l d:=O;have p6:¬p+6=l d:=O
    (refine zS [] [X,p+4,p+1] [0,2,4,6,8,10,12,14,16,18,20,22,24,26,28,30,33] ?_;intro J hJ;simp[A,f4,f5,hX,hW,hA,h,hO,hrl,t0,t1,t4,p1,p4,k1,k2,k3,e0,e1,e4,e7,e8,L,M];(repeat refine ca ?_);refine zJ hJ ?_)
    have C:=R.put d j (t:=c.z+1) (n:=(F d).length+1) (st':=((((c.new (.own 3 1 1)).set (l d) .dead).new (.own 3 1 ((F d).length+1))).set (p+1) (.map false [.u32] (bX ea [d] (.sl (c.z+1) ((F d).length+1) (eP (F d)++[i (j:Int)]))))) ) rfl ⟨O,Y,O,O⟩ (ek L M) (fun w Q h0=>by obtain⟨u1,u2,u3⟩:=tkl w h0;have u4:¬l w=l d:=fun e=>Q (R.inj w d h0 W e);simp[u1,u2,u3,u4]) (by simp;omega);refine⟨by trivial,Z I,Z A,Z f4,Z f5,Z o,Z fn,Z N,by simp;omega,qi k1 k2 k3 t4 hX,?_⟩;refine⟨gS p0 e4 e11 hG,gS p4 e0 e7 hW,gS p2 e2 e9 hN,gS p3 e3 e10 hL,gS p5 e5 e12 hS,gS p6 e6 e13 hB,by simp;omega,?_,_,_,by simp<;>rfl,C⟩
    (repeat (first|exact j5|(refine aC.trans ?_ (aC.new _ _))|(refine aC.set ?_ O _)))
  clear I A f4 f5 o N fn hXl hX hI P c;rintro P c ⟨I,A,f4,f5,o,fn,N,hXl,hX,hI⟩;have hρ':∀ w,((nU F d j) w).length<=10001:=fun w=>by
   have h1:=hρ d;have h2:=hρ w;unfold nU
   split
   .rw[cb,List.length_singleton];omega
   .omega
  refine Rw (fun f T=>f 1=.pt p 0/\f 3=.pt (p+4) 0/\f 4=i j/\f 5=.pt X 0/\f 16=.sl 0 g.E.length (eds g.E)/\f 17=i g.E.length/\f 18=i j/\X<T.z/\T.H X=.box 36 3 [u id,u d,u y]/\AtI g p D (nU (nU F d j) y j) T) ?_ ?_
  .obtain⟨hG,hW,hN,hL,hS,hB,hnx,j5,ea,l,hA,R⟩:=hI;have h:=R.get y;have k1:¬X=c.z:=O;have k2:¬X=c.z+1:=O;have k3:¬X=p+1:=O;have e0:¬p+4=c.z:=O;have e1:¬p+1=c.z:=O;have e2:¬p+2=c.z:=O;have e3:¬p+3=c.z:=O;have e4:¬p=c.z:=O;have e5:¬p+5=c.z:=O;have e6:¬p+6=c.z:=O;have e7:¬p+4=c.z+1:=O;have e8:¬p+1=c.z+1:=O;have e9:¬p+2=c.z+1:=O;have e10:¬p+3=c.z+1:=O;have e11:¬p=c.z+1:=O;have e12:¬p+5=c.z+1:=O;have e13:¬p+6=c.z+1:=O;have L:¬c.z+1=p+1:=O;have M:¬c.z=p:=O;have tkl:∀ w,(nU F d j) w≠[]->¬l w=c.z/\¬l w=c.z+1/\¬l w=p+1:=fun w Q=>by have:=(R.own w Q).2;omega
   by_cases W:(nU F d j) y=[]
   .rw[ac W]at h
    (refine zS [] [X,p+4,p+1] [0,2,4,6,8,10,12,14,16,18,20,22,24,26,28,30,33] ?_;intro J hJ;simp[A,f4,f5,hX,hW,hA,h,k1,k2,k3,e0,e1,e4,e7,e8,L,M];(repeat refine ca ?_);refine zJ hJ ?_)
    have C:=R.put y j (t:=c.z+1) (n:=1) (st':=(((c.new (.own 3 1 1)).new (.own 3 1 1)).set (p+1) (.map false [.u32] (bX ea [y] (.sl (c.z+1) 1 [i (j:Int)]))))) (by rw[W];rfl) ⟨O,Y,O,O⟩ (ek L M) (fun w Q h0=>by obtain⟨t1,t2,t3⟩:=tkl w h0;simp[t1,t2,t3]) (by simp;omega);rw[W]at C;refine⟨by trivial,Z I,Z A,Z f4,Z f5,Z o,Z fn,Z N,by simp;omega,gS k1 k2 k3 hX,?_⟩;refine⟨jy e4 e11 hG,jy e0 e7 hW,jy e2 e9 hN,jy e3 e10 hL,jy e5 e12 hS,jy e6 e13 hB,by simp;omega,?_,_,_,by simp<;>rfl,C⟩
    (repeat (first|exact j5|(refine aC.trans ?_ (aC.new _ _))|(refine aC.set ?_ O _)))
   .rw[aa W]at h;obtain⟨hO,t0,tl,tu⟩:=R.own y W;obtain⟨t1,t2,t3⟩:=tkl y W;have t4:¬X=l y:=fun e=>by rw[<- e,hX]at hO;cases hO
    have hrl:(eP ((nU F d j) y)).length=((nU F d j) y).length:=mM _;have hrb:((nU F d j) y).length<=10001:=hρ' _;have p0:¬p=l y:=O;have p1:¬p+1=l y:=O;have p2:¬p+2=l y:=O;have p3:¬p+3=l y:=O;have p4:¬p+4=l y:=O;have p5:¬p+5=l y:=O;have p6:¬p+6=l y:=O
    (refine zS [] [X,p+4,p+1] [0,2,4,6,8,10,12,14,16,18,20,22,24,26,28,30,33] ?_;intro J hJ;simp[A,f4,f5,hX,hW,hA,h,hO,hrl,t0,t1,t4,p1,p4,k1,k2,k3,e0,e1,e4,e7,e8,L,M];(repeat refine ca ?_);refine zJ hJ ?_)
    have C:=R.put y j (t:=c.z+1) (n:=((nU F d j) y).length+1) (st':=((((c.new (.own 3 1 1)).set (l y) .dead).new (.own 3 1 (((nU F d j) y).length+1))).set (p+1) (.map false [.u32] (bX ea [y] (.sl (c.z+1) (((nU F d j) y).length+1) (eP ((nU F d j) y)++[i (j:Int)]))))) ) rfl ⟨O,Y,O,O⟩ (ek L M) (fun w Q h0=>by obtain⟨u1,u2,u3⟩:=tkl w h0;have u4:¬l w=l y:=fun e=>Q (R.inj w y h0 W e);simp[u1,u2,u3,u4]) (by simp;omega);refine⟨by trivial,Z I,Z A,Z f4,Z f5,Z o,Z fn,Z N,by simp;omega,qi k1 k2 k3 t4 hX,?_⟩;refine⟨gS p0 e4 e11 hG,gS p4 e0 e7 hW,gS p2 e2 e9 hN,gS p3 e3 e10 hL,gS p5 e5 e12 hS,gS p6 e6 e13 hB,by simp;omega,?_,_,_,by simp<;>rfl,C⟩
    (repeat (first|exact j5|(refine aC.trans ?_ (aC.new _ _))|(refine aC.set ?_ O _)))
  rintro P s3 ⟨I,A,f4,f5,o,fn,N,hXl,hX,hI⟩;simp only[ak];exact K _ _ (Z N) (Z fn) ⟨I,A,o,hI⟩
 .clear x1 x2 x3 x4 x5 x6;rintro P s1 ⟨I,A,o,hI⟩;have hI':=hI;obtain⟨hG,hW,hN,hL,hSt,hB,hnx,j5,ea,l,hA,R⟩:=hI';have h:∀ v,bY ea [v]=if ci g.E v=[]then none else some (.sl (l v) (ci g.E v).length (eP (ci g.E v))):=R.get
  have hb0:vE g (p+1) (p+4) (p+1) (p+2) (p+3) l ⟨[],[],[],[]⟩ s1:=by refine⟨⟨p+5,p+6,[],ea,hW,⟨hA,h⟩,hN,hL,⟨hSt,rfl⟩,hB,⟨O,O,O⟩,O,O,O,O⟩,⟨O,O,O,O⟩,O,O,O,O⟩
  have U:MI g ⟨[],[],[],[]⟩:=⟨rfl,.nil,fun w Q=>(by cases Q),fun w Q=>(by cases Q),rfl,fun i=>by simp,Y,fun B hB=>(by cases hB)⟩;clear hW hN hL hSt hB hA R hI;refine cm I hG ?_;refine aV 59 58 60 73 (g.V.length) (fun j P st2=>P 1=.pt p 0/\P 3=.pt (p+4) 0/\P 57=.sl 0 g.V.length (us g.V)/\KbB (p+1) s1 st2/\∃ sB,vG g.E g.V.length (g.V.take j) ⟨[],[],[],[]⟩=some sB/\MI g sB/\vE g (p+1) (p+4) (p+1) (p+2) (p+3) l sB st2) ?_ ?_ ?_
  .exact⟨Z I,Z A,Y,KbB.refl _ _,_,rfl,U,hb0⟩
  .clear I A o hb0 U P;rintro j P c dS ⟨I,A,f57,hkb,sB,hsB,m,hbw⟩ N fn JO K;have hd:=qG g.V j dS;have hvm:g.V.getD j 0∈g.V:=by rw[bT _ _ dS];exact dz _
   have V9:g.V.take (j+1)=g.V.take j++[g.V.getD j 0]:=by rw[fh dS,bT _ _ dS]
   rw[V9,Df,hsB]at K;simp only[Option.bind_some]at K;generalize g.V.getD j 0=v at *;have hm:=NU sB.w v;have hsz:=m.sz;obtain⟨s3,e3,hall3,_,_⟩:=Gh hg g.V.length (au _) [v] sB (fun w Q=>by rw[bi]at Q;rw[Q];exact hvm) m;rw[e3]at K;have hbw':=hbw;obtain⟨⟨tS,tB,CS,ea2,jW,-,jN,-,-,-,-,-⟩,-,-⟩:=hbw';by_cases j7:v∈sB.w
   .rw[ac j7]at hm;have e4:s3=sB:=by unfold vG at e3;rw[ac j7]at e3;exact(ji e3).symm
    have hz1:1<=dy sB.w v:=by unfold dy;rw[ac j7];omega
    generalize dy sB.w v=z at *;have hzb:(z==0)=false:=by rw[vd];omega
    have hz0:¬z=0:=O;refine Xk A f57 N fn hd dS jW jN hm hzb hz0 ?_;exact K _ _ (Z N) (Z fn) ⟨Z I,Z A,Z f57,hkb,s3,rfl,hall3,by rw[e4];exact hbw⟩
   .rw[aa j7]at hm;have hpre:BJ g (fun _=>False) sB v (-1):=⟨m.ln,m.nd,fun a ha=>ha.elim,fun w Q _=>m.fin w Q,j7,fun a b ha=>ha.elim,.inl ⟨rfl,fun a ha=>ha⟩⟩
    (repeat' (first|apply qS|(apply qC;simp[A,f57,N,fn,hd,dS,jW,jN,hm])|(refine zE ?_;intro J hJ;simp[A,f57,N,fn,hd,dS,jW,jN,hm];(try refine zJ hJ ?_))))
    refine qE (A3 g hg (p+1) (p+4) (p+1) (p+2) (p+3) l hv he g.V.length _ sB v (-1) _ hpre hvm m.sub O hsz hbw) Y ?_;rintro r s4 ⟨s5,h5,hb5,hk5⟩;have e5:s3=s5:=by unfold vG at e3;rw[aa j7,h5]at e3;exact(ji e3).symm
    refine bz ?_;exact K _ _ (Z N) (Z fn) ⟨Z I,Z A,Z f57,hkb.trans hk5,s3,rfl,hall3,by rw[e5];exact hb5⟩
  .clear I A o hb0 U P;rintro P c ⟨I,A,f57,hkb,sB,hsB,m,hbw⟩;rw[fq,hS]at hsB;obtain rfl:=ji hsB;have hsz:=m.sz;obtain⟨_,sb⟩:=Du hv he m.nd m.sub;obtain⟨⟨tS,tB,CS,ea2,jW,-,jN,-,-,jB,-,b1,b2,b3,b4⟩,-,d1,-⟩:=hbw
   (repeat' (first|apply qS|(refine zE ?_;intro J hJ;simp[A,jW])))
   refine qE (G9 hids S.out hSa hSb hSn tB _ (by have:=hsz.2;have:=Wf hSa hSb hSn;omega) b4 jB) Y ?_;rintro r s4 ⟨h1,h2,h3⟩;have hW4:=(h3.2 (p+4) (bF jW jB Y) d1).trans jW;have u7:=h2.length_eq;refine cm A hW4 ?_;refine⟨tB,Z u7,h1,O,dc b4 h3.1,?_⟩;refine⟨fa j5.z (fa hkb.z h3.1),fun x hx=>?_⟩;rw[h3.2 x O (by have:=hkb.z;omega),hkb.H x O,j5.H x hx]
def Eo(n:Nat):∀ l:QR,iD n (eds l):=fun l=>by
 induction l with
 |nil=>simp only[eds,nw,iD]
 |cons x l a=>simp only[eds,dt,dv,List.cons_append,List.nil_append,iD];exact⟨trivial,trivial,trivial,a⟩
def XA(n:Nat)(b:QR):∀ a:List PQ,iD n (im b a):=fun a=>by
 induction a with
 |nil=>simp only[im,mB,iD]
 |cons B a c=>simp only[im,ax,iD];exact⟨⟨.inl rfl,Eo _ _⟩,c⟩
def A6(g:Gr)(f:GoodE g)(a:St)(m:g.V.length<=100)(e:g.E.length<=200):
 aD prog 60 [.ag (aw g)] a fun r b=>r=.sl 0 (gY g.E).length (im g.E (gY g.E))/\b=a:=by
 refine qT (Q:=fun r=>r=.sl 0 (gY g.E).length (im g.E (gY g.E))) (cQ ((Wp g f a m e).mono ?_)) fun r h=>by subst h;exact⟨.inl rfl,XA _ _ _⟩
 rintro r s ⟨q,rfl,d,k,l,j⟩;have c:=De g.E (gY g.E);exact⟨q,_,_,_,_,rfl,d,by rw[c,ru];exact au _,by rw[ej (by rw[c,ru];exact au _)],j.set k _⟩
end Aw
namespace Aw
open Go Go.RowKit Pl
def MS:Option Mp->LV
 |none=>.tu [.ag [.sl 0 0 [],.sl 0 0 [],.sl 0 0 []],bb false]
 |some m=>.tu [.ag (rD m),bb true]
noncomputable def aT(g:Gr):List QR:=(gY (sE g.E)).map fun B=>B.map (an (sE g.E))
def vJ(l:List QR):QQ:=l.map fun l=>.sl 0 l.length (eds l)
def MK(l:QR):(sE l).Sublist l:=by
 induction l using Aj with
 |h0=>exact tf _
 |h1 l x a=>
  rw[nT]
  split
  .exact a.trans (List.sublist_append_left _ _)
  .exact a.append (tf _)
variable{g:Gr}
def GoodE.simple(h:GoodE g):GoodE ⟨g.V,sE g.E⟩:=
 ⟨⟨h.rise,fun x a=>h.ends x (iZ _ x a)⟩,h.ids.sublist (MK _),fun x a=>h.pos x (iZ _ x a),fun x a=>h.ne x (iZ _ x a)⟩
def FZ(g:Gr):(aT g).length<=(sE g.E).length:=by unfold aT gY;rw[du,du];exact fa (gx _ _) (by rw[vj];exact au _)
def mO(f:GoodE g){B:PQ}(a:B∈gY g.E):eH g.E B:=by unfold gY at a;obtain⟨i,d,rfl⟩:=ao.1 a;rw[cj,ii]at d;obtain⟨s,_,_,e,_,c⟩:=uQ f;obtain⟨B,a,b⟩:=fI.1 ((e i).2 d.1);rw[<- (c B a).cls b];exact c B a
def oZ(o:GoodE g){l:QR}(n:l∈aT g):DrE l/\∀ e∈l,e∈g.E:=by
 unfold aT at n;obtain⟨B,a,rfl⟩:=ao.1 n;have b:=o.simple;have a:eH (sE g.E) B:=mO b a;have m:∀ e∈B.map (an (sE g.E)),e∈sE g.E:=fun e d=>by obtain⟨i,c,rfl⟩:=ao.1 d;have e:an (sE g.E) i=(sE g.E)[i]'(a.lt i c):=gH _ _ (a.lt i c);rw[e];exact dz _
 refine⟨⟨?_,fun x h=>b.pos x (m x h),fun x h=>b.ne x (m x h)⟩,fun e d=>iZ _ e (m e d)⟩;rw[gd];refine a.rise.imp_of_mem fun {i j} c hj hij=>?_;have e:∀ k,(f:k∈B)->an (sE g.E) k=(sE g.E)[k]'(a.lt k f):=fun k f=>gH _ _ (a.lt k f);rw[e i c,e j hj];exact fD.1 b.ids i j (a.lt i c) (a.lt j hj) hij
def M1(R:List PP):dl (R.map fun r=>LV.sl 0 r.length (us r))=R.map fun r=>LV.sl 0 r.length (us r):=by
 induction R with
 |nil=>rfl
 |cons r R a=>simp only[ax,dl,z0,vR];rw[a]
def Mv(l:List QR)(j:Nat)(h:j<l.length):(vJ l).drop j=.sl 0 (l.getD j []).length (eds (l.getD j []))::vJ (l.drop (j+1)):=by unfold vJ;rw[<- sn,jm h,bv,bu h];rfl
theorem Iu(x:Int):∀ l,(zY x l).length<=l.length+1
 |[]=>by simp[zY]
 |y::l=>by
  have:=Iu x l;unfold zY
  split
  .simp
  .split
   .simp;omega
   .simp
theorem Kt:∀ l,(sZ l).length<=l.length
 |[]=>by simp[sZ]
 |x::l=>by have h:=Kt l;have a:=Iu x (sZ l);unfold sZ at h a ⊢;rw[List.foldr_cons,List.length_cons];omega
def YQ(l:QR):(List.map (fun _:Ed=>3) l).sum=l.length*3:=by
 induction l with
 |nil=>rfl
 |cons x l a=>simp only[ax,List.sum_cons,List.length_cons,a];omega
def TI(f d a:Nat)(e b:St)(T:TL)(c:St):Prop:=aC e c/\b.z<=c.z/\(∀ l,a<=l->l<b.z->c.H l=b.H l)/\∃ A,BC false [.u32] 34 1 A d d c/\wZ T A/\∀ x∈A,x.2.1<a\/b.z<=x.2.1
def Lz(g:Gr)(hv:g.V.length<=1000)(he:g.E.length<=200){o:Option Mp}(ho:(if chk g=0 then iX g (aT g)else some none)=some o)(st:St):
 aD prog 33 [.ag (aw g)] st fun r st'=>r=MS o/\aC st st':=by
 refine cZ ?_;have hel:=aL g.E;refine zN func33 ntmps33 [.cell 2 28,.tmp 3] ?_;refine fB fun hpos=>?_
 (refine ez ?_;intro J hJ)
 refine qE (Check g _ hv O) Y ?_;rintro r I ⟨rfl,j8⟩;have hn1:=j8.z;simp only[aK]at hn1;have hG1:I.H st.z=.box 25 2 (aw g):=by rw[j8.H _ (by simp;omega)];simp
 have hO1:I.H (st.z+1)=.box 28 3 [.nil,.nil,.nil]:=by rw[j8.H _ Y];simp
 have hK1:aC st I:=((aC.new _ _).trans (aC.new _ _)).trans j8;by_cases hc:chk g=0
 case neg=>
  rw[aa hc]at ho;obtain rfl:none=o:=ji ho;have hc2:(chk g != 0)=true:=by simpa using hc
  refine oG hJ hc2 hO1 ?_;exact⟨by simp[MS,z0,dl],hK1.set O _⟩
 rw[ac hc]at ho;have hgE:=fF hc;have hg2:=hgE.simple;have hc2:(chk g != 0)=false:=by simpa using hc
 have e1:¬st.z=I.z:=O;refine wT hJ hc2 hG1 e1 ?_;refine aV 27 26 28 47 (g.E.length) (fun j C st2=>C 1=.pt st.z 0/\C 2=.pt (st.z+1) 0/\C 4=.mp I.z/\C 25=.sl 0 g.E.length (eds g.E)/\aC I st2/\∃ A,BC true [.u32,.u32] 36 3 A I.z I.z st2/\HV (g.E.take j) A) ?_ ?_ ?_
 .exact⟨Y,Y,Y,Y,aC.new _ _,[],⟨by simp[jz],Y,Y,Y,Y⟩,⟨Y,Y⟩⟩
 .rintro j C s dS ⟨f1,f2,q,f25,hk,A,hA,hB⟩ fi fn JO hJO;have hd:=aP g.E j dS;have o9:j*3<g.E.length*3:=O;have V9:g.E.take (j+1)=g.E.take j++[g.E.getD j ed0]:=by rw[gH _ _ dS];exact fh dS
  have hget:=hB.get hA.nd (ae (g.E.getD j ed0));have w:=hB.add hA.nd (g.E.getD j ed0);rw[<- V9]at w;have hEl:(g.E.take j).length<=200:=by rw[dj];omega
  generalize g.E.take j=E at *;generalize g.E.take (j+1)=E' at *;generalize g.E.getD j ed0=x at *;obtain⟨d,a,b⟩:=x;have hbl:(lB E (aj a b)).length<=200:=fa (gx _ _) hEl;simp only[ae,aj,pk]at hget w hbl hd;have N:=hA.map;have m:=xX [min a b,max a b] A;have S:¬I.z=s.z:=by have:=hA.mlt;omega
  refine oh f25 fi fn dS hd hel o9 ?_;refine Cs (fun f s'=>f 1=.pt st.z 0/\f 2=.pt (st.z+1) 0/\f 4=.mp I.z/\f 25=.sl 0 g.E.length (eds g.E)/\f 26=i g.E.length/\f 27=i j/\aC I s'/\∃ A,BC true [.u32,.u32] 36 3 A I.z I.z s'/\HV E' A) ?_ ?_;rotate_left
  .rintro C s' ⟨f1,f2,q,f25,fn,fi,hk',hA'⟩;exact hJO _ _ fi fn ⟨Z f1,Z f2,Z q,Z f25,hk',hA'⟩
  have p:¬s.z=I.z:=fun e=>S e.symm;have x1:¬I.z=s.z+1:=by have:=hA.mlt;omega
  have x2:¬s.z+1=I.z:=fun e=>x1 e.symm;have x3:¬I.z=s.z+1+1:=by have:=hA.mlt;omega
  have R:¬s.z+1+1=I.z:=fun e=>x3 e.symm;rcases hget with⟨Z9,hgn⟩|⟨t,hgs⟩
  .rw[hgn]at m;simp only[Option.map_none]at m;have w:=w (s.z+1+1);rw[Z9]at w;simp only[eds,nw,List.nil_append,List.length_nil,jw]at w
   have x9:∀ f:ah,f 1=.pt st.z 0->f 2=.pt (st.z+1) 0->f 4=.mp I.z->f 25=.sl 0 g.E.length (eds g.E)->f 26=i g.E.length->f 27=i j->(f 1=.pt st.z 0/\f 2=.pt (st.z+1) 0/\f 4=.mp I.z/\f 25=.sl 0 g.E.length (eds g.E)/\f 26=i g.E.length/\f 27=i j/\aC I ((((s.new (.box 36 3 [u d,u a,u b])).new (.own 36 3 1)).new (.own 36 3 1)).set I.z (.map true [.u32,.u32] (bX (jz A) [min a b,max a b] (.sl (s.z+1+1) 1 [u d,u a,u b]))))/\∃ A',BC true [.u32,.u32] 36 3 A' I.z I.z ((((s.new (.box 36 3 [u d,u a,u b])).new (.own 36 3 1)).new (.own 36 3 1)).set I.z (.map true [.u32,.u32] (bX (jz A) [min a b,max a b] (.sl (s.z+1+1) 1 [u d,u a,u b]))))/\HV E' A'):=fun f q1 q2 q3 q4 q5 q6=>
    ⟨q1,q2,q3,q4,q5,q6,(((hk.trans (aC.new _ _)).trans (aC.new _ _)).trans (aC.new _ _)).set (au _) _,_,hA.put (k:=[min a b,max a b]) (t:=s.z+1+1) (n:=1) (c:=[u d,u a,u b]) ⟨O,Y⟩ (by simp;omega) hk.z O (by simp[nj]) (Z R) (fun l hl hlm _=>by simp[show ¬l=s.z by omega,show ¬l=s.z+1 by omega,show ¬l=s.z+1+1 by omega,hlm]),w⟩
   refine w_a [] [I.z,s.z] ?_;intro J hJ;refine mT 6 [(0,true),(1,true),(2,true),(3,true),(4,true),(6,true),(7,true),(8,true),(9,true),(10,true),(13,true)] ?_;simp[q,S,p,N,m,x1,x2,x3,R];refine vU 5 (5,true) (14,true) ?_ ?_
   .simp[q,S,p,N,m,x1,x2,x3,R];refine eL (pair a b _) ?_;refine⟨fun h=>by first|(cases h;done)|exact fun _ _=>rfl|simp[q,S,p,N,m,x1,x2,x3,R],?_⟩;refine vU 4 (11,true) (14,true) ?_ ?_
    .simp[q,S,p,N,m,x1,x2,x3,R];refine eL (pair a b _) ?_;refine⟨fun h=>by first|(cases h;done)|exact fun _ _=>rfl|simp[q,S,p,N,m,x1,x2,x3,R],?_⟩;refine mT 0 [(12,true),(14,true),(15,true),(16,false)] ?_;simp[q,S,p,N,m,x1,x2,x3,R];refine⟨by unfold maxLen;omega,fV (hJ _ _ ?_)⟩;simp only[ak];refine⟨trivial,x9 _ ?_ ?_ ?_ ?_ ?_ ?_⟩<;>simp[f1,f2,q,f25,fn,fi]
    .simp[q,S,p,N,m,x1,x2,x3,R];refine mT 0 [(11,true),(12,true),(15,true),(16,false)] ?_;simp[q,S,p,N,m,x1,x2,x3,R];refine eL (pair a b _) ?_;refine⟨fun h=>by first|(cases h;done)|exact fun _ _=>rfl|simp[q,S,p,N,m,x1,x2,x3,R],?_⟩;simp[q,S,p,N,m,x1,x2,x3,R];refine⟨by unfold maxLen;omega,fV (hJ _ _ ?_)⟩;simp only[ak];refine⟨trivial,x9 _ ?_ ?_ ?_ ?_ ?_ ?_⟩<;>simp[f1,f2,q,f25,fn,fi]
   .simp[q,S,p,N,m,x1,x2,x3,R];refine mT 0 [(5,true),(11,true),(12,true),(15,true),(16,false)] ?_;simp[q,S,p,N,m,x1,x2,x3,R];refine eL (pair a b _) ?_;refine⟨fun h=>by first|(cases h;done)|exact fun _ _=>rfl|simp[q,S,p,N,m,x1,x2,x3,R],?_⟩;simp[q,S,p,N,m,x1,x2,x3,R];refine eL (pair a b _) ?_;refine⟨fun h=>by first|(cases h;done)|exact fun _ _=>rfl|simp[q,S,p,N,m,x1,x2,x3,R],?_⟩;simp[q,S,p,N,m,x1,x2,x3,R];refine⟨by unfold maxLen;omega,fV (hJ _ _ ?_)⟩;simp only[ak];refine⟨trivial,x9 _ ?_ ?_ ?_ ?_ ?_ ?_⟩<;>simp[f1,f2,q,f25,fn,fi]
  .rw[hgs]at m;simp only[Option.map_some]at m;unfold nj at m;simp only at m;obtain⟨Q,k2,k3,k4⟩:=hA.tok _ (oM hgs);simp only at Q k2 k3 k4;have y1:¬t=s.z:=O;have y2:¬t=s.z+1:=O;have y3:¬s.z=t:=O;have y4:¬s.z+1=t:=O;have y5:¬I.z=t:=fun e=>by rw[<- e,N]at k4;cases k4
   have y6:¬t=I.z:=fun e=>y5 e.symm;have W:(List.map (fun _:Ed=>3) (lB E (min a b,max a b))).sum=(lB E (min a b,max a b)).length*3:=YQ _;have w:=w (s.z+1+1);have U:=aL (lB E (min a b,max a b))
   have x9:∀ f:ah,f 1=.pt st.z 0->f 2=.pt (st.z+1) 0->f 4=.mp I.z->f 25=.sl 0 g.E.length (eds g.E)->f 26=i g.E.length->f 27=i j->(f 1=.pt st.z 0/\f 2=.pt (st.z+1) 0/\f 4=.mp I.z/\f 25=.sl 0 g.E.length (eds g.E)/\f 26=i g.E.length/\f 27=i j/\aC I (((((s.new (.box 36 3 [u d,u a,u b])).new (.own 36 3 1)).set t .dead).new (.own 36 3 ((lB E (min a b,max a b)).length+1))).set I.z (.map true [.u32,.u32] (bX (jz A) [min a b,max a b] (.sl (s.z+1+1) ((lB E (min a b,max a b)).length+1) (eds (lB E (min a b,max a b))++[u d,u a,u b])))))/\∃ A',BC true [.u32,.u32] 36 3 A' I.z I.z (((((s.new (.box 36 3 [u d,u a,u b])).new (.own 36 3 1)).set t .dead).new (.own 36 3 ((lB E (min a b,max a b)).length+1))).set I.z (.map true [.u32,.u32] (bX (jz A) [min a b,max a b] (.sl (s.z+1+1) ((lB E (min a b,max a b)).length+1) (eds (lB E (min a b,max a b))++[u d,u a,u b])))))/\HV E' A'):=fun f q1 q2 q3 q4 q5 q6=>
    ⟨q1,q2,q3,q4,q5,q6,((((hk.trans (aC.new _ _)).trans (aC.new _ _)).set k2 _).trans (aC.new _ _)).set (au _) _,_,hA.put (k:=[min a b,max a b]) (t:=s.z+1+1) (n:=(lB E (min a b,max a b)).length+1) (c:=eds (lB E (min a b,max a b))++[u d,u a,u b]) ⟨O,Y⟩ (by simp;omega) hk.z O (by simp[nj]) (Z R) (fun l hl hlm hx=>by
      have:=hx _ hgs;simp only at this
      simp[show ¬l=s.z by omega,show ¬l=s.z+1 by omega,show ¬l=s.z+1+1 by omega,hlm,this]),w⟩
   refine w_a [] [I.z,s.z] ?_;intro J hJ;refine mT 6 [(0,true),(1,true),(2,true),(3,true),(4,true),(6,true),(7,true),(8,true),(9,true),(10,true),(13,true)] ?_;simp[q,S,p,N,m,x1,x2,x3,R,y1,y2,y3,y4,y5,y6,k4,Q,U,W];refine vU 5 (5,true) (14,true) ?_ ?_
   .simp[q,S,p,N,m,x1,x2,x3,R,y1,y2,y3,y4,y5,y6,k4,Q,U,W];refine eL (pair a b _) ?_;refine⟨fun h=>by first|(cases h;done)|exact fun _ _=>rfl|simp[q,S,p,N,m,x1,x2,x3,R,y1,y2,y3,y4,y5,y6,k4,Q,U,W],?_⟩;refine vU 4 (11,true) (14,true) ?_ ?_
    .simp[q,S,p,N,m,x1,x2,x3,R,y1,y2,y3,y4,y5,y6,k4,Q,U,W];refine eL (pair a b _) ?_;refine⟨fun h=>by first|(cases h;done)|exact fun _ _=>rfl|simp[q,S,p,N,m,x1,x2,x3,R,y1,y2,y3,y4,y5,y6,k4,Q,U,W],?_⟩;refine mT 0 [(12,true),(14,true),(15,true),(16,false)] ?_;simp[q,S,p,N,m,x1,x2,x3,R,y1,y2,y3,y4,y5,y6,k4,Q,U,W];refine⟨by unfold maxLen;omega,fV (hJ _ _ ?_)⟩;simp only[ak];refine⟨trivial,x9 _ ?_ ?_ ?_ ?_ ?_ ?_⟩<;>simp[f1,f2,q,f25,fn,fi]
    .simp[q,S,p,N,m,x1,x2,x3,R,y1,y2,y3,y4,y5,y6,k4,Q,U,W];refine mT 0 [(11,true),(12,true),(15,true),(16,false)] ?_;simp[q,S,p,N,m,x1,x2,x3,R,y1,y2,y3,y4,y5,y6,k4,Q,U,W];refine eL (pair a b _) ?_;refine⟨fun h=>by first|(cases h;done)|exact fun _ _=>rfl|simp[q,S,p,N,m,x1,x2,x3,R,y1,y2,y3,y4,y5,y6,k4,Q,U,W],?_⟩;simp[q,S,p,N,m,x1,x2,x3,R,y1,y2,y3,y4,y5,y6,k4,Q,U,W];refine⟨by unfold maxLen;omega,fV (hJ _ _ ?_)⟩;simp only[ak];refine⟨trivial,x9 _ ?_ ?_ ?_ ?_ ?_ ?_⟩<;>simp[f1,f2,q,f25,fn,fi]
   .simp[q,S,p,N,m,x1,x2,x3,R,y1,y2,y3,y4,y5,y6,k4,Q,U,W];refine mT 0 [(5,true),(11,true),(12,true),(15,true),(16,false)] ?_;simp[q,S,p,N,m,x1,x2,x3,R,y1,y2,y3,y4,y5,y6,k4,Q,U,W];refine eL (pair a b _) ?_;refine⟨fun h=>by first|(cases h;done)|exact fun _ _=>rfl|simp[q,S,p,N,m,x1,x2,x3,R,y1,y2,y3,y4,y5,y6,k4,Q,U,W],?_⟩;simp[q,S,p,N,m,x1,x2,x3,R,y1,y2,y3,y4,y5,y6,k4,Q,U,W];refine eL (pair a b _) ?_;refine⟨fun h=>by first|(cases h;done)|exact fun _ _=>rfl|simp[q,S,p,N,m,x1,x2,x3,R,y1,y2,y3,y4,y5,y6,k4,Q,U,W],?_⟩;simp[q,S,p,N,m,x1,x2,x3,R,y1,y2,y3,y4,y5,y6,k4,Q,U,W];refine⟨by unfold maxLen;omega,fV (hJ _ _ ?_)⟩;simp only[ak];refine⟨trivial,x9 _ ?_ ?_ ?_ ?_ ?_ ?_⟩<;>simp[f1,f2,q,f25,fn,fi]
 .rintro C s ⟨f1,f2,q,f25,hk,A,hA,hB⟩;rw[fq]at hB;have hkn:=hk.z;have hGs:s.H st.z=.box 25 2 (aw g):=(hk.H _ O).trans hG1;have hOs:s.H (st.z+1)=.box 28 3 [.nil,.nil,.nil]:=(hk.H _ O).trans hO1
  (refine qh f1 hGs ?_;intro J hJ)
  refine qE (Sy g s O O O) Y ?_;rintro r s2 ⟨rfl,o6⟩;have hkn2:=o6.z;have hA2:=hA.keep o6;have hK2:=hk.trans o6;have hsl:=pZ g.E;have hO2:=(o6.H _ O).trans hOs;have hG2:=(o6.H _ O).trans hGs;clear o6 hOs hGs hA hk
  (refine nV hJ ?_;intro J hJ)
  have hbk:=FZ g;have hbl:im (sE g.E) (gY (sE g.E))=vJ (aT g):=by simp[im,vJ,aT]
  have hbn:(gY (sE g.E)).length=(aT g).length:=by simp[aT]
  have hblk:=A6 ⟨g.V,sE g.E⟩ hg2 ((s2.new (.box 25 2 [.sl 0 g.V.length (us g.V),.sl 0 (sE g.E).length (eds (sE g.E))])).new (.map false [.u32] [])) (fa (Js hc).2.2.1 (by decide)) (by simp only;omega);simp only[]at hblk;rw[hbl,hbn]at hblk;refine qE hblk (by simp[aw]) ?_;rintro r s3 ⟨rfl,e3⟩;rw[e3];clear e3 s3 hblk;have o9:=aC.new s2 (.box 25 2 [.sl 0 g.V.length (us g.V),.sl 0 (sE g.E).length (eds (sE g.E))]);have hn3:(s2.new (.box 25 2 [.sl 0 g.V.length (us g.V),.sl 0 (sE g.E).length (eds (sE g.E))])).z=s2.z+1:=rfl;rw[<- hn3];generalize s2.new (.box 25 2 [.sl 0 g.V.length (us g.V),.sl 0 (sE g.E).length (eds (sE g.E))])=s3 at *;have hA3:=hA2.keep o9;have hK3:=hK2.trans o9;have hO3:=(o9.H _ O).trans hO2;have hG3:=(o9.H _ O).trans hG2;clear hA2 hK2 hO2 hG2 o9;unfold iX at ho;obtain⟨oT,hoT,ho⟩:=nq.1 ho;have hKt:=hK1.trans hK3;refine dU hJ ?_;refine aV 57 56 58 104 ((aT g).length) (fun j C st2=>C 1=.pt st.z 0/\C 2=.pt (st.z+1) 0/\C 4=.mp I.z/\C 9=.mp s3.z/\C 55=.sl 0 (aT g).length (vJ (aT g))/\aC s3 st2/\∃ T A2,BI g ((aT g).drop j) T=some oT/\BC false [.u32] 34 1 A2 s3.z s3.z st2/\wZ T A2/\iT T<=100000) ?_ ?_ ?_
  .exact⟨Z f1,Z f2,Z q,Y,Y,aC.new _ _,[],[],by simpa using hoT,⟨by simp[jz],Y,Y,Y,Y⟩,rfl,by simp[iT]⟩
  .clear f1 f2 q f25 hoT C;rintro j0 C s4 dS ⟨f1,f2,q,f9,f55,hk4,T,A2,hE,hT,hR,htot⟩ fi fn JO hJO;have hd:=Mv (aT g) j0 dS;have hdr:(aT g).drop j0=(aT g).getD j0 []::(aT g).drop (j0+1):=by rw[jm dS,bv,bu dS];rfl
   obtain⟨hdre,hsub⟩:=oZ hgE (l:=(aT g).getD j0 []) (by rw[bv,bu dS];exact dz _);rw[hdr]at hE;unfold BI at hE;obtain⟨oD,hD,hE⟩:=nq.1 hE;generalize (aT g).getD j0 []=l at *;have hkn4:=hk4.z;have hM24:=hT.mlt.2;have hel4:(vJ (aT g)).length=(aT g).length:=by simp[vJ]
   (refine v6 f55 fi fn dS hd hel4 ?_;intro J hJ)
   refine qE (E6 hdre hD s4 O) Y ?_;rintro r s5 ⟨rfl,hk5⟩;have hO5:=(hk5.H (st.z+1) O).trans ((hk4.H (st.z+1) O).trans hO3);have hk45:=hk4.trans hk5;cases oD with
   |none=>simp only at hE;obtain rfl:none=oT:=ji hE;simp only at ho;obtain rfl:none=o:=ji ho;unfold qm;refine oG hJ f2 hO5 ?_;exact⟨by simp[MS,z0,dl],(hKt.trans hk45).set O _⟩
   |some F=>
    simp only at hE
    split at hE
    case isFalse=>cases hE
    rename_i hok;obtain⟨o1,o2,o3,o4,o5⟩:=hok;unfold qm
    (refine Hs hJ f2 hO5 ?_;intro J hJ)
    refine qE (Sg F s5 o1 o2) Y ?_;rintro r s6 ⟨M,loc,rfl,N⟩;have hMk:=N.kp;have hnd:=N.nd;have hkeyN:=Sz (aX F) loc
    (refine nV hJ ?_;intro J hJ)
    refine jr (F4 M _) ?_;have hM7:(s6.new (.box 87 1 [.mp M])).H M=.map false [.u32] (iv (aX F) loc):=by rw[cN,aa (by have:=N.olt;omega)];exact N.out
    refine dU hJ ?_;refine qE (Xg M s6.z (iv (aX F) loc) ((aX F).map (·.1)) _ (by simpa[iv]using o3) Y hM7 hkeyN hnd) Y ?_;rintro r s8 ⟨rfl,hk8⟩;have hk68:=(aC.new s6 _).trans hk8;have hn5:=hk5.z;have hn6:=hMk.z;have hn8:=hk68.z;have hout:s8.H M=.map false [.u32] (iv (aX F) loc):=(hk68.H M N.olt.2).trans N.out;have hinn:∀ a∈aX F,s8.H (loc a.1)=.map false [.u32] (ie a.2)/\s5.z<=loc a.1/\loc a.1<s8.z:=fun a ha=>by obtain⟨q1,q2,q3⟩:=N.inn a ha;exact⟨(hk68.H _ q3).trans q1,q2.1,O⟩
    have hMo:s5.z<=M/\M<s8.z:=⟨N.olt.1,by have:=N.olt.2;omega⟩;have hk48:=(hk5.trans hMk).trans hk68;have hT8:=hT.keep hk48;have hk38:=hk4.trans hk48;have hTW:∀ a∈A2,a.2.1<s5.z\/s8.z<=a.2.1:=fun a ha=>.inl (by have:=(hT.tok a ha).2.2.1;omega);have Tv:=MD F;clear N hM7 hk68 hMk hk48 hT hk8 hk5 hO5 hk45 hkeyN;unfold yM at hE o5;generalize aX F=AF at *;have hKm:=fun x=>sH x (AF.map (·.1));have hKl:(sZ (AF.map (·.1))).length<=1000:=fa (Kt _) (by rw[du];exact o3);generalize sZ (AF.map (·.1))=K at *;refine dU hJ ?_;refine aV 75 74 76 103 (K.length) (fun j C st2=>(C 1=.pt st.z 0/\C 2=.pt (st.z+1) 0/\C 4=.mp I.z/\C 9=.mp s3.z/\C 55=.sl 0 (aT g).length (vJ (aT g))/\C 56=i (aT g).length/\C 57=i j0/\C 14=.mp M/\C 73=.sl 0 K.length (us K))/\TI I.z s3.z s5.z s3 s8 (gR g AF (K.take j) T) st2) ?_ ?_ ?_
    .exact⟨⟨Z f1,Z f2,Z q,Z f9,Z f55,Z fn,Z fi,Y,Y⟩,hk38,au _,fun l _ _=>rfl,A2,hT8,hR,hTW⟩
    .clear f1 f2 q f9 f55 fn fi C hT8 hR hTW;rintro Q C s9 hlt1 ⟨⟨f1,f2,q,f9,f55,f56,f57,f14,f73⟩,hTI⟩ fi fn J1 hJ1;have y9:=qG K Q hlt1;have hsn1:gR g AF (K.take (Q+1)) T=eU g (K.getD Q 0) (cG (dV (K.getD Q 0) AF)) (gR g AF (K.take Q) T):=by have h1:K.take (Q+1)=K.take Q++[K[Q]]:=fh hlt1;unfold gR;rw[h1,lD,bT _ _ hlt1];rfl
     have htot1:iT (gR g AF (K.take (Q+1)) T)<=100000:=by have h1:=Es g AF (K.drop (Q+1)) (gR g AF (K.take (Q+1)) T);rw[<- KQ]at h1;omega
     have hvK:K.getD Q 0∈AF.map (·.1):=(hKm _).1 (by rw[bT _ _ hlt1];exact dz _);have hvA:=Ja hvK;have hgM:=HT AF loc (K.getD Q 0);rw[ac hvK]at hgM;rw[hsn1]at htot1 hJ1;clear hsn1;generalize gR g AF (K.take Q) T=Tk at *;generalize K.getD Q 0=v at *;obtain⟨hI1,hI2,hI3⟩:=hinn _ hvA;have hPl:=o4 _ hvA;have hP0:=Tv _ hvA;simp only at hI1 hI2 hI3 hPl hP0;have hLl:=LY (dV v AF);generalize dV v AF=P at *;have hTI':=hTI;obtain⟨hk9,hn9,hW,A9,hT9,hR9,hTW9⟩:=hTI';have hM9:=(hW M hMo.1 hMo.2).trans hout;have hI9:=(hW _ hI2 hI3).trans hI1;clear hT9 hR9 hTW9 hW;generalize loc v=lv at *
     (refine yv f73 fi fn hlt1 y9 f14 hM9 hgM ?_;intro J hJ)
     refine jr (Yl P lv s9 hP0 O hI9 O) ?_;have hLn:(cG P).length<=1000:=O;generalize cG P=L at *;refine dU hJ ?_;refine aV 84 83 85 102 (L.length) (fun j C st2=>(C 1=.pt st.z 0/\C 2=.pt (st.z+1) 0/\C 4=.mp I.z/\C 9=.mp s3.z/\C 55=.sl 0 (aT g).length (vJ (aT g))/\C 56=i (aT g).length/\C 57=i j0/\C 14=.mp M/\C 73=.sl 0 K.length (us K))/\(C 74=i K.length/\C 75=i Q/\C 16=u v/\C 82=.sl 0 L.length (us L))/\TI I.z s3.z s5.z s3 s8 (eU g v (L.take j) Tk) st2) ?_ ?_ ?_
     .exact⟨⟨Z f1,Z f2,Z q,Z f9,Z f55,Z f56,Z f57,Z f14,Z f73⟩,⟨Z fn,Z fi,Y,Y⟩,hTI⟩
     .clear f1 f2 q f9 f55 f56 f57 f14 f73 fi fn C hTI hk9 hn9 hM9 hI9 s9;rintro k2 C s9 hlt2 ⟨⟨f1,f2,q,f9,f55,f56,f57,f14,f73⟩,⟨f74,f75,f16,f82⟩,hk9,hn9,hW,A9,hT9,hR9,hTW9⟩ fi fn J2 hJ2;have hd2:=qG L k2 hlt2;have hsn2:eU g v (L.take (k2+1)) Tk=sF v (gT (lP g v (L.getD k2 0)) v (L.getD k2 0)) (eU g v (L.take k2) Tk):=by have h1:L.take (k2+1)=L.take k2++[L[k2]]:=fh hlt2;unfold eU;rw[h1,lD,bT _ _ hlt2];rfl
      have htot2:iT (eU g v (L.take (k2+1)) Tk)<=100000:=by have h1:=zT g v (L.drop (k2+1)) (eU g v (L.take (k2+1)) Tk);rw[<- Jv]at h1;omega
      rw[hsn2]at htot2 hJ2;clear hsn2;generalize eU g v (L.take k2) Tk=Tq at *;generalize L.getD k2 0=x at *;have hbun:=hB.get hA3.nd (aj v x);have hMB:s9.H I.z=.map true [.u32,.u32] (jz A):=(hk9.H _ hA3.mlt.2).trans hA3.map;obtain⟨X,hX,tX,hXn⟩:∃ X,(bY (jz A) [min v x,max v x]).getD .nil=X/\∃ t,norm X=.sl t (lP g v x).length (eds (lP g v x)):=by
       refine⟨_,rfl,?_⟩;rw[xX];rcases hbun with⟨h1,h2⟩|⟨t,h2⟩
       .refine⟨0,?_⟩;simp only[aj,pk]at h2;rw[h2];unfold lP;rw[h1];rfl
       .refine⟨t,?_⟩;simp only[aj,pk]at h2;rw[h2];rfl
      have hBl:(lP g v x).length<=200:=fa (gx _ _) (fa he O);have hBp:∀ e∈lP g v x,1<=e.id/\e.id<=1048576:=fun e h=>hgE.pos e (cj.1 h).1;have hdarts:=fun st=>B6 (lP g v x) v x tX st O hBp;generalize lP g v x=B at *;have hmg:=xX [v] A9;have w:=hR9.add (v:=v) (ds:=gT B v x);have htq:=EE v (sF v (gT B v x) Tq);have hgq:=hR9.get (v:=v);generalize hDD:gT B v x=D at *;have hMT:=hT9.map;have z1:¬I.z=s3.z:=by have:=hA3.mlt;omega
      have z2:¬s3.z=I.z:=fun e=>z1 e.symm;have hn39:=hk9.z;have hDt:=yB v D Tq;have hDt2:=EE v Tq;have hD1:D.length*4<=140737488355328:=O;have hD2:D.length<=maxLen:=by unfold maxLen;omega
      have hm2:=hT9.mlt.2;have z3:¬s3.z=s9.z:=O;have z4:¬s9.z=s3.z:=O;have z5:¬I.z=s9.z:=by have:=hA3.mlt;omega
      have h35:s3.z<s5.z:=O;refine jl f82 fi fn hlt2 hd2 ?_
      (refine zS [] [I.z,s3.z] [0,2,4,6,8,10,12,14,20,22,16,18,24,26,29] ?_;intro J hJ;simp[q,f9,f16,hMT,hMB])
      refine eL (pair v x _) ?_;refine⟨fun h=>by first|(cases h;done)|exact fun _ _=>rfl|simp,?_⟩
      (apply bM;simp[hMT,hMB,hX])
      refine eL (hdarts _) ?_ (by simp;exact hXn);refine⟨fun h=>by first|(cases h;done)|exact fun _ _=>rfl|simp,?_⟩;rcases hgq with⟨hq1,hq2⟩|⟨t,hq2⟩
      .rw[hq2]at hmg;simp only[Option.map_none]at hmg
       (apply bM;simp[hMT,hMB,hX,hmg,hD1,hD2,z3,z4,z5];(refine zJ hJ ?_;clear hJ J))
       refine bz ?_;have w:=w s9.z;rw[hq1]at w;simp only[us,mB,List.nil_append,List.length_nil,jw]at w;refine hJ2 _ _ (Z fi) (Z fn) ⟨⟨Z f1,Z f2,Z q,Z f9,Z f55,Z f56,Z f57,Z f14,Z f73⟩,⟨Z f74,Z f75,Z f16,Z f82⟩,(hk9.trans (aC.new _ _)).set (au _) _,by simp;omega,fun l q1 q2=>?_,_,hT9.put (k:=[v]) (t:=s9.z) (n:=D.length) (c:=us D) ⟨au _,Y⟩ Y hn39 O (by simp[nj]) (Z z4) (fun l hl hlm _=>by simp[show ¬l=s9.z by omega,hlm]),w,fun y hy=>?_⟩
       .rw[cC,aa O,cN,aa O];exact hW l q1 q2
       .rcases sL hT9.nd y hy with rfl|⟨hy,_⟩
        .exact .inr hn9
        .exact hTW9 y hy
      .rw[hq2]at hmg;simp only[Option.map_some]at hmg;unfold nj at hmg;simp only at hmg;obtain⟨g1,g2,g3,g4⟩:=hT9.tok _ (oM hq2);simp only at g1 g2 g3 g4;have y5:¬s3.z=t:=fun e=>by rw[<- e,hMT]at g4;cases g4
       have y6:¬t=s3.z:=fun e=>y5 e.symm;have y1:¬t=s9.z:=O;have y2:¬s9.z=t:=O;have z6:¬I.z=t:=by have:=hA3.mlt.2;omega
       have hD3:((fK v Tq).length+D.length)*4<=140737488355328:=O;have hD4:(fK v Tq).length+D.length<=maxLen:=by unfold maxLen;omega
       (apply bM;simp[hMT,hMB,hX,hmg,hD1,hD2,z3,z4,z5,z6,y1,y2,y5,y6,g1,g4,hD3,hD4];(refine zJ hJ ?_;clear hJ J))
       refine bz ?_;refine hJ2 _ _ (Z fi) (Z fn) ⟨⟨Z f1,Z f2,Z q,Z f9,Z f55,Z f56,Z f57,Z f14,Z f73⟩,⟨Z f74,Z f75,Z f16,Z f82⟩,((hk9.set g2 _).trans (aC.new _ _)).set (au _) _,by simp;omega,fun l q1 q2=>?_,_,hT9.put (k:=[v]) (t:=s9.z) (n:=(fK v Tq).length+D.length) (c:=us (fK v Tq)++us D) ⟨au _,Y⟩ Y hn39 O (by simp[nj]) (Z z4) (fun l hl hlm hx=>?_),w s9.z,fun y hy=>?_⟩
       .have:=hTW9 _ (oM hq2);simp only at this;rw[cC,aa O,cN,aa (by simp;omega),cC,aa O];exact hW l q1 q2
       .have:=hx _ hq2;simp only at this;simp[show ¬l=s9.z by omega,hlm,this]
       .rcases sL hT9.nd y hy with rfl|⟨hy,_⟩
        .exact .inr hn9
        .exact hTW9 y hy
     .rintro C s10 ⟨⟨f1,f2,q,f9,f55,f56,f57,f14,f73⟩,⟨f74,f75,f16,f82⟩,hTI2⟩;rw[fq]at hTI2;refine bz ?_;exact hJ1 _ _ (Z f75) (Z f74) ⟨⟨Z f1,Z f2,Z q,Z f9,Z f55,Z f56,Z f57,Z f14,Z f73⟩,hTI2⟩
    .rintro C s9 ⟨⟨f1,f2,q,f9,f55,fn,fi,f14,f73⟩,hk9,hn9,_,A9,hT9,hR9,_⟩;rw[fq]at hR9;refine bz ?_;exact hJO _ _ (Z fi) (Z fn) ⟨Z f1,Z f2,Z q,Z f9,Z f55,hk9,_,A9,hE,hT9,hR9,o5⟩
  .clear f1 f2 q f25 hoT C;rintro C s4 ⟨f1,f2,q,f9,f55,hk4,T,A2,hE,hT,hR,htot⟩;rw[xm]at hE;obtain rfl:some T=oT:=ji hE;simp only at ho;by_cases hg1:∀ v∈g.V,(fK v T).length<=1000
   case neg=>rw[aa hg1]at ho;cases ho
   rw[ac hg1]at ho;obtain rfl:some _=o:=ji ho;have hO4:=(hk4.H (st.z+1) O).trans hO3;have hG4:=(hk4.H st.z O).trans hG3
   (refine yu f1 hG4 f9 ?_;intro J hJ)
   refine qE (ZY g s3.z (jz A2) (fun v=>fK v T) s4 hv O hT.mlt.2 hT.map fun v hv'=>?_) (by simp[aw]) ?_
   .rw[xX];rcases hR.get (v:=v)with⟨h1,h2⟩|⟨t,h2⟩
    .refine⟨_,0,rfl,?_,hg1 v hv'⟩;rw[h2,h1];rfl
    .refine⟨_,t,rfl,?_,hg1 v hv'⟩;rw[h2];rfl
   rintro r s5 ⟨rfl,hk5⟩;have hO5:=(hk5.H (st.z+1) (by have:=hk4.z;omega)).trans hO4;refine oG hJ f2 hO5 ?_;refine⟨?_,((hKt.trans hk4).trans hk5).set O _⟩;rw[<- dC];simp only[MS,z0,dl,vR,lR,M1,rD,aw,du,List.cons_append,List.nil_append,iL]
end Aw
end Go.Proofs.YtbgngpdonpeboaaGreatDoor
