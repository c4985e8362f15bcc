/- The law PlaneLess, for whatever argument. -/
import Derived.Test.YtbgngpdonpeboaaGreatDoorJo
import Derived.Test.YtbgngpdonpeboaaGreatDoorAwShp
import Derived.Test.YtbgngpdonpeboaaGreatDoorAwAny
set_option linter.defProp false
set_option linter.unusedVariables false
set_option linter.unusedSimpArgs false
set_option maxHeartbeats 4000000
open Go.Proofs.Tryz
namespace Go.Proofs.YtbgngpdonpeboaaGreatDoor
namespace Aw
open Go Go.RowKit Pl
def QW(x y:Ed)(q:Nat)(c:St)(g:c.H q=.box 36 3 (dl x))(h:q<c.z):
 aB prog 15 [.ag (dl y),.pt q 0] c fun r e=>r=bb (decide (y.id≠x.id))/\aA c e:=by
 obtain⟨d,a,b⟩:=x;obtain⟨l,j,k⟩:=y;have f:¬q=c.z:=oO;refine zN func15 ntmps15 [.tmp 3] ?_;refine cy g f ?_;exact⟨rfl,aA.new _ _⟩
def PX(l:AN)(y:Ed)(q t:Nat)(b:St)(g:small l)(h:b.H q=.box 22 1 [.sl t l.length (us l)])(j:q<b.z):
 aB prog 22 [.ag (dl y),.pt q 0] b fun r c=>r=bb (decide (y.a∈l))/\aA b c:=by
 obtain⟨m,d,k⟩:=y;have e:¬q=b.z:=oO;refine zN func22 ntmps22 [.tmp 3] ?_
 (refine oj h e ?_;intro J f)
 refine qE (AY l t d _ g) sS ?_;rintro r n ⟨rfl,rfl⟩;refine dB f ?_;exact aA.new _ _
def Ad(D:Nat->Bool)(x y r n f g b e k:Nat)(d:List LV)(c:af)(s:St):Prop:=
 D x=true->D y=false->∃ a,c r=.ms a 0 n/\s.H a=.box e k d/\b<=a/\a<s.z/\(D g=true->¬c f=.pt a 0)
def Ad.keep{D D':Nat->Bool}{x y r n ra xa base e k:Nat}{cs:List LV}{fr UK:af}{s s':St}(h:Ad D x y r n ra xa base e k cs fr s)(hk:aA s s')(h1:UK r=fr r:=by simp)(h2:UK ra=fr ra:=by simp)(hx:D' x=D x:=by simp)(hy:D' y=D y:=by simp)(hz:D' xa=D xa:=by simp):Ad D' x y r n ra xa base e k cs UK s':=fun k1 k2=>by rw[hx]at k1;rw[hy]at k2;obtain⟨a,a1,a2,a3,a4,a5⟩:=h k1 k2;have:=hk.z;exact⟨a,by rw[h1,a1],(hk.H a a4).trans a2,a3,oO,fun q=>by rw[hz]at q;rw[h2];exact a5 q⟩
def Js(D:Nat->Bool)(x y r a:Nat)(R:LV->Prop)(c:af)(s:St):Prop:=
 D x=true->∃ z,c r=.pt z 0/\a<=z/\z<s.z/\(D y=false->s.H z=.box 25 2 [.nil,.nil])/\(D y=true->∃ b,s.H z=.box 25 2 b/\R (.ag b))
def Js.keep{D D':Nat->Bool}{x y r base:Nat}{R:LV->Prop}{fr UK:af}{s s':St}(h:Js D x y r base R fr s)(hk:D x=true->∀ z,fr r=.pt z 0->z<s.z->s'.H z=s.H z)(hn:s.z<=s'.z)(h1:UK r=fr r:=by simp)(hx:D' x=D x:=by simp)(hy:D' y=D y:=by simp):Js D' x y r base R UK s':=fun k1=>by rw[hx]at k1;obtain⟨z,a1,a2,a3,a4,a5⟩:=h k1;have:=hk k1 z a1 a3;exact⟨z,by rw[h1,a1],a2,oO,fun q=>by rw[this];rw[hy]at q;exact a4 q,fun q=>by rw[this];rw[hy]at q;exact a5 q⟩
def Wd(D:Nat->Bool)(x r e n d:Nat)(c:af):Prop:=D x=true->∀ a b,c r=.ms a 0 n->c e=.ms b 0 d->¬a=b
def PlaneLess(g:Gr)(w:Int)(F:St)(hw:0<=w/\w<256):aB prog 4 [.ag (bv g),.atom (.int .u8 w)] F fun r st'=>r=bb true:=by
 refine zN func4 ntmps4 [.tmp 4] ?_
 (refine eu ?_;intro J hJ)
 refine jh (Ui _) ?_
 (refine mQ hJ ?_;intro J hJ)
 refine qE (Ul g _) sS ?_;rintro r B ⟨rfl,o6⟩;have K5:=o6.z;simp only[aH]at K5;have Y8:B.H F.z=.box 25 2 (bv g):=by rw[o6.H _ sS];simp
 clear o6;by_cases hc:chk g=0;rotate_left
 .have hcb:(chk g != 0)=true:=by simpa using hc
  exact Wj hJ hcb hc
 by_cases hv:(20:Int)<g.V.length
 .exact Zz hJ hc Y8 hv
 by_cases he:(30:Int)<g.E.length
 .exact F9 hJ hc Y8 hv he
 by_cases h0:(g.E.length:Int)=0
 .have h00:g.E=[]:=oy.1 oO;exact H8 hJ hc Y8 hv he h0 h00
 have h00:¬g.E=[]:=fun h=>h0 (by rw[h];rfl);have hG:=gB hc;obtain⟨o,ho,hoP⟩:=rQ hc oO oO;obtain⟨k,W6,hkw⟩:∃ k:Nat,k<g.E.length/\w.tmod g.E.length=k:=by
  refine⟨(w.tmod g.E.length).toNat,?_,?_⟩
  .have:=Int.emod_lt_of_pos w (b:=g.E.length) oO;rw[rC hw.1];omega
  .have:=Int.emod_nonneg w (b:=g.E.length) oO;rw[rC hw.1];omega
 have A:=aS g.E k W6;have hel:=aJ g.E;have u9:k*3<g.E.length*3:=oO;have hx:g.E.getD k ed0∈g.E:=by rw[cp,cg W6];exact dq _
 generalize g.E.getD k ed0=x at *;obtain⟨xi,xa,xb⟩:=x;refine C1 hJ hc Y8 hv he h0 h00 ?_;have hww:IntKind.i64.wrap w=w:=zW
 (refine zS [] [F.z] [0,2,4,6,8,10,12,14,16,18,20,23] ?_;intro J hJ;simp[Y8,hww,hkw,A,hel,W6,u9];(repeat refine ca ?_);(refine zJ hJ ?_;clear hJ J))
 have S:¬F.z=B.z:=oO
 (refine oj Y8 S ?_;intro J hJ)
 refine qE (Vg g oO oO ho _) sS ?_;rintro r s2 ⟨rfl,u5⟩;have N0:=u5.z;simp only[aH]at N0;have hG2:s2.H F.z=.box 25 2 (bv g):=by rw[u5.H _ (by simp;omega)];simp[S,Y8]
 have hX2:s2.H B.z=.box 36 3 (dl ⟨xi,xa,xb⟩):=by rw[u5.H _ sS];simp
 clear u5 Y8;have hTe:Dx 15 [.pt B.z 0] s2 g.E fun y=>decide (y.id≠xi):=fun y _ s h=>QW ⟨xi,xa,xb⟩ y B.z s ((h.H _ oO).trans hX2) (by have:=h.z;omega)
 (refine IE hJ hG2 ?_;intro J hJ)
 refine qE (LO g _ _ _ _ oO oO hTe) (by simp[bv]) ?_;rintro r s3 ⟨rfl,hk3'⟩;have hn3:=hk3'.z;have hG3:=(hk3'.H F.z oO).trans hG2;have hX3:=(hk3'.H B.z oO).trans hX2;obtain⟨L,hL⟩:∃ L,L=g.E.filter fun y=>decide (y.id≠xi):=⟨_,rfl⟩;have hLl:L.length<=30:=by have:=gw (fun y:Ed=>decide (y.id≠xi)) g.E;rw[hL];omega
 rw[<- hL];clear hk3' hG2 hX2 hTe;refine vY hJ hG3 hX3 ?_;have hG4:(s3.new (.box 25 2 (bv ⟨g.V,L⟩))).H F.z=.box 25 2 (bv g):=by rw[cB,ac oO];exact hG3
 have hX4:(s3.new (.box 25 2 (bv ⟨g.V,L⟩))).H B.z=.box 36 3 (dl ⟨xi,xa,xb⟩):=by rw[cB,ac oO];exact hX3
 have hL4:(s3.new (.box 25 2 (bv ⟨g.V,L⟩))).H s3.z=.box 25 2 (bv ⟨g.V,L⟩):=sS;have hn4:(s3.new (.box 25 2 (bv ⟨g.V,L⟩))).z=s3.z+1:=rfl;generalize s3.new (.box 25 2 (bv ⟨g.V,L⟩))=s4 at *;clear hG3 hX3;obtain⟨p,hp⟩:∃ p,p=s3.z:=⟨_,rfl⟩;obtain⟨q,hq⟩:∃ q,q=B.z:=⟨_,rfl⟩;rw[<- hp]at hL4;rw[<- hq]at hX4;rw[<- hp,<- hq];have b1:F.z<q/\q<p/\p<s4.z:=oO;clear K5 N0 hn3 hn4 hp hq;refine qL (fun n f s=>∃ v:Nat,1<=v/\(∀ z:Nat,1<=z->z<v->(z:Int)∈g.V)/\n+v=30/\f 2=.pt F.z 0/\f 5=.pt q 0/\f 6=bb o.isSome/\f 7=.pt p 0/\f 8=u v/\f 9=u 1/\s=s4) 29 ?_ ?_
 .exact⟨1,oO,fun z h1 h2=>by omega,rfl,sS,sS,sS,sS,sS,sS,rfl⟩
 rintro n f s ⟨v,hv1,hvl,hnv,K,f5,C,Q,Y,Z,rfl⟩ JJ hJJ;have hvle:=WM hvl;by_cases hvm:(v:Int)∈g.V
 .have hwv:IntKind.u32.wrap ((v:Int)+1)=((v+1:Nat):Int):=wrap_u32' _ oO oO
  (refine ol K Y hG4 ?_;intro J hJ)
  refine qE (AY g.V 0 v _ (by unfold small;omega)) sS ?_;rintro r s5 ⟨rfl,rfl⟩;refine sW hJ hvm Y hwv ?_
  exact hJJ (n-1) _ _ oO ⟨v+1,oO,fun z h1 h2=>by
   rcases dC z v with h|h
   .exact hvl z h1 h
   .rw[show z=v by omega];exact hvm,oO,aa K,aa f5,aa C,aa Q,sS,aa Z,rfl⟩
 clear hJJ
 (refine ol K Y hG4 ?_;intro J hJ)
 refine qE (AY g.V 0 v _ (by unfold small;omega)) sS ?_;rintro r s5 ⟨rfl,rfl⟩;refine pH hJ hvm ?_;have b2:p<s5.z:=b1.2.2;refine qL (fun n f s=>∃ c:Nat,1<=c/\(∀ z:Nat,1<=z->z<c->(z:Int)∈g.E.map (·.id))/\n+c=40/\f 2=.pt F.z 0/\f 5=.pt q 0/\f 6=bb o.isSome/\f 7=.pt p 0/\f 8=u v/\f 9=u c/\s.H F.z=.box 25 2 (bv g)/\s.H q=.box 36 3 (dl ⟨xi,xa,xb⟩)/\s.H p=.box 25 2 (bv ⟨g.V,L⟩)/\p<s.z) 39 ?_ ?_
 .exact⟨1,oO,fun z h1 h2=>by omega,rfl,aa K,aa f5,aa C,aa Q,aa Y,aa Z,hG4,hX4,hL4,b2⟩
 clear K f5 C Q Y Z hG4 hX4 hL4 hnv b2;rintro n f s ⟨c,hc1,r8,hnc,K,f5,C,Q,Y,Z,hG5,hX5,hL5,hn5⟩ JJ hJJ;have hcle:=WM r8;rw[dh]at hcle;by_cases hcm:g.E.any (fun e=>decide (e.id=c))=true
 .have hwc:IntKind.u32.wrap ((c:Int)+1)=((c+1:Nat):Int):=wrap_u32' _ oO oO;have hfe:0<=fe g.E c:=by unfold fe;rw[ad hcm];omega
  (refine ol K Z hG5 ?_;intro J hJ)
  refine qE (Gu g c _ oO) sS ?_;rintro r s6 ⟨rfl,W⟩;have hn6:=W.z;refine sW hJ hfe Z hwc ?_;refine hJJ (n-1) _ _ oO ⟨c+1,oO,fun z h1 h2=>?_,oO,aa K,aa f5,aa C,aa Q,aa Y,sS,(W.H _ oO).trans hG5,(W.H _ oO).trans hX5,(W.H _ oO).trans hL5,oO⟩;rcases dC z c with h|h
  .exact r8 z h1 h
  .obtain⟨e,X9,he2⟩:=oY.1 hcm;rw[show z=c by omega];exact aq.2 ⟨e,X9,by simpa using he2⟩
 clear hJJ;have hfe:¬0<=fe g.E c:=by unfold fe;rw[ac hcm];omega
 have W0:∀ e∈g.E,e.id≠c:=fun e X9 he2=>hcm (oY.2 ⟨e,X9,by simpa using he2⟩)
 (refine ol K Z hG5 ?_;intro J hJ)
 refine qE (Gu g c _ oO) sS ?_;rintro r s6 ⟨rfl,W⟩;have hn6:=W.z;have hG6:=(W.H F.z oO).trans hG5;have hX6:=(W.H q oO).trans hX5;have hL6:=(W.H p oO).trans hL5;clear W hG5 hX5 hL5;refine pH hJ hfe ?_;obtain⟨E2,hE2⟩:∃ E2:List Ed,E2=g.E++[⟨c,xb,xa⟩]:=⟨_,rfl⟩;have hE2e:eds g.E++[u c,u xb,u xa]=eds E2:=by rw[hE2];simp
 have hE2l:E2.length=g.E.length+1:=by rw[hE2];simp
 have C4:List.take (g.E.length*3) (eds g.E)=eds g.E:=dp oO;have hmx:g.E.length+1<=maxLen:=er (by omega:_<=31) (by decide);have hvn:g.V.Nodup:=hG.rise.imp fun h=>by omega
 have hen:(E2.map (·.id)).Nodup:=by
  rw[hE2,cr,bw];refine⟨?_,sS,fun a ha b hb=>?_⟩
  .rw[rD,fa];exact hG.ids.imp fun h=>by omega
  .obtain⟨e,X9,rfl⟩:=aq.1 ha;simp at hb;rw[hb];exact W0 e X9
 refine WG [78] [F.z,q] (fun D f s=>f 2=.pt F.z 0/\f 5=.pt q 0/\f 6=bb o.isSome/\f 7=.pt p 0/\f 8=u v/\f 9=u c/\aA s6 s
  /\ (D 0=true->f 66=.pt F.z 0)/\(D 1=true->f 67=.sl 0 g.V.length (us g.V))/\(D 2=true->f 68=.pt F.z 1)/\(D 3=true->f 69=.sl 0 g.E.length (eds g.E))
  /\ (D 5=true->f 71=u c)/\(D 6=true->f 72=.pt q 2)/\(D 7=true->f 73=u xb)/\(D 8=true->f 74=.pt q 1)/\(D 9=true->f 75=u xa)/\(D 10=true->f 76=.ag [u c,u xb,u xa])
  /\ (D 11=true->∃ t,f 77=.sl t 1 [u c,u xb,u xa])
  /\ Ad D 4 12 70 g.E.length 10 14 s6.z 36 3 (eds g.E) f s/\Ad D 12 13 78 (g.E.length+1) 10 14 s6.z 36 3 (eds E2) f s
  /\ (D 13=true->vA g.V E2 (f 79))/\Js D 14 15 10 s6.z (vA g.V E2) f s/\(D 15=true->D 14=true)) ?_ ?_ ?_
 .refine⟨aa K,aa f5,aa C,aa Q,aa Y,aa Z,aA.refl _,?_⟩;simp[Ad,Js]
 .rintro D f s k oo ⟨K,f5,C,Q,Y,Z,m,i0,i1,i2,i3,i5,i6,i7,i8,i9,i10,i11,i4,i12,i13,X,i15⟩ ho hn A;have dF:k<16:=(fu.1 ho).1;have hkn:=m.z;have U:=(m.H F.z oO).trans hG6;have hXk:=(m.H q oO).trans hX6;have g6:¬F.z=s.z:=oO;have g7:¬q=s.z:=oO;obtain rfl|rfl|rfl|rfl|rfl|rfl|rfl|rfl|rfl|rfl|rfl|rfl|rfl|rfl|rfl|rfl:k=0\/k=1\/k=2\/k=3\/k=4\/k=5\/k=6\/k=7\/k=8\/k=9\/k=10\/k=11\/k=12\/k=13\/k=14\/k=15:=oO
  all_goals (injection ho with ho;subst ho;simp[Region.binds]at A;unfold iG)
  all_goals try (simp[A,K,f5,C,Q,Y,Z,m,i0,i1,i2,i3,i5,i6,i7,i8,i9,i10,U,hXk,aL];(repeat' (first|assumption|apply And.intro|exact i4.keep (aA.refl _)|exact i12.keep (aA.refl _)|exact X.keep (fun _ _ _ _=>rfl) (au _)));done)
  .simp[A,K,f5,C,Q,Y,Z,m,i0,i1,i2,i3,i5,i6,i7,i8,i9,i10,U,hXk,aL];refine⟨_,Fo g.E 0 s oO,?_⟩;rintro r s' ⟨a,rfl,ha1,ha2,ha3,N⟩;have hsb:SB [F.z,q] s6 s':=fun l hl=>by rw[N.H l (by simp at hl;omega),m.H l (by simp at hl;omega)]
   have R7:=m.trans N;refine⟨⟨hsb _ sS,hsb _ sS⟩,R7,i0,i1,i2,i5,i6,i7,i8,i9,i10,i11,fun _ _=>⟨a,sS,ha3,oO,ha2,fun h e=>?_⟩,i12.keep N,i13,X.keep (fun _ z _ h=>N.H z h) N.z,i15⟩;obtain⟨z,z1,_,z3,_⟩:=X (by simpa using h);simp at e;rw[z1]at e;injection e with e;omega
  .simp[A,K,f5,C,Q,Y,Z,m,i0,i1,i2,i3,i5,i6,i7,i8,i9,i10,U,hXk,aL,SB,hG6,hX6,g6,g7]
   (repeat' (first|assumption|apply And.intro|exact i4.keep (aA.refl _)|exact i12.keep (aA.refl _)|exact X.keep (fun _ _ _ _=>rfl) (au _)))
  .simp[A,K,f5,C,Q,Y,Z,m,i0,i1,i2,i3,i5,i6,i7,i8,i9,i10,U,hXk,aL,SB,hG6,hX6,g6,g7]
   (repeat' (first|assumption|apply And.intro|exact m.trans (aA.new _ _)|exact i4.keep (aA.new _ _)|exact i12.keep (aA.new _ _)|exact X.keep (fun _ z _ h=>(aA.new _ _).H z h) (aA.new _ _).z sS sS sS))
  .obtain⟨t,ht⟩:=i11 A.2.1;obtain⟨a,S,a2,a3,a4,a5⟩:=i4 A.1 hn;have r1:¬a=s.z:=oO;have r2:¬F.z=a:=oO;have r3:¬q=a:=oO;simp[A,K,f5,C,Q,Y,Z,m,i0,i1,i2,i3,i5,i6,i7,i8,i9,i10,U,hXk,aL,SB,hG6,hX6,g6,g7,ht,S,a2,r1,r2,r3,C4,hE2e,hel,hmx];refine⟨oO,?_,?_⟩
   .exact(m.set a3 _).trans (aA.new _ _)
   repeat' (first|assumption|apply And.intro)
   .exact fun _ k=>by simp at k
   .refine fun _ _=>⟨s.z,sS,sS,hkn,sS,fun h e=>?_⟩;obtain⟨z,z1,_,z3,_⟩:=X (by simpa using h);simp at e;rw[z1]at e;injection e with e;omega
   .refine X.keep (fun k z h1 h2=>?_) sS;have w1:¬z=a:=fun e=>a5 k (by rw[h1,e]);have w2:¬z=s.z:=oO;simp[w1,w2]
  .obtain⟨a,S,a2,a3,a4,a5⟩:=i12 A.2 hn;have hMk:aB prog 18 [.sl 0 g.V.length (us g.V),.ms a 0 (g.E.length+1)] s fun r st'=>vA g.V E2 r/\aA (s.set a .dead) st':=by refine fQ (pre:=[.sl 0 g.V.length (us g.V)]) (post:=[]) a2 (by rw[aJ,hE2l];omega) ?_;rw[dp (by rw[aJ,hE2l];omega),<- hE2l];exact Make g.V E2 0 0 _ oO oO hvn hen
   simp[A,K,f5,C,Q,Y,Z,m,i0,i1,i2,i3,i5,i6,i7,i8,i9,i10,U,hXk,aL,SB,hG6,hX6,g6,g7,S,a2];refine⟨_,hMk,?_⟩;rintro r s' ⟨hmp,N⟩;have R7:aA s6 s':=(m.set a3 _).trans N;refine⟨⟨(R7.H _ oO).trans hG6,(R7.H _ oO).trans hX6⟩,R7,?_⟩;have hk'n:=N.z;simp only[bN]at hk'n
   repeat' (first|assumption|apply And.intro)
   .exact fun _ k=>by simp[A]at k
   .exact fun _ k=>by simp at k
   .refine X.keep (fun k z h1 h2=>?_) hk'n;have:¬z=a:=fun e=>a5 k (by rw[h1,e]);rw[N.H z (by simpa using h2),bP,ac this]
  .simp[A,K,f5,C,Q,Y,Z,m,i0,i1,i2,i3,i5,i6,i7,i8,i9,i10,U,hXk,aL,SB,hG6,hX6,g6,g7];refine⟨m.trans (aA.new _ _),?_⟩
   repeat' (first|assumption|apply And.intro)
   .intro k1 k2;obtain⟨a,S,a2,a3,a4,a5⟩:=i4 (by simpa using k1) (by simpa using k2);have:¬a=s.z:=oO;exact⟨a,aa S,dg this a2,a3,by simp;omega,fun _ e=>by simp at e;omega⟩
   .intro k1 k2;obtain⟨a,S,a2,a3,a4,a5⟩:=i12 (by simpa using k1) (by simpa using k2);have:¬a=s.z:=oO;exact⟨a,aa S,dg this a2,a3,by simp;omega,fun _ e=>by simp at e;omega⟩
   .exact fun _=>⟨s.z,sS,hkn,sS,fun _=>by simp,fun h=>by
     have:=i15 (by simpa using h)
     rw[hn]at this;cases this⟩
  .have d13:D 13=true:=by simp_all
   have d14:D 14=true:=by simp_all
   have d12:D 12=true:=by simp_all
   have d11:D 11=true:=by simp_all
   have hmp:=i13 d13;obtain⟨V,E,v1,v2,v3,v4,v5⟩:=hmp;obtain⟨z,z1,z2,z3,z4,_⟩:=X d14;have z4:=z4 hn;have r2:¬F.z=z:=oO;have r3:¬q=z:=oO;have hmq:vA g.V E2 (.ag (bv ⟨V,E⟩)):=⟨V,E,v1,v2,v3,v4,rfl⟩;simp[A,K,f5,C,Q,Y,Z,m,i0,i1,i2,i3,i5,i6,i7,i8,i9,i10,U,hXk,aL,SB,hG6,hX6,g6,g7,v5,z1,z4,r2,r3];refine⟨m.set z2 _,i11 d11,fun _ k=>by simp[d12]at k,fun _ k=>by simp[d13]at k,hmq,fun _=>⟨z,aa z1,z2,by simp;omega,fun k=>by simp at k,fun _=>⟨_,sS,hmq⟩⟩⟩
 rintro D f s ⟨K,f5,C,Q,Y,Z,m,_,_,_,_,_,_,_,_,_,_,_,_,_,_,X,_⟩ d;have d0:=d 0 _ rfl sS;have d1:=d 1 _ rfl (aa d0);have d2:=d 2 _ rfl sS;have d3:=d 3 _ rfl (aa d2);have d4:=d 4 _ rfl (aa d3);have d5:=d 5 _ rfl sS;have d6:=d 6 _ rfl sS;have d7:=d 7 _ rfl (aa d6);have d8:=d 8 _ rfl sS;have d9:=d 9 _ rfl (aa d8);have d10:=d 10 _ rfl (gv d5 d7 d9);have d11:=d 11 _ rfl (aa d10);have d12:=d 12 _ rfl (dg d4 d11);have d13:=d 13 _ rfl (dg d1 d12);have d14:=d 14 _ rfl sS;have d15:=d 15 _ rfl (by simp[d0,d1,d2,d3,d4,d5,d6,d7,d8,d9,d10,d11,d12,d13,d14]);obtain⟨z,O,z2,z3,_,z5⟩:=X d14;obtain⟨cs,hZ,hmp⟩:=z5 d15;clear d X d0 d1 d2 d3 d4 d5 d6 d7 d8 d9 d10 d11 d12 d13 d14 d15;simp only[ak,reduceIte];have hGn:=(m.H F.z oO).trans hG6;have hXn:=(m.H q oO).trans hX6;have hLn:=(m.H p oO).trans hL6;have hpz:p<z:=oO;clear m hE2e hE2l C4 hmx hen hG6 hX6 hL6 z2;obtain⟨V2,E2',v1,v2,v3,v4,v5⟩:=hmp;injection v5 with v5;subst v5;obtain⟨n21,n22,o2,ho2,ho2P⟩:=Ol hc oO oO hx (id:=c) ⟨oO,oO⟩ v1 v2 (by rw[hE2]at v3;exact v3) v4;refine bz ?_;obtain⟨E3,hE3⟩:∃ E3:List Ed,E3=L++[⟨xi,xa,v⟩,⟨c,v,xb⟩]:=⟨_,rfl⟩;obtain⟨V3,hV3⟩:∃ V3:AN,V3=g.V++[(v:Int)]:=⟨_,rfl⟩;have hE3e:eds L++[u xi,u xa,u v,u c,u v,u xb]=eds E3:=by rw[hE3];simp
 have hV3e:us g.V++[u v]=us V3:=by rw[hV3];simp
 have hE3l:E3.length=L.length+2:=by rw[hE3];simp
 have hV3l:V3.length=g.V.length+1:=by rw[hV3];simp
 have helL:=aJ L;have hulv:(us g.V).length=g.V.length:=sS;have C4:List.take (L.length*3) (eds L)=eds L:=dp oO;have htv:List.take g.V.length (us g.V)=us g.V:=dp oO;have hmx:L.length+2<=maxLen:=er (by omega:_<=32) (by decide);have hmv:g.V.length+1<=maxLen:=er (by omega:_<=32) (by decide);have hvn3:V3.Nodup:=by rw[hV3,bw];exact⟨hvn,sS,fun a ha b hb=>by simp at hb;rw[hb];exact fun e=>hvm (e ▸ ha)⟩
 have hen3:(E3.map (·.id)).Nodup:=by
  have h1:(L.map (·.id)).Nodup:=by rw[rD,fa,hL];exact(hG.ids.sublist jc).imp fun h=>by omega
  have h2:∀ a∈L,a∈g.E/\a.id≠xi:=fun a ha=>by rw[hL]at ha;simpa using ha
  rw[hE3,cr,bw];refine⟨h1,by simpa using fun e=>W0 _ hx e,fun a ha b hb=>?_⟩;obtain⟨e,X9,rfl⟩:=aq.1 ha;have h3:=h2 e X9;simp at hb;rcases hb with rfl|rfl
  .exact h3.2
  .exact W0 e h3.1
 refine WG [85,101] [F.z,q,p] (fun D f B=>f 2=.pt F.z 0
  /\ f 5=.pt q 0
  /\ f 6=bb o.isSome
  /\ f 7=.pt p 0
  /\ f 8=u v
  /\ f 9=u c
  /\ f 10=.pt z 0
  /\ aA s B
  /\ (D 0=true->f 80=.pt F.z 0)
  /\ (D 1=true->f 81=.sl 0 g.V.length (us g.V))
  /\ (D 3=true->f 83=u v)
  /\ (D 6=true->f 86=.pt p 1)
  /\ (D 7=true->f 87=.sl 0 L.length (eds L))
  /\ (D 9=true->f 89=.pt q 0)
  /\ (D 10=true->f 90=u xi)
  /\ (D 11=true->f 91=.pt q 1)
  /\ (D 12=true->f 92=u xa)
  /\ (D 13=true->f 93=u v)
  /\ (D 14=true->f 94=.ag [u xi,u xa,u v])
  /\ (D 15=true->f 95=u c)
  /\ (D 16=true->f 96=u v)
  /\ (D 17=true->f 97=.pt q 2)
  /\ (D 18=true->f 98=u xb)
  /\ (D 19=true->f 99=.ag [u c,u v,u xb])
  /\ (D 4=true->∃ t,f 84=.sl t 1 [u v])
  /\ (D 20=true->∃ t,f 100=.sl t 2 [u xi,u xa,u v,u c,u v,u xb])
  /\ Ad D 2 5 82 g.V.length 11 23 s.z 34 1 (us g.V) f B
  /\ Ad D 5 22 85 (g.V.length+1) 11 23 s.z 34 1 (us V3) f B
  /\ Ad D 8 21 88 L.length 11 23 s.z 36 3 (eds L) f B
  /\ Ad D 21 22 101 (L.length+2) 11 23 s.z 36 3 (eds E3) f B
  /\ (D 22=true->vA V3 E3 (f 102))
  /\ Js D 23 24 11 s.z (vA V3 E3) f B
  /\ Wd D 8 85 88 (g.V.length+1) L.length f
  /\ Wd D 21 85 101 (g.V.length+1) (L.length+2) f
  /\ (D 8=true->D 5=true)
  /\ (D 21=true->D 8=true)
  /\ (D 22=true->D 21=true)
  /\ (D 24=true->D 23=true)) ?_ ?_ ?_
 .refine⟨aa K,aa f5,aa C,aa Q,aa Y,aa Z,aa O,aA.refl _,?_⟩;simp[Ad,Js,Wd]
 .clear K f5 C Q Y Z O;rintro D f B k oo ⟨K,f5,C,Q,Y,Z,O,m,j0,j1,j3,j6,j7,j9,j10,j11,j12,j13,j14,j15,j16,j17,j18,j19,j4,j20,m2,m5,m8,m21,k22,pz,n1,n2,c8,c21,c22,c24⟩ ho hn A;have dF:k<25:=(fu.1 ho).1;have hkn:=m.z;have U:=(m.H F.z oO).trans hGn;have hXk:=(m.H q oO).trans hXn;have hLk:=(m.H p oO).trans hLn;have g6:¬F.z=B.z:=oO;have g7:¬q=B.z:=oO;have g8:¬p=B.z:=oO;have hB:=(⟨K,f5,C,Q,Y,Z,O,m,j0,j1,j3,j6,j7,j9,j10,j11,j12,j13,j14,j15,j16,j17,j18,j19,U,hXk,hLk,hGn,hXn,hLn,g6,g7,g8⟩:_/\_/\_/\_/\_/\_/\_/\_/\_/\_/\_/\_/\_/\_/\_/\_/\_/\_/\_/\_/\_/\_/\_/\_/\_/\_/\_/\_/\_/\_/\_/\_/\_);obtain rfl|rfl|rfl|rfl|rfl|rfl|rfl|rfl|rfl|rfl|rfl|rfl|rfl|rfl|rfl|rfl|rfl|rfl|rfl|rfl|rfl|rfl|rfl|rfl|rfl:k=0\/k=1\/k=2\/k=3\/k=4\/k=5\/k=6\/k=7\/k=8\/k=9\/k=10\/k=11\/k=12\/k=13\/k=14\/k=15\/k=16\/k=17\/k=18\/k=19\/k=20\/k=21\/k=22\/k=23\/k=24:=oO
  all_goals (injection ho with ho;subst ho;simp[Region.binds]at A;unfold iG)
  all_goals try (simp[A,hB,aL,SB];(repeat' (first|assumption|apply And.intro|exact m.trans (aA.refl _)|exact m2.keep (aA.refl _)  | exact m5.keep (aA.refl _)  | exact m8.keep (aA.refl _)  | exact m21.keep (aA.refl _)  | exact n1.keep|exact n2.keep|exact pz.keep (fun _ _ _ _=>rfl) (au _) sS sS sS));done)
  .simp[A,hB,aL,SB];refine⟨_,uA g.V 0 B oO,?_⟩;rintro r s' ⟨a,rfl,ha1,ha2,ha3,N⟩;have R7:=m.trans N;have hkn':=N.z;refine⟨⟨(R7.H _ oO).trans hGn,(R7.H _ oO).trans hXn,(R7.H _ oO).trans hLn⟩,R7,?_⟩
   repeat' (first|assumption|apply And.intro)
   .refine fun _ _=>⟨a,sS,ha3,oO,ha2,fun h e=>?_⟩;obtain⟨z',z1,_,z3,_⟩:=pz (by simpa using h);simp at e;rw[z1]at e;injection e with e;omega
   .exact m5.keep N 
   .exact m8.keep N 
   .exact m21.keep N 
   .exact pz.keep (fun _ z _ h=>N.H z h) hkn' sS sS sS
   all_goals first|exact n1.keep|exact n2.keep
  .simp[A,hB,aL,SB];refine⟨m.trans (aA.new _ _),?_⟩
   repeat' (first|assumption|apply And.intro)
   .exact m2.keep (aA.new _ _) 
   .exact m5.keep (aA.new _ _) 
   .exact m8.keep (aA.new _ _) 
   .exact m21.keep (aA.new _ _) 
   .exact pz.keep (fun _ z _ h=>(aA.new _ _).H z h) (aA.new _ _).z sS sS sS
   all_goals first|exact n1.keep|exact n2.keep
  .obtain⟨t,ht⟩:=j4 A.2.1;obtain⟨a,S,a2,a3,a4,a5⟩:=m2 A.1 hn;have r1:¬a=B.z:=oO;have r2:¬F.z=a:=oO;have r3:¬q=a:=oO;have r4:¬p=a:=oO;simp[A,hB,aL,SB,ht,S,a2,r1,r2,r3,r4,htv,hV3e,hulv,hmv];refine⟨oO,?_,?_⟩
   .exact(m.set a3 _).trans (aA.new _ _)
   repeat' (first|assumption|apply And.intro)
   .exact fun _ k=>by simp at k
   .refine fun _ _=>⟨B.z,sS,sS,hkn,sS,fun h e=>?_⟩;obtain⟨z',z1,_,z3,_⟩:=pz (by simpa using h);simp at e;rw[z1]at e;injection e with e;omega
   .exact fun k _=>by have:=c8 (by simpa using k);rw[hn]at this;cases this
   .exact fun k _=>by have:=c8 (c21 (by simpa using k));rw[hn]at this;cases this
   .refine pz.keep (fun k z' h1 h2=>?_) sS;have w1:¬z'=a:=fun e=>a5 k (by rw[h1,e]);have w2:¬z'=B.z:=oO;simp[w1,w2]
   .exact fun k=>by have:=c8 (by simpa using k);rw[hn]at this;cases this
   .exact fun k=>by have:=c8 (c21 (by simpa using k));rw[hn]at this;cases this
  .simp[A,hB,aL,SB];refine⟨_,Fo L 0 B oO,?_⟩;rintro r s' ⟨a,rfl,ha1,ha2,ha3,N⟩;have R7:=m.trans N;have hkn':=N.z;refine⟨⟨(R7.H _ oO).trans hGn,(R7.H _ oO).trans hXn,(R7.H _ oO).trans hLn⟩,R7,?_⟩
   repeat' (first|assumption|apply And.intro)
   .exact m2.keep N 
   .exact m5.keep N 
   .refine fun _ _=>⟨a,sS,ha3,oO,ha2,fun h e=>?_⟩;obtain⟨z',z1,_,z3,_⟩:=pz (by simpa using h);simp at e;rw[z1]at e;injection e with e;omega
   .exact m21.keep N 
   .exact pz.keep (fun _ z _ h=>N.H z h) hkn' sS sS sS
   .intro _ a' b' e1 e2;have T:D 22=false:=by
     cases h:D 22 with
     |false=>rfl
     |true=>have:=c21 (c22 h);rw[hn]at this;cases this
    obtain⟨a2,b1,_,_,b4,_⟩:=m5 (by simp_all) T;simp at e1 e2;rw[b1]at e1;injection e1 with e1;omega
   all_goals exact n2.keep
  .simp[A,hB,aL,SB];refine⟨m.trans (aA.new _ _),?_⟩
   repeat' (first|assumption|apply And.intro)
   .exact m2.keep (aA.new _ _) 
   .exact m5.keep (aA.new _ _) 
   .exact m8.keep (aA.new _ _) 
   .exact m21.keep (aA.new _ _) 
   .exact pz.keep (fun _ z _ h=>(aA.new _ _).H z h) (aA.new _ _).z sS sS sS
   all_goals first|exact n1.keep|exact n2.keep
  .obtain⟨t,ht⟩:=j20 A.2.1;obtain⟨a,S,a2,a3,a4,a5⟩:=m8 A.1 hn;have r1:¬a=B.z:=oO;have r2:¬F.z=a:=oO;have r3:¬q=a:=oO;have r4:¬p=a:=oO;simp[A,hB,aL,SB,ht,S,a2,r1,r2,r3,r4,C4,hE3e,helL,hmx];refine⟨oO,?_,?_⟩
   .exact(m.set a3 _).trans (aA.new _ _)
   repeat' (first|assumption|apply And.intro)
   .intro k1 k2;exact absurd (c8 A.1) (by simp at k2;simp[k2])
   .intro k1 k2;obtain⟨a',b1,b2,b3,b4,b5⟩:=m5 (by simpa using k1) (by simpa using k2);have w1:¬a'=a:=n1 A.1 a' a b1 S;have w2:¬a'=B.z:=oO;exact⟨a',aa b1,gv w1 w2 b2,b3,by simp;omega,fun k e=>b5 (by simpa using k) (by simpa using e)⟩
   .exact fun _ k=>by simp at k
   .refine fun _ _=>⟨B.z,sS,sS,hkn,sS,fun h e=>?_⟩;obtain⟨z',z1,_,z3,_⟩:=pz (by simpa using h);simp at e;rw[z1]at e;injection e with e;omega
   .refine pz.keep (fun k z' h1 h2=>?_) sS;have w1:¬z'=a:=fun e=>a5 k (by rw[h1,e]);have w2:¬z'=B.z:=oO;simp[w1,w2]
   .intro _ a' b' e1 e2;have T:D 22=false:=by
     cases h:D 22 with
     |false=>rfl
     |true=>have:=c22 h;rw[hn]at this;cases this
    obtain⟨a2',b1,_,_,b4,_⟩:=m5 (c8 A.1) T;simp at e1 e2;rw[b1]at e1;injection e1 with e1;omega
   all_goals exact c8 A.1
  .obtain⟨a,S,a2,a3,a4,a5⟩:=m5 A.1 hn;obtain⟨b,b1,b2,b3,b4,b5⟩:=m21 A.2 hn;have x9:=n2 A.2 a b S b1;have hMk:aB prog 18 [.ms a 0 (g.V.length+1),.ms b 0 (L.length+2)] B fun r st'=>vA V3 E3 r/\aA ((B.set a .dead).set b .dead) st':=by refine fQ (pre:=[]) (post:=[.ms b 0 (L.length+2)]) a2 (aa hV3l) ?_;refine fQ (pre:=[.sl 0 (g.V.length+1) _]) (post:=[]) (l:=b) (by rw[bP,ac (fun e=>x9 e.symm)];exact b2) (by rw[aJ,hE3l];omega) ?_;rw[dp (aa hV3l),dp (by rw[aJ,hE3l];omega),<- hE3l,<- hV3l];exact Make V3 E3 0 0 _ oO oO hvn3 hen3
   simp[A,hB,aL,SB,S,b1];refine⟨_,hMk,?_⟩;rintro r s' ⟨hmp,N⟩;have R7:aA s s':=((m.set a3 _).set b3 _).trans N;have hkn':=N.z;simp only[bN]at hkn';refine⟨⟨(R7.H _ oO).trans hGn,(R7.H _ oO).trans hXn,(R7.H _ oO).trans hLn⟩,R7,?_⟩
   repeat' (first|assumption|apply And.intro)
   .intro k1 k2;exact absurd A.1 (by simp at k2;simp[k2])
   .exact fun _ k=>by simp at k
   .intro k1 k2;exact absurd A.2 (by simp at k2;simp[k2])
   .exact fun _ k=>by simp at k
   .refine pz.keep (fun k z' h1 h2=>?_) hkn';have w1:¬z'=a:=fun e=>a5 k (by rw[h1,e]);have w2:¬z'=b:=fun e=>b5 k (by rw[h1,e]);rw[N.H z' (by simpa using h2),bP,ac w2,bP,ac w1]
   all_goals first|exact n1.keep|exact n2.keep|exact c21 A.2
  .simp[A,hB,aL,SB];refine⟨m.trans (aA.new _ _),?_⟩
   repeat' (first|assumption|apply And.intro)
   .intro k1 k2;obtain⟨a,S,a2,a3,a4,a5⟩:=m2 (by simpa using k1) (by simpa using k2);have:¬a=B.z:=oO;exact⟨a,aa S,dg this a2,a3,by simp;omega,fun _ e=>by simp at e;omega⟩
   .intro k1 k2;obtain⟨a,S,a2,a3,a4,a5⟩:=m5 (by simpa using k1) (by simpa using k2);have:¬a=B.z:=oO;exact⟨a,aa S,dg this a2,a3,by simp;omega,fun _ e=>by simp at e;omega⟩
   .intro k1 k2;obtain⟨a,S,a2,a3,a4,a5⟩:=m8 (by simpa using k1) (by simpa using k2);have:¬a=B.z:=oO;exact⟨a,aa S,dg this a2,a3,by simp;omega,fun _ e=>by simp at e;omega⟩
   .intro k1 k2;obtain⟨a,S,a2,a3,a4,a5⟩:=m21 (by simpa using k1) (by simpa using k2);have:¬a=B.z:=oO;exact⟨a,aa S,dg this a2,a3,by simp;omega,fun _ e=>by simp at e;omega⟩
   .exact fun _=>⟨B.z,sS,hkn,sS,fun _=>by simp,fun h=>by
     have:=c24 (by simpa using h)
     rw[hn]at this;cases this⟩
   all_goals first|exact n1.keep|exact n2.keep
  .have d23:D 23=true:=A.1;have T:D 22=true:=A.2.1;have d21:=c22 T;have d8:=c21 d21;have d5:=c8 d8;have j4':∃ t,f 84=.sl t 1 [u v]:=j4 (by simp_all);have j20':∃ t,f 100=.sl t 2 [u xi,u xa,u v,u c,u v,u xb]:=j20 (by simp_all);have hmp:=k22 T;obtain⟨V,E,v1,v2,v3,v4,v5⟩:=hmp;obtain⟨z',z1,z2,z3,z4,_⟩:=pz d23;have z4:=z4 hn;have r2:¬F.z=z':=oO;have r3:¬q=z':=oO;have r4:¬p=z':=oO;have hmq:vA V3 E3 (.ag (bv ⟨V,E⟩)):=⟨V,E,v1,v2,v3,v4,rfl⟩;simp[A,hB,aL,SB,v5,z1,z4,r2,r3,r4,d5,d8,d21,T,d23];refine⟨m.set z2 _,?_⟩
   repeat' (first|assumption|apply And.intro)
   .exact fun _ k=>by simp[d5]at k
   .exact fun _ k=>by simp[T]at k
   .exact fun _ k=>by simp[d21]at k
   .exact fun _ k=>by simp[T]at k
   .exact fun _=>⟨z',aa z1,z2,by simp;omega,fun k=>by simp at k,fun _=>⟨_,sS,hmq⟩⟩
   all_goals first|exact n1.keep|exact n2.keep
 rintro D f B ⟨K,f5,C,Q,Y,Z,O,m,_,_,_,_,_,_,_,_,_,_,_,_,_,_,_,_,_,_,_,_,_,_,_,pz,_⟩ d;have d0:=d 0 _ rfl sS;have d1:=d 1 _ rfl (aa d0);have d2:=d 2 _ rfl (aa d1);have d3:=d 3 _ rfl sS;have d4:=d 4 _ rfl (aa d3);have d5:=d 5 _ rfl (dg d2 d4);have d6:=d 6 _ rfl sS;have d7:=d 7 _ rfl (aa d6);have d8:=d 8 _ rfl (dg d7 d5);have d9:=d 9 _ rfl sS;have d10:=d 10 _ rfl (aa d9);have d11:=d 11 _ rfl sS;have d12:=d 12 _ rfl (aa d11);have d13:=d 13 _ rfl sS;have d14:=d 14 _ rfl (gv d10 d12 d13);have d15:=d 15 _ rfl sS;have d16:=d 16 _ rfl sS;have d17:=d 17 _ rfl sS;have d18:=d 18 _ rfl (aa d17);have d19:=d 19 _ rfl (gv d15 d16 d18);have d20:=d 20 _ rfl (dg d14 d19);have d21:=d 21 _ rfl (dg d8 d20);have T:=d 22 _ rfl (dg d5 d21);have d23:=d 23 _ rfl sS;have d24:=d 24 _ rfl (by simp[d0,d1,d2,d3,d4,d5,d6,d7,d8,d9,d10,d11,d12,d13,d14,d15,d16,d17,d18,d19,d20,d21,T,d23]);obtain⟨y,f11,y2,y3,_,y5⟩:=pz d23;obtain⟨cs,hY,hmp⟩:=y5 d24;clear d pz d0 d1 d2 d3 d4 d5 d6 d7 d8 d9 d10 d11 d12 d13 d14 d15 d16 d17 d18 d19 d20 d21 T d23 d24;simp only[ak,reduceIte];have hkn:=m.z;have hGm:=(m.H F.z oO).trans hGn;have hLm:=(m.H p oO).trans hLn;have hZm:=(m.H z z3).trans hZ;obtain⟨V4,E4,w1,w2,w3,w4,w5⟩:=hmp;injection w5 with w5;subst w5;obtain⟨n31,n32,o3,ho3,ho3P⟩:=QX hc oO oO hx (id:=c) ⟨oO,oO⟩ (v:=v) ⟨oO,oO⟩ hvm (by rw[hV3]at w1;exact w1) w2 (by rw[hE3,hL]at w3;exact w3) w4;have hpy:p<y:=oO;clear m hGn hXn hLn hZ hE3e hV3e hE3l hV3l helL hulv C4 htv hmx hmv hvn3 hen3 hvn f5 Y Z;have b3:F.z<B.z/\p<B.z/\z<B.z/\y<B.z:=oO;clear y2 y3 z3 hkn
 (repeat' (first|apply qS|(refine zE ?_;intro J hJ;simp[K,hGm];(try (refine zJ hJ ?_;clear hJ J)))))
 refine qE (ZQ g _ (Gq hG) oO oO) sS ?_;rintro r s2 ⟨⟨t,R,rfl,hR⟩,u5⟩;have N0:=u5.z;obtain⟨P,hP,hAll⟩:=SX hc oO oO hR;have hRl:=hR.len;refine bz ?_;refine bH 106 105 107 120 (R.length) (fun j f st2=>f 2=.pt F.z 0/\f 6=bb o.isSome/\f 7=.pt p 0/\f 10=.pt z 0/\f 11=.pt y 0/\f 12=bb ((R.take j).all P)/\f 104=.sl t R.length (GV R)/\aA s2 st2) ?_ ?_ ?_
 .exact⟨aa K,aa C,aa Q,aa O,aa f11,sS,sS,aA.refl _⟩
 .rintro j f s dF ⟨K,C,Q,O,f11,M,f104,m⟩ fi fn JO hJO;have hkn:=m.z;have U:=(m.H F.z oO).trans ((u5.H _ oO).trans hGm);have A:=BL R j dF;have hRl2:j<(GV R).length:=by simpa using dF
  have hl:R.getD j []∈R:=by rw[jJ _ _ dF];exact dq _
  obtain⟨hll,o4,ho4,hPl⟩:=hP _ hl;have hPj:(R.take (j+1)).all P=((R.take j).all P&&P (R.getD j [])):=by rw[eL dF,List.all_append,jJ _ _ dF];simp
  generalize R.getD j []=l at *;have X7:=gw (fun y:Ed=>decide (y.a∈l)) g.E;have q1:¬F.z=s.z:=oO;have hTe:Dx 22 [.pt s.z 0] (s.new (.box 22 1 [.sl 0 l.length (us l)])) g.E fun y=>decide (y.a∈l):=fun y _ s' h=>PX l y s.z 0 s' (by unfold small;omega) ((h.H _ sS).trans sS) (by have:=h.z;simp at this;omega)
  (repeat' (first|apply qS|(refine zE ?_;intro J hJ;simp[K,f104,fi,fn,A,dF,hRl2,U,q1];(try (refine zJ hJ ?_;clear hJ J)))))
  refine qE (LO g _ _ _ _ oO oO hTe) (by simp[bv]) ?_;rintro r s3 ⟨rfl,u9⟩;have hn3:=u9.z;simp only[aH]at hn3;have hB3:s3.H s.z=.box 22 1 [.sl 0 l.length (us l)]:=(u9.H _ sS).trans sS;have M0:aA s2 s3:=(m.trans (aA.new _ _)).trans u9;have q2:¬s.z=s3.z:=oO;cases hb:(R.take j).all P with
  |false=>rw[hb]at M hPj;refine fk hB3 q2 M ?_;exact hJO _ _ (aa fi) (aa fn) ⟨aa K,aa C,aa Q,aa O,aa f11,by rw[hPj];simp,aa f104,M0.trans (aA.new _ _)⟩
  |true=>
   rw[hb]at M hPj;have hQ:=fun s'=>zM ⟨l,g.E.filter fun y=>decide (y.a∈l)⟩ (by show l.length<=1000;omega) (by show(g.E.filter _).length<=_;omega) ho4 s'
   (repeat' (first|apply qS|((first|(refine zE ?_;intro J hJ)|(apply cL));simp[hB3,q2,M];(try (refine zJ hJ ?_;clear hJ J)))))
   refine qE (hQ _) (by simp[bv]) ?_;rintro r s5 ⟨rfl,hk5⟩;rw[<- hPl];refine bz ?_;exact hJO _ _ (aa fi) (aa fn) ⟨aa K,aa C,aa Q,aa O,aa f11,by rw[hPj];simp,aa f104,(M0.trans (aA.new _ _)).trans hk5⟩
 .rintro f s ⟨K,C,Q,O,f11,M,f104,m⟩;have hkn:=m.z;have hLk:=(m.H p oO).trans ((u5.H _ oO).trans hLm);have hZk:=(m.H z oO).trans ((u5.H _ oO).trans hZm);have hYk:=(m.H y oO).trans ((u5.H _ oO).trans hY);have e1:R.all P=o.isSome:=by rw[vk,hAll,hoP]
  have e2:o2.isSome=o.isSome:=by rw[vk,ho2P,hoP]
  have e3:o3.isSome=o.isSome:=by rw[vk,ho3P,hoP]
  rw[gm,e1]at M;have hQ2:=fun s'=>zM ⟨V2,E2'⟩ n21 n22 ho2 s';have hQ3:=fun s'=>zM ⟨V4,E4⟩ n31 n32 ho3 s';rw[e2]at hQ2;rw[e3]at hQ3;obtain⟨o5,ho5,h5⟩:=QS hc oO oO ⟨xi,xa,xb⟩;rw[<- hL]at ho5;have hQ5:=fun s'=>zM ⟨g.V,L⟩ (by show g.V.length<=1000;omega) (by show L.length<=_;omega) ho5 s';cases hos:o.isSome with
  |false=>
   rw[hos]at C M hQ2 hQ3
   (repeat' (first|apply qS|(refine zE ?_;intro J hJ;simp[C,M,O,f11,hZk])))
   refine qE (hQ2 _) (by simp[bv]) ?_;rintro r s5 ⟨rfl,hk5⟩;have hY5:=(hk5.H y oO).trans hYk;refine ef C M f11 hY5 ?_;refine qE (hQ3 _) (by simp[bv]) ?_;rintro r s6 ⟨rfl,W⟩;exact ub C M
  |true=>
   rw[h5 (hoP.1 hos)]at hQ5;rw[hos]at C M hQ2 hQ3
   (repeat' (first|apply qS|(refine zE ?_;intro J hJ;simp[C,M,Q,O,f11,hLk])))
   refine qE (hQ5 _) (by simp[bv]) ?_;rintro r s4 ⟨rfl,M0⟩;have hn4:=M0.z;have hZ4:=(M0.H z oO).trans hZk;have hY4:=(M0.H y oO).trans hYk;refine jg C M O f11 hZ4 ?_;refine qE (hQ2 _) (by simp[bv]) ?_;rintro r s5 ⟨rfl,hk5⟩;have hY5:=(hk5.H y oO).trans hY4;refine ef C M f11 hY5 ?_;refine qE (hQ3 _) (by simp[bv]) ?_;rintro r s6 ⟨rfl,W⟩;exact ub C M
def Ch(a c:List LV)(d:St)(e:Shp tab 25 a)(f:Shp tab 5 c):aB prog 4 [Ex tab 25 a,Ex tab 5 c] d fun r j=>r=bb true:=by obtain⟨g,rfl,_⟩:=Xd e;obtain⟨b,rfl,h⟩:=MT rfl rfl f;simp[Lit.wf,show IntKind.u8.min=0 from rfl,show IntKind.u8.max=255 from rfl]at h;exact PlaneLess g b d oO
end Aw
end Go.Proofs.YtbgngpdonpeboaaGreatDoor
