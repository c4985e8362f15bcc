/- Lemmas. -/
import Derived.Test.YtbgngpdonpeboaaGreatDoorJd
set_option linter.defProp false
set_option maxHeartbeats 4000000
open Go.Proofs.Tryz
namespace Go.Proofs.YtbgngpdonpeboaaGreatDoor
namespace Aw
open Go Go.RowKit Pl
def NX(g:Gr)(f:FuncId)(Kz:QQ)(p:Ed->Bool)(b:St)(j:g.V.length<=1000)(d:g.E.length<=1000)(e:Is f Kz b g.E p):
 aD prog 14 [.ag (aw g),.fn (.func f) Kz] b fun r a=>r=.ag (aw ⟨g.V,g.E.filter p⟩)/\aC b a:=by
 refine cZ ((X9 g f Kz p b j d e).mono ?_);rintro r a ⟨⟨X,rfl,c⟩,hk⟩;refine⟨?_,hk⟩;simp only[z0,dl,vR]
 congr 1
 rcases c with⟨rfl,h⟩|⟨t,rfl⟩
 .rw[h];simp[z0]
 .simp only[z0,lR]
def vN(g:Gr)(c:PP):Gr:=⟨g.V,g.E.filter fun x=>js g.V c x.a||js g.V c x.b⟩
def EW(g:Gr)(b:dm):Int:=g.V.getD (fst' g.V b.ends) 0
def mE(g:Gr)(b:dm):PP:=b.ends.filter fun w=>decide (w≠EW g b)
def oK(g:Gr)(b:dm):Int:=g.V.getD (fst' g.V (mE g b)) 0
def Ou(g:Gr)(b:dm):Option PP:=
 if fst' g.V b.ends<g.V.length/\fst' g.V (mE g b)<g.V.length then
  if eh g.V b.inner=[]then some [EW g b,oK g b]else xE g.V (dG (vN g b.inner).E) (js g.V b.inner) (EW g b) (oK g b) 1000
 else none
def X7{g:Gr}(X:GP g){L:QP}{on:PP}{F:List PP}{S nl pl ll fl:Nat}{le:List (PP×LV)}{c:St}(K:ShA g L on F S nl pl ll fl le c){b:dm}(hb:∀ v∈b.ends,v∈g.V){w:PP}(k:Ou g b=some w):
 aD prog 103 [.pt S 0,Vp g.V b] c fun r st'=>r=.sl 0 w.length (us w)/\st'=c:=by
 refine qT (Q:=fun r=>r=.sl 0 w.length (us w)) (cZ ?_) fun r h=>by subst h;exact⟨.inl rfl,yG _ _⟩
 have d:=X.h64;have he:=X.he;have hn:g.V.Nodup:=X.toGoodE.toGood.nodup;unfold Ou at k;by_cases hq:fst' g.V b.ends<g.V.length/\fst' g.V (mE g b)<g.V.length
 case neg=>rw[aa hq]at k;cases k
 rw[ac hq]at k;obtain⟨j,q⟩:=hq;have h0:0<g.V.length:=O;have U:=Hl d j;have W:=Hl d q;have hl1:=pS g.V b.ends d;have hl2:=pS g.V (mE g b) d;have p:=NO d hn j;have p:AA .u64 (mk g.V b.ends) (IntKind.u64.wrap ((mk g.V b.ends:Int)-1))=mk g.V (mE g b):=p;have y9:=qG g.V _ j;have o:=qG g.V _ q;have y9:(us g.V).drop (fst' g.V b.ends)=u (EW g b)::us (g.V.drop (fst' g.V b.ends+1)):=y9;have o:(us g.V).drop (fst' g.V (mE g b))=u (oK g b)::us (g.V.drop (fst' g.V (mE g b)+1)):=o;have hi1:(fst' g.V b.ends:Int)<g.V.length:=O;have hi2:(fst' g.V (mE g b):Int)<g.V.length:=O;have C:=fun c=>Tz (mk g.V b.ends) hl1 c;have D:=fun c=>Tz (mk g.V (mE g b)) hl2 c;rw[U]at C;rw[W]at D;have n:=K.r.box;have dS:=K.r.lt;have x1:¬S=c.z:=O;have x2:¬S=c.z+1:=O;generalize EW g b=fm at *;generalize oK g b=I at *;generalize fst' g.V b.ends=k1 at *;generalize fst' g.V (mE g b)=k2 at *;generalize mE g b=E2 at *;have e0:¬c.z=c.z+1:=O;refine zN func103 ntmps103 [.tmp 4] ?_;refine bz ?_
 (refine zS [] [S,c.z,c.z+1] [0,2,4,6,8,10,12,14,16,18,20] ?_;intro J f;simp[n,x1,x2,e0])
 refine eL (C _) ?_;refine⟨fun h=>by first|(cases h;done)|exact fun _ _=>rfl|simp,?_⟩
 (apply bM;simp[y9,hi1,j];(refine zJ f ?_;clear f J))
 (repeat (apply qS))
 (refine zS [] [S,c.z,c.z+1] [0,2,4,6,8,10,12,14,16,18,20,22,24,26,28] ?_;intro J f;simp[n,x1,x2,e0,p])
 refine eL (D _) ?_;refine⟨fun h=>by first|(cases h;done)|exact fun _ _=>rfl|simp,?_⟩
 (apply bM;simp[o,hi2,q];(refine zJ f ?_;clear f J))
 have hz0:mk g.V []=0:=(mk_zero g.V []).2 fun _ _=>by simp
 by_cases M:eh g.V b.inner=[]
 .rw[ac M]at k;obtain rfl:[fm,I]=w:=by simpa using k
  have hm:mk g.V b.inner=0:=by rw[<- IJ,M,hz0]
  refine df hm ?_;exact⟨by simp[z0,dl],((aC.new _ _).trans (aC.new _ _)).trans (aC.new _ _)⟩
 .rw[aa M]at k
  have hm:mk g.V b.inner≠0:=fun h=>M (by
   rw[<- IJ,mk_zero]at h
   exact qp.2 fun v hv=>h v (cj.1 hv).1 hv)
  have hmb:((mk g.V b.inner:Int)==0)=false:=by simpa using hm
  have x3:¬S=c.z+1+1:=O
  have hT:∀ e,aC c e->c.z+2<e.z->e.H c.z=.box 130 1 [.pt S 0]->e.H (c.z+1)=.box 138 2 [wv (mk g.V b.inner),wv (mk g.V b.ends)]->e.H (c.z+1+1)=.box 145 1 [.fn (.func 145) [.pt c.z 0,.pt (c.z+1) 0]]->
   Is 146 [.pt (c.z+1+1) 0] e g.E fun x=>js g.V b.inner x.a||js g.V b.inner x.b:=fun e o9 hn3 l m T x _ st2 t=>by
   have hn2:=t.z;exact S6 (K.keep (o9.trans t)).r.b hn d h0 ((t.H _ O).trans l) ((t.H _ O).trans m) ((t.H _ O).trans T) O x
  have hM:∀ e,aC c e->c.z+2<e.z->e.H c.z=.box 130 1 [.pt S 0]->e.H (c.z+1)=.box 138 2 [wv (mk g.V b.inner),wv (mk g.V b.ends)]->
   Uh (.fn (.func 145) [.pt c.z 0,.pt (c.z+1) 0]) (js g.V b.inner) e:=fun e o9 hn3 l m=>.inr ⟨_,_,rfl,rfl,fun v s hk=>by
   refine(G2 (K.keep (o9.trans hk)).r.b hn d h0 ((hk.H _ O).trans l) ((hk.H _ O).trans m) v).mono ?_;rintro r s' ⟨h1,rfl⟩
   exact⟨h1,aC.refl _⟩⟩
  (refine vL hmb n x1 x2 x3 ?_;intro J f)
  refine qE (NX g _ _ _ _ O O (hT _ ?_ ?_ ?_ ?_ ?_)) (by simp[aw]) ?_
  .exact(((aC.new _ _).trans (aC.new _ _)).trans (aC.new _ _)).set O _
  .simp
  ·(repeat (first|rw[ay aE]|rw[aA O]|rw[az bf]|rw[aB O]))
  ·(repeat (first|rw[ay aE]|rw[aA O]|rw[az bf]|rw[aB O]))
  .simp
  rintro r y ⟨rfl,A⟩;have hn1:=A.z;simp only[bP,aK]at hn1;have B:aC c y:=((((aC.new _ _).trans (aC.new _ _)).trans (aC.new _ _)).set O _).trans A;have N:y.H c.z=.box 130 1 [.pt S 0]:=by rw[A.H _ (by simp only[bP,aK];omega)];(repeat (first|rw[ay aE]|rw[aA O]|rw[az bf]|rw[aB O]))
  have P:y.H (c.z+1)=.box 138 2 [wv (mk g.V b.inner),wv (mk g.V b.ends)]:=by rw[A.H _ (by simp only[bP,aK];omega)];(repeat (first|rw[ay aE]|rw[aA O]|rw[az bf]|rw[aB O]))
  have R:y.H (c.z+1+1)=.box 145 1 [.fn (.func 145) [.pt c.z 0,.pt (c.z+1) 0]]:=by rw[A.H _ (by simp only[bP,aK];omega)];simp
  clear A;have y1:¬c.z+1+1=y.z:=O;have y2:¬c.z=y.z:=O;have y3:¬c.z+1=y.z:=O;have hpl:(vN g b.inner).E.length<=1000:=by have:=gx (fun x:Ed=>js g.V b.inner x.a||js g.V b.inner x.b) g.E;unfold vN;simp only;omega
  (refine Hs f R y1 ?_;intro J f)
  refine qE (Path (vN g b.inner) fm I _ _ 1000 w _ (by unfold vN;simp only;omega) hpl O (hM _ (B.trans (aC.new _ _)) (by simp only[aK];omega) ?_ ?_) k) (by simp[aw,vN]) ?_
  .rw[cN,aa y2];exact N
  .rw[cN,aa y3];exact P
  rintro r s2 ⟨rfl,t⟩;refine dU f ?_;exact⟨by simp[z0],(B.trans (aC.new _ _)).trans t⟩
def yR(n i j:Nat):Nat:=if i<=j then j-i else j+n-i
def jX(r:PP)(i j:Nat):PP:=((r++r).drop i).take (yR r.length i j+1)
variable{j n:Nat}
def Vl{i p:Nat}(b:i<n)(c:j<n)(d:p<=yR n i j):((i+p) % n=j↔p=yR n i j):=by
 unfold yR at *;by_cases h:i<=j
 .rw[ac h]at *;rw[ev O];omega
 .rw[aa h]at *;by_cases a:i+p<n
  .rw[ev a];omega
  .rw[show i+p=(i+p-n)+n by omega,vh,ev O];omega
def BK{i:Nat}(a:i<n)(b:j<n):yR n i j<n:=by unfold yR;split<;>omega
def WC(r:PP)(i p:Nat)(a:i<r.length)(b:p<r.length):((r++r).drop i)[p]?=some (r.getD ((i+p) % r.length) 0):=by
 rw[vf];by_cases h:i+p<r.length
 .rw[kw h,ev h,bv,bu h];rfl
 .rw[oi O,show i+p=(i+p-r.length)+r.length by omega,vh,ev O,bv];have:i+p-r.length<r.length:=O;rw[show i+p-r.length+r.length-r.length=i+p-r.length by omega,bu this];rfl
def JH(r:PP)(i p:Nat)(b:i<r.length)(c:p<r.length):((r++r).drop i).take (p+1)=((r++r).drop i).take p++[r.getD ((i+p) % r.length) 0]:=by
 have h:=WC r i p b c;have a:p<((r++r).drop i).length:=by rw[gy,cb];omega
 rw[fh a];rw[bu a,ap]at h;rw[h]
def CK(r:PP)(i j:Nat)(a:i<r.length)(b:j<r.length):(jX r i j).length=yR r.length i j+1:=by have:=BK a b;unfold jX;rw[dj,gy,cb];omega
def L7(r:PP)(k j:Nat)(e:St)(a:k<r.length)(P:j<r.length)(hl:r.length<=1000)(hp:0<e.z):
 aD prog 143 [.sl 0 r.length (us r),i k,i j] e fun v c=>(∃ t,v=.sl t (jX r k j).length (us (jX r k j))/\HC t 34 1 (jX r k j).length e c)/\aC e c:=by
 have N:=qG r k a;have j8:(k:Int)<r.length:=O;have m:=CK r k j a P;have hst:=BK a P;refine zN func143 ntmps143 [.tmp 6] ?_
 (repeat' (first|apply qS|apply qB|(refine zE ?_;intro J M;simp[N,j8,a];refine zJ M ?_)))
 have e0:¬e.z=0:=O;have w:(k+0) % r.length=k:=by rw[Nat.add_zero,ev a]
 refine qL (fun n l c=>∃ p t:Nat,p<=yR r.length k j/\n=yR r.length k j-p/\l 0=.sl 0 r.length (us r)/\l 1=i (((k+p) % r.length:Nat):Int)/\l 2=i j/\l 7=.sl t (p+1) (us (((r++r).drop k).take (p+1)))/\HC t 34 1 (p+1) e c/\aC e c) (yR r.length k j) ?_ ?_
 .refine⟨0,e.z,O,O,Y,?_,Y,?_,⟨e0,au _,Y,Y⟩,aC.new _ _⟩
  .rw[w];simp
  .have:=JH r k 0 a O;rw[this,w];simp[a]
 rintro n l s ⟨p,t,Q,rfl,K,L,D,E,⟨T,X,t2,I⟩,hk⟩ JJ hJJ;have o:=Vl a P Q;by_cases f:p=yR r.length k j
 .have F:((((k+p) % r.length:Nat):Int) != j)=false:=by rw[o.2 f];simp
  generalize ((k+p) % r.length:Nat)=q at *;subst f;have R:((r++r).drop k).take (yR r.length k j+1)=jX r k j:=rfl;rw[R,<- m]at E;rw[<- m]at I;refine eI L D E F ?_;exact⟨⟨T,X,t2,I⟩,hk⟩
 .have F:((((k+p) % r.length:Nat):Int) != j)=true:=by have:¬(k+p) % r.length=j:=fun h=>f (o.1 h);rw[bne_iff_ne];intro h;exact this (Int.ofNat_inj.1 h)
  have b:=JH r k (p+1) a O;have hq:(k+p) % r.length<r.length:=me _ O;have y:(k+(p+1)) % r.length=((k+p) % r.length+1) % r.length:=by rw[<- Nat.add_assoc,Nat.mod_add_mod]
  rw[y]at b;have d:((((k+p) % r.length:Nat):Int)+1).tmod (r.length:Int)=((((k+p) % r.length+1) % r.length:Nat):Int):=by rw[zt O];exact(Int.natCast_emod _ _).symm
  have g:((k+p) % r.length+1) % r.length<r.length:=me _ O;generalize (k+p) % r.length=q at *;have H:=qN q O;have H:IntKind.i64.wrap ((q:Int)+1)=(q:Int)+1:=by rw[H];omega
  generalize (q+1) % r.length=S at *;have W:=qG r S g;generalize r.getD S 0=x at *;have A:(S:Int)<r.length:=O;have B:¬(r.length:Int)=0:=O;have C:¬r=[]:=fun h=>by rw[h]at a;simp at a
  have U:¬t=s.z:=O;have V:¬s.z=t:=O
  (repeat' (first|apply qS|apply qB|refine qK (zZ ?_)|(apply qC;simp[K,L,D,E,F,H,d,B,C,W,g,A,I,T,U,V])|(refine zE ?_;intro J M;simp[K,L,D,E,F,H,d,B,C,W,g,A,I,T,U,V];(repeat refine ca ?_);refine zJ M ?_)))
  exact hJJ _ _ _ O ⟨p+1,s.z+1,O,rfl,Z K,by rw[y];simp,Z D,by rw[b];simp,⟨O,O,Y,Y⟩,((hk.trans (aC.new _ _)).set X _).trans (aC.new _ _)⟩
end Aw
def Aw.U.zns:True:=trivial
open Go Go.RowKit Pl Aw
open Aw.U
namespace Aw
def Ez(l:QR)(j:Nat)(a:j<l.length):l.getD j ed0=l[j]:=by
 grind
def Md(a b:QR):eds (a++b)=eds a++eds b:=by grind
def ZN(l:QR)(k:Nat):(eds l).take (k*3)=eds (l.take k):=by
 induction l generalizing k with
 |nil=>grind
 |cons x l a=>
  cases k with
  |zero=>grind
  |succ k=>
   grind
def D6(l:QR)(k:Nat):(eds l).drop (k*3)=eds (l.drop k):=by
 induction l generalizing k with
 |nil=>grind
 |cons x l a=>
  cases k with
  |zero=>grind
  |succ k=>
   grind
theorem kK(l:QR)(k:Nat)(x:Ed)(c:k<l.length):(eds l).take (k*3)++(u x.id::u x.a::u x.b::(eds l).drop (k*3+3))=eds (l.set k x):=by rw[show k*3+3=(k+1)*3 by omega,ZN,D6,uk,ac c,Md];rfl
end Aw
namespace Aw.U
abbrev EN{a:Type}(_:List a):Type:=a
structure Nu where
 id:Int
def ed0:Nu:=⟨0⟩
def eds(l:List Nu):QQ:=us (l.map Nu.id)
def Ez(l:List Nu)(j:Nat)(a:j<l.length):l.getD j ed0=l[j]:=by
 grind
def aL(l:List Nu):(eds l).length=l.length:=by unfold eds;grind
def aP(l:List Nu)(k:Nat)(a:k<l.length):(eds l).drop k=u (l.getD k ed0).id::eds (l.drop (k+1)):=by unfold eds us;rw[<- sn,<- sn,jm a,Ez l k a];rfl
theorem kK(l:List Nu)(k:Nat)(x:Nu)(a:k<l.length):(eds l).take k++(u x.id::(eds l).drop (k+1))=eds (l.set k x):=by
 unfold eds
 grind [GM,List.map_set]
@[simp] abbrev lx(l:List Nu):cT:=.box 34 1 (eds l)
end Aw.U
namespace Aw
@[simp] abbrev lx(l:QR):cT:=.box 36 3 (eds l)
def be(a:St)(q:Nat)(c:QR):St:=a.set q (.box 36 3 (eds c))
end Aw
namespace Aw.U
def be(a:St)(q:Nat)(c:List Nu):St:=a.set q (.box 34 1 (eds c))
end Aw.U
namespace Aw
@[simp] theorem XZ(a:St)(q:Nat)(c:QR):(be a q c).z=a.z:=rfl
@[simp] theorem Yq(a:St)(q:Nat)(c:QR):(be a q c).H q=.box 36 3 (eds c):=by simp[be]
theorem UL(a:St)(q l:Nat)(c:QR)(h:l≠q):(be a q c).H l=a.H l:=by simp[be,h]
end Aw
namespace Aw.U
@[simp] theorem XZ(a:St)(q:Nat)(c:List Nu):(be a q c).z=a.z:=rfl
@[simp] theorem Yq(a:St)(q:Nat)(c:List Nu):(be a q c).H q=.box 34 1 (eds c):=by simp[be]
theorem UL(a:St)(q l:Nat)(c:List Nu)(h:l≠q):(be a q c).H l=a.H l:=by simp[be,h]
end Aw.U
namespace Aw
def Cp(a:St)(q:Nat)(c d:QR):be (be a q c) q d=be a q d:=by grind [be,St.set_set]
end Aw
namespace Aw.U
def Cp(a:St)(q:Nat)(c d:List Nu):be (be a q c) q d=be a q d:=by grind [be,St.set_set]
end Aw.U
namespace Aw
def Gj{a:St}{q:Nat}{c:QR}(h:a.H q=.box 36 3 (eds c)):be a q c=a:=St.ext' rfl fun y=>by
 grind [Yq,UL]
end Aw
namespace Aw.U
def Gj{a:St}{q:Nat}{c:List Nu}(h:a.H q=.box 34 1 (eds c)):be a q c=a:=St.ext' rfl fun y=>by
 grind [Yq,UL]
end Aw.U
namespace Aw
def Mu(d:St)(q:Nat)(c:QR)(k:Nat)(x:Ed)(e:k<c.length):(be d q c).set q (.box 36 3 ((eds c).take (k*3)++(u x.id::u x.a::u x.b::(eds c).drop (k*3+3))))=be d q (c.set k x):=by
 grind [kK,be,St.set_set]
end Aw
namespace Aw.U
def Mu(a:St)(q:Nat)(c:List Nu)(k:Nat)(x:Nu)(b:k<c.length):(be a q c).set q (.box 34 1 ((eds c).take k++(u x.id::(eds c).drop (k+1))))=be a q (c.set k x):=by
 grind [kK,be,St.set_set]
end Aw.U
namespace Aw
def NC(a:St)(q:Nat)(c d:QR):(be a q c).set q (.box 36 3 (eds d))=be a q d:=by grind [be,St.set_set]
end Aw
namespace Aw.U
def NC(a:St)(q:Nat)(c d:List Nu):(be a q c).set q (.box 34 1 (eds d))=be a q d:=by grind [be,St.set_set]
end Aw.U
namespace Aw
def swR(c:QR)(a b:Nat):Nat->QR
 |0=>c
 |n+1=>swR ((c.set a (c.getD b ed0)).set b (c.getD a ed0)) (a+1) (b+1) n
end Aw
namespace Aw.U
def swR(c:List Nu)(a b:Nat):Nat->List Nu
 |0=>c
 |n+1=>swR ((c.set a (c.getD b ed0)).set b (c.getD a ed0)) (a+1) (b+1) n
end Aw.U
namespace Aw
def BP{a:Type}(U:List a)(x y:a)(W:List a):(U++x::W).set U.length y=U++y::W:=by
 grind
def tP(U:QR)(x:Ed)(W:QR):(U++x::W).getD U.length ed0=x:=by
 grind
end Aw
namespace Aw.U
def tP(U:List Nu)(x:Nu)(W:List Nu):(U++x::W).getD U.length ed0=x:=by
 grind
end Aw.U
namespace Aw
theorem kD:∀(n:Nat) (U A M B V:QR),A.length=n->B.length=n->swR (U++A++M++B++V) U.length (U.length+n+M.length) n=U++B++M++A++V
 |0,U,A,M,B,V,hA,hB=>by rw[jc hA,jc hB];rfl
 |n+1,U,x::A,M,y::B,V,hA,hB=>by
  simp only[List.length_cons,AI]at hA hB;rw[swR];have a:U++x::A++M++y::B++V=U++x::(A++M++y::B++V):=Y;have c:U++x::(A++M++y::B++V)=(U++x::A++M)++y::(B++V):=Y;have h:U.length+(n+1)+M.length=(U++x::A++M).length:=by simp[hA];omega
  have f:(U++x::A++M++y::B++V).getD U.length ed0=x:=by rw[a,tP]
  have g:(U++x::A++M++y::B++V).getD (U.length+(n+1)+M.length) ed0=y:=by rw[a,c,h,tP]
  rw[f,g,a,BP];have d:U++y::(A++M++y::B++V)=(U++y::A++M)++y::(B++V):=Y;have b:U.length+(n+1)+M.length=(U++y::A++M).length:=by simp[hA];omega
  rw[d,b,BP,<- b];have e:U++y::A++M++x::(B++V)=(U++[y])++A++(M++[x])++B++V:=Y;have j:U.length+(n+1)+M.length+1=(U++[y]).length+n+(M++[x]).length:=by simp;omega
  have k:U.length+1=(U++[y]).length:=Y;rw[e,j,k,kD n (U++[y]) A (M++[x]) B V hA hB];simp
end Aw
namespace Aw.U
theorem kD:∀(n:Nat) (U A M B V:List Nu),A.length=n->B.length=n->swR (U++A++M++B++V) U.length (U.length+n+M.length) n=U++B++M++A++V
 |0,U,A,M,B,V,hA,hB=>by rw[jc hA,jc hB];rfl
 |n+1,U,x::A,M,y::B,V,hA,hB=>by
  simp only[List.length_cons,AI]at hA hB;rw[swR];have a:U++x::A++M++y::B++V=U++x::(A++M++y::B++V):=Y;have c:U++x::(A++M++y::B++V)=(U++x::A++M)++y::(B++V):=Y;have h:U.length+(n+1)+M.length=(U++x::A++M).length:=by simp[hA];omega
  have f:(U++x::A++M++y::B++V).getD U.length ed0=x:=by rw[a,tP]
  have g:(U++x::A++M++y::B++V).getD (U.length+(n+1)+M.length) ed0=y:=by rw[a,c,h,tP]
  rw[f,g,a,BP];have d:U++y::(A++M++y::B++V)=(U++y::A++M)++y::(B++V):=Y;have b:U.length+(n+1)+M.length=(U++y::A++M).length:=by simp[hA];omega
  rw[d,b,BP,<- b];have e:U++y::A++M++x::(B++V)=(U++[y])++A++(M++[x])++B++V:=Y;have j:U.length+(n+1)+M.length+1=(U++[y]).length+n+(M++[x]).length:=by simp;omega
  have k:U.length+1=(U++[y]).length:=Y;rw[e,j,k,kD n (U++[y]) A (M++[x]) B V hA hB];simp
end Aw.U
namespace Aw
def AV(n:Int)(a : -9223372036854775808<=n)(b:n<=9223372036854775807):IntKind.i64.wrap n=n:=by
 grind [IntKind.wrap,IntKind.signed,IntKind.bits]
end Aw
def yQ:(∀(c:QR) (q a b n:Nat) (F:Fn) (Kz:QQ) (e:St) (N:c.length<=100000) (P:a+n<=b) (M:b+n<=c.length) (E:e.H q=.box 36 3 (eds c)),
 aD prog 207 [.ms q 0 c.length,i a,i b,i n,.fn F Kz] e fun r j=>j=be e q (swR c a b n))/\(∀(c:List Nu) (q a b n:Nat) (F:Fn) (Kz:QQ) (e:St) (N:c.length<=100000) (P:a+n<=b) (M:b+n<=c.length) (E:e.H q=.box 34 1 (eds c)),
 aD prog 206 [.ms q 0 c.length,i a,i b,i n,.fn F Kz] e fun r j=>j=be e q (swR c a b n)):=by
 refine⟨?_,?_⟩
 all_goals
  intro c q a b n F Kz e N P M E
  first|(have _:QR:=c;refine zN func207 ntmps207 [] ?_)|refine zN func206 ntmps206 [] ?_
  refine bz ?_;refine qL (fun z l v=>∃(k:Nat) (d:List (EN c)),k<=n/\z=n-k/\l 0=.ms q 0 c.length/\l 1=i a/\l 2=i b/\l 3=i n/\l 10=i k/\v=be e q d/\d.length=c.length/\swR d (a+k) (b+k) (n-k)=swR c a b n) n ?_ ?_
  .exact⟨0,c,O,O,Y,Y,Y,Y,Y,(Gj E).symm,rfl,rfl⟩
  rintro z l v ⟨k,d,hk,rfl,w,A,B,C,f,rfl,o,g⟩ JJ m;by_cases dS:k<n;rotate_left
  .clear m;obtain rfl:k=n:=O;rw[Nat.sub_self]at g;refine cm C f ?_;simp;rw[<- g];rfl
  have hw:=AV ((k:Int)+1) O O;have wa:IntKind.i64.wrap ((a:Int)+k)=((a+k:Nat):Int):=zW;have wb:IntKind.i64.wrap ((b:Int)+k)=((b+k:Nat):Int):=zW;have I:=aL d;have Q:=aP d (a+k) O;have R:=aP d (b+k) O;have K:swR ((d.set (a+k) (d.getD (b+k) ed0)).set (b+k) (d.getD (a+k) ed0)) (a+(k+1)) (b+(k+1)) (n-(k+1))=swR c a b n:=by
   (first|rw[<- g,show n-k=(n-(k+1))+1 by omega,Aw.swR]|rw[<- g,show n-k=(n-(k+1))+1 by omega,Aw.U.swR]);rfl
  have s1:=fun x=>Mu e q d (a+k) x O;have s2:=fun x y=>Mu e q (d.set (a+k) y) (b+k) x (by grind);generalize ha:a+k=h at *;generalize hbk:b+k=s at *;have Tv:¬h=s:=O;generalize hxe:d.getD h ed0=x at *;generalize hye:d.getD s ed0=y at *;have T:h*3+3<=d.length*3:=O;have S:h+1<=d.length:=O;have V:s+1<=d.length:=O;have W:s*3+3<=d.length*3:=O;have D:h<d.length:=O;have X:s<d.length:=O;have s1':=s1 y;have t:=s2 x y;have p:=aL (d.set h y);rw[rp]at p;refine ls w A B C f dS ?_
  (refine zS [] [q] [0,2,4,6,8,10,12,14,16,18,20,22,24,26,28,30,32,34,36,38,40,43,44,47] ?_;intro J hJ;simp[w,A,B,f,wa,wb,o,Q,R,I];(repeat refine ca ?_);refine zJ hJ ?_)
  have L:=kK d h y D
  (first|rw[L,Aw.NC,t]|rw[L,Aw.U.NC,t])
  refine cm f hw ?_;exact m (n-(k+1)) _ _ O ⟨k+1,_,O,rfl,Z w,Z A,Z B,Z C,Y,rfl,Z o,K⟩
def Aw.uZ:=yQ.1
def Aw.U.uZ:=yQ.2
def Fl:(∀(P X a S:QR) (q:Nat) (F:Fn) (Kz:QQ) (g:St) (D:X≠[]) (E:a≠[]) (hl:(P++X++a++S).length<=100000) (Q:g.H q=.box 36 3 (eds (P++X++a++S))),
 aD prog 189 [.ms q 0 (P++X++a++S).length,i P.length,i (P.length+X.length:Nat),i (P.length+X.length+a.length:Nat),.fn F Kz] g fun r n=>n=be g q (P++a++X++S))/\(∀(P X a S:List Nu) (q:Nat) (F:Fn) (Kz:QQ) (g:St) (D:X≠[]) (E:a≠[]) (hl:(P++X++a++S).length<=100000) (Q:g.H q=.box 34 1 (eds (P++X++a++S))),
 aD prog 188 [.ms q 0 (P++X++a++S).length,i P.length,i (P.length+X.length:Nat),i (P.length+X.length+a.length:Nat),.fn F Kz] g fun r n=>n=be g q (P++a++X++S)):=by
 refine⟨?_,?_⟩
 all_goals
  intro P X a S q F Kz g D E hl Q;generalize hL:(P++X++a++S).length=L at *;have hLl:L=P.length+X.length+a.length+S.length:=by rw[<- hL];simp only[cb]
  generalize hm:P.length+X.length=m at *;have hX0:0<X.length:=jg.2 D;have hY0:0<a.length:=jg.2 E
  first|(have _:QR:=P;refine zN func189 ntmps189 [] ?_)|refine zN func188 ntmps188 [] ?_
  have w1:IntKind.i64.wrap ((m:Int)-P.length)=(X.length:Int):=zW;have w2:IntKind.i64.wrap ((m:Int)+a.length-m)=(a.length:Int):=zW;refine cm w1 w2 ?_;refine qL (fun z s y=>∃ U A B V:List (EN P),z=A.length+B.length/\(A≠[]/\B≠[])/\U.length+A.length=m/\U++B++A++V=P++a++X++S/\(U++A++B++V).length=L/\y=be g q (U++A++B++V)/\s 0=.ms q 0 L/\s 2=i m/\s 4=.fn F Kz/\s 10=i A.length/\s 11=i B.length) (X.length+a.length) ?_ ?_
  .exact⟨P,X,a,S,rfl,⟨D,E⟩,hm,rfl,hL,(Gj Q).symm,Y,Y,Y,Y,Y⟩
  rintro z s y ⟨U,A,B,V,rfl,⟨hA,hB⟩,hUm,htg,r8,rfl,f0,f2,f4,f10,f11⟩ JJ hJJ;have hA0:0<A.length:=jg.2 hA;have hB0:0<B.length:=jg.2 hB;have hcl':L=U.length+A.length+B.length+V.length:=by rw[<- r8];simp only[cb]
  have o:IntKind.i64.wrap ((m:Int)-A.length)=(U.length:Int):=zW;by_cases d:A.length=B.length
  .clear hJJ;have b:=uZ (U++A++B++V) q U.length m A.length F Kz (be g q (U++A++B++V)) O O O Y;have c:=kD A.length U A [] B V rfl d.symm;simp only[List.length_nil,Nat.add_zero,dT]at c
   (first|rw[r8,<- hUm,c,hUm,Aw.Cp,htg]at b|rw[r8,<- hUm,c,hUm,Aw.U.Cp,htg]at b)
   generalize U++A++B++V=T at *;generalize P++a++X++S=W at *;have p:=o;rw[d]at p
   (repeat' (first|apply qS|refine qX (zZ ?_)|(apply qC;simp[f0,f2,f4,f10,f11,d,o,p])|(refine zE ?_;intro J j;simp[f0,f2,f4,f10,f11,d,o,p];(try refine zJ j ?_))))
   refine qE b (by simp_all) ?_;rintro r s3 rfl
   (repeat' (apply cP;simp[];refine zJ j ?_))
   simp
  .have f:¬(A.length:Int)=B.length:=O;by_cases k:B.length<A.length
   .have w:(A.take B.length).length=B.length:=by simp;omega
    have M:A.take B.length++A.drop B.length=A:=gw _ _;have hA2:(A.drop B.length).length=A.length-B.length:=Y;generalize A.take B.length=t at *;generalize A.drop B.length=l at *;have b:=uZ (U++A++B++V) q U.length m B.length F Kz (be g q (U++A++B++V)) O O O Y;have c:=kD B.length U t l B V w rfl;have I:U++t++l++B++V=U++A++B++V:=by rw[<- M];simp
    have K:U.length+B.length+l.length=m:=O;rw[I,K]at c
    (first|rw[r8,c,Aw.Cp]at b|rw[r8,c,Aw.U.Cp]at b)
    have e:(B.length:Int)<A.length:=O;have C:IntKind.i64.wrap ((A.length:Int)-B.length)=(l.length:Int):=zW;generalize U++A++B++V=T at *;generalize R:U++B++l++t++V=W at b
    (repeat' (first|apply qS|apply qB|refine qK (zZ ?_)|(apply qC;simp[f0,f2,f4,f10,f11,f,e,d,k,o,C])|(refine zE ?_;intro J j;simp[f0,f2,f4,f10,f11,f,e,d,k,o,C];(try refine zJ j ?_))))
    refine qE b Y ?_;rintro r s3 rfl
    (repeat' ((first|(refine zE ?_;intro J j)|(apply cP));simp[f10,f11,C];refine zJ j ?_))
    refine hJJ (l.length+t.length) _ _ O ⟨U++B,l,t,V,rfl,⟨?_,?_⟩,by grind,?_,?_,by grind,Z f0,Z f2,Z f4,Y,ek f11 w⟩
    .grind
    .grind
    .grind
    grind [List.length_append]
   .have hB1:(B.take (B.length-A.length)).length=B.length-A.length:=Y;have N:B.take (B.length-A.length)++B.drop (B.length-A.length)=B:=gw _ _;have x:(B.drop (B.length-A.length)).length=A.length:=by simp;omega
    generalize B.take (B.length-A.length)=h at *;generalize B.drop (B.length-A.length)=v at *;have b:=uZ (U++A++B++V) q U.length (m+h.length) A.length F Kz (be g q (U++A++B++V)) O O O Y;have c:=kD A.length U A h v V rfl x;have I:U++A++h++v++V=U++A++B++V:=by rw[<- N];simp
    have K:U.length+A.length+h.length=m+h.length:=O;rw[I,K]at c
    (first|rw[r8,c,Aw.Cp]at b|rw[r8,c,Aw.U.Cp]at b)
    have e:¬(B.length:Int)<A.length:=O;have C:IntKind.i64.wrap ((B.length:Int)-A.length)=(h.length:Int):=zW;have wc:IntKind.i64.wrap ((m:Int)+B.length)=(m:Int)+B.length:=zW;have wd:IntKind.i64.wrap ((m:Int)+B.length-A.length)=((m+h.length:Nat):Int):=zW;generalize U++A++B++V=T at *;generalize R:U++v++h++A++V=W at b
    (repeat' (first|apply qS|apply qB|refine qK (zZ ?_)|(apply qC;simp[f0,f2,f4,f10,f11,f,e,d,k,o,wc,wd])|(refine zE ?_;intro J j;simp[f0,f2,f4,f10,f11,f,e,d,k,o,wc,wd];(try refine zJ j ?_))))
    refine qE b Y ?_;rintro r s3 rfl
    (repeat' ((first|(refine zE ?_;intro J j)|(apply cP));simp[f10,f11,C];refine zJ j ?_))
    refine hJJ (v.length+h.length) _ _ O ⟨U,v,h,A++V,rfl,⟨?_,?_⟩,O,?_,?_,by grind,Z f0,Z f2,Z f4,ek f10 x,Y⟩
    .grind
    .grind
    .grind
    .simp only[cb];omega
def Aw.Ry:=Fl.1
def Aw.U.Ry:=Fl.2
open Go Go.RowKit Pl Aw
open Aw.U
namespace Aw
def wJ(x y:Ed):Int:=if x.id<y.id then -1 else if y.id<x.id then 1 else 0
end Aw
namespace Aw.U
def wJ(x y:Nu):Int:=if x.id<y.id then -1 else if y.id<x.id then 1 else 0
end Aw.U
def Am:(∀(x y:Ed),
 decide (wJ x y<0)=decide (x.id<y.id))/\(∀(x y:Nu),
 decide (wJ x y<0)=decide (x.id<y.id)):=by
 grind [Aw.wJ,Aw.U.wJ]
def Aw.tO:=Am.1
def Aw.U.tO:=Am.2
namespace Aw
structure jD(x8:FuncId)(Kz:QQ)(q:Nat)(Pc:St->Prop):Prop where
 keep:∀ st st',Pc st->bU q st st'->Pc st'
 call:∀ st x y,Pc st->aD prog x8 ([.ag (dv x),.ag (dv y)]++Kz) st fun r st'=>r=i (wJ x y)/\aC st st'
end Aw
namespace Aw.U
structure jD(x8:FuncId)(Kz:QQ)(q:Nat)(Pc:St->Prop):Prop where
 keep:∀ st st',Pc st->bU q st st'->Pc st'
 call:∀ st x y,Pc st->aD prog x8 ([u x.id,u y.id]++Kz) st fun r st'=>r=i (wJ x y)/\aC st st'
end Aw.U
namespace Aw
def Ris(l:QR):Prop:=l.Pairwise fun x y=>x.id<=y.id
end Aw
namespace Aw.U
def Ris(l:List Nu):Prop:=l.Pairwise fun x y=>x.id<=y.id
end Aw.U
namespace Aw
end Aw
namespace Aw.U
end Aw.U
namespace Aw
def GW(U:QR)(x:Ed)(W:QR){j:Nat}(a:j=U.length):(U++x::W).getD j ed0=x:=by grind
end Aw
namespace Aw.U
def GW(U:List Nu)(x:Nu)(W:List Nu){j:Nat}(a:j=U.length):(U++x::W).getD j ed0=x:=by grind
end Aw.U
namespace Aw
def Qc{a:Type}(U:List a)(x y:a)(W:List a){j:Nat}(b:j=U.length):(U++x::W).set j y=U++y::W:=by simp_all
def Zl(P X S:QR)(q:Nat)(c:St)(r:LV)(b:St):Prop:=∃ a,a.Perm X/\Ris a/\b.H q=.box 36 3 (eds (P++a++S))/\bU q c b
end Aw
namespace Aw.U
def Zl(P X S:List Nu)(q:Nat)(c:St)(r:LV)(b:St):Prop:=∃ a,a.Perm X/\Ris a/\b.H q=.box 34 1 (eds (P++a++S))/\bU q c b
end Aw.U
def Co:(∀ ⦃A B:QR⦄ ⦃x:Ed⦄ (h:Ris (A++B)) (a:∀ y∈A,y.id<=x.id) (b:∀ y∈B,x.id<=y.id),
 Ris (A++x::B))/\(∀ ⦃A B:List Nu⦄ ⦃x:Nu⦄ (h:Ris (A++B)) (a:∀ y∈A,y.id<=x.id) (b:∀ y∈B,x.id<=y.id),
 Ris (A++x::B)):=by
 grind [Aw.Ris,List.pairwise_cons,Aw.U.Ris]
def Aw.HH:=Co.1
def Aw.U.HH:=Co.2
def Ai:(∀ ⦃A:QR⦄ ⦃y:Ed⦄ (h:Ris (A++[y])),
 ∀ a∈A,a.id<=y.id)/\(∀ ⦃A:List Nu⦄ ⦃y:Nu⦄ (h:Ris (A++[y])),
 ∀ a∈A,a.id<=y.id):=by
 refine⟨?_,?_⟩
 all_goals
  intro A y h
  (first|unfold Aw.Ris at h|unfold Aw.U.Ris at h)
  rw[oo]at h;simp_all
def Aw.KV:=Ai.1
def Aw.U.KV:=Ai.2
def Dc:(∀(P X S:QR) (q:Nat) (Q:FuncId) (Kz:QQ) (Pc:St->Prop) (l:St) (m:Aw.jD Q Kz q Pc) (hPc:Pc l) (hq:q<l.z) (hl:(P++X++S).length<=100000) (hH:l.H q=.box 36 3 (eds (P++X++S))),
 aD prog 161 [.ms q 0 (P++X++S).length,i P.length,i (P.length+X.length:Nat),.fn (.func Q) Kz] l (Zl P X S q l))/\(∀(P X S:List Nu) (q:Nat) (Q:FuncId) (Kz:QQ) (Pc:St->Prop) (l:St) (m:Aw.U.jD Q Kz q Pc) (hPc:Pc l) (hq:q<l.z) (hl:(P++X++S).length<=100000) (hH:l.H q=.box 34 1 (eds (P++X++S))),
 aD prog 159 [.ms q 0 (P++X++S).length,i P.length,i (P.length+X.length:Nat),.fn (.func Q) Kz] l (Zl P X S q l)):=by
 refine⟨?_,?_⟩
 all_goals
  intro P X S q Q Kz Pc l m hPc hq hl hH;generalize hL:(P++X++S).length=L at *;have hLl:L=P.length+X.length+S.length:=by rw[<- hL];simp only[cb]
  generalize hp:P.length=p at *;have wp:IntKind.i64.wrap ((p:Int)+1)=((p+1:Nat):Int):=zW
  first|(have _:QR:=P;refine zN func161 ntmps161 [] ?_)|refine zN func159 ntmps159 [] ?_
  refine df wp ?_;refine qL (fun z f M=>∃ a b:List (EN P),b.length<=z/\f 0=.ms q 0 L/\f 1=i p/\f 2=i (p+X.length:Nat)/\f 3=.fn (.func Q) Kz/\(X=[]/\a=[]/\f 8=i (p+1:Nat)\/a≠[]/\f 8=i (p+a.length:Nat))/\(a++b).Perm X/\Ris a/\M.H q=lx (P++a++b++S)/\bU q l M) X.length ?_ ?_
  .cases X with
   |nil=>exact⟨[],[],Y,Y,Y,Y,Y,.inl ⟨rfl,rfl,Y⟩,.refl _,.nil,by grind,bU.refl _ _⟩
   |cons x X => 
    refine⟨[x],X,Y,Y,Y,Y,Y,.inr ⟨Y,Y⟩,.refl _,wq _ _,?_,bU.refl _ _⟩
    grind
  rintro z f M ⟨a,b,hz,F,R,D,T,f8,u6,d,t,n9⟩ JJ hJJ;have w:=u6.length_eq;simp only[cb]at w;cases b with
  |nil=>
   clear hJJ;simp only[List.length_nil,Nat.add_zero]at w;rw[dT]at u6 t;have hex:∃ e:Nat,f 8=i e/\¬((e:Int)<(p+X.length:Nat)):=by
    rcases f8 with⟨V,K,h3⟩|⟨V,K⟩
    .exact⟨p+1,h3,by grind⟩
    .grind
   obtain⟨e,I,he⟩:=hex
   (repeat' (first|apply qS|refine qX (zZ ?_)|(apply qC;simp[D,I,he];(try with_reducible refine⟨?_,?_⟩)<;>(try with_reducible intro hc)<;>try (exfalso;omega))|(refine zE ?_;intro J E;simp[D,I,he];refine zJ E ?_)))
   simp;exact⟨a,u6,d,t,n9⟩
  |cons x b=>
  have hYne:a≠[]/\f 8=i (p+a.length:Nat):=by
   rcases f8 with⟨V,K,h3⟩|h
   .grind
   .exact h
  obtain⟨hYn,I⟩:=hYne;clear f8;have hY0:=jg.2 hYn;simp only[List.length_cons]at w hz;have dS:(((p+a.length:Nat):Int))<((p+X.length:Nat):Int):=O
  (repeat' (first|apply qS|apply qB|refine qK (zZ ?_)|(apply qC;simp[D,I,dS];(try with_reducible refine⟨?_,?_⟩)<;>(try with_reducible intro hc)<;>try (exfalso;omega))|(refine zE ?_;intro J E;simp[D,I,dS];refine zJ E ?_)))
  refine qL (fun z f C=>∃ A B:List (EN P),z=A.length/\A++B=a/\(∀ y∈B,x.id<=y.id)/\f 0=.ms q 0 L/\f 1=i p/\f 2=i (p+X.length:Nat)/\f 3=.fn (.func Q) Kz/\f 8=i (p+a.length:Nat)/\f 9=i (p+A.length:Nat)/\C.H q=lx (P++A++x::(B++b++S))/\bU q l C) a.length ?_ ?_
  .exact⟨a,[],rfl,Y,Y,Z F,Z R,Z D,Z T,Z I,Y,by grind,n9⟩
  clear F R D T I t n9 f M;rintro z' f C ⟨A,B,rfl,rfl,hxB,F,R,D,T,f8,f9,t,n9⟩ J2 hJ2;have hP3:=m.keep _ _ hPc n9;have x9:(∀ y∈A,y.id<=x.id)->Ris (A++x::B):=fun V=>HH d V hxB;have hpm2:((A++x::B)++b).Perm X:=by refine List.Perm.trans ?_ u6;rw[dw,dw];refine se A ?_;rw[List.cons_append];exact mw.symm
  have hAB:(A++x::B).length=(A++B).length+1:=by simp;omega
  simp only[cb]at w hY0;have w8:IntKind.i64.wrap (((p+(A++B).length:Nat):Int)+1)=((p+(A++x::B).length:Nat):Int):=by rw[hAB,AV _ O O];omega
  have k:∀ c8 N,(c8 0=.ms q 0 L/\c8 1=i p/\c8 2=i (p+X.length:Nat)/\c8 3=.fn (.func Q) Kz/\c8 8=i (p+(A++x::B).length:Nat))->(∀ y∈A,y.id<=x.id)->N.H q=lx (P++A++x::(B++b++S))->bU q l N->JJ c8 N:=by rintro c8 N ⟨g0,g1,g2,g3,I⟩ V K h3;refine hJJ b.length _ _ O ⟨A++x::B,b,au _,g0,g1,g2,g3,.inr ⟨Y,I⟩,hpm2,x9 V,?_,h3⟩;rw[K];simp
  have hrisA:Ris A:=by
   (first|unfold Aw.Ris at d ⊢|unfold Aw.U.Ris at d ⊢)
   exact(oo.1 d).1
  clear hJJ x9 hpm2 u6 d hAB;generalize (A++B).length=eo at *;generalize (A++x::B).length=laxb at *;have w8':IntKind.i64.wrap ((p:Int)+eo+1)=(p:Int)+laxb:=by have h:=w8;rw[Int.natCast_add,Int.natCast_add]at h;exact h
  rcases uu A with rfl|⟨W,y,hWy⟩
  .simp only[List.length_nil,Nat.add_zero]at f9;refine bz ?_
   (refine zS [] [q] [0,2,4,6,8,10,12,14,16,18,20,22,24,26,29,30,32] ?_;intro J E;simp[F,R,T,f9];refine zJ E ?_)
   refine cm f8 w8' ?_;exact k _ _ ⟨Z F,Z R,Z D,Z T,Y⟩ Y t n9
  rw[uv]at hWy;subst hWy;have hWl:(W++[y]).length=W.length+1:=Y;rw[hWl,<- Nat.add_assoc]at f9;have hce:P++(W++[y])++x::(B++b++S)=(P++W)++y::x::(B++b++S):=Y;have hUl:(P++W).length=p+W.length:=by simp[hp]
  have r8:((P++W)++y::x::(B++b++S)).length=L:=by simp only[cb,List.length_cons,List.length_nil,hp]at w hz ⊢;omega
  rw[hce]at t k;have g1:=GW (P++W) y (x::(B++b++S)) (j:=p+W.length) hUl.symm;have g2:((P++W)++y::x::(B++b++S)).getD (p+W.length+1) ed0=x:=by rw[show(P++W)++y::x::(B++b++S)=(P++W++[y])++x::(B++b++S) by simp];exact GW _ _ _ (by grind)
  have s1:(((P++W)++y::x::(B++b++S)).set (p+W.length+1) y).set (p+W.length) x=P++W++x::(y::B++b++S):=by rw[show(P++W)++y::x::(B++b++S)=(P++W++[y])++x::(B++b++S) by simp,Qc _ _ _ _ (by grind)];rw[show(P++W++[y])++y::(B++b++S)=(P++W)++y::(y::(B++b++S)) by simp,Qc _ _ _ _ hUl.symm];simp
  have hstep:x.id<y.id->∀ y'∈y::B,x.id<=y'.id:=fun V y' hy'=>by
   rcases ai.1 hy' with rfl|K
   .omega
   grind
  have hstop:¬x.id<y.id->∀ y'∈W++[y],y'.id<=x.id:=fun V y' hy'=>by
   rcases am.1 hy' with K|K
   .have:=KV (hrisA) y' K;omega
   .rw[bi]at K;grind
  generalize (P++W)++y::x::(B++b++S)=c at *;generalize hjx:p+W.length=s at *;have hel:=aL c;have da:=aP c (s+1) O;have db:=aP c s O;rw[g2]at da;rw[g1]at db;have wj:IntKind.i64.wrap (((s+1:Nat):Int)-1)=(s:Int):=zW;have hgt:(p:Int)<(s:Int)+1:=O;have hcm:=m.call C x y hP3;have o:=tO x y;generalize wJ x y=cv at *;have wj':IntKind.i64.wrap (s:Int)=(s:Int):=AV _ O O;have hA4:s+1<L:=O;have hB4:s<L:=O;refine bz ?_
  (refine zS [] [q] [0,2,4,6,8,10,12,14,16,18,20,22,24,26,29,30,32] ?_;intro J E;simp[F,R,T,f9,hgt,t,da,db,hel,r8,wj'];(repeat refine ca ?_))
  refine aS hcm ?_;rintro r s4 ⟨rfl,hk4⟩;have hq3:q<C.z:=by have:=n9.1;omega
  have g:=(hk4.H q hq3).trans t;have v:=n9.keeps hk4;refine⟨fun _=>by simp[g,t],?_⟩;by_cases n:x.id<y.id
  .have hcv:cv<0:=by rw[mc n]at o;exact ov o
   (apply bM;simp[hcv,g,t];refine zJ E ?_)
   refine bz ?_
   (refine zS [] [q] [0,2,4,6,8,10,12,14,16,18,20,22,24,26,28,31,32,35] ?_;intro J E;simp[F,f9,g,da,db,hel,r8,wj'];(repeat refine ca ?_);refine zJ E ?_)
   have e1:=kK c (s+1) y O;have e2:=kK (c.set (s+1) y) s x (by simp;omega);rw[e1,e2,s1,St.set_set];refine cm f9 wj' ?_;refine hJ2 W.length _ _ Y ⟨W,y::B,rfl,Y,hstep n,Z F,Z R,Z D,Z T,Z f8,Z hjx,?_,v.set _⟩;simp
  .have hcv:¬cv<0:=by rw[ny n]at o;exact sy o
   (apply bM;simp[hcv,g,t];refine zJ E ?_)
   refine cm f8 w8' ?_;exact k _ _ ⟨Z F,Z R,Z D,Z T,Y⟩ (hstop n) g v
def Aw.Nf:=Dc.1
def Aw.U.Nf:=Dc.2
open Go Go.RowKit Pl Aw
open Aw.U
def CB:(∀ ⦃l:QR⦄ (h:Ris l) ⦃j k:Nat⦄ (a:j<=k) (b:k<l.length),
 (l.getD j ed0).id<=(l.getD k ed0).id)/\(∀ ⦃l:List Nu⦄ (h:Ris l) ⦃j k:Nat⦄ (a:j<=k) (b:k<l.length),
 (l.getD j ed0).id<=(l.getD k ed0).id):=by
 refine⟨?_,?_⟩
 all_goals
  intro l h j k a b;rw[Ez _ _ b,Ez _ _ O];rcases ec j k with c|c
  .exact fD.1 h j k O b c
  grind
def Aw.kN:=CB.1
def Aw.U.kN:=CB.2
namespace Aw
structure Cut(A B:QR)(s e:Nat):Prop where
 hs:s<=A.length
 he:e<=B.length
 ab:s=0\/e=B.length\/(A.getD (s-1) ed0).id<=(B.getD e ed0).id
 ba:e=0\/s=A.length\/(B.getD (e-1) ed0).id<=(A.getD s ed0).id
end Aw
namespace Aw.U
structure Cut(A B:List Nu)(s e:Nat):Prop where
 hs:s<=A.length
 he:e<=B.length
 ab:s=0\/e=B.length\/(A.getD (s-1) ed0).id<=(B.getD e ed0).id
 ba:e=0\/s=A.length\/(B.getD (e-1) ed0).id<=(A.getD s ed0).id
end Aw.U
def Cut.leTwo:(∀ ⦃A B:QR⦄ (f:Ris A) (g:Ris B) ⦃s e:Nat⦄ (h:Cut A B s e),
 ∀ x∈A.take s++B.take e,∀ y∈A.drop s++B.drop e,x.id<=y.id)/\(∀ ⦃A B:List Nu⦄ (f:Ris A) (g:Ris B) ⦃s e:Nat⦄ (h:Cut A B s e),
 ∀ x∈A.take s++B.take e,∀ y∈A.drop s++B.drop e,x.id<=y.id):=by
 refine⟨?_,?_⟩
 all_goals
  intro A B f g s e h;intro x a y b;obtain⟨n,o,p,q⟩:=h;rw[am]at a b;rcases a with a|a<;>rcases b with b|b
  .obtain⟨j,c,rfl⟩:=er a;obtain⟨k,d,rfl⟩:=er b;simp only[dj,gy]at c d;rw[nu,pq];exact fD.1 f j (s+k) O O O
  .obtain⟨j,c,rfl⟩:=er a;obtain⟨k,d,rfl⟩:=er b;simp only[dj,gy]at c d;rw[nu,pq];have l:=kN f (j:=j) (k:=s-1) O O;have m:=kN g (j:=e) (k:=e+k) O O
   grind
  .obtain⟨j,c,rfl⟩:=er a;obtain⟨k,d,rfl⟩:=er b;simp only[dj,gy]at c d;rw[nu,pq];have l:=kN g (j:=j) (k:=e-1) O O;have m:=kN f (j:=s) (k:=s+k) O O
   grind
  .obtain⟨j,c,rfl⟩:=er a;obtain⟨k,d,rfl⟩:=er b;simp only[dj,gy]at c d;rw[nu,pq];exact fD.1 g j (e+k) O O O
def Aw.Cut.le:=Cut.leTwo.1
def Aw.U.Cut.le:=Cut.leTwo.2
def Cut.joinTwo:(∀ ⦃A B C D:QR⦄ (c:Ris A) (d:Ris B) ⦃s e:Nat⦄ (h:Cut A B s e) (a:C.Perm (A.take s++B.take e)) (b:D.Perm (A.drop s++B.drop e)) (f:Ris C) (g:Ris D),
 (C++D).Perm (A++B)/\Ris (C++D))/\(∀ ⦃A B C D:List Nu⦄ (c:Ris A) (d:Ris B) ⦃s e:Nat⦄ (h:Cut A B s e) (a:C.Perm (A.take s++B.take e)) (b:D.Perm (A.drop s++B.drop e)) (f:Ris C) (g:Ris D),
 (C++D).Perm (A++B)/\Ris (C++D)):=by
 refine⟨?_,?_⟩
 all_goals
  intro A B C D c d s e h a b f g;refine⟨?_,oo.2 ⟨f,g,fun x k y l=>h.le c d x (a.mem_iff.1 k) y (b.mem_iff.1 l)⟩⟩;refine(a.append b).trans ?_;have j:A++B=(A.take s++A.drop s)++(B.take e++B.drop e):=by rw[gw,gw]
  rw[j,dw,dw]
  grind [List.Perm.append_left,List.Perm.append_right,List.perm_append_comm]
def Aw.Cut.join:=Cut.joinTwo.1
def Aw.U.Cut.join:=Cut.joinTwo.2
open Go Go.RowKit Pl Aw
open Aw.U
namespace Aw
def GL(n h:Nat)(a:h=n / 2):Pr .u64 (n:Int) 1=(h:Int):=by
 show(n:Int).fdiv 2=(h:Int)
 grind
def BV(n:Nat)(a:n<=1000000):IntKind.u64.wrap (n:Int)=(n:Int):=by
 grind [IntKind.wrap,IntKind.bits]
end Aw
def Ny:(∀(U W:QR) (j:Nat),
 (U++W).getD (U.length+j) ed0=W.getD j ed0)/\(∀(U W:List Nu) (j:Nat),
 (U++W).getD (U.length+j) ed0=W.getD j ed0):=by
 grind
def Aw.Dx:=Ny.1
def Aw.U.Dx:=Ny.2
def ON:(∀(U W:QR) (j:Nat) (h:j<U.length),
 (U++W).getD j ed0=U.getD j ed0)/\(∀(U W:List Nu) (j:Nat) (h:j<U.length),
 (U++W).getD j ed0=U.getD j ed0):=by
 grind
def Aw.uA:=ON.1
def Aw.U.uA:=ON.2
namespace Aw
def MR(B:QR)(t:Nat)(h:t<B.length):B.drop t=B.getD t ed0::B.drop (t+1):=by simp_all
end Aw
namespace Aw.U
def MR(B:List Nu)(t:Nat)(h:t<B.length):B.drop t=B.getD t ed0::B.drop (t+1):=by simp_all
end Aw.U
namespace Aw
def Uf(B:QR)(t:Nat)(h:t<B.length):B.take (t+1)=B.take t++[B.getD t ed0]:=by simp_all
end Aw
namespace Aw.U
def Uf(B:List Nu)(t:Nat)(h:t<B.length):B.take (t+1)=B.take t++[B.getD t ed0]:=by simp_all
end Aw.U
namespace Aw
def IX(P A B S:QR)(q:Nat)(b:St)(r:LV)(a:St):Prop:=∃ C,C.Perm (A++B)/\Ris C/\a.H q=.box 36 3 (eds (P++C++S))/\bU q b a
end Aw
namespace Aw.U
def IX(P A B S:List Nu)(q:Nat)(b:St)(r:LV)(a:St):Prop:=∃ C,C.Perm (A++B)/\Ris C/\a.H q=.box 34 1 (eds (P++C++S))/\bU q b a
end Aw.U
def Cj:(∀ ⦃B:QR⦄ (c:Ris B) ⦃x:Ed⦄ ⦃k:Nat⦄ (d:k<=B.length) (a:∀ j,j<k->(B.getD j ed0).id<=x.id) (b:∀ j,k<=j->j<B.length->x.id<=(B.getD j ed0).id),
 Ris (B.take k++x::B.drop k))/\(∀ ⦃B:List Nu⦄ (c:Ris B) ⦃x:Nu⦄ ⦃k:Nat⦄ (d:k<=B.length) (a:∀ j,j<k->(B.getD j ed0).id<=x.id) (b:∀ j,k<=j->j<B.length->x.id<=(B.getD j ed0).id),
 Ris (B.take k++x::B.drop k)):=by
 refine⟨?_,?_⟩
 all_goals
  intro B c x k d a b;refine HH (by simp_all) (fun y e=>?_) fun y e=>?_
  .grind [List.getElem_of_mem]
  .obtain⟨j,f,rfl⟩:=er e;simp_all
def Aw.GF:=Cj.1
def Aw.U.GF:=Cj.2
def OZ:(∀(P:QR) (x:Ed) (B S:QR) (q L p m:Nat) (N:FuncId) (Kz:QQ) (X:St->Prop) (f:St) (l:Aw.jD N Kz q X) (R:X f) (hq:q<f.z) (hB:Ris B) (hL:(P++x::B++S).length=L) (hl:L<=100000) (hp:P.length=p) (hm:m=p+1) (hH:f.H q=.box 36 3 (eds (P++x::B++S))),
 aD prog 162 [.ms q 0 L,i p,i m,i (m+B.length:Nat),.fn (.func N) Kz] f (IX P [x] B S q f))/\(∀(P:List Nu) (x:Nu) (B S:List Nu) (q L p m:Nat) (N:FuncId) (Kz:QQ) (X:St->Prop) (f:St) (l:Aw.U.jD N Kz q X) (R:X f) (hq:q<f.z) (hB:Ris B) (hL:(P++x::B++S).length=L) (hl:L<=100000) (hp:P.length=p) (hm:m=p+1) (hH:f.H q=.box 34 1 (eds (P++x::B++S))),
 aD prog 160 [.ms q 0 L,i p,i m,i (m+B.length:Nat),.fn (.func N) Kz] f (IX P [x] B S q f)):=by
 refine⟨?_,?_⟩
 all_goals
  intro P x B S q L p m N Kz X f l R hq hB hL hl hp hm hH;have hLl:L=p+(B.length+1)+S.length:=by rw[<- hL,<- hp];simp only[cb,List.length_cons]
  have e1:IntKind.i64.wrap ((m:Int)-p)=1:=zW
  first|(have _:QR:=P;refine zN func162 ntmps162 [] ?_)|refine zN func160 ntmps160 [] ?_
  refine df e1 ?_;refine qL (fun z w d=>∃ k v:Nat,k<=v/\v<=B.length/\z=v-k/\w 0=.ms q 0 L/\w 1=i p/\w 4=.fn (.func N) Kz/\w 10=i (m+k:Nat)/\w 11=i (m+v:Nat)/\(∀ j,j<k->(B.getD j ed0).id<x.id)/\(∀ j,v<=j->j<B.length->x.id<=(B.getD j ed0).id)/\d.H q=lx (P++x::B++S)/\bU q f d) B.length ?_ ?_
  .exact⟨0,B.length,O,au _,rfl,Y,Y,Y,Y,Y,fun j h=>by omega,fun j h1 h2=>by omega,hH,bU.refl _ _⟩
  rintro z w d ⟨k,v,hkv,hvB,rfl,Q,f1,f4,b,K,h1,h2,F,M⟩ JJ e;have hP3:=l.keep _ _ R M;have hq2:q<d.z:=by have:=M.1;omega
  by_cases dS:k<v
  .obtain⟨s,hs⟩:∃ s:Nat,s=(m+k)+(m+v):=⟨_,rfl⟩;obtain⟨h,hh⟩:∃ h:Nat,m+h=s / 2:=⟨s / 2-m,O⟩;have wA:IntKind.i64.wrap ((m:Int)+k+(m+v))=(s:Int):=zW;have wB:=BV s O;obtain⟨E,hph⟩:∃ E:Nat,E=m+h:=⟨_,rfl⟩;have wC:=GL s E O;have wD:IntKind.i64.wrap (E:Int)=(E:Int):=zW;have wE:IntKind.i64.wrap ((E:Int)+1)=((m+(h+1):Nat):Int):=zW;have g1:(P++x::B++S).getD p ed0=x:=by rw[dw];exact GW _ _ _ hp.symm
   have g2:(P++x::B++S).getD E ed0=B.getD h ed0:=by
    (first|rw[show P++x::B++S=(P++[x])++(B++S) by simp,show E=(P++[x]).length+h by simp;omega,Aw.Dx,Aw.uA _ _ _ O]|rw[show P++x::B++S=(P++[x])++(B++S) by simp,show E=(P++[x]).length+h by grind,Aw.U.Dx,Aw.U.uA _ _ _ O])
   have hgo:(B.getD h ed0).id<x.id->∀ j,j<h+1->(B.getD j ed0).id<x.id:=fun h3 j hj=>by have:=kN hB (j:=j) (k:=h) O O;omega
   have hst:¬(B.getD h ed0).id<x.id->∀ j,h<=j->j<B.length->x.id<=(B.getD j ed0).id:=fun h3 j hj hj2=>by have:=kN hB (j:=h) (k:=j) hj hj2;omega
   have D:=aL (P++x::B++S);have da:=aP (P++x::B++S) p O;have db:=aP (P++x::B++S) E O;rw[g1]at da;rw[g2]at db;rw[hL]at D;have hfr:∀ I g,g.H q=d.H q->bU q f g->I 0=.ms q 0 L/\I 1=i p/\I 4=.fn (.func N) Kz->(((B.getD h ed0).id<x.id/\I 10=i (m+(h+1):Nat)/\I 11=i (m+v:Nat))\/(¬(B.getD h ed0).id<x.id/\I 10=i (m+k:Nat)/\I 11=i (m+h:Nat)))->JJ I g:=by
    rintro I g a k2 ⟨k3,k4,k5⟩ (⟨k6,k7,k8⟩|⟨k6,k7,k8⟩)
    .exact e (v-(h+1)) _ _ O ⟨h+1,v,O,hvB,rfl,k3,k4,k5,k7,k8,hgo k6,h2,a.trans F,k2⟩
    .exact e (h-k) _ _ O ⟨k,h,O,O,rfl,k3,k4,k5,k7,k8,h1,hst k6,a.trans F,k2⟩
   clear e hgo hst h1 h2;have hcm:=l.call d (B.getD h ed0) x hP3;have o:=tO (B.getD h ed0) x;generalize hy:B.getD h ed0=y at *;generalize hc:P++x::B++S=c at *;generalize wJ y x=cv at *;have hA4:E<L:=O;have hB4:p<L:=O;have hkv':(m:Int)+k<m+v:=O;refine mf b K hkv' dS wA wB wC wD ?_
   (refine zS [] [q] [0,2,4,6,8,10,12,14,16,19,20] ?_;intro J hJ;simp[Q,f1,f4,F,da,db,D];(repeat refine ca ?_))
   refine aS hcm ?_;rintro r s4 ⟨rfl,V⟩;have C:=V.H q hq2;refine⟨fun _=>by simp[C,F],?_⟩;by_cases n:y.id<x.id
   .have T:cv<0:=by rw[mc n]at o;exact ov o
    (apply bM;simp[T,C,F];refine zJ hJ ?_)
    refine df wE ?_;exact hfr _ _ C (M.keeps V) ⟨Z Q,Z f1,Z f4⟩ (.inl ⟨n,Y,Z K⟩)
   .have T:¬cv<0:=by rw[ny n]at o;exact sy o
    (apply bM;simp[T,C,F];refine zJ hJ ?_)
    refine bz ?_;exact hfr _ _ C (M.keeps V) ⟨Z Q,Z f1,Z f4⟩ (.inr ⟨n,Z b,Z hph⟩)
  clear e;obtain rfl:k=v:=O;have hR:=GF hB hvB (fun j hj=>by grind) h2;clear h1 h2;have wF:IntKind.i64.wrap ((m:Int)+k-1)=((p+k:Nat):Int):=zW;refine fw f1 b K ?_;refine qL (fun z w g=>∃ t:Nat,t<=k/\z=k-t/\w 0=.ms q 0 L/\w 10=i (m+k:Nat)/\w 13=i (p+t:Nat)/\g.H q=lx (P++B.take t++x::(B.drop t++S))/\bU q f g) k ?_ ?_
  .exact⟨0,O,O,by simp_all,by simp_all,Y,by grind,M⟩
  clear Q f1 f4 b K F M hP3 hq2 w d;rintro z w d ⟨t,V9,rfl,Q,b,f13,F,M⟩ JJ e;by_cases dS:t<k;rotate_left
  .clear e;obtain rfl:t=k:=O;have v8:¬((p:Int)+t<p+t):=O;refine eI b f13 wF v8 ?_;refine⟨_,?_,hR,by grind,M⟩
   grind [List.perm_middle,List.take_append_drop]
  have v7:(p:Int)+t<p+k:=O;have hce:P++B.take t++x::(B.drop t++S)=(P++B.take t)++x::B.getD t ed0::(B.drop (t+1)++S):=by rw[MR B t O];simp
  have hUl:(P++B.take t).length=p+t:=by simp[hp];omega
  have W:(((P++B.take t)++x::B.getD t ed0::(B.drop (t+1)++S)).set (p+t) (B.getD t ed0)).set (p+t+1) x=P++B.take (t+1)++x::(B.drop (t+1)++S):=by rw[Qc _ _ _ _ hUl.symm];rw[show(P++B.take t)++B.getD t ed0::B.getD t ed0::(B.drop (t+1)++S)=(P++B.take t++[B.getD t ed0])++B.getD t ed0::(B.drop (t+1)++S) by simp];rw[Qc _ _ _ _ (by grind),Uf B t O];simp
  have g1:=GW (P++B.take t) x (B.getD t ed0::(B.drop (t+1)++S)) (j:=p+t) hUl.symm;have g2:((P++B.take t)++x::B.getD t ed0::(B.drop (t+1)++S)).getD (p+t+1) ed0=B.getD t ed0:=by rw[show(P++B.take t)++x::B.getD t ed0::(B.drop (t+1)++S)=(P++B.take t++[x])++B.getD t ed0::(B.drop (t+1)++S) by simp];exact GW _ _ _ (by simp[hp];omega)
  have r8:((P++B.take t)++x::B.getD t ed0::(B.drop (t+1)++S)).length=L:=by rw[<- hce];simp only[cb,List.length_cons,dj,gy];omega
  rw[hce]at F;generalize B.getD t ed0=y at *;generalize hc:(P++B.take t)++x::y::(B.drop (t+1)++S)=c at *;obtain⟨a,j8⟩:∃ a:Nat,a=p+t:=⟨_,rfl⟩;rw[<- j8]at g1 g2 W;have D:=aL c;have da:=aP c a O;have db:=aP c (a+1) O;rw[g1]at da;rw[g2]at db;rw[r8]at D;have wG:IntKind.i64.wrap ((a:Int)+1)=((a+1:Nat):Int):=zW;have wG':IntKind.i64.wrap ((a:Int)+1)=(a:Int)+1:=AV _ O O;have hk1':(p:Int)+t=(a:Int):=O;have A:w 13=i a:=by rw[f13,j8]
  have hA4:a+1<L:=O;have hB4:a<L:=O;rw[hk1']at v7;refine eI b A wF v7 ?_
  (refine zS [] [q] [0,2,4,6,8,10,12,14,16,18,20,22,24,26,28,31,32,35] ?_;intro J hJ;simp[Q,A,F,da,db,D,r8,wG'];(repeat refine ca ?_);refine zJ hJ ?_)
  have e1:=kK c a y O;have e2:=kK (c.set a y) (a+1) x (by grind)
  first|rw[e1,e2,W,St.set_set]|(rw[db]at e1;rw[e1,e2,W,St.set_set])
  refine cm A wG' ?_;exact e (k-(t+1)) _ _ O ⟨t+1,O,rfl,Z Q,Z b,by simp;omega,Y,M.set _⟩
def Aw.M5:=OZ.1
def Aw.U.M5:=OZ.2
end Go.Proofs.YtbgngpdonpeboaaGreatDoor
