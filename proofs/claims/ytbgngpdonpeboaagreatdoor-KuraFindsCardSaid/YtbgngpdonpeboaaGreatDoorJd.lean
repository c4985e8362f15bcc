/- Lemmas. -/
import Derived.Test.YtbgngpdonpeboaaGreatDoorJc
import Derived.Test.YtbgngpdonpeboaaGreatDoorAwFz
set_option linter.defProp false
set_option maxHeartbeats 4000000
open Go.Proofs.Tryz
namespace Go.Proofs.YtbgngpdonpeboaaGreatDoor
namespace Aw
open Go Go.RowKit Pl
def jA(a:PP)(F:List PP):QQ:=F.flatMap fun r=>[.sl 0 r.length (us r),wv (mk a r)]
@[simp] theorem tR(a:PP):∀ F:List PP,(jA a F).length=F.length*2
  |[]=>rfl
  |r::F=>by have:=tR a F;simp only[jA,dt,cb,List.length_cons,List.length_nil]at this ⊢;omega
theorem uR(a:PP):∀(F:List PP) (k:Nat),k<F.length->(jA a F).drop (k*2)=.sl 0 (F.getD k []).length (us (F.getD k []))::wv (mk a (F.getD k []))::jA a (F.drop (k+1))
 |r::F,0,_=>by simp[jA]
 |r::F,k+1,h=>by have:=uR a F k (by simpa using h);rw[show(k+1)*2=k*2+2 by omega];simp only[jA,dt,List.cons_append,List.nil_append,xg]at this ⊢;rw[this];simp
 |[],k,h=>by simp at h
theorem Fs(a:PP):∀(B:List dm) (k:Nat),k<B.length->(oN a B).drop (k*2)=wv (mk a (B.getD k ⟨[],[]⟩).inner)::wv (mk a (B.getD k ⟨[],[]⟩).ends)::oN a (B.drop (k+1))
 |r::F,0,_=>by simp[oN]
 |r::F,k+1,h=>by have:=Fs a F k (by simpa using h);rw[show(k+1)*2=k*2+2 by omega];simp only[oN,dt,List.cons_append,List.nil_append,xg]at this ⊢;rw[this];simp
 |[],k,h=>by simp at h
def pR(b:dm)(p:Int×Int)(r:PP×Nat):Int×Int:=if off b.ends r.1=[]then(if p.2=0 then(r.2:Int)else p.1,p.2+1)else p
def cJ(b:dm)(F:List (PP×Nat)):Int×Int:=F.foldl (pR b) (-1,0)
def bL(F:List PP):List dm->dm×Int->dm×Int
 |[],best=>best
 |b::l,best=>if(cJ b F.zipIdx).2<=1 then(b,(cJ b F.zipIdx).1)else bL F l (if best.2<0 then(b,(cJ b F.zipIdx).1)else best)
def Dg(b:dm)(F:List PP)(k:Nat)(a:k<F.length):cJ b (F.zipIdx.take (k+1))=pR b (cJ b (F.zipIdx.take k)) (F.getD k [],k):=by
 unfold cJ;have c:k<F.zipIdx.length:=by simpa using a
 rw[fh c,lD,List.getElem_zipIdx,bv,bu a];simp
def Cf(b:dm):∀(F:List (PP×Nat)),0<=(cJ b F).2/\(cJ b F).2<=F.length:=by
 have a:∀(F:List (PP×Nat)) (p:Int×Int),0<=p.2->0<=(F.foldl (pR b) p).2/\(F.foldl (pR b) p).2<=p.2+F.length:=by
  intro F;induction F with
  |nil=>intro p h;simpa using h
  |cons r F d=>
   intro p h;have c:0<=(pR b p r).2/\(pR b p r).2<=p.2+1:=by unfold pR;by_cases e:off b.ends r.1=[];(· rw[ac e];simp only;omega);(· rw[aa e];omega)
   have:=d (pR b p r) c.1;rw[List.foldl_cons,List.length_cons];omega
 intro F;have:=a F (-1,0) Y;unfold cJ;simp only at this;omega
structure ShA(g:Gr)(L:QP)(on:PP)(F:List PP)(S nl pl ll fl:Nat)(le:List (PP×LV))(st:St):Prop where
 r:ShR g L on S nl pl ll (.ms fl 0 F.length) le st
 fac:st.H fl=.box 144 2 (jA g.V F)
 flt:fl<st.z
 sub:∀ r∈F,∀ v∈r,v∈g.V
 onv:∀ v∈on,v∈g.V
 few:F.length<=300
theorem ShA.keep{g:Gr}{L:QP}{f:PP}{F:List PP}{S e j d b:Nat}{c:List (PP×LV)}{l a:St}(h:ShA g L f F S e j d b c l)(k:aC l a):ShA g L f F S e j d b c a:=
 ⟨h.r.keep k,(k.H _ h.flt).trans h.fac,dc h.flt k.z,h.sub,h.onv,h.few⟩
abbrev Vp(a:PP)(b:dm):LV:=.ag [wv (mk a b.inner),wv (mk a b.ends)]
variable{Q:AQ}{x y:Ed}{v w:Int}{e:LV}{H:List (Int×Int)}{l:List Ed}{inner:List Int}{N S a b m pl:Nat}{P:Program}{c s:St}
def XV{g:Gr}(hg:GP g){L:QP}{on:PP}{F:List PP}{nl ll fl:Nat}{le:List (PP×LV)}{l:St}(hS:ShA g L on F S nl pl ll fl le l){B:List dm}(hB:QI g L on=some B)(hBe:∀ b∈B,∀ v∈b.ends,v∈g.V)(hBl:B.length<=300):
 aD prog 101 [.pt S 0] l fun r st'=>r=.tu [Vp g.V (bL F B (⟨[],[]⟩,-1)).1,i (bL F B (⟨[],[]⟩,-1)).2]/\st'=l:=by
 refine qT (Q:=fun r=>r=.tu [Vp g.V (bL F B (⟨[],[]⟩,-1)).1,i (bL F B (⟨[],[]⟩,-1)).2]) ?_ fun r h=>by subst h;exact⟨⟨trivial,trivial,trivial⟩,trivial,trivial⟩
 have h64:=hg.h64;have hz:mk g.V []=0:=(mk_zero g.V []).2 fun _ _=>by simp
 have hq:=hS.r.lt;refine zN func101 ntmps101 [.cell 2 138,.tmp 3] ?_
 (refine ez ?_;intro J hJ)
 refine jr (Tw hg hS.onv (hS.r.keep ((aC.new _ _).trans (aC.new _ _))) hB) ?_;refine dU hJ ?_;have e0:¬l.z=l.z+1:=O;have hbl:=JS g.V B;have hfl:=tR g.V F;have hfew:=hS.few;generalize hCC:bL F B (⟨[],[]⟩,-1)=CC;refine aV 15 14 16 49 (B.length) (fun j f C=>f 0=.pt S 0/\f 2=.pt l.z 0/\f 4=.pt (l.z+1) 0/\f 13=.sl 0 B.length (oN g.V B)/\aC l C/\l.z+1<C.z/\C.H l.z=.box 138 2 [wv 0,wv 0]/\∃ a m,f 5=i m/\C.H (l.z+1)=.box 138 2 [wv (mk g.V a.inner),wv (mk g.V a.ends)]/\bL F (B.drop j) (a,m)=CC) ?_ ?_ ?_
 .exact⟨Y,Y,Y,Y,(aC.new _ _).trans (aC.new _ _),Y,Z e0,⟨[],[]⟩,-1,Y,Z hz,hCC⟩
 .rintro jo f s dS ⟨D,w,o,c,hk,hsn,hR,a,m,x,X,d⟩ M fn JO hJO;have hd:=Fs g.V B jo dS;have o6:jo*2<B.length*2:=O;rw[jm dS,bL]at d;have hbm:B.getD jo ⟨[],[]⟩=B[jo]:=by rw[bv,bu dS];rfl
  have hbe:=hBe _ (dz dS);rw[hbm]at hd;generalize B[jo]=b at *;have hSk:=hS.keep hk;obtain⟨hSb,-,-,-,-,p1,p2,p3,p4⟩:=id hSk.r;have hF:=hSk.fac;have hFl:=hSk.flt;have x1:¬S=s.z:=O;have x2:¬fl=s.z:=O;have x3:¬l.z=s.z:=O;have x4:¬l.z+1=s.z:=O;refine II D c M fn hd o6 hbl dS hSb x1 ?_;refine aV 24 23 25 40 (F.length) (fun j f C=>f 0=.pt S 0/\f 2=.pt l.z 0/\f 4=.pt (l.z+1) 0/\f 13=.sl 0 B.length (oN g.V B)/\f 14=i B.length/\f 15=i jo/\f 5=i m/\f 7=.pt s.z 0/\f 22=.ms fl 0 F.length/\f 8=i (cJ b (F.zipIdx.take j)).1/\f 9=i (cJ b (F.zipIdx.take j)).2/\aC (s.new (.box 138 2 [wv (mk g.V b.inner),wv (mk g.V b.ends)])) C) ?_ ?_ ?_
  .exact⟨Z D,Z w,Z o,Z c,Z fn,Z M,Z x,Y,Y,by simp[cJ],by simp[cJ],aC.refl _⟩
  .clear D w o c x M fn f;rintro k f W P ⟨D,w,o,c,q,t,x,T,n,E,K,I⟩ M fn JI hJI;have hn3:=I.z;simp only[aK]at hn3;have y:W.H s.z=.box 138 2 [wv (mk g.V b.inner),wv (mk g.V b.ends)]:=by rw[I.H _ Y];simp
   have hF2:W.H fl=.box 144 2 (jA g.V F):=by rw[I.H _ (by simp;omega),cN,aa x2];exact hF
   have hdF:=uR g.V F k P;have e:=Dg b F k P;have u7:=Cf b (F.zipIdx.take k);rw[dj,List.length_zipIdx]at u7;generalize F.getD k []=rr at *;generalize hpp:cJ b (F.zipIdx.take k)=pp at *;obtain⟨p1',A⟩:=pp;simp only at u7 E K;have N:k*2<F.length*2:=O;have hdf:jF .u64 (mk g.V b.ends) (mk g.V rr)=mk g.V (off b.ends rr):=uO g.V b.ends rr h64;have y1:¬s.z=W.z:=O;have y2:¬fl=W.z:=O;have hw:=wrap_i64 (A+1) O O;unfold pR at e;by_cases p:off b.ends rr=[]
   .have hb:((mk g.V (off b.ends rr):Int) != 0)=false:=by rw[p,hz];rfl
    rw[ac p]at e;simp only at e;by_cases h0:A=0
    .have hb0:(A==0)=true:=by simpa using h0
     rw[ac h0]at e;refine G4 T n E K M fn hdF hF2 P N hfl y y1 y2 hdf hb hb0 hw ?_;exact hJI _ _ (Z M) (Z fn) ⟨Z D,Z w,Z o,Z c,Z q,Z t,Z x,Z T,Z n,by rw[e];simp,by rw[e];simp,I.trans (aC.new _ _)⟩
    .have hb0:(A==0)=false:=by simpa using h0
     rw[aa h0]at e;refine G4 T n E K M fn hdF hF2 P N hfl y y1 y2 hdf hb hb0 hw ?_;exact hJI _ _ (Z M) (Z fn) ⟨Z D,Z w,Z o,Z c,Z q,Z t,Z x,Z T,Z n,by rw[e];simp[E],by rw[e];simp,I.trans (aC.new _ _)⟩
   .have hb:((mk g.V (off b.ends rr):Int) != 0)=true:=by have:mk g.V (off b.ends rr)≠0:=fun h=>p ((Nz hbe).1 h);simpa using this
    rw[aa p]at e;refine Rn T n E K M fn hdF hF2 P N hfl y y1 y2 hdf hb ?_;exact hJI _ _ (Z M) (Z fn) ⟨Z D,Z w,Z o,Z c,Z q,Z t,Z x,Z T,Z n,by rw[e];simp[E],by rw[e];simp[K],I.trans (aC.new _ _)⟩
  .clear D w o c x M fn f;rintro f W ⟨D,w,o,c,q,t,x,T,n,E,K,I⟩;rw[ej Y]at E K;have u7:=Cf b F.zipIdx;generalize hpp:cJ b F.zipIdx=pp at *;obtain⟨p1',A⟩:=pp;simp only at u7 E K d;have hn3:=I.z;simp only[aK]at hn3;have y:W.H s.z=.box 138 2 [wv (mk g.V b.inner),wv (mk g.V b.ends)]:=by rw[I.H _ Y];simp
   have hR2:W.H l.z=.box 138 2 [wv 0,wv 0]:=by rw[I.H _ (by simp;omega),cN,aa x3];exact hR
   have hB2:W.H (l.z+1)=.box 138 2 [wv (mk g.V a.inner),wv (mk g.V a.ends)]:=by rw[I.H _ (by simp;omega),cN,aa x4];exact X
   have hkk:=(hk.trans (aC.new _ _)).trans I;have z1:¬s.z=l.z:=O;have z2:¬l.z+1=l.z:=O;by_cases R:A<=1
   .rw[ac R]at d;subst d;refine mf w T E K R y hR2 z1 ?_;exact hkk.set (au _) _
   .rw[aa R]at d;by_cases U:m<0
    .rw[ac U]at d;refine oy o x T E K R U y hB2 ?_;exact hJO _ _ (Z t) (Z q) ⟨Z D,Z w,Z o,Z c,hkk.set O _,by simp;omega,by(repeat (first|rw[ay aE]|rw[aA O]|rw[az bf]|rw[aB O]));exact hR2,b,p1',Y,Y,d⟩
    .rw[aa U]at d;refine oh o x T E K R U ?_;exact hJO _ _ (Z t) (Z q) ⟨Z D,Z w,Z o,Z c,hkk,O,hR2,a,m,Z x,hB2,d⟩
 .rintro f s ⟨D,w,o,c,hk,hsn,hR,a,m,x,X,d⟩;rw[xm,bL]at d;subst d;have z1:¬l.z+1=l.z:=O;refine ls w o x X hR z1 ?_;exact hk.set (au _) _
theorem Ba{c:Type}(f:c->Int):∀ {a b:List c},(a.map f).Pairwise (· < ·)->(b.map f).Pairwise (· < ·)->(∀ x,x∈a↔x∈b)->a=b
 |[],[],_,_,_=>rfl
 |[],y::b,_,_,h=>by have:=(h y).2 Y;grind
 |x::a,[],_,_,h=>by have:=(h x).1 Y;grind
 |x::a,y::b,ha,hb,h=>by
  simp only[ax,kk,ao,forall_exists_index,and_imp,forall_apply_eq_imp_iff₂]at ha hb;have W0:x=y:=by
   rcases ai.1 ((h x).1 Y)with h1|h1
   .omega
   .grind
  subst W0
  congr 1
  refine Ba f ha.2 hb.2 fun z=>?_
  grind
section
variable {α:Type} (f:α->Int)
end
def Aj{α:Type}{P:List α->Prop}(h0:P [])(h1:∀ l x,P l->P (l++[x]))(l:List α):P l:=by
 rw[<- om l];generalize l.reverse=r;induction r with
 |nil=>grind
 |cons x r ih=>grind
def fz(x y:Ed):Bool:=decide (x.a=y.a/\x.b=y.b\/x.a=y.b/\x.b=y.a)
theorem uL:fz x y=true↔(x.a=y.a/\x.b=y.b\/x.a=y.b/\x.b=y.a):=by simp[fz]
theorem xL(h:fz x y=true):fz y x=true:=by
 grind [uL]
theorem Ke(x:Ed):fz x x=true:=by grind [uL]
theorem zD{z:Ed}(h:fz x y=true)(k:fz y z=true):fz x z=true:=by
 rw[uL]at h k ⊢;rcases h with⟨a,b⟩|⟨a,b⟩<;>rcases k with⟨c,d⟩|⟨c,d⟩
 .omega
 .omega
 .omega
 omega
def sE(l:QR):QR:=l.foldl (fun acc x=>if acc.any (fz x)then acc else acc++[x]) []
theorem nT(l:QR)(x:Ed):sE (l++[x])=if(sE l).any (fz x)then sE l else sE l++[x]:=by
 grind [sE]
def iZ(l:QR):∀ x∈sE l,x∈l:=by
 induction l using Aj with
 |h0=>simp[sE]
 |h1 l x a=>
  grind [nT]
def Ld(l:QR):∀ x∈l,∃ y∈sE l,fz x y=true:=by
 induction l using Aj with
 |h0=>simp
 |h1 l x b=>
  intro y a;rw[nT];rcases am.1 a with h|h
  .grind
  .rw[bi]at h;subst h
   split
   .grind
   .exact⟨y,dE _ Y,Ke y⟩
theorem pZ(l:QR):(sE l).length<=l.length:=by
 induction l using Aj with
 |h0=>simp[sE]
 |h1 l x a=>
  grind [nT]
def Km(l:QR):(sE l).Pairwise fun x y=>fz x y=false:=by
 induction l using Aj with
 |h0=>simp[sE]
 |h1 l x a=>
  grind [nT,xL]
abbrev hf(x:Ed):QP:=[(x.a,x.b),(x.b,x.a)]
def fC(l:QR):QP:=l.flatMap hf
def VO(l:QR)(x:Ed):fC (l++[x])=fC l++[(x.a,x.b)]++[(x.b,x.a)]:=by simp[fC]
theorem Hr(l:QR):(fC l).length=2*l.length:=by
 induction l with
 |nil=>rfl
 |cons x l a=>grind [fC]
def We{p:Int×Int}:p∈fC l↔∃ x∈l,(x.a=p.1/\x.b=p.2)\/(x.b=p.1/\x.a=p.2):=by
 grind [fC]
def cr(v:Int)(H:QP):PP:=(H.filter fun p=>decide (p.1=v)).map (·.2)
def JL(v:Int)(H:QP)(p:Int×Int):cr v (H++[p])=cr v H++if p.1=v then [p.2]else []:=by
 grind [cr]
theorem BQ(v:Int)(H:QP):(cr v H).length<=H.length:=by
 grind [cr]
def Wl:w∈cr v H↔(v,w)∈H:=by unfold cr;simp_all
def PE(x:Int):PP->PP
 |[]=>[x]
 |y::l=>if x<=y then x::y::l else y::PE x l
def uj:PP->PP
 |[]=>[]
 |x::l=>PE x (uj l)
theorem FV(x:Int)(l:PP):(PE x l).Perm (x::l):=by
 induction l with
 |nil=>exact .refl _
 |cons y l a=>
  grind [PE]
def sN(l:PP):(uj l).Perm l:=by
 induction l with
 |nil=>exact .refl _
 |cons x l a=>exact(FV x _).trans (a.cons x)
def Ib(x:Int){l:PP}(h:l.Pairwise (·<=·)):(PE x l).Pairwise (·<=·):=by
 induction l with
 |nil=>exact wq _ _
 |cons y l a=>
  grind [List.pairwise_cons,PE,FV]
def LN(l:PP):(uj l).Pairwise (·<=·):=by
 induction l with
 |nil=>exact .nil
 |cons x l a=>exact Ib x a
theorem vK:∀ {a b:PP},a.Pairwise (·<=·)->b.Pairwise (·<=·)->a.Perm b->a=b
 |[],b,_,_,h=>by simp_all
 |x::a,[],_,_,h=>absurd h.symm.nil_eq Y
 |x::a,y::b,ha,hb,h=>by
  obtain⟨f,d⟩:=kk.1 ha;obtain⟨g,e⟩:=kk.1 hb;have W0:x=y:=by
   have c:x∈y::b:=h.mem_iff.1 Y;have j:y∈x::a:=h.mem_iff.2 Y;rcases ai.1 c with c|c
   .omega
   .grind
  subst W0;rw[vK d e ((List.perm_cons x).1 h)]
def Yd{c l:PP}(h:c.Perm l)(a:c.Pairwise (·<=·)):c=uj l:=vK a (LN l) (h.trans (sN l).symm)
def dG(a:QR)(v:Int):PP:=uj (cr v (fC (sE a)))
def zf(c:QR)(v w:Int):Prop:=∃ x∈c,(x.a=v/\x.b=w)\/(x.a=w/\x.b=v)
def RC{b:QR}:w∈dG b v↔zf b v w:=by
 unfold dG;rw[(sN _).mem_iff,Wl,We];constructor
 .rintro⟨x,a,h⟩;refine⟨x,iZ _ _ a,?_⟩;omega
 .rintro⟨x,a,h⟩;obtain⟨y,j,c⟩:=Ld _ _ a;refine⟨y,j,?_⟩;rw[uL]at c;rcases h with⟨f,g⟩|⟨f,g⟩<;>rcases c with⟨d,e⟩|⟨d,e⟩
  .omega
  .omega
  .omega
  omega
instance (es:List Ed) (v w:Int):Decidable (zf es v w):=by unfold zf;exact inferInstance
def QY(a:QR)(v:Int):(dG a v).length<=2*a.length:=by
 have b:=(sN (cr v (fC (sE a)))).length_eq
 grind [BQ,Hr,pZ,dG]
abbrev gj:=List (Int×Int)
def lN(A:gj)(v:Int):Option Int:=match A with
 |[]=>none
 |p::A=>if v=p.1 then some p.2 else lN A v
theorem DM{v:Int}:∀ {A:gj},v∉A.map (·.1)->lN A v=none
 |[],_=>rfl
 |p::A,h=>by simp only[ax,ai,fJ]at h;simp only[lN];rw[aa h.1,DM h.2]
theorem CZ{v:Int}:∀ {A:gj},v∈A.map (·.1)->∃ w,lN A v=some w
 |[],h=>by grind
 |p::A,h=>by
  simp only[lN];by_cases e:v=p.1
  .simp_all
  .rw[aa e];simp only[ax,ai]at h;exact CZ (h.resolve_left e)
structure BF where
 A:gj
 Q:PP
 hit:Bool
def iN(a:Int->Bool)(b v:Int)(S:BF)(u:Int):BF:=
 if S.hit=true then S else if u∈S.A.map (·.1)then S else if u=b then⟨S.A++[(u,v)],S.Q,true⟩else⟨S.A++[(u,v)],if a u=true then S.Q++[u]else S.Q,false⟩
def eK(a:Int->Bool)(b v:Int)(S:BF)(l:PP):BF:=l.foldl (iN a b v) S
def Ej(a:Int->Bool)(b v:Int){S:BF}(h:S.hit=true)(l:PP):eK a b v S l=S:=by
 induction l with
 |nil=>rfl
 |cons u l c=>grind [eK,iN]
def LU(a:Int->Bool)(b v:Int)(S:BF)(l:PP)(u:Int):eK a b v S (l++[u])=iN a b v (eK a b v S l) u:=by grind [eK]
def Fg(a:Int->Bool)(b v:Int)(S:BF)(l:PP):(eK a b v S l).Q.length<=S.Q.length+l.length/\(eK a b v S l).A.length<=S.A.length+l.length:=by
 induction l generalizing S with
 |nil=>simp[eK]
 |cons u l c=>
  have:=c (iN a b v S u);have d:(iN a b v S u).Q.length<=S.Q.length+1/\(iN a b v S u).A.length<=S.A.length+1:=by
   unfold iN
   split
   .omega
   .grind
  grind [eK]
def ni(a:Int->PP)(b:Int->Bool)(c:Int):Nat->gj->PP->Option (Option gj)
 |_,_,[]=>some none
 |0,_,_::_=>none
 |n+1,A,v::Q=>if(eK b c v ⟨A,Q,false⟩ (a v)).hit=true then some (some (eK b c v ⟨A,Q,false⟩ (a v)).A)else ni a b c n (eK b c v ⟨A,Q,false⟩ (a v)).A (eK b c v ⟨A,Q,false⟩ (a v)).Q
def jK(A:gj)(XE:Int):Nat->Int->Option (PP)
 |0,v=>if v=XE then some []else none
 |n+1,v=>if v=XE then some []else(jK A XE n ((lN A v).getD 0)).map fun l=>(lN A v).getD 0::l
theorem Fw{A:gj}{XE:Int}:∀ {n:Nat} {v:Int} {l:PP},jK A XE n v=some l->l.length<=n
 |0,v,l,h=>by
  grind [jK]
 |n+1,v,l,h=>by
  simp only[jK]at h
  split at h
  .grind
  .rw[kj]at h;obtain⟨b,a,rfl⟩:=h;have:=Fw a
   grind
def xE(d:PP)(a:Int->PP)(c:Int->Bool)(XE b:Int)(n:Nat):Option PP:=
 if XE∉d\/b∉d then some []else if XE=b then some [XE]else match ni a c b n [(XE,XE)] [XE] with
  |some none=>some []
  |some (some A)=>(jK A XE n b).map fun l=>(b::l).reverse
  |none=>none
def kE(x:Ed):PP:=[if x.b<x.a then x.b else x.a,if x.a<x.b then x.b else x.a]
theorem MW(x y:Ed):kE x=kE y↔fz x y=true:=by
 grind [uL,kE]
def bnd(l:QR):List PP:=(sE l).map fun y=>(l.filter fun x=>fz y x).map (·.id)
def XP(l:QR):(bnd l).length=(sE l).length:=by simp[bnd]
def Oj(h:(sE l).any (fz x)=false):sE (l++[x])=sE l++[x]/\bnd (l++[x])=bnd l++[[x.id]]:=by
 have c:∀ y∈sE l,fz x y=false:=fun y b=>by
  grind
 have a:sE (l++[x])=sE l++[x]:=by rw[nT,h];rfl
 refine⟨a,?_⟩;unfold bnd;rw[a,cz]
 congr 1
 .grind [List.map_congr_left,xL]
 .have:l.filter (fun z=>fz x z)=[]:=by rw[wu];intro z f e;obtain⟨y,b,d⟩:=Ld l z f;have:=c y b;rw[zD e d]at this;cases this
  grind [Ke]
def Wt(h:(sE l).any (fz x)=true):sE (l++[x])=sE l/\∃ a y c e r f,sE l=a++y::c/\fz x y=true/\bnd l=e++r::f/\e.length=a.length/\bnd (l++[x])=e++(r++[x.id])::f/\r.length<=l.length:=by
 have g:sE (l++[x])=sE l:=by rw[nT,h];rfl
 refine⟨g,?_⟩;obtain⟨y,k,j⟩:=nv.1 h;obtain⟨a,c,d⟩:=fo k;have b:=Km l;rw[d,oo,kk]at b;obtain⟨_,⟨p,_⟩,p3⟩:=b;have o:∀ z,(z∈a\/z∈c)->fz z x=false:=by
  intro z n;cases m:fz z x with
  |false=>rfl
  |true=>
   grind [zD,xL]
 refine⟨a,y,c,_,_,_,d,j,by unfold bnd;rw[d,cz,ax],Y,?_,?_⟩
 .unfold bnd;rw[g,d,cz,ax]
  grind [List.map_congr_left,xL]
 grind
structure AtM(l:QR)(es:List (PP×LV)):Prop where
 old:∀ x L1 y L2,sE l=L1++y::L2->fz x y=true->bY es (kE x)=some (i L1.length)
 new:∀ x,(sE l).any (fz x)=false->bY es (kE x)=none
def AtM.nil:AtM [] []:=⟨fun x a y b h _=>by grind [sE],fun x _=>rfl⟩
def AtM.keep{a:List (PP×LV)}(h:AtM l a)(b:sE (l++[x])=sE l):AtM (l++[x]) a:=
 ⟨by rw[b];exact h.old,by rw[b];exact h.new⟩
theorem AtM.add{d:List (PP×LV)}(h:AtM l d)(n:(sE l).any (fz x)=false):AtM (l++[x]) (bX d (kE x) (i (sE l).length)):=by
 have e:=(Oj n).1;constructor
 .intro z b y j c m;rw[e]at c;rw[uH];rcases uu j with rfl|⟨a,g,rfl⟩
  .grind [List.append_inj',MW]
  .rw[uv,show b++y::(a++[g])=(b++y::a)++[g] by simp]at c;obtain⟨k,o⟩:=List.append_inj' c rfl;rw[aa,h.old z b y a k m]
   grind [zD,MW]
 .intro z f;rw[e,List.any_append,Bool.or_eq_false_iff]at f;rw[uH,aa,h.new z f.1]
  grind [MW]
abbrev TR:=Nat×PP
def KA(p:TR):LV:=.sl p.1 p.2.length (us p.2)
def bS(R:List TR):QQ:=R.map KA
def mK(R:List TR):(bS R).length=R.length:=by simp[bS]
structure U3(E:QR)(j9:St)(L2 L4 M te q:Nat)(vs:PP)(mes:List (PP×LV))(R:List TR)(s:St):Prop where
 h2:s.H L2=.box 25 2 [.nil,.nil]
 h4:s.H L4=.box 25 2 [.sl 0 vs.length (us vs),.sl te (sE E).length (eds (sE E))]
 ht:s.H te=.own 36 3 (sE E).length
 hM:s.H M=.map true [.u32,.u32] mes
 hq:s.H q=.box 22 1 (bS R)
 bn:R.map (·.2)=bnd E
 at':AtM E mes
 nd:(R.map (·.1)).Nodup
 tk:∀ p∈R,j9.z<=p.1/\p.1<s.z/\s.H p.1=.own 34 1 p.2.length
 b:j9.z<=L2/\j9.z<=L4/\j9.z<=M/\j9.z<=te/\j9.z<=q/\L2<s.z/\L4<s.z/\M<s.z/\te<s.z/\q<s.z
 kp:aC j9 s
def W2(g:Gr)(e:St)(c d M k:Nat)(a:ah)(s:St):Prop:=
 a 2=.pt c 0/\a 4=.pt d 0/\a 6=.mp M/\a 18=.sl 0 g.E.length (eds g.E)/\a 19=i g.E.length/\a 20=i k/\
 ∃ f q b R,a 5=.ms q 0 R.length/\U3 (g.E.take k) e c d M f q g.V b R s
def bW{x y:cT}(d:c.H a=x)(f:c.H b=y)(h:x≠y):¬a=b:=fun e=>h (by rw[<- d,e,f])
def lR(l:QR):dl (eds l)=eds l:=by
 induction l with
 |nil=>rfl
 |cons e l a=>simp only[eds,dt,List.cons_append,List.nil_append,dl,z0]at a ⊢;rw[a]
def Pt(R:List TR):dl (bS R)=R.map fun p=>.sl 0 p.2.length (us p.2):=by rw[rL,bS,dC];refine jf fun p _=>?_;simp[KA,z0]
def Sy(g:Gr)(v:St)(hv:g.V.length<=1048576)(he:g.E.length<=1000)(d:0<v.z):
 aD prog 59 [.ag (aw g)] v fun r I=>r=.tu [.ag [.sl 0 g.V.length (us g.V),.sl 0 (sE g.E).length (eds (sE g.E))],.sl 0 (bnd g.E).length ((bnd g.E).map fun l=>.sl 0 l.length (us l))]/\aC v I:=by
 refine cZ ?_;have hel:=aL g.E;refine zN func59 ntmps59 [.cell 2 25,.tmp 3] ?_
 (refine ez ?_;intro J Q)
 refine qE (UU g.V 0 _ hv) (by simp[]) ?_;rintro r I ⟨rfl,j8⟩;have hn1:=j8.z;simp only[aK]at hn1;have hG1:I.H v.z=.box 25 2 (aw g):=by rw[j8.H _ (by simp<;>omega)];simp
 have hC1:I.H (v.z+1)=.box 25 2 [.nil,.nil]:=by rw[j8.H _ Y];simp
 have j5:aC v I:=((aC.new _ _).trans (aC.new _ _)).trans j8;generalize hL:I=c at *;have e1:¬v.z=c.z:=O;have e2:¬v.z=c.z+1:=O;refine wT Q e1 e2 hG1 ?_;refine sM c.z 36 3 (e:=25) (s:=2) [.sl 0 g.V.length (us g.V)] [] Y ?_;refine DB 5 22 1 Y ?_;refine qL (fun n fr s=>∃ k:Nat,k<=g.E.length/\n=g.E.length-k/\W2 g v (v.z+1) c.z (c.z+1) k fr s) g.E.length ?_ ?_
 .refine⟨0,O,O,Y,Y,Y,Y,Y,Y,c.z+2,c.z+3,[],[],Y,?_⟩;have h5:¬v.z=c.z+2:=O;have h1:¬v.z+1=c.z:=O;refine⟨qi h1 h5 e1 e2 hC1,by simp[sE]<;>omega,by simp[sE],Y,by simp[bS],by simp[bnd,sE],AtM.nil,Y,Y,⟨O,O,O,O,O,by simp<;>omega,by simp<;>omega,Y,Y,Y⟩,?_⟩;exact(((((j5.trans (aC.new _ _)).trans (aC.new _ _)).trans (aC.new _ _)).set O _).trans (aC.new _ _))
 rintro n fr s ⟨k,hk,rfl,f2,f4,f6,L,D,F,o,q,mes,R,f5,hB⟩ JJ hJJ;obtain⟨X,S,K,T,w,B,U,hnd,V9,⟨b1,b2,b3,b4,b5,b6,b7,b8,b9,b10⟩,hkps⟩:=hB;have N:¬q=c.z:=bW w S Y;by_cases dS:k<g.E.length;rotate_left
 .clear hJJ;have hk':k=g.E.length:=O;rw[hk',fq]at S K B;have hbl:(bnd g.E).length=R.length:=by rw[<- B,du]
  have n1:¬v.z+1=q:=bW X w Y;have n2:¬c.z=q:=fun h=>N h.symm;have n3:¬c.z=v.z+1:=O;have hsl:=pZ g.E;refine wM 5 f5 w (by simp[mK]) ?_;have htk2:(bS R).take (R.length*1)=bS R:=ej (by rw[mK];omega);rw[htk2];refine II f2 f4 D F dS S X n1 n2 n3 ?_;refine⟨?_,(hkps.set O _).set O _⟩;rw[hbl,<- B];simp only[z0,dl,vR,lR,Pt,dC];rfl
 have hd:=aP g.E k dS;have hw:=qN k O;have o9:k*3<g.E.length*3:=O;have htk1:g.E.take (k+1)=g.E.take k++[g.E.getD k ed0]:=by rw[bv,bu dS];exact fh dS
 have hEl:(g.E.take k).length<=1000:=by rw[dj];omega
 generalize g.E.getD k ed0=x at *;generalize hE:g.E.take k=E at *;obtain⟨id,a,b⟩:=x;simp only at hd;cases C:(sE E).any (fz ⟨id,a,b⟩)
 .have hm:=U.new ⟨id,a,b⟩ C;simp only[kE]at hm;have hsm:(List.map (fun _:Ed=>3) (sE E)).sum=(sE E).length*3:=by
   induction sE E with
   |nil=>rfl
   |cons x l ih=>simp only[ax,List.sum_cons,List.length_cons,ih];omega
  have hsl:=pZ E;have te0:¬o=0:=O;have r8:=mK R;have hRl:R.length=(sE E).length:=by rw[<- XP,<- B,du]
  have htR:List.take R.length (bS R)=bS R:=ej O;have hdl:List.drop R.length (bS R++[LV.nil])=[.nil]:=by rw[<- r8];exact rq
  have htl:List.take R.length (bS R++[LV.nil])=bS R:=by rw[<- r8];exact ts
  have M:List.drop (R.length+1) (bS R++[LV.nil])=[]:=List.drop_eq_nil_of_le (Z r8);have hRn:((R.length:Int)).toNat=R.length:=O;have c0:¬c.z=s.z:=O;have c0':¬s.z=c.z:=O;have c1:¬c.z=s.z+1:=O;have c1':¬s.z+1=c.z:=O;have c2:¬c.z=s.z+2:=O;have c2':¬s.z+2=c.z:=O;have c3:¬c.z=s.z+3:=O;have c3':¬s.z+3=c.z:=O;have c4:¬c.z=s.z+4:=O;have c4':¬s.z+4=c.z:=O;have e0:¬o=s.z:=O;have e0':¬s.z=o:=O;have e1:¬o=s.z+1:=O;have e1':¬s.z+1=o:=O;have e2:¬o=s.z+2:=O;have e2':¬s.z+2=o:=O;have e3:¬o=s.z+3:=O;have e3':¬s.z+3=o:=O;have e4:¬o=s.z+4:=O;have e4':¬s.z+4=o:=O;have d0:¬q=s.z:=O;have d0':¬s.z=q:=O;have d1:¬q=s.z+1:=O;have d1':¬s.z+1=q:=O;have d2:¬q=s.z+2:=O;have d2':¬s.z+2=q:=O;have d3:¬q=s.z+3:=O;have d3':¬s.z+3=q:=O;have d4:¬q=s.z+4:=O;have d4':¬s.z+4=q:=O;have c9:¬c.z+1=s.z:=O;have c9':¬s.z=c.z+1:=O;have n1:¬o=c.z:=bW K S Y;have n2:¬o=c.z+1:=bW K T Y;have n3:¬q=c.z+1:=bW w T Y;have n4:¬q=o:=bW w K Y;have n1':¬c.z=o:=fun h=>n1 h.symm;have n2':¬c.z+1=o:=fun h=>n2 h.symm;have n3':¬c.z+1=q:=fun h=>n3 h.symm;have n4':¬o=q:=fun h=>n4 h.symm;have n5':¬c.z=q:=fun h=>N h.symm;have r2:¬s.z=s.z+1+1:=O;have r3:¬s.z=s.z+1+1+1:=O;have r4:¬s.z=s.z+1+1+1+1:=O;have r5:¬s.z=s.z+1+1+1+1+1:=O;have r6:¬s.z=s.z+1+1+1+1+1+1:=O;have r7:¬s.z=s.z+1+1+1+1+1+1+1:=O;have p1:R.length<R.length+1:=O
  (repeat' (first|apply qS|apply qB|refine qK (zZ ?_)|(apply qC;simp[r8,htR,hsm,te0,c0,c0',c1,c1',c2,c2',c3,c3',c4,c4',e0,e0',e1,e1',e2,e2',e3,e3',e4,e4',d0,d0',d1,d1',d2,d2',d3,d3',d4,d4',c9,c9',n1,n2,n3,n4,n1',n2',n3',n4',n5',K,w,N,f4,f5,f6,L,D,F,dS,hd,hel,o9,hw,S,T,hm])|(refine zE ?_;intro J Q;simp[r8,htR,hsm,te0,c0,c0',c1,c1',c2,c2',c3,c3',c4,c4',e0,e0',e1,e1',e2,e2',e3,e3',e4,e4',d0,d0',d1,d1',d2,d2',d3,d3',d4,d4',c9,c9',n1,n2,n3,n4,n1',n2',n3',n4',n5',K,w,N,f4,f5,f6,L,D,F,dS,hd,hel,o9,hw,S,T,hm];(repeat refine ca ?_);(refine zJ Q ?_;clear Q J))))
  (refine zS [] [s.z,s.z+1+1+1+1+1] [0,2,4,6,8,10,12,14,16,18,20,23] ?_;intro J Q;simp[r2,r3,r4,r5,r6,r7,c0,c0',c1,c1',c2,c2',c3,c3',c4,c4',e0,e0',e1,e1',e2,e2',e3,e3',e4,e4',d0,d0',d1,d1',d2,d2',d3,d3',d4,d4',c9,c9',n1,n2,n3,n4,n1',n2',n3',n4',n5',r8,htR,hdl,htl,M,p1];(repeat refine ca ?_);(refine zJ Q ?_;clear Q J))
  refine cm F hw ?_;have l1:¬v.z+1=o:=bW X K Y;have l2:¬v.z+1=q:=bW X w Y;obtain⟨hs,hb⟩:=Oj C;refine hJJ (g.E.length-(k+1)) _ _ O ⟨k+1,O,rfl,Z f2,Z f4,Z f6,Z L,Z D,Y,s.z+3,s.z+5,bX mes (kE ⟨id,a,b⟩) (i (sE E).length),R++[(s.z+7,[id])],Y,?_⟩;rw[htk1];refine⟨?_,?_,?_,?_,?_,?_,U.add C,?_,?_,?_,?_⟩
  ·(repeat (first|rw[ay aE]|rw[aA O]|rw[az bf]|rw[aB O]));exact X
  ·(repeat (first|rw[ay aE]|rw[aA O]|rw[az bf]|rw[aB O]));rw[hs];simp[eds]
  ·(repeat (first|rw[ay aE]|rw[aA O]|rw[az bf]|rw[aB O]));rw[hs];simp
  ·(repeat (first|rw[ay aE]|rw[aA O]|rw[az bf]|rw[aB O]));rw[hRl];rfl
  ·(repeat (first|rw[ay aE]|rw[aA O]|rw[az bf]|rw[aB O]));simp[bS,KA]
  .rw[cz,B,hb];rfl
  .rw[cz,bo];refine⟨hnd,Y,fun x hx y hy=>?_⟩;obtain⟨p,d,rfl⟩:=ao.1 hx;simp at hy;have:=(V9 p d).2.1;omega
  .intro p d;rcases am.1 d with d|d
   .obtain⟨h1,h2,P⟩:=V9 p d;have t1:¬p.1=o:=bW P K Y;have t2:¬p.1=q:=bW P w Y;have t3:¬p.1=c.z:=bW P S Y;have t4:¬p.1=c.z+1:=bW P T Y;refine⟨h1,by simp<;>omega,?_⟩
    (repeat (first|rw[ay aE]|rw[aA O]|rw[az bf]|rw[aB O]));exact P
   .rw[bi]at d;subst d;refine⟨by simp<;>omega,Y,?_⟩
    (repeat (first|rw[ay aE]|rw[aA O]|rw[az bf]|rw[aB O]));rfl
  .simp only[bP,aK];omega
  .refine⟨by have:=hkps.z;simp only[bP,aK];omega,fun l hl=>?_⟩
   (repeat (first|rw[ay aE]|rw[aA O]|rw[az bf]|rw[aB O]));exact hkps.H l hl
 obtain⟨hs,L1,y,L2,B1,r,B2,hL,hyb,hB0,hBl,hB1,hrl⟩:=Wt C;have hm:=U.old ⟨id,a,b⟩ L1 y L2 hL hyb;simp only[kE]at hm;rw[hB0]at B;obtain⟨f,R',rfl,hR1,hR'⟩:=A0.1 B;obtain⟨p,t,rfl,hpr,hR2⟩:=F0.1 hR';obtain⟨j,m⟩:=p;simp only at hpr;subst hpr;obtain⟨hb1,hb2,A⟩:=V9 (j,m) Y;simp only at hb1 hb2 A;have hR1l:f.length=L1.length:=by rw[<- hBl,<- hR1,du]
 have r8:(bS (f++(j,m)::t)).length=f.length+(t.length+1):=by rw[mK];simp
 have hRl:(f++(j,m)::t).length=f.length+(t.length+1):=Y;have hcs:bS (f++(j,m)::t)=bS f++.sl j m.length (us m)::bS t:=by simp[bS,KA]
 have W:(bS f).length=f.length:=mK f;have hdl:List.drop f.length (bS f++LV.sl j m.length (us m)::bS t)=.sl j m.length (us m)::bS t:=by rw[<- W];exact rq
 have htl:List.take f.length (bS f++LV.sl j m.length (us m)::bS t)=bS f:=by rw[<- W];exact ts
 have M:List.drop (f.length+1) (bS f++LV.sl j m.length (us m)::bS t)=bS t:=by rw[<- W,show bS f++LV.sl j m.length (us m)::bS t=(bS f++[LV.sl j m.length (us m)])++bS t by simp];rw[show(bS f).length+1=(bS f++[LV.sl j m.length (us m)]).length by simp];exact rq
 rw[hRl]at f5;rw[hcs]at w;rw[<- hR1l]at hm;have t00:¬j=0:=O;have m1:¬c.z=s.z:=O;have m1':¬s.z=c.z:=O;have m2:¬c.z+1=s.z:=O;have m2':¬s.z=c.z+1:=O;have m5:¬j=s.z:=O;have m6:¬j=s.z+1:=O;have m6b:¬j=s.z+2:=O;have m5':¬s.z=j:=O;have m6':¬s.z+1=j:=O;have m6b':¬s.z+2=j:=O;have m7:¬q=s.z:=O;have m8:¬q=s.z+1:=O;have m9:¬q=s.z+2:=O;have m9b:¬q=s.z+3:=O;have n4:¬q=j:=bW w A Y;have r2:¬s.z=s.z+1+1:=O;have r3:¬s.z=s.z+1+1+1:=O;have p1:f.length<f.length+(t.length+1):=O;have p2:(f.length:Int)<(f.length:Int)+((t.length:Int)+1):=O;have hr1:m.length<=1000:=O;refine V6 m1 m1' m2 m2' f4 f5 f6 L D F dS hd hel o9 hw T hm ?_
 (refine zS [] [s.z,q] [0,2,4,6,8,10,12,14,16,18,20,23] ?_;intro J Q;simp[m1,m1',m2,m2',m5,m6,m6b,m5',m6',m6b',m7,m8,m9,m9b,n4,r2,r3,f5,w,A,W,hdl,htl,M,p1,p2,t00];(repeat refine ca ?_);(refine zJ Q ?_;clear Q J))
 refine cm F hw ?_;have l2:¬v.z+1=q:=bW X w Y;have l3:¬v.z+1=j:=bW X A Y;have l4:¬c.z=q:=fun h=>N h.symm;have l5:¬c.z=j:=bW S A Y;have l6:¬c.z+1=q:=bW T w Y;have l7:¬c.z+1=j:=bW T A Y;have l8:¬o=q:=bW K w Y;have l9:¬o=j:=bW K A Y;refine hJJ (g.E.length-(k+1)) _ _ O ⟨k+1,O,rfl,Z f2,Z f4,Z f6,Z L,Z D,Y,o,q,mes,f++(s.z+3,m++[id])::t,Z f5,?_⟩;rw[htk1];have hnd':=hnd;rw[cz,ax,bo,bw]at hnd';obtain⟨nd1,⟨nd2,nd3⟩,nd4⟩:=hnd';refine⟨?_,?_,?_,?_,?_,?_,U.keep hs,?_,?_,?_,?_⟩
 ·(repeat (first|rw[ay aE]|rw[aA O]|rw[az bf]|rw[aB O]));exact X
 ·(repeat (first|rw[ay aE]|rw[aA O]|rw[az bf]|rw[aB O]));rw[hs];exact S
 ·(repeat (first|rw[ay aE]|rw[aA O]|rw[az bf]|rw[aB O]));rw[hs];exact K
 ·(repeat (first|rw[ay aE]|rw[aA O]|rw[az bf]|rw[aB O]));exact T
 ·(repeat (first|rw[ay aE]|rw[aA O]|rw[az bf]|rw[aB O]));simp[bS,KA]
 .rw[hB1,cz,ax,hR1,hR2]
 .rw[cz,ax,bo,bw];have lt1:∀ x∈f.map (·.1),x<s.z:=fun x hx=>by obtain⟨p,d,rfl⟩:=ao.1 hx;exact(V9 p (Z d)).2.1
  have lt2:∀ x∈t.map (·.1),x<s.z:=fun x hx=>by obtain⟨p,d,rfl⟩:=ao.1 hx;exact(V9 p (Z d)).2.1
  refine⟨nd1,⟨fun h=>by have:=lt2 _ h;omega,nd3⟩,fun x hx y hy=>?_⟩;rcases ai.1 hy with rfl|hy
  .have:=lt1 x hx;simp only;omega
  .exact nd4 x hx y (aq _ hy)
 .intro p d;have old:∀ p,p∈f\/p∈t->¬p.1=j->v.z<=p.1/\p.1<s.z/\s.H p.1=.own 34 1 p.2.length/\¬p.1=j/\¬p.1=q:=by intro p d Tv;obtain⟨h1,h2,P⟩:=V9 p (by rcases d with d|d<;>simp[d]);exact⟨h1,h2,P,Tv,bW P w Y⟩
  have hp':(p∈f\/p∈t)/\¬p.1=j\/p=(s.z+3,m++[id]):=by
   rcases am.1 d with d|d
   .exact .inl ⟨.inl d,nd4 _ (ao.2 ⟨p,d,rfl⟩) j Y⟩
   .rcases ai.1 d with d|d
    .exact .inr d
    .exact .inl ⟨.inr d,fun h=>nd2 (by rw[<- h];exact ao.2 ⟨p,d,rfl⟩)⟩
  rcases hp' with⟨d,Tv⟩|rfl
  .obtain⟨h1,h2,P,t1,t2⟩:=old p d Tv;refine⟨h1,by simp only[bP,aK];omega,?_⟩
   (repeat (first|rw[ay aE]|rw[aA O]|rw[az bf]|rw[aB O]));exact P
  .refine⟨by simp only;omega,Y,?_⟩;simp only
   (repeat (first|rw[ay aE]|rw[aA O]|rw[az bf]|rw[aB O]));simp
 .simp only[bP,aK];omega
 .refine⟨by have:=hkps.z;simp only[bP,aK];omega,fun l hl=>?_⟩
  (repeat (first|rw[ay aE]|rw[aA O]|rw[az bf]|rw[aB O]));exact hkps.H l hl
abbrev VB:=Int×Nat
def jZ(H:QP)(L:List VB):List (PP×LV):=L.map fun p=>([p.1],.ms p.2 0 (cr p.1 H).length)
structure NbM(H:QP)(lo:Nat)(m:Nat)(L:List VB)(s:St):Prop where
 hm:s.H m=.map false [.u32] (jZ H L)
 bx:∀ p∈L,lo<=p.2/\p.2<s.z/\s.H p.2=.box 34 1 (us (cr p.1 H))
 nd:(L.map (·.2)).Nodup
 kd:(L.map (·.1)).Nodup
 all:∀ v,cr v H≠[]↔v∈L.map (·.1)
theorem AU{H:QP}{v:Int}:∀ {L:List VB},v∉L.map (·.1)->bY (jZ H L) [v]=none
 |[],_=>rfl
 |p::L,h=>by simp only[ax,ai,fJ]at h;simp only[jZ,ax,bY];rw[aa (by simpa using h.1)];exact AU h.2
theorem yY{H:QP}{v:Int}{q:Nat}:∀ {L1 L2:List VB},v∉L1.map (·.1)->bY (jZ H (L1++(v,q)::L2)) [v]=some (.ms q 0 (cr v H).length)
 |[],L2,_=>by simp[jZ,bY]
 |p::L1,L2,h=>by simp only[ax,ai,fJ]at h;simp only[List.cons_append,jZ,ax,bY];rw[aa (by simpa using h.1)];exact yY h.2
theorem Kw{H H':QP}{v:Int}{q q':Nat}:∀ {L1 L2:List VB},v∉L1.map (·.1)->v∉L2.map (·.1)->(∀ u,u≠v->cr u H'=cr u H)->bX (jZ H (L1++(v,q)::L2)) [v] (.ms q' 0 (cr v H').length)=jZ H' (L1++(v,q')::L2)
 |[],L2,_,h2,hn=>by
  simp only[List.nil_append,jZ,ax,bX,beq_self_eq_true,ef]
  congr 1
  refine jf fun p b=>?_;rw[hn p.1 (fun e=>h2 (by rw[<- e];exact ao.2 ⟨p,b,rfl⟩))]
 |p::L1,L2,h,h2,hn=>by simp only[ax,ai,fJ]at h;have a:=Kw (H:=H) (H':=H') (q:=q) (q':=q') (L1:=L1) (L2:=L2) h.2 h2 hn;simp only[List.cons_append,jZ,ax,bX]at a ⊢;rw[aa (by simpa using h.1),a,hn p.1 (fun e=>h.1 e.symm)]
theorem Iz{H H':QP}{v:Int}{q':Nat}:∀ {L:List VB},v∉L.map (·.1)->(∀ u,u≠v->cr u H'=cr u H)->bX (jZ H L) [v] (.ms q' 0 (cr v H').length)=jZ H' (L++[(v,q')])
 |[],_,_=>rfl
 |p::L,h,hn=>by simp only[ax,ai,fJ]at h;have a:=Iz (H:=H) (H':=H') (q':=q') (L:=L) h.2 hn;simp only[List.cons_append,jZ,ax,bX]at a ⊢;rw[aa (by simpa using h.1),a,hn p.1 (fun e=>h.1 e.symm)]
def Fu{a b u:Int}(h:u≠a):cr u (H++[(a,b)])=cr u H:=by rw[JL,aa (fun e=>h e.symm),dT]
def pH{a b:Int}:cr a (H++[(a,b)])=cr a H++[b]:=by rw[JL,ac rfl]
variable{L:List VB}
theorem NbM.add{l:Nat}(h:NbM H l m L s){a b:Int}(g:a∉L.map (·.1)){q':Nat}{s':St}(n:l<=q'/\s.z<=q'/\q' < s'.z)
 (t:s'.H m=.map false [.u32] (bX (jZ H L) [a] (.ms q' 0 (cr a H++[b]).length))) (r:s'.H q'=.box 34 1 (us (cr a H++[b]))) (w:∀ p∈L,s'.H p.2=s.H p.2) (C:s.z<=s'.z):NbM (H++[(a,b)]) l m (L++[(a,q')]) s':=by
 have c:∀ u,u≠a->cr u (H++[(a,b)])=cr u H:=fun u A=>Fu A;refine⟨?_,fun p d=>?_,?_,?_,fun v=>?_⟩
 .rw[t,<- pH,Iz g c]
 .rcases am.1 d with d|d
  .obtain⟨o,B,q⟩:=h.bx p d;exact⟨o,O,by rw[w p d,q,c p.1 (fun e=>g (by rw[<- e];exact ao.2 ⟨p,d,rfl⟩))]⟩
  .rw[bi]at d;subst d;exact⟨n.1,n.2.2,by rw[r,pH]⟩
 .rw[cz,bo];refine⟨h.nd,Y,fun x k y f=>?_⟩;obtain⟨p,d,rfl⟩:=ao.1 k;simp at f;have:=(h.bx p d).2.1;omega
 .rw[cz,bo];exact⟨h.kd,Y,fun x k y f=>by simp at f;subst f;rintro rfl;exact g k⟩
 .rw[cz,am];by_cases j:v=a
  .subst j;rw[pH];simp
  .rw[c v j,h.all v];simp[j]
def NbM.put{H:QP}{lo m:Nat}{L1 L2:List VB}{s:St}{a b:Int}{q:Nat}(h:NbM H lo m (L1++(a,q)::L2) s){q':Nat}{s':St}(hq:lo<=q'/\s.z<=q'/\q' < s'.z)
 (hm:s'.H m=.map false [.u32] (bX (jZ H (L1++(a,q)::L2)) [a] (.ms q' 0 (cr a H++[b]).length))) (hb:s'.H q'=.box 34 1 (us (cr a H++[b]))) (ho:∀ p,p∈L1\/p∈L2->p.2≠q->p.2<s.z->s'.H p.2=s.H p.2) (hn:s.z<=s'.z):NbM (H++[(a,b)]) lo m (L1++(a,q')::L2) s':=by
 have hoth:∀ u,u≠a->cr u (H++[(a,b)])=cr u H:=fun u hu=>Fu hu;have kd:=h.kd;have nd:=h.nd;rw[cz,ax,bo,bw]at kd nd;obtain⟨kd1,⟨kd2,kd3⟩,kd4⟩:=kd;obtain⟨nd1,⟨nd2,nd3⟩,nd4⟩:=nd;have ha1:a∉L1.map (·.1):=fun e=>kd4 a e a Y rfl;have hb1:∀ p,p∈L1\/p∈L2->p.1≠a/\p.2≠q/\(lo<=p.2/\p.2<s.z/\s.H p.2=.box 34 1 (us (cr p.1 H))):=by
  intro p hp;refine⟨?_,?_,h.bx p (by rcases hp with hp|hp<;>simp[hp])⟩
  .rcases hp with hp|hp
   .exact fun e=>ha1 (by rw[<- e];exact ao.2 ⟨p,hp,rfl⟩)
   .exact fun e=>kd2 (by rw[<- e];exact ao.2 ⟨p,hp,rfl⟩)
  .rcases hp with hp|hp
   .exact nd4 _ (ao.2 ⟨p,hp,rfl⟩) q Y
   .exact fun e=>nd2 (by rw[<- e];exact ao.2 ⟨p,hp,rfl⟩)
 refine⟨?_,fun p hp=>?_,?_,?_,fun v=>?_⟩
 .rw[hm,<- pH,Kw ha1 kd2 hoth]
 .have hp':(p∈L1\/p∈L2)\/p=(a,q'):=by
   rcases am.1 hp with hp|hp
   .exact .inl (.inl hp)
   .rcases ai.1 hp with hp|hp
    .exact .inr hp
    .exact .inl (.inr hp)
  rcases hp' with hp|rfl
  .obtain⟨h1,h2,h3,h4,h5⟩:=hb1 p hp;exact⟨h3,O,by rw[ho p hp h2 h4,h5,hoth p.1 h1]⟩
  .exact⟨hq.1,hq.2.2,by rw[hb,pH]⟩
 .rw[cz,ax,bo,bw];have lt:∀ p,p∈L1\/p∈L2->p.2<s.z:=fun p hp=>(hb1 p hp).2.2.2.1;refine⟨nd1,⟨fun e=>?_,nd3⟩,fun x hx y hy=>?_⟩
  .obtain⟨p,hp,e⟩:=ao.1 e;have:=lt p (.inr hp);simp only at e;omega
  .rcases ai.1 hy with rfl|hy
   .obtain⟨p,hp,rfl⟩:=ao.1 hx;have:=lt p (.inl hp);omega
   .exact nd4 x hx y (aq _ hy)
 .have:=h.kd;rw[cz,ax]at this ⊢;exact this
 .by_cases hv:v=a
  .subst hv;rw[pH];simp
  .rw[hoth v hv,h.all v,cz,cz,ax,ax]
theorem nZ{c d:Type}{f:c->d}:∀ {L:List c},(L.map f).Nodup->∀ {x y:c},x∈L->y∈L->f x=f y->x=y
 |[],_,_,_,hx,_,_=>by simp at hx
 |z::L,h,x,y,hx,hy,e=>by
  simp only[ax,bw]at h;rcases ai.1 hx with a|a<;>rcases ai.1 hy with b|b
  .rw[a,b]
  .exact absurd (ao.2 ⟨y,b,by rw[<- e,a]⟩) h.1
  .exact absurd (ao.2 ⟨x,a,by rw[e,b]⟩) h.1
  .exact nZ h.2 a b e
def Cs{k:List iM}{a:ah}{b:St}{x:Code}(I:ah->St->Prop)(c:bq P N x (AK P N (fun e f s=>e=.normal/\I f s) []) a b)(d:∀ a b,I a b->AK P N Q k .normal a b):
 bq P N x (AK P N Q k) a b:=by
 refine dR c ?_;rintro e j h ⟨rfl,g⟩;exact d _ _ g
def Pu{c:Code}{a:ah}{b:St}(I:ah->St->Prop)(d:I a b)(h:∀ a b,I a b->bq P N c Q a b):bq P N c Q a b:=h _ _ d
def NbM.keeps(h:NbM H b m L s)(k:aC s c)(f:m<s.z):NbM H b m L c:=
 ⟨by rw[k.H m f];exact h.hm,fun p g=>by obtain⟨d,a,e⟩:=h.bx p g;exact⟨d,dc a k.z,by rw[k.H _ a];exact e⟩,h.nd,h.kd,h.all⟩
def Lj(d:St)(H:QP)(M:Nat)(L:List VB)(a:List (PP×LV))(b:ah)(s:St):Prop:=
 b 3=.mp M/\(a.map (·.1)).Nodup/\(∀ e∈a,∃ p∈L,e=([p.1],.ms p.2 0 (cr p.1 H).length))/\s.H M=.frz false [.u32] (jZ H L)/\M<s.z/\aC d s/\
 ∀ p∈L,p.2<s.z/\∃ c,s.H p.2=.box 34 1 (us c)/\c.Perm (cr p.1 H)/\([p.1]∉a.map (·.1)->c.Pairwise (·<=·))
def we(b:St)(S:QR)(M k:Nat)(H:QP)(a:ah)(s:St):Prop:=
 a 3=.mp M/\a 17=.sl 0 S.length (eds S)/\a 18=i S.length/\a 19=i k/\b.z<=M/\M<s.z/\aC b s/\∃ L,NbM H b.z M L s
def XX(g:Gr)(T:St)(hv:g.V.length<=1048576)(he:g.E.length<=1000)(w:0<T.z):
 aD prog 179 [.ag (aw g)] T fun r st'=>∃ m L,r=.mp m/\T.z<=m/\m<st'.z/\aC T st'/\st'.H m=.map false [.u32] (Kc L)/\(∀ p∈L,T.z<=p.2.1/\st'.H p.2.1=.box 34 1 p.2.2)/\(L.map fun p=>p.2.1).Nodup/\
  ∃ K:PP,K.Nodup/\(∀ v,cr v (fC (sE g.E))≠[]↔v∈K)/\L.map (fun p=>(p.1,p.2.2))=K.map fun v=>([v],us (dG g.E v)):=by
 have hel:=aL (sE g.E);have hsl:=pZ g.E;refine zN func179 ntmps179 [.tmp 2] ?_
 (refine ez ?_;intro J D)
 refine qE (Sy g _ hv O Y) Y ?_;rintro r s1 ⟨rfl,j8⟩;have hn1:=j8.z;simp only[aK]at hn1;have hkp1:aC T s1:=((aC.new _ _).trans (aC.new _ _)).trans j8;have hm1:s1.H (T.z+1)=.map false [.u32] []:=by rw[j8.H _ Y];simp
 have e1:¬T.z+1=s1.z:=O;generalize hbl:(bnd g.E).length=bl;generalize hbc:((bnd g.E).map fun l=>LV.sl 0 l.length (us l))=bc;refine pY D hel ?_;refine qL (fun n fr s=>∃ k:Nat,k<=(sE g.E).length/\n=(sE g.E).length-k/\we T (sE g.E) (T.z+1) k (fC ((sE g.E).take k)) fr s) (sE g.E).length ?_ ?_
 .refine⟨0,O,O,Y,Y,Y,Y,O,by simp;omega,(hkp1.trans (aC.new _ _)),[],?_⟩;exact⟨by simp[e1,hm1,jZ],Y,Y,Y,by simp[fC,cr]⟩
 rintro n fr s ⟨k,hk,rfl,Q,B,y,A,t,R,I,L,j⟩ JJ hJJ;generalize hMM:T.z+1=M at *;by_cases dS:k<(sE g.E).length;rotate_left
 .clear hJJ;have hk':k=(sE g.E).length:=O;rw[hk',fq]at j;apply qS
  (refine zE ?_;intro J D;simp[y,A,dS];(refine zJ D ?_;clear D J))
  apply qS
  (apply qC;simp[])
  refine qX (zZ ?_);have hHl:(fC (sE g.E)).length<=2000:=by rw[Hr];omega
  generalize hHH:fC (sE g.E)=H at *;apply qS;refine Gl oP [] (Lj T H M L) (Z Q) j.hm ?_ ?_ ?_ underlying62
  .intro r;refine⟨Z Q,?_,?_,Y,by simp;omega,I.set t _,fun p w=>?_⟩
   .have:=j.kd;rw[jZ,dC];have e:L.map ((fun x=>x.1)∘fun p:VB=>(([p.1],LV.ms p.2 0 (cr p.1 H).length):PP×LV))=(L.map (·.1)).map fun v=>[v]:=by rw[dC];rfl
    rw[e];exact this.map (fun v=>[v]) fun a b r9 h=>r9 (by simpa using h)
   .intro e hee;obtain⟨p,w,rfl⟩:=ao.1 hee;exact⟨p,w,rfl⟩
   .obtain⟨h1,h2,h3⟩:=j.bx p w;have h4:¬p.2=M:=bW h3 j.hm Y;refine⟨by simp;exact h2,cr p.1 H,by rw[cC,aa h4];exact h3,.refl _,fun h=>absurd (ao.2 ⟨_,ao.2 ⟨p,w,rfl⟩,rfl⟩) h⟩
  .rintro r L1 e L2 fr s2 ⟨F3,hnd,hem,hMd,o,hK2,hbx⟩ ft J D;obtain⟨p,w,rfl⟩:=hem e Y;obtain⟨v,q⟩:=p;obtain⟨hql,c,hcH,hcp,-⟩:=hbx (v,q) w;have r8:c.length=(cr v H).length:=hcp.length_eq;have v8:=BQ v H;simp only at r8 hcH hql hcp;have hsort:=YJ c q s2 O hql hcH;rw[r8]at hsort;apply cP;simp[GD,fp]
   (refine nV D ?_;intro J D)
   refine qE (hsort) (by simp[]) ?_;rintro r st' ⟨d,y9,hd2,hd3,S⟩
   (repeat' (apply cP;simp[];(refine zJ D ?_;clear D J)))
   rw[cz,ax,bo,bw]at hnd;obtain⟨nd1,⟨nd2,nd3⟩,nd4⟩:=hnd;have hMq:¬M=q:=fun h=>by rw[h,hcH]at hMd;cases hMd
   refine D _ _ ⟨Z F3,?_,fun e he=>hem e (by simp only[am,ai]at he ⊢;rcases he with h|h;exact .inl h;exact .inr (.inr h)),by rw[S.2 M hMq o];exact hMd,dc o S.1,?_,fun p hp2=>?_⟩ (Z ft) (by rw[S.2 M hMq o];exact hMd)
   .rw[cz,bo];exact⟨nd1,nd3,fun a ha b hb=>nd4 a ha b (aq _ hb)⟩
   .have hq0:T.z<=q:=(j.bx (v,q) w).1;exact⟨fa hK2.z S.1,fun l hl=>by rw[S.2 l O (dc hl hK2.z)];exact hK2.H l hl⟩
   .obtain⟨h1,c2,h2,h3,h4⟩:=hbx p hp2;by_cases hpq:p.2=q
    .obtain rfl:p=(v,q):=by exact nZ j.nd hp2 w hpq
     exact⟨dc h1 S.1,d,y9,hd2.trans hcp,fun _=>hd3⟩
    .refine⟨dc h1 S.1,c2,by rw[S.2 _ hpq h1];exact h2,h3,fun o7=>h4 fun W=>o7 ?_⟩;rw[cz,ax,am,ai]at W;rw[cz,am];rcases W with h|h|h
     .exact .inl h
     .exfalso;simp at h;have e2:=nZ j.kd hp2 w h;exact hpq (by rw[e2])
     .exact .inr h
  .rintro fr s2 ⟨F3,-,-,hMd,o,hK2,hbx⟩;simp only[ak];have v8:∀ v,(us (dG g.E v)).length=(cr v H).length:=fun v=>by rw[du,<- hHH];exact(sN _).length_eq
   refine df F3 ?_;refine⟨t,O,hK2.set t _,L.map fun p=>([p.1],p.2,us (dG g.E p.1)),?_,?_,?_,L.map (·.1),j.kd,?_,?_⟩
   .congr 1
    rw[Kc,dC,jZ];refine jf fun p _=>?_;simp only[Function.comp,v8]
   .intro a q b W;obtain⟨p,w,he⟩:=ao.1 W;injection he with e1 e2;injection e2 with e2 e3;subst e1 e2 e3;obtain⟨h1,c,h2,h3,h4⟩:=hbx p w;have h5:¬p.2=M:=fun h=>by rw[h,hMd]at h2;cases h2
    rw[aa h5];refine⟨(j.bx p w).1,?_⟩;rw[h2,Yd h3 (h4 Y),<- hHH];rfl
   .have:=j.nd;rw[dC];exact this
   .intro v;exact j.all v
   .rw[dC,dC];rfl
 have hd:=aP (sE g.E) k dS;have hw:=qN k O;have o9:k*3<(sE g.E).length*3:=O;have htk1:(sE g.E).take (k+1)=(sE g.E).take k++[(sE g.E).getD k ed0]:=by rw[bv,bu dS];exact fh dS
 have hEl:(fC ((sE g.E).take k)).length<=2000:=by rw[Hr,dj];omega
 generalize (sE g.E).getD k ed0=x at *;have hH2:fC ((sE g.E).take (k+1))=fC ((sE g.E).take k)++[(x.a,x.b)]++[(x.b,x.a)]:=by rw[htk1,VO]
 obtain⟨id,a,b⟩:=x;simp only at hd hH2;generalize fC ((sE g.E).take k)=H at *;have b0:¬s.z=M:=O;refine oh B y A dS hd hel o9 ?_;refine Pu (fun f U=>we T (sE g.E) M k H f U/\f 7=.pt s.z 0/\s.z<U.z/\U.H s.z=.box 36 3 [u id,u a,u b]) ?_ ?_
 .exact⟨⟨Z Q,Z B,Z y,Z A,t,by simp;omega,I.trans (aC.new _ _),L,j.keeps (aC.new _ _) R⟩,Y,Y,Y⟩
 generalize s.z=X at *;clear j I t R A y B Q L;rintro fr s ⟨⟨Q,B,y,A,t,R,I,L,j⟩,f7,hXl,hX⟩;refine cM (fun f U=>we T (sE g.E) M k (H++[(a,b)]) f U/\f 7=.pt X 0/\X<U.z/\U.H X=.box 36 3 [u id,u a,u b]) ?_ ?_
 .clear hJJ;have o:=j.hm;have x1:¬X=M:=bW hX o Y;have x2:¬M=X:=fun h=>x1 h.symm;have x3:¬X=s.z:=O;have x4:¬X=s.z+1:=O;have y3:¬M=s.z:=O;have y4:¬M=s.z+1:=O;have y5:¬s.z=M:=O;have y6:¬s.z+1=M:=O;have v8:=BQ a (H);by_cases W:a∈L.map (·.1)
  .obtain⟨p,w,rfl⟩:=ao.1 W;obtain⟨v,q⟩:=p;obtain⟨L1,L2,rfl⟩:=fo w;have kd:=j.kd;rw[cz,ax,bo]at kd;have C:=yY (H:=H) (q:=q) (L1:=L1) (L2:=L2) (v:=v) (fun e=>kd.2.2 v e v Y rfl);obtain⟨q1,q2,q3⟩:=j.bx (v,q) Y;simp only at q1 q2 q3 v8;have z1:¬q=M:=bW q3 o Y;have z2:¬q=s.z:=O;have z3:¬q=s.z+1:=O;have z4:¬X=q:=bW hX q3 Y;have z5:¬M=q:=fun h=>z1 h.symm;have z6:List.take (cr v (H)).length (us (cr v (H)))=us (cr v (H)):=ej Y
   have N:=j.put (b:=b) (q':=s.z+1) (s':=(((s.new (.own 34 1 1)).set q .dead).new (.box 34 1 (us (cr v (H)++[b])))).set M (.map false [.u32] (bX (jZ (H) (L1++(v,q)::L2)) [v] (.ms (s.z+1) 0 (cr v (H)++[b]).length)))) ⟨O,O,Y⟩ Y (by(repeat (first|rw[ay aE]|rw[aA O]|rw[az bf]|rw[aB O]))) (fun p w h1 h2=>by
    have:=j.bx p (by rcases w with w|w<;>simp[w]);have h3:¬p.2=M:=bW this.2.2 o Y
    (repeat (first|rw[ay aE]|rw[aA O]|rw[az bf]|rw[aB O]))) (by simp;omega)
   generalize hF:cr v (H)=F at *;generalize hN:jZ (H) (L1++(v,q)::L2)=EM at *
   (refine zS [33] [X,M] [0,2,4,6,8,10,12,14,16,18,20,23] ?_;intro J D;simp[Q,f7,hX,o,x1,x2,x3,x4,y3,y4,y5,y6,C,q3,z1,z2,z3,z4,z5,z6];(repeat refine ca ?_);(refine zJ D ?_;clear D J))
   refine⟨by trivial,⟨Z Q,Z B,Z y,Z A,t,by simp;omega,?_,L1++(v,s.z+1)::L2,?_⟩,Z f7,by simp;omega,?_⟩
   .refine⟨by have:=I.z;simp;omega,fun l hl=>?_⟩;have:=I.z
    (repeat (first|rw[ay aE]|rw[aA O]|rw[az bf]|rw[aB O]));exact I.H l hl
   .simpa using N
   ·(repeat (first|rw[ay aE]|rw[aA O]|rw[az bf]|rw[aB O]));exact hX
  .have C:=AU (H:=H) W;have Z9:cr a (H)=[]:=by
    cases hc:cr a (H) with
    |nil=>rfl
    |cons _ _=>exact absurd ((j.all _).1 (by rw[hc];simp)) W
   have N:=j.add (a:=a) (b:=b) (q':=s.z+1) (s':=((s.new (.own 34 1 1)).new (.box 34 1 (us (cr a (H)++[b])))).set M (.map false [.u32] (bX (jZ (H) L) [a] (.ms (s.z+1) 0 (cr a (H)++[b]).length)))) W ⟨O,O,Y⟩ Y (by(repeat (first|rw[ay aE]|rw[aA O]|rw[az bf]|rw[aB O]))) (fun p w=>by
    have:=j.bx p w;have h3:¬p.2=M:=bW this.2.2 o Y
    (repeat (first|rw[ay aE]|rw[aA O]|rw[az bf]|rw[aB O]))) (by simp only[bP,aK];omega)
   rw[Z9]at N;generalize hN:jZ (H) L=EM at *
   (refine zS [33] [X,M] [0,2,4,6,8,10,12,14,16,18,20,23] ?_;intro J D;simp[Q,f7,hX,o,x1,x2,x3,x4,y3,y4,y5,y6,C];(repeat refine ca ?_);(refine zJ D ?_;clear D J))
   refine⟨by trivial,⟨Z Q,Z B,Z y,Z A,t,by simp;omega,?_,L++[(a,s.z+1)],?_⟩,Z f7,by simp;omega,?_⟩
   .refine⟨by have:=I.z;simp;omega,fun l hl=>?_⟩;have:=I.z
    (repeat (first|rw[ay aE]|rw[aA O]|rw[az bf]|rw[aB O]));exact I.H l hl
   .simpa using N
   ·(repeat (first|rw[ay aE]|rw[aA O]|rw[az bf]|rw[aB O]));exact hX
 clear j I t R A y B Q f7 hXl hX L;rintro fr s ⟨⟨Q,B,y,A,t,R,I,L,j⟩,f7,hXl,hX⟩;have hEl2:(H++[(a,b)]).length<=2001:=by rw[cb];simp only[List.length_cons,List.length_nil];omega
 generalize H++[(a,b)]=P at *;refine Cs (fun f U=>we T (sE g.E) M k (P++[(b,a)]) f U/\f 7=.pt X 0/\X<U.z/\U.H X=.box 36 3 [u id,u a,u b]) ?_ ?_
 .clear hJJ;have o:=j.hm;have x1:¬X=M:=bW hX o Y;have x2:¬M=X:=fun h=>x1 h.symm;have x3:¬X=s.z:=O;have x4:¬X=s.z+1:=O;have y3:¬M=s.z:=O;have y4:¬M=s.z+1:=O;have y5:¬s.z=M:=O;have y6:¬s.z+1=M:=O;have v8:=BQ b (P);by_cases W:b∈L.map (·.1)
  .obtain⟨p,w,rfl⟩:=ao.1 W;obtain⟨v,q⟩:=p;obtain⟨L1,L2,rfl⟩:=fo w;have kd:=j.kd;rw[cz,ax,bo]at kd;have C:=yY (H:=P) (q:=q) (L1:=L1) (L2:=L2) (v:=v) (fun e=>kd.2.2 v e v Y rfl);obtain⟨q1,q2,q3⟩:=j.bx (v,q) Y;simp only at q1 q2 q3 v8;have z1:¬q=M:=bW q3 o Y;have z2:¬q=s.z:=O;have z3:¬q=s.z+1:=O;have z4:¬X=q:=bW hX q3 Y;have z5:¬M=q:=fun h=>z1 h.symm;have z6:List.take (cr v (P)).length (us (cr v (P)))=us (cr v (P)):=ej Y
   have N:=j.put (b:=a) (q':=s.z+1) (s':=(((s.new (.own 34 1 1)).set q .dead).new (.box 34 1 (us (cr v (P)++[a])))).set M (.map false [.u32] (bX (jZ (P) (L1++(v,q)::L2)) [v] (.ms (s.z+1) 0 (cr v (P)++[a]).length)))) ⟨O,O,Y⟩ Y (by(repeat (first|rw[ay aE]|rw[aA O]|rw[az bf]|rw[aB O]))) (fun p w h1 h2=>by
    have:=j.bx p (by rcases w with w|w<;>simp[w]);have h3:¬p.2=M:=bW this.2.2 o Y
    (repeat (first|rw[ay aE]|rw[aA O]|rw[az bf]|rw[aB O]))) (by simp;omega)
   generalize hF:cr v (P)=F at *;generalize hN:jZ (P) (L1++(v,q)::L2)=EM at *
   (refine zS [44] [X,M] [0,2,4,6,8,10,12,14,16,18,20,23] ?_;intro J D;simp[Q,f7,hX,o,x1,x2,x3,x4,y3,y4,y5,y6,C,q3,z1,z2,z3,z4,z5,z6];(repeat refine ca ?_);(refine zJ D ?_;clear D J))
   refine⟨by trivial,⟨Z Q,Z B,Z y,Z A,t,by simp;omega,?_,L1++(v,s.z+1)::L2,?_⟩,Z f7,by simp;omega,?_⟩
   .refine⟨by have:=I.z;simp;omega,fun l hl=>?_⟩;have:=I.z
    (repeat (first|rw[ay aE]|rw[aA O]|rw[az bf]|rw[aB O]));exact I.H l hl
   .simpa using N
   ·(repeat (first|rw[ay aE]|rw[aA O]|rw[az bf]|rw[aB O]));exact hX
  .have C:=AU (H:=P) W;have Z9:cr b (P)=[]:=by
    cases hc:cr b (P) with
    |nil=>rfl
    |cons _ _=>exact absurd ((j.all _).1 (by rw[hc];simp)) W
   have N:=j.add (a:=b) (b:=a) (q':=s.z+1) (s':=((s.new (.own 34 1 1)).new (.box 34 1 (us (cr b (P)++[a])))).set M (.map false [.u32] (bX (jZ (P) L) [b] (.ms (s.z+1) 0 (cr b (P)++[a]).length)))) W ⟨O,O,Y⟩ Y (by(repeat (first|rw[ay aE]|rw[aA O]|rw[az bf]|rw[aB O]))) (fun p w=>by
    have:=j.bx p w;have h3:¬p.2=M:=bW this.2.2 o Y
    (repeat (first|rw[ay aE]|rw[aA O]|rw[az bf]|rw[aB O]))) (by simp only[bP,aK];omega)
   rw[Z9]at N;generalize hN:jZ (P) L=EM at *
   (refine zS [44] [X,M] [0,2,4,6,8,10,12,14,16,18,20,23] ?_;intro J D;simp[Q,f7,hX,o,x1,x2,x3,x4,y3,y4,y5,y6,C];(repeat refine ca ?_);(refine zJ D ?_;clear D J))
   refine⟨by trivial,⟨Z Q,Z B,Z y,Z A,t,by simp;omega,?_,L++[(b,s.z+1)],?_⟩,Z f7,by simp;omega,?_⟩
   .refine⟨by have:=I.z;simp;omega,fun l hl=>?_⟩;have:=I.z
    (repeat (first|rw[ay aE]|rw[aA O]|rw[az bf]|rw[aB O]));exact I.H l hl
   .simpa using N
   ·(repeat (first|rw[ay aE]|rw[aA O]|rw[az bf]|rw[aB O]));exact hX
 clear j I t R A y B Q f7 hXl hX L;rintro fr s ⟨⟨Q,B,y,A,t,R,I,L,j⟩,f7,hXl,hX⟩;simp only[ak];refine cm A hw ?_;exact hJJ ((sE g.E).length-(k+1)) _ _ O ⟨k+1,O,rfl,Z Q,Z B,Z y,Y,t,R,I,L,by rw[hH2];exact j⟩
def Zu(a:QR)(v:Int):Option LV:=if dG a v=[]then none else some (.sl 0 (dG a v).length (us (dG a v)))
theorem Ef{a:QR}(v:Int):∀ {K:PP},bY (K.map fun v=>(([v],.sl 0 (dG a v).length (us (dG a v))):PP×LV)) [v]=if v∈K then some (.sl 0 (dG a v).length (us (dG a v)))else none
 |[]=>rfl
 |k::K=>by
  simp only[ax,bY];by_cases h:v=k
  .subst h;simp
  .have b:¬([v]==[k])=true:=by simpa using h
   rw[aa b,Ef v (K:=K)];simp[h]
def ZL(g:Gr)(d:St)(c:g.V.length<=1048576)(t:g.E.length<=1000)(w:0<d.z):
 aD prog 179 [.ag (aw g)] d fun r a=>∃ m j,r=.mp m/\d.z<=m/\m<a.z/\aC d a/\a.H m=.map false [.u32] j/\∀ v,bY j [v]=Zu g.E v:=by
 refine(CH (R:=fun L=>∃ K:PP,K.Nodup/\(∀ v,cr v (fC (sE g.E))≠[]↔v∈K)/\L.map (fun p=>(p.1,p.2.2))=K.map fun v=>([v],us (dG g.E v))) (XX g d c t w)).mono ?_;rintro r a ⟨m,L,rfl,n,f,o,q,K,x,b,s⟩;refine⟨m,_,rfl,n,f,o,q,fun v=>?_⟩;have e:Jz L=K.map fun v=>([v],.sl 0 (dG g.E v).length (us (dG g.E v))):=by
  have l:Jz L=(L.map fun p=>(p.1,p.2.2)).map fun p=>(p.1,LV.sl 0 p.2.length p.2):=by rw[dC];rfl
  rw[l,s,dC];refine jf fun v _=>?_;simp
 rw[e,Ef];unfold Zu;have k:dG g.E v=[]↔cr v (fC (sE g.E))=[]:=by
  have:=(sN (cr v (fC (sE g.E)))).length_eq;unfold dG;constructor
  .intro h;rw[h]at this;exact jc this.symm
  .intro h;rw[h];rfl
 by_cases c:v∈K
 .rw[ac c,aa (fun h=>(b v).2 c (k.1 h))]
 .rw[aa c]
  split
  .rfl
  .rename_i h;exact absurd ((b v).1 fun f=>h (k.2 f)) c
def vD(A:gj):List (PP×LV):=A.map fun p=>([p.1],u p.2)
def Ju(A:gj)(v:Int):bY (vD A) [v]=(lN A v).map u:=by
 induction A with
 |nil=>rfl
 |cons p A a=>
  simp only[vD,ax,bY,lN]at a ⊢;by_cases h:v=p.1
  .subst h;simp
  .rw[aa (by simpa using h),aa h];exact a
def TH{A:gj}(h:v∉A.map (·.1)):bX (vD A) [v] (u w)=vD (A++[(v,w)]):=by
 induction A with
 |nil=>rfl
 |cons p A a=>simp only[ax,ai,fJ]at h;have a:=a h.2;simp only[vD,ax,List.cons_append,bX]at a ⊢;rw[aa (by simpa using h.1),a]
def back(A:gj)(h:Nat)(XE g:Int)(n:Nat)(l:PP)(f:St)(hn:n<=100000)(I:jK A XE n g=some l)(T:h<f.z)(M:f.H h=.map false [.u32] (vD A)):
 aD prog 180 [.mp h,u XE,u g] f fun r t=>r=.sl 0 (g::l).reverse.length (us (g::l).reverse)/\aC f t:=by
 have S:=Fw I;refine cQ ?_;refine zN func180 ntmps180 [.tmp 6] ?_
 (repeat' (first|apply qS|apply qB|(refine w_e [10] ?_;intro J d;simp only[];simp[];(refine zJ d ?_;clear d J))))
 refine qL (fun k j s=>∃(v:Int) (W R:PP),jK A XE k v=some R/\g::l=W++R/\k<=n/\W.length+k<=n+1/\j 0=.mp h/\j 1=u XE/\j 8=u v/\∃ q,j 7=.ms q 0 W.length/\s.H q=.box 34 1 (us W)/\f.z<=q/\q<s.z/\aC f s) n ?_ ?_
 .exact⟨g,[g],l,I,rfl,O,by simp;omega,Y,Y,Y,f.z,Y,Y,au _,Y,aC.new _ _⟩
 rintro k j s ⟨v,W,R,b,E,X,P,C,w,D,q,y,F,e,U,B⟩ V o;have m:s.H h=.map false [.u32] (vD A):=by rw[B.H h T];exact M
 have Q:=Ju A v;by_cases c:v=XE
 .clear o;have N:R=[]:=by cases k<;>(simp only[jK,ac c,ap]at b;exact b.symm)
  subst N;rw[dT]at E;have a:(v != XE)=false:=by simpa using c
  (refine vL w D c a y ?_;intro J d)
  refine qE (BZ W q s (by unfold small;omega) F) (by simp[]) ?_;rintro r t rfl;refine pY d y ?_;exact⟨q,W.length,⟨rfl,rfl⟩,34,1,us W.reverse,Y,Y,by subst E;simp,(B.set e _).set e _⟩
 .cases k with
  |zero=>simp only[jK,aa c]at b;cases b
  |succ k=>
   simp only[jK,aa c,kj]at b;obtain⟨L,b,rfl⟩:=b;have a:(v != XE)=true:=by simpa using c
   have p:((bY (vD A) [v]).getD (u 0))=u ((lN A v).getD 0):=by rw[Q];cases lN A v<;>rfl
   generalize (lN A v).getD 0=x at *;have K:¬q=s.z:=O;have V9:List.take W.length (us W)=us W:=ej Y
   (repeat' (first|apply qS|apply qB|refine qK (zZ ?_)|(apply qC;simp[C,w,D,c,a,y,m,p,K,F,V9])|(refine zE ?_;intro J d;simp[C,w,D,c,a,y,m,p,K,F,V9];(repeat refine ca ?_);(refine zJ d ?_;clear d J))))
   refine o k _ _ O ⟨x,W++[x],L,b,by rw[E];simp,O,by simp;omega,Z C,Z w,Y,s.z+1,Y,Y,by have:=B.z;omega,Y,?_⟩;exact(((B.trans (aC.new _ _)).set e _).trans (aC.new _ _))
def Uh(b:LV)(a:Int->Bool)(d:St):Prop:=
 (b=.atom .nilFunc/\∀ v,a v=true)\/∃ f Kz,b=.fn (.func f) Kz/\Kz.map norm=Kz/\∀ v s,aC d s->aD prog f (u v::Kz) s fun r c=>r=bb (a v)/\aC s c
structure wg(j9:St)(A:gj)(Q:PP)(Ma Mn tq o:Nat)(es:List (PP×LV))(s:St):Prop where
 ha:s.H Ma=.map false [.u32] (vD A)
 hn:s.H Mn=.map false [.u32] es
 hq:s.H tq=.que 34 (o+Q.length)
 b:j9.z<=Ma/\j9.z<=Mn/\j9.z<=tq/\Ma<s.z/\Mn<s.z/\tq<s.z/\tq≠0/\¬Mn=Ma
 kp:aC j9 s
def Path(g:Gr)(XE D:Int)(th:LV)(b:Int->Bool)(n:Nat)(l:PP)(st:St)(hv:g.V.length<=1048576)(he:g.E.length<=1000)(hn:n<=1000)(hm:Uh th b st)(I:xE g.V (dG g.E) b XE D n=some l):
 aD prog 139 [.ag (aw g),u XE,u D,th] st fun r st'=>r=.sl 0 l.length (us l)/\aC st st':=by
 have hth:norm th=th:=by rcases hm with⟨rfl,_⟩|⟨f,c,rfl,_,_⟩<;>rfl
 refine cZ ?_;refine zN func139 ntmps139 [.tmp 8] ?_;refine fB fun hpos=>?_
 (refine ez ?_;intro J B)
 refine qE (Xb g XE _ hv) Y ?_;rintro r s1 ⟨rfl,j8⟩;have hn1:=j8.z;simp only[aK]at hn1;have hG1:s1.H st.z=.box 25 2 (aw g):=by rw[j8.H _ Y];simp
 have hkp1:aC st s1:=(aC.new _ _).trans j8;clear j8;unfold xE at I;by_cases hf:XE∈g.V;rotate_left
 .have h0:gi g.V XE<0:=(HN _ _).2 hf;rw[ac (.inl hf)]at I;injection I with I;subst I
  (apply cP;simp[h0];(refine zJ B ?_;clear B J))
  refine bz ?_;exact⟨rfl,hkp1⟩
 have h0:¬gi g.V XE<0:=fun h=>(HN _ _).1 h hf
 (apply cP;simp[h0,hG1])
 refine qE (Xb g D _ hv) Y ?_;rintro r s2 ⟨rfl,o6⟩;have hn2:=o6.z;have hG2:=(o6.H st.z O).trans hG1;have hkp2:=hkp1.trans o6;clear o6 hkp1 hG1 h0;by_cases ht:D∈g.V;rotate_left
 .have h0:gi g.V D<0:=(HN _ _).2 ht;rw[ac (.inr ht)]at I;injection I with I;subst I
  (apply cP;simp[h0];(refine zJ B ?_;clear B J))
  refine bz ?_;exact⟨rfl,hkp2⟩
 have h0:¬gi g.V D<0:=fun h=>(HN _ _).1 h ht;rw[aa (by simp[hf,ht])]at I
 (apply cP;simp[h0];(refine zJ B ?_;clear B J))
 by_cases hft:XE=D
 .rw[ac hft]at I;injection I with I;subst I;refine df hft ?_;refine⟨by simp[z0,dl,hft],hkp2.trans (aC.new _ _)⟩
 rw[aa hft]at I
 (refine qh hft hG2 ?_;intro J B)
 refine qE (ZL g _ hv he O) Y ?_;rintro r s3 ⟨Mn,es,rfl,m1,m2,o9,hMn,hes⟩;have hn3:=o9.z;have hkp3:=hkp2.trans o9;obtain⟨R0,hbfs,hR0⟩:∃ R0,ni (dG g.E) b D n [(XE,XE)] [XE]=some R0/\((R0=none/\l=[])\/∃ A l',R0=some A/\jK A XE n D=some l'/\l=(D::l').reverse):=by
  cases hb:ni (dG g.E) b D n [(XE,XE)] [XE] with
  |none=>rw[hb]at I;cases I
  |some R0=>
   rw[hb]at I;cases R0 with
   |none=>injection I with I;exact⟨_,rfl,.inl ⟨rfl,I.symm⟩⟩
   |some A=>simp only[kj]at I;obtain⟨l',h1,h2⟩:=I;exact⟨_,rfl,.inr ⟨A,l',rfl,h1,h2.symm⟩⟩
 clear I;refine dU B ?_;refine Ym 11 (t:=s3.z+1) (n:=1) (e:=34) (cs:=[u XE]) Y Y O O ?_;have hc0:¬Mn=s3.z:=O;have hc1:¬Mn=s3.z+1:=O;refine qL (fun k K s=>∃(A:gj) (Q:PP) (M o:Nat),ni (dG g.E) b D k A Q=some R0/\k<=n/\Q.length+2000*k<=2000*n+1/\K 1=u XE/\K 2=u D/\K 3=th/\K 9=.mp Mn/\K 10=.mp s3.z/\K 11=.qu M o Q.length (us Q)/\wg st A Q s3.z Mn M o es s) n ?_ ?_
 .refine⟨_,_,s3.z+1,0,hbfs,au _,by simp;omega,Y,Y,Y,Y,Y,Y,?_⟩;refine⟨by simp[vD,bX],jy hc0 hc1 hMn,Y,⟨O,O,O,by simp;omega,by simp;omega,Y,O,hc0⟩,?_⟩;exact(((hkp3.trans (aC.new _ _)).trans (aC.new _ _)).set (q:=s3.z+1) O _)
 generalize s3.z=Ma at *;clear o9 hn3 hkp3 hMn m1 m2 hG2 hkp2 hn2 hn1 hc0 hc1 hbfs;rintro k K s ⟨A,Q,M,o,hb,hk,hQ,W,X,f3,f9,w,d,L,P,N,⟨b1,b2,b3,b4,b5,b6,b7,b8⟩,j5⟩ JJ hJJ;cases Q with
 |nil=>
  clear hJJ;have h1:R0=none:=by cases k<;>(simp only[ni,ap]at hb;exact hb.symm)
  subst h1;rcases hR0 with⟨_,rfl⟩|⟨_,_,h,_⟩
  .refine df d ?_;exact⟨rfl,j5⟩
  .cases h
 |cons v Q=>
 cases k with
 |zero=>simp[ni]at hb
 |succ k=>
 have hQl:(Q.length:Int)+1 > 0:=O;have c7:=hes v;have hrl:=QY g.E v;simp only[ni]at hb;generalize hrw:dG g.E v=a at *;have hslc:List.take (Q.length+1-1) (us Q)=us Q:=ej Y;have hbn:¬(Q.length:Int)+1<=0:=O
 (repeat (first|apply qS|apply qB))
 (refine zE ?_;intro J B;simp[d,hQl];(refine zJ B ?_;clear B J))
 (repeat (first|apply qS|apply qB))
 (apply qC;simp[])
 refine qK ?_;simp only[ak]
 (repeat (first|apply qS|apply qB))
 (refine zE ?_;intro J B;simp[d,hQl];(refine zJ B ?_;clear B J))
 (repeat (first|apply qS|apply qB))
 (refine zE ?_;intro J B;simp[d,hQl,hslc];(repeat refine ca ?_);(refine zJ B ?_;clear B J))
 apply qS;refine cM (fun f T=>T=s/\f 1=u XE/\f 2=u D/\f 3=th/\f 9=.mp Mn/\f 10=.mp Ma/\f 11=.qu M (o+1) Q.length (us Q)/\f 12=u v/\(f 50=.nil/\a=[]\/f 50=.sl 0 a.length (us a))/\f 51=i a.length/\f 52=i (0:Nat)) ?_ ?_
 .clear hJJ;unfold Zu at c7;rw[hrw]at c7;by_cases hr0:a=[]
  .rw[ac hr0]at c7;refine fw f9 P c7 ?_;simp[W,X,f3,f9,w,hr0]
  .rw[aa hr0]at c7;refine fw f9 P c7 ?_;simp[W,X,f3,f9,w]
 clear W X f3 f9 w d K c7;rintro K T ⟨rfl,W,X,f3,f9,w,d,F,C,f51,f52⟩;apply qB;refine aV 52 51 53 84 a.length (fun j K st2=>K 1=u XE/\K 2=u D/\K 3=th/\K 9=.mp Mn/\K 10=.mp Ma/\K 12=u v/\(K 50=.nil/\a=[]\/K 50=.sl 0 a.length (us a))/\(eK b D v ⟨A,Q,false⟩ (a.take j)).hit=false/\∃ M o,K 11=.qu M o (eK b D v ⟨A,Q,false⟩ (a.take j)).Q.length (us (eK b D v ⟨A,Q,false⟩ (a.take j)).Q)/\wg st (eK b D v ⟨A,Q,false⟩ (a.take j)).A (eK b D v ⟨A,Q,false⟩ (a.take j)).Q Ma Mn M o es st2) ?_ ?_ ?_ (hti:=f52) (htn:=f51)
 .refine⟨W,X,f3,f9,w,F,C,rfl,M,o+1,d,⟨L,P,?_,⟨b1,b2,b3,b4,b5,b6,b7,b8⟩,j5⟩⟩;rw[N];simp only[List.take_zero,eK,List.foldl_nil,List.length_cons]
  congr 1
  omega
 .clear W X f3 f9 w d F C f51 f52 L P N b1 b2 b3 b4 b5 b6 b7 b8 j5 K hJJ;rintro j K s dS ⟨W,X,f3,f9,w,F,C,hh,M,o,d,L,P,N,⟨b1,b2,b3,b4,b5,b6,b7,b8⟩,j5⟩ fi fn J B;have C:K 50=.sl 0 a.length (us a):=by
   rcases C with⟨_,h⟩|h
   .rw[h]at dS;simp at dS
   .exact h
  have hd:=qG a j dS;have V9:a.take (j+1)=a.take j++[a.getD j 0]:=by rw[bv,bu dS];exact fh dS
  have p:=LU b D v ⟨A,Q,false⟩ (a.take j) (a.getD j 0);rw[<- V9]at p;have hsl:=Fg b D v ⟨A,Q,false⟩ (a.take j);simp only[dj]at hsl;have hfull:(eK b D v ⟨A,Q,false⟩ (a.take (j+1))).hit=true->eK b D v ⟨A,Q,false⟩ a=eK b D v ⟨A,Q,false⟩ (a.take (j+1)):=by intro h;have:a=a.take (j+1)++a.drop (j+1):=(gw _ _).symm;rw[this,eK,lD];have h2:=Ej b D v h (a.drop (j+1));simp only[eK]at h2 ⊢;rw[h2];simp
  generalize a.getD j 0=x at *;generalize hS:eK b D v ⟨A,Q,false⟩ (a.take j)=S at *;obtain⟨U,SQ,Sh⟩:=S;simp only at hh d L N hsl;subst hh;have R:=Ju U x;have hqa:¬M=Ma:=bW N L Y;have hqn:¬M=Mn:=bW N P Y;have hqa':¬Ma=M:=fun h=>hqa h.symm;have hqn':¬Mn=M:=fun h=>hqn h.symm;by_cases j7:x∈U.map (·.1)
  .obtain⟨y,hy⟩:=CZ j7;rw[hy]at R;simp only[Option.map_some]at R;have h1:iN b D v ⟨U,SQ,false⟩ x=⟨U,SQ,false⟩:=by simp[iN,j7]
   rw[h1]at p;refine Za B w C fi fn hd dS L R ?_;refine B _ _ (Z fi) (Z fn) ⟨Z W,Z X,Z f3,Z f9,Z w,Z F,.inr (Z C),by rw[p],M,o,by rw[p];simp[d],by rw[p];exact⟨L,P,N,⟨b1,b2,b3,b4,b5,b6,b7,b8⟩,j5⟩⟩
  rw[DM j7]at R;simp only[Option.map_none]at R;have hms:bX (vD U) [x] (u v)=vD (U++[(x,v)]):=TH j7;by_cases hxt:x=D
  .clear B;subst hxt;have h1:iN b x v ⟨U,SQ,false⟩ x=⟨U++[(x,v)],SQ,true⟩:=by unfold iN;rw[aa Y,aa j7,ac rfl]
   rw[h1]at p;have hf2:=hfull (by rw[p]);rw[hf2,p]at hb;simp only[ef,ap]at hb;subst hb;rcases hR0 with⟨h,_⟩|⟨A2,l',h,hbk,rfl⟩
   .cases h
   injection h with h;subst h
   (refine X8 W X w F C fi fn hd dS L R hms ?_;intro J B)
   refine qE (back (U++[(x,v)]) Ma XE x n l' _ O hbk (by simp;exact b4) Y) Y ?_;rintro r s4 ⟨rfl,hk4⟩;refine dU B ?_;refine⟨by simp only[z0];congr 1;have:=vR (x::l').reverse;simpa using this,?_⟩;exact(j5.set b1 _).trans hk4
  have h1:iN b D v ⟨U,SQ,false⟩ x=⟨U++[(x,v)],if b x=true then SQ++[x]else SQ,false⟩:=by unfold iN;rw[aa Y,aa j7,aa hxt]
  rw[h1]at p;have tn0:¬M=s.z:=O;have hQ2:SQ.length<=3000000:=by simp only[List.length_cons]at hQ;omega
  have hT2:∀ m T,T.H Ma=.map false [.u32] (vD (U++[(x,v)]))->T.H Mn=.map false [.u32] es->T.H m=.que 34 (0+(SQ++[x]).length)->st.z<=m->m<T.z->s.z<=T.z->aC st T->wg st (U++[(x,v)]) (SQ++[x]) Ma Mn m 0 es T:=fun m T h1 h2 h3 h4 h5 h6 h7=>⟨h1,h2,h3,⟨b1,b2,h4,O,O,h5,O,b8⟩,h7⟩;have hT1:∀ T,T.H Ma=.map false [.u32] (vD (U++[(x,v)]))->T.H Mn=.map false [.u32] es->T.H M=.que 34 (o+SQ.length)->s.z<=T.z->aC st T->wg st (U++[(x,v)]) SQ Ma Mn M o es T:=fun T h1 h2 h3 h6 h7=>⟨h1,h2,h3,⟨b1,b2,b3,O,O,O,b7,b8⟩,h7⟩;rcases hm with⟨rfl,hm⟩|⟨f,Kz,rfl,hcaps,hm⟩
  .rw[ac (hm x)]at p
   (repeat' (first|apply qS|refine qK (zZ ?_)|(apply qC;simp[W,X,f3,w,d,F,C,fi,fn,hd,dS,L,R,hms,hxt,N,hqa,hqn,hqa',hqn',tn0])|(refine zE ?_;intro J B;simp[W,X,f3,w,d,F,C,fi,fn,hd,dS,L,R,hms,hxt,N,hqa,hqn,hqa',hqn',tn0];(repeat refine ca ?_);(refine zJ B ?_;clear B J))))
   refine B _ _ (Z fi) (Z fn) ⟨Z W,Z X,Z f3,Z f9,Z w,Z F,.inr (Z C),by rw[p],s.z+1,0,by rw[p];simp,?_⟩;rw[p];refine hT2 _ _ (by(repeat (first|rw[ay aE]|rw[aA O]|rw[az bf]|rw[aB O]))) (by(repeat (first|rw[ay aE]|rw[aA O]|rw[az bf]|rw[aB O]));exact P) (by(repeat (first|rw[ay aE]|rw[aA O]|rw[az bf]|rw[aB O]));simp) O Y (by simp;omega) ?_;exact((((j5.set b1 _).trans (aC.new _ _)).set b3 _).trans (aC.new _ _))
  ·(refine G1 B W X f3 w d F C fi fn hd dS L R hms hxt ?_;intro J B)
   have hkz:aC st (s.set Ma (.map false [.u32] (vD (U++[(x,v)])))):=j5.set b1 _;refine qE (hm x _ hkz) (Z hcaps) ?_;rintro r s4 ⟨rfl,hk4⟩;have hn4:=hk4.z;simp only[bP]at hn4;have hPa4:s4.H Ma=.map false [.u32] (vD (U++[(x,v)])):=by rw[hk4.H Ma (by simp;exact b4)];simp
   have hPn4:s4.H Mn=.map false [.u32] es:=by rw[hk4.H Mn (by simp;exact b5)];simp[b8,P]
   have hPq4:s4.H M=.que 34 (o+SQ.length):=by rw[hk4.H M (by simp;exact b6)];simp[hqa,N]
   have tn4:¬M=s4.z:=O;cases hmy:b x
   .rw[hmy,aa Y]at p
    (repeat' (first|refine qK (zZ ?_)|(apply qC;simp[d])|(apply cP;simp[d];(refine zJ B ?_;clear B J))))
    refine B _ _ (Z fi) (Z fn) ⟨Z W,Z X,Z f3,Z f9,Z w,Z F,.inr (Z C),by rw[p],M,o,by rw[p];simp[d],?_⟩;rw[p];exact hT1 _ hPa4 hPn4 hPq4 hn4 (hkz.trans hk4)
   .rw[hmy,ac rfl]at p
    (repeat' (first|(apply qC;simp[d,hPq4,tn4])|((first|(refine zE ?_;intro J B)|(apply cP));simp[d,hPq4,tn4];(repeat refine ca ?_);(refine zJ B ?_;clear B J))))
    refine B _ _ (Z fi) (Z fn) ⟨Z W,Z X,Z f3,Z f9,Z w,Z F,.inr (Z C),by rw[p],s4.z+1,0,by rw[p];simp,?_⟩;rw[p];refine hT2 _ _ (by(repeat (first|rw[ay aE]|rw[aA O]|rw[az bf]|rw[aB O]));exact hPa4) (by(repeat (first|rw[ay aE]|rw[aA O]|rw[az bf]|rw[aB O]));exact hPn4) (by(repeat (first|rw[ay aE]|rw[aA O]|rw[az bf]|rw[aB O]));simp) O Y (by simp;omega) ?_;exact((((hkz.trans hk4).trans (aC.new _ _)).set b3 _).trans (aC.new _ _))
 .rintro K s ⟨W,X,f3,f9,w,F,C,hh,M,o,d,hB⟩;rw[fq]at hh d hB;rw[aa (by rw[hh];simp)]at hb;have hsl:=Fg b D v ⟨A,Q,false⟩ a;simp only at hsl;simp only[ak];refine hJJ k _ _ O ⟨_,_,M,o,hb,O,by simp only[List.length_cons]at hQ;omega,Z W,Z X,Z f3,Z f9,Z w,Z d,hB⟩
def Qx{b:PP}(h:v∉b):bY (yT b) [v]=none:=by
 have c:∀(L:PQ),(∀ j∈L,j<b.length)->bY (L.map fun k=>(([b.getD k 0],i k):PP×LV)) [v]=none:=by
  intro L;induction L with
  |nil=>intro _;rfl
  |cons j L f=>intro d;have a:=d j Y;have Tv:¬v=b.getD j 0:=fun e=>h (by rw[e,bT _ _ a];exact dz _);simp only[ax,bY];rw[aa (by simpa using Tv)];exact f fun j a=>d j (aq _ a)
 exact c _ fun j a=>ii.1 a
def Pf(a:PP)(v:Int):Int:=if v∈a then v else a.getD 0 0
def L9{g:PP}{t:Nat}{m:St}(o:mh g S t m)(p:g.Nodup)(h:g.length<=64)(q:0<g.length)(v:Int):
 aD prog 137 [.pt S 0,u v] m fun r n=>r=wv (mk g [Pf g v])/\n=m:=by
 unfold Pf;by_cases j:v∈g
 .rw[ac j];exact Vw o p h j
 .rw[aa j];obtain⟨⟨a,b,c,d,e,f,l⟩,hP⟩:=o;have s:=Qx j;have k:=NL p h q;have k:IE .u64 1 0=mk g [g.getD 0 0]:=k;refine zN func137 ntmps137 [.tmp 4] ?_;exact Ht l hP s k
def js(b a:PP)(v:Int):Bool:=decide (Pf b v∈a)
def J7{a:PP}(b:a.length<=64)(c:v∈a):((AA .u64 (mk a [v]) (mk a inner):Int) != 0)=decide (v∈inner):=by
 rw[SS _ _ _ b];by_cases h:v∈inner
 .have:mk a ([v].filter fun v=>decide (v∈inner))≠0:=fun e=>by have:=(mk_zero _ _).1 e v c;simp[h]at this
  simpa[h]using this
 .have:mk a ([v].filter fun v=>decide (v∈inner))=0:=(mk_zero _ _).2 fun w _=>by simp[h]
  rw[this];simp[h]
def G2{vs:PP}{st:St}(l:mh vs S pl st)(n:vs.Nodup)(c:vs.length<=64)(g:0<vs.length)(m:st.H a=.box 130 1 [.pt S 0])(j:st.H b=.box 138 2 [wv (mk vs inner),e])(v:Int):
 aD prog 145 [u v,.pt a 0,.pt b 0] st fun r f=>r=bb (js vs inner v)/\f=st:=by
 have d:Pf vs v∈vs:=by
  unfold Pf;by_cases h:v∈vs
  .rw[ac h];exact h
  .rw[aa h,bT _ _ g];exact dz _
 have o:=J7 (inner:=inner) c d;unfold js;refine zN func145 ntmps145 [.tmp 4] ?_;refine bz ?_
 (refine zS [] [a,b] [0,2,6,8,4,10,12,14] ?_;intro J k;simp[m,j])
 refine eL (L9 l n c g v) ?_;refine⟨fun h=>by first|(cases h;done)|exact fun _ _=>rfl|simp,?_⟩
 (apply bM;simp[j,o];refine zJ k ?_)
 exact vz
def S6{j f:PP}{l c:Nat}{g:St}(L:mh j S l g)(P:j.Nodup)(m:j.length<=64)(K:0<j.length)(M:g.H a=.box 130 1 [.pt S 0])(N:g.H b=.box 138 2 [wv (mk j f),e])
 (y:g.H c=.box 145 1 [.fn (.func 145) [.pt a 0,.pt b 0]]) (dS:S<g.z/\l<g.z/\a<g.z/\b<g.z/\c<g.z) (x:Ed):
 aD prog 146 [.ag (dv x),.pt c 0] g fun r o=>r=bb (js j f x.a||js j f x.b)/\aC g o:=by
 obtain⟨d,p,q⟩:=x;obtain⟨⟨B,C,D,E,F,I,n⟩,hP⟩:=L;have k:=aC.new g (.box 36 3 (dv ⟨d,p,q⟩));have w:=fun v=>G2 (vs:=j) (inner:=f) (e:=e) (S:=S) (pl:=l) (a:=a) (b:=b) (st:=g.new (.box 36 3 (dv ⟨d,p,q⟩))) ⟨⟨B,C,D,E,F,I,(k.H S dS.1).trans n⟩,(k.H l dS.2.1).trans hP⟩ P m K ((k.H a dS.2.2.1).trans M) ((k.H b dS.2.2.2.1).trans N) v;have s:¬c=g.z:=O;refine zN func146 ntmps146 [.tmp 3] ?_
 (refine qh y s ?_;intro J t)
 refine jr (w p) ?_;cases A:js j f p
 ·(apply cP;simp[y,s])
  refine jr (w q) ?_;refine dU t ?_;exact⟨fun h=>(by rw[A]at h;cases h),k⟩
 .refine dU t ?_;exact⟨.inl A,k⟩
end Aw
end Go.Proofs.YtbgngpdonpeboaaGreatDoor
