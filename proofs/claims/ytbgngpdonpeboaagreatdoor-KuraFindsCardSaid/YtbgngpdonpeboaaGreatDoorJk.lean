/- Lemmas. -/
import Derived.Test.YtbgngpdonpeboaaGreatDoorJj
set_option linter.defProp false
set_option maxHeartbeats 1000000
open Go.Proofs.Tryz
namespace Go.Proofs.YtbgngpdonpeboaaGreatDoor
namespace Aw
open Go Go.RowKit Pl
def EP:Gr:=⟨[1,2,3],[⟨1,1,2⟩,⟨2,2,3⟩,⟨3,3,1⟩]⟩
def eV:Gr:=⟨[1,2,3,4,5],[⟨1,1,2⟩,⟨2,1,3⟩,⟨3,1,4⟩,⟨4,1,5⟩,⟨5,2,3⟩,⟨6,2,4⟩,⟨7,2,5⟩,⟨8,3,4⟩,⟨9,3,5⟩,⟨10,4,5⟩]⟩
variable{g:Gr}{B:List (List Nat)}
def To(a:GoodE g){s:Bw}(h:vG g.E g.V.length g.V ⟨[],[],[],[]⟩=some s)(b:B.Perm s.out)(c:B.Pairwise fun x y=>x.headD 0<y.headD 0):gY g.E=B:=by
 grind [uQ,Cb]
def uW(b:GoodE g){out:List PQ}(h:(vG (sE g.E) g.V.length g.V ⟨[],[],[],[]⟩).map (·.out)=some out)(c:B.Perm out)(d:B.Pairwise fun x y=>x.headD 0<y.headD 0):aT g=B.map fun B=>B.map (an (sE g.E)):=by obtain⟨s,a,rfl⟩:=kj.1 h;unfold aT;rw[To (g:=⟨g.V,sE g.E⟩) b.simple a c d]
def KL:chk EP=0:=by decide +kernel
def uT:chk eV=0:=by decide +kernel
def QC:aT EP=[EP.E]:=by rw[uW (fF KL) (out:=[[0,1,2]]) (by decide +kernel) (tT _) (by decide)];decide +kernel
def LO:aT eV=[eV.E]:=by rw[uW (fF uT) (out:=[[0,1,2,3,4,5,6,7,8,9]]) (by decide +kernel) (tT _) (by decide)];decide +kernel
def AJ:(if chk eV=0 then iX eV (aT eV)else some none)=some none:=by rw[ac uT,LO];rfl
def Rq:(if chk EP=0 then iX EP (aT EP)else some none)=some (some ⟨EP,[[2,7],[3,4],[5,6]]⟩):=by rw[ac KL,QC];rfl
def sD(a b:Nat):QR:=eV.E.filter fun e=>decide (e.a<a)||(decide (e.a=a)&&decide (e.b<b))
def Pz(a b:Nat)(c:1<=a)(d:a<b)(e:b<=5):sD a (b+1)=sD a b++[⟨(sD a b).length+1,a,b⟩]:=by
 have h:∀ a:Fin 6,∀ b:Fin 6,1<=a.1->a.1<b.1->sD a.1 (b.1+1)=sD a.1 b.1++[⟨(sD a.1 b.1).length+1,a.1,b.1⟩]:=by decide +kernel
 exact h ⟨a,O⟩ ⟨b,O⟩ c d
def PA(a:Nat)(b:1<=a)(c:a<=5):sD a 6=sD (a+1) (a+2):=by
 have h:∀ a:Fin 6,1<=a.1->sD a.1 6=sD (a.1+1) (a.1+2):=by decide +kernel
 exact h ⟨a,O⟩ b
def Xc(a b:Nat):(sD a b).length<=10:=gx _ _
def zj(c:St)(a b:Nat)(s:St):Prop:=s.H c.z=.box 25 2 [.nil,.nil]/\aC c s/\∃ d t,s.H (c.z+2)=.box 25 2 [.sl d 5 (us [1,2,3,4,5]),.sl t (sD a b).length (eds (sD a b))]/\t≠0/\c.z+2<t/\t<s.z/\s.H t=.own 36 3 (sD a b).length
def Sn(c:St):aD prog 34 [] c fun r D=>r=.ag (aw eV)/\aC c D:=by
 refine cZ ?_;refine zN func34 ntmps34 [.cell 0 25] ?_;refine fB fun Q=>?_;refine bz ?_;refine sM (c.z+2) 36 3 (e:=25) (s:=2) [.sl (c.z+1) 5 (us [1,2,3,4,5])] [] Y ?_;refine qL (fun n d s=>∃ a:Nat,1<=a/\a<=6/\n=6-a/\d 0=.pt c.z 0/\d 1=.pt (c.z+2) 0/\d 2=u a/\zj c a (a+1) s) 5 ?_ ?_
 .refine⟨1,O,O,rfl,Y,Y,Y,?_,?_,c.z+1,c.z+3,?_,O,O,Y,?_⟩
  ·(repeat (first|rw[ay aE]|rw[aA O]|rw[az bf]|rw[aB O]))
  .exact(((((aC.new _ _).trans (aC.new _ _)).trans (aC.new _ _)).set O _).trans (aC.new _ _)).set O _
  .have:sD 1 (1+1)=[]:=by decide +kernel
   rw[this];(repeat (first|rw[ay aE]|rw[aA O]|rw[az bf]|rw[aB O]));simp[us,eds]
  .have:sD 1 (1+1)=[]:=by decide +kernel
   rw[this];(repeat (first|rw[ay aE]|rw[aA O]|rw[az bf]|rw[aB O]));simp
 rintro n d s ⟨a,H,a2,rfl,g,h,f,j⟩ JJ k;by_cases X:a<=5
 .have R:IntKind.u32.wrap ((a:Int)+1)=((a+1:Nat):Int):=by rw[wrap_u32' _ O O];omega
  have B:(a:Int)<=5:=O;refine fw f B R ?_;refine qL (fun n d s=>∃ b:Nat,a<b/\b<=6/\n=6-b/\d 0=.pt c.z 0/\d 1=.pt (c.z+2) 0/\d 2=u a/\d 3=u b/\zj c a b s) (6-(a+1)) ?_ ?_
  .exact⟨a+1,O,O,rfl,Z g,Z h,Z f,Y,j⟩
  clear g h f j d s;rintro n d s ⟨b,V,b2,rfl,g,h,f,x,j⟩ J2 y;by_cases hb:b<=5
  .have v:IntKind.u32.wrap ((b:Int)+1)=((b+1:Nat):Int):=by rw[wrap_u32' _ O O];omega
   have l:(b:Int)<=5:=O;obtain⟨A,C,S,t,m,F,t1,t2,w⟩:=j;have q:=Pz a b H V hb;have hpl:=Xc a b;generalize sD a b=E at *;have T:IntKind.i64.wrap ((E.length:Int)+1)=(E.length:Int)+1:=zW;have U:IntKind.u32.wrap ((E.length:Int)+1)=(E.length:Int)+1:=wrap_u32' _ O O;have o:=aL E;have p:=YQ E;have I:¬t=s.z:=O;have K:¬s.z=t:=O;have L:¬c.z+2=s.z:=O;have M:¬c.z+2=t:=O;have N:¬c.z+2=s.z+1:=O;have P:¬s.z=c.z+2:=O
   (repeat' (first|apply qS|apply qB|refine qK (zZ ?_)|(apply qC;simp[g,h,f,x,l,v,m,w,F,T,U,o,p,I,K,L,M,N,P])|(refine zE ?_;intro J W;simp[g,h,f,x,l,v,m,w,F,T,U,o,p,I,K,L,M,N,P];(repeat refine ca ?_);refine zJ W ?_)))
   refine y (6-(b+1)) _ _ O ⟨b+1,O,O,rfl,Z g,Z h,Z f,Y,?_,?_,S,s.z+1,?_,O,O,Y,?_⟩
   ·(repeat (first|rw[ay aE]|rw[aA O]|rw[az bf]|rw[aB O]));exact A
   .exact(((C.trans (aC.new _ _)).set O _).trans (aC.new _ _)).set O _
   .rw[q];(repeat (first|rw[ay aE]|rw[aA O]|rw[az bf]|rw[aB O]));simp[eds,dv]
   .rw[q];(repeat (first|rw[ay aE]|rw[aA O]|rw[az bf]|rw[aB O]));simp
  .obtain rfl:b=6:=O;have l:¬((6:Nat):Int)<=5:=O;unfold zj at j k;rw[PA a H X]at j;refine fw x f R ?_;exact k _ _ _ O ⟨a+1,O,O,rfl,Z g,Z h,Y,j⟩
 .obtain rfl:a=6:=O;clear k;obtain⟨A,C,S,t,m,F,t1,t2,w⟩:=j;have hp:sD 6 (6+1)=eV.E:=by decide +kernel
  rw[hp]at m w;refine jl g h f m A ?_;exact⟨by simp only[z0,dl,lR];rfl,C.set O _⟩
end Aw
namespace Aw
open Go Go.RowKit
end Aw
namespace Aw
open Go Go.RowKit Pl
mutual
def mX:LV->Bool
 |.sl t _ cs=>t==0&&vH cs
 |.nil=>true
 |.ag cs=>vH cs
 |.tu cs=>vH cs
 |.atom _=>true
 |_=>false
def vH:QQ->Bool
 |[]=>true
 |c::cs=>mX c&&vH cs
end
abbrev G0:G:=⟨1,fun _=>none,fun _=>0,fun _=>0,fun _=>false⟩
def K3(b o:Nat):G0.ok b o:=by simp[G.ok]
mutual
theorem JQ{w:World}{g:G}:∀(j:LV) (v:Value),mX j=true->Rep w g j v->Rep w G0 j v
 |.sl t n cs,v,a,h=>by simp only[mX,gg,ud]at a;obtain⟨rfl,a⟩:=a;simp only[Rep]at h ⊢;obtain⟨A,f,c,d,k,_,l⟩:=h;refine⟨A,f,c,d,k,fun h=>absurd rfl h,fun Tv=>?_⟩;obtain⟨b,o,m,p⟩:=l Tv;exact⟨b,o,m,Av b cs o a p⟩
 |.nil,v,_,h=>by simpa only[Rep]using h
 |.ag cs,v,a,h=>by simp only[mX]at a;simp only[Rep]at h ⊢;obtain⟨e,c,d⟩:=h;exact⟨e,c,vA cs e a d⟩
 |.tu cs,v,a,h=>by simp only[mX]at a;simp only[Rep]at h ⊢;obtain⟨e,c,d⟩:=h;exact⟨e,c,vA cs e a d⟩
 |.atom _,_,_,h=>by simpa only[Rep]using h
 |.emp,_,a,_=>by simp[mX]at a
 |.dead,_,a,_=>by simp[mX]at a
 |.ms _ _ _,_,a,_=>by simp[mX]at a
 |.pt _ _,_,a,_=>by simp[mX]at a
 |.ep _,_,a,_=>by simp[mX]at a
 |.mp _,_,a,_=>by simp[mX]at a
 |.fn _ _,_,a,_=>by simp[mX]at a
 |.qu _ _ _ _,_,a,_=>by simp[mX]at a
 |.pe _ _,_,a,_=>by simp[mX]at a
 |.kap _ _ _,_,a,_=>by simp[mX]at a
theorem vA{w:World}{g:G}:∀(a:QQ) (d:List Value),vH a=true->aG w g a d->aG w G0 a d
 |[],d,_,h=>h
 |c::a,d,hp,h=>by simp only[vH,gg]at hp;simp only[aG]at h ⊢;obtain⟨v,b,rfl,e,f⟩:=h;exact⟨v,b,rfl,JQ c v hp.1 e,vA a b hp.2 f⟩
theorem Av{w:World}{g:G}(b:Nat):∀(a:QQ) (o:Nat),vH a=true->aR w g b a o->aR w G0 b a o
 |[],_,_,h=>h
 |c::a,o,hp,h=>by simp only[vH,gg]at hp;simp only[aR]at h ⊢;obtain⟨⟨v,d,e,f⟩,h4⟩:=h;exact⟨⟨v,d,JQ c v hp.1 e,K3 b o⟩,Av b a (o+1) hp.2 h4⟩
end
variable{f:FuncId}{g:Gr}{args:List LV}
def Ea{P:Program}{j:LV}{p:St}(y:vH args=true)(A:∀(w:World) (g q:G) v,Rep w g j v->Rep w q j v)
 (h:aD P f args ⟨1,fun _=>.dead⟩ fun r _=>r=j):aD P f args p fun r d=>r=j/\d=p:=by
 refine⟨h.1,fun w g B x o=>?_⟩;have m:Inv w G0 ⟨1,fun _=>.dead⟩:=by refine⟨rfl,by decide,fun _ _=>rfl,fun l a=>a.elim,fun l H a=>a.elim,fun l e s n a=>(by cases a),fun l e s D a=>(by cases a),fun l ag F E a=>(by cases a),fun l e n a=>(by cases a),wO (x.aside.glob.phi fun _ _ _ _ _=>rfl) fun _=>rfl⟩
 refine(h.2 w _ B m (vA _ _ y o)).mono ?_;rintro e C ⟨v,r,d,q,rfl,rfl,c,_,b⟩;have t:Below w.heap.size w C:=⟨b.os,b.tape,b.output,b.size,fun k z=>(b.still k z rfl).2⟩;exact⟨v,_,p,g,rfl,⟨rfl,rfl⟩,A _ _ _ _ c,zI x t,uP g t⟩
def H6(k:Int)(p:LV×St):Bool:=match p.1 with
 |.atom (.int .i64 n)=>n==k
 |_=>false
def zk(k:Int)(r:Option (List (LV×St))):Bool:=match r with
 |some l=>l.all (H6 k)
 |none=>false
def BE⦃P:Program⦄{T:bg}{eg:FuncId->Option Func}{j:lH}(p:bE P T)(hf:FN P eg)(q:rR P j)(x:P.follows .mixedOrders=true)(n:Nat){k:Int}{d:St}(t:vH args=true)
 (h:zk k (Af T eg j n f args ⟨1,fun _=>.dead⟩)=true):aD P f args d fun r o=>r=i k/\o=d:=by
 cases a:Af T eg j n f args ⟨1,fun _=>.dead⟩ with
 |none=>rw[a]at h;simp[zk]at h
 |some l=>
  rw[a]at h;simp only[zk]at h;rw[lL]at h;have:=tV p hf q (fun N c s d L a=>CR p hf q x n N c s d L a) f args _ l a;refine Ea t (fun w g z v h=>by simp only[Rep]at h ⊢;exact h) (this.mono ?_);intro A y e;have b:=h _ e;unfold H6 at b
  split at b
  .rename_i m c;simp only at c;rw[c,eq_of_beq b]
  .cases b
def XB:Mp:=⟨EP,[[2,7],[3,4],[5,6]]⟩
def MX(b:St):aD prog 11 [.ag (rD XB)] b fun r a=>r=i 0/\a=b:=
 BE oP Re ID mixed 1000000 (by kernel_rfl) (by kernel_rfl)
def Sl(b:St):aD prog 35 [] b fun r a=>r=bb true/\a=b:=by
 refine zN func35 ntmps35 [.tmp 0] ?_
 (refine ez ?_;intro J c)
 refine qE (Va _) (by simp[]) ?_;rintro r a ⟨rfl,rfl⟩;exact JZ c
def Rf(b:St):aD prog 36 [] b fun r a=>r=bb true/\a=b:=by
 refine zN func36 ntmps36 [.tmp 0] ?_
 (refine ez ?_;intro J c)
 refine qE (Wk _) (by simp[]) ?_;rintro r a ⟨rfl,rfl⟩;exact JZ c
def XS(q:St):aD prog 9 [] q fun r t=>r=bb true/\t=q:=by
 refine qT (Q:=fun r=>r=bb true) ?_ fun r h=>by subst h;trivial
 have f:=Lz EP (by decide) (by decide) Rq;have j:=Lz eV (by decide) (by decide) AJ;have x:=fun s=>MX s;refine zN func9 ntmps9 [.tmp 0] ?_
 (refine ez ?_;intro J b)
 refine vB (f _) (by simp[z0,dl,aw,EP,us,eds,dv]) ?_;rintro r p ⟨rfl,v⟩;unfold MS;have l:=v.z;simp only[aK]at l
 (refine nV b ?_;intro J b)
 refine qE (Sn _) Y ?_;rintro r w ⟨rfl,n⟩;have m:=n.z;simp only[aK]at m;have e:w.H p.z=.box 28 3 (rD XB):=by rw[n.H _ Y];simp[XB]
 have k:aC q w:=((((aC.new _ _).trans (aC.new _ _)).trans v).trans (aC.new _ _)).trans n;refine dU b ?_;refine qE (j _) Y ?_;rintro r A ⟨rfl,o⟩;unfold MS;have y:=o.z;have a:=(o.H p.z O).trans e;have c:¬p.z=A.z:=O;have d:XB.g.E.length=3:=rfl
 (refine Hs b a c ?_;intro J b)
 refine jr (x _) ?_ (by simp[rD,aw]);refine wT b a c d ?_;refine jr (Sl _) ?_;refine wT b a c d ?_;refine jr (Rf _) ?_;refine wT b a c d ?_;exact(k.trans o).trans (aC.new _ _)
structure zm(g:Gr):Prop where
 rise:g.V.Pairwise (· < ·)
 vpos:∀ v∈g.V,1<=v/\v<=1048576
 ids:g.E.Pairwise fun x y=>x.id<y.id
 pos:∀ x∈g.E,1<=x.id/\x.id<=1048576
 ne:∀ x∈g.E,x.a≠x.b
 ends:∀ x∈g.E,x.a∈g.V/\x.b∈g.V
 l1:g.V.length<=64
 l2:g.E.length<=160
def UO{f:Nat->Int}{n:Nat}(h:cH f n=0):∀ j,j<n->f j=0:=by
 induction n with
 |zero=>omega
 |succ n a=>
  grind [cH]
def vP(n a:Int)(b:Bool):gJ n a b=0↔(1<=n/\n<=1048576)/\(b=false->a<n):=by
 grind [gJ]
def Fk{l:PP}(h:∀ j,j<l.length->0<j->l.getD (j-1) 0<l.getD j 0):l.Pairwise (· < ·):=by
 have g:∀ j (c:j<l.length),l.getD j 0=l[j]:=fun j c=>by grind
 rw[fD];intro a b d e k;induction b with
 |zero=>omega
 |succ b f=>
  grind
def gE(l:QR)(j:Nat)(a:j<l.length):l.getD j ed0=l[j]:=by
 grind
def Fh(g:Gr)(j:Nat)(x:Ed)(c:g.E.getD j ed0=x):nB g j=0↔((1<=x.id/\x.id<=1048576)/\(0<j->(g.E.getD (j-1) ed0).id<x.id))/\x.a≠x.b/\x.a∈g.V/\x.b∈g.V:=by
 grind [nB,gJ]
def kP(h:chk g=0):zm g:=by
 unfold chk at h;by_cases e:64<g.V.length\/160<g.E.length
 .omega
 rw[aa e]at h;by_cases f:cH (lS g) g.V.length=0;rotate_left
 .omega
 rw[aa O]at h;have o:∀ j (a:j<g.V.length),g.V.getD j 0=g.V[j]:=fun j a=>by grind
 have m:=fun j a=>(vP _ _ _).1 (UO f j a);have k:=fun j a=>(Fh g j _ rfl).1 (UO h j a);have c:∀ x∈g.E,∃ j,j<g.E.length/\g.E.getD j ed0=x:=fun x b=>by obtain⟨j,a,rfl⟩:=er b;exact⟨j,a,gE _ _ a⟩
 refine⟨Fk fun j a d=>(m j a).2 (by simp;omega),fun v n=>?_,?_,fun x b=>?_,fun x b=>?_,fun x b=>?_,O,O⟩
 .obtain⟨j,a,rfl⟩:=er n;simp_all
 .have:=Fk (l:=g.E.map (·.id)) fun j a d=>by rw[du]at a;have:=(k j a).1.2 d;rw[gE _ _ a,gE _ _ O]at this;rw[bv,bu (by simp;omega),bv,bu (by simp_all)];simp_all
  rwa [gd]at this
 .obtain⟨j,a,rfl⟩:=c x b;simp_all
 .obtain⟨j,a,rfl⟩:=c x b;simp_all
 .obtain⟨j,a,rfl⟩:=c x b;simp_all
def Mc(h:zm g):chk g=0:=by
 have f:=h.l1;have k:=h.l2;have c:∀ j (a:j<g.V.length),g.V.getD j 0=g.V[j]:=fun j a=>by grind
 unfold chk;rw[aa O]
 have e:cH (lS g) g.V.length=0:=fP fun j a=>(vP _ _ _).2 ⟨by rw[c j a];exact h.vpos _ (dz _),fun d=>by
  have d:0<j:=by simp at d;omega
  rw[c j a,c _ O]
  exact fD.1 h.rise _ _ O a O⟩
 rw[e];simp only[ne_eq,ta,gI];refine fP fun j a=>(Fh g j _ (gE _ _ a)).2 ?_;have b:g.E[j]∈g.E:=dz _;refine⟨⟨h.pos _ b,fun d=>?_⟩,h.ne _ b,(h.ends _ b).1,(h.ends _ b).2⟩;rw[gE _ _ O];exact fD.1 h.ids _ _ O a O
def RD(l:QR)(p:Ed->Bool)(k:Nat)(a:k<l.length):(l.take (k+1)).any p=((l.take k).any p||p (l.getD k ed0)):=by rw[fh a,List.any_append,bv,bu a];simp
def xV(l:PP)(p:Int->Bool)(k:Nat)(a:k<l.length):(l.take (k+1)).filter p=(l.take k).filter p++if p (l.getD k 0)=true then [l.getD k 0]else []:=by rw[fh a,po,bv,bu a];by_cases h:p l[k]=true<;>simp[h]
def GX{c:St}{a b:Nat}{x y:cT}(d:c.H a=x)(f:c.H b=y)(h:x≠y):¬a=b:=fun e=>h (by rw[<- d,e,f])
def S2(t:Nat)(b:St)(l:PP)(a:St):Prop:=t≠0/\b.z<=t/\t<a.z/\a.H t=.own 34 1 l.length
def I0(l:PP):LV:=.sl 0 l.length (us l)
def Tr(R:List PP):QQ:=R.map I0
@[simp] theorem Zf(R:List PP):(Tr R).length=R.length:=by simp[Tr]
def aZ(v:Int)(x:Ed):Bool:=x.a==v||x.b==v
def CU(p:Int->Bool)(B:Int)(a:List (PP×LV)):Prop:=∀ v,∃ c:Int,(bY a [v]).getD (i 0)=i c/\0<=c/\c<=B/\(0<c↔p v=true)
def CU.one{p:Int->Bool}{B:Int}{mes:List (PP×LV)}(h:CU p B mes)(a:Int){c:Int}(hc:(bY mes [a]).getD (i 0)=i c):CU (fun v=>p v||v==a) (B+1) (bX mes [a] (i (c+1))):=by
 intro v;obtain⟨c0,h1,h2,h3,h4⟩:=h v;rw[uH];by_cases hv:v=a
 .subst hv;rw[hc]at h1;have hcc:c=c0:=by injection h1 with h1;injection h1
  subst hcc;exact⟨c+1,Y,O,O,by simp;omega⟩
 .rw[aa (by simpa using hv)];refine⟨c0,h1,h2,O,?_⟩;simp[hv,h4]
def Y2(g:Gr)(f:St)(hv:g.V.length<=1000)(he:g.E.length<=1000)(hp:0<f.z):
 aD prog 90 [.ag (aw g)] f fun r st'=>r=.ag (aw ⟨g.V.filter fun v=>g.E.any (aZ v),g.E⟩)/\aC f st':=by
 refine cZ ?_;have hel:=aL g.E;refine zN func90 ntmps90 [.cell 2 25] ?_;refine bz ?_;refine aV 13 12 14 27 (g.E.length) (fun j m k=>m 1=.pt f.z 0/\m 2=.pt (f.z+1) 0/\m 3=.mp (f.z+2)/\m 11=.sl 0 g.E.length (eds g.E)/\k.H f.z=.box 25 2 (aw g)/\k.H (f.z+1)=.box 25 2 [.nil,.nil]/\f.z+2<k.z/\aC f k/\∃ y,k.H (f.z+2)=.map false [.u32] y/\CU (fun v=>(g.E.take j).any (aZ v)) (2*j) y) ?_ ?_ ?_
 .have W:¬f.z=f.z+1+1:=O;refine⟨Y,Y,Y,Y,Z W,Y,Y,((aC.new _ _).trans (aC.new _ _)).trans (aC.new _ _),[],Y,fun v=>⟨0,by simp[bY],O,O,Y⟩⟩
 .rintro j m s dS ⟨M,I,q,B,T,L,P,o,y,hM,X⟩ K fn J D;have hd:=aP g.E j dS;have o9:j*3<g.E.length*3:=O;have han:=fun v=>RD g.E (aZ v) j dS;generalize g.E.getD j ed0=x at *;obtain⟨d,a,b⟩:=x;obtain⟨c,R,c2,c3,-⟩:=X a;have hC2:=X.one a R;obtain⟨c',U,c2',c3',-⟩:=hC2 b;have hC3:=hC2.one b U;have w1:IntKind.i64.wrap (c+1)=c+1:=zW;have w2:IntKind.i64.wrap (c'+1)=c'+1:=zW;have W:¬f.z+2=s.z:=O;have e2:¬s.z=f.z+2:=O;refine J9 D M q B K fn hd hel o9 dS hM R U w1 w2 W e2 ?_;refine D _ _ (Z K) (Z fn) ⟨Z M,Z I,Z q,Z B,?_,?_,by simp;omega,?_,bX (bX y [a] (i (c+1))) [b] (i (c'+1)),Y,fun v=>?_⟩
  ·(repeat (first|rw[ay aE]|rw[aA O]|rw[az bf]|rw[aB O]));exact T
  ·(repeat (first|rw[ay aE]|rw[aA O]|rw[az bf]|rw[aB O]));exact L
  .refine⟨by have:=o.z;simp;omega,fun l hl=>?_⟩
   (repeat (first|rw[ay aE]|rw[aA O]|rw[az bf]|rw[aB O]));exact o.H l hl
  .obtain⟨cv,k1,k2,k3,k4⟩:=hC3 v;refine⟨cv,k1,k2,O,?_⟩;rw[k4];dsimp only;rw[han v];simp only[aZ,Bool.or_assoc];rw[show(v==a)=(a==v) from by rw[tr];simp;exact eq_comm,show(v==b)=(b==v) from by rw[tr];simp;exact eq_comm]
 .rintro m s ⟨M,I,q,B,T,L,P,o,y,hM,X⟩;rw[fq]at X
  (refine qh M T ?_;intro J D)
  refine qE (Tp g.E 0 _ O) Y ?_;rintro r A ⟨rfl,j8⟩;have hn1:=j8.z;have hG1:=(j8.H f.z O).trans T;have h21:=(j8.H (f.z+1) O).trans L;have hM1:=(j8.H (f.z+2) O).trans hM;have hs1:f.z+2<A.z:=O;have W:¬f.z=A.z:=O;have e2:¬f.z+1=A.z:=O;have e3:¬f.z+2=A.z:=O;have e4:¬f.z=A.z+1:=O;refine wT D hG1 W M ?_;refine sM A.z 34 1 (e:=25) (s:=2) [] [.sl 0 g.E.length (eds g.E)] Y ?_;refine aV 35 34 36 49 (g.V.length) (fun j m k=>m 2=.pt (f.z+1) 0/\m 3=.mp (f.z+2)/\m 6=.pt A.z 0/\m 33=.sl 0 g.V.length (us g.V)/\k.H (f.z+1)=.box 25 2 [.nil,.nil]/\k.H (f.z+2)=.map false [.u32] y/\A.z<k.z/\aC f k/\∃ t,k.H A.z=.box 25 2 [.sl t ((g.V.take j).filter fun v=>g.E.any (aZ v)).length (us ((g.V.take j).filter fun v=>g.E.any (aZ v))),.sl 0 g.E.length (eds g.E)]/\S2 t f ((g.V.take j).filter fun v=>g.E.any (aZ v)) k) ?_ ?_ ?_
  .refine⟨Z I,Z q,Y,Y,?_,?_,by simp;omega,?_,A.z+1,Y,⟨O,O,Y,Y⟩⟩
   ·(repeat (first|rw[ay aE]|rw[aA O]|rw[az bf]|rw[aB O]));exact h21
   ·(repeat (first|rw[ay aE]|rw[aA O]|rw[az bf]|rw[aB O]));exact hM1
   .refine⟨by have:=o.z;simp;omega,fun l hl=>?_⟩;have:=o.z
    (repeat (first|rw[ay aE]|rw[aA O]|rw[az bf]|rw[aB O]));rw[j8.H l O];exact o.H l hl
  .clear M I q B T L P o hM m;rintro j m s2 dS ⟨I,q,S,w,C,n,hs2,o,t,N,t1,t2,t3,Q⟩ K fn J D;have hd:=qG g.V j dS;have V9:=xV g.V (fun v=>g.E.any (aZ v)) j dS;have hfl:=gx (fun v=>g.E.any (aZ v)) (g.V.take j);rw[dj]at hfl;generalize g.V.getD j 0=v at *;generalize (g.V.take j).filter (fun v=>g.E.any (aZ v))=F at *;obtain⟨c,R,c2,c3,c4⟩:=X v;cases p:g.E.any (aZ v)
   .have hc:¬0<c:=fun h=>by have L:=c4.1 h;simp only[p]at L;cases L
    rw[p,aa Y,dT]at V9;refine Y7 D q w K fn hd dS n R hc ?_;exact D _ _ (Z K) (Z fn) ⟨Z I,Z q,Z S,Z w,C,n,hs2,o,t,by rw[V9];exact N,by rw[V9];exact⟨t1,t2,t3,Q⟩⟩
   .have hc:0<c:=c4.2 p;rw[p,ac rfl]at V9;have q1:¬t=s2.z:=O;have q2:¬A.z=s2.z:=O;have q3:¬A.z=s2.z+1:=O;have q4:¬A.z=t:=GX N Q Y;have q5:¬f.z+1=t:=GX C Q Y;have q6:¬f.z+2=t:=GX n Q Y
    (repeat' (first|apply qS|(apply qC;simp[q,S,w,K,fn,hd,dS,n,R,hc,N,Q,q1,q2,q3,q4,t1])|(refine zE ?_;intro J D;simp[q,S,w,K,fn,hd,dS,n,R,hc,N,Q,q1,q2,q3,q4,t1];(repeat refine ca ?_);(refine zJ D ?_;clear D J))))
    refine D _ _ (Z K) (Z fn) ⟨Z I,Z q,Z S,Z w,?_,?_,by simp;omega,?_,s2.z+1,by rw[V9];simp,by rw[V9];exact⟨O,O,Y,by(repeat (first|rw[ay aE]|rw[aA O]|rw[az bf]|rw[aB O]));simp⟩⟩
    ·(repeat (first|rw[ay aE]|rw[aA O]|rw[az bf]|rw[aB O]));exact C
    ·(repeat (first|rw[ay aE]|rw[aA O]|rw[az bf]|rw[aB O]));exact n
    .refine⟨by have:=o.z;simp;omega,fun l hl=>?_⟩;have:=o.z
     (repeat (first|rw[ay aE]|rw[aA O]|rw[az bf]|rw[aB O]));exact o.H l hl
  .clear M I q B T L P o hM m;rintro m s2 ⟨I,q,S,w,C,n,hs2,o,t,N,t1,t2,t3,Q⟩;rw[fq]at N;refine jl I S C N e2 ?_;refine⟨?_,o.set O _⟩;simp only[z0,dl,vR,lR]
def eF(L:Gr)(x:Ed):Gr:=⟨L.V,L.E.filter fun y=>decide (y≠x)⟩
def cD(P:Gr->Bool):Gr->QR->Gr
 |L,[]=>L
 |L,x::xs=>cD P (if P (eF L x)=true then eF L x else L) xs
def sW(P:Gr->Bool)(D:Gr->Prop):Gr->QR->Prop
 |_,[]=>True
 |L,x::xs=>D (eF L x)/\sW P D (if P (eF L x)=true then eF L x else L) xs
def tJ(g:Gr):Gr:=⟨g.V.filter fun v=>g.E.any (aZ v),g.E⟩
def TE(a:zm g){F:QR}(c:F.Sublist g.E):chk (tJ ⟨g.V,F⟩)=0:=by
 refine Mc ⟨a.rise.sublist eu,fun v f=>a.vpos v (cj.1 f).1,a.ids.sublist c,fun x b=>a.pos x (c.subset b),fun x b=>a.ne x (c.subset b),fun x b=>?_,?_,?_⟩
 .obtain⟨d,e⟩:=a.ends x (c.subset b);refine⟨cj.2 ⟨d,nv.2 ⟨x,b,by simp[aZ]⟩⟩,cj.2 ⟨e,nv.2 ⟨x,b,by simp[aZ]⟩⟩⟩
 .have:=a.l1;grind [tJ]
 .have:=a.l2;grind [tJ]
def GV(g:Gr)(h:g.V.length<=1000)(e:g.E.length<=200){o:Option Mp}(f:(if chk g=0 then iX g (aT g)else some none)=some o)(d:St):
 aD prog 12 [.ag (aw g)] d fun r a=>r=bb o.isSome/\aC d a:=by
 refine zN func12 ntmps12 [.tmp 2] ?_
 (refine ez ?_;intro J b)
 refine qE (Lz g h e f _) Y ?_;rintro r j ⟨rfl,c⟩;unfold MS;cases o with
 |none=>refine dU b ?_;exact((aC.new _ _).trans c).trans (aC.new _ _)
 |some m=>refine dU b ?_;exact((aC.new _ _).trans c).trans (aC.new _ _)
def E4(f:FuncId)(Kz:QQ)(b:St)(D:Gr->Prop)(P:Gr->Bool):Prop:=∀ g,D g->∀ s,aC b s->aD prog f (.ag (aw g)::Kz) s fun r a=>r=bb (P g)/\aC s a
def YE(x:Ed)(e:St):aD prog 88 [.ag (dv x)] e fun r c=>r=bb true/\aC e c:=by obtain⟨d,a,b⟩:=x;refine zN func88 ntmps88 [.tmp 2] ?_;refine bz ?_;exact aC.new _ _
def XH(x y:Ed)(q:Nat)(c:St)(g:c.H q=.box 36 3 (dv x))(h:q<c.z):
 aD prog 89 [.ag (dv y),.pt q 0] c fun r e=>r=bb (decide (y≠x))/\aC c e:=by
 obtain⟨d,a,b⟩:=x;obtain⟨l,j,k⟩:=y;have f:¬q=c.z:=O;refine zN func89 ntmps89 [.tmp 3] ?_;refine cm g f ?_;exact⟨rfl,aC.new _ _⟩
def C3(g:Gr)(f:FuncId)(Kz:QQ)(P:Gr->Bool)(D:Gr->Prop)(b:St)(hv:g.V.length<=1000)(he:g.E.length<=1000)(hp:0<b.z)(hT:E4 f Kz b D P)(hD:D g)(hA:P g=true->sW P D g g.E):
 aD prog 49 [.ag (aw g),.fn (.func f) Kz] b fun r st'=>r=.ag (aw (if P g=true then tJ (cD P g g.E)else⟨[],[]⟩))/\aC b st':=by
 refine cZ ?_;have hel:=aL g.E;refine zN func49 ntmps49 [.cell 4 25] ?_
 (refine ez ?_;intro J k)
 refine qE (NX g _ [] (fun _=>true) _ hv he (fun x _ s _=>YE x s)) (by simp[aw]) ?_;rintro r e ⟨rfl,j8⟩;rw[sh.2 (fun _ _=>rfl)];have hn1:=j8.z;simp only[aK]at hn1;have K:e.H b.z=.box 25 2 (aw g):=by rw[j8.H _ (by simp;omega)];simp
 have hR1:e.H (b.z+1)=.box 25 2 [.nil,.nil]:=by rw[j8.H _ Y];simp
 have Q:aC b e:=((aC.new _ _).trans (aC.new _ _)).trans j8;have a1:¬b.z=e.z:=O;have a2:¬b.z+1=e.z:=O;clear j8
 (refine nV k ?_;intro J k)
 refine qF (hT g hD _ (Q.trans (aC.new _ (.box 25 2 (aw g))))) ?_;rintro r C ⟨rfl,B⟩;have hn2:=B.z;simp only[aK]at hn2;have M:C.H b.z=.box 25 2 (aw g):=by rw[B.H _ (by simp;omega)];simp[a1,K]
 have q:C.H (b.z+1)=.box 25 2 [.nil,.nil]:=by rw[B.H _ (by simp;omega)];simp[a2,hR1]
 have W:C.H e.z=.box 25 2 (aw g):=by rw[B.H _ Y];simp
 have R:aC b C:=(Q.trans (aC.new _ _)).trans B;clear B K hR1;cases hP:P g with
 |false=>refine oG k hP q ?_;refine⟨by simp[z0,dl,aw],R.set O _⟩
 |true=>
 refine oG k hP M ?_;refine aV 19 18 20 30 (g.E.length) (fun j A m=>A 1=.fn (.func f) Kz/\A 4=.pt (b.z+1) 0/\A 5=.pt e.z 0/\A 17=.sl 0 g.E.length (eds g.E)/\m.H (b.z+1)=.box 25 2 [.nil,.nil]/\e.z<m.z/\aC b m/\∃ L:Gr,m.H e.z=.box 25 2 (aw L)/\L.V.length<=g.V.length/\L.E.length<=g.E.length/\sW P D L (g.E.drop j)/\cD P L (g.E.drop j)=cD P g g.E) ?_ ?_ ?_
 .exact⟨Y,Y,Y,Y,q,O,R,g,W,au _,au _,by simpa using hA hP,Y⟩
 .clear M q W;rintro j A s dS ⟨I,f4,w,l,hR,hsn,hK,L,U,p,hLe,c,a⟩ fi fn JO N;have hd:=aP g.E j dS;have hdr:g.E.drop j=g.E.getD j ed0::g.E.drop (j+1):=by rw[bv,bu dS];exact jm dS
  rw[hdr]at c a;have o9:j*3<g.E.length*3:=O;generalize g.E.getD j ed0=x at *;obtain⟨hDx,c⟩:=c;simp only[cD]at a;have b1:¬e.z=s.z:=O;have hfl:=gx (fun y:Ed=>decide (y≠x)) L.E;have hTe:Is 89 [.pt s.z 0] (s.new (.box 36 3 (dv x))) L.E fun y=>decide (y≠x):=fun y _ C h2=>XH x y s.z C (by rw[h2.H _ Y];simp) (by have:=h2.z;simp at this;omega);obtain⟨o,n,bx⟩:=x
  (refine U7 I w l fi fn hd hel dS o9 U b1 ?_;intro J k)
  refine qE (NX L _ _ _ _ O O hTe) (by simp[aw]) ?_;rintro r v ⟨rfl,d⟩;have hn3:=d.z;simp only[aK]at hn3;have t:v.H (b.z+1)=.box 25 2 [.nil,.nil]:=by rw[d.H _ (by simp;omega)];simp[show ¬b.z+1=s.z by omega,hR]
  have hL3:v.H e.z=.box 25 2 (aw L):=by rw[d.H _ (by simp;omega)];simp[b1,U]
  have S:aC b v:=(hK.trans (aC.new _ _)).trans d;clear d U hR;have c1:¬e.z=v.z:=O;have c2:¬b.z+1=v.z:=O;change sW P D (if P (eF L ⟨o,n,bx⟩)=true then eF L ⟨o,n,bx⟩else L) (g.E.drop (j+1))at c;have hlg:(⟨L.V,L.E.filter fun y=>decide (y≠⟨o,n,bx⟩)⟩:Gr)=eF L ⟨o,n,bx⟩:=rfl;have hlv:(eF L ⟨o,n,bx⟩).V.length<=g.V.length:=p;have u7:(eF L ⟨o,n,bx⟩).E.length<=g.E.length:=by unfold eF;simp only;omega
  rw[hlg];generalize eF L ⟨o,n,bx⟩=F at *
  (refine Ci k I ?_;intro J k)
  refine qF (hT F hDx _ (S.trans (aC.new _ (.box 25 2 (aw F))))) ?_;rintro r s4 ⟨rfl,h⟩;have hn4:=h.z;simp only[aK]at hn4;have hR4:s4.H (b.z+1)=.box 25 2 [.nil,.nil]:=by rw[h.H _ (by simp;omega)];simp[c2,t]
  have X:s4.H e.z=.box 25 2 (aw L):=by rw[h.H _ (by simp;omega)];simp[c1,hL3]
  have hX4:s4.H v.z=.box 25 2 (aw F):=by rw[h.H _ Y];simp
  have T:aC b s4:=(S.trans (aC.new _ _)).trans h;clear h;cases hPx:P F with
  |false=>rw[hPx,aa Y]at c a;refine dU k ?_;exact N _ _ (Z fi) (Z fn) ⟨Z I,Z f4,Z w,Z l,hR4,O,T,L,X,p,hLe,c,a⟩
  |true=>rw[hPx,ac rfl]at c a;have c3:¬b.z+1=e.z:=O;refine wT k w hX4 X ?_;exact N _ _ (Z fi) (Z fn) ⟨Z I,Z f4,Z w,Z l,ek c3 hR4,by simp;omega,T.set O _,F,Y,hlv,u7,c,a⟩
 .rintro A s ⟨I,f4,w,l,hR,hsn,hK,L,U,p,hLe,c,a⟩;rw[xm]at a;simp only[cD]at a;rw[<- a]
  (refine qh w U ?_;intro J k)
  refine qE (Y2 L _ O O O) (by simp[aw]) ?_;rintro r v ⟨rfl,o9⟩;have t:=(o9.H (b.z+1) O).trans hR;refine oG k f4 t ?_;refine⟨by simp only[z0,dl,aw,tJ,vR,lR],(hK.trans o9).set O _⟩
noncomputable def CJ(g:Gr):Option (Option Mp):=if chk g=0 then iX g (aT g)else some none
noncomputable def dM(g:Gr):Bool:=!((CJ g).getD none).isSome
def Qn(g:Gr):Prop:=g.V.length<=1000/\g.E.length<=200/\∃ o,CJ g=some o
def Yk(g:Gr)(d:Qn g)(c:St):aD prog 50 [.ag (aw g)] c fun r a=>r=bb (dM g)/\aC c a:=by
 obtain⟨j,f,o,b⟩:=d;have h:dM g=!o.isSome:=by unfold dM;rw[b];rfl
 rw[h];refine zN func50 ntmps50 [.tmp 2] ?_
 (refine ez ?_;intro J e)
 refine qE (GV g j f b _) Y ?_;rintro r l ⟨rfl,k⟩;refine dU e ?_;exact(aC.new _ _).trans k
noncomputable def sA(g:Gr):LV:=.tu [.ag (aw (if chk g=0/\dM g=true then tJ (cD dM g g.E)else⟨[],[]⟩)),bb (decide (chk g=0)&&dM g)]
def RW(g:Gr)(Q:Qn g)(P:dM g=true->sW dM Qn g g.E)(c:St)(T:0<c.z):
 aD prog 24 [.ag (aw g)] c fun r I=>r=sA g/\aC c I:=by
 obtain⟨w,K,o,C⟩:=Q;have L:dM g=!o.isSome:=by unfold dM;rw[C];rfl
 refine cZ ?_;refine zN func24 ntmps24 [.cell 2 25,.tmp 3] ?_
 (refine ez ?_;intro J e)
 refine qE (Check g _ w O) Y ?_;rintro r D ⟨rfl,t⟩;have B:=t.z;simp only[aK]at B;have j:D.H c.z=.box 25 2 (aw g):=by rw[t.H _ (by simp;omega)];simp
 have n:D.H (c.z+1)=.box 25 2 [.nil,.nil]:=by rw[t.H _ Y];simp
 have k:aC c D:=((aC.new _ _).trans (aC.new _ _)).trans t;clear t;by_cases f:chk g=0;rotate_left
 .have a:(chk g != 0)=true:=by simpa using f
  have b:sA g=.tu [.ag (aw ⟨[],[]⟩),bb false]:=by unfold sA;rw[aa fun h=>f h.1,ny f];rfl
  refine oG e a n ?_;refine⟨by rw[b];simp[z0,dl,aw],k.set O _⟩
 have a:(chk g != 0)=false:=by simpa using f
 refine oG e a j ?_;refine qE (GV g w K C _) Y ?_;rintro r F ⟨rfl,v⟩;have R:=v.z;have x:F.H c.z=.box 25 2 (aw g):=(v.H _ O).trans j;have p:F.H (c.z+1)=.box 25 2 [.nil,.nil]:=(v.H _ O).trans n;have l:aC c F:=k.trans v;clear v;cases o with
 |some m=>
  have q:dM g=false:=L;have b:sA g=.tu [.ag (aw ⟨[],[]⟩),bb false]:=by unfold sA;rw[aa fun h=>by rw[q]at h;exact absurd h.2 Y,q];simp
  refine oG e a p ?_;refine⟨by rw[b];simp[z0,dl,aw],l.set O _⟩
 |none=>
  have d:dM g=true:=L;have b:sA g=.tu [.ag (aw (tJ (cD dM g g.E))),bb true]:=by unfold sA;rw[ac ⟨f,d⟩,d,mc f];rfl
  (refine Hs e a x ?_;intro J e)
  refine qE (C3 g 50 [] dM Qn _ w O O (fun N A s _=>Yk N A s) ⟨w,K,none,C⟩ P) Y ?_;rintro r S ⟨rfl,M⟩;rw[ac d];have y:S.H (c.z+1)=.box 25 2 [.nil,.nil]:=(M.H _ O).trans p;refine pY e y ?_;refine⟨by rw[b];simp only[z0,dl,aw,vR,lR],(l.trans M).set O _⟩
theorem Em{P:Gr->Bool}{D:Gr->Prop}{L:Gr}:∀ {a:QR},(∀ x∈a,D (eF L x)/\P (eF L x)=false)->sW P D L a/\cD P L a=L
 |[],_=>⟨trivial,rfl⟩
 |x::a,h=>by obtain⟨c,d⟩:=h x Y;have b:=Em (L:=L) fun y e=>h y (aq _ e);simp only[sW,cD,d,ir,gI];exact⟨⟨c,b.1⟩,b.2⟩
def B5(g:Gr):Bool:=decide (chk g=0)&&decide ((vG (sE g.E) g.V.length g.V ⟨[],[],[],[]⟩).map (·.out)=some [List.range (sE g.E).length])&&decide ((List.range (sE g.E).length).map (an (sE g.E))=g.E)&&decide (((iX g [g.E]).map Option.isSome)=some true)
def VK(h:B5 g=true):∃ m,CJ g=some (some m):=by
 unfold B5 at h;simp only[gg,jv]at h;obtain⟨⟨⟨a,c⟩,h3⟩,h4⟩:=h;unfold CJ;rw[ac a,uW (fF a) c (tT _) Y];simp only[ax,mB,h3];cases b:iX g [g.E] with
 |none=>rw[b]at h4;cases h4
 |some o=>
  rw[b]at h4;cases o with
  |none=>cases h4
  |some m=>exact⟨m,rfl⟩
def RN:(eV.E.all fun x=>B5 (eF eV x))=true:=by decide +kernel
def FK:dM eV=true:=by unfold dM CJ;rw[AJ];rfl
def FT:sW dM Qn eV eV.E/\cD dM eV eV.E=eV:=by refine Em fun x d=>?_;obtain⟨m,a⟩:=VK (lL.1 RN x d);have e:=gx (fun y:Ed=>decide (y≠x)) eV.E;have b:eV.E.length=10:=rfl;have c:(eF eV x).V.length=5:=rfl;refine⟨⟨O,by simp only[eF];omega,_,a⟩,?_⟩;unfold dM;rw[a];rfl
def Po:tJ eV=eV:=by decide
def Qy:Gr:=⟨[1],[]⟩
def Kl:chk Qy=0:=by decide +kernel
def Jc:CJ Qy=some (some ⟨Qy,[[]]⟩):=by unfold CJ;rw[ac Kl,uW (fF Kl) (out:=[]) (by decide +kernel) (tT _) (by decide)];rfl
def Bx:dM Qy=false:=by unfold dM;rw[Jc];rfl
def WB(b:St):aD prog 47 [] b fun r a=>r=bb true/\a=b:=by
 refine zN func47 ntmps47 [.tmp 0] ?_
 (refine ez ?_;intro J c)
 refine qE (XS _) (by simp[]) ?_;rintro r a ⟨rfl,rfl⟩;exact JZ c
def Xn(l:St):aD prog 23 [] l fun r t=>r=bb true/\t=l:=by
 refine qT (Q:=fun r=>r=bb true) ?_ fun r h=>by subst h;trivial
 refine zN func23 ntmps23 [.tmp 0] ?_;refine fB fun v=>?_
 (refine ez ?_;intro J e)
 refine qE (Sn _) Y ?_;rintro r C ⟨rfl,w⟩;have y:=w.z;have m:=RW eV ⟨by decide,by decide,none,by unfold CJ;exact AJ⟩ (fun _=>FT.1) C O;unfold sA at m;rw[ac ⟨uT,FK⟩,FK,FT.2,Po,mc uT]at m;refine dU e ?_;refine qE m Y ?_;rintro r g ⟨rfl,x⟩;have A:=x.z;have d:=fun l B=>RW Qy ⟨by decide,by decide,_,Jc⟩ (fun h=>by rw[Bx]at h;cases h) l B;unfold sA at d;rw[aa fun h=>by rw[Bx]at h;exact absurd h.2 Y,Bx,Bool.and_false]at d
 (refine nV e ?_;intro J e)
 refine vB (d _ Y) (by simp[z0,dl,aw,Qy,us,eds]) ?_;rintro r s ⟨rfl,q⟩;have o:=q.z;simp only[aK]at o;have a:s.H g.z=.box 25 2 (aw eV):=by rw[q.H _ (by simp;omega)];simp[show ¬g.z=g.z+1 by omega]
 have n:aC l s:=((w.trans x).trans ((aC.new _ _).trans (aC.new _ _))).trans q;have j:¬g.z=s.z:=O;refine dU e ?_
 (refine zS [] [g.z] [0,2,4,6,9,10,12,14,16,18,20,22,24,26] ?_;intro J e;simp[a,j])
 refine qD (Sn _) Y ?_;rintro r D ⟨rfl,f⟩;have p:=f.z;simp only[aK]at p;have c:D.H g.z=.box 25 2 (aw eV):=by rw[f.H _ (by simp;omega)];simp[j,a]
 refine⟨fun _=>by simp[c,a,j],?_⟩
 (apply bM;simp[c])
 refine qD (Er eV eV _ (by decide) (by decide)) Y ?_;rintro r E ⟨rfl,k⟩;have b:=(k.H g.z O).trans c;refine⟨fun _=>by simp[b,a,j],?_⟩
 (apply bM;simp[b])
 refine eL (WB _) ?_;refine⟨fun _=>by simp[b,a,j],?_⟩
 (apply bM;simp[b];(refine zJ e ?_;clear e J))
 refine bz ?_;exact((n.trans (aC.new _ _)).trans f).trans k
theorem pD(P:Gr->Bool):∀(a:QR) (L:Gr),(cD P L a).V=L.V/\(cD P L a).E.Sublist L.E
 |[],L=>⟨rfl,tf _⟩
 |x::a,L=>by
  unfold cD
  split
  .have:=pD P a (eF L x);exact⟨this.1,this.2.trans eu⟩
  .exact pD P a L
theorem wR(P:Gr->Bool):∀(a:QR) (L:Gr),P L=true->P (cD P L a)=true
 |[],L,h=>h
 |x::a,L,h=>by
  unfold cD
  split
  .rename_i k;exact wR P a _ k
  .exact wR P a L h
theorem zF(P:Gr->Bool)(b:PP)(T:QR)(d:∀ A B:QR,A.Sublist T->B.Sublist T->(∀ e∈A,e∈B)->P ⟨b,A⟩=true->P ⟨b,B⟩=true):
 ∀(a:QR) (L:Gr),L.V=b->L.E.Sublist T->∀ x∈a,x∈(cD P L a).E->P (eF (cD P L a) x)=false
 |[],_,_,_,x,h,_=>by cases h
 |y::a,L,hv,hT,x,c,hR=>by
  unfold cD at hR ⊢
  split at hR<;>rename_i k
  .rw[ac k];rcases ai.1 c with rfl|c
   .have:=(pD P a (eF L x)).2.subset hR;exact absurd (cj.1 this).2 Y
   .exact zF P b T d a (eF L y) hv (eu.trans hT) x c hR
  .rw[aa k];rcases ai.1 c with rfl|c
   .obtain⟨l,f⟩:=pD P a L;refine Bool.eq_false_iff.2 fun h=>k ?_;have g:eF (cD P L a) x=⟨b,(cD P L a).E.filter fun y=>decide (y≠x)⟩:=by unfold eF;rw[l,hv]
    have j:eF L x=⟨b,L.E.filter fun y=>decide (y≠x)⟩:=by unfold eF;rw[hv]
    rw[g]at h;rw[j];refine d _ _ (eu.trans (f.trans hT)) (eu.trans hT) (fun e o=>?_) h;obtain⟨m,n⟩:=cj.1 o;exact cj.2 ⟨f.subset m,n⟩
   .exact zF P b T d a L hv hT x c hR
theorem Cm{P:Gr->Bool}{D:Gr->Prop}(a:PP)(T:QR)(c:∀ A:QR,A.Sublist T->D ⟨a,A⟩):∀(b:QR) (L:Gr),L.V=a->L.E.Sublist T->sW P D L b
 |[],_,_,_=>trivial
 |x::b,L,hv,hT=>by
  have e:eF L x=⟨a,L.E.filter fun y=>decide (y≠x)⟩:=by unfold eF;rw[hv]
  unfold sW;refine⟨by rw[e];exact c _ (eu.trans hT),?_⟩
  split
  .exact Cm a T c b _ hv (eu.trans hT)
  .exact Cm a T c b L hv hT
end Aw
namespace Aw
open Go Go.RowKit Pl Eu
theorem tW{R S:Int->Int->Prop}:∀ {l:PP},(∀ x∈l,∀ y∈l,R x y->S x y)->bj S l<=bj R l
 |[],_=>au _
 |x::l,h=>by
  have ih:=tW (R:=R) (S:=S) (l:=l) fun a ha b hb=>h a (aq _ ha) b (aq _ hb);by_cases hx:∃ y∈l,S y x
  .rw[bD hx];refine fa ih ?_;simp only[bj];exact xn _ _
  .rw[aQ hx,aQ fun⟨y,hy,hr⟩=>hx ⟨y,hy,h y (aq _ hy) x ar hr⟩];omega
variable{d v x y:Int}{s:Int->Int}{R:Int->Int->Prop}{p:Int×Int}{P Q S:List (Int×Int)}{a c f:List (List Int)}{A B D l r t w:List Int}{j:Nat}
def VI{S:Int->Int->Prop}(c:gh R)(d:gh S)(h:∀ x y,R x y->S x y)(o:bj R l<=bj S l)(f:x∈l)(g:y∈l)(e:S x y):R x y:=by refine dq fun j=>?_;have m:=sV c j f g;have n:=tW (R:=Eu.Mg R x y) (S:=S) (l:=l) fun a _ b _ k=>Mg.le d e h k;omega
theorem rT{k:Type}[DecidableEq k]{R:Int->Int->Prop}(eo:Int->k):∀ {D:PP},(∀ x∈D,∀ y∈D,R x y->eo x=eo y)->∀ X:List k,X.Nodup->(∀ a∈X,∃ d∈D,eo d=a)->X.length<=bj R D
 |[],_,X,_,h=>by
  cases X with
  |nil=>exact jx _
  |cons a X=>obtain⟨d,o,_⟩:=h a ar;cases o
 |d::D,hR,X,hn,h=>by
  have c:∀ x∈D,∀ y∈D,R x y->eo x=eo y:=fun x f y g=>hR x (aq _ f) y (aq _ g);by_cases f:∃ y∈D,R y d
  .rw[bD f];obtain⟨y,g,p⟩:=f;refine rT eo c X hn fun a j=>?_;obtain⟨e,b,rfl⟩:=h a j;rcases ai.1 b with rfl|b
   .exact⟨y,g,hR y (aq _ g) _ ar p⟩
   .exact⟨e,b,rfl⟩
  .rw[aQ f];have:=rT eo c (X.erase (eo d)) (hn.erase _) fun a j=>by
    obtain⟨n,m⟩:=(List.Nodup.mem_erase_iff hn).1 j;obtain⟨e,b,rfl⟩:=h a m;rcases ai.1 b with rfl|b
    .exact absurd rfl n
    .exact⟨e,b,rfl⟩
   have m:=List.length_erase_le (a:=eo d) (l:=X);have q:X.length<=(X.erase (eo d)).length+1:=by rw[List.length_erase];split<;>omega
   omega
structure cK(D:PP)(f:Int->Int):Prop where
 mem:∀ x∈D,f x∈D
 inj:∀ x y,f x=f y->x=y
 out:∀ x,x∉D->f x=x
def cK.per{f:Int->Int}(h:cK D f):Per f:=Rl D h.mem h.inj h.out
theorem cK.sw{D:PP}{f:Int->Int}(h:cK D f){a b:Int}(d:a∈D)(g:b∈D):cK D fun x=>f (Eu.sw a b x):=by
 refine⟨fun x c=>h.mem _ ?_,fun x y e=>Yi a b (h.inj _ _ e),fun x c=>?_⟩
 .unfold Eu.sw
  split
  .exact g
  .split
   .exact d
   .exact c
 .rw[kZ (fun e=>c (by rw[e];exact d)) (fun e=>c (by rw[e];exact g))];exact h.out x c
def ce(s:Int->Int):QP->Int->Int
 |[],x=>s x
 |p::P,x=>ce s P (Eu.sw p.1 p.2 x)
def cw(R:Int->Int->Prop):QP->Int->Int->Prop
 |[]=>R
 |p::P=>Eu.Mg (cw R P) p.1 p.2
theorem fQ{D:PP}{s:Int->Int}(a:cK D s):∀ P:QP,(∀ p∈P,p.1∈D/\p.2∈D)->cK D (ce s P)
 |[],_=>a
 |p::P,h=>(fQ a P fun q b=>h q (aq _ b)).sw (h p ar).1 (h p ar).2
theorem cO{R:Int->Int->Prop}(a:gh R):∀ P:QP,gh (cw R P)
 |[]=>a
 |p::P=>Mg.eqv (cO a P) _ _
theorem gC{R:Int->Int->Prop}:∀(P:QP) {x y:Int},R x y->cw R P x y
 |[],_,_,h=>h
 |_::P,_,_,h=>.inl (gC P h)
theorem gV{R:Int->Int->Prop}(a:gh R):∀(P:QP) {p:Int×Int},p∈P->cw R P p.1 p.2
 |q::P,p,h=>by
  rcases ai.1 h with rfl|h
  .exact .inr (.inl ⟨(cO a P).refl _,(cO a P).refl _⟩)
  .exact .inl (gV a P h)
theorem pL{D:PP}{s:Int->Int}(f:cK D s):∀ P:QP,(∀ p∈P,p.1∈D/\p.2∈D/\p.1≠p.2)->
 (∀ x y,Orb (ce s P) x y->cw (Orb s) P x y)/\∃ c,2*bj (cw (Orb s) P) D+P.length=2*c+bj (Orb s) D+bj (Orb (ce s P)) D
 |[],_=>⟨fun _ _ h=>h,0,by have e:bj (Orb (ce s [])) D=bj (Orb s) D:=rfl;have g:bj (cw (Orb s) []) D=bj (Orb s) D:=rfl;rw[e,g,List.length_nil];omega⟩
 |p::P,h=>by
  obtain⟨r,c,z⟩:=pL f P fun q a=>h q (aq _ a);obtain⟨j,l,w⟩:=h p ar;have a:=fQ f P fun q a=>⟨(h q (aq _ a)).1,(h q (aq _ a)).2.1⟩;have d:cK D (ce s (p::P)):=a.sw j l;have b:∀ x,ce s (p::P) x=ce s P (Eu.sw p.1 p.2 x):=fun _=>rfl;have m:=cO f.per.eqv P;have n:gh (cw (Orb s) (p::P)):=cO f.per.eqv (p::P);refine⟨fun x y W0=>?_,?_⟩
  .exact Mg.le n (gV f.per.eqv (p::P) ar) (fun x y k=>.inl (r x y k)) (EI a.per b W0)
  .rw[List.length_cons];by_cases o:Orb (ce s P) p.1 p.2
   .have v:=uU a.per d.per b w j l o;have g:bj (cw (Orb s) (p::P)) D=bj (cw (Orb s) P) D:=dA fun x _ y _=>Mg.same m (r _ _ o) x y;exact⟨c,O⟩
   .have v:=oL a.per d.per b j l o;by_cases t:cw (Orb s) P p.1 p.2
    .have g:bj (cw (Orb s) (p::P)) D=bj (cw (Orb s) P) D:=dA fun x _ y _=>Mg.same m t x y;exact⟨c+1,O⟩
    .have g:bj (cw (Orb s) P) D=bj (cw (Orb s) (p::P)) D+1:=sV m t j l;exact⟨c,O⟩
def Xd(h:∀ x∈D,∀ y∈D,R x y)(a:D≠[]):bj R D=1:=by have:=Fx (R:=R) (t:=D) (l:=[]) h (fun _ _ _ b=>by cases b);rw[dT,aa a]at this;exact this
def ZT{f:Int->Int}(hf:cK D f){a b:Int}(c:a∈D)(d:b∈D):bj (Orb f) D<=bj (Orb fun x=>f (Eu.sw a b x)) D+1:=by
 by_cases h:a=b
 .subst h;have:(fun x=>f (Eu.sw a a x))=f:=by funext x;unfold Eu.sw;split<;>simp_all
  rw[this];omega
 have g:=hf.sw c d;by_cases e:Orb f a b
 .have:=uU hf.per g.per (fun _=>rfl) h c d e;omega
 .have:=oL hf.per g.per (fun _=>rfl) c d e;omega
def dn(a:List PP)(d:Int):Int:=match a.find? (fun t=>decide (d∈t)) with
 |some t=>nx t d
 |none=>d
def nL(h:d∉a.flatten):dn a d=d:=by unfold dn;rw[sT.2 fun t c=>by simpa using fun b=>h (fI.2 ⟨t,c,b⟩)]
def Ks{b:List PP}(g:b.flatten.Nodup){h:PP}(f:t∈b)(a:h∈b)(k:d∈t)(c:d∈h):t=h:=by
 induction b with
 |nil=>cases f
 |cons r b l=>
  rw[List.flatten_cons,bo]at g;rcases ai.1 f with e|f
  .rcases ai.1 a with j|a
   .rw[e,j]
   .exact absurd rfl (g.2.2 d (by rw[<- e];exact k) d (fI.2 ⟨h,a,c⟩))
  .rcases ai.1 a with j|a
   .exact absurd rfl (g.2.2 d (by rw[<- j];exact c) d (fI.2 ⟨t,f,k⟩))
   .exact l g.2.1 f a
def AL(b:a.flatten.Nodup)(c:t∈a):t.Nodup:=(mm c).nodup b
def iF(e:a.flatten.Nodup)(c:t∈a)(b:d∈t):dn a d=nx t d:=by
 unfold dn;cases hf:a.find? (fun t=>decide (d∈t)) with
 |none=>exact absurd b (by simpa using sT.1 hf t c)
 |some f=>rw[Ks e (qq hf) c (by simpa using rl hf) b]
def jO(g:f.flatten.Nodup):cK f.flatten (dn f):=by
 have h:∀ x t,t∈f->x∈t->dn f x∈t:=fun x t b a=>by rw[iF g b a];exact Ln a
 refine⟨fun x a=>?_,fun x y e=>?_,fun x a=>nL a⟩
 .obtain⟨t,b,a⟩:=fI.1 a;exact fI.2 ⟨t,b,h x t b a⟩
 .by_cases a:x∈f.flatten
  .obtain⟨t,b,a⟩:=fI.1 a;by_cases d:y∈f.flatten
   .obtain⟨j,c,d⟩:=fI.1 d;have l:=h x t b a;rw[e]at l;have:=Ks g b c l (h y j c d);subst this;rw[iF g b a,iF g b d]at e;exact VJ (AL g b) a d e
   .rw[nL d]at e;exact absurd (fI.2 ⟨t,b,by rw[<- e];exact h x t b a⟩) d
  .by_cases d:y∈f.flatten
   .obtain⟨j,c,k⟩:=fI.1 d;rw[nL a]at e;exact absurd (fI.2 ⟨j,c,by rw[e];exact h y j c k⟩) a
   .rw[nL a,nL d]at e;exact e
theorem LK{a:List PP}(c:a.flatten.Nodup){t:PP}(d:t∈a){x:Int}(e:x∈t):∀ n,it (dn a) n x=it (nx t) n x/\it (dn a) n x∈t
 |0=>⟨rfl,e⟩
 |n+1=>by obtain⟨f,b⟩:=LK c d e n;rw[bI,bI,<- f,iF c d b];exact⟨rfl,Ln b⟩
def GH(b:a.flatten.Nodup)(d:t∈a)(e:x∈t):Orb (dn a) x y↔y∈t:=by
 constructor
 .rintro⟨n,rfl⟩;exact(LK b d e n).2
 .intro f;obtain⟨n,c⟩:=Mk (AL b d) e f;exact⟨n,by rw[(LK b d e n).1,c]⟩
def OY(f:c.flatten.Nodup):bj (Orb (dn c)) c.flatten=(c.filter fun t=>decide (t≠[])).length:=by
 refine EA c (fun t e x d y j=>(GH f e d).2 j) ?_;have k:∀ a:List PP,a.flatten.Nodup->a.Pairwise fun t l=>∀ x∈t,x∉l:=by
  intro a;induction a with
  |nil=>exact fun _=>.nil
  |cons r a m=>intro b;rw[List.flatten_cons,bo]at b;refine kk.2 ⟨fun t e x d g=>b.2.2 x d x (fI.2 ⟨t,e,g⟩) rfl,m b.2.1⟩
 refine(k c f).imp_of_mem fun {t l} e ht' h x d y j ho=>?_;exact h x d ((GH f ht' j).1 ho)
def Sk(g:c.flatten.Nodup)(f:c.Perm a)(d:Int):dn c d=dn a d:=by
 have e:a.flatten.Nodup:=(f.flatten.nodup_iff).1 g;by_cases b:d∈c.flatten
 .obtain⟨t,h,b⟩:=fI.1 b;rw[iF g h b,iF e (f.mem_iff.1 h) b]
 .rw[nL b,nL fun k=>b (f.flatten.mem_iff.2 k)]
def get_inj(h:l.Nodup){i:Nat}(a:i<l.length)(b:j<l.length)(e:l[i]=l[j]):i=j:=by
 have:=congrArg l.idxOf e
 rwa [h.idxOf_getElem,h.idxOf_getElem]at this
def yV(f:(A++B).Nodup)(j:A≠[])(l:B≠[]):(x∈A->nx (A++B) x=if x=A.getLast j then nx B (B.getLast l)else nx A x)/\(x∈B->nx (A++B) x=if x=B.getLast l then nx A (A.getLast j)else nx B x):=by
 have c:=(bo.1 f).1;have d:=(bo.1 f).2.1;have p:=jg.2 j;have q:=jg.2 l;have last:∀(L:PP) (h:L≠[]),L.Nodup->nx L (L.getLast h)=L[0]'(jg.2 h):=fun L h o=>by have:=jg.2 h;rw[sf,iY o];simp[show L.length-1+1=L.length by omega]
 constructor
 .intro m;obtain⟨k,n,rfl⟩:=er m;have e:A[k]=(A++B)[k]'(by rw[cb];omega):=(um n).symm;have g:(A++B).length=A.length+B.length:=cb;rw[last B l d];by_cases h:k=A.length-1
  .rw[ac (by rw[sf];congr),e,iY f];have a:(k+1) % (A++B).length=A.length:=by rw[ev O];omega
   simp only[a];rw[oj (au _)];simp
  .rw[aa (by rw[sf];exact fun b=>h (get_inj c _ _ b)),iY c,e,iY f];have a:(k+1) % (A++B).length=k+1:=ev O;have b:(k+1) % A.length=k+1:=ev O;simp only[a,b];exact um O
 .intro m;obtain⟨k,n,rfl⟩:=er m;have g:(A++B).length=A.length+B.length:=cb;have e:B[k]=(A++B)[A.length+k]'(by omega):=by rw[oj (xn _ _)];simp
  rw[last A j c];by_cases h:k=B.length-1
  .rw[ac (by rw[sf];congr),e,iY f];have a:(A.length+k+1) % (A++B).length=0:=by rw[show A.length+k+1=(A++B).length by omega,ua]
   simp only[a];exact um p
  .rw[aa (by rw[sf];exact fun b=>h (get_inj d _ _ b)),iY d,e,iY f];have a:(A.length+k+1) % (A++B).length=A.length+(k+1):=by rw[ev O];omega
   have b:(k+1) % B.length=k+1:=ev O;simp only[a,b];rw[oj (xn _ _)];simp
def XQ(l:(A::B::f).flatten.Nodup)(g:A≠[])(h:B≠[])(d:Int):dn ((A++B)::f) d=dn (A::B::f) (Eu.sw (A.getLast g) (B.getLast h) d):=by
 have hf:((A++B)::f).flatten=(A::B::f).flatten:=Y;have c:((A++B)::f).flatten.Nodup:=by rw[hf];exact l
 have o:(A++B).Nodup:=AL c ar;have j:=(bo.1 o).2.2;have m:=List.getLast_mem g;have n:=List.getLast_mem h;by_cases a:d∈A
 .rw[iF c ar (dg _ a),(yV o g h).1 a];by_cases e:d=A.getLast g
  .rw[ac e,e,vV,iF l (t:=B) Y n]
  .rw[aa e,kZ e (fun k=>j d a _ n k),iF l (t:=A) Y a]
 .by_cases b:d∈B
  .rw[iF c ar (dE _ b),(yV o g h).2 b];by_cases e:d=B.getLast h
   .rw[ac e,e,EK,iF l (t:=A) Y m]
   .rw[aa e,kZ (fun k=>a (by rw[k];exact m)) e,iF l (t:=B) Y b]
  .rw[kZ (fun k=>a (by rw[k];exact m)) (fun k=>b (by rw[k];exact n))];unfold dn;rw[ur (ek a b),ur (Z a),ur (Z b)]
def Flat(D:PP)(s:Int->Int)(P:QP):Prop:=2*bj (cw (Orb s) P) D+P.length=bj (Orb s) D+bj (Orb (ce s P)) D
def dH(D:PP)(P:QP):Prop:=∀ p∈P,p.1∈D/\p.2∈D/\p.1≠p.2
def cf(P:QP):PP:=P.flatMap fun p=>[p.1,p.2]
def bK:x∈cf P↔∃ p∈P,x=p.1\/x=p.2:=by unfold cf;simp only[fu,ai,gz,ij]
section
variable {D:List Int} {s:Int->Int} (hs:cK D s)
include hs
theorem oS{p:Int×Int}{P:QP}(r:dH D (p::P)):Flat D s (p::P)↔Flat D s P/\(cw (Orb s) P p.1 p.2->Orb (ce s P) p.1 p.2):=by
 have b:dH D P:=fun q a=>r q (aq _ a);obtain⟨t,c,w⟩:=pL hs P b;obtain⟨g,j,v⟩:=r p ar;have a:=fQ hs P fun q a=>⟨(b q a).1,(b q a).2.1⟩;have f:cK D (ce s (p::P)):=a.sw g j;have d:∀ x,ce s (p::P) x=ce s P (Eu.sw p.1 p.2 x):=fun _=>rfl;have n:=cO hs.per.eqv P;unfold Flat;rw[List.length_cons];by_cases e:Orb (ce s P) p.1 p.2
 .have o:=uU a.per f.per d v g j e;have m:bj (cw (Orb s) (p::P)) D=bj (cw (Orb s) P) D:=dA fun x _ y _=>Mg.same n (t _ _ e) x y;rw[m,o];constructor
  .intro h;exact⟨O,fun _=>e⟩
  .intro h;have:=h.1;omega
 .have o:=oL a.per f.per d g j e;by_cases l:cw (Orb s) P p.1 p.2
  .have m:bj (cw (Orb s) (p::P)) D=bj (cw (Orb s) P) D:=dA fun x _ y _=>Mg.same n l x y;constructor
   .intro h;omega
   .intro h;exact absurd (h.2 l) e
  .have m:bj (cw (Orb s) P) D=bj (cw (Orb s) (p::P)) D+1:=sV n l g j;constructor
   .intro h;exact⟨O,fun k=>absurd k l⟩
   .intro h;have:=h.1;omega
theorem DI{Q P:QP}(a:dH D (Q++P))(h:Flat D s (Q++P)):Flat D s P:=by
 induction Q with
 |nil=>exact h
 |cons q Q d=>have c:=(oS hs (p:=q) (P:=Q++P) a).1 h;exact d (fun p b=>a p (aq _ b)) c.1
end
theorem lF{R S:Int->Int->Prop}(a:gh S)(h:∀ x y,R x y->S x y):∀ {P:QP},(∀ p∈P,S p.1 p.2)->∀ x y,cw R P x y->S x y
 |[],_,x,y,k=>h x y k
 |_::P,hp,x,y,k=>Mg.le a (hp _ ar) (fun x y k=>lF a h (fun p q=>hp p (aq _ q)) x y k) k
def BX(a:gh R)(h:∀ p∈P,p∈Q)(k:cw R P x y):cw R Q x y:=
 lF (cO a Q) (fun _ _ k=>gC Q k) (fun p b=>gV a Q (h p b)) x y k
theorem lE(s:Int->Int):∀ {P:QP},(cf P).Nodup->∀ p∈P,ce s P p.1=s p.2/\ce s P p.2=s p.1
 |[],_,_,h=>by cases h
 |q::P,hn,p,h=>by
  have c:(q.1::q.2::cf P).Nodup:=hn;rw[bw,bw]at c;obtain⟨g,j,w⟩:=c;have a:∀ x,x∉cf P->ce s P x=s x:=fun x b=>by
   have f:∀(P:QP),x∉cf P->ce s P x=s x:=by
    intro P;induction P with
    |nil=>intro _;rfl
    |cons r P d=>intro b;have m:x≠r.1:=fun e=>b (bK.2 ⟨r,ar,.inl e⟩);have n:x≠r.2:=fun e=>b (bK.2 ⟨r,ar,.inr e⟩);show ce s P (Eu.sw r.1 r.2 x)=s x;rw[kZ m n];exact d fun k=>by obtain⟨p,o,e⟩:=bK.1 k;exact b (bK.2 ⟨p,aq _ o,e⟩)
   exact f P b
  rcases ai.1 h with rfl|h
  .refine⟨?_,?_⟩
   .show ce s P (Eu.sw p.1 p.2 p.1)=s p.2;rw[vV];exact a _ j
   .show ce s P (Eu.sw p.1 p.2 p.2)=s p.1;rw[EK];exact a _ fun k=>g (aq _ k)
  .have t:p.1∈cf P:=bK.2 ⟨p,h,.inl rfl⟩;have v:p.2∈cf P:=bK.2 ⟨p,h,.inr rfl⟩;have l:∀ x∈cf P,Eu.sw q.1 q.2 x=x:=fun x b=>kZ (fun e=>g (aq _ (e ▸ b))) (fun e=>j (e ▸ b));have d:=lE s w p h;exact⟨by show ce s P (Eu.sw q.1 q.2 p.1)=_;rw[l _ t];exact d.1,by show ce s P (Eu.sw q.1 q.2 p.2)=_;rw[l _ v];exact d.2⟩
theorem qI(s:Int->Int):∀ {P:QP} {x:Int},x∉cf P->ce s P x=s x
 |[],_,_=>rfl
 |r::P,x,hx=>by have a:x≠r.1:=fun e=>hx (bK.2 ⟨r,ar,.inl e⟩);have b:x≠r.2:=fun e=>hx (bK.2 ⟨r,ar,.inr e⟩);show ce s P (Eu.sw r.1 r.2 x)=s x;rw[kZ a b];exact qI s fun k=>by obtain⟨p,c,e⟩:=bK.1 k;exact hx (bK.2 ⟨p,aq _ c,e⟩)
def Td(s:Int->Int)(f:(cf P).Nodup)(g:P.Perm Q)(x:Int):ce s P x=ce s Q x:=by
 have hf:(cf P).Perm (cf Q):=g.flatMap_right _;have c:=hf.nodup_iff.1 f;by_cases d:x∈cf P
 .obtain⟨p,e,h⟩:=bK.1 d;have a:=lE s f p e;have b:=lE s c p (g.mem_iff.1 e);rcases h with rfl|rfl
  .rw[a.1,b.1]
  .rw[a.2,b.2]
 .rw[qI s d,qI s fun k=>d (hf.mem_iff.2 k)]
def lW(b:cK D s)(d:(cf P).Nodup)(a:P.Perm Q)(h:Flat D s P):Flat D s Q:=by have e:ce s P=ce s Q:=funext fun x=>Td s d a x;have c:bj (cw (Orb s) P) D=bj (cw (Orb s) Q) D:=dA fun x _ y _=>⟨BX b.per.eqv fun p k=>a.mem_iff.1 k,BX b.per.eqv fun p k=>a.mem_iff.2 k⟩;unfold Flat at h ⊢;rw[<- e,<- c,<- a.length_eq];exact h
def Qh(b:cK D s){E R:QP}(g:dH D E)(j:(cf E).Nodup)(h:Flat D s E)(d:E.Perm (R++p::S)):Flat D s S/\(cw (Orb s) S p.1 p.2->Orb (ce s S) p.1 p.2):=by have e:=lW b j d h;have c:dH D (R++p::S):=fun q a=>g q (d.mem_iff.2 a);have f:=DI b c e;exact(oS b fun q a=>c q (dE _ a)).1 f
def Way(s:Int->Int):QP->Prop
 |[]=>True
 |[_]=>True
 |p::q::Q=>Orb s p.2 q.1/\Way s (q::Q)
def lz(s:Int->Int)(Q:QP)(d:Int):Prop:=∃ q∈Q,Orb s q.2 d
theorem OW{s:Int->Int}:∀ {Q R:QP},Way s (Q++R)->Way s Q/\Way s R
 |[],_,h=>⟨trivial,h⟩
 |[p],R,h=>by
  refine⟨trivial,?_⟩;cases R with
  |nil=>trivial
  |cons r R=>exact h.2
 |p::q::Q,R,h=>by obtain⟨a,b⟩:=h;have:=OW (Q:=q::Q) (R:=R) b;exact⟨⟨a,this.1⟩,this.2⟩
theorem Bl{s:Int->Int}{R:Int->Int->Prop}(d:gh R)(e:∀ x y,Orb s x y->R x y):∀ {Q:QP} {a:Int×Int},Way s (a::Q)->(∀ q∈a::Q,R q.1 q.2)->∀ q∈a::Q,R a.1 q.1
 |[],a,_,_,q,c=>by rw[bi]at c;subst c;exact d.refl _
 |b::Q,a,hw,hp,q,c=>by
  rcases ai.1 c with rfl|c
  .exact d.refl _
  .have f:R a.1 b.1:=d.trans (hp a ar) (e _ _ hw.1);exact d.trans f (Bl d e hw.2 (fun q k=>hp q (aq _ k)) q c)
def Iw(R:cK D s){z:Int×Int}(hn:(cf (z::(Q++S))).Nodup)
 (K:Way s (Q++[z])) (hS:∀ d∈cf S,¬lz s Q d) (hz:¬lz s Q z.2) {a:Int} (P:((Q=[]/\a=z.1)\/∃ p m,Q=p::m/\a=p.1)) (hai:¬lz s Q a)
 (hf:cw (Orb s) (Q++S) z.1 z.2->Orb (ce s (Q++S)) z.1 z.2) (hc:cw (Orb s) S a z.2):Orb (ce s S) a z.2:=by
 have F:=cO R.per.eqv (Q++S);have f:(cf (Q++S)).Nodup:=by have h:(z.1::z.2::cf (Q++S)).Nodup:=hn;exact(bw.1 (bw.1 h).2).2
 have hnS:(cf S).Nodup:=by unfold cf at f ⊢;rw[ot]at f;exact(bo.1 f).2.1
 have I:∀ x∈cf Q,x∉cf S:=by unfold cf at f ⊢;rw[ot]at f;exact fun x t U=>(bo.1 f).2.2 x t x U rfl
 have hus:∀ x y,Orb s x y->cw (Orb s) (Q++S) x y:=fun x y k=>gC _ k;have haz:cw (Orb s) (Q++S) a z.1:=by
  rcases P with⟨_,rfl⟩|⟨p,m,l,rfl⟩
  .exact F.refl _
  .have o:∀(Q:QP) (p:Int×Int),Way s (p::Q++[z])->(∀ q∈p::Q,cw (Orb s) (p::Q++S) q.1 q.2)->True:=fun _ _ _ _=>trivial;have N:Way s (p::(m++[(z.1,z.1)])):=by
    rw[l]at K;have V:∀(L:QP) (p:Int×Int),Way s (p::(L++[z]))->Way s (p::(L++[(z.1,z.1)])):=by
     intro L;induction L with
     |nil=>intro p h;exact⟨h.1,trivial⟩
     |cons q L v=>intro p h;exact⟨h.1,v q h.2⟩
    exact V m p K
   exact Bl F hus N (fun q g=>by
    rcases ai.1 g with rfl|g
    .exact gV R.per.eqv _ (by rw[l];exact dg _ ar)
    .rcases am.1 g with g|g
     .exact gV R.per.eqv _ (by rw[l];exact dg _ (aq _ g))
     .rw[bi]at g;subst g;exact F.refl _) (z.1,z.1) (aq _ (dE _ (bi.2 rfl)))
 have H:cw (Orb s) (Q++S) z.1 z.2:=F.trans (F.symm haz) (BX R.per.eqv (fun p j=>dE _ j) hc);have J:=hf H;have j7:∀ d,lz s Q d->lz s Q (s d):=fun d ⟨q,g,k⟩=>⟨q,g,k.trans (Orb.step s d)⟩;have r:∀ p∈Q,(p.1=a/\a≠z.1)\/lz s Q p.1:=by
  intro p j;rcases P with⟨rfl,_⟩|⟨C,m,l,rfl⟩
  .cases j
  .have o:∀(L:QP) (b:Int×Int),Way s (b::L)->(∀ q∈b::L,q∈Q)->∀ q∈L,lz s Q q.1:=by
    intro L;induction L with
    |nil=>intro b _ _ q g;cases g
    |cons c L v=>
     intro b w B q g;rcases ai.1 g with rfl|g
     .exact⟨b,B b ar,w.1⟩
     .exact v c w.2 (fun q k=>B q (aq _ k)) q g
   rw[l]at j;rcases ai.1 j with rfl|j
   .refine .inl ⟨rfl,fun e=>?_⟩;have h:(z.1::z.2::cf (Q++S)).Nodup:=hn;exact(bw.1 h).1 (aq _ (bK.2 ⟨p,by rw[l];exact dg _ ar,.inl e.symm⟩))
   .have M:=(OW K).1;rw[l]at M;exact .inr (o m C M (fun q k=>by rw[l];exact k) p j)
 have hz1:a=z.1\/lz s Q z.1:=by
  rcases P with⟨_,rfl⟩|⟨C,m,l,rfl⟩
  .exact .inl rfl
  .refine .inr ?_;have o:∀(L:QP) (b:Int×Int),Way s (b::(L++[z]))->(∀ q∈b::L,q∈Q)->lz s Q z.1:=by
    intro L;induction L with
    |nil=>intro b w B;exact⟨b,B b ar,w.1⟩
    |cons c L v=>intro b w B;exact v c w.2 fun q k=>B q (aq _ k)
   rw[l]at K;exact o m C K fun q k=>by rw[l];exact k
 have haS:a∉cf S:=fun k=>by
  rcases P with⟨rfl,rfl⟩|⟨C,m,l,rfl⟩
  .have h:(z.1::z.2::cf ([]++S)).Nodup:=hn;exact(bw.1 h).1 (aq _ k)
  .exact I C.1 (bK.2 ⟨C,by rw[l];exact ar,.inl rfl⟩) k
 let T:Int->Prop:=fun d=>Orb (ce s S) a d\/lz s Q d;have hT:∀ d,T d->T (ce s (Q++S) d):=by
  intro d A;by_cases W:d∈cf Q
  .obtain⟨p,j,e⟩:=bK.1 W;have t:=lE s f p (dg _ j);rcases e with rfl|rfl
   .rw[t.1];exact .inr ⟨p,j,Orb.step s _⟩
   .rw[t.2];rcases r p j with⟨k,_⟩|k
    .rw[k];refine .inl ?_;have:ce s S a=s a:=qI s haS;exact⟨1,this⟩
    .exact .inr (j7 _ k)
  .by_cases E:d∈cf S
   .obtain⟨p,j,e⟩:=bK.1 E;have t:=lE s f p (dE _ j);have U:=lE s hnS p j;have hd':Orb (ce s S) a d:=A.resolve_right (hS d E);have heq:ce s (Q++S) d=ce s S d:=by
     rcases e with rfl|rfl
     .rw[t.1,U.1]
     .rw[t.2,U.2]
    rw[heq];exact .inl (hd'.trans (Orb.step _ _))
   .have h3:d∉cf (Q++S):=fun k=>by unfold cf at k W E;rw[ot,am]at k;exact k.elim W E
    rw[qI s h3];rcases A with A|A
    .refine .inl ?_;have:ce s S d=s d:=qI s E;rw[<- this];exact A.trans (Orb.step _ _)
    .exact .inr (j7 _ A)
 have X:∀ n d,T d->T (it (ce s (Q++S)) n d):=by
  intro n;induction n with
  |zero=>intro d h;exact h
  |succ n v=>intro d h;rw[bI];exact hT _ (v d h)
 obtain⟨n,hnn⟩:=J;have h0:T z.1:=by
  rcases hz1 with rfl|k
  .exact .inl (Orb.refl _ _)
  .exact .inr k
 have x9:=X n z.1 h0;rw[hnn]at x9;exact x9.resolve_right hz
def ad:PP->QP
 |x::y::l=>(x,y)::ad (y::l)
 |_=>[]
def prs(r:PP):QP:=ad (r++r.take 1)
theorem fR(x:Int)(B:PP):∀ A,ad (A++x::B)=ad (A++[x])++ad (x::B)
 |[]=>by simp[ad]
 |[a]=>by simp[ad]
 |a::b::A=>by have:=fR x B (b::A);simp only[List.cons_append,ad]at this ⊢;rw[this]
theorem IU:∀ l,ad l.reverse=((ad l).map Prod.swap).reverse
 |[]=>rfl
 |[a]=>rfl
 |a::b::l=>by have h:=IU (b::l);rw[tg,tg,dw,List.singleton_append,fR b [a] l.reverse,<- tg,h];simp[ad]
def rG(l:PP):(ad l.reverse).Perm ((ad l).map Prod.swap):=by rw[IU];exact ik _
theorem Bi:∀ l:PP,(ad l).length=l.length-1
 |[]=>rfl
 |[_]=>rfl
 |a::b::l=>by have:=Bi (b::l);simp only[ad,List.length_cons]at this ⊢;omega
theorem fH:∀ w:PP,jI w=(ad w).map fun p=>aj p.1 p.2
 |[]=>rfl
 |[_]=>rfl
 |a::b::l=>by rw[jI,fH (b::l)];rfl
theorem bC:∀ {l:PP} {x y:Int},(x,y)∈ad l->x∈l/\y∈l
 |[],_,_,h=>by cases h
 |[_],_,_,h=>by cases h
 |a::b::l,x,y,h=>by
  rcases ai.1 h with e|h
  .injection e with c d;subst c;subst d;simp
  .have:=bC h;exact⟨aq _ this.1,aq _ this.2⟩
theorem eC:∀ {l:PP},l.Nodup->(ad l).Nodup/\∀ x y,(x,y)∈ad l->x≠y/\(y,x)∉ad l
 |[],_=>⟨.nil,fun _ _ h=>by cases h⟩
 |[_],_=>⟨.nil,fun _ _ h=>by cases h⟩
 |a::b::l,h=>by
  obtain⟨j,n⟩:=bw.1 h;obtain⟨o,k⟩:=eC n;have m:a≠b:=fun e=>j (by rw[e];simp);refine⟨bw.2 ⟨fun c=>j (bC c).1,o⟩,fun x y c=>?_⟩;rcases ai.1 c with e|c
  .injection e with f g;subst f;subst g;refine⟨m,fun c=>?_⟩;rcases ai.1 c with e|c
   .injection e with f g;exact m g
   .exact j (bC c).2
  .refine⟨(k x y c).1,fun d=>?_⟩;rcases ai.1 d with e|d
   .injection e with f g;exact j (by rw[<- f];exact(bC c).2)
   .exact(k x y c).2 d
def xD(u v:Int)(A Q:PP):∀ P:PP,(prs (P++u::(A++v::Q))).Perm (ad (u::(A++[v]))++ad (v::(Q++(P++[u]))))
 |[]=>by
  have e:prs (u::(A++v::Q))=ad ((u::A)++v::(Q++[u])):=by unfold prs;simp
  rw[List.nil_append,e,fR];simp
 |p::P=>by
  have e:prs (p::P++u::(A++v::Q))=ad ((p::P)++u::(A++v::(Q++[p]))):=by unfold prs;simp
  have a:ad (u::(A++v::(Q++[p])))=ad ((u::A)++v::(Q++[p])):=Y;have b:ad (v::(Q++(p::P++[u])))=ad ((v::Q)++p::(P++[u])):=Y;rw[e,fR u _ (p::P),a,fR v _ (u::A),b,fR p _ (v::Q)];simp only[List.cons_append];refine(kT).trans ?_;rw[dw]
def Rt(l c:PP):Prop:=∃ a b,l=a++b/\c=b++a
def Rt.trans{m n:PP}(h:Rt l m)(k:Rt m n):Rt l n:=by
 obtain⟨a,b,rfl,rfl⟩:=h;obtain⟨c,d,e,rfl⟩:=k;rcases wn.1 e with⟨z,f,g⟩|⟨z,f,g⟩
 .exact⟨z,d++b,by rw[g];simp,by rw[f];simp⟩
 .exact⟨a++c,z,by rw[f];simp,by rw[g];simp⟩
def OE{i:Nat}(f:i<j)(b:j<r.length):∃ A B,jX r i j=r.getD i 0::(A++[r.getD j 0])/\jX r j i=r.getD j 0::(B++[r.getD i 0])/\(prs r).Perm (ad (r.getD i 0::(A++[r.getD j 0]))++ad (r.getD j 0::(B++[r.getD i 0])))/\Rt r (r.getD i 0::(A++r.getD j 0::B)):=by
 have a:r=r.take i++r.getD i 0::r.drop (i+1):=by rw[bv,bu O,Option.getD_some,<- jm O,gw]
 have c:r.drop (i+1)=(r.drop (i+1)).take (j-i-1)++r.getD j 0::r.drop (j+1):=by
  conv=>lhs;rw[<- gw (j-i-1) (r.drop (i+1))]
  rw[rh,show i+1+(j-i-1)=j by omega,bv,bu b,Option.getD_some,<- jm b]
 have h:(r.take i).length=i:=by rw[dj];omega
 have d:((r.drop (i+1)).take (j-i-1)).length=j-i-1:=by rw[dj,gy];omega
 have g:r.length=i+1+(j-i-1)+1+(r.drop (j+1)).length:=by rw[gy];omega
 rw[c]at a;generalize r.take i=P at *;generalize (r.drop (i+1)).take (j-i-1)=A at *;generalize r.drop (j+1)=Q at *;generalize r.getD i 0=u at *;generalize r.getD j 0=v at *;refine⟨A,Q++P,?_,?_,?_,P,u::(A++v::Q),a,Y⟩
 .unfold jX yR;rw[ac O,a,dw,zq O,ut O,List.nil_append,List.cons_append,List.take_succ_cons]
  congr 1
  rw[dw,List.cons_append,tn,ej O,d,show j-i-(j-i-1)=1 by omega];rfl
 .unfold jX yR;rw[aa O,g];have e:(r++r).drop j=v::(Q++(P++u::(A++v::Q))):=by
   conv=>lhs;rw[a]
   have:(P++u::(A++v::Q))++(P++u::(A++v::Q))=(P++u::A)++(v::(Q++(P++u::(A++v::Q)))):=Y;rw[this,zq (by simp;omega),ut (by simp;omega),List.nil_append]
  rw[e,show i+(i+1+(j-i-1)+1+Q.length)-j+1=(Q.length+(P.length+1))+1 by omega,List.take_succ_cons]
  congr 1
  rw[tn,ej O,show Q.length+(P.length+1)-Q.length=P.length+1 by omega,tn,ej O,show P.length+1-P.length=1 by omega];simp
 .have:=xD u v A Q P;rw[<- a]at this;simpa using this
def oU{i:Nat}(a:i≠j)(f:i<r.length)(g:j<r.length):∃ A B,jX r i j=r.getD i 0::(A++[r.getD j 0])/\jX r j i=r.getD j 0::(B++[r.getD i 0])/\(prs r).Perm (ad (r.getD i 0::(A++[r.getD j 0]))++ad (r.getD j 0::(B++[r.getD i 0])))/\Rt r (r.getD i 0::(A++r.getD j 0::B)):=by
 rcases Nat.lt_or_gt_of_ne a with h|h
 .exact OE h g
 .obtain⟨A,B,b,c,d,e⟩:=OE h f;exact⟨B,A,c,b,d.trans kT,e.trans ⟨r.getD j 0::A,r.getD i 0::B,Y,Y⟩⟩
def WG(z:2<=w.length)(Tv:w.getD 0 0≠w.getD (w.length-1) 0)(t:w.getD 0 0∈r)(y:w.getD (w.length-1) 0∈r):
 ∃ a b,a≠[]/\b≠[]/\(prs r).Perm (a++b)/\prs (jX r (r.idxOf (w.getD 0 0)) (r.idxOf (w.getD (w.length-1) 0))++(dO w).reverse)=a++ad w.reverse/\prs (jX r (r.idxOf (w.getD (w.length-1) 0)) (r.idxOf (w.getD 0 0))++dO w)=b++ad w:=by
 have d:w=w.getD 0 0::(dO w++[w.getD (w.length-1) 0]):=by
  have h:w.length-1<w.length:=O;have o:w=w.getD 0 0::w.drop 1:=by
   cases w with
   |nil=>simp at z
   |cons x w=>rfl
  have p:w.drop 1=dO w++[w.getD (w.length-1) 0]:=by
   have s:w.drop (w.length-1+1)=[]:=ut O;unfold dO
   conv=>lhs;rw[<- gw (w.length-2) (w.drop 1)]
   rw[rh,show 1+(w.length-2)=w.length-1 by omega,bv,bu h,Option.getD_some,jm h,s]
  rw[<- p];exact o
 have j:=lg t;have k:=lg y;have f:r.getD (r.idxOf (w.getD 0 0)) 0=w.getD 0 0:=by rw[bv,bu j,Option.getD_some,nr]
 have g:r.getD (r.idxOf (w.getD (w.length-1) 0)) 0=w.getD (w.length-1) 0:=by rw[bv,bu k,Option.getD_some,nr]
 have c:r.idxOf (w.getD 0 0)≠r.idxOf (w.getD (w.length-1) 0):=fun e=>Tv (by rw[<- f,e,g]);obtain⟨A,B,l,m,n,_⟩:=oU c j k;rw[f,g]at l m n;rw[l,m];generalize w.getD 0 0=u at *;generalize w.getD (w.length-1) 0=v at *;generalize dO w=M at *;refine⟨_,_,?_,?_,n,?_,?_⟩
 .intro e;have:=congrArg List.length e;rw[Bi]at this;simp at this
 .intro e;have:=congrArg List.length e;rw[Bi]at this;simp at this
 .have e:prs (u::(A++[v])++M.reverse)=ad ((u::A)++v::(M.reverse++[u])):=by unfold prs;simp
  have q:w.reverse=v::(M.reverse++[u]):=by rw[d];simp
  rw[e,fR,q];simp
 .have e:prs (v::(B++[u])++M)=ad ((v::B)++u::(M++[v])):=by unfold prs;simp
  rw[e,fR]
  conv=>rhs;rw[d]
  simp
def PF(F:List PP):QP:=F.flatMap prs
def If(F:List PP):Prop:=∀ R:(Int×Int)->(Int×Int)->Prop,(∀ p q,R p q->R q p)->(∀ p q r,R p q->R q r->R p r)->(∀ r∈F,∀ p∈prs r,∀ q∈prs r,R p q)->(∀ p∈PF F,R p p.swap)->∀ p∈PF F,∀ q∈PF F,R p q
structure Drn(E:QR)(h:Sh):Prop where
 nd:(PF h.F).Nodup
 mem:∀ u v,(u,v)∈PF h.F↔u≠v/\aj u v∈h.L
 lnd:h.L.Nodup
 sub:∀ p∈h.L,∃ e∈E,ae e=p
 on:∀ v,v∈h.on↔∃ u,u≠v/\aj u v∈h.L
 cnt:h.F.length+((af E).filter fun v=>decide (v∈h.on)).length=h.L.length+2
 con:If h.F
 ne:∀ r∈h.F,r≠[]
def aH(u v:Int):aj u v=aj v u:=by unfold aj;rw[Int.min_comm,Int.max_comm]
def aN{u:Int}(h:aj u v=aj x y):(u=x/\v=y)\/(u=y/\v=x):=by unfold aj at h;injection h with h1 h2;omega
def bB{F:List PP}:p∈PF F↔∃ r∈F,p∈prs r:=fu
theorem wK:∀ {w:PP} {v:Int},2<=w.length->v∈w->∃ u,(u,v)∈ad w\/(v,u)∈ad w
 |a::b::l,v,_,h=>by
  rcases ai.1 h with rfl|h
  .exact⟨b,.inr (by simp[ad])⟩
  .rcases ai.1 h with rfl|c
   .exact⟨a,.inl (by simp[ad])⟩
   .have d:2<=(b::l).length:=by have:=uq c;simp;omega
    obtain⟨u,e⟩:=wK (w:=b::l) d h;exact⟨u,e.imp (fun k=>aq _ k) fun k=>aq _ k⟩
def gK(h:v∈r):∃ u,(v,u)∈prs r:=by
 obtain⟨A,B,rfl⟩:=fo h;unfold prs;cases A with
 |nil=>
  rw[List.nil_append,List.cons_append];cases B with
  |nil=>exact⟨v,by simp[ad]⟩
  |cons b B=>exact⟨b,by simp[ad]⟩
 |cons a A=>
  have e:(a::A++v::B)++(a::A++v::B).take 1=(a::A)++v::(B++[a]):=Y;rw[e,fR];cases B with
  |nil=>exact⟨a,dE _ (by simp[ad])⟩
  |cons b B=>exact⟨b,dE _ (by simp[ad])⟩
def nY(h:(x,y)∈prs r):x∈r/\y∈r:=by unfold prs at h;have:=bC h;rw[am,am]at this;exact⟨this.1.elim id qw,this.2.elim id qw⟩
theorem lX:∀(P L:QP),P.Nodup->(∀ p∈P,p∉L)->P.foldl MZ L=L++P
 |[],L,_,_=>by simp
 |p::P,L,hn,h=>by
  obtain⟨c,d⟩:=bw.1 hn
  rw[List.foldl_cons,MZ,aa (h p ar),lX P (L++[p]) d fun q b a=>by
   rw[am,bi]at a;rcases a with a|rfl
   .exact h q (aq _ b) a
   .exact c b]
  simp
def gL(h:w.Nodup):(jI w).Nodup:=by
 obtain⟨c,d⟩:=eC h;rw[fH,List.nodup_iff_pairwise_ne,gd];refine c.imp_of_mem fun {p q} hp hq Tv e=>?_;rcases aN e with⟨a,b⟩|⟨a,b⟩
 .exact Tv (jj a b)
 .exact(d p.1 p.2 hp).2 (by rw[a,b];exact hq)
def JM{M on:PP}(j:l.Nodup)(m:M.Nodup)(e:∀ v∈M,v∈l)(f:∀ v∈M,v∉on)(k:∀ v∈l,v∈w↔v∈M\/(v∈w/\v∈on)):(l.filter fun v=>decide (v∈on++w)).length=(l.filter fun v=>decide (v∈on)).length+M.length:=by
 have o:(l.filter fun v=>decide (v∈on++w)).Perm ((l.filter fun v=>decide (v∈on))++M):=by
  refine(jd (j.sublist eu) (bo.2 ⟨j.sublist eu,m,?_⟩)).2 fun v=>?_
  .rintro a g b n rfl;rw[cj,gm]at g;exact f a n g.2
  .rw[cj,gm,am,am,cj,gm];constructor
   .rintro⟨c,d|d⟩
    .exact .inl ⟨c,d⟩
    .rcases(k v c).1 d with h|h
     .exact .inr h
     .exact .inl ⟨c,h.2⟩
   .rintro(⟨c,d⟩|h)
    .exact⟨c,.inl d⟩
    .exact⟨e v h,.inr ((k v (e v h)).2 (.inl h))⟩
 have:=o.length_eq
 rwa [cb]at this
def pF(e:2<=w.length):w=w.getD 0 0::(dO w++[w.getD (w.length-1) 0]):=by
 have a:w.length-1<w.length:=O;have b:w=w.getD 0 0::w.drop 1:=by
  cases w with
  |nil=>simp at e
  |cons x w=>rfl
 have c:w.drop 1=dO w++[w.getD (w.length-1) 0]:=by
  have d:w.drop (w.length-1+1)=[]:=ut O;unfold dO
  conv=>lhs;rw[<- gw (w.length-2) (w.drop 1)]
  rw[rh,show 1+(w.length-2)=w.length-1 by omega,bv,bu a,Option.getD_some,jm a,d]
 rw[<- c];exact b
section
variable {E:List Ed} {h:Sh} (hD:Drn E h)
include hD
theorem Drn.ring_on{r:PP}(a:r∈h.F){v:Int}(c:v∈r):v∈h.on:=by obtain⟨u,b⟩:=gK c;have:=(hD.mem v u).1 (bB.2 ⟨r,a,b⟩);exact(hD.on v).2 ⟨u,fun e=>this.1 e.symm,by rw[aH];exact this.2⟩
theorem Drn.on_vs{v:Int}(g:v∈h.on):v∈af E:=by
 obtain⟨u,j,d⟩:=(hD.on v).1 g;obtain⟨e,c,f⟩:=hD.sub _ d;rw[aI];rcases aN f with⟨a,b⟩|⟨a,b⟩
 .exact⟨e,c,.inr b.symm⟩
 .exact⟨e,c,.inl a.symm⟩
theorem Drn.lay{w:PP}{c:Nat}(H:c < h.F.length)(s:2<=w.length)(d:w.Nodup)(h1:w.getD 0 0∈h.F.getD c [])(h2:w.getD (w.length-1) 0∈h.F.getD c [])(hm:∀ v∈dO w,v∉h.on)
 (S:∀ x y,(x,y)∈ad w->aj x y∉h.L/\∃ e∈E,ae e=aj x y):Drn E (iS h w c):=by
 have Q:=pF s;have Tv:w.getD 0 0≠w.getD (w.length-1) 0:=fun e=>by rw[Q,e]at d;exact(bw.1 d).1 Y
 obtain⟨a,b,ha,hb,q1,q2,q3⟩:=WG s Tv h1 h2;obtain⟨n1,n2⟩:=eC d;have o:h.F.getD c []∈h.F:=by rw[bv,bu H];exact dz _
 have o1:=hD.ring_on o h1;have o2:=hD.ring_on o h2;have hFs:∃ F1 F2,h.F=F1++h.F.getD c []::F2/\∀ r,h.F.set c r=F1++r::F2:=by
  refine⟨h.F.take c,h.F.drop (c+1),?_,fun r=>?_⟩
  .rw[bv,bu H,Option.getD_some,<- jm H,gw]
  .rw[uk,ac H]
 obtain⟨F1,F2,f1,f2⟩:=hFs;have hlen:(iS h w c).F.length=h.F.length+1:=by simp[iS]
 have C:(iS h w c).F=(h.F.set c (jX (h.F.getD c []) ((h.F.getD c []).idxOf (w.getD 0 0)) ((h.F.getD c []).idxOf (w.getD (w.length-1) 0))++(dO w).reverse))++[jX (h.F.getD c []) ((h.F.getD c []).idxOf (w.getD (w.length-1) 0)) ((h.F.getD c []).idxOf (w.getD 0 0))++dO w]:=rfl;rw[f2]at C;have hL:(iS h w c).L=h.L++jI w:=by
  have:(iS h w c).L=lJ h.L w:=rfl;rw[this];exact lX _ _ (gL d) fun p J=>by rw[fH]at J;obtain⟨q,A,rfl⟩:=ao.1 J;exact(S q.1 q.2 A).1
 have hOn:(iS h w c).on=h.on++w:=rfl;generalize iS h w c=X at *;generalize jX (h.F.getD c []) ((h.F.getD c []).idxOf (w.getD 0 0)) ((h.F.getD c []).idxOf (w.getD (w.length-1) 0))++(dO w).reverse=r1 at *;generalize jX (h.F.getD c []) ((h.F.getD c []).idxOf (w.getD (w.length-1) 0)) ((h.F.getD c []).idxOf (w.getD 0 0))++dO w=r2 at *;generalize h.F.getD c []=r at *;have D:(PF X.F).Perm (PF h.F++(ad w++ad w.reverse)):=by
  rw[C,f1];unfold PF;simp only[ot,dt,nw,dT];rw[q2,q3];have m:(List.flatMap prs F1++(a++ad w.reverse++List.flatMap prs F2)++(b++ad w)).Perm (List.flatMap prs F1++((a++b)++List.flatMap prs F2)++(ad w++ad w.reverse)):=by rw[Hc];intro x;simp only[cy];omega
  refine m.trans ?_;exact(((q1.symm.append_right _).append_left _).append_right _)
 have I:∀ u v,aj u v∈jI w↔(u,v)∈ad w\/(v,u)∈ad w:=fun u v=>by
  rw[fH,ao];constructor
  .rintro⟨q,A,e⟩;rcases aN e with⟨m,B⟩|⟨m,B⟩
   .left;rw[<- m,<- B];exact A
   .right;rw[<- m,<- B];exact A
  .rintro(k|k)
   .exact⟨_,k,rfl⟩
   .exact⟨_,k,aH _ _⟩
 have g:∀ u v,(u,v)∈ad w.reverse↔(v,u)∈ad w:=fun u v=>by
  rw[(rG w).mem_iff,ao];constructor
  .rintro⟨q,A,e⟩;have:q=(v,u):=by rw[<- lk q,e];rfl
   rw[<- this];exact A
  .intro k;exact⟨_,k,rfl⟩
 have hmem:∀ u v,(u,v)∈PF X.F↔u≠v/\aj u v∈X.L:=fun u v=>by
  rw[D.mem_iff,am,am,hD.mem,g,hL,am,I];constructor
  .rintro(⟨K,N⟩|k|k)
   .exact⟨K,.inl N⟩
   .exact⟨(n2 _ _ k).1,.inr (.inl k)⟩
   .exact⟨fun e=>(n2 _ _ k).1 e.symm,.inr (.inr k)⟩
  .rintro⟨K,N|k|k⟩
   .exact .inl ⟨K,N⟩
   .exact .inr (.inl k)
   .exact .inr (.inr k)
 have hmid:∀ v∈w,v∈dO w\/v∈h.on:=fun v j=>by
  rw[Q]at j;rcases ai.1 j with e|j
  .exact .inr (by rw[e];exact o1)
  .rcases am.1 j with j|j
   .exact .inl j
   .exact .inr (by rw[bi.1 j];exact o2)
 refine⟨?_,hmem,?_,?_,?_,?_,?_,?_⟩
 .refine D.nodup_iff.2 (bo.2 ⟨hD.nd,bo.2 ⟨n1,(eC ((ik w).nodup_iff.2 d)).1,?_⟩,?_⟩)
  .rintro⟨x,y⟩ hx _ U rfl;exact(n2 x y hx).2 ((g _ _).1 U)
  .rintro⟨x,y⟩ hx _ U rfl;have k:=((hD.mem x y).1 hx).2;rcases am.1 U with U|U
   .exact(S x y U).1 k
   .exact(S y x ((g _ _).1 U)).1 (by rw[aH];exact k)
 .rw[hL];refine bo.2 ⟨hD.lnd,gL d,?_⟩;rintro p hp1 _ hp2 rfl;rw[fH]at hp2;obtain⟨q,A,rfl⟩:=ao.1 hp2;exact(S q.1 q.2 A).1 hp1
 .intro p u6;rw[hL]at u6;rcases am.1 u6 with k|k
  .exact hD.sub p k
  .rw[fH]at k;obtain⟨q,A,rfl⟩:=ao.1 k;exact(S q.1 q.2 A).2
 .intro v;rw[hOn,am,hD.on,hL];constructor
  .rintro(⟨u,K,N⟩|k)
   .exact⟨u,K,dg _ N⟩
   .obtain⟨u,k|k⟩:=wK s k
    .exact⟨u,(n2 _ _ k).1,dE _ ((I u v).2 (.inl k))⟩
    .exact⟨u,fun e=>(n2 _ _ k).1 e.symm,dE _ ((I u v).2 (.inr k))⟩
  .rintro⟨u,K,N⟩;rcases am.1 N with k|k
   .exact .inl ⟨u,K,k⟩
   .right;rcases(I u v).1 k with k|k
    .exact(bC k).2
    .exact(bC k).1
 .have hmn:(dO w).Nodup:=by rw[Q]at d;exact(bo.1 (bw.1 d).2).1
  have hvw:∀ v∈w,v∈af E:=fun v j=>by
   obtain⟨u,k|k⟩:=wK s j
   .obtain⟨e,he,T⟩:=(S _ _ k).2;rw[aI];rcases aN T with⟨m,B⟩|⟨m,B⟩
    .exact⟨e,he,.inr B.symm⟩
    .exact⟨e,he,.inl m.symm⟩
   .obtain⟨e,he,T⟩:=(S _ _ k).2;rw[aI];rcases aN T with⟨m,B⟩|⟨m,B⟩
    .exact⟨e,he,.inl m.symm⟩
    .exact⟨e,he,.inr B.symm⟩
  have hc:=JM (l:=af E) (M:=dO w) (on:=h.on) (w:=w) ((jM E).imp fun k=>by omega) hmn (fun v j=>hvw v (oJ j)) hm fun v _=>⟨fun k=>(hmid v k).imp id fun N=>⟨k,N⟩,fun k=>k.elim oJ And.left⟩;have hml:=xC w;have hc0:=hD.cnt;have hwl:=pQ w;rw[hlen,hOn,hL,cb,hc];omega
 ·
  intro R hs P hr hsw;have m1:∀ p∈prs r1,p∈PF X.F:=fun p k=>bB.2 ⟨r1,by rw[C];simp,k⟩;have m2:∀ p∈prs r2,p∈PF X.F:=fun p k=>bB.2 ⟨r2,by rw[C];simp,k⟩;have w1:=hr r1 (by rw[C];simp);have w2:=hr r2 (by rw[C];simp);obtain⟨V,W,W0⟩:∃ x y,(x,y)∈ad w:=by
   obtain⟨u,k|k⟩:=wK s (v:=w.getD 0 0) (by rw[bv,bu (by omega:0<w.length)];exact dz _)
   .exact⟨_,_,k⟩
   .exact⟨_,_,k⟩
  have c2:(V,W)∈prs r2:=by rw[q3];exact dE _ W0
  have c1:(W,V)∈prs r1:=by rw[q2];exact dE _ ((g _ _).2 W0)
  have cc:R (V,W) (W,V):=hsw _ (m2 _ c2);have both:∀ p,p∈prs r1\/p∈prs r2->R p (V,W):=by
   rintro p (k|k)
   .exact P _ _ _ (w1 p k _ c1) (hs _ _ cc)
   .exact w2 p k _ c2
  have r9:∀ p∈prs r,p∈prs r1\/p∈prs r2:=fun p k=>by
   rcases am.1 (q1.mem_iff.1 k)with k|k
   .left;rw[q2];exact dg _ k
   .right;rw[q3];exact dg _ k
  have old:∀ p∈PF h.F,∀ q∈PF h.F,R p q:=by
   refine hD.con R hs P (fun t htF p f q n=>?_) fun p f=>hsw p (D.mem_iff.2 (dg _ f));rw[f1]at htF;rcases am.1 htF with k|k
   .exact hr t (by rw[C];simp[k]) p f q n
   .rcases ai.1 k with e|k
    .subst e;exact P _ _ _ (both p (r9 p f)) (hs _ _ (both q (r9 q n)))
    .exact hr t (by rw[C];simp[k]) p f q n
  obtain⟨p0,hp0⟩:=gv a ha;have k0:p0∈prs r:=q1.mem_iff.2 (dg _ hp0);have K:p0∈PF h.F:=bB.2 ⟨r,o,k0⟩;have z:R p0 (V,W):=both p0 (r9 p0 k0);have all:∀ p∈PF X.F,R p (V,W):=fun p J=>by
   rcases am.1 (D.mem_iff.1 J)with k|k
   .exact P _ _ _ (old p k p0 K) z
   .refine both p ?_;rcases am.1 k with k|k
    .right;rw[q3];exact dE _ k
    .left;rw[q2];exact dE _ k
  exact fun p f q n=>P _ _ _ (all p f) (hs _ _ (all q n))
 .intro t P;rw[C]at P;have nil:prs []=[]:=rfl;rcases am.1 P with k|k
  .rcases am.1 k with k|k
   .exact hD.ne t (by rw[f1];simp[k])
   .rcases ai.1 k with e|k
    .rintro e0;rw[<- e,e0,nil]at q2;exact ha (By.1 q2.symm).1
    .exact hD.ne t (by rw[f1];simp[k])
  .rw[bi]at k;rintro e0;rw[<- k,e0,nil]at q3;exact hb (By.1 q3.symm).1
end
end Aw
end Go.Proofs.YtbgngpdonpeboaaGreatDoor
