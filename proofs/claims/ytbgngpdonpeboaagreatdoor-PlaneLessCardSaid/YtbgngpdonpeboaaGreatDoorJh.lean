/- plane: newSheet. -/
import Derived.Test.YtbgngpdonpeboaaGreatDoorJg
import Derived.Test.YtbgngpdonpeboaaGreatDoorAwAlt
set_option linter.defProp false
set_option linter.unusedVariables false
set_option linter.unusedSimpArgs false
set_option maxHeartbeats 4000000
open Go.Proofs.Tryz
namespace Go.Proofs.YtbgngpdonpeboaaGreatDoor
namespace Aw
open Go Go.RowKit Pl
def UE{a:Array Oper}{M B:List Nat}{d:St}{J:af->St->Prop}{listed:Array Bool}{b:af}{c:St}{k:Nat}(n:Nat)(p q r:Nat×Bool)(f:eE prog tab a M B d (fun b c=>jR prog tab a M (SB B d) J n (listed.setIfInBounds p.1 true) b c) (pick a [p]) b c)
 (g:eE prog tab a M B d (fun b c=>jR prog tab a M (SB B d) J n (listed.setIfInBounds q.1 true) b c) (pick a [q]) b c)
 (h:eE prog tab a M B d (fun b c=>jR prog tab a M (SB B d) J n (listed.setIfInBounds r.1 true) b c) (pick a [r]) b c) (l:k=n+1:=by rfl) (j:MG a [p,q,r] listed=true:=by kernel_rfl):jR prog tab a M (SB B d) J k listed b c:=by
 subst l;refine Gj n [p,q,r] j fun x e=>?_;simp only[ah,ml,nq]at e;rcases e with rfl|rfl|rfl
 .exact f
 .exact g
 .exact h
structure xg(g:Gr)(lo S nl pl ll:Nat)(f6:LV)(j8 s:St)(near:List LV)(pm lm:List (AN×LV))(on:Nat):Prop where
 gr:s.H lo=.box 25 2 (bv g)
 box:s.H S=.box 136 7 [.sl 0 g.V.length (us g.V),.sl 0 g.E.length (eds g.E),.ms nl 0 g.V.length,.mp pl,.mp ll,wv on,f6]
 near:s.H nl=.box 133 1 near
 plc:s.H pl=.map false [.u32] pm
 lin:s.H ll=.map true [.u32,.u32] lm
 b:j8.z<=lo/\lo<s.z/\j8.z<=S/\S<s.z/\j8.z<=nl/\nl<s.z/\j8.z<=pl/\pl<s.z/\j8.z<=ll/\ll<s.z
 kp:aA j8 s
def iQ(n:Nat):fL [.atom (.int .u64 0)] n=List.replicate n (wv 0):=by
 induction n with
 |zero=>rfl
 |succ n a=>rw[List.replicate_succ,<- a];rfl
def Oj(a:AN)(j:Nat):List (AN×LV):=(List.range j).map fun k=>([a.getD k 0],i k)
theorem CV:∀(L:List (AN×LV)) (k:AN) (x:LV),k∉L.map (·.1)->bV L k x=L++[(k,x)]
 |[],k,x,_=>rfl
 |q::L,k,x,h=>by simp only[ax,ah,gy]at h;simp only[bV];rw[ac (by simpa using h.1),CV L k x h.2];rfl
def OX{a:AN}(d:a.Nodup){j:Nat}(b:j<a.length):bV (Oj a j) [a.getD j 0] (i j)=Oj a (j+1):=by
 rw[CV]
 .unfold Oj;rw[vh,cr];rfl
 .unfold Oj;rw[dy];intro h;obtain⟨k,c,e⟩:=aq.1 h;have c:=fC.1 c;simp only[Function.comp,jx,rm]at e;rw[bA _ _ b,bA _ _ (show k<a.length by omega),Ey d oO b]at e;omega
def nG(g:Gr)(j:Nat):List LV:=g.V.map fun v=>wv (mk g.V (nbr (g.E.take j) v))
@[simp] theorem EO(g:Gr)(j:Nat):(nG g j).length=g.V.length:=by simp[nG]
def JQ(g:Gr):nG g 0=List.replicate g.V.length (wv 0):=by
 have c:mk g.V []=0:=(mk_zero g.V []).2 fun _ _=>by simp
 unfold nG;rw[List.eq_replicate_iff];refine⟨sS,fun b a=>?_⟩;obtain⟨v,_,rfl⟩:=aq.1 a;simp[nbr,c]
def NR(g:Gr):nG g g.E.length=mH g:=by unfold nG mH;rw[gm]
def rR(g:Gr)(j k:Nat)(a:k<g.V.length):(nG g j)[k]?=some (wv (mk g.V (nbr (g.E.take j) (g.V.getD k 0)))):=by unfold nG;rw[nk,cg a,bA _ _ a];rfl
def TA(a:List Ed)(x:Ed)(v:Int):nbr (a++[x]) v=nbr a v++xJ v x:=by simp[nbr]
def Ke{g:Gr}(m:g.V.Nodup){j:Nat}(l:j<g.E.length){d a b:Int}(s:g.E.getD j ed0=⟨d,a,b⟩)(n:a≠b)(q:a∈g.V)(r:b∈g.V):
 ((nG g j).set (g.V.idxOf a) (wv (mk g.V (nbr (g.E.take j) a++[b])))).set (g.V.idxOf b) (wv (mk g.V (nbr (g.E.take j) b++[a])))=nG g (j+1):=by
 obtain⟨w,o⟩:=Av q;obtain⟨x,p⟩:=Av r;have C4:g.E.take (j+1)=g.E.take j++[⟨d,a,b⟩]:=by rw[eL l,<- fA _ _ l,s]
 refine og fun k=>?_;by_cases c:k<g.V.length
 .rw[rR g (j+1) k c,C4,TA,sy,sy,rR g j k c];simp only[pd,EO];by_cases f:g.V.idxOf b=k
  .rw[ad f,ad oO,<- f,p];simp[xJ,n]
  .rw[ac f];by_cases h:g.V.idxOf a=k
   .rw[ad h,ad oO,<- h,o];simp[xJ,fD n]
   .rw[ac h];have t:¬a=g.V.getD k 0:=fun e=>h (by rw[e,bA _ _ c];exact m.idxOf_getElem k c);have v:¬b=g.V.getD k 0:=fun e=>f (by rw[e,bA _ _ c];exact m.idxOf_getElem k c);unfold xJ;rw[ac t,ac v];simp
 .rw[nw (by simp;omega),nw (by simp;omega)]
def Zx(x y:Ed)(q:Nat)(c:St)(g:c.H q=.box 36 3 (dl x))(h:q<c.z):
 aB prog 138 [.ag (dl y),.pt q 0] c fun r e=>r=bb (decide (y≠x))/\aA c e:=by
 obtain⟨d,a,b⟩:=x;obtain⟨l,j,k⟩:=y;have f:¬q=c.z:=oO;refine zN func138 ntmps138 [.tmp 3] ?_;refine cy g f ?_;exact⟨rfl,aA.new _ _⟩
def newF(g:Gr):Option Sh:=match g.E with
 |[]=>none
 |x::_=>(uT g.V (cQ (g.E.filter fun y=>decide (y≠x))) (fun _=>true) x.a x.b 1000).bind fun ring=>
  if ring.length<=200/\∀ v∈ring,v∈g.V then some ⟨kF (kF [] ring) [x.a,x.b],ring++[x.a,x.b],[ring,ring.reverse]⟩else none
def SV{g:Gr}(hg:GP g){h:Sh}(hh:newF g=some h)(c:St):aB prog 100 [.ag (bv g)] c fun r st'=>∃ S p m o fl le,r=.pt S 0/\ShA g h.L h.on h.F S p m o fl le st'/\(c.z<=S/\c.z<=o/\c.z<=fl)/\aA c st':=by
 have he:=hg.he;have U:=hg.h64;refine zN func100 ntmps100 [.tmp 2] ?_;refine iF fun P4=>?_;refine bz ?_;refine Br (fun f s=>∃ S p m o,f 1=.pt c.z 0/\f 3=.pt S 0/\xg g c.z S p m o .nil c s (List.replicate g.V.length (wv 0)) [] [] 0) ?_ ?_
 .refine w_a [] [c.z] ?_;intro J t;refine kV 6 [(0,true),(1,true),(2,true),(3,true)] ?_;simp;refine UE 5 (4,true) (5,true) (6,true) ?_ ?_ ?_
  .simp;refine⟨⟨oO,oO⟩,?_⟩;refine sZ 4 (5,true) (6,true) ?_ ?_
   .simp;refine kV 0 [(6,true),(7,true),(8,true),(9,true)] ?_;simp;refine eR (t _ _ ?_);simp only[ak];refine⟨trivial,c.z+4,c.z+1,c.z+2,c.z+3,sS,sS,⟨?_,?_,?_,?_,?_,?_,?_⟩⟩
    ·(repeat (first|rw[bh bm]|rw[bj oO]|rw[bi bo]|rw[bk oO]))
    ·(repeat (first|rw[bh bm]|rw[bj oO]|rw[bi bo]|rw[bk oO]));rfl
    ·(repeat (first|rw[bh bm]|rw[bj oO]|rw[bi bo]|rw[bk oO]));rw[iQ]
    ·(repeat (first|rw[bh bm]|rw[bj oO]|rw[bi bo]|rw[bk oO]))
    ·(repeat (first|rw[bh bm]|rw[bj oO]|rw[bi bo]|rw[bk oO]))
    .simp only[aH];omega
    ·(repeat (first|exact aA.refl _|(refine aA.trans ?_ (aA.new _ _))))
   .simp;refine kV 0 [(5,true),(7,true),(8,true),(9,true)] ?_;simp;refine eR (t _ _ ?_);simp only[ak];refine⟨trivial,c.z+4,c.z+1,c.z+3,c.z+2,sS,sS,⟨?_,?_,?_,?_,?_,?_,?_⟩⟩
    ·(repeat (first|rw[bh bm]|rw[bj oO]|rw[bi bo]|rw[bk oO]))
    ·(repeat (first|rw[bh bm]|rw[bj oO]|rw[bi bo]|rw[bk oO]));rfl
    ·(repeat (first|rw[bh bm]|rw[bj oO]|rw[bi bo]|rw[bk oO]));rw[iQ]
    ·(repeat (first|rw[bh bm]|rw[bj oO]|rw[bi bo]|rw[bk oO]))
    ·(repeat (first|rw[bh bm]|rw[bj oO]|rw[bi bo]|rw[bk oO]))
    .simp only[aH];omega
    ·(repeat (first|exact aA.refl _|(refine aA.trans ?_ (aA.new _ _))))
  .simp;refine sZ 4 (4,true) (6,true) ?_ ?_
   .simp;refine⟨⟨oO,oO⟩,?_⟩;refine kV 0 [(6,true),(7,true),(8,true),(9,true)] ?_;simp;refine eR (t _ _ ?_);simp only[ak];refine⟨trivial,c.z+4,c.z+2,c.z+1,c.z+3,sS,sS,⟨?_,?_,?_,?_,?_,?_,?_⟩⟩
    ·(repeat (first|rw[bh bm]|rw[bj oO]|rw[bi bo]|rw[bk oO]))
    ·(repeat (first|rw[bh bm]|rw[bj oO]|rw[bi bo]|rw[bk oO]));rfl
    ·(repeat (first|rw[bh bm]|rw[bj oO]|rw[bi bo]|rw[bk oO]));rw[iQ]
    ·(repeat (first|rw[bh bm]|rw[bj oO]|rw[bi bo]|rw[bk oO]))
    ·(repeat (first|rw[bh bm]|rw[bj oO]|rw[bi bo]|rw[bk oO]))
    .simp only[aH];omega
    ·(repeat (first|exact aA.refl _|(refine aA.trans ?_ (aA.new _ _))))
   .simp;refine kV 0 [(4,true),(7,true),(8,true),(9,true)] ?_;simp;refine⟨⟨oO,oO⟩,?_⟩;refine eR (t _ _ ?_);simp only[ak];refine⟨trivial,c.z+4,c.z+3,c.z+1,c.z+2,sS,sS,⟨?_,?_,?_,?_,?_,?_,?_⟩⟩
    ·(repeat (first|rw[bh bm]|rw[bj oO]|rw[bi bo]|rw[bk oO]))
    ·(repeat (first|rw[bh bm]|rw[bj oO]|rw[bi bo]|rw[bk oO]));rfl
    ·(repeat (first|rw[bh bm]|rw[bj oO]|rw[bi bo]|rw[bk oO]));rw[iQ]
    ·(repeat (first|rw[bh bm]|rw[bj oO]|rw[bi bo]|rw[bk oO]))
    ·(repeat (first|rw[bh bm]|rw[bj oO]|rw[bi bo]|rw[bk oO]))
    .simp only[aH];omega
    ·(repeat (first|exact aA.refl _|(refine aA.trans ?_ (aA.new _ _))))
  .simp;refine sZ 4 (4,true) (5,true) ?_ ?_
   .simp;refine⟨⟨oO,oO⟩,?_⟩;refine kV 0 [(5,true),(7,true),(8,true),(9,true)] ?_;simp;refine eR (t _ _ ?_);simp only[ak];refine⟨trivial,c.z+4,c.z+2,c.z+3,c.z+1,sS,sS,⟨?_,?_,?_,?_,?_,?_,?_⟩⟩
    ·(repeat (first|rw[bh bm]|rw[bj oO]|rw[bi bo]|rw[bk oO]))
    ·(repeat (first|rw[bh bm]|rw[bj oO]|rw[bi bo]|rw[bk oO]));rfl
    ·(repeat (first|rw[bh bm]|rw[bj oO]|rw[bi bo]|rw[bk oO]));rw[iQ]
    ·(repeat (first|rw[bh bm]|rw[bj oO]|rw[bi bo]|rw[bk oO]))
    ·(repeat (first|rw[bh bm]|rw[bj oO]|rw[bi bo]|rw[bk oO]))
    .simp only[aH];omega
    ·(repeat (first|exact aA.refl _|(refine aA.trans ?_ (aA.new _ _))))
   .simp;refine kV 0 [(4,true),(7,true),(8,true),(9,true)] ?_;simp;refine⟨⟨oO,oO⟩,?_⟩;refine eR (t _ _ ?_);simp only[ak];refine⟨trivial,c.z+4,c.z+3,c.z+2,c.z+1,sS,sS,⟨?_,?_,?_,?_,?_,?_,?_⟩⟩
    ·(repeat (first|rw[bh bm]|rw[bj oO]|rw[bi bo]|rw[bk oO]))
    ·(repeat (first|rw[bh bm]|rw[bj oO]|rw[bi bo]|rw[bk oO]));rfl
    ·(repeat (first|rw[bh bm]|rw[bj oO]|rw[bi bo]|rw[bk oO]));rw[iQ]
    ·(repeat (first|rw[bh bm]|rw[bj oO]|rw[bi bo]|rw[bk oO]))
    ·(repeat (first|rw[bh bm]|rw[bj oO]|rw[bi bo]|rw[bk oO]))
    .simp only[aH];omega
    ·(repeat (first|exact aA.refl _|(refine aA.trans ?_ (aA.new _ _))))
 .rintro I s ⟨S,p,m,o,P,A,C⟩;have hn:g.V.Nodup:=hg.toGoodE.toGood.nodup;have D:=C.gr;refine cy P D ?_;refine bH 24 23 25 35 (g.V.length) (fun j I st2=>I 1=.pt c.z 0/\I 3=.pt S 0/\I 22=.sl 0 g.V.length (us g.V)/\xg g c.z S p m o .nil c st2 (List.replicate g.V.length (wv 0)) (Oj g.V j) [] 0) ?_ ?_ ?_
  .exact⟨aa P,aa A,sS,C⟩
  .clear P A C D I s;rintro j I s dF ⟨P,A,Z,C⟩ fi fn JO hJO;have hd:=qG g.V j dF;have hps:=OX hn dF;generalize g.V.getD j 0=v at *;obtain⟨D,B,K,w,X,hb,hk⟩:=id C;have a1:¬c.z=m:=fun e=>by rw[e,w]at D;cases D
   have a2:¬S=m:=fun e=>by rw[e,w]at B;cases B
   have a3:¬p=m:=fun e=>by rw[e,w]at K;cases K
   have a4:¬o=m:=fun e=>by rw[e,w]at X;cases X
   refine lz A Z fi fn hd dF B w hps ?_;exact hJO _ _ (aa fi) (aa fn) ⟨aa P,aa A,aa Z,⟨by(repeat (first|rw[bh bm]|rw[bj oO]|rw[bi bo]|rw[bk oO]));exact D,by(repeat (first|rw[bh bm]|rw[bj oO]|rw[bi bo]|rw[bk oO]));exact B,by(repeat (first|rw[bh bm]|rw[bj oO]|rw[bi bo]|rw[bk oO]));exact K,by(repeat (first|rw[bh bm]|rw[bj oO]|rw[bi bo]|rw[bk oO])),by(repeat (first|rw[bh bm]|rw[bj oO]|rw[bi bo]|rw[bk oO]));exact X,by simp only[bN];exact hb,hk.set oO _⟩⟩
  .clear P A C D I s;rintro I s ⟨P,A,Z,C⟩;have D:=C.gr;have hel:=aJ g.E;refine cy P D ?_;rw[<- JQ]at C;have hplc:Oj g.V g.V.length=vR g.V:=rfl;rw[hplc]at C;clear hplc;refine bH 39 38 40 81 (g.E.length) (fun j I st2=>I 1=.pt c.z 0/\I 3=.pt S 0/\I 37=.sl 0 g.E.length (eds g.E)/\xg g c.z S p m o .nil c st2 (nG g j) (vR g.V) [] 0) ?_ ?_ ?_
   .exact⟨aa P,aa A,sS,C⟩
   .clear P A Z C D I s;rintro j I s dF ⟨P,A,f37,C⟩ fi fn JO hJO;have hde:=aS g.E j dF;have hj3:j*3<g.E.length*3:=oO;have hm:g.E.getD j ed0∈g.E:=by rw[fA _ _ dF];exact dq _
    have O0:=hg.ends _ hm;have c7:=hg.ne _ hm;generalize hx:g.E.getD j ed0=x at *;obtain⟨d,a,b⟩:=x;simp only at O0 c7;have hsu:=Ke hn dF hx c7 O0.1 O0.2;obtain⟨ia,ga⟩:=Av O0.1;obtain⟨ib,gb⟩:=Av O0.2;have pa:=Bl hn ia;have pb:=Bl hn ib;rw[ga]at pa;rw[gb]at pb;have na:=rR g j _ ia;rw[ga]at na;have oa:=Au g.V (nbr (g.E.take j) a) [b] U;have ob:=Au g.V (nbr (g.E.take j) b) [a] U;have nb:=rR g j _ ib;rw[gb]at nb;have hidx:¬g.V.idxOf a=g.V.idxOf b:=fun e=>c7 (by rw[<- ga,<- gb,e]);have nb2:((nG g j).set (g.V.idxOf a) (wv (mk g.V (nbr (g.E.take j) a++[b]))))[g.V.idxOf b]?=some (wv (mk g.V (nbr (g.E.take j) b))):=by rw[sy,ac hidx];exact nb
    have hl:=EO g j;generalize nG g j=N at *;generalize g.V.idxOf a=ka at *;generalize g.V.idxOf b=kb at *;generalize mk g.V (nbr (g.E.take j) a)=ma at *;generalize mk g.V (nbr (g.E.take j) b)=mb at *;obtain⟨D,B,K,w,X,hb,hk⟩:=id C;have a1:¬c.z=s.z:=oO;have a2:¬S=s.z:=oO;have a3:¬p=s.z:=oO;have a4:¬o=s.z:=oO;have a5:¬m=s.z:=oO;have da:N.drop ka=wv ma::N.drop (ka+1):=by rw[ir oO];rw[cg oO,ap]at na;rw[na]
    have ka1:(ka:Int)<g.V.length:=oO;have kb1:(kb:Int)<g.V.length:=oO;refine mu f37 fi fn hde hel hj3 dF ?_
    (refine zS [] [S,s.z,p,m] [0,2,4,6,8,10,12,14,16,18,20,22,24,26,28,30,32,34,36,39] ?_;intro J t;simp[A,B,K,w,a1,a2,a3,a4,a5,pa,da,ia,ka1,hl])
    have hBb:∀ {v:Int} {s':St},v∈g.V->s'.H S=.box 136 7 [.sl 0 g.V.length (us g.V),.sl 0 g.E.length (eds g.E),.ms p 0 g.V.length,.mp m,.mp o,wv 0,.nil]->s'.H m=.map false [.u32] (vR g.V)->aB prog 137 [.pt S 0,u v] s' fun r st'=>r=wv (mk g.V [v])/\st'=s':=
     fun {v s'} T h1 h2=>VD ⟨⟨_,_,_,_,_,_,h1⟩,h2⟩ hn U T
    refine fI (hBb O0.2 (by rw[cB,ac a2];exact B) (by rw[cB,ac a5];exact w)) ?_;refine⟨fun h=>by first|(cases h;done)|exact fun _ _=>rfl|simp,?_⟩;have hset:∀(M:List LV) (k:Nat) (y:LV),k<M.length->M.take k++y::M.drop (k+1)=M.set k y:=fun M k y h=>by rw[qd,ad h]
    have hs1:=hset N ka (wv (mk g.V (nbr (g.E.take j) a++[b]))) oO;have b1:¬S=p:=fun e=>by rw[e,K]at B;cases B
    have b2:¬m=p:=fun e=>by rw[e,K]at w;cases w
    have b3:¬s.z=p:=oO;have b4:¬o=p:=fun e=>by rw[e,K]at X;cases X
    have b5:¬c.z=p:=fun e=>by rw[e,K]at D;cases D
    (apply bM;simp[B,K,w,a1,a2,a3,a4,a5,ia,ka1,hl,oa];(repeat refine ca ?_);(refine zJ t ?_;clear t J))
    rw[hs1];have hl2:(N.set ka (wv (mk g.V (nbr (g.E.take j) a++[b])))).length=g.V.length:=by rw[pd,hl]
    generalize N.set ka (wv (mk g.V (nbr (g.E.take j) a++[b])))=N2 at *;have db:N2.drop kb=wv mb::N2.drop (kb+1):=by rw[ir oO];rw[cg oO,ap]at nb2;rw[nb2]
    have hs2:=hset N2 kb (wv (mk g.V (nbr (g.E.take j) b++[a]))) oO
    (repeat (apply qS))
    (refine zS [] [S,s.z,p,m] [0,2,4,6,8,10,12,14,16,18,20,22,24,26,28,30,32,34,36,39] ?_;intro J t;simp[A,B,w,a1,a2,a3,a4,a5,b1,b2,b3,b4,pb,db,ib,kb1,hl2])
    refine fI (hBb O0.1 (by rw[bP,ac b1,cB,ac a2];exact B) (by rw[bP,ac b2,cB,ac a5];exact w)) ?_;refine⟨fun h=>by first|(cases h;done)|exact fun _ _=>rfl|simp,?_⟩
    (apply bM;simp[B,w,a1,a2,a3,a4,a5,b1,b2,b3,b4,ib,kb1,hl2,ob];(repeat refine ca ?_);(refine zJ t ?_;clear t J))
    rw[hs2,hsu];refine dd fi ?_;refine hJO _ _ (aa fi) (aa fn) ⟨aa P,aa A,aa f37,⟨by(repeat (first|rw[bh bm]|rw[bj oO]|rw[bi bo]|rw[bk oO]));exact D,by(repeat (first|rw[bh bm]|rw[bj oO]|rw[bi bo]|rw[bk oO]));exact B,by(repeat (first|rw[bh bm]|rw[bj oO]|rw[bi bo]|rw[bk oO])),by(repeat (first|rw[bh bm]|rw[bj oO]|rw[bi bo]|rw[bk oO]));exact w,by(repeat (first|rw[bh bm]|rw[bj oO]|rw[bi bo]|rw[bk oO]));exact X,by simp only[bN,aH];omega,?_⟩⟩;exact((hk.trans (aA.new _ _)).set oO _).set oO _
   .clear P A Z C D I s;rintro I s ⟨P,A,f37,C⟩;rw[NR]at C;unfold newF at hh;cases Y:g.E with
    |nil=>rw[Y]at hh;cases hh
    |cons x es'=>
     rw[Y]at hh;simp only at hh;obtain⟨ring,hring,hh⟩:=mf.1 hh;by_cases hc:ring.length<=200/\∀ v∈ring,v∈g.V
     case neg=>rw[ac hc]at hh;cases hh
     rw[ad hc,ap]at hh;subst hh;obtain⟨hrl,hrv⟩:=hc;obtain⟨D,B,K,w,X,hb,hk⟩:=id C;simp only[ak];have hT3:(eds g.E).take 3=dl x:=by rw[Y];simp[eds,dl]
     have hlp:0<g.E.length:=by rw[Y];simp
     have hlp3:0<g.E.length*3:=oO;have hlp4:3<=g.E.length*3:=oO;have hlpi:(0:Int)<g.E.length:=oO;have a1:¬c.z=s.z:=oO;obtain⟨dx,O,bx⟩:=x;have hTe:∀ s2,aA s s2->s.z<s2.z->s2.H s.z=.box 36 3 (dl ⟨dx,O,bx⟩)->Dx 138 [.pt s.z 0] s2 g.E fun y=>decide (y≠⟨dx,O,bx⟩):=fun s2 h1 h2 h3 y _ s3 h4=>Zx _ y s.z s3 ((h4.H _ h2).trans h3) (cz h2 h4.z)
     (refine yy P D hel hT3 hlp hlp3 hlp4 hlpi a1 ?_;intro J t)
     refine qE (LO g _ _ _ _ oO oO (hTe _ (aA.new _ _) sS sS)) (by simp[bv]) ?_;rintro r s1 ⟨rfl,o6⟩;have K5:=o6.z;simp only[aH]at K5;have hX1:s1.H s.z=.box 36 3 (dl ⟨dx,O,bx⟩):=by rw[o6.H _ sS];simp
     have hK1:aA s s1:=(aA.new _ _).trans o6;clear o6;have X7:(g.E.filter fun y=>decide (y≠⟨dx,O,bx⟩)).length<=1000:=by have:=gw (fun y:Ed=>decide (y≠⟨dx,O,bx⟩)) g.E;omega
     have hmay:∀ s,Rx (.atom .nilFunc) (fun _=>true) s:=fun s=>.inl ⟨rfl,fun _=>rfl⟩;rw[<- Y]at hring;have b1:¬s.z=s1.z:=oO
     (refine OY t hX1 b1 ?_;intro J t)
     refine qE (Path ⟨g.V,g.E.filter fun y=>decide (y≠⟨dx,O,bx⟩)⟩ O bx _ (fun _=>true) 1000 ring _ (by simp only;omega) X7 oO (hmay _) hring) (by simp[bv]) ?_;rintro r s2 ⟨rfl,u5⟩;have N0:=u5.z;simp only[aH]at N0;have hX2:s2.H s.z=.box 36 3 (dl ⟨dx,O,bx⟩):=by rw[u5.H _ (by simp;omega),cB,ac b1];exact hX1
     have hK2:aA s s2:=(hK1.trans (aA.new _ _)).trans u5;clear u5
     (refine mQ t ?_;intro J t)
     refine qE (uA ring 0 _ oO) sS ?_;rintro r s3 ⟨q,rfl,q1,q2,hq,u9⟩
     (refine mQ t ?_;intro J t)
     refine qE (zP ring q s3 (by unfold small;omega) hq) sS ?_;rintro r s4 e4;have W:aA s s4:=by rw[e4];exact(hK2.trans u9).set (by have:=hK2.z;omega) _
     have hn4:s4.z=s3.z:=by rw[e4];rfl
     have hn3:=u9.z;have hq4:s4.H q=.box 34 1 (us ring.reverse):=by rw[e4];simp
     have hX4:s4.H s.z=.box 36 3 (dl ⟨dx,O,bx⟩):=by rw[e4,bP,ac oO,u9.H _ oO];exact hX2
     clear e4 hq u9;have hz:mk g.V []=0:=(mk_zero g.V []).2 fun _ _=>by simp
     have hSb4:s4.H S=.box 136 7 [.sl 0 g.V.length (us g.V),.sl 0 g.E.length (eds g.E),.ms p 0 g.V.length,.mp m,.mp o,wv (mk g.V []),.nil]:=by rw[hz];exact(W.H S oO).trans B
     have hN4:=(W.H p oO).trans K;have hP4:=(W.H m oO).trans w;have hL4:=(W.H o oO).trans X;have c1:¬m=o:=fun e=>by rw[e,X]at w;cases w
     have c2:¬p=o:=fun e=>by rw[e,X]at K;cases K
     have c3:¬p=S:=fun e=>by rw[e,B]at K;cases K
     have c4:¬m=S:=fun e=>by rw[e,B]at w;cases w
     have c5:¬o=S:=fun e=>by rw[e,B]at X;cases X
     have c6:¬S=o:=fun e=>c5 e.symm;have hn5:=W.z
     (refine IE t A ?_;intro J t)
     refine qE (Qh hSb4 hP4 hL4 (L:=[]) rfl c1 hn U ring 0 hrv oO) sS ?_;rintro r Q ⟨le1,e5,hk5⟩;rw[List.nil_append]at e5;have n5:Q.z=s4.z:=by rw[e5];rfl
     have hSb5:Q.H S=.box 136 7 [.sl 0 g.V.length (us g.V),.sl 0 g.E.length (eds g.E),.ms p 0 g.V.length,.mp m,.mp o,wv (mk g.V ring),.nil]:=by rw[e5];simp
     have hN5:Q.H p=.box 133 1 (mH g):=by rw[e5];simp[c3,c2,hN4]
     have hP5:Q.H m=.map false [.u32] (vR g.V):=by rw[e5];simp[c4,c1,hP4]
     have hL5:Q.H o=.map true [.u32,.u32] le1:=by rw[e5];simp[c5]
     have hq5:Q.H q=.box 34 1 (us ring.reverse):=by rw[e5];simp[show ¬q=S by omega,show ¬q=o by omega,hq4]
     have hX5:Q.H s.z=.box 36 3 (dl ⟨dx,O,bx⟩):=by rw[e5];simp[show ¬s.z=S by omega,show ¬s.z=o by omega,hX4]
     have hK5:aA c Q:=by rw[e5];exact((hk.trans W).set oO _).set oO _
     clear e5 hSb4 hN4 hP4 hL4 hq4 hX4;have x9:=hg.ends ⟨dx,O,bx⟩ (by rw[Y];simp);simp only at x9;have hv2:∀ v∈[O,bx],v∈g.V:=fun v T=>by
      simp only[ah,ml,nq]at T;rcases T with e|e
      .rw[e];exact x9.1
      .rw[e];exact x9.2
     (refine OY t hX5 A ?_;intro J t)
     have hk6:=aA.new Q (.own 34 1 2);refine qE (Qh ((hk6.H S oO).trans hSb5) ((hk6.H m oO).trans hP5) ((hk6.H o oO).trans hL5) hk5 c1 hn U [O,bx] Q.z hv2 sS) sS ?_;rintro r R ⟨le2,e7,hk7⟩;have n7:R.z=Q.z+1:=by rw[e7];simp
     have hSb7:R.H S=.box 136 7 [.sl 0 g.V.length (us g.V),.sl 0 g.E.length (eds g.E),.ms p 0 g.V.length,.mp m,.mp o,wv (mk g.V (ring++[O,bx])),.nil]:=by rw[e7];simp
     have d1:¬p=Q.z:=oO;have d2:¬m=Q.z:=oO;have d3:¬o=Q.z:=oO;have hN7:R.H p=.box 133 1 (mH g):=by rw[e7];simp[c3,c2,d1,hN5]
     have hP7:R.H m=.map false [.u32] (vR g.V):=by rw[e7];simp[c4,c1,d2,hP5]
     have hL7:R.H o=.map true [.u32,.u32] le2:=by rw[e7];simp[c5]
     have hq7:R.H q=.box 34 1 (us ring.reverse):=by rw[e7];simp[show ¬q=S by omega,show ¬q=o by omega,show ¬q=Q.z by omega,hq5]
     have hK7:aA c R:=by rw[e7];exact((hK5.trans hk6).set oO _).set oO _
     clear e7 hSb5 hN5 hP5 hL5 hq5 hX5
     (apply cL;simp[];(refine zJ t ?_;clear t J))
     refine nY 11 (l:=q) (n:=ring.length) sS hq7 sS ?_;have C4:(us ring.reverse).take (ring.length*1)=us ring.reverse:=by rw[dp sS]
     rw[C4];have hrv2:∀ v∈ring.reverse,v∈g.V:=fun v T=>hrv v (jl.1 T);have hrl2:ring.length=ring.reverse.length:=sS;have e1:¬S=q:=oO;have hk8:aA c (R.set q .dead):=hK7.set oO _;have n8:(R.set q .dead).z=R.z:=rfl;have hSb8:(R.set q .dead).H S=.box 136 7 [.sl 0 g.V.length (us g.V),.sl 0 g.E.length (eds g.E),.ms p 0 g.V.length,.mp m,.mp o,wv (mk g.V (ring++[O,bx])),.nil]:=by rw[bP,ac e1];exact hSb7
     have hN8:(R.set q .dead).H p=.box 133 1 (mH g):=by rw[bP,ac oO];exact hN7
     have hP8:(R.set q .dead).H m=.map false [.u32] (vR g.V):=by rw[bP,ac oO];exact hP7
     have hL8:(R.set q .dead).H o=.map true [.u32,.u32] le2:=by rw[bP,ac oO];exact hL7
     generalize R.set q .dead=s8 at *;have hB8:lf g.V S m s8:=⟨⟨_,_,_,_,_,_,hSb8⟩,hP8⟩;have hFa:=fun(l:AN) (hl:∀ v∈l,v∈g.V) (hll:l.length<=1048576)=>SD hB8 oO oO hn U l 0 hl hll;have hF2:=hFa ring.reverse hrv2 (by simp;omega);rw[<- hrl2]at hF2
     (repeat (apply qS))
     (refine w_e [116] ?_;intro J t;simp only[];simp[A])
     refine jh (hFa ring hrv oO) ?_
     (apply cL;simp[A])
     refine qE hF2 sS ?_;rintro r s9 ⟨rfl,e9⟩;rw[e9];clear e9 s9;have z1:¬S=s8.z:=oO;refine sW t hSb8 z1 A ?_;have hfac:[LV.sl 0 ring.length (us ring),wv (mk g.V ring),LV.sl 0 ring.length (List.map u ring).reverse,wv (mk g.V ring.reverse)]=gY g.V [ring,ring.reverse]:=by simp[gY]
     rw[hfac];refine⟨p,m,o,s8.z,⟨le2,⟨⟨sS,?_,?_,?_,hk7,?_⟩,?_,?_,?_,?_,sS⟩⟩,⟨oO,oO,by have:=hk8.z;omega⟩,(hk8.trans (aA.new _ _)).set oO _⟩
     ·(repeat (first|rw[bh bm]|rw[bj oO]|rw[bi bo]|rw[bk oO]));exact hN8
     ·(repeat (first|rw[bh bm]|rw[bj oO]|rw[bi bo]|rw[bk oO]));exact hP8
     ·(repeat (first|rw[bh bm]|rw[bj oO]|rw[bi bo]|rw[bk oO]));exact hL8
     .simp only[bN,aH];omega
     ·(repeat (first|rw[bh bm]|rw[bj oO]|rw[bi bo]|rw[bk oO]))
     .simp only[bN,aH];omega
     .intro r hr v T;simp only[ah,ml,nq]at hr;rcases hr with e|e
      .rw[e]at T;exact hrv v T
      .rw[e]at T;exact hrv2 v T
     .intro v T;rw[an]at T;exact T.elim (hrv v) (hv2 v)
def GW(x:Int)(b:St):aB prog 42 [u x] b fun r a=>r=u x/\aA b a:=by refine zN func42 ntmps42 [.tmp 2] ?_;refine bz ?_;exact aA.refl _
def FI(x:Ed)(e:St):aB prog 44 [.ag (dl x)] e fun r c=>r=u x.id/\aA e c:=by obtain⟨d,a,b⟩:=x;refine zN func44 ntmps44 [.tmp 2] ?_;refine bz ?_;exact aA.new _ _
@[simp] def TF(fn:FuncId):cK:=.box 59 1 [.fn (.func fn) []]
@[simp] def Ab(fn:FuncId):cK:=.box 61 1 [.fn (.func fn) []]
def lL(b:Nat)(a:St):Prop:=b<a.z/\a.H b=TF 42
def oq(b:Nat)(a:St):Prop:=b<a.z/\a.H b=Ab 44
def TK(b:Nat)(x y:Int)(e:St)(h:lL b e):aB prog 76 [u x,u y,.pt b 0] e fun r g=>r=i (U.tI ⟨x⟩ ⟨y⟩)/\aA e g:=by
 obtain⟨j,a⟩:=h;simp only[TF]at a;refine zN func76 ntmps76 [.tmp 5] ?_;refine bz ?_
 (refine zS [] [b] [0,2,6,8,4,10,12,14] ?_;intro J l;simp[a])
 refine aO (GW x e) ?_;rintro r m ⟨rfl,f⟩;have c:=(f.H b j).trans a;refine⟨fun _=>by simp[c,a],?_⟩
 (apply bM;simp[c,a])
 refine aO (GW y m) ?_;rintro r n ⟨rfl,k⟩;have d:=(k.H b (cz j f.z)).trans c;refine⟨fun _=>by simp[d,a],?_⟩
 (apply bM;simp[d,a])
 refine aO (Ks x y n) ?_;rintro r o ⟨rfl,rfl⟩;refine⟨fun _=>by simp[d,a],?_⟩
 (apply bM;simp[d,a];refine zJ l ?_)
 (repeat' (refine qR (zZ ?_);simp[U.tI]))
 exact f.trans k
def QE(b:Nat)(x y:Int)(d:St)(h:lL b d):aB prog 79 [u x,u y,.pt b 0] d fun r f=>r=bb (decide (x=y))/\aA d f:=by
 obtain⟨j,a⟩:=h;simp only[TF]at a;refine zN func79 ntmps79 [.tmp 5] ?_;refine bz ?_
 (refine zS [] [b] [0,2,6,8,4,10,12,14] ?_;intro J l;simp[a])
 refine aO (GW x d) ?_;rintro r m ⟨rfl,e⟩;have c:=(e.H b j).trans a;refine⟨fun _=>by simp[c,a],?_⟩
 (apply bM;simp[c,a])
 refine aO (GW y m) ?_;rintro r n ⟨rfl,k⟩;have g:=(k.H b (cz j e.z)).trans c;refine⟨fun _=>by simp[g,a],?_⟩
 (apply bM;simp[g,a];refine zJ l ?_)
 refine bz ?_;exact⟨by by_cases h:x=y<;>simp[h],e.trans k⟩
def Ou(b:Nat)(x y:Ed)(a:St)(h:oq b a):aB prog 81 [.ag (dl x),.ag (dl y),.pt b 0] a fun r q=>r=i (tI x y)/\aA a q:=by
 obtain⟨F,c⟩:=h;obtain⟨s,v,w⟩:=x;obtain⟨t,A,B⟩:=y;simp only[Ab]at c;have k:¬b=a.z:=oO;have l:¬b=a.z+1:=oO;refine zN func81 ntmps81 [.tmp 5] ?_;refine bz ?_
 (refine zS [] [b,a.z,a.z+1] [0,2,6,8,4,10,12,14] ?_;intro J D;simp[c,k,l])
 refine aO (FI ⟨s,v,w⟩ _) ?_;rintro r o ⟨rfl,m⟩;have C:=m.z;simp only[aH]at C;have d:o.H b=Ab 44:=by rw[m.H b (by simp;omega)];simp[k,l,c]
 have g:o.H a.z=.box 36 3 [u s,u v,u w]:=by rw[m.H _ (by simp;omega)];simp
 have j:o.H (a.z+1)=.box 36 3 [u t,u A,u B]:=by rw[m.H _ sS];simp
 simp only[Ab]at d;refine⟨fun _=>by simp[d,c,g,j,k,l],?_⟩
 (apply bM;simp[d,c,g,j])
 refine aO (FI ⟨t,A,B⟩ o) ?_;rintro r E ⟨rfl,p⟩;have n:=(p.H b oO).trans d;have e:=(p.H a.z oO).trans g;have f:=(p.H (a.z+1) oO).trans j;refine⟨fun _=>by simp[n,c,e,f,k,l],?_⟩
 (apply bM;simp[n,c,e,f])
 refine aO (Ks s t E) ?_;rintro r I ⟨rfl,rfl⟩;refine⟨fun _=>by simp[n,c,e,f,k,l],?_⟩
 (apply bM;simp[n,c,e,f];refine zJ D ?_)
 (repeat' (refine qR (zZ ?_);simp[tI]))
 exact(((aA.new _ _).trans (aA.new _ _)).trans m).trans p
def Oq(b:Nat)(x y:Ed)(a:St)(h:oq b a):aB prog 83 [.ag (dl x),.ag (dl y),.pt b 0] a fun r p=>r=bb (decide (x.id=y.id))/\aA a p:=by
 obtain⟨E,d⟩:=h;obtain⟨q,v,w⟩:=x;obtain⟨s,A,B⟩:=y;simp only[Ab]at d;have l:¬b=a.z:=oO;have m:¬b=a.z+1:=oO;refine zN func83 ntmps83 [.tmp 5] ?_;refine bz ?_
 (refine zS [] [b,a.z,a.z+1] [0,2,6,8,4,10,12,14] ?_;intro J D;simp[d,l,m])
 refine aO (FI ⟨q,v,w⟩ _) ?_;rintro r n ⟨rfl,k⟩;have C:=k.z;simp only[aH]at C;have c:n.H b=Ab 44:=by rw[k.H b (by simp;omega)];simp[l,m,d]
 have e:n.H a.z=.box 36 3 [u q,u v,u w]:=by rw[k.H _ (by simp;omega)];simp
 have f:n.H (a.z+1)=.box 36 3 [u s,u A,u B]:=by rw[k.H _ sS];simp
 simp only[Ab]at c;refine⟨fun _=>by simp[c,d,e,f,l,m],?_⟩
 (apply bM;simp[c,d,e,f])
 refine aO (FI ⟨s,A,B⟩ n) ?_;rintro r F ⟨rfl,o⟩;have t:=(o.H b oO).trans c;have g:=(o.H a.z oO).trans e;have j:=(o.H (a.z+1) oO).trans f;refine⟨fun _=>by simp[t,d,g,j,l,m],?_⟩
 (apply bM;simp[t,d,g,j];refine zJ D ?_)
 refine bz ?_;exact⟨by by_cases h:q=s<;>simp[h],(((aA.new _ _).trans (aA.new _ _)).trans k).trans o⟩
def Qt(b q:Nat)(a:b≠q):U.gW 76 [.pt b 0] q (lL b):=
 ⟨fun d e h c=>⟨cz h.1 c.1,(c.2 b a h.1).trans h.2⟩,fun d x y h=>TK b x.id y.id d h⟩
def Yy(b q:Nat)(a:b≠q):gW 81 [.pt b 0] q (oq b):=
 ⟨fun d e h c=>⟨cz h.1 c.1,(c.2 b a h.1).trans h.2⟩,fun d x y h=>Ou b x y d h⟩
def zg(b:Nat):RJ 79 [.pt b 0] (lL b):=
 ⟨fun c d h a=>⟨cz h.1 a.z,(a.H b h.1).trans h.2⟩,fun c x y h=>QE b x y c h⟩
def zt(b:Nat):Vx 83 [.pt b 0] (oq b):=
 ⟨fun c d h a=>⟨cz h.1 a.z,(a.H b h.1).trans h.2⟩,fun c x y h=>Oq b x y c h⟩
def Vw(l:AN):(l.map U.Nu.mk).map U.Nu.id=l:=by rw[dy];exact vp l
def Mj(a:AN)(q:Nat)(e:FuncId)(IQ:List LV)(d:St->Prop)(b:St)(f:U.gW e IQ q d)(g:d b)(p:q<b.z)(s:a.length<=100000)(m:b.H q=.box 34 1 (us a)):
 aB prog 75 [.ms q 0 a.length,.fn (.func e) IQ] b fun r c=>∃ D,D.Perm a/\D.Pairwise (fun x y=>x<=y)/\c.H q=.box 34 1 (us D)/\bR q b c:=by
 have o:=U.JU (a.map U.Nu.mk) q a.length e IQ d b f g p (dh _) oO (by rw[m];unfold U.eds;rw[Vw]);refine zN func75 ntmps75 [] ?_
 (refine eu ?_;intro J n)
 refine qE o sS ?_;rintro r t ⟨D,h,j,k,l⟩;refine dB n ?_;refine⟨trivial,D.map U.Nu.id,?_,fa.2 j,k,l⟩;have:=h.map U.Nu.id
 rwa [Vw]at this
def VG(b:List Ed)(q:Nat)(e:FuncId)(IQ:List LV)(d:St->Prop)(a:St)(f:gW e IQ q d)(g:d a)(n:q<a.z)(m:b.length<=100000)(j:a.H q=.box 36 3 (eds b)):
 aB prog 80 [.ms q 0 b.length,.fn (.func e) IQ] a fun r c=>∃ D,D.Perm b/\Ris D/\c.H q=.box 36 3 (eds D)/\bR q a c:=by
 have l:=JU b q _ e IQ d a f g n rfl m j;refine zN func80 ntmps80 [] ?_
 (refine eu ?_;intro J k)
 refine qE l sS ?_;rintro r o h;refine dB k ?_;exact⟨trivial,h⟩
def Vh(l:AN)(t:Nat)(a:St)(x:l.length<=1000)(I:l.Nodup):
 aB prog 41 [.sl t l.length (us l),.fn (.func 42) []] a fun r v=>(∃ V,V.Perm l/\V.Pairwise (· < ·)/\r=.sl 0 V.length (us V))/\aA a v:=by
 refine cE ?_;refine zN func41 ntmps41 [.tmp 4] ?_
 (refine eu ?_;intro J d)
 refine qE (uA l t _ oO) sS ?_;rintro r s ⟨q,rfl,n,C,E,p⟩;have B:=p.z;simp only[aH]at B n;have c:lL a.z s:=⟨oO,by rw[p.H _ sS];simp⟩;have o:aA a s:=(aA.new _ _).trans p
 (refine mQ d ?_;intro J d)
 refine qE (Mj l q _ [.pt a.z 0] (lL a.z) s (Qt a.z q oO) c C oO E) sS ?_;rintro r y ⟨D,m,K,b,e⟩;have N:=e.1;have M:=m.length_eq;have g:=(Qt a.z q oO).keep _ _ c e;have L:aA a y:=⟨by have:=o.z;omega,fun l x=>(e.2 l oO (by have:=o.z;omega)).trans (o.H l x)⟩;have dF:D.Pairwise (· < ·):=by have k:D.Nodup:=m.nodup_iff.2 I;refine(sT K k).imp fun h=>?_;have:=h.1;have:=h.2;omega
 have F:∀ j,j+1<D.length->D.getD (j+1) 0≠D.getD j 0:=fun j w=>by have:=fq.1 dF j (j+1) oO w oO;rw[bA _ _ w,bA _ _ oO];omega
 (refine mQ d ?_;intro J d)
 refine qE (Rf D q _ [.pt a.z 0] (lL a.z) y (zg a.z) g oO F oO b) (aa M) ?_;rintro r O ⟨rfl,A⟩;have f:=(A.H q oO).trans b;refine dB d ?_;exact⟨q,D.length,⟨rfl,rfl⟩,34,1,us D,f,sS,⟨D,m,dF,rfl,by rw[dp sS]⟩,(L.trans A).set oO _⟩
def LC(l:List Ed)(t:Nat)(a:St)(A:l.length<=1000)(N:(l.map (·.id)).Nodup):
 aB prog 43 [.sl t l.length (eds l),.fn (.func 44) []] a fun r w=>(∃ E:List Ed,E.Perm l/\(E.map (·.id)).Pairwise (· < ·)/\r=.sl 0 E.length (eds E))/\aA a w:=by
 refine cE ?_;have M:=aJ l;refine zN func43 ntmps43 [.tmp 4] ?_
 (refine eu ?_;intro J d)
 refine qE (Fo l t _ oO) sS ?_;rintro r v ⟨q,rfl,n,I,K,s⟩;have F:=s.z;simp only[aH]at F n;have c:oq a.z v:=⟨oO,by rw[s.H _ sS];simp⟩;have p:aA a v:=(aA.new _ _).trans s
 (refine mQ d ?_;intro J d)
 refine qE (VG l q _ [.pt a.z 0] (oq a.z) v (Yy a.z q oO) c I oO K) sS ?_;rintro r B ⟨D,m,O,b,e⟩;have R:=e.1;have Q:=m.length_eq;have g:=(Yy a.z q oO).keep _ _ c e;have P:aA a B:=⟨by have:=p.z;omega,fun l A=>(e.2 l oO (by have:=p.z;omega)).trans (p.H l A)⟩;have dF:(D.map (·.id)).Pairwise (· < ·):=by
  have k:(D.map (·.id)).Nodup:=(m.map (·.id)).nodup_iff.2 N;have o:(D.map (·.id)).Pairwise (·<=·):=by rw[fa];exact O
  refine(sT o k).imp fun h=>?_;have:=h.1;have:=h.2;omega
 have L:∀ j,j+1<D.length->(D.getD (j+1) ed0).id≠(D.getD j ed0).id:=fun j y=>by have:=fq.1 dF j (j+1) (by simp;omega) (by simpa using y) oO;simp only[oh]at this;rw[cp,cp,cg y,cg (by omega:j<D.length)];simp only[Option.getD_some];omega
 (refine mQ d ?_;intro J d)
 refine qE (Sa D q _ [.pt a.z 0] (oq a.z) B (zt a.z) g oO L oO b) (aa Q) ?_;rintro r S ⟨rfl,C⟩;have f:=(C.H q oO).trans b;have x:=aJ D;refine dB d ?_;exact⟨q,D.length,⟨rfl,rfl⟩,36,3,eds D,f,oO,⟨D,m,dF,rfl,by rw[dp oO]⟩,(P.trans C).set oO _⟩
def vA(b:AN)(a:List Ed)(r:LV):Prop:=∃(V:AN) (E:List Ed),V.Perm b/\V.Pairwise (· < ·)/\E.Perm a/\(E.map (·.id)).Pairwise (· < ·)/\r=.ag (bv ⟨V,E⟩)
def Make(b:AN)(a:List Ed)(n o:Nat)(c:St)(t:b.length<=1000)(s:a.length<=1000)(k:b.Nodup)(j:(a.map (·.id)).Nodup):
 aB prog 18 [.sl n b.length (us b),.sl o a.length (eds a)] c fun r l=>vA b a r/\aA c l:=by
 refine zN func18 ntmps18 [.cell 4 25] ?_
 (refine eu ?_;intro J m)
 refine qE (Vh b n _ t k) sS ?_;rintro r v ⟨⟨V,g,h,rfl⟩,o6⟩;have p:=o6.z;simp only[aH]at p;have q:v.H c.z=.box 25 2 [.nil,.nil]:=by rw[o6.H _ sS];simp
 refine dB m ?_;refine qE (LC a o _ s j) sS ?_;rintro r x ⟨⟨E,d,e,rfl⟩,u5⟩;have w:=u5.z;have f:=(u5.H c.z oO).trans q;refine pH m f ?_;exact⟨⟨V,E,g,h,d,e,by simp[bv]⟩,(((aA.new _ _).trans o6).trans u5).set oO _⟩
end Aw
namespace Aw.Cu
open Go Go.RowKit Pl Aw
def sI(c:AN):Nat->AN
 |0=>[]
 |k+1=>if k=0\/c.getD k 0≠c.getD (k-1) 0 then sI c k++[c.getD k 0]else sI c k
structure zu(c:AN)(k:Nat)(l:AN):Prop where
 lt:l.Pairwise (· < ·)
 mem:∀ y,y∈l↔∃ j,j<k/\c.getD j 0=y
theorem Ao{c:AN}(h:c.Pairwise (·<=·)):∀ k,k<=c.length->zu c k (sI c k)
 |0,_=>⟨.nil,fun y=>by simp[sI]⟩
 |k+1,hk=>by
  have l:=Ao h k oO;have o:∀ j,j<k->c.getD j 0<=c.getD (k-1) 0:=fun j e=>by
   rcases dC j (k-1)with d|d
   .rw[cp,cg oO,cp,cg oO];exact fq.1 h j (k-1) oO oO d
   .obtain rfl:j=k-1:=oO;exact oi _
  have g:0<k->c.getD (k-1) 0<=c.getD k 0:=fun f=>by rw[cp,cg oO,cp,cg oO];exact fq.1 h (k-1) k oO oO oO
  unfold sI
  split
  .rename_i f;refine⟨?_,fun y=>?_⟩
   .rw[nc];refine⟨l.lt,uk _ _,fun a n b m=>?_⟩;rw[bf]at m;subst m;obtain⟨j,e,rfl⟩:=(l.mem a).1 n;have:=o j e;have:=g oO;rcases f with f|f
    .omega
    .omega
   .rw[an,bf,l.mem];constructor
    .rintro(⟨j,e,rfl⟩|rfl)
     .exact⟨j,oO,rfl⟩
     .exact⟨k,oO,rfl⟩
    .rintro⟨j,e,rfl⟩;rcases dC j k with d|d
     .exact .inl ⟨j,d,rfl⟩
     .obtain rfl:j=k:=oO;exact .inr rfl
  .rename_i f;refine⟨l.lt,fun y=>?_⟩;rw[l.mem];constructor
   .rintro⟨j,e,rfl⟩;exact⟨j,oO,rfl⟩
   .rintro⟨j,e,rfl⟩;rcases dC j k with d|d
    .exact⟨j,d,rfl⟩
    .obtain rfl:j=k:=oO;exact⟨j-1,oO,oO⟩
def cpt(c:AN):AN:=sI c c.length
def Wz{c:AN}(h:c.Pairwise (·<=·)):(cpt c).Pairwise (· < ·):=(Ao h _ (au _)).lt
def TS{c:AN}(h:c.Pairwise (·<=·))(y:Int):y∈cpt c↔y∈c:=by
 unfold cpt;rw[(Ao h _ (au _)).mem];constructor
 .rintro⟨j,a,rfl⟩;rw[cp,cg a];exact dq _
 .intro b;obtain⟨j,a,rfl⟩:=eh b;exact⟨j,a,by rw[cp,cg a];rfl⟩
theorem yV(c:AN):∀ k,k<=c.length->(∀ j,0<j->j<k->c.getD j 0≠c.getD (j-1) 0)->sI c k=c.take k
 |0,_,_=>rfl
 |k+1,hk,h=>by
  have e:=yV c k oO fun j b f=>h j b oO;have d:c.take (k+1)=c.take k++[c.getD k 0]:=by rw[cp,cg oO];exact eL oO
  unfold sI;rw[ad,e,d];rcases ql k with a|a
  .exact .inl a
  .exact .inr (h k a oO)
def PD(c:AN)(h:c.length<2):cpt c=c:=by unfold cpt;rw[yV c c.length (au _) fun j a b=>by omega,gm]
def RF(c:AN)(q:Nat)(x7:FuncId)(IQ:List LV)(Y:St->Prop)(F:St)(A:RJ x7 IQ Y)(o7:∀ s s',Y s->bR q s s'->Y s')(Q9:Y F)(hl:c.length<=100000)(hq:q<F.z)(hH:F.H q=.box 34 1 (us c)):
 aB prog 78 [.ms q 0 c.length,.fn (.func x7) IQ] F fun r st'=>r=.ms q 0 (cpt c).length/\(∃ cs,st'.H q=.box 34 1 (us (cpt c)++cs))/\bR q F st':=by
 refine zN func78 ntmps78 [.tmp 4] ?_;by_cases h2:c.length<2
 .have S:(c.length:Int)<2:=oO;have M:=PD c h2;rw[M];refine cy S h2 ?_;exact⟨⟨[],by rw[hH,eP]⟩,bR.refl _ _⟩
 have S:¬(c.length:Int)<2:=oO;refine cy S h2 ?_;refine qL (fun z n I=>∃ k:Nat,0<k/\k<=c.length/\z=c.length-k/\n 0=.ms q 0 c.length/\n 1=.fn (.func x7) IQ/\n 5=i k/\aA F I/\∀ j,0<j->j<k->c.getD j 0≠c.getD (j-1) 0) (c.length-1) ?_ ?_
 .exact⟨1,oO,oO,rfl,sS,sS,sS,aA.refl _,fun j m h2=>by omega⟩
 rintro z n I ⟨k,P3,W6,rfl,g,K,l,f,z8⟩ JJ e;by_cases dF:k<c.length;rotate_left
 .clear e;have M:cpt c=c:=by unfold cpt;rw[yV c c.length (au _) fun j m h2=>z8 j m oO,gm]
  rw[M];refine fk g l dF ?_;exact⟨⟨[],by rw[f.H q hq,hH,eP]⟩,(bR.refl q F).keeps f⟩
 obtain⟨a,rfl⟩:∃ a,k=a+1:=⟨k-1,oO⟩;have T:=qG c (a+1) dF;have U:=qG c a oO;have W:IntKind.i64.wrap (a:Int)=(a:Int):=zW;have w2':IntKind.i64.wrap ((a:Int)+1+1)=(a:Int)+1+1:=wrap_i64 _ oO oO;have O:a<c.length:=oO;have I9:(a:Int)+1<c.length:=oO;have hnx:c.getD (a+1) 0≠c.getD a 0->∀ j,0<j->j<a+1+1->c.getD j 0≠c.getD (j-1) 0:=fun h j m h3=>by
  rcases dC j (a+1)with h4|h4
  .exact z8 j m h4
  .obtain rfl:j=a+1:=oO;exact h
 have hid:=yV c (a+1) oO z8;have X:c.getD (a+1) 0=c.getD a 0->sI c (a+1+1)=c.take (a+1):=fun h=>by
  rw[sI,ac,hid];rintro(h3|h3)
  .omega
  .exact h3 h
 have Z:=(f.H q hq).trans hH;have t:=A.1 _ _ Q9 f;have M:=A.2 I (c.getD (a+1) 0) (c.getD a 0) t;generalize hx:c.getD (a+1) 0=x at *;generalize hy:c.getD a 0=y at *;refine ef g l dF I9 ?_
 (refine zS [] [q] [0,2,4,6,8,10,12,14,16,18,21] ?_;intro J hJ;simp[g,K,l,dF,I9,T,U,W,O,Z];(repeat refine ca ?_))
 refine aO M ?_;rintro r s3 ⟨rfl,Q⟩;have b:=(Q.H q (cz hq f.z)).trans Z;have L:=A.1 _ _ t Q;have B:=f.trans Q;refine⟨fun _=>by simp[b,Z],?_⟩
 (apply bM;simp[b,Z];refine zJ hJ ?_)
 by_cases D:x=y;rotate_left
 .refine fk l w2' D ?_;exact e (c.length-(a+1+1)) _ _ oO ⟨a+1+1,oO,oO,rfl,aa g,aa K,sS,B,hnx D⟩
 clear e hnx;have X:=X D;clear w2' hid z8 M;refine Gx g l dF I9 T U W O D b ?_;refine qL (fun z n s=>∃(p w:Nat) (d:AN),a+1+(p+1)<=c.length/\z=c.length-(a+1+(p+1))/\w=(sI c (a+1+(p+1))).length/\w<=a+1+p/\n 0=.ms q 0 c.length/\n 1=.fn (.func x7) IQ/\n 5=i w/\n 6=.ms q (a+1) (c.length-(a+1))/\n 7=i (p+1:Nat)/\d.length=c.length/\d.take w=sI c (a+1+(p+1))/\d.drop (a+1+p)=c.drop (a+1+p)/\s.H q=.box 34 1 (us d)/\Y s/\bR q F s) (c.length-(a+1+1)) ?_ ?_
 .refine⟨0,a+1,c,oO,oO,by rw[X];simp;omega,oO,aa g,aa K,aa l,sS,sS,rfl,X.symm,rfl,b,L,(bR.refl q F).keeps B⟩
 clear T U W I9 hx hy D X g K l n b L B Q Z t f s3 I;rintro z n s ⟨p,w,d,Q8,rfl,hw,hwl,g,K,l,R,f7,v,E,hdd,C,hPs,L5⟩ JJ e;by_cases hlp:a+1+(p+1)<c.length
 .have e1:∀ j,a+1+p<=j->d.getD j 0=c.getD j 0:=fun j hj=>by
   have m:(d.drop (a+1+p)).getD (j-(a+1+p)) 0=(c.drop (a+1+p)).getD (j-(a+1+p)) 0:=by rw[hdd]
   simp only[cp,sx]at m ⊢;rw[show a+1+p+(j-(a+1+p))=j by omega]at m;exact m
  have T:=qG d (a+1+(p+1)) oO;have U:=qG d (a+1+p) oO;rw[e1 _ oO]at T;rw[e1 _ oO]at U;have V:sI c (a+1+(p+1)+1)=if c.getD (a+1+(p+1)) 0≠c.getD (a+1+p) 0 then sI c (a+1+(p+1))++[c.getD (a+1+(p+1)) 0]else sI c (a+1+(p+1)):=by
   rw[sI,show a+1+(p+1)-1=a+1+p by omega];by_cases h:c.getD (a+1+(p+1)) 0≠c.getD (a+1+p) 0
   .rw[ad (.inr h),ad h]
   .rw[ac (by rintro(m|m);omega;exact h m),ac h]
  have N:d.drop (a+1+(p+1))=c.drop (a+1+(p+1)):=by
   have m:(d.drop (a+1+p)).drop 1=(c.drop (a+1+p)).drop 1:=by rw[hdd]
   rwa [oX,oX,show a+1+p+1=a+1+(p+1) by omega]at m
  have W:IntKind.i64.wrap (p:Int)=(p:Int):=zW;have w2:IntKind.i64.wrap ((p:Int)+1+1)=(p:Int)+1+1:=zW;have w3:=qN w oO;have hA:p+1<c.length-(a+1):=oO;have o:(p:Int)+1<(c.length-(a+1):Nat):=oO;have hB:p<c.length-(a+1):=oO;have hW:w<c.length:=oO;have M:=A.2 s (c.getD (a+1+(p+1)) 0) (c.getD (a+1+p) 0) hPs;generalize c.getD (a+1+(p+1)) 0=x at *;generalize c.getD (a+1+p) 0=y at *;refine kj g l R f7 hA o ?_
  (refine zS [] [q] [0,2,4,6,8,10,12,14,16,18,21,22] ?_;intro J hJ;simp[g,K,l,R,f7,hA,o,hB,T,U,W,v,C];(repeat refine ca ?_))
  refine aO M ?_;rintro r s3 ⟨rfl,Q⟩;have hqs:q<s.z:=cz hq L5.1;have b:=(Q.H q hqs).trans C;have hP3:=A.1 _ _ hPs Q;have P:=L5.keeps Q;refine⟨fun _=>by simp[b,C],?_⟩
  (apply bM;simp[b,C];refine zJ hJ ?_)
  by_cases D:x=y
  .rw[ac (fun h=>h D)]at V;refine jg l R f7 w2 D ?_;refine e (c.length-(a+1+(p+1+1))) _ _ oO ⟨p+1,w,d,oO,rfl,?_,oO,aa g,aa K,aa l,aa R,sS,v,?_,N,b,hP3,P⟩
   .rw[show a+1+(p+1+1)=a+1+(p+1)+1 by omega,V];exact hw
   .rw[show a+1+(p+1+1)=a+1+(p+1)+1 by omega,V];exact E
  .rw[ad D]at V;have hset:=FX d w x oO;refine Pk g l R f7 hA o hB T U W w2 w3 v D hW b ?_;refine e (c.length-(a+1+(p+1+1))) _ _ oO ⟨p+1,w+1,d.set w x,oO,rfl,?_,oO,aa g,aa K,sS,aa R,sS,aa v,?_,?_,?_,?_,?_⟩
   .rw[show a+1+(p+1+1)=a+1+(p+1)+1 by omega,V,cf,<- hw];rfl
   .rw[show a+1+(p+1+1)=a+1+(p+1)+1 by omega,V,RT d w x oO,E]
   .rw[show a+1+(p+1)=a+1+p+1 by omega,set_drop d w (a+1+p) x oO];rw[show a+1+p+1=a+1+(p+1) by omega];exact N
   .simp[hset]
   .exact o7 _ _ hP3 ((bR.refl q _).set _)
   .exact P.set _
 clear e;have O8:a+1+(p+1)=c.length:=oO;rw[O8]at hw E;have hcw:(cpt c).length=w:=hw.symm;have hct:d.take w=cpt c:=E;have hA:¬p+1<c.length-(a+1):=oO;have o:¬(p:Int)+1<(c.length-(a+1):Nat):=oO;have hW:w<=c.length:=oO;rw[hcw,<- hct];refine lz g l R f7 hA o v hW C ?_;exact L5.set _
end Aw.Cu
namespace Aw
open Go Go.RowKit Pl
def xF(x:Int):AN->AN
 |[]=>[x]
 |y::l=>if x<y then x::y::l else if y<x then y::xF x l else y::l
theorem pY(x z:Int):∀ l:AN,z∈xF x l↔z=x\/z∈l
 |[]=>by simp[xF]
 |y::l=>by
  unfold xF
  split
  .simp
  .split
   .simp only[ah,pY x z l]
    grind
   grind
theorem yU(x:Int):∀ l:AN,l.Pairwise (· < ·)->(xF x l).Pairwise (· < ·)
 |[],_=>by simp[xF]
 |y::l,h=>by
  obtain⟨b,a⟩:=jq.1 h;unfold xF
  split
  .grind [List.pairwise_cons]
  .split
   .refine jq.2 ⟨fun z c=>?_,yU x l a⟩
    grind [pY]
   omega
def ai:List Ed->AN
 |[]=>[]
 |e::E=>xF e.a (xF e.b (ai E))
theorem lG:∀ E,(ai E).Pairwise (· < ·)
 |[]=>.nil
 |e::E=>yU _ _ (yU _ _ (lG E))
theorem aK(v:Int):∀ E,v∈ai E↔∃ e∈E,v=e.a\/v=e.b
 |[]=>by simp[ai]
 |e::E=>by
  unfold ai;rw[pY,pY,aK v E]
  grind
def fU(E:List Ed):AN:=E.flatMap fun e=>[e.a,e.b]
def wY(E:List Ed):(fU E).length=E.length*2:=by
 induction E with
 |nil=>rfl
 |cons e E a=>grind [fU]
theorem NI(v:Int)(E:List Ed):v∈fU E↔∃ e∈E,v=e.a\/v=e.b:=by simp[fU]
def Jq(E:List Ed)(k:Nat)(c:k<E.length):fU (E.take (k+1))=fU (E.take k)++[(E.getD k ed0).a,(E.getD k ed0).b]:=by
 grind [List.take_succ_eq_append_getElem,fU]
def UL(l:AN)(t:Nat)(a:St)(d:l.length<=1000):
 aB prog 41 [.sl t l.length (us l),.fn (.func 42) []] a fun r p=>(∃ V:AN,V.Pairwise (· < ·)/\(∀ v,v∈V↔v∈l)/\r=.sl 0 V.length (us V))/\aA a p:=by
 refine cE ?_;refine zN func41 ntmps41 [.tmp 4] ?_
 (refine eu ?_;intro J c)
 refine qE (uA l t _ oO) sS ?_;rintro r o ⟨q,rfl,m,B,C,n⟩;have A:=n.z;simp only[aH]at A m;have b:lL a.z o:=⟨oO,by rw[n.H _ sS];simp⟩;have F:aA a o:=(aA.new _ _).trans n
 (refine mQ c ?_;intro J c)
 refine qE (Mj l q _ [.pt a.z 0] (lL a.z) o (Qt a.z q oO) b B oO C) sS ?_;rintro r y ⟨D,s,w,f,e⟩;have M:=e.1;have K:=s.length_eq;have h:=(Qt a.z q oO).keep _ _ b e;have x:aA a y:=⟨oO,fun l d=>(e.2 l oO oO).trans (F.H l d)⟩;have j:=Cu.Wz w;have k:=fun v=>Cu.TS w v
 (refine mQ c ?_;intro J c)
 refine qE (Cu.RF D q _ [.pt a.z 0] (lL a.z) y (zg a.z) (Qt a.z q oO).keep h oO oO f) (aa K) ?_;rintro r L ⟨rfl,⟨E,g⟩,hof3⟩;have I:aA a L:=⟨by have:=x.z;have:=hof3.1;omega,fun l d=>(hof3.2 l oO oO).trans (x.H l d)⟩;generalize Cu.cpt D=V at *;refine dB c ?_;exact⟨q,V.length,⟨rfl,rfl⟩,34,1,us V++E,g,sS,⟨V,j,fun v=>(k v).trans s.mem_iff,rfl,by grind⟩,I.set oO _⟩
def YO(a:List Ed)(l m:Nat)(b:St)(C:a.length<=200)(f:a.Pairwise fun x y=>x.id<y.id):
 aB prog 18 [.sl l (fU a).length (us (fU a)),.sl m a.length (eds a)] b fun r g=>r=.ag (bv ⟨ai a,a⟩)/\aA b g:=by
 have w:=wY a;have k:(a.map (·.id)).Pairwise (· < ·):=by rw[fa];exact f
 refine zN func18 ntmps18 [.cell 4 25] ?_
 (refine eu ?_;intro J j)
 refine qE (UL (fU a) l _ oO) sS ?_;rintro r A ⟨⟨V,s,t,rfl⟩,o6⟩;have q:V=ai a:=yX id (by grind) (by grind [lG]) fun v=>by grind [NI,aK]
 subst q;have n:=o6.z;simp only[aH]at n;have o:A.H b.z=.box 25 2 [.nil,.nil]:=by rw[o6.H _ sS];simp
 refine dB j ?_;refine qE (LC a m _ oO (k.imp fun h=>by omega)) sS ?_;rintro r D ⟨⟨E,c,d,rfl⟩,u5⟩;have p:=yX (·.id) d k fun x=>c.mem_iff;subst p;have B:=u5.z;have e:=(u5.H b.z oO).trans o;refine pH j e ?_;exact(((aA.new _ _).trans o6).trans u5).set oO _
def Lc(g:Gr)(h:Sh)(a:Nat)(w:AN):Prop:=a < h.F.length/\2<=w.length/\w.length<=200/\(∀ v∈w,v∈g.V)/\(h.F.getD a []).length<=1000/\w.getD 0 0∈h.F.getD a []/\w.getD (w.length-1) 0∈h.F.getD a []/\h.F.length<300
instance (g:Gr) (h:Sh) (a:Nat) (w:List Int):Decidable (Lc g h a w):=by unfold Lc;infer_instance
def yJ(g:Gr)(h:Sh):Option (Option Sh):=(Na g h.L h.on).bind fun B=>
 if(∀ b∈B,∀ v∈b.ends,v∈g.V)/\B.length<=300/\∀ v∈(bG h.F B (⟨[],[]⟩,-1)).1.ends,v∈g.V then
  if(bG h.F B (⟨[],[]⟩,-1)).2<0 then some none
  else(Mx g (bG h.F B (⟨[],[]⟩,-1)).1).bind fun w=>if Lc g h (bG h.F B (⟨[],[]⟩,-1)).2.toNat w then some (some (gT h w (bG h.F B (⟨[],[]⟩,-1)).2.toNat))else none
 else none
def pN(g:Gr):Nat->Sh->Option (Option Sh)
 |0,_=>none
 |n+1,h=>if h.L.length<g.E.length then(yJ g h).bind fun o=>match o with
   |none=>some none
   |some a=>pN g n a
  else some (some h)
def rG(E:List Ed):Option (Option (List AN)):=
 match E with
 |[e]=>some (some [[e.a,e.b]])
 |E=>if(ai E).length<=64/\E.length<=200 then
   if(3:Int)*(ai E).length-6<E.length then some none
   else(newF ⟨ai E,E⟩).bind fun h=>(pN ⟨ai E,E⟩ 1000 h).map fun o=>o.map (·.F)
  else none
structure DrE(E:List Ed):Prop where
 ids:E.Pairwise (fun x y=>x.id<y.id)
 pos:∀ x∈E,1<=x.id/\x.id<=1048576
 ne:∀ x∈E,x.a≠x.b
def DrE.gp{E:List Ed}(h:DrE E)(b:(ai E).length<=64)(c:E.length<=200):GP ⟨ai E,E⟩:=
 ⟨⟨⟨lG E,fun x a=>⟨(aK _ _).2 ⟨x,a,.inl rfl⟩,(aK _ _).2 ⟨x,a,.inr rfl⟩⟩⟩,h.ids,h.pos,h.ne⟩,b,(by grind)⟩
end Aw
namespace Aw
open Go Go.RowKit Pl Eu
def ae:AN->List (Int×Int)
 |x::y::l=>(x,y)::ae (y::l)
 |_=>[]
def ao(r:AN):List (Int×Int):=ae (r++r.take 1)
theorem eY(x:Int)(B:AN):∀ A,ae (A++x::B)=ae (A++[x])++ae (x::B)
 |[]=>by simp[ae]
 |[a]=>by simp[ae]
 |a::b::A=>by have:=eY x B (b::A);simp only[List.cons_append,ae]at this ⊢;rw[this]
theorem Eo:∀ l,ae l.reverse=((ae l).map Prod.swap).reverse
 |[]=>rfl
 |[a]=>rfl
 |a::b::l=>by have h:=Eo (b::l);rw[qq,qq,dz,List.singleton_append,eY b [a] l.reverse,<- qq,h];simp[ae]
def oZ(l:AN):(ae l.reverse).Perm ((ae l).map Prod.swap):=by rw[Eo];exact jw _
theorem yT:∀ l:AN,(ae l).length=l.length-1
 |[]=>rfl
 |[_]=>rfl
 |a::b::l=>by have:=yT (b::l);simp only[ae,List.length_cons]at this ⊢;omega
theorem dZ:∀ w:AN,iJ w=(ae w).map fun p=>ay p.1 p.2
 |[]=>rfl
 |[_]=>rfl
 |a::b::l=>by rw[iJ,dZ (b::l)];rfl
theorem bE:∀ {l:AN} {x y:Int},(x,y)∈ae l->x∈l/\y∈l
 |[],_,_,h=>by cases h
 |[_],_,_,h=>by cases h
 |a::b::l,x,y,h=>by
  rcases ah.1 h with e|h
  .injection e with c d;subst c;subst d;simp
  .have:=bE h;exact⟨ar _ this.1,ar _ this.2⟩
theorem dL:∀ {l:AN},l.Nodup->(ae l).Nodup/\∀ x y,(x,y)∈ae l->x≠y/\(y,x)∉ae l
 |[],_=>⟨.nil,fun _ _ h=>by cases h⟩
 |[_],_=>⟨.nil,fun _ _ h=>by cases h⟩
 |a::b::l,h=>by
  obtain⟨j,n⟩:=cb.1 h;obtain⟨o,k⟩:=dL n;have m:a≠b:=fun e=>j (by rw[e];simp);refine⟨cb.2 ⟨fun c=>j (bE c).1,o⟩,fun x y c=>?_⟩;rcases ah.1 c with e|c
  .injection e with f g;subst f;subst g;refine⟨m,fun c=>?_⟩;rcases ah.1 c with e|c
   .injection e with f g;exact m g
   .exact j (bE c).2
  .refine⟨(k x y c).1,fun d=>?_⟩;rcases ah.1 d with e|d
   .injection e with f g;exact j (by rw[<- f];exact(bE c).2)
   .exact(k x y c).2 d
def vG(u v:Int)(A Q:AN):∀ P:AN,(ao (P++u::(A++v::Q))).Perm (ae (u::(A++[v]))++ae (v::(Q++(P++[u]))))
 |[]=>by
  have e:ao (u::(A++v::Q))=ae ((u::A)++v::(Q++[u])):=by unfold ao;simp
  rw[List.nil_append,e,eY];simp
 |p::P=>by
  have e:ao (p::P++u::(A++v::Q))=ae ((p::P)++u::(A++v::(Q++[p]))):=by unfold ao;simp
  have a:ae (u::(A++v::(Q++[p])))=ae ((u::A)++v::(Q++[p])):=sS;have b:ae (v::(Q++(p::P++[u])))=ae ((v::Q)++p::(P++[u])):=sS;rw[e,eY u _ (p::P),a,eY v _ (u::A),b,eY p _ (v::Q)];simp only[List.cons_append];refine(kc).trans ?_;rw[dz]
def Rt(l c:AN):Prop:=∃ a b,l=a++b/\c=b++a
def Rt.trans{l m n:AN}(h:Rt l m)(k:Rt m n):Rt l n:=by
 obtain⟨a,b,rfl,rfl⟩:=h;obtain⟨c,d,e,rfl⟩:=k;rcases ui.1 e with⟨z,f,g⟩|⟨z,f,g⟩
 .exact⟨z,d++b,by rw[g];simp,by rw[f];simp⟩
 .exact⟨a++c,z,by rw[f];simp,by rw[g];simp⟩
def MR{r:AN}{i j:Nat}(f:i<j)(b:j<r.length):∃ A B,jA r i j=r.getD i 0::(A++[r.getD j 0])/\jA r j i=r.getD j 0::(B++[r.getD i 0])/\(ao r).Perm (ae (r.getD i 0::(A++[r.getD j 0]))++ae (r.getD j 0::(B++[r.getD i 0])))/\Rt r (r.getD i 0::(A++r.getD j 0::B)):=by
 have a:r=r.take i++r.getD i 0::r.drop (i+1):=by rw[cp,cg oO,Option.getD_some,<- ir oO,gd]
 have c:r.drop (i+1)=(r.drop (i+1)).take (j-i-1)++r.getD j 0::r.drop (j+1):=by
  conv=>lhs;rw[<- gd (j-i-1) (r.drop (i+1))]
  rw[oX,show i+1+(j-i-1)=j by omega,cp,cg b,Option.getD_some,<- ir b]
 have h:(r.take i).length=i:=by rw[dn];omega
 have d:((r.drop (i+1)).take (j-i-1)).length=j-i-1:=by rw[dn,gk];omega
 have g:r.length=i+1+(j-i-1)+1+(r.drop (j+1)).length:=by rw[gk];omega
 rw[c]at a;generalize r.take i=P at *;generalize (r.drop (i+1)).take (j-i-1)=A at *;generalize r.drop (j+1)=Q at *;generalize r.getD i 0=u at *;generalize r.getD j 0=v at *;refine⟨A,Q++P,?_,?_,?_,P,u::(A++v::Q),a,sS⟩
 .unfold jA vI;rw[ad oO,a,dz,xo oO,sh oO,List.nil_append,List.cons_append,List.take_succ_cons]
  congr 1
  rw[dz,List.cons_append,qw,dp oO,d,show j-i-(j-i-1)=1 by omega];rfl
 .unfold jA vI;rw[ac oO,g];have e:(r++r).drop j=v::(Q++(P++u::(A++v::Q))):=by
   conv=>lhs;rw[a]
   have:(P++u::(A++v::Q))++(P++u::(A++v::Q))=(P++u::A)++(v::(Q++(P++u::(A++v::Q)))):=sS;rw[this,xo (by simp;omega),sh (by simp;omega),List.nil_append]
  rw[e,show i+(i+1+(j-i-1)+1+Q.length)-j+1=(Q.length+(P.length+1))+1 by omega,List.take_succ_cons]
  congr 1
  rw[qw,dp oO,show Q.length+(P.length+1)-Q.length=P.length+1 by omega,qw,dp oO,show P.length+1-P.length=1 by omega];simp
 .have:=vG u v A Q P;rw[<- a]at this;simpa using this
def nM{r:AN}{i j:Nat}(a:i≠j)(f:i<r.length)(g:j<r.length):∃ A B,jA r i j=r.getD i 0::(A++[r.getD j 0])/\jA r j i=r.getD j 0::(B++[r.getD i 0])/\(ao r).Perm (ae (r.getD i 0::(A++[r.getD j 0]))++ae (r.getD j 0::(B++[r.getD i 0])))/\Rt r (r.getD i 0::(A++r.getD j 0::B)):=by
 rcases Nat.lt_or_gt_of_ne a with h|h
 .exact MR h g
 .obtain⟨A,B,b,c,d,e⟩:=MR h f;exact⟨B,A,c,b,d.trans kc,e.trans ⟨r.getD j 0::A,r.getD i 0::B,sS,sS⟩⟩
def Ve{r w:AN}(C:2<=w.length)(q:w.getD 0 0≠w.getD (w.length-1) 0)(y:w.getD 0 0∈r)(z:w.getD (w.length-1) 0∈r):
 ∃ a b,a≠[]/\b≠[]/\(ao r).Perm (a++b)/\ao (jA r (r.idxOf (w.getD 0 0)) (r.idxOf (w.getD (w.length-1) 0))++(dH w).reverse)=a++ae w.reverse/\ao (jA r (r.idxOf (w.getD (w.length-1) 0)) (r.idxOf (w.getD 0 0))++dH w)=b++ae w:=by
 have d:w=w.getD 0 0::(dH w++[w.getD (w.length-1) 0]):=by
  have h:w.length-1<w.length:=oO;have o:w=w.getD 0 0::w.drop 1:=by
   cases w with
   |nil=>simp at C
   |cons x w=>rfl
  have p:w.drop 1=dH w++[w.getD (w.length-1) 0]:=by
   have t:w.drop (w.length-1+1)=[]:=sh oO;unfold dH
   conv=>lhs;rw[<- gd (w.length-2) (w.drop 1)]
   rw[oX,show 1+(w.length-2)=w.length-1 by omega,cp,cg h,Option.getD_some,ir h,t]
  rw[<- p];exact o
 have j:=jy y;have k:=jy z;have f:r.getD (r.idxOf (w.getD 0 0)) 0=w.getD 0 0:=by rw[cp,cg j,Option.getD_some,mh]
 have g:r.getD (r.idxOf (w.getD (w.length-1) 0)) 0=w.getD (w.length-1) 0:=by rw[cp,cg k,Option.getD_some,mh]
 have c:r.idxOf (w.getD 0 0)≠r.idxOf (w.getD (w.length-1) 0):=fun e=>q (by rw[<- f,e,g]);obtain⟨A,B,l,m,n,_⟩:=nM c j k;rw[f,g]at l m n;rw[l,m];generalize w.getD 0 0=u at *;generalize w.getD (w.length-1) 0=v at *;generalize dH w=M at *;refine⟨_,_,?_,?_,n,?_,?_⟩
 .intro e;have:=congrArg List.length e;rw[yT]at this;simp at this
 .intro e;have:=congrArg List.length e;rw[yT]at this;simp at this
 .have e:ao (u::(A++[v])++M.reverse)=ae ((u::A)++v::(M.reverse++[u])):=by unfold ao;simp
  have s:w.reverse=v::(M.reverse++[u]):=by rw[d];simp
  rw[e,eY,s];simp
 .have e:ao (v::(B++[u])++M)=ae ((v::B)++u::(M++[v])):=by unfold ao;simp
  rw[e,eY]
  conv=>rhs;rw[d]
  simp
end Aw
namespace Aw
open Go Go.RowKit Pl
def ot:Option (List AN)->LV
 |none=>.tu [.sl 0 0 [],bb false]
 |some F=>.tu [.sl 0 F.length (gM F),bb true]
def YT{E:List Ed}(hE:DrE E){o:Option (List AN)}(ho:rG E=some o)(I:St)(P4:0<I.z):
 aB prog 61 [.sl 0 E.length (eds E)] I fun r st'=>r=ot o/\aA I st':=by
 refine eS ?_;have hel:=aJ E;by_cases h1:E.length=1
 .obtain⟨⟨e1,ea,eb⟩,rfl⟩:∃ e,E=[e]:=um.1 h1;have:o=some [[ea,eb]]:=by have:some (some [[ea,eb]])=some o:=ho;exact(im this).symm
  subst this;have W:eds [(⟨e1,ea,eb⟩:Ed)]=[u e1,u ea,u eb]:=rfl;refine zN func61 ntmps61 [.tmp 2,.tmp 3] ?_;refine dd W ?_
  (refine zS [] [] [0,2,4,6,8,10,12,14,17,18,20,22] ?_;intro J p;simp[W];(refine zJ p ?_;clear p J))
  refine bz ?_;exact⟨by simp[z0,dw,ot,gM],(aA.new _ _).trans (aA.new _ _)⟩
 have hb1:((E.length:Int)==1)=false:=by rw[sr];omega
 have v:(if(ai E).length<=64/\E.length<=200 then
  if(3:Int)*(ai E).length-6<E.length then some none
  else(newF ⟨ai E,E⟩).bind fun h=>(pN ⟨ai E,E⟩ 1000 h).map fun o=>o.map (·.F)
  else none)=some o:=by
  rcases E with _|⟨e,_|⟨e2,E⟩⟩
  .exact ho
  .simp at h1
  .exact ho
 clear ho
 split at v
 case isFalse=>cases v
 rename_i hq;obtain⟨hq1,N9⟩:=hq;have hg:=hE.gp hq1 N9;have hvl:=wY E;refine zN func61 ntmps61 [.tmp 2,.tmp 3] ?_;refine dd hb1 ?_;refine uW 4 34 1 sS ?_;have e0:¬I.z=0:=oO;refine bH 29 28 30 40 (E.length) (fun j q m=>q 0=.sl 0 E.length (eds E)/\q 27=.sl 0 E.length (eds E)/\aA I m/\∃ t,q 4=.sl t (fU (E.take j)).length (us (fU (E.take j)))/\Er t 34 1 (fU (E.take j)).length I m) ?_ ?_ ?_
 .exact⟨sS,sS,aA.new _ _,I.z,by simp[fU],e0,au _,sS,by simp[fU]⟩
 .rintro j q s dF ⟨f0,O,o7,t,f4,a1,a2,a3,a4⟩ fi fn JO V;have W:=aS E j dF;have u9:j*3<E.length*3:=oO;have C4:=Jq E j dF;have hFl:=wY (E.take j);rw[dn]at hFl;generalize E.getD j ed0=x at *;generalize fU (E.take j)=F at *;obtain⟨d,a,b⟩:=x;simp only at C4;have c1:¬t=s.z:=oO;have c1b:¬t=s.z+1:=oO;have c4:¬s.z=t:=oO;have c5:¬s.z+1=t:=oO
  (repeat' (first|apply qS|(refine zE ?_;intro J p;simp[f4,O,fi,fn,W,hel,u9,dF,a4,a1,c1,c1b,c4,c5];(repeat refine ca ?_);(refine zJ p ?_;clear p J))))
  refine V _ _ (aa fi) (aa fn) ⟨aa f0,aa O,?_,s.z+2,by rw[C4];simp,oO,oO,sS,by rw[C4];simp⟩;exact(((o7.trans (aA.new _ _)).trans (aA.new _ _)).set a2 _).trans (aA.new _ _)
 .rintro q s ⟨f0,O,o7,t,f4,a1,a2,a3,a4⟩;rw[gm]at f4 a4
  (refine oj f0 f4 ?_;intro J p)
  refine qE (YO E t 0 s N9 hE.ids) sS ?_;rintro r M ⟨rfl,o6⟩;have o6:=o7.trans o6;have w1:IntKind.i64.wrap (3*((ai E).length:Int))=3*((ai E).length:Int):=zW;have w2:IntKind.i64.wrap (3*((ai E).length:Int)-6)=3*((ai E).length:Int)-6:=zW;have hel2:=aJ E;by_cases hc:(3:Int)*(ai E).length-6<E.length
  .rw[ad hc]at v;obtain rfl:none=o:=im v;refine sW p w1 w2 hc ?_;exact⟨by simp[z0,dw,ot],o6.trans (aA.new _ _)⟩
  rw[ac hc]at v;have u5:=o6.trans (aA.new M (.box 25 2 (bv ⟨ai E,E⟩)));have Q:(M.new (.box 25 2 (bv ⟨ai E,E⟩))).H M.z=.box 25 2 (bv ⟨ai E,E⟩):=sS;obtain⟨h,hh,ho3⟩:=mf.1 v;obtain⟨o2,c,ho4⟩:=jp.1 ho3
  (refine E0 p w1 w2 hc ?_;intro J p)
  refine qE (SV hg hh _) sS ?_;rintro r s2 ⟨S,nl,pl,ll,K,Y,rfl,C,⟨b1,b2,b3⟩,u9⟩;have hG2:s2.H M.z=.box 25 2 (bv ⟨ai E,E⟩):=by rw[u9.H _ sS];exact Q
  have K5:=o6.z;simp only[aH]at b1 b2 b3;have u5:=u5.trans u9;refine dB p ?_;refine qL (fun n q m=>∃ h K Y,pN ⟨ai E,E⟩ n h=some o2/\q 7=.pt M.z 0/\q 8=.pt S 0/\ShA ⟨ai E,E⟩ h.L h.on h.F S nl pl ll K Y m/\M.z<S/\M.z<ll/\M.z<K/\m.H M.z=.box 25 2 (bv ⟨ai E,E⟩)/\aA I m) 1000 ?_ ?_
  .exact⟨h,K,Y,c,sS,sS,C,oO,oO,oO,hG2,u5⟩
  clear C hG2 u5 u9 c Q f0 O f4 q b1 b2 b3 hh v ho3 h;rintro n q s3 ⟨h,K,Y,c,f7,Z,C,b1,b2,b3,Q,D⟩ JJ hJJ;obtain _|n:=n
  .cases c
  have L9:=C.r.box;have hsl:=C.r.lt;have hL:=C.r.lin;have W6:Y.length=h.L.length:=by rw[<- dh (f:=(·.1)),C.r.key,dh]
  unfold pN at c;by_cases dF:h.L.length<E.length
  .rw[ad dF]at c;have I9:((Y.length:Nat):Int)<E.length:=oO;obtain⟨so,g,c⟩:=mf.1 c;unfold yJ at g;obtain⟨B,hB,g⟩:=mf.1 g
   split at g
   case isFalse=>cases g
   rename_i hc;obtain⟨hc1,hc2,hc3⟩:=hc
   (refine ua f7 Z L9 hL Q I9 ?_;intro J p)
   refine jh (VF hg C hB hc1 hc2) ?_;generalize bG h.F B (⟨[],[]⟩,-1)=ch at *;obtain⟨b,A⟩:=ch;simp only at g hc3;by_cases K3:A < 0
   .rw[ad K3]at g;obtain rfl:none=so:=im g;simp only at c;obtain rfl:none=o2:=im c;obtain rfl:none=o:=ho4;refine pH p K3 ?_;exact⟨by simp[z0,dw,ot],D.trans (aA.new _ _)⟩
   rw[ac K3]at g;obtain⟨w,hw,g⟩:=mf.1 g
   split at g
   case isFalse=>cases g
   rename_i hlay;obtain⟨y1,y2,y3,y4,y5,y6,y7,y8⟩:=hlay;obtain rfl:=im g;simp only at c;obtain⟨A,rfl⟩:∃ k:Nat,A=(k:Int):=⟨A.toNat,oO⟩;simp only[Int.toNat_natCast]at *;have X:¬(A:Int)<0:=oO
   (refine OY p X Z ?_;intro J p)
   have M0:=aA.new s3 (.box 138 2 [wv (mk (ai E) b.inner),wv (mk (ai E) b.ends)]);refine jh (D4 hg (C.keep M0) hc3 hw) ?_ (by simp[Uh]);refine dB p ?_;refine qE (F5 hg (C.keep M0) y1 y2 y3 y4 y5 y6 y7 y8 sS) sS ?_;rintro r s4 ⟨fl2,le2,hS4,X7,hkm⟩;have hkn:=hkm.z;simp only[aH]at hkn X7;have T:=hkm.H
   have hKK:aA I s4:=⟨by have:=D.z;omega,fun l hl=>by
    have:=D.z;rw[T l (by simp;omega) (by simp;omega),cB,ac oO]
    exact D.H l hl⟩
   have hG4:s4.H M.z=.box 25 2 (bv ⟨ai E,E⟩):=by rw[T _ (by simp;omega) (by simp;omega),cB,ac oO];exact Q
   refine dB p ?_;refine hJJ n _ _ oO ⟨gT h w A,fl2,le2,c,aa f7,aa Z,hS4,oO,oO,oO,hG4,hKK⟩
  .rw[ac dF]at c;obtain rfl:some h=o2:=im c;obtain rfl:some h.F=o:=ho4;have I9:¬((Y.length:Nat):Int)<E.length:=oO;clear hJJ;refine kj f7 Z L9 hL Q I9 ?_;refine uW 11 22 1 sS ?_;have P:=C.fac;have X7:=pV (ai E) h.F;have hfw:=C.few;have y:=C.flt;refine bH 82 81 83 91 (h.F.length) (fun j q m=>q 80=.ms K 0 h.F.length/\m.H K=.box 144 2 (gY (ai E) h.F)/\K<m.z/\aA I m/\∃ t,q 11=.sl t j (gM (h.F.take j))/\Er t 22 1 j I m) ?_ ?_ ?_
   .exact⟨sS,by rw[cB,ac oO];exact P,by simp;omega,D.trans (aA.new _ _),s3.z,by simp[gM],by have:=D.z;omega,D.z,sS,sS⟩
   .clear P y Q L9 hL I9 f7 Z D;rintro j q s dF ⟨U,P,y,D,t,N,t0,t1,t2,tH⟩ fi fn JO V;have W:=rZ (ai E) h.F j dF;have hjj:j*2<h.F.length*2:=oO;have C4:=Bu h.F j dF;have hgd:h.F.getD j []=h.F[j]:=by rw[cp,cg dF];rfl
    rw[hgd]at W;generalize h.F[j]=R at *;have c0:¬K=t:=fun e=>by rw[e,tH]at P;cases P
    have c1:¬t=s.z:=oO;have c2:¬s.z=t:=oO;have c3:¬t=s.z+1:=oO;have c4:¬s.z+1=t:=oO;have c5:¬K=s.z:=oO
    (repeat' (first|apply qS|(refine zE ?_;intro J p;simp[U,N,fi,fn,P,W,hjj,X7,dF,tH,t0,c0,c1,c2,c3,c4,c5];(repeat refine ca ?_);(refine zJ p ?_;clear p J))))
    refine V _ _ (aa fi) (aa fn) ⟨aa U,?_,by simp;omega,?_,s.z+1+1,by rw[C4];simp[gM],oO,oO,sS,sS⟩
    ·(repeat (first|rw[bh bm]|rw[bj oO]|rw[bi bo]|rw[bk oO]));exact P
    .exact(((D.trans (aA.new _ _)).trans (aA.new _ _)).set t1 _).trans (aA.new _ _)
   .clear P y Q L9 hL I9 f7 Z D;rintro q s ⟨U,P,y,D,t,N,t0,t1,t2,tH⟩;rw[gm]at N;refine dd N ?_;have hzu:∀ l:AN,dw (us l)=us l:=fun l=>by
     induction l with
     |nil=>rfl
     |cons x l ih=>simp only[us,ax,dw,z0]at ih ⊢;rw[ih]
    have hz:∀ R:List AN,dw (gM R)=gM R:=fun R=>by
     induction R with
     |nil=>rfl
     |cons r R ih=>simp only[gM,ax,dw,z0,hzu]at ih ⊢;rw[ih]
    exact⟨by simp[z0,dw,ot,hz],D⟩
abbrev Tn:=List (Int×List (Int×Int))
def rK(x y:Int):List (Int×Int)->List (Int×Int)
 |[]=>[(x,y)]
 |p::P=>if p.1=x then(x,y)::P else p::rK x y P
def gV(v x y:Int):Tn->Tn
 |[]=>[(v,[(x,y)])]
 |a::A=>if a.1=v then(v,rK x y a.2)::A else a::gV v x y A
def jS(n k:Nat):Nat:=if k=0 then n-1 else k-1
def jZ(r:AN)(A:Tn):Nat->Tn
 |0=>A
 |j+1=>gV (r.getD j 0) (r.getD (jS r.length j) 0) (r.getD ((j+1) % r.length) 0) (jZ r A j)
def aU(R:List AN):Tn:=R.foldl (fun A r=>jZ r A r.length) []
def gu(P:List (Int×Int)):List (AN×LV):=P.map fun p=>([p.1],u p.2)
theorem Fp(x y:Int):∀ P,bV (gu P) [x] (u y)=gu (rK x y P)
 |[]=>rfl
 |p::P=>by
  have a:=Fp x y P;unfold rK;simp only[gu,ax,bV,jx,rm]at a ⊢;by_cases h:p.1=x
  .rw[ad h,ad (aa h)];rfl
  .rw[ac h,ac (by simpa using fun e=>h e.symm),a];rfl
def ie(A:Tn)(b:Int->Nat):List (AN×LV):=A.map fun a=>([a.1],.mp (b a.1))
structure MM(A:Tn)(loc:Int->Nat)(o:Nat)(lo st:St):Prop where
 out:st.H o=.map false [.u32] (ie A loc)
 olt:lo.z<=o/\o<st.z
 inn:∀ a∈A,st.H (loc a.1)=.map false [.u32] (gu a.2)/\(lo.z<=loc a.1/\loc a.1≠o)/\loc a.1<st.z
 inj:∀ a∈A,∀ b∈A,loc a.1=loc b.1->a.1=b.1
 nd:(A.map (·.1)).Nodup
 kp:aA lo st
def GH(A:Tn)(b:Int->Nat)(v:Int):bQ (ie A b) [v]=if v∈A.map (·.1)then some (.mp (b v))else none:=by
 induction A with
 |nil=>rfl
 |cons a A c=>
  simp only[ie,ax,bQ,ah]at c ⊢;by_cases h:a.1=v
  .rw[ad (aa h),ad (.inl h.symm),h]
  .rw[ac (by simpa using fun e=>h e.symm),c];have:¬v=a.1:=fun e=>h e.symm;simp only[this,false_or]
def Ug{A:Tn}{v:Int}(b:Int->Nat)(l:Nat)(h:v∉A.map (·.1)):bV (ie A b) [v] (.mp l)=ie (A++[(v,[])]) (fun x=>if x=v then l else b x):=by
 rw[CV]
 .unfold ie;rw[cr]
  congr 1
  .refine ii fun a c=>?_;have:a.1≠v:=fun e=>h (e ▸ aq.2 ⟨a,c,rfl⟩);simp only[ac this]
  .simp
 .intro d;obtain⟨q,f,e⟩:=aq.1 d;obtain⟨a,c,rfl⟩:=aq.1 f;simp only[jx,rm]at e;exact h (e ▸ aq.2 ⟨a,c,rfl⟩)
theorem MM.add{A:Tn}{f:Int->Nat}{o:Nat}{p s:St}(h:MM A f o p s){v:Int}(m:v∉A.map (·.1)):
 MM (A++[(v,[])]) (fun x=>if x=v then s.z else f x) o p ((s.new (.map false [.u32] [])).set o (.map false [.u32] (ie (A++[(v,[])]) (fun x=>if x=v then s.z else f x)))):=by
 obtain⟨B,k,j,r,t,l⟩:=h;have g:∀ a∈A,a.1≠v:=fun a c e=>m (e ▸ aq.2 ⟨a,c,rfl⟩);have w:=l.z;refine⟨sS,⟨k.1,by simp;omega⟩,fun a c=>?_,fun a c b d e=>?_,?_,(l.trans (aA.new _ _)).set k.1 _⟩
 .rcases an.1 c with c|c
  .obtain⟨y,n,C⟩:=j a c;simp only[ac (g a c)];have q:¬f a.1=o:=n.2;refine⟨?_,n,by simp;omega⟩;rw[bP,ac q,cB,ac oO];exact y
  .rw[bf]at c;subst c;simp only[dE];refine⟨?_,⟨w,oO⟩,sS⟩;rw[bP,ac oO,cB,ad rfl];rfl
 .rcases an.1 c with c|c
  .rcases an.1 d with d|d
   .simp only[ac (g a c),ac (g b d)]at e;exact r a c b d e
   .rw[bf]at d;subst d;simp only[ac (g a c),dE]at e;have:=(j a c).2.2;omega
  .rw[bf]at c;subst c;rcases an.1 d with d|d
   .simp only[ac (g b d),dE]at e;have:=(j b d).2.2;omega
   .rw[bf]at d;subst d;rfl
 .rw[cr,bw];refine⟨t,sS,fun a c b d e=>?_⟩;simp only[ax,np,bf]at d;subst d;subst e;exact m c
theorem DA(v x y:Int):∀ A:Tn,v∈A.map (·.1)->(gV v x y A).map (·.1)=A.map (·.1)
 |a::A,h=>by
  unfold gV;by_cases e:a.1=v
  .rw[ad e];simp[e]
  .rw[ac e,ax,ax,DA v x y A];simp only[ax,ah]at h;exact h.resolve_left fun h=>e h.symm
theorem Gh{v x y:Int}{P:List (Int×Int)}:∀ {A:Tn},(A.map (·.1)).Nodup->(v,P)∈A->∀ a,a∈gV v x y A->a=(v,rK x y P)\/(a∈A/\a.1≠v)
 |b::A,l,h,a,c=>by
  obtain⟨g,m⟩:=cb.1 (by simpa using l:(b.1::A.map (·.1)).Nodup);unfold gV at c;by_cases e:b.1=v
  .rw[ad e]at c;have k:(v,P)=b:=by
    rcases ah.1 h with h|h
    .exact h
    .exact absurd (aq.2 ⟨_,h,rfl⟩) (e ▸ g)
   subst k;rcases ah.1 c with c|c
   .exact .inl c
   .exact .inr ⟨ar _ c,fun d=>g (aq.2 ⟨a,c,d⟩)⟩
  .rw[ac e]at c;rcases ah.1 c with c|c
   .exact .inr ⟨aa c,by rw[c];exact e⟩
   .have d:(v,P)∈A:=by
     rcases ah.1 h with h|h
     .exact absurd (by rw[<- h]) e
     .exact h
    rcases Gh m d a c with f|⟨f,j⟩
    .exact .inl f
    .exact .inr ⟨ar _ f,j⟩
theorem Ig(v x y:Int):∀ A:Tn,v∉A.map (·.1)->gV v x y (A++[(v,[])])=gV v x y A
 |[],_=>by simp[gV,rK]
 |a::A,h=>by simp only[ax,ah,gy]at h;have e:¬a.1=v:=fun e=>h.1 e.symm;simp only[List.cons_append,gV,ac e,Ig v x y A h.2]
def MM.put{A:Tn}{loc:Int->Nat}{o:Nat}{lo s:St}(h:MM A loc o lo s){v x y:Int}{P:List (Int×Int)}(hv:(v,P)∈A):
 MM (gV v x y A) loc o lo (s.set (loc v) (.map false [.u32] (gu (rK x y P)))):=by
 obtain⟨h1,h2,h3,h4,h5,h6⟩:=h;have hk:=DA v x y A (aq.2 ⟨_,hv,rfl⟩);obtain⟨k1,k2,k3⟩:=h3 _ hv;have n9:∀ a∈gV v x y A,∃ b∈A,b.1=a.1:=fun a ha=>by
  have:a.1∈A.map (·.1):=by rw[<- hk];exact aq.2 ⟨a,ha,rfl⟩
  obtain⟨b,hb,e⟩:=aq.1 this;exact⟨b,hb,e⟩
 have ho:ie (gV v x y A) loc=ie A loc:=by
  have e:∀ B:Tn,ie B loc=(B.map (·.1)).map fun k=>([k],LV.mp (loc k)):=fun B=>by simp[ie]
  rw[e,e,hk]
 have e1:¬o=loc v:=fun e=>k2.2 e.symm;refine⟨?_,⟨h2.1,h2.2⟩,fun a ha=>?_,fun a ha b hb e=>?_,by rw[hk];exact h5,h6.set k2.1 _⟩
 .rw[bP,ac e1,h1,ho]
 .rcases Gh h5 hv a ha with rfl|⟨ha,c7⟩
  .exact⟨sS,k2,k3⟩
  .obtain⟨q1,q2,q3⟩:=h3 a ha;refine⟨?_,q2,q3⟩;rw[bP,ac fun e=>c7 (h4 a ha _ hv e)];exact q1
 .obtain⟨a2,ha2,ea⟩:=n9 a ha;obtain⟨b2,V5,eb⟩:=n9 b hb;rw[<- ea,<- eb]at e ⊢;exact h4 a2 ha2 b2 V5 e
def Su(R:List AN)(c:St)(hR:R.length<=300)(hr:∀ r∈R,r.length<=1000):
 aB prog 62 [.sl 0 R.length (gM R)] c fun r st'=>∃ o a,r=.mp o/\MM (aU R) a o c st':=by
 refine zN func62 ntmps62 [.tmp 2] ?_;refine bz ?_;have e0:c.z<c.z+1:=oO;refine bH 12 11 13 50 (R.length) (fun j d K=>d 3=.mp c.z/\d 10=.sl 0 R.length (gM R)/\∃ a,MM ((R.take j).foldl (fun A r=>jZ r A r.length) []) a c.z c K) ?_ ?_ ?_
 .exact⟨sS,sS,fun _=>0,by simp[ie],sS,sS,sS,sS,aA.new _ _⟩
 .rintro l d s dF ⟨f,b,a,g⟩ m fn JO Q;have hd:=BL R l dF;have C4:(R.take (l+1)).foldl (fun A r=>jZ r A r.length) []=jZ (R.getD l []) ((R.take l).foldl (fun A r=>jZ r A r.length) []) (R.getD l []).length:=by have h1:R.take (l+1)=R.take l++[R[l]]:=eL dF;rw[h1,lq,cp,cg dF];rfl
  have hl:(R.getD l []).length<=1000:=hr _ (by rw[cp,cg dF];exact dq _);generalize (R.take l).foldl (fun A r=>jZ r A r.length) []=M at *;generalize R.getD l []=r at *;have w1:IntKind.i64.wrap ((r.length:Int)-1)=(r.length:Int)-1:=zW;refine mu f b m fn dF hd w1 ?_;have hJ0:∀ p UK s',UK 3=.mp c.z->UK 10=.sl 0 R.length (gM R)->UK 12=i l->UK 11=i R.length->MM (jZ r M r.length) p c.z c s'->JO UK s':=fun p UK s' g1 g2 g3 g4 g5=>Q _ _ g3 g4 ⟨aa g1,aa g2,p,by rw[C4];exact g5⟩;clear Q C4;refine bH 21 20 22 49 (r.length) (fun j d K=>(d 3=.mp c.z/\d 10=.sl 0 R.length (gM R)/\d 12=i l/\d 11=i R.length)/\d 5=.sl 0 r.length (us r)/\d 19=.sl 0 r.length (us r)/\d 6=i (if j=0 then(r.length:Int)-1 else(j:Int)-1)/\∃ a,MM (jZ r M j) a c.z c K) ?_ ?_ ?_
  .exact⟨⟨aa f,aa b,aa m,aa fn⟩,sS,sS,sS,a,g⟩
  .clear f b m fn g a s d;rintro k d s h ⟨⟨f,b,w,t⟩,f5,f19,f6,a,g⟩ m fn JO2 hJO2;have n:=qG r k h;have H:jS r.length k<r.length:=by unfold jS;split<;>omega
   have hpi:(if k=0 then(r.length:Int)-1 else(k:Int)-1)=((jS r.length k:Nat):Int):=by unfold jS;split<;>omega
   rw[hpi]at f6;have U:=qG r (jS r.length k) H;have D:((k:Int)+1).tmod (r.length:Int)=(((k+1) % r.length:Nat):Int):=by rw[rC oO];exact(Int.natCast_emod _ _).symm
   have Y:(k+1) % r.length<r.length:=kz _ oO;have T:=qG r ((k+1) % r.length) Y;have hw:IntKind.i64.wrap ((k:Int)+1)=(k:Int)+1:=zW;have I:jZ r M (k+1)=gV (r.getD k 0) (r.getD (jS r.length k) 0) (r.getD ((k+1) % r.length) 0) (jZ r M k):=rfl;generalize jZ r M k=A at *;generalize jS r.length k=pk at *;generalize (k+1) % r.length=W at *;generalize r.getD k 0=v at *;generalize r.getD pk 0=x at *;generalize r.getD W 0=y at *;have V:¬(r.length:Int)=0:=oO;have Y0:¬r=[]:=fun e=>by rw[e]at h;simp at h
   have E:(pk:Int)<r.length:=oO;have C:(W:Int)<r.length:=oO;have N:=g.out;have B:=GH A a v;by_cases L:v∈A.map (·.1)
   .rw[ad L]at B;obtain⟨⟨v',P⟩,S,rfl⟩:=aq.1 L;simp only at B I n;have O:=(g.inn _ S).1;have Z:=Fp x y P;have X:=g.put (x:=x) (y:=y) S;simp only at O;generalize a v'=lv at *;refine Gx f f5 f19 f6 m fn h n N B ?_
    (refine zS [] [c.z,lv] [0,2,4,6,8,10,12,14,16,18,20,22,24,26,28,31] ?_;intro J hJ;simp[f,f5,f19,f6,m,fn,h,n,U,T,H,Y,E,C,V,Y0,hw,D,N,B,O];refine zJ hJ ?_)
    rw[Z];refine bz ?_;refine hJO2 _ _ (aa m) (aa fn) ⟨⟨aa f,aa b,aa w,aa t⟩,aa f5,aa f19,sS,a,?_⟩;rw[I];exact X
   .rw[ac L]at B;have c1:¬c.z=s.z:=by have:=g.olt;omega
    have F:=g.add L;have S1:=Ug a s.z L;have hpa:=Ig v x y A L;refine Wo f f5 f19 f6 m fn h n N B c1 ?_;rw[S1];generalize (s.new (.map false [.u32] [])).set c.z (.map false [.u32] (ie (A++[(v,[])]) fun x=>if x=v then s.z else a x))=s1 at *;generalize hl1:(fun x=>if x=v then s.z else a x)=q at *;have S:(v,[])∈A++[(v,([]:List (Int×Int)))]:=sS;have N:=F.out;have B:=GH (A++[(v,[])]) q v;rw[ad sS]at B;have O:=(F.inn _ S).1;have Z:=Fp x y [];have X:=F.put (x:=x) (y:=y) S;rw[hpa]at X;simp only at O;generalize A++[(v,([]:List (Int×Int)))]=A1 at *;generalize q v=lv at *;clear g
    (refine zS [] [c.z,lv] [0,2,4,6,8,10,12,14,16,18,20,22,24,26,28,31] ?_;intro J hJ;simp[f,f5,f19,f6,m,fn,h,n,U,T,H,Y,E,C,V,Y0,hw,D,N,B,O];refine zJ hJ ?_)
    rw[Z];refine bz ?_;refine hJO2 _ _ (aa m) (aa fn) ⟨⟨aa f,aa b,aa w,aa t⟩,aa f5,aa f19,sS,q,?_⟩;rw[I];exact X
  .clear f b m fn g a s d;rintro d s ⟨⟨f,b,w,t⟩,f5,f19,f6,a,g⟩;refine bz ?_;exact hJ0 a _ _ (aa f) (aa b) (aa w) (aa t) g
 .rintro d s ⟨f,b,a,g⟩;rw[gm]at g;refine dd f ?_;exact⟨_,g⟩
end Aw
end Go.Proofs.YtbgngpdonpeboaaGreatDoor
