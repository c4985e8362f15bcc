/- Lemmas. -/
import Derived.Test.YtbgngpdonpeboaaGreatDoorJf
import Derived.Test.YtbgngpdonpeboaaGreatDoorAwAlt
set_option linter.defProp false
set_option maxHeartbeats 4000000
open Go.Proofs.Tryz
namespace Go.Proofs.YtbgngpdonpeboaaGreatDoor
namespace Aw
open Go Go.RowKit Pl
def WA{a:Array Oper}{M B:PQ}{d:St}{J:ah->St->Prop}{listed:Array Bool}{b:ah}{c:St}{k:Nat}(n:Nat)(p q r:Nat×Bool)(f:fL prog tab a M B d (fun b c=>lA prog tab a M (SB B d) J n (listed.setIfInBounds p.1 true) b c) (pick a [p]) b c)
 (g:fL prog tab a M B d (fun b c=>lA prog tab a M (SB B d) J n (listed.setIfInBounds q.1 true) b c) (pick a [q]) b c)
 (h:fL prog tab a M B d (fun b c=>lA prog tab a M (SB B d) J n (listed.setIfInBounds r.1 true) b c) (pick a [r]) b c) (l:k=n+1:=by rfl) (j:Ns a [p,q,r] listed=true:=by kernel_rfl):lA prog tab a M (SB B d) J k listed b c:=by
 subst l;refine Ij n [p,q,r] j fun x e=>?_;simp only[ai,gz,ij]at e;rcases e with rfl|rfl|rfl
 .exact f
 .exact g
 .exact h
structure zg(g:Gr)(lo S nl pl ll:Nat)(f6:LV)(j9 s:St)(near:QQ)(pm lm:List (PP×LV))(on:Nat):Prop where
 gr:s.H lo=.box 25 2 (aw g)
 box:s.H S=.box 136 7 [.sl 0 g.V.length (us g.V),.sl 0 g.E.length (eds g.E),.ms nl 0 g.V.length,.mp pl,.mp ll,wv on,f6]
 near:s.H nl=.box 133 1 near
 plc:s.H pl=.map false [.u32] pm
 lin:s.H ll=.map true [.u32,.u32] lm
 b:j9.z<=lo/\lo<s.z/\j9.z<=S/\S<s.z/\j9.z<=nl/\nl<s.z/\j9.z<=pl/\pl<s.z/\j9.z<=ll/\ll<s.z
 kp:aC j9 s
def kG(n:Nat):gN [.atom (.int .u64 0)] n=List.replicate n (wv 0):=by
 induction n with
 |zero=>rfl
 |succ n a=>rw[List.replicate_succ,<- a];rfl
def Qt(a:PP)(j:Nat):List (PP×LV):=(List.range j).map fun k=>([a.getD k 0],i k)
theorem Dr:∀(L:List (PP×LV)) (k:PP) (x:LV),k∉L.map (·.1)->bX L k x=L++[(k,x)]
 |[],k,x,_=>rfl
 |q::L,k,x,h=>by simp only[ax,ai,fJ]at h;simp only[bX];rw[aa (by simpa using h.1),Dr L k x h.2];rfl
variable{g:Gr}{j:Nat}
def Ox{a:PP}(d:a.Nodup)(b:j<a.length):bX (Qt a j) [a.getD j 0] (i j)=Qt a (j+1):=by
 rw[Dr]
 .unfold Qt;rw[xq,cz];rfl
 .unfold Qt;rw[dC];intro h;obtain⟨k,c,e⟩:=ao.1 h;have c:=ii.1 c;simp only[Function.comp,kX,qf]at e;rw[bT _ _ b,bT _ _ (show k<a.length by omega),GA d O b]at e;omega
def pE(g:Gr)(j:Nat):QQ:=g.V.map fun v=>wv (mk g.V (nbr (g.E.take j) v))
@[simp] theorem Ft(g:Gr)(j:Nat):(pE g j).length=g.V.length:=by simp[pE]
def My(g:Gr):pE g 0=List.replicate g.V.length (wv 0):=by
 have c:mk g.V []=0:=(mk_zero g.V []).2 fun _ _=>by simp
 unfold pE;rw[List.eq_replicate_iff];refine⟨Y,fun b a=>?_⟩;obtain⟨v,_,rfl⟩:=ao.1 a;simp[nbr,c]
def Pn(g:Gr):pE g g.E.length=nF g:=by unfold pE nF;rw[fq]
def uG(g:Gr)(j k:Nat)(a:k<g.V.length):(pE g j)[k]?=some (wv (mk g.V (nbr (g.E.take j) (g.V.getD k 0)))):=by unfold pE;rw[ow,bu a,bT _ _ a];rfl
def UI(a:QR)(x:Ed)(v:Int):nbr (a++[x]) v=nbr a v++Bq v x:=by simp[nbr]
def LR(m:g.V.Nodup)(l:j<g.E.length){d a b:Int}(s:g.E.getD j ed0=⟨d,a,b⟩)(n:a≠b)(q:a∈g.V)(r:b∈g.V):
 ((pE g j).set (g.V.idxOf a) (wv (mk g.V (nbr (g.E.take j) a++[b])))).set (g.V.idxOf b) (wv (mk g.V (nbr (g.E.take j) b++[a])))=pE g (j+1):=by
 obtain⟨w,o⟩:=DT q;obtain⟨x,p⟩:=DT r;have V9:g.E.take (j+1)=g.E.take j++[⟨d,a,b⟩]:=by rw[fh l,<- gH _ _ l,s]
 refine pw fun k=>?_;by_cases c:k<g.V.length
 .rw[uG g (j+1) k c,V9,UI,vg,vg,uG g j k c];simp only[rp,Ft];by_cases f:g.V.idxOf b=k
  .rw[ac f,ac O,<- f,p];simp[Bq,n]
  .rw[aa f];by_cases h:g.V.idxOf a=k
   .rw[ac h,ac O,<- h,o];simp[Bq,jk n]
   .rw[aa h];have t:¬a=g.V.getD k 0:=fun e=>h (by rw[e,bT _ _ c];exact m.idxOf_getElem k c);have v:¬b=g.V.getD k 0:=fun e=>f (by rw[e,bT _ _ c];exact m.idxOf_getElem k c);unfold Bq;rw[aa t,aa v];simp
 .rw[pd (by simp;omega),pd (by simp;omega)]
def U5(x y:Ed)(q:Nat)(c:St)(g:c.H q=.box 36 3 (dv x))(h:q<c.z):
 aD prog 138 [.ag (dv y),.pt q 0] c fun r e=>r=bb (decide (y≠x))/\aC c e:=by
 obtain⟨d,a,b⟩:=x;obtain⟨l,j,k⟩:=y;have f:¬q=c.z:=O;refine zN func138 ntmps138 [.tmp 3] ?_;refine cm g f ?_;exact⟨rfl,aC.new _ _⟩
def newF(g:Gr):Option Sh:=match g.E with
 |[]=>none
 |x::_=>(xE g.V (dG (g.E.filter fun y=>decide (y≠x))) (fun _=>true) x.a x.b 1000).bind fun ring=>
  if ring.length<=200/\∀ v∈ring,v∈g.V then some ⟨lJ (lJ [] ring) [x.a,x.b],ring++[x.a,x.b],[ring,ring.reverse]⟩else none
def SZ(hg:GP g){h:Sh}(hh:newF g=some h)(c:St):aD prog 100 [.ag (aw g)] c fun r st'=>∃ S w p t fl le,r=.pt S 0/\ShA g h.L h.on h.F S w p t fl le st'/\(c.z<=S/\c.z<=t/\c.z<=fl)/\aC c st':=by
 have he:=hg.he;have X:=hg.h64;refine zN func100 ntmps100 [.tmp 2] ?_;refine fB fun hpos=>?_;refine bz ?_;refine Cs (fun f s=>∃ S w p t,f 1=.pt c.z 0/\f 3=.pt S 0/\zg g c.z S w p t .nil c s (List.replicate g.V.length (wv 0)) [] [] 0) ?_ ?_
 .refine w_a [] [c.z] ?_;intro J A;refine mT 6 [(0,true),(1,true),(2,true),(3,true)] ?_;simp;refine WA 5 (4,true) (5,true) (6,true) ?_ ?_ ?_
  .simp;refine⟨⟨O,O⟩,?_⟩;refine vU 4 (5,true) (6,true) ?_ ?_
   .simp;refine mT 0 [(6,true),(7,true),(8,true),(9,true)] ?_;simp;refine fV (A _ _ ?_);simp only[ak];refine⟨trivial,c.z+4,c.z+1,c.z+2,c.z+3,Y,Y,⟨?_,?_,?_,?_,?_,?_,?_⟩⟩
    ·(repeat (first|rw[ay aE]|rw[aA O]|rw[az bf]|rw[aB O]))
    ·(repeat (first|rw[ay aE]|rw[aA O]|rw[az bf]|rw[aB O]));rfl
    ·(repeat (first|rw[ay aE]|rw[aA O]|rw[az bf]|rw[aB O]));rw[kG]
    ·(repeat (first|rw[ay aE]|rw[aA O]|rw[az bf]|rw[aB O]))
    ·(repeat (first|rw[ay aE]|rw[aA O]|rw[az bf]|rw[aB O]))
    .simp only[aK];omega
    ·(repeat (first|exact aC.refl _|(refine aC.trans ?_ (aC.new _ _))))
   .simp;refine mT 0 [(5,true),(7,true),(8,true),(9,true)] ?_;simp;refine fV (A _ _ ?_);simp only[ak];refine⟨trivial,c.z+4,c.z+1,c.z+3,c.z+2,Y,Y,⟨?_,?_,?_,?_,?_,?_,?_⟩⟩
    ·(repeat (first|rw[ay aE]|rw[aA O]|rw[az bf]|rw[aB O]))
    ·(repeat (first|rw[ay aE]|rw[aA O]|rw[az bf]|rw[aB O]));rfl
    ·(repeat (first|rw[ay aE]|rw[aA O]|rw[az bf]|rw[aB O]));rw[kG]
    ·(repeat (first|rw[ay aE]|rw[aA O]|rw[az bf]|rw[aB O]))
    ·(repeat (first|rw[ay aE]|rw[aA O]|rw[az bf]|rw[aB O]))
    .simp only[aK];omega
    ·(repeat (first|exact aC.refl _|(refine aC.trans ?_ (aC.new _ _))))
  .simp;refine vU 4 (4,true) (6,true) ?_ ?_
   .simp;refine⟨⟨O,O⟩,?_⟩;refine mT 0 [(6,true),(7,true),(8,true),(9,true)] ?_;simp;refine fV (A _ _ ?_);simp only[ak];refine⟨trivial,c.z+4,c.z+2,c.z+1,c.z+3,Y,Y,⟨?_,?_,?_,?_,?_,?_,?_⟩⟩
    ·(repeat (first|rw[ay aE]|rw[aA O]|rw[az bf]|rw[aB O]))
    ·(repeat (first|rw[ay aE]|rw[aA O]|rw[az bf]|rw[aB O]));rfl
    ·(repeat (first|rw[ay aE]|rw[aA O]|rw[az bf]|rw[aB O]));rw[kG]
    ·(repeat (first|rw[ay aE]|rw[aA O]|rw[az bf]|rw[aB O]))
    ·(repeat (first|rw[ay aE]|rw[aA O]|rw[az bf]|rw[aB O]))
    .simp only[aK];omega
    ·(repeat (first|exact aC.refl _|(refine aC.trans ?_ (aC.new _ _))))
   .simp;refine mT 0 [(4,true),(7,true),(8,true),(9,true)] ?_;simp;refine⟨⟨O,O⟩,?_⟩;refine fV (A _ _ ?_);simp only[ak];refine⟨trivial,c.z+4,c.z+3,c.z+1,c.z+2,Y,Y,⟨?_,?_,?_,?_,?_,?_,?_⟩⟩
    ·(repeat (first|rw[ay aE]|rw[aA O]|rw[az bf]|rw[aB O]))
    ·(repeat (first|rw[ay aE]|rw[aA O]|rw[az bf]|rw[aB O]));rfl
    ·(repeat (first|rw[ay aE]|rw[aA O]|rw[az bf]|rw[aB O]));rw[kG]
    ·(repeat (first|rw[ay aE]|rw[aA O]|rw[az bf]|rw[aB O]))
    ·(repeat (first|rw[ay aE]|rw[aA O]|rw[az bf]|rw[aB O]))
    .simp only[aK];omega
    ·(repeat (first|exact aC.refl _|(refine aC.trans ?_ (aC.new _ _))))
  .simp;refine vU 4 (4,true) (5,true) ?_ ?_
   .simp;refine⟨⟨O,O⟩,?_⟩;refine mT 0 [(5,true),(7,true),(8,true),(9,true)] ?_;simp;refine fV (A _ _ ?_);simp only[ak];refine⟨trivial,c.z+4,c.z+2,c.z+3,c.z+1,Y,Y,⟨?_,?_,?_,?_,?_,?_,?_⟩⟩
    ·(repeat (first|rw[ay aE]|rw[aA O]|rw[az bf]|rw[aB O]))
    ·(repeat (first|rw[ay aE]|rw[aA O]|rw[az bf]|rw[aB O]));rfl
    ·(repeat (first|rw[ay aE]|rw[aA O]|rw[az bf]|rw[aB O]));rw[kG]
    ·(repeat (first|rw[ay aE]|rw[aA O]|rw[az bf]|rw[aB O]))
    ·(repeat (first|rw[ay aE]|rw[aA O]|rw[az bf]|rw[aB O]))
    .simp only[aK];omega
    ·(repeat (first|exact aC.refl _|(refine aC.trans ?_ (aC.new _ _))))
   .simp;refine mT 0 [(4,true),(7,true),(8,true),(9,true)] ?_;simp;refine⟨⟨O,O⟩,?_⟩;refine fV (A _ _ ?_);simp only[ak];refine⟨trivial,c.z+4,c.z+3,c.z+2,c.z+1,Y,Y,⟨?_,?_,?_,?_,?_,?_,?_⟩⟩
    ·(repeat (first|rw[ay aE]|rw[aA O]|rw[az bf]|rw[aB O]))
    ·(repeat (first|rw[ay aE]|rw[aA O]|rw[az bf]|rw[aB O]));rfl
    ·(repeat (first|rw[ay aE]|rw[aA O]|rw[az bf]|rw[aB O]));rw[kG]
    ·(repeat (first|rw[ay aE]|rw[aA O]|rw[az bf]|rw[aB O]))
    ·(repeat (first|rw[ay aE]|rw[aA O]|rw[az bf]|rw[aB O]))
    .simp only[aK];omega
    ·(repeat (first|exact aC.refl _|(refine aC.trans ?_ (aC.new _ _))))
 .rintro K s ⟨S,w,p,t,R,C,D⟩;have hn:g.V.Nodup:=hg.toGoodE.toGood.nodup;have I:=D.gr;refine cm R I ?_;refine aV 24 23 25 35 (g.V.length) (fun j K st2=>K 1=.pt c.z 0/\K 3=.pt S 0/\K 22=.sl 0 g.V.length (us g.V)/\zg g c.z S w p t .nil c st2 (List.replicate g.V.length (wv 0)) (Qt g.V j) [] 0) ?_ ?_ ?_
  .exact⟨Z R,Z C,Y,D⟩
  .clear R C D I K s;rintro j K s dS ⟨R,C,f22,D⟩ fi fn JO hJO;have hd:=qG g.V j dS;have hps:=Ox hn dS;generalize g.V.getD j 0=v at *;obtain⟨I,m,P,B,hL,hb,hk⟩:=id D;have a1:¬c.z=p:=fun e=>by rw[e,B]at I;cases I
   have a2:¬S=p:=fun e=>by rw[e,B]at m;cases m
   have a3:¬w=p:=fun e=>by rw[e,B]at P;cases P
   have a4:¬t=p:=fun e=>by rw[e,B]at hL;cases hL
   refine oy C f22 fi fn hd dS m B hps ?_;exact hJO _ _ (Z fi) (Z fn) ⟨Z R,Z C,Z f22,⟨by(repeat (first|rw[ay aE]|rw[aA O]|rw[az bf]|rw[aB O]));exact I,by(repeat (first|rw[ay aE]|rw[aA O]|rw[az bf]|rw[aB O]));exact m,by(repeat (first|rw[ay aE]|rw[aA O]|rw[az bf]|rw[aB O]));exact P,by(repeat (first|rw[ay aE]|rw[aA O]|rw[az bf]|rw[aB O])),by(repeat (first|rw[ay aE]|rw[aA O]|rw[az bf]|rw[aB O]));exact hL,by simp only[bP];exact hb,hk.set O _⟩⟩
  .clear R C D I K s;rintro K s ⟨R,C,f22,D⟩;have I:=D.gr;have hel:=aL g.E;refine cm R I ?_;rw[<- My]at D;have hplc:Qt g.V g.V.length=yT g.V:=rfl;rw[hplc]at D;clear hplc;refine aV 39 38 40 81 (g.E.length) (fun j K st2=>K 1=.pt c.z 0/\K 3=.pt S 0/\K 37=.sl 0 g.E.length (eds g.E)/\zg g c.z S w p t .nil c st2 (pE g j) (yT g.V) [] 0) ?_ ?_ ?_
   .exact⟨Z R,Z C,Y,D⟩
   .clear R C f22 D I K s;rintro j K s dS ⟨R,C,f37,D⟩ fi fn JO hJO;have hde:=aP g.E j dS;have hj3:j*3<g.E.length*3:=O;have hm:g.E.getD j ed0∈g.E:=by rw[gH _ _ dS];exact dz _
    have o:=hg.ends _ hm;have Tv:=hg.ne _ hm;generalize hx:g.E.getD j ed0=x at *;obtain⟨d,a,b⟩:=x;simp only at o Tv;have hsu:=LR hn dS hx Tv o.1 o.2;obtain⟨ia,ga⟩:=DT o.1;obtain⟨ib,gb⟩:=DT o.2;have pa:=DY hn ia;have pb:=DY hn ib;rw[ga]at pa;rw[gb]at pb;have na:=uG g j _ ia;rw[ga]at na;have oa:=DG g.V (nbr (g.E.take j) a) [b] X;have ob:=DG g.V (nbr (g.E.take j) b) [a] X;have nb:=uG g j _ ib;rw[gb]at nb;have hidx:¬g.V.idxOf a=g.V.idxOf b:=fun e=>Tv (by rw[<- ga,<- gb,e]);have nb2:((pE g j).set (g.V.idxOf a) (wv (mk g.V (nbr (g.E.take j) a++[b]))))[g.V.idxOf b]?=some (wv (mk g.V (nbr (g.E.take j) b))):=by rw[vg,aa hidx];exact nb
    have hl:=Ft g j;generalize pE g j=N at *;generalize g.V.idxOf a=ka at *;generalize g.V.idxOf b=kb at *;generalize mk g.V (nbr (g.E.take j) a)=ma at *;generalize mk g.V (nbr (g.E.take j) b)=mb at *;obtain⟨I,m,P,B,hL,hb,hk⟩:=id D;have a1:¬c.z=s.z:=O;have a2:¬S=s.z:=O;have a3:¬w=s.z:=O;have a4:¬t=s.z:=O;have a5:¬p=s.z:=O;have da:N.drop ka=wv ma::N.drop (ka+1):=by rw[jm O];rw[bu O,ap]at na;rw[na]
    have ka1:(ka:Int)<g.V.length:=O;have kb1:(kb:Int)<g.V.length:=O;refine oh f37 fi fn hde hel hj3 dS ?_
    (refine zS [] [S,s.z,w,p] [0,2,4,6,8,10,12,14,16,18,20,22,24,26,28,30,32,34,36,39] ?_;intro J A;simp[C,m,P,B,a1,a2,a3,a4,a5,pa,da,ia,ka1,hl])
    have hBb:∀ {v:Int} {s':St},v∈g.V->s'.H S=.box 136 7 [.sl 0 g.V.length (us g.V),.sl 0 g.E.length (eds g.E),.ms w 0 g.V.length,.mp p,.mp t,wv 0,.nil]->s'.H p=.map false [.u32] (yT g.V)->aD prog 137 [.pt S 0,u v] s' fun r st'=>r=wv (mk g.V [v])/\st'=s':=
     fun {v s'} W h1 h2=>Vw ⟨⟨_,_,_,_,_,_,h1⟩,h2⟩ hn X W
    refine eL (hBb o.2 (by rw[cN,aa a2];exact m) (by rw[cN,aa a5];exact B)) ?_;refine⟨fun h=>by first|(cases h;done)|exact fun _ _=>rfl|simp,?_⟩;have hset:∀(M:QQ) (k:Nat) (y:LV),k<M.length->M.take k++y::M.drop (k+1)=M.set k y:=fun M k y h=>by rw[uk,ac h]
    have hs1:=hset N ka (wv (mk g.V (nbr (g.E.take j) a++[b]))) O;have b1:¬S=w:=fun e=>by rw[e,P]at m;cases m
    have b2:¬p=w:=fun e=>by rw[e,P]at B;cases B
    have b3:¬s.z=w:=O;have b4:¬t=w:=fun e=>by rw[e,P]at hL;cases hL
    have b5:¬c.z=w:=fun e=>by rw[e,P]at I;cases I
    (apply bM;simp[m,P,B,a1,a2,a3,a4,a5,ia,ka1,hl,oa];(repeat refine ca ?_);(refine zJ A ?_;clear A J))
    rw[hs1];have hl2:(N.set ka (wv (mk g.V (nbr (g.E.take j) a++[b])))).length=g.V.length:=by rw[rp,hl]
    generalize N.set ka (wv (mk g.V (nbr (g.E.take j) a++[b])))=N2 at *;have db:N2.drop kb=wv mb::N2.drop (kb+1):=by rw[jm O];rw[bu O,ap]at nb2;rw[nb2]
    have hs2:=hset N2 kb (wv (mk g.V (nbr (g.E.take j) b++[a]))) O
    (repeat (apply qS))
    (refine zS [] [S,s.z,w,p] [0,2,4,6,8,10,12,14,16,18,20,22,24,26,28,30,32,34,36,39] ?_;intro J A;simp[C,m,B,a1,a2,a3,a4,a5,b1,b2,b3,b4,pb,db,ib,kb1,hl2])
    refine eL (hBb o.1 (by rw[cC,aa b1,cN,aa a2];exact m) (by rw[cC,aa b2,cN,aa a5];exact B)) ?_;refine⟨fun h=>by first|(cases h;done)|exact fun _ _=>rfl|simp,?_⟩
    (apply bM;simp[m,B,a1,a2,a3,a4,a5,b1,b2,b3,b4,ib,kb1,hl2,ob];(repeat refine ca ?_);(refine zJ A ?_;clear A J))
    rw[hs2,hsu];refine df fi ?_;refine hJO _ _ (Z fi) (Z fn) ⟨Z R,Z C,Z f37,⟨by(repeat (first|rw[ay aE]|rw[aA O]|rw[az bf]|rw[aB O]));exact I,by(repeat (first|rw[ay aE]|rw[aA O]|rw[az bf]|rw[aB O]));exact m,by(repeat (first|rw[ay aE]|rw[aA O]|rw[az bf]|rw[aB O])),by(repeat (first|rw[ay aE]|rw[aA O]|rw[az bf]|rw[aB O]));exact B,by(repeat (first|rw[ay aE]|rw[aA O]|rw[az bf]|rw[aB O]));exact hL,by simp only[bP,aK];omega,?_⟩⟩;exact((hk.trans (aC.new _ _)).set O _).set O _
   .clear R C f22 D I K s;rintro K s ⟨R,C,f37,D⟩;rw[Pn]at D;unfold newF at hh;cases hes:g.E with
    |nil=>rw[hes]at hh;cases hh
    |cons x es'=>
     rw[hes]at hh;simp only at hh;obtain⟨ring,hring,hh⟩:=nq.1 hh;by_cases hc:ring.length<=200/\∀ v∈ring,v∈g.V
     case neg=>rw[aa hc]at hh;cases hh
     rw[ac hc,ap]at hh;subst hh;obtain⟨hrl,hrv⟩:=hc;obtain⟨I,m,P,B,hL,hb,hk⟩:=id D;simp only[ak];have hT3:(eds g.E).take 3=dv x:=by rw[hes];simp[eds,dv]
     have hlp:0<g.E.length:=by rw[hes];simp
     have hlp3:0<g.E.length*3:=O;have hlp4:3<=g.E.length*3:=O;have hlpi:(0:Int)<g.E.length:=O;have a1:¬c.z=s.z:=O;obtain⟨dx,Q,bx⟩:=x;have hTe:∀ s2,aC s s2->s.z<s2.z->s2.H s.z=.box 36 3 (dv ⟨dx,Q,bx⟩)->Is 138 [.pt s.z 0] s2 g.E fun y=>decide (y≠⟨dx,Q,bx⟩):=fun s2 h1 h2 h3 y _ s3 h4=>U5 _ y s.z s3 ((h4.H _ h2).trans h3) (dc h2 h4.z)
     (refine Hn R I hel hT3 hlp hlp3 hlp4 hlpi a1 ?_;intro J A)
     refine qE (NX g _ _ _ _ O O (hTe _ (aC.new _ _) Y Y)) (by simp[aw]) ?_;rintro r s1 ⟨rfl,j8⟩;have hn1:=j8.z;simp only[aK]at hn1;have hX1:s1.H s.z=.box 36 3 (dv ⟨dx,Q,bx⟩):=by rw[j8.H _ Y];simp
     have hK1:aC s s1:=(aC.new _ _).trans j8;clear j8;have hfl:(g.E.filter fun y=>decide (y≠⟨dx,Q,bx⟩)).length<=1000:=by have:=gx (fun y:Ed=>decide (y≠⟨dx,Q,bx⟩)) g.E;omega
     have hmay:∀ s,Uh (.atom .nilFunc) (fun _=>true) s:=fun s=>.inl ⟨rfl,fun _=>rfl⟩;rw[<- hes]at hring;have b1:¬s.z=s1.z:=O
     (refine Hs A hX1 b1 ?_;intro J A)
     refine qE (Path ⟨g.V,g.E.filter fun y=>decide (y≠⟨dx,Q,bx⟩)⟩ Q bx _ (fun _=>true) 1000 ring _ (by simp only;omega) hfl O (hmay _) hring) (by simp[aw]) ?_;rintro r s2 ⟨rfl,o6⟩;have hn2:=o6.z;simp only[aK]at hn2;have hX2:s2.H s.z=.box 36 3 (dv ⟨dx,Q,bx⟩):=by rw[o6.H _ (by simp;omega),cN,aa b1];exact hX1
     have hK2:aC s s2:=(hK1.trans (aC.new _ _)).trans o6;clear o6
     (refine nV A ?_;intro J A)
     refine qE (Gg ring 0 _ O) Y ?_;rintro r s3 ⟨q,rfl,q1,q2,hq,o9⟩
     (refine nV A ?_;intro J A)
     refine qE (BZ ring q s3 (by unfold small;omega) hq) Y ?_;rintro r s4 e4;have hK4:aC s s4:=by rw[e4];exact(hK2.trans o9).set (by have:=hK2.z;omega) _
     have hn4:s4.z=s3.z:=by rw[e4];rfl
     have hn3:=o9.z;have hq4:s4.H q=.box 34 1 (us ring.reverse):=by rw[e4];simp
     have hX4:s4.H s.z=.box 36 3 (dv ⟨dx,Q,bx⟩):=by rw[e4,cC,aa O,o9.H _ O];exact hX2
     clear e4 hq o9;have hz:mk g.V []=0:=(mk_zero g.V []).2 fun _ _=>by simp
     have hSb4:s4.H S=.box 136 7 [.sl 0 g.V.length (us g.V),.sl 0 g.E.length (eds g.E),.ms w 0 g.V.length,.mp p,.mp t,wv (mk g.V []),.nil]:=by rw[hz];exact(hK4.H S O).trans m
     have hN4:=(hK4.H w O).trans P;have hP4:=(hK4.H p O).trans B;have hL4:=(hK4.H t O).trans hL;have c1:¬p=t:=fun e=>by rw[e,hL]at B;cases B
     have c2:¬w=t:=fun e=>by rw[e,hL]at P;cases P
     have c3:¬w=S:=fun e=>by rw[e,m]at P;cases P
     have c4:¬p=S:=fun e=>by rw[e,m]at B;cases B
     have c5:¬t=S:=fun e=>by rw[e,m]at hL;cases hL
     have c6:¬S=t:=fun e=>c5 e.symm;have hn5:=hK4.z
     (refine Ci A C ?_;intro J A)
     refine qE (TA hSb4 hP4 hL4 (L:=[]) rfl c1 hn X ring 0 hrv O) Y ?_;rintro r T ⟨le1,e5,hk5⟩;rw[List.nil_append]at e5;have n5:T.z=s4.z:=by rw[e5];rfl
     have hSb5:T.H S=.box 136 7 [.sl 0 g.V.length (us g.V),.sl 0 g.E.length (eds g.E),.ms w 0 g.V.length,.mp p,.mp t,wv (mk g.V ring),.nil]:=by rw[e5];simp
     have hN5:T.H w=.box 133 1 (nF g):=by rw[e5];simp[c3,c2,hN4]
     have hP5:T.H p=.map false [.u32] (yT g.V):=by rw[e5];simp[c4,c1,hP4]
     have hL5:T.H t=.map true [.u32,.u32] le1:=by rw[e5];simp[c5]
     have hq5:T.H q=.box 34 1 (us ring.reverse):=by rw[e5];simp[show ¬q=S by omega,show ¬q=t by omega,hq4]
     have hX5:T.H s.z=.box 36 3 (dv ⟨dx,Q,bx⟩):=by rw[e5];simp[show ¬s.z=S by omega,show ¬s.z=t by omega,hX4]
     have hK5:aC c T:=by rw[e5];exact((hk.trans hK4).set O _).set O _
     clear e5 hSb4 hN4 hP4 hL4 hq4 hX4;have r9:=hg.ends ⟨dx,Q,bx⟩ (by rw[hes];simp);simp only at r9;have hv2:∀ v∈[Q,bx],v∈g.V:=fun v W=>by
      simp only[ai,gz,ij]at W;rcases W with e|e
      .rw[e];exact r9.1
      .rw[e];exact r9.2
     (refine Hs A hX5 C ?_;intro J A)
     have hk6:=aC.new T (.own 34 1 2);refine qE (TA ((hk6.H S O).trans hSb5) ((hk6.H p O).trans hP5) ((hk6.H t O).trans hL5) hk5 c1 hn X [Q,bx] T.z hv2 Y) Y ?_;rintro r U ⟨le2,e7,hk7⟩;have n7:U.z=T.z+1:=by rw[e7];simp
     have hSb7:U.H S=.box 136 7 [.sl 0 g.V.length (us g.V),.sl 0 g.E.length (eds g.E),.ms w 0 g.V.length,.mp p,.mp t,wv (mk g.V (ring++[Q,bx])),.nil]:=by rw[e7];simp
     have d1:¬w=T.z:=O;have d2:¬p=T.z:=O;have d3:¬t=T.z:=O;have hN7:U.H w=.box 133 1 (nF g):=by rw[e7];simp[c3,c2,d1,hN5]
     have hP7:U.H p=.map false [.u32] (yT g.V):=by rw[e7];simp[c4,c1,d2,hP5]
     have hL7:U.H t=.map true [.u32,.u32] le2:=by rw[e7];simp[c5]
     have hq7:U.H q=.box 34 1 (us ring.reverse):=by rw[e7];simp[show ¬q=S by omega,show ¬q=t by omega,show ¬q=T.z by omega,hq5]
     have hK7:aC c U:=by rw[e7];exact((hK5.trans hk6).set O _).set O _
     clear e7 hSb5 hN5 hP5 hL5 hq5 hX5
     (apply cP;simp[];(refine zJ A ?_;clear A J))
     refine wM 11 (l:=q) (n:=ring.length) Y hq7 Y ?_;have V9:(us ring.reverse).take (ring.length*1)=us ring.reverse:=by rw[ej Y]
     rw[V9];have hrv2:∀ v∈ring.reverse,v∈g.V:=fun v W=>hrv v (iu.1 W);have hrl2:ring.length=ring.reverse.length:=Y;have e1:¬S=q:=O;have hk8:aC c (U.set q .dead):=hK7.set O _;have n8:(U.set q .dead).z=U.z:=rfl;have hSb8:(U.set q .dead).H S=.box 136 7 [.sl 0 g.V.length (us g.V),.sl 0 g.E.length (eds g.E),.ms w 0 g.V.length,.mp p,.mp t,wv (mk g.V (ring++[Q,bx])),.nil]:=by rw[cC,aa e1];exact hSb7
     have hN8:(U.set q .dead).H w=.box 133 1 (nF g):=by rw[cC,aa O];exact hN7
     have hP8:(U.set q .dead).H p=.map false [.u32] (yT g.V):=by rw[cC,aa O];exact hP7
     have hL8:(U.set q .dead).H t=.map true [.u32,.u32] le2:=by rw[cC,aa O];exact hL7
     generalize U.set q .dead=s8 at *;have hB8:mh g.V S p s8:=⟨⟨_,_,_,_,_,_,hSb8⟩,hP8⟩;have hFa:=fun(l:PP) (hl:∀ v∈l,v∈g.V) (hll:l.length<=1048576)=>VP hB8 O O hn X l 0 hl hll;have hF2:=hFa ring.reverse hrv2 (by simp;omega);rw[<- hrl2]at hF2
     (repeat (apply qS))
     (refine w_e [116] ?_;intro J A;simp only[];simp[C])
     refine jr (hFa ring hrv O) ?_
     (apply cP;simp[C])
     refine qE hF2 Y ?_;rintro r s9 ⟨rfl,e9⟩;rw[e9];clear e9 s9;have z1:¬S=s8.z:=O;refine wT A hSb8 z1 C ?_;have hfac:[LV.sl 0 ring.length (us ring),wv (mk g.V ring),LV.sl 0 ring.length (List.map u ring).reverse,wv (mk g.V ring.reverse)]=jA g.V [ring,ring.reverse]:=by simp[jA]
     rw[hfac];refine⟨w,p,t,s8.z,⟨le2,⟨⟨Y,?_,?_,?_,hk7,?_⟩,?_,?_,?_,?_,Y⟩⟩,⟨O,O,by have:=hk8.z;omega⟩,(hk8.trans (aC.new _ _)).set O _⟩
     ·(repeat (first|rw[ay aE]|rw[aA O]|rw[az bf]|rw[aB O]));exact hN8
     ·(repeat (first|rw[ay aE]|rw[aA O]|rw[az bf]|rw[aB O]));exact hP8
     ·(repeat (first|rw[ay aE]|rw[aA O]|rw[az bf]|rw[aB O]));exact hL8
     .simp only[bP,aK];omega
     ·(repeat (first|rw[ay aE]|rw[aA O]|rw[az bf]|rw[aB O]))
     .simp only[bP,aK];omega
     .intro r hr v W;simp only[ai,gz,ij]at hr;rcases hr with e|e
      .rw[e]at W;exact hrv v W
      .rw[e]at W;exact hrv2 v W
     .intro v W;rw[am]at W;exact W.elim (hrv v) (hv2 v)
def GZ(x:Int)(b:St):aD prog 42 [u x] b fun r a=>r=u x/\aC b a:=by refine zN func42 ntmps42 [.tmp 2] ?_;refine bz ?_;exact aC.refl _
def Gt(x:Ed)(e:St):aD prog 44 [.ag (dv x)] e fun r c=>r=u x.id/\aC e c:=by obtain⟨d,a,b⟩:=x;refine zN func44 ntmps44 [.tmp 2] ?_;refine bz ?_;exact aC.new _ _
@[simp] def UB(fn:FuncId):cT:=.box 59 1 [.fn (.func fn) []]
@[simp] def DX(fn:FuncId):cT:=.box 61 1 [.fn (.func fn) []]
def qk(b:Nat)(a:St):Prop:=b<a.z/\a.H b=UB 42
def ql(b:Nat)(a:St):Prop:=b<a.z/\a.H b=DX 44
def VS(b:Nat)(x y:Int)(e:St)(h:qk b e):aD prog 76 [u x,u y,.pt b 0] e fun r g=>r=i (U.wJ ⟨x⟩ ⟨y⟩)/\aC e g:=by
 obtain⟨j,a⟩:=h;simp only[UB]at a;refine zN func76 ntmps76 [.tmp 5] ?_;refine bz ?_
 (refine zS [] [b] [0,2,6,8,4,10,12,14] ?_;intro J l;simp[a])
 refine aS (GZ x e) ?_;rintro r m ⟨rfl,f⟩;have d:=(f.H b j).trans a;refine⟨fun _=>by simp[d,a],?_⟩
 (apply bM;simp[d,a])
 refine aS (GZ y m) ?_;rintro r n ⟨rfl,k⟩;have c:=(k.H b (dc j f.z)).trans d;refine⟨fun _=>by simp[c,a],?_⟩
 (apply bM;simp[c,a])
 refine aS (OB x y n) ?_;rintro r o ⟨rfl,rfl⟩;refine⟨fun _=>by simp[c,a],?_⟩
 (apply bM;simp[c,a];refine zJ l ?_)
 (repeat' (refine qR (zZ ?_);simp[U.wJ]))
 exact f.trans k
def SJ(b:Nat)(x y:Int)(e:St)(h:qk b e):aD prog 79 [u x,u y,.pt b 0] e fun r g=>r=bb (decide (x=y))/\aC e g:=by
 obtain⟨j,a⟩:=h;simp only[UB]at a;refine zN func79 ntmps79 [.tmp 5] ?_;refine bz ?_
 (refine zS [] [b] [0,2,6,8,4,10,12,14] ?_;intro J l;simp[a])
 refine aS (GZ x e) ?_;rintro r m ⟨rfl,f⟩;have c:=(f.H b j).trans a;refine⟨fun _=>by simp[c,a],?_⟩
 (apply bM;simp[c,a])
 refine aS (GZ y m) ?_;rintro r n ⟨rfl,k⟩;have d:=(k.H b (dc j f.z)).trans c;refine⟨fun _=>by simp[d,a],?_⟩
 (apply bM;simp[d,a];refine zJ l ?_)
 refine bz ?_;exact⟨by by_cases h:x=y<;>simp[h],f.trans k⟩
def RA(b:Nat)(x y:Ed)(a:St)(h:ql b a):aD prog 81 [.ag (dv x),.ag (dv y),.pt b 0] a fun r s=>r=i (wJ x y)/\aC a s:=by
 obtain⟨F,c⟩:=h;obtain⟨t,w,A⟩:=x;obtain⟨v,B,C⟩:=y;simp only[DX]at c;have l:¬b=a.z:=O;have m:¬b=a.z+1:=O;refine zN func81 ntmps81 [.tmp 5] ?_;refine bz ?_
 (refine zS [] [b,a.z,a.z+1] [0,2,6,8,4,10,12,14] ?_;intro J D;simp[c,l,m])
 refine aS (Gt ⟨t,w,A⟩ _) ?_;rintro r p ⟨rfl,n⟩;have q:=n.z;simp only[aK]at q;have d:p.H b=DX 44:=by rw[n.H b (by simp;omega)];simp[l,m,c]
 have j:p.H a.z=.box 36 3 [u t,u w,u A]:=by rw[n.H _ (by simp;omega)];simp
 have k:p.H (a.z+1)=.box 36 3 [u v,u B,u C]:=by rw[n.H _ Y];simp
 simp only[DX]at d;refine⟨fun _=>by simp[d,c,j,k,l,m],?_⟩
 (apply bM;simp[d,c,j,k])
 refine aS (Gt ⟨v,B,C⟩ p) ?_;rintro r E ⟨rfl,o⟩;have e:=(o.H b O).trans d;have f:=(o.H a.z O).trans j;have g:=(o.H (a.z+1) O).trans k;refine⟨fun _=>by simp[e,c,f,g,l,m],?_⟩
 (apply bM;simp[e,c,f,g])
 refine aS (OB t v E) ?_;rintro r I ⟨rfl,rfl⟩;refine⟨fun _=>by simp[e,c,f,g,l,m],?_⟩
 (apply bM;simp[e,c,f,g];refine zJ D ?_)
 (repeat' (refine qR (zZ ?_);simp[wJ]))
 exact(((aC.new _ _).trans (aC.new _ _)).trans n).trans o
def QJ(b:Nat)(x y:Ed)(a:St)(h:ql b a):aD prog 83 [.ag (dv x),.ag (dv y),.pt b 0] a fun r s=>r=bb (decide (x.id=y.id))/\aC a s:=by
 obtain⟨E,d⟩:=h;obtain⟨t,w,A⟩:=x;obtain⟨v,B,C⟩:=y;simp only[DX]at d;have m:¬b=a.z:=O;have n:¬b=a.z+1:=O;refine zN func83 ntmps83 [.tmp 5] ?_;refine bz ?_
 (refine zS [] [b,a.z,a.z+1] [0,2,6,8,4,10,12,14] ?_;intro J D;simp[d,m,n])
 refine aS (Gt ⟨t,w,A⟩ _) ?_;rintro r p ⟨rfl,l⟩;have q:=l.z;simp only[aK]at q;have c:p.H b=DX 44:=by rw[l.H b (by simp;omega)];simp[m,n,d]
 have e:p.H a.z=.box 36 3 [u t,u w,u A]:=by rw[l.H _ (by simp;omega)];simp
 have f:p.H (a.z+1)=.box 36 3 [u v,u B,u C]:=by rw[l.H _ Y];simp
 simp only[DX]at c;refine⟨fun _=>by simp[c,d,e,f,m,n],?_⟩
 (apply bM;simp[c,d,e,f])
 refine aS (Gt ⟨v,B,C⟩ p) ?_;rintro r F ⟨rfl,o⟩;have g:=(o.H b O).trans c;have j:=(o.H a.z O).trans e;have k:=(o.H (a.z+1) O).trans f;refine⟨fun _=>by simp[g,d,j,k,m,n],?_⟩
 (apply bM;simp[g,d,j,k];refine zJ D ?_)
 refine bz ?_;exact⟨by by_cases h:t=v<;>simp[h],(((aC.new _ _).trans (aC.new _ _)).trans l).trans o⟩
def ZC(b q:Nat)(c:b≠q):U.jD 76 [.pt b 0] q (qk b):=
 ⟨fun d e h a=>⟨dc h.1 a.1,(a.2 b c h.1).trans h.2⟩,fun d x y h=>VS b x.id y.id d h⟩
def J5(b q:Nat)(c:b≠q):jD 81 [.pt b 0] q (ql b):=
 ⟨fun d e h a=>⟨dc h.1 a.1,(a.2 b c h.1).trans h.2⟩,fun d x y h=>RA b x y d h⟩
def Lk(b:Nat):YR 79 [.pt b 0] (qk b):=
 ⟨fun c d h a=>⟨dc h.1 a.z,(a.H b h.1).trans h.2⟩,fun c x y h=>SJ b x y c h⟩
def Lr(b:Nat):YV 83 [.pt b 0] (ql b):=
 ⟨fun c d h a=>⟨dc h.1 a.z,(a.H b h.1).trans h.2⟩,fun c x y h=>QJ b x y c h⟩
def YH(l:PP):(l.map U.Nu.mk).map U.Nu.id=l:=by rw[dC];exact xz l
def Vt(a:PP)(q:Nat)(g:FuncId)(Kz:QQ)(e:St->Prop)(b:St)(c:U.jD g Kz q e)(f:e b)(p:q<b.z)(s:a.length<=100000)(m:b.H q=.box 34 1 (us a)):
 aD prog 75 [.ms q 0 a.length,.fn (.func g) Kz] b fun r d=>∃ D,D.Perm a/\D.Pairwise (fun x y=>x<=y)/\d.H q=.box 34 1 (us D)/\bU q b d:=by
 have o:=U.ND (a.map U.Nu.mk) q a.length g Kz e b c f p (du _) O (by rw[m];unfold U.eds;rw[YH]);refine zN func75 ntmps75 [] ?_
 (refine ez ?_;intro J n)
 refine qE o Y ?_;rintro r t ⟨D,h,j,k,l⟩;refine dU n ?_;refine⟨trivial,D.map U.Nu.id,?_,gd.2 j,k,l⟩;have:=h.map U.Nu.id
 rwa [YH]at this
def Wd(b:QR)(q:Nat)(g:FuncId)(Kz:QQ)(e:St->Prop)(a:St)(c:jD g Kz q e)(f:e a)(n:q<a.z)(m:b.length<=100000)(j:a.H q=.box 36 3 (eds b)):
 aD prog 80 [.ms q 0 b.length,.fn (.func g) Kz] a fun r d=>∃ D,D.Perm b/\Ris D/\d.H q=.box 36 3 (eds D)/\bU q a d:=by
 have l:=ND b q _ g Kz e a c f n rfl m j;refine zN func80 ntmps80 [] ?_
 (refine ez ?_;intro J k)
 refine qE l Y ?_;rintro r o h;refine dU k ?_;exact⟨trivial,h⟩
def XN(l:QR)(t:Nat)(a:St)(F:l.length<=1000)(M:(l.map (·.id)).Nodup):
 aD prog 43 [.sl t l.length (eds l),.fn (.func 44) []] a fun r A=>(∃ E:QR,E.Perm l/\(E.map (·.id)).Pairwise (· < ·)/\r=.sl 0 E.length (eds E))/\aC a A:=by
 refine cQ ?_;have L:=aL l;refine zN func43 ntmps43 [.tmp 4] ?_
 (refine ez ?_;intro J e)
 refine qE (XG l t _ O) Y ?_;rintro r y ⟨q,rfl,p,s,f,w⟩;have m:=w.z;simp only[aK]at m p;have d:ql a.z y:=⟨O,by rw[w.H _ Y];simp⟩;have x:aC a y:=(aC.new _ _).trans w
 (refine nV e ?_;intro J e)
 refine qE (Wd l q _ [.pt a.z 0] (ql a.z) y (J5 a.z q O) d s O f) Y ?_;rintro r K ⟨D,o,P,c,b⟩;have N:=b.1;have R:=o.length_eq;have k:=(J5 a.z q O).keep _ _ d b;have Q:aC a K:=⟨by have:=x.z;omega,fun l F=>(b.2 l O (by have:=x.z;omega)).trans (x.H l F)⟩;have dS:(D.map (·.id)).Pairwise (· < ·):=by
  have n:(D.map (·.id)).Nodup:=(o.map (·.id)).nodup_iff.2 M;have v:(D.map (·.id)).Pairwise (·<=·):=by rw[gd];exact P
  refine(List.Pairwise.and v n).imp fun h=>?_;have:=h.1;have:=h.2;omega
 have Tv:∀ j,j+1<D.length->(D.getD (j+1) ed0).id≠(D.getD j ed0).id:=fun j C=>by have:=fD.1 dS j (j+1) (by simp;omega) (by simpa using C) O;simp only[pz]at this;rw[bv,bv,bu C,bu (by omega:j<D.length)];simp only[Option.getD_some];omega
 (refine nV e ?_;intro J e)
 refine qE (TM D q _ [.pt a.z 0] (ql a.z) K (Lr a.z) k O Tv O c) (Z R) ?_;rintro r S ⟨rfl,I⟩;have g:=(I.H q O).trans c;have B:=aL D;refine dU e ?_;exact⟨q,D.length,⟨rfl,rfl⟩,36,3,eds D,g,O,⟨D,o,dS,rfl,by rw[ej O]⟩,(Q.trans I).set O _⟩
end Aw
namespace Aw.Cu
open Go Go.RowKit Pl Aw
def vF(c:PP):Nat->PP
 |0=>[]
 |k+1=>if k=0\/c.getD k 0≠c.getD (k-1) 0 then vF c k++[c.getD k 0]else vF c k
structure Lu(c:PP)(k:Nat)(l:PP):Prop where
 lt:l.Pairwise (· < ·)
 mem:∀ y,y∈l↔∃ j,j<k/\c.getD j 0=y
theorem Bt{c:PP}(h:c.Pairwise (·<=·)):∀ k,k<=c.length->Lu c k (vF c k)
 |0,_=>⟨.nil,fun y=>by simp[vF]⟩
 |k+1,hk=>by
  have l:=Bt h k O;have o:∀ j,j<k->c.getD j 0<=c.getD (k-1) 0:=fun j e=>by
   rcases ec j (k-1)with d|d
   .rw[bv,bu O,bv,bu O];exact fD.1 h j (k-1) O O d
   .obtain rfl:j=k-1:=O;exact qe _
  have g:0<k->c.getD (k-1) 0<=c.getD k 0:=fun f=>by rw[bv,bu O,bv,bu O];exact fD.1 h (k-1) k O O O
  unfold vF
  split
  .rename_i f;refine⟨?_,fun y=>?_⟩
   .rw[oo];refine⟨l.lt,wq _ _,fun a n b m=>?_⟩;rw[bi]at m;subst m;obtain⟨j,e,rfl⟩:=(l.mem a).1 n;have:=o j e;have:=g O;rcases f with f|f
    .omega
    .omega
   .rw[am,bi,l.mem];constructor
    .rintro(⟨j,e,rfl⟩|rfl)
     .exact⟨j,O,rfl⟩
     .exact⟨k,O,rfl⟩
    .rintro⟨j,e,rfl⟩;rcases ec j k with d|d
     .exact .inl ⟨j,d,rfl⟩
     .obtain rfl:j=k:=O;exact .inr rfl
  .rename_i f;refine⟨l.lt,fun y=>?_⟩;rw[l.mem];constructor
   .rintro⟨j,e,rfl⟩;exact⟨j,O,rfl⟩
   .rintro⟨j,e,rfl⟩;rcases ec j k with d|d
    .exact⟨j,d,rfl⟩
    .obtain rfl:j=k:=O;exact⟨j-1,O,O⟩
def cpt(c:PP):PP:=vF c c.length
variable{c:List Int}
def Yj(h:c.Pairwise (·<=·)):(cpt c).Pairwise (· < ·):=(Bt h _ (au _)).lt
def Wz(h:c.Pairwise (·<=·))(y:Int):y∈cpt c↔y∈c:=by
 unfold cpt;rw[(Bt h _ (au _)).mem];constructor
 .rintro⟨j,a,rfl⟩;rw[bv,bu a];exact dz _
 .intro b;obtain⟨j,a,rfl⟩:=er b;exact⟨j,a,by rw[bv,bu a];rfl⟩
theorem Bd(c:PP):∀ k,k<=c.length->(∀ j,0<j->j<k->c.getD j 0≠c.getD (j-1) 0)->vF c k=c.take k
 |0,_,_=>rfl
 |k+1,hk,h=>by
  have e:=Bd c k O fun j b f=>h j b O;have d:c.take (k+1)=c.take k++[c.getD k 0]:=by rw[bv,bu O];exact fh O
  unfold vF;rw[ac,e,d];rcases sr k with a|a
  .exact .inl a
  .exact .inr (h k a O)
def QW(c:PP)(h:c.length<2):cpt c=c:=by unfold cpt;rw[Bd c c.length (au _) fun j a b=>by omega,fq]
def UZ(c:PP)(q:Nat)(x8:FuncId)(Kz:QQ)(Pc:St->Prop)(K:St)(D:YR x8 Kz Pc)(j5:∀ s s',Pc s->bU q s s'->Pc s')(hPc:Pc K)(hl:c.length<=100000)(hq:q<K.z)(hH:K.H q=.box 34 1 (us c)):
 aD prog 78 [.ms q 0 c.length,.fn (.func x8) Kz] K fun r st'=>r=.ms q 0 (cpt c).length/\(∃ cs,st'.H q=.box 34 1 (us (cpt c)++cs))/\bU q K st':=by
 refine zN func78 ntmps78 [.tmp 4] ?_;by_cases h2:c.length<2
 .have V:(c.length:Int)<2:=O;have P:=QW c h2;rw[P];refine cm V h2 ?_;exact⟨⟨[],by rw[hH,dT]⟩,bU.refl _ _⟩
 have V:¬(c.length:Int)<2:=O;refine cm V h2 ?_;refine qL (fun z o L=>∃ k:Nat,0<k/\k<=c.length/\z=c.length-k/\o 0=.ms q 0 c.length/\o 1=.fn (.func x8) Kz/\o 5=i k/\aC K L/\∀ j,0<j->j<k->c.getD j 0≠c.getD (j-1) 0) (c.length-1) ?_ ?_
 .exact⟨1,O,O,rfl,Y,Y,Y,aC.refl _,fun j n h2=>by omega⟩
 rintro z o L ⟨k,hk0,hkl,rfl,l,M,m,g,o7⟩ JJ f;by_cases dS:k<c.length;rotate_left
 .clear f;have P:cpt c=c:=by unfold cpt;rw[Bd c c.length (au _) fun j n h2=>o7 j n O,fq]
  rw[P];refine fw l m dS ?_;exact⟨⟨[],by rw[g.H q hq,hH,dT]⟩,(bU.refl q K).keeps g⟩
 obtain⟨a,rfl⟩:∃ a,k=a+1:=⟨k-1,O⟩;have W:=qG c (a+1) dS;have y9:=qG c a O;have w1:IntKind.i64.wrap (a:Int)=(a:Int):=zW;have w2':IntKind.i64.wrap ((a:Int)+1+1)=(a:Int)+1+1:=wrap_i64 _ O O;have R:a<c.length:=O;have v7:(a:Int)+1<c.length:=O;have hnx:c.getD (a+1) 0≠c.getD a 0->∀ j,0<j->j<a+1+1->c.getD j 0≠c.getD (j-1) 0:=fun h j n h3=>by
  rcases ec j (a+1)with h4|h4
  .exact o7 j n h4
  .obtain rfl:j=a+1:=O;exact h
 have hid:=Bd c (a+1) O o7;have B:c.getD (a+1) 0=c.getD a 0->vF c (a+1+1)=c.take (a+1):=fun h=>by
  rw[vF,aa,hid];rintro(h3|h3)
  .omega
  .exact h3 h
 have v:=(g.H q hq).trans hH;have A:=D.1 _ _ hPc g;have P:=D.2 L (c.getD (a+1) 0) (c.getD a 0) A;generalize hx:c.getD (a+1) 0=x at *;generalize hy:c.getD a 0=y at *;refine eI l m dS v7 ?_
 (refine zS [] [q] [0,2,4,6,8,10,12,14,16,18,21] ?_;intro J hJ;simp[l,M,m,dS,v7,W,y9,w1,R,v];(repeat refine ca ?_))
 refine aS P ?_;rintro r s3 ⟨rfl,T⟩;have e:=(T.H q (dc hq g.z)).trans v;have N:=D.1 _ _ A T;have E:=g.trans T;refine⟨fun _=>by simp[e,v],?_⟩
 (apply bM;simp[e,v];refine zJ hJ ?_)
 by_cases W0:x=y;rotate_left
 .refine fw m w2' W0 ?_;exact f (c.length-(a+1+1)) _ _ O ⟨a+1+1,O,O,rfl,Z l,Z M,Y,E,hnx W0⟩
 clear f hnx;have B:=B W0;clear w2' hid o7 P;refine II l m dS v7 W y9 w1 R W0 e ?_;refine qL (fun z o s=>∃(p w:Nat) (d:PP),a+1+(p+1)<=c.length/\z=c.length-(a+1+(p+1))/\w=(vF c (a+1+(p+1))).length/\w<=a+1+p/\o 0=.ms q 0 c.length/\o 1=.fn (.func x8) Kz/\o 5=i w/\o 6=.ms q (a+1) (c.length-(a+1))/\o 7=i (p+1:Nat)/\d.length=c.length/\d.take w=vF c (a+1+(p+1))/\d.drop (a+1+p)=c.drop (a+1+p)/\s.H q=.box 34 1 (us d)/\Pc s/\bU q K s) (c.length-(a+1+1)) ?_ ?_
 .refine⟨0,a+1,c,O,O,by rw[B];simp;omega,O,Z l,Z M,Z m,Y,Y,rfl,B.symm,rfl,e,N,(bU.refl q K).keeps E⟩
 clear W y9 w1 v7 hx hy W0 B l M m o e N E T v A g s3 L;rintro z o s ⟨p,w,d,hpl,rfl,hw,hwl,l,M,m,U,f7,C,I,hdd,F,hPs,X⟩ JJ f;by_cases hlp:a+1+(p+1)<c.length
 .have e1:∀ j,a+1+p<=j->d.getD j 0=c.getD j 0:=fun j hj=>by
   have n:(d.drop (a+1+p)).getD (j-(a+1+p)) 0=(c.drop (a+1+p)).getD (j-(a+1+p)) 0:=by rw[hdd]
   simp only[bv,vf]at n ⊢;rw[show a+1+p+(j-(a+1+p))=j by omega]at n;exact n
  have W:=qG d (a+1+(p+1)) O;have y9:=qG d (a+1+p) O;rw[e1 _ O]at W;rw[e1 _ O]at y9;have b:vF c (a+1+(p+1)+1)=if c.getD (a+1+(p+1)) 0≠c.getD (a+1+p) 0 then vF c (a+1+(p+1))++[c.getD (a+1+(p+1)) 0]else vF c (a+1+(p+1)):=by
   rw[vF,show a+1+(p+1)-1=a+1+p by omega];by_cases h:c.getD (a+1+(p+1)) 0≠c.getD (a+1+p) 0
   .rw[ac (.inr h),ac h]
   .rw[aa (by rintro(n|n);omega;exact h n),aa h]
  have Q:d.drop (a+1+(p+1))=c.drop (a+1+(p+1)):=by
   have n:(d.drop (a+1+p)).drop 1=(c.drop (a+1+p)).drop 1:=by rw[hdd]
   rwa [rh,rh,show a+1+p+1=a+1+(p+1) by omega]at n
  have w1:IntKind.i64.wrap (p:Int)=(p:Int):=zW;have w2:IntKind.i64.wrap ((p:Int)+1+1)=(p:Int)+1+1:=zW;have w3:=qN w O;have hA:p+1<c.length-(a+1):=O;have t:(p:Int)+1<(c.length-(a+1):Nat):=O;have hB:p<c.length-(a+1):=O;have hW:w<c.length:=O;have P:=D.2 s (c.getD (a+1+(p+1)) 0) (c.getD (a+1+p) 0) hPs;generalize c.getD (a+1+(p+1)) 0=x at *;generalize c.getD (a+1+p) 0=y at *;refine ls l m U f7 hA t ?_
  (refine zS [] [q] [0,2,4,6,8,10,12,14,16,18,21,22] ?_;intro J hJ;simp[l,M,m,U,f7,hA,t,hB,W,y9,w1,C,F];(repeat refine ca ?_))
  refine aS P ?_;rintro r s3 ⟨rfl,T⟩;have hqs:q<s.z:=dc hq X.1;have e:=(T.H q hqs).trans F;have hP3:=D.1 _ _ hPs T;have S:=X.keeps T;refine⟨fun _=>by simp[e,F],?_⟩
  (apply bM;simp[e,F];refine zJ hJ ?_)
  by_cases W0:x=y
  .rw[aa (fun h=>h W0)]at b;refine jl m U f7 w2 W0 ?_;refine f (c.length-(a+1+(p+1+1))) _ _ O ⟨p+1,w,d,O,rfl,?_,O,Z l,Z M,Z m,Z U,Y,C,?_,Q,e,hP3,S⟩
   .rw[show a+1+(p+1+1)=a+1+(p+1)+1 by omega,b];exact hw
   .rw[show a+1+(p+1+1)=a+1+(p+1)+1 by omega,b];exact I
  .rw[ac W0]at b;have hset:=GM d w x O;refine Rn l m U f7 hA t hB W y9 w1 w2 w3 C W0 hW e ?_;refine f (c.length-(a+1+(p+1+1))) _ _ O ⟨p+1,w+1,d.set w x,O,rfl,?_,O,Z l,Z M,Y,Z U,Y,Z C,?_,?_,?_,?_,?_⟩
   .rw[show a+1+(p+1+1)=a+1+(p+1)+1 by omega,b,cb,<- hw];rfl
   .rw[show a+1+(p+1+1)=a+1+(p+1)+1 by omega,b,TY d w x O,I]
   .rw[show a+1+(p+1)=a+1+p+1 by omega,set_drop d w (a+1+p) x O];rw[show a+1+p+1=a+1+(p+1) by omega];exact Q
   .simp[hset]
   .exact j5 _ _ hP3 ((bU.refl q _).set _)
   .exact S.set _
 clear f;have hpe:a+1+(p+1)=c.length:=O;rw[hpe]at hw I;have hcw:(cpt c).length=w:=hw.symm;have hct:d.take w=cpt c:=I;have hA:¬p+1<c.length-(a+1):=O;have t:¬(p:Int)+1<(c.length-(a+1):Nat):=O;have hW:w<=c.length:=O;rw[hcw,<- hct];refine oy l m U f7 hA t C hW F ?_;exact X.set _
end Aw.Cu
namespace Aw
open Go Go.RowKit Pl
def zY(x:Int):PP->PP
 |[]=>[x]
 |y::l=>if x<y then x::y::l else if y<x then y::zY x l else y::l
theorem uC(x z:Int):∀ l:PP,z∈zY x l↔z=x\/z∈l
 |[]=>by simp[zY]
 |y::l=>by
  unfold zY
  split
  .simp
  .split
   .simp only[ai,uC x z l]
    grind
   grind
theorem BO(x:Int):∀ l:PP,l.Pairwise (· < ·)->(zY x l).Pairwise (· < ·)
 |[],_=>by simp[zY]
 |y::l,h=>by
  obtain⟨b,a⟩:=kk.1 h;unfold zY
  split
  .grind [List.pairwise_cons]
  .split
   .refine kk.2 ⟨fun z c=>?_,BO x l a⟩
    grind [uC]
   omega
def af:QR->PP
 |[]=>[]
 |e::E=>zY e.a (zY e.b (af E))
theorem jM:∀ E,(af E).Pairwise (· < ·)
 |[]=>.nil
 |e::E=>BO _ _ (BO _ _ (jM E))
theorem aI(v:Int):∀ E,v∈af E↔∃ e∈E,v=e.a\/v=e.b
 |[]=>by simp[af]
 |e::E=>by
  unfold af;rw[uC,uC,aI v E]
  grind
def gU(E:QR):PP:=E.flatMap fun e=>[e.a,e.b]
def zL(E:QR):(gU E).length=E.length*2:=by
 induction E with
 |nil=>rfl
 |cons e E a=>grind [gU]
theorem Ph(v:Int)(E:QR):v∈gU E↔∃ e∈E,v=e.a\/v=e.b:=by simp[gU]
def MN(E:QR)(k:Nat)(c:k<E.length):gU (E.take (k+1))=gU (E.take k)++[(E.getD k ed0).a,(E.getD k ed0).b]:=by
 grind [List.take_succ_eq_append_getElem,gU]
def YF(l:PP)(t:Nat)(a:St)(e:l.length<=1000):
 aD prog 41 [.sl t l.length (us l),.fn (.func 42) []] a fun r x=>(∃ V:PP,V.Pairwise (· < ·)/\(∀ v,v∈V↔v∈l)/\r=.sl 0 V.length (us V))/\aC a x:=by
 refine cQ ?_;refine zN func41 ntmps41 [.tmp 4] ?_
 (refine ez ?_;intro J d)
 refine qE (Gg l t _ O) Y ?_;rintro r w ⟨q,rfl,o,p,f,s⟩;have n:=s.z;simp only[aK]at n o;have c:qk a.z w:=⟨O,by rw[s.H _ Y];simp⟩;have I:aC a w:=(aC.new _ _).trans s
 (refine nV d ?_;intro J d)
 refine qE (Vt l q _ [.pt a.z 0] (qk a.z) w (ZC a.z q O) c p O f) Y ?_;rintro r C ⟨D,y,A,g,b⟩;have F:=b.1;have L:=y.length_eq;have j:=(ZC a.z q O).keep _ _ c b;have B:aC a C:=⟨O,fun l e=>(b.2 l O O).trans (I.H l e)⟩;have k:=Cu.Yj A;have m:=fun v=>Cu.Wz A v
 (refine nV d ?_;intro J d)
 refine qE (Cu.UZ D q _ [.pt a.z 0] (qk a.z) C (Lk a.z) (ZC a.z q O).keep j O O g) (Z L) ?_;rintro r M ⟨rfl,⟨E,h⟩,hof3⟩;have K:aC a M:=⟨by have:=B.z;have:=hof3.1;omega,fun l e=>(hof3.2 l O O).trans (B.H l e)⟩;generalize Cu.cpt D=V at *;refine dU d ?_;exact⟨q,V.length,⟨rfl,rfl⟩,34,1,us V++E,h,Y,⟨V,k,fun v=>(m v).trans y.mem_iff,rfl,by grind⟩,K.set O _⟩
def J4(a:QR)(n o:Nat)(b:St)(C:a.length<=200)(g:a.Pairwise fun x y=>x.id<y.id):
 aD prog 18 [.sl n (gU a).length (us (gU a)),.sl o a.length (eds a)] b fun r k=>r=.ag (aw ⟨af a,a⟩)/\aC b k:=by
 have w:=zL a;have m:(a.map (·.id)).Pairwise (· < ·):=by rw[gd];exact g
 refine zN func18 ntmps18 [.cell 4 25] ?_
 (refine ez ?_;intro J l)
 refine qE (YF (gU a) n _ O) Y ?_;rintro r B ⟨⟨V,s,t,rfl⟩,j8⟩;have q:V=af a:=Ba id (by grind) (by grind [jM]) fun v=>by grind [Ph,aI]
 subst q;have j:=j8.z;simp only[aK]at j;have e:B.H b.z=.box 25 2 [.nil,.nil]:=by rw[j8.H _ Y];simp
 refine dU l ?_;refine qE (XN a o _ O (m.imp fun h=>by omega)) Y ?_;rintro r D ⟨⟨E,c,d,rfl⟩,o6⟩;have p:=Ba (·.id) d m fun x=>c.mem_iff;subst p;have A:=o6.z;have f:=(o6.H b.z O).trans e;refine pY l f ?_;exact(((aC.new _ _).trans j8).trans o6).set O _
def OX(g:Gr)(h:Sh)(a:Nat)(w:PP):Prop:=a < h.F.length/\2<=w.length/\w.length<=200/\(∀ v∈w,v∈g.V)/\(h.F.getD a []).length<=1000/\w.getD 0 0∈h.F.getD a []/\w.getD (w.length-1) 0∈h.F.getD a []/\h.F.length<300
instance (g:Gr) (h:Sh) (a:Nat) (w:List Int):Decidable (OX g h a w):=by unfold OX;infer_instance
def Ac(g:Gr)(h:Sh):Option (Option Sh):=(QI g h.L h.on).bind fun B=>
 if(∀ b∈B,∀ v∈b.ends,v∈g.V)/\B.length<=300/\∀ v∈(bL h.F B (⟨[],[]⟩,-1)).1.ends,v∈g.V then
  if(bL h.F B (⟨[],[]⟩,-1)).2<0 then some none
  else(Ou g (bL h.F B (⟨[],[]⟩,-1)).1).bind fun w=>if OX g h (bL h.F B (⟨[],[]⟩,-1)).2.toNat w then some (some (iS h w (bL h.F B (⟨[],[]⟩,-1)).2.toNat))else none
 else none
def tD(g:Gr):Nat->Sh->Option (Option Sh)
 |0,_=>none
 |n+1,h=>if h.L.length<g.E.length then(Ac g h).bind fun o=>match o with
   |none=>some none
   |some a=>tD g n a
  else some (some h)
def rY(E:QR):Option (Option (List PP)):=
 match E with
 |[e]=>some (some [[e.a,e.b]])
 |E=>if(af E).length<=64/\E.length<=200 then
   if(3:Int)*(af E).length-6<E.length then some none
   else(newF ⟨af E,E⟩).bind fun h=>(tD ⟨af E,E⟩ 1000 h).map fun o=>o.map (·.F)
  else none
structure DrE(E:QR):Prop where
 ids:E.Pairwise (fun x y=>x.id<y.id)
 pos:∀ x∈E,1<=x.id/\x.id<=1048576
 ne:∀ x∈E,x.a≠x.b
variable{v:Int}{E:List Ed}
def DrE.gp(h:DrE E)(b:(af E).length<=64)(c:E.length<=200):GP ⟨af E,E⟩:=
 ⟨⟨⟨jM E,fun x a=>⟨(aI _ _).2 ⟨x,a,.inl rfl⟩,(aI _ _).2 ⟨x,a,.inr rfl⟩⟩⟩,h.ids,h.pos,h.ne⟩,b,(by grind)⟩
def qm:Option (List PP)->LV
 |none=>.tu [.sl 0 0 [],bb false]
 |some F=>.tu [.sl 0 F.length (iL F),bb true]
def E6(hE:DrE E){o:Option (List PP)}(ho:rY E=some o)(K:St)(hpos:0<K.z):
 aD prog 61 [.sl 0 E.length (eds E)] K fun r st'=>r=qm o/\aC K st':=by
 refine cZ ?_;have hel:=aL E;by_cases h1:E.length=1
 .obtain⟨⟨e1,ea,eb⟩,rfl⟩:∃ e,E=[e]:=ww.1 h1;have:o=some [[ea,eb]]:=by have:some (some [[ea,eb]])=some o:=ho;exact(ji this).symm
  subst this;have hd:eds [(⟨e1,ea,eb⟩:Ed)]=[u e1,u ea,u eb]:=rfl;refine zN func61 ntmps61 [.tmp 2,.tmp 3] ?_;refine df hd ?_
  (refine zS [] [] [0,2,4,6,8,10,12,14,17,18,20,22] ?_;intro J p;simp[hd];(refine zJ p ?_;clear p J))
  refine bz ?_;exact⟨by simp[z0,dl,qm,iL],(aC.new _ _).trans (aC.new _ _)⟩
 have hb1:((E.length:Int)==1)=false:=by rw[vd];omega
 have v:(if(af E).length<=64/\E.length<=200 then
  if(3:Int)*(af E).length-6<E.length then some none
  else(newF ⟨af E,E⟩).bind fun h=>(tD ⟨af E,E⟩ 1000 h).map fun o=>o.map (·.F)
  else none)=some o:=by
  rcases E with _|⟨e,_|⟨e2,E⟩⟩
  .exact ho
  .simp at h1
  .exact ho
 clear ho
 split at v
 case isFalse=>cases v
 rename_i hq;obtain⟨hq1,hq2⟩:=hq;have hg:=hE.gp hq1 hq2;have hvl:=zL E;refine zN func61 ntmps61 [.tmp 2,.tmp 3] ?_;refine df hb1 ?_;refine uS 4 34 1 Y ?_;have e0:¬K.z=0:=O;refine aV 29 28 30 40 (E.length) (fun j q m=>q 0=.sl 0 E.length (eds E)/\q 27=.sl 0 E.length (eds E)/\aC K m/\∃ t,q 4=.sl t (gU (E.take j)).length (us (gU (E.take j)))/\HC t 34 1 (gU (E.take j)).length K m) ?_ ?_ ?_
 .exact⟨Y,Y,aC.new _ _,K.z,by simp[gU],e0,au _,Y,by simp[gU]⟩
 .rintro j q s dS ⟨f0,Q,j5,t,f4,a1,a2,a3,a4⟩ fi fn JO hJO;have hd:=aP E j dS;have o9:j*3<E.length*3:=O;have V9:=MN E j dS;have hFl:=zL (E.take j);rw[dj]at hFl;generalize E.getD j ed0=x at *;generalize gU (E.take j)=F at *;obtain⟨d,a,b⟩:=x;simp only at V9;have c1:¬t=s.z:=O;have c1b:¬t=s.z+1:=O;have c4:¬s.z=t:=O;have c5:¬s.z+1=t:=O
  (repeat' (first|apply qS|(refine zE ?_;intro J p;simp[f4,Q,fi,fn,hd,hel,o9,dS,a4,a1,c1,c1b,c4,c5];(repeat refine ca ?_);(refine zJ p ?_;clear p J))))
  refine hJO _ _ (Z fi) (Z fn) ⟨Z f0,Z Q,?_,s.z+2,by rw[V9];simp,O,O,Y,by rw[V9];simp⟩;exact(((j5.trans (aC.new _ _)).trans (aC.new _ _)).set a2 _).trans (aC.new _ _)
 .rintro q s ⟨f0,Q,j5,t,f4,a1,a2,a3,a4⟩;rw[fq]at f4 a4
  (refine qh f0 f4 ?_;intro J p)
  refine qE (J4 E t 0 s hq2 hE.ids) Y ?_;rintro r N ⟨rfl,j8⟩;have j8:=j5.trans j8;have w1:IntKind.i64.wrap (3*((af E).length:Int))=3*((af E).length:Int):=zW;have w2:IntKind.i64.wrap (3*((af E).length:Int)-6)=3*((af E).length:Int)-6:=zW;have hel2:=aL E;by_cases hc:(3:Int)*(af E).length-6<E.length
  .rw[ac hc]at v;obtain rfl:none=o:=ji v;refine wT p w1 w2 hc ?_;exact⟨by simp[z0,dl,qm],j8.trans (aC.new _ _)⟩
  rw[aa hc]at v;have o6:=j8.trans (aC.new N (.box 25 2 (aw ⟨af E,E⟩)));have V:(N.new (.box 25 2 (aw ⟨af E,E⟩))).H N.z=.box 25 2 (aw ⟨af E,E⟩):=Y;obtain⟨h,hh,ho3⟩:=nq.1 v;obtain⟨o2,c,ho4⟩:=kj.1 ho3
  (refine V0 p w1 w2 hc ?_;intro J p)
  refine qE (SZ hg hh _) Y ?_;rintro r s2 ⟨S,nl,pl,ll,M,le,rfl,C,⟨b1,b2,b3⟩,o9⟩;have hG2:s2.H N.z=.box 25 2 (aw ⟨af E,E⟩):=by rw[o9.H _ Y];exact V
  have hn1:=j8.z;simp only[aK]at b1 b2 b3;have o6:=o6.trans o9;refine dU p ?_;refine qL (fun n q m=>∃ h M le,tD ⟨af E,E⟩ n h=some o2/\q 7=.pt N.z 0/\q 8=.pt S 0/\ShA ⟨af E,E⟩ h.L h.on h.F S nl pl ll M le m/\N.z<S/\N.z<ll/\N.z<M/\m.H N.z=.box 25 2 (aw ⟨af E,E⟩)/\aC K m) 1000 ?_ ?_
  .exact⟨h,M,le,c,Y,Y,C,O,O,O,hG2,o6⟩
  clear C hG2 o6 o9 c V f0 Q f4 q b1 b2 b3 hh v ho3 h;rintro n q s3 ⟨h,M,le,c,f7,f8,C,b1,b2,b3,V,D⟩ JJ hJJ;obtain _|n:=n
  .cases c
  have U:=C.r.box;have hsl:=C.r.lt;have hL:=C.r.lin;have hkl:le.length=h.L.length:=by rw[<- du (f:=(·.1)),C.r.key,du]
  unfold tD at c;by_cases dS:h.L.length<E.length
  .rw[ac dS]at c;have v7:((le.length:Nat):Int)<E.length:=O;obtain⟨so,g,c⟩:=nq.1 c;unfold Ac at g;obtain⟨B,hB,g⟩:=nq.1 g
   split at g
   case isFalse=>cases g
   rename_i hc;obtain⟨hc1,hc2,hc3⟩:=hc
   (refine v6 f7 f8 U hL V v7 ?_;intro J p)
   refine jr (XV hg C hB hc1 hc2) ?_;generalize bL h.F B (⟨[],[]⟩,-1)=ch at *;obtain⟨b,A⟩:=ch;simp only at g hc3;by_cases I:A < 0
   .rw[ac I]at g;obtain rfl:none=so:=ji g;simp only at c;obtain rfl:none=o2:=ji c;obtain rfl:none=o:=ho4;refine pY p I ?_;exact⟨by simp[z0,dl,qm],D.trans (aC.new _ _)⟩
   rw[aa I]at g;obtain⟨w,hw,g⟩:=nq.1 g
   split at g
   case isFalse=>cases g
   rename_i hlay;obtain⟨y1,y2,y3,y4,y5,y6,y7,y8⟩:=hlay;obtain rfl:=ji g;simp only at c;obtain⟨A,rfl⟩:∃ k:Nat,A=(k:Int):=⟨A.toNat,O⟩;simp only[Int.toNat_natCast]at *;have hneg':¬(A:Int)<0:=O
   (refine Hs p hneg' f8 ?_;intro J p)
   have hk4:=aC.new s3 (.box 138 2 [wv (mk (af E) b.inner),wv (mk (af E) b.ends)]);refine jr (X7 hg (C.keep hk4) hc3 hw) ?_ (by simp[Vp]);refine dU p ?_;refine qE (S7 hg (C.keep hk4) y1 y2 y3 y4 y5 y6 y7 y8 Y) Y ?_;rintro r s4 ⟨fl2,le2,hS4,hfl,hkm⟩;have hkn:=hkm.z;simp only[aK]at hkn hfl;have W:=hkm.H
   have hKK:aC K s4:=⟨by have:=D.z;omega,fun l hl=>by
    have:=D.z;rw[W l (by simp;omega) (by simp;omega),cN,aa O]
    exact D.H l hl⟩
   have hG4:s4.H N.z=.box 25 2 (aw ⟨af E,E⟩):=by rw[W _ (by simp;omega) (by simp;omega),cN,aa O];exact V
   refine dU p ?_;refine hJJ n _ _ O ⟨iS h w A,fl2,le2,c,Z f7,Z f8,hS4,O,O,O,hG4,hKK⟩
  .rw[aa dS]at c;obtain rfl:some h=o2:=ji c;obtain rfl:some h.F=o:=ho4;have v7:¬((le.length:Nat):Int)<E.length:=O;clear hJJ;refine ls f7 f8 U hL V v7 ?_;refine uS 11 22 1 Y ?_;have T:=C.fac;have hfl:=tR (af E) h.F;have hfw:=C.few;have y:=C.flt;refine aV 82 81 83 91 (h.F.length) (fun j q m=>q 80=.ms M 0 h.F.length/\m.H M=.box 144 2 (jA (af E) h.F)/\M<m.z/\aC K m/\∃ t,q 11=.sl t j (iL (h.F.take j))/\HC t 22 1 j K m) ?_ ?_ ?_
   .exact⟨Y,by rw[cN,aa O];exact T,by simp;omega,D.trans (aC.new _ _),s3.z,by simp[iL],by have:=D.z;omega,D.z,Y,Y⟩
   .clear T y V U hL v7 f7 f8 D;rintro j q s dS ⟨X,T,y,D,t,P,t0,t1,t2,tH⟩ fi fn JO hJO;have hd:=uR (af E) h.F j dS;have hjj:j*2<h.F.length*2:=O;have V9:=Dq h.F j dS;have hgd:h.F.getD j []=h.F[j]:=by rw[bv,bu dS];rfl
    rw[hgd]at hd;generalize h.F[j]=R at *;have c0:¬M=t:=fun e=>by rw[e,tH]at T;cases T
    have c1:¬t=s.z:=O;have c2:¬s.z=t:=O;have c3:¬t=s.z+1:=O;have c4:¬s.z+1=t:=O;have c5:¬M=s.z:=O
    (repeat' (first|apply qS|(refine zE ?_;intro J p;simp[X,P,fi,fn,T,hd,hjj,hfl,dS,tH,t0,c0,c1,c2,c3,c4,c5];(repeat refine ca ?_);(refine zJ p ?_;clear p J))))
    refine hJO _ _ (Z fi) (Z fn) ⟨Z X,?_,by simp;omega,?_,s.z+1+1,by rw[V9];simp[iL],O,O,Y,Y⟩
    ·(repeat (first|rw[ay aE]|rw[aA O]|rw[az bf]|rw[aB O]));exact T
    .exact(((D.trans (aC.new _ _)).trans (aC.new _ _)).set t1 _).trans (aC.new _ _)
   .clear T y V U hL v7 f7 f8 D;rintro q s ⟨X,T,y,D,t,P,t0,t1,t2,tH⟩;rw[fq]at P;refine df P ?_;have hzu:∀ l:PP,dl (us l)=us l:=fun l=>by
     induction l with
     |nil=>rfl
     |cons x l ih=>simp only[us,ax,dl,z0]at ih ⊢;rw[ih]
    have hz:∀ R:List PP,dl (iL R)=iL R:=fun R=>by
     induction R with
     |nil=>rfl
     |cons r R ih=>simp only[iL,ax,dl,z0,hzu]at ih ⊢;rw[ih]
    exact⟨by simp[z0,dl,qm,hz],D⟩
abbrev Tn:=List (Int×QP)
def tF(x y:Int):QP->QP
 |[]=>[(x,y)]
 |p::P=>if p.1=x then(x,y)::P else p::tF x y P
def jE(v x y:Int):Tn->Tn
 |[]=>[(v,[(x,y)])]
 |a::A=>if a.1=v then(v,tF x y a.2)::A else a::jE v x y A
def kU(n k:Nat):Nat:=if k=0 then n-1 else k-1
def lM(r:PP)(A:Tn):Nat->Tn
 |0=>A
 |j+1=>jE (r.getD j 0) (r.getD (kU r.length j) 0) (r.getD ((j+1) % r.length) 0) (lM r A j)
def aX(R:List PP):Tn:=R.foldl (fun A r=>lM r A r.length) []
def ie(P:QP):List (PP×LV):=P.map fun p=>([p.1],u p.2)
theorem Gm(x y:Int):∀ P,bX (ie P) [x] (u y)=ie (tF x y P)
 |[]=>rfl
 |p::P=>by
  have a:=Gm x y P;unfold tF;simp only[ie,ax,bX,kX,qf]at a ⊢;by_cases h:p.1=x
  .rw[ac h,ac (Z h)];rfl
  .rw[aa h,aa (by simpa using fun e=>h e.symm),a];rfl
def iv(A:Tn)(b:Int->Nat):List (PP×LV):=A.map fun a=>([a.1],.mp (b a.1))
structure MM(A:Tn)(loc:Int->Nat)(o:Nat)(lo st:St):Prop where
 out:st.H o=.map false [.u32] (iv A loc)
 olt:lo.z<=o/\o<st.z
 inn:∀ a∈A,st.H (loc a.1)=.map false [.u32] (ie a.2)/\(lo.z<=loc a.1/\loc a.1≠o)/\loc a.1<st.z
 inj:∀ a∈A,∀ b∈A,loc a.1=loc b.1->a.1=b.1
 nd:(A.map (·.1)).Nodup
 kp:aC lo st
def HT(A:Tn)(b:Int->Nat)(v:Int):bY (iv A b) [v]=if v∈A.map (·.1)then some (.mp (b v))else none:=by
 induction A with
 |nil=>rfl
 |cons a A c=>
  simp only[iv,ax,bY,ai]at c ⊢;by_cases h:a.1=v
  .rw[ac (Z h),ac (.inl h.symm),h]
  .rw[aa (by simpa using fun e=>h e.symm),c];have:¬v=a.1:=fun e=>h e.symm;simp only[this,false_or]
variable{A:Tn}
def WO(b:Int->Nat)(l:Nat)(h:v∉A.map (·.1)):bX (iv A b) [v] (.mp l)=iv (A++[(v,[])]) (fun x=>if x=v then l else b x):=by
 rw[Dr]
 .unfold iv;rw[cz]
  congr 1
  .refine jf fun a c=>?_;have:a.1≠v:=fun e=>h (e ▸ ao.2 ⟨a,c,rfl⟩);simp only[aa this]
  .simp
 .intro d;obtain⟨q,f,e⟩:=ao.1 d;obtain⟨a,c,rfl⟩:=ao.1 f;simp only[kX,qf]at e;exact h (e ▸ ao.2 ⟨a,c,rfl⟩)
theorem MM.add{f:Int->Nat}{o:Nat}{n s:St}(h:MM A f o n s)(l:v∉A.map (·.1)):
 MM (A++[(v,[])]) (fun x=>if x=v then s.z else f x) o n ((s.new (.map false [.u32] [])).set o (.map false [.u32] (iv (A++[(v,[])]) (fun x=>if x=v then s.z else f x)))):=by
 obtain⟨y,j,g,q,r,k⟩:=h;have Tv:∀ a∈A,a.1≠v:=fun a c e=>l (e ▸ ao.2 ⟨a,c,rfl⟩);have t:=k.z;refine⟨Y,⟨j.1,by simp;omega⟩,fun a c=>?_,fun a c b d e=>?_,?_,(k.trans (aC.new _ _)).set j.1 _⟩
 .rcases am.1 c with c|c
  .obtain⟨w,m,B⟩:=g a c;simp only[aa (Tv a c)];have p:¬f a.1=o:=m.2;refine⟨?_,m,by simp;omega⟩;rw[cC,aa p,cN,aa O];exact w
  .rw[bi]at c;subst c;simp only[ef];refine⟨?_,⟨t,O⟩,Y⟩;rw[cC,aa O,cN,ac rfl];rfl
 .rcases am.1 c with c|c
  .rcases am.1 d with d|d
   .simp only[aa (Tv a c),aa (Tv b d)]at e;exact q a c b d e
   .rw[bi]at d;subst d;simp only[aa (Tv a c),ef]at e;have:=(g a c).2.2;omega
  .rw[bi]at c;subst c;rcases am.1 d with d|d
   .simp only[aa (Tv b d),ef]at e;have:=(g b d).2.2;omega
   .rw[bi]at d;subst d;rfl
 .rw[cz,bo];refine⟨r,Y,fun a c b d e=>?_⟩;simp only[ax,mB,bi]at d;subst d;subst e;exact l c
theorem FB(v x y:Int):∀ A:Tn,v∈A.map (·.1)->(jE v x y A).map (·.1)=A.map (·.1)
 |a::A,h=>by
  unfold jE;by_cases e:a.1=v
  .rw[ac e];simp[e]
  .rw[aa e,ax,ax,FB v x y A];simp only[ax,ai]at h;exact h.resolve_left fun h=>e h.symm
theorem KI{v x y:Int}{P:QP}:∀ {A:Tn},(A.map (·.1)).Nodup->(v,P)∈A->∀ a,a∈jE v x y A->a=(v,tF x y P)\/(a∈A/\a.1≠v)
 |b::A,l,h,a,c=>by
  obtain⟨g,m⟩:=bw.1 (by simpa using l:(b.1::A.map (·.1)).Nodup);unfold jE at c;by_cases e:b.1=v
  .rw[ac e]at c;have k:(v,P)=b:=by
    rcases ai.1 h with h|h
    .exact h
    .exact absurd (ao.2 ⟨_,h,rfl⟩) (e ▸ g)
   subst k;rcases ai.1 c with c|c
   .exact .inl c
   .exact .inr ⟨aq _ c,fun d=>g (ao.2 ⟨a,c,d⟩)⟩
  .rw[aa e]at c;rcases ai.1 c with c|c
   .exact .inr ⟨Z c,by rw[c];exact e⟩
   .have d:(v,P)∈A:=by
     rcases ai.1 h with h|h
     .exact absurd (by rw[<- h]) e
     .exact h
    rcases KI m d a c with f|⟨f,j⟩
    .exact .inl f
    .exact .inr ⟨aq _ f,j⟩
theorem Ky(v x y:Int):∀ A:Tn,v∉A.map (·.1)->jE v x y (A++[(v,[])])=jE v x y A
 |[],_=>by simp[jE,tF]
 |a::A,h=>by simp only[ax,ai,fJ]at h;have e:¬a.1=v:=fun e=>h.1 e.symm;simp only[List.cons_append,jE,aa e,Ky v x y A h.2]
def MM.put{A:Tn}{loc:Int->Nat}{o:Nat}{lo s:St}(h:MM A loc o lo s){v x y:Int}{P:QP}(hv:(v,P)∈A):
 MM (jE v x y A) loc o lo (s.set (loc v) (.map false [.u32] (ie (tF x y P)))):=by
 obtain⟨h1,h2,h3,h4,h5,h6⟩:=h;have hk:=FB v x y A (ao.2 ⟨_,hv,rfl⟩);obtain⟨k1,k2,k3⟩:=h3 _ hv;have j7:∀ a∈jE v x y A,∃ b∈A,b.1=a.1:=fun a ha=>by
  have:a.1∈A.map (·.1):=by rw[<- hk];exact ao.2 ⟨a,ha,rfl⟩
  obtain⟨b,hb,e⟩:=ao.1 this;exact⟨b,hb,e⟩
 have ho:iv (jE v x y A) loc=iv A loc:=by
  have e:∀ B:Tn,iv B loc=(B.map (·.1)).map fun k=>([k],LV.mp (loc k)):=fun B=>by simp[iv]
  rw[e,e,hk]
 have e1:¬o=loc v:=fun e=>k2.2 e.symm;refine⟨?_,⟨h2.1,h2.2⟩,fun a ha=>?_,fun a ha b hb e=>?_,by rw[hk];exact h5,h6.set k2.1 _⟩
 .rw[cC,aa e1,h1,ho]
 .rcases KI h5 hv a ha with rfl|⟨ha,Tv⟩
  .exact⟨Y,k2,k3⟩
  .obtain⟨q1,q2,q3⟩:=h3 a ha;refine⟨?_,q2,q3⟩;rw[cC,aa fun e=>Tv (h4 a ha _ hv e)];exact q1
 .obtain⟨a2,ha2,ea⟩:=j7 a ha;obtain⟨b2,hb2,eb⟩:=j7 b hb;rw[<- ea,<- eb]at e ⊢;exact h4 a2 ha2 b2 hb2 e
def Sg(R:List PP)(c:St)(hR:R.length<=300)(hr:∀ r∈R,r.length<=1000):
 aD prog 62 [.sl 0 R.length (iL R)] c fun r st'=>∃ o a,r=.mp o/\MM (aX R) a o c st':=by
 refine zN func62 ntmps62 [.tmp 2] ?_;refine bz ?_;have e0:c.z<c.z+1:=O;refine aV 12 11 13 50 (R.length) (fun j d N=>d 3=.mp c.z/\d 10=.sl 0 R.length (iL R)/\∃ a,MM ((R.take j).foldl (fun A r=>lM r A r.length) []) a c.z c N) ?_ ?_ ?_
 .exact⟨Y,Y,fun _=>0,by simp[iv],Y,Y,Y,Y,aC.new _ _⟩
 .rintro l d s dS ⟨f,b,a,g⟩ m fn JO W;have hd:=Ms R l dS;have V9:(R.take (l+1)).foldl (fun A r=>lM r A r.length) []=lM (R.getD l []) ((R.take l).foldl (fun A r=>lM r A r.length) []) (R.getD l []).length:=by have h1:R.take (l+1)=R.take l++[R[l]]:=fh dS;rw[h1,lD,bv,bu dS];rfl
  have hl:(R.getD l []).length<=1000:=hr _ (by rw[bv,bu dS];exact dz _);generalize (R.take l).foldl (fun A r=>lM r A r.length) []=T at *;generalize R.getD l []=r at *;have w1:IntKind.i64.wrap ((r.length:Int)-1)=(r.length:Int)-1:=zW;refine oh f b m fn dS hd w1 ?_;have hJ0:∀ q Q s',Q 3=.mp c.z->Q 10=.sl 0 R.length (iL R)->Q 12=i l->Q 11=i R.length->MM (lM r T r.length) q c.z c s'->JO Q s':=fun q Q s' g1 g2 g3 g4 g5=>W _ _ g3 g4 ⟨Z g1,Z g2,q,by rw[V9];exact g5⟩;clear W V9;refine aV 21 20 22 49 (r.length) (fun j d N=>(d 3=.mp c.z/\d 10=.sl 0 R.length (iL R)/\d 12=i l/\d 11=i R.length)/\d 5=.sl 0 r.length (us r)/\d 19=.sl 0 r.length (us r)/\d 6=i (if j=0 then(r.length:Int)-1 else(j:Int)-1)/\∃ a,MM (lM r T j) a c.z c N) ?_ ?_ ?_
  .exact⟨⟨Z f,Z b,Z m,Z fn⟩,Y,Y,Y,a,g⟩
  .clear f b m fn g a s d;rintro k d s h ⟨⟨f,b,B,w⟩,f5,f19,f6,a,g⟩ m fn JO2 hJO2;have n:=qG r k h;have L:kU r.length k<r.length:=by unfold kU;split<;>omega
   have hpi:(if k=0 then(r.length:Int)-1 else(k:Int)-1)=((kU r.length k:Nat):Int):=by unfold kU;split<;>omega
   rw[hpi]at f6;have hdp:=qG r (kU r.length k) L;have F:((k:Int)+1).tmod (r.length:Int)=(((k+1) % r.length:Nat):Int):=by rw[zt O];exact(Int.natCast_emod _ _).symm
   have K:(k+1) % r.length<r.length:=me _ O;have hdm:=qG r ((k+1) % r.length) K;have hw:IntKind.i64.wrap ((k:Int)+1)=(k:Int)+1:=zW;have M:lM r T (k+1)=jE (r.getD k 0) (r.getD (kU r.length k) 0) (r.getD ((k+1) % r.length) 0) (lM r T k):=rfl;generalize lM r T k=A at *;generalize kU r.length k=pk at *;generalize (k+1) % r.length=mk' at *;generalize r.getD k 0=v at *;generalize r.getD pk 0=x at *;generalize r.getD mk' 0=y at *;have hr0:¬(r.length:Int)=0:=O;have hrn:¬r=[]:=fun e=>by rw[e]at h;simp at h
   have H:(pk:Int)<r.length:=O;have E:(mk':Int)<r.length:=O;have U:=g.out;have D:=HT A a v;by_cases S:v∈A.map (·.1)
   .rw[ac S]at D;obtain⟨⟨v',P⟩,X,rfl⟩:=ao.1 S;simp only at D M n;have V:=(g.inn _ X).1;have p:=Gm x y P;have C:=g.put (x:=x) (y:=y) X;simp only at V;generalize a v'=lv at *;refine II f f5 f19 f6 m fn h n U D ?_
    (refine zS [] [c.z,lv] [0,2,4,6,8,10,12,14,16,18,20,22,24,26,28,31] ?_;intro J hJ;simp[f,f5,f19,f6,m,fn,h,n,hdp,hdm,L,K,H,E,hr0,hrn,hw,F,U,D,V];refine zJ hJ ?_)
    rw[p];refine bz ?_;refine hJO2 _ _ (Z m) (Z fn) ⟨⟨Z f,Z b,Z B,Z w⟩,Z f5,Z f19,Y,a,?_⟩;rw[M];exact C
   .rw[aa S]at D;have c1:¬c.z=s.z:=by have:=g.olt;omega
    have I:=g.add S;have hadd:=WO a s.z S;have hpa:=Ky v x y A S;refine Xk f f5 f19 f6 m fn h n U D c1 ?_;rw[hadd];generalize (s.new (.map false [.u32] [])).set c.z (.map false [.u32] (iv (A++[(v,[])]) fun x=>if x=v then s.z else a x))=s1 at *;generalize hl1:(fun x=>if x=v then s.z else a x)=t at *;have X:(v,[])∈A++[(v,([]:QP))]:=Y;have U:=I.out;have D:=HT (A++[(v,[])]) t v;rw[ac Y]at D;have V:=(I.inn _ X).1;have p:=Gm x y [];have C:=I.put (x:=x) (y:=y) X;rw[hpa]at C;simp only at V;generalize A++[(v,([]:QP))]=A1 at *;generalize t v=lv at *;clear g
    (refine zS [] [c.z,lv] [0,2,4,6,8,10,12,14,16,18,20,22,24,26,28,31] ?_;intro J hJ;simp[f,f5,f19,f6,m,fn,h,n,hdp,hdm,L,K,H,E,hr0,hrn,hw,F,U,D,V];refine zJ hJ ?_)
    rw[p];refine bz ?_;refine hJO2 _ _ (Z m) (Z fn) ⟨⟨Z f,Z b,Z B,Z w⟩,Z f5,Z f19,Y,t,?_⟩;rw[M];exact C
  .clear f b m fn g a s d;rintro d s ⟨⟨f,b,B,w⟩,f5,f19,f6,a,g⟩;refine bz ?_;exact hJ0 a _ _ (Z f) (Z b) (Z B) (Z w) g
 .rintro d s ⟨f,b,a,g⟩;rw[fq]at g;refine df f ?_;exact⟨_,g⟩
end Aw
end Go.Proofs.YtbgngpdonpeboaaGreatDoor
