/- Plain: sets of a graph's vertices as the bits of a number. -/
import Derived.Test.YtbgngpdonpeboaaGreatDoorJc
import Derived.Test.YtbgngpdonpeboaaGreatDoorAwSet
import Derived.Lib.TrailingZeros
import Derived.Test.YtbgngpdonpeboaaGreatDoorAwTd
import Derived.Test.YtbgngpdonpeboaaGreatDoorAwZ
import Derived.Test.YtbgngpdonpeboaaGreatDoorAwRg
import Derived.Test.YtbgngpdonpeboaaGreatDoorAwMr5
import Derived.Test.YtbgngpdonpeboaaGreatDoorAwFn
import Derived.Laws.Bits64b
import Derived.Test.YtbgngpdonpeboaaGreatDoorAwShp
set_option linter.defProp false
set_option linter.unusedVariables false
set_option linter.unusedSimpArgs false
set_option maxHeartbeats 2000000
open Go.Proofs.Tryz
namespace Go.Proofs.YtbgngpdonpeboaaGreatDoor
namespace Aw
open Go Go.RowKit Pl
def BG:List Bool->Nat
 |[]=>0
 |b::l=>(if b then 1 else 0)+2*BG l
theorem Ip:∀(l:List Bool) (i:Nat),(BG l).testBit i=l.getD i false
 |[],i=>by simp[BG]
 |b::l,0=>by
  grind [BG]
 |b::l,i+1=>by
  rw[BG,vd];have:((if b then 1 else 0)+2*BG l) / 2=BG l:=by cases b<;>simp<;>omega
  rw[this,Ip l i];simp
theorem Ky:∀ l:List Bool,BG l<2 ^ l.length
 |[]=>by simp[BG]
 |b::l=>by
  have:=Ky l
  grind [BG]
def mk(a S:AN):Nat:=BG (a.map fun v=>decide (v∈S))
theorem iZ(a S:AN)(i:Nat):(mk a S).testBit i=(decide (i<a.length)&&decide (a.getD i 0∈S)):=by
 grind [mk,Ip]
def nN(a S:AN)(h:a.length<=64):mk a S<18446744073709551616:=by
 have b:=Ky (a.map fun v=>decide (v∈S));rw[dh]at b
 exact cz b (by
  have:=yn (show 0<2 by decide) h
  omega)
theorem mk_congr{a A B:AN}(h:∀ v∈a,(v∈A↔v∈B)):mk a A=mk a B:=by
 grind [mk,List.map_congr_left]
def WO{a A B:AN}(h:mk a A=mk a B):∀ v∈a,(v∈A↔v∈B):=fun v b=>by
 obtain⟨i,d,rfl⟩:=eh b;have c:=iZ a A i
 grind [iZ]
def mk_zero(a A:AN):mk a A=0↔∀ v∈a,v∉A:=by
 have e:mk a []=0:=by apply mB;intro i;rw[iZ];simp
 constructor
 .intro h v c b;have:=(WO (h.trans e.symm) v c).1 b
  grind
 grind [mk_congr]
def US(a b:Nat)(c:a<18446744073709551616)(d:b<18446744073709551616):mq .u64 (a:Int) (b:Int)=((a ||| b:Nat):Int):=by
 have e:a ||| b<2 ^ 64:=Nat.or_lt_two_pow oO oO
 unfold mq;simp only[show IntKind.u64.bits=64 from rfl,BitVec.ofInt_natCast,BitVec.toNat_or,su,ej c,ej d]
 grind [IntKind.wrap_u64]
def Aj(a b:Nat)(c:a<18446744073709551616)(d:b<18446744073709551616):wJ .u64 (a:Int) (b:Int)=((a &&& b:Nat):Int):=by
 have e:a &&& b<2 ^ 64:=Nat.and_lt_two_pow _ oO;unfold wJ;simp only[show IntKind.u64.bits=64 from rfl,BitVec.ofInt_natCast,BitVec.toNat_and,su,ej c,ej d]
 grind [IntKind.wrap_u64]
def IB(a b:Nat)(c:a<18446744073709551616)(d:b<18446744073709551616):iD .u64 (a:Int) (b:Int)=((a &&& (2 ^ 64-(b+1)):Nat):Int):=by
 have e:a &&& (2 ^ 64-(b+1))<2 ^ 64:=Nat.and_lt_two_pow _ oO;unfold iD;simp only[show IntKind.u64.bits=64 from rfl,BitVec.ofInt_natCast,BitVec.toNat_and,BitVec.toNat_not,su,ej c,ej d]
 grind [IntKind.wrap_u64]
theorem Au(a A B:AN)(h:a.length<=64):mq .u64 (mk a A) (mk a B)=mk a (A++B):=by
 rw[US _ _ (nN a A h) (nN a B h)]
 congr 1
 apply mB
 grind [iZ]
def RP(a A B:AN)(h:a.length<=64):wJ .u64 (mk a A) (mk a B)=mk a (A.filter fun v=>decide (v∈B)):=by
 rw[Aj _ _ (nN a A h) (nN a B h)]
 congr 1
 apply mB
 grind [iZ]
def rU(a A B:AN)(h:a.length<=64):iD .u64 (mk a A) (mk a B)=mk a (A.filter fun v=>!decide (v∈B)):=by
 rw[IB _ _ (nN a A h) (nN a B h)]
 congr 1
 apply mB;intro i;rw[Nat.testBit_and,Nat.testBit_two_pow_sub_succ (nN a B h),iZ,iZ,iZ]
 grind
def fst'(a S:AN):Nat:=a.findIdx fun v=>decide (v∈S)
def Nw{x k:Nat}(a:x.testBit k=true)(c:∀ j,j<k->x.testBit j=false):∃ m,x=2 ^ k*(2*m+1):=by
 induction k generalizing x with
 |zero=>rw[Nat.testBit_zero]at a;simp only[ke]at a;exact⟨x / 2,oO⟩
 |succ k d=>
  have b:=c 0 oO;rw[Nat.testBit_zero]at b;simp only[ox]at b;rw[vd]at a;obtain⟨m,f⟩:=d a fun j e=>by grind
  refine⟨m,?_⟩
  grind [Nat.mul_assoc]
theorem Bd{a S:AN}(h:fst' a S<a.length):∃ m,mk a S=2 ^ fst' a S*(2*m+1):=by
 have d:decide (a[fst' a S]∈S)=true:=yo (w:=h);refine Nw ?_ fun j b=>?_
 .grind [iZ]
 .rw[iZ];have c:j<a.length:=oO;have:=xz b
  grind
theorem Ih{a b m n:Nat}(h:2 ^ a*(2*m+1)=2 ^ b*(2*n+1)):a=b:=by
 induction a generalizing b with
 |zero=>
  cases b with
  |zero=>rfl
  |succ b=>
   grind
 |succ a c=>
  cases b with
  |zero=>
   grind
  |succ b=>
   grind
theorem Fy{a S:AN}(b:a.length<=64)(h:fst' a S<a.length):Lib.ctz 64 (mk a S)=fst' a S:=by
 obtain⟨m,d⟩:=Bd h;have dF:=nN a S b;have c:mk a S≠0:=by rw[d];exact Nat.mul_ne_zero (by grind) oO
 have e:Lib.ctz 64 (mk a S)=Lib.ctzFrom 64 (mk a S):=by simp[Lib.ctz,c]
 obtain⟨n,f,_⟩:=Lib.ctzFrom_spec 64 (mk a S) oO dF
 grind [Ih]
def FL{a S:AN}(h:fst' a S<a.length):mk a S≠0:=by
 grind [Bd]
def XQ{a S:AN}:fst' a S<a.length↔∃ v∈a,v∈S:=by
 grind [fst']
def Tj{a S:AN}(h:fst' a S<a.length):a.getD (fst' a S) 0∈S/\a.getD (fst' a S) 0∈a:=by
 grind [fst']
theorem Ey{a:AN}(d:a.Nodup){i j:Nat}(b:i<a.length)(c:j<a.length):a[i]=a[j]↔i=j:=by
 grind [List.pairwise_iff_getElem]
def mk_one{a:AN}(c:a.Nodup){k:Nat}(b:k<a.length):mk a [a.getD k 0]=2 ^ k:=by
 apply mB
 grind [iZ,Ey]
def XG{a S:AN}(b:a.length<=64)(e:a.Nodup)(h:fst' a S<a.length):wJ .u64 (mk a S) (IntKind.u64.wrap (0-(mk a S:Int)))=mk a [a.getD (fst' a S) 0]:=by
 have dF:=nN a S b;have d:=FL h;have c:IntKind.u64.wrap (0-(mk a S:Int))=((18446744073709551616-mk a S:Nat):Int):=by rw[IntKind.wrap_u64];omega
 rw[c,Aj _ _ dF oO,mk_one e h];have:=(Lib.lowest_bit 64 (mk a S) d dF).1
 grind [Fy]
def IM(k m:Nat):(2 ^ k*(2*m+1)) &&& (2 ^ k*(2*m+1)-1)=2 ^ k*(2*m):=by
 have d:=Nat.two_pow_pos k;have e:2 ^ k*(2*m+1)-1=2 ^ k*(2*m)+(2 ^ k-1):=by rw[Nat.mul_add,ph];omega
 rw[e];apply mB;intro i;rw[Nat.testBit_and,Nat.testBit_two_pow_mul_add _ (show 2 ^ k-1<2 ^ k by omega)];rw[lu (2 ^ k),lu (2 ^ k),se,se];by_cases a:i<k
 .grind
 .have b:k<=i:=oO;simp only[a,b,decide_true,Bool.true_and,gx];cases c:i-k with
  |zero=>grind
  |succ j=>
   grind
def MI{a S:AN}(b:a.length<=64)(q:a.Nodup)(h:fst' a S<a.length):wJ .u64 (mk a S) (IntKind.u64.wrap ((mk a S:Int)-1))=mk a (S.filter fun w=>decide (w≠a.getD (fst' a S) 0)):=by
 have dF:=nN a S b;have l:=FL h;have d:IntKind.u64.wrap ((mk a S:Int)-1)=((mk a S-1:Nat):Int):=by rw[IntKind.wrap_u64];omega
 rw[d,Aj _ _ dF oO]
 congr 1
 obtain⟨m,c⟩:=Bd h;have n:mk a S &&& (mk a S-1)=mk a S-2 ^ fst' a S:=by rw[c,IM,Nat.mul_add (2 ^ _) (2*m) 1,ph];omega
 apply mB;intro i;have g:mk a S &&& (mk a S-1)=2 ^ fst' a S*(2*m):=by rw[c,IM]
 have f:(mk a S).testBit i=(2 ^ fst' a S*(2*m+1)).testBit i:=by rw[<- c]
 rw[g,iZ];rw[iZ,lu (2 ^ _),se]at f;rw[lu (2 ^ _),se];by_cases e:i=fst' a S
 .grind
 .have r:i<a.length->a.getD i 0≠a.getD (fst' a S) 0:=fun k=>by
   grind [Ey]
  have o:(2*m).testBit (i-fst' a S)=(2*m+1).testBit (i-fst' a S)\/i<fst' a S:=by
   by_cases k:i<fst' a S
   .omega
   .left;obtain⟨j,p⟩:∃ j,i-fst' a S=j+1:=⟨i-fst' a S-1,oO⟩
    grind
  grind
def Ll{a:AN}(d:a.Nodup)(b:a.length<=64){k:Nat}(c:k<a.length):Ee .u64 1 (k:Int)=mk a [a.getD k 0]:=by
 rw[mk_one d c];unfold Ee;have:min (k:Int).toNat IntKind.u64.bits=k:=by have:IntKind.u64.bits=64:=rfl;omega
 rw[this,Int.one_mul,IntKind.wrap_u64];have e:2 ^ k<18446744073709551616:=cz (Nat.pow_lt_pow_right (show 1<2 by decide) (show k<64 by omega)) (au _)
 grind
abbrev wv(n:Nat):LV:=.atom (.int .u64 n)
def yW(n:Nat):∀ l:AN,gJ n (us l):=fun l=>by
 induction l with
 |nil=>trivial
 |cons a l b=>exact⟨trivial,b⟩
def vR(a:AN):List (AN×LV):=(List.range a.length).map fun k=>([a.getD k 0],i k)
def Bl{a:AN}(e:a.Nodup){k:Nat}(d:k<a.length):bQ (vR a) [a.getD k 0]=some (i k):=by
 have b:∀(L:List Nat),(∀ j∈L,j<a.length)->k∈L->bQ (L.map fun k=>(([a.getD k 0],i k):AN×LV)) [a.getD k 0]=some (i k):=by
  intro L;induction L with
  |nil=>grind
  |cons j L f=>
   grind [bQ,Ey]
 exact b _ (fun j c=>fC.1 c) (fC.2 d)
def lf(j:AN)(S g:Nat)(h:St):Prop:=(∃ a b c d e f,h.H S=.box 136 7 [a,b,c,.mp g,d,e,f])/\h.H g=.map false [.u32] (vR j)
def Av{a:AN}{v:Int}(b:v∈a):a.idxOf v<a.length/\a.getD (a.idxOf v) 0=v:=by
 grind
def VD{g:AN}{S w:Nat}{j:St}(q:lf g S w j)(o:g.Nodup)(h:g.length<=64){v:Int}(t:v∈g):
 aB prog 137 [.pt S 0,u v] j fun r k=>r=wv (mk g [v])/\k=j:=by
 obtain⟨⟨a,b,c,d,e,f,p⟩,hP⟩:=q;obtain⟨n,s⟩:=Av t;have l:=Bl o n;have m:=Ll o h n;rw[s]at l m;refine zN func137 ntmps137 [.tmp 4] ?_;exact yz p hP l m
def VM(a l:AN)(j:Nat)(b:j<l.length)(h:a.length<=64):mq .u64 (mk a (l.take j)) (mk a [l.getD j 0])=mk a (l.take (j+1)):=by
 grind [Au,List.take_succ_eq_append_getElem]
def XB{vs:AN}{S pl:Nat}{d:St}(o:lf vs S pl d)(y:vs.Nodup)(b:vs.length<=64)(l:AN)(t:Nat)(q:∀ v∈l,v∈vs)(w:l.length<=1048576):
 aB prog 181 [.pt S 0,.sl t l.length (us l)] d fun r g=>r=wv (mk vs l)/\g=d:=by
 refine zN func181 ntmps181 [.tmp 4] ?_;refine bz ?_;have A:mk vs []=0:=(mk_zero vs []).2 fun _ _=>by simp
 refine bH 10 9 11 19 (l.length) (fun j a h=>a 0=.pt S 0/\a 8=.sl t l.length (us l)/\a 5=wv (mk vs (l.take j))/\h=d) ?_ ?_ ?_
 .simp_all
 .rintro j a s dF ⟨k,m,c,f⟩ n fn J e;subst f;have p:=qG l j dF;have x:=VM vs l j dF b;have z:l.getD j 0∈vs:=q _ (by grind);generalize l.getD j 0=v at *
  (refine B9 e k m c n fn p dF ?_;intro J e)
  refine jh (VD o y b z) ?_;refine vY e n x ?_;simp_all
 .rintro a s ⟨k,m,c,f⟩;subst f;rw[gm]at c;exact po c
def SD{vs:AN}{S pl:Nat}{g:St}(p:lf vs S pl g)(q:S<g.z)(x:pl<g.z)(w:vs.Nodup)(j:vs.length<=64)(l:AN)(t:Nat)(s:∀ v∈l,v∈vs)(k:l.length<=1048576):
 aB prog 141 [.pt S 0,.sl t l.length (us l)] g fun r m=>r=.ag [.sl 0 l.length (us l),wv (mk vs l)]/\m=g:=by
 refine qT (Q:=fun r=>r=.ag [.sl 0 l.length (us l),wv (mk vs l)]) (eS ?_) fun r h=>by subst h;exact⟨⟨.inl rfl,yW _ _⟩,trivial,trivial⟩
 refine zN func141 ntmps141 [.cell 4 144] ?_
 (refine eu ?_;intro J o)
 refine qE (XB (vs:=vs) (S:=S) (pl:=pl) ?_ w j l t s k) sS ?_
 .obtain⟨⟨a,b,c,d,e,f,A⟩,hP⟩:=p;exact⟨⟨a,b,c,d,e,f,by grind [cB]⟩,by grind [cB]⟩
 rintro r y ⟨rfl,n⟩;rw[n];clear n y;refine dB o ?_;exact⟨by simp[z0,dw],aA.new _ _⟩
def JZ{a:St}{m:Nat}{o:cK}(h:a.H m=o):a.set m o=a:=by
 obtain⟨n,H⟩:=a;simp only[St.set,St.mk.injEq,true_and]
 funext y
 by_cases e:y=m
 .subst e;rw[ad rfl];exact h.symm
 .rw[ac e]
def ay(a b:Int):Int×Int:=(min a b,max a b)
abbrev pk(p:Int×Int):AN:=[p.1,p.2]
def Jg(L:List (Int×Int))(p:Int×Int):List (Int×Int):=if p∈L then L else L++[p]
def iJ:AN->List (Int×Int)
 |a::b::l=>ay a b::iJ (b::l)
 |_=>[]
def kF(L:List (Int×Int))(w:AN):List (Int×Int):=(iJ w).foldl Jg L
theorem nF:∀ w:AN,(iJ w).length=w.length-1
 |[]=>rfl
 |[_]=>rfl
 |a::b::l=>by have:=nF (b::l);rw[iJ,List.length_cons,this];simp
theorem HB:∀(w:AN) (k:Nat),k+1<w.length->(iJ w)[k]?=some (ay (w.getD k 0) (w.getD (k+1) 0))
 |a::b::l,0,_=>by simp[iJ]
 |a::b::l,k+1,h=>by rw[iJ,List.getElem?_cons_succ,HB (b::l) k (by simpa using h)];simp
 |[],k,h=>by simp at h
 |[_],k,h=>by simp at h
def Od(a:List (AN×LV))(L:List (Int×Int))(p:Int×Int)(v:LV)(h:a.map (·.1)=L.map pk):(bV a (pk p) v).map (·.1)=(Jg L p).map pk:=by
 have d:pk p∈L.map pk↔p∈L:=by
  rw[aq];constructor
  .rintro⟨q,j,e⟩;simp only[pk,jx,rm]at e;obtain⟨f,b⟩:=e;have:q=p:=io f b;rw[<- this];exact j
  .intro g;exact⟨p,g,rfl⟩
 have c:∀(a:List (AN×LV)),(bV a (pk p) v).map (·.1)=if pk p∈a.map (·.1)then a.map (·.1)else a.map (·.1)++[pk p]:=by
  intro a;induction a with
  |nil=>simp[bV]
  |cons q a l=>
   simp only[bV];by_cases e:pk p=q.1
   .rw[ad (by simpa using e)];simp[e]
   .rw[ac (by simpa using e),ax,l,ax];by_cases b:pk p∈a.map (·.1)
    .rw[ad b,ad (ar _ b)]
    .rw[ac b,ac (by simp only[ah,gy];exact⟨e,b⟩)];rfl
 rw[c,h];unfold Jg;by_cases e:p∈L
 .rw[ad e,ad (d.2 e)]
 .rw[ac e,ac fun k=>e (d.1 k),cr];rfl
def pair(a b:Int)(d:St):aB prog 58 [u a,u b] d fun r c=>r=.ag [u (min a b),u (max a b)]/\c=d:=by
 refine qT (Q:=fun r=>r=.ag [u (min a b),u (max a b)]) ?_ fun r h=>by subst h;exact⟨trivial,trivial,trivial⟩
 refine zN func58 ntmps58 [.cell 4 79] ?_;refine bz ?_;exact⟨⟨by split<;>omega,by split<;>omega⟩,aA.new _ _⟩
def Qh{g:AN}{S p e:Nat}{l:St}{a b c f:LV}{E:AN}{O:List (AN×LV)}{L:List (Int×Int)}(j:l.H S=.box 136 7 [a,b,c,.mp p,.mp e,wv (mk g E),f])(K:l.H p=.map false [.u32] (vR g))
 (D:l.H e=.map true [.u32,.u32] O) (hk:O.map (·.1)=L.map pk) (V:¬p=e) (hn:g.Nodup) (z:g.length<=64) (w:AN) (t:Nat) (hw:∀ v∈w,v∈g) (hwl:w.length<=1000):
 aB prog 140 [.pt S 0,.sl t w.length (us w)] l fun _ m=>∃ d,m=(l.set e (.map true [.u32,.u32] d)).set S (.box 136 7 [a,b,c,.mp p,.mp e,wv (mk g (E++w)),f])/\d.map (·.1)=(kF L w).map pk:=by
 have o:¬S=e:=fun h=>by rw[h,D]at j;cases j
 have T:¬e=S:=fun h=>o h.symm;have n3:¬p=S:=fun h=>by rw[h,j]at K;cases K
 refine zN func140 ntmps140 [] ?_;refine bz ?_;refine qL (fun n C m=>∃ k:Nat,1<=k/\(k=1\/k<=w.length)/\n=w.length-k/\C 0=.pt S 0/\C 1=.sl t w.length (us w)/\C 4=i k/\∃ d,m=l.set e (.map true [.u32,.u32] d)/\d.map (·.1)=(((iJ w).take (k-1)).foldl Jg L).map pk) (w.length-1) ?_ ?_
 .exact⟨1,oO,.inl rfl,rfl,sS,sS,sS,O,(JZ D).symm,by simpa using hk⟩
 rintro n C s ⟨k,o6,u5,rfl,q,r,B,d,rfl,P⟩ JJ I;by_cases dF:k<w.length
 .have U:=qN k oO;have hd:=qG w k dF;have z7:=qG w (k-1) oO;have M:=HB w (k-1) oO;have R:=nF w;have X:IntKind.i64.wrap ((k:Int)-1)=((k-1:Nat):Int):=zW;have Y:k-1<w.length:=oO;rw[show k-1+1=k by omega]at M;have A:∀ v,(bV d (pk (ay (w.getD (k-1) 0) (w.getD k 0))) v).map (·.1)=(((iJ w).take (k+1-1)).foldl Jg L).map pk:=fun v=>by rw[Od _ _ _ _ P,show k+1-1=(k-1)+1 by omega];have Q:k-1<(iJ w).length:=oO;rw[eL Q,lq];rw[cg Q,ap]at M;rw[M];rfl
  generalize w.getD (k-1) 0=x at *;generalize w.getD k 0=y at *;refine ef q r B dF ?_
  (refine zS [] [S] [0,2,4,6,8,10,12,14,16,18,20,22,24,28,26,31] ?_;intro J F;simp[q,r,B,dF,j,D,o,T,X,Y,hd,z7])
  refine fI (pair x y _) ?_;refine⟨fun h=>by first|(cases h;done)|simp,?_⟩
  (apply bM;simp[o,T,D];refine zJ F ?_)
  refine cy B U ?_;refine I _ _ _ ?_ ⟨k+1,oO,.inr oO,rfl,aa q,aa r,sS,_,set_set _ _ _ _,A _⟩;omega
 .have W:(iJ w).take (k-1)=iJ w:=dp (by rw[nF];omega);rw[W]at P;have Z:lf g S p (l.set e (.map true [.u32,.u32] d)):=⟨⟨a,b,c,.mp e,wv (mk g E),f,by rw[bP,ac o];exact j⟩,by rw[bP,ac V];exact K⟩;have N:=Au g E w z;refine ef q r B dF ?_
  (refine zS [] [S] [0,2,4,6,8,10,12,14,16,18,21] ?_;intro J F;simp[q,r,j,o])
  refine fI (XB Z hn z w t hw oO) ?_;refine⟨fun h=>by first|(cases h;done)|simp,?_⟩
  (apply bM;simp[j,o,N];refine zJ F ?_)
  refine bz ?_;exact⟨trivial,d,rfl,P⟩
end Aw
namespace Aw
open Go Go.RowKit
def Vr(x k idx:Nat)(w:World)(M9:((x:Int)==0)=false)
 (key:IntKind.u64.wrap (bits BinOp.and IntKind.u64 (x:Int) (IntKind.u64.wrap (-(x:Int)))*285870213051353865) / 288230376151711744=(idx:Int))
 (hi:idx<64) (hk:k<64) (hcell:w.cell? ⟨0,idx,none⟩=some (.int .u8 k)):
 Calls prog 144 #[.int .u64 x] w fun e w'=>e=.returned (.int .i64 k)/\w'=w:=by
 go_enter func144,ntmps144
 go_wp2_with (simp only[key])
 go_ret
 simp_all
def UP(w:World):
 Calls prog 144 #[.int .u64 0] w fun e w'=>e=.returned (.int .i64 64)/\w'=w:=by
 go_enter func144,ntmps144
 go_wp2
 go_ret
 simp_all
def XH(x a:Nat)(e:x<18446744073709551616)(b:x≠0)(c:x &&& (18446744073709551616-x)=a):
 IntKind.u64.wrap (bits BinOp.and IntKind.u64 (x:Int) (IntKind.u64.wrap (-(x:Int)))*285870213051353865) / 288230376151711744=((a*285870213051353865 % 18446744073709551616 / 288230376151711744:Nat):Int):=by
 have d:IntKind.u64.wrap (-(x:Int))=((18446744073709551616-x:Nat):Int):=by rw[IntKind.wrap_u64];omega
 grind [bits_and_u64_nat,IntKind.wrap_u64]
def QK{w:World}{g:G}(h:iA w g)(a k:Nat)(e:a<64)(b:Lib.deBruijn64tab.getD a 0=k):w.cell? ⟨0,a,none⟩=some (.int .u8 k):=by
 have f:Lib.deBruijn64tab.length=64:=rfl;have c:Lib.deBruijn64tab[a]?=some k:=by rw[cp,cg oO,Option.getD_some]at b;rw[cg oO,b]
 have d:=h (0,Lib.deBruijn64tab.map fun(n:Nat)=>.int .u8 n) (bf.2 rfl) a (.int .u8 k)
 grind
def PW(x:Nat)(f:x<18446744073709551616){w:World}{g:G}(h:iA w g):Calls prog 144 #[.int .u64 x] w fun e k=>e=.returned (.int .i64 (Lib.ctz 64 x))/\k=w:=by
 by_cases b:x=0
 .subst b;exact UP w
 .obtain⟨j,d⟩:=Lib.lowest_bit 64 x b f;obtain⟨c,a⟩:=Lib.deBruijn64_at _ d;exact Vr x _ _ w (by grind) (XH x _ f b j) c d (QK h _ _ c a)
def Mz:Enters prog 144:=enters_of func144 (by kernel_rfl) rfl
def Tz(x:Nat)(f:x<18446744073709551616)(c:St):aB prog 144 [.atom (.int .u64 x)] c fun r a=>r=i (Lib.ctz 64 x)/\a=c:=by
 refine⟨Mz,fun w g j d b=>?_⟩;simp only[aC,Rep]at b;obtain⟨v,h,rfl,rfl,rfl⟩:=b;refine(PW x f d.aside.glob).mono ?_;rintro e k ⟨rfl,rfl⟩
 grind [Rep,Ext.refl]
end Aw
namespace Aw
open Go Go.RowKit Pl
def mH(g:Gr):List LV:=g.V.map fun v=>wv (mk g.V (nbr g.E v))
@[simp] theorem YL(g:Gr):(mH g).length=g.V.length:=by simp[mH]
def Kl(g:Gr)(k:Nat)(a:k<g.V.length):(mH g).drop k=wv (mk g.V (nbr g.E (g.V.getD k 0)))::(mH g).drop (k+1):=by unfold mH;rw[ir (by simpa using a),oh,bA _ _ a]
def ez(g:Gr)(A:AN):AN:=A.flatMap (nbr g.E)
def OD{g:Gr}{A B:AN}(h:∀ v,v∈A↔v∈B):mk g.V (ez g A)=mk g.V (ez g B):=mk_congr fun v _=>by unfold ez;rw[gh,gh];exact⟨fun⟨x,b,a⟩=>⟨x,(h x).1 b,a⟩,fun⟨x,b,a⟩=>⟨x,(h x).2 b,a⟩⟩
def Uo{g:Gr}{S P:Nat}{l:St}{a b d e f h:LV}(Q:l.H S=.box 136 7 [a,b,.ms P 0 g.V.length,d,e,f,h])(W:l.H P=.box 133 1 (mH g))(hn:g.V.Nodup)(c:g.V.length<=64)(A:AN)(hA:∀ v∈A,v∈g.V):
 aB prog 182 [.pt S 0,wv (mk g.V A)] l fun r m=>r=wv (mk g.V (ez g A))/\m=l:=by
 refine zN func182 ntmps182 [.tmp 4] ?_;refine bz ?_;have h0:mk g.V []=0:=(mk_zero g.V []).2 fun _ _=>by simp
 refine qL (fun n x m=>∃ D R:AN,n=(g.V.filter fun v=>decide (v∈R)).length/\(∀ v,v∈A↔v∈D\/v∈R)/\x 0=.pt S 0/\x 1=wv (mk g.V R)/\x 5=wv (mk g.V (ez g D))/\m=l) (g.V.filter fun v=>decide (v∈A)).length ?_ ?_
 .exact⟨[],A,rfl,fun v=>by simp,sS,sS,by simp[ez,h0],rfl⟩
 rintro n x s ⟨D,R,rfl,j,T,o,U,rfl⟩ JJ y;have z:∀ v∈R,v∈g.V:=fun v M=>hA v ((j v).2 (.inr M));by_cases k:fst' g.V R<g.V.length
 .have c7:=FL k;have X:((mk g.V R:Int) != 0)=true:=by simpa using c7
  have B:=Fy c k;have dF:=nN g.V R c;have F:=Kl g _ k;obtain⟨t,N⟩:=Tj k;have C:=MI c hn k;have I:(0:Int)<=(fst' g.V R:Int):=oO;have K:(fst' g.V R:Int)<g.V.length:=oO;have p:=fun l=>Tz (mk g.V R) dF l;rw[B]at p;generalize g.V.getD (fst' g.V R) 0=v at *;have L:=Au g.V (ez g D) (nbr g.E v) c;refine cy o X ?_
  (refine zS [] [S,P] [0,2,4,6,8,10,12,14,16,18,20] ?_;intro J hJ;simp[T,o,U,Q,W])
  refine fI (p _) ?_;refine⟨fun h=>by first|(cases h;done)|simp,?_⟩
  (apply bM;simp[Q,W,F,I,K,k,L];refine zJ hJ ?_)
  refine cy o C ?_;refine y _ _ _ ?_ ⟨D++[v],R.filter fun w=>decide (w≠v),rfl,fun w=>?_,aa T,sS,by simp[ez],rfl⟩
  .have J8:(g.V.filter fun w=>decide (w∈R.filter fun w=>decide (w≠v)))=(g.V.filter fun w=>decide (w∈R)).filter fun w=>decide (w≠v):=by rw[List.filter_filter];refine List.filter_congr fun w _=>?_;simp only[cx,gg,Bool.decide_and];rw[Bool.and_comm]
   rw[J8];refine List.length_filter_lt_length_iff_exists.2 ⟨v,?_,sS⟩;rw[cx];exact⟨N,by simpa using t⟩
  .rw[j,an,bf,cx,gg];constructor
   .rintro(h|h)
    .exact .inl (.inl h)
    .by_cases e:w=v
     .exact .inl (.inr e)
     .exact .inr ⟨h,e⟩
   .rintro((h|h)|h)
    .exact .inl h
    .rw[h];exact .inr t
    .exact .inr h.1
 .have Z:∀ v∈g.V,v∉R:=fun v M O=>k (XQ.2 ⟨v,M,O⟩);have Y:mk g.V R=0:=(mk_zero g.V R).2 Z;have X:((mk g.V R:Int) != 0)=false:=by rw[Y];rfl
  have q:mk g.V (ez g D)=mk g.V (ez g A):=OD fun v=>by rw[j];exact⟨.inl,fun h=>h.elim id fun h=>absurd h (Z v (z v h))⟩
  rw[Y]at o;exact wu o U q
structure dm where
 inner:AN
 ends:AN
def dT(a A:AN):AN:=a.filter fun v=>decide (v∈A)
def off(A B:AN):AN:=A.filter fun v=>!decide (v∈B)
def on'(A B:AN):AN:=A.filter fun v=>decide (v∈B)
def GD(a A:AN):mk a (dT a A)=mk a A:=mk_congr fun v b=>by grind [dT]
def yG(g:Gr)(a:AN):Nat->AN->Option dm
 |0,_=>none
 |n+1,inner=>
  if off (off (dT g.V (ez g inner)) a) inner=[]then some ⟨inner,on' (dT g.V (ez g inner)) a⟩
  else yG g a n (dT g.V (inner++off (dT g.V (ez g inner)) a))
def sR(g:Gr)(a:AN):Nat->AN->Option (List dm)
 |_,[]=>some []
 |0,_::_=>none
 |n+1,v::R=>(yG g a (g.V.length+1) [v]).bind fun b=>(sR g a n (off (v::R) b.inner)).map (b::·)
def pG(g:Gr)(L:List (Int×Int))(c:AN)(d:List Ed):List dm:=
 (d.filter fun x=>decide (ay x.a x.b∉L)&&decide (x.a∈c)&&decide (x.b∈c)).map fun x=>⟨[],[x.a,x.b]⟩
def Na(g:Gr)(L:List (Int×Int))(a:AN):Option (List dm):=(sR g a (g.V.length+1) (off g.V a)).map fun l=>pG g L a g.E++l
def mY(a:AN)(l:List dm):List LV:=l.flatMap fun b=>[wv (mk a b.inner),wv (mk a b.ends)]
@[simp] theorem HX(a:AN):∀ l:List dm,(mY a l).length=l.length*2
  |[]=>rfl
  |b::l=>by have:=HX a l;simp only[mY,ec,cf,List.length_cons,List.length_nil]at this ⊢;omega
def Dr(a:AN)(l:List dm)(b:dm):mY a l++[wv (mk a b.inner),wv (mk a b.ends)]=mY a (l++[b]):=by simp[mY]
def QB{a:List (AN×LV)}{L:List (Int×Int)}(h:a.map (·.1)=L.map pk)(p:Int×Int):(p∈L->∃ v,bQ a (pk p)=some v)/\(p∉L->bQ a (pk p)=none):=by
 have d:pk p∈a.map (·.1)↔p∈L:=by
  rw[h,aq];constructor
  .grind
  .grind
 have b:∀ a:List (AN×LV),(pk p∈a.map (·.1)->∃ v,bQ a (pk p)=some v)/\(pk p∉a.map (·.1)->bQ a (pk p)=none):=by
  intro a;induction a with
  |nil=>simp[bQ]
  |cons q a c=>
   grind [bQ]
 grind
def Ni(g:Gr)(L:List (Int×Int))(d:AN)(c:List Ed)(j:Nat)(e:j<c.length):
 pG g L d (c.take (j+1))=pG g L d (c.take j)++if(ay (c.getD j ed0).a (c.getD j ed0).b∉L/\(c.getD j ed0).a∈d)/\(c.getD j ed0).b∈d then [⟨[],[(c.getD j ed0).a,(c.getD j ed0).b]⟩]else []:=by
 grind [pG,List.take_succ_eq_append_getElem]
def Mc{b A B:AN}(c:∀ v∈A,v∈b):mk b (off A B)=0↔off A B=[]:=by
 rw[mk_zero];constructor
 .intro h;exact ov.2 fun v a=>h v (c v (cx.1 a).1) a
 grind
theorem Cz:∀ {a R:AN} {v:Int},a.Nodup->(v::R).Sublist a->a.getD (fst' a (v::R)) 0=v/\fst' a (v::R)<a.length
 |[],R,v,_,h=>by cases h
 |w::a,R,v,hn,h=>by
  have c:=(cb.1 hn);cases h with
  |cons _ h=>
   have b:w∉v::R:=fun b=>c.1 (h.subset b);obtain⟨d,f⟩:=Cz c.2 h;have e:fst' (w::a) (v::R)=fst' a (v::R)+1:=by unfold fst';rw[List.findIdx_cons];simp only[ke,cond_eq_ite];rw[ac b]
   rw[e];exact⟨by simpa using d,by simpa using f⟩
  |cons_cons _ h=>
   have e:fst' (w::a) (w::R)=0:=by unfold fst';rw[List.findIdx_cons];simp
   rw[e];exact⟨sS,sS⟩
def Xe(c:AN)(l:List dm):(mY c l).map z0=mY c l:=by
 induction l with
 |nil=>rfl
 |cons b l a=>simp only[mY,ec,cr]at a ⊢;rw[a];rfl
def Er(t e s n:Nat)(b:St)(a:St):Prop:=t≠0/\b.z<=t/\t<a.z/\a.H t=.own e s n
structure ShR(g:Gr)(L:List (Int×Int))(on:AN)(S nl pl ll:Nat)(f:LV)(le:List (AN×LV))(st:St):Prop where
 box:st.H S=.box 136 7 [.sl 0 g.V.length (us g.V),.sl 0 g.E.length (eds g.E),.ms nl 0 g.V.length,.mp pl,.mp ll,wv (mk g.V on),f]
 near:st.H nl=.box 133 1 (mH g)
 plc:st.H pl=.map false [.u32] (vR g.V)
 lin:st.H ll=.map true [.u32,.u32] le
 key:le.map (·.1)=L.map pk
 lt:S<st.z/\nl<st.z/\pl<st.z/\ll<st.z
def ShR.keep{g:Gr}{L:List (Int×Int)}{o:AN}{S n p m:Nat}{f:LV}{l:List (AN×LV)}{q j:St}(h:ShR g L o S n p m f l q)(k:aA q j):ShR g L o S n p m f l j:=by obtain⟨a,b,c,d,e,r,s,t,v⟩:=h;have w:=k.z;exact⟨(k.H _ r).trans a,(k.H _ s).trans b,(k.H _ t).trans c,(k.H _ v).trans d,e,oO,oO,oO,oO⟩
def ShR.b{g:Gr}{L:List (Int×Int)}{j:AN}{S e a d:Nat}{f:LV}{c:List (AN×LV)}{st:St}(h:ShR g L j S e a d f c st):lf g.V S a st:=⟨⟨_,_,_,_,_,_,h.box⟩,h.plc⟩
def Is{g:Gr}{L:List (Int×Int)}{m:AN}{S l n k:Nat}{f:LV}{j:List (AN×LV)}{b:St}(h:ShR g L m S l n k f j b)(e:g.V.Nodup)(a:g.V.length<=64)(A:AN)(d:∀ v∈A,v∈g.V):
 aB prog 182 [.pt S 0,wv (mk g.V A)] b fun r c=>r=wv (mk g.V (ez g A))/\c=b:=Uo h.box h.near e a A d
structure GP(g:Gr):Prop extends GoodE g where
 h64:g.V.length<=64
 he:g.E.length<=200
def Ri{g:Gr}(hg:GP g){L:List (Int×Int)}{k:AN}(hon:∀ v∈k,v∈g.V){S nl pl ll:Nat}{f:LV}{le:List (AN×LV)}{st:St}(hS:ShR g L k S nl pl ll f le st){B:List dm}(hB:Na g L k=some B):
 aB prog 142 [.pt S 0] st fun r D=>r=.sl 0 B.length (mY g.V B)/\D=st:=by
 refine qT (Q:=fun r=>r=.sl 0 B.length (mY g.V B)) (eS ?_) fun r h=>by
  subst h;refine⟨.inl rfl,?_⟩;clear hB;induction B with
  |nil=>trivial
  |cons b B ih=>exact⟨trivial,trivial,ih⟩
 have hn:g.V.Nodup:=hg.toGoodE.toGood.nodup;have p:=hg.h64;have hel:=aJ g.E;unfold Na at hB;obtain⟨l2,hl2,rfl⟩:=jp.1 hB;obtain⟨L9,hN,hP,hL,L6,q1,q2,q3,q4⟩:=id hS;refine zN func142 ntmps142 [.tmp 2] ?_;refine iF fun P4=>?_;refine dd L9 ?_;refine uW 3 138 2 sS ?_;have e0:¬st.z=0:=oO;have he200:=hg.he;refine bH 18 17 19 60 (g.E.length) (fun j C st2=>C 0=.pt S 0/\C 16=.sl 0 g.E.length (eds g.E)/\aA st st2/\∃ t,C 3=.sl t (pG g L k (g.E.take j)).length (mY g.V (pG g L k (g.E.take j)))/\Er t 138 2 (pG g L k (g.E.take j)).length st st2) ?_ ?_ ?_
 .exact⟨sS,sS,aA.new _ _,st.z,by simp[pG,mY],e0,au _,sS,by simp[pG]⟩
 .rintro j C s dF ⟨q,N,I,t,H,Y,t1,t2,U⟩ fi fn JO hJO;have hd:=aS g.E j dF;have u9:j*3<g.E.length*3:=oO;have A:=Ni g L k g.E j dF;have O0:=hg.ends _ (show g.E.getD j ed0∈g.E by rw[fA _ _ dF];exact dq _);generalize g.E.getD j ed0=ee at *;generalize hF:pG g L k (g.E.take j)=F at *;obtain⟨d,a,b⟩:=ee;simp only at A O0;have hS1:=(hS.keep I).keep (aA.new s (.box 36 3 [u d,u a,u b]));obtain⟨hSb1,hN1,hP1,hL1,-,p1,p2,p3,p4⟩:=id hS1;have V7:=fun v X=>VD (v:=v) hS1.b hn p X;have hor:=Au g.V [a] [b] p;simp only[List.cons_append,List.nil_append]at hor;obtain⟨hgs,hgn⟩:=QB L6 (ay a b);have hnS:¬S=s.z:=by have:=I.z;omega
  have v8:¬ll=s.z:=by have:=I.z;omega
  have o:=(hS.keep I).box;have hL0:=(hS.keep I).lin;have hdf:=rU g.V [a,b] k p;have hwl:(F:List dm).length<=g.E.length:=by
   have h1:=gw (fun x=>decide (ay x.a x.b∉L)&&decide (x.a∈k)&&decide (x.b∈k)) (g.E.take j);have h2:F.length=((g.E.take j).filter (fun x=>decide (ay x.a x.b∉L)&&decide (x.a∈k)&&decide (x.b∈k))).length:=by rw[<- hF];unfold pG;rw[dh]
   rw[dn]at h1;omega
  refine kk q N fi fn hd hel u9 dF ?_
  (refine zS [] [s.z] [0,2,4,8,10,12,6,14,16,18] ?_;intro J K;simp[q])
  refine fI (V7 a O0.1) ?_;refine⟨fun h=>by first|(cases h;done)|exact fun _ _=>rfl|simp,?_⟩
  (apply bM;simp[])
  refine fI (V7 b O0.2) ?_;refine⟨fun h=>by first|(cases h;done)|exact fun _ _=>rfl|simp,?_⟩
  (apply bM;simp[hor];refine zJ K ?_)
  (repeat (apply qS))
  (refine zS [] [S,s.z,ll] [0,2,4,6,8,10,12,14,16,18,20,22,24,26,28] ?_;intro J K;simp[q,o,hnS])
  refine fI (pair a b _) ?_;refine⟨fun h=>by first|(cases h;done)|exact fun _ _=>rfl|simp,?_⟩;have c1:¬t=s.z:=oO;have c2:¬t=s.z+1:=oO;have c3:¬s.z=t:=oO;have P:=Dr g.V F ⟨[],[a,b]⟩;have hz0:mk g.V []=0:=(mk_zero g.V []).2 fun _ _=>by simp
  simp only[hz0]at P;by_cases hp:ay a b∈L
  .obtain⟨v,X⟩:=hgs hp;have X:bQ le [min a b,max a b]=some v:=X;rw[ac (aa hp),eP]at A
   (apply bM;simp[hL0,v8,X];refine zJ K ?_)
   refine bz ?_;exact hJO _ _ (aa fi) (aa fn) ⟨aa q,aa N,I.trans (aA.new _ _),t,by rw[A];simp[H],Y,t1,by simp;omega,by rw[A];(repeat (first|rw[bh bm]|rw[bj oO]|rw[bi bo]|rw[bk oO]));exact U⟩
  .have X:bQ le [min a b,max a b]=none:=hgn hp;by_cases T:a∈k/\b∈k
   .rw[ad ⟨⟨hp,T.1⟩,T.2⟩]at A;have hz:mk g.V (off [a,b] k)=0:=(mk_zero _ _).2 fun v _ h=>by
     simp only[off,cx,ah,ml,nq,ta,ox]at h;rcases h.1 with e|e
     .exact h.2 (by rw[e];exact T.1)
     .exact h.2 (by rw[e];exact T.2)
    have hdz:iD .u64 (mk g.V [a,b]) (mk g.V k)=0:=by rw[hdf];exact congrArg Int.ofNat hz
    (apply bM;simp[hL0,v8,X];refine zJ K ?_)
    (repeat' (first|apply qS|(apply qC;simp[o,q,hnS,hdz,H,U,Y,c1,c2,c3])|(refine zE ?_;intro J K;simp[o,q,hnS,hdz,H,U,Y,c1,c2,c3];(repeat refine ca ?_);refine zJ K ?_)))
    exact hJO _ _ (aa fi) (aa fn) ⟨aa q,aa N,((I.trans (aA.new _ _)).trans (aA.new _ _)).set t1 _ |>.trans (aA.new _ _),s.z+2,by rw[A,<- P];simp,oO,oO,sS,by rw[A];simp⟩
   .rw[ac (by intro h;exact T ⟨h.1.2,h.2⟩),eP]at A;have hz:mk g.V (off [a,b] k)≠0:=fun h=>by rw[mk_zero]at h;have ha:=h a O0.1;have hb:=h b O0.2;simp[off]at ha hb;exact T ⟨ha,hb⟩
    have hdz:(iD .u64 (mk g.V [a,b]) (mk g.V k)==0)=false:=by rw[hdf];simpa[off]using hz
    (apply bM;simp[hL0,v8,X];refine zJ K ?_)
    refine ef o q hnS hdz ?_;exact hJO _ _ (aa fi) (aa fn) ⟨aa q,aa N,I.trans (aA.new _ _),t,by rw[A];simp[H],Y,t1,by simp;omega,by rw[A];(repeat (first|rw[bh bm]|rw[bj oO]|rw[bi bo]|rw[bk oO]));exact U⟩
 .rintro C s ⟨q,N,I,t,H,Y,t1,t2,U⟩;rw[gm]at H U;have hE1:(pG g L k g.E).length<=200:=by have h1:=gw (fun x=>decide (ay x.a x.b∉L)&&decide (x.a∈k)&&decide (x.b∈k)) g.E;unfold pG;rw[dh];omega
  generalize pG g L k g.E=W at *;have M:=hS.keep I;have o:=M.box;have hdf:=rU g.V g.V k p;have hsv:=fun D (h:lf g.V S pl D)=>XB h hn p g.V 0 (fun v h=>h) oO;refine bz ?_
  (refine zS [] [S] [0,2,4,6,8,10,14,16,18,20,12,22,24] ?_;intro J K;simp[q,o])
  refine fI (hsv _ M.b) ?_;refine⟨fun h=>by first|(cases h;done)|exact fun _ _=>rfl|simp,?_⟩
  (apply bM;simp[o,hdf];refine zJ K ?_)
  (repeat (first|apply qS|apply qB))
  refine qL (fun n C D=>∃ R l l2',sR g k n R=some l2'/\l2=l++l2'/\l.length+n<=g.V.length+1/\R.Sublist g.V/\C 0=.pt S 0/\C 9=wv (mk g.V R)/\aA st D/\∃ t,C 3=.sl t (W++l).length (mY g.V (W++l))/\Er t 138 2 (W++l).length st D) (g.V.length+1) ?_ ?_
  .exact⟨off g.V k,[],l2,hl2,rfl,sS,jc,aa q,by simp[off],I,t,aa H,Y,t1,t2,by simpa using U⟩
  .clear q N I H Y t1 t2 U M o C s;rintro n C s ⟨R,l,l2',hr,rfl,hln,J8,q,f9,I,t,H,Y,t1,t2,U⟩ JJ hJJ;have M:=hS.keep I;obtain⟨o,hN0,-,-,-,p1,p2,p3,p4⟩:=id M;have hRv:∀ v∈R,v∈g.V:=fun v X=>J8.subset X;cases R with
   |nil=>
    have hz:mk g.V []=0:=(mk_zero g.V []).2 fun _ _=>by simp
    rw[hz]at f9;have hl2':l2'=[]:=by cases n<;>simpa[sR]using hr.symm
    subst hl2';rw[eP];refine cy f9 H ?_;exact⟨by simp[z0,oL,Xe],I⟩
   |cons v R=>
    obtain⟨hfv,hflt⟩:=Cz hn J8;have c7:=FL hflt;have hb:((mk g.V (v::R):Int) != 0)=true:=by simpa using c7
    have X5:=XG p hn hflt;rw[hfv,Int.zero_sub]at X5;cases n with
    |zero=>simp[sR]at hr
    |succ n=>
     rw[sR]at hr;obtain⟨b,hgb,hr⟩:=mf.1 hr;obtain⟨l3,hr3,rfl⟩:=jp.1 hr;have hvv:∀ w∈[v],w∈g.V:=fun w hw=>by rw[bf]at hw;rw[hw];exact hRv v sS
     (refine pq q f9 hb X5 ?_;intro J K)
     refine jh (Is M hn p [v] hvv) ?_
     (apply cL;simp[];refine zJ K ?_)
     (repeat (first|apply qS|apply qB))
     refine qL (fun m C D=>∃ c,yG g k m c=some b/\(∀ w∈c,w∈g.V)/\C 0=.pt S 0/\C 9=wv (mk g.V (v::R))/\C 3=.sl t (W++l).length (mY g.V (W++l))/\C 10=wv (mk g.V c)/\C 11=wv (mk g.V (ez g c))/\D=s) (g.V.length+1) ?_ ?_
     .exact⟨[v],hgb,hvv,aa q,aa f9,aa H,sS,sS,rfl⟩
     .clear q f9 H C;rintro m C s3 ⟨c,O,hiv,q,f9,H,f10,Z,hs3⟩ JI hJI;subst hs3;cases m with
      |zero=>simp[yG]at O
      |succ m=>
       have hRR:∀ w∈dT g.V (ez g c),w∈g.V:=fun w hw=>(cx.1 hw).1;rw[<- GD]at Z;rw[yG]at O;generalize dT g.V (ez g c)=y at *;have z7:iD .u64 (mk g.V y) (mk g.V k)=mk g.V (off y k):=rU g.V y k p;have N3:iD .u64 (mk g.V (off y k)) (mk g.V c)=mk g.V (off (off y k) c):=rU g.V _ c p;by_cases T:off (off y k) c=[]
       .rw[ad T]at O;have hbe:b=⟨c,on' y k⟩:=by simpa using O.symm
        subst hbe;have hz:mk g.V (off (off y k) c)=0:=by rw[T];exact(mk_zero g.V []).2 fun _ _=>by simp
        have V5:((mk g.V (off (off y k) c):Int) != 0)=false:=by rw[hz];rfl
        have hd3:wJ .u64 (mk g.V y) (mk g.V k)=mk g.V (on' y k):=RP g.V y k p;have hd4:iD .u64 (mk g.V (v::R)) (mk g.V c)=mk g.V (off (v::R) c):=rU g.V _ c p;have c1:¬t=s3.z:=oO;have c2:¬s3.z=t:=oO;have P:=Dr g.V (W++l) ⟨c,on' y k⟩;have v7:(W++l).length<=300:=by rw[cf];have:=hg.h64;omega
        rw[dz]at P;have hlen:(W++l).length+1=(W++(l++[(⟨c,on' y k⟩:dm)])).length:=by simp;omega
        generalize hEl:W++l=El at *
        (repeat' (first|apply qS|refine qX (zZ ?_)|(apply qC;simp[q,f9,f10,Z,H,o,z7,N3,V5,hd3,hd4,U,Y,c1,c2])|(refine zE ?_;intro J K;simp[q,f9,f10,Z,H,o,z7,N3,V5,hd3,hd4,U,Y,c1,c2];(repeat refine ca ?_);refine zJ K ?_)))
        exact hJJ _ _ _ (qv n) ⟨off (v::R) c,l++[⟨c,on' y k⟩],l3,hr3,sS,by simp;omega,jc.trans J8,aa q,sS,((I.trans (aA.new _ _)).set t1 _).trans (aA.new _ _),s3.z+1,by rw[<- P,<- hlen];simp,oO,oO,sS,by rw[<- hlen];simp⟩
       .rw[ac T]at O;have hz:mk g.V (off (off y k) c)≠0:=fun h=>T ((Mc fun w hw=>hRR w (cx.1 hw).1).1 h);have V5:((mk g.V (off (off y k) c):Int) != 0)=true:=by simpa using hz
        have hor:mq .u64 (mk g.V c) (mk g.V (off y k))=mk g.V (dT g.V (c++off y k)):=by rw[Au _ _ _ p,GD]
        have hnv:∀ w∈dT g.V (c++off y k),w∈g.V:=fun w hw=>(cx.1 hw).1;generalize dT g.V (c++off y k)=IN at *
        (refine wq q f10 Z o z7 N3 V5 hor ?_;intro J K)
        refine jh (Is M hn p IN hnv) ?_
        (apply cL;simp[];refine zJ K ?_)
        exact hJI _ _ _ (qv m) ⟨IN,O,hnv,aa q,aa f9,aa H,sS,sS,rfl⟩
def gY(a:AN)(F:List AN):List LV:=F.flatMap fun r=>[.sl 0 r.length (us r),wv (mk a r)]
@[simp] theorem pV(a:AN):∀ F:List AN,(gY a F).length=F.length*2
  |[]=>rfl
  |r::F=>by have:=pV a F;simp only[gY,ec,cf,List.length_cons,List.length_nil]at this ⊢;omega
theorem rZ(a:AN):∀(F:List AN) (k:Nat),k<F.length->(gY a F).drop (k*2)=.sl 0 (F.getD k []).length (us (F.getD k []))::wv (mk a (F.getD k []))::gY a (F.drop (k+1))
 |r::F,0,_=>by simp[gY]
 |r::F,k+1,h=>by have:=rZ a F k (by simpa using h);rw[show(k+1)*2=k*2+2 by omega];simp only[gY,ec,List.cons_append,List.nil_append,uu]at this ⊢;rw[this];simp
 |[],k,h=>by simp at h
theorem DG(a:AN):∀(B:List dm) (k:Nat),k<B.length->(mY a B).drop (k*2)=wv (mk a (B.getD k ⟨[],[]⟩).inner)::wv (mk a (B.getD k ⟨[],[]⟩).ends)::mY a (B.drop (k+1))
 |r::F,0,_=>by simp[mY]
 |r::F,k+1,h=>by have:=DG a F k (by simpa using h);rw[show(k+1)*2=k*2+2 by omega];simp only[mY,ec,List.cons_append,List.nil_append,uu]at this ⊢;rw[this];simp
 |[],k,h=>by simp at h
def nH(b:dm)(p:Int×Int)(r:AN×Nat):Int×Int:=if off b.ends r.1=[]then(if p.2=0 then(r.2:Int)else p.1,p.2+1)else p
def cA(b:dm)(F:List (AN×Nat)):Int×Int:=F.foldl (nH b) (-1,0)
def bG(F:List AN):List dm->dm×Int->dm×Int
 |[],L0=>L0
 |b::l,L0=>if(cA b F.zipIdx).2<=1 then(b,(cA b F.zipIdx).1)else bG F l (if L0.2<0 then(b,(cA b F.zipIdx).1)else L0)
def Ax(b:dm)(F:List AN)(k:Nat)(a:k<F.length):cA b (F.zipIdx.take (k+1))=nH b (cA b (F.zipIdx.take k)) (F.getD k [],k):=by
 unfold cA;have c:k<F.zipIdx.length:=by simpa using a
 rw[eL c,lq,List.getElem_zipIdx,cp,cg a];simp
def Ai(b:dm):∀(F:List (AN×Nat)),0<=(cA b F).2/\(cA b F).2<=F.length:=by
 have a:∀(F:List (AN×Nat)) (p:Int×Int),0<=p.2->0<=(F.foldl (nH b) p).2/\(F.foldl (nH b) p).2<=p.2+F.length:=by
  intro F;induction F with
  |nil=>intro p h;simpa using h
  |cons r F d=>
   intro p h;have c:0<=(nH b p r).2/\(nH b p r).2<=p.2+1:=by unfold nH;by_cases e:off b.ends r.1=[];(· rw[ad e];simp only;omega);(· rw[ac e];omega)
   have:=d (nH b p r) c.1;rw[List.foldl_cons,List.length_cons];omega
 intro F;have:=a F (-1,0) sS;unfold cA;simp only at this;omega
structure ShA(g:Gr)(L:List (Int×Int))(on:AN)(F:List AN)(S nl pl ll fl:Nat)(le:List (AN×LV))(st:St):Prop where
 r:ShR g L on S nl pl ll (.ms fl 0 F.length) le st
 fac:st.H fl=.box 144 2 (gY g.V F)
 flt:fl<st.z
 sub:∀ r∈F,∀ v∈r,v∈g.V
 onv:∀ v∈on,v∈g.V
 few:F.length<=300
theorem ShA.keep{g:Gr}{L:List (Int×Int)}{f:AN}{F:List AN}{S e j d b:Nat}{c:List (AN×LV)}{l a:St}(h:ShA g L f F S e j d b c l)(k:aA l a):ShA g L f F S e j d b c a:=
 ⟨h.r.keep k,(k.H _ h.flt).trans h.fac,cz h.flt k.z,h.sub,h.onv,h.few⟩
abbrev Uh(a:AN)(b:dm):LV:=.ag [wv (mk a b.inner),wv (mk a b.ends)]
def VF{g:Gr}(hg:GP g){L:List (Int×Int)}{on:AN}{F:List AN}{S nl pl ll fl:Nat}{le:List (AN×LV)}{d:St}(hS:ShA g L on F S nl pl ll fl le d){B:List dm}(hB:Na g L on=some B)(hBe:∀ b∈B,∀ v∈b.ends,v∈g.V)(hBl:B.length<=300):
 aB prog 101 [.pt S 0] d fun r st'=>r=.tu [Uh g.V (bG F B (⟨[],[]⟩,-1)).1,i (bG F B (⟨[],[]⟩,-1)).2]/\st'=d:=by
 refine qT (Q:=fun r=>r=.tu [Uh g.V (bG F B (⟨[],[]⟩,-1)).1,i (bG F B (⟨[],[]⟩,-1)).2]) ?_ fun r h=>by subst h;exact⟨⟨trivial,trivial,trivial⟩,trivial,trivial⟩
 have h64:=hg.h64;have hz:mk g.V []=0:=(mk_zero g.V []).2 fun _ _=>by simp
 have hq:=hS.r.lt;refine zN func101 ntmps101 [.cell 2 138,.tmp 3] ?_
 (refine eu ?_;intro J hJ)
 refine jh (Ri hg hS.onv (hS.r.keep ((aA.new _ _).trans (aA.new _ _))) hB) ?_;refine dB hJ ?_;have e0:¬d.z=d.z+1:=oO;have R6:=HX g.V B;have X7:=pV g.V F;have hfew:=hS.few;generalize hCC:bG F B (⟨[],[]⟩,-1)=CC;refine bH 15 14 16 49 (B.length) (fun j c w=>c 0=.pt S 0/\c 2=.pt d.z 0/\c 4=.pt (d.z+1) 0/\c 13=.sl 0 B.length (mY g.V B)/\aA d w/\d.z+1<w.z/\w.H d.z=.box 138 2 [wv 0,wv 0]/\∃ O e,c 5=i e/\w.H (d.z+1)=.box 138 2 [wv (mk g.V O.inner),wv (mk g.V O.ends)]/\bG F (B.drop j) (O,e)=CC) ?_ ?_ ?_
 .exact⟨sS,sS,sS,sS,(aA.new _ _).trans (aA.new _ _),sS,aa e0,⟨[],[]⟩,-1,sS,aa hz,hCC⟩
 .rintro jo c s dF ⟨A,p,l,a,hk,hsn,hR,O,e,q,R,y⟩ I fn JO hJO;have hd:=DG g.V B jo dF;have u5:jo*2<B.length*2:=oO;rw[ir dF,bG]at y;have hbm:B.getD jo ⟨[],[]⟩=B[jo]:=by rw[cp,cg dF];rfl
  have hbe:=hBe _ (dq dF);rw[hbm]at hd;generalize B[jo]=b at *;have X:=hS.keep hk;obtain⟨L9,-,-,-,-,p1,p2,p3,p4⟩:=id X.r;have hF:=X.fac;have hFl:=X.flt;have x1:¬S=s.z:=oO;have x2:¬fl=s.z:=oO;have x3:¬d.z=s.z:=oO;have x4:¬d.z+1=s.z:=oO;refine Gx A a I fn hd u5 R6 dF L9 x1 ?_;refine bH 24 23 25 40 (F.length) (fun j c w=>c 0=.pt S 0/\c 2=.pt d.z 0/\c 4=.pt (d.z+1) 0/\c 13=.sl 0 B.length (mY g.V B)/\c 14=i B.length/\c 15=i jo/\c 5=i e/\c 7=.pt s.z 0/\c 22=.ms fl 0 F.length/\c 8=i (cA b (F.zipIdx.take j)).1/\c 9=i (cA b (F.zipIdx.take j)).2/\aA (s.new (.box 138 2 [wv (mk g.V b.inner),wv (mk g.V b.ends)])) w) ?_ ?_ ?_
  .exact⟨aa A,aa p,aa l,aa a,aa fn,aa I,aa q,sS,sS,by simp[cA],by simp[cA],aA.refl _⟩
  .clear A p l a q I fn c;rintro k c P M ⟨A,p,l,a,n,o,q,N,f,C,E,D⟩ I fn JI U;have hn3:=D.z;simp only[aH]at hn3;have Y1:P.H s.z=.box 138 2 [wv (mk g.V b.inner),wv (mk g.V b.ends)]:=by rw[D.H _ sS];simp
   have T:P.H fl=.box 144 2 (gY g.V F):=by rw[D.H _ (by simp;omega),cB,ac x2];exact hF
   have Z:=rZ g.V F k M;have x:=Ax b F k M;have v7:=Ai b (F.zipIdx.take k);rw[dn,List.length_zipIdx]at v7;generalize F.getD k []=rr at *;generalize hpp:cA b (F.zipIdx.take k)=pp at *;obtain⟨p1',t⟩:=pp;simp only at v7 C E;have K:k*2<F.length*2:=oO;have hdf:iD .u64 (mk g.V b.ends) (mk g.V rr)=mk g.V (off b.ends rr):=rU g.V b.ends rr h64;have y1:¬s.z=P.z:=oO;have y2:¬fl=P.z:=oO;have hw:=wrap_i64 (t+1) oO oO;unfold nH at x;by_cases m:off b.ends rr=[]
   .have hb:((mk g.V (off b.ends rr):Int) != 0)=false:=by rw[m,hz];rfl
    rw[ad m]at x;simp only at x;by_cases h0:t=0
    .have Y:(t==0)=true:=by simpa using h0
     rw[ad h0]at x;refine ZP N f C E I fn Z T M K X7 Y1 y1 y2 hdf hb Y hw ?_;exact U _ _ (aa I) (aa fn) ⟨aa A,aa p,aa l,aa a,aa n,aa o,aa q,aa N,aa f,by rw[x];simp,by rw[x];simp,D.trans (aA.new _ _)⟩
    .have Y:(t==0)=false:=by simpa using h0
     rw[ac h0]at x;refine ZP N f C E I fn Z T M K X7 Y1 y1 y2 hdf hb Y hw ?_;exact U _ _ (aa I) (aa fn) ⟨aa A,aa p,aa l,aa a,aa n,aa o,aa q,aa N,aa f,by rw[x];simp[C],by rw[x];simp,D.trans (aA.new _ _)⟩
   .have hb:((mk g.V (off b.ends rr):Int) != 0)=true:=by have:mk g.V (off b.ends rr)≠0:=fun h=>m ((Mc hbe).1 h);simpa using this
    rw[ac m]at x;refine Pk N f C E I fn Z T M K X7 Y1 y1 y2 hdf hb ?_;exact U _ _ (aa I) (aa fn) ⟨aa A,aa p,aa l,aa a,aa n,aa o,aa q,aa N,aa f,by rw[x];simp[C],by rw[x];simp[E],D.trans (aA.new _ _)⟩
  .clear A p l a q I fn c;rintro c P ⟨A,p,l,a,n,o,q,N,f,C,E,D⟩;rw[dp sS]at C E;have v7:=Ai b F.zipIdx;generalize hpp:cA b F.zipIdx=pp at *;obtain⟨p1',t⟩:=pp;simp only at v7 C E y;have hn3:=D.z;simp only[aH]at hn3;have Y1:P.H s.z=.box 138 2 [wv (mk g.V b.inner),wv (mk g.V b.ends)]:=by rw[D.H _ sS];simp
   have W:P.H d.z=.box 138 2 [wv 0,wv 0]:=by rw[D.H _ (by simp;omega),cB,ac x3];exact hR
   have hB2:P.H (d.z+1)=.box 138 2 [wv (mk g.V O.inner),wv (mk g.V O.ends)]:=by rw[D.H _ (by simp;omega),cB,ac x4];exact R
   have R7:=(hk.trans (aA.new _ _)).trans D;have z1:¬s.z=d.z:=oO;have z2:¬d.z+1=d.z:=oO;by_cases K5:t<=1
   .rw[ad K5]at y;subst y;refine kk p N C E K5 Y1 W z1 ?_;exact R7.set (au _) _
   .rw[ac K5]at y;by_cases V0:e<0
    .rw[ad V0]at y;refine lz l q N C E K5 V0 Y1 hB2 ?_;exact hJO _ _ (aa o) (aa n) ⟨aa A,aa p,aa l,aa a,R7.set oO _,by simp;omega,by(repeat (first|rw[bh bm]|rw[bj oO]|rw[bi bo]|rw[bk oO]));exact W,b,p1',sS,sS,y⟩
    .rw[ac V0]at y;refine mu l q N C E K5 V0 ?_;exact hJO _ _ (aa o) (aa n) ⟨aa A,aa p,aa l,aa a,R7,oO,W,O,e,aa q,hB2,y⟩
 .rintro c s ⟨A,p,l,a,hk,hsn,hR,O,e,q,R,y⟩;rw[List.drop_length,bG]at y;subst y;have z1:¬d.z+1=d.z:=oO;refine kj p l q R hR z1 ?_;exact hk.set (au _) _
theorem yX{c:Type}(f:c->Int):∀ {a b:List c},(a.map f).Pairwise (· < ·)->(b.map f).Pairwise (· < ·)->(∀ x,x∈a↔x∈b)->a=b
 |[],[],_,_,_=>rfl
 |[],y::b,_,_,h=>by have:=(h y).2 sS;grind
 |x::a,[],_,_,h=>by have:=(h x).1 sS;grind
 |x::a,y::b,ha,hb,h=>by
  simp only[ax,jq,aq,forall_exists_index,and_imp,forall_apply_eq_imp_iff₂]at ha hb;have d:x=y:=by
   rcases ah.1 ((h x).1 sS)with h1|h1
   .omega
   .grind
  subst d
  congr 1
  refine yX f ha.2 hb.2 fun z=>?_
  grind
section
variable {α:Type} (f:α->Int)
end
def xZ{α:Type}{P:List α->Prop}(h0:P [])(h1:∀ l x,P l->P (l++[x]))(l:List α):P l:=by
 rw[<- qh l];generalize l.reverse=r;induction r with
 |nil=>grind
 |cons x r ih=>grind
def fo(x y:Ed):Bool:=decide (x.a=y.a/\x.b=y.b\/x.a=y.b/\x.b=y.a)
theorem rW{x y:Ed}:fo x y=true↔(x.a=y.a/\x.b=y.b\/x.a=y.b/\x.b=y.a):=by simp[fo]
theorem uU{x y:Ed}(h:fo x y=true):fo y x=true:=by
 grind [rW]
theorem Im(x:Ed):fo x x=true:=by grind [rW]
theorem xI{x y z:Ed}(h:fo x y=true)(k:fo y z=true):fo x z=true:=by
 rw[rW]at h k ⊢;rcases h with⟨a,b⟩|⟨a,b⟩<;>rcases k with⟨c,d⟩|⟨c,d⟩
 .omega
 .omega
 .omega
 omega
def sE(l:List Ed):List Ed:=l.foldl (fun a x=>if a.any (fo x)then a else a++[x]) []
theorem mG(l:List Ed)(x:Ed):sE (l++[x])=if(sE l).any (fo x)then sE l else sE l++[x]:=by
 grind [sE]
def fM(l:List Ed):∀ x∈sE l,x∈l:=by
 induction l using xZ with
 |h0=>simp[sE]
 |h1 l x a=>
  grind [mG]
def Kk(l:List Ed):∀ x∈l,∃ y∈sE l,fo x y=true:=by
 induction l using xZ with
 |h0=>simp
 |h1 l x b=>
  intro y a;rw[mG];rcases an.1 a with h|h
  .grind
  .rw[bf]at h;subst h
   split
   .grind
   .exact⟨y,dv _ sS,Im y⟩
theorem nX(l:List Ed):(sE l).length<=l.length:=by
 induction l using xZ with
 |h0=>simp[sE]
 |h1 l x a=>
  grind [mG]
def Gt(l:List Ed):(sE l).Pairwise fun x y=>fo x y=false:=by
 induction l using xZ with
 |h0=>simp[sE]
 |h1 l x a=>
  grind [mG,uU]
abbrev hf(x:Ed):List (Int×Int):=[(x.a,x.b),(x.b,x.a)]
def fp(l:List Ed):List (Int×Int):=l.flatMap hf
def Qk(l:List Ed)(x:Ed):fp (l++[x])=fp l++[(x.a,x.b)]++[(x.b,x.a)]:=by simp[fp]
theorem Fk(l:List Ed):(fp l).length=2*l.length:=by
 induction l with
 |nil=>rfl
 |cons x l a=>grind [fp]
def VJ{l:List Ed}{p:Int×Int}:p∈fp l↔∃ x∈l,(x.a=p.1/\x.b=p.2)\/(x.b=p.1/\x.a=p.2):=by
 grind [fp]
def cq(v:Int)(H:List (Int×Int)):AN:=(H.filter fun p=>decide (p.1=v)).map (·.2)
def IJ(v:Int)(H:List (Int×Int))(p:Int×Int):cq v (H++[p])=cq v H++if p.1=v then [p.2]else []:=by
 grind [cq]
theorem AD(v:Int)(H:List (Int×Int)):(cq v H).length<=H.length:=by
 grind [cq]
def Vk{v w:Int}{H:List (Int×Int)}:w∈cq v H↔(v,w)∈H:=by unfold cq;simp_all
def Ox(x:Int):AN->AN
 |[]=>[x]
 |y::l=>if x<=y then x::y::l else y::Ox x l
def ry:AN->AN
 |[]=>[]
 |x::l=>Ox x (ry l)
theorem DN(x:Int)(l:AN):(Ox x l).Perm (x::l):=by
 induction l with
 |nil=>exact .refl _
 |cons y l a=>
  grind [Ox]
def pT(l:AN):(ry l).Perm l:=by
 induction l with
 |nil=>exact .refl _
 |cons x l a=>exact(DN x _).trans (a.cons x)
def IF(x:Int){l:AN}(h:l.Pairwise (·<=·)):(Ox x l).Pairwise (·<=·):=by
 induction l with
 |nil=>exact uk _ _
 |cons y l a=>
  grind [List.pairwise_cons,Ox,DN]
def JW(l:AN):(ry l).Pairwise (·<=·):=by
 induction l with
 |nil=>exact .nil
 |cons x l a=>exact IF x a
theorem sP:∀ {a b:AN},a.Pairwise (·<=·)->b.Pairwise (·<=·)->a.Perm b->a=b
 |[],b,_,_,h=>by simp_all
 |x::a,[],_,_,h=>absurd h.symm.nil_eq sS
 |x::a,y::b,ha,hb,h=>by
  obtain⟨g,e⟩:=jq.1 ha;obtain⟨j,f⟩:=jq.1 hb;have d:x=y:=by
   have c:x∈y::b:=h.mem_iff.1 sS;have k:y∈x::a:=h.mem_iff.2 sS;rcases ah.1 c with c|c
   .omega
   .grind
  subst d;rw[sP e f ((List.perm_cons x).1 h)]
def Xu{c l:AN}(h:c.Perm l)(a:c.Pairwise (·<=·)):c=ry l:=sP a (JW l) (h.trans (pT l).symm)
def cQ(a:List Ed)(v:Int):AN:=ry (cq v (fp (sE a)))
def xf(c:List Ed)(v w:Int):Prop:=∃ x∈c,(x.a=v/\x.b=w)\/(x.a=w/\x.b=v)
def PC{b:List Ed}{v w:Int}:w∈cQ b v↔xf b v w:=by
 unfold cQ;rw[(pT _).mem_iff,Vk,VJ];constructor
 .rintro⟨x,a,h⟩;refine⟨x,fM _ _ a,?_⟩;omega
 .rintro⟨x,a,h⟩;obtain⟨y,j,c⟩:=Kk _ _ a;refine⟨y,j,?_⟩;rw[rW]at c;rcases h with⟨f,g⟩|⟨f,g⟩<;>rcases c with⟨d,e⟩|⟨d,e⟩
  .omega
  .omega
  .omega
  omega
instance (es:List Ed) (v w:Int):Decidable (xf es v w):=by unfold xf;exact inferInstance
def NB(a:List Ed)(v:Int):(cQ a v).length<=2*a.length:=by
 have b:=(pT (cq v (fp (sE a)))).length_eq
 grind [AD,Fk,nX,cQ]
abbrev fX:=List (Int×Int)
def kD(A:fX)(v:Int):Option Int:=match A with
 |[]=>none
 |p::A=>if v=p.1 then some p.2 else kD A v
theorem BB{v:Int}:∀ {A:fX},v∉A.map (·.1)->kD A v=none
 |[],_=>rfl
 |p::A,h=>by simp only[ax,ah,gy]at h;simp only[kD];rw[ac h.1,BB h.2]
theorem AL{v:Int}:∀ {A:fX},v∈A.map (·.1)->∃ w,kD A v=some w
 |[],h=>by grind
 |p::A,h=>by
  simp only[kD];by_cases e:v=p.1
  .simp_all
  .rw[ac e];simp only[ax,ah]at h;exact AL (h.resolve_left e)
structure BF where
 A:fX
 Q:AN
 hit:Bool
def gO(a:Int->Bool)(b v:Int)(S:BF)(u:Int):BF:=
 if S.hit=true then S else if u∈S.A.map (·.1)then S else if u=b then⟨S.A++[(u,v)],S.Q,true⟩else⟨S.A++[(u,v)],if a u=true then S.Q++[u]else S.Q,false⟩
def dS(a:Int->Bool)(b v:Int)(S:BF)(l:AN):BF:=l.foldl (gO a b v) S
def Dn(a:Int->Bool)(b v:Int){S:BF}(h:S.hit=true)(l:AN):dS a b v S l=S:=by
 induction l with
 |nil=>rfl
 |cons u l c=>grind [dS,gO]
def Jf(a:Int->Bool)(b v:Int)(S:BF)(l:AN)(u:Int):dS a b v S (l++[u])=gO a b v (dS a b v S l) u:=by grind [dS]
def Dw(a:Int->Bool)(b v:Int)(S:BF)(l:AN):(dS a b v S l).Q.length<=S.Q.length+l.length/\(dS a b v S l).A.length<=S.A.length+l.length:=by
 induction l generalizing S with
 |nil=>simp[dS]
 |cons u l c=>
  have:=c (gO a b v S u);have d:(gO a b v S u).Q.length<=S.Q.length+1/\(gO a b v S u).A.length<=S.A.length+1:=by
   unfold gO
   split
   .omega
   .grind
  grind [dS]
def lD(near:Int->AN)(a:Int->Bool)(b:Int):Nat->fX->AN->Option (Option fX)
 |_,_,[]=>some none
 |0,_,_::_=>none
 |n+1,A,v::Q=>if(dS a b v ⟨A,Q,false⟩ (near v)).hit=true then some (some (dS a b v ⟨A,Q,false⟩ (near v)).A)else lD near a b n (dS a b v ⟨A,Q,false⟩ (near v)).A (dS a b v ⟨A,Q,false⟩ (near v)).Q
def iM(A:fX)(SZ:Int):Nat->Int->Option (AN)
 |0,v=>if v=SZ then some []else none
 |n+1,v=>if v=SZ then some []else(iM A SZ n ((kD A v).getD 0)).map fun l=>(kD A v).getD 0::l
theorem Ds{A:fX}{SZ:Int}:∀ {n:Nat} {v:Int} {l:AN},iM A SZ n v=some l->l.length<=n
 |0,v,l,h=>by
  grind [iM]
 |n+1,v,l,h=>by
  simp only[iM]at h
  split at h
  .grind
  .rw[jp]at h;obtain⟨b,a,rfl⟩:=h;have:=Ds a
   grind
def uT(c:AN)(near:Int->AN)(b:Int->Bool)(SZ a:Int)(n:Nat):Option AN:=
 if SZ∉c\/a∉c then some []else if SZ=a then some [SZ]else match lD near b a n [(SZ,SZ)] [SZ] with
  |some none=>some []
  |some (some A)=>(iM A SZ n a).map fun l=>(a::l).reverse
  |none=>none
def kE(x:Ed):AN:=[if x.b<x.a then x.b else x.a,if x.a<x.b then x.b else x.a]
theorem Jo(x y:Ed):kE x=kE y↔fo x y=true:=by
 grind [rW,kE]
def bnd(l:List Ed):List AN:=(sE l).map fun y=>(l.filter fun x=>fo y x).map (·.id)
def VI(l:List Ed):(bnd l).length=(sE l).length:=by simp[bnd]
def MN{l:List Ed}{x:Ed}(h:(sE l).any (fo x)=false):sE (l++[x])=sE l++[x]/\bnd (l++[x])=bnd l++[[x.id]]:=by
 have c:∀ y∈sE l,fo x y=false:=fun y b=>by
  grind
 have a:sE (l++[x])=sE l++[x]:=by rw[mG,h];rfl
 refine⟨a,?_⟩;unfold bnd;rw[a,cr]
 congr 1
 .grind [List.map_congr_left,uU]
 .have:l.filter (fun z=>fo x z)=[]:=by rw[ul];intro z f e;obtain⟨y,b,d⟩:=Kk l z f;have:=c y b;rw[xI e d]at this;cases this
  grind [Im]
def Vl{l:List Ed}{x:Ed}(h:(sE l).any (fo x)=true):sE (l++[x])=sE l/\∃ a y c e r f,sE l=a++y::c/\fo x y=true/\bnd l=e++r::f/\e.length=a.length/\bnd (l++[x])=e++(r++[x.id])::f/\r.length<=l.length:=by
 have g:sE (l++[x])=sE l:=by rw[mG,h];rfl
 refine⟨g,?_⟩;obtain⟨y,k,j⟩:=oY.1 h;obtain⟨a,c,d⟩:=ij k;have b:=Gt l;rw[d,nc,jq]at b;obtain⟨_,⟨o,_⟩,p3⟩:=b;have p:∀ z,(z∈a\/z∈c)->fo z x=false:=by
  intro z n;cases m:fo z x with
  |false=>rfl
  |true=>
   grind [xI,uU]
 refine⟨a,y,c,_,_,_,d,j,by unfold bnd;rw[d,cr,ax],sS,?_,?_⟩
 .unfold bnd;rw[g,d,cr,ax]
  grind [List.map_congr_left,uU]
 grind
structure AtM(l:List Ed)(es:List (AN×LV)):Prop where
 old:∀ x L1 y L2,sE l=L1++y::L2->fo x y=true->bQ es (kE x)=some (i L1.length)
 new:∀ x,(sE l).any (fo x)=false->bQ es (kE x)=none
def AtM.nil:AtM [] []:=⟨fun x a y b h _=>by grind [sE],fun x _=>rfl⟩
def AtM.keep{l:List Ed}{a:List (AN×LV)}(h:AtM l a){x:Ed}(b:sE (l++[x])=sE l):AtM (l++[x]) a:=
 ⟨by rw[b];exact h.old,by rw[b];exact h.new⟩
theorem AtM.add{l:List Ed}{d:List (AN×LV)}(h:AtM l d){x:Ed}(n:(sE l).any (fo x)=false):AtM (l++[x]) (bV d (kE x) (i (sE l).length)):=by
 have e:=(MN n).1;constructor
 .intro z b y j c m;rw[e]at c;rw[jD];rcases si j with rfl|⟨a,g,rfl⟩
  .grind [List.append_inj',Jo]
  .rw[sj,show b++y::(a++[g])=(b++y::a)++[g] by simp]at c;obtain⟨k,o⟩:=List.append_inj' c rfl;rw[ac,h.old z b y a k m]
   grind [xI,Jo]
 .intro z f;rw[e,List.any_append,Bool.or_eq_false_iff]at f;rw[jD,ac,h.new z f.1]
  grind [Jo]
abbrev TR:=Nat×AN
def HT(p:TR):LV:=.sl p.1 p.2.length (us p.2)
def bK(R:List TR):List LV:=R.map HT
def lP(R:List TR):(bK R).length=R.length:=by simp[bK]
structure F7(E:List Ed)(j8:St)(L2 L4 M te q:Nat)(vs:AN)(mes:List (AN×LV))(R:List TR)(s:St):Prop where
 h2:s.H L2=.box 25 2 [.nil,.nil]
 h4:s.H L4=.box 25 2 [.sl 0 vs.length (us vs),.sl te (sE E).length (eds (sE E))]
 ht:s.H te=.own 36 3 (sE E).length
 hM:s.H M=.map true [.u32,.u32] mes
 hq:s.H q=.box 22 1 (bK R)
 bn:R.map (·.2)=bnd E
 at':AtM E mes
 nd:(R.map (·.1)).Nodup
 tk:∀ p∈R,j8.z<=p.1/\p.1<s.z/\s.H p.1=.own 34 1 p.2.length
 b:j8.z<=L2/\j8.z<=L4/\j8.z<=M/\j8.z<=te/\j8.z<=q/\L2<s.z/\L4<s.z/\M<s.z/\te<s.z/\q<s.z
 kp:aA j8 s
def B7(g:Gr)(e:St)(c d M k:Nat)(a:af)(s:St):Prop:=
 a 2=.pt c 0/\a 4=.pt d 0/\a 6=.mp M/\a 18=.sl 0 g.E.length (eds g.E)/\a 19=i g.E.length/\a 20=i k/\
 ∃ f q b R,a 5=.ms q 0 R.length/\F7 (g.E.take k) e c d M f q g.V b R s
def bT{c:St}{a b:Nat}{x y:cK}(d:c.H a=x)(f:c.H b=y)(h:x≠y):¬a=b:=fun e=>h (by rw[<- d,e,f])
def zF(l:List Ed):dw (eds l)=eds l:=by
 induction l with
 |nil=>rfl
 |cons e l a=>simp only[eds,ec,List.cons_append,List.nil_append,dw,z0]at a ⊢;rw[a]
def OO(R:List TR):dw (bK R)=R.map fun p=>.sl 0 p.2.length (us p.2):=by rw[oL,bK,dy];refine ii fun p _=>?_;simp[HT,z0]
def RI(g:Gr)(v:St)(hv:g.V.length<=1048576)(he:g.E.length<=1000)(d:0<v.z):
 aB prog 59 [.ag (bv g)] v fun r I=>r=.tu [.ag [.sl 0 g.V.length (us g.V),.sl 0 (sE g.E).length (eds (sE g.E))],.sl 0 (bnd g.E).length ((bnd g.E).map fun l=>.sl 0 l.length (us l))]/\aA v I:=by
 refine eS ?_;have hel:=aJ g.E;refine zN func59 ntmps59 [.cell 2 25,.tmp 3] ?_
 (refine eu ?_;intro J P)
 refine qE (SS g.V 0 _ hv) (by simp[]) ?_;rintro r I ⟨rfl,o6⟩;have K5:=o6.z;simp only[aH]at K5;have Y8:I.H v.z=.box 25 2 (bv g):=by rw[o6.H _ (by simp<;>omega)];simp
 have hC1:I.H (v.z+1)=.box 25 2 [.nil,.nil]:=by rw[o6.H _ sS];simp
 have o7:aA v I:=((aA.new _ _).trans (aA.new _ _)).trans o6;generalize hL:I=c at *;have e1:¬v.z=c.z:=oO;have e2:¬v.z=c.z+1:=oO;refine sW P e1 e2 Y8 ?_;refine HJ c.z 36 3 (e:=25) (s:=2) [.sl 0 g.V.length (us g.V)] [] sS ?_;refine BN 5 22 1 sS ?_;refine qL (fun n fr s=>∃ k:Nat,k<=g.E.length/\n=g.E.length-k/\B7 g v (v.z+1) c.z (c.z+1) k fr s) g.E.length ?_ ?_
 .refine⟨0,oO,oO,sS,sS,sS,sS,sS,sS,c.z+2,c.z+3,[],[],sS,?_⟩;have h5:¬v.z=c.z+2:=oO;have h1:¬v.z+1=c.z:=oO;refine⟨la h1 h5 e1 e2 hC1,by simp[sE]<;>omega,by simp[sE],sS,by simp[bK],by simp[bnd,sE],AtM.nil,sS,sS,⟨oO,oO,oO,oO,oO,by simp<;>omega,by simp<;>omega,sS,sS,sS⟩,?_⟩;exact(((((o7.trans (aA.new _ _)).trans (aA.new _ _)).trans (aA.new _ _)).set oO _).trans (aA.new _ _))
 rintro n fr s ⟨k,hk,rfl,f2,f4,f6,L,D,F,o,q,mes,R,f5,hB⟩ JJ hJJ;obtain⟨U,Q,K,S,w,B,V0,hnd,C4,⟨b1,b2,b3,b4,b5,b6,b7,b8,b9,b10⟩,hkps⟩:=hB;have N:¬q=c.z:=bT w Q sS;by_cases dF:k<g.E.length;rotate_left
 .clear hJJ;have J9:k=g.E.length:=oO;rw[J9,gm]at Q K B;have R6:(bnd g.E).length=R.length:=by rw[<- B,dh]
  have n1:¬v.z+1=q:=bT U w sS;have n2:¬c.z=q:=fun h=>N h.symm;have n3:¬c.z=v.z+1:=oO;have hsl:=nX g.E;refine nY 5 f5 w (by simp[lP]) ?_;have htk2:(bK R).take (R.length*1)=bK R:=dp (by rw[lP];omega);rw[htk2];refine Gx f2 f4 D F dF Q U n1 n2 n3 ?_;refine⟨?_,(hkps.set oO _).set oO _⟩;rw[R6,<- B];simp only[z0,dw,HY,zF,OO,dy];rfl
 have hd:=aS g.E k dF;have hw:=qN k oO;have u9:k*3<g.E.length*3:=oO;have X:g.E.take (k+1)=g.E.take k++[g.E.getD k ed0]:=by rw[cp,cg dF];exact eL dF
 have hEl:(g.E.take k).length<=1000:=by rw[dn];omega
 generalize g.E.getD k ed0=x at *;generalize hE:g.E.take k=E at *;obtain⟨id,a,b⟩:=x;simp only at hd;cases C:(sE E).any (fo ⟨id,a,b⟩)
 .have hm:=V0.new ⟨id,a,b⟩ C;simp only[kE]at hm;have T6:(List.map (fun _:Ed=>3) (sE E)).sum=(sE E).length*3:=by
   induction sE E with
   |nil=>rfl
   |cons x l ih=>simp only[ax,List.sum_cons,List.length_cons,ih];omega
  have hsl:=nX E;have te0:¬o=0:=oO;have r8:=lP R;have hRl:R.length=(sE E).length:=by rw[<- VI,<- B,dh]
  have htR:List.take R.length (bK R)=bK R:=dp oO;have hdl:List.drop R.length (bK R++[LV.nil])=[.nil]:=by rw[<- r8];exact pf
  have htl:List.take R.length (bK R++[LV.nil])=bK R:=by rw[<- r8];exact rf
  have M:List.drop (R.length+1) (bK R++[LV.nil])=[]:=List.drop_eq_nil_of_le (aa r8);have hRn:((R.length:Int)).toNat=R.length:=oO;have c0:¬c.z=s.z:=oO;have Z:¬s.z=c.z:=oO;have c1:¬c.z=s.z+1:=oO;have c1':¬s.z+1=c.z:=oO;have c2:¬c.z=s.z+2:=oO;have c2':¬s.z+2=c.z:=oO;have c3:¬c.z=s.z+3:=oO;have c3':¬s.z+3=c.z:=oO;have c4:¬c.z=s.z+4:=oO;have c4':¬s.z+4=c.z:=oO;have e0:¬o=s.z:=oO;have e0':¬s.z=o:=oO;have e1:¬o=s.z+1:=oO;have e1':¬s.z+1=o:=oO;have e2:¬o=s.z+2:=oO;have e2':¬s.z+2=o:=oO;have e3:¬o=s.z+3:=oO;have e3':¬s.z+3=o:=oO;have e4:¬o=s.z+4:=oO;have e4':¬s.z+4=o:=oO;have d0:¬q=s.z:=oO;have d0':¬s.z=q:=oO;have d1:¬q=s.z+1:=oO;have d1':¬s.z+1=q:=oO;have d2:¬q=s.z+2:=oO;have d2':¬s.z+2=q:=oO;have d3:¬q=s.z+3:=oO;have d3':¬s.z+3=q:=oO;have d4:¬q=s.z+4:=oO;have d4':¬s.z+4=q:=oO;have c9:¬c.z+1=s.z:=oO;have c9':¬s.z=c.z+1:=oO;have n1:¬o=c.z:=bT K Q sS;have n2:¬o=c.z+1:=bT K S sS;have n3:¬q=c.z+1:=bT w S sS;have n4:¬q=o:=bT w K sS;have n1':¬c.z=o:=fun h=>n1 h.symm;have n2':¬c.z+1=o:=fun h=>n2 h.symm;have n3':¬c.z+1=q:=fun h=>n3 h.symm;have n4':¬o=q:=fun h=>n4 h.symm;have n5':¬c.z=q:=fun h=>N h.symm;have r2:¬s.z=s.z+1+1:=oO;have r3:¬s.z=s.z+1+1+1:=oO;have r4:¬s.z=s.z+1+1+1+1:=oO;have r5:¬s.z=s.z+1+1+1+1+1:=oO;have r6:¬s.z=s.z+1+1+1+1+1+1:=oO;have r7:¬s.z=s.z+1+1+1+1+1+1+1:=oO;have p1:R.length<R.length+1:=oO
  (repeat' (first|apply qS|apply qB|refine qK (zZ ?_)|(apply qC;simp[r8,htR,T6,te0,c0,Z,c1,c1',c2,c2',c3,c3',c4,c4',e0,e0',e1,e1',e2,e2',e3,e3',e4,e4',d0,d0',d1,d1',d2,d2',d3,d3',d4,d4',c9,c9',n1,n2,n3,n4,n1',n2',n3',n4',n5',K,w,N,f4,f5,f6,L,D,F,dF,hd,hel,u9,hw,Q,S,hm])|(refine zE ?_;intro J P;simp[r8,htR,T6,te0,c0,Z,c1,c1',c2,c2',c3,c3',c4,c4',e0,e0',e1,e1',e2,e2',e3,e3',e4,e4',d0,d0',d1,d1',d2,d2',d3,d3',d4,d4',c9,c9',n1,n2,n3,n4,n1',n2',n3',n4',n5',K,w,N,f4,f5,f6,L,D,F,dF,hd,hel,u9,hw,Q,S,hm];(repeat refine ca ?_);(refine zJ P ?_;clear P J))))
  (refine zS [] [s.z,s.z+1+1+1+1+1] [0,2,4,6,8,10,12,14,16,18,20,23] ?_;intro J P;simp[r2,r3,r4,r5,r6,r7,c0,Z,c1,c1',c2,c2',c3,c3',c4,c4',e0,e0',e1,e1',e2,e2',e3,e3',e4,e4',d0,d0',d1,d1',d2,d2',d3,d3',d4,d4',c9,c9',n1,n2,n3,n4,n1',n2',n3',n4',n5',r8,htR,hdl,htl,M,p1];(repeat refine ca ?_);(refine zJ P ?_;clear P J))
  refine cy F hw ?_;have l1:¬v.z+1=o:=bT U K sS;have l2:¬v.z+1=q:=bT U w sS;obtain⟨hs,hb⟩:=MN C;refine hJJ (g.E.length-(k+1)) _ _ oO ⟨k+1,oO,rfl,aa f2,aa f4,aa f6,aa L,aa D,sS,s.z+3,s.z+5,bV mes (kE ⟨id,a,b⟩) (i (sE E).length),R++[(s.z+7,[id])],sS,?_⟩;rw[X];refine⟨?_,?_,?_,?_,?_,?_,V0.add C,?_,?_,?_,?_⟩
  ·(repeat (first|rw[bh bm]|rw[bj oO]|rw[bi bo]|rw[bk oO]));exact U
  ·(repeat (first|rw[bh bm]|rw[bj oO]|rw[bi bo]|rw[bk oO]));rw[hs];simp[eds]
  ·(repeat (first|rw[bh bm]|rw[bj oO]|rw[bi bo]|rw[bk oO]));rw[hs];simp
  ·(repeat (first|rw[bh bm]|rw[bj oO]|rw[bi bo]|rw[bk oO]));rw[hRl];rfl
  ·(repeat (first|rw[bh bm]|rw[bj oO]|rw[bi bo]|rw[bk oO]));simp[bK,HT]
  .rw[cr,B,hb];rfl
  .rw[cr,bw];refine⟨hnd,sS,fun x Y y hy=>?_⟩;obtain⟨p,d,rfl⟩:=aq.1 Y;simp at hy;have:=(C4 p d).2.1;omega
  .intro p d;rcases an.1 d with d|d
   .obtain⟨h1,h2,O⟩:=C4 p d;have t1:¬p.1=o:=bT O K sS;have t2:¬p.1=q:=bT O w sS;have t3:¬p.1=c.z:=bT O Q sS;have t4:¬p.1=c.z+1:=bT O S sS;refine⟨h1,by simp<;>omega,?_⟩
    (repeat (first|rw[bh bm]|rw[bj oO]|rw[bi bo]|rw[bk oO]));exact O
   .rw[bf]at d;subst d;refine⟨by simp<;>omega,sS,?_⟩
    (repeat (first|rw[bh bm]|rw[bj oO]|rw[bi bo]|rw[bk oO]));rfl
  .simp only[bN,aH];omega
  .refine⟨by have:=hkps.z;simp only[bN,aH];omega,fun l hl=>?_⟩
   (repeat (first|rw[bh bm]|rw[bj oO]|rw[bi bo]|rw[bk oO]));exact hkps.H l hl
 obtain⟨hs,L1,y,L2,B1,r,B2,hL,hyb,hB0,hBl,V7,hrl⟩:=Vl C;have hm:=V0.old ⟨id,a,b⟩ L1 y L2 hL hyb;simp only[kE]at hm;rw[hB0]at B;obtain⟨f,R',rfl,hR1,hR'⟩:=yd.1 B;obtain⟨p,t,rfl,hpr,hR2⟩:=yp.1 hR';obtain⟨j,m⟩:=p;simp only at hpr;subst hpr;obtain⟨hb1,V5,A⟩:=C4 (j,m) sS;simp only at hb1 V5 A;have hR1l:f.length=L1.length:=by rw[<- hBl,<- hR1,dh]
 have r8:(bK (f++(j,m)::t)).length=f.length+(t.length+1):=by rw[lP];simp
 have hRl:(f++(j,m)::t).length=f.length+(t.length+1):=sS;have N5:bK (f++(j,m)::t)=bK f++.sl j m.length (us m)::bK t:=by simp[bK,HT]
 have T:(bK f).length=f.length:=lP f;have hdl:List.drop f.length (bK f++LV.sl j m.length (us m)::bK t)=.sl j m.length (us m)::bK t:=by rw[<- T];exact pf
 have htl:List.take f.length (bK f++LV.sl j m.length (us m)::bK t)=bK f:=by rw[<- T];exact rf
 have M:List.drop (f.length+1) (bK f++LV.sl j m.length (us m)::bK t)=bK t:=by rw[<- T,show bK f++LV.sl j m.length (us m)::bK t=(bK f++[LV.sl j m.length (us m)])++bK t by simp];rw[show(bK f).length+1=(bK f++[LV.sl j m.length (us m)]).length by simp];exact pf
 rw[hRl]at f5;rw[N5]at w;rw[<- hR1l]at hm;have t00:¬j=0:=oO;have m1:¬c.z=s.z:=oO;have m1':¬s.z=c.z:=oO;have m2:¬c.z+1=s.z:=oO;have m2':¬s.z=c.z+1:=oO;have m5:¬j=s.z:=oO;have m6:¬j=s.z+1:=oO;have m6b:¬j=s.z+2:=oO;have m5':¬s.z=j:=oO;have m6':¬s.z+1=j:=oO;have m6b':¬s.z+2=j:=oO;have m7:¬q=s.z:=oO;have m8:¬q=s.z+1:=oO;have m9:¬q=s.z+2:=oO;have m9b:¬q=s.z+3:=oO;have n4:¬q=j:=bT w A sS;have r2:¬s.z=s.z+1+1:=oO;have r3:¬s.z=s.z+1+1+1:=oO;have p1:f.length<f.length+(t.length+1):=oO;have p2:(f.length:Int)<(f.length:Int)+((t.length:Int)+1):=oO;have hr1:m.length<=1000:=oO;refine C8 m1 m1' m2 m2' f4 f5 f6 L D F dF hd hel u9 hw S hm ?_
 (refine zS [] [s.z,q] [0,2,4,6,8,10,12,14,16,18,20,23] ?_;intro J P;simp[m1,m1',m2,m2',m5,m6,m6b,m5',m6',m6b',m7,m8,m9,m9b,n4,r2,r3,f5,w,A,T,hdl,htl,M,p1,p2,t00];(repeat refine ca ?_);(refine zJ P ?_;clear P J))
 refine cy F hw ?_;have l2:¬v.z+1=q:=bT U w sS;have l3:¬v.z+1=j:=bT U A sS;have l4:¬c.z=q:=fun h=>N h.symm;have l5:¬c.z=j:=bT Q A sS;have l6:¬c.z+1=q:=bT S w sS;have l7:¬c.z+1=j:=bT S A sS;have l8:¬o=q:=bT K w sS;have l9:¬o=j:=bT K A sS;refine hJJ (g.E.length-(k+1)) _ _ oO ⟨k+1,oO,rfl,aa f2,aa f4,aa f6,aa L,aa D,sS,o,q,mes,f++(s.z+3,m++[id])::t,aa f5,?_⟩;rw[X];have W:=hnd;rw[cr,ax,bw,cb]at W;obtain⟨nd1,⟨nd2,nd3⟩,nd4⟩:=W;refine⟨?_,?_,?_,?_,?_,?_,V0.keep hs,?_,?_,?_,?_⟩
 ·(repeat (first|rw[bh bm]|rw[bj oO]|rw[bi bo]|rw[bk oO]));exact U
 ·(repeat (first|rw[bh bm]|rw[bj oO]|rw[bi bo]|rw[bk oO]));rw[hs];exact Q
 ·(repeat (first|rw[bh bm]|rw[bj oO]|rw[bi bo]|rw[bk oO]));rw[hs];exact K
 ·(repeat (first|rw[bh bm]|rw[bj oO]|rw[bi bo]|rw[bk oO]));exact S
 ·(repeat (first|rw[bh bm]|rw[bj oO]|rw[bi bo]|rw[bk oO]));simp[bK,HT]
 .rw[V7,cr,ax,hR1,hR2]
 .rw[cr,ax,bw,cb];have lt1:∀ x∈f.map (·.1),x<s.z:=fun x Y=>by obtain⟨p,d,rfl⟩:=aq.1 Y;exact(C4 p (aa d)).2.1
  have lt2:∀ x∈t.map (·.1),x<s.z:=fun x Y=>by obtain⟨p,d,rfl⟩:=aq.1 Y;exact(C4 p (aa d)).2.1
  refine⟨nd1,⟨fun h=>by have:=lt2 _ h;omega,nd3⟩,fun x Y y hy=>?_⟩;rcases ah.1 hy with rfl|hy
  .have:=lt1 x Y;simp only;omega
  .exact nd4 x Y y (ar _ hy)
 .intro p d;have old:∀ p,p∈f\/p∈t->¬p.1=j->v.z<=p.1/\p.1<s.z/\s.H p.1=.own 34 1 p.2.length/\¬p.1=j/\¬p.1=q:=by intro p d c7;obtain⟨h1,h2,O⟩:=C4 p (by rcases d with d|d<;>simp[d]);exact⟨h1,h2,O,c7,bT O w sS⟩
  have P0:(p∈f\/p∈t)/\¬p.1=j\/p=(s.z+3,m++[id]):=by
   rcases an.1 d with d|d
   .exact .inl ⟨.inl d,nd4 _ (aq.2 ⟨p,d,rfl⟩) j sS⟩
   .rcases ah.1 d with d|d
    .exact .inr d
    .exact .inl ⟨.inr d,fun h=>nd2 (by rw[<- h];exact aq.2 ⟨p,d,rfl⟩)⟩
  rcases P0 with⟨d,c7⟩|rfl
  .obtain⟨h1,h2,O,t1,t2⟩:=old p d c7;refine⟨h1,by simp only[bN,aH];omega,?_⟩
   (repeat (first|rw[bh bm]|rw[bj oO]|rw[bi bo]|rw[bk oO]));exact O
  .refine⟨by simp only;omega,sS,?_⟩;simp only
   (repeat (first|rw[bh bm]|rw[bj oO]|rw[bi bo]|rw[bk oO]));simp
 .simp only[bN,aH];omega
 .refine⟨by have:=hkps.z;simp only[bN,aH];omega,fun l hl=>?_⟩
  (repeat (first|rw[bh bm]|rw[bj oO]|rw[bi bo]|rw[bk oO]));exact hkps.H l hl
end Aw
end Go.Proofs.YtbgngpdonpeboaaGreatDoor
