/- plane's sheet: bit, set, face. -/
import Derived.Test.YtbgngpdonpeboaaGreatDoorJc
import Derived.Test.YtbgngpdonpeboaaGreatDoorAwTd
import Derived.Test.YtbgngpdonpeboaaGreatDoorAwZ
import Derived.Test.YtbgngpdonpeboaaGreatDoorAwRg
import Derived.Test.YtbgngpdonpeboaaGreatDoorAwMr5
import Derived.Test.YtbgngpdonpeboaaGreatDoorAwFn
import Derived.Test.YtbgngpdonpeboaaGreatDoorAwSet
import Derived.Lib.TrailingZeros
import Derived.Laws.Bits64b
import Derived.Test.YtbgngpdonpeboaaGreatDoorAwShp
set_option linter.unusedVariables false
set_option linter.unusedSimpArgs false
set_option maxHeartbeats 2000000
open Go.Proofs.Tryz
namespace Go.Proofs.YtbgngpdonpeboaaGreatDoor
namespace Aw
open Go Go.RowKit Pl
abbrev wv(n:Nat):LV:=.atom (.int .u64 n)
theorem yW(n:Nat):∀ l:List Int,fV n (us l):=fun l=>by
 induction l with
 |nil=>trivial
 |cons a l ih=>exact⟨trivial,ih⟩
def wO(vs:List Int):List (List Int×LV):=(List.range vs.length).map fun k=>([vs.getD k 0],i k)
theorem Ba{vs:List Int}(hn:vs.Nodup){k:Nat}(hk:k<vs.length):bS (wO vs) [vs.getD k 0]=some (i k):=by
 have key:∀(L:List Nat),(∀ j∈L,j<vs.length)->k∈L->bS (L.map fun k=>(([vs.getD k 0],i k):List Int×LV)) [vs.getD k 0]=some (i k):=by
  intro L;induction L with
  |nil=>grind
  |cons j L ih=>
   grind [bS,Dr]
 exact key _ (fun j hj=>aBb.1 hj) (aBb.2 hk)
def ShB(vs:List Int)(S pl:Nat)(st:St):Prop:=(∃ a b c d e f,st.H S=.box 136 7 [a,b,c,.mp pl,d,e,f])/\st.H pl=.map false [.u32] (wO vs)
theorem CF{vs:List Int}{v:Int}(hv:v∈vs):vs.idxOf v<vs.length/\vs.getD (vs.idxOf v) 0=v:=by
 grind
theorem Sv{vs:List Int}{S pl:Nat}{st:St}(hS:ShB vs S pl st)(hn:vs.Nodup)(h64:vs.length<=64){v:Int}(hv:v∈vs):
 aB prog 137 [.pt S 0,u v] st fun r st'=>r=wv (mk vs [v])/\st'=st:=by
 obtain⟨⟨a,b,c,d,e,f,G2⟩,hP⟩:=hS;obtain⟨hk,hg⟩:=CF hv;have h1:=Ba hn hk;have h2:=KL hn h64 hk;rw[hg]at h1 h2;refine zN func137 ntmps137 [.tmp 4] ?_;exact xv4 G2 hP h1 h2
theorem UX(vs l:List Int)(j:Nat)(hj:j<l.length)(h:vs.length<=64):gor .u64 (mk vs (l.take j)) (mk vs [l.getD j 0])=mk vs (l.take (j+1)):=by
 grind [Bt,List.take_succ_eq_append_getElem]
theorem Wm{vs:List Int}{S pl:Nat}{st:St}(hS:ShB vs S pl st)(hn:vs.Nodup)(h64:vs.length<=64)(l:List Int)(t:Nat)(hl:∀ v∈l,v∈vs)(hll:l.length<=1048576):
 aB prog 181 [.pt S 0,.sl t l.length (us l)] st fun r st'=>r=wv (mk vs l)/\st'=st:=by
 refine zN func181 ntmps181 [.tmp 4] ?_;refine xw0 ?_;have h0:mk vs []=0:=(mk_zero vs []).2 fun _ _=>by simp
 refine aY 10 9 11 19 (l.length) (fun j fr st2=>fr 0=.pt S 0/\fr 8=.sl t l.length (us l)/\fr 5=wv (mk vs (l.take j))/\st2=st) ?_ ?_ ?_
 .simp_all
 .rintro j fr s dQ ⟨f0,f8,f5,hs⟩ fi fn J hJ;subst hs;have hd:=qG l j dQ;have hm:=UX vs l j dQ h64;have hv:l.getD j 0∈vs:=hl _ (by grind);generalize l.getD j 0=v at *
  (refine Zl hJ f0 f8 f5 fi fn hd dQ ?_;intro J hJ)
  refine xcP (Sv hS hn h64 hv) ?_;refine pX hJ fi hm ?_;simp_all
 .rintro fr s ⟨f0,f8,f5,hs⟩;subst hs;rw[aAN]at f5;exact xv1 f5
theorem RO{vs:List Int}{S pl:Nat}{st:St}(hS:ShB vs S pl st)(hSn:S<st.next)(hpn:pl<st.next)(hn:vs.Nodup)(h64:vs.length<=64)(l:List Int)(t:Nat)(hl:∀ v∈l,v∈vs)(hll:l.length<=1048576):
 aB prog 141 [.pt S 0,.sl t l.length (us l)] st fun r st'=>r=.ag [.sl 0 l.length (us l),wv (mk vs l)]/\st'=st:=by
 refine qT (Q:=fun r=>r=.ag [.sl 0 l.length (us l),wv (mk vs l)]) (eR ?_) fun r h=>by subst h;exact⟨⟨.inl rfl,yW _ _⟩,trivial,trivial⟩
 refine zN func141 ntmps141 [.cell 4 144] ?_
 (refine xj0 ?_;intro J hJ)
 refine qE (Wm (vs:=vs) (S:=S) (pl:=pl) ?_ hn h64 l t hl hll) sS ?_
 .obtain⟨⟨a,b,c,d,e,f,G2⟩,hP⟩:=hS;exact⟨⟨a,b,c,d,e,f,by grind [bY]⟩,by grind [bY]⟩
 rintro r s1 ⟨rfl,h1⟩;rw[h1];clear h1 s1;refine dK hJ ?_;exact⟨by simp[z0,z0L],aA.new _ _⟩
theorem Jw{st:St}{m:Nat}{o:cN}(h:st.H m=o):st.set m o=st:=by
 obtain⟨n,H⟩:=st;simp only[St.set,St.mk.injEq,true_and]
 funext y
 by_cases e:y=m
 .subst e;rw[aAk rfl];exact h.symm
 .rw[aAa e]
def prP(a b:Int):Int×Int:=(min a b,max a b)
abbrev pk(p:Int×Int):List Int:=[p.1,p.2]
def Ie(L:List (Int×Int))(p:Int×Int):List (Int×Int):=if p∈L then L else L++[p]
def iB:List Int->List (Int×Int)
 |a::b::l=>prP a b::iB (b::l)
 |_=>[]
def jV(L:List (Int×Int))(w:List Int):List (Int×Int):=(iB w).foldl Ie L
theorem mT:∀ w:List Int,(iB w).length=w.length-1
 |[]=>rfl
 |[_]=>rfl
 |a::b::l=>by have:=mT (b::l);rw[iB,List.length_cons,this];simp
theorem ID:∀(w:List Int) (k:Nat),k+1<w.length->(iB w)[k]?=some (prP (w.getD k 0) (w.getD (k+1) 0))
 |a::b::l,0,_=>by simp[iB]
 |a::b::l,k+1,h=>by rw[iB,List.getElem?_cons_succ,ID (b::l) k (by simpa using h)];simp
 |[],k,h=>by simp at h
 |[_],k,h=>by simp at h
theorem Nf(es:List (List Int×LV))(L:List (Int×Int))(p:Int×Int)(v:LV)(h:es.map (·.1)=L.map pk):(bV es (pk p) v).map (·.1)=(Ie L p).map pk:=by
 have c8:pk p∈L.map pk↔p∈L:=by
  rw[aAj];constructor
  .rintro⟨q,hq,e⟩;simp only[pk,aBt,aEn]at e;obtain⟨e1,e2⟩:=e;have:q=p:=aBU e1 e2;rw[<- this];exact hq
  .intro hp;exact⟨p,hp,rfl⟩
 have key:∀(es:List (List Int×LV)),(bV es (pk p) v).map (·.1)=if pk p∈es.map (·.1)then es.map (·.1)else es.map (·.1)++[pk p]:=by
  intro es;induction es with
  |nil=>simp[bV]
  |cons q es ih=>
   simp only[bV];by_cases e:pk p=q.1
   .rw[aAk (by simpa using e)];simp[e]
   .rw[aAa (by simpa using e),aAn,ih,aAn];by_cases e2:pk p∈es.map (·.1)
    .rw[aAk e2,aAk (aAc _ e2)]
    .rw[aAa e2,aAa (by simp only[aAe,aCp];exact⟨e,e2⟩)];rfl
 rw[key,h];unfold Ie;by_cases e:p∈L
 .rw[aAk e,aAk (c8.2 e)]
 .rw[aAa e,aAa fun k=>e (c8.1 k),aAu];rfl
theorem pair(a b:Int)(st:St):aB prog 58 [u a,u b] st fun r st'=>r=.ag [u (min a b),u (max a b)]/\st'=st:=by
 refine qT (Q:=fun r=>r=.ag [u (min a b),u (max a b)]) ?_ fun r h=>by subst h;exact⟨trivial,trivial,trivial⟩
 refine zN func58 ntmps58 [.cell 4 79] ?_;refine xw0 ?_;exact⟨⟨by split<;>omega,by split<;>omega⟩,aA.new _ _⟩
theorem Qq{vs:List Int}{S pl ll:Nat}{st:St}{a b c f:LV}{on:List Int}{le:List (List Int×LV)}{L:List (Int×Int)}(G2:st.H S=.box 136 7 [a,b,c,.mp pl,.mp ll,wv (mk vs on),f])(hP:st.H pl=.map false [.u32] (wO vs))
 (hL:st.H ll=.map true [.u32,.u32] le) (hk:le.map (·.1)=L.map pk) (M8:¬pl=ll) (hn:vs.Nodup) (h64:vs.length<=64) (w:List Int) (t:Nat) (hw:∀ v∈w,v∈vs) (hwl:w.length<=1000):
 aB prog 140 [.pt S 0,.sl t w.length (us w)] st fun _ st'=>∃ le',st'=(st.set ll (.map true [.u32,.u32] le')).set S (.box 136 7 [a,b,c,.mp pl,.mp ll,wv (mk vs (on++w)),f])/\le'.map (·.1)=(jV L w).map pk:=by
 have n1:¬S=ll:=fun h=>by rw[h,hL]at G2;cases G2
 have n2:¬ll=S:=fun h=>n1 h.symm;have n3:¬pl=S:=fun h=>by rw[h,G2]at hP;cases hP
 refine zN func140 ntmps140 [] ?_;refine xw0 ?_;refine qL (fun n fr st'=>∃ k:Nat,1<=k/\(k=1\/k<=w.length)/\n=w.length-k/\fr 0=.pt S 0/\fr 1=.sl t w.length (us w)/\fr 4=i k/\∃ le',st'=st.set ll (.map true [.u32,.u32] le')/\le'.map (·.1)=(((iB w).take (k-1)).foldl Ie L).map pk) (w.length-1) ?_ ?_
 .exact⟨1,oO,.inl rfl,rfl,sS,sS,sS,le,(Jw hL).symm,by simpa using hk⟩
 rintro n fr s ⟨k,j7,u5,rfl,f0,f1,f4,le',rfl,o9⟩ JJ hJJ;by_cases dQ:k<w.length
 .have K3:=qN k oO;have hd:=qG w k dQ;have z7:=qG w (k-1) oO;have hg:=ID w (k-1) oO;have hwl2:=mT w;have e1:IntKind.i64.wrap ((k:Int)-1)=((k-1:Nat):Int):=zW;have e4:k-1<w.length:=oO;rw[show k-1+1=k by omega]at hg;have U3:∀ v,(bV le' (pk (prP (w.getD (k-1) 0) (w.getD k 0))) v).map (·.1)=(((iB w).take (k+1-1)).foldl Ie L).map pk:=fun v=>by rw[Nf _ _ _ _ o9,show k+1-1=(k-1)+1 by omega];have I9:k-1<(iB w).length:=oO;rw[aAp I9,aBI];rw[aAh I9,aAb]at hg;rw[hg];rfl
  generalize w.getD (k-1) 0=x at *;generalize w.getD k 0=y at *;refine xw4 f0 f1 f4 dQ ?_
  (refine zS [] [S] [0,2,4,6,8,10,12,14,16,18,20,22,24,28,26,31] ?_;intro J hJ;simp[f0,f1,f4,dQ,G2,hL,n1,n2,e1,e4,hd,z7])
  refine xdP (pair x y _) ?_;refine⟨fun h=>by first|(cases h;done)|simp,?_⟩
  (apply bL;simp[n1,n2,hL];refine zJ hJ ?_)
  refine xw2 f4 K3 ?_;refine hJJ _ _ _ ?_ ⟨k+1,oO,.inr oO,rfl,sF1 f0,sF1 f1,sS,_,set_set _ _ _ _,U3 _⟩;omega
 .have hkk:(iB w).take (k-1)=iB w:=aAt (by rw[mT];omega);rw[hkk]at o9;have hB:ShB vs S pl (st.set ll (.map true [.u32,.u32] le')):=⟨⟨a,b,c,.mp ll,wv (mk vs on),f,by rw[bR,aAa n1];exact G2⟩,by rw[bR,aAa M8];exact hP⟩;have hor:=Bt vs on w h64;refine xw4 f0 f1 f4 dQ ?_
  (refine zS [] [S] [0,2,4,6,8,10,12,14,16,18,21] ?_;intro J hJ;simp[f0,f1,G2,n1])
  refine xdP (Wm hB hn h64 w t hw oO) ?_;refine⟨fun h=>by first|(cases h;done)|simp,?_⟩
  (apply bL;simp[G2,n1,hor];refine zJ hJ ?_)
  refine xw0 ?_;exact⟨trivial,le',rfl,o9⟩
end Aw
namespace Aw
open Go Go.RowKit
theorem Sf(x k idx:Nat)(w:World)(I6:((x:Int)==0)=false)
 (key:IntKind.u64.wrap (bits BinOp.and IntKind.u64 (x:Int) (IntKind.u64.wrap (-(x:Int)))*285870213051353865) / 288230376151711744=(idx:Int))
 (hi:idx<64) (hk:k<64) (hcell:w.cell? ⟨0,idx,none⟩=some (.int .u8 k)):
 Calls prog 144 #[.int .u64 x] w fun e w'=>e=.returned (.int .i64 k)/\w'=w:=by
 go_enter func144,ntmps144
 go_wp2_with (simp only[key])
 go_ret
 simp_all
theorem TM(w:World):
 Calls prog 144 #[.int .u64 0] w fun e w'=>e=.returned (.int .i64 64)/\w'=w:=by
 go_enter func144,ntmps144
 go_wp2
 go_ret
 simp_all
theorem WZ(x a:Nat)(hx:x<18446744073709551616)(I6:x≠0)(Q5:x &&& (18446744073709551616-x)=a):
 IntKind.u64.wrap (bits BinOp.and IntKind.u64 (x:Int) (IntKind.u64.wrap (-(x:Int)))*285870213051353865) / 288230376151711744=((a*285870213051353865 % 18446744073709551616 / 288230376151711744:Nat):Int):=by
 have e1:IntKind.u64.wrap (-(x:Int))=((18446744073709551616-x:Nat):Int):=by rw[IntKind.wrap_u64];omega
 grind [bits_and_u64_nat,IntKind.wrap_u64]
theorem Qn{w:World}{g:G}(h:hU w g)(idx k:Nat)(hi:idx<64)(hk:Lib.deBruijn64tab.getD idx 0=k):w.cell? ⟨0,idx,none⟩=some (.int .u8 k):=by
 have hl:Lib.deBruijn64tab.length=64:=rfl;have h2:Lib.deBruijn64tab[idx]?=some k:=by rw[aAg,aAh oO,Option.getD_some]at hk;rw[aAh oO,hk]
 have h3:=h (0,Lib.deBruijn64tab.map fun(n:Nat)=>.int .u8 n) (aAi.2 rfl) idx (.int .u8 k)
 grind
theorem PX(x:Nat)(hx:x<18446744073709551616){w:World}{g:G}(h:hU w g):Calls prog 144 #[.int .u64 x] w fun e w'=>e=.returned (.int .i64 (Lib.ctz 64 x))/\w'=w:=by
 by_cases I6:x=0
 .subst I6;exact TM w
 .obtain⟨Q5,hk⟩:=Lib.lowest_bit 64 x I6 hx;obtain⟨D8,htab⟩:=Lib.deBruijn64_at _ hk;exact Sf x _ _ w (by grind) (WZ x _ hx I6 Q5) D8 hk (Qn h _ _ D8 htab)
theorem Nj:Enters prog 144:=enters_of func144 (by kernel_rfl) rfl
theorem Tz(x:Nat)(hx:x<18446744073709551616)(st:St):aB prog 144 [.atom (.int .u64 x)] st fun r st'=>r=i (Lib.ctz 64 x)/\st'=st:=by
 refine⟨Nj,fun w g vs hi hr=>?_⟩;simp only[aC,Rep]at hr;obtain⟨v,vs',rfl,rfl,rfl⟩:=hr;refine(PX x hx hi.aside.glob).mono ?_;rintro e w' ⟨rfl,rfl⟩
 grind [Rep,Ext.refl]
end Aw
namespace Aw
open Go Go.RowKit Pl
def lW(g:Gr):List LV:=g.vs.map fun v=>wv (mk g.vs (nbr g.es v))
@[simp] theorem Wt(g:Gr):(lW g).length=g.vs.length:=by simp[lW]
theorem Jz(g:Gr)(k:Nat)(hk:k<g.vs.length):(lW g).drop k=wv (mk g.vs (nbr g.es (g.vs.getD k 0)))::(lW g).drop (k+1):=by unfold lW;rw[aAL (by simpa using hk),aCy,bB _ _ hk]
def arn(g:Gr)(A:List Int):List Int:=A.flatMap (nbr g.es)
theorem Mv{g:Gr}{A B:List Int}(h:∀ v,v∈A↔v∈B):mk g.vs (arn g A)=mk g.vs (arn g B):=mk_congr fun v _=>by unfold arn;rw[aBk,aBk];exact⟨fun⟨x,hx,h2⟩=>⟨x,(h x).1 hx,h2⟩,fun⟨x,hx,h2⟩=>⟨x,(h x).2 hx,h2⟩⟩
theorem TE{g:Gr}{S nl:Nat}{st:St}{a b d e f h:LV}(G2:st.H S=.box 136 7 [a,b,.ms nl 0 g.vs.length,d,e,f,h])(hN:st.H nl=.box 133 1 (lW g))(hn:g.vs.Nodup)(h64:g.vs.length<=64)(A:List Int)(hA:∀ v∈A,v∈g.vs):
 aB prog 182 [.pt S 0,wv (mk g.vs A)] st fun r st'=>r=wv (mk g.vs (arn g A))/\st'=st:=by
 refine zN func182 ntmps182 [.tmp 4] ?_;refine xw0 ?_;have h0:mk g.vs []=0:=(mk_zero g.vs []).2 fun _ _=>by simp
 refine qL (fun n fr st'=>∃ D R:List Int,n=(g.vs.filter fun v=>decide (v∈R)).length/\(∀ v,v∈A↔v∈D\/v∈R)/\fr 0=.pt S 0/\fr 1=wv (mk g.vs R)/\fr 5=wv (mk g.vs (arn g D))/\st'=st) (g.vs.filter fun v=>decide (v∈A)).length ?_ ?_
 .exact⟨[],A,rfl,fun v=>by simp,sS,sS,by simp[arn,h0],rfl⟩
 rintro n fr s ⟨D,R,rfl,hDR,f0,f1,f5,rfl⟩ JJ hJJ;have hRA:∀ v∈R,v∈g.vs:=fun v hv=>hA v ((hDR v).2 (.inr hv));by_cases hR:fst' g.vs R<g.vs.length
 .have Zy:=Ff hR;have hb:((mk g.vs R:Int) != 0)=true:=by simpa using Zy
  have hct:=EV h64 hR;have dQ:=mR g.vs R h64;have O0:=Jz g _ hR;obtain⟨U7,hv2⟩:=Td hR;have hdp:=KG h64 hn hR;have hi0:(0:Int)<=(fst' g.vs R:Int):=oO;have hi1:(fst' g.vs R:Int)<g.vs.length:=oO;have hTz:=fun st=>Tz (mk g.vs R) dQ st;rw[hct]at hTz;generalize g.vs.getD (fst' g.vs R) 0=v at *;have hor:=Bt g.vs (arn g D) (nbr g.es v) h64;refine xw2 f1 hb ?_
  (refine zS [] [S,nl] [0,2,4,6,8,10,12,14,16,18,20] ?_;intro J hJ;simp[f0,f1,f5,G2,hN])
  refine xdP (hTz _) ?_;refine⟨fun h=>by first|(cases h;done)|simp,?_⟩
  (apply bL;simp[G2,hN,O0,hi0,hi1,hR,hor];refine zJ hJ ?_)
  refine xw2 f1 hdp ?_;refine hJJ _ _ _ ?_ ⟨D++[v],R.filter fun w=>decide (w≠v),rfl,fun w=>?_,sF1 f0,sS,by simp[arn],rfl⟩
  .have D5:(g.vs.filter fun w=>decide (w∈R.filter fun w=>decide (w≠v)))=(g.vs.filter fun w=>decide (w∈R)).filter fun w=>decide (w≠v):=by rw[List.filter_filter];refine List.filter_congr fun w _=>?_;simp only[aAC,aAT,Bool.decide_and];rw[Bool.and_comm]
   rw[D5];refine List.length_filter_lt_length_iff_exists.2 ⟨v,?_,sS⟩;rw[aAC];exact⟨hv2,by simpa using U7⟩
  .rw[hDR,aAd,aAi,aAC,aAT];constructor
   .rintro(h|h)
    .exact .inl (.inl h)
    .by_cases e:w=v
     .exact .inl (.inr e)
     .exact .inr ⟨h,e⟩
   .rintro((h|h)|h)
    .exact .inl h
    .rw[h];exact .inr U7
    .exact .inr h.1
 .have x9:∀ v∈g.vs,v∉R:=fun v hv hvR=>hR (WK.2 ⟨v,hv,hvR⟩);have hz:mk g.vs R=0:=(mk_zero g.vs R).2 x9;have hb:((mk g.vs R:Int) != 0)=false:=by rw[hz];rfl
  have u7:mk g.vs (arn g D)=mk g.vs (arn g A):=Mv fun v=>by rw[hDR];exact⟨.inl,fun h=>h.elim id fun h=>absurd h (x9 v (hRA v h))⟩
  rw[hz]at f1;exact xv3 f1 f5 u7
structure Brg where
 inner:List Int
 ends:List Int
def nrS(vs A:List Int):List Int:=vs.filter fun v=>decide (v∈A)
def off(A B:List Int):List Int:=A.filter fun v=>!decide (v∈B)
def on'(A B:List Int):List Int:=A.filter fun v=>decide (v∈B)
theorem FG(vs A:List Int):mk vs (nrS vs A)=mk vs A:=mk_congr fun v hv=>by grind [nrS]
def xC(g:Gr)(on:List Int):Nat->List Int->Option Brg
 |0,_=>none
 |n+1,inner=>
  if off (off (nrS g.vs (arn g inner)) on) inner=[]then some ⟨inner,on' (nrS g.vs (arn g inner)) on⟩
  else xC g on n (nrS g.vs (inner++off (nrS g.vs (arn g inner)) on))
def sA(g:Gr)(on:List Int):Nat->List Int->Option (List Brg)
 |_,[]=>some []
 |0,_::_=>none
 |n+1,v::R=>(xC g on (g.vs.length+1) [v]).bind fun b=>(sA g on n (off (v::R) b.inner)).map (b::·)
def oF(g:Gr)(L:List (Int×Int))(on:List Int)(es:List Ed):List Brg:=
 (es.filter fun x=>decide (prP x.a x.b∉L)&&decide (x.a∈on)&&decide (x.b∈on)).map fun x=>⟨[],[x.a,x.b]⟩
def Nh(g:Gr)(L:List (Int×Int))(on:List Int):Option (List Brg):=(sA g on (g.vs.length+1) (off g.vs on)).map fun l=>oF g L on g.es++l
def mJ(vs:List Int)(l:List Brg):List LV:=l.flatMap fun b=>[wv (mk vs b.inner),wv (mk vs b.ends)]
@[simp] theorem Fo(vs:List Int):∀ l:List Brg,(mJ vs l).length=l.length*2
  |[]=>rfl
  |b::l=>by have:=Fo vs l;simp only[mJ,aAJ,aAm,List.length_cons,List.length_nil]at this ⊢;omega
theorem Cb(vs:List Int)(l:List Brg)(b:Brg):mJ vs l++[wv (mk vs b.inner),wv (mk vs b.ends)]=mJ vs (l++[b]):=by simp[mJ]
theorem Qx{es:List (List Int×LV)}{L:List (Int×Int)}(h:es.map (·.1)=L.map pk)(p:Int×Int):(p∈L->∃ v,bS es (pk p)=some v)/\(p∉L->bS es (pk p)=none):=by
 have c8:pk p∈es.map (·.1)↔p∈L:=by
  rw[h,aAj];constructor
  .grind
  .grind
 have key:∀ es:List (List Int×LV),(pk p∈es.map (·.1)->∃ v,bS es (pk p)=some v)/\(pk p∉es.map (·.1)->bS es (pk p)=none):=by
  intro es;induction es with
  |nil=>simp[bS]
  |cons q es ih=>
   grind [bS]
 grind
theorem NQ(g:Gr)(L:List (Int×Int))(on:List Int)(es:List Ed)(j:Nat)(hj:j<es.length):
 oF g L on (es.take (j+1))=oF g L on (es.take j)++if(prP (es.getD j ed0).a (es.getD j ed0).b∉L/\(es.getD j ed0).a∈on)/\(es.getD j ed0).b∈on then [⟨[],[(es.getD j ed0).a,(es.getD j ed0).b]⟩]else []:=by
 grind [oF,List.take_succ_eq_append_getElem]
theorem LW{vs A B:List Int}(hA:∀ v∈A,v∈vs):mk vs (off A B)=0↔off A B=[]:=by
 rw[mk_zero];constructor
 .intro h;exact aBP.2 fun v hv=>h v (hA v (aAC.1 hv).1) hv
 grind
theorem DJ:∀ {vs R:List Int} {v:Int},vs.Nodup->(v::R).Sublist vs->vs.getD (fst' vs (v::R)) 0=v/\fst' vs (v::R)<vs.length
 |[],R,v,_,h=>by cases h
 |w::vs,R,v,hn,h=>by
  have K2:=(aAq.1 hn);cases h with
  |cons _ h=>
   have hw:w∉v::R:=fun hw=>K2.1 (h.subset hw);obtain⟨h1,h2⟩:=DJ K2.2 h;have e:fst' (w::vs) (v::R)=fst' vs (v::R)+1:=by unfold fst';rw[List.findIdx_cons];simp only[aBr,cond_eq_ite];rw[aAa hw]
   rw[e];exact⟨by simpa using h1,by simpa using h2⟩
  |cons_cons _ h=>
   have e:fst' (w::vs) (w::R)=0:=by unfold fst';rw[List.findIdx_cons];simp
   rw[e];exact⟨sS,sS⟩
theorem VY(vs:List Int)(l:List Brg):(mJ vs l).map z0=mJ vs l:=by
 induction l with
 |nil=>rfl
 |cons b l ih=>simp only[mJ,aAJ,aAu]at ih ⊢;rw[ih];rfl
def Ef(t e s n:Nat)(lo:St)(st:St):Prop:=t≠0/\lo.next<=t/\t<st.next/\st.H t=.own e s n
structure ShR(g:Gr)(L:List (Int×Int))(on:List Int)(S nl pl ll:Nat)(f:LV)(le:List (List Int×LV))(st:St):Prop where
 box:st.H S=.box 136 7 [.sl 0 g.vs.length (us g.vs),.sl 0 g.es.length (eds g.es),.ms nl 0 g.vs.length,.mp pl,.mp ll,wv (mk g.vs on),f]
 near:st.H nl=.box 133 1 (lW g)
 plc:st.H pl=.map false [.u32] (wO g.vs)
 lin:st.H ll=.map true [.u32,.u32] le
 key:le.map (·.1)=L.map pk
 lt:S<st.next/\nl<st.next/\pl<st.next/\ll<st.next
theorem ShR.keep{g:Gr}{L:List (Int×Int)}{on:List Int}{S nl pl ll:Nat}{f:LV}{le:List (List Int×LV)}{st st':St}(h:ShR g L on S nl pl ll f le st)(k:aA st st'):ShR g L on S nl pl ll f le st':=by obtain⟨a,b,c,d,e,f1,f2,f3,f4⟩:=h;have hx:=k.next;exact⟨(k.H _ f1).trans a,(k.H _ f2).trans b,(k.H _ f3).trans c,(k.H _ f4).trans d,e,oO,oO,oO,oO⟩
theorem ShR.b{g:Gr}{L:List (Int×Int)}{on:List Int}{S nl pl ll:Nat}{f:LV}{le:List (List Int×LV)}{st:St}(h:ShR g L on S nl pl ll f le st):ShB g.vs S pl st:=⟨⟨_,_,_,_,_,_,h.box⟩,h.plc⟩
theorem IL{g:Gr}{L:List (Int×Int)}{on:List Int}{S nl pl ll:Nat}{f:LV}{le:List (List Int×LV)}{st:St}(h:ShR g L on S nl pl ll f le st)(hn:g.vs.Nodup)(h64:g.vs.length<=64)(A:List Int)(hA:∀ v∈A,v∈g.vs):
 aB prog 182 [.pt S 0,wv (mk g.vs A)] st fun r st'=>r=wv (mk g.vs (arn g A))/\st'=st:=TE h.box h.near hn h64 A hA
structure GP(g:Gr):Prop extends GoodE g where
 h64:g.vs.length<=64
 he:g.es.length<=200
theorem PR{g:Gr}(hg:GP g){L:List (Int×Int)}{on:List Int}(hon:∀ v∈on,v∈g.vs){S nl pl ll:Nat}{f:LV}{le:List (List Int×LV)}{st:St}(hS:ShR g L on S nl pl ll f le st){B:List Brg}(hB:Nh g L on=some B):
 aB prog 142 [.pt S 0] st fun r st'=>r=.sl 0 B.length (mJ g.vs B)/\st'=st:=by
 refine qT (Q:=fun r=>r=.sl 0 B.length (mJ g.vs B)) (eR ?_) fun r h=>by
  subst h;refine⟨.inl rfl,?_⟩;clear hB;induction B with
  |nil=>trivial
  |cons b B ih=>exact⟨trivial,trivial,ih⟩
 have hn:g.vs.Nodup:=hg.toGoodE.toGood.nodup;have h64:=hg.h64;have hel:=aJ g.es;unfold Nh at hB;obtain⟨l2,Y1,rfl⟩:=aBe.1 hB;obtain⟨G2,hN,hP,hL,E9,q1,q2,q3,q4⟩:=id hS;refine zN func142 ntmps142 [.tmp 2] ?_;refine fE fun E0=>?_;refine xw1 G2 ?_;refine kD 3 138 2 sS ?_;have e0:¬st.next=0:=oO;have he200:=hg.he;refine aY 18 17 19 60 (g.es.length) (fun j fr st2=>fr 0=.pt S 0/\fr 16=.sl 0 g.es.length (eds g.es)/\aA st st2/\∃ t,fr 3=.sl t (oF g L on (g.es.take j)).length (mJ g.vs (oF g L on (g.es.take j)))/\Ef t 138 2 (oF g L on (g.es.take j)).length st st2) ?_ ?_ ?_
 .exact⟨sS,sS,aA.new _ _,st.next,by simp[oF,mJ],e0,aAl _,sS,by simp[oF]⟩
 .rintro j fr s dQ ⟨f0,f16,hk,t,f3,t0,t1,t2,tH⟩ fi fn JO hJO;have hd:=aP g.es j dQ;have o9:j*3<g.es.length*3:=oO;have O9:=NQ g L on g.es j dQ;have I8:=hg.ends _ (show g.es.getD j ed0∈g.es by rw[eH _ _ dQ];exact aAz _);generalize g.es.getD j ed0=ee at *;generalize hF:oF g L on (g.es.take j)=F at *;obtain⟨d,a,b⟩:=ee;simp only at O9 I8;have hS1:=(hS.keep hk).keep (aA.new s (.box 36 3 [u d,u a,u b]));obtain⟨hSb1,hN1,hP1,hL1,-,p1,p2,p3,p4⟩:=id hS1;have S1:=fun v hv=>Sv (v:=v) hS1.b hn h64 hv;have hor:=Bt g.vs [a] [b] h64;simp only[List.cons_append,List.nil_append]at hor;obtain⟨hgs,hgn⟩:=Qx E9 (prP a b);have hnS:¬S=s.next:=by have:=hk.next;omega
  have r8:¬ll=s.next:=by have:=hk.next;omega
  have V0:=(hS.keep hk).box;have hL0:=(hS.keep hk).lin;have hdf:=qA g.vs [a,b] on h64;have hwl:(F:List Brg).length<=g.es.length:=by
   have h1:=aBf (fun x=>decide (prP x.a x.b∉L)&&decide (x.a∈on)&&decide (x.b∈on)) (g.es.take j);have h2:F.length=((g.es.take j).filter (fun x=>decide (prP x.a x.b∉L)&&decide (x.a∈on)&&decide (x.b∈on))).length:=by rw[<- hF];unfold oF;rw[aAD]
   rw[aAv]at h1;omega
  refine xw8 f0 f16 fi fn hd hel o9 dQ ?_
  (refine zS [] [s.next] [0,2,4,8,10,12,6,14,16,18] ?_;intro J hJ;simp[f0])
  refine xdP (S1 a I8.1) ?_;refine⟨fun h=>by first|(cases h;done)|exact fun _ _=>rfl|simp,?_⟩
  (apply bL;simp[])
  refine xdP (S1 b I8.2) ?_;refine⟨fun h=>by first|(cases h;done)|exact fun _ _=>rfl|simp,?_⟩
  (apply bL;simp[hor];refine zJ hJ ?_)
  (repeat (apply qS))
  (refine zS [] [S,s.next,ll] [0,2,4,6,8,10,12,14,16,18,20,22,24,26,28] ?_;intro J hJ;simp[f0,V0,hnS])
  refine xdP (pair a b _) ?_;refine⟨fun h=>by first|(cases h;done)|exact fun _ _=>rfl|simp,?_⟩;have c1:¬t=s.next:=oO;have c2:¬t=s.next+1:=oO;have c3:¬s.next=t:=oO;have hFs:=Cb g.vs F ⟨[],[a,b]⟩;have hz0:mk g.vs []=0:=(mk_zero g.vs []).2 fun _ _=>by simp
  simp only[hz0]at hFs;by_cases hp:prP a b∈L
  .obtain⟨v,hv⟩:=hgs hp;have hv:bS le [min a b,max a b]=some v:=hv;rw[aAa (sF1 hp),aBc]at O9
   (apply bL;simp[hL0,r8,hv];refine zJ hJ ?_)
   refine xw0 ?_;exact hJO _ _ (sF1 fi) (sF1 fn) ⟨sF1 f0,sF1 f16,hk.trans (aA.new _ _),t,by rw[O9];simp[f3],t0,t1,by simp;omega,by rw[O9];(repeat (first|rw[nHh nOo]|rw[sHh oO]|rw[nIi nQq]|rw[sIi oO]));exact tH⟩
  .have hv:bS le [min a b,max a b]=none:=hgn hp;by_cases hc:a∈on/\b∈on
   .rw[aAk ⟨⟨hp,hc.1⟩,hc.2⟩]at O9;have hz:mk g.vs (off [a,b] on)=0:=(mk_zero _ _).2 fun v _ h=>by
     simp only[off,aAC,aAe,aBV,aDq,Bool.not_eq_true',aCb]at h;rcases h.1 with e|e
     .exact h.2 (by rw[e];exact hc.1)
     .exact h.2 (by rw[e];exact hc.2)
    have hdz:gO .u64 (mk g.vs [a,b]) (mk g.vs on)=0:=by rw[hdf];exact congrArg Int.ofNat hz
    (apply bL;simp[hL0,r8,hv];refine zJ hJ ?_)
    (repeat' (first|apply qS|(apply qC;simp[V0,f0,hnS,hdz,f3,tH,t0,c1,c2,c3])|(refine zE ?_;intro J hJ;simp[V0,f0,hnS,hdz,f3,tH,t0,c1,c2,c3];(repeat refine ca ?_);refine zJ hJ ?_)))
    exact hJO _ _ (sF1 fi) (sF1 fn) ⟨sF1 f0,sF1 f16,((hk.trans (aA.new _ _)).trans (aA.new _ _)).set t1 _ |>.trans (aA.new _ _),s.next+2,by rw[O9,<- hFs];simp,oO,oO,sS,by rw[O9];simp⟩
   .rw[aAa (by intro h;exact hc ⟨h.1.2,h.2⟩),aBc]at O9;have hz:mk g.vs (off [a,b] on)≠0:=fun h=>by rw[mk_zero]at h;have ha:=h a I8.1;have hb:=h b I8.2;simp[off]at ha hb;exact hc ⟨ha,hb⟩
    have hdz:(gO .u64 (mk g.vs [a,b]) (mk g.vs on)==0)=false:=by rw[hdf];simpa[off]using hz
    (apply bL;simp[hL0,r8,hv];refine zJ hJ ?_)
    refine xw4 V0 f0 hnS hdz ?_;exact hJO _ _ (sF1 fi) (sF1 fn) ⟨sF1 f0,sF1 f16,hk.trans (aA.new _ _),t,by rw[O9];simp[f3],t0,t1,by simp;omega,by rw[O9];(repeat (first|rw[nHh nOo]|rw[sHh oO]|rw[nIi nQq]|rw[sIi oO]));exact tH⟩
 .rintro fr s ⟨f0,f16,hk,t,f3,t0,t1,t2,tH⟩;rw[aAN]at f3 tH;have hE1:(oF g L on g.es).length<=200:=by have h1:=aBf (fun x=>decide (prP x.a x.b∉L)&&decide (x.a∈on)&&decide (x.b∈on)) g.es;unfold oF;rw[aAD];omega
  generalize oF g L on g.es=E1 at *;have hSk:=hS.keep hk;have V0:=hSk.box;have hdf:=qA g.vs g.vs on h64;have hsv:=fun st' (h:ShB g.vs S pl st')=>Wm h hn h64 g.vs 0 (fun v h=>h) oO;refine xw0 ?_
  (refine zS [] [S] [0,2,4,6,8,10,14,16,18,20,12,22,24] ?_;intro J hJ;simp[f0,V0])
  refine xdP (hsv _ hSk.b) ?_;refine⟨fun h=>by first|(cases h;done)|exact fun _ _=>rfl|simp,?_⟩
  (apply bL;simp[V0,hdf];refine zJ hJ ?_)
  (repeat (first|apply qS|apply qB))
  refine qL (fun n fr st'=>∃ R l l2',sA g on n R=some l2'/\l2=l++l2'/\l.length+n<=g.vs.length+1/\R.Sublist g.vs/\fr 0=.pt S 0/\fr 9=wv (mk g.vs R)/\aA st st'/\∃ t,fr 3=.sl t (E1++l).length (mJ g.vs (E1++l))/\Ef t 138 2 (E1++l).length st st') (g.vs.length+1) ?_ ?_
  .exact⟨off g.vs on,[],l2,Y1,rfl,sS,aBF,sF1 f0,by simp[off],hk,t,sF1 f3,t0,t1,t2,by simpa using tH⟩
  .clear f0 f16 hk f3 t0 t1 t2 tH hSk V0 fr s;rintro n fr s ⟨R,l,l2',hr,rfl,hln,D5,f0,f9,hk,t,f3,t0,t1,t2,tH⟩ JJ hJJ;have hSk:=hS.keep hk;obtain⟨V0,hN0,-,-,-,p1,p2,p3,p4⟩:=id hSk;have hRv:∀ v∈R,v∈g.vs:=fun v hv=>D5.subset hv;cases R with
   |nil=>
    have hz:mk g.vs []=0:=(mk_zero g.vs []).2 fun _ _=>by simp
    rw[hz]at f9;have hl2':l2'=[]:=by cases n<;>simpa[sA]using hr.symm
    subst hl2';rw[aBc];refine xw2 f9 f3 ?_;exact⟨by simp[z0,nK,VY],hk⟩
   |cons v R=>
    obtain⟨hfv,hflt⟩:=DJ hn D5;have Zy:=Ff hflt;have hb:((mk g.vs (v::R):Int) != 0)=true:=by simpa using Zy
    have Q5:=Vm h64 hn hflt;rw[hfv,Int.zero_sub]at Q5;cases n with
    |zero=>simp[sA]at hr
    |succ n=>
     rw[sA]at hr;obtain⟨b,hgb,hr⟩:=aBu.1 hr;obtain⟨l3,hr3,rfl⟩:=aBe.1 hr;have hvv:∀ w∈[v],w∈g.vs:=fun w hw=>by rw[aAi]at hw;rw[hw];exact hRv v sS
     (refine xj4 f0 f9 hb Q5 ?_;intro J hJ)
     refine xcP (IL hSk hn h64 [v] hvv) ?_
     (apply cD;simp[];refine zJ hJ ?_)
     (repeat (first|apply qS|apply qB))
     refine qL (fun m fr st'=>∃ inner,xC g on m inner=some b/\(∀ w∈inner,w∈g.vs)/\fr 0=.pt S 0/\fr 9=wv (mk g.vs (v::R))/\fr 3=.sl t (E1++l).length (mJ g.vs (E1++l))/\fr 10=wv (mk g.vs inner)/\fr 11=wv (mk g.vs (arn g inner))/\st'=s) (g.vs.length+1) ?_ ?_
     .exact⟨[v],hgb,hvv,sF1 f0,sF1 f9,sF1 f3,sS,sS,rfl⟩
     .clear f0 f9 f3 fr;rintro m fr s3 ⟨inner,hgi,hiv,f0,f9,f3,f10,f11,hs3⟩ JI hJI;subst hs3;cases m with
      |zero=>simp[xC]at hgi
      |succ m=>
       have hRR:∀ w∈nrS g.vs (arn g inner),w∈g.vs:=fun w hw=>(aAC.1 hw).1;rw[<- FG]at f11;rw[xC]at hgi;generalize nrS g.vs (arn g inner)=RR at *;have z7:gO .u64 (mk g.vs RR) (mk g.vs on)=mk g.vs (off RR on):=qA g.vs RR on h64;have F7:gO .u64 (mk g.vs (off RR on)) (mk g.vs inner)=mk g.vs (off (off RR on) inner):=qA g.vs _ inner h64;by_cases hc:off (off RR on) inner=[]
       .rw[aAk hc]at hgi;have Z6:b=⟨inner,on' RR on⟩:=by simpa using hgi.symm
        subst Z6;have hz:mk g.vs (off (off RR on) inner)=0:=by rw[hc];exact(mk_zero g.vs []).2 fun _ _=>by simp
        have P3:((mk g.vs (off (off RR on) inner):Int) != 0)=false:=by rw[hz];rfl
        have hd3:vL .u64 (mk g.vs RR) (mk g.vs on)=mk g.vs (on' RR on):=RD g.vs RR on h64;have hd4:gO .u64 (mk g.vs (v::R)) (mk g.vs inner)=mk g.vs (off (v::R) inner):=qA g.vs _ inner h64;have c1:¬t=s3.next:=oO;have c2:¬s3.next=t:=oO;have hFs:=Cb g.vs (E1++l) ⟨inner,on' RR on⟩;have u9:(E1++l).length<=300:=by rw[aAm];have:=hg.h64;omega
        rw[aAE]at hFs;have hlen:(E1++l).length+1=(E1++(l++[(⟨inner,on' RR on⟩:Brg)])).length:=by simp;omega
        generalize hEl:E1++l=El at *
        (repeat' (first|apply qS|refine qX (zZ ?_)|(apply qC;simp[f0,f9,f10,f11,f3,V0,z7,F7,P3,hd3,hd4,tH,t0,c1,c2])|(refine zE ?_;intro J hJ;simp[f0,f9,f10,f11,f3,V0,z7,F7,P3,hd3,hd4,tH,t0,c1,c2];(repeat refine ca ?_);refine zJ hJ ?_)))
        exact hJJ _ _ _ (aCQ n) ⟨off (v::R) inner,l++[⟨inner,on' RR on⟩],l3,hr3,sS,by simp;omega,aBF.trans D5,sF1 f0,sS,((hk.trans (aA.new _ _)).set t1 _).trans (aA.new _ _),s3.next+1,by rw[<- hFs,<- hlen];simp,oO,oO,sS,by rw[<- hlen];simp⟩
       .rw[aAa hc]at hgi;have hz:mk g.vs (off (off RR on) inner)≠0:=fun h=>hc ((LW fun w hw=>hRR w (aAC.1 hw).1).1 h);have P3:((mk g.vs (off (off RR on) inner):Int) != 0)=true:=by simpa using hz
        have hor:gor .u64 (mk g.vs inner) (mk g.vs (off RR on))=mk g.vs (nrS g.vs (inner++off RR on)):=by rw[Bt _ _ _ h64,FG]
        have hnv:∀ w∈nrS g.vs (inner++off RR on),w∈g.vs:=fun w hw=>(aAC.1 hw).1;generalize nrS g.vs (inner++off RR on)=IN at *
        (refine xj8 f0 f10 f11 V0 z7 F7 P3 hor ?_;intro J hJ)
        refine xcP (IL hSk hn h64 IN hnv) ?_
        (apply cD;simp[];refine zJ hJ ?_)
        exact hJI _ _ _ (aCQ m) ⟨IN,hgi,hnv,sF1 f0,sF1 f9,sF1 f3,sS,sS,rfl⟩
def gQ(vs:List Int)(F:List (List Int)):List LV:=F.flatMap fun r=>[.sl 0 r.length (us r),wv (mk vs r)]
@[simp] theorem oI(vs:List Int):∀ F:List (List Int),(gQ vs F).length=F.length*2
  |[]=>rfl
  |r::F=>by have:=oI vs F;simp only[gQ,aAJ,aAm,List.length_cons,List.length_nil]at this ⊢;omega
theorem rM(vs:List Int):∀(F:List (List Int)) (k:Nat),k<F.length->(gQ vs F).drop (k*2)=.sl 0 (F.getD k []).length (us (F.getD k []))::wv (mk vs (F.getD k []))::gQ vs (F.drop (k+1))
 |r::F,0,_=>by simp[gQ]
 |r::F,k+1,h=>by have:=rM vs F k (by simpa using h);rw[show(k+1)*2=k*2+2 by omega];simp only[gQ,aAJ,List.cons_append,List.nil_append,aDD]at this ⊢;rw[this];simp
 |[],k,h=>by simp at h
theorem Cj(vs:List Int):∀(B:List Brg) (k:Nat),k<B.length->(mJ vs B).drop (k*2)=wv (mk vs (B.getD k ⟨[],[]⟩).inner)::wv (mk vs (B.getD k ⟨[],[]⟩).ends)::mJ vs (B.drop (k+1))
 |r::F,0,_=>by simp[mJ]
 |r::F,k+1,h=>by have:=Cj vs F k (by simpa using h);rw[show(k+1)*2=k*2+2 by omega];simp only[mJ,aAJ,List.cons_append,List.nil_append,aDD]at this ⊢;rw[this];simp
 |[],k,h=>by simp at h
def mS(b:Brg)(p:Int×Int)(r:List Int×Nat):Int×Int:=if off b.ends r.1=[]then(if p.2=0 then(r.2:Int)else p.1,p.2+1)else p
def bZ(b:Brg)(F:List (List Int×Nat)):Int×Int:=F.foldl (mS b) (-1,0)
def bJ(F:List (List Int)):List Brg->Brg×Int->Brg×Int
 |[],E8=>E8
 |b::l,E8=>if(bZ b F.zipIdx).2<=1 then(b,(bZ b F.zipIdx).1)else bJ F l (if E8.2<0 then(b,(bZ b F.zipIdx).1)else E8)
theorem As(b:Brg)(F:List (List Int))(k:Nat)(hk:k<F.length):bZ b (F.zipIdx.take (k+1))=mS b (bZ b (F.zipIdx.take k)) (F.getD k [],k):=by
 unfold bZ;have hz:k<F.zipIdx.length:=by simpa using hk
 rw[aAp hz,aBI,List.getElem_zipIdx,aAg,aAh hk];simp
theorem Bf(b:Brg):∀(F:List (List Int×Nat)),0<=(bZ b F).2/\(bZ b F).2<=F.length:=by
 have key:∀(F:List (List Int×Nat)) (p:Int×Int),0<=p.2->0<=(F.foldl (mS b) p).2/\(F.foldl (mS b) p).2<=p.2+F.length:=by
  intro F;induction F with
  |nil=>intro p h;simpa using h
  |cons r F ih=>
   intro p h;have h1:0<=(mS b p r).2/\(mS b p r).2<=p.2+1:=by unfold mS;by_cases e:off b.ends r.1=[];(· rw[aAk e];simp only;omega);(· rw[aAa e];omega)
   have:=ih (mS b p r) h1.1;rw[List.foldl_cons,List.length_cons];omega
 intro F;have:=key F (-1,0) sS;unfold bZ;simp only at this;omega
structure ShA(g:Gr)(L:List (Int×Int))(on:List Int)(F:List (List Int))(S nl pl ll fl:Nat)(le:List (List Int×LV))(st:St):Prop where
 r:ShR g L on S nl pl ll (.ms fl 0 F.length) le st
 fac:st.H fl=.box 144 2 (gQ g.vs F)
 flt:fl<st.next
 sub:∀ r∈F,∀ v∈r,v∈g.vs
 onv:∀ v∈on,v∈g.vs
 few:F.length<=300
theorem ShA.keep{g:Gr}{L:List (Int×Int)}{on:List Int}{F:List (List Int)}{S nl pl ll fl:Nat}{le:List (List Int×LV)}{st st':St}(h:ShA g L on F S nl pl ll fl le st)(k:aA st st'):ShA g L on F S nl pl ll fl le st':=
 ⟨h.r.keep k,(k.H _ h.flt).trans h.fac,aAs h.flt k.next,h.sub,h.onv,h.few⟩
abbrev Sa(vs:List Int)(b:Brg):LV:=.ag [wv (mk vs b.inner),wv (mk vs b.ends)]
theorem Ur{g:Gr}(hg:GP g){L:List (Int×Int)}{on:List Int}{F:List (List Int)}{S nl pl ll fl:Nat}{le:List (List Int×LV)}{st:St}(hS:ShA g L on F S nl pl ll fl le st){B:List Brg}(hB:Nh g L on=some B)(hBe:∀ b∈B,∀ v∈b.ends,v∈g.vs)(hBl:B.length<=300):
 aB prog 101 [.pt S 0] st fun r st'=>r=.tu [Sa g.vs (bJ F B (⟨[],[]⟩,-1)).1,i (bJ F B (⟨[],[]⟩,-1)).2]/\st'=st:=by
 refine qT (Q:=fun r=>r=.tu [Sa g.vs (bJ F B (⟨[],[]⟩,-1)).1,i (bJ F B (⟨[],[]⟩,-1)).2]) ?_ fun r h=>by subst h;exact⟨⟨trivial,trivial,trivial⟩,trivial,trivial⟩
 have h64:=hg.h64;have hz:mk g.vs []=0:=(mk_zero g.vs []).2 fun _ _=>by simp
 have hq:=hS.r.lt;refine zN func101 ntmps101 [.cell 2 138,.tmp 3] ?_
 (refine xj0 ?_;intro J hJ)
 refine xcP (PR hg hS.onv (hS.r.keep ((aA.new _ _).trans (aA.new _ _))) hB) ?_;refine dK hJ ?_;have e0:¬st.next=st.next+1:=oO;have L6:=Fo g.vs B;have T6:=oI g.vs F;have hfew:=hS.few;generalize hCC:bJ F B (⟨[],[]⟩,-1)=CC;refine aY 15 14 16 49 (B.length) (fun j fr st2=>fr 0=.pt S 0/\fr 2=.pt st.next 0/\fr 4=.pt (st.next+1) 0/\fr 13=.sl 0 B.length (mJ g.vs B)/\aA st st2/\st.next+1<st2.next/\st2.H st.next=.box 138 2 [wv 0,wv 0]/\∃ E8 at_,fr 5=i at_/\st2.H (st.next+1)=.box 138 2 [wv (mk g.vs E8.inner),wv (mk g.vs E8.ends)]/\bJ F (B.drop j) (E8,at_)=CC) ?_ ?_ ?_
 .exact⟨sS,sS,sS,sS,(aA.new _ _).trans (aA.new _ _),sS,sF1 e0,⟨[],[]⟩,-1,sS,sF1 hz,hCC⟩
 .rintro jo fr s dQ ⟨f0,f2,f4,f13,hk,O9,hR,E8,at_,f5,hB5,O8⟩ fi fn JO hJO;have hd:=Cj g.vs B jo dQ;have u5:jo*2<B.length*2:=oO;rw[aAL dQ,bJ]at O8;have hbm:B.getD jo ⟨[],[]⟩=B[jo]:=by rw[aAg,aAh dQ];rfl
  have Z6:=hBe _ (aAz dQ);rw[hbm]at hd;generalize B[jo]=b at *;have hSk:=hS.keep hk;obtain⟨G2,-,-,-,-,p1,p2,p3,p4⟩:=id hSk.r;have hF:=hSk.fac;have hFl:=hSk.flt;have x1:¬S=s.next:=oO;have x2:¬fl=s.next:=oO;have x3:¬st.next=s.next:=oO;have x4:¬st.next+1=s.next:=oO;refine FU f0 f13 fi fn hd u5 L6 dQ G2 x1 ?_;refine aY 24 23 25 40 (F.length) (fun j fr st2=>fr 0=.pt S 0/\fr 2=.pt st.next 0/\fr 4=.pt (st.next+1) 0/\fr 13=.sl 0 B.length (mJ g.vs B)/\fr 14=i B.length/\fr 15=i jo/\fr 5=i at_/\fr 7=.pt s.next 0/\fr 22=.ms fl 0 F.length/\fr 8=i (bZ b (F.zipIdx.take j)).1/\fr 9=i (bZ b (F.zipIdx.take j)).2/\aA (s.new (.box 138 2 [wv (mk g.vs b.inner),wv (mk g.vs b.ends)])) st2) ?_ ?_ ?_
  .exact⟨sF1 f0,sF1 f2,sF1 f4,sF1 f13,sF1 fn,sF1 fi,sF1 f5,sS,sS,by simp[bZ],by simp[bZ],aA.refl _⟩
  .clear f0 f2 f4 f13 f5 fi fn fr;rintro k fr s2 V2 ⟨f0,f2,f4,f13,f14,f15,f5,f7,f22,f8,f9,o9⟩ fi fn JI hJI;have hn3:=o9.next;simp only[aG]at hn3;have S3:s2.H s.next=.box 138 2 [wv (mk g.vs b.inner),wv (mk g.vs b.ends)]:=by rw[o9.H _ sS];simp
   have hF2:s2.H fl=.box 144 2 (gQ g.vs F):=by rw[o9.H _ (by simp;omega),bY,aAa x2];exact hF
   have hdF:=rM g.vs F k V2;have G3:=As b F k V2;have u9:=Bf b (F.zipIdx.take k);rw[aAv,List.length_zipIdx]at u9;generalize F.getD k []=rr at *;generalize X7:bZ b (F.zipIdx.take k)=pp at *;obtain⟨p1',p2'⟩:=pp;simp only at u9 f8 f9;have hk22:k*2<F.length*2:=oO;have hdf:gO .u64 (mk g.vs b.ends) (mk g.vs rr)=mk g.vs (off b.ends rr):=qA g.vs b.ends rr h64;have y1:¬s.next=s2.next:=oO;have y2:¬fl=s2.next:=oO;have hw:=wrap_i64 (p2'+1) oO oO;unfold mS at G3;by_cases O6:off b.ends rr=[]
   .have hb:((mk g.vs (off b.ends rr):Int) != 0)=false:=by rw[O6,hz];rfl
    rw[aAk O6]at G3;simp only at G3;by_cases h0:p2'=0
    .have hb0:(p2'==0)=true:=by simpa using h0
     rw[aAk h0]at G3;refine Xk f7 f22 f8 f9 fi fn hdF hF2 V2 hk22 T6 S3 y1 y2 hdf hb hb0 hw ?_;exact hJI _ _ (sF1 fi) (sF1 fn) ⟨sF1 f0,sF1 f2,sF1 f4,sF1 f13,sF1 f14,sF1 f15,sF1 f5,sF1 f7,sF1 f22,by rw[G3];simp,by rw[G3];simp,o9.trans (aA.new _ _)⟩
    .have hb0:(p2'==0)=false:=by simpa using h0
     rw[aAa h0]at G3;refine Xk f7 f22 f8 f9 fi fn hdF hF2 V2 hk22 T6 S3 y1 y2 hdf hb hb0 hw ?_;exact hJI _ _ (sF1 fi) (sF1 fn) ⟨sF1 f0,sF1 f2,sF1 f4,sF1 f13,sF1 f14,sF1 f15,sF1 f5,sF1 f7,sF1 f22,by rw[G3];simp[f8],by rw[G3];simp,o9.trans (aA.new _ _)⟩
   .have hb:((mk g.vs (off b.ends rr):Int) != 0)=true:=by have:mk g.vs (off b.ends rr)≠0:=fun h=>O6 ((LW Z6).1 h);simpa using this
    rw[aAa O6]at G3;refine PO f7 f22 f8 f9 fi fn hdF hF2 V2 hk22 T6 S3 y1 y2 hdf hb ?_;exact hJI _ _ (sF1 fi) (sF1 fn) ⟨sF1 f0,sF1 f2,sF1 f4,sF1 f13,sF1 f14,sF1 f15,sF1 f5,sF1 f7,sF1 f22,by rw[G3];simp[f8],by rw[G3];simp[f9],o9.trans (aA.new _ _)⟩
  .clear f0 f2 f4 f13 f5 fi fn fr;rintro fr s2 ⟨f0,f2,f4,f13,f14,f15,f5,f7,f22,f8,f9,o9⟩;rw[aAt sS]at f8 f9;have u9:=Bf b F.zipIdx;generalize X7:bZ b F.zipIdx=pp at *;obtain⟨p1',p2'⟩:=pp;simp only at u9 f8 f9 O8;have hn3:=o9.next;simp only[aG]at hn3;have S3:s2.H s.next=.box 138 2 [wv (mk g.vs b.inner),wv (mk g.vs b.ends)]:=by rw[o9.H _ sS];simp
   have hR2:s2.H st.next=.box 138 2 [wv 0,wv 0]:=by rw[o9.H _ (by simp;omega),bY,aAa x3];exact hR
   have Z5:s2.H (st.next+1)=.box 138 2 [wv (mk g.vs E8.inner),wv (mk g.vs E8.ends)]:=by rw[o9.H _ (by simp;omega),bY,aAa x4];exact hB5
   have hkk:=(hk.trans (aA.new _ _)).trans o9;have z1:¬s.next=st.next:=oO;have z2:¬st.next+1=st.next:=oO;by_cases I2:p2'<=1
   .rw[aAk I2]at O8;subst O8;refine xw8 f2 f7 f8 f9 I2 S3 hR2 z1 ?_;exact hkk.set (aAl _) _
   .rw[aAa I2]at O8;by_cases O7:at_<0
    .rw[aAk O7]at O8;refine xw9 f4 f5 f7 f8 f9 I2 O7 S3 Z5 ?_;exact hJO _ _ (sF1 f15) (sF1 f14) ⟨sF1 f0,sF1 f2,sF1 f4,sF1 f13,hkk.set oO _,by simp;omega,by(repeat (first|rw[nHh nOo]|rw[sHh oO]|rw[nIi nQq]|rw[sIi oO]));exact hR2,b,p1',sS,sS,O8⟩
    .rw[aAa O7]at O8;refine xw7 f4 f5 f7 f8 f9 I2 O7 ?_;exact hJO _ _ (sF1 f15) (sF1 f14) ⟨sF1 f0,sF1 f2,sF1 f4,sF1 f13,hkk,oO,hR2,E8,at_,sF1 f5,Z5,O8⟩
 .rintro fr s ⟨f0,f2,f4,f13,hk,O9,hR,E8,at_,f5,hB5,O8⟩;rw[List.drop_length,bJ]at O8;subst O8;have z1:¬st.next+1=st.next:=oO;refine xw6 f2 f4 f5 hB5 hR z1 ?_;exact hk.set (aAl _) _
theorem yU{α:Type}(f:α->Int):∀ {a b:List α},(a.map f).Pairwise (· < ·)->(b.map f).Pairwise (· < ·)->(∀ x,x∈a↔x∈b)->a=b
 |[],[],_,_,_=>rfl
 |[],y::b,_,_,h=>by have:=(h y).2 sS;grind
 |x::a,[],_,_,h=>by have:=(h x).1 sS;grind
 |x::a,y::b,ha,hb,h=>by
  simp only[aAn,aBl,aAj,forall_exists_index,and_imp,forall_apply_eq_imp_iff₂]at ha hb;have D4:x=y:=by
   rcases aAe.1 ((h x).1 sS)with h1|h1
   .omega
   .grind
  subst D4
  congr 1
  refine yU f ha.2 hb.2 fun z=>?_
  grind
section
variable {α:Type} (f:α->Int)
end
theorem xD{α:Type}{P:List α->Prop}(h0:P [])(h1:∀ l x,P l->P (l++[x]))(l:List α):P l:=by
 rw[<- aCR l];generalize l.reverse=r;induction r with
 |nil=>grind
 |cons x r ih=>grind
def bes(x y:Ed):Bool:=decide (x.a=y.a/\x.b=y.b\/x.a=y.b/\x.b=y.a)
theorem qP{x y:Ed}:bes x y=true↔(x.a=y.a/\x.b=y.b\/x.a=y.b/\x.b=y.a):=by simp[bes]
theorem uE{x y:Ed}(h:bes x y=true):bes y x=true:=by
 grind [qP]
theorem IM(x:Ed):bes x x=true:=by grind [qP]
theorem wL{x y z:Ed}(h:bes x y=true)(k:bes y z=true):bes x z=true:=by
 rw[qP]at h k ⊢;rcases h with⟨h1,h2⟩|⟨h1,h2⟩<;>rcases k with⟨k1,k2⟩|⟨k1,k2⟩
 .omega
 .omega
 .omega
 omega
def sE(l:List Ed):List Ed:=l.foldl (fun acc x=>if acc.any (bes x)then acc else acc++[x]) []
theorem lU(l:List Ed)(x:Ed):sE (l++[x])=if(sE l).any (bes x)then sE l else sE l++[x]:=by
 grind [sE]
theorem vN(l:List Ed):∀ x∈sE l,x∈l:=by
 induction l using xD with
 |h0=>simp[sE]
 |h1 l x ih=>
  grind [lU]
theorem QV(l:List Ed):∀ x∈l,∃ y∈sE l,bes x y=true:=by
 induction l using xD with
 |h0=>simp
 |h1 l x ih=>
  intro y hy;rw[lU];rcases aAd.1 hy with h|h
  .grind
  .rw[aAi]at h;subst h
   split
   .grind
   .exact⟨y,aAx _ sS,IM y⟩
theorem oH(l:List Ed):(sE l).length<=l.length:=by
 induction l using xD with
 |h0=>simp[sE]
 |h1 l x ih=>
  grind [lU]
theorem HH(l:List Ed):(sE l).Pairwise fun x y=>bes x y=false:=by
 induction l using xD with
 |h0=>simp[sE]
 |h1 l x ih=>
  grind [lU,uE]
abbrev hf(x:Ed):List (Int×Int):=[(x.a,x.b),(x.b,x.a)]
def hfs(l:List Ed):List (Int×Int):=l.flatMap hf
theorem SH(l:List Ed)(x:Ed):hfs (l++[x])=hfs l++[(x.a,x.b)]++[(x.b,x.a)]:=by simp[hfs]
theorem Eh(l:List Ed):(hfs l).length=2*l.length:=by
 induction l with
 |nil=>rfl
 |cons x l ih=>grind [hfs]
theorem TF{l:List Ed}{p:Int×Int}:p∈hfs l↔∃ x∈l,(x.a=p.1/\x.b=p.2)\/(x.b=p.1/\x.a=p.2):=by
 grind [hfs]
def nbH(v:Int)(H:List (Int×Int)):List Int:=(H.filter fun p=>decide (p.1=v)).map (·.2)
theorem HA(v:Int)(H:List (Int×Int))(p:Int×Int):nbH v (H++[p])=nbH v H++if p.1=v then [p.2]else []:=by
 grind [nbH]
theorem zG(v:Int)(H:List (Int×Int)):(nbH v H).length<=H.length:=by
 grind [nbH]
theorem TQ{v w:Int}{H:List (Int×Int)}:w∈nbH v H↔(v,w)∈H:=by unfold nbH;simp_all
def Mh(x:Int):List Int->List Int
 |[]=>[x]
 |y::l=>if x<=y then x::y::l else y::Mh x l
def srt:List Int->List Int
 |[]=>[]
 |x::l=>Mh x (srt l)
theorem Cf(x:Int)(l:List Int):(Mh x l).Perm (x::l):=by
 induction l with
 |nil=>exact .refl _
 |cons y l ih=>
  grind [Mh]
theorem pC(l:List Int):(srt l).Perm l:=by
 induction l with
 |nil=>exact .refl _
 |cons x l ih=>exact(Cf x _).trans (ih.cons x)
theorem Gk(x:Int){l:List Int}(h:l.Pairwise (·<=·)):(Mh x l).Pairwise (·<=·):=by
 induction l with
 |nil=>exact aDh _ _
 |cons y l ih=>
  grind [List.pairwise_cons,Mh,Cf]
theorem JV(l:List Int):(srt l).Pairwise (·<=·):=by
 induction l with
 |nil=>exact .nil
 |cons x l ih=>exact Gk x ih
theorem rT:∀ {a b:List Int},a.Pairwise (·<=·)->b.Pairwise (·<=·)->a.Perm b->a=b
 |[],b,_,_,h=>by simp_all
 |x::a,[],_,_,h=>absurd h.symm.nil_eq sS
 |x::a,y::b,ha,hb,h=>by
  obtain⟨a1,a2⟩:=aBl.1 ha;obtain⟨b1,b2⟩:=aBl.1 hb;have D4:x=y:=by
   have h1:x∈y::b:=h.mem_iff.1 sS;have h2:y∈x::a:=h.mem_iff.2 sS;rcases aAe.1 h1 with h1|h1
   .omega
   .grind
  subst D4;rw[rT a2 b2 ((List.perm_cons x).1 h)]
theorem Wn{c l:List Int}(h:c.Perm l)(hs:c.Pairwise (·<=·)):c=srt l:=rT hs (JV l) (h.trans (pC l).symm)
def cS(es:List Ed)(v:Int):List Int:=srt (nbH v (hfs (sE es)))
def adj(es:List Ed)(v w:Int):Prop:=∃ x∈es,(x.a=v/\x.b=w)\/(x.a=w/\x.b=v)
theorem Mk{es:List Ed}{v w:Int}:w∈cS es v↔adj es v w:=by
 unfold cS;rw[(pC _).mem_iff,TQ,TF];constructor
 .rintro⟨x,hx,h⟩;refine⟨x,vN _ _ hx,?_⟩;omega
 .rintro⟨x,hx,h⟩;obtain⟨y,hy,hb⟩:=QV _ _ hx;refine⟨y,hy,?_⟩;rw[qP]at hb;rcases h with⟨h1,h2⟩|⟨h1,h2⟩<;>rcases hb with⟨b1,b2⟩|⟨b1,b2⟩
  .omega
  .omega
  .omega
  omega
instance (es:List Ed) (v w:Int):Decidable (adj es v w):=by unfold adj;exact inferInstance
theorem NC(es:List Ed)(v:Int):(cS es v).length<=2*es.length:=by
 have h1:=(pC (nbH v (hfs (sE es)))).length_eq
 grind [zG,Eh,oH,cS]
abbrev Led:=List (Int×Int)
def jS(A:Led)(v:Int):Option Int:=match A with
 |[]=>none
 |p::A=>if v=p.1 then some p.2 else jS A v
theorem BN{v:Int}:∀ {A:Led},v∉A.map (·.1)->jS A v=none
 |[],_=>rfl
 |p::A,h=>by simp only[aAn,aAe,aCp]at h;simp only[jS];rw[aAa h.1,BN h.2]
theorem AU{v:Int}:∀ {A:Led},v∈A.map (·.1)->∃ w,jS A v=some w
 |[],h=>by grind
 |p::A,h=>by
  simp only[jS];by_cases e:v=p.1
  .simp_all
  .rw[aAa e];simp only[aAn,aAe]at h;exact AU (h.resolve_left e)
structure BF where
 A:Led
 Q:List Int
 hit:Bool
def gA(may:Int->Bool)(to v:Int)(S:BF)(u:Int):BF:=
 if S.hit=true then S else if u∈S.A.map (·.1)then S else if u=to then⟨S.A++[(u,v)],S.Q,true⟩else⟨S.A++[(u,v)],if may u=true then S.Q++[u]else S.Q,false⟩
def dO(may:Int->Bool)(to v:Int)(S:BF)(l:List Int):BF:=l.foldl (gA may to v) S
theorem DU(may:Int->Bool)(to v:Int){S:BF}(h:S.hit=true)(l:List Int):dO may to v S l=S:=by
 induction l with
 |nil=>rfl
 |cons u l ih=>grind [dO,gA]
theorem Jl(may:Int->Bool)(to v:Int)(S:BF)(l:List Int)(u:Int):dO may to v S (l++[u])=gA may to v (dO may to v S l) u:=by grind [dO]
theorem Ct(may:Int->Bool)(to v:Int)(S:BF)(l:List Int):(dO may to v S l).Q.length<=S.Q.length+l.length/\(dO may to v S l).A.length<=S.A.length+l.length:=by
 induction l generalizing S with
 |nil=>simp[dO]
 |cons u l ih=>
  have:=ih (gA may to v S u);have h1:(gA may to v S u).Q.length<=S.Q.length+1/\(gA may to v S u).A.length<=S.A.length+1:=by
   unfold gA
   split
   .omega
   .grind
  grind [dO]
def bfs(near:Int->List Int)(may:Int->Bool)(to:Int):Nat->Led->List Int->Option (Option Led)
 |_,_,[]=>some none
 |0,_,_::_=>none
 |n+1,A,v::Q=>if(dO may to v ⟨A,Q,false⟩ (near v)).hit=true then some (some (dO may to v ⟨A,Q,false⟩ (near v)).A)else bfs near may to n (dO may to v ⟨A,Q,false⟩ (near v)).A (dO may to v ⟨A,Q,false⟩ (near v)).Q
def iF(A:Led)(Qv:Int):Nat->Int->Option (List Int)
 |0,v=>if v=Qv then some []else none
 |n+1,v=>if v=Qv then some []else(iF A Qv n ((jS A v).getD 0)).map fun l=>(jS A v).getD 0::l
theorem Dk{A:Led}{Qv:Int}:∀ {n:Nat} {v:Int} {l:List Int},iF A Qv n v=some l->l.length<=n
 |0,v,l,h=>by
  grind [iF]
 |n+1,v,l,h=>by
  simp only[iF]at h
  split at h
  .grind
  .rw[aBe]at h;obtain⟨l',h1,rfl⟩:=h;have:=Dk h1
   grind
def tM(vs:List Int)(near:Int->List Int)(may:Int->Bool)(Qv to:Int)(n:Nat):Option (List Int):=
 if Qv∉vs\/to∉vs then some []else if Qv=to then some [Qv]else match bfs near may to n [(Qv,Qv)] [Qv] with
  |some none=>some []
  |some (some A)=>(iF A Qv n to).map fun l=>(to::l).reverse
  |none=>none
def kE(x:Ed):List Int:=[if x.b<x.a then x.b else x.a,if x.a<x.b then x.b else x.a]
theorem Il(x y:Ed):kE x=kE y↔bes x y=true:=by
 grind [qP,kE]
def bnd(l:List Ed):List (List Int):=(sE l).map fun y=>(l.filter fun x=>bes y x).map (·.id)
theorem Sb(l:List Ed):(bnd l).length=(sE l).length:=by simp[bnd]
theorem LM{l:List Ed}{x:Ed}(h:(sE l).any (bes x)=false):sE (l++[x])=sE l++[x]/\bnd (l++[x])=bnd l++[[x.id]]:=by
 have h':∀ y∈sE l,bes x y=false:=fun y hy=>by
  grind
 have hs:sE (l++[x])=sE l++[x]:=by rw[lU,h];rfl
 refine⟨hs,?_⟩;unfold bnd;rw[hs,aAu]
 congr 1
 .grind [List.map_congr_left,uE]
 .have:l.filter (fun z=>bes x z)=[]:=by rw[aDm];intro z hz hb;obtain⟨y,hy,h2⟩:=QV l z hz;have:=h' y hy;rw[wL hb h2]at this;cases this
  grind [IM]
theorem TC{l:List Ed}{x:Ed}(h:(sE l).any (bes x)=true):sE (l++[x])=sE l/\∃ L1 y L2 B1 r B2,sE l=L1++y::L2/\bes x y=true/\bnd l=B1++r::B2/\B1.length=L1.length/\bnd (l++[x])=B1++(r++[x.id])::B2/\r.length<=l.length:=by
 have hs:sE (l++[x])=sE l:=by rw[lU,h];rfl
 refine⟨hs,?_⟩;obtain⟨y,hy,hb⟩:=List.any_eq_true.1 h;obtain⟨L1,L2,hL⟩:=aBi hy;have hap:=HH l;rw[hL,aCj,aBl]at hap;obtain⟨_,⟨p2,_⟩,p3⟩:=hap;have x9:∀ z,(z∈L1\/z∈L2)->bes z x=false:=by
  intro z hz;cases hzx:bes z x with
  |false=>rfl
  |true=>
   grind [wL,uE]
 refine⟨L1,y,L2,_,_,_,hL,hb,by unfold bnd;rw[hL,aAu,aAn],sS,?_,?_⟩
 .unfold bnd;rw[hs,hL,aAu,aAn]
  grind [List.map_congr_left,uE]
 grind
structure AtM(l:List Ed)(es:List (List Int×LV)):Prop where
 old:∀ x L1 y L2,sE l=L1++y::L2->bes x y=true->bS es (kE x)=some (i L1.length)
 new:∀ x,(sE l).any (bes x)=false->bS es (kE x)=none
theorem AtM.nil:AtM [] []:=⟨fun x L1 y L2 h _=>by grind [sE],fun x _=>rfl⟩
theorem AtM.keep{l:List Ed}{es:List (List Int×LV)}(h:AtM l es){x:Ed}(hx:sE (l++[x])=sE l):AtM (l++[x]) es:=
 ⟨by rw[hx];exact h.old,by rw[hx];exact h.new⟩
theorem AtM.add{l:List Ed}{es:List (List Int×LV)}(h:AtM l es){x:Ed}(hx:(sE l).any (bes x)=false):AtM (l++[x]) (bV es (kE x) (i (sE l).length)):=by
 have hs:=(LM hx).1;constructor
 .intro z L1 y L2 hL hb;rw[hs]at hL;rw[rF];rcases aEa L2 with rfl|⟨L2',y',rfl⟩
  .grind [List.append_inj',Il]
  .rw[aEb,show L1++y::(L2'++[y'])=(L1++y::L2')++[y'] by simp]at hL;obtain⟨h1,h2⟩:=List.append_inj' hL rfl;rw[aAa,h.old z L1 y L2' h1 hb]
   grind [wL,Il]
 .intro z hz;rw[hs,List.any_append,Bool.or_eq_false_iff]at hz;rw[rF,aAa,h.new z hz.1]
  grind [Il]
abbrev TR:=Nat×List Int
def Gw(p:TR):LV:=.sl p.1 p.2.length (us p.2)
def bP(R:List TR):List LV:=R.map Gw
theorem lE(R:List TR):(bP R).length=R.length:=by simp[bP]
structure Zt(E:List Ed)(j8:St)(L2 L4 M te q:Nat)(vs:List Int)(mes:List (List Int×LV))(R:List TR)(s:St):Prop where
 h2:s.H L2=.box 25 2 [.nil,.nil]
 h4:s.H L4=.box 25 2 [.sl 0 vs.length (us vs),.sl te (sE E).length (eds (sE E))]
 ht:s.H te=.own 36 3 (sE E).length
 hM:s.H M=.map true [.u32,.u32] mes
 hq:s.H q=.box 22 1 (bP R)
 bn:R.map (·.2)=bnd E
 at':AtM E mes
 nd:(R.map (·.1)).Nodup
 tk:∀ p∈R,j8.next<=p.1/\p.1<s.next/\s.H p.1=.own 34 1 p.2.length
 b:j8.next<=L2/\j8.next<=L4/\j8.next<=M/\j8.next<=te/\j8.next<=q/\L2<s.next/\L4<s.next/\M<s.next/\te<s.next/\q<s.next
 kp:aA j8 s
def ZR(g:Gr)(j8:St)(L2 L4 M k:Nat)(fr:Frm)(s:St):Prop:=
 fr 2=.pt L2 0/\fr 4=.pt L4 0/\fr 6=.mp M/\fr 18=.sl 0 g.es.length (eds g.es)/\fr 19=i g.es.length/\fr 20=i k/\
 ∃ te q mes R,fr 5=.ms q 0 R.length/\Zt (g.es.take k) j8 L2 L4 M te q g.vs mes R s
theorem bU{st:St}{a b:Nat}{x y:cN}(ha:st.H a=x)(hb:st.H b=y)(h:x≠y):¬a=b:=fun e=>h (by rw[<- ha,e,hb])
theorem yN(l:List Ed):z0L (eds l)=eds l:=by
 induction l with
 |nil=>rfl
 |cons e l ih=>simp only[eds,aAJ,List.cons_append,List.nil_append,z0L,z0]at ih ⊢;rw[ih]
theorem Nl(R:List TR):z0L (bP R)=R.map fun p=>.sl 0 p.2.length (us p.2):=by rw[nK,bP,aAZ];refine aAP fun p _=>?_;simp[Gw,z0]
theorem QE(g:Gr)(st:St)(hv:g.vs.length<=1048576)(he:g.es.length<=1000)(hp:0<st.next):
 aB prog 59 [.ag (grL g)] st fun r st'=>r=.tu [.ag [.sl 0 g.vs.length (us g.vs),.sl 0 (sE g.es).length (eds (sE g.es))],.sl 0 (bnd g.es).length ((bnd g.es).map fun l=>.sl 0 l.length (us l))]/\aA st st':=by
 refine eR ?_;have hel:=aJ g.es;refine zN func59 ntmps59 [.cell 2 25,.tmp 3] ?_
 (refine xj0 ?_;intro J hJ)
 refine qE (QA g.vs 0 _ hv) (by simp[]) ?_;rintro r st' ⟨rfl,j7⟩;have I2:=j7.next;simp only[aG]at I2;have O2:st'.H st.next=.box 25 2 (grL g):=by rw[j7.H _ (by simp<;>omega)];simp
 have hC1:st'.H (st.next+1)=.box 25 2 [.nil,.nil]:=by rw[j7.H _ sS];simp
 have j5:aA st st':=((aA.new _ _).trans (aA.new _ _)).trans j7;generalize hL:st'=s1 at *;have e1:¬st.next=s1.next:=oO;have e2:¬st.next=s1.next+1:=oO;refine nR hJ e1 e2 O2 ?_;refine Gj s1.next 36 3 (e:=25) (s:=2) [.sl 0 g.vs.length (us g.vs)] [] sS ?_;refine tV 5 22 1 sS ?_;refine qL (fun n fr s=>∃ k:Nat,k<=g.es.length/\n=g.es.length-k/\ZR g st (st.next+1) s1.next (s1.next+1) k fr s) g.es.length ?_ ?_
 .refine⟨0,oO,oO,sS,sS,sS,sS,sS,sS,s1.next+2,s1.next+3,[],[],sS,?_⟩;have h5:¬st.next=s1.next+2:=oO;have h1:¬st.next+1=s1.next:=oO;refine⟨sF5 h1 h5 e1 e2 hC1,by simp[sE]<;>omega,by simp[sE],sS,by simp[bP],by simp[bnd,sE],AtM.nil,sS,sS,⟨oO,oO,oO,oO,oO,by simp<;>omega,by simp<;>omega,sS,sS,sS⟩,?_⟩;exact(((((j5.trans (aA.new _ _)).trans (aA.new _ _)).trans (aA.new _ _)).set oO _).trans (aA.new _ _))
 rintro n fr s ⟨k,hk,rfl,f2,f4,f6,f18,f19,f20,te,q,mes,R,f5,hB⟩ JJ hJJ;obtain⟨H2,H4,Ht,HM,Hq,hbn,O7,hnd,C9,⟨b1,b2,b3,b4,b5,b6,b7,b8,b9,b10⟩,hkps⟩:=hB;have q24:¬q=s1.next:=bU Hq H4 sS;by_cases dQ:k<g.es.length;rotate_left
 .clear hJJ;have I4:k=g.es.length:=oO;rw[I4,aAN]at H4 Ht hbn;have L6:(bnd g.es).length=R.length:=by rw[<- hbn,aAD]
  have n1:¬st.next+1=q:=bU H2 Hq sS;have n2:¬s1.next=q:=fun h=>q24 h.symm;have n3:¬s1.next=st.next+1:=oO;have hsl:=oH g.es;refine sK 5 f5 Hq (by simp[lE]) ?_;have htk2:(bP R).take (R.length*1)=bP R:=aAt (by rw[lE];omega);rw[htk2];refine FU f2 f4 f19 f20 dQ H4 H2 n1 n2 n3 ?_;refine⟨?_,(hkps.set oO _).set oO _⟩;rw[L6,<- hbn];simp only[z0,z0L,Hp,yN,Nl,aAZ];rfl
 have hd:=aP g.es k dQ;have hw:=qN k oO;have o9:k*3<g.es.length*3:=oO;have htk1:g.es.take (k+1)=g.es.take k++[g.es.getD k ed0]:=by rw[aAg,aAh dQ];exact aAp dQ
 have hEl:(g.es.take k).length<=1000:=by rw[aAv];omega
 generalize g.es.getD k ed0=x at *;generalize hE:g.es.take k=E at *;obtain⟨id,a,b⟩:=x;simp only at hd;cases hany:(sE E).any (bes ⟨id,a,b⟩)
 .have hm:=O7.new ⟨id,a,b⟩ hany;simp only[kE]at hm;have J7:(List.map (fun _:Ed=>3) (sE E)).sum=(sE E).length*3:=by
   induction sE E with
   |nil=>rfl
   |cons x l ih=>simp only[aAn,List.sum_cons,List.length_cons,ih];omega
  have hsl:=oH E;have te0:¬te=0:=oO;have o8:=lE R;have hRl:R.length=(sE E).length:=by rw[<- Sb,<- hbn,aAD]
  have htR:List.take R.length (bP R)=bP R:=aAt oO;have Y0:List.drop R.length (bP R++[LV.nil])=[.nil]:=by rw[<- o8];exact aCN
  have htl:List.take R.length (bP R++[LV.nil])=bP R:=by rw[<- o8];exact aDg
  have hdl2:List.drop (R.length+1) (bP R++[LV.nil])=[]:=List.drop_eq_nil_of_le (sF1 o8);have hRn:((R.length:Int)).toNat=R.length:=oO;have c0:¬s1.next=s.next:=oO;have c0':¬s.next=s1.next:=oO;have c1:¬s1.next=s.next+1:=oO;have c1':¬s.next+1=s1.next:=oO;have c2:¬s1.next=s.next+2:=oO;have c2':¬s.next+2=s1.next:=oO;have c3:¬s1.next=s.next+3:=oO;have c3':¬s.next+3=s1.next:=oO;have c4:¬s1.next=s.next+4:=oO;have c4':¬s.next+4=s1.next:=oO;have e0:¬te=s.next:=oO;have e0':¬s.next=te:=oO;have e1:¬te=s.next+1:=oO;have e1':¬s.next+1=te:=oO;have e2:¬te=s.next+2:=oO;have e2':¬s.next+2=te:=oO;have e3:¬te=s.next+3:=oO;have e3':¬s.next+3=te:=oO;have e4:¬te=s.next+4:=oO;have e4':¬s.next+4=te:=oO;have d0:¬q=s.next:=oO;have d0':¬s.next=q:=oO;have d1:¬q=s.next+1:=oO;have d1':¬s.next+1=q:=oO;have d2:¬q=s.next+2:=oO;have d2':¬s.next+2=q:=oO;have d3:¬q=s.next+3:=oO;have d3':¬s.next+3=q:=oO;have d4:¬q=s.next+4:=oO;have d4':¬s.next+4=q:=oO;have c9:¬s1.next+1=s.next:=oO;have c9':¬s.next=s1.next+1:=oO;have n1:¬te=s1.next:=bU Ht H4 sS;have n2:¬te=s1.next+1:=bU Ht HM sS;have n3:¬q=s1.next+1:=bU Hq HM sS;have n4:¬q=te:=bU Hq Ht sS;have n1':¬s1.next=te:=fun h=>n1 h.symm;have n2':¬s1.next+1=te:=fun h=>n2 h.symm;have n3':¬s1.next+1=q:=fun h=>n3 h.symm;have n4':¬te=q:=fun h=>n4 h.symm;have n5':¬s1.next=q:=fun h=>q24 h.symm;have r2:¬s.next=s.next+1+1:=oO;have r3:¬s.next=s.next+1+1+1:=oO;have r4:¬s.next=s.next+1+1+1+1:=oO;have r5:¬s.next=s.next+1+1+1+1+1:=oO;have r6:¬s.next=s.next+1+1+1+1+1+1:=oO;have r7:¬s.next=s.next+1+1+1+1+1+1+1:=oO;have p1:R.length<R.length+1:=oO
  (repeat' (first|apply qS|apply qB|refine qK (zZ ?_)|(apply qC;simp[o8,htR,J7,te0,c0,c0',c1,c1',c2,c2',c3,c3',c4,c4',e0,e0',e1,e1',e2,e2',e3,e3',e4,e4',d0,d0',d1,d1',d2,d2',d3,d3',d4,d4',c9,c9',n1,n2,n3,n4,n1',n2',n3',n4',n5',Ht,Hq,q24,f4,f5,f6,f18,f19,f20,dQ,hd,hel,o9,hw,H4,HM,hm])|(refine zE ?_;intro J hJ;simp[o8,htR,J7,te0,c0,c0',c1,c1',c2,c2',c3,c3',c4,c4',e0,e0',e1,e1',e2,e2',e3,e3',e4,e4',d0,d0',d1,d1',d2,d2',d3,d3',d4,d4',c9,c9',n1,n2,n3,n4,n1',n2',n3',n4',n5',Ht,Hq,q24,f4,f5,f6,f18,f19,f20,dQ,hd,hel,o9,hw,H4,HM,hm];(repeat refine ca ?_);(refine zJ hJ ?_;clear hJ J))))
  (refine zS [] [s.next,s.next+1+1+1+1+1] [0,2,4,6,8,10,12,14,16,18,20,23] ?_;intro J hJ;simp[r2,r3,r4,r5,r6,r7,c0,c0',c1,c1',c2,c2',c3,c3',c4,c4',e0,e0',e1,e1',e2,e2',e3,e3',e4,e4',d0,d0',d1,d1',d2,d2',d3,d3',d4,d4',c9,c9',n1,n2,n3,n4,n1',n2',n3',n4',n5',o8,htR,Y0,htl,hdl2,p1];(repeat refine ca ?_);(refine zJ hJ ?_;clear hJ J))
  refine xw2 f20 hw ?_;have l1:¬st.next+1=te:=bU H2 Ht sS;have l2:¬st.next+1=q:=bU H2 Hq sS;obtain⟨hs,hb⟩:=LM hany;refine hJJ (g.es.length-(k+1)) _ _ oO ⟨k+1,oO,rfl,sF1 f2,sF1 f4,sF1 f6,sF1 f18,sF1 f19,sS,s.next+3,s.next+5,bV mes (kE ⟨id,a,b⟩) (i (sE E).length),R++[(s.next+7,[id])],sS,?_⟩;rw[htk1];refine⟨?_,?_,?_,?_,?_,?_,O7.add hany,?_,?_,?_,?_⟩
  ·(repeat (first|rw[nHh nOo]|rw[sHh oO]|rw[nIi nQq]|rw[sIi oO]));exact H2
  ·(repeat (first|rw[nHh nOo]|rw[sHh oO]|rw[nIi nQq]|rw[sIi oO]));rw[hs];simp[eds]
  ·(repeat (first|rw[nHh nOo]|rw[sHh oO]|rw[nIi nQq]|rw[sIi oO]));rw[hs];simp
  ·(repeat (first|rw[nHh nOo]|rw[sHh oO]|rw[nIi nQq]|rw[sIi oO]));rw[hRl];rfl
  ·(repeat (first|rw[nHh nOo]|rw[sHh oO]|rw[nIi nQq]|rw[sIi oO]));simp[bP,Gw]
  .rw[aAu,hbn,hb];rfl
  .rw[aAu,aAo];refine⟨hnd,sS,fun x hx y hy=>?_⟩;obtain⟨p,hp,rfl⟩:=aAj.1 hx;simp at hy;have:=(C9 p hp).2.1;omega
  .intro p hp;rcases aAd.1 hp with hp|hp
   .obtain⟨h1,h2,h3⟩:=C9 p hp;have t1:¬p.1=te:=bU h3 Ht sS;have t2:¬p.1=q:=bU h3 Hq sS;have t3:¬p.1=s1.next:=bU h3 H4 sS;have t4:¬p.1=s1.next+1:=bU h3 HM sS;refine⟨h1,by simp<;>omega,?_⟩
    (repeat (first|rw[nHh nOo]|rw[sHh oO]|rw[nIi nQq]|rw[sIi oO]));exact h3
   .rw[aAi]at hp;subst hp;refine⟨by simp<;>omega,sS,?_⟩
    (repeat (first|rw[nHh nOo]|rw[sHh oO]|rw[nIi nQq]|rw[sIi oO]));rfl
  .simp only[bH,aG];omega
  .refine⟨by have:=hkps.next;simp only[bH,aG];omega,fun l hl=>?_⟩
   (repeat (first|rw[nHh nOo]|rw[sHh oO]|rw[nIi nQq]|rw[sIi oO]));exact hkps.H l hl
 obtain⟨hs,L1,y,L2,B1,r,B2,hL,hyb,hB0,hBl,S1,hrl⟩:=TC hany;have hm:=O7.old ⟨id,a,b⟩ L1 y L2 hL hyb;simp only[kE]at hm;rw[hB0]at hbn;obtain⟨R1,R',rfl,hR1,hR'⟩:=List.map_eq_append_iff.1 hbn;obtain⟨p,R2,rfl,hpr,hR2⟩:=List.map_eq_cons_iff.1 hR';obtain⟨t0,r0⟩:=p;simp only at hpr;subst hpr;obtain⟨hb1,P3,hb3⟩:=C9 (t0,r0) sS;simp only at hb1 P3 hb3;have hR1l:R1.length=L1.length:=by rw[<- hBl,<- hR1,aAD]
 have o8:(bP (R1++(t0,r0)::R2)).length=R1.length+(R2.length+1):=by rw[lE];simp
 have hRl:(R1++(t0,r0)::R2).length=R1.length+(R2.length+1):=sS;have I0:bP (R1++(t0,r0)::R2)=bP R1++.sl t0 r0.length (us r0)::bP R2:=by simp[bP,Gw]
 have V6:(bP R1).length=R1.length:=lE R1;have Y0:List.drop R1.length (bP R1++LV.sl t0 r0.length (us r0)::bP R2)=.sl t0 r0.length (us r0)::bP R2:=by rw[<- V6];exact aCN
 have htl:List.take R1.length (bP R1++LV.sl t0 r0.length (us r0)::bP R2)=bP R1:=by rw[<- V6];exact aDg
 have hdl2:List.drop (R1.length+1) (bP R1++LV.sl t0 r0.length (us r0)::bP R2)=bP R2:=by rw[<- V6,show bP R1++LV.sl t0 r0.length (us r0)::bP R2=(bP R1++[LV.sl t0 r0.length (us r0)])++bP R2 by simp];rw[show(bP R1).length+1=(bP R1++[LV.sl t0 r0.length (us r0)]).length by simp];exact aCN
 rw[hRl]at f5;rw[I0]at Hq;rw[<- hR1l]at hm;have t00:¬t0=0:=oO;have m1:¬s1.next=s.next:=oO;have m1':¬s.next=s1.next:=oO;have m2:¬s1.next+1=s.next:=oO;have m2':¬s.next=s1.next+1:=oO;have m5:¬t0=s.next:=oO;have m6:¬t0=s.next+1:=oO;have m6b:¬t0=s.next+2:=oO;have m5':¬s.next=t0:=oO;have m6':¬s.next+1=t0:=oO;have m6b':¬s.next+2=t0:=oO;have m7:¬q=s.next:=oO;have m8:¬q=s.next+1:=oO;have m9:¬q=s.next+2:=oO;have m9b:¬q=s.next+3:=oO;have n4:¬q=t0:=bU Hq hb3 sS;have r2:¬s.next=s.next+1+1:=oO;have r3:¬s.next=s.next+1+1+1:=oO;have p1:R1.length<R1.length+(R2.length+1):=oO;have p2:(R1.length:Int)<(R1.length:Int)+((R2.length:Int)+1):=oO;have hr1:r0.length<=1000:=oO;refine ZX m1 m1' m2 m2' f4 f5 f6 f18 f19 f20 dQ hd hel o9 hw HM hm ?_
 (refine zS [] [s.next,q] [0,2,4,6,8,10,12,14,16,18,20,23] ?_;intro J hJ;simp[m1,m1',m2,m2',m5,m6,m6b,m5',m6',m6b',m7,m8,m9,m9b,n4,r2,r3,f5,Hq,hb3,V6,Y0,htl,hdl2,p1,p2,t00];(repeat refine ca ?_);(refine zJ hJ ?_;clear hJ J))
 refine xw2 f20 hw ?_;have l2:¬st.next+1=q:=bU H2 Hq sS;have l3:¬st.next+1=t0:=bU H2 hb3 sS;have l4:¬s1.next=q:=fun h=>q24 h.symm;have l5:¬s1.next=t0:=bU H4 hb3 sS;have l6:¬s1.next+1=q:=bU HM Hq sS;have l7:¬s1.next+1=t0:=bU HM hb3 sS;have l8:¬te=q:=bU Ht Hq sS;have l9:¬te=t0:=bU Ht hb3 sS;refine hJJ (g.es.length-(k+1)) _ _ oO ⟨k+1,oO,rfl,sF1 f2,sF1 f4,sF1 f6,sF1 f18,sF1 f19,sS,te,q,mes,R1++(s.next+3,r0++[id])::R2,sF1 f5,?_⟩;rw[htk1];have hnd':=hnd;rw[aAu,aAn,aAo,aAq]at hnd';obtain⟨nd1,⟨nd2,nd3⟩,nd4⟩:=hnd';refine⟨?_,?_,?_,?_,?_,?_,O7.keep hs,?_,?_,?_,?_⟩
 ·(repeat (first|rw[nHh nOo]|rw[sHh oO]|rw[nIi nQq]|rw[sIi oO]));exact H2
 ·(repeat (first|rw[nHh nOo]|rw[sHh oO]|rw[nIi nQq]|rw[sIi oO]));rw[hs];exact H4
 ·(repeat (first|rw[nHh nOo]|rw[sHh oO]|rw[nIi nQq]|rw[sIi oO]));rw[hs];exact Ht
 ·(repeat (first|rw[nHh nOo]|rw[sHh oO]|rw[nIi nQq]|rw[sIi oO]));exact HM
 ·(repeat (first|rw[nHh nOo]|rw[sHh oO]|rw[nIi nQq]|rw[sIi oO]));simp[bP,Gw]
 .rw[S1,aAu,aAn,hR1,hR2]
 .rw[aAu,aAn,aAo,aAq];have lt1:∀ x∈R1.map (·.1),x<s.next:=fun x hx=>by obtain⟨p,hp,rfl⟩:=aAj.1 hx;exact(C9 p (sF1 hp)).2.1
  have lt2:∀ x∈R2.map (·.1),x<s.next:=fun x hx=>by obtain⟨p,hp,rfl⟩:=aAj.1 hx;exact(C9 p (sF1 hp)).2.1
  refine⟨nd1,⟨fun h=>by have:=lt2 _ h;omega,nd3⟩,fun x hx y hy=>?_⟩;rcases aAe.1 hy with rfl|hy
  .have:=lt1 x hx;simp only;omega
  .exact nd4 x hx y (aAc _ hy)
 .intro p hp;have old:∀ p,p∈R1\/p∈R2->¬p.1=t0->st.next<=p.1/\p.1<s.next/\s.H p.1=.own 34 1 p.2.length/\¬p.1=t0/\¬p.1=q:=by intro p hp Zy;obtain⟨h1,h2,h3⟩:=C9 p (by rcases hp with hp|hp<;>simp[hp]);exact⟨h1,h2,h3,Zy,bU h3 Hq sS⟩
  have O1:(p∈R1\/p∈R2)/\¬p.1=t0\/p=(s.next+3,r0++[id]):=by
   rcases aAd.1 hp with hp|hp
   .exact .inl ⟨.inl hp,nd4 _ (aAj.2 ⟨p,hp,rfl⟩) t0 sS⟩
   .rcases aAe.1 hp with hp|hp
    .exact .inr hp
    .exact .inl ⟨.inr hp,fun h=>nd2 (by rw[<- h];exact aAj.2 ⟨p,hp,rfl⟩)⟩
  rcases O1 with⟨hp,Zy⟩|rfl
  .obtain⟨h1,h2,h3,t1,t2⟩:=old p hp Zy;refine⟨h1,by simp only[bH,aG];omega,?_⟩
   (repeat (first|rw[nHh nOo]|rw[sHh oO]|rw[nIi nQq]|rw[sIi oO]));exact h3
  .refine⟨by simp only;omega,sS,?_⟩;simp only
   (repeat (first|rw[nHh nOo]|rw[sHh oO]|rw[nIi nQq]|rw[sIi oO]));simp
 .simp only[bH,aG];omega
 .refine⟨by have:=hkps.next;simp only[bH,aG];omega,fun l hl=>?_⟩
  (repeat (first|rw[nHh nOo]|rw[sHh oO]|rw[nIi nQq]|rw[sIi oO]));exact hkps.H l hl
end Aw
end Go.Proofs.YtbgngpdonpeboaaGreatDoor
