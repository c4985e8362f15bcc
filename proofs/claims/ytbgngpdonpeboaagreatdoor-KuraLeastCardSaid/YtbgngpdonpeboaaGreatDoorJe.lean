/- T1 at edges and at numbers: written by gentt.py. -/
import Derived.Test.YtbgngpdonpeboaaGreatDoorJd
set_option linter.unusedVariables false
set_option linter.unusedSimpArgs false
set_option linter.defProp false
set_option maxHeartbeats 4000000
open Go.Proofs.Tryz
namespace Go.Proofs.YtbgngpdonpeboaaGreatDoor
theorem Aw.U.zns:True:=trivial
open Go Go.RowKit Pl Aw
open Aw.U
namespace Aw
theorem DB(l:List Ed)(j:Nat)(hj:j<l.length):l.getD j ed0=l[j]:=by
 grind
theorem KE(a b:List Ed):eds (a++b)=eds a++eds b:=by grind
theorem XJ(l:List Ed)(k:Nat):(eds l).take (k*3)=eds (l.take k):=by
 induction l generalizing k with
 |nil=>grind
 |cons x l ih=>
  cases k with
  |zero=>grind
  |succ k=>
   grind
theorem XO(l:List Ed)(k:Nat):(eds l).drop (k*3)=eds (l.drop k):=by
 induction l generalizing k with
 |nil=>grind
 |cons x l ih=>
  cases k with
  |zero=>grind
  |succ k=>
   grind
theorem jH(l:List Ed)(k:Nat)(x:Ed)(hk:k<l.length):(eds l).take (k*3)++(u x.id::u x.a::u x.b::(eds l).drop (k*3+3))=eds (l.set k x):=by rw[show k*3+3=(k+1)*3 by omega,XJ,XO,aBK,aAj hk,KE];rfl
end Aw
namespace Aw.U
abbrev Cn{α:Type}(_:List α):Type:=α
structure Nu where
 id:Int
def ed0:Nu:=⟨0⟩
def eds(l:List Nu):List LV:=us (l.map Nu.id)
theorem DB(l:List Nu)(j:Nat)(hj:j<l.length):l.getD j ed0=l[j]:=by
 grind
theorem aI(l:List Nu):(eds l).length=l.length:=by unfold eds;grind
theorem aL(l:List Nu)(k:Nat)(hk:k<l.length):(eds l).drop k=u (l.getD k ed0).id::eds (l.drop (k+1)):=by unfold eds us;rw[<- aCJ,<- aCJ,aAL hk,DB l k hk];rfl
theorem jH(l:List Nu)(k:Nat)(x:Nu)(hk:k<l.length):(eds l).take k++(u x.id::(eds l).drop (k+1))=eds (l.set k x):=by
 unfold eds
 grind [Fu,List.map_set]
@[simp] abbrev bxo(l:List Nu):cI:=.box 34 1 (eds l)
end Aw.U
namespace Aw
@[simp] abbrev bxo(l:List Ed):cI:=.box 36 3 (eds l)
def be(st:St)(q:Nat)(c:List Ed):St:=st.set q (.box 36 3 (eds c))
end Aw
namespace Aw.U
def be(st:St)(q:Nat)(c:List Nu):St:=st.set q (.box 34 1 (eds c))
end Aw.U
namespace Aw
@[simp] theorem TU(st:St)(q:Nat)(c:List Ed):(be st q c).next=st.next:=rfl
@[simp] theorem WV(st:St)(q:Nat)(c:List Ed):(be st q c).H q=.box 36 3 (eds c):=by simp[be]
theorem QJ(st:St)(q l:Nat)(c:List Ed)(h:l≠q):(be st q c).H l=st.H l:=by simp[be,h]
end Aw
namespace Aw.U
@[simp] theorem TU(st:St)(q:Nat)(c:List Nu):(be st q c).next=st.next:=rfl
@[simp] theorem WV(st:St)(q:Nat)(c:List Nu):(be st q c).H q=.box 34 1 (eds c):=by simp[be]
theorem QJ(st:St)(q l:Nat)(c:List Nu)(h:l≠q):(be st q c).H l=st.H l:=by simp[be,h]
end Aw.U
namespace Aw
theorem BV(st:St)(q:Nat)(c d:List Ed):be (be st q c) q d=be st q d:=by grind [be,St.set_set]
end Aw
namespace Aw.U
theorem BV(st:St)(q:Nat)(c d:List Nu):be (be st q c) q d=be st q d:=by grind [be,St.set_set]
end Aw.U
namespace Aw
theorem GH{st:St}{q:Nat}{c:List Ed}(h:st.H q=.box 36 3 (eds c)):be st q c=st:=St.ext' rfl fun y=>by
 grind [WV,QJ]
end Aw
namespace Aw.U
theorem GH{st:St}{q:Nat}{c:List Nu}(h:st.H q=.box 34 1 (eds c)):be st q c=st:=St.ext' rfl fun y=>by
 grind [WV,QJ]
end Aw.U
namespace Aw
theorem KV(st:St)(q:Nat)(c:List Ed)(k:Nat)(x:Ed)(hk:k<c.length):(be st q c).set q (.box 36 3 ((eds c).take (k*3)++(u x.id::u x.a::u x.b::(eds c).drop (k*3+3))))=be st q (c.set k x):=by
 grind [jH,be,St.set_set]
end Aw
namespace Aw.U
theorem KV(st:St)(q:Nat)(c:List Nu)(k:Nat)(x:Nu)(hk:k<c.length):(be st q c).set q (.box 34 1 ((eds c).take k++(u x.id::(eds c).drop (k+1))))=be st q (c.set k x):=by
 grind [jH,be,St.set_set]
end Aw.U
namespace Aw
theorem Ja(st:St)(q:Nat)(c d:List Ed):(be st q c).set q (.box 36 3 (eds d))=be st q d:=by grind [be,St.set_set]
end Aw
namespace Aw.U
theorem Ja(st:St)(q:Nat)(c d:List Nu):(be st q c).set q (.box 34 1 (eds d))=be st q d:=by grind [be,St.set_set]
end Aw.U
namespace Aw
def swR(c:List Ed)(a b:Nat):Nat->List Ed
 |0=>c
 |n+1=>swR ((c.set a (c.getD b ed0)).set b (c.getD a ed0)) (a+1) (b+1) n
end Aw
namespace Aw.U
def swR(c:List Nu)(a b:Nat):Nat->List Nu
 |0=>c
 |n+1=>swR ((c.set a (c.getD b ed0)).set b (c.getD a ed0)) (a+1) (b+1) n
end Aw.U
namespace Aw
theorem zD{α:Type}(U:List α)(x y:α)(W:List α):(U++x::W).set U.length y=U++y::W:=by
 grind
theorem pT(U:List Ed)(x:Ed)(W:List Ed):(U++x::W).getD U.length ed0=x:=by
 grind
end Aw
namespace Aw.U
theorem pT(U:List Nu)(x:Nu)(W:List Nu):(U++x::W).getD U.length ed0=x:=by
 grind
end Aw.U
namespace Aw
theorem iP:∀(n:Nat) (U A M B V:List Ed),A.length=n->B.length=n->swR (U++A++M++B++V) U.length (U.length+n+M.length) n=U++B++M++A++V
 |0,U,A,M,B,V,hA,hB=>by rw[aAK hA,aAK hB];rfl
 |n+1,U,x::A,M,y::B,V,hA,hB=>by
  simp only[List.length_cons,aDX]at hA hB;rw[swR];have e1:U++x::A++M++y::B++V=U++x::(A++M++y::B++V):=sS;have e2:U++x::(A++M++y::B++V)=(U++x::A++M)++y::(B++V):=sS;have l2:U.length+(n+1)+M.length=(U++x::A++M).length:=by simp[hA];omega
  have g1:(U++x::A++M++y::B++V).getD U.length ed0=x:=by rw[e1,pT]
  have g2:(U++x::A++M++y::B++V).getD (U.length+(n+1)+M.length) ed0=y:=by rw[e1,e2,l2,pT]
  rw[g1,g2,e1,zD];have e3:U++y::(A++M++y::B++V)=(U++y::A++M)++y::(B++V):=sS;have l3:U.length+(n+1)+M.length=(U++y::A++M).length:=by simp[hA];omega
  rw[e3,l3,zD,<- l3];have e4:U++y::A++M++x::(B++V)=(U++[y])++A++(M++[x])++B++V:=sS;have l4:U.length+(n+1)+M.length+1=(U++[y]).length+n+(M++[x]).length:=by simp;omega
  have l5:U.length+1=(U++[y]).length:=sS;rw[e4,l4,l5,iP n (U++[y]) A (M++[x]) B V hA hB];simp
end Aw
namespace Aw.U
theorem iP:∀(n:Nat) (U A M B V:List Nu),A.length=n->B.length=n->swR (U++A++M++B++V) U.length (U.length+n+M.length) n=U++B++M++A++V
 |0,U,A,M,B,V,hA,hB=>by rw[aAK hA,aAK hB];rfl
 |n+1,U,x::A,M,y::B,V,hA,hB=>by
  simp only[List.length_cons,aDX]at hA hB;rw[swR];have e1:U++x::A++M++y::B++V=U++x::(A++M++y::B++V):=sS;have e2:U++x::(A++M++y::B++V)=(U++x::A++M)++y::(B++V):=sS;have l2:U.length+(n+1)+M.length=(U++x::A++M).length:=by simp[hA];omega
  have g1:(U++x::A++M++y::B++V).getD U.length ed0=x:=by rw[e1,pT]
  have g2:(U++x::A++M++y::B++V).getD (U.length+(n+1)+M.length) ed0=y:=by rw[e1,e2,l2,pT]
  rw[g1,g2,e1,zD];have e3:U++y::(A++M++y::B++V)=(U++y::A++M)++y::(B++V):=sS;have l3:U.length+(n+1)+M.length=(U++y::A++M).length:=by simp[hA];omega
  rw[e3,l3,zD,<- l3];have e4:U++y::A++M++x::(B++V)=(U++[y])++A++(M++[x])++B++V:=sS;have l4:U.length+(n+1)+M.length+1=(U++[y]).length+n+(M++[x]).length:=by simp;omega
  have l5:U.length+1=(U++[y]).length:=sS;rw[e4,l4,l5,iP n (U++[y]) A (M++[x]) B V hA hB];simp
end Aw.U
namespace Aw
theorem xN(n:Int)(h0 : -9223372036854775808<=n)(h1:n<=9223372036854775807):IntKind.i64.wrap n=n:=by
 grind [IntKind.wrap,IntKind.signed,IntKind.bits]
end Aw
theorem uN:(∀(c:List Ed) (q a b n:Nat) (F:Fn) (IQ:List LV) (st:St) (hc:c.length<=100000) (v8:a+n<=b) (hb:b+n<=c.length) (hH:st.H q=.box 36 3 (eds c)),
 aB prog 207 [.ms q 0 c.length,i a,i b,i n,.fn F IQ] st fun r st'=>st'=be st q (swR c a b n))/\(∀(c:List Nu) (q a b n:Nat) (F:Fn) (IQ:List LV) (st:St) (hc:c.length<=100000) (v8:a+n<=b) (hb:b+n<=c.length) (hH:st.H q=.box 34 1 (eds c)),
 aB prog 206 [.ms q 0 c.length,i a,i b,i n,.fn F IQ] st fun r st'=>st'=be st q (swR c a b n)):=by
 refine⟨?_,?_⟩
 all_goals
  intro c q a b n F IQ st hc v8 hb hH
  first|(have _:List Ed:=c;refine zN func207 ntmps207 [] ?_)|refine zN func206 ntmps206 [] ?_
  refine xw0 ?_;refine qL (fun z fr st2=>∃(k:Nat) (d:List (Cn c)),k<=n/\z=n-k/\fr 0=.ms q 0 c.length/\fr 1=i a/\fr 2=i b/\fr 3=i n/\fr 10=i k/\st2=be st q d/\d.length=c.length/\swR d (a+k) (b+k) (n-k)=swR c a b n) n ?_ ?_
  .exact⟨0,c,oO,oO,sS,sS,sS,sS,sS,(GH hH).symm,rfl,rfl⟩
  rintro z fr st2 ⟨k,d,hk,rfl,f0,f1,f2,f3,f10,rfl,hdl,K9⟩ JJ hJJ;by_cases dG:k<n;rotate_left
  .clear hJJ;obtain rfl:k=n:=oO;rw[Nat.sub_self]at K9;refine xw2 f3 f10 ?_;simp;rw[<- K9];rfl
  have hw:=xN ((k:Int)+1) oO oO;have wa:IntKind.i64.wrap ((a:Int)+k)=((a+k:Nat):Int):=zW;have wb:IntKind.i64.wrap ((b:Int)+k)=((b+k:Nat):Int):=zW;have hel:=aI d;have da:=aL d (a+k) oO;have db:=aL d (b+k) oO;have T0:swR ((d.set (a+k) (d.getD (b+k) ed0)).set (b+k) (d.getD (a+k) ed0)) (a+(k+1)) (b+(k+1)) (n-(k+1))=swR c a b n:=by
   (first|rw[<- K9,show n-k=(n-(k+1))+1 by omega,Aw.swR]|rw[<- K9,show n-k=(n-(k+1))+1 by omega,Aw.U.swR]);rfl
  have s1:=fun x=>KV st q d (a+k) x oO;have s2:=fun x y=>KV st q (d.set (a+k) y) (b+k) x (by grind);generalize ha:a+k=pa at *;generalize hbk:b+k=pb at *;have Zo:¬pa=pb:=oO;generalize hxe:d.getD pa ed0=x at *;generalize hye:d.getD pb ed0=y at *;have hA3:pa*3+3<=d.length*3:=oO;have hA1:pa+1<=d.length:=oO;have V5:pb+1<=d.length:=oO;have Z3:pb*3+3<=d.length*3:=oO;have hA4:pa<d.length:=oO;have hB4:pb<d.length:=oO;have s1':=s1 y;have s2':=s2 x y;have hel2:=aI (d.set pa y);rw[aCN]at hel2;refine xw6 f0 f1 f2 f3 f10 dG ?_
  (refine zS [] [q] [0,2,4,6,8,10,12,14,16,18,20,22,24,26,28,30,32,34,36,38,40,43,44,47] ?_;intro J hJ;simp[f0,f1,f2,f10,wa,wb,hdl,da,db,hel];(repeat refine ca ?_);refine zJ hJ ?_)
  have e1:=jH d pa y hA4
  (first|rw[e1,Aw.Ja,s2']|rw[e1,Aw.U.Ja,s2'])
  refine xw2 f10 hw ?_;exact hJJ (n-(k+1)) _ _ oO ⟨k+1,_,oO,rfl,sF1 f0,sF1 f1,sF1 f2,sF1 f3,sS,rfl,sF1 hdl,T0⟩
def Aw.sI:=uN.1
def Aw.U.sI:=uN.2
theorem DC:(∀(P X Y S:List Ed) (q:Nat) (F:Fn) (IQ:List LV) (st:St) (hX:X≠[]) (hY:Y≠[]) (hl:(P++X++Y++S).length<=100000) (hH:st.H q=.box 36 3 (eds (P++X++Y++S))),
 aB prog 189 [.ms q 0 (P++X++Y++S).length,i P.length,i (P.length+X.length:Nat),i (P.length+X.length+Y.length:Nat),.fn F IQ] st fun r st'=>st'=be st q (P++Y++X++S))/\(∀(P X Y S:List Nu) (q:Nat) (F:Fn) (IQ:List LV) (st:St) (hX:X≠[]) (hY:Y≠[]) (hl:(P++X++Y++S).length<=100000) (hH:st.H q=.box 34 1 (eds (P++X++Y++S))),
 aB prog 188 [.ms q 0 (P++X++Y++S).length,i P.length,i (P.length+X.length:Nat),i (P.length+X.length+Y.length:Nat),.fn F IQ] st fun r st'=>st'=be st q (P++Y++X++S)):=by
 refine⟨?_,?_⟩
 all_goals
  intro P X Y S q F IQ st hX hY hl hH;generalize hL:(P++X++Y++S).length=L at *;have hLl:L=P.length+X.length+Y.length+S.length:=by rw[<- hL];simp only[aAn]
  generalize hm:P.length+X.length=m at *;have hX0:0<X.length:=aBi.2 hX;have hY0:0<Y.length:=aBi.2 hY
  first|(have _:List Ed:=P;refine zN func189 ntmps189 [] ?_)|refine zN func188 ntmps188 [] ?_
  have w1:IntKind.i64.wrap ((m:Int)-P.length)=(X.length:Int):=zW;have w2:IntKind.i64.wrap ((m:Int)+Y.length-m)=(Y.length:Int):=zW;refine xw2 w1 w2 ?_;refine qL (fun z fr st2=>∃ U A B V:List (Cn P),z=A.length+B.length/\(A≠[]/\B≠[])/\U.length+A.length=m/\U++B++A++V=P++Y++X++S/\(U++A++B++V).length=L/\st2=be st q (U++A++B++V)/\fr 0=.ms q 0 L/\fr 2=i m/\fr 4=.fn F IQ/\fr 10=i A.length/\fr 11=i B.length) (X.length+Y.length) ?_ ?_
  .exact⟨P,X,Y,S,rfl,⟨hX,hY⟩,hm,rfl,hL,(GH hH).symm,sS,sS,sS,sS,sS⟩
  rintro z fr st2 ⟨U,A,B,V,rfl,⟨hA,hB⟩,hUm,htg,o7,rfl,f0,f2,f4,f10,f11⟩ JJ hJJ;have hA0:0<A.length:=aBi.2 hA;have hB0:0<B.length:=aBi.2 hB;have hcl':L=U.length+A.length+B.length+V.length:=by rw[<- o7];simp only[aAn]
  have wa:IntKind.i64.wrap ((m:Int)-A.length)=(U.length:Int):=zW;by_cases hEq:A.length=B.length
  .clear hJJ;have H6:=sI (U++A++B++V) q U.length m A.length F IQ (be st q (U++A++B++V)) oO oO oO sS;have K9:=iP A.length U A [] B V rfl hEq.symm;simp only[List.length_nil,Nat.add_zero,aAO]at K9
   (first|rw[o7,<- hUm,K9,hUm,Aw.BV,htg]at H6|rw[o7,<- hUm,K9,hUm,Aw.U.BV,htg]at H6)
   generalize U++A++B++V=c0 at *;generalize P++Y++X++S=c1 at *;have wa':=wa;rw[hEq]at wa'
   (repeat' (first|apply qS|refine qX (zZ ?_)|(apply qC;simp[f0,f2,f4,f10,f11,hEq,wa,wa'])|(refine zE ?_;intro J hJ;simp[f0,f2,f4,f10,f11,hEq,wa,wa'];(try refine zJ hJ ?_))))
   refine qE H6 (by simp_all) ?_;rintro r s3 rfl
   (repeat' (apply cS;simp[];refine zJ hJ ?_))
   simp
  .have hEq':¬(A.length:Int)=B.length:=oO;by_cases hgt:B.length<A.length
   .have hA1:(A.take B.length).length=B.length:=by simp;omega
    have hAd:A.take B.length++A.drop B.length=A:=aAE _ _;have hA2:(A.drop B.length).length=A.length-B.length:=sS;generalize A.take B.length=A1 at *;generalize A.drop B.length=A2 at *;have H6:=sI (U++A++B++V) q U.length m B.length F IQ (be st q (U++A++B++V)) oO oO oO sS;have K9:=iP B.length U A1 A2 B V hA1 rfl;have e1:U++A1++A2++B++V=U++A++B++V:=by rw[<- hAd];simp
    have e2:U.length+B.length+A2.length=m:=oO;rw[e1,e2]at K9
    (first|rw[o7,K9,Aw.BV]at H6|rw[o7,K9,Aw.U.BV]at H6)
    have hgt':(B.length:Int)<A.length:=oO;have wb:IntKind.i64.wrap ((A.length:Int)-B.length)=(A2.length:Int):=zW;generalize U++A++B++V=c0 at *;generalize hc1:U++B++A2++A1++V=c1 at H6
    (repeat' (first|apply qS|apply qB|refine qK (zZ ?_)|(apply qC;simp[f0,f2,f4,f10,f11,hEq',hgt',hEq,hgt,wa,wb])|(refine zE ?_;intro J hJ;simp[f0,f2,f4,f10,f11,hEq',hgt',hEq,hgt,wa,wb];(try refine zJ hJ ?_))))
    refine qE H6 sS ?_;rintro r s3 rfl
    (repeat' ((first|(refine zE ?_;intro J hJ)|(apply cS));simp[f10,f11,wb];refine zJ hJ ?_))
    refine hJJ (A2.length+A1.length) _ _ oO ⟨U++B,A2,A1,V,rfl,⟨?_,?_⟩,by grind,?_,?_,by grind,sF1 f0,sF1 f2,sF1 f4,sS,sF2 f11 hA1⟩
    .grind
    .grind
    .grind
    grind [List.length_append]
   .have V5:(B.take (B.length-A.length)).length=B.length-A.length:=sS;have hBd:B.take (B.length-A.length)++B.drop (B.length-A.length)=B:=aAE _ _;have hB2:(B.drop (B.length-A.length)).length=A.length:=by simp;omega
    generalize B.take (B.length-A.length)=B1 at *;generalize B.drop (B.length-A.length)=B2 at *;have H6:=sI (U++A++B++V) q U.length (m+B1.length) A.length F IQ (be st q (U++A++B++V)) oO oO oO sS;have K9:=iP A.length U A B1 B2 V rfl hB2;have e1:U++A++B1++B2++V=U++A++B++V:=by rw[<- hBd];simp
    have e2:U.length+A.length+B1.length=m+B1.length:=oO;rw[e1,e2]at K9
    (first|rw[o7,K9,Aw.BV]at H6|rw[o7,K9,Aw.U.BV]at H6)
    have hgt':¬(B.length:Int)<A.length:=oO;have wb:IntKind.i64.wrap ((B.length:Int)-A.length)=(B1.length:Int):=zW;have wc:IntKind.i64.wrap ((m:Int)+B.length)=(m:Int)+B.length:=zW;have wd:IntKind.i64.wrap ((m:Int)+B.length-A.length)=((m+B1.length:Nat):Int):=zW;generalize U++A++B++V=c0 at *;generalize hc1:U++B2++B1++A++V=c1 at H6
    (repeat' (first|apply qS|apply qB|refine qK (zZ ?_)|(apply qC;simp[f0,f2,f4,f10,f11,hEq',hgt',hEq,hgt,wa,wc,wd])|(refine zE ?_;intro J hJ;simp[f0,f2,f4,f10,f11,hEq',hgt',hEq,hgt,wa,wc,wd];(try refine zJ hJ ?_))))
    refine qE H6 sS ?_;rintro r s3 rfl
    (repeat' ((first|(refine zE ?_;intro J hJ)|(apply cS));simp[f10,f11,wb];refine zJ hJ ?_))
    refine hJJ (B2.length+B1.length) _ _ oO ⟨U,B2,B1,A++V,rfl,⟨?_,?_⟩,oO,?_,?_,by grind,sF1 f0,sF1 f2,sF1 f4,sF2 f10 hB2,sS⟩
    .grind
    .grind
    .grind
    .simp only[aAn];omega
def Aw.Qn:=DC.1
def Aw.U.Qn:=DC.2
open Go Go.RowKit Pl Aw
open Aw.U
namespace Aw
def tP(x y:Ed):Int:=if x.id<y.id then -1 else if y.id<x.id then 1 else 0
end Aw
namespace Aw.U
def tP(x y:Nu):Int:=if x.id<y.id then -1 else if y.id<x.id then 1 else 0
end Aw.U
theorem yQ:(∀(x y:Ed),
 decide (tP x y<0)=decide (x.id<y.id))/\(∀(x y:Nu),
 decide (tP x y<0)=decide (x.id<y.id)):=by
 grind [Aw.tP,Aw.U.tP]
def Aw.qZ:=yQ.1
def Aw.U.qZ:=yQ.2
namespace Aw
structure gU(v7:FuncId)(IQ:List LV)(q:Nat)(Pc:St->Prop):Prop where
 keep:∀ st st',Pc st->bM q st st'->Pc st'
 call:∀ st x y,Pc st->aB prog v7 ([.ag (edL x),.ag (edL y)]++IQ) st fun r st'=>r=i (tP x y)/\aA st st'
end Aw
namespace Aw.U
structure gU(v7:FuncId)(IQ:List LV)(q:Nat)(Pc:St->Prop):Prop where
 keep:∀ st st',Pc st->bM q st st'->Pc st'
 call:∀ st x y,Pc st->aB prog v7 ([u x.id,u y.id]++IQ) st fun r st'=>r=i (tP x y)/\aA st st'
end Aw.U
namespace Aw
def Ris(l:List Ed):Prop:=l.Pairwise fun x y=>x.id<=y.id
end Aw
namespace Aw.U
def Ris(l:List Nu):Prop:=l.Pairwise fun x y=>x.id<=y.id
end Aw.U
namespace Aw
end Aw
namespace Aw.U
end Aw.U
namespace Aw
theorem FM(U:List Ed)(x:Ed)(W:List Ed){j:Nat}(hj:j=U.length):(U++x::W).getD j ed0=x:=by grind
end Aw
namespace Aw.U
theorem FM(U:List Nu)(x:Nu)(W:List Nu){j:Nat}(hj:j=U.length):(U++x::W).getD j ed0=x:=by grind
end Aw.U
namespace Aw
theorem NT{α:Type}(U:List α)(x y:α)(W:List α){j:Nat}(hj:j=U.length):(U++x::W).set j y=U++y::W:=by simp_all
def Vy(P X S:List Ed)(q:Nat)(st:St)(r:LV)(st':St):Prop:=∃ Y,Y.Perm X/\Ris Y/\st'.H q=.box 36 3 (eds (P++Y++S))/\bM q st st'
end Aw
namespace Aw.U
def Vy(P X S:List Nu)(q:Nat)(st:St)(r:LV)(st':St):Prop:=∃ Y,Y.Perm X/\Ris Y/\st'.H q=.box 34 1 (eds (P++Y++S))/\bM q st st'
end Aw.U
theorem BB:(∀ ⦃A B:List Ed⦄ ⦃x:Ed⦄ (h:Ris (A++B)) (h1:∀ y∈A,y.id<=x.id) (h2:∀ y∈B,x.id<=y.id),
 Ris (A++x::B))/\(∀ ⦃A B:List Nu⦄ ⦃x:Nu⦄ (h:Ris (A++B)) (h1:∀ y∈A,y.id<=x.id) (h2:∀ y∈B,x.id<=y.id),
 Ris (A++x::B)):=by
 grind [Aw.Ris,List.pairwise_cons,Aw.U.Ris]
def Aw.Fx:=BB.1
def Aw.U.Fx:=BB.2
theorem yB:(∀ ⦃A:List Ed⦄ ⦃y:Ed⦄ (h:Ris (A++[y])),
 ∀ a∈A,a.id<=y.id)/\(∀ ⦃A:List Nu⦄ ⦃y:Nu⦄ (h:Ris (A++[y])),
 ∀ a∈A,a.id<=y.id):=by
 refine⟨?_,?_⟩
 all_goals
  intro A y h
  (first|unfold Aw.Ris at h|unfold Aw.U.Ris at h)
  rw[aBO]at h;simp_all
def Aw.Gz:=yB.1
def Aw.U.Gz:=yB.2
theorem Bv:(∀(P X S:List Ed) (q:Nat) (v7:FuncId) (IQ:List LV) (Pc:St->Prop) (st:St) (z8:Aw.gU v7 IQ q Pc) (P8:Pc st) (hq:q<st.next) (hl:(P++X++S).length<=100000) (hH:st.H q=.box 36 3 (eds (P++X++S))),
 aB prog 161 [.ms q 0 (P++X++S).length,i P.length,i (P.length+X.length:Nat),.fn (.func v7) IQ] st (Vy P X S q st))/\(∀(P X S:List Nu) (q:Nat) (v7:FuncId) (IQ:List LV) (Pc:St->Prop) (st:St) (z8:Aw.U.gU v7 IQ q Pc) (P8:Pc st) (hq:q<st.next) (hl:(P++X++S).length<=100000) (hH:st.H q=.box 34 1 (eds (P++X++S))),
 aB prog 159 [.ms q 0 (P++X++S).length,i P.length,i (P.length+X.length:Nat),.fn (.func v7) IQ] st (Vy P X S q st)):=by
 refine⟨?_,?_⟩
 all_goals
  intro P X S q v7 IQ Pc st z8 P8 hq hl hH;generalize hL:(P++X++S).length=L at *;have hLl:L=P.length+X.length+S.length:=by rw[<- hL];simp only[aAn]
  generalize hp:P.length=p at *;have wp:IntKind.i64.wrap ((p:Int)+1)=((p+1:Nat):Int):=zW
  first|(have _:List Ed:=P;refine zN func161 ntmps161 [] ?_)|refine zN func159 ntmps159 [] ?_
  refine xw1 wp ?_;refine qL (fun z fr st2=>∃ Y Z:List (Cn P),Z.length<=z/\fr 0=.ms q 0 L/\fr 1=i p/\fr 2=i (p+X.length:Nat)/\fr 3=.fn (.func v7) IQ/\(X=[]/\Y=[]/\fr 8=i (p+1:Nat)\/Y≠[]/\fr 8=i (p+Y.length:Nat))/\(Y++Z).Perm X/\Ris Y/\st2.H q=bxo (P++Y++Z++S)/\bM q st st2) X.length ?_ ?_
  .cases X with
   |nil=>exact⟨[],[],sS,sS,sS,sS,sS,.inl ⟨rfl,rfl,sS⟩,.refl _,.nil,by grind,bM.refl _ _⟩
   |cons x X => 
    refine⟨[x],X,sS,sS,sS,sS,sS,.inr ⟨sS,sS⟩,.refl _,aDo _ _,?_,bM.refl _ _⟩
    grind
  rintro z fr st2 ⟨Y,Z,hz,f0,f1,f2,f3,f8,r9,hris,hB,j9⟩ JJ hJJ;have S6:=r9.length_eq;simp only[aAn]at S6;cases Z with
  |nil=>
   clear hJJ;simp only[List.length_nil,Nat.add_zero]at S6;rw[aAO]at r9 hB;have hex:∃ e:Nat,fr 8=i e/\¬((e:Int)<(p+X.length:Nat)):=by
    rcases f8 with⟨h1,h2,h3⟩|⟨h1,h2⟩
    .exact⟨p+1,h3,by grind⟩
    .grind
   obtain⟨e,g8,he⟩:=hex
   (repeat' (first|apply qS|refine qX (zZ ?_)|(apply qC;simp[f2,g8,he];(try with_reducible refine⟨?_,?_⟩)<;>(try with_reducible intro hc)<;>try (exfalso;omega))|(refine zE ?_;intro J hJ;simp[f2,g8,he];refine zJ hJ ?_)))
   simp;exact⟨Y,r9,hris,hB,j9⟩
  |cons x Z=>
  have hYne:Y≠[]/\fr 8=i (p+Y.length:Nat):=by
   rcases f8 with⟨h1,h2,h3⟩|h
   .grind
   .exact h
  obtain⟨hYn,g8⟩:=hYne;clear f8;have hY0:=aBi.2 hYn;simp only[List.length_cons]at S6 hz;have dG:(((p+Y.length:Nat):Int))<((p+X.length:Nat):Int):=oO
  (repeat' (first|apply qS|apply qB|refine qK (zZ ?_)|(apply qC;simp[f2,g8,dG];(try with_reducible refine⟨?_,?_⟩)<;>(try with_reducible intro hc)<;>try (exfalso;omega))|(refine zE ?_;intro J hJ;simp[f2,g8,dG];refine zJ hJ ?_)))
  refine qL (fun z fr O0=>∃ A B:List (Cn P),z=A.length/\A++B=Y/\(∀ y∈B,x.id<=y.id)/\fr 0=.ms q 0 L/\fr 1=i p/\fr 2=i (p+X.length:Nat)/\fr 3=.fn (.func v7) IQ/\fr 8=i (p+Y.length:Nat)/\fr 9=i (p+A.length:Nat)/\O0.H q=bxo (P++A++x::(B++Z++S))/\bM q st O0) Y.length ?_ ?_
  .exact⟨Y,[],rfl,sS,sS,sF1 f0,sF1 f1,sF1 f2,sF1 f3,sF1 g8,sS,by grind,j9⟩
  clear f0 f1 f2 f3 g8 hB j9 fr st2;rintro z' fr O0 ⟨A,B,rfl,rfl,hxB,f0,f1,f2,f3,f8,f9,hB,j9⟩ J2 hJ2;have hP3:=z8.keep _ _ P8 j9;have u6:(∀ y∈A,y.id<=x.id)->Ris (A++x::B):=fun h1=>Fx hris h1 hxB;have L3:((A++x::B)++Z).Perm X:=by refine List.Perm.trans ?_ r9;rw[aAD,aAD];refine aCl A ?_;rw[List.cons_append];exact aBF.symm
  have hAB:(A++x::B).length=(A++B).length+1:=by simp;omega
  simp only[aAn]at S6 hY0;have w8:IntKind.i64.wrap (((p+(A++B).length:Nat):Int)+1)=((p+(A++x::B).length:Nat):Int):=by rw[hAB,xN _ oO oO];omega
  have N0:∀ c7 st4,(c7 0=.ms q 0 L/\c7 1=i p/\c7 2=i (p+X.length:Nat)/\c7 3=.fn (.func v7) IQ/\c7 8=i (p+(A++x::B).length:Nat))->(∀ y∈A,y.id<=x.id)->st4.H q=bxo (P++A++x::(B++Z++S))->bM q st st4->JJ c7 st4:=by rintro c7 st4 ⟨g0,g1,g2,g3,g8⟩ h1 h2 h3;refine hJJ Z.length _ _ oO ⟨A++x::B,Z,aAm _,g0,g1,g2,g3,.inr ⟨sS,g8⟩,L3,u6 h1,?_,h3⟩;rw[h2];simp
  have hrisA:Ris A:=by
   (first|unfold Aw.Ris at hris ⊢|unfold Aw.U.Ris at hris ⊢)
   exact(aBO.1 hris).1
  clear hJJ u6 L3 r9 hris hAB;generalize (A++B).length=lab at *;generalize (A++x::B).length=laxb at *;have w8':IntKind.i64.wrap ((p:Int)+lab+1)=(p:Int)+laxb:=by have h:=w8;rw[Int.natCast_add,Int.natCast_add]at h;exact h
  rcases aCV A with rfl|⟨W,y,hWy⟩
  .simp only[List.length_nil,Nat.add_zero]at f9;refine xw0 ?_
   (refine zS [] [q] [0,2,4,6,8,10,12,14,16,18,20,22,24,26,29,30,32] ?_;intro J hJ;simp[f0,f1,f3,f9];refine zJ hJ ?_)
   refine xw2 f8 w8' ?_;exact N0 _ _ ⟨sF1 f0,sF1 f1,sF1 f2,sF1 f3,sS⟩ sS hB j9
  rw[aCW]at hWy;subst hWy;have hWl:(W++[y]).length=W.length+1:=sS;rw[hWl,<- Nat.add_assoc]at f9;have hce:P++(W++[y])++x::(B++Z++S)=(P++W)++y::x::(B++Z++S):=sS;have hUl:(P++W).length=p+W.length:=by simp[hp]
  have o7:((P++W)++y::x::(B++Z++S)).length=L:=by simp only[aAn,List.length_cons,List.length_nil,hp]at S6 hz ⊢;omega
  rw[hce]at hB N0;have g1:=FM (P++W) y (x::(B++Z++S)) (j:=p+W.length) hUl.symm;have g2:((P++W)++y::x::(B++Z++S)).getD (p+W.length+1) ed0=x:=by rw[show(P++W)++y::x::(B++Z++S)=(P++W++[y])++x::(B++Z++S) by simp];exact FM _ _ _ (by grind)
  have s1:(((P++W)++y::x::(B++Z++S)).set (p+W.length+1) y).set (p+W.length) x=P++W++x::(y::B++Z++S):=by rw[show(P++W)++y::x::(B++Z++S)=(P++W++[y])++x::(B++Z++S) by simp,NT _ _ _ _ (by grind)];rw[show(P++W++[y])++y::(B++Z++S)=(P++W)++y::(y::(B++Z++S)) by simp,NT _ _ _ _ hUl.symm];simp
  have H8:x.id<y.id->∀ y'∈y::B,x.id<=y'.id:=fun h1 y' hy'=>by
   rcases aAe.1 hy' with rfl|h2
   .omega
   grind
  have hstop:¬x.id<y.id->∀ y'∈W++[y],y'.id<=x.id:=fun h1 y' hy'=>by
   rcases aAd.1 hy' with h2|h2
   .have:=Gz (hrisA) y' h2;omega
   .rw[aAk]at h2;grind
  generalize (P++W)++y::x::(B++Z++S)=c at *;generalize hjx:p+W.length=jx at *;have hel:=aI c;have da:=aL c (jx+1) oO;have db:=aL c jx oO;rw[g2]at da;rw[g1]at db;have wj:IntKind.i64.wrap (((jx+1:Nat):Int)-1)=(jx:Int):=zW;have hgt:(p:Int)<(jx:Int)+1:=oO;have hcm:=z8.call O0 x y hP3;have I0:=qZ x y;generalize tP x y=cv at *;have wj':IntKind.i64.wrap (jx:Int)=(jx:Int):=xN _ oO oO;have hA4:jx+1<L:=oO;have hB4:jx<L:=oO;refine xw0 ?_
  (refine zS [] [q] [0,2,4,6,8,10,12,14,16,18,20,22,24,26,29,30,32] ?_;intro J hJ;simp[f0,f1,f3,f9,hgt,hB,da,db,hel,o7,wj'];(repeat refine ca ?_))
  refine aN hcm ?_;rintro r s4 ⟨rfl,I3⟩;have hq3:q<O0.next:=by have:=j9.1;omega
  have hB4':=(I3.H q hq3).trans hB;have hoff4:=j9.keeps I3;refine⟨fun _=>by simp[hB4',hB],?_⟩;by_cases K4:x.id<y.id
  .have hcv:cv<0:=by rw[aBQ K4]at I0;exact aCh I0
   (apply bI;simp[hcv,hB4',hB];refine zJ hJ ?_)
   refine xw0 ?_
   (refine zS [] [q] [0,2,4,6,8,10,12,14,16,18,20,22,24,26,28,31,32,35] ?_;intro J hJ;simp[f0,f9,hB4',da,db,hel,o7,wj'];(repeat refine ca ?_);refine zJ hJ ?_)
   have e1:=jH c (jx+1) y oO;have e2:=jH (c.set (jx+1) y) jx x (by simp;omega);rw[e1,e2,s1,St.set_set];refine xw2 f9 wj' ?_;refine hJ2 W.length _ _ sS ⟨W,y::B,rfl,sS,H8 K4,sF1 f0,sF1 f1,sF1 f2,sF1 f3,sF1 f8,sF1 hjx,?_,hoff4.set _⟩;simp
  .have hcv:¬cv<0:=by rw[aCj K4]at I0;exact aCO I0
   (apply bI;simp[hcv,hB4',hB];refine zJ hJ ?_)
   refine xw2 f8 w8' ?_;exact N0 _ _ ⟨sF1 f0,sF1 f1,sF1 f2,sF1 f3,sS⟩ (hstop K4) hB4' hoff4
def Aw.LN:=Bv.1
def Aw.U.LN:=Bv.2
open Go Go.RowKit Pl Aw
open Aw.U
theorem Ax:(∀ ⦃l:List Ed⦄ (h:Ris l) ⦃j k:Nat⦄ (hjk:j<=k) (hk:k<l.length),
 (l.getD j ed0).id<=(l.getD k ed0).id)/\(∀ ⦃l:List Nu⦄ (h:Ris l) ⦃j k:Nat⦄ (hjk:j<=k) (hk:k<l.length),
 (l.getD j ed0).id<=(l.getD k ed0).id):=by
 refine⟨?_,?_⟩
 all_goals
  intro l h j k hjk hk;rw[DB _ _ hk,DB _ _ oO];rcases aAS j k with h1|h1
  .exact aAz.1 h j k oO hk h1
  grind
def Aw.jD:=Ax.1
def Aw.U.jD:=Ax.2
namespace Aw
structure Cut(A B:List Ed)(s e:Nat):Prop where
 hs:s<=A.length
 he:e<=B.length
 ab:s=0\/e=B.length\/(A.getD (s-1) ed0).id<=(B.getD e ed0).id
 ba:e=0\/s=A.length\/(B.getD (e-1) ed0).id<=(A.getD s ed0).id
end Aw
namespace Aw.U
structure Cut(A B:List Nu)(s e:Nat):Prop where
 hs:s<=A.length
 he:e<=B.length
 ab:s=0\/e=B.length\/(A.getD (s-1) ed0).id<=(B.getD e ed0).id
 ba:e=0\/s=A.length\/(B.getD (e-1) ed0).id<=(A.getD s ed0).id
end Aw.U
theorem Cut.leTwo:(∀ ⦃A B:List Ed⦄ (hA:Ris A) (hB:Ris B) ⦃s e:Nat⦄ (h:Cut A B s e),
 ∀ x∈A.take s++B.take e,∀ y∈A.drop s++B.drop e,x.id<=y.id)/\(∀ ⦃A B:List Nu⦄ (hA:Ris A) (hB:Ris B) ⦃s e:Nat⦄ (h:Cut A B s e),
 ∀ x∈A.take s++B.take e,∀ y∈A.drop s++B.drop e,x.id<=y.id):=by
 refine⟨?_,?_⟩
 all_goals
  intro A B hA hB s e h;intro x hx y hy;obtain⟨h1,h2,h3,h4⟩:=h;rw[aAd]at hx hy;rcases hx with hx|hx<;>rcases hy with hy|hy
  .obtain⟨j,hj,rfl⟩:=aAC hx;obtain⟨k,hk,rfl⟩:=aAC hy;simp only[aAw,aAT]at hj hk;rw[aBR,aCn];exact aAz.1 hA j (s+k) oO oO oO
  .obtain⟨j,hj,rfl⟩:=aAC hx;obtain⟨k,hk,rfl⟩:=aAC hy;simp only[aAw,aAT]at hj hk;rw[aBR,aCn];have e1:=jD hA (j:=j) (k:=s-1) oO oO;have e2:=jD hB (j:=e) (k:=e+k) oO oO
   grind
  .obtain⟨j,hj,rfl⟩:=aAC hx;obtain⟨k,hk,rfl⟩:=aAC hy;simp only[aAw,aAT]at hj hk;rw[aBR,aCn];have e1:=jD hB (j:=j) (k:=e-1) oO oO;have e2:=jD hA (j:=s) (k:=s+k) oO oO
   grind
  .obtain⟨j,hj,rfl⟩:=aAC hx;obtain⟨k,hk,rfl⟩:=aAC hy;simp only[aAw,aAT]at hj hk;rw[aBR,aCn];exact aAz.1 hB j (e+k) oO oO oO
def Aw.Cut.le:=Cut.leTwo.1
def Aw.U.Cut.le:=Cut.leTwo.2
theorem Cut.joinTwo:(∀ ⦃A B C D:List Ed⦄ (hA:Ris A) (hB:Ris B) ⦃s e:Nat⦄ (h:Cut A B s e) (hC:C.Perm (A.take s++B.take e)) (hD:D.Perm (A.drop s++B.drop e)) (rC:Ris C) (rD:Ris D),
 (C++D).Perm (A++B)/\Ris (C++D))/\(∀ ⦃A B C D:List Nu⦄ (hA:Ris A) (hB:Ris B) ⦃s e:Nat⦄ (h:Cut A B s e) (hC:C.Perm (A.take s++B.take e)) (hD:D.Perm (A.drop s++B.drop e)) (rC:Ris C) (rD:Ris D),
 (C++D).Perm (A++B)/\Ris (C++D)):=by
 refine⟨?_,?_⟩
 all_goals
  intro A B C D hA hB s e h hC hD rC rD;refine⟨?_,aBO.2 ⟨rC,rD,fun x hx y hy=>h.le hA hB x (hC.mem_iff.1 hx) y (hD.mem_iff.1 hy)⟩⟩;refine(hC.append hD).trans ?_;have e1:A++B=(A.take s++A.drop s)++(B.take e++B.drop e):=by rw[aAE,aAE]
  rw[e1,aAD,aAD]
  grind [List.Perm.append_left,List.Perm.append_right,List.perm_append_comm]
def Aw.Cut.join:=Cut.joinTwo.1
def Aw.U.Cut.join:=Cut.joinTwo.2
open Go Go.RowKit Pl Aw
open Aw.U
namespace Aw
theorem Fi(n h:Nat)(hh:h=n / 2):OX .u64 (n:Int) 1=(h:Int):=by
 show(n:Int).fdiv 2=(h:Int)
 grind
theorem AH(n:Nat)(hn:n<=1000000):IntKind.u64.wrap (n:Int)=(n:Int):=by
 grind [IntKind.wrap,IntKind.bits]
end Aw
theorem Ln:(∀(U W:List Ed) (j:Nat),
 (U++W).getD (U.length+j) ed0=W.getD j ed0)/\(∀(U W:List Nu) (j:Nat),
 (U++W).getD (U.length+j) ed0=W.getD j ed0):=by
 grind
def Aw.CY:=Ln.1
def Aw.U.CY:=Ln.2
theorem LM:(∀(U W:List Ed) (j:Nat) (h:j<U.length),
 (U++W).getD j ed0=U.getD j ed0)/\(∀(U W:List Nu) (j:Nat) (h:j<U.length),
 (U++W).getD j ed0=U.getD j ed0):=by
 grind
def Aw.rE:=LM.1
def Aw.U.rE:=LM.2
namespace Aw
theorem Ka(B:List Ed)(t:Nat)(h:t<B.length):B.drop t=B.getD t ed0::B.drop (t+1):=by simp_all
end Aw
namespace Aw.U
theorem Ka(B:List Nu)(t:Nat)(h:t<B.length):B.drop t=B.getD t ed0::B.drop (t+1):=by simp_all
end Aw.U
namespace Aw
theorem Ph(B:List Ed)(t:Nat)(h:t<B.length):B.take (t+1)=B.take t++[B.getD t ed0]:=by simp_all
end Aw
namespace Aw.U
theorem Ph(B:List Nu)(t:Nat)(h:t<B.length):B.take (t+1)=B.take t++[B.getD t ed0]:=by simp_all
end Aw.U
namespace Aw
def FR(P A B S:List Ed)(q:Nat)(st:St)(r:LV)(st':St):Prop:=∃ C,C.Perm (A++B)/\Ris C/\st'.H q=.box 36 3 (eds (P++C++S))/\bM q st st'
end Aw
namespace Aw.U
def FR(P A B S:List Nu)(q:Nat)(st:St)(r:LV)(st':St):Prop:=∃ C,C.Perm (A++B)/\Ris C/\st'.H q=.box 34 1 (eds (P++C++S))/\bM q st st'
end Aw.U
theorem CE:(∀ ⦃B:List Ed⦄ (hB:Ris B) ⦃x:Ed⦄ ⦃k:Nat⦄ (hk:k<=B.length) (h1:∀ j,j<k->(B.getD j ed0).id<=x.id) (h2:∀ j,k<=j->j<B.length->x.id<=(B.getD j ed0).id),
 Ris (B.take k++x::B.drop k))/\(∀ ⦃B:List Nu⦄ (hB:Ris B) ⦃x:Nu⦄ ⦃k:Nat⦄ (hk:k<=B.length) (h1:∀ j,j<k->(B.getD j ed0).id<=x.id) (h2:∀ j,k<=j->j<B.length->x.id<=(B.getD j ed0).id),
 Ris (B.take k++x::B.drop k)):=by
 refine⟨?_,?_⟩
 all_goals
  intro B hB x k hk h1 h2;refine Fx (by simp_all) (fun y hy=>?_) fun y hy=>?_
  .grind [List.getElem_of_mem]
  .obtain⟨j,hj,rfl⟩:=aAC hy;simp_all
def Aw.EP:=CE.1
def Aw.U.EP:=CE.2
theorem Ke:(∀(P:List Ed) (x:Ed) (B S:List Ed) (q L p m:Nat) (v7:FuncId) (IQ:List LV) (Pc:St->Prop) (st:St) (z8:Aw.gU v7 IQ q Pc) (P8:Pc st) (hq:q<st.next) (hB:Ris B) (hL:(P++x::B++S).length=L) (hl:L<=100000) (hp:P.length=p) (hm:m=p+1) (hH:st.H q=.box 36 3 (eds (P++x::B++S))),
 aB prog 162 [.ms q 0 L,i p,i m,i (m+B.length:Nat),.fn (.func v7) IQ] st (FR P [x] B S q st))/\(∀(P:List Nu) (x:Nu) (B S:List Nu) (q L p m:Nat) (v7:FuncId) (IQ:List LV) (Pc:St->Prop) (st:St) (z8:Aw.U.gU v7 IQ q Pc) (P8:Pc st) (hq:q<st.next) (hB:Ris B) (hL:(P++x::B++S).length=L) (hl:L<=100000) (hp:P.length=p) (hm:m=p+1) (hH:st.H q=.box 34 1 (eds (P++x::B++S))),
 aB prog 160 [.ms q 0 L,i p,i m,i (m+B.length:Nat),.fn (.func v7) IQ] st (FR P [x] B S q st)):=by
 refine⟨?_,?_⟩
 all_goals
  intro P x B S q L p m v7 IQ Pc st z8 P8 hq hB hL hl hp hm hH;have hLl:L=p+(B.length+1)+S.length:=by rw[<- hL,<- hp];simp only[aAn,List.length_cons]
  have e1:IntKind.i64.wrap ((m:Int)-p)=1:=zW
  first|(have _:List Ed:=P;refine zN func162 ntmps162 [] ?_)|refine zN func160 ntmps160 [] ?_
  refine xw1 e1 ?_;refine qL (fun z fr st2=>∃ k v:Nat,k<=v/\v<=B.length/\z=v-k/\fr 0=.ms q 0 L/\fr 1=i p/\fr 4=.fn (.func v7) IQ/\fr 10=i (m+k:Nat)/\fr 11=i (m+v:Nat)/\(∀ j,j<k->(B.getD j ed0).id<x.id)/\(∀ j,v<=j->j<B.length->x.id<=(B.getD j ed0).id)/\st2.H q=bxo (P++x::B++S)/\bM q st st2) B.length ?_ ?_
  .exact⟨0,B.length,oO,aAm _,rfl,sS,sS,sS,sS,sS,fun j h=>by omega,fun j h1 h2=>by omega,hH,bM.refl _ _⟩
  rintro z fr st2 ⟨k,v,hkv,hvB,rfl,f0,f1,f4,f10,f11,h1,h2,hD,j9⟩ JJ hJJ;have hP3:=z8.keep _ _ P8 j9;have N7:q<st2.next:=by have:=j9.1;omega
  by_cases dG:k<v
  .obtain⟨s,hs⟩:∃ s:Nat,s=(m+k)+(m+v):=⟨_,rfl⟩;obtain⟨h,hh⟩:∃ h:Nat,m+h=s / 2:=⟨s / 2-m,oO⟩;have wA:IntKind.i64.wrap ((m:Int)+k+(m+v))=(s:Int):=zW;have wB:=AH s oO;obtain⟨ph,hph⟩:∃ ph:Nat,ph=m+h:=⟨_,rfl⟩;have wC:=Fi s ph oO;have wD:IntKind.i64.wrap (ph:Int)=(ph:Int):=zW;have wE:IntKind.i64.wrap ((ph:Int)+1)=((m+(h+1):Nat):Int):=zW;have g1:(P++x::B++S).getD p ed0=x:=by rw[aAD];exact FM _ _ _ hp.symm
   have g2:(P++x::B++S).getD ph ed0=B.getD h ed0:=by
    (first|rw[show P++x::B++S=(P++[x])++(B++S) by simp,show ph=(P++[x]).length+h by simp;omega,Aw.CY,Aw.rE _ _ _ oO]|rw[show P++x::B++S=(P++[x])++(B++S) by simp,show ph=(P++[x]).length+h by grind,Aw.U.CY,Aw.U.rE _ _ _ oO])
   have hgo:(B.getD h ed0).id<x.id->∀ j,j<h+1->(B.getD j ed0).id<x.id:=fun h3 j hj=>by have:=jD hB (j:=j) (k:=h) oO oO;omega
   have I2:¬(B.getD h ed0).id<x.id->∀ j,h<=j->j<B.length->x.id<=(B.getD j ed0).id:=fun h3 j hj hj2=>by have:=jD hB (j:=h) (k:=j) hj hj2;omega
   have hel:=aI (P++x::B++S);have da:=aL (P++x::B++S) p oO;have db:=aL (P++x::B++S) ph oO;rw[g1]at da;rw[g2]at db;rw[hL]at hel;have hfr:∀ c7 O0,O0.H q=st2.H q->bM q st O0->c7 0=.ms q 0 L/\c7 1=i p/\c7 4=.fn (.func v7) IQ->(((B.getD h ed0).id<x.id/\c7 10=i (m+(h+1):Nat)/\c7 11=i (m+v:Nat))\/(¬(B.getD h ed0).id<x.id/\c7 10=i (m+k:Nat)/\c7 11=i (m+h:Nat)))->JJ c7 O0:=by
    rintro c7 O0 k1 k2 ⟨k3,k4,k5⟩ (⟨k6,k7,k8⟩|⟨k6,k7,k8⟩)
    .exact hJJ (v-(h+1)) _ _ oO ⟨h+1,v,oO,hvB,rfl,k3,k4,k5,k7,k8,hgo k6,h2,k1.trans hD,k2⟩
    .exact hJJ (h-k) _ _ oO ⟨k,h,oO,oO,rfl,k3,k4,k5,k7,k8,h1,I2 k6,k1.trans hD,k2⟩
   clear hJJ hgo I2 h1 h2;have hcm:=z8.call st2 (B.getD h ed0) x hP3;have I0:=qZ (B.getD h ed0) x;generalize hy:B.getD h ed0=y at *;generalize hc:P++x::B++S=c at *;generalize tP y x=cv at *;have hA4:ph<L:=oO;have hB4:p<L:=oO;have hkv':(m:Int)+k<m+v:=oO;refine xw8 f10 f11 hkv' dG wA wB wC wD ?_
   (refine zS [] [q] [0,2,4,6,8,10,12,14,16,19,20] ?_;intro J hJ;simp[f0,f1,f4,hD,da,db,hel];(repeat refine ca ?_))
   refine aN hcm ?_;rintro r s4 ⟨rfl,I3⟩;have hD4:=I3.H q N7;refine⟨fun _=>by simp[hD4,hD],?_⟩;by_cases K4:y.id<x.id
   .have hcv:cv<0:=by rw[aBQ K4]at I0;exact aCh I0
    (apply bI;simp[hcv,hD4,hD];refine zJ hJ ?_)
    refine xw1 wE ?_;exact hfr _ _ hD4 (j9.keeps I3) ⟨sF1 f0,sF1 f1,sF1 f4⟩ (.inl ⟨K4,sS,sF1 f11⟩)
   .have hcv:¬cv<0:=by rw[aCj K4]at I0;exact aCO I0
    (apply bI;simp[hcv,hD4,hD];refine zJ hJ ?_)
    refine xw0 ?_;exact hfr _ _ hD4 (j9.keeps I3) ⟨sF1 f0,sF1 f1,sF1 f4⟩ (.inr ⟨K4,sF1 f10,sF1 hph⟩)
  clear hJJ;obtain rfl:k=v:=oO;have hR:=EP hB hvB (fun j hj=>by grind) h2;clear h1 h2;have wF:IntKind.i64.wrap ((m:Int)+k-1)=((p+k:Nat):Int):=zW;refine xw3 f1 f10 f11 ?_;refine qL (fun z fr O0=>∃ t:Nat,t<=k/\z=k-t/\fr 0=.ms q 0 L/\fr 10=i (m+k:Nat)/\fr 13=i (p+t:Nat)/\O0.H q=bxo (P++B.take t++x::(B.drop t++S))/\bM q st O0) k ?_ ?_
  .exact⟨0,oO,oO,by simp_all,by simp_all,sS,by grind,j9⟩
  clear f0 f1 f4 f10 f11 hD j9 hP3 N7 fr st2;rintro z fr st2 ⟨t,C9,rfl,f0,f10,f13,hD,j9⟩ JJ hJJ;by_cases dG:t<k;rotate_left
  .clear hJJ;obtain rfl:t=k:=oO;have r8:¬((p:Int)+t<p+t):=oO;refine xw4 f10 f13 wF r8 ?_;refine⟨_,?_,hR,by grind,j9⟩
   grind [List.perm_middle,List.take_append_drop]
  have z7:(p:Int)+t<p+k:=oO;have hce:P++B.take t++x::(B.drop t++S)=(P++B.take t)++x::B.getD t ed0::(B.drop (t+1)++S):=by rw[Ka B t oO];simp
  have hUl:(P++B.take t).length=p+t:=by simp[hp];omega
  have L0:(((P++B.take t)++x::B.getD t ed0::(B.drop (t+1)++S)).set (p+t) (B.getD t ed0)).set (p+t+1) x=P++B.take (t+1)++x::(B.drop (t+1)++S):=by rw[NT _ _ _ _ hUl.symm];rw[show(P++B.take t)++B.getD t ed0::B.getD t ed0::(B.drop (t+1)++S)=(P++B.take t++[B.getD t ed0])++B.getD t ed0::(B.drop (t+1)++S) by simp];rw[NT _ _ _ _ (by grind),Ph B t oO];simp
  have g1:=FM (P++B.take t) x (B.getD t ed0::(B.drop (t+1)++S)) (j:=p+t) hUl.symm;have g2:((P++B.take t)++x::B.getD t ed0::(B.drop (t+1)++S)).getD (p+t+1) ed0=B.getD t ed0:=by rw[show(P++B.take t)++x::B.getD t ed0::(B.drop (t+1)++S)=(P++B.take t++[x])++B.getD t ed0::(B.drop (t+1)++S) by simp];exact FM _ _ _ (by simp[hp];omega)
  have o7:((P++B.take t)++x::B.getD t ed0::(B.drop (t+1)++S)).length=L:=by rw[<- hce];simp only[aAn,List.length_cons,aAw,aAT];omega
  rw[hce]at hD;generalize B.getD t ed0=y at *;generalize hc:(P++B.take t)++x::y::(B.drop (t+1)++S)=c at *;obtain⟨k1,c8⟩:∃ k1:Nat,k1=p+t:=⟨_,rfl⟩;rw[<- c8]at g1 g2 L0;have hel:=aI c;have da:=aL c k1 oO;have db:=aL c (k1+1) oO;rw[g1]at da;rw[g2]at db;rw[o7]at hel;have wG:IntKind.i64.wrap ((k1:Int)+1)=((k1+1:Nat):Int):=zW;have wG':IntKind.i64.wrap ((k1:Int)+1)=(k1:Int)+1:=xN _ oO oO;have hk1':(p:Int)+t=(k1:Int):=oO;have f13':fr 13=i k1:=by rw[f13,c8]
  have hA4:k1+1<L:=oO;have hB4:k1<L:=oO;rw[hk1']at z7;refine xw4 f10 f13' wF z7 ?_
  (refine zS [] [q] [0,2,4,6,8,10,12,14,16,18,20,22,24,26,28,31,32,35] ?_;intro J hJ;simp[f0,f13',hD,da,db,hel,o7,wG'];(repeat refine ca ?_);refine zJ hJ ?_)
  have e1:=jH c k1 y oO;have e2:=jH (c.set k1 y) (k1+1) x (by grind)
  first|rw[e1,e2,L0,St.set_set]|(rw[db]at e1;rw[e1,e2,L0,St.set_set])
  refine xw2 f13' wG' ?_;exact hJJ (k-(t+1)) _ _ oO ⟨t+1,oO,rfl,sF1 f0,sF1 f10,by simp;omega,sS,j9.set _⟩
def Aw.YW:=Ke.1
def Aw.U.YW:=Ke.2
end Go.Proofs.YtbgngpdonpeboaaGreatDoor
