/- slices.Collect(slices.Values(s)) as a contract over logical values. -/
import Derived.Test.YtempldclppogmaaGreatDoorJb
import Derived.Test.YtempldclppogmaaGreatDoorAwX
import Derived.Test.YtempldclppogmaaGreatDoorAwSet
import Derived.Test.YtempldclppogmaaGreatDoorAwFn
import Derived.Test.YtempldclppogmaaGreatDoorAwShp
set_option linter.unusedVariables false
set_option linter.unusedSimpArgs false
open Go.Proofs.Tryz
namespace Go.Proofs.YtempldclppogmaaGreatDoor
namespace Aw
open Go Go.RowKit
theorem vY{w w':World}(g:G)(h:Below w.heap.size w w'):Ext w g w' g:=
 ⟨h.os,h.tape,h.output,h.size,aAi _,fun _ _=>rfl,fun _ _=>rfl,fun _ _=>rfl,fun b hb hn=>⟨hn,h.block b hb⟩,fun b k hb hk=>⟨k,hk,aAi _,fun o _=>World.cell?_of_block (w:=w) (h.block b hb)⟩⟩
theorem DR{w w':World}{g:G}{st:St}(hi:Inv w g st)(h:Below w.heap.size w w'):Inv w' g st:=by
 have G6:=vY g h;refine⟨hi.next,hi.pos,hi.fresh,fun l hl=>aAp (hi.lt l hl) h.size,hi.inj,?_,?_,?_,?_,hi.aside.keep G6 fun _ _=>rfl⟩
 .intro l e s n hl;obtain⟨h1,h2,h3,h4⟩:=hi.own l e s n hl;refine⟨h1,h2,h3,fun Xl=>?_⟩;obtain⟨Xo,k1,k2,k3⟩:=h4 Xl;exact⟨Xo,by rw[h.block _ (aAt.1 k1).1];exact k1,k2,k3⟩
 .intro l e s cs hl;obtain⟨h1,h2,h3⟩:=hi.box l e s cs hl;refine⟨h1,h2,fun Xl=>?_⟩;obtain⟨Xo,k1,k2,k3,k4,k5⟩:=h3 Xl;exact⟨Xo,by rw[h.block _ (aAt.1 k1).1];exact k1,k2,k3,aC.mono G6 _ _ k4,k5⟩
 .intro l ag ks es hl;have hm:=hi.mp l ag ks es hl;exact hm.keep G6 (hi.map_lt hl) (h.block _ hm.blk_lt) rfl
 .intro l e n hl;have hm:=hi.qu l e n hl;exact hm.keep G6 (hi.que_lt hl) (h.block _ hm.blk_lt) rfl
theorem wK{w w':World}{g:G}{st:St}(hi:Inv w g st)(h:Below w.heap.size w w'){e:TypeId}{v:Value}{zs:List Value}{cs:List LV}(Rp:w'.ownsRow w.heap.size e 1 v zs.length zs)(hr:∀ w g,aC w g cs zs):
 ∃ g',Rep w' g' (.ms st.next 0 zs.length) v/\Inv w' g' (st.new (.box e 1 cs))/\Ext w g w' g':=by
 have Yo:=DR hi h;have Xk:cs.length=zs.length:=aL _ _ (hr w g);rcases Rp.2 with⟨rfl,hn⟩|⟨b,cap,Xo,rfl,hb,V8,h1,h2,h3,h4⟩
 .have ZJ:cs=[]:=aAE oO;subst ZJ;refine⟨g.addNil,?_,iP Yo _ (.inr ⟨_,_,rfl⟩),(vY g h).trans (ext_nil w' g)⟩;simp only[Rep,hn];exact⟨none,0,rfl,aAi _,aBr _,by simp[G.addNil,hi.next],sS,by simp[G.addNil,hi.next]⟩
 .have YK:=hi.next;have ZN:Ext w g w' (g.add b 0 cap false):=by
   refine⟨h.os,h.tape,h.output,h.size,aDS _,?_,?_,?_,?_,?_⟩
   .intro l hl;simp[G.add,aBs hl]
   .intro l hl;simp[G.add,aBs hl]
   .intro l hl;simp[G.add,aBs hl]
   .intro x hx hn;exact⟨by simp only[G.add];rw[aAa oO];exact hn,h.block x hx⟩
   .intro x k hx hk;exact⟨k,by simp only[G.add];rw[aAa oO];exact hk,aAi _,fun o _=>World.cell?_of_block (w:=w) (h.block x hx)⟩
  have Ym:∀ l,blk g st l->g.β l≠b:=fun l hl=>by have:=hi.lt l hl;omega
  have hblt:b<w'.heap.size:=(aAt.1 V8).1;refine⟨g.add b 0 cap false,?_,?_,ZN⟩
  .simp only[Rep,G.add,YK,aAe];exact⟨_,cap,rfl,h1,h2,fun _=>⟨rfl,fun _=>rfl⟩,fun _=>rfl,aCP _⟩
  .refine⟨by simp[G.add,St.new,YK],by simp[St.new],?_,?_,?_,?_,?_,?_,?_,hi.aside.keep ZN (nZ rfl)⟩
   .intro l hl;simp only[St.new]at hl ⊢;rw[aAa oO];exact hi.fresh l oO
   .intro l hl;by_cases e0:l=st.next
    .subst e0;simp[G.add,YK,hblt]
    .rw[cN YK e0]at hl;have:=Yo.lt l hl;simp only[G.add,YK,aAa e0];exact this
   .intro l l' hl Yu K1;by_cases e0:l=st.next<;>by_cases e1:l'=st.next
    .omega
    .rw[cN YK e1]at Yu;simp only[G.add,YK,aAe e0,aAa e1]at K1;exact absurd K1.symm (Ym l' Yu)
    .rw[cN YK e0]at hl;simp only[G.add,YK,aAe e1,aAa e0]at K1;exact absurd K1 (Ym l hl)
    .rw[cN YK e0]at hl;rw[cN YK e1]at Yu;simp only[G.add,YK,aAa e1,aAa e0]at K1;exact hi.inj l l' hl Yu K1
   .intro l e' s n hl;by_cases e0:l=st.next
    .simp[St.new,e0]at hl
    .simp only[St.new,aAa e0]at hl;obtain⟨q1,q2,q3,q4⟩:=Yo.own l e' s n hl;simp only[G.add,YK,aAa e0];refine⟨q1,q2,q3,fun Xl=>?_⟩;obtain⟨c',k1,k2,k3⟩:=q4 Xl;have Wx:=Ym l (by unfold blk;rw[hl];exact Xl);exact⟨c',k1,k2,by rw[aAa Wx];exact k3⟩
   .intro l e' s' cs' hl;by_cases e0:l=st.next
    .simp only[St.new,aAe e0]at hl;injection hl with a1 a2 a3;subst a1 a2 a3;refine⟨?_,?_,fun _=>⟨Xo.toList,?_,?_,?_,?_,?_⟩⟩
     .simp only[G.add,YK,aAe e0];exact h2
     .simp[G.add,YK,e0]
     .simp only[G.add,YK,aAe e0];simpa using V8
     .simp only[G.add,YK,aAe e0];simpa using h3
     .simp only[Array.length_toList];omega
     .have:Xo.toList.take cs.length=zs:=by rw[Xk];simpa using h4
      rw[this];exact hr _ _
     .simp[G.add,YK,e0]
    .simp only[St.new,aAa e0]at hl;obtain⟨k3,k0,k'⟩:=Yo.box l e' s' cs' hl;refine⟨?_,?_,fun Xl=>?_⟩
     .simp only[G.add,YK,aAa e0];exact k3
     .simp only[G.add,YK,aAa e0];exact k0
     simp only[G.add,YK,aAa e0]at Xl;obtain⟨Yq,k1,k2,k4,k5,k6⟩:=k' Xl;have Wx:=Ym l (by unfold blk;rw[hl];exact Xl);obtain⟨_,_,k'⟩:=hi.box l e' s' cs' hl;obtain⟨cur2,m1,m2,m4,m5,m6⟩:=k' Xl;have dN:=(aAt.1 m1).1;refine⟨cur2,?_,?_,m4,aC.mono ZN _ _ m5,?_⟩
     .simp only[G.add,YK,aAa e0];rw[h.block _ dN];exact m1
     .simp only[G.add,YK,aAa e0];exact m2
     .simp only[G.add,YK,aAa e0];rw[aAa Wx];exact m6
   .intro l ag ks es hl;by_cases e0:l=st.next
    .simp[St.new,e0]at hl
    .simp only[St.new,aAa e0]at hl;have hm:=hi.mp l ag ks es hl;exact hm.keep ZN (hi.map_lt hl) (h.block _ hm.blk_lt) (by simp only[G.add];rw[aAa (Ym l (hi.map_blk hl))])
   .intro l e' n hl;by_cases e0:l=st.next
    .simp[St.new,e0]at hl
    .simp only[St.new,aAa e0]at hl;have hm:=hi.qu l e' n hl;exact hm.keep ZN (hi.que_lt hl) (h.block _ hm.blk_lt) (by simp only[G.add];rw[aAa (Ym l (hi.que_blk hl))])
theorem zF(w:World)(g:G):∀ l:List Int,aC w g (us l) (l.map (Value.int .u32))
 |[]=>by simp[aC]
 |a::l=>by simp only[aAj,aC,Rep];exact⟨_,_,rfl,rfl,zF w g l⟩
theorem KZ{w:World}{g:G}:∀(l:List Int) (ws:List Value),aC w g (us l) ws->ws=l.map (Value.int .u32)
 |[],ws,h=>by simpa[aC]using h
 |a::l,ws,h=>by simp only[aAj,aC,Rep]at h;obtain⟨v,ws',rfl,rfl,h2⟩:=h;rw[KZ l ws' h2];rfl
theorem Re(l:List Int)(x:LV)(q:Nat)(st:St)(hl:l.length<=1048576)(hH:st.H q=.box 22 1 [x])(hx:CI tab 22 st x=some (l.length,us l)):
 aB prog 78 [.fn (.func 140) [.pt q 0]] st fun r st'=>r=.ms st.next 0 l.length/\st'=st.new (.box 34 1 (us l)):=by
 refine⟨enters_of func78 (by kernel_rfl) rfl,fun w g vs hi hr=>?_⟩;simp only[aC,Rep]at hr;obtain⟨v,_,rfl,⟨us1,rfl,v1,_,rfl,⟨rfl,hq⟩,rfl⟩,rfl⟩:=hr;obtain⟨_,b2,b3⟩:=hi.box q _ _ _ hH;have Xl:g.nl q=false:=by
  cases hn:g.nl q with
  |false=>rfl
  |true=>obtain⟨_,h⟩:=b2 hn;cases h
 obtain⟨Xo,k1,k2,k3,k4,k5⟩:=b3 Xl;simp only[List.length_cons,List.length_nil,aBt,aC]at k4 k3;obtain⟨sv,rest,N4,YF,_⟩:=k4;have P1:w.cell? ⟨g.β q,0,none⟩=some sv:=by
  rw[cell_of_row w _ _ _ _ _ k1];cases Xo with
  |nil=>simp at k3
  |cons a Xo=>simp at N4;simp[N4.1]
 have hI:Rg.IE w.heap.size w sv l:=by
  obtain⟨A,cap,rfl,O7⟩:=qQ hi hx YF;by_cases v7:l=[]
  .subst v7;exact .inl ⟨rfl,A,cap,rfl⟩
  .obtain⟨b,o,ws,rfl,m1,m2⟩:=O7 (by cases l with|nil=>exact absurd rfl v7|cons a l=>simp);have hws:=KZ l ws m1;refine .inr ⟨b,o,cap,rfl,?_,fun j hj=>?_⟩
   .have h0:=m2 0 (by cases l with|nil=>exact absurd rfl v7|cons a l=>simp);rw[hws]at h0;cases l with
    |nil=>exact absurd rfl v7
    |cons a l=>exact qI (a:=⟨b,o+0,none⟩) (v:=.int .u32 a) (by simpa using h0)
   .rw[m2 j (by simpa using hj),hws];simp[hj]
 refine(((Rg.Ie Fence.wide 4 trivial trivial trivial rfl (aAi _) (g.β q) sv l hl w (qI P1) P1 hI).calls room_wide)).mono ?_;rintro e w' ⟨v,rfl,Rp,I3⟩;have hlen:l.length=(l.map (Value.int .u32)).length:=sS;rw[hlen]at Rp;obtain⟨g',h1,h2,h3⟩:=wK (cs:=us l) hi I3 Rp (fun w g=>zF w g l);rw[<- hlen]at h1;exact⟨v,_,_,g',rfl,⟨rfl,rfl⟩,h1,h2,h3⟩
def VV:jD:=fun f args st=>if f=78 then match args with
 |[.fn (.func g) [.pt q 0]]=>if g=140 then match st.H q with
    |.box e s [x]=>if e=22/\s=1 then match CI tab 22 st x with
      |some (n,ds)=>match fZ ds with
       |some (ks,ns)=>if(ks.all fun k=>decide (k=.u32))=true/\ns.length=n/\n<=1048576 then some [(.ms st.next 0 n,st.new (.box 34 1 (us ns)))]else none
       |none=>none
      |none=>none
     else none
    |_=>none
  else none
 |_=>none
 else none
theorem HV:∀(ds:List LV) (ks:List IntKind) (ns:List Int),fZ ds=some (ks,ns)->(ks.all fun k=>decide (k=.u32))=true->ds=us ns
 |[],ks,ns,h,_=>by simp only[fZ,aAb,aAV]at h;obtain⟨rfl,rfl⟩:=h;rfl
 |c::ds,ks,ns,h,ha=>by
  cases c with
  |atom x=>
   cases x with
   |int k n=>
    simp only[fZ]at h;cases hi:fZ ds with
    |none=>simp[hi]at h
    |some p=>obtain⟨Zy,ns'⟩:=p;simp only[hi,aAb,aAV]at h;obtain⟨rfl,rfl⟩:=h;simp only[List.all_cons,aAS,aBX]at ha;obtain⟨rfl,ha⟩:=ha;rw[HV ds Zy ns' hi ha];rfl
   |_=>simp[fZ]at h
  |_=>simp[fZ]at h
theorem Ea:oA prog VV:=by
 intro f args st rs h;unfold VV at h
 split at h
 .rename_i hf;subst hf
  split at h
  .rename_i g q
   split at h
   .rename_i hg;subst hg
    split at h
    .rename_i e s x hH
     split at h
     .rename_i T8;obtain⟨rfl,rfl⟩:=T8
      split at h
      .rename_i n ds hsrc
       split at h
       .rename_i ks ns Xt
        split at h
        .rename_i hc;obtain⟨c1,rfl,c3⟩:=hc;injection h with h;subst h;have:=HV ds ks ns Xt c1;subst this;exact(Re ns x q st c3 hH hsrc).mono (by rintro r st' ⟨rfl,rfl⟩;simp)
        .cases h
       .cases h
      .cases h
     .cases h
    .cases h
   .cases h
  .cases h
 .cases h
theorem Qo(st:St):aB prog 67 [] st fun r st'=>r=bb true/\st'=st:=
 sC mL Nl Ea mixed 1000000 true (by kernel_rfl)
theorem So(st:St):aB prog 68 [] st fun r st'=>r=bb true/\st'=st:=
 sC mL Nl Ea mixed 1000000 true (by kernel_rfl)
structure Mp where
 g:Gr
 rots:List (List Int)
 deriving DecidableEq
abbrev dU(rs:List (List Int)):List LV:=rs.map fun r=>.sl 0 r.length (us r)
abbrev mpL(m:Mp):List LV:=grL m.g++[.sl 0 m.rots.length (dU m.rots)]
theorem kQ(rs:List (List Int))(k:Nat)(hk:k<rs.length):(dU rs).drop k=.sl 0 (rs.getD k []).length (us (rs.getD k []))::(dU rs).drop (k+1):=by unfold dU;rw[aAM (by simpa using hk)];simp[hk]
theorem qY(es:List (List Int×LV))(a x:List Int)(v:LV):bR (bQ es a v) x=if x=a then some v else bR es x:=by
 induction es with
 |nil=>simp only[bQ,bR,aCL]
 |cons p es ih=>
  by_cases h:a=p.1
  .have:bQ (p::es) a v=(a,v)::es:=by simp[bQ,h]
   rw[this];simp only[bR,aCL];by_cases hx:x=a
   .simp[hx]
   .have:¬x=p.1:=by rw[<- h];exact hx
    simp[hx,this]
  .have:bQ (p::es) a v=p::bQ es a v:=by simp[bQ,h]
   rw[this];simp only[bR,aCL];by_cases hx:x=p.1
   .have:¬x=a:=fun h'=>h (by rw[<- h',hx]);rw[aAe hx,aAa this,aAe hx]
   .simp[hx,ih]
end Aw
namespace Aw
open Go Go.RowKit Pl
@[simp] theorem aG(st:St)(a b:cI):(st.new a).set st.next b=st.new b:=St.ext' rfl fun y=>by by_cases hy:y=st.next<;>simp[hy]
theorem aK(l:List Ed):(eds l).length=l.length*3:=by
 induction l with
 |nil=>rfl
 |cons e l ih=>simp only[eds,aAJ,aAh,List.length_cons,List.length_nil]at ih ⊢;omega
abbrev ed0:Ed:=⟨0,0,0⟩
theorem aR(l:List Ed)(k:Nat)(hk:k<l.length):(eds l).drop (k*3)=u (l.getD k ed0).id::u (l.getD k ed0).a::u (l.getD k ed0).b::eds (l.drop (k+1)):=by
 induction l generalizing k with
 |nil=>simp at hk
 |cons e l ih=>
  cases k with
  |zero=>rfl
  |succ k=>have:(k+1)*3=k*3+1+1+1:=oO;rw[this];simp only[eds,aAJ,edL,List.cons_append,aCB,List.nil_append,aEM];exact ih k (by simpa using hk)
def bW(f:Nat->Int):Nat->Int
 |0=>0
 |n+1=>if bW f n≠0 then bW f n else f n
theorem gJ{f:Nat->Int}{n:Nat}(h:∀ j,j<n->f j=0):bW f n=0:=by
 induction n with
 |zero=>rfl
 |succ n ih=>simp[bW,ih (fun j hj=>h j oO),h n oO]
theorem fE{f:Nat->Int}{n k:Nat}{v:Int}(hk:k<n)(h:∀ j,j<k->f j=0)(hv:f k=v)(h0:v≠0):bW f n=v:=by
 induction n with
 |zero=>omega
 |succ n ih=>
  rcases aAB k n with h1|h1
  .have:=ih h1;simp[bW,this,h0]
  .have:k=n:=oO;subst this;simp[bW,gJ h,hv]
def eK(n ahead:Int)(first:Bool):Int:=if n<1\/1048576<n then 2 else if first=false/\n<=ahead then 19 else 0
def jX(g:Gr)(k:Nat):Int:=eK (g.vs.getD k 0) (g.vs.getD (k-1) 0) (decide (k=0))
def lB(g:Gr)(k:Nat):Int:=
 let x:=g.es.getD k ed0;let n:=eK x.id (g.es.getD (k-1) ed0).id (decide (k=0))
 if n≠0 then n else if x.a=x.b then 20 else if x.a∉g.vs\/x.b∉g.vs then 21 else 0
def chk(g:Gr):Int:=if 64<g.vs.length\/160<g.es.length then 6 else if bW (jX g) g.vs.length≠0 then bW (jX g) g.vs.length else bW (lB g) g.es.length
theorem Has(g:Gr)(v:Int)(st:St)(hl:small g.vs):
 aB prog 29 [.ag (grL g),u v] st fun r st'=>r=bb (decide (v∈g.vs))/\aA st st':=by
 obtain⟨l,es⟩:=g;simp only at hl ⊢;unfold small at hl;refine zN func29 ntmps29 [.tmp 4] ?_
 (repeat' (first|apply qS|apply qB|(refine zE ?_;intro J hJ;simp[];refine zJ hJ ?_)))
 refine qL (fun n fr st'=>∃ k:Nat,k<=l.length/\n=l.length-k/\fr 8=.sl 0 l.length (us l)/\fr 1=u v/\fr 9=i l.length/\fr 10=i k/\aA st st'/\∀ j (hj:j<l.length),j<k->l[j]≠v) l.length ?_ ?_
 .exact⟨0,oO,oO,sS,sS,sS,sS,aA.new _ _,fun j _ h=>by omega⟩
 rintro n fr st' ⟨k,hk,rfl,h8,h1,h9,K2,Xm,YI⟩ JJ hJJ;by_cases dN:k<l.length
 .have hd:=dX l k dN;have hw:=qN k oO
  (repeat' (first|apply qS|apply qB|refine qK (zZ ?_)|(refine qR (zZ ?_);simp[h8,h1,h9,K2,dN,hd,hw])|(apply qC;simp[h8,h1,h9,K2,dN,hd,hw];(try with_reducible refine⟨?_,?_⟩)<;>(try with_reducible intro hc))|(refine zE ?_;intro J hJ;simp[h8,h1,h9,K2,dN,hd,hw];refine zJ hJ ?_)))
  .exact⟨by rw[<- hc];exact aAu dN,Xm⟩
  .refine hJJ _ _ _ ?_ ⟨k+1,oO,rfl,by simp[h8],by simp[h1],by simp[h9],sS,Xm,fun j hj I6=>?_⟩
   .omega
   .rcases aAB j k with h|h
    .exact YI j hj h
    .obtain rfl:j=k:=oO;exact hc
 ·(repeat' (first|apply qS|refine qX (zZ ?_)|(refine qR (zZ ?_);simp[h8,h1,h9,K2,dN])|(apply qC;simp[h8,h1,h9,K2,dN])|(refine zE ?_;intro J hJ;simp[h8,h1,h9,K2,dN];refine zJ hJ ?_)))
  refine⟨fun hm=>?_,Xm⟩;obtain⟨j,hj,rfl⟩:=aAy hm;exact YI j hj oO rfl
theorem Qh(g:Gr)(v:Int)(st:St)(hl:small g.vs):
 aB prog 55 [.ag (grL g),u v] st fun r st'=>r=i (gi g.vs v)/\aA st st':=by
 obtain⟨l,es⟩:=g;simp only at hl ⊢;refine zN func55 ntmps55 [.tmp 4] ?_
 (repeat' (first|apply qS|(refine zE ?_;intro J hJ;simp[];(try refine zJ hJ ?_))))
 refine qE (Index l 0 v _ hl) (by simp[]) ?_;rintro r st' ⟨rfl,rfl⟩
 (repeat' (first|(refine qR (zZ ?_);simp[])|(apply aD;simp[];refine zJ hJ ?_)))
 exact aA.new _ _
theorem number(n ahead:Int)(first:Bool)(st:St):
 aB prog 59 [u n,u ahead,bb first] st fun r st'=>r=i (eK n ahead first)/\st'=st:=by
 unfold eK;refine zN func59 ntmps59 [.tmp 6] ?_;by_cases h1:n<1
 ·(repeat' (first|apply qS|apply qB|(refine qR (zZ ?_);simp[h1])|(apply qC;simp[h1])|(refine zE ?_;intro J hJ;simp[h1];refine zJ hJ ?_)))
 by_cases h2:1048576<n
 ·(repeat' (first|apply qS|apply qB|(refine qR (zZ ?_);simp[h1,h2])|(apply qC;simp[h1,h2])|(refine zE ?_;intro J hJ;simp[h1,h2];refine zJ hJ ?_)))
 cases first
 .by_cases h3:n<=ahead
  ·(repeat' (first|apply qS|apply qB|(refine qR (zZ ?_);simp[h1,h2,h3])|(apply qC;simp[h1,h2,h3])|(refine zE ?_;intro J hJ;simp[h1,h2,h3];refine zJ hJ ?_)))
  ·(repeat' (first|apply qS|apply qB|refine qK (zZ ?_)|(refine qR (zZ ?_);simp[h1,h2,h3])|(apply qC;simp[h1,h2,h3])|(refine zE ?_;intro J hJ;simp[h1,h2,h3];refine zJ hJ ?_)))
 ·(repeat' (first|apply qS|apply qB|refine qK (zZ ?_)|(refine qR (zZ ?_);simp[h1,h2])|(apply qC;simp[h1,h2])|(refine zE ?_;intro J hJ;simp[h1,h2];refine zJ hJ ?_)))
theorem Check(g:Gr)(st:St)(hv:g.vs.length<=1000)(he:g.es.length<=1000):
 aB prog 30 [.ag (grL g)] st fun r st'=>r=i (chk g)/\aA st st':=by
 have ZZ:small g.vs:=by unfold small;omega
 refine zN func30 ntmps30 [.tmp 2] ?_;by_cases h1:(64:Int)<(g.vs.length:Int)
 .have:chk g=6:=by unfold chk;rw[aAe oO]
  (repeat' (first|apply qS|(refine qR (zZ ?_);simp[h1,this])|(apply qC;simp[h1,this])|(refine zE ?_;intro J hJ;simp[h1,this];refine zJ hJ ?_)))
  exact aA.new _ _
 by_cases h2:(160:Int)<(g.es.length:Int)
 .have:chk g=6:=by unfold chk;rw[aAe oO]
  (repeat' (first|apply qS|(refine qR (zZ ?_);simp[h1,h2,this])|(apply qC;simp[h1,h2,this])|(refine zE ?_;intro J hJ;simp[h1,h2,this];refine zJ hJ ?_)))
  exact aA.new _ _
 have v5:chk g=if bW (jX g) g.vs.length≠0 then bW (jX g) g.vs.length else bW (lB g) g.es.length:=by unfold chk;rw[aAa oO]
 (repeat' (first|apply qS|apply qB|refine qK (zZ ?_)|(apply qC;simp[h1,h2])|(refine zE ?_;intro J hJ;simp[h1,h2];refine zJ hJ ?_)))
 refine qL (fun n fr st'=>∃ k:Nat,k<=g.vs.length/\n=g.vs.length-k/\fr 1=.pt st.next 0/\fr 21=.sl 0 g.vs.length (us g.vs)/\fr 22=i g.vs.length/\fr 23=i k/\fr 3=u (if k=0 then 0 else g.vs.getD (k-1) 0)/\st'=st.new (.box 25 2 (grL g))/\∀ j,j<k->jX g j=0) g.vs.length ?_ ?_
 .exact⟨0,oO,oO,sS,sS,sS,sS,sS,rfl,fun j h=>by omega⟩
 rintro n fr st' ⟨k,hk,rfl,f1,f21,f22,f23,f3,rfl,YI⟩ JJ hJJ;by_cases dN:k<g.vs.length
 .have hd:=qG g.vs k dN;have hw:=qN k oO;have Yb:jX g k=eK (g.vs.getD k 0) (if k=0 then 0 else g.vs.getD (k-1) 0) (decide (k=0)):=by
   unfold jX;by_cases h0:k=0
   .subst h0;simp[eK]
   .simp[h0]
  generalize hy:(if k=0 then(0:Int)else g.vs.getD (k-1) 0)=y at *;generalize hx:g.vs.getD k 0=x at *;have Yj:((k:Int)==0)=decide (k=0):=by by_cases h0:k=0<;>simp[h0]
  (repeat' (first|apply qS|apply qB|refine qK (zZ ?_)|(apply qC;simp[f1,f21,f22,f23,f3,dN,hd,hw,Yj])|(refine zE ?_;intro J hJ;simp[f1,f21,f22,f23,f3,dN,hd,hw,Yj];(try refine zJ hJ ?_))))
  refine qE (number x y (decide (k=0)) _) (by simp[]) ?_;rintro r st' ⟨rfl,rfl⟩;rw[<- Yb];by_cases hb:jX g k=0
  ·(repeat' (first|apply qS|refine qK (zZ ?_)|(apply qC;simp[f23,hw,hb])|((first|(refine zE ?_;intro J hJ)|(apply aD));simp[f23,hw,hb];refine zJ hJ ?_)))
   refine hJJ _ _ _ ?_ ⟨k+1,oO,rfl,by simp[f1],by simp[f21],by simp[f22],sS,by rw[aAa oO,aCd,hx];simp,rfl,fun j hj=>?_⟩
   .omega
   .rcases aAB j k with h|h
    .exact YI j h
    .obtain rfl:j=k:=oO;exact hb
  .have hf:=fE dN YI rfl hb;have hr:chk g=jX g k:=by rw[v5,hf,aAe hb]
   (repeat' (first|apply qS|(refine qR (zZ ?_);simp[hb])|(apply qC;simp[hb])|((first|(refine zE ?_;intro J hJ)|(apply aD));simp[hb];refine zJ hJ ?_)))
   exact⟨hr.symm,aA.new _ _⟩
 have ZA:k=g.vs.length:=oO;have hz:bW (jX g) g.vs.length=0:=gJ (fun j hj=>YI j oO);rw[hz]at v5;simp only[ne_eq,aDX,aBB]at v5;clear hJJ YI hz;have hel:=aK g.es;generalize hy:(if k=0 then(0:Int)else g.vs.getD (k-1) 0)=y at *
 (repeat' (first|apply qS|apply qB|refine qX (zZ ?_)|(apply qC;simp[f1,f21,f22,f23,f3,dN])|(refine zE ?_;intro J hJ;simp[f1,f21,f22,f23,f3,dN];refine zJ hJ ?_)))
 refine qL (fun n fr st'=>∃ k:Nat,k<=g.es.length/\n=g.es.length-k/\fr 1=.pt st.next 0/\fr 39=.sl 0 g.es.length (eds g.es)/\fr 40=i g.es.length/\fr 41=i k/\(∃ z,fr 3=u z/\(k≠0->z=(g.es.getD (k-1) ed0).id))/\aA (st.new (.box 25 2 (grL g))) st'/\∀ j,j<k->lB g j=0) g.es.length ?_ ?_
 .exact⟨0,oO,oO,by simp[f1],sS,sS,sS,⟨y,by simp[f3],sS⟩,aA.refl _,fun j h=>by omega⟩
 clear f1 f21 f22 f23 f3 dN ZA hk hy y fr k;rintro n fr Yt ⟨k,hk,rfl,f1,f39,f40,f41,⟨z,f3,hz⟩,Xm,YI⟩ JJ hJJ;have C8:Yt.H st.next=.box 25 2 (grL g):=by rw[Xm.H _ sS];simp
 have YK:¬st.next=Yt.next:=by have:=Xm.next;simp only[aF]at this;omega
 have G9:=(aA.new st (.box 25 2 (grL g))).trans Xm;by_cases dN:k<g.es.length
 .have hd:=aR g.es k dN;have hw:=qN k oO;have Xq:k*3<g.es.length*3:=oO;have hk30:k*3+3<=g.es.length*3:=oO;have Yb:lB g k=(let x:=g.es.getD k ed0;let n:=eK x.id z (decide (k=0));if n≠0 then n else if x.a=x.b then 20 else if x.a∉g.vs\/x.b∉g.vs then 21 else 0):=by
   unfold lB;by_cases h0:k=0
   .subst h0;simp[eK]
   .rw[hz h0]
  generalize hx:g.es.getD k ed0=x at *;obtain⟨xi,xa,xb⟩:=x;simp only at hd Yb;have Yj:((k:Int)==0)=decide (k=0):=by by_cases h0:k=0<;>simp[h0]
  (repeat' (first|apply qS|apply qB|refine qK (zZ ?_)|(apply qC;simp[f1,f39,f40,f41,f3,dN,hd,hw,Yj,hel,Xq,C8,YK])|(refine zE ?_;intro J hJ;simp[f1,f39,f40,f41,f3,dN,hd,hw,Yj,hel,Xq,C8,YK];(try refine zJ hJ ?_))))
  refine qE (number xi z (decide (k=0)) _) (by simp[]) ?_;rintro r st' ⟨rfl,rfl⟩;by_cases hb:eK xi z (decide (k=0))=0;rotate_left
  .have hb':lB g k=eK xi z (decide (k=0)):=by rw[Yb,aAe hb]
   have hr:chk g=eK xi z (decide (k=0)):=by rw[v5];exact fE dN YI hb' hb
   (repeat' (first|apply qS|(refine qR (zZ ?_);simp[hb])|(apply qC;simp[hb])|((first|(refine zE ?_;intro J hJ)|(apply aD));simp[hb];refine zJ hJ ?_)))
   exact⟨hr.symm,G9.trans (aA.new _ _)⟩
  rw[aAa (by simp[hb])]at Yb;by_cases YA:xa=xb
  .have hb':lB g k=20:=by rw[Yb,aAe YA]
   have hr:chk g=20:=by rw[v5];exact fE dN YI hb' (by decide)
   (repeat' (first|apply qS|refine qK (zZ ?_)|(refine qR (zZ ?_);simp[hb,YA,hr])|(apply qC;simp[hb,YA,hr])|((first|(refine zE ?_;intro J hJ)|(apply aD));simp[hb,YA,hr];refine zJ hJ ?_)))
   exact G9.trans (aA.new _ _)
  rw[aAa YA]at Yb
  (repeat' (first|apply qS|refine qK (zZ ?_)|(apply qC;simp[hb,YA,f1,YK,C8])|((first|(refine zE ?_;intro J hJ)|(apply aD));simp[hb,YA,f1,YK,C8];(try refine zJ hJ ?_))))
  refine qE (Qh g xa _ ZZ) (by simp[]) ?_;rintro r st' ⟨rfl,Xn⟩;have Zj:st'.H Yt.next=.box 56 3 [u xi,u xa,u xb]:=by rw[Xn.H _ sS];simp
  have B3:st'.H st.next=.box 25 2 (grL g):=by rw[Xn.H _ (by have:=Xm.next;simp only[aF]at this ⊢;omega),cB,aAa YK];exact C8
  have p7:=(Xm.trans (aA.new _ _)).trans Xn;have E0:=(G9.trans (aA.new _ _)).trans Xn;by_cases J3:xa∈g.vs;rotate_left
  .rw[At J3];have hb':lB g k=21:=by rw[Yb,aAe (.inl J3)]
   have hr:chk g=21:=by rw[v5];exact fE dN YI hb' (by decide)
   (repeat' (first|apply qS|(refine qR (zZ ?_);simp[f1,Zj,B3,hr])|(apply qC;simp[f1,Zj,B3,hr])|((first|(refine zE ?_;intro J hJ)|(apply aD));simp[f1,Zj,B3,hr];refine zJ hJ ?_)))
   exact E0
  rw[sF J3];have p8:¬((g.vs.idxOf xa:Nat):Int)<0:=oO
  (apply aD;simp[f1,Zj,B3,p8])
  refine qE (Qh g xb _ ZZ) (by simp[]) ?_;rintro r st' ⟨rfl,Xx⟩;by_cases u5:xb∈g.vs;rotate_left
  .rw[At u5];have hb':lB g k=21:=by rw[Yb,aAe (.inr u5)]
   have hr:chk g=21:=by rw[v5];exact fE dN YI hb' (by decide)
   (repeat' (first|apply qS|(refine qR (zZ ?_);simp[hr])|(apply qC;simp[hr])|((first|(refine zE ?_;intro J hJ)|(apply aD));simp[hr];refine zJ hJ ?_)))
   exact E0.trans Xx
  rw[sF u5];have YZ:¬((g.vs.idxOf xb:Nat):Int)<0:=oO;have hb':lB g k=0:=by rw[Yb,aAa (by simp[J3,u5])]
  (repeat' (first|refine qK (zZ ?_)|(apply qC;simp[f41,hw,YZ])|((first|(refine zE ?_;intro J hJ)|(apply aD));simp[f41,hw,YZ];refine zJ hJ ?_)))
  refine hJJ _ _ _ ?_ ⟨k+1,oO,rfl,by simp[f1],by simp[f39],by simp[f40],sS,⟨xi,sS,fun _=>by rw[aCd,hx]⟩,p7.trans Xx,fun j hj=>?_⟩
  .omega
  .rcases aAB j k with h|h
   .exact YI j h
   .obtain rfl:j=k:=oO;exact hb'
 .have hr:chk g=0:=by rw[v5];exact gJ (fun j hj=>YI j oO)
  clear hJJ
  (repeat' (first|apply qS|refine qX (zZ ?_)|(refine qR (zZ ?_);simp[f1,f39,f40,f41,f3,dN,hr])|(apply qC;simp[f1,f39,f40,f41,f3,dN,hr])|(refine zE ?_;intro J hJ;simp[f1,f39,f40,f41,f3,dN,hr];refine zJ hJ ?_)))
  exact G9
theorem CL(g:Gr)(st:St)(hv:g.vs.length<=1000)(he:g.es.length<=1000):
 aB prog 8 [.ag (grL g)] st fun r st'=>r=i (chk g)/\aA st st':=by
 have ZZ:small g.vs:=by unfold small;omega
 refine zN func8 ntmps8 [.tmp 2] ?_;by_cases h1:(64:Int)<(g.vs.length:Int)
 .have:chk g=6:=by unfold chk;rw[aAe oO]
  (repeat' (first|apply qS|(refine qR (zZ ?_);simp[h1,this])|(apply qC;simp[h1,this])|(refine zE ?_;intro J hJ;simp[h1,this];refine zJ hJ ?_)))
  exact aA.new _ _
 by_cases h2:(160:Int)<(g.es.length:Int)
 .have:chk g=6:=by unfold chk;rw[aAe oO]
  (repeat' (first|apply qS|(refine qR (zZ ?_);simp[h1,h2,this])|(apply qC;simp[h1,h2,this])|(refine zE ?_;intro J hJ;simp[h1,h2,this];refine zJ hJ ?_)))
  exact aA.new _ _
 have v5:chk g=if bW (jX g) g.vs.length≠0 then bW (jX g) g.vs.length else bW (lB g) g.es.length:=by unfold chk;rw[aAa oO]
 (repeat' (first|apply qS|apply qB|refine qK (zZ ?_)|(apply qC;simp[h1,h2])|(refine zE ?_;intro J hJ;simp[h1,h2];refine zJ hJ ?_)))
 refine qL (fun n fr st'=>∃ k:Nat,k<=g.vs.length/\n=g.vs.length-k/\fr 1=.pt st.next 0/\fr 18=.sl 0 g.vs.length (us g.vs)/\fr 19=i g.vs.length/\fr 20=i k/\st'=st.new (.box 25 2 (grL g))/\∀ j,j<k->jX g j=0) g.vs.length ?_ ?_
 .exact⟨0,oO,oO,sS,sS,sS,sS,rfl,fun j h=>by omega⟩
 rintro n fr st' ⟨k,hk,rfl,f1,f18,f19,f20,rfl,YI⟩ JJ hJJ;by_cases dN:k<g.vs.length
 .have hd:=qG g.vs k dN;have hw:=qN k oO;have Yb:jX g k=eK (g.vs.getD k 0) (g.vs.getD (k-1) 0) (decide (k=0)):=rfl;have ZB:jX g k=0->∀ j,j<k+1->jX g j=0:=fun hb j hj=>by
   rcases aAB j k with h|h
   .exact YI j h
   .obtain rfl:j=k:=oO;exact hb
  have E8:∀ v,jX g k=v->v≠0->chk g=v:=fun v h0 h1=>by have hf:=fE dN YI h0 h1;rw[v5,hf,aAe h1]
  generalize hx:g.vs.getD k 0=x at *;by_cases hx1:x<1
  .have hr:=E8 2 (by rw[Yb];unfold eK;rw[aAe (.inl hx1)]) (by decide)
   (repeat' (first|apply qS|apply qB|refine qK (zZ ?_)|(refine qR (zZ ?_);simp[f1,f18,f19,f20,dN,hd,hw,hx1,hr])|(apply qC;simp[f1,f18,f19,f20,dN,hd,hw,hx1,hr])|(refine zE ?_;intro J hJ;simp[f1,f18,f19,f20,dN,hd,hw,hx1,hr];refine zJ hJ ?_)))
   exact aA.new _ _
  by_cases Ys:1048576<x
  .have hr:=E8 2 (by rw[Yb];unfold eK;rw[aAe (.inr Ys)]) (by decide)
   (repeat' (first|apply qS|apply qB|refine qK (zZ ?_)|(refine qR (zZ ?_);simp[f1,f18,f19,f20,dN,hd,hw,hx1,Ys,hr])|(apply qC;simp[f1,f18,f19,f20,dN,hd,hw,hx1,Ys,hr])|(refine zE ?_;intro J hJ;simp[f1,f18,f19,f20,dN,hd,hw,hx1,Ys,hr];refine zJ hJ ?_)))
   exact aA.new _ _
  by_cases h0:k=0
  .have hb:jX g k=0:=by rw[Yb];unfold eK;rw[aAa (by simp[hx1,Ys])];simp[h0]
   have Yj:¬0<k:=oO
   (repeat' (first|apply qS|apply qB|refine qK (zZ ?_)|(apply qC;simp[f1,f18,f19,f20,dN,hd,hw,hx1,Ys,Yj])|(refine zE ?_;intro J hJ;simp[f1,f18,f19,f20,dN,hd,hw,hx1,Ys,Yj];refine zJ hJ ?_)))
   refine hJJ _ _ _ ?_ ⟨k+1,oO,rfl,by simp[f1],by simp[f18],by simp[f19],sS,rfl,ZB hb⟩;omega
  .have Yj:0<k:=oO;have ZE:IntKind.i64.wrap ((k:Int)-1)=((k-1:Nat):Int):=zW;have Xu:=qG g.vs (k-1) oO;have ZT:k-1<g.vs.length:=oO;generalize hy:g.vs.getD (k-1) 0=y at *;by_cases Xr:x<=y
   .have hr:=E8 19 (by rw[Yb];unfold eK;rw[aAa (by simp[hx1,Ys]),aAe ⟨by simp[h0],Xr⟩]) (by decide)
    (repeat' (first|apply qS|apply qB|refine qK (zZ ?_)|(refine qR (zZ ?_);simp[f1,f18,f19,f20,dN,hd,hw,hx1,Ys,Yj,ZE,Xu,ZT,Xr,hr])|(apply qC;simp[f1,f18,f19,f20,dN,hd,hw,hx1,Ys,Yj,ZE,Xu,ZT,Xr,hr])|(refine zE ?_;intro J hJ;simp[f1,f18,f19,f20,dN,hd,hw,hx1,Ys,Yj,ZE,Xu,ZT,Xr,hr];refine zJ hJ ?_)))
    exact aA.new _ _
   .have hb:jX g k=0:=by rw[Yb];unfold eK;rw[aAa (by simp[hx1,Ys]),aAa (by simp[Xr])]
    (repeat' (first|apply qS|apply qB|refine qK (zZ ?_)|(apply qC;simp[f1,f18,f19,f20,dN,hd,hw,hx1,Ys,Yj,ZE,Xu,ZT,Xr])|(refine zE ?_;intro J hJ;simp[f1,f18,f19,f20,dN,hd,hw,hx1,Ys,Yj,ZE,Xu,ZT,Xr];refine zJ hJ ?_)))
    refine hJJ _ _ _ ?_ ⟨k+1,oO,rfl,by simp[f1],by simp[f18],by simp[f19],sS,rfl,ZB hb⟩;omega
 have ZA:k=g.vs.length:=oO;have hz:bW (jX g) g.vs.length=0:=gJ (fun j hj=>YI j oO);rw[hz]at v5;simp only[ne_eq,aDX,aBB]at v5;clear hJJ YI hz;have hel:=aK g.es
 (repeat' (first|apply qS|apply qB|refine qX (zZ ?_)|(apply qC;simp[f1,f18,f19,f20,dN])|(refine zE ?_;intro J hJ;simp[f1,f18,f19,f20,dN];refine zJ hJ ?_)))
 refine qL (fun n fr st'=>∃ k:Nat,k<=g.es.length/\n=g.es.length-k/\fr 1=.pt st.next 0/\fr 45=.sl 0 g.es.length (eds g.es)/\fr 46=i g.es.length/\fr 47=i k/\aA (st.new (.box 25 2 (grL g))) st'/\∀ j,j<k->lB g j=0) g.es.length ?_ ?_
 .exact⟨0,oO,oO,by simp[f1],sS,sS,sS,aA.refl _,fun j h=>by omega⟩
 clear f1 f18 f19 f20 dN ZA hk fr k;rintro n fr Yt ⟨k,hk,rfl,f1,f45,f46,f47,Xm,YI⟩ JJ hJJ;have C8:Yt.H st.next=.box 25 2 (grL g):=by rw[Xm.H _ sS];simp
 have YK:¬st.next=Yt.next:=by have:=Xm.next;simp only[aF]at this;omega
 have G9:=(aA.new st (.box 25 2 (grL g))).trans Xm;by_cases dN:k<g.es.length
 .have hd:=aR g.es k dN;have hw:=qN k oO;have Xq:k*3<g.es.length*3:=oO;have Yb:lB g k=(let x:=g.es.getD k ed0;let n:=eK x.id (g.es.getD (k-1) ed0).id (decide (k=0));if n≠0 then n else if x.a=x.b then 20 else if x.a∉g.vs\/x.b∉g.vs then 21 else 0):=rfl;have ZB:lB g k=0->∀ j,j<k+1->lB g j=0:=fun hb j hj=>by
   rcases aAB j k with h|h
   .exact YI j h
   .obtain rfl:j=k:=oO;exact hb
  have E8:∀ v,lB g k=v->v≠0->chk g=v:=fun v h0 h1=>by rw[v5];exact fE dN YI h0 h1
  generalize hx:g.es.getD k ed0=x at *;obtain⟨xi,xa,xb⟩:=x;simp only at hd Yb;have hkn:=G9.trans (aA.new _ (.box 56 3 [u xi,u xa,u xb]));by_cases hx1:xi<1
  .have hn:eK xi (g.es.getD (k-1) ed0).id (decide (k=0))=2:=by unfold eK;rw[aAe (.inl hx1)]
   have hr:=E8 2 (by rw[Yb,hn];rfl) (by decide)
   (repeat' (first|apply qS|apply qB|refine qK (zZ ?_)|(refine qR (zZ ?_);simp[f1,f45,f46,f47,dN,hd,hw,hel,Xq,C8,YK,hx1,hr])|(apply qC;simp[f1,f45,f46,f47,dN,hd,hw,hel,Xq,C8,YK,hx1,hr])|(refine zE ?_;intro J hJ;simp[f1,f45,f46,f47,dN,hd,hw,hel,Xq,C8,YK,hx1,hr];refine zJ hJ ?_)))
   exact hkn
  by_cases Ys:1048576<xi
  .have hn:eK xi (g.es.getD (k-1) ed0).id (decide (k=0))=2:=by unfold eK;rw[aAe (.inr Ys)]
   have hr:=E8 2 (by rw[Yb,hn];rfl) (by decide)
   (repeat' (first|apply qS|apply qB|refine qK (zZ ?_)|(refine qR (zZ ?_);simp[f1,f45,f46,f47,dN,hd,hw,hel,Xq,C8,YK,hx1,Ys,hr])|(apply qC;simp[f1,f45,f46,f47,dN,hd,hw,hel,Xq,C8,YK,hx1,Ys,hr])|(refine zE ?_;intro J hJ;simp[f1,f45,f46,f47,dN,hd,hw,hel,Xq,C8,YK,hx1,Ys,hr];refine zJ hJ ?_)))
   exact hkn
  by_cases K9:eK xi (g.es.getD (k-1) ed0).id (decide (k=0))=0;rotate_left
  ·
   have h0:k≠0:=by rintro rfl;apply K9;unfold eK;rw[aAa (by simp[hx1,Ys])];simp
   have Xr:xi<=(g.es.getD (k-1) ed0).id:=by
    unfold eK at K9;rw[aAa (by simp[hx1,Ys])]at K9;by_cases h:decide (k=0)=false/\xi<=(g.es.getD (k-1) ed0).id
    .exact h.2
    .rw[aAa h]at K9;exact absurd rfl K9
   have hn:eK xi (g.es.getD (k-1) ed0).id (decide (k=0))=19:=by unfold eK;rw[aAa (by simp[hx1,Ys]),aAe ⟨by simp[h0],Xr⟩]
   have hr:=E8 19 (by rw[Yb,hn];rfl) (by decide);have Yj:0<k:=oO;have ZE:IntKind.i64.wrap ((k:Int)-1)=((k-1:Nat):Int):=zW;have Xu:=aR g.es (k-1) oO;have ZT:k-1<g.es.length:=oO;have Yk:(k-1)*3<g.es.length*3:=oO;generalize hy:g.es.getD (k-1) ed0=y at *;obtain⟨yi,ya,yb⟩:=y;simp only at Xu Xr
   (repeat' (first|apply qS|apply qB|refine qK (zZ ?_)|(refine qR (zZ ?_);simp[f1,f45,f46,f47,dN,hd,hw,hel,Xq,C8,YK,hx1,Ys,Yj,ZE,Xu,ZT,Yk,Xr,hr])|(apply qC;simp[f1,f45,f46,f47,dN,hd,hw,hel,Xq,C8,YK,hx1,Ys,Yj,ZE,Xu,ZT,Yk,Xr,hr])|((first|(refine zE ?_;intro J hJ)|(refine w_q ?_;intro J hJ));simp[f1,f45,f46,f47,dN,hd,hw,hel,Xq,C8,YK,hx1,Ys,Yj,ZE,Xu,ZT,Yk,Xr,hr];refine zJ hJ ?_)))
   exact hkn
  rw[aAa (fun h=>h K9)]at Yb;by_cases YA:xa=xb
  .have hr:=E8 20 (by rw[Yb,aAe YA]) (by decide);by_cases h0:k=0
   .have Yj:¬0<k:=oO
    (repeat' (first|apply qS|apply qB|refine qK (zZ ?_)|(refine qR (zZ ?_);simp[f1,f45,f46,f47,dN,hd,hw,hel,Xq,C8,YK,hx1,Ys,Yj,YA,hr])|(apply qC;simp[f1,f45,f46,f47,dN,hd,hw,hel,Xq,C8,YK,hx1,Ys,Yj,YA,hr])|((first|(refine zE ?_;intro J hJ)|(refine w_q ?_;intro J hJ));simp[f1,f45,f46,f47,dN,hd,hw,hel,Xq,C8,YK,hx1,Ys,Yj,YA,hr];refine zJ hJ ?_)))
    exact G9.trans (aA.new _ _)
   .have Yj:0<k:=oO;have ZE:IntKind.i64.wrap ((k:Int)-1)=((k-1:Nat):Int):=zW;have Xu:=aR g.es (k-1) oO;have ZT:k-1<g.es.length:=oO;have Yk:(k-1)*3<g.es.length*3:=oO;have Xr:¬xi<=(g.es.getD (k-1) ed0).id:=by intro h;unfold eK at K9;rw[aAa (by simp[hx1,Ys]),aAe ⟨by simp[h0],h⟩]at K9;cases K9
    generalize hy:g.es.getD (k-1) ed0=y at *;obtain⟨yi,ya,yb⟩:=y;simp only at Xu Xr
    (repeat' (first|apply qS|apply qB|refine qK (zZ ?_)|(refine qR (zZ ?_);simp[f1,f45,f46,f47,dN,hd,hw,hel,Xq,C8,YK,hx1,Ys,Yj,ZE,Xu,ZT,Yk,Xr,YA,hr])|(apply qC;simp[f1,f45,f46,f47,dN,hd,hw,hel,Xq,C8,YK,hx1,Ys,Yj,ZE,Xu,ZT,Yk,Xr,YA,hr])|((first|(refine zE ?_;intro J hJ)|(refine w_q ?_;intro J hJ));simp[f1,f45,f46,f47,dN,hd,hw,hel,Xq,C8,YK,hx1,Ys,Yj,ZE,Xu,ZT,Yk,Xr,YA,hr];refine zJ hJ ?_)))
    exact G9.trans (aA.new _ _)
  rw[aAa YA]at Yb;by_cases h0:k=0
  .have Yj:¬0<k:=oO
   (repeat' (first|apply qS|apply qB|refine qK (zZ ?_)|(apply qC;simp[f1,f45,f46,f47,dN,hd,hw,hel,Xq,C8,YK,hx1,Ys,Yj,YA])|((first|(refine zE ?_;intro J hJ)|(refine w_q ?_;intro J hJ));simp[f1,f45,f46,f47,dN,hd,hw,hel,Xq,C8,YK,hx1,Ys,Yj,YA];(try refine zJ hJ ?_))))
   refine qE (Has g xa _ ZZ) (by simp[]) ?_;rintro r st' ⟨rfl,Xn⟩;have Zj:st'.H Yt.next=.box 56 3 [u xi,u xa,u xb]:=by rw[Xn.H _ sS];simp
   have B3:st'.H st.next=.box 25 2 (grL g):=by rw[Xn.H _ (by have:=Xm.next;simp only[aF]at this ⊢;omega),cB,aAa YK];exact C8
   have p7:=(Xm.trans (aA.new _ _)).trans Xn;have E0:=(G9.trans (aA.new _ _)).trans Xn;by_cases J3:xa∈g.vs;rotate_left
   .have hr:=E8 21 (by rw[Yb,aAe (.inl J3)]) (by decide)
    (repeat' (first|apply qS|(refine qR (zZ ?_);simp[f1,Zj,B3,hr,J3])|(apply qC;simp[f1,Zj,B3,hr,J3])|((first|(refine zE ?_;intro J hJ)|(apply aD));simp[f1,Zj,B3,hr,J3];refine zJ hJ ?_)))
    exact E0
   (apply aD;simp[f1,Zj,B3,J3])
   refine qE (Has g xb _ ZZ) (by simp[]) ?_;rintro r st' ⟨rfl,Xx⟩;by_cases u5:xb∈g.vs;rotate_left
   .have hr:=E8 21 (by rw[Yb,aAe (.inr u5)]) (by decide)
    (repeat' (first|apply qS|(refine qR (zZ ?_);simp[hr,u5])|(apply qC;simp[hr,u5])|((first|(refine zE ?_;intro J hJ)|(apply aD));simp[hr,u5];refine zJ hJ ?_)))
    exact E0.trans Xx
   have hb':lB g k=0:=by rw[Yb,aAa (by simp[J3,u5])]
   (repeat' (first|refine qK (zZ ?_)|(apply qC;simp[f47,hw,u5])|((first|(refine zE ?_;intro J hJ)|(apply aD));simp[f47,hw,u5];refine zJ hJ ?_)))
   refine hJJ _ _ _ ?_ ⟨k+1,oO,rfl,by simp[f1],by simp[f45],by simp[f46],sS,p7.trans Xx,ZB hb'⟩;omega
  .have Yj:0<k:=oO;have ZE:IntKind.i64.wrap ((k:Int)-1)=((k-1:Nat):Int):=zW;have Xu:=aR g.es (k-1) oO;have ZT:k-1<g.es.length:=oO;have Yk:(k-1)*3<g.es.length*3:=oO;have Xr:¬xi<=(g.es.getD (k-1) ed0).id:=by intro h;unfold eK at K9;rw[aAa (by simp[hx1,Ys]),aAe ⟨by simp[h0],h⟩]at K9;cases K9
   generalize hy:g.es.getD (k-1) ed0=y at *;obtain⟨yi,ya,yb⟩:=y;simp only at Xu Xr
   (repeat' (first|apply qS|apply qB|refine qK (zZ ?_)|(apply qC;simp[f1,f45,f46,f47,dN,hd,hw,hel,Xq,C8,YK,hx1,Ys,Yj,ZE,Xu,ZT,Yk,Xr,YA])|((first|(refine zE ?_;intro J hJ)|(refine w_q ?_;intro J hJ));simp[f1,f45,f46,f47,dN,hd,hw,hel,Xq,C8,YK,hx1,Ys,Yj,ZE,Xu,ZT,Yk,Xr,YA];(try refine zJ hJ ?_))))
   refine qE (Has g xa _ ZZ) (by simp[]) ?_;rintro r st' ⟨rfl,Xn⟩;have Zj:st'.H Yt.next=.box 56 3 [u xi,u xa,u xb]:=by rw[Xn.H _ sS];simp
   have B3:st'.H st.next=.box 25 2 (grL g):=by rw[Xn.H _ (by have:=Xm.next;simp only[aF]at this ⊢;omega),cB,aAa YK];exact C8
   have p7:=(Xm.trans (aA.new _ _)).trans Xn;have E0:=(G9.trans (aA.new _ _)).trans Xn;by_cases J3:xa∈g.vs;rotate_left
   .have hr:=E8 21 (by rw[Yb,aAe (.inl J3)]) (by decide)
    (repeat' (first|apply qS|(refine qR (zZ ?_);simp[f1,Zj,B3,hr,J3])|(apply qC;simp[f1,Zj,B3,hr,J3])|((first|(refine zE ?_;intro J hJ)|(apply aD));simp[f1,Zj,B3,hr,J3];refine zJ hJ ?_)))
    exact E0
   (apply aD;simp[f1,Zj,B3,J3])
   refine qE (Has g xb _ ZZ) (by simp[]) ?_;rintro r st' ⟨rfl,Xx⟩;by_cases u5:xb∈g.vs;rotate_left
   .have hr:=E8 21 (by rw[Yb,aAe (.inr u5)]) (by decide)
    (repeat' (first|apply qS|(refine qR (zZ ?_);simp[hr,u5])|(apply qC;simp[hr,u5])|((first|(refine zE ?_;intro J hJ)|(apply aD));simp[hr,u5];refine zJ hJ ?_)))
    exact E0.trans Xx
   have hb':lB g k=0:=by rw[Yb,aAa (by simp[J3,u5])]
   (repeat' (first|refine qK (zZ ?_)|(apply qC;simp[f47,hw,u5])|((first|(refine zE ?_;intro J hJ)|(apply aD));simp[f47,hw,u5];refine zJ hJ ?_)))
   refine hJJ _ _ _ ?_ ⟨k+1,oO,rfl,by simp[f1],by simp[f45],by simp[f46],sS,p7.trans Xx,ZB hb'⟩;omega
 .have hr:chk g=0:=by rw[v5];exact gJ (fun j hj=>YI j oO)
  clear hJJ
  (repeat' (first|apply qS|refine qX (zZ ?_)|(refine qR (zZ ?_);simp[f1,f45,f46,f47,dN,hr])|(apply qC;simp[f1,f45,f46,f47,dN,hr])|(refine zE ?_;intro J hJ;simp[f1,f45,f46,f47,dN,hr];refine zJ hJ ?_)))
  exact G9
theorem Jf(l:List Ed):(eds l).all gR=true:=by
 induction l with
 |nil=>rfl
 |cons e l ih=>simp only[eds,aAJ,List.all_append,ih,aEJ];rfl
theorem UW(l:List Ed)(t:Nat)(st:St)(hl:l.length<=1048576):
 aB prog 124 [.sl t l.length (eds l)] st fun r st'=>r=.sl 0 l.length (eds l)/\aA st st':=by
 have Yx:=Jf l;have hel:=aK l;refine cD ?_;refine iQ 56 3 ?_;refine zN func124 ntmps124 [.tmp 2] ?_
 (repeat' (first|apply qS|refine qK (zZ ?_)|(refine qR (zZ ?_);simp[Yx,hel])|(apply qC;simp[Yx,hel])|(refine w_e [5] ?_;intro J hJ;simp only[];simp[Yx,hel];(repeat refine ca ?_);((try with_reducible refine⟨?_,?_⟩)<;>(try with_reducible intro Yc)<;>refine zJ hJ ?_<;>clear hJ J<;>try subst Yc))))
 .exact⟨st.next+1,l.length,⟨rfl,rfl⟩,56,3,eds l,sS,by rw[hel];exact aAi _,⟨rfl,aAr (by rw[hel];exact aAi _)⟩,((aA.new _ _).trans (aA.new _ _)).set oO _⟩
 .exact⟨st.next,0,⟨rfl,rfl⟩,56,3,[],sS,sS,⟨rfl,.inr rfl⟩,(aA.new _ _).set (aAi _) _⟩
theorem copied(g:Gr)(st:St)(hv:g.vs.length<=1048576)(he:g.es.length<=1048576):
 aB prog 84 [.ag (grL g)] st fun r st'=>r=.ag (grL g)/\aA st st':=by
 refine zN func84 ntmps84 [.cell 2 25] ?_
 (repeat' (first|apply qS|(refine zE ?_;intro J hJ;simp[];refine zJ hJ ?_)))
 (refine zS [] [st.next] [0,2,6,8,4,10,12,15] ?_;intro J hJ;simp[])
 refine qD (PU g.vs 0 _ hv) (by simp[]) ?_;rintro r st' ⟨rfl,Xn⟩;have Zj:st'.H st.next=.box 25 2 (grL g):=by rw[Xn.H _ (by simp;omega)];simp
 have hC1:st'.H (st.next+1)=.box 25 2 [.nil,.nil]:=by rw[Xn.H _ sS];simp
 refine⟨fun _=>by simp[Zj],?_⟩
 (apply aV;simp[Zj])
 have YZ:=Xn.next;simp only[aF]at YZ;refine qD (UW g.es 0 _ he) (by simp[]) ?_;rintro r st' ⟨rfl,Xx⟩;have J4:=(Xx.H st.next oO).trans Zj;have hC2:=(Xx.H (st.next+1) oO).trans hC1;refine⟨fun _=>by simp[J4],?_⟩
 (apply aV;simp[J4,hC2];refine zJ hJ ?_)
 (repeat' (refine qR (zZ ?_);simp[hC2]))
 exact(((((aA.new _ _).trans (aA.new _ _)).trans Xn).trans Xx).set oO _)
theorem Qw(a b:List Ed)(YA:a.length=b.length)(h:∀ j,j<a.length->a.getD j ed0=b.getD j ed0):a=b:=by apply aCO YA;intro j h1 h2;have:=h j h1;rw[aAc,aAc,aAd h1,aAd h2]at this;exact this
theorem PI(a b:List Int)(YA:a.length=b.length)(h:∀ j,j<a.length->a.getD j 0=b.getD j 0):a=b:=by apply aCO YA;intro j h1 h2;have:=h j h1;rw[aN _ _ h1,aN _ _ h2]at this;exact this
theorem Ca(a b:Gr)(st:St)(hv:a.vs.length<=1048576)(he:a.es.length<=1048576):
 aB prog 20 [.ag (grL a),.ag (grL b)] st fun r st'=>r=bb (decide (a=b))/\aA st st':=by
 have H7:aA st ((st.new (.box 25 2 (grL a))).new (.box 25 2 (grL b))):=(aA.new _ _).trans (aA.new _ _);refine zN func20 ntmps20 [.tmp 4] ?_;by_cases h1:a.vs.length=b.vs.length;rotate_left
 .have Y1:((a.vs.length:Int) != b.vs.length)=true:=by simp;omega
  have Wx:¬a=b:=fun h=>h1 (by rw[h])
  (repeat' (first|apply qS|(refine qR (zZ ?_);simp[Y1,Wx])|(apply qC;simp[Y1,Wx])|(refine zE ?_;intro J hJ;simp[Y1,Wx];refine zJ hJ ?_)))
  exact H7
 have Y1:((a.vs.length:Int) != b.vs.length)=false:=by simp;omega
 by_cases h2:a.es.length=b.es.length;rotate_left
 .have I5:((a.es.length:Int) != b.es.length)=true:=by simp;omega
  have Wx:¬a=b:=fun h=>h2 (by rw[h])
  (repeat' (first|apply qS|(refine qR (zZ ?_);simp[Y1,I5,Wx])|(apply qC;simp[Y1,I5,Wx])|(refine zE ?_;intro J hJ;simp[Y1,I5,Wx];refine zJ hJ ?_)))
  exact H7
 have I5:((a.es.length:Int) != b.es.length)=false:=by simp;omega
 (repeat' (first|apply qS|apply qB|refine qK (zZ ?_)|(apply qC;simp[Y1,I5])|(refine zE ?_;intro J hJ;simp[Y1,I5];refine zJ hJ ?_)))
 refine qL (fun n fr st'=>∃ k:Nat,k<=a.vs.length/\n=a.vs.length-k/\fr 2=.pt st.next 0/\fr 3=.pt (st.next+1) 0/\fr 25=i a.vs.length/\fr 26=i k/\st'=(st.new (.box 25 2 (grL a))).new (.box 25 2 (grL b))/\∀ j,j<k->a.vs.getD j 0=b.vs.getD j 0) a.vs.length ?_ ?_
 .exact⟨0,oO,oO,sS,sS,sS,sS,rfl,fun j h=>by omega⟩
 rintro n fr st' ⟨k,hk,rfl,f2,f3,f25,f26,rfl,YI⟩ JJ hJJ;by_cases dN:k<a.vs.length
 .have hd:=qG a.vs k dN;have Xy:k<b.vs.length:=oO;have Yw:=qG b.vs k Xy;have hw:=qN k oO;generalize hx:a.vs.getD k 0=x at *;generalize hy:b.vs.getD k 0=y at *;by_cases YH:x=y
  ·(repeat' (first|apply qS|apply qB|refine qK (zZ ?_)|(apply qC;simp[f2,f3,f25,f26,dN,Xy,hd,Yw,hw,YH])|((first|(refine zE ?_;intro J hJ)|(refine w_q ?_;intro J hJ));simp[f2,f3,f25,f26,dN,Xy,hd,Yw,hw,YH];refine zJ hJ ?_)))
   refine hJJ _ _ _ ?_ ⟨k+1,oO,rfl,by simp[f2],by simp[f3],by simp[f25],sS,rfl,fun j hj=>?_⟩
   .omega
   .rcases aAB j k with h|h
    .exact YI j h
    .obtain rfl:j=k:=oO;rw[hx,hy];exact YH
  .have Wx:¬a=b:=fun h=>YH (by rw[<- hx,<- hy,h])
   (repeat' (first|apply qS|apply qB|refine qK (zZ ?_)|(refine qR (zZ ?_);simp[f2,f3,f25,f26,dN,Xy,hd,Yw,hw,YH,Wx])|(apply qC;simp[f2,f3,f25,f26,dN,Xy,hd,Yw,hw,YH,Wx])|((first|(refine zE ?_;intro J hJ)|(refine w_q ?_;intro J hJ));simp[f2,f3,f25,f26,dN,Xy,hd,Yw,hw,YH,Wx];refine zJ hJ ?_)))
   exact H7
 have A5:=PI a.vs b.vs h1 (fun j hj=>YI j oO);clear hJJ YI;have hela:=aK a.es;have helb:=aK b.es
 (repeat' (first|apply qS|apply qB|refine qX (zZ ?_)|(apply qC;simp[f2,f3,f25,f26,dN])|(refine zE ?_;intro J hJ;simp[f2,f3,f25,f26,dN];refine zJ hJ ?_)))
 refine qL (fun n fr st'=>∃ k:Nat,k<=a.es.length/\n=a.es.length-k/\fr 2=.pt st.next 0/\fr 3=.pt (st.next+1) 0/\fr 43=i a.es.length/\fr 44=i k/\st'=(st.new (.box 25 2 (grL a))).new (.box 25 2 (grL b))/\∀ j,j<k->a.es.getD j ed0=b.es.getD j ed0) a.es.length ?_ ?_
 .exact⟨0,oO,oO,by simp[f2],by simp[f3],sS,sS,rfl,fun j h=>by omega⟩
 clear f2 f3 f25 f26 dN hk fr k;rintro n fr st' ⟨k,hk,rfl,f2,f3,f43,f44,rfl,YI⟩ JJ hJJ;by_cases dN:k<a.es.length
 .have hd:=aR a.es k dN;have Xy:k<b.es.length:=oO;have Yw:=aR b.es k Xy;have hw:=qN k oO;have Xq:k*3<a.es.length*3:=oO;have K3:k*3<b.es.length*3:=oO;generalize hx:a.es.getD k ed0=x at *;generalize hy:b.es.getD k ed0=y at *;obtain⟨x1,x2,x3⟩:=x;obtain⟨y1,y2,y3⟩:=y;simp only at hd Yw;by_cases YH:([x1,x2,x3]==[y1,y2,y3])=true
  .have hxy':([x1,x2,x3]:List Int)=[y1,y2,y3]:=by simpa using YH
   injection hxy' with e1 e2;injection e2 with e2 e3;injection e3 with e3 _;subst e1 e2 e3
   (repeat' (first|apply qS|apply qB|refine qK (zZ ?_)|(apply qC;simp[f2,f3,f43,f44,dN,Xy,hd,Yw,hw,hela,helb,Xq,K3])|((first|(refine zE ?_;intro J hJ)|(refine w_q ?_;intro J hJ));simp[f2,f3,f43,f44,dN,Xy,hd,Yw,hw,hela,helb,Xq,K3];refine zJ hJ ?_)))
   refine hJJ _ _ _ ?_ ⟨k+1,oO,rfl,by simp[f2],by simp[f3],by simp[f43],sS,rfl,fun j hj=>?_⟩
   .omega
   .rcases aAB j k with h|h
    .exact YI j h
    .obtain rfl:j=k:=oO;rw[hx,hy]
  .have Wx:¬a=b:=fun h=>YH (by rw[h]at hx;rw[hx]at hy;injection hy with e1 e2 e3;subst e1 e2 e3;simp);have hxyf:([x1,x2,x3]==[y1,y2,y3])=false:=by simpa using YH
   (repeat' (first|apply qS|apply qB|refine qK (zZ ?_)|(refine qR (zZ ?_);simp[f2,f3,f43,f44,dN,Xy,hd,Yw,hw,hela,helb,Xq,K3,hxyf,Wx])|(apply qC;simp[f2,f3,f43,f44,dN,Xy,hd,Yw,hw,hela,helb,Xq,K3,hxyf,Wx])|((first|(refine zE ?_;intro J hJ)|(refine w_q ?_;intro J hJ));simp[f2,f3,f43,f44,dN,Xy,hd,Yw,hw,hela,helb,Xq,K3,hxyf,Wx];refine zJ hJ ?_)))
   exact H7
 .have T8:=Qw a.es b.es h2 (fun j hj=>YI j oO);have J8:a=b:=by cases a;cases b;simp only at A5 T8;subst A5 T8;rfl
  clear hJJ;subst J8
  (repeat' (first|apply qS|refine qX (zZ ?_)|(refine qR (zZ ?_);simp[f2,f3,f43,f44,dN])|(apply qC;simp[f2,f3,f43,f44,dN])|(refine zE ?_;intro J hJ;simp[f2,f3,f43,f44,dN];refine zJ hJ ?_)))
  exact H7
theorem CG(e s:Nat){P:Program}{f:FuncId}{args:List LV}{st:St}{Q:LV->St->Prop}(pre:List LV)
 (h:aB P f args st fun r st'=>∃ c,r=.ag (pre++[c])/\((c=.nil/\Q (.ag (pre++[.sl 0 0 []])) st')\/∃ l n cs,c=.ms l 0 n/\st'.H l=.box e s cs/\n*s<=cs.length/\Q (.ag (pre++[.sl 0 n (cs.take (n*s))])) (st'.set l .dead))):aB P f args st Q:=by
 refine⟨h.1,fun w g vs hi hr=>(h.2 w g vs hi hr).mono ?_⟩;rintro x w' ⟨v,r,st',g',rfl,⟨c,rfl,hc⟩,YF,Yo,he⟩;simp only[Rep]at YF;obtain⟨us1,rfl,hus⟩:=YF;obtain⟨v1,h1,h2⟩:=mG pre us1 hus;rcases hc with⟨rfl,hq⟩|⟨l,n,cs,rfl,hl,hn,hq⟩
 .refine⟨_,_,st',g',rfl,hq,?_,Yo,he⟩;simp only[Rep];exact⟨us1,rfl,h2 g' _ (Ext.refl _ _) (uR h1)⟩
 .obtain⟨g2,k1,k2,k3⟩:=gB (fr:=upd (fun _=>.dead) 0 (.ms l 0 n)) 0 rfl hl hn { tmps:=#[v1],defers:=[] } w' g' Yo (by
   intro j;unfold upd;by_cases hj:j=0
   .subst hj;rw[aAe rfl];exact h1
   .rw[aAa hj];simp only[Rep])
  refine⟨_,_,_,g2,rfl,hq,?_,k1,he.trans k3⟩;simp only[Rep];exact⟨us1,rfl,h2 g2 _ k3 (k2 0)⟩
theorem BZ(rs:List (List Int))(k:Nat)(hk:k<rs.length):dU (rs.take (k+1))=dU (rs.take k)++[.sl 0 (rs[k]).length (us rs[k])]:=by unfold dU;rw[aAn hk,aAv];rfl
theorem Td(g:Gr)(q:Nat)(es:List (List Int×LV))(tf:Int->List Int)(st:St)(hv:g.vs.length<=1000)(he:g.es.length<=1000)(hq:q<st.next)(hM:st.H q=.map false [.u32] es)
 (ht:∀ v∈g.vs,∃ x t,(bR es [v]).getD .nil=x/\norm x=.sl t (tf v).length (us (tf v))/\(tf v).length<=1000):
 aB prog 50 [.ag (grL g),.mp q] st fun r st'=>r=.ag (mpL ⟨g,g.vs.map fun v=>nrm (tf v)⟩)/\aA st st':=by
 refine CG 22 1 (grL g) ?_;refine zN func50 ntmps50 [.cell 4 39] ?_
 (repeat' (first|apply qS|(refine zE ?_;intro J hJ;simp[];(try refine zJ hJ ?_))))
 refine qE (copied g _ oO oO) sS ?_;rintro r s1 ⟨rfl,Xn⟩;have YZ:=Xn.next;simp only[aF]at YZ;have ZW:s1.H st.next=.box 25 2 (grL g):=by rw[Xn.H _ (by simp;omega)];simp
 have K0:s1.H q=.map false [.u32] es:=by rw[Xn.H q (by simp;omega),cB,aAa (by simp;omega),cB,aAa oO,hM]
 have hR1:s1.H (st.next+1)=.box 39 3 [.nil,.nil,.nil]:=by rw[Xn.H _ sS];simp
 have ne1:¬st.next=s1.next:=oO
 (repeat' (first|apply qS|apply qB|((first|(refine zE ?_;intro J hJ)|(apply aD));simp[ZW,ne1];refine zJ hJ ?_)))
 refine qL (fun n fr st2=>∃ k:Nat,k<=g.vs.length/\n=g.vs.length-k/\fr 1=.mp q/\fr 4=.pt (st.next+1) 0/\fr 5=.pt s1.next 0/\fr 12=.sl 0 g.vs.length (us g.vs)/\fr 13=i g.vs.length/\fr 14=i k/\aA s1 st2/\s1.next<st2.next/\∃ c,st2.H s1.next=.box 39 3 (grL g++[c])/\((k=0/\c=.nil)\/∃ z,c=.ms z 0 k/\s1.next<z/\z<st2.next/\st2.H z=.box 22 1 (dU ((g.vs.map fun v=>nrm (tf v)).take k)))) g.vs.length ?_ ?_
 .exact⟨0,oO,oO,sS,sS,sS,sS,sS,sS,aA.new _ _,sS,.nil,sS,.inl ⟨rfl,rfl⟩⟩
 rintro n fr st2 ⟨k,hk,rfl,f1,f4,f5,f12,f13,f14,Xm,ZS,c,hB,hcz⟩ JJ hJJ;have Zx:st2.H q=.map false [.u32] es:=by rw[Xm.H q oO];exact K0
 by_cases dN:k<g.vs.length
 .have hd:=qG g.vs k dN;have hw:=qN k oO;have I0:g.vs.getD k 0∈g.vs:=by rw[aN _ _ dN];exact aAu dN
  obtain⟨x,t,hx1,Ys,hx3⟩:=ht _ I0;have Rp:=BZ (g.vs.map fun v=>nrm (tf v)) k (by simpa using dN);have hrk:(g.vs.map fun v=>nrm (tf v))[k]'(by simpa using dN)=nrm (tf (g.vs.getD k 0)):=by simp[dN]
  rw[hrk,cE]at Rp;generalize hvv:g.vs.getD k 0=v at *;have Zv:¬q=s1.next:=oO;have ne2:¬s1.next=st2.next:=oO;have ne3:¬q=st2.next:=by have:=Xm.next;omega
  rcases hcz with⟨rfl,rfl⟩|⟨z,rfl,hz1,hz2,hz⟩
  ·(repeat' (first|apply qS|(refine zE ?_;intro J hJ;simp[f12,f13,f14,dN,hd];refine zJ hJ ?_)))
   (apply qC;simp[])
   (repeat' (first|apply qS|apply qB|refine qK (zZ ?_)|(refine zE ?_;intro J hJ;simp[f1,f5,f12,f13,f14,dN,hd];refine zJ hJ ?_)))
   (refine zS [25] [s1.next,q] [0,2,4,6,8,10,12,14,16,19] ?_;intro J hJ;simp[f1,f5,hB,Zx,hx1,Zv])
   refine qD (Oe (tf v) t _ (by simp only[small];omega)) (by simp only[aAj,aBz,Ys]) ?_;rintro r s3 ⟨rfl,Xq⟩;have L6:=(Xq.H s1.next oO).trans hB;have hM3:=(Xq.H q (by have:=Xm.next;omega)).trans Zx;have hn3:=Xq.next;have ne4:¬s1.next=s3.next:=oO;have ne5:¬s1.next=s3.next+1:=oO;have ne6:¬q=s3.next+1:=oO;have ne7:¬q=s3.next:=oO;refine⟨fun _=>by simp[L6,hM3,hB,Zx],?_⟩
   (apply aV;simp[f5,L6,hM3,hB,Zx,ne4,ne5,ne6,ne7];(repeat refine ca ?_);refine zJ hJ ?_)
   have ZE:IntKind.i64.wrap 1=1:=by decide
   (repeat' (refine zE ?_;intro J hJ;simp[f5,f14,hw,ZE];refine zJ hJ ?_))
   refine hJJ (g.vs.length-1) _ _ oO ⟨1,oO,rfl,by simp[f1],by simp[f4],by simp[f5],by simp[f12],by simp[f13],sS,(((Xm.trans Xq).trans (aA.new _ _)).trans (aA.new _ _)).set (aAi _) _,by simp;omega,.ms (s3.next+1) 0 1,sS,.inr ⟨s3.next+1,rfl,oO,sS,?_⟩⟩;rw[Rp,bN,aAa oO];simp
  .generalize hR:dU ((g.vs.map fun v=>nrm (tf v)).take k)=R at *;have N0:R.length=k:=by rw[<- hR];simp;omega
   (repeat' (first|apply qS|(refine zE ?_;intro J hJ;simp[f12,f13,f14,dN,hd];refine zJ hJ ?_)))
   (apply qC;simp[])
   (repeat' (first|apply qS|apply qB|refine qK (zZ ?_)|(refine zE ?_;intro J hJ;simp[f1,f5,f12,f13,f14,dN,hd];refine zJ hJ ?_)))
   (refine zS [25] [s1.next,q] [0,2,4,6,8,10,12,14,16,19] ?_;intro J hJ;simp[f1,f5,hB,Zx,hx1,Zv])
   refine qD (Oe (tf v) t _ (by simp only[small];omega)) (by simp only[aAj,aBz,Ys]) ?_;rintro r s3 ⟨rfl,Xq⟩;have L6:=(Xq.H s1.next oO).trans hB;have hM3:=(Xq.H q (by have:=Xm.next;omega)).trans Zx;have hz3:=(Xq.H z oO).trans hz;have hn3:=Xq.next;have ne4:¬s1.next=s3.next:=oO;have ne5:¬s1.next=s3.next+1:=oO;have ne6:¬q=s3.next+1:=oO;have ne7:¬q=s3.next:=oO;have ne8:¬s1.next=z:=oO;have ne9:¬z=s3.next:=oO;have ne10:¬q=z:=oO;have YP:R.take k=R:=aAr oO;refine⟨fun _=>by simp[L6,hM3,hB,Zx],?_⟩
   (apply aV;simp[f5,L6,hM3,hB,Zx,ne4,ne5,ne6,ne7,ne8,ne9,ne10,hz3,N0,YP];(repeat refine ca ?_);refine zJ hJ ?_)
   (repeat' (refine zE ?_;intro J hJ;simp[f5,f14,hw];refine zJ hJ ?_))
   refine hJJ (g.vs.length-(k+1)) _ _ oO ⟨k+1,oO,rfl,by simp[f1],by simp[f4],by simp[f5],by simp[f12],by simp[f13],sS,((((Xm.trans Xq).trans (aA.new _ _)).set oO _).trans (aA.new _ _)).set (aAi _) _,by simp;omega,.ms (s3.next+1) 0 (k+1),sS,.inr ⟨s3.next+1,rfl,oO,sS,?_⟩⟩;rw[Rp,bN,aAa oO];simp
 .have H7:k=g.vs.length:=oO;have hBR:¬s1.next=st.next+1:=oO;have P0:=(Xm.H (st.next+1) oO).trans hR1;have hKK:aA st st2:=(((aA.new _ _).trans (aA.new _ _)).trans Xn).trans Xm;rcases hcz with⟨h0,rfl⟩|⟨z,rfl,hz1,hz2,hz⟩
  ·(repeat' (first|apply qS|refine qX (zZ ?_)|(refine qR (zZ ?_);simp[f12,f13,f14,dN,f4,f5,hB,P0])|(apply qC;simp[f12,f13,f14,dN,f4,f5,hB,P0])|(refine zE ?_;intro J hJ;simp[f12,f13,f14,dN,f4,f5,hB,P0];refine zJ hJ ?_)))
   exact⟨⟨oO,aCz.mp oO⟩,hKK.set oO _⟩
  ·(repeat' (first|apply qS|refine qX (zZ ?_)|(refine qR (zZ ?_);simp[f12,f13,f14,dN,f4,f5,hB,P0])|(apply qC;simp[f12,f13,f14,dN,f4,f5,hB,P0])|(refine zE ?_;intro J hJ;simp[f12,f13,f14,dN,f4,f5,hB,P0];refine zJ hJ ?_)))
   have M4:(g.vs.map fun v=>nrm (tf v)).take k=g.vs.map fun v=>nrm (tf v):=aAr (by simp;omega);rw[M4]at hz;exact⟨z,k,⟨rfl,rfl⟩,_,by rw[aAa oO,hz],by simp;omega,⟨H7,by rw[aAr (by simp;omega)];simp⟩,(hKK.set oO _).set oO _⟩
theorem eP{P:Program}{N:Nat}{Q:AQ}{c:Code}{fr:Frm}{st:St}(h:0<st.next->AWp P N c Q fr st):AWp P N c Q fr st:=
 fun a w g hi hr hs hd=>h hi.pos a w g hi hr hs hd
def nU(v:Int)(x:Ed):List Int:=(if x.a=v then [2*x.id]else [])++(if x.b=v then [2*x.id+1]else [])
def ends(es:List Ed)(v:Int):List Int:=es.flatMap (nU v)
theorem Hr(f:Ed->List Int)(l:List Ed)(k:Nat)(hk:k<l.length):(l.take (k+1)).flatMap f=(l.take k).flatMap f++f (l.getD k ed0):=by rw[aAn hk,aCC,aAc,aAd hk];simp
theorem uE(v:Int)(x:Ed):(nU v x).length<=2:=by unfold nU;split<;>split<;>simp
theorem tL(f:Ed->List Int)(hf:∀ x,(f x).length<=2)(l:List Ed):(l.flatMap f).length<=2*l.length:=by
 induction l with
 |nil=>simp
 |cons x l ih=>have:=hf x;simp only[aAJ,aAh,List.length_cons];omega
def MT(es:List Ed):Prop:=∀ x∈es,0<=x.id/\x.id<=1048576
theorem MT.at{es:List Ed}(h:MT es)(k:Nat)(hk:k<es.length):0<=(es.getD k ed0).id/\(es.getD k ed0).id<=1048576:=by rw[aAc,aAd hk];exact h _ (aAu hk)
theorem wrap_u32'(n:Int)(h0:0<=n)(h1:n<4294967296):IntKind.u32.wrap n=n:=by rw[wrap_u32];omega
def Sx(t:Nat)(lo:St)(l:List Int)(st:St):Prop:=t≠0/\lo.next<=t/\t<st.next/\st.H t=.own 34 1 l.length/\aA lo st
theorem dOf(id e:Int)(st:St)(h0:0<=id)(h1:id<=1048576)(he:e=0\/e=1):aB prog 32 [u id,i e] st fun r st'=>r=u (2*id+e)/\st'=st:=by refine(Of id e st).mono ?_;rintro r st' ⟨rfl,rfl⟩;refine⟨?_,rfl⟩;have h2:id*2 % 4294967296+e % 2=2*id+e:=oO;rw[h2]
theorem Gh(g:Gr)(v:Int)(st:St)(he:g.es.length<=1000)(hid:MT g.es):
 aB prog 35 [.ag (grL g),u v] st fun r st'=>(∃ t,r=.sl t (ends g.es v).length (us (ends g.es v)))/\aA st st':=by
 obtain⟨vs,l⟩:=g;simp only at he hid ⊢;have hel:=aK l;have F5:=fun k=>tL (nU v) (uE v) (l.take k);refine zN func35 ntmps35 [.tmp 4] ?_
 (repeat' (first|apply qS|apply qB|(refine zE ?_;intro J hJ;simp[];refine zJ hJ ?_)))
 refine eP fun Yi=>?_;refine jK 5 34 1 sS ?_;refine qL (fun n fr st2=>∃ k:Nat,k<=l.length/\n=l.length-k/\fr 1=u v/\fr 9=.sl 0 l.length (eds l)/\fr 10=i l.length/\fr 11=i k/\∃ t,fr 5=.sl t (ends (l.take k) v).length (us (ends (l.take k) v))/\Sx t st (ends (l.take k) v) st2) l.length ?_ ?_
 .exact⟨0,oO,oO,sS,sS,sS,sS,st.next+1,by simp[ends],oO,oO,sS,by simp[ends],(aA.new _ _).trans (aA.new _ _)⟩
 rintro n fr st2 ⟨k,hk,rfl,f1,f9,f10,f11,t,f5,ht0,htl,htn,J9,Xm⟩ JJ hJJ;by_cases dN:k<l.length;rotate_left
 .clear hJJ;have ZA:k=l.length:=oO;rw[ZA,aAQ]at f5
  (repeat' (first|apply qS|refine qX (zZ ?_)|(refine qR (zZ ?_);simp[f10,f11,dN,f5])|(apply qC;simp[f10,f11,dN,f5])|(refine zE ?_;intro J hJ;simp[f10,f11,dN,f5];refine zJ hJ ?_)))
  exact Xm
 have hd:=aR l k dN;have hw:=qN k oO;have Xq:k*3<l.length*3:=oO;obtain⟨hi0,M5⟩:=hid.at k dN;have YL:ends (l.take (k+1)) v=ends (l.take k) v++nU v (l.getD k ed0):=Hr _ _ _ dN;have Xr:=F5 k;rw[aAo]at Xr;have hle2:(ends (l.take k) v).length<=2*min k l.length:=Xr;generalize hx:l.getD k ed0=x at *;obtain⟨id,a,b⟩:=x;simp only at hi0 M5 hd;generalize hF:ends (l.take k) v=F at *;have w1:IntKind.u32.wrap (2*id)=2*id:=wrap_u32' _ oO oO;have w2:IntKind.u32.wrap (2*id+1)=2*id+1:=wrap_u32' _ oO oO;have U6:¬t=st2.next:=oO;have ht3:¬st2.next=t:=oO;have ht4:¬t=st2.next+1:=oO;have ht5:¬t=st2.next+1+1:=oO;have ht6:¬t=st2.next+1+1+1:=oO;have ZI:¬st2.next=st2.next+1+1:=oO;have hn3:¬st2.next=st2.next+1+1+1:=oO;have C5:¬st2.next=st2.next+1+1+1+1:=oO;have W9:¬st2.next+1+1=st2.next+1+1+1:=oO;by_cases ha:a=v
 .by_cases hb:b=v
  .have B7:nU v ⟨id,a,b⟩=[2*id,2*id+1]:=by simp[nU,ha,hb]
   rw[B7]at YL
   (repeat' (first|apply qS|apply qB|refine qK (zZ ?_)|(apply qC;simp[f1,f5,f9,f10,f11,dN,hd,hw,hel,ha,hb,w1,w2,J9,ht0,U6,ht3,ht4,ZI,hn3,C5,W9,ht5,ht6])|(refine zE ?_;intro J hJ;simp[f1,f5,f9,f10,f11,dN,hd,hw,hel,ha,hb,w1,w2,J9,ht0,U6,ht3,ht4,ZI,hn3,C5,W9,ht5,ht6];(repeat refine ca ?_);refine zJ hJ ?_)))
   refine hJJ (l.length-(k+1)) _ _ oO ⟨k+1,oO,rfl,by simp[f1],by simp[f9],by simp[f10],sS,st2.next+1+1+1+1,by rw[YL];simp[f5],oO,by have:=Xm.next;omega,by simp<;>omega,by rw[YL];simp[J9,U6,ht4,ZI,hn3,C5,W9],?_⟩
   (repeat (first|exact Xm|(refine aA.trans ?_ (aA.new _ _))|(refine aA.set ?_ (by have:=Xm.next;first|omega|(simp only[aF,bC];omega)) _)))
  .have B7:nU v ⟨id,a,b⟩=[2*id]:=by simp[nU,ha,hb]
   rw[B7]at YL
   (repeat' (first|apply qS|apply qB|refine qK (zZ ?_)|(apply qC;simp[f1,f5,f9,f10,f11,dN,hd,hw,hel,ha,hb,w1,w2,J9,ht0,U6,ht3,ht4,ZI,hn3,C5,W9,ht5,ht6])|(refine zE ?_;intro J hJ;simp[f1,f5,f9,f10,f11,dN,hd,hw,hel,ha,hb,w1,w2,J9,ht0,U6,ht3,ht4,ZI,hn3,C5,W9,ht5,ht6];(repeat refine ca ?_);refine zJ hJ ?_)))
   refine hJJ (l.length-(k+1)) _ _ oO ⟨k+1,oO,rfl,by simp[f1],by simp[f9],by simp[f10],sS,st2.next+1+1,by rw[YL];simp[f5],oO,by have:=Xm.next;omega,by simp<;>omega,by rw[YL];simp[J9,U6,ht4,ZI,hn3,C5,W9],?_⟩
   (repeat (first|exact Xm|(refine aA.trans ?_ (aA.new _ _))|(refine aA.set ?_ (by have:=Xm.next;first|omega|(simp only[aF,bC];omega)) _)))
 .by_cases hb:b=v
  .have B7:nU v ⟨id,a,b⟩=[2*id+1]:=by simp[nU,ha,hb]
   rw[B7]at YL
   (repeat' (first|apply qS|apply qB|refine qK (zZ ?_)|(apply qC;simp[f1,f5,f9,f10,f11,dN,hd,hw,hel,ha,hb,w1,w2,J9,ht0,U6,ht3,ht4,ZI,hn3,C5,W9,ht5,ht6])|(refine zE ?_;intro J hJ;simp[f1,f5,f9,f10,f11,dN,hd,hw,hel,ha,hb,w1,w2,J9,ht0,U6,ht3,ht4,ZI,hn3,C5,W9,ht5,ht6];(repeat refine ca ?_);refine zJ hJ ?_)))
   refine hJJ (l.length-(k+1)) _ _ oO ⟨k+1,oO,rfl,by simp[f1],by simp[f9],by simp[f10],sS,st2.next+1+1,by rw[YL];simp[f5],oO,by have:=Xm.next;omega,by simp<;>omega,by rw[YL];simp[J9,U6,ht4,ZI,hn3,C5,W9],?_⟩
   (repeat (first|exact Xm|(refine aA.trans ?_ (aA.new _ _))|(refine aA.set ?_ (by have:=Xm.next;first|omega|(simp only[aF,bC];omega)) _)))
  .have B7:nU v ⟨id,a,b⟩=[]:=by simp[nU,ha,hb]
   rw[B7]at YL
   (repeat' (first|apply qS|apply qB|refine qK (zZ ?_)|(apply qC;simp[f1,f5,f9,f10,f11,dN,hd,hw,hel,ha,hb,w1,w2,J9,ht0,U6,ht3,ht4,ZI,hn3,C5,W9,ht5,ht6])|(refine zE ?_;intro J hJ;simp[f1,f5,f9,f10,f11,dN,hd,hw,hel,ha,hb,w1,w2,J9,ht0,U6,ht3,ht4,ZI,hn3,C5,W9,ht5,ht6];refine zJ hJ ?_)))
   refine hJJ (l.length-(k+1)) _ _ oO ⟨k+1,oO,rfl,by simp[f1],by simp[f9],by simp[f10],sS,t,by rw[YL];simp[f5],oO,by have:=Xm.next;omega,by simp<;>omega,by rw[YL];simp[J9,U6,ht4,ZI,hn3,C5,W9],?_⟩
   (repeat (first|exact Xm|(refine aA.trans ?_ (aA.new _ _))|(refine aA.set ?_ (by have:=Xm.next;first|omega|(simp only[aF,bC];omega)) _)))
def IP(v:Int)(x:Ed):List Int:=(if x.a=v then [x.b]else [])++(if x.b=v then [x.a]else [])
def nbr(es:List Ed)(v:Int):List Int:=es.flatMap (IP v)
def alone(g:Gr):Nat:=g.vs.countP fun v=>decide (nbr g.es v=[])
theorem IM(p:Int->Bool)(l:List Int)(k:Nat)(hk:k<l.length):(l.take (k+1)).countP p=(l.take k).countP p+(if p (l.getD k 0)=true then 1 else 0):=by rw[aAn hk,List.countP_append,aN _ _ hk];simp[List.countP_cons]
inductive Reach(es:List Ed)(v:Int):Int->Prop
 |refl:Reach es v v
 |step {u w:Int} (h:Reach es v u) (hw:w∈nbr es u):Reach es v w
theorem cU{es:List Ed}{u w:Int}:w∈nbr es u↔∃ x∈es,(x.a=u/\x.b=w)\/(x.b=u/\x.a=w):=by
 unfold nbr IP;simp only[aAT,aAg];constructor
 .rintro⟨x,hx,h|h⟩
  .refine⟨x,hx,.inl ?_⟩
   split at h
   .rename_i h1;simp at h;exact⟨h1,h.symm⟩
   .cases h
  .refine⟨x,hx,.inr ?_⟩
   split at h
   .rename_i h1;simp at h;exact⟨h1,h.symm⟩
   .cases h
 .rintro⟨x,hx,⟨h1,h2⟩|⟨h1,h2⟩⟩
  .exact⟨x,hx,.inl (by simp[h1,h2])⟩
  .exact⟨x,hx,.inr (by simp[h1,h2])⟩
theorem qH{es:List Ed}{u w:Int}(h:w∈nbr es u):u∈nbr es w:=by
 rw[cU]at h ⊢;obtain⟨x,hx,⟨h1,h2⟩|⟨h1,h2⟩⟩:=h
 .exact⟨x,hx,.inr ⟨h2,h1⟩⟩
 .exact⟨x,hx,.inl ⟨h2,h1⟩⟩
theorem Reach.trans{es:List Ed}{u v w:Int}(h:Reach es u v)(k:Reach es v w):Reach es u w:=by
 induction k with
 |refl=>exact h
 |step _ hw ih=>exact .step ih hw
theorem Reach.symm{es:List Ed}{u v:Int}(h:Reach es u v):Reach es v u:=by
 induction h with
 |refl=>exact .refl
 |step _ hw ih=>exact Reach.trans (.step .refl (qH hw)) ih
theorem Reach.closed{es:List Ed}{v w:Int}{L:Int->Prop}(h:Reach es v w)(hv:L v)(hc:∀ u,L u->∀ w∈nbr es u,L w):L w:=by
 induction h with
 |refl=>exact hv
 |step _ hw ih=>exact hc _ ih _ hw
structure Good(g:Gr):Prop where
 rise:g.vs.Pairwise (· < ·)
 ends:∀ x∈g.es,x.a∈g.vs/\x.b∈g.vs
theorem Good.nbr{g:Gr}(h:Good g){u w:Int}(hw:w∈nbr g.es u):w∈g.vs:=by
 rw[cU]at hw;obtain⟨x,hx,⟨_,rfl⟩|⟨_,rfl⟩⟩:=hw
 .exact(h.ends x hx).2
 .exact(h.ends x hx).1
theorem Good.reach{g:Gr}(h:Good g){v w:Int}(hv:v∈g.vs)(hr:Reach g.es v w):w∈g.vs:=by
 cases hr with
 |refl=>exact hv
 |step _ hw=>exact h.nbr hw
theorem Good.nodup{g:Gr}(h:Good g):g.vs.Nodup:=h.rise.imp fun h=>by omega
def vM(g:Gr)(v:Int)(c:List Int):Prop:=c.Pairwise (· < ·)/\∀ w,w∈c↔w∈g.vs/\Reach g.es v w
def Seen(g:Gr)(k:Nat)(w:Int):Prop:=∃ u∈g.vs.take k,Reach g.es u w
theorem yN{l:List Int}(h:l.Pairwise (· < ·)){k:Nat}(hk:k<l.length){u:Int}:u∈l.take k↔u∈l/\u<l.getD k 0:=by
 rw[aN _ _ hk];constructor
 .intro hu;obtain⟨j,hj,rfl⟩:=aAy hu;rw[aAo]at hj;rw[aBE];exact⟨aAu _,aAG.1 h j k oO hk oO⟩
 .rintro⟨hu,dN⟩;obtain⟨j,hj,rfl⟩:=aAy hu;have I6:j<k:=by
   rcases aCJ j k with h1|h1|h1
   .exact h1
   .subst h1;omega
   .have:=aAG.1 h k j hk hj h1;omega
  rw[List.mem_take_iff_getElem];exact⟨j,oO,rfl⟩
inductive dY(g:Gr):Nat->List (List Int)->Prop
 |zero:dY g 0 []
 |seen {k:Nat} {R:List (List Int)} (h:dY g k R) (hk:k<g.vs.length) (hs:Seen g k (g.vs.getD k 0)):dY g (k+1) R
 |lead {k:Nat} {R:List (List Int)} {c:List Int} (h:dY g k R) (hk:k<g.vs.length) (hs:¬Seen g k (g.vs.getD k 0)) (hc:vM g (g.vs.getD k 0) c):dY g (k+1) (R++[c])
theorem dY.len{g:Gr}{k:Nat}{R:List (List Int)}(h:dY g k R):R.length<=k:=by
 induction h with
 |zero=>simp
 |seen _ _ _ ih=>omega
 |lead _ _ _ _ ih=>simp;omega
abbrev Em(rs:List (List Int)):List LV:=rs.map fun r=>.sl 0 r.length (us r)
theorem IL{P:Program}{f:FuncId}{args:List LV}{st:St}{Q:LV->St->Prop}(h:aB P f args st fun r st'=>∃ t n cs,r=.sl t n cs/\Q (.sl 0 n cs) st'):aB P f args st Q:=by refine⟨h.1,fun w g vs hi hr=>(h.2 w g vs hi hr).mono ?_⟩;rintro x w' ⟨v,r,st',g',rfl,⟨t,n,cs,rfl,hq⟩,YF,Yo,he⟩;refine⟨v,_,st',g',rfl,hq,?_,Yo,he⟩;simp only[Rep]at YF ⊢;obtain⟨A,cap,h1,h2,h3,h4,h5⟩:=YF;exact⟨A,cap,h1,h2,h3,fun h=>absurd rfl h,h5⟩
def InI(es:List (List Int×LV))(S:List Int):Prop:=∀ v,(bR es [v]).getD (bb false)=bb (decide (v∈S))
theorem InI.step{es:List (List Int×LV)}{S:List Int}(h:InI es S)(w:Int):InI (bQ es [w] (bb true)) (S++[w]):=by
 intro v;rw[qY];by_cases hv:v=w
 .subst hv;simp
 .rw[aAa (by simpa using hv),h v];simp[hv]
theorem InI.congr{es:List (List Int×LV)}{S S':List Int}(h:InI es S)(hs:∀ v,v∈S'↔v∈S):InI es S':=fun v=>by rw[h v,show decide (v∈S')=decide (v∈S) from aEa.2 (hs v)]
structure rW(g:Gr)(v:Int)(S:List Int):Prop where
 nodup:S.Nodup
 mem:v∈S
 reach:∀ w∈S,Reach g.es v w
theorem rW.len{g:Gr}(hg:Good g){v:Int}(hv:v∈g.vs){S:List Int}(h:rW g v S):S.length<=g.vs.length:=
 aAC h.nodup fun w hw=>hg.reach hv (h.reach w hw)
theorem rW.push{g:Gr}{v:Int}{S:List Int}(h:rW g v S){x:Ed}(hx:x∈g.es){u w:Int}(hu:u∈S)(hw:w∉S)(hxw:(x.a=u/\x.b=w)\/(x.b=u/\x.a=w)):rW g v (S++[w]):=by
 refine⟨?_,aAw _ h.mem,fun z hz=>?_⟩
 .rw[aAs];refine⟨h.nodup,sS,fun a ha b hb=>?_⟩;rw[aAl]at hb;rintro rfl;exact hw (hb ▸ ha)
 .rw[aAg,aAl]at hz;rcases hz with hz|rfl
  .exact h.reach z hz
  .exact .step (h.reach u hu) (cU.2 ⟨x,hx,hxw⟩)
def OA(es:List Ed)(S:List Int):Prop:=∀ x∈es,(x.a∈S↔x.b∈S)
theorem rW.part{g:Gr}(hg:Good g){v:Int}{S:List Int}(h:rW g v S)(he:OA g.es S):vM g v (g.vs.filter fun w=>decide (w∈S)):=by
 refine⟨hg.rise.filter _,fun w=>?_⟩;rw[aAz,aBX];refine⟨fun hw=>⟨hw.1,h.reach w hw.2⟩,fun hw=>⟨hw.1,?_⟩⟩;refine hw.2.closed (L:=fun w=>w∈S) h.mem fun u hu w hw=>?_;obtain⟨x,hx,⟨rfl,rfl⟩|⟨rfl,rfl⟩⟩:=cU.1 hw
 .exact(he x hx).1 hu
 .exact(he x hx).2 hu
def RpI(ms:Nat)(g:Gr)(st:St)(S:List Int)(fr:Frm)(st2:St):Prop:=
 fr 2=.pt st.next 0/\fr 5=.mp ms/\st.next<ms/\ms<st2.next/\aA st st2/\st2.H st.next=.box 25 2 (grL g)/\∃ es,st2.H ms=.map false [.u32] es/\InI es S
theorem RpI.fr{ms:Nat}{g:Gr}{st:St}{S:List Int}{fr Xj:Frm}{st2:St}(h:RpI ms g st S fr st2)(h2:Xj 2=fr 2)(h5:Xj 5=fr 5):RpI ms g st S Xj st2:=
 ⟨h2.trans h.1,h5.trans h.2.1,h.2.2⟩
theorem QJ(g:Gr)(v:Int)(st:St)(hg:Good g)(hv:g.vs.length<=1000)(he:g.es.length<=1000)(I0:v∈g.vs):
 aB prog 126 [.ag (grL g),u v] st fun r st'=>(∃ c,r=.sl 0 c.length (us c)/\vM g v c)/\aA st st':=by
 refine IL ?_;have hel:=aK g.es;refine zN func126 ntmps126 [.tmp 4] ?_
 (repeat' (first|apply qS|apply qB|(refine zE ?_;intro J hJ;simp[];refine zJ hJ ?_)))
 obtain⟨ms,N3⟩:∃ ms,ms=st.next+1:=⟨_,rfl⟩;refine qL (fun z fr st2=>∃(gr:Bool) (S:List Int),z=(if gr=true then g.vs.length+1-S.length else 0)/\fr 6=bb gr/\rW g v S/\(gr=false->OA g.es S)/\RpI ms g st S fr st2) g.vs.length ?_ ?_
 .refine⟨true,[v],sS,sS,⟨sS,sS,fun w hw=>?_⟩,fun h=>absurd h sS,sS,by simp[N3],oO,by simp[N3],?_,sS,_,by simp[N3];rfl,fun w=>?_⟩
  .rw[aAl]at hw;subst hw;exact .refl
  ·(repeat (first|exact aA.refl _|(refine aA.trans ?_ (aA.new _ _))|(refine aA.set ?_ oO _)))
  .by_cases hw:w=v
   .subst hw;simp[bQ,bR]
   .simp[bQ,bR,hw]
 rintro z fr st2 ⟨gr,S,rfl,f6,hF,hE,hI⟩ JJ hJJ;cases gr
 .clear hJJ;obtain⟨f2,f5,z7,P6,Xm,hG,es,hM,hIn⟩:=hI;have Y3:=hF.part hg (hE rfl)
  (repeat' (first|apply qS|apply qB|refine qX (zZ ?_)|(apply qC;simp[f6,f2,hG])|(refine zE ?_;intro J hJ;simp[f6,f2,hG];refine zJ hJ ?_)))
  refine jK 9 34 1 sS ?_;have hqq:∀ k,(g.vs.take (k+1)).filter (fun w=>decide (w∈S))=if k<g.vs.length then(if g.vs.getD k 0∈S then(g.vs.take k).filter (fun w=>decide (w∈S))++[g.vs.getD k 0]else(g.vs.take k).filter (fun w=>decide (w∈S)))else g.vs.filter (fun w=>decide (w∈S)):=by
   intro k;by_cases hk:k<g.vs.length
   .rw[aAe hk,aAn hk,aBu,aN _ _ hk];by_cases h:g.vs[k]∈S<;>simp[h]
   .rw[aAa hk,aAr oO]
  refine qL (fun z fr Yy=>∃ k:Nat,k<=g.vs.length/\z=g.vs.length-k/\fr 5=.mp ms/\fr 40=.sl 0 g.vs.length (us g.vs)/\fr 41=i g.vs.length/\fr 42=i k/\Yy.H ms=.map false [.u32] es/\ms<Yy.next/\∃ t,fr 9=.sl t ((g.vs.take k).filter fun w=>decide (w∈S)).length (us ((g.vs.take k).filter fun w=>decide (w∈S)))/\Sx t st ((g.vs.take k).filter fun w=>decide (w∈S)) Yy) g.vs.length ?_ ?_
  .have a1:¬ms=st2.next:=oO;exact⟨0,oO,oO,by simp[f5],sS,sS,sS,by simp[a1,hM],by simp;omega,st2.next,sS,oO,by have:=Xm.next;omega,sS,sS,Xm.trans (aA.new _ _)⟩
  clear f2 f5 f6 hM Xm hG fr;rintro z fr Yy ⟨k,hk,rfl,f5,f40,f41,f42,hM,hm3,t,f9,ht0,htl,htn,J9,Xm⟩ JJ hJJ;by_cases dN:k<g.vs.length;rotate_left
  .clear hJJ;have ZA:k=g.vs.length:=oO;rw[ZA,aAQ]at f9
   (repeat' (first|apply qS|refine qX (zZ ?_)|(refine qR (zZ ?_);simp[f9,f41,f42,dN])|(apply qC;simp[f9,f41,f42,dN])|(refine zE ?_;intro J hJ;simp[f9,f41,f42,dN];refine zJ hJ ?_)))
   exact⟨t,_,_,⟨rfl,rfl,rfl⟩,⟨_,⟨rfl,rfl⟩,Y3⟩,Xm⟩
  have hd:=qG g.vs k dN;have hw:=qN k oO;have YL:=hqq k;rw[aAe dN]at YL;have Xr:=aBe (fun w=>decide (w∈S)) (g.vs.take k);rw[aAo]at Xr;generalize hx:g.vs.getD k 0=x at *;generalize hFF:(g.vs.take k).filter (fun w=>decide (w∈S))=F at *;have hIx:=hIn x;have U6:¬t=Yy.next:=oO;by_cases hxS:x∈S
  .rw[aAe hxS]at YL;rw[aBy hxS]at hIx
   (repeat' (first|apply qS|apply qB|refine qK (zZ ?_)|(apply qC;simp[f5,f9,f40,f41,f42,dN,hd,hw,hM,hIx,J9,ht0,U6])|(refine zE ?_;intro J hJ;simp[f5,f9,f40,f41,f42,dN,hd,hw,hM,hIx,J9,ht0,U6];(repeat refine ca ?_);refine zJ hJ ?_)))
   have a1:¬ms=Yy.next:=oO;have a2:¬ms=Yy.next+1:=oO;have a3:¬ms=t:=fun h=>by rw[h,J9]at hM;cases hM
   exact hJJ (g.vs.length-(k+1)) _ _ oO ⟨k+1,oO,rfl,by simp[f5],by simp[f40],by simp[f41],sS,by simp[a1,a2,a3,hM],by simp;omega,Yy.next+1,by rw[YL];simp,oO,oO,sS,by rw[YL];simp,(by repeat (first|exact Xm|(refine aA.trans ?_ (aA.new _ _))|(refine aA.set ?_ (by have:=Xm.next;omega) _)))⟩
  .rw[aAa hxS]at YL;rw[aBM hxS]at hIx
   (repeat' (first|apply qS|apply qB|refine qK (zZ ?_)|(apply qC;simp[f5,f9,f40,f41,f42,dN,hd,hw,hM,hIx])|(refine zE ?_;intro J hJ;simp[f5,f9,f40,f41,f42,dN,hd,hw,hM,hIx];refine zJ hJ ?_)))
   exact hJJ (g.vs.length-(k+1)) _ _ oO ⟨k+1,oO,rfl,by simp[f5],by simp[f40],by simp[f41],sS,hM,hm3,t,by rw[YL];simp[f9],ht0,htl,htn,by rw[YL];exact J9,Xm⟩
 have hSl:=hF.len hg I0;obtain⟨f2,f5,z7,P6,Xm,hG,es,hM,hIn⟩:=id hI
 (repeat' (first|apply qS|apply qB|refine qK (zZ ?_)|(apply qC;simp[f6,f2,hG])|(refine zE ?_;intro J hJ;simp[f6,f2,hG];refine zJ hJ ?_)))
 refine qL (fun z fr st2=>∃(k:Nat) (gr:Bool) (S':List Int),k<=g.es.length/\z=g.es.length-k/\fr 6=bb gr/\fr 17=.sl 0 g.es.length (eds g.es)/\fr 18=i g.es.length/\fr 19=i k/\rW g v S'/\(gr=false->OA (g.es.take k) S')/\(gr=true->S.length<S'.length)/\S.length<=S'.length/\RpI ms g st S' fr st2) g.es.length ?_ ?_
 .exact⟨0,false,S,oO,oO,sS,sS,sS,sS,hF,fun _ x hx=>by simp at hx,fun h=>absurd h sS,aAi _,hI.fr sS sS⟩
 clear f2 f5 f6 hI hE hF z7 P6 Xm hG hM hIn es fr st2;rintro z fr st2 ⟨k,gr,S',hk,rfl,f6,f17,f18,f19,hF,hE,G4,hSS,hI⟩ J2 v8;have hSl2:=hF.len hg I0;obtain⟨f2,f5,z7,P6,Xm,hG,es,hM,hIn⟩:=id hI;by_cases dN:k<g.es.length;rotate_left
 .clear v8;have ZA:k=g.es.length:=oO;rw[ZA,aAQ]at hE
  (repeat' (first|apply qS|refine qX (zZ ?_)|(apply qC;simp[f18,f19,dN])|(refine zE ?_;intro J hJ;simp[f18,f19,dN];refine zJ hJ ?_)))
  refine hJJ (if gr=true then g.vs.length+1-S'.length else 0) _ _ ?_ ⟨gr,S',rfl,by simp[f6],hF,hE,hI.fr sS sS⟩;cases gr
  .simp;omega
  .have:=G4 rfl;simp;omega
 clear hJJ;have hd:=aR g.es k dN;have hw:=qN k oO;have Xq:k*3<g.es.length*3:=oO;have u9:g.es.getD k ed0∈g.es:=by rw[aAc,aAd dN];exact aAu dN
 have hEn:(gr=false->OA (g.es.take k) S')->((g.es.getD k ed0).a∈S'↔(g.es.getD k ed0).b∈S')->(gr=false->OA (g.es.take (k+1)) S'):=by
  intro h1 h2 h3 y hy;rw[aAn dN,aAg,aAl]at hy;rcases hy with hy|rfl
  .exact h1 h3 y hy
  .rw[aAc,aAd dN]at h2;exact h2
 generalize hx:g.es.getD k ed0=x at *;obtain⟨id,a,b⟩:=x;simp only at hd hEn;have hIa:=hIn a;have hIb:=hIn b;have a1:¬ms=st2.next:=oO;have a2:¬st2.next=ms:=oO;have a3:¬st.next=st2.next:=oO;have a4:¬st.next=ms:=oO;by_cases YA:(a∈S'↔b∈S')
 .have hdd:decide (a∈S')=decide (b∈S'):=aEa.2 YA;rw[hdd]at hIa
  (repeat' (first|apply qS|apply qB|refine qK (zZ ?_)|(apply qC;simp[f5,f17,f18,f19,dN,hd,hel,hw,hM,hIa,hIb,a1,a2])|(refine zE ?_;intro J hJ;simp[f5,f17,f18,f19,dN,hd,hel,hw,hM,hIa,hIb,a1,a2];refine zJ hJ ?_)))
  exact v8 (g.es.length-(k+1)) _ _ oO ⟨k+1,gr,S',oO,rfl,by simp[f6],by simp[f17],by simp[f18],sS,hF,hEn hE YA,G4,hSS,by simp[f2],by simp[f5],z7,by simp;omega,(by repeat (first|exact Xm|(refine aA.trans ?_ (aA.new _ _))|(refine aA.set ?_ (by have:=Xm.next;omega) _))),by simp[a3,hG],es,by simp[a1,hM],hIn⟩
 .have hdd:¬decide (a∈S')=decide (b∈S'):=fun h=>YA (aEa.1 h);have hIn2:=(hIn.step a).step b;obtain⟨S2,hS2,U5,C4⟩:∃ S2,(∀ z,z∈S2↔z∈S'++[a]++[b])/\rW g v S2/\S'.length<S2.length:=by
   by_cases ha:a∈S'
   .have hb:b∉S':=fun h=>YA ⟨fun _=>h,fun _=>ha⟩;refine⟨S'++[b],fun z=>?_,hF.push u9 ha hb (.inl ⟨rfl,rfl⟩),sS⟩;simp only[aAg,aAl];exact⟨fun h=>h.elim (fun h=>.inl (.inl h)) .inr,fun h=>h.elim (fun h=>h.elim .inl (fun h=>.inl (h ▸ ha))) .inr⟩
   .have hb:b∈S':=aAL fun h=>YA ⟨fun h1=>absurd h1 ha,fun h1=>absurd h1 h⟩;refine⟨S'++[a],fun z=>?_,hF.push u9 hb ha (.inr ⟨rfl,rfl⟩),sS⟩;simp only[aAg,aAl];exact⟨fun h=>h.elim (fun h=>.inl (.inl h)) (fun h=>.inl (.inr h)),fun h=>h.elim (fun h=>h.elim .inl .inr) (fun h=>.inl (h ▸ hb))⟩
  have hIn3:=hIn2.congr hS2
  (repeat' (first|apply qS|apply qB|refine qK (zZ ?_)|(apply qC;simp[f5,f17,f18,f19,dN,hd,hel,hw,hM,hIa,hIb,hdd,a1,a2])|(refine zE ?_;intro J hJ;simp[f5,f17,f18,f19,dN,hd,hel,hw,hM,hIa,hIb,hdd,a1,a2];refine zJ hJ ?_)))
  exact v8 (g.es.length-(k+1)) _ _ oO ⟨k+1,true,S2,oO,rfl,sS,by simp[f17],by simp[f18],sS,U5,fun h=>absurd h sS,fun _=>by omega,oO,by simp[f2],by simp[f5],z7,by simp;omega,(by repeat (first|exact Xm|(refine aA.trans ?_ (aA.new _ _))|(refine aA.set ?_ (by have:=Xm.next;omega) _))),by simp[a3,a4,hG],_,sS,hIn3⟩
theorem vM.seen{g:Gr}(hg:Good g){k:Nat}(hk:k<g.vs.length){x:Int}{c:List Int}(h:vM g (g.vs.getD k 0) (x::c)):Seen g k (g.vs.getD k 0)↔x≠g.vs.getD k 0:=by
 have I0:g.vs.getD k 0∈g.vs:=by rw[aN _ _ hk];exact aAu hk
 obtain⟨h1,h2⟩:=h;have Yp:∀ w∈x::c,x<=w:=by
  intro w hw;rw[aAf]at hw;rcases hw with rfl|hw
  .omega
  .have:=(aBc.1 h1).1 w hw;omega
 have u9:=(h2 x).1 (aAq ..);constructor
 .rintro⟨u,hu,hr⟩ he;obtain⟨k1,k2⟩:=(yN hg.rise hk).1 hu;have:=Yp u ((h2 u).2 ⟨k1,hr.symm⟩);omega
 .intro Wx;have:=Yp _ ((h2 _).2 ⟨I0,.refl⟩);exact⟨x,(yN hg.rise hk).2 ⟨u9.1,oO⟩,u9.2.symm⟩
theorem Ml(g:Gr)(st:St)(hg:Good g)(hv:g.vs.length<=1000)(he:g.es.length<=1000):
 aB prog 88 [.ag (grL g)] st fun r st'=>(∃ t R,r=.sl t R.length (Em R)/\dY g g.vs.length R)/\aA st st':=by
 refine zN func88 ntmps88 [.tmp 2] ?_
 (repeat' (first|apply qS|apply qB|(refine zE ?_;intro J hJ;simp[];refine zJ hJ ?_)))
 refine eP fun Yi=>?_;refine jK 3 22 1 sS ?_;refine qL (fun z fr st2=>∃ j:Nat,j<=g.vs.length/\z=g.vs.length-j/\fr 1=.pt st.next 0/\fr 8=.sl 0 g.vs.length (us g.vs)/\fr 9=i g.vs.length/\fr 10=i j/\st.next<st2.next/\st2.H st.next=.box 25 2 (grL g)/\aA st st2/\∃ t R,fr 3=.sl t R.length (Em R)/\dY g j R/\t≠0/\st.next<t/\t<st2.next/\st2.H t=.own 22 1 R.length) g.vs.length ?_ ?_
 .refine⟨0,oO,oO,sS,sS,sS,sS,by simp;omega,sS,?_,st.next+1,[],sS,.zero,oO,oO,sS,sS⟩
  (repeat (first|exact aA.refl _|(refine aA.trans ?_ (aA.new _ _))|(refine aA.set ?_ oO _)))
 rintro z fr st2 ⟨j,hj,rfl,f1,f8,f9,f10,p9,hG,Xm,t,R,f3,hPT,ht0,htl,htn,J9⟩ JJ hJJ;by_cases dN:j<g.vs.length;rotate_left
 .clear hJJ;have hj':j=g.vs.length:=oO;rw[hj']at hPT
  (repeat' (first|apply qS|refine qX (zZ ?_)|(refine qR (zZ ?_);simp[f3,f9,f10,dN])|(apply qC;simp[f3,f9,f10,dN])|(refine zE ?_;intro J hJ;simp[f3,f9,f10,dN];refine zJ hJ ?_)))
  exact⟨⟨t,R,⟨rfl,rfl,rfl⟩,hPT⟩,Xm⟩
 have hd:=qG g.vs j dN;have hw:=qN j oO;have I0:g.vs.getD j 0∈g.vs:=by rw[aN _ _ dN];exact aAu dN
 have hps:=fun hs=>dY.seen hPT dN hs;have Zn:=fun(c:List Int) hs hc=>dY.lead (c:=c) hPT dN hs hc;have hsn2:=fun x c=>@vM.seen g hg j dN x c;have hRl:=hPT.len;generalize hx:g.vs.getD j 0=v at *
 (repeat' (first|apply qS|apply qB|refine qK (zZ ?_)|(apply qC;simp[f1,f8,f9,f10,dN,hd,hG])|(refine zE ?_;intro J hJ;simp[f1,f8,f9,f10,dN,hd,hG];(try refine zJ hJ ?_))))
 refine qE (QJ g v st2 hg hv he I0) (by simp[f1,hG]) ?_;rintro r s2 ⟨⟨c,rfl,hc⟩,Xx⟩;have ZI:=Xx.next;have G4:=(Xx.H _ p9).trans hG;have htH2:=(Xx.H _ htn).trans J9;have U9:=Xm.trans Xx;have a1:¬t=s2.next:=oO;have a2:¬t=s2.next+1:=oO;have a3:¬st.next=s2.next:=oO;have a4:¬st.next=s2.next+1:=oO;have a5:¬st.next=t:=oO;cases c with
 |nil=>exfalso;have:=(hc.2 v).2 ⟨I0,.refl⟩;simp at this
 |cons x c=>
  by_cases hxv:x=v
  .have hns:¬Seen g j v:=fun h=>((hsn2 x c hc).1 h) hxv;have hP2:=Zn _ hns hc
   (repeat' (first|apply qS|(apply qC;simp[f3,f10,hw,hxv,htH2,ht0,a1,a2])|((first|(refine zE ?_;intro J hJ)|(apply aD));simp[f3,f10,hw,hxv,htH2,ht0,a1,a2];(repeat refine ca ?_);refine zJ hJ ?_)))
   rw[hxv]at hP2;refine hJJ (g.vs.length-(j+1)) _ _ oO ⟨j+1,oO,rfl,by simp[f1],by simp[f8],by simp[f9],sS,by simp;omega,by simp[a3,a4,a5,G4],?_,s2.next+1,R++[v::c],sS,hP2,oO,oO,sS,sS⟩
   (repeat (first|exact U9|(refine aA.trans ?_ (aA.new _ _))|(refine aA.set ?_ oO _)))
  .have hns:Seen g j v:=(hsn2 x c hc).2 hxv;have hP2:=hps hns
   (repeat' (first|apply qS|refine qK (zZ ?_)|(apply qC;simp[f3,f10,hw,hxv])|((first|(refine zE ?_;intro J hJ)|(apply aD));simp[f3,f10,hw,hxv];refine zJ hJ ?_)))
   exact hJJ (g.vs.length-(j+1)) _ _ oO ⟨j+1,oO,rfl,by simp[f1],by simp[f8],by simp[f9],sS,oO,G4,U9,t,R,by simp[f3],hP2,ht0,htl,oO,htH2⟩
end Aw
end Go.Proofs.YtempldclppogmaaGreatDoor
