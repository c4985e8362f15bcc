/- slices.Collect(slices.Values(s)) as a contract over logical values. -/
import Derived.Test.YtempldclppogmaaGreatDoorJb
import Derived.Test.YtempldclppogmaaGreatDoorAwX
import Derived.Test.YtempldclppogmaaGreatDoorAwSet
import Derived.Test.YtempldclppogmaaGreatDoorAwFn
import Derived.Test.YtempldclppogmaaGreatDoorAwShp
set_option linter.unusedVariables false
set_option linter.unusedSimpArgs false
set_option maxHeartbeats 1000000
open Go.Proofs.Tryz
namespace Go.Proofs.YtempldclppogmaaGreatDoor
namespace Aw
open Go Go.RowKit
theorem DI{w w':World}(g:G)(h:Below w.heap.size w w'):Ext w g w' g:=
 ⟨h.os,h.tape,h.output,h.size,aAk _,fun _ _=>rfl,fun _ _=>rfl,fun _ _=>rfl,fun b hb hn=>⟨hn,h.block b hb⟩,fun b k hb hk=>⟨k,hk,aAk _,fun o _=>World.cell?_of_block (w:=w) (h.block b hb)⟩⟩
theorem Lc{w w':World}{g:G}{st:St}(hi:Inv w g st)(h:Below w.heap.size w w'):Inv w' g st:=by
 have F8:=DI g h;refine⟨hi.next,hi.pos,hi.fresh,fun l hl=>aAp (hi.lt l hl) h.size,hi.inj,?_,?_,?_,?_,hi.aside.keep F8 fun _ _=>rfl⟩
 .intro l e s n hl;obtain⟨h1,h2,h3,h4⟩:=hi.own l e s n hl;refine⟨h1,h2,h3,fun Xi=>?_⟩;obtain⟨Xk,k1,k2,k3⟩:=h4 Xi;exact⟨Xk,by rw[h.block _ (aAw.1 k1).1];exact k1,k2,k3⟩
 .intro l e s cs hl;obtain⟨h1,h2,h3⟩:=hi.box l e s cs hl;refine⟨h1,h2,fun Xi=>?_⟩;obtain⟨Xk,k1,k2,k3,k4,k5⟩:=h3 Xi;exact⟨Xk,by rw[h.block _ (aAw.1 k1).1];exact k1,k2,k3,aC.mono F8 _ _ k4,k5⟩
 .intro l ag ks es hl;have hm:=hi.mp l ag ks es hl;exact hm.keep F8 (hi.map_lt hl) (h.block _ hm.blk_lt) rfl
 .intro l e n hl;have hm:=hi.qu l e n hl;exact hm.keep F8 (hi.que_lt hl) (h.block _ hm.blk_lt) rfl
theorem vW{w w':World}{g:G}{st:St}(hi:Inv w g st)(h:Below w.heap.size w w'){e:TypeId}{v:Value}{zs:List Value}{cs:List LV}(RN:w'.ownsRow w.heap.size e 1 v zs.length zs)(hr:∀ w g,aC w g cs zs):
 ∃ g',Rep w' g' (.ms st.next 0 zs.length) v/\Inv w' g' (st.new (.box e 1 cs))/\Ext w g w' g':=by
 have Yq:=Lc hi h;have Xh:cs.length=zs.length:=aL _ _ (hr w g);rcases RN.2 with⟨rfl,hn⟩|⟨b,cap,Xk,rfl,hb,T6,h1,h2,h3,h4⟩
 .have ZC:cs=[]:=aAE oO;subst ZC;refine⟨g.addNil,?_,iQ Yq _ (.inr ⟨_,_,rfl⟩),(DI g h).trans (ext_nil w' g)⟩;simp only[Rep,hn];exact⟨none,0,rfl,aAk _,aBs _,by simp[G.addNil,hi.next],sS,by simp[G.addNil,hi.next]⟩
 .have YN:=hi.next;have ZJ:Ext w g w' (g.add b 0 cap false):=by
   refine⟨h.os,h.tape,h.output,h.size,aDX _,?_,?_,?_,?_,?_⟩
   .intro l hl;simp[G.add,aBu hl]
   .intro l hl;simp[G.add,aBu hl]
   .intro l hl;simp[G.add,aBu hl]
   .intro x hx hn;exact⟨by simp only[G.add];rw[aAa oO];exact hn,h.block x hx⟩
   .intro x k hx hk;exact⟨k,by simp only[G.add];rw[aAa oO];exact hk,aAk _,fun o _=>World.cell?_of_block (w:=w) (h.block x hx)⟩
  have YS:∀ l,blk g st l->g.β l≠b:=fun l hl=>by have:=hi.lt l hl;omega
  have hblt:b<w'.heap.size:=(aAw.1 T6).1;refine⟨g.add b 0 cap false,?_,?_,ZJ⟩
  .simp only[Rep,G.add,YN,aAe];exact⟨_,cap,rfl,h1,h2,fun _=>⟨rfl,fun _=>rfl⟩,fun _=>rfl,aCL _⟩
  .refine⟨by simp[G.add,St.new,YN],by simp[St.new],?_,?_,?_,?_,?_,?_,?_,hi.aside.keep ZJ (nR rfl)⟩
   .intro l hl;simp only[St.new]at hl ⊢;rw[aAa oO];exact hi.fresh l oO
   .intro l hl;by_cases e0:l=st.next
    .subst e0;simp[G.add,YN,hblt]
    .rw[cQ YN e0]at hl;have:=Yq.lt l hl;simp only[G.add,YN,aAa e0];exact this
   .intro l l' hl Yn J8;by_cases e0:l=st.next<;>by_cases e1:l'=st.next
    .omega
    .rw[cQ YN e1]at Yn;simp only[G.add,YN,aAe e0,aAa e1]at J8;exact absurd J8.symm (YS l' Yn)
    .rw[cQ YN e0]at hl;simp only[G.add,YN,aAe e1,aAa e0]at J8;exact absurd J8 (YS l hl)
    .rw[cQ YN e0]at hl;rw[cQ YN e1]at Yn;simp only[G.add,YN,aAa e1,aAa e0]at J8;exact hi.inj l l' hl Yn J8
   .intro l e' s n hl;by_cases e0:l=st.next
    .simp[St.new,e0]at hl
    .simp only[St.new,aAa e0]at hl;obtain⟨q1,q2,q3,q4⟩:=Yq.own l e' s n hl;simp only[G.add,YN,aAa e0];refine⟨q1,q2,q3,fun Xi=>?_⟩;obtain⟨c',k1,k2,k3⟩:=q4 Xi;have Wu:=YS l (by unfold blk;rw[hl];exact Xi);exact⟨c',k1,k2,by rw[aAa Wu];exact k3⟩
   .intro l e' s' cs' hl;by_cases e0:l=st.next
    .simp only[St.new,aAe e0]at hl;injection hl with a1 a2 a3;subst a1 a2 a3;refine⟨?_,?_,fun _=>⟨Xk.toList,?_,?_,?_,?_,?_⟩⟩
     .simp only[G.add,YN,aAe e0];exact h2
     .simp[G.add,YN,e0]
     .simp only[G.add,YN,aAe e0];simpa using T6
     .simp only[G.add,YN,aAe e0];simpa using h3
     .simp only[Array.length_toList];omega
     .have:Xk.toList.take cs.length=zs:=by rw[Xh];simpa using h4
      rw[this];exact hr _ _
     .simp[G.add,YN,e0]
    .simp only[St.new,aAa e0]at hl;obtain⟨k3,k0,k'⟩:=Yq.box l e' s' cs' hl;refine⟨?_,?_,fun Xi=>?_⟩
     .simp only[G.add,YN,aAa e0];exact k3
     .simp only[G.add,YN,aAa e0];exact k0
     simp only[G.add,YN,aAa e0]at Xi;obtain⟨Ym,k1,k2,k4,k5,k6⟩:=k' Xi;have Wu:=YS l (by unfold blk;rw[hl];exact Xi);obtain⟨_,_,k'⟩:=hi.box l e' s' cs' hl;obtain⟨cur2,m1,m2,m4,m5,m6⟩:=k' Xi;have GD:=(aAw.1 m1).1;refine⟨cur2,?_,?_,m4,aC.mono ZJ _ _ m5,?_⟩
     .simp only[G.add,YN,aAa e0];rw[h.block _ GD];exact m1
     .simp only[G.add,YN,aAa e0];exact m2
     .simp only[G.add,YN,aAa e0];rw[aAa Wu];exact m6
   .intro l ag ks es hl;by_cases e0:l=st.next
    .simp[St.new,e0]at hl
    .simp only[St.new,aAa e0]at hl;have hm:=hi.mp l ag ks es hl;exact hm.keep ZJ (hi.map_lt hl) (h.block _ hm.blk_lt) (by simp only[G.add];rw[aAa (YS l (hi.map_blk hl))])
   .intro l e' n hl;by_cases e0:l=st.next
    .simp[St.new,e0]at hl
    .simp only[St.new,aAa e0]at hl;have hm:=hi.qu l e' n hl;exact hm.keep ZJ (hi.que_lt hl) (h.block _ hm.blk_lt) (by simp only[G.add];rw[aAa (YS l (hi.que_blk hl))])
theorem yU(w:World)(g:G):∀ l:List Int,aC w g (us l) (l.map (Value.int .u32))
 |[]=>by simp[aC]
 |a::l=>by simp only[aAi,aC,Rep];exact⟨_,_,rfl,rfl,yU w g l⟩
theorem Ka{w:World}{g:G}:∀(l:List Int) (ws:List Value),aC w g (us l) ws->ws=l.map (Value.int .u32)
 |[],ws,h=>by simpa[aC]using h
 |a::l,ws,h=>by simp only[aAi,aC,Rep]at h;obtain⟨v,ws',rfl,rfl,h2⟩:=h;rw[Ka l ws' h2];rfl
theorem Ri(l:List Int)(x:LV)(q:Nat)(st:St)(hl:l.length<=1048576)(hH:st.H q=.box 22 1 [x])(hx:CJ tab 22 st x=some (l.length,us l)):
 aB prog 78 [.fn (.func 140) [.pt q 0]] st fun r st'=>r=.ms st.next 0 l.length/\st'=st.new (.box 34 1 (us l)):=by
 refine⟨enters_of func78 (by kernel_rfl) rfl,fun w g vs hi hr=>?_⟩;simp only[aC,Rep]at hr;obtain⟨v,_,rfl,⟨us1,rfl,v1,_,rfl,⟨rfl,hq⟩,rfl⟩,rfl⟩:=hr;obtain⟨_,b2,b3⟩:=hi.box q _ _ _ hH;have Xi:g.nl q=false:=by
  cases hn:g.nl q with
  |false=>rfl
  |true=>obtain⟨_,h⟩:=b2 hn;cases h
 obtain⟨Xk,k1,k2,k3,k4,k5⟩:=b3 Xi;simp only[List.length_cons,List.length_nil,aBv,aC]at k4 k3;obtain⟨sv,rest,N4,YF,_⟩:=k4;have O8:w.cell? ⟨g.β q,0,none⟩=some sv:=by
  rw[cell_of_row w _ _ _ _ _ k1];cases Xk with
  |nil=>simp at k3
  |cons a Xk=>simp at N4;simp[N4.1]
 have hI:Rg.IG w.heap.size w sv l:=by
  obtain⟨A,cap,rfl,M7⟩:=rK hi hx YF;by_cases Zu:l=[]
  .subst Zu;exact .inl ⟨rfl,A,cap,rfl⟩
  .obtain⟨b,o,ws,rfl,m1,m2⟩:=M7 (by cases l with|nil=>exact absurd rfl Zu|cons a l=>simp);have hws:=Ka l ws m1;refine .inr ⟨b,o,cap,rfl,?_,fun j hj=>?_⟩
   .have h0:=m2 0 (by cases l with|nil=>exact absurd rfl Zu|cons a l=>simp);rw[hws]at h0;cases l with
    |nil=>exact absurd rfl Zu
    |cons a l=>exact rG (a:=⟨b,o+0,none⟩) (v:=.int .u32 a) (by simpa using h0)
   .rw[m2 j (by simpa using hj),hws];simp[hj]
 refine(((Rg.It Fence.wide 4 trivial trivial trivial rfl (aAk _) (g.β q) sv l hl w (rG O8) O8 hI).calls room_wide)).mono ?_;rintro e w' ⟨v,rfl,RN,H8⟩;have hlen:l.length=(l.map (Value.int .u32)).length:=sS;rw[hlen]at RN;obtain⟨g',h1,h2,h3⟩:=vW (cs:=us l) hi H8 RN (fun w g=>yU w g l);rw[<- hlen]at h1;exact⟨v,_,_,g',rfl,⟨rfl,rfl⟩,h1,h2,h3⟩
def Uy:kR:=fun f args st=>if f=78 then match args with
 |[.fn (.func g) [.pt q 0]]=>if g=140 then match st.H q with
    |.box e s [x]=>if e=22/\s=1 then match CJ tab 22 st x with
      |some (n,ds)=>match gG ds with
       |some (ks,ns)=>if(ks.all fun k=>decide (k=.u32))=true/\ns.length=n/\n<=1048576 then some [(.ms st.next 0 n,st.new (.box 34 1 (us ns)))]else none
       |none=>none
      |none=>none
     else none
    |_=>none
  else none
 |_=>none
 else none
theorem HN:∀(ds:List LV) (ks:List IntKind) (ns:List Int),gG ds=some (ks,ns)->(ks.all fun k=>decide (k=.u32))=true->ds=us ns
 |[],ks,ns,h,_=>by simp only[gG,aAb,aAW]at h;obtain⟨rfl,rfl⟩:=h;rfl
 |c::ds,ks,ns,h,ha=>by
  cases c with
  |atom x=>
   cases x with
   |int k n=>
    simp only[gG]at h;cases hi:gG ds with
    |none=>simp[hi]at h
    |some p=>obtain⟨Zy,ns'⟩:=p;simp only[hi,aAb,aAW]at h;obtain⟨rfl,rfl⟩:=h;simp only[List.all_cons,aAT,aCa]at ha;obtain⟨rfl,ha⟩:=ha;rw[HN ds Zy ns' hi ha];rfl
   |_=>simp[gG]at h
  |_=>simp[gG]at h
theorem Qz:pF prog Uy:=by
 intro f args st rs h;unfold Uy at h
 split at h
 .rename_i hf;subst hf
  split at h
  .rename_i g q
   split at h
   .rename_i hg;subst hg
    split at h
    .rename_i e s x hH
     split at h
     .rename_i hes;obtain⟨rfl,rfl⟩:=hes
      split at h
      .rename_i n ds hsrc
       split at h
       .rename_i ks ns Xl
        split at h
        .rename_i hc;obtain⟨c1,rfl,c3⟩:=hc;injection h with h;subst h;have:=HN ds ks ns Xl c1;subst this;exact(Ri ns x q st c3 hH hsrc).mono (by rintro r st' ⟨rfl,rfl⟩;simp)
        .cases h
       .cases h
      .cases h
     .cases h
    .cases h
   .cases h
  .cases h
 .cases h
theorem SO(st:St):aB prog 68 [] st fun r st'=>r=bb true/\st'=st:=
 CT nB Vp Qz mixed 1000000 true (by kernel_rfl)
structure Mp where
 g:Gr
 rots:List (List Int)
 deriving DecidableEq
abbrev eZ(rs:List (List Int)):List LV:=rs.map fun r=>.sl 0 r.length (us r)
abbrev mpL(m:Mp):List LV:=grL m.g++[.sl 0 m.rots.length (eZ m.rots)]
theorem Is(rs:List (List Int))(k:Nat)(hk:k<rs.length):(eZ rs).drop k=.sl 0 (rs.getD k []).length (us (rs.getD k []))::(eZ rs).drop (k+1):=by unfold eZ;rw[aAO (by simpa using hk)];simp[hk]
theorem wO(es:List (List Int×LV))(a x:List Int)(v:LV):bQ (bP es a v) x=if x=a then some v else bQ es x:=by
 induction es with
 |nil=>simp only[bP,bQ,aCW]
 |cons p es ih=>
  by_cases h:a=p.1
  .have:bP (p::es) a v=(a,v)::es:=by simp[bP,h]
   rw[this];simp only[bQ,aCW];by_cases hx:x=a
   .simp[hx]
   .have:¬x=p.1:=by rw[<- h];exact hx
    simp[hx,this]
  .have:bP (p::es) a v=p::bP es a v:=by simp[bP,h]
   rw[this];simp only[bQ,aCW];by_cases hx:x=p.1
   .have:¬x=a:=fun h'=>h (by rw[<- h',hx]);rw[aAe hx,aAa this,aAe hx]
   .simp[hx,ih]
end Aw
namespace Aw
open Go Go.RowKit Pl
@[simp] theorem aE(st:St)(a b:cI):(st.new a).set st.next b=st.new b:=St.ext' rfl fun y=>by by_cases hy:y=st.next<;>simp[hy]
theorem aN(l:List Ed):(eds l).length=l.length*3:=by
 induction l with
 |nil=>rfl
 |cons e l ih=>simp only[eds,aAC,aAh,List.length_cons,List.length_nil]at ih ⊢;omega
abbrev ed0:Ed:=⟨0,0,0⟩
theorem aW(l:List Ed)(k:Nat)(hk:k<l.length):(eds l).drop (k*3)=u (l.getD k ed0).id::u (l.getD k ed0).a::u (l.getD k ed0).b::eds (l.drop (k+1)):=by
 induction l generalizing k with
 |nil=>simp at hk
 |cons e l ih=>
  cases k with
  |zero=>rfl
  |succ k=>have:(k+1)*3=k*3+1+1+1:=oO;rw[this];simp only[eds,aAC,edL,List.cons_append,aCz,List.nil_append,List.getD_cons_succ];exact ih k (by simpa using hk)
def bY(f:Nat->Int):Nat->Int
 |0=>0
 |n+1=>if bY f n≠0 then bY f n else f n
theorem gR{f:Nat->Int}{n:Nat}(h:∀ j,j<n->f j=0):bY f n=0:=by
 induction n with
 |zero=>rfl
 |succ n ih=>simp[bY,ih (fun j hj=>h j oO),h n oO]
theorem fL{f:Nat->Int}{n k:Nat}{v:Int}(hk:k<n)(h:∀ j,j<k->f j=0)(hv:f k=v)(h0:v≠0):bY f n=v:=by
 induction n with
 |zero=>omega
 |succ n ih=>
  rcases aAN k n with h1|h1
  .have:=ih h1;simp[bY,this,h0]
  .have:k=n:=oO;subst this;simp[bY,gR h,hv]
def eN(n ahead:Int)(first:Bool):Int:=if n<1\/1048576<n then 2 else if first=false/\n<=ahead then 19 else 0
def kY(g:Gr)(k:Nat):Int:=eN (g.vs.getD k 0) (g.vs.getD (k-1) 0) (decide (k=0))
def lK(g:Gr)(k:Nat):Int:=
 let x:=g.es.getD k ed0;let n:=eN x.id (g.es.getD (k-1) ed0).id (decide (k=0))
 if n≠0 then n else if x.a=x.b then 20 else if x.a∉g.vs\/x.b∉g.vs then 21 else 0
def chk(g:Gr):Int:=if 64<g.vs.length\/160<g.es.length then 6 else if bY (kY g) g.vs.length≠0 then bY (kY g) g.vs.length else bY (lK g) g.es.length
theorem Has(g:Gr)(v:Int)(st:St)(hl:small g.vs):
 aB prog 29 [.ag (grL g),u v] st fun r st'=>r=bb (decide (v∈g.vs))/\aA st st':=by
 obtain⟨l,es⟩:=g;simp only at hl ⊢;unfold small at hl;refine zN func29 ntmps29 [.tmp 4] ?_
 (repeat' (first|apply qS|apply qB|(refine zE ?_;intro J hJ;simp[];refine zJ hJ ?_)))
 refine qL (fun n fr st'=>∃ k:Nat,k<=l.length/\n=l.length-k/\fr 8=.sl 0 l.length (us l)/\fr 1=u v/\fr 9=i l.length/\fr 10=i k/\aA st st'/\∀ j (hj:j<l.length),j<k->l[j]≠v) l.length ?_ ?_
 .exact⟨0,oO,oO,sS,sS,sS,sS,aA.new _ _,fun j _ h=>by omega⟩
 rintro n fr st' ⟨k,hk,rfl,h8,h1,h9,V8,Xt,YD⟩ JJ hJJ;by_cases GD:k<l.length
 .have hd:=jS l k GD;have hw:=qN k oO
  (repeat' (first|apply qS|apply qB|refine qK (zZ ?_)|(refine qR (zZ ?_);simp[h8,h1,h9,V8,GD,hd,hw])|(apply qC;simp[h8,h1,h9,V8,GD,hd,hw];(try with_reducible refine⟨?_,?_⟩)<;>(try with_reducible intro hc))|(refine zE ?_;intro J hJ;simp[h8,h1,h9,V8,GD,hd,hw];refine zJ hJ ?_)))
  .exact⟨by rw[<- hc];exact aAA GD,Xt⟩
  .refine hJJ _ _ _ ?_ ⟨k+1,oO,rfl,by simp[h8],by simp[h1],by simp[h9],sS,Xt,fun j hj K8=>?_⟩
   .omega
   .rcases aAN j k with h|h
    .exact YD j hj h
    .obtain rfl:j=k:=oO;exact hc
 ·(repeat' (first|apply qS|refine qX (zZ ?_)|(refine qR (zZ ?_);simp[h8,h1,h9,V8,GD])|(apply qC;simp[h8,h1,h9,V8,GD])|(refine zE ?_;intro J hJ;simp[h8,h1,h9,V8,GD];refine zJ hJ ?_)))
  refine⟨fun hm=>?_,Xt⟩;obtain⟨j,hj,rfl⟩:=aAB hm;exact YD j hj oO rfl
theorem Nr(g:Gr)(v:Int)(st:St)(hl:small g.vs):
 aB prog 55 [.ag (grL g),u v] st fun r st'=>r=i (gi g.vs v)/\aA st st':=by
 obtain⟨l,es⟩:=g;simp only at hl ⊢;refine zN func55 ntmps55 [.tmp 4] ?_
 (repeat' (first|apply qS|(refine zE ?_;intro J hJ;simp[];(try refine zJ hJ ?_))))
 refine qE (Index l 0 v _ hl) (by simp[]) ?_;rintro r st' ⟨rfl,rfl⟩
 (repeat' (first|(refine qR (zZ ?_);simp[])|(apply aF;simp[];refine zJ hJ ?_)))
 exact aA.new _ _
theorem number(n ahead:Int)(first:Bool)(st:St):
 aB prog 59 [u n,u ahead,bb first] st fun r st'=>r=i (eN n ahead first)/\st'=st:=by
 unfold eN;refine zN func59 ntmps59 [.tmp 6] ?_;by_cases h1:n<1
 ·(repeat' (first|apply qS|apply qB|(refine qR (zZ ?_);simp[h1])|(apply qC;simp[h1])|(refine zE ?_;intro J hJ;simp[h1];refine zJ hJ ?_)))
 by_cases h2:1048576<n
 ·(repeat' (first|apply qS|apply qB|(refine qR (zZ ?_);simp[h1,h2])|(apply qC;simp[h1,h2])|(refine zE ?_;intro J hJ;simp[h1,h2];refine zJ hJ ?_)))
 cases first
 .by_cases h3:n<=ahead
  ·(repeat' (first|apply qS|apply qB|(refine qR (zZ ?_);simp[h1,h2,h3])|(apply qC;simp[h1,h2,h3])|(refine zE ?_;intro J hJ;simp[h1,h2,h3];refine zJ hJ ?_)))
  ·(repeat' (first|apply qS|apply qB|refine qK (zZ ?_)|(refine qR (zZ ?_);simp[h1,h2,h3])|(apply qC;simp[h1,h2,h3])|(refine zE ?_;intro J hJ;simp[h1,h2,h3];refine zJ hJ ?_)))
 ·(repeat' (first|apply qS|apply qB|refine qK (zZ ?_)|(refine qR (zZ ?_);simp[h1,h2])|(apply qC;simp[h1,h2])|(refine zE ?_;intro J hJ;simp[h1,h2];refine zJ hJ ?_)))
theorem Check(g:Gr)(st:St)(hv:g.vs.length<=1000)(he:g.es.length<=1000):
 aB prog 30 [.ag (grL g)] st fun r st'=>r=i (chk g)/\aA st st':=by
 have p8:small g.vs:=by unfold small;omega
 refine zN func30 ntmps30 [.tmp 2] ?_;by_cases h1:(64:Int)<(g.vs.length:Int)
 .have:chk g=6:=by unfold chk;rw[aAe oO]
  (repeat' (first|apply qS|(refine qR (zZ ?_);simp[h1,this])|(apply qC;simp[h1,this])|(refine zE ?_;intro J hJ;simp[h1,this];refine zJ hJ ?_)))
  exact aA.new _ _
 by_cases h2:(160:Int)<(g.es.length:Int)
 .have:chk g=6:=by unfold chk;rw[aAe oO]
  (repeat' (first|apply qS|(refine qR (zZ ?_);simp[h1,h2,this])|(apply qC;simp[h1,h2,this])|(refine zE ?_;intro J hJ;simp[h1,h2,this];refine zJ hJ ?_)))
  exact aA.new _ _
 have r9:chk g=if bY (kY g) g.vs.length≠0 then bY (kY g) g.vs.length else bY (lK g) g.es.length:=by unfold chk;rw[aAa oO]
 (repeat' (first|apply qS|apply qB|refine qK (zZ ?_)|(apply qC;simp[h1,h2])|(refine zE ?_;intro J hJ;simp[h1,h2];refine zJ hJ ?_)))
 refine qL (fun n fr st'=>∃ k:Nat,k<=g.vs.length/\n=g.vs.length-k/\fr 1=.pt st.next 0/\fr 21=.sl 0 g.vs.length (us g.vs)/\fr 22=i g.vs.length/\fr 23=i k/\fr 3=u (if k=0 then 0 else g.vs.getD (k-1) 0)/\st'=st.new (.box 25 2 (grL g))/\∀ j,j<k->kY g j=0) g.vs.length ?_ ?_
 .exact⟨0,oO,oO,sS,sS,sS,sS,sS,rfl,fun j h=>by omega⟩
 rintro n fr st' ⟨k,hk,rfl,f1,f21,f22,f23,f3,rfl,YD⟩ JJ hJJ;by_cases GD:k<g.vs.length
 .have hd:=qG g.vs k GD;have hw:=qN k oO;have Yj:kY g k=eN (g.vs.getD k 0) (if k=0 then 0 else g.vs.getD (k-1) 0) (decide (k=0)):=by
   unfold kY;by_cases h0:k=0
   .subst h0;simp[eN]
   .simp[h0]
  generalize hy:(if k=0 then(0:Int)else g.vs.getD (k-1) 0)=y at *;generalize hx:g.vs.getD k 0=x at *;have Ye:((k:Int)==0)=decide (k=0):=by by_cases h0:k=0<;>simp[h0]
  (repeat' (first|apply qS|apply qB|refine qK (zZ ?_)|(apply qC;simp[f1,f21,f22,f23,f3,GD,hd,hw,Ye])|(refine zE ?_;intro J hJ;simp[f1,f21,f22,f23,f3,GD,hd,hw,Ye];(try refine zJ hJ ?_))))
  refine qE (number x y (decide (k=0)) _) (by simp[]) ?_;rintro r st' ⟨rfl,rfl⟩;rw[<- Yj];by_cases hb:kY g k=0
  ·(repeat' (first|apply qS|refine qK (zZ ?_)|(apply qC;simp[f23,hw,hb])|((first|(refine zE ?_;intro J hJ)|(apply aF));simp[f23,hw,hb];refine zJ hJ ?_)))
   refine hJJ _ _ _ ?_ ⟨k+1,oO,rfl,by simp[f1],by simp[f21],by simp[f22],sS,by rw[aAa oO,aBU,hx];simp,rfl,fun j hj=>?_⟩
   .omega
   .rcases aAN j k with h|h
    .exact YD j h
    .obtain rfl:j=k:=oO;exact hb
  .have hf:=fL GD YD rfl hb;have hr:chk g=kY g k:=by rw[r9,hf,aAe hb]
   (repeat' (first|apply qS|(refine qR (zZ ?_);simp[hb])|(apply qC;simp[hb])|((first|(refine zE ?_;intro J hJ)|(apply aF));simp[hb];refine zJ hJ ?_)))
   exact⟨hr.symm,aA.new _ _⟩
 have ZU:k=g.vs.length:=oO;have hz:bY (kY g) g.vs.length=0:=gR (fun j hj=>YD j oO);rw[hz]at r9;simp only[ne_eq,aEd,aBD]at r9;clear hJJ YD hz;have hel:=aN g.es;generalize hy:(if k=0 then(0:Int)else g.vs.getD (k-1) 0)=y at *
 (repeat' (first|apply qS|apply qB|refine qX (zZ ?_)|(apply qC;simp[f1,f21,f22,f23,f3,GD])|(refine zE ?_;intro J hJ;simp[f1,f21,f22,f23,f3,GD];refine zJ hJ ?_)))
 refine qL (fun n fr st'=>∃ k:Nat,k<=g.es.length/\n=g.es.length-k/\fr 1=.pt st.next 0/\fr 39=.sl 0 g.es.length (eds g.es)/\fr 40=i g.es.length/\fr 41=i k/\(∃ z,fr 3=u z/\(k≠0->z=(g.es.getD (k-1) ed0).id))/\aA (st.new (.box 25 2 (grL g))) st'/\∀ j,j<k->lK g j=0) g.es.length ?_ ?_
 .exact⟨0,oO,oO,by simp[f1],sS,sS,sS,⟨y,by simp[f3],sS⟩,aA.refl _,fun j h=>by omega⟩
 clear f1 f21 f22 f23 f3 GD ZU hk hy y fr k;rintro n fr Yy ⟨k,hk,rfl,f1,f39,f40,f41,⟨z,f3,hz⟩,Xt,YD⟩ JJ hJJ;have C5:Yy.H st.next=.box 25 2 (grL g):=by rw[Xt.H _ sS];simp
 have YN:¬st.next=Yy.next:=by have:=Xt.next;simp only[aJ]at this;omega
 have G9:=(aA.new st (.box 25 2 (grL g))).trans Xt;by_cases GD:k<g.es.length
 .have hd:=aW g.es k GD;have hw:=qN k oO;have Xv:k*3<g.es.length*3:=oO;have hk30:k*3+3<=g.es.length*3:=oO;have Yj:lK g k=(let x:=g.es.getD k ed0;let n:=eN x.id z (decide (k=0));if n≠0 then n else if x.a=x.b then 20 else if x.a∉g.vs\/x.b∉g.vs then 21 else 0):=by
   unfold lK;by_cases h0:k=0
   .subst h0;simp[eN]
   .rw[hz h0]
  generalize hx:g.es.getD k ed0=x at *;obtain⟨xi,xa,xb⟩:=x;simp only at hd Yj;have Ye:((k:Int)==0)=decide (k=0):=by by_cases h0:k=0<;>simp[h0]
  (repeat' (first|apply qS|apply qB|refine qK (zZ ?_)|(apply qC;simp[f1,f39,f40,f41,f3,GD,hd,hw,Ye,hel,Xv,C5,YN])|(refine zE ?_;intro J hJ;simp[f1,f39,f40,f41,f3,GD,hd,hw,Ye,hel,Xv,C5,YN];(try refine zJ hJ ?_))))
  refine qE (number xi z (decide (k=0)) _) (by simp[]) ?_;rintro r st' ⟨rfl,rfl⟩;by_cases hb:eN xi z (decide (k=0))=0;rotate_left
  .have hb':lK g k=eN xi z (decide (k=0)):=by rw[Yj,aAe hb]
   have hr:chk g=eN xi z (decide (k=0)):=by rw[r9];exact fL GD YD hb' hb
   (repeat' (first|apply qS|(refine qR (zZ ?_);simp[hb])|(apply qC;simp[hb])|((first|(refine zE ?_;intro J hJ)|(apply aF));simp[hb];refine zJ hJ ?_)))
   exact⟨hr.symm,G9.trans (aA.new _ _)⟩
  rw[aAa (by simp[hb])]at Yj;by_cases YC:xa=xb
  .have hb':lK g k=20:=by rw[Yj,aAe YC]
   have hr:chk g=20:=by rw[r9];exact fL GD YD hb' (by decide)
   (repeat' (first|apply qS|refine qK (zZ ?_)|(refine qR (zZ ?_);simp[hb,YC,hr])|(apply qC;simp[hb,YC,hr])|((first|(refine zE ?_;intro J hJ)|(apply aF));simp[hb,YC,hr];refine zJ hJ ?_)))
   exact G9.trans (aA.new _ _)
  rw[aAa YC]at Yj
  (repeat' (first|apply qS|refine qK (zZ ?_)|(apply qC;simp[hb,YC,f1,YN,C5])|((first|(refine zE ?_;intro J hJ)|(apply aF));simp[hb,YC,f1,YN,C5];(try refine zJ hJ ?_))))
  refine qE (Nr g xa _ p8) (by simp[]) ?_;rintro r st' ⟨rfl,Xp⟩;have Zz:st'.H Yy.next=.box 56 3 [u xi,u xa,u xb]:=by rw[Xp.H _ sS];simp
  have B4:st'.H st.next=.box 25 2 (grL g):=by rw[Xp.H _ (by have:=Xt.next;simp only[aJ]at this ⊢;omega),bX,aAa YN];exact C5
  have C2:=(Xt.trans (aA.new _ _)).trans Xp;have D9:=(G9.trans (aA.new _ _)).trans Xp;by_cases I7:xa∈g.vs;rotate_left
  .rw[Og I7];have hb':lK g k=21:=by rw[Yj,aAe (.inl I7)]
   have hr:chk g=21:=by rw[r9];exact fL GD YD hb' (by decide)
   (repeat' (first|apply qS|(refine qR (zZ ?_);simp[f1,Zz,B4,hr])|(apply qC;simp[f1,Zz,B4,hr])|((first|(refine zE ?_;intro J hJ)|(apply aF));simp[f1,Zz,B4,hr];refine zJ hJ ?_)))
   exact D9
  rw[Eb I7];have u9:¬((g.vs.idxOf xa:Nat):Int)<0:=oO
  (apply aF;simp[f1,Zz,B4,u9])
  refine qE (Nr g xb _ p8) (by simp[]) ?_;rintro r st' ⟨rfl,Xq⟩;by_cases Zf:xb∈g.vs;rotate_left
  .rw[Og Zf];have hb':lK g k=21:=by rw[Yj,aAe (.inr Zf)]
   have hr:chk g=21:=by rw[r9];exact fL GD YD hb' (by decide)
   (repeat' (first|apply qS|(refine qR (zZ ?_);simp[hr])|(apply qC;simp[hr])|((first|(refine zE ?_;intro J hJ)|(apply aF));simp[hr];refine zJ hJ ?_)))
   exact D9.trans Xq
  rw[Eb Zf];have Yi:¬((g.vs.idxOf xb:Nat):Int)<0:=oO;have hb':lK g k=0:=by rw[Yj,aAa (by simp[I7,Zf])]
  (repeat' (first|refine qK (zZ ?_)|(apply qC;simp[f41,hw,Yi])|((first|(refine zE ?_;intro J hJ)|(apply aF));simp[f41,hw,Yi];refine zJ hJ ?_)))
  refine hJJ _ _ _ ?_ ⟨k+1,oO,rfl,by simp[f1],by simp[f39],by simp[f40],sS,⟨xi,sS,fun _=>by rw[aBU,hx]⟩,C2.trans Xq,fun j hj=>?_⟩
  .omega
  .rcases aAN j k with h|h
   .exact YD j h
   .obtain rfl:j=k:=oO;exact hb'
 .have hr:chk g=0:=by rw[r9];exact gR (fun j hj=>YD j oO)
  clear hJJ
  (repeat' (first|apply qS|refine qX (zZ ?_)|(refine qR (zZ ?_);simp[f1,f39,f40,f41,f3,GD,hr])|(apply qC;simp[f1,f39,f40,f41,f3,GD,hr])|(refine zE ?_;intro J hJ;simp[f1,f39,f40,f41,f3,GD,hr];refine zJ hJ ?_)))
  exact G9
theorem MV(g:Gr)(st:St)(hv:g.vs.length<=1000)(he:g.es.length<=1000):
 aB prog 8 [.ag (grL g)] st fun r st'=>r=i (chk g)/\aA st st':=by
 have p8:small g.vs:=by unfold small;omega
 refine zN func8 ntmps8 [.tmp 2] ?_;by_cases h1:(64:Int)<(g.vs.length:Int)
 .have:chk g=6:=by unfold chk;rw[aAe oO]
  (repeat' (first|apply qS|(refine qR (zZ ?_);simp[h1,this])|(apply qC;simp[h1,this])|(refine zE ?_;intro J hJ;simp[h1,this];refine zJ hJ ?_)))
  exact aA.new _ _
 by_cases h2:(160:Int)<(g.es.length:Int)
 .have:chk g=6:=by unfold chk;rw[aAe oO]
  (repeat' (first|apply qS|(refine qR (zZ ?_);simp[h1,h2,this])|(apply qC;simp[h1,h2,this])|(refine zE ?_;intro J hJ;simp[h1,h2,this];refine zJ hJ ?_)))
  exact aA.new _ _
 have r9:chk g=if bY (kY g) g.vs.length≠0 then bY (kY g) g.vs.length else bY (lK g) g.es.length:=by unfold chk;rw[aAa oO]
 (repeat' (first|apply qS|apply qB|refine qK (zZ ?_)|(apply qC;simp[h1,h2])|(refine zE ?_;intro J hJ;simp[h1,h2];refine zJ hJ ?_)))
 refine qL (fun n fr st'=>∃ k:Nat,k<=g.vs.length/\n=g.vs.length-k/\fr 1=.pt st.next 0/\fr 18=.sl 0 g.vs.length (us g.vs)/\fr 19=i g.vs.length/\fr 20=i k/\st'=st.new (.box 25 2 (grL g))/\∀ j,j<k->kY g j=0) g.vs.length ?_ ?_
 .exact⟨0,oO,oO,sS,sS,sS,sS,rfl,fun j h=>by omega⟩
 rintro n fr st' ⟨k,hk,rfl,f1,f18,f19,f20,rfl,YD⟩ JJ hJJ;by_cases GD:k<g.vs.length
 .have hd:=qG g.vs k GD;have hw:=qN k oO;have Yj:kY g k=eN (g.vs.getD k 0) (g.vs.getD (k-1) 0) (decide (k=0)):=rfl;have Yu:kY g k=0->∀ j,j<k+1->kY g j=0:=fun hb j hj=>by
   rcases aAN j k with h|h
   .exact YD j h
   .obtain rfl:j=k:=oO;exact hb
  have F4:∀ v,kY g k=v->v≠0->chk g=v:=fun v h0 h1=>by have hf:=fL GD YD h0 h1;rw[r9,hf,aAe h1]
  generalize hx:g.vs.getD k 0=x at *;by_cases hx1:x<1
  .have hr:=F4 2 (by rw[Yj];unfold eN;rw[aAe (.inl hx1)]) (by decide)
   (repeat' (first|apply qS|apply qB|refine qK (zZ ?_)|(refine qR (zZ ?_);simp[f1,f18,f19,f20,GD,hd,hw,hx1,hr])|(apply qC;simp[f1,f18,f19,f20,GD,hd,hw,hx1,hr])|(refine zE ?_;intro J hJ;simp[f1,f18,f19,f20,GD,hd,hw,hx1,hr];refine zJ hJ ?_)))
   exact aA.new _ _
  by_cases Ys:1048576<x
  .have hr:=F4 2 (by rw[Yj];unfold eN;rw[aAe (.inr Ys)]) (by decide)
   (repeat' (first|apply qS|apply qB|refine qK (zZ ?_)|(refine qR (zZ ?_);simp[f1,f18,f19,f20,GD,hd,hw,hx1,Ys,hr])|(apply qC;simp[f1,f18,f19,f20,GD,hd,hw,hx1,Ys,hr])|(refine zE ?_;intro J hJ;simp[f1,f18,f19,f20,GD,hd,hw,hx1,Ys,hr];refine zJ hJ ?_)))
   exact aA.new _ _
  by_cases h0:k=0
  .have hb:kY g k=0:=by rw[Yj];unfold eN;rw[aAa (by simp[hx1,Ys])];simp[h0]
   have Ye:¬0<k:=oO
   (repeat' (first|apply qS|apply qB|refine qK (zZ ?_)|(apply qC;simp[f1,f18,f19,f20,GD,hd,hw,hx1,Ys,Ye])|(refine zE ?_;intro J hJ;simp[f1,f18,f19,f20,GD,hd,hw,hx1,Ys,Ye];refine zJ hJ ?_)))
   refine hJJ _ _ _ ?_ ⟨k+1,oO,rfl,by simp[f1],by simp[f18],by simp[f19],sS,rfl,Yu hb⟩;omega
  .have Ye:0<k:=oO;have Yt:IntKind.i64.wrap ((k:Int)-1)=((k-1:Nat):Int):=zW;have Xn:=qG g.vs (k-1) oO;have ZO:k-1<g.vs.length:=oO;generalize hy:g.vs.getD (k-1) 0=y at *;by_cases Xm:x<=y
   .have hr:=F4 19 (by rw[Yj];unfold eN;rw[aAa (by simp[hx1,Ys]),aAe ⟨by simp[h0],Xm⟩]) (by decide)
    (repeat' (first|apply qS|apply qB|refine qK (zZ ?_)|(refine qR (zZ ?_);simp[f1,f18,f19,f20,GD,hd,hw,hx1,Ys,Ye,Yt,Xn,ZO,Xm,hr])|(apply qC;simp[f1,f18,f19,f20,GD,hd,hw,hx1,Ys,Ye,Yt,Xn,ZO,Xm,hr])|(refine zE ?_;intro J hJ;simp[f1,f18,f19,f20,GD,hd,hw,hx1,Ys,Ye,Yt,Xn,ZO,Xm,hr];refine zJ hJ ?_)))
    exact aA.new _ _
   .have hb:kY g k=0:=by rw[Yj];unfold eN;rw[aAa (by simp[hx1,Ys]),aAa (by simp[Xm])]
    (repeat' (first|apply qS|apply qB|refine qK (zZ ?_)|(apply qC;simp[f1,f18,f19,f20,GD,hd,hw,hx1,Ys,Ye,Yt,Xn,ZO,Xm])|(refine zE ?_;intro J hJ;simp[f1,f18,f19,f20,GD,hd,hw,hx1,Ys,Ye,Yt,Xn,ZO,Xm];refine zJ hJ ?_)))
    refine hJJ _ _ _ ?_ ⟨k+1,oO,rfl,by simp[f1],by simp[f18],by simp[f19],sS,rfl,Yu hb⟩;omega
 have ZU:k=g.vs.length:=oO;have hz:bY (kY g) g.vs.length=0:=gR (fun j hj=>YD j oO);rw[hz]at r9;simp only[ne_eq,aEd,aBD]at r9;clear hJJ YD hz;have hel:=aN g.es
 (repeat' (first|apply qS|apply qB|refine qX (zZ ?_)|(apply qC;simp[f1,f18,f19,f20,GD])|(refine zE ?_;intro J hJ;simp[f1,f18,f19,f20,GD];refine zJ hJ ?_)))
 refine qL (fun n fr st'=>∃ k:Nat,k<=g.es.length/\n=g.es.length-k/\fr 1=.pt st.next 0/\fr 45=.sl 0 g.es.length (eds g.es)/\fr 46=i g.es.length/\fr 47=i k/\aA (st.new (.box 25 2 (grL g))) st'/\∀ j,j<k->lK g j=0) g.es.length ?_ ?_
 .exact⟨0,oO,oO,by simp[f1],sS,sS,sS,aA.refl _,fun j h=>by omega⟩
 clear f1 f18 f19 f20 GD ZU hk fr k;rintro n fr Yy ⟨k,hk,rfl,f1,f45,f46,f47,Xt,YD⟩ JJ hJJ;have C5:Yy.H st.next=.box 25 2 (grL g):=by rw[Xt.H _ sS];simp
 have YN:¬st.next=Yy.next:=by have:=Xt.next;simp only[aJ]at this;omega
 have G9:=(aA.new st (.box 25 2 (grL g))).trans Xt;by_cases GD:k<g.es.length
 .have hd:=aW g.es k GD;have hw:=qN k oO;have Xv:k*3<g.es.length*3:=oO;have Yj:lK g k=(let x:=g.es.getD k ed0;let n:=eN x.id (g.es.getD (k-1) ed0).id (decide (k=0));if n≠0 then n else if x.a=x.b then 20 else if x.a∉g.vs\/x.b∉g.vs then 21 else 0):=rfl;have Yu:lK g k=0->∀ j,j<k+1->lK g j=0:=fun hb j hj=>by
   rcases aAN j k with h|h
   .exact YD j h
   .obtain rfl:j=k:=oO;exact hb
  have F4:∀ v,lK g k=v->v≠0->chk g=v:=fun v h0 h1=>by rw[r9];exact fL GD YD h0 h1
  generalize hx:g.es.getD k ed0=x at *;obtain⟨xi,xa,xb⟩:=x;simp only at hd Yj;have hkn:=G9.trans (aA.new _ (.box 56 3 [u xi,u xa,u xb]));by_cases hx1:xi<1
  .have hn:eN xi (g.es.getD (k-1) ed0).id (decide (k=0))=2:=by unfold eN;rw[aAe (.inl hx1)]
   have hr:=F4 2 (by rw[Yj,hn];rfl) (by decide)
   (repeat' (first|apply qS|apply qB|refine qK (zZ ?_)|(refine qR (zZ ?_);simp[f1,f45,f46,f47,GD,hd,hw,hel,Xv,C5,YN,hx1,hr])|(apply qC;simp[f1,f45,f46,f47,GD,hd,hw,hel,Xv,C5,YN,hx1,hr])|(refine zE ?_;intro J hJ;simp[f1,f45,f46,f47,GD,hd,hw,hel,Xv,C5,YN,hx1,hr];refine zJ hJ ?_)))
   exact hkn
  by_cases Ys:1048576<xi
  .have hn:eN xi (g.es.getD (k-1) ed0).id (decide (k=0))=2:=by unfold eN;rw[aAe (.inr Ys)]
   have hr:=F4 2 (by rw[Yj,hn];rfl) (by decide)
   (repeat' (first|apply qS|apply qB|refine qK (zZ ?_)|(refine qR (zZ ?_);simp[f1,f45,f46,f47,GD,hd,hw,hel,Xv,C5,YN,hx1,Ys,hr])|(apply qC;simp[f1,f45,f46,f47,GD,hd,hw,hel,Xv,C5,YN,hx1,Ys,hr])|(refine zE ?_;intro J hJ;simp[f1,f45,f46,f47,GD,hd,hw,hel,Xv,C5,YN,hx1,Ys,hr];refine zJ hJ ?_)))
   exact hkn
  by_cases H9:eN xi (g.es.getD (k-1) ed0).id (decide (k=0))=0;rotate_left
  ·
   have h0:k≠0:=by rintro rfl;apply H9;unfold eN;rw[aAa (by simp[hx1,Ys])];simp
   have Xm:xi<=(g.es.getD (k-1) ed0).id:=by
    unfold eN at H9;rw[aAa (by simp[hx1,Ys])]at H9;by_cases h:decide (k=0)=false/\xi<=(g.es.getD (k-1) ed0).id
    .exact h.2
    .rw[aAa h]at H9;exact absurd rfl H9
   have hn:eN xi (g.es.getD (k-1) ed0).id (decide (k=0))=19:=by unfold eN;rw[aAa (by simp[hx1,Ys]),aAe ⟨by simp[h0],Xm⟩]
   have hr:=F4 19 (by rw[Yj,hn];rfl) (by decide);have Ye:0<k:=oO;have Yt:IntKind.i64.wrap ((k:Int)-1)=((k-1:Nat):Int):=zW;have Xn:=aW g.es (k-1) oO;have ZO:k-1<g.es.length:=oO;have Yh:(k-1)*3<g.es.length*3:=oO;generalize hy:g.es.getD (k-1) ed0=y at *;obtain⟨yi,ya,yb⟩:=y;simp only at Xn Xm
   (repeat' (first|apply qS|apply qB|refine qK (zZ ?_)|(refine qR (zZ ?_);simp[f1,f45,f46,f47,GD,hd,hw,hel,Xv,C5,YN,hx1,Ys,Ye,Yt,Xn,ZO,Yh,Xm,hr])|(apply qC;simp[f1,f45,f46,f47,GD,hd,hw,hel,Xv,C5,YN,hx1,Ys,Ye,Yt,Xn,ZO,Yh,Xm,hr])|((first|(refine zE ?_;intro J hJ)|(refine w_q ?_;intro J hJ));simp[f1,f45,f46,f47,GD,hd,hw,hel,Xv,C5,YN,hx1,Ys,Ye,Yt,Xn,ZO,Yh,Xm,hr];refine zJ hJ ?_)))
   exact hkn
  rw[aAa (fun h=>h H9)]at Yj;by_cases YC:xa=xb
  .have hr:=F4 20 (by rw[Yj,aAe YC]) (by decide);by_cases h0:k=0
   .have Ye:¬0<k:=oO
    (repeat' (first|apply qS|apply qB|refine qK (zZ ?_)|(refine qR (zZ ?_);simp[f1,f45,f46,f47,GD,hd,hw,hel,Xv,C5,YN,hx1,Ys,Ye,YC,hr])|(apply qC;simp[f1,f45,f46,f47,GD,hd,hw,hel,Xv,C5,YN,hx1,Ys,Ye,YC,hr])|((first|(refine zE ?_;intro J hJ)|(refine w_q ?_;intro J hJ));simp[f1,f45,f46,f47,GD,hd,hw,hel,Xv,C5,YN,hx1,Ys,Ye,YC,hr];refine zJ hJ ?_)))
    exact G9.trans (aA.new _ _)
   .have Ye:0<k:=oO;have Yt:IntKind.i64.wrap ((k:Int)-1)=((k-1:Nat):Int):=zW;have Xn:=aW g.es (k-1) oO;have ZO:k-1<g.es.length:=oO;have Yh:(k-1)*3<g.es.length*3:=oO;have Xm:¬xi<=(g.es.getD (k-1) ed0).id:=by intro h;unfold eN at H9;rw[aAa (by simp[hx1,Ys]),aAe ⟨by simp[h0],h⟩]at H9;cases H9
    generalize hy:g.es.getD (k-1) ed0=y at *;obtain⟨yi,ya,yb⟩:=y;simp only at Xn Xm
    (repeat' (first|apply qS|apply qB|refine qK (zZ ?_)|(refine qR (zZ ?_);simp[f1,f45,f46,f47,GD,hd,hw,hel,Xv,C5,YN,hx1,Ys,Ye,Yt,Xn,ZO,Yh,Xm,YC,hr])|(apply qC;simp[f1,f45,f46,f47,GD,hd,hw,hel,Xv,C5,YN,hx1,Ys,Ye,Yt,Xn,ZO,Yh,Xm,YC,hr])|((first|(refine zE ?_;intro J hJ)|(refine w_q ?_;intro J hJ));simp[f1,f45,f46,f47,GD,hd,hw,hel,Xv,C5,YN,hx1,Ys,Ye,Yt,Xn,ZO,Yh,Xm,YC,hr];refine zJ hJ ?_)))
    exact G9.trans (aA.new _ _)
  rw[aAa YC]at Yj;by_cases h0:k=0
  .have Ye:¬0<k:=oO
   (repeat' (first|apply qS|apply qB|refine qK (zZ ?_)|(apply qC;simp[f1,f45,f46,f47,GD,hd,hw,hel,Xv,C5,YN,hx1,Ys,Ye,YC])|((first|(refine zE ?_;intro J hJ)|(refine w_q ?_;intro J hJ));simp[f1,f45,f46,f47,GD,hd,hw,hel,Xv,C5,YN,hx1,Ys,Ye,YC];(try refine zJ hJ ?_))))
   refine qE (Has g xa _ p8) (by simp[]) ?_;rintro r st' ⟨rfl,Xp⟩;have Zz:st'.H Yy.next=.box 56 3 [u xi,u xa,u xb]:=by rw[Xp.H _ sS];simp
   have B4:st'.H st.next=.box 25 2 (grL g):=by rw[Xp.H _ (by have:=Xt.next;simp only[aJ]at this ⊢;omega),bX,aAa YN];exact C5
   have C2:=(Xt.trans (aA.new _ _)).trans Xp;have D9:=(G9.trans (aA.new _ _)).trans Xp;by_cases I7:xa∈g.vs;rotate_left
   .have hr:=F4 21 (by rw[Yj,aAe (.inl I7)]) (by decide)
    (repeat' (first|apply qS|(refine qR (zZ ?_);simp[f1,Zz,B4,hr,I7])|(apply qC;simp[f1,Zz,B4,hr,I7])|((first|(refine zE ?_;intro J hJ)|(apply aF));simp[f1,Zz,B4,hr,I7];refine zJ hJ ?_)))
    exact D9
   (apply aF;simp[f1,Zz,B4,I7])
   refine qE (Has g xb _ p8) (by simp[]) ?_;rintro r st' ⟨rfl,Xq⟩;by_cases Zf:xb∈g.vs;rotate_left
   .have hr:=F4 21 (by rw[Yj,aAe (.inr Zf)]) (by decide)
    (repeat' (first|apply qS|(refine qR (zZ ?_);simp[hr,Zf])|(apply qC;simp[hr,Zf])|((first|(refine zE ?_;intro J hJ)|(apply aF));simp[hr,Zf];refine zJ hJ ?_)))
    exact D9.trans Xq
   have hb':lK g k=0:=by rw[Yj,aAa (by simp[I7,Zf])]
   (repeat' (first|refine qK (zZ ?_)|(apply qC;simp[f47,hw,Zf])|((first|(refine zE ?_;intro J hJ)|(apply aF));simp[f47,hw,Zf];refine zJ hJ ?_)))
   refine hJJ _ _ _ ?_ ⟨k+1,oO,rfl,by simp[f1],by simp[f45],by simp[f46],sS,C2.trans Xq,Yu hb'⟩;omega
  .have Ye:0<k:=oO;have Yt:IntKind.i64.wrap ((k:Int)-1)=((k-1:Nat):Int):=zW;have Xn:=aW g.es (k-1) oO;have ZO:k-1<g.es.length:=oO;have Yh:(k-1)*3<g.es.length*3:=oO;have Xm:¬xi<=(g.es.getD (k-1) ed0).id:=by intro h;unfold eN at H9;rw[aAa (by simp[hx1,Ys]),aAe ⟨by simp[h0],h⟩]at H9;cases H9
   generalize hy:g.es.getD (k-1) ed0=y at *;obtain⟨yi,ya,yb⟩:=y;simp only at Xn Xm
   (repeat' (first|apply qS|apply qB|refine qK (zZ ?_)|(apply qC;simp[f1,f45,f46,f47,GD,hd,hw,hel,Xv,C5,YN,hx1,Ys,Ye,Yt,Xn,ZO,Yh,Xm,YC])|((first|(refine zE ?_;intro J hJ)|(refine w_q ?_;intro J hJ));simp[f1,f45,f46,f47,GD,hd,hw,hel,Xv,C5,YN,hx1,Ys,Ye,Yt,Xn,ZO,Yh,Xm,YC];(try refine zJ hJ ?_))))
   refine qE (Has g xa _ p8) (by simp[]) ?_;rintro r st' ⟨rfl,Xp⟩;have Zz:st'.H Yy.next=.box 56 3 [u xi,u xa,u xb]:=by rw[Xp.H _ sS];simp
   have B4:st'.H st.next=.box 25 2 (grL g):=by rw[Xp.H _ (by have:=Xt.next;simp only[aJ]at this ⊢;omega),bX,aAa YN];exact C5
   have C2:=(Xt.trans (aA.new _ _)).trans Xp;have D9:=(G9.trans (aA.new _ _)).trans Xp;by_cases I7:xa∈g.vs;rotate_left
   .have hr:=F4 21 (by rw[Yj,aAe (.inl I7)]) (by decide)
    (repeat' (first|apply qS|(refine qR (zZ ?_);simp[f1,Zz,B4,hr,I7])|(apply qC;simp[f1,Zz,B4,hr,I7])|((first|(refine zE ?_;intro J hJ)|(apply aF));simp[f1,Zz,B4,hr,I7];refine zJ hJ ?_)))
    exact D9
   (apply aF;simp[f1,Zz,B4,I7])
   refine qE (Has g xb _ p8) (by simp[]) ?_;rintro r st' ⟨rfl,Xq⟩;by_cases Zf:xb∈g.vs;rotate_left
   .have hr:=F4 21 (by rw[Yj,aAe (.inr Zf)]) (by decide)
    (repeat' (first|apply qS|(refine qR (zZ ?_);simp[hr,Zf])|(apply qC;simp[hr,Zf])|((first|(refine zE ?_;intro J hJ)|(apply aF));simp[hr,Zf];refine zJ hJ ?_)))
    exact D9.trans Xq
   have hb':lK g k=0:=by rw[Yj,aAa (by simp[I7,Zf])]
   (repeat' (first|refine qK (zZ ?_)|(apply qC;simp[f47,hw,Zf])|((first|(refine zE ?_;intro J hJ)|(apply aF));simp[f47,hw,Zf];refine zJ hJ ?_)))
   refine hJJ _ _ _ ?_ ⟨k+1,oO,rfl,by simp[f1],by simp[f45],by simp[f46],sS,C2.trans Xq,Yu hb'⟩;omega
 .have hr:chk g=0:=by rw[r9];exact gR (fun j hj=>YD j oO)
  clear hJJ
  (repeat' (first|apply qS|refine qX (zZ ?_)|(refine qR (zZ ?_);simp[f1,f45,f46,f47,GD,hr])|(apply qC;simp[f1,f45,f46,f47,GD,hr])|(refine zE ?_;intro J hJ;simp[f1,f45,f46,f47,GD,hr];refine zJ hJ ?_)))
  exact G9
theorem Kf(l:List Ed):(eds l).all gW=true:=by
 induction l with
 |nil=>rfl
 |cons e l ih=>simp only[eds,aAC,List.all_append,ih,aEP];rfl
theorem Tx(l:List Ed)(t:Nat)(st:St)(hl:l.length<=1048576):
 aB prog 124 [.sl t l.length (eds l)] st fun r st'=>r=.sl 0 l.length (eds l)/\aA st st':=by
 have Yr:=Kf l;have hel:=aN l;refine cG ?_;refine jD 56 3 ?_;refine zN func124 ntmps124 [.tmp 2] ?_
 (repeat' (first|apply qS|refine qK (zZ ?_)|(refine qR (zZ ?_);simp[Yr,hel])|(apply qC;simp[Yr,hel])|(refine w_e [5] ?_;intro J hJ;simp only[];simp[Yr,hel];(repeat refine ca ?_);((try with_reducible refine⟨?_,?_⟩)<;>(try with_reducible intro ZG)<;>refine zJ hJ ?_<;>clear hJ J<;>try subst ZG))))
 .exact⟨st.next+1,l.length,⟨rfl,rfl⟩,56,3,eds l,sS,by rw[hel];exact aAk _,⟨rfl,aAv (by rw[hel];exact aAk _)⟩,((aA.new _ _).trans (aA.new _ _)).set oO _⟩
 .exact⟨st.next,0,⟨rfl,rfl⟩,56,3,[],sS,sS,⟨rfl,.inr rfl⟩,(aA.new _ _).set (aAk _) _⟩
theorem copied(g:Gr)(st:St)(hv:g.vs.length<=1048576)(he:g.es.length<=1048576):
 aB prog 84 [.ag (grL g)] st fun r st'=>r=.ag (grL g)/\aA st st':=by
 refine zN func84 ntmps84 [.cell 2 25] ?_
 (repeat' (first|apply qS|(refine zE ?_;intro J hJ;simp[];refine zJ hJ ?_)))
 (refine zS [] [st.next] [0,2,6,8,4,10,12,15] ?_;intro J hJ;simp[])
 refine qD (QJ g.vs 0 _ hv) (by simp[]) ?_;rintro r st' ⟨rfl,Xp⟩;have Zz:st'.H st.next=.box 25 2 (grL g):=by rw[Xp.H _ (by simp;omega)];simp
 have hC1:st'.H (st.next+1)=.box 25 2 [.nil,.nil]:=by rw[Xp.H _ sS];simp
 refine⟨fun _=>by simp[Zz],?_⟩
 (apply aS;simp[Zz])
 have Yi:=Xp.next;simp only[aJ]at Yi;refine qD (Tx g.es 0 _ he) (by simp[]) ?_;rintro r st' ⟨rfl,Xq⟩;have I8:=(Xq.H st.next oO).trans Zz;have hC2:=(Xq.H (st.next+1) oO).trans hC1;refine⟨fun _=>by simp[I8],?_⟩
 (apply aS;simp[I8,hC2];refine zJ hJ ?_)
 (repeat' (refine qR (zZ ?_);simp[hC2]))
 exact(((((aA.new _ _).trans (aA.new _ _)).trans Xp).trans Xq).set oO _)
theorem CM(e s:Nat){P:Program}{f:FuncId}{args:List LV}{st:St}{Q:LV->St->Prop}(pre:List LV)
 (h:aB P f args st fun r st'=>∃ c,r=.ag (pre++[c])/\((c=.nil/\Q (.ag (pre++[.sl 0 0 []])) st')\/∃ l n cs,c=.ms l 0 n/\st'.H l=.box e s cs/\n*s<=cs.length/\Q (.ag (pre++[.sl 0 n (cs.take (n*s))])) (st'.set l .dead))):aB P f args st Q:=by
 refine⟨h.1,fun w g vs hi hr=>(h.2 w g vs hi hr).mono ?_⟩;rintro x w' ⟨v,r,st',g',rfl,⟨c,rfl,hc⟩,YF,Yq,he⟩;simp only[Rep]at YF;obtain⟨us1,rfl,hus⟩:=YF;obtain⟨v1,h1,h2⟩:=mR pre us1 hus;rcases hc with⟨rfl,hq⟩|⟨l,n,cs,rfl,hl,hn,hq⟩
 .refine⟨_,_,st',g',rfl,hq,?_,Yq,he⟩;simp only[Rep];exact⟨us1,rfl,h2 g' _ (Ext.refl _ _) (uA h1)⟩
 .obtain⟨g2,k1,k2,k3⟩:=gJ (fr:=upd (fun _=>.dead) 0 (.ms l 0 n)) 0 rfl hl hn { tmps:=#[v1],defers:=[] } w' g' Yq (by
   intro j;unfold upd;by_cases hj:j=0
   .subst hj;rw[aAe rfl];exact h1
   .rw[aAa hj];simp only[Rep])
  refine⟨_,_,_,g2,rfl,hq,?_,k1,he.trans k3⟩;simp only[Rep];exact⟨us1,rfl,h2 g2 _ k3 (k2 0)⟩
theorem AH(rs:List (List Int))(k:Nat)(hk:k<rs.length):eZ (rs.take (k+1))=eZ (rs.take k)++[.sl 0 (rs[k]).length (us rs[k])]:=by unfold eZ;rw[aAn hk,aAu];rfl
theorem UZ(g:Gr)(q:Nat)(es:List (List Int×LV))(tf:Int->List Int)(st:St)(hv:g.vs.length<=1000)(he:g.es.length<=1000)(hq:q<st.next)(hM:st.H q=.map false [.u32] es)
 (ht:∀ v∈g.vs,∃ x t,(bQ es [v]).getD .nil=x/\norm x=.sl t (tf v).length (us (tf v))/\(tf v).length<=1000):
 aB prog 50 [.ag (grL g),.mp q] st fun r st'=>r=.ag (mpL ⟨g,g.vs.map fun v=>nrm (tf v)⟩)/\aA st st':=by
 refine CM 22 1 (grL g) ?_;refine zN func50 ntmps50 [.cell 4 39] ?_
 (repeat' (first|apply qS|(refine zE ?_;intro J hJ;simp[];(try refine zJ hJ ?_))))
 refine qE (copied g _ oO oO) sS ?_;rintro r s1 ⟨rfl,Xp⟩;have Yi:=Xp.next;simp only[aJ]at Yi;have r8:s1.H st.next=.box 25 2 (grL g):=by rw[Xp.H _ (by simp;omega)];simp
 have J9:s1.H q=.map false [.u32] es:=by rw[Xp.H q (by simp;omega),bX,aAa (by simp;omega),bX,aAa oO,hM]
 have hR1:s1.H (st.next+1)=.box 39 3 [.nil,.nil,.nil]:=by rw[Xp.H _ sS];simp
 have ne1:¬st.next=s1.next:=oO
 (repeat' (first|apply qS|apply qB|((first|(refine zE ?_;intro J hJ)|(apply aF));simp[r8,ne1];refine zJ hJ ?_)))
 refine qL (fun n fr st2=>∃ k:Nat,k<=g.vs.length/\n=g.vs.length-k/\fr 1=.mp q/\fr 4=.pt (st.next+1) 0/\fr 5=.pt s1.next 0/\fr 12=.sl 0 g.vs.length (us g.vs)/\fr 13=i g.vs.length/\fr 14=i k/\aA s1 st2/\s1.next<st2.next/\∃ c,st2.H s1.next=.box 39 3 (grL g++[c])/\((k=0/\c=.nil)\/∃ z,c=.ms z 0 k/\s1.next<z/\z<st2.next/\st2.H z=.box 22 1 (eZ ((g.vs.map fun v=>nrm (tf v)).take k)))) g.vs.length ?_ ?_
 .exact⟨0,oO,oO,sS,sS,sS,sS,sS,sS,aA.new _ _,sS,.nil,sS,.inl ⟨rfl,rfl⟩⟩
 rintro n fr st2 ⟨k,hk,rfl,f1,f4,f5,f12,f13,f14,Xt,ZN,c,hB,hcz⟩ JJ hJJ;have Zd:st2.H q=.map false [.u32] es:=by rw[Xt.H q oO];exact J9
 by_cases GD:k<g.vs.length
 .have hd:=qG g.vs k GD;have hw:=qN k oO;have G8:g.vs.getD k 0∈g.vs:=by rw[bG _ _ GD];exact aAA GD
  obtain⟨x,t,hx1,Ys,hx3⟩:=ht _ G8;have RN:=AH (g.vs.map fun v=>nrm (tf v)) k (by simpa using GD);have hrk:(g.vs.map fun v=>nrm (tf v))[k]'(by simpa using GD)=nrm (tf (g.vs.getD k 0)):=by simp[GD]
  rw[hrk,tD]at RN;generalize hvv:g.vs.getD k 0=v at *;have Zx:¬q=s1.next:=oO;have ne2:¬s1.next=st2.next:=oO;have ne3:¬q=st2.next:=by have:=Xt.next;omega
  rcases hcz with⟨rfl,rfl⟩|⟨z,rfl,hz1,hz2,hz⟩
  ·(repeat' (first|apply qS|(refine zE ?_;intro J hJ;simp[f12,f13,f14,GD,hd];refine zJ hJ ?_)))
   (apply qC;simp[])
   (repeat' (first|apply qS|apply qB|refine qK (zZ ?_)|(refine zE ?_;intro J hJ;simp[f1,f5,f12,f13,f14,GD,hd];refine zJ hJ ?_)))
   (refine zS [25] [s1.next,q] [0,2,4,6,8,10,12,14,16,19] ?_;intro J hJ;simp[f1,f5,hB,Zd,hx1,Zx])
   refine qD (Ob (tf v) t _ (by simp only[small];omega)) (by simp only[aAi,aBt,Ys]) ?_;rintro r s3 ⟨rfl,Xv⟩;have X5:=(Xv.H s1.next oO).trans hB;have hM3:=(Xv.H q (by have:=Xt.next;omega)).trans Zd;have hn3:=Xv.next;have ne4:¬s1.next=s3.next:=oO;have ne5:¬s1.next=s3.next+1:=oO;have ne6:¬q=s3.next+1:=oO;have ne7:¬q=s3.next:=oO;refine⟨fun _=>by simp[X5,hM3,hB,Zd],?_⟩
   (apply aS;simp[f5,X5,hM3,hB,Zd,ne4,ne5,ne6,ne7];(repeat refine ca ?_);refine zJ hJ ?_)
   have Yt:IntKind.i64.wrap 1=1:=by decide
   (repeat' (refine zE ?_;intro J hJ;simp[f5,f14,hw,Yt];refine zJ hJ ?_))
   refine hJJ (g.vs.length-1) _ _ oO ⟨1,oO,rfl,by simp[f1],by simp[f4],by simp[f5],by simp[f12],by simp[f13],sS,(((Xt.trans Xv).trans (aA.new _ _)).trans (aA.new _ _)).set (aAk _) _,by simp;omega,.ms (s3.next+1) 0 1,sS,.inr ⟨s3.next+1,rfl,oO,sS,?_⟩⟩;rw[RN,bF,aAa oO];simp
  .generalize hR:eZ ((g.vs.map fun v=>nrm (tf v)).take k)=R at *;have M6:R.length=k:=by rw[<- hR];simp;omega
   (repeat' (first|apply qS|(refine zE ?_;intro J hJ;simp[f12,f13,f14,GD,hd];refine zJ hJ ?_)))
   (apply qC;simp[])
   (repeat' (first|apply qS|apply qB|refine qK (zZ ?_)|(refine zE ?_;intro J hJ;simp[f1,f5,f12,f13,f14,GD,hd];refine zJ hJ ?_)))
   (refine zS [25] [s1.next,q] [0,2,4,6,8,10,12,14,16,19] ?_;intro J hJ;simp[f1,f5,hB,Zd,hx1,Zx])
   refine qD (Ob (tf v) t _ (by simp only[small];omega)) (by simp only[aAi,aBt,Ys]) ?_;rintro r s3 ⟨rfl,Xv⟩;have X5:=(Xv.H s1.next oO).trans hB;have hM3:=(Xv.H q (by have:=Xt.next;omega)).trans Zd;have hz3:=(Xv.H z oO).trans hz;have hn3:=Xv.next;have ne4:¬s1.next=s3.next:=oO;have ne5:¬s1.next=s3.next+1:=oO;have ne6:¬q=s3.next+1:=oO;have ne7:¬q=s3.next:=oO;have ne8:¬s1.next=z:=oO;have ne9:¬z=s3.next:=oO;have ne10:¬q=z:=oO;have Xx:R.take k=R:=aAv oO;refine⟨fun _=>by simp[X5,hM3,hB,Zd],?_⟩
   (apply aS;simp[f5,X5,hM3,hB,Zd,ne4,ne5,ne6,ne7,ne8,ne9,ne10,hz3,M6,Xx];(repeat refine ca ?_);refine zJ hJ ?_)
   (repeat' (refine zE ?_;intro J hJ;simp[f5,f14,hw];refine zJ hJ ?_))
   refine hJJ (g.vs.length-(k+1)) _ _ oO ⟨k+1,oO,rfl,by simp[f1],by simp[f4],by simp[f5],by simp[f12],by simp[f13],sS,((((Xt.trans Xv).trans (aA.new _ _)).set oO _).trans (aA.new _ _)).set (aAk _) _,by simp;omega,.ms (s3.next+1) 0 (k+1),sS,.inr ⟨s3.next+1,rfl,oO,sS,?_⟩⟩;rw[RN,bF,aAa oO];simp
 .have Q6:k=g.vs.length:=oO;have hBR:¬s1.next=st.next+1:=oO;have L8:=(Xt.H (st.next+1) oO).trans hR1;have hKK:aA st st2:=(((aA.new _ _).trans (aA.new _ _)).trans Xp).trans Xt;rcases hcz with⟨h0,rfl⟩|⟨z,rfl,hz1,hz2,hz⟩
  ·(repeat' (first|apply qS|refine qX (zZ ?_)|(refine qR (zZ ?_);simp[f12,f13,f14,GD,f4,f5,hB,L8])|(apply qC;simp[f12,f13,f14,GD,f4,f5,hB,L8])|(refine zE ?_;intro J hJ;simp[f12,f13,f14,GD,f4,f5,hB,L8];refine zJ hJ ?_)))
   exact⟨⟨oO,aCR.mp oO⟩,hKK.set oO _⟩
  ·(repeat' (first|apply qS|refine qX (zZ ?_)|(refine qR (zZ ?_);simp[f12,f13,f14,GD,f4,f5,hB,L8])|(apply qC;simp[f12,f13,f14,GD,f4,f5,hB,L8])|(refine zE ?_;intro J hJ;simp[f12,f13,f14,GD,f4,f5,hB,L8];refine zJ hJ ?_)))
   have O3:(g.vs.map fun v=>nrm (tf v)).take k=g.vs.map fun v=>nrm (tf v):=aAv (by simp;omega);rw[O3]at hz;exact⟨z,k,⟨rfl,rfl⟩,_,by rw[aAa oO,hz],by simp;omega,⟨Q6,by rw[aAv (by simp;omega)];simp⟩,(hKK.set oO _).set oO _⟩
theorem jC{P:Program}{N:Nat}{Q:AQ}{c:Code}{fr:Frm}{st:St}(h:0<st.next->AWp P N c Q fr st):AWp P N c Q fr st:=
 fun a w g hi hr hs hd=>h hi.pos a w g hi hr hs hd
def CH(v:Int)(x:Ed):List Int:=(if x.a=v then [2*x.id]else [])++(if x.b=v then [2*x.id+1]else [])
def ends(es:List Ed)(v:Int):List Int:=es.flatMap (CH v)
theorem OH(v:Int)(x:Ed):(CH v x).length<=2:=by unfold CH;split<;>split<;>simp
theorem NU(f:Ed->List Int)(hf:∀ x,(f x).length<=2)(l:List Ed):(l.flatMap f).length<=2*l.length:=by
 induction l with
 |nil=>simp
 |cons x l ih=>have:=hf x;simp only[aAC,aAh,List.length_cons];omega
def Wo(es:List Ed):Prop:=∀ x∈es,0<=x.id/\x.id<=1048576
theorem dOf(id e:Int)(st:St)(h0:0<=id)(h1:id<=1048576)(he:e=0\/e=1):aB prog 32 [u id,i e] st fun r st'=>r=u (2*id+e)/\st'=st:=by refine(Of id e st).mono ?_;rintro r st' ⟨rfl,rfl⟩;refine⟨?_,rfl⟩;have h2:id*2 % 4294967296+e % 2=2*id+e:=oO;rw[h2]
def Hj(v:Int)(x:Ed):List Int:=(if x.a=v then [x.b]else [])++(if x.b=v then [x.a]else [])
def nbr(es:List Ed)(v:Int):List Int:=es.flatMap (Hj v)
def alone(g:Gr):Nat:=g.vs.countP fun v=>decide (nbr g.es v=[])
inductive Reach(es:List Ed)(v:Int):Int->Prop
 |refl:Reach es v v
 |step {u w:Int} (h:Reach es v u) (hw:w∈nbr es u):Reach es v w
theorem cM{es:List Ed}{u w:Int}:w∈nbr es u↔∃ x∈es,(x.a=u/\x.b=w)\/(x.b=u/\x.a=w):=by
 unfold nbr Hj;simp only[aAR,aAg];constructor
 .rintro⟨x,hx,h|h⟩
  .refine⟨x,hx,.inl ?_⟩
   split at h
   .rename_i h1;simp at h;exact⟨h1,h.symm⟩
   .cases h
  .refine⟨x,hx,.inr ?_⟩
   split at h
   .rename_i h1;simp at h;exact⟨h1,h.symm⟩
   .cases h
 .rintro⟨x,hx,⟨h1,h2⟩|⟨h1,h2⟩⟩
  .exact⟨x,hx,.inl (by simp[h1,h2])⟩
  .exact⟨x,hx,.inr (by simp[h1,h2])⟩
theorem pJ{es:List Ed}{u w:Int}(h:w∈nbr es u):u∈nbr es w:=by
 rw[cM]at h ⊢;obtain⟨x,hx,⟨h1,h2⟩|⟨h1,h2⟩⟩:=h
 .exact⟨x,hx,.inr ⟨h2,h1⟩⟩
 .exact⟨x,hx,.inl ⟨h2,h1⟩⟩
theorem Reach.trans{es:List Ed}{u v w:Int}(h:Reach es u v)(k:Reach es v w):Reach es u w:=by
 induction k with
 |refl=>exact h
 |step _ hw ih=>exact .step ih hw
theorem Reach.symm{es:List Ed}{u v:Int}(h:Reach es u v):Reach es v u:=by
 induction h with
 |refl=>exact .refl
 |step _ hw ih=>exact Reach.trans (.step .refl (pJ hw)) ih
structure Good(g:Gr):Prop where
 rise:g.vs.Pairwise (· < ·)
 ends:∀ x∈g.es,x.a∈g.vs/\x.b∈g.vs
theorem Good.nbr{g:Gr}(h:Good g){u w:Int}(hw:w∈nbr g.es u):w∈g.vs:=by
 rw[cM]at hw;obtain⟨x,hx,⟨_,rfl⟩|⟨_,rfl⟩⟩:=hw
 .exact(h.ends x hx).2
 .exact(h.ends x hx).1
theorem Good.nodup{g:Gr}(h:Good g):g.vs.Nodup:=h.rise.imp fun h=>by omega
theorem Ff{c d:List Int}(hc:c.Pairwise (· < ·))(hd:d.Pairwise (· < ·))(h:∀ w,w∈c↔w∈d):c=d:=
 As (hc.imp fun h=>by omega) (hd.imp fun h=>by omega) ((aAZ (hc.imp fun h=>by omega) (hd.imp fun h=>by omega)).2 h)
def Kk(f:FuncId)(cX:List LV)(st:St)(l:List Ed)(p:Ed->Bool):Prop:=∀ x∈l,∀ st2,aA st st2->aB prog f (.ag (edL x)::cX) st2 fun r ZW=>r=bb (p x)/\aA st2 ZW
theorem ED(l:List Ed)(p:Ed->Bool)(k:Nat)(hk:k<l.length):(l.take (k+1)).filter p=if p (l.getD k ed0)=true then(l.take k).filter p++[l.getD k ed0]else(l.take k).filter p:=by rw[aAn hk,aBx,aAc,aAd hk];by_cases h:p l[k]=true<;>simp[h]
def XE(X:LV)(F:List Ed):Prop:=(X=.nil/\F=[])\/∃ t,X=.sl t F.length (eds F)
theorem XX(g:Gr)(f:FuncId)(cX:List LV)(p:Ed->Bool)(st:St)(hv:g.vs.length<=1000)(he:g.es.length<=1000)(hp:Kk f cX st g.es p):
 aB prog 111 [.ag (grL g),.fn (.func f) cX] st fun r st'=>(∃ X,r=.ag [.sl 0 g.vs.length (us g.vs),X]/\XE X (g.es.filter p))/\aA st st':=by
 have hel:=aN g.es;have p8:small g.vs:=by unfold small;omega
 refine zN func111 ntmps111 [.cell 4 25] ?_
 (repeat' (first|apply qS|(refine zE ?_;intro J hJ;simp[];(try refine zJ hJ ?_))))
 refine qE (QJ g.vs 0 _ p8) sS ?_;rintro r s1 ⟨rfl,Xp⟩;have Yi:=Xp.next;simp only[aJ]at Yi;have r8:s1.H st.next=.box 25 2 (grL g):=by rw[Xp.H _ (by simp;omega)];simp
 have hC1:s1.H (st.next+1)=.box 25 2 [.nil,.nil]:=by rw[Xp.H _ sS];simp
 have e1:¬st.next=s1.next:=oO
 (repeat' (first|apply qS|apply qB|((first|(refine zE ?_;intro J hJ)|(apply aF));simp[r8,e1];refine zJ hJ ?_)))
 have C2:aA st s1:=((aA.new _ _).trans (aA.new _ _)).trans Xp;obtain⟨q4,S4⟩:∃ q,q=st.next+1:=⟨_,rfl⟩;obtain⟨q5,hq5⟩:∃ q,q=s1.next:=⟨_,rfl⟩;refine qL (fun n fr st2=>∃ k:Nat,k<=g.es.length/\n=g.es.length-k/\fr 1=.fn (.func f) cX/\fr 4=.pt q4 0/\fr 5=.pt q5 0/\fr 13=.sl 0 g.es.length (eds g.es)/\fr 14=i g.es.length/\fr 15=i k/\aA st st2/\q5<st2.next/\st2.H q4=.box 25 2 [.nil,.nil]/\∃ X,st2.H q5=.box 25 2 [.sl 0 g.vs.length (us g.vs),X]/\((X=.nil/\(g.es.take k).filter p=[])\/∃ t,X=.sl t ((g.es.take k).filter p).length (eds ((g.es.take k).filter p))/\t≠0/\q5<t/\t<st2.next/\st2.H t=.own 56 3 ((g.es.take k).filter p).length)) g.es.length ?_ ?_
 .have e2:¬q4=s1.next:=oO;have e3:¬st.next+1=s1.next:=oO;refine⟨0,oO,oO,sS,by simp[S4],by simp[hq5],sS,sS,sS,?_,by simp[hq5],by simp[e2,hC1,S4,e3],.nil,by simp[hq5],.inl ⟨rfl,sS⟩⟩
  (repeat (first|exact C2|(refine aA.trans ?_ (aA.new _ _))|(refine aA.set ?_ oO _)))
 rintro n fr st2 ⟨k,hk,rfl,f1,f4,f5,f13,f14,f15,Xt,h5n,hC,X,hX,hXs⟩ JJ hJJ;have e0:¬q4=q5:=oO;by_cases GD:k<g.es.length;rotate_left
 .clear hJJ;have ZU:k=g.es.length:=oO;rw[ZU,aAQ]at hXs;rcases hXs with⟨rfl,h⟩|⟨t,rfl,h⟩
  ·(repeat' (first|apply qS|refine qX (zZ ?_)|(refine qR (zZ ?_);simp[f4,f5,f14,f15,GD,hX,hC,e0])|(apply qC;simp[f4,f5,f14,f15,GD,hX,hC,e0])|(refine zE ?_;intro J hJ;simp[f4,f5,f14,f15,GD,hX,hC,e0];refine zJ hJ ?_)))
   exact⟨.inl ⟨rfl,h⟩,(by repeat (first|exact Xt|(refine aA.trans ?_ (aA.new _ _))|(refine aA.set ?_ (by have:=Xt.next;omega) _)))⟩
  ·(repeat' (first|apply qS|refine qX (zZ ?_)|(refine qR (zZ ?_);simp[f4,f5,f14,f15,GD,hX,hC,e0])|(apply qC;simp[f4,f5,f14,f15,GD,hX,hC,e0])|(refine zE ?_;intro J hJ;simp[f4,f5,f14,f15,GD,hX,hC,e0];refine zJ hJ ?_)))
   exact⟨.inr ⟨t,rfl⟩,(by repeat (first|exact Xt|(refine aA.trans ?_ (aA.new _ _))|(refine aA.set ?_ (by have:=Xt.next;omega) _)))⟩
 have hd:=aW g.es k GD;have hw:=qN k oO;have Xv:k*3<g.es.length*3:=oO;have J5:g.es.getD k ed0∈g.es:=by rw[aAc,aAd GD];exact aAA GD
 have YY:=ED g.es p k GD;have Xm:=aBh p (g.es.take k);rw[aAq]at Xm;have htest:=fun s h=>hp _ J5 s h;generalize hx:g.es.getD k ed0=x at *;generalize hFF:(g.es.take k).filter p=F at *;have hFl:=aN F;have hFo:(eds F).length=F.length*3:=hFl;obtain⟨d,a,b⟩:=x;simp only at hd htest
 (repeat' (first|apply qS|apply qB|refine qK (zZ ?_)|(apply qC;simp[f1,f13,f14,f15,GD,hd,hel])|(refine zE ?_;intro J hJ;simp[f1,f13,f14,f15,GD,hd,hel];(try refine zJ hJ ?_))))
 refine qF (htest _ (Xt.trans (aA.new _ (.box 56 3 [u d,u a,u b])))) ?_;rintro r s3 ⟨rfl,hk3'⟩;have hn3:=hk3'.next;simp only[aJ]at hn3;have Q6:aA st2 s3:=(aA.new _ _).trans hk3';have hX3:=(Q6.H q5 h5n).trans hX;have hC3:=(Q6.H q4 oO).trans hC;have hE3:s3.H st2.next=.box 56 3 [u d,u a,u b]:=by rw[hk3'.H _ sS];simp
 have Y5:aA st s3:=(Xt.trans (aA.new _ _)).trans hk3';have z1:¬q5=s3.next:=oO;have z2:¬q5=s3.next+1:=oO;have z3:¬q4=s3.next:=oO;have z4:¬q4=s3.next+1:=oO;have z5:¬s3.next+1=q5:=oO;by_cases T7:p ⟨d,a,b⟩=true;rotate_left
 .rw[aAa T7]at YY;have T7:p ⟨d,a,b⟩=false:=by simpa using T7
  (repeat' (first|refine qK (zZ ?_)|(apply qC;simp[T7,f15,hw])|((first|(refine zE ?_;intro J hJ)|(apply aF));simp[T7,f15,hw];refine zJ hJ ?_)))
  refine hJJ (g.es.length-(k+1)) _ _ oO ⟨k+1,oO,rfl,by simp[f1],by simp[f4],by simp[f5],by simp[f13],by simp[f14],sS,Y5,oO,hC3,X,hX3,?_⟩;rw[YY];rcases hXs with h|⟨t,h,h0,h1,h2,h3⟩
  .exact .inl h
  .exact .inr ⟨t,h,h0,h1,oO,(Q6.H t h2).trans h3⟩
 rw[aAe T7]at YY;have hed:eds (F++[⟨d,a,b⟩])=eds F++[u d,u a,u b]:=by simp[eds]
 rcases hXs with⟨rfl,hF0⟩|⟨t,rfl,h0,h1,h2,h3⟩
 ·(repeat' (first|(apply qC;simp[T7,f5,f15,hw,hX3,hE3,z1,z2])|((first|(refine zE ?_;intro J hJ)|(apply aF));simp[T7,f5,f15,hw,hX3,hE3,z1,z2];(repeat refine ca ?_);refine zJ hJ ?_)))
  refine hJJ (g.es.length-(k+1)) _ _ oO ⟨k+1,oO,rfl,by simp[f1],by simp[f4],by simp[f5],by simp[f13],by simp[f14],sS,?_,by simp;omega,by simp[e0,z3,z4,hC3],_,by simp;rfl,.inr ⟨s3.next+1,by rw[YY,hed,hF0];simp[eds],oO,oO,sS,by rw[YY,hF0];simp[z5]⟩⟩
  (repeat (first|exact Y5|(refine aA.trans ?_ (aA.new _ _))|(refine aA.set ?_ oO _)))
 .have h3':s3.H t=.own 56 3 F.length:=(Q6.H t h2).trans h3;have y1:¬t=s3.next:=oO;have y2:¬t=s3.next+1:=oO;have y3:¬q5=t:=oO;have y4:¬t=q5:=oO;have y5:¬q4=t:=oO
  (repeat' (first|(apply qC;simp[T7,f5,f15,hw,hX3,hE3,z1,z2,h3',h0,y1,y2,y3,y4,hFo])|((first|(refine zE ?_;intro J hJ)|(apply aF));simp[T7,f5,f15,hw,hX3,hE3,z1,z2,h3',h0,y1,y2,y3,y4,hFo];(repeat refine ca ?_);refine zJ hJ ?_)))
  refine hJJ (g.es.length-(k+1)) _ _ oO ⟨k+1,oO,rfl,by simp[f1],by simp[f4],by simp[f5],by simp[f13],by simp[f14],sS,?_,by simp;omega,by simp[e0,z3,z4,y5,hC3],_,by simp;rfl,.inr ⟨s3.next+1,by rw[YY,hed];simp,oO,oO,sS,by rw[YY];simp[z5]⟩⟩
  (repeat (first|exact Y5|(refine aA.trans ?_ (aA.new _ _))|(refine aA.set ?_ oO _)))
theorem pL{f:Nat->Int}{n:Nat}(h:bY f n=0):∀ j,j<n->f j=0:=by
 induction n with
 |zero=>intro j hj;omega
 |succ n ih=>
  intro j hj;simp only[bY]at h;by_cases h0:bY f n=0
  .rw[aAa (by simp[h0])]at h;rcases aAN j n with h1|h1
   .exact ih h0 j h1
   .obtain rfl:j=n:=oO;exact h
  .rw[aAe h0]at h;exact absurd h h0
theorem vM{n a:Int}{b:Bool}(h:eN n a b=0):1<=n/\n<=1048576/\(b=false->a<n):=by
 unfold eN at h;by_cases h1:n<1\/1048576<n
 .rw[aAe h1]at h;cases h
 .rw[aAa h1]at h;by_cases h2:b=false/\n<=a
  .rw[aAe h2]at h;cases h
  .refine⟨oO,oO,fun hb=>?_⟩;rcases Int.lt_or_le a n with h3|h3
   .exact h3
   .exact absurd ⟨hb,h3⟩ h2
theorem Sd{l:List Int}(h:∀ j,j<l.length->0<j->l.getD (j-1) 0<l.getD j 0):l.Pairwise (· < ·):=by
 rw[aAJ];intro a b ha hb YC;induction b with
 |zero=>omega
 |succ b ih=>
  have h1:=h (b+1) hb oO;rw[aBU,bG _ _ hb,bG _ _ oO]at h1;rcases aAN a b with h2|h2
  .have:=ih oO h2;omega
  .obtain rfl:a=b:=oO;exact h1
theorem FM{g:Gr}(h:chk g=0):Good g/\Wo g.es/\g.vs.length<=64/\g.es.length<=160:=by
 unfold chk at h;by_cases h1:64<g.vs.length\/160<g.es.length
 .rw[aAe h1]at h;cases h
 .rw[aAa h1]at h;by_cases h2:bY (kY g) g.vs.length=0
  .rw[aAa (by simp[h2])]at h;have hV:=pL h2;have hE:=pL h;have hEx:∀ j,j<g.es.length->(1<=(g.es.getD j ed0).id/\(g.es.getD j ed0).id<=1048576)/\(g.es.getD j ed0).a∈g.vs/\(g.es.getD j ed0).b∈g.vs:=by
    intro j hj;have:=hE j hj;unfold lK at this;simp only at this;by_cases h3:eN (g.es.getD j ed0).id (g.es.getD (j-1) ed0).id (decide (j=0))=0
    .rw[aAa (fun h=>h h3)]at this;by_cases h4:(g.es.getD j ed0).a=(g.es.getD j ed0).b
     .rw[aAe h4]at this;cases this
     .rw[aAa h4]at this;by_cases h5:(g.es.getD j ed0).a∉g.vs\/(g.es.getD j ed0).b∉g.vs
      .rw[aAe h5]at this;cases this
      .have h6:=vM h3;refine⟨⟨h6.1,h6.2.1⟩,?_,?_⟩
       .exact aAG fun h=>h5 (.inl h)
       .exact aAG fun h=>h5 (.inr h)
    .rw[aAe h3]at this;exact absurd this h3
   have Yc:∀ x∈g.es,∃ j,j<g.es.length/\g.es.getD j ed0=x:=by intro x hx;obtain⟨j,hj,rfl⟩:=aAB hx;exact⟨j,hj,by rw[aAc,aAd hj];rfl⟩
   refine⟨⟨Sd fun j hj h0=>?_,fun x hx=>?_⟩,fun x hx=>?_,oO,oO⟩
   .have:=(vM (hV j hj)).2.2 (by simp;omega);exact this
   .obtain⟨j,hj,rfl⟩:=Yc x hx;exact(hEx j hj).2
   .obtain⟨j,hj,rfl⟩:=Yc x hx;have:=(hEx j hj).1;omega
  .rw[aAe h2]at h;exact absurd h h2
theorem AZ(es:List Ed)(v:Int):ends es v=[]↔nbr es v=[]:=by unfold ends nbr;simp only[List.flatMap_eq_nil_iff];refine forall_congr' fun x=>forall_congr' fun _=>?_;unfold CH Hj;by_cases h1:x.a=v<;>by_cases h2:x.b=v<;>simp[h1,h2]
end Aw
namespace Aw
open Go Go.RowKit Pl Eu
def aO(es:List Ed):List Int:=es.flatMap fun x=>[2*x.id,2*x.id+1]
structure GoodE(g:Gr):Prop extends Good g where
 ids:g.es.Pairwise (fun x y=>x.id<y.id)
 pos:∀ x∈g.es,1<=x.id/\x.id<=1048576
 ne:∀ x∈g.es,x.a≠x.b
theorem cZ(l:List Ed)(j:Nat)(hj:j<l.length):l.getD j ed0=l[j]:=by rw[aAc,aAd hj];rfl
theorem DV{g:Gr}(h:chk g=0):GoodE g:=by
 obtain⟨hg,_,_,_⟩:=FM h;unfold chk at h;by_cases h1:64<g.vs.length\/160<g.es.length
 .rw[aAe h1]at h;cases h
 rw[aAa h1]at h;by_cases h2:bY (kY g) g.vs.length=0
 .rw[aAa (by simp[h2])]at h;have hE:=pL h;have hEx:∀ j,j<g.es.length->((1<=(g.es.getD j ed0).id/\(g.es.getD j ed0).id<=1048576)/\(0<j->(g.es.getD (j-1) ed0).id<(g.es.getD j ed0).id))/\(g.es.getD j ed0).a≠(g.es.getD j ed0).b:=by
   intro j hj;have:=hE j hj;unfold lK at this;simp only at this;by_cases h3:eN (g.es.getD j ed0).id (g.es.getD (j-1) ed0).id (decide (j=0))=0
   .rw[aAa (fun h=>h h3)]at this;by_cases h4:(g.es.getD j ed0).a=(g.es.getD j ed0).b
    .rw[aAe h4]at this;cases this
    .have h6:=vM h3;exact⟨⟨⟨h6.1,h6.2.1⟩,fun h0=>h6.2.2 (by simp;omega)⟩,h4⟩
   .rw[aAe h3]at this;exact absurd this h3
  have Yc:∀ x∈g.es,∃ j,j<g.es.length/\g.es.getD j ed0=x:=by intro x hx;obtain⟨j,hj,rfl⟩:=aAB hx;exact⟨j,hj,cZ _ _ hj⟩
  refine⟨hg,?_,fun x hx=>?_,fun x hx=>?_⟩
  .rw[aAJ];intro a b ha hb YC;induction b with
   |zero=>omega
   |succ b ih=>
    have h1:=(hEx (b+1) hb).1.2 oO;rw[aBU,cZ _ _ hb,cZ _ _ oO]at h1;rcases aAN a b with h2|h2
    .have:=ih oO h2;omega
    .obtain rfl:a=b:=oO;exact h1
  .obtain⟨j,hj,rfl⟩:=Yc x hx;exact(hEx j hj).1.1
  .obtain⟨j,hj,rfl⟩:=Yc x hx;exact(hEx j hj).2
 .rw[aAe h2]at h;exact absurd h h2
theorem id_eq{es:List Ed}(h:es.Pairwise (fun x y=>x.id<y.id)){x y:Ed}(hx:x∈es)(hy:y∈es)(he:x.id=y.id):x=y:=by
 obtain⟨j,hj,rfl⟩:=aAB hx;obtain⟨k,hk,rfl⟩:=aAB hy;rcases aCx j k with h1|h1|h1
 .have:=aAJ.1 h j k hj hk h1;omega
 .subst h1;rfl
 .have:=aAJ.1 h k j hk hj h1;omega
theorem cC{es:List Ed}{v d:Int}:d∈ends es v↔∃ x∈es,(x.a=v/\d=2*x.id)\/(x.b=v/\d=2*x.id+1):=by
 unfold ends;rw[aAR];refine aEV fun x=>aCG fun _=>?_;unfold CH;rw[aAg];refine or_congr ?_ ?_
 .split
  .rename_i h;simp[h]
  .rename_i h;simp[h]
 .split
  .rename_i h;simp[h]
  .rename_i h;simp[h]
theorem dS{es:List Ed}{d:Int}:d∈aO es↔∃ x∈es,d=2*x.id\/d=2*x.id+1:=by unfold aO;rw[aAR];refine aEV fun x=>aCG fun _=>?_;simp
theorem aV{es:List Ed}{d:Int}:d∈aO es↔∃ x∈es,x.id=d / 2:=by rw[dS];refine aEV fun x=>aCG fun _=>?_;omega
theorem Ax{es:List Ed}(h:es.Pairwise (fun x y=>x.id<y.id)):(aO es).Pairwise (· < ·):=by unfold aO;rw[aEy];refine⟨fun x _=>by simp;omega,h.imp fun {x y} YK a ha b hb=>?_⟩;simp at ha hb;omega
theorem rI{es:List Ed}(h:es.Pairwise (fun x y=>x.id<y.id))(v:Int):(ends es v).Pairwise (· < ·):=by
 unfold ends;rw[aEy];refine⟨fun x _=>?_,h.imp fun {x y} YK a ha b hb=>?_⟩
 .unfold CH;by_cases h1:x.a=v<;>by_cases h2:x.b=v<;>simp[h1,h2];omega
 .unfold CH at ha hb;simp only[aAg]at ha hb;have h1:a=2*x.id\/a=2*x.id+1:=by
   rcases ha with ha|ha<;>split at ha<;>simp at ha
   .exact .inl ha
   .exact .inr ha
  have h2:b=2*y.id\/b=2*y.id+1:=by
   rcases hb with hb|hb<;>split at hb<;>simp at hb
   .exact .inl hb
   .exact .inr hb
  omega
theorem iN{l:List Int}(h:l.Pairwise (· < ·)):l.Nodup:=h.imp fun h=>by omega
theorem uD(es:List Ed):(aO es).length=2*es.length:=by
 induction es with
 |nil=>rfl
 |cons x l ih=>simp only[aO,aAC,aAh,List.length_cons,List.length_nil]at ih ⊢;omega
def Oq(es:List Ed)(v:Int)(t:List Int):Prop:=t.Perm (ends es v)/\nrm t=t
structure cE(m:Mp):Prop where
 g:GoodE m.g
 len:m.rots.length=m.g.vs.length
 ok:∀ k,k<m.g.vs.length->Oq m.g.es (m.g.vs.getD k 0) (m.rots.getD k [])
theorem dD{es:List Ed}(h:es.Pairwise (fun x y=>x.id<y.id)){d v w:Int}(hv:d∈ends es v)(hw:d∈ends es w):v=w:=by rw[cC]at hv hw;obtain⟨x,hx,h1⟩:=hv;obtain⟨y,hy,h2⟩:=hw;have he:x.id=y.id:=oO;have:=id_eq h hx hy he;subst this;omega
theorem kG{es:List Ed}{d v:Int}(h:d∈ends es v):d∈aO es:=by rw[cC]at h;rw[dS];obtain⟨x,hx,h1⟩:=h;exact⟨x,hx,oO⟩
theorem EE{es:List Ed}{d:Int}(h:d∈aO es):∃ v,d∈ends es v/\∃ x∈es,x.id=d / 2/\(v=x.a\/v=x.b):=by
 rw[dS]at h;obtain⟨x,hx,h1|h1⟩:=h
 .exact⟨x.a,cC.2 ⟨x,hx,.inl ⟨rfl,h1⟩⟩,x,hx,oO,.inl rfl⟩
 .exact⟨x.b,cC.2 ⟨x,hx,.inr ⟨rfl,h1⟩⟩,x,hx,oO,.inr rfl⟩
theorem jV(l:List (List Int))(j:Nat)(hj:j<l.length):l.getD j []=l[j]:=by rw[aAc,aAd hj];rfl
section
variable {m:Mp} (h:cE m)
include h
theorem cE.turn{t:List Int}(ht:t∈m.rots):∃ k,k<m.g.vs.length/\t=m.rots.getD k []/\Oq m.g.es (m.g.vs.getD k 0) t:=by
 obtain⟨k,hk,rfl⟩:=aAB ht;have ZU:k<m.g.vs.length:=by rw[<- h.len];exact hk
 refine⟨k,ZU,(jV _ _ hk).symm,?_⟩;have:=h.ok k ZU
 rwa [jV _ _ hk]at this
theorem cE.nodup{t:List Int}(ht:t∈m.rots):t.Nodup:=by obtain⟨k,_,_,h1,_⟩:=h.turn ht;exact h1.nodup_iff.2 (iN (rI h.g.ids _))
theorem cE.same{t t':List Int}(ht:t∈m.rots)(F0:t'∈m.rots){d:Int}(hd:d∈t)(Zh:d∈t'):t=t':=by obtain⟨k,hk,rfl,h1,_⟩:=h.turn ht;obtain⟨k',ZU,rfl,h2,_⟩:=h.turn F0;have:=dD h.g.ids (h1.mem_iff.1 hd) (h2.mem_iff.1 Zh);rw[bG _ _ hk,bG _ _ ZU]at this;have h3:=congrArg m.g.vs.idxOf this;rw[h.g.toGood.nodup.idxOf_getElem,h.g.toGood.nodup.idxOf_getElem]at h3;rw[h3]
theorem cE.turn_of{d:Int}(hd:d∈aO m.g.es):∃ t∈m.rots,d∈t:=by
 obtain⟨v,hv,x,hx,_,hvx⟩:=EE hd;have G8:v∈m.g.vs:=by
  rcases hvx with rfl|rfl
  .exact(h.g.ends x hx).1
  .exact(h.g.ends x hx).2
 obtain⟨k,hk,rfl⟩:=aAB G8;have:=h.ok k hk;rw[bG _ _ hk]at this;refine⟨_,?_,this.1.mem_iff.2 hv⟩;rw[jV _ _ (by rw[h.len];exact hk)];exact aAA _
theorem cE.turn_dart{t:List Int}(ht:t∈m.rots){d:Int}(hd:d∈t):d∈aO m.g.es:=by obtain⟨k,_,_,h1,_⟩:=h.turn ht;exact kG (h1.mem_iff.1 hd)
end
def sg(m:Mp)(d:Int):Int:=match m.rots.find? (fun t=>decide (d∈t)) with
 |some t=>nx t d
 |none=>d
theorem TN{m:Mp}{d:Int}(h:∀ t∈m.rots,d∉t):sg m d=d:=by
 unfold sg;have:m.rots.find? (fun t=>decide (d∈t))=none:=by rw[aCF];intro t ht;simpa using h t ht
 rw[this]
theorem DW{m:Mp}(h:cE m){t:List Int}(ht:t∈m.rots){d:Int}(hd:d∈t):sg m d=nx t d:=by
 unfold sg;cases hf:m.rots.find? (fun t=>decide (d∈t)) with
 |none=>rw[aCF]at hf;exact absurd hd (by simpa using hf t ht)
 |some t'=>have h1:=aDq hf;have h2:=aCr hf;simp only at h1 ⊢;rw[h.same h2 ht (by simpa using h1) hd]
def al(es:List Ed)(d:Int):Int:=if(es.any fun x=>decide (x.id=d / 2))=true then tw d else d
theorem kP{es:List Ed}{d:Int}(h:d∈aO es):al es d=tw d:=by unfold al;rw[aAe];obtain⟨x,hx,h⟩:=aV.1 h;exact aBX.2 ⟨x,hx,by simpa using h⟩
theorem eP{es:List Ed}{d:Int}(h:d∉aO es):al es d=d:=by unfold al;rw[aAa];intro ha;obtain⟨x,hx,h1⟩:=aBX.1 ha;exact h (aV.2 ⟨x,hx,by simpa using h1⟩)
theorem Eo(d:Int):tw d / 2=d / 2:=by unfold tw;split<;>omega
theorem Wx(d:Int):tw (tw d)=d:=by unfold tw;split<;>split<;>omega
theorem KI{es:List Ed}{d:Int}:tw d∈aO es↔d∈aO es:=by rw[aV,aV,Eo]
theorem OW(es:List Ed)(d:Int):al es (al es d)=d:=by
 by_cases h:d∈aO es
 .rw[kP h,kP (KI.2 h),Wx]
 .rw[eP h,eP h]
theorem Qy(es:List Ed)(d:Int):al es d / 2=d / 2:=by
 unfold al;split
 .exact Eo d
 .rfl
theorem EP(es es':List Ed)(d:Int):al es d∈aO es'↔d∈aO es':=by rw[aV,aV,Qy]
theorem Ty(es:List Ed){d e:Int}(h:al es d=al es e):d=e:=by rw[<- OW es d,h,OW]
def fc(m:Mp)(es:List Ed)(d:Int):Int:=sg m (al es d)
section
variable {m:Mp} (h:cE m)
include h
theorem cE.sg_mem{t:List Int}(ht:t∈m.rots){d:Int}(hd:d∈t):sg m d∈t:=by rw[DW h ht hd];exact IU hd
theorem cE.sg_dart{d:Int}(hd:d∈aO m.g.es):sg m d∈aO m.g.es:=by obtain⟨t,ht,O9⟩:=h.turn_of hd;exact h.turn_dart ht (h.sg_mem ht O9)
theorem cE.sg_id{d:Int}(hd:d∉aO m.g.es):sg m d=d:=TN fun _ ht O9=>hd (h.turn_dart ht O9)
theorem cE.sg_inj{d e:Int}(he:sg m d=sg m e):d=e:=by
 by_cases h1:d∈aO m.g.es
 .by_cases h2:e∈aO m.g.es
  .obtain⟨t,ht,hd⟩:=h.turn_of h1;obtain⟨t',F0,Zh⟩:=h.turn_of h2;have:=h.same ht F0 (h.sg_mem ht hd) (he ▸ h.sg_mem F0 Zh);subst this;rw[DW h ht hd,DW h ht Zh]at he;exact QC (h.nodup ht) hd Zh he
  .have:=h.sg_dart h1;rw[he,h.sg_id h2]at this;exact absurd this h2
 .by_cases h2:e∈aO m.g.es
  .have:=h.sg_dart h2;rw[<- he,h.sg_id h1]at this;exact absurd this h1
  .rwa [h.sg_id h1,h.sg_id h2]at he
theorem cE.fc_inj(es:List Ed)(d e:Int)(he:fc m es d=fc m es e):d=e:=Ty es (h.sg_inj he)
theorem cE.fc_dart(es:List Ed)(d:Int)(hd:d∈aO m.g.es):fc m es d∈aO m.g.es:=h.sg_dart ((EP es _ d).2 hd)
theorem cE.fc_per(es:List Ed)(hs:∀ x∈es,x∈m.g.es):Per (fc m es):=by
 refine Nk (aO m.g.es) (fun x hx=>h.fc_dart es x hx) (h.fc_inj es) fun x hx=>?_
 have Zn:x∉aO es:=fun hd=>hx (by
  rw[dS]at hd ⊢;obtain⟨y,hy,h1⟩:=hd
  exact⟨y,hs y hy,h1⟩)
 unfold fc;rw[eP Zn,h.sg_id hx]
theorem cE.sg_at_v{d v:Int}(hd:d∈ends m.g.es v):sg m d∈ends m.g.es v:=by obtain⟨t,ht,O9⟩:=h.turn_of (kG hd);obtain⟨k,hk,rfl,h1,_⟩:=h.turn ht;have:=dD h.g.ids hd (h1.mem_iff.1 O9);rw[this];exact h1.mem_iff.1 (h.sg_mem ht O9)
theorem cE.orb_reach(es:List Ed)(hs:∀ x∈es,x∈m.g.es)(n:Nat):∀ {d v:Int},d∈ends m.g.es v->∃ w,it (fc m es) n d∈ends m.g.es w/\Reach es v w:=by
 induction n with
 |zero=>intro d v hd;exact⟨v,hd,.refl⟩
 |succ n ih=>
  intro d v hd;have key:∃ w,fc m es d∈ends m.g.es w/\Reach es v w:=by
   by_cases Xl:d∈aO es
   .unfold fc;rw[kP Xl];obtain⟨x,hx,hxd⟩:=aV.1 Xl;have hxg:=hs x hx;obtain⟨y,hy,hyd⟩:=cC.1 hd;have YK:x=y:=id_eq h.g.ids hxg hy oO;subst YK;rcases hyd with⟨rfl,hdd⟩|⟨rfl,hdd⟩
    .refine⟨x.b,h.sg_at_v (cC.2 ⟨x,hxg,.inr ⟨rfl,?_⟩⟩),.step .refl (cM.2 ⟨x,hx,.inl ⟨rfl,rfl⟩⟩)⟩;unfold tw;split<;>omega
    .refine⟨x.a,h.sg_at_v (cC.2 ⟨x,hxg,.inl ⟨rfl,?_⟩⟩),.step .refl (cM.2 ⟨x,hx,.inr ⟨rfl,rfl⟩⟩)⟩;unfold tw;split<;>omega
   .unfold fc;rw[eP Xl];exact⟨v,h.sg_at_v hd,.refl⟩
  obtain⟨w,h1,h2⟩:=key;obtain⟨w',h3,h4⟩:=ih h1;exact⟨w',h3,h2.trans h4⟩
end
theorem eI(es:List Ed):Eqv (Reach es):=⟨fun _=>.refl,Reach.symm,Reach.trans⟩
theorem Reach.mono{es es':List Ed}(hs:∀ x∈es,x∈es'){v w:Int}(h:Reach es v w):Reach es' v w:=by
 induction h with
 |refl=>exact .refl
 |step _ hw ih=>refine .step ih ?_;rw[cM]at hw ⊢;obtain⟨x,hx,h1⟩:=hw;exact⟨x,hs x hx,h1⟩
theorem Aq(es:List Ed)(x:Ed)(v w:Int):Reach (es++[x]) v w↔Eu.Mg (Reach es) x.a x.b v w:=by
 constructor
 .intro h;have hE:=Mg.eqv (eI es) x.a x.b;induction h with
  |refl=>exact hE.refl _
  |step _ hw ih=>
   refine hE.trans ih ?_;obtain⟨y,hy,h1⟩:=cM.1 hw;rw[aAg,aAl]at hy;rcases hy with hy|rfl
   .exact .inl (.step .refl (cM.2 ⟨y,hy,h1⟩))
   .rcases h1 with⟨rfl,rfl⟩|⟨rfl,rfl⟩
    .exact .inr (.inl ⟨.refl,.refl⟩)
    .exact .inr (.inr ⟨.refl,.refl⟩)
 .refine Mg.le (eI _) (.step .refl (cM.2 ⟨x,sS,.inl ⟨rfl,rfl⟩⟩)) fun v w h=>h.mono fun y hy=>by simp[hy]
theorem Ko{R:Int->Int->Prop}(hR:∀ x y,R x y->x=y){l:List Int}(hn:l.Nodup):ncl R l=l.length:=by
 induction l with
 |nil=>rfl
 |cons x l ih=>rw[aAy]at hn;rw[aP,ih hn.2,List.length_cons];rintro⟨y,hy,hr⟩;exact hn.1 (hR _ _ hr ▸ hy)
theorem Cr{v w:Int}(h:Reach [] v w):v=w:=by
 induction h with
 |refl=>rfl
 |step _ hw _=>obtain⟨x,hx,_⟩:=cM.1 hw;cases hx
theorem filter_eq{α β:Type}(p:α->Bool)(q:β->Bool):∀(l:List α) (l':List β),l.length=l'.length->(∀ k (h1:k<l.length) (h2:k<l'.length),p l[k]=!q l'[k])->(l.filter p).length+l'.countP q=l.length
 |[],[],_,_=>rfl
 |[],_::_,h,_=>by simp at h
 |_::_,[],h,_=>by simp at h
 |a::l,b::l',h,hk=>by have ih:=filter_eq p q l l' (by simpa using h) fun k h1 h2=>hk (k+1) (by simpa using h1) (by simpa using h2);have h0:=hk 0 sS sS;simp only[List.getElem_cons_zero]at h0;rw[aDF,List.countP_cons,h0,List.length_cons];cases q b<;>simp<;>omega
section
variable {m:Mp} (h:cE m)
include h
theorem cE.flat_perm:(aO m.g.es).Perm m.rots.flatten:=by
 refine(aAZ (iN (Ax h.g.ids)) ?_).2 fun d=>?_
 .unfold List.Nodup;rw[aEz];refine⟨fun t ht=>h.nodup ht,?_⟩;rw[aAJ];intro a b ha hb YC x hx y hy;rintro rfl;have h1:=h.ok a (by rw[<- h.len];exact ha);have h2:=h.ok b (by rw[<- h.len];exact hb);rw[jV _ _ ha]at h1;rw[jV _ _ hb]at h2;have h3:=dD h.g.ids (h1.1.mem_iff.1 hx) (h2.1.mem_iff.1 hy);have ha':a<m.g.vs.length:=by rw[<- h.len];exact ha
  have hb':b<m.g.vs.length:=by rw[<- h.len];exact hb
  rw[bG _ _ ha',bG _ _ hb']at h3;have:=aAJ.1 h.g.rise a b ha' hb' YC;omega
 .rw[aAY];exact⟨fun hd=>h.turn_of hd,fun⟨t,ht,hd⟩=>h.turn_dart ht hd⟩
theorem cE.ncl_sg:ncl (Orb (sg m)) (aO m.g.es)+alone m.g=m.g.vs.length:=by
 have hfc:fc m []=sg m:=by funext d;simp[fc,al]
 have hP:Per (sg m):=by rw[<- hfc];exact h.fc_per [] (fun x hx=>by cases hx)
 have YY:∀ t∈m.rots,∀ n x,x∈t->it (sg m) n x∈t:=by
  intro t ht n;induction n with
  |zero=>intro x hx;exact hx
  |succ n ih=>intro x hx;exact ih _ (h.sg_mem ht hx)
 have hit:∀ t∈m.rots,∀ n x,x∈t->it (sg m) n x=it (nx t) n x:=by
  intro t ht n;induction n with
  |zero=>intro x hx;rfl
  |succ n ih=>intro x hx;rw[cJ,cJ,ih x hx,DW h ht];rw[<- ih x hx];exact YY t ht n x hx
 rw[uR hP.eqv h.flat_perm,AJ]
 .have:=filter_eq (fun t=>decide (t≠[])) (fun v=>decide (nbr m.g.es v=[])) m.rots m.g.vs h.len fun k h1 h2=>?_
  .rw[<- h.len];exact this
  .have hk:=h.ok k h2;rw[jV _ _ h1,bG _ _ h2]at hk;have e1:m.rots[k]=[]↔nbr m.g.es m.g.vs[k]=[]:=by
    rw[<- AZ];constructor
    .intro h3;have:=hk.1;rw[h3]at this;exact this.symm.eq_nil
    .intro h3;have:=hk.1;rw[h3]at this;exact this.eq_nil
   by_cases h3:m.rots[k]=[]
   .simp[h3,e1.1 h3]
   .have h5:¬nbr m.g.es m.g.vs[k]=[]:=fun h4=>h3 (e1.2 h4);simp[h3,h5]
 .intro t ht x hx y hy;obtain⟨n,hn⟩:=IP (h.nodup ht) hx hy;exact⟨n,by rw[hit t ht n x hx,hn]⟩
 .rw[aAJ];rintro a b ha hb YC x hx y hy ⟨n,hn⟩;have h4:=YY _ (aAA hb) n y hy;rw[hn]at h4;have h1:=h.ok a (by rw[<- h.len];exact ha);have h2:=h.ok b (by rw[<- h.len];exact hb);rw[jV _ _ ha]at h1;rw[jV _ _ hb]at h2;have h3:=dD h.g.ids (h1.1.mem_iff.1 hx) (h2.1.mem_iff.1 h4);have ha':a<m.g.vs.length:=by rw[<- h.len];exact ha
  have hb':b<m.g.vs.length:=by rw[<- h.len];exact hb
  rw[bG _ _ ha',bG _ _ hb']at h3;have:=aAJ.1 h.g.rise a b ha' hb' YC;omega
theorem cE.euler_at(j:Nat)(hj:j<=m.g.es.length):∃ k:Nat,2*ncl (Reach (m.g.es.take j)) m.g.vs+j=2*k+alone m.g+m.g.vs.length+ncl (Orb (fc m (m.g.es.take j))) (aO m.g.es):=by
 induction j with
 |zero=>
  have hfc:fc m []=sg m:=by funext d;simp[fc,al]
  refine⟨0,?_⟩;rw[List.take_zero,hfc,Ko (fun x y=>Cr) h.g.toGood.nodup];have:=h.ncl_sg;omega
 |succ j ih=>
  obtain⟨k,hk⟩:=ih oO;have hs:∀ i,∀ x∈m.g.es.take i,x∈m.g.es:=fun i x hx=>aCv hx;have hp:=h.fc_per (m.g.es.take j) (hs j);have ZY:=h.fc_per (m.g.es.take (j+1)) (hs (j+1));have Xx:m.g.es.take (j+1)=m.g.es.take j++[m.g.es[j]]:=aAn oO;have J5:m.g.es[j]∈m.g.es:=aAA _;have hxno:∀ y∈m.g.es.take j,y.id≠m.g.es[j].id:=by intro y hy;obtain⟨i,hi,rfl⟩:=aAB hy;rw[aAq]at hi;rw[aBP];have:=aAJ.1 h.g.ids i j oO oO oO;omega
  generalize m.g.es[j]=x at *;have u5:∀ d,fc m (m.g.es.take (j+1)) d=fc m (m.g.es.take j) (sw (2*x.id) (2*x.id+1) d):=by
   intro d;unfold fc
   congr 1
   by_cases h1:d=2*x.id
   .subst h1;rw[Bb,kP (aV.2 ⟨x,by rw[Xx];simp,oO⟩),eP]
    .unfold tw;rw[aAe oO]
    .intro hd;obtain⟨y,hy,h2⟩:=aV.1 hd;exact hxno y hy oO
   .by_cases h2:d=2*x.id+1
    .subst h2;rw[FE,kP (aV.2 ⟨x,by rw[Xx];simp,oO⟩),eP]
     .unfold tw;rw[aAa oO];omega
     .intro hd;obtain⟨y,hy,h2⟩:=aV.1 hd;exact hxno y hy oO
    .rw[tA h1 h2];by_cases h3:d∈aO (m.g.es.take j)
     .rw[kP h3,kP];obtain⟨y,hy,h4⟩:=aV.1 h3;exact aV.2 ⟨y,by rw[Xx];simp[hy],h4⟩
     .rw[eP h3,eP];intro hd;obtain⟨y,hy,h4⟩:=aV.1 hd;rw[Xx,aAg,aAl]at hy;rcases hy with hy|rfl
      .exact h3 (aV.2 ⟨y,hy,h4⟩)
      .omega
  have ha:2*x.id∈aO m.g.es:=dS.2 ⟨x,J5,.inl rfl⟩;have hb:2*x.id+1∈aO m.g.es:=dS.2 ⟨x,J5,.inr rfl⟩;have hR:∀ v w,Reach (m.g.es.take (j+1)) v w↔Eu.Mg (Reach (m.g.es.take j)) x.a x.b v w:=fun v w=>by rw[Xx];exact Aq _ _ _ _
  have hRn:ncl (Reach (m.g.es.take (j+1))) m.g.vs=ncl (Eu.Mg (Reach (m.g.es.take j)) x.a x.b) m.g.vs:=dP fun v _ w _=>hR v w;rw[hRn];by_cases ho:Orb (fc m (m.g.es.take j)) (2*x.id) (2*x.id+1)
  .have h1:=rJ hp ZY u5 oO ha hb ho;have hr:Reach (m.g.es.take j) x.a x.b:=by
    obtain⟨n,hn⟩:=ho;obtain⟨w,h2,h3⟩:=h.orb_reach (m.g.es.take j) (hs j) n (cC.2 ⟨x,J5,.inl ⟨rfl,rfl⟩⟩);rw[hn]at h2
    rwa [dD h.g.ids h2 (cC.2 ⟨x,J5,.inr ⟨rfl,rfl⟩⟩)]at h3
   have h2:ncl (Eu.Mg (Reach (m.g.es.take j)) x.a x.b) m.g.vs=ncl (Reach (m.g.es.take j)) m.g.vs:=dP fun v _ w _=>Mg.same (eI _) hr v w;rw[h2,h1];exact⟨k,oO⟩
  .have h1:=tU hp ZY u5 ha hb ho;by_cases hr:Reach (m.g.es.take j) x.a x.b
   .have h2:ncl (Eu.Mg (Reach (m.g.es.take j)) x.a x.b) m.g.vs=ncl (Reach (m.g.es.take j)) m.g.vs:=dP fun v _ w _=>Mg.same (eI _) hr v w;rw[h2];exact⟨k+1,oO⟩
   .have h2:=sO (eI _) hr (h.g.ends x J5).1 (h.g.ends x J5).2;exact⟨k,oO⟩
theorem cE.euler:∃ k:Nat,2*ncl (Reach m.g.es) m.g.vs+m.g.es.length=2*k+alone m.g+m.g.vs.length+ncl (Orb (fc m m.g.es)) (aO m.g.es):=by
 have:=h.euler_at m.g.es.length (aAk _)
 rwa [aAQ]at this
end
theorem GY{c:List Int}{d:Int}{r:List Int}(h:c=d::r)(hm:mn c=d):nrm c=c:=by subst h;unfold nrm;rw[hm];simp[rt]
theorem OA(c:List Int)(h:c≠[]):∃ r,nrm c=mn c::r:=by
 have hm:=xB h;have GD:=aBl hm;have hl:0<(nrm c).length:=by rw[tD];omega
 have h0:=SF c 0 oO;simp only[Nat.add_zero,aAM GD,aCn]at h0;cases hn:nrm c with
 |nil=>rw[hn]at hl;simp at hl
 |cons a r=>simp only[hn,List.getElem_cons_zero]at h0;rw[h0];exact⟨r,rfl⟩
end Aw
end Go.Proofs.YtempldclppogmaaGreatDoor
