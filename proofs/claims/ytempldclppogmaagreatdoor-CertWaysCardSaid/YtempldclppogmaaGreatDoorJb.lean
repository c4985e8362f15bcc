/- slices.Collect(slices.Values(s)) as a contract over logical values. -/
import Derived.Test.YtempldclppogmaaGreatDoorJa
import Derived.Test.YtempldclppogmaaGreatDoorAwX
import Derived.Test.YtempldclppogmaaGreatDoorAwSet
import Derived.Test.YtempldclppogmaaGreatDoorAwFn
import Derived.Test.YtempldclppogmaaGreatDoorAwShp
set_option linter.unusedVariables false
set_option linter.unusedSimpArgs false
namespace Go.Proofs.YtempldclppogmaaGreatDoor.Aw
open Go Go.RowKit
theorem rF{w w':World}(g:G)(h:Below w.heap.size w w'):Ext w g w' g:=
 ⟨h.os,h.tape,h.output,h.size,Nat.le_refl _,fun _ _=>rfl,fun _ _=>rfl,fun _ _=>rfl,fun b hb hn=>⟨hn,h.block b hb⟩,fun b k hb hk=>⟨k,hk,Nat.le_refl _,fun o _=>World.cell?_of_block (w:=w) (h.block b hb)⟩⟩
theorem aAF{w w':World}{g:G}{st:St}(hi:Inv w g st)(h:Below w.heap.size w w'):Inv w' g st:=by
 have he':=rF g h
 refine⟨hi.next,hi.pos,hi.fresh,fun l hl=>Nat.lt_of_lt_of_le (hi.lt l hl) h.size,hi.inj,?_,?_,?_,?_,hi.aside.keep he' fun _ _=>rfl⟩
 ·intro l e s n hl
  obtain⟨h1,h2,h3,h4⟩:=hi.own l e s n hl
  refine⟨h1,h2,h3,fun hnl=>?_⟩
  obtain⟨cur,k1,k2,k3⟩:=h4 hnl
  exact⟨cur,by rw[h.block _ (Array.getElem?_eq_some_iff.1 k1).1];exact k1,k2,k3⟩
 ·intro l e s cs hl
  obtain⟨h1,h2,h3⟩:=hi.box l e s cs hl
  refine⟨h1,h2,fun hnl=>?_⟩
  obtain⟨cur,k1,k2,k3,k4,k5⟩:=h3 hnl
  exact⟨cur,by rw[h.block _ (Array.getElem?_eq_some_iff.1 k1).1];exact k1,k2,k3,aH.mono he' _ _ k4,k5⟩
 ·intro l ag ks es hl
  have hm:=hi.mp l ag ks es hl
  exact hm.keep he' (hi.map_lt hl) (h.block _ hm.blk_lt) rfl
 ·intro l e n hl
  have hm:=hi.qu l e n hl
  exact hm.keep he' (hi.que_lt hl) (h.block _ hm.blk_lt) rfl
theorem rH{w w':World}{g:G}{st:St}(hi:Inv w g st)(h:Below w.heap.size w w'){e:TypeId}{v:Value}{zs:List Value}{cs:List LV}(hrow:w'.ownsRow w.heap.size e 1 v zs.length zs)(hr:∀ w g,aH w g cs zs):
 ∃ g',Rep w' g' (.ms st.next 0 zs.length) v∧Inv w' g' (st.new (.box e 1 cs))∧Ext w g w' g':=by
 have hi':=aAF hi h
 have hcl:cs.length=zs.length:=aM _ _ (hr w g)
 rcases hrow.2 with⟨rfl,hn⟩|⟨b,cap,cur,rfl,hb,hcur,h1,h2,h3,h4⟩
 ·have hcs:cs=[]:=List.eq_nil_of_length_eq_zero (by omega)
  subst hcs
  refine⟨g.addNil,?_,fN hi' _ (.inr ⟨_,_,rfl⟩),(rF g h).trans (ext_nil w' g)⟩
  simp only[Rep,hn]
  exact⟨none,0,rfl,Nat.le_refl _,Nat.zero_le _,by simp[G.addNil,hi.next],by simp,by simp[G.addNil,hi.next]⟩
 ·have hnx:=hi.next
  have hext:Ext w g w' (g.add b 0 cap false):=by
   refine⟨h.os,h.tape,h.output,h.size,Nat.le_succ _,?_,?_,?_,?_,?_⟩
   ·intro l hl;simp[G.add,Nat.ne_of_lt hl]
   ·intro l hl;simp[G.add,Nat.ne_of_lt hl]
   ·intro l hl;simp[G.add,Nat.ne_of_lt hl]
   ·intro x hx hn;exact⟨by simp only[G.add];rw[if_neg (by omega)];exact hn,h.block x hx⟩
   ·intro x k hx hk;exact⟨k,by simp only[G.add];rw[if_neg (by omega)];exact hk,Nat.le_refl _,fun o _=>World.cell?_of_block (w:=w) (h.block x hx)⟩
  have hold:∀ l,blk g st l→g.β l≠b:=fun l hl=>by have:=hi.lt l hl;omega
  have hblt:b<w'.heap.size:=(Array.getElem?_eq_some_iff.1 hcur).1
  refine⟨g.add b 0 cap false,?_,?_,hext⟩
  ·simp only[Rep,G.add,hnx,if_pos]
   exact⟨_,cap,rfl,h1,h2,fun _=>⟨rfl,fun _=>rfl⟩,fun _=>rfl,Nat.lt_succ_self _⟩
  ·refine⟨by simp[G.add,St.new,hnx],by simp[St.new],?_,?_,?_,?_,?_,?_,?_,hi.aside.keep hext (kH rfl)⟩
   ·intro l hl
    simp only[St.new]at hl ⊢
    rw[if_neg (by omega)]
    exact hi.fresh l (by omega)
   ·intro l hl
    by_cases e0:l=st.next
    ·subst e0;simp[G.add,hnx,hblt]
    ·rw[bZ hnx e0]at hl
     have:=hi'.lt l hl
     simp only[G.add,hnx,if_neg e0];exact this
   ·intro l l' hl hl' hbb
    by_cases e0:l=st.next<;>by_cases e1:l'=st.next
    ·omega
    ·rw[bZ hnx e1]at hl'
     simp only[G.add,hnx,if_pos e0,if_neg e1]at hbb
     exact absurd hbb.symm (hold l' hl')
    ·rw[bZ hnx e0]at hl
     simp only[G.add,hnx,if_pos e1,if_neg e0]at hbb
     exact absurd hbb (hold l hl)
    ·rw[bZ hnx e0]at hl
     rw[bZ hnx e1]at hl'
     simp only[G.add,hnx,if_neg e1,if_neg e0]at hbb
     exact hi.inj l l' hl hl' hbb
   ·intro l e' s n hl
    by_cases e0:l=st.next
    ·simp[St.new,e0]at hl
    ·simp only[St.new,if_neg e0]at hl
     obtain⟨q1,q2,q3,q4⟩:=hi'.own l e' s n hl
     simp only[G.add,hnx,if_neg e0]
     refine⟨q1,q2,q3,fun hnl=>?_⟩
     obtain⟨c',k1,k2,k3⟩:=q4 hnl
     have hne:=hold l (by unfold blk;rw[hl];exact hnl)
     exact⟨c',k1,k2,by rw[if_neg hne];exact k3⟩
   ·intro l e' s' cs' hl
    by_cases e0:l=st.next
    ·simp only[St.new,if_pos e0]at hl
     injection hl with a1 a2 a3
     subst a1 a2 a3
     refine⟨?_,?_,fun _=>⟨cur.toList,?_,?_,?_,?_,?_⟩⟩
     ·simp only[G.add,hnx,if_pos e0];exact h2
     ·simp[G.add,hnx,e0]
     ·simp only[G.add,hnx,if_pos e0];simpa using hcur
     ·simp only[G.add,hnx,if_pos e0];simpa using h3
     ·simp only[Array.length_toList];omega
     ·have:cur.toList.take cs.length=zs:=by rw[hcl];simpa using h4
      rw[this];exact hr _ _
     ·simp[G.add,hnx,e0]
    ·simp only[St.new,if_neg e0]at hl
     obtain⟨k3,k0,k'⟩:=hi'.box l e' s' cs' hl
     refine⟨?_,?_,fun hnl=>?_⟩
     ·simp only[G.add,hnx,if_neg e0];exact k3
     ·simp only[G.add,hnx,if_neg e0];exact k0
     simp only[G.add,hnx,if_neg e0]at hnl
     obtain⟨cur',k1,k2,k4,k5,k6⟩:=k' hnl
     have hne:=hold l (by unfold blk;rw[hl];exact hnl)
     obtain⟨_,_,k'⟩:=hi.box l e' s' cs' hl
     obtain⟨cur2,m1,m2,m4,m5,m6⟩:=k' hnl
     have hlt:=(Array.getElem?_eq_some_iff.1 m1).1
     refine⟨cur2,?_,?_,m4,aH.mono hext _ _ m5,?_⟩
     ·simp only[G.add,hnx,if_neg e0];rw[h.block _ hlt];exact m1
     ·simp only[G.add,hnx,if_neg e0];exact m2
     ·simp only[G.add,hnx,if_neg e0];rw[if_neg hne];exact m6
   ·intro l ag ks es hl
    by_cases e0:l=st.next
    ·simp[St.new,e0]at hl
    ·simp only[St.new,if_neg e0]at hl
     have hm:=hi.mp l ag ks es hl
     exact hm.keep hext (hi.map_lt hl) (h.block _ hm.blk_lt) (by simp only[G.add];rw[if_neg (hold l (hi.map_blk hl))])
   ·intro l e' n hl
    by_cases e0:l=st.next
    ·simp[St.new,e0]at hl
    ·simp only[St.new,if_neg e0]at hl
     have hm:=hi.qu l e' n hl
     exact hm.keep hext (hi.que_lt hl) (h.block _ hm.blk_lt) (by simp only[G.add];rw[if_neg (hold l (hi.que_blk hl))])
theorem uK(w:World)(g:G):∀ l:List Int,aH w g (us l) (l.map (Value.int .u32))
 |[]=>by simp[aH]
 |a::l=>by simp only[List.map_cons,aH,Rep];exact⟨_,_,rfl,rfl,uK w g l⟩
theorem aFq{w:World}{g:G}:∀(l:List Int) (ws:List Value),aH w g (us l) ws→ws=l.map (Value.int .u32)
 |[],ws,h=>by simpa[aH]using h
 |a::l,ws,h=>by
  simp only[List.map_cons,aH,Rep]at h
  obtain⟨v,ws',rfl,rfl,h2⟩:=h
  rw[aFq l ws' h2];rfl
theorem aLV(l:List Int)(x:LV)(q:Nat)(st:St)(hl:l.length≤1048576)(hH:st.H q=.box 22 1 [x])(hx:zF tab 22 st x=some (l.length,us l)):
 aF Tryz.prog 78 [.fn (.func 140) [.pt q 0]] st fun r st'=>r=.ms st.next 0 l.length∧st'=st.new (.box 34 1 (us l)):=by
 refine⟨enters_of Tryz.func78 (by kernel_rfl) rfl,fun w g vs hi hr=>?_⟩
 simp only[aH,Rep]at hr
 obtain⟨v,_,rfl,⟨us1,rfl,v1,_,rfl,⟨rfl,hq⟩,rfl⟩,rfl⟩:=hr
 obtain⟨_,b2,b3⟩:=hi.box q _ _ _ hH
 have hnl:g.nl q=false:=by
  cases hn:g.nl q with
  |false=>rfl
  |true=>obtain⟨_,h⟩:=b2 hn;cases h
 obtain⟨cur,k1,k2,k3,k4,k5⟩:=b3 hnl
 simp only[List.length_cons,List.length_nil,Nat.zero_add,aH]at k4 k3
 obtain⟨sv,rest,hsv,hrep,_⟩:=k4
 have hc0:w.cell? ⟨g.β q,0,none⟩=some sv:=by
  rw[cell_of_row w _ _ _ _ _ k1]
  cases cur with
  |nil=>simp at k3
  |cons a cur=>simp at hsv;simp[hsv.1]
 have hI:Rg.aEu w.heap.size w sv l:=by
  obtain⟨A,cap,rfl,hrw⟩:=nD hi hx hrep
  by_cases hl0:l=[]
  ·subst hl0;exact .inl ⟨rfl,A,cap,rfl⟩
  ·obtain⟨b,o,ws,rfl,m1,m2⟩:=hrw (by cases l with|nil=>exact absurd rfl hl0|cons a l=>simp)
   have hws:=aFq l ws m1
   refine .inr ⟨b,o,cap,rfl,?_,fun j hj=>?_⟩
   ·have h0:=m2 0 (by cases l with|nil=>exact absurd rfl hl0|cons a l=>simp)
    rw[hws]at h0
    cases l with
    |nil=>exact absurd rfl hl0
    |cons a l=>exact nH (a:=⟨b,o+0,none⟩) (v:=.int .u32 a) (by simpa using h0)
   ·rw[m2 j (by simpa using hj),hws]
    simp[hj]
 refine(((Rg.aEJ Fence.wide 4 trivial trivial trivial rfl (Nat.le_refl _) (g.β q) sv l hl w (nH hc0) hc0 hI).calls room_wide)).mono ?_
 rintro e w' ⟨v,rfl,hrow,hbel⟩
 have hlen:l.length=(l.map (Value.int .u32)).length:=by simp
 rw[hlen]at hrow
 obtain⟨g',h1,h2,h3⟩:=rH (cs:=us l) hi hbel hrow (fun w g=>uK w g l)
 rw[← hlen]at h1
 exact⟨v,_,_,g',rfl,⟨rfl,rfl⟩,h1,h2,h3⟩
def aOP:gG:=fun f args st=>if f=78 then match args with
 |[.fn (.func g) [.pt q 0]]=>if g=140 then match st.H q with
    |.box e s [x]=>if e=22∧s=1 then match zF tab 22 st x with
      |some (n,ds)=>match eJ ds with
       |some (ks,ns)=>if(ks.all fun k=>decide (k=.u32))=true∧ns.length=n∧n≤1048576 then some [(.ms st.next 0 n,st.new (.box 34 1 (us ns)))]else none
       |none=>none
      |none=>none
     else none
    |_=>none
  else none
 |_=>none
 else none
theorem aDL:∀(ds:List LV) (ks:List IntKind) (ns:List Int),eJ ds=some (ks,ns)→(ks.all fun k=>decide (k=.u32))=true→ds=us ns
 |[],ks,ns,h,_=>by simp only[eJ,Option.some.injEq,Prod.mk.injEq]at h;obtain⟨rfl,rfl⟩:=h;rfl
 |c::ds,ks,ns,h,ha=>by
  cases c with
  |atom x=>
   cases x with
   |int k n=>
    simp only[eJ]at h
    cases hi:eJ ds with
    |none=>simp[hi]at h
    |some p=>
     obtain⟨ks',ns'⟩:=p
     simp only[hi,Option.some.injEq,Prod.mk.injEq]at h
     obtain⟨rfl,rfl⟩:=h
     simp only[List.all_cons,Bool.and_eq_true,decide_eq_true_eq]at ha
     obtain⟨rfl,ha⟩:=ha
     rw[aDL ds ks' ns' hi ha];rfl
   |_=>simp[eJ]at h
  |_=>simp[eJ]at h
theorem aBu:lC Tryz.prog aOP:=by
 intro f args st rs h
 unfold aOP at h
 split at h
 ·rename_i hf
  subst hf
  split at h
  ·rename_i g q
   split at h
   ·rename_i hg
    subst hg
    split at h
    ·rename_i e s x hH
     split at h
     ·rename_i hes
      obtain⟨rfl,rfl⟩:=hes
      split at h
      ·rename_i n ds hsrc
       split at h
       ·rename_i ks ns hin
        split at h
        ·rename_i hc
         obtain⟨c1,rfl,c3⟩:=hc
         injection h with h
         subst h
         have:=aDL ds ks ns hin c1
         subst this
         exact(aLV ns x q st c3 hH hsrc).mono (by rintro r st' ⟨rfl,rfl⟩;simp)
        ·cases h
       ·cases h
      ·cases h
     ·cases h
    ·cases h
   ·cases h
  ·cases h
 ·cases h
theorem aKN(st:St):aF Tryz.prog 67 [] st fun r st'=>r=bb true∧st'=st:=
 oF aK aIE aBu mixed 1000000 true (by kernel_rfl)
theorem aMt(st:St):aF Tryz.prog 68 [] st fun r st'=>r=bb true∧st'=st:=
 oF aK aIE aBu mixed 1000000 true (by kernel_rfl)
structure Mp where
 g:Gr
 rots:List (List Int)
 deriving DecidableEq
abbrev bA(rs:List (List Int)):List LV:=rs.map fun r=>.sl 0 r.length (us r)
abbrev mpL(m:Mp):List LV:=grL m.g++[.sl 0 m.rots.length (bA m.rots)]
theorem iE(rs:List (List Int))(k:Nat)(hk:k<rs.length):(bA rs).drop k=.sl 0 (rs.getD k []).length (us (rs.getD k []))::(bA rs).drop (k+1):=by
 unfold bA
 rw[List.drop_eq_getElem_cons (by simpa using hk)]
 simp[hk]
theorem cL(es:List (List Int×LV))(a x:List Int)(v:LV):aR (aS es a v) x=if x=a then some v else aR es x:=by
 induction es with
 |nil=>
  simp only[aS,aR,beq_iff_eq]
 |cons p es ih=>
  by_cases h:a=p.1
  ·have:aS (p::es) a v=(a,v)::es:=by simp[aS,h]
   rw[this]
   simp only[aR,beq_iff_eq]
   by_cases hx:x=a
   ·simp[hx]
   ·have:¬x=p.1:=by rw[← h];exact hx
    simp[hx,this]
  ·have:aS (p::es) a v=p::aS es a v:=by simp[aS,h]
   rw[this]
   simp only[aR,beq_iff_eq]
   by_cases hx:x=p.1
   ·have:¬x=a:=fun h'=>h (by rw[← h',hx])
    rw[if_pos hx,if_neg this,if_pos hx]
   ·simp[hx,ih]
end Go.Proofs.YtempldclppogmaaGreatDoor.Aw
namespace Go.Proofs.YtempldclppogmaaGreatDoor.Aw
open Go Go.RowKit Go.Proofs.YtempldclppogmaaGreatDoor.Pl
@[simp] theorem aPB(st:St)(a b:aD):(st.new a).set st.next b=st.new b:=St.ext' rfl fun y=>by by_cases hy:y=st.next<;>simp[hy]
theorem aO(l:List Ed):(eds l).length=l.length*3:=by
 induction l with
 |nil=>rfl
 |cons e l ih=>simp only[eds,List.flatMap_cons,List.length_append,List.length_cons,List.length_nil]at ih ⊢;omega
abbrev ed0:Ed:=⟨0,0,0⟩
theorem bE(l:List Ed)(k:Nat)(hk:k<l.length):(eds l).drop (k*3)=u (l.getD k ed0).id::u (l.getD k ed0).a::u (l.getD k ed0).b::eds (l.drop (k+1)):=by
 induction l generalizing k with
 |nil=>simp at hk
 |cons e l ih=>
  cases k with
  |zero=>rfl
  |succ k=>
   have:(k+1)*3=k*3+1+1+1:=by omega
   rw[this]
   simp only[eds,List.flatMap_cons,edL,List.cons_append,List.drop_succ_cons,List.nil_append,List.getD_cons_succ]
   exact ih k (by simpa using hk)
def bL(f:Nat→Int):Nat→Int
 |0=>0
 |n+1=>if bL f n≠0 then bL f n else f n
theorem eI{f:Nat→Int}{n:Nat}(h:∀ j,j<n→f j=0):bL f n=0:=by
 induction n with
 |zero=>rfl
 |succ n ih=>simp[bL,ih (fun j hj=>h j (by omega)),h n (by omega)]
theorem dY{f:Nat→Int}{n k:Nat}{v:Int}(hk:k<n)(h:∀ j,j<k→f j=0)(hv:f k=v)(h0:v≠0):bL f n=v:=by
 induction n with
 |zero=>omega
 |succ n ih=>
  rcases Nat.lt_or_ge k n with h1|h1
  ·have:=ih h1
   simp[bL,this,h0]
  ·have:k=n:=by omega
   subst this
   simp[bL,eI h,hv]
def dI(n ahead:Int)(first:Bool):Int:=if n<1∨1048576<n then 2 else if first=false∧n≤ahead then 19 else 0
def iI(g:Gr)(k:Nat):Int:=dI (g.vs.getD k 0) (g.vs.getD (k-1) 0) (decide (k=0))
def iN(g:Gr)(k:Nat):Int:=
 let x:=g.es.getD k ed0
 let n:=dI x.id (g.es.getD (k-1) ed0).id (decide (k=0))
 if n≠0 then n else if x.a=x.b then 20 else if x.a∉g.vs∨x.b∉g.vs then 21 else 0
def chk(g:Gr):Int:=if 64<g.vs.length∨160<g.es.length then 6 else if bL (iI g) g.vs.length≠0 then bL (iI g) g.vs.length else bL (iN g) g.es.length
theorem Has(g:Gr)(v:Int)(st:St)(hl:small g.vs):
 aF Tryz.prog 29 [.ag (grL g),u v] st fun r st'=>r=bb (decide (v∈g.vs))∧aB st st':=by
 obtain⟨l,es⟩:=g
 simp only at hl ⊢
 unfold small at hl
 refine qO aK Tryz.func29 rfl rfl Tryz.ntmps29 (rs:=[.tmp 4]) rfl (by simp) ?_
 (repeat' (first|refine qS ?_|refine qB ?_|(refine w_e [] ?_;intro J hJ;simp only[];simp[];(refine hJ _ _ ?_;clear hJ J;simp only[ak,reduceIte]))))
 refine qL (fun n fr st'=>∃ k:Nat,k≤l.length∧n=l.length-k∧fr 8=.sl 0 l.length (us l)∧fr 1=u v∧fr 9=i l.length∧fr 10=i k∧aB st st'∧∀ j (hj:j<l.length),j<k→l[j]≠v) l.length ?_ ?_
 ·exact⟨0,by omega,by omega,by simp,by simp,by simp,by simp,aB.new _ _,fun j _ h=>by omega⟩
 rintro n fr st' ⟨k,hk,rfl,h8,h1,h9,h10,hkp,hno⟩ JJ hJJ
 by_cases hlt:k<l.length
 ·have hd:=dN l k hlt
  have hw:=qN k (by omega)
  (repeat' (first|refine qS ?_|refine qB ?_|(refine qK ?_;simp only[ak,reduceIte])|(refine qR ?_;simp only[ak,reduceIte];simp[h8,h1,h9,h10,hlt,hd,hw])|(refine qC ?_;simp[h8,h1,h9,h10,hlt,hd,hw];(try with_reducible refine⟨?_,?_⟩)<;>(try with_reducible intro hc))|(refine w_e [] ?_;intro J hJ;simp only[];simp[h8,h1,h9,h10,hlt,hd,hw];(refine hJ _ _ ?_;clear hJ J;simp only[ak,reduceIte]))))
  ·exact⟨by rw[← hc];exact List.getElem_mem hlt,hkp⟩
  ·refine hJJ _ _ _ ?_ ⟨k+1,by omega,rfl,by simp[h8],by simp[h1],by simp[h9],by simp,hkp,fun j hj hjk=>?_⟩
   ·omega
   ·rcases Nat.lt_or_ge j k with h|h
    ·exact hno j hj h
    ·obtain rfl:j=k:=by omega
     exact hc
 ·(repeat' (first|refine qS ?_|(refine qX ?_;simp only[ak,reduceIte])|(refine qR ?_;simp only[ak,reduceIte];simp[h8,h1,h9,h10,hlt])|(refine qC ?_;simp[h8,h1,h9,h10,hlt])|(refine w_e [] ?_;intro J hJ;simp only[];simp[h8,h1,h9,h10,hlt];(refine hJ _ _ ?_;clear hJ J;simp only[ak,reduceIte]))))
  refine⟨fun hm=>?_,hkp⟩
  obtain⟨j,hj,rfl⟩:=List.getElem_of_mem hm
  exact hno j hj (by omega) rfl
theorem aLC(g:Gr)(v:Int)(st:St)(hl:small g.vs):
 aF Tryz.prog 55 [.ag (grL g),u v] st fun r st'=>r=i (gi g.vs v)∧aB st st':=by
 obtain⟨l,es⟩:=g
 simp only at hl ⊢
 refine qO aK Tryz.func55 rfl rfl Tryz.ntmps55 (rs:=[.tmp 4]) rfl (by simp) ?_
 (repeat' (first|refine qS ?_|(refine w_e [] ?_;intro J hJ;simp only[];simp[];(try (refine hJ _ _ ?_;clear hJ J;simp only[ak,reduceIte])))))
 refine qE (Index l 0 v _ hl) (by simp[]) ?_;rintro r st' ⟨rfl,rfl⟩
 (repeat' (first|(refine qR ?_;simp only[ak,reduceIte];simp[])|(refine aL ?_;simp[];(refine hJ _ _ ?_;clear hJ J;simp only[ak,reduceIte]))))
 exact aB.new _ _
theorem number(n ahead:Int)(first:Bool)(st:St):
 aF Tryz.prog 59 [u n,u ahead,bb first] st fun r st'=>r=i (dI n ahead first)∧st'=st:=by
 unfold dI
 refine qO aK Tryz.func59 rfl rfl Tryz.ntmps59 (rs:=[.tmp 6]) rfl (by simp) ?_
 by_cases h1:n<1
 ·(repeat' (first|refine qS ?_|refine qB ?_|(refine qR ?_;simp only[ak,reduceIte];simp[h1])|(refine qC ?_;simp[h1])|(refine w_e [] ?_;intro J hJ;simp only[];simp[h1];(refine hJ _ _ ?_;clear hJ J;simp only[ak,reduceIte]))))
 by_cases h2:1048576<n
 ·(repeat' (first|refine qS ?_|refine qB ?_|(refine qR ?_;simp only[ak,reduceIte];simp[h1,h2])|(refine qC ?_;simp[h1,h2])|(refine w_e [] ?_;intro J hJ;simp only[];simp[h1,h2];(refine hJ _ _ ?_;clear hJ J;simp only[ak,reduceIte]))))
 cases first
 ·by_cases h3:n≤ahead
  ·(repeat' (first|refine qS ?_|refine qB ?_|(refine qR ?_;simp only[ak,reduceIte];simp[h1,h2,h3])|(refine qC ?_;simp[h1,h2,h3])|(refine w_e [] ?_;intro J hJ;simp only[];simp[h1,h2,h3];(refine hJ _ _ ?_;clear hJ J;simp only[ak,reduceIte]))))
  ·(repeat' (first|refine qS ?_|refine qB ?_|(refine qK ?_;simp only[ak,reduceIte])|(refine qR ?_;simp only[ak,reduceIte];simp[h1,h2,h3])|(refine qC ?_;simp[h1,h2,h3])|(refine w_e [] ?_;intro J hJ;simp only[];simp[h1,h2,h3];(refine hJ _ _ ?_;clear hJ J;simp only[ak,reduceIte]))))
 ·(repeat' (first|refine qS ?_|refine qB ?_|(refine qK ?_;simp only[ak,reduceIte])|(refine qR ?_;simp only[ak,reduceIte];simp[h1,h2])|(refine qC ?_;simp[h1,h2])|(refine w_e [] ?_;intro J hJ;simp only[];simp[h1,h2];(refine hJ _ _ ?_;clear hJ J;simp only[ak,reduceIte]))))
theorem Check(g:Gr)(st:St)(hv:g.vs.length≤1000)(he:g.es.length≤1000):
 aF Tryz.prog 30 [.ag (grL g)] st fun r st'=>r=i (chk g)∧aB st st':=by
 have hsm:small g.vs:=by unfold small;omega
 refine qO aK Tryz.func30 rfl rfl Tryz.ntmps30 (rs:=[.tmp 2]) rfl (by simp) ?_
 by_cases h1:(64:Int)<(g.vs.length:Int)
 ·have:chk g=6:=by unfold chk;rw[if_pos (by omega)]
  (repeat' (first|refine qS ?_|(refine qR ?_;simp only[ak,reduceIte];simp[h1,this])|(refine qC ?_;simp[h1,this])|(refine w_e [] ?_;intro J hJ;simp only[];simp[h1,this];(refine hJ _ _ ?_;clear hJ J;simp only[ak,reduceIte]))))
  exact aB.new _ _
 by_cases h2:(160:Int)<(g.es.length:Int)
 ·have:chk g=6:=by unfold chk;rw[if_pos (by omega)]
  (repeat' (first|refine qS ?_|(refine qR ?_;simp only[ak,reduceIte];simp[h1,h2,this])|(refine qC ?_;simp[h1,h2,this])|(refine w_e [] ?_;intro J hJ;simp only[];simp[h1,h2,this];(refine hJ _ _ ?_;clear hJ J;simp only[ak,reduceIte]))))
  exact aB.new _ _
 have hch:chk g=if bL (iI g) g.vs.length≠0 then bL (iI g) g.vs.length else bL (iN g) g.es.length:=by unfold chk;rw[if_neg (by omega)]
 (repeat' (first|refine qS ?_|refine qB ?_|(refine qK ?_;simp only[ak,reduceIte])|(refine qC ?_;simp[h1,h2])|(refine w_e [] ?_;intro J hJ;simp only[];simp[h1,h2];(refine hJ _ _ ?_;clear hJ J;simp only[ak,reduceIte]))))
 refine qL (fun n fr st'=>∃ k:Nat,k≤g.vs.length∧n=g.vs.length-k∧fr 1=.pt st.next 0∧fr 21=.sl 0 g.vs.length (us g.vs)∧fr 22=i g.vs.length∧fr 23=i k∧fr 3=u (if k=0 then 0 else g.vs.getD (k-1) 0)∧st'=st.new (.box 25 2 (grL g))∧∀ j,j<k→iI g j=0) g.vs.length ?_ ?_
 ·exact⟨0,by omega,by omega,by simp,by simp,by simp,by simp,by simp,rfl,fun j h=>by omega⟩
 rintro n fr st' ⟨k,hk,rfl,f1,f21,f22,f23,f3,rfl,hno⟩ JJ hJJ
 by_cases hlt:k<g.vs.length
 ·have hd:=qG g.vs k hlt
  have hw:=qN k (by omega)
  have hbad:iI g k=dI (g.vs.getD k 0) (if k=0 then 0 else g.vs.getD (k-1) 0) (decide (k=0)):=by
   unfold iI
   by_cases h0:k=0
   ·subst h0;simp[dI]
   ·simp[h0]
  generalize hy:(if k=0 then(0:Int)else g.vs.getD (k-1) 0)=y at *
  generalize hx:g.vs.getD k 0=x at *
  have hk0:((k:Int)==0)=decide (k=0):=by by_cases h0:k=0<;>simp[h0]
  (repeat' (first|refine qS ?_|refine qB ?_|(refine qK ?_;simp only[ak,reduceIte])|(refine qC ?_;simp[f1,f21,f22,f23,f3,hlt,hd,hw,hk0])|(refine w_e [] ?_;intro J hJ;simp only[];simp[f1,f21,f22,f23,f3,hlt,hd,hw,hk0];(try (refine hJ _ _ ?_;clear hJ J;simp only[ak,reduceIte])))))
  refine qE (number x y (decide (k=0)) _) (by simp[]) ?_;rintro r st' ⟨rfl,rfl⟩
  rw[← hbad]
  by_cases hb:iI g k=0
  ·(repeat' (first|refine qS ?_|(refine qK ?_;simp only[ak,reduceIte])|(refine qC ?_;simp[f23,hw,hb])|((first|(refine w_e [] ?_;intro J hJ;simp only[])|(refine aL ?_));simp[f23,hw,hb];(refine hJ _ _ ?_;clear hJ J;simp only[ak,reduceIte]))))
   refine hJJ _ _ _ ?_ ⟨k+1,by omega,rfl,by simp[f1],by simp[f21],by simp[f22],by simp,by rw[if_neg (by omega),Nat.add_sub_cancel,hx];simp,rfl,fun j hj=>?_⟩
   ·omega
   ·rcases Nat.lt_or_ge j k with h|h
    ·exact hno j h
    ·obtain rfl:j=k:=by omega
     exact hb
  ·have hf:=dY hlt hno rfl hb
   have hr:chk g=iI g k:=by rw[hch,hf,if_pos hb]
   (repeat' (first|refine qS ?_|(refine qR ?_;simp only[ak,reduceIte];simp[hb])|(refine qC ?_;simp[hb])|((first|(refine w_e [] ?_;intro J hJ;simp only[])|(refine aL ?_));simp[hb];(refine hJ _ _ ?_;clear hJ J;simp only[ak,reduceIte]))))
   exact⟨hr.symm,aB.new _ _⟩
 have hk':k=g.vs.length:=by omega
 have hz:bL (iI g) g.vs.length=0:=eI (fun j hj=>hno j (by omega))
 rw[hz]at hch
 simp only[ne_eq,not_true_eq_false,if_false]at hch
 clear hJJ hno hz
 have hel:=aO g.es
 generalize hy:(if k=0 then(0:Int)else g.vs.getD (k-1) 0)=y at *
 (repeat' (first|refine qS ?_|refine qB ?_|(refine qX ?_;simp only[ak,reduceIte])|(refine qC ?_;simp[f1,f21,f22,f23,f3,hlt])|(refine w_e [] ?_;intro J hJ;simp only[];simp[f1,f21,f22,f23,f3,hlt];(refine hJ _ _ ?_;clear hJ J;simp only[ak,reduceIte]))))
 refine qL (fun n fr st'=>∃ k:Nat,k≤g.es.length∧n=g.es.length-k∧fr 1=.pt st.next 0∧fr 39=.sl 0 g.es.length (eds g.es)∧fr 40=i g.es.length∧fr 41=i k∧(∃ z,fr 3=u z∧(k≠0→z=(g.es.getD (k-1) ed0).id))∧aB (st.new (.box 25 2 (grL g))) st'∧∀ j,j<k→iN g j=0) g.es.length ?_ ?_
 ·exact⟨0,by omega,by omega,by simp[f1],by simp,by simp,by simp,⟨y,by simp[f3],by simp⟩,aB.refl _,fun j h=>by omega⟩
 clear f1 f21 f22 f23 f3 hlt hk' hk hy y fr k
 rintro n fr st1 ⟨k,hk,rfl,f1,f39,f40,f41,⟨z,f3,hz⟩,hkp,hno⟩ JJ hJJ
 have hgH:st1.H st.next=.box 25 2 (grL g):=by rw[hkp.H _ (by simp)];simp
 have hnx:¬st.next=st1.next:=by have:=hkp.next;simp only[aA]at this;omega
 have hkp0:=(aB.new st (.box 25 2 (grL g))).trans hkp
 by_cases hlt:k<g.es.length
 ·have hd:=bE g.es k hlt
  have hw:=qN k (by omega)
  have hk3:k*3<g.es.length*3:=by omega
  have hk30:k*3+3≤g.es.length*3:=by omega
  have hbad:iN g k=(let x:=g.es.getD k ed0;let n:=dI x.id z (decide (k=0));if n≠0 then n else if x.a=x.b then 20 else if x.a∉g.vs∨x.b∉g.vs then 21 else 0):=by
   unfold iN
   by_cases h0:k=0
   ·subst h0;simp[dI]
   ·rw[hz h0]
  generalize hx:g.es.getD k ed0=x at *
  obtain⟨xi,xa,xb⟩:=x
  simp only at hd hbad
  have hk0:((k:Int)==0)=decide (k=0):=by by_cases h0:k=0<;>simp[h0]
  (repeat' (first|refine qS ?_|refine qB ?_|(refine qK ?_;simp only[ak,reduceIte])|(refine qC ?_;simp[f1,f39,f40,f41,f3,hlt,hd,hw,hk0,hel,hk3,hgH,hnx])|(refine w_e [] ?_;intro J hJ;simp only[];simp[f1,f39,f40,f41,f3,hlt,hd,hw,hk0,hel,hk3,hgH,hnx];(try (refine hJ _ _ ?_;clear hJ J;simp only[ak,reduceIte])))))
  refine qE (number xi z (decide (k=0)) _) (by simp[]) ?_;rintro r st' ⟨rfl,rfl⟩
  by_cases hb:dI xi z (decide (k=0))=0
  rotate_left
  ·have hb':iN g k=dI xi z (decide (k=0)):=by rw[hbad,if_pos hb]
   have hr:chk g=dI xi z (decide (k=0)):=by rw[hch];exact dY hlt hno hb' hb
   (repeat' (first|refine qS ?_|(refine qR ?_;simp only[ak,reduceIte];simp[hb])|(refine qC ?_;simp[hb])|((first|(refine w_e [] ?_;intro J hJ;simp only[])|(refine aL ?_));simp[hb];(refine hJ _ _ ?_;clear hJ J;simp only[ak,reduceIte]))))
   exact⟨hr.symm,hkp0.trans (aB.new _ _)⟩
  rw[if_neg (by simp[hb])]at hbad
  by_cases hab:xa=xb
  ·have hb':iN g k=20:=by rw[hbad,if_pos hab]
   have hr:chk g=20:=by rw[hch];exact dY hlt hno hb' (by decide)
   (repeat' (first|refine qS ?_|(refine qK ?_;simp only[ak,reduceIte])|(refine qR ?_;simp only[ak,reduceIte];simp[hb,hab,hr])|(refine qC ?_;simp[hb,hab,hr])|((first|(refine w_e [] ?_;intro J hJ;simp only[])|(refine aL ?_));simp[hb,hab,hr];(refine hJ _ _ ?_;clear hJ J;simp only[ak,reduceIte]))))
   exact hkp0.trans (aB.new _ _)
  rw[if_neg hab]at hbad
  (repeat' (first|refine qS ?_|(refine qK ?_;simp only[ak,reduceIte])|(refine qC ?_;simp[hb,hab,f1,hnx,hgH])|((first|(refine w_e [] ?_;intro J hJ;simp only[])|(refine aL ?_));simp[hb,hab,f1,hnx,hgH];(try (refine hJ _ _ ?_;clear hJ J;simp only[ak,reduceIte])))))
  refine qE (aLC g xa _ hsm) (by simp[]) ?_;rintro r st' ⟨rfl,hk1⟩
  have hB1:st'.H st1.next=.box 56 3 [u xi,u xa,u xb]:=by rw[hk1.H _ (by simp)];simp
  have hgH1:st'.H st.next=.box 25 2 (grL g):=by
   rw[hk1.H _ (by have:=hkp.next;simp only[aA]at this ⊢;omega),aG,if_neg hnx];exact hgH
  have hkp1:=(hkp.trans (aB.new _ _)).trans hk1
  have hkp01:=(hkp0.trans (aB.new _ _)).trans hk1
  by_cases hma:xa∈g.vs
  rotate_left
  ·rw[aIm hma]
   have hb':iN g k=21:=by rw[hbad,if_pos (.inl hma)]
   have hr:chk g=21:=by rw[hch];exact dY hlt hno hb' (by decide)
   (repeat' (first|refine qS ?_|(refine qR ?_;simp only[ak,reduceIte];simp[f1,hB1,hgH1,hr])|(refine qC ?_;simp[f1,hB1,hgH1,hr])|((first|(refine w_e [] ?_;intro J hJ;simp only[])|(refine aL ?_));simp[f1,hB1,hgH1,hr];(refine hJ _ _ ?_;clear hJ J;simp only[ak,reduceIte]))))
   exact hkp01
  rw[aBH hma]
  have hn0:¬((g.vs.idxOf xa:Nat):Int)<0:=by omega
  (refine aL ?_;simp[f1,hB1,hgH1,hn0])
  refine qE (aLC g xb _ hsm) (by simp[]) ?_;rintro r st' ⟨rfl,hk2⟩
  by_cases hmb:xb∈g.vs
  rotate_left
  ·rw[aIm hmb]
   have hb':iN g k=21:=by rw[hbad,if_pos (.inr hmb)]
   have hr:chk g=21:=by rw[hch];exact dY hlt hno hb' (by decide)
   (repeat' (first|refine qS ?_|(refine qR ?_;simp only[ak,reduceIte];simp[hr])|(refine qC ?_;simp[hr])|((first|(refine w_e [] ?_;intro J hJ;simp only[])|(refine aL ?_));simp[hr];(refine hJ _ _ ?_;clear hJ J;simp only[ak,reduceIte]))))
   exact hkp01.trans hk2
  rw[aBH hmb]
  have hn1:¬((g.vs.idxOf xb:Nat):Int)<0:=by omega
  have hb':iN g k=0:=by rw[hbad,if_neg (by simp[hma,hmb])]
  (repeat' (first|(refine qK ?_;simp only[ak,reduceIte])|(refine qC ?_;simp[f41,hw,hn1])|((first|(refine w_e [] ?_;intro J hJ;simp only[])|(refine aL ?_));simp[f41,hw,hn1];(refine hJ _ _ ?_;clear hJ J;simp only[ak,reduceIte]))))
  refine hJJ _ _ _ ?_ ⟨k+1,by omega,rfl,by simp[f1],by simp[f39],by simp[f40],by simp,⟨xi,by simp,fun _=>by rw[Nat.add_sub_cancel,hx]⟩,hkp1.trans hk2,fun j hj=>?_⟩
  ·omega
  ·rcases Nat.lt_or_ge j k with h|h
   ·exact hno j h
   ·obtain rfl:j=k:=by omega
    exact hb'
 ·have hr:chk g=0:=by rw[hch];exact eI (fun j hj=>hno j (by omega))
  clear hJJ
  (repeat' (first|refine qS ?_|(refine qX ?_;simp only[ak,reduceIte])|(refine qR ?_;simp only[ak,reduceIte];simp[f1,f39,f40,f41,f3,hlt,hr])|(refine qC ?_;simp[f1,f39,f40,f41,f3,hlt,hr])|(refine w_e [] ?_;intro J hJ;simp only[];simp[f1,f39,f40,f41,f3,hlt,hr];(refine hJ _ _ ?_;clear hJ J;simp only[ak,reduceIte]))))
  exact hkp0
theorem aHr(g:Gr)(st:St)(hv:g.vs.length≤1000)(he:g.es.length≤1000):
 aF Tryz.prog 8 [.ag (grL g)] st fun r st'=>r=i (chk g)∧aB st st':=by
 have hsm:small g.vs:=by unfold small;omega
 refine qO aK Tryz.func8 rfl rfl Tryz.ntmps8 (rs:=[.tmp 2]) rfl (by simp) ?_
 by_cases h1:(64:Int)<(g.vs.length:Int)
 ·have:chk g=6:=by unfold chk;rw[if_pos (by omega)]
  (repeat' (first|refine qS ?_|(refine qR ?_;simp only[ak,reduceIte];simp[h1,this])|(refine qC ?_;simp[h1,this])|(refine w_e [] ?_;intro J hJ;simp only[];simp[h1,this];(refine hJ _ _ ?_;clear hJ J;simp only[ak,reduceIte]))))
  exact aB.new _ _
 by_cases h2:(160:Int)<(g.es.length:Int)
 ·have:chk g=6:=by unfold chk;rw[if_pos (by omega)]
  (repeat' (first|refine qS ?_|(refine qR ?_;simp only[ak,reduceIte];simp[h1,h2,this])|(refine qC ?_;simp[h1,h2,this])|(refine w_e [] ?_;intro J hJ;simp only[];simp[h1,h2,this];(refine hJ _ _ ?_;clear hJ J;simp only[ak,reduceIte]))))
  exact aB.new _ _
 have hch:chk g=if bL (iI g) g.vs.length≠0 then bL (iI g) g.vs.length else bL (iN g) g.es.length:=by unfold chk;rw[if_neg (by omega)]
 (repeat' (first|refine qS ?_|refine qB ?_|(refine qK ?_;simp only[ak,reduceIte])|(refine qC ?_;simp[h1,h2])|(refine w_e [] ?_;intro J hJ;simp only[];simp[h1,h2];(refine hJ _ _ ?_;clear hJ J;simp only[ak,reduceIte]))))
 refine qL (fun n fr st'=>∃ k:Nat,k≤g.vs.length∧n=g.vs.length-k∧fr 1=.pt st.next 0∧fr 18=.sl 0 g.vs.length (us g.vs)∧fr 19=i g.vs.length∧fr 20=i k∧st'=st.new (.box 25 2 (grL g))∧∀ j,j<k→iI g j=0) g.vs.length ?_ ?_
 ·exact⟨0,by omega,by omega,by simp,by simp,by simp,by simp,rfl,fun j h=>by omega⟩
 rintro n fr st' ⟨k,hk,rfl,f1,f18,f19,f20,rfl,hno⟩ JJ hJJ
 by_cases hlt:k<g.vs.length
 ·have hd:=qG g.vs k hlt
  have hw:=qN k (by omega)
  have hbad:iI g k=dI (g.vs.getD k 0) (g.vs.getD (k-1) 0) (decide (k=0)):=rfl
  have hnext:iI g k=0→∀ j,j<k+1→iI g j=0:=fun hb j hj=>by
   rcases Nat.lt_or_ge j k with h|h
   ·exact hno j h
   ·obtain rfl:j=k:=by omega
    exact hb
  have hret:∀ v,iI g k=v→v≠0→chk g=v:=fun v h0 h1=>by
   have hf:=dY hlt hno h0 h1
   rw[hch,hf,if_pos h1]
  generalize hx:g.vs.getD k 0=x at *
  by_cases hx1:x<1
  ·have hr:=hret 2 (by rw[hbad];unfold dI;rw[if_pos (.inl hx1)]) (by decide)
   (repeat' (first|refine qS ?_|refine qB ?_|(refine qK ?_;simp only[ak,reduceIte])|(refine qR ?_;simp only[ak,reduceIte];simp[f1,f18,f19,f20,hlt,hd,hw,hx1,hr])|(refine qC ?_;simp[f1,f18,f19,f20,hlt,hd,hw,hx1,hr])|(refine w_e [] ?_;intro J hJ;simp only[];simp[f1,f18,f19,f20,hlt,hd,hw,hx1,hr];(refine hJ _ _ ?_;clear hJ J;simp only[ak,reduceIte]))))
   exact aB.new _ _
  by_cases hx2:1048576<x
  ·have hr:=hret 2 (by rw[hbad];unfold dI;rw[if_pos (.inr hx2)]) (by decide)
   (repeat' (first|refine qS ?_|refine qB ?_|(refine qK ?_;simp only[ak,reduceIte])|(refine qR ?_;simp only[ak,reduceIte];simp[f1,f18,f19,f20,hlt,hd,hw,hx1,hx2,hr])|(refine qC ?_;simp[f1,f18,f19,f20,hlt,hd,hw,hx1,hx2,hr])|(refine w_e [] ?_;intro J hJ;simp only[];simp[f1,f18,f19,f20,hlt,hd,hw,hx1,hx2,hr];(refine hJ _ _ ?_;clear hJ J;simp only[ak,reduceIte]))))
   exact aB.new _ _
  by_cases h0:k=0
  ·have hb:iI g k=0:=by rw[hbad];unfold dI;rw[if_neg (by simp[hx1,hx2])];simp[h0]
   have hk0:¬0<k:=by omega
   (repeat' (first|refine qS ?_|refine qB ?_|(refine qK ?_;simp only[ak,reduceIte])|(refine qC ?_;simp[f1,f18,f19,f20,hlt,hd,hw,hx1,hx2,hk0])|(refine w_e [] ?_;intro J hJ;simp only[];simp[f1,f18,f19,f20,hlt,hd,hw,hx1,hx2,hk0];(refine hJ _ _ ?_;clear hJ J;simp only[ak,reduceIte]))))
   refine hJJ _ _ _ ?_ ⟨k+1,by omega,rfl,by simp[f1],by simp[f18],by simp[f19],by simp,rfl,hnext hb⟩
   omega
  ·have hk0:0<k:=by omega
   have hw1:IntKind.i64.wrap ((k:Int)-1)=((k-1:Nat):Int):=by rw[wrap_i64 _ (by omega) (by omega)];omega
   have hd1:=qG g.vs (k-1) (by omega)
   have hlt1:k-1<g.vs.length:=by omega
   generalize hy:g.vs.getD (k-1) 0=y at *
   by_cases hle:x≤y
   ·have hr:=hret 19 (by rw[hbad];unfold dI;rw[if_neg (by simp[hx1,hx2]),if_pos ⟨by simp[h0],hle⟩]) (by decide)
    (repeat' (first|refine qS ?_|refine qB ?_|(refine qK ?_;simp only[ak,reduceIte])|(refine qR ?_;simp only[ak,reduceIte];simp[f1,f18,f19,f20,hlt,hd,hw,hx1,hx2,hk0,hw1,hd1,hlt1,hle,hr])|(refine qC ?_;simp[f1,f18,f19,f20,hlt,hd,hw,hx1,hx2,hk0,hw1,hd1,hlt1,hle,hr])|(refine w_e [] ?_;intro J hJ;simp only[];simp[f1,f18,f19,f20,hlt,hd,hw,hx1,hx2,hk0,hw1,hd1,hlt1,hle,hr];(refine hJ _ _ ?_;clear hJ J;simp only[ak,reduceIte]))))
    exact aB.new _ _
   ·have hb:iI g k=0:=by rw[hbad];unfold dI;rw[if_neg (by simp[hx1,hx2]),if_neg (by simp[hle])]
    (repeat' (first|refine qS ?_|refine qB ?_|(refine qK ?_;simp only[ak,reduceIte])|(refine qC ?_;simp[f1,f18,f19,f20,hlt,hd,hw,hx1,hx2,hk0,hw1,hd1,hlt1,hle])|(refine w_e [] ?_;intro J hJ;simp only[];simp[f1,f18,f19,f20,hlt,hd,hw,hx1,hx2,hk0,hw1,hd1,hlt1,hle];(refine hJ _ _ ?_;clear hJ J;simp only[ak,reduceIte]))))
    refine hJJ _ _ _ ?_ ⟨k+1,by omega,rfl,by simp[f1],by simp[f18],by simp[f19],by simp,rfl,hnext hb⟩
    omega
 have hk':k=g.vs.length:=by omega
 have hz:bL (iI g) g.vs.length=0:=eI (fun j hj=>hno j (by omega))
 rw[hz]at hch
 simp only[ne_eq,not_true_eq_false,if_false]at hch
 clear hJJ hno hz
 have hel:=aO g.es
 (repeat' (first|refine qS ?_|refine qB ?_|(refine qX ?_;simp only[ak,reduceIte])|(refine qC ?_;simp[f1,f18,f19,f20,hlt])|(refine w_e [] ?_;intro J hJ;simp only[];simp[f1,f18,f19,f20,hlt];(refine hJ _ _ ?_;clear hJ J;simp only[ak,reduceIte]))))
 refine qL (fun n fr st'=>∃ k:Nat,k≤g.es.length∧n=g.es.length-k∧fr 1=.pt st.next 0∧fr 45=.sl 0 g.es.length (eds g.es)∧fr 46=i g.es.length∧fr 47=i k∧aB (st.new (.box 25 2 (grL g))) st'∧∀ j,j<k→iN g j=0) g.es.length ?_ ?_
 ·exact⟨0,by omega,by omega,by simp[f1],by simp,by simp,by simp,aB.refl _,fun j h=>by omega⟩
 clear f1 f18 f19 f20 hlt hk' hk fr k
 rintro n fr st1 ⟨k,hk,rfl,f1,f45,f46,f47,hkp,hno⟩ JJ hJJ
 have hgH:st1.H st.next=.box 25 2 (grL g):=by rw[hkp.H _ (by simp)];simp
 have hnx:¬st.next=st1.next:=by have:=hkp.next;simp only[aA]at this;omega
 have hkp0:=(aB.new st (.box 25 2 (grL g))).trans hkp
 by_cases hlt:k<g.es.length
 ·have hd:=bE g.es k hlt
  have hw:=qN k (by omega)
  have hk3:k*3<g.es.length*3:=by omega
  have hbad:iN g k=(let x:=g.es.getD k ed0;let n:=dI x.id (g.es.getD (k-1) ed0).id (decide (k=0));if n≠0 then n else if x.a=x.b then 20 else if x.a∉g.vs∨x.b∉g.vs then 21 else 0):=rfl
  have hnext:iN g k=0→∀ j,j<k+1→iN g j=0:=fun hb j hj=>by
   rcases Nat.lt_or_ge j k with h|h
   ·exact hno j h
   ·obtain rfl:j=k:=by omega
    exact hb
  have hret:∀ v,iN g k=v→v≠0→chk g=v:=fun v h0 h1=>by
   rw[hch];exact dY hlt hno h0 h1
  generalize hx:g.es.getD k ed0=x at *
  obtain⟨xi,xa,xb⟩:=x
  simp only at hd hbad
  have hkn:=hkp0.trans (aB.new _ (.box 56 3 [u xi,u xa,u xb]))
  by_cases hx1:xi<1
  ·have hn:dI xi (g.es.getD (k-1) ed0).id (decide (k=0))=2:=by unfold dI;rw[if_pos (.inl hx1)]
   have hr:=hret 2 (by rw[hbad,hn];rfl) (by decide)
   (repeat' (first|refine qS ?_|refine qB ?_|(refine qK ?_;simp only[ak,reduceIte])|(refine qR ?_;simp only[ak,reduceIte];simp[f1,f45,f46,f47,hlt,hd,hw,hel,hk3,hgH,hnx,hx1,hr])|(refine qC ?_;simp[f1,f45,f46,f47,hlt,hd,hw,hel,hk3,hgH,hnx,hx1,hr])|(refine w_e [] ?_;intro J hJ;simp only[];simp[f1,f45,f46,f47,hlt,hd,hw,hel,hk3,hgH,hnx,hx1,hr];(refine hJ _ _ ?_;clear hJ J;simp only[ak,reduceIte]))))
   exact hkn
  by_cases hx2:1048576<xi
  ·have hn:dI xi (g.es.getD (k-1) ed0).id (decide (k=0))=2:=by unfold dI;rw[if_pos (.inr hx2)]
   have hr:=hret 2 (by rw[hbad,hn];rfl) (by decide)
   (repeat' (first|refine qS ?_|refine qB ?_|(refine qK ?_;simp only[ak,reduceIte])|(refine qR ?_;simp only[ak,reduceIte];simp[f1,f45,f46,f47,hlt,hd,hw,hel,hk3,hgH,hnx,hx1,hx2,hr])|(refine qC ?_;simp[f1,f45,f46,f47,hlt,hd,hw,hel,hk3,hgH,hnx,hx1,hx2,hr])|(refine w_e [] ?_;intro J hJ;simp only[];simp[f1,f45,f46,f47,hlt,hd,hw,hel,hk3,hgH,hnx,hx1,hx2,hr];(refine hJ _ _ ?_;clear hJ J;simp only[ak,reduceIte]))))
   exact hkn
  by_cases hnb:dI xi (g.es.getD (k-1) ed0).id (decide (k=0))=0
  rotate_left
  ·
   have h0:k≠0:=by rintro rfl;apply hnb;unfold dI;rw[if_neg (by simp[hx1,hx2])];simp
   have hle:xi≤(g.es.getD (k-1) ed0).id:=by
    unfold dI at hnb
    rw[if_neg (by simp[hx1,hx2])]at hnb
    by_cases h:decide (k=0)=false∧xi≤(g.es.getD (k-1) ed0).id
    ·exact h.2
    ·rw[if_neg h]at hnb;exact absurd rfl hnb
   have hn:dI xi (g.es.getD (k-1) ed0).id (decide (k=0))=19:=by unfold dI;rw[if_neg (by simp[hx1,hx2]),if_pos ⟨by simp[h0],hle⟩]
   have hr:=hret 19 (by rw[hbad,hn];rfl) (by decide)
   have hk0:0<k:=by omega
   have hw1:IntKind.i64.wrap ((k:Int)-1)=((k-1:Nat):Int):=by rw[wrap_i64 _ (by omega) (by omega)];omega
   have hd1:=bE g.es (k-1) (by omega)
   have hlt1:k-1<g.es.length:=by omega
   have hlt3:(k-1)*3<g.es.length*3:=by omega
   generalize hy:g.es.getD (k-1) ed0=y at *
   obtain⟨yi,ya,yb⟩:=y
   simp only at hd1 hle
   (repeat' (first|refine qS ?_|refine qB ?_|(refine qK ?_;simp only[ak,reduceIte])|(refine qR ?_;simp only[ak,reduceIte];simp[f1,f45,f46,f47,hlt,hd,hw,hel,hk3,hgH,hnx,hx1,hx2,hk0,hw1,hd1,hlt1,hlt3,hle,hr])|(refine qC ?_;simp[f1,f45,f46,f47,hlt,hd,hw,hel,hk3,hgH,hnx,hx1,hx2,hk0,hw1,hd1,hlt1,hlt3,hle,hr])|((first|(refine w_e [] ?_;intro J hJ;simp only[])|(refine w_q ?_;intro J hJ));simp[f1,f45,f46,f47,hlt,hd,hw,hel,hk3,hgH,hnx,hx1,hx2,hk0,hw1,hd1,hlt1,hlt3,hle,hr];(refine hJ _ _ ?_;clear hJ J;simp only[ak,reduceIte]))))
   exact hkn
  rw[if_neg (fun h=>h hnb)]at hbad
  by_cases hab:xa=xb
  ·have hr:=hret 20 (by rw[hbad,if_pos hab]) (by decide)
   by_cases h0:k=0
   ·have hk0:¬0<k:=by omega
    (repeat' (first|refine qS ?_|refine qB ?_|(refine qK ?_;simp only[ak,reduceIte])|(refine qR ?_;simp only[ak,reduceIte];simp[f1,f45,f46,f47,hlt,hd,hw,hel,hk3,hgH,hnx,hx1,hx2,hk0,hab,hr])|(refine qC ?_;simp[f1,f45,f46,f47,hlt,hd,hw,hel,hk3,hgH,hnx,hx1,hx2,hk0,hab,hr])|((first|(refine w_e [] ?_;intro J hJ;simp only[])|(refine w_q ?_;intro J hJ));simp[f1,f45,f46,f47,hlt,hd,hw,hel,hk3,hgH,hnx,hx1,hx2,hk0,hab,hr];(refine hJ _ _ ?_;clear hJ J;simp only[ak,reduceIte]))))
    exact hkp0.trans (aB.new _ _)
   ·have hk0:0<k:=by omega
    have hw1:IntKind.i64.wrap ((k:Int)-1)=((k-1:Nat):Int):=by rw[wrap_i64 _ (by omega) (by omega)];omega
    have hd1:=bE g.es (k-1) (by omega)
    have hlt1:k-1<g.es.length:=by omega
    have hlt3:(k-1)*3<g.es.length*3:=by omega
    have hle:¬xi≤(g.es.getD (k-1) ed0).id:=by
     intro h
     unfold dI at hnb
     rw[if_neg (by simp[hx1,hx2]),if_pos ⟨by simp[h0],h⟩]at hnb
     cases hnb
    generalize hy:g.es.getD (k-1) ed0=y at *
    obtain⟨yi,ya,yb⟩:=y
    simp only at hd1 hle
    (repeat' (first|refine qS ?_|refine qB ?_|(refine qK ?_;simp only[ak,reduceIte])|(refine qR ?_;simp only[ak,reduceIte];simp[f1,f45,f46,f47,hlt,hd,hw,hel,hk3,hgH,hnx,hx1,hx2,hk0,hw1,hd1,hlt1,hlt3,hle,hab,hr])|(refine qC ?_;simp[f1,f45,f46,f47,hlt,hd,hw,hel,hk3,hgH,hnx,hx1,hx2,hk0,hw1,hd1,hlt1,hlt3,hle,hab,hr])|((first|(refine w_e [] ?_;intro J hJ;simp only[])|(refine w_q ?_;intro J hJ));simp[f1,f45,f46,f47,hlt,hd,hw,hel,hk3,hgH,hnx,hx1,hx2,hk0,hw1,hd1,hlt1,hlt3,hle,hab,hr];(refine hJ _ _ ?_;clear hJ J;simp only[ak,reduceIte]))))
    exact hkp0.trans (aB.new _ _)
  rw[if_neg hab]at hbad
  by_cases h0:k=0
  ·have hk0:¬0<k:=by omega
   (repeat' (first|refine qS ?_|refine qB ?_|(refine qK ?_;simp only[ak,reduceIte])|(refine qC ?_;simp[f1,f45,f46,f47,hlt,hd,hw,hel,hk3,hgH,hnx,hx1,hx2,hk0,hab])|((first|(refine w_e [] ?_;intro J hJ;simp only[])|(refine w_q ?_;intro J hJ));simp[f1,f45,f46,f47,hlt,hd,hw,hel,hk3,hgH,hnx,hx1,hx2,hk0,hab];(try (refine hJ _ _ ?_;clear hJ J;simp only[ak,reduceIte])))))
   refine qE (Has g xa _ hsm) (by simp[]) ?_;rintro r st' ⟨rfl,hk1⟩
   have hB1:st'.H st1.next=.box 56 3 [u xi,u xa,u xb]:=by rw[hk1.H _ (by simp)];simp
   have hgH1:st'.H st.next=.box 25 2 (grL g):=by
    rw[hk1.H _ (by have:=hkp.next;simp only[aA]at this ⊢;omega),aG,if_neg hnx];exact hgH
   have hkp1:=(hkp.trans (aB.new _ _)).trans hk1
   have hkp01:=(hkp0.trans (aB.new _ _)).trans hk1
   by_cases hma:xa∈g.vs
   rotate_left
   ·have hr:=hret 21 (by rw[hbad,if_pos (.inl hma)]) (by decide)
    (repeat' (first|refine qS ?_|(refine qR ?_;simp only[ak,reduceIte];simp[f1,hB1,hgH1,hr,hma])|(refine qC ?_;simp[f1,hB1,hgH1,hr,hma])|((first|(refine w_e [] ?_;intro J hJ;simp only[])|(refine aL ?_));simp[f1,hB1,hgH1,hr,hma];(refine hJ _ _ ?_;clear hJ J;simp only[ak,reduceIte]))))
    exact hkp01
   (refine aL ?_;simp[f1,hB1,hgH1,hma])
   refine qE (Has g xb _ hsm) (by simp[]) ?_;rintro r st' ⟨rfl,hk2⟩
   by_cases hmb:xb∈g.vs
   rotate_left
   ·have hr:=hret 21 (by rw[hbad,if_pos (.inr hmb)]) (by decide)
    (repeat' (first|refine qS ?_|(refine qR ?_;simp only[ak,reduceIte];simp[hr,hmb])|(refine qC ?_;simp[hr,hmb])|((first|(refine w_e [] ?_;intro J hJ;simp only[])|(refine aL ?_));simp[hr,hmb];(refine hJ _ _ ?_;clear hJ J;simp only[ak,reduceIte]))))
    exact hkp01.trans hk2
   have hb':iN g k=0:=by rw[hbad,if_neg (by simp[hma,hmb])]
   (repeat' (first|(refine qK ?_;simp only[ak,reduceIte])|(refine qC ?_;simp[f47,hw,hmb])|((first|(refine w_e [] ?_;intro J hJ;simp only[])|(refine aL ?_));simp[f47,hw,hmb];(refine hJ _ _ ?_;clear hJ J;simp only[ak,reduceIte]))))
   refine hJJ _ _ _ ?_ ⟨k+1,by omega,rfl,by simp[f1],by simp[f45],by simp[f46],by simp,hkp1.trans hk2,hnext hb'⟩
   omega
  ·have hk0:0<k:=by omega
   have hw1:IntKind.i64.wrap ((k:Int)-1)=((k-1:Nat):Int):=by rw[wrap_i64 _ (by omega) (by omega)];omega
   have hd1:=bE g.es (k-1) (by omega)
   have hlt1:k-1<g.es.length:=by omega
   have hlt3:(k-1)*3<g.es.length*3:=by omega
   have hle:¬xi≤(g.es.getD (k-1) ed0).id:=by
    intro h
    unfold dI at hnb
    rw[if_neg (by simp[hx1,hx2]),if_pos ⟨by simp[h0],h⟩]at hnb
    cases hnb
   generalize hy:g.es.getD (k-1) ed0=y at *
   obtain⟨yi,ya,yb⟩:=y
   simp only at hd1 hle
   (repeat' (first|refine qS ?_|refine qB ?_|(refine qK ?_;simp only[ak,reduceIte])|(refine qC ?_;simp[f1,f45,f46,f47,hlt,hd,hw,hel,hk3,hgH,hnx,hx1,hx2,hk0,hw1,hd1,hlt1,hlt3,hle,hab])|((first|(refine w_e [] ?_;intro J hJ;simp only[])|(refine w_q ?_;intro J hJ));simp[f1,f45,f46,f47,hlt,hd,hw,hel,hk3,hgH,hnx,hx1,hx2,hk0,hw1,hd1,hlt1,hlt3,hle,hab];(try (refine hJ _ _ ?_;clear hJ J;simp only[ak,reduceIte])))))
   refine qE (Has g xa _ hsm) (by simp[]) ?_;rintro r st' ⟨rfl,hk1⟩
   have hB1:st'.H st1.next=.box 56 3 [u xi,u xa,u xb]:=by rw[hk1.H _ (by simp)];simp
   have hgH1:st'.H st.next=.box 25 2 (grL g):=by
    rw[hk1.H _ (by have:=hkp.next;simp only[aA]at this ⊢;omega),aG,if_neg hnx];exact hgH
   have hkp1:=(hkp.trans (aB.new _ _)).trans hk1
   have hkp01:=(hkp0.trans (aB.new _ _)).trans hk1
   by_cases hma:xa∈g.vs
   rotate_left
   ·have hr:=hret 21 (by rw[hbad,if_pos (.inl hma)]) (by decide)
    (repeat' (first|refine qS ?_|(refine qR ?_;simp only[ak,reduceIte];simp[f1,hB1,hgH1,hr,hma])|(refine qC ?_;simp[f1,hB1,hgH1,hr,hma])|((first|(refine w_e [] ?_;intro J hJ;simp only[])|(refine aL ?_));simp[f1,hB1,hgH1,hr,hma];(refine hJ _ _ ?_;clear hJ J;simp only[ak,reduceIte]))))
    exact hkp01
   (refine aL ?_;simp[f1,hB1,hgH1,hma])
   refine qE (Has g xb _ hsm) (by simp[]) ?_;rintro r st' ⟨rfl,hk2⟩
   by_cases hmb:xb∈g.vs
   rotate_left
   ·have hr:=hret 21 (by rw[hbad,if_pos (.inr hmb)]) (by decide)
    (repeat' (first|refine qS ?_|(refine qR ?_;simp only[ak,reduceIte];simp[hr,hmb])|(refine qC ?_;simp[hr,hmb])|((first|(refine w_e [] ?_;intro J hJ;simp only[])|(refine aL ?_));simp[hr,hmb];(refine hJ _ _ ?_;clear hJ J;simp only[ak,reduceIte]))))
    exact hkp01.trans hk2
   have hb':iN g k=0:=by rw[hbad,if_neg (by simp[hma,hmb])]
   (repeat' (first|(refine qK ?_;simp only[ak,reduceIte])|(refine qC ?_;simp[f47,hw,hmb])|((first|(refine w_e [] ?_;intro J hJ;simp only[])|(refine aL ?_));simp[f47,hw,hmb];(refine hJ _ _ ?_;clear hJ J;simp only[ak,reduceIte]))))
   refine hJJ _ _ _ ?_ ⟨k+1,by omega,rfl,by simp[f1],by simp[f45],by simp[f46],by simp,hkp1.trans hk2,hnext hb'⟩
   omega
 ·have hr:chk g=0:=by rw[hch];exact eI (fun j hj=>hno j (by omega))
  clear hJJ
  (repeat' (first|refine qS ?_|(refine qX ?_;simp only[ak,reduceIte])|(refine qR ?_;simp only[ak,reduceIte];simp[f1,f45,f46,f47,hlt,hr])|(refine qC ?_;simp[f1,f45,f46,f47,hlt,hr])|(refine w_e [] ?_;intro J hJ;simp only[];simp[f1,f45,f46,f47,hlt,hr];(refine hJ _ _ ?_;clear hJ J;simp only[ak,reduceIte]))))
  exact hkp0
theorem aFY(l:List Ed):(eds l).all eW=true:=by
 induction l with
 |nil=>rfl
 |cons e l ih=>simp only[eds,List.flatMap_cons,List.all_append,ih,Bool.and_true];rfl
theorem aJc(l:List Ed)(t:Nat)(st:St)(hl:l.length≤1048576):
 aF Tryz.prog 124 [.sl t l.length (eds l)] st fun r st'=>r=.sl 0 l.length (eds l)∧aB st st':=by
 have hone:=aFY l
 have hel:=aO l
 refine bV ?_
 refine fT 56 3 ?_
 refine qO aK Tryz.func124 rfl rfl Tryz.ntmps124 (rs:=[.tmp 2]) rfl (by simp) ?_
 (repeat' (first|refine qS ?_|(refine qK ?_;simp only[ak,reduceIte])|(refine qR ?_;simp only[ak,reduceIte];simp[hone,hel])|(refine qC ?_;simp[hone,hel])|(refine w_e [5] ?_;intro J hJ;simp only[];simp[hone,hel];(repeat refine ca ?_);((try with_reducible refine⟨?_,?_⟩)<;>(try with_reducible intro hnil)<;>refine hJ _ _ ?_<;>clear hJ J<;>simp only[ak,reduceIte]<;>try subst hnil))))
 ·exact⟨st.next+1,l.length,⟨rfl,rfl⟩,56,3,eds l,by simp,by rw[hel];exact Nat.le_refl _,⟨rfl,List.take_of_length_le (by rw[hel];exact Nat.le_refl _)⟩,((aB.new _ _).trans (aB.new _ _)).set (by omega) _⟩
 ·exact⟨st.next,0,⟨rfl,rfl⟩,56,3,[],by simp,by simp,⟨rfl,.inr rfl⟩,(aB.new _ _).set (Nat.le_refl _) _⟩
theorem copied(g:Gr)(st:St)(hv:g.vs.length≤1048576)(he:g.es.length≤1048576):
 aF Tryz.prog 84 [.ag (grL g)] st fun r st'=>r=.ag (grL g)∧aB st st':=by
 refine qO aK Tryz.func84 rfl rfl Tryz.ntmps84 (rs:=[.cell 2 25]) rfl (by simp) ?_
 (repeat' (first|refine qS ?_|(refine w_e [] ?_;intro J hJ;simp only[];simp[];(refine hJ _ _ ?_;clear hJ J;simp only[ak,reduceIte]))))
 (refine w_s [] [st.next] [(0,true),(1,true),(3,true),(4,true),(2,true),(5,true),(6,true),(7,false)] ?_;intro J hJ;simp[])
 refine qD (aJw g.vs 0 _ hv) (by simp[]) ?_;rintro r st' ⟨rfl,hk1⟩
 have hB1:st'.H st.next=.box 25 2 (grL g):=by rw[hk1.H _ (by simp;omega)];simp
 have hC1:st'.H (st.next+1)=.box 25 2 [.nil,.nil]:=by rw[hk1.H _ (by simp)];simp
 refine⟨fun _=>by simp[hB1],?_⟩
 (refine bN ?_;simp[hB1])
 have hn1:=hk1.next
 simp only[aA]at hn1
 refine qD (aJc g.es 0 _ he) (by simp[]) ?_;rintro r st' ⟨rfl,hk2⟩
 have hB2:=(hk2.H st.next (by omega)).trans hB1
 have hC2:=(hk2.H (st.next+1) (by omega)).trans hC1
 refine⟨fun _=>by simp[hB2],?_⟩
 (refine bN ?_;simp[hB2,hC2];(refine hJ _ _ ?_;clear hJ J;simp only[ak,reduceIte]))
 (repeat' (refine qR ?_;simp only[ak,reduceIte];simp[hC2]))
 exact(((((aB.new _ _).trans (aB.new _ _)).trans hk1).trans hk2).set (by omega) _)
theorem aKW(a b:List Ed)(hab:a.length=b.length)(h:∀ j,j<a.length→a.getD j ed0=b.getD j ed0):a=b:=by
 apply List.ext_getElem hab
 intro j h1 h2
 have:=h j h1
 rw[List.getD_eq_getElem?_getD,List.getD_eq_getElem?_getD,List.getElem?_eq_getElem h1,List.getElem?_eq_getElem h2]at this
 exact this
theorem aIp(a b:List Int)(hab:a.length=b.length)(h:∀ j,j<a.length→a.getD j 0=b.getD j 0):a=b:=by
 apply List.ext_getElem hab
 intro j h1 h2
 have:=h j h1
 rw[aX _ _ h1,aX _ _ h2]at this
 exact this
theorem aGl(a b:Gr)(st:St)(hv:a.vs.length≤1048576)(he:a.es.length≤1048576):
 aF Tryz.prog 20 [.ag (grL a),.ag (grL b)] st fun r st'=>r=bb (decide (a=b))∧aB st st':=by
 have hkk:aB st ((st.new (.box 25 2 (grL a))).new (.box 25 2 (grL b))):=(aB.new _ _).trans (aB.new _ _)
 refine qO aK Tryz.func20 rfl rfl Tryz.ntmps20 (rs:=[.tmp 4]) rfl (by simp) ?_
 by_cases h1:a.vs.length=b.vs.length
 rotate_left
 ·have h1':((a.vs.length:Int) != b.vs.length)=true:=by simp;omega
  have hne:¬a=b:=fun h=>h1 (by rw[h])
  (repeat' (first|refine qS ?_|(refine qR ?_;simp only[ak,reduceIte];simp[h1',hne])|(refine qC ?_;simp[h1',hne])|(refine w_e [] ?_;intro J hJ;simp only[];simp[h1',hne];(refine hJ _ _ ?_;clear hJ J;simp only[ak,reduceIte]))))
  exact hkk
 have h1':((a.vs.length:Int) != b.vs.length)=false:=by simp;omega
 by_cases h2:a.es.length=b.es.length
 rotate_left
 ·have h2':((a.es.length:Int) != b.es.length)=true:=by simp;omega
  have hne:¬a=b:=fun h=>h2 (by rw[h])
  (repeat' (first|refine qS ?_|(refine qR ?_;simp only[ak,reduceIte];simp[h1',h2',hne])|(refine qC ?_;simp[h1',h2',hne])|(refine w_e [] ?_;intro J hJ;simp only[];simp[h1',h2',hne];(refine hJ _ _ ?_;clear hJ J;simp only[ak,reduceIte]))))
  exact hkk
 have h2':((a.es.length:Int) != b.es.length)=false:=by simp;omega
 (repeat' (first|refine qS ?_|refine qB ?_|(refine qK ?_;simp only[ak,reduceIte])|(refine qC ?_;simp[h1',h2'])|(refine w_e [] ?_;intro J hJ;simp only[];simp[h1',h2'];(refine hJ _ _ ?_;clear hJ J;simp only[ak,reduceIte]))))
 refine qL (fun n fr st'=>∃ k:Nat,k≤a.vs.length∧n=a.vs.length-k∧fr 2=.pt st.next 0∧fr 3=.pt (st.next+1) 0∧fr 25=i a.vs.length∧fr 26=i k∧st'=(st.new (.box 25 2 (grL a))).new (.box 25 2 (grL b))∧∀ j,j<k→a.vs.getD j 0=b.vs.getD j 0) a.vs.length ?_ ?_
 ·exact⟨0,by omega,by omega,by simp,by simp,by simp,by simp,rfl,fun j h=>by omega⟩
 rintro n fr st' ⟨k,hk,rfl,f2,f3,f25,f26,rfl,hno⟩ JJ hJJ
 by_cases hlt:k<a.vs.length
 ·have hd:=qG a.vs k hlt
  have hlt':k<b.vs.length:=by omega
  have hd':=qG b.vs k hlt'
  have hw:=qN k (by omega)
  generalize hx:a.vs.getD k 0=x at *
  generalize hy:b.vs.getD k 0=y at *
  by_cases hxy:x=y
  ·(repeat' (first|refine qS ?_|refine qB ?_|(refine qK ?_;simp only[ak,reduceIte])|(refine qC ?_;simp[f2,f3,f25,f26,hlt,hlt',hd,hd',hw,hxy])|((first|(refine w_e [] ?_;intro J hJ;simp only[])|(refine w_q ?_;intro J hJ));simp[f2,f3,f25,f26,hlt,hlt',hd,hd',hw,hxy];(refine hJ _ _ ?_;clear hJ J;simp only[ak,reduceIte]))))
   refine hJJ _ _ _ ?_ ⟨k+1,by omega,rfl,by simp[f2],by simp[f3],by simp[f25],by simp,rfl,fun j hj=>?_⟩
   ·omega
   ·rcases Nat.lt_or_ge j k with h|h
    ·exact hno j h
    ·obtain rfl:j=k:=by omega
     rw[hx,hy];exact hxy
  ·have hne:¬a=b:=fun h=>hxy (by rw[← hx,← hy,h])
   (repeat' (first|refine qS ?_|refine qB ?_|(refine qK ?_;simp only[ak,reduceIte])|(refine qR ?_;simp only[ak,reduceIte];simp[f2,f3,f25,f26,hlt,hlt',hd,hd',hw,hxy,hne])|(refine qC ?_;simp[f2,f3,f25,f26,hlt,hlt',hd,hd',hw,hxy,hne])|((first|(refine w_e [] ?_;intro J hJ;simp only[])|(refine w_q ?_;intro J hJ));simp[f2,f3,f25,f26,hlt,hlt',hd,hd',hw,hxy,hne];(refine hJ _ _ ?_;clear hJ J;simp only[ak,reduceIte]))))
   exact hkk
 have hvs:=aIp a.vs b.vs h1 (fun j hj=>hno j (by omega))
 clear hJJ hno
 have hela:=aO a.es
 have helb:=aO b.es
 (repeat' (first|refine qS ?_|refine qB ?_|(refine qX ?_;simp only[ak,reduceIte])|(refine qC ?_;simp[f2,f3,f25,f26,hlt])|(refine w_e [] ?_;intro J hJ;simp only[];simp[f2,f3,f25,f26,hlt];(refine hJ _ _ ?_;clear hJ J;simp only[ak,reduceIte]))))
 refine qL (fun n fr st'=>∃ k:Nat,k≤a.es.length∧n=a.es.length-k∧fr 2=.pt st.next 0∧fr 3=.pt (st.next+1) 0∧fr 43=i a.es.length∧fr 44=i k∧st'=(st.new (.box 25 2 (grL a))).new (.box 25 2 (grL b))∧∀ j,j<k→a.es.getD j ed0=b.es.getD j ed0) a.es.length ?_ ?_
 ·exact⟨0,by omega,by omega,by simp[f2],by simp[f3],by simp,by simp,rfl,fun j h=>by omega⟩
 clear f2 f3 f25 f26 hlt hk fr k
 rintro n fr st' ⟨k,hk,rfl,f2,f3,f43,f44,rfl,hno⟩ JJ hJJ
 by_cases hlt:k<a.es.length
 ·have hd:=bE a.es k hlt
  have hlt':k<b.es.length:=by omega
  have hd':=bE b.es k hlt'
  have hw:=qN k (by omega)
  have hk3:k*3<a.es.length*3:=by omega
  have hk3':k*3<b.es.length*3:=by omega
  generalize hx:a.es.getD k ed0=x at *
  generalize hy:b.es.getD k ed0=y at *
  obtain⟨x1,x2,x3⟩:=x
  obtain⟨y1,y2,y3⟩:=y
  simp only at hd hd'
  by_cases hxy:([x1,x2,x3]==[y1,y2,y3])=true
  ·have hxy':([x1,x2,x3]:List Int)=[y1,y2,y3]:=by simpa using hxy
   injection hxy' with e1 e2;injection e2 with e2 e3;injection e3 with e3 _
   subst e1 e2 e3
   (repeat' (first|refine qS ?_|refine qB ?_|(refine qK ?_;simp only[ak,reduceIte])|(refine qC ?_;simp[f2,f3,f43,f44,hlt,hlt',hd,hd',hw,hela,helb,hk3,hk3'])|((first|(refine w_e [] ?_;intro J hJ;simp only[])|(refine w_q ?_;intro J hJ));simp[f2,f3,f43,f44,hlt,hlt',hd,hd',hw,hela,helb,hk3,hk3'];(refine hJ _ _ ?_;clear hJ J;simp only[ak,reduceIte]))))
   refine hJJ _ _ _ ?_ ⟨k+1,by omega,rfl,by simp[f2],by simp[f3],by simp[f43],by simp,rfl,fun j hj=>?_⟩
   ·omega
   ·rcases Nat.lt_or_ge j k with h|h
    ·exact hno j h
    ·obtain rfl:j=k:=by omega
     rw[hx,hy]
  ·have hne:¬a=b:=fun h=>hxy (by rw[h]at hx;rw[hx]at hy;injection hy with e1 e2 e3;subst e1 e2 e3;simp)
   have hxyf:([x1,x2,x3]==[y1,y2,y3])=false:=by simpa using hxy
   (repeat' (first|refine qS ?_|refine qB ?_|(refine qK ?_;simp only[ak,reduceIte])|(refine qR ?_;simp only[ak,reduceIte];simp[f2,f3,f43,f44,hlt,hlt',hd,hd',hw,hela,helb,hk3,hk3',hxyf,hne])|(refine qC ?_;simp[f2,f3,f43,f44,hlt,hlt',hd,hd',hw,hela,helb,hk3,hk3',hxyf,hne])|((first|(refine w_e [] ?_;intro J hJ;simp only[])|(refine w_q ?_;intro J hJ));simp[f2,f3,f43,f44,hlt,hlt',hd,hd',hw,hela,helb,hk3,hk3',hxyf,hne];(refine hJ _ _ ?_;clear hJ J;simp only[ak,reduceIte]))))
   exact hkk
 ·have hes:=aKW a.es b.es h2 (fun j hj=>hno j (by omega))
  have heq:a=b:=by cases a;cases b;simp only at hvs hes;subst hvs hes;rfl
  clear hJJ
  subst heq
  (repeat' (first|refine qS ?_|(refine qX ?_;simp only[ak,reduceIte])|(refine qR ?_;simp only[ak,reduceIte];simp[f2,f3,f43,f44,hlt])|(refine qC ?_;simp[f2,f3,f43,f44,hlt])|(refine w_e [] ?_;intro J hJ;simp only[];simp[f2,f3,f43,f44,hlt];(refine hJ _ _ ?_;clear hJ J;simp only[ak,reduceIte]))))
  exact hkk
theorem yZ(e s:Nat){P:Program}{f:FuncId}{args:List LV}{st:St}{Q:LV→St→Prop}(pre:List LV)
 (h:aF P f args st fun r st'=>∃ c,r=.ag (pre++[c])∧((c=.nil∧Q (.ag (pre++[.sl 0 0 []])) st')∨∃ l n cs,c=.ms l 0 n∧st'.H l=.box e s cs∧n*s≤cs.length∧Q (.ag (pre++[.sl 0 n (cs.take (n*s))])) (st'.set l .dead))):aF P f args st Q:=by
 refine⟨h.1,fun w g vs hi hr=>(h.2 w g vs hi hr).mono ?_⟩
 rintro x w' ⟨v,r,st',g',rfl,⟨c,rfl,hc⟩,hrep,hi',he⟩
 simp only[Rep]at hrep
 obtain⟨us1,rfl,hus⟩:=hrep
 obtain⟨v1,h1,h2⟩:=kB pre us1 hus
 rcases hc with⟨rfl,hq⟩|⟨l,n,cs,rfl,hl,hn,hq⟩
 ·refine⟨_,_,st',g',rfl,hq,?_,hi',he⟩
  simp only[Rep]
  exact⟨us1,rfl,h2 g' _ (Ext.refl _ _) (pA h1)⟩
 ·obtain⟨g2,k1,k2,k3⟩:=eU (fr:=upd (fun _=>.dead) 0 (.ms l 0 n)) 0 rfl hl hn { tmps:=#[v1],defers:=[] } w' g' hi' (by
   intro j
   unfold upd
   by_cases hj:j=0
   ·subst hj;rw[if_pos rfl];exact h1
   ·rw[if_neg hj];simp only[Rep])
  refine⟨_,_,_,g2,rfl,hq,?_,k1,he.trans k3⟩
  simp only[Rep]
  exact⟨us1,rfl,h2 g2 _ k3 (k2 0)⟩
theorem vY(rs:List (List Int))(k:Nat)(hk:k<rs.length):bA (rs.take (k+1))=bA (rs.take k)++[.sl 0 (rs[k]).length (us rs[k])]:=by
 unfold bA
 rw[List.take_succ_eq_append_getElem hk,List.map_append];rfl
theorem aNo(g:Gr)(q:Nat)(es:List (List Int×LV))(tf:Int→List Int)(st:St)(hv:g.vs.length≤1000)(he:g.es.length≤1000)(hq:q<st.next)(hM:st.H q=.map false [.u32] es)
 (ht:∀ v∈g.vs,∃ x t,(aR es [v]).getD .nil=x∧norm x=.sl t (tf v).length (us (tf v))∧(tf v).length≤1000):
 aF Tryz.prog 50 [.ag (grL g),.mp q] st fun r st'=>r=.ag (mpL ⟨g,g.vs.map fun v=>nrm (tf v)⟩)∧aB st st':=by
 refine yZ 22 1 (grL g) ?_
 refine qO aK Tryz.func50 rfl rfl Tryz.ntmps50 (rs:=[.cell 4 39]) rfl (by simp) ?_
 (repeat' (first|refine qS ?_|(refine w_e [] ?_;intro J hJ;simp only[];simp[];(try (refine hJ _ _ ?_;clear hJ J;simp only[ak,reduceIte])))))
 refine qE (copied g _ (by omega) (by omega)) (by simp) ?_;rintro r s1 ⟨rfl,hk1⟩
 have hn1:=hk1.next
 simp only[aA]at hn1
 have hG1:s1.H st.next=.box 25 2 (grL g):=by rw[hk1.H _ (by simp;omega)];simp
 have hM1:s1.H q=.map false [.u32] es:=by
  rw[hk1.H q (by simp;omega),aG,if_neg (by simp;omega),aG,if_neg (by omega),hM]
 have hR1:s1.H (st.next+1)=.box 39 3 [.nil,.nil,.nil]:=by rw[hk1.H _ (by simp)];simp
 have ne1:¬st.next=s1.next:=by omega
 (repeat' (first|refine qS ?_|refine qB ?_|((first|(refine w_e [] ?_;intro J hJ;simp only[])|(refine aL ?_));simp[hG1,ne1];(refine hJ _ _ ?_;clear hJ J;simp only[ak,reduceIte]))))
 refine qL (fun n fr st2=>∃ k:Nat,k≤g.vs.length∧n=g.vs.length-k∧fr 1=.mp q∧fr 4=.pt (st.next+1) 0∧fr 5=.pt s1.next 0∧fr 12=.sl 0 g.vs.length (us g.vs)∧fr 13=i g.vs.length∧fr 14=i k∧aB s1 st2∧s1.next<st2.next∧∃ c,st2.H s1.next=.box 39 3 (grL g++[c])∧((k=0∧c=.nil)∨∃ z,c=.ms z 0 k∧s1.next<z∧z<st2.next∧st2.H z=.box 22 1 (bA ((g.vs.map fun v=>nrm (tf v)).take k)))) g.vs.length ?_ ?_
 ·exact⟨0,by omega,by omega,by simp,by simp,by simp,by simp,by simp,by simp,aB.new _ _,by simp,.nil,by simp,.inl ⟨rfl,rfl⟩⟩
 rintro n fr st2 ⟨k,hk,rfl,f1,f4,f5,f12,f13,f14,hkp,hlt2,c,hB,hcz⟩ JJ hJJ
 have hM2:st2.H q=.map false [.u32] es:=by rw[hkp.H q (by omega)];exact hM1
 by_cases hlt:k<g.vs.length
 ·have hd:=qG g.vs k hlt
  have hw:=qN k (by omega)
  have hvin:g.vs.getD k 0∈g.vs:=by rw[aX _ _ hlt];exact List.getElem_mem hlt
  obtain⟨x,t,hx1,hx2,hx3⟩:=ht _ hvin
  have hrow:=vY (g.vs.map fun v=>nrm (tf v)) k (by simpa using hlt)
  have hrk:(g.vs.map fun v=>nrm (tf v))[k]'(by simpa using hlt)=nrm (tf (g.vs.getD k 0)):=by simp[hlt]
  rw[hrk,aEY]at hrow
  generalize hvv:g.vs.getD k 0=v at *
  have hqn:¬q=s1.next:=by omega
  have ne2:¬s1.next=st2.next:=by omega
  have ne3:¬q=st2.next:=by have:=hkp.next;omega
  rcases hcz with⟨rfl,rfl⟩|⟨z,rfl,hz1,hz2,hz⟩
  ·(repeat' (first|refine qS ?_|(refine w_e [] ?_;intro J hJ;simp only[];simp[f12,f13,f14,hlt,hd];(refine hJ _ _ ?_;clear hJ J;simp only[ak,reduceIte]))))
   (refine qC ?_;simp[])
   (repeat' (first|refine qS ?_|refine qB ?_|(refine qK ?_;simp only[ak,reduceIte])|(refine w_e [] ?_;intro J hJ;simp only[];simp[f1,f5,f12,f13,f14,hlt,hd];(refine hJ _ _ ?_;clear hJ J;simp only[ak,reduceIte]))))
   (refine w_s [25] [s1.next,q] [(0,true),(1,true),(2,true),(3,true),(4,true),(5,true),(6,true),(7,true),(8,true),(9,false)] ?_;intro J hJ;simp[f1,f5,hB,hM2,hx1,hqn])
   refine qD (aIq (tf v) t _ (by simp only[small];omega)) (by simp only[List.map_cons,List.map_nil,hx2]) ?_;rintro r s3 ⟨rfl,hk3⟩
   have hB3:=(hk3.H s1.next (by omega)).trans hB
   have hM3:=(hk3.H q (by have:=hkp.next;omega)).trans hM2
   have hn3:=hk3.next
   have ne4:¬s1.next=s3.next:=by omega
   have ne5:¬s1.next=s3.next+1:=by omega
   have ne6:¬q=s3.next+1:=by omega
   have ne7:¬q=s3.next:=by omega
   refine⟨fun _=>by simp[hB3,hM3,hB,hM2],?_⟩
   (refine bN ?_;simp[f5,hB3,hM3,hB,hM2,ne4,ne5,ne6,ne7];(repeat refine ca ?_);(refine hJ _ _ ?_;clear hJ J;simp only[ak,reduceIte]))
   have hw1:IntKind.i64.wrap 1=1:=by decide
   (repeat' (refine w_e [] ?_;intro J hJ;simp only[];simp[f5,f14,hw,hw1];(refine hJ _ _ ?_;clear hJ J;simp only[ak,reduceIte])))
   refine hJJ (g.vs.length-1) _ _ (by omega) ⟨1,by omega,rfl,by simp[f1],by simp[f4],by simp[f5],by simp[f12],by simp[f13],by simp,(((hkp.trans hk3).trans (aB.new _ _)).trans (aB.new _ _)).set (Nat.le_refl _) _,by simp;omega,.ms (s3.next+1) 0 1,by simp,.inr ⟨s3.next+1,rfl,by omega,by simp,?_⟩⟩
   rw[hrow,aE,if_neg (by omega)]
   simp
  ·generalize hR:bA ((g.vs.map fun v=>nrm (tf v)).take k)=R at *
   have hzl:R.length=k:=by rw[← hR];simp;omega
   (repeat' (first|refine qS ?_|(refine w_e [] ?_;intro J hJ;simp only[];simp[f12,f13,f14,hlt,hd];(refine hJ _ _ ?_;clear hJ J;simp only[ak,reduceIte]))))
   (refine qC ?_;simp[])
   (repeat' (first|refine qS ?_|refine qB ?_|(refine qK ?_;simp only[ak,reduceIte])|(refine w_e [] ?_;intro J hJ;simp only[];simp[f1,f5,f12,f13,f14,hlt,hd];(refine hJ _ _ ?_;clear hJ J;simp only[ak,reduceIte]))))
   (refine w_s [25] [s1.next,q] [(0,true),(1,true),(2,true),(3,true),(4,true),(5,true),(6,true),(7,true),(8,true),(9,false)] ?_;intro J hJ;simp[f1,f5,hB,hM2,hx1,hqn])
   refine qD (aIq (tf v) t _ (by simp only[small];omega)) (by simp only[List.map_cons,List.map_nil,hx2]) ?_;rintro r s3 ⟨rfl,hk3⟩
   have hB3:=(hk3.H s1.next (by omega)).trans hB
   have hM3:=(hk3.H q (by have:=hkp.next;omega)).trans hM2
   have hz3:=(hk3.H z (by omega)).trans hz
   have hn3:=hk3.next
   have ne4:¬s1.next=s3.next:=by omega
   have ne5:¬s1.next=s3.next+1:=by omega
   have ne6:¬q=s3.next+1:=by omega
   have ne7:¬q=s3.next:=by omega
   have ne8:¬s1.next=z:=by omega
   have ne9:¬z=s3.next:=by omega
   have ne10:¬q=z:=by omega
   have htk:R.take k=R:=List.take_of_length_le (by omega)
   refine⟨fun _=>by simp[hB3,hM3,hB,hM2],?_⟩
   (refine bN ?_;simp[f5,hB3,hM3,hB,hM2,ne4,ne5,ne6,ne7,ne8,ne9,ne10,hz3,hzl,htk];(repeat refine ca ?_);(refine hJ _ _ ?_;clear hJ J;simp only[ak,reduceIte]))
   (repeat' (refine w_e [] ?_;intro J hJ;simp only[];simp[f5,f14,hw];(refine hJ _ _ ?_;clear hJ J;simp only[ak,reduceIte])))
   refine hJJ (g.vs.length-(k+1)) _ _ (by omega) ⟨k+1,by omega,rfl,by simp[f1],by simp[f4],by simp[f5],by simp[f12],by simp[f13],by simp,((((hkp.trans hk3).trans (aB.new _ _)).set (by omega) _).trans (aB.new _ _)).set (Nat.le_refl _) _,by simp;omega,.ms (s3.next+1) 0 (k+1),by simp,.inr ⟨s3.next+1,rfl,by omega,by simp,?_⟩⟩
   rw[hrow,aE,if_neg (by omega)]
   simp
 ·have hkk:k=g.vs.length:=by omega
  have hBR:¬s1.next=st.next+1:=by omega
  have hR2:=(hkp.H (st.next+1) (by omega)).trans hR1
  have hKK:aB st st2:=(((aB.new _ _).trans (aB.new _ _)).trans hk1).trans hkp
  rcases hcz with⟨h0,rfl⟩|⟨z,rfl,hz1,hz2,hz⟩
  ·(repeat' (first|refine qS ?_|(refine qX ?_;simp only[ak,reduceIte])|(refine qR ?_;simp only[ak,reduceIte];simp[f12,f13,f14,hlt,f4,f5,hB,hR2])|(refine qC ?_;simp[f12,f13,f14,hlt,f4,f5,hB,hR2])|(refine w_e [] ?_;intro J hJ;simp only[];simp[f12,f13,f14,hlt,f4,f5,hB,hR2];(refine hJ _ _ ?_;clear hJ J;simp only[ak,reduceIte]))))
   exact⟨⟨by omega,List.length_eq_zero_iff.mp (by omega)⟩,hKK.set (by omega) _⟩
  ·(repeat' (first|refine qS ?_|(refine qX ?_;simp only[ak,reduceIte])|(refine qR ?_;simp only[ak,reduceIte];simp[f12,f13,f14,hlt,f4,f5,hB,hR2])|(refine qC ?_;simp[f12,f13,f14,hlt,f4,f5,hB,hR2])|(refine w_e [] ?_;intro J hJ;simp only[];simp[f12,f13,f14,hlt,f4,f5,hB,hR2];(refine hJ _ _ ?_;clear hJ J;simp only[ak,reduceIte]))))
   have hmm:(g.vs.map fun v=>nrm (tf v)).take k=g.vs.map fun v=>nrm (tf v):=List.take_of_length_le (by simp;omega)
   rw[hmm]at hz
   exact⟨z,k,⟨rfl,rfl⟩,_,by rw[if_neg (by omega),hz],by simp;omega,⟨hkk,by rw[List.take_of_length_le (by simp;omega)];simp⟩,(hKK.set (by omega) _).set (by omega) _⟩
theorem aEt(g:Gr)(st:St):aF Tryz.prog 8 [.ag (grL g)] st fun r st'=>r=i (chk g)∧aB st st':=by
 by_cases h1:(64:Int)<(g.vs.length:Int)
 ·have:chk g=6:=by unfold chk;rw[if_pos (by omega)]
  refine qO aK Tryz.func8 rfl rfl Tryz.ntmps8 (rs:=[.tmp 2]) rfl (by simp) ?_
  (repeat' (first|refine qS ?_|(refine qR ?_;simp only[ak,reduceIte];simp[h1,this])|(refine qC ?_;simp[h1,this])|(refine w_e [] ?_;intro J hJ;simp only[];simp[h1,this];(refine hJ _ _ ?_;clear hJ J;simp only[ak,reduceIte]))))
  exact aB.new _ _
 by_cases h2:(160:Int)<(g.es.length:Int)
 ·have:chk g=6:=by unfold chk;rw[if_pos (by omega)]
  refine qO aK Tryz.func8 rfl rfl Tryz.ntmps8 (rs:=[.tmp 2]) rfl (by simp) ?_
  (repeat' (first|refine qS ?_|(refine qR ?_;simp only[ak,reduceIte];simp[h1,h2,this])|(refine qC ?_;simp[h1,h2,this])|(refine w_e [] ?_;intro J hJ;simp only[];simp[h1,h2,this];(refine hJ _ _ ?_;clear hJ J;simp only[ak,reduceIte]))))
  exact aB.new _ _
 exact aHr g st (by omega) (by omega)
theorem dL{P:Program}{N:Nat}{Q:AQ}{c:Code}{fr:Frm}{st:St}(h:0<st.next→AWp P N c Q fr st):AWp P N c Q fr st:=
 fun a w g hi hr hs hd=>h hi.pos a w g hi hr hs hd
def jM(v:Int)(x:Ed):List Int:=(if x.a=v then [2*x.id]else [])++(if x.b=v then [2*x.id+1]else [])
def ends(es:List Ed)(v:Int):List Int:=es.flatMap (jM v)
theorem aEm(f:Ed→List Int)(l:List Ed)(k:Nat)(hk:k<l.length):(l.take (k+1)).flatMap f=(l.take k).flatMap f++f (l.getD k ed0):=by
 rw[List.take_succ_eq_append_getElem hk,List.flatMap_append,List.getD_eq_getElem?_getD,List.getElem?_eq_getElem hk];simp
theorem aJY(v:Int)(x:Ed):(jM v x).length≤2:=by
 unfold jM;split<;>split<;>simp
theorem aIM(f:Ed→List Int)(hf:∀ x,(f x).length≤2)(l:List Ed):(l.flatMap f).length≤2*l.length:=by
 induction l with
 |nil=>simp
 |cons x l ih=>have:=hf x;simp only[List.flatMap_cons,List.length_append,List.length_cons];omega
def aGk(es:List Ed):Prop:=∀ x∈es,0≤x.id∧x.id≤1048576
theorem aGk.at{es:List Ed}(h:aGk es)(k:Nat)(hk:k<es.length):0≤(es.getD k ed0).id∧(es.getD k ed0).id≤1048576:=by
 rw[List.getD_eq_getElem?_getD,List.getElem?_eq_getElem hk];exact h _ (List.getElem_mem hk)
theorem wrap_u32'(n:Int)(h0:0≤n)(h1:n<4294967296):IntKind.u32.wrap n=n:=by
 rw[wrap_u32];omega
def aOF(t:Nat)(lo:St)(l:List Int)(st:St):Prop:=t≠0∧lo.next≤t∧t<st.next∧st.H t=.own 34 1 l.length∧aB lo st
theorem dOf(id e:Int)(st:St)(h0:0≤id)(h1:id≤1048576)(he:e=0∨e=1):aF Tryz.prog 32 [u id,i e] st fun r st'=>r=u (2*id+e)∧st'=st:=by
 refine(Of id e st).mono ?_
 rintro r st' ⟨rfl,rfl⟩
 refine⟨?_,rfl⟩
 have h2:id*2 % 4294967296+e % 2=2*id+e:=by omega
 rw[h2]
theorem yD(g:Gr)(v:Int)(st:St)(he:g.es.length≤1000)(hid:aGk g.es):
 aF Tryz.prog 35 [.ag (grL g),u v] st fun r st'=>(∃ t,r=.sl t (ends g.es v).length (us (ends g.es v)))∧aB st st':=by
 obtain⟨vs,l⟩:=g
 simp only at he hid ⊢
 have hel:=aO l
 have hfl:=fun k=>aIM (jM v) (aJY v) (l.take k)
 refine qO aK Tryz.func35 rfl rfl Tryz.ntmps35 (rs:=[.tmp 4]) rfl (by simp) ?_
 (repeat' (first|refine qS ?_|refine qB ?_|(refine w_e [] ?_;intro J hJ;simp only[];simp[];(refine hJ _ _ ?_;clear hJ J;simp only[ak,reduceIte]))))
 refine dL fun hpos=>?_
 refine qW 5 34 1 (by simp) ?_
 refine qL (fun n fr st2=>∃ k:Nat,k≤l.length∧n=l.length-k∧fr 1=u v∧fr 9=.sl 0 l.length (eds l)∧fr 10=i l.length∧fr 11=i k∧∃ t,fr 5=.sl t (ends (l.take k) v).length (us (ends (l.take k) v))∧aOF t st (ends (l.take k) v) st2) l.length ?_ ?_
 ·exact⟨0,by omega,by omega,by simp,by simp,by simp,by simp,st.next+1,by simp[ends],by omega,by omega,by simp,by simp[ends],(aB.new _ _).trans (aB.new _ _)⟩
 rintro n fr st2 ⟨k,hk,rfl,f1,f9,f10,f11,t,f5,ht0,htl,htn,htH,hkp⟩ JJ hJJ
 by_cases hlt:k<l.length
 rotate_left
 ·clear hJJ
  have hk':k=l.length:=by omega
  rw[hk',List.take_length]at f5
  (repeat' (first|refine qS ?_|(refine qX ?_;simp only[ak,reduceIte])|(refine qR ?_;simp only[ak,reduceIte];simp[f10,f11,hlt,f5])|(refine qC ?_;simp[f10,f11,hlt,f5])|(refine w_e [] ?_;intro J hJ;simp only[];simp[f10,f11,hlt,f5];(refine hJ _ _ ?_;clear hJ J;simp only[ak,reduceIte]))))
  exact hkp
 have hd:=bE l k hlt
 have hw:=qN k (by omega)
 have hk3:k*3<l.length*3:=by omega
 obtain⟨hi0,hi1⟩:=hid.at k hlt
 have hst:ends (l.take (k+1)) v=ends (l.take k) v++jM v (l.getD k ed0):=aEm _ _ _ hlt
 have hle:=hfl k
 rw[List.length_take]at hle
 have hle2:(ends (l.take k) v).length≤2*min k l.length:=hle
 generalize hx:l.getD k ed0=x at *
 obtain⟨id,a,b⟩:=x
 simp only at hi0 hi1 hd
 generalize hF:ends (l.take k) v=F at *
 have w1:IntKind.u32.wrap (2*id)=2*id:=wrap_u32' _ (by omega) (by omega)
 have w2:IntKind.u32.wrap (2*id+1)=2*id+1:=wrap_u32' _ (by omega) (by omega)
 have ht2:¬t=st2.next:=by omega
 have ht3:¬st2.next=t:=by omega
 have ht4:¬t=st2.next+1:=by omega
 have ht5:¬t=st2.next+1+1:=by omega
 have ht6:¬t=st2.next+1+1+1:=by omega
 have hn2:¬st2.next=st2.next+1+1:=by omega
 have hn3:¬st2.next=st2.next+1+1+1:=by omega
 have hn4:¬st2.next=st2.next+1+1+1+1:=by omega
 have hn5:¬st2.next+1+1=st2.next+1+1+1:=by omega
 by_cases ha:a=v
 ·by_cases hb:b=v
  ·have he1:jM v ⟨id,a,b⟩=[2*id,2*id+1]:=by simp[jM,ha,hb]
   rw[he1]at hst
   (repeat' (first|refine qS ?_|refine qB ?_|(refine qK ?_;simp only[ak,reduceIte])|(refine qC ?_;simp[f1,f5,f9,f10,f11,hlt,hd,hw,hel,ha,hb,w1,w2,htH,ht0,ht2,ht3,ht4,hn2,hn3,hn4,hn5,ht5,ht6])|(refine w_e [] ?_;intro J hJ;simp only[];simp[f1,f5,f9,f10,f11,hlt,hd,hw,hel,ha,hb,w1,w2,htH,ht0,ht2,ht3,ht4,hn2,hn3,hn4,hn5,ht5,ht6];(repeat refine ca ?_);(refine hJ _ _ ?_;clear hJ J;simp only[ak,reduceIte]))))
   refine hJJ (l.length-(k+1)) _ _ (by omega) ⟨k+1,by omega,rfl,by simp[f1],by simp[f9],by simp[f10],by simp,st2.next+1+1+1+1,by rw[hst];simp[f5],by omega,by have:=hkp.next;omega,by simp<;>omega,by rw[hst];simp[htH,ht2,ht4,hn2,hn3,hn4,hn5],?_⟩
   (repeat (first|exact hkp|(refine aB.trans ?_ (aB.new _ _))|(refine aB.set ?_ (by have:=hkp.next;first|omega|(simp only[aA,aC];omega)) _)))
  ·have he1:jM v ⟨id,a,b⟩=[2*id]:=by simp[jM,ha,hb]
   rw[he1]at hst
   (repeat' (first|refine qS ?_|refine qB ?_|(refine qK ?_;simp only[ak,reduceIte])|(refine qC ?_;simp[f1,f5,f9,f10,f11,hlt,hd,hw,hel,ha,hb,w1,w2,htH,ht0,ht2,ht3,ht4,hn2,hn3,hn4,hn5,ht5,ht6])|(refine w_e [] ?_;intro J hJ;simp only[];simp[f1,f5,f9,f10,f11,hlt,hd,hw,hel,ha,hb,w1,w2,htH,ht0,ht2,ht3,ht4,hn2,hn3,hn4,hn5,ht5,ht6];(repeat refine ca ?_);(refine hJ _ _ ?_;clear hJ J;simp only[ak,reduceIte]))))
   refine hJJ (l.length-(k+1)) _ _ (by omega) ⟨k+1,by omega,rfl,by simp[f1],by simp[f9],by simp[f10],by simp,st2.next+1+1,by rw[hst];simp[f5],by omega,by have:=hkp.next;omega,by simp<;>omega,by rw[hst];simp[htH,ht2,ht4,hn2,hn3,hn4,hn5],?_⟩
   (repeat (first|exact hkp|(refine aB.trans ?_ (aB.new _ _))|(refine aB.set ?_ (by have:=hkp.next;first|omega|(simp only[aA,aC];omega)) _)))
 ·by_cases hb:b=v
  ·have he1:jM v ⟨id,a,b⟩=[2*id+1]:=by simp[jM,ha,hb]
   rw[he1]at hst
   (repeat' (first|refine qS ?_|refine qB ?_|(refine qK ?_;simp only[ak,reduceIte])|(refine qC ?_;simp[f1,f5,f9,f10,f11,hlt,hd,hw,hel,ha,hb,w1,w2,htH,ht0,ht2,ht3,ht4,hn2,hn3,hn4,hn5,ht5,ht6])|(refine w_e [] ?_;intro J hJ;simp only[];simp[f1,f5,f9,f10,f11,hlt,hd,hw,hel,ha,hb,w1,w2,htH,ht0,ht2,ht3,ht4,hn2,hn3,hn4,hn5,ht5,ht6];(repeat refine ca ?_);(refine hJ _ _ ?_;clear hJ J;simp only[ak,reduceIte]))))
   refine hJJ (l.length-(k+1)) _ _ (by omega) ⟨k+1,by omega,rfl,by simp[f1],by simp[f9],by simp[f10],by simp,st2.next+1+1,by rw[hst];simp[f5],by omega,by have:=hkp.next;omega,by simp<;>omega,by rw[hst];simp[htH,ht2,ht4,hn2,hn3,hn4,hn5],?_⟩
   (repeat (first|exact hkp|(refine aB.trans ?_ (aB.new _ _))|(refine aB.set ?_ (by have:=hkp.next;first|omega|(simp only[aA,aC];omega)) _)))
  ·have he1:jM v ⟨id,a,b⟩=[]:=by simp[jM,ha,hb]
   rw[he1]at hst
   (repeat' (first|refine qS ?_|refine qB ?_|(refine qK ?_;simp only[ak,reduceIte])|(refine qC ?_;simp[f1,f5,f9,f10,f11,hlt,hd,hw,hel,ha,hb,w1,w2,htH,ht0,ht2,ht3,ht4,hn2,hn3,hn4,hn5,ht5,ht6])|(refine w_e [] ?_;intro J hJ;simp only[];simp[f1,f5,f9,f10,f11,hlt,hd,hw,hel,ha,hb,w1,w2,htH,ht0,ht2,ht3,ht4,hn2,hn3,hn4,hn5,ht5,ht6];(refine hJ _ _ ?_;clear hJ J;simp only[ak,reduceIte]))))
   refine hJJ (l.length-(k+1)) _ _ (by omega) ⟨k+1,by omega,rfl,by simp[f1],by simp[f9],by simp[f10],by simp,t,by rw[hst];simp[f5],by omega,by have:=hkp.next;omega,by simp<;>omega,by rw[hst];simp[htH,ht2,ht4,hn2,hn3,hn4,hn5],?_⟩
   (repeat (first|exact hkp|(refine aB.trans ?_ (aB.new _ _))|(refine aB.set ?_ (by have:=hkp.next;first|omega|(simp only[aA,aC];omega)) _)))
def aHt(v:Int)(x:Ed):List Int:=(if x.a=v then [x.b]else [])++(if x.b=v then [x.a]else [])
def nbr(es:List Ed)(v:Int):List Int:=es.flatMap (aHt v)
def iW(lo m:Nat)(es:List (List Int×LV))(st:St)(f:Int→List Int)(tok:Int→Nat):Prop:=
 ∀ v,(tok v=0→f v=[]∧aR es [v]=none)∧(tok v≠0→aR es [v]=some (.sl (tok v) (f v).length (us (f v)))∧lo≤tok v∧tok v<st.next∧tok v≠m∧st.H (tok v)=.own 34 1 (f v).length∧∀ w,tok w=tok v→w=v)
theorem iW.step{lo m:Nat}{es:List (List Int×LV)}{st st':St}{f:Int→List Int}{tok:Int→Nat}(h:iW lo m es st f tok)(a x:Int)(N:Nat)(hN:st.next≤N)(hN':N<st'.next)(hm:m<st.next)(h0:0<st.next)(hlo:lo≤st.next)
 (hH:∀ l,l≠tok a→l≠m→l<st.next→st'.H l=st.H l) (hO:st'.H N=.own 34 1 ((f a).length+1)):
 iW lo m (aS es [a] (.sl N ((f a).length+1) (us (f a++[x])))) st' (fun v=>if v=a then f a++[x]else f v) (fun v=>if v=a then N else tok v):=by
 intro v
 by_cases hv:v=a
 ·subst hv
  simp only[if_true]
  refine⟨fun h1=>by omega,fun _=>⟨by rw[cL];simp,by omega,hN',by omega,by rw[hO];simp,fun w hw=>?_⟩⟩
  by_cases hwv:w=v
  ·exact hwv
  ·rw[if_neg hwv]at hw
   by_cases h1:tok w=0
   ·omega
   ·have:=((h w).2 h1).2.2.1;omega
 ·simp only[if_neg hv]
  have hne:¬([v]:List Int)=[a]:=by simpa using hv
  refine⟨fun h1=>⟨((h v).1 h1).1,by rw[cL,if_neg hne];exact((h v).1 h1).2⟩,fun h1=>?_⟩
  obtain⟨k1,k2,k3,k4,k5,k6⟩:=(h v).2 h1
  refine⟨by rw[cL,if_neg hne];exact k1,k2,by omega,k4,?_,fun w hw=>?_⟩
  ·rw[hH (tok v) (fun e=>hv (k6 a e.symm).symm) k4 k3];exact k5
  ·by_cases hwa:w=a
   ·subst hwa;simp only[if_true]at hw;omega
   ·rw[if_neg hwa]at hw;exact k6 w hw
def aAP(es:List (List Int×LV))(f:Int→List Int):Prop:=∀ v,∃ t,norm ((aR es [v]).getD .nil)=.sl t (f v).length (us (f v))
theorem aAP.cases{es:List (List Int×LV)}{f:Int→List Int}(h:aAP es f)(v:Int):((aR es [v]).getD .nil=.nil∧f v=[])∨∃ t,(aR es [v]).getD .nil=.sl t (f v).length (us (f v)):=by
 obtain⟨t,ht⟩:=h v
 cases hx:(aR es [v]).getD .nil with
 |nil=>
  rw[hx]at ht
  left
  refine⟨rfl,?_⟩
  simp only[norm,LV.sl.injEq]at ht
  exact List.eq_nil_of_length_eq_zero ht.2.1.symm
 |_=>rw[hx]at ht;simp[norm]at ht<;>exact .inr ⟨t,by simp[ht]⟩
theorem aEL(p:Int→Bool)(l:List Int)(k:Nat)(hk:k<l.length):(l.take (k+1)).countP p=(l.take k).countP p+(if p (l.getD k 0)=true then 1 else 0):=by
 rw[List.take_succ_eq_append_getElem hk,List.countP_append,aX _ _ hk]
 simp[List.countP_cons]
inductive Reach(es:List Ed)(v:Int):Int→Prop
 |refl:Reach es v v
 |step {u w:Int} (h:Reach es v u) (hw:w∈nbr es u):Reach es v w
theorem uN{es:List Ed}{u w:Int}:w∈nbr es u↔∃ x∈es,(x.a=u∧x.b=w)∨(x.b=u∧x.a=w):=by
 unfold nbr aHt
 simp only[List.mem_flatMap,List.mem_append]
 constructor
 ·rintro⟨x,hx,h|h⟩
  ·refine⟨x,hx,.inl ?_⟩
   split at h
   ·rename_i h1;simp at h;exact⟨h1,h.symm⟩
   ·cases h
  ·refine⟨x,hx,.inr ?_⟩
   split at h
   ·rename_i h1;simp at h;exact⟨h1,h.symm⟩
   ·cases h
 ·rintro⟨x,hx,⟨h1,h2⟩|⟨h1,h2⟩⟩
  ·exact⟨x,hx,.inl (by simp[h1,h2])⟩
  ·exact⟨x,hx,.inr (by simp[h1,h2])⟩
theorem aDx{es:List Ed}{u w:Int}(h:w∈nbr es u):u∈nbr es w:=by
 rw[uN]at h ⊢
 obtain⟨x,hx,⟨h1,h2⟩|⟨h1,h2⟩⟩:=h
 ·exact⟨x,hx,.inr ⟨h2,h1⟩⟩
 ·exact⟨x,hx,.inl ⟨h2,h1⟩⟩
structure Good(g:Gr):Prop where
 rise:g.vs.Pairwise (· < ·)
 ends:∀ x∈g.es,x.a∈g.vs∧x.b∈g.vs
theorem Good.nbr{g:Gr}(h:Good g){u w:Int}(hw:w∈nbr g.es u):w∈g.vs:=by
 rw[uN]at hw
 obtain⟨x,hx,⟨_,rfl⟩|⟨_,rfl⟩⟩:=hw
 ·exact(h.ends x hx).2
 ·exact(h.ends x hx).1
theorem Good.nodup{g:Gr}(h:Good g):g.vs.Nodup:=h.rise.imp fun h=>by omega
def aDX(f:FuncId)(caps:List LV)(st:St)(l:List Ed)(p:Ed→Bool):Prop:=∀ x∈l,∀ st2,aB st st2→aF Tryz.prog f (.ag (edL x)::caps) st2 fun r st3=>r=bb (p x)∧aB st2 st3
theorem aBz(l:List Ed)(p:Ed→Bool)(k:Nat)(hk:k<l.length):(l.take (k+1)).filter p=if p (l.getD k ed0)=true then(l.take k).filter p++[l.getD k ed0]else(l.take k).filter p:=by
 rw[List.take_succ_eq_append_getElem hk,List.filter_append,List.getD_eq_getElem?_getD,List.getElem?_eq_getElem hk]
 by_cases h:p l[k]=true<;>simp[h]
def aQH(X:LV)(F:List Ed):Prop:=(X=.nil∧F=[])∨∃ t,X=.sl t F.length (eds F)
set_option maxHeartbeats 1000000 in
theorem aQv(g:Gr)(f:FuncId)(caps:List LV)(p:Ed→Bool)(st:St)(hv:g.vs.length≤1000)(he:g.es.length≤1000)(hp:aDX f caps st g.es p):
 aF Tryz.prog 111 [.ag (grL g),.fn (.func f) caps] st fun r st'=>(∃ X,r=.ag [.sl 0 g.vs.length (us g.vs),X]∧aQH X (g.es.filter p))∧aB st st':=by
 have hel:=aO g.es
 have hsm:small g.vs:=by unfold small;omega
 refine qO aK Tryz.func111 rfl rfl Tryz.ntmps111 (rs:=[.cell 4 25]) rfl (by simp) ?_
 (repeat' (first|refine qS ?_|(refine w_e [] ?_;intro J hJ;simp only[];simp[];(try (refine hJ _ _ ?_;clear hJ J;simp only[ak,reduceIte])))))
 refine qE (aJw g.vs 0 _ hsm) (by simp) ?_;rintro r s1 ⟨rfl,hk1⟩
 have hn1:=hk1.next
 simp only[aA]at hn1
 have hG1:s1.H st.next=.box 25 2 (grL g):=by rw[hk1.H _ (by simp;omega)];simp
 have hC1:s1.H (st.next+1)=.box 25 2 [.nil,.nil]:=by rw[hk1.H _ (by simp)];simp
 have e1:¬st.next=s1.next:=by omega
 (repeat' (first|refine qS ?_|refine qB ?_|((first|(refine w_e [] ?_;intro J hJ;simp only[])|(refine aL ?_));simp[hG1,e1];(refine hJ _ _ ?_;clear hJ J;simp only[ak,reduceIte]))))
 have hkp1:aB st s1:=((aB.new _ _).trans (aB.new _ _)).trans hk1
 obtain⟨q4,hq4⟩:∃ q,q=st.next+1:=⟨_,rfl⟩
 obtain⟨q5,hq5⟩:∃ q,q=s1.next:=⟨_,rfl⟩
 refine qL (fun n fr st2=>∃ k:Nat,k≤g.es.length∧n=g.es.length-k∧fr 1=.fn (.func f) caps∧fr 4=.pt q4 0∧fr 5=.pt q5 0∧fr 13=.sl 0 g.es.length (eds g.es)∧fr 14=i g.es.length∧fr 15=i k∧aB st st2∧q5<st2.next∧st2.H q4=.box 25 2 [.nil,.nil]∧∃ X,st2.H q5=.box 25 2 [.sl 0 g.vs.length (us g.vs),X]∧((X=.nil∧(g.es.take k).filter p=[])∨∃ t,X=.sl t ((g.es.take k).filter p).length (eds ((g.es.take k).filter p))∧t≠0∧q5<t∧t<st2.next∧st2.H t=.own 56 3 ((g.es.take k).filter p).length)) g.es.length ?_ ?_
 ·have e2:¬q4=s1.next:=by omega
  have e3:¬st.next+1=s1.next:=by omega
  refine⟨0,by omega,by omega,by simp,by simp[hq4],by simp[hq5],by simp,by simp,by simp,?_,by simp[hq5],by simp[e2,hC1,hq4,e3],.nil,by simp[hq5],.inl ⟨rfl,by simp⟩⟩
  (repeat (first|exact hkp1|(refine aB.trans ?_ (aB.new _ _))|(refine aB.set ?_ (by omega) _)))
 rintro n fr st2 ⟨k,hk,rfl,f1,f4,f5,f13,f14,f15,hkp,h5n,hC,X,hX,hXs⟩ JJ hJJ
 have e0:¬q4=q5:=by omega
 by_cases hlt:k<g.es.length
 rotate_left
 ·clear hJJ
  have hk':k=g.es.length:=by omega
  rw[hk',List.take_length]at hXs
  rcases hXs with⟨rfl,h⟩|⟨t,rfl,h⟩
  ·(repeat' (first|refine qS ?_|(refine qX ?_;simp only[ak,reduceIte])|(refine qR ?_;simp only[ak,reduceIte];simp[f4,f5,f14,f15,hlt,hX,hC,e0])|(refine qC ?_;simp[f4,f5,f14,f15,hlt,hX,hC,e0])|(refine w_e [] ?_;intro J hJ;simp only[];simp[f4,f5,f14,f15,hlt,hX,hC,e0];(refine hJ _ _ ?_;clear hJ J;simp only[ak,reduceIte]))))
   exact⟨.inl ⟨rfl,h⟩,(by repeat (first|exact hkp|(refine aB.trans ?_ (aB.new _ _))|(refine aB.set ?_ (by have:=hkp.next;omega) _)))⟩
  ·(repeat' (first|refine qS ?_|(refine qX ?_;simp only[ak,reduceIte])|(refine qR ?_;simp only[ak,reduceIte];simp[f4,f5,f14,f15,hlt,hX,hC,e0])|(refine qC ?_;simp[f4,f5,f14,f15,hlt,hX,hC,e0])|(refine w_e [] ?_;intro J hJ;simp only[];simp[f4,f5,f14,f15,hlt,hX,hC,e0];(refine hJ _ _ ?_;clear hJ J;simp only[ak,reduceIte]))))
   exact⟨.inr ⟨t,rfl⟩,(by repeat (first|exact hkp|(refine aB.trans ?_ (aB.new _ _))|(refine aB.set ?_ (by have:=hkp.next;omega) _)))⟩
 have hd:=bE g.es k hlt
 have hw:=qN k (by omega)
 have hk3:k*3<g.es.length*3:=by omega
 have hxin:g.es.getD k ed0∈g.es:=by rw[List.getD_eq_getElem?_getD,List.getElem?_eq_getElem hlt];exact List.getElem_mem hlt
 have hst:=aBz g.es p k hlt
 have hle:=List.length_filter_le p (g.es.take k)
 rw[List.length_take]at hle
 have htest:=fun s h=>hp _ hxin s h
 generalize hx:g.es.getD k ed0=x at *
 generalize hFF:(g.es.take k).filter p=F at *
 have hFl:=aO F
 have hFo:(eds F).length=F.length*3:=hFl
 obtain⟨d,a,b⟩:=x
 simp only at hd htest
 (repeat' (first|refine qS ?_|refine qB ?_|(refine qK ?_;simp only[ak,reduceIte])|(refine qC ?_;simp[f1,f13,f14,f15,hlt,hd,hel])|(refine w_e [] ?_;intro J hJ;simp only[];simp[f1,f13,f14,f15,hlt,hd,hel];(try (refine hJ _ _ ?_;clear hJ J;simp only[ak,reduceIte])))))
 refine qF (htest _ (hkp.trans (aB.new _ (.box 56 3 [u d,u a,u b])))) ?_;rintro r s3 ⟨rfl,hk3'⟩
 have hn3:=hk3'.next
 simp only[aA]at hn3
 have hkk:aB st2 s3:=(aB.new _ _).trans hk3'
 have hX3:=(hkk.H q5 h5n).trans hX
 have hC3:=(hkk.H q4 (by omega)).trans hC
 have hE3:s3.H st2.next=.box 56 3 [u d,u a,u b]:=by rw[hk3'.H _ (by simp)];simp
 have hkp3:aB st s3:=(hkp.trans (aB.new _ _)).trans hk3'
 have z1:¬q5=s3.next:=by omega
 have z2:¬q5=s3.next+1:=by omega
 have z3:¬q4=s3.next:=by omega
 have z4:¬q4=s3.next+1:=by omega
 have z5:¬s3.next+1=q5:=by omega
 by_cases hpx:p ⟨d,a,b⟩=true
 rotate_left
 ·rw[if_neg hpx]at hst
  have hpx:p ⟨d,a,b⟩=false:=by simpa using hpx
  (repeat' (first|(refine qK ?_;simp only[ak,reduceIte])|(refine qC ?_;simp[hpx,f15,hw])|((first|(refine w_e [] ?_;intro J hJ;simp only[])|(refine aL ?_));simp[hpx,f15,hw];(refine hJ _ _ ?_;clear hJ J;simp only[ak,reduceIte]))))
  refine hJJ (g.es.length-(k+1)) _ _ (by omega) ⟨k+1,by omega,rfl,by simp[f1],by simp[f4],by simp[f5],by simp[f13],by simp[f14],by simp,hkp3,by omega,hC3,X,hX3,?_⟩
  rw[hst]
  rcases hXs with h|⟨t,h,h0,h1,h2,h3⟩
  ·exact .inl h
  ·exact .inr ⟨t,h,h0,h1,by omega,(hkk.H t h2).trans h3⟩
 rw[if_pos hpx]at hst
 have hed:eds (F++[⟨d,a,b⟩])=eds F++[u d,u a,u b]:=by simp[eds]
 rcases hXs with⟨rfl,hF0⟩|⟨t,rfl,h0,h1,h2,h3⟩
 ·(repeat' (first|(refine qC ?_;simp[hpx,f5,f15,hw,hX3,hE3,z1,z2])|((first|(refine w_e [] ?_;intro J hJ;simp only[])|(refine aL ?_));simp[hpx,f5,f15,hw,hX3,hE3,z1,z2];(repeat refine ca ?_);(refine hJ _ _ ?_;clear hJ J;simp only[ak,reduceIte]))))
  refine hJJ (g.es.length-(k+1)) _ _ (by omega) ⟨k+1,by omega,rfl,by simp[f1],by simp[f4],by simp[f5],by simp[f13],by simp[f14],by simp,?_,by simp;omega,by simp[e0,z3,z4,hC3],_,by simp;rfl,.inr ⟨s3.next+1,by rw[hst,hed,hF0];simp[eds],by omega,by omega,by simp,by rw[hst,hF0];simp[z5]⟩⟩
  (repeat (first|exact hkp3|(refine aB.trans ?_ (aB.new _ _))|(refine aB.set ?_ (by omega) _)))
 ·have h3':s3.H t=.own 56 3 F.length:=(hkk.H t h2).trans h3
  have y1:¬t=s3.next:=by omega
  have y2:¬t=s3.next+1:=by omega
  have y3:¬q5=t:=by omega
  have y4:¬t=q5:=by omega
  have y5:¬q4=t:=by omega
  (repeat' (first|(refine qC ?_;simp[hpx,f5,f15,hw,hX3,hE3,z1,z2,h3',h0,y1,y2,y3,y4,hFo])|((first|(refine w_e [] ?_;intro J hJ;simp only[])|(refine aL ?_));simp[hpx,f5,f15,hw,hX3,hE3,z1,z2,h3',h0,y1,y2,y3,y4,hFo];(repeat refine ca ?_);(refine hJ _ _ ?_;clear hJ J;simp only[ak,reduceIte]))))
  refine hJJ (g.es.length-(k+1)) _ _ (by omega) ⟨k+1,by omega,rfl,by simp[f1],by simp[f4],by simp[f5],by simp[f13],by simp[f14],by simp,?_,by simp;omega,by simp[e0,z3,z4,y5,hC3],_,by simp;rfl,.inr ⟨s3.next+1,by rw[hst,hed];simp,by omega,by omega,by simp,by rw[hst];simp[z5]⟩⟩
  (repeat (first|exact hkp3|(refine aB.trans ?_ (aB.new _ _))|(refine aB.set ?_ (by omega) _)))
theorem lV{f:Nat→Int}{n:Nat}(h:bL f n=0):∀ j,j<n→f j=0:=by
 induction n with
 |zero=>intro j hj;omega
 |succ n ih=>
  intro j hj
  simp only[bL]at h
  by_cases h0:bL f n=0
  ·rw[if_neg (by simp[h0])]at h
   rcases Nat.lt_or_ge j n with h1|h1
   ·exact ih h0 j h1
   ·obtain rfl:j=n:=by omega
    exact h
  ·rw[if_pos h0]at h;exact absurd h h0
theorem rP{n a:Int}{b:Bool}(h:dI n a b=0):1≤n∧n≤1048576∧(b=false→a<n):=by
 unfold dI at h
 by_cases h1:n<1∨1048576<n
 ·rw[if_pos h1]at h;cases h
 ·rw[if_neg h1]at h
  by_cases h2:b=false∧n≤a
  ·rw[if_pos h2]at h;cases h
  ·refine⟨by omega,by omega,fun hb=>?_⟩
   rcases Int.lt_or_le a n with h3|h3
   ·exact h3
   ·exact absurd ⟨hb,h3⟩ h2
theorem aKQ{l:List Int}(h:∀ j,j<l.length→0<j→l.getD (j-1) 0<l.getD j 0):l.Pairwise (· < ·):=by
 rw[List.pairwise_iff_getElem]
 intro a b ha hb hab
 induction b with
 |zero=>omega
 |succ b ih=>
  have h1:=h (b+1) hb (by omega)
  rw[Nat.add_sub_cancel,aX _ _ hb,aX _ _ (by omega)]at h1
  rcases Nat.lt_or_ge a b with h2|h2
  ·have:=ih (by omega) h2;omega
  ·obtain rfl:a=b:=by omega
   exact h1
theorem xB{g:Gr}(h:chk g=0):Good g∧aGk g.es∧g.vs.length≤64∧g.es.length≤160:=by
 unfold chk at h
 by_cases h1:64<g.vs.length∨160<g.es.length
 ·rw[if_pos h1]at h;cases h
 ·rw[if_neg h1]at h
  by_cases h2:bL (iI g) g.vs.length=0
  ·rw[if_neg (by simp[h2])]at h
   have hV:=lV h2
   have hE:=lV h
   have hEx:∀ j,j<g.es.length→(1≤(g.es.getD j ed0).id∧(g.es.getD j ed0).id≤1048576)∧(g.es.getD j ed0).a∈g.vs∧(g.es.getD j ed0).b∈g.vs:=by
    intro j hj
    have:=hE j hj
    unfold iN at this
    simp only at this
    by_cases h3:dI (g.es.getD j ed0).id (g.es.getD (j-1) ed0).id (decide (j=0))=0
    ·rw[if_neg (fun h=>h h3)]at this
     by_cases h4:(g.es.getD j ed0).a=(g.es.getD j ed0).b
     ·rw[if_pos h4]at this;cases this
     ·rw[if_neg h4]at this
      by_cases h5:(g.es.getD j ed0).a∉g.vs∨(g.es.getD j ed0).b∉g.vs
      ·rw[if_pos h5]at this;cases this
      ·have h6:=rP h3
       refine⟨⟨h6.1,h6.2.1⟩,?_,?_⟩
       ·exact Classical.byContradiction fun h=>h5 (.inl h)
       ·exact Classical.byContradiction fun h=>h5 (.inr h)
    ·rw[if_pos h3]at this;exact absurd this h3
   have hget:∀ x∈g.es,∃ j,j<g.es.length∧g.es.getD j ed0=x:=by
    intro x hx
    obtain⟨j,hj,rfl⟩:=List.getElem_of_mem hx
    exact⟨j,hj,by rw[List.getD_eq_getElem?_getD,List.getElem?_eq_getElem hj];rfl⟩
   refine⟨⟨aKQ fun j hj h0=>?_,fun x hx=>?_⟩,fun x hx=>?_,by omega,by omega⟩
   ·have:=(rP (hV j hj)).2.2 (by simp;omega)
    exact this
   ·obtain⟨j,hj,rfl⟩:=hget x hx
    exact(hEx j hj).2
   ·obtain⟨j,hj,rfl⟩:=hget x hx
    have:=(hEx j hj).1;omega
  ·rw[if_pos h2]at h;exact absurd h h2
end Go.Proofs.YtempldclppogmaaGreatDoor.Aw
namespace Go.Proofs.YtempldclppogmaaGreatDoor.Aw
open Go Go.RowKit Go.Proofs.YtempldclppogmaaGreatDoor.Pl Go.Proofs.YtempldclppogmaaGreatDoor.Eu
def bP(es:List Ed):List Int:=es.flatMap fun x=>[2*x.id,2*x.id+1]
structure GoodE(g:Gr):Prop extends Good g where
 ids:g.es.Pairwise (fun x y=>x.id<y.id)
 pos:∀ x∈g.es,1≤x.id∧x.id≤1048576
 ne:∀ x∈g.es,x.a≠x.b
theorem cC(l:List Ed)(j:Nat)(hj:j<l.length):l.getD j ed0=l[j]:=by
 rw[List.getD_eq_getElem?_getD,List.getElem?_eq_getElem hj];rfl
theorem eD{g:Gr}(h:chk g=0):GoodE g:=by
 obtain⟨hg,_,_,_⟩:=xB h
 unfold chk at h
 by_cases h1:64<g.vs.length∨160<g.es.length
 ·rw[if_pos h1]at h;cases h
 rw[if_neg h1]at h
 by_cases h2:bL (iI g) g.vs.length=0
 ·rw[if_neg (by simp[h2])]at h
  have hE:=lV h
  have hEx:∀ j,j<g.es.length→((1≤(g.es.getD j ed0).id∧(g.es.getD j ed0).id≤1048576)∧(0<j→(g.es.getD (j-1) ed0).id<(g.es.getD j ed0).id))∧(g.es.getD j ed0).a≠(g.es.getD j ed0).b:=by
   intro j hj
   have:=hE j hj
   unfold iN at this
   simp only at this
   by_cases h3:dI (g.es.getD j ed0).id (g.es.getD (j-1) ed0).id (decide (j=0))=0
   ·rw[if_neg (fun h=>h h3)]at this
    by_cases h4:(g.es.getD j ed0).a=(g.es.getD j ed0).b
    ·rw[if_pos h4]at this;cases this
    ·have h6:=rP h3
     exact⟨⟨⟨h6.1,h6.2.1⟩,fun h0=>h6.2.2 (by simp;omega)⟩,h4⟩
   ·rw[if_pos h3]at this;exact absurd this h3
  have hget:∀ x∈g.es,∃ j,j<g.es.length∧g.es.getD j ed0=x:=by
   intro x hx
   obtain⟨j,hj,rfl⟩:=List.getElem_of_mem hx
   exact⟨j,hj,cC _ _ hj⟩
  refine⟨hg,?_,fun x hx=>?_,fun x hx=>?_⟩
  ·rw[List.pairwise_iff_getElem]
   intro a b ha hb hab
   induction b with
   |zero=>omega
   |succ b ih=>
    have h1:=(hEx (b+1) hb).1.2 (by omega)
    rw[Nat.add_sub_cancel,cC _ _ hb,cC _ _ (by omega)]at h1
    rcases Nat.lt_or_ge a b with h2|h2
    ·have:=ih (by omega) h2;omega
    ·obtain rfl:a=b:=by omega
     exact h1
  ·obtain⟨j,hj,rfl⟩:=hget x hx
   exact(hEx j hj).1.1
  ·obtain⟨j,hj,rfl⟩:=hget x hx
   exact(hEx j hj).2
 ·rw[if_pos h2]at h;exact absurd h h2
theorem id_eq{es:List Ed}(h:es.Pairwise (fun x y=>x.id<y.id)){x y:Ed}(hx:x∈es)(hy:y∈es)(he:x.id=y.id):x=y:=by
 obtain⟨j,hj,rfl⟩:=List.getElem_of_mem hx
 obtain⟨k,hk,rfl⟩:=List.getElem_of_mem hy
 rcases Nat.lt_trichotomy j k with h1|h1|h1
 ·have:=List.pairwise_iff_getElem.1 h j k hj hk h1;omega
 ·subst h1;rfl
 ·have:=List.pairwise_iff_getElem.1 h k j hk hj h1;omega
theorem dJ{es:List Ed}{v d:Int}:d∈ends es v↔∃ x∈es,(x.a=v∧d=2*x.id)∨(x.b=v∧d=2*x.id+1):=by
 unfold ends
 rw[List.mem_flatMap]
 refine exists_congr fun x=>and_congr_right fun _=>?_
 unfold jM
 rw[List.mem_append]
 refine or_congr ?_ ?_
 ·split
  ·rename_i h;simp[h]
  ·rename_i h;simp[h]
 ·split
  ·rename_i h;simp[h]
  ·rename_i h;simp[h]
theorem nS{es:List Ed}{d:Int}:d∈bP es↔∃ x∈es,d=2*x.id∨d=2*x.id+1:=by
 unfold bP
 rw[List.mem_flatMap]
 refine exists_congr fun x=>and_congr_right fun _=>?_
 simp
theorem vK{es:List Ed}{d:Int}:d∈bP es↔∃ x∈es,x.id=d / 2:=by
 rw[nS]
 refine exists_congr fun x=>and_congr_right fun _=>?_
 omega
theorem nF{es:List Ed}(h:es.Pairwise (fun x y=>x.id<y.id))(v:Int):(ends es v).Pairwise (· < ·):=by
 unfold ends
 rw[List.pairwise_flatMap]
 refine⟨fun x _=>?_,h.imp fun {x y} hxy a ha b hb=>?_⟩
 ·unfold jM
  by_cases h1:x.a=v<;>by_cases h2:x.b=v<;>simp[h1,h2]
  omega
 ·unfold jM at ha hb
  simp only[List.mem_append]at ha hb
  have h1:a=2*x.id∨a=2*x.id+1:=by
   rcases ha with ha|ha<;>split at ha<;>simp at ha
   ·exact .inl ha
   ·exact .inr ha
  have h2:b=2*y.id∨b=2*y.id+1:=by
   rcases hb with hb|hb<;>split at hb<;>simp at hb
   ·exact .inl hb
   ·exact .inr hb
  omega
theorem lB{l:List Int}(h:l.Pairwise (· < ·)):l.Nodup:=h.imp fun h=>by omega
theorem aBP(es:List Ed):(bP es).length=2*es.length:=by
 induction es with
 |nil=>rfl
 |cons x l ih=>simp only[bP,List.flatMap_cons,List.length_append,List.length_cons,List.length_nil]at ih ⊢;omega
def aNu(es:List Ed)(v:Int)(t:List Int):Prop:=t.Perm (ends es v)∧nrm t=t
structure aIW(m:Mp):Prop where
 g:GoodE m.g
 len:m.rots.length=m.g.vs.length
 ok:∀ k,k<m.g.vs.length→aNu m.g.es (m.g.vs.getD k 0) (m.rots.getD k [])
theorem aHE{es:List Ed}(h:es.Pairwise (fun x y=>x.id<y.id)){d v w:Int}(hv:d∈ends es v)(hw:d∈ends es w):v=w:=by
 rw[dJ]at hv hw
 obtain⟨x,hx,h1⟩:=hv
 obtain⟨y,hy,h2⟩:=hw
 have he:x.id=y.id:=by omega
 have:=id_eq h hx hy he
 subst this
 omega
theorem nU{es:List Ed}{d v:Int}(h:d∈ends es v):d∈bP es:=by
 rw[dJ]at h
 rw[nS]
 obtain⟨x,hx,h1⟩:=h
 exact⟨x,hx,by omega⟩
theorem aLw{es:List Ed}{d:Int}(h:d∈bP es):∃ v,d∈ends es v∧∃ x∈es,x.id=d / 2∧(v=x.a∨v=x.b):=by
 rw[nS]at h
 obtain⟨x,hx,h1|h1⟩:=h
 ·exact⟨x.a,dJ.2 ⟨x,hx,.inl ⟨rfl,h1⟩⟩,x,hx,by omega,.inl rfl⟩
 ·exact⟨x.b,dJ.2 ⟨x,hx,.inr ⟨rfl,h1⟩⟩,x,hx,by omega,.inr rfl⟩
theorem gM(l:List (List Int))(j:Nat)(hj:j<l.length):l.getD j []=l[j]:=by
 rw[List.getD_eq_getElem?_getD,List.getElem?_eq_getElem hj];rfl
section
variable {m:Mp} (h:aIW m)
include h
end
theorem aNk(d:Int):tw d / 2=d / 2:=by unfold tw;split<;>omega
theorem aGr(d:Int):tw (tw d)=d:=by unfold tw;split<;>split<;>omega
theorem pY{es:List Ed}{d:Int}:tw d∈bP es↔d∈bP es:=by rw[vK,vK,aNk]
section
variable {m:Mp} (h:aIW m)
include h
end
section
variable {m:Mp} (h:aIW m)
include h
end
end Go.Proofs.YtempldclppogmaaGreatDoor.Aw
