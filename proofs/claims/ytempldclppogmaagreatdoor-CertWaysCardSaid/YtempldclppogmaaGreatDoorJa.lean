/- Plain lists of numbers: places, least ones, turns. No program. -/
import Derived.RangeFuncBox
import Derived.RangeFuncLeaves
import Derived.Shelf.Abstract
import Derived.WalkKit
import Derived.OwnWalkIn
import Derived.TacticsInMore
import Derived.LoopNIn
import Derived.LoopIn
import Derived.Maps.AppendAt
import Derived.Test.YtempldclppogmaaGreatDoorProg
import Derived.Test.YtempldclppogmaaGreatDoorAwSet
import Derived.IntWalk
import Derived.Test.YtempldclppogmaaGreatDoorAwTd
set_option linter.unusedVariables false
set_option linter.unusedSimpArgs false
namespace Go.Proofs.YtempldclppogmaaGreatDoor.Pl
def gi(l:List Int)(x:Int):Int:=if x∈l then(l.idxOf x:Int)else -1
theorem aLO{l:List Int}{x:Int}{k:Nat}(hk:k<l.length)(h:l[k]=x)(hn:∀ j (hj:j<k),l[j]'(by omega)≠x):gi l x=k:=by
 have hm:x∈l:=by rw[← h];exact List.getElem_mem hk
 unfold gi
 rw[if_pos hm]
 congr 1
 have h1:l.idxOf x<l.length:=List.idxOf_lt_length_of_mem hm
 have h2:l[l.idxOf x]=x:=List.getElem_idxOf h1
 rcases Nat.lt_trichotomy (l.idxOf x) k with h3|h3|h3
 ·exact absurd h2 (hn _ h3)
 ·exact h3
 ·have:=List.not_of_lt_findIdx (p:=fun y=>y==x) (xs:=l) (i:=k) (by simpa[List.idxOf]using h3)
  simp[h]at this
theorem aMb{l:List Int}{x:Int}(hn:∀ j (hj:j<l.length),l[j]≠x):gi l x = -1:=by
 unfold gi
 rw[if_neg]
 intro hm
 obtain⟨j,hj,h⟩:=List.getElem_of_mem hm
 exact hn j hj h
theorem aBI(l:List Int)(x:Int):gi l x<0↔x∉l:=by
 unfold gi
 split
 ·rename_i h;simp[h]
 ·rename_i h;simp[h]
def mn:List Int→Int
 |[]=>0
 |x::l=>l.foldl (fun a b=>if b<a then b else a) x
theorem pX(l:List Int):∀ a:Int,l.foldl (fun a b=>if b<a then b else a) a≤a∧(∀ x∈l,l.foldl (fun a b=>if b<a then b else a) a≤x)∧(l.foldl (fun a b=>if b<a then b else a) a=a∨l.foldl (fun a b=>if b<a then b else a) a∈l):=by
 induction l with
 |nil=>intro a;simp
 |cons b l ih=>
  intro a
  simp only[List.foldl_cons]
  obtain⟨h1,h2,h3⟩:=ih (if b<a then b else a)
  have c1:(if b<a then b else a)≤a:=by split<;>omega
  have c2:(if b<a then b else a)≤b:=by split<;>omega
  refine⟨Int.le_trans h1 c1,?_,?_⟩
  ·intro x hx
   rcases List.mem_cons.1 hx with rfl|hx
   ·exact Int.le_trans h1 c2
   ·exact h2 x hx
  ·rcases h3 with h3|h3
   ·rw[h3]
    split
    ·right;simp
    ·left;rfl
   ·right;simp[h3]
theorem aMN{l:List Int}{x:Int}(hx:x∈l):mn l≤x:=by
 cases l with
 |nil=>simp at hx
 |cons a l=>
  obtain⟨h1,h2,_⟩:=pX l a
  rcases List.mem_cons.1 hx with rfl|hx
  ·exact h1
  ·exact h2 x hx
theorem aEp{l:List Int}(h:l≠[]):mn l∈l:=by
 cases l with
 |nil=>exact absurd rfl h
 |cons a l=>
  obtain⟨_,_,h3⟩:=pX l a
  rcases h3 with h3|h3
  ·simp only[mn];rw[h3];simp
  ·simp only[mn];exact List.mem_cons_of_mem _ h3
theorem aOJ{l:List Int}{m:Int}(hm:m∈l)(h:∀ x∈l,m≤x):mn l=m:=by
 have h1:=aMN hm
 have h2:=h _ (aEp (List.ne_nil_of_mem hm))
 omega
theorem aHc(l:List Int)(x:Int)(h:l≠[]):mn (l++[x])=if x<mn l then x else mn l:=by
 cases l with
 |nil=>exact absurd rfl h
 |cons a l=>rw[List.cons_append,mn,List.foldl_append];rfl
theorem aLu(l:List Int)(k:Nat)(h0:0<k)(hk:k<l.length):mn (l.take (k+1))=if l[k] < mn (l.take k)then l[k]else mn (l.take k):=by
 rw[List.take_succ_eq_append_getElem hk,aHc]
 intro h
 have:=congrArg List.length h
 rw[List.length_take,List.length_nil]at this
 omega
def rt(l:List Int)(k:Nat):List Int:=l.drop k++l.take k
def nrm(l:List Int):List Int:=rt l (l.idxOf (mn l))
theorem zN(l:List Int)(k:Nat):(rt l k).length=l.length:=by simp[rt];omega
theorem aEY(l:List Int):(nrm l).length=l.length:=zN _ _
end Go.Proofs.YtempldclppogmaaGreatDoor.Pl
namespace Go.Proofs.YtempldclppogmaaGreatDoor.Eu
open Go
def it(f:Int→Int):Nat→Int→Int
 |0,x=>x
 |n+1,x=>it f n (f x)
section
variable {f f':Int→Int} {a b:Int}
end
end Go.Proofs.YtempldclppogmaaGreatDoor.Eu
namespace Go.Proofs.YtempldclppogmaaGreatDoor.Pl
def sw(c:List Int)(a b:Nat):List Int:=(c.set a (c.getD b 0)).set b (c.getD a 0)
theorem aHk(c:List Int)(a b:Nat):(sw c a b).length=c.length:=by simp[sw]
theorem aIi(c:List Int)(a b j:Nat)(ha:a<c.length)(hb:b<c.length):(sw c a b).getD j 0=if j=b then c.getD a 0 else if j=a then c.getD b 0 else c.getD j 0:=by
 unfold sw
 simp only[List.getD_eq_getElem?_getD,List.getElem?_set]
 by_cases h1:b=j
 ·subst h1;simp[hb]
 ·by_cases h2:a=j
  ·subst h2;simp[h1,ha,Ne.symm h1]
  ·simp[h1,h2,Ne.symm h1,Ne.symm h2]
theorem aKJ(c:List Int)(a b:Nat)(ha:a<c.length)(hb:b<c.length):(sw c a b).Perm c:=by
 unfold sw
 have h:=List.set_set_perm ha hb
 simp only[List.getD_eq_getElem?_getD,List.getElem?_eq_getElem ha,List.getElem?_eq_getElem hb,Option.getD_some]
 exact h
inductive Pm(a b:Nat)(l:List Int):List Int→Prop
 |refl:Pm a b l l
 |step {m:List Int} (h:Pm a b l m) (x y:Nat) (hx:a≤x) (hx':x<b) (hy:a≤y) (hy':y<b) (hb:b≤l.length):Pm a b l (sw m x y)
theorem Pm.len{a b:Nat}{l m:List Int}(h:Pm a b l m):m.length=l.length:=by
 induction h with
 |refl=>rfl
 |step h x y _ _ _ _ _ ih=>rw[aHk];exact ih
theorem Pm.trans{a b:Nat}{l m n:List Int}(h:Pm a b l m)(k:Pm a b m n):Pm a b l n:=by
 induction k with
 |refl=>exact h
 |step k x y h1 h2 h3 h4 h5 ih=>have:=h.len;exact ih.step x y h1 h2 h3 h4 (by omega)
theorem Pm.wide{a b a' b':Nat}{l m:List Int}(h:Pm a b l m)(ha:a'≤a)(hb:b≤b')(hl:b'≤l.length):Pm a' b' l m:=by
 induction h with
 |refl=>exact .refl
 |step k x y h1 h2 h3 h4 h5 ih=>exact ih.step x y (by omega) (by omega) (by omega) (by omega) hl
theorem Pm.perm{a b:Nat}{l m:List Int}(h:Pm a b l m):m.Perm l:=by
 induction h with
 |refl=>exact .refl _
 |step k x y h1 h2 h3 h4 h5 ih=>have:=k.len;exact(aKJ _ _ _ (by omega) (by omega)).trans ih
def Srt(a b:Nat)(l:List Int):Prop:=∀ p q,a≤p→p<q→q<b→l.getD p 0≤l.getD q 0
def Ins(a j i:Nat)(d:List Int):Prop:=∀ p q,a≤p→p<q→q≤i→q≠j→d.getD p 0≤d.getD q 0
theorem Srt.ins{a i:Nat}{d:List Int}(h:Srt a i d):Ins a i i d:=fun p q h1 h2 h3 h4=>h p q h1 h2 (by omega)
theorem Ins.step{a j i:Nat}{d:List Int}(h:Ins a j i d)(hj:a<j)(hi:j≤i)(hil:i<d.length)(hlt:d.getD j 0<d.getD (j-1) 0):Ins a (j-1) i (sw d j (j-1)):=by
 intro p q h1 h2 h3 h4
 rw[aIi _ _ _ _ (by omega) (by omega),aIi _ _ _ _ (by omega) (by omega)]
 by_cases e1:q=j
 ·rw[if_neg h4,if_pos e1]
  by_cases e2:p=j-1
  ·rw[if_pos e2];omega
  ·rw[if_neg e2,if_neg (by omega)];exact h p (j-1) h1 (by omega) (by omega) (by omega)
 ·rw[if_neg h4,if_neg e1]
  by_cases e2:p=j-1
  ·rw[if_pos e2];exact h j q (by omega) (by omega) h3 e1
  ·rw[if_neg e2]
   by_cases e3:p=j
   ·rw[if_pos e3];exact h (j-1) q (by omega) (by omega) h3 e1
   ·rw[if_neg e3];exact h p q h1 h2 h3 e1
theorem Ins.done{a j i:Nat}{d:List Int}(h:Ins a j i d)(hj:a≤j)(hs:j=a∨¬d.getD j 0<d.getD (j-1) 0):Srt a (i+1) d:=by
 intro p q h1 h2 h3
 by_cases e:q=j
 ·subst e
  have h5:¬d.getD q 0<d.getD (q-1) 0:=by rcases hs with hs|hs;omega;exact hs
  by_cases e2:p=q-1
  ·subst e2;omega
  ·have:=h p (q-1) h1 (by omega) (by omega) (by omega);omega
 ·exact h p q h1 h2 (by omega) e
theorem pI{l:List Int}(h:Srt 0 l.length l):l.Pairwise (·≤·):=by
 refine List.pairwise_iff_getElem.2 fun p q hp hq hpq=>?_
 have:=h p q (by omega) hpq hq
 rwa [List.getD_eq_getElem?_getD,List.getD_eq_getElem?_getD,List.getElem?_eq_getElem hp,List.getElem?_eq_getElem hq]at this
theorem xL{l m:List Int}(h:l.Pairwise (·≤·))(k:m.Pairwise (·≤·))(hp:l.Perm m):l=m:=
 hp.eq_of_pairwise (fun a b _ _ h1 h2=>by omega) h k
end Go.Proofs.YtempldclppogmaaGreatDoor.Pl
namespace Go.Proofs.YtempldclppogmaaGreatDoor.Rg
open Go Go.RowKit Go.Shelf
attribute [local go_sem] Oper.semAt_some
def upto(zs:List Int)(k:Nat):List Int:=(List.range k).map fun j=>zs[j]?.getD 0
theorem aAz(zs:List Int)(k:Nat):upto zs (k+1)=upto zs k++[zs[k]?.getD 0]:=by simp[upto,List.range_succ]
theorem aCq(zs:List Int)(k:Nat):(upto zs k).length=k:=by simp[upto]
theorem aIl(zs:List Int):upto zs zs.length=zs:=by
 apply List.ext_getElem
 ·simp[upto]
 ·intro i h1 h2
  simp[upto,h2]
set_option maxRecDepth 100000 in
set_option maxHeartbeats 2000000 in
theorem aEg(F:Fence)(n:Nat)(h7:F.fn 140)(hro:F.round=none)(hn:1≤n)(l Bs n₀ b off len cap:Nat)(zs:List Int)(hlen:len≤1048576)(hb:b<n₀)(J Jx:List Int→World→Prop)
 (hY:∀ pre x W,J pre W→pre.length<len→YieldAt F (n-1) Tryz.prog l #[.int .u32 x] W fun e W'=>
   (e=.returned (.bool true)∧J (pre++[x]) W'∧Below n₀ W W')∨(e=.returned (.bool false)∧Jx (pre++[x]) W'))
 (W:World) (hBs:W.cell? ⟨Bs,0,none⟩=some (.slice (some ⟨b,off,none⟩) len cap)) (hc:∀ j,j<len→W.cell? ⟨b,off+j,none⟩=some (.int .u32 (zs[j]?.getD 0))) (h0:J [] W):
 CallsIn F n Tryz.prog 140 #[.func (.yield l) #[] #[],.pointer (some ⟨Bs,0,none⟩)] W fun e W'=>(∃ v,e=.returned v)∧
  ((∃ ys,ys=upto zs len∧J ys W')∨(∃ pre,(∃ k,k≤len∧pre=upto zs k)∧Jx pre W')):=by
 refine callsIn_of_wp Tryz.func140 rfl h7 ?_ hro
 simp only[Tryz.ntmps140,List.size_toArray,List.length_cons,List.length_nil,Nat.reduceAdd,Nat.reduceSub,Array.replicate_succ,Array.replicate_zero,List.push_toArray,List.append_toArray,List.nil_append,List.cons_append]
 gi_wp2
 gi_loopw [7] (fun i wr=>∃ k:Nat,k≤len∧i=.int .i64 k∧J (upto zs k) wr∧Below n₀ W wr)
  (fun i _=>len-(intOf i).toNat)
 case atStart=>exact⟨0,Nat.zero_le _,rfl,h0,Below.refl _ _⟩
 case round=>
  obtain⟨k,hk,rfl,hJs,hnx⟩:=hrel
  have hcx:k<len→wr.cell? ⟨b,off+k,none⟩=some (.int .u32 (zs[k]?.getD 0)):=fun h=>(hnx.cell (p:=⟨b,off+k,none⟩) hb).trans (hc k h)
  by_cases hlt:k<len
  ·obtain⟨fn,tmps,assign,body,hy,hR⟩:=hY _ (zs[k]?.getD 0) wr hJs (by rw[aCq];exact hlt)
   have hcx':=hcx hlt
   gi_wp2
   refine hR.mono ?_
   rintro e W3 (⟨rfl,hJ3,hk3⟩|⟨rfl,hJx3⟩)
   ·gi_wp2
    go_roundw
    case rel=>exact⟨k+1,by omega,by simp,by rw[aAz];exact hJ3,hnx.trans hk3⟩
    case measure=>simp[intOf];omega
   ·gi_wp2
    refine bodyPost_ret (results_none rfl _ _ _) rfl ?_
    exact⟨⟨_,rfl⟩,.inr ⟨_,⟨k+1,by omega,(aAz _ _).symm⟩,hJx3⟩⟩
  ·obtain rfl:k=len:=by omega
   gi_wp2
   go_end0
   exact⟨⟨_,rfl⟩,.inl ⟨_,rfl,hJs⟩⟩
set_option maxRecDepth 100000 in
set_option maxHeartbeats 1000000 in
theorem yN(F:Fence)(n:Nat)(h7:F.fn 140)(hro:F.round=none)(l Bs:Nat)(J:List Int→World→Prop)(W:World)(A:Option Addr)(cap:Nat)(hBs:W.cell? ⟨Bs,0,none⟩=some (.slice A 0 cap))(h0:J [] W):
 CallsIn F n Tryz.prog 140 #[.func (.yield l) #[] #[],.pointer (some ⟨Bs,0,none⟩)] W fun e W'=>(∃ v,e=.returned v)∧J [] W':=by
 refine callsIn_of_wp Tryz.func140 rfl h7 ?_ hro
 simp only[Tryz.ntmps140,List.size_toArray,List.length_cons,List.length_nil,Nat.reduceAdd,Nat.reduceSub,Array.replicate_succ,Array.replicate_zero,List.push_toArray,List.append_toArray,List.nil_append,List.cons_append]
 gi_wp2
 gi_loopw [7] (fun i wr=>i=.int .i64 0∧J [] wr) (fun _ _=>0)
 case atStart=>exact⟨rfl,h0⟩
 case round=>
  obtain⟨rfl,hJs⟩:=hrel
  gi_wp2
  go_end0
  exact⟨⟨_,rfl⟩,hJs⟩
def aEu(n₀:Nat)(W:World)(sv:Value)(zs:List Int):Prop:=
 (zs=[]∧∃ A cap,sv=.slice A 0 cap)∨∃ b off cap,sv=.slice (some ⟨b,off,none⟩) zs.length cap∧b<n₀∧∀ j,j<zs.length→W.cell? ⟨b,off+j,none⟩=some (.int .u32 (zs[j]?.getD 0))
theorem aEu.below{n₀:Nat}{A B:World}(h:Below n₀ A B){sv:Value}{zs:List Int}:aEu n₀ A sv zs→aEu n₀ B sv zs
 |.inl e=>.inl e
 |.inr ⟨b,off,cap,e,hb,hc⟩=>.inr ⟨b,off,cap,e,hb,fun j hj=>(h.cell (p:=⟨b,off+j,none⟩) hb).trans (hc j hj)⟩
theorem aBQ(F:Fence)(n:Nat)(h7:F.fn 140)(hro:F.round=none)(hn:1≤n)(Bs n₀:Nat)(sv:Value)(zs:List Int)(hlen:zs.length≤1048576)(w:World)(hBs:Bs<w.heap.size)(hn₀:n₀≤w.heap.size)
 (hc:w.cell? ⟨Bs,0,none⟩=some sv) (hI:aEu n₀ w sv zs):
 SeqStopsK F n Tryz.prog 140 #[.pointer (some ⟨Bs,0,none⟩)] (fun x:Int=>#[Value.int .u32 x]) (Below n₀) (fun ys=>ys=zs) (fun _=>True) zs.length w:=fun l J Jx W hW _ _ hY h0=>by
 have hc':=(hW.cell (p:=⟨Bs,0,none⟩) hBs).trans hc
 rcases hI.below (hW.mono hn₀)with⟨rfl,A,cap,rfl⟩|⟨b,off,cap,rfl,hb,hcs⟩
 ·exact(yN F n h7 hro l Bs J W A cap hc' h0).mono fun e W' ⟨he,hj⟩=>⟨he,.inl ⟨_,rfl,hj⟩⟩
 ·refine(aEg F n h7 hro hn l Bs n₀ b off zs.length cap zs hlen hb J Jx hY W hc' hcs h0).mono ?_
  rintro e W' ⟨he,⟨ys,rfl,hj⟩|⟨pre,⟨k,hk,rfl⟩,hj⟩⟩
  ·exact⟨he,.inl ⟨_,aIl zs,hj⟩⟩
  ·exact⟨he,.inr ⟨_,trivial,hj⟩⟩
theorem aIf:(Tryz.prog.info? 34).map (fun i=>(i.zero,i.size,i.bytes))=some (some (.int .u32 0),1,4):=by kernel_rfl
set_option maxRecDepth 100000 in
set_option maxHeartbeats 2000000 in
theorem aBk(F:Fence)(n:Nat)(h3:F.fn 121)(h7:F.fn 140)(hro:F.round=none)(hn:3≤n)(Bs:Nat)(sv:Value)(zs:List Int)(hlen:zs.length≤1048576)(w:World)(hBs:Bs<w.heap.size)
 (hc:w.cell? ⟨Bs,0,none⟩=some sv) (hI:aEu w.heap.size w sv zs):
 CallsIn F n Tryz.prog 121 #[.slice none 0 0,.func (.func 140) #[] #[.pointer (some ⟨Bs,0,none⟩)]] w fun e W'=>∃ v,e=.returned v∧W'.ownsRow w.heap.size 34 1 v zs.length (zs.map (Value.int .u32))∧Below w.heap.size w W':=by
 have h1:1≤n:=by omega
 obtain⟨i0,hi,hz0,hz1,hz2⟩:=info_parts aIf
 refine callsIn_of_wp_marks Tryz.func121 rfl h3 ?_ hro
 simp only[Tryz.ntmps121,List.size_toArray,List.length_cons,List.length_nil,Nat.reduceAdd,Nat.reduceSub,Array.replicate_succ,Array.replicate_zero,List.push_toArray,List.append_toArray,List.nil_append,List.cons_append]
 gi_wp2
 have bO:=Boxed.new w 22 (.slice none 0 0)
 have hB0:Below w.heap.size w (w.alloc (.cells #[.slice none 0 0] 22)):=(Below.refl _ w).alloc (Nat.le_refl _) _
 refine wpIn_rangeFunc_ownG hro h1 (gf:=140) (lb:=#[.pointer (some ⟨Bs,0,none⟩)]) rfl h7 (enters_of Tryz.func140 (by kernel_rfl) rfl)
  (aBQ F (n-1) h7 hro (by omega) Bs w.heap.size sv zs hlen _ (by simp;omega) (by simp) ((hB0.cell (p:=⟨Bs,0,none⟩) hBs).trans hc) (hI.below hB0)) belowK_t (belowK_b (by simp)) (Below.refl _ _) (fun _=>rfl)
  (fun pre W=>(∃ v,Boxed W w.heap.size 22 v∧W.ownsRow w.heap.size 34 1 v pre.length (pre.map (Value.int .u32))∧True)∧Below w.heap.size w W)
  (fun _ _ _=>False)
  (OwnFrom.and (Own.from (holdsRow_own w.heap.size w.heap.size 22 34 1 (fun pre:List Int=>pre.length) (fun pre:List Int=>pre.map (Value.int .u32)) (fun _ _=>True)) _) (ownFrom_below (Nat.le_refl _) (by simp)))
  (fun _ _ _ _ _ hs _ _=>hs)
  ⟨⟨_,bO,World.ownsRow_nil _ _ _ _,trivial⟩,hB0⟩
  (fun x=>{ tmps:=#[.slice none 0 0,.func (.func 140) #[] #[.pointer (some ⟨Bs,0,none⟩)],.pointer (some ⟨w.heap.size,0,none⟩),undef,.slice none 0 0,.int .u32 x,.func (.func 140) #[] #[.pointer (some ⟨Bs,0,none⟩)],.int .u32 x,undef,undef,undef,undef,undef],defers:=[] }) ?assign ?body ?done ?stop
 case assign=>
  intro l x W K hK
  gi_wp2
  exact hK
 case body=>
  rintro l pre x W ⟨⟨v,hv,hrow,_⟩,hB⟩ hlt
  have hc:=hv.cell
  gi_wp2_with (gi_at_builtin;refine wpListIn_append_own _ rfl _ _ 22 rfl w.heap.size 34 i0 (.int .u32 0) 1 4 Tryz.underlying22 hi hz0 hz1 hz2 rfl (by decide) _ _ _ rfl (hrow.alloc _) ⟨W.heap.size,0,none⟩ 1 1 [.int .u32 x] rfl rfl (cell_one_new _ _ _) (by simp[Value.oneCell']) (by simp only[maxLen];omega) (by omega) (by have:=hB.size;simp;omega) ?_;intro v' w1 hown' hgrow _;obtain⟨g',cap',rfl⟩:=ownsRow_succ hown';obtain⟨hv1,hv2,hr2,hk2,hb2⟩:=hv.appended (by decide) hrow hB.size (Nat.le_refl _) hown' hgrow;have hc1:=hv1.cell;have hf1:=hv1.frozen)
  exact⟨hk2.from _,hb2,⟨_,hv2,by simpa using hr2,trivial⟩,hB.trans hb2⟩
 case done=>
  rintro D ys W hD rfl ⟨⟨v,hv,hrow,_⟩,hB⟩ hK
  have hc:=hv.cell
  gi_wp2
  refine⟨by simp,.inl ⟨_,_,rfl,run_takeDeferred hK,?_⟩⟩
  exact⟨_,results_tmp rfl _ _ _,v,rfl,ownsRow_putObj hrow _ hK rfl,hB.trans (belowK_b (w:=w) (Nat.le_refl _) W D _ _ (by simp at hD;omega) hK rfl rfl)⟩
 case stop=>
  rintro D c pre W _ _ h _
  exact h.elim
set_option maxRecDepth 100000 in
set_option maxHeartbeats 1000000 in
theorem aEJ(F:Fence)(n:Nat)(h2:F.fn 78)(h3:F.fn 121)(h7:F.fn 140)(hro:F.round=none)(hn:4≤n)(Bs:Nat)(sv:Value)(zs:List Int)(hlen:zs.length≤1048576)(w:World)(hBs:Bs<w.heap.size)
 (hc:w.cell? ⟨Bs,0,none⟩=some sv) (hI:aEu w.heap.size w sv zs):
 CallsIn F n Tryz.prog 78 #[.func (.func 140) #[] #[.pointer (some ⟨Bs,0,none⟩)]] w fun e W'=>∃ v,e=.returned v∧W'.ownsRow w.heap.size 34 1 v zs.length (zs.map (Value.int .u32))∧Below w.heap.size w W':=by
 have h1:1≤n:=by omega
 refine callsIn_of_wp Tryz.func78 rfl h2 ?_ hro
 simp only[Tryz.ntmps78,List.size_toArray,List.length_cons,List.length_nil,Nat.reduceAdd,Nat.reduceSub,Array.replicate_succ,Array.replicate_zero,List.push_toArray,List.append_toArray,List.nil_append,List.cons_append]
 gi_wp2_with (gi_at_call 121;refine(aBk F (n-1) h3 h7 hro (by omega) Bs sv zs hlen _ hBs hc hI).mono ?_;rintro e w' ⟨v,rfl,hrow,hbel⟩)
 go_ret
 exact⟨v,rfl,hrow,hbel⟩
end Go.Proofs.YtempldclppogmaaGreatDoor.Rg
namespace Go.Proofs.YtempldclppogmaaGreatDoor.Aw
open Go Go.RowKit
def tw(d:Int):Int:=if d % 2=0 then d+1 else d-1
theorem wrap_u32(n:Int):IntKind.u32.wrap n=n % 4294967296:=by simp[IntKind.wrap,IntKind.signed,IntKind.bits]
theorem wrap_i64(n:Int)(h1 : -9223372036854775808≤n)(h2:n≤9223372036854775807):IntKind.i64.wrap n=n:=by
 simp only[IntKind.wrap,IntKind.signed,IntKind.bits]
 simp
 split<;>omega
theorem aKL(n:Nat):n ^^^ 1=if n % 2=0 then n+1 else n-1:=by
 have h:∀ a b:Nat,(∀ j,a.testBit j=b.testBit j)→a=b:=fun a b h=>Nat.eq_of_testBit_eq h
 split
 ·apply h;intro j
  cases j with
  |zero=>simp;omega
  |succ j=>rw[Nat.testBit_xor];simp[Nat.testBit_succ];congr 1;omega
 ·apply h;intro j
  cases j with
  |zero=>simp;omega
  |succ j=>rw[Nat.testBit_xor];simp[Nat.testBit_succ];congr 1;omega
theorem aAB(d:Int)(h0:0≤d)(h1:d<4294967296):aLt .u32 d 1=tw d:=by
 unfold aLt IntKind.bits
 obtain⟨n,rfl⟩:=Int.eq_ofNat_of_zero_le h0
 have hn:n<4294967296:=by omega
 rw[wrap_u32,BitVec.toNat_xor]
 have e1:(BitVec.ofInt 32 (n:Int)).toNat=n:=by rw[BitVec.ofInt_natCast,BitVec.toNat_ofNat];exact Nat.mod_eq_of_lt (by omega)
 have e2:(BitVec.ofInt 32 1).toNat=1:=by decide
 rw[e1,e2,aKL]
 unfold tw
 split<;>split<;>omega
theorem aMy(a:Int)(e:Int)(h0:0≤a)(h1:a<4294967296)(ha:a % 2=0)(he:e=0∨e=1):gor .u32 a e=a+e:=by
 unfold gor IntKind.bits
 obtain⟨n,rfl⟩:=Int.eq_ofNat_of_zero_le h0
 rw[wrap_u32,BitVec.toNat_or]
 have e1:(BitVec.ofInt 32 (n:Int)).toNat=n:=by rw[BitVec.ofInt_natCast,BitVec.toNat_ofNat];exact Nat.mod_eq_of_lt (by omega)
 rw[e1]
 rcases he with rfl|rfl
 ·simp;omega
 ·have e2:(BitVec.ofInt 32 1).toNat=1:=by decide
  have:n ||| 1=n+1:=by
   apply Nat.eq_of_testBit_eq;intro j
   cases j with
   |zero=>simp;omega
   |succ j=>rw[Nat.testBit_or];simp[Nat.testBit_succ];congr 1;omega
  rw[e2,this];omega
theorem aMu(e:Int):yM .i64 e 1=e % 2:=by
 show IntKind.i64.wrap ((BitVec.ofInt 64 e &&& BitVec.ofInt 64 1).toNat:Int)=_
 have e2:(BitVec.ofInt 64 1).toNat=1:=by decide
 rw[BitVec.toNat_and,e2,Nat.and_one_is_mod,wrap_i64 _ (by omega) (by omega),BitVec.toNat_ofInt]
 omega
theorem aKX(a:Int):aDZ .u32 a 1=a*2 % 4294967296:=by
 unfold aDZ;rw[wrap_u32];rfl
theorem Of(id e:Int)(st:St):
 aF Tryz.prog 32 [u id,i e] st fun r st'=>r=u (id*2 % 4294967296+e % 2)∧st'=st:=by
 refine qO aK Tryz.func32 rfl rfl Tryz.ntmps32 (rs:=[.tmp 4]) rfl (by simp) ?_
 (repeat' (first|refine qS ?_|(refine qR ?_;simp only[ak,reduceIte];simp[])|(refine w_e [] ?_;intro J hJ;simp only[];simp[];(refine hJ _ _ ?_;clear hJ J;simp only[ak,reduceIte]))))
 rw[aKX,aMu,wrap_u32,aMy _ _ (by omega) (by omega) (by omega) (by omega)]
 omega
theorem Twin(d:Int)(st:St)(h0:0≤d)(h1:d<4294967296):aF Tryz.prog 94 [u d] st fun r st'=>r=u (tw d)∧st'=st:=by
 refine qO aK Tryz.func94 rfl rfl Tryz.ntmps94 (rs:=[.tmp 2]) rfl (by simp) ?_
 (repeat' (first|refine qS ?_|(refine qR ?_;simp only[ak,reduceIte];simp[aAB d h0 h1])|(refine w_e [] ?_;intro J hJ;simp only[];simp[aAB d h0 h1];(refine hJ _ _ ?_;clear hJ J;simp only[ak,reduceIte]))))
end Go.Proofs.YtempldclppogmaaGreatDoor.Aw
namespace Go.Proofs.YtempldclppogmaaGreatDoor.Aw
open Go Go.RowKit Go.Proofs.YtempldclppogmaaGreatDoor.Pl
theorem qN(k:Nat)(h:k<9223372036854775807):IntKind.i64.wrap ((k:Int)+1)=((k+1:Nat):Int):=by
 rw[wrap_i64 _ (by omega) (by omega)];omega
theorem dN(l:List Int)(k:Nat)(hk:k<l.length):(us l).drop k=u l[k]::us (l.drop (k+1)):=by
 rw[us,← List.map_drop,List.drop_eq_getElem_cons hk];rfl
theorem qG(l:List Int)(k:Nat)(hk:k<l.length):(us l).drop k=u (l.getD k 0)::us (l.drop (k+1)):=by
 rw[dN l k hk];simp[hk]
theorem aBH{l:List Int}{d:Int}(h:d∈l):gi l d=((l.idxOf d:Nat):Int):=by unfold gi;rw[if_pos h]
theorem aIm{l:List Int}{d:Int}(h:¬d∈l):gi l d = -1:=by unfold gi;rw[if_neg h]
theorem aX(l:List Int)(j:Nat)(hj:j<l.length):l.getD j 0=l[j]:=by
 rw[List.getD_eq_getElem?_getD,List.getElem?_eq_getElem hj];rfl
theorem St.ext'{a b:St}(h:a.next=b.next)(k:∀ x,a.H x=b.H x):a=b:=by
 cases a;cases b;simp only at h k;subst h;congr;funext x;exact k x
def small(l:List Int):Prop:=l.length≤1048576
theorem Index(l:List Int)(t:Nat)(x:Int)(st:St)(hl:small l):
 aF Tryz.prog 90 [.sl t l.length (us l),u x] st fun r st'=>r=i (gi l x)∧st'=st:=by
 unfold small at hl
 refine qO aK Tryz.func90 rfl rfl Tryz.ntmps90 (rs:=[.tmp 4]) rfl (by simp) ?_
 (repeat' (first|refine qS ?_|refine qB ?_|(refine w_e [] ?_;intro J hJ;simp only[];simp[];(refine hJ _ _ ?_;clear hJ J;simp only[ak,reduceIte]))))
 refine qL (fun n fr st'=>∃ k:Nat,k≤l.length∧n=l.length-k∧fr 0=.sl t l.length (us l)∧fr 1=u x∧fr 7=i l.length∧fr 8=i k∧st'=st∧∀ j (hj:j<l.length),j<k→l[j]≠x) l.length ?_ ?_
 ·exact⟨0,by omega,by omega,by simp,by simp,by simp,by simp,rfl,fun j _ h=>by omega⟩
 rintro n fr st' ⟨k,hk,rfl,h0,h1,h7,h8,rfl,hno⟩ JJ hJJ
 by_cases hlt:k<l.length
 ·have hd:=dN l k hlt
  have hw:=qN k (by omega)
  (repeat' (first|refine qS ?_|refine qB ?_|(refine qK ?_;simp only[ak,reduceIte])|(refine qR ?_;simp only[ak,reduceIte];simp[h0,h1,h7,h8,hlt,hd,hw])|(refine qC ?_;simp[h0,h1,h7,h8,hlt,hd,hw];(try with_reducible refine⟨?_,?_⟩)<;>(try with_reducible intro hc))|(refine w_e [] ?_;intro J hJ;simp only[];simp[h0,h1,h7,h8,hlt,hd,hw];(refine hJ _ _ ?_;clear hJ J;simp only[ak,reduceIte]))))
  ·exact(aLO hlt hc.symm (fun j hj=>hno j (by omega) hj)).symm
  ·refine hJJ _ _ _ ?_ ⟨k+1,by omega,rfl,by simp[h0],by simp[h1],by simp[h7],by simp,rfl,fun j hj hjk=>?_⟩
   ·omega
   ·rcases Nat.lt_or_ge j k with h|h
    ·exact hno j hj h
    ·obtain rfl:j=k:=by omega
     exact fun h=>hc h.symm
 ·(repeat' (first|refine qS ?_|(refine qX ?_;simp only[ak,reduceIte])|(refine qR ?_;simp only[ak,reduceIte];simp[h0,h1,h7,h8,hlt])|(refine qC ?_;simp[h0,h1,h7,h8,hlt])|(refine w_e [] ?_;intro J hJ;simp only[];simp[h0,h1,h7,h8,hlt];(refine hJ _ _ ?_;clear hJ J;simp only[ak,reduceIte]))))
  exact(aMb (fun j hj=>hno j hj (by omega))).symm
theorem aMl(l:List Int)(h:0<l.length):hdL (us l)=u l[0]:=by
 cases l with
 |nil=>simp at h
 |cons a l=>rfl
theorem Min(l:List Int)(t:Nat)(st:St)(hl:small l)(h0:l≠[]):
 aF Tryz.prog 81 [.sl t l.length (us l)] st fun r st'=>r=u (mn l)∧st'=st:=by
 unfold small at hl
 have hpos:0<l.length:=List.length_pos_iff.2 h0
 have hd0:=aMl l hpos
 refine qO aK Tryz.func81 rfl rfl Tryz.ntmps81 (rs:=[.tmp 2]) rfl (by simp) ?_
 (repeat' (first|refine qS ?_|refine qB ?_|(refine qK ?_;simp only[ak,reduceIte])|(refine qC ?_;simp[hpos,hd0];(try with_reducible refine⟨?_,?_⟩)<;>(try with_reducible intro hc)<;>try (exfalso;omega))|(refine w_e [] ?_;intro J hJ;simp only[];simp[hpos,hd0];(refine hJ _ _ ?_;clear hJ J;simp only[ak,reduceIte]))))
 refine qL (fun n fr st'=>∃ k:Nat,0<k∧k≤l.length∧n=l.length-k∧fr 0=.sl t l.length (us l)∧fr 4=i k∧fr 3=u (mn (l.take k))∧st'=st) (l.length-1) ?_ ?_
 ·refine⟨1,by omega,by omega,by omega,by simp,by simp,?_,rfl⟩
  cases l with
  |nil=>simp at hpos
  |cons a l=>simp[mn]
 rintro n fr st' ⟨k,hk0,hk,rfl,h0',h4,h3,rfl⟩ JJ hJJ
 by_cases hlt:k<l.length
 ·have hd:=dN l k hlt
  have hw:=qN k (by omega)
  (repeat' (first|refine qS ?_|refine qB ?_|(refine qK ?_;simp only[ak,reduceIte])|(refine qC ?_;simp[h0',h3,h4,hlt,hd,hw])|(refine w_e [] ?_;intro J hJ;simp only[];simp[h0',h3,h4,hlt,hd,hw];(refine hJ _ _ ?_;clear hJ J;simp only[ak,reduceIte]))))
  refine hJJ _ _ _ ?_ ⟨k+1,by omega,by omega,rfl,by simp[h0'],by simp,by simp[aLu l k hk0 hlt],rfl⟩
  omega
 ·(repeat' (first|refine qS ?_|(refine qX ?_;simp only[ak,reduceIte])|(refine qR ?_;simp only[ak,reduceIte];simp[h0',h3,h4,hlt])|(refine qC ?_;simp[h0',h3,h4,hlt])|(refine w_e [] ?_;intro J hJ;simp only[];simp[h0',h3,h4,hlt];(refine hJ _ _ ?_;clear hJ J;simp only[ak,reduceIte]))))
  rw[List.take_of_length_le (by omega)]
theorem aCj(a b:List Int)(t t':Nat)(st:St)(hl:small a):
 aF Tryz.prog 11 [.sl t a.length (us a),.sl t' b.length (us b)] st fun r st'=>r=bb (decide (a=b))∧st'=st:=by
 unfold small at hl
 refine qO aK Tryz.func11 rfl rfl Tryz.ntmps11 (rs:=[.tmp 4]) rfl (by simp) ?_
 by_cases hab:a.length=b.length
 ·have hab':((a.length:Int) != (b.length:Int))=false:=by simp[hab]
  (repeat' (first|refine qS ?_|refine qB ?_|(refine qK ?_;simp only[ak,reduceIte])|(refine qC ?_;simp[hab])|(refine w_e [] ?_;intro J hJ;simp only[];simp[hab];(refine hJ _ _ ?_;clear hJ J;simp only[ak,reduceIte]))))
  refine qL (fun n fr st'=>∃ k:Nat,k≤a.length∧n=a.length-k∧fr 0=.sl t a.length (us a)∧fr 1=.sl t' b.length (us b)∧fr 12=i a.length∧fr 13=i k∧st'=st∧∀ j (hj:j<a.length),j<k→a[j]=b[j]'(by omega)) a.length ?_ ?_
  ·exact⟨0,by omega,by omega,by simp[hab],by simp[hab],by simp[hab],by simp,rfl,fun j _ h=>by omega⟩
  rintro n fr st' ⟨k,hk,rfl,h0,h1,h7,h8,rfl,hno⟩ JJ hJJ
  by_cases hlt:k<a.length
  ·have hlt':k<b.length:=by omega
   have hd:=dN a k hlt
   have hd':=dN b k hlt'
   have hw:=qN k (by omega)
   (repeat' (first|refine qS ?_|refine qB ?_|(refine qK ?_;simp only[ak,reduceIte])|(refine qR ?_;simp only[ak,reduceIte];simp[h0,h1,h7,h8,hlt,hlt',hd,hd',hw])|(refine qC ?_;simp[h0,h1,h7,h8,hlt,hlt',hd,hd',hw];(try with_reducible refine⟨?_,?_⟩)<;>(try with_reducible intro hc))|((first|(refine w_e [] ?_;intro J hJ;simp only[])|(refine w_q ?_;intro J hJ));simp[h0,h1,h7,h8,hlt,hlt',hd,hd',hw];(refine hJ _ _ ?_;clear hJ J;simp only[ak,reduceIte]))))
   ·intro h;apply hc;simp[h]
   ·refine hJJ _ _ _ ?_ ⟨k+1,by omega,rfl,by simp[h0],by simp[h1],by simp[h7],by simp,rfl,fun j hj hjk=>?_⟩
    ·omega
    ·rcases Nat.lt_or_ge j k with h|h
     ·exact hno j hj h
     ·obtain rfl:j=k:=by omega
      exact hc
  ·(repeat' (first|refine qS ?_|(refine qX ?_;simp only[ak,reduceIte])|(refine qR ?_;simp only[ak,reduceIte];simp[h0,h1,h7,h8,hlt])|(refine qC ?_;simp[h0,h1,h7,h8,hlt])|(refine w_e [] ?_;intro J hJ;simp only[];simp[h0,h1,h7,h8,hlt];(refine hJ _ _ ?_;clear hJ J;simp only[ak,reduceIte]))))
   exact List.ext_getElem hab (fun j hj _=>hno j hj (by omega))
 ·(repeat' (first|refine qS ?_|(refine qR ?_;simp only[ak,reduceIte];simp[hab])|(refine qC ?_;simp[hab];(try with_reducible refine⟨?_,?_⟩)<;>(try with_reducible intro hc)<;>try (exfalso;omega))|(refine w_e [] ?_;intro J hJ;simp only[];simp[hab];(refine hJ _ _ ?_;clear hJ J;simp only[ak,reduceIte]))))
  intro h;exact hab (by rw[h])
theorem wrap_small(n:Int)(h0:0≤n)(h1:n≤9223372036854775807):IntKind.i64.wrap n=n:=wrap_i64 n (by omega) h1
theorem aQf(n:Int)(st:St)(h0:0≤n)(h1:n≤4194304):
 aF Tryz.prog 197 [.nil,i n] st fun r st'=>∃ l cs,r=.ms l 0 0∧st.next≤l∧st'.H l=.box 34 1 cs∧aB st st':=by
 have hw:=wrap_small n h0 (by omega)
 have hw':IntKind.i64.wrap 0=0:=by decide
 refine fT 34 1 ?_
 refine qO aK Tryz.func197 rfl rfl Tryz.ntmps197 (rs:=[.tmp 4]) rfl (by simp) ?_
 by_cases hp:0<n
 ·(repeat' (first|refine qS ?_|(refine qK ?_;simp only[ak,reduceIte])|(refine qR ?_;simp only[ak,reduceIte];simp[hw,hw',hp])|(refine qC ?_;simp[hw,hw',hp];(try with_reducible refine⟨?_,?_⟩)<;>(try with_reducible intro hc)<;>try (exfalso;omega))|(refine w_e [] ?_;intro J hJ;simp only[];simp[hw,hw',hp];(repeat refine ca ?_);(refine hJ _ _ ?_;clear hJ J;simp only[ak,reduceIte]))))
  exact aB.new _ _
 ·(repeat' (first|refine qS ?_|(refine qK ?_;simp only[ak,reduceIte])|(refine qR ?_;simp only[ak,reduceIte];simp[hw,hw',hp])|(refine qC ?_;simp[hw,hw',hp];(try with_reducible refine⟨?_,?_⟩)<;>(try with_reducible intro hc)<;>try (exfalso;omega))|(refine w_e [] ?_;intro J hJ;simp only[];simp[hw,hw',hp];(refine hJ _ _ ?_;clear hJ J;simp only[ak,reduceIte]))))
  exact aB.new _ _
abbrev rows(ls:List (Nat×List Int)):List LV:=ls.map fun p=>.sl p.1 p.2.length (us p.2)
def total(ls:List (Nat×List Int)):Nat:=(ls.map fun p=>p.2.length).sum
def flat(ls:List (Nat×List Int)):List Int:=(ls.map fun p=>p.2).flatten
theorem sU(ls:List (Nat×List Int)):(flat ls).length=total ls:=by
 induction ls with
 |nil=>rfl
 |cons p ls ih=>simp[flat,total,Function.comp_def]at ih ⊢
theorem xR(ls:List (Nat×List Int))(k:Nat)(hk:k<ls.length):total (ls.take (k+1))=total (ls.take k)+ls[k].2.length:=by
 rw[List.take_succ_eq_append_getElem hk,total,List.map_append,List.sum_append];simp only[total,List.map_cons,List.map_nil,List.sum_cons,List.sum_nil,Nat.add_zero]
theorem aGI(ls:List (Nat×List Int))(k:Nat)(hk:k<ls.length):flat (ls.take (k+1))=flat (ls.take k)++ls[k].2:=by
 rw[List.take_succ_eq_append_getElem hk,flat,List.map_append,List.flatten_append];simp only[flat,List.map_cons,List.map_nil,List.flatten_cons,List.flatten_nil,List.append_nil]
theorem oA(ls:List (Nat×List Int))(k:Nat):total (ls.take k)≤total ls:=by
 have h:total ls=total (ls.take k)+total (ls.drop k):=by
  conv=>lhs;rw[← List.take_append_drop k ls]
  rw[total,List.map_append,List.sum_append];rfl
 omega
theorem aAA(ls:List (Nat×List Int))(k:Nat)(hk:k<ls.length):(rows ls).drop k=.sl ls[k].1 ls[k].2.length (us ls[k].2)::rows (ls.drop (k+1)):=by
 rw[rows,← List.map_drop,List.drop_eq_getElem_cons hk];rfl
theorem aFc(a:List Int):(us a).all eW=true:=by simp[us,eW]
theorem aLT(ls:List (Nat×List Int))(t:Nat)(st:St)(hn:ls.length≤1048576)(hl:total ls≤4194304):
 aF Tryz.prog 175 [.sl t ls.length (rows ls)] st fun r st'=>∃ l,r=.ms l 0 (flat ls).length∧st.next≤l∧st'.H l=.box 34 1 (us (flat ls))∧aB st st':=by
 refine qO aK Tryz.func175 rfl rfl Tryz.ntmps175 (rs:=[.tmp 2]) rfl (by simp) ?_
 (repeat' (first|refine qS ?_|refine qB ?_|(refine w_e [] ?_;intro J hJ;simp only[];simp[];(refine hJ _ _ ?_;clear hJ J;simp only[ak,reduceIte]))))
 refine qL (fun n fr st'=>∃ k:Nat,k≤ls.length∧n=ls.length-k∧fr 0=.sl t ls.length (rows ls)∧fr 9=.sl t ls.length (rows ls)∧fr 10=i ls.length∧fr 11=i k∧fr 3=i (total (ls.take k))∧st'=st) ls.length ?_ ?_
 ·exact⟨0,by omega,by omega,by simp,by simp,by simp,by simp,by simp[total],rfl⟩
 rintro n fr st1 ⟨k,hk,rfl,h0,h9,h10,h11,h3,rfl⟩ JJ hJJ
 by_cases hlt:k<ls.length
 ·have hd:=aAA ls k hlt
  have hw:=qN k (by omega)
  have ht:=xR ls k hlt
  have hle:=oA ls (k+1)
  have hw2:IntKind.i64.wrap ((total (ls.take k):Int)+(ls[k].2.length:Int))=(total (ls.take (k+1)):Int):=by
   rw[wrap_small _ (by omega) (by omega)];omega
  clear ht
  (repeat' (first|refine qS ?_|refine qB ?_|(refine qK ?_;simp only[ak,reduceIte])|(refine qC ?_;simp[h0,h9,h10,h11,h3,hlt,hd,hw,hw2];(try with_reducible refine⟨?_,?_⟩)<;>(try with_reducible intro hc)<;>try (exfalso;omega))|(refine w_e [] ?_;intro J hJ;simp only[];simp[h0,h9,h10,h11,h3,hlt,hd,hw,hw2];(refine hJ _ _ ?_;clear hJ J;simp only[ak,reduceIte]))))
  refine hJJ _ _ _ ?_ ⟨k+1,by omega,rfl,by simp[h0],by simp[h9],by simp[h10],by simp,by simp,rfl⟩
  omega
 ·have hk':k=ls.length:=by omega
  have htk:ls.take k=ls:=List.take_of_length_le (by omega)
  rw[htk]at h3
  clear hJJ
  (repeat' (first|refine qS ?_|(refine qX ?_;simp only[ak,reduceIte])|(refine qC ?_;simp[h0,h9,h10,h11,h3,hlt])|(refine w_e [] ?_;intro J hJ;simp only[];simp[h0,h9,h10,h11,h3,hlt];(try (refine hJ _ _ ?_;clear hJ J;simp only[ak,reduceIte])))))
  refine qF (aQf (total ls) _ (by omega) (by omega)) ?_;rintro r st' ⟨l0,cs0,rfl,hl0,hH0,hkp⟩
  (repeat' (first|refine qS ?_|refine qB ?_|((first|(refine w_e [] ?_;intro J hJ;simp only[])|(refine aL ?_));simp[h0];(refine hJ _ _ ?_;clear hJ J;simp only[ak,reduceIte]))))
  refine aDY 0 hH0 ?_
  refine qL (fun n fr st2=>∃ k:Nat,k≤ls.length∧n=ls.length-k∧fr 25=.sl t ls.length (rows ls)∧fr 26=i ls.length∧fr 27=i k∧∃ l,fr 6=.ms l 0 (flat (ls.take k)).length∧st2.H l=.box 34 1 (us (flat (ls.take k)))∧st1.next≤l∧aB st1 st2) ls.length ?_ ?_
  ·exact⟨0,by omega,by omega,by simp[h0],by simp,by simp,l0,by simp[flat],by simp[flat],hl0,hkp.set hl0 _⟩
  clear h0 h9 h10 h11 h3 hlt hH0 hkp hl0 fr hk hk' htk
  rintro n fr st2 ⟨k,hk,rfl,h25,h26,h27,l,h6,hH,hlt0,hkp⟩ JJ hJJ
  by_cases hlt:k<ls.length
  ·have hd:=aAA ls k hlt
   have hw:=qN k (by omega)
   have ht:=xR ls k hlt
   have hle:=oA ls (k+1)
   have hf:=aGI ls k hlt
   have hfl:=sU (ls.take (k+1))
   have hfl':=sU (ls.take k)
   have hone:=aFc (ls[k].2)
   (repeat' (first|refine qS ?_|refine qB ?_|(refine qK ?_;simp only[ak,reduceIte])|(refine qC ?_;simp[h25,h26,h27,h6,hH,hlt,hd,hw,hone])|(refine w_e [] ?_;intro J hJ;simp only[];simp[h25,h26,h27,h6,hH,hlt,hd,hw,hone];(repeat refine ca ?_);(refine hJ _ _ ?_;clear hJ J;simp only[ak,reduceIte]))))
   refine hJJ _ _ _ ?_ ⟨k+1,by omega,rfl,by simp[h25],by simp[h26],by simp,st2.next,?_,?_,hkp.next,(hkp.set hlt0 _).trans (aB.new _ _)⟩
   ·omega
   ·simp[hf]
   ·simp[hf]
  ·have hk':k=ls.length:=by omega
   have htk:ls.take k=ls:=List.take_of_length_le (by omega)
   rw[htk]at h6 hH
   clear hJJ
   (repeat' (first|refine qS ?_|(refine qX ?_;simp only[ak,reduceIte])|(refine qR ?_;simp only[ak,reduceIte];simp[h25,h26,h27,h6,hlt])|(refine qC ?_;simp[h25,h26,h27,h6,hlt])|(refine w_e [] ?_;intro J hJ;simp only[];simp[h25,h26,h27,h6,hlt];(refine hJ _ _ ?_;clear hJ J;simp only[ak,reduceIte]))))
   exact⟨hlt0,hH,hkp⟩
theorem aNz(ls:List (Nat×List Int))(t:Nat)(st:St)(hn:ls.length≤1048576)(hl:total ls≤4194304):
 aF Tryz.prog 175 [.sl t ls.length (rows ls)] st fun r st'=>r=.sl 0 (flat ls).length (us (flat ls))∧aB st st':=by
 refine bV ((aLT ls t st hn hl).mono ?_)
 rintro r st' ⟨l,rfl,hlt,hH,hk⟩
 exact⟨l,_,_,1,_,rfl,hH,by simp,by simp[List.take_of_length_le],hk.set hlt _⟩
theorem aOf(a:List Int)(t:Nat)(st:St)(hl:small a):
 aF Tryz.prog 69 [.sl t a.length (us a)] st fun r st'=>∃ l,r=.ms l 0 a.length∧st.next≤l∧st'.H l=.box 34 1 (us a)∧aB st st':=by
 unfold small at hl
 refine fT 34 1 ?_
 have hone:=aFc a
 refine qO aK Tryz.func69 rfl rfl Tryz.ntmps69 (rs:=[.tmp 2]) rfl (by simp) ?_
 (repeat' (first|refine qS ?_|(refine qK ?_;simp only[ak,reduceIte])|(refine qR ?_;simp only[ak,reduceIte];simp[hone])|(refine qC ?_;simp[hone])|(refine w_e [5] ?_;intro J hJ;simp only[];simp[hone];(repeat refine ca ?_);((try with_reducible refine⟨?_,?_⟩)<;>(try with_reducible intro hnil)<;>refine hJ _ _ ?_<;>clear hJ J<;>simp only[ak,reduceIte]<;>try subst hnil))))
 ·exact((aB.new _ _).set (Nat.le_refl _) _).trans (aB.new _ _)
 ·exact aB.new _ _
theorem aJw(a:List Int)(t:Nat)(st:St)(hl:small a):
 aF Tryz.prog 69 [.sl t a.length (us a)] st fun r st'=>r=.sl 0 a.length (us a)∧aB st st':=by
 refine bV ((aOf a t st hl).mono ?_)
 rintro r st' ⟨l,rfl,hlt,hH,hk⟩
 exact⟨l,_,_,1,_,rfl,hH,by simp,by simp[List.take_of_length_le],hk.set hlt _⟩
def nx(l:List Int)(d:Int):Int:=if d∈l then l.getD ((l.idxOf d+1) % l.length) 0 else 0
theorem aMX(l:List Int):(us l).length=l.length:=by simp[us]
theorem from_(l:List Int)(t k:Nat)(st:St)(hl:small l)(hk:k≤l.length):
 aF Tryz.prog 125 [.sl t l.length (us l),i k] st fun r st'=>r=.sl 0 l.length (us (rt l k))∧aB st st':=by
 unfold small at hl
 refine qO aK Tryz.func125 rfl rfl Tryz.ntmps125 (rs:=[.tmp 4]) rfl (by simp) ?_
 (repeat' (first|refine qS ?_|(refine w_e [] ?_;intro J hJ;simp only[];simp[hk];(refine hJ _ _ ?_;clear hJ J;simp only[ak,reduceIte]))))
 (refine aGR aK [] 6 (by kernel_rfl) (by kernel_rfl) rfl rfl ?_;intro J hJ;simp[hk];skip;skip)
 refine qE (aNz [(0,l.drop k),(0,l.take k)] st.next _ (by simp) (by simp[total];omega)) (by simp[List.take_of_length_le,Nat.min_eq_left hk]) ?_;rintro r st' ⟨rfl,hkp⟩
 have hf:flat [(0,l.drop k),(0,l.take k)]=rt l k:=by simp[flat,rt]
 rw[hf,zN]
 (repeat' (first|(refine qR ?_;simp only[ak,reduceIte];simp[])|(refine aL ?_;simp[];(refine hJ _ _ ?_;clear hJ J;simp only[ak,reduceIte]))))
 exact(aB.new _ _).trans hkp
theorem aIq(l:List Int)(t:Nat)(st:St)(hl:small l):
 aF Tryz.prog 85 [.sl t l.length (us l)] st fun r st'=>r=.sl 0 l.length (us (nrm l))∧aB st st':=by
 refine aDH ?_
 refine qO aK Tryz.func85 rfl rfl Tryz.ntmps85 (rs:=[.tmp 2]) rfl (by simp) ?_
 cases l with
 |nil=>
  (repeat' (first|refine qS ?_|(refine qR ?_;simp only[ak,reduceIte];simp[])|(refine qC ?_;simp[])|(refine w_e [] ?_;intro J hJ;simp only[];simp[];(refine hJ _ _ ?_;clear hJ J;simp only[ak,reduceIte]))))
  exact⟨by decide,aB.refl _⟩
 |cons a l'=>
  (repeat' (first|refine qS ?_|(refine qK ?_;simp only[ak,reduceIte])|(refine qC ?_;simp[];(try with_reducible refine⟨?_,?_⟩)<;>(try with_reducible intro hc)<;>try (exfalso;omega))|(refine w_e [] ?_;intro J hJ;simp only[];simp[];(try (refine hJ _ _ ?_;clear hJ J;simp only[ak,reduceIte])))))
  refine qE (Min (a::l') t _ hl (by simp)) (by simp[]) ?_;rintro r st' ⟨rfl,rfl⟩
  (repeat' (refine aL ?_;simp[]))
  refine qE (Index (a::l') t (mn (a::l')) _ hl) (by simp[]) ?_;rintro r st' ⟨rfl,rfl⟩
  (repeat' (refine aL ?_;simp[]))
  have hg:gi (a::l') (mn (a::l'))=(((a::l').idxOf (mn (a::l')):Nat):Int):=by
   unfold gi;rw[if_pos (aEp (by simp))]
  rw[hg]
  refine qE (from_ (a::l') t ((a::l').idxOf (mn (a::l'))) _ hl List.idxOf_le_length) (by simp[]) ?_;rintro r st' ⟨rfl,hkp⟩
  (repeat' (first|(refine qR ?_;simp only[ak,reduceIte];simp[])|(refine aL ?_;simp[];(refine hJ _ _ ?_;clear hJ J;simp only[ak,reduceIte]))))
  exact⟨rfl,hkp⟩
def ins(l:List Int)(b:Int)(m:List Int):List Int:=(if b∈l then l.take (l.idxOf b+1)++m++l.drop (l.idxOf b+1)else l++m)
theorem aJv(c:List Int)(k:Nat)(x:Int)(hk:k<c.length):(c.set k x).take (k+1)=c.take k++[x]:=by
 rw[List.take_succ_eq_append_getElem (by simpa using hk),List.getElem_set_self]
 rw[List.take_set_of_le (Nat.le_refl _)]
theorem set_drop(c:List Int)(k j:Nat)(x:Int)(h:k≤j):(c.set k x).drop (j+1)=c.drop (j+1):=by
 rw[List.drop_set_of_lt (by omega)]
theorem vT(c:List Int)(k:Nat)(x:Int)(hk:k<c.length):(us c).take k++u x::(us c).drop (k+1)=us (c.set k x):=by
 simp only[us]
 rw[← List.map_take,← List.map_drop,List.set_eq_take_append_cons_drop,if_pos hk]
 simp
theorem St.set_set(st:St)(q:Nat)(a b:aD):(st.set q a).set q b=st.set q b:=St.ext' rfl fun y=>by by_cases hy:y=q<;>simp[hy]
def swp(c:List Int)(a b:Nat):List Int:=(c.set a (c.getD b 0)).set b (c.getD a 0)
theorem aFg(c:List Int)(a b:Nat):(swp c a b).length=c.length:=by simp[swp]
theorem aLU(c:List Int)(a b j:Nat)(ha:a<c.length)(hb:b<c.length):(swp c a b).getD j 0=if j=b then c.getD a 0 else if j=a then c.getD b 0 else c.getD j 0:=by
 unfold swp
 simp only[List.getD_eq_getElem?_getD,List.getElem?_set]
 by_cases h1:b=j
 ·subst h1;simp[hb]
 ·by_cases h2:a=j
  ·subst h2;simp[h1,ha,Ne.symm h1]
  ·simp[h1,h2,Ne.symm h1,Ne.symm h2]
theorem aNR(c:List Int)(a b:Nat)(ha:a<c.length)(hb:b<c.length):us (swp c a b)=((us c).set a (u (c.getD b 0))).set b (u (c.getD a 0)):=by
 unfold swp;simp only[us,List.map_set]
theorem tcd(cs:List LV)(o:Nat)(v:LV)(h:o<cs.length):cs.take o++v::cs.drop (o+1)=cs.set o v:=by
 rw[List.set_eq_take_append_cons_drop,if_pos h]
theorem aNy(l c:List Int)(hl:c.length=l.length)(h:∀ j,j<l.length→c.getD j 0=l.getD (l.length-1-j) 0):c=l.reverse:=by
 apply List.ext_getElem (by simp[hl])
 intro j h1 h2
 have:=h j (by omega)
 rw[List.getD_eq_getElem?_getD,List.getD_eq_getElem?_getD,List.getElem?_eq_getElem h1,List.getElem?_eq_getElem (by omega)]at this
 rw[List.getElem_reverse]
 simpa using this
theorem uO(l:List Int)(q:Nat)(st:St)(hl:small l)(hH:st.H q=.box 34 1 (us l)):
 aF Tryz.prog 83 [.ms q 0 l.length] st fun r st'=>st'=st.set q (.box 34 1 (us l.reverse)):=by
 unfold small at hl
 have hw1:IntKind.i64.wrap ((l.length:Int)-1)=(l.length:Int)-1:=wrap_i64 _ (by omega) (by omega)
 refine qO aK Tryz.func83 rfl rfl Tryz.ntmps83 (rs:=[]) rfl (by simp) ?_
 (repeat' (first|refine qS ?_|refine qB ?_|(refine w_e [] ?_;intro J hJ;simp only[];simp[hw1];(refine hJ _ _ ?_;clear hJ J;simp only[ak,reduceIte]))))
 refine qL (fun n fr st'=>∃(k:Nat) (c:List Int),n=l.length-k∧k≤l.length∧fr 0=.ms q 0 l.length∧fr 2=i k∧fr 3=i ((l.length:Int)-1-k)∧c.length=l.length∧st'=st.set q (.box 34 1 (us c))∧∀ j,j<l.length→c.getD j 0=if j<k∨l.length≤j+k then l.getD (l.length-1-j) 0 else l.getD j 0) l.length ?_ ?_
 ·refine⟨0,l,by omega,by omega,by simp,by simp,by simp,rfl,St.ext' rfl fun x=>by by_cases hx:x=q<;>simp[hx,hH],fun j hj=>?_⟩
  rw[if_neg (by omega)]
 rintro n fr st1 ⟨k,c,rfl,hk,h0,h2,h3,hc,rfl,hin⟩ JJ hJJ
 by_cases hlt:(k:Int)<(l.length:Int)-1-k
 ·obtain⟨m,hm⟩:∃ m:Nat,(l.length:Int)-1-k=m:=⟨l.length-1-k,by omega⟩
  rw[hm]at h3 hlt
  have hw2:=qN k (by omega)
  have hw3:IntKind.i64.wrap ((m:Int)-1)=(m:Int)-1:=wrap_i64 _ (by omega) (by omega)
  have hd:=qG c k (by omega)
  have hd2:=qG c m (by omega)
  have hkl:k<l.length:=by omega
  have hml:m<l.length:=by omega
  (repeat' (first|refine qS ?_|refine qB ?_|(refine qK ?_;simp only[ak,reduceIte])|(refine qC ?_;simp[h0,h2,h3,hlt])|(refine w_e [] ?_;intro J hJ;simp only[];simp[h0,h2,h3,hlt];(refine hJ _ _ ?_;clear hJ J;simp only[ak,reduceIte]))))
  (refine w_s [] [q] [(0,true),(1,true),(2,true),(3,true),(4,true),(5,true),(6,true),(7,true),(8,true),(9,true),(10,true),(11,true),(12,true),(13,false),(14,true),(15,false)] ?_;intro J hJ;simp[h0,h2,h3,hkl,hml,hc,hd,hd2];(repeat refine ca ?_);(refine hJ _ _ ?_;clear hJ J;simp only[ak,reduceIte]))
  (repeat' (refine w_e [] ?_;intro J hJ;simp only[];simp[h2,h3,hw2,hw3];(refine hJ _ _ ?_;clear hJ J;simp only[ak,reduceIte])))
  refine hJJ _ _ _ ?_ ⟨k+1,swp c k m,rfl,by omega,by simp[h0],by simp,?_,by rw[aFg];exact hc,St.ext' rfl fun y=>?_,fun j hj=>?_⟩
  ·omega
  ·simp only[mJ];simp;omega
  ·by_cases hy:y=q
   ·subst hy
    have hlen:(us c).length=l.length:=by simp[hc]
    simp only[aE,reduceIte,aNR c k m (by omega) (by omega)]
    rw[tcd (us c) k _ (by omega),tcd _ m _ (by simp;omega)]
    simp[hc,hkl,hml]
   ·simp[hy]
  ·rw[aLU c k m j (by omega) (by omega),hin k hkl,hin m hml,hin j hj]
   by_cases h1:j=m
   ·rw[if_pos h1,if_neg (by omega),if_pos (by omega)];congr 1;omega
   ·rw[if_neg h1]
    by_cases h2:j=k
    ·rw[if_pos h2,if_neg (by omega),if_pos (by omega)];congr 1;omega
    ·rw[if_neg h2]
     by_cases h3:j<k∨l.length≤j+k
     ·rw[if_pos h3,if_pos (by omega)]
     ·rw[if_neg h3,if_neg (by omega)]
 ·have hcr:c=l.reverse:=?_
  ·subst hcr
   clear hJJ
   (repeat' (first|refine qS ?_|(refine qX ?_;simp only[ak,reduceIte])|(refine qC ?_;simp[h0,h2,h3,hlt])|(refine w_e [] ?_;intro J hJ;simp only[];simp[h0,h2,h3,hlt];(refine hJ _ _ ?_;clear hJ J;simp only[ak,reduceIte]))))
   simp
  refine aNy l c hc ?_
  intro j hj
  rw[hin j hj]
  by_cases h:j<k∨l.length≤j+k
  ·rw[if_pos h]
  ·rw[if_neg h]
   congr 1
   omega
theorem isNaN(x:Int)(st:St):aF Tryz.prog 97 [u x] st fun r st'=>r=bb false∧st'=st:=by
 refine qO aK Tryz.func97 rfl rfl Tryz.ntmps97 (rs:=[.tmp 2]) rfl (by simp) ?_
 (repeat' (first|refine qS ?_|(refine qR ?_;simp only[ak,reduceIte];simp[])|(refine w_e [] ?_;intro J hJ;simp only[];simp[];(refine hJ _ _ ?_;clear hJ J;simp only[ak,reduceIte]))))
theorem aQK(x y:Int)(st:St):aF Tryz.prog 172 [u x,u y] st fun r st'=>r=bb (decide (x<y))∧st'=st:=by
 refine qO aK Tryz.func172 rfl rfl Tryz.ntmps172 (rs:=[.tmp 4]) rfl (by simp) ?_
 (repeat' (first|refine qS ?_|(refine w_e [] ?_;intro J hJ;simp only[];simp[];(try (refine hJ _ _ ?_;clear hJ J;simp only[ak,reduceIte])))))
 refine qF (isNaN x _) ?_;rintro r st' ⟨rfl,rfl⟩
 (repeat' (first|(refine qR ?_;simp only[ak,reduceIte];simp[])|(refine aL ?_;simp[];(refine hJ _ _ ?_;clear hJ J;simp only[ak,reduceIte]))))
theorem eE(k:Nat)(h0:0<k)(h:k<9223372036854775807):IntKind.i64.wrap ((k:Int)-1)=((k-1:Nat):Int):=by
 rw[wrap_i64 _ (by omega) (by omega)];omega
abbrev bx(st:St)(q:Nat)(c:List Int):St:=st.set q (.box 34 1 (us c))
theorem kS{st:St}{q:Nat}{c:List Int}(h:st.H q=.box 34 1 (us c)):st=bx st q c:=
 St.ext' rfl fun x=>by by_cases hx:x=q<;>simp[hx,h]
theorem wV(st:St)(q:Nat)(c:List Int)(k m:Nat){x y:Int}(hk:k<c.length)(hm:m<c.length)(hx:c.getD k 0=x)(hy:c.getD m 0=y):
 ((bx st q c).set q (.box 34 1 (List.take k (us c)++.atom (.int .u32 y)::List.drop (k+1) (us c)))).set q
   (.box 34 1 (List.take m (List.take k (us c)++.atom (.int .u32 y)::List.drop (k+1) (us c))++.atom (.int .u32 x)::List.drop (m+1) (List.take k (us c)++.atom (.int .u32 y)::List.drop (k+1) (us c))))=bx st q (sw c k m):=by
 have e:List.take k (us c)++.atom (.int .u32 y)::List.drop (k+1) (us c)=us (c.set k y):=vT c k y hk
 rw[e,vT (c.set k y) m x (by simpa using hm)]
 unfold bx sw
 rw[hx,hy]
 exact St.ext' rfl fun z=>by by_cases hz:z=q<;>simp[hz]
theorem insertionSort(l:List Int)(q a b:Nat)(st:St)(hl:small l)(ha:a≤b)(hb:b≤l.length)(hH:st.H q=.box 34 1 (us l)):
 aF Tryz.prog 166 [.ms q 0 l.length,i a,i b] st fun r st'=>∃ c,st'=bx st q c∧Pm a b l c∧Srt a b c:=by
 unfold small at hl
 refine qO aK Tryz.func166 rfl rfl Tryz.ntmps166 (rs:=[]) rfl (by simp) ?_
 have hw0:=qN a (by omega)
 (repeat' (first|refine qS ?_|refine qB ?_|(refine w_e [] ?_;intro J hJ;simp only[];simp[hw0];(refine hJ _ _ ?_;clear hJ J;simp only[ak,reduceIte]))))
 refine qL (fun n fr st'=>∃(k:Nat) (c:List Int),a<k∧n=b-k∧fr 0=.ms q 0 l.length∧fr 1=i a∧fr 2=i b∧fr 6=i k∧st'=bx st q c∧Pm a b l c∧Srt a k c) (b-(a+1)) ?_ ?_
 ·exact⟨a+1,l,by omega,rfl,by simp,by simp,by simp,by simp,kS hH,.refl,fun p q h1 h2 h3=>by omega⟩
 rintro n fr st1 ⟨k,c,hak,rfl,f0,f1,f2,f6,rfl,hpm,hs⟩ JJ hJJ
 have hcl:=hpm.len
 by_cases hlt:k<b
 rotate_left
 ·clear hJJ
  have hlt':¬(k:Int)<(b:Int):=by omega
  (repeat' (first|refine qS ?_|(refine qX ?_;simp only[ak,reduceIte])|(refine qC ?_;simp[f0,f1,f2,f6,hlt])|(refine w_e [] ?_;intro J hJ;simp only[];simp[f0,f1,f2,f6,hlt];(refine hJ _ _ ?_;clear hJ J;simp only[ak,reduceIte]))))
  exact⟨trivial,c,rfl,hpm,fun p q h1 h2 h3=>hs p q h1 h2 (by omega)⟩
 have hw1:=qN k (by omega)
 (repeat' (first|refine qS ?_|refine qB ?_|(refine qK ?_;simp only[ak,reduceIte])|(refine qC ?_;simp[f0,f1,f2,f6,hlt])|(refine w_e [] ?_;intro J hJ;simp only[];simp[f0,f1,f2,f6,hlt];(refine hJ _ _ ?_;clear hJ J;simp only[ak,reduceIte]))))
 refine qL (fun n fr st'=>∃(j:Nat) (c:List Int),a≤j∧j≤k∧j=n∧fr 0=.ms q 0 l.length∧fr 1=i a∧fr 2=i b∧fr 6=i k∧fr 7=i j∧st'=bx st q c∧Pm a b l c∧Ins a j k c) k ?_ ?_
 ·exact⟨k,c,by omega,by omega,rfl,by simp[f0],by simp[f1],by simp[f2],by simp[f6],by simp,rfl,hpm,hs.ins⟩
 clear f0 f1 f2 f6 hs hpm hcl c fr
 rintro n fr st1 ⟨j,c,haj,hjk,rfl,f0,f1,f2,f6,f7,rfl,hpm,hI⟩ JJ2 hJ2
 have hcl:=hpm.len
 by_cases hj:a<j
 rotate_left
 ·clear hJ2
  have hj':¬(a:Int)<(j:Int):=by omega
  (repeat (refine qS ?_));(refine w_s [] [q] [(0,true),(1,true),(2,true),(3,true),(4,true),(5,true),(6,true),(7,true),(8,true),(9,true),(10,true),(11,true),(12,true),(13,false),(14,true)] ?_;intro J hJ;simp[f0,f1,f2,f6,f7,hj];(refine hJ _ _ ?_;clear hJ J;simp only[ak,reduceIte]))
  (repeat' (first|(refine qX ?_;simp only[ak,reduceIte])|(refine qC ?_;simp[f6,hw1])|(refine w_e [] ?_;intro J hJ;simp only[];simp[f6,hw1];(refine hJ _ _ ?_;clear hJ J;simp only[ak,reduceIte]))))
  exact hJJ (b-(k+1)) _ _ (by omega) ⟨k+1,c,by omega,rfl,by simp[f0],by simp[f1],by simp[f2],by simp,rfl,hpm,hI.done haj (.inl (by omega))⟩
 have hw2:=eE j (by omega) (by omega)
 have hjl:j<l.length:=by omega
 have hjl1:j-1<l.length:=by omega
 have hd:=qG c j (by omega)
 have hd2:=qG c (j-1) (by omega)
 have hI1:=hI.step hj hjk (by omega)
 have hI2:=hI.done haj
 have hpm1:=hpm.step j (j-1) (by omega) (by omega) (by omega) (by omega) (by omega)
 generalize hx:c.getD j 0=x at *
 generalize hy:c.getD (j-1) 0=y at *
 (repeat (refine qS ?_));(refine w_s [] [q] [(0,true),(1,true),(2,true),(3,true),(4,true),(5,true),(6,true),(7,true),(8,true),(9,true),(10,true),(11,true),(12,true),(13,false),(14,true)] ?_;intro J hJ;simp[f0,f1,f2,f6,f7,hj,hw2,hjl,hjl1,hcl,hd,hd2])
 refine bF (aQK x y _) ?_;rintro r s2 ⟨rfl,rfl⟩
 refine⟨fun _=>by simp,?_⟩
 by_cases hcd:x<y
 rotate_left
 ·clear hJ2
  (refine bN ?_;simp[hcd];(refine hJ _ _ ?_;clear hJ J;simp only[ak,reduceIte]))
  (repeat' (first|(refine qX ?_;simp only[ak,reduceIte])|(refine qC ?_;simp[f6,hw1])|(refine w_e [] ?_;intro J hJ;simp only[];simp[f6,hw1];(refine hJ _ _ ?_;clear hJ J;simp only[ak,reduceIte]))))
  exact hJJ (b-(k+1)) _ _ (by omega) ⟨k+1,c,by omega,rfl,by simp[f0],by simp[f1],by simp[f2],by simp,rfl,hpm,hI2 (.inr hcd)⟩
 clear hJJ
 (refine bN ?_;simp[hcd];(refine hJ _ _ ?_;clear hJ J;simp only[ak,reduceIte]))
 (repeat' (first|refine qS ?_|refine qB ?_|(refine qK ?_;simp only[ak,reduceIte])|(refine qC ?_;simp[])))
 (refine w_s [] [q] [(0,true),(1,true),(2,true),(3,true),(4,true),(5,true),(6,true),(7,true),(8,true),(9,true),(10,true),(11,true),(12,true),(13,true),(14,true),(15,false),(16,true),(17,false)] ?_;intro J hJ;simp[f0,f1,f2,f6,f7,hw2,hjl,hjl1,hcl,hd,hd2];(repeat refine ca ?_);(refine hJ _ _ ?_;clear hJ J;simp only[ak,reduceIte]))
 (repeat' (refine w_e [] ?_;intro J hJ;simp only[];simp[f7,hw2];(refine hJ _ _ ?_;clear hJ J;simp only[ak,reduceIte])))
 exact hJ2 (j-1) _ _ (by omega) ⟨j-1,sw c j (j-1),by omega,by omega,rfl,by simp[f0],by simp[f1],by simp[f2],by simp[f6],by simp,wV st q c j (j-1) (by omega) (by omega) hx hy,hpm1,hI1 hcd⟩
theorem aDQ{P:Program}{N:Nat}{Q:AQ}{k:List fZ}{fr:Frm}{st:St}{x y:Code}(I:Frm→St→Prop)(h1:AWp P N x (AK P N (fun e f s=>e=.normal∧I f s) []) fr st)(h2:∀ fr st,I fr st→AWp P N y (AK P N Q k) fr st):
 AWp P N x (AK P N Q (.code y::k)) fr st:=by
 refine dV h1 ?_
 rintro e fr' st' ⟨rfl,hI⟩
 rw[mY]
 exact h2 _ _ hI
def iF(l:List Int)(a b:Nat):Prop:=0<a→∀ j,a≤j→j<b→l.getD (a-1) 0≤l.getD j 0
abbrev uw(n:Int):LV:=.atom (.int .u64 n)
def eK(m:Nat):Nat:=if m=0 then 0 else Nat.log2 m+1
def pP(n:Nat):Nat:=if 256≤n then 8+eK (n / 256)else eK n
theorem wrap_u64(n:Int)(h1:0≤n)(h2:n<18446744073709551616):IntKind.u64.wrap n=n:=by
 simp[IntKind.wrap,IntKind.signed,IntKind.bits];omega
theorem wrap_u8(n:Int)(h1:0≤n)(h2:n<256):IntKind.u8.wrap n=n:=by
 simp[IntKind.wrap,IntKind.signed,IntKind.bits];omega
abbrev yS:ByteArray:={ data:=((List.append [0,1,2,2,3,3,3,3,4,4,4,4,4,4,4,4,5,5,5,5,5,5,5,5,5,5,5,5,5,5,5,5,6,6,6,6,6,6,6,6,6,6,6,6,6,6,6,6,6,6,6,6,6,6,6,6,6,6,6,6,6,6,6,6] [7,7,7,7,7,7,7,7,7,7,7,7,7,7,7,7,7,7,7,7,7,7,7,7,7,7,7,7,7,7,7,7,7,7,7,7,7,7,7,7,7,7,7,7,7,7,7,7,7,7,7,7,7,7,7,7,7,7,7,7,7,7,7,7]).append (List.append [8,8,8,8,8,8,8,8,8,8,8,8,8,8,8,8,8,8,8,8,8,8,8,8,8,8,8,8,8,8,8,8,8,8,8,8,8,8,8,8,8,8,8,8,8,8,8,8,8,8,8,8,8,8,8,8,8,8,8,8,8,8,8,8] [8,8,8,8,8,8,8,8,8,8,8,8,8,8,8,8,8,8,8,8,8,8,8,8,8,8,8,8,8,8,8,8,8,8,8,8,8,8,8,8,8,8,8,8,8,8,8,8,8,8,8,8,8,8,8,8,8,8,8,8,8,8,8,8])).toArray }
theorem aHn:∀ m:Fin 256,((yS[m.val]?).isSome=true∧((yS[m.val]?).getD 0).toNat=eK m.val):=by decide +kernel
theorem nQ:∀ m:Fin 256,eK m.val≤8∧(0<m.val→m.val<2 ^ eK m.val∧2 ^ eK m.val≤2*m.val):=by decide +kernel
theorem uH(n:Nat)(hn:n<65536):pP n≤16∧(0<n→n<2 ^ pP n∧2 ^ pP n≤2*n):=by
 unfold pP
 by_cases h:256≤n
 ·rw[if_pos h]
  have h1:=nQ ⟨n / 256,by omega⟩
  simp only at h1
  obtain⟨h2,h3⟩:=h1.2 (by omega)
  refine⟨by omega,fun _=>?_⟩
  rw[Nat.pow_add]
  generalize 2 ^ eK (n / 256)=e at *
  omega
 ·rw[if_neg h]
  have h1:=nQ ⟨n,by omega⟩
  simp only at h1
  exact⟨by omega,h1.2⟩
theorem aOR(n:Nat)(st:St)(hn:n<65536):aF Tryz.prog 139 [uw n] st fun r st'=>r=i (pP n)∧st'=st:=by
 refine qO aK Tryz.func139 rfl rfl Tryz.ntmps139 (rs:=[.tmp 2]) rfl (by simp) ?_
 have h1:¬(4294967296:Int)≤(n:Int):=by omega
 have h2:¬(65536:Int)≤(n:Int):=by omega
 have hs:∀ m,m<256→(yS[m]?).isSome=true∧((yS[m]?).getD 0).toNat=eK m:=fun m h=>aHn ⟨m,h⟩
 generalize hq:({ data:=((List.append [0,1,2,2,3,3,3,3,4,4,4,4,4,4,4,4,5,5,5,5,5,5,5,5,5,5,5,5,5,5,5,5,6,6,6,6,6,6,6,6,6,6,6,6,6,6,6,6,6,6,6,6,6,6,6,6,6,6,6,6,6,6,6,6] [7,7,7,7,7,7,7,7,7,7,7,7,7,7,7,7,7,7,7,7,7,7,7,7,7,7,7,7,7,7,7,7,7,7,7,7,7,7,7,7,7,7,7,7,7,7,7,7,7,7,7,7,7,7,7,7,7,7,7,7,7,7,7,7]).append (List.append [8,8,8,8,8,8,8,8,8,8,8,8,8,8,8,8,8,8,8,8,8,8,8,8,8,8,8,8,8,8,8,8,8,8,8,8,8,8,8,8,8,8,8,8,8,8,8,8,8,8,8,8,8,8,8,8,8,8,8,8,8,8,8,8] [8,8,8,8,8,8,8,8,8,8,8,8,8,8,8,8,8,8,8,8,8,8,8,8,8,8,8,8,8,8,8,8,8,8,8,8,8,8,8,8,8,8,8,8,8,8,8,8,8,8,8,8,8,8,8,8,8,8,8,8,8,8,8,8])).toArray }:ByteArray)=s
 rw[show yS=s from hq]at hs
 clear hq
 by_cases h3:(256:Int)≤(n:Int)
 ·obtain⟨m,hm⟩:∃ m,m=n / 256:=⟨_,rfl⟩
  have w1:(n:Int).fdiv (2 ^ min 8 IntKind.u64.bits)=(m:Int):=by
   show(n:Int).fdiv 256=(m:Int)
   rw[Int.fdiv_eq_ediv_of_nonneg _ (by omega)];omega
  have w2:=wrap_u8 m (by omega) (by omega)
  have hb:pP n=8+eK m:=by unfold pP;rw[if_pos (by omega),hm]
  have h4:eK m≤8:=(nQ ⟨m,by omega⟩).1
  have hm2:=hs m (by omega)
  have hz:m<s.size:=by simpa using hm2.1
  have hv:=hm2.2
  rw[hb]
  generalize eK m=e at *
  have w3:IntKind.i64.wrap (8+(e:Int))=((8+e:Nat):Int):=by rw[wrap_i64 _ (by omega) (by omega)];omega
  have w4:IntKind.i64.wrap (e:Int)=(e:Int):=by rw[wrap_i64 _ (by omega) (by omega)]
  have w5:IntKind.i64.wrap (8:Int)=8:=rfl
  simp[hz]at hv
  (repeat' (first|refine qS ?_|(refine qK ?_;simp only[ak,reduceIte])|(refine qR ?_;simp only[ak,reduceIte];simp[h1,h2,h3,aKi,w1,w2,hz,hv,w3,w4,w5])|(refine qC ?_;simp[h1,h2,h3,aKi,w1,w2,hz,hv,w3,w4,w5])|(refine w_e [] ?_;intro J hJ;simp only[];simp[h1,h2,h3,aKi,w1,w2,hz,hv,w3,w4,w5];(refine hJ _ _ ?_;clear hJ J;simp only[ak,reduceIte]))))
 ·have w2:=wrap_u8 n (by omega) (by omega)
  have hb:pP n=eK n:=by unfold pP;rw[if_neg (by omega)]
  have h4:eK n≤8:=(nQ ⟨n,by omega⟩).1
  have hm2:=hs n (by omega)
  have hz:n<s.size:=by simpa using hm2.1
  have hv:=hm2.2
  rw[hb]
  generalize eK n=e at *
  have w4:IntKind.i64.wrap (e:Int)=(e:Int):=by rw[wrap_i64 _ (by omega) (by omega)]
  simp[hz]at hv
  (repeat' (first|refine qS ?_|(refine qK ?_;simp only[ak,reduceIte])|(refine qR ?_;simp only[ak,reduceIte];simp[h1,h2,h3,w2,hz,hv,w4])|(refine qC ?_;simp[h1,h2,h3,w2,hz,hv,w4])|(refine w_e [] ?_;intro J hJ;simp only[];simp[h1,h2,h3,w2,hz,hv,w4];(refine hJ _ _ ?_;clear hJ J;simp only[ak,reduceIte]))))
theorem Len(n:Nat)(st:St)(hn:n<65536):aF Tryz.prog 96 [uw n] st fun r st'=>r=i (pP n)∧st'=st:=by
 refine qO aK Tryz.func96 rfl rfl Tryz.ntmps96 (rs:=[.tmp 2]) rfl (by simp) ?_
 (repeat' (first|refine qS ?_|(refine qK ?_;simp only[ak,reduceIte])|(refine qC ?_;simp[])|(refine w_e [] ?_;intro J hJ;simp only[];simp[];(try (refine hJ _ _ ?_;clear hJ J;simp only[ak,reduceIte])))))
 refine qF (aOR n _ hn) ?_;rintro r st' ⟨rfl,rfl⟩
 (repeat' (first|(refine qR ?_;simp only[ak,reduceIte];simp[])|(refine aL ?_;simp[];(refine hJ _ _ ?_;clear hJ J;simp only[ak,reduceIte]))))
def bQ(q:Nat)(st st':St):Prop:=st.next≤st'.next∧∀ l,l≠q→l<st.next→st'.H l=st.H l
theorem bQ.refl(q:Nat)(st:St):bQ q st st:=⟨Nat.le_refl _,fun _ _ _=>rfl⟩
theorem bQ.trans{q:Nat}{a b c:St}(h:bQ q a b)(k:bQ q b c):bQ q a c:=⟨Nat.le_trans h.1 k.1,fun l hl hn=>(k.2 l hl (Nat.lt_of_lt_of_le hn h.1)).trans (h.2 l hl hn)⟩
theorem bQ.keeps{q:Nat}{a b c:St}(h:bQ q a b)(k:aB b c):bQ q a c:=⟨Nat.le_trans h.1 k.next,fun l hl hn=>(k.H l (Nat.lt_of_lt_of_le hn h.1)).trans (h.2 l hl hn)⟩
theorem bQ.set{q:Nat}{a b:St}(h:bQ q a b)(o:aD):bQ q a (b.set q o):=⟨h.1,fun l hl hn=>by rw[aE,if_neg hl];exact h.2 l hl hn⟩
def yH(a b a' b':Nat)(c:List Int):Prop:=∀ d,Pm a' b' c d→Srt a' b' d→Srt a b d
def PdI(q:Nat)(l:List Int)(st:St)(a b a' b':Nat)(wb wp:Bool)(lim n:Nat)(fr:Frm)(st2:St):Prop:=
 fr 0=.ms q 0 l.length∧fr 1=i a'∧fr 2=i b'∧fr 3=i lim∧fr 8=bb wb∧fr 9=bb wp∧fr 10=i n∧lim<1000000∧q<st2.next∧bQ q st st2∧∃ c,st2.H q=.box 34 1 (us c)∧Pm a b l c∧iF c a' b'∧yH a b a' b' c
theorem PdI.mk{q:Nat}{l:List Int}{st:St}{a b a' b':Nat}{wb wp:Bool}{lim n:Nat}{fr:Frm}{st2:St}{c:List Int}(f0:fr 0=.ms q 0 l.length)(f1:fr 1=i a')(f2:fr 2=i b')(f3:fr 3=i lim)(f8:fr 8=bb wb)(f9:fr 9=bb wp)(f10:fr 10=i n)(hlm:lim<1000000)(hqn:q<st2.next)(ho:bQ q st st2)(hc:st2.H q=.box 34 1 (us c))(hp:Pm a b l c)(ha:iF c a' b')(hf:yH a b a' b' c):PdI q l st a b a' b' wb wp lim n fr st2:=
 ⟨f0,f1,f2,f3,f8,f9,f10,hlm,hqn,ho,c,hc,hp,ha,hf⟩
set_option maxHeartbeats 4000000 in
theorem cR(Z:Nat):∀(l:List Int) (q a b lim:Nat) (st:St),l.length≤12→a≤b→b≤l.length→b-a<Z→iF l a b→lim<1000000→q<st.next→st.H q=.box 34 1 (us l)→
 aF Tryz.prog 122 [.ms q 0 l.length,i a,i b,i lim] st fun r st'=>∃ c,st'.H q=.box 34 1 (us c)∧Pm a b l c∧Srt a b c∧bQ q st st':=by
 induction Z with
 |zero=>intro l q a b lim st _ _ _ h;omega
 |succ Z ih=>
 intro l q a b lim st hl hab hb hZ hah hlim hqn hH
 have hsm:small l:=by unfold small;omega
 refine qO aK Tryz.func122 rfl rfl Tryz.ntmps122 (rs:=[]) rfl (by simp) ?_
 (repeat' (first|refine qS ?_|refine qB ?_|(refine w_e [] ?_;intro J hJ;simp only[];simp[];(refine hJ _ _ ?_;clear hJ J;simp only[ak,reduceIte]))))
 refine qL (fun z fr st2=>∃(a' b' lim:Nat) (wb wp:Bool) (n:LV),a≤a'∧a'≤b'∧b'≤b∧z=b' - a'∧PdI q l st a b a' b' wb wp lim 0 (upd fr 10 (i (0:Nat))) st2) (b-a) ?_ ?_
 ·refine⟨a,b,lim,true,true,.nil,by omega,by omega,by omega,rfl,?_⟩
  exact PdI.mk (by simp) (by simp) (by simp) (by simp) (by simp) (by simp) (by simp) hlim hqn (.refl _ _) hH .refl hah fun d h1 h2=>h2
 rintro z fr st2 ⟨a',b',lim,wb,wp,-,ha1,ha2,hb2,rfl,f0,f1,f2,f3,f8,f9,-,hlm,hqn2,hof,c,hc,hpm,hah2,hfin⟩ JJ hJJ
 rw[mJ,if_neg (by omega)]at f0 f1 f2 f3 f8 f9
 have hcl:=hpm.len
 have hsc:small c:=by unfold small;omega
 obtain⟨n,hn⟩:∃ n:Nat,n=b' - a':=⟨_,rfl⟩
 have w1:IntKind.i64.wrap ((b':Int)-(a':Int))=(n:Int):=by rw[wrap_i64 _ (by omega) (by omega)];omega
 refine qB ?_
 (repeat' (first|refine qS ?_|(refine w_e [] ?_;intro J hJ;simp only[];simp[f1,f2,w1];(refine hJ _ _ ?_;clear hJ J;simp only[ak,reduceIte]))))
 by_cases hn12:(n:Int)≤12
 ·clear hJJ
  refine qC ?_;simp[hn12]
  (repeat' (first|refine qS ?_|(refine w_e [] ?_;intro J hJ;simp only[];simp[f0,f1,f2])))
  refine qE (insertionSort c q a' b' st2 hsc (by omega) (by omega) hc) (by simp[f0,f1,f2,hcl]) ?_;rintro r st' ⟨d,rfl,k1,k2⟩
  (repeat' (first|(refine qR ?_;simp only[ak,reduceIte];simp[])|(refine aL ?_;simp[];(refine hJ _ _ ?_;clear hJ J;simp only[ak,reduceIte]))))
  exact⟨d,rfl,hpm.trans (k1.wide (by omega) (by omega) (by omega)),hfin d k1 k2,hof.set _⟩
 exact absurd (show(n:Int)≤12 by omega) hn12
theorem aMH(l:List Int)(q:Nat)(st:St)(hl:l.length≤12)(hqn:q<st.next)(hH:st.H q=.box 34 1 (us l)):
 aF Tryz.prog 79 [.ms q 0 l.length] st fun r st'=>∃ c,st'.H q=.box 34 1 (us c)∧c.Perm l∧c.Pairwise (·≤·)∧bQ q st st':=by
 have w1:IntKind.u64.wrap (l.length:Int)=(l.length:Int):=wrap_u64 _ (by omega) (by omega)
 have hbl:=(uH l.length (by omega)).1
 refine qO aK Tryz.func79 rfl rfl Tryz.ntmps79 (rs:=[]) rfl (by simp) ?_
 (repeat' (first|refine qS ?_|(refine w_e [] ?_;intro J hJ;simp only[];simp[w1];(try (refine hJ _ _ ?_;clear hJ J;simp only[ak,reduceIte])))))
 refine qF (Len l.length _ (by omega)) ?_;rintro r st' ⟨rfl,rfl⟩
 (repeat' (refine aL ?_;simp[]))
 refine qE (cR (l.length+1) l q 0 l.length (pP l.length) _ hl (by omega) (by omega) (by omega) (fun h=>absurd h (by omega)) (by omega) hqn hH) (by simp[]) ?_;rintro r st' ⟨c,k1,k2,k3,k4⟩
 (repeat' (refine aL ?_;simp[];(refine hJ _ _ ?_;clear hJ J;simp only[ak,reduceIte])))
 have hcl:=k2.len
 exact⟨trivial,c,k1,k2.perm,pI (by rw[hcl];exact k3),k4⟩
end Go.Proofs.YtempldclppogmaaGreatDoor.Aw
namespace Go.Proofs.YtempldclppogmaaGreatDoor.Aw.CA
open Go Go.RowKit Go.Proofs.YtempldclppogmaaGreatDoor.Pl
structure oY(fid:FuncId)(caps:List LV)(en:Int→Nat)(ec:Int→List LV)(Dm:Int→Prop):Prop where
 call:∀ x y st,Dm x→Dm y→aF Tryz.prog fid ([.sl 0 (en x) (ec x),.sl 0 (en y) (ec y)]++caps) st fun r st'=>(∃ n,r=i n∧(n<0↔x<y))∧st'=st
abbrev ws(en:Int→Nat)(ec:Int→List LV)(c:List Int):List LV:=c.map fun x=>.sl 0 (en x) (ec x)
theorem iX(en:Int→Nat)(ec:Int→List LV)(l:List Int)(j:Nat)(hj:j<l.length):(ws en ec l).drop j=.sl 0 (en (l.getD j 0)) (ec (l.getD j 0))::ws en ec (l.drop (j+1)):=by
 rw[aX _ _ hj,ws,ws,← List.map_drop,List.drop_eq_getElem_cons hj];rfl
theorem mT(en:Int→Nat)(ec:Int→List LV)(c:List Int)(k:Nat)(x:Int)(hk:k<c.length):(ws en ec c).take k++.sl 0 (en x) (ec x)::(ws en ec c).drop (k+1)=ws en ec (c.set k x):=by
 simp only[ws]
 rw[← List.map_take,← List.map_drop,List.set_eq_take_append_cons_drop,if_pos hk]
 simp
theorem mC{Dm:Int→Prop}{l:List Int}(h:∀ x∈l,Dm x){k:Nat}(hk:k<l.length):Dm (l.getD k 0):=h _ (by rw[aX _ _ hk];exact List.getElem_mem _)
theorem iY{Dm:Int→Prop}{a b:Nat}{l c:List Int}(h:∀ x∈l,Dm x)(k:Pm a b l c):∀ x∈c,Dm x:=fun x hx=>h x (k.perm.mem_iff.1 hx)
abbrev bx(en:Int→Nat)(ec:Int→List LV)(st:St)(q:Nat)(c:List Int):St:=st.set q (.box 22 1 (ws en ec c))
theorem kS{en:Int→Nat}{ec:Int→List LV}{st:St}{q:Nat}{c:List Int}(h:st.H q=.box 22 1 (ws en ec c)):st=bx en ec st q c:=
 St.ext' rfl fun x=>by by_cases hx:x=q<;>simp[hx,h]
theorem wV(en:Int→Nat)(ec:Int→List LV)(st:St)(q:Nat)(c:List Int)(k m:Nat){x y:Int}(hk:k<c.length)(hm:m<c.length)(hx:c.getD k 0=x)(hy:c.getD m 0=y):
 ((bx en ec st q c).set q (.box 22 1 (List.take k (ws en ec c)++.sl 0 (en y) (ec y)::List.drop (k+1) (ws en ec c)))).set q
   (.box 22 1 (List.take m (List.take k (ws en ec c)++.sl 0 (en y) (ec y)::List.drop (k+1) (ws en ec c))++.sl 0 (en x) (ec x)::List.drop (m+1) (List.take k (ws en ec c)++.sl 0 (en y) (ec y)::List.drop (k+1) (ws en ec c))))=bx en ec st q (sw c k m):=by
 have e:List.take k (ws en ec c)++.sl 0 (en y) (ec y)::List.drop (k+1) (ws en ec c)=ws en ec (c.set k y):=mT en ec c k y hk
 rw[e,mT en ec (c.set k y) m x (by simpa using hm)]
 unfold bx sw
 rw[hx,hy]
 exact St.ext' rfl fun z=>by by_cases hz:z=q<;>simp[hz]
theorem insertionSort{fid:FuncId}{caps:List LV}{en:Int→Nat}{ec:Int→List LV}{Dm:Int→Prop}(hC:oY fid caps en ec Dm)(l:List Int)(q a b:Nat)(st:St)(hD:∀ x∈l,Dm x)(hl:small l)(ha:a≤b)(hb:b≤l.length)(hH:st.H q=.box 22 1 (ws en ec l)):
 aF Tryz.prog 130 [.ms q 0 l.length,i a,i b,.fn (.func fid) caps] st fun r st'=>∃ c,st'=bx en ec st q c∧Pm a b l c∧Srt a b c:=by
 unfold small at hl
 refine qO aK Tryz.func130 rfl rfl Tryz.ntmps130 (rs:=[]) rfl (by simp) ?_
 have hw0:=qN a (by omega)
 (repeat' (first|refine qS ?_|refine qB ?_|(refine w_e [] ?_;intro J hJ;simp only[];simp[hw0];(refine hJ _ _ ?_;clear hJ J;simp only[ak,reduceIte]))))
 refine qL (fun n fr st'=>∃(k:Nat) (c:List Int),a<k∧n=b-k∧(fr 0=.ms q 0 l.length∧fr 3=.fn (.func fid) caps)∧fr 1=i a∧fr 2=i b∧fr 8=i k∧st'=bx en ec st q c∧Pm a b l c∧Srt a k c) (b-(a+1)) ?_ ?_
 ·exact⟨a+1,l,by omega,rfl,by simp,by simp,by simp,by simp,kS hH,.refl,fun p q h1 h2 h3=>by omega⟩
 rintro n fr st1 ⟨k,c,hak,rfl,⟨f0,fC⟩,f1,f2,f6,rfl,hpm,hs⟩ JJ hJJ
 have hcl:=hpm.len
 have hDc:=iY hD hpm
 by_cases hlt:k<b
 rotate_left
 ·clear hJJ
  have hlt':¬(k:Int)<(b:Int):=by omega
  (repeat' (first|refine qS ?_|(refine qX ?_;simp only[ak,reduceIte])|(refine qC ?_;simp[f0,fC,f1,f2,f6,hlt])|(refine w_e [] ?_;intro J hJ;simp only[];simp[f0,fC,f1,f2,f6,hlt];(refine hJ _ _ ?_;clear hJ J;simp only[ak,reduceIte]))))
  exact⟨trivial,c,rfl,hpm,fun p q h1 h2 h3=>hs p q h1 h2 (by omega)⟩
 have hw1:=qN k (by omega)
 (repeat' (first|refine qS ?_|refine qB ?_|(refine qK ?_;simp only[ak,reduceIte])|(refine qC ?_;simp[f0,fC,f1,f2,f6,hlt])|(refine w_e [] ?_;intro J hJ;simp only[];simp[f0,fC,f1,f2,f6,hlt];(refine hJ _ _ ?_;clear hJ J;simp only[ak,reduceIte]))))
 refine qL (fun n fr st'=>∃(j:Nat) (c:List Int),a≤j∧j≤k∧j=n∧(fr 0=.ms q 0 l.length∧fr 3=.fn (.func fid) caps)∧fr 1=i a∧fr 2=i b∧fr 8=i k∧fr 9=i j∧st'=bx en ec st q c∧Pm a b l c∧Ins a j k c) k ?_ ?_
 ·exact⟨k,c,by omega,by omega,rfl,by simp[f0,fC],by simp[f1],by simp[f2],by simp[f6],by simp,rfl,hpm,hs.ins⟩
 clear f0 fC f1 f2 f6 hs hpm hcl hDc c fr
 rintro n fr st1 ⟨j,c,haj,hjk,rfl,⟨f0,fC⟩,f1,f2,f6,f7,rfl,hpm,hI⟩ JJ2 hJ2
 have hcl:=hpm.len
 have hDc:=iY hD hpm
 by_cases hj:a<j
 rotate_left
 ·clear hJ2
  have hj':¬(a:Int)<(j:Int):=by omega
  (repeat (refine qS ?_));(refine w_s [] [q] [(0,true),(1,true),(2,true),(3,true),(4,true),(5,true),(6,true),(7,true),(8,true),(9,true),(10,true),(11,true),(12,true),(13,true),(14,false),(15,true),(16,true)] ?_;intro J hJ;simp[f0,fC,f1,f2,f6,f7,hj];(refine hJ _ _ ?_;clear hJ J;simp only[ak,reduceIte]))
  (repeat' (first|(refine qX ?_;simp only[ak,reduceIte])|(refine qC ?_;simp[f6,hw1])|(refine w_e [] ?_;intro J hJ;simp only[];simp[f6,hw1];(refine hJ _ _ ?_;clear hJ J;simp only[ak,reduceIte]))))
  exact hJJ (b-(k+1)) _ _ (by omega) ⟨k+1,c,by omega,rfl,by simp[f0,fC],by simp[f1],by simp[f2],by simp,rfl,hpm,hI.done haj (.inl (by omega))⟩
 have hw2:=eE j (by omega) (by omega)
 have hjl:j<l.length:=by omega
 have hjl1:j-1<l.length:=by omega
 have hd:=iX en ec c j (by omega)
 have hd2:=iX en ec c (j-1) (by omega)
 have hI1:=hI.step hj hjk (by omega)
 have hI2:=hI.done haj
 have hpm1:=hpm.step j (j-1) (by omega) (by omega) (by omega) (by omega) (by omega)
 generalize hx:c.getD j 0=x at *
 generalize hy:c.getD (j-1) 0=y at *
 (repeat (refine qS ?_));(refine w_s [] [q] [(0,true),(1,true),(2,true),(3,true),(4,true),(5,true),(6,true),(7,true),(8,true),(9,true),(10,true),(11,true),(12,true),(13,true),(14,false),(15,true),(16,true)] ?_;intro J hJ;simp[f0,fC,f1,f2,f6,f7,hj,hw2,hjl,hjl1,hcl,hd,hd2])
 refine bF (hC.call x y _ (by first|assumption|(subst_vars;exact mC (by assumption) (by omega))) (by first|assumption|(subst_vars;exact mC (by assumption) (by omega)))) ?_;rintro r s2 ⟨⟨nv,rfl,hnv⟩,rfl⟩
 refine⟨fun _=>by simp,?_⟩
 by_cases hcd:x<y
 rotate_left
 ·clear hJ2
  (refine bN ?_;simp[hnv,hcd];(refine hJ _ _ ?_;clear hJ J;simp only[ak,reduceIte]))
  (repeat' (first|(refine qX ?_;simp only[ak,reduceIte])|(refine qC ?_;simp[f6,hw1])|(refine w_e [] ?_;intro J hJ;simp only[];simp[f6,hw1];(refine hJ _ _ ?_;clear hJ J;simp only[ak,reduceIte]))))
  exact hJJ (b-(k+1)) _ _ (by omega) ⟨k+1,c,by omega,rfl,by simp[f0,fC],by simp[f1],by simp[f2],by simp,rfl,hpm,hI2 (.inr hcd)⟩
 clear hJJ
 (refine bN ?_;simp[hnv,hcd];(refine hJ _ _ ?_;clear hJ J;simp only[ak,reduceIte]))
 (repeat' (first|refine qS ?_|refine qB ?_|(refine qK ?_;simp only[ak,reduceIte])|(refine qC ?_;simp[])))
 (refine w_s [] [q] [(0,true),(1,true),(2,true),(3,true),(4,true),(5,true),(6,true),(7,true),(8,true),(9,true),(10,true),(11,true),(12,true),(13,true),(14,true),(15,false),(16,true),(17,false)] ?_;intro J hJ;simp[f0,fC,f1,f2,f6,f7,hw2,hjl,hjl1,hcl,hd,hd2];(repeat refine ca ?_);(refine hJ _ _ ?_;clear hJ J;simp only[ak,reduceIte]))
 (repeat' (refine w_e [] ?_;intro J hJ;simp only[];simp[f7,hw2];(refine hJ _ _ ?_;clear hJ J;simp only[ak,reduceIte])))
 exact hJ2 (j-1) _ _ (by omega) ⟨j-1,sw c j (j-1),by omega,by omega,rfl,by simp[f0,fC],by simp[f1],by simp[f2],by simp[f6],by simp,wV en ec st q c j (j-1) (by omega) (by omega) hx hy,hpm1,hI1 hcd⟩
def iF(l:List Int)(a b:Nat):Prop:=0<a→∀ j,a≤j→j<b→l.getD (a-1) 0≤l.getD j 0
def yH(a b a' b':Nat)(c:List Int):Prop:=∀ d,Pm a' b' c d→Srt a' b' d→Srt a b d
def PdI(fid:FuncId)(caps:List LV)(en:Int→Nat)(ec:Int→List LV)(q:Nat)(l:List Int)(st:St)(a b a' b':Nat)(wb wp:Bool)(lim n:Nat)(fr:Frm)(st2:St):Prop:=
 (fr 0=.ms q 0 l.length∧fr 4=.fn (.func fid) caps)∧fr 1=i a'∧fr 2=i b'∧fr 3=i lim∧fr 10=bb wb∧fr 11=bb wp∧fr 12=i n∧lim<1000000∧q<st2.next∧bQ q st st2∧∃ c,st2.H q=.box 22 1 (ws en ec c)∧Pm a b l c∧iF c a' b'∧yH a b a' b' c
theorem PdI.mk{fid:FuncId}{caps:List LV}{en:Int→Nat}{ec:Int→List LV}{q:Nat}{l:List Int}{st:St}{a b a' b':Nat}{wb wp:Bool}{lim n:Nat}{fr:Frm}{st2:St}{c:List Int}(f0:(fr 0=.ms q 0 l.length∧fr 4=.fn (.func fid) caps))(f1:fr 1=i a')(f2:fr 2=i b')(f3:fr 3=i lim)(f8:fr 10=bb wb)(f9:fr 11=bb wp)(f10:fr 12=i n)(hlm:lim<1000000)(hqn:q<st2.next)(ho:bQ q st st2)(hc:st2.H q=.box 22 1 (ws en ec c))(hp:Pm a b l c)(ha:iF c a' b')(hf:yH a b a' b' c):PdI fid caps en ec q l st a b a' b' wb wp lim n fr st2:=
 ⟨f0,f1,f2,f3,f8,f9,f10,hlm,hqn,ho,c,hc,hp,ha,hf⟩
set_option maxHeartbeats 4000000 in
theorem cR{fid:FuncId}{caps:List LV}{en:Int→Nat}{ec:Int→List LV}{Dm:Int→Prop}(hC:oY fid caps en ec Dm)(Z:Nat):∀(l:List Int) (q a b lim:Nat) (st:St),(∀ x∈l,Dm x)→l.length≤12→a≤b→b≤l.length→b-a<Z→iF l a b→lim<1000000→q<st.next→st.H q=.box 22 1 (ws en ec l)→
 aF Tryz.prog 95 [.ms q 0 l.length,i a,i b,i lim,.fn (.func fid) caps] st fun r st'=>∃ c,st'.H q=.box 22 1 (ws en ec c)∧Pm a b l c∧Srt a b c∧bQ q st st':=by
 induction Z with
 |zero=>intro l q a b lim st _ _ _ _ h;omega
 |succ Z ih=>
 intro l q a b lim st hD hl hab hb hZ hah hlim hqn hH
 have hsm:small l:=by unfold small;omega
 refine qO aK Tryz.func95 rfl rfl Tryz.ntmps95 (rs:=[]) rfl (by simp) ?_
 (repeat' (first|refine qS ?_|refine qB ?_|(refine w_e [] ?_;intro J hJ;simp only[];simp[];(refine hJ _ _ ?_;clear hJ J;simp only[ak,reduceIte]))))
 refine qL (fun z fr st2=>∃(a' b' lim:Nat) (wb wp:Bool) (n:LV),a≤a'∧a'≤b'∧b'≤b∧z=b' - a'∧PdI fid caps en ec q l st a b a' b' wb wp lim 0 (upd fr 12 (i (0:Nat))) st2) (b-a) ?_ ?_
 ·refine⟨a,b,lim,true,true,.nil,by omega,by omega,by omega,rfl,?_⟩
  exact PdI.mk (by simp) (by simp) (by simp) (by simp) (by simp) (by simp) (by simp) hlim hqn (.refl _ _) hH .refl hah fun d h1 h2=>h2
 rintro z fr st2 ⟨a',b',lim,wb,wp,-,ha1,ha2,hb2,rfl,⟨f0,fC⟩,f1,f2,f3,f8,f9,-,hlm,hqn2,hof,c,hc,hpm,hah2,hfin⟩ JJ hJJ
 rw[mJ,if_neg (by omega)]at f0 fC f1 f2 f3 f8 f9
 have hcl:=hpm.len
 have hDc:=iY hD hpm
 have hsc:small c:=by unfold small;omega
 obtain⟨n,hn⟩:∃ n:Nat,n=b' - a':=⟨_,rfl⟩
 have w1:IntKind.i64.wrap ((b':Int)-(a':Int))=(n:Int):=by rw[wrap_i64 _ (by omega) (by omega)];omega
 refine qB ?_
 (repeat' (first|refine qS ?_|(refine w_e [] ?_;intro J hJ;simp only[];simp[f1,f2,w1];(refine hJ _ _ ?_;clear hJ J;simp only[ak,reduceIte]))))
 by_cases hn12:(n:Int)≤12
 ·clear hJJ
  refine qC ?_;simp[hn12]
  (repeat' (first|refine qS ?_|(refine w_e [] ?_;intro J hJ;simp only[];simp[f0,fC,f1,f2])))
  refine qE (insertionSort hC c q a' b' st2 (by first|assumption|exact iY hD ‹Pm _ _ l c›) hsc (by omega) (by omega) hc) (by simp[f0,fC,f1,f2,hcl]) ?_;rintro r st' ⟨d,rfl,k1,k2⟩
  (repeat' (first|(refine qR ?_;simp only[ak,reduceIte];simp[])|(refine aL ?_;simp[];(refine hJ _ _ ?_;clear hJ J;simp only[ak,reduceIte]))))
  exact⟨d,rfl,hpm.trans (k1.wide (by omega) (by omega) (by omega)),hfin d k1 k2,hof.set _⟩
 exact absurd (show(n:Int)≤12 by omega) hn12
theorem aCb{fid:FuncId}{caps:List LV}{en:Int→Nat}{ec:Int→List LV}{Dm:Int→Prop}(hC:oY fid caps en ec Dm)(l:List Int)(q:Nat)(st:St)(hD:∀ x∈l,Dm x)(hl:l.length≤12)(hqn:q<st.next)(hH:st.H q=.box 22 1 (ws en ec l)):
 aF Tryz.prog 61 [.ms q 0 l.length,.fn (.func fid) caps] st fun r st'=>∃ c,st'.H q=.box 22 1 (ws en ec c)∧c.Perm l∧c.Pairwise (·≤·)∧bQ q st st':=by
 have w1:IntKind.u64.wrap (l.length:Int)=(l.length:Int):=wrap_u64 _ (by omega) (by omega)
 have hbl:=(uH l.length (by omega)).1
 refine qO aK Tryz.func61 rfl rfl Tryz.ntmps61 (rs:=[]) rfl (by simp) ?_
 (repeat' (first|refine qS ?_|(refine w_e [] ?_;intro J hJ;simp only[];simp[w1];(try (refine hJ _ _ ?_;clear hJ J;simp only[ak,reduceIte])))))
 refine qF (Len l.length _ (by omega)) ?_;rintro r st' ⟨rfl,rfl⟩
 (repeat' (refine aL ?_;simp[]))
 refine qE (cR hC (l.length+1) l q 0 l.length (pP l.length) _ hD hl (by omega) (by omega) (by omega) (fun h=>absurd h (by omega)) (by omega) hqn hH) (by simp[]) ?_;rintro r st' ⟨c,k1,k2,k3,k4⟩
 (repeat' (refine aL ?_;simp[];(refine hJ _ _ ?_;clear hJ J;simp only[ak,reduceIte])))
 have hcl:=k2.len
 exact⟨trivial,c,k1,k2.perm,pI (by rw[hcl];exact k3),k4⟩
end Go.Proofs.YtempldclppogmaaGreatDoor.Aw.CA
namespace Go.Proofs.YtempldclppogmaaGreatDoor.Aw.CB
open Go Go.RowKit Go.Proofs.YtempldclppogmaaGreatDoor.Pl
structure oY(fid:FuncId)(caps:List LV)(en:Int→Nat)(ec:Int→List LV)(Dm:Int→Prop):Prop where
 call:∀ x y st,Dm x→Dm y→aF Tryz.prog fid ([.sl 0 (en x) (ec x),.sl 0 (en y) (ec y)]++caps) st fun r st'=>(∃ n,r=i n∧(n<0↔x<y))∧st'=st
abbrev ws(en:Int→Nat)(ec:Int→List LV)(c:List Int):List LV:=c.map fun x=>.sl 0 (en x) (ec x)
theorem iX(en:Int→Nat)(ec:Int→List LV)(l:List Int)(j:Nat)(hj:j<l.length):(ws en ec l).drop j=.sl 0 (en (l.getD j 0)) (ec (l.getD j 0))::ws en ec (l.drop (j+1)):=by
 rw[aX _ _ hj,ws,ws,← List.map_drop,List.drop_eq_getElem_cons hj];rfl
theorem mT(en:Int→Nat)(ec:Int→List LV)(c:List Int)(k:Nat)(x:Int)(hk:k<c.length):(ws en ec c).take k++.sl 0 (en x) (ec x)::(ws en ec c).drop (k+1)=ws en ec (c.set k x):=by
 simp only[ws]
 rw[← List.map_take,← List.map_drop,List.set_eq_take_append_cons_drop,if_pos hk]
 simp
theorem mC{Dm:Int→Prop}{l:List Int}(h:∀ x∈l,Dm x){k:Nat}(hk:k<l.length):Dm (l.getD k 0):=h _ (by rw[aX _ _ hk];exact List.getElem_mem _)
theorem iY{Dm:Int→Prop}{a b:Nat}{l c:List Int}(h:∀ x∈l,Dm x)(k:Pm a b l c):∀ x∈c,Dm x:=fun x hx=>h x (k.perm.mem_iff.1 hx)
abbrev bx(en:Int→Nat)(ec:Int→List LV)(st:St)(q:Nat)(c:List Int):St:=st.set q (.box 23 1 (ws en ec c))
theorem kS{en:Int→Nat}{ec:Int→List LV}{st:St}{q:Nat}{c:List Int}(h:st.H q=.box 23 1 (ws en ec c)):st=bx en ec st q c:=
 St.ext' rfl fun x=>by by_cases hx:x=q<;>simp[hx,h]
theorem wV(en:Int→Nat)(ec:Int→List LV)(st:St)(q:Nat)(c:List Int)(k m:Nat){x y:Int}(hk:k<c.length)(hm:m<c.length)(hx:c.getD k 0=x)(hy:c.getD m 0=y):
 ((bx en ec st q c).set q (.box 23 1 (List.take k (ws en ec c)++.sl 0 (en y) (ec y)::List.drop (k+1) (ws en ec c)))).set q
   (.box 23 1 (List.take m (List.take k (ws en ec c)++.sl 0 (en y) (ec y)::List.drop (k+1) (ws en ec c))++.sl 0 (en x) (ec x)::List.drop (m+1) (List.take k (ws en ec c)++.sl 0 (en y) (ec y)::List.drop (k+1) (ws en ec c))))=bx en ec st q (sw c k m):=by
 have e:List.take k (ws en ec c)++.sl 0 (en y) (ec y)::List.drop (k+1) (ws en ec c)=ws en ec (c.set k y):=mT en ec c k y hk
 rw[e,mT en ec (c.set k y) m x (by simpa using hm)]
 unfold bx sw
 rw[hx,hy]
 exact St.ext' rfl fun z=>by by_cases hz:z=q<;>simp[hz]
theorem insertionSort{fid:FuncId}{caps:List LV}{en:Int→Nat}{ec:Int→List LV}{Dm:Int→Prop}(hC:oY fid caps en ec Dm)(l:List Int)(q a b:Nat)(st:St)(hD:∀ x∈l,Dm x)(hl:small l)(ha:a≤b)(hb:b≤l.length)(hH:st.H q=.box 23 1 (ws en ec l)):
 aF Tryz.prog 147 [.ms q 0 l.length,i a,i b,.fn (.func fid) caps] st fun r st'=>∃ c,st'=bx en ec st q c∧Pm a b l c∧Srt a b c:=by
 unfold small at hl
 refine qO aK Tryz.func147 rfl rfl Tryz.ntmps147 (rs:=[]) rfl (by simp) ?_
 have hw0:=qN a (by omega)
 (repeat' (first|refine qS ?_|refine qB ?_|(refine w_e [] ?_;intro J hJ;simp only[];simp[hw0];(refine hJ _ _ ?_;clear hJ J;simp only[ak,reduceIte]))))
 refine qL (fun n fr st'=>∃(k:Nat) (c:List Int),a<k∧n=b-k∧(fr 0=.ms q 0 l.length∧fr 3=.fn (.func fid) caps)∧fr 1=i a∧fr 2=i b∧fr 8=i k∧st'=bx en ec st q c∧Pm a b l c∧Srt a k c) (b-(a+1)) ?_ ?_
 ·exact⟨a+1,l,by omega,rfl,by simp,by simp,by simp,by simp,kS hH,.refl,fun p q h1 h2 h3=>by omega⟩
 rintro n fr st1 ⟨k,c,hak,rfl,⟨f0,fC⟩,f1,f2,f6,rfl,hpm,hs⟩ JJ hJJ
 have hcl:=hpm.len
 have hDc:=iY hD hpm
 by_cases hlt:k<b
 rotate_left
 ·clear hJJ
  have hlt':¬(k:Int)<(b:Int):=by omega
  (repeat' (first|refine qS ?_|(refine qX ?_;simp only[ak,reduceIte])|(refine qC ?_;simp[f0,fC,f1,f2,f6,hlt])|(refine w_e [] ?_;intro J hJ;simp only[];simp[f0,fC,f1,f2,f6,hlt];(refine hJ _ _ ?_;clear hJ J;simp only[ak,reduceIte]))))
  exact⟨trivial,c,rfl,hpm,fun p q h1 h2 h3=>hs p q h1 h2 (by omega)⟩
 have hw1:=qN k (by omega)
 (repeat' (first|refine qS ?_|refine qB ?_|(refine qK ?_;simp only[ak,reduceIte])|(refine qC ?_;simp[f0,fC,f1,f2,f6,hlt])|(refine w_e [] ?_;intro J hJ;simp only[];simp[f0,fC,f1,f2,f6,hlt];(refine hJ _ _ ?_;clear hJ J;simp only[ak,reduceIte]))))
 refine qL (fun n fr st'=>∃(j:Nat) (c:List Int),a≤j∧j≤k∧j=n∧(fr 0=.ms q 0 l.length∧fr 3=.fn (.func fid) caps)∧fr 1=i a∧fr 2=i b∧fr 8=i k∧fr 9=i j∧st'=bx en ec st q c∧Pm a b l c∧Ins a j k c) k ?_ ?_
 ·exact⟨k,c,by omega,by omega,rfl,by simp[f0,fC],by simp[f1],by simp[f2],by simp[f6],by simp,rfl,hpm,hs.ins⟩
 clear f0 fC f1 f2 f6 hs hpm hcl hDc c fr
 rintro n fr st1 ⟨j,c,haj,hjk,rfl,⟨f0,fC⟩,f1,f2,f6,f7,rfl,hpm,hI⟩ JJ2 hJ2
 have hcl:=hpm.len
 have hDc:=iY hD hpm
 by_cases hj:a<j
 rotate_left
 ·clear hJ2
  have hj':¬(a:Int)<(j:Int):=by omega
  (repeat (refine qS ?_));(refine w_s [] [q] [(0,true),(1,true),(2,true),(3,true),(4,true),(5,true),(6,true),(7,true),(8,true),(9,true),(10,true),(11,true),(12,true),(13,true),(14,false),(15,true),(16,true)] ?_;intro J hJ;simp[f0,fC,f1,f2,f6,f7,hj];(refine hJ _ _ ?_;clear hJ J;simp only[ak,reduceIte]))
  (repeat' (first|(refine qX ?_;simp only[ak,reduceIte])|(refine qC ?_;simp[f6,hw1])|(refine w_e [] ?_;intro J hJ;simp only[];simp[f6,hw1];(refine hJ _ _ ?_;clear hJ J;simp only[ak,reduceIte]))))
  exact hJJ (b-(k+1)) _ _ (by omega) ⟨k+1,c,by omega,rfl,by simp[f0,fC],by simp[f1],by simp[f2],by simp,rfl,hpm,hI.done haj (.inl (by omega))⟩
 have hw2:=eE j (by omega) (by omega)
 have hjl:j<l.length:=by omega
 have hjl1:j-1<l.length:=by omega
 have hd:=iX en ec c j (by omega)
 have hd2:=iX en ec c (j-1) (by omega)
 have hI1:=hI.step hj hjk (by omega)
 have hI2:=hI.done haj
 have hpm1:=hpm.step j (j-1) (by omega) (by omega) (by omega) (by omega) (by omega)
 generalize hx:c.getD j 0=x at *
 generalize hy:c.getD (j-1) 0=y at *
 (repeat (refine qS ?_));(refine w_s [] [q] [(0,true),(1,true),(2,true),(3,true),(4,true),(5,true),(6,true),(7,true),(8,true),(9,true),(10,true),(11,true),(12,true),(13,true),(14,false),(15,true),(16,true)] ?_;intro J hJ;simp[f0,fC,f1,f2,f6,f7,hj,hw2,hjl,hjl1,hcl,hd,hd2])
 refine bF (hC.call x y _ (by first|assumption|(subst_vars;exact mC (by assumption) (by omega))) (by first|assumption|(subst_vars;exact mC (by assumption) (by omega)))) ?_;rintro r s2 ⟨⟨nv,rfl,hnv⟩,rfl⟩
 refine⟨fun _=>by simp,?_⟩
 by_cases hcd:x<y
 rotate_left
 ·clear hJ2
  (refine bN ?_;simp[hnv,hcd];(refine hJ _ _ ?_;clear hJ J;simp only[ak,reduceIte]))
  (repeat' (first|(refine qX ?_;simp only[ak,reduceIte])|(refine qC ?_;simp[f6,hw1])|(refine w_e [] ?_;intro J hJ;simp only[];simp[f6,hw1];(refine hJ _ _ ?_;clear hJ J;simp only[ak,reduceIte]))))
  exact hJJ (b-(k+1)) _ _ (by omega) ⟨k+1,c,by omega,rfl,by simp[f0,fC],by simp[f1],by simp[f2],by simp,rfl,hpm,hI2 (.inr hcd)⟩
 clear hJJ
 (refine bN ?_;simp[hnv,hcd];(refine hJ _ _ ?_;clear hJ J;simp only[ak,reduceIte]))
 (repeat' (first|refine qS ?_|refine qB ?_|(refine qK ?_;simp only[ak,reduceIte])|(refine qC ?_;simp[])))
 (refine w_s [] [q] [(0,true),(1,true),(2,true),(3,true),(4,true),(5,true),(6,true),(7,true),(8,true),(9,true),(10,true),(11,true),(12,true),(13,true),(14,true),(15,false),(16,true),(17,false)] ?_;intro J hJ;simp[f0,fC,f1,f2,f6,f7,hw2,hjl,hjl1,hcl,hd,hd2];(repeat refine ca ?_);(refine hJ _ _ ?_;clear hJ J;simp only[ak,reduceIte]))
 (repeat' (refine w_e [] ?_;intro J hJ;simp only[];simp[f7,hw2];(refine hJ _ _ ?_;clear hJ J;simp only[ak,reduceIte])))
 exact hJ2 (j-1) _ _ (by omega) ⟨j-1,sw c j (j-1),by omega,by omega,rfl,by simp[f0,fC],by simp[f1],by simp[f2],by simp[f6],by simp,wV en ec st q c j (j-1) (by omega) (by omega) hx hy,hpm1,hI1 hcd⟩
def iF(l:List Int)(a b:Nat):Prop:=0<a→∀ j,a≤j→j<b→l.getD (a-1) 0≤l.getD j 0
def yH(a b a' b':Nat)(c:List Int):Prop:=∀ d,Pm a' b' c d→Srt a' b' d→Srt a b d
def PdI(fid:FuncId)(caps:List LV)(en:Int→Nat)(ec:Int→List LV)(q:Nat)(l:List Int)(st:St)(a b a' b':Nat)(wb wp:Bool)(lim n:Nat)(fr:Frm)(st2:St):Prop:=
 (fr 0=.ms q 0 l.length∧fr 4=.fn (.func fid) caps)∧fr 1=i a'∧fr 2=i b'∧fr 3=i lim∧fr 10=bb wb∧fr 11=bb wp∧fr 12=i n∧lim<1000000∧q<st2.next∧bQ q st st2∧∃ c,st2.H q=.box 23 1 (ws en ec c)∧Pm a b l c∧iF c a' b'∧yH a b a' b' c
theorem PdI.mk{fid:FuncId}{caps:List LV}{en:Int→Nat}{ec:Int→List LV}{q:Nat}{l:List Int}{st:St}{a b a' b':Nat}{wb wp:Bool}{lim n:Nat}{fr:Frm}{st2:St}{c:List Int}(f0:(fr 0=.ms q 0 l.length∧fr 4=.fn (.func fid) caps))(f1:fr 1=i a')(f2:fr 2=i b')(f3:fr 3=i lim)(f8:fr 10=bb wb)(f9:fr 11=bb wp)(f10:fr 12=i n)(hlm:lim<1000000)(hqn:q<st2.next)(ho:bQ q st st2)(hc:st2.H q=.box 23 1 (ws en ec c))(hp:Pm a b l c)(ha:iF c a' b')(hf:yH a b a' b' c):PdI fid caps en ec q l st a b a' b' wb wp lim n fr st2:=
 ⟨f0,f1,f2,f3,f8,f9,f10,hlm,hqn,ho,c,hc,hp,ha,hf⟩
set_option maxHeartbeats 4000000 in
theorem cR{fid:FuncId}{caps:List LV}{en:Int→Nat}{ec:Int→List LV}{Dm:Int→Prop}(hC:oY fid caps en ec Dm)(Z:Nat):∀(l:List Int) (q a b lim:Nat) (st:St),(∀ x∈l,Dm x)→l.length≤12→a≤b→b≤l.length→b-a<Z→iF l a b→lim<1000000→q<st.next→st.H q=.box 23 1 (ws en ec l)→
 aF Tryz.prog 105 [.ms q 0 l.length,i a,i b,i lim,.fn (.func fid) caps] st fun r st'=>∃ c,st'.H q=.box 23 1 (ws en ec c)∧Pm a b l c∧Srt a b c∧bQ q st st':=by
 induction Z with
 |zero=>intro l q a b lim st _ _ _ _ h;omega
 |succ Z ih=>
 intro l q a b lim st hD hl hab hb hZ hah hlim hqn hH
 have hsm:small l:=by unfold small;omega
 refine qO aK Tryz.func105 rfl rfl Tryz.ntmps105 (rs:=[]) rfl (by simp) ?_
 (repeat' (first|refine qS ?_|refine qB ?_|(refine w_e [] ?_;intro J hJ;simp only[];simp[];(refine hJ _ _ ?_;clear hJ J;simp only[ak,reduceIte]))))
 refine qL (fun z fr st2=>∃(a' b' lim:Nat) (wb wp:Bool) (n:LV),a≤a'∧a'≤b'∧b'≤b∧z=b' - a'∧PdI fid caps en ec q l st a b a' b' wb wp lim 0 (upd fr 12 (i (0:Nat))) st2) (b-a) ?_ ?_
 ·refine⟨a,b,lim,true,true,.nil,by omega,by omega,by omega,rfl,?_⟩
  exact PdI.mk (by simp) (by simp) (by simp) (by simp) (by simp) (by simp) (by simp) hlim hqn (.refl _ _) hH .refl hah fun d h1 h2=>h2
 rintro z fr st2 ⟨a',b',lim,wb,wp,-,ha1,ha2,hb2,rfl,⟨f0,fC⟩,f1,f2,f3,f8,f9,-,hlm,hqn2,hof,c,hc,hpm,hah2,hfin⟩ JJ hJJ
 rw[mJ,if_neg (by omega)]at f0 fC f1 f2 f3 f8 f9
 have hcl:=hpm.len
 have hDc:=iY hD hpm
 have hsc:small c:=by unfold small;omega
 obtain⟨n,hn⟩:∃ n:Nat,n=b' - a':=⟨_,rfl⟩
 have w1:IntKind.i64.wrap ((b':Int)-(a':Int))=(n:Int):=by rw[wrap_i64 _ (by omega) (by omega)];omega
 refine qB ?_
 (repeat' (first|refine qS ?_|(refine w_e [] ?_;intro J hJ;simp only[];simp[f1,f2,w1];(refine hJ _ _ ?_;clear hJ J;simp only[ak,reduceIte]))))
 by_cases hn12:(n:Int)≤12
 ·clear hJJ
  refine qC ?_;simp[hn12]
  (repeat' (first|refine qS ?_|(refine w_e [] ?_;intro J hJ;simp only[];simp[f0,fC,f1,f2])))
  refine qE (insertionSort hC c q a' b' st2 (by first|assumption|exact iY hD ‹Pm _ _ l c›) hsc (by omega) (by omega) hc) (by simp[f0,fC,f1,f2,hcl]) ?_;rintro r st' ⟨d,rfl,k1,k2⟩
  (repeat' (first|(refine qR ?_;simp only[ak,reduceIte];simp[])|(refine aL ?_;simp[];(refine hJ _ _ ?_;clear hJ J;simp only[ak,reduceIte]))))
  exact⟨d,rfl,hpm.trans (k1.wide (by omega) (by omega) (by omega)),hfin d k1 k2,hof.set _⟩
 exact absurd (show(n:Int)≤12 by omega) hn12
theorem aCb{fid:FuncId}{caps:List LV}{en:Int→Nat}{ec:Int→List LV}{Dm:Int→Prop}(hC:oY fid caps en ec Dm)(l:List Int)(q:Nat)(st:St)(hD:∀ x∈l,Dm x)(hl:l.length≤12)(hqn:q<st.next)(hH:st.H q=.box 23 1 (ws en ec l)):
 aF Tryz.prog 71 [.ms q 0 l.length,.fn (.func fid) caps] st fun r st'=>∃ c,st'.H q=.box 23 1 (ws en ec c)∧c.Perm l∧c.Pairwise (·≤·)∧bQ q st st':=by
 have w1:IntKind.u64.wrap (l.length:Int)=(l.length:Int):=wrap_u64 _ (by omega) (by omega)
 have hbl:=(uH l.length (by omega)).1
 refine qO aK Tryz.func71 rfl rfl Tryz.ntmps71 (rs:=[]) rfl (by simp) ?_
 (repeat' (first|refine qS ?_|(refine w_e [] ?_;intro J hJ;simp only[];simp[w1];(try (refine hJ _ _ ?_;clear hJ J;simp only[ak,reduceIte])))))
 refine qF (Len l.length _ (by omega)) ?_;rintro r st' ⟨rfl,rfl⟩
 (repeat' (refine aL ?_;simp[]))
 refine qE (cR hC (l.length+1) l q 0 l.length (pP l.length) _ hD hl (by omega) (by omega) (by omega) (fun h=>absurd h (by omega)) (by omega) hqn hH) (by simp[]) ?_;rintro r st' ⟨c,k1,k2,k3,k4⟩
 (repeat' (refine aL ?_;simp[];(refine hJ _ _ ?_;clear hJ J;simp only[ak,reduceIte])))
 have hcl:=k2.len
 exact⟨trivial,c,k1,k2.perm,pI (by rw[hcl];exact k3),k4⟩
end Go.Proofs.YtempldclppogmaaGreatDoor.Aw.CB
