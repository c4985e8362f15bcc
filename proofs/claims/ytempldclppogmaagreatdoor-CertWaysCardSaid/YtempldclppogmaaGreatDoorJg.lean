/- maps.Keys at two types, and slices.AppendSeq, Collect over them. (After the kit's worked texts on maps.Keys and on a loop that collects; written by genkeys.py.) -/
import Derived.Test.YtempldclppogmaaGreatDoorJf
import Derived.Test.YtempldclppogmaaGreatDoorAwMr2
import Derived.RangeFuncSeq
import Derived.Maps.RangeWalk
import Derived.Test.YtempldclppogmaaGreatDoorAwRg
import Derived.Test.YtempldclppogmaaGreatDoorAwGo
import Derived.Test.YtempldclppogmaaGreatDoorAwTd
set_option linter.unusedVariables false
set_option linter.unusedSimpArgs false
set_option linter.unusedSectionVars false
namespace Go.Proofs.YtempldclppogmaaGreatDoor.Rg
open Go Go.RowKit Go.Shelf
open Go.ChangeMaps (setBlock)
attribute [local go_sem] Oper.semAt_some
section
variable {F:Fence} {n:Nat} {P:Program} (w:World) {ops:Array Oper} {rest:List Oper} {o:Oper} {a:Act} {Q:Exit→Act→World→Prop}
theorem lH(hg:o.guard=none)(m:Operand)(t k e:TypeId)(hop:o.op=Op.range t m)(ht:P.underlying t=some (.map k e))(b:Nat)(ents:Array MapEntry)(clock:Nat)(hm:a.eval m=.map (some b))(hb:w.heap[b]?=some (.map ents clock))
 (hK:∀ w',w'=w.alloc (.mapIter (some b) clock #[] clock)→wpListIn F n P ops Q rest (a.put o.dst (.pointer (some ⟨w.heap.size,0,none⟩))) w'):wpListIn F n P ops Q (o::rest) a w:=by
 refine wpListIn_plain hg fun K' hK'=>?_
 have hrun:=run_range_map (P:=P) w t k e b ents clock ht hb
 unfold Oper.wpIn
 refine⟨?_,?_⟩
 ·simp[Oper.about,hop]
 ·rw[Oper.semAt_plain F _ _ (by rw[hop];intro c hc';cases hc')]
  simp[execOp,hop,hm,hrun,Result.andThen]
  exact hK' _ _ (hK _ rfl)
theorem lU(hg:o.guard=none)(it:Operand)(hop:o.op=Op.next it false)(r b clock c:Nat)(seen:Array Nat)(ents:Array MapEntry)(hit:a.eval it=.pointer (some ⟨r,0,none⟩))(hi:w.heap[r]?=some (.mapIter (some b) clock seen c))(hb:w.heap[b]?=some (.map ents clock))
 (hborn:∀ x∈ents.toList,x.born<clock) (hnd:(ents.toList.map (·.born)).Nodup) (hc:clock≤c)
 (hDone:(∀ x∈ents.toList,seen.contains x.born=true)→wpListIn F n P ops Q rest (a.put o.dst (.tuple #[.bool false])) w)
 (hMore:∀(e:MapEntry) (w1 w2:World),e∈ents.toList→seen.contains e.born=false→(w1=w∨w1=w.drew)→w2=setBlock w1 r (.mapIter (some b) clock (seen.push e.born) clock)→(Instr.entry (.pointer (some ⟨r,0,none⟩))).run P w2=.ok (.tuple #[e.key,e.val]) w2→wpListIn F n P ops Q rest (a.put o.dst (.tuple #[.bool true,e.key,e.val])) w2):
 wpListIn F n P ops Q (o::rest) a w:=by
 refine wpListIn_plain hg fun K' hK'=>?_
 unfold Oper.wpIn
 refine⟨by simp[Oper.about,hop],?_⟩
 rw[Oper.semAt_plain F _ _ (by rw[hop];intro c hc';cases hc')]
 rcases run_next_at (P:=P) w o.type r b clock c seen ents clock hi hb hborn hc with⟨h0,hrun⟩|⟨e,he',w1,hw1,hrun⟩
 ·simp[execOp,hop,hit,hrun,Result.andThen]
  exact hK' _ _ (hDone fun x hx=>all_seen ents seen h0 x hx)
 ·obtain⟨he1,he2⟩:=mem_left he'
  have lr:=(Array.getElem?_eq_some_iff.1 hi).1
  have hbr:b≠r:=by rintro rfl;rw[hb]at hi;cases hi
  have hh:w1.heap=w.heap:=by rcases hw1 with rfl|rfl<;>rfl
  have hE:=run_entry_at (P:=P) (setBlock w1 r (.mapIter (some b) clock (seen.push e.born) clock)) r b clock seen ents clock e
   (by simp only[setBlock];rw[Array.getElem?_setIfInBounds,if_pos rfl,if_pos (by rw[hh];exact lr)]) (by simp only[setBlock];rw[Array.getElem?_setIfInBounds,if_neg (fun e=>hbr e.symm),hh];exact hb) he1 hnd
  simp[execOp,hop,hit,hrun,Result.andThen]
  exact hK' _ _ (hMore e w1 _ he1 he2 hw1 rfl hE)
end
theorem aAe(w w1:World)(h:w1=w∨w1=w.drew)(r:Nat)(o:Obj):w.grownBy (setBlock w1 r o) (some r):=by
 have hh:w1.heap=w.heap:=by rcases h with rfl|rfl<;>rfl
 have hos:w1.os=w.os∧w1.tape=w.tape∧w1.output=w.output:=by rcases h with rfl|rfl<;>exact⟨rfl,rfl,rfl⟩
 refine⟨hos.1,hos.2.1,hos.2.2,by simp[setBlock,hh],fun b hb hne=>?_⟩
 simp only[setBlock]
 rw[Array.getElem?_setIfInBounds,if_neg (fun e=>hne (by rw[e])),hh]
def pF(vs:List Int)(ents:List MapEntry)(seen:Array Nat):List Int:=(Aw.lft (vs.map fun v=>([v],.dead)) ents seen).map fun e=>e.1.headD 0
theorem vJ{vs:List Int}{ents:List MapEntry}(h:vs.length=ents.length):pF vs ents #[]=vs:=by
 unfold pF
 rw[Aw.sN (by simpa using h),List.map_map]
 exact(List.map_congr_left fun v _=>rfl).trans (List.map_id vs)
theorem zW{vs:List Int}{ents:List MapEntry}{seen:Array Nat}{e:MapEntry}(h:vs.length=ents.length)(hkey:ents.map (·.key)=vs.map (Value.int .u32))(hn:(ents.map (·.born)).Nodup)(he:e∈ents)(hs:seen.contains e.born=false):
 ∃ x L1 L2,e.key=.int .u32 x∧pF vs ents seen=L1++x::L2∧pF vs ents (seen.push e.born)=L1++L2:=by
 obtain⟨p,L1,L2,h1,h2,h3⟩:=Aw.aCP (es:=vs.map fun v=>(([v],.dead):List Int×Aw.LV)) (by simpa using h) hn he hs
 have hz:∀ q∈(vs.map fun v=>(([v],.dead):List Int×Aw.LV)).zip ents,∃ x,q.1=([x],.dead)∧q.2.key=.int .u32 x:=by
  intro q hq
  obtain⟨j,hj,rfl⟩:=List.mem_iff_getElem.1 hq
  simp only[List.length_zip,List.length_map]at hj
  rw[List.getElem_zip,List.getElem_map]
  refine⟨vs[j],rfl,?_⟩
  have:=congrArg (fun l=>l[j]?) hkey
  simp only[List.getElem?_map,List.getElem?_eq_getElem (show j<ents.length by omega),List.getElem?_eq_getElem (show j<vs.length by omega),Option.map_some,Option.some.injEq]at this
  exact this
 obtain⟨x,hx,hk⟩:=hz _ h3
 simp only at hx hk
 subst hx
 exact⟨x,L1.map (fun e=>e.1.headD 0),L2.map (fun e=>e.1.headD 0),hk,by unfold pF;rw[h1];simp,by unfold pF;rw[h2];simp⟩
theorem zY{vs:List Int}{ents:List MapEntry}{seen:Array Nat}(h:∀ x∈ents,seen.contains x.born=true):pF vs ents seen=[]:=by
 unfold pF;rw[Aw.aCd h];rfl
def rY(W:World)(b:Nat)(vs:List Int):Prop:=∃(ents:List MapEntry) (clock:Nat),W.heap[b]?=some (.map ents.toArray clock)∧ents.map (·.key)=vs.map (Value.int .u32)∧(∀ x∈ents,x.born<clock)∧(ents.map (·.born)).Nodup
theorem KeepsOthers.walks{W W':World}(h:KeepsOthers W W'):KeepsWalks W W':=⟨h.size,fun k o hk hw=>h.same k o hk (by cases o<;>first|rfl|cases hw)⟩
set_option maxRecDepth 100000 in
set_option maxHeartbeats 2000000 in
theorem aMh(F:Fence)(n:Nat)(h7:F.fn 80)(hro:F.round=none)(hn:1≤n)(l Bm b:Nat)(vs:List Int)(W:World)(J Jx:List Int→World→Prop)(hJ:AbidesFrom W.heap.size J)
 (hY:∀ pre x W1,J pre W1→pre.length<vs.length→YieldAt F (n-1) Tryz.prog l #[.int .u32 x] W1 fun e W'=>
   (e=.returned (.bool true)∧J (pre++[x]) W'∧KeepsWalks W1 W')∨(e=.returned (.bool false)∧Jx (pre++[x]) W'))
 (hm:W.cell? ⟨Bm,0,none⟩=some (.map (some b))) (hB:rY W b vs) (h0:J [] W):
 CallsIn F n Tryz.prog 80 #[.func (.yield l) #[] #[],.pointer (some ⟨Bm,0,none⟩)] W fun e W'=>(∃ v,e=.returned v)∧
  ((∃ ys:List Int,ys.Perm vs∧J ys W')∨(∃ pre,True∧Jx pre W')):=by
 obtain⟨ents,clock,hb,hkey,hborn,hnd⟩:=hB
 have hlen:vs.length=ents.length:=by have:=congrArg List.length hkey;simpa using this.symm
 have lb:=(Array.getElem?_eq_some_iff.1 hb).1
 refine callsIn_of_wp Tryz.func80 rfl h7 ?_ hro
 simp only[Tryz.ntmps80,List.size_toArray,List.length_cons,List.length_nil,Nat.reduceAdd,Nat.reduceSub,Array.replicate_succ,Array.replicate_zero,List.push_toArray,List.append_toArray,List.nil_append,List.cons_append]
 gi_wp2_with (first
  |(refine lH _ rfl _ 80 _ _ rfl Tryz.underlying80 b ents.toArray clock rfl hb ?_;intro w0 hw0)
  |gi_in)
 go_frame
 have hI0:w0.heap[W.heap.size]?=some (.mapIter (some b) clock #[] clock):=by rw[hw0];exact World.alloc_heap_new _ _
 have hb0:w0.heap[b]?=some (.map ents.toArray clock):=by rw[hw0];exact(Below.heap_alloc _ _ b lb).trans hb
 have hg0:W.grownBy w0 none:=by rw[hw0];exact World.grownBy_alloc W _ none
 have hJ0:J [] w0:=hJ [] W w0 none h0 hg0 (fun r e=>by cases e)
 clear hw0 hg0
 gi_loopw [3] (fun _ wr=>∃(seen:Array Nat) (c:Nat) (ss:List Int),clock≤c∧wr.heap[W.heap.size]?=some (.mapIter (some b) clock seen c)∧wr.heap[b]?=some (.map ents.toArray clock)∧(ss++pF vs ents seen).Perm vs∧J ss wr)
  (fun _ wr=>match wr.heap[W.heap.size]? with|some (.mapIter _ _ seen _)=>(pF vs ents seen).length|_=>0)
 case atStart=>exact⟨#[],clock,[],Nat.le_refl _,hI0,hb0,by rw[vJ hlen];exact .refl _,hJ0⟩
 case round=>
  obtain⟨seen,c,ss,hcc,hit,hbm,hpm,hJs⟩:=hrel
  gi_wp2_with (first
   |(refine lU _ rfl _ rfl W.heap.size b clock c seen ents.toArray rfl hit hbm (fun x hx=>hborn x (by simpa using hx)) (by simpa using hnd) hcc ?_ ?_)
   |gi_in)
  ·intro hall
   have hnil:pF vs ents seen=[]:=zY fun x hx=>by simpa using hall x (by simpa using hx)
   rw[hnil,List.append_nil]at hpm
   gi_wp2
   go_end0
   exact⟨⟨_,rfl⟩,.inl ⟨ss,hpm,hJs⟩⟩
  ·intro e w1 w2 he hs hw1 hw2 hen
   obtain⟨x,L1,L2,hx,hL1,hL2⟩:=zW (seen:=seen) hlen hkey hnd (by simpa using he) (by simpa using hs)
   have hg2:wr.grownBy w2 (some W.heap.size):=by rw[hw2];exact aAe wr w1 hw1 _ _
   have hJ2:J ss w2:=hJ ss wr w2 (some W.heap.size) hJs hg2 (fun r e=>by cases e;exact⟨Nat.le_refl _,_,hit,rfl⟩)
   have hh:w1.heap=wr.heap:=by rcases hw1 with rfl|rfl<;>rfl
   have hne:b≠W.heap.size:=by omega
   have hit2:w2.heap[W.heap.size]?=some (.mapIter (some b) clock (seen.push e.born) clock):=by
    rw[hw2];simp only[setBlock];rw[Array.getElem?_setIfInBounds,if_pos rfl,if_pos (by rw[hh];exact(Array.getElem?_eq_some_iff.1 hit).1)]
   have hbm2:w2.heap[b]?=some (.map ents.toArray clock):=by
    rw[hw2];simp only[setBlock];rw[Array.getElem?_setIfInBounds,if_neg (fun e=>hne e.symm),hh];exact hbm
   have hlt:ss.length<vs.length:=by have:=hpm.length_eq;rw[hL1]at this;simp at this;omega
   obtain⟨fn,tmps,assign,body,hy,hR⟩:=hY ss x w2 hJ2 hlt
   rw[hx]at hen ⊢
   clear hw2 hg2
   gi_wp2
   refine hR.mono ?_
   rintro e3 W3 (⟨rfl,hJ3,hk3⟩|⟨rfl,hJx3⟩)
   ·gi_wp2
    have hit3:=hk3.same _ _ hit2 rfl
    have hbm3:=hk3.same _ _ hbm2 rfl
    go_roundw
    case rel=>exact⟨seen.push e.born,clock,ss++[x],Nat.le_refl _,hit3,hbm3,by
     rw[hL2]
     rw[hL1]at hpm
     refine List.Perm.trans ?_ hpm
     rw[List.append_assoc]
     refine List.Perm.append_left _ ?_
     rw[List.singleton_append]
     exact List.perm_middle.symm,hJ3⟩
    case measure=>
     rw[hit3,hit]
     simp only[hL1,hL2,List.length_append,List.length_cons]
     omega
   ·gi_wp2
    refine bodyPost_ret (results_none rfl _ _ _) rfl ?_
    exact⟨⟨_,rfl⟩,.inr ⟨_,trivial,hJx3⟩⟩
theorem aCw(F:Fence)(n:Nat)(h7:F.fn 80)(hro:F.round=none)(hn:1≤n)(Bm b:Nat)(vs:List Int)(w:World)(hBm:Bm<w.heap.size)(hm:w.cell? ⟨Bm,0,none⟩=some (.map (some b)))(hB:rY w b vs):
 SeqStopsK F n Tryz.prog 80 #[.pointer (some ⟨Bm,0,none⟩)] (fun x:Int=>#[Value.int .u32 x]) KeepsWalks (fun ys=>ys.Perm vs) (fun _=>True) vs.length w:=fun l J Jx W hW hJ _ hY h0=>by
 have hc':=(hW.cell (p:=⟨Bm,0,none⟩) hBm).trans hm
 have hB':rY W b vs:=by
  obtain⟨ents,clock,hb,h⟩:=hB
  exact⟨ents,clock,(hW.block b (Array.getElem?_eq_some_iff.1 hb).1).trans hb,h⟩
 exact aMh F n h7 hro hn l Bm b vs W J Jx hJ hY hc' hB' h0
set_option maxRecDepth 100000 in
set_option maxHeartbeats 2000000 in
theorem aBh(F:Fence)(n:Nat)(h3:F.fn 121)(h7:F.fn 80)(hro:F.round=none)(hn:3≤n)(Bm b:Nat)(vs:List Int)(hlen:vs.length≤1048576)(w:World)(hBm:Bm<w.heap.size)
 (hm:w.cell? ⟨Bm,0,none⟩=some (.map (some b))) (hB:rY w b vs):
 CallsIn F n Tryz.prog 121 #[.slice none 0 0,.func (.func 80) #[] #[.pointer (some ⟨Bm,0,none⟩)]] w fun e W'=>∃ v ys,e=.returned v∧List.Perm ys vs∧W'.ownsRow w.heap.size 34 1 v ys.length (ys.map (Value.int .u32))∧Below w.heap.size w W':=by
 have h1:1≤n:=by omega
 obtain⟨i0,hi,hz0,hz1,hz2⟩:=info_parts aIf
 refine callsIn_of_wp_marks Tryz.func121 rfl h3 ?_ hro
 simp only[Tryz.ntmps121,List.size_toArray,List.length_cons,List.length_nil,Nat.reduceAdd,Nat.reduceSub,Array.replicate_succ,Array.replicate_zero,List.push_toArray,List.append_toArray,List.nil_append,List.cons_append]
 gi_wp2
 have bO:=Boxed.new w 22 (.slice none 0 0)
 have hB0:Below w.heap.size w (w.alloc (.cells #[.slice none 0 0] 22)):=(Below.refl _ w).alloc (Nat.le_refl _) _
 have hB':rY (w.alloc (.cells #[.slice none 0 0] 22)) b vs:=by
  obtain⟨ents,clock,hb,h⟩:=hB
  exact⟨ents,clock,(hB0.block b (Array.getElem?_eq_some_iff.1 hb).1).trans hb,h⟩
 refine wpIn_rangeFunc_ownG hro h1 (gf:=80) (lb:=#[.pointer (some ⟨Bm,0,none⟩)]) rfl h7 (enters_of Tryz.func80 (by kernel_rfl) rfl)
  (aCw F (n-1) h7 hro (by omega) Bm b vs _ (by simp;omega) ((hB0.cell (p:=⟨Bm,0,none⟩) hBm).trans hm) hB') walksK_t walksK_b (Below.refl _ _) (fun _=>rfl)
  (fun pre W=>(∃ v,Boxed W w.heap.size 22 v∧W.ownsRow w.heap.size 34 1 v pre.length (pre.map (Value.int .u32))∧True)∧Below w.heap.size w W)
  (fun _ _ _=>False)
  (OwnFrom.and (Own.from (holdsRow_own w.heap.size w.heap.size 22 34 1 (fun pre:List Int=>pre.length) (fun pre:List Int=>pre.map (Value.int .u32)) (fun _ _=>True)) _) (ownFrom_below (Nat.le_refl _) (by simp)))
  (fun _ _ _ _ _ hs _ _=>hs)
  ⟨⟨_,bO,World.ownsRow_nil _ _ _ _,trivial⟩,hB0⟩
  (fun x=>{ tmps:=#[.slice none 0 0,.func (.func 80) #[] #[.pointer (some ⟨Bm,0,none⟩)],.pointer (some ⟨w.heap.size,0,none⟩),undef,.slice none 0 0,.int .u32 x,.func (.func 80) #[] #[.pointer (some ⟨Bm,0,none⟩)],.int .u32 x,undef,undef,undef,undef,undef],defers:=[] }) ?assign ?body ?done ?stop
 case assign=>
  intro l x W K hK
  gi_wp2
  exact hK
 case body=>
  rintro l pre x W ⟨⟨v,hv,hrow,_⟩,hB⟩ hlt
  have hc:=hv.cell
  gi_wp2_with (gi_at_builtin;refine wpListIn_append_own _ rfl _ _ 22 rfl w.heap.size 34 i0 (.int .u32 0) 1 4 Tryz.underlying22 hi hz0 hz1 hz2 rfl (by decide) _ _ _ rfl (hrow.alloc _) ⟨W.heap.size,0,none⟩ 1 1 [.int .u32 x] rfl rfl (cell_one_new _ _ _) (by simp[Value.oneCell']) (by simp only[maxLen];omega) (by omega) (by have:=hB.size;simp;omega) ?_;intro v' w1 hown' hgrow _;obtain⟨g',cap',rfl⟩:=ownsRow_succ hown';obtain⟨hv1,hv2,hr2,hk2,hb2⟩:=hv.appended (by decide) hrow hB.size (Nat.le_refl _) hown' hgrow;have hc1:=hv1.cell;have hf1:=hv1.frozen)
  exact⟨hk2.from _,KeepsOthers.walks hk2,⟨_,hv2,by simpa using hr2,trivial⟩,hB.trans hb2⟩
 case done=>
  rintro D ys W hD hys ⟨⟨v,hv,hrow,_⟩,hB⟩ hK
  have hc:=hv.cell
  gi_wp2
  refine⟨by simp,.inl ⟨_,_,rfl,run_takeDeferred hK,?_⟩⟩
  exact⟨_,results_tmp rfl _ _ _,v,ys,rfl,hys,ownsRow_putObj hrow _ hK rfl,hB.trans (belowK_b (w:=w) (Nat.le_refl _) W D _ _ (by simp at hD;omega) hK rfl rfl)⟩
 case stop=>
  rintro D c pre W _ _ h _
  exact h.elim
set_option maxRecDepth 100000 in
set_option maxHeartbeats 1000000 in
theorem zG(F:Fence)(n:Nat)(h2:F.fn 78)(h3:F.fn 121)(h7:F.fn 80)(hro:F.round=none)(hn:4≤n)(Bm b:Nat)(vs:List Int)(hlen:vs.length≤1048576)(w:World)(hBm:Bm<w.heap.size)
 (hm:w.cell? ⟨Bm,0,none⟩=some (.map (some b))) (hB:rY w b vs):
 CallsIn F n Tryz.prog 78 #[.func (.func 80) #[] #[.pointer (some ⟨Bm,0,none⟩)]] w fun e W'=>∃ v ys,e=.returned v∧List.Perm ys vs∧W'.ownsRow w.heap.size 34 1 v ys.length (ys.map (Value.int .u32))∧Below w.heap.size w W':=by
 have h1:1≤n:=by omega
 refine callsIn_of_wp Tryz.func78 rfl h2 ?_ hro
 simp only[Tryz.ntmps78,List.size_toArray,List.length_cons,List.length_nil,Nat.reduceAdd,Nat.reduceSub,Array.replicate_succ,Array.replicate_zero,List.push_toArray,List.append_toArray,List.nil_append,List.cons_append]
 gi_wp2_with (gi_at_call 121;refine(aBh F (n-1) h3 h7 hro (by omega) Bm b vs hlen _ hBm hm hB).mono ?_;rintro e w' ⟨v,ys,rfl,hys,hrow,hbel⟩)
 go_ret
 exact⟨v,ys,rfl,hys,hrow,hbel⟩
set_option maxRecDepth 100000 in
set_option maxHeartbeats 2000000 in
theorem aMq(F:Fence)(n:Nat)(h7:F.fn 123)(hro:F.round=none)(hn:1≤n)(l Bm b:Nat)(vs:List Int)(W:World)(J Jx:List Int→World→Prop)(hJ:AbidesFrom W.heap.size J)
 (hY:∀ pre x W1,J pre W1→pre.length<vs.length→YieldAt F (n-1) Tryz.prog l #[.int .u32 x] W1 fun e W'=>
   (e=.returned (.bool true)∧J (pre++[x]) W'∧KeepsWalks W1 W')∨(e=.returned (.bool false)∧Jx (pre++[x]) W'))
 (hm:W.cell? ⟨Bm,0,none⟩=some (.map (some b))) (hB:rY W b vs) (h0:J [] W):
 CallsIn F n Tryz.prog 123 #[.func (.yield l) #[] #[],.pointer (some ⟨Bm,0,none⟩)] W fun e W'=>(∃ v,e=.returned v)∧
  ((∃ ys:List Int,ys.Perm vs∧J ys W')∨(∃ pre,True∧Jx pre W')):=by
 obtain⟨ents,clock,hb,hkey,hborn,hnd⟩:=hB
 have hlen:vs.length=ents.length:=by have:=congrArg List.length hkey;simpa using this.symm
 have lb:=(Array.getElem?_eq_some_iff.1 hb).1
 refine callsIn_of_wp Tryz.func123 rfl h7 ?_ hro
 simp only[Tryz.ntmps123,List.size_toArray,List.length_cons,List.length_nil,Nat.reduceAdd,Nat.reduceSub,Array.replicate_succ,Array.replicate_zero,List.push_toArray,List.append_toArray,List.nil_append,List.cons_append]
 gi_wp2_with (first
  |(refine lH _ rfl _ 60 _ _ rfl Tryz.underlying60 b ents.toArray clock rfl hb ?_;intro w0 hw0)
  |gi_in)
 go_frame
 have hI0:w0.heap[W.heap.size]?=some (.mapIter (some b) clock #[] clock):=by rw[hw0];exact World.alloc_heap_new _ _
 have hb0:w0.heap[b]?=some (.map ents.toArray clock):=by rw[hw0];exact(Below.heap_alloc _ _ b lb).trans hb
 have hg0:W.grownBy w0 none:=by rw[hw0];exact World.grownBy_alloc W _ none
 have hJ0:J [] w0:=hJ [] W w0 none h0 hg0 (fun r e=>by cases e)
 clear hw0 hg0
 gi_loopw [3] (fun _ wr=>∃(seen:Array Nat) (c:Nat) (ss:List Int),clock≤c∧wr.heap[W.heap.size]?=some (.mapIter (some b) clock seen c)∧wr.heap[b]?=some (.map ents.toArray clock)∧(ss++pF vs ents seen).Perm vs∧J ss wr)
  (fun _ wr=>match wr.heap[W.heap.size]? with|some (.mapIter _ _ seen _)=>(pF vs ents seen).length|_=>0)
 case atStart=>exact⟨#[],clock,[],Nat.le_refl _,hI0,hb0,by rw[vJ hlen];exact .refl _,hJ0⟩
 case round=>
  obtain⟨seen,c,ss,hcc,hit,hbm,hpm,hJs⟩:=hrel
  gi_wp2_with (first
   |(refine lU _ rfl _ rfl W.heap.size b clock c seen ents.toArray rfl hit hbm (fun x hx=>hborn x (by simpa using hx)) (by simpa using hnd) hcc ?_ ?_)
   |gi_in)
  ·intro hall
   have hnil:pF vs ents seen=[]:=zY fun x hx=>by simpa using hall x (by simpa using hx)
   rw[hnil,List.append_nil]at hpm
   gi_wp2
   go_end0
   exact⟨⟨_,rfl⟩,.inl ⟨ss,hpm,hJs⟩⟩
  ·intro e w1 w2 he hs hw1 hw2 hen
   obtain⟨x,L1,L2,hx,hL1,hL2⟩:=zW (seen:=seen) hlen hkey hnd (by simpa using he) (by simpa using hs)
   have hg2:wr.grownBy w2 (some W.heap.size):=by rw[hw2];exact aAe wr w1 hw1 _ _
   have hJ2:J ss w2:=hJ ss wr w2 (some W.heap.size) hJs hg2 (fun r e=>by cases e;exact⟨Nat.le_refl _,_,hit,rfl⟩)
   have hh:w1.heap=wr.heap:=by rcases hw1 with rfl|rfl<;>rfl
   have hne:b≠W.heap.size:=by omega
   have hit2:w2.heap[W.heap.size]?=some (.mapIter (some b) clock (seen.push e.born) clock):=by
    rw[hw2];simp only[setBlock];rw[Array.getElem?_setIfInBounds,if_pos rfl,if_pos (by rw[hh];exact(Array.getElem?_eq_some_iff.1 hit).1)]
   have hbm2:w2.heap[b]?=some (.map ents.toArray clock):=by
    rw[hw2];simp only[setBlock];rw[Array.getElem?_setIfInBounds,if_neg (fun e=>hne e.symm),hh];exact hbm
   have hlt:ss.length<vs.length:=by have:=hpm.length_eq;rw[hL1]at this;simp at this;omega
   obtain⟨fn,tmps,assign,body,hy,hR⟩:=hY ss x w2 hJ2 hlt
   rw[hx]at hen ⊢
   clear hw2 hg2
   gi_wp2
   refine hR.mono ?_
   rintro e3 W3 (⟨rfl,hJ3,hk3⟩|⟨rfl,hJx3⟩)
   ·gi_wp2
    have hit3:=hk3.same _ _ hit2 rfl
    have hbm3:=hk3.same _ _ hbm2 rfl
    go_roundw
    case rel=>exact⟨seen.push e.born,clock,ss++[x],Nat.le_refl _,hit3,hbm3,by
     rw[hL2]
     rw[hL1]at hpm
     refine List.Perm.trans ?_ hpm
     rw[List.append_assoc]
     refine List.Perm.append_left _ ?_
     rw[List.singleton_append]
     exact List.perm_middle.symm,hJ3⟩
    case measure=>
     rw[hit3,hit]
     simp only[hL1,hL2,List.length_append,List.length_cons]
     omega
   ·gi_wp2
    refine bodyPost_ret (results_none rfl _ _ _) rfl ?_
    exact⟨⟨_,rfl⟩,.inr ⟨_,trivial,hJx3⟩⟩
theorem aDD(F:Fence)(n:Nat)(h7:F.fn 123)(hro:F.round=none)(hn:1≤n)(Bm b:Nat)(vs:List Int)(w:World)(hBm:Bm<w.heap.size)(hm:w.cell? ⟨Bm,0,none⟩=some (.map (some b)))(hB:rY w b vs):
 SeqStopsK F n Tryz.prog 123 #[.pointer (some ⟨Bm,0,none⟩)] (fun x:Int=>#[Value.int .u32 x]) KeepsWalks (fun ys=>ys.Perm vs) (fun _=>True) vs.length w:=fun l J Jx W hW hJ _ hY h0=>by
 have hc':=(hW.cell (p:=⟨Bm,0,none⟩) hBm).trans hm
 have hB':rY W b vs:=by
  obtain⟨ents,clock,hb,h⟩:=hB
  exact⟨ents,clock,(hW.block b (Array.getElem?_eq_some_iff.1 hb).1).trans hb,h⟩
 exact aMq F n h7 hro hn l Bm b vs W J Jx hJ hY hc' hB' h0
set_option maxRecDepth 100000 in
set_option maxHeartbeats 2000000 in
theorem aBg(F:Fence)(n:Nat)(h3:F.fn 121)(h7:F.fn 123)(hro:F.round=none)(hn:3≤n)(Bm b:Nat)(vs:List Int)(hlen:vs.length≤1048576)(w:World)(hBm:Bm<w.heap.size)
 (hm:w.cell? ⟨Bm,0,none⟩=some (.map (some b))) (hB:rY w b vs):
 CallsIn F n Tryz.prog 121 #[.slice none 0 0,.func (.func 123) #[] #[.pointer (some ⟨Bm,0,none⟩)]] w fun e W'=>∃ v ys,e=.returned v∧List.Perm ys vs∧W'.ownsRow w.heap.size 34 1 v ys.length (ys.map (Value.int .u32))∧Below w.heap.size w W':=by
 have h1:1≤n:=by omega
 obtain⟨i0,hi,hz0,hz1,hz2⟩:=info_parts aIf
 refine callsIn_of_wp_marks Tryz.func121 rfl h3 ?_ hro
 simp only[Tryz.ntmps121,List.size_toArray,List.length_cons,List.length_nil,Nat.reduceAdd,Nat.reduceSub,Array.replicate_succ,Array.replicate_zero,List.push_toArray,List.append_toArray,List.nil_append,List.cons_append]
 gi_wp2
 have bO:=Boxed.new w 22 (.slice none 0 0)
 have hB0:Below w.heap.size w (w.alloc (.cells #[.slice none 0 0] 22)):=(Below.refl _ w).alloc (Nat.le_refl _) _
 have hB':rY (w.alloc (.cells #[.slice none 0 0] 22)) b vs:=by
  obtain⟨ents,clock,hb,h⟩:=hB
  exact⟨ents,clock,(hB0.block b (Array.getElem?_eq_some_iff.1 hb).1).trans hb,h⟩
 refine wpIn_rangeFunc_ownG hro h1 (gf:=123) (lb:=#[.pointer (some ⟨Bm,0,none⟩)]) rfl h7 (enters_of Tryz.func123 (by kernel_rfl) rfl)
  (aDD F (n-1) h7 hro (by omega) Bm b vs _ (by simp;omega) ((hB0.cell (p:=⟨Bm,0,none⟩) hBm).trans hm) hB') walksK_t walksK_b (Below.refl _ _) (fun _=>rfl)
  (fun pre W=>(∃ v,Boxed W w.heap.size 22 v∧W.ownsRow w.heap.size 34 1 v pre.length (pre.map (Value.int .u32))∧True)∧Below w.heap.size w W)
  (fun _ _ _=>False)
  (OwnFrom.and (Own.from (holdsRow_own w.heap.size w.heap.size 22 34 1 (fun pre:List Int=>pre.length) (fun pre:List Int=>pre.map (Value.int .u32)) (fun _ _=>True)) _) (ownFrom_below (Nat.le_refl _) (by simp)))
  (fun _ _ _ _ _ hs _ _=>hs)
  ⟨⟨_,bO,World.ownsRow_nil _ _ _ _,trivial⟩,hB0⟩
  (fun x=>{ tmps:=#[.slice none 0 0,.func (.func 123) #[] #[.pointer (some ⟨Bm,0,none⟩)],.pointer (some ⟨w.heap.size,0,none⟩),undef,.slice none 0 0,.int .u32 x,.func (.func 123) #[] #[.pointer (some ⟨Bm,0,none⟩)],.int .u32 x,undef,undef,undef,undef,undef],defers:=[] }) ?assign ?body ?done ?stop
 case assign=>
  intro l x W K hK
  gi_wp2
  exact hK
 case body=>
  rintro l pre x W ⟨⟨v,hv,hrow,_⟩,hB⟩ hlt
  have hc:=hv.cell
  gi_wp2_with (gi_at_builtin;refine wpListIn_append_own _ rfl _ _ 22 rfl w.heap.size 34 i0 (.int .u32 0) 1 4 Tryz.underlying22 hi hz0 hz1 hz2 rfl (by decide) _ _ _ rfl (hrow.alloc _) ⟨W.heap.size,0,none⟩ 1 1 [.int .u32 x] rfl rfl (cell_one_new _ _ _) (by simp[Value.oneCell']) (by simp only[maxLen];omega) (by omega) (by have:=hB.size;simp;omega) ?_;intro v' w1 hown' hgrow _;obtain⟨g',cap',rfl⟩:=ownsRow_succ hown';obtain⟨hv1,hv2,hr2,hk2,hb2⟩:=hv.appended (by decide) hrow hB.size (Nat.le_refl _) hown' hgrow;have hc1:=hv1.cell;have hf1:=hv1.frozen)
  exact⟨hk2.from _,KeepsOthers.walks hk2,⟨_,hv2,by simpa using hr2,trivial⟩,hB.trans hb2⟩
 case done=>
  rintro D ys W hD hys ⟨⟨v,hv,hrow,_⟩,hB⟩ hK
  have hc:=hv.cell
  gi_wp2
  refine⟨by simp,.inl ⟨_,_,rfl,run_takeDeferred hK,?_⟩⟩
  exact⟨_,results_tmp rfl _ _ _,v,ys,rfl,hys,ownsRow_putObj hrow _ hK rfl,hB.trans (belowK_b (w:=w) (Nat.le_refl _) W D _ _ (by simp at hD;omega) hK rfl rfl)⟩
 case stop=>
  rintro D c pre W _ _ h _
  exact h.elim
set_option maxRecDepth 100000 in
set_option maxHeartbeats 1000000 in
theorem zA(F:Fence)(n:Nat)(h2:F.fn 78)(h3:F.fn 121)(h7:F.fn 123)(hro:F.round=none)(hn:4≤n)(Bm b:Nat)(vs:List Int)(hlen:vs.length≤1048576)(w:World)(hBm:Bm<w.heap.size)
 (hm:w.cell? ⟨Bm,0,none⟩=some (.map (some b))) (hB:rY w b vs):
 CallsIn F n Tryz.prog 78 #[.func (.func 123) #[] #[.pointer (some ⟨Bm,0,none⟩)]] w fun e W'=>∃ v ys,e=.returned v∧List.Perm ys vs∧W'.ownsRow w.heap.size 34 1 v ys.length (ys.map (Value.int .u32))∧Below w.heap.size w W':=by
 have h1:1≤n:=by omega
 refine callsIn_of_wp Tryz.func78 rfl h2 ?_ hro
 simp only[Tryz.ntmps78,List.size_toArray,List.length_cons,List.length_nil,Nat.reduceAdd,Nat.reduceSub,Array.replicate_succ,Array.replicate_zero,List.push_toArray,List.append_toArray,List.nil_append,List.cons_append]
 gi_wp2_with (gi_at_call 121;refine(aBg F (n-1) h3 h7 hro (by omega) Bm b vs hlen _ hBm hm hB).mono ?_;rintro e w' ⟨v,ys,rfl,hys,hrow,hbel⟩)
 go_ret
 exact⟨v,ys,rfl,hys,hrow,hbel⟩
end Go.Proofs.YtempldclppogmaaGreatDoor.Rg
namespace Go.Proofs.YtempldclppogmaaGreatDoor.Aw
open Go Go.RowKit
def rA(es:List (List Int×LV)):List Int:=es.map fun e=>e.1.headD 0
theorem aGc{w:World}{g:G}{st:St}(hi:Inv w g st){m:Nat}{es:List (List Int×LV)}(hm:st.H m=.map false [.u32] es):Rg.rY w (g.β m) (rA es):=by
 obtain⟨_,hlen,ents,clock,h3,h4,_,_,h7,h8⟩:=hi.mp m _ _ _ hm
 refine⟨ents,clock,h3,?_,h7,h8⟩
 rw[h4]
 unfold rA
 rw[List.map_map]
 refine List.map_congr_left fun p hp=>?_
 have:=hlen p hp
 match h:p.1,this with
 |[x],_=>simp[mkV,mkC,h]
theorem aFf(m q:Nat)(es:List (List Int×LV))(st:St)(hl:es.length≤1048576)(hH:st.H q=.box 80 1 [.mp m])(hm:st.H m=.map false [.u32] es):
 aF Tryz.prog 78 [.fn (.func 80) [.pt q 0]] st fun r st'=>∃ ys:List Int,ys.Perm (rA es)∧r=.ms st.next 0 ys.length∧st'=st.new (.box 34 1 (us ys)):=by
 refine⟨enters_of Tryz.func78 (by kernel_rfl) rfl,fun w g vs hi hr=>?_⟩
 simp only[aH,Rep]at hr
 obtain⟨v,_,rfl,⟨us1,rfl,v1,_,rfl,⟨rfl,hq⟩,rfl⟩,rfl⟩:=hr
 obtain⟨_,b2,b3⟩:=hi.box q _ _ _ hH
 have hnl:g.nl q=false:=by
  cases hn:g.nl q with
  |false=>rfl
  |true=>obtain⟨_,h⟩:=b2 hn;cases h
 obtain⟨cur,k1,k2,k3,k4,k5⟩:=b3 hnl
 simp only[List.length_cons,List.length_nil,Nat.zero_add,aH]at k4 k3
 obtain⟨sv,rest,hsv,hrep,_⟩:=k4
 simp only[Rep]at hrep
 have hc0:w.cell? ⟨g.β q,0,none⟩=some (.map (some (g.β m))):=by
  rw[cell_of_row w _ _ _ _ _ k1,← hrep.1]
  cases cur with
  |nil=>simp at k3
  |cons a cur=>simp at hsv;simp[hsv.1]
 refine(((Rg.zG Fence.wide 4 trivial trivial trivial rfl (Nat.le_refl _) (g.β q) (g.β m) (rA es) (by simpa[rA]using hl) w (nH hc0) hc0 (aGc hi hm)).calls room_wide)).mono ?_
 rintro e w' ⟨v,ys,rfl,hys,hrow,hbel⟩
 have hlen:ys.length=(ys.map (Value.int .u32)).length:=by simp
 rw[hlen]at hrow
 obtain⟨g',h1,h2,h3⟩:=rH (cs:=us ys) hi hbel hrow (fun w g=>uK w g ys)
 rw[← hlen]at h1
 exact⟨v,_,_,g',rfl,⟨ys,hys,rfl,rfl⟩,h1,h2,h3⟩
theorem aEI(m q:Nat)(es:List (List Int×LV))(st:St)(hl:es.length≤1048576)(hH:st.H q=.box 60 1 [.mp m])(hm:st.H m=.map false [.u32] es):
 aF Tryz.prog 78 [.fn (.func 123) [.pt q 0]] st fun r st'=>∃ ys:List Int,ys.Perm (rA es)∧r=.ms st.next 0 ys.length∧st'=st.new (.box 34 1 (us ys)):=by
 refine⟨enters_of Tryz.func78 (by kernel_rfl) rfl,fun w g vs hi hr=>?_⟩
 simp only[aH,Rep]at hr
 obtain⟨v,_,rfl,⟨us1,rfl,v1,_,rfl,⟨rfl,hq⟩,rfl⟩,rfl⟩:=hr
 obtain⟨_,b2,b3⟩:=hi.box q _ _ _ hH
 have hnl:g.nl q=false:=by
  cases hn:g.nl q with
  |false=>rfl
  |true=>obtain⟨_,h⟩:=b2 hn;cases h
 obtain⟨cur,k1,k2,k3,k4,k5⟩:=b3 hnl
 simp only[List.length_cons,List.length_nil,Nat.zero_add,aH]at k4 k3
 obtain⟨sv,rest,hsv,hrep,_⟩:=k4
 simp only[Rep]at hrep
 have hc0:w.cell? ⟨g.β q,0,none⟩=some (.map (some (g.β m))):=by
  rw[cell_of_row w _ _ _ _ _ k1,← hrep.1]
  cases cur with
  |nil=>simp at k3
  |cons a cur=>simp at hsv;simp[hsv.1]
 refine(((Rg.zA Fence.wide 4 trivial trivial trivial rfl (Nat.le_refl _) (g.β q) (g.β m) (rA es) (by simpa[rA]using hl) w (nH hc0) hc0 (aGc hi hm)).calls room_wide)).mono ?_
 rintro e w' ⟨v,ys,rfl,hys,hrow,hbel⟩
 have hlen:ys.length=(ys.map (Value.int .u32)).length:=by simp
 rw[hlen]at hrow
 obtain⟨g',h1,h2,h3⟩:=rH (cs:=us ys) hi hbel hrow (fun w g=>uK w g ys)
 rw[← hlen]at h1
 exact⟨v,_,_,g',rfl,⟨ys,hys,rfl,rfl⟩,h1,h2,h3⟩
end Go.Proofs.YtempldclppogmaaGreatDoor.Aw
namespace Go.Proofs.YtempldclppogmaaGreatDoor.Aw
open Go Go.RowKit Go.Proofs.YtempldclppogmaaGreatDoor.Pl Go.Proofs.YtempldclppogmaaGreatDoor.Eu
end Go.Proofs.YtempldclppogmaaGreatDoor.Aw
namespace Go.Proofs.YtempldclppogmaaGreatDoor.Aw
open Go Go.RowKit Go.Proofs.YtempldclppogmaaGreatDoor.Pl
attribute [local simp] aBw aNh aHs aKB kN mB kO
def uA:List (Int×Int)→Int→Int
 |[],_=>0
 |p::P,x=>if p.1=x then p.2 else uA P x
theorem aAR(x:Int):∀ P:List (Int×Int),(aR (inL P) [x]).getD (u 0)=u (uA P x)
 |[]=>rfl
 |p::P=>by
  have ih:=aAR x P
  unfold uA
  simp only[inL,List.map_cons,aR]at ih ⊢
  by_cases h:p.1=x
  ·rw[if_pos h,if_pos (by simp[h])];rfl
  ·rw[if_neg h,if_neg (by simpa using fun e=>h e.symm)];exact ih
theorem aDq(P:List (Int×Int)):rA (inL P)=P.map (·.1):=by
 induction P with
 |nil=>rfl
 |cons p P ih=>simp only[inL,List.map_cons,rA]at ih ⊢;rw[ih];rfl
def goR(P:List (Int×Int))(first:Int):Nat→Int→List Int
 |0,_=>[]
 |n+1,x=>x::(if uA P x≠first∧0<n then goR P first n (uA P x)else [])
def eS(P:List (Int×Int)):List Int:=goR P (mn (P.map (·.1))) P.length (mn (P.map (·.1)))
theorem aPl(m:Nat)(st:St):aF Tryz.prog 82 [.mp m] st fun r st'=>r=.fn (.func 123) [.pt st.next 0]∧st'=st.new (.box 60 1 [.mp m]):=by
 refine qO aK Tryz.func82 rfl rfl Tryz.ntmps82 (rs:=[.tmp 2]) rfl (by simp) ?_
 (repeat' (first|refine qS ?_|(refine qR ?_;simp only[ak,reduceIte];simp[])|(refine w_e [] ?_;intro J hJ;simp only[];simp[];(refine hJ _ _ ?_;clear hJ J;simp only[ak,reduceIte]))))
theorem aPt(m:Nat)(st:St):aF Tryz.prog 47 [.mp m] st fun r st'=>r=.fn (.func 80) [.pt st.next 0]∧st'=st.new (.box 80 1 [.mp m]):=by
 refine qO aK Tryz.func47 rfl rfl Tryz.ntmps47 (rs:=[.tmp 2]) rfl (by simp) ?_
 (repeat' (first|refine qS ?_|(refine qR ?_;simp only[ak,reduceIte];simp[])|(refine w_e [] ?_;intro J hJ;simp only[];simp[];(refine hJ _ _ ?_;clear hJ J;simp only[ak,reduceIte]))))
theorem aLo{a b:List Int}(h:a.Perm b)(h0:a≠[]):mn a=mn b:=
 (aOJ (h.mem_iff.1 (aEp h0)) fun x hx=>aMN (h.mem_iff.2 hx)).symm
def RoI(P:List (Int×Int))(m:Nat)(st:St)(n:Nat)(fr:Frm)(s:St):Prop:=∃(turn:List Int) (x:Int) (t:Nat),n+turn.length=P.length∧0<n∧turn++goR P (mn (P.map (·.1))) n x=eS P∧fr 0=.mp m∧fr 3=.sl t turn.length (us turn)∧fr 4=u (mn (P.map (·.1)))∧fr 5=u x∧aAK t 34 1 turn.length st s∧aB st s
theorem aEc{P:Program}{N:Nat}{Q:AQ}{c:Code}{fr:Frm}{st:St}(I:Frm→St→Prop)(h0:I fr st)(h:∀ fr st,I fr st→AWp P N c Q fr st):AWp P N c Q fr st:=h _ _ h0
set_option maxHeartbeats 2000000 in
theorem aNW(P:List (Int×Int))(m:Nat)(st:St)(hP:P≠[])(hl:P.length≤1000)(hm:st.H m=.map false [.u32] (inL P))(hml:m<st.next):
 aF Tryz.prog 48 [.mp m] st fun r st'=>r=.sl 0 (eS P).length (us (eS P))∧st'=st:=by
 refine qT (Q:=fun r=>r=.sl 0 (eS P).length (us (eS P))) (bR ?_) fun r h=>by subst h;exact⟨.inl rfl,iT _ _⟩
 have hil:(inL P).length=P.length:=by simp[inL]
 refine qO aK Tryz.func48 rfl rfl Tryz.ntmps48 (rs:=[.tmp 2]) rfl (by simp) ?_
 (repeat' (first|refine qS ?_|(refine w_e [] ?_;intro J hJ;simp only[];simp[];(refine hJ _ _ ?_;clear hJ J;simp only[ak,reduceIte]))))
 refine xF _ 0 (fun n fr s=>RoI P m st n fr s) rfl ?_ ?_
 ·refine dL fun hpos=>?_
  (repeat' (first|refine qS ?_|(refine w_e [] ?_;intro J hJ;simp only[];simp[];(try (refine hJ _ _ ?_;clear hJ J;simp only[ak,reduceIte])))))
  refine qE (aPl m _) (by simp) ?_;rintro r s1 ⟨rfl,e1⟩
  rw[e1];clear e1 s1
  (repeat' (refine aL ?_;simp[]))
  refine qE (aEI m st.next (inL P) _ (by omega) (by simp) (by rw[aG,if_neg (by omega)];exact hm)) (by simp) ?_;rintro r s1 ⟨ys,hys,rfl,e1⟩
  rw[e1];clear e1 s1
  have hyl:ys.length=P.length:=by rw[hys.length_eq,aDq,List.length_map]
  have hy0:ys≠[]:=fun e=>hP (List.length_eq_zero_iff.1 (by rw[← hyl,e];rfl))
  have hmn:mn ys=mn (P.map (·.1)):=aLo (by rw[← aDq];exact hys) hy0
  have hmin:=sG (P:=Tryz.prog) (pre:=[]) (post:=[]) (l:=st.next+1) (n:=ys.length) (e:=34) (s:=1) (cs:=us ys) (st:=(st.new (.box 60 1 [.mp m])).new (.box 34 1 (us ys))) (f:=81) (by simp) (by simp) (by rw[List.take_of_length_le (by simp)];exact Min ys 0 _ (by unfold small;omega) hy0)
  rw[hmn]at hmin
  (repeat' (refine aL ?_;simp[]))
  refine qE hmin (by simp) ?_;rintro r s1 ⟨rfl,e1⟩
  rw[e1];clear e1 s1 hmin
  have hPl:0<P.length:=List.length_pos_iff.2 hP
  (repeat' (first|refine qS ?_|((first|(refine w_e [] ?_;intro J hJ;simp only[])|(refine aL ?_));simp[];(refine hJ _ _ ?_;clear hJ J;simp only[ak,reduceIte]))))
  refine aAi ?_
  simp only[ak]
  refine qW 3 34 1 (by simp) ?_
  refine aEc (RoI P m st P.length) ?_ ?_
  ·exact⟨[],_,st.next+1+1,by simp,hPl,rfl,by simp,by simp,by simp,by simp,⟨by omega,by omega,by simp,by simp⟩,(((aB.new _ _).trans (aB.new _ _)).set (by omega) _).trans (aB.new _ _)⟩
  obtain⟨n,hn⟩:∃ n,n=P.length:=⟨_,rfl⟩
  rw[← hn]
  have hJG:∀ n' fr' s',n' < n→RoI P m st n' fr' s'→∃ n,RoI P m st n fr' s':=fun n' _ _ _ h=>⟨n',h⟩
  rintro fr s ⟨turn,x,t,h1,h2,h3,f0,f3,f4,f5,⟨t0,t1,t2,tH⟩,hk⟩
  have hmH:=(hk.H m hml).trans hm
  have hg:=aAR x P
  obtain⟨n,rfl⟩:∃ k,n=k+1:=⟨n-1,by omega⟩
  have h4:goR P (mn (P.map (·.1))) (n+1) x=x::(if uA P x≠mn (P.map (·.1))∧0<n then goR P (mn (P.map (·.1))) n (uA P x)else []):=rfl
  rw[h4]at h3
  clear h4
  have hRo:∀(turn':List Int) (y:Int) (t:Nat) (fr':Frm) (s':St),n+turn'.length=P.length→0<n→turn'++goR P (mn (P.map (·.1))) n y=eS P→fr' 0=.mp m→fr' 3=.sl t turn'.length (us turn')→fr' 4=u (mn (P.map (·.1)))→fr' 5=u y→aAK t 34 1 turn'.length st s'→aB st s'→RoI P m st n fr' s':=fun turn' y t fr' s' q1 q2 q3 q4 q5 q6 q7 q8 q9=>⟨turn',y,t,q1,q2,q3,q4,q5,q6,q7,q8,q9⟩
  have hnx:=fun fr' s' h=>hJG n fr' s' (by omega) h
  generalize mn (P.map (·.1))=first at *
  generalize uA P x=y at *
  have hkn:=hk.next
  have c1:¬t=s.next:=by omega
  have c2:¬s.next=t:=by omega
  have c3:¬m=s.next:=by omega
  have c4:¬m=s.next+1:=by omega
  have c5:¬m=t:=by omega
  have hk2:=(((hk.trans (aB.new s (.own 34 1 1))).set t1 .dead).trans (aB.new _ (.own 34 1 (turn.length+1))))
  by_cases hy:y=first
  ·have hy2:(y != first)=false:=by simp[hy]
   (repeat' (first|refine qS ?_|(refine qK ?_;simp only[ak,reduceIte])|(refine qR ?_;simp only[ak,reduceIte];simp[f0,f3,f4,f5,hmH,hg,tH,t0,c1,c2,c3,c4,c5,hy2])|(refine qC ?_;simp[f0,f3,f4,f5,hmH,hg,tH,t0,c1,c2,c3,c4,c5,hy2])|(refine w_e [] ?_;intro J hJ;simp only[];simp[f0,f3,f4,f5,hmH,hg,tH,t0,c1,c2,c3,c4,c5,hy2];(repeat refine ca ?_);(refine hJ _ _ ?_;clear hJ J;simp only[ak,reduceIte]))))
   rw[if_neg (fun h=>h.1 hy)]at h3
   exact⟨by rw[← h3];simp[z0,iV],hk2⟩
  ·have hy2:(y != first)=true:=by simp[hy]
   by_cases hn0:0<n
   ·have hlt':turn.length+1<(inL P).length:=by omega
    have hlt2:(turn.length:Int)+1<(inL P).length:=by omega
    (repeat' (first|refine qS ?_|(refine qC ?_;simp[f0,f3,f4,f5,hmH,hg,tH,t0,c1,c2,c3,c4,c5,hy2,hlt',hlt2])|(refine w_e [] ?_;intro J hJ;simp only[];simp[f0,f3,f4,f5,hmH,hg,tH,t0,c1,c2,c3,c4,c5,hy2,hlt',hlt2];(repeat refine ca ?_);(refine hJ _ _ ?_;clear hJ J;simp only[ak,reduceIte]))))
    rw[if_pos ⟨hy,hn0⟩]at h3
    refine aCv ?_
    simp only[ak,kO,mB,kN,aBw]
    refine hnx _ _ (hRo (turn++[x]) y (s.next+1) _ _ (by simp;omega) hn0 (by rw[← h3];simp) (by simp[f0]) (by simp) (by simp[f4]) (by simp) ⟨by omega,by omega,by simp,by simp⟩ hk2)
   ·have hlt':¬turn.length+1<(inL P).length:=by omega
    have hlt2:¬(turn.length:Int)+1<(inL P).length:=by omega
    (repeat' (first|refine qS ?_|(refine qK ?_;simp only[ak,reduceIte])|(refine qR ?_;simp only[ak,reduceIte];simp[f0,f3,f4,f5,hmH,hg,tH,t0,c1,c2,c3,c4,c5,hy2,hlt',hlt2])|(refine qC ?_;simp[f0,f3,f4,f5,hmH,hg,tH,t0,c1,c2,c3,c4,c5,hy2,hlt',hlt2])|(refine w_e [] ?_;intro J hJ;simp only[];simp[f0,f3,f4,f5,hmH,hg,tH,t0,c1,c2,c3,c4,c5,hy2,hlt',hlt2];(repeat refine ca ?_);(refine hJ _ _ ?_;clear hJ J;simp only[ak,reduceIte]))))
    rw[if_neg (fun h=>hn0 h.2)]at h3
    exact⟨by rw[← h3];simp[z0,iV],hk2⟩
 ·rintro n fr s ⟨turn,x,t,h1,h2,h3,f0,f3,f4,f5,⟨t0,t1,t2,tH⟩,hk⟩ JG hJG
  have hmH:=(hk.H m hml).trans hm
  have hg:=aAR x P
  obtain⟨n,rfl⟩:∃ k,n=k+1:=⟨n-1,by omega⟩
  have h4:goR P (mn (P.map (·.1))) (n+1) x=x::(if uA P x≠mn (P.map (·.1))∧0<n then goR P (mn (P.map (·.1))) n (uA P x)else []):=rfl
  rw[h4]at h3
  clear h4
  have hRo:∀(turn':List Int) (y:Int) (t:Nat) (fr':Frm) (s':St),n+turn'.length=P.length→0<n→turn'++goR P (mn (P.map (·.1))) n y=eS P→fr' 0=.mp m→fr' 3=.sl t turn'.length (us turn')→fr' 4=u (mn (P.map (·.1)))→fr' 5=u y→aAK t 34 1 turn'.length st s'→aB st s'→RoI P m st n fr' s':=fun turn' y t fr' s' q1 q2 q3 q4 q5 q6 q7 q8 q9=>⟨turn',y,t,q1,q2,q3,q4,q5,q6,q7,q8,q9⟩
  have hnx:=fun fr' s' h=>hJG n fr' s' (by omega) h
  generalize mn (P.map (·.1))=first at *
  generalize uA P x=y at *
  have hkn:=hk.next
  have c1:¬t=s.next:=by omega
  have c2:¬s.next=t:=by omega
  have c3:¬m=s.next:=by omega
  have c4:¬m=s.next+1:=by omega
  have c5:¬m=t:=by omega
  have hk2:=(((hk.trans (aB.new s (.own 34 1 1))).set t1 .dead).trans (aB.new _ (.own 34 1 (turn.length+1))))
  by_cases hy:y=first
  ·have hy2:(y != first)=false:=by simp[hy]
   (repeat' (first|refine qS ?_|(refine qK ?_;simp only[ak,reduceIte])|(refine qR ?_;simp only[ak,reduceIte];simp[f0,f3,f4,f5,hmH,hg,tH,t0,c1,c2,c3,c4,c5,hy2])|(refine qC ?_;simp[f0,f3,f4,f5,hmH,hg,tH,t0,c1,c2,c3,c4,c5,hy2])|(refine w_e [] ?_;intro J hJ;simp only[];simp[f0,f3,f4,f5,hmH,hg,tH,t0,c1,c2,c3,c4,c5,hy2];(repeat refine ca ?_);(refine hJ _ _ ?_;clear hJ J;simp only[ak,reduceIte]))))
   rw[if_neg (fun h=>h.1 hy)]at h3
   exact⟨by rw[← h3];simp[z0,iV],hk2⟩
  ·have hy2:(y != first)=true:=by simp[hy]
   by_cases hn0:0<n
   ·have hlt':turn.length+1<(inL P).length:=by omega
    have hlt2:(turn.length:Int)+1<(inL P).length:=by omega
    (repeat' (first|refine qS ?_|(refine qK ?_;simp only[ak,reduceIte])|(refine qC ?_;simp[f0,f3,f4,f5,hmH,hg,tH,t0,c1,c2,c3,c4,c5,hy2,hlt',hlt2])|(refine w_e [] ?_;intro J hJ;simp only[];simp[f0,f3,f4,f5,hmH,hg,tH,t0,c1,c2,c3,c4,c5,hy2,hlt',hlt2];(repeat refine ca ?_);(refine hJ _ _ ?_;clear hJ J;simp only[ak,reduceIte]))))
    rw[if_pos ⟨hy,hn0⟩]at h3
    refine aCv ?_
    simp only[ak,kO,mB,kN,aBw]
    refine hnx _ _ (hRo (turn++[x]) y (s.next+1) _ _ (by simp;omega) hn0 (by rw[← h3];simp) (by simp[f0]) (by simp) (by simp[f4]) (by simp) ⟨by omega,by omega,by simp,by simp⟩ hk2)
   ·have hlt':¬turn.length+1<(inL P).length:=by omega
    have hlt2:¬(turn.length:Int)+1<(inL P).length:=by omega
    (repeat' (first|refine qS ?_|(refine qK ?_;simp only[ak,reduceIte])|(refine qR ?_;simp only[ak,reduceIte];simp[f0,f3,f4,f5,hmH,hg,tH,t0,c1,c2,c3,c4,c5,hy2,hlt',hlt2])|(refine qC ?_;simp[f0,f3,f4,f5,hmH,hg,tH,t0,c1,c2,c3,c4,c5,hy2,hlt',hlt2])|(refine w_e [] ?_;intro J hJ;simp only[];simp[f0,f3,f4,f5,hmH,hg,tH,t0,c1,c2,c3,c4,c5,hy2,hlt',hlt2];(repeat refine ca ?_);(refine hJ _ _ ?_;clear hJ J;simp only[ak,reduceIte]))))
    rw[if_neg (fun h=>hn0 h.2)]at h3
    exact⟨by rw[← h3];simp[z0,iV],hk2⟩
end Go.Proofs.YtempldclppogmaaGreatDoor.Aw
namespace Go.Proofs.YtempldclppogmaaGreatDoor.Aw
open Go Go.RowKit Go.Proofs.YtempldclppogmaaGreatDoor.Pl
def mR(l:List Int):List Int:=l.foldr sL []
theorem qA:∀ l,(mR l).Pairwise (· < ·)
 |[]=>.nil
 |x::l=>uG x _ (qA l)
theorem iL(x:Int):∀ l,x∈mR l↔x∈l
 |[]=>by simp[mR]
 |y::l=>by
  have ih:=iL x l
  unfold mR at ih ⊢
  rw[List.foldr_cons,mG,ih,List.mem_cons]
theorem aJL(A:Tn)(loc:Int→Nat):rA (ouL A loc)=A.map (·.1):=by
 induction A with
 |nil=>rfl
 |cons p P ih=>simp only[ouL,List.map_cons,rA]at ih ⊢;rw[ih];rfl
theorem aMB(m q:Nat)(es:List (List Int×LV))(K:List Int)(st:St)(hl:es.length≤12)(hH:st.H q=.box 80 1 [.mp m])(hm:st.H m=.map false [.u32] es)(hK:rA es=K)(hn:K.Nodup):
 aF Tryz.prog 46 [.fn (.func 80) [.pt q 0]] st fun r st'=>r=.sl 0 (mR K).length (us (mR K))∧aB st st':=by
 refine bV ?_
 refine qO aK Tryz.func46 rfl rfl Tryz.ntmps46 (rs:=[.tmp 2]) rfl (by simp) ?_
 (repeat' (first|refine qS ?_|(refine w_e [] ?_;intro J hJ;simp only[];simp[];(try (refine hJ _ _ ?_;clear hJ J;simp only[ak,reduceIte])))))
 refine qE (aFf m q es _ (by omega) hH hm) (by simp) ?_;rintro r s1 ⟨ys,hys,rfl,rfl⟩
 have hyl:ys.length=es.length:=by rw[hys.length_eq];simp[rA]
 (repeat' (first|refine qS ?_|((first|(refine w_e [] ?_;intro J hJ;simp only[])|(refine aL ?_));simp[];(try (refine hJ _ _ ?_;clear hJ J;simp only[ak,reduceIte])))))
 refine qE (aMH ys st.next _ (by omega) (by simp) (by simp)) (by simp) ?_;rintro r s2 ⟨c,hB,hp,hs,hoff⟩
 have hn2:=hoff.1
 simp only[aA]at hn2
 have hKp:aB st s2:=⟨by omega,fun l' hl'=>(hoff.2 l' (by omega) (by simp;omega)).trans ((aB.new st _).H l' hl')⟩
 have hcl:=hp.length_eq
 have hpK:c.Perm K:=by rw[← hK];exact hp.trans hys
 have hc:c=mR K:=by
  refine uL id ?_ (by simpa using qA K) fun x=>by rw[iL];exact hpK.mem_iff
  rw[List.map_id]
  refine(List.Pairwise.and hs (hpK.nodup_iff.2 hn)).imp fun h=>?_
  have:=h.1
  have:=h.2
  omega
 (repeat' (first|refine qS ?_|(refine qR ?_;simp only[ak,reduceIte];simp[])|((first|(refine w_e [] ?_;intro J hJ;simp only[])|(refine aL ?_));simp[];(refine hJ _ _ ?_;clear hJ J;simp only[ak,reduceIte]))))
 rw[← hc]
 exact⟨st.next,c.length,⟨rfl,hcl.symm⟩,_,_,_,hB,by simp,⟨rfl,by rw[List.take_of_length_le (by simp)]⟩,hKp.set (Nat.le_refl _) _⟩
def fX(B:List Ed)(v x:Int):List Int:=
 if x<v then(B.map fun e=>2*e.id+if e.b=v then 1 else 0).reverse else B.map fun e=>2*e.id+if e.b=v then 1 else 0
set_option maxHeartbeats 2000000 in
theorem aOc(B:List Ed)(v x:Int)(t:Nat)(st:St)(hl:B.length≤1000)(hpos:∀ e∈B,1≤e.id∧e.id≤1048576):
 aF Tryz.prog 49 [.sl t B.length (eds B),u v,u x] st fun r st'=>r=.sl 0 (fX B v x).length (us (fX B v x))∧st'=st:=by
 refine qT (Q:=fun r=>r=.sl 0 (fX B v x).length (us (fX B v x))) (bV ?_) fun r h=>by subst h;exact⟨.inl rfl,iT _ _⟩
 have hel:=aO B
 refine qO aK Tryz.func49 rfl rfl Tryz.ntmps49 (rs:=[.tmp 6]) rfl (by simp) ?_
 (repeat' (first|refine qS ?_|refine qB ?_|(refine w_e [] ?_;intro J hJ;simp only[];simp[];(refine hJ _ _ ?_;clear hJ J;simp only[ak,reduceIte]))))
 refine pT 7 34 1 (by simp) ?_
 refine aP 13 12 14 28 (B.length) (fun j fr st2=>fr 1=u v∧fr 2=u x∧fr 11=.sl t B.length (eds B)∧aB st st2∧∃ q,fr 7=.ms q 0 j∧st.next≤q∧q<st2.next∧st2.H q=.box 34 1 (us ((B.take j).map fun e=>2*e.id+if e.b=v then 1 else 0))) ?_ ?_ ?_
 ·exact⟨by simp,by simp,by simp,aB.new _ _,st.next,by simp,Nat.le_refl _,by simp,by simp⟩
 ·rintro j fr s hlt ⟨f1,f2,f11,hk,q,f7,q1,q2,hq⟩ fi fn JO hJO
  have hd:=bE B j hlt
  have hk3:j*3<B.length*3:=by omega
  have htk:((B.take (j+1)).map fun e=>2*e.id+if e.b=v then 1 else 0)=((B.take j).map fun e=>2*e.id+if e.b=v then 1 else 0)++[2*(B.getD j ed0).id+if(B.getD j ed0).b=v then 1 else 0]:=by
   have h1:B.take (j+1)=B.take j++[B[j]]:=List.take_succ_eq_append_getElem hlt
   rw[h1,List.map_append,cC B j hlt];rfl
  have hp:=hpos (B.getD j ed0) (by rw[cC B j hlt];exact List.getElem_mem _)
  have hml:((B.take j).map fun e=>2*e.id+if e.b=v then(1:Int)else 0).length=j:=by simp;omega
  generalize B.getD j ed0=y at *
  generalize ((B.take j).map fun e=>2*e.id+if e.b=v then(1:Int)else 0)=D at *
  obtain⟨d,a,b⟩:=y
  simp only at htk hp hd
  have c1:¬q=s.next:=by omega
  have c1b:¬q=s.next+1:=by omega
  have htj:(us D).take j=us D:=List.take_of_length_le (by simp;omega)
  have hjl:j≤D.length:=by omega
  have hj1:(j+1)*4≤140737488355328:=by omega
  have hj2:j+1≤maxLen:=by unfold maxLen;omega
  have hk2:∀(o1 o2 o4:aD),aB st ((((s.new o1).new o2).set q .dead).new o4):=fun o1 o2 o4=>(((hk.trans (aB.new _ _)).trans (aB.new _ _)).set q1 _).trans (aB.new _ _)
  by_cases hb:b=v
  ·have hb2:(b==v)=true:=by simp[hb]
   rw[if_pos hb]at htk
   (repeat' (first|refine qS ?_|(refine qC ?_;simp[f1,f7,f11,fi,fn,hlt,hd,hel,hk3,hb2])|(refine w_e [] ?_;intro J hJ;simp only[];simp[f1,f7,f11,fi,fn,hlt,hd,hel,hk3,hb2];(try (refine hJ _ _ ?_;clear hJ J;simp only[ak,reduceIte])))))
   refine qE (dOf d 1 _ (by omega) (by omega) (.inr rfl)) (by simp) ?_;rintro r s1 ⟨rfl,rfl⟩
   (repeat' (refine aL ?_;simp[f7,hq,c1,c1b,htj,hjl,hj1,hj2];(refine hJ _ _ ?_;clear hJ J;simp only[ak,reduceIte])))
   exact hJO _ _ (by simp[fi]) (by simp[fn]) ⟨by simp[f1],by simp[f2],by simp[f11],hk2 _ _ _,s.next+1+1,by simp,by omega,by simp,by rw[htk];simp⟩
  ·have hb2:(b==v)=false:=by simp[hb]
   rw[if_neg hb]at htk
   (repeat' (first|refine qS ?_|(refine qK ?_;simp only[ak,reduceIte])|(refine qC ?_;simp[f1,f7,f11,fi,fn,hlt,hd,hel,hk3,hb2])|(refine w_e [] ?_;intro J hJ;simp only[];simp[f1,f7,f11,fi,fn,hlt,hd,hel,hk3,hb2];(try (refine hJ _ _ ?_;clear hJ J;simp only[ak,reduceIte])))))
   refine qE (dOf d 0 _ (by omega) (by omega) (.inl rfl)) (by simp) ?_;rintro r s1 ⟨rfl,rfl⟩
   (repeat' (refine aL ?_;simp[f7,hq,c1,c1b,htj,hjl,hj1,hj2];(refine hJ _ _ ?_;clear hJ J;simp only[ak,reduceIte])))
   exact hJO _ _ (by simp[fi]) (by simp[fn]) ⟨by simp[f1],by simp[f2],by simp[f11],hk2 _ _ _,s.next+1+1,by simp,by omega,by simp,by rw[htk];simp⟩
 ·rintro fr s ⟨f1,f2,f11,hk,q,f7,q1,q2,hq⟩
  rw[List.take_length]at hq
  unfold fX
  have hml:(B.map fun e=>2*e.id+if e.b=v then(1:Int)else 0).length=B.length:=by simp
  generalize (B.map fun e=>2*e.id+if e.b=v then(1:Int)else 0)=D at *
  by_cases hx:x<v
  ·rw[if_pos hx]
   rw[← hml]at f7
   (repeat' (first|refine qS ?_|(refine qC ?_;simp[f1,f2,f7,hx])|(refine w_e [] ?_;intro J hJ;simp only[];simp[f1,f2,f7,hx];(try (refine hJ _ _ ?_;clear hJ J;simp only[ak,reduceIte])))))
   refine qE (uO D q s (by unfold small;omega) hq) (by simp) ?_;rintro r s1 rfl
   (repeat' (first|refine qS ?_|(refine qR ?_;simp only[ak,reduceIte];simp[f7])|((first|(refine w_e [] ?_;intro J hJ;simp only[])|(refine aL ?_));simp[f7];(refine hJ _ _ ?_;clear hJ J;simp only[ak,reduceIte]))))
   exact⟨q,D.length,⟨rfl,rfl⟩,_,_,_,if_pos rfl,by simp,⟨by simp,by rw[List.take_of_length_le (by simp)]⟩,(hk.set q1 _).set q1 _⟩
  ·rw[if_neg hx]
   (repeat' (first|refine qS ?_|(refine qK ?_;simp only[ak,reduceIte])|(refine qR ?_;simp only[ak,reduceIte];simp[f1,f2,f7,hx])|(refine qC ?_;simp[f1,f2,f7,hx])|(refine w_e [] ?_;intro J hJ;simp only[];simp[f1,f2,f7,hx];(refine hJ _ _ ?_;clear hJ J;simp only[ak,reduceIte]))))
   exact⟨q,B.length,⟨rfl,rfl⟩,_,_,_,hq,by simp;omega,⟨hml.symm,by rw[List.take_of_length_le (by simp;omega)]⟩,hk.set q1 _⟩
def aKG(ea:List (List Int×LV))(es:List Ed):Prop:=∀ d v,d∈ends es v→aR ea [d]=some (u v)
theorem aKG.put{ea:List (List Int×LV)}{es:List Ed}{f:Int→List Int}{d v:Int}(h:∀ e w,e∈f w→aR ea [e]=some (u w))(hn:∀ w,d∉f w):∀ e w,e∈(if w=v then f v++[d]else f w)→aR (aS ea [d] (u v)) [e]=some (u w):=fun e w he=>by
 rw[cL]
 by_cases hd:e=d
 ·subst hd
  by_cases hw:w=v
  ·simp[hw]
  ·rw[if_neg hw]at he;exact absurd he (hn w)
 ·rw[if_neg (by simpa using hd)]
  refine h e w ?_
  by_cases hw:w=v
  ·rw[if_pos hw]at he
   rcases List.mem_append.1 he with he|he
   ·rw[hw];exact he
   ·exact absurd (List.mem_singleton.1 he) hd
  ·rwa [if_neg hw]at he
theorem iW.other{lo m A:Nat}{es:List (List Int×LV)}{st:St}{f:Int→List Int}{tok:Int→Nat}(h:iW lo m es st f tok){o:aD}(hA:∀ e s n,st.H A≠.own e s n):iW lo m es (st.set A o) f tok:=fun v=>by
 refine⟨(h v).1,fun h0=>?_⟩
 obtain⟨k1,k2,k3,k4,k5,k6⟩:=(h v).2 h0
 have hne:tok v≠A:=fun e=>hA _ _ _ (e ▸ k5)
 exact⟨k1,k2,by simpa using k3,k4,by simp[hne,k5],k6⟩
set_option maxHeartbeats 1000000 in
theorem aPh(v d:Int)(lo M A:Nat)(em ea:List (List Int×LV))(f:Int→List Int)(tok:Int→Nat)(st:St)(hM:st.H M=.map false [.u32] em)(hA:st.H A=.map false [.u32] ea)(hN:iW lo M em st f tok)(hMn:M<st.next)(hAn:A<st.next)(hMA:M≠A)(hlo:lo≤st.next)(hp:0<st.next)(hl:(f v).length≤1000):
 aF Tryz.prog 31 [.ag [.mp M,.mp A],u v,u d] st fun r st'=>st.next≤st'.next∧(∀ l,l<st.next→l≠M→l≠A→(l<lo∨∀ e s n,st.H l≠.own e s n)→st'.H l=st.H l)∧st'.H A=.map false [.u32] (aS ea [d] (u v))∧∃ em' tok',st'.H M=.map false [.u32] em'∧iW lo M em' st' (fun w=>if w=v then f v++[d]else f w) tok':=by
 have c1:¬M=st.next:=by omega
 have c2:¬A=st.next:=by omega
 have c3:¬M=st.next+1:=by omega
 have c4:¬A=st.next+1:=by omega
 have c6:¬M=st.next+1+1:=by omega
 have c7:¬A=st.next+1+1:=by omega
 have c8:¬st.next=M:=by omega
 have c5:¬A=M:=fun h=>hMA h.symm
 refine qO aK Tryz.func31 rfl rfl Tryz.ntmps31 (rs:=[]) rfl (by simp) ?_
 (repeat' (first|refine qS ?_|(refine w_e [] ?_;intro J hJ;simp only[];simp[];(refine hJ _ _ ?_;clear hJ J;simp only[ak,reduceIte]))))
 by_cases h0:tok v=0
 ·obtain⟨h1,h2⟩:=(hN v).1 h0
  (refine w_s [] [st.next,M] [(0,true),(1,true),(2,true),(3,true),(4,true),(5,true),(6,true),(7,true),(8,true),(9,true),(10,false)] ?_;intro J hJ;simp[hM,h2,c1,c3,c6];(repeat refine ca ?_);(refine hJ _ _ ?_;clear hJ J;simp only[ak,reduceIte]))
  (repeat' (refine w_e [] ?_;intro J hJ;simp only[];simp[hA,c1,c2,c3,c4,c5,c6,c7,c8];(refine hJ _ _ ?_;clear hJ J;simp only[ak,reduceIte])))
  have e:(.sl (st.next+1+1) 1 [.atom (.int .u32 d)]:LV)=.sl (st.next+1+1) ((f v).length+1) (us (f v++[d])):=by rw[h1];rfl
  refine⟨trivial,by simp;omega,fun l hl hlM hlA hlo=>?_,by simp,aS em [v] (.sl (st.next+1+1) ((f v).length+1) (us (f v++[d]))),fun w=>if w=v then st.next+1+1 else tok w,by simp[hMA,e],?_⟩
  ·simp[hlA,hlM,show ¬l=st.next+1+1 by omega,show ¬l=st.next+1 by omega,show ¬l=st.next by omega]
  ·refine iW.other ?_ (by simp[c2,c4,c5,c7,hA])
   refine hN.step v d (st.next+1+1) (by omega) (by simp) hMn hp hlo (fun l e1 e2 e3=>?_) (by simp[h1,c6,Ne.symm c6])
   simp[e2,show ¬l=st.next+1+1 by omega,show ¬l=st.next+1 by omega,show ¬l=st.next by omega]
 ·obtain⟨h1,h2,h3,h4,h5,h6⟩:=(hN v).2 h0
  have k1:¬tok v=st.next:=by omega
  have k2:¬tok v=st.next+1:=by omega
  have k3:¬M=tok v:=fun h=>h4 h.symm
  have k4:¬st.next=tok v:=by omega
  have k5:¬A=tok v:=fun h=>by rw[← h,hA]at h5;cases h5
  (refine w_s [] [st.next,M] [(0,true),(1,true),(2,true),(3,true),(4,true),(5,true),(6,true),(7,true),(8,true),(9,true),(10,false)] ?_;intro J hJ;simp[hM,h1,h5,h0,c1,c3,c6,k1,k2,k3,k4];(repeat refine ca ?_);(refine hJ _ _ ?_;clear hJ J;simp only[ak,reduceIte]))
  (repeat' (refine w_e [] ?_;intro J hJ;simp only[];simp[hA,c1,c2,c3,c4,c5,c6,c7,c8,k1,k2,k3,k4,k5];(refine hJ _ _ ?_;clear hJ J;simp only[ak,reduceIte])))
  have e:(.sl (st.next+1+1) ((f v).length+1) (us (f v)++[.atom (.int .u32 d)]):LV)=.sl (st.next+1+1) ((f v).length+1) (us (f v++[d])):=by simp
  refine⟨trivial,by simp;omega,fun l hl hlM hlA hlo=>?_,by simp,aS em [v] (.sl (st.next+1+1) ((f v).length+1) (us (f v++[d]))),fun w=>if w=v then st.next+1+1 else tok w,by simp[hMA],?_⟩
  ·have:¬l=tok v:=fun h=>by
    rcases hlo with ho|ho
    ·omega
    ·exact ho _ _ _ (h ▸ h5)
   simp[hlA,hlM,this,show ¬l=st.next+1+1 by omega,show ¬l=st.next+1 by omega,show ¬l=st.next by omega]
  ·refine iW.other ?_ (by simp[c2,c4,c5,c7,k5,hA])
   refine hN.step v d (st.next+1+1) (by omega) (by simp) hMn hp hlo (fun l e1 e2 e3=>?_) (by simp[c6,Ne.symm c6])
   simp[e1,e2,show ¬l=st.next+1+1 by omega,show ¬l=st.next+1 by omega,show ¬l=st.next by omega]
structure aGw(es:List Ed)(M A:Nat)(st:St):Prop where
 ex:∃ em ea,st.H M=.map false [.u32] em∧aAP em (ends es)∧st.H A=.map false [.u32] ea∧aKG ea es
 lt:M<st.next∧A<st.next
theorem aGw.keeps{es:List Ed}{M A:Nat}{st st':St}(h:aGw es M A st)(hk:aB st st'):aGw es M A st':=by
 obtain⟨⟨em,ea,h1,h2,h3,h4⟩,h5,h6⟩:=h
 exact⟨⟨em,ea,(hk.H _ h5).trans h1,h2,(hk.H _ h6).trans h3,h4⟩,Nat.lt_of_lt_of_le h5 hk.next,Nat.lt_of_lt_of_le h6 hk.next⟩
theorem aFb(n:Nat)(F:Nat→Int):(List.range (n+1)).map F=(List.range n).map F++[F n]:=by
 rw[List.range_succ,List.map_append];rfl
set_option maxHeartbeats 1000000 in
theorem aPu{es:List Ed}(hids:es.Pairwise fun x y=>x.id<y.id)(hpos:∀ x∈es,1≤x.id∧x.id≤1048576)(hes:es.length≤1000){M A:Nat}{st:St}(hL:aGw es M A st){d:Int}{k:Nat}(ht:eH es d k)(hp:0<st.next):
 aF Tryz.prog 60 [.ag [.mp M,.mp A],u d] st fun r st'=>r=.sl 0 (eR es d).length (us (eR es d))∧st'=st:=by
 refine qT (Q:=fun r=>r=.sl 0 (eR es d).length (us (eR es d))) (bR ?_) fun r h=>by subst h;exact⟨.inl rfl,iT _ _⟩
 have hkl:=ht.lt hids
 have hway:eR es d=bG es d::(List.range (k+1)).map fun i=>bG es (tw (cF es i d)):=by
  unfold eR
  rw[ht.dS hids]
  simp only[List.map_map]
  rfl
 rw[hway]
 clear hway
 have hdb:∀ e,e∈bP es→0≤e∧e<4294967296:=fun e he=>by
  obtain⟨x,hx,h⟩:=nS.1 he
  have:=hpos x hx
  omega
 obtain⟨⟨em,ea,hM,hR,hA,hAt⟩,hMn,hAn⟩:=hL
 have hget:∀ e,e∈bP es→aR ea [e]=some (u (bG es e)):=fun e he=>hAt e _ (nJ hids he)
 have hg0:=hget d ht.dart
 have c1:¬M=st.next:=by omega
 have c2:¬A=st.next:=by omega
 refine qO aK Tryz.func60 rfl rfl Tryz.ntmps60 (rs:=[.tmp 4]) rfl (by simp) ?_
 (repeat' (first|refine qS ?_|refine qB ?_|(refine w_e [] ?_;intro J hJ;simp only[];simp[hA,c2,hg0];(refine hJ _ _ ?_;clear hJ J;simp only[ak,reduceIte]))))
 refine qL (fun n fr st2=>∃ j,j≤k∧n=k-j∧fr 1=u (cF es j d)∧fr 2=.pt st.next 0∧st2.H st.next=.box 62 2 [.mp M,.mp A]∧aB st st2∧st.next<st2.next∧∃ t,fr 5=.sl t (j+1) (u (bG es d)::us ((List.range j).map fun i=>bG es (tw (cF es i d))))∧t≠0∧st.next<t∧t<st2.next∧st2.H t=.own 34 1 (j+1)) k ?_ ?_
 ·exact⟨0,by omega,by omega,by simp[cF],by simp,by simp[show ¬st.next=st.next+1 by omega],(aB.new _ _).trans (aB.new _ _),by simp;omega,st.next+1,by simp,by omega,by omega,by simp,by simp⟩
 rintro n fr s ⟨j,hj,rfl,f1,f2,hB,hK,hn,t,f5,t0,t1,t2,t3⟩ J hJ
 have hdj:=ht.bP hids hj
 obtain⟨hd0,hd1⟩:=hdb _ hdj
 have hgj:=hget _ (pY.2 hdj)
 have hsn:=aFb j fun i=>bG es (tw (cF es i d))
 have hM2:=(hK.H M hMn).trans hM
 have hA2:=(hK.H A hAn).trans hA
 have hrl:((List.range j).map fun i=>bG es (tw (cF es i d))).length=j:=by simp
 generalize (List.range j).map (fun i=>bG es (tw (cF es i d)))=W at *
 generalize hx:cF es j d=x at *
 have c3:¬st.next=s.next:=by omega
 have c4:¬st.next=s.next+1:=by omega
 have c5:¬st.next=t:=by omega
 have c6:¬M=s.next:=by have:=hK.next;omega
 have c7:¬M=s.next+1:=by have:=hK.next;omega
 have c8:¬M=t:=by omega
 have c9:¬t=s.next:=by omega
 have hj1:(j+1+1)*4≤140737488355328:=by omega
 have hj2:j+1+1≤maxLen:=by unfold maxLen;omega
 have hgx:fU es x=decide ((ends es (bG es (tw x))).length=2):=rfl
 have hsx:pU es x=tY (ends es (bG es (tw x))) (tw x):=rfl
 have hcs:=hR.cases (bG es (tw x))
 have hnd:=lB (nF hids (bG es (tw x)))
 generalize bG es (tw x)=y at *
 generalize ends es y=E at *
 generalize hrow:(aR em [y]).getD .nil=row at *
 have hK5:aB st ((((s.new (.own 34 1 1)).set t .dead).new (.own 34 1 (j+1+1)))):=((hK.trans (aB.new _ _)).set (by omega) _).trans (aB.new _ _)
 cases hg:fU es x with
 |false=>
  clear hJ
  have hne:¬E.length=2:=by rw[hgx]at hg;simpa using hg
  have hjk:j=k:=by
   rcases Nat.lt_or_ge j k with h|h
   ·have:=ht.go j h;rw[hx,hg]at this;cases this
   ·omega
  subst hjk
  rw[hsn]
  have hfin:us (bG es d::(W++[y]))=u (bG es d)::(us W++[u y]):=by simp
  have hlen:(bG es d::(W++[y])).length=j+1+1:=by simp[hrl]
  rcases hcs with⟨hcs,hE⟩|⟨t',hcs⟩
  ·subst hcs
   (repeat' (first|refine qS ?_|refine qB ?_|(refine w_e [] ?_;intro J hJ;simp only[];simp[f1])))
   refine qE (Twin x s hd0 hd1) (by simp) ?_;rintro r s1 ⟨rfl,e1⟩
   rw[e1];clear e1 s1
   (repeat' (first|refine qS ?_|(refine qR ?_;simp only[ak,reduceIte];simp[f2,f5,hB,hA2,hgj,hM2,t0,t3,c3,c4,c5,c6,c7,c8,c9,hj1,hj2,hrl,hrow])|(refine qC ?_;simp[f2,f5,hB,hA2,hgj,hM2,t0,t3,c3,c4,c5,c6,c7,c8,c9,hj1,hj2,hrl,hrow])|((first|(refine w_e [] ?_;intro J hJ;simp only[])|(refine aL ?_));simp[f2,f5,hB,hA2,hgj,hM2,t0,t3,c3,c4,c5,c6,c7,c8,c9,hj1,hj2,hrl,hrow];(refine hJ _ _ ?_;clear hJ J;simp only[ak,reduceIte]))))
   refine⟨?_,hK5⟩
   have e:u (bG es d)::(us W++[.atom (.int .u32 y)])=us (bG es d::(W++[y])):=by simp
   rw[e];simp only[z0,iO]
  ·subst hcs
   have hne':¬(E.length:Int)=2:=by omega
   (repeat' (first|refine qS ?_|refine qB ?_|(refine w_e [] ?_;intro J hJ;simp only[];simp[f1])))
   refine qE (Twin x s hd0 hd1) (by simp) ?_;rintro r s1 ⟨rfl,e1⟩
   rw[e1];clear e1 s1
   (repeat' (first|refine qS ?_|(refine qR ?_;simp only[ak,reduceIte];simp[f2,f5,hB,hA2,hgj,hM2,t0,t3,c3,c4,c5,c6,c7,c8,c9,hj1,hj2,hrl,hrow,hne,hne'])|(refine qC ?_;simp[f2,f5,hB,hA2,hgj,hM2,t0,t3,c3,c4,c5,c6,c7,c8,c9,hj1,hj2,hrl,hrow,hne,hne'])|((first|(refine w_e [] ?_;intro J hJ;simp only[])|(refine aL ?_));simp[f2,f5,hB,hA2,hgj,hM2,t0,t3,c3,c4,c5,c6,c7,c8,c9,hj1,hj2,hrl,hrow,hne,hne'];(refine hJ _ _ ?_;clear hJ J;simp only[ak,reduceIte]))))
   refine⟨?_,hK5⟩
   have e:u (bG es d)::(us W++[.atom (.int .u32 y)])=us (bG es d::(W++[y])):=by simp
   rw[e];simp only[z0,iO]
 |true=>
  have h2:E.length=2:=by rw[hgx]at hg;exact of_decide_eq_true hg
  have hjk:j<k:=by
   rcases Nat.lt_or_ge j k with h|h
   ·exact h
   ·obtain rfl:j=k:=by omega
    have:=ht.stop;rw[hx,hg]at this;cases this
  match E,h2 with
  |[p,q],_=>
  rcases hcs with⟨hcs,hE⟩|⟨t',hcs⟩
  ·cases hE
  subst hcs
  have hit:cF es (j+1) d=tY [p,q] (tw x):=by simp only[cF,hx];exact hsx
  have hus:us [p,q]=[u p,u q]:=rfl
  rw[hus]at hrow
  by_cases hpq:p=tw x
  ·have ho:tY [p,q] (tw x)=q:=by simp[tY,hpq]
   rw[ho]at hit
   (repeat' (first|refine qS ?_|refine qB ?_|(refine w_e [] ?_;intro J hJ;simp only[];simp[f1])))
   refine qE (Twin x s hd0 hd1) (by simp) ?_;rintro r s1 ⟨rfl,e1⟩
   rw[e1];clear e1 s1
   (repeat' (first|refine qS ?_|(refine qK ?_;simp only[ak,reduceIte])|(refine qC ?_;simp[f2,f5,hB,hA2,hgj,hM2,t0,t3,c3,c4,c5,c6,c7,c8,c9,hj1,hj2,hrl,hrow,hpq])|((first|(refine w_e [] ?_;intro J hJ;simp only[])|(refine aL ?_));simp[f2,f5,hB,hA2,hgj,hM2,t0,t3,c3,c4,c5,c6,c7,c8,c9,hj1,hj2,hrl,hrow,hpq];(refine hJ _ _ ?_;clear hJ J;simp only[ak,reduceIte]))))
   exact hJ (k-(j+1)) _ _ (by omega) ⟨j+1,by omega,rfl,by simp[hit],by simp[f2],by simp[c3,c4,c5,hB],hK5,by simp;omega,s.next+1,by simp[hsn],by omega,by omega,by simp,by simp⟩
  ·have ho:tY [p,q] (tw x)=p:=by simp[tY,hpq]
   rw[ho]at hit
   (repeat' (first|refine qS ?_|refine qB ?_|(refine w_e [] ?_;intro J hJ;simp only[];simp[f1])))
   refine qE (Twin x s hd0 hd1) (by simp) ?_;rintro r s1 ⟨rfl,e1⟩
   rw[e1];clear e1 s1
   (repeat' (first|refine qS ?_|(refine qK ?_;simp only[ak,reduceIte])|(refine qC ?_;simp[f2,f5,hB,hA2,hgj,hM2,t0,t3,c3,c4,c5,c6,c7,c8,c9,hj1,hj2,hrl,hrow,hpq])|((first|(refine w_e [] ?_;intro J hJ;simp only[])|(refine aL ?_));simp[f2,f5,hB,hA2,hgj,hM2,t0,t3,c3,c4,c5,c6,c7,c8,c9,hj1,hj2,hrl,hrow,hpq];(refine hJ _ _ ?_;clear hJ J;simp only[ak,reduceIte]))))
   exact hJ (k-(j+1)) _ _ (by omega) ⟨j+1,by omega,rfl,by simp[hit],by simp[f2],by simp[c3,c4,c5,hB],hK5,by simp;omega,s.next+1,by simp[hsn],by omega,by omega,by simp,by simp⟩
end Go.Proofs.YtempldclppogmaaGreatDoor.Aw
namespace Go.Proofs.YtempldclppogmaaGreatDoor.Aw
open Go Go.RowKit Go.Proofs.YtempldclppogmaaGreatDoor.Pl Go.Proofs.YtempldclppogmaaGreatDoor.Eu
def oth(x:Ed)(v:Int):Int:=if x.a=v then x.b else x.a
abbrev eAt(es:List Ed)(i:Nat):Ed:=es.getD i ed0
def atP(es:List Ed)(v:Int):List Nat:=(List.range es.length).filter fun i=>decide ((eAt es i).a=v∨(eAt es i).b=v)
structure Bw where
 vis:List Int
 low:List Int
 stk:List Nat
 out:List (List Nat)
def nmW(V:List Int)(v:Int):Int:=if v∈V then(V.idxOf v:Int)+1 else 0
def lwW(s:Bw)(v:Int):Int:=s.low.getD (s.vis.idxOf v) 0
def jX(s:Bw)(v x:Int):Bw:={ s with low:=s.low.set (s.vis.idxOf v) x }
def cZ(s:Bw)(i:Nat):Bw:={ s with stk:=s.stk++[i] }
def fR(l:List Nat)(i:Nat):Nat:=l.length-1-l.reverse.idxOf i
def oX(n:Nat)(seg:List Nat):List Nat:=(List.range n).filter fun i=>decide (i∈seg)
def aCT(n:Nat)(s:Bw)(i:Nat):Option Bw:=if i∈s.stk then some { s with stk:=s.stk.take (fR s.stk i),out:=s.out++[oX n (s.stk.drop (fR s.stk i))] } else none
def goB(f:Bw→Nat→Option Bw):List Nat→Bw→Option Bw
 |[],s=>some s
 |i::l,s=>(f s i).bind (goB f l)
def aGh(n:Nat)(v mine:Int)(i:Nat)(u:Int)(s1:Bw):Option Bw:=
 if mine≤lwW s1 u then aCT n (jX s1 v (min (lwW s1 v) (lwW s1 u))) i else some (jX s1 v (min (lwW s1 v) (lwW s1 u)))
def eP(rec:Int→Int→Bw→Option Bw)(es:List Ed)(v by_ mine:Int)(s:Bw)(i:Nat):Option Bw:=
 if(i:Int)=by_ then some s
 else if oth (eAt es i) v∈s.vis then
  (if nmW s.vis (oth (eAt es i) v)<mine then some (jX (cZ s i) v (min (lwW s v) (nmW s.vis (oth (eAt es i) v))))else some s)
 else(rec (oth (eAt es i) v) i (cZ s i)).bind (aGh es.length v mine i (oth (eAt es i) v))
def lK(s:Bw)(v:Int):Bw:={ s with vis:=s.vis++[v],low:=s.low++[(s.vis.length:Int)+1] }
def lE(es:List Ed):Nat→Int→Int→Bw→Option Bw
 |0,_,_,_=>none
 |n+1,v,by_,s=>goB (eP (lE es n) es v by_ ((s.vis.length:Int)+1)) (atP es v) (lK s v)
def nW(es:List Ed)(n:Nat):List Int→Bw→Option Bw
 |[],s=>some s
 |v::l,s=>if v∈s.vis then nW es n l s else(lE es n v (-1) s).bind (nW es n l)
inductive RIn(es:List Ed)(S:Int→Prop)(x:Int):Int→Prop
 |refl (h:S x):RIn es S x x
 |step {y z:Int} (h:RIn es S x y) (hz:z∈nbr es y) (hs:S z):RIn es S x z
theorem RIn.here{es:List Ed}{S:Int→Prop}{x y:Int}(h:RIn es S x y):S x∧S y:=by
 induction h with
 |refl h=>exact⟨h,h⟩
 |step _ _ hs ih=>exact⟨ih.1,hs⟩
theorem RIn.trans{es:List Ed}{S:Int→Prop}{x y z:Int}(h:RIn es S x y)(k:RIn es S y z):RIn es S x z:=by
 induction k with
 |refl=>exact h
 |step _ hz hs ih=>exact .step ih hz hs
theorem RIn.symm{es:List Ed}{S:Int→Prop}{x y:Int}(h:RIn es S x y):RIn es S y x:=by
 induction h with
 |refl h=>exact .refl h
 |step h hz hs ih=>exact(RIn.step (.refl hs) (aDx hz) h.here.2).trans ih
theorem RIn.mono{es:List Ed}{S S':Int→Prop}{x y:Int}(h:RIn es S x y)(hS:∀ z,S z→S' z):RIn es S' x y:=by
 induction h with
 |refl h=>exact .refl (hS _ h)
 |step _ hz hs ih=>exact .step ih hz (hS _ hs)
theorem RIn.closed{es:List Ed}{S L:Int→Prop}{x y:Int}(h:RIn es S x y)(hx:L x)(hc:∀ z,L z→∀ w∈nbr es z,S w→L w):L y:=by
 induction h with
 |refl=>exact hx
 |step h hz hs ih=>exact hc _ ih _ hz hs
def aMS(es:List Ed)(w:Int)(x y:Ed):Prop:=(x.a=w∨x.b=w)∧(y.a=w∨y.b=w)∧RIn es (·≠w) (oth x w) (oth y w)
def aCV(es:List Ed)(x y:Ed):Prop:=∃ w,aMS es w x y
theorem aCV.symm{es:List Ed}{x y:Ed}:aCV es x y→aCV es y x:=fun⟨w,h1,h2,h3⟩=>⟨w,h2,h1,h3.symm⟩
inductive jV(es:List Ed)(i:Nat):Nat→Prop
 |refl:jV es i i
 |step {j k:Nat} (h:jV es i j) (hj:j<es.length) (hk:k<es.length) (hr:aCV es (eAt es j) (eAt es k)):jV es i k
theorem jV.trans{es:List Ed}{i j k:Nat}(h:jV es i j)(h2:jV es j k):jV es i k:=by
 induction h2 with
 |refl=>exact h
 |step _ hj hk hr ih=>exact .step ih hj hk hr
theorem jV.symm{es:List Ed}{i j:Nat}(h:jV es i j):jV es j i:=by
 induction h with
 |refl=>exact .refl
 |step _ hj hk hr ih=>exact(jV.step .refl hk hj hr.symm).trans ih
structure gQ(es:List Ed)(B:List Nat):Prop where
 ne:B≠[]
 rise:B.Pairwise (· < ·)
 lt:∀ i∈B,i<es.length
 rel:∀ i∈B,∀ j∈B,jV es i j
 all:∀ i∈B,∀ j,j<es.length→aCV es (eAt es i) (eAt es j)→j∈B
theorem gQ.iff{es:List Ed}{B:List Nat}(h:gQ es B){i j:Nat}(hi:i∈B):j∈B↔jV es i j:=by
 refine⟨h.rel i hi j,fun hr=>?_⟩
 induction hr with
 |refl=>exact hi
 |step _ _ hk hr ih=>exact h.all _ ih _ hk hr
theorem bC{es:List Ed}{v:Int}{i:Nat}:i∈atP es v↔i<es.length∧((eAt es i).a=v∨(eAt es i).b=v):=by
 unfold atP;rw[List.mem_filter,List.mem_range,decide_eq_true_iff]
theorem uT{es:List Ed}{i:Nat}(h:i<es.length):eAt es i∈es:=by
 unfold eAt;rw[cC _ _ h];exact List.getElem_mem _
theorem nI{x:Ed}{v:Int}(h:x.a=v∨x.b=v):oth x (oth x v)=v:=by
 unfold oth
 rcases h with h|h
 ·rw[if_pos h];split<;>omega
 ·split
  ·split<;>omega
  ·rw[if_pos rfl,h]
theorem vA(x:Ed)(v:Int):x.a=oth x v∨x.b=oth x v:=by
 unfold oth;split
 ·exact .inr rfl
 ·exact .inl rfl
theorem aNj{x:Ed}{v:Int}(h:x.a≠x.b)(hv:x.a=v∨x.b=v):oth x v≠v:=by
 unfold oth;split<;>omega
theorem fP{x:Ed}{v:Int}(hv:x.a=v∨x.b=v)(c:Int):(x.a=c∨x.b=c)↔(c=v∨c=oth x v):=by
 unfold oth;split<;>omega
theorem pQ{es:List Ed}{i:Nat}{v:Int}(h:i∈atP es v):oth (eAt es i) v∈nbr es v:=by
 obtain⟨h1,h2⟩:=bC.1 h
 rw[uN]
 refine⟨_,uT h1,?_⟩
 unfold oth
 split
 ·exact .inl ⟨by assumption,rfl⟩
 ·refine .inr ⟨by omega,rfl⟩
theorem aLY{es:List Ed}{v w:Int}(h:w∈nbr es v):∃ i∈atP es v,oth (eAt es i) v=w:=by
 rw[uN]at h
 obtain⟨x,hx,h⟩:=h
 obtain⟨i,hi,rfl⟩:=List.getElem_of_mem hx
 have e:eAt es i=es[i]:=cC _ _ hi
 refine⟨i,bC.2 ⟨hi,by rw[e];omega⟩,?_⟩
 unfold oth
 rw[e]
 split<;>omega
theorem uU{es:List Ed}{i:Nat}{v:Int}(h:i∈atP es v):i∈atP es (oth (eAt es i) v):=bC.2 ⟨(bC.1 h).1,vA _ _⟩
structure tU(g:Gr)(A:Int→Prop)(s:Bw)(v by_:Int):Prop where
 ln:s.low.length=s.vis.length
 nd:s.vis.Nodup
 act:∀ a,A a→a∈s.vis
 fin:∀ w∈s.vis,¬A w→∀ i∈atP g.es w,oth (eAt g.es i) w∈s.vis
 new:v∉s.vis
 con:∀ a b,A a→A b→RIn g.es A a b
 par:(by_ = -1∧∀ a,¬A a)∨∃ i:Nat,by_=i∧i∈atP g.es v∧A (oth (eAt g.es i) v)
structure aFW(g:Gr)(s:Bw)(v by_:Int)(s1:Bw)(C:List Int)(T:List Nat)(N:List (List Nat)):Prop where
 vis:s1.vis=s.vis++C
 hd:v∈C
 nd:s1.vis.Nodup
 ln:s1.low.length=s1.vis.length
 low:∀ w∈s.vis,lwW s1 w=lwW s w
 clo:∀ c∈C,∀ i∈atP g.es c,oth (eAt g.es i) c∈s1.vis
 stk:s1.stk=s.stk++T
 out:s1.out=s.out++N
 pl:∀ i,(i∈T++N.flatten)↔i<g.es.length∧(i:Int)≠by_∧((eAt g.es i).a∈C∨(eAt g.es i).b∈C)
 pn:(T++N.flatten).Nodup
 lw1:lwW s1 v≤(s.vis.length:Int)+1
 lw2:∀ c∈C,∀ i∈atP g.es c,(i:Int)≠by_→oth (eAt g.es i) c∉C→lwW s1 v≤nmW s.vis (oth (eAt g.es i) c)
 lw3:lwW s1 v<(s.vis.length:Int)+1→∃ c∈C,∃ i∈atP g.es c,(i:Int)≠by_∧oth (eAt g.es i) c∈s.vis∧nmW s.vis (oth (eAt g.es i) c)=lwW s1 v
 rel:∀ i∈T,∃ b:Nat,by_=b∧jV g.es b i
 good:∀ B∈N,gQ g.es B
 cn:∀ c∈C,RIn g.es (·∈C) v c
structure BLp(g:Gr)(s0:Bw)(v by_:Int)(Q:List Nat)(s:Bw)(D:List Int)(T:List Nat)(N:List (List Nat)):Prop where
 vis:s.vis=s0.vis++v::D
 nd:s.vis.Nodup
 ln:s.low.length=s.vis.length
 low:∀ w∈s0.vis,lwW s w=lwW s0 w
 qs:∀ i∈Q,i∈atP g.es v
 cloQ:∀ i∈Q,oth (eAt g.es i) v∈s.vis
 cloD:∀ c∈D,∀ i∈atP g.es c,oth (eAt g.es i) c∈s.vis
 stk:s.stk=s0.stk++T
 out:s.out=s0.out++N
 pl:∀ i,(i∈T++N.flatten)↔i<g.es.length∧(i:Int)≠by_∧(((eAt g.es i).a∈D∨(eAt g.es i).b∈D)∨(i∈Q∧oth (eAt g.es i) v∈s0.vis))
 pn:(T++N.flatten).Nodup
 lw1:lwW s v≤(s0.vis.length:Int)+1
 lwD:∀ c∈D,∀ i∈atP g.es c,oth (eAt g.es i) c∉D→oth (eAt g.es i) c≠v→lwW s v≤nmW s0.vis (oth (eAt g.es i) c)
 lwQ:∀ i∈Q,(i:Int)≠by_→oth (eAt g.es i) v∈s0.vis→lwW s v≤nmW s0.vis (oth (eAt g.es i) v)
 lw3:lwW s v<(s0.vis.length:Int)+1→∃ c∈v::D,∃ i∈atP g.es c,(i:Int)≠by_∧oth (eAt g.es i) c∈s0.vis∧nmW s0.vis (oth (eAt g.es i) c)=lwW s v
 rel:∀ i∈T,∃ b:Nat,by_=b∧jV g.es b i
 good:∀ B∈N,gQ g.es B
 cn:∀ c∈D,RIn g.es (fun x=>x=v∨x∈D) v c
theorem aBx{V W:List Int}{x:Int}(h:x∈V):nmW (V++W) x=nmW V x:=by
 unfold nmW
 rw[if_pos (List.mem_append_left _ h),if_pos h,List.idxOf_append,if_pos h]
theorem aFJ{V W:List Int}{x:Int}(h:x∉V)(h2:x∈W):(V.length:Int)+1≤nmW (V++W) x:=by
 unfold nmW
 rw[if_pos (List.mem_append_right _ h2),List.idxOf_append,if_neg h]
 omega
theorem aJk{V:List Int}{x:Int}(h:x∈V):nmW V x<(V.length:Int)+1:=by
 unfold nmW
 rw[if_pos h]
 have:=List.idxOf_lt_length_of_mem h
 omega
theorem aBj{s:Bw}(hl:s.low.length=s.vis.length){v w x:Int}(hv:v∈s.vis)(hw:w∈s.vis):lwW (jX s v x) w=if w=v then x else lwW s w:=by
 unfold lwW jX
 have h1:=List.idxOf_lt_length_of_mem hv
 have h2:=List.idxOf_lt_length_of_mem hw
 simp only
 rw[aX _ _ (by rw[List.length_set];omega),List.getElem_set,aX _ _ (by omega)]
 by_cases e:w=v
 ·subst e;rw[if_pos rfl,if_pos rfl]
 ·rw[if_neg e,if_neg]
  intro k
  apply e
  have e1:=List.getElem_idxOf h1
  have e2:=List.getElem_idxOf h2
  rw[← e1,← e2]
  congr 1
  exact k.symm
theorem aKS{s:Bw}{v w:Int}(hl:s.low.length=s.vis.length)(hw:w∈s.vis):lwW (lK s v) w=lwW s w:=by
 unfold lwW lK
 have h2:=List.idxOf_lt_length_of_mem hw
 simp only
 rw[List.idxOf_append,if_pos hw,aX _ _ (by rw[List.length_append];omega),aX _ _ (by omega),List.getElem_append_left (by omega)]
theorem aJo{s:Bw}{v:Int}(hl:s.low.length=s.vis.length)(hv:v∉s.vis):lwW (lK s v) v=(s.vis.length:Int)+1:=by
 unfold lwW lK
 simp only
 rw[List.idxOf_append,if_neg hv,List.idxOf_cons_self,Nat.zero_add,aX _ _ (by rw[List.length_append];simp;omega),List.getElem_append_right (by omega)]
 simp[hl]
theorem sF{P R:List Nat}{i:Nat}(h:i∉R):fR (P++i::R) i=P.length:=by
 unfold fR
 rw[List.reverse_append,List.reverse_cons,List.append_assoc,List.idxOf_append,if_neg (by simpa using h)]
 simp
theorem gX{n:Nat}{S:List Nat}{i:Nat}:i∈oX n S↔i<n∧i∈S:=by
 unfold oX;rw[List.mem_filter,List.mem_range,decide_eq_true_iff]
theorem sJ(n:Nat)(S:List Nat):(oX n S).Pairwise (· < ·):=List.Pairwise.filter _ (List.pairwise_lt_range)
theorem rW{n:Nat}{S:List Nat}(hn:S.Nodup)(hl:∀ i∈S,i<n):(oX n S).Perm S:=
 (List.perm_ext_iff_of_nodup ((sJ n S).imp fun h=>Nat.ne_of_lt h) hn).2 fun i=>by rw[gX];exact⟨fun h=>h.2,fun h=>⟨hl i h,h⟩⟩
section
variable {g:Gr} (hg:GoodE g)
include hg
theorem aEk{i:Nat}{v:Int}(h:i∈atP g.es v):oth (eAt g.es i) v≠v:=aNj (hg.ne _ (uT (bC.1 h).1)) (bC.1 h).2
omit hg in
theorem tU.start{A:Int→Prop}{s:Bw}{v by_:Int}(h:tU g A s v by_):BLp g s v by_ [] (lK s v) [] [] [] where
 vis:=rfl
 nd:=by
  show(s.vis++[v]).Nodup
  rw[List.nodup_append]
  exact⟨h.nd,by simp,fun a ha b hb=>by rintro rfl;rw[List.mem_singleton]at hb;subst hb;exact h.new ha⟩
 ln:=by show(s.low++[_]).length=(s.vis++[v]).length;simp[h.ln]
 low:=fun w hw=>aKS h.ln hw
 qs:=fun i hi=>by cases hi
 cloQ:=fun i hi=>by cases hi
 cloD:=fun i hi=>by cases hi
 stk:=by show s.stk=s.stk++[];simp
 out:=by show s.out=s.out++[];simp
 pl:=fun i=>by simp
 pn:=by simp
 lw1:=by rw[aJo h.ln h.new];exact Int.le_refl _
 lwD:=fun i hi=>by cases hi
 lwQ:=fun i hi=>by cases hi
 lw3:=fun hl=>by rw[aJo h.ln h.new]at hl;omega
 rel:=fun i hi=>by cases hi
 good:=fun i hi=>by cases hi
 cn:=fun i hi=>by cases hi
theorem BLp.done{A:Int→Prop}{s0 s:Bw}{v by_:Int}{D:List Int}{T:List Nat}{N:List (List Nat)}(h0:tU g A s0 v by_)(h:BLp g s0 v by_ (atP g.es v) s D T N):aFW g s0 v by_ s (v::D) T N where
 vis:=h.vis
 hd:=by simp
 nd:=h.nd
 ln:=h.ln
 low:=h.low
 clo:=fun c hc i hi=>by
  rcases List.mem_cons.1 hc with rfl|hc
  ·exact h.cloQ i hi
  ·exact h.cloD c hc i hi
 stk:=h.stk
 out:=h.out
 pl:=fun i=>by
  rw[h.pl i]
  refine⟨fun⟨h1,h2,h3⟩=>⟨h1,h2,?_⟩,fun⟨h1,h2,h3⟩=>⟨h1,h2,?_⟩⟩
  ·rcases h3 with(h3|h3)|⟨h3,_⟩
   ·exact .inl (List.mem_cons_of_mem _ h3)
   ·exact .inr (List.mem_cons_of_mem _ h3)
   ·rcases(bC.1 h3).2 with e|e
    ·exact .inl (by rw[e];simp)
    ·exact .inr (by rw[e];simp)
  ·by_cases hv:(eAt g.es i).a=v∨(eAt g.es i).b=v
   ·have hi:i∈atP g.es v:=bC.2 ⟨h1,hv⟩
    have hq:=h.cloQ i hi
    rw[h.vis,List.mem_append,List.mem_cons]at hq
    rcases hq with hq|hq|hq
    ·exact .inr ⟨hi,hq⟩
    ·exact absurd hq (aEk hg hi)
    ·refine .inl ?_
     rcases vA (eAt g.es i) v with e|e
     ·exact .inl (by rw[e];exact hq)
     ·exact .inr (by rw[e];exact hq)
   ·refine .inl (h3.imp (fun k=>?_) (fun k=>?_))
    ·exact(List.mem_cons.1 k).resolve_left fun e=>hv (.inl e)
    ·exact(List.mem_cons.1 k).resolve_left fun e=>hv (.inr e)
 pn:=h.pn
 lw1:=h.lw1
 lw2:=fun c hc i hi hb ho=>by
  have ho2:=ho
  rw[List.mem_cons,not_or]at ho2
  rcases List.mem_cons.1 hc with rfl|hc
  ·refine h.lwQ i hi hb ?_
   have hq:=h.cloQ i hi
   rw[h.vis,List.mem_append]at hq
   exact hq.resolve_right ho
  ·exact h.lwD c hc i hi ho2.2 ho2.1
 lw3:=h.lw3
 rel:=h.rel
 good:=h.good
 cn:=fun c hc=>by
  rcases List.mem_cons.1 hc with rfl|hc
  ·exact .refl (by simp)
  ·exact(h.cn c hc).mono fun z hz=>List.mem_cons.2 hz
end
theorem uP{x:Ed}{L:List Int}{w:Int}(hw:w∈L)(he:x.a=w∨x.b=w)(ho:oth x w∈L):x.a∈L∧x.b∈L:=by
 have e1:=(fP he x.a).1 (.inl rfl)
 have e2:=(fP he x.b).1 (.inr rfl)
 exact⟨by rcases e1 with e|e<;>rw[e]<;>assumption,by rcases e2 with e|e<;>rw[e]<;>assumption⟩
section
variable {g:Gr} (hg:GoodE g) {A:Int→Prop} {s0 s:Bw} {v by_:Int} {Q:List Nat} {D:List Int} {T:List Nat} {N:List (List Nat)} (h0:tU g A s0 v by_) (h:BLp g s0 v by_ Q s D T N)
include hg h0 h
theorem BLp.v_in:v∈s.vis:=by rw[h.vis];simp
theorem BLp.old_in{w:Int}(hw:w∈s0.vis):w∈s.vis:=by rw[h.vis];exact List.mem_append_left _ hw
theorem BLp.d_in{w:Int}(hw:w∈D):w∈s.vis:=by rw[h.vis];simp[hw]
theorem BLp.by_out{b:Nat}(hb:by_=b):oth (eAt g.es b) v∈s0.vis∧b∈atP g.es v∧A (oth (eAt g.es b) v):=by
 rcases h0.par with⟨h1,_⟩|⟨i,h1,h2,h3⟩
 ·omega
 ·obtain rfl:i=b:=by omega
  exact⟨h0.act _ h3,h2,h3⟩
theorem BLp.d_new{d:Int}(hd:d∈D):d∉s0.vis∧d≠v:=by
 have hn:=h.nd
 rw[h.vis,List.nodup_append]at hn
 refine⟨fun k=>hn.2.2 d k d (List.mem_cons_of_mem _ hd) rfl,fun e=>?_⟩
 subst e
 exact(List.nodup_cons.1 hn.2.1).1 hd
theorem BLp.pl_in{j:Nat}(hj:j∈T++N.flatten):(eAt g.es j).a∈s.vis∧(eAt g.es j).b∈s.vis:=by
 obtain⟨h1,_,h3⟩:=(h.pl j).1 hj
 rcases h3 with(k|k)|⟨k,ho⟩
 ·exact uP (h.d_in hg h0 k) (.inl rfl) (h.cloD _ k j (bC.2 ⟨h1,.inl rfl⟩))
 ·exact uP (h.d_in hg h0 k) (.inr rfl) (h.cloD _ k j (bC.2 ⟨h1,.inr rfl⟩))
 ·exact uP (h.v_in hg h0) (bC.1 (h.qs j k)).2 (h.cloQ j k)
theorem BLp.back_act{c:Int}(hc:c∉s0.vis){i:Nat}(hi:i∈atP g.es c)(ho:oth (eAt g.es i) c∈s0.vis):A (oth (eAt g.es i) c):=
 Classical.byContradiction fun hA=>hc (by
  have:=h0.fin _ ho hA i (uU hi)
  rwa [nI (bC.1 hi).2]at this)
theorem BLp.same{i:Nat}(hi:i∈atP g.es v)(hb:(i:Int)=by_):BLp g s0 v by_ (Q++[i]) s D T N where
 vis:=h.vis
 nd:=h.nd
 ln:=h.ln
 low:=h.low
 qs:=fun j hj=>by rcases List.mem_append.1 hj with k|k;exact h.qs j k;rw[List.mem_singleton]at k;subst k;exact hi
 cloQ:=fun j hj=>by
  rcases List.mem_append.1 hj with k|k
  ·exact h.cloQ j k
  ·rw[List.mem_singleton]at k;subst k;exact h.old_in hg h0 (h.by_out hg h0 hb.symm).1
 cloD:=h.cloD
 stk:=h.stk
 out:=h.out
 pl:=fun j=>by
  rw[h.pl j,List.mem_append,List.mem_singleton]
  refine and_congr_right fun _=>and_congr_right fun hj=>or_congr_right ?_
  refine and_congr_left fun _=>⟨.inl,fun k=>k.resolve_right ?_⟩
  rintro rfl;exact hj hb
 pn:=h.pn
 lw1:=h.lw1
 lwD:=h.lwD
 lwQ:=fun j hj hjb=>by
  rcases List.mem_append.1 hj with k|k
  ·exact h.lwQ j k hjb
  ·rw[List.mem_singleton]at k;subst k;exact absurd hb hjb
 lw3:=h.lw3
 rel:=h.rel
 good:=h.good
 cn:=h.cn
theorem BLp.skip{i:Nat}(hi:i∈atP g.es v)(hin:oth (eAt g.es i) v∈s.vis)(hn:¬nmW s.vis (oth (eAt g.es i) v)<(s0.vis.length:Int)+1):BLp g s0 v by_ (Q++[i]) s D T N:=by
 have hout:oth (eAt g.es i) v∉s0.vis:=fun k=>hn (by rw[h.vis,aBx k];exact aJk k)
 exact {
 vis:=h.vis
 nd:=h.nd
 ln:=h.ln
 low:=h.low
 qs:=fun j hj=>by rcases List.mem_append.1 hj with k|k;exact h.qs j k;rw[List.mem_singleton]at k;subst k;exact hi
 cloQ:=fun j hj=>by
  rcases List.mem_append.1 hj with k|k
  ·exact h.cloQ j k
  ·rw[List.mem_singleton]at k;subst k;exact hin
 cloD:=h.cloD
 stk:=h.stk
 out:=h.out
 pl:=fun j=>by
  rw[h.pl j,List.mem_append,List.mem_singleton]
  refine and_congr_right fun _=>and_congr_right fun hj=>or_congr_right ?_
  refine⟨fun k=>⟨.inl k.1,k.2⟩,fun k=>⟨k.1.resolve_right ?_,k.2⟩⟩
  rintro rfl;exact hout k.2
 pn:=h.pn
 lw1:=h.lw1
 lwD:=h.lwD
 lwQ:=fun j hj hjb=>by
  rcases List.mem_append.1 hj with k|k
  ·exact h.lwQ j k hjb
  ·rw[List.mem_singleton]at k;subst k;exact fun k2=>absurd k2 hout
 lw3:=h.lw3
 rel:=h.rel
 good:=h.good
 cn:=h.cn }
theorem BLp.act_to{b:Nat}(hb:by_=b){a:Int}(ha:A a):RIn g.es (·≠v) a (oth (eAt g.es b) v):=
 (h0.con _ _ ha (h.by_out hg h0 hb).2.2).mono fun z hz e=>by subst e;exact h0.new (h0.act _ hz)
theorem BLp.no_root{a:Int}(ha:A a):∃ b:Nat,by_=b:=by
 rcases h0.par with⟨_,h2⟩|⟨b,h2,_⟩
 ·exact absurd ha (h2 a)
 ·exact⟨b,h2⟩
theorem BLp.back{i:Nat}(hi:i∈atP g.es v)(hiQ:i∉Q)(hib:(i:Int)≠by_)(hin:oth (eAt g.es i) v∈s.vis)(hn:nmW s.vis (oth (eAt g.es i) v)<(s0.vis.length:Int)+1):
 BLp g s0 v by_ (Q++[i]) (jX (cZ s i) v (min (lwW s v) (nmW s.vis (oth (eAt g.es i) v)))) D (T++[i]) N:=by
 have hold:oth (eAt g.es i) v∈s0.vis:=Classical.byContradiction fun k=>by
  have h1:=hin
  rw[h.vis,List.mem_append]at h1
  have:=aFJ k (h1.resolve_left k)
  rw[h.vis]at hn
  omega
 have hA:=h.back_act hg h0 h0.new hi hold
 have hvs:=h.v_in hg h0
 have hnm:nmW s.vis (oth (eAt g.es i) v)=nmW s0.vis (oth (eAt g.es i) v):=by rw[h.vis,aBx hold]
 have hlw:∀ w∈s.vis,∀ x,lwW (jX (cZ s i) v x) w=if w=v then x else lwW s w:=fun w hw x=>aBj (s:=cZ s i) h.ln hvs hw
 have hnew:i∉T++N.flatten:=fun k=>by
  obtain⟨_,_,h3⟩:=(h.pl i).1 k
  rcases h3 with(k2|k2)|⟨k2,_⟩
  ·rcases(fP (bC.1 hi).2 _).1 (.inl rfl)with e|e
   ·rw[e]at k2;exact(h.d_new hg h0 k2).2 rfl
   ·rw[e]at k2;exact(h.d_new hg h0 k2).1 hold
  ·rcases(fP (bC.1 hi).2 _).1 (.inr rfl)with e|e
   ·rw[e]at k2;exact(h.d_new hg h0 k2).2 rfl
   ·rw[e]at k2;exact(h.d_new hg h0 k2).1 hold
  ·exact hiQ k2
 exact {
 vis:=h.vis
 nd:=h.nd
 ln:=by show(s.low.set _ _).length=_;rw[List.length_set];exact h.ln
 low:=fun w hw=>by rw[hlw w (h.old_in hg h0 hw),if_neg (fun e=>h0.new (by rw[← e];exact hw))];exact h.low w hw
 qs:=fun j hj=>by rcases List.mem_append.1 hj with k|k;exact h.qs j k;rw[List.mem_singleton]at k;subst k;exact hi
 cloQ:=fun j hj=>by
  rcases List.mem_append.1 hj with k|k
  ·exact h.cloQ j k
  ·rw[List.mem_singleton]at k;subst k;exact hin
 cloD:=h.cloD
 stk:=by show s.stk++[i]=_;rw[h.stk,List.append_assoc]
 out:=h.out
 pl:=fun j=>by
  rw[List.append_assoc,List.mem_append,List.mem_append,or_left_comm,← List.mem_append,h.pl j,List.mem_singleton,List.mem_append,List.mem_singleton]
  constructor
  ·rintro(rfl|⟨k1,k2,k3⟩)
   ·exact⟨(bC.1 hi).1,hib,.inr ⟨.inr rfl,hold⟩⟩
   ·exact⟨k1,k2,k3.imp_right fun k=>⟨.inl k.1,k.2⟩⟩
  ·rintro⟨k1,k2,k3|⟨k3|k3,k4⟩⟩
   ·exact .inr ⟨k1,k2,.inl k3⟩
   ·exact .inr ⟨k1,k2,.inr ⟨k3,k4⟩⟩
   ·exact .inl k3
 pn:=by
  rw[List.append_assoc]
  refine((List.perm_middle (a:=i) (l₁:=T) (l₂:=N.flatten)).nodup_iff).2 ?_
  exact List.nodup_cons.2 ⟨hnew,h.pn⟩
 lw1:=by rw[hlw v hvs,if_pos rfl];have:=h.lw1;omega
 lwD:=fun c hc j hj h1 h2=>by rw[hlw v hvs,if_pos rfl];have:=h.lwD c hc j hj h1 h2;omega
 lwQ:=fun j hj hjb ho=>by
  rw[hlw v hvs,if_pos rfl]
  rcases List.mem_append.1 hj with k|k
  ·have:=h.lwQ j k hjb ho;omega
  ·rw[List.mem_singleton]at k;subst k;omega
 lw3:=fun hl=>by
  rw[hlw v hvs,if_pos rfl]at hl ⊢
  by_cases hmin:lwW s v≤nmW s.vis (oth (eAt g.es i) v)
  ·rw[Int.min_eq_left hmin]at hl ⊢
   exact h.lw3 hl
  ·rw[Int.min_eq_right (by omega)]at hl ⊢
   exact⟨v,by simp,i,hi,hib,hold,hnm.symm⟩
 rel:=fun j hj=>by
  rcases List.mem_append.1 hj with k|k
  ·exact h.rel j k
  ·rw[List.mem_singleton]at k;subst k
   obtain⟨b,hb⟩:=h.no_root hg h0 hA
   obtain⟨_,b2,_⟩:=h.by_out hg h0 hb
   exact⟨b,hb,.step .refl (bC.1 b2).1 (bC.1 hi).1 ⟨v,(bC.1 b2).2,(bC.1 hi).2,(h.act_to hg h0 hb hA).symm⟩⟩
 good:=h.good
 cn:=h.cn }
end
section
variable {g:Gr} (hg:GoodE g) {A:Int→Prop} {s0 s:Bw} {v by_:Int} {Q:List Nat} {D:List Int} {T:List Nat} {N:List (List Nat)} (h0:tU g A s0 v by_) (h:BLp g s0 v by_ Q s D T N)
include hg h0 h
theorem BLp.pre{i:Nat}(hi:i∈atP g.es v)(hout:oth (eAt g.es i) v∉s.vis):tU g (fun a=>A a∨a=v) (cZ s i) (oth (eAt g.es i) v) i where
 ln:=h.ln
 nd:=h.nd
 act:=fun a ha=>by
  rcases ha with ha|e
  ·exact h.old_in hg h0 (h0.act _ ha)
  ·show a∈s.vis;rw[e];exact h.v_in hg h0
 fin:=fun w hw hA j hj=>by
  have hw2:w∈s.vis:=hw
  show oth (eAt g.es j) w∈s.vis
  rw[h.vis,List.mem_append,List.mem_cons]at hw2
  rcases hw2 with k|k|k
  ·exact h.old_in hg h0 (h0.fin w k (fun x=>hA (.inl x)) j hj)
  ·exact absurd (.inr k) hA
  ·exact h.cloD w k j hj
 new:=hout
 con:=by
  have up:∀ a b,A a→A b→RIn g.es (fun a=>A a∨a=v) a b:=fun a b ha hb=>(h0.con a b ha hb).mono fun z hz=>.inl hz
  have tov:∀ a,A a→RIn g.es (fun a=>A a∨a=v) a v:=fun a ha=>by
   obtain⟨b,hb⟩:=h.no_root hg h0 ha
   obtain⟨_,b2,b3⟩:=h.by_out hg h0 hb
   exact .step (up a _ ha b3) (aDx (pQ b2)) (.inr rfl)
  rintro a b (ha|rfl) (hb|rfl)
  ·exact up a b ha hb
  ·exact tov a ha
  ·exact(tov b hb).symm
  ·exact .refl (.inr rfl)
 par:=.inr ⟨i,rfl,uU hi,.inr (nI (bC.1 hi).2)⟩
theorem BLp.child{i:Nat}(hi:i∈atP g.es v)(hiQ:i∉Q)(hib:(i:Int)≠by_)(hout:oth (eAt g.es i) v∉s.vis){s1:Bw}{C:List Int}{T':List Nat}{N':List (List Nat)}
 (hp:aFW g (cZ s i) (oth (eAt g.es i) v) i s1 C T' N'):∃ s2 D2 T2 N2,aGh g.es.length v ((s0.vis.length:Int)+1) i (oth (eAt g.es i) v) s1=some s2∧BLp g s0 v by_ (Q++[i]) s2 D2 T2 N2:=by
 obtain⟨u,hu⟩:∃ u,u=oth (eAt g.es i) v:=⟨_,rfl⟩
 have hvs:=h.v_in hg h0
 have hvis:s1.vis=s.vis++C:=hp.vis
 have hvis2:s1.vis=s0.vis++v::(D++C):=by rw[hvis,h.vis,List.append_assoc];rfl
 have hv1:v∈s1.vis:=by rw[hvis];exact List.mem_append_left _ hvs
 have hcn:∀ c∈C,c∉s.vis:=fun c hc k=>by
  have:=hp.nd
  rw[hvis,List.nodup_append]at this
  exact this.2.2 c k c hc rfl
 have hend:(eAt g.es i).a=v∨(eAt g.es i).b=v:=(bC.1 hi).2
 have hil:=(bC.1 hi).1
 have huC:u∈C:=by rw[hu];exact hp.hd
 have hu1:u∈s1.vis:=by rw[hvis];exact List.mem_append_right _ huC
 have huv:u≠v:=by rw[hu];exact aEk hg hi
 have hlen:s.vis.length=s0.vis.length+1+D.length:=by rw[h.vis,List.length_append,List.length_cons];omega
 have hlv:lwW s1 v=lwW s v:=hp.low v hvs
 -- ends
 have inS:∀ {j:Nat},j∈T++N.flatten→¬((eAt g.es j).a∈C∨(eAt g.es j).b∈C):=fun hj k=>by
  have:=h.pl_in hg h0 hj
  rcases k with k|k
  ·exact hcn _ k this.1
  ·exact hcn _ k this.2
 have byC:∀ b:Nat,by_=b→¬((eAt g.es b).a∈C∨(eAt g.es b).b∈C):=fun b hb k=>by
  obtain⟨b1,b2,_⟩:=h.by_out hg h0 hb
  have:=uP hvs (bC.1 b2).2 (h.old_in hg h0 b1)
  rcases k with k|k
  ·exact hcn _ k this.1
  ·exact hcn _ k this.2
 have iC:(eAt g.es i).a∈C∨(eAt g.es i).b∈C:=by
  rcases vA (eAt g.es i) v with e|e
  ·exact .inl (by rw[e,← hu];exact huC)
  ·exact .inr (by rw[e,← hu];exact huC)
 have iT':i∉T'++N'.flatten:=fun k=>((hp.pl i).1 k).2.1 rfl
 -- the places that are new
 have hnew:∀ j,(j=i∨j∈T'++N'.flatten)↔j<g.es.length∧((eAt g.es j).a∈C∨(eAt g.es j).b∈C):=fun j=>by
  rw[hp.pl j]
  constructor
  ·rintro(rfl|⟨k1,_,k3⟩)
   ·exact⟨hil,iC⟩
   ·exact⟨k1,k3⟩
  ·rintro⟨k1,k3⟩
   by_cases e:j=i
   ·exact .inl e
   ·exact .inr ⟨k1,fun k=>e (by omega),k3⟩
 have hpl:∀ j,(j∈T++N.flatten∨(j=i∨j∈T'++N'.flatten))↔j<g.es.length∧(j:Int)≠by_∧(((eAt g.es j).a∈D++C∨(eAt g.es j).b∈D++C)∨(j∈Q++[i]∧oth (eAt g.es j) v∈s0.vis)):=fun j=>by
  rw[h.pl j,hnew j]
  simp only[List.mem_append,List.mem_singleton]
  constructor
  ·rintro(⟨k1,k2,(k3|k3)|⟨k3,k4⟩⟩|⟨k1,k3⟩)
   ·exact⟨k1,k2,.inl (.inl (.inl k3))⟩
   ·exact⟨k1,k2,.inl (.inr (.inl k3))⟩
   ·exact⟨k1,k2,.inr ⟨.inl k3,k4⟩⟩
   ·exact⟨k1,fun e=>byC j e.symm k3,.inl (k3.imp .inr .inr)⟩
  ·rintro⟨k1,k2,((k3|k3)|(k3|k3))|⟨k3|k3,k4⟩⟩
   ·exact .inl ⟨k1,k2,.inl (.inl k3)⟩
   ·exact .inr ⟨k1,.inl k3⟩
   ·exact .inl ⟨k1,k2,.inl (.inr k3)⟩
   ·exact .inr ⟨k1,.inr k3⟩
   ·exact .inl ⟨k1,k2,.inr ⟨k3,k4⟩⟩
   ·subst k3;exact absurd (h.old_in hg h0 k4) hout
 have hnd:((T++N.flatten)++i::(T'++N'.flatten)).Nodup:=by
  rw[List.nodup_append]
  refine⟨h.pn,List.nodup_cons.2 ⟨iT',hp.pn⟩,fun a ha b hb=>?_⟩
  rintro rfl
  exact inS ha ((hnew a).1 (List.mem_cons.1 hb)).2
 -- low numbers
 have hset:∀ x,∀ w∈s1.vis,lwW (jX s1 v x) w=if w=v then x else lwW s1 w:=fun x w hw=>aBj hp.ln hv1 hw
 have hold1:∀ w∈s0.vis,w≠v:=fun w hw e=>h0.new (by rw[← e];exact hw)
 have nm0:∀ w∈s0.vis,nmW s.vis w=nmW s0.vis w:=fun w hw=>by rw[h.vis,aBx hw]
 have wit:lwW s1 u<(s0.vis.length:Int)+1→∃ c∈C,∃ j∈atP g.es c,j≠i∧oth (eAt g.es j) c∈s0.vis∧nmW s0.vis (oth (eAt g.es j) c)=lwW s1 u:=fun hl=>by
  have hl2:lwW s1 u<((cZ s i).vis.length:Int)+1:=by show _<(s.vis.length:Int)+1;omega
  rw[hu]at hl2
  obtain⟨c,hc,j,hj,hji,ho,he⟩:=hp.lw3 hl2
  have he:nmW s.vis (oth (eAt g.es j) c)=lwW s1 u:=by rw[hu];exact he
  have hin:oth (eAt g.es j) c∈s.vis:=ho
  have h1:oth (eAt g.es j) c∈s0.vis:=Classical.byContradiction fun k=>by
   have h2:=hin
   rw[h.vis,List.mem_append]at h2
   have:=aFJ k (h2.resolve_left k)
   rw[← h.vis]at this
   omega
  exact⟨c,hc,j,hj,fun e=>hji (by omega),h1,by rw[← nm0 _ h1];exact he⟩
 have base:∀(s2:Bw) (T2:List Nat) (N2:List (List Nat)),s2.vis=s1.vis→s2.low=(jX s1 v (min (lwW s1 v) (lwW s1 u))).low→s2.stk=s0.stk++T2→s2.out=s0.out++N2→
  (T2++N2.flatten).Perm ((T++N.flatten)++i::(T'++N'.flatten))→(∀ j∈T2,∃ b:Nat,by_=b∧jV g.es b j)→(∀ B∈N2,gQ g.es B)→BLp g s0 v by_ (Q++[i]) s2 (D++C) T2 N2:=fun s2 T2 N2 e1 e2 e3 e4 hperm hrel hgood=>by
  have hlw:∀ w∈s1.vis,lwW s2 w=if w=v then min (lwW s1 v) (lwW s1 u)else lwW s1 w:=fun w hw=>by
   rw[← hset _ w hw];unfold lwW;rw[e1,e2];rfl
  exact {
  vis:=by rw[e1,hvis2]
  nd:=by rw[e1];exact hp.nd
  ln:=by rw[e1,e2];show(s1.low.set _ _).length=_;rw[List.length_set];exact hp.ln
  low:=fun w hw=>by
   have hw1:=h.old_in hg h0 hw
   rw[hlw w (by rw[hvis];exact List.mem_append_left _ hw1),if_neg (hold1 w hw),hp.low w hw1]
   exact h.low w hw
  qs:=fun j hj=>by rcases List.mem_append.1 hj with k|k;exact h.qs j k;rw[List.mem_singleton]at k;subst k;exact hi
  cloQ:=fun j hj=>by
   rw[e1]
   rcases List.mem_append.1 hj with k|k
   ·rw[hvis];exact List.mem_append_left _ (h.cloQ j k)
   ·rw[List.mem_singleton]at k;subst k;rw[← hu];exact hu1
  cloD:=fun c hc j hj=>by
   rw[e1]
   rcases List.mem_append.1 hc with k|k
   ·rw[hvis];exact List.mem_append_left _ (h.cloD c k j hj)
   ·exact hp.clo c k j hj
  stk:=e3
  out:=e4
  pl:=fun j=>by rw[hperm.mem_iff,← hpl j,List.mem_append,List.mem_cons]
  pn:=hperm.nodup_iff.2 hnd
  lw1:=by rw[hlw v hv1,if_pos rfl,hlv];have:=h.lw1;omega
  lwD:=fun c hc j hj h1 h2=>by
   rw[hlw v hv1,if_pos rfl,hlv]
   rw[List.mem_append,not_or]at h1
   rcases List.mem_append.1 hc with k|k
   ·have:=h.lwD c k j hj h1.1 h2;omega
   ·have hji:(j:Int)≠i:=fun e=>by
     obtain rfl:j=i:=by omega
     rcases(fP hend c).1 (bC.1 hj).2 with e|e
     ·subst e;exact hcn _ k hvs
     ·exact h2 (by rw[e];exact nI hend)
    have h3:=hp.lw2 c k j hj hji h1.2
    have h4:lwW s1 u≤nmW s.vis (oth (eAt g.es j) c):=by rw[hu];exact h3
    have hin:=hp.clo c k j hj
    rw[hvis2,List.mem_append,List.mem_cons,List.mem_append]at hin
    have hin:=hin.resolve_right fun x=>by rcases x with x|x|x;exact h2 x;exact h1.1 x;exact h1.2 x
    rw[nm0 _ hin]at h4
    omega
  lwQ:=fun j hj hjb ho=>by
   rw[hlw v hv1,if_pos rfl,hlv]
   rcases List.mem_append.1 hj with k|k
   ·have:=h.lwQ j k hjb ho;omega
   ·rw[List.mem_singleton]at k;subst k;exact absurd (h.old_in hg h0 ho) hout
  lw3:=fun hl=>by
   rw[hlw v hv1,if_pos rfl]at hl ⊢
   by_cases hmin:lwW s1 v≤lwW s1 u
   ·rw[Int.min_eq_left hmin,hlv]at hl ⊢
    obtain⟨c,hc,j,hj,hjb,ho,he⟩:=h.lw3 hl
    exact⟨c,by rcases List.mem_cons.1 hc with k|k<;>simp[k],j,hj,hjb,ho,he⟩
   ·rw[Int.min_eq_right (by omega)]at hl ⊢
    obtain⟨c,hc,j,hj,hji,ho,he⟩:=wit hl
    refine⟨c,by simp[hc],j,hj,fun e=>byC j e.symm ?_,ho,he⟩
    rcases(bC.1 hj).2 with x|x
    ·exact .inl (by rw[x];exact hc)
    ·exact .inr (by rw[x];exact hc)
  rel:=hrel
  good:=hgood
  cn:=fun c hc=>by
   rcases List.mem_append.1 hc with k|k
   ·exact(h.cn c k).mono fun z hz=>hz.imp_right fun x=>List.mem_append_left _ x
   ·have h1:=(hp.cn c k).mono (S':=fun x=>x=v∨x∈D++C) fun z hz=>.inr (List.mem_append_right _ hz)
    exact(RIn.step (.refl (.inl rfl)) (pQ hi) (.inr (List.mem_append_right _ (by rw[← hu];exact huC)))).trans h1 }
 rw[← hu]
 unfold aGh
 by_cases hc:(s0.vis.length:Int)+1≤lwW s1 u
 ·rw[if_pos hc]
  have hstk:s1.stk=(s0.stk++T)++i::T':=by rw[hp.stk];show(s.stk++[i])++T'=_;rw[h.stk];simp
  have hiT:i∉T':=fun k=>iT' (List.mem_append_left _ k)
  have hlp:fR s1.stk i=(s0.stk++T).length:=by rw[hstk];exact sF hiT
  have hSn:(i::T').Nodup:=List.nodup_cons.2 ⟨hiT,(List.nodup_append.1 hp.pn).1⟩
  have hSl:∀ j∈i::T',j<g.es.length:=fun j hj=>by
   have:j=i∨j∈T'++N'.flatten:=(List.mem_cons.1 hj).imp_right fun k=>List.mem_append_left _ k
   exact((hnew j).1 this).1
  have hbp:=rW hSn hSl
  have hrelS:∀ j∈i::T',jV g.es i j:=fun j hj=>by
   rcases List.mem_cons.1 hj with e|k
   ·rw[e];exact .refl
   ·obtain⟨b,hb,hr⟩:=hp.rel j k
    obtain rfl:i=b:=by omega
    exact hr
  -- all that stays behind v
  have hlu:∀ c∈C,∀ j∈atP g.es c,oth (eAt g.es j) c∈C∨oth (eAt g.es j) c=v:=fun c hcC j hj=>by
   by_cases e1:oth (eAt g.es j) c∈C
   ·exact .inl e1
   refine .inr (Classical.byContradiction fun e2=>?_)
   by_cases hji:(j:Int)=i
   ·obtain rfl:j=i:=by omega
    rcases(fP hend c).1 (bC.1 hj).2 with e|e
    ·subst e;exact hcn _ hcC hvs
    ·exact e2 (by rw[e];exact nI hend)
   ·have h3:=hp.lw2 c hcC j hj hji e1
    have h4:lwW s1 u≤nmW s.vis (oth (eAt g.es j) c):=by rw[hu];exact h3
    have hin:=hp.clo c hcC j hj
    rw[hvis]at hin
    have hin:=(List.mem_append.1 hin).resolve_right e1
    have hold:oth (eAt g.es j) c∈s0.vis∨oth (eAt g.es j) c∈D:=by
     rw[h.vis,List.mem_append,List.mem_cons]at hin
     rcases hin with k|k|k
     ·exact .inl k
     ·exact absurd k e2
     ·exact .inr k
    rcases hold with k|k
    ·rw[nm0 _ k]at h4
     have:=aJk k
     omega
    ·have:=h.cloD _ k j (uU hj)
     rw[nI (bC.1 hj).2]at this
     exact hcn _ hcC this
  have hgood:gQ g.es (oX g.es.length (i::T')):={
   ne:=fun e=>by
    have:i∈oX g.es.length (i::T'):=gX.2 ⟨hil,by simp⟩
    rw[e]at this;cases this
   rise:=sJ _ _
   lt:=fun j hj=>(gX.1 hj).1
   rel:=fun j hj k hk=>(hrelS j (gX.1 hj).2).symm.trans (hrelS k (gX.1 hk).2)
   all:=fun j hj k hk hr=>by
    have hjS:=(gX.1 hj).2
    have hjC:=((hnew j).1 ((List.mem_cons.1 hjS).imp_right fun x=>List.mem_append_left _ x)).2
    -- k ends behind v, too
    have hkC:(eAt g.es k).a∈C∨(eAt g.es k).b∈C:=by
     obtain⟨w,w1,w2,w3⟩:=hr
     have hjw:j∈atP g.es w:=bC.2 ⟨hSl j hjS,w1⟩
     have hkw:k∈atP g.es w:=bC.2 ⟨hk,w2⟩
     by_cases hwC:w∈C
     ·rcases w2 with e|e
      ·exact .inl (by rw[e];exact hwC)
      ·exact .inr (by rw[e];exact hwC)
     have hoC:oth (eAt g.es j) w∈C:=by
      rcases hjC with x|x
      ·rcases(fP w1 _).1 (.inl rfl)with e|e
       ·exact absurd (by rw[← e];exact x) hwC
       ·rw[← e];exact x
      ·rcases(fP w1 _).1 (.inr rfl)with e|e
       ·exact absurd (by rw[← e];exact x) hwC
       ·rw[← e];exact x
     have hwv:w=v:=by
      have:=hlu _ hoC j (uU hjw)
      rw[nI w1]at this
      exact this.resolve_left hwC
     subst hwv
     have hq:oth (eAt g.es k) w∈C:=w3.closed (L:=(·∈C)) hoC fun z hz x hx hne=>by
      obtain⟨l,hl,rfl⟩:=aLY hx
      exact(hlu z hz l hl).resolve_right hne
     rcases vA (eAt g.es k) w with e|e
     ·exact .inl (by rw[e];exact hq)
     ·exact .inr (by rw[e];exact hq)
    refine gX.2 ⟨hk,?_⟩
    rcases(hnew k).2 ⟨hk,hkC⟩with e|e
    ·rw[e];simp
    ·rcases List.mem_append.1 e with e|e
     ·exact List.mem_cons_of_mem _ e
     ·obtain⟨B,hB,hkB⟩:=List.mem_flatten.1 e
      have hjB:=(hp.good B hB).all k hkB j (hSl j hjS) hr.symm
      have hjN:j∈N'.flatten:=List.mem_flatten.2 ⟨B,hB,hjB⟩
      exfalso
      rcases List.mem_cons.1 hjS with e|e
      ·exact iT' (by rw[← e];exact List.mem_append_right _ hjN)
      ·exact(List.nodup_append.1 hp.pn).2.2 j e j hjN rfl }
  have hcut:aCT g.es.length (jX s1 v (min (lwW s1 v) (lwW s1 u))) i=some { jX s1 v (min (lwW s1 v) (lwW s1 u))with stk:=s0.stk++T,out:=s0.out++(N++N'++[oX g.es.length (i::T')]) }:=by
   unfold aCT
   have e1:(jX s1 v (min (lwW s1 v) (lwW s1 u))).stk=s1.stk:=rfl
   have e2:(jX s1 v (min (lwW s1 v) (lwW s1 u))).out=s1.out:=rfl
   rw[e1,e2,hlp,if_pos (by rw[hstk];simp),hstk,List.take_left,List.drop_left,hp.out]
   show some _=some _
   have:(cZ s i).out=s0.out++N:=h.out
   rw[this]
   simp only[List.append_assoc]
  refine⟨_,D++C,T,N++N'++[oX g.es.length (i::T')],hcut,base _ _ _ rfl rfl rfl rfl ?_ h.rel ?_⟩
  ·simp only[List.flatten_append,List.flatten_cons,List.flatten_nil,List.append_nil,List.append_assoc]
   refine List.Perm.append_left _ (List.Perm.append_left _ ?_)
   refine List.perm_append_comm.trans ?_
   exact(hbp.append_right _)
  ·intro B hB
   rcases List.mem_append.1 hB with hB|hB
   ·rcases List.mem_append.1 hB with hB|hB
    ·exact h.good B hB
    ·exact hp.good B hB
   ·rw[List.mem_singleton]at hB;rw[hB];exact hgood
 ·rw[if_neg hc]
  have hl:lwW s1 u<(s0.vis.length:Int)+1:=by omega
  obtain⟨c,hcC,j,hj,hji,ho,he⟩:=wit hl
  have hA:=h.back_act hg h0 (c:=c) (fun k=>hcn c hcC (h.old_in hg h0 k)) hj ho
  obtain⟨b,hb⟩:=h.no_root hg h0 hA
  obtain⟨_,b2,_⟩:=h.by_out hg h0 hb
  have hbi:jV g.es b i:=by
   refine .step .refl (bC.1 b2).1 hil ⟨v,(bC.1 b2).2,hend,?_⟩
   refine(((hp.cn c hcC).mono fun z hz=>?_).trans (.step (.refl ?_) (pQ hj) ?_) |>.trans (h.act_to hg h0 hb hA)).symm
   ·intro e;subst e;exact hcn _ hz hvs
   ·intro e;subst e;exact hcn _ hcC hvs
   ·exact hold1 _ ho
  refine⟨_,D++C,T++(i::T'),N++N',rfl,base _ _ _ rfl rfl ?_ ?_ ?_ ?_ ?_⟩
  ·show s1.stk=_
   rw[hp.stk];show(s.stk++[i])++T'=_;rw[h.stk];simp
  ·show s1.out=_
   rw[hp.out];show s.out++N'=_;rw[h.out];simp
  ·simp only[List.flatten_append,List.append_assoc,List.cons_append]
   refine List.Perm.append_left _ ?_
   have:(i::(T'++(N.flatten++N'.flatten))).Perm (N.flatten++(i::(T'++N'.flatten))):=by
    refine List.Perm.trans ?_ List.perm_middle.symm
    refine List.Perm.cons _ ?_
    rw[← List.append_assoc,← List.append_assoc]
    exact List.Perm.append_right _ List.perm_append_comm
   exact this
  ·intro k hk
   rcases List.mem_append.1 hk with hk|hk
   ·exact h.rel k hk
   ·refine⟨b,hb,hbi.trans ?_⟩
    rcases List.mem_cons.1 hk with e|e
    ·rw[e];exact .refl
    ·obtain⟨b',hb',hr⟩:=hp.rel k e
     obtain rfl:i=b':=by omega
     exact hr
  ·intro B hB
   rcases List.mem_append.1 hB with hB|hB
   ·exact h.good B hB
   ·exact hp.good B hB
end
end Go.Proofs.YtempldclppogmaaGreatDoor.Aw
