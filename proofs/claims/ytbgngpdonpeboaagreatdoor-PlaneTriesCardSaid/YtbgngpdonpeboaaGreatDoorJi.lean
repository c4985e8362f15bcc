/- maps.Keys at two types, and slices.AppendSeq, Collect over them. (After the kit's worked texts on maps.Keys and on a loop that collects; written by genkeys.py.) -/
import Derived.Test.YtbgngpdonpeboaaGreatDoorJh
import Derived.Test.YtbgngpdonpeboaaGreatDoorAwMr2
import Derived.RangeFuncSeq
import Derived.Maps.RangeWalk
import Derived.Test.YtbgngpdonpeboaaGreatDoorAwRg
import Derived.Test.YtbgngpdonpeboaaGreatDoorAwGo
set_option linter.unusedVariables false
set_option linter.unusedSimpArgs false
set_option maxHeartbeats 2000000
open Go.Proofs.Tryz
namespace Go.Proofs.YtbgngpdonpeboaaGreatDoor
namespace Rg
open Go Go.RowKit Go.Shelf
open Go.ChangeMaps (setBlock)
attribute [local go_sem] Oper.semAt_some
section
variable {F:Fence} {n:Nat} {P:Program} (w:World) {ops:Array Oper} {rest:List Oper} {o:Oper} {a:Act} {Q:Exit->Act->World->Prop}
theorem pH(hg:o.guard=none)(m:Operand)(t k e:TypeId)(hop:o.op=Op.range t m)(ht:P.underlying t=some (.map k e))(b:Nat)(cO:Array MapEntry)(clock:Nat)(hm:a.eval m=.map (some b))(hb:w.heap[b]?=some (.map cO clock))
 (hK:∀ w',w'=w.alloc (.mapIter (some b) clock #[] clock)->wpListIn F n P ops Q rest (a.put o.dst (.pointer (some ⟨w.heap.size,0,none⟩))) w'):wpListIn F n P ops Q (o::rest) a w:=by
 refine wpListIn_plain hg fun K' hK'=>?_;have o9:=run_range_map (P:=P) w t k e b cO clock ht hb;unfold Oper.wpIn;refine⟨?_,?_⟩
 .grind [Oper.about]
 .rw[Oper.semAt_plain F _ _ (by grind)];simp[execOp,hop,hm,o9,Result.andThen];exact hK' _ _ (hK _ rfl)
theorem pQ(hg:o.guard=none)(it:Operand)(hop:o.op=Op.next it false)(r b clock c:Nat)(seen:Array Nat)(cO:Array MapEntry)(hit:a.eval it=.pointer (some ⟨r,0,none⟩))(hi:w.heap[r]?=some (.mapIter (some b) clock seen c))(hb:w.heap[b]?=some (.map cO clock))
 (T5:∀ x∈cO.toList,x.born<clock) (hnd:(cO.toList.map (·.born)).Nodup) (hc:clock<=c)
 (hDone:(∀ x∈cO.toList,seen.contains x.born=true)->wpListIn F n P ops Q rest (a.put o.dst (.tuple #[.bool false])) w)
 (hMore:∀(e:MapEntry) (w1 w2:World),e∈cO.toList->seen.contains e.born=false->(w1=w\/w1=w.drew)->w2=setBlock w1 r (.mapIter (some b) clock (seen.push e.born) clock)->(Instr.entry (.pointer (some ⟨r,0,none⟩))).run P w2=.ok (.tuple #[e.key,e.val]) w2->wpListIn F n P ops Q rest (a.put o.dst (.tuple #[.bool true,e.key,e.val])) w2):
 wpListIn F n P ops Q (o::rest) a w:=by
 refine wpListIn_plain hg fun K' hK'=>?_;unfold Oper.wpIn;refine⟨by grind [Oper.about],?_⟩;rw[Oper.semAt_plain F _ _ (by grind)];rcases run_next_at (P:=P) w o.type r b clock c seen cO clock hi hb T5 hc with⟨h0,o9⟩|⟨e,he',w1,R6,o9⟩
 .simp[execOp,hop,hit,o9,Result.andThen];exact hK' _ _ (hDone fun x hx=>all_seen cO seen h0 x hx)
 .obtain⟨Z8,he2⟩:=mem_left he';have lr:=(aAJ.1 hi).1;have hbr:b≠r:=by rintro rfl;rw[hb]at hi;cases hi
  have hh:w1.heap=w.heap:=by rcases R6 with rfl|rfl<;>rfl
  have hE:=run_entry_at (P:=P) (setBlock w1 r (.mapIter (some b) clock (seen.push e.born) clock)) r b clock seen cO clock e
   (by grind [setBlock]) (by grind [setBlock]) Z8 hnd
  simp[execOp,hop,hit,o9,Result.andThen];exact hK' _ _ (hMore e w1 _ Z8 he2 R6 rfl hE)
end
theorem EH(w w1:World)(h:w1=w\/w1=w.drew)(r:Nat)(o:Obj):w.grownBy (setBlock w1 r o) (some r):=by
 have hh:w1.heap=w.heap:=by rcases h with rfl|rfl<;>rfl
 have hos:w1.os=w.os/\w1.tape=w.tape/\w1.output=w.output:=by rcases h with rfl|rfl<;>exact⟨rfl,rfl,rfl⟩
 refine⟨hos.1,hos.2.1,hos.2.2,by grind [setBlock],fun b hb c7=>?_⟩
 grind [setBlock]
def uR(vs:List Int)(cO:List MapEntry)(seen:Array Nat):List Int:=(Aw.lft (vs.map fun v=>([v],.dead)) cO seen).map fun e=>e.1.headD 0
theorem BR{vs:List Int}{cO:List MapEntry}(h:vs.length=cO.length):uR vs cO #[]=vs:=by unfold uR;rw[Aw.xB (by grind),aAW];exact(aAQ fun v _=>rfl).trans (aEM vs)
theorem EG{vs:List Int}{cO:List MapEntry}{seen:Array Nat}{e:MapEntry}(h:vs.length=cO.length)(N8:cO.map (·.key)=vs.map (Value.int .u32))(hn:(cO.map (·.born)).Nodup)(he:e∈cO)(hs:seen.contains e.born=false):
 ∃ x L1 L2,e.key=.int .u32 x/\uR vs cO seen=L1++x::L2/\uR vs cO (seen.push e.born)=L1++L2:=by
 obtain⟨p,L1,L2,h1,h2,h3⟩:=Aw.HU (es:=vs.map fun v=>(([v],.dead):List Int×Aw.LV)) (by grind) hn he hs;have hz:∀ q∈(vs.map fun v=>(([v],.dead):List Int×Aw.LV)).zip cO,∃ x,q.1=([x],.dead)/\q.2.key=.int .u32 x:=by intro q hq;obtain⟨j,hj,rfl⟩:=aEA.1 hq;simp only[aEh,aAD]at hj;rw[aDF,aCy];refine⟨vs[j],rfl,?_⟩;have:=congrArg (fun l=>l[j]?) N8;simp only[aCm,aAh (show j<cO.length by omega),aAh (show j<vs.length by omega),Option.map_some,aAb]at this;exact this
 obtain⟨x,hx,hk⟩:=hz _ h3;simp only at hx hk;subst hx;exact⟨x,L1.map (fun e=>e.1.headD 0),L2.map (fun e=>e.1.headD 0),hk,by grind [uR],by grind [uR]⟩
theorem Dg{vs:List Int}{cO:List MapEntry}{seen:Array Nat}(h:∀ x∈cO,seen.contains x.born=true):uR vs cO seen=[]:=by
 grind [uR,Aw.Ik]
def xN(W:World)(b:Nat)(vs:List Int):Prop:=∃(cO:List MapEntry) (clock:Nat),W.heap[b]?=some (.map cO.toArray clock)/\cO.map (·.key)=vs.map (Value.int .u32)/\(∀ x∈cO,x.born<clock)/\(cO.map (·.born)).Nodup
theorem KeepsOthers.walks{W W':World}(h:KeepsOthers W W'):KeepsWalks W W':=⟨h.size,fun k o hk hw=>h.same k o hk (by cases o<;>first|rfl|cases hw)⟩
set_option maxRecDepth 100000 in
theorem Us(F:Fence)(n:Nat)(h7:F.fn 105)(V3:F.round=none)(hn:1<=n)(l Bm b:Nat)(vs:List Int)(W:World)(J Jx:List Int->World->Prop)(hJ:AbidesFrom W.heap.size J)
 (hY:∀ pre x W1,J pre W1->pre.length<vs.length->YieldAt F (n-1) prog l #[.int .u32 x] W1 fun e W'=>
   (e=.returned (.bool true)/\J (pre++[x]) W'/\KeepsWalks W1 W')\/(e=.returned (.bool false)/\Jx (pre++[x]) W'))
 (hm:W.cell? ⟨Bm,0,none⟩=some (.map (some b))) (hB:xN W b vs) (h0:J [] W):
 CallsIn F n prog 105 #[.func (.yield l) #[] #[],.pointer (some ⟨Bm,0,none⟩)] W fun e W'=>(∃ v,e=.returned v)/\
  ((∃ ys:List Int,ys.Perm vs/\J ys W')\/(∃ pre,True/\Jx pre W')):=by
 obtain⟨cO,clock,hb,N8,T5,hnd⟩:=hB;have hlen:vs.length=cO.length:=by have:=congrArg List.length N8;simpa using this.symm
 have lb:=(aAJ.1 hb).1;refine callsIn_of_wp func105 rfl h7 ?_ V3;simp only[ntmps105,aBc,List.length_cons,List.length_nil,Nat.reduceAdd,Nat.reduceSub,aBC,Array.replicate_zero,aBL,aBF,List.nil_append,List.cons_append]
 gi_wp2_with (first
  |(refine pH _ rfl _ 87 _ _ rfl underlying87 b cO.toArray clock rfl hb ?_;intro w0 hw0)
  |gi_in)
 go_frame
 have hI0:w0.heap[W.heap.size]?=some (.mapIter (some b) clock #[] clock):=by rw[hw0];exact World.alloc_heap_new _ _
 have hb0:w0.heap[b]?=some (.map cO.toArray clock):=by rw[hw0];exact(Below.heap_alloc _ _ b lb).trans hb
 have hg0:W.grownBy w0 none:=by rw[hw0];exact World.grownBy_alloc W _ none
 have hJ0:J [] w0:=hJ [] W w0 none h0 hg0 (fun r e=>by cases e);clear hw0 hg0
 gi_loopw [3] (fun _ wr=>∃(seen:Array Nat) (c:Nat) (ss:List Int),clock<=c/\wr.heap[W.heap.size]?=some (.mapIter (some b) clock seen c)/\wr.heap[b]?=some (.map cO.toArray clock)/\(ss++uR vs cO seen).Perm vs/\J ss wr)
  (fun _ wr=>match wr.heap[W.heap.size]? with|some (.mapIter _ _ seen _)=>(uR vs cO seen).length|_=>0)
 case atStart=>exact⟨#[],clock,[],aAl _,hI0,hb0,by grind [BR],hJ0⟩
 case round=>
  obtain⟨seen,c,ss,hcc,hit,hbm,u5,hJs⟩:=hrel
  gi_wp2_with (first
   |(refine pQ _ rfl _ rfl W.heap.size b clock c seen cO.toArray rfl hit hbm (fun x hx=>T5 x oO) oO hcc ?_ ?_)
   |gi_in)
  .intro hall;have u9:uR vs cO seen=[]:=Dg fun x hx=>by grind
   rw[u9,aAS]at u5
   gi_wp2
   go_end0
   grind
  .intro e w1 w2 he hs R6 N9 hen;obtain⟨x,L1,L2,hx,hL1,hL2⟩:=EG (seen:=seen) hlen N8 hnd (by simpa using he) (by grind);have Z4:wr.grownBy w2 (some W.heap.size):=by rw[N9];exact EH wr w1 R6 _ _
   have hJ2:J ss w2:=hJ ss wr w2 (some W.heap.size) hJs Z4 (fun r e=>by cases e;exact⟨aAl _,_,hit,rfl⟩);have hh:w1.heap=wr.heap:=by rcases R6 with rfl|rfl<;>rfl
   have c7:b≠W.heap.size:=oO;have hit2:w2.heap[W.heap.size]?=some (.mapIter (some b) clock (seen.push e.born) clock):=by rw[N9];simp only[setBlock];rw[aBD,aAj rfl,aAj (by grind)]
   have hbm2:w2.heap[b]?=some (.map cO.toArray clock):=by rw[N9];simp only[setBlock];rw[aBD,aAa (fun e=>c7 e.symm),hh];exact hbm
   have dA:ss.length<vs.length:=by have:=u5.length_eq;rw[hL1]at this;simp at this;omega
   obtain⟨fn,tmps,assign,body,hy,hR⟩:=hY ss x w2 hJ2 dA;rw[hx]at hen ⊢;clear N9 Z4
   gi_wp2
   refine hR.mono ?_;rintro e3 W3 (⟨rfl,hJ3,o8⟩|⟨rfl,hJx3⟩)
   .gi_wp2
    have hit3:=o8.same _ _ hit2 rfl;have hbm3:=o8.same _ _ hbm2 rfl
    go_roundw
    case rel=>exact⟨seen.push e.born,clock,ss++[x],aAl _,hit3,hbm3,by
     grind,hJ3⟩
    grind
   .gi_wp2
    refine bodyPost_ret (results_none rfl _ _ _) rfl ?_
    grind
theorem IL(F:Fence)(n:Nat)(h7:F.fn 105)(V3:F.round=none)(hn:1<=n)(Bm b:Nat)(vs:List Int)(w:World)(hBm:Bm<w.heap.size)(hm:w.cell? ⟨Bm,0,none⟩=some (.map (some b)))(hB:xN w b vs):
 SeqStopsK F n prog 105 #[.pointer (some ⟨Bm,0,none⟩)] (fun x:Int=>#[Value.int .u32 x]) KeepsWalks (fun ys=>ys.Perm vs) (fun _=>True) vs.length w:=fun l J Jx W hW hJ _ hY h0=>by
 have hc':=(hW.cell (p:=⟨Bm,0,none⟩) hBm).trans hm;have hB':xN W b vs:=by obtain⟨cO,clock,hb,h⟩:=hB;exact⟨cO,clock,(hW.block b (aAJ.1 hb).1).trans hb,h⟩
 exact Us F n h7 V3 hn l Bm b vs W J Jx hJ hY hc' hB' h0
set_option maxRecDepth 100000 in
theorem FB(F:Fence)(n:Nat)(h3:F.fn 147)(h7:F.fn 105)(V3:F.round=none)(hn:3<=n)(Bm b:Nat)(vs:List Int)(hlen:vs.length<=1048576)(w:World)(hBm:Bm<w.heap.size)
 (hm:w.cell? ⟨Bm,0,none⟩=some (.map (some b))) (hB:xN w b vs):
 CallsIn F n prog 147 #[.slice none 0 0,.func (.func 105) #[] #[.pointer (some ⟨Bm,0,none⟩)]] w fun e W'=>∃ v ys,e=.returned v/\List.Perm ys vs/\W'.ownsRow w.heap.size 34 1 v ys.length (ys.map (Value.int .u32))/\Below w.heap.size w W':=by
 have h1:1<=n:=oO;obtain⟨i0,hi,hz0,hz1,hz2⟩:=info_parts TT;refine callsIn_of_wp_marks func147 rfl h3 ?_ V3;simp only[ntmps147,aBc,List.length_cons,List.length_nil,Nat.reduceAdd,Nat.reduceSub,aBC,Array.replicate_zero,aBL,aBF,List.nil_append,List.cons_append]
 gi_wp2
 have bO:=Boxed.new w 22 (.slice none 0 0);have hB0:Below w.heap.size w (w.alloc (.cells #[.slice none 0 0] 22)):=(Below.refl _ w).alloc (aAl _) _;have hB':xN (w.alloc (.cells #[.slice none 0 0] 22)) b vs:=by obtain⟨cO,clock,hb,h⟩:=hB;exact⟨cO,clock,(hB0.block b (aAJ.1 hb).1).trans hb,h⟩
 refine wpIn_rangeFunc_ownG V3 h1 (gf:=105) (lb:=#[.pointer (some ⟨Bm,0,none⟩)]) rfl h7 (enters_of func105 (by kernel_rfl) rfl)
  (IL F (n-1) h7 V3 oO Bm b vs _ (by simp;omega) ((hB0.cell (p:=⟨Bm,0,none⟩) hBm).trans hm) hB') walksK_t walksK_b (Below.refl _ _) (fun _=>rfl)
  (fun pre W=>(∃ v,Boxed W w.heap.size 22 v/\W.ownsRow w.heap.size 34 1 v pre.length (pre.map (Value.int .u32))/\True)/\Below w.heap.size w W)
  (fun _ _ _=>False)
  (OwnFrom.and (Own.from (holdsRow_own w.heap.size w.heap.size 22 34 1 (fun pre:List Int=>pre.length) (fun pre:List Int=>pre.map (Value.int .u32)) (fun _ _=>True)) _) (ownFrom_below (aAl _) sS))
  (fun _ _ _ _ _ hs _ _=>hs)
  ⟨⟨_,bO,World.ownsRow_nil _ _ _ _,trivial⟩,hB0⟩
  (fun x=>{ tmps:=#[.slice none 0 0,.func (.func 105) #[] #[.pointer (some ⟨Bm,0,none⟩)],.pointer (some ⟨w.heap.size,0,none⟩),undef,.slice none 0 0,.int .u32 x,.func (.func 105) #[] #[.pointer (some ⟨Bm,0,none⟩)],.int .u32 x,undef,undef,undef,undef,undef],defers:=[] }) ?assign ?body ?done ?stop
 case assign=>
  intro l x W K hK
  gi_wp2
  omega
 case body=>
  rintro l pre x W ⟨⟨v,hv,Tf,_⟩,hB⟩ dA;have hc:=hv.cell
  gi_wp2_with (gi_at_builtin;refine wpListIn_append_own _ rfl _ _ 22 rfl w.heap.size 34 i0 (.int .u32 0) 1 4 underlying22 hi hz0 hz1 hz2 rfl (by decide) _ _ _ rfl (Tf.alloc _) ⟨W.heap.size,0,none⟩ 1 1 [.int .u32 x] rfl rfl (cell_one_new _ _ _) (by simp[Value.oneCell']) (by grind [maxLen]) oO (by have:=hB.size;simp;omega) ?_;intro v' w1 hown' V8 _;obtain⟨g',cap',rfl⟩:=ownsRow_succ hown';obtain⟨hv1,hv2,hr2,u6,X6⟩:=hv.appended (by decide) Tf hB.size (aAl _) hown' V8;have hc1:=hv1.cell;have hf1:=hv1.frozen)
  exact⟨u6.from _,KeepsOthers.walks u6,⟨_,hv2,by grind,trivial⟩,hB.trans X6⟩
 case done=>
  rintro D ys W hD hys ⟨⟨v,hv,Tf,_⟩,hB⟩ hK;have hc:=hv.cell
  gi_wp2
  refine⟨sS,.inl ⟨_,_,rfl,run_takeDeferred hK,?_⟩⟩;exact⟨_,results_tmp rfl _ _ _,v,ys,rfl,hys,ownsRow_putObj Tf _ hK rfl,hB.trans (belowK_b (w:=w) (aAl _) W D _ _ (by simp at hD;omega) hK rfl rfl)⟩
 grind
set_option maxRecDepth 100000 in
theorem Cq(F:Fence)(n:Nat)(h2:F.fn 104)(h3:F.fn 147)(h7:F.fn 105)(V3:F.round=none)(hn:4<=n)(Bm b:Nat)(vs:List Int)(hlen:vs.length<=1048576)(w:World)(hBm:Bm<w.heap.size)
 (hm:w.cell? ⟨Bm,0,none⟩=some (.map (some b))) (hB:xN w b vs):
 CallsIn F n prog 104 #[.func (.func 105) #[] #[.pointer (some ⟨Bm,0,none⟩)]] w fun e W'=>∃ v ys,e=.returned v/\List.Perm ys vs/\W'.ownsRow w.heap.size 34 1 v ys.length (ys.map (Value.int .u32))/\Below w.heap.size w W':=by
 have h1:1<=n:=oO;refine callsIn_of_wp func104 rfl h2 ?_ V3;simp only[ntmps104,aBc,List.length_cons,List.length_nil,Nat.reduceAdd,Nat.reduceSub,aBC,Array.replicate_zero,aBL,aBF,List.nil_append,List.cons_append]
 gi_wp2_with (gi_at_call 147;refine(FB F (n-1) h3 h7 V3 oO Bm b vs hlen _ hBm hm hB).mono ?_;rintro e w' ⟨v,ys,rfl,hys,Tf,hbel⟩)
 go_ret
 exact⟨v,ys,rfl,hys,Tf,hbel⟩
set_option maxRecDepth 100000 in
theorem Va(F:Fence)(n:Nat)(h7:F.fn 148)(V3:F.round=none)(hn:1<=n)(l Bm b:Nat)(vs:List Int)(W:World)(J Jx:List Int->World->Prop)(hJ:AbidesFrom W.heap.size J)
 (hY:∀ pre x W1,J pre W1->pre.length<vs.length->YieldAt F (n-1) prog l #[.int .u32 x] W1 fun e W'=>
   (e=.returned (.bool true)/\J (pre++[x]) W'/\KeepsWalks W1 W')\/(e=.returned (.bool false)/\Jx (pre++[x]) W'))
 (hm:W.cell? ⟨Bm,0,none⟩=some (.map (some b))) (hB:xN W b vs) (h0:J [] W):
 CallsIn F n prog 148 #[.func (.yield l) #[] #[],.pointer (some ⟨Bm,0,none⟩)] W fun e W'=>(∃ v,e=.returned v)/\
  ((∃ ys:List Int,ys.Perm vs/\J ys W')\/(∃ pre,True/\Jx pre W')):=by
 obtain⟨cO,clock,hb,N8,T5,hnd⟩:=hB;have hlen:vs.length=cO.length:=by have:=congrArg List.length N8;simpa using this.symm
 have lb:=(aAJ.1 hb).1;refine callsIn_of_wp func148 rfl h7 ?_ V3;simp only[ntmps148,aBc,List.length_cons,List.length_nil,Nat.reduceAdd,Nat.reduceSub,aBC,Array.replicate_zero,aBL,aBF,List.nil_append,List.cons_append]
 gi_wp2_with (first
  |(refine pH _ rfl _ 93 _ _ rfl underlying93 b cO.toArray clock rfl hb ?_;intro w0 hw0)
  |gi_in)
 go_frame
 have hI0:w0.heap[W.heap.size]?=some (.mapIter (some b) clock #[] clock):=by rw[hw0];exact World.alloc_heap_new _ _
 have hb0:w0.heap[b]?=some (.map cO.toArray clock):=by rw[hw0];exact(Below.heap_alloc _ _ b lb).trans hb
 have hg0:W.grownBy w0 none:=by rw[hw0];exact World.grownBy_alloc W _ none
 have hJ0:J [] w0:=hJ [] W w0 none h0 hg0 (fun r e=>by cases e);clear hw0 hg0
 gi_loopw [3] (fun _ wr=>∃(seen:Array Nat) (c:Nat) (ss:List Int),clock<=c/\wr.heap[W.heap.size]?=some (.mapIter (some b) clock seen c)/\wr.heap[b]?=some (.map cO.toArray clock)/\(ss++uR vs cO seen).Perm vs/\J ss wr)
  (fun _ wr=>match wr.heap[W.heap.size]? with|some (.mapIter _ _ seen _)=>(uR vs cO seen).length|_=>0)
 case atStart=>exact⟨#[],clock,[],aAl _,hI0,hb0,by grind [BR],hJ0⟩
 case round=>
  obtain⟨seen,c,ss,hcc,hit,hbm,u5,hJs⟩:=hrel
  gi_wp2_with (first
   |(refine pQ _ rfl _ rfl W.heap.size b clock c seen cO.toArray rfl hit hbm (fun x hx=>T5 x oO) oO hcc ?_ ?_)
   |gi_in)
  .intro hall;have u9:uR vs cO seen=[]:=Dg fun x hx=>by grind
   rw[u9,aAS]at u5
   gi_wp2
   go_end0
   grind
  .intro e w1 w2 he hs R6 N9 hen;obtain⟨x,L1,L2,hx,hL1,hL2⟩:=EG (seen:=seen) hlen N8 hnd (by simpa using he) (by grind);have Z4:wr.grownBy w2 (some W.heap.size):=by rw[N9];exact EH wr w1 R6 _ _
   have hJ2:J ss w2:=hJ ss wr w2 (some W.heap.size) hJs Z4 (fun r e=>by cases e;exact⟨aAl _,_,hit,rfl⟩);have hh:w1.heap=wr.heap:=by rcases R6 with rfl|rfl<;>rfl
   have c7:b≠W.heap.size:=oO;have hit2:w2.heap[W.heap.size]?=some (.mapIter (some b) clock (seen.push e.born) clock):=by rw[N9];simp only[setBlock];rw[aBD,aAj rfl,aAj (by grind)]
   have hbm2:w2.heap[b]?=some (.map cO.toArray clock):=by rw[N9];simp only[setBlock];rw[aBD,aAa (fun e=>c7 e.symm),hh];exact hbm
   have dA:ss.length<vs.length:=by have:=u5.length_eq;rw[hL1]at this;simp at this;omega
   obtain⟨fn,tmps,assign,body,hy,hR⟩:=hY ss x w2 hJ2 dA;rw[hx]at hen ⊢;clear N9 Z4
   gi_wp2
   refine hR.mono ?_;rintro e3 W3 (⟨rfl,hJ3,o8⟩|⟨rfl,hJx3⟩)
   .gi_wp2
    have hit3:=o8.same _ _ hit2 rfl;have hbm3:=o8.same _ _ hbm2 rfl
    go_roundw
    case rel=>exact⟨seen.push e.born,clock,ss++[x],aAl _,hit3,hbm3,by
     grind,hJ3⟩
    grind
   .gi_wp2
    refine bodyPost_ret (results_none rfl _ _ _) rfl ?_
    grind
theorem Gs(F:Fence)(n:Nat)(h7:F.fn 148)(V3:F.round=none)(hn:1<=n)(Bm b:Nat)(vs:List Int)(w:World)(hBm:Bm<w.heap.size)(hm:w.cell? ⟨Bm,0,none⟩=some (.map (some b)))(hB:xN w b vs):
 SeqStopsK F n prog 148 #[.pointer (some ⟨Bm,0,none⟩)] (fun x:Int=>#[Value.int .u32 x]) KeepsWalks (fun ys=>ys.Perm vs) (fun _=>True) vs.length w:=fun l J Jx W hW hJ _ hY h0=>by
 have hc':=(hW.cell (p:=⟨Bm,0,none⟩) hBm).trans hm;have hB':xN W b vs:=by obtain⟨cO,clock,hb,h⟩:=hB;exact⟨cO,clock,(hW.block b (aAJ.1 hb).1).trans hb,h⟩
 exact Va F n h7 V3 hn l Bm b vs W J Jx hJ hY hc' hB' h0
set_option maxRecDepth 100000 in
theorem GJ(F:Fence)(n:Nat)(h3:F.fn 147)(h7:F.fn 148)(V3:F.round=none)(hn:3<=n)(Bm b:Nat)(vs:List Int)(hlen:vs.length<=1048576)(w:World)(hBm:Bm<w.heap.size)
 (hm:w.cell? ⟨Bm,0,none⟩=some (.map (some b))) (hB:xN w b vs):
 CallsIn F n prog 147 #[.slice none 0 0,.func (.func 148) #[] #[.pointer (some ⟨Bm,0,none⟩)]] w fun e W'=>∃ v ys,e=.returned v/\List.Perm ys vs/\W'.ownsRow w.heap.size 34 1 v ys.length (ys.map (Value.int .u32))/\Below w.heap.size w W':=by
 have h1:1<=n:=oO;obtain⟨i0,hi,hz0,hz1,hz2⟩:=info_parts TT;refine callsIn_of_wp_marks func147 rfl h3 ?_ V3;simp only[ntmps147,aBc,List.length_cons,List.length_nil,Nat.reduceAdd,Nat.reduceSub,aBC,Array.replicate_zero,aBL,aBF,List.nil_append,List.cons_append]
 gi_wp2
 have bO:=Boxed.new w 22 (.slice none 0 0);have hB0:Below w.heap.size w (w.alloc (.cells #[.slice none 0 0] 22)):=(Below.refl _ w).alloc (aAl _) _;have hB':xN (w.alloc (.cells #[.slice none 0 0] 22)) b vs:=by obtain⟨cO,clock,hb,h⟩:=hB;exact⟨cO,clock,(hB0.block b (aAJ.1 hb).1).trans hb,h⟩
 refine wpIn_rangeFunc_ownG V3 h1 (gf:=148) (lb:=#[.pointer (some ⟨Bm,0,none⟩)]) rfl h7 (enters_of func148 (by kernel_rfl) rfl)
  (Gs F (n-1) h7 V3 oO Bm b vs _ (by simp;omega) ((hB0.cell (p:=⟨Bm,0,none⟩) hBm).trans hm) hB') walksK_t walksK_b (Below.refl _ _) (fun _=>rfl)
  (fun pre W=>(∃ v,Boxed W w.heap.size 22 v/\W.ownsRow w.heap.size 34 1 v pre.length (pre.map (Value.int .u32))/\True)/\Below w.heap.size w W)
  (fun _ _ _=>False)
  (OwnFrom.and (Own.from (holdsRow_own w.heap.size w.heap.size 22 34 1 (fun pre:List Int=>pre.length) (fun pre:List Int=>pre.map (Value.int .u32)) (fun _ _=>True)) _) (ownFrom_below (aAl _) sS))
  (fun _ _ _ _ _ hs _ _=>hs)
  ⟨⟨_,bO,World.ownsRow_nil _ _ _ _,trivial⟩,hB0⟩
  (fun x=>{ tmps:=#[.slice none 0 0,.func (.func 148) #[] #[.pointer (some ⟨Bm,0,none⟩)],.pointer (some ⟨w.heap.size,0,none⟩),undef,.slice none 0 0,.int .u32 x,.func (.func 148) #[] #[.pointer (some ⟨Bm,0,none⟩)],.int .u32 x,undef,undef,undef,undef,undef],defers:=[] }) ?assign ?body ?done ?stop
 case assign=>
  intro l x W K hK
  gi_wp2
  omega
 case body=>
  rintro l pre x W ⟨⟨v,hv,Tf,_⟩,hB⟩ dA;have hc:=hv.cell
  gi_wp2_with (gi_at_builtin;refine wpListIn_append_own _ rfl _ _ 22 rfl w.heap.size 34 i0 (.int .u32 0) 1 4 underlying22 hi hz0 hz1 hz2 rfl (by decide) _ _ _ rfl (Tf.alloc _) ⟨W.heap.size,0,none⟩ 1 1 [.int .u32 x] rfl rfl (cell_one_new _ _ _) (by simp[Value.oneCell']) (by grind [maxLen]) oO (by have:=hB.size;simp;omega) ?_;intro v' w1 hown' V8 _;obtain⟨g',cap',rfl⟩:=ownsRow_succ hown';obtain⟨hv1,hv2,hr2,u6,X6⟩:=hv.appended (by decide) Tf hB.size (aAl _) hown' V8;have hc1:=hv1.cell;have hf1:=hv1.frozen)
  exact⟨u6.from _,KeepsOthers.walks u6,⟨_,hv2,by grind,trivial⟩,hB.trans X6⟩
 case done=>
  rintro D ys W hD hys ⟨⟨v,hv,Tf,_⟩,hB⟩ hK;have hc:=hv.cell
  gi_wp2
  refine⟨sS,.inl ⟨_,_,rfl,run_takeDeferred hK,?_⟩⟩;exact⟨_,results_tmp rfl _ _ _,v,ys,rfl,hys,ownsRow_putObj Tf _ hK rfl,hB.trans (belowK_b (w:=w) (aAl _) W D _ _ (by simp at hD;omega) hK rfl rfl)⟩
 grind
set_option maxRecDepth 100000 in
theorem Cw(F:Fence)(n:Nat)(h2:F.fn 104)(h3:F.fn 147)(h7:F.fn 148)(V3:F.round=none)(hn:4<=n)(Bm b:Nat)(vs:List Int)(hlen:vs.length<=1048576)(w:World)(hBm:Bm<w.heap.size)
 (hm:w.cell? ⟨Bm,0,none⟩=some (.map (some b))) (hB:xN w b vs):
 CallsIn F n prog 104 #[.func (.func 148) #[] #[.pointer (some ⟨Bm,0,none⟩)]] w fun e W'=>∃ v ys,e=.returned v/\List.Perm ys vs/\W'.ownsRow w.heap.size 34 1 v ys.length (ys.map (Value.int .u32))/\Below w.heap.size w W':=by
 have h1:1<=n:=oO;refine callsIn_of_wp func104 rfl h2 ?_ V3;simp only[ntmps104,aBc,List.length_cons,List.length_nil,Nat.reduceAdd,Nat.reduceSub,aBC,Array.replicate_zero,aBL,aBF,List.nil_append,List.cons_append]
 gi_wp2_with (gi_at_call 147;refine(GJ F (n-1) h3 h7 V3 oO Bm b vs hlen _ hBm hm hB).mono ?_;rintro e w' ⟨v,ys,rfl,hys,Tf,hbel⟩)
 go_ret
 exact⟨v,ys,rfl,hys,Tf,hbel⟩
end Rg
namespace Aw
open Go Go.RowKit
def vS(es:List (List Int×LV)):List Int:=es.map fun e=>e.1.headD 0
theorem Lu{w:World}{g:G}{st:St}(hi:Inv w g st){m:Nat}{es:List (List Int×LV)}(hm:st.H m=.map false [.u32] es):Rg.xN w (g.β m) (vS es):=by
 obtain⟨_,hlen,cO,clock,h3,h4,_,_,h7,h8⟩:=hi.mp m _ _ _ hm;refine⟨cO,clock,h3,?_,h7,h8⟩;rw[h4];unfold vS;rw[aAW];refine aAQ fun p hp=>?_;have:=hlen p hp
 match h:p.1,this with
 |[x],_=>grind [mkV,mkC]
theorem Jp(m q:Nat)(es:List (List Int×LV))(st:St)(hl:es.length<=1048576)(hH:st.H q=.box 87 1 [.mp m])(hm:st.H m=.map false [.u32] es):
 aB prog 104 [.fn (.func 105) [.pt q 0]] st fun r st'=>∃ ys:List Int,ys.Perm (vS es)/\r=.ms st.next 0 ys.length/\st'=st.new (.box 34 1 (us ys)):=by
 refine⟨enters_of func104 (by kernel_rfl) rfl,fun w g vs hi hr=>?_⟩;simp only[aC,Rep]at hr;obtain⟨v,_,rfl,⟨us1,rfl,v1,_,rfl,⟨rfl,hq⟩,rfl⟩,rfl⟩:=hr;obtain⟨_,b2,b3⟩:=hi.box q _ _ _ hH;have r9:g.nl q=false:=by
  cases hn:g.nl q with
  |false=>rfl
  |true=>grind
 obtain⟨n9,k1,k2,k3,k4,k5⟩:=b3 r9;simp only[List.length_cons,List.length_nil,aBv,aC]at k4 k3;obtain⟨sv,rest,hsv,K9,_⟩:=k4;simp only[Rep]at K9;have hc0:w.cell? ⟨g.β q,0,none⟩=some (.map (some (g.β m))):=by
  rw[cell_of_row w _ _ _ _ _ k1,<- K9.1];cases n9 with
  |nil=>grind
  |cons a n9=>grind
 refine(((Rg.Cq Fence.wide 4 trivial trivial trivial rfl (aAl _) (g.β q) (g.β m) (vS es) (by grind [vS]) w (oW hc0) hc0 (Lu hi hm)).calls room_wide)).mono ?_;rintro e w' ⟨v,ys,rfl,hys,Tf,hbel⟩;have hlen:ys.length=(ys.map (Value.int .u32)).length:=sS;rw[hlen]at Tf;obtain⟨g',h1,h2,h3⟩:=xU (cs:=us ys) hi hbel Tf (fun w g=>Aa w g ys)
 grind
theorem JW(m q:Nat)(es:List (List Int×LV))(st:St)(hl:es.length<=1048576)(hH:st.H q=.box 93 1 [.mp m])(hm:st.H m=.map false [.u32] es):
 aB prog 104 [.fn (.func 148) [.pt q 0]] st fun r st'=>∃ ys:List Int,ys.Perm (vS es)/\r=.ms st.next 0 ys.length/\st'=st.new (.box 34 1 (us ys)):=by
 refine⟨enters_of func104 (by kernel_rfl) rfl,fun w g vs hi hr=>?_⟩;simp only[aC,Rep]at hr;obtain⟨v,_,rfl,⟨us1,rfl,v1,_,rfl,⟨rfl,hq⟩,rfl⟩,rfl⟩:=hr;obtain⟨_,b2,b3⟩:=hi.box q _ _ _ hH;have r9:g.nl q=false:=by
  cases hn:g.nl q with
  |false=>rfl
  |true=>grind
 obtain⟨n9,k1,k2,k3,k4,k5⟩:=b3 r9;simp only[List.length_cons,List.length_nil,aBv,aC]at k4 k3;obtain⟨sv,rest,hsv,K9,_⟩:=k4;simp only[Rep]at K9;have hc0:w.cell? ⟨g.β q,0,none⟩=some (.map (some (g.β m))):=by
  rw[cell_of_row w _ _ _ _ _ k1,<- K9.1];cases n9 with
  |nil=>grind
  |cons a n9=>grind
 refine(((Rg.Cw Fence.wide 4 trivial trivial trivial rfl (aAl _) (g.β q) (g.β m) (vS es) (by grind [vS]) w (oW hc0) hc0 (Lu hi hm)).calls room_wide)).mono ?_;rintro e w' ⟨v,ys,rfl,hys,Tf,hbel⟩;have hlen:ys.length=(ys.map (Value.int .u32)).length:=sS;rw[hlen]at Tf;obtain⟨g',h1,h2,h3⟩:=xU (cs:=us ys) hi hbel Tf (fun w g=>Aa w g ys)
 grind
end Aw
namespace Aw
open Go Go.RowKit Pl Eu
def rok(m:Mp)(k:Nat):Prop:=Fp m.g.es (m.g.vs.getD k 0) (m.rots.getD k [])
noncomputable def xR(m:Mp):Int:=if chk m.g≠0 then chk m.g else if m.rots.length≠m.g.vs.length then 22 else @ite _ (∀ k,k<m.g.vs.length->rok m k) (Classical.propDecidable _) 0 22
theorem Xb{m:Mp}(h:chk m.g≠0):xR m=chk m.g:=by unfold xR;rw[aAj h]
theorem Ro{m:Mp}(h:chk m.g=0)(h1:m.rots.length≠m.g.vs.length):xR m=22:=by unfold xR;rw[aAa (fun e=>e h),aAj h1]
theorem TF{m:Mp}(h:chk m.g=0){k:Nat}(hk:k<m.g.vs.length)(h1:¬rok m k):xR m=22:=by
 unfold xR;rw[aAa (fun e=>e h)]
 split
 .rfl
 .rw[aAa (fun e=>h1 (e k hk))]
theorem VF{m:Mp}(h:chk m.g=0)(h1:m.rots.length=m.g.vs.length)(h2:∀ k,k<m.g.vs.length->rok m k):xR m=0:=by unfold xR;rw[aAa (fun e=>e h),aAa (fun e=>e h1),aAj h2]
theorem Nk{m:Mp}(h:xR m=0):chk m.g=0/\bL m:=by
 by_cases h0:chk m.g=0
 .refine⟨h0,?_⟩;by_cases h1:m.rots.length=m.g.vs.length
  .refine⟨fL h0,h1,fun k hk=>?_⟩;refine aAI fun hn=>?_;rw[TF h0 hk hn]at h;cases h
  .rw[Ro h0 h1]at h;cases h
 .rw[Xb h0]at h;exact absurd h h0
end Aw
namespace Aw
open Go Go.RowKit Pl
attribute [local simp] Fg XU ND Ux oQ qI oN
def oB:List (Int×Int)->Int->Int
 |[],_=>0
 |p::P,x=>if p.1=x then p.2 else oB P x
theorem FA(x:Int):∀ P:List (Int×Int),(bS (inL P) [x]).getD (u 0)=u (oB P x)
 |[]=>rfl
 |p::P=>by
  have ih:=FA x P;unfold oB;simp only[inL,aAm,bS]at ih ⊢;by_cases h:p.1=x
  .rw[aAj h,aAj (sF1 h)];rfl
  .rw[aAa h,aAa (by simpa using fun e=>h e.symm)];exact ih
theorem Hw(P:List (Int×Int)):vS (inL P)=P.map (·.1):=by
 induction P with
 |nil=>rfl
 |cons p P ih=>simp only[inL,aAm,vS]at ih ⊢;rw[ih];rfl
def goR(P:List (Int×Int))(first:Int):Nat->Int->List Int
 |0,_=>[]
 |n+1,x=>x::(if oB P x≠first/\0<n then goR P first n (oB P x)else [])
def bX(P:List (Int×Int)):List Int:=goR P (mn (P.map (·.1))) P.length (mn (P.map (·.1)))
theorem Zb(m:Nat)(st:St):aB prog 107 [.mp m] st fun r st'=>r=.fn (.func 148) [.pt st.next 0]/\st'=st.new (.box 93 1 [.mp m]):=by refine zN func107 ntmps107 [.tmp 2] ?_;exact xv0
theorem Ys(m:Nat)(st:St):aB prog 64 [.mp m] st fun r st'=>r=.fn (.func 105) [.pt st.next 0]/\st'=st.new (.box 87 1 [.mp m]):=by refine zN func64 ntmps64 [.tmp 2] ?_;exact xv0
theorem Uw{a b:List Int}(h:a.Perm b)(h0:a≠[]):mn a=mn b:=
 (LL (h.mem_iff.1 (nA h0)) fun x hx=>Da (h.mem_iff.2 hx)).symm
def RoI(P:List (Int×Int))(m:Nat)(st:St)(n:Nat)(fr:Frm)(s:St):Prop:=∃(turn:List Int) (x:Int) (t:Nat),n+turn.length=P.length/\0<n/\turn++goR P (mn (P.map (·.1))) n x=bX P/\fr 0=.mp m/\fr 3=.sl t turn.length (us turn)/\fr 4=u (mn (P.map (·.1)))/\fr 5=u x/\Fo t 34 1 turn.length st s/\aA st s
theorem KB{P:Program}{N:Nat}{Q:AQ}{c:Code}{fr:Frm}{st:St}(I:Frm->St->Prop)(h0:I fr st)(h:∀ fr st,I fr st->AWp P N c Q fr st):AWp P N c Q fr st:=h _ _ h0
theorem Yf(P:List (Int×Int))(m:Nat)(st:St)(hP:P≠[])(hl:P.length<=1000)(hm:st.H m=.map false [.u32] (inL P))(Q7:m<st.next):
 aB prog 65 [.mp m] st fun r st'=>r=.sl 0 (bX P).length (us (bX P))/\st'=st:=by
 refine qT (Q:=fun r=>r=.sl 0 (bX P).length (us (bX P))) (eU ?_) fun r h=>by subst h;exact⟨.inl rfl,AA _ _⟩
 have hil:(inL P).length=P.length:=by simp[inL]
 refine zN func65 ntmps65 [.tmp 2] ?_;refine xw0 ?_;refine Av _ 0 (fun n fr s=>RoI P m st n fr s) rfl ?_ ?_
 .refine eR fun M5=>?_
  (refine xj0 ?_;intro J hJ)
  refine xcP (Zb m _) ?_;refine dQ hJ ?_;refine qE (JW m st.next (inL P) _ oO sS (by rw[bY,aAa oO];exact hm)) sS ?_;rintro r s1 ⟨ys,hys,rfl,e1⟩;rw[e1];clear e1 s1;have hyl:ys.length=P.length:=by rw[hys.length_eq,Hw,aAD]
  have hy0:ys≠[]:=fun e=>hP (aBt.1 (by rw[<- hyl,e];rfl));have hmn:mn ys=mn (P.map (·.1)):=Uw (by rw[<- Hw];exact hys) hy0;have N7:=wL (P:=prog) (pre:=[]) (post:=[]) (l:=st.next+1) (n:=ys.length) (e:=34) (s:=1) (cs:=us ys) (st:=(st.new (.box 93 1 [.mp m])).new (.box 34 1 (us ys))) (f:=106) sS sS (by rw[aAu sS];exact Min ys 0 _ (by unfold small;omega) hy0);rw[hmn]at N7;refine dQ hJ ?_;refine qE N7 sS ?_;rintro r s1 ⟨rfl,e1⟩;rw[e1];clear e1 s1 N7;have hPl:0<P.length:=aBh.2 hP;refine dQ hJ ?_;refine DT ?_;simp only[ak];refine kM 3 34 1 sS ?_;refine KB (RoI P m st P.length) ?_ ?_
  .exact⟨[],_,st.next+1+1,sS,hPl,rfl,sS,sS,sS,sS,⟨oO,oO,sS,sS⟩,(((aA.new _ _).trans (aA.new _ _)).set oO _).trans (aA.new _ _)⟩
  obtain⟨n,hn⟩:∃ n,n=P.length:=⟨_,rfl⟩;rw[<- hn];have hJG:∀ n' c8 s',n' < n->RoI P m st n' c8 s'->∃ n,RoI P m st n c8 s':=fun n' _ _ _ h=>⟨n',h⟩;rintro fr s ⟨turn,x,t,h1,h2,h3,f0,f3,f4,f5,⟨t0,t1,t2,tH⟩,hk⟩;have hmH:=(hk.H m Q7).trans hm;have hg:=FA x P;obtain⟨n,rfl⟩:∃ k,n=k+1:=⟨n-1,oO⟩;have h4:goR P (mn (P.map (·.1))) (n+1) x=x::(if oB P x≠mn (P.map (·.1))/\0<n then goR P (mn (P.map (·.1))) n (oB P x)else []):=rfl;rw[h4]at h3;clear h4;have hRo:∀(Q5:List Int) (y:Int) (t:Nat) (c8:Frm) (s':St),n+Q5.length=P.length->0<n->Q5++goR P (mn (P.map (·.1))) n y=bX P->c8 0=.mp m->c8 3=.sl t Q5.length (us Q5)->c8 4=u (mn (P.map (·.1)))->c8 5=u y->Fo t 34 1 Q5.length st s'->aA st s'->RoI P m st n c8 s':=fun Q5 y t c8 s' q1 q2 q3 q4 q5 q6 q7 q8 q9=>⟨Q5,y,t,q1,q2,q3,q4,q5,q6,q7,q8,q9⟩;have M6:=fun c8 s' h=>hJG n c8 s' oO h;generalize mn (P.map (·.1))=first at *
  generalize oB P x=y at *;have hkn:=hk.next;have c1:¬t=s.next:=oO;have c2:¬s.next=t:=oO;have c3:¬m=s.next:=oO;have c4:¬m=s.next+1:=oO;have c5:¬m=t:=oO;have u6:=(((hk.trans (aA.new s (.own 34 1 1))).set t1 .dead).trans (aA.new _ (.own 34 1 (turn.length+1))));by_cases hy:y=first
  .have Y1:(y != first)=false:=by simp[hy]
   (repeat' (first|apply qS|refine qK (zZ ?_)|(refine qR (zZ ?_);simp[f0,f3,f4,f5,hmH,hg,tH,t0,c1,c2,c3,c4,c5,Y1])|(apply qC;simp[f0,f3,f4,f5,hmH,hg,tH,t0,c1,c2,c3,c4,c5,Y1])|(refine zE ?_;intro J hJ;simp[f0,f3,f4,f5,hmH,hg,tH,t0,c1,c2,c3,c4,c5,Y1];(repeat refine ca ?_);(refine zJ hJ ?_;clear hJ J))))
   rw[aAa (fun h=>h.1 hy)]at h3;exact⟨by rw[<- h3];simp[z0,oE],u6⟩
  .have Y1:(y != first)=true:=by simp[hy]
   by_cases X9:0<n
   .have L5:turn.length+1<(inL P).length:=oO;have O3:(turn.length:Int)+1<(inL P).length:=oO
    (repeat' (first|apply qS|(apply qC;simp[f0,f3,f4,f5,hmH,hg,tH,t0,c1,c2,c3,c4,c5,Y1,L5,O3])|(refine zE ?_;intro J hJ;simp[f0,f3,f4,f5,hmH,hg,tH,t0,c1,c2,c3,c4,c5,Y1,L5,O3];(repeat refine ca ?_);(refine zJ hJ ?_;clear hJ J))))
    rw[aAj ⟨hy,X9⟩]at h3;refine HI ?_;simp only[ak,oN,qI,oQ,Fg];refine M6 _ _ (hRo (turn++[x]) y (s.next+1) _ _ (by simp;omega) X9 (by rw[<- h3];simp) (sF1 f0) sS (sF1 f4) sS ⟨oO,oO,sS,sS⟩ u6)
   .have L5:¬turn.length+1<(inL P).length:=oO;have O3:¬(turn.length:Int)+1<(inL P).length:=oO
    (repeat' (first|apply qS|refine qK (zZ ?_)|(refine qR (zZ ?_);simp[f0,f3,f4,f5,hmH,hg,tH,t0,c1,c2,c3,c4,c5,Y1,L5,O3])|(apply qC;simp[f0,f3,f4,f5,hmH,hg,tH,t0,c1,c2,c3,c4,c5,Y1,L5,O3])|(refine zE ?_;intro J hJ;simp[f0,f3,f4,f5,hmH,hg,tH,t0,c1,c2,c3,c4,c5,Y1,L5,O3];(repeat refine ca ?_);(refine zJ hJ ?_;clear hJ J))))
    rw[aAa (fun h=>X9 h.2)]at h3;exact⟨by rw[<- h3];simp[z0,oE],u6⟩
 .rintro n fr s ⟨turn,x,t,h1,h2,h3,f0,f3,f4,f5,⟨t0,t1,t2,tH⟩,hk⟩ JG hJG;have hmH:=(hk.H m Q7).trans hm;have hg:=FA x P;obtain⟨n,rfl⟩:∃ k,n=k+1:=⟨n-1,oO⟩;have h4:goR P (mn (P.map (·.1))) (n+1) x=x::(if oB P x≠mn (P.map (·.1))/\0<n then goR P (mn (P.map (·.1))) n (oB P x)else []):=rfl;rw[h4]at h3;clear h4;have hRo:∀(Q5:List Int) (y:Int) (t:Nat) (c8:Frm) (s':St),n+Q5.length=P.length->0<n->Q5++goR P (mn (P.map (·.1))) n y=bX P->c8 0=.mp m->c8 3=.sl t Q5.length (us Q5)->c8 4=u (mn (P.map (·.1)))->c8 5=u y->Fo t 34 1 Q5.length st s'->aA st s'->RoI P m st n c8 s':=fun Q5 y t c8 s' q1 q2 q3 q4 q5 q6 q7 q8 q9=>⟨Q5,y,t,q1,q2,q3,q4,q5,q6,q7,q8,q9⟩;have M6:=fun c8 s' h=>hJG n c8 s' oO h;generalize mn (P.map (·.1))=first at *
  generalize oB P x=y at *;have hkn:=hk.next;have c1:¬t=s.next:=oO;have c2:¬s.next=t:=oO;have c3:¬m=s.next:=oO;have c4:¬m=s.next+1:=oO;have c5:¬m=t:=oO;have u6:=(((hk.trans (aA.new s (.own 34 1 1))).set t1 .dead).trans (aA.new _ (.own 34 1 (turn.length+1))));by_cases hy:y=first
  .have Y1:(y != first)=false:=by simp[hy]
   (repeat' (first|apply qS|refine qK (zZ ?_)|(refine qR (zZ ?_);simp[f0,f3,f4,f5,hmH,hg,tH,t0,c1,c2,c3,c4,c5,Y1])|(apply qC;simp[f0,f3,f4,f5,hmH,hg,tH,t0,c1,c2,c3,c4,c5,Y1])|(refine zE ?_;intro J hJ;simp[f0,f3,f4,f5,hmH,hg,tH,t0,c1,c2,c3,c4,c5,Y1];(repeat refine ca ?_);(refine zJ hJ ?_;clear hJ J))))
   rw[aAa (fun h=>h.1 hy)]at h3;exact⟨by rw[<- h3];simp[z0,oE],u6⟩
  .have Y1:(y != first)=true:=by simp[hy]
   by_cases X9:0<n
   .have L5:turn.length+1<(inL P).length:=oO;have O3:(turn.length:Int)+1<(inL P).length:=oO
    (repeat' (first|apply qS|refine qK (zZ ?_)|(apply qC;simp[f0,f3,f4,f5,hmH,hg,tH,t0,c1,c2,c3,c4,c5,Y1,L5,O3])|(refine zE ?_;intro J hJ;simp[f0,f3,f4,f5,hmH,hg,tH,t0,c1,c2,c3,c4,c5,Y1,L5,O3];(repeat refine ca ?_);(refine zJ hJ ?_;clear hJ J))))
    rw[aAj ⟨hy,X9⟩]at h3;refine HI ?_;simp only[ak,oN,qI,oQ,Fg];refine M6 _ _ (hRo (turn++[x]) y (s.next+1) _ _ (by simp;omega) X9 (by rw[<- h3];simp) (sF1 f0) sS (sF1 f4) sS ⟨oO,oO,sS,sS⟩ u6)
   .have L5:¬turn.length+1<(inL P).length:=oO;have O3:¬(turn.length:Int)+1<(inL P).length:=oO
    (repeat' (first|apply qS|refine qK (zZ ?_)|(refine qR (zZ ?_);simp[f0,f3,f4,f5,hmH,hg,tH,t0,c1,c2,c3,c4,c5,Y1,L5,O3])|(apply qC;simp[f0,f3,f4,f5,hmH,hg,tH,t0,c1,c2,c3,c4,c5,Y1,L5,O3])|(refine zE ?_;intro J hJ;simp[f0,f3,f4,f5,hmH,hg,tH,t0,c1,c2,c3,c4,c5,Y1,L5,O3];(repeat refine ca ?_);(refine zJ hJ ?_;clear hJ J))))
    rw[aAa (fun h=>X9 h.2)]at h3;exact⟨by rw[<- h3];simp[z0,oE],u6⟩
end Aw
namespace Aw
open Go Go.RowKit Pl
def qA(l:List Int):List Int:=l.foldr xZ []
theorem zR:∀ l,(qA l).Pairwise (· < ·)
 |[]=>.nil
 |x::l=>zQ x _ (zR l)
theorem qZ(x:Int):∀ l,x∈qA l↔x∈l
 |[]=>by simp[qA]
 |y::l=>by have ih:=qZ x l;unfold qA at ih ⊢;rw[List.foldr_cons,rM,ih,aAe]
theorem QZ(A:Tn)(loc:Int->Nat):vS (ouL A loc)=A.map (·.1):=by
 induction A with
 |nil=>rfl
 |cons p P ih=>simp only[ouL,aAm,vS]at ih ⊢;rw[ih];rfl
theorem US(m q:Nat)(es:List (List Int×LV))(K:List Int)(st:St)(hl:es.length<=1000)(hH:st.H q=.box 87 1 [.mp m])(hm:st.H m=.map false [.u32] es)(hK:vS es=K)(hn:K.Nodup):
 aB prog 63 [.fn (.func 105) [.pt q 0]] st fun r st'=>r=.sl 0 (qA K).length (us (qA K))/\aA st st':=by
 refine cD ?_;refine zN func63 ntmps63 [.tmp 2] ?_
 (refine xj0 ?_;intro J hJ)
 refine qE (Jp m q es _ oO hH hm) sS ?_;rintro r s1 ⟨ys,hys,rfl,rfl⟩;have hyl:ys.length=es.length:=by rw[hys.length_eq];simp[vS]
 (refine pG hJ ?_;intro J hJ)
 refine qE (WD ys st.next _ oO sS sS) sS ?_;rintro r s2 ⟨c,hB,hp,hs,o6⟩;have O6:=o6.1;simp only[aG]at O6;have hKp:aA st s2:=⟨oO,fun l' O5=>(o6.2 l' oO (by simp;omega)).trans ((aA.new st _).H l' O5)⟩;have r8:=hp.length_eq;have hpK:c.Perm K:=by rw[<- hK];exact hp.trans hys
 have hc:c=qA K:=by
  refine AD id ?_ (by simpa using zR K) fun x=>by rw[qZ];exact hpK.mem_iff
  rw[aEM];refine(List.Pairwise.and hs (hpK.nodup_iff.2 hn)).imp fun h=>?_;have:=h.1;have:=h.2;omega
 refine dQ hJ ?_;rw[<- hc];exact⟨st.next,c.length,⟨rfl,r8.symm⟩,_,_,_,hB,sS,⟨rfl,by rw[aAu sS]⟩,hKp.set (aAl _) _⟩
def fP(B:List Ed)(v x:Int):List Int:=
 if x<v then(B.map fun e=>2*e.id+if e.b=v then 1 else 0).reverse else B.map fun e=>2*e.id+if e.b=v then 1 else 0
theorem YO(B:List Ed)(v x:Int)(t:Nat)(st:St)(hl:B.length<=1000)(M5:∀ e∈B,1<=e.id/\e.id<=1048576):
 aB prog 66 [.sl t B.length (eds B),u v,u x] st fun r st'=>r=.sl 0 (fP B v x).length (us (fP B v x))/\st'=st:=by
 refine qT (Q:=fun r=>r=.sl 0 (fP B v x).length (us (fP B v x))) (cD ?_) fun r h=>by subst h;exact⟨.inl rfl,AA _ _⟩
 have hel:=aK B;refine zN func66 ntmps66 [.tmp 6] ?_;refine xw0 ?_;refine uN 7 34 1 sS ?_;refine aY 13 12 14 28 (B.length) (fun j fr st2=>fr 1=u v/\fr 2=u x/\fr 11=.sl t B.length (eds B)/\aA st st2/\∃ q,fr 7=.ms q 0 j/\st.next<=q/\q<st2.next/\st2.H q=.box 34 1 (us ((B.take j).map fun e=>2*e.id+if e.b=v then 1 else 0))) ?_ ?_ ?_
 .exact⟨sS,sS,sS,aA.new _ _,st.next,sS,aAl _,sS,sS⟩
 .rintro j fr s dA ⟨f1,f2,f11,hk,q,f7,q1,q2,hq⟩ fi fn JO hJO;have hd:=aR B j dA;have o8:j*3<B.length*3:=oO;have L0:((B.take (j+1)).map fun e=>2*e.id+if e.b=v then 1 else 0)=((B.take j).map fun e=>2*e.id+if e.b=v then 1 else 0)++[2*(B.getD j ed0).id+if(B.getD j ed0).b=v then 1 else 0]:=by have h1:B.take (j+1)=B.take j++[B[j]]:=aAp dA;rw[h1,aAv,eJ B j dA];rfl
  have hp:=M5 (B.getD j ed0) (by rw[eJ B j dA];exact aAE _);have Q7:((B.take j).map fun e=>2*e.id+if e.b=v then(1:Int)else 0).length=j:=by simp;omega
  generalize B.getD j ed0=y at *;generalize ((B.take j).map fun e=>2*e.id+if e.b=v then(1:Int)else 0)=D at *;obtain⟨d,a,b⟩:=y;simp only at L0 hp hd;have c1:¬q=s.next:=oO;have c1b:¬q=s.next+1:=oO;have htj:(us D).take j=us D:=aAu (by simp;omega);have hjl:j<=D.length:=oO;have hj1:(j+1)*4<=140737488355328:=oO;have hj2:j+1<=maxLen:=by unfold maxLen;omega
  have u6:∀(o1 o2 o4:cN),aA st ((((s.new o1).new o2).set q .dead).new o4):=fun o1 o2 o4=>(((hk.trans (aA.new _ _)).trans (aA.new _ _)).set q1 _).trans (aA.new _ _);by_cases hb:b=v
  .have X6:(b==v)=true:=by simp[hb]
   rw[aAj hb]at L0
   (refine XA f1 f7 f11 fi fn dA hd hel o8 X6 ?_;intro J hJ)
   refine qE (dOf d 1 _ oO oO (.inr rfl)) sS ?_;rintro r s1 ⟨rfl,rfl⟩;refine Xz hJ f7 hq c1 c1b htj hjl hj1 hj2 ?_;exact hJO _ _ (sF1 fi) (sF1 fn) ⟨sF1 f1,sF1 f2,sF1 f11,u6 _ _ _,s.next+1+1,sS,oO,sS,by rw[L0];simp⟩
  .have X6:(b==v)=false:=by simp[hb]
   rw[aAa hb]at L0
   (refine XA f1 f7 f11 fi fn dA hd hel o8 X6 ?_;intro J hJ)
   refine qE (dOf d 0 _ oO oO (.inl rfl)) sS ?_;rintro r s1 ⟨rfl,rfl⟩;refine Xz hJ f7 hq c1 c1b htj hjl hj1 hj2 ?_;exact hJO _ _ (sF1 fi) (sF1 fn) ⟨sF1 f1,sF1 f2,sF1 f11,u6 _ _ _,s.next+1+1,sS,oO,sS,by rw[L0];simp⟩
 .rintro fr s ⟨f1,f2,f11,hk,q,f7,q1,q2,hq⟩;rw[aAU]at hq;unfold fP;have Q7:(B.map fun e=>2*e.id+if e.b=v then(1:Int)else 0).length=B.length:=sS;generalize (B.map fun e=>2*e.id+if e.b=v then(1:Int)else 0)=D at *;by_cases hx:x<v
  .rw[aAj hx];rw[<- Q7]at f7
   (refine xj4 f1 f2 f7 hx ?_;intro J hJ)
   refine qE (Ag D q s (by unfold small;omega) hq) sS ?_;rintro r s1 rfl;refine nL hJ f7 ?_;exact⟨q,D.length,⟨rfl,rfl⟩,_,_,_,aAj rfl,sS,⟨sS,by rw[aAu sS]⟩,(hk.set q1 _).set q1 _⟩
  .rw[aAa hx];refine xw4 f1 f2 f7 hx ?_;exact⟨q,B.length,⟨rfl,rfl⟩,_,_,_,hq,by simp;omega,⟨Q7.symm,by rw[aAu (by simp;omega)]⟩,hk.set q1 _⟩
abbrev RM:=List (List Int×Nat×Nat×List LV)
def rmV(a:Nat×Nat×List LV):LV:=.sl a.1 a.2.1 a.2.2
def rmL(A:RM):List (List Int×LV):=A.map fun a=>(a.1,rmV a.2)
def nO(k:List Int)(x:Nat×Nat×List LV):RM->RM
 |[]=>[(k,x)]
 |a::A=>if k==a.1 then(k,x)::A else a::nO k x A
def getM(k:List Int):RM->Option (Nat×Nat×List LV)
 |[]=>none
 |a::A=>if k==a.1 then some a.2 else getM k A
theorem Mr(k:List Int)(x:Nat×Nat×List LV):∀ A,bV (rmL A) k (rmV x)=rmL (nO k x A)
 |[]=>rfl
 |a::A=>by
  have ih:=Mr k x A
  grind [nO,rmL,bV]
theorem uW(k:List Int):∀ A,bS (rmL A) k=(getM k A).map rmV
 |[]=>rfl
 |a::A=>by
  have ih:=uW k A
  grind [getM,rmL,bS]
theorem nX{k:List Int}{x:Nat×Nat×List LV}:∀ {A},getM k A=some x->(k,x)∈A
 |[],h=>by cases h
 |a::A,h=>by
  unfold getM at h
  split at h
  .grind
  .exact aAc _ (nX h)
theorem getM_none{k:List Int}:∀ {A:RM},getM k A=none->k∉A.map (·.1)
 |[],_=>by simp
 |a::A,h=>by
  unfold getM at h
  split at h
  .cases h
  .rename_i e;simp only[aAm,aAe,aCx];exact⟨by grind,getM_none h⟩
theorem BJ{k:List Int}{x:Nat×Nat×List LV}:∀ {A:RM},k∉A.map (·.1)->nO k x A=A++[(k,x)]
 |[],_=>rfl
 |a::A,h=>by simp only[aAm,aAe,aCx]at h;unfold nO;rw[aAa (by grind),BJ h.2];rfl
theorem wU{k:List Int}{x:Nat×Nat×List LV}:∀ {A:RM},k∈A.map (·.1)->(nO k x A).map (·.1)=A.map (·.1)
 |a::A,h=>by
  unfold nO;by_cases e:k=a.1
  .grind
  .rw[aAa (by grind),aAm,aAm,wU]
   grind
theorem rH{k:List Int}{x:Nat×Nat×List LV}:∀ {A:RM},(A.map (·.1)).Nodup->∀ a∈nO k x A,a=(k,x)\/(a∈A/\a.1≠k)
 |[],_,a,ha=>by grind [nO]
 |b::A,hn,a,ha=>by
  obtain⟨n1,n2⟩:=aAq.1 (by grind:(b.1::A.map (·.1)).Nodup);unfold nO at ha;by_cases e:k=b.1
  .grind
  .rw[aAa (by grind)]at ha;rcases aAe.1 ha with ha|ha
   .grind
   .rcases rH n2 a ha with h|⟨h1,h2⟩
    .grind
    grind
theorem EU{k:List Int}{t n:Nat}{c:List LV}:∀ {A:RM},(A.map fun a=>a.2.1).Nodup->(∀ a∈A,a.2.1≠t)->((nO k (t,n,c) A).map fun a=>a.2.1).Nodup
 |[],_,_=>by simp[nO]
 |a::A,hn,h=>by
  obtain⟨n1,n2⟩:=aAq.1 (by grind:(a.2.1::A.map fun a=>a.2.1).Nodup);unfold nO
  split
  .grind
  .rw[aAm,aAq];refine⟨fun hm=>?_,EU n2 fun b hb=>h b (aAc _ hb)⟩;obtain⟨b,hb,e⟩:=aAi.1 hm;have:b=(k,(t,n,c))\/b∈A:=by
    clear n1 n2 h hn hm;revert hb;clear e;induction A with
    |nil=>grind [nO]
    |cons a2 A ih=>
     grind [nO]
   grind
theorem Lx:∀ {A:RM},(A.map fun a=>a.2.1).Nodup->∀ {a b},a∈A->b∈A->a.2.1=b.2.1->a=b
 |[],_,_,_,h,_,_=>by cases h
 |c::A,hn,a,b,ha,hb,e=>by
  obtain⟨n1,n2⟩:=aAq.1 (by grind:(c.2.1::A.map fun a=>a.2.1).Nodup);rcases aAe.1 ha with ha|ha
  .grind
  .rcases aAe.1 hb with hb|hb
   .grind
   .exact Lx n2 ha hb e
structure zB(ag:Bool)(ks:List IntKind)(e w:Nat)(A:RM)(m lo:Nat)(st:St):Prop where
 map:st.H m=.map ag ks (rmL A)
 mlt:lo<=m/\m<st.next
 tok:∀ a∈A,a.2.1≠0/\lo<=a.2.1/\a.2.1<st.next/\st.H a.2.1=.own e w a.2.2.1
 inj:(A.map fun a=>a.2.1).Nodup
 nd:(A.map (·.1)).Nodup
theorem zB.keep{ag:Bool}{ks:List IntKind}{e w:Nat}{A:RM}{m lo:Nat}{st st':St}(h:zB ag ks e w A m lo st)(k:aA st st'):zB ag ks e w A m lo st':=by have hn:=k.next;have hm:=h.mlt;refine⟨(k.H _ hm.2).trans h.map,⟨hm.1,oO⟩,fun a ha=>?_,h.inj,h.nd⟩;obtain⟨h1,h2,h3,h4⟩:=h.tok a ha;exact⟨h1,h2,oO,(k.H _ h3).trans h4⟩
theorem zB.put{ag:Bool}{ks:List IntKind}{e w:Nat}{A:RM}{m lo:Nat}{st st':St}(h:zB ag ks e w A m lo st){k:List Int}{t n:Nat}{c:List LV}
 (ht:st.next<=t/\t<st'.next) (hn:st.next<=st'.next) (hlo:lo<=st.next) (h0:t≠0) (hm:st'.H m=.map ag ks (bV (rmL A) k (rmV (t,n,c)))) (hT:st'.H t=.own e w n)
 (hK:∀ l,l<st.next->l≠m->(∀ x,getM k A=some x->l≠x.1)->st'.H l=st.H l):zB ag ks e w (nO k (t,n,c) A) m lo st':=by
 have hmm:=h.mlt;rw[Mr]at hm;refine⟨hm,⟨hmm.1,oO⟩,fun a ha=>?_,EU h.inj fun a ha=>by have:=(h.tok a ha).2.2.1;omega,?_⟩
 .rcases rH h.nd a ha with rfl|⟨ha,c7⟩
  .grind
  .obtain⟨h1,h2,h3,h4⟩:=h.tok a ha;refine⟨h1,h2,oO,?_⟩;rw[hK _ h3 (fun q=>by rw[q,h.map]at h4;grind) fun x hx q=>?_]
   .omega
   .have hx:=nX hx;refine c7 ?_;exact(by rw[Lx h.inj ha hx q]:a.1=k)
 .by_cases hk:k∈A.map (·.1)
  .rw[wU hk];exact h.nd
  .rw[BJ hk,aAv,aAo];refine⟨h.nd,sS,fun a ha b hb e=>?_⟩
   grind
abbrev prE(e:Ed):Int×Int:=prP e.a e.b
def jY(E:List Ed)(p:Int×Int):List Ed:=E.filter fun e=>decide (prE e=p)
abbrev kN(g:Gr)(v x:Int):List Ed:=jY g.es (prP v x)
abbrev TL:=List (Int×List Int)
def pL(v:Int)(ds:List Int):TL->TL
 |[]=>[(v,ds)]
 |p::T=>if p.1=v then(v,p.2++ds)::T else p::pL v ds T
def eD(v:Int):TL->List Int
 |[]=>[]
 |p::T=>if p.1=v then p.2 else eD v T
def dW(g:Gr)(v:Int)(L:List Int)(T:TL):TL:=L.foldl (fun T x=>pL v (fP (kN g v x) v x) T) T
def dH(v:Int):Tn->List (Int×Int)
 |[]=>[]
 |a::A=>if a.1=v then a.2 else dH v A
def fN(g:Gr)(A:Tn)(K:List Int)(T:TL):TL:=K.foldl (fun T v=>dW g v (bX (dH v A)) T) T
def gW(T:TL):Nat:=(T.map fun p=>p.2.length).sum
def okE(F:List (List Int))(A:Tn)(T:TL):Prop:=F.length<=300/\(∀ r∈F,r.length<=1000)/\A.length<=1000/\(∀ a∈A,a.2.length<=1000)/\gW T<=100000
instance (F:List (List Int)) (A:Tn) (T:TL):Decidable (okE F A T):=by unfold okE;infer_instance
def vA(g:Gr)(F:List (List Int))(T:TL):TL:=fN g (aT F) (qA ((aT F).map (·.1))) T
def zI(g:Gr):List (List Ed)->TL->Option (Option TL)
 |[],T=>some (some T)
 |l::bl,T=>(rO l).bind fun o=>match o with
  |none=>some none
  |some F=>if okE F (aT F) (vA g F T)then zI g bl (vA g F T)else none
def jU(g:Gr)(bl:List (List Ed)):Option (Option Mp):=
 (zI g bl []).bind fun o=>match o with
   |none=>some none
   |some T=>if ∀ v∈g.vs,(eD v T).length<=1000 then some (some ⟨g,g.vs.map fun v=>nrm (eD v T)⟩)else none
theorem Ms(P:List (Int×Int))(f:Int):∀ n x,(goR P f n x).length<=n
 |0,_=>by simp[goR]
 |n+1,x=>by
  unfold goR
  split
  .have:=Ms P f n (oB P x);grind
  .simp
theorem Km(P:List (Int×Int)):(bX P).length<=P.length:=Ms _ _ _ _
theorem uL(v:Int)(ds:List Int):∀ T:TL,gW (pL v ds T)=gW T+ds.length
 |[]=>by simp[pL,gW]
 |p::T=>by
  have ih:=uL v ds T
  grind [pL,gW]
theorem xD(g:Gr)(v:Int):∀(L:List Int) (T:TL),gW T<=gW (dW g v L T)
 |[],_=>aAl _
 |x::L,T=>by
  have h:=xD g v L (pL v (fP (kN g v x) v x) T)
  grind [uL,dW]
theorem EP(g:Gr)(A:Tn):∀(K:List Int) (T:TL),gW T<=gW (fN g A K T)
 |[],_=>aAl _
 |v::K,T=>by
  have h:=EP g A K (dW g v (bX (dH v A)) T)
  grind [xD,fN]
theorem Aq(v:Int):∀ T:TL,(eD v T).length<=gW T
 |[]=>aAl _
 |p::T=>by
  have ih:=Aq v T
  grind [eD,gW]
theorem HW(g:Gr)(A:Tn)(K:List Int)(T:TL)(j:Nat):fN g A K T=fN g A (K.drop j) (fN g A (K.take j) T):=by
 grind [fN,List.take_append_drop]
theorem IZ(g:Gr)(v:Int)(L:List Int)(T:TL)(j:Nat):dW g v L T=dW g v (L.drop j) (dW g v (L.take j) T):=by
 grind [dW,List.take_append_drop]
theorem Hf{v:Int}:∀ {A:Tn},v∈A.map (·.1)->(v,dH v A)∈A
 |a::A,h=>by
  unfold dH;by_cases e:a.1=v
  .grind
  .rw[aAa e];simp only[aAm,aAe]at h;exact aAc _ (Hf (h.resolve_left fun h=>e h.symm))
theorem Td(x y:Int)(P:List (Int×Int)):qV x y P≠[]:=by
 cases P with
 |nil=>simp[qV]
 |cons p P=>grind [qV]
theorem Lp{v x y:Int}:∀ {A:Tn},(∀ a∈A,a.2≠[])->∀ a∈iB v x y A,a.2≠[]
 |[],_,a,ha=>by grind [iB]
 |b::A,h,a,ha=>by
  unfold iB at ha
  split at ha
  .grind [Td]
  .rcases aAe.1 ha with ha|ha
   .grind
   .exact Lp (fun a ha=>h a (aAc _ ha)) a ha
theorem Is(r:List Int){A:Tn}(h:∀ a∈A,a.2≠[]):∀ j,∀ a∈kK r A j,a.2≠[]
 |0=>h
 |j+1=>Lp (Is r h j)
theorem Ks(R:List (List Int)):∀ a∈aT R,a.2≠[]:=by
 unfold aT;have key:∀(R:List (List Int)) (A:Tn),(∀ a∈A,a.2≠[])->∀ a∈R.foldl (fun A r=>kK r A r.length) A,a.2≠[]:=fun R=>by
  induction R with
  |nil=>grind
  |cons r R ih=>exact fun A h=>ih _ (Is r h _)
 grind
structure Fy(E:List Ed)(A:RM):Prop where
 row:∀ a∈A,∃ p,a.1=pk p/\a.2.2.1=(jY E p).length/\a.2.2.2=eds (jY E p)
 all:∀ e∈E,pk (prE e)∈A.map (·.1)
theorem DK(E:List Ed)(x:Ed)(p:Int×Int):jY (E++[x]) p=if prE x=p then jY E p++[x]else jY E p:=by
 grind [jY]
theorem Fy.get{E:List Ed}{A:RM}(h:Fy E A)(hn:(A.map (·.1)).Nodup)(p:Int×Int):
 (jY E p=[]/\getM (pk p) A=none)\/∃ t,getM (pk p) A=some (t,(jY E p).length,eds (jY E p)):=by
 cases hg:getM (pk p) A with
 |none=>refine .inl ⟨?_,rfl⟩;refine aBZ.2 fun e he=>?_;obtain⟨h1,h2⟩:=aAB.1 he;exact getM_none hg (by rw[<- aCl h2];exact h.all e h1)
 |some x=>
  obtain⟨t,n,c⟩:=x;obtain⟨q,h1,h2,h3⟩:=h.row _ (nX hg)
  grind
theorem Fy.add{E:List Ed}{A:RM}(h:Fy E A)(hn:(A.map (·.1)).Nodup)(x:Ed)(t:Nat):
 Fy (E++[x]) (nO (pk (prE x)) (t,(jY E (prE x)).length+1,eds (jY E (prE x))++[u x.id,u x.a,u x.b]) A):=by
 refine⟨fun a ha=>?_,fun e he=>?_⟩
 .rcases rH hn a ha with rfl|⟨ha,c7⟩
  .grind [DK]
  .obtain⟨p,h1,h2,h3⟩:=h.row a ha
   grind [DK]
 .by_cases hk:pk (prE x)∈A.map (·.1)
  .rw[wU hk];rcases aAd.1 he with he|he
   .exact h.all e he
   grind
  .rw[BJ hk,aAv,aAd];rcases aAd.1 he with he|he
   .exact .inl (h.all e he)
   grind
def vZ(T:TL)(A:RM):Prop:=A.map (fun a=>(a.1,a.2.2))=T.map fun p=>([p.1],(p.2.length,us p.2))
theorem vZ.get{v:Int}:∀ {T:TL} {A:RM},vZ T A->(eD v T=[]/\getM [v] A=none)\/∃ t,getM [v] A=some (t,(eD v T).length,us (eD v T))
 |[],[],_=>.inl ⟨rfl,rfl⟩
 |[],a::A,h=>by cases h
 |p::T,[],h=>by cases h
 |p::T,a::A,h=>by
  obtain⟨ak,at',an,ac⟩:=a;simp only[vZ,aAm,aBw,aBd]at h;obtain⟨⟨h1,h2,h3⟩,h4⟩:=h;subst h1;subst h2;subst h3;unfold eD getM;by_cases e:p.1=v
  .grind
  .rw[aAa e,aAa (by grind)];exact vZ.get h4
theorem vZ.add{v:Int}{ds:List Int}(t:Nat):∀ {T:TL} {A:RM},vZ T A->vZ (pL v ds T) (nO [v] (t,(eD v T).length+ds.length,us (eD v T)++us ds) A)
 |[],[],_=>by simp[vZ,pL,nO,eD]
 |[],a::A,h=>by cases h
 |p::T,[],h=>by cases h
 |p::T,a::A,h=>by
  obtain⟨ak,at',an,ac⟩:=a;simp only[vZ,aAm,aBw,aBd]at h;obtain⟨⟨h1,h2,h3⟩,h4⟩:=h;subst h1;subst h2;subst h3;unfold eD pL nO;by_cases e:p.1=v
  .grind [vZ]
  .rw[aAa e,aAa e,aAa (by grind)];have:=vZ.add (v:=v) (ds:=ds) t (T:=T) (A:=A) h4
   grind [vZ]
end Aw
namespace Aw
open Go Go.RowKit Pl Eu
def PF(F:List (List Int)):List (Int×Int):=F.flatMap prs
def Con(F:List (List Int)):Prop:=∀ R:(Int×Int)->(Int×Int)->Prop,(∀ p q,R p q->R q p)->(∀ p q r,R p q->R q r->R p r)->(∀ r∈F,∀ p∈prs r,∀ q∈prs r,R p q)->(∀ p∈PF F,R p p.swap)->∀ p∈PF F,∀ q∈PF F,R p q
structure Drn(E:List Ed)(h:Sh):Prop where
 nd:(PF h.F).Nodup
 mem:∀ u v,(u,v)∈PF h.F↔u≠v/\prP u v∈h.L
 lnd:h.L.Nodup
 sub:∀ p∈h.L,∃ e∈E,prE e=p
 on:∀ v,v∈h.on↔∃ u,u≠v/\prP u v∈h.L
 cnt:h.F.length+((vsF E).filter fun v=>decide (v∈h.on)).length=h.L.length+2
 con:Con h.F
 ne:∀ r∈h.F,r≠[]
theorem aI(u v:Int):prP u v=prP v u:=by unfold prP;rw[Int.min_comm,Int.max_comm]
theorem bG{u v x y:Int}(h:prP u v=prP x y):(u=x/\v=y)\/(u=y/\v=x):=by unfold prP at h;injection h with h1 h2;omega
theorem aX{F:List (List Int)}{p:Int×Int}:p∈PF F↔∃ r∈F,p∈prs r:=aAY
theorem tU:∀ {w:List Int} {v:Int},2<=w.length->v∈w->∃ u,(u,v)∈lnk w\/(v,u)∈lnk w
 |a::b::l,v,_,h=>by
  rcases aAe.1 h with rfl|h
  .exact⟨b,.inr (by simp[lnk])⟩
  .rcases aAe.1 h with rfl|h'
   .exact⟨a,.inl (by simp[lnk])⟩
   .have h2:2<=(b::l).length:=by have:=aEk h';simp;omega
    obtain⟨u,hu⟩:=tU (w:=b::l) h2 h;exact⟨u,hu.imp (fun k=>aAc _ k) fun k=>aAc _ k⟩
theorem iH{r:List Int}{v:Int}(h:v∈r):∃ u,(v,u)∈prs r:=by
 obtain⟨A,B,rfl⟩:=aBb h;unfold prs;cases A with
 |nil=>
  rw[List.nil_append,List.cons_append];cases B with
  |nil=>exact⟨v,by simp[lnk]⟩
  |cons b B=>exact⟨b,by simp[lnk]⟩
 |cons a A=>
  have e:(a::A++v::B)++(a::A++v::B).take 1=(a::A)++v::(B++[a]):=sS;rw[e,fA];cases B with
  |nil=>exact⟨a,aAx _ (by simp[lnk])⟩
  |cons b B=>exact⟨b,aAx _ (by simp[lnk])⟩
theorem pS{r:List Int}{x y:Int}(h:(x,y)∈prs r):x∈r/\y∈r:=by unfold prs at h;have:=bF h;rw[aAd,aAd]at this;exact⟨this.1.elim id aBT,this.2.elim id aBT⟩
theorem kV:∀(P L:List (Int×Int)),P.Nodup->(∀ p∈P,p∉L)->P.foldl KR L=L++P
 |[],L,_,_=>by simp
 |p::P,L,hn,h=>by
  obtain⟨h1,h2⟩:=aAq.1 hn
  rw[List.foldl_cons,KR,aAa (h p aAf),kV P (L++[p]) h2 fun q hq hm=>by
   rw[aAd,aAk]at hm;rcases hm with hm|rfl
   .exact h q (aAc _ hq) hm
   .exact h1 hq]
  simp
theorem fE{w:List Int}(h:w.Nodup):(iP w).Nodup:=by
 obtain⟨h1,h2⟩:=dJ h;rw[eC,List.nodup_iff_pairwise_ne,aAV];refine h1.imp_of_mem fun {p q} hp hq c7 e=>?_;rcases bG e with⟨e1,e2⟩|⟨e1,e2⟩
 .exact c7 (aCe e1 e2)
 .exact(h2 p.1 p.2 hp).2 (by rw[e1,e2];exact hq)
theorem Ij{l M on w:List Int}(hl:l.Nodup)(hM:M.Nodup)(N0:∀ v∈M,v∈l)(hMo:∀ v∈M,v∉on)(hw:∀ v∈l,v∈w↔v∈M\/(v∈w/\v∈on)):(l.filter fun v=>decide (v∈on++w)).length=(l.filter fun v=>decide (v∈on)).length+M.length:=by
 have hp:(l.filter fun v=>decide (v∈on++w)).Perm ((l.filter fun v=>decide (v∈on))++M):=by
  refine(aAZ (hl.sublist aBo) (aAo.2 ⟨hl.sublist aBo,hM,?_⟩)).2 fun v=>?_
  .rintro a ha b hb rfl;rw[aAB,aAR]at ha;exact hMo a hb ha.2
  .rw[aAB,aAR,aAd,aAd,aAB,aAR];constructor
   .rintro⟨h1,h2|h2⟩
    .exact .inl ⟨h1,h2⟩
    .rcases(hw v h1).1 h2 with h|h
     .exact .inr h
     .exact .inl ⟨h1,h.2⟩
   .rintro(⟨h1,h2⟩|h)
    .exact⟨h1,.inl h2⟩
    .exact⟨N0 v h,.inr ((hw v (N0 v h)).2 (.inl h))⟩
 have:=hp.length_eq
 rwa [aAn]at this
theorem nW{w:List Int}(hw:2<=w.length):w=w.getD 0 0::(dF w++[w.getD (w.length-1) 0]):=by
 have hl:w.length-1<w.length:=oO;have a1:w=w.getD 0 0::w.drop 1:=by
  cases w with
  |nil=>simp at hw
  |cons x w=>rfl
 have a2:w.drop 1=dF w++[w.getD (w.length-1) 0]:=by
  have e3:w.drop (w.length-1+1)=[]:=aCz oO;unfold dF
  conv=>lhs;rw[<- aAz (w.length-2) (w.drop 1)]
  rw[aCp,show 1+(w.length-2)=w.length-1 by omega,aAg,aAh hl,Option.getD_some,aAN hl,e3]
 rw[<- a2];exact a1
section
variable {E:List Ed} {h:Sh} (hD:Drn E h)
include hD
theorem Drn.ring_on{r:List Int}(hr:r∈h.F){v:Int}(hv:v∈r):v∈h.on:=by obtain⟨u,hu⟩:=iH hv;have:=(hD.mem v u).1 (aX.2 ⟨r,hr,hu⟩);exact(hD.on v).2 ⟨u,fun e=>this.1 e.symm,by rw[aI];exact this.2⟩
theorem Drn.on_vs{v:Int}(hv:v∈h.on):v∈vsF E:=by
 obtain⟨u,hu,hm⟩:=(hD.on v).1 hv;obtain⟨e,he,hp⟩:=hD.sub _ hm;rw[bA];rcases bG hp with⟨e1,e2⟩|⟨e1,e2⟩
 .exact⟨e,he,.inr e2.symm⟩
 .exact⟨e,he,.inl e1.symm⟩
theorem Drn.lay{w:List Int}{at':Nat}(W9:at' < h.F.length)(N9:2<=w.length)(hwn:w.Nodup)(h1:w.getD 0 0∈h.F.getD at' [])(h2:w.getD (w.length-1) 0∈h.F.getD at' [])(hm:∀ v∈dF w,v∉h.on)
 (hp:∀ x y,(x,y)∈lnk w->prP x y∉h.L/\∃ e∈E,prE e=prP x y):Drn E (gV h w at'):=by
 have ews:=nW N9;have c7:w.getD 0 0≠w.getD (w.length-1) 0:=fun e=>by rw[ews,e]at hwn;exact(aAq.1 hwn).1 sS
 obtain⟨a,b,ha,hb,q1,q2,q3⟩:=VS N9 c7 h1 h2;obtain⟨n1,n2⟩:=dJ hwn;have hrin:h.F.getD at' []∈h.F:=by rw[aAg,aAh W9];exact aAE _
 have o1:=hD.ring_on hrin h1;have o2:=hD.ring_on hrin h2;have hFs:∃ F1 F2,h.F=F1++h.F.getD at' []::F2/\∀ r,h.F.set at' r=F1++r::F2:=by
  refine⟨h.F.take at',h.F.drop (at'+1),?_,fun r=>?_⟩
  .rw[aAg,aAh W9,Option.getD_some,<- aAN W9,aAz]
  .rw[aBO,aAj W9]
 obtain⟨F1,F2,f1,f2⟩:=hFs;have hlen:(gV h w at').F.length=h.F.length+1:=by simp[gV]
 have hF:(gV h w at').F=(h.F.set at' (iW (h.F.getD at' []) ((h.F.getD at' []).idxOf (w.getD 0 0)) ((h.F.getD at' []).idxOf (w.getD (w.length-1) 0))++(dF w).reverse))++[iW (h.F.getD at' []) ((h.F.getD at' []).idxOf (w.getD (w.length-1) 0)) ((h.F.getD at' []).idxOf (w.getD 0 0))++dF w]:=rfl;rw[f2]at hF;have hL:(gV h w at').L=h.L++iP w:=by
  have:(gV h w at').L=kL h.L w:=rfl;rw[this];exact kV _ _ (fE hwn) fun p hpp=>by rw[eC]at hpp;obtain⟨q,hq,rfl⟩:=aAi.1 hpp;exact(hp q.1 q.2 hq).1
 have hOn:(gV h w at').on=h.on++w:=rfl;generalize gV h w at'=h' at *;generalize iW (h.F.getD at' []) ((h.F.getD at' []).idxOf (w.getD 0 0)) ((h.F.getD at' []).idxOf (w.getD (w.length-1) 0))++(dF w).reverse=r1 at *;generalize iW (h.F.getD at' []) ((h.F.getD at' []).idxOf (w.getD (w.length-1) 0)) ((h.F.getD at' []).idxOf (w.getD 0 0))++dF w=r2 at *;generalize h.F.getD at' []=r at *;have hPF:(PF h'.F).Perm (PF h.F++(lnk w++lnk w.reverse)):=by
  rw[hF,f1];unfold PF;simp only[aBX,aAH,aDh,aAS];rw[q2,q3];have e1:(List.flatMap prs F1++(a++lnk w.reverse++List.flatMap prs F2)++(b++lnk w)).Perm (List.flatMap prs F1++((a++b)++List.flatMap prs F2)++(lnk w++lnk w.reverse)):=by rw[aEF];intro x;simp only[List.count_append];omega
  refine e1.trans ?_;exact(((q1.symm.append_right _).append_left _).append_right _)
 have hlw:∀ u v,prP u v∈iP w↔(u,v)∈lnk w\/(v,u)∈lnk w:=fun u v=>by
  rw[eC,aAi];constructor
  .rintro⟨q,hq,e⟩;rcases bG e with⟨e1,e2⟩|⟨e1,e2⟩
   .left;rw[<- e1,<- e2];exact hq
   .right;rw[<- e1,<- e2];exact hq
  .rintro(k|k)
   .exact⟨_,k,rfl⟩
   .exact⟨_,k,aI _ _⟩
 have hrev:∀ u v,(u,v)∈lnk w.reverse↔(v,u)∈lnk w:=fun u v=>by
  rw[(pB w).mem_iff,aAi];constructor
  .rintro⟨q,hq,e⟩;have:q=(v,u):=by rw[<- aBN q,e];rfl
   rw[<- this];exact hq
  .intro k;exact⟨_,k,rfl⟩
 have N5:∀ u v,(u,v)∈PF h'.F↔u≠v/\prP u v∈h'.L:=fun u v=>by
  rw[hPF.mem_iff,aAd,aAd,hD.mem,hrev,hL,aAd,hlw];constructor
  .rintro(⟨k1,k2⟩|k|k)
   .exact⟨k1,.inl k2⟩
   .exact⟨(n2 _ _ k).1,.inr (.inl k)⟩
   .exact⟨fun e=>(n2 _ _ k).1 e.symm,.inr (.inr k)⟩
  .rintro⟨k1,k2|k|k⟩
   .exact .inl ⟨k1,k2⟩
   .exact .inr (.inl k)
   .exact .inr (.inr k)
 have hmid:∀ v∈w,v∈dF w\/v∈h.on:=fun v hv=>by
  rw[ews]at hv;rcases aAe.1 hv with e|hv
  .exact .inr (by rw[e];exact o1)
  .rcases aAd.1 hv with hv|hv
   .exact .inl hv
   .exact .inr (by rw[aAk.1 hv];exact o2)
 refine⟨?_,N5,?_,?_,?_,?_,?_,?_⟩
 .refine hPF.nodup_iff.2 (aAo.2 ⟨hD.nd,aAo.2 ⟨n1,(dJ ((aBq w).nodup_iff.2 hwn)).1,?_⟩,?_⟩)
  .rintro⟨x,y⟩ hx _ hy rfl;exact(n2 x y hx).2 ((hrev _ _).1 hy)
  .rintro⟨x,y⟩ hx _ hy rfl;have k:=((hD.mem x y).1 hx).2;rcases aAd.1 hy with hy|hy
   .exact(hp x y hy).1 k
   .exact(hp y x ((hrev _ _).1 hy)).1 (by rw[aI];exact k)
 .rw[hL];refine aAo.2 ⟨hD.lnd,fE hwn,?_⟩;rintro p T7 _ Y8 rfl;rw[eC]at Y8;obtain⟨q,hq,rfl⟩:=aAi.1 Y8;exact(hp q.1 q.2 hq).1 T7
 .intro p u5;rw[hL]at u5;rcases aAd.1 u5 with k|k
  .exact hD.sub p k
  .rw[eC]at k;obtain⟨q,hq,rfl⟩:=aAi.1 k;exact(hp q.1 q.2 hq).2
 .intro v;rw[hOn,aAd,hD.on,hL];constructor
  .rintro(⟨u,k1,k2⟩|k)
   .exact⟨u,k1,aAr _ k2⟩
   .obtain⟨u,k|k⟩:=tU N9 k
    .exact⟨u,(n2 _ _ k).1,aAx _ ((hlw u v).2 (.inl k))⟩
    .exact⟨u,fun e=>(n2 _ _ k).1 e.symm,aAx _ ((hlw u v).2 (.inr k))⟩
  .rintro⟨u,k1,k2⟩;rcases aAd.1 k2 with k|k
   .exact .inl ⟨u,k1,k⟩
   .right;rcases(hlw u v).1 k with k|k
    .exact(bF k).2
    .exact(bF k).1
 .have hmn:(dF w).Nodup:=by rw[ews]at hwn;exact(aAo.1 (aAq.1 hwn).2).1
  have hvw:∀ v∈w,v∈vsF E:=fun v hv=>by
   obtain⟨u,k|k⟩:=tU N9 hv
   .obtain⟨e,he,S4⟩:=(hp _ _ k).2;rw[bA];rcases bG S4 with⟨e1,e2⟩|⟨e1,e2⟩
    .exact⟨e,he,.inr e2.symm⟩
    .exact⟨e,he,.inl e1.symm⟩
   .obtain⟨e,he,S4⟩:=(hp _ _ k).2;rw[bA];rcases bG S4 with⟨e1,e2⟩|⟨e1,e2⟩
    .exact⟨e,he,.inl e1.symm⟩
    .exact⟨e,he,.inr e2.symm⟩
  have hc:=Ij (l:=vsF E) (M:=dF w) (on:=h.on) (w:=w) ((kY E).imp fun k=>by omega) hmn (fun v hv=>hvw v (nN hv)) hm fun v _=>⟨fun k=>(hmid v k).imp id fun k2=>⟨k,k2⟩,fun k=>k.elim nN And.left⟩;have Q7:=uQ w;have hc0:=hD.cnt;have hwl:=nR w;rw[hlen,hOn,hL,aAn,hc];omega
 ·
  intro R hs ht hr P7;have m1:∀ p∈prs r1,p∈PF h'.F:=fun p k=>aX.2 ⟨r1,by rw[hF];simp,k⟩;have m2:∀ p∈prs r2,p∈PF h'.F:=fun p k=>aX.2 ⟨r2,by rw[hF];simp,k⟩;have w1:=hr r1 (by rw[hF];simp);have w2:=hr r2 (by rw[hF];simp);obtain⟨x0,y0,L7⟩:∃ x y,(x,y)∈lnk w:=by
   obtain⟨u,k|k⟩:=tU N9 (v:=w.getD 0 0) (by rw[aAg,aAh (by omega:0<w.length)];exact aAE _)
   .exact⟨_,_,k⟩
   .exact⟨_,_,k⟩
  have c2:(x0,y0)∈prs r2:=by rw[q3];exact aAx _ L7
  have c1:(y0,x0)∈prs r1:=by rw[q2];exact aAx _ ((hrev _ _).2 L7)
  have cc:R (x0,y0) (y0,x0):=P7 _ (m2 _ c2);have both:∀ p,p∈prs r1\/p∈prs r2->R p (x0,y0):=by
   rintro p (k|k)
   .exact ht _ _ _ (w1 p k _ c1) (hs _ _ cc)
   .exact w2 p k _ c2
  have x8:∀ p∈prs r,p∈prs r1\/p∈prs r2:=fun p k=>by
   rcases aAd.1 (q1.mem_iff.1 k)with k|k
   .left;rw[q2];exact aAr _ k
   .right;rw[q3];exact aAr _ k
  have old:∀ p∈PF h.F,∀ q∈PF h.F,R p q:=by
   refine hD.con R hs ht (fun t htF p U5 q hq'=>?_) fun p U5=>P7 p (hPF.mem_iff.2 (aAr _ U5));rw[f1]at htF;rcases aAd.1 htF with k|k
   .exact hr t (by rw[hF];simp[k]) p U5 q hq'
   .rcases aAe.1 k with e|k
    .subst e;exact ht _ _ _ (both p (x8 p U5)) (hs _ _ (both q (x8 q hq')))
    .exact hr t (by rw[hF];simp[k]) p U5 q hq'
  obtain⟨p0,hp0⟩:=aAP a ha;have k0:p0∈prs r:=q1.mem_iff.2 (aAr _ hp0);have k1:p0∈PF h.F:=aX.2 ⟨r,hrin,k0⟩;have z:R p0 (x0,y0):=both p0 (x8 p0 k0);have all:∀ p∈PF h'.F,R p (x0,y0):=fun p hpp=>by
   rcases aAd.1 (hPF.mem_iff.1 hpp)with k|k
   .exact ht _ _ _ (old p k p0 k1) z
   .refine both p ?_;rcases aAd.1 k with k|k
    .right;rw[q3];exact aAx _ k
    .left;rw[q2];exact aAx _ k
  exact fun p U5 q hq'=>ht _ _ _ (all p U5) (hs _ _ (all q hq'))
 .intro t ht;rw[hF]at ht;have nil:prs []=[]:=rfl;rcases aAd.1 ht with k|k
  .rcases aAd.1 k with k|k
   .exact hD.ne t (by rw[f1];simp[k])
   .rcases aAe.1 k with e|k
    .rintro e0;rw[<- e,e0,nil]at q2;exact ha (aEm.1 q2.symm).1
    .exact hD.ne t (by rw[f1];simp[k])
  .rw[aAk]at k;rintro e0;rw[<- k,e0,nil]at q3;exact hb (aEm.1 q3.symm).1
end
theorem CH(a b:Int)(M:List Int):prs (a::(M++[b]))=lnk (a::(M++[b]))++[(b,a)]:=by
 have e:prs (a::(M++[b]))=lnk ((a::M)++b::[a]):=by unfold prs;simp
 rw[e,fA];rfl
theorem Th{a b m:Int}{M:List Int}(hn:(a::(m::M++[b])).Nodup):(a,b)∉lnk (a::(m::M++[b]))/\(b,a)∉lnk (a::(m::M++[b])):=by
 obtain⟨h1,h2⟩:=aAq.1 hn;have hb:b∈m::M++[b]:=sS;have hmb:m≠b:=fun e=>(aAq.1 h2).1 (by rw[e];simp);have e:lnk (a::(m::M++[b]))=(a,m)::lnk (m::M++[b]):=rfl;rw[e];constructor
 .intro h;rcases aAe.1 h with h|h
  .injection h with _ h;exact hmb h.symm
  .exact h1 (bF h).1
 .intro h;rcases aAe.1 h with h|h
  .injection h with h _;exact h1 (by rw[<- h];exact hb)
  .exact h1 (bF h).2
theorem Drn.start{E:List Ed}{x:Ed}{m:Int}{M ring:List Int}(hx:x∈E)(hr:ring=x.a::(m::M++[x.b]))(hn:ring.Nodup)(hp:∀ u v,(u,v)∈lnk ring->∃ e∈E,prE e=prP u v):
 Drn E ⟨kL (kL [] ring) [x.a,x.b],ring++[x.a,x.b],[ring,ring.reverse]⟩:=by
 obtain⟨n1,n2⟩:=dJ hn;have x9:=Th (by rw[<- hr];exact hn);rw[<- hr]at x9;have x8:x.a≠x.b:=fun e=>by rw[hr]at hn;exact(aAq.1 hn).1 (by rw[e];simp)
 have pr1:prs ring=lnk ring++[(x.b,x.a)]:=by
  have:=CH x.a x.b (m::M)
  rwa [<- hr]at this
 have pr2:prs ring.reverse=lnk ring.reverse++[(x.a,x.b)]:=by
  have e:ring.reverse=x.b::((m::M).reverse++[x.a]):=by rw[hr];simp
  rw[e];exact CH _ _ _
 have hlw:∀ u v,prP u v∈iP ring↔(u,v)∈lnk ring\/(v,u)∈lnk ring:=fun u v=>by
  rw[eC,aAi];constructor
  .rintro⟨q,hq,e⟩;rcases bG e with⟨e1,e2⟩|⟨e1,e2⟩
   .left;rw[<- e1,<- e2];exact hq
   .right;rw[<- e1,<- e2];exact hq
  .rintro(k|k)
   .exact⟨_,k,rfl⟩
   .exact⟨_,k,aI _ _⟩
 have hrev:∀ u v,(u,v)∈lnk ring.reverse↔(v,u)∈lnk ring:=fun u v=>by
  rw[(pB ring).mem_iff,aAi];constructor
  .rintro⟨q,hq,e⟩;have:q=(v,u):=by rw[<- aBN q,e];rfl
   rw[<- this];exact hq
  .intro k;exact⟨_,k,rfl⟩
 have hL:kL (kL [] ring) [x.a,x.b]=iP ring++[prP x.a x.b]:=by
  have e1:kL [] ring=iP ring:=by
   have:=kV (iP ring) [] (fE hn) fun p _ h=>by cases h
   rw[List.nil_append]at this;exact this
  rw[e1];exact kV [prP x.a x.b] (iP ring) sS fun p T7 Y8=>by rw[aAk]at T7;subst T7;exact((hlw _ _).1 Y8).elim x9.1 x9.2
 have N9:2<=ring.length:=by rw[hr];simp
 have ha:x.a∈ring:=by rw[hr];simp
 have hb:x.b∈ring:=by rw[hr];simp
 have hPF:PF [ring,ring.reverse]=(lnk ring++[(x.b,x.a)])++(lnk ring.reverse++[(x.a,x.b)]):=by simp[PF,pr1,pr2]
 rw[hL];refine⟨?_,fun u v=>?_,?_,?_,fun v=>?_,?_,?_,?_⟩
 .show(PF [ring,ring.reverse]).Nodup;rw[hPF];have n3:=(dJ ((aBq ring).nodup_iff.2 hn)).1;refine aAo.2 ⟨aAo.2 ⟨n1,sS,?_⟩,aAo.2 ⟨n3,sS,?_⟩,?_⟩
  .rintro p T7 q hq rfl;rw[aAk]at hq;subst hq;exact x9.2 T7
  .rintro p T7 q hq rfl;rw[aAk]at hq;subst hq;exact x9.2 ((hrev _ _).1 T7)
  .rintro⟨u,v⟩ T7 q hq rfl;rcases aAd.1 T7 with k|k
   .rcases aAd.1 hq with k2|k2
    .exact(n2 u v k).2 ((hrev _ _).1 k2)
    .rw[aAk]at k2;injection k2 with e1 e2;subst e1;subst e2;exact x9.1 k
   .rw[aAk]at k;injection k with e1 e2;subst e1;subst e2;rcases aAd.1 hq with k2|k2
    .exact x9.1 ((hrev _ _).1 k2)
    .rw[aAk]at k2;injection k2 with e1 e2;exact x8 e2
 .show(u,v)∈PF [ring,ring.reverse]↔u≠v/\prP u v∈iP ring++[prP x.a x.b];rw[hPF];simp only[aAd,aAk,hrev,hlw,aBd];constructor
  .rintro((k|⟨rfl,rfl⟩)|k|⟨rfl,rfl⟩)
   .exact⟨(n2 _ _ k).1,.inl (.inl k)⟩
   .exact⟨fun e=>x8 e.symm,.inr (aI _ _)⟩
   .exact⟨fun e=>(n2 _ _ k).1 e.symm,.inl (.inr k)⟩
   .exact⟨x8,.inr rfl⟩
  .rintro⟨_,(k|k)|k⟩
   .exact .inl (.inl k)
   .exact .inr (.inl k)
   .rcases bG k with⟨e1,e2⟩|⟨e1,e2⟩
    .exact .inr (.inr ⟨e1,e2⟩)
    .exact .inl (.inr ⟨e1,e2⟩)
 .refine aAo.2 ⟨fE hn,sS,?_⟩;rintro p T7 q hq rfl;rw[aAk]at hq;subst hq;exact((hlw _ _).1 T7).elim x9.1 x9.2
 .intro p u5;rcases aAd.1 u5 with k|k
  .rw[eC]at k;obtain⟨q,hq,rfl⟩:=aAi.1 k;exact hp _ _ hq
  .exact⟨x,hx,(aAk.1 k).symm⟩
 .show v∈ring++[x.a,x.b]↔∃ u,u≠v/\prP u v∈iP ring++[prP x.a x.b];have e:v∈ring++[x.a,x.b]↔v∈ring:=by
   simp only[aAd,aAe,aCd,aDE];constructor
   .rintro(k|rfl|rfl)
    .exact k
    .exact ha
    .exact hb
   .exact .inl
  rw[e];constructor
  .intro k;obtain⟨u,k|k⟩:=tU N9 k
   .exact⟨u,(n2 _ _ k).1,aAr _ ((hlw u v).2 (.inl k))⟩
   .exact⟨u,fun e=>(n2 _ _ k).1 e.symm,aAr _ ((hlw u v).2 (.inr k))⟩
  .rintro⟨u,k1,k2⟩;rcases aAd.1 k2 with k|k
   .rcases(hlw u v).1 k with k|k
    .exact(bF k).2
    .exact(bF k).1
   .rcases bG (aAk.1 k)with⟨e1,e2⟩|⟨e1,e2⟩
    .rw[e2];exact hb
    .rw[e2];exact ha
 .have hvw:∀ v∈ring,v∈vsF E:=fun v hv=>by
   obtain⟨u,k|k⟩:=tU N9 hv
   .obtain⟨e,he,S4⟩:=hp _ _ k;rw[bA];rcases bG S4 with⟨e1,e2⟩|⟨e1,e2⟩
    .exact⟨e,he,.inr e2.symm⟩
    .exact⟨e,he,.inl e1.symm⟩
   .obtain⟨e,he,S4⟩:=hp _ _ k;rw[bA];rcases bG S4 with⟨e1,e2⟩|⟨e1,e2⟩
    .exact⟨e,he,.inl e1.symm⟩
    .exact⟨e,he,.inr e2.symm⟩
  have hc:=Ij (l:=vsF E) (M:=ring) (on:=[]) (w:=ring++[x.a,x.b]) ((kY E).imp fun k=>by omega) hn hvw (fun v _ h=>by cases h) fun v _=>⟨fun k=>by
   rcases aAd.1 k with k|k
   .exact .inl k
   .rcases aAe.1 k with rfl|k
    .exact .inl ha
    .rw[aAk]at k;subst k;exact .inl hb,fun k=>k.elim (aAr _) And.left⟩
  have h0:((vsF E).filter fun v=>decide (v∈([]:List Int)))=[]:=sS;rw[h0,List.nil_append]at hc;have hwl:=nR ring;show 2+((vsF E).filter fun v=>decide (v∈ring++[x.a,x.b])).length=(iP ring++[prP x.a x.b]).length+2;rw[hc,aAn];simp only[List.length_nil,List.length_cons];omega
 .intro R hs ht T0 P7 p U5 q hq';have w1:=T0 ring sS;have w2:=T0 ring.reverse sS;have c1:(x.b,x.a)∈prs ring:=by rw[pr1];simp
  have c2:(x.a,x.b)∈prs ring.reverse:=by rw[pr2];simp
  have cc:R (x.b,x.a) (x.a,x.b):=P7 _ (aX.2 ⟨ring,sS,c1⟩);have all:∀ p∈PF [ring,ring.reverse],R p (x.a,x.b):=fun p hpp=>by
   obtain⟨t,ht',k⟩:=aX.1 hpp;rcases aAe.1 ht' with e|e
   .rw[e]at k;exact ht _ _ _ (w1 p k _ c1) cc
   .rw[aAk.1 e]at k;exact w2 p k _ c2
  exact ht _ _ _ (all p U5) (hs _ _ (all q hq'))
 .intro t ht;rcases aAe.1 ht with rfl|ht
  .rw[hr];simp
  .rw[aAk]at ht;subst ht;rw[hr];simp
theorem CQ{α:Type}[DecidableEq α]{A B:List α}(hA:A.Nodup)(hB:B.Nodup)(hs:∀ x∈A,x∈B)(hl:B.length<=A.length):A.Perm B:=by
 refine(aAZ hA hB).2 fun x=>⟨hs x,fun hx=>aAI fun x9=>?_⟩;have:=aAy (aAq.2 ⟨x9,hA⟩) (l₂:=B) fun y hy=>by
  rcases aAe.1 hy with rfl|hy
  .exact hx
  .exact hs y hy
 rw[List.length_cons]at this;omega
structure jQ(E:List Ed)(F:List (List Int)):Prop where
 nd:(PF F).Nodup
 mem:∀ u v,(u,v)∈PF F↔∃ e∈E,prE e=prP u v
 cnt:F.length+(vsF E).length=E.length+2
 con:Con F
 ne:∀ r∈F,r≠[]
theorem Drn.done{E:List Ed}{h:Sh}(hD:Drn E h)(c7:∀ e∈E,e.a≠e.b)(hs:(E.map prE).Nodup)(hl:E.length<=h.L.length):jQ E h.F:=by
 have hp:h.L.Perm (E.map prE):=by refine CQ hD.lnd hs (fun p hp=>?_) (by rw[aAD];exact hl);obtain⟨e,he,rfl⟩:=hD.sub p hp;exact aAt he
 have hL:∀ p,p∈h.L↔∃ e∈E,prE e=p:=fun p=>by rw[hp.mem_iff,aAi]
 refine⟨hD.nd,fun u v=>?_,?_,hD.con,hD.ne⟩
 .rw[hD.mem,hL];constructor
  .exact And.right
  .rintro⟨e,he,S4⟩;refine⟨fun k=>?_,e,he,S4⟩;have:=c7 e he;rcases bG S4 with⟨e1,e2⟩|⟨e1,e2⟩<;>omega
 .have h1:=hD.cnt;have h2:((vsF E).filter fun v=>decide (v∈h.on))=vsF E:=aCM.2 fun v hv=>by
   rw[aAR,hD.on];obtain⟨e,he,k⟩:=(bA v E).1 hv;have:=c7 e he;rcases k with rfl|rfl
   .exact⟨e.b,fun k=>this k.symm,(hL _).2 ⟨e,he,aI _ _⟩⟩
   .exact⟨e.a,this,(hL _).2 ⟨e,he,rfl⟩⟩
  have h3:=hp.length_eq;rw[aAD]at h3;rw[h2]at h1;omega
theorem Qu{e:Ed}(c7:e.a≠e.b):jQ [e] [[e.a,e.b]]:=by
 have hPF:PF [[e.a,e.b]]=[(e.a,e.b),(e.b,e.a)]:=rfl;have hv:(vsF [e]).length=2:=by
  have hp:(vsF [e]).Perm [e.a,e.b]:=(aAZ ((kY _).imp fun k=>by omega) (sF1 c7)).2 fun v=>by rw[bA];simp
  rw[hp.length_eq];rfl
 refine⟨by rw[hPF];simp[c7],fun u v=>?_,by rw[hv];rfl,fun R hs ht hr P7 p hp q hq=>?_,sS⟩
 .rw[hPF];simp only[aAe,aCd,aDE,aBd,exists_eq_left];constructor
  .rintro(⟨rfl,rfl⟩|⟨rfl,rfl⟩)
   .rfl
   .exact aI _ _
  .intro k;rcases bG k with⟨e1,e2⟩|⟨e1,e2⟩
   .exact .inl ⟨e1.symm,e2.symm⟩
   .exact .inr ⟨e2.symm,e1.symm⟩
 .exact hr [e.a,e.b] sS p (by simpa[PF]using hp) q (by simpa[PF]using hq)
theorem LJ:∀(l:List Int) (k:Nat),k+1<l.length->(lnk l)[k]?=some (l.getD k 0,l.getD (k+1) 0)
 |[],k,h=>by simp at h
 |[_],k,h=>by simp at h
 |a::b::l,0,_=>by simp[lnk]
 |a::b::l,k+1,h=>by have:=LJ (b::l) k (by simpa using h);simpa[lnk]using this
theorem oZ(r:List Int):(prs r).length=r.length:=by
 unfold prs;rw[AM,aAn,aAw];cases r with
 |nil=>rfl
 |cons a r=>simp
theorem FR(r:List Int)(k:Nat)(h:k<r.length):(prs r)[k]?=some (r.getD k 0,r.getD ((k+1) % r.length) 0):=by
 have hl:(r++r.take 1).length=r.length+1:=by rw[aAn,aAw];omega
 unfold prs;rw[LJ _ k oO];have e1:(r++r.take 1).getD k 0=r.getD k 0:=by rw[aAg,aBe h,<- aAg]
 have e2:(r++r.take 1).getD (k+1) 0=r.getD ((k+1) % r.length) 0:=by
  rw[aAg];by_cases hk:k+1<r.length
  .rw[aBe hk,aAG hk,<- aAg]
  .have:k+1=r.length:=oO;rw[aBx oO,this,aDr,Nat.sub_self,List.getElem?_take_of_lt oO,<- aAg]
 rw[e1,e2]
def trs(r:List Int):List (Int×Int×Int):=(List.range r.length).map fun k=>(r.getD (jP r.length k) 0,r.getD k 0,r.getD ((k+1) % r.length) 0)
def CW(A:Tn)(t:Int×Int×Int):Tn:=iB t.2.1 t.1 t.2.2 A
theorem qJ{n k:Nat}(h:k<n):jP n k<n/\(jP n k+1) % n=k:=by
 unfold jP
 split
 .rename_i e;subst e;exact⟨oO,by rw[show n-1+1=n by omega,aDr]⟩
 .exact⟨oO,by rw[show k-1+1=k by omega,aAG h]⟩
theorem DW(r:List Int)(A:Tn):∀ j,j<=r.length->kK r A j=((trs r).take j).foldl CW A
 |0,_=>rfl
 |j+1,h=>by
  have ht:(trs r).take (j+1)=(trs r).take j++[(r.getD (jP r.length j) 0,r.getD j 0,r.getD ((j+1) % r.length) 0)]:=by unfold trs;rw[aAp (by simp;omega)];simp
  rw[ht,aBM,<- DW r A j oO];rfl
theorem yK(F:List (List Int)):aT F=(F.flatMap trs).foldl CW []:=by
 unfold aT;have key:∀(F:List (List Int)) (A:Tn),F.foldl (fun A r=>kK r A r.length) A=(F.flatMap trs).foldl CW A:=by
  intro F;induction F with
  |nil=>intro A;rfl
  |cons r F ih=>intro A;rw[List.foldl_cons,ih,aAH,aBM,DW r A _ (aAl _),aAu (by simp[trs])]
 exact key F []
theorem Dv(v v' x y:Int):∀ A:Tn,dH v' (iB v x y A)=if v'=v then qV x y (dH v A)else dH v' A
 |[]=>by
  unfold iB;by_cases h:v'=v
  .subst h;simp[dH,qV]
  .simp only[dH,aAa h,aAa (fun e:v=v'=>h e.symm)]
 |a::A=>by
  have ih:=Dv v v' x y A;unfold iB;by_cases ha:a.1=v
  .rw[aAj ha];by_cases h:v'=v
   .subst h;simp[dH,ha]
   .simp only[dH,aAa h,aAa (fun e:v=v'=>h e.symm),aAa (fun e:a.1=v'=>h (by rw[<- e,ha]))]
  .rw[aAa ha];by_cases h:v'=v
   .subst h;rw[aAj rfl]at ih ⊢;simp only[dH,aAa ha,ih]
   .rw[aAa h]at ih ⊢;simp only[dH,ih]
theorem Ib(x y:Int):∀ P:List (Int×Int),x∉P.map (·.1)->qV x y P=P++[(x,y)]
 |[],_=>rfl
 |p::P,h=>by rw[aAm,aAe,aCx]at h;unfold qV;rw[aAa fun e=>h.1 e.symm,Ib x y P h.2];rfl
theorem Nr(v:Int):∀(T:List (Int×Int×Int)),(T.map fun t=>(t.1,t.2.1)).Nodup->dH v (T.foldl CW [])=(T.filter fun t=>decide (t.2.1=v)).map fun t=>(t.1,t.2.2):=by
 intro T;induction T using yQ with
 |h0=>intro _;rfl
 |h1 T t ih=>
  intro hn;rw[aAv,aAo]at hn;have ih:=ih hn.1;rw[aBM,List.foldl_cons,List.foldl_nil,aCR,aAv,<- ih];rw[show CW (T.foldl CW []) t=iB t.2.1 t.1 t.2.2 (T.foldl CW []) from rfl,Dv];by_cases h:v=t.2.1
  .subst h;rw[aAj rfl,Ib]
   .simp
   .rw[ih,aAW];intro hm;obtain⟨s,hs,e⟩:=aAi.1 hm;rw[aAB,aAR]at hs;exact hn.2.2 _ (aAt (f:=fun t:Int×Int×Int=>(t.1,t.2.1)) hs.1) (t.1,t.2.1) sS (aCe e hs.2)
  .rw[aAa h];have:¬t.2.1=v:=fun e=>h e.symm;simp[this]
theorem Vd(r:List Int):((trs r).map fun t=>(t.1,t.2.1)).Perm (prs r):=by
 have e:prs r=(List.range r.length).map fun k=>(r.getD k 0,r.getD ((k+1) % r.length) 0):=by
  refine aCu fun k=>?_;by_cases h:k<r.length
  .rw[FR r k h];simp[h]
  .rw[aCa (by rw[oZ];omega),aCa (by simp;omega)]
 have e2:((trs r).map fun t=>(t.1,t.2.1))=((List.range r.length).map (jP r.length)).map fun k=>(r.getD k 0,r.getD ((k+1) % r.length) 0):=by unfold trs;rw[aAW,aAW];refine aAQ fun k hk=>?_;have:=(qJ (aBi.1 hk)).2;simp only[Function.comp_apply,this]
 rw[e,e2];refine List.Perm.map _ (CQ ?_ aDG (fun x hx=>?_) sS)
 .unfold List.Nodup;rw[aAV];refine aBH.imp_of_mem fun {a b} ha hb x8 h=>?_;have h1:=(qJ (aBi.1 ha)).2;have h2:=(qJ (aBi.1 hb)).2;rw[h]at h1;omega
 .obtain⟨k,hk,rfl⟩:=aAi.1 hx;exact aBi.2 (qJ (aBi.1 hk)).1
theorem xG(F:List (List Int)):((F.flatMap trs).map fun t=>(t.1,t.2.1)).Perm (PF F):=by
 induction F with
 |nil=>exact .refl _
 |cons r F ih=>unfold PF at ih ⊢;rw[aAH,aAH,aAv];exact(Vd r).append ih
def cd(p:Int×Int):Int:=p.1*4194304+p.2
theorem wZ{p:Int×Int}(h:0<=p.2/\p.2<4194304):cd p / 4194304=p.1:=by unfold cd;omega
theorem iJ{p q:Int×Int}(h:0<=p.2/\p.2<4194304)(k:0<=q.2/\q.2<4194304)(e:cd p=cd q):p=q:=by unfold cd at e;exact aCe oO oO
theorem QW{r:List Int}(hn:(prs r).Nodup)(hb:∀ v∈r,0<=v/\v<4194304){t:Int×Int×Int}(ht:t∈trs r):(t.1,t.2.1)∈prs r/\(t.2.1,t.2.2)∈prs r/\nx ((prs r).map cd) (cd (t.1,t.2.1))=cd (t.2.1,t.2.2):=by
 unfold trs at ht;obtain⟨k,hk,rfl⟩:=aAi.1 ht;rw[aBi]at hk;obtain⟨p1,p2⟩:=qJ hk;have hl:=oZ r;have g1:(prs r)[jP r.length k]'(by omega)=(r.getD (jP r.length k) 0,r.getD k 0):=by have:=FR r _ p1;rw[aAh oO,aAb]at this;rw[this,p2]
 have g2:(prs r)[k]'(by omega)=(r.getD k 0,r.getD ((k+1) % r.length) 0):=by have:=FR r _ hk;rw[aAh oO,aAb]at this;exact this
 have j5:∀ p∈prs r,0<=p.2/\p.2<4194304:=fun p hp=>hb _ (pS (x:=p.1) hp).2;have M3:((prs r).map cd).Nodup:=by unfold List.Nodup;rw[aAV];exact hn.imp_of_mem fun {a b} ha hb c7 e=>c7 (iJ (j5 a ha) (j5 b hb) e)
 have O5:((prs r).map cd).length=r.length:=by rw[aAD,hl]
 refine⟨by rw[<- g1];exact aAE _,by rw[<- g2];exact aAE _,?_⟩;simp only;rw[<- g1,<- g2];have:=iD M3 (j:=jP r.length k) oO;simp only[aCy]at this;rw[this]
 congr 1
 simp only[O5,p2]
def tws(E:List Ed):List (Int×Int):=E.map fun e=>(cd (e.a,e.b),cd (e.b,e.a))
theorem Ab(s:Int->Int){x:Int}:∀ P:List (Int×Int),(∀ p∈P,x≠p.1/\x≠p.2)->swP s P x=s x
 |[],_=>rfl
 |p::P,h=>by unfold swP;rw[sX (h p aAf).1 (h p aAf).2];exact Ab s P fun q hq=>h q (aAc _ hq)
theorem Mc(s:Int->Int){u v:Int}:∀ E:List Ed,(∀ e∈E,(0<=e.a/\e.a<4194304)/\0<=e.b/\e.b<4194304)->(E.map prE).Nodup->(∃ e∈E,prE e=prP u v)->swP s (tws E) (cd (v,u))=s (cd (u,v))
 |[],_,_,h=>by obtain⟨_,h,_⟩:=h;cases h
 |e::E,hb,hn,h=>by
  rw[aAm,aAq]at hn;have b0:=hb e aAf;have hbE:=fun e he=>hb e (aAc _ he);by_cases he:prE e=prP u v
  .have M0:∀ x y,prP x y=prE e->(0<=x/\x<4194304)->(0<=y/\y<4194304)->∀ p∈tws E,cd (x,y)≠p.1/\cd (x,y)≠p.2:=by
    intro x y L7 hx hy p hp;obtain⟨f,hf,rfl⟩:=aAi.1 hp;have bf:=hbE f hf;constructor
    .intro k;have:=iJ (p:=(x,y)) (q:=(f.a,f.b)) hy bf.2 k;injection this with k1 k2;exact hn.1 (aAi.2 ⟨f,hf,by rw[<- L7,k1,k2]⟩)
    .intro k;have:=iJ (p:=(x,y)) (q:=(f.b,f.a)) hy bf.1 k;injection this with k1 k2;exact hn.1 (aAi.2 ⟨f,hf,by rw[<- L7,k1,k2];exact aI _ _⟩)
   show swP s (tws E) (Eu.sw (cd (e.a,e.b)) (cd (e.b,e.a)) (cd (v,u)))=_;rcases bG he with⟨e1,e2⟩|⟨e1,e2⟩
   .rw[<- e1,<- e2,JK,Ab s _ (M0 e.a e.b rfl b0.1 b0.2)]
   .rw[<- e1,<- e2,DH,Ab s _ (M0 e.b e.a (aI _ _) b0.2 b0.1)]
  .obtain⟨f,hf,hp⟩:=h;rcases aAe.1 hf with rfl|hf
   .exact absurd hp he
   show swP s (tws E) (Eu.sw (cd (e.a,e.b)) (cd (e.b,e.a)) (cd (v,u)))=_;have bf:=hbE f hf;have bu:(0<=u/\u<4194304)/\0<=v/\v<4194304:=by
    rcases bG hp with⟨e1,e2⟩|⟨e1,e2⟩
    .rw[<- e1,<- e2];exact bf
    .rw[<- e1,<- e2];exact⟨bf.2,bf.1⟩
   rw[sX]
   .exact Mc s E hbE hn.2 ⟨f,hf,hp⟩
   .intro k;have:=iJ (p:=(v,u)) (q:=(e.a,e.b)) bu.1 b0.2 k;injection this with k1 k2;exact he (by rw[k1,k2];exact aI _ _)
   .intro k;have:=iJ (p:=(v,u)) (q:=(e.b,e.a)) bu.1 b0.1 k;injection this with k1 k2;exact he (by rw[k1,k2])
end Aw
end Go.Proofs.YtbgngpdonpeboaaGreatDoor
