/- maps.Keys at two types, and slices.AppendSeq, Collect over them. (After the kit's worked texts on maps.Keys and on a loop that collects; written by genkeys.py.) -/
import Derived.Test.YtbgngpdonpeboaaGreatDoorJg
import Derived.Test.YtbgngpdonpeboaaGreatDoorAwMr2
import Derived.RangeFuncSeq
import Derived.Maps.RangeWalk
import Derived.Test.YtbgngpdonpeboaaGreatDoorAwRg
import Derived.Test.YtbgngpdonpeboaaGreatDoorAwGo
set_option linter.unusedVariables false
set_option linter.unusedSimpArgs false
set_option linter.unusedSectionVars false
set_option maxHeartbeats 2000000
open Go.Proofs.Tryz
namespace Go.Proofs.YtbgngpdonpeboaaGreatDoor
namespace Rg
open Go Go.RowKit Go.Shelf
open Go.ChangeMaps (setBlock)
attribute [local go_sem] Oper.semAt_some
section
variable {F:Fence} {n:Nat} {P:Program} (w:World) {ops:Array Oper} {rest:List Oper} {o:Oper} {a:Act} {Q:Exit->Act->World->Prop}
theorem pC(hg:o.guard=none)(m:Operand)(t k e:TypeId)(hop:o.op=Op.range t m)(ht:P.underlying t=some (.map k e))(b:Nat)(cV:Array MapEntry)(clock:Nat)(hm:a.eval m=.map (some b))(hb:w.heap[b]?=some (.map cV clock))
 (hK:∀ w',w'=w.alloc (.mapIter (some b) clock #[] clock)->wpListIn F n P ops Q rest (a.put o.dst (.pointer (some ⟨w.heap.size,0,none⟩))) w'):wpListIn F n P ops Q (o::rest) a w:=by
 refine wpListIn_plain hg fun K' hK'=>?_;have o6:=run_range_map (P:=P) w t k e b cV clock ht hb;unfold Oper.wpIn;refine⟨?_,?_⟩
 .grind [Oper.about]
 .rw[Oper.semAt_plain F _ _ (by grind)];simp[execOp,hop,hm,o6,Result.andThen];exact hK' _ _ (hK _ rfl)
theorem qJ(hg:o.guard=none)(it:Operand)(hop:o.op=Op.next it false)(r b clock c:Nat)(seen:Array Nat)(cV:Array MapEntry)(hit:a.eval it=.pointer (some ⟨r,0,none⟩))(hi:w.heap[r]?=some (.mapIter (some b) clock seen c))(hb:w.heap[b]?=some (.map cV clock))
 (O5:∀ x∈cV.toList,x.born<clock) (hnd:(cV.toList.map (·.born)).Nodup) (hc:clock<=c)
 (hDone:(∀ x∈cV.toList,seen.contains x.born=true)->wpListIn F n P ops Q rest (a.put o.dst (.tuple #[.bool false])) w)
 (hMore:∀(e:MapEntry) (w1 w2:World),e∈cV.toList->seen.contains e.born=false->(w1=w\/w1=w.drew)->w2=setBlock w1 r (.mapIter (some b) clock (seen.push e.born) clock)->(Instr.entry (.pointer (some ⟨r,0,none⟩))).run P w2=.ok (.tuple #[e.key,e.val]) w2->wpListIn F n P ops Q rest (a.put o.dst (.tuple #[.bool true,e.key,e.val])) w2):
 wpListIn F n P ops Q (o::rest) a w:=by
 refine wpListIn_plain hg fun K' hK'=>?_;unfold Oper.wpIn;refine⟨by grind [Oper.about],?_⟩;rw[Oper.semAt_plain F _ _ (by grind)];rcases run_next_at (P:=P) w o.type r b clock c seen cV clock hi hb O5 hc with⟨h0,o6⟩|⟨e,he',w1,N5,o6⟩
 .simp[execOp,hop,hit,o6,Result.andThen];exact hK' _ _ (hDone fun x hx=>all_seen cV seen h0 x hx)
 .obtain⟨he1,he2⟩:=mem_left he';have lr:=(aAH.1 hi).1;have hbr:b≠r:=by rintro rfl;rw[hb]at hi;cases hi
  have hh:w1.heap=w.heap:=by rcases N5 with rfl|rfl<;>rfl
  have hE:=run_entry_at (P:=P) (setBlock w1 r (.mapIter (some b) clock (seen.push e.born) clock)) r b clock seen cV clock e
   (by grind [setBlock]) (by grind [setBlock]) he1 hnd
  simp[execOp,hop,hit,o6,Result.andThen];exact hK' _ _ (hMore e w1 _ he1 he2 N5 rfl hE)
end
theorem DT(w w1:World)(h:w1=w\/w1=w.drew)(r:Nat)(o:Obj):w.grownBy (setBlock w1 r o) (some r):=by
 have hh:w1.heap=w.heap:=by rcases h with rfl|rfl<;>rfl
 have hos:w1.os=w.os/\w1.tape=w.tape/\w1.output=w.output:=by rcases h with rfl|rfl<;>exact⟨rfl,rfl,rfl⟩
 refine⟨hos.1,hos.2.1,hos.2.2,by grind [setBlock],fun b hb Zo=>?_⟩
 grind [setBlock]
def vE(vs:List Int)(cV:List MapEntry)(seen:Array Nat):List Int:=(Aw.lft (vs.map fun v=>([v],.dead)) cV seen).map fun e=>e.1.headD 0
theorem Ay{vs:List Int}{cV:List MapEntry}(h:vs.length=cV.length):vE vs cV #[]=vs:=by unfold vE;rw[Aw.vY (by grind),aAX];exact(aAN fun v _=>rfl).trans (aEG vs)
theorem Dd{vs:List Int}{cV:List MapEntry}{seen:Array Nat}{e:MapEntry}(h:vs.length=cV.length)(J4:cV.map (·.key)=vs.map (Value.int .u32))(hn:(cV.map (·.born)).Nodup)(he:e∈cV)(hs:seen.contains e.born=false):
 ∃ x L1 L2,e.key=.int .u32 x/\vE vs cV seen=L1++x::L2/\vE vs cV (seen.push e.born)=L1++L2:=by
 obtain⟨p,L1,L2,h1,h2,h3⟩:=Aw.HC (es:=vs.map fun v=>(([v],.dead):List Int×Aw.LV)) (by grind) hn he hs;have hz:∀ q∈(vs.map fun v=>(([v],.dead):List Int×Aw.LV)).zip cV,∃ x,q.1=([x],.dead)/\q.2.key=.int .u32 x:=by intro q hq;obtain⟨j,hj,rfl⟩:=aDb.1 hq;simp only[aEe,aAB]at hj;rw[aDA,aCt];refine⟨vs[j],rfl,?_⟩;have:=congrArg (fun l=>l[j]?) J4;simp only[aCi,aAh (show j<cV.length by omega),aAh (show j<vs.length by omega),Option.map_some,aAb]at this;exact this
 obtain⟨x,hx,hk⟩:=hz _ h3;simp only at hx hk;subst hx;exact⟨x,L1.map (fun e=>e.1.headD 0),L2.map (fun e=>e.1.headD 0),hk,by grind [vE],by grind [vE]⟩
theorem DN{vs:List Int}{cV:List MapEntry}{seen:Array Nat}(h:∀ x∈cV,seen.contains x.born=true):vE vs cV seen=[]:=by
 grind [vE,Aw.GW]
def xH(W:World)(b:Nat)(vs:List Int):Prop:=∃(cV:List MapEntry) (clock:Nat),W.heap[b]?=some (.map cV.toArray clock)/\cV.map (·.key)=vs.map (Value.int .u32)/\(∀ x∈cV,x.born<clock)/\(cV.map (·.born)).Nodup
theorem KeepsOthers.walks{W W':World}(h:KeepsOthers W W'):KeepsWalks W W':=⟨h.size,fun k o hk hw=>h.same k o hk (by cases o<;>first|rfl|cases hw)⟩
set_option maxRecDepth 100000 in
theorem UI(F:Fence)(n:Nat)(h7:F.fn 105)(Q3:F.round=none)(hn:1<=n)(l Bm b:Nat)(vs:List Int)(W:World)(J Jx:List Int->World->Prop)(hJ:AbidesFrom W.heap.size J)
 (hY:∀ pre x W1,J pre W1->pre.length<vs.length->YieldAt F (n-1) prog l #[.int .u32 x] W1 fun e W'=>
   (e=.returned (.bool true)/\J (pre++[x]) W'/\KeepsWalks W1 W')\/(e=.returned (.bool false)/\Jx (pre++[x]) W'))
 (hm:W.cell? ⟨Bm,0,none⟩=some (.map (some b))) (hB:xH W b vs) (h0:J [] W):
 CallsIn F n prog 105 #[.func (.yield l) #[] #[],.pointer (some ⟨Bm,0,none⟩)] W fun e W'=>(∃ v,e=.returned v)/\
  ((∃ ys:List Int,ys.Perm vs/\J ys W')\/(∃ pre,True/\Jx pre W')):=by
 obtain⟨cV,clock,hb,J4,O5,hnd⟩:=hB;have hlen:vs.length=cV.length:=by have:=congrArg List.length J4;simpa using this.symm
 have lb:=(aAH.1 hb).1;refine callsIn_of_wp func105 rfl h7 ?_ Q3;simp only[ntmps105,aBc,List.length_cons,List.length_nil,Nat.reduceAdd,Nat.reduceSub,aBA,Array.replicate_zero,aBH,aBC,List.nil_append,List.cons_append]
 gi_wp2_with (first
  |(refine pC _ rfl _ 87 _ _ rfl underlying87 b cV.toArray clock rfl hb ?_;intro w0 hw0)
  |gi_in)
 go_frame
 have hI0:w0.heap[W.heap.size]?=some (.mapIter (some b) clock #[] clock):=by rw[hw0];exact World.alloc_heap_new _ _
 have hb0:w0.heap[b]?=some (.map cV.toArray clock):=by rw[hw0];exact(Below.heap_alloc _ _ b lb).trans hb
 have hg0:W.grownBy w0 none:=by rw[hw0];exact World.grownBy_alloc W _ none
 have hJ0:J [] w0:=hJ [] W w0 none h0 hg0 (fun r e=>by cases e);clear hw0 hg0
 gi_loopw [3] (fun _ wr=>∃(seen:Array Nat) (c:Nat) (ss:List Int),clock<=c/\wr.heap[W.heap.size]?=some (.mapIter (some b) clock seen c)/\wr.heap[b]?=some (.map cV.toArray clock)/\(ss++vE vs cV seen).Perm vs/\J ss wr)
  (fun _ wr=>match wr.heap[W.heap.size]? with|some (.mapIter _ _ seen _)=>(vE vs cV seen).length|_=>0)
 case atStart=>exact⟨#[],clock,[],aAm _,hI0,hb0,by grind [Ay],hJ0⟩
 case round=>
  obtain⟨seen,c,ss,hcc,hit,hbm,r9,hJs⟩:=hrel
  gi_wp2_with (first
   |(refine qJ _ rfl _ rfl W.heap.size b clock c seen cV.toArray rfl hit hbm (fun x hx=>O5 x oO) oO hcc ?_ ?_)
   |gi_in)
  .intro hall;have x7:vE vs cV seen=[]:=DN fun x hx=>by grind
   rw[x7,aAO]at r9
   gi_wp2
   go_end0
   grind
  .intro e w1 w2 he hs N5 J9 hen;obtain⟨x,L1,L2,hx,hL1,hL2⟩:=Dd (seen:=seen) hlen J4 hnd (by simpa using he) (by grind);have V1:wr.grownBy w2 (some W.heap.size):=by rw[J9];exact DT wr w1 N5 _ _
   have hJ2:J ss w2:=hJ ss wr w2 (some W.heap.size) hJs V1 (fun r e=>by cases e;exact⟨aAm _,_,hit,rfl⟩);have hh:w1.heap=wr.heap:=by rcases N5 with rfl|rfl<;>rfl
   have Zo:b≠W.heap.size:=oO;have hit2:w2.heap[W.heap.size]?=some (.mapIter (some b) clock (seen.push e.born) clock):=by rw[J9];simp only[setBlock];rw[aBB,aAj rfl,aAj (by grind)]
   have hbm2:w2.heap[b]?=some (.map cV.toArray clock):=by rw[J9];simp only[setBlock];rw[aBB,aAa (fun e=>Zo e.symm),hh];exact hbm
   have dG:ss.length<vs.length:=by have:=r9.length_eq;rw[hL1]at this;simp at this;omega
   obtain⟨fn,tmps,assign,body,hy,hR⟩:=hY ss x w2 hJ2 dG;rw[hx]at hen ⊢;clear J9 V1
   gi_wp2
   refine hR.mono ?_;rintro e3 W3 (⟨rfl,hJ3,u5⟩|⟨rfl,hJx3⟩)
   .gi_wp2
    have hit3:=u5.same _ _ hit2 rfl;have hbm3:=u5.same _ _ hbm2 rfl
    go_roundw
    case rel=>exact⟨seen.push e.born,clock,ss++[x],aAm _,hit3,hbm3,by
     grind,hJ3⟩
    grind
   .gi_wp2
    refine bodyPost_ret (results_none rfl _ _ _) rfl ?_
    grind
theorem Gl(F:Fence)(n:Nat)(h7:F.fn 105)(Q3:F.round=none)(hn:1<=n)(Bm b:Nat)(vs:List Int)(w:World)(hBm:Bm<w.heap.size)(hm:w.cell? ⟨Bm,0,none⟩=some (.map (some b)))(hB:xH w b vs):
 SeqStopsK F n prog 105 #[.pointer (some ⟨Bm,0,none⟩)] (fun x:Int=>#[Value.int .u32 x]) KeepsWalks (fun ys=>ys.Perm vs) (fun _=>True) vs.length w:=fun l J Jx W hW hJ _ hY h0=>by
 have hc':=(hW.cell (p:=⟨Bm,0,none⟩) hBm).trans hm;have hB':xH W b vs:=by obtain⟨cV,clock,hb,h⟩:=hB;exact⟨cV,clock,(hW.block b (aAH.1 hb).1).trans hb,h⟩
 exact UI F n h7 Q3 hn l Bm b vs W J Jx hJ hY hc' hB' h0
set_option maxRecDepth 100000 in
theorem Fl(F:Fence)(n:Nat)(h3:F.fn 147)(h7:F.fn 105)(Q3:F.round=none)(hn:3<=n)(Bm b:Nat)(vs:List Int)(hlen:vs.length<=1048576)(w:World)(hBm:Bm<w.heap.size)
 (hm:w.cell? ⟨Bm,0,none⟩=some (.map (some b))) (hB:xH w b vs):
 CallsIn F n prog 147 #[.slice none 0 0,.func (.func 105) #[] #[.pointer (some ⟨Bm,0,none⟩)]] w fun e W'=>∃ v ys,e=.returned v/\List.Perm ys vs/\W'.ownsRow w.heap.size 34 1 v ys.length (ys.map (Value.int .u32))/\Below w.heap.size w W':=by
 have h1:1<=n:=oO;obtain⟨i0,hi,hz0,hz1,hz2⟩:=info_parts QH;refine callsIn_of_wp_marks func147 rfl h3 ?_ Q3;simp only[ntmps147,aBc,List.length_cons,List.length_nil,Nat.reduceAdd,Nat.reduceSub,aBA,Array.replicate_zero,aBH,aBC,List.nil_append,List.cons_append]
 gi_wp2
 have bO:=Boxed.new w 22 (.slice none 0 0);have hB0:Below w.heap.size w (w.alloc (.cells #[.slice none 0 0] 22)):=(Below.refl _ w).alloc (aAm _) _;have hB':xH (w.alloc (.cells #[.slice none 0 0] 22)) b vs:=by obtain⟨cV,clock,hb,h⟩:=hB;exact⟨cV,clock,(hB0.block b (aAH.1 hb).1).trans hb,h⟩
 refine wpIn_rangeFunc_ownG Q3 h1 (gf:=105) (lb:=#[.pointer (some ⟨Bm,0,none⟩)]) rfl h7 (enters_of func105 (by kernel_rfl) rfl)
  (Gl F (n-1) h7 Q3 oO Bm b vs _ (by simp;omega) ((hB0.cell (p:=⟨Bm,0,none⟩) hBm).trans hm) hB') walksK_t walksK_b (Below.refl _ _) (fun _=>rfl)
  (fun pre W=>(∃ v,Boxed W w.heap.size 22 v/\W.ownsRow w.heap.size 34 1 v pre.length (pre.map (Value.int .u32))/\True)/\Below w.heap.size w W)
  (fun _ _ _=>False)
  (OwnFrom.and (Own.from (holdsRow_own w.heap.size w.heap.size 22 34 1 (fun pre:List Int=>pre.length) (fun pre:List Int=>pre.map (Value.int .u32)) (fun _ _=>True)) _) (ownFrom_below (aAm _) sS))
  (fun _ _ _ _ _ hs _ _=>hs)
  ⟨⟨_,bO,World.ownsRow_nil _ _ _ _,trivial⟩,hB0⟩
  (fun x=>{ tmps:=#[.slice none 0 0,.func (.func 105) #[] #[.pointer (some ⟨Bm,0,none⟩)],.pointer (some ⟨w.heap.size,0,none⟩),undef,.slice none 0 0,.int .u32 x,.func (.func 105) #[] #[.pointer (some ⟨Bm,0,none⟩)],.int .u32 x,undef,undef,undef,undef,undef],defers:=[] }) ?assign ?body ?done ?stop
 case assign=>
  intro l x W K hK
  gi_wp2
  omega
 case body=>
  rintro l pre x W ⟨⟨v,hv,VU,_⟩,hB⟩ dG;have hc:=hv.cell
  gi_wp2_with (gi_at_builtin;refine wpListIn_append_own _ rfl _ _ 22 rfl w.heap.size 34 i0 (.int .u32 0) 1 4 underlying22 hi hz0 hz1 hz2 rfl (by decide) _ _ _ rfl (VU.alloc _) ⟨W.heap.size,0,none⟩ 1 1 [.int .u32 x] rfl rfl (cell_one_new _ _ _) (by simp[Value.oneCell']) (by grind [maxLen]) oO (by have:=hB.size;simp;omega) ?_;intro v' w1 W6 S5 _;obtain⟨g',cap',rfl⟩:=ownsRow_succ W6;obtain⟨X8,hv2,hr2,o8,T7⟩:=hv.appended (by decide) VU hB.size (aAm _) W6 S5;have hc1:=X8.cell;have hf1:=X8.frozen)
  exact⟨o8.from _,KeepsOthers.walks o8,⟨_,hv2,by grind,trivial⟩,hB.trans T7⟩
 case done=>
  rintro D ys W hD hys ⟨⟨v,hv,VU,_⟩,hB⟩ hK;have hc:=hv.cell
  gi_wp2
  refine⟨sS,.inl ⟨_,_,rfl,run_takeDeferred hK,?_⟩⟩;exact⟨_,results_tmp rfl _ _ _,v,ys,rfl,hys,ownsRow_putObj VU _ hK rfl,hB.trans (belowK_b (w:=w) (aAm _) W D _ _ (by simp at hD;omega) hK rfl rfl)⟩
 grind
set_option maxRecDepth 100000 in
theorem Ct(F:Fence)(n:Nat)(h2:F.fn 104)(h3:F.fn 147)(h7:F.fn 105)(Q3:F.round=none)(hn:4<=n)(Bm b:Nat)(vs:List Int)(hlen:vs.length<=1048576)(w:World)(hBm:Bm<w.heap.size)
 (hm:w.cell? ⟨Bm,0,none⟩=some (.map (some b))) (hB:xH w b vs):
 CallsIn F n prog 104 #[.func (.func 105) #[] #[.pointer (some ⟨Bm,0,none⟩)]] w fun e W'=>∃ v ys,e=.returned v/\List.Perm ys vs/\W'.ownsRow w.heap.size 34 1 v ys.length (ys.map (Value.int .u32))/\Below w.heap.size w W':=by
 have h1:1<=n:=oO;refine callsIn_of_wp func104 rfl h2 ?_ Q3;simp only[ntmps104,aBc,List.length_cons,List.length_nil,Nat.reduceAdd,Nat.reduceSub,aBA,Array.replicate_zero,aBH,aBC,List.nil_append,List.cons_append]
 gi_wp2_with (gi_at_call 147;refine(Fl F (n-1) h3 h7 Q3 oO Bm b vs hlen _ hBm hm hB).mono ?_;rintro e w' ⟨v,ys,rfl,hys,VU,hbel⟩)
 go_ret
 exact⟨v,ys,rfl,hys,VU,hbel⟩
set_option maxRecDepth 100000 in
theorem Su(F:Fence)(n:Nat)(h7:F.fn 148)(Q3:F.round=none)(hn:1<=n)(l Bm b:Nat)(vs:List Int)(W:World)(J Jx:List Int->World->Prop)(hJ:AbidesFrom W.heap.size J)
 (hY:∀ pre x W1,J pre W1->pre.length<vs.length->YieldAt F (n-1) prog l #[.int .u32 x] W1 fun e W'=>
   (e=.returned (.bool true)/\J (pre++[x]) W'/\KeepsWalks W1 W')\/(e=.returned (.bool false)/\Jx (pre++[x]) W'))
 (hm:W.cell? ⟨Bm,0,none⟩=some (.map (some b))) (hB:xH W b vs) (h0:J [] W):
 CallsIn F n prog 148 #[.func (.yield l) #[] #[],.pointer (some ⟨Bm,0,none⟩)] W fun e W'=>(∃ v,e=.returned v)/\
  ((∃ ys:List Int,ys.Perm vs/\J ys W')\/(∃ pre,True/\Jx pre W')):=by
 obtain⟨cV,clock,hb,J4,O5,hnd⟩:=hB;have hlen:vs.length=cV.length:=by have:=congrArg List.length J4;simpa using this.symm
 have lb:=(aAH.1 hb).1;refine callsIn_of_wp func148 rfl h7 ?_ Q3;simp only[ntmps148,aBc,List.length_cons,List.length_nil,Nat.reduceAdd,Nat.reduceSub,aBA,Array.replicate_zero,aBH,aBC,List.nil_append,List.cons_append]
 gi_wp2_with (first
  |(refine pC _ rfl _ 93 _ _ rfl underlying93 b cV.toArray clock rfl hb ?_;intro w0 hw0)
  |gi_in)
 go_frame
 have hI0:w0.heap[W.heap.size]?=some (.mapIter (some b) clock #[] clock):=by rw[hw0];exact World.alloc_heap_new _ _
 have hb0:w0.heap[b]?=some (.map cV.toArray clock):=by rw[hw0];exact(Below.heap_alloc _ _ b lb).trans hb
 have hg0:W.grownBy w0 none:=by rw[hw0];exact World.grownBy_alloc W _ none
 have hJ0:J [] w0:=hJ [] W w0 none h0 hg0 (fun r e=>by cases e);clear hw0 hg0
 gi_loopw [3] (fun _ wr=>∃(seen:Array Nat) (c:Nat) (ss:List Int),clock<=c/\wr.heap[W.heap.size]?=some (.mapIter (some b) clock seen c)/\wr.heap[b]?=some (.map cV.toArray clock)/\(ss++vE vs cV seen).Perm vs/\J ss wr)
  (fun _ wr=>match wr.heap[W.heap.size]? with|some (.mapIter _ _ seen _)=>(vE vs cV seen).length|_=>0)
 case atStart=>exact⟨#[],clock,[],aAm _,hI0,hb0,by grind [Ay],hJ0⟩
 case round=>
  obtain⟨seen,c,ss,hcc,hit,hbm,r9,hJs⟩:=hrel
  gi_wp2_with (first
   |(refine qJ _ rfl _ rfl W.heap.size b clock c seen cV.toArray rfl hit hbm (fun x hx=>O5 x oO) oO hcc ?_ ?_)
   |gi_in)
  .intro hall;have x7:vE vs cV seen=[]:=DN fun x hx=>by grind
   rw[x7,aAO]at r9
   gi_wp2
   go_end0
   grind
  .intro e w1 w2 he hs N5 J9 hen;obtain⟨x,L1,L2,hx,hL1,hL2⟩:=Dd (seen:=seen) hlen J4 hnd (by simpa using he) (by grind);have V1:wr.grownBy w2 (some W.heap.size):=by rw[J9];exact DT wr w1 N5 _ _
   have hJ2:J ss w2:=hJ ss wr w2 (some W.heap.size) hJs V1 (fun r e=>by cases e;exact⟨aAm _,_,hit,rfl⟩);have hh:w1.heap=wr.heap:=by rcases N5 with rfl|rfl<;>rfl
   have Zo:b≠W.heap.size:=oO;have hit2:w2.heap[W.heap.size]?=some (.mapIter (some b) clock (seen.push e.born) clock):=by rw[J9];simp only[setBlock];rw[aBB,aAj rfl,aAj (by grind)]
   have hbm2:w2.heap[b]?=some (.map cV.toArray clock):=by rw[J9];simp only[setBlock];rw[aBB,aAa (fun e=>Zo e.symm),hh];exact hbm
   have dG:ss.length<vs.length:=by have:=r9.length_eq;rw[hL1]at this;simp at this;omega
   obtain⟨fn,tmps,assign,body,hy,hR⟩:=hY ss x w2 hJ2 dG;rw[hx]at hen ⊢;clear J9 V1
   gi_wp2
   refine hR.mono ?_;rintro e3 W3 (⟨rfl,hJ3,u5⟩|⟨rfl,hJx3⟩)
   .gi_wp2
    have hit3:=u5.same _ _ hit2 rfl;have hbm3:=u5.same _ _ hbm2 rfl
    go_roundw
    case rel=>exact⟨seen.push e.born,clock,ss++[x],aAm _,hit3,hbm3,by
     grind,hJ3⟩
    grind
   .gi_wp2
    refine bodyPost_ret (results_none rfl _ _ _) rfl ?_
    grind
theorem HU(F:Fence)(n:Nat)(h7:F.fn 148)(Q3:F.round=none)(hn:1<=n)(Bm b:Nat)(vs:List Int)(w:World)(hBm:Bm<w.heap.size)(hm:w.cell? ⟨Bm,0,none⟩=some (.map (some b)))(hB:xH w b vs):
 SeqStopsK F n prog 148 #[.pointer (some ⟨Bm,0,none⟩)] (fun x:Int=>#[Value.int .u32 x]) KeepsWalks (fun ys=>ys.Perm vs) (fun _=>True) vs.length w:=fun l J Jx W hW hJ _ hY h0=>by
 have hc':=(hW.cell (p:=⟨Bm,0,none⟩) hBm).trans hm;have hB':xH W b vs:=by obtain⟨cV,clock,hb,h⟩:=hB;exact⟨cV,clock,(hW.block b (aAH.1 hb).1).trans hb,h⟩
 exact Su F n h7 Q3 hn l Bm b vs W J Jx hJ hY hc' hB' h0
set_option maxRecDepth 100000 in
theorem Ee(F:Fence)(n:Nat)(h3:F.fn 147)(h7:F.fn 148)(Q3:F.round=none)(hn:3<=n)(Bm b:Nat)(vs:List Int)(hlen:vs.length<=1048576)(w:World)(hBm:Bm<w.heap.size)
 (hm:w.cell? ⟨Bm,0,none⟩=some (.map (some b))) (hB:xH w b vs):
 CallsIn F n prog 147 #[.slice none 0 0,.func (.func 148) #[] #[.pointer (some ⟨Bm,0,none⟩)]] w fun e W'=>∃ v ys,e=.returned v/\List.Perm ys vs/\W'.ownsRow w.heap.size 34 1 v ys.length (ys.map (Value.int .u32))/\Below w.heap.size w W':=by
 have h1:1<=n:=oO;obtain⟨i0,hi,hz0,hz1,hz2⟩:=info_parts QH;refine callsIn_of_wp_marks func147 rfl h3 ?_ Q3;simp only[ntmps147,aBc,List.length_cons,List.length_nil,Nat.reduceAdd,Nat.reduceSub,aBA,Array.replicate_zero,aBH,aBC,List.nil_append,List.cons_append]
 gi_wp2
 have bO:=Boxed.new w 22 (.slice none 0 0);have hB0:Below w.heap.size w (w.alloc (.cells #[.slice none 0 0] 22)):=(Below.refl _ w).alloc (aAm _) _;have hB':xH (w.alloc (.cells #[.slice none 0 0] 22)) b vs:=by obtain⟨cV,clock,hb,h⟩:=hB;exact⟨cV,clock,(hB0.block b (aAH.1 hb).1).trans hb,h⟩
 refine wpIn_rangeFunc_ownG Q3 h1 (gf:=148) (lb:=#[.pointer (some ⟨Bm,0,none⟩)]) rfl h7 (enters_of func148 (by kernel_rfl) rfl)
  (HU F (n-1) h7 Q3 oO Bm b vs _ (by simp;omega) ((hB0.cell (p:=⟨Bm,0,none⟩) hBm).trans hm) hB') walksK_t walksK_b (Below.refl _ _) (fun _=>rfl)
  (fun pre W=>(∃ v,Boxed W w.heap.size 22 v/\W.ownsRow w.heap.size 34 1 v pre.length (pre.map (Value.int .u32))/\True)/\Below w.heap.size w W)
  (fun _ _ _=>False)
  (OwnFrom.and (Own.from (holdsRow_own w.heap.size w.heap.size 22 34 1 (fun pre:List Int=>pre.length) (fun pre:List Int=>pre.map (Value.int .u32)) (fun _ _=>True)) _) (ownFrom_below (aAm _) sS))
  (fun _ _ _ _ _ hs _ _=>hs)
  ⟨⟨_,bO,World.ownsRow_nil _ _ _ _,trivial⟩,hB0⟩
  (fun x=>{ tmps:=#[.slice none 0 0,.func (.func 148) #[] #[.pointer (some ⟨Bm,0,none⟩)],.pointer (some ⟨w.heap.size,0,none⟩),undef,.slice none 0 0,.int .u32 x,.func (.func 148) #[] #[.pointer (some ⟨Bm,0,none⟩)],.int .u32 x,undef,undef,undef,undef,undef],defers:=[] }) ?assign ?body ?done ?stop
 case assign=>
  intro l x W K hK
  gi_wp2
  omega
 case body=>
  rintro l pre x W ⟨⟨v,hv,VU,_⟩,hB⟩ dG;have hc:=hv.cell
  gi_wp2_with (gi_at_builtin;refine wpListIn_append_own _ rfl _ _ 22 rfl w.heap.size 34 i0 (.int .u32 0) 1 4 underlying22 hi hz0 hz1 hz2 rfl (by decide) _ _ _ rfl (VU.alloc _) ⟨W.heap.size,0,none⟩ 1 1 [.int .u32 x] rfl rfl (cell_one_new _ _ _) (by simp[Value.oneCell']) (by grind [maxLen]) oO (by have:=hB.size;simp;omega) ?_;intro v' w1 W6 S5 _;obtain⟨g',cap',rfl⟩:=ownsRow_succ W6;obtain⟨X8,hv2,hr2,o8,T7⟩:=hv.appended (by decide) VU hB.size (aAm _) W6 S5;have hc1:=X8.cell;have hf1:=X8.frozen)
  exact⟨o8.from _,KeepsOthers.walks o8,⟨_,hv2,by grind,trivial⟩,hB.trans T7⟩
 case done=>
  rintro D ys W hD hys ⟨⟨v,hv,VU,_⟩,hB⟩ hK;have hc:=hv.cell
  gi_wp2
  refine⟨sS,.inl ⟨_,_,rfl,run_takeDeferred hK,?_⟩⟩;exact⟨_,results_tmp rfl _ _ _,v,ys,rfl,hys,ownsRow_putObj VU _ hK rfl,hB.trans (belowK_b (w:=w) (aAm _) W D _ _ (by simp at hD;omega) hK rfl rfl)⟩
 grind
set_option maxRecDepth 100000 in
theorem Cv(F:Fence)(n:Nat)(h2:F.fn 104)(h3:F.fn 147)(h7:F.fn 148)(Q3:F.round=none)(hn:4<=n)(Bm b:Nat)(vs:List Int)(hlen:vs.length<=1048576)(w:World)(hBm:Bm<w.heap.size)
 (hm:w.cell? ⟨Bm,0,none⟩=some (.map (some b))) (hB:xH w b vs):
 CallsIn F n prog 104 #[.func (.func 148) #[] #[.pointer (some ⟨Bm,0,none⟩)]] w fun e W'=>∃ v ys,e=.returned v/\List.Perm ys vs/\W'.ownsRow w.heap.size 34 1 v ys.length (ys.map (Value.int .u32))/\Below w.heap.size w W':=by
 have h1:1<=n:=oO;refine callsIn_of_wp func104 rfl h2 ?_ Q3;simp only[ntmps104,aBc,List.length_cons,List.length_nil,Nat.reduceAdd,Nat.reduceSub,aBA,Array.replicate_zero,aBH,aBC,List.nil_append,List.cons_append]
 gi_wp2_with (gi_at_call 147;refine(Ee F (n-1) h3 h7 Q3 oO Bm b vs hlen _ hBm hm hB).mono ?_;rintro e w' ⟨v,ys,rfl,hys,VU,hbel⟩)
 go_ret
 exact⟨v,ys,rfl,hys,VU,hbel⟩
end Rg
namespace Aw
open Go Go.RowKit
def uT(es:List (List Int×LV)):List Int:=es.map fun e=>e.1.headD 0
theorem Ko{w:World}{g:G}{st:St}(hi:Inv w g st){m:Nat}{es:List (List Int×LV)}(hm:st.H m=.map false [.u32] es):Rg.xH w (g.β m) (uT es):=by
 obtain⟨_,hlen,cV,clock,h3,h4,_,_,h7,h8⟩:=hi.mp m _ _ _ hm;refine⟨cV,clock,h3,?_,h7,h8⟩;rw[h4];unfold uT;rw[aAX];refine aAN fun p hp=>?_;have:=hlen p hp
 match h:p.1,this with
 |[x],_=>grind [mkV,mkC]
theorem JE(m q:Nat)(es:List (List Int×LV))(st:St)(hl:es.length<=1048576)(hH:st.H q=.box 87 1 [.mp m])(hm:st.H m=.map false [.u32] es):
 aB prog 104 [.fn (.func 105) [.pt q 0]] st fun r st'=>∃ ys:List Int,ys.Perm (uT es)/\r=.ms st.next 0 ys.length/\st'=st.new (.box 34 1 (us ys)):=by
 refine⟨enters_of func104 (by kernel_rfl) rfl,fun w g vs hi hr=>?_⟩;simp only[aC,Rep]at hr;obtain⟨v,_,rfl,⟨us1,rfl,v1,_,rfl,⟨rfl,hq⟩,rfl⟩,rfl⟩:=hr;obtain⟨_,b2,b3⟩:=hi.box q _ _ _ hH;have r8:g.nl q=false:=by
  cases hn:g.nl q with
  |false=>rfl
  |true=>grind
 obtain⟨j8,k1,k2,k3,k4,k5⟩:=b3 r8;simp only[List.length_cons,List.length_nil,aBy,aC]at k4 k3;obtain⟨sv,rest,hsv,G9,_⟩:=k4;simp only[Rep]at G9;have hc0:w.cell? ⟨g.β q,0,none⟩=some (.map (some (g.β m))):=by
  rw[cell_of_row w _ _ _ _ _ k1,<- G9.1];cases j8 with
  |nil=>grind
  |cons a j8=>grind
 refine(((Rg.Ct Fence.wide 4 trivial trivial trivial rfl (aAm _) (g.β q) (g.β m) (uT es) (by grind [uT]) w (oU hc0) hc0 (Ko hi hm)).calls room_wide)).mono ?_;rintro e w' ⟨v,ys,rfl,hys,VU,hbel⟩;have hlen:ys.length=(ys.map (Value.int .u32)).length:=sS;rw[hlen]at VU;obtain⟨g',h1,h2,h3⟩:=wT (cs:=us ys) hi hbel VU (fun w g=>AW w g ys)
 grind
theorem Jc(m q:Nat)(es:List (List Int×LV))(st:St)(hl:es.length<=1048576)(hH:st.H q=.box 93 1 [.mp m])(hm:st.H m=.map false [.u32] es):
 aB prog 104 [.fn (.func 148) [.pt q 0]] st fun r st'=>∃ ys:List Int,ys.Perm (uT es)/\r=.ms st.next 0 ys.length/\st'=st.new (.box 34 1 (us ys)):=by
 refine⟨enters_of func104 (by kernel_rfl) rfl,fun w g vs hi hr=>?_⟩;simp only[aC,Rep]at hr;obtain⟨v,_,rfl,⟨us1,rfl,v1,_,rfl,⟨rfl,hq⟩,rfl⟩,rfl⟩:=hr;obtain⟨_,b2,b3⟩:=hi.box q _ _ _ hH;have r8:g.nl q=false:=by
  cases hn:g.nl q with
  |false=>rfl
  |true=>grind
 obtain⟨j8,k1,k2,k3,k4,k5⟩:=b3 r8;simp only[List.length_cons,List.length_nil,aBy,aC]at k4 k3;obtain⟨sv,rest,hsv,G9,_⟩:=k4;simp only[Rep]at G9;have hc0:w.cell? ⟨g.β q,0,none⟩=some (.map (some (g.β m))):=by
  rw[cell_of_row w _ _ _ _ _ k1,<- G9.1];cases j8 with
  |nil=>grind
  |cons a j8=>grind
 refine(((Rg.Cv Fence.wide 4 trivial trivial trivial rfl (aAm _) (g.β q) (g.β m) (uT es) (by grind [uT]) w (oU hc0) hc0 (Ko hi hm)).calls room_wide)).mono ?_;rintro e w' ⟨v,ys,rfl,hys,VU,hbel⟩;have hlen:ys.length=(ys.map (Value.int .u32)).length:=sS;rw[hlen]at VU;obtain⟨g',h1,h2,h3⟩:=wT (cs:=us ys) hi hbel VU (fun w g=>AW w g ys)
 grind
end Aw
namespace Aw
open Go Go.RowKit Pl Eu
def rok(m:Mp)(k:Nat):Prop:=Fs m.g.es (m.g.vs.getD k 0) (m.rots.getD k [])
noncomputable def xT(m:Mp):Int:=if chk m.g≠0 then chk m.g else if m.rots.length≠m.g.vs.length then 22 else @ite _ (∀ k,k<m.g.vs.length->rok m k) (Classical.propDecidable _) 0 22
theorem Vz{m:Mp}(h:chk m.g≠0):xT m=chk m.g:=by unfold xT;rw[aAj h]
theorem Qo{m:Mp}(h:chk m.g=0)(h1:m.rots.length≠m.g.vs.length):xT m=22:=by unfold xT;rw[aAa (fun e=>e h),aAj h1]
theorem Qr{m:Mp}(h:chk m.g=0){k:Nat}(hk:k<m.g.vs.length)(h1:¬rok m k):xT m=22:=by
 unfold xT;rw[aAa (fun e=>e h)]
 split
 .rfl
 .rw[aAa (fun e=>h1 (e k hk))]
theorem TJ{m:Mp}(h:chk m.g=0)(h1:m.rots.length=m.g.vs.length)(h2:∀ k,k<m.g.vs.length->rok m k):xT m=0:=by unfold xT;rw[aAa (fun e=>e h),aAa (fun e=>e h1),aAj h2]
theorem Og{m:Mp}(h:xT m=0):chk m.g=0/\bS m:=by
 by_cases h0:chk m.g=0
 .refine⟨h0,?_⟩;by_cases h1:m.rots.length=m.g.vs.length
  .refine⟨eT h0,h1,fun k hk=>?_⟩;refine aAG fun hn=>?_;rw[Qr h0 hk hn]at h;cases h
  .rw[Qo h0 h1]at h;cases h
 .rw[Vz h0]at h;exact absurd h h0
end Aw
namespace Aw
open Go Go.RowKit Pl
attribute [local simp] FI WS Oh Ug oC pI oH
def oL:List (Int×Int)->Int->Int
 |[],_=>0
 |p::P,x=>if p.1=x then p.2 else oL P x
theorem FW(x:Int):∀ P:List (Int×Int),(bN (inL P) [x]).getD (u 0)=u (oL P x)
 |[]=>rfl
 |p::P=>by
  have ih:=FW x P;unfold oL;simp only[inL,aAl,bN]at ih ⊢;by_cases h:p.1=x
  .rw[aAj h,aAj (sF1 h)];rfl
  .rw[aAa h,aAa (by simpa using fun e=>h e.symm)];exact ih
theorem Gg(P:List (Int×Int)):uT (inL P)=P.map (·.1):=by
 induction P with
 |nil=>rfl
 |cons p P ih=>simp only[inL,aAl,uT]at ih ⊢;rw[ih];rfl
def goR(P:List (Int×Int))(first:Int):Nat->Int->List Int
 |0,_=>[]
 |n+1,x=>x::(if oL P x≠first/\0<n then goR P first n (oL P x)else [])
def bX(P:List (Int×Int)):List Int:=goR P (mn (P.map (·.1))) P.length (mn (P.map (·.1)))
theorem ZC(m:Nat)(st:St):aB prog 107 [.mp m] st fun r st'=>r=.fn (.func 148) [.pt st.next 0]/\st'=st.new (.box 93 1 [.mp m]):=by refine zN func107 ntmps107 [.tmp 2] ?_;exact xv0
theorem YJ(m:Nat)(st:St):aB prog 64 [.mp m] st fun r st'=>r=.fn (.func 105) [.pt st.next 0]/\st'=st.new (.box 87 1 [.mp m]):=by refine zN func64 ntmps64 [.tmp 2] ?_;exact xv0
theorem Tv{a b:List Int}(h:a.Perm b)(h0:a≠[]):mn a=mn b:=
 (Vv (h.mem_iff.1 (xM h0)) fun x hx=>PK (h.mem_iff.2 hx)).symm
def RoI(P:List (Int×Int))(m:Nat)(st:St)(n:Nat)(fr:Frm)(s:St):Prop:=∃(turn:List Int) (x:Int) (t:Nat),n+turn.length=P.length/\0<n/\turn++goR P (mn (P.map (·.1))) n x=bX P/\fr 0=.mp m/\fr 3=.sl t turn.length (us turn)/\fr 4=u (mn (P.map (·.1)))/\fr 5=u x/\Fb t 34 1 turn.length st s/\aA st s
theorem Jd{P:Program}{N:Nat}{Q:AQ}{c:Code}{fr:Frm}{st:St}(I:Frm->St->Prop)(h0:I fr st)(h:∀ fr st,I fr st->AWp P N c Q fr st):AWp P N c Q fr st:=h _ _ h0
theorem WU(P:List (Int×Int))(m:Nat)(st:St)(hP:P≠[])(hl:P.length<=1000)(hm:st.H m=.map false [.u32] (inL P))(M6:m<st.next):
 aB prog 65 [.mp m] st fun r st'=>r=.sl 0 (bX P).length (us (bX P))/\st'=st:=by
 refine qT (Q:=fun r=>r=.sl 0 (bX P).length (us (bX P))) (cZ ?_) fun r h=>by subst h;exact⟨.inl rfl,zU _ _⟩
 have hil:(inL P).length=P.length:=by simp[inL]
 refine zN func65 ntmps65 [.tmp 2] ?_;refine xw0 ?_;refine Aj _ 0 (fun n fr s=>RoI P m st n fr s) rfl ?_ ?_
 .refine iF fun M3=>?_
  (refine xj0 ?_;intro J hJ)
  refine xcP (ZC m _) ?_;refine dA hJ ?_;refine qE (Jc m st.next (inL P) _ oO sS (by rw[cE,aAa oO];exact hm)) sS ?_;rintro r s1 ⟨ys,hys,rfl,e1⟩;rw[e1];clear e1 s1;have hyl:ys.length=P.length:=by rw[hys.length_eq,Gg,aAB]
  have hy0:ys≠[]:=fun e=>hP (aCp.1 (by rw[<- hyl,e];rfl));have hmn:mn ys=mn (P.map (·.1)):=Tv (by rw[<- Gg];exact hys) hy0;have Q5:=vZ (P:=prog) (pre:=[]) (post:=[]) (l:=st.next+1) (n:=ys.length) (e:=34) (s:=1) (cs:=us ys) (st:=(st.new (.box 93 1 [.mp m])).new (.box 34 1 (us ys))) (f:=106) sS sS (by rw[aAv sS];exact Min ys 0 _ (by unfold small;omega) hy0);rw[hmn]at Q5;refine dA hJ ?_;refine qE Q5 sS ?_;rintro r s1 ⟨rfl,e1⟩;rw[e1];clear e1 s1 Q5;have hPl:0<P.length:=aBi.2 hP;refine dA hJ ?_;refine Dv ?_;simp only[ak];refine AD 3 34 1 sS ?_;refine Jd (RoI P m st P.length) ?_ ?_
  .exact⟨[],_,st.next+1+1,sS,hPl,rfl,sS,sS,sS,sS,⟨oO,oO,sS,sS⟩,(((aA.new _ _).trans (aA.new _ _)).set oO _).trans (aA.new _ _)⟩
  obtain⟨n,hn⟩:∃ n,n=P.length:=⟨_,rfl⟩;rw[<- hn];have hJG:∀ n' c7 s',n' < n->RoI P m st n' c7 s'->∃ n,RoI P m st n c7 s':=fun n' _ _ _ h=>⟨n',h⟩;rintro fr s ⟨turn,x,t,h1,h2,h3,f0,f3,f4,f5,⟨t0,t1,t2,tH⟩,hk⟩;have hmH:=(hk.H m M6).trans hm;have hg:=FW x P;obtain⟨n,rfl⟩:∃ k,n=k+1:=⟨n-1,oO⟩;have h4:goR P (mn (P.map (·.1))) (n+1) x=x::(if oL P x≠mn (P.map (·.1))/\0<n then goR P (mn (P.map (·.1))) n (oL P x)else []):=rfl;rw[h4]at h3;clear h4;have hRo:∀(M0:List Int) (y:Int) (t:Nat) (c7:Frm) (s':St),n+M0.length=P.length->0<n->M0++goR P (mn (P.map (·.1))) n y=bX P->c7 0=.mp m->c7 3=.sl t M0.length (us M0)->c7 4=u (mn (P.map (·.1)))->c7 5=u y->Fb t 34 1 M0.length st s'->aA st s'->RoI P m st n c7 s':=fun M0 y t c7 s' q1 q2 q3 q4 q5 q6 q7 q8 q9=>⟨M0,y,t,q1,q2,q3,q4,q5,q6,q7,q8,q9⟩;have L0:=fun c7 s' h=>hJG n c7 s' oO h;generalize mn (P.map (·.1))=first at *
  generalize oL P x=y at *;have hkn:=hk.next;have c1:¬t=s.next:=oO;have c2:¬s.next=t:=oO;have c3:¬m=s.next:=oO;have c4:¬m=s.next+1:=oO;have c5:¬m=t:=oO;have o8:=(((hk.trans (aA.new s (.own 34 1 1))).set t1 .dead).trans (aA.new _ (.own 34 1 (turn.length+1))));by_cases hy:y=first
  .have V4:(y != first)=false:=by simp[hy]
   (repeat' (first|apply qS|refine qK (zZ ?_)|(refine qR (zZ ?_);simp[f0,f3,f4,f5,hmH,hg,tH,t0,c1,c2,c3,c4,c5,V4])|(apply qC;simp[f0,f3,f4,f5,hmH,hg,tH,t0,c1,c2,c3,c4,c5,V4])|(refine zE ?_;intro J hJ;simp[f0,f3,f4,f5,hmH,hg,tH,t0,c1,c2,c3,c4,c5,V4];(repeat refine ca ?_);(refine zJ hJ ?_;clear hJ J))))
   rw[aAa (fun h=>h.1 hy)]at h3;exact⟨by rw[<- h3];simp[z0,oR],o8⟩
  .have V4:(y != first)=true:=by simp[hy]
   by_cases U7:0<n
   .have z7:turn.length+1<(inL P).length:=oO;have M8:(turn.length:Int)+1<(inL P).length:=oO
    (repeat' (first|apply qS|(apply qC;simp[f0,f3,f4,f5,hmH,hg,tH,t0,c1,c2,c3,c4,c5,V4,z7,M8])|(refine zE ?_;intro J hJ;simp[f0,f3,f4,f5,hmH,hg,tH,t0,c1,c2,c3,c4,c5,V4,z7,M8];(repeat refine ca ?_);(refine zJ hJ ?_;clear hJ J))))
    rw[aAj ⟨hy,U7⟩]at h3;refine HO ?_;simp only[ak,oH,pI,oC,FI];refine L0 _ _ (hRo (turn++[x]) y (s.next+1) _ _ (by simp;omega) U7 (by rw[<- h3];simp) (sF1 f0) sS (sF1 f4) sS ⟨oO,oO,sS,sS⟩ o8)
   .have z7:¬turn.length+1<(inL P).length:=oO;have M8:¬(turn.length:Int)+1<(inL P).length:=oO
    (repeat' (first|apply qS|refine qK (zZ ?_)|(refine qR (zZ ?_);simp[f0,f3,f4,f5,hmH,hg,tH,t0,c1,c2,c3,c4,c5,V4,z7,M8])|(apply qC;simp[f0,f3,f4,f5,hmH,hg,tH,t0,c1,c2,c3,c4,c5,V4,z7,M8])|(refine zE ?_;intro J hJ;simp[f0,f3,f4,f5,hmH,hg,tH,t0,c1,c2,c3,c4,c5,V4,z7,M8];(repeat refine ca ?_);(refine zJ hJ ?_;clear hJ J))))
    rw[aAa (fun h=>U7 h.2)]at h3;exact⟨by rw[<- h3];simp[z0,oR],o8⟩
 .rintro n fr s ⟨turn,x,t,h1,h2,h3,f0,f3,f4,f5,⟨t0,t1,t2,tH⟩,hk⟩ JG hJG;have hmH:=(hk.H m M6).trans hm;have hg:=FW x P;obtain⟨n,rfl⟩:∃ k,n=k+1:=⟨n-1,oO⟩;have h4:goR P (mn (P.map (·.1))) (n+1) x=x::(if oL P x≠mn (P.map (·.1))/\0<n then goR P (mn (P.map (·.1))) n (oL P x)else []):=rfl;rw[h4]at h3;clear h4;have hRo:∀(M0:List Int) (y:Int) (t:Nat) (c7:Frm) (s':St),n+M0.length=P.length->0<n->M0++goR P (mn (P.map (·.1))) n y=bX P->c7 0=.mp m->c7 3=.sl t M0.length (us M0)->c7 4=u (mn (P.map (·.1)))->c7 5=u y->Fb t 34 1 M0.length st s'->aA st s'->RoI P m st n c7 s':=fun M0 y t c7 s' q1 q2 q3 q4 q5 q6 q7 q8 q9=>⟨M0,y,t,q1,q2,q3,q4,q5,q6,q7,q8,q9⟩;have L0:=fun c7 s' h=>hJG n c7 s' oO h;generalize mn (P.map (·.1))=first at *
  generalize oL P x=y at *;have hkn:=hk.next;have c1:¬t=s.next:=oO;have c2:¬s.next=t:=oO;have c3:¬m=s.next:=oO;have c4:¬m=s.next+1:=oO;have c5:¬m=t:=oO;have o8:=(((hk.trans (aA.new s (.own 34 1 1))).set t1 .dead).trans (aA.new _ (.own 34 1 (turn.length+1))));by_cases hy:y=first
  .have V4:(y != first)=false:=by simp[hy]
   (repeat' (first|apply qS|refine qK (zZ ?_)|(refine qR (zZ ?_);simp[f0,f3,f4,f5,hmH,hg,tH,t0,c1,c2,c3,c4,c5,V4])|(apply qC;simp[f0,f3,f4,f5,hmH,hg,tH,t0,c1,c2,c3,c4,c5,V4])|(refine zE ?_;intro J hJ;simp[f0,f3,f4,f5,hmH,hg,tH,t0,c1,c2,c3,c4,c5,V4];(repeat refine ca ?_);(refine zJ hJ ?_;clear hJ J))))
   rw[aAa (fun h=>h.1 hy)]at h3;exact⟨by rw[<- h3];simp[z0,oR],o8⟩
  .have V4:(y != first)=true:=by simp[hy]
   by_cases U7:0<n
   .have z7:turn.length+1<(inL P).length:=oO;have M8:(turn.length:Int)+1<(inL P).length:=oO
    (repeat' (first|apply qS|refine qK (zZ ?_)|(apply qC;simp[f0,f3,f4,f5,hmH,hg,tH,t0,c1,c2,c3,c4,c5,V4,z7,M8])|(refine zE ?_;intro J hJ;simp[f0,f3,f4,f5,hmH,hg,tH,t0,c1,c2,c3,c4,c5,V4,z7,M8];(repeat refine ca ?_);(refine zJ hJ ?_;clear hJ J))))
    rw[aAj ⟨hy,U7⟩]at h3;refine HO ?_;simp only[ak,oH,pI,oC,FI];refine L0 _ _ (hRo (turn++[x]) y (s.next+1) _ _ (by simp;omega) U7 (by rw[<- h3];simp) (sF1 f0) sS (sF1 f4) sS ⟨oO,oO,sS,sS⟩ o8)
   .have z7:¬turn.length+1<(inL P).length:=oO;have M8:¬(turn.length:Int)+1<(inL P).length:=oO
    (repeat' (first|apply qS|refine qK (zZ ?_)|(refine qR (zZ ?_);simp[f0,f3,f4,f5,hmH,hg,tH,t0,c1,c2,c3,c4,c5,V4,z7,M8])|(apply qC;simp[f0,f3,f4,f5,hmH,hg,tH,t0,c1,c2,c3,c4,c5,V4,z7,M8])|(refine zE ?_;intro J hJ;simp[f0,f3,f4,f5,hmH,hg,tH,t0,c1,c2,c3,c4,c5,V4,z7,M8];(repeat refine ca ?_);(refine zJ hJ ?_;clear hJ J))))
    rw[aAa (fun h=>U7 h.2)]at h3;exact⟨by rw[<- h3];simp[z0,oR],o8⟩
end Aw
namespace Aw
open Go Go.RowKit Pl
def rH(l:List Int):List Int:=l.foldr wI []
theorem zC:∀ l,(rH l).Pairwise (· < ·)
 |[]=>.nil
 |x::l=>zR x _ (zC l)
theorem rM(x:Int):∀ l,x∈rH l↔x∈l
 |[]=>by simp[rH]
 |y::l=>by have ih:=rM x l;unfold rH at ih ⊢;rw[List.foldr_cons,rI,ih,aAe]
theorem Oq(A:Tn)(loc:Int->Nat):uT (ouL A loc)=A.map (·.1):=by
 induction A with
 |nil=>rfl
 |cons p P ih=>simp only[ouL,aAl,uT]at ih ⊢;rw[ih];rfl
theorem UR(m q:Nat)(es:List (List Int×LV))(K:List Int)(st:St)(hl:es.length<=1000)(hH:st.H q=.box 87 1 [.mp m])(hm:st.H m=.map false [.u32] es)(hK:uT es=K)(hn:K.Nodup):
 aB prog 63 [.fn (.func 105) [.pt q 0]] st fun r st'=>r=.sl 0 (rH K).length (us (rH K))/\aA st st':=by
 refine cH ?_;refine zN func63 ntmps63 [.tmp 2] ?_
 (refine xj0 ?_;intro J hJ)
 refine qE (JE m q es _ oO hH hm) sS ?_;rintro r s1 ⟨ys,hys,rfl,rfl⟩;have hyl:ys.length=es.length:=by rw[hys.length_eq];simp[uT]
 (refine mS hJ ?_;intro J hJ)
 refine qE (Vo ys st.next _ oO sS sS) sS ?_;rintro r s2 ⟨c,hB,hp,hs,j9⟩;have N8:=j9.1;simp only[aG]at N8;have hKp:aA st s2:=⟨oO,fun l' K3=>(j9.2 l' oO (by simp;omega)).trans ((aA.new st _).H l' K3)⟩;have o7:=hp.length_eq;have hpK:c.Perm K:=by rw[<- hK];exact hp.trans hys
 have hc:c=rH K:=by
  refine AR id ?_ (by simpa using zC K) fun x=>by rw[rM];exact hpK.mem_iff
  rw[aEG];refine(List.Pairwise.and hs (hpK.nodup_iff.2 hn)).imp fun h=>?_;have:=h.1;have:=h.2;omega
 refine dA hJ ?_;rw[<- hc];exact⟨st.next,c.length,⟨rfl,o7.symm⟩,_,_,_,hB,sS,⟨rfl,by rw[aAv sS]⟩,hKp.set (aAm _) _⟩
def fO(B:List Ed)(v x:Int):List Int:=
 if x<v then(B.map fun e=>2*e.id+if e.b=v then 1 else 0).reverse else B.map fun e=>2*e.id+if e.b=v then 1 else 0
theorem Xq(B:List Ed)(v x:Int)(t:Nat)(st:St)(hl:B.length<=1000)(M3:∀ e∈B,1<=e.id/\e.id<=1048576):
 aB prog 66 [.sl t B.length (eds B),u v,u x] st fun r st'=>r=.sl 0 (fO B v x).length (us (fO B v x))/\st'=st:=by
 refine qT (Q:=fun r=>r=.sl 0 (fO B v x).length (us (fO B v x))) (cH ?_) fun r h=>by subst h;exact⟨.inl rfl,zU _ _⟩
 have hel:=aI B;refine zN func66 ntmps66 [.tmp 6] ?_;refine xw0 ?_;refine CW 7 34 1 sS ?_;refine bD 13 12 14 28 (B.length) (fun j fr st2=>fr 1=u v/\fr 2=u x/\fr 11=.sl t B.length (eds B)/\aA st st2/\∃ q,fr 7=.ms q 0 j/\st.next<=q/\q<st2.next/\st2.H q=.box 34 1 (us ((B.take j).map fun e=>2*e.id+if e.b=v then 1 else 0))) ?_ ?_ ?_
 .exact⟨sS,sS,sS,aA.new _ _,st.next,sS,aAm _,sS,sS⟩
 .rintro j fr s dG ⟨f1,f2,f11,hk,q,f7,q1,q2,hq⟩ fi fn JO hJO;have hd:=aL B j dG;have u5:j*3<B.length*3:=oO;have C9:((B.take (j+1)).map fun e=>2*e.id+if e.b=v then 1 else 0)=((B.take j).map fun e=>2*e.id+if e.b=v then 1 else 0)++[2*(B.getD j ed0).id+if(B.getD j ed0).b=v then 1 else 0]:=by have h1:B.take (j+1)=B.take j++[B[j]]:=aAs dG;rw[h1,aAu,fB B j dG];rfl
  have hp:=M3 (B.getD j ed0) (by rw[fB B j dG];exact aAI _);have M6:((B.take j).map fun e=>2*e.id+if e.b=v then(1:Int)else 0).length=j:=by simp;omega
  generalize B.getD j ed0=y at *;generalize ((B.take j).map fun e=>2*e.id+if e.b=v then(1:Int)else 0)=D at *;obtain⟨d,a,b⟩:=y;simp only at C9 hp hd;have c1:¬q=s.next:=oO;have c1b:¬q=s.next+1:=oO;have htj:(us D).take j=us D:=aAv (by simp;omega);have hjl:j<=D.length:=oO;have hj1:(j+1)*4<=140737488355328:=oO;have hj2:j+1<=maxLen:=by unfold maxLen;omega
  have o8:∀(o1 o2 o4:cI),aA st ((((s.new o1).new o2).set q .dead).new o4):=fun o1 o2 o4=>(((hk.trans (aA.new _ _)).trans (aA.new _ _)).set q1 _).trans (aA.new _ _);by_cases hb:b=v
  .have T7:(b==v)=true:=by simp[hb]
   rw[aAj hb]at C9
   (refine XL f1 f7 f11 fi fn dG hd hel u5 T7 ?_;intro J hJ)
   refine qE (dOf d 1 _ oO oO (.inr rfl)) sS ?_;rintro r s1 ⟨rfl,rfl⟩;refine XM hJ f7 hq c1 c1b htj hjl hj1 hj2 ?_;exact hJO _ _ (sF1 fi) (sF1 fn) ⟨sF1 f1,sF1 f2,sF1 f11,o8 _ _ _,s.next+1+1,sS,oO,sS,by rw[C9];simp⟩
  .have T7:(b==v)=false:=by simp[hb]
   rw[aAa hb]at C9
   (refine XL f1 f7 f11 fi fn dG hd hel u5 T7 ?_;intro J hJ)
   refine qE (dOf d 0 _ oO oO (.inl rfl)) sS ?_;rintro r s1 ⟨rfl,rfl⟩;refine XM hJ f7 hq c1 c1b htj hjl hj1 hj2 ?_;exact hJO _ _ (sF1 fi) (sF1 fn) ⟨sF1 f1,sF1 f2,sF1 f11,o8 _ _ _,s.next+1+1,sS,oO,sS,by rw[C9];simp⟩
 .rintro fr s ⟨f1,f2,f11,hk,q,f7,q1,q2,hq⟩;rw[aBe]at hq;unfold fO;have M6:(B.map fun e=>2*e.id+if e.b=v then(1:Int)else 0).length=B.length:=sS;generalize (B.map fun e=>2*e.id+if e.b=v then(1:Int)else 0)=D at *;by_cases hx:x<v
  .rw[aAj hx];rw[<- M6]at f7
   (refine xj4 f1 f2 f7 hx ?_;intro J hJ)
   refine qE (AE D q s (by unfold small;omega) hq) sS ?_;rintro r s1 rfl;refine pN hJ f7 ?_;exact⟨q,D.length,⟨rfl,rfl⟩,_,_,_,aAj rfl,sS,⟨sS,by rw[aAv sS]⟩,(hk.set q1 _).set q1 _⟩
  .rw[aAa hx];refine xw4 f1 f2 f7 hx ?_;exact⟨q,B.length,⟨rfl,rfl⟩,_,_,_,hq,by simp;omega,⟨M6.symm,by rw[aAv (by simp;omega)]⟩,hk.set q1 _⟩
abbrev RM:=List (List Int×Nat×Nat×List LV)
def rmV(a:Nat×Nat×List LV):LV:=.sl a.1 a.2.1 a.2.2
def rmL(A:RM):List (List Int×LV):=A.map fun a=>(a.1,rmV a.2)
def mY(k:List Int)(x:Nat×Nat×List LV):RM->RM
 |[]=>[(k,x)]
 |a::A=>if k==a.1 then(k,x)::A else a::mY k x A
def getM(k:List Int):RM->Option (Nat×Nat×List LV)
 |[]=>none
 |a::A=>if k==a.1 then some a.2 else getM k A
theorem LP(k:List Int)(x:Nat×Nat×List LV):∀ A,bQ (rmL A) k (rmV x)=rmL (mY k x A)
 |[]=>rfl
 |a::A=>by
  have ih:=LP k x A
  grind [mY,rmL,bQ]
theorem uP(k:List Int):∀ A,bN (rmL A) k=(getM k A).map rmV
 |[]=>rfl
 |a::A=>by
  have ih:=uP k A
  grind [getM,rmL,bN]
theorem mU{k:List Int}{x:Nat×Nat×List LV}:∀ {A},getM k A=some x->(k,x)∈A
 |[],h=>by cases h
 |a::A,h=>by
  unfold getM at h
  split at h
  .grind
  .exact aAc _ (mU h)
theorem getM_none{k:List Int}:∀ {A:RM},getM k A=none->k∉A.map (·.1)
 |[],_=>by simp
 |a::A,h=>by
  unfold getM at h
  split at h
  .cases h
  .rename_i e;simp only[aAl,aAe,aCr];exact⟨by grind,getM_none h⟩
theorem Az{k:List Int}{x:Nat×Nat×List LV}:∀ {A:RM},k∉A.map (·.1)->mY k x A=A++[(k,x)]
 |[],_=>rfl
 |a::A,h=>by simp only[aAl,aAe,aCr]at h;unfold mY;rw[aAa (by grind),Az h.2];rfl
theorem vW{k:List Int}{x:Nat×Nat×List LV}:∀ {A:RM},k∈A.map (·.1)->(mY k x A).map (·.1)=A.map (·.1)
 |a::A,h=>by
  unfold mY;by_cases e:k=a.1
  .grind
  .rw[aAa (by grind),aAl,aAl,vW]
   grind
theorem rK{k:List Int}{x:Nat×Nat×List LV}:∀ {A:RM},(A.map (·.1)).Nodup->∀ a∈mY k x A,a=(k,x)\/(a∈A/\a.1≠k)
 |[],_,a,ha=>by grind [mY]
 |b::A,hn,a,ha=>by
  obtain⟨n1,n2⟩:=aAp.1 (by grind:(b.1::A.map (·.1)).Nodup);unfold mY at ha;by_cases e:k=b.1
  .grind
  .rw[aAa (by grind)]at ha;rcases aAe.1 ha with ha|ha
   .grind
   .rcases rK n2 a ha with h|⟨h1,h2⟩
    .grind
    grind
theorem Dr{k:List Int}{t n:Nat}{c:List LV}:∀ {A:RM},(A.map fun a=>a.2.1).Nodup->(∀ a∈A,a.2.1≠t)->((mY k (t,n,c) A).map fun a=>a.2.1).Nodup
 |[],_,_=>by simp[mY]
 |a::A,hn,h=>by
  obtain⟨n1,n2⟩:=aAp.1 (by grind:(a.2.1::A.map fun a=>a.2.1).Nodup);unfold mY
  split
  .grind
  .rw[aAl,aAp];refine⟨fun hm=>?_,Dr n2 fun b hb=>h b (aAc _ hb)⟩;obtain⟨b,hb,e⟩:=aAi.1 hm;have:b=(k,(t,n,c))\/b∈A:=by
    clear n1 n2 h hn hm;revert hb;clear e;induction A with
    |nil=>grind [mY]
    |cons a2 A ih=>
     grind [mY]
   grind
theorem Kv:∀ {A:RM},(A.map fun a=>a.2.1).Nodup->∀ {a b},a∈A->b∈A->a.2.1=b.2.1->a=b
 |[],_,_,_,h,_,_=>by cases h
 |c::A,hn,a,b,ha,hb,e=>by
  obtain⟨n1,n2⟩:=aAp.1 (by grind:(c.2.1::A.map fun a=>a.2.1).Nodup);rcases aAe.1 ha with ha|ha
  .grind
  .rcases aAe.1 hb with hb|hb
   .grind
   .exact Kv n2 ha hb e
structure yZ(ag:Bool)(ks:List IntKind)(e w:Nat)(A:RM)(m lo:Nat)(st:St):Prop where
 map:st.H m=.map ag ks (rmL A)
 mlt:lo<=m/\m<st.next
 tok:∀ a∈A,a.2.1≠0/\lo<=a.2.1/\a.2.1<st.next/\st.H a.2.1=.own e w a.2.2.1
 inj:(A.map fun a=>a.2.1).Nodup
 nd:(A.map (·.1)).Nodup
theorem yZ.keep{ag:Bool}{ks:List IntKind}{e w:Nat}{A:RM}{m lo:Nat}{st st':St}(h:yZ ag ks e w A m lo st)(k:aA st st'):yZ ag ks e w A m lo st':=by have hn:=k.next;have hm:=h.mlt;refine⟨(k.H _ hm.2).trans h.map,⟨hm.1,oO⟩,fun a ha=>?_,h.inj,h.nd⟩;obtain⟨h1,h2,h3,h4⟩:=h.tok a ha;exact⟨h1,h2,oO,(k.H _ h3).trans h4⟩
theorem yZ.put{ag:Bool}{ks:List IntKind}{e w:Nat}{A:RM}{m lo:Nat}{st st':St}(h:yZ ag ks e w A m lo st){k:List Int}{t n:Nat}{c:List LV}
 (ht:st.next<=t/\t<st'.next) (hn:st.next<=st'.next) (hlo:lo<=st.next) (h0:t≠0) (hm:st'.H m=.map ag ks (bQ (rmL A) k (rmV (t,n,c)))) (hT:st'.H t=.own e w n)
 (hK:∀ l,l<st.next->l≠m->(∀ x,getM k A=some x->l≠x.1)->st'.H l=st.H l):yZ ag ks e w (mY k (t,n,c) A) m lo st':=by
 have hmm:=h.mlt;rw[LP]at hm;refine⟨hm,⟨hmm.1,oO⟩,fun a ha=>?_,Dr h.inj fun a ha=>by have:=(h.tok a ha).2.2.1;omega,?_⟩
 .rcases rK h.nd a ha with rfl|⟨ha,Zo⟩
  .grind
  .obtain⟨h1,h2,h3,h4⟩:=h.tok a ha;refine⟨h1,h2,oO,?_⟩;rw[hK _ h3 (fun q=>by rw[q,h.map]at h4;grind) fun x hx q=>?_]
   .omega
   .have hx:=mU hx;refine Zo ?_;exact(by rw[Kv h.inj ha hx q]:a.1=k)
 .by_cases hk:k∈A.map (·.1)
  .rw[vW hk];exact h.nd
  .rw[Az hk,aAu,aAo];refine⟨h.nd,sS,fun a ha b hb e=>?_⟩
   grind
abbrev prE(e:Ed):Int×Int:=prP e.a e.b
def jR(E:List Ed)(p:Int×Int):List Ed:=E.filter fun e=>decide (prE e=p)
abbrev kI(g:Gr)(v x:Int):List Ed:=jR g.es (prP v x)
abbrev TL:=List (Int×List Int)
def pG(v:Int)(ds:List Int):TL->TL
 |[]=>[(v,ds)]
 |p::T=>if p.1=v then(v,p.2++ds)::T else p::pG v ds T
def eH(v:Int):TL->List Int
 |[]=>[]
 |p::T=>if p.1=v then p.2 else eH v T
def dZ(g:Gr)(v:Int)(L:List Int)(T:TL):TL:=L.foldl (fun T x=>pG v (fO (kI g v x) v x) T) T
def dJ(v:Int):Tn->List (Int×Int)
 |[]=>[]
 |a::A=>if a.1=v then a.2 else dJ v A
def fM(g:Gr)(A:Tn)(K:List Int)(T:TL):TL:=K.foldl (fun T v=>dZ g v (bX (dJ v A)) T) T
def gR(T:TL):Nat:=(T.map fun p=>p.2.length).sum
def okE(F:List (List Int))(A:Tn)(T:TL):Prop:=F.length<=300/\(∀ r∈F,r.length<=1000)/\A.length<=1000/\(∀ a∈A,a.2.length<=1000)/\gR T<=100000
instance (F:List (List Int)) (A:Tn) (T:TL):Decidable (okE F A T):=by unfold okE;infer_instance
def uR(g:Gr)(F:List (List Int))(T:TL):TL:=fM g (aS F) (rH ((aS F).map (·.1))) T
def yY(g:Gr):List (List Ed)->TL->Option (Option TL)
 |[],T=>some (some T)
 |l::bl,T=>(pU l).bind fun o=>match o with
  |none=>some none
  |some F=>if okE F (aS F) (uR g F T)then yY g bl (uR g F T)else none
def iA(g:Gr)(bl:List (List Ed)):Option (Option Mp):=
 (yY g bl []).bind fun o=>match o with
   |none=>some none
   |some T=>if ∀ v∈g.vs,(eH v T).length<=1000 then some (some ⟨g,g.vs.map fun v=>nrm (eH v T)⟩)else none
theorem Lw(P:List (Int×Int))(f:Int):∀ n x,(goR P f n x).length<=n
 |0,_=>by simp[goR]
 |n+1,x=>by
  unfold goR
  split
  .have:=Lw P f n (oL P x);grind
  .simp
theorem KA(P:List (Int×Int)):(bX P).length<=P.length:=Lw _ _ _ _
theorem uH(v:Int)(ds:List Int):∀ T:TL,gR (pG v ds T)=gR T+ds.length
 |[]=>by simp[pG,gR]
 |p::T=>by
  have ih:=uH v ds T
  grind [pG,gR]
theorem wO(g:Gr)(v:Int):∀(L:List Int) (T:TL),gR T<=gR (dZ g v L T)
 |[],_=>aAm _
 |x::L,T=>by
  have h:=wO g v L (pG v (fO (kI g v x) v x) T)
  grind [uH,dZ]
theorem DI(g:Gr)(A:Tn):∀(K:List Int) (T:TL),gR T<=gR (fM g A K T)
 |[],_=>aAm _
 |v::K,T=>by
  have h:=DI g A K (dZ g v (bX (dJ v A)) T)
  grind [wO,fM]
theorem Ac(v:Int):∀ T:TL,(eH v T).length<=gR T
 |[]=>aAm _
 |p::T=>by
  have ih:=Ac v T
  grind [eH,gR]
theorem Gu(g:Gr)(A:Tn)(K:List Int)(T:TL)(j:Nat):fM g A K T=fM g A (K.drop j) (fM g A (K.take j) T):=by
 grind [fM,List.take_append_drop]
theorem HZ(g:Gr)(v:Int)(L:List Int)(T:TL)(j:Nat):dZ g v L T=dZ g v (L.drop j) (dZ g v (L.take j) T):=by
 grind [dZ,List.take_append_drop]
theorem Hs{v:Int}:∀ {A:Tn},v∈A.map (·.1)->(v,dJ v A)∈A
 |a::A,h=>by
  unfold dJ;by_cases e:a.1=v
  .grind
  .rw[aAa e];simp only[aAl,aAe]at h;exact aAc _ (Hs (h.resolve_left fun h=>e h.symm))
theorem VG(x y:Int)(P:List (Int×Int)):rJ x y P≠[]:=by
 cases P with
 |nil=>simp[rJ]
 |cons p P=>grind [rJ]
theorem Kh{v x y:Int}:∀ {A:Tn},(∀ a∈A,a.2≠[])->∀ a∈iE v x y A,a.2≠[]
 |[],_,a,ha=>by grind [iE]
 |b::A,h,a,ha=>by
  unfold iE at ha
  split at ha
  .grind [VG]
  .rcases aAe.1 ha with ha|ha
   .grind
   .exact Kh (fun a ha=>h a (aAc _ ha)) a ha
theorem Gs(r:List Int){A:Tn}(h:∀ a∈A,a.2≠[]):∀ j,∀ a∈jV r A j,a.2≠[]
 |0=>h
 |j+1=>Kh (Gs r h j)
theorem KQ(R:List (List Int)):∀ a∈aS R,a.2≠[]:=by
 unfold aS;have key:∀(R:List (List Int)) (A:Tn),(∀ a∈A,a.2≠[])->∀ a∈R.foldl (fun A r=>jV r A r.length) A,a.2≠[]:=fun R=>by
  induction R with
  |nil=>grind
  |cons r R ih=>exact fun A h=>ih _ (Gs r h _)
 grind
structure Fo(E:List Ed)(A:RM):Prop where
 row:∀ a∈A,∃ p,a.1=pk p/\a.2.2.1=(jR E p).length/\a.2.2.2=eds (jR E p)
 all:∀ e∈E,pk (prE e)∈A.map (·.1)
theorem EO(E:List Ed)(x:Ed)(p:Int×Int):jR (E++[x]) p=if prE x=p then jR E p++[x]else jR E p:=by
 grind [jR]
theorem Fo.get{E:List Ed}{A:RM}(h:Fo E A)(hn:(A.map (·.1)).Nodup)(p:Int×Int):
 (jR E p=[]/\getM (pk p) A=none)\/∃ t,getM (pk p) A=some (t,(jR E p).length,eds (jR E p)):=by
 cases hg:getM (pk p) A with
 |none=>refine .inl ⟨?_,rfl⟩;refine aBU.2 fun e he=>?_;obtain⟨h1,h2⟩:=aAy.1 he;exact getM_none hg (by rw[<- aCh h2];exact h.all e h1)
 |some x=>
  obtain⟨t,n,c⟩:=x;obtain⟨q,h1,h2,h3⟩:=h.row _ (mU hg)
  grind
theorem Fo.add{E:List Ed}{A:RM}(h:Fo E A)(hn:(A.map (·.1)).Nodup)(x:Ed)(t:Nat):
 Fo (E++[x]) (mY (pk (prE x)) (t,(jR E (prE x)).length+1,eds (jR E (prE x))++[u x.id,u x.a,u x.b]) A):=by
 refine⟨fun a ha=>?_,fun e he=>?_⟩
 .rcases rK hn a ha with rfl|⟨ha,Zo⟩
  .grind [EO]
  .obtain⟨p,h1,h2,h3⟩:=h.row a ha
   grind [EO]
 .by_cases hk:pk (prE x)∈A.map (·.1)
  .rw[vW hk];rcases aAd.1 he with he|he
   .exact h.all e he
   grind
  .rw[Az hk,aAu,aAd];rcases aAd.1 he with he|he
   .exact .inl (h.all e he)
   grind
def uX(T:TL)(A:RM):Prop:=A.map (fun a=>(a.1,a.2.2))=T.map fun p=>([p.1],(p.2.length,us p.2))
theorem uX.get{v:Int}:∀ {T:TL} {A:RM},uX T A->(eH v T=[]/\getM [v] A=none)\/∃ t,getM [v] A=some (t,(eH v T).length,us (eH v T))
 |[],[],_=>.inl ⟨rfl,rfl⟩
 |[],a::A,h=>by cases h
 |p::T,[],h=>by cases h
 |p::T,a::A,h=>by
  obtain⟨ak,at',an,ac⟩:=a;simp only[uX,aAl,aBt,aBd]at h;obtain⟨⟨h1,h2,h3⟩,h4⟩:=h;subst h1;subst h2;subst h3;unfold eH getM;by_cases e:p.1=v
  .grind
  .rw[aAa e,aAa (by grind)];exact uX.get h4
theorem uX.add{v:Int}{ds:List Int}(t:Nat):∀ {T:TL} {A:RM},uX T A->uX (pG v ds T) (mY [v] (t,(eH v T).length+ds.length,us (eH v T)++us ds) A)
 |[],[],_=>by simp[uX,pG,mY,eH]
 |[],a::A,h=>by cases h
 |p::T,[],h=>by cases h
 |p::T,a::A,h=>by
  obtain⟨ak,at',an,ac⟩:=a;simp only[uX,aAl,aBt,aBd]at h;obtain⟨⟨h1,h2,h3⟩,h4⟩:=h;subst h1;subst h2;subst h3;unfold eH pG mY;by_cases e:p.1=v
  .grind [uX]
  .rw[aAa e,aAa e,aAa (by grind)];have:=uX.add (v:=v) (ds:=ds) t (T:=T) (A:=A) h4
   grind [uX]
end Aw
namespace Aw
open Go Go.RowKit Pl Eu
def oth(x:Ed)(v:Int):Int:=if x.a=v then x.b else x.a
abbrev eAt(es:List Ed)(i:Nat):Ed:=es.getD i ed0
def atP(es:List Ed)(v:Int):List Nat:=(List.range es.length).filter fun i=>decide ((eAt es i).a=v\/(eAt es i).b=v)
structure Bw where
 vis:List Int
 low:List Int
 stk:List Nat
 out:List (List Nat)
def nmW(V:List Int)(v:Int):Int:=if v∈V then(V.idxOf v:Int)+1 else 0
def lwW(s:Bw)(v:Int):Int:=s.low.getD (s.vis.idxOf v) 0
def nD(s:Bw)(v x:Int):Bw:={ s with low:=s.low.set (s.vis.idxOf v) x }
def eP(s:Bw)(i:Nat):Bw:={ s with stk:=s.stk++[i] }
def jM(l:List Nat)(i:Nat):Nat:=l.length-1-l.reverse.idxOf i
def tY(n:Nat)(seg:List Nat):List Nat:=(List.range n).filter fun i=>decide (i∈seg)
def GX(n:Nat)(s:Bw)(i:Nat):Option Bw:=if i∈s.stk then some { s with stk:=s.stk.take (jM s.stk i),out:=s.out++[tY n (s.stk.drop (jM s.stk i))] } else none
def goB(f:Bw->Nat->Option Bw):List Nat->Bw->Option Bw
 |[],s=>some s
 |i::l,s=>(f s i).bind (goB f l)
def NN(n:Nat)(v mine:Int)(i:Nat)(u:Int)(s1:Bw):Option Bw:=
 if mine<=lwW s1 u then GX n (nD s1 v (min (lwW s1 v) (lwW s1 u))) i else some (nD s1 v (min (lwW s1 v) (lwW s1 u)))
def iH(rec:Int->Int->Bw->Option Bw)(es:List Ed)(v x9 mine:Int)(s:Bw)(i:Nat):Option Bw:=
 if(i:Int)=x9 then some s
 else if oth (eAt es i) v∈s.vis then
  (if nmW s.vis (oth (eAt es i) v)<mine then some (nD (eP s i) v (min (lwW s v) (nmW s.vis (oth (eAt es i) v))))else some s)
 else(rec (oth (eAt es i) v) i (eP s i)).bind (NN es.length v mine i (oth (eAt es i) v))
def pH(s:Bw)(v:Int):Bw:={ s with vis:=s.vis++[v],low:=s.low++[(s.vis.length:Int)+1] }
def oG(es:List Ed):Nat->Int->Int->Bw->Option Bw
 |0,_,_,_=>none
 |n+1,v,x9,s=>goB (iH (oG es n) es v x9 ((s.vis.length:Int)+1)) (atP es v) (pH s v)
def sQ(es:List Ed)(n:Nat):List Int->Bw->Option Bw
 |[],s=>some s
 |v::l,s=>if v∈s.vis then sQ es n l s else(oG es n v (-1) s).bind (sQ es n l)
inductive RIn(es:List Ed)(S:Int->Prop)(x:Int):Int->Prop
 |refl (h:S x):RIn es S x x
 |step {y z:Int} (h:RIn es S x y) (hz:z∈nbr es y) (hs:S z):RIn es S x z
theorem RIn.here{es:List Ed}{S:Int->Prop}{x y:Int}(h:RIn es S x y):S x/\S y:=by
 induction h with
 |refl h=>grind
 |step _ _ hs ih=>grind
theorem RIn.trans{es:List Ed}{S:Int->Prop}{x y z:Int}(h:RIn es S x y)(k:RIn es S y z):RIn es S x z:=by
 induction k with
 |refl=>exact h
 |step _ hz hs ih=>exact .step ih hz hs
theorem RIn.symm{es:List Ed}{S:Int->Prop}{x y:Int}(h:RIn es S x y):RIn es S y x:=by
 induction h with
 |refl h=>exact .refl h
 |step h hz hs ih=>exact(RIn.step (.refl hs) (nI hz) h.here.2).trans ih
theorem RIn.mono{es:List Ed}{S S':Int->Prop}{x y:Int}(h:RIn es S x y)(hS:∀ z,S z->S' z):RIn es S' x y:=by
 induction h with
 |refl h=>exact .refl (hS _ h)
 |step _ hz hs ih=>exact .step ih hz (hS _ hs)
theorem RIn.closed{es:List Ed}{S L:Int->Prop}{x y:Int}(h:RIn es S x y)(hx:L x)(hc:∀ z,L z->∀ w∈nbr es z,S w->L w):L y:=by
 induction h with
 |refl=>omega
 |step h hz hs ih=>grind
def Qj(es:List Ed)(w:Int)(x y:Ed):Prop:=(x.a=w\/x.b=w)/\(y.a=w\/y.b=w)/\RIn es (·≠w) (oth x w) (oth y w)
def Iu(es:List Ed)(x y:Ed):Prop:=∃ w,Qj es w x y
theorem Iu.symm{es:List Ed}{x y:Ed}:Iu es x y->Iu es y x:=fun⟨w,h1,h2,h3⟩=>⟨w,h2,h1,h3.symm⟩
inductive mT(es:List Ed)(i:Nat):Nat->Prop
 |refl:mT es i i
 |step {j k:Nat} (h:mT es i j) (hj:j<es.length) (hk:k<es.length) (hr:Iu es (eAt es j) (eAt es k)):mT es i k
theorem mT.trans{es:List Ed}{i j k:Nat}(h:mT es i j)(h2:mT es j k):mT es i k:=by
 induction h2 with
 |refl=>exact h
 |step _ hj hk hr ih=>exact .step ih hj hk hr
theorem mT.symm{es:List Ed}{i j:Nat}(h:mT es i j):mT es j i:=by
 induction h with
 |refl=>exact .refl
 |step _ hj hk hr ih=>exact(mT.step .refl hk hj hr.symm).trans ih
structure dU(es:List Ed)(B:List Nat):Prop where
 ne:B≠[]
 rise:B.Pairwise (· < ·)
 lt:∀ i∈B,i<es.length
 rel:∀ i∈B,∀ j∈B,mT es i j
 all:∀ i∈B,∀ j,j<es.length->Iu es (eAt es i) (eAt es j)->j∈B
theorem dU.iff{es:List Ed}{B:List Nat}(h:dU es B){i j:Nat}(hi:i∈B):j∈B↔mT es i j:=by
 refine⟨h.rel i hi j,fun hr=>?_⟩;induction hr with
 |refl=>omega
 |step _ _ hk hr ih=>exact h.all _ ih _ hk hr
theorem aQ{es:List Ed}{v:Int}{i:Nat}:i∈atP es v↔i<es.length/\((eAt es i).a=v\/(eAt es i).b=v):=by
 grind [atP]
theorem sA{es:List Ed}{i:Nat}(h:i<es.length):eAt es i∈es:=by
 grind
theorem mD{x:Ed}{v:Int}(h:x.a=v\/x.b=v):oth x (oth x v)=v:=by
 grind [oth]
theorem mF(x:Ed)(v:Int):x.a=oth x v\/x.b=oth x v:=by
 grind [oth]
theorem Wu{x:Ed}{v:Int}(h:x.a≠x.b)(hv:x.a=v\/x.b=v):oth x v≠v:=by
 grind [oth]
theorem fQ{x:Ed}{v:Int}(hv:x.a=v\/x.b=v)(c:Int):(x.a=c\/x.b=c)↔(c=v\/c=oth x v):=by
 grind [oth]
theorem lZ{es:List Ed}{i:Nat}{v:Int}(h:i∈atP es v):oth (eAt es i) v∈nbr es v:=by
 grind [aQ,cT,oth]
theorem FA{es:List Ed}{v w:Int}(h:w∈nbr es v):∃ i∈atP es v,oth (eAt es i) v=w:=by
 rw[cT]at h;obtain⟨x,hx,h⟩:=h;obtain⟨i,hi,rfl⟩:=aAC hx;have e:eAt es i=es[i]:=fB _ _ hi
 grind [aQ,oth]
theorem zX{es:List Ed}{i:Nat}{v:Int}(h:i∈atP es v):i∈atP es (oth (eAt es i) v):=aQ.2 ⟨(aQ.1 h).1,mF _ _⟩
structure yW(g:Gr)(A:Int->Prop)(s:Bw)(v x9:Int):Prop where
 ln:s.low.length=s.vis.length
 nd:s.vis.Nodup
 act:∀ a,A a->a∈s.vis
 fin:∀ w∈s.vis,¬A w->∀ i∈atP g.es w,oth (eAt g.es i) w∈s.vis
 new:v∉s.vis
 con:∀ a b,A a->A b->RIn g.es A a b
 par:(x9 = -1/\∀ a,¬A a)\/∃ i:Nat,x9=i/\i∈atP g.es v/\A (oth (eAt g.es i) v)
structure LS(g:Gr)(s:Bw)(v x9:Int)(s1:Bw)(C:List Int)(T:List Nat)(N:List (List Nat)):Prop where
 vis:s1.vis=s.vis++C
 hd:v∈C
 nd:s1.vis.Nodup
 ln:s1.low.length=s1.vis.length
 low:∀ w∈s.vis,lwW s1 w=lwW s w
 clo:∀ c∈C,∀ i∈atP g.es c,oth (eAt g.es i) c∈s1.vis
 stk:s1.stk=s.stk++T
 out:s1.out=s.out++N
 pl:∀ i,(i∈T++N.flatten)↔i<g.es.length/\(i:Int)≠x9/\((eAt g.es i).a∈C\/(eAt g.es i).b∈C)
 pn:(T++N.flatten).Nodup
 lw1:lwW s1 v<=(s.vis.length:Int)+1
 lw2:∀ c∈C,∀ i∈atP g.es c,(i:Int)≠x9->oth (eAt g.es i) c∉C->lwW s1 v<=nmW s.vis (oth (eAt g.es i) c)
 lw3:lwW s1 v<(s.vis.length:Int)+1->∃ c∈C,∃ i∈atP g.es c,(i:Int)≠x9/\oth (eAt g.es i) c∈s.vis/\nmW s.vis (oth (eAt g.es i) c)=lwW s1 v
 rel:∀ i∈T,∃ b:Nat,x9=b/\mT g.es b i
 good:∀ B∈N,dU g.es B
 cn:∀ c∈C,RIn g.es (·∈C) v c
structure BLp(g:Gr)(s0:Bw)(v x9:Int)(Q:List Nat)(s:Bw)(D:List Int)(T:List Nat)(N:List (List Nat)):Prop where
 vis:s.vis=s0.vis++v::D
 nd:s.vis.Nodup
 ln:s.low.length=s.vis.length
 low:∀ w∈s0.vis,lwW s w=lwW s0 w
 qs:∀ i∈Q,i∈atP g.es v
 cloQ:∀ i∈Q,oth (eAt g.es i) v∈s.vis
 cloD:∀ c∈D,∀ i∈atP g.es c,oth (eAt g.es i) c∈s.vis
 stk:s.stk=s0.stk++T
 out:s.out=s0.out++N
 pl:∀ i,(i∈T++N.flatten)↔i<g.es.length/\(i:Int)≠x9/\(((eAt g.es i).a∈D\/(eAt g.es i).b∈D)\/(i∈Q/\oth (eAt g.es i) v∈s0.vis))
 pn:(T++N.flatten).Nodup
 lw1:lwW s v<=(s0.vis.length:Int)+1
 lwD:∀ c∈D,∀ i∈atP g.es c,oth (eAt g.es i) c∉D->oth (eAt g.es i) c≠v->lwW s v<=nmW s0.vis (oth (eAt g.es i) c)
 lwQ:∀ i∈Q,(i:Int)≠x9->oth (eAt g.es i) v∈s0.vis->lwW s v<=nmW s0.vis (oth (eAt g.es i) v)
 lw3:lwW s v<(s0.vis.length:Int)+1->∃ c∈v::D,∃ i∈atP g.es c,(i:Int)≠x9/\oth (eAt g.es i) c∈s0.vis/\nmW s0.vis (oth (eAt g.es i) c)=lwW s v
 rel:∀ i∈T,∃ b:Nat,x9=b/\mT g.es b i
 good:∀ B∈N,dU g.es B
 cn:∀ c∈D,RIn g.es (fun x=>x=v\/x∈D) v c
theorem Fm{V W:List Int}{x:Int}(h:x∈V):nmW (V++W) x=nmW V x:=by
 grind [nmW]
theorem Lj{V W:List Int}{x:Int}(h:x∉V)(h2:x∈W):(V.length:Int)+1<=nmW (V++W) x:=by
 grind [nmW]
theorem PU{V:List Int}{x:Int}(h:x∈V):nmW V x<(V.length:Int)+1:=by
 grind [nmW]
theorem Ft{s:Bw}(hl:s.low.length=s.vis.length){v w x:Int}(hv:v∈s.vis)(hw:w∈s.vis):lwW (nD s v x) w=if w=v then x else lwW s w:=by
 unfold lwW nD;have h1:=aBg hv;have h2:=aBg hw;simp only;rw[bL _ _ (by grind),List.getElem_set,bL _ _ oO];by_cases e:w=v
 .grind
 .rw[aAa e,aAa];intro k;apply e;have e1:=aBL h1
  grind
theorem Tj{s:Bw}{v w:Int}(hl:s.low.length=s.vis.length)(hw:w∈s.vis):lwW (pH s v) w=lwW s w:=by
 grind [lwW,pH]
theorem Qm{s:Bw}{v:Int}(hl:s.low.length=s.vis.length)(hv:v∉s.vis):lwW (pH s v) v=(s.vis.length:Int)+1:=by
 grind [lwW,pH]
theorem xI{P R:List Nat}{i:Nat}(h:i∉R):jM (P++i::R) i=P.length:=by
 grind [jM]
theorem kS{n:Nat}{S:List Nat}{i:Nat}:i∈tY n S↔i<n/\i∈S:=by
 grind [tY]
theorem xP(n:Nat)(S:List Nat):(tY n S).Pairwise (· < ·):=aCD _ (aBP)
theorem xF{n:Nat}{S:List Nat}(hn:S.Nodup)(hl:∀ i∈S,i<n):(tY n S).Perm S:=
 (aAZ ((xP n S).imp fun h=>aCb h) hn).2 fun i=>by grind [kS]
section
variable {g:Gr} (hg:GoodE g)
include hg
theorem tG{i:Nat}{v:Int}(h:i∈atP g.es v):oth (eAt g.es i) v≠v:=Wu (hg.ne _ (sA (aQ.1 h).1)) (aQ.1 h).2
omit hg in
theorem yW.start{A:Int->Prop}{s:Bw}{v x9:Int}(h:yW g A s v x9):BLp g s v x9 [] (pH s v) [] [] [] where
 vis:=rfl
 nd:=by show(s.vis++[v]).Nodup;rw[aAo];exact⟨h.nd,sS,fun a ha b hb=>by rintro rfl;rw[aAk]at hb;subst hb;exact h.new ha⟩
 ln:=by show(s.low++[_]).length=(s.vis++[v]).length;simp[h.ln]
 low:=fun w hw=>Tj h.ln hw
 qs:=fun i hi=>by grind
 cloQ:=fun i hi=>by grind
 cloD:=fun i hi=>by grind
 stk:=by show s.stk=s.stk++[];simp
 out:=by show s.out=s.out++[];simp
 pl:=fun i=>by simp
 pn:=sS
 lw1:=by rw[Qm h.ln h.new];omega
 lwD:=fun i hi=>by grind
 lwQ:=fun i hi=>by grind
 lw3:=fun hl=>by rw[Qm h.ln h.new]at hl;omega
 rel:=fun i hi=>by grind
 good:=fun i hi=>by grind
 cn:=fun i hi=>by grind
theorem BLp.done{A:Int->Prop}{s0 s:Bw}{v x9:Int}{D:List Int}{T:List Nat}{N:List (List Nat)}(h0:yW g A s0 v x9)(h:BLp g s0 v x9 (atP g.es v) s D T N):LS g s0 v x9 s (v::D) T N where
 vis:=h.vis
 hd:=sS
 nd:=h.nd
 ln:=h.ln
 low:=h.low
 clo:=fun c hc i hi=>by
  rcases aAe.1 hc with rfl|hc
  .exact h.cloQ i hi
  .exact h.cloD c hc i hi
 stk:=h.stk
 out:=h.out
 pl:=fun i=>by
  rw[h.pl i];refine⟨fun⟨h1,h2,h3⟩=>⟨h1,h2,?_⟩,fun⟨h1,h2,h3⟩=>⟨h1,h2,?_⟩⟩
  .rcases h3 with(h3|h3)|⟨h3,_⟩
   .grind
   .grind
   grind [aQ]
  .by_cases hv:(eAt g.es i).a=v\/(eAt g.es i).b=v
   .have hi:i∈atP g.es v:=aQ.2 ⟨h1,hv⟩;have hq:=h.cloQ i hi;rw[h.vis,aAd,aAe]at hq;rcases hq with hq|hq|hq
    .grind
    .grind [tG]
    grind [mF]
   grind
 pn:=h.pn
 lw1:=h.lw1
 lw2:=fun c hc i hi hb ho=>by
  have ho2:=ho;rw[aAe,aCr]at ho2;rcases aAe.1 hc with rfl|hc
  .refine h.lwQ i hi hb ?_;have hq:=h.cloQ i hi;rw[h.vis,aAd]at hq
   grind
  .exact h.lwD c hc i hi ho2.2 ho2.1
 lw3:=h.lw3
 rel:=h.rel
 good:=h.good
 cn:=fun c hc=>by
  rcases aAe.1 hc with rfl|hc
  .exact .refl sS
  .exact(h.cn c hc).mono fun z hz=>aAe.2 hz
end
theorem AY{x:Ed}{L:List Int}{w:Int}(hw:w∈L)(he:x.a=w\/x.b=w)(ho:oth x w∈L):x.a∈L/\x.b∈L:=by
 have e1:=(fQ he x.a).1 (.inl rfl);have e2:=(fQ he x.b).1 (.inr rfl)
 grind
section
variable {g:Gr} (hg:GoodE g) {A:Int->Prop} {s0 s:Bw} {v x9:Int} {Q:List Nat} {D:List Int} {T:List Nat} {N:List (List Nat)} (h0:yW g A s0 v x9) (h:BLp g s0 v x9 Q s D T N)
include hg h0 h
theorem BLp.v_in:v∈s.vis:=by rw[h.vis];simp
theorem BLp.old_in{w:Int}(hw:w∈s0.vis):w∈s.vis:=by rw[h.vis];grind
theorem BLp.d_in{w:Int}(hw:w∈D):w∈s.vis:=by rw[h.vis];grind
theorem BLp.by_out{b:Nat}(hb:x9=b):oth (eAt g.es b) v∈s0.vis/\b∈atP g.es v/\A (oth (eAt g.es b) v):=by
 rcases h0.par with⟨h1,_⟩|⟨i,h1,h2,h3⟩
 .omega
 .obtain rfl:i=b:=oO;exact⟨h0.act _ h3,h2,h3⟩
theorem BLp.d_new{d:Int}(hd:d∈D):d∉s0.vis/\d≠v:=by
 have hn:=h.nd;rw[h.vis,aAo]at hn
 grind
theorem BLp.pl_in{j:Nat}(hj:j∈T++N.flatten):(eAt g.es j).a∈s.vis/\(eAt g.es j).b∈s.vis:=by
 obtain⟨h1,_,h3⟩:=(h.pl j).1 hj;rcases h3 with(k|k)|⟨k,ho⟩
 .exact AY (h.d_in hg h0 k) (.inl rfl) (h.cloD _ k j (aQ.2 ⟨h1,.inl rfl⟩))
 .exact AY (h.d_in hg h0 k) (.inr rfl) (h.cloD _ k j (aQ.2 ⟨h1,.inr rfl⟩))
 .exact AY (h.v_in hg h0) (aQ.1 (h.qs j k)).2 (h.cloQ j k)
theorem BLp.back_act{c:Int}(hc:c∉s0.vis){i:Nat}(hi:i∈atP g.es c)(ho:oth (eAt g.es i) c∈s0.vis):A (oth (eAt g.es i) c):=
 aAG fun hA=>hc (by
  have:=h0.fin _ ho hA i (zX hi)
  grind [mD,aQ])
theorem BLp.same{i:Nat}(hi:i∈atP g.es v)(hb:(i:Int)=x9):BLp g s0 v x9 (Q++[i]) s D T N where
 vis:=h.vis
 nd:=h.nd
 ln:=h.ln
 low:=h.low
 qs:=fun j hj=>by rcases aAd.1 hj with k|k;exact h.qs j k;grind
 cloQ:=fun j hj=>by
  rcases aAd.1 hj with k|k
  .exact h.cloQ j k
  .rw[aAk]at k;subst k;exact h.old_in hg h0 (h.by_out hg h0 hb.symm).1
 cloD:=h.cloD
 stk:=h.stk
 out:=h.out
 pl:=fun j=>by
  rw[h.pl j,aAd,aAk]
  grind
 pn:=h.pn
 lw1:=h.lw1
 lwD:=h.lwD
 lwQ:=fun j hj hjb=>by
  rcases aAd.1 hj with k|k
  .exact h.lwQ j k hjb
  grind
 lw3:=h.lw3
 rel:=h.rel
 good:=h.good
 cn:=h.cn
theorem BLp.skip{i:Nat}(hi:i∈atP g.es v)(j5:oth (eAt g.es i) v∈s.vis)(hn:¬nmW s.vis (oth (eAt g.es i) v)<(s0.vis.length:Int)+1):BLp g s0 v x9 (Q++[i]) s D T N:=by
 have H9:oth (eAt g.es i) v∉s0.vis:=fun k=>hn (by rw[h.vis,Fm k];exact PU k)
 exact {
 vis:=h.vis
 nd:=h.nd
 ln:=h.ln
 low:=h.low
 qs:=fun j hj=>by rcases aAd.1 hj with k|k;exact h.qs j k;grind
 cloQ:=fun j hj=>by
  rcases aAd.1 hj with k|k
  .exact h.cloQ j k
  grind
 cloD:=h.cloD
 stk:=h.stk
 out:=h.out
 pl:=fun j=>by
  rw[h.pl j,aAd,aAk]
  grind
 pn:=h.pn
 lw1:=h.lw1
 lwD:=h.lwD
 lwQ:=fun j hj hjb=>by
  rcases aAd.1 hj with k|k
  .exact h.lwQ j k hjb
  grind
 lw3:=h.lw3
 rel:=h.rel
 good:=h.good
 cn:=h.cn }
theorem BLp.act_to{b:Nat}(hb:x9=b){a:Int}(ha:A a):RIn g.es (·≠v) a (oth (eAt g.es b) v):=
 (h0.con _ _ ha (h.by_out hg h0 hb).2.2).mono fun z hz e=>by subst e;exact h0.new (h0.act _ hz)
theorem BLp.no_root{a:Int}(ha:A a):∃ b:Nat,x9=b:=by
 rcases h0.par with⟨_,h2⟩|⟨b,h2,_⟩
 .grind
 grind
theorem BLp.back{i:Nat}(hi:i∈atP g.es v)(hiQ:i∉Q)(hib:(i:Int)≠x9)(j5:oth (eAt g.es i) v∈s.vis)(hn:nmW s.vis (oth (eAt g.es i) v)<(s0.vis.length:Int)+1):
 BLp g s0 v x9 (Q++[i]) (nD (eP s i) v (min (lwW s v) (nmW s.vis (oth (eAt g.es i) v)))) D (T++[i]) N:=by
 have O8:oth (eAt g.es i) v∈s0.vis:=aAG fun k=>by have h1:=j5;rw[h.vis,aAd]at h1;have:=Lj k (h1.resolve_left k);rw[h.vis]at hn;omega
 have hA:=h.back_act hg h0 h0.new hi O8;have X9:=h.v_in hg h0;have hnm:nmW s.vis (oth (eAt g.es i) v)=nmW s0.vis (oth (eAt g.es i) v):=by rw[h.vis,Fm O8]
 have hlw:∀ w∈s.vis,∀ x,lwW (nD (eP s i) v x) w=if w=v then x else lwW s w:=fun w hw x=>Ft (s:=eP s i) h.ln X9 hw
 have Z8:i∉T++N.flatten:=fun k=>by
  obtain⟨_,_,h3⟩:=(h.pl i).1 k;rcases h3 with(k2|k2)|⟨k2,_⟩
  .rcases(fQ (aQ.1 hi).2 _).1 (.inl rfl)with e|e
   .rw[e]at k2;exact(h.d_new hg h0 k2).2 rfl
   .rw[e]at k2;exact(h.d_new hg h0 k2).1 O8
  .rcases(fQ (aQ.1 hi).2 _).1 (.inr rfl)with e|e
   .rw[e]at k2;exact(h.d_new hg h0 k2).2 rfl
   .rw[e]at k2;exact(h.d_new hg h0 k2).1 O8
  grind
 exact {
 vis:=h.vis
 nd:=h.nd
 ln:=by show(s.low.set _ _).length=_;rw[aCN];exact h.ln
 low:=fun w hw=>by rw[hlw w (h.old_in hg h0 hw),aAa (fun e=>h0.new (by grind))];exact h.low w hw
 qs:=fun j hj=>by rcases aAd.1 hj with k|k;exact h.qs j k;grind
 cloQ:=fun j hj=>by
  rcases aAd.1 hj with k|k
  .exact h.cloQ j k
  .rw[aAk]at k;subst k;exact j5
 cloD:=h.cloD
 stk:=by show s.stk++[i]=_;rw[h.stk,aAD]
 out:=h.out
 pl:=fun j=>by
  rw[aAD,aAd,aAd,or_left_comm,<- aAd,h.pl j,aAk,aAd,aAk]
  grind [aQ]
 pn:=by rw[aAD];refine((aBF (a:=i) (l₁:=T) (l₂:=N.flatten)).nodup_iff).2 ?_;exact aAp.2 ⟨Z8,h.pn⟩
 lw1:=by grind
 lwD:=fun c hc j hj h1 h2=>by rw[hlw v X9,aAj rfl];have:=h.lwD c hc j hj h1 h2;omega
 lwQ:=fun j hj hjb ho=>by
  rw[hlw v X9,aAj rfl];rcases aAd.1 hj with k|k
  .have:=h.lwQ j k hjb ho;omega
  grind
 lw3:=fun hl=>by
  rw[hlw v X9,aAj rfl]at hl ⊢;by_cases Q5:lwW s v<=nmW s.vis (oth (eAt g.es i) v)
  .rw[Int.min_eq_left Q5]at hl ⊢;exact h.lw3 hl
  grind
 rel:=fun j hj=>by
  rcases aAd.1 hj with k|k
  .exact h.rel j k
  .rw[aAk]at k;subst k;obtain⟨b,hb⟩:=h.no_root hg h0 hA;obtain⟨_,b2,_⟩:=h.by_out hg h0 hb;exact⟨b,hb,.step .refl (aQ.1 b2).1 (aQ.1 hi).1 ⟨v,(aQ.1 b2).2,(aQ.1 hi).2,(h.act_to hg h0 hb hA).symm⟩⟩
 good:=h.good
 cn:=h.cn }
end
section
variable {g:Gr} (hg:GoodE g) {A:Int->Prop} {s0 s:Bw} {v x9:Int} {Q:List Nat} {D:List Int} {T:List Nat} {N:List (List Nat)} (h0:yW g A s0 v x9) (h:BLp g s0 v x9 Q s D T N)
include hg h0 h
theorem BLp.pre{i:Nat}(hi:i∈atP g.es v)(H9:oth (eAt g.es i) v∉s.vis):yW g (fun a=>A a\/a=v) (eP s i) (oth (eAt g.es i) v) i where
 ln:=h.ln
 nd:=h.nd
 act:=fun a ha=>by
  rcases ha with ha|e
  .exact h.old_in hg h0 (h0.act _ ha)
  .show a∈s.vis;rw[e];exact h.v_in hg h0
 fin:=fun w hw hA j hj=>by
  have J9:w∈s.vis:=hw;show oth (eAt g.es j) w∈s.vis;rw[h.vis,aAd,aAe]at J9;rcases J9 with k|k|k
  .exact h.old_in hg h0 (h0.fin w k (fun x=>hA (.inl x)) j hj)
  .omega
  .exact h.cloD w k j hj
 new:=H9
 con:=by
  have up:∀ a b,A a->A b->RIn g.es (fun a=>A a\/a=v) a b:=fun a b ha hb=>(h0.con a b ha hb).mono fun z hz=>.inl hz;have tov:∀ a,A a->RIn g.es (fun a=>A a\/a=v) a v:=fun a ha=>by obtain⟨b,hb⟩:=h.no_root hg h0 ha;obtain⟨_,b2,b3⟩:=h.by_out hg h0 hb;exact .step (up a _ ha b3) (nI (lZ b2)) (.inr rfl)
  rintro a b (ha|rfl) (hb|rfl)
  .grind
  .grind
  .exact(tov b hb).symm
  .exact .refl (.inr rfl)
 par:=.inr ⟨i,rfl,zX hi,.inr (mD (aQ.1 hi).2)⟩
theorem BLp.child{i:Nat}(hi:i∈atP g.es v)(hiQ:i∉Q)(hib:(i:Int)≠x9)(H9:oth (eAt g.es i) v∉s.vis){s1:Bw}{C:List Int}{T':List Nat}{N':List (List Nat)}
 (hp:LS g (eP s i) (oth (eAt g.es i) v) i s1 C T' N'):∃ s2 D2 T2 N2,NN g.es.length v ((s0.vis.length:Int)+1) i (oth (eAt g.es i) v) s1=some s2/\BLp g s0 v x9 (Q++[i]) s2 D2 T2 N2:=by
 obtain⟨u,hu⟩:∃ u,u=oth (eAt g.es i) v:=⟨_,rfl⟩;have X9:=h.v_in hg h0;have Z9:s1.vis=s.vis++C:=hp.vis;have hvis2:s1.vis=s0.vis++v::(D++C):=by rw[Z9,h.vis,aAD];rfl
 have X8:v∈s1.vis:=by rw[Z9];exact aAq _ X9
 have hcn:∀ c∈C,c∉s.vis:=fun c hc k=>by
  have:=hp.nd
  grind
 have Y1:(eAt g.es i).a=v\/(eAt g.es i).b=v:=(aQ.1 hi).2;have hil:=(aQ.1 hi).1;have huC:u∈C:=by rw[hu];exact hp.hd
 have hu1:u∈s1.vis:=by rw[Z9];exact aAx _ huC
 have huv:u≠v:=by rw[hu];exact tG hg hi
 have hlen:s.vis.length=s0.vis.length+1+D.length:=by rw[h.vis,aAn,List.length_cons];omega
 have hlv:lwW s1 v=lwW s v:=hp.low v X9;have inS:∀ {j:Nat},j∈T++N.flatten->¬((eAt g.es j).a∈C\/(eAt g.es j).b∈C):=fun hj k=>by
  have:=h.pl_in hg h0 hj
  grind
 have byC:∀ b:Nat,x9=b->¬((eAt g.es b).a∈C\/(eAt g.es b).b∈C):=fun b hb k=>by
  obtain⟨b1,b2,_⟩:=h.by_out hg h0 hb;have:=AY X9 (aQ.1 b2).2 (h.old_in hg h0 b1)
  grind
 have iC:(eAt g.es i).a∈C\/(eAt g.es i).b∈C:=by
  rcases mF (eAt g.es i) v with e|e
  .grind
  .grind
 have iT':i∉T'++N'.flatten:=fun k=>((hp.pl i).1 k).2.1 rfl;have Z8:∀ j,(j=i\/j∈T'++N'.flatten)↔j<g.es.length/\((eAt g.es j).a∈C\/(eAt g.es j).b∈C):=fun j=>by
  rw[hp.pl j]
  grind
 have S6:∀ j,(j∈T++N.flatten\/(j=i\/j∈T'++N'.flatten))↔j<g.es.length/\(j:Int)≠x9/\(((eAt g.es j).a∈D++C\/(eAt g.es j).b∈D++C)\/(j∈Q++[i]/\oth (eAt g.es j) v∈s0.vis)):=fun j=>by
  rw[h.pl j,Z8 j]
  grind
 have hnd:((T++N.flatten)++i::(T'++N'.flatten)).Nodup:=by rw[aAo];refine⟨h.pn,aAp.2 ⟨iT',hp.pn⟩,fun a ha b hb=>?_⟩;rintro rfl;exact inS ha ((Z8 a).1 (aAe.1 hb)).2
 have Y0:∀ x,∀ w∈s1.vis,lwW (nD s1 v x) w=if w=v then x else lwW s1 w:=fun x w hw=>Ft hp.ln X8 hw
 have hold1:∀ w∈s0.vis,w≠v:=fun w hw e=>h0.new (by grind);have nm0:∀ w∈s0.vis,nmW s.vis w=nmW s0.vis w:=fun w hw=>by rw[h.vis,Fm hw]
 have wit:lwW s1 u<(s0.vis.length:Int)+1->∃ c∈C,∃ j∈atP g.es c,j≠i/\oth (eAt g.es j) c∈s0.vis/\nmW s0.vis (oth (eAt g.es j) c)=lwW s1 u:=fun hl=>by
  have hl2:lwW s1 u<((eP s i).vis.length:Int)+1:=by show _<(s.vis.length:Int)+1;omega
  rw[hu]at hl2;obtain⟨c,hc,j,hj,hji,ho,he⟩:=hp.lw3 hl2;have he:nmW s.vis (oth (eAt g.es j) c)=lwW s1 u:=by rw[hu];exact he
  have j5:oth (eAt g.es j) c∈s.vis:=ho;have h1:oth (eAt g.es j) c∈s0.vis:=aAG fun k=>by have h2:=j5;rw[h.vis,aAd]at h2;have:=Lj k (h2.resolve_left k);rw[<- h.vis]at this;omega
  grind
 have base:∀(s2:Bw) (T2:List Nat) (N2:List (List Nat)),s2.vis=s1.vis->s2.low=(nD s1 v (min (lwW s1 v) (lwW s1 u))).low->s2.stk=s0.stk++T2->s2.out=s0.out++N2->
  (T2++N2.flatten).Perm ((T++N.flatten)++i::(T'++N'.flatten))->(∀ j∈T2,∃ b:Nat,x9=b/\mT g.es b j)->(∀ B∈N2,dU g.es B)->BLp g s0 v x9 (Q++[i]) s2 (D++C) T2 N2:=fun s2 T2 N2 e1 e2 e3 e4 hperm hrel hgood=>by
  have hlw:∀ w∈s1.vis,lwW s2 w=if w=v then min (lwW s1 v) (lwW s1 u)else lwW s1 w:=fun w hw=>by rw[<- Y0 _ w hw];unfold lwW;rw[e1,e2];rfl
  exact {
  vis:=by grind
  nd:=by rw[e1];exact hp.nd
  ln:=by rw[e1,e2];show(s1.low.set _ _).length=_;rw[aCN];exact hp.ln
  low:=fun w hw=>by have N5:=h.old_in hg h0 hw;rw[hlw w (by grind),aAa (hold1 w hw),hp.low w N5];exact h.low w hw
  qs:=fun j hj=>by rcases aAd.1 hj with k|k;exact h.qs j k;grind
  cloQ:=fun j hj=>by
   rw[e1];rcases aAd.1 hj with k|k
   .rw[Z9];exact aAq _ (h.cloQ j k)
   grind
  cloD:=fun c hc j hj=>by
   rw[e1];rcases aAd.1 hc with k|k
   .rw[Z9];exact aAq _ (h.cloD c k j hj)
   .exact hp.clo c k j hj
  stk:=e3
  out:=e4
  pl:=fun j=>by rw[hperm.mem_iff,<- S6 j,aAd,aAe]
  pn:=hperm.nodup_iff.2 hnd
  lw1:=by rw[hlw v X8,aAj rfl,hlv];have:=h.lw1;omega
  lwD:=fun c hc j hj h1 h2=>by
   rw[hlw v X8,aAj rfl,hlv];rw[aAd,aCr]at h1;rcases aAd.1 hc with k|k
   .have:=h.lwD c k j hj h1.1 h2;omega
   .have hji:(j:Int)≠i:=fun e=>by
     obtain rfl:j=i:=oO;rcases(fQ Y1 c).1 (aQ.1 hj).2 with e|e
     .grind
     grind [mD]
    have h3:=hp.lw2 c k j hj hji h1.2;have h4:lwW s1 u<=nmW s.vis (oth (eAt g.es j) c):=by rw[hu];exact h3
    have j5:=hp.clo c k j hj;rw[hvis2,aAd,aAe,aAd]at j5;have j5:=j5.resolve_right fun x=>by rcases x with x|x|x;exact h2 x;exact h1.1 x;grind
    rw[nm0 _ j5]at h4;omega
  lwQ:=fun j hj hjb ho=>by
   rw[hlw v X8,aAj rfl,hlv];rcases aAd.1 hj with k|k
   .have:=h.lwQ j k hjb ho;omega
   .rw[aAk]at k;subst k;exact absurd (h.old_in hg h0 ho) H9
  lw3:=fun hl=>by
   rw[hlw v X8,aAj rfl]at hl ⊢;by_cases Q5:lwW s1 v<=lwW s1 u
   .rw[Int.min_eq_left Q5,hlv]at hl ⊢;obtain⟨c,hc,j,hj,hjb,ho,he⟩:=h.lw3 hl
    grind
   .rw[Int.min_eq_right oO]at hl ⊢;obtain⟨c,hc,j,hj,hji,ho,he⟩:=wit hl;refine⟨c,by grind,j,hj,fun e=>byC j e.symm ?_,ho,he⟩;rcases(aQ.1 hj).2 with x|x
    .grind
    grind
  rel:=hrel
  good:=hgood
  cn:=fun c hc=>by
   rcases aAd.1 hc with k|k
   .exact(h.cn c k).mono fun z hz=>hz.imp_right fun x=>aAq _ x
   .have h1:=(hp.cn c k).mono (S':=fun x=>x=v\/x∈D++C) fun z hz=>.inr (aAx _ hz)
    exact(RIn.step (.refl (.inl rfl)) (lZ hi) (.inr (aAx _ (by grind)))).trans h1 }
 rw[<- hu];unfold NN;by_cases hc:(s0.vis.length:Int)+1<=lwW s1 u
 .rw[aAj hc];have hstk:s1.stk=(s0.stk++T)++i::T':=by rw[hp.stk];show(s.stk++[i])++T'=_;rw[h.stk];simp
  have hiT:i∉T':=fun k=>iT' (aAq _ k);have Y9:jM s1.stk i=(s0.stk++T).length:=by rw[hstk];exact xI hiT
  have hSn:(i::T').Nodup:=aAp.2 ⟨hiT,(aAo.1 hp.pn).1⟩;have hSl:∀ j∈i::T',j<g.es.length:=fun j hj=>by
   grind
  have hbp:=xF hSn hSl;have hrelS:∀ j∈i::T',mT g.es i j:=fun j hj=>by
   rcases aAe.1 hj with e|k
   .rw[e];exact .refl
   .obtain⟨b,hb,hr⟩:=hp.rel j k;obtain rfl:i=b:=oO;omega
  have hlu:∀ c∈C,∀ j∈atP g.es c,oth (eAt g.es j) c∈C\/oth (eAt g.es j) c=v:=fun c hcC j hj=>by
   by_cases e1:oth (eAt g.es j) c∈C
   .grind
   refine .inr (aAG fun e2=>?_);by_cases hji:(j:Int)=i
   .obtain rfl:j=i:=oO;rcases(fQ Y1 c).1 (aQ.1 hj).2 with e|e
    .grind
    grind [mD]
   .have h3:=hp.lw2 c hcC j hj hji e1;have h4:lwW s1 u<=nmW s.vis (oth (eAt g.es j) c):=by rw[hu];exact h3
    have j5:=hp.clo c hcC j hj;rw[Z9]at j5;have j5:=(aAd.1 j5).resolve_right e1;have O8:oth (eAt g.es j) c∈s0.vis\/oth (eAt g.es j) c∈D:=by
     rw[h.vis,aAd,aAe]at j5;rcases j5 with k|k|k
     .grind
     .omega
     .grind
    rcases O8 with k|k
    .rw[nm0 _ k]at h4;have:=PU k;omega
    .have:=h.cloD _ k j (zX hj)
     grind [mD,aQ]
  have hgood:dU g.es (tY g.es.length (i::T')):={
   ne:=fun e=>by
    have:i∈tY g.es.length (i::T'):=kS.2 ⟨hil,sS⟩
    grind
   rise:=xP _ _
   lt:=fun j hj=>(kS.1 hj).1
   rel:=fun j hj k hk=>(hrelS j (kS.1 hj).2).symm.trans (hrelS k (kS.1 hk).2)
   all:=fun j hj k hk hr=>by
    have hjS:=(kS.1 hj).2;have hjC:=((Z8 j).1 ((aAe.1 hjS).imp_right fun x=>aAq _ x)).2;have hkC:(eAt g.es k).a∈C\/(eAt g.es k).b∈C:=by
     obtain⟨w,w1,w2,w3⟩:=hr;have hjw:j∈atP g.es w:=aQ.2 ⟨hSl j hjS,w1⟩;have hkw:k∈atP g.es w:=aQ.2 ⟨hk,w2⟩;by_cases hwC:w∈C
     .rcases w2 with e|e
      .grind
      grind
     have hoC:oth (eAt g.es j) w∈C:=by
      rcases hjC with x|x
      .rcases(fQ w1 _).1 (.inl rfl)with e|e
       .grind
       grind
      .rcases(fQ w1 _).1 (.inr rfl)with e|e
       .grind
       grind
     have hwv:w=v:=by have:=hlu _ hoC j (zX hjw);rw[mD w1]at this;exact this.resolve_left hwC
     subst hwv;have hq:oth (eAt g.es k) w∈C:=w3.closed (L:=(·∈C)) hoC fun z hz x hx Zo=>by
      obtain⟨l,hl,rfl⟩:=FA hx
      grind
     rcases mF (eAt g.es k) w with e|e
     .grind
     .grind
    refine kS.2 ⟨hk,?_⟩;rcases(Z8 k).2 ⟨hk,hkC⟩with e|e
    .grind
    .rcases aAd.1 e with e|e
     .grind
     .obtain⟨B,hB,hkB⟩:=aAQ.1 e;have hjB:=(hp.good B hB).all k hkB j (hSl j hjS) hr.symm;have hjN:j∈N'.flatten:=aAQ.2 ⟨B,hB,hjB⟩;exfalso;rcases aAe.1 hjS with e|e
      .grind
      .exact(aAo.1 hp.pn).2.2 j e j hjN rfl }
  have hcut:GX g.es.length (nD s1 v (min (lwW s1 v) (lwW s1 u))) i=some { nD s1 v (min (lwW s1 v) (lwW s1 u))with stk:=s0.stk++T,out:=s0.out++(N++N'++[tY g.es.length (i::T')]) }:=by unfold GX;have e1:(nD s1 v (min (lwW s1 v) (lwW s1 u))).stk=s1.stk:=rfl;have e2:(nD s1 v (min (lwW s1 v) (lwW s1 u))).out=s1.out:=rfl;rw[e1,e2,Y9,aAj (by grind),hstk,aDm,aCX,hp.out];show some _=some _;have:(eP s i).out=s0.out++N:=h.out;rw[this];simp only[aAD]
  refine⟨_,D++C,T,N++N'++[tY g.es.length (i::T')],hcut,base _ _ _ rfl rfl rfl rfl ?_ h.rel ?_⟩
  .simp only[aBS,List.flatten_cons,List.flatten_nil,aAO,aAD];refine aCl _ (aCl _ ?_);refine aBm.trans ?_;exact(hbp.append_right _)
  .intro B hB;rcases aAd.1 hB with hB|hB
   .rcases aAd.1 hB with hB|hB
    .exact h.good B hB
    .exact hp.good B hB
   grind
 .rw[aAa hc];have hl:lwW s1 u<(s0.vis.length:Int)+1:=oO;obtain⟨c,hcC,j,hj,hji,ho,he⟩:=wit hl;have hA:=h.back_act hg h0 (c:=c) (fun k=>hcn c hcC (h.old_in hg h0 k)) hj ho;obtain⟨b,hb⟩:=h.no_root hg h0 hA;obtain⟨_,b2,_⟩:=h.by_out hg h0 hb;have hbi:mT g.es b i:=by
   refine .step .refl (aQ.1 b2).1 hil ⟨v,(aQ.1 b2).2,Y1,?_⟩;refine(((hp.cn c hcC).mono fun z hz=>?_).trans (.step (.refl ?_) (lZ hj) ?_) |>.trans (h.act_to hg h0 hb hA)).symm
   .grind
   .grind
   .grind
  refine⟨_,D++C,T++(i::T'),N++N',rfl,base _ _ _ rfl rfl ?_ ?_ ?_ ?_ ?_⟩
  .show s1.stk=_;rw[hp.stk];show(s.stk++[i])++T'=_;rw[h.stk];simp
  .show s1.out=_;rw[hp.out];show s.out++N'=_;rw[h.out];simp
  .simp only[aBS,aAD,List.cons_append];refine aCl _ ?_;have:(i::(T'++(N.flatten++N'.flatten))).Perm (N.flatten++(i::(T'++N'.flatten))):=by refine List.Perm.trans ?_ aBF.symm;refine List.Perm.cons _ ?_;rw[<- aAD,<- aAD];exact aDv _ aBm
   omega
  .intro k hk;rcases aAd.1 hk with hk|hk
   .exact h.rel k hk
   .refine⟨b,hb,hbi.trans ?_⟩;rcases aAe.1 hk with e|e
    .rw[e];exact .refl
    .obtain⟨b',hb',hr⟩:=hp.rel k e;obtain rfl:i=b':=oO;omega
  .intro B hB;rcases aAd.1 hB with hB|hB
   .exact h.good B hB
   .exact hp.good B hB
end
section
variable {g:Gr} (hg:GoodE g)
include hg
theorem Kk(n:Nat)(ih:∀(A:Int->Prop) (s:Bw) (v x9:Int),yW g A s v x9->v∈g.vs->(∀ w∈s.vis,w∈g.vs)->g.vs.length<=n+s.vis.length->∃ s1 C T N,oG g.es n v x9 s=some s1/\LS g s v x9 s1 C T N/\∀ c∈C,c∈g.vs)
 {A:Int->Prop} {s0:Bw} {v x9:Int} (h0:yW g A s0 v x9) (hn:g.vs.length<=n+(s0.vis.length+1)):
 ∀(R Q:List Nat) (s:Bw) (D:List Int) (T:List Nat) (N:List (List Nat)),Q++R=atP g.es v->BLp g s0 v x9 Q s D T N->(∀ w∈s.vis,w∈g.vs)->
  ∃ s1 D T N,goB (iH (oG g.es n) g.es v x9 ((s0.vis.length:Int)+1)) R s=some s1/\BLp g s0 v x9 (atP g.es v) s1 D T N/\∀ w∈s1.vis,w∈g.vs
 |[],Q,s,D,T,N,hQ,h,hv=>⟨s,D,T,N,rfl,by grind,hv⟩
 |i::R,Q,s,D,T,N,hQ,h,hv=>by
  have hi:i∈atP g.es v:=by rw[<- hQ];simp
  have hnd:(atP g.es v).Nodup:=aCD _ aDB;have hiQ:i∉Q:=fun k=>by grind
  have hQ2:(Q++[i])++R=atP g.es v:=by rw[<- hQ];simp
  have go:∀ s2 D T N,iH (oG g.es n) g.es v x9 ((s0.vis.length:Int)+1) s i=some s2->BLp g s0 v x9 (Q++[i]) s2 D T N->(∀ w∈s2.vis,w∈g.vs)->∃ s1 D T N,goB (iH (oG g.es n) g.es v x9 ((s0.vis.length:Int)+1)) (i::R) s=some s1/\BLp g s0 v x9 (atP g.es v) s1 D T N/\∀ w∈s1.vis,w∈g.vs:=fun s2 D T N e h2 hv2=>by
   obtain⟨s1,D1,T1,N1,k1,k2,k3⟩:=Kk n ih h0 hn R (Q++[i]) s2 D T N hQ2 h2 hv2
   grind [goB]
  by_cases hb:(i:Int)=x9
  .exact go s D T N (by grind [iH]) (h.same hg h0 hi hb) hv
  by_cases j5:oth (eAt g.es i) v∈s.vis
  .by_cases hnm:nmW s.vis (oth (eAt g.es i) v)<(s0.vis.length:Int)+1
   .exact go _ D _ N (by grind [iH]) (h.back hg h0 hi hiQ hb j5 hnm) hv
   .exact go s D T N (by grind [iH]) (h.skip hg h0 hi j5 hnm) hv
  .have hlen:s.vis.length=s0.vis.length+1+D.length:=by rw[h.vis,aAn,List.length_cons];omega
   have huv:oth (eAt g.es i) v∈g.vs:=hg.nbr (lZ hi);obtain⟨s1,C,T',N',e,hp,hC⟩:=ih _ (eP s i) _ i (h.pre hg h0 hi j5) huv hv (by show g.vs.length<=n+s.vis.length;omega);obtain⟨s2,D2,T2,N2,e2,h2⟩:=h.child hg h0 hi hiQ hb j5 hp;refine go s2 D2 T2 N2 (by grind [iH]) h2 fun w hw=>?_;have e3:s2.vis=s1.vis:=by
    unfold NN at e2
    split at e2
    .unfold GX at e2
     split at e2
     .cases e2;rfl
     grind
    .cases e2;rfl
   rw[e3,hp.vis,aAd]at hw;exact hw.elim (hv w) (hC w)
theorem GI:∀(n:Nat) (A:Int->Prop) (s:Bw) (v x9:Int),yW g A s v x9->v∈g.vs->(∀ w∈s.vis,w∈g.vs)->g.vs.length<=n+s.vis.length->∃ s1 C T N,oG g.es n v x9 s=some s1/\LS g s v x9 s1 C T N/\∀ c∈C,c∈g.vs
 |0,A,s,v,x9,h,hv,hs,hn=>by
  have h1:(s.vis++[v]).length<=g.vs.length:=aAA (by
   rw[aAo]
   exact⟨h.nd,sS,fun a ha b hb=>by rintro rfl;rw[aAk]at hb;subst hb;exact h.new ha⟩) fun w hw=>by
    grind
  grind
 |n+1,A,s,v,x9,h,hv,hs,hn=>by
  obtain⟨s1,D,T,N,e,h1,Z6⟩:=Kk hg n (GI n) h oO (atP g.es v) [] (pH s v) [] [] [] rfl h.start fun w hw=>by
   have hw:w∈s.vis++[v]:=hw
   grind
  have hp:=h1.done hg h;exact⟨s1,_,T,N,e,hp,fun c hc=>Z6 c (by rw[hp.vis];grind)⟩
structure Jt(g:Gr)(s:Bw):Prop where
 ln:s.low.length=s.vis.length
 nd:s.vis.Nodup
 sub:∀ w∈s.vis,w∈g.vs
 fin:∀ w∈s.vis,∀ i∈atP g.es w,oth (eAt g.es i) w∈s.vis
 stk:s.stk=[]
 pl:∀ i,i∈s.out.flatten↔i<g.es.length/\(eAt g.es i).a∈s.vis
 pn:s.out.flatten.Nodup
 good:∀ B∈s.out,dU g.es B
theorem GN(n:Nat)(hn:g.vs.length<=n):∀(l:List Int) (s:Bw),(∀ v∈l,v∈g.vs)->Jt g s->∃ s1,sQ g.es n l s=some s1/\Jt g s1/\(∀ v∈s.vis,v∈s1.vis)/\∀ v∈l,v∈s1.vis
 |[],s,_,h=>⟨s,rfl,h,fun _ h=>h,fun v hv=>by grind⟩
 |v::l,s,hl,h=>by
  by_cases hv:v∈s.vis
  .obtain⟨s1,e,k1,k2,k3⟩:=GN n hn l s (fun w hw=>hl w (aAc _ hw)) h
   grind [sQ]
  .have hpre:yW g (fun _=>False) s v (-1):=⟨h.ln,h.nd,fun a ha=>ha.elim,fun w hw _=>h.fin w hw,hv,fun a b ha=>ha.elim,.inl ⟨rfl,fun a ha=>ha⟩⟩;obtain⟨s1,C,T,N,e,hp,hC⟩:=GI hg n _ s v (-1) hpre (hl v sS) h.sub oO;have hT:T=[]:=by
    cases T with
    |nil=>rfl
    |cons i T=>obtain⟨b,hb,_⟩:=hp.rel i sS;omega
   subst hT;have o7:∀ w∈s1.vis,∀ i∈atP g.es w,oth (eAt g.es i) w∈s1.vis:=fun w hw i hi=>by
    have J9:=hw;rw[hp.vis,aAd]at J9;rcases J9 with k|k
    .rw[hp.vis];exact aAq _ (h.fin w k i hi)
    .exact hp.clo w k i hi
   have hall:Jt g s1:={
    ln:=hp.ln
    nd:=hp.nd
    sub:=fun w hw=>by rw[hp.vis,aAd]at hw;exact hw.elim (h.sub w) (hC w)
    fin:=o7
    stk:=by rw[hp.stk,h.stk];rfl
    pl:=fun i=>by
     have h2:=hp.pl i;rw[List.nil_append]at h2;rw[hp.out,aBS,aAd,h.pl i,h2,hp.vis,aAd];constructor
     .rintro(⟨k1,k2⟩|⟨k1,_,k2⟩)
      .grind
      .refine⟨k1,?_⟩;rcases k2 with k2|k2
       .grind
       .have:=hp.clo _ k2 i (aQ.2 ⟨k1,.inr rfl⟩);rw[hp.vis,aAd]at this
        grind [oth]
     grind
    pn:=by
     have h2:=hp.pn;rw[List.nil_append]at h2;rw[hp.out,aBS,aAo];refine⟨h.pn,h2,fun a ha b hb=>?_⟩;rintro rfl;have k1:=(h.pl a).1 ha;have k2:=(hp.pl a).1 (by grind);have hd:∀ c∈C,c∉s.vis:=fun c hc k=>by
      have:=hp.nd;rw[hp.vis,aAo]at this
      grind
     rcases k2.2.2 with k|k
     .grind
     .have:=h.fin _ k1.2 a (aQ.2 ⟨k1.1,.inl rfl⟩)
      grind [oth]
    good:=fun B hB=>by
     rw[hp.out,aAd]at hB
     exact hB.elim (h.good B) (hp.good B) }
   obtain⟨s2,e2,k1,k2,k3⟩:=GN n hn l s1 (fun w hw=>hl w (aAc _ hw)) hall;refine⟨s2,by grind [sQ],k1,fun w hw=>k2 w (by rw[hp.vis];grind),fun w hw=>?_⟩;rcases aAe.1 hw with rfl|hw
   .exact k2 _ (by rw[hp.vis];exact aAx _ hp.hd)
   grind
theorem rS:∃ s,sQ g.es g.vs.length g.vs ⟨[],[],[],[]⟩=some s/\s.stk=[]/\(∀ i,i∈s.out.flatten↔i<g.es.length)/\s.out.flatten.Nodup/\∀ B∈s.out,dU g.es B:=by obtain⟨s,e,h,_,h3⟩:=GN hg g.vs.length (aAm _) g.vs ⟨[],[],[],[]⟩ (fun _ h=>h) ⟨rfl,.nil,fun w hw=>(by grind),fun w hw=>(by grind),rfl,fun i=>by simp,sS,fun B hB=>(by grind)⟩;refine⟨s,e,h.stk,fun i=>?_,h.pn,h.good⟩;rw[h.pl i];exact and_iff_left_of_imp fun hi=>h3 _ (hg.ends _ (sA hi)).1
end
end Aw
end Go.Proofs.YtbgngpdonpeboaaGreatDoor
