/- maps.Keys at two types, and slices.AppendSeq, Collect over them. (After the kit's worked texts on maps.Keys and on a loop that collects; written by genkeys.py.) -/
import Derived.Test.YtbgngpdonpeboaaGreatDoorJh
import Derived.Test.YtbgngpdonpeboaaGreatDoorAwMr2
import Derived.RangeFuncSeq
import Derived.Maps.RangeWalk
import Derived.Test.YtbgngpdonpeboaaGreatDoorAwRg
import Derived.Test.YtbgngpdonpeboaaGreatDoorAwGo
set_option linter.unusedVariables false
set_option linter.unusedSimpArgs false
set_option linter.unusedSectionVars false
set_option maxHeartbeats 2000000
open Go.Proofs.Tryz
namespace Go.Proofs.YtbgngpdonpeboaaGreatDoor
namespace Rg
open Go Go.RowKit Go.Shelf
open Go.ChangeMaps (setBlock)
attribute [local go_sem] Oper.semAt_some
section
variable {F:Fence} {n:Nat} {P:Program} (w:World) {ops:Array Oper} {rest:List Oper} {o:Oper} {a:Act} {Q:Exit->Act->World->Prop}
theorem nY(hg:o.guard=none)(m:Operand)(t k e:TypeId)(hop:o.op=Op.range t m)(ht:P.underlying t=some (.map k e))(b:Nat)(cZ:Array MapEntry)(clock:Nat)(hm:a.eval m=.map (some b))(hb:w.heap[b]?=some (.map cZ clock))
 (hK:∀ w',w'=w.alloc (.mapIter (some b) clock #[] clock)->wpListIn F n P ops Q rest (a.put o.dst (.pointer (some ⟨w.heap.size,0,none⟩))) w'):wpListIn F n P ops Q (o::rest) a w:=by
 refine wpListIn_plain hg fun K' hK'=>?_;have o7:=run_range_map (P:=P) w t k e b cZ clock ht hb;unfold Oper.wpIn;refine⟨?_,?_⟩
 .grind [Oper.about]
 .rw[Oper.semAt_plain F _ _ (by grind)];simp[execOp,hop,hm,o7,Result.andThen];exact hK' _ _ (hK _ rfl)
theorem oV(hg:o.guard=none)(it:Operand)(hop:o.op=Op.next it false)(r b clock c:Nat)(seen:Array Nat)(cZ:Array MapEntry)(hit:a.eval it=.pointer (some ⟨r,0,none⟩))(hi:w.heap[r]?=some (.mapIter (some b) clock seen c))(hb:w.heap[b]?=some (.map cZ clock))
 (L3:∀ x∈cZ.toList,x.born<clock) (hnd:(cZ.toList.map (·.born)).Nodup) (hc:clock<=c)
 (hDone:(∀ x∈cZ.toList,seen.contains x.born=true)->wpListIn F n P ops Q rest (a.put o.dst (.tuple #[.bool false])) w)
 (hMore:∀(e:MapEntry) (w1 w2:World),e∈cZ.toList->seen.contains e.born=false->(w1=w\/w1=w.drew)->w2=setBlock w1 r (.mapIter (some b) clock (seen.push e.born) clock)->(Instr.entry (.pointer (some ⟨r,0,none⟩))).run P w2=.ok (.tuple #[e.key,e.val]) w2->wpListIn F n P ops Q rest (a.put o.dst (.tuple #[.bool true,e.key,e.val])) w2):
 wpListIn F n P ops Q (o::rest) a w:=by
 refine wpListIn_plain hg fun K' hK'=>?_;unfold Oper.wpIn;refine⟨by grind [Oper.about],?_⟩;rw[Oper.semAt_plain F _ _ (by grind)];rcases run_next_at (P:=P) w o.type r b clock c seen cZ clock hi hb L3 hc with⟨h0,o7⟩|⟨e,he',w1,K3,o7⟩
 .simp[execOp,hop,hit,o7,Result.andThen];exact hK' _ _ (hDone fun x hx=>all_seen cZ seen h0 x hx)
 .obtain⟨X0,he2⟩:=mem_left he';have lr:=(aAH.1 hi).1;have hbr:b≠r:=by rintro rfl;rw[hb]at hi;cases hi
  have hh:w1.heap=w.heap:=by rcases K3 with rfl|rfl<;>rfl
  have hE:=run_entry_at (P:=P) (setBlock w1 r (.mapIter (some b) clock (seen.push e.born) clock)) r b clock seen cZ clock e
   (by grind [setBlock]) (by grind [setBlock]) X0 hnd
  simp[execOp,hop,hit,o7,Result.andThen];exact hK' _ _ (hMore e w1 _ X0 he2 K3 rfl hE)
end
theorem Cd(w w1:World)(h:w1=w\/w1=w.drew)(r:Nat)(o:Obj):w.grownBy (setBlock w1 r o) (some r):=by
 have hh:w1.heap=w.heap:=by rcases h with rfl|rfl<;>rfl
 have hos:w1.os=w.os/\w1.tape=w.tape/\w1.output=w.output:=by rcases h with rfl|rfl<;>exact⟨rfl,rfl,rfl⟩
 refine⟨hos.1,hos.2.1,hos.2.2,by grind [setBlock],fun b hb Zy=>?_⟩
 grind [setBlock]
def tO(vs:List Int)(cZ:List MapEntry)(seen:Array Nat):List Int:=(Aw.lft (vs.map fun v=>([v],.dead)) cZ seen).map fun e=>e.1.headD 0
theorem BD{vs:List Int}{cZ:List MapEntry}(h:vs.length=cZ.length):tO vs cZ #[]=vs:=by unfold tO;rw[Aw.vI (by grind),aAZ];exact(aAP fun v _=>rfl).trans (aEx vs)
theorem Dn{vs:List Int}{cZ:List MapEntry}{seen:Array Nat}{e:MapEntry}(h:vs.length=cZ.length)(E9:cZ.map (·.key)=vs.map (Value.int .u32))(hn:(cZ.map (·.born)).Nodup)(he:e∈cZ)(hs:seen.contains e.born=false):
 ∃ x L1 L2,e.key=.int .u32 x/\tO vs cZ seen=L1++x::L2/\tO vs cZ (seen.push e.born)=L1++L2:=by
 obtain⟨p,L1,L2,h1,h2,h3⟩:=Aw.GX (es:=vs.map fun v=>(([v],.dead):List Int×Aw.LV)) (by grind) hn he hs;have hz:∀ q∈(vs.map fun v=>(([v],.dead):List Int×Aw.LV)).zip cZ,∃ x,q.1=([x],.dead)/\q.2.key=.int .u32 x:=by intro q hq;obtain⟨j,hj,rfl⟩:=aEp.1 hq;simp only[aDU,aAD]at hj;rw[aDs,aCy];refine⟨vs[j],rfl,?_⟩;have:=congrArg (fun l=>l[j]?) E9;simp only[aCd,aAh (show j<cZ.length by omega),aAh (show j<vs.length by omega),Option.map_some,aAb]at this;exact this
 obtain⟨x,hx,hk⟩:=hz _ h3;simp only at hx hk;subst hx;exact⟨x,L1.map (fun e=>e.1.headD 0),L2.map (fun e=>e.1.headD 0),hk,by grind [tO],by grind [tO]⟩
theorem Dh{vs:List Int}{cZ:List MapEntry}{seen:Array Nat}(h:∀ x∈cZ,seen.contains x.born=true):tO vs cZ seen=[]:=by
 grind [tO,Aw.GZ]
def vG(W:World)(b:Nat)(vs:List Int):Prop:=∃(cZ:List MapEntry) (clock:Nat),W.heap[b]?=some (.map cZ.toArray clock)/\cZ.map (·.key)=vs.map (Value.int .u32)/\(∀ x∈cZ,x.born<clock)/\(cZ.map (·.born)).Nodup
theorem KeepsOthers.walks{W W':World}(h:KeepsOthers W W'):KeepsWalks W W':=⟨h.size,fun k o hk hw=>h.same k o hk (by cases o<;>first|rfl|cases hw)⟩
set_option maxRecDepth 100000 in
theorem SP(F:Fence)(n:Nat)(h7:F.fn 105)(M6:F.round=none)(hn:1<=n)(l Bm b:Nat)(vs:List Int)(W:World)(J Jx:List Int->World->Prop)(hJ:AbidesFrom W.heap.size J)
 (hY:∀ pre x W1,J pre W1->pre.length<vs.length->YieldAt F (n-1) prog l #[.int .u32 x] W1 fun e W'=>
   (e=.returned (.bool true)/\J (pre++[x]) W'/\KeepsWalks W1 W')\/(e=.returned (.bool false)/\Jx (pre++[x]) W'))
 (hm:W.cell? ⟨Bm,0,none⟩=some (.map (some b))) (hB:vG W b vs) (h0:J [] W):
 CallsIn F n prog 105 #[.func (.yield l) #[] #[],.pointer (some ⟨Bm,0,none⟩)] W fun e W'=>(∃ v,e=.returned v)/\
  ((∃ ys:List Int,ys.Perm vs/\J ys W')\/(∃ pre,True/\Jx pre W')):=by
 obtain⟨cZ,clock,hb,E9,L3,hnd⟩:=hB;have hlen:vs.length=cZ.length:=by have:=congrArg List.length E9;simpa using this.symm
 have lb:=(aAH.1 hb).1;refine callsIn_of_wp func105 rfl h7 ?_ M6;simp only[ntmps105,aAV,List.length_cons,List.length_nil,Nat.reduceAdd,Nat.reduceSub,aBw,Array.replicate_zero,aBH,aBy,List.nil_append,List.cons_append]
 gi_wp2_with (first
  |(refine nY _ rfl _ 87 _ _ rfl underlying87 b cZ.toArray clock rfl hb ?_;intro w0 hw0)
  |gi_in)
 go_frame
 have hI0:w0.heap[W.heap.size]?=some (.mapIter (some b) clock #[] clock):=by rw[hw0];exact World.alloc_heap_new _ _
 have hb0:w0.heap[b]?=some (.map cZ.toArray clock):=by rw[hw0];exact(Below.heap_alloc _ _ b lb).trans hb
 have hg0:W.grownBy w0 none:=by rw[hw0];exact World.grownBy_alloc W _ none
 have hJ0:J [] w0:=hJ [] W w0 none h0 hg0 (fun r e=>by cases e);clear hw0 hg0
 gi_loopw [3] (fun _ wr=>∃(seen:Array Nat) (c:Nat) (ss:List Int),clock<=c/\wr.heap[W.heap.size]?=some (.mapIter (some b) clock seen c)/\wr.heap[b]?=some (.map cZ.toArray clock)/\(ss++tO vs cZ seen).Perm vs/\J ss wr)
  (fun _ wr=>match wr.heap[W.heap.size]? with|some (.mapIter _ _ seen _)=>(tO vs cZ seen).length|_=>0)
 case atStart=>exact⟨#[],clock,[],aAl _,hI0,hb0,by grind [BD],hJ0⟩
 case round=>
  obtain⟨seen,c,ss,hcc,hit,hbm,r9,hJs⟩:=hrel
  gi_wp2_with (first
   |(refine oV _ rfl _ rfl W.heap.size b clock c seen cZ.toArray rfl hit hbm (fun x hx=>L3 x oO) oO hcc ?_ ?_)
   |gi_in)
  .intro hall;have u6:tO vs cZ seen=[]:=Dh fun x hx=>by grind
   rw[u6,aBc]at r9
   gi_wp2
   go_end0
   grind
  .intro e w1 w2 he hs K3 F0 hen;obtain⟨x,L1,L2,hx,hL1,hL2⟩:=Dn (seen:=seen) hlen E9 hnd (by simpa using he) (by grind);have W4:wr.grownBy w2 (some W.heap.size):=by rw[F0];exact Cd wr w1 K3 _ _
   have S5:J ss w2:=hJ ss wr w2 (some W.heap.size) hJs W4 (fun r e=>by cases e;exact⟨aAl _,_,hit,rfl⟩);have hh:w1.heap=wr.heap:=by rcases K3 with rfl|rfl<;>rfl
   have Zy:b≠W.heap.size:=oO;have hit2:w2.heap[W.heap.size]?=some (.mapIter (some b) clock (seen.push e.born) clock):=by rw[F0];simp only[setBlock];rw[aBx,aAk rfl,aAk (by grind)]
   have hbm2:w2.heap[b]?=some (.map cZ.toArray clock):=by rw[F0];simp only[setBlock];rw[aBx,aAa (fun e=>Zy e.symm),hh];exact hbm
   have dQ:ss.length<vs.length:=by have:=r9.length_eq;rw[hL1]at this;simp at this;omega
   obtain⟨fn,tmps,assign,body,hy,hR⟩:=hY ss x w2 S5 dQ;rw[hx]at hen ⊢;clear F0 W4
   gi_wp2
   refine hR.mono ?_;rintro e3 W3 (⟨rfl,hJ3,o9⟩|⟨rfl,hJx3⟩)
   .gi_wp2
    have hit3:=o9.same _ _ hit2 rfl;have hbm3:=o9.same _ _ hbm2 rfl
    go_roundw
    case rel=>exact⟨seen.push e.born,clock,ss++[x],aAl _,hit3,hbm3,by
     grind,hJ3⟩
    grind
   .gi_wp2
    refine bodyPost_ret (results_none rfl _ _ _) rfl ?_
    grind
theorem Fw(F:Fence)(n:Nat)(h7:F.fn 105)(M6:F.round=none)(hn:1<=n)(Bm b:Nat)(vs:List Int)(w:World)(hBm:Bm<w.heap.size)(hm:w.cell? ⟨Bm,0,none⟩=some (.map (some b)))(hB:vG w b vs):
 SeqStopsK F n prog 105 #[.pointer (some ⟨Bm,0,none⟩)] (fun x:Int=>#[Value.int .u32 x]) KeepsWalks (fun ys=>ys.Perm vs) (fun _=>True) vs.length w:=fun l J Jx W hW hJ _ hY h0=>by
 have V1:=(hW.cell (p:=⟨Bm,0,none⟩) hBm).trans hm;have hB':vG W b vs:=by obtain⟨cZ,clock,hb,h⟩:=hB;exact⟨cZ,clock,(hW.block b (aAH.1 hb).1).trans hb,h⟩
 exact SP F n h7 M6 hn l Bm b vs W J Jx hJ hY V1 hB' h0
set_option maxRecDepth 100000 in
theorem Fc(F:Fence)(n:Nat)(h3:F.fn 147)(h7:F.fn 105)(M6:F.round=none)(hn:3<=n)(Bm b:Nat)(vs:List Int)(hlen:vs.length<=1048576)(w:World)(hBm:Bm<w.heap.size)
 (hm:w.cell? ⟨Bm,0,none⟩=some (.map (some b))) (hB:vG w b vs):
 CallsIn F n prog 147 #[.slice none 0 0,.func (.func 105) #[] #[.pointer (some ⟨Bm,0,none⟩)]] w fun e W'=>∃ v ys,e=.returned v/\List.Perm ys vs/\W'.ownsRow w.heap.size 34 1 v ys.length (ys.map (Value.int .u32))/\Below w.heap.size w W':=by
 have h1:1<=n:=oO;obtain⟨i0,hi,hz0,hz1,hz2⟩:=info_parts SF;refine callsIn_of_wp_marks func147 rfl h3 ?_ M6;simp only[ntmps147,aAV,List.length_cons,List.length_nil,Nat.reduceAdd,Nat.reduceSub,aBw,Array.replicate_zero,aBH,aBy,List.nil_append,List.cons_append]
 gi_wp2
 have bO:=Boxed.new w 22 (.slice none 0 0);have hB0:Below w.heap.size w (w.alloc (.cells #[.slice none 0 0] 22)):=(Below.refl _ w).alloc (aAl _) _;have hB':vG (w.alloc (.cells #[.slice none 0 0] 22)) b vs:=by obtain⟨cZ,clock,hb,h⟩:=hB;exact⟨cZ,clock,(hB0.block b (aAH.1 hb).1).trans hb,h⟩
 refine wpIn_rangeFunc_ownG M6 h1 (gf:=105) (lb:=#[.pointer (some ⟨Bm,0,none⟩)]) rfl h7 (enters_of func105 (by kernel_rfl) rfl)
  (Fw F (n-1) h7 M6 oO Bm b vs _ (by simp;omega) ((hB0.cell (p:=⟨Bm,0,none⟩) hBm).trans hm) hB') walksK_t walksK_b (Below.refl _ _) (fun _=>rfl)
  (fun pre W=>(∃ v,Boxed W w.heap.size 22 v/\W.ownsRow w.heap.size 34 1 v pre.length (pre.map (Value.int .u32))/\True)/\Below w.heap.size w W)
  (fun _ _ _=>False)
  (OwnFrom.and (Own.from (holdsRow_own w.heap.size w.heap.size 22 34 1 (fun pre:List Int=>pre.length) (fun pre:List Int=>pre.map (Value.int .u32)) (fun _ _=>True)) _) (ownFrom_below (aAl _) sS))
  (fun _ _ _ _ _ hs _ _=>hs)
  ⟨⟨_,bO,World.ownsRow_nil _ _ _ _,trivial⟩,hB0⟩
  (fun x=>{ tmps:=#[.slice none 0 0,.func (.func 105) #[] #[.pointer (some ⟨Bm,0,none⟩)],.pointer (some ⟨w.heap.size,0,none⟩),undef,.slice none 0 0,.int .u32 x,.func (.func 105) #[] #[.pointer (some ⟨Bm,0,none⟩)],.int .u32 x,undef,undef,undef,undef,undef],defers:=[] }) ?assign ?body ?done ?stop
 case assign=>
  intro l x W K hK
  gi_wp2
  omega
 case body=>
  rintro l pre x W ⟨⟨v,hv,Ut,_⟩,hB⟩ dQ;have hc:=hv.cell
  gi_wp2_with (gi_at_builtin;refine wpListIn_append_own _ rfl _ _ 22 rfl w.heap.size 34 i0 (.int .u32 0) 1 4 underlying22 hi hz0 hz1 hz2 rfl (by decide) _ _ _ rfl (Ut.alloc _) ⟨W.heap.size,0,none⟩ 1 1 [.int .u32 x] rfl rfl (cell_one_new _ _ _) (by simp[Value.oneCell']) (by grind [maxLen]) oO (by have:=hB.size;simp;omega) ?_;intro v' w1 U0 N7 _;obtain⟨g',cap',rfl⟩:=ownsRow_succ U0;obtain⟨U7,hv2,hr2,u5,P3⟩:=hv.appended (by decide) Ut hB.size (aAl _) U0 N7;have V6:=U7.cell;have hf1:=U7.frozen)
  exact⟨u5.from _,KeepsOthers.walks u5,⟨_,hv2,by grind,trivial⟩,hB.trans P3⟩
 case done=>
  rintro D ys W hD hys ⟨⟨v,hv,Ut,_⟩,hB⟩ hK;have hc:=hv.cell
  gi_wp2
  refine⟨sS,.inl ⟨_,_,rfl,run_takeDeferred hK,?_⟩⟩;exact⟨_,results_tmp rfl _ _ _,v,ys,rfl,hys,ownsRow_putObj Ut _ hK rfl,hB.trans (belowK_b (w:=w) (aAl _) W D _ _ (by simp at hD;omega) hK rfl rfl)⟩
 grind
set_option maxRecDepth 100000 in
theorem CZ(F:Fence)(n:Nat)(h2:F.fn 104)(h3:F.fn 147)(h7:F.fn 105)(M6:F.round=none)(hn:4<=n)(Bm b:Nat)(vs:List Int)(hlen:vs.length<=1048576)(w:World)(hBm:Bm<w.heap.size)
 (hm:w.cell? ⟨Bm,0,none⟩=some (.map (some b))) (hB:vG w b vs):
 CallsIn F n prog 104 #[.func (.func 105) #[] #[.pointer (some ⟨Bm,0,none⟩)]] w fun e W'=>∃ v ys,e=.returned v/\List.Perm ys vs/\W'.ownsRow w.heap.size 34 1 v ys.length (ys.map (Value.int .u32))/\Below w.heap.size w W':=by
 have h1:1<=n:=oO;refine callsIn_of_wp func104 rfl h2 ?_ M6;simp only[ntmps104,aAV,List.length_cons,List.length_nil,Nat.reduceAdd,Nat.reduceSub,aBw,Array.replicate_zero,aBH,aBy,List.nil_append,List.cons_append]
 gi_wp2_with (gi_at_call 147;refine(Fc F (n-1) h3 h7 M6 oO Bm b vs hlen _ hBm hm hB).mono ?_;rintro e w' ⟨v,ys,rfl,hys,Ut,Y6⟩)
 go_ret
 exact⟨v,ys,rfl,hys,Ut,Y6⟩
set_option maxRecDepth 100000 in
theorem Uq(F:Fence)(n:Nat)(h7:F.fn 148)(M6:F.round=none)(hn:1<=n)(l Bm b:Nat)(vs:List Int)(W:World)(J Jx:List Int->World->Prop)(hJ:AbidesFrom W.heap.size J)
 (hY:∀ pre x W1,J pre W1->pre.length<vs.length->YieldAt F (n-1) prog l #[.int .u32 x] W1 fun e W'=>
   (e=.returned (.bool true)/\J (pre++[x]) W'/\KeepsWalks W1 W')\/(e=.returned (.bool false)/\Jx (pre++[x]) W'))
 (hm:W.cell? ⟨Bm,0,none⟩=some (.map (some b))) (hB:vG W b vs) (h0:J [] W):
 CallsIn F n prog 148 #[.func (.yield l) #[] #[],.pointer (some ⟨Bm,0,none⟩)] W fun e W'=>(∃ v,e=.returned v)/\
  ((∃ ys:List Int,ys.Perm vs/\J ys W')\/(∃ pre,True/\Jx pre W')):=by
 obtain⟨cZ,clock,hb,E9,L3,hnd⟩:=hB;have hlen:vs.length=cZ.length:=by have:=congrArg List.length E9;simpa using this.symm
 have lb:=(aAH.1 hb).1;refine callsIn_of_wp func148 rfl h7 ?_ M6;simp only[ntmps148,aAV,List.length_cons,List.length_nil,Nat.reduceAdd,Nat.reduceSub,aBw,Array.replicate_zero,aBH,aBy,List.nil_append,List.cons_append]
 gi_wp2_with (first
  |(refine nY _ rfl _ 93 _ _ rfl underlying93 b cZ.toArray clock rfl hb ?_;intro w0 hw0)
  |gi_in)
 go_frame
 have hI0:w0.heap[W.heap.size]?=some (.mapIter (some b) clock #[] clock):=by rw[hw0];exact World.alloc_heap_new _ _
 have hb0:w0.heap[b]?=some (.map cZ.toArray clock):=by rw[hw0];exact(Below.heap_alloc _ _ b lb).trans hb
 have hg0:W.grownBy w0 none:=by rw[hw0];exact World.grownBy_alloc W _ none
 have hJ0:J [] w0:=hJ [] W w0 none h0 hg0 (fun r e=>by cases e);clear hw0 hg0
 gi_loopw [3] (fun _ wr=>∃(seen:Array Nat) (c:Nat) (ss:List Int),clock<=c/\wr.heap[W.heap.size]?=some (.mapIter (some b) clock seen c)/\wr.heap[b]?=some (.map cZ.toArray clock)/\(ss++tO vs cZ seen).Perm vs/\J ss wr)
  (fun _ wr=>match wr.heap[W.heap.size]? with|some (.mapIter _ _ seen _)=>(tO vs cZ seen).length|_=>0)
 case atStart=>exact⟨#[],clock,[],aAl _,hI0,hb0,by grind [BD],hJ0⟩
 case round=>
  obtain⟨seen,c,ss,hcc,hit,hbm,r9,hJs⟩:=hrel
  gi_wp2_with (first
   |(refine oV _ rfl _ rfl W.heap.size b clock c seen cZ.toArray rfl hit hbm (fun x hx=>L3 x oO) oO hcc ?_ ?_)
   |gi_in)
  .intro hall;have u6:tO vs cZ seen=[]:=Dh fun x hx=>by grind
   rw[u6,aBc]at r9
   gi_wp2
   go_end0
   grind
  .intro e w1 w2 he hs K3 F0 hen;obtain⟨x,L1,L2,hx,hL1,hL2⟩:=Dn (seen:=seen) hlen E9 hnd (by simpa using he) (by grind);have W4:wr.grownBy w2 (some W.heap.size):=by rw[F0];exact Cd wr w1 K3 _ _
   have S5:J ss w2:=hJ ss wr w2 (some W.heap.size) hJs W4 (fun r e=>by cases e;exact⟨aAl _,_,hit,rfl⟩);have hh:w1.heap=wr.heap:=by rcases K3 with rfl|rfl<;>rfl
   have Zy:b≠W.heap.size:=oO;have hit2:w2.heap[W.heap.size]?=some (.mapIter (some b) clock (seen.push e.born) clock):=by rw[F0];simp only[setBlock];rw[aBx,aAk rfl,aAk (by grind)]
   have hbm2:w2.heap[b]?=some (.map cZ.toArray clock):=by rw[F0];simp only[setBlock];rw[aBx,aAa (fun e=>Zy e.symm),hh];exact hbm
   have dQ:ss.length<vs.length:=by have:=r9.length_eq;rw[hL1]at this;simp at this;omega
   obtain⟨fn,tmps,assign,body,hy,hR⟩:=hY ss x w2 S5 dQ;rw[hx]at hen ⊢;clear F0 W4
   gi_wp2
   refine hR.mono ?_;rintro e3 W3 (⟨rfl,hJ3,o9⟩|⟨rfl,hJx3⟩)
   .gi_wp2
    have hit3:=o9.same _ _ hit2 rfl;have hbm3:=o9.same _ _ hbm2 rfl
    go_roundw
    case rel=>exact⟨seen.push e.born,clock,ss++[x],aAl _,hit3,hbm3,by
     grind,hJ3⟩
    grind
   .gi_wp2
    refine bodyPost_ret (results_none rfl _ _ _) rfl ?_
    grind
theorem GC(F:Fence)(n:Nat)(h7:F.fn 148)(M6:F.round=none)(hn:1<=n)(Bm b:Nat)(vs:List Int)(w:World)(hBm:Bm<w.heap.size)(hm:w.cell? ⟨Bm,0,none⟩=some (.map (some b)))(hB:vG w b vs):
 SeqStopsK F n prog 148 #[.pointer (some ⟨Bm,0,none⟩)] (fun x:Int=>#[Value.int .u32 x]) KeepsWalks (fun ys=>ys.Perm vs) (fun _=>True) vs.length w:=fun l J Jx W hW hJ _ hY h0=>by
 have V1:=(hW.cell (p:=⟨Bm,0,none⟩) hBm).trans hm;have hB':vG W b vs:=by obtain⟨cZ,clock,hb,h⟩:=hB;exact⟨cZ,clock,(hW.block b (aAH.1 hb).1).trans hb,h⟩
 exact Uq F n h7 M6 hn l Bm b vs W J Jx hJ hY V1 hB' h0
set_option maxRecDepth 100000 in
theorem EL(F:Fence)(n:Nat)(h3:F.fn 147)(h7:F.fn 148)(M6:F.round=none)(hn:3<=n)(Bm b:Nat)(vs:List Int)(hlen:vs.length<=1048576)(w:World)(hBm:Bm<w.heap.size)
 (hm:w.cell? ⟨Bm,0,none⟩=some (.map (some b))) (hB:vG w b vs):
 CallsIn F n prog 147 #[.slice none 0 0,.func (.func 148) #[] #[.pointer (some ⟨Bm,0,none⟩)]] w fun e W'=>∃ v ys,e=.returned v/\List.Perm ys vs/\W'.ownsRow w.heap.size 34 1 v ys.length (ys.map (Value.int .u32))/\Below w.heap.size w W':=by
 have h1:1<=n:=oO;obtain⟨i0,hi,hz0,hz1,hz2⟩:=info_parts SF;refine callsIn_of_wp_marks func147 rfl h3 ?_ M6;simp only[ntmps147,aAV,List.length_cons,List.length_nil,Nat.reduceAdd,Nat.reduceSub,aBw,Array.replicate_zero,aBH,aBy,List.nil_append,List.cons_append]
 gi_wp2
 have bO:=Boxed.new w 22 (.slice none 0 0);have hB0:Below w.heap.size w (w.alloc (.cells #[.slice none 0 0] 22)):=(Below.refl _ w).alloc (aAl _) _;have hB':vG (w.alloc (.cells #[.slice none 0 0] 22)) b vs:=by obtain⟨cZ,clock,hb,h⟩:=hB;exact⟨cZ,clock,(hB0.block b (aAH.1 hb).1).trans hb,h⟩
 refine wpIn_rangeFunc_ownG M6 h1 (gf:=148) (lb:=#[.pointer (some ⟨Bm,0,none⟩)]) rfl h7 (enters_of func148 (by kernel_rfl) rfl)
  (GC F (n-1) h7 M6 oO Bm b vs _ (by simp;omega) ((hB0.cell (p:=⟨Bm,0,none⟩) hBm).trans hm) hB') walksK_t walksK_b (Below.refl _ _) (fun _=>rfl)
  (fun pre W=>(∃ v,Boxed W w.heap.size 22 v/\W.ownsRow w.heap.size 34 1 v pre.length (pre.map (Value.int .u32))/\True)/\Below w.heap.size w W)
  (fun _ _ _=>False)
  (OwnFrom.and (Own.from (holdsRow_own w.heap.size w.heap.size 22 34 1 (fun pre:List Int=>pre.length) (fun pre:List Int=>pre.map (Value.int .u32)) (fun _ _=>True)) _) (ownFrom_below (aAl _) sS))
  (fun _ _ _ _ _ hs _ _=>hs)
  ⟨⟨_,bO,World.ownsRow_nil _ _ _ _,trivial⟩,hB0⟩
  (fun x=>{ tmps:=#[.slice none 0 0,.func (.func 148) #[] #[.pointer (some ⟨Bm,0,none⟩)],.pointer (some ⟨w.heap.size,0,none⟩),undef,.slice none 0 0,.int .u32 x,.func (.func 148) #[] #[.pointer (some ⟨Bm,0,none⟩)],.int .u32 x,undef,undef,undef,undef,undef],defers:=[] }) ?assign ?body ?done ?stop
 case assign=>
  intro l x W K hK
  gi_wp2
  omega
 case body=>
  rintro l pre x W ⟨⟨v,hv,Ut,_⟩,hB⟩ dQ;have hc:=hv.cell
  gi_wp2_with (gi_at_builtin;refine wpListIn_append_own _ rfl _ _ 22 rfl w.heap.size 34 i0 (.int .u32 0) 1 4 underlying22 hi hz0 hz1 hz2 rfl (by decide) _ _ _ rfl (Ut.alloc _) ⟨W.heap.size,0,none⟩ 1 1 [.int .u32 x] rfl rfl (cell_one_new _ _ _) (by simp[Value.oneCell']) (by grind [maxLen]) oO (by have:=hB.size;simp;omega) ?_;intro v' w1 U0 N7 _;obtain⟨g',cap',rfl⟩:=ownsRow_succ U0;obtain⟨U7,hv2,hr2,u5,P3⟩:=hv.appended (by decide) Ut hB.size (aAl _) U0 N7;have V6:=U7.cell;have hf1:=U7.frozen)
  exact⟨u5.from _,KeepsOthers.walks u5,⟨_,hv2,by grind,trivial⟩,hB.trans P3⟩
 case done=>
  rintro D ys W hD hys ⟨⟨v,hv,Ut,_⟩,hB⟩ hK;have hc:=hv.cell
  gi_wp2
  refine⟨sS,.inl ⟨_,_,rfl,run_takeDeferred hK,?_⟩⟩;exact⟨_,results_tmp rfl _ _ _,v,ys,rfl,hys,ownsRow_putObj Ut _ hK rfl,hB.trans (belowK_b (w:=w) (aAl _) W D _ _ (by simp at hD;omega) hK rfl rfl)⟩
 grind
set_option maxRecDepth 100000 in
theorem CY(F:Fence)(n:Nat)(h2:F.fn 104)(h3:F.fn 147)(h7:F.fn 148)(M6:F.round=none)(hn:4<=n)(Bm b:Nat)(vs:List Int)(hlen:vs.length<=1048576)(w:World)(hBm:Bm<w.heap.size)
 (hm:w.cell? ⟨Bm,0,none⟩=some (.map (some b))) (hB:vG w b vs):
 CallsIn F n prog 104 #[.func (.func 148) #[] #[.pointer (some ⟨Bm,0,none⟩)]] w fun e W'=>∃ v ys,e=.returned v/\List.Perm ys vs/\W'.ownsRow w.heap.size 34 1 v ys.length (ys.map (Value.int .u32))/\Below w.heap.size w W':=by
 have h1:1<=n:=oO;refine callsIn_of_wp func104 rfl h2 ?_ M6;simp only[ntmps104,aAV,List.length_cons,List.length_nil,Nat.reduceAdd,Nat.reduceSub,aBw,Array.replicate_zero,aBH,aBy,List.nil_append,List.cons_append]
 gi_wp2_with (gi_at_call 147;refine(EL F (n-1) h3 h7 M6 oO Bm b vs hlen _ hBm hm hB).mono ?_;rintro e w' ⟨v,ys,rfl,hys,Ut,Y6⟩)
 go_ret
 exact⟨v,ys,rfl,hys,Ut,Y6⟩
end Rg
namespace Aw
open Go Go.RowKit
def uL(es:List (List Int×LV)):List Int:=es.map fun e=>e.1.headD 0
theorem KB{w:World}{g:G}{st:St}(hi:Inv w g st){m:Nat}{es:List (List Int×LV)}(hm:st.H m=.map false [.u32] es):Rg.vG w (g.β m) (uL es):=by
 obtain⟨_,hlen,cZ,clock,h3,h4,_,_,h7,h8⟩:=hi.mp m _ _ _ hm;refine⟨cZ,clock,h3,?_,h7,h8⟩;rw[h4];unfold uL;rw[aAZ];refine aAP fun p hp=>?_;have:=hlen p hp
 match h:p.1,this with
 |[x],_=>grind [mkV,mkC]
theorem Ig(m q:Nat)(es:List (List Int×LV))(st:St)(hl:es.length<=1048576)(hH:st.H q=.box 87 1 [.mp m])(hm:st.H m=.map false [.u32] es):
 aB prog 104 [.fn (.func 105) [.pt q 0]] st fun r st'=>∃ ys:List Int,ys.Perm (uL es)/\r=.ms st.next 0 ys.length/\st'=st.new (.box 34 1 (us ys)):=by
 refine⟨enters_of func104 (by kernel_rfl) rfl,fun w g vs hi hr=>?_⟩;simp only[aC,Rep]at hr;obtain⟨v,_,rfl,⟨us1,rfl,v1,_,rfl,⟨rfl,hq⟩,rfl⟩,rfl⟩:=hr;obtain⟨_,b2,b3⟩:=hi.box q _ _ _ hH;have r8:g.nl q=false:=by
  cases hn:g.nl q with
  |false=>rfl
  |true=>grind
 obtain⟨j9,k1,k2,k3,k4,k5⟩:=b3 r8;simp only[List.length_cons,List.length_nil,aBv,aC]at k4 k3;obtain⟨sv,rest,hsv,C8,_⟩:=k4;simp only[Rep]at C8;have Z3:w.cell? ⟨g.β q,0,none⟩=some (.map (some (g.β m))):=by
  rw[cell_of_row w _ _ _ _ _ k1,<- C8.1];cases j9 with
  |nil=>grind
  |cons a j9=>grind
 refine(((Rg.CZ Fence.wide 4 trivial trivial trivial rfl (aAl _) (g.β q) (g.β m) (uL es) (by grind [uL]) w (nO Z3) Z3 (KB hi hm)).calls room_wide)).mono ?_;rintro e w' ⟨v,ys,rfl,hys,Ut,Y6⟩;have hlen:ys.length=(ys.map (Value.int .u32)).length:=sS;rw[hlen]at Ut;obtain⟨g',h1,h2,h3⟩:=wR (cs:=us ys) hi Y6 Ut (fun w g=>zH w g ys)
 grind
theorem Jj(m q:Nat)(es:List (List Int×LV))(st:St)(hl:es.length<=1048576)(hH:st.H q=.box 93 1 [.mp m])(hm:st.H m=.map false [.u32] es):
 aB prog 104 [.fn (.func 148) [.pt q 0]] st fun r st'=>∃ ys:List Int,ys.Perm (uL es)/\r=.ms st.next 0 ys.length/\st'=st.new (.box 34 1 (us ys)):=by
 refine⟨enters_of func104 (by kernel_rfl) rfl,fun w g vs hi hr=>?_⟩;simp only[aC,Rep]at hr;obtain⟨v,_,rfl,⟨us1,rfl,v1,_,rfl,⟨rfl,hq⟩,rfl⟩,rfl⟩:=hr;obtain⟨_,b2,b3⟩:=hi.box q _ _ _ hH;have r8:g.nl q=false:=by
  cases hn:g.nl q with
  |false=>rfl
  |true=>grind
 obtain⟨j9,k1,k2,k3,k4,k5⟩:=b3 r8;simp only[List.length_cons,List.length_nil,aBv,aC]at k4 k3;obtain⟨sv,rest,hsv,C8,_⟩:=k4;simp only[Rep]at C8;have Z3:w.cell? ⟨g.β q,0,none⟩=some (.map (some (g.β m))):=by
  rw[cell_of_row w _ _ _ _ _ k1,<- C8.1];cases j9 with
  |nil=>grind
  |cons a j9=>grind
 refine(((Rg.CY Fence.wide 4 trivial trivial trivial rfl (aAl _) (g.β q) (g.β m) (uL es) (by grind [uL]) w (nO Z3) Z3 (KB hi hm)).calls room_wide)).mono ?_;rintro e w' ⟨v,ys,rfl,hys,Ut,Y6⟩;have hlen:ys.length=(ys.map (Value.int .u32)).length:=sS;rw[hlen]at Ut;obtain⟨g',h1,h2,h3⟩:=wR (cs:=us ys) hi Y6 Ut (fun w g=>zH w g ys)
 grind
end Aw
namespace Aw
open Go Go.RowKit Pl Eu
theorem xU:∀ {a b:List Int},a.Nodup->(∀ x∈a,x∈b)->b.length<=a.length->a.Perm b
 |[],b,_,_,hl=>by have:b=[]:=aAF (by simpa using hl);rw[this]
 |x::a,b,hn,hs,hl=>by
  rw[aAq]at hn;have hxb:x∈b:=hs x aAf;have p1:b.Perm (x::b.erase x):=aDx hxb;refine List.Perm.trans (List.Perm.cons x (xU hn.2 (fun y hy=>?_) ?_)) p1.symm
  .have Zy:y≠x:=by rintro rfl;exact hn.1 hy
   exact(aEk Zy).2 (hs y (aAc _ hy))
  .have:=p1.length_eq;simp only[List.length_cons]at this hl;omega
def rok(m:Mp)(k:Nat):Prop:=Eg m.g.es (m.g.vs.getD k 0) (m.rots.getD k [])
noncomputable def rP(m:Mp):Int:=if chk m.g≠0 then chk m.g else if m.rots.length≠m.g.vs.length then 22 else @ite _ (∀ k,k<m.g.vs.length->rok m k) (Classical.propDecidable _) 0 22
theorem Od{m:Mp}(h:chk m.g≠0):rP m=chk m.g:=by unfold rP;rw[aAk h]
theorem HB{m:Mp}(h:chk m.g=0)(h1:m.rots.length≠m.g.vs.length):rP m=22:=by unfold rP;rw[aAa (fun e=>e h),aAk h1]
theorem GI{m:Mp}(h:chk m.g=0){k:Nat}(hk:k<m.g.vs.length)(h1:¬rok m k):rP m=22:=by
 unfold rP;rw[aAa (fun e=>e h)]
 split
 .rfl
 .rw[aAa (fun e=>h1 (e k hk))]
theorem Ug{m:Mp}(h:chk m.g=0)(h1:m.rots.length=m.g.vs.length)(h2:∀ k,k<m.g.vs.length->rok m k):rP m=0:=by unfold rP;rw[aAa (fun e=>e h),aAa (fun e=>e h1),aAk h2]
theorem Cx{m:Mp}(h:rP m=0):chk m.g=0/\bM m:=by
 by_cases h0:chk m.g=0
 .refine⟨h0,?_⟩;by_cases h1:m.rots.length=m.g.vs.length
  .refine⟨kF h0,h1,fun k hk=>?_⟩;refine aAI fun hn=>?_;rw[GI h0 hk hn]at h;cases h
  .rw[HB h0 h1]at h;cases h
 .rw[Od h0]at h;exact absurd h h0
end Aw
namespace Aw
open Go Go.RowKit Pl
attribute [local simp] Dw WM NH Sl nD pF nE
def nB:List (Int×Int)->Int->Int
 |[],_=>0
 |p::P,x=>if p.1=x then p.2 else nB P x
theorem Dx(x:Int):∀ P:List (Int×Int),(bS (inL P) [x]).getD (u 0)=u (nB P x)
 |[]=>rfl
 |p::P=>by
  have ih:=Dx x P;unfold nB;simp only[inL,aAn,bS]at ih ⊢;by_cases h:p.1=x
  .rw[aAk h,aAk (sF1 h)];rfl
  .rw[aAa h,aAa (by simpa using fun e=>h e.symm)];exact ih
theorem HS(P:List (Int×Int)):uL (inL P)=P.map (·.1):=by
 induction P with
 |nil=>rfl
 |cons p P ih=>simp only[inL,aAn,uL]at ih ⊢;rw[ih];rfl
def goR(P:List (Int×Int))(first:Int):Nat->Int->List Int
 |0,_=>[]
 |n+1,x=>x::(if nB P x≠first/\0<n then goR P first n (nB P x)else [])
def cC(P:List (Int×Int)):List Int:=goR P (mn (P.map (·.1))) P.length (mn (P.map (·.1)))
theorem Xw(m:Nat)(st:St):aB prog 107 [.mp m] st fun r st'=>r=.fn (.func 148) [.pt st.next 0]/\st'=st.new (.box 93 1 [.mp m]):=by refine zN func107 ntmps107 [.tmp 2] ?_;exact xv0
theorem XO(m:Nat)(st:St):aB prog 64 [.mp m] st fun r st'=>r=.fn (.func 105) [.pt st.next 0]/\st'=st.new (.box 87 1 [.mp m]):=by refine zN func64 ntmps64 [.tmp 2] ?_;exact xv0
theorem UB{a b:List Int}(h:a.Perm b)(h0:a≠[]):mn a=mn b:=
 (VA (h.mem_iff.1 (sF h0)) fun x hx=>Kz (h.mem_iff.2 hx)).symm
def RoI(P:List (Int×Int))(m:Nat)(st:St)(n:Nat)(fr:Frm)(s:St):Prop:=∃(turn:List Int) (x:Int) (t:Nat),n+turn.length=P.length/\0<n/\turn++goR P (mn (P.map (·.1))) n x=cC P/\fr 0=.mp m/\fr 3=.sl t turn.length (us turn)/\fr 4=u (mn (P.map (·.1)))/\fr 5=u x/\Ef t 34 1 turn.length st s/\aA st s
theorem Je{P:Program}{N:Nat}{Q:AQ}{c:Code}{fr:Frm}{st:St}(I:Frm->St->Prop)(h0:I fr st)(h:∀ fr st,I fr st->AWp P N c Q fr st):AWp P N c Q fr st:=h _ _ h0
theorem Wf(P:List (Int×Int))(m:Nat)(st:St)(hP:P≠[])(hl:P.length<=1000)(hm:st.H m=.map false [.u32] (inL P))(J4:m<st.next):
 aB prog 65 [.mp m] st fun r st'=>r=.sl 0 (cC P).length (us (cC P))/\st'=st:=by
 refine qT (Q:=fun r=>r=.sl 0 (cC P).length (us (cC P))) (eR ?_) fun r h=>by subst h;exact⟨.inl rfl,yW _ _⟩
 have hil:(inL P).length=P.length:=by simp[inL]
 refine zN func65 ntmps65 [.tmp 2] ?_;refine xw0 ?_;refine CE _ 0 (fun n fr s=>RoI P m st n fr s) rfl ?_ ?_
 .refine fE fun E0=>?_
  (refine xj0 ?_;intro J hJ)
  refine xcP (Xw m _) ?_;refine dK hJ ?_;refine qE (Jj m st.next (inL P) _ oO sS (by rw[bY,aAa oO];exact hm)) sS ?_;rintro r s1 ⟨ys,hys,rfl,e1⟩;rw[e1];clear e1 s1;have hyl:ys.length=P.length:=by rw[hys.length_eq,HS,aAD]
  have hy0:ys≠[]:=fun e=>hP (aCn.1 (by rw[<- hyl,e];rfl));have hmn:mn ys=mn (P.map (·.1)):=UB (by rw[<- HS];exact hys) hy0;have F8:=vV (P:=prog) (pre:=[]) (post:=[]) (l:=st.next+1) (n:=ys.length) (e:=34) (s:=1) (cs:=us ys) (st:=(st.new (.box 93 1 [.mp m])).new (.box 34 1 (us ys))) (f:=106) sS sS (by rw[aAt sS];exact Min ys 0 _ (by unfold small;omega) hy0);rw[hmn]at F8;refine dK hJ ?_;refine qE F8 sS ?_;rintro r s1 ⟨rfl,e1⟩;rw[e1];clear e1 s1 F8;have hPl:0<P.length:=aBm.2 hP;refine dK hJ ?_;refine Cl ?_;simp only[ak];refine kD 3 34 1 sS ?_;refine Je (RoI P m st P.length) ?_ ?_
  .exact⟨[],_,st.next+1+1,sS,hPl,rfl,sS,sS,sS,sS,⟨oO,oO,sS,sS⟩,(((aA.new _ _).trans (aA.new _ _)).set oO _).trans (aA.new _ _)⟩
  obtain⟨n,hn⟩:∃ n,n=P.length:=⟨_,rfl⟩;rw[<- hn];have hJG:∀ n' c7 s',n' < n->RoI P m st n' c7 s'->∃ n,RoI P m st n c7 s':=fun n' _ _ _ h=>⟨n',h⟩;rintro fr s ⟨turn,x,t,h1,h2,h3,f0,f3,f4,f5,⟨t0,t1,t2,tH⟩,hk⟩;have hmH:=(hk.H m J4).trans hm;have hg:=Dx x P;obtain⟨n,rfl⟩:∃ k,n=k+1:=⟨n-1,oO⟩;have h4:goR P (mn (P.map (·.1))) (n+1) x=x::(if nB P x≠mn (P.map (·.1))/\0<n then goR P (mn (P.map (·.1))) n (nB P x)else []):=rfl;rw[h4]at h3;clear h4;have hRo:∀(I5:List Int) (y:Int) (t:Nat) (c7:Frm) (s':St),n+I5.length=P.length->0<n->I5++goR P (mn (P.map (·.1))) n y=cC P->c7 0=.mp m->c7 3=.sl t I5.length (us I5)->c7 4=u (mn (P.map (·.1)))->c7 5=u y->Ef t 34 1 I5.length st s'->aA st s'->RoI P m st n c7 s':=fun I5 y t c7 s' q1 q2 q3 q4 q5 q6 q7 q8 q9=>⟨I5,y,t,q1,q2,q3,q4,q5,q6,q7,q8,q9⟩;have D9:=fun c7 s' h=>hJG n c7 s' oO h;generalize mn (P.map (·.1))=first at *
  generalize nB P x=y at *;have hkn:=hk.next;have c1:¬t=s.next:=oO;have c2:¬s.next=t:=oO;have c3:¬m=s.next:=oO;have c4:¬m=s.next+1:=oO;have c5:¬m=t:=oO;have u5:=(((hk.trans (aA.new s (.own 34 1 1))).set t1 .dead).trans (aA.new _ (.own 34 1 (turn.length+1))));by_cases hy:y=first
  .have P8:(y != first)=false:=by simp[hy]
   (repeat' (first|apply qS|refine qK (zZ ?_)|(refine qR (zZ ?_);simp[f0,f3,f4,f5,hmH,hg,tH,t0,c1,c2,c3,c4,c5,P8])|(apply qC;simp[f0,f3,f4,f5,hmH,hg,tH,t0,c1,c2,c3,c4,c5,P8])|(refine zE ?_;intro J hJ;simp[f0,f3,f4,f5,hmH,hg,tH,t0,c1,c2,c3,c4,c5,P8];(repeat refine ca ?_);(refine zJ hJ ?_;clear hJ J))))
   rw[aAa (fun h=>h.1 hy)]at h3;exact⟨by rw[<- h3];simp[z0,nK],u5⟩
  .have P8:(y != first)=true:=by simp[hy]
   by_cases P6:0<n
   .have C7:turn.length+1<(inL P).length:=oO;have I9:(turn.length:Int)+1<(inL P).length:=oO
    (repeat' (first|apply qS|(apply qC;simp[f0,f3,f4,f5,hmH,hg,tH,t0,c1,c2,c3,c4,c5,P8,C7,I9])|(refine zE ?_;intro J hJ;simp[f0,f3,f4,f5,hmH,hg,tH,t0,c1,c2,c3,c4,c5,P8,C7,I9];(repeat refine ca ?_);(refine zJ hJ ?_;clear hJ J))))
    rw[aAk ⟨hy,P6⟩]at h3;refine IA ?_;simp only[ak,nE,pF,nD,Dw];refine D9 _ _ (hRo (turn++[x]) y (s.next+1) _ _ (by simp;omega) P6 (by rw[<- h3];simp) (sF1 f0) sS (sF1 f4) sS ⟨oO,oO,sS,sS⟩ u5)
   .have C7:¬turn.length+1<(inL P).length:=oO;have I9:¬(turn.length:Int)+1<(inL P).length:=oO
    (repeat' (first|apply qS|refine qK (zZ ?_)|(refine qR (zZ ?_);simp[f0,f3,f4,f5,hmH,hg,tH,t0,c1,c2,c3,c4,c5,P8,C7,I9])|(apply qC;simp[f0,f3,f4,f5,hmH,hg,tH,t0,c1,c2,c3,c4,c5,P8,C7,I9])|(refine zE ?_;intro J hJ;simp[f0,f3,f4,f5,hmH,hg,tH,t0,c1,c2,c3,c4,c5,P8,C7,I9];(repeat refine ca ?_);(refine zJ hJ ?_;clear hJ J))))
    rw[aAa (fun h=>P6 h.2)]at h3;exact⟨by rw[<- h3];simp[z0,nK],u5⟩
 .rintro n fr s ⟨turn,x,t,h1,h2,h3,f0,f3,f4,f5,⟨t0,t1,t2,tH⟩,hk⟩ JG hJG;have hmH:=(hk.H m J4).trans hm;have hg:=Dx x P;obtain⟨n,rfl⟩:∃ k,n=k+1:=⟨n-1,oO⟩;have h4:goR P (mn (P.map (·.1))) (n+1) x=x::(if nB P x≠mn (P.map (·.1))/\0<n then goR P (mn (P.map (·.1))) n (nB P x)else []):=rfl;rw[h4]at h3;clear h4;have hRo:∀(I5:List Int) (y:Int) (t:Nat) (c7:Frm) (s':St),n+I5.length=P.length->0<n->I5++goR P (mn (P.map (·.1))) n y=cC P->c7 0=.mp m->c7 3=.sl t I5.length (us I5)->c7 4=u (mn (P.map (·.1)))->c7 5=u y->Ef t 34 1 I5.length st s'->aA st s'->RoI P m st n c7 s':=fun I5 y t c7 s' q1 q2 q3 q4 q5 q6 q7 q8 q9=>⟨I5,y,t,q1,q2,q3,q4,q5,q6,q7,q8,q9⟩;have D9:=fun c7 s' h=>hJG n c7 s' oO h;generalize mn (P.map (·.1))=first at *
  generalize nB P x=y at *;have hkn:=hk.next;have c1:¬t=s.next:=oO;have c2:¬s.next=t:=oO;have c3:¬m=s.next:=oO;have c4:¬m=s.next+1:=oO;have c5:¬m=t:=oO;have u5:=(((hk.trans (aA.new s (.own 34 1 1))).set t1 .dead).trans (aA.new _ (.own 34 1 (turn.length+1))));by_cases hy:y=first
  .have P8:(y != first)=false:=by simp[hy]
   (repeat' (first|apply qS|refine qK (zZ ?_)|(refine qR (zZ ?_);simp[f0,f3,f4,f5,hmH,hg,tH,t0,c1,c2,c3,c4,c5,P8])|(apply qC;simp[f0,f3,f4,f5,hmH,hg,tH,t0,c1,c2,c3,c4,c5,P8])|(refine zE ?_;intro J hJ;simp[f0,f3,f4,f5,hmH,hg,tH,t0,c1,c2,c3,c4,c5,P8];(repeat refine ca ?_);(refine zJ hJ ?_;clear hJ J))))
   rw[aAa (fun h=>h.1 hy)]at h3;exact⟨by rw[<- h3];simp[z0,nK],u5⟩
  .have P8:(y != first)=true:=by simp[hy]
   by_cases P6:0<n
   .have C7:turn.length+1<(inL P).length:=oO;have I9:(turn.length:Int)+1<(inL P).length:=oO
    (repeat' (first|apply qS|refine qK (zZ ?_)|(apply qC;simp[f0,f3,f4,f5,hmH,hg,tH,t0,c1,c2,c3,c4,c5,P8,C7,I9])|(refine zE ?_;intro J hJ;simp[f0,f3,f4,f5,hmH,hg,tH,t0,c1,c2,c3,c4,c5,P8,C7,I9];(repeat refine ca ?_);(refine zJ hJ ?_;clear hJ J))))
    rw[aAk ⟨hy,P6⟩]at h3;refine IA ?_;simp only[ak,nE,pF,nD,Dw];refine D9 _ _ (hRo (turn++[x]) y (s.next+1) _ _ (by simp;omega) P6 (by rw[<- h3];simp) (sF1 f0) sS (sF1 f4) sS ⟨oO,oO,sS,sS⟩ u5)
   .have C7:¬turn.length+1<(inL P).length:=oO;have I9:¬(turn.length:Int)+1<(inL P).length:=oO
    (repeat' (first|apply qS|refine qK (zZ ?_)|(refine qR (zZ ?_);simp[f0,f3,f4,f5,hmH,hg,tH,t0,c1,c2,c3,c4,c5,P8,C7,I9])|(apply qC;simp[f0,f3,f4,f5,hmH,hg,tH,t0,c1,c2,c3,c4,c5,P8,C7,I9])|(refine zE ?_;intro J hJ;simp[f0,f3,f4,f5,hmH,hg,tH,t0,c1,c2,c3,c4,c5,P8,C7,I9];(repeat refine ca ?_);(refine zJ hJ ?_;clear hJ J))))
    rw[aAa (fun h=>P6 h.2)]at h3;exact⟨by rw[<- h3];simp[z0,nK],u5⟩
end Aw
namespace Aw
open Go Go.RowKit Pl
def pK(l:List Int):List Int:=l.foldr vS []
theorem zQ:∀ l,(pK l).Pairwise (· < ·)
 |[]=>.nil
 |x::l=>yT x _ (zQ l)
theorem oQ(x:Int):∀ l,x∈pK l↔x∈l
 |[]=>by simp[pK]
 |y::l=>by have ih:=oQ x l;unfold pK at ih ⊢;rw[List.foldr_cons,oK,ih,aAe]
theorem Ql(A:Tn)(loc:Int->Nat):uL (ouL A loc)=A.map (·.1):=by
 induction A with
 |nil=>rfl
 |cons p P ih=>simp only[ouL,aAn,uL]at ih ⊢;rw[ih];rfl
theorem TO(m q:Nat)(es:List (List Int×LV))(K:List Int)(st:St)(hl:es.length<=1000)(hH:st.H q=.box 87 1 [.mp m])(hm:st.H m=.map false [.u32] es)(hK:uL es=K)(hn:K.Nodup):
 aB prog 63 [.fn (.func 105) [.pt q 0]] st fun r st'=>r=.sl 0 (pK K).length (us (pK K))/\aA st st':=by
 refine cE ?_;refine zN func63 ntmps63 [.tmp 2] ?_
 (refine xj0 ?_;intro J hJ)
 refine qE (Ig m q es _ oO hH hm) sS ?_;rintro r s1 ⟨ys,hys,rfl,rfl⟩;have hyl:ys.length=es.length:=by rw[hys.length_eq];simp[uL]
 (refine nJ hJ ?_;intro J hJ)
 refine qE (VS ys st.next _ oO sS sS) sS ?_;rintro r s2 ⟨c,hB,hp,hs,n9⟩;have K2:=n9.1;simp only[aG]at K2;have hKp:aA st s2:=⟨oO,fun l' G5=>(n9.2 l' oO (by simp;omega)).trans ((aA.new st _).H l' G5)⟩;have o8:=hp.length_eq;have hpK:c.Perm K:=by rw[<- hK];exact hp.trans hys
 have hc:c=pK K:=by
  refine yU id ?_ (by simpa using zQ K) fun x=>by rw[oQ];exact hpK.mem_iff
  rw[aEx];refine(List.Pairwise.and hs (hpK.nodup_iff.2 hn)).imp fun h=>?_;have:=h.1;have:=h.2;omega
 refine dK hJ ?_;rw[<- hc];exact⟨st.next,c.length,⟨rfl,o8.symm⟩,_,_,_,hB,sS,⟨rfl,by rw[aAt sS]⟩,hKp.set (aAl _) _⟩
def gP(B:List Ed)(v x:Int):List Int:=
 if x<v then(B.map fun e=>2*e.id+if e.b=v then 1 else 0).reverse else B.map fun e=>2*e.id+if e.b=v then 1 else 0
theorem WA(B:List Ed)(v x:Int)(t:Nat)(st:St)(hl:B.length<=1000)(E0:∀ e∈B,1<=e.id/\e.id<=1048576):
 aB prog 66 [.sl t B.length (eds B),u v,u x] st fun r st'=>r=.sl 0 (gP B v x).length (us (gP B v x))/\st'=st:=by
 refine qT (Q:=fun r=>r=.sl 0 (gP B v x).length (us (gP B v x))) (cE ?_) fun r h=>by subst h;exact⟨.inl rfl,yW _ _⟩
 have hel:=aJ B;refine zN func66 ntmps66 [.tmp 6] ?_;refine xw0 ?_;refine tV 7 34 1 sS ?_;refine aY 13 12 14 28 (B.length) (fun j fr st2=>fr 1=u v/\fr 2=u x/\fr 11=.sl t B.length (eds B)/\aA st st2/\∃ q,fr 7=.ms q 0 j/\st.next<=q/\q<st2.next/\st2.H q=.box 34 1 (us ((B.take j).map fun e=>2*e.id+if e.b=v then 1 else 0))) ?_ ?_ ?_
 .exact⟨sS,sS,sS,aA.new _ _,st.next,sS,aAl _,sS,sS⟩
 .rintro j fr s dQ ⟨f1,f2,f11,hk,q,f7,q1,q2,hq⟩ fi fn JO hJO;have hd:=aP B j dQ;have o9:j*3<B.length*3:=oO;have C9:((B.take (j+1)).map fun e=>2*e.id+if e.b=v then 1 else 0)=((B.take j).map fun e=>2*e.id+if e.b=v then 1 else 0)++[2*(B.getD j ed0).id+if(B.getD j ed0).b=v then 1 else 0]:=by have h1:B.take (j+1)=B.take j++[B[j]]:=aAp dQ;rw[h1,aAu,eH B j dQ];rfl
  have hp:=E0 (B.getD j ed0) (by rw[eH B j dQ];exact aAz _);have J4:((B.take j).map fun e=>2*e.id+if e.b=v then(1:Int)else 0).length=j:=by simp;omega
  generalize B.getD j ed0=y at *;generalize ((B.take j).map fun e=>2*e.id+if e.b=v then(1:Int)else 0)=D at *;obtain⟨d,a,b⟩:=y;simp only at C9 hp hd;have c1:¬q=s.next:=oO;have c1b:¬q=s.next+1:=oO;have htj:(us D).take j=us D:=aAt (by simp;omega);have hjl:j<=D.length:=oO;have hj1:(j+1)*4<=140737488355328:=oO;have hj2:j+1<=maxLen:=by unfold maxLen;omega
  have u5:∀(o1 o2 o4:cN),aA st ((((s.new o1).new o2).set q .dead).new o4):=fun o1 o2 o4=>(((hk.trans (aA.new _ _)).trans (aA.new _ _)).set q1 _).trans (aA.new _ _);by_cases hb:b=v
  .have P3:(b==v)=true:=by simp[hb]
   rw[aAk hb]at C9
   (refine UE f1 f7 f11 fi fn dQ hd hel o9 P3 ?_;intro J hJ)
   refine qE (dOf d 1 _ oO oO (.inr rfl)) sS ?_;rintro r s1 ⟨rfl,rfl⟩;refine Wa hJ f7 hq c1 c1b htj hjl hj1 hj2 ?_;exact hJO _ _ (sF1 fi) (sF1 fn) ⟨sF1 f1,sF1 f2,sF1 f11,u5 _ _ _,s.next+1+1,sS,oO,sS,by rw[C9];simp⟩
  .have P3:(b==v)=false:=by simp[hb]
   rw[aAa hb]at C9
   (refine UE f1 f7 f11 fi fn dQ hd hel o9 P3 ?_;intro J hJ)
   refine qE (dOf d 0 _ oO oO (.inl rfl)) sS ?_;rintro r s1 ⟨rfl,rfl⟩;refine Wa hJ f7 hq c1 c1b htj hjl hj1 hj2 ?_;exact hJO _ _ (sF1 fi) (sF1 fn) ⟨sF1 f1,sF1 f2,sF1 f11,u5 _ _ _,s.next+1+1,sS,oO,sS,by rw[C9];simp⟩
 .rintro fr s ⟨f1,f2,f11,hk,q,f7,q1,q2,hq⟩;rw[aAN]at hq;unfold gP;have J4:(B.map fun e=>2*e.id+if e.b=v then(1:Int)else 0).length=B.length:=sS;generalize (B.map fun e=>2*e.id+if e.b=v then(1:Int)else 0)=D at *;by_cases hx:x<v
  .rw[aAk hx];rw[<- J4]at f7
   (refine xj4 f1 f2 f7 hx ?_;intro J hJ)
   refine qE (yQ D q s (by unfold small;omega) hq) sS ?_;rintro r s1 rfl;refine rR hJ f7 ?_;exact⟨q,D.length,⟨rfl,rfl⟩,_,_,_,aAk rfl,sS,⟨sS,by rw[aAt sS]⟩,(hk.set q1 _).set q1 _⟩
  .rw[aAa hx];refine xw4 f1 f2 f7 hx ?_;exact⟨q,B.length,⟨rfl,rfl⟩,_,_,_,hq,by simp;omega,⟨J4.symm,by rw[aAt (by simp;omega)]⟩,hk.set q1 _⟩
abbrev RM:=List (List Int×Nat×Nat×List LV)
def rmV(a:Nat×Nat×List LV):LV:=.sl a.1 a.2.1 a.2.2
def rmL(A:RM):List (List Int×LV):=A.map fun a=>(a.1,rmV a.2)
def mM(k:List Int)(x:Nat×Nat×List LV):RM->RM
 |[]=>[(k,x)]
 |a::A=>if k==a.1 then(k,x)::A else a::mM k x A
def getM(k:List Int):RM->Option (Nat×Nat×List LV)
 |[]=>none
 |a::A=>if k==a.1 then some a.2 else getM k A
theorem LH(k:List Int)(x:Nat×Nat×List LV):∀ A,bV (rmL A) k (rmV x)=rmL (mM k x A)
 |[]=>rfl
 |a::A=>by
  have ih:=LH k x A
  grind [mM,rmL,bV]
theorem tJ(k:List Int):∀ A,bS (rmL A) k=(getM k A).map rmV
 |[]=>rfl
 |a::A=>by
  have ih:=tJ k A
  grind [getM,rmL,bS]
theorem mH{k:List Int}{x:Nat×Nat×List LV}:∀ {A},getM k A=some x->(k,x)∈A
 |[],h=>by cases h
 |a::A,h=>by
  unfold getM at h
  split at h
  .grind
  .exact aAc _ (mH h)
theorem getM_none{k:List Int}:∀ {A:RM},getM k A=none->k∉A.map (·.1)
 |[],_=>by simp
 |a::A,h=>by
  unfold getM at h
  split at h
  .cases h
  .rename_i e;simp only[aAn,aAe,aCp];exact⟨by grind,getM_none h⟩
theorem Av{k:List Int}{x:Nat×Nat×List LV}:∀ {A:RM},k∉A.map (·.1)->mM k x A=A++[(k,x)]
 |[],_=>rfl
 |a::A,h=>by simp only[aAn,aAe,aCp]at h;unfold mM;rw[aAa (by grind),Av h.2];rfl
theorem vJ{k:List Int}{x:Nat×Nat×List LV}:∀ {A:RM},k∈A.map (·.1)->(mM k x A).map (·.1)=A.map (·.1)
 |a::A,h=>by
  unfold mM;by_cases e:k=a.1
  .grind
  .rw[aAa (by grind),aAn,aAn,vJ]
   grind
theorem pV{k:List Int}{x:Nat×Nat×List LV}:∀ {A:RM},(A.map (·.1)).Nodup->∀ a∈mM k x A,a=(k,x)\/(a∈A/\a.1≠k)
 |[],_,a,ha=>by grind [mM]
 |b::A,hn,a,ha=>by
  obtain⟨n1,n2⟩:=aAq.1 (by grind:(b.1::A.map (·.1)).Nodup);unfold mM at ha;by_cases e:k=b.1
  .grind
  .rw[aAa (by grind)]at ha;rcases aAe.1 ha with ha|ha
   .grind
   .rcases pV n2 a ha with h|⟨h1,h2⟩
    .grind
    grind
theorem DZ{k:List Int}{t n:Nat}{c:List LV}:∀ {A:RM},(A.map fun a=>a.2.1).Nodup->(∀ a∈A,a.2.1≠t)->((mM k (t,n,c) A).map fun a=>a.2.1).Nodup
 |[],_,_=>by simp[mM]
 |a::A,hn,h=>by
  obtain⟨n1,n2⟩:=aAq.1 (by grind:(a.2.1::A.map fun a=>a.2.1).Nodup);unfold mM
  split
  .grind
  .rw[aAn,aAq];refine⟨fun hm=>?_,DZ n2 fun b hb=>h b (aAc _ hb)⟩;obtain⟨b,hb,e⟩:=aAj.1 hm;have:b=(k,(t,n,c))\/b∈A:=by
    clear n1 n2 h hn hm;revert hb;clear e;induction A with
    |nil=>grind [mM]
    |cons a2 A ih=>
     grind [mM]
   grind
theorem Lm:∀ {A:RM},(A.map fun a=>a.2.1).Nodup->∀ {a b},a∈A->b∈A->a.2.1=b.2.1->a=b
 |[],_,_,_,h,_,_=>by cases h
 |c::A,hn,a,b,ha,hb,e=>by
  obtain⟨n1,n2⟩:=aAq.1 (by grind:(c.2.1::A.map fun a=>a.2.1).Nodup);rcases aAe.1 ha with ha|ha
  .grind
  .rcases aAe.1 hb with hb|hb
   .grind
   .exact Lm n2 ha hb e
structure yE(ag:Bool)(ks:List IntKind)(e w:Nat)(A:RM)(m lo:Nat)(st:St):Prop where
 map:st.H m=.map ag ks (rmL A)
 mlt:lo<=m/\m<st.next
 tok:∀ a∈A,a.2.1≠0/\lo<=a.2.1/\a.2.1<st.next/\st.H a.2.1=.own e w a.2.2.1
 inj:(A.map fun a=>a.2.1).Nodup
 nd:(A.map (·.1)).Nodup
theorem yE.keep{ag:Bool}{ks:List IntKind}{e w:Nat}{A:RM}{m lo:Nat}{st st':St}(h:yE ag ks e w A m lo st)(k:aA st st'):yE ag ks e w A m lo st':=by have hn:=k.next;have hm:=h.mlt;refine⟨(k.H _ hm.2).trans h.map,⟨hm.1,oO⟩,fun a ha=>?_,h.inj,h.nd⟩;obtain⟨h1,h2,h3,h4⟩:=h.tok a ha;exact⟨h1,h2,oO,(k.H _ h3).trans h4⟩
theorem yE.put{ag:Bool}{ks:List IntKind}{e w:Nat}{A:RM}{m lo:Nat}{st st':St}(h:yE ag ks e w A m lo st){k:List Int}{t n:Nat}{c:List LV}
 (ht:st.next<=t/\t<st'.next) (hn:st.next<=st'.next) (U1:lo<=st.next) (h0:t≠0) (hm:st'.H m=.map ag ks (bV (rmL A) k (rmV (t,n,c)))) (hT:st'.H t=.own e w n)
 (hK:∀ l,l<st.next->l≠m->(∀ x,getM k A=some x->l≠x.1)->st'.H l=st.H l):yE ag ks e w (mM k (t,n,c) A) m lo st':=by
 have hmm:=h.mlt;rw[LH]at hm;refine⟨hm,⟨hmm.1,oO⟩,fun a ha=>?_,DZ h.inj fun a ha=>by have:=(h.tok a ha).2.2.1;omega,?_⟩
 .rcases pV h.nd a ha with rfl|⟨ha,Zy⟩
  .grind
  .obtain⟨h1,h2,h3,h4⟩:=h.tok a ha;refine⟨h1,h2,oO,?_⟩;rw[hK _ h3 (fun q=>by rw[q,h.map]at h4;grind) fun x hx q=>?_]
   .omega
   .have hx:=mH hx;refine Zy ?_;exact(by rw[Lm h.inj ha hx q]:a.1=k)
 .by_cases hk:k∈A.map (·.1)
  .rw[vJ hk];exact h.nd
  .rw[Av hk,aAu,aAo];refine⟨h.nd,sS,fun a ha b hb e=>?_⟩
   grind
abbrev prE(e:Ed):Int×Int:=prP e.a e.b
def jP(E:List Ed)(p:Int×Int):List Ed:=E.filter fun e=>decide (prE e=p)
abbrev sW(g:Gr)(v x:Int):List Ed:=jP g.es (prP v x)
abbrev TL:=List (Int×List Int)
def oC(v:Int)(ds:List Int):TL->TL
 |[]=>[(v,ds)]
 |p::T=>if p.1=v then(v,p.2++ds)::T else p::oC v ds T
def eD(v:Int):TL->List Int
 |[]=>[]
 |p::T=>if p.1=v then p.2 else eD v T
def dU(g:Gr)(v:Int)(L:List Int)(T:TL):TL:=L.foldl (fun T x=>oC v (gP (sW g v x) v x) T) T
def dS(v:Int):Tn->List (Int×Int)
 |[]=>[]
 |a::A=>if a.1=v then a.2 else dS v A
def fM(g:Gr)(A:Tn)(K:List Int)(T:TL):TL:=K.foldl (fun T v=>dU g v (cC (dS v A)) T) T
def gG(T:TL):Nat:=(T.map fun p=>p.2.length).sum
def okE(F:List (List Int))(A:Tn)(T:TL):Prop:=F.length<=300/\(∀ r∈F,r.length<=1000)/\A.length<=1000/\(∀ a∈A,a.2.length<=1000)/\gG T<=100000
instance (F:List (List Int)) (A:Tn) (T:TL):Decidable (okE F A T):=by unfold okE;infer_instance
def uC(g:Gr)(F:List (List Int))(T:TL):TL:=fM g (aV F) (pK ((aV F).map (·.1))) T
def yC(g:Gr):List (List Ed)->TL->Option (Option TL)
 |[],T=>some (some T)
 |l::bl,T=>(pM l).bind fun o=>match o with
  |none=>some none
  |some F=>if okE F (aV F) (uC g F T)then yC g bl (uC g F T)else none
def kR(g:Gr)(bl:List (List Ed)):Option (Option Mp):=
 (yC g bl []).bind fun o=>match o with
   |none=>some none
   |some T=>if ∀ v∈g.vs,(eD v T).length<=1000 then some (some ⟨g,g.vs.map fun v=>nrm (eD v T)⟩)else none
theorem LN(P:List (Int×Int))(f:Int):∀ n x,(goR P f n x).length<=n
 |0,_=>by simp[goR]
 |n+1,x=>by
  unfold goR
  split
  .have:=LN P f n (nB P x);grind
  .simp
theorem JU(P:List (Int×Int)):(cC P).length<=P.length:=LN _ _ _ _
theorem uS(v:Int)(ds:List Int):∀ T:TL,gG (oC v ds T)=gG T+ds.length
 |[]=>by simp[oC,gG]
 |p::T=>by
  have ih:=uS v ds T
  grind [oC,gG]
theorem vX(g:Gr)(v:Int):∀(L:List Int) (T:TL),gG T<=gG (dU g v L T)
 |[],_=>aAl _
 |x::L,T=>by
  have h:=vX g v L (oC v (gP (sW g v x) v x) T)
  grind [uS,dU]
theorem Ci(g:Gr)(A:Tn):∀(K:List Int) (T:TL),gG T<=gG (fM g A K T)
 |[],_=>aAl _
 |v::K,T=>by
  have h:=Ci g A K (dU g v (cC (dS v A)) T)
  grind [vX,fM]
theorem Au(v:Int):∀ T:TL,(eD v T).length<=gG T
 |[]=>aAl _
 |p::T=>by
  have ih:=Au v T
  grind [eD,gG]
theorem GR(g:Gr)(A:Tn)(K:List Int)(T:TL)(j:Nat):fM g A K T=fM g A (K.drop j) (fM g A (K.take j) T):=by
 grind [fM,List.take_append_drop]
theorem Gl(g:Gr)(v:Int)(L:List Int)(T:TL)(j:Nat):dU g v L T=dU g v (L.drop j) (dU g v (L.take j) T):=by
 grind [dU,List.take_append_drop]
theorem Hs{v:Int}:∀ {A:Tn},v∈A.map (·.1)->(v,dS v A)∈A
 |a::A,h=>by
  unfold dS;by_cases e:a.1=v
  .grind
  .rw[aAa e];simp only[aAn,aAe]at h;exact aAc _ (Hs (h.resolve_left fun h=>e h.symm))
theorem SV(x y:Int)(P:List (Int×Int)):pZ x y P≠[]:=by
 cases P with
 |nil=>simp[pZ]
 |cons p P=>grind [pZ]
theorem Ko{v x y:Int}:∀ {A:Tn},(∀ a∈A,a.2≠[])->∀ a∈iA v x y A,a.2≠[]
 |[],_,a,ha=>by grind [iA]
 |b::A,h,a,ha=>by
  unfold iA at ha
  split at ha
  .grind [SV]
  .rcases aAe.1 ha with ha|ha
   .grind
   .exact Ko (fun a ha=>h a (aAc _ ha)) a ha
theorem GA(r:List Int){A:Tn}(h:∀ a∈A,a.2≠[]):∀ j,∀ a∈jX r A j,a.2≠[]
 |0=>h
 |j+1=>Ko (GA r h j)
theorem Jr(R:List (List Int)):∀ a∈aV R,a.2≠[]:=by
 unfold aV;have key:∀(R:List (List Int)) (A:Tn),(∀ a∈A,a.2≠[])->∀ a∈R.foldl (fun A r=>jX r A r.length) A,a.2≠[]:=fun R=>by
  induction R with
  |nil=>grind
  |cons r R ih=>exact fun A h=>ih _ (GA r h _)
 grind
structure Fh(E:List Ed)(A:RM):Prop where
 row:∀ a∈A,∃ p,a.1=pk p/\a.2.2.1=(jP E p).length/\a.2.2.2=eds (jP E p)
 all:∀ e∈E,pk (prE e)∈A.map (·.1)
theorem Ch(E:List Ed)(x:Ed)(p:Int×Int):jP (E++[x]) p=if prE x=p then jP E p++[x]else jP E p:=by
 grind [jP]
theorem Fh.get{E:List Ed}{A:RM}(h:Fh E A)(hn:(A.map (·.1)).Nodup)(p:Int×Int):
 (jP E p=[]/\getM (pk p) A=none)\/∃ t,getM (pk p) A=some (t,(jP E p).length,eds (jP E p)):=by
 cases hg:getM (pk p) A with
 |none=>refine .inl ⟨?_,rfl⟩;refine aBP.2 fun e he=>?_;obtain⟨h1,h2⟩:=aAC.1 he;exact getM_none hg (by rw[<- aCc h2];exact h.all e h1)
 |some x=>
  obtain⟨t,n,c⟩:=x;obtain⟨q,h1,h2,h3⟩:=h.row _ (mH hg)
  grind
theorem Fh.add{E:List Ed}{A:RM}(h:Fh E A)(hn:(A.map (·.1)).Nodup)(x:Ed)(t:Nat):
 Fh (E++[x]) (mM (pk (prE x)) (t,(jP E (prE x)).length+1,eds (jP E (prE x))++[u x.id,u x.a,u x.b]) A):=by
 refine⟨fun a ha=>?_,fun e he=>?_⟩
 .rcases pV hn a ha with rfl|⟨ha,Zy⟩
  .grind [Ch]
  .obtain⟨p,h1,h2,h3⟩:=h.row a ha
   grind [Ch]
 .by_cases hk:pk (prE x)∈A.map (·.1)
  .rw[vJ hk];rcases aAd.1 he with he|he
   .exact h.all e he
   grind
  .rw[Av hk,aAu,aAd];rcases aAd.1 he with he|he
   .exact .inl (h.all e he)
   grind
def uA(T:TL)(A:RM):Prop:=A.map (fun a=>(a.1,a.2.2))=T.map fun p=>([p.1],(p.2.length,us p.2))
theorem uA.get{v:Int}:∀ {T:TL} {A:RM},uA T A->(eD v T=[]/\getM [v] A=none)\/∃ t,getM [v] A=some (t,(eD v T).length,us (eD v T))
 |[],[],_=>.inl ⟨rfl,rfl⟩
 |[],a::A,h=>by cases h
 |p::T,[],h=>by cases h
 |p::T,a::A,h=>by
  obtain⟨ak,at',an,ac⟩:=a;simp only[uA,aAn,aBt,aAW]at h;obtain⟨⟨h1,h2,h3⟩,h4⟩:=h;subst h1;subst h2;subst h3;unfold eD getM;by_cases e:p.1=v
  .grind
  .rw[aAa e,aAa (by grind)];exact uA.get h4
theorem uA.add{v:Int}{ds:List Int}(t:Nat):∀ {T:TL} {A:RM},uA T A->uA (oC v ds T) (mM [v] (t,(eD v T).length+ds.length,us (eD v T)++us ds) A)
 |[],[],_=>by simp[uA,oC,mM,eD]
 |[],a::A,h=>by cases h
 |p::T,[],h=>by cases h
 |p::T,a::A,h=>by
  obtain⟨ak,at',an,ac⟩:=a;simp only[uA,aAn,aBt,aAW]at h;obtain⟨⟨h1,h2,h3⟩,h4⟩:=h;subst h1;subst h2;subst h3;unfold eD oC mM;by_cases e:p.1=v
  .grind [uA]
  .rw[aAa e,aAa e,aAa (by grind)];have:=uA.add (v:=v) (ds:=ds) t (T:=T) (A:=A) h4
   grind [uA]
end Aw
namespace Aw
open Go Go.RowKit Pl Eu
def PF(F:List (List Int)):List (Int×Int):=F.flatMap prs
def Con(F:List (List Int)):Prop:=∀ R:(Int×Int)->(Int×Int)->Prop,(∀ p q,R p q->R q p)->(∀ p q r,R p q->R q r->R p r)->(∀ r∈F,∀ p∈prs r,∀ q∈prs r,R p q)->(∀ p∈PF F,R p p.swap)->∀ p∈PF F,∀ q∈PF F,R p q
structure Drn(E:List Ed)(h:Sh):Prop where
 nd:(PF h.F).Nodup
 mem:∀ u v,(u,v)∈PF h.F↔u≠v/\prP u v∈h.L
 lnd:h.L.Nodup
 sub:∀ p∈h.L,∃ e∈E,prE e=p
 on:∀ v,v∈h.on↔∃ u,u≠v/\prP u v∈h.L
 cnt:h.F.length+((vsF E).filter fun v=>decide (v∈h.on)).length=h.L.length+2
 con:Con h.F
 ne:∀ r∈h.F,r≠[]
theorem aL(u v:Int):prP u v=prP v u:=by unfold prP;rw[Int.min_comm,Int.max_comm]
theorem bK{u v x y:Int}(h:prP u v=prP x y):(u=x/\v=y)\/(u=y/\v=x):=by unfold prP at h;injection h with h1 h2;omega
theorem bE{F:List (List Int)}{p:Int×Int}:p∈PF F↔∃ r∈F,p∈prs r:=aBk
theorem sL:∀ {w:List Int} {v:Int},2<=w.length->v∈w->∃ u,(u,v)∈lnk w\/(v,u)∈lnk w
 |a::b::l,v,_,h=>by
  rcases aAe.1 h with rfl|h
  .exact⟨b,.inr (by simp[lnk])⟩
  .rcases aAe.1 h with rfl|h'
   .exact⟨a,.inl (by simp[lnk])⟩
   .have h2:2<=(b::l).length:=by have:=aDX h';simp;omega
    obtain⟨u,hu⟩:=sL (w:=b::l) h2 h;exact⟨u,hu.imp (fun k=>aAc _ k) fun k=>aAc _ k⟩
theorem iM{r:List Int}{v:Int}(h:v∈r):∃ u,(v,u)∈prs r:=by
 obtain⟨A,B,rfl⟩:=aBi h;unfold prs;cases A with
 |nil=>
  rw[List.nil_append,List.cons_append];cases B with
  |nil=>exact⟨v,by simp[lnk]⟩
  |cons b B=>exact⟨b,by simp[lnk]⟩
 |cons a A=>
  have e:(a::A++v::B)++(a::A++v::B).take 1=(a::A)++v::(B++[a]):=sS;rw[e,eX];cases B with
  |nil=>exact⟨a,aAx _ (by simp[lnk])⟩
  |cons b B=>exact⟨b,aAx _ (by simp[lnk])⟩
theorem oW{r:List Int}{x y:Int}(h:(x,y)∈prs r):x∈r/\y∈r:=by unfold prs at h;have:=bF h;rw[aAd,aAd]at this;exact⟨this.1.elim id aCi,this.2.elim id aCi⟩
theorem kI:∀(P L:List (Int×Int)),P.Nodup->(∀ p∈P,p∉L)->P.foldl Ie L=L++P
 |[],L,_,_=>by simp
 |p::P,L,hn,h=>by
  obtain⟨h1,h2⟩:=aAq.1 hn
  rw[List.foldl_cons,Ie,aAa (h p aAf),kI P (L++[p]) h2 fun q hq hm=>by
   rw[aAd,aAi]at hm;rcases hm with hm|rfl
   .exact h q (aAc _ hq) hm
   .exact h1 hq]
  simp
theorem fG{w:List Int}(h:w.Nodup):(iB w).Nodup:=by
 obtain⟨h1,h2⟩:=dF h;rw[eC,List.nodup_iff_pairwise_ne,aAU];refine h1.imp_of_mem fun {p q} hp hq Zy e=>?_;rcases bK e with⟨e1,e2⟩|⟨e1,e2⟩
 .exact Zy (aBU e1 e2)
 .exact(h2 p.1 p.2 hp).2 (by rw[e1,e2];exact hq)
theorem Hj{l M on w:List Int}(hl:l.Nodup)(hM:M.Nodup)(E5:∀ v∈M,v∈l)(hMo:∀ v∈M,v∉on)(hw:∀ v∈l,v∈w↔v∈M\/(v∈w/\v∈on)):(l.filter fun v=>decide (v∈on++w)).length=(l.filter fun v=>decide (v∈on)).length+M.length:=by
 have hp:(l.filter fun v=>decide (v∈on++w)).Perm ((l.filter fun v=>decide (v∈on))++M):=by
  refine(aBd (hl.sublist aBF) (aAo.2 ⟨hl.sublist aBF,hM,?_⟩)).2 fun v=>?_
  .rintro a ha b hb rfl;rw[aAC,aAT]at ha;exact hMo a hb ha.2
  .rw[aAC,aAT,aAd,aAd,aAC,aAT];constructor
   .rintro⟨h1,h2|h2⟩
    .exact .inl ⟨h1,h2⟩
    .rcases(hw v h1).1 h2 with h|h
     .exact .inr h
     .exact .inl ⟨h1,h.2⟩
   .rintro(⟨h1,h2⟩|h)
    .exact⟨h1,.inl h2⟩
    .exact⟨E5 v h,.inr ((hw v (E5 v h)).2 (.inl h))⟩
 have:=hp.length_eq
 rwa [aAm]at this
theorem mF{w:List Int}(hw:2<=w.length):w=w.getD 0 0::(dA w++[w.getD (w.length-1) 0]):=by
 have hl:w.length-1<w.length:=oO;have a1:w=w.getD 0 0::w.drop 1:=by
  cases w with
  |nil=>simp at hw
  |cons x w=>rfl
 have a2:w.drop 1=dA w++[w.getD (w.length-1) 0]:=by
  have e3:w.drop (w.length-1+1)=[]:=aCK oO;unfold dA
  conv=>lhs;rw[<- aAG (w.length-2) (w.drop 1)]
  rw[aCx,show 1+(w.length-2)=w.length-1 by omega,aAg,aAh hl,Option.getD_some,aAL hl,e3]
 rw[<- a2];exact a1
section
variable {E:List Ed} {h:Sh} (hD:Drn E h)
include hD
theorem Drn.ring_on{r:List Int}(hr:r∈h.F){v:Int}(hv:v∈r):v∈h.on:=by obtain⟨u,hu⟩:=iM hv;have:=(hD.mem v u).1 (bE.2 ⟨r,hr,hu⟩);exact(hD.on v).2 ⟨u,fun e=>this.1 e.symm,by rw[aL];exact this.2⟩
theorem Drn.on_vs{v:Int}(hv:v∈h.on):v∈vsF E:=by
 obtain⟨u,hu,hm⟩:=(hD.on v).1 hv;obtain⟨e,he,hp⟩:=hD.sub _ hm;rw[bG];rcases bK hp with⟨e1,e2⟩|⟨e1,e2⟩
 .exact⟨e,he,.inr e2.symm⟩
 .exact⟨e,he,.inl e1.symm⟩
theorem Drn.lay{w:List Int}{at':Nat}(O7:at' < h.F.length)(F0:2<=w.length)(hwn:w.Nodup)(h1:w.getD 0 0∈h.F.getD at' [])(h2:w.getD (w.length-1) 0∈h.F.getD at' [])(hm:∀ v∈dA w,v∉h.on)
 (hp:∀ x y,(x,y)∈lnk w->prP x y∉h.L/\∃ e∈E,prE e=prP x y):Drn E (gJ h w at'):=by
 have ews:=mF F0;have Zy:w.getD 0 0≠w.getD (w.length-1) 0:=fun e=>by rw[ews,e]at hwn;exact(aAq.1 hwn).1 sS
 obtain⟨a,b,ha,hb,q1,q2,q3⟩:=UD F0 Zy h1 h2;obtain⟨n1,n2⟩:=dF hwn;have hrin:h.F.getD at' []∈h.F:=by rw[aAg,aAh O7];exact aAz _
 have o1:=hD.ring_on hrin h1;have o2:=hD.ring_on hrin h2;have hFs:∃ F1 F2,h.F=F1++h.F.getD at' []::F2/\∀ r,h.F.set at' r=F1++r::F2:=by
  refine⟨h.F.take at',h.F.drop (at'+1),?_,fun r=>?_⟩
  .rw[aAg,aAh O7,Option.getD_some,<- aAL O7,aAG]
  .rw[aBK,aAk O7]
 obtain⟨F1,F2,f1,f2⟩:=hFs;have hlen:(gJ h w at').F.length=h.F.length+1:=by simp[gJ]
 have hF:(gJ h w at').F=(h.F.set at' (iS (h.F.getD at' []) ((h.F.getD at' []).idxOf (w.getD 0 0)) ((h.F.getD at' []).idxOf (w.getD (w.length-1) 0))++(dA w).reverse))++[iS (h.F.getD at' []) ((h.F.getD at' []).idxOf (w.getD (w.length-1) 0)) ((h.F.getD at' []).idxOf (w.getD 0 0))++dA w]:=rfl;rw[f2]at hF;have hL:(gJ h w at').L=h.L++iB w:=by
  have:(gJ h w at').L=jV h.L w:=rfl;rw[this];exact kI _ _ (fG hwn) fun p X7=>by rw[eC]at X7;obtain⟨q,hq,rfl⟩:=aAj.1 X7;exact(hp q.1 q.2 hq).1
 have hOn:(gJ h w at').on=h.on++w:=rfl;generalize gJ h w at'=h' at *;generalize iS (h.F.getD at' []) ((h.F.getD at' []).idxOf (w.getD 0 0)) ((h.F.getD at' []).idxOf (w.getD (w.length-1) 0))++(dA w).reverse=r1 at *;generalize iS (h.F.getD at' []) ((h.F.getD at' []).idxOf (w.getD (w.length-1) 0)) ((h.F.getD at' []).idxOf (w.getD 0 0))++dA w=r2 at *;generalize h.F.getD at' []=r at *;have hPF:(PF h'.F).Perm (PF h.F++(lnk w++lnk w.reverse)):=by
  rw[hF,f1];unfold PF;simp only[aCA,aAJ,aCS,aBc];rw[q2,q3];have e1:(List.flatMap prs F1++(a++lnk w.reverse++List.flatMap prs F2)++(b++lnk w)).Perm (List.flatMap prs F1++((a++b)++List.flatMap prs F2)++(lnk w++lnk w.reverse)):=by rw[aEt];intro x;simp only[List.count_append];omega
  refine e1.trans ?_;exact(((q1.symm.append_right _).append_left _).append_right _)
 have X8:∀ u v,prP u v∈iB w↔(u,v)∈lnk w\/(v,u)∈lnk w:=fun u v=>by
  rw[eC,aAj];constructor
  .rintro⟨q,hq,e⟩;rcases bK e with⟨e1,e2⟩|⟨e1,e2⟩
   .left;rw[<- e1,<- e2];exact hq
   .right;rw[<- e1,<- e2];exact hq
  .rintro(k|k)
   .exact⟨_,k,rfl⟩
   .exact⟨_,k,aL _ _⟩
 have hrev:∀ u v,(u,v)∈lnk w.reverse↔(v,u)∈lnk w:=fun u v=>by
  rw[(nS w).mem_iff,aAj];constructor
  .rintro⟨q,hq,e⟩;have:q=(v,u):=by rw[<- aBJ q,e];rfl
   rw[<- this];exact hq
  .intro k;exact⟨_,k,rfl⟩
 have E7:∀ u v,(u,v)∈PF h'.F↔u≠v/\prP u v∈h'.L:=fun u v=>by
  rw[hPF.mem_iff,aAd,aAd,hD.mem,hrev,hL,aAd,X8];constructor
  .rintro(⟨k1,k2⟩|k|k)
   .exact⟨k1,.inl k2⟩
   .exact⟨(n2 _ _ k).1,.inr (.inl k)⟩
   .exact⟨fun e=>(n2 _ _ k).1 e.symm,.inr (.inr k)⟩
  .rintro⟨k1,k2|k|k⟩
   .exact .inl ⟨k1,k2⟩
   .exact .inr (.inl k)
   .exact .inr (.inr k)
 have hmid:∀ v∈w,v∈dA w\/v∈h.on:=fun v hv=>by
  rw[ews]at hv;rcases aAe.1 hv with e|hv
  .exact .inr (by rw[e];exact o1)
  .rcases aAd.1 hv with hv|hv
   .exact .inl hv
   .exact .inr (by rw[aAi.1 hv];exact o2)
 refine⟨?_,E7,?_,?_,?_,?_,?_,?_⟩
 .refine hPF.nodup_iff.2 (aAo.2 ⟨hD.nd,aAo.2 ⟨n1,(dF ((aBo w).nodup_iff.2 hwn)).1,?_⟩,?_⟩)
  .rintro⟨x,y⟩ hx _ hy rfl;exact(n2 x y hx).2 ((hrev _ _).1 hy)
  .rintro⟨x,y⟩ hx _ hy rfl;have k:=((hD.mem x y).1 hx).2;rcases aAd.1 hy with hy|hy
   .exact(hp x y hy).1 k
   .exact(hp y x ((hrev _ _).1 hy)).1 (by rw[aL];exact k)
 .rw[hL];refine aAo.2 ⟨hD.lnd,fG hwn,?_⟩;rintro p M7 _ R6 rfl;rw[eC]at R6;obtain⟨q,hq,rfl⟩:=aAj.1 R6;exact(hp q.1 q.2 hq).1 M7
 .intro p r9;rw[hL]at r9;rcases aAd.1 r9 with k|k
  .exact hD.sub p k
  .rw[eC]at k;obtain⟨q,hq,rfl⟩:=aAj.1 k;exact(hp q.1 q.2 hq).2
 .intro v;rw[hOn,aAd,hD.on,hL];constructor
  .rintro(⟨u,k1,k2⟩|k)
   .exact⟨u,k1,aAr _ k2⟩
   .obtain⟨u,k|k⟩:=sL F0 k
    .exact⟨u,(n2 _ _ k).1,aAx _ ((X8 u v).2 (.inl k))⟩
    .exact⟨u,fun e=>(n2 _ _ k).1 e.symm,aAx _ ((X8 u v).2 (.inr k))⟩
  .rintro⟨u,k1,k2⟩;rcases aAd.1 k2 with k|k
   .exact .inl ⟨u,k1,k⟩
   .right;rcases(X8 u v).1 k with k|k
    .exact(bF k).2
    .exact(bF k).1
 .have hmn:(dA w).Nodup:=by rw[ews]at hwn;exact(aAo.1 (aAq.1 hwn).2).1
  have hvw:∀ v∈w,v∈vsF E:=fun v hv=>by
   obtain⟨u,k|k⟩:=sL F0 hv
   .obtain⟨e,he,N9⟩:=(hp _ _ k).2;rw[bG];rcases bK N9 with⟨e1,e2⟩|⟨e1,e2⟩
    .exact⟨e,he,.inr e2.symm⟩
    .exact⟨e,he,.inl e1.symm⟩
   .obtain⟨e,he,N9⟩:=(hp _ _ k).2;rw[bG];rcases bK N9 with⟨e1,e2⟩|⟨e1,e2⟩
    .exact⟨e,he,.inl e1.symm⟩
    .exact⟨e,he,.inr e2.symm⟩
  have hc:=Hj (l:=vsF E) (M:=dA w) (on:=h.on) (w:=w) ((mC E).imp fun k=>by omega) hmn (fun v hv=>hvw v (mG hv)) hm fun v _=>⟨fun k=>(hmid v k).imp id fun k2=>⟨k,k2⟩,fun k=>k.elim mG And.left⟩;have J4:=tL w;have Z3:=hD.cnt;have hwl:=mT w;rw[hlen,hOn,hL,aAm,hc];omega
 ·
  intro R hs ht hr H6;have m1:∀ p∈prs r1,p∈PF h'.F:=fun p k=>bE.2 ⟨r1,by rw[hF];simp,k⟩;have m2:∀ p∈prs r2,p∈PF h'.F:=fun p k=>bE.2 ⟨r2,by rw[hF];simp,k⟩;have w1:=hr r1 (by rw[hF];simp);have w2:=hr r2 (by rw[hF];simp);obtain⟨x0,y0,D4⟩:∃ x y,(x,y)∈lnk w:=by
   obtain⟨u,k|k⟩:=sL F0 (v:=w.getD 0 0) (by rw[aAg,aAh (by omega:0<w.length)];exact aAz _)
   .exact⟨_,_,k⟩
   .exact⟨_,_,k⟩
  have c2:(x0,y0)∈prs r2:=by rw[q3];exact aAx _ D4
  have c1:(y0,x0)∈prs r1:=by rw[q2];exact aAx _ ((hrev _ _).2 D4)
  have cc:R (x0,y0) (y0,x0):=H6 _ (m2 _ c2);have both:∀ p,p∈prs r1\/p∈prs r2->R p (x0,y0):=by
   rintro p (k|k)
   .exact ht _ _ _ (w1 p k _ c1) (hs _ _ cc)
   .exact w2 p k _ c2
  have x7:∀ p∈prs r,p∈prs r1\/p∈prs r2:=fun p k=>by
   rcases aAd.1 (q1.mem_iff.1 k)with k|k
   .left;rw[q2];exact aAr _ k
   .right;rw[q3];exact aAr _ k
  have old:∀ p∈PF h.F,∀ q∈PF h.F,R p q:=by
   refine hD.con R hs ht (fun t htF p O1 q hq'=>?_) fun p O1=>H6 p (hPF.mem_iff.2 (aAr _ O1));rw[f1]at htF;rcases aAd.1 htF with k|k
   .exact hr t (by rw[hF];simp[k]) p O1 q hq'
   .rcases aAe.1 k with e|k
    .subst e;exact ht _ _ _ (both p (x7 p O1)) (hs _ _ (both q (x7 q hq')))
    .exact hr t (by rw[hF];simp[k]) p O1 q hq'
  obtain⟨p0,hp0⟩:=aAS a ha;have k0:p0∈prs r:=q1.mem_iff.2 (aAr _ hp0);have k1:p0∈PF h.F:=bE.2 ⟨r,hrin,k0⟩;have z:R p0 (x0,y0):=both p0 (x7 p0 k0);have all:∀ p∈PF h'.F,R p (x0,y0):=fun p X7=>by
   rcases aAd.1 (hPF.mem_iff.1 X7)with k|k
   .exact ht _ _ _ (old p k p0 k1) z
   .refine both p ?_;rcases aAd.1 k with k|k
    .right;rw[q3];exact aAx _ k
    .left;rw[q2];exact aAx _ k
  exact fun p O1 q hq'=>ht _ _ _ (all p O1) (hs _ _ (all q hq'))
 .intro t ht;rw[hF]at ht;have nil:prs []=[]:=rfl;rcases aAd.1 ht with k|k
  .rcases aAd.1 k with k|k
   .exact hD.ne t (by rw[f1];simp[k])
   .rcases aAe.1 k with e|k
    .rintro e0;rw[<- e,e0,nil]at q2;exact ha (aDY.1 q2.symm).1
    .exact hD.ne t (by rw[f1];simp[k])
  .rw[aAi]at k;rintro e0;rw[<- k,e0,nil]at q3;exact hb (aDY.1 q3.symm).1
end
abbrev kA(A:Led)(k:Nat):Int:=(A.getD k (0,0)).1
abbrev pA(A:Led)(k:Nat):Int:=(A.getD k (0,0)).2
theorem vR{A B:Led}{k:Nat}(h:k<A.length):(A++B).getD k (0,0)=A.getD k (0,0):=by rw[aAg,aAY h,<- aAg]
theorem QF{A:Led}{v:Int}(h:v∈A.map (·.1)):∃ k,k<A.length/\kA A k=v:=by obtain⟨p,hp,rfl⟩:=aAj.1 h;obtain⟨k,hk,rfl⟩:=aAA hp;exact⟨k,hk,by unfold kA;rw[aAg,aAh hk];rfl⟩
section
variable {near:Int->List Int} {may:Int->Bool} {Qv to:Int} {vs:List Int}
structure LA(near:Int->List Int)(may:Int->Bool)(Qv:Int)(A:Led):Prop where
 nd:(A.map (·.1)).Nodup
 pos:0<A.length
 hd:kA A 0=Qv
 par:∀ k,0<k->k<A.length->∃ j,j<k/\kA A j=pA A k/\kA A k∈near (pA A k)/\(pA A k=Qv\/may (pA A k)=true)
theorem LA.snoc{A:Led}(h:LA near may Qv A){w v:Int}(hw:w∉A.map (·.1))(hv:v∈A.map (·.1))(hn:w∈near v)(hm:v=Qv\/may v=true):LA near may Qv (A++[(w,v)]):=by
 refine⟨?_,sS,?_,fun k h0 hk=>?_⟩
 .rw[aAu,aAo];exact⟨h.nd,sS,fun a ha b hb e=>hw (by rw[List.map_singleton,aAi]at hb;have hb':b=w:=hb;rw[<- hb',<- e];exact ha)⟩
 .show((A++[(w,v)]).getD 0 (0,0)).1=Qv;rw[vR h.pos];exact h.hd
 .rw[aAm,List.length_singleton]at hk;by_cases hl:k<A.length
  .obtain⟨j,h1,h2,h3,h4⟩:=h.par k h0 hl;refine⟨j,h1,?_,?_,?_⟩
   .show((A++[(w,v)]).getD j (0,0)).1=((A++[(w,v)]).getD k (0,0)).2;rw[vR hl,vR oO];exact h2
   .show((A++[(w,v)]).getD k (0,0)).1∈near ((A++[(w,v)]).getD k (0,0)).2;rw[vR hl];exact h3
   .show((A++[(w,v)]).getD k (0,0)).2=Qv\/may ((A++[(w,v)]).getD k (0,0)).2=true;rw[vR hl];exact h4
  .have e:k=A.length:=oO;have g:(A++[(w,v)]).getD k (0,0)=(w,v):=by rw[e];simp
   obtain⟨j,hj,hjv⟩:=QF hv;refine⟨j,oO,?_,?_,?_⟩
   .show((A++[(w,v)]).getD j (0,0)).1=((A++[(w,v)]).getD k (0,0)).2;rw[vR hj,g];exact hjv
   .show((A++[(w,v)]).getD k (0,0)).1∈near ((A++[(w,v)]).getD k (0,0)).2;rw[g];exact hn
   .show((A++[(w,v)]).getD k (0,0)).2=Qv\/may ((A++[(w,v)]).getD k (0,0)).2=true;rw[g];exact hm
theorem Eb{v:Int}(hm:v=Qv\/may v=true):∀(row:List Int) (A:Led) (Q:List Int),LA near may Qv A->v∈A.map (·.1)->to∉A.map (·.1)->(∀ u∈row,u∈near v)->
 ∃ D Q' hit,dO may to v ⟨A,Q,false⟩ row=⟨A++D,Q++Q',hit⟩/\LA near may Qv (A++D)/\(∀ p∈D,p.1∈row)/\(hit=true->to∈D.map (·.1))/\
  (hit=false->to∉(A++D).map (·.1)/\(∀ u∈row,u∈(A++D).map (·.1))/\(∀ u∈D.map (·.1),may u=true->u∈Q')/\(∀ q∈Q',q∈D.map (·.1)/\may q=true)/\Q'.length<=D.length)
 |[],A,Q,hA,_,ht,_=>⟨[],[],false,by simp[dO],by simpa using hA,sS,sS,by simpa using ht⟩
 |u::row,A,Q,hA,hv,ht,hr=>by
  have M5:∀ x∈row,x∈near v:=fun x hx=>hr x (aAc _ hx);have e0:dO may to v ⟨A,Q,false⟩ (u::row)=dO may to v (gA may to v ⟨A,Q,false⟩ u) row:=rfl;by_cases hu:u∈A.map (·.1)
  .have e1:gA may to v ⟨A,Q,false⟩ u=⟨A,Q,false⟩:=by simp only[gA];rw[aAa sS,aAk hu]
   obtain⟨D,Q',hit,h1,h2,h3,h4,h5⟩:=Eb hm row A Q hA hv ht M5;refine⟨D,Q',hit,by rw[e0,e1];exact h1,h2,fun p hp=>aAc _ (h3 p hp),h4,fun h=>?_⟩;obtain⟨k1,k2,k3⟩:=h5 h;refine⟨k1,fun x hx=>?_,k3⟩;rcases aAe.1 hx with rfl|hx
   .rw[aAu];exact aAr _ hu
   .exact k2 x hx
  .have hA':=hA.snoc hu hv (hr u aAf) hm;by_cases hut:u=to
   .have e1:gA may to v ⟨A,Q,false⟩ u=⟨A++[(u,v)],Q,true⟩:=by simp only[gA];rw[aAa sS,aAa hu,aAk hut]
    refine⟨[(u,v)],[],true,?_,hA',sS,sF1 hut,sS⟩;rw[e0,e1,DU _ _ _ rfl,aBc]
   .have e1:gA may to v ⟨A,Q,false⟩ u=⟨A++[(u,v)],if may u=true then Q++[u]else Q,false⟩:=by simp only[gA];rw[aAa sS,aAa hu,aAa hut]
    have e2:(if may u=true then Q++[u]else Q)=Q++if may u=true then [u]else []:=by split<;>simp
    obtain⟨D,Q',hit,h1,h2,h3,h4,h5⟩:=Eb hm row (A++[(u,v)]) (Q++if may u=true then [u]else []) hA' (by rw[aAu];exact aAr _ hv) (by
     rw[aAu,aAd];rintro(k|k)
     .exact ht k
     .simp at k;exact hut k.symm) M5
    refine⟨(u,v)::D,(if may u=true then [u]else [])++Q',hit,?_,by simpa using h2,?_,fun h=>?_,fun h=>?_⟩
    .rw[e0,e1,e2,h1];simp
    .intro p hp;rcases aAe.1 hp with rfl|hp
     .exact aAf
     .exact aAc _ (h3 p hp)
    .rw[aAn];exact aAc _ (h4 h)
    .obtain⟨k1,k2,k3,k4,k5⟩:=h5 h;have el:A++(u,v)::D=A++[(u,v)]++D:=sS;rw[el];refine⟨k1,fun x hx=>?_,fun x hx hmx=>?_,fun q hq=>?_,?_⟩
     .rcases aAe.1 hx with rfl|hx
      .simp
      .exact k2 x hx
     .rw[aAn]at hx;rcases aAe.1 hx with e|hx
      .subst e;rw[aAk hmx];simp
      .exact aAx _ (k3 x hx hmx)
     .rw[aAn];rcases aAd.1 hq with hq|hq
      .split at hq
       .rename_i hmu;rw[aAi]at hq;subst hq;exact⟨aAf,hmu⟩
       .cases hq
      .exact⟨aAc _ (k4 q hq).1,(k4 q hq).2⟩
     .rw[aAm,List.length_cons]
      split
      .simp;omega
      .simp;omega
def VZ(near:Int->List Int)(may:Int->Bool)(Qv:Int)(S:Int->Prop):Prop:=S Qv/\∀ v,S v->(v=Qv\/may v=true)->∀ w∈near v,S w
theorem SL(Z8:∀ v,∀ w∈near v,w∈vs):∀(n:Nat) (A:Led) (Q:List Int),LA near may Qv A->to∉A.map (·.1)->(∀ v∈A.map (·.1),v∈vs)->(∀ q∈Q,q∈A.map (·.1)/\(q=Qv\/may q=true))->
 (∀ v∈A.map (·.1),v∉Q->(v=Qv\/may v=true)->∀ w∈near v,w∈A.map (·.1))->Q.length+vs.length<=n+A.length->
 (∃ A',bfs near may to n A Q=some (some A')/\LA near may Qv A'/\to∈A'.map (·.1)/\∀ v∈A'.map (·.1),v∈vs)\/∃ S,VZ near may Qv S/\¬S to
 |n,A,[],hA,ht,_,_,hc,_=>.inr ⟨fun v=>v∈A.map (·.1),⟨by
   have:=hA.hd;rw[<- this];unfold kA;rw[aAg,aAh hA.pos]
   exact aAw (aAz _),fun v hv hm w hw=>hc v hv sS hm w hw⟩,ht⟩
 |0,A,v::Q,hA,_,hs,_,_,hl=>by have:=aAy hA.nd hs;rw[aAD]at this;rw[List.length_cons]at hl;omega
 |n+1,A,v::Q,hA,ht,hs,hq,hc,hl=>by
  obtain⟨hv,hm⟩:=hq v aAf;obtain⟨D,Q',hit,h1,h2,h3,h4,h5⟩:=Eb (to:=to) hm (near v) A Q hA hv ht fun _ h=>h;have W2:∀ x∈(A++D).map (·.1),x∈vs:=fun x hx=>by
   rw[aAu]at hx;rcases aAd.1 hx with hx|hx
   .exact hs x hx
   .obtain⟨p,hp,rfl⟩:=aAj.1 hx;exact Z8 _ _ (h3 p hp)
  simp only[bfs,h1];cases hit with
  |true=>exact .inl ⟨_,sS,h2,by rw[aAu];exact aAx _ (h4 rfl),W2⟩
  |false=>
   obtain⟨k1,k2,k3,k4,k5⟩:=h5 rfl;rw[aAa sS];refine SL Z8 n (A++D) (Q++Q') h2 k1 W2 (fun q hqm=>?_) (fun u hu hnq hmu w hw=>?_) ?_
   .rw[aAu];rcases aAd.1 hqm with h|h
    .have:=hq q (aAc _ h);exact⟨aAr _ this.1,this.2⟩
    .exact⟨aAx _ (k4 q h).1,.inr (k4 q h).2⟩
   .rw[aAd,aCp]at hnq;by_cases huA:u∈A.map (·.1)
    .by_cases e:u=v
     .subst e;exact k2 w hw
     .rw[aAu];exact aAr _ (hc u huA (by rw[aAe,aCp];exact⟨e,hnq.1⟩) hmu w hw)
    .rw[aAu]at hu;have hD:=(aAd.1 hu).resolve_left huA;rcases hmu with e|hmu
     .exfalso;apply huA;rw[e,<- hA.hd];unfold kA;rw[aAg,aAh hA.pos];exact aAw (aAz _)
     .exact absurd (k3 u hD hmu) hnq.2
   .simp only[aAm,List.length_cons]at hl ⊢;omega
theorem Qr:∀ {A:Led},(A.map (·.1)).Nodup->∀ {k:Nat},k<A.length->jS A (kA A k)=some (pA A k)
 |a::A,hn,0,_=>by simp[jS,kA,pA]
 |a::A,hn,k+1,h=>by
  rw[aAn,aAq]at hn;have ih:=Qr hn.2 (k:=k) (by simpa using h)
  have Zy:kA A k≠a.1:=fun e=>hn.1 (by
   rw[<- e];unfold kA;rw[aAg,aAh (by simpa using h)]
   exact aAw (aAz _))
  show jS (a::A) (kA A k)=some (pA A k);unfold jS;rw[aAa Zy];exact ih
theorem To{A:Led}(hA:LA near may Qv A):∀(n k:Nat),k<A.length->k<=n->∃ l,iF A Qv n (kA A k)=some l/\(kA A k::l).getLast (by simp)=Qv/\(∀ x y,(x,y)∈lnk (kA A k::l)->x∈near y/\(y=Qv\/may y=true))/\
 (∀ y∈l,∃ j,j<k/\kA A j=y)/\(kA A k::l).Nodup:=by
 have hinj:∀ i j,i<A.length->j<A.length->kA A i=kA A j->i=j:=fun i j hi hj e=>by
  have e1:(A.map (·.1))[i]'(by simpa using hi)=(A.map (·.1))[j]'(by simpa using hj):=by unfold kA at e;rw[aAg,aAh hi,aAg,aAh hj]at e;simpa using e
  exact get_inj hA.nd _ _ e1
 have base:∀ n k,k<A.length->kA A k=Qv->∃ l,iF A Qv n (kA A k)=some l/\(kA A k::l).getLast (by simp)=Qv/\(∀ x y,(x,y)∈lnk (kA A k::l)->x∈near y/\(y=Qv\/may y=true))/\(∀ y∈l,∃ j,j<k/\kA A j=y)/\(kA A k::l).Nodup:=fun n k hk e=>by refine⟨[],?_,by simpa using e,fun x y h=>by simp[lnk]at h,sS,sS⟩;cases n<;>simp[iF,e]
 intro n;induction n with
 |zero=>intro k hk hkn;have:k=0:=oO;subst this;exact base 0 0 hk hA.hd
 |succ n ih=>
  intro k hk hkn;by_cases e:kA A k=Qv
  .exact base _ _ hk e
  have h0:0<k:=by
   rcases aCs k with h|h
   .subst h;exact absurd hA.hd e
   .exact h
  obtain⟨j,j1,j2,j3,j4⟩:=hA.par k h0 hk;obtain⟨l,l1,l2,l3,l4,l5⟩:=ih j oO oO;have hb:iF A Qv (n+1) (kA A k)=some (kA A j::l):=by rw[iF,aAa e,Qr hA.nd hk];show(iF A Qv n (pA A k)).map _=_;rw[<- j2,l1];rfl
  refine⟨kA A j::l,hb,?_,fun x y h=>?_,fun y hy=>?_,?_⟩
  .rw[List.getLast_cons sS];exact l2
  .rcases aAe.1 h with h|h
   .injection h with e1 e2;subst e1;subst e2;rw[j2];exact⟨j3,j4⟩
   .exact l3 x y h
  .rcases aAe.1 hy with rfl|hy
   .exact⟨j,j1,rfl⟩
   .obtain⟨i,i1,i2⟩:=l4 y hy;exact⟨i,oO,i2⟩
  .refine aAq.2 ⟨fun hm=>?_,l5⟩;rcases aAe.1 hm with h|h
   .have:=hinj k j hk oO h;omega
   .obtain⟨i,i1,i2⟩:=l4 _ h;have:=hinj i k oO hk i2;omega
theorem LU:∀ {l:List Int} {a y:Int},y∈l->∃ x,(x,y)∈lnk (a::l)
 |b::l,a,y,h=>by
  rcases aAe.1 h with rfl|h
  .exact⟨a,by simp[lnk]⟩
  .obtain⟨x,hx⟩:=LU (a:=b) h;exact⟨x,aAc _ hx⟩
theorem LI(Z8:∀ v,∀ w∈near v,w∈vs)(hf:Qv∈vs)(ht:to∈vs)(Zy:Qv≠to){n:Nat}(hn:vs.length+1<=n)(hr:∀ S,VZ near may Qv S->S to):
 ∃ w,tM vs near may Qv to n=some w/\w.Nodup/\2<=w.length/\w.length<=vs.length/\(∀ v∈w,v∈vs)/\w.getD 0 0=Qv/\w.getD (w.length-1) 0=to/\(∀ x y,(x,y)∈lnk w->y∈near x)/\∀ v∈dA w,may v=true:=by
 have hA0:LA near may Qv [(Qv,Qv)]:=⟨sS,sS,rfl,fun k h0 hk=>by simp at hk;omega⟩;rcases SL (may:=may) (to:=to) Z8 n [(Qv,Qv)] [Qv] hA0 (by simpa using fun e=>Zy e.symm) (by simpa using hf) sS (fun v hv hnq=>by simp at hv;exact absurd (sF1 hv) hnq) (by simp;omega)with⟨A,h1,hA,h2,h3⟩|⟨S,h1,h2⟩;rotate_left
 .exact absurd (hr S h1) h2
 obtain⟨k,hk,hkt⟩:=QF h2;have hl:A.length<=vs.length:=by
  have:=aAy hA.nd h3
  rwa [aAD]at this
 obtain⟨l,l1,l2,l3,l4,l5⟩:=To hA n k hk oO;rw[hkt]at l1 l2 l3 l5;have c8:∀ v∈to::l,v∈vs:=fun v hv=>by
  rcases aAe.1 hv with rfl|hv
  .exact ht
  .obtain⟨j,j1,rfl⟩:=l4 v hv;refine h3 _ ?_;unfold kA;rw[aAg,aAh oO];exact aAw (aAz _)
 have hlne:l≠[]:=by rintro rfl;simp at l2;exact Zy l2.symm
 have hw:tM vs near may Qv to n=some (to::l).reverse:=by unfold tM;rw[aAa (by simp[hf,ht]),aAa Zy,h1];show(iF A Qv n to).map _=_;rw[l1];rfl
 have hnd:((to::l).reverse).Nodup:=(aBo _).nodup_iff.2 l5;have hlen:2<=((to::l).reverse).length:=by have:=aBm.2 hlne;rw[aEu,List.length_cons];omega
 have g0:((to::l).reverse).getD 0 0=Qv:=by
  have e:(to::l)=(to::l).dropLast++[Qv]:=by rw[<- l2,aBZ]
  rw[e,aCo];rfl
 have g1:((to::l).reverse).getD (((to::l).reverse).length-1) 0=to:=by rw[aEu,List.length_cons,aCG,aCL,aAg,aBz sS];simp
 refine⟨_,hw,hnd,hlen,?_,fun v hv=>c8 v (aBh.1 hv),g0,g1,fun x y h=>?_,fun v hv=>?_⟩
 .exact aAy hnd fun v hv=>c8 v (aBh.1 hv)
 .rw[(nS _).mem_iff,aAj]at h;obtain⟨q,hq,e⟩:=h;have:q=(y,x):=by rw[<- aBJ q,e];rfl
  rw[this]at hq;exact(l3 y x hq).1
 .have hs:=mF hlen;rw[g0,g1]at hs;have hv2:=mG hv;have U9:v∈to::l:=aBh.1 hv2;rw[hs]at hnd;have n1:v≠Qv:=fun e=>(aAq.1 hnd).1 (by rw[<- e];exact aAr _ hv);have n2:v≠to:=fun e=>(aAo.1 (aAq.1 hnd).2).2.2 v hv to sS e;have hv3:v∈l:=(aAe.1 U9).resolve_left n2;obtain⟨x,hx⟩:=LU (a:=to) hv3;exact(l3 x v hx).2.resolve_left n1
end
theorem BH(a b:Int)(M:List Int):prs (a::(M++[b]))=lnk (a::(M++[b]))++[(b,a)]:=by
 have e:prs (a::(M++[b]))=lnk ((a::M)++b::[a]):=by unfold prs;simp
 rw[e,eX];rfl
theorem UO{a b m:Int}{M:List Int}(hn:(a::(m::M++[b])).Nodup):(a,b)∉lnk (a::(m::M++[b]))/\(b,a)∉lnk (a::(m::M++[b])):=by
 obtain⟨h1,h2⟩:=aAq.1 hn;have hb:b∈m::M++[b]:=sS;have V3:m≠b:=fun e=>(aAq.1 h2).1 (by rw[e];simp);have e:lnk (a::(m::M++[b]))=(a,m)::lnk (m::M++[b]):=rfl;rw[e];constructor
 .intro h;rcases aAe.1 h with h|h
  .injection h with _ h;exact V3 h.symm
  .exact h1 (bF h).1
 .intro h;rcases aAe.1 h with h|h
  .injection h with h _;exact h1 (by rw[<- h];exact hb)
  .exact h1 (bF h).2
theorem Drn.start{E:List Ed}{x:Ed}{m:Int}{M ring:List Int}(hx:x∈E)(hr:ring=x.a::(m::M++[x.b]))(hn:ring.Nodup)(hp:∀ u v,(u,v)∈lnk ring->∃ e∈E,prE e=prP u v):
 Drn E ⟨jV (jV [] ring) [x.a,x.b],ring++[x.a,x.b],[ring,ring.reverse]⟩:=by
 obtain⟨n1,n2⟩:=dF hn;have x9:=UO (by rw[<- hr];exact hn);rw[<- hr]at x9;have x7:x.a≠x.b:=fun e=>by rw[hr]at hn;exact(aAq.1 hn).1 (by rw[e];simp)
 have pr1:prs ring=lnk ring++[(x.b,x.a)]:=by
  have:=BH x.a x.b (m::M)
  rwa [<- hr]at this
 have pr2:prs ring.reverse=lnk ring.reverse++[(x.a,x.b)]:=by
  have e:ring.reverse=x.b::((m::M).reverse++[x.a]):=by rw[hr];simp
  rw[e];exact BH _ _ _
 have X8:∀ u v,prP u v∈iB ring↔(u,v)∈lnk ring\/(v,u)∈lnk ring:=fun u v=>by
  rw[eC,aAj];constructor
  .rintro⟨q,hq,e⟩;rcases bK e with⟨e1,e2⟩|⟨e1,e2⟩
   .left;rw[<- e1,<- e2];exact hq
   .right;rw[<- e1,<- e2];exact hq
  .rintro(k|k)
   .exact⟨_,k,rfl⟩
   .exact⟨_,k,aL _ _⟩
 have hrev:∀ u v,(u,v)∈lnk ring.reverse↔(v,u)∈lnk ring:=fun u v=>by
  rw[(nS ring).mem_iff,aAj];constructor
  .rintro⟨q,hq,e⟩;have:q=(v,u):=by rw[<- aBJ q,e];rfl
   rw[<- this];exact hq
  .intro k;exact⟨_,k,rfl⟩
 have hL:jV (jV [] ring) [x.a,x.b]=iB ring++[prP x.a x.b]:=by
  have e1:jV [] ring=iB ring:=by
   have:=kI (iB ring) [] (fG hn) fun p _ h=>by cases h
   rw[List.nil_append]at this;exact this
  rw[e1];exact kI [prP x.a x.b] (iB ring) sS fun p M7 R6=>by rw[aAi]at M7;subst M7;exact((X8 _ _).1 R6).elim x9.1 x9.2
 have F0:2<=ring.length:=by rw[hr];simp
 have ha:x.a∈ring:=by rw[hr];simp
 have hb:x.b∈ring:=by rw[hr];simp
 have hPF:PF [ring,ring.reverse]=(lnk ring++[(x.b,x.a)])++(lnk ring.reverse++[(x.a,x.b)]):=by simp[PF,pr1,pr2]
 rw[hL];refine⟨?_,fun u v=>?_,?_,?_,fun v=>?_,?_,?_,?_⟩
 .show(PF [ring,ring.reverse]).Nodup;rw[hPF];have n3:=(dF ((aBo ring).nodup_iff.2 hn)).1;refine aAo.2 ⟨aAo.2 ⟨n1,sS,?_⟩,aAo.2 ⟨n3,sS,?_⟩,?_⟩
  .rintro p M7 q hq rfl;rw[aAi]at hq;subst hq;exact x9.2 M7
  .rintro p M7 q hq rfl;rw[aAi]at hq;subst hq;exact x9.2 ((hrev _ _).1 M7)
  .rintro⟨u,v⟩ M7 q hq rfl;rcases aAd.1 M7 with k|k
   .rcases aAd.1 hq with k2|k2
    .exact(n2 u v k).2 ((hrev _ _).1 k2)
    .rw[aAi]at k2;injection k2 with e1 e2;subst e1;subst e2;exact x9.1 k
   .rw[aAi]at k;injection k with e1 e2;subst e1;subst e2;rcases aAd.1 hq with k2|k2
    .exact x9.1 ((hrev _ _).1 k2)
    .rw[aAi]at k2;injection k2 with e1 e2;exact x7 e2
 .show(u,v)∈PF [ring,ring.reverse]↔u≠v/\prP u v∈iB ring++[prP x.a x.b];rw[hPF];simp only[aAd,aAi,hrev,X8,aAW];constructor
  .rintro((k|⟨rfl,rfl⟩)|k|⟨rfl,rfl⟩)
   .exact⟨(n2 _ _ k).1,.inl (.inl k)⟩
   .exact⟨fun e=>x7 e.symm,.inr (aL _ _)⟩
   .exact⟨fun e=>(n2 _ _ k).1 e.symm,.inl (.inr k)⟩
   .exact⟨x7,.inr rfl⟩
  .rintro⟨_,(k|k)|k⟩
   .exact .inl (.inl k)
   .exact .inr (.inl k)
   .rcases bK k with⟨e1,e2⟩|⟨e1,e2⟩
    .exact .inr (.inr ⟨e1,e2⟩)
    .exact .inl (.inr ⟨e1,e2⟩)
 .refine aAo.2 ⟨fG hn,sS,?_⟩;rintro p M7 q hq rfl;rw[aAi]at hq;subst hq;exact((X8 _ _).1 M7).elim x9.1 x9.2
 .intro p r9;rcases aAd.1 r9 with k|k
  .rw[eC]at k;obtain⟨q,hq,rfl⟩:=aAj.1 k;exact hp _ _ hq
  .exact⟨x,hx,(aAi.1 k).symm⟩
 .show v∈ring++[x.a,x.b]↔∃ u,u≠v/\prP u v∈iB ring++[prP x.a x.b];have e:v∈ring++[x.a,x.b]↔v∈ring:=by
   simp only[aAd,aAe,aBV,aDq];constructor
   .rintro(k|rfl|rfl)
    .exact k
    .exact ha
    .exact hb
   .exact .inl
  rw[e];constructor
  .intro k;obtain⟨u,k|k⟩:=sL F0 k
   .exact⟨u,(n2 _ _ k).1,aAr _ ((X8 u v).2 (.inl k))⟩
   .exact⟨u,fun e=>(n2 _ _ k).1 e.symm,aAr _ ((X8 u v).2 (.inr k))⟩
  .rintro⟨u,k1,k2⟩;rcases aAd.1 k2 with k|k
   .rcases(X8 u v).1 k with k|k
    .exact(bF k).2
    .exact(bF k).1
   .rcases bK (aAi.1 k)with⟨e1,e2⟩|⟨e1,e2⟩
    .rw[e2];exact hb
    .rw[e2];exact ha
 .have hvw:∀ v∈ring,v∈vsF E:=fun v hv=>by
   obtain⟨u,k|k⟩:=sL F0 hv
   .obtain⟨e,he,N9⟩:=hp _ _ k;rw[bG];rcases bK N9 with⟨e1,e2⟩|⟨e1,e2⟩
    .exact⟨e,he,.inr e2.symm⟩
    .exact⟨e,he,.inl e1.symm⟩
   .obtain⟨e,he,N9⟩:=hp _ _ k;rw[bG];rcases bK N9 with⟨e1,e2⟩|⟨e1,e2⟩
    .exact⟨e,he,.inl e1.symm⟩
    .exact⟨e,he,.inr e2.symm⟩
  have hc:=Hj (l:=vsF E) (M:=ring) (on:=[]) (w:=ring++[x.a,x.b]) ((mC E).imp fun k=>by omega) hn hvw (fun v _ h=>by cases h) fun v _=>⟨fun k=>by
   rcases aAd.1 k with k|k
   .exact .inl k
   .rcases aAe.1 k with rfl|k
    .exact .inl ha
    .rw[aAi]at k;subst k;exact .inl hb,fun k=>k.elim (aAr _) And.left⟩
  have h0:((vsF E).filter fun v=>decide (v∈([]:List Int)))=[]:=sS;rw[h0,List.nil_append]at hc;have hwl:=mT ring;show 2+((vsF E).filter fun v=>decide (v∈ring++[x.a,x.b])).length=(iB ring++[prP x.a x.b]).length+2;rw[hc,aAm];simp only[List.length_nil,List.length_cons];omega
 .intro R hs ht M5 H6 p O1 q hq';have w1:=M5 ring sS;have w2:=M5 ring.reverse sS;have c1:(x.b,x.a)∈prs ring:=by rw[pr1];simp
  have c2:(x.a,x.b)∈prs ring.reverse:=by rw[pr2];simp
  have cc:R (x.b,x.a) (x.a,x.b):=H6 _ (bE.2 ⟨ring,sS,c1⟩);have all:∀ p∈PF [ring,ring.reverse],R p (x.a,x.b):=fun p X7=>by
   obtain⟨t,U8,k⟩:=bE.1 X7;rcases aAe.1 U8 with e|e
   .rw[e]at k;exact ht _ _ _ (w1 p k _ c1) cc
   .rw[aAi.1 e]at k;exact w2 p k _ c2
  exact ht _ _ _ (all p O1) (hs _ _ (all q hq'))
 .intro t ht;rcases aAe.1 ht with rfl|ht
  .rw[hr];simp
  .rw[aAi]at ht;subst ht;rw[hr];simp
theorem BA{α:Type}[DecidableEq α]{A B:List α}(hA:A.Nodup)(hB:B.Nodup)(hs:∀ x∈A,x∈B)(hl:B.length<=A.length):A.Perm B:=by
 refine(aBd hA hB).2 fun x=>⟨hs x,fun hx=>aAI fun x9=>?_⟩;have:=aAy (aAq.2 ⟨x9,hA⟩) (l₂:=B) fun y hy=>by
  rcases aAe.1 hy with rfl|hy
  .exact hx
  .exact hs y hy
 rw[List.length_cons]at this;omega
structure jJ(E:List Ed)(F:List (List Int)):Prop where
 nd:(PF F).Nodup
 mem:∀ u v,(u,v)∈PF F↔∃ e∈E,prE e=prP u v
 cnt:F.length+(vsF E).length=E.length+2
 con:Con F
 ne:∀ r∈F,r≠[]
theorem Drn.done{E:List Ed}{h:Sh}(hD:Drn E h)(Zy:∀ e∈E,e.a≠e.b)(hs:(E.map prE).Nodup)(hl:E.length<=h.L.length):jJ E h.F:=by
 have hp:h.L.Perm (E.map prE):=by refine BA hD.lnd hs (fun p hp=>?_) (by rw[aAD];exact hl);obtain⟨e,he,rfl⟩:=hD.sub p hp;exact aAw he
 have hL:∀ p,p∈h.L↔∃ e∈E,prE e=p:=fun p=>by rw[hp.mem_iff,aAj]
 refine⟨hD.nd,fun u v=>?_,?_,hD.con,hD.ne⟩
 .rw[hD.mem,hL];constructor
  .exact And.right
  .rintro⟨e,he,N9⟩;refine⟨fun k=>?_,e,he,N9⟩;have:=Zy e he;rcases bK N9 with⟨e1,e2⟩|⟨e1,e2⟩<;>omega
 .have h1:=hD.cnt;have h2:((vsF E).filter fun v=>decide (v∈h.on))=vsF E:=aCB.2 fun v hv=>by
   rw[aAT,hD.on];obtain⟨e,he,k⟩:=(bG v E).1 hv;have:=Zy e he;rcases k with rfl|rfl
   .exact⟨e.b,fun k=>this k.symm,(hL _).2 ⟨e,he,aL _ _⟩⟩
   .exact⟨e.a,this,(hL _).2 ⟨e,he,rfl⟩⟩
  have h3:=hp.length_eq;rw[aAD]at h3;rw[h2]at h1;omega
theorem Rw{e:Ed}(Zy:e.a≠e.b):jJ [e] [[e.a,e.b]]:=by
 have hPF:PF [[e.a,e.b]]=[(e.a,e.b),(e.b,e.a)]:=rfl;have hv:(vsF [e]).length=2:=by
  have hp:(vsF [e]).Perm [e.a,e.b]:=(aBd ((mC _).imp fun k=>by omega) (sF1 Zy)).2 fun v=>by rw[bG];simp
  rw[hp.length_eq];rfl
 refine⟨by rw[hPF];simp[Zy],fun u v=>?_,by rw[hv];rfl,fun R hs ht hr H6 p hp q hq=>?_,sS⟩
 .rw[hPF];simp only[aAe,aBV,aDq,aAW,exists_eq_left];constructor
  .rintro(⟨rfl,rfl⟩|⟨rfl,rfl⟩)
   .rfl
   .exact aL _ _
  .intro k;rcases bK k with⟨e1,e2⟩|⟨e1,e2⟩
   .exact .inl ⟨e1.symm,e2.symm⟩
   .exact .inr ⟨e2.symm,e1.symm⟩
 .exact hr [e.a,e.b] sS p (by simpa[PF]using hp) q (by simpa[PF]using hq)
end Aw
end Go.Proofs.YtbgngpdonpeboaaGreatDoor
