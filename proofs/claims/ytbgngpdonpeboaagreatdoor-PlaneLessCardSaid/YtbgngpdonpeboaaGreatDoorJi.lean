/- maps.Keys at two types, and slices.AppendSeq, Collect over them. (After the kit's worked texts on maps.Keys and on a loop that collects; written by genkeys.py.) -/
import Derived.Test.YtbgngpdonpeboaaGreatDoorJh
import Derived.Test.YtbgngpdonpeboaaGreatDoorAwMr2
import Derived.RangeFuncSeq
import Derived.Maps.RangeWalk
import Derived.Test.YtbgngpdonpeboaaGreatDoorAwRg
import Derived.Test.YtbgngpdonpeboaaGreatDoorAwGo
set_option linter.defProp false
set_option linter.unusedVariables false
set_option linter.unusedSimpArgs false
set_option maxHeartbeats 2000000
open Go.Proofs.Tryz
namespace Go.Proofs.YtbgngpdonpeboaaGreatDoor
namespace Rg
open Go Go.RowKit Go.Shelf
open Go.ChangeMaps (setBlock)
attribute [local go_sem] Oper.semAt_some
section
variable {F:Fence} {n:Nat} {P:Program} (w:World) {ops:Array Oper} {rest:List Oper} {o:Oper} {a:Act} {Q:Exit->Act->World->Prop}
theorem pD(l:o.guard=none)(m:Operand)(t k e:TypeId)(d:o.op=Op.range t m)(q:P.underlying t=some (.map k e))(b:Nat)(f:Array MapEntry)(clock:Nat)(p:a.eval m=.map (some b))(j:w.heap[b]?=some (.map f clock))
 (h:∀ g,g=w.alloc (.mapIter (some b) clock #[] clock)->wpListIn F n P ops Q rest (a.put o.dst (.pointer (some ⟨w.heap.size,0,none⟩))) g):wpListIn F n P ops Q (o::rest) a w:=by
 refine wpListIn_plain l fun s c=>?_;have r:=run_range_map (P:=P) w t k e b f clock q j;unfold Oper.wpIn;refine⟨?_,?_⟩
 .grind [Oper.about]
 .rw[Oper.semAt_plain F _ _ (by grind)];simp[execOp,d,p,r,Result.andThen];exact c _ _ (h _ rfl)
theorem qH(I:o.guard=none)(it:Operand)(l:o.op=Op.next it false)(r b clock c:Nat)(seen:Array Nat)(d:Array MapEntry)(k:a.eval it=.pointer (some ⟨r,0,none⟩))(m:w.heap[r]?=some (.mapIter (some b) clock seen c))(A:w.heap[b]?=some (.map d clock))
 (B:∀ x∈d.toList,x.born<clock) (t:(d.toList.map (·.born)).Nodup) (H:clock<=c)
 (f:(∀ x∈d.toList,seen.contains x.born=true)->wpListIn F n P ops Q rest (a.put o.dst (.tuple #[.bool false])) w)
 (g:∀(e:MapEntry) (h p:World),e∈d.toList->seen.contains e.born=false->(h=w\/h=w.drew)->p=setBlock h r (.mapIter (some b) clock (seen.push e.born) clock)->(Instr.entry (.pointer (some ⟨r,0,none⟩))).run P p=.ok (.tuple #[e.key,e.val]) p->wpListIn F n P ops Q rest (a.put o.dst (.tuple #[.bool true,e.key,e.val])) p):
 wpListIn F n P ops Q (o::rest) a w:=by
 refine wpListIn_plain I fun K j=>?_;unfold Oper.wpIn;refine⟨by grind [Oper.about],?_⟩;rw[Oper.semAt_plain F _ _ (by grind)];rcases run_next_at (P:=P) w o.type r b clock c seen d clock m A B H with⟨C,v⟩|⟨e,q,h,y,v⟩
 .simp[execOp,l,k,v,Result.andThen];exact j _ _ (f fun x J=>all_seen d seen C x J)
 .obtain⟨z,s⟩:=mem_left q;have M:=(fu.1 m).1;have E:b≠r:=by rintro rfl;rw[A]at m;cases m
  have L:h.heap=w.heap:=by rcases y with rfl|rfl<;>rfl
  have D:=run_entry_at (P:=P) (setBlock h r (.mapIter (some b) clock (seen.push e.born) clock)) r b clock seen d clock e
   (by grind [setBlock]) (by grind [setBlock]) z t
  simp[execOp,l,k,v,Result.andThen];exact j _ _ (g e h _ z s y rfl D)
end
def Dd(w c:World)(h:c=w\/c=w.drew)(r:Nat)(o:Obj):w.grownBy (setBlock c r o) (some r):=by
 have f:c.heap=w.heap:=by rcases h with rfl|rfl<;>rfl
 have a:c.os=w.os/\c.tape=w.tape/\c.output=w.output:=by rcases h with rfl|rfl<;>exact⟨rfl,rfl,rfl⟩
 refine⟨a.1,a.2.1,a.2.2,by grind [setBlock],fun b e d=>?_⟩
 grind [setBlock]
def vB(b:AN)(a:List MapEntry)(seen:Array Nat):AN:=(Aw.lft (b.map fun v=>([v],.dead)) a seen).map fun e=>e.1.headD 0
theorem AJ{a:AN}{b:List MapEntry}(h:a.length=b.length):vB a b #[]=a:=by unfold vB;rw[Aw.vV (by grind),dy];exact(ii fun v _=>rfl).trans (vp a)
def Dq{b:AN}{a:List MapEntry}{seen:Array Nat}{e:MapEntry}(h:b.length=a.length)(k:a.map (·.key)=b.map (Value.int .u32))(r:(a.map (·.born)).Nodup)(n:e∈a)(t:seen.contains e.born=false):
 ∃ x c d,e.key=.int .u32 x/\vB b a seen=c++x::d/\vB b a (seen.push e.born)=c++d:=by
 obtain⟨p,c,d,y,z,m⟩:=Aw.HF (es:=b.map fun v=>(([v],.dead):AN×Aw.LV)) (by grind) r n t;have w:∀ q∈(b.map fun v=>(([v],.dead):AN×Aw.LV)).zip a,∃ x,q.1=([x],.dead)/\q.2.key=.int .u32 x:=by intro q s;obtain⟨j,o,rfl⟩:=sm.1 s;simp only[vj,dh]at o;rw[tf,oh];refine⟨b[j],rfl,?_⟩;have:=congrArg (fun l=>l[j]?) k;simp only[nk,cg (show j<a.length by omega),cg (show j<b.length by omega),Option.map_some,ap]at this;exact this
 obtain⟨x,g,f⟩:=w _ m;simp only at g f;subst g;exact⟨x,c.map (fun e=>e.1.headD 0),d.map (fun e=>e.1.headD 0),f,by grind [vB],by grind [vB]⟩
def EP{b:AN}{a:List MapEntry}{seen:Array Nat}(h:∀ x∈a,seen.contains x.born=true):vB b a seen=[]:=by
 grind [vB,Aw.JD]
def vN(W:World)(b:Nat)(c:AN):Prop:=∃(a:List MapEntry) (clock:Nat),W.heap[b]?=some (.map a.toArray clock)/\a.map (·.key)=c.map (Value.int .u32)/\(∀ x∈a,x.born<clock)/\(a.map (·.born)).Nodup
def KeepsOthers.walks{W a:World}(h:KeepsOthers W a):KeepsWalks W a:=⟨h.size,fun k o b c=>h.same k o b (by cases o<;>first|rfl|cases c)⟩
set_option maxRecDepth 100000 in
def Tg(F:Fence)(n:Nat)(h7:F.fn 105)(T8:F.round=none)(hn:1<=n)(l Bm b:Nat)(vs:AN)(W:World)(J Jx:AN->World->Prop)(hJ:AbidesFrom W.heap.size J)
 (hY:∀ pre x W1,J pre W1->pre.length<vs.length->YieldAt F (n-1) prog l #[.int .u32 x] W1 fun e W'=>
   (e=.returned (.bool true)/\J (pre++[x]) W'/\KeepsWalks W1 W')\/(e=.returned (.bool false)/\Jx (pre++[x]) W'))
 (hm:W.cell? ⟨Bm,0,none⟩=some (.map (some b))) (hB:vN W b vs) (h0:J [] W):
 CallsIn F n prog 105 #[.func (.yield l) #[] #[],.pointer (some ⟨Bm,0,none⟩)] W fun e W'=>(∃ v,e=.returned v)/\
  ((∃ ys:AN,ys.Perm vs/\J ys W')\/(∃ pre,True/\Jx pre W')):=by
 obtain⟨cW,clock,hb,L6,Q1,hnd⟩:=hB;have hlen:vs.length=cW.length:=by have:=congrArg List.length L6;simpa using this.symm
 have lb:=(fu.1 hb).1;refine callsIn_of_wp func105 rfl h7 ?_ T8;simp only[ntmps105,ik,List.length_cons,List.length_nil,Nat.reduceAdd,Nat.reduceSub,li,Array.replicate_zero,lp,lj,List.nil_append,List.cons_append]
 gi_wp2_with (first
  |(refine pD _ rfl _ 87 _ _ rfl underlying87 b cW.toArray clock rfl hb ?_;intro w0 hw0)
  |gi_in)
 go_frame
 have hI0:w0.heap[W.heap.size]?=some (.mapIter (some b) clock #[] clock):=by rw[hw0];exact World.alloc_heap_new _ _
 have hb0:w0.heap[b]?=some (.map cW.toArray clock):=by rw[hw0];exact(Below.heap_alloc _ _ b lb).trans hb
 have hg0:W.grownBy w0 none:=by rw[hw0];exact World.grownBy_alloc W _ none
 have hJ0:J [] w0:=hJ [] W w0 none h0 hg0 (fun r e=>by cases e);clear hw0 hg0
 gi_loopw [3] (fun _ wr=>∃(seen:Array Nat) (c:Nat) (ss:AN),clock<=c/\wr.heap[W.heap.size]?=some (.mapIter (some b) clock seen c)/\wr.heap[b]?=some (.map cW.toArray clock)/\(ss++vB vs cW seen).Perm vs/\J ss wr)
  (fun _ wr=>match wr.heap[W.heap.size]? with|some (.mapIter _ _ seen _)=>(vB vs cW seen).length|_=>0)
 case atStart=>exact⟨#[],clock,[],au _,hI0,hb0,by grind [AJ],hJ0⟩
 case round=>
  obtain⟨seen,c,ss,hcc,hit,hbm,u6,hJs⟩:=hrel
  gi_wp2_with (first
   |(refine qH _ rfl _ rfl W.heap.size b clock c seen cW.toArray rfl hit hbm (fun x hx=>Q1 x oO) oO hcc ?_ ?_)
   |gi_in)
  .intro hall;have y9:vB vs cW seen=[]:=EP fun x hx=>by grind
   rw[y9,eP]at u6
   gi_wp2
   go_end0
   grind
  .intro e w1 w2 he hs P6 J7 hen;obtain⟨x,L1,L2,hx,hL1,hL2⟩:=Dq (seen:=seen) hlen L6 hnd (by simpa using he) (by grind);have U7:wr.grownBy w2 (some W.heap.size):=by rw[J7];exact Dd wr w1 P6 _ _
   have hJ2:J ss w2:=hJ ss wr w2 (some W.heap.size) hJs U7 (fun r e=>by cases e;exact⟨au _,_,hit,rfl⟩);have hh:w1.heap=wr.heap:=by rcases P6 with rfl|rfl<;>rfl
   have c7:b≠W.heap.size:=oO;have hit2:w2.heap[W.heap.size]?=some (.mapIter (some b) clock (seen.push e.born) clock):=by rw[J7];simp only[setBlock];rw[mv,ad rfl,ad (by grind)]
   have hbm2:w2.heap[b]?=some (.map cW.toArray clock):=by rw[J7];simp only[setBlock];rw[mv,ac (fun e=>c7 e.symm),hh];exact hbm
   have dF:ss.length<vs.length:=by have:=u6.length_eq;rw[hL1]at this;simp at this;omega
   obtain⟨fn,tmps,assign,body,hy,hR⟩:=hY ss x w2 hJ2 dF;rw[hx]at hen ⊢;clear J7 U7
   gi_wp2
   refine hR.mono ?_;rintro e3 W3 (⟨rfl,hJ3,u9⟩|⟨rfl,hJx3⟩)
   .gi_wp2
    have hit3:=u9.same _ _ hit2 rfl;have hbm3:=u9.same _ _ hbm2 rfl
    go_roundw
    case rel=>exact⟨seen.push e.born,clock,ss++[x],au _,hit3,hbm3,by
     grind,hJ3⟩
    grind
   .gi_wp2
    refine bodyPost_ret (results_none rfl _ _ _) rfl ?_
    grind
def HL(F:Fence)(n:Nat)(r:F.fn 105)(k:F.round=none)(z:1<=n)(a b:Nat)(c:AN)(w:World)(d:a<w.heap.size)(y:w.cell? ⟨a,0,none⟩=some (.map (some b)))(s:vN w b c):
 SeqStopsK F n prog 105 #[.pointer (some ⟨a,0,none⟩)] (fun x:Int=>#[Value.int .u32 x]) KeepsWalks (fun A=>A.Perm c) (fun _=>True) c.length w:=fun l J j W f t _ v q=>by
 have e:=(f.cell (p:=⟨a,0,none⟩) d).trans y;have m:vN W b c:=by obtain⟨o,clock,g,h⟩:=s;exact⟨o,clock,(f.block b (fu.1 g).1).trans g,h⟩
 exact Tg F n r k z l a b c W J j t v e m q
set_option maxRecDepth 100000 in
def Ep(F:Fence)(n:Nat)(h3:F.fn 147)(h7:F.fn 105)(T8:F.round=none)(hn:3<=n)(Bm b:Nat)(vs:AN)(hlen:vs.length<=1048576)(w:World)(hBm:Bm<w.heap.size)
 (hm:w.cell? ⟨Bm,0,none⟩=some (.map (some b))) (hB:vN w b vs):
 CallsIn F n prog 147 #[.slice none 0 0,.func (.func 105) #[] #[.pointer (some ⟨Bm,0,none⟩)]] w fun e W'=>∃ v ys,e=.returned v/\List.Perm ys vs/\W'.ownsRow w.heap.size 34 1 v ys.length (ys.map (Value.int .u32))/\Below w.heap.size w W':=by
 have h1:1<=n:=oO;obtain⟨i0,hi,hz0,hz1,hz2⟩:=info_parts SG;refine callsIn_of_wp_marks func147 rfl h3 ?_ T8;simp only[ntmps147,ik,List.length_cons,List.length_nil,Nat.reduceAdd,Nat.reduceSub,li,Array.replicate_zero,lp,lj,List.nil_append,List.cons_append]
 gi_wp2
 have bO:=Boxed.new w 22 (.slice none 0 0);have hB0:Below w.heap.size w (w.alloc (.cells #[.slice none 0 0] 22)):=(Below.refl _ w).alloc (au _) _;have X4:vN (w.alloc (.cells #[.slice none 0 0] 22)) b vs:=by obtain⟨cW,clock,hb,h⟩:=hB;exact⟨cW,clock,(hB0.block b (fu.1 hb).1).trans hb,h⟩
 refine wpIn_rangeFunc_ownG T8 h1 (gf:=105) (lb:=#[.pointer (some ⟨Bm,0,none⟩)]) rfl h7 (enters_of func105 (by kernel_rfl) rfl)
  (HL F (n-1) h7 T8 oO Bm b vs _ (by simp;omega) ((hB0.cell (p:=⟨Bm,0,none⟩) hBm).trans hm) X4) walksK_t walksK_b (Below.refl _ _) (fun _=>rfl)
  (fun pre W=>(∃ v,Boxed W w.heap.size 22 v/\W.ownsRow w.heap.size 34 1 v pre.length (pre.map (Value.int .u32))/\True)/\Below w.heap.size w W)
  (fun _ _ _=>False)
  (OwnFrom.and (Own.from (holdsRow_own w.heap.size w.heap.size 22 34 1 (fun pre:AN=>pre.length) (fun pre:AN=>pre.map (Value.int .u32)) (fun _ _=>True)) _) (ownFrom_below (au _) sS))
  (fun _ _ _ _ _ hs _ _=>hs)
  ⟨⟨_,bO,World.ownsRow_nil _ _ _ _,trivial⟩,hB0⟩
  (fun x=>{ tmps:=#[.slice none 0 0,.func (.func 105) #[] #[.pointer (some ⟨Bm,0,none⟩)],.pointer (some ⟨w.heap.size,0,none⟩),undef,.slice none 0 0,.int .u32 x,.func (.func 105) #[] #[.pointer (some ⟨Bm,0,none⟩)],.int .u32 x,undef,undef,undef,undef,undef],defers:=[] }) ?assign ?body ?done ?stop
 case assign=>
  intro l x W K hK
  gi_wp2
  omega
 case body=>
  rintro l pre x W ⟨⟨v,hv,j5,_⟩,hB⟩ dF;have hc:=hv.cell
  gi_wp2_with (gi_at_builtin;refine wpListIn_append_own _ rfl _ _ 22 rfl w.heap.size 34 i0 (.int .u32 0) 1 4 underlying22 hi hz0 hz1 hz2 rfl (by decide) _ _ _ rfl (j5.alloc _) ⟨W.heap.size,0,none⟩ 1 1 [.int .u32 x] rfl rfl (cell_one_new _ _ _) (by simp[Value.oneCell']) (by grind [maxLen]) oO (by have:=hB.size;simp;omega) ?_;intro v' w1 Z8 U6 _;obtain⟨g',cap',rfl⟩:=ownsRow_succ Z8;obtain⟨hv1,hv2,hr2,u5,V5⟩:=hv.appended (by decide) j5 hB.size (au _) Z8 U6;have hc1:=hv1.cell;have hf1:=hv1.frozen)
  exact⟨u5.from _,KeepsOthers.walks u5,⟨_,hv2,by grind,trivial⟩,hB.trans V5⟩
 case done=>
  rintro D ys W hD hys ⟨⟨v,hv,j5,_⟩,hB⟩ hK;have hc:=hv.cell
  gi_wp2
  refine⟨sS,.inl ⟨_,_,rfl,run_takeDeferred hK,?_⟩⟩;exact⟨_,results_tmp rfl _ _ _,v,ys,rfl,hys,ownsRow_putObj j5 _ hK rfl,hB.trans (belowK_b (w:=w) (au _) W D _ _ (by simp at hD;omega) hK rfl rfl)⟩
 grind
set_option maxRecDepth 100000 in
def Cj(F:Fence)(n:Nat)(h2:F.fn 104)(h3:F.fn 147)(h7:F.fn 105)(T8:F.round=none)(hn:4<=n)(Bm b:Nat)(vs:AN)(hlen:vs.length<=1048576)(w:World)(hBm:Bm<w.heap.size)
 (hm:w.cell? ⟨Bm,0,none⟩=some (.map (some b))) (hB:vN w b vs):
 CallsIn F n prog 104 #[.func (.func 105) #[] #[.pointer (some ⟨Bm,0,none⟩)]] w fun e W'=>∃ v ys,e=.returned v/\List.Perm ys vs/\W'.ownsRow w.heap.size 34 1 v ys.length (ys.map (Value.int .u32))/\Below w.heap.size w W':=by
 have h1:1<=n:=oO;refine callsIn_of_wp func104 rfl h2 ?_ T8;simp only[ntmps104,ik,List.length_cons,List.length_nil,Nat.reduceAdd,Nat.reduceSub,li,Array.replicate_zero,lp,lj,List.nil_append,List.cons_append]
 gi_wp2_with (gi_at_call 147;refine(Ep F (n-1) h3 h7 T8 oO Bm b vs hlen _ hBm hm hB).mono ?_;rintro e w' ⟨v,ys,rfl,hys,j5,hbel⟩)
 go_ret
 exact⟨v,ys,rfl,hys,j5,hbel⟩
set_option maxRecDepth 100000 in
def UJ(F:Fence)(n:Nat)(h7:F.fn 148)(T8:F.round=none)(hn:1<=n)(l Bm b:Nat)(vs:AN)(W:World)(J Jx:AN->World->Prop)(hJ:AbidesFrom W.heap.size J)
 (hY:∀ pre x W1,J pre W1->pre.length<vs.length->YieldAt F (n-1) prog l #[.int .u32 x] W1 fun e W'=>
   (e=.returned (.bool true)/\J (pre++[x]) W'/\KeepsWalks W1 W')\/(e=.returned (.bool false)/\Jx (pre++[x]) W'))
 (hm:W.cell? ⟨Bm,0,none⟩=some (.map (some b))) (hB:vN W b vs) (h0:J [] W):
 CallsIn F n prog 148 #[.func (.yield l) #[] #[],.pointer (some ⟨Bm,0,none⟩)] W fun e W'=>(∃ v,e=.returned v)/\
  ((∃ ys:AN,ys.Perm vs/\J ys W')\/(∃ pre,True/\Jx pre W')):=by
 obtain⟨cW,clock,hb,L6,Q1,hnd⟩:=hB;have hlen:vs.length=cW.length:=by have:=congrArg List.length L6;simpa using this.symm
 have lb:=(fu.1 hb).1;refine callsIn_of_wp func148 rfl h7 ?_ T8;simp only[ntmps148,ik,List.length_cons,List.length_nil,Nat.reduceAdd,Nat.reduceSub,li,Array.replicate_zero,lp,lj,List.nil_append,List.cons_append]
 gi_wp2_with (first
  |(refine pD _ rfl _ 93 _ _ rfl underlying93 b cW.toArray clock rfl hb ?_;intro w0 hw0)
  |gi_in)
 go_frame
 have hI0:w0.heap[W.heap.size]?=some (.mapIter (some b) clock #[] clock):=by rw[hw0];exact World.alloc_heap_new _ _
 have hb0:w0.heap[b]?=some (.map cW.toArray clock):=by rw[hw0];exact(Below.heap_alloc _ _ b lb).trans hb
 have hg0:W.grownBy w0 none:=by rw[hw0];exact World.grownBy_alloc W _ none
 have hJ0:J [] w0:=hJ [] W w0 none h0 hg0 (fun r e=>by cases e);clear hw0 hg0
 gi_loopw [3] (fun _ wr=>∃(seen:Array Nat) (c:Nat) (ss:AN),clock<=c/\wr.heap[W.heap.size]?=some (.mapIter (some b) clock seen c)/\wr.heap[b]?=some (.map cW.toArray clock)/\(ss++vB vs cW seen).Perm vs/\J ss wr)
  (fun _ wr=>match wr.heap[W.heap.size]? with|some (.mapIter _ _ seen _)=>(vB vs cW seen).length|_=>0)
 case atStart=>exact⟨#[],clock,[],au _,hI0,hb0,by grind [AJ],hJ0⟩
 case round=>
  obtain⟨seen,c,ss,hcc,hit,hbm,u6,hJs⟩:=hrel
  gi_wp2_with (first
   |(refine qH _ rfl _ rfl W.heap.size b clock c seen cW.toArray rfl hit hbm (fun x hx=>Q1 x oO) oO hcc ?_ ?_)
   |gi_in)
  .intro hall;have y9:vB vs cW seen=[]:=EP fun x hx=>by grind
   rw[y9,eP]at u6
   gi_wp2
   go_end0
   grind
  .intro e w1 w2 he hs P6 J7 hen;obtain⟨x,L1,L2,hx,hL1,hL2⟩:=Dq (seen:=seen) hlen L6 hnd (by simpa using he) (by grind);have U7:wr.grownBy w2 (some W.heap.size):=by rw[J7];exact Dd wr w1 P6 _ _
   have hJ2:J ss w2:=hJ ss wr w2 (some W.heap.size) hJs U7 (fun r e=>by cases e;exact⟨au _,_,hit,rfl⟩);have hh:w1.heap=wr.heap:=by rcases P6 with rfl|rfl<;>rfl
   have c7:b≠W.heap.size:=oO;have hit2:w2.heap[W.heap.size]?=some (.mapIter (some b) clock (seen.push e.born) clock):=by rw[J7];simp only[setBlock];rw[mv,ad rfl,ad (by grind)]
   have hbm2:w2.heap[b]?=some (.map cW.toArray clock):=by rw[J7];simp only[setBlock];rw[mv,ac (fun e=>c7 e.symm),hh];exact hbm
   have dF:ss.length<vs.length:=by have:=u6.length_eq;rw[hL1]at this;simp at this;omega
   obtain⟨fn,tmps,assign,body,hy,hR⟩:=hY ss x w2 hJ2 dF;rw[hx]at hen ⊢;clear J7 U7
   gi_wp2
   refine hR.mono ?_;rintro e3 W3 (⟨rfl,hJ3,u9⟩|⟨rfl,hJx3⟩)
   .gi_wp2
    have hit3:=u9.same _ _ hit2 rfl;have hbm3:=u9.same _ _ hbm2 rfl
    go_roundw
    case rel=>exact⟨seen.push e.born,clock,ss++[x],au _,hit3,hbm3,by
     grind,hJ3⟩
    grind
   .gi_wp2
    refine bodyPost_ret (results_none rfl _ _ _) rfl ?_
    grind
def Gy(F:Fence)(n:Nat)(r:F.fn 148)(k:F.round=none)(z:1<=n)(a b:Nat)(c:AN)(w:World)(d:a<w.heap.size)(y:w.cell? ⟨a,0,none⟩=some (.map (some b)))(s:vN w b c):
 SeqStopsK F n prog 148 #[.pointer (some ⟨a,0,none⟩)] (fun x:Int=>#[Value.int .u32 x]) KeepsWalks (fun A=>A.Perm c) (fun _=>True) c.length w:=fun l J j W f t _ v q=>by
 have e:=(f.cell (p:=⟨a,0,none⟩) d).trans y;have m:vN W b c:=by obtain⟨o,clock,g,h⟩:=s;exact⟨o,clock,(f.block b (fu.1 g).1).trans g,h⟩
 exact UJ F n r k z l a b c W J j t v e m q
set_option maxRecDepth 100000 in
def FQ(F:Fence)(n:Nat)(h3:F.fn 147)(h7:F.fn 148)(T8:F.round=none)(hn:3<=n)(Bm b:Nat)(vs:AN)(hlen:vs.length<=1048576)(w:World)(hBm:Bm<w.heap.size)
 (hm:w.cell? ⟨Bm,0,none⟩=some (.map (some b))) (hB:vN w b vs):
 CallsIn F n prog 147 #[.slice none 0 0,.func (.func 148) #[] #[.pointer (some ⟨Bm,0,none⟩)]] w fun e W'=>∃ v ys,e=.returned v/\List.Perm ys vs/\W'.ownsRow w.heap.size 34 1 v ys.length (ys.map (Value.int .u32))/\Below w.heap.size w W':=by
 have h1:1<=n:=oO;obtain⟨i0,hi,hz0,hz1,hz2⟩:=info_parts SG;refine callsIn_of_wp_marks func147 rfl h3 ?_ T8;simp only[ntmps147,ik,List.length_cons,List.length_nil,Nat.reduceAdd,Nat.reduceSub,li,Array.replicate_zero,lp,lj,List.nil_append,List.cons_append]
 gi_wp2
 have bO:=Boxed.new w 22 (.slice none 0 0);have hB0:Below w.heap.size w (w.alloc (.cells #[.slice none 0 0] 22)):=(Below.refl _ w).alloc (au _) _;have X4:vN (w.alloc (.cells #[.slice none 0 0] 22)) b vs:=by obtain⟨cW,clock,hb,h⟩:=hB;exact⟨cW,clock,(hB0.block b (fu.1 hb).1).trans hb,h⟩
 refine wpIn_rangeFunc_ownG T8 h1 (gf:=148) (lb:=#[.pointer (some ⟨Bm,0,none⟩)]) rfl h7 (enters_of func148 (by kernel_rfl) rfl)
  (Gy F (n-1) h7 T8 oO Bm b vs _ (by simp;omega) ((hB0.cell (p:=⟨Bm,0,none⟩) hBm).trans hm) X4) walksK_t walksK_b (Below.refl _ _) (fun _=>rfl)
  (fun pre W=>(∃ v,Boxed W w.heap.size 22 v/\W.ownsRow w.heap.size 34 1 v pre.length (pre.map (Value.int .u32))/\True)/\Below w.heap.size w W)
  (fun _ _ _=>False)
  (OwnFrom.and (Own.from (holdsRow_own w.heap.size w.heap.size 22 34 1 (fun pre:AN=>pre.length) (fun pre:AN=>pre.map (Value.int .u32)) (fun _ _=>True)) _) (ownFrom_below (au _) sS))
  (fun _ _ _ _ _ hs _ _=>hs)
  ⟨⟨_,bO,World.ownsRow_nil _ _ _ _,trivial⟩,hB0⟩
  (fun x=>{ tmps:=#[.slice none 0 0,.func (.func 148) #[] #[.pointer (some ⟨Bm,0,none⟩)],.pointer (some ⟨w.heap.size,0,none⟩),undef,.slice none 0 0,.int .u32 x,.func (.func 148) #[] #[.pointer (some ⟨Bm,0,none⟩)],.int .u32 x,undef,undef,undef,undef,undef],defers:=[] }) ?assign ?body ?done ?stop
 case assign=>
  intro l x W K hK
  gi_wp2
  omega
 case body=>
  rintro l pre x W ⟨⟨v,hv,j5,_⟩,hB⟩ dF;have hc:=hv.cell
  gi_wp2_with (gi_at_builtin;refine wpListIn_append_own _ rfl _ _ 22 rfl w.heap.size 34 i0 (.int .u32 0) 1 4 underlying22 hi hz0 hz1 hz2 rfl (by decide) _ _ _ rfl (j5.alloc _) ⟨W.heap.size,0,none⟩ 1 1 [.int .u32 x] rfl rfl (cell_one_new _ _ _) (by simp[Value.oneCell']) (by grind [maxLen]) oO (by have:=hB.size;simp;omega) ?_;intro v' w1 Z8 U6 _;obtain⟨g',cap',rfl⟩:=ownsRow_succ Z8;obtain⟨hv1,hv2,hr2,u5,V5⟩:=hv.appended (by decide) j5 hB.size (au _) Z8 U6;have hc1:=hv1.cell;have hf1:=hv1.frozen)
  exact⟨u5.from _,KeepsOthers.walks u5,⟨_,hv2,by grind,trivial⟩,hB.trans V5⟩
 case done=>
  rintro D ys W hD hys ⟨⟨v,hv,j5,_⟩,hB⟩ hK;have hc:=hv.cell
  gi_wp2
  refine⟨sS,.inl ⟨_,_,rfl,run_takeDeferred hK,?_⟩⟩;exact⟨_,results_tmp rfl _ _ _,v,ys,rfl,hys,ownsRow_putObj j5 _ hK rfl,hB.trans (belowK_b (w:=w) (au _) W D _ _ (by simp at hD;omega) hK rfl rfl)⟩
 grind
set_option maxRecDepth 100000 in
def Cf(F:Fence)(n:Nat)(h2:F.fn 104)(h3:F.fn 147)(h7:F.fn 148)(T8:F.round=none)(hn:4<=n)(Bm b:Nat)(vs:AN)(hlen:vs.length<=1048576)(w:World)(hBm:Bm<w.heap.size)
 (hm:w.cell? ⟨Bm,0,none⟩=some (.map (some b))) (hB:vN w b vs):
 CallsIn F n prog 104 #[.func (.func 148) #[] #[.pointer (some ⟨Bm,0,none⟩)]] w fun e W'=>∃ v ys,e=.returned v/\List.Perm ys vs/\W'.ownsRow w.heap.size 34 1 v ys.length (ys.map (Value.int .u32))/\Below w.heap.size w W':=by
 have h1:1<=n:=oO;refine callsIn_of_wp func104 rfl h2 ?_ T8;simp only[ntmps104,ik,List.length_cons,List.length_nil,Nat.reduceAdd,Nat.reduceSub,li,Array.replicate_zero,lp,lj,List.nil_append,List.cons_append]
 gi_wp2_with (gi_at_call 147;refine(FQ F (n-1) h3 h7 T8 oO Bm b vs hlen _ hBm hm hB).mono ?_;rintro e w' ⟨v,ys,rfl,hys,j5,hbel⟩)
 go_ret
 exact⟨v,ys,rfl,hys,j5,hbel⟩
end Rg
namespace Aw
open Go Go.RowKit
def uX(a:List (AN×LV)):AN:=a.map fun e=>e.1.headD 0
def Ku{w:World}{g:G}{c:St}(l:Inv w g c){m:Nat}{b:List (AN×LV)}(n:c.H m=.map false [.u32] b):Rg.vN w (g.β m) (uX b):=by
 obtain⟨_,a,d,clock,e,f,_,_,j,k⟩:=l.mp m _ _ _ n;refine⟨d,clock,e,?_,j,k⟩;rw[f];unfold uX;rw[dy];refine ii fun p o=>?_;have:=a p o
 match h:p.1,this with
 |[x],_=>grind [cj,fb]
def KE(m q:Nat)(j:List (AN×LV))(h:St)(O:j.length<=1048576)(y:h.H q=.box 87 1 [.mp m])(A:h.H m=.map false [.u32] j):
 aB prog 104 [.fn (.func 105) [.pt q 0]] h fun r l=>∃ b:AN,b.Perm (uX j)/\r=.ms h.z 0 b.length/\l=h.new (.box 34 1 (us b)):=by
 refine⟨enters_of func104 (by kernel_rfl) rfl,fun w g V k o=>?_⟩;simp only[aC,Rep]at o;obtain⟨v,_,rfl,⟨F,rfl,U,_,rfl,⟨rfl,Q⟩,rfl⟩,rfl⟩:=o;obtain⟨_,J,x⟩:=k.box q _ _ _ y;have I:g.nl q=false:=by
  cases P:g.nl q with
  |false=>rfl
  |true=>grind
 obtain⟨t,D,R,E,s,S⟩:=x I;simp only[List.length_cons,List.length_nil,jd,aC]at s E;obtain⟨T,rest,B,n,_⟩:=s;simp only[Rep]at n;have d:w.cell? ⟨g.β q,0,none⟩=some (.map (some (g.β m))):=by
  rw[cell_of_row w _ _ _ _ _ D,<- n.1];cases t with
  |nil=>grind
  |cons a t=>grind
 refine(((Rg.Cj Fence.wide 4 trivial trivial trivial rfl (au _) (g.β q) (g.β m) (uX j) (by grind [uX]) w (oI d) d (Ku k A)).calls room_wide)).mono ?_;rintro e W ⟨v,b,rfl,C,p,c⟩;have f:b.length=(b.map (Value.int .u32)).length:=sS;rw[f]at p;obtain⟨K,L,M,N⟩:=wR (cs:=us b) k c p (fun w g=>zT w g b)
 grind
def KH(m q:Nat)(j:List (AN×LV))(h:St)(O:j.length<=1048576)(y:h.H q=.box 93 1 [.mp m])(A:h.H m=.map false [.u32] j):
 aB prog 104 [.fn (.func 148) [.pt q 0]] h fun r l=>∃ b:AN,b.Perm (uX j)/\r=.ms h.z 0 b.length/\l=h.new (.box 34 1 (us b)):=by
 refine⟨enters_of func104 (by kernel_rfl) rfl,fun w g V k o=>?_⟩;simp only[aC,Rep]at o;obtain⟨v,_,rfl,⟨F,rfl,U,_,rfl,⟨rfl,Q⟩,rfl⟩,rfl⟩:=o;obtain⟨_,J,x⟩:=k.box q _ _ _ y;have I:g.nl q=false:=by
  cases P:g.nl q with
  |false=>rfl
  |true=>grind
 obtain⟨t,D,R,E,s,S⟩:=x I;simp only[List.length_cons,List.length_nil,jd,aC]at s E;obtain⟨T,rest,B,n,_⟩:=s;simp only[Rep]at n;have d:w.cell? ⟨g.β q,0,none⟩=some (.map (some (g.β m))):=by
  rw[cell_of_row w _ _ _ _ _ D,<- n.1];cases t with
  |nil=>grind
  |cons a t=>grind
 refine(((Rg.Cf Fence.wide 4 trivial trivial trivial rfl (au _) (g.β q) (g.β m) (uX j) (by grind [uX]) w (oI d) d (Ku k A)).calls room_wide)).mono ?_;rintro e W ⟨v,b,rfl,C,p,c⟩;have f:b.length=(b.map (Value.int .u32)).length:=sS;rw[f]at p;obtain⟨K,L,M,N⟩:=wR (cs:=us b) k c p (fun w g=>zT w g b)
 grind
end Aw
namespace Aw
open Go Go.RowKit Pl Eu
def xh(m:Mp)(k:Nat):Prop:=GU m.g.E (m.g.V.getD k 0) (m.rots.getD k [])
noncomputable def vQ(m:Mp):Int:=if chk m.g≠0 then chk m.g else if m.rots.length≠m.g.V.length then 22 else @ite _ (∀ k,k<m.g.V.length->xh m k) (Classical.propDecidable _) 0 22
def XC{m:Mp}(h:chk m.g≠0):vQ m=chk m.g:=by unfold vQ;rw[ad h]
def QU{m:Mp}(h:chk m.g=0)(a:m.rots.length≠m.g.V.length):vQ m=22:=by unfold vQ;rw[ac (fun e=>e h),ad a]
def Px{m:Mp}(h:chk m.g=0){k:Nat}(b:k<m.g.V.length)(a:¬xh m k):vQ m=22:=by
 unfold vQ;rw[ac (fun e=>e h)]
 split
 .rfl
 .rw[ac (fun e=>a (e k b))]
def Vb{m:Mp}(h:chk m.g=0)(a:m.rots.length=m.g.V.length)(b:∀ k,k<m.g.V.length->xh m k):vQ m=0:=by unfold vQ;rw[ac (fun e=>e h),ac (fun e=>e a),ad b]
def OH{m:Mp}(h:vQ m=0):chk m.g=0/\bU m:=by
 by_cases a:chk m.g=0
 .refine⟨a,?_⟩;by_cases b:m.rots.length=m.g.V.length
  .refine⟨fO a,b,fun k c=>?_⟩;refine fv fun d=>?_;rw[Px a c d]at h;cases h
  .rw[QU a b]at h;cases h
 .rw[XC a]at h;exact absurd h a
end Aw
namespace Aw
open Go Go.RowKit Pl
attribute [local simp] GA Xv NM Ux oG rH nZ
def oC:List (Int×Int)->Int->Int
 |[],_=>0
 |p::P,x=>if p.1=x then p.2 else oC P x
theorem Fa(x:Int):∀ P:List (Int×Int),(bQ (gu P) [x]).getD (u 0)=u (oC P x)
 |[]=>rfl
 |p::P=>by
  have a:=Fa x P;unfold oC;simp only[gu,ax,bQ]at a ⊢;by_cases h:p.1=x
  .rw[ad h,ad (aa h)];rfl
  .rw[ac h,ac (by simpa using fun e=>h e.symm)];exact a
def Hv(P:List (Int×Int)):uX (gu P)=P.map (·.1):=by
 induction P with
 |nil=>rfl
 |cons p P a=>simp only[gu,ax,uX]at a ⊢;rw[a];rfl
def js(P:List (Int×Int))(first:Int):Nat->Int->AN
 |0,_=>[]
 |n+1,x=>x::(if oC P x≠first/\0<n then js P first n (oC P x)else [])
def bY(P:List (Int×Int)):AN:=js P (mn (P.map (·.1))) P.length (mn (P.map (·.1)))
def YR(m:Nat)(a:St):aB prog 107 [.mp m] a fun r b=>r=.fn (.func 148) [.pt a.z 0]/\b=a.new (.box 93 1 [.mp m]):=by refine zN func107 ntmps107 [.tmp 2] ?_;exact tt
def ZM(m:Nat)(a:St):aB prog 64 [.mp m] a fun r b=>r=.fn (.func 105) [.pt a.z 0]/\b=a.new (.box 87 1 [.mp m]):=by refine zN func64 ntmps64 [.tmp 2] ?_;exact tt
def TX{a b:AN}(h:a.Perm b)(c:a≠[]):mn a=mn b:=
 (WD (h.mem_iff.1 (wO c)) fun x d=>Rq (h.mem_iff.2 d)).symm
def pw(P:List (Int×Int))(m:Nat)(c:St)(n:Nat)(b:af)(s:St):Prop:=∃(a:AN) (x:Int) (t:Nat),n+a.length=P.length/\0<n/\a++js P (mn (P.map (·.1))) n x=bY P/\b 0=.mp m/\b 3=.sl t a.length (us a)/\b 4=u (mn (P.map (·.1)))/\b 5=u x/\Er t 34 1 a.length c s/\aA c s
def Kf{P:Program}{N:Nat}{Q:AQ}{c:Code}{a:af}{b:St}(I:af->St->Prop)(d:I a b)(h:∀ a b,I a b->bq P N c Q a b):bq P N c Q a b:=h _ _ d
def Ws(P:List (Int×Int))(m:Nat)(o:St)(hP:P≠[])(hl:P.length<=1000)(hm:o.H m=.map false [.u32] (gu P))(N8:m<o.z):
 aB prog 65 [.mp m] o fun r st'=>r=.sl 0 (bY P).length (us (bY P))/\st'=o:=by
 refine qT (Q:=fun r=>r=.sl 0 (bY P).length (us (bY P))) (eS ?_) fun r h=>by subst h;exact⟨.inl rfl,yW _ _⟩
 have hil:(gu P).length=P.length:=by simp[gu]
 refine zN func65 ntmps65 [.tmp 2] ?_;refine bz ?_;refine CN _ 0 (fun n fr s=>pw P m o n fr s) rfl ?_ ?_
 .refine iF fun P4=>?_
  (refine eu ?_;intro J c)
  refine jh (YR m _) ?_;refine dB c ?_;refine qE (KH m o.z (gu P) _ oO sS (by rw[cB,ac oO];exact hm)) sS ?_;rintro r s1 ⟨W,hys,rfl,X⟩;rw[X];clear X s1;have hyl:W.length=P.length:=by rw[hys.length_eq,Hv,dh]
  have Z:W≠[]:=fun e=>hP (oy.1 (by rw[<- hyl,e];rfl));have hmn:mn W=mn (P.map (·.1)):=TX (by rw[<- Hv];exact hys) Z;have T7:=fQ (P:=prog) (pre:=[]) (post:=[]) (l:=o.z+1) (n:=W.length) (e:=34) (s:=1) (cs:=us W) (st:=(o.new (.box 93 1 [.mp m])).new (.box 34 1 (us W))) (f:=106) sS sS (by rw[dp sS];exact Min W 0 _ (by unfold small;omega) Z);rw[hmn]at T7;refine dB c ?_;refine qE T7 sS ?_;rintro r s1 ⟨rfl,X⟩;rw[X];clear X s1 T7;have hPl:0<P.length:=iu.2 hP;refine dB c ?_;refine EA ?_;simp only[ak];refine uW 3 34 1 sS ?_;refine Kf (pw P m o P.length) ?_ ?_
  .exact⟨[],_,o.z+1+1,sS,hPl,rfl,sS,sS,sS,sS,⟨oO,oO,sS,sS⟩,(((aA.new _ _).trans (aA.new _ _)).set oO _).trans (aA.new _ _)⟩
  obtain⟨n,hn⟩:∃ n,n=P.length:=⟨_,rfl⟩;rw[<- hn];have S:∀ n' UK I,n' < n->pw P m o n' UK I->∃ n,pw P m o n UK I:=fun n' _ _ _ h=>⟨n',h⟩;rintro fr s ⟨a,x,t,h1,h2,L,g,B,j,C,⟨E,t1,t2,F⟩,hk⟩;have b:=(hk.H m N8).trans hm;have D:=Fa x P;obtain⟨n,rfl⟩:∃ k,n=k+1:=⟨n-1,oO⟩;have Y:js P (mn (P.map (·.1))) (n+1) x=x::(if oC P x≠mn (P.map (·.1))/\0<n then js P (mn (P.map (·.1))) n (oC P x)else []):=rfl;rw[Y]at L;clear Y;have T:∀(K:AN) (y:Int) (t:Nat) (UK:af) (I:St),n+K.length=P.length->0<n->K++js P (mn (P.map (·.1))) n y=bY P->UK 0=.mp m->UK 3=.sl t K.length (us K)->UK 4=u (mn (P.map (·.1)))->UK 5=u y->Er t 34 1 K.length o I->aA o I->pw P m o n UK I:=fun K y t UK I q1 q2 q3 q4 q5 q6 q7 q8 q9=>⟨K,y,t,q1,q2,q3,q4,q5,q6,q7,q8,q9⟩;have U:=fun UK I h=>S n UK I oO h;generalize mn (P.map (·.1))=first at *
  generalize oC P x=y at *;have hkn:=hk.z;have p:¬t=s.z:=oO;have q:¬s.z=t:=oO;have v:¬m=s.z:=oO;have w:¬m=s.z+1:=oO;have A:¬m=t:=oO;have V:=(((hk.trans (aA.new s (.own 34 1 1))).set t1 .dead).trans (aA.new _ (.own 34 1 (a.length+1))));by_cases O:y=first
  .have d:(y != first)=false:=by simp[O]
   (repeat' (first|apply qS|refine qK (zZ ?_)|(refine qR (zZ ?_);simp[g,B,j,C,b,D,F,E,p,q,v,w,A,d])|(apply qC;simp[g,B,j,C,b,D,F,E,p,q,v,w,A,d])|(refine zE ?_;intro J c;simp[g,B,j,C,b,D,F,E,p,q,v,w,A,d];(repeat refine ca ?_);(refine zJ c ?_;clear c J))))
   rw[ac (fun h=>h.1 O)]at L;exact⟨by rw[<- L];simp[z0,oL],V⟩
  .have d:(y != first)=true:=by simp[O]
   by_cases R:0<n
   .have M:a.length+1<(gu P).length:=oO;have N:(a.length:Int)+1<(gu P).length:=oO
    (repeat' (first|apply qS|(apply qC;simp[g,B,j,C,b,D,F,E,p,q,v,w,A,d,M,N])|(refine zE ?_;intro J c;simp[g,B,j,C,b,D,F,E,p,q,v,w,A,d,M,N];(repeat refine ca ?_);(refine zJ c ?_;clear c J))))
    rw[ad ⟨O,R⟩]at L;refine HZ ?_;simp only[ak,nZ,rH,oG,GA];refine U _ _ (T (a++[x]) y (s.z+1) _ _ (by simp;omega) R (by rw[<- L];simp) (aa g) sS (aa j) sS ⟨oO,oO,sS,sS⟩ V)
   .have M:¬a.length+1<(gu P).length:=oO;have N:¬(a.length:Int)+1<(gu P).length:=oO
    (repeat' (first|apply qS|refine qK (zZ ?_)|(refine qR (zZ ?_);simp[g,B,j,C,b,D,F,E,p,q,v,w,A,d,M,N])|(apply qC;simp[g,B,j,C,b,D,F,E,p,q,v,w,A,d,M,N])|(refine zE ?_;intro J c;simp[g,B,j,C,b,D,F,E,p,q,v,w,A,d,M,N];(repeat refine ca ?_);(refine zJ c ?_;clear c J))))
    rw[ac (fun h=>R h.2)]at L;exact⟨by rw[<- L];simp[z0,oL],V⟩
 .rintro n fr s ⟨a,x,t,h1,h2,L,g,B,j,C,⟨E,t1,t2,F⟩,hk⟩ JG S;have b:=(hk.H m N8).trans hm;have D:=Fa x P;obtain⟨n,rfl⟩:∃ k,n=k+1:=⟨n-1,oO⟩;have Y:js P (mn (P.map (·.1))) (n+1) x=x::(if oC P x≠mn (P.map (·.1))/\0<n then js P (mn (P.map (·.1))) n (oC P x)else []):=rfl;rw[Y]at L;clear Y;have T:∀(K:AN) (y:Int) (t:Nat) (UK:af) (I:St),n+K.length=P.length->0<n->K++js P (mn (P.map (·.1))) n y=bY P->UK 0=.mp m->UK 3=.sl t K.length (us K)->UK 4=u (mn (P.map (·.1)))->UK 5=u y->Er t 34 1 K.length o I->aA o I->pw P m o n UK I:=fun K y t UK I q1 q2 q3 q4 q5 q6 q7 q8 q9=>⟨K,y,t,q1,q2,q3,q4,q5,q6,q7,q8,q9⟩;have U:=fun UK I h=>S n UK I oO h;generalize mn (P.map (·.1))=first at *
  generalize oC P x=y at *;have hkn:=hk.z;have p:¬t=s.z:=oO;have q:¬s.z=t:=oO;have v:¬m=s.z:=oO;have w:¬m=s.z+1:=oO;have A:¬m=t:=oO;have V:=(((hk.trans (aA.new s (.own 34 1 1))).set t1 .dead).trans (aA.new _ (.own 34 1 (a.length+1))));by_cases O:y=first
  .have d:(y != first)=false:=by simp[O]
   (repeat' (first|apply qS|refine qK (zZ ?_)|(refine qR (zZ ?_);simp[g,B,j,C,b,D,F,E,p,q,v,w,A,d])|(apply qC;simp[g,B,j,C,b,D,F,E,p,q,v,w,A,d])|(refine zE ?_;intro J c;simp[g,B,j,C,b,D,F,E,p,q,v,w,A,d];(repeat refine ca ?_);(refine zJ c ?_;clear c J))))
   rw[ac (fun h=>h.1 O)]at L;exact⟨by rw[<- L];simp[z0,oL],V⟩
  .have d:(y != first)=true:=by simp[O]
   by_cases R:0<n
   .have M:a.length+1<(gu P).length:=oO;have N:(a.length:Int)+1<(gu P).length:=oO
    (repeat' (first|apply qS|refine qK (zZ ?_)|(apply qC;simp[g,B,j,C,b,D,F,E,p,q,v,w,A,d,M,N])|(refine zE ?_;intro J c;simp[g,B,j,C,b,D,F,E,p,q,v,w,A,d,M,N];(repeat refine ca ?_);(refine zJ c ?_;clear c J))))
    rw[ad ⟨O,R⟩]at L;refine HZ ?_;simp only[ak,nZ,rH,oG,GA];refine U _ _ (T (a++[x]) y (s.z+1) _ _ (by simp;omega) R (by rw[<- L];simp) (aa g) sS (aa j) sS ⟨oO,oO,sS,sS⟩ V)
   .have M:¬a.length+1<(gu P).length:=oO;have N:¬(a.length:Int)+1<(gu P).length:=oO
    (repeat' (first|apply qS|refine qK (zZ ?_)|(refine qR (zZ ?_);simp[g,B,j,C,b,D,F,E,p,q,v,w,A,d,M,N])|(apply qC;simp[g,B,j,C,b,D,F,E,p,q,v,w,A,d,M,N])|(refine zE ?_;intro J c;simp[g,B,j,C,b,D,F,E,p,q,v,w,A,d,M,N];(repeat refine ca ?_);(refine zJ c ?_;clear c J))))
    rw[ac (fun h=>R h.2)]at L;exact⟨by rw[<- L];simp[z0,oL],V⟩
end Aw
namespace Aw
open Go Go.RowKit Pl
def qU(l:AN):AN:=l.foldr xF []
theorem zR:∀ l,(qU l).Pairwise (· < ·)
 |[]=>.nil
 |x::l=>yU x _ (zR l)
theorem pS(x:Int):∀ l,x∈qU l↔x∈l
 |[]=>by simp[qU]
 |y::l=>by have a:=pS x l;unfold qU at a ⊢;rw[List.foldr_cons,pY,a,ah]
def Sq(A:Tn)(a:Int->Nat):uX (ie A a)=A.map (·.1):=by
 induction A with
 |nil=>rfl
 |cons p P b=>simp only[ie,ax,uX]at b ⊢;rw[b];rfl
def TY(m q:Nat)(b:List (AN×LV))(K:AN)(a:St)(I:b.length<=1000)(v:a.H q=.box 87 1 [.mp m])(A:a.H m=.map false [.u32] b)(w:uX b=K)(B:K.Nodup):
 aB prog 63 [.fn (.func 105) [.pt q 0]] a fun r j=>r=.sl 0 (qU K).length (us (qU K))/\aA a j:=by
 refine cE ?_;refine zN func63 ntmps63 [.tmp 2] ?_
 (refine eu ?_;intro J f)
 refine qE (KE m q b _ oO v A) sS ?_;rintro r L ⟨o,e,rfl,rfl⟩;have D:o.length=b.length:=by rw[e.length_eq];simp[uX]
 (refine mQ f ?_;intro J f)
 refine qE (QI o a.z _ oO sS sS) sS ?_;rintro r F ⟨c,t,k,C,n⟩;have s:=n.1;simp only[aH]at s;have g:aA a F:=⟨oO,fun l p=>(n.2 l oO (by simp;omega)).trans ((aA.new a _).H l p)⟩;have E:=k.length_eq;have d:c.Perm K:=by rw[<- w];exact k.trans e
 have y:c=qU K:=by
  refine yX id ?_ (by simpa using zR K) fun x=>by rw[pS];exact d.mem_iff
  rw[vp];refine(sT C (d.nodup_iff.2 B)).imp fun h=>?_;have:=h.1;have:=h.2;omega
 refine dB f ?_;rw[<- y];exact⟨a.z,c.length,⟨rfl,E.symm⟩,_,_,_,t,sS,⟨rfl,by rw[dp sS]⟩,g.set (au _) _⟩
def fT(B:List Ed)(v x:Int):AN:=
 if x<v then(B.map fun e=>2*e.id+if e.b=v then 1 else 0).reverse else B.map fun e=>2*e.id+if e.b=v then 1 else 0
def WQ(B:List Ed)(v x:Int)(t:Nat)(n:St)(hl:B.length<=1000)(P4:∀ e∈B,1<=e.id/\e.id<=1048576):
 aB prog 66 [.sl t B.length (eds B),u v,u x] n fun r U=>r=.sl 0 (fT B v x).length (us (fT B v x))/\U=n:=by
 refine qT (Q:=fun r=>r=.sl 0 (fT B v x).length (us (fT B v x))) (cE ?_) fun r h=>by subst h;exact⟨.inl rfl,yW _ _⟩
 have C:=aJ B;refine zN func66 ntmps66 [.tmp 6] ?_;refine bz ?_;refine BN 7 34 1 sS ?_;refine bH 13 12 14 28 (B.length) (fun j l k=>l 1=u v/\l 2=u x/\l 11=.sl t B.length (eds B)/\aA n k/\∃ q,l 7=.ms q 0 j/\n.z<=q/\q<k.z/\k.H q=.box 34 1 (us ((B.take j).map fun e=>2*e.id+if e.b=v then 1 else 0))) ?_ ?_ ?_
 .exact⟨sS,sS,sS,aA.new _ _,n.z,sS,au _,sS,sS⟩
 .rintro j l s dF ⟨g,p,c,O,q,f,L,q2,m⟩ M fn JO A;have T:=aS B j dF;have u9:j*3<B.length*3:=oO;have C4:((B.take (j+1)).map fun e=>2*e.id+if e.b=v then 1 else 0)=((B.take j).map fun e=>2*e.id+if e.b=v then 1 else 0)++[2*(B.getD j ed0).id+if(B.getD j ed0).b=v then 1 else 0]:=by have h1:B.take (j+1)=B.take j++[B[j]]:=eL dF;rw[h1,cr,fA B j dF];rfl
  have hp:=P4 (B.getD j ed0) (by rw[fA B j dF];exact dq _);have R:((B.take j).map fun e=>2*e.id+if e.b=v then(1:Int)else 0).length=j:=by simp;omega
  generalize B.getD j ed0=y at *;generalize ((B.take j).map fun e=>2*e.id+if e.b=v then(1:Int)else 0)=D at *;obtain⟨d,a,b⟩:=y;simp only at C4 hp T;have V:¬q=s.z:=oO;have o:¬q=s.z+1:=oO;have K:(us D).take j=us D:=dp (by simp;omega);have I:j<=D.length:=oO;have E:(j+1)*4<=140737488355328:=oO;have F:j+1<=maxLen:=by unfold maxLen;omega
  have u5:∀(W X Y:cK),aA n ((((s.new W).new X).set q .dead).new Y):=fun W X Y=>(((O.trans (aA.new _ _)).trans (aA.new _ _)).set L _).trans (aA.new _ _);by_cases N:b=v
  .have S:(b==v)=true:=by simp[N]
   rw[ad N]at C4
   (refine Wt g f c M fn dF T C u9 S ?_;intro J w)
   refine qE (ze d 1 _ oO oO (.inr rfl)) sS ?_;rintro r Z ⟨rfl,rfl⟩;refine Wq w f m V o K I E F ?_;exact A _ _ (aa M) (aa fn) ⟨aa g,aa p,aa c,u5 _ _ _,s.z+1+1,sS,oO,sS,by rw[C4];simp⟩
  .have S:(b==v)=false:=by simp[N]
   rw[ac N]at C4
   (refine Wt g f c M fn dF T C u9 S ?_;intro J w)
   refine qE (ze d 0 _ oO oO (.inl rfl)) sS ?_;rintro r Z ⟨rfl,rfl⟩;refine Wq w f m V o K I E F ?_;exact A _ _ (aa M) (aa fn) ⟨aa g,aa p,aa c,u5 _ _ _,s.z+1+1,sS,oO,sS,by rw[C4];simp⟩
 .rintro l s ⟨g,p,c,O,q,f,L,q2,m⟩;rw[gm]at m;unfold fT;have R:(B.map fun e=>2*e.id+if e.b=v then(1:Int)else 0).length=B.length:=sS;generalize (B.map fun e=>2*e.id+if e.b=v then(1:Int)else 0)=D at *;by_cases P:x<v
  .rw[ad P];rw[<- R]at f
   (refine pq g p f P ?_;intro J w)
   refine qE (zP D q s (by unfold small;omega) m) sS ?_;rintro r Z rfl;refine pH w f ?_;exact⟨q,D.length,⟨rfl,rfl⟩,_,_,_,ad rfl,sS,⟨sS,by rw[dp sS]⟩,(O.set L _).set L _⟩
  .rw[ac P];refine ef g p f P ?_;exact⟨q,B.length,⟨rfl,rfl⟩,_,_,_,m,by simp;omega,⟨R.symm,by rw[dp (by simp;omega)]⟩,O.set L _⟩
abbrev RM:=List (AN×Nat×Nat×List LV)
def mc(a:Nat×Nat×List LV):LV:=.sl a.1 a.2.1 a.2.2
def ji(A:RM):List (AN×LV):=A.map fun a=>(a.1,mc a.2)
def mX(k:AN)(x:Nat×Nat×List LV):RM->RM
 |[]=>[(k,x)]
 |a::A=>if k==a.1 then(k,x)::A else a::mX k x A
def getM(k:AN):RM->Option (Nat×Nat×List LV)
 |[]=>none
 |a::A=>if k==a.1 then some a.2 else getM k A
theorem LK(k:AN)(x:Nat×Nat×List LV):∀ A,bV (ji A) k (mc x)=ji (mX k x A)
 |[]=>rfl
 |a::A=>by
  have b:=LK k x A
  grind [mX,ji,bV]
theorem vJ(k:AN):∀ A,bQ (ji A) k=(getM k A).map mc
 |[]=>rfl
 |a::A=>by
  have b:=vJ k A
  grind [getM,ji,bQ]
theorem nS{k:AN}{x:Nat×Nat×List LV}:∀ {A},getM k A=some x->(k,x)∈A
 |[],h=>by cases h
 |a::A,h=>by
  unfold getM at h
  split at h
  .grind
  .exact ar _ (nS h)
theorem getM_none{k:AN}:∀ {A:RM},getM k A=none->k∉A.map (·.1)
 |[],_=>by simp
 |a::A,h=>by
  unfold getM at h
  split at h
  .cases h
  .rename_i e;simp only[ax,ah,gy];exact⟨by grind,getM_none h⟩
theorem AP{k:AN}{x:Nat×Nat×List LV}:∀ {A:RM},k∉A.map (·.1)->mX k x A=A++[(k,x)]
 |[],_=>rfl
 |a::A,h=>by simp only[ax,ah,gy]at h;unfold mX;rw[ac (by grind),AP h.2];rfl
theorem wS{k:AN}{x:Nat×Nat×List LV}:∀ {A:RM},k∈A.map (·.1)->(mX k x A).map (·.1)=A.map (·.1)
 |a::A,h=>by
  unfold mX;by_cases e:k=a.1
  .grind
  .rw[ac (by grind),ax,ax,wS]
   grind
theorem qZ{k:AN}{x:Nat×Nat×List LV}:∀ {A:RM},(A.map (·.1)).Nodup->∀ a∈mX k x A,a=(k,x)\/(a∈A/\a.1≠k)
 |[],_,a,c=>by grind [mX]
 |b::A,hn,a,c=>by
  obtain⟨j,d⟩:=cb.1 (by grind:(b.1::A.map (·.1)).Nodup);unfold mX at c;by_cases e:k=b.1
  .grind
  .rw[ac (by grind)]at c;rcases ah.1 c with c|c
   .grind
   .rcases qZ d a c with h|⟨f,g⟩
    .grind
    grind
theorem DH{k:AN}{t n:Nat}{c:List LV}:∀ {A:RM},(A.map fun a=>a.2.1).Nodup->(∀ a∈A,a.2.1≠t)->((mX k (t,n,c) A).map fun a=>a.2.1).Nodup
 |[],_,_=>by simp[mX]
 |a::A,hn,h=>by
  obtain⟨j,g⟩:=cb.1 (by grind:(a.2.1::A.map fun a=>a.2.1).Nodup);unfold mX
  split
  .grind
  .rw[ax,cb];refine⟨fun f=>?_,DH g fun b d=>h b (ar _ d)⟩;obtain⟨b,d,e⟩:=aq.1 f;have:b=(k,(t,n,c))\/b∈A:=by
    clear j g h hn f;revert d;clear e;induction A with
    |nil=>grind [mX]
    |cons l A m=>
     grind [mX]
   grind
theorem LX:∀ {A:RM},(A.map fun a=>a.2.1).Nodup->∀ {a b},a∈A->b∈A->a.2.1=b.2.1->a=b
 |[],_,_,_,h,_,_=>by cases h
 |c::A,hn,a,b,d,f,e=>by
  obtain⟨j,g⟩:=cb.1 (by grind:(c.2.1::A.map fun a=>a.2.1).Nodup);rcases ah.1 d with d|d
  .grind
  .rcases ah.1 f with f|f
   .grind
   .exact LX g d f e
structure yL(ag:Bool)(ks:List IntKind)(e w:Nat)(A:RM)(m lo:Nat)(st:St):Prop where
 map:st.H m=.map ag ks (ji A)
 mlt:lo<=m/\m<st.z
 tok:∀ a∈A,a.2.1≠0/\lo<=a.2.1/\a.2.1<st.z/\st.H a.2.1=.own e w a.2.2.1
 inj:(A.map fun a=>a.2.1).Nodup
 nd:(A.map (·.1)).Nodup
def yL.keep{ag:Bool}{d:List IntKind}{e w:Nat}{A:RM}{m f:Nat}{g b:St}(h:yL ag d e w A m f g)(k:aA g b):yL ag d e w A m f b:=by have q:=k.z;have c:=h.mlt;refine⟨(k.H _ c.2).trans h.map,⟨c.1,oO⟩,fun a p=>?_,h.inj,h.nd⟩;obtain⟨j,l,n,o⟩:=h.tok a p;exact⟨j,l,oO,(k.H _ n).trans o⟩
def yL.put{ag:Bool}{ks:List IntKind}{e w:Nat}{A:RM}{m lo:Nat}{st st':St}(h:yL ag ks e w A m lo st){k:AN}{t n:Nat}{c:List LV}
 (ht:st.z<=t/\t<st'.z) (hn:st.z<=st'.z) (hlo:lo<=st.z) (h0:t≠0) (hm:st'.H m=.map ag ks (bV (ji A) k (mc (t,n,c)))) (hT:st'.H t=.own e w n)
 (hK:∀ l,l<st.z->l≠m->(∀ x,getM k A=some x->l≠x.1)->st'.H l=st.H l):yL ag ks e w (mX k (t,n,c) A) m lo st':=by
 have hmm:=h.mlt;rw[LK]at hm;refine⟨hm,⟨hmm.1,oO⟩,fun a ha=>?_,DH h.inj fun a ha=>by have:=(h.tok a ha).2.2.1;omega,?_⟩
 .rcases qZ h.nd a ha with rfl|⟨ha,c7⟩
  .grind
  .obtain⟨h1,h2,h3,h4⟩:=h.tok a ha;refine⟨h1,h2,oO,?_⟩;rw[hK _ h3 (fun q=>by rw[q,h.map]at h4;grind) fun x hx q=>?_]
   .omega
   .have hx:=nS hx;refine c7 ?_;exact(by rw[LX h.inj ha hx q]:a.1=k)
 .by_cases hk:k∈A.map (·.1)
  .rw[wS hk];exact h.nd
  .rw[AP hk,cr,bw];refine⟨h.nd,sS,fun a ha b hb e=>?_⟩
   grind
abbrev aj(e:Ed):Int×Int:=ay e.a e.b
def jX(E:List Ed)(p:Int×Int):List Ed:=E.filter fun e=>decide (aj e=p)
abbrev kK(g:Gr)(v x:Int):List Ed:=jX g.E (ay v x)
abbrev TL:=List (Int×AN)
def pJ(v:Int)(a:AN):TL->TL
 |[]=>[(v,a)]
 |p::T=>if p.1=v then(v,p.2++a)::T else p::pJ v a T
def eF(v:Int):TL->AN
 |[]=>[]
 |p::T=>if p.1=v then p.2 else eF v T
def dX(g:Gr)(v:Int)(L:AN)(T:TL):TL:=L.foldl (fun T x=>pJ v (fT (kK g v x) v x) T) T
def dI(v:Int):Tn->List (Int×Int)
 |[]=>[]
 |a::A=>if a.1=v then a.2 else dI v A
def fS(g:Gr)(A:Tn)(K:AN)(T:TL):TL:=K.foldl (fun T v=>dX g v (bY (dI v A)) T) T
def gU(T:TL):Nat:=(T.map fun p=>p.2.length).sum
def uf(F:List AN)(A:Tn)(T:TL):Prop:=F.length<=300/\(∀ r∈F,r.length<=1000)/\A.length<=1000/\(∀ a∈A,a.2.length<=1000)/\gU T<=100000
instance (F:List (List Int)) (A:Tn) (T:TL):Decidable (uf F A T):=by unfold uf;infer_instance
def vK(g:Gr)(F:List AN)(T:TL):TL:=fS g (aU F) (qU ((aU F).map (·.1))) T
def yR(g:Gr):List (List Ed)->TL->Option (Option TL)
 |[],T=>some (some T)
 |l::bl,T=>(rG l).bind fun o=>match o with
  |none=>some none
  |some F=>if uf F (aU F) (vK g F T)then yR g bl (vK g F T)else none
def iX(g:Gr)(a:List (List Ed)):Option (Option Mp):=
 (yR g a []).bind fun o=>match o with
   |none=>some none
   |some T=>if ∀ v∈g.V,(eF v T).length<=1000 then some (some ⟨g,g.V.map fun v=>ev (eF v T)⟩)else none
theorem Mt(P:List (Int×Int))(f:Int):∀ n x,(js P f n x).length<=n
 |0,_=>by simp[js]
 |n+1,x=>by
  unfold js
  split
  .have:=Mt P f n (oC P x);grind
  .simp
def Jm(P:List (Int×Int)):(bY P).length<=P.length:=Mt _ _ _ _
theorem uC(v:Int)(a:AN):∀ T:TL,gU (pJ v a T)=gU T+a.length
 |[]=>by simp[pJ,gU]
 |p::T=>by
  have b:=uC v a T
  grind [pJ,gU]
theorem wV(g:Gr)(v:Int):∀(L:AN) (T:TL),gU T<=gU (dX g v L T)
 |[],_=>au _
 |x::L,T=>by
  have h:=wV g v L (pJ v (fT (kK g v x) v x) T)
  grind [uC,dX]
theorem DK(g:Gr)(A:Tn):∀(K:AN) (T:TL),gU T<=gU (fS g A K T)
 |[],_=>au _
 |v::K,T=>by
  have h:=DK g A K (dX g v (bY (dI v A)) T)
  grind [wV,fS]
theorem Ap(v:Int):∀ T:TL,(eF v T).length<=gU T
 |[]=>au _
 |p::T=>by
  have a:=Ap v T
  grind [eF,gU]
def Iz(g:Gr)(A:Tn)(K:AN)(T:TL)(j:Nat):fS g A K T=fS g A (K.drop j) (fS g A (K.take j) T):=by
 grind [fS,List.take_append_drop]
def Ia(g:Gr)(v:Int)(L:AN)(T:TL)(j:Nat):dX g v L T=dX g v (L.drop j) (dX g v (L.take j) T):=by
 grind [dX,List.take_append_drop]
theorem Iv{v:Int}:∀ {A:Tn},v∈A.map (·.1)->(v,dI v A)∈A
 |a::A,h=>by
  unfold dI;by_cases e:a.1=v
  .grind
  .rw[ac e];simp only[ax,ah]at h;exact ar _ (Iv (h.resolve_left fun h=>e h.symm))
theorem UW(x y:Int)(P:List (Int×Int)):rK x y P≠[]:=by
 cases P with
 |nil=>simp[rK]
 |cons p P=>grind [rK]
theorem Mo{v x y:Int}:∀ {A:Tn},(∀ a∈A,a.2≠[])->∀ a∈gV v x y A,a.2≠[]
 |[],_,a,c=>by grind [gV]
 |b::A,h,a,c=>by
  unfold gV at c
  split at c
  .grind [UW]
  .rcases ah.1 c with c|c
   .grind
   .exact Mo (fun a c=>h a (ar _ c)) a c
theorem IW(r:AN){A:Tn}(h:∀ a∈A,a.2≠[]):∀ j,∀ a∈jZ r A j,a.2≠[]
 |0=>h
 |j+1=>Mo (IW r h j)
def JV(R:List AN):∀ a∈aU R,a.2≠[]:=by
 unfold aU;have c:∀(R:List AN) (A:Tn),(∀ a∈A,a.2≠[])->∀ a∈R.foldl (fun A r=>jZ r A r.length) A,a.2≠[]:=fun R=>by
  induction R with
  |nil=>grind
  |cons r R b=>exact fun A h=>b _ (IW r h _)
 grind
structure Ff(E:List Ed)(A:RM):Prop where
 row:∀ a∈A,∃ p,a.1=pk p/\a.2.2.1=(jX E p).length/\a.2.2.2=eds (jX E p)
 all:∀ e∈E,pk (aj e)∈A.map (·.1)
theorem DY(E:List Ed)(x:Ed)(p:Int×Int):jX (E++[x]) p=if aj x=p then jX E p++[x]else jX E p:=by
 grind [jX]
def Ff.get{E:List Ed}{A:RM}(h:Ff E A)(j:(A.map (·.1)).Nodup)(p:Int×Int):
 (jX E p=[]/\getM (pk p) A=none)\/∃ t,getM (pk p) A=some (t,(jX E p).length,eds (jX E p)):=by
 cases d:getM (pk p) A with
 |none=>refine .inl ⟨?_,rfl⟩;refine ov.2 fun e f=>?_;obtain⟨a,b⟩:=cx.1 f;exact getM_none d (by rw[<- nj b];exact h.all e a)
 |some x=>
  obtain⟨t,n,c⟩:=x;obtain⟨q,a,b,g⟩:=h.row _ (nS d)
  grind
theorem Ff.add{E:List Ed}{A:RM}(h:Ff E A)(g:(A.map (·.1)).Nodup)(x:Ed)(t:Nat):
 Ff (E++[x]) (mX (pk (aj x)) (t,(jX E (aj x)).length+1,eds (jX E (aj x))++[u x.id,u x.a,u x.b]) A):=by
 refine⟨fun a d=>?_,fun e c=>?_⟩
 .rcases qZ g a d with rfl|⟨d,j⟩
  .grind [DY]
  .obtain⟨p,k,l,m⟩:=h.row a d
   grind [DY]
 .by_cases f:pk (aj x)∈A.map (·.1)
  .rw[wS f];rcases an.1 c with c|c
   .exact h.all e c
   grind
  .rw[AP f,cr,an];rcases an.1 c with c|c
   .exact .inl (h.all e c)
   grind
def uK(T:TL)(A:RM):Prop:=A.map (fun a=>(a.1,a.2.2))=T.map fun p=>([p.1],(p.2.length,us p.2))
theorem uK.get{v:Int}:∀ {T:TL} {A:RM},uK T A->(eF v T=[]/\getM [v] A=none)\/∃ t,getM [v] A=some (t,(eF v T).length,us (eF v T))
 |[],[],_=>.inl ⟨rfl,rfl⟩
 |[],a::A,h=>by cases h
 |p::T,[],h=>by cases h
 |p::T,a::A,h=>by
  obtain⟨ak,b,j,g⟩:=a;simp only[uK,ax,jx,fx]at h;obtain⟨⟨c,d,f⟩,h4⟩:=h;subst c;subst d;subst f;unfold eF getM;by_cases e:p.1=v
  .grind
  .rw[ac e,ac (by grind)];exact uK.get h4
theorem uK.add{v:Int}{ds:AN}(t:Nat):∀ {T:TL} {A:RM},uK T A->uK (pJ v ds T) (mX [v] (t,(eF v T).length+ds.length,us (eF v T)++us ds) A)
 |[],[],_=>by simp[uK,pJ,mX,eF]
 |[],a::A,h=>by cases h
 |p::T,[],h=>by cases h
 |p::T,a::A,h=>by
  obtain⟨ak,b,j,g⟩:=a;simp only[uK,ax,jx,fx]at h;obtain⟨⟨c,d,f⟩,h4⟩:=h;subst c;subst d;subst f;unfold eF pJ mX;by_cases e:p.1=v
  .grind [uK]
  .rw[ac e,ac e,ac (by grind)];have:=uK.add (v:=v) (ds:=ds) t (T:=T) (A:=A) h4
   grind [uK]
end Aw
namespace Aw
open Go Go.RowKit Pl Eu
def PF(F:List AN):List (Int×Int):=F.flatMap ao
def zh(F:List AN):Prop:=∀ R:(Int×Int)->(Int×Int)->Prop,(∀ p q,R p q->R q p)->(∀ p q r,R p q->R q r->R p r)->(∀ r∈F,∀ p∈ao r,∀ q∈ao r,R p q)->(∀ p∈PF F,R p p.swap)->∀ p∈PF F,∀ q∈PF F,R p q
structure Drn(E:List Ed)(h:Sh):Prop where
 nd:(PF h.F).Nodup
 mem:∀ u v,(u,v)∈PF h.F↔u≠v/\ay u v∈h.L
 lnd:h.L.Nodup
 sub:∀ p∈h.L,∃ e∈E,aj e=p
 on:∀ v,v∈h.on↔∃ u,u≠v/\ay u v∈h.L
 cnt:h.F.length+((ai E).filter fun v=>decide (v∈h.on)).length=h.L.length+2
 con:zh h.F
 ne:∀ r∈h.F,r≠[]
def aG(u v:Int):ay u v=ay v u:=by unfold ay;rw[Int.min_comm,Int.max_comm]
def aT{u v x y:Int}(h:ay u v=ay x y):(u=x/\v=y)\/(u=y/\v=x):=by unfold ay at h;injection h with h1 h2;omega
def aX{F:List AN}{p:Int×Int}:p∈PF F↔∃ r∈F,p∈ao r:=gh
theorem sX:∀ {w:AN} {v:Int},2<=w.length->v∈w->∃ u,(u,v)∈ae w\/(v,u)∈ae w
 |a::b::l,v,_,h=>by
  rcases ah.1 h with rfl|h
  .exact⟨b,.inr (by simp[ae])⟩
  .rcases ah.1 h with rfl|c
   .exact⟨a,.inl (by simp[ae])⟩
   .have d:2<=(b::l).length:=by have:=yc c;simp;omega
    obtain⟨u,e⟩:=sX (w:=b::l) d h;exact⟨u,e.imp (fun k=>ar _ k) fun k=>ar _ k⟩
def gX{r:AN}{v:Int}(h:v∈r):∃ u,(v,u)∈ao r:=by
 obtain⟨A,B,rfl⟩:=ij h;unfold ao;cases A with
 |nil=>
  rw[List.nil_append,List.cons_append];cases B with
  |nil=>exact⟨v,by simp[ae]⟩
  |cons b B=>exact⟨b,by simp[ae]⟩
 |cons a A=>
  have e:(a::A++v::B)++(a::A++v::B).take 1=(a::A)++v::(B++[a]):=sS;rw[e,eY];cases B with
  |nil=>exact⟨a,dv _ (by simp[ae])⟩
  |cons b B=>exact⟨b,dv _ (by simp[ae])⟩
def pX{r:AN}{x y:Int}(h:(x,y)∈ao r):x∈r/\y∈r:=by unfold ao at h;have:=bE h;rw[an,an]at this;exact⟨this.1.elim id oz,this.2.elim id oz⟩
theorem kP:∀(P L:List (Int×Int)),P.Nodup->(∀ p∈P,p∉L)->P.foldl Jg L=L++P
 |[],L,_,_=>by simp
 |p::P,L,hn,h=>by
  obtain⟨c,d⟩:=cb.1 hn
  rw[List.foldl_cons,Jg,ac (h p aw),kP P (L++[p]) d fun q b a=>by
   rw[an,bf]at a;rcases a with a|rfl
   .exact h q (ar _ b) a
   .exact c b]
  simp
def fG{w:AN}(h:w.Nodup):(iJ w).Nodup:=by
 obtain⟨c,d⟩:=dL h;rw[dZ,rD,fa];refine c.imp_of_mem fun {p q} hp hq c7 e=>?_;rcases aT e with⟨a,b⟩|⟨a,b⟩
 .exact c7 (io a b)
 .exact(d p.1 p.2 hp).2 (by rw[a,b];exact hq)
def JP{l M on w:AN}(j:l.Nodup)(m:M.Nodup)(f:∀ v∈M,v∈l)(e:∀ v∈M,v∉on)(k:∀ v∈l,v∈w↔v∈M\/(v∈w/\v∈on)):(l.filter fun v=>decide (v∈on++w)).length=(l.filter fun v=>decide (v∈on)).length+M.length:=by
 have o:(l.filter fun v=>decide (v∈on++w)).Perm ((l.filter fun v=>decide (v∈on))++M):=by
  refine(jn (j.sublist jc) (bw.2 ⟨j.sublist jc,m,?_⟩)).2 fun v=>?_
  .rintro a g b n rfl;rw[cx,gg]at g;exact e a n g.2
  .rw[cx,gg,an,an,cx,gg];constructor
   .rintro⟨c,d|d⟩
    .exact .inl ⟨c,d⟩
    .rcases(k v c).1 d with h|h
     .exact .inr h
     .exact .inl ⟨c,h.2⟩
   .rintro(⟨c,d⟩|h)
    .exact⟨c,.inl d⟩
    .exact⟨f v h,.inr ((k v (f v h)).2 (.inl h))⟩
 have:=o.length_eq
 rwa [cf]at this
def mZ{w:AN}(e:2<=w.length):w=w.getD 0 0::(dH w++[w.getD (w.length-1) 0]):=by
 have a:w.length-1<w.length:=oO;have b:w=w.getD 0 0::w.drop 1:=by
  cases w with
  |nil=>simp at e
  |cons x w=>rfl
 have c:w.drop 1=dH w++[w.getD (w.length-1) 0]:=by
  have d:w.drop (w.length-1+1)=[]:=sh oO;unfold dH
  conv=>lhs;rw[<- gd (w.length-2) (w.drop 1)]
  rw[oX,show 1+(w.length-2)=w.length-1 by omega,cp,cg a,Option.getD_some,ir a,d]
 rw[<- c];exact b
section
variable {E:List Ed} {h:Sh} (hD:Drn E h)
include hD
theorem Drn.ring_on{r:AN}(a:r∈h.F){v:Int}(c:v∈r):v∈h.on:=by obtain⟨u,b⟩:=gX c;have:=(hD.mem v u).1 (aX.2 ⟨r,a,b⟩);exact(hD.on v).2 ⟨u,fun e=>this.1 e.symm,by rw[aG];exact this.2⟩
theorem Drn.on_vs{v:Int}(g:v∈h.on):v∈ai E:=by
 obtain⟨u,j,d⟩:=(hD.on v).1 g;obtain⟨e,c,f⟩:=hD.sub _ d;rw[aK];rcases aT f with⟨a,b⟩|⟨a,b⟩
 .exact⟨e,c,.inr b.symm⟩
 .exact⟨e,c,.inl a.symm⟩
theorem Drn.lay{w:AN}{c:Nat}(V0:c < h.F.length)(J7:2<=w.length)(d:w.Nodup)(h1:w.getD 0 0∈h.F.getD c [])(h2:w.getD (w.length-1) 0∈h.F.getD c [])(hm:∀ v∈dH w,v∉h.on)
 (O:∀ x y,(x,y)∈ae w->ay x y∉h.L/\∃ e∈E,aj e=ay x y):Drn E (gT h w c):=by
 have N:=mZ J7;have c7:w.getD 0 0≠w.getD (w.length-1) 0:=fun e=>by rw[N,e]at d;exact(cb.1 d).1 sS
 obtain⟨a,b,ha,hb,q1,V,W⟩:=Ve J7 c7 h1 h2;obtain⟨n1,n2⟩:=dL d;have n:h.F.getD c []∈h.F:=by rw[cp,cg V0];exact dq _
 have o1:=hD.ring_on n h1;have o2:=hD.ring_on n h2;have hFs:∃ Z F2,h.F=Z++h.F.getD c []::F2/\∀ r,h.F.set c r=Z++r::F2:=by
  refine⟨h.F.take c,h.F.drop (c+1),?_,fun r=>?_⟩
  .rw[cp,cg V0,Option.getD_some,<- ir V0,gd]
  .rw[qd,ad V0]
 obtain⟨Z,F2,f1,f2⟩:=hFs;have hlen:(gT h w c).F.length=h.F.length+1:=by simp[gT]
 have A:(gT h w c).F=(h.F.set c (jA (h.F.getD c []) ((h.F.getD c []).idxOf (w.getD 0 0)) ((h.F.getD c []).idxOf (w.getD (w.length-1) 0))++(dH w).reverse))++[jA (h.F.getD c []) ((h.F.getD c []).idxOf (w.getD (w.length-1) 0)) ((h.F.getD c []).idxOf (w.getD 0 0))++dH w]:=rfl;rw[f2]at A;have hL:(gT h w c).L=h.L++iJ w:=by
  have:(gT h w c).L=kF h.L w:=rfl;rw[this];exact kP _ _ (fG d) fun p D=>by rw[dZ]at D;obtain⟨q,o,rfl⟩:=aq.1 D;exact(O q.1 q.2 o).1
 have hOn:(gT h w c).on=h.on++w:=rfl;generalize gT h w c=T at *;generalize jA (h.F.getD c []) ((h.F.getD c []).idxOf (w.getD 0 0)) ((h.F.getD c []).idxOf (w.getD (w.length-1) 0))++(dH w).reverse=X at *;generalize jA (h.F.getD c []) ((h.F.getD c []).idxOf (w.getD (w.length-1) 0)) ((h.F.getD c []).idxOf (w.getD 0 0))++dH w=Y at *;generalize h.F.getD c []=r at *;have B:(PF T.F).Perm (PF h.F++(ae w++ae w.reverse)):=by
  rw[A,f1];unfold PF;simp only[nh,ec,qx,eP];rw[V,W];have j:(List.flatMap ao Z++(a++ae w.reverse++List.flatMap ao F2)++(b++ae w)).Perm (List.flatMap ao Z++((a++b)++List.flatMap ao F2)++(ae w++ae w.reverse)):=by rw[yt];intro x;simp only[List.count_append];omega
  refine j.trans ?_;exact(((q1.symm.append_right _).append_left _).append_right _)
 have C:∀ u v,ay u v∈iJ w↔(u,v)∈ae w\/(v,u)∈ae w:=fun u v=>by
  rw[dZ,aq];constructor
  .rintro⟨q,o,e⟩;rcases aT e with⟨j,s⟩|⟨j,s⟩
   .left;rw[<- j,<- s];exact o
   .right;rw[<- j,<- s];exact o
  .rintro(k|k)
   .exact⟨_,k,rfl⟩
   .exact⟨_,k,aG _ _⟩
 have f:∀ u v,(u,v)∈ae w.reverse↔(v,u)∈ae w:=fun u v=>by
  rw[(oZ w).mem_iff,aq];constructor
  .rintro⟨q,o,e⟩;have:q=(v,u):=by rw[<- kf q,e];rfl
   rw[<- this];exact o
  .intro k;exact⟨_,k,rfl⟩
 have L7:∀ u v,(u,v)∈PF T.F↔u≠v/\ay u v∈T.L:=fun u v=>by
  rw[B.mem_iff,an,an,hD.mem,f,hL,an,C];constructor
  .rintro(⟨H,I⟩|k|k)
   .exact⟨H,.inl I⟩
   .exact⟨(n2 _ _ k).1,.inr (.inl k)⟩
   .exact⟨fun e=>(n2 _ _ k).1 e.symm,.inr (.inr k)⟩
  .rintro⟨H,I|k|k⟩
   .exact .inl ⟨H,I⟩
   .exact .inr (.inl k)
   .exact .inr (.inr k)
 have hmid:∀ v∈w,v∈dH w\/v∈h.on:=fun v g=>by
  rw[N]at g;rcases ah.1 g with e|g
  .exact .inr (by rw[e];exact o1)
  .rcases an.1 g with g|g
   .exact .inl g
   .exact .inr (by rw[bf.1 g];exact o2)
 refine⟨?_,L7,?_,?_,?_,?_,?_,?_⟩
 .refine B.nodup_iff.2 (bw.2 ⟨hD.nd,bw.2 ⟨n1,(dL ((jw w).nodup_iff.2 d)).1,?_⟩,?_⟩)
  .rintro⟨x,y⟩ hx _ P rfl;exact(n2 x y hx).2 ((f _ _).1 P)
  .rintro⟨x,y⟩ hx _ P rfl;have k:=((hD.mem x y).1 hx).2;rcases an.1 P with P|P
   .exact(O x y P).1 k
   .exact(O y x ((f _ _).1 P)).1 (by rw[aG];exact k)
 .rw[hL];refine bw.2 ⟨hD.lnd,fG d,?_⟩;rintro p S7 _ Z7 rfl;rw[dZ]at Z7;obtain⟨q,o,rfl⟩:=aq.1 Z7;exact(O q.1 q.2 o).1 S7
 .intro p u6;rw[hL]at u6;rcases an.1 u6 with k|k
  .exact hD.sub p k
  .rw[dZ]at k;obtain⟨q,o,rfl⟩:=aq.1 k;exact(O q.1 q.2 o).2
 .intro v;rw[hOn,an,hD.on,hL];constructor
  .rintro(⟨u,H,I⟩|k)
   .exact⟨u,H,cX _ I⟩
   .obtain⟨u,k|k⟩:=sX J7 k
    .exact⟨u,(n2 _ _ k).1,dv _ ((C u v).2 (.inl k))⟩
    .exact⟨u,fun e=>(n2 _ _ k).1 e.symm,dv _ ((C u v).2 (.inr k))⟩
  .rintro⟨u,H,I⟩;rcases an.1 I with k|k
   .exact .inl ⟨u,H,k⟩
   .right;rcases(C u v).1 k with k|k
    .exact(bE k).2
    .exact(bE k).1
 .have hmn:(dH w).Nodup:=by rw[N]at d;exact(bw.1 (cb.1 d).2).1
  have hvw:∀ v∈w,v∈ai E:=fun v g=>by
   obtain⟨u,k|k⟩:=sX J7 g
   .obtain⟨e,he,O8⟩:=(O _ _ k).2;rw[aK];rcases aT O8 with⟨j,s⟩|⟨j,s⟩
    .exact⟨e,he,.inr s.symm⟩
    .exact⟨e,he,.inl j.symm⟩
   .obtain⟨e,he,O8⟩:=(O _ _ k).2;rw[aK];rcases aT O8 with⟨j,s⟩|⟨j,s⟩
    .exact⟨e,he,.inl j.symm⟩
    .exact⟨e,he,.inr s.symm⟩
  have hc:=JP (l:=ai E) (M:=dH w) (on:=h.on) (w:=w) ((lG E).imp fun k=>by omega) hmn (fun v g=>hvw v (nE g)) hm fun v _=>⟨fun k=>(hmid v k).imp id fun I=>⟨k,I⟩,fun k=>k.elim nE And.left⟩;have N8:=vD w;have hc0:=hD.cnt;have hwl:=nF w;rw[hlen,hOn,hL,cf,hc];omega
 ·
  intro R hs J hr N4;have m1:∀ p∈ao X,p∈PF T.F:=fun p k=>aX.2 ⟨X,by rw[A];simp,k⟩;have m2:∀ p∈ao Y,p∈PF T.F:=fun p k=>aX.2 ⟨Y,by rw[A];simp,k⟩;have w1:=hr X (by rw[A];simp);have w2:=hr Y (by rw[A];simp);obtain⟨Q,S,J6⟩:∃ x y,(x,y)∈ae w:=by
   obtain⟨u,k|k⟩:=sX J7 (v:=w.getD 0 0) (by rw[cp,cg (by omega:0<w.length)];exact dq _)
   .exact⟨_,_,k⟩
   .exact⟨_,_,k⟩
  have c2:(Q,S)∈ao Y:=by rw[W];exact dv _ J6
  have c1:(S,Q)∈ao X:=by rw[V];exact dv _ ((f _ _).2 J6)
  have cc:R (Q,S) (S,Q):=N4 _ (m2 _ c2);have both:∀ p,p∈ao X\/p∈ao Y->R p (Q,S):=by
   rintro p (k|k)
   .exact J _ _ _ (w1 p k _ c1) (hs _ _ cc)
   .exact w2 p k _ c2
  have x9:∀ p∈ao r,p∈ao X\/p∈ao Y:=fun p k=>by
   rcases an.1 (q1.mem_iff.1 k)with k|k
   .left;rw[V];exact cX _ k
   .right;rw[W];exact cX _ k
  have old:∀ p∈PF h.F,∀ q∈PF h.F,R p q:=by
   refine hD.con R hs J (fun t htF p K q m=>?_) fun p K=>N4 p (B.mem_iff.2 (cX _ K));rw[f1]at htF;rcases an.1 htF with k|k
   .exact hr t (by rw[A];simp[k]) p K q m
   .rcases ah.1 k with e|k
    .subst e;exact J _ _ _ (both p (x9 p K)) (hs _ _ (both q (x9 q m)))
    .exact hr t (by rw[A];simp[k]) p K q m
  obtain⟨U,hp0⟩:=gS a ha;have k0:U∈ao r:=q1.mem_iff.2 (cX _ hp0);have H:U∈PF h.F:=aX.2 ⟨r,n,k0⟩;have z:R U (Q,S):=both U (x9 U k0);have all:∀ p∈PF T.F,R p (Q,S):=fun p D=>by
   rcases an.1 (B.mem_iff.1 D)with k|k
   .exact J _ _ _ (old p k U H) z
   .refine both p ?_;rcases an.1 k with k|k
    .right;rw[W];exact dv _ k
    .left;rw[V];exact dv _ k
  exact fun p K q m=>J _ _ _ (all p K) (hs _ _ (all q m))
 .intro t J;rw[A]at J;have nil:ao []=[]:=rfl;rcases an.1 J with k|k
  .rcases an.1 k with k|k
   .exact hD.ne t (by rw[f1];simp[k])
   .rcases ah.1 k with e|k
    .rintro e0;rw[<- e,e0,nil]at V;exact ha (ye.1 V.symm).1
    .exact hD.ne t (by rw[f1];simp[k])
  .rw[bf]at k;rintro e0;rw[<- k,e0,nil]at W;exact hb (ye.1 W.symm).1
end
def AX(a b:Int)(M:AN):ao (a::(M++[b]))=ae (a::(M++[b]))++[(b,a)]:=by
 have e:ao (a::(M++[b]))=ae ((a::M)++b::[a]):=by unfold ao;simp
 rw[e,eY];rfl
def Ur{a b m:Int}{M:AN}(j:(a::(m::M++[b])).Nodup):(a,b)∉ae (a::(m::M++[b]))/\(b,a)∉ae (a::(m::M++[b])):=by
 obtain⟨c,f⟩:=cb.1 j;have g:b∈m::M++[b]:=sS;have d:m≠b:=fun e=>(cb.1 f).1 (by rw[e];simp);have e:ae (a::(m::M++[b]))=(a,m)::ae (m::M++[b]):=rfl;rw[e];constructor
 .intro h;rcases ah.1 h with h|h
  .injection h with _ h;exact d h.symm
  .exact c (bE h).1
 .intro h;rcases ah.1 h with h|h
  .injection h with h _;exact c (by rw[<- h];exact g)
  .exact c (bE h).2
def Drn.start{E:List Ed}{x:Ed}{m:Int}{M ring:AN}(hx:x∈E)(r:ring=x.a::(m::M++[x.b]))(y:ring.Nodup)(L:∀ u v,(u,v)∈ae ring->∃ e∈E,aj e=ay u v):
 Drn E ⟨kF (kF [] ring) [x.a,x.b],ring++[x.a,x.b],[ring,ring.reverse]⟩:=by
 obtain⟨n1,D⟩:=dL y;have s:=Ur (by rw[<- r];exact y);rw[<- r]at s;have S:x.a≠x.b:=fun e=>by rw[r]at y;exact(cb.1 y).1 (by rw[e];simp)
 have F:ao ring=ae ring++[(x.b,x.a)]:=by
  have:=AX x.a x.b (m::M)
  rwa [<- r]at this
 have H:ao ring.reverse=ae ring.reverse++[(x.a,x.b)]:=by
  have e:ring.reverse=x.b::((m::M).reverse++[x.a]):=by rw[r];simp
  rw[e];exact AX _ _ _
 have j:∀ u v,ay u v∈iJ ring↔(u,v)∈ae ring\/(v,u)∈ae ring:=fun u v=>by
  rw[dZ,aq];constructor
  .rintro⟨q,f,e⟩;rcases aT e with⟨d,c⟩|⟨d,c⟩
   .left;rw[<- d,<- c];exact f
   .right;rw[<- d,<- c];exact f
  .rintro(k|k)
   .exact⟨_,k,rfl⟩
   .exact⟨_,k,aG _ _⟩
 have g:∀ u v,(u,v)∈ae ring.reverse↔(v,u)∈ae ring:=fun u v=>by
  rw[(oZ ring).mem_iff,aq];constructor
  .rintro⟨q,f,e⟩;have:q=(v,u):=by rw[<- kf q,e];rfl
   rw[<- this];exact f
  .intro k;exact⟨_,k,rfl⟩
 have hL:kF (kF [] ring) [x.a,x.b]=iJ ring++[ay x.a x.b]:=by
  have d:kF [] ring=iJ ring:=by
   have:=kP (iJ ring) [] (fG y) fun p _ h=>by cases h
   rw[List.nil_append]at this;exact this
  rw[d];exact kP [ay x.a x.b] (iJ ring) sS fun p o Z=>by rw[bf]at o;subst o;exact((j _ _).1 Z).elim s.1 s.2
 have T:2<=ring.length:=by rw[r];simp
 have J:x.a∈ring:=by rw[r];simp
 have K:x.b∈ring:=by rw[r];simp
 have B:PF [ring,ring.reverse]=(ae ring++[(x.b,x.a)])++(ae ring.reverse++[(x.a,x.b)]):=by simp[PF,F,H]
 rw[hL];refine⟨?_,fun u v=>?_,?_,?_,fun v=>?_,?_,?_,?_⟩
 .show(PF [ring,ring.reverse]).Nodup;rw[B];have n3:=(dL ((jw ring).nodup_iff.2 y)).1;refine bw.2 ⟨bw.2 ⟨n1,sS,?_⟩,bw.2 ⟨n3,sS,?_⟩,?_⟩
  .rintro p o q f rfl;rw[bf]at f;subst f;exact s.2 o
  .rintro p o q f rfl;rw[bf]at f;subst f;exact s.2 ((g _ _).1 o)
  .rintro⟨u,v⟩ o q f rfl;rcases an.1 o with k|k
   .rcases an.1 f with n|n
    .exact(D u v k).2 ((g _ _).1 n)
    .rw[bf]at n;injection n with d c;subst d;subst c;exact s.1 k
   .rw[bf]at k;injection k with d c;subst d;subst c;rcases an.1 f with n|n
    .exact s.1 ((g _ _).1 n)
    .rw[bf]at n;injection n with d c;exact S c
 .show(u,v)∈PF [ring,ring.reverse]↔u≠v/\ay u v∈iJ ring++[ay x.a x.b];rw[B];simp only[an,bf,g,j,fx];constructor
  .rintro((k|⟨rfl,rfl⟩)|k|⟨rfl,rfl⟩)
   .exact⟨(D _ _ k).1,.inl (.inl k)⟩
   .exact⟨fun e=>S e.symm,.inr (aG _ _)⟩
   .exact⟨fun e=>(D _ _ k).1 e.symm,.inl (.inr k)⟩
   .exact⟨S,.inr rfl⟩
  .rintro⟨_,(k|k)|k⟩
   .exact .inl (.inl k)
   .exact .inr (.inl k)
   .rcases aT k with⟨d,c⟩|⟨d,c⟩
    .exact .inr (.inr ⟨d,c⟩)
    .exact .inl (.inr ⟨d,c⟩)
 .refine bw.2 ⟨fG y,sS,?_⟩;rintro p o q f rfl;rw[bf]at f;subst f;exact((j _ _).1 o).elim s.1 s.2
 .intro p u6;rcases an.1 u6 with k|k
  .rw[dZ]at k;obtain⟨q,f,rfl⟩:=aq.1 k;exact L _ _ f
  .exact⟨x,hx,(bf.1 k).symm⟩
 .show v∈ring++[x.a,x.b]↔∃ u,u≠v/\ay u v∈iJ ring++[ay x.a x.b];have e:v∈ring++[x.a,x.b]↔v∈ring:=by
   simp only[an,ah,ml,nq];constructor
   .rintro(k|rfl|rfl)
    .exact k
    .exact J
    .exact K
   .exact .inl
  rw[e];constructor
  .intro k;obtain⟨u,k|k⟩:=sX T k
   .exact⟨u,(D _ _ k).1,cX _ ((j u v).2 (.inl k))⟩
   .exact⟨u,fun e=>(D _ _ k).1 e.symm,cX _ ((j u v).2 (.inr k))⟩
  .rintro⟨u,k1,n⟩;rcases an.1 n with k|k
   .rcases(j u v).1 k with k|k
    .exact(bE k).2
    .exact(bE k).1
   .rcases aT (bf.1 k)with⟨d,c⟩|⟨d,c⟩
    .rw[c];exact K
    .rw[c];exact J
 .have Q:∀ v∈ring,v∈ai E:=fun v hv=>by
   obtain⟨u,k|k⟩:=sX T hv
   .obtain⟨e,C,I⟩:=L _ _ k;rw[aK];rcases aT I with⟨d,c⟩|⟨d,c⟩
    .exact⟨e,C,.inr c.symm⟩
    .exact⟨e,C,.inl d.symm⟩
   .obtain⟨e,C,I⟩:=L _ _ k;rw[aK];rcases aT I with⟨d,c⟩|⟨d,c⟩
    .exact⟨e,C,.inl d.symm⟩
    .exact⟨e,C,.inr c.symm⟩
  have W:=JP (l:=ai E) (M:=ring) (on:=[]) (w:=ring++[x.a,x.b]) ((lG E).imp fun k=>by omega) y Q (fun v _ h=>by cases h) fun v _=>⟨fun k=>by
   rcases an.1 k with k|k
   .exact .inl k
   .rcases ah.1 k with rfl|k
    .exact .inl J
    .rw[bf]at k;subst k;exact .inl K,fun k=>k.elim (cX _) And.left⟩
  have h0:((ai E).filter fun v=>decide (v∈([]:AN)))=[]:=sS;rw[h0,List.nil_append]at W;have hwl:=nF ring;show 2+((ai E).filter fun v=>decide (v∈ring++[x.a,x.b])).length=(iJ ring++[ay x.a x.b]).length+2;rw[W,cf];simp only[List.length_nil,List.length_cons];omega
 .intro R hs z U X p Y q O;have w1:=U ring sS;have w2:=U ring.reverse sS;have V:(x.b,x.a)∈ao ring:=by rw[F];simp
  have c2:(x.a,x.b)∈ao ring.reverse:=by rw[H];simp
  have cc:R (x.b,x.a) (x.a,x.b):=X _ (aX.2 ⟨ring,sS,V⟩);have A:∀ p∈PF [ring,ring.reverse],R p (x.a,x.b):=fun p N=>by
   obtain⟨t,P,k⟩:=aX.1 N;rcases ah.1 P with e|e
   .rw[e]at k;exact z _ _ _ (w1 p k _ V) cc
   .rw[bf.1 e]at k;exact w2 p k _ c2
  exact z _ _ _ (A p Y) (hs _ _ (A q O))
 .intro t z;rcases ah.1 z with rfl|z
  .rw[r];simp
  .rw[bf]at z;subst z;rw[r];simp
def Af{d:Type}[DecidableEq d]{A B:List d}(b:A.Nodup)(e:B.Nodup)(c:∀ x∈A,x∈B)(h:B.length<=A.length):A.Perm B:=by
 refine(jn b e).2 fun x=>⟨c x,fun f=>fv fun g=>?_⟩;have:=fg (cb.2 ⟨g,b⟩) (l₂:=B) fun y a=>by
  rcases ah.1 a with rfl|a
  .exact f
  .exact c y a
 rw[List.length_cons]at this;omega
structure jV(E:List Ed)(F:List AN):Prop where
 nd:(PF F).Nodup
 mem:∀ u v,(u,v)∈PF F↔∃ e∈E,aj e=ay u v
 cnt:F.length+(ai E).length=E.length+2
 con:zh F
 ne:∀ r∈F,r≠[]
def Drn.done{E:List Ed}{h:Sh}(c:Drn E h)(l:∀ e∈E,e.a≠e.b)(t:(E.map aj).Nodup)(s:E.length<=h.L.length):jV E h.F:=by
 have f:h.L.Perm (E.map aj):=by refine Af c.lnd t (fun p f=>?_) (by rw[dh];exact s);obtain⟨e,d,rfl⟩:=c.sub p f;exact de d
 have g:∀ p,p∈h.L↔∃ e∈E,aj e=p:=fun p=>by rw[f.mem_iff,aq]
 refine⟨c.nd,fun u v=>?_,?_,c.con,c.ne⟩
 .rw[c.mem,g];constructor
  .exact And.right
  .rintro⟨e,d,j⟩;refine⟨fun k=>?_,e,d,j⟩;have:=l e d;rcases aT j with⟨m,n⟩|⟨m,n⟩<;>omega
 .have o:=c.cnt;have q:((ai E).filter fun v=>decide (v∈h.on))=ai E:=sc.2 fun v w=>by
   rw[gg,c.on];obtain⟨e,d,k⟩:=(aK v E).1 w;have:=l e d;rcases k with rfl|rfl
   .exact⟨e.b,fun k=>this k.symm,(g _).2 ⟨e,d,aG _ _⟩⟩
   .exact⟨e.a,this,(g _).2 ⟨e,d,rfl⟩⟩
  have r:=f.length_eq;rw[dh]at r;rw[q]at o;omega
def Qs{e:Ed}(h:e.a≠e.b):jV [e] [[e.a,e.b]]:=by
 have c:PF [[e.a,e.b]]=[(e.a,e.b),(e.b,e.a)]:=rfl;have m:(ai [e]).length=2:=by
  have g:(ai [e]).Perm [e.a,e.b]:=(jn ((lG _).imp fun k=>by omega) (aa h)).2 fun v=>by rw[aK];simp
  rw[g.length_eq];rfl
 refine⟨by rw[c];simp[h],fun u v=>?_,by rw[m];rfl,fun R o r l n p g q j=>?_,sS⟩
 .rw[c];simp only[ah,ml,nq,fx,exists_eq_left];constructor
  .rintro(⟨rfl,rfl⟩|⟨rfl,rfl⟩)
   .rfl
   .exact aG _ _
  .intro k;rcases aT k with⟨d,f⟩|⟨d,f⟩
   .exact .inl ⟨d.symm,f.symm⟩
   .exact .inr ⟨f.symm,d.symm⟩
 .exact l [e.a,e.b] sS p (by simpa[PF]using g) q (by simpa[PF]using j)
theorem Kt:∀(l:AN) (k:Nat),k+1<l.length->(ae l)[k]?=some (l.getD k 0,l.getD (k+1) 0)
 |[],k,h=>by simp at h
 |[_],k,h=>by simp at h
 |a::b::l,0,_=>by simp[ae]
 |a::b::l,k+1,h=>by have:=Kt (b::l) k (by simpa using h);simpa[ae]using this
def oB(r:AN):(ao r).length=r.length:=by
 unfold ao;rw[yT,cf,dn];cases r with
 |nil=>rfl
 |cons a r=>simp
def Fj(r:AN)(k:Nat)(h:k<r.length):(ao r)[k]?=some (r.getD k 0,r.getD ((k+1) % r.length) 0):=by
 have d:(r++r.take 1).length=r.length+1:=by rw[cf,dn];omega
 unfold ao;rw[Kt _ k oO];have b:(r++r.take 1).getD k 0=r.getD k 0:=by rw[cp,jv h,<- cp]
 have c:(r++r.take 1).getD (k+1) 0=r.getD ((k+1) % r.length) 0:=by
  rw[cp];by_cases a:k+1<r.length
  .rw[jv a,ej a,<- cp]
  .have:k+1=r.length:=oO;rw[mw oO,this,ri,Nat.sub_self,List.getElem?_take_of_lt oO,<- cp]
 rw[b,c]
def iz(r:AN):List (Int×Int×Int):=(List.range r.length).map fun k=>(r.getD (jS r.length k) 0,r.getD k 0,r.getD ((k+1) % r.length) 0)
def Aa(A:Tn)(t:Int×Int×Int):Tn:=gV t.2.1 t.1 t.2.2 A
def rI{n k:Nat}(h:k<n):jS n k<n/\(jS n k+1) % n=k:=by
 unfold jS
 split
 .rename_i e;subst e;exact⟨oO,by rw[show n-1+1=n by omega,ri]⟩
 .exact⟨oO,by rw[show k-1+1=k by omega,ej h]⟩
theorem DX(r:AN)(A:Tn):∀ j,j<=r.length->jZ r A j=((iz r).take j).foldl Aa A
 |0,_=>rfl
 |j+1,h=>by
  have a:(iz r).take (j+1)=(iz r).take j++[(r.getD (jS r.length j) 0,r.getD j 0,r.getD ((j+1) % r.length) 0)]:=by unfold iz;rw[eL (by simp;omega)];simp
  rw[a,lq,<- DX r A j oO];rfl
def xS(F:List AN):aU F=(F.flatMap iz).foldl Aa []:=by
 unfold aU;have a:∀(F:List AN) (A:Tn),F.foldl (fun A r=>jZ r A r.length) A=(F.flatMap iz).foldl Aa A:=by
  intro F;induction F with
  |nil=>intro A;rfl
  |cons r F b=>intro A;rw[List.foldl_cons,b,ec,lq,DX r A _ (au _),dp (by simp[iz])]
 exact a F []
theorem DR(v b x y:Int):∀ A:Tn,dI b (gV v x y A)=if b=v then rK x y (dI v A)else dI b A
 |[]=>by
  unfold gV;by_cases h:b=v
  .subst h;simp[dI,rK]
  .simp only[dI,ac h,ac (fun e:v=b=>h e.symm)]
 |a::A=>by
  have d:=DR v b x y A;unfold gV;by_cases c:a.1=v
  .rw[ad c];by_cases h:b=v
   .subst h;simp[dI,c]
   .simp only[dI,ac h,ac (fun e:v=b=>h e.symm),ac (fun e:a.1=b=>h (by rw[<- e,c]))]
  .rw[ac c];by_cases h:b=v
   .subst h;rw[ad rfl]at d ⊢;simp only[dI,ac c,d]
   .rw[ac h]at d ⊢;simp only[dI,d]
theorem JF(x y:Int):∀ P:List (Int×Int),x∉P.map (·.1)->rK x y P=P++[(x,y)]
 |[],_=>rfl
 |p::P,h=>by rw[ax,ah,gy]at h;unfold rK;rw[ac fun e=>h.1 e.symm,JF x y P h.2];rfl
def PA(v:Int):∀(T:List (Int×Int×Int)),(T.map fun t=>(t.1,t.2.1)).Nodup->dI v (T.foldl Aa [])=(T.filter fun t=>decide (t.2.1=v)).map fun t=>(t.1,t.2.2):=by
 intro T;induction T using xZ with
 |h0=>intro _;rfl
 |h1 T t a=>
  intro b;rw[cr,bw]at b;have a:=a b.1;rw[lq,List.foldl_cons,List.foldl_nil,qn,cr,<- a];rw[show Aa (T.foldl Aa []) t=gV t.2.1 t.1 t.2.2 (T.foldl Aa []) from rfl,DR];by_cases h:v=t.2.1
  .subst h;rw[ad rfl,JF]
   .simp
   .rw[a,dy];intro d;obtain⟨s,c,e⟩:=aq.1 d;rw[cx,gg]at c;exact b.2.2 _ (de (f:=fun t:Int×Int×Int=>(t.1,t.2.1)) c.1) (t.1,t.2.1) sS (io e c.2)
  .rw[ac h];have:¬t.2.1=v:=fun e=>h e.symm;simp[this]
def VK(r:AN):((iz r).map fun t=>(t.1,t.2.1)).Perm (ao r):=by
 have e:ao r=(List.range r.length).map fun k=>(r.getD k 0,r.getD ((k+1) % r.length) 0):=by
  refine og fun k=>?_;by_cases h:k<r.length
  .rw[Fj r k h];simp[h]
  .rw[nw (by rw[oB];omega),nw (by simp;omega)]
 have d:((iz r).map fun t=>(t.1,t.2.1))=((List.range r.length).map (jS r.length)).map fun k=>(r.getD k 0,r.getD ((k+1) % r.length) 0):=by unfold iz;rw[dy,dy];refine ii fun k c=>?_;have:=(rI (fC.1 c)).2;simp only[Function.comp_apply,this]
 rw[e,d];refine List.Perm.map _ (Af ?_ qy (fun x g=>?_) sS)
 .unfold List.Nodup;rw[fa];refine nv.imp_of_mem fun {a b} ha hb x9 h=>?_;have f:=(rI (fC.1 ha)).2;have j:=(rI (fC.1 hb)).2;rw[h]at f;omega
 .obtain⟨k,c,rfl⟩:=aq.1 g;exact fC.2 (rI (fC.1 c)).1
def xA(F:List AN):((F.flatMap iz).map fun t=>(t.1,t.2.1)).Perm (PF F):=by
 induction F with
 |nil=>exact .refl _
 |cons r F a=>unfold PF at a ⊢;rw[ec,ec,cr];exact(VK r).append a
def cd(p:Int×Int):Int:=p.1*4194304+p.2
def wU{p:Int×Int}(h:0<=p.2/\p.2<4194304):cd p / 4194304=p.1:=by unfold cd;omega
def dJ{p q:Int×Int}(h:0<=p.2/\p.2<4194304)(k:0<=q.2/\q.2<4194304)(e:cd p=cd q):p=q:=by unfold cd at e;exact io oO oO
def PT{r:AN}(s:(ao r).Nodup)(c:∀ v∈r,0<=v/\v<4194304){t:Int×Int×Int}(h:t∈iz r):(t.1,t.2.1)∈ao r/\(t.2.1,t.2.2)∈ao r/\nx ((ao r).map cd) (cd (t.1,t.2.1))=cd (t.2.1,t.2.2):=by
 unfold iz at h;obtain⟨k,d,rfl⟩:=aq.1 h;rw[fC]at d;obtain⟨y,m⟩:=rI d;have q:=oB r;have f:(ao r)[jS r.length k]'(by omega)=(r.getD (jS r.length k) 0,r.getD k 0):=by have:=Fj r _ y;rw[cg oO,ap]at this;rw[this,m]
 have g:(ao r)[k]'(by omega)=(r.getD k 0,r.getD ((k+1) % r.length) 0):=by have:=Fj r _ d;rw[cg oO,ap]at this;exact this
 have l:∀ p∈ao r,0<=p.2/\p.2<4194304:=fun p w=>c _ (pX (x:=p.1) w).2;have n:((ao r).map cd).Nodup:=by unfold List.Nodup;rw[fa];exact s.imp_of_mem fun {a b} ha c c7 e=>c7 (dJ (l a ha) (l b c) e)
 have o:((ao r).map cd).length=r.length:=by rw[dh,q]
 refine⟨by rw[<- f];exact dq _,by rw[<- g];exact dq _,?_⟩;simp only;rw[<- f,<- g];have:=iI n (j:=jS r.length k) oO;simp only[oh]at this;rw[this]
 congr 1
 simp only[o,m]
def cw(E:List Ed):List (Int×Int):=E.map fun e=>(cd (e.a,e.b),cd (e.b,e.a))
theorem oF(s:Int->Int){x:Int}:∀ P:List (Int×Int),(∀ p∈P,x≠p.1/\x≠p.2)->ce s P x=s x
 |[],_=>rfl
 |p::P,h=>by unfold ce;rw[jT (h p aw).1 (h p aw).2];exact oF s P fun q a=>h q (ar _ a)
theorem LG(s:Int->Int){u v:Int}:∀ E:List Ed,(∀ e∈E,(0<=e.a/\e.a<4194304)/\0<=e.b/\e.b<4194304)->(E.map aj).Nodup->(∃ e∈E,aj e=ay u v)->ce s (cw E) (cd (v,u))=s (cd (u,v))
 |[],_,_,h=>by obtain⟨_,h,_⟩:=h;cases h
 |e::E,hb,hn,h=>by
  rw[ax,cb]at hn;have j:=hb e aw;have g:=fun e m=>hb e (ar _ m);by_cases m:aj e=ay u v
  .have r:∀ x y,ay x y=aj e->(0<=x/\x<4194304)->(0<=y/\y<4194304)->∀ p∈cw E,cd (x,y)≠p.1/\cd (x,y)≠p.2:=by
    intro x y o z w p n;obtain⟨f,hf,rfl⟩:=aq.1 n;have l:=g f hf;constructor
    .intro k;have:=dJ (p:=(x,y)) (q:=(f.a,f.b)) w l.2 k;injection this with k1 k2;exact hn.1 (aq.2 ⟨f,hf,by rw[<- o,k1,k2]⟩)
    .intro k;have:=dJ (p:=(x,y)) (q:=(f.b,f.a)) w l.1 k;injection this with k1 k2;exact hn.1 (aq.2 ⟨f,hf,by rw[<- o,k1,k2];exact aG _ _⟩)
   show ce s (cw E) (Eu.sw (cd (e.a,e.b)) (cd (e.b,e.a)) (cd (v,u)))=_;rcases aT m with⟨c,d⟩|⟨c,d⟩
   .rw[<- c,<- d,Cm,oF s _ (r e.a e.b rfl j.1 j.2)]
   .rw[<- c,<- d,tG,oF s _ (r e.b e.a (aG _ _) j.2 j.1)]
  .obtain⟨f,hf,n⟩:=h;rcases ah.1 hf with rfl|hf
   .exact absurd n m
   show ce s (cw E) (Eu.sw (cd (e.a,e.b)) (cd (e.b,e.a)) (cd (v,u)))=_;have l:=g f hf;have t:(0<=u/\u<4194304)/\0<=v/\v<4194304:=by
    rcases aT n with⟨c,d⟩|⟨c,d⟩
    .rw[<- c,<- d];exact l
    .rw[<- c,<- d];exact⟨l.2,l.1⟩
   rw[jT]
   .exact LG s E g hn.2 ⟨f,hf,n⟩
   .intro k;have:=dJ (p:=(v,u)) (q:=(e.a,e.b)) t.1 j.2 k;injection this with k1 k2;exact m (by rw[k1,k2];exact aG _ _)
   .intro k;have:=dJ (p:=(v,u)) (q:=(e.b,e.a)) t.1 j.1 k;injection this with k1 k2;exact m (by rw[k1,k2])
end Aw
end Go.Proofs.YtbgngpdonpeboaaGreatDoor
