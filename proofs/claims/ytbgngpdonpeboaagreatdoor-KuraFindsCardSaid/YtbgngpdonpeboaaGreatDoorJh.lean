/- Lemmas. -/
import Derived.Test.YtbgngpdonpeboaaGreatDoorJg
import Derived.RangeFuncSeq
import Derived.Maps.RangeWalk
import Derived.Test.YtbgngpdonpeboaaGreatDoorAwGo
set_option linter.unusedSectionVars false
set_option linter.defProp false
set_option maxHeartbeats 2000000
open Go.Proofs.Tryz
namespace Go.Proofs.YtbgngpdonpeboaaGreatDoor
namespace Rg
open Go Go.RowKit Go.Shelf
open Go.ChangeMaps (setBlock)
attribute [local go_sem] Oper.semAt_some
section
variable {F:Fence} {n:Nat} {P:Program} (w:World) {ops:Array Oper} {rest:List Oper} {o:Oper} {a:Act} {Q:Exit->Act->World->Prop}
theorem rZ(l:o.guard=none)(m:Operand)(t k e:TypeId)(d:o.op=Op.range t m)(q:P.underlying t=some (.map k e))(b:Nat)(f:Array MapEntry)(clock:Nat)(p:a.eval m=.map (some b))(j:w.heap[b]?=some (.map f clock))
 (h:∀ g,g=w.alloc (.mapIter (some b) clock #[] clock)->wpListIn F n P ops Q rest (a.put o.dst (.pointer (some ⟨w.heap.size,0,none⟩))) g):wpListIn F n P ops Q (o::rest) a w:=by
 refine wpListIn_plain l fun s c=>?_;have r:=run_range_map (P:=P) w t k e b f clock q j;unfold Oper.wpIn;refine⟨?_,?_⟩
 .grind [Oper.about]
 .rw[Oper.semAt_plain F _ _ (by grind)];simp[execOp,d,p,r,Result.andThen];exact c _ _ (h _ rfl)
theorem sU(I:o.guard=none)(it:Operand)(p:o.op=Op.next it false)(r b clock c:Nat)(seen:Array Nat)(d:Array MapEntry)(m:a.eval it=.pointer (some ⟨r,0,none⟩))(s:w.heap[r]?=some (.mapIter (some b) clock seen c))(B:w.heap[b]?=some (.map d clock))
 (h:∀ x∈d.toList,x.born<clock) (z:(d.toList.map (·.born)).Nodup) (H:clock<=c)
 (f:(∀ x∈d.toList,seen.contains x.born=true)->wpListIn F n P ops Q rest (a.put o.dst (.tuple #[.bool false])) w)
 (g:∀(e:MapEntry) (j t:World),e∈d.toList->seen.contains e.born=false->(j=w\/j=w.drew)->t=setBlock j r (.mapIter (some b) clock (seen.push e.born) clock)->(Instr.entry (.pointer (some ⟨r,0,none⟩))).run P t=.ok (.tuple #[e.key,e.val]) t->wpListIn F n P ops Q rest (a.put o.dst (.tuple #[.bool true,e.key,e.val])) t):
 wpListIn F n P ops Q (o::rest) a w:=by
 refine wpListIn_plain I fun K k=>?_;unfold Oper.wpIn;refine⟨by grind [Oper.about],?_⟩;rw[Oper.semAt_plain F _ _ (by grind)];rcases run_next_at (P:=P) w o.type r b clock c seen d clock s B h H with⟨C,A⟩|⟨e,v,j,q,A⟩
 .simp[execOp,p,m,A,Result.andThen];exact k _ _ (f fun x J=>all_seen d seen C x J)
 .obtain⟨l,y⟩:=mem_left v;have M:=(ig.1 s).1;have E:b≠r:=by rintro rfl;rw[B]at s;cases s
  have L:j.heap=w.heap:=by rcases q with rfl|rfl<;>rfl
  have D:=run_entry_at (P:=P) (setBlock j r (.mapIter (some b) clock (seen.push e.born) clock)) r b clock seen d clock e
   (by grind [setBlock]) (by grind [setBlock]) l z
  simp[execOp,p,m,A,Result.andThen];exact k _ _ (g e j _ l y q rfl D)
end
def FH(w c:World)(h:c=w\/c=w.drew)(r:Nat)(o:Obj):w.grownBy (setBlock c r o) (some r):=by
 have e:c.heap=w.heap:=by rcases h with rfl|rfl<;>rfl
 have a:c.os=w.os/\c.tape=w.tape/\c.output=w.output:=by rcases h with rfl|rfl<;>exact⟨rfl,rfl,rfl⟩
 refine⟨a.1,a.2.1,a.2.2,by grind [setBlock],fun b d Tv=>?_⟩
 grind [setBlock]
def xW(b:PP)(a:List MapEntry)(seen:Array Nat):PP:=(Aw.lft (b.map fun v=>([v],.dead)) a seen).map fun e=>e.1.headD 0
theorem DA{a:PP}{b:List MapEntry}(h:a.length=b.length):xW a b #[]=a:=by unfold xW;rw[Aw.AX (by grind),dC];exact(jf fun v _=>rfl).trans (xz a)
variable{seen:Array Nat}{b:List Int}{a:List MapEntry}
def Ff{e:MapEntry}(h:b.length=a.length)(c:a.map (·.key)=b.map (Value.int .u32))(r:(a.map (·.born)).Nodup)(n:e∈a)(t:seen.contains e.born=false):
 ∃ x d f,e.key=.int .u32 x/\xW b a seen=d++x::f/\xW b a (seen.push e.born)=d++f:=by
 obtain⟨p,d,f,y,z,m⟩:=Aw.Jq (es:=b.map fun v=>(([v],.dead):PP×Aw.LV)) (by grind) r n t;have w:∀ q∈(b.map fun v=>(([v],.dead):PP×Aw.LV)).zip a,∃ x,q.1=([x],.dead)/\q.2.key=.int .u32 x:=by intro q s;obtain⟨j,o,rfl⟩:=xf.1 s;simp only[xr,du]at o;rw[vk,pz];refine⟨b[j],rfl,?_⟩;have:=congrArg (fun l=>l[j]?) c;simp only[ow,bu (show j<a.length by omega),bu (show j<b.length by omega),Option.map_some,ap]at this;exact this
 obtain⟨x,k,g⟩:=w _ m;simp only at k g;subst k;exact⟨x,d.map (fun e=>e.1.headD 0),f.map (fun e=>e.1.headD 0),g,by grind [xW],by grind [xW]⟩
def FA(h:∀ x∈a,seen.contains x.born=true):xW b a seen=[]:=by
 grind [xW,Aw.LC]
def zA(W:World)(b:Nat)(c:PP):Prop:=∃(a:List MapEntry) (clock:Nat),W.heap[b]?=some (.map a.toArray clock)/\a.map (·.key)=c.map (Value.int .u32)/\(∀ x∈a,x.born<clock)/\(a.map (·.born)).Nodup
def KeepsOthers.walks{W a:World}(h:KeepsOthers W a):KeepsWalks W a:=⟨h.size,fun k o b c=>h.same k o b (by cases o<;>first|rfl|cases c)⟩
set_option maxRecDepth 100000 in
def VU(F:Fence)(n:Nat)(h7:F.fn 105)(hro:F.round=none)(hn:1<=n)(l Bm b:Nat)(vs:PP)(W:World)(J Jx:PP->World->Prop)(hJ:AbidesFrom W.heap.size J)
 (hY:∀ pre x W1,J pre W1->pre.length<vs.length->YieldAt F (n-1) prog l #[.int .u32 x] W1 fun e W'=>
   (e=.returned (.bool true)/\J (pre++[x]) W'/\KeepsWalks W1 W')\/(e=.returned (.bool false)/\Jx (pre++[x]) W'))
 (hm:W.cell? ⟨Bm,0,none⟩=some (.map (some b))) (hB:zA W b vs) (h0:J [] W):
 CallsIn F n prog 105 #[.func (.yield l) #[] #[],.pointer (some ⟨Bm,0,none⟩)] W fun e W'=>(∃ v,e=.returned v)/\
  ((∃ ys:PP,ys.Perm vs/\J ys W')\/(∃ pre,True/\Jx pre W')):=by
 obtain⟨dK,clock,hb,hkey,hborn,hnd⟩:=hB;have hlen:vs.length=dK.length:=by have:=congrArg List.length hkey;simpa using this.symm
 have lb:=(ig.1 hb).1;refine callsIn_of_wp func105 rfl h7 ?_ hro;simp only[ntmps105,jh,List.length_cons,List.length_nil,Nat.reduceAdd,Nat.reduceSub,mo,Array.replicate_zero,mz,mq,List.nil_append,List.cons_append]
 gi_wp2_with (first
  |(refine rZ _ rfl _ 87 _ _ rfl underlying87 b dK.toArray clock rfl hb ?_;intro w0 hw0)
  |gi_in)
 go_frame
 have hI0:w0.heap[W.heap.size]?=some (.mapIter (some b) clock #[] clock):=by rw[hw0];exact World.alloc_heap_new _ _
 have hb0:w0.heap[b]?=some (.map dK.toArray clock):=by rw[hw0];exact(Below.heap_alloc _ _ b lb).trans hb
 have hg0:W.grownBy w0 none:=by rw[hw0];exact World.grownBy_alloc W _ none
 have hJ0:J [] w0:=hJ [] W w0 none h0 hg0 (fun r e=>by cases e);clear hw0 hg0
 gi_loopw [3] (fun _ wr=>∃(seen:Array Nat) (c:Nat) (ss:PP),clock<=c/\wr.heap[W.heap.size]?=some (.mapIter (some b) clock seen c)/\wr.heap[b]?=some (.map dK.toArray clock)/\(ss++xW vs dK seen).Perm vs/\J ss wr)
  (fun _ wr=>match wr.heap[W.heap.size]? with|some (.mapIter _ _ seen _)=>(xW vs dK seen).length|_=>0)
 case atStart=>exact⟨#[],clock,[],au _,hI0,hb0,by grind [DA],hJ0⟩
 case round=>
  obtain⟨seen,c,ss,hcc,hit,hbm,u6,hJs⟩:=hrel
  gi_wp2_with (first
   |(refine sU _ rfl _ rfl W.heap.size b clock c seen dK.toArray rfl hit hbm (fun x hx=>hborn x O) O hcc ?_ ?_)
   |gi_in)
  .intro hall;have Z9:xW vs dK seen=[]:=FA fun x hx=>by grind
   rw[Z9,dT]at u6
   gi_wp2
   go_end0
   grind
  .intro e w1 w2 he hs hw1 hw2 hen;obtain⟨x,L1,L2,hx,hL1,hL2⟩:=Ff (seen:=seen) hlen hkey hnd (by simpa using he) (by grind);have hg2:wr.grownBy w2 (some W.heap.size):=by rw[hw2];exact FH wr w1 hw1 _ _
   have hJ2:J ss w2:=hJ ss wr w2 (some W.heap.size) hJs hg2 (fun r e=>by cases e;exact⟨au _,_,hit,rfl⟩);have hh:w1.heap=wr.heap:=by rcases hw1 with rfl|rfl<;>rfl
   have Tv:b≠W.heap.size:=O;have hit2:w2.heap[W.heap.size]?=some (.mapIter (some b) clock (seen.push e.born) clock):=by rw[hw2];simp only[setBlock];rw[oY,ac rfl,ac (by grind)]
   have hbm2:w2.heap[b]?=some (.map dK.toArray clock):=by rw[hw2];simp only[setBlock];rw[oY,aa (fun e=>Tv e.symm),hh];exact hbm
   have dS:ss.length<vs.length:=by have:=u6.length_eq;rw[hL1]at this;simp at this;omega
   obtain⟨fn,tmps,assign,body,hy,hR⟩:=hY ss x w2 hJ2 dS;rw[hx]at hen ⊢;clear hw2 hg2
   gi_wp2
   refine hR.mono ?_;rintro e3 W3 (⟨rfl,hJ3,o9⟩|⟨rfl,hJx3⟩)
   .gi_wp2
    have hit3:=o9.same _ _ hit2 rfl;have hbm3:=o9.same _ _ hbm2 rfl
    go_roundw
    case rel=>exact⟨seen.push e.born,clock,ss++[x],au _,hit3,hbm3,by
     grind,hJ3⟩
    grind
   .gi_wp2
    refine bodyPost_ret (results_none rfl _ _ _) rfl ?_
    grind
def Jb(F:Fence)(n:Nat)(r:F.fn 105)(g:F.round=none)(z:1<=n)(a b:Nat)(c:PP)(w:World)(e:a<w.heap.size)(y:w.cell? ⟨a,0,none⟩=some (.map (some b)))(s:zA w b c):
 SeqStopsK F n prog 105 #[.pointer (some ⟨a,0,none⟩)] (fun x:Int=>#[Value.int .u32 x]) KeepsWalks (fun A=>A.Perm c) (fun _=>True) c.length w:=fun l J m W j t _ v q=>by
 have f:=(j.cell (p:=⟨a,0,none⟩) e).trans y;have d:zA W b c:=by obtain⟨o,clock,k,h⟩:=s;exact⟨o,clock,(j.block b (ig.1 k).1).trans k,h⟩
 exact VU F n r g z l a b c W J m t v f d q
set_option maxRecDepth 100000 in
def GU(F:Fence)(n:Nat)(h3:F.fn 147)(h7:F.fn 105)(hro:F.round=none)(hn:3<=n)(Bm b:Nat)(vs:PP)(hlen:vs.length<=1048576)(w:World)(hBm:Bm<w.heap.size)
 (hm:w.cell? ⟨Bm,0,none⟩=some (.map (some b))) (hB:zA w b vs):
 CallsIn F n prog 147 #[.slice none 0 0,.func (.func 105) #[] #[.pointer (some ⟨Bm,0,none⟩)]] w fun e W'=>∃ v ys,e=.returned v/\List.Perm ys vs/\W'.ownsRow w.heap.size 34 1 v ys.length (ys.map (Value.int .u32))/\Below w.heap.size w W':=by
 have h1:1<=n:=O;obtain⟨i0,hi,hz0,hz1,hz2⟩:=info_parts UJ;refine callsIn_of_wp_marks func147 rfl h3 ?_ hro;simp only[ntmps147,jh,List.length_cons,List.length_nil,Nat.reduceAdd,Nat.reduceSub,mo,Array.replicate_zero,mz,mq,List.nil_append,List.cons_append]
 gi_wp2
 have bO:=Boxed.new w 22 (.slice none 0 0);have hB0:Below w.heap.size w (w.alloc (.cells #[.slice none 0 0] 22)):=(Below.refl _ w).alloc (au _) _;have hB':zA (w.alloc (.cells #[.slice none 0 0] 22)) b vs:=by obtain⟨dK,clock,hb,h⟩:=hB;exact⟨dK,clock,(hB0.block b (ig.1 hb).1).trans hb,h⟩
 refine wpIn_rangeFunc_ownG hro h1 (gf:=105) (lb:=#[.pointer (some ⟨Bm,0,none⟩)]) rfl h7 (enters_of func105 (by kernel_rfl) rfl)
  (Jb F (n-1) h7 hro O Bm b vs _ (by simp;omega) ((hB0.cell (p:=⟨Bm,0,none⟩) hBm).trans hm) hB') walksK_t walksK_b (Below.refl _ _) (fun _=>rfl)
  (fun pre W=>(∃ v,Boxed W w.heap.size 22 v/\W.ownsRow w.heap.size 34 1 v pre.length (pre.map (Value.int .u32))/\True)/\Below w.heap.size w W)
  (fun _ _ _=>False)
  (OwnFrom.and (Own.from (holdsRow_own w.heap.size w.heap.size 22 34 1 (fun pre:PP=>pre.length) (fun pre:PP=>pre.map (Value.int .u32)) (fun _ _=>True)) _) (ownFrom_below (au _) Y))
  (fun _ _ _ _ _ hs _ _=>hs)
  ⟨⟨_,bO,World.ownsRow_nil _ _ _ _,trivial⟩,hB0⟩
  (fun x=>{ tmps:=#[.slice none 0 0,.func (.func 105) #[] #[.pointer (some ⟨Bm,0,none⟩)],.pointer (some ⟨w.heap.size,0,none⟩),undef,.slice none 0 0,.int .u32 x,.func (.func 105) #[] #[.pointer (some ⟨Bm,0,none⟩)],.int .u32 x,undef,undef,undef,undef,undef],defers:=[] }) ?assign ?body ?done ?stop
 case assign=>
  intro l x W K hK
  gi_wp2
  omega
 case body=>
  rintro l pre x W ⟨⟨v,hv,c7,_⟩,hB⟩ dS;have hc:=hv.cell
  gi_wp2_with (gi_at_builtin;refine wpListIn_append_own _ rfl _ _ 22 rfl w.heap.size 34 i0 (.int .u32 0) 1 4 underlying22 hi hz0 hz1 hz2 rfl (by decide) _ _ _ rfl (c7.alloc _) ⟨W.heap.size,0,none⟩ 1 1 [.int .u32 x] rfl rfl (cell_one_new _ _ _) (by simp[Value.oneCell']) (by grind [maxLen]) O (by have:=hB.size;simp;omega) ?_;intro v' w1 hown' hgrow _;obtain⟨g',cap',rfl⟩:=ownsRow_succ hown';obtain⟨hv1,hv2,hr2,o6,hb2⟩:=hv.appended (by decide) c7 hB.size (au _) hown' hgrow;have hc1:=hv1.cell;have hf1:=hv1.frozen)
  exact⟨o6.from _,KeepsOthers.walks o6,⟨_,hv2,by grind,trivial⟩,hB.trans hb2⟩
 case done=>
  rintro D ys W hD hys ⟨⟨v,hv,c7,_⟩,hB⟩ hK;have hc:=hv.cell
  gi_wp2
  refine⟨Y,.inl ⟨_,_,rfl,run_takeDeferred hK,?_⟩⟩;exact⟨_,results_tmp rfl _ _ _,v,ys,rfl,hys,ownsRow_putObj c7 _ hK rfl,hB.trans (belowK_b (w:=w) (au _) W D _ _ (by simp at hD;omega) hK rfl rfl)⟩
 grind
set_option maxRecDepth 100000 in
def EU(F:Fence)(n:Nat)(h2:F.fn 104)(h3:F.fn 147)(h7:F.fn 105)(hro:F.round=none)(hn:4<=n)(Bm b:Nat)(vs:PP)(hlen:vs.length<=1048576)(w:World)(hBm:Bm<w.heap.size)
 (hm:w.cell? ⟨Bm,0,none⟩=some (.map (some b))) (hB:zA w b vs):
 CallsIn F n prog 104 #[.func (.func 105) #[] #[.pointer (some ⟨Bm,0,none⟩)]] w fun e W'=>∃ v ys,e=.returned v/\List.Perm ys vs/\W'.ownsRow w.heap.size 34 1 v ys.length (ys.map (Value.int .u32))/\Below w.heap.size w W':=by
 have h1:1<=n:=O;refine callsIn_of_wp func104 rfl h2 ?_ hro;simp only[ntmps104,jh,List.length_cons,List.length_nil,Nat.reduceAdd,Nat.reduceSub,mo,Array.replicate_zero,mz,mq,List.nil_append,List.cons_append]
 gi_wp2_with (gi_at_call 147;refine(GU F (n-1) h3 h7 hro O Bm b vs hlen _ hBm hm hB).mono ?_;rintro e w' ⟨v,ys,rfl,hys,c7,hbel⟩)
 go_ret
 exact⟨v,ys,rfl,hys,c7,hbel⟩
set_option maxRecDepth 100000 in
def YC(F:Fence)(n:Nat)(h7:F.fn 148)(hro:F.round=none)(hn:1<=n)(l Bm b:Nat)(vs:PP)(W:World)(J Jx:PP->World->Prop)(hJ:AbidesFrom W.heap.size J)
 (hY:∀ pre x W1,J pre W1->pre.length<vs.length->YieldAt F (n-1) prog l #[.int .u32 x] W1 fun e W'=>
   (e=.returned (.bool true)/\J (pre++[x]) W'/\KeepsWalks W1 W')\/(e=.returned (.bool false)/\Jx (pre++[x]) W'))
 (hm:W.cell? ⟨Bm,0,none⟩=some (.map (some b))) (hB:zA W b vs) (h0:J [] W):
 CallsIn F n prog 148 #[.func (.yield l) #[] #[],.pointer (some ⟨Bm,0,none⟩)] W fun e W'=>(∃ v,e=.returned v)/\
  ((∃ ys:PP,ys.Perm vs/\J ys W')\/(∃ pre,True/\Jx pre W')):=by
 obtain⟨dK,clock,hb,hkey,hborn,hnd⟩:=hB;have hlen:vs.length=dK.length:=by have:=congrArg List.length hkey;simpa using this.symm
 have lb:=(ig.1 hb).1;refine callsIn_of_wp func148 rfl h7 ?_ hro;simp only[ntmps148,jh,List.length_cons,List.length_nil,Nat.reduceAdd,Nat.reduceSub,mo,Array.replicate_zero,mz,mq,List.nil_append,List.cons_append]
 gi_wp2_with (first
  |(refine rZ _ rfl _ 93 _ _ rfl underlying93 b dK.toArray clock rfl hb ?_;intro w0 hw0)
  |gi_in)
 go_frame
 have hI0:w0.heap[W.heap.size]?=some (.mapIter (some b) clock #[] clock):=by rw[hw0];exact World.alloc_heap_new _ _
 have hb0:w0.heap[b]?=some (.map dK.toArray clock):=by rw[hw0];exact(Below.heap_alloc _ _ b lb).trans hb
 have hg0:W.grownBy w0 none:=by rw[hw0];exact World.grownBy_alloc W _ none
 have hJ0:J [] w0:=hJ [] W w0 none h0 hg0 (fun r e=>by cases e);clear hw0 hg0
 gi_loopw [3] (fun _ wr=>∃(seen:Array Nat) (c:Nat) (ss:PP),clock<=c/\wr.heap[W.heap.size]?=some (.mapIter (some b) clock seen c)/\wr.heap[b]?=some (.map dK.toArray clock)/\(ss++xW vs dK seen).Perm vs/\J ss wr)
  (fun _ wr=>match wr.heap[W.heap.size]? with|some (.mapIter _ _ seen _)=>(xW vs dK seen).length|_=>0)
 case atStart=>exact⟨#[],clock,[],au _,hI0,hb0,by grind [DA],hJ0⟩
 case round=>
  obtain⟨seen,c,ss,hcc,hit,hbm,u6,hJs⟩:=hrel
  gi_wp2_with (first
   |(refine sU _ rfl _ rfl W.heap.size b clock c seen dK.toArray rfl hit hbm (fun x hx=>hborn x O) O hcc ?_ ?_)
   |gi_in)
  .intro hall;have Z9:xW vs dK seen=[]:=FA fun x hx=>by grind
   rw[Z9,dT]at u6
   gi_wp2
   go_end0
   grind
  .intro e w1 w2 he hs hw1 hw2 hen;obtain⟨x,L1,L2,hx,hL1,hL2⟩:=Ff (seen:=seen) hlen hkey hnd (by simpa using he) (by grind);have hg2:wr.grownBy w2 (some W.heap.size):=by rw[hw2];exact FH wr w1 hw1 _ _
   have hJ2:J ss w2:=hJ ss wr w2 (some W.heap.size) hJs hg2 (fun r e=>by cases e;exact⟨au _,_,hit,rfl⟩);have hh:w1.heap=wr.heap:=by rcases hw1 with rfl|rfl<;>rfl
   have Tv:b≠W.heap.size:=O;have hit2:w2.heap[W.heap.size]?=some (.mapIter (some b) clock (seen.push e.born) clock):=by rw[hw2];simp only[setBlock];rw[oY,ac rfl,ac (by grind)]
   have hbm2:w2.heap[b]?=some (.map dK.toArray clock):=by rw[hw2];simp only[setBlock];rw[oY,aa (fun e=>Tv e.symm),hh];exact hbm
   have dS:ss.length<vs.length:=by have:=u6.length_eq;rw[hL1]at this;simp at this;omega
   obtain⟨fn,tmps,assign,body,hy,hR⟩:=hY ss x w2 hJ2 dS;rw[hx]at hen ⊢;clear hw2 hg2
   gi_wp2
   refine hR.mono ?_;rintro e3 W3 (⟨rfl,hJ3,o9⟩|⟨rfl,hJx3⟩)
   .gi_wp2
    have hit3:=o9.same _ _ hit2 rfl;have hbm3:=o9.same _ _ hbm2 rfl
    go_roundw
    case rel=>exact⟨seen.push e.born,clock,ss++[x],au _,hit3,hbm3,by
     grind,hJ3⟩
    grind
   .gi_wp2
    refine bodyPost_ret (results_none rfl _ _ _) rfl ?_
    grind
def Jl(F:Fence)(n:Nat)(r:F.fn 148)(g:F.round=none)(z:1<=n)(a b:Nat)(c:PP)(w:World)(e:a<w.heap.size)(y:w.cell? ⟨a,0,none⟩=some (.map (some b)))(s:zA w b c):
 SeqStopsK F n prog 148 #[.pointer (some ⟨a,0,none⟩)] (fun x:Int=>#[Value.int .u32 x]) KeepsWalks (fun A=>A.Perm c) (fun _=>True) c.length w:=fun l J m W j t _ v q=>by
 have f:=(j.cell (p:=⟨a,0,none⟩) e).trans y;have d:zA W b c:=by obtain⟨o,clock,k,h⟩:=s;exact⟨o,clock,(j.block b (ig.1 k).1).trans k,h⟩
 exact YC F n r g z l a b c W J m t v f d q
set_option maxRecDepth 100000 in
def Gc(F:Fence)(n:Nat)(h3:F.fn 147)(h7:F.fn 148)(hro:F.round=none)(hn:3<=n)(Bm b:Nat)(vs:PP)(hlen:vs.length<=1048576)(w:World)(hBm:Bm<w.heap.size)
 (hm:w.cell? ⟨Bm,0,none⟩=some (.map (some b))) (hB:zA w b vs):
 CallsIn F n prog 147 #[.slice none 0 0,.func (.func 148) #[] #[.pointer (some ⟨Bm,0,none⟩)]] w fun e W'=>∃ v ys,e=.returned v/\List.Perm ys vs/\W'.ownsRow w.heap.size 34 1 v ys.length (ys.map (Value.int .u32))/\Below w.heap.size w W':=by
 have h1:1<=n:=O;obtain⟨i0,hi,hz0,hz1,hz2⟩:=info_parts UJ;refine callsIn_of_wp_marks func147 rfl h3 ?_ hro;simp only[ntmps147,jh,List.length_cons,List.length_nil,Nat.reduceAdd,Nat.reduceSub,mo,Array.replicate_zero,mz,mq,List.nil_append,List.cons_append]
 gi_wp2
 have bO:=Boxed.new w 22 (.slice none 0 0);have hB0:Below w.heap.size w (w.alloc (.cells #[.slice none 0 0] 22)):=(Below.refl _ w).alloc (au _) _;have hB':zA (w.alloc (.cells #[.slice none 0 0] 22)) b vs:=by obtain⟨dK,clock,hb,h⟩:=hB;exact⟨dK,clock,(hB0.block b (ig.1 hb).1).trans hb,h⟩
 refine wpIn_rangeFunc_ownG hro h1 (gf:=148) (lb:=#[.pointer (some ⟨Bm,0,none⟩)]) rfl h7 (enters_of func148 (by kernel_rfl) rfl)
  (Jl F (n-1) h7 hro O Bm b vs _ (by simp;omega) ((hB0.cell (p:=⟨Bm,0,none⟩) hBm).trans hm) hB') walksK_t walksK_b (Below.refl _ _) (fun _=>rfl)
  (fun pre W=>(∃ v,Boxed W w.heap.size 22 v/\W.ownsRow w.heap.size 34 1 v pre.length (pre.map (Value.int .u32))/\True)/\Below w.heap.size w W)
  (fun _ _ _=>False)
  (OwnFrom.and (Own.from (holdsRow_own w.heap.size w.heap.size 22 34 1 (fun pre:PP=>pre.length) (fun pre:PP=>pre.map (Value.int .u32)) (fun _ _=>True)) _) (ownFrom_below (au _) Y))
  (fun _ _ _ _ _ hs _ _=>hs)
  ⟨⟨_,bO,World.ownsRow_nil _ _ _ _,trivial⟩,hB0⟩
  (fun x=>{ tmps:=#[.slice none 0 0,.func (.func 148) #[] #[.pointer (some ⟨Bm,0,none⟩)],.pointer (some ⟨w.heap.size,0,none⟩),undef,.slice none 0 0,.int .u32 x,.func (.func 148) #[] #[.pointer (some ⟨Bm,0,none⟩)],.int .u32 x,undef,undef,undef,undef,undef],defers:=[] }) ?assign ?body ?done ?stop
 case assign=>
  intro l x W K hK
  gi_wp2
  omega
 case body=>
  rintro l pre x W ⟨⟨v,hv,c7,_⟩,hB⟩ dS;have hc:=hv.cell
  gi_wp2_with (gi_at_builtin;refine wpListIn_append_own _ rfl _ _ 22 rfl w.heap.size 34 i0 (.int .u32 0) 1 4 underlying22 hi hz0 hz1 hz2 rfl (by decide) _ _ _ rfl (c7.alloc _) ⟨W.heap.size,0,none⟩ 1 1 [.int .u32 x] rfl rfl (cell_one_new _ _ _) (by simp[Value.oneCell']) (by grind [maxLen]) O (by have:=hB.size;simp;omega) ?_;intro v' w1 hown' hgrow _;obtain⟨g',cap',rfl⟩:=ownsRow_succ hown';obtain⟨hv1,hv2,hr2,o6,hb2⟩:=hv.appended (by decide) c7 hB.size (au _) hown' hgrow;have hc1:=hv1.cell;have hf1:=hv1.frozen)
  exact⟨o6.from _,KeepsOthers.walks o6,⟨_,hv2,by grind,trivial⟩,hB.trans hb2⟩
 case done=>
  rintro D ys W hD hys ⟨⟨v,hv,c7,_⟩,hB⟩ hK;have hc:=hv.cell
  gi_wp2
  refine⟨Y,.inl ⟨_,_,rfl,run_takeDeferred hK,?_⟩⟩;exact⟨_,results_tmp rfl _ _ _,v,ys,rfl,hys,ownsRow_putObj c7 _ hK rfl,hB.trans (belowK_b (w:=w) (au _) W D _ _ (by simp at hD;omega) hK rfl rfl)⟩
 grind
set_option maxRecDepth 100000 in
def ES(F:Fence)(n:Nat)(h2:F.fn 104)(h3:F.fn 147)(h7:F.fn 148)(hro:F.round=none)(hn:4<=n)(Bm b:Nat)(vs:PP)(hlen:vs.length<=1048576)(w:World)(hBm:Bm<w.heap.size)
 (hm:w.cell? ⟨Bm,0,none⟩=some (.map (some b))) (hB:zA w b vs):
 CallsIn F n prog 104 #[.func (.func 148) #[] #[.pointer (some ⟨Bm,0,none⟩)]] w fun e W'=>∃ v ys,e=.returned v/\List.Perm ys vs/\W'.ownsRow w.heap.size 34 1 v ys.length (ys.map (Value.int .u32))/\Below w.heap.size w W':=by
 have h1:1<=n:=O;refine callsIn_of_wp func104 rfl h2 ?_ hro;simp only[ntmps104,jh,List.length_cons,List.length_nil,Nat.reduceAdd,Nat.reduceSub,mo,Array.replicate_zero,mz,mq,List.nil_append,List.cons_append]
 gi_wp2_with (gi_at_call 147;refine(Gc F (n-1) h3 h7 hro O Bm b vs hlen _ hBm hm hB).mono ?_;rintro e w' ⟨v,ys,rfl,hys,c7,hbel⟩)
 go_ret
 exact⟨v,ys,rfl,hys,c7,hbel⟩
end Rg
namespace Aw
open Go Go.RowKit
def yN(a:List (PP×LV)):PP:=a.map fun e=>e.1.headD 0
def NP{w:World}{g:G}{c:St}(l:Inv w g c){m:Nat}{b:List (PP×LV)}(n:c.H m=.map false [.u32] b):Rg.zA w (g.β m) (yN b):=by
 obtain⟨_,a,d,clock,e,f,_,_,j,k⟩:=l.mp m _ _ _ n;refine⟨d,clock,e,?_,j,k⟩;rw[f];unfold yN;rw[dC];refine jf fun p o=>?_;have:=a p o
 match h:p.1,this with
 |[x],_=>grind [cg,fp]
def LP(m q:Nat)(k:List (PP×LV))(j:St)(P:k.length<=1048576)(y:j.H q=.box 87 1 [.mp m])(A:j.H m=.map false [.u32] k):
 aD prog 104 [.fn (.func 105) [.pt q 0]] j fun r n=>∃ c:PP,c.Perm (yN k)/\r=.ms j.z 0 c.length/\n=j.new (.box 34 1 (us c)):=by
 refine⟨enters_of func104 (by kernel_rfl) rfl,fun w g V l p=>?_⟩;simp only[aG,Rep]at p;obtain⟨v,_,rfl,⟨F,rfl,U,_,rfl,⟨rfl,R⟩,rfl⟩,rfl⟩:=p;obtain⟨_,J,x⟩:=l.box q _ _ _ y;have I:g.nl q=false:=by
  cases Q:g.nl q with
  |false=>rfl
  |true=>grind
 obtain⟨t,D,S,E,s,k5⟩:=x I;simp only[List.length_cons,List.length_nil,jw,aG]at s E;obtain⟨T,rest,B,b,_⟩:=s;simp only[Rep]at b;have f:w.cell? ⟨g.β q,0,none⟩=some (.map (some (g.β m))):=by
  rw[cell_of_row w _ _ _ _ _ D,<- b.1];cases t with
  |nil=>grind
  |cons a t=>grind
 refine(((Rg.EU Fence.wide 4 trivial trivial trivial rfl (au _) (g.β q) (g.β m) (yN k) (by grind [yN]) w (pU f) f (NP l A)).calls room_wide)).mono ?_;rintro e W ⟨v,c,rfl,C,o,d⟩;have h:c.length=(c.map (Value.int .u32)).length:=Y;rw[h]at o;obtain⟨K,L,M,N⟩:=zH (cs:=us c) l d o (fun w g=>Bn w g c)
 grind
def Lc(m q:Nat)(k:List (PP×LV))(j:St)(P:k.length<=1048576)(y:j.H q=.box 93 1 [.mp m])(A:j.H m=.map false [.u32] k):
 aD prog 104 [.fn (.func 148) [.pt q 0]] j fun r n=>∃ c:PP,c.Perm (yN k)/\r=.ms j.z 0 c.length/\n=j.new (.box 34 1 (us c)):=by
 refine⟨enters_of func104 (by kernel_rfl) rfl,fun w g V l p=>?_⟩;simp only[aG,Rep]at p;obtain⟨v,_,rfl,⟨F,rfl,U,_,rfl,⟨rfl,R⟩,rfl⟩,rfl⟩:=p;obtain⟨_,J,x⟩:=l.box q _ _ _ y;have I:g.nl q=false:=by
  cases Q:g.nl q with
  |false=>rfl
  |true=>grind
 obtain⟨t,D,S,E,s,k5⟩:=x I;simp only[List.length_cons,List.length_nil,jw,aG]at s E;obtain⟨T,rest,B,b,_⟩:=s;simp only[Rep]at b;have f:w.cell? ⟨g.β q,0,none⟩=some (.map (some (g.β m))):=by
  rw[cell_of_row w _ _ _ _ _ D,<- b.1];cases t with
  |nil=>grind
  |cons a t=>grind
 refine(((Rg.ES Fence.wide 4 trivial trivial trivial rfl (au _) (g.β q) (g.β m) (yN k) (by grind [yN]) w (pU f) f (NP l A)).calls room_wide)).mono ?_;rintro e W ⟨v,c,rfl,C,o,d⟩;have h:c.length=(c.map (Value.int .u32)).length:=Y;rw[h]at o;obtain⟨K,L,M,N⟩:=zH (cs:=us c) l d o (fun w g=>Bn w g c)
 grind
end Aw
namespace Aw
open Go Go.RowKit Pl Eu
def zh(m:Mp)(k:Nat):Prop:=IW m.g.E (m.g.V.getD k 0) (m.rots.getD k [])
noncomputable def zM(m:Mp):Int:=if chk m.g≠0 then chk m.g else if m.rots.length≠m.g.V.length then 22 else @ite _ (∀ k,k<m.g.V.length->zh m k) (Classical.propDecidable _) 0 22
variable{m:Mp}
def C0(h:chk m.g≠0):zM m=chk m.g:=by unfold zM;rw[ac h]
def VA(h:chk m.g=0)(a:m.rots.length≠m.g.V.length):zM m=22:=by unfold zM;rw[aa (fun e=>e h),ac a]
def Ug(h:chk m.g=0){k:Nat}(b:k<m.g.V.length)(a:¬zh m k):zM m=22:=by
 unfold zM;rw[aa (fun e=>e h)]
 split
 .rfl
 .rw[aa (fun e=>a (e k b))]
def Vh(h:chk m.g=0)(a:m.rots.length=m.g.V.length)(b:∀ k,k<m.g.V.length->zh m k):zM m=0:=by unfold zM;rw[aa (fun e=>e h),aa (fun e=>e a),ac b]
def PB(h:zM m=0):chk m.g=0/\bZ m:=by
 by_cases a:chk m.g=0
 .refine⟨a,?_⟩;by_cases b:m.rots.length=m.g.V.length
  .refine⟨fF a,b,fun k c=>?_⟩;refine dq fun d=>?_;rw[Ug a c d]at h;cases h
  .rw[VA a b]at h;cases h
 .rw[C0 a]at h;exact absurd h a
end Aw
namespace Aw
open Go Go.RowKit Pl
attribute [local simp] GC Zg PK Xa qQ tN rH
def qY:QP->Int->Int
 |[],_=>0
 |p::P,x=>if p.1=x then p.2 else qY P x
theorem Gs(x:Int):∀ P:QP,(bY (ie P) [x]).getD (u 0)=u (qY P x)
 |[]=>rfl
 |p::P=>by
  have a:=Gs x P;unfold qY;simp only[ie,ax,bY]at a ⊢;by_cases h:p.1=x
  .rw[ac h,ac (Z h)];rfl
  .rw[aa h,aa (by simpa using fun e=>h e.symm)];exact a
def Io(P:QP):yN (ie P)=P.map (·.1):=by
 induction P with
 |nil=>rfl
 |cons p P a=>simp only[ie,ax,yN]at a ⊢;rw[a];rfl
def ko(P:QP)(first:Int):Nat->Int->PP
 |0,_=>[]
 |n+1,x=>x::(if qY P x≠first/\0<n then ko P first n (qY P x)else [])
def cG(P:QP):PP:=ko P (mn (P.map (·.1))) P.length (mn (P.map (·.1)))
def G8(m:Nat)(a:St):aD prog 107 [.mp m] a fun r b=>r=.fn (.func 148) [.pt a.z 0]/\b=a.new (.box 93 1 [.mp m]):=by refine zN func107 ntmps107 [.tmp 2] ?_;exact vz
def F4(m:Nat)(a:St):aD prog 64 [.mp m] a fun r b=>r=.fn (.func 105) [.pt a.z 0]/\b=a.new (.box 87 1 [.mp m]):=by refine zN func64 ntmps64 [.tmp 2] ?_;exact vz
def YD{a b:PP}(h:a.Perm b)(c:a≠[]):mn a=mn b:=
 (YN (h.mem_iff.1 (AW c)) fun x d=>US (h.mem_iff.2 d)).symm
def sa(P:QP)(m:Nat)(c:St)(n:Nat)(b:ah)(s:St):Prop:=∃(a:PP) (x:Int) (t:Nat),n+a.length=P.length/\0<n/\a++ko P (mn (P.map (·.1))) n x=cG P/\b 0=.mp m/\b 3=.sl t a.length (us a)/\b 4=u (mn (P.map (·.1)))/\b 5=u x/\HC t 34 1 a.length c s/\aC c s
def Lm{P:Program}{N:Nat}{Q:AQ}{c:Code}{a:ah}{b:St}(I:ah->St->Prop)(d:I a b)(h:∀ a b,I a b->bq P N c Q a b):bq P N c Q a b:=h _ _ d
def Yl(P:QP)(m:Nat)(v:St)(hP:P≠[])(hl:P.length<=1000)(hm:v.H m=.map false [.u32] (ie P))(hml:m<v.z):
 aD prog 65 [.mp m] v fun r st'=>r=.sl 0 (cG P).length (us (cG P))/\st'=v:=by
 refine qT (Q:=fun r=>r=.sl 0 (cG P).length (us (cG P))) (cZ ?_) fun r h=>by subst h;exact⟨.inl rfl,yG _ _⟩
 have hil:(ie P).length=P.length:=by simp[ie]
 refine zN func65 ntmps65 [.tmp 2] ?_;refine bz ?_;refine DL _ 0 (fun n fr s=>sa P m v n fr s) rfl ?_ ?_
 .refine fB fun hpos=>?_
  (refine ez ?_;intro J j)
  refine jr (G8 m _) ?_;refine dU j ?_;refine qE (Lc m v.z (ie P) _ O Y (by rw[cN,aa O];exact hm)) Y ?_;rintro r s1 ⟨ys,hys,rfl,e1⟩;rw[e1];clear e1 s1;have hyl:ys.length=P.length:=by rw[hys.length_eq,Io,du]
  have hy0:ys≠[]:=fun e=>hP (qv.1 (by rw[<- hyl,e];rfl));have hmn:mn ys=mn (P.map (·.1)):=YD (by rw[<- Io];exact hys) hy0;have T:=zX (P:=prog) (pre:=[]) (post:=[]) (l:=v.z+1) (n:=ys.length) (e:=34) (s:=1) (cs:=us ys) (st:=(v.new (.box 93 1 [.mp m])).new (.box 34 1 (us ys))) (f:=106) Y Y (by rw[ej Y];exact Min ys 0 _ (by unfold small;omega) hy0);rw[hmn]at T;refine dU j ?_;refine qE T Y ?_;rintro r s1 ⟨rfl,e1⟩;rw[e1];clear e1 s1 T;have hPl:0<P.length:=jg.2 hP;refine dU j ?_;refine Eh ?_;simp only[ak];refine uS 3 34 1 Y ?_;refine Lm (sa P m v P.length) ?_ ?_
  .exact⟨[],_,v.z+1+1,Y,hPl,rfl,Y,Y,Y,Y,⟨O,O,Y,Y⟩,(((aC.new _ _).trans (aC.new _ _)).set O _).trans (aC.new _ _)⟩
  obtain⟨n,hn⟩:∃ n,n=P.length:=⟨_,rfl⟩;rw[<- hn];have V:∀ n' o M,n' < n->sa P m v n' o M->∃ n,sa P m v n o M:=fun n' _ _ _ h=>⟨n',h⟩;rintro fr s ⟨c,x,t,h1,h2,N,p,E,q,F,⟨K,t1,t2,L⟩,hk⟩;have g:=(hk.H m hml).trans hm;have I:=Gs x P;obtain⟨n,rfl⟩:∃ k,n=k+1:=⟨n-1,O⟩;have h4:ko P (mn (P.map (·.1))) (n+1) x=x::(if qY P x≠mn (P.map (·.1))/\0<n then ko P (mn (P.map (·.1))) n (qY P x)else []):=rfl;rw[h4]at N;clear h4;have W:∀(a:PP) (y:Int) (t:Nat) (o:ah) (M:St),n+a.length=P.length->0<n->a++ko P (mn (P.map (·.1))) n y=cG P->o 0=.mp m->o 3=.sl t a.length (us a)->o 4=u (mn (P.map (·.1)))->o 5=u y->HC t 34 1 a.length v M->aC v M->sa P m v n o M:=fun a y t o M q1 q2 q3 q4 q5 q6 q7 q8 q9=>⟨a,y,t,q1,q2,q3,q4,q5,q6,q7,q8,q9⟩;have X:=fun o M h=>V n o M O h;generalize mn (P.map (·.1))=first at *
  generalize qY P x=y at *;have hkn:=hk.z;have w:¬t=s.z:=O;have A:¬s.z=t:=O;have B:¬m=s.z:=O;have C:¬m=s.z+1:=O;have D:¬m=t:=O;have o6:=(((hk.trans (aC.new s (.own 34 1 1))).set t1 .dead).trans (aC.new _ (.own 34 1 (c.length+1))));by_cases U:y=first
  .have d:(y != first)=false:=by simp[U]
   (repeat' (first|apply qS|refine qK (zZ ?_)|(refine qR (zZ ?_);simp[p,E,q,F,g,I,L,K,w,A,B,C,D,d])|(apply qC;simp[p,E,q,F,g,I,L,K,w,A,B,C,D,d])|(refine zE ?_;intro J j;simp[p,E,q,F,g,I,L,K,w,A,B,C,D,d];(repeat refine ca ?_);(refine zJ j ?_;clear j J))))
   rw[aa (fun h=>h.1 U)]at N;exact⟨by rw[<- N];simp[z0,rL],o6⟩
  .have d:(y != first)=true:=by simp[U]
   by_cases R:0<n
   .have S:c.length+1<(ie P).length:=O;have b:(c.length:Int)+1<(ie P).length:=O
    (repeat' (first|apply qS|(apply qC;simp[p,E,q,F,g,I,L,K,w,A,B,C,D,d,S,b])|(refine zE ?_;intro J j;simp[p,E,q,F,g,I,L,K,w,A,B,C,D,d,S,b];(repeat refine ca ?_);(refine zJ j ?_;clear j J))))
    rw[ac ⟨U,R⟩]at N;refine KC ?_;simp only[ak,rH,tN,qQ,GC];refine X _ _ (W (c++[x]) y (s.z+1) _ _ (by simp;omega) R (by rw[<- N];simp) (Z p) Y (Z q) Y ⟨O,O,Y,Y⟩ o6)
   .have S:¬c.length+1<(ie P).length:=O;have b:¬(c.length:Int)+1<(ie P).length:=O
    (repeat' (first|apply qS|refine qK (zZ ?_)|(refine qR (zZ ?_);simp[p,E,q,F,g,I,L,K,w,A,B,C,D,d,S,b])|(apply qC;simp[p,E,q,F,g,I,L,K,w,A,B,C,D,d,S,b])|(refine zE ?_;intro J j;simp[p,E,q,F,g,I,L,K,w,A,B,C,D,d,S,b];(repeat refine ca ?_);(refine zJ j ?_;clear j J))))
    rw[aa (fun h=>R h.2)]at N;exact⟨by rw[<- N];simp[z0,rL],o6⟩
 .rintro n fr s ⟨c,x,t,h1,h2,N,p,E,q,F,⟨K,t1,t2,L⟩,hk⟩ JG V;have g:=(hk.H m hml).trans hm;have I:=Gs x P;obtain⟨n,rfl⟩:∃ k,n=k+1:=⟨n-1,O⟩;have h4:ko P (mn (P.map (·.1))) (n+1) x=x::(if qY P x≠mn (P.map (·.1))/\0<n then ko P (mn (P.map (·.1))) n (qY P x)else []):=rfl;rw[h4]at N;clear h4;have W:∀(a:PP) (y:Int) (t:Nat) (o:ah) (M:St),n+a.length=P.length->0<n->a++ko P (mn (P.map (·.1))) n y=cG P->o 0=.mp m->o 3=.sl t a.length (us a)->o 4=u (mn (P.map (·.1)))->o 5=u y->HC t 34 1 a.length v M->aC v M->sa P m v n o M:=fun a y t o M q1 q2 q3 q4 q5 q6 q7 q8 q9=>⟨a,y,t,q1,q2,q3,q4,q5,q6,q7,q8,q9⟩;have X:=fun o M h=>V n o M O h;generalize mn (P.map (·.1))=first at *
  generalize qY P x=y at *;have hkn:=hk.z;have w:¬t=s.z:=O;have A:¬s.z=t:=O;have B:¬m=s.z:=O;have C:¬m=s.z+1:=O;have D:¬m=t:=O;have o6:=(((hk.trans (aC.new s (.own 34 1 1))).set t1 .dead).trans (aC.new _ (.own 34 1 (c.length+1))));by_cases U:y=first
  .have d:(y != first)=false:=by simp[U]
   (repeat' (first|apply qS|refine qK (zZ ?_)|(refine qR (zZ ?_);simp[p,E,q,F,g,I,L,K,w,A,B,C,D,d])|(apply qC;simp[p,E,q,F,g,I,L,K,w,A,B,C,D,d])|(refine zE ?_;intro J j;simp[p,E,q,F,g,I,L,K,w,A,B,C,D,d];(repeat refine ca ?_);(refine zJ j ?_;clear j J))))
   rw[aa (fun h=>h.1 U)]at N;exact⟨by rw[<- N];simp[z0,rL],o6⟩
  .have d:(y != first)=true:=by simp[U]
   by_cases R:0<n
   .have S:c.length+1<(ie P).length:=O;have b:(c.length:Int)+1<(ie P).length:=O
    (repeat' (first|apply qS|refine qK (zZ ?_)|(apply qC;simp[p,E,q,F,g,I,L,K,w,A,B,C,D,d,S,b])|(refine zE ?_;intro J j;simp[p,E,q,F,g,I,L,K,w,A,B,C,D,d,S,b];(repeat refine ca ?_);(refine zJ j ?_;clear j J))))
    rw[ac ⟨U,R⟩]at N;refine KC ?_;simp only[ak,rH,tN,qQ,GC];refine X _ _ (W (c++[x]) y (s.z+1) _ _ (by simp;omega) R (by rw[<- N];simp) (Z p) Y (Z q) Y ⟨O,O,Y,Y⟩ o6)
   .have S:¬c.length+1<(ie P).length:=O;have b:¬(c.length:Int)+1<(ie P).length:=O
    (repeat' (first|apply qS|refine qK (zZ ?_)|(refine qR (zZ ?_);simp[p,E,q,F,g,I,L,K,w,A,B,C,D,d,S,b])|(apply qC;simp[p,E,q,F,g,I,L,K,w,A,B,C,D,d,S,b])|(refine zE ?_;intro J j;simp[p,E,q,F,g,I,L,K,w,A,B,C,D,d,S,b];(repeat refine ca ?_);(refine zJ j ?_;clear j J))))
    rw[aa (fun h=>R h.2)]at N;exact⟨by rw[<- N];simp[z0,rL],o6⟩
end Aw
namespace Aw
open Go Go.RowKit Pl
def sZ(l:PP):PP:=l.foldr zY []
theorem Bc:∀ l,(sZ l).Pairwise (· < ·)
 |[]=>.nil
 |x::l=>BO x _ (Bc l)
theorem sH(x:Int):∀ l,x∈sZ l↔x∈l
 |[]=>by simp[sZ]
 |y::l=>by have a:=sH x l;unfold sZ at a ⊢;rw[List.foldr_cons,uC,a,ai]
def Sz(A:Tn)(a:Int->Nat):yN (iv A a)=A.map (·.1):=by
 induction A with
 |nil=>rfl
 |cons p P b=>simp only[iv,ax,yN]at b ⊢;rw[b];rfl
def Xg(m q:Nat)(b:List (PP×LV))(K:PP)(a:St)(I:b.length<=1000)(v:a.H q=.box 87 1 [.mp m])(A:a.H m=.map false [.u32] b)(w:yN b=K)(B:K.Nodup):
 aD prog 63 [.fn (.func 105) [.pt q 0]] a fun r l=>r=.sl 0 (sZ K).length (us (sZ K))/\aC a l:=by
 refine cQ ?_;refine zN func63 ntmps63 [.tmp 2] ?_
 (refine ez ?_;intro J f)
 refine qE (LP m q b _ O v A) Y ?_;rintro r L ⟨s,e,rfl,rfl⟩;have D:s.length=b.length:=by rw[e.length_eq];simp[yN]
 (refine nV f ?_;intro J f)
 refine qE (YJ s a.z _ O Y Y) Y ?_;rintro r F ⟨c,t,n,C,p⟩;have k:=p.1;simp only[aK]at k;have g:aC a F:=⟨O,fun o j=>(p.2 o O (by simp;omega)).trans ((aC.new a _).H o j)⟩;have E:=n.length_eq;have d:c.Perm K:=by rw[<- w];exact n.trans e
 have y:c=sZ K:=by
  refine Ba id ?_ (by simpa using Bc K) fun x=>by rw[sH];exact d.mem_iff
  rw[xz];refine(List.Pairwise.and C (d.nodup_iff.2 B)).imp fun h=>?_;have:=h.1;have:=h.2;omega
 refine dU f ?_;rw[<- y];exact⟨a.z,c.length,⟨rfl,E.symm⟩,_,_,_,t,Y,⟨rfl,by rw[ej Y]⟩,g.set (au _) _⟩
def gT(B:QR)(v x:Int):PP:=
 if x<v then(B.map fun e=>2*e.id+if e.b=v then 1 else 0).reverse else B.map fun e=>2*e.id+if e.b=v then 1 else 0
def B6(B:QR)(v x:Int)(t:Nat)(p:St)(hl:B.length<=1000)(M:∀ e∈B,1<=e.id/\e.id<=1048576):
 aD prog 66 [.sl t B.length (eds B),u v,u x] p fun r W=>r=.sl 0 (gT B v x).length (us (gT B v x))/\W=p:=by
 refine qT (Q:=fun r=>r=.sl 0 (gT B v x).length (us (gT B v x))) (cQ ?_) fun r h=>by subst h;exact⟨.inl rfl,yG _ _⟩
 have F:=aL B;refine zN func66 ntmps66 [.tmp 6] ?_;refine bz ?_;refine DB 7 34 1 Y ?_;refine aV 13 12 14 28 (B.length) (fun j n m=>n 1=u v/\n 2=u x/\n 11=.sl t B.length (eds B)/\aC p m/\∃ q,n 7=.ms q 0 j/\p.z<=q/\q<m.z/\m.H q=.box 34 1 (us ((B.take j).map fun e=>2*e.id+if e.b=v then 1 else 0))) ?_ ?_ ?_
 .exact⟨Y,Y,Y,aC.new _ _,p.z,Y,au _,Y,Y⟩
 .rintro j n s dS ⟨g,A,c,T,q,f,P,q2,o⟩ R fn JO E;have V:=aP B j dS;have o9:j*3<B.length*3:=O;have V9:((B.take (j+1)).map fun e=>2*e.id+if e.b=v then 1 else 0)=((B.take j).map fun e=>2*e.id+if e.b=v then 1 else 0)++[2*(B.getD j ed0).id+if(B.getD j ed0).b=v then 1 else 0]:=by have h1:B.take (j+1)=B.take j++[B[j]]:=fh dS;rw[h1,cz,gH B j dS];rfl
  have hp:=M (B.getD j ed0) (by rw[gH B j dS];exact dz _);have l:((B.take j).map fun e=>2*e.id+if e.b=v then(1:Int)else 0).length=j:=by simp;omega
  generalize B.getD j ed0=y at *;generalize ((B.take j).map fun e=>2*e.id+if e.b=v then(1:Int)else 0)=D at *;obtain⟨d,a,b⟩:=y;simp only at V9 hp V;have X:¬q=s.z:=O;have w:¬q=s.z+1:=O;have N:(us D).take j=us D:=ej (by simp;omega);have L:j<=D.length:=O;have I:(j+1)*4<=140737488355328:=O;have K:j+1<=maxLen:=by unfold maxLen;omega
  have o6:∀(o1 o2 o4:cT),aC p ((((s.new o1).new o2).set q .dead).new o4):=fun o1 o2 o4=>(((T.trans (aC.new _ _)).trans (aC.new _ _)).set P _).trans (aC.new _ _);by_cases S:b=v
  .have k:(b==v)=true:=by simp[S]
   rw[ac S]at V9
   (refine B7 g f c R fn dS V F o9 k ?_;intro J C)
   refine qE (H5 d 1 _ O O (.inr rfl)) Y ?_;rintro r s1 ⟨rfl,rfl⟩;refine Za C f o X w N L I K ?_;exact E _ _ (Z R) (Z fn) ⟨Z g,Z A,Z c,o6 _ _ _,s.z+1+1,Y,O,Y,by rw[V9];simp⟩
  .have k:(b==v)=false:=by simp[S]
   rw[aa S]at V9
   (refine B7 g f c R fn dS V F o9 k ?_;intro J C)
   refine qE (H5 d 0 _ O O (.inl rfl)) Y ?_;rintro r s1 ⟨rfl,rfl⟩;refine Za C f o X w N L I K ?_;exact E _ _ (Z R) (Z fn) ⟨Z g,Z A,Z c,o6 _ _ _,s.z+1+1,Y,O,Y,by rw[V9];simp⟩
 .rintro n s ⟨g,A,c,T,q,f,P,q2,o⟩;rw[fq]at o;unfold gT;have l:(B.map fun e=>2*e.id+if e.b=v then(1:Int)else 0).length=B.length:=Y;generalize (B.map fun e=>2*e.id+if e.b=v then(1:Int)else 0)=D at *;by_cases U:x<v
  .rw[ac U];rw[<- l]at f
   (refine rC g A f U ?_;intro J C)
   refine qE (BZ D q s (by unfold small;omega) o) Y ?_;rintro r s1 rfl;refine pY C f ?_;exact⟨q,D.length,⟨rfl,rfl⟩,_,_,_,ac rfl,Y,⟨Y,by rw[ej Y]⟩,(T.set P _).set P _⟩
  .rw[aa U];refine eI g A f U ?_;exact⟨q,B.length,⟨rfl,rfl⟩,_,_,_,o,by simp;omega,⟨l.symm,by rw[ej (by simp;omega)]⟩,T.set P _⟩
abbrev RM:=List (PP×Nat×Nat×QQ)
def nj(a:Nat×Nat×QQ):LV:=.sl a.1 a.2.1 a.2.2
def jz(A:RM):List (PP×LV):=A.map fun a=>(a.1,nj a.2)
def pC(k:PP)(x:Nat×Nat×QQ):RM->RM
 |[]=>[(k,x)]
 |a::A=>if k==a.1 then(k,x)::A else a::pC k x A
def getM(k:PP):RM->Option (Nat×Nat×QQ)
 |[]=>none
 |a::A=>if k==a.1 then some a.2 else getM k A
theorem NF(k:PP)(x:Nat×Nat×QQ):∀ A,bX (jz A) k (nj x)=jz (pC k x A)
 |[]=>rfl
 |a::A=>by
  have b:=NF k x A
  grind [pC,jz,bX]
theorem xX(k:PP):∀ A,bY (jz A) k=(getM k A).map nj
 |[]=>rfl
 |a::A=>by
  have b:=xX k A
  grind [getM,jz,bY]
theorem oM{k:PP}{x:Nat×Nat×QQ}:∀ {A},getM k A=some x->(k,x)∈A
 |[],h=>by cases h
 |a::A,h=>by
  unfold getM at h
  split at h
  .grind
  .exact aq _ (oM h)
theorem getM_none{k:PP}:∀ {A:RM},getM k A=none->k∉A.map (·.1)
 |[],_=>by simp
 |a::A,h=>by
  unfold getM at h
  split at h
  .cases h
  .rename_i e;simp only[ax,ai,fJ];exact⟨by grind,getM_none h⟩
theorem Ds{k:PP}{x:Nat×Nat×QQ}:∀ {A:RM},k∉A.map (·.1)->pC k x A=A++[(k,x)]
 |[],_=>rfl
 |a::A,h=>by simp only[ax,ai,fJ]at h;unfold pC;rw[aa (by grind),Ds h.2];rfl
theorem zV{k:PP}{x:Nat×Nat×QQ}:∀ {A:RM},k∈A.map (·.1)->(pC k x A).map (·.1)=A.map (·.1)
 |a::A,h=>by
  unfold pC;by_cases e:k=a.1
  .grind
  .rw[aa (by grind),ax,ax,zV]
   grind
theorem sL{k:PP}{x:Nat×Nat×QQ}:∀ {A:RM},(A.map (·.1)).Nodup->∀ a∈pC k x A,a=(k,x)\/(a∈A/\a.1≠k)
 |[],_,a,c=>by grind [pC]
 |b::A,hn,a,c=>by
  obtain⟨j,d⟩:=bw.1 (by grind:(b.1::A.map (·.1)).Nodup);unfold pC at c;by_cases e:k=b.1
  .grind
  .rw[aa (by grind)]at c;rcases ai.1 c with c|c
   .grind
   .rcases sL d a c with h|⟨f,g⟩
    .grind
    grind
theorem FJ{k:PP}{t n:Nat}{c:QQ}:∀ {A:RM},(A.map fun a=>a.2.1).Nodup->(∀ a∈A,a.2.1≠t)->((pC k (t,n,c) A).map fun a=>a.2.1).Nodup
 |[],_,_=>by simp[pC]
 |a::A,hn,h=>by
  obtain⟨j,g⟩:=bw.1 (by grind:(a.2.1::A.map fun a=>a.2.1).Nodup);unfold pC
  split
  .grind
  .rw[ax,bw];refine⟨fun f=>?_,FJ g fun b d=>h b (aq _ d)⟩;obtain⟨b,d,e⟩:=ao.1 f;have:b=(k,(t,n,c))\/b∈A:=by
    clear j g h hn f;revert d;clear e;induction A with
    |nil=>grind [pC]
    |cons l A m=>
     grind [pC]
   grind
theorem Np:∀ {A:RM},(A.map fun a=>a.2.1).Nodup->∀ {a b},a∈A->b∈A->a.2.1=b.2.1->a=b
 |[],_,_,_,h,_,_=>by cases h
 |c::A,hn,a,b,d,f,e=>by
  obtain⟨j,g⟩:=bw.1 (by grind:(c.2.1::A.map fun a=>a.2.1).Nodup);rcases ai.1 d with d|d
  .grind
  .rcases ai.1 f with f|f
   .grind
   .exact Np g d f e
structure BC(ag:Bool)(ks:List IntKind)(e w:Nat)(A:RM)(m lo:Nat)(st:St):Prop where
 map:st.H m=.map ag ks (jz A)
 mlt:lo<=m/\m<st.z
 tok:∀ a∈A,a.2.1≠0/\lo<=a.2.1/\a.2.1<st.z/\st.H a.2.1=.own e w a.2.2.1
 inj:(A.map fun a=>a.2.1).Nodup
 nd:(A.map (·.1)).Nodup
variable{E:List Ed}{A:RM}
def BC.keep{ag:Bool}{d:List IntKind}{e w:Nat}{m f:Nat}{g b:St}(h:BC ag d e w A m f g)(k:aC g b):BC ag d e w A m f b:=by have q:=k.z;have c:=h.mlt;refine⟨(k.H _ c.2).trans h.map,⟨c.1,O⟩,fun a p=>?_,h.inj,h.nd⟩;obtain⟨j,l,n,o⟩:=h.tok a p;exact⟨j,l,O,(k.H _ n).trans o⟩
def BC.put{ag:Bool}{ks:List IntKind}{e w:Nat}{A:RM}{m lo:Nat}{st st':St}(h:BC ag ks e w A m lo st){k:PP}{t n:Nat}{c:QQ}
 (ht:st.z<=t/\t<st'.z) (hn:st.z<=st'.z) (hlo:lo<=st.z) (h0:t≠0) (hm:st'.H m=.map ag ks (bX (jz A) k (nj (t,n,c)))) (hT:st'.H t=.own e w n)
 (hK:∀ l,l<st.z->l≠m->(∀ x,getM k A=some x->l≠x.1)->st'.H l=st.H l):BC ag ks e w (pC k (t,n,c) A) m lo st':=by
 have hmm:=h.mlt;rw[NF]at hm;refine⟨hm,⟨hmm.1,O⟩,fun a ha=>?_,FJ h.inj fun a ha=>by have:=(h.tok a ha).2.2.1;omega,?_⟩
 .rcases sL h.nd a ha with rfl|⟨ha,Tv⟩
  .grind
  .obtain⟨h1,h2,h3,h4⟩:=h.tok a ha;refine⟨h1,h2,O,?_⟩;rw[hK _ h3 (fun q=>by rw[q,h.map]at h4;grind) fun x hx q=>?_]
   .omega
   .have hx:=oM hx;refine Tv ?_;exact(by rw[Np h.inj ha hx q]:a.1=k)
 .by_cases hk:k∈A.map (·.1)
  .rw[zV hk];exact h.nd
  .rw[Ds hk,cz,bo];refine⟨h.nd,Y,fun a ha b hb e=>?_⟩
   grind
abbrev ae(e:Ed):Int×Int:=aj e.a e.b
def lB(E:QR)(p:Int×Int):QR:=E.filter fun e=>decide (ae e=p)
abbrev lP(g:Gr)(v x:Int):QR:=lB g.E (aj v x)
abbrev TL:=List (Int×PP)
def sF(v:Int)(a:PP):TL->TL
 |[]=>[(v,a)]
 |p::T=>if p.1=v then(v,p.2++a)::T else p::sF v a T
def fK(v:Int):TL->PP
 |[]=>[]
 |p::T=>if p.1=v then p.2 else fK v T
def eU(g:Gr)(v:Int)(L:PP)(T:TL):TL:=L.foldl (fun T x=>sF v (gT (lP g v x) v x) T) T
def dV(v:Int):Tn->QP
 |[]=>[]
 |a::A=>if a.1=v then a.2 else dV v A
def gR(g:Gr)(A:Tn)(K:PP)(T:TL):TL:=K.foldl (fun T v=>eU g v (cG (dV v A)) T) T
def iT(T:TL):Nat:=(T.map fun p=>p.2.length).sum
def wh(F:List PP)(A:Tn)(T:TL):Prop:=F.length<=300/\(∀ r∈F,r.length<=1000)/\A.length<=1000/\(∀ a∈A,a.2.length<=1000)/\iT T<=100000
instance (F:List (List Int)) (A:Tn) (T:TL):Decidable (wh F A T):=by unfold wh;infer_instance
def yM(g:Gr)(F:List PP)(T:TL):TL:=gR g (aX F) (sZ ((aX F).map (·.1))) T
def BI(g:Gr):List (QR)->TL->Option (Option TL)
 |[],T=>some (some T)
 |l::bl,T=>(rY l).bind fun o=>match o with
  |none=>some none
  |some F=>if wh F (aX F) (yM g F T)then BI g bl (yM g F T)else none
def iX(g:Gr)(a:List QR):Option (Option Mp):=
 (BI g a []).bind fun o=>match o with
   |none=>some none
   |some T=>if ∀ v∈g.V,(fK v T).length<=1000 then some (some ⟨g,g.V.map fun v=>fb (fK v T)⟩)else none
theorem Ob(P:QP)(f:Int):∀ n x,(ko P f n x).length<=n
 |0,_=>by simp[ko]
 |n+1,x=>by
  unfold ko
  split
  .have:=Ob P f n (qY P x);grind
  .simp
def LY(P:QP):(cG P).length<=P.length:=Ob _ _ _ _
theorem yB(v:Int)(a:PP):∀ T:TL,iT (sF v a T)=iT T+a.length
 |[]=>by simp[sF,iT]
 |p::T=>by
  have b:=yB v a T
  grind [sF,iT]
theorem zT(g:Gr)(v:Int):∀(L:PP) (T:TL),iT T<=iT (eU g v L T)
 |[],_=>au _
 |x::L,T=>by
  have h:=zT g v L (sF v (gT (lP g v x) v x) T)
  grind [yB,eU]
theorem Es(g:Gr)(A:Tn):∀(K:PP) (T:TL),iT T<=iT (gR g A K T)
 |[],_=>au _
 |v::K,T=>by
  have h:=Es g A K (eU g v (cG (dV v A)) T)
  grind [zT,gR]
theorem EE(v:Int):∀ T:TL,(fK v T).length<=iT T
 |[]=>au _
 |p::T=>by
  have a:=EE v T
  grind [fK,iT]
def KQ(g:Gr)(A:Tn)(K:PP)(T:TL)(j:Nat):gR g A K T=gR g A (K.drop j) (gR g A (K.take j) T):=by
 grind [gR,List.take_append_drop]
def Jv(g:Gr)(v:Int)(L:PP)(T:TL)(j:Nat):eU g v L T=eU g v (L.drop j) (eU g v (L.take j) T):=by
 grind [eU,List.take_append_drop]
theorem Ja{v:Int}:∀ {A:Tn},v∈A.map (·.1)->(v,dV v A)∈A
 |a::A,h=>by
  unfold dV;by_cases e:a.1=v
  .grind
  .rw[aa e];simp only[ax,ai]at h;exact aq _ (Ja (h.resolve_left fun h=>e h.symm))
theorem Wx(x y:Int)(P:QP):tF x y P≠[]:=by
 cases P with
 |nil=>simp[tF]
 |cons p P=>grind [tF]
theorem Nj{v x y:Int}:∀ {A:Tn},(∀ a∈A,a.2≠[])->∀ a∈jE v x y A,a.2≠[]
 |[],_,a,c=>by grind [jE]
 |b::A,h,a,c=>by
  unfold jE at c
  split at c
  .grind [Wx]
  .rcases ai.1 c with c|c
   .grind
   .exact Nj (fun a c=>h a (aq _ c)) a c
theorem Ie(r:PP){A:Tn}(h:∀ a∈A,a.2≠[]):∀ j,∀ a∈lM r A j,a.2≠[]
 |0=>h
 |j+1=>Nj (Ie r h j)
def MD(R:List PP):∀ a∈aX R,a.2≠[]:=by
 unfold aX;have c:∀(R:List PP) (A:Tn),(∀ a∈A,a.2≠[])->∀ a∈R.foldl (fun A r=>lM r A r.length) A,a.2≠[]:=fun R=>by
  induction R with
  |nil=>grind
  |cons r R b=>exact fun A h=>b _ (Ie r h _)
 grind
structure HV(E:QR)(A:RM):Prop where
 row:∀ a∈A,∃ p,a.1=pk p/\a.2.2.1=(lB E p).length/\a.2.2.2=eds (lB E p)
 all:∀ e∈E,pk (ae e)∈A.map (·.1)
theorem Ev(E:QR)(x:Ed)(p:Int×Int):lB (E++[x]) p=if ae x=p then lB E p++[x]else lB E p:=by
 grind [lB]
def HV.get(h:HV E A)(j:(A.map (·.1)).Nodup)(p:Int×Int):
 (lB E p=[]/\getM (pk p) A=none)\/∃ t,getM (pk p) A=some (t,(lB E p).length,eds (lB E p)):=by
 cases d:getM (pk p) A with
 |none=>refine .inl ⟨?_,rfl⟩;refine qp.2 fun e f=>?_;obtain⟨a,b⟩:=cj.1 f;exact getM_none d (by rw[<- ov b];exact h.all e a)
 |some x=>
  obtain⟨t,n,c⟩:=x;obtain⟨q,a,b,g⟩:=h.row _ (oM d)
  grind
theorem HV.add(h:HV E A)(g:(A.map (·.1)).Nodup)(x:Ed)(t:Nat):
 HV (E++[x]) (pC (pk (ae x)) (t,(lB E (ae x)).length+1,eds (lB E (ae x))++[u x.id,u x.a,u x.b]) A):=by
 refine⟨fun a d=>?_,fun e c=>?_⟩
 .rcases sL g a d with rfl|⟨d,Tv⟩
  .grind [Ev]
  .obtain⟨p,j,k,l⟩:=h.row a d
   grind [Ev]
 .by_cases f:pk (ae x)∈A.map (·.1)
  .rw[zV f];rcases am.1 c with c|c
   .exact h.all e c
   grind
  .rw[Ds f,cz,am];rcases am.1 c with c|c
   .exact .inl (h.all e c)
   grind
def wZ(T:TL)(A:RM):Prop:=A.map (fun a=>(a.1,a.2.2))=T.map fun p=>([p.1],(p.2.length,us p.2))
theorem wZ.get{v:Int}:∀ {T:TL} {A:RM},wZ T A->(fK v T=[]/\getM [v] A=none)\/∃ t,getM [v] A=some (t,(fK v T).length,us (fK v T))
 |[],[],_=>.inl ⟨rfl,rfl⟩
 |[],a::A,h=>by cases h
 |p::T,[],h=>by cases h
 |p::T,a::A,h=>by
  obtain⟨ak,b,j,g⟩:=a;simp only[wZ,ax,kX,fj]at h;obtain⟨⟨c,d,f⟩,h4⟩:=h;subst c;subst d;subst f;unfold fK getM;by_cases e:p.1=v
  .grind
  .rw[aa e,aa (by grind)];exact wZ.get h4
theorem wZ.add{v:Int}{ds:PP}(t:Nat):∀ {T:TL} {A:RM},wZ T A->wZ (sF v ds T) (pC [v] (t,(fK v T).length+ds.length,us (fK v T)++us ds) A)
 |[],[],_=>by simp[wZ,sF,pC,fK]
 |[],a::A,h=>by cases h
 |p::T,[],h=>by cases h
 |p::T,a::A,h=>by
  obtain⟨ak,b,j,g⟩:=a;simp only[wZ,ax,kX,fj]at h;obtain⟨⟨c,d,f⟩,h4⟩:=h;subst c;subst d;subst f;unfold fK sF pC;by_cases e:p.1=v
  .grind [wZ]
  .rw[aa e,aa e,aa (by grind)];have:=wZ.add (v:=v) (ds:=ds) t (T:=T) (A:=A) h4
   grind [wZ]
end Aw
namespace Aw
open Go Go.RowKit Pl Eu
def bh(x:Ed)(v:Int):Int:=if x.a=v then x.b else x.a
abbrev an(a:QR)(i:Nat):Ed:=a.getD i ed0
def ci(c:QR)(v:Int):PQ:=(List.range c.length).filter fun i=>decide ((an c i).a=v\/(an c i).b=v)
structure Bw where
 w:PP
 low:PP
 stk:PQ
 out:List (PQ)
def dy(V:PP)(v:Int):Int:=if v∈V then(V.idxOf v:Int)+1 else 0
def bp(s:Bw)(v:Int):Int:=s.low.getD (s.w.idxOf v) 0
def pP(s:Bw)(v x:Int):Bw:={ s with low:=s.low.set (s.w.idxOf v) x }
def fU(s:Bw)(i:Nat):Bw:={ s with stk:=s.stk++[i] }
def kV(l:PQ)(i:Nat):Nat:=l.length-1-l.reverse.idxOf i
def wS(n:Nat)(dp:PQ):PQ:=(List.range n).filter fun i=>decide (i∈dp)
def KF(n:Nat)(s:Bw)(i:Nat):Option Bw:=if i∈s.stk then some { s with stk:=s.stk.take (kV s.stk i),out:=s.out++[wS n (s.stk.drop (kV s.stk i))] } else none
def ly(f:Bw->Nat->Option Bw):PQ->Bw->Option Bw
 |[],s=>some s
 |i::l,s=>(f s i).bind (ly f l)
def Qo(n:Nat)(v b:Int)(i:Nat)(u:Int)(a:Bw):Option Bw:=
 if b<=bp a u then KF n (pP a v (min (bp a v) (bp a u))) i else some (pP a v (min (bp a v) (bp a u)))
def iU(d:Int->Int->Bw->Option Bw)(b:QR)(v c a:Int)(s:Bw)(i:Nat):Option Bw:=
 if(i:Int)=c then some s
 else if bh (an b i) v∈s.w then
  (if dy s.w (bh (an b i) v)<a then some (pP (fU s i) v (min (bp s v) (dy s.w (bh (an b i) v))))else some s)
 else(d (bh (an b i) v) i (fU s i)).bind (Qo b.length v a i (bh (an b i) v))
def sG(s:Bw)(v:Int):Bw:={ s with w:=s.w++[v],low:=s.low++[(s.w.length:Int)+1] }
def qA(a:QR):Nat->Int->Int->Bw->Option Bw
 |0,_,_,_=>none
 |n+1,v,by_,s=>ly (iU (qA a n) a v by_ ((s.w.length:Int)+1)) (ci a v) (sG s v)
def vG(a:QR)(n:Nat):PP->Bw->Option Bw
 |[],s=>some s
 |v::l,s=>if v∈s.w then vG a n l s else(qA a n v (-1) s).bind (vG a n l)
inductive RIn(es:List Ed)(S:Int->Prop)(x:Int):Int->Prop
 |refl (h:S x):RIn es S x x
 |step {y z:Int} (h:RIn es S x y) (hz:z∈nbr es y) (hs:S z):RIn es S x z
variable{s:Bw}{v w x y:Int}{S:Int->Prop}{a:List Ed}{V W:List Int}{j n:Nat}
def RIn.here(h:RIn a S x y):S x/\S y:=by
 induction h with
 |refl h=>grind
 |step _ _ b c=>grind
def RIn.trans{z:Int}(h:RIn a S x y)(k:RIn a S y z):RIn a S x z:=by
 induction k with
 |refl=>exact h
 |step _ c b d=>exact .step d c b
def RIn.symm{es:QR}{S:Int->Prop}{x y:Int}(h:RIn es S x y):RIn es S y x:=by
 induction h with
 |refl h=>exact .refl h
 |step h hz hs ih=>exact(RIn.step (.refl hs) (mH hz) h.here.2).trans ih
theorem RIn.mono{S':Int->Prop}(h:RIn a S x y)(b:∀ z,S z->S' z):RIn a S' x y:=by
 induction h with
 |refl h=>exact .refl (b _ h)
 |step _ d c e=>exact .step e d (b _ c)
def RIn.closed{L:Int->Prop}(h:RIn a S x y)(d:L x)(b:∀ z,L z->∀ w∈nbr a z,S w->L w):L y:=by
 induction h with
 |refl=>omega
 |step h e c f=>grind
def VE(c:QR)(w:Int)(x y:Ed):Prop:=(x.a=w\/x.b=w)/\(y.a=w\/y.b=w)/\RIn c (·≠w) (bh x w) (bh y w)
def Kb(a:QR)(x y:Ed):Prop:=∃ w,VE a w x y
theorem Kb.symm{es:QR}{x y:Ed}:Kb es x y->Kb es y x:=fun⟨w,h1,h2,h3⟩=>⟨w,h2,h1,h3.symm⟩
inductive oH(es:List Ed)(i:Nat):Nat->Prop
 |refl:oH es i i
 |step {j k:Nat} (h:oH es i j) (hj:j<es.length) (hk:k<es.length) (hr:Kb es (an es j) (an es k)):oH es i k
def oH.trans{i k:Nat}(h:oH a i j)(b:oH a j k):oH a i k:=by
 induction b with
 |refl=>exact h
 |step _ c d e f=>exact .step f c d e
theorem oH.symm{es:QR}{i j:Nat}(h:oH es i j):oH es j i:=by
 induction h with
 |refl=>exact .refl
 |step _ hj hk hr ih=>exact(oH.step .refl hk hj hr.symm).trans ih
structure eH(es:QR)(B:PQ):Prop where
 ne:B≠[]
 rise:B.Pairwise (· < ·)
 lt:∀ i∈B,i<es.length
 rel:∀ i∈B,∀ j∈B,oH es i j
 all:∀ i∈B,∀ j,j<es.length->Kb es (an es i) (an es j)->j∈B
def eH.iff{b:QR}{B:PQ}(h:eH b B){i:Nat}(c:i∈B):j∈B↔oH b i j:=by
 refine⟨h.rel i c j,fun a=>?_⟩;induction a with
 |refl=>omega
 |step _ _ d a e=>exact h.all _ e _ d a
theorem aU{c:QR}{i:Nat}:i∈ci c v↔i<c.length/\((an c i).a=v\/(an c i).b=v):=by
 grind [ci]
def uY{es:QR}{i:Nat}(h:i<es.length):an es i∈es:=by
 grind
theorem nG{x:Ed}(h:x.a=v\/x.b=v):bh x (bh x v)=v:=by
 grind [bh]
theorem nR(x:Ed)(v:Int):x.a=bh x v\/x.b=bh x v:=by
 grind [bh]
def B3{x:Ed}(h:x.a≠x.b)(c:x.a=v\/x.b=v):bh x v≠v:=by
 grind [bh]
def gW{x:Ed}(d:x.a=v\/x.b=v)(c:Int):(x.a=c\/x.b=c)↔(c=v\/c=bh x v):=by
 grind [bh]
theorem nH{i:Nat}(h:i∈ci a v):bh (an a i) v∈nbr a v:=by
 grind [aU,cI,bh]
def GI(h:w∈nbr a v):∃ i∈ci a v,bh (an a i) v=w:=by
 rw[cI]at h;obtain⟨x,c,h⟩:=h;obtain⟨i,b,rfl⟩:=er c;have e:an a i=a[i]:=gH _ _ b
 grind [aU,bh]
def Bj{i:Nat}(h:i∈ci a v):i∈ci a (bh (an a i) v):=aU.2 ⟨(aU.1 h).1,nR _ _⟩
structure BJ(g:Gr)(A:Int->Prop)(s:Bw)(v by_:Int):Prop where
 ln:s.low.length=s.w.length
 nd:s.w.Nodup
 act:∀ a,A a->a∈s.w
 fin:∀ w∈s.w,¬A w->∀ i∈ci g.E w,bh (an g.E i) w∈s.w
 new:v∉s.w
 con:∀ a b,A a->A b->RIn g.E A a b
 par:(by_ = -1/\∀ a,¬A a)\/∃ i:Nat,by_=i/\i∈ci g.E v/\A (bh (an g.E i) v)
structure Nt(g:Gr)(s:Bw)(v by_:Int)(s1:Bw)(C:PP)(T:PQ)(N:List PQ):Prop where
 w:s1.w=s.w++C
 hd:v∈C
 nd:s1.w.Nodup
 ln:s1.low.length=s1.w.length
 low:∀ w∈s.w,bp s1 w=bp s w
 clo:∀ c∈C,∀ i∈ci g.E c,bh (an g.E i) c∈s1.w
 stk:s1.stk=s.stk++T
 out:s1.out=s.out++N
 pl:∀ i,(i∈T++N.flatten)↔i<g.E.length/\(i:Int)≠by_/\((an g.E i).a∈C\/(an g.E i).b∈C)
 pn:(T++N.flatten).Nodup
 lw1:bp s1 v<=(s.w.length:Int)+1
 lw2:∀ c∈C,∀ i∈ci g.E c,(i:Int)≠by_->bh (an g.E i) c∉C->bp s1 v<=dy s.w (bh (an g.E i) c)
 lw3:bp s1 v<(s.w.length:Int)+1->∃ c∈C,∃ i∈ci g.E c,(i:Int)≠by_/\bh (an g.E i) c∈s.w/\dy s.w (bh (an g.E i) c)=bp s1 v
 rel:∀ i∈T,∃ b:Nat,by_=b/\oH g.E b i
 good:∀ B∈N,eH g.E B
 cn:∀ c∈C,RIn g.E (·∈C) v c
structure BLp(g:Gr)(s0:Bw)(v by_:Int)(Q:PQ)(s:Bw)(D:PP)(T:PQ)(N:List PQ):Prop where
 w:s.w=s0.w++v::D
 nd:s.w.Nodup
 ln:s.low.length=s.w.length
 low:∀ w∈s0.w,bp s w=bp s0 w
 qs:∀ i∈Q,i∈ci g.E v
 cloQ:∀ i∈Q,bh (an g.E i) v∈s.w
 cloD:∀ c∈D,∀ i∈ci g.E c,bh (an g.E i) c∈s.w
 stk:s.stk=s0.stk++T
 out:s.out=s0.out++N
 pl:∀ i,(i∈T++N.flatten)↔i<g.E.length/\(i:Int)≠by_/\(((an g.E i).a∈D\/(an g.E i).b∈D)\/(i∈Q/\bh (an g.E i) v∈s0.w))
 pn:(T++N.flatten).Nodup
 lw1:bp s v<=(s0.w.length:Int)+1
 lwD:∀ c∈D,∀ i∈ci g.E c,bh (an g.E i) c∉D->bh (an g.E i) c≠v->bp s v<=dy s0.w (bh (an g.E i) c)
 lwQ:∀ i∈Q,(i:Int)≠by_->bh (an g.E i) v∈s0.w->bp s v<=dy s0.w (bh (an g.E i) v)
 lw3:bp s v<(s0.w.length:Int)+1->∃ c∈v::D,∃ i∈ci g.E c,(i:Int)≠by_/\bh (an g.E i) c∈s0.w/\dy s0.w (bh (an g.E i) c)=bp s v
 rel:∀ i∈T,∃ b:Nat,by_=b/\oH g.E b i
 good:∀ B∈N,eH g.E B
 cn:∀ c∈D,RIn g.E (fun x=>x=v\/x∈D) v c
def Gk(h:x∈V):dy (V++W) x=dy V x:=by
 grind [dy]
def Nl(h:x∉V)(a:x∈W):(V.length:Int)+1<=dy (V++W) x:=by
 grind [dy]
def Ta(h:x∈V):dy V x<(V.length:Int)+1:=by
 grind [dy]
def Hv(g:s.low.length=s.w.length)(b:v∈s.w)(c:w∈s.w):bp (pP s v x) w=if w=v then x else bp s w:=by
 unfold bp pP;have a:=lg b;have f:=lg c;simp only;rw[bT _ _ (by grind),List.getElem_set,bT _ _ O];by_cases e:w=v
 .grind
 .rw[aa e,aa];intro k;apply e;have d:=nr a
  grind
def Ve(a:s.low.length=s.w.length)(b:w∈s.w):bp (sG s v) w=bp s w:=by
 grind [bp,sG]
def VL(a:s.low.length=s.w.length)(b:v∉s.w):bp (sG s v) v=(s.w.length:Int)+1:=by
 grind [bp,sG]
theorem yU{P R:PQ}{i:Nat}(h:i∉R):kV (P++i::R) i=P.length:=by
 grind [kV]
theorem mQ{S:PQ}{i:Nat}:i∈wS n S↔i<n/\i∈S:=by
 grind [wS]
def yZ(n:Nat)(S:PQ):(wS n S).Pairwise (· < ·):=sk _ (o0)
def yW{S:PQ}(a:S.Nodup)(b:∀ i∈S,i<n):(wS n S).Perm S:=
 (jd ((yZ n S).imp fun h=>lp h) a).2 fun i=>by grind [mQ]
section
variable {g:Gr} (hg:GoodE g)
include hg
theorem vT{i:Nat}{v:Int}(h:i∈ci g.E v):bh (an g.E i) v≠v:=B3 (hg.ne _ (uY (aU.1 h).1)) (aU.1 h).2
omit hg in
theorem BJ.start{A:Int->Prop}{s:Bw}{v d:Int}(h:BJ g A s v d):BLp g s v d [] (sG s v) [] [] [] where
 w:=rfl
 nd:=by show(s.w++[v]).Nodup;rw[bo];exact⟨h.nd,Y,fun a f b e=>by rintro rfl;rw[bi]at e;subst e;exact h.new f⟩
 ln:=by show(s.low++[_]).length=(s.w++[v]).length;simp[h.ln]
 low:=fun w k=>Ve h.ln k
 qs:=fun i c=>by grind
 cloQ:=fun i c=>by grind
 cloD:=fun i c=>by grind
 stk:=by show s.stk=s.stk++[];simp
 out:=by show s.out=s.out++[];simp
 pl:=fun i=>by simp
 pn:=Y
 lw1:=by rw[VL h.ln h.new];omega
 lwD:=fun i c=>by grind
 lwQ:=fun i c=>by grind
 lw3:=fun j=>by rw[VL h.ln h.new]at j;omega
 rel:=fun i c=>by grind
 good:=fun i c=>by grind
 cn:=fun i c=>by grind
theorem BLp.done{A:Int->Prop}{o s:Bw}{v f:Int}{D:PP}{T:PQ}{N:List PQ}(x:BJ g A o v f)(h:BLp g o v f (ci g.E v) s D T N):Nt g o v f s (v::D) T N where
 w:=h.w
 hd:=Y
 nd:=h.nd
 ln:=h.ln
 low:=h.low
 clo:=fun c d i e=>by
  rcases ai.1 d with rfl|d
  .exact h.cloQ i e
  .exact h.cloD c d i e
 stk:=h.stk
 out:=h.out
 pl:=fun i=>by
  rw[h.pl i];refine⟨fun⟨m,n,l⟩=>⟨m,n,?_⟩,fun⟨m,n,l⟩=>⟨m,n,?_⟩⟩
  .rcases l with(l|l)|⟨l,_⟩
   .grind
   .grind
   grind [aU]
  .by_cases r:(an g.E i).a=v\/(an g.E i).b=v
   .have e:i∈ci g.E v:=aU.2 ⟨m,r⟩;have k:=h.cloQ i e;rw[h.w,am,ai]at k;rcases k with k|k|k
    .grind
    .grind [vT]
    grind [nR]
   grind
 pn:=h.pn
 lw1:=h.lw1
 lw2:=fun c d i e p q=>by
  have j:=q;rw[ai,fJ]at j;rcases ai.1 d with rfl|d
  .refine h.lwQ i e p ?_;have k:=h.cloQ i e;rw[h.w,am]at k
   grind
  .exact h.lwD c d i e j.2 j.1
 lw3:=h.lw3
 rel:=h.rel
 good:=h.good
 cn:=fun c d=>by
  rcases ai.1 d with rfl|d
  .exact .refl Y
  .exact(h.cn c d).mono fun z t=>ai.2 t
end
def Bg{x:Ed}{L:PP}(g:w∈L)(c:x.a=w\/x.b=w)(f:bh x w∈L):x.a∈L/\x.b∈L:=by
 have d:=(gW c x.a).1 (.inl rfl);have e:=(gW c x.b).1 (.inr rfl)
 grind
section
variable {g:Gr} (hg:GoodE g) {A:Int->Prop} {s0 s:Bw} {v by_:Int} {Q:List Nat} {D:List Int} {T:List Nat} {N:List (List Nat)} (h0:BJ g A s0 v by_) (h:BLp g s0 v by_ Q s D T N)
include hg h0 h
theorem BLp.v_in:v∈s.w:=by rw[h.w];simp
theorem BLp.old_in{w:Int}(a:w∈s0.w):w∈s.w:=by rw[h.w];grind
theorem BLp.d_in{w:Int}(a:w∈D):w∈s.w:=by rw[h.w];grind
theorem BLp.by_out{b:Nat}(e:by_=b):bh (an g.E b) v∈s0.w/\b∈ci g.E v/\A (bh (an g.E b) v):=by
 rcases h0.par with⟨c,_⟩|⟨i,c,d,a⟩
 .omega
 .obtain rfl:i=b:=O;exact⟨h0.act _ a,d,a⟩
theorem BLp.d_new{d:Int}(b:d∈D):d∉s0.w/\d≠v:=by
 have a:=h.nd;rw[h.w,bo]at a
 grind
theorem BLp.pl_in{j:Nat}(e:j∈T++N.flatten):(an g.E j).a∈s.w/\(an g.E j).b∈s.w:=by
 obtain⟨c,_,d⟩:=(h.pl j).1 e;rcases d with(k|k)|⟨k,f⟩
 .exact Bg (h.d_in hg h0 k) (.inl rfl) (h.cloD _ k j (aU.2 ⟨c,.inl rfl⟩))
 .exact Bg (h.d_in hg h0 k) (.inr rfl) (h.cloD _ k j (aU.2 ⟨c,.inr rfl⟩))
 .exact Bg (h.v_in hg h0) (aU.1 (h.qs j k)).2 (h.cloQ j k)
theorem BLp.back_act{c:Int}(b:c∉s0.w){i:Nat}(d:i∈ci g.E c)(e:bh (an g.E i) c∈s0.w):A (bh (an g.E i) c):=
 dq fun a=>b (by
  have:=h0.fin _ e a i (Bj d)
  grind [nG,aU])
theorem BLp.same{i:Nat}(d:i∈ci g.E v)(c:(i:Int)=by_):BLp g s0 v by_ (Q++[i]) s D T N where
 w:=h.w
 nd:=h.nd
 ln:=h.ln
 low:=h.low
 qs:=fun j a=>by rcases am.1 a with k|k;exact h.qs j k;grind
 cloQ:=fun j a=>by
  rcases am.1 a with k|k
  .exact h.cloQ j k
  .rw[bi]at k;subst k;exact h.old_in hg h0 (h.by_out hg h0 c.symm).1
 cloD:=h.cloD
 stk:=h.stk
 out:=h.out
 pl:=fun j=>by
  rw[h.pl j,am,bi]
  grind
 pn:=h.pn
 lw1:=h.lw1
 lwD:=h.lwD
 lwQ:=fun j a b=>by
  rcases am.1 a with k|k
  .exact h.lwQ j k b
  grind
 lw3:=h.lw3
 rel:=h.rel
 good:=h.good
 cn:=h.cn
theorem BLp.skip{i:Nat}(e:i∈ci g.E v)(f:bh (an g.E i) v∈s.w)(d:¬dy s.w (bh (an g.E i) v)<(s0.w.length:Int)+1):BLp g s0 v by_ (Q++[i]) s D T N:=by
 have c:bh (an g.E i) v∉s0.w:=fun k=>d (by rw[h.w,Gk k];exact Ta k)
 exact {
 w:=h.w
 nd:=h.nd
 ln:=h.ln
 low:=h.low
 qs:=fun j a=>by rcases am.1 a with k|k;exact h.qs j k;grind
 cloQ:=fun j a=>by
  rcases am.1 a with k|k
  .exact h.cloQ j k
  grind
 cloD:=h.cloD
 stk:=h.stk
 out:=h.out
 pl:=fun j=>by
  rw[h.pl j,am,bi]
  grind
 pn:=h.pn
 lw1:=h.lw1
 lwD:=h.lwD
 lwQ:=fun j a b=>by
  rcases am.1 a with k|k
  .exact h.lwQ j k b
  grind
 lw3:=h.lw3
 rel:=h.rel
 good:=h.good
 cn:=h.cn }
theorem BLp.act_to{b:Nat}(d:by_=b){a:Int}(c:A a):RIn g.E (·≠v) a (bh (an g.E b) v):=
 (h0.con _ _ c (h.by_out hg h0 d).2.2).mono fun z f e=>by subst e;exact h0.new (h0.act _ f)
theorem BLp.no_root{a:Int}(d:A a):∃ b:Nat,by_=b:=by
 rcases h0.par with⟨_,c⟩|⟨b,c,_⟩
 .grind
 grind
theorem BLp.back{i:Nat}(o:i∈ci g.E v)(L:i∉Q)(M:(i:Int)≠by_)(H:bh (an g.E i) v∈s.w)(P:dy s.w (bh (an g.E i) v)<(s0.w.length:Int)+1):
 BLp g s0 v by_ (Q++[i]) (pP (fU s i) v (min (bp s v) (dy s.w (bh (an g.E i) v)))) D (T++[i]) N:=by
 have d:bh (an g.E i) v∈s0.w:=dq fun k=>by have r:=H;rw[h.w,am]at r;have:=Nl k (r.resolve_left k);rw[h.w]at P;omega
 have F:=h.back_act hg h0 h0.new o d;have n:=h.v_in hg h0;have R:dy s.w (bh (an g.E i) v)=dy s0.w (bh (an g.E i) v):=by rw[h.w,Gk d]
 have m:∀ w∈s.w,∀ x,bp (pP (fU s i) v x) w=if w=v then x else bp s w:=fun w t x=>Hv (s:=fU s i) h.ln n t
 have q:i∉T++N.flatten:=fun k=>by
  obtain⟨_,_,J⟩:=(h.pl i).1 k;rcases J with(f|f)|⟨f,_⟩
  .rcases(gW (aU.1 o).2 _).1 (.inl rfl)with e|e
   .rw[e]at f;exact(h.d_new hg h0 f).2 rfl
   .rw[e]at f;exact(h.d_new hg h0 f).1 d
  .rcases(gW (aU.1 o).2 _).1 (.inr rfl)with e|e
   .rw[e]at f;exact(h.d_new hg h0 f).2 rfl
   .rw[e]at f;exact(h.d_new hg h0 f).1 d
  grind
 exact {
 w:=h.w
 nd:=h.nd
 ln:=by show(s.low.set _ _).length=_;rw[rp];exact h.ln
 low:=fun w t=>by rw[m w (h.old_in hg h0 t),aa (fun e=>h0.new (by grind))];exact h.low w t
 qs:=fun j l=>by rcases am.1 l with k|k;exact h.qs j k;grind
 cloQ:=fun j l=>by
  rcases am.1 l with k|k
  .exact h.cloQ j k
  .rw[bi]at k;subst k;exact H
 cloD:=h.cloD
 stk:=by show s.stk++[i]=_;rw[h.stk,dw]
 out:=h.out
 pl:=fun j=>by
  rw[dw,am,am,or_left_comm,<- am,h.pl j,bi,am,bi]
  grind [aU]
 pn:=by rw[dw];refine((mw (a:=i) (l₁:=T) (l₂:=N.flatten)).nodup_iff).2 ?_;exact bw.2 ⟨q,h.pn⟩
 lw1:=by grind
 lwD:=fun c K j l r I=>by rw[m v n,ac rfl];have:=h.lwD c K j l r I;omega
 lwQ:=fun j l z S=>by
  rw[m v n,ac rfl];rcases am.1 l with k|k
  .have:=h.lwQ j k z S;omega
  grind
 lw3:=fun B=>by
  rw[m v n,ac rfl]at B ⊢;by_cases p:bp s v<=dy s.w (bh (an g.E i) v)
  .rw[Int.min_eq_left p]at B ⊢;exact h.lw3 B
  grind
 rel:=fun j l=>by
  rcases am.1 l with k|k
  .exact h.rel j k
  .rw[bi]at k;subst k;obtain⟨b,y⟩:=h.no_root hg h0 F;obtain⟨_,C,_⟩:=h.by_out hg h0 y;exact⟨b,y,.step .refl (aU.1 C).1 (aU.1 o).1 ⟨v,(aU.1 C).2,(aU.1 o).2,(h.act_to hg h0 y F).symm⟩⟩
 good:=h.good
 cn:=h.cn }
end
section
variable {g:Gr} (hg:GoodE g) {A:Int->Prop} {s0 s:Bw} {v by_:Int} {Q:List Nat} {D:List Int} {T:List Nat} {N:List (List Nat)} (h0:BJ g A s0 v by_) (h:BLp g s0 v by_ Q s D T N)
include hg h0 h
theorem BLp.pre{i:Nat}(n:i∈ci g.E v)(f:bh (an g.E i) v∉s.w):BJ g (fun a=>A a\/a=v) (fU s i) (bh (an g.E i) v) i where
 ln:=h.ln
 nd:=h.nd
 act:=fun a c=>by
  rcases c with c|e
  .exact h.old_in hg h0 (h0.act _ c)
  .show a∈s.w;rw[e];exact h.v_in hg h0
 fin:=fun w t r j o=>by
  have l:w∈s.w:=t;show bh (an g.E j) w∈s.w;rw[h.w,am,ai]at l;rcases l with k|k|k
  .exact h.old_in hg h0 (h0.fin w k (fun x=>r (.inl x)) j o)
  .omega
  .exact h.cloD w k j o
 new:=f
 con:=by
  have B:∀ a b,A a->A b->RIn g.E (fun a=>A a\/a=v) a b:=fun a b c d=>(h0.con a b c d).mono fun z y=>.inl y;have m:∀ a,A a->RIn g.E (fun a=>A a\/a=v) a v:=fun a c=>by obtain⟨b,d⟩:=h.no_root hg h0 c;obtain⟨_,p,q⟩:=h.by_out hg h0 d;exact .step (B a _ c q) (mH (nH p)) (.inr rfl)
  rintro a b (c|rfl) (d|rfl)
  .grind
  .grind
  .exact(m b d).symm
  .exact .refl (.inr rfl)
 par:=.inr ⟨i,rfl,Bj n,.inr (nG (aU.1 n).2)⟩
theorem BLp.child{i:Nat}(hi:i∈ci g.E v)(hiQ:i∉Q)(hib:(i:Int)≠by_)(hout:bh (an g.E i) v∉s.w){s1:Bw}{C:PP}{T':PQ}{N':List PQ}
 (f:Nt g (fU s i) (bh (an g.E i) v) i s1 C T' N'):∃ S D2 T2 N2,Qo g.E.length v ((s0.w.length:Int)+1) i (bh (an g.E i) v) s1=some S/\BLp g s0 v by_ (Q++[i]) S D2 T2 N2:=by
 obtain⟨u,hu⟩:∃ u,u=bh (an g.E i) v:=⟨_,rfl⟩;have hvs:=h.v_in hg h0;have m:s1.w=s.w++C:=f.w;have hvis2:s1.w=s0.w++v::(D++C):=by rw[m,h.w,dw];rfl
 have M:v∈s1.w:=by rw[m];exact dg _ hvs
 have hcn:∀ c∈C,c∉s.w:=fun c q k=>by
  have:=f.nd
  grind
 have y:(an g.E i).a=v\/(an g.E i).b=v:=(aU.1 hi).2;have hil:=(aU.1 hi).1;have huC:u∈C:=by rw[hu];exact f.hd
 have hu1:u∈s1.w:=by rw[m];exact dE _ huC
 have huv:u≠v:=by rw[hu];exact vT hg hi
 have hlen:s.w.length=s0.w.length+1+D.length:=by rw[h.w,cb,List.length_cons];omega
 have W:bp s1 v=bp s v:=f.low v hvs;have inS:∀ {j:Nat},j∈T++N.flatten->¬((an g.E j).a∈C\/(an g.E j).b∈C):=fun d k=>by
  have:=h.pl_in hg h0 d
  grind
 have byC:∀ b:Nat,by_=b->¬((an g.E b).a∈C\/(an g.E b).b∈C):=fun b hb k=>by
  obtain⟨b1,b2,_⟩:=h.by_out hg h0 hb;have:=Bg hvs (aU.1 b2).2 (h.old_in hg h0 b1)
  grind
 have iC:(an g.E i).a∈C\/(an g.E i).b∈C:=by
  rcases nR (an g.E i) v with e|e
  .grind
  .grind
 have iT':i∉T'++N'.flatten:=fun k=>((f.pl i).1 k).2.1 rfl;have o:∀ j,(j=i\/j∈T'++N'.flatten)↔j<g.E.length/\((an g.E j).a∈C\/(an g.E j).b∈C):=fun j=>by
  rw[f.pl j]
  grind
 have hpl:∀ j,(j∈T++N.flatten\/(j=i\/j∈T'++N'.flatten))↔j<g.E.length/\(j:Int)≠by_/\(((an g.E j).a∈D++C\/(an g.E j).b∈D++C)\/(j∈Q++[i]/\bh (an g.E j) v∈s0.w)):=fun j=>by
  rw[h.pl j,o j]
  grind
 have hnd:((T++N.flatten)++i::(T'++N'.flatten)).Nodup:=by rw[bo];refine⟨h.pn,bw.2 ⟨iT',f.pn⟩,fun a ha b hb=>?_⟩;rintro rfl;exact inS ha ((o a).1 (ai.1 hb)).2
 have hset:∀ x,∀ w∈s1.w,bp (pP s1 v x) w=if w=v then x else bp s1 w:=fun x w R=>Hv f.ln M R
 have hold1:∀ w∈s0.w,w≠v:=fun w R e=>h0.new (by grind);have nm0:∀ w∈s0.w,dy s.w w=dy s0.w w:=fun w R=>by rw[h.w,Gk R]
 have wit:bp s1 u<(s0.w.length:Int)+1->∃ c∈C,∃ j∈ci g.E c,j≠i/\bh (an g.E j) c∈s0.w/\dy s0.w (bh (an g.E j) c)=bp s1 u:=fun V=>by
  have hl2:bp s1 u<((fU s i).w.length:Int)+1:=by show _<(s.w.length:Int)+1;omega
  rw[hu]at hl2;obtain⟨c,q,j,d,p,X,he⟩:=f.lw3 hl2;have he:dy s.w (bh (an g.E j) c)=bp s1 u:=by rw[hu];exact he
  have r:bh (an g.E j) c∈s.w:=X;have h1:bh (an g.E j) c∈s0.w:=dq fun k=>by have h2:=r;rw[h.w,am]at h2;have:=Nl k (h2.resolve_left k);rw[<- h.w]at this;omega
  grind
 have base:∀(S:Bw) (T2:PQ) (N2:List PQ),S.w=s1.w->S.low=(pP s1 v (min (bp s1 v) (bp s1 u))).low->S.stk=s0.stk++T2->S.out=s0.out++N2->
  (T2++N2.flatten).Perm ((T++N.flatten)++i::(T'++N'.flatten))->(∀ j∈T2,∃ b:Nat,by_=b/\oH g.E b j)->(∀ B∈N2,eH g.E B)->BLp g s0 v by_ (Q++[i]) S (D++C) T2 N2:=fun S T2 N2 P e2 e3 e4 J hrel F=>by
  have I:∀ w∈s1.w,bp S w=if w=v then min (bp s1 v) (bp s1 u)else bp s1 w:=fun w R=>by rw[<- hset _ w R];unfold bp;rw[P,e2];rfl
  exact {
  w:=by grind
  nd:=by rw[P];exact f.nd
  ln:=by rw[P,e2];show(s1.low.set _ _).length=_;rw[rp];exact f.ln
  low:=fun w R=>by have hw1:=h.old_in hg h0 R;rw[I w (by grind),aa (hold1 w R),f.low w hw1];exact h.low w R
  qs:=fun j d=>by rcases am.1 d with k|k;exact h.qs j k;grind
  cloQ:=fun j d=>by
   rw[P];rcases am.1 d with k|k
   .rw[m];exact dg _ (h.cloQ j k)
   grind
  cloD:=fun c q j d=>by
   rw[P];rcases am.1 q with k|k
   .rw[m];exact dg _ (h.cloD c k j d)
   .exact f.clo c k j d
  stk:=e3
  out:=e4
  pl:=fun j=>by rw[J.mem_iff,<- hpl j,am,ai]
  pn:=J.nodup_iff.2 hnd
  lw1:=by rw[I v M,ac rfl,W];have:=h.lw1;omega
  lwD:=fun c q j d h1 h2=>by
   rw[I v M,ac rfl,W];rw[am,fJ]at h1;rcases am.1 q with k|k
   .have:=h.lwD c k j d h1.1 h2;omega
   .have p:(j:Int)≠i:=fun e=>by
     obtain rfl:j=i:=O;rcases(gW y c).1 (aU.1 d).2 with e|e
     .grind
     grind [nG]
    have h3:=f.lw2 c k j d p h1.2;have h4:bp s1 u<=dy s.w (bh (an g.E j) c):=by rw[hu];exact h3
    have r:=f.clo c k j d;rw[hvis2,am,ai,am]at r;have r:=r.resolve_right fun x=>by rcases x with x|x|x;exact h2 x;exact h1.1 x;grind
    rw[nm0 _ r]at h4;omega
  lwQ:=fun j d hjb X=>by
   rw[I v M,ac rfl,W];rcases am.1 d with k|k
   .have:=h.lwQ j k hjb X;omega
   .rw[bi]at k;subst k;exact absurd (h.old_in hg h0 X) hout
  lw3:=fun V=>by
   rw[I v M,ac rfl]at V ⊢;by_cases hmin:bp s1 v<=bp s1 u
   .rw[Int.min_eq_left hmin,W]at V ⊢;obtain⟨c,q,j,d,hjb,X,he⟩:=h.lw3 V
    grind
   .rw[Int.min_eq_right O]at V ⊢;obtain⟨c,q,j,d,p,X,he⟩:=wit V;refine⟨c,by grind,j,d,fun e=>byC j e.symm ?_,X,he⟩;rcases(aU.1 d).2 with x|x
    .grind
    grind
  rel:=hrel
  good:=F
  cn:=fun c q=>by
   rcases am.1 q with k|k
   .exact(h.cn c k).mono fun z hz=>hz.imp_right fun x=>dg _ x
   .have h1:=(f.cn c k).mono (S':=fun x=>x=v\/x∈D++C) fun z hz=>.inr (dE _ hz)
    exact(RIn.step (.refl (.inl rfl)) (nH hi) (.inr (dE _ (by grind)))).trans h1 }
 rw[<- hu];unfold Qo;by_cases q:(s0.w.length:Int)+1<=bp s1 u
 .rw[ac q];have hstk:s1.stk=(s0.stk++T)++i::T':=by rw[f.stk];show(s.stk++[i])++T'=_;rw[h.stk];simp
  have hiT:i∉T':=fun k=>iT' (dg _ k);have hlp:kV s1.stk i=(s0.stk++T).length:=by rw[hstk];exact yU hiT
  have hSn:(i::T').Nodup:=bw.2 ⟨hiT,(bo.1 f.pn).1⟩;have hSl:∀ j∈i::T',j<g.E.length:=fun j d=>by
   grind
  have hbp:=yW hSn hSl;have K:∀ j∈i::T',oH g.E i j:=fun j d=>by
   rcases ai.1 d with e|k
   .rw[e];exact .refl
   .obtain⟨b,hb,hr⟩:=f.rel j k;obtain rfl:i=b:=O;omega
  have hlu:∀ c∈C,∀ j∈ci g.E c,bh (an g.E j) c∈C\/bh (an g.E j) c=v:=fun c t j d=>by
   by_cases P:bh (an g.E j) c∈C
   .grind
   refine .inr (dq fun e2=>?_);by_cases p:(j:Int)=i
   .obtain rfl:j=i:=O;rcases(gW y c).1 (aU.1 d).2 with e|e
    .grind
    grind [nG]
   .have h3:=f.lw2 c t j d p P;have h4:bp s1 u<=dy s.w (bh (an g.E j) c):=by rw[hu];exact h3
    have r:=f.clo c t j d;rw[m]at r;have r:=(am.1 r).resolve_right P;have hold:bh (an g.E j) c∈s0.w\/bh (an g.E j) c∈D:=by
     rw[h.w,am,ai]at r;rcases r with k|k|k
     .grind
     .omega
     .grind
    rcases hold with k|k
    .rw[nm0 _ k]at h4;have:=Ta k;omega
    .have:=h.cloD _ k j (Bj d)
     grind [nG,aU]
  have F:eH g.E (wS g.E.length (i::T')):={
   ne:=fun e=>by
    have:i∈wS g.E.length (i::T'):=mQ.2 ⟨hil,Y⟩
    grind
   rise:=yZ _ _
   lt:=fun j d=>(mQ.1 d).1
   rel:=fun j d k H=>(K j (mQ.1 d).2).symm.trans (K k (mQ.1 H).2)
   all:=fun j d k H hr=>by
    have U:=(mQ.1 d).2;have hjC:=((o j).1 ((ai.1 U).imp_right fun x=>dg _ x)).2;have hkC:(an g.E k).a∈C\/(an g.E k).b∈C:=by
     obtain⟨w,w1,w2,w3⟩:=hr;have hjw:j∈ci g.E w:=aU.2 ⟨hSl j U,w1⟩;have hkw:k∈ci g.E w:=aU.2 ⟨H,w2⟩;by_cases hwC:w∈C
     .rcases w2 with e|e
      .grind
      grind
     have hoC:bh (an g.E j) w∈C:=by
      rcases hjC with x|x
      .rcases(gW w1 _).1 (.inl rfl)with e|e
       .grind
       grind
      .rcases(gW w1 _).1 (.inr rfl)with e|e
       .grind
       grind
     have hwv:w=v:=by have:=hlu _ hoC j (Bj hjw);rw[nG w1]at this;exact this.resolve_left hwC
     subst hwv;have hq:bh (an g.E k) w∈C:=w3.closed (L:=(·∈C)) hoC fun z hz x hx Tv=>by
      obtain⟨l,V,rfl⟩:=GI hx
      grind
     rcases nR (an g.E k) w with e|e
     .grind
     .grind
    refine mQ.2 ⟨H,?_⟩;rcases(o k).2 ⟨H,hkC⟩with e|e
    .grind
    .rcases am.1 e with e|e
     .grind
     .obtain⟨B,n,hkB⟩:=fI.1 e;have hjB:=(f.good B n).all k hkB j (hSl j U) hr.symm;have hjN:j∈N'.flatten:=fI.2 ⟨B,n,hjB⟩;exfalso;rcases ai.1 U with e|e
      .grind
      .exact(bo.1 f.pn).2.2 j e j hjN rfl }
  have hcut:KF g.E.length (pP s1 v (min (bp s1 v) (bp s1 u))) i=some { pP s1 v (min (bp s1 v) (bp s1 u))with stk:=s0.stk++T,out:=s0.out++(N++N'++[wS g.E.length (i::T')]) }:=by unfold KF;have P:(pP s1 v (min (bp s1 v) (bp s1 u))).stk=s1.stk:=rfl;have e2:(pP s1 v (min (bp s1 v) (bp s1 u))).out=s1.out:=rfl;rw[P,e2,hlp,ac (by grind),hstk,ts,rq,f.out];show some _=some _;have:(fU s i).out=s0.out++N:=h.out;rw[this];simp only[dw]
  refine⟨_,D++C,T,N++N'++[wS g.E.length (i::T')],hcut,base _ _ _ rfl rfl rfl rfl ?_ h.rel ?_⟩
  .simp only[oq,List.flatten_cons,List.flatten_nil,dT,dw];refine se _ (se _ ?_);refine kT.trans ?_;exact(hbp.append_right _)
  .intro B n;rcases am.1 n with n|n
   .rcases am.1 n with n|n
    .exact h.good B n
    .exact f.good B n
   grind
 .rw[aa q];have V:bp s1 u<(s0.w.length:Int)+1:=O;obtain⟨c,t,j,d,p,X,he⟩:=wit V;have hA:=h.back_act hg h0 (c:=c) (fun k=>hcn c t (h.old_in hg h0 k)) d X;obtain⟨b,hb⟩:=h.no_root hg h0 hA;obtain⟨_,b2,_⟩:=h.by_out hg h0 hb;have hbi:oH g.E b i:=by
   refine .step .refl (aU.1 b2).1 hil ⟨v,(aU.1 b2).2,y,?_⟩;refine(((f.cn c t).mono fun z hz=>?_).trans (.step (.refl ?_) (nH d) ?_) |>.trans (h.act_to hg h0 hb hA)).symm
   .grind
   .grind
   .grind
  refine⟨_,D++C,T++(i::T'),N++N',rfl,base _ _ _ rfl rfl ?_ ?_ ?_ ?_ ?_⟩
  .show s1.stk=_;rw[f.stk];show(s.stk++[i])++T'=_;rw[h.stk];simp
  .show s1.out=_;rw[f.out];show s.out++N'=_;rw[h.out];simp
  .simp only[oq,dw,List.cons_append];refine se _ ?_;have:(i::(T'++(N.flatten++N'.flatten))).Perm (N.flatten++(i::(T'++N'.flatten))):=by refine List.Perm.trans ?_ mw.symm;refine List.Perm.cons _ ?_;rw[<- dw,<- dw];exact zo _ kT
   omega
  .intro k H;rcases am.1 H with H|H
   .exact h.rel k H
   .refine⟨b,hb,hbi.trans ?_⟩;rcases ai.1 H with e|e
    .rw[e];exact .refl
    .obtain⟨b',hb',hr⟩:=f.rel k e;obtain rfl:i=b':=O;omega
  .intro B n;rcases am.1 n with n|n
   .exact h.good B n
   .exact f.good B n
end
section
variable {g:Gr} (hg:GoodE g)
include hg
theorem NW(n:Nat)(J:∀(A:Int->Prop) (s:Bw) (v a:Int),BJ g A s v a->v∈g.V->(∀ w∈s.w,w∈g.V)->g.V.length<=n+s.w.length->∃ b C T N,qA g.E n v a s=some b/\Nt g s v a b C T N/\∀ c∈C,c∈g.V)
 {A:Int->Prop} {d:Bw} {v a:Int} (l:BJ g A d v a) (U:g.V.length<=n+(d.w.length+1)):
 ∀(R Q:PQ) (s:Bw) (D:PP) (T:PQ) (N:List PQ),Q++R=ci g.E v->BLp g d v a Q s D T N->(∀ w∈s.w,w∈g.V)->
  ∃ b D T N,ly (iU (qA g.E n) g.E v a ((d.w.length:Int)+1)) R s=some b/\BLp g d v a (ci g.E v) b D T N/\∀ w∈b.w,w∈g.V
 |[],Q,s,D,T,N,hQ,h,hv=>⟨s,D,T,N,rfl,by grind,hv⟩
 |i::R,Q,s,D,T,N,hQ,h,hv=>by
  have m:i∈ci g.E v:=by rw[<- hQ];simp
  have W:(ci g.E v).Nodup:=sk _ vm;have o:i∉Q:=fun k=>by grind
  have x:(Q++[i])++R=ci g.E v:=by rw[<- hQ];simp
  have q:∀ f D T N,iU (qA g.E n) g.E v a ((d.w.length:Int)+1) s i=some f->BLp g d v a (Q++[i]) f D T N->(∀ w∈f.w,w∈g.V)->∃ b D T N,ly (iU (qA g.E n) g.E v a ((d.w.length:Int)+1)) (i::R) s=some b/\BLp g d v a (ci g.E v) b D T N/\∀ w∈b.w,w∈g.V:=fun f D T N e t B=>by
   obtain⟨b,X,T1,N1,k1,k2,k3⟩:=NW n J l U R (Q++[i]) f D T N x t B
   grind [ly]
  by_cases y:(i:Int)=a
  .exact q s D T N (by grind [iU]) (h.same hg l m y) hv
  by_cases r:bh (an g.E i) v∈s.w
  .by_cases p:dy s.w (bh (an g.E i) v)<(d.w.length:Int)+1
   .exact q _ D _ N (by grind [iU]) (h.back hg l m o y r p) hv
   .exact q s D T N (by grind [iU]) (h.skip hg l m r p) hv
  .have F:s.w.length=d.w.length+1+D.length:=by rw[h.w,cb,List.length_cons];omega
   have z:bh (an g.E i) v∈g.V:=hg.nbr (nH m);obtain⟨b,C,T',N',e,H,S⟩:=J _ (fU s i) _ i (h.pre hg l m r) z hv (by show g.V.length<=n+s.w.length;omega);obtain⟨f,K,M,L,j,t⟩:=h.child hg l m o y r H;refine q f K M L (by grind [iU]) t fun w I=>?_;have P:f.w=b.w:=by
    unfold Qo at j
    split at j
    .unfold KF at j
     split at j
     .cases j;rfl
     grind
    .cases j;rfl
   rw[P,H.w,am]at I;exact I.elim (hv w) (S w)
theorem IF:∀(n:Nat) (A:Int->Prop) (s:Bw) (v d:Int),BJ g A s v d->v∈g.V->(∀ w∈s.w,w∈g.V)->g.V.length<=n+s.w.length->∃ f C T N,qA g.E n v d s=some f/\Nt g s v d f C T N/\∀ c∈C,c∈g.V
 |0,A,s,v,d,h,hv,hs,hn=>by
  have l:(s.w++[v]).length<=g.V.length:=gu (by
   rw[bo]
   exact⟨h.nd,Y,fun a p b m=>by rintro rfl;rw[bi]at m;subst m;exact h.new p⟩) fun w k=>by
    grind
  grind
 |n+1,A,s,v,d,h,hv,hs,hn=>by
  obtain⟨f,D,T,N,e,l,j⟩:=NW hg n (IF n) h O (ci g.E v) [] (sG s v) [] [] [] rfl h.start fun w k=>by
   have k:w∈s.w++[v]:=k
   grind
  have o:=l.done hg h;exact⟨f,_,T,N,e,o,fun c q=>j c (by rw[o.w];grind)⟩
structure MI(g:Gr)(s:Bw):Prop where
 ln:s.low.length=s.w.length
 nd:s.w.Nodup
 sub:∀ w∈s.w,w∈g.V
 fin:∀ w∈s.w,∀ i∈ci g.E w,bh (an g.E i) w∈s.w
 stk:s.stk=[]
 pl:∀ i,i∈s.out.flatten↔i<g.E.length/\(an g.E i).a∈s.w
 pn:s.out.flatten.Nodup
 good:∀ B∈s.out,eH g.E B
theorem Gh(n:Nat)(A:g.V.length<=n):∀(l:PP) (s:Bw),(∀ v∈l,v∈g.V)->MI g s->∃ m,vG g.E n l s=some m/\MI g m/\(∀ v∈s.w,v∈m.w)/\∀ v∈l,v∈m.w
 |[],s,_,h=>⟨s,rfl,h,fun _ h=>h,fun v D=>by grind⟩
 |v::l,s,hl,h=>by
  by_cases D:v∈s.w
  .obtain⟨m,e,o,j,J⟩:=Gh n A l s (fun w f=>hl w (aq _ f)) h
   grind [vG]
  .have t:BJ g (fun _=>False) s v (-1):=⟨h.ln,h.nd,fun a p=>p.elim,fun w f _=>h.fin w f,D,fun a b p=>p.elim,.inl ⟨rfl,fun a p=>p⟩⟩;obtain⟨m,C,T,N,e,d,F⟩:=IF hg n _ s v (-1) t (hl v Y) h.sub O;have H:T=[]:=by
    cases T with
    |nil=>rfl
    |cons i T=>obtain⟨b,I,_⟩:=d.rel i Y;omega
   subst H;have K:∀ w∈m.w,∀ i∈ci g.E w,bh (an g.E i) w∈m.w:=fun w f i z=>by
    have x:=f;rw[d.w,am]at x;rcases x with k|k
    .rw[d.w];exact dg _ (h.fin w k i z)
    .exact d.clo w k i z
   have r:MI g m:={
    ln:=d.ln
    nd:=d.nd
    sub:=fun w f=>by rw[d.w,am]at f;exact f.elim (h.sub w) (F w)
    fin:=K
    stk:=by rw[d.stk,h.stk];rfl
    pl:=fun i=>by
     have q:=d.pl i;rw[List.nil_append]at q;rw[d.out,oq,am,h.pl i,q,d.w,am];constructor
     .rintro(⟨o,j⟩|⟨o,_,j⟩)
      .grind
      .refine⟨o,?_⟩;rcases j with j|j
       .grind
       .have:=d.clo _ j i (aU.2 ⟨o,.inr rfl⟩);rw[d.w,am]at this
        grind [bh]
     grind
    pn:=by
     have q:=d.pn;rw[List.nil_append]at q;rw[d.out,oq,bo];refine⟨h.pn,q,fun a p b I=>?_⟩;rintro rfl;have o:=(h.pl a).1 p;have j:=(d.pl a).1 (by grind);have Q:∀ c∈C,c∉s.w:=fun c P k=>by
      have:=d.nd;rw[d.w,bo]at this
      grind
     rcases j.2.2 with k|k
     .grind
     .have:=h.fin _ o.2 a (aU.2 ⟨o.1,.inl rfl⟩)
      grind [bh]
    good:=fun B y=>by
     rw[d.out,am]at y
     exact y.elim (h.good B) (d.good B) }
   obtain⟨L,M,o,j,J⟩:=Gh n A l m (fun w f=>hl w (aq _ f)) r;refine⟨L,by grind [vG],o,fun w f=>j w (by rw[d.w];grind),fun w f=>?_⟩;rcases ai.1 f with rfl|f
   .exact j _ (by rw[d.w];exact dE _ d.hd)
   grind
theorem uQ:∃ s,vG g.E g.V.length g.V ⟨[],[],[],[]⟩=some s/\s.stk=[]/\(∀ i,i∈s.out.flatten↔i<g.E.length)/\s.out.flatten.Nodup/\∀ B∈s.out,eH g.E B:=by obtain⟨s,e,h,_,a⟩:=Gh hg g.V.length (au _) g.V ⟨[],[],[],[]⟩ (fun _ h=>h) ⟨rfl,.nil,fun w c=>(by grind),fun w c=>(by grind),rfl,fun i=>by simp,Y,fun B d=>(by grind)⟩;refine⟨s,e,h.stk,fun i=>?_,h.pn,h.good⟩;rw[h.pl i];exact and_iff_left_of_imp fun b=>a _ (hg.ends _ (uY b)).1
end
end Aw
end Go.Proofs.YtbgngpdonpeboaaGreatDoor
