/- Ranging over a map: the rule. No program is named here. -/
import Derived.Test.YtbgngpdonpeboaaGreatDoorAwMr
set_option linter.defProp false
set_option linter.unusedVariables false
set_option linter.unusedSimpArgs false
namespace Go.Proofs.YtbgngpdonpeboaaGreatDoor
namespace Aw
open Go Go.RowKit
open Go.ChangeMaps (setBlock)
def Fg(ag:Bool)(a:List IntKind)(b:AN):LV:=if ag then .ag ((fb a b).map .atom)else .atom ((fb a b).headD undef)
theorem CH(w:World)(g:G):∀ a:List Value,aC w g (a.map .atom) a
 |[]=>by grind [aC]
 |v::a=>by simp only[ax,aC,Rep];exact⟨v,a,rfl,rfl,CH w g a⟩
def VQ(w:World)(g:G)(ag:Bool)(a:List IntKind)(b:AN):Rep w g (Fg ag a b) (cj ag a b):=by
 grind [Fg,cj,Rep,CH]
def lft(b:List (AN×LV))(a:List MapEntry)(seen:Array Nat):List (AN×LV):=((b.zip a).filter fun p=>!seen.contains p.2.born).map (·.1)
theorem vV{a:List (AN×LV)}{b:List MapEntry}(h:a.length=b.length):lft a b #[]=a:=by
 grind [lft,List.filter_eq_self,List.map_fst_zip]
theorem JD{b:List (AN×LV)}{a:List MapEntry}{seen:Array Nat}(h:∀ x∈a,seen.contains x.born=true):lft b a seen=[]:=by unfold lft;rw[ul.2,np];intro p c;rw[h p.2 (List.of_mem_zip c).2];simp
def SC{b:List (AN×LV)}:∀ {a:List MapEntry},b.length=a.length->(b.zip a).map (fun p=>p.2.born)=a.map (·.born):=by
 intro a h;have:(b.zip a).map (fun p=>p.2.born)=((b.zip a).map (·.2)).map (·.born):=by rw[dy];rfl
 grind [List.map_snd_zip]
def HF{es:List (AN×LV)}{a:List MapEntry}{seen:Array Nat}{e:MapEntry}(h:es.length=a.length)(v:(a.map (·.born)).Nodup)(r:e∈a)(C:seen.contains e.born=false):
 ∃ p f g,lft es a seen=f++p::g/\lft es a (seen.push e.born)=f++g/\(p,e)∈es.zip a:=by
 have w:=SC h;obtain⟨j,A,rfl⟩:=eh r;have t:j<es.length:=oO;have k:(es[j],a[j])∈es.zip a:=by refine sm.2 ⟨j,by grind,?_⟩;rw[tf]
 have x:(es[j],a[j])∈(es.zip a).filter fun p=>!seen.contains p.2.born:=cx.2 ⟨k,by grind⟩;obtain⟨l,m,n⟩:=ij x;have b:(((es.zip a).filter fun p=>!seen.contains p.2.born).map fun p=>p.2.born).Nodup:=by
  have c:((es.zip a).map fun p=>p.2.born).Nodup:=by rw[w];exact v
  exact c.sublist (List.Sublist.map _ jc)
 rw[n,cr,ax]at b;have D:∀ q∈l++m,q.2.born≠a[j].born:=by
  intro q d s;rw[bw]at b;obtain⟨_,y,z⟩:=b;rcases an.1 d with c|c
  .grind [List.mem_map_of_mem]
  .grind
 refine⟨es[j],l.map (·.1),m.map (·.1),by grind [lft],?_,k⟩;unfold lft;have o:((es.zip a).filter fun p=>!(seen.push a[j].born).contains p.2.born)=((es.zip a).filter fun p=>!seen.contains p.2.born).filter fun p=>decide (p.2.born≠a[j].born):=by
  rw[List.filter_filter];refine List.filter_congr fun p _=>?_;rw[contains_push];by_cases B:p.2.born=a[j].born
  .grind
  .grind
 rw[o,n,qn,List.filter_cons_of_neg sS];rw[sc.2 fun q d=>by grind,sc.2 fun q d=>by grind,cr]
structure MrS(x:Option Nat)(w0:World)(g0:G)(m b0 r:Nat)(ag:Bool)(ks:List IntKind)(es:List (AN×LV))(cW:List MapEntry)(clock:Nat)(w:World)(g:G)(st:St)(seen:Array Nat):Prop where
 ext:Ext w0 g0 w (g.at' b0 x)
 inv:Inv w g st
 frz:st.H m=.frz ag ks es
 lt:m<g.z
 β:g.β m=b0
 nl:g.nl m=false
 map:w.heap[b0]?=some (.map cW.toArray clock)
 it:∃ c,clock<=c/\w.heap[r]?=some (.mapIter (some b0) clock seen c)
 φb:g.φ b0=none
 φr:g.φ r=none
 vals:aC w g (es.map (·.2)) (cW.map (·.val))
 r0:w0.heap.size<=r
def MrS.step{x:Option Nat}{B:World}{g0:G}{m f r:Nat}{ag:Bool}{p:List IntKind}{j:List (AN×LV)}{s:List MapEntry}{clock:Nat}{w:World}{g:G}{Q:St}{seen:Array Nat}(h:MrS x B g0 m f r ag p j s clock w g Q seen){q:World}{l:G}{d:St}(a:Ext w g q l)(J:Inv q l d)(hf:d.H m=.frz ag p j):MrS x B g0 m f r ag p j s clock q l d seen:=by
 obtain⟨C,R,D,n,E,F,t,⟨c,I,v⟩,h9,h10,h11,h12⟩:=h;have K:=(fu.1 t).1;have L:=(fu.1 v).1;obtain⟨M,N⟩:=a.still f K h9;obtain⟨O,P⟩:=a.still r L h10;refine⟨C.trans ⟨a.os,a.tape,a.output,a.size,a.z,a.β,a.κ,a.nl,fun b o A=>?_,fun b k o y=>?_⟩,J,hf,cz n a.z,(a.β m n).trans E,(a.nl m n).trans F,N.trans t,⟨c,I,P.trans v⟩,M,O,aC.mono a _ _ h11,h12⟩
 .by_cases e:b=f
  .grind [G.at']
  .simp only[G.at',ac e]at A ⊢;exact a.still b o A
 .by_cases e:b=f
  .grind [G.at',World.cell?_of_block]
  .simp only[G.at',ac e]at y ⊢;exact a.part b k o y
def om(x:Option Nat)(m:Nat)(o:cK)(a:St):St:=match x with
 |some _=>a.set m o
 |none=>a
def xe(P:Program)(N:Nat)(Q:AQ)(k:List gQ)(J:af->St->Prop)(nx b m:Nat)(f:cK)(F:St->St):AQ:=fun e c a=>match e with
 |.normal=>J c a
 |.exit i=>if i=nx then J c a else if i=b then a.H m=f/\AK P N Q k .normal c (F a)else a.H m=f/\AK P N Q k (.exit i) c (F a)
 |e=>a.H m=f/\AK P N Q k e c (F a)
def MrS.out{x:Option Nat}(P:x=some 0\/x=none){I:World}{g0:G}{m c r:Nat}{ag:Bool}{j:List IntKind}{f:List (AN×LV)}{n:List MapEntry}{clock:Nat}{w:World}{g:G}{k:St}{seen:Array Nat}(h:MrS x I g0 m c r ag j f n clock w g k seen)
 (O:∀ p∈f,p.1.length=j.length) (J:n.map (·.key)=f.map fun p=>cj ag j p.1) (M:(∀ x∈n,x.born<clock)/\(n.map (·.born)).Nodup) {a:Act} {y:af} (F:dY w g a y):
 Inv w (g.at' c x) (om x m (.map ag j f) k)/\dY w (g.at' c x) a y/\Ext I g0 w (g.at' c x):=by
 rcases P with rfl|rfl
 .have C:=Ld h.map;have q:=FB (g:=g) (some 0) C;have K:∀ l,blk g k l->g.β l≠c:=fun l d e=>ML h.inv d (by rw[e];exact h.φb);have s:gL (k.H m)=true:=by rw[h.frz];rfl
  have B:=Ic h.inv m;have N:∀ l,gL ((k.set m .dead).H l)=true->g.β l≠c:=fun l d e=>by
   simp only[St.set]at d;by_cases t:l=m
   .simp_all
   .rw[ac t]at d;exact t (h.inv.aside.one l m d s (by rw[e,h.β]))
  have L:Inv w (g.at' c (some 0)) (k.set m .dead):=Bp B q (au _) rfl rfl rfl rfl (fun l d=>⟨rfl,by grind [G.at',fR]⟩)
   (B.aside.turn q rfl rfl rfl (fun l d=>⟨rfl,by grind [G.at']⟩) fun b o v D Q=>by
     have:b≠c:=by rintro rfl;rw[C o]at D;cases D
     grind [G.at'])
  have A:=Pq L (m:=m) (ag:=ag) (ks:=j) (es:=f) (by have:=h.lt;have:=h.inv.z;grind [St.set]) ?_ ?_
  .rw[set_set]at A;exact⟨A,F.monoR q,h.ext⟩
  .refine⟨h.nl,O,n,clock,?_,J,aC.monoR q _ _ h.vals,?_,M⟩
   .show w.heap[g.β m]?=_;rw[h.β];exact h.map
   .show(g.at' c (some 0)).φ (g.β m)=some 0;rw[h.β];simp[G.at']
  .intro l _ d;show g.β l≠g.β m;rw[h.β];exact K l (fR d).2
 .have E:=h.ext;rw[TQ h.φb]at E ⊢;exact⟨h.inv,F,E⟩
end Aw
end Go.Proofs.YtbgngpdonpeboaaGreatDoor
