/- Lemmas. -/
import Derived.Test.YtbgngpdonpeboaaGreatDoorAwMr
set_option linter.defProp false
namespace Go.Proofs.YtbgngpdonpeboaaGreatDoor
namespace Aw
open Go Go.RowKit
open Go.ChangeMaps (setBlock)
def GD(ag:Bool)(a:List IntKind)(b:PP):LV:=if ag then .ag ((fp a b).map .atom)else .atom ((fp a b).headD undef)
theorem Dk(w:World)(g:G):∀ a:List Value,aG w g (a.map .atom) a
 |[]=>by grind [aG]
 |v::a=>by simp only[ax,aG,Rep];exact⟨v,a,rfl,rfl,Dk w g a⟩
def Vv(w:World)(g:G)(ag:Bool)(a:List IntKind)(b:PP):Rep w g (GD ag a b) (cg ag a b):=by
 grind [GD,cg,Rep,Dk]
def lft(b:List (PP×LV))(a:List MapEntry)(seen:Array Nat):List (PP×LV):=((b.zip a).filter fun p=>!seen.contains p.2.born).map (·.1)
theorem AX{a:List (PP×LV)}{b:List MapEntry}(h:a.length=b.length):lft a b #[]=a:=by
 grind [lft,List.filter_eq_self,List.map_fst_zip]
variable{seen:Array Nat}{b:List (List Int×LV)}{a:List MapEntry}
theorem LC(h:∀ x∈a,seen.contains x.born=true):lft b a seen=[]:=by unfold lft;rw[wu.2,mB];intro p c;rw[h p.2 (List.of_mem_zip c).2];simp
def Te:∀ {a:List MapEntry},b.length=a.length->(b.zip a).map (fun p=>p.2.born)=a.map (·.born):=by
 intro a h;have:(b.zip a).map (fun p=>p.2.born)=((b.zip a).map (·.2)).map (·.born):=by rw[dC];rfl
 grind [List.map_snd_zip]
def Jq{es:List (PP×LV)}{e:MapEntry}(h:es.length=a.length)(v:(a.map (·.born)).Nodup)(r:e∈a)(C:seen.contains e.born=false):
 ∃ p g k,lft es a seen=g++p::k/\lft es a (seen.push e.born)=g++k/\(p,e)∈es.zip a:=by
 have w:=Te h;obtain⟨j,A,rfl⟩:=er r;have t:j<es.length:=O;have b:(es[j],a[j])∈es.zip a:=by refine xf.2 ⟨j,by grind,?_⟩;rw[vk]
 have x:(es[j],a[j])∈(es.zip a).filter fun p=>!seen.contains p.2.born:=cj.2 ⟨b,by grind⟩;obtain⟨l,m,n⟩:=fo x;have c:(((es.zip a).filter fun p=>!seen.contains p.2.born).map fun p=>p.2.born).Nodup:=by
  have d:((es.zip a).map fun p=>p.2.born).Nodup:=by rw[w];exact v
  exact d.sublist (List.Sublist.map _ eu)
 rw[n,cz,ax]at c;have D:∀ q∈l++m,q.2.born≠a[j].born:=by
  intro q f s;rw[bo]at c;obtain⟨_,y,z⟩:=c;rcases am.1 f with d|d
  .grind [List.mem_map_of_mem]
  .grind
 refine⟨es[j],l.map (·.1),m.map (·.1),by grind [lft],?_,b⟩;unfold lft;have o:((es.zip a).filter fun p=>!(seen.push a[j].born).contains p.2.born)=((es.zip a).filter fun p=>!seen.contains p.2.born).filter fun p=>decide (p.2.born≠a[j].born):=by
  rw[List.filter_filter];refine List.filter_congr fun p _=>?_;rw[contains_push];by_cases B:p.2.born=a[j].born
  .grind
  .grind
 rw[o,n,po,List.filter_cons_of_neg Y];rw[sh.2 fun q f=>by grind,sh.2 fun q f=>by grind,cz]
structure MrS(x:Option Nat)(w0:World)(g0:G)(m b0 r:Nat)(ag:Bool)(ks:List IntKind)(es:List (PP×LV))(dK:List MapEntry)(clock:Nat)(w:World)(g:G)(st:St)(seen:Array Nat):Prop where
 ext:Ext w0 g0 w (g.at' b0 x)
 inv:Inv w g st
 frz:st.H m=.frz ag ks es
 lt:m<g.z
 β:g.β m=b0
 nl:g.nl m=false
 map:w.heap[b0]?=some (.map dK.toArray clock)
 it:∃ c,clock<=c/\w.heap[r]?=some (.mapIter (some b0) clock seen c)
 φb:g.φ b0=none
 φr:g.φ r=none
 vals:aG w g (es.map (·.2)) (dK.map (·.val))
 r0:w0.heap.size<=r
def MrS.step{x:Option Nat}{B:World}{g0:G}{m f r:Nat}{ag:Bool}{p:List IntKind}{j:List (PP×LV)}{s:List MapEntry}{clock:Nat}{w:World}{g:G}{R:St}{seen:Array Nat}(h:MrS x B g0 m f r ag p j s clock w g R seen){q:World}{l:G}{d:St}(a:Ext w g q l)(J:Inv q l d)(hf:d.H m=.frz ag p j):MrS x B g0 m f r ag p j s clock q l d seen:=by
 obtain⟨C,S,D,n,E,F,t,⟨c,I,v⟩,h9,h10,h11,h12⟩:=h;have K:=(ig.1 t).1;have L:=(ig.1 v).1;obtain⟨M,N⟩:=a.still f K h9;obtain⟨P,Q⟩:=a.still r L h10;refine⟨C.trans ⟨a.os,a.tape,a.output,a.size,a.z,a.β,a.κ,a.nl,fun b o A=>?_,fun b k o y=>?_⟩,J,hf,dc n a.z,(a.β m n).trans E,(a.nl m n).trans F,N.trans t,⟨c,I,Q.trans v⟩,M,P,aG.mono a _ _ h11,h12⟩
 .by_cases e:b=f
  .grind [G.at']
  .simp only[G.at',aa e]at A ⊢;exact a.still b o A
 .by_cases e:b=f
  .grind [G.at',World.cell?_of_block]
  .simp only[G.at',aa e]at y ⊢;exact a.part b k o y
def qj(x:Option Nat)(m:Nat)(o:cT)(a:St):St:=match x with
 |some _=>a.set m o
 |none=>a
def ze(P:Program)(N:Nat)(Q:AQ)(k:List iM)(J:ah->St->Prop)(nx b m:Nat)(f:cT)(F:St->St):AQ:=fun e c a=>match e with
 |.normal=>J c a
 |.exit i=>if i=nx then J c a else if i=b then a.H m=f/\AK P N Q k .normal c (F a)else a.H m=f/\AK P N Q k (.exit i) c (F a)
 |e=>a.H m=f/\AK P N Q k e c (F a)
def MrS.out{x:Option Nat}(P:x=some 0\/x=none){J:World}{g0:G}{m c r:Nat}{ag:Bool}{j:List IntKind}{f:List (PP×LV)}{n:List MapEntry}{clock:Nat}{w:World}{g:G}{k:St}(h:MrS x J g0 m c r ag j f n clock w g k seen)
 (N:∀ p∈f,p.1.length=j.length) (q:n.map (·.key)=f.map fun p=>cg ag j p.1) (L:(∀ x∈n,x.born<clock)/\(n.map (·.born)).Nodup) {a:Act} {A:ah} (I:eY w g a A):
 Inv w (g.at' c x) (qj x m (.map ag j f) k)/\eY w (g.at' c x) a A/\Ext J g0 w (g.at' c x):=by
 rcases P with rfl|rfl
 .have D:=OI h.map;have s:=IG (g:=g) (some 0) D;have Tv:∀ l,blk g k l->g.β l≠c:=fun l d e=>OA h.inv d (by rw[e];exact h.φb);have t:iQ (k.H m)=true:=by rw[h.frz];rfl
  have C:=Jd h.inv m;have M:∀ l,iQ ((k.set m .dead).H l)=true->g.β l≠c:=fun l d e=>by
   simp only[St.set]at d;by_cases y:l=m
   .simp_all
   .rw[aa y]at d;exact y (h.inv.aside.one l m d t (by rw[e,h.β]))
  have K:Inv w (g.at' c (some 0)) (k.set m .dead):=Bp C s (au _) rfl rfl rfl rfl (fun l d=>⟨rfl,by grind [G.at',gO]⟩)
   (C.aside.turn s rfl rfl rfl (fun l d=>⟨rfl,by grind [G.at']⟩) fun b o v E Q=>by
     have:b≠c:=by rintro rfl;rw[D o]at E;cases E
     grind [G.at'])
  have B:=Th K (m:=m) (ag:=ag) (ks:=j) (es:=f) (by have:=h.lt;have:=h.inv.z;grind [St.set]) ?_ ?_
  .rw[set_set]at B;exact⟨B,I.monoR s,h.ext⟩
  .refine⟨h.nl,N,n,clock,?_,q,aG.monoR s _ _ h.vals,?_,L⟩
   .show w.heap[g.β m]?=_;rw[h.β];exact h.map
   .show(g.at' c (some 0)).φ (g.β m)=some 0;rw[h.β];simp[G.at']
  .intro l _ d;show g.β l≠g.β m;rw[h.β];exact Tv l (gO d).2
 .have F:=h.ext;rw[Wi h.φb]at F ⊢;exact⟨h.inv,I,F⟩
end Aw
end Go.Proofs.YtbgngpdonpeboaaGreatDoor
