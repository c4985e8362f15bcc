/- Plain: blocks hang together without any vertex, and have one vertex together at most; they are the document's. -/
import Derived.Test.YtbgngpdonpeboaaGreatDoorJh
import Derived.Shelf.SlSortCmp.WholeK
import Derived.Shelf.SlSortCmp.QuietGrown
import Derived.Test.YtbgngpdonpeboaaGreatDoorAwShp
import Derived.Shelf.SlSortCmp.Whole1
import Derived.Shelf.SlSortCmp.NoneTotal
set_option linter.unusedVariables false
set_option linter.unusedSimpArgs false
open Go.Proofs.Tryz
namespace Go.Proofs.YtbgngpdonpeboaaGreatDoor
namespace Aw
open Go Go.RowKit Pl Eu
def esB(es:List Ed)(B:List Nat):List Ed:=B.map (eAt es)
theorem Ns{es:List Ed}{w p z:Int}(hz:z≠p){y:Int}(h:RIn es (·≠w) p y):RIn es (fun t=>t≠w/\t≠z) p y\/∃ y',z∈nbr es y'/\RIn es (fun t=>t≠w/\t≠z) p y':=by
 induction h with
 |refl h=>exact .inl (.refl ⟨h,fun e=>hz e.symm⟩)
 |@step y u h hn hs ih=>
  rcases ih with ih|ih
  .by_cases e:u=z
   .grind
   .exact .inl (.step ih hn ⟨hs,e⟩)
  grind
theorem NS{es:List Ed}{w p q:Int}{S:Int->Prop}(hp:S p)(h:RIn es (·≠w) p q):S q\/∃ z z',S z/\z'∈nbr es z/\RIn es (fun t=>t≠w/\¬S t) z' q:=by
 induction h with
 |refl h=>grind
 |@step y u h hn hs ih=>
  by_cases hu:S u
  .grind
  by_cases hy:S y
  .exact .inr ⟨y,u,hy,hn,.refl ⟨hs,hu⟩⟩
  rcases ih with ih|⟨z,z',h1,h2,h3⟩
  .grind
  .exact .inr ⟨z,z',h1,h2,.step h3 hn ⟨hs,hu⟩⟩
theorem MH{es:List Ed}{B:List Nat}{y z:Int}(h:z∈nbr (esB es B) y):∃ i∈B,((eAt es i).a=y\/(eAt es i).b=y)/\oth (eAt es i) y=z:=by
 rw[cT]at h;obtain⟨x,hx,h⟩:=h;obtain⟨i,hi,rfl⟩:=aAi.1 hx
 grind [oth]
theorem LI{es:List Ed}{B:List Nat}{i:Nat}(hi:i∈B){y:Int}(h:(eAt es i).a=y\/(eAt es i).b=y):oth (eAt es i) y∈nbr (esB es B) y:=by
 rw[cT];refine⟨_,aAt hi,?_⟩
 grind [oth]
theorem RIn.up{es:List Ed}{B:List Nat}(hB:∀ i∈B,i<es.length){S:Int->Prop}{x y:Int}(h:RIn (esB es B) S x y):RIn es S x y:=by
 induction h with
 |refl h=>exact .refl h
 |step h hn hs ih=>
  refine .step ih ?_ hs
  grind [MH,lZ,aQ]
section
variable {g:Gr} (hg:GoodE g)
include hg
theorem dU.ring_in{B:List Nat}(h:dU g.es B){i j:Nat}(hi:i∈B)(hj:j<g.es.length){w:Int}(hr:Qj g.es w (eAt g.es i) (eAt g.es j)):RIn (esB g.es B) (·≠w) (oth (eAt g.es i) w) (oth (eAt g.es j) w):=by
 obtain⟨h1,h2,h3⟩:=hr;have hjB:j∈B:=h.all i hi j hj ⟨w,h1,h2,h3⟩;have hpw:oth (eAt g.es i) w≠w:=tG hg (aQ.2 ⟨h.lt i hi,h1⟩);have hqw:oth (eAt g.es j) w≠w:=tG hg (aQ.2 ⟨hj,h2⟩);rcases NS (S:=fun t=>RIn (esB g.es B) (·≠w) (oth (eAt g.es i) w) t) (.refl hpw) h3 with k|⟨z,z',k1,k2,k3⟩
 .exact k
 exfalso;have hzw:z≠w:=k1.here.2;obtain⟨l,hl,he⟩:=FA k2;have hll:=aQ.1 hl;have back:RIn g.es (·≠z) z' w:=by have a:=k3.mono (S':=(·≠z)) fun t ht e=>ht.2 (by grind);refine .step a (nI (lZ (aQ.2 ⟨hj,h2⟩))) fun e=>hzw e.symm
 have j5:l∈B:=by
  by_cases ez:z=oth (eAt g.es i) w
  .refine h.all i hi l hll.1 ⟨z,by grind [mF],hll.2,?_⟩;rw[he,ez,mD h1,<- ez];exact back.symm
  .rcases Ns ez k1 with k|⟨y',k4,k5⟩
   .exact absurd rfl k.here.2.2
   .obtain⟨o,ho,hoe,hoz⟩:=MH k4;refine h.all o ho l hll.1 ⟨z,by grind [mF],hll.2,?_⟩;rw[he,<- hoz,mD hoe,hoz];have a:RIn g.es (·≠z) (oth (eAt g.es i) w) y':=(k5.mono (S':=(·≠z)) fun t ht=>ht.2).up h.lt;have b:RIn g.es (·≠z) w (oth (eAt g.es i) w):=.step (.refl fun e=>hzw e.symm) (lZ (aQ.2 ⟨h.lt i hi,h1⟩)) fun e=>ez e.symm;exact((back.trans b).trans a).symm
 have:RIn (esB g.es B) (·≠w) (oth (eAt g.es i) w) z':=.step k1 (by grind [LI]) k3.here.1.1;exact k3.here.1.2 this
theorem dU.con{B:List Nat}(h:dU g.es B)(v:Int){i j:Nat}(hi:i∈B)(hr:mT g.es i j):∀ p q,((eAt g.es i).a=p\/(eAt g.es i).b=p)->((eAt g.es j).a=q\/(eAt g.es j).b=q)->p≠v->q≠v->RIn (esB g.es B) (·≠v) p q:=by
 have one:∀ k∈B,∀ p q,((eAt g.es k).a=p\/(eAt g.es k).b=p)->((eAt g.es k).a=q\/(eAt g.es k).b=q)->p≠v->q≠v->RIn (esB g.es B) (·≠v) p q:=fun k hk p q h1 h2 hp hq=>by
  rcases(fQ h1 q).1 h2 with e|e
  .rw[e];exact .refl hp
  .exact .step (.refl hp) (by grind [LI]) hq
 induction hr with
 |refl=>grind
 |@step j k hr hjl hk hre ih=>
  intro p q hp hq hpv hqv;have hj:j∈B:=(h.iff hi).2 hr;have hkB:k∈B:=h.all j hj k hk hre;obtain⟨w,w1,w2,w3⟩:=hre;by_cases e:v=w
  .subst e;have h1:=ih p (oth (eAt g.es j) v) hp (mF _ _) hpv (tG hg (aQ.2 ⟨hjl,w1⟩));have h2:=h.ring_in hg hj hk ⟨w1,w2,w3⟩;rcases(fQ w2 q).1 hq with e|e
   .omega
   .rw[e];exact h1.trans h2
  .exact(ih p w hp w1 hpv fun x=>e x.symm).trans (one k hkB w q w2 hq (fun x=>e x.symm) hqv)
omit hg in
theorem dU.eq{B B':List Nat}(h:dU g.es B)(h':dU g.es B'){j:Nat}(hj:j∈B)(hj':j∈B'):B=B':=by
 have hn:B.Nodup:=h.rise.imp fun k=>aCb k;have I1:B'.Nodup:=h'.rise.imp fun k=>aCb k;have hp:B.Perm B':=(aAZ hn I1).2 fun k=>by rw[h.iff hj,h'.iff hj']
 exact hp.eq_of_pairwise (fun a b _ _ h1 h2=>absurd h1 oO) h.rise h'.rise
end
noncomputable def iJ(es:List Ed)(i:Nat):List Nat:=(List.range es.length).filter fun j=>@decide (mT es i j) (Classical.propDecidable _)
theorem Ga{es:List Ed}{i j:Nat}:j∈iJ es i↔j<es.length/\mT es i j:=by
 grind [iJ]
theorem DP(es:List Ed)(i:Nat):(iJ es i).Pairwise (· < ·):=aCD _ aBP
noncomputable def fP(es:List Ed):List (List Nat):=((List.range es.length).filter fun i=>decide ((iJ es i).headD 0=i)).map (iJ es)
theorem head_mem{l:List Nat}(h:l≠[]):l.headD 0∈l:=by
 cases l with
 |nil=>grind
 |cons a l=>simp
theorem dU.cls{es:List Ed}{B:List Nat}(h:dU es B){i:Nat}(hi:i∈B):B=iJ es i:=by
 have hn:B.Nodup:=h.rise.imp fun k=>aCb k;have I1:(iJ es i).Nodup:=(DP es i).imp fun k=>aCb k;have hp:B.Perm (iJ es i):=(aAZ hn I1).2 fun k=>by rw[Ga,<- h.iff hi];exact⟨fun q=>⟨h.lt k q,q⟩,fun q=>q.2⟩
 exact hp.eq_of_pairwise (fun a b _ _ h1 h2=>absurd h1 oO) h.rise (DP es i)
theorem Aa{es:List Ed}{out B:List (List Nat)}(hall:∀ i,i∈out.flatten↔i<es.length)(Q1:∀ B∈out,dU es B)(hp:B.Perm out)(hr:B.Pairwise fun x y=>x.headD 0<y.headD 0):B=fP es:=by
 have J8:∀ b,b∈B↔b∈fP es:=fun b=>by
  unfold fP;rw[hp.mem_iff,aAi];constructor
  .intro hb;have ho:=Q1 b hb;have hh:=head_mem ho.ne;have hc:=ho.cls hh;refine⟨b.headD 0,?_,hc.symm⟩;rw[aAy,aBl,aAR,<- hc];exact⟨ho.lt _ hh,rfl⟩
  .rintro⟨i,hi,rfl⟩;rw[aAy,aBl,aAR]at hi;obtain⟨b,hb,hib⟩:=aAQ.1 ((hall i).2 hi.1);rw[<- (Q1 b hb).cls hib];omega
 have hl:(fP es).Pairwise fun x y=>x.headD 0<y.headD 0:=by unfold fP;rw[aAV];refine(aCD (fun i=>decide ((iJ es i).headD 0=i)) (aBP (n:=es.length))).imp_of_mem ?_;intro a b ha hb v8;rw[aAy,aAR]at ha hb;rw[ha.2,hb.2];exact v8
 have hpp:B.Perm (fP es):=(aAZ (hr.imp fun k e=>by grind) (hl.imp fun k e=>by grind)).2 J8;exact hpp.eq_of_pairwise (fun a b _ _ h1 h2=>absurd h1 oO) hr hl
end Aw
namespace Aw
open Go Go.RowKit Pl Go.Sort
def nE(x y:Int):Int:=if x<y then -1 else if y<x then 1 else 0
theorem Ij(x y:Int):nE x y<0↔x<y:=by grind [nE]
theorem Rm{α β:Type}{k:Nat}(f:α->List β):∀(l:List α) (t:Nat),(∀ x∈l,(f x).length=k)->t<l.length*k->∃ x,l[t / k]?=some x/\(l.flatMap f)[t]?=(f x)[t % k]?
 |[],t,_,h=>by simp at h
 |a::l,t,hk,h=>by
  have h1:=hk a aAf;rw[aAF];by_cases ht:t<k
  .exact⟨a,by rw[aDz ht];rfl,by rw[aAJ ht,aBf oO]⟩
  .have k0:0<k:=by
    rcases aCK k with h0|h0
    .subst h0;simp at h
    .exact h0
   rw[List.length_cons,aDU]at h;obtain⟨x,h2,h3⟩:=Rm f l (t-k) (fun x hx=>hk x (aAc _ hx)) oO;refine⟨x,?_,?_⟩
   .rw[Nat.div_eq_sub_div k0 oO,List.getElem?_cons_succ,h2]
   .rw[aBu oO,h1,h3,<- Nat.mod_eq_sub_mod oO]
theorem Fq{α β:Type}{k:Nat}(f:α->List β):∀(l:List α),(∀ x∈l,(f x).length=k)->(l.flatMap f).length=l.length*k
 |[],_=>by simp
 |a::l,h=>by have h1:=h a aAf;have h2:=Fq f l fun x hx=>h x (aAc _ hx);rw[aAF,aAn,h1,h2,List.length_cons,aDU,Nat.add_comm]
theorem wZ{α:Type}[Inhabited α]{k:Nat}(enc:α->List Value)(hk:∀ x,(enc x).length=k)(d:Array α):(flatK enc k d).toList=d.toList.flatMap enc:=by
 have hl:=Fq enc d.toList fun x _=>hk x;refine aCo fun t=>?_;by_cases ht:t<d.size*k
 .obtain⟨x,h1,h2⟩:=Rm enc d.toList t (fun x _=>hk x) (by simpa using ht);have k0:0<k:=by
   rcases aCK k with h0|h0
   .subst h0;simp at ht
   .exact h0
  have h3:=get_flatK enc k d t ht;rw[h2];have h4:(d[t / k]!)=x:=by rw[aBW]at h1;rw[getElem!_def,h1]
  rw[h4,aCz _ t (by simpa using ht),aCz _ _ (by rw[hk];exact aCw _ k0)]at h3;rw[aBW,aDg (by simpa using ht),h3,aAh]
 .rw[aBV (by simp;omega),aBV (by rw[hl];simpa using ht)]
theorem Gb{α:Type}[Inhabited α](enc:α->Value)(d:Array α):flatK (fun x=>[enc x]) 1 d=d.map enc:=by refine Array.toList_inj.1 ?_;rw[wZ (k:=1) _ (fun _=>rfl),Array.toList_map];induction d.toList<;>simp_all
theorem VV{α:Type}[Inhabited α](enc:α->Value)(b:Nat)(d:Array α)(w:World):putRow enc w b 0 d=putRowK (fun x=>[enc x]) 1 w b 0 d:=by
 unfold putRowK;rw[Gb];unfold putRow
 congr 1
 funext c
 unfold putCells;refine Array.ext sS fun i h1 h2=>?_;simp only[Array.getElem_mapIdx,Array.size_map]
 split
 .rename_i h;have h3:i-0<d.size:=oO;rw[aCz d (i-0) h3,aCz (d.map enc) (i-0) (by simpa using h3)];simp
 .rfl
theorem Nl{α:Type}[Inhabited α]{enc:α->Value}{w:World}{b:Nat}{d:Array α}(h:HoldsK (fun x=>[enc x]) 1 w b 0 d):Holds enc w b 0 d:=fun j hj=>by have h1:=h j (by simpa using hj);rw[Gb,aCz (d.map enc) j (by simpa using hj)]at h1;rw[aCz d j hj];simpa using h1
theorem Uo{w:World}{g:G}{st:St}(h:Inv w g st){q e s:Nat}{cs cs':List LV}(hl:st.H q=.box e s cs)(r8:g.nl q=false){F:Array Value}(hF:F.size=cs.length)(hc:cs'.length=cs.length)(hr:aC w g cs' F.toList)(m:Nat)(os:Array Obj):
 Inv (grow (putRow id (Sort.ahead w m) (g.β q) 0 F) os) g (st.set q (.box e s cs'))/\Ext w g (grow (putRow id (Sort.ahead w m) (g.β q) 0 F) os) g:=by
 obtain⟨_,_,k'⟩:=h.box q e s cs hl;obtain⟨j8,k1,k2,k4,k5,k6⟩:=k' r8
 obtain⟨i1,i2⟩:=pL (cs':=cs') (vs':=(putCells id 0 F j8.toArray).toList) h hl r8 (by simp[putCells,k2]) (by simp[putCells];omega) (by
  have:(putCells id 0 F j8.toArray).toList.take cs'.length=F.toList:=by
   refine aCo fun t=>?_;rw[aBM];by_cases ht:t<cs'.length
   .have h1:t<j8.length:=oO;have h2:t<F.size:=oO;simp[putCells,ht,h1,h2]
   .rw[aAa ht,aBV (by simp;omega)]
  rw[this];exact hr)
 have hB:Below (w.setRow (g.β q) (putCells id 0 F j8.toArray).toList.toArray).heap.size (w.setRow (g.β q) (putCells id 0 F j8.toArray).toList.toArray) (grow (putRow id (Sort.ahead w m) (g.β q) 0 F) os):=by
  refine⟨rfl,rfl,rfl,by simp[Sort.ahead],fun b hb=>?_⟩;have T7:b<w.heap.size:=by simpa using hb
  have e1:(grow (putRow id (Sort.ahead w m) (g.β q) 0 F) os).heap[b]?=(putRow id (Sort.ahead w m) (g.β q) 0 F).heap[b]?:=by show((putRow id (Sort.ahead w m) (g.β q) 0 F).heap++os)[b]?=_;rw[aDP (by simpa[Sort.ahead]using T7)]
  rw[e1];by_cases hbq:b=g.β q
  .subst hbq;rw[setRow_heap _ _ _ _ _ _ k1];show((w.heap.modify (g.β q) (onCells (putCells id 0 F)))[g.β q]?)=_;rw[aEn,aAj rfl,k1];simp[onCells]
  .rw[setRow_other _ _ _ _ hbq];show((w.heap.modify (g.β q) (onCells (putCells id 0 F)))[b]?)=_;rw[aEn,aAa (fun h=>hbq h.symm)]
 exact⟨wW i1 hB,i2.trans (rX g hB)⟩
abbrev El(w:World)(g:G)(ec:Int->List LV)(Dm:Int->Prop):Type:={ p:Int×List Value // Dm p.1/\aC w g (ec p.1) p.2 }
theorem SX{w:World}{g:G}{ec:Int->List LV}{Dm:Int->Prop}:∀(l:List Int) (vs:List Value),(∀ x∈l,Dm x)->aC w g (l.flatMap ec) vs->∃ ps:List (El w g ec Dm),ps.map (·.1.1)=l/\ps.flatMap (·.1.2)=vs
 |[],vs,_,h=>⟨[],rfl,by simp only[aDc,aC]at h;simp[h]⟩
 |x::l,vs,hD,h=>by rw[aAF]at h;have h1:=dM (ec x).length _ _ h;have h2:=gK (ec x).length _ _ h;rw[aDm]at h1;rw[aCX]at h2;obtain⟨ps,e1,e2⟩:=SX l _ (fun y hy=>hD y (aAc _ hy)) h2;refine⟨⟨(x,vs.take (ec x).length),hD x aAf,h1⟩::ps,by rw[aAl,e1],?_⟩;rw[aAF,e2];exact aAE _ _
theorem MD{w:World}{g:G}{ec:Int->List LV}{Dm:Int->Prop}:∀ ps:List (El w g ec Dm),aC w g ((ps.map (·.1.1)).flatMap ec) (ps.flatMap (·.1.2))
 |[]=>by simp[aC]
 |p::ps=>by rw[aAl,aAF,aAF];exact bW _ _ _ _ p.2.2 (MD ps)
theorem Kb{α:Type}(f:α->Int):SWO (ltOf fun x y=>nE (f x) (f y)):=by refine⟨fun x=>?_,fun x y z=>?_,fun x y z=>?_⟩<;>simp only[ltOf,aBx,aCf,Ij]<;>omega
theorem xX{P:Program}{f v7:FuncId}{e k:Nat}(hf:Enters P f){ec:Int->List LV}(hk:∀ x,(ec x).length=k)(k0:0<k){Dm:Int->Prop}
 (hN:∀(p:Option Addr) (cap:Nat) (w:World),Calls P f #[.slice p 0 cap,.func (.func v7) #[] #[]] w fun e w'=>e=.returned (.tuple #[])/\w'=w)
 (hS:∀(w:World) (g:G) (b cap:Nat) [Inhabited (El w g ec Dm)] (d:Array (El w g ec Dm)),iD w g->g.φ b=some 0->b<w.heap.size->d.size<65536->HoldsK (fun x:El w g ec Dm=>x.1.2) k w b 0 d->
   Calls P f #[.slice (some ⟨b,0,none⟩) d.size cap,.func (.func v7) #[] #[]] w fun e w'=>e=.returned (.tuple #[])/\∃ d' n os,PermIn 0 d.size d d'/\SortedIn (ltOf fun x y=>nE x.1.1 y.1.1) 0 d.size d'/\w'=sortWorldK (fun x:El w g ec Dm=>x.1.2) k w b 0 n d' os)
 (l:List Int) (hD:∀ x∈l,Dm x) (q:Nat) (st:St) (hl:l.length<65536) (hq:q<st.next) (hH:st.H q=.box e k (l.flatMap ec)):
 aB P f [.ms q 0 l.length,.fn (.func v7) []] st fun r st'=>∃ c:List Int,st'.H q=.box e k (c.flatMap ec)/\c.Perm l/\c.Pairwise (·<=·)/\bM q st st':=by
 refine⟨hf,fun w g vs hi hr=>?_⟩;simp only[aC]at hr;obtain⟨v1,_,rfl,h1,v2,_,rfl,h2,rfl⟩:=hr;simp only[Rep]at h1 h2;obtain⟨A,cap,rfl,h3,h4,h5,h6,h7⟩:=h1;obtain⟨ws,rfl,h8⟩:=h2;simp only[aC]at h8;subst h8;by_cases hn:l.length=0
 .have hl0:l=[]:=aCp.1 hn;subst hl0;refine(hN A cap w).mono ?_;rintro e w' ⟨rfl,rfl⟩;exact⟨_,.tu [],st,g,rfl,⟨[],hH,aDn _,List.Pairwise.nil,bM.refl q st⟩,by simp[Rep,aC],hi,Ext.refl w' g⟩
 have hA:=h6 hn;subst hA;obtain⟨b1,b2,b3⟩:=hi.box q e k _ hH;have L5:=Fq ec l fun x _=>hk x;have r8:g.nl q=false:=by refine Bool.eq_false_iff.2 fun h=>?_;have:=(b2 h).2;rw[this]at L5;have:0<l.length*k:=aDs oO k0;simp at L5;omega
 obtain⟨j8,c1,c2,c3,c4,c5⟩:=b3 r8;obtain⟨ps,p1,p2⟩:=SX l _ hD c4;have S6:ps.length=l.length:=by rw[<- p1,aAB]
 haveI:Inhabited (El w g ec Dm):=⟨ps[0]'(by omega)⟩
 have hlen:∀ x:El w g ec Dm,x.1.2.length=k:=fun x=>by rw[<- aK _ _ x.2.2,hk]
 have U4:=wZ (fun x:El w g ec Dm=>x.1.2) hlen ps.toArray;have hHo:HoldsK (fun x:El w g ec Dm=>x.1.2) k w (g.β q) 0 ps.toArray:=by
  intro j hj;have hj2:j<l.length*k:=by simpa[S6]using hj
  have h9:(flatK (fun x:El w g ec Dm=>x.1.2) k ps.toArray)[j]?=j8[j]?:=by rw[<- aBW,U4];show(ps.flatMap fun x=>x.1.2)[j]?=_;rw[p2,aBM,aAj (by rw[L5];exact hj2)]
  rw[aCz _ j hj];rw[aDg hj]at h9;rw[aBy];constructor
  .rw[cell_of_row _ _ _ _ _ _ c1,aBX,<- h9];rfl
  .unfold World.frozen?;rw[c1];simp
 have hb:=(aAH.1 c1).1;have hC:=hS w g (g.β q) cap ps.toArray hi.aside.glob c5 hb (sF2 S6 hl) hHo;rw[aBc,S6]at hC;refine hC.mono ?_;rintro e' w' ⟨rfl,d',n,os,hp,hs,rfl⟩;have W8:d'.size=l.length:=by rw[hp.1,aBc,S6]
 have N4:d'.toList.Perm ps:=by have h:=hp.2.2;rw[aDN oO,aDN (sF1 S6)]at h;exact h
 have hfl2:=wZ (fun x:El w g ec Dm=>x.1.2) hlen d';have hcs2:=Fq ec (d'.toList.map (·.1.1)) fun x _=>hk x;have hlm:(d'.toList.map (·.1.1)).length=l.length:=by simp[W8]
 obtain⟨i1,i2⟩:=Uo hi hH r8 (F:=flatK (fun x:El w g ec Dm=>x.1.2) k d') (cs':=(d'.toList.map (·.1.1)).flatMap ec) (by rw[size_flatK,W8,L5]) (by rw[hcs2,hlm,L5]) (by rw[hfl2];exact MD _) n os;refine⟨_,.tu [],_,g,rfl,⟨d'.toList.map (·.1.1),by simp[St.set],?_,?_,(bM.refl q st).set _⟩,by simp[Rep,aC],i1,i2⟩
 .have:=N4.map (·.1.1)
  rwa [p1]at this
 .rw[aAV,aAz];intro i j I4 hj' hij;have:=hs i j (aBD _) hij (by simp at hj';omega);rw[ltOf,aCf,Ij,aCz _ j (by simpa using hj'),aCz _ i (by simpa using I4)]at this;simp only[Array.getElem_toList];omega
end Aw
namespace Aw
open Go Go.RowKit Pl Go.Sort Go.Shelf Go.Lib
theorem ML(x:Int)(W:World):Calls prog 118 #[.int .u32 x] W fun e w'=>e=.returned (.bool false)/\w'=W:=by
 go_enter func118,ntmps118
 go_wp2
 go_ret
 simp
set_option maxRecDepth 100000 in
theorem De(x y:Int)(W:World):Calls prog 77 #[.int .u32 x,.int .u32 y] W fun e w'=>e=.returned (.int .i64 (nE x y))/\w'=W:=by
 have h1:=fun W=>ML x W;have h2:=fun W=>ML y W
 go_enter func77,ntmps77
 go_wp2_with (go_at_call 118;first|(refine(h1 _).mono ?_;rintro e w' ⟨rfl,rfl⟩)|(refine(h2 _).mono ?_;rintro e w' ⟨rfl,rfl⟩))
 all_goals go_ret
 all_goals clear h1 h2
 all_goals exact⟨congrArg (fun z=>Ending.returned (.int .i64 z)) (by unfold nE;grind),rfl⟩
theorem Yl(a b:Ed)(W:World):Calls prog 170 #[.agg #[.int .u32 a.id,.int .u32 a.a,.int .u32 a.b],.agg #[.int .u32 b.id,.int .u32 b.a,.int .u32 b.b]] W fun e w'=>e=.returned (.int .i64 (nE a.id b.id))/\∃ q os',w'=grow (W.drewN q) os':=by
 have T9:=fun W'=>De a.id b.id W';generalize nE a.id b.id=r at T9 ⊢
 go_enter func170,ntmps170
 go_wp2_with (go_at_call 77;refine(T9 _).mono ?_;rintro e w' ⟨rfl,rfl⟩)
 go_ret
 exact⟨rfl,0,_,by rw[alloc_eq_grow,alloc_eq_grow,grow_grow];rfl⟩
theorem Ps{W:World}{b1 o1 n1 c1 b2 o2 n2 c2:Nat}{x y:Int}(h1:W.cell? ⟨b1,o1,none⟩=some (.int .u32 x))(h2:W.cell? ⟨b2,o2,none⟩=some (.int .u32 y))(k1:0<n1)(k2:0<n2):
 Calls prog 99 #[.slice (some ⟨b1,o1,none⟩) n1 c1,.slice (some ⟨b2,o2,none⟩) n2 c2] W fun e w'=>e=.returned (.int .i64 (nE x y))/\∃ q os',w'=grow (W.drewN q) os':=by
 have T9:=fun W'=>De x y W';generalize nE x y=r at T9 ⊢;have mixed:prog.follows .mixedOrders=true:=by kernel_rfl
 go_enter func99,ntmps99
 go_wp2
 go_quiet ((go_at_call 77;refine(T9 _).mono ?_;rintro e w' ⟨rfl,rfl⟩;exact⟨rfl,_,rfl⟩))
 go_wp2
 go_ret
 exact⟨rfl,_,#[],by rw[grow_empty]⟩
theorem brs{P:Program}{f:FuncId}{F B:Func}(h:P.funcs[f]?=some F)(hn:(F.name== "runtime.NumGoroutine")=false:=by decide)(e:F={ B with name:=F.name }:=by kernel_rfl):Bears P f B:=⟨F.name,hn,h.trans (congrArg some e)⟩
theorem frs{P:Program}{f:FuncId}{F B:Func}(h:P.funcs[f]?=some F)(e:F=B:=by kernel_rfl):P.funcs[f]?=some B:=h.trans (congrArg some e)
def MU:Ren:=⟨fun|6=>169|15=>85|14=>199|28=>129|29=>130|20=>161|21=>211|22=>212|23=>213|24=>214|25=>215|26=>216|27=>217|46=>221|47=>164|48=>165|49=>222|50=>223|57=>224|n=>n,fun|22=>23|24=>36|25=>104|3=>3|39=>109|0=>0|53=>34|55=>133|4=>4|46=>155|45=>154|50=>121|5=>5|9=>9|66=>184|70=>188|76=>203|77=>204|n=>n,fun|n=>n⟩
theorem Ow:SlLaysF0.n6 prog MU:=
 {mixed:=by kernel_rfl,
  f6:=brs func169,
  f14:=brs func199,
  f15:=frs func85,
  f20:=brs func161,
  f21:=brs func211,
  f22:=brs func212,
  f23:=brs func213,
  f24:=brs func214,
  f25:=brs func215,
  f26:=brs func216,
  f27:=brs func217,
  f28:=frs func129,
  f29:=frs func130,
  f46:=brs func221,
  f47:=frs func164,
  f48:=frs func165,
  f49:=brs func222,
  f50:=brs func223,
  f57:=brs func224,
  t0:=underlying0,
  a0:=isAgg0,
  z0:=Tryz.sizeOf0,
  v0:=Tryz.zeroValue0,
  t3:=underlying3,
  a3:=isAgg3,
  z3:=Tryz.sizeOf3,
  v3:=Tryz.zeroValue3,
  t4:=underlying4,
  a4:=isAgg4,
  z4:=Tryz.sizeOf4,
  v4:=Tryz.zeroValue4,
  t5:=underlying5,
  a5:=isAgg5,
  z5:=Tryz.sizeOf5,
  v5:=Tryz.zeroValue5,
  t9:=underlying9,
  a9:=isAgg9,
  z9:=Tryz.sizeOf9,
  v9:=Tryz.zeroValue9,
  t22:=underlying23,
  a22:=isAgg23,
  z22:=Tryz.sizeOf23,
  v22:=Tryz.zeroValue23,
  t25:=underlying104,
  a25:=isAgg104,
  z25:=Tryz.sizeOf104,
  v25:=Tryz.zeroValue104,
  t39:=underlying109,
  a39:=isAgg109,
  z39:=Tryz.sizeOf109,
  v39:=Tryz.zeroValue109,
  t45:=underlying154,
  a45:=isAgg154,
  z45:=Tryz.sizeOf154,
  v45:=Tryz.zeroValue154,
  t46:=underlying155,
  a46:=isAgg155,
  z46:=Tryz.sizeOf155,
  v46:=Tryz.zeroValue155,
  t50:=underlying121,
  a50:=isAgg121,
  z50:=Tryz.sizeOf121,
  v50:=Tryz.zeroValue121,
  t53:=underlying34,
  a53:=isAgg34,
  z53:=Tryz.sizeOf34,
  v53:=Tryz.zeroValue34,
  t55:=underlying133,
  a55:=isAgg133,
  z55:=Tryz.sizeOf133,
  v55:=Tryz.zeroValue133,
  t66:=underlying184,
  a66:=isAgg184,
  z66:=Tryz.sizeOf184,
  v66:=Tryz.zeroValue184,
  t70:=underlying188,
  a70:=isAgg188,
  z70:=Tryz.sizeOf188,
  v70:=Tryz.zeroValue188,
  t76:=underlying203,
  a76:=isAgg203,
  z76:=Tryz.sizeOf203,
  v76:=Tryz.zeroValue203,
  t77:=underlying204,
  a77:=isAgg204,
  z77:=Tryz.sizeOf204,
  v77:=Tryz.zeroValue204 }
def Du:Ren:=⟨fun|6=>98|15=>85|14=>136|28=>129|29=>130|20=>171|21=>172|22=>173|23=>174|24=>175|25=>176|26=>177|27=>178|46=>200|47=>164|48=>165|49=>201|50=>202|57=>218|n=>n,fun|22=>83|24=>23|25=>129|3=>3|39=>109|0=>0|53=>34|55=>133|4=>4|46=>155|45=>154|50=>121|5=>5|9=>9|66=>184|70=>188|76=>203|77=>204|n=>n,fun|n=>n⟩
theorem PS:SlLaysF.n6 prog Du:=
 {mixed:=by kernel_rfl,
  f6:=brs func98,
  f14:=brs func136,
  f15:=frs func85,
  f20:=brs func171,
  f21:=brs func172,
  f22:=brs func173,
  f23:=brs func174,
  f24:=brs func175,
  f25:=brs func176,
  f26:=brs func177,
  f27:=brs func178,
  f28:=frs func129,
  f29:=frs func130,
  f46:=brs func200,
  f47:=frs func164,
  f48:=frs func165,
  f49:=brs func201,
  f50:=brs func202,
  f57:=brs func218,
  t0:=underlying0,
  a0:=isAgg0,
  z0:=Tryz.sizeOf0,
  v0:=Tryz.zeroValue0,
  t3:=underlying3,
  a3:=isAgg3,
  z3:=Tryz.sizeOf3,
  v3:=Tryz.zeroValue3,
  t4:=underlying4,
  a4:=isAgg4,
  z4:=Tryz.sizeOf4,
  v4:=Tryz.zeroValue4,
  t5:=underlying5,
  a5:=isAgg5,
  z5:=Tryz.sizeOf5,
  v5:=Tryz.zeroValue5,
  t9:=underlying9,
  a9:=isAgg9,
  z9:=Tryz.sizeOf9,
  v9:=Tryz.zeroValue9,
  t22:=underlying83,
  a22:=isAgg83,
  z22:=Tryz.sizeOf83,
  v22:=Tryz.zeroValue83,
  a24:=isAgg23,
  z24:=Tryz.sizeOf23,
  t25:=underlying129,
  a25:=isAgg129,
  z25:=Tryz.sizeOf129,
  v25:=Tryz.zeroValue129,
  t39:=underlying109,
  a39:=isAgg109,
  z39:=Tryz.sizeOf109,
  v39:=Tryz.zeroValue109,
  t45:=underlying154,
  a45:=isAgg154,
  z45:=Tryz.sizeOf154,
  v45:=Tryz.zeroValue154,
  t46:=underlying155,
  a46:=isAgg155,
  z46:=Tryz.sizeOf155,
  v46:=Tryz.zeroValue155,
  t50:=underlying121,
  a50:=isAgg121,
  z50:=Tryz.sizeOf121,
  v50:=Tryz.zeroValue121,
  t53:=underlying34,
  a53:=isAgg34,
  z53:=Tryz.sizeOf34,
  v53:=Tryz.zeroValue34,
  t55:=underlying133,
  a55:=isAgg133,
  z55:=Tryz.sizeOf133,
  v55:=Tryz.zeroValue133,
  t66:=underlying184,
  a66:=isAgg184,
  z66:=Tryz.sizeOf184,
  v66:=Tryz.zeroValue184,
  t70:=underlying188,
  a70:=isAgg188,
  z70:=Tryz.sizeOf188,
  v70:=Tryz.zeroValue188,
  t76:=underlying203,
  a76:=isAgg203,
  z76:=Tryz.sizeOf203,
  v76:=Tryz.zeroValue203,
  t77:=underlying204,
  a77:=isAgg204,
  z77:=Tryz.sizeOf204,
  v77:=Tryz.zeroValue204 }
theorem Yw(eg:Int->Ed)(Dm:Int->Prop)(ho:∀ x y,Dm x->Dm y->((eg x).id<(eg y).id↔x<y))(l:List Int)(hD:∀ x∈l,Dm x)(q:Nat)(st:St)(hl:l.length<65536)(hq:q<st.next)(hH:st.H q=.box 36 3 (eds (l.map eg))):
 aB prog 169 [.ms q 0 l.length,.fn (.func 170) []] st fun r st'=>∃ c:List Int,st'.H q=.box 36 3 (eds (c.map eg))/\c.Perm l/\c.Pairwise (·<=·)/\bM q st st':=by
 have e:∀ c:List Int,eds (c.map eg)=c.flatMap fun x=>edL (eg x):=fun c=>by rw[<- List.flatMap_map]
 simp only[e]at hH ⊢;have hE:Enters prog 169:=Ow.f6.enters rfl;have hN:=fun p cap v w=>AnyF.slices_SortFunc_none Ow p cap v w;change ∀ p cap v w,Calls prog 169 _ _ _ at hN;refine xX (k:=3) hE (fun _=>rfl) oO (fun p cap w=>hN p cap _ w) (fun w g b cap _ d _ _ hb hd hHo=>?_) l hD q st hl hq hH;have hv:∀ x:El w g (fun x=>edL (eg x)) Dm,x.1.2=[.int .u32 (eg x.1.1).id,.int .u32 (eg x.1.1).a,.int .u32 (eg x.1.1).b]:=fun x=>by have:=x.2.2;simpa[edL,aC,Rep]using this
 have enC:=enters_of func170 (by kernel_rfl) rfl;have h1:∀(x:El w g (fun x=>edL (eg x)) Dm),∀ v∈x.1.2,v.oneCell'=true:=fun x v h=>by rw[hv]at h;simp only[aAe,aCa,aDx]at h;rcases h with rfl|rfl|rfl<;>rfl
 have hc:CmpLays prog 170 #[] (fun x:El w g (fun x=>edL (eg x)) Dm=>x.1.2) 3 (fun x y=>nE x.1.1 y.1.1) b 0 d.size w:=fun m os dk _ x y=>by
  have hc:=Yl (eg x.1.1) (eg y.1.1) (sortWorldK (fun x:El w g (fun x=>edL (eg x)) Dm=>x.1.2) 3 w b 0 m dk os);have e1:nE (eg x.1.1).id (eg y.1.1).id=nE x.1.1 y.1.1:=by have h1:=ho _ _ x.2.1 y.2.1;have h2:=ho _ _ y.2.1 x.2.1;simp only[nE,h1,h2]
  rw[e1]at hc;dsimp only;rw[hv x,hv y];exact hc
 exact AnyQ.slices_SortFunc (α:=El w g (fun x=>edL (eg x)) Dm) Ow 3 isAgg36 Tryz.sizeOf36 (fun x=>x.1.2) (fun x=>by rw[hv];rfl) h1 (fun x y=>nE x.1.1 y.1.1) (Kb fun x:El w g (fun x=>edL (eg x)) Dm=>x.1.1) 170 #[] b 0 cap d w enC hc hHo hb oO
theorem YQ(en:Int->Nat)(ec:Int->List LV)(key:Int->Int)(Dm:Int->Prop)(hx:∀ x,Dm x->0<en x/\∃ R,ec x=u (key x)::R)(ho:∀ x y,Dm x->Dm y->(key x<key y↔x<y))(l:List Int)(hD:∀ x∈l,Dm x)(q:Nat)(st:St)(hl:l.length<65536)(hq:q<st.next)(hH:st.H q=.box 23 1 (l.map fun x=>.sl 0 (en x) (ec x))):
 aB prog 98 [.ms q 0 l.length,.fn (.func 99) []] st fun r st'=>∃ c:List Int,st'.H q=.box 23 1 (c.map fun x=>.sl 0 (en x) (ec x))/\c.Perm l/\c.Pairwise (·<=·)/\bM q st st':=by
 have e:∀ c:List Int,(c.map fun x=>LV.sl 0 (en x) (ec x))=c.flatMap fun x=>[LV.sl 0 (en x) (ec x)]:=fun c=>by induction c<;>simp_all
 simp only[e]at hH ⊢;have hE:Enters prog 98:=PS.f6.enters rfl;have hN:=fun p cap v w=>AnyF.slices_SortFunc_none (P:=prog) (ρ:=Du) { PS with } p cap v w;change ∀ p cap v w,Calls prog 98 _ _ _ at hN;refine xX (k:=1) hE (fun _=>rfl) oO (fun p cap w=>hN p cap _ w) (fun w g b cap _ d _ hφ hb hd hHo=>?_) l hD q st hl hq hH;have hv:∀ x:El w g (fun x=>[LV.sl 0 (en x) (ec x)]) Dm,∃ B o cap,x.1.2=[.slice (some ⟨B,o,none⟩) (en x.1.1) cap]/\w.cell? ⟨B,o,none⟩=some (.int .u32 (key x.1.1))/\B≠b:=fun x=>by have h:=x.2.2;obtain⟨_,R,hR⟩:=hx _ x.2.1;simp only[aC,Rep]at h;obtain⟨v,_,h1,⟨A,cap,h2,_,_,_,h6⟩,rfl⟩:=h;obtain⟨B,o,rfl,h7⟩:=h6 (by rw[hR];simp);rw[hR]at h7;simp only[aM,Rep]at h7;obtain⟨⟨v',h8,rfl,h9⟩,_⟩:=h7;exact⟨B,o,cap,by rw[h1,h2],h8,fun e=>by subst e;exact absurd (h9 0 hφ) (aDI _)⟩
 have henc:(fun x:El w g (fun x=>[LV.sl 0 (en x) (ec x)]) Dm=>x.1.2)=fun x=>[x.1.2.headD undef]:=funext fun x=>by obtain⟨_,_,_,h,_⟩:=hv x;rw[h];rfl
 rw[henc]at hHo;have hSW:∀ n d' os,sortWorldK (fun x:El w g (fun x=>[LV.sl 0 (en x) (ec x)]) Dm=>x.1.2) 1 w b 0 n d' os=sortWorld (fun x=>x.1.2.headD undef) w b 0 n d' os:=fun n d' os=>by rw[henc];unfold sortWorldK sortWorld;rw[VV]
 simp only[hSW];have enC:=enters_of func99 (by kernel_rfl) rfl;have h1:OneCell (fun x:El w g (fun x=>[LV.sl 0 (en x) (ec x)]) Dm=>x.1.2.headD undef):=fun x=>by obtain⟨_,_,_,h,_⟩:=hv x;show(x.1.2.headD undef).oneCell'=true;rw[h];rfl
 have hc:CmpLays1 prog 99 #[] (fun x:El w g (fun x=>[LV.sl 0 (en x) (ec x)]) Dm=>x.1.2.headD undef) (fun x y=>nE x.1.1 y.1.1) b 0 d.size w:=fun m os dk _ x y=>by
  obtain⟨B1,o1,c1,h1,h2,h3⟩:=hv x;obtain⟨B2,o2,c2,k1,k2,k3⟩:=hv y;have cl:∀ {B o:Nat} {v:Value},w.cell? ⟨B,o,none⟩=some v->B≠b->(sortWorld (fun x:El w g (fun x=>[LV.sl 0 (en x) (ec x)]) Dm=>x.1.2.headD undef) w b 0 m dk os).cell? ⟨B,o,none⟩=some v:=fun {B o v} h hB=>by unfold sortWorld;rw[cell?_grow _ _ _ (by simpa[Sort.ahead]using oU h),cell?_putRow_other _ _ _ _ _ _ (.inl hB)];exact h
  have hc:=Ps (c1:=c1) (c2:=c2) (cl h2 h3) (cl k2 k3) (hx _ x.2.1).1 (hx _ y.2.1).1;have e1:nE (key x.1.1) (key y.1.1)=nE x.1.1 y.1.1:=by have h1:=ho _ _ x.2.1 y.2.1;have h2:=ho _ _ y.2.1 x.2.1;simp only[nE,h1,h2]
  rw[e1]at hc;dsimp only;rw[h1,k1];exact hc
 exact Any.slices_SortFunc (α:=El w g (fun x=>[LV.sl 0 (en x) (ec x)]) Dm) PS (fun x=>x.1.2.headD undef) h1 (fun x y=>nE x.1.1 y.1.1) (Kb fun x:El w g (fun x=>[LV.sl 0 (en x) (ec x)]) Dm=>x.1.1) 99 #[] b 0 cap d w enC hc (Nl hHo) hb oO
end Aw
end Go.Proofs.YtbgngpdonpeboaaGreatDoor
