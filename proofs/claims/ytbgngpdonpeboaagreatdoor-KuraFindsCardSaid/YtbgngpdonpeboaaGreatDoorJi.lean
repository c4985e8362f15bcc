/- Lemmas. -/
import Derived.Test.YtbgngpdonpeboaaGreatDoorJh
import Derived.Shelf.SlSortCmp.WholeK
import Derived.Shelf.SlSortCmp.QuietGrown
import Derived.Shelf.SlSortCmp.Whole1
import Derived.Shelf.SlSortCmp.NoneTotal
set_option linter.defProp false
open Go.Proofs.Tryz
namespace Go.Proofs.YtbgngpdonpeboaaGreatDoor
namespace Aw
open Go Go.RowKit Pl Eu
def ku(a:QR)(B:PQ):QR:=B.map (an a)
variable{p w y z:Int}{S:Int->Prop}{a c:List Ed}{B:List Nat}
def Qg(g:z≠p)(h:RIn a (·≠w) p y):RIn a (fun t=>t≠w/\t≠z) p y\/∃ c,z∈nbr a c/\RIn a (fun t=>t≠w/\t≠z) p c:=by
 induction h with
 |refl h=>exact .inl (.refl ⟨h,fun e=>g e.symm⟩)
 |@step y u h d f b=>
  rcases b with b|b
  .by_cases e:u=z
   .grind
   .exact .inl (.step b d ⟨f,e⟩)
  grind
def RP{b:QR}{q:Int}(m:S p)(h:RIn b (·≠w) p q):S q\/∃ z a,S z/\a∈nbr b z/\RIn b (fun t=>t≠w/\¬S t) a q:=by
 induction h with
 |refl h=>grind
 |@step y u h c d f=>
  by_cases e:S u
  .grind
  by_cases l:S y
  .exact .inr ⟨y,u,l,c,.refl ⟨d,e⟩⟩
  rcases f with f|⟨z,a,g,j,k⟩
  .grind
  .exact .inr ⟨z,a,g,j,.step k c ⟨d,e⟩⟩
theorem NK(h:z∈nbr (ku c B) y):∃ i∈B,((an c i).a=y\/(an c i).b=y)/\bh (an c i) y=z:=by
 rw[cI]at h;obtain⟨x,d,h⟩:=h;obtain⟨i,e,rfl⟩:=ao.1 d
 grind [bh]
theorem Nw{i:Nat}(d:i∈B)(h:(an c i).a=y\/(an c i).b=y):bh (an c i) y∈nbr (ku c B) y:=by
 rw[cI];refine⟨_,dd d,?_⟩
 grind [bh]
def RIn.up(d:∀ i∈B,i<a.length){x:Int}(h:RIn (ku a B) S x y):RIn a S x y:=by
 induction h with
 |refl h=>exact .refl h
 |step h e b c=>
  refine .step c ?_ b
  grind [NK,nH,aU]
section
variable {g:Gr} (hg:GoodE g)
include hg
theorem eH.ring_in{B:PQ}(h:eH g.E B){i j:Nat}(p:i∈B)(r:j<g.E.length){w:Int}(L:VE g.E w (an g.E i) (an g.E j)):RIn (ku g.E B) (·≠w) (bh (an g.E i) w) (bh (an g.E j) w):=by
 obtain⟨n,q,C⟩:=L;have H:j∈B:=h.all i p j r ⟨w,n,q,C⟩;have v:bh (an g.E i) w≠w:=vT hg (aU.2 ⟨h.lt i p,n⟩);have K:bh (an g.E j) w≠w:=vT hg (aU.2 ⟨r,q⟩);rcases RP (S:=fun t=>RIn (ku g.E B) (·≠w) (bh (an g.E i) w) t) (.refl v) C with k|⟨z,F,y,M,A⟩
 .exact k
 exfalso;have f:z≠w:=y.here.2;obtain⟨l,I,D⟩:=GI M;have c:=aU.1 I;have back:RIn g.E (·≠z) F w:=by have a:=A.mono (S':=(·≠z)) fun t x e=>x.2 (by grind);refine .step a (mH (nH (aU.2 ⟨r,q⟩))) fun e=>f e.symm
 have Q:l∈B:=by
  by_cases m:z=bh (an g.E i) w
  .refine h.all i p l c.1 ⟨z,by grind [nR],c.2,?_⟩;rw[D,m,nG n,<- m];exact back.symm
  .rcases Qg m y with k|⟨P,N,k5⟩
   .exact absurd rfl k.here.2.2
   .obtain⟨o,J,s,d⟩:=NK N;refine h.all o J l c.1 ⟨z,by grind [nR],c.2,?_⟩;rw[D,<- d,nG s,d];have a:RIn g.E (·≠z) (bh (an g.E i) w) P:=(k5.mono (S':=(·≠z)) fun t x=>x.2).up h.lt;have b:RIn g.E (·≠z) w (bh (an g.E i) w):=.step (.refl fun e=>f e.symm) (nH (aU.2 ⟨h.lt i p,n⟩)) fun e=>m e.symm;exact((back.trans b).trans a).symm
 have:RIn (ku g.E B) (·≠w) (bh (an g.E i) w) F:=.step y (by grind [Nw]) A.here.1.1;exact A.here.1.2 this
theorem eH.con{B:PQ}(h:eH g.E B)(v:Int){i j:Nat}(hi:i∈B)(hr:oH g.E i j):∀ p q,((an g.E i).a=p\/(an g.E i).b=p)->((an g.E j).a=q\/(an g.E j).b=q)->p≠v->q≠v->RIn (ku g.E B) (·≠v) p q:=by
 have one:∀ k∈B,∀ p q,((an g.E k).a=p\/(an g.E k).b=p)->((an g.E k).a=q\/(an g.E k).b=q)->p≠v->q≠v->RIn (ku g.E B) (·≠v) p q:=fun k hk p q h1 h2 hp hq=>by
  rcases(gW h1 q).1 h2 with e|e
  .rw[e];exact .refl hp
  .exact .step (.refl hp) (by grind [Nw]) hq
 induction hr with
 |refl=>grind
 |@step j k hr hjl hk hre ih=>
  intro p q hp hq hpv hqv;have hj:j∈B:=(h.iff hi).2 hr;have hkB:k∈B:=h.all j hj k hk hre;obtain⟨w,w1,w2,w3⟩:=hre;by_cases e:v=w
  .subst e;have h1:=ih p (bh (an g.E j) v) hp (nR _ _) hpv (vT hg (aU.2 ⟨hjl,w1⟩));have h2:=h.ring_in hg hj hk ⟨w1,w2,w3⟩;rcases(gW w2 q).1 hq with e|e
   .omega
   .rw[e];exact h1.trans h2
  .exact(ih p w hp w1 hpv fun x=>e x.symm).trans (one k hkB w q w2 hq (fun x=>e x.symm) hqv)
omit hg in
theorem eH.eq{B c:PQ}(h:eH g.E B)(d:eH g.E c){j:Nat}(m:j∈B)(e:j∈c):B=c:=by
 have n:B.Nodup:=h.rise.imp fun k=>lp k;have f:c.Nodup:=d.rise.imp fun k=>lp k;have o:B.Perm c:=(jd n f).2 fun k=>by rw[h.iff m,d.iff e]
 exact o.eq_of_pairwise (fun a b _ _ l p=>absurd l O) h.rise d.rise
end
noncomputable def jH(a:QR)(i:Nat):PQ:=(List.range a.length).filter fun j=>@decide (oH a i j) (Classical.propDecidable _)
def KH{i j:Nat}:j∈jH a i↔j<a.length/\oH a i j:=by
 grind [jH]
def Fi(a:QR)(i:Nat):(jH a i).Pairwise (· < ·):=sk _ o0
noncomputable def gY(a:QR):List PQ:=((List.range a.length).filter fun i=>decide ((jH a i).headD 0=i)).map (jH a)
def head_mem{l:PQ}(h:l≠[]):l.headD 0∈l:=by
 cases l with
 |nil=>grind
 |cons a l=>simp
def eH.cls(h:eH c B){i:Nat}(f:i∈B):B=jH c i:=by
 have g:B.Nodup:=h.rise.imp fun k=>lp k;have d:(jH c i).Nodup:=(Fi c i).imp fun k=>lp k;have j:B.Perm (jH c i):=(jd g d).2 fun k=>by rw[KH,<- h.iff f];exact⟨fun q=>⟨h.lt k q,q⟩,fun q=>q.2⟩
 exact j.eq_of_pairwise (fun a b _ _ e l=>absurd e O) h.rise (Fi c i)
theorem Cb{d B:List PQ}(g:∀ i,i∈d.flatten↔i<c.length)(j:∀ B∈d,eH c B)(z:B.Perm d)(v:B.Pairwise fun x y=>x.headD 0<y.headD 0):B=gY c:=by
 have h:∀ b,b∈B↔b∈gY c:=fun b=>by
  unfold gY;rw[z.mem_iff,ao];constructor
  .intro f;have m:=j b f;have r:=head_mem m.ne;have q:=m.cls r;refine⟨b.headD 0,?_,q.symm⟩;rw[cj,ii,gm,<- q];exact⟨m.lt _ r,rfl⟩
  .rintro⟨i,s,rfl⟩;rw[cj,ii,gm]at s;obtain⟨b,f,l⟩:=fI.1 ((g i).2 s.1);rw[<- (j b f).cls l];omega
 have t:(gY c).Pairwise fun x y=>x.headD 0<y.headD 0:=by unfold gY;rw[gd];refine(sk (fun i=>decide ((jH c i).headD 0=i)) (o0 (n:=c.length))).imp_of_mem ?_;intro a b p f A;rw[cj,gm]at p f;rw[p.2,f.2];exact A
 have o:B.Perm (gY c):=(jd (v.imp fun k e=>by grind) (t.imp fun k e=>by grind)).2 h;exact o.eq_of_pairwise (fun a b _ _ w C=>absurd w O) v t
end Aw
namespace Aw
open Go Go.RowKit Pl Go.Sort
def oR(x y:Int):Int:=if x<y then -1 else if y<x then 1 else 0
def KU(x y:Int):oR x y<0↔x<y:=by grind [oR]
theorem SI{d o:Type}{k:Nat}(f:d->List o):∀(l:List d) (t:Nat),(∀ x∈l,(f x).length=k)->t<l.length*k->∃ x,l[t / k]?=some x/\(l.flatMap f)[t]?=(f x)[t % k]?
 |[],t,_,h=>by simp at h
 |a::l,t,hk,h=>by
  have e:=hk a ar;rw[dt];by_cases c:t<k
  .exact⟨a,by rw[wz c];rfl,by rw[ev c,kw O]⟩
  .have n:0<k:=by
    rcases sr k with b|b
    .subst b;simp at h
    .exact b
   rw[List.length_cons,xj]at h;obtain⟨x,g,j⟩:=SI f l (t-k) (fun x m=>hk x (aq _ m)) O;refine⟨x,?_,?_⟩
   .rw[Nat.div_eq_sub_div n O,List.getElem?_cons_succ,g]
   .rw[oi O,e,j,<- Nat.mod_eq_sub_mod O]
theorem HP{b g:Type}{k:Nat}(f:b->List g):∀(l:List b),(∀ x∈l,(f x).length=k)->(l.flatMap f).length=l.length*k
 |[],_=>by simp
 |a::l,h=>by have c:=h a ar;have d:=HP f l fun x e=>h x (aq _ e);rw[dt,cb,c,d,List.length_cons,xj,Nat.add_comm]
variable{k:Nat}{e:Type}{w:World}
def zQ{f:Type}[Inhabited f](a:f->List Value)(e:∀ x,(a x).length=k)(d:Array f):(flatK a k d).toList=d.toList.flatMap a:=by
 have m:=HP a d.toList fun x _=>e x;refine pw fun t=>?_;by_cases b:t<d.size*k
 .obtain⟨x,g,j⟩:=SI a d.toList t (fun x _=>e x) (by simpa using b);have n:0<k:=by
   rcases sr k with c|c
   .subst c;simp at b
   .exact c
  have h:=get_flatK a k d t b;rw[j];have l:(d[t / k]!)=x:=by rw[pf]at g;rw[getElem!_def,g]
  rw[l,od _ t (by simpa using b),od _ _ (by rw[e];exact me _ n)]at h;rw[pf,wm (by simpa using b),h,bu]
 .rw[pd (by simp;omega),pd (by rw[m];simpa using b)]
def Ic{b:Type}[Inhabited b](a:b->Value)(d:Array b):flatK (fun x=>[a x]) 1 d=d.map a:=by refine Array.toList_inj.1 ?_;rw[zQ (k:=1) _ (fun _=>rfl),Array.toList_map];induction d.toList<;>simp_all
def Xl[Inhabited e](a:e->Value)(b:Nat)(d:Array e)(w:World):putRow a w b 0 d=putRowK (fun x=>[a x]) 1 w b 0 d:=by
 unfold putRowK;rw[Ic];unfold putRow
 congr 1
 funext c
 unfold putCells;refine Array.ext Y fun i g j=>?_;simp only[Array.getElem_mapIdx,Array.size_map]
 split
 .rename_i h;have f:i-0<d.size:=O;rw[od d (i-0) f,od (d.map a) (i-0) (by simpa using f)];simp
 .rfl
def PL[Inhabited e]{a:e->Value}{b:Nat}{d:Array e}(h:HoldsK (fun x=>[a x]) 1 w b 0 d):Holds a w b 0 d:=fun j c=>by have f:=h j (by simpa using c);rw[Ic,od (d.map a) j (by simpa using c)]at f;rw[od d j c];simpa using f
def Wy{g:G}{k:St}(h:Inv w g k){q e s:Nat}{f cs':QQ}(n:k.H q=.box e s f)(r:g.nl q=false){F:Array Value}(I:F.size=f.length)(J:cs'.length=f.length)(A:aG w g cs' F.toList)(m:Nat)(d:Array Obj):
 Inv (grow (putRow id (Sort.ahead w m) (g.β q) 0 F) d) g (k.set q (.box e s cs'))/\Ext w g (grow (putRow id (Sort.ahead w m) (g.β q) 0 F) d) g:=by
 obtain⟨_,_,D⟩:=h.box q e s f n;obtain⟨c,p,E,K,k5,L⟩:=D r
 obtain⟨B,C⟩:=Ab (cs':=cs') (vs':=(putCells id 0 F c.toArray).toList) h n r (by simp[putCells,E]) (by simp[putCells];omega) (by
  have:(putCells id 0 F c.toArray).toList.take cs'.length=F.toList:=by
   refine pw fun t=>?_;rw[nt];by_cases o:t<cs'.length
   .have x:t<c.length:=O;have y:t<F.size:=O;simp[putCells,o,x,y]
   .rw[aa o,pd (by simp;omega)]
  rw[this];exact A)
 have l:Below (w.setRow (g.β q) (putCells id 0 F c.toArray).toList.toArray).heap.size (w.setRow (g.β q) (putCells id 0 F c.toArray).toList.toArray) (grow (putRow id (Sort.ahead w m) (g.β q) 0 F) d):=by
  refine⟨rfl,rfl,rfl,by simp[Sort.ahead],fun b z=>?_⟩;have j:b<w.heap.size:=by simpa using z
  have v:(grow (putRow id (Sort.ahead w m) (g.β q) 0 F) d).heap[b]?=(putRow id (Sort.ahead w m) (g.β q) 0 F).heap[b]?:=by show((putRow id (Sort.ahead w m) (g.β q) 0 F).heap++d)[b]?=_;rw[zw (by simpa[Sort.ahead]using j)]
  rw[v];by_cases a:b=g.β q
  .subst a;rw[setRow_heap _ _ _ _ _ _ p];show((w.heap.modify (g.β q) (onCells (putCells id 0 F)))[g.β q]?)=_;rw[Dm,ac rfl,p];simp[onCells]
  .rw[setRow_other _ _ _ _ a];show((w.heap.modify (g.β q) (onCells (putCells id 0 F)))[b]?)=_;rw[Dm,aa (fun h=>a h.symm)]
 exact⟨zI B l,C.trans (uP g l)⟩
abbrev El(w:World)(g:G)(b:Int->QQ)(a:Int->Prop):Type:={ p:Int×List Value // a p.1/\aG w g (b p.1) p.2 }
theorem Ru{w:World}{g:G}{a:Int->QQ}{d:Int->Prop}:∀(l:PP) (b:List Value),(∀ x∈l,d x)->aG w g (l.flatMap a) b->∃ c:List (El w g a d),c.map (·.1.1)=l/\c.flatMap (·.1.2)=b
 |[],b,_,h=>⟨[],rfl,by simp only[nw,aG]at h;simp[h]⟩
 |x::l,b,hD,h=>by rw[dt]at h;have e:=gQ (a x).length _ _ h;have f:=kF (a x).length _ _ h;rw[ts]at e;rw[rq]at f;obtain⟨c,j,k⟩:=Ru l _ (fun y m=>hD y (aq _ m)) f;refine⟨⟨(x,b.take (a x).length),hD x ar,e⟩::c,by rw[ax,j],?_⟩;rw[dt,k];exact gw _ _
theorem OP{w:World}{g:G}{b:Int->QQ}{c:Int->Prop}:∀ a:List (El w g b c),aG w g ((a.map (·.1.1)).flatMap b) (a.flatMap (·.1.2))
 |[]=>by simp[aG]
 |p::a=>by rw[ax,dt,dt];exact cR _ _ _ _ p.2.2 (OP a)
def Og{a:Type}(f:a->Int):SWO (ltOf fun x y=>oR (f x) (f y)):=by refine⟨fun x=>?_,fun x y z=>?_,fun x y z=>?_⟩<;>simp only[ltOf,jv,qt,KU]<;>omega
def Ah{P:Program}{f x8:FuncId}{e:Nat}(hf:Enters P f){a:Int->QQ}(hk:∀ x,(a x).length=k)(k0:0<k){o:Int->Prop}
 (hN:∀(p:Option Addr) (m:Nat) (w:World),Calls P f #[.slice p 0 m,.func (.func x8) #[] #[]] w fun e E=>e=.returned (.tuple #[])/\E=w)
 (hS:∀(w:World) (g:G) (b m:Nat) [Inhabited (El w g a o)] (d:Array (El w g a o)),iV w g->g.φ b=some 0->b<w.heap.size->d.size<65536->HoldsK (fun x:El w g a o=>x.1.2) k w b 0 d->
   Calls P f #[.slice (some ⟨b,0,none⟩) d.size m,.func (.func x8) #[] #[]] w fun e E=>e=.returned (.tuple #[])/\∃ s n os,PermIn 0 d.size d s/\SortedIn (ltOf fun x y=>oR x.1.1 y.1.1) 0 d.size s/\E=sortWorldK (fun x:El w g a o=>x.1.2) k w b 0 n s os)
 (l:PP) (hD:∀ x∈l,o x) (q:Nat) (D:St) (hl:l.length<65536) (hq:q<D.z) (R:D.H q=.box e k (l.flatMap a)):
 aD P f [.ms q 0 l.length,.fn (.func x8) []] D fun r M=>∃ c:PP,M.H q=.box e k (c.flatMap a)/\c.Perm l/\c.Pairwise (·<=·)/\bU q D M:=by
 refine⟨hf,fun w g vs N hr=>?_⟩;simp only[aG]at hr;obtain⟨v1,_,rfl,h1,v2,_,rfl,h2,rfl⟩:=hr;simp only[Rep]at h1 h2;obtain⟨A,m,rfl,h3,h4,h5,h6,h7⟩:=h1;obtain⟨ws,rfl,h8⟩:=h2;simp only[aG]at h8;subst h8;by_cases hn:l.length=0
 .have hl0:l=[]:=qv.1 hn;subst hl0;refine(hN A m w).mono ?_;rintro e E ⟨rfl,rfl⟩;exact⟨_,.tu [],D,g,rfl,⟨[],R,tT _,List.Pairwise.nil,bU.refl q D⟩,by simp[Rep,aG],N,Ext.refl E g⟩
 have hA:=h6 hn;subst hA;obtain⟨b1,b2,b3⟩:=N.box q e k _ R;have t:=HP a l fun x _=>hk x;have v8:g.nl q=false:=by refine Bool.eq_false_iff.2 fun h=>?_;have:=(b2 h).2;rw[this]at t;have:0<l.length*k:=xy O k0;simp at t;omega
 obtain⟨o8,Q,c2,c3,c4,c5⟩:=b3 v8;obtain⟨C,p1,p2⟩:=Ru l _ hD c4;have v:C.length=l.length:=by rw[<- p1,du]
 haveI:Inhabited (El w g a o):=⟨C[0]'(by omega)⟩
 have B:∀ x:El w g a o,x.1.2.length=k:=fun x=>by rw[<- aO _ _ x.2.2,hk]
 have T:=zQ (fun x:El w g a o=>x.1.2) B C.toArray;have S:HoldsK (fun x:El w g a o=>x.1.2) k w (g.β q) 0 C.toArray:=by
  intro j W;have X:j<l.length*k:=by simpa[v]using W
  have h9:(flatK (fun x:El w g a o=>x.1.2) k C.toArray)[j]?=o8[j]?:=by rw[<- pf,T];show(C.flatMap fun x=>x.1.2)[j]?=_;rw[p2,nt,ac (by rw[t];exact X)]
  rw[od _ j W];rw[wm W]at h9;rw[jw];constructor
  .rw[cell_of_row _ _ _ _ _ _ Q,ph,<- h9];rfl
  .unfold World.frozen?;rw[Q];simp
 have hb:=(ig.1 Q).1;have hC:=hS w g (g.β q) m C.toArray N.aside.glob c5 hb (ek v hl) S;rw[jh,v]at hC;refine hC.mono ?_;rintro e' E ⟨rfl,s,n,os,hp,hs,rfl⟩;have J:s.size=l.length:=by rw[hp.1,jh,v]
 have hpe:s.toList.Perm C:=by have h:=hp.2.2;rw[zr O,zr (Z v)]at h;exact h
 have K:=zQ (fun x:El w g a o=>x.1.2) B s;have I:=HP a (s.toList.map (·.1.1)) fun x _=>hk x;have hlm:(s.toList.map (·.1.1)).length=l.length:=by simp[J]
 obtain⟨i1,i2⟩:=Wy N R v8 (F:=flatK (fun x:El w g a o=>x.1.2) k s) (cs':=(s.toList.map (·.1.1)).flatMap a) (by rw[size_flatK,J,t]) (by rw[I,hlm,t]) (by rw[K];exact OP _) n os;refine⟨_,.tu [],_,g,rfl,⟨s.toList.map (·.1.1),by simp[St.set],?_,?_,(bU.refl q D).set _⟩,by simp[Rep,aG],i1,i2⟩
 .have:=hpe.map (·.1.1)
  rwa [p1]at this
 .rw[gd,fD];intro i j U L V;have:=hs i j (jx _) V (by simp at L;omega);rw[ltOf,qt,KU,od _ j (by simpa using L),od _ i (by simpa using U)]at this;simp only[Array.getElem_toList];omega
end Aw
namespace Aw
open Go Go.RowKit Pl Go.Sort Go.Shelf Go.Lib
def Ni(x:Int)(W:World):Calls prog 118 #[.int .u32 x] W fun e w'=>e=.returned (.bool false)/\w'=W:=by
 go_enter func118,ntmps118
 go_wp2
 go_ret
 simp
set_option maxRecDepth 100000 in
def Ee(x y:Int)(W:World):Calls prog 77 #[.int .u32 x,.int .u32 y] W fun e w'=>e=.returned (.int .i64 (oR x y))/\w'=W:=by
 have h1:=fun W=>Ni x W;have h2:=fun W=>Ni y W
 go_enter func77,ntmps77
 go_wp2_with (go_at_call 118;first|(refine(h1 _).mono ?_;rintro e w' ⟨rfl,rfl⟩)|(refine(h2 _).mono ?_;rintro e w' ⟨rfl,rfl⟩))
 all_goals go_ret
 all_goals clear h1 h2
 all_goals exact⟨congrArg (fun z=>Ending.returned (.int .i64 z)) (by unfold oR;grind),rfl⟩
def G6(a b:Ed)(W:World):Calls prog 170 #[.agg #[.int .u32 a.id,.int .u32 a.a,.int .u32 a.b],.agg #[.int .u32 b.id,.int .u32 b.a,.int .u32 b.b]] W fun e w'=>e=.returned (.int .i64 (oR a.id b.id))/\∃ q os',w'=grow (W.drewN q) os':=by
 have hcon:=fun W'=>Ee a.id b.id W';generalize oR a.id b.id=r at hcon ⊢
 go_enter func170,ntmps170
 go_wp2_with (go_at_call 77;refine(hcon _).mono ?_;rintro e w' ⟨rfl,rfl⟩)
 go_ret
 exact⟨rfl,0,_,by rw[alloc_eq_grow,alloc_eq_grow,grow_grow];rfl⟩
def SK{W:World}{b1 o1 n1 c1 b2 o2 n2 c2:Nat}{x y:Int}(h1:W.cell? ⟨b1,o1,none⟩=some (.int .u32 x))(h2:W.cell? ⟨b2,o2,none⟩=some (.int .u32 y))(k1:0<n1)(k2:0<n2):
 Calls prog 99 #[.slice (some ⟨b1,o1,none⟩) n1 c1,.slice (some ⟨b2,o2,none⟩) n2 c2] W fun e w'=>e=.returned (.int .i64 (oR x y))/\∃ q os',w'=grow (W.drewN q) os':=by
 have hcon:=fun W'=>Ee x y W';generalize oR x y=r at hcon ⊢;have mixed:prog.follows .mixedOrders=true:=by kernel_rfl
 go_enter func99,ntmps99
 go_wp2
 go_quiet ((go_at_call 77;refine(hcon _).mono ?_;rintro e w' ⟨rfl,rfl⟩;exact⟨rfl,_,rfl⟩))
 go_wp2
 go_ret
 exact⟨rfl,_,#[],by rw[grow_empty]⟩
variable{B F:Func}{f:FuncId}{P:Program}
def fk(h:P.funcs[f]?=some F)(hn:(F.name== "runtime.NumGoroutine")=false:=by decide)(e:F={ B with name:=F.name }:=by kernel_rfl):Bears P f B:=⟨F.name,hn,h.trans (congrArg some e)⟩
def nk(h:P.funcs[f]?=some F)(e:F=B:=by kernel_rfl):P.funcs[f]?=some B:=h.trans (congrArg some e)
def Pq:Ren:=⟨fun|6=>169|15=>85|14=>199|28=>129|29=>130|20=>161|21=>211|22=>212|23=>213|24=>214|25=>215|26=>216|27=>217|46=>221|47=>164|48=>165|49=>222|50=>223|57=>224|n=>n,fun|22=>23|24=>36|25=>104|3=>3|39=>109|0=>0|53=>34|55=>133|4=>4|46=>155|45=>154|50=>121|5=>5|9=>9|66=>184|70=>188|76=>203|77=>204|n=>n,fun|n=>n⟩
def TQ:SlLaysF0.n6 prog Pq:=
 {mixed:=by kernel_rfl,
  f6:=fk func169,
  f14:=fk func199,
  f15:=nk func85,
  f20:=fk func161,
  f21:=fk func211,
  f22:=fk func212,
  f23:=fk func213,
  f24:=fk func214,
  f25:=fk func215,
  f26:=fk func216,
  f27:=fk func217,
  f28:=nk func129,
  f29:=nk func130,
  f46:=fk func221,
  f47:=nk func164,
  f48:=nk func165,
  f49:=fk func222,
  f50:=fk func223,
  f57:=fk func224,
  t0:=underlying0,
  a0:=isAgg0,
  z0:=Tryz.sizeOf0,
  v0:=Tryz.zeroValue0,
  t3:=underlying3,
  a3:=isAgg3,
  z3:=Tryz.sizeOf3,
  v3:=Tryz.zeroValue3,
  t4:=underlying4,
  a4:=isAgg4,
  z4:=Tryz.sizeOf4,
  v4:=Tryz.zeroValue4,
  t5:=underlying5,
  a5:=isAgg5,
  z5:=Tryz.sizeOf5,
  v5:=Tryz.zeroValue5,
  t9:=underlying9,
  a9:=isAgg9,
  z9:=Tryz.sizeOf9,
  v9:=Tryz.zeroValue9,
  t22:=underlying23,
  a22:=isAgg23,
  z22:=Tryz.sizeOf23,
  v22:=Tryz.zeroValue23,
  t25:=underlying104,
  a25:=isAgg104,
  z25:=Tryz.sizeOf104,
  v25:=Tryz.zeroValue104,
  t39:=underlying109,
  a39:=isAgg109,
  z39:=Tryz.sizeOf109,
  v39:=Tryz.zeroValue109,
  t45:=underlying154,
  a45:=isAgg154,
  z45:=Tryz.sizeOf154,
  v45:=Tryz.zeroValue154,
  t46:=underlying155,
  a46:=isAgg155,
  z46:=Tryz.sizeOf155,
  v46:=Tryz.zeroValue155,
  t50:=underlying121,
  a50:=isAgg121,
  z50:=Tryz.sizeOf121,
  v50:=Tryz.zeroValue121,
  t53:=underlying34,
  a53:=isAgg34,
  z53:=Tryz.sizeOf34,
  v53:=Tryz.zeroValue34,
  t55:=underlying133,
  a55:=isAgg133,
  z55:=Tryz.sizeOf133,
  v55:=Tryz.zeroValue133,
  t66:=underlying184,
  a66:=isAgg184,
  z66:=Tryz.sizeOf184,
  v66:=Tryz.zeroValue184,
  t70:=underlying188,
  a70:=isAgg188,
  z70:=Tryz.sizeOf188,
  v70:=Tryz.zeroValue188,
  t76:=underlying203,
  a76:=isAgg203,
  z76:=Tryz.sizeOf203,
  v76:=Tryz.zeroValue203,
  t77:=underlying204,
  a77:=isAgg204,
  z77:=Tryz.sizeOf204,
  v77:=Tryz.zeroValue204 }
def Fo:Ren:=⟨fun|6=>98|15=>85|14=>136|28=>129|29=>130|20=>171|21=>172|22=>173|23=>174|24=>175|25=>176|26=>177|27=>178|46=>200|47=>164|48=>165|49=>201|50=>202|57=>218|n=>n,fun|22=>83|24=>23|25=>129|3=>3|39=>109|0=>0|53=>34|55=>133|4=>4|46=>155|45=>154|50=>121|5=>5|9=>9|66=>184|70=>188|76=>203|77=>204|n=>n,fun|n=>n⟩
def VC:SlLaysF.n6 prog Fo:=
 {mixed:=by kernel_rfl,
  f6:=fk func98,
  f14:=fk func136,
  f15:=nk func85,
  f20:=fk func171,
  f21:=fk func172,
  f22:=fk func173,
  f23:=fk func174,
  f24:=fk func175,
  f25:=fk func176,
  f26:=fk func177,
  f27:=fk func178,
  f28:=nk func129,
  f29:=nk func130,
  f46:=fk func200,
  f47:=nk func164,
  f48:=nk func165,
  f49:=fk func201,
  f50:=fk func202,
  f57:=fk func218,
  t0:=underlying0,
  a0:=isAgg0,
  z0:=Tryz.sizeOf0,
  v0:=Tryz.zeroValue0,
  t3:=underlying3,
  a3:=isAgg3,
  z3:=Tryz.sizeOf3,
  v3:=Tryz.zeroValue3,
  t4:=underlying4,
  a4:=isAgg4,
  z4:=Tryz.sizeOf4,
  v4:=Tryz.zeroValue4,
  t5:=underlying5,
  a5:=isAgg5,
  z5:=Tryz.sizeOf5,
  v5:=Tryz.zeroValue5,
  t9:=underlying9,
  a9:=isAgg9,
  z9:=Tryz.sizeOf9,
  v9:=Tryz.zeroValue9,
  t22:=underlying83,
  a22:=isAgg83,
  z22:=Tryz.sizeOf83,
  v22:=Tryz.zeroValue83,
  a24:=isAgg23,
  z24:=Tryz.sizeOf23,
  t25:=underlying129,
  a25:=isAgg129,
  z25:=Tryz.sizeOf129,
  v25:=Tryz.zeroValue129,
  t39:=underlying109,
  a39:=isAgg109,
  z39:=Tryz.sizeOf109,
  v39:=Tryz.zeroValue109,
  t45:=underlying154,
  a45:=isAgg154,
  z45:=Tryz.sizeOf154,
  v45:=Tryz.zeroValue154,
  t46:=underlying155,
  a46:=isAgg155,
  z46:=Tryz.sizeOf155,
  v46:=Tryz.zeroValue155,
  t50:=underlying121,
  a50:=isAgg121,
  z50:=Tryz.sizeOf121,
  v50:=Tryz.zeroValue121,
  t53:=underlying34,
  a53:=isAgg34,
  z53:=Tryz.sizeOf34,
  v53:=Tryz.zeroValue34,
  t55:=underlying133,
  a55:=isAgg133,
  z55:=Tryz.sizeOf133,
  v55:=Tryz.zeroValue133,
  t66:=underlying184,
  a66:=isAgg184,
  z66:=Tryz.sizeOf184,
  v66:=Tryz.zeroValue184,
  t70:=underlying188,
  a70:=isAgg188,
  z70:=Tryz.sizeOf188,
  v70:=Tryz.zeroValue188,
  t76:=underlying203,
  a76:=isAgg203,
  z76:=Tryz.sizeOf203,
  v76:=Tryz.zeroValue203,
  t77:=underlying204,
  a77:=isAgg204,
  z77:=Tryz.sizeOf204,
  v77:=Tryz.zeroValue204 }
def M9(f:Int->Ed)(n:Int->Prop)(I:∀ x y,n x->n y->((f x).id<(f y).id↔x<y))(l:PP)(M:∀ x∈l,n x)(q:Nat)(o:St)(Q:l.length<65536)(R:q<o.z)(E:o.H q=.box 36 3 (eds (l.map f))):
 aD prog 169 [.ms q 0 l.length,.fn (.func 170) []] o fun r s=>∃ c:PP,s.H q=.box 36 3 (eds (c.map f))/\c.Perm l/\c.Pairwise (·<=·)/\bU q o s:=by
 have e:∀ c:PP,eds (c.map f)=c.flatMap fun x=>dv (f x):=fun c=>by rw[<- List.flatMap_map]
 simp only[e]at E ⊢;have N:Enters prog 169:=TQ.f6.enters rfl;have F:=fun p j v w=>AnyF.slices_SortFunc_none TQ p j v w;change ∀ p j v w,Calls prog 169 _ _ _ at F;refine Ah (k:=3) N (fun _=>rfl) O (fun p j w=>F p j _ w) (fun w g b j _ d _ _ P T D=>?_) l M q o Q R E;have A:∀ x:El w g (fun x=>dv (f x)) n,x.1.2=[.int .u32 (f x.1.1).id,.int .u32 (f x.1.1).a,.int .u32 (f x.1.1).b]:=fun x=>by have:=x.2.2;simpa[dv,aG,Rep]using this
 have B:=enters_of func170 (by kernel_rfl) rfl;have C:∀(x:El w g (fun x=>dv (f x)) n),∀ v∈x.1.2,v.oneCell'=true:=fun x v h=>by rw[A]at h;simp only[ai,gz,ij]at h;rcases h with rfl|rfl|rfl<;>rfl
 have t:CmpLays prog 170 #[] (fun x:El w g (fun x=>dv (f x)) n=>x.1.2) 3 (fun x y=>oR x.1.1 y.1.1) b 0 d.size w:=fun m S J _ x y=>by
  have t:=G6 (f x.1.1) (f y.1.1) (sortWorldK (fun x:El w g (fun x=>dv (f x)) n=>x.1.2) 3 w b 0 m J S);have K:oR (f x.1.1).id (f y.1.1).id=oR x.1.1 y.1.1:=by have C:=I _ _ x.2.1 y.2.1;have L:=I _ _ y.2.1 x.2.1;simp only[oR,C,L]
  rw[K]at t;dsimp only;rw[A x,A y];exact t
 exact AnyQ.slices_SortFunc (α:=El w g (fun x=>dv (f x)) n) TQ 3 isAgg36 Tryz.sizeOf36 (fun x=>x.1.2) (fun x=>by rw[A];rfl) C (fun x y=>oR x.1.1 y.1.1) (Og fun x:El w g (fun x=>dv (f x)) n=>x.1.1) 170 #[] b 0 j d w B t D P O
def I9(f:Int->Nat)(j:Int->QQ)(s:Int->Int)(t:Int->Prop)(U:∀ x,t x->0<f x/\∃ R,j x=u (s x)::R)(ho:∀ x y,t x->t y->(s x<s y↔x<y))(l:PP)(hD:∀ x∈l,t x)(q:Nat)(J:St)(hl:l.length<65536)(hq:q<J.z)(hH:J.H q=.box 23 1 (l.map fun x=>.sl 0 (f x) (j x))):
 aD prog 98 [.ms q 0 l.length,.fn (.func 99) []] J fun r K=>∃ c:PP,K.H q=.box 23 1 (c.map fun x=>.sl 0 (f x) (j x))/\c.Perm l/\c.Pairwise (·<=·)/\bU q J K:=by
 have e:∀ c:PP,(c.map fun x=>LV.sl 0 (f x) (j x))=c.flatMap fun x=>[LV.sl 0 (f x) (j x)]:=fun c=>by induction c<;>simp_all
 simp only[e]at hH ⊢;have hE:Enters prog 98:=VC.f6.enters rfl;have hN:=fun p a v w=>AnyF.slices_SortFunc_none (P:=prog) (ρ:=Fo) { VC with } p a v w;change ∀ p a v w,Calls prog 98 _ _ _ at hN;refine Ah (k:=1) hE (fun _=>rfl) O (fun p a w=>hN p a _ w) (fun w g b a _ d _ V hb hd F=>?_) l hD q J hl hq hH;have M:∀ x:El w g (fun x=>[LV.sl 0 (f x) (j x)]) t,∃ B o a,x.1.2=[.slice (some ⟨B,o,none⟩) (f x.1.1) a]/\w.cell? ⟨B,o,none⟩=some (.int .u32 (s x.1.1))/\B≠b:=fun x=>by have h:=x.2.2;obtain⟨_,R,hR⟩:=U _ x.2.1;simp only[aG,Rep]at h;obtain⟨v,_,D,⟨A,a,E,_,_,_,h6⟩,rfl⟩:=h;obtain⟨B,o,rfl,S⟩:=h6 (by rw[hR];simp);rw[hR]at S;simp only[aR,Rep]at S;obtain⟨⟨v',h8,rfl,h9⟩,_⟩:=S;exact⟨B,o,a,by rw[D,E],h8,fun e=>by subst e;exact absurd (h9 0 V) (vp _)⟩
 have C:(fun x:El w g (fun x=>[LV.sl 0 (f x) (j x)]) t=>x.1.2)=fun x=>[x.1.2.headD undef]:=funext fun x=>by obtain⟨_,_,_,h,_⟩:=M x;rw[h];rfl
 rw[C]at F;have T:∀ n N I,sortWorldK (fun x:El w g (fun x=>[LV.sl 0 (f x) (j x)]) t=>x.1.2) 1 w b 0 n N I=sortWorld (fun x=>x.1.2.headD undef) w b 0 n N I:=fun n N I=>by rw[C];unfold sortWorldK sortWorld;rw[Xl]
 simp only[T];have Q:=enters_of func99 (by kernel_rfl) rfl;have D:OneCell (fun x:El w g (fun x=>[LV.sl 0 (f x) (j x)]) t=>x.1.2.headD undef):=fun x=>by obtain⟨_,_,_,h,_⟩:=M x;show(x.1.2.headD undef).oneCell'=true;rw[h];rfl
 have L:CmpLays1 prog 99 #[] (fun x:El w g (fun x=>[LV.sl 0 (f x) (j x)]) t=>x.1.2.headD undef) (fun x y=>oR x.1.1 y.1.1) b 0 d.size w:=fun m I dk _ x y=>by
  obtain⟨B1,o1,W,D,E,h3⟩:=M x;obtain⟨B2,o2,X,k1,k2,k3⟩:=M y;have cl:∀ {B o:Nat} {v:Value},w.cell? ⟨B,o,none⟩=some v->B≠b->(sortWorld (fun x:El w g (fun x=>[LV.sl 0 (f x) (j x)]) t=>x.1.2.headD undef) w b 0 m dk I).cell? ⟨B,o,none⟩=some v:=fun {B o v} h hB=>by unfold sortWorld;rw[cell?_grow _ _ _ (by simpa[Sort.ahead]using pU h),cell?_putRow_other _ _ _ _ _ _ (.inl hB)];exact h
  have L:=SK (c1:=W) (c2:=X) (cl E h3) (cl k2 k3) (U _ x.2.1).1 (U _ y.2.1).1;have e1:oR (s x.1.1) (s y.1.1)=oR x.1.1 y.1.1:=by have D:=ho _ _ x.2.1 y.2.1;have E:=ho _ _ y.2.1 x.2.1;simp only[oR,D,E]
  rw[e1]at L;dsimp only;rw[D,k1];exact L
 exact Any.slices_SortFunc (α:=El w g (fun x=>[LV.sl 0 (f x) (j x)]) t) VC (fun x=>x.1.2.headD undef) D (fun x y=>oR x.1.1 y.1.1) (Og fun x:El w g (fun x=>[LV.sl 0 (f x) (j x)]) t=>x.1.1) 99 #[] b 0 a d w Q L (PL F) hb O
end Aw
end Go.Proofs.YtbgngpdonpeboaaGreatDoor
