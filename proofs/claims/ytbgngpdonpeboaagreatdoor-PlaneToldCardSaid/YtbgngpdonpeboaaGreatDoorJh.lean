/- plane: newSheet. -/
import Derived.Test.YtbgngpdonpeboaaGreatDoorJg
import Derived.Test.YtbgngpdonpeboaaGreatDoorAwAlt
set_option linter.unusedVariables false
set_option linter.unusedSimpArgs false
set_option maxHeartbeats 4000000
open Go.Proofs.Tryz
namespace Go.Proofs.YtbgngpdonpeboaaGreatDoor
namespace Aw
open Go Go.RowKit Pl
theorem UC{ops:Array Oper}{M B:List Nat}{j8:St}{J:Frm->St->Prop}{listed:Array Bool}{fr:Frm}{st:St}{k:Nat}(n:Nat)(p q r:Nat×Bool)(h1:eE prog tab ops M B j8 (fun fr st=>jQ prog tab ops M (SB B j8) J n (listed.setIfInBounds p.1 true) fr st) (pick ops [p]) fr st)
 (h2:eE prog tab ops M B j8 (fun fr st=>jQ prog tab ops M (SB B j8) J n (listed.setIfInBounds q.1 true) fr st) (pick ops [q]) fr st)
 (h3:eE prog tab ops M B j8 (fun fr st=>jQ prog tab ops M (SB B j8) J n (listed.setIfInBounds r.1 true) fr st) (pick ops [r]) fr st) (hn:k=n+1:=by rfl) (hk:Ka ops [p,q,r] listed=true:=by kernel_rfl):jQ prog tab ops M (SB B j8) J k listed fr st:=by
 subst hn;refine Hz n [p,q,r] hk fun x hx=>?_;simp only[aAe,aBV,aDq]at hx;rcases hx with rfl|rfl|rfl
 .exact h1
 .exact h2
 .exact h3
structure NeI(g:Gr)(lo S nl pl ll:Nat)(f6:LV)(j8 s:St)(near:List LV)(pm lm:List (List Int×LV))(on:Nat):Prop where
 gr:s.H lo=.box 25 2 (grL g)
 box:s.H S=.box 136 7 [.sl 0 g.vs.length (us g.vs),.sl 0 g.es.length (eds g.es),.ms nl 0 g.vs.length,.mp pl,.mp ll,wv on,f6]
 near:s.H nl=.box 133 1 near
 plc:s.H pl=.map false [.u32] pm
 lin:s.H ll=.map true [.u32,.u32] lm
 b:j8.next<=lo/\lo<s.next/\j8.next<=S/\S<s.next/\j8.next<=nl/\nl<s.next/\j8.next<=pl/\pl<s.next/\j8.next<=ll/\ll<s.next
 kp:aA j8 s
theorem iU(n:Nat):dX [.atom (.int .u64 0)] n=List.replicate n (wv 0):=by
 induction n with
 |zero=>rfl
 |succ n ih=>rw[List.replicate_succ,<- ih];rfl
def My(vs:List Int)(j:Nat):List (List Int×LV):=(List.range j).map fun k=>([vs.getD k 0],i k)
theorem Bl:∀(L:List (List Int×LV)) (k:List Int) (x:LV),k∉L.map (·.1)->bV L k x=L++[(k,x)]
 |[],k,x,_=>rfl
 |q::L,k,x,h=>by simp only[aAn,aAe,aCp]at h;simp only[bV];rw[aAa (by simpa using h.1),Bl L k x h.2];rfl
theorem ME{vs:List Int}(hn:vs.Nodup){j:Nat}(hj:j<vs.length):bV (My vs j) [vs.getD j 0] (i j)=My vs (j+1):=by
 rw[Bl]
 .unfold My;rw[aDy,aAu];rfl
 .unfold My;rw[aAZ];intro h;obtain⟨k,hk,e⟩:=aAj.1 h;have hk:=aBb.1 hk;simp only[Function.comp,aBt,aEn]at e;rw[bB _ _ hj,bB _ _ (show k<vs.length by omega),Dr hn oO hj]at e;omega
def mI(g:Gr)(j:Nat):List LV:=g.vs.map fun v=>wv (mk g.vs (nbr (g.es.take j) v))
@[simp] theorem Dl(g:Gr)(j:Nat):(mI g j).length=g.vs.length:=by simp[mI]
theorem Ji(g:Gr):mI g 0=List.replicate g.vs.length (wv 0):=by
 have hz:mk g.vs []=0:=(mk_zero g.vs []).2 fun _ _=>by simp
 unfold mI;rw[List.eq_replicate_iff];refine⟨sS,fun b hb=>?_⟩;obtain⟨v,_,rfl⟩:=aAj.1 hb;simp[nbr,hz]
theorem NW(g:Gr):mI g g.es.length=lW g:=by unfold mI lW;rw[aAN]
theorem rI(g:Gr)(j k:Nat)(hk:k<g.vs.length):(mI g j)[k]?=some (wv (mk g.vs (nbr (g.es.take j) (g.vs.getD k 0)))):=by unfold mI;rw[aCd,aAh hk,bB _ _ hk];rfl
theorem RH(es:List Ed)(x:Ed)(v:Int):nbr (es++[x]) v=nbr es v++JR v x:=by simp[nbr]
theorem Is{g:Gr}(hn:g.vs.Nodup){j:Nat}(hj:j<g.es.length){d a b:Int}(hx:g.es.getD j ed0=⟨d,a,b⟩)(x7:a≠b)(ha:a∈g.vs)(hb:b∈g.vs):
 ((mI g j).set (g.vs.idxOf a) (wv (mk g.vs (nbr (g.es.take j) a++[b])))).set (g.vs.idxOf b) (wv (mk g.vs (nbr (g.es.take j) b++[a])))=mI g (j+1):=by
 obtain⟨ia,ga⟩:=CF ha;obtain⟨ib,gb⟩:=CF hb;have C9:g.es.take (j+1)=g.es.take j++[⟨d,a,b⟩]:=by rw[aAp hj,<- eH _ _ hj,hx]
 refine aCm fun k=>?_;by_cases hk:k<g.vs.length
 .rw[rI g (j+1) k hk,C9,RH,aDi,aDi,rI g j k hk];simp only[aCH,Dl];by_cases e1:g.vs.idxOf b=k
  .rw[aAk e1,aAk oO,<- e1,gb];simp[JR,x7]
  .rw[aAa e1];by_cases e2:g.vs.idxOf a=k
   .rw[aAk e2,aAk oO,<- e2,ga];simp[JR,aCv x7]
   .rw[aAa e2];have v1:¬a=g.vs.getD k 0:=fun e=>e2 (by rw[e,bB _ _ hk];exact hn.idxOf_getElem k hk);have v2:¬b=g.vs.getD k 0:=fun e=>e1 (by rw[e,bB _ _ hk];exact hn.idxOf_getElem k hk);unfold JR;rw[aAa v1,aAa v2];simp
 .rw[aBQ (by simp;omega),aBQ (by simp;omega)]
theorem ZW(x y:Ed)(q:Nat)(st:St)(hq:st.H q=.box 36 3 (edL x))(S7:q<st.next):
 aB prog 138 [.ag (edL y),.pt q 0] st fun r st'=>r=bb (decide (y≠x))/\aA st st':=by
 obtain⟨d,a,b⟩:=x;obtain⟨d',a',b'⟩:=y;have h1:¬q=st.next:=oO;refine zN func138 ntmps138 [.tmp 3] ?_;refine xw2 hq h1 ?_;exact⟨rfl,aA.new _ _⟩
def newF(g:Gr):Option Sh:=match g.es with
 |[]=>none
 |x::_=>(tM g.vs (cS (g.es.filter fun y=>decide (y≠x))) (fun _=>true) x.a x.b 1000).bind fun ring=>
  if ring.length<=200/\∀ v∈ring,v∈g.vs then some ⟨jV (jV [] ring) [x.a,x.b],ring++[x.a,x.b],[ring,ring.reverse]⟩else none
theorem PS{g:Gr}(hg:GP g){h:Sh}(hh:newF g=some h)(st:St):aB prog 100 [.ag (grL g)] st fun r st'=>∃ S nl pl ll fl le,r=.pt S 0/\ShA g h.L h.on h.F S nl pl ll fl le st'/\(st.next<=S/\st.next<=ll/\st.next<=fl)/\aA st st':=by
 have he:=hg.he;have h64:=hg.h64;refine zN func100 ntmps100 [.tmp 2] ?_;refine fE fun E0=>?_;refine xw0 ?_;refine Bu (fun f s=>∃ S nl pl ll,f 1=.pt st.next 0/\f 3=.pt S 0/\NeI g st.next S nl pl ll .nil st s (List.replicate g.vs.length (wv 0)) [] [] 0) ?_ ?_
 .refine w_a [] [st.next] ?_;intro J hJ;refine kP 6 [(0,true),(1,true),(2,true),(3,true)] ?_;simp;refine UC 5 (4,true) (5,true) (6,true) ?_ ?_ ?_
  .simp;refine⟨⟨oO,oO⟩,?_⟩;refine sH 4 (5,true) (6,true) ?_ ?_
   .simp;refine kP 0 [(6,true),(7,true),(8,true),(9,true)] ?_;simp;refine eK (hJ _ _ ?_);simp only[ak];refine⟨trivial,st.next+4,st.next+1,st.next+2,st.next+3,sS,sS,⟨?_,?_,?_,?_,?_,?_,?_⟩⟩
    ·(repeat (first|rw[nHh nOo]|rw[sHh oO]|rw[nIi nQq]|rw[sIi oO]))
    ·(repeat (first|rw[nHh nOo]|rw[sHh oO]|rw[nIi nQq]|rw[sIi oO]));rfl
    ·(repeat (first|rw[nHh nOo]|rw[sHh oO]|rw[nIi nQq]|rw[sIi oO]));rw[iU]
    ·(repeat (first|rw[nHh nOo]|rw[sHh oO]|rw[nIi nQq]|rw[sIi oO]))
    ·(repeat (first|rw[nHh nOo]|rw[sHh oO]|rw[nIi nQq]|rw[sIi oO]))
    .simp only[aG];omega
    ·(repeat (first|exact aA.refl _|(refine aA.trans ?_ (aA.new _ _))))
   .simp;refine kP 0 [(5,true),(7,true),(8,true),(9,true)] ?_;simp;refine eK (hJ _ _ ?_);simp only[ak];refine⟨trivial,st.next+4,st.next+1,st.next+3,st.next+2,sS,sS,⟨?_,?_,?_,?_,?_,?_,?_⟩⟩
    ·(repeat (first|rw[nHh nOo]|rw[sHh oO]|rw[nIi nQq]|rw[sIi oO]))
    ·(repeat (first|rw[nHh nOo]|rw[sHh oO]|rw[nIi nQq]|rw[sIi oO]));rfl
    ·(repeat (first|rw[nHh nOo]|rw[sHh oO]|rw[nIi nQq]|rw[sIi oO]));rw[iU]
    ·(repeat (first|rw[nHh nOo]|rw[sHh oO]|rw[nIi nQq]|rw[sIi oO]))
    ·(repeat (first|rw[nHh nOo]|rw[sHh oO]|rw[nIi nQq]|rw[sIi oO]))
    .simp only[aG];omega
    ·(repeat (first|exact aA.refl _|(refine aA.trans ?_ (aA.new _ _))))
  .simp;refine sH 4 (4,true) (6,true) ?_ ?_
   .simp;refine⟨⟨oO,oO⟩,?_⟩;refine kP 0 [(6,true),(7,true),(8,true),(9,true)] ?_;simp;refine eK (hJ _ _ ?_);simp only[ak];refine⟨trivial,st.next+4,st.next+2,st.next+1,st.next+3,sS,sS,⟨?_,?_,?_,?_,?_,?_,?_⟩⟩
    ·(repeat (first|rw[nHh nOo]|rw[sHh oO]|rw[nIi nQq]|rw[sIi oO]))
    ·(repeat (first|rw[nHh nOo]|rw[sHh oO]|rw[nIi nQq]|rw[sIi oO]));rfl
    ·(repeat (first|rw[nHh nOo]|rw[sHh oO]|rw[nIi nQq]|rw[sIi oO]));rw[iU]
    ·(repeat (first|rw[nHh nOo]|rw[sHh oO]|rw[nIi nQq]|rw[sIi oO]))
    ·(repeat (first|rw[nHh nOo]|rw[sHh oO]|rw[nIi nQq]|rw[sIi oO]))
    .simp only[aG];omega
    ·(repeat (first|exact aA.refl _|(refine aA.trans ?_ (aA.new _ _))))
   .simp;refine kP 0 [(4,true),(7,true),(8,true),(9,true)] ?_;simp;refine⟨⟨oO,oO⟩,?_⟩;refine eK (hJ _ _ ?_);simp only[ak];refine⟨trivial,st.next+4,st.next+3,st.next+1,st.next+2,sS,sS,⟨?_,?_,?_,?_,?_,?_,?_⟩⟩
    ·(repeat (first|rw[nHh nOo]|rw[sHh oO]|rw[nIi nQq]|rw[sIi oO]))
    ·(repeat (first|rw[nHh nOo]|rw[sHh oO]|rw[nIi nQq]|rw[sIi oO]));rfl
    ·(repeat (first|rw[nHh nOo]|rw[sHh oO]|rw[nIi nQq]|rw[sIi oO]));rw[iU]
    ·(repeat (first|rw[nHh nOo]|rw[sHh oO]|rw[nIi nQq]|rw[sIi oO]))
    ·(repeat (first|rw[nHh nOo]|rw[sHh oO]|rw[nIi nQq]|rw[sIi oO]))
    .simp only[aG];omega
    ·(repeat (first|exact aA.refl _|(refine aA.trans ?_ (aA.new _ _))))
  .simp;refine sH 4 (4,true) (5,true) ?_ ?_
   .simp;refine⟨⟨oO,oO⟩,?_⟩;refine kP 0 [(5,true),(7,true),(8,true),(9,true)] ?_;simp;refine eK (hJ _ _ ?_);simp only[ak];refine⟨trivial,st.next+4,st.next+2,st.next+3,st.next+1,sS,sS,⟨?_,?_,?_,?_,?_,?_,?_⟩⟩
    ·(repeat (first|rw[nHh nOo]|rw[sHh oO]|rw[nIi nQq]|rw[sIi oO]))
    ·(repeat (first|rw[nHh nOo]|rw[sHh oO]|rw[nIi nQq]|rw[sIi oO]));rfl
    ·(repeat (first|rw[nHh nOo]|rw[sHh oO]|rw[nIi nQq]|rw[sIi oO]));rw[iU]
    ·(repeat (first|rw[nHh nOo]|rw[sHh oO]|rw[nIi nQq]|rw[sIi oO]))
    ·(repeat (first|rw[nHh nOo]|rw[sHh oO]|rw[nIi nQq]|rw[sIi oO]))
    .simp only[aG];omega
    ·(repeat (first|exact aA.refl _|(refine aA.trans ?_ (aA.new _ _))))
   .simp;refine kP 0 [(4,true),(7,true),(8,true),(9,true)] ?_;simp;refine⟨⟨oO,oO⟩,?_⟩;refine eK (hJ _ _ ?_);simp only[ak];refine⟨trivial,st.next+4,st.next+3,st.next+2,st.next+1,sS,sS,⟨?_,?_,?_,?_,?_,?_,?_⟩⟩
    ·(repeat (first|rw[nHh nOo]|rw[sHh oO]|rw[nIi nQq]|rw[sIi oO]))
    ·(repeat (first|rw[nHh nOo]|rw[sHh oO]|rw[nIi nQq]|rw[sIi oO]));rfl
    ·(repeat (first|rw[nHh nOo]|rw[sHh oO]|rw[nIi nQq]|rw[sIi oO]));rw[iU]
    ·(repeat (first|rw[nHh nOo]|rw[sHh oO]|rw[nIi nQq]|rw[sIi oO]))
    ·(repeat (first|rw[nHh nOo]|rw[sHh oO]|rw[nIi nQq]|rw[sIi oO]))
    .simp only[aG];omega
    ·(repeat (first|exact aA.refl _|(refine aA.trans ?_ (aA.new _ _))))
 .rintro fr s ⟨S,nl,pl,ll,f1,f3,hI⟩;have hn:g.vs.Nodup:=hg.toGoodE.toGood.nodup;have hG:=hI.gr;refine xw2 f1 hG ?_;refine aY 24 23 25 35 (g.vs.length) (fun j fr st2=>fr 1=.pt st.next 0/\fr 3=.pt S 0/\fr 22=.sl 0 g.vs.length (us g.vs)/\NeI g st.next S nl pl ll .nil st st2 (List.replicate g.vs.length (wv 0)) (My g.vs j) [] 0) ?_ ?_ ?_
  .exact⟨sF1 f1,sF1 f3,sS,hI⟩
  .clear f1 f3 hI hG fr s;rintro j fr s dQ ⟨f1,f3,f22,hI⟩ fi fn JO hJO;have hd:=qG g.vs j dQ;have hps:=ME hn dQ;generalize g.vs.getD j 0=v at *;obtain⟨hG,G2,hN,hP,hL,hb,hk⟩:=id hI;have a1:¬st.next=pl:=fun e=>by rw[e,hP]at hG;cases hG
   have a2:¬S=pl:=fun e=>by rw[e,hP]at G2;cases G2
   have a3:¬nl=pl:=fun e=>by rw[e,hP]at hN;cases hN
   have a4:¬ll=pl:=fun e=>by rw[e,hP]at hL;cases hL
   refine xw9 f3 f22 fi fn hd dQ G2 hP hps ?_;exact hJO _ _ (sF1 fi) (sF1 fn) ⟨sF1 f1,sF1 f3,sF1 f22,⟨by(repeat (first|rw[nHh nOo]|rw[sHh oO]|rw[nIi nQq]|rw[sIi oO]));exact hG,by(repeat (first|rw[nHh nOo]|rw[sHh oO]|rw[nIi nQq]|rw[sIi oO]));exact G2,by(repeat (first|rw[nHh nOo]|rw[sHh oO]|rw[nIi nQq]|rw[sIi oO]));exact hN,by(repeat (first|rw[nHh nOo]|rw[sHh oO]|rw[nIi nQq]|rw[sIi oO])),by(repeat (first|rw[nHh nOo]|rw[sHh oO]|rw[nIi nQq]|rw[sIi oO]));exact hL,by simp only[bH];exact hb,hk.set oO _⟩⟩
  .clear f1 f3 hI hG fr s;rintro fr s ⟨f1,f3,f22,hI⟩;have hG:=hI.gr;have hel:=aJ g.es;refine xw2 f1 hG ?_;rw[<- Ji]at hI;have hplc:My g.vs g.vs.length=wO g.vs:=rfl;rw[hplc]at hI;clear hplc;refine aY 39 38 40 81 (g.es.length) (fun j fr st2=>fr 1=.pt st.next 0/\fr 3=.pt S 0/\fr 37=.sl 0 g.es.length (eds g.es)/\NeI g st.next S nl pl ll .nil st st2 (mI g j) (wO g.vs) [] 0) ?_ ?_ ?_
   .exact⟨sF1 f1,sF1 f3,sS,hI⟩
   .clear f1 f3 f22 hI hG fr s;rintro j fr s dQ ⟨f1,f3,f37,hI⟩ fi fn JO hJO;have hde:=aP g.es j dQ;have hj3:j*3<g.es.length*3:=oO;have hm:g.es.getD j ed0∈g.es:=by rw[eH _ _ dQ];exact aAz _
    have I8:=hg.ends _ hm;have Zy:=hg.ne _ hm;generalize hx:g.es.getD j ed0=x at *;obtain⟨d,a,b⟩:=x;simp only at I8 Zy;have hsu:=Is hn dQ hx Zy I8.1 I8.2;obtain⟨ia,ga⟩:=CF I8.1;obtain⟨ib,gb⟩:=CF I8.2;have pa:=Ba hn ia;have pb:=Ba hn ib;rw[ga]at pa;rw[gb]at pb;have na:=rI g j _ ia;rw[ga]at na;have oa:=Bt g.vs (nbr (g.es.take j) a) [b] h64;have ob:=Bt g.vs (nbr (g.es.take j) b) [a] h64;have nb:=rI g j _ ib;rw[gb]at nb;have hidx:¬g.vs.idxOf a=g.vs.idxOf b:=fun e=>Zy (by rw[<- ga,<- gb,e]);have nb2:((mI g j).set (g.vs.idxOf a) (wv (mk g.vs (nbr (g.es.take j) a++[b]))))[g.vs.idxOf b]?=some (wv (mk g.vs (nbr (g.es.take j) b))):=by rw[aDi,aAa hidx];exact nb
    have hl:=Dl g j;generalize mI g j=N at *;generalize g.vs.idxOf a=ka at *;generalize g.vs.idxOf b=kb at *;generalize mk g.vs (nbr (g.es.take j) a)=ma at *;generalize mk g.vs (nbr (g.es.take j) b)=mb at *;obtain⟨hG,G2,hN,hP,hL,hb,hk⟩:=id hI;have a1:¬st.next=s.next:=oO;have a2:¬S=s.next:=oO;have a3:¬nl=s.next:=oO;have a4:¬ll=s.next:=oO;have a5:¬pl=s.next:=oO;have da:N.drop ka=wv ma::N.drop (ka+1):=by rw[aAL oO];rw[aAh oO,aAb]at na;rw[na]
    have ka1:(ka:Int)<g.vs.length:=oO;have kb1:(kb:Int)<g.vs.length:=oO;refine xw7 f37 fi fn hde hel hj3 dQ ?_
    (refine zS [] [S,s.next,nl,pl] [0,2,4,6,8,10,12,14,16,18,20,22,24,26,28,30,32,34,36,39] ?_;intro J hJ;simp[f3,G2,hN,hP,a1,a2,a3,a4,a5,pa,da,ia,ka1,hl])
    have hBb:∀ {v:Int} {s':St},v∈g.vs->s'.H S=.box 136 7 [.sl 0 g.vs.length (us g.vs),.sl 0 g.es.length (eds g.es),.ms nl 0 g.vs.length,.mp pl,.mp ll,wv 0,.nil]->s'.H pl=.map false [.u32] (wO g.vs)->aB prog 137 [.pt S 0,u v] s' fun r st'=>r=wv (mk g.vs [v])/\st'=s':=
     fun {v s'} hv h1 h2=>Sv ⟨⟨_,_,_,_,_,_,h1⟩,h2⟩ hn h64 hv
    refine xdP (hBb I8.2 (by rw[bY,aAa a2];exact G2) (by rw[bY,aAa a5];exact hP)) ?_;refine⟨fun h=>by first|(cases h;done)|exact fun _ _=>rfl|simp,?_⟩;have U3:∀(M:List LV) (k:Nat) (y:LV),k<M.length->M.take k++y::M.drop (k+1)=M.set k y:=fun M k y h=>by rw[aBK,aAk h]
    have V5:=U3 N ka (wv (mk g.vs (nbr (g.es.take j) a++[b]))) oO;have b1:¬S=nl:=fun e=>by rw[e,hN]at G2;cases G2
    have b2:¬pl=nl:=fun e=>by rw[e,hN]at hP;cases hP
    have b3:¬s.next=nl:=oO;have b4:¬ll=nl:=fun e=>by rw[e,hN]at hL;cases hL
    have b5:¬st.next=nl:=fun e=>by rw[e,hN]at hG;cases hG
    (apply bL;simp[G2,hN,hP,a1,a2,a3,a4,a5,ia,ka1,hl,oa];(repeat refine ca ?_);(refine zJ hJ ?_;clear hJ J))
    rw[V5];have Y1:(N.set ka (wv (mk g.vs (nbr (g.es.take j) a++[b])))).length=g.vs.length:=by rw[aCH,hl]
    generalize N.set ka (wv (mk g.vs (nbr (g.es.take j) a++[b])))=N2 at *;have db:N2.drop kb=wv mb::N2.drop (kb+1):=by rw[aAL oO];rw[aAh oO,aAb]at nb2;rw[nb2]
    have X2:=U3 N2 kb (wv (mk g.vs (nbr (g.es.take j) b++[a]))) oO
    (repeat (apply qS))
    (refine zS [] [S,s.next,nl,pl] [0,2,4,6,8,10,12,14,16,18,20,22,24,26,28,30,32,34,36,39] ?_;intro J hJ;simp[f3,G2,hP,a1,a2,a3,a4,a5,b1,b2,b3,b4,pb,db,ib,kb1,Y1])
    refine xdP (hBb I8.1 (by rw[bR,aAa b1,bY,aAa a2];exact G2) (by rw[bR,aAa b2,bY,aAa a5];exact hP)) ?_;refine⟨fun h=>by first|(cases h;done)|exact fun _ _=>rfl|simp,?_⟩
    (apply bL;simp[G2,hP,a1,a2,a3,a4,a5,b1,b2,b3,b4,ib,kb1,Y1,ob];(repeat refine ca ?_);(refine zJ hJ ?_;clear hJ J))
    rw[X2,hsu];refine xw1 fi ?_;refine hJO _ _ (sF1 fi) (sF1 fn) ⟨sF1 f1,sF1 f3,sF1 f37,⟨by(repeat (first|rw[nHh nOo]|rw[sHh oO]|rw[nIi nQq]|rw[sIi oO]));exact hG,by(repeat (first|rw[nHh nOo]|rw[sHh oO]|rw[nIi nQq]|rw[sIi oO]));exact G2,by(repeat (first|rw[nHh nOo]|rw[sHh oO]|rw[nIi nQq]|rw[sIi oO])),by(repeat (first|rw[nHh nOo]|rw[sHh oO]|rw[nIi nQq]|rw[sIi oO]));exact hP,by(repeat (first|rw[nHh nOo]|rw[sHh oO]|rw[nIi nQq]|rw[sIi oO]));exact hL,by simp only[bH,aG];omega,?_⟩⟩;exact((hk.trans (aA.new _ _)).set oO _).set oO _
   .clear f1 f3 f22 hI hG fr s;rintro fr s ⟨f1,f3,f37,hI⟩;rw[NW]at hI;unfold newF at hh;cases hes:g.es with
    |nil=>rw[hes]at hh;cases hh
    |cons x es'=>
     rw[hes]at hh;simp only at hh;obtain⟨ring,hring,hh⟩:=aBu.1 hh;by_cases hc:ring.length<=200/\∀ v∈ring,v∈g.vs
     case neg=>rw[aAa hc]at hh;cases hh
     rw[aAk hc,aAb]at hh;subst hh;obtain⟨hrl,hrv⟩:=hc;obtain⟨hG,G2,hN,hP,hL,hb,hk⟩:=id hI;simp only[ak];have hT3:(eds g.es).take 3=edL x:=by rw[hes];simp[eds,edL]
     have U5:0<g.es.length:=by rw[hes];simp
     have hlp3:0<g.es.length*3:=oO;have hlp4:3<=g.es.length*3:=oO;have hlpi:(0:Int)<g.es.length:=oO;have a1:¬st.next=s.next:=oO;obtain⟨dx,ax,bx⟩:=x;have hTe:∀ s2,aA s s2->s.next<s2.next->s2.H s.next=.box 36 3 (edL ⟨dx,ax,bx⟩)->KI 138 [.pt s.next 0] s2 g.es fun y=>decide (y≠⟨dx,ax,bx⟩):=fun s2 h1 h2 h3 y _ s3 h4=>ZW _ y s.next s3 ((h4.H _ h2).trans h3) (aAs h2 h4.next)
     (refine xj9 f1 hG hel hT3 U5 hlp3 hlp4 hlpi a1 ?_;intro J hJ)
     refine qE (VK g _ _ _ _ oO oO (hTe _ (aA.new _ _) sS sS)) (by simp[grL]) ?_;rintro r s1 ⟨rfl,j7⟩;have I2:=j7.next;simp only[aG]at I2;have hX1:s1.H s.next=.box 36 3 (edL ⟨dx,ax,bx⟩):=by rw[j7.H _ sS];simp
     have hK1:aA s s1:=(aA.new _ _).trans j7;clear j7;have T6:(g.es.filter fun y=>decide (y≠⟨dx,ax,bx⟩)).length<=1000:=by have:=aBf (fun y:Ed=>decide (y≠⟨dx,ax,bx⟩)) g.es;omega
     have hmay:∀ s,QX (.atom .nilFunc) (fun _=>true) s:=fun s=>.inl ⟨rfl,fun _=>rfl⟩;rw[<- hes]at hring;have b1:¬s.next=s1.next:=oO
     (refine Ij hJ hX1 b1 ?_;intro J hJ)
     refine qE (Path ⟨g.vs,g.es.filter fun y=>decide (y≠⟨dx,ax,bx⟩)⟩ ax bx _ (fun _=>true) 1000 ring _ (by simp only;omega) T6 oO (hmay _) hring) (by simp[grL]) ?_;rintro r s2 ⟨rfl,u5⟩;have K2:=u5.next;simp only[aG]at K2;have hX2:s2.H s.next=.box 36 3 (edL ⟨dx,ax,bx⟩):=by rw[u5.H _ (by simp;omega),bY,aAa b1];exact hX1
     have hK2:aA s s2:=(hK1.trans (aA.new _ _)).trans u5;clear u5
     (refine nJ hJ ?_;intro J hJ)
     refine qE (Es ring 0 _ oO) sS ?_;rintro r s3 ⟨q,rfl,q1,q2,hq,o9⟩
     (refine nJ hJ ?_;intro J hJ)
     refine qE (yQ ring q s3 (by unfold small;omega) hq) sS ?_;rintro r s4 e4;have hK4:aA s s4:=by rw[e4];exact(hK2.trans o9).set (by have:=hK2.next;omega) _
     have W8:s4.next=s3.next:=by rw[e4];rfl
     have hn3:=o9.next;have hq4:s4.H q=.box 34 1 (us ring.reverse):=by rw[e4];simp
     have hX4:s4.H s.next=.box 36 3 (edL ⟨dx,ax,bx⟩):=by rw[e4,bR,aAa oO,o9.H _ oO];exact hX2
     clear e4 hq o9;have hz:mk g.vs []=0:=(mk_zero g.vs []).2 fun _ _=>by simp
     have hSb4:s4.H S=.box 136 7 [.sl 0 g.vs.length (us g.vs),.sl 0 g.es.length (eds g.es),.ms nl 0 g.vs.length,.mp pl,.mp ll,wv (mk g.vs []),.nil]:=by rw[hz];exact(hK4.H S oO).trans G2
     have hN4:=(hK4.H nl oO).trans hN;have hP4:=(hK4.H pl oO).trans hP;have hL4:=(hK4.H ll oO).trans hL;have c1:¬pl=ll:=fun e=>by rw[e,hL]at hP;cases hP
     have c2:¬nl=ll:=fun e=>by rw[e,hL]at hN;cases hN
     have c3:¬nl=S:=fun e=>by rw[e,G2]at hN;cases hN
     have c4:¬pl=S:=fun e=>by rw[e,G2]at hP;cases hP
     have c5:¬ll=S:=fun e=>by rw[e,G2]at hL;cases hL
     have c6:¬S=ll:=fun e=>c5 e.symm;have hn5:=hK4.next
     (refine HE hJ f3 ?_;intro J hJ)
     refine qE (Qq hSb4 hP4 hL4 (L:=[]) rfl c1 hn h64 ring 0 hrv oO) sS ?_;rintro r s5 ⟨le1,e5,hk5⟩;rw[List.nil_append]at e5;have n5:s5.next=s4.next:=by rw[e5];rfl
     have hSb5:s5.H S=.box 136 7 [.sl 0 g.vs.length (us g.vs),.sl 0 g.es.length (eds g.es),.ms nl 0 g.vs.length,.mp pl,.mp ll,wv (mk g.vs ring),.nil]:=by rw[e5];simp
     have hN5:s5.H nl=.box 133 1 (lW g):=by rw[e5];simp[c3,c2,hN4]
     have hP5:s5.H pl=.map false [.u32] (wO g.vs):=by rw[e5];simp[c4,c1,hP4]
     have hL5:s5.H ll=.map true [.u32,.u32] le1:=by rw[e5];simp[c5]
     have hq5:s5.H q=.box 34 1 (us ring.reverse):=by rw[e5];simp[show ¬q=S by omega,show ¬q=ll by omega,hq4]
     have hX5:s5.H s.next=.box 36 3 (edL ⟨dx,ax,bx⟩):=by rw[e5];simp[show ¬s.next=S by omega,show ¬s.next=ll by omega,hX4]
     have hK5:aA st s5:=by rw[e5];exact((hk.trans hK4).set oO _).set oO _
     clear e5 hSb4 hN4 hP4 hL4 hq4 hX4;have x7:=hg.ends ⟨dx,ax,bx⟩ (by rw[hes];simp);simp only at x7;have hv2:∀ v∈[ax,bx],v∈g.vs:=fun v hv=>by
      simp only[aAe,aBV,aDq]at hv;rcases hv with e|e
      .rw[e];exact x7.1
      .rw[e];exact x7.2
     (refine Ij hJ hX5 f3 ?_;intro J hJ)
     have hk6:=aA.new s5 (.own 34 1 2);refine qE (Qq ((hk6.H S oO).trans hSb5) ((hk6.H pl oO).trans hP5) ((hk6.H ll oO).trans hL5) hk5 c1 hn h64 [ax,bx] s5.next hv2 sS) sS ?_;rintro r s7 ⟨le2,e7,hk7⟩;have n7:s7.next=s5.next+1:=by rw[e7];simp
     have hSb7:s7.H S=.box 136 7 [.sl 0 g.vs.length (us g.vs),.sl 0 g.es.length (eds g.es),.ms nl 0 g.vs.length,.mp pl,.mp ll,wv (mk g.vs (ring++[ax,bx])),.nil]:=by rw[e7];simp
     have d1:¬nl=s5.next:=oO;have d2:¬pl=s5.next:=oO;have d3:¬ll=s5.next:=oO;have hN7:s7.H nl=.box 133 1 (lW g):=by rw[e7];simp[c3,c2,d1,hN5]
     have hP7:s7.H pl=.map false [.u32] (wO g.vs):=by rw[e7];simp[c4,c1,d2,hP5]
     have hL7:s7.H ll=.map true [.u32,.u32] le2:=by rw[e7];simp[c5]
     have hq7:s7.H q=.box 34 1 (us ring.reverse):=by rw[e7];simp[show ¬q=S by omega,show ¬q=ll by omega,show ¬q=s5.next by omega,hq5]
     have hK7:aA st s7:=by rw[e7];exact((hK5.trans hk6).set oO _).set oO _
     clear e7 hSb5 hN5 hP5 hL5 hq5 hX5
     (apply cD;simp[];(refine zJ hJ ?_;clear hJ J))
     refine sK 11 (l:=q) (n:=ring.length) sS hq7 sS ?_;have C9:(us ring.reverse).take (ring.length*1)=us ring.reverse:=by rw[aAt sS]
     rw[C9];have hrv2:∀ v∈ring.reverse,v∈g.vs:=fun v hv=>hrv v (aBh.1 hv);have hrl2:ring.length=ring.reverse.length:=sS;have e1:¬S=q:=oO;have hk8:aA st (s7.set q .dead):=hK7.set oO _;have n8:(s7.set q .dead).next=s7.next:=rfl;have hSb8:(s7.set q .dead).H S=.box 136 7 [.sl 0 g.vs.length (us g.vs),.sl 0 g.es.length (eds g.es),.ms nl 0 g.vs.length,.mp pl,.mp ll,wv (mk g.vs (ring++[ax,bx])),.nil]:=by rw[bR,aAa e1];exact hSb7
     have hN8:(s7.set q .dead).H nl=.box 133 1 (lW g):=by rw[bR,aAa oO];exact hN7
     have hP8:(s7.set q .dead).H pl=.map false [.u32] (wO g.vs):=by rw[bR,aAa oO];exact hP7
     have hL8:(s7.set q .dead).H ll=.map true [.u32,.u32] le2:=by rw[bR,aAa oO];exact hL7
     generalize s7.set q .dead=s8 at *;have hB8:ShB g.vs S pl s8:=⟨⟨_,_,_,_,_,_,hSb8⟩,hP8⟩;have hFa:=fun(l:List Int) (hl:∀ v∈l,v∈g.vs) (hll:l.length<=1048576)=>RO hB8 oO oO hn h64 l 0 hl hll;have hF2:=hFa ring.reverse hrv2 (by simp;omega);rw[<- hrl2]at hF2
     (repeat (apply qS))
     (refine w_e [116] ?_;intro J hJ;simp only[];simp[f3])
     refine xcP (hFa ring hrv oO) ?_
     (apply cD;simp[f3])
     refine qE hF2 sS ?_;rintro r s9 ⟨rfl,e9⟩;rw[e9];clear e9 s9;have z1:¬S=s8.next:=oO;refine nR hJ hSb8 z1 f3 ?_;have hfac:[LV.sl 0 ring.length (us ring),wv (mk g.vs ring),LV.sl 0 ring.length (List.map u ring).reverse,wv (mk g.vs ring.reverse)]=gQ g.vs [ring,ring.reverse]:=by simp[gQ]
     rw[hfac];refine⟨nl,pl,ll,s8.next,⟨le2,⟨⟨sS,?_,?_,?_,hk7,?_⟩,?_,?_,?_,?_,sS⟩⟩,⟨oO,oO,by have:=hk8.next;omega⟩,(hk8.trans (aA.new _ _)).set oO _⟩
     ·(repeat (first|rw[nHh nOo]|rw[sHh oO]|rw[nIi nQq]|rw[sIi oO]));exact hN8
     ·(repeat (first|rw[nHh nOo]|rw[sHh oO]|rw[nIi nQq]|rw[sIi oO]));exact hP8
     ·(repeat (first|rw[nHh nOo]|rw[sHh oO]|rw[nIi nQq]|rw[sIi oO]));exact hL8
     .simp only[bH,aG];omega
     ·(repeat (first|rw[nHh nOo]|rw[sHh oO]|rw[nIi nQq]|rw[sIi oO]))
     .simp only[bH,aG];omega
     .intro r hr v hv;simp only[aAe,aBV,aDq]at hr;rcases hr with e|e
      .rw[e]at hv;exact hrv v hv
      .rw[e]at hv;exact hrv2 v hv
     .intro v hv;rw[aAd]at hv;exact hv.elim (hrv v) (hv2 v)
theorem FI(x:Int)(st:St):aB prog 42 [u x] st fun r st'=>r=u x/\aA st st':=by refine zN func42 ntmps42 [.tmp 2] ?_;refine xw0 ?_;exact aA.refl _
theorem ES(x:Ed)(st:St):aB prog 44 [.ag (edL x)] st fun r st'=>r=u x.id/\aA st st':=by obtain⟨d,a,b⟩:=x;refine zN func44 ntmps44 [.tmp 2] ?_;refine xw0 ?_;exact aA.new _ _
@[simp] def Qs(fn:FuncId):cN:=.box 59 1 [.fn (.func fn) []]
@[simp] def CG(fn:FuncId):cN:=.box 61 1 [.fn (.func fn) []]
def PcU(b:Nat)(st:St):Prop:=b<st.next/\st.H b=Qs 42
def PcE(b:Nat)(st:St):Prop:=b<st.next/\st.H b=CG 44
theorem Qm(b:Nat)(x y:Int)(st:St)(h:PcU b st):aB prog 76 [u x,u y,.pt b 0] st fun r st'=>r=i (U.sU ⟨x⟩ ⟨y⟩)/\aA st st':=by
 obtain⟨hb,hH⟩:=h;simp only[Qs]at hH;refine zN func76 ntmps76 [.tmp 5] ?_;refine xw0 ?_
 (refine zS [] [b] [0,2,6,8,4,10,12,14] ?_;intro J hJ;simp[hH])
 refine aO (FI x st) ?_;rintro r s1 ⟨rfl,j7⟩;have hH1:=(j7.H b hb).trans hH;refine⟨fun _=>by simp[hH1,hH],?_⟩
 (apply bL;simp[hH1,hH])
 refine aO (FI y s1) ?_;rintro r s2 ⟨rfl,u5⟩;have Q4:=(u5.H b (aAs hb j7.next)).trans hH1;refine⟨fun _=>by simp[Q4,hH],?_⟩
 (apply bL;simp[Q4,hH])
 refine aO (Lz x y s2) ?_;rintro r s3 ⟨rfl,rfl⟩;refine⟨fun _=>by simp[Q4,hH],?_⟩
 (apply bL;simp[Q4,hH];refine zJ hJ ?_)
 (repeat' (refine qR (zZ ?_);simp[U.sU]))
 exact j7.trans u5
theorem Oi(b:Nat)(x y:Int)(st:St)(h:PcU b st):aB prog 79 [u x,u y,.pt b 0] st fun r st'=>r=bb (decide (x=y))/\aA st st':=by
 obtain⟨hb,hH⟩:=h;simp only[Qs]at hH;refine zN func79 ntmps79 [.tmp 5] ?_;refine xw0 ?_
 (refine zS [] [b] [0,2,6,8,4,10,12,14] ?_;intro J hJ;simp[hH])
 refine aO (FI x st) ?_;rintro r s1 ⟨rfl,j7⟩;have hH1:=(j7.H b hb).trans hH;refine⟨fun _=>by simp[hH1,hH],?_⟩
 (apply bL;simp[hH1,hH])
 refine aO (FI y s1) ?_;rintro r s2 ⟨rfl,u5⟩;have Q4:=(u5.H b (aAs hb j7.next)).trans hH1;refine⟨fun _=>by simp[Q4,hH],?_⟩
 (apply bL;simp[Q4,hH];refine zJ hJ ?_)
 refine xw0 ?_;exact⟨by by_cases h:x=y<;>simp[h],j7.trans u5⟩
theorem Md(b:Nat)(x y:Ed)(st:St)(h:PcE b st):aB prog 81 [.ag (edL x),.ag (edL y),.pt b 0] st fun r st'=>r=i (sU x y)/\aA st st':=by
 obtain⟨hb,hH⟩:=h;obtain⟨xi,xa,xb⟩:=x;obtain⟨yi,ya,yb⟩:=y;simp only[CG]at hH;have b1:¬b=st.next:=oO;have b2:¬b=st.next+1:=oO;refine zN func81 ntmps81 [.tmp 5] ?_;refine xw0 ?_
 (refine zS [] [b,st.next,st.next+1] [0,2,6,8,4,10,12,14] ?_;intro J hJ;simp[hH,b1,b2])
 refine aO (ES ⟨xi,xa,xb⟩ _) ?_;rintro r s1 ⟨rfl,j7⟩;have I2:=j7.next;simp only[aG]at I2;have hH1:s1.H b=CG 44:=by rw[j7.H b (by simp;omega)];simp[b1,b2,hH]
 have hX1:s1.H st.next=.box 36 3 [u xi,u xa,u xb]:=by rw[j7.H _ (by simp;omega)];simp
 have hY1:s1.H (st.next+1)=.box 36 3 [u yi,u ya,u yb]:=by rw[j7.H _ sS];simp
 simp only[CG]at hH1;refine⟨fun _=>by simp[hH1,hH,hX1,hY1,b1,b2],?_⟩
 (apply bL;simp[hH1,hH,hX1,hY1])
 refine aO (ES ⟨yi,ya,yb⟩ s1) ?_;rintro r s2 ⟨rfl,u5⟩;have Q4:=(u5.H b oO).trans hH1;have hX2:=(u5.H st.next oO).trans hX1;have hY2:=(u5.H (st.next+1) oO).trans hY1;refine⟨fun _=>by simp[Q4,hH,hX2,hY2,b1,b2],?_⟩
 (apply bL;simp[Q4,hH,hX2,hY2])
 refine aO (Lz xi yi s2) ?_;rintro r s3 ⟨rfl,rfl⟩;refine⟨fun _=>by simp[Q4,hH,hX2,hY2,b1,b2],?_⟩
 (apply bL;simp[Q4,hH,hX2,hY2];refine zJ hJ ?_)
 (repeat' (refine qR (zZ ?_);simp[sU]))
 exact(((aA.new _ _).trans (aA.new _ _)).trans j7).trans u5
theorem MP(b:Nat)(x y:Ed)(st:St)(h:PcE b st):aB prog 83 [.ag (edL x),.ag (edL y),.pt b 0] st fun r st'=>r=bb (decide (x.id=y.id))/\aA st st':=by
 obtain⟨hb,hH⟩:=h;obtain⟨xi,xa,xb⟩:=x;obtain⟨yi,ya,yb⟩:=y;simp only[CG]at hH;have b1:¬b=st.next:=oO;have b2:¬b=st.next+1:=oO;refine zN func83 ntmps83 [.tmp 5] ?_;refine xw0 ?_
 (refine zS [] [b,st.next,st.next+1] [0,2,6,8,4,10,12,14] ?_;intro J hJ;simp[hH,b1,b2])
 refine aO (ES ⟨xi,xa,xb⟩ _) ?_;rintro r s1 ⟨rfl,j7⟩;have I2:=j7.next;simp only[aG]at I2;have hH1:s1.H b=CG 44:=by rw[j7.H b (by simp;omega)];simp[b1,b2,hH]
 have hX1:s1.H st.next=.box 36 3 [u xi,u xa,u xb]:=by rw[j7.H _ (by simp;omega)];simp
 have hY1:s1.H (st.next+1)=.box 36 3 [u yi,u ya,u yb]:=by rw[j7.H _ sS];simp
 simp only[CG]at hH1;refine⟨fun _=>by simp[hH1,hH,hX1,hY1,b1,b2],?_⟩
 (apply bL;simp[hH1,hH,hX1,hY1])
 refine aO (ES ⟨yi,ya,yb⟩ s1) ?_;rintro r s2 ⟨rfl,u5⟩;have Q4:=(u5.H b oO).trans hH1;have hX2:=(u5.H st.next oO).trans hX1;have hY2:=(u5.H (st.next+1) oO).trans hY1;refine⟨fun _=>by simp[Q4,hH,hX2,hY2,b1,b2],?_⟩
 (apply bL;simp[Q4,hH,hX2,hY2];refine zJ hJ ?_)
 refine xw0 ?_;exact⟨by by_cases h:xi=yi<;>simp[h],(((aA.new _ _).trans (aA.new _ _)).trans j7).trans u5⟩
theorem Vz(b q:Nat)(hbq:b≠q):U.gV 76 [.pt b 0] q (PcU b):=
 ⟨fun st st' h I3=>⟨aAs h.1 I3.1,(I3.2 b hbq h.1).trans h.2⟩,fun st x y h=>Qm b x.id y.id st h⟩
theorem XT(b q:Nat)(hbq:b≠q):gV 81 [.pt b 0] q (PcE b):=
 ⟨fun st st' h I3=>⟨aAs h.1 I3.1,(I3.2 b hbq h.1).trans h.2⟩,fun st x y h=>Md b x y st h⟩
theorem eqU(b:Nat):VF 79 [.pt b 0] (PcU b):=
 ⟨fun st st' h hk=>⟨aAs h.1 hk.next,(hk.H b h.1).trans h.2⟩,fun st x y h=>Oi b x y st h⟩
theorem eqE(b:Nat):VC 83 [.pt b 0] (PcE b):=
 ⟨fun st st' h hk=>⟨aAs h.1 hk.next,(hk.H b h.1).trans h.2⟩,fun st x y h=>MP b x y st h⟩
theorem VN(l:List Int):(l.map U.Nu.mk).map U.Nu.id=l:=by rw[aAZ];exact aEx l
theorem UL(D0:List Int)(q:Nat)(v8:FuncId)(GK:List LV)(Pc:St->Prop)(st:St)(x8:U.gV v8 GK q Pc)(M4:Pc st)(hq:q<st.next)(hl:D0.length<=100000)(hH:st.H q=.box 34 1 (us D0)):
 aB prog 75 [.ms q 0 D0.length,.fn (.func v8) GK] st fun r st'=>∃ D,D.Perm D0/\D.Pairwise (fun x y=>x<=y)/\st'.H q=.box 34 1 (us D)/\bQ q st st':=by
 have hc:=U.JC (D0.map U.Nu.mk) q D0.length v8 GK Pc st x8 M4 hq (aAD _) oO (by rw[hH];unfold U.eds;rw[VN]);refine zN func75 ntmps75 [] ?_
 (refine xj0 ?_;intro J hJ)
 refine qE hc sS ?_;rintro r s1 ⟨D,h1,h2,h3,h4⟩;refine dK hJ ?_;refine⟨trivial,D.map U.Nu.id,?_,aAU.2 h2,h3,h4⟩;have:=h1.map U.Nu.id
 rwa [VN]at this
theorem TJ(D0:List Ed)(q:Nat)(v8:FuncId)(GK:List LV)(Pc:St->Prop)(st:St)(x8:gV v8 GK q Pc)(M4:Pc st)(hq:q<st.next)(hl:D0.length<=100000)(hH:st.H q=.box 36 3 (eds D0)):
 aB prog 80 [.ms q 0 D0.length,.fn (.func v8) GK] st fun r st'=>∃ D,D.Perm D0/\Ris D/\st'.H q=.box 36 3 (eds D)/\bQ q st st':=by
 have hc:=JC D0 q _ v8 GK Pc st x8 M4 hq rfl hl hH;refine zN func80 ntmps80 [] ?_
 (refine xj0 ?_;intro J hJ)
 refine qE hc sS ?_;rintro r s1 h;refine dK hJ ?_;exact⟨trivial,h⟩
theorem Ua(l:List Ed)(t:Nat)(st:St)(hl:l.length<=1000)(hn:(l.map (·.id)).Nodup):
 aB prog 43 [.sl t l.length (eds l),.fn (.func 44) []] st fun r st'=>(∃ E:List Ed,E.Perm l/\(E.map (·.id)).Pairwise (· < ·)/\r=.sl 0 E.length (eds E))/\aA st st':=by
 refine cE ?_;have hel:=aJ l;refine zN func43 ntmps43 [.tmp 4] ?_
 (refine xj0 ?_;intro J hJ)
 refine qE (SX l t _ oO) sS ?_;rintro r s1 ⟨q,rfl,hq1,K1,S1,j7⟩;have I2:=j7.next;simp only[aG]at I2 hq1;have hF1:PcE st.next s1:=⟨oO,by rw[j7.H _ sS];simp⟩;have k1:aA st s1:=(aA.new _ _).trans j7
 (refine nJ hJ ?_;intro J hJ)
 refine qE (TJ l q _ [.pt st.next 0] (PcE st.next) s1 (XT st.next q oO) hF1 K1 oO S1) sS ?_;rintro r s2 ⟨D,hp,hr,Z5,I3⟩;have K2:=I3.1;have lD:=hp.length_eq;have hF2:=(XT st.next q oO).keep _ _ hF1 I3;have k2:aA st s2:=⟨by have:=k1.next;omega,fun l hl=>(I3.2 l oO (by have:=k1.next;omega)).trans (k1.H l hl)⟩;have dQ:(D.map (·.id)).Pairwise (· < ·):=by
  have hnd:(D.map (·.id)).Nodup:=(hp.map (·.id)).nodup_iff.2 hn;have hr2:(D.map (·.id)).Pairwise (·<=·):=by rw[aAU];exact hr
  refine(List.Pairwise.and hr2 hnd).imp fun h=>?_;have:=h.1;have:=h.2;omega
 have Zy:∀ j,j+1<D.length->(D.getD (j+1) ed0).id≠(D.getD j ed0).id:=fun j hj=>by have:=aAB.1 dQ j (j+1) (by simp;omega) (by simpa using hj) oO;simp only[aCy]at this;rw[aAg,aAg,aAh hj,aAh (by omega:j<D.length)];simp only[Option.getD_some];omega
 (refine nJ hJ ?_;intro J hJ)
 refine qE (RZ D q _ [.pt st.next 0] (PcE st.next) s2 (eqE st.next) hF2 oO Zy oO Z5) (sF1 lD) ?_;rintro r s3 ⟨rfl,o9⟩;have hB3:=(o9.H q oO).trans Z5;have helD:=aJ D;refine dK hJ ?_;exact⟨q,D.length,⟨rfl,rfl⟩,36,3,eds D,hB3,oO,⟨D,hp,dQ,rfl,by rw[aAt oO]⟩,(k2.trans o9).set oO _⟩
end Aw
namespace Aw.Cu
open Go Go.RowKit Pl Aw
def rS(c:List Int):Nat->List Int
 |0=>[]
 |k+1=>if k=0\/c.getD k 0≠c.getD (k-1) 0 then rS c k++[c.getD k 0]else rS c k
structure Rsn(c:List Int)(k:Nat)(l:List Int):Prop where
 lt:l.Pairwise (· < ·)
 mem:∀ y,y∈l↔∃ j,j<k/\c.getD j 0=y
theorem AH{c:List Int}(h:c.Pairwise (·<=·)):∀ k,k<=c.length->Rsn c k (rS c k)
 |0,_=>⟨.nil,fun y=>by simp[rS]⟩
 |k+1,hk=>by
  have ih:=AH h k oO;have u9:∀ j,j<k->c.getD j 0<=c.getD (k-1) 0:=fun j hj=>by
   rcases aAK j (k-1)with h1|h1
   .rw[aAg,aAh oO,aAg,aAh oO];exact aAB.1 h j (k-1) oO oO h1
   .obtain rfl:j=k-1:=oO;exact aCV _
  have hle2:0<k->c.getD (k-1) 0<=c.getD k 0:=fun h0=>by rw[aAg,aAh oO,aAg,aAh oO];exact aAB.1 h (k-1) k oO oO oO
  unfold rS
  split
  .rename_i h0;refine⟨?_,fun y=>?_⟩
   .rw[aCj];refine⟨ih.lt,aDh _ _,fun a ha b hb=>?_⟩;rw[aAi]at hb;subst hb;obtain⟨j,hj,rfl⟩:=(ih.mem a).1 ha;have:=u9 j hj;have:=hle2 oO;rcases h0 with h0|h0
    .omega
    .omega
   .rw[aAd,aAi,ih.mem];constructor
    .rintro(⟨j,hj,rfl⟩|rfl)
     .exact⟨j,oO,rfl⟩
     .exact⟨k,oO,rfl⟩
    .rintro⟨j,hj,rfl⟩;rcases aAK j k with h1|h1
     .exact .inl ⟨j,h1,rfl⟩
     .obtain rfl:j=k:=oO;exact .inr rfl
  .rename_i h0;refine⟨ih.lt,fun y=>?_⟩;rw[ih.mem];constructor
   .rintro⟨j,hj,rfl⟩;exact⟨j,oO,rfl⟩
   .rintro⟨j,hj,rfl⟩;rcases aAK j k with h1|h1
    .exact⟨j,h1,rfl⟩
    .obtain rfl:j=k:=oO;exact⟨j-1,oO,oO⟩
def cpt(c:List Int):List Int:=rS c c.length
theorem WG{c:List Int}(h:c.Pairwise (·<=·)):(cpt c).Pairwise (· < ·):=(AH h _ (aAl _)).lt
theorem Uk{c:List Int}(h:c.Pairwise (·<=·))(y:Int):y∈cpt c↔y∈c:=by
 unfold cpt;rw[(AH h _ (aAl _)).mem];constructor
 .rintro⟨j,hj,rfl⟩;rw[aAg,aAh hj];exact aAz _
 .intro hy;obtain⟨j,hj,rfl⟩:=aAA hy;exact⟨j,hj,by rw[aAg,aAh hj];rfl⟩
theorem zI(c:List Int):∀ k,k<=c.length->(∀ j,0<j->j<k->c.getD j 0≠c.getD (j-1) 0)->rS c k=c.take k
 |0,_,_=>rfl
 |k+1,hk,h=>by
  have ih:=zI c k oO fun j h1 h2=>h j h1 oO;have hg:c.take (k+1)=c.take k++[c.getD k 0]:=by rw[aAg,aAh oO];exact aAp oO
  unfold rS;rw[aAk,ih,hg];rcases aCs k with h0|h0
  .exact .inl h0
  .exact .inr (h k h0 oO)
theorem OX(c:List Int)(h:c.length<2):cpt c=c:=by unfold cpt;rw[zI c c.length (aAl _) fun j h1 h2=>by omega,aAN]
theorem RU(c:List Int)(q:Nat)(v8:FuncId)(GK:List LV)(Pc:St->Prop)(st:St)(heq:VF v8 GK Pc)(j5:∀ s s',Pc s->bQ q s s'->Pc s')(M4:Pc st)(hl:c.length<=100000)(hq:q<st.next)(hH:st.H q=.box 34 1 (us c)):
 aB prog 78 [.ms q 0 c.length,.fn (.func v8) GK] st fun r st'=>r=.ms q 0 (cpt c).length/\(∃ cs,st'.H q=.box 34 1 (us (cpt c)++cs))/\bQ q st st':=by
 refine zN func78 ntmps78 [.tmp 4] ?_;by_cases h2:c.length<2
 .have h2':(c.length:Int)<2:=oO;have hc:=OX c h2;rw[hc];refine xw2 h2' h2 ?_;exact⟨⟨[],by rw[hH,aBc]⟩,bQ.refl _ _⟩
 have h2':¬(c.length:Int)<2:=oO;refine xw2 h2' h2 ?_;refine qL (fun z fr st2=>∃ k:Nat,0<k/\k<=c.length/\z=c.length-k/\fr 0=.ms q 0 c.length/\fr 1=.fn (.func v8) GK/\fr 5=i k/\aA st st2/\∀ j,0<j->j<k->c.getD j 0≠c.getD (j-1) 0) (c.length-1) ?_ ?_
 .exact⟨1,oO,oO,rfl,sS,sS,sS,aA.refl _,fun j h1 h2=>by omega⟩
 rintro z fr st2 ⟨k,J8,hkl,rfl,f0,f1,f5,hks,x9⟩ JJ hJJ;by_cases dQ:k<c.length;rotate_left
 .clear hJJ;have hc:cpt c=c:=by unfold cpt;rw[zI c c.length (aAl _) fun j h1 h2=>x9 j h1 oO,aAN]
  rw[hc];refine xw3 f0 f5 dQ ?_;exact⟨⟨[],by rw[hks.H q hq,hH,aBc]⟩,(bQ.refl q st).keeps hks⟩
 obtain⟨k1,rfl⟩:∃ k1,k=k1+1:=⟨k-1,oO⟩;have hd:=qG c (k1+1) dQ;have z7:=qG c k1 oO;have w1:IntKind.i64.wrap (k1:Int)=(k1:Int):=zW;have w2':IntKind.i64.wrap ((k1:Int)+1+1)=(k1:Int)+1+1:=wrap_i64 _ oO oO;have hkl1:k1<c.length:=oO;have C7:(k1:Int)+1<c.length:=oO;have D9:c.getD (k1+1) 0≠c.getD k1 0->∀ j,0<j->j<k1+1+1->c.getD j 0≠c.getD (j-1) 0:=fun h j h1 h3=>by
  rcases aAK j (k1+1)with h4|h4
  .exact x9 j h1 h4
  .obtain rfl:j=k1+1:=oO;exact h
 have hid:=zI c (k1+1) oO x9;have I0:c.getD (k1+1) 0=c.getD k1 0->rS c (k1+1+1)=c.take (k1+1):=fun h=>by
  rw[rS,aAa,hid];rintro(h3|h3)
  .omega
  .exact h3 h
 have Q4:=(hks.H q hq).trans hH;have hPc2:=heq.1 _ _ M4 hks;have hc:=heq.2 st2 (c.getD (k1+1) 0) (c.getD k1 0) hPc2;generalize hx:c.getD (k1+1) 0=x at *;generalize hy:c.getD k1 0=y at *;refine xw4 f0 f5 dQ C7 ?_
 (refine zS [] [q] [0,2,4,6,8,10,12,14,16,18,21] ?_;intro J hJ;simp[f0,f1,f5,dQ,C7,hd,z7,w1,hkl1,Q4];(repeat refine ca ?_))
 refine aO hc ?_;rintro r s3 ⟨rfl,o9⟩;have hH3:=(o9.H q (aAs hq hks.next)).trans Q4;have hPc3:=heq.1 _ _ hPc2 o9;have hk13:=hks.trans o9;refine⟨fun _=>by simp[hH3,Q4],?_⟩
 (apply bL;simp[hH3,Q4];refine zJ hJ ?_)
 by_cases D4:x=y;rotate_left
 .refine xw3 f5 w2' D4 ?_;exact hJJ (c.length-(k1+1+1)) _ _ oO ⟨k1+1+1,oO,oO,rfl,sF1 f0,sF1 f1,sS,hk13,D9 D4⟩
 clear hJJ D9;have I0:=I0 D4;clear w2' hid x9 hc;refine FU f0 f5 dQ C7 hd z7 w1 hkl1 D4 hH3 ?_;refine qL (fun z fr s=>∃(p w:Nat) (d:List Int),k1+1+(p+1)<=c.length/\z=c.length-(k1+1+(p+1))/\w=(rS c (k1+1+(p+1))).length/\w<=k1+1+p/\fr 0=.ms q 0 c.length/\fr 1=.fn (.func v8) GK/\fr 5=i w/\fr 6=.ms q (k1+1) (c.length-(k1+1))/\fr 7=i (p+1:Nat)/\d.length=c.length/\d.take w=rS c (k1+1+(p+1))/\d.drop (k1+1+p)=c.drop (k1+1+p)/\s.H q=.box 34 1 (us d)/\Pc s/\bQ q st s) (c.length-(k1+1+1)) ?_ ?_
 .refine⟨0,k1+1,c,oO,oO,by rw[I0];simp;omega,oO,sF1 f0,sF1 f1,sF1 f5,sS,sS,rfl,I0.symm,rfl,hH3,hPc3,(bQ.refl q st).keeps hk13⟩
 clear hd z7 w1 C7 hx hy D4 I0 f0 f1 f5 fr hH3 hPc3 hk13 o9 Q4 hPc2 hks s3 st2;rintro z fr s ⟨p,w,d,M8,rfl,hw,hwl,f0,f1,f5,f6,f7,Y0,X6,hdd,hsH,hPs,I3⟩ JJ hJJ;by_cases U5:k1+1+(p+1)<c.length
 .have e1:∀ j,k1+1+p<=j->d.getD j 0=c.getD j 0:=fun j hj=>by
   have h1:(d.drop (k1+1+p)).getD (j-(k1+1+p)) 0=(c.drop (k1+1+p)).getD (j-(k1+1+p)) 0:=by rw[hdd]
   simp only[aAg,aDf]at h1 ⊢;rw[show k1+1+p+(j-(k1+1+p))=j by omega]at h1;exact h1
  have hd:=qG d (k1+1+(p+1)) oO;have z7:=qG d (k1+1+p) oO;rw[e1 _ oO]at hd;rw[e1 _ oO]at z7;have E3:rS c (k1+1+(p+1)+1)=if c.getD (k1+1+(p+1)) 0≠c.getD (k1+1+p) 0 then rS c (k1+1+(p+1))++[c.getD (k1+1+(p+1)) 0]else rS c (k1+1+(p+1)):=by
   rw[rS,show k1+1+(p+1)-1=k1+1+p by omega];by_cases h:c.getD (k1+1+(p+1)) 0≠c.getD (k1+1+p) 0
   .rw[aAk (.inr h),aAk h]
   .rw[aAa (by rintro(h1|h1);omega;exact h h1),aAa h]
  have hdd2:d.drop (k1+1+(p+1))=c.drop (k1+1+(p+1)):=by
   have h1:(d.drop (k1+1+p)).drop 1=(c.drop (k1+1+p)).drop 1:=by rw[hdd]
   rwa [aCx,aCx,show k1+1+p+1=k1+1+(p+1) by omega]at h1
  have w1:IntKind.i64.wrap (p:Int)=(p:Int):=zW;have w2:IntKind.i64.wrap ((p:Int)+1+1)=(p:Int)+1+1:=zW;have w3:=qN w oO;have hA:p+1<c.length-(k1+1):=oO;have hA':(p:Int)+1<(c.length-(k1+1):Nat):=oO;have hB:p<c.length-(k1+1):=oO;have hW:w<c.length:=oO;have hc:=heq.2 s (c.getD (k1+1+(p+1)) 0) (c.getD (k1+1+p) 0) hPs;generalize c.getD (k1+1+(p+1)) 0=x at *;generalize c.getD (k1+1+p) 0=y at *;refine xw6 f0 f5 f6 f7 hA hA' ?_
  (refine zS [] [q] [0,2,4,6,8,10,12,14,16,18,21,22] ?_;intro J hJ;simp[f0,f1,f5,f6,f7,hA,hA',hB,hd,z7,w1,Y0,hsH];(repeat refine ca ?_))
  refine aO hc ?_;rintro r s3 ⟨rfl,o9⟩;have hqs:q<s.next:=aAs hq I3.1;have hH3:=(o9.H q hqs).trans hsH;have hP3:=heq.1 _ _ hPs o9;have hof3:=I3.keeps o9;refine⟨fun _=>by simp[hH3,hsH],?_⟩
  (apply bL;simp[hH3,hsH];refine zJ hJ ?_)
  by_cases D4:x=y
  .rw[aAa (fun h=>h D4)]at E3;refine xw5 f5 f6 f7 w2 D4 ?_;refine hJJ (c.length-(k1+1+(p+1+1))) _ _ oO ⟨p+1,w,d,oO,rfl,?_,oO,sF1 f0,sF1 f1,sF1 f5,sF1 f6,sS,Y0,?_,hdd2,hH3,hP3,hof3⟩
   .rw[show k1+1+(p+1+1)=k1+1+(p+1)+1 by omega,E3];exact hw
   .rw[show k1+1+(p+1+1)=k1+1+(p+1)+1 by omega,E3];exact X6
  .rw[aAk D4]at E3;have U3:=FA d w x oO;refine PO f0 f5 f6 f7 hA hA' hB hd z7 w1 w2 w3 Y0 D4 hW hH3 ?_;refine hJJ (c.length-(k1+1+(p+1+1))) _ _ oO ⟨p+1,w+1,d.set w x,oO,rfl,?_,oO,sF1 f0,sF1 f1,sS,sF1 f6,sS,sF1 Y0,?_,?_,?_,?_,?_⟩
   .rw[show k1+1+(p+1+1)=k1+1+(p+1)+1 by omega,E3,aAm,<- hw];rfl
   .rw[show k1+1+(p+1+1)=k1+1+(p+1)+1 by omega,E3,Oa d w x oO,X6]
   .rw[show k1+1+(p+1)=k1+1+p+1 by omega,set_drop d w (k1+1+p) x oO];rw[show k1+1+p+1=k1+1+(p+1) by omega];exact hdd2
   .simp[U3]
   .exact j5 _ _ hP3 ((bQ.refl q _).set _)
   .exact hof3.set _
 clear hJJ;have N9:k1+1+(p+1)=c.length:=oO;rw[N9]at hw X6;have hcw:(cpt c).length=w:=hw.symm;have hct:d.take w=cpt c:=X6;have hA:¬p+1<c.length-(k1+1):=oO;have hA':¬(p:Int)+1<(c.length-(k1+1):Nat):=oO;have hW:w<=c.length:=oO;rw[hcw,<- hct];refine xw9 f0 f5 f6 f7 hA hA' Y0 hW hsH ?_;exact I3.set _
end Aw.Cu
namespace Aw
open Go Go.RowKit Pl
def vS(x:Int):List Int->List Int
 |[]=>[x]
 |y::l=>if x<y then x::y::l else if y<x then y::vS x l else y::l
theorem oK(x z:Int):∀ l:List Int,z∈vS x l↔z=x\/z∈l
 |[]=>by simp[vS]
 |y::l=>by
  unfold vS
  split
  .simp
  .split
   .simp only[aAe,oK x z l]
    grind
   grind
theorem yT(x:Int):∀ l:List Int,l.Pairwise (· < ·)->(vS x l).Pairwise (· < ·)
 |[],_=>by simp[vS]
 |y::l,h=>by
  obtain⟨h1,h2⟩:=aBl.1 h;unfold vS
  split
  .grind [List.pairwise_cons]
  .split
   .refine aBl.2 ⟨fun z hz=>?_,yT x l h2⟩
    grind [oK]
   omega
def vsF:List Ed->List Int
 |[]=>[]
 |e::E=>vS e.a (vS e.b (vsF E))
theorem mC:∀ E,(vsF E).Pairwise (· < ·)
 |[]=>.nil
 |e::E=>yT _ _ (yT _ _ (mC E))
theorem bG(v:Int):∀ E,v∈vsF E↔∃ e∈E,v=e.a\/v=e.b
 |[]=>by simp[vsF]
 |e::E=>by
  unfold vsF;rw[oK,oK,bG v E]
  grind
def fN(E:List Ed):List Int:=E.flatMap fun e=>[e.a,e.b]
theorem wT(E:List Ed):(fN E).length=E.length*2:=by
 induction E with
 |nil=>rfl
 |cons e E ih=>grind [fN]
theorem Mc(v:Int)(E:List Ed):v∈fN E↔∃ e∈E,v=e.a\/v=e.b:=by simp[fN]
theorem JN(E:List Ed)(k:Nat)(hk:k<E.length):fN (E.take (k+1))=fN (E.take k)++[(E.getD k ed0).a,(E.getD k ed0).b]:=by
 grind [List.take_succ_eq_append_getElem,fN]
theorem Sr(l:List Int)(t:Nat)(st:St)(hl:l.length<=1000):
 aB prog 41 [.sl t l.length (us l),.fn (.func 42) []] st fun r st'=>(∃ V:List Int,V.Pairwise (· < ·)/\(∀ v,v∈V↔v∈l)/\r=.sl 0 V.length (us V))/\aA st st':=by
 refine cE ?_;refine zN func41 ntmps41 [.tmp 4] ?_
 (refine xj0 ?_;intro J hJ)
 refine qE (Es l t _ oO) sS ?_;rintro r s1 ⟨q,rfl,hq1,K1,S1,j7⟩;have I2:=j7.next;simp only[aG]at I2 hq1;have hF1:PcU st.next s1:=⟨oO,by rw[j7.H _ sS];simp⟩;have k1:aA st s1:=(aA.new _ _).trans j7
 (refine nJ hJ ?_;intro J hJ)
 refine qE (UL l q _ [.pt st.next 0] (PcU st.next) s1 (Vz st.next q oO) hF1 K1 oO S1) sS ?_;rintro r s2 ⟨D,hp,hr,Z5,I3⟩;have K2:=I3.1;have lD:=hp.length_eq;have hF2:=(Vz st.next q oO).keep _ _ hF1 I3;have k2:aA st s2:=⟨oO,fun l hl=>(I3.2 l oO oO).trans (k1.H l hl)⟩;have V6:=Cu.WG hr;have hc2:=fun v=>Cu.Uk hr v
 (refine nJ hJ ?_;intro J hJ)
 refine qE (Cu.RU D q _ [.pt st.next 0] (PcU st.next) s2 (eqU st.next) (Vz st.next q oO).keep hF2 oO oO Z5) (sF1 lD) ?_;rintro r s3 ⟨rfl,⟨cs,hB3⟩,hof3⟩;have k3:aA st s3:=⟨by have:=k2.next;have:=hof3.1;omega,fun l hl=>(hof3.2 l oO oO).trans (k2.H l hl)⟩;generalize Cu.cpt D=V at *;refine dK hJ ?_;exact⟨q,V.length,⟨rfl,rfl⟩,34,1,us V++cs,hB3,sS,⟨V,V6,fun v=>(hc2 v).trans hp.mem_iff,rfl,by grind⟩,k3.set oO _⟩
theorem Xx(es:List Ed)(t1 t2:Nat)(st:St)(he:es.length<=200)(hen:es.Pairwise fun x y=>x.id<y.id):
 aB prog 18 [.sl t1 (fN es).length (us (fN es)),.sl t2 es.length (eds es)] st fun r st'=>r=.ag (grL ⟨vsF es,es⟩)/\aA st st':=by
 have hel:=wT es;have hm:(es.map (·.id)).Pairwise (· < ·):=by rw[aAU];exact hen
 refine zN func18 ntmps18 [.cell 4 25] ?_
 (refine xj0 ?_;intro J hJ)
 refine qE (Sr (fN es) t1 _ oO) sS ?_;rintro r s1 ⟨⟨V,hV1,hV2,rfl⟩,j7⟩;have hV:V=vsF es:=yU id (by grind) (by grind [mC]) fun v=>by grind [Mc,bG]
 subst hV;have I2:=j7.next;simp only[aG]at I2;have O2:s1.H st.next=.box 25 2 [.nil,.nil]:=by rw[j7.H _ sS];simp
 refine dK hJ ?_;refine qE (Ua es t2 _ oO (hm.imp fun h=>by omega)) sS ?_;rintro r s2 ⟨⟨E,hE1,hE2,rfl⟩,u5⟩;have hE:=yU (·.id) hE2 hm fun x=>hE1.mem_iff;subst hE;have K2:=u5.next;have hG2:=(u5.H st.next oO).trans O2;refine rR hJ hG2 ?_;exact(((aA.new _ _).trans j7).trans u5).set oO _
def Ls(g:Gr)(h:Sh)(at':Nat)(w:List Int):Prop:=at' < h.F.length/\2<=w.length/\w.length<=200/\(∀ v∈w,v∈g.vs)/\(h.F.getD at' []).length<=1000/\w.getD 0 0∈h.F.getD at' []/\w.getD (w.length-1) 0∈h.F.getD at' []/\h.F.length<300
instance (g:Gr) (h:Sh) (a:Nat) (w:List Int):Decidable (Ls g h a w):=by unfold Ls;infer_instance
def xY(g:Gr)(h:Sh):Option (Option Sh):=(Nh g h.L h.on).bind fun B=>
 if(∀ b∈B,∀ v∈b.ends,v∈g.vs)/\B.length<=300/\∀ v∈(bJ h.F B (⟨[],[]⟩,-1)).1.ends,v∈g.vs then
  if(bJ h.F B (⟨[],[]⟩,-1)).2<0 then some none
  else(NN g (bJ h.F B (⟨[],[]⟩,-1)).1).bind fun w=>if Ls g h (bJ h.F B (⟨[],[]⟩,-1)).2.toNat w then some (some (gJ h w (bJ h.F B (⟨[],[]⟩,-1)).2.toNat))else none
 else none
def pS(g:Gr):Nat->Sh->Option (Option Sh)
 |0,_=>none
 |n+1,h=>if h.L.length<g.es.length then(xY g h).bind fun o=>match o with
   |none=>some none
   |some h'=>pS g n h'
  else some (some h)
def pM(E:List Ed):Option (Option (List (List Int))):=
 match E with
 |[e]=>some (some [[e.a,e.b]])
 |E=>if(vsF E).length<=64/\E.length<=200 then
   if(3:Int)*(vsF E).length-6<E.length then some none
   else(newF ⟨vsF E,E⟩).bind fun h=>(pS ⟨vsF E,E⟩ 1000 h).map fun o=>o.map (·.F)
  else none
structure DrE(E:List Ed):Prop where
 ids:E.Pairwise (fun x y=>x.id<y.id)
 pos:∀ x∈E,1<=x.id/\x.id<=1048576
 ne:∀ x∈E,x.a≠x.b
theorem DrE.gp{E:List Ed}(h:DrE E)(h1:(vsF E).length<=64)(h2:E.length<=200):GP ⟨vsF E,E⟩:=
 ⟨⟨⟨mC E,fun x hx=>⟨(bG _ _).2 ⟨x,hx,.inl rfl⟩,(bG _ _).2 ⟨x,hx,.inr rfl⟩⟩⟩,h.ids,h.pos,h.ne⟩,h1,(by grind)⟩
end Aw
namespace Aw
open Go Go.RowKit Pl Eu
def lnk:List Int->List (Int×Int)
 |x::y::l=>(x,y)::lnk (y::l)
 |_=>[]
def prs(r:List Int):List (Int×Int):=lnk (r++r.take 1)
theorem eX(x:Int)(B:List Int):∀ A,lnk (A++x::B)=lnk (A++[x])++lnk (x::B)
 |[]=>by simp[lnk]
 |[a]=>by simp[lnk]
 |a::b::A=>by have:=eX x B (b::A);simp only[List.cons_append,lnk]at this ⊢;rw[this]
theorem FK:∀ l,lnk l.reverse=((lnk l).map Prod.swap).reverse
 |[]=>rfl
 |[a]=>rfl
 |a::b::l=>by have h:=FK (b::l);rw[aCL,aCL,aAE,List.singleton_append,eX b [a] l.reverse,<- aCL,h];simp[lnk]
theorem nS(l:List Int):(lnk l.reverse).Perm ((lnk l).map Prod.swap):=by rw[FK];exact aBo _
theorem zP:∀ l:List Int,(lnk l).length=l.length-1
 |[]=>rfl
 |[_]=>rfl
 |a::b::l=>by have:=zP (b::l);simp only[lnk,List.length_cons]at this ⊢;omega
theorem eC:∀ w:List Int,iB w=(lnk w).map fun p=>prP p.1 p.2
 |[]=>rfl
 |[_]=>rfl
 |a::b::l=>by rw[iB,eC (b::l)];rfl
theorem bF:∀ {l:List Int} {x y:Int},(x,y)∈lnk l->x∈l/\y∈l
 |[],_,_,h=>by cases h
 |[_],_,_,h=>by cases h
 |a::b::l,x,y,h=>by
  rcases aAe.1 h with e|h
  .injection e with e1 e2;subst e1;subst e2;simp
  .have:=bF h;exact⟨aAc _ this.1,aAc _ this.2⟩
theorem dF:∀ {l:List Int},l.Nodup->(lnk l).Nodup/\∀ x y,(x,y)∈lnk l->x≠y/\(y,x)∉lnk l
 |[],_=>⟨.nil,fun _ _ h=>by cases h⟩
 |[_],_=>⟨.nil,fun _ _ h=>by cases h⟩
 |a::b::l,h=>by
  obtain⟨h1,h2⟩:=aAq.1 h;obtain⟨k1,k2⟩:=dF h2;have x7:a≠b:=fun e=>h1 (by rw[e];simp);refine⟨aAq.2 ⟨fun hm=>h1 (bF hm).1,k1⟩,fun x y hm=>?_⟩;rcases aAe.1 hm with e|hm
  .injection e with e1 e2;subst e1;subst e2;refine⟨x7,fun hm=>?_⟩;rcases aAe.1 hm with e|hm
   .injection e with e1 e2;exact x7 e2
   .exact h1 (bF hm).2
  .refine⟨(k2 x y hm).1,fun hm2=>?_⟩;rcases aAe.1 hm2 with e|hm2
   .injection e with e1 e2;exact h1 (by rw[<- e1];exact(bF hm).2)
   .exact(k2 x y hm).2 hm2
theorem uV(u v:Int)(A Q:List Int):∀ P:List Int,(prs (P++u::(A++v::Q))).Perm (lnk (u::(A++[v]))++lnk (v::(Q++(P++[u]))))
 |[]=>by
  have e:prs (u::(A++v::Q))=lnk ((u::A)++v::(Q++[u])):=by unfold prs;simp
  rw[List.nil_append,e,eX];simp
 |p::P=>by
  have e:prs (p::P++u::(A++v::Q))=lnk ((p::P)++u::(A++v::(Q++[p]))):=by unfold prs;simp
  have e2:lnk (u::(A++v::(Q++[p])))=lnk ((u::A)++v::(Q++[p])):=sS;have e3:lnk (v::(Q++(p::P++[u])))=lnk ((v::Q)++p::(P++[u])):=sS;rw[e,eX u _ (p::P),e2,eX v _ (u::A),e3,eX p _ (v::Q)];simp only[List.cons_append];refine(aBp).trans ?_;rw[aAE]
def Rt(l l':List Int):Prop:=∃ a b,l=a++b/\l'=b++a
theorem Rt.trans{l m n:List Int}(h:Rt l m)(k:Rt m n):Rt l n:=by
 obtain⟨a,b,rfl,rfl⟩:=h;obtain⟨c,d,e,rfl⟩:=k;rcases aCZ.1 e with⟨z,g1,g2⟩|⟨z,g1,g2⟩
 .exact⟨z,d++b,by rw[g2];simp,by rw[g1];simp⟩
 .exact⟨a++c,z,by rw[g1];simp,by rw[g2];simp⟩
theorem Lh{r:List Int}{i j:Nat}(hij:i<j)(hj:j<r.length):∃ A B,iS r i j=r.getD i 0::(A++[r.getD j 0])/\iS r j i=r.getD j 0::(B++[r.getD i 0])/\(prs r).Perm (lnk (r.getD i 0::(A++[r.getD j 0]))++lnk (r.getD j 0::(B++[r.getD i 0])))/\Rt r (r.getD i 0::(A++r.getD j 0::B)):=by
 have e1:r=r.take i++r.getD i 0::r.drop (i+1):=by rw[aAg,aAh oO,Option.getD_some,<- aAL oO,aAG]
 have e2:r.drop (i+1)=(r.drop (i+1)).take (j-i-1)++r.getD j 0::r.drop (j+1):=by
  conv=>lhs;rw[<- aAG (j-i-1) (r.drop (i+1))]
  rw[aCx,show i+1+(j-i-1)=j by omega,aAg,aAh hj,Option.getD_some,<- aAL hj]
 have hP:(r.take i).length=i:=by rw[aAv];omega
 have hA:((r.drop (i+1)).take (j-i-1)).length=j-i-1:=by rw[aAv,aAO];omega
 have hl:r.length=i+1+(j-i-1)+1+(r.drop (j+1)).length:=by rw[aAO];omega
 rw[e2]at e1;generalize r.take i=P at *;generalize (r.drop (i+1)).take (j-i-1)=A at *;generalize r.drop (j+1)=Q at *;generalize r.getD i 0=u at *;generalize r.getD j 0=v at *;refine⟨A,Q++P,?_,?_,?_,P,u::(A++v::Q),e1,sS⟩
 .unfold iS uH;rw[aAk oO,e1,aAE,aDC oO,aCK oO,List.nil_append,List.cons_append,List.take_succ_cons]
  congr 1
  rw[aAE,List.cons_append,aCq,aAt oO,hA,show j-i-(j-i-1)=1 by omega];rfl
 .unfold iS uH;rw[aAa oO,hl];have e:(r++r).drop j=v::(Q++(P++u::(A++v::Q))):=by
   conv=>lhs;rw[e1]
   have:(P++u::(A++v::Q))++(P++u::(A++v::Q))=(P++u::A)++(v::(Q++(P++u::(A++v::Q)))):=sS;rw[this,aDC (by simp;omega),aCK (by simp;omega),List.nil_append]
  rw[e,show i+(i+1+(j-i-1)+1+Q.length)-j+1=(Q.length+(P.length+1))+1 by omega,List.take_succ_cons]
  congr 1
  rw[aCq,aAt oO,show Q.length+(P.length+1)-Q.length=P.length+1 by omega,aCq,aAt oO,show P.length+1-P.length=1 by omega];simp
 .have:=uV u v A Q P;rw[<- e1]at this;simpa using this
theorem pE{r:List Int}{i j:Nat}(hij:i≠j)(hi:i<r.length)(hj:j<r.length):∃ A B,iS r i j=r.getD i 0::(A++[r.getD j 0])/\iS r j i=r.getD j 0::(B++[r.getD i 0])/\(prs r).Perm (lnk (r.getD i 0::(A++[r.getD j 0]))++lnk (r.getD j 0::(B++[r.getD i 0])))/\Rt r (r.getD i 0::(A++r.getD j 0::B)):=by
 rcases Nat.lt_or_gt_of_ne hij with h|h
 .exact Lh h hj
 .obtain⟨A,B,h1,h2,h3,h4⟩:=Lh h hi;exact⟨B,A,h2,h1,h3.trans aBp,h4.trans ⟨r.getD j 0::A,r.getD i 0::B,sS,sS⟩⟩
theorem UD{r w:List Int}(hw:2<=w.length)(Zy:w.getD 0 0≠w.getD (w.length-1) 0)(h1:w.getD 0 0∈r)(h2:w.getD (w.length-1) 0∈r):
 ∃ a b,a≠[]/\b≠[]/\(prs r).Perm (a++b)/\prs (iS r (r.idxOf (w.getD 0 0)) (r.idxOf (w.getD (w.length-1) 0))++(dA w).reverse)=a++lnk w.reverse/\prs (iS r (r.idxOf (w.getD (w.length-1) 0)) (r.idxOf (w.getD 0 0))++dA w)=b++lnk w:=by
 have ew:w=w.getD 0 0::(dA w++[w.getD (w.length-1) 0]):=by
  have hl:w.length-1<w.length:=oO;have a1:w=w.getD 0 0::w.drop 1:=by
   cases w with
   |nil=>simp at hw
   |cons x w=>rfl
  have a2:w.drop 1=dA w++[w.getD (w.length-1) 0]:=by
   have e3:w.drop (w.length-1+1)=[]:=aCK oO;unfold dA
   conv=>lhs;rw[<- aAG (w.length-2) (w.drop 1)]
   rw[aCx,show 1+(w.length-2)=w.length-1 by omega,aAg,aAh hl,Option.getD_some,aAL hl,e3]
  rw[<- a2];exact a1
 have i1:=aAR h1;have i2:=aAR h2;have g1:r.getD (r.idxOf (w.getD 0 0)) 0=w.getD 0 0:=by rw[aAg,aAh i1,Option.getD_some,aBA]
 have g2:r.getD (r.idxOf (w.getD (w.length-1) 0)) 0=w.getD (w.length-1) 0:=by rw[aAg,aAh i2,Option.getD_some,aBA]
 have hij:r.idxOf (w.getD 0 0)≠r.idxOf (w.getD (w.length-1) 0):=fun e=>Zy (by rw[<- g1,e,g2]);obtain⟨A,B,q1,q2,q3,_⟩:=pE hij i1 i2;rw[g1,g2]at q1 q2 q3;rw[q1,q2];generalize w.getD 0 0=u at *;generalize w.getD (w.length-1) 0=v at *;generalize dA w=M at *;refine⟨_,_,?_,?_,q3,?_,?_⟩
 .intro e;have:=congrArg List.length e;rw[zP]at this;simp at this
 .intro e;have:=congrArg List.length e;rw[zP]at this;simp at this
 .have e:prs (u::(A++[v])++M.reverse)=lnk ((u::A)++v::(M.reverse++[u])):=by unfold prs;simp
  have e2:w.reverse=v::(M.reverse++[u]):=by rw[ew];simp
  rw[e,eX,e2];simp
 .have e:prs (v::(B++[u])++M)=lnk ((v::B)++u::(M++[v])):=by unfold prs;simp
  rw[e,eX]
  conv=>rhs;rw[ew]
  simp
end Aw
namespace Aw
open Go Go.RowKit Pl
def drR:Option (List (List Int))->LV
 |none=>.tu [.sl 0 0 [],bb false]
 |some F=>.tu [.sl 0 F.length (fF F),bb true]
theorem XW{E:List Ed}(hE:DrE E){o:Option (List (List Int))}(ho:pM E=some o)(st:St)(E0:0<st.next):
 aB prog 61 [.sl 0 E.length (eds E)] st fun r st'=>r=drR o/\aA st st':=by
 refine eR ?_;have hel:=aJ E;by_cases h1:E.length=1
 .obtain⟨⟨e1,ea,eb⟩,rfl⟩:∃ e,E=[e]:=aDo.1 h1;have:o=some [[ea,eb]]:=by have:some (some [[ea,eb]])=some o:=ho;exact(aBj this).symm
  subst this;have hd:eds [(⟨e1,ea,eb⟩:Ed)]=[u e1,u ea,u eb]:=rfl;refine zN func61 ntmps61 [.tmp 2,.tmp 3] ?_;refine xw1 hd ?_
  (refine zS [] [] [0,2,4,6,8,10,12,14,17,18,20,22] ?_;intro J hJ;simp[hd];(refine zJ hJ ?_;clear hJ J))
  refine xw0 ?_;exact⟨by simp[z0,z0L,drR,fF],(aA.new _ _).trans (aA.new _ _)⟩
 have hb1:((E.length:Int)==1)=false:=by rw[aCW];omega
 have ho2:(if(vsF E).length<=64/\E.length<=200 then
  if(3:Int)*(vsF E).length-6<E.length then some none
  else(newF ⟨vsF E,E⟩).bind fun h=>(pS ⟨vsF E,E⟩ 1000 h).map fun o=>o.map (·.F)
  else none)=some o:=by
  rcases E with _|⟨e,_|⟨e2,E⟩⟩
  .exact ho
  .simp at h1
  .exact ho
 clear ho
 split at ho2
 case isFalse=>cases ho2
 rename_i hq;obtain⟨hq1,K1⟩:=hq;have hg:=hE.gp hq1 K1;have U9:=wT E;refine zN func61 ntmps61 [.tmp 2,.tmp 3] ?_;refine xw1 hb1 ?_;refine kD 4 34 1 sS ?_;have e0:¬st.next=0:=oO;refine aY 29 28 30 40 (E.length) (fun j fr st2=>fr 0=.sl 0 E.length (eds E)/\fr 27=.sl 0 E.length (eds E)/\aA st st2/\∃ t,fr 4=.sl t (fN (E.take j)).length (us (fN (E.take j)))/\Ef t 34 1 (fN (E.take j)).length st st2) ?_ ?_ ?_
 .exact⟨sS,sS,aA.new _ _,st.next,by simp[fN],e0,aAl _,sS,by simp[fN]⟩
 .rintro j fr s dQ ⟨f0,f27,j5,t,f4,a1,a2,a3,a4⟩ fi fn JO hJO;have hd:=aP E j dQ;have o9:j*3<E.length*3:=oO;have C9:=JN E j dQ;have hFl:=wT (E.take j);rw[aAv]at hFl;generalize E.getD j ed0=x at *;generalize fN (E.take j)=F at *;obtain⟨d,a,b⟩:=x;simp only at C9;have c1:¬t=s.next:=oO;have c1b:¬t=s.next+1:=oO;have c4:¬s.next=t:=oO;have c5:¬s.next+1=t:=oO
  (repeat' (first|apply qS|(refine zE ?_;intro J hJ;simp[f4,f27,fi,fn,hd,hel,o9,dQ,a4,a1,c1,c1b,c4,c5];(repeat refine ca ?_);(refine zJ hJ ?_;clear hJ J))))
  refine hJO _ _ (sF1 fi) (sF1 fn) ⟨sF1 f0,sF1 f27,?_,s.next+2,by rw[C9];simp,oO,oO,sS,by rw[C9];simp⟩;exact(((j5.trans (aA.new _ _)).trans (aA.new _ _)).set a2 _).trans (aA.new _ _)
 .rintro fr s ⟨f0,f27,j5,t,f4,a1,a2,a3,a4⟩;rw[aAN]at f4 a4
  (refine xj2 f0 f4 ?_;intro J hJ)
  refine qE (Xx E t 0 s K1 hE.ids) sS ?_;rintro r s1 ⟨rfl,j7⟩;have j7:=j5.trans j7;have w1:IntKind.i64.wrap (3*((vsF E).length:Int))=3*((vsF E).length:Int):=zW;have w2:IntKind.i64.wrap (3*((vsF E).length:Int)-6)=3*((vsF E).length:Int)-6:=zW;have hel2:=aJ E;by_cases hc:(3:Int)*(vsF E).length-6<E.length
  .rw[aAk hc]at ho2;obtain rfl:none=o:=aBj ho2;refine nR hJ w1 w2 hc ?_;exact⟨by simp[z0,z0L,drR],j7.trans (aA.new _ _)⟩
  rw[aAa hc]at ho2;have u5:=j7.trans (aA.new s1 (.box 25 2 (grL ⟨vsF E,E⟩)));have hG:(s1.new (.box 25 2 (grL ⟨vsF E,E⟩))).H s1.next=.box 25 2 (grL ⟨vsF E,E⟩):=sS;obtain⟨h,hh,ho3⟩:=aBu.1 ho2;obtain⟨o2,U5,ho4⟩:=aBe.1 ho3
  (refine ZN hJ w1 w2 hc ?_;intro J hJ)
  refine qE (PS hg hh _) sS ?_;rintro r s2 ⟨S,nl,pl,ll,fl,le,rfl,hS,⟨b1,b2,b3⟩,o9⟩;have hG2:s2.H s1.next=.box 25 2 (grL ⟨vsF E,E⟩):=by rw[o9.H _ sS];exact hG
  have I2:=j7.next;simp only[aG]at b1 b2 b3;have u5:=u5.trans o9;refine dK hJ ?_;refine qL (fun n fr st2=>∃ h fl le,pS ⟨vsF E,E⟩ n h=some o2/\fr 7=.pt s1.next 0/\fr 8=.pt S 0/\ShA ⟨vsF E,E⟩ h.L h.on h.F S nl pl ll fl le st2/\s1.next<S/\s1.next<ll/\s1.next<fl/\st2.H s1.next=.box 25 2 (grL ⟨vsF E,E⟩)/\aA st st2) 1000 ?_ ?_
  .exact⟨h,fl,le,U5,sS,sS,hS,oO,oO,oO,hG2,u5⟩
  clear hS hG2 u5 o9 U5 hG f0 f27 f4 fr b1 b2 b3 hh ho2 ho3 h;rintro n fr s3 ⟨h,fl,le,U5,f7,f8,hS,b1,b2,b3,hG,hk⟩ JJ hJJ;obtain _|n:=n
  .cases U5
  have G2:=hS.r.box;have hsl:=hS.r.lt;have hL:=hS.r.lin;have hkl:le.length=h.L.length:=by rw[<- aAD (f:=(·.1)),hS.r.key,aAD]
  unfold pS at U5;by_cases dQ:h.L.length<E.length
  .rw[aAk dQ]at U5;have C7:((le.length:Nat):Int)<E.length:=oO;obtain⟨so,hso,U5⟩:=aBu.1 U5;unfold xY at hso;obtain⟨B,hB,hso⟩:=aBu.1 hso
   split at hso
   case isFalse=>cases hso
   rename_i hc;obtain⟨V6,hc2,hc3⟩:=hc
   (refine xj6 f7 f8 G2 hL hG C7 ?_;intro J hJ)
   refine xcP (Ur hg hS hB V6 hc2) ?_;generalize bJ h.F B (⟨[],[]⟩,-1)=ch at *;obtain⟨b,at'⟩:=ch;simp only at hso hc3;by_cases D7:at' < 0
   .rw[aAk D7]at hso;obtain rfl:none=so:=aBj hso;simp only at U5;obtain rfl:none=o2:=aBj U5;obtain rfl:none=o:=ho4;refine rR hJ D7 ?_;exact⟨by simp[z0,z0L,drR],hk.trans (aA.new _ _)⟩
   rw[aAa D7]at hso;obtain⟨w,hw,hso⟩:=aBu.1 hso
   split at hso
   case isFalse=>cases hso
   rename_i hlay;obtain⟨y1,y2,y3,y4,y5,y6,y7,y8⟩:=hlay;obtain rfl:=aBj hso;simp only at U5;obtain⟨at',rfl⟩:∃ k:Nat,at'=(k:Int):=⟨at'.toNat,oO⟩;simp only[Int.toNat_natCast]at *;have hneg':¬(at':Int)<0:=oO
   (refine Ij hJ hneg' f8 ?_;intro J hJ)
   have F5:=aA.new s3 (.box 138 2 [wv (mk (vsF E) b.inner),wv (mk (vsF E) b.ends)]);refine xcP (Zx hg (hS.keep F5) hc3 hw) ?_ (by simp[Sa]);refine dK hJ ?_;refine qE (B4 hg (hS.keep F5) y1 y2 y3 y4 y5 y6 y7 y8 sS) sS ?_;rintro r s4 ⟨fl2,le2,hS4,T6,hkm⟩;have hkn:=hkm.next;simp only[aG]at hkn T6;have hk34:=hkm.H
   have hKK:aA st s4:=⟨by have:=hk.next;omega,fun l hl=>by
    have:=hk.next;rw[hk34 l (by simp;omega) (by simp;omega),bY,aAa oO]
    exact hk.H l hl⟩
   have hG4:s4.H s1.next=.box 25 2 (grL ⟨vsF E,E⟩):=by rw[hk34 _ (by simp;omega) (by simp;omega),bY,aAa oO];exact hG
   refine dK hJ ?_;refine hJJ n _ _ oO ⟨gJ h w at',fl2,le2,U5,sF1 f7,sF1 f8,hS4,oO,oO,oO,hG4,hKK⟩
  .rw[aAa dQ]at U5;obtain rfl:some h=o2:=aBj U5;obtain rfl:some h.F=o:=ho4;have C7:¬((le.length:Nat):Int)<E.length:=oO;clear hJJ;refine xw6 f7 f8 G2 hL hG C7 ?_;refine kD 11 22 1 sS ?_;have hF:=hS.fac;have T6:=oI (vsF E) h.F;have hfw:=hS.few;have hflt:=hS.flt;refine aY 82 81 83 91 (h.F.length) (fun j fr st2=>fr 80=.ms fl 0 h.F.length/\st2.H fl=.box 144 2 (gQ (vsF E) h.F)/\fl<st2.next/\aA st st2/\∃ t,fr 11=.sl t j (fF (h.F.take j))/\Ef t 22 1 j st st2) ?_ ?_ ?_
   .exact⟨sS,by rw[bY,aAa oO];exact hF,by simp;omega,hk.trans (aA.new _ _),s3.next,by simp[fF],by have:=hk.next;omega,hk.next,sS,sS⟩
   .clear hF hflt hG G2 hL C7 f7 f8 hk;rintro j fr s dQ ⟨f80,hF,hflt,hk,t,f11,t0,t1,t2,tH⟩ fi fn JO hJO;have hd:=rM (vsF E) h.F j dQ;have hjj:j*2<h.F.length*2:=oO;have C9:=BP h.F j dQ;have hgd:h.F.getD j []=h.F[j]:=by rw[aAg,aAh dQ];rfl
    rw[hgd]at hd;generalize h.F[j]=R at *;have c0:¬fl=t:=fun e=>by rw[e,tH]at hF;cases hF
    have c1:¬t=s.next:=oO;have c2:¬s.next=t:=oO;have c3:¬t=s.next+1:=oO;have c4:¬s.next+1=t:=oO;have c5:¬fl=s.next:=oO
    (repeat' (first|apply qS|(refine zE ?_;intro J hJ;simp[f80,f11,fi,fn,hF,hd,hjj,T6,dQ,tH,t0,c0,c1,c2,c3,c4,c5];(repeat refine ca ?_);(refine zJ hJ ?_;clear hJ J))))
    refine hJO _ _ (sF1 fi) (sF1 fn) ⟨sF1 f80,?_,by simp;omega,?_,s.next+1+1,by rw[C9];simp[fF],oO,oO,sS,sS⟩
    ·(repeat (first|rw[nHh nOo]|rw[sHh oO]|rw[nIi nQq]|rw[sIi oO]));exact hF
    .exact(((hk.trans (aA.new _ _)).trans (aA.new _ _)).set t1 _).trans (aA.new _ _)
   .clear hF hflt hG G2 hL C7 f7 f8 hk;rintro fr s ⟨f80,hF,hflt,hk,t,f11,t0,t1,t2,tH⟩;rw[aAN]at f11;refine xw1 f11 ?_;have hzu:∀ l:List Int,z0L (us l)=us l:=fun l=>by
     induction l with
     |nil=>rfl
     |cons x l ih=>simp only[us,aAn,z0L,z0]at ih ⊢;rw[ih]
    have hz:∀ R:List (List Int),z0L (fF R)=fF R:=fun R=>by
     induction R with
     |nil=>rfl
     |cons r R ih=>simp only[fF,aAn,z0L,z0,hzu]at ih ⊢;rw[ih]
    exact⟨by simp[z0,z0L,drR,hz],hk⟩
abbrev Tn:=List (Int×List (Int×Int))
def pZ(x y:Int):List (Int×Int)->List (Int×Int)
 |[]=>[(x,y)]
 |p::P=>if p.1=x then(x,y)::P else p::pZ x y P
def iA(v x y:Int):Tn->Tn
 |[]=>[(v,[(x,y)])]
 |a::A=>if a.1=v then(v,pZ x y a.2)::A else a::iA v x y A
def jG(n k:Nat):Nat:=if k=0 then n-1 else k-1
def jX(r:List Int)(A:Tn):Nat->Tn
 |0=>A
 |j+1=>iA (r.getD j 0) (r.getD (jG r.length j) 0) (r.getD ((j+1) % r.length) 0) (jX r A j)
def aV(R:List (List Int)):Tn:=R.foldl (fun A r=>jX r A r.length) []
def inL(P:List (Int×Int)):List (List Int×LV):=P.map fun p=>([p.1],u p.2)
theorem Ez(x y:Int):∀ P,bV (inL P) [x] (u y)=inL (pZ x y P)
 |[]=>rfl
 |p::P=>by
  have ih:=Ez x y P;unfold pZ;simp only[inL,aAn,bV,aBt,aEn]at ih ⊢;by_cases h:p.1=x
  .rw[aAk h,aAk (sF1 h)];rfl
  .rw[aAa h,aAa (by simpa using fun e=>h e.symm),ih];rfl
def ouL(A:Tn)(loc:Int->Nat):List (List Int×LV):=A.map fun a=>([a.1],.mp (loc a.1))
structure MM(A:Tn)(loc:Int->Nat)(o:Nat)(lo st:St):Prop where
 out:st.H o=.map false [.u32] (ouL A loc)
 olt:lo.next<=o/\o<st.next
 inn:∀ a∈A,st.H (loc a.1)=.map false [.u32] (inL a.2)/\(lo.next<=loc a.1/\loc a.1≠o)/\loc a.1<st.next
 inj:∀ a∈A,∀ b∈A,loc a.1=loc b.1->a.1=b.1
 nd:(A.map (·.1)).Nodup
 kp:aA lo st
theorem Dv(A:Tn)(loc:Int->Nat)(v:Int):bS (ouL A loc) [v]=if v∈A.map (·.1)then some (.mp (loc v))else none:=by
 induction A with
 |nil=>rfl
 |cons a A ih=>
  simp only[ouL,aAn,bS,aAe]at ih ⊢;by_cases h:a.1=v
  .rw[aAk (sF1 h),aAk (.inl h.symm),h]
  .rw[aAa (by simpa using fun e=>h e.symm),ih];have:¬v=a.1:=fun e=>h e.symm;simp only[this,false_or]
theorem Ux{A:Tn}{v:Int}(loc:Int->Nat)(l:Nat)(h:v∉A.map (·.1)):bV (ouL A loc) [v] (.mp l)=ouL (A++[(v,[])]) (fun x=>if x=v then l else loc x):=by
 rw[Bl]
 .unfold ouL;rw[aAu]
  congr 1
  .refine aAP fun a ha=>?_;have:a.1≠v:=fun e=>h (e ▸ aAj.2 ⟨a,ha,rfl⟩);simp only[aAa this]
  .simp
 .intro hm;obtain⟨q,hq,e⟩:=aAj.1 hm;obtain⟨a,ha,rfl⟩:=aAj.1 hq;simp only[aBt,aEn]at e;exact h (e ▸ aAj.2 ⟨a,ha,rfl⟩)
theorem MM.add{A:Tn}{loc:Int->Nat}{o:Nat}{lo s:St}(h:MM A loc o lo s){v:Int}(hv:v∉A.map (·.1)):
 MM (A++[(v,[])]) (fun x=>if x=v then s.next else loc x) o lo ((s.new (.map false [.u32] [])).set o (.map false [.u32] (ouL (A++[(v,[])]) (fun x=>if x=v then s.next else loc x)))):=by
 obtain⟨h1,h2,h3,h4,h5,h6⟩:=h;have Zy:∀ a∈A,a.1≠v:=fun a ha e=>hv (e ▸ aAj.2 ⟨a,ha,rfl⟩);have hn:=h6.next;refine⟨sS,⟨h2.1,by simp;omega⟩,fun a ha=>?_,fun a ha b hb e=>?_,?_,(h6.trans (aA.new _ _)).set h2.1 _⟩
 .rcases aAd.1 ha with ha|ha
  .obtain⟨k1,k2,k3⟩:=h3 a ha;simp only[aAa (Zy a ha)];have e1:¬loc a.1=o:=k2.2;refine⟨?_,k2,by simp;omega⟩;rw[bR,aAa e1,bY,aAa oO];exact k1
  .rw[aAi]at ha;subst ha;simp only[aBq];refine⟨?_,⟨hn,oO⟩,sS⟩;rw[bR,aAa oO,bY,aAk rfl];rfl
 .rcases aAd.1 ha with ha|ha
  .rcases aAd.1 hb with hb|hb
   .simp only[aAa (Zy a ha),aAa (Zy b hb)]at e;exact h4 a ha b hb e
   .rw[aAi]at hb;subst hb;simp only[aAa (Zy a ha),aBq]at e;have:=(h3 a ha).2.2;omega
  .rw[aAi]at ha;subst ha;rcases aAd.1 hb with hb|hb
   .simp only[aAa (Zy b hb),aBq]at e;have:=(h3 b hb).2.2;omega
   .rw[aAi]at hb;subst hb;rfl
 .rw[aAu,aAo];refine⟨h5,sS,fun a ha b hb e=>?_⟩;simp only[aAn,aCM,aAi]at hb;subst hb;subst e;exact hv ha
theorem Cp(v x y:Int):∀ A:Tn,v∈A.map (·.1)->(iA v x y A).map (·.1)=A.map (·.1)
 |a::A,h=>by
  unfold iA;by_cases e:a.1=v
  .rw[aAk e];simp[e]
  .rw[aAa e,aAn,aAn,Cp v x y A];simp only[aAn,aAe]at h;exact h.resolve_left fun h=>e h.symm
theorem Gn{v x y:Int}{P:List (Int×Int)}:∀ {A:Tn},(A.map (·.1)).Nodup->(v,P)∈A->∀ a,a∈iA v x y A->a=(v,pZ x y P)\/(a∈A/\a.1≠v)
 |b::A,hn,h,a,ha=>by
  obtain⟨n1,n2⟩:=aAq.1 (by simpa using hn:(b.1::A.map (·.1)).Nodup);unfold iA at ha;by_cases e:b.1=v
  .rw[aAk e]at ha;have hb:(v,P)=b:=by
    rcases aAe.1 h with h|h
    .exact h
    .exact absurd (aAj.2 ⟨_,h,rfl⟩) (e ▸ n1)
   subst hb;rcases aAe.1 ha with ha|ha
   .exact .inl ha
   .exact .inr ⟨aAc _ ha,fun h2=>n1 (aAj.2 ⟨a,ha,h2⟩)⟩
  .rw[aAa e]at ha;rcases aAe.1 ha with ha|ha
   .exact .inr ⟨sF1 ha,by rw[ha];exact e⟩
   .have h2:(v,P)∈A:=by
     rcases aAe.1 h with h|h
     .exact absurd (by rw[<- h]) e
     .exact h
    rcases Gn n2 h2 a ha with h3|⟨h3,h4⟩
    .exact .inl h3
    .exact .inr ⟨aAc _ h3,h4⟩
theorem Ho(v x y:Int):∀ A:Tn,v∉A.map (·.1)->iA v x y (A++[(v,[])])=iA v x y A
 |[],_=>by simp[iA,pZ]
 |a::A,h=>by simp only[aAn,aAe,aCp]at h;have e:¬a.1=v:=fun e=>h.1 e.symm;simp only[List.cons_append,iA,aAa e,Ho v x y A h.2]
theorem MM.put{A:Tn}{loc:Int->Nat}{o:Nat}{lo s:St}(h:MM A loc o lo s){v x y:Int}{P:List (Int×Int)}(hv:(v,P)∈A):
 MM (iA v x y A) loc o lo (s.set (loc v) (.map false [.u32] (inL (pZ x y P)))):=by
 obtain⟨h1,h2,h3,h4,h5,h6⟩:=h;have hk:=Cp v x y A (aAj.2 ⟨_,hv,rfl⟩);obtain⟨k1,k2,k3⟩:=h3 _ hv;have c8:∀ a∈iA v x y A,∃ b∈A,b.1=a.1:=fun a ha=>by
  have:a.1∈A.map (·.1):=by rw[<- hk];exact aAj.2 ⟨a,ha,rfl⟩
  obtain⟨b,hb,e⟩:=aAj.1 this;exact⟨b,hb,e⟩
 have ho:ouL (iA v x y A) loc=ouL A loc:=by
  have e:∀ B:Tn,ouL B loc=(B.map (·.1)).map fun k=>([k],LV.mp (loc k)):=fun B=>by simp[ouL]
  rw[e,e,hk]
 have e1:¬o=loc v:=fun e=>k2.2 e.symm;refine⟨?_,⟨h2.1,h2.2⟩,fun a ha=>?_,fun a ha b hb e=>?_,by rw[hk];exact h5,h6.set k2.1 _⟩
 .rw[bR,aAa e1,h1,ho]
 .rcases Gn h5 hv a ha with rfl|⟨ha,Zy⟩
  .exact⟨sS,k2,k3⟩
  .obtain⟨q1,q2,q3⟩:=h3 a ha;refine⟨?_,q2,q3⟩;rw[bR,aAa fun e=>Zy (h4 a ha _ hv e)];exact q1
 .obtain⟨a2,ha2,ea⟩:=c8 a ha;obtain⟨b2,P3,eb⟩:=c8 b hb;rw[<- ea,<- eb]at e ⊢;exact h4 a2 ha2 b2 P3 e
theorem Oc(R:List (List Int))(st:St)(hR:R.length<=300)(hr:∀ r∈R,r.length<=1000):
 aB prog 62 [.sl 0 R.length (fF R)] st fun r st'=>∃ o loc,r=.mp o/\MM (aV R) loc o st st':=by
 refine zN func62 ntmps62 [.tmp 2] ?_;refine xw0 ?_;have e0:st.next<st.next+1:=oO;refine aY 12 11 13 50 (R.length) (fun j fr st2=>fr 3=.mp st.next/\fr 10=.sl 0 R.length (fF R)/\∃ loc,MM ((R.take j).foldl (fun A r=>jX r A r.length) []) loc st.next st st2) ?_ ?_ ?_
 .exact⟨sS,sS,fun _=>0,by simp[ouL],sS,sS,sS,sS,aA.new _ _⟩
 .rintro j0 fr s dQ ⟨f3,f10,loc,hM⟩ fi fn JO hJO;have hd:=nV R j0 dQ;have C9:(R.take (j0+1)).foldl (fun A r=>jX r A r.length) []=jX (R.getD j0 []) ((R.take j0).foldl (fun A r=>jX r A r.length) []) (R.getD j0 []).length:=by have h1:R.take (j0+1)=R.take j0++[R[j0]]:=aAp dQ;rw[h1,aBI,aAg,aAh dQ];rfl
  have hl:(R.getD j0 []).length<=1000:=hr _ (by rw[aAg,aAh dQ];exact aAz _);generalize (R.take j0).foldl (fun A r=>jX r A r.length) []=A0 at *;generalize R.getD j0 []=r at *;have w1:IntKind.i64.wrap ((r.length:Int)-1)=(r.length:Int)-1:=zW;refine xw7 f3 f10 fi fn dQ hd w1 ?_;have hJ0:∀ loc' c7 s',c7 3=.mp st.next->c7 10=.sl 0 R.length (fF R)->c7 12=i j0->c7 11=i R.length->MM (jX r A0 r.length) loc' st.next st s'->JO c7 s':=fun loc' c7 s' g1 g2 g3 g4 g5=>hJO _ _ g3 g4 ⟨sF1 g1,sF1 g2,loc',by rw[C9];exact g5⟩;clear hJO C9;refine aY 21 20 22 49 (r.length) (fun j fr st2=>(fr 3=.mp st.next/\fr 10=.sl 0 R.length (fF R)/\fr 12=i j0/\fr 11=i R.length)/\fr 5=.sl 0 r.length (us r)/\fr 19=.sl 0 r.length (us r)/\fr 6=i (if j=0 then(r.length:Int)-1 else(j:Int)-1)/\∃ loc,MM (jX r A0 j) loc st.next st st2) ?_ ?_ ?_
  .exact⟨⟨sF1 f3,sF1 f10,sF1 fi,sF1 fn⟩,sS,sS,sS,loc,hM⟩
  .clear f3 f10 fi fn hM loc s fr;rintro k fr s V2 ⟨⟨f3,f10,f12,f11⟩,f5,f19,f6,loc,hM⟩ fi fn JO2 hJO2;have hdk:=qG r k V2;have hpk:jG r.length k<r.length:=by unfold jG;split<;>omega
   have hpi:(if k=0 then(r.length:Int)-1 else(k:Int)-1)=((jG r.length k:Nat):Int):=by unfold jG;split<;>omega
   rw[hpi]at f6;have hdp:=qG r (jG r.length k) hpk;have hmod:((k:Int)+1).tmod (r.length:Int)=(((k+1) % r.length:Nat):Int):=by rw[aCT oO];exact(Int.natCast_emod _ _).symm
   have J4:(k+1) % r.length<r.length:=aBY _ oO;have hdm:=qG r ((k+1) % r.length) J4;have hw:IntKind.i64.wrap ((k:Int)+1)=(k:Int)+1:=zW;have O9:jX r A0 (k+1)=iA (r.getD k 0) (r.getD (jG r.length k) 0) (r.getD ((k+1) % r.length) 0) (jX r A0 k):=rfl;generalize jX r A0 k=A at *;generalize jG r.length k=pk at *;generalize (k+1) % r.length=mk' at *;generalize r.getD k 0=v at *;generalize r.getD pk 0=x at *;generalize r.getD mk' 0=y at *;have V7:¬(r.length:Int)=0:=oO;have S4:¬r=[]:=fun e=>by rw[e]at V2;simp at V2
   have hpk':(pk:Int)<r.length:=oO;have hml':(mk':Int)<r.length:=oO;have hH:=hM.out;have hg:=Dv A loc v;by_cases hv:v∈A.map (·.1)
   .rw[aAk hv]at hg;obtain⟨⟨v',P⟩,hP,rfl⟩:=aAj.1 hv;simp only at hg O9 hdk;have hI:=(hM.inn _ hP).1;have T0:=Ez x y P;have Q7:=hM.put (x:=x) (y:=y) hP;simp only at hI;generalize loc v'=lv at *;refine FU f3 f5 f19 f6 fi fn V2 hdk hH hg ?_
    (refine zS [] [st.next,lv] [0,2,4,6,8,10,12,14,16,18,20,22,24,26,28,31] ?_;intro J hJ;simp[f3,f5,f19,f6,fi,fn,V2,hdk,hdp,hdm,hpk,J4,hpk',hml',V7,S4,hw,hmod,hH,hg,hI];refine zJ hJ ?_)
    rw[T0];refine xw0 ?_;refine hJO2 _ _ (sF1 fi) (sF1 fn) ⟨⟨sF1 f3,sF1 f10,sF1 f12,sF1 f11⟩,sF1 f5,sF1 f19,sS,loc,?_⟩;rw[O9];exact Q7
   .rw[aAa hv]at hg;have c1:¬st.next=s.next:=by have:=hM.olt;omega
    have W9:=hM.add hv;have L7:=Ux loc s.next hv;have hpa:=Ho v x y A hv;refine Wo f3 f5 f19 f6 fi fn V2 hdk hH hg c1 ?_;rw[L7];generalize (s.new (.map false [.u32] [])).set st.next (.map false [.u32] (ouL (A++[(v,[])]) fun x=>if x=v then s.next else loc x))=s1 at *;generalize hl1:(fun x=>if x=v then s.next else loc x)=loc1 at *;have hP:(v,[])∈A++[(v,([]:List (Int×Int)))]:=sS;have hH:=W9.out;have hg:=Dv (A++[(v,[])]) loc1 v;rw[aAk sS]at hg;have hI:=(W9.inn _ hP).1;have T0:=Ez x y [];have Q7:=W9.put (x:=x) (y:=y) hP;rw[hpa]at Q7;simp only at hI;generalize A++[(v,([]:List (Int×Int)))]=A1 at *;generalize loc1 v=lv at *;clear hM
    (refine zS [] [st.next,lv] [0,2,4,6,8,10,12,14,16,18,20,22,24,26,28,31] ?_;intro J hJ;simp[f3,f5,f19,f6,fi,fn,V2,hdk,hdp,hdm,hpk,J4,hpk',hml',V7,S4,hw,hmod,hH,hg,hI];refine zJ hJ ?_)
    rw[T0];refine xw0 ?_;refine hJO2 _ _ (sF1 fi) (sF1 fn) ⟨⟨sF1 f3,sF1 f10,sF1 f12,sF1 f11⟩,sF1 f5,sF1 f19,sS,loc1,?_⟩;rw[O9];exact Q7
  .clear f3 f10 fi fn hM loc s fr;rintro fr s ⟨⟨f3,f10,f12,f11⟩,f5,f19,f6,loc,hM⟩;refine xw0 ?_;exact hJ0 loc _ _ (sF1 f3) (sF1 f10) (sF1 f12) (sF1 f11) hM
 .rintro fr s ⟨f3,f10,loc,hM⟩;rw[aAN]at hM;refine xw1 f3 ?_;exact⟨_,hM⟩
end Aw
end Go.Proofs.YtbgngpdonpeboaaGreatDoor
