/- plane: newSheet. -/
import Derived.Test.YtbgngpdonpeboaaGreatDoorJg
import Derived.Test.YtbgngpdonpeboaaGreatDoorAwAlt
set_option linter.unusedVariables false
set_option linter.unusedSimpArgs false
set_option maxHeartbeats 4000000
open Go.Proofs.Tryz
namespace Go.Proofs.YtbgngpdonpeboaaGreatDoor
namespace Aw
open Go Go.RowKit Pl
theorem UZ{ops:Array Oper}{M B:List Nat}{j9:St}{J:Frm->St->Prop}{listed:Array Bool}{fr:Frm}{st:St}{k:Nat}(n:Nat)(p q r:Nat×Bool)(h1:eE prog tab ops M B j9 (fun fr st=>jX prog tab ops M (SB B j9) J n (listed.setIfInBounds p.1 true) fr st) (pick ops [p]) fr st)
 (h2:eE prog tab ops M B j9 (fun fr st=>jX prog tab ops M (SB B j9) J n (listed.setIfInBounds q.1 true) fr st) (pick ops [q]) fr st)
 (h3:eE prog tab ops M B j9 (fun fr st=>jX prog tab ops M (SB B j9) J n (listed.setIfInBounds r.1 true) fr st) (pick ops [r]) fr st) (hn:k=n+1:=by rfl) (hk:Mo ops [p,q,r] listed=true:=by kernel_rfl):jX prog tab ops M (SB B j9) J k listed fr st:=by
 subst hn;refine Gp n [p,q,r] hk fun x hx=>?_;simp only[aAe,aCd,aDE]at hx;rcases hx with rfl|rfl|rfl
 .exact h1
 .exact h2
 .exact h3
structure NeI(g:Gr)(lo S nl pl ll:Nat)(f6:LV)(j9 s:St)(near:List LV)(pm lm:List (List Int×LV))(on:Nat):Prop where
 gr:s.H lo=.box 25 2 (grL g)
 box:s.H S=.box 136 7 [.sl 0 g.vs.length (us g.vs),.sl 0 g.es.length (eds g.es),.ms nl 0 g.vs.length,.mp pl,.mp ll,wv on,f6]
 near:s.H nl=.box 133 1 near
 plc:s.H pl=.map false [.u32] pm
 lin:s.H ll=.map true [.u32,.u32] lm
 b:j9.next<=lo/\lo<s.next/\j9.next<=S/\S<s.next/\j9.next<=nl/\nl<s.next/\j9.next<=pl/\pl<s.next/\j9.next<=ll/\ll<s.next
 kp:aA j9 s
theorem iV(n:Nat):dZ [.atom (.int .u64 0)] n=List.replicate n (wv 0):=by
 induction n with
 |zero=>rfl
 |succ n ih=>rw[List.replicate_succ,<- ih];rfl
def Ni(vs:List Int)(j:Nat):List (List Int×LV):=(List.range j).map fun k=>([vs.getD k 0],i k)
theorem Cj:∀(L:List (List Int×LV)) (k:List Int) (x:LV),k∉L.map (·.1)->bV L k x=L++[(k,x)]
 |[],k,x,_=>rfl
 |q::L,k,x,h=>by simp only[aAm,aAe,aCx]at h;simp only[bV];rw[aAa (by simpa using h.1),Cj L k x h.2];rfl
theorem NT{vs:List Int}(hn:vs.Nodup){j:Nat}(hj:j<vs.length):bV (Ni vs j) [vs.getD j 0] (i j)=Ni vs (j+1):=by
 rw[Cj]
 .unfold Ni;rw[aDM,aAv];rfl
 .unfold Ni;rw[aAW];intro h;obtain⟨k,hk,e⟩:=aAi.1 h;have hk:=aBi.1 hk;simp only[Function.comp,aBw,aEx]at e;rw[aW _ _ hj,aW _ _ (show k<vs.length by omega),Ei hn oO hj]at e;omega
def nB(g:Gr)(j:Nat):List LV:=g.vs.map fun v=>wv (mk g.vs (nbr (g.es.take j) v))
@[simp] theorem EX(g:Gr)(j:Nat):(nB g j).length=g.vs.length:=by simp[nB]
theorem KZ(g:Gr):nB g 0=List.replicate g.vs.length (wv 0):=by
 have hz:mk g.vs []=0:=(mk_zero g.vs []).2 fun _ _=>by simp
 unfold nB;rw[List.eq_replicate_iff];refine⟨sS,fun b hb=>?_⟩;obtain⟨v,_,rfl⟩:=aAi.1 hb;simp[nbr,hz]
theorem Ob(g:Gr):nB g g.es.length=mL g:=by unfold nB mL;rw[aAU]
theorem sP(g:Gr)(j k:Nat)(hk:k<g.vs.length):(nB g j)[k]?=some (wv (mk g.vs (nbr (g.es.take j) (g.vs.getD k 0)))):=by unfold nB;rw[aCm,aAh hk,aW _ _ hk];rfl
theorem RP(es:List Ed)(x:Ed)(v:Int):nbr (es++[x]) v=nbr es v++KA v x:=by simp[nbr]
theorem Kj{g:Gr}(hn:g.vs.Nodup){j:Nat}(hj:j<g.es.length){d a b:Int}(hx:g.es.getD j ed0=⟨d,a,b⟩)(x8:a≠b)(ha:a∈g.vs)(hb:b∈g.vs):
 ((nB g j).set (g.vs.idxOf a) (wv (mk g.vs (nbr (g.es.take j) a++[b])))).set (g.vs.idxOf b) (wv (mk g.vs (nbr (g.es.take j) b++[a])))=nB g (j+1):=by
 obtain⟨ia,ga⟩:=Ar ha;obtain⟨ib,gb⟩:=Ar hb;have L0:g.es.take (j+1)=g.es.take j++[⟨d,a,b⟩]:=by rw[aAp hj,<- eJ _ _ hj,hx]
 refine aCu fun k=>?_;by_cases hk:k<g.vs.length
 .rw[sP g (j+1) k hk,L0,RP,aDw,aDw,sP g j k hk];simp only[aCU,EX];by_cases e1:g.vs.idxOf b=k
  .rw[aAj e1,aAj oO,<- e1,gb];simp[KA,x8]
  .rw[aAa e1];by_cases e2:g.vs.idxOf a=k
   .rw[aAj e2,aAj oO,<- e2,ga];simp[KA,aCE x8]
   .rw[aAa e2];have v1:¬a=g.vs.getD k 0:=fun e=>e2 (by rw[e,aW _ _ hk];exact hn.idxOf_getElem k hk);have v2:¬b=g.vs.getD k 0:=fun e=>e1 (by rw[e,aW _ _ hk];exact hn.idxOf_getElem k hk);unfold KA;rw[aAa v1,aAa v2];simp
 .rw[aCa (by simp;omega),aCa (by simp;omega)]
theorem J5(x y:Ed)(q:Nat)(st:St)(hq:st.H q=.box 36 3 (edL x))(hqn:q<st.next):
 aB prog 138 [.ag (edL y),.pt q 0] st fun r st'=>r=bb (decide (y≠x))/\aA st st':=by
 obtain⟨d,a,b⟩:=x;obtain⟨d',a',b'⟩:=y;have h1:¬q=st.next:=oO;refine zN func138 ntmps138 [.tmp 3] ?_;refine xw2 hq h1 ?_;exact⟨rfl,aA.new _ _⟩
def newF(g:Gr):Option Sh:=match g.es with
 |[]=>none
 |x::_=>(vY g.vs (cU (g.es.filter fun y=>decide (y≠x))) (fun _=>true) x.a x.b 1000).bind fun ring=>
  if ring.length<=200/\∀ v∈ring,v∈g.vs then some ⟨kL (kL [] ring) [x.a,x.b],ring++[x.a,x.b],[ring,ring.reverse]⟩else none
theorem TA{g:Gr}(hg:GP g){h:Sh}(hh:newF g=some h)(st:St):aB prog 100 [.ag (grL g)] st fun r st'=>∃ S nl pl ll fl le,r=.pt S 0/\ShA g h.L h.on h.F S nl pl ll fl le st'/\(st.next<=S/\st.next<=ll/\st.next<=fl)/\aA st st':=by
 have he:=hg.he;have h64:=hg.h64;refine zN func100 ntmps100 [.tmp 2] ?_;refine eR fun M5=>?_;refine xw0 ?_;refine Bp (fun f s=>∃ S nl pl ll,f 1=.pt st.next 0/\f 3=.pt S 0/\NeI g st.next S nl pl ll .nil st s (List.replicate g.vs.length (wv 0)) [] [] 0) ?_ ?_
 .refine w_a [] [st.next] ?_;intro J hJ;refine lG 6 [(0,true),(1,true),(2,true),(3,true)] ?_;simp;refine UZ 5 (4,true) (5,true) (6,true) ?_ ?_ ?_
  .simp;refine⟨⟨oO,oO⟩,?_⟩;refine tO 4 (5,true) (6,true) ?_ ?_
   .simp;refine lG 0 [(6,true),(7,true),(8,true),(9,true)] ?_;simp;refine eO (hJ _ _ ?_);simp only[ak];refine⟨trivial,st.next+4,st.next+1,st.next+2,st.next+3,sS,sS,⟨?_,?_,?_,?_,?_,?_,?_⟩⟩
    ·(repeat (first|rw[nHh nOo]|rw[sHh oO]|rw[nIi nQq]|rw[sIi oO]))
    ·(repeat (first|rw[nHh nOo]|rw[sHh oO]|rw[nIi nQq]|rw[sIi oO]));rfl
    ·(repeat (first|rw[nHh nOo]|rw[sHh oO]|rw[nIi nQq]|rw[sIi oO]));rw[iV]
    ·(repeat (first|rw[nHh nOo]|rw[sHh oO]|rw[nIi nQq]|rw[sIi oO]))
    ·(repeat (first|rw[nHh nOo]|rw[sHh oO]|rw[nIi nQq]|rw[sIi oO]))
    .simp only[aG];omega
    ·(repeat (first|exact aA.refl _|(refine aA.trans ?_ (aA.new _ _))))
   .simp;refine lG 0 [(5,true),(7,true),(8,true),(9,true)] ?_;simp;refine eO (hJ _ _ ?_);simp only[ak];refine⟨trivial,st.next+4,st.next+1,st.next+3,st.next+2,sS,sS,⟨?_,?_,?_,?_,?_,?_,?_⟩⟩
    ·(repeat (first|rw[nHh nOo]|rw[sHh oO]|rw[nIi nQq]|rw[sIi oO]))
    ·(repeat (first|rw[nHh nOo]|rw[sHh oO]|rw[nIi nQq]|rw[sIi oO]));rfl
    ·(repeat (first|rw[nHh nOo]|rw[sHh oO]|rw[nIi nQq]|rw[sIi oO]));rw[iV]
    ·(repeat (first|rw[nHh nOo]|rw[sHh oO]|rw[nIi nQq]|rw[sIi oO]))
    ·(repeat (first|rw[nHh nOo]|rw[sHh oO]|rw[nIi nQq]|rw[sIi oO]))
    .simp only[aG];omega
    ·(repeat (first|exact aA.refl _|(refine aA.trans ?_ (aA.new _ _))))
  .simp;refine tO 4 (4,true) (6,true) ?_ ?_
   .simp;refine⟨⟨oO,oO⟩,?_⟩;refine lG 0 [(6,true),(7,true),(8,true),(9,true)] ?_;simp;refine eO (hJ _ _ ?_);simp only[ak];refine⟨trivial,st.next+4,st.next+2,st.next+1,st.next+3,sS,sS,⟨?_,?_,?_,?_,?_,?_,?_⟩⟩
    ·(repeat (first|rw[nHh nOo]|rw[sHh oO]|rw[nIi nQq]|rw[sIi oO]))
    ·(repeat (first|rw[nHh nOo]|rw[sHh oO]|rw[nIi nQq]|rw[sIi oO]));rfl
    ·(repeat (first|rw[nHh nOo]|rw[sHh oO]|rw[nIi nQq]|rw[sIi oO]));rw[iV]
    ·(repeat (first|rw[nHh nOo]|rw[sHh oO]|rw[nIi nQq]|rw[sIi oO]))
    ·(repeat (first|rw[nHh nOo]|rw[sHh oO]|rw[nIi nQq]|rw[sIi oO]))
    .simp only[aG];omega
    ·(repeat (first|exact aA.refl _|(refine aA.trans ?_ (aA.new _ _))))
   .simp;refine lG 0 [(4,true),(7,true),(8,true),(9,true)] ?_;simp;refine⟨⟨oO,oO⟩,?_⟩;refine eO (hJ _ _ ?_);simp only[ak];refine⟨trivial,st.next+4,st.next+3,st.next+1,st.next+2,sS,sS,⟨?_,?_,?_,?_,?_,?_,?_⟩⟩
    ·(repeat (first|rw[nHh nOo]|rw[sHh oO]|rw[nIi nQq]|rw[sIi oO]))
    ·(repeat (first|rw[nHh nOo]|rw[sHh oO]|rw[nIi nQq]|rw[sIi oO]));rfl
    ·(repeat (first|rw[nHh nOo]|rw[sHh oO]|rw[nIi nQq]|rw[sIi oO]));rw[iV]
    ·(repeat (first|rw[nHh nOo]|rw[sHh oO]|rw[nIi nQq]|rw[sIi oO]))
    ·(repeat (first|rw[nHh nOo]|rw[sHh oO]|rw[nIi nQq]|rw[sIi oO]))
    .simp only[aG];omega
    ·(repeat (first|exact aA.refl _|(refine aA.trans ?_ (aA.new _ _))))
  .simp;refine tO 4 (4,true) (5,true) ?_ ?_
   .simp;refine⟨⟨oO,oO⟩,?_⟩;refine lG 0 [(5,true),(7,true),(8,true),(9,true)] ?_;simp;refine eO (hJ _ _ ?_);simp only[ak];refine⟨trivial,st.next+4,st.next+2,st.next+3,st.next+1,sS,sS,⟨?_,?_,?_,?_,?_,?_,?_⟩⟩
    ·(repeat (first|rw[nHh nOo]|rw[sHh oO]|rw[nIi nQq]|rw[sIi oO]))
    ·(repeat (first|rw[nHh nOo]|rw[sHh oO]|rw[nIi nQq]|rw[sIi oO]));rfl
    ·(repeat (first|rw[nHh nOo]|rw[sHh oO]|rw[nIi nQq]|rw[sIi oO]));rw[iV]
    ·(repeat (first|rw[nHh nOo]|rw[sHh oO]|rw[nIi nQq]|rw[sIi oO]))
    ·(repeat (first|rw[nHh nOo]|rw[sHh oO]|rw[nIi nQq]|rw[sIi oO]))
    .simp only[aG];omega
    ·(repeat (first|exact aA.refl _|(refine aA.trans ?_ (aA.new _ _))))
   .simp;refine lG 0 [(4,true),(7,true),(8,true),(9,true)] ?_;simp;refine⟨⟨oO,oO⟩,?_⟩;refine eO (hJ _ _ ?_);simp only[ak];refine⟨trivial,st.next+4,st.next+3,st.next+2,st.next+1,sS,sS,⟨?_,?_,?_,?_,?_,?_,?_⟩⟩
    ·(repeat (first|rw[nHh nOo]|rw[sHh oO]|rw[nIi nQq]|rw[sIi oO]))
    ·(repeat (first|rw[nHh nOo]|rw[sHh oO]|rw[nIi nQq]|rw[sIi oO]));rfl
    ·(repeat (first|rw[nHh nOo]|rw[sHh oO]|rw[nIi nQq]|rw[sIi oO]));rw[iV]
    ·(repeat (first|rw[nHh nOo]|rw[sHh oO]|rw[nIi nQq]|rw[sIi oO]))
    ·(repeat (first|rw[nHh nOo]|rw[sHh oO]|rw[nIi nQq]|rw[sIi oO]))
    .simp only[aG];omega
    ·(repeat (first|exact aA.refl _|(refine aA.trans ?_ (aA.new _ _))))
 .rintro fr s ⟨S,nl,pl,ll,f1,f3,hI⟩;have hn:g.vs.Nodup:=hg.toGoodE.toGood.nodup;have hG:=hI.gr;refine xw2 f1 hG ?_;refine aY 24 23 25 35 (g.vs.length) (fun j fr st2=>fr 1=.pt st.next 0/\fr 3=.pt S 0/\fr 22=.sl 0 g.vs.length (us g.vs)/\NeI g st.next S nl pl ll .nil st st2 (List.replicate g.vs.length (wv 0)) (Ni g.vs j) [] 0) ?_ ?_ ?_
  .exact⟨sF1 f1,sF1 f3,sS,hI⟩
  .clear f1 f3 hI hG fr s;rintro j fr s dA ⟨f1,f3,f22,hI⟩ fi fn JO hJO;have hd:=qG g.vs j dA;have hps:=NT hn dA;generalize g.vs.getD j 0=v at *;obtain⟨hG,O1,hN,hP,hL,hb,hk⟩:=id hI;have a1:¬st.next=pl:=fun e=>by rw[e,hP]at hG;cases hG
   have a2:¬S=pl:=fun e=>by rw[e,hP]at O1;cases O1
   have a3:¬nl=pl:=fun e=>by rw[e,hP]at hN;cases hN
   have a4:¬ll=pl:=fun e=>by rw[e,hP]at hL;cases hL
   refine xw9 f3 f22 fi fn hd dA O1 hP hps ?_;exact hJO _ _ (sF1 fi) (sF1 fn) ⟨sF1 f1,sF1 f3,sF1 f22,⟨by(repeat (first|rw[nHh nOo]|rw[sHh oO]|rw[nIi nQq]|rw[sIi oO]));exact hG,by(repeat (first|rw[nHh nOo]|rw[sHh oO]|rw[nIi nQq]|rw[sIi oO]));exact O1,by(repeat (first|rw[nHh nOo]|rw[sHh oO]|rw[nIi nQq]|rw[sIi oO]));exact hN,by(repeat (first|rw[nHh nOo]|rw[sHh oO]|rw[nIi nQq]|rw[sIi oO])),by(repeat (first|rw[nHh nOo]|rw[sHh oO]|rw[nIi nQq]|rw[sIi oO]));exact hL,by simp only[bH];exact hb,hk.set oO _⟩⟩
  .clear f1 f3 hI hG fr s;rintro fr s ⟨f1,f3,f22,hI⟩;have hG:=hI.gr;have hel:=aK g.es;refine xw2 f1 hG ?_;rw[<- KZ]at hI;have hplc:Ni g.vs g.vs.length=xA g.vs:=rfl;rw[hplc]at hI;clear hplc;refine aY 39 38 40 81 (g.es.length) (fun j fr st2=>fr 1=.pt st.next 0/\fr 3=.pt S 0/\fr 37=.sl 0 g.es.length (eds g.es)/\NeI g st.next S nl pl ll .nil st st2 (nB g j) (xA g.vs) [] 0) ?_ ?_ ?_
   .exact⟨sF1 f1,sF1 f3,sS,hI⟩
   .clear f1 f3 f22 hI hG fr s;rintro j fr s dA ⟨f1,f3,f37,hI⟩ fi fn JO hJO;have hde:=aR g.es j dA;have hj3:j*3<g.es.length*3:=oO;have hm:g.es.getD j ed0∈g.es:=by rw[eJ _ _ dA];exact aAE _
    have Q0:=hg.ends _ hm;have c7:=hg.ne _ hm;generalize hx:g.es.getD j ed0=x at *;obtain⟨d,a,b⟩:=x;simp only at Q0 c7;have hsu:=Kj hn dA hx c7 Q0.1 Q0.2;obtain⟨ia,ga⟩:=Ar Q0.1;obtain⟨ib,gb⟩:=Ar Q0.2;have pa:=BW hn ia;have pb:=BW hn ib;rw[ga]at pa;rw[gb]at pb;have na:=sP g j _ ia;rw[ga]at na;have oa:=Bz g.vs (nbr (g.es.take j) a) [b] h64;have ob:=Bz g.vs (nbr (g.es.take j) b) [a] h64;have nb:=sP g j _ ib;rw[gb]at nb;have hidx:¬g.vs.idxOf a=g.vs.idxOf b:=fun e=>c7 (by rw[<- ga,<- gb,e]);have nb2:((nB g j).set (g.vs.idxOf a) (wv (mk g.vs (nbr (g.es.take j) a++[b]))))[g.vs.idxOf b]?=some (wv (mk g.vs (nbr (g.es.take j) b))):=by rw[aDw,aAa hidx];exact nb
    have hl:=EX g j;generalize nB g j=N at *;generalize g.vs.idxOf a=ka at *;generalize g.vs.idxOf b=kb at *;generalize mk g.vs (nbr (g.es.take j) a)=ma at *;generalize mk g.vs (nbr (g.es.take j) b)=mb at *;obtain⟨hG,O1,hN,hP,hL,hb,hk⟩:=id hI;have a1:¬st.next=s.next:=oO;have a2:¬S=s.next:=oO;have a3:¬nl=s.next:=oO;have a4:¬ll=s.next:=oO;have a5:¬pl=s.next:=oO;have da:N.drop ka=wv ma::N.drop (ka+1):=by rw[aAN oO];rw[aAh oO,aAb]at na;rw[na]
    have ka1:(ka:Int)<g.vs.length:=oO;have kb1:(kb:Int)<g.vs.length:=oO;refine xw7 f37 fi fn hde hel hj3 dA ?_
    (refine zS [] [S,s.next,nl,pl] [0,2,4,6,8,10,12,14,16,18,20,22,24,26,28,30,32,34,36,39] ?_;intro J hJ;simp[f3,O1,hN,hP,a1,a2,a3,a4,a5,pa,da,ia,ka1,hl])
    have hBb:∀ {v:Int} {s':St},v∈g.vs->s'.H S=.box 136 7 [.sl 0 g.vs.length (us g.vs),.sl 0 g.es.length (eds g.es),.ms nl 0 g.vs.length,.mp pl,.mp ll,wv 0,.nil]->s'.H pl=.map false [.u32] (xA g.vs)->aB prog 137 [.pt S 0,u v] s' fun r st'=>r=wv (mk g.vs [v])/\st'=s':=
     fun {v s'} hv h1 h2=>VQ ⟨⟨_,_,_,_,_,_,h1⟩,h2⟩ hn h64 hv
    refine xdP (hBb Q0.2 (by rw[bY,aAa a2];exact O1) (by rw[bY,aAa a5];exact hP)) ?_;refine⟨fun h=>by first|(cases h;done)|exact fun _ _=>rfl|simp,?_⟩;have hset:∀(M:List LV) (k:Nat) (y:LV),k<M.length->M.take k++y::M.drop (k+1)=M.set k y:=fun M k y h=>by rw[aBO,aAj h]
    have hs1:=hset N ka (wv (mk g.vs (nbr (g.es.take j) a++[b]))) oO;have b1:¬S=nl:=fun e=>by rw[e,hN]at O1;cases O1
    have b2:¬pl=nl:=fun e=>by rw[e,hN]at hP;cases hP
    have b3:¬s.next=nl:=oO;have b4:¬ll=nl:=fun e=>by rw[e,hN]at hL;cases hL
    have b5:¬st.next=nl:=fun e=>by rw[e,hN]at hG;cases hG
    (apply bJ;simp[O1,hN,hP,a1,a2,a3,a4,a5,ia,ka1,hl,oa];(repeat refine ca ?_);(refine zJ hJ ?_;clear hJ J))
    rw[hs1];have hl2:(N.set ka (wv (mk g.vs (nbr (g.es.take j) a++[b])))).length=g.vs.length:=by rw[aCU,hl]
    generalize N.set ka (wv (mk g.vs (nbr (g.es.take j) a++[b])))=N2 at *;have db:N2.drop kb=wv mb::N2.drop (kb+1):=by rw[aAN oO];rw[aAh oO,aAb]at nb2;rw[nb2]
    have hs2:=hset N2 kb (wv (mk g.vs (nbr (g.es.take j) b++[a]))) oO
    (repeat (apply qS))
    (refine zS [] [S,s.next,nl,pl] [0,2,4,6,8,10,12,14,16,18,20,22,24,26,28,30,32,34,36,39] ?_;intro J hJ;simp[f3,O1,hP,a1,a2,a3,a4,a5,b1,b2,b3,b4,pb,db,ib,kb1,hl2])
    refine xdP (hBb Q0.1 (by rw[bQ,aAa b1,bY,aAa a2];exact O1) (by rw[bQ,aAa b2,bY,aAa a5];exact hP)) ?_;refine⟨fun h=>by first|(cases h;done)|exact fun _ _=>rfl|simp,?_⟩
    (apply bJ;simp[O1,hP,a1,a2,a3,a4,a5,b1,b2,b3,b4,ib,kb1,hl2,ob];(repeat refine ca ?_);(refine zJ hJ ?_;clear hJ J))
    rw[hs2,hsu];refine xw1 fi ?_;refine hJO _ _ (sF1 fi) (sF1 fn) ⟨sF1 f1,sF1 f3,sF1 f37,⟨by(repeat (first|rw[nHh nOo]|rw[sHh oO]|rw[nIi nQq]|rw[sIi oO]));exact hG,by(repeat (first|rw[nHh nOo]|rw[sHh oO]|rw[nIi nQq]|rw[sIi oO]));exact O1,by(repeat (first|rw[nHh nOo]|rw[sHh oO]|rw[nIi nQq]|rw[sIi oO])),by(repeat (first|rw[nHh nOo]|rw[sHh oO]|rw[nIi nQq]|rw[sIi oO]));exact hP,by(repeat (first|rw[nHh nOo]|rw[sHh oO]|rw[nIi nQq]|rw[sIi oO]));exact hL,by simp only[bH,aG];omega,?_⟩⟩;exact((hk.trans (aA.new _ _)).set oO _).set oO _
   .clear f1 f3 f22 hI hG fr s;rintro fr s ⟨f1,f3,f37,hI⟩;rw[Ob]at hI;unfold newF at hh;cases hes:g.es with
    |nil=>rw[hes]at hh;cases hh
    |cons x es'=>
     rw[hes]at hh;simp only at hh;obtain⟨ring,hring,hh⟩:=aBz.1 hh;by_cases hc:ring.length<=200/\∀ v∈ring,v∈g.vs
     case neg=>rw[aAa hc]at hh;cases hh
     rw[aAj hc,aAb]at hh;subst hh;obtain⟨hrl,hrv⟩:=hc;obtain⟨hG,O1,hN,hP,hL,hb,hk⟩:=id hI;simp only[ak];have hT3:(eds g.es).take 3=edL x:=by rw[hes];simp[eds,edL]
     have hlp:0<g.es.length:=by rw[hes];simp
     have hlp3:0<g.es.length*3:=oO;have hlp4:3<=g.es.length*3:=oO;have hlpi:(0:Int)<g.es.length:=oO;have a1:¬st.next=s.next:=oO;obtain⟨dx,ax,bx⟩:=x;have hTe:∀ s2,aA s s2->s.next<s2.next->s2.H s.next=.box 36 3 (edL ⟨dx,ax,bx⟩)->MX 138 [.pt s.next 0] s2 g.es fun y=>decide (y≠⟨dx,ax,bx⟩):=fun s2 h1 h2 h3 y _ s3 h4=>J5 _ y s.next s3 ((h4.H _ h2).trans h3) (aAs h2 h4.next)
     (refine xj9 f1 hG hel hT3 hlp hlp3 hlp4 hlpi a1 ?_;intro J hJ)
     refine qE (WU g _ _ _ _ oO oO (hTe _ (aA.new _ _) sS sS)) (by simp[grL]) ?_;rintro r s1 ⟨rfl,j7⟩;have N6:=j7.next;simp only[aG]at N6;have hX1:s1.H s.next=.box 36 3 (edL ⟨dx,ax,bx⟩):=by rw[j7.H _ sS];simp
     have hK1:aA s s1:=(aA.new _ _).trans j7;clear j7;have hfl:(g.es.filter fun y=>decide (y≠⟨dx,ax,bx⟩)).length<=1000:=by have:=aBl (fun y:Ed=>decide (y≠⟨dx,ax,bx⟩)) g.es;omega
     have hmay:∀ s,Sx (.atom .nilFunc) (fun _=>true) s:=fun s=>.inl ⟨rfl,fun _=>rfl⟩;rw[<- hes]at hring;have b1:¬s.next=s1.next:=oO
     (refine NI hJ hX1 b1 ?_;intro J hJ)
     refine qE (Path ⟨g.vs,g.es.filter fun y=>decide (y≠⟨dx,ax,bx⟩)⟩ ax bx _ (fun _=>true) 1000 ring _ (by simp only;omega) hfl oO (hmay _) hring) (by simp[grL]) ?_;rintro r s2 ⟨rfl,u6⟩;have O6:=u6.next;simp only[aG]at O6;have hX2:s2.H s.next=.box 36 3 (edL ⟨dx,ax,bx⟩):=by rw[u6.H _ (by simp;omega),bY,aAa b1];exact hX1
     have hK2:aA s s2:=(hK1.trans (aA.new _ _)).trans u6;clear u6
     (refine pG hJ ?_;intro J hJ)
     refine qE (EZ ring 0 _ oO) sS ?_;rintro r s3 ⟨q,rfl,q1,q2,hq,o8⟩
     (refine pG hJ ?_;intro J hJ)
     refine qE (Ag ring q s3 (by unfold small;omega) hq) sS ?_;rintro r s4 e4;have hK4:aA s s4:=by rw[e4];exact(hK2.trans o8).set (by have:=hK2.next;omega) _
     have hn4:s4.next=s3.next:=by rw[e4];rfl
     have hn3:=o8.next;have hq4:s4.H q=.box 34 1 (us ring.reverse):=by rw[e4];simp
     have hX4:s4.H s.next=.box 36 3 (edL ⟨dx,ax,bx⟩):=by rw[e4,bQ,aAa oO,o8.H _ oO];exact hX2
     clear e4 hq o8;have hz:mk g.vs []=0:=(mk_zero g.vs []).2 fun _ _=>by simp
     have hSb4:s4.H S=.box 136 7 [.sl 0 g.vs.length (us g.vs),.sl 0 g.es.length (eds g.es),.ms nl 0 g.vs.length,.mp pl,.mp ll,wv (mk g.vs []),.nil]:=by rw[hz];exact(hK4.H S oO).trans O1
     have hN4:=(hK4.H nl oO).trans hN;have hP4:=(hK4.H pl oO).trans hP;have hL4:=(hK4.H ll oO).trans hL;have c1:¬pl=ll:=fun e=>by rw[e,hL]at hP;cases hP
     have c2:¬nl=ll:=fun e=>by rw[e,hL]at hN;cases hN
     have c3:¬nl=S:=fun e=>by rw[e,O1]at hN;cases hN
     have c4:¬pl=S:=fun e=>by rw[e,O1]at hP;cases hP
     have c5:¬ll=S:=fun e=>by rw[e,O1]at hL;cases hL
     have c6:¬S=ll:=fun e=>c5 e.symm;have hn5:=hK4.next
     (refine JB hJ f3 ?_;intro J hJ)
     refine qE (SI hSb4 hP4 hL4 (L:=[]) rfl c1 hn h64 ring 0 hrv oO) sS ?_;rintro r s5 ⟨le1,e5,hk5⟩;rw[List.nil_append]at e5;have n5:s5.next=s4.next:=by rw[e5];rfl
     have hSb5:s5.H S=.box 136 7 [.sl 0 g.vs.length (us g.vs),.sl 0 g.es.length (eds g.es),.ms nl 0 g.vs.length,.mp pl,.mp ll,wv (mk g.vs ring),.nil]:=by rw[e5];simp
     have hN5:s5.H nl=.box 133 1 (mL g):=by rw[e5];simp[c3,c2,hN4]
     have hP5:s5.H pl=.map false [.u32] (xA g.vs):=by rw[e5];simp[c4,c1,hP4]
     have hL5:s5.H ll=.map true [.u32,.u32] le1:=by rw[e5];simp[c5]
     have hq5:s5.H q=.box 34 1 (us ring.reverse):=by rw[e5];simp[show ¬q=S by omega,show ¬q=ll by omega,hq4]
     have hX5:s5.H s.next=.box 36 3 (edL ⟨dx,ax,bx⟩):=by rw[e5];simp[show ¬s.next=S by omega,show ¬s.next=ll by omega,hX4]
     have hK5:aA st s5:=by rw[e5];exact((hk.trans hK4).set oO _).set oO _
     clear e5 hSb4 hN4 hP4 hL4 hq4 hX4;have x8:=hg.ends ⟨dx,ax,bx⟩ (by rw[hes];simp);simp only at x8;have hv2:∀ v∈[ax,bx],v∈g.vs:=fun v hv=>by
      simp only[aAe,aCd,aDE]at hv;rcases hv with e|e
      .rw[e];exact x8.1
      .rw[e];exact x8.2
     (refine NI hJ hX5 f3 ?_;intro J hJ)
     have hk6:=aA.new s5 (.own 34 1 2);refine qE (SI ((hk6.H S oO).trans hSb5) ((hk6.H pl oO).trans hP5) ((hk6.H ll oO).trans hL5) hk5 c1 hn h64 [ax,bx] s5.next hv2 sS) sS ?_;rintro r s7 ⟨le2,e7,hk7⟩;have n7:s7.next=s5.next+1:=by rw[e7];simp
     have hSb7:s7.H S=.box 136 7 [.sl 0 g.vs.length (us g.vs),.sl 0 g.es.length (eds g.es),.ms nl 0 g.vs.length,.mp pl,.mp ll,wv (mk g.vs (ring++[ax,bx])),.nil]:=by rw[e7];simp
     have d1:¬nl=s5.next:=oO;have d2:¬pl=s5.next:=oO;have d3:¬ll=s5.next:=oO;have hN7:s7.H nl=.box 133 1 (mL g):=by rw[e7];simp[c3,c2,d1,hN5]
     have hP7:s7.H pl=.map false [.u32] (xA g.vs):=by rw[e7];simp[c4,c1,d2,hP5]
     have hL7:s7.H ll=.map true [.u32,.u32] le2:=by rw[e7];simp[c5]
     have hq7:s7.H q=.box 34 1 (us ring.reverse):=by rw[e7];simp[show ¬q=S by omega,show ¬q=ll by omega,show ¬q=s5.next by omega,hq5]
     have hK7:aA st s7:=by rw[e7];exact((hK5.trans hk6).set oO _).set oO _
     clear e7 hSb5 hN5 hP5 hL5 hq5 hX5
     (apply cI;simp[];(refine zJ hJ ?_;clear hJ J))
     refine tL 11 (l:=q) (n:=ring.length) sS hq7 sS ?_;have L0:(us ring.reverse).take (ring.length*1)=us ring.reverse:=by rw[aAu sS]
     rw[L0];have hrv2:∀ v∈ring.reverse,v∈g.vs:=fun v hv=>hrv v (aBm.1 hv);have hrl2:ring.length=ring.reverse.length:=sS;have e1:¬S=q:=oO;have hk8:aA st (s7.set q .dead):=hK7.set oO _;have n8:(s7.set q .dead).next=s7.next:=rfl;have hSb8:(s7.set q .dead).H S=.box 136 7 [.sl 0 g.vs.length (us g.vs),.sl 0 g.es.length (eds g.es),.ms nl 0 g.vs.length,.mp pl,.mp ll,wv (mk g.vs (ring++[ax,bx])),.nil]:=by rw[bQ,aAa e1];exact hSb7
     have hN8:(s7.set q .dead).H nl=.box 133 1 (mL g):=by rw[bQ,aAa oO];exact hN7
     have hP8:(s7.set q .dead).H pl=.map false [.u32] (xA g.vs):=by rw[bQ,aAa oO];exact hP7
     have hL8:(s7.set q .dead).H ll=.map true [.u32,.u32] le2:=by rw[bQ,aAa oO];exact hL7
     generalize s7.set q .dead=s8 at *;have hB8:ShB g.vs S pl s8:=⟨⟨_,_,_,_,_,_,hSb8⟩,hP8⟩;have hFa:=fun(l:List Int) (hl:∀ v∈l,v∈g.vs) (hll:l.length<=1048576)=>QF hB8 oO oO hn h64 l 0 hl hll;have hF2:=hFa ring.reverse hrv2 (by simp;omega);rw[<- hrl2]at hF2
     (repeat (apply qS))
     (refine w_e [116] ?_;intro J hJ;simp only[];simp[f3])
     refine xcP (hFa ring hrv oO) ?_
     (apply cI;simp[f3])
     refine qE hF2 sS ?_;rintro r s9 ⟨rfl,e9⟩;rw[e9];clear e9 s9;have z1:¬S=s8.next:=oO;refine wJ hJ hSb8 z1 f3 ?_;have hfac:[LV.sl 0 ring.length (us ring),wv (mk g.vs ring),LV.sl 0 ring.length (List.map u ring).reverse,wv (mk g.vs ring.reverse)]=iA g.vs [ring,ring.reverse]:=by simp[iA]
     rw[hfac];refine⟨nl,pl,ll,s8.next,⟨le2,⟨⟨sS,?_,?_,?_,hk7,?_⟩,?_,?_,?_,?_,sS⟩⟩,⟨oO,oO,by have:=hk8.next;omega⟩,(hk8.trans (aA.new _ _)).set oO _⟩
     ·(repeat (first|rw[nHh nOo]|rw[sHh oO]|rw[nIi nQq]|rw[sIi oO]));exact hN8
     ·(repeat (first|rw[nHh nOo]|rw[sHh oO]|rw[nIi nQq]|rw[sIi oO]));exact hP8
     ·(repeat (first|rw[nHh nOo]|rw[sHh oO]|rw[nIi nQq]|rw[sIi oO]));exact hL8
     .simp only[bH,aG];omega
     ·(repeat (first|rw[nHh nOo]|rw[sHh oO]|rw[nIi nQq]|rw[sIi oO]))
     .simp only[bH,aG];omega
     .intro r hr v hv;simp only[aAe,aCd,aDE]at hr;rcases hr with e|e
      .rw[e]at hv;exact hrv v hv
      .rw[e]at hv;exact hrv2 v hv
     .intro v hv;rw[aAd]at hv;exact hv.elim (hrv v) (hv2 v)
theorem GM(x:Int)(st:St):aB prog 42 [u x] st fun r st'=>r=u x/\aA st st':=by refine zN func42 ntmps42 [.tmp 2] ?_;refine xw0 ?_;exact aA.refl _
theorem Ec(x:Ed)(st:St):aB prog 44 [.ag (edL x)] st fun r st'=>r=u x.id/\aA st st':=by obtain⟨d,a,b⟩:=x;refine zN func44 ntmps44 [.tmp 2] ?_;refine xw0 ?_;exact aA.new _ _
@[simp] def Rx(fn:FuncId):cN:=.box 59 1 [.fn (.func fn) []]
@[simp] def Cb(fn:FuncId):cN:=.box 61 1 [.fn (.func fn) []]
def PcU(b:Nat)(st:St):Prop:=b<st.next/\st.H b=Rx 42
def PcE(b:Nat)(st:St):Prop:=b<st.next/\st.H b=Cb 44
theorem Ps(b:Nat)(x y:Int)(st:St)(h:PcU b st):aB prog 76 [u x,u y,.pt b 0] st fun r st'=>r=i (U.tP ⟨x⟩ ⟨y⟩)/\aA st st':=by
 obtain⟨hb,hH⟩:=h;simp only[Rx]at hH;refine zN func76 ntmps76 [.tmp 5] ?_;refine xw0 ?_
 (refine zS [] [b] [0,2,6,8,4,10,12,14] ?_;intro J hJ;simp[hH])
 refine aO (GM x st) ?_;rintro r s1 ⟨rfl,j7⟩;have hH1:=(j7.H b hb).trans hH;refine⟨fun _=>by simp[hH1,hH],?_⟩
 (apply bJ;simp[hH1,hH])
 refine aO (GM y s1) ?_;rintro r s2 ⟨rfl,u6⟩;have Y7:=(u6.H b (aAs hb j7.next)).trans hH1;refine⟨fun _=>by simp[Y7,hH],?_⟩
 (apply bJ;simp[Y7,hH])
 refine aO (Lf x y s2) ?_;rintro r s3 ⟨rfl,rfl⟩;refine⟨fun _=>by simp[Y7,hH],?_⟩
 (apply bJ;simp[Y7,hH];refine zJ hJ ?_)
 (repeat' (refine qR (zZ ?_);simp[U.tP]))
 exact j7.trans u6
theorem Pk(b:Nat)(x y:Int)(st:St)(h:PcU b st):aB prog 79 [u x,u y,.pt b 0] st fun r st'=>r=bb (decide (x=y))/\aA st st':=by
 obtain⟨hb,hH⟩:=h;simp only[Rx]at hH;refine zN func79 ntmps79 [.tmp 5] ?_;refine xw0 ?_
 (refine zS [] [b] [0,2,6,8,4,10,12,14] ?_;intro J hJ;simp[hH])
 refine aO (GM x st) ?_;rintro r s1 ⟨rfl,j7⟩;have hH1:=(j7.H b hb).trans hH;refine⟨fun _=>by simp[hH1,hH],?_⟩
 (apply bJ;simp[hH1,hH])
 refine aO (GM y s1) ?_;rintro r s2 ⟨rfl,u6⟩;have Y7:=(u6.H b (aAs hb j7.next)).trans hH1;refine⟨fun _=>by simp[Y7,hH],?_⟩
 (apply bJ;simp[Y7,hH];refine zJ hJ ?_)
 refine xw0 ?_;exact⟨by by_cases h:x=y<;>simp[h],j7.trans u6⟩
theorem PT(b:Nat)(x y:Ed)(st:St)(h:PcE b st):aB prog 81 [.ag (edL x),.ag (edL y),.pt b 0] st fun r st'=>r=i (tP x y)/\aA st st':=by
 obtain⟨hb,hH⟩:=h;obtain⟨xi,xa,xb⟩:=x;obtain⟨yi,ya,yb⟩:=y;simp only[Cb]at hH;have b1:¬b=st.next:=oO;have b2:¬b=st.next+1:=oO;refine zN func81 ntmps81 [.tmp 5] ?_;refine xw0 ?_
 (refine zS [] [b,st.next,st.next+1] [0,2,6,8,4,10,12,14] ?_;intro J hJ;simp[hH,b1,b2])
 refine aO (Ec ⟨xi,xa,xb⟩ _) ?_;rintro r s1 ⟨rfl,j7⟩;have N6:=j7.next;simp only[aG]at N6;have hH1:s1.H b=Cb 44:=by rw[j7.H b (by simp;omega)];simp[b1,b2,hH]
 have hX1:s1.H st.next=.box 36 3 [u xi,u xa,u xb]:=by rw[j7.H _ (by simp;omega)];simp
 have hY1:s1.H (st.next+1)=.box 36 3 [u yi,u ya,u yb]:=by rw[j7.H _ sS];simp
 simp only[Cb]at hH1;refine⟨fun _=>by simp[hH1,hH,hX1,hY1,b1,b2],?_⟩
 (apply bJ;simp[hH1,hH,hX1,hY1])
 refine aO (Ec ⟨yi,ya,yb⟩ s1) ?_;rintro r s2 ⟨rfl,u6⟩;have Y7:=(u6.H b oO).trans hH1;have hX2:=(u6.H st.next oO).trans hX1;have hY2:=(u6.H (st.next+1) oO).trans hY1;refine⟨fun _=>by simp[Y7,hH,hX2,hY2,b1,b2],?_⟩
 (apply bJ;simp[Y7,hH,hX2,hY2])
 refine aO (Lf xi yi s2) ?_;rintro r s3 ⟨rfl,rfl⟩;refine⟨fun _=>by simp[Y7,hH,hX2,hY2,b1,b2],?_⟩
 (apply bJ;simp[Y7,hH,hX2,hY2];refine zJ hJ ?_)
 (repeat' (refine qR (zZ ?_);simp[tP]))
 exact(((aA.new _ _).trans (aA.new _ _)).trans j7).trans u6
theorem PL(b:Nat)(x y:Ed)(st:St)(h:PcE b st):aB prog 83 [.ag (edL x),.ag (edL y),.pt b 0] st fun r st'=>r=bb (decide (x.id=y.id))/\aA st st':=by
 obtain⟨hb,hH⟩:=h;obtain⟨xi,xa,xb⟩:=x;obtain⟨yi,ya,yb⟩:=y;simp only[Cb]at hH;have b1:¬b=st.next:=oO;have b2:¬b=st.next+1:=oO;refine zN func83 ntmps83 [.tmp 5] ?_;refine xw0 ?_
 (refine zS [] [b,st.next,st.next+1] [0,2,6,8,4,10,12,14] ?_;intro J hJ;simp[hH,b1,b2])
 refine aO (Ec ⟨xi,xa,xb⟩ _) ?_;rintro r s1 ⟨rfl,j7⟩;have N6:=j7.next;simp only[aG]at N6;have hH1:s1.H b=Cb 44:=by rw[j7.H b (by simp;omega)];simp[b1,b2,hH]
 have hX1:s1.H st.next=.box 36 3 [u xi,u xa,u xb]:=by rw[j7.H _ (by simp;omega)];simp
 have hY1:s1.H (st.next+1)=.box 36 3 [u yi,u ya,u yb]:=by rw[j7.H _ sS];simp
 simp only[Cb]at hH1;refine⟨fun _=>by simp[hH1,hH,hX1,hY1,b1,b2],?_⟩
 (apply bJ;simp[hH1,hH,hX1,hY1])
 refine aO (Ec ⟨yi,ya,yb⟩ s1) ?_;rintro r s2 ⟨rfl,u6⟩;have Y7:=(u6.H b oO).trans hH1;have hX2:=(u6.H st.next oO).trans hX1;have hY2:=(u6.H (st.next+1) oO).trans hY1;refine⟨fun _=>by simp[Y7,hH,hX2,hY2,b1,b2],?_⟩
 (apply bJ;simp[Y7,hH,hX2,hY2];refine zJ hJ ?_)
 refine xw0 ?_;exact⟨by by_cases h:xi=yi<;>simp[h],(((aA.new _ _).trans (aA.new _ _)).trans j7).trans u6⟩
theorem XG(b q:Nat)(hbq:b≠q):U.iI 76 [.pt b 0] q (PcU b):=
 ⟨fun st st' h Q3=>⟨aAs h.1 Q3.1,(Q3.2 b hbq h.1).trans h.2⟩,fun st x y h=>Ps b x.id y.id st h⟩
theorem Yr(b q:Nat)(hbq:b≠q):iI 81 [.pt b 0] q (PcE b):=
 ⟨fun st st' h Q3=>⟨aAs h.1 Q3.1,(Q3.2 b hbq h.1).trans h.2⟩,fun st x y h=>PT b x y st h⟩
theorem eqU(b:Nat):WX 79 [.pt b 0] (PcU b):=
 ⟨fun st st' h hk=>⟨aAs h.1 hk.next,(hk.H b h.1).trans h.2⟩,fun st x y h=>Pk b x y st h⟩
theorem eqE(b:Nat):WH 83 [.pt b 0] (PcE b):=
 ⟨fun st st' h hk=>⟨aAs h.1 hk.next,(hk.H b h.1).trans h.2⟩,fun st x y h=>PL b x y st h⟩
theorem WG(l:List Int):(l.map U.Nu.mk).map U.Nu.id=l:=by rw[aAW];exact aEM l
theorem Tp(D0:List Int)(q:Nat)(x7:FuncId)(Gj:List LV)(Pc:St->Prop)(st:St)(y9:U.iI x7 Gj q Pc)(V1:Pc st)(hq:q<st.next)(hl:D0.length<=100000)(hH:st.H q=.box 34 1 (us D0)):
 aB prog 75 [.ms q 0 D0.length,.fn (.func x7) Gj] st fun r st'=>∃ D,D.Perm D0/\D.Pairwise (fun x y=>x<=y)/\st'.H q=.box 34 1 (us D)/\bP q st st':=by
 have hc:=U.Jw (D0.map U.Nu.mk) q D0.length x7 Gj Pc st y9 V1 hq (aAD _) oO (by rw[hH];unfold U.eds;rw[WG]);refine zN func75 ntmps75 [] ?_
 (refine xj0 ?_;intro J hJ)
 refine qE hc sS ?_;rintro r s1 ⟨D,h1,h2,h3,h4⟩;refine dQ hJ ?_;refine⟨trivial,D.map U.Nu.id,?_,aAV.2 h2,h3,h4⟩;have:=h1.map U.Nu.id
 rwa [WG]at this
theorem UR(D0:List Ed)(q:Nat)(x7:FuncId)(Gj:List LV)(Pc:St->Prop)(st:St)(y9:iI x7 Gj q Pc)(V1:Pc st)(hq:q<st.next)(hl:D0.length<=100000)(hH:st.H q=.box 36 3 (eds D0)):
 aB prog 80 [.ms q 0 D0.length,.fn (.func x7) Gj] st fun r st'=>∃ D,D.Perm D0/\Ris D/\st'.H q=.box 36 3 (eds D)/\bP q st st':=by
 have hc:=Jw D0 q _ x7 Gj Pc st y9 V1 hq rfl hl hH;refine zN func80 ntmps80 [] ?_
 (refine xj0 ?_;intro J hJ)
 refine qE hc sS ?_;rintro r s1 h;refine dQ hJ ?_;exact⟨trivial,h⟩
theorem Ua(l:List Ed)(t:Nat)(st:St)(hl:l.length<=1000)(hn:(l.map (·.id)).Nodup):
 aB prog 43 [.sl t l.length (eds l),.fn (.func 44) []] st fun r st'=>(∃ E:List Ed,E.Perm l/\(E.map (·.id)).Pairwise (· < ·)/\r=.sl 0 E.length (eds E))/\aA st st':=by
 refine cD ?_;have hel:=aK l;refine zN func43 ntmps43 [.tmp 4] ?_
 (refine xj0 ?_;intro J hJ)
 refine qE (VD l t _ oO) sS ?_;rintro r s1 ⟨q,rfl,hq1,S9,Z9,j7⟩;have N6:=j7.next;simp only[aG]at N6 hq1;have hF1:PcE st.next s1:=⟨oO,by rw[j7.H _ sS];simp⟩;have k1:aA st s1:=(aA.new _ _).trans j7
 (refine pG hJ ?_;intro J hJ)
 refine qE (UR l q _ [.pt st.next 0] (PcE st.next) s1 (Yr st.next q oO) hF1 S9 oO Z9) sS ?_;rintro r s2 ⟨D,hp,hr,hB2,Q3⟩;have O6:=Q3.1;have lD:=hp.length_eq;have hF2:=(Yr st.next q oO).keep _ _ hF1 Q3;have k2:aA st s2:=⟨by have:=k1.next;omega,fun l hl=>(Q3.2 l oO (by have:=k1.next;omega)).trans (k1.H l hl)⟩;have dA:(D.map (·.id)).Pairwise (· < ·):=by
  have hnd:(D.map (·.id)).Nodup:=(hp.map (·.id)).nodup_iff.2 hn;have hr2:(D.map (·.id)).Pairwise (·<=·):=by rw[aAV];exact hr
  refine(List.Pairwise.and hr2 hnd).imp fun h=>?_;have:=h.1;have:=h.2;omega
 have c7:∀ j,j+1<D.length->(D.getD (j+1) ed0).id≠(D.getD j ed0).id:=fun j hj=>by have:=aAC.1 dA j (j+1) (by simp;omega) (by simpa using hj) oO;simp only[aCy]at this;rw[aAg,aAg,aAh hj,aAh (by omega:j<D.length)];simp only[Option.getD_some];omega
 (refine pG hJ ?_;intro J hJ)
 refine qE (Qc D q _ [.pt st.next 0] (PcE st.next) s2 (eqE st.next) hF2 oO c7 oO hB2) (sF1 lD) ?_;rintro r s3 ⟨rfl,o8⟩;have hB3:=(o8.H q oO).trans hB2;have helD:=aK D;refine dQ hJ ?_;exact⟨q,D.length,⟨rfl,rfl⟩,36,3,eds D,hB3,oO,⟨D,hp,dA,rfl,by rw[aAu oO]⟩,(k2.trans o8).set oO _⟩
end Aw
namespace Aw.Cu
open Go Go.RowKit Pl Aw
def sW(c:List Int):Nat->List Int
 |0=>[]
 |k+1=>if k=0\/c.getD k 0≠c.getD (k-1) 0 then sW c k++[c.getD k 0]else sW c k
structure Rsn(c:List Int)(k:Nat)(l:List Int):Prop where
 lt:l.Pairwise (· < ·)
 mem:∀ y,y∈l↔∃ j,j<k/\c.getD j 0=y
theorem CY{c:List Int}(h:c.Pairwise (·<=·)):∀ k,k<=c.length->Rsn c k (sW c k)
 |0,_=>⟨.nil,fun y=>by simp[sW]⟩
 |k+1,hk=>by
  have ih:=CY h k oO;have u7:∀ j,j<k->c.getD j 0<=c.getD (k-1) 0:=fun j hj=>by
   rcases aAM j (k-1)with h1|h1
   .rw[aAg,aAh oO,aAg,aAh oO];exact aAC.1 h j (k-1) oO oO h1
   .obtain rfl:j=k-1:=oO;exact aDj _
  have hle2:0<k->c.getD (k-1) 0<=c.getD k 0:=fun h0=>by rw[aAg,aAh oO,aAg,aAh oO];exact aAC.1 h (k-1) k oO oO oO
  unfold sW
  split
  .rename_i h0;refine⟨?_,fun y=>?_⟩
   .rw[aBU];refine⟨ih.lt,aDv _ _,fun a ha b hb=>?_⟩;rw[aAk]at hb;subst hb;obtain⟨j,hj,rfl⟩:=(ih.mem a).1 ha;have:=u7 j hj;have:=hle2 oO;rcases h0 with h0|h0
    .omega
    .omega
   .rw[aAd,aAk,ih.mem];constructor
    .rintro(⟨j,hj,rfl⟩|rfl)
     .exact⟨j,oO,rfl⟩
     .exact⟨k,oO,rfl⟩
    .rintro⟨j,hj,rfl⟩;rcases aAM j k with h1|h1
     .exact .inl ⟨j,h1,rfl⟩
     .obtain rfl:j=k:=oO;exact .inr rfl
  .rename_i h0;refine⟨ih.lt,fun y=>?_⟩;rw[ih.mem];constructor
   .rintro⟨j,hj,rfl⟩;exact⟨j,oO,rfl⟩
   .rintro⟨j,hj,rfl⟩;rcases aAM j k with h1|h1
    .exact⟨j,h1,rfl⟩
    .obtain rfl:j=k:=oO;exact⟨j-1,oO,oO⟩
def cpt(c:List Int):List Int:=sW c c.length
theorem Ws{c:List Int}(h:c.Pairwise (·<=·)):(cpt c).Pairwise (· < ·):=(CY h _ (aAl _)).lt
theorem Ty{c:List Int}(h:c.Pairwise (·<=·))(y:Int):y∈cpt c↔y∈c:=by
 unfold cpt;rw[(CY h _ (aAl _)).mem];constructor
 .rintro⟨j,hj,rfl⟩;rw[aAg,aAh hj];exact aAE _
 .intro hy;obtain⟨j,hj,rfl⟩:=aAA hy;exact⟨j,hj,by rw[aAg,aAh hj];rfl⟩
theorem AU(c:List Int):∀ k,k<=c.length->(∀ j,0<j->j<k->c.getD j 0≠c.getD (j-1) 0)->sW c k=c.take k
 |0,_,_=>rfl
 |k+1,hk,h=>by
  have ih:=AU c k oO fun j h1 h2=>h j h1 oO;have hg:c.take (k+1)=c.take k++[c.getD k 0]:=by rw[aAg,aAh oO];exact aAp oO
  unfold sW;rw[aAj,ih,hg];rcases aCB k with h0|h0
  .exact .inl h0
  .exact .inr (h k h0 oO)
theorem Oz(c:List Int)(h:c.length<2):cpt c=c:=by unfold cpt;rw[AU c c.length (aAl _) fun j h1 h2=>by omega,aAU]
theorem QJ(c:List Int)(q:Nat)(x7:FuncId)(Gj:List LV)(Pc:St->Prop)(st:St)(heq:WX x7 Gj Pc)(j8:∀ s s',Pc s->bP q s s'->Pc s')(V1:Pc st)(hl:c.length<=100000)(hq:q<st.next)(hH:st.H q=.box 34 1 (us c)):
 aB prog 78 [.ms q 0 c.length,.fn (.func x7) Gj] st fun r st'=>r=.ms q 0 (cpt c).length/\(∃ cs,st'.H q=.box 34 1 (us (cpt c)++cs))/\bP q st st':=by
 refine zN func78 ntmps78 [.tmp 4] ?_;by_cases h2:c.length<2
 .have h2':(c.length:Int)<2:=oO;have hc:=Oz c h2;rw[hc];refine xw2 h2' h2 ?_;exact⟨⟨[],by rw[hH,aAS]⟩,bP.refl _ _⟩
 have h2':¬(c.length:Int)<2:=oO;refine xw2 h2' h2 ?_;refine qL (fun z fr st2=>∃ k:Nat,0<k/\k<=c.length/\z=c.length-k/\fr 0=.ms q 0 c.length/\fr 1=.fn (.func x7) Gj/\fr 5=i k/\aA st st2/\∀ j,0<j->j<k->c.getD j 0≠c.getD (j-1) 0) (c.length-1) ?_ ?_
 .exact⟨1,oO,oO,rfl,sS,sS,sS,aA.refl _,fun j h1 h2=>by omega⟩
 rintro z fr st2 ⟨k,S7,hkl,rfl,f0,f1,f5,hks,x9⟩ JJ hJJ;by_cases dA:k<c.length;rotate_left
 .clear hJJ;have hc:cpt c=c:=by unfold cpt;rw[AU c c.length (aAl _) fun j h1 h2=>x9 j h1 oO,aAU]
  rw[hc];refine xw3 f0 f5 dA ?_;exact⟨⟨[],by rw[hks.H q hq,hH,aAS]⟩,(bP.refl q st).keeps hks⟩
 obtain⟨k1,rfl⟩:∃ k1,k=k1+1:=⟨k-1,oO⟩;have hd:=qG c (k1+1) dA;have z7:=qG c k1 oO;have w1:IntKind.i64.wrap (k1:Int)=(k1:Int):=zW;have w2':IntKind.i64.wrap ((k1:Int)+1+1)=(k1:Int)+1+1:=wrap_i64 _ oO oO;have hkl1:k1<c.length:=oO;have L5:(k1:Int)+1<c.length:=oO;have M6:c.getD (k1+1) 0≠c.getD k1 0->∀ j,0<j->j<k1+1+1->c.getD j 0≠c.getD (j-1) 0:=fun h j h1 h3=>by
  rcases aAM j (k1+1)with h4|h4
  .exact x9 j h1 h4
  .obtain rfl:j=k1+1:=oO;exact h
 have hid:=AU c (k1+1) oO x9;have P9:c.getD (k1+1) 0=c.getD k1 0->sW c (k1+1+1)=c.take (k1+1):=fun h=>by
  rw[sW,aAa,hid];rintro(h3|h3)
  .omega
  .exact h3 h
 have Y7:=(hks.H q hq).trans hH;have hPc2:=heq.1 _ _ V1 hks;have hc:=heq.2 st2 (c.getD (k1+1) 0) (c.getD k1 0) hPc2;generalize hx:c.getD (k1+1) 0=x at *;generalize hy:c.getD k1 0=y at *;refine xw4 f0 f5 dA L5 ?_
 (refine zS [] [q] [0,2,4,6,8,10,12,14,16,18,21] ?_;intro J hJ;simp[f0,f1,f5,dA,L5,hd,z7,w1,hkl1,Y7];(repeat refine ca ?_))
 refine aO hc ?_;rintro r s3 ⟨rfl,o8⟩;have hH3:=(o8.H q (aAs hq hks.next)).trans Y7;have hPc3:=heq.1 _ _ hPc2 o8;have hk13:=hks.trans o8;refine⟨fun _=>by simp[hH3,Y7],?_⟩
 (apply bJ;simp[hH3,Y7];refine zJ hJ ?_)
 by_cases L7:x=y;rotate_left
 .refine xw3 f5 w2' L7 ?_;exact hJJ (c.length-(k1+1+1)) _ _ oO ⟨k1+1+1,oO,oO,rfl,sF1 f0,sF1 f1,sS,hk13,M6 L7⟩
 clear hJJ M6;have P9:=P9 L7;clear w2' hid x9 hc;refine Fx f0 f5 dA L5 hd z7 w1 hkl1 L7 hH3 ?_;refine qL (fun z fr s=>∃(p w:Nat) (d:List Int),k1+1+(p+1)<=c.length/\z=c.length-(k1+1+(p+1))/\w=(sW c (k1+1+(p+1))).length/\w<=k1+1+p/\fr 0=.ms q 0 c.length/\fr 1=.fn (.func x7) Gj/\fr 5=i w/\fr 6=.ms q (k1+1) (c.length-(k1+1))/\fr 7=i (p+1:Nat)/\d.length=c.length/\d.take w=sW c (k1+1+(p+1))/\d.drop (k1+1+p)=c.drop (k1+1+p)/\s.H q=.box 34 1 (us d)/\Pc s/\bP q st s) (c.length-(k1+1+1)) ?_ ?_
 .refine⟨0,k1+1,c,oO,oO,by rw[P9];simp;omega,oO,sF1 f0,sF1 f1,sF1 f5,sS,sS,rfl,P9.symm,rfl,hH3,hPc3,(bP.refl q st).keeps hk13⟩
 clear hd z7 w1 L5 hx hy L7 P9 f0 f1 f5 fr hH3 hPc3 hk13 o8 Y7 hPc2 hks s3 st2;rintro z fr s ⟨p,w,d,U3,rfl,hw,hwl,f0,f1,f5,f6,f7,hdl,hdt,hdd,hsH,hPs,Q3⟩ JJ hJJ;by_cases hlp:k1+1+(p+1)<c.length
 .have e1:∀ j,k1+1+p<=j->d.getD j 0=c.getD j 0:=fun j hj=>by
   have h1:(d.drop (k1+1+p)).getD (j-(k1+1+p)) 0=(c.drop (k1+1+p)).getD (j-(k1+1+p)) 0:=by rw[hdd]
   simp only[aAg,aDs]at h1 ⊢;rw[show k1+1+p+(j-(k1+1+p))=j by omega]at h1;exact h1
  have hd:=qG d (k1+1+(p+1)) oO;have z7:=qG d (k1+1+p) oO;rw[e1 _ oO]at hd;rw[e1 _ oO]at z7;have L8:sW c (k1+1+(p+1)+1)=if c.getD (k1+1+(p+1)) 0≠c.getD (k1+1+p) 0 then sW c (k1+1+(p+1))++[c.getD (k1+1+(p+1)) 0]else sW c (k1+1+(p+1)):=by
   rw[sW,show k1+1+(p+1)-1=k1+1+p by omega];by_cases h:c.getD (k1+1+(p+1)) 0≠c.getD (k1+1+p) 0
   .rw[aAj (.inr h),aAj h]
   .rw[aAa (by rintro(h1|h1);omega;exact h h1),aAa h]
  have hdd2:d.drop (k1+1+(p+1))=c.drop (k1+1+(p+1)):=by
   have h1:(d.drop (k1+1+p)).drop 1=(c.drop (k1+1+p)).drop 1:=by rw[hdd]
   rwa [aCp,aCp,show k1+1+p+1=k1+1+(p+1) by omega]at h1
  have w1:IntKind.i64.wrap (p:Int)=(p:Int):=zW;have w2:IntKind.i64.wrap ((p:Int)+1+1)=(p:Int)+1+1:=zW;have w3:=qN w oO;have hA:p+1<c.length-(k1+1):=oO;have hA':(p:Int)+1<(c.length-(k1+1):Nat):=oO;have hB:p<c.length-(k1+1):=oO;have hW:w<c.length:=oO;have hc:=heq.2 s (c.getD (k1+1+(p+1)) 0) (c.getD (k1+1+p) 0) hPs;generalize c.getD (k1+1+(p+1)) 0=x at *;generalize c.getD (k1+1+p) 0=y at *;refine xw6 f0 f5 f6 f7 hA hA' ?_
  (refine zS [] [q] [0,2,4,6,8,10,12,14,16,18,21,22] ?_;intro J hJ;simp[f0,f1,f5,f6,f7,hA,hA',hB,hd,z7,w1,hdl,hsH];(repeat refine ca ?_))
  refine aO hc ?_;rintro r s3 ⟨rfl,o8⟩;have hqs:q<s.next:=aAs hq Q3.1;have hH3:=(o8.H q hqs).trans hsH;have hP3:=heq.1 _ _ hPs o8;have hof3:=Q3.keeps o8;refine⟨fun _=>by simp[hH3,hsH],?_⟩
  (apply bJ;simp[hH3,hsH];refine zJ hJ ?_)
  by_cases L7:x=y
  .rw[aAa (fun h=>h L7)]at L8;refine xw5 f5 f6 f7 w2 L7 ?_;refine hJJ (c.length-(k1+1+(p+1+1))) _ _ oO ⟨p+1,w,d,oO,rfl,?_,oO,sF1 f0,sF1 f1,sF1 f5,sF1 f6,sS,hdl,?_,hdd2,hH3,hP3,hof3⟩
   .rw[show k1+1+(p+1+1)=k1+1+(p+1)+1 by omega,L8];exact hw
   .rw[show k1+1+(p+1+1)=k1+1+(p+1)+1 by omega,L8];exact hdt
  .rw[aAj L7]at L8;have hset:=Fb d w x oO;refine RU f0 f5 f6 f7 hA hA' hB hd z7 w1 w2 w3 hdl L7 hW hH3 ?_;refine hJJ (c.length-(k1+1+(p+1+1))) _ _ oO ⟨p+1,w+1,d.set w x,oO,rfl,?_,oO,sF1 f0,sF1 f1,sS,sF1 f6,sS,sF1 hdl,?_,?_,?_,?_,?_⟩
   .rw[show k1+1+(p+1+1)=k1+1+(p+1)+1 by omega,L8,aAn,<- hw];rfl
   .rw[show k1+1+(p+1+1)=k1+1+(p+1)+1 by omega,L8,SC d w x oO,hdt]
   .rw[show k1+1+(p+1)=k1+1+p+1 by omega,set_drop d w (k1+1+p) x oO];rw[show k1+1+p+1=k1+1+(p+1) by omega];exact hdd2
   .simp[hset]
   .exact j8 _ _ hP3 ((bP.refl q _).set _)
   .exact hof3.set _
 clear hJJ;have S4:k1+1+(p+1)=c.length:=oO;rw[S4]at hw hdt;have hcw:(cpt c).length=w:=hw.symm;have hct:d.take w=cpt c:=hdt;have hA:¬p+1<c.length-(k1+1):=oO;have hA':¬(p:Int)+1<(c.length-(k1+1):Nat):=oO;have hW:w<=c.length:=oO;rw[hcw,<- hct];refine xw9 f0 f5 f6 f7 hA hA' hdl hW hsH ?_;exact Q3.set _
end Aw.Cu
namespace Aw
open Go Go.RowKit Pl
def xZ(x:Int):List Int->List Int
 |[]=>[x]
 |y::l=>if x<y then x::y::l else if y<x then y::xZ x l else y::l
theorem rM(x z:Int):∀ l:List Int,z∈xZ x l↔z=x\/z∈l
 |[]=>by simp[xZ]
 |y::l=>by
  unfold xZ
  split
  .simp
  .split
   .simp only[aAe,rM x z l]
    grind
   grind
theorem zQ(x:Int):∀ l:List Int,l.Pairwise (· < ·)->(xZ x l).Pairwise (· < ·)
 |[],_=>by simp[xZ]
 |y::l,h=>by
  obtain⟨h1,h2⟩:=aBf.1 h;unfold xZ
  split
  .grind [List.pairwise_cons]
  .split
   .refine aBf.2 ⟨fun z hz=>?_,zQ x l h2⟩
    grind [rM]
   omega
def vsF:List Ed->List Int
 |[]=>[]
 |e::E=>xZ e.a (xZ e.b (vsF E))
theorem kY:∀ E,(vsF E).Pairwise (· < ·)
 |[]=>.nil
 |e::E=>zQ _ _ (zQ _ _ (kY E))
theorem bA(v:Int):∀ E,v∈vsF E↔∃ e∈E,v=e.a\/v=e.b
 |[]=>by simp[vsF]
 |e::E=>by
  unfold vsF;rw[rM,rM,bA v E]
  grind
def fO(E:List Ed):List Int:=E.flatMap fun e=>[e.a,e.b]
theorem wR(E:List Ed):(fO E).length=E.length*2:=by
 induction E with
 |nil=>rfl
 |cons e E ih=>grind [fO]
theorem Ot(v:Int)(E:List Ed):v∈fO E↔∃ e∈E,v=e.a\/v=e.b:=by simp[fO]
theorem Jd(E:List Ed)(k:Nat)(hk:k<E.length):fO (E.take (k+1))=fO (E.take k)++[(E.getD k ed0).a,(E.getD k ed0).b]:=by
 grind [List.take_succ_eq_append_getElem,fO]
theorem Vc(l:List Int)(t:Nat)(st:St)(hl:l.length<=1000):
 aB prog 41 [.sl t l.length (us l),.fn (.func 42) []] st fun r st'=>(∃ V:List Int,V.Pairwise (· < ·)/\(∀ v,v∈V↔v∈l)/\r=.sl 0 V.length (us V))/\aA st st':=by
 refine cD ?_;refine zN func41 ntmps41 [.tmp 4] ?_
 (refine xj0 ?_;intro J hJ)
 refine qE (EZ l t _ oO) sS ?_;rintro r s1 ⟨q,rfl,hq1,S9,Z9,j7⟩;have N6:=j7.next;simp only[aG]at N6 hq1;have hF1:PcU st.next s1:=⟨oO,by rw[j7.H _ sS];simp⟩;have k1:aA st s1:=(aA.new _ _).trans j7
 (refine pG hJ ?_;intro J hJ)
 refine qE (Tp l q _ [.pt st.next 0] (PcU st.next) s1 (XG st.next q oO) hF1 S9 oO Z9) sS ?_;rintro r s2 ⟨D,hp,hr,hB2,Q3⟩;have O6:=Q3.1;have lD:=hp.length_eq;have hF2:=(XG st.next q oO).keep _ _ hF1 Q3;have k2:aA st s2:=⟨oO,fun l hl=>(Q3.2 l oO oO).trans (k1.H l hl)⟩;have hc1:=Cu.Ws hr;have hc2:=fun v=>Cu.Ty hr v
 (refine pG hJ ?_;intro J hJ)
 refine qE (Cu.QJ D q _ [.pt st.next 0] (PcU st.next) s2 (eqU st.next) (XG st.next q oO).keep hF2 oO oO hB2) (sF1 lD) ?_;rintro r s3 ⟨rfl,⟨cs,hB3⟩,hof3⟩;have k3:aA st s3:=⟨by have:=k2.next;have:=hof3.1;omega,fun l hl=>(hof3.2 l oO oO).trans (k2.H l hl)⟩;generalize Cu.cpt D=V at *;refine dQ hJ ?_;exact⟨q,V.length,⟨rfl,rfl⟩,34,1,us V++cs,hB3,sS,⟨V,hc1,fun v=>(hc2 v).trans hp.mem_iff,rfl,by grind⟩,k3.set oO _⟩
theorem ZU(es:List Ed)(t1 t2:Nat)(st:St)(he:es.length<=200)(hen:es.Pairwise fun x y=>x.id<y.id):
 aB prog 18 [.sl t1 (fO es).length (us (fO es)),.sl t2 es.length (eds es)] st fun r st'=>r=.ag (grL ⟨vsF es,es⟩)/\aA st st':=by
 have hel:=wR es;have hm:(es.map (·.id)).Pairwise (· < ·):=by rw[aAV];exact hen
 refine zN func18 ntmps18 [.cell 4 25] ?_
 (refine xj0 ?_;intro J hJ)
 refine qE (Vc (fO es) t1 _ oO) sS ?_;rintro r s1 ⟨⟨V,hV1,hV2,rfl⟩,j7⟩;have hV:V=vsF es:=AD id (by grind) (by grind [kY]) fun v=>by grind [Ot,bA]
 subst hV;have N6:=j7.next;simp only[aG]at N6;have X7:s1.H st.next=.box 25 2 [.nil,.nil]:=by rw[j7.H _ sS];simp
 refine dQ hJ ?_;refine qE (Ua es t2 _ oO (hm.imp fun h=>by omega)) sS ?_;rintro r s2 ⟨⟨E,hE1,hE2,rfl⟩,u6⟩;have hE:=AD (·.id) hE2 hm fun x=>hE1.mem_iff;subst hE;have O6:=u6.next;have hG2:=(u6.H st.next oO).trans X7;refine nL hJ hG2 ?_;exact(((aA.new _ _).trans j7).trans u6).set oO _
def MP(g:Gr)(h:Sh)(at':Nat)(w:List Int):Prop:=at' < h.F.length/\2<=w.length/\w.length<=200/\(∀ v∈w,v∈g.vs)/\(h.F.getD at' []).length<=1000/\w.getD 0 0∈h.F.getD at' []/\w.getD (w.length-1) 0∈h.F.getD at' []/\h.F.length<300
instance (g:Gr) (h:Sh) (a:Nat) (w:List Int):Decidable (MP g h a w):=by unfold MP;infer_instance
def yO(g:Gr)(h:Sh):Option (Option Sh):=(Ng g h.L h.on).bind fun B=>
 if(∀ b∈B,∀ v∈b.ends,v∈g.vs)/\B.length<=300/\∀ v∈(bI h.F B (⟨[],[]⟩,-1)).1.ends,v∈g.vs then
  if(bI h.F B (⟨[],[]⟩,-1)).2<0 then some none
  else(Og g (bI h.F B (⟨[],[]⟩,-1)).1).bind fun w=>if MP g h (bI h.F B (⟨[],[]⟩,-1)).2.toNat w then some (some (gV h w (bI h.F B (⟨[],[]⟩,-1)).2.toNat))else none
 else none
def rR(g:Gr):Nat->Sh->Option (Option Sh)
 |0,_=>none
 |n+1,h=>if h.L.length<g.es.length then(yO g h).bind fun o=>match o with
   |none=>some none
   |some h'=>rR g n h'
  else some (some h)
def rO(E:List Ed):Option (Option (List (List Int))):=
 match E with
 |[e]=>some (some [[e.a,e.b]])
 |E=>if(vsF E).length<=64/\E.length<=200 then
   if(3:Int)*(vsF E).length-6<E.length then some none
   else(newF ⟨vsF E,E⟩).bind fun h=>(rR ⟨vsF E,E⟩ 1000 h).map fun o=>o.map (·.F)
  else none
structure DrE(E:List Ed):Prop where
 ids:E.Pairwise (fun x y=>x.id<y.id)
 pos:∀ x∈E,1<=x.id/\x.id<=1048576
 ne:∀ x∈E,x.a≠x.b
theorem DrE.gp{E:List Ed}(h:DrE E)(h1:(vsF E).length<=64)(h2:E.length<=200):GP ⟨vsF E,E⟩:=
 ⟨⟨⟨kY E,fun x hx=>⟨(bA _ _).2 ⟨x,hx,.inl rfl⟩,(bA _ _).2 ⟨x,hx,.inr rfl⟩⟩⟩,h.ids,h.pos,h.ne⟩,h1,(by grind)⟩
end Aw
namespace Aw
open Go Go.RowKit Pl Eu
def lnk:List Int->List (Int×Int)
 |x::y::l=>(x,y)::lnk (y::l)
 |_=>[]
def prs(r:List Int):List (Int×Int):=lnk (r++r.take 1)
theorem fA(x:Int)(B:List Int):∀ A,lnk (A++x::B)=lnk (A++[x])++lnk (x::B)
 |[]=>by simp[lnk]
 |[a]=>by simp[lnk]
 |a::b::A=>by have:=fA x B (b::A);simp only[List.cons_append,lnk]at this ⊢;rw[this]
theorem FI:∀ l,lnk l.reverse=((lnk l).map Prod.swap).reverse
 |[]=>rfl
 |[a]=>rfl
 |a::b::l=>by have h:=FI (b::l);rw[aCZ,aCZ,aAF,List.singleton_append,fA b [a] l.reverse,<- aCZ,h];simp[lnk]
theorem pB(l:List Int):(lnk l.reverse).Perm ((lnk l).map Prod.swap):=by rw[FI];exact aBq _
theorem AM:∀ l:List Int,(lnk l).length=l.length-1
 |[]=>rfl
 |[_]=>rfl
 |a::b::l=>by have:=AM (b::l);simp only[lnk,List.length_cons]at this ⊢;omega
theorem eC:∀ w:List Int,iP w=(lnk w).map fun p=>prP p.1 p.2
 |[]=>rfl
 |[_]=>rfl
 |a::b::l=>by rw[iP,eC (b::l)];rfl
theorem bF:∀ {l:List Int} {x y:Int},(x,y)∈lnk l->x∈l/\y∈l
 |[],_,_,h=>by cases h
 |[_],_,_,h=>by cases h
 |a::b::l,x,y,h=>by
  rcases aAe.1 h with e|h
  .injection e with e1 e2;subst e1;subst e2;simp
  .have:=bF h;exact⟨aAc _ this.1,aAc _ this.2⟩
theorem dJ:∀ {l:List Int},l.Nodup->(lnk l).Nodup/\∀ x y,(x,y)∈lnk l->x≠y/\(y,x)∉lnk l
 |[],_=>⟨.nil,fun _ _ h=>by cases h⟩
 |[_],_=>⟨.nil,fun _ _ h=>by cases h⟩
 |a::b::l,h=>by
  obtain⟨h1,h2⟩:=aAq.1 h;obtain⟨k1,k2⟩:=dJ h2;have x8:a≠b:=fun e=>h1 (by rw[e];simp);refine⟨aAq.2 ⟨fun hm=>h1 (bF hm).1,k1⟩,fun x y hm=>?_⟩;rcases aAe.1 hm with e|hm
  .injection e with e1 e2;subst e1;subst e2;refine⟨x8,fun hm=>?_⟩;rcases aAe.1 hm with e|hm
   .injection e with e1 e2;exact x8 e2
   .exact h1 (bF hm).2
  .refine⟨(k2 x y hm).1,fun hm2=>?_⟩;rcases aAe.1 hm2 with e|hm2
   .injection e with e1 e2;exact h1 (by rw[<- e1];exact(bF hm).2)
   .exact(k2 x y hm).2 hm2
theorem uO(u v:Int)(A Q:List Int):∀ P:List Int,(prs (P++u::(A++v::Q))).Perm (lnk (u::(A++[v]))++lnk (v::(Q++(P++[u]))))
 |[]=>by
  have e:prs (u::(A++v::Q))=lnk ((u::A)++v::(Q++[u])):=by unfold prs;simp
  rw[List.nil_append,e,fA];simp
 |p::P=>by
  have e:prs (p::P++u::(A++v::Q))=lnk ((p::P)++u::(A++v::(Q++[p]))):=by unfold prs;simp
  have e2:lnk (u::(A++v::(Q++[p])))=lnk ((u::A)++v::(Q++[p])):=sS;have e3:lnk (v::(Q++(p::P++[u])))=lnk ((v::Q)++p::(P++[u])):=sS;rw[e,fA u _ (p::P),e2,fA v _ (u::A),e3,fA p _ (v::Q)];simp only[List.cons_append];refine(aBj).trans ?_;rw[aAF]
def Rt(l l':List Int):Prop:=∃ a b,l=a++b/\l'=b++a
theorem Rt.trans{l m n:List Int}(h:Rt l m)(k:Rt m n):Rt l n:=by
 obtain⟨a,b,rfl,rfl⟩:=h;obtain⟨c,d,e,rfl⟩:=k;rcases aDn.1 e with⟨z,g1,g2⟩|⟨z,g1,g2⟩
 .exact⟨z,d++b,by rw[g2];simp,by rw[g1];simp⟩
 .exact⟨a++c,z,by rw[g1];simp,by rw[g2];simp⟩
theorem Lh{r:List Int}{i j:Nat}(hij:i<j)(hj:j<r.length):∃ A B,iW r i j=r.getD i 0::(A++[r.getD j 0])/\iW r j i=r.getD j 0::(B++[r.getD i 0])/\(prs r).Perm (lnk (r.getD i 0::(A++[r.getD j 0]))++lnk (r.getD j 0::(B++[r.getD i 0])))/\Rt r (r.getD i 0::(A++r.getD j 0::B)):=by
 have e1:r=r.take i++r.getD i 0::r.drop (i+1):=by rw[aAg,aAh oO,Option.getD_some,<- aAN oO,aAz]
 have e2:r.drop (i+1)=(r.drop (i+1)).take (j-i-1)++r.getD j 0::r.drop (j+1):=by
  conv=>lhs;rw[<- aAz (j-i-1) (r.drop (i+1))]
  rw[aCp,show i+1+(j-i-1)=j by omega,aAg,aAh hj,Option.getD_some,<- aAN hj]
 have hP:(r.take i).length=i:=by rw[aAw];omega
 have hA:((r.drop (i+1)).take (j-i-1)).length=j-i-1:=by rw[aAw,aAL];omega
 have hl:r.length=i+1+(j-i-1)+1+(r.drop (j+1)).length:=by rw[aAL];omega
 rw[e2]at e1;generalize r.take i=P at *;generalize (r.drop (i+1)).take (j-i-1)=A at *;generalize r.drop (j+1)=Q at *;generalize r.getD i 0=u at *;generalize r.getD j 0=v at *;refine⟨A,Q++P,?_,?_,?_,P,u::(A++v::Q),e1,sS⟩
 .unfold iW vE;rw[aAj oO,e1,aAF,aCY oO,aCz oO,List.nil_append,List.cons_append,List.take_succ_cons]
  congr 1
  rw[aAF,List.cons_append,aCo,aAu oO,hA,show j-i-(j-i-1)=1 by omega];rfl
 .unfold iW vE;rw[aAa oO,hl];have e:(r++r).drop j=v::(Q++(P++u::(A++v::Q))):=by
   conv=>lhs;rw[e1]
   have:(P++u::(A++v::Q))++(P++u::(A++v::Q))=(P++u::A)++(v::(Q++(P++u::(A++v::Q)))):=sS;rw[this,aCY (by simp;omega),aCz (by simp;omega),List.nil_append]
  rw[e,show i+(i+1+(j-i-1)+1+Q.length)-j+1=(Q.length+(P.length+1))+1 by omega,List.take_succ_cons]
  congr 1
  rw[aCo,aAu oO,show Q.length+(P.length+1)-Q.length=P.length+1 by omega,aCo,aAu oO,show P.length+1-P.length=1 by omega];simp
 .have:=uO u v A Q P;rw[<- e1]at this;simpa using this
theorem oG{r:List Int}{i j:Nat}(hij:i≠j)(hi:i<r.length)(hj:j<r.length):∃ A B,iW r i j=r.getD i 0::(A++[r.getD j 0])/\iW r j i=r.getD j 0::(B++[r.getD i 0])/\(prs r).Perm (lnk (r.getD i 0::(A++[r.getD j 0]))++lnk (r.getD j 0::(B++[r.getD i 0])))/\Rt r (r.getD i 0::(A++r.getD j 0::B)):=by
 rcases Nat.lt_or_gt_of_ne hij with h|h
 .exact Lh h hj
 .obtain⟨A,B,h1,h2,h3,h4⟩:=Lh h hi;exact⟨B,A,h2,h1,h3.trans aBj,h4.trans ⟨r.getD j 0::A,r.getD i 0::B,sS,sS⟩⟩
theorem VS{r w:List Int}(hw:2<=w.length)(c7:w.getD 0 0≠w.getD (w.length-1) 0)(h1:w.getD 0 0∈r)(h2:w.getD (w.length-1) 0∈r):
 ∃ a b,a≠[]/\b≠[]/\(prs r).Perm (a++b)/\prs (iW r (r.idxOf (w.getD 0 0)) (r.idxOf (w.getD (w.length-1) 0))++(dF w).reverse)=a++lnk w.reverse/\prs (iW r (r.idxOf (w.getD (w.length-1) 0)) (r.idxOf (w.getD 0 0))++dF w)=b++lnk w:=by
 have ew:w=w.getD 0 0::(dF w++[w.getD (w.length-1) 0]):=by
  have hl:w.length-1<w.length:=oO;have a1:w=w.getD 0 0::w.drop 1:=by
   cases w with
   |nil=>simp at hw
   |cons x w=>rfl
  have a2:w.drop 1=dF w++[w.getD (w.length-1) 0]:=by
   have e3:w.drop (w.length-1+1)=[]:=aCz oO;unfold dF
   conv=>lhs;rw[<- aAz (w.length-2) (w.drop 1)]
   rw[aCp,show 1+(w.length-2)=w.length-1 by omega,aAg,aAh hl,Option.getD_some,aAN hl,e3]
  rw[<- a2];exact a1
 have i1:=aAO h1;have i2:=aAO h2;have g1:r.getD (r.idxOf (w.getD 0 0)) 0=w.getD 0 0:=by rw[aAg,aAh i1,Option.getD_some,aBu]
 have g2:r.getD (r.idxOf (w.getD (w.length-1) 0)) 0=w.getD (w.length-1) 0:=by rw[aAg,aAh i2,Option.getD_some,aBu]
 have hij:r.idxOf (w.getD 0 0)≠r.idxOf (w.getD (w.length-1) 0):=fun e=>c7 (by rw[<- g1,e,g2]);obtain⟨A,B,q1,q2,q3,_⟩:=oG hij i1 i2;rw[g1,g2]at q1 q2 q3;rw[q1,q2];generalize w.getD 0 0=u at *;generalize w.getD (w.length-1) 0=v at *;generalize dF w=M at *;refine⟨_,_,?_,?_,q3,?_,?_⟩
 .intro e;have:=congrArg List.length e;rw[AM]at this;simp at this
 .intro e;have:=congrArg List.length e;rw[AM]at this;simp at this
 .have e:prs (u::(A++[v])++M.reverse)=lnk ((u::A)++v::(M.reverse++[u])):=by unfold prs;simp
  have e2:w.reverse=v::(M.reverse++[u]):=by rw[ew];simp
  rw[e,fA,e2];simp
 .have e:prs (v::(B++[u])++M)=lnk ((v::B)++u::(M++[v])):=by unfold prs;simp
  rw[e,fA]
  conv=>rhs;rw[ew]
  simp
end Aw
namespace Aw
open Go Go.RowKit Pl
def drR:Option (List (List Int))->LV
 |none=>.tu [.sl 0 0 [],bb false]
 |some F=>.tu [.sl 0 F.length (eF F),bb true]
theorem ZB{E:List Ed}(hE:DrE E){o:Option (List (List Int))}(ho:rO E=some o)(st:St)(M5:0<st.next):
 aB prog 61 [.sl 0 E.length (eds E)] st fun r st'=>r=drR o/\aA st st':=by
 refine eU ?_;have hel:=aK E;by_cases h1:E.length=1
 .obtain⟨⟨e1,ea,eb⟩,rfl⟩:∃ e,E=[e]:=aDC.1 h1;have:o=some [[ea,eb]]:=by have:some (some [[ea,eb]])=some o:=ho;exact(aBn this).symm
  subst this;have hd:eds [(⟨e1,ea,eb⟩:Ed)]=[u e1,u ea,u eb]:=rfl;refine zN func61 ntmps61 [.tmp 2,.tmp 3] ?_;refine xw1 hd ?_
  (refine zS [] [] [0,2,4,6,8,10,12,14,17,18,20,22] ?_;intro J hJ;simp[hd];(refine zJ hJ ?_;clear hJ J))
  refine xw0 ?_;exact⟨by simp[z0,z0L,drR,eF],(aA.new _ _).trans (aA.new _ _)⟩
 have hb1:((E.length:Int)==1)=false:=by rw[aDl];omega
 have ho2:(if(vsF E).length<=64/\E.length<=200 then
  if(3:Int)*(vsF E).length-6<E.length then some none
  else(newF ⟨vsF E,E⟩).bind fun h=>(rR ⟨vsF E,E⟩ 1000 h).map fun o=>o.map (·.F)
  else none)=some o:=by
  rcases E with _|⟨e,_|⟨e2,E⟩⟩
  .exact ho
  .simp at h1
  .exact ho
 clear ho
 split at ho2
 case isFalse=>cases ho2
 rename_i hq;obtain⟨hq1,S9⟩:=hq;have hg:=hE.gp hq1 S9;have hvl:=wR E;refine zN func61 ntmps61 [.tmp 2,.tmp 3] ?_;refine xw1 hb1 ?_;refine kM 4 34 1 sS ?_;have e0:¬st.next=0:=oO;refine aY 29 28 30 40 (E.length) (fun j fr st2=>fr 0=.sl 0 E.length (eds E)/\fr 27=.sl 0 E.length (eds E)/\aA st st2/\∃ t,fr 4=.sl t (fO (E.take j)).length (us (fO (E.take j)))/\Fo t 34 1 (fO (E.take j)).length st st2) ?_ ?_ ?_
 .exact⟨sS,sS,aA.new _ _,st.next,by simp[fO],e0,aAl _,sS,by simp[fO]⟩
 .rintro j fr s dA ⟨f0,f27,j8,t,f4,a1,a2,a3,a4⟩ fi fn JO hJO;have hd:=aR E j dA;have o8:j*3<E.length*3:=oO;have L0:=Jd E j dA;have hFl:=wR (E.take j);rw[aAw]at hFl;generalize E.getD j ed0=x at *;generalize fO (E.take j)=F at *;obtain⟨d,a,b⟩:=x;simp only at L0;have c1:¬t=s.next:=oO;have c1b:¬t=s.next+1:=oO;have c4:¬s.next=t:=oO;have c5:¬s.next+1=t:=oO
  (repeat' (first|apply qS|(refine zE ?_;intro J hJ;simp[f4,f27,fi,fn,hd,hel,o8,dA,a4,a1,c1,c1b,c4,c5];(repeat refine ca ?_);(refine zJ hJ ?_;clear hJ J))))
  refine hJO _ _ (sF1 fi) (sF1 fn) ⟨sF1 f0,sF1 f27,?_,s.next+2,by rw[L0];simp,oO,oO,sS,by rw[L0];simp⟩;exact(((j8.trans (aA.new _ _)).trans (aA.new _ _)).set a2 _).trans (aA.new _ _)
 .rintro fr s ⟨f0,f27,j8,t,f4,a1,a2,a3,a4⟩;rw[aAU]at f4 a4
  (refine xj2 f0 f4 ?_;intro J hJ)
  refine qE (ZU E t 0 s S9 hE.ids) sS ?_;rintro r s1 ⟨rfl,j7⟩;have j7:=j8.trans j7;have w1:IntKind.i64.wrap (3*((vsF E).length:Int))=3*((vsF E).length:Int):=zW;have w2:IntKind.i64.wrap (3*((vsF E).length:Int)-6)=3*((vsF E).length:Int)-6:=zW;have hel2:=aK E;by_cases hc:(3:Int)*(vsF E).length-6<E.length
  .rw[aAj hc]at ho2;obtain rfl:none=o:=aBn ho2;refine wJ hJ w1 w2 hc ?_;exact⟨by simp[z0,z0L,drR],j7.trans (aA.new _ _)⟩
  rw[aAa hc]at ho2;have u6:=j7.trans (aA.new s1 (.box 25 2 (grL ⟨vsF E,E⟩)));have hG:(s1.new (.box 25 2 (grL ⟨vsF E,E⟩))).H s1.next=.box 25 2 (grL ⟨vsF E,E⟩):=sS;obtain⟨h,hh,ho3⟩:=aBz.1 ho2;obtain⟨o2,hlp,ho4⟩:=aBk.1 ho3
  (refine I9 hJ w1 w2 hc ?_;intro J hJ)
  refine qE (TA hg hh _) sS ?_;rintro r s2 ⟨S,nl,pl,ll,fl,le,rfl,hS,⟨b1,b2,b3⟩,o8⟩;have hG2:s2.H s1.next=.box 25 2 (grL ⟨vsF E,E⟩):=by rw[o8.H _ sS];exact hG
  have N6:=j7.next;simp only[aG]at b1 b2 b3;have u6:=u6.trans o8;refine dQ hJ ?_;refine qL (fun n fr st2=>∃ h fl le,rR ⟨vsF E,E⟩ n h=some o2/\fr 7=.pt s1.next 0/\fr 8=.pt S 0/\ShA ⟨vsF E,E⟩ h.L h.on h.F S nl pl ll fl le st2/\s1.next<S/\s1.next<ll/\s1.next<fl/\st2.H s1.next=.box 25 2 (grL ⟨vsF E,E⟩)/\aA st st2) 1000 ?_ ?_
  .exact⟨h,fl,le,hlp,sS,sS,hS,oO,oO,oO,hG2,u6⟩
  clear hS hG2 u6 o8 hlp hG f0 f27 f4 fr b1 b2 b3 hh ho2 ho3 h;rintro n fr s3 ⟨h,fl,le,hlp,f7,f8,hS,b1,b2,b3,hG,hk⟩ JJ hJJ;obtain _|n:=n
  .cases hlp
  have O1:=hS.r.box;have hsl:=hS.r.lt;have hL:=hS.r.lin;have hkl:le.length=h.L.length:=by rw[<- aAD (f:=(·.1)),hS.r.key,aAD]
  unfold rR at hlp;by_cases dA:h.L.length<E.length
  .rw[aAj dA]at hlp;have L5:((le.length:Nat):Int)<E.length:=oO;obtain⟨so,hso,hlp⟩:=aBz.1 hlp;unfold yO at hso;obtain⟨B,hB,hso⟩:=aBz.1 hso
   split at hso
   case isFalse=>cases hso
   rename_i hc;obtain⟨hc1,hc2,hc3⟩:=hc
   (refine xj6 f7 f8 O1 hL hG L5 ?_;intro J hJ)
   refine xcP (UD hg hS hB hc1 hc2) ?_;generalize bI h.F B (⟨[],[]⟩,-1)=ch at *;obtain⟨b,at'⟩:=ch;simp only at hso hc3;by_cases L9:at' < 0
   .rw[aAj L9]at hso;obtain rfl:none=so:=aBn hso;simp only at hlp;obtain rfl:none=o2:=aBn hlp;obtain rfl:none=o:=ho4;refine nL hJ L9 ?_;exact⟨by simp[z0,z0L,drR],hk.trans (aA.new _ _)⟩
   rw[aAa L9]at hso;obtain⟨w,hw,hso⟩:=aBz.1 hso
   split at hso
   case isFalse=>cases hso
   rename_i hlay;obtain⟨y1,y2,y3,y4,y5,y6,y7,y8⟩:=hlay;obtain rfl:=aBn hso;simp only at hlp;obtain⟨at',rfl⟩:∃ k:Nat,at'=(k:Int):=⟨at'.toNat,oO⟩;simp only[Int.toNat_natCast]at *;have hneg':¬(at':Int)<0:=oO
   (refine NI hJ hneg' f8 ?_;intro J hJ)
   have M7:=aA.new s3 (.box 138 2 [wv (mk (vsF E) b.inner),wv (mk (vsF E) b.ends)]);refine xcP (J6 hg (hS.keep M7) hc3 hw) ?_ (by simp[Tg]);refine dQ hJ ?_;refine qE (D8 hg (hS.keep M7) y1 y2 y3 y4 y5 y6 y7 y8 sS) sS ?_;rintro r s4 ⟨fl2,le2,hS4,hfl,hkm⟩;have hkn:=hkm.next;simp only[aG]at hkn hfl;have hk34:=hkm.H
   have hKK:aA st s4:=⟨by have:=hk.next;omega,fun l hl=>by
    have:=hk.next;rw[hk34 l (by simp;omega) (by simp;omega),bY,aAa oO]
    exact hk.H l hl⟩
   have hG4:s4.H s1.next=.box 25 2 (grL ⟨vsF E,E⟩):=by rw[hk34 _ (by simp;omega) (by simp;omega),bY,aAa oO];exact hG
   refine dQ hJ ?_;refine hJJ n _ _ oO ⟨gV h w at',fl2,le2,hlp,sF1 f7,sF1 f8,hS4,oO,oO,oO,hG4,hKK⟩
  .rw[aAa dA]at hlp;obtain rfl:some h=o2:=aBn hlp;obtain rfl:some h.F=o:=ho4;have L5:¬((le.length:Nat):Int)<E.length:=oO;clear hJJ;refine xw6 f7 f8 O1 hL hG L5 ?_;refine kM 11 22 1 sS ?_;have hF:=hS.fac;have hfl:=pR (vsF E) h.F;have hfw:=hS.few;have hflt:=hS.flt;refine aY 82 81 83 91 (h.F.length) (fun j fr st2=>fr 80=.ms fl 0 h.F.length/\st2.H fl=.box 144 2 (iA (vsF E) h.F)/\fl<st2.next/\aA st st2/\∃ t,fr 11=.sl t j (eF (h.F.take j))/\Fo t 22 1 j st st2) ?_ ?_ ?_
   .exact⟨sS,by rw[bY,aAa oO];exact hF,by simp;omega,hk.trans (aA.new _ _),s3.next,by simp[eF],by have:=hk.next;omega,hk.next,sS,sS⟩
   .clear hF hflt hG O1 hL L5 f7 f8 hk;rintro j fr s dA ⟨f80,hF,hflt,hk,t,f11,t0,t1,t2,tH⟩ fi fn JO hJO;have hd:=sK (vsF E) h.F j dA;have hjj:j*2<h.F.length*2:=oO;have L0:=Bq h.F j dA;have hgd:h.F.getD j []=h.F[j]:=by rw[aAg,aAh dA];rfl
    rw[hgd]at hd;generalize h.F[j]=R at *;have c0:¬fl=t:=fun e=>by rw[e,tH]at hF;cases hF
    have c1:¬t=s.next:=oO;have c2:¬s.next=t:=oO;have c3:¬t=s.next+1:=oO;have c4:¬s.next+1=t:=oO;have c5:¬fl=s.next:=oO
    (repeat' (first|apply qS|(refine zE ?_;intro J hJ;simp[f80,f11,fi,fn,hF,hd,hjj,hfl,dA,tH,t0,c0,c1,c2,c3,c4,c5];(repeat refine ca ?_);(refine zJ hJ ?_;clear hJ J))))
    refine hJO _ _ (sF1 fi) (sF1 fn) ⟨sF1 f80,?_,by simp;omega,?_,s.next+1+1,by rw[L0];simp[eF],oO,oO,sS,sS⟩
    ·(repeat (first|rw[nHh nOo]|rw[sHh oO]|rw[nIi nQq]|rw[sIi oO]));exact hF
    .exact(((hk.trans (aA.new _ _)).trans (aA.new _ _)).set t1 _).trans (aA.new _ _)
   .clear hF hflt hG O1 hL L5 f7 f8 hk;rintro fr s ⟨f80,hF,hflt,hk,t,f11,t0,t1,t2,tH⟩;rw[aAU]at f11;refine xw1 f11 ?_;have hzu:∀ l:List Int,z0L (us l)=us l:=fun l=>by
     induction l with
     |nil=>rfl
     |cons x l ih=>simp only[us,aAm,z0L,z0]at ih ⊢;rw[ih]
    have hz:∀ R:List (List Int),z0L (eF R)=eF R:=fun R=>by
     induction R with
     |nil=>rfl
     |cons r R ih=>simp only[eF,aAm,z0L,z0,hzu]at ih ⊢;rw[ih]
    exact⟨by simp[z0,z0L,drR,hz],hk⟩
abbrev Tn:=List (Int×List (Int×Int))
def qV(x y:Int):List (Int×Int)->List (Int×Int)
 |[]=>[(x,y)]
 |p::P=>if p.1=x then(x,y)::P else p::qV x y P
def iB(v x y:Int):Tn->Tn
 |[]=>[(v,[(x,y)])]
 |a::A=>if a.1=v then(v,qV x y a.2)::A else a::iB v x y A
def jP(n k:Nat):Nat:=if k=0 then n-1 else k-1
def kK(r:List Int)(A:Tn):Nat->Tn
 |0=>A
 |j+1=>iB (r.getD j 0) (r.getD (jP r.length j) 0) (r.getD ((j+1) % r.length) 0) (kK r A j)
def aT(R:List (List Int)):Tn:=R.foldl (fun A r=>kK r A r.length) []
def inL(P:List (Int×Int)):List (List Int×LV):=P.map fun p=>([p.1],u p.2)
theorem FV(x y:Int):∀ P,bV (inL P) [x] (u y)=inL (qV x y P)
 |[]=>rfl
 |p::P=>by
  have ih:=FV x y P;unfold qV;simp only[inL,aAm,bV,aBw,aEx]at ih ⊢;by_cases h:p.1=x
  .rw[aAj h,aAj (sF1 h)];rfl
  .rw[aAa h,aAa (by simpa using fun e=>h e.symm),ih];rfl
def ouL(A:Tn)(loc:Int->Nat):List (List Int×LV):=A.map fun a=>([a.1],.mp (loc a.1))
structure MM(A:Tn)(loc:Int->Nat)(o:Nat)(lo st:St):Prop where
 out:st.H o=.map false [.u32] (ouL A loc)
 olt:lo.next<=o/\o<st.next
 inn:∀ a∈A,st.H (loc a.1)=.map false [.u32] (inL a.2)/\(lo.next<=loc a.1/\loc a.1≠o)/\loc a.1<st.next
 inj:∀ a∈A,∀ b∈A,loc a.1=loc b.1->a.1=b.1
 nd:(A.map (·.1)).Nodup
 kp:aA lo st
theorem FU(A:Tn)(loc:Int->Nat)(v:Int):bS (ouL A loc) [v]=if v∈A.map (·.1)then some (.mp (loc v))else none:=by
 induction A with
 |nil=>rfl
 |cons a A ih=>
  simp only[ouL,aAm,bS,aAe]at ih ⊢;by_cases h:a.1=v
  .rw[aAj (sF1 h),aAj (.inl h.symm),h]
  .rw[aAa (by simpa using fun e=>h e.symm),ih];have:¬v=a.1:=fun e=>h e.symm;simp only[this,false_or]
theorem VU{A:Tn}{v:Int}(loc:Int->Nat)(l:Nat)(h:v∉A.map (·.1)):bV (ouL A loc) [v] (.mp l)=ouL (A++[(v,[])]) (fun x=>if x=v then l else loc x):=by
 rw[Cj]
 .unfold ouL;rw[aAv]
  congr 1
  .refine aAQ fun a ha=>?_;have:a.1≠v:=fun e=>h (e ▸ aAi.2 ⟨a,ha,rfl⟩);simp only[aAa this]
  .simp
 .intro hm;obtain⟨q,hq,e⟩:=aAi.1 hm;obtain⟨a,ha,rfl⟩:=aAi.1 hq;simp only[aBw,aEx]at e;exact h (e ▸ aAi.2 ⟨a,ha,rfl⟩)
theorem MM.add{A:Tn}{loc:Int->Nat}{o:Nat}{lo s:St}(h:MM A loc o lo s){v:Int}(hv:v∉A.map (·.1)):
 MM (A++[(v,[])]) (fun x=>if x=v then s.next else loc x) o lo ((s.new (.map false [.u32] [])).set o (.map false [.u32] (ouL (A++[(v,[])]) (fun x=>if x=v then s.next else loc x)))):=by
 obtain⟨h1,h2,h3,h4,h5,h6⟩:=h;have c7:∀ a∈A,a.1≠v:=fun a ha e=>hv (e ▸ aAi.2 ⟨a,ha,rfl⟩);have hn:=h6.next;refine⟨sS,⟨h2.1,by simp;omega⟩,fun a ha=>?_,fun a ha b hb e=>?_,?_,(h6.trans (aA.new _ _)).set h2.1 _⟩
 .rcases aAd.1 ha with ha|ha
  .obtain⟨k1,k2,k3⟩:=h3 a ha;simp only[aAa (c7 a ha)];have e1:¬loc a.1=o:=k2.2;refine⟨?_,k2,by simp;omega⟩;rw[bQ,aAa e1,bY,aAa oO];exact k1
  .rw[aAk]at ha;subst ha;simp only[aBs];refine⟨?_,⟨hn,oO⟩,sS⟩;rw[bQ,aAa oO,bY,aAj rfl];rfl
 .rcases aAd.1 ha with ha|ha
  .rcases aAd.1 hb with hb|hb
   .simp only[aAa (c7 a ha),aAa (c7 b hb)]at e;exact h4 a ha b hb e
   .rw[aAk]at hb;subst hb;simp only[aAa (c7 a ha),aBs]at e;have:=(h3 a ha).2.2;omega
  .rw[aAk]at ha;subst ha;rcases aAd.1 hb with hb|hb
   .simp only[aAa (c7 b hb),aBs]at e;have:=(h3 b hb).2.2;omega
   .rw[aAk]at hb;subst hb;rfl
 .rw[aAv,aAo];refine⟨h5,sS,fun a ha b hb e=>?_⟩;simp only[aAm,aCL,aAk]at hb;subst hb;subst e;exact hv ha
theorem EL(v x y:Int):∀ A:Tn,v∈A.map (·.1)->(iB v x y A).map (·.1)=A.map (·.1)
 |a::A,h=>by
  unfold iB;by_cases e:a.1=v
  .rw[aAj e];simp[e]
  .rw[aAa e,aAm,aAm,EL v x y A];simp only[aAm,aAe]at h;exact h.resolve_left fun h=>e h.symm
theorem Ia{v x y:Int}{P:List (Int×Int)}:∀ {A:Tn},(A.map (·.1)).Nodup->(v,P)∈A->∀ a,a∈iB v x y A->a=(v,qV x y P)\/(a∈A/\a.1≠v)
 |b::A,hn,h,a,ha=>by
  obtain⟨n1,n2⟩:=aAq.1 (by simpa using hn:(b.1::A.map (·.1)).Nodup);unfold iB at ha;by_cases e:b.1=v
  .rw[aAj e]at ha;have hb:(v,P)=b:=by
    rcases aAe.1 h with h|h
    .exact h
    .exact absurd (aAi.2 ⟨_,h,rfl⟩) (e ▸ n1)
   subst hb;rcases aAe.1 ha with ha|ha
   .exact .inl ha
   .exact .inr ⟨aAc _ ha,fun h2=>n1 (aAi.2 ⟨a,ha,h2⟩)⟩
  .rw[aAa e]at ha;rcases aAe.1 ha with ha|ha
   .exact .inr ⟨sF1 ha,by rw[ha];exact e⟩
   .have h2:(v,P)∈A:=by
     rcases aAe.1 h with h|h
     .exact absurd (by rw[<- h]) e
     .exact h
    rcases Ia n2 h2 a ha with h3|⟨h3,h4⟩
    .exact .inl h3
    .exact .inr ⟨aAc _ h3,h4⟩
theorem HR(v x y:Int):∀ A:Tn,v∉A.map (·.1)->iB v x y (A++[(v,[])])=iB v x y A
 |[],_=>by simp[iB,qV]
 |a::A,h=>by simp only[aAm,aAe,aCx]at h;have e:¬a.1=v:=fun e=>h.1 e.symm;simp only[List.cons_append,iB,aAa e,HR v x y A h.2]
theorem MM.put{A:Tn}{loc:Int->Nat}{o:Nat}{lo s:St}(h:MM A loc o lo s){v x y:Int}{P:List (Int×Int)}(hv:(v,P)∈A):
 MM (iB v x y A) loc o lo (s.set (loc v) (.map false [.u32] (inL (qV x y P)))):=by
 obtain⟨h1,h2,h3,h4,h5,h6⟩:=h;have hk:=EL v x y A (aAi.2 ⟨_,hv,rfl⟩);obtain⟨k1,k2,k3⟩:=h3 _ hv;have j5:∀ a∈iB v x y A,∃ b∈A,b.1=a.1:=fun a ha=>by
  have:a.1∈A.map (·.1):=by rw[<- hk];exact aAi.2 ⟨a,ha,rfl⟩
  obtain⟨b,hb,e⟩:=aAi.1 this;exact⟨b,hb,e⟩
 have ho:ouL (iB v x y A) loc=ouL A loc:=by
  have e:∀ B:Tn,ouL B loc=(B.map (·.1)).map fun k=>([k],LV.mp (loc k)):=fun B=>by simp[ouL]
  rw[e,e,hk]
 have e1:¬o=loc v:=fun e=>k2.2 e.symm;refine⟨?_,⟨h2.1,h2.2⟩,fun a ha=>?_,fun a ha b hb e=>?_,by rw[hk];exact h5,h6.set k2.1 _⟩
 .rw[bQ,aAa e1,h1,ho]
 .rcases Ia h5 hv a ha with rfl|⟨ha,c7⟩
  .exact⟨sS,k2,k3⟩
  .obtain⟨q1,q2,q3⟩:=h3 a ha;refine⟨?_,q2,q3⟩;rw[bQ,aAa fun e=>c7 (h4 a ha _ hv e)];exact q1
 .obtain⟨a2,ha2,ea⟩:=j5 a ha;obtain⟨b2,X6,eb⟩:=j5 b hb;rw[<- ea,<- eb]at e ⊢;exact h4 a2 ha2 b2 X6 e
theorem Sw(R:List (List Int))(st:St)(hR:R.length<=300)(hr:∀ r∈R,r.length<=1000):
 aB prog 62 [.sl 0 R.length (eF R)] st fun r st'=>∃ o loc,r=.mp o/\MM (aT R) loc o st st':=by
 refine zN func62 ntmps62 [.tmp 2] ?_;refine xw0 ?_;have e0:st.next<st.next+1:=oO;refine aY 12 11 13 50 (R.length) (fun j fr st2=>fr 3=.mp st.next/\fr 10=.sl 0 R.length (eF R)/\∃ loc,MM ((R.take j).foldl (fun A r=>kK r A r.length) []) loc st.next st st2) ?_ ?_ ?_
 .exact⟨sS,sS,fun _=>0,by simp[ouL],sS,sS,sS,sS,aA.new _ _⟩
 .rintro j0 fr s dA ⟨f3,f10,loc,hM⟩ fi fn JO hJO;have hd:=uB R j0 dA;have L0:(R.take (j0+1)).foldl (fun A r=>kK r A r.length) []=kK (R.getD j0 []) ((R.take j0).foldl (fun A r=>kK r A r.length) []) (R.getD j0 []).length:=by have h1:R.take (j0+1)=R.take j0++[R[j0]]:=aAp dA;rw[h1,aBM,aAg,aAh dA];rfl
  have hl:(R.getD j0 []).length<=1000:=hr _ (by rw[aAg,aAh dA];exact aAE _);generalize (R.take j0).foldl (fun A r=>kK r A r.length) []=A0 at *;generalize R.getD j0 []=r at *;have w1:IntKind.i64.wrap ((r.length:Int)-1)=(r.length:Int)-1:=zW;refine xw7 f3 f10 fi fn dA hd w1 ?_;have hJ0:∀ loc' c8 s',c8 3=.mp st.next->c8 10=.sl 0 R.length (eF R)->c8 12=i j0->c8 11=i R.length->MM (kK r A0 r.length) loc' st.next st s'->JO c8 s':=fun loc' c8 s' g1 g2 g3 g4 g5=>hJO _ _ g3 g4 ⟨sF1 g1,sF1 g2,loc',by rw[L0];exact g5⟩;clear hJO L0;refine aY 21 20 22 49 (r.length) (fun j fr st2=>(fr 3=.mp st.next/\fr 10=.sl 0 R.length (eF R)/\fr 12=i j0/\fr 11=i R.length)/\fr 5=.sl 0 r.length (us r)/\fr 19=.sl 0 r.length (us r)/\fr 6=i (if j=0 then(r.length:Int)-1 else(j:Int)-1)/\∃ loc,MM (kK r A0 j) loc st.next st st2) ?_ ?_ ?_
  .exact⟨⟨sF1 f3,sF1 f10,sF1 fi,sF1 fn⟩,sS,sS,sS,loc,hM⟩
  .clear f3 f10 fi fn hM loc s fr;rintro k fr s hlk ⟨⟨f3,f10,f12,f11⟩,f5,f19,f6,loc,hM⟩ fi fn JO2 hJO2;have hdk:=qG r k hlk;have hpk:jP r.length k<r.length:=by unfold jP;split<;>omega
   have hpi:(if k=0 then(r.length:Int)-1 else(k:Int)-1)=((jP r.length k:Nat):Int):=by unfold jP;split<;>omega
   rw[hpi]at f6;have hdp:=qG r (jP r.length k) hpk;have hmod:((k:Int)+1).tmod (r.length:Int)=(((k+1) % r.length:Nat):Int):=by rw[aCF oO];exact(Int.natCast_emod _ _).symm
   have Q7:(k+1) % r.length<r.length:=aBG _ oO;have hdm:=qG r ((k+1) % r.length) Q7;have hw:IntKind.i64.wrap ((k:Int)+1)=(k:Int)+1:=zW;have X3:kK r A0 (k+1)=iB (r.getD k 0) (r.getD (jP r.length k) 0) (r.getD ((k+1) % r.length) 0) (kK r A0 k):=rfl;generalize kK r A0 k=A at *;generalize jP r.length k=pk at *;generalize (k+1) % r.length=mk' at *;generalize r.getD k 0=v at *;generalize r.getD pk 0=x at *;generalize r.getD mk' 0=y at *;have hr0:¬(r.length:Int)=0:=oO;have Z7:¬r=[]:=fun e=>by rw[e]at hlk;simp at hlk
   have hpk':(pk:Int)<r.length:=oO;have hml':(mk':Int)<r.length:=oO;have hH:=hM.out;have hg:=FU A loc v;by_cases hv:v∈A.map (·.1)
   .rw[aAj hv]at hg;obtain⟨⟨v',P⟩,hP,rfl⟩:=aAi.1 hv;simp only at hg X3 hdk;have hI:=(hM.inn _ hP).1;have hput:=FV x y P;have Y4:=hM.put (x:=x) (y:=y) hP;simp only at hI;generalize loc v'=lv at *;refine Fx f3 f5 f19 f6 fi fn hlk hdk hH hg ?_
    (refine zS [] [st.next,lv] [0,2,4,6,8,10,12,14,16,18,20,22,24,26,28,31] ?_;intro J hJ;simp[f3,f5,f19,f6,fi,fn,hlk,hdk,hdp,hdm,hpk,Q7,hpk',hml',hr0,Z7,hw,hmod,hH,hg,hI];refine zJ hJ ?_)
    rw[hput];refine xw0 ?_;refine hJO2 _ _ (sF1 fi) (sF1 fn) ⟨⟨sF1 f3,sF1 f10,sF1 f12,sF1 f11⟩,sF1 f5,sF1 f19,sS,loc,?_⟩;rw[X3];exact Y4
   .rw[aAa hv]at hg;have c1:¬st.next=s.next:=by have:=hM.olt;omega
    have hM1:=hM.add hv;have U7:=VU loc s.next hv;have hpa:=HR v x y A hv;refine YZ f3 f5 f19 f6 fi fn hlk hdk hH hg c1 ?_;rw[U7];generalize (s.new (.map false [.u32] [])).set st.next (.map false [.u32] (ouL (A++[(v,[])]) fun x=>if x=v then s.next else loc x))=s1 at *;generalize hl1:(fun x=>if x=v then s.next else loc x)=loc1 at *;have hP:(v,[])∈A++[(v,([]:List (Int×Int)))]:=sS;have hH:=hM1.out;have hg:=FU (A++[(v,[])]) loc1 v;rw[aAj sS]at hg;have hI:=(hM1.inn _ hP).1;have hput:=FV x y [];have Y4:=hM1.put (x:=x) (y:=y) hP;rw[hpa]at Y4;simp only at hI;generalize A++[(v,([]:List (Int×Int)))]=A1 at *;generalize loc1 v=lv at *;clear hM
    (refine zS [] [st.next,lv] [0,2,4,6,8,10,12,14,16,18,20,22,24,26,28,31] ?_;intro J hJ;simp[f3,f5,f19,f6,fi,fn,hlk,hdk,hdp,hdm,hpk,Q7,hpk',hml',hr0,Z7,hw,hmod,hH,hg,hI];refine zJ hJ ?_)
    rw[hput];refine xw0 ?_;refine hJO2 _ _ (sF1 fi) (sF1 fn) ⟨⟨sF1 f3,sF1 f10,sF1 f12,sF1 f11⟩,sF1 f5,sF1 f19,sS,loc1,?_⟩;rw[X3];exact Y4
  .clear f3 f10 fi fn hM loc s fr;rintro fr s ⟨⟨f3,f10,f12,f11⟩,f5,f19,f6,loc,hM⟩;refine xw0 ?_;exact hJ0 loc _ _ (sF1 f3) (sF1 f10) (sF1 f12) (sF1 f11) hM
 .rintro fr s ⟨f3,f10,loc,hM⟩;rw[aAU]at hM;refine xw1 f3 ?_;exact⟨_,hM⟩
end Aw
end Go.Proofs.YtbgngpdonpeboaaGreatDoor
