/- plane: newSheet. -/
import Derived.Test.YtempldclppogmaaGreatDoorJg
import Derived.Test.YtempldclppogmaaGreatDoorAwAlt
set_option linter.unusedVariables false
set_option linter.unusedSimpArgs false
set_option maxHeartbeats 4000000
open Go.Proofs.Tryz
namespace Go.Proofs.YtempldclppogmaaGreatDoor
namespace Aw
open Go Go.RowKit Pl
theorem Tb{ops:Array Oper}{M B:List Nat}{Xo:St}{J:Frm->St->Prop}{listed:Array Bool}{fr:Frm}{st:St}{k:Nat}(n:Nat)(p q r:Nat×Bool)(h1:eC prog tab ops M B Xo (fun fr st=>jM prog tab ops M (SB B Xo) J n (listed.setIfInBounds p.1 true) fr st) (pick ops [p]) fr st)
 (h2:eC prog tab ops M B Xo (fun fr st=>jM prog tab ops M (SB B Xo) J n (listed.setIfInBounds q.1 true) fr st) (pick ops [q]) fr st)
 (h3:eC prog tab ops M B Xo (fun fr st=>jM prog tab ops M (SB B Xo) J n (listed.setIfInBounds r.1 true) fr st) (pick ops [r]) fr st) (hn:k=n+1:=by rfl) (hk:JY ops [p,q,r] listed=true:=by kernel_rfl):jM prog tab ops M (SB B Xo) J k listed fr st:=by
 subst hn;refine Fw n [p,q,r] hk fun x hx=>?_;simp only[aAf,aBJ,aDa]at hx;rcases hx with rfl|rfl|rfl
 .exact h1
 .exact h2
 .exact h3
structure NeI(g:Gr)(lo S nl pl ll:Nat)(f6:LV)(Xo s:St)(near:List LV)(pm lm:List (List Int×LV))(on:Nat):Prop where
 gr:s.H lo=.box 25 2 (grL g)
 box:s.H S=.box 119 7 [.sl 0 g.vs.length (us g.vs),.sl 0 g.es.length (eds g.es),.ms nl 0 g.vs.length,.mp pl,.mp ll,wv on,f6]
 near:s.H nl=.box 116 1 near
 plc:s.H pl=.map false [.u32] pm
 lin:s.H ll=.map true [.u32,.u32] lm
 b:Xo.next<=lo/\lo<s.next/\Xo.next<=S/\S<s.next/\Xo.next<=nl/\nl<s.next/\Xo.next<=pl/\pl<s.next/\Xo.next<=ll/\ll<s.next
 kp:aA Xo s
theorem iF(n:Nat):dO [.atom (.int .u64 0)] n=List.replicate n (wv 0):=by
 induction n with
 |zero=>rfl
 |succ n ih=>rw[List.replicate_succ,<- ih];rfl
def MO(vs:List Int)(j:Nat):List (List Int×LV):=(List.range j).map fun k=>([vs.getD k 0],i k)
theorem Ai:∀(L:List (List Int×LV)) (k:List Int) (x:LV),k∉L.map (·.1)->bP L k x=L++[(k,x)]
 |[],k,x,_=>rfl
 |q::L,k,x,h=>by simp only[aAi,aAf,aBV]at h;simp only[bP];rw[aAa (by simpa using h.1),Ai L k x h.2];rfl
theorem LI{vs:List Int}(hn:vs.Nodup){j:Nat}(hj:j<vs.length):bP (MO vs j) [vs.getD j 0] (i j)=MO vs (j+1):=by
 rw[Ai]
 .unfold MO;rw[aEn,aAu];rfl
 .unfold MO;rw[aBd];intro h;obtain⟨k,hk,e⟩:=aAm.1 h;have hk:=aBa.1 hk;simp only[Function.comp,aBi,aDn]at e;rw[bG _ _ hj,bG _ _ (show k<vs.length by omega),FB hn oO hj]at e;omega
def nF(g:Gr)(j:Nat):List LV:=g.vs.map fun v=>wv (mk g.vs (nbr (g.es.take j) v))
@[simp] theorem DL(g:Gr)(j:Nat):(nF g j).length=g.vs.length:=by simp[nF]
theorem Iz(g:Gr):nF g 0=List.replicate g.vs.length (wv 0):=by
 have hz:mk g.vs []=0:=(mk_zero g.vs []).2 fun _ _=>by simp
 unfold nF;rw[List.eq_replicate_iff];refine⟨sS,fun b hb=>?_⟩;obtain⟨v,_,rfl⟩:=aAm.1 hb;simp[nbr,hz]
theorem Mc(g:Gr):nF g g.es.length=mF g:=by unfold nF mF;rw[aAQ]
theorem rL(g:Gr)(j k:Nat)(hk:k<g.vs.length):(nF g j)[k]?=some (wv (mk g.vs (nbr (g.es.take j) (g.vs.getD k 0)))):=by unfold nF;rw[aBN,aAd hk,bG _ _ hk];rfl
theorem Ni(es:List Ed)(x:Ed)(v:Int):nbr (es++[x]) v=nbr es v++Hj v x:=by simp[nbr]
theorem Ii{g:Gr}(hn:g.vs.Nodup){j:Nat}(hj:j<g.es.length){d a b:Int}(hx:g.es.getD j ed0=⟨d,a,b⟩)(YC:a≠b)(ha:a∈g.vs)(hb:b∈g.vs):
 ((nF g j).set (g.vs.idxOf a) (wv (mk g.vs (nbr (g.es.take j) a++[b])))).set (g.vs.idxOf b) (wv (mk g.vs (nbr (g.es.take j) b++[a])))=nF g (j+1):=by
 obtain⟨ia,ga⟩:=Bp ha;obtain⟨ib,gb⟩:=Bp hb;have Xx:g.es.take (j+1)=g.es.take j++[⟨d,a,b⟩]:=by rw[aAn hj,<- cZ _ _ hj,hx]
 refine aDf fun k=>?_;by_cases hk:k<g.vs.length
 .rw[rL g (j+1) k hk,Xx,Ni,aDd,aDd,rL g j k hk];simp only[aCH,DL];by_cases e1:g.vs.idxOf b=k
  .rw[aAe e1,aAe oO,<- e1,gb];simp[Hj,YC]
  .rw[aAa e1];by_cases e2:g.vs.idxOf a=k
   .rw[aAe e2,aAe oO,<- e2,ga];simp[Hj,aDi YC]
   .rw[aAa e2];have v1:¬a=g.vs.getD k 0:=fun e=>e2 (by rw[e,bG _ _ hk];exact hn.idxOf_getElem k hk);have v2:¬b=g.vs.getD k 0:=fun e=>e1 (by rw[e,bG _ _ hk];exact hn.idxOf_getElem k hk);unfold Hj;rw[aAa v1,aAa v2];simp
 .rw[aBz (by simp;omega),aBz (by simp;omega)]
theorem XH(x y:Ed)(q:Nat)(st:St)(hq:st.H q=.box 56 3 (edL x))(Zx:q<st.next):
 aB prog 112 [.ag (edL y),.pt q 0] st fun r st'=>r=bb (decide (y≠x))/\aA st st':=by
 obtain⟨d,a,b⟩:=x;obtain⟨d',a',b'⟩:=y;have h1:¬q=st.next:=oO;refine zN func112 ntmps112 [.tmp 3] ?_
 (repeat' (first|apply qS|(refine qR (zZ ?_);simp[hq,h1])|(refine zE ?_;intro J hJ;simp[hq,h1];refine zJ hJ ?_)))
 exact⟨rfl,aA.new _ _⟩
def newF(g:Gr):Option Sh:=match g.es with
 |[]=>none
 |x::_=>(tP g.vs (aI (g.es.filter fun y=>decide (y≠x))) (fun _=>true) x.a x.b 1000).bind fun ring=>
  if ring.length<=200/\∀ v∈ring,v∈g.vs then some ⟨kX (kX [] ring) [x.a,x.b],ring++[x.a,x.b],[ring,ring.reverse]⟩else none
theorem Na{g:Gr}(hg:GP g){h:Sh}(hh:newF g=some h)(st:St):aB prog 74 [.ag (grL g)] st fun r st'=>∃ S nl pl ll fl le,r=.pt S 0/\ShA g h.L h.on h.F S nl pl ll fl le st'/\(st.next<=S/\st.next<=ll/\st.next<=fl)/\aA st st':=by
 have he:=hg.he;have h64:=hg.h64;refine zN func74 ntmps74 [.tmp 2] ?_;refine jC fun ZA=>?_
 (repeat' (first|apply qS|(refine zE ?_;intro J hJ;simp[];(refine zJ hJ ?_;clear hJ J))))
 refine BI (fun f s=>∃ S nl pl ll,f 1=.pt st.next 0/\f 3=.pt S 0/\NeI g st.next S nl pl ll .nil st s (List.replicate g.vs.length (wv 0)) [] [] 0) ?_ ?_
 .refine w_a [] [st.next] ?_;intro J hJ;refine lF 6 [(0,true),(1,true),(2,true),(3,true)] ?_;simp;refine Tb 5 (4,true) (5,true) (6,true) ?_ ?_ ?_
  .simp;refine⟨⟨oO,oO⟩,?_⟩;refine sI 4 (5,true) (6,true) ?_ ?_
   .simp;refine lF 0 [(6,true),(7,true),(8,true),(9,true)] ?_;simp;refine eD (hJ _ _ ?_);simp only[ak];refine⟨trivial,st.next+4,st.next+1,st.next+2,st.next+3,sS,sS,⟨?_,?_,?_,?_,?_,?_,?_⟩⟩
    ·(repeat (first|rw[nHh nOo]|rw[sHh oO]|rw[nIi nQq]|rw[sIi oO]))
    ·(repeat (first|rw[nHh nOo]|rw[sHh oO]|rw[nIi nQq]|rw[sIi oO]));rfl
    ·(repeat (first|rw[nHh nOo]|rw[sHh oO]|rw[nIi nQq]|rw[sIi oO]));rw[iF]
    ·(repeat (first|rw[nHh nOo]|rw[sHh oO]|rw[nIi nQq]|rw[sIi oO]))
    ·(repeat (first|rw[nHh nOo]|rw[sHh oO]|rw[nIi nQq]|rw[sIi oO]))
    .simp only[aJ];omega
    ·(repeat (first|exact aA.refl _|(refine aA.trans ?_ (aA.new _ _))))
   .simp;refine lF 0 [(5,true),(7,true),(8,true),(9,true)] ?_;simp;refine eD (hJ _ _ ?_);simp only[ak];refine⟨trivial,st.next+4,st.next+1,st.next+3,st.next+2,sS,sS,⟨?_,?_,?_,?_,?_,?_,?_⟩⟩
    ·(repeat (first|rw[nHh nOo]|rw[sHh oO]|rw[nIi nQq]|rw[sIi oO]))
    ·(repeat (first|rw[nHh nOo]|rw[sHh oO]|rw[nIi nQq]|rw[sIi oO]));rfl
    ·(repeat (first|rw[nHh nOo]|rw[sHh oO]|rw[nIi nQq]|rw[sIi oO]));rw[iF]
    ·(repeat (first|rw[nHh nOo]|rw[sHh oO]|rw[nIi nQq]|rw[sIi oO]))
    ·(repeat (first|rw[nHh nOo]|rw[sHh oO]|rw[nIi nQq]|rw[sIi oO]))
    .simp only[aJ];omega
    ·(repeat (first|exact aA.refl _|(refine aA.trans ?_ (aA.new _ _))))
  .simp;refine sI 4 (4,true) (6,true) ?_ ?_
   .simp;refine⟨⟨oO,oO⟩,?_⟩;refine lF 0 [(6,true),(7,true),(8,true),(9,true)] ?_;simp;refine eD (hJ _ _ ?_);simp only[ak];refine⟨trivial,st.next+4,st.next+2,st.next+1,st.next+3,sS,sS,⟨?_,?_,?_,?_,?_,?_,?_⟩⟩
    ·(repeat (first|rw[nHh nOo]|rw[sHh oO]|rw[nIi nQq]|rw[sIi oO]))
    ·(repeat (first|rw[nHh nOo]|rw[sHh oO]|rw[nIi nQq]|rw[sIi oO]));rfl
    ·(repeat (first|rw[nHh nOo]|rw[sHh oO]|rw[nIi nQq]|rw[sIi oO]));rw[iF]
    ·(repeat (first|rw[nHh nOo]|rw[sHh oO]|rw[nIi nQq]|rw[sIi oO]))
    ·(repeat (first|rw[nHh nOo]|rw[sHh oO]|rw[nIi nQq]|rw[sIi oO]))
    .simp only[aJ];omega
    ·(repeat (first|exact aA.refl _|(refine aA.trans ?_ (aA.new _ _))))
   .simp;refine lF 0 [(4,true),(7,true),(8,true),(9,true)] ?_;simp;refine⟨⟨oO,oO⟩,?_⟩;refine eD (hJ _ _ ?_);simp only[ak];refine⟨trivial,st.next+4,st.next+3,st.next+1,st.next+2,sS,sS,⟨?_,?_,?_,?_,?_,?_,?_⟩⟩
    ·(repeat (first|rw[nHh nOo]|rw[sHh oO]|rw[nIi nQq]|rw[sIi oO]))
    ·(repeat (first|rw[nHh nOo]|rw[sHh oO]|rw[nIi nQq]|rw[sIi oO]));rfl
    ·(repeat (first|rw[nHh nOo]|rw[sHh oO]|rw[nIi nQq]|rw[sIi oO]));rw[iF]
    ·(repeat (first|rw[nHh nOo]|rw[sHh oO]|rw[nIi nQq]|rw[sIi oO]))
    ·(repeat (first|rw[nHh nOo]|rw[sHh oO]|rw[nIi nQq]|rw[sIi oO]))
    .simp only[aJ];omega
    ·(repeat (first|exact aA.refl _|(refine aA.trans ?_ (aA.new _ _))))
  .simp;refine sI 4 (4,true) (5,true) ?_ ?_
   .simp;refine⟨⟨oO,oO⟩,?_⟩;refine lF 0 [(5,true),(7,true),(8,true),(9,true)] ?_;simp;refine eD (hJ _ _ ?_);simp only[ak];refine⟨trivial,st.next+4,st.next+2,st.next+3,st.next+1,sS,sS,⟨?_,?_,?_,?_,?_,?_,?_⟩⟩
    ·(repeat (first|rw[nHh nOo]|rw[sHh oO]|rw[nIi nQq]|rw[sIi oO]))
    ·(repeat (first|rw[nHh nOo]|rw[sHh oO]|rw[nIi nQq]|rw[sIi oO]));rfl
    ·(repeat (first|rw[nHh nOo]|rw[sHh oO]|rw[nIi nQq]|rw[sIi oO]));rw[iF]
    ·(repeat (first|rw[nHh nOo]|rw[sHh oO]|rw[nIi nQq]|rw[sIi oO]))
    ·(repeat (first|rw[nHh nOo]|rw[sHh oO]|rw[nIi nQq]|rw[sIi oO]))
    .simp only[aJ];omega
    ·(repeat (first|exact aA.refl _|(refine aA.trans ?_ (aA.new _ _))))
   .simp;refine lF 0 [(4,true),(7,true),(8,true),(9,true)] ?_;simp;refine⟨⟨oO,oO⟩,?_⟩;refine eD (hJ _ _ ?_);simp only[ak];refine⟨trivial,st.next+4,st.next+3,st.next+2,st.next+1,sS,sS,⟨?_,?_,?_,?_,?_,?_,?_⟩⟩
    ·(repeat (first|rw[nHh nOo]|rw[sHh oO]|rw[nIi nQq]|rw[sIi oO]))
    ·(repeat (first|rw[nHh nOo]|rw[sHh oO]|rw[nIi nQq]|rw[sIi oO]));rfl
    ·(repeat (first|rw[nHh nOo]|rw[sHh oO]|rw[nIi nQq]|rw[sIi oO]));rw[iF]
    ·(repeat (first|rw[nHh nOo]|rw[sHh oO]|rw[nIi nQq]|rw[sIi oO]))
    ·(repeat (first|rw[nHh nOo]|rw[sHh oO]|rw[nIi nQq]|rw[sIi oO]))
    .simp only[aJ];omega
    ·(repeat (first|exact aA.refl _|(refine aA.trans ?_ (aA.new _ _))))
 .rintro fr s ⟨S,nl,pl,ll,f1,f3,hI⟩;have hn:g.vs.Nodup:=hg.toGoodE.toGood.nodup;have hG:=hI.gr
  (repeat' (first|apply qS|apply qB|(refine zE ?_;intro J hJ;simp[f1,hG];(refine zJ hJ ?_;clear hJ J))))
  refine aZ 24 23 25 35 (g.vs.length) (fun j fr st2=>fr 1=.pt st.next 0/\fr 3=.pt S 0/\fr 22=.sl 0 g.vs.length (us g.vs)/\NeI g st.next S nl pl ll .nil st st2 (List.replicate g.vs.length (wv 0)) (MO g.vs j) [] 0) ?_ ?_ ?_
  .exact⟨by simp[f1],by simp[f3],sS,hI⟩
  .clear f1 f3 hI hG fr s;rintro j fr s GD ⟨f1,f3,f22,hI⟩ fi fn JO hJO;have hd:=qG g.vs j GD;have hps:=LI hn GD;generalize g.vs.getD j 0=v at *;obtain⟨hG,Yg,hN,hP,hL,hb,hk⟩:=id hI;have a1:¬st.next=pl:=fun e=>by rw[e,hP]at hG;cases hG
   have a2:¬S=pl:=fun e=>by rw[e,hP]at Yg;cases Yg
   have a3:¬nl=pl:=fun e=>by rw[e,hP]at hN;cases hN
   have a4:¬ll=pl:=fun e=>by rw[e,hP]at hL;cases hL
   (repeat' (first|apply qS|(refine zE ?_;intro J hJ;simp[f3,f22,fi,fn,hd,GD,Yg,hP,hps];(refine zJ hJ ?_;clear hJ J))))
   exact hJO _ _ (by simp[fi]) (by simp[fn]) ⟨by simp[f1],by simp[f3],by simp[f22],⟨by(repeat (first|rw[nHh nOo]|rw[sHh oO]|rw[nIi nQq]|rw[sIi oO]));exact hG,by(repeat (first|rw[nHh nOo]|rw[sHh oO]|rw[nIi nQq]|rw[sIi oO]));exact Yg,by(repeat (first|rw[nHh nOo]|rw[sHh oO]|rw[nIi nQq]|rw[sIi oO]));exact hN,by(repeat (first|rw[nHh nOo]|rw[sHh oO]|rw[nIi nQq]|rw[sIi oO])),by(repeat (first|rw[nHh nOo]|rw[sHh oO]|rw[nIi nQq]|rw[sIi oO]));exact hL,by simp only[bS];exact hb,hk.set oO _⟩⟩
  .clear f1 f3 hI hG fr s;rintro fr s ⟨f1,f3,f22,hI⟩;have hG:=hI.gr;have hel:=aN g.es
   (repeat' (first|apply qS|apply qB|(refine zE ?_;intro J hJ;simp[f1,hG];(refine zJ hJ ?_;clear hJ J))))
   rw[<- Iz]at hI;have hplc:MO g.vs g.vs.length=wY g.vs:=rfl;rw[hplc]at hI;clear hplc;refine aZ 39 38 40 81 (g.es.length) (fun j fr st2=>fr 1=.pt st.next 0/\fr 3=.pt S 0/\fr 37=.sl 0 g.es.length (eds g.es)/\NeI g st.next S nl pl ll .nil st st2 (nF g j) (wY g.vs) [] 0) ?_ ?_ ?_
   .exact⟨by simp[f1],by simp[f3],sS,hI⟩
   .clear f1 f3 f22 hI hG fr s;rintro j fr s GD ⟨f1,f3,f37,hI⟩ fi fn JO hJO;have hde:=aW g.es j GD;have hj3:j*3<g.es.length*3:=oO;have hm:g.es.getD j ed0∈g.es:=by rw[cZ _ _ GD];exact aAA _
    have Yf:=hg.ends _ hm;have Wu:=hg.ne _ hm;generalize hx:g.es.getD j ed0=x at *;obtain⟨d,a,b⟩:=x;simp only at Yf Wu;have hsu:=Ii hn GD hx Wu Yf.1 Yf.2;obtain⟨ia,ga⟩:=Bp Yf.1;obtain⟨ib,gb⟩:=Bp Yf.2;have pa:=AW hn ia;have pb:=AW hn ib;rw[ga]at pa;rw[gb]at pb;have na:=rL g j _ ia;rw[ga]at na;have oa:=Bz g.vs (nbr (g.es.take j) a) [b] h64;have ob:=Bz g.vs (nbr (g.es.take j) b) [a] h64;have nb:=rL g j _ ib;rw[gb]at nb;have hidx:¬g.vs.idxOf a=g.vs.idxOf b:=fun e=>Wu (by rw[<- ga,<- gb,e]);have nb2:((nF g j).set (g.vs.idxOf a) (wv (mk g.vs (nbr (g.es.take j) a++[b]))))[g.vs.idxOf b]?=some (wv (mk g.vs (nbr (g.es.take j) b))):=by rw[aDd,aAa hidx];exact nb
    have hl:=DL g j;generalize nF g j=N at *;generalize g.vs.idxOf a=ka at *;generalize g.vs.idxOf b=kb at *;generalize mk g.vs (nbr (g.es.take j) a)=ma at *;generalize mk g.vs (nbr (g.es.take j) b)=mb at *;obtain⟨hG,Yg,hN,hP,hL,hb,hk⟩:=id hI;have a1:¬st.next=s.next:=oO;have a2:¬S=s.next:=oO;have a3:¬nl=s.next:=oO;have a4:¬ll=s.next:=oO;have a5:¬pl=s.next:=oO;have da:N.drop ka=wv ma::N.drop (ka+1):=by rw[aAO oO];rw[aAd oO,aAb]at na;rw[na]
    have ka1:(ka:Int)<g.vs.length:=oO;have kb1:(kb:Int)<g.vs.length:=oO
    (repeat' (first|apply qS|(refine zE ?_;intro J hJ;simp[f37,fi,fn,hde,hel,hj3,GD];(refine zJ hJ ?_;clear hJ J))))
    (refine zS [] [S,s.next,nl,pl] [0,2,4,6,8,10,12,14,16,18,20,22,24,26,28,30,32,34,36,39] ?_;intro J hJ;simp[f3,Yg,hN,hP,a1,a2,a3,a4,a5,pa,da,ia,ka1,hl])
    have hBb:∀ {v:Int} {s':St},v∈g.vs->s'.H S=.box 119 7 [.sl 0 g.vs.length (us g.vs),.sl 0 g.es.length (eds g.es),.ms nl 0 g.vs.length,.mp pl,.mp ll,wv 0,.nil]->s'.H pl=.map false [.u32] (wY g.vs)->aB prog 110 [.pt S 0,u v] s' fun r st'=>r=wv (mk g.vs [v])/\st'=s':=
     fun {v s'} hv h1 h2=>Sb ⟨⟨_,_,_,_,_,_,h1⟩,h2⟩ hn h64 hv
    refine qD (hBb Yf.2 (by rw[bX,aAa a2];exact Yg) (by rw[bX,aAa a5];exact hP)) sS ?_;rintro r s1 ⟨rfl,h1⟩;rw[h1];clear h1 s1;refine⟨fun h=>by first|(cases h;done)|exact fun _ _=>rfl|simp,?_⟩;have E5:∀(M:List LV) (k:Nat) (y:LV),k<M.length->M.take k++y::M.drop (k+1)=M.set k y:=fun M k y h=>by rw[aBG,aAe h]
    have v5:=E5 N ka (wv (mk g.vs (nbr (g.es.take j) a++[b]))) oO;have b1:¬S=nl:=fun e=>by rw[e,hN]at Yg;cases Yg
    have b2:¬pl=nl:=fun e=>by rw[e,hN]at hP;cases hP
    have b3:¬s.next=nl:=oO;have b4:¬ll=nl:=fun e=>by rw[e,hN]at hL;cases hL
    have b5:¬st.next=nl:=fun e=>by rw[e,hN]at hG;cases hG
    (apply aS;simp[Yg,hN,hP,a1,a2,a3,a4,a5,ia,ka1,hl,oa];(repeat refine ca ?_);(refine zJ hJ ?_;clear hJ J))
    rw[v5];have E0:(N.set ka (wv (mk g.vs (nbr (g.es.take j) a++[b])))).length=g.vs.length:=by rw[aCH,hl]
    generalize N.set ka (wv (mk g.vs (nbr (g.es.take j) a++[b])))=N2 at *;have db:N2.drop kb=wv mb::N2.drop (kb+1):=by rw[aAO oO];rw[aAd oO,aAb]at nb2;rw[nb2]
    have I5:=E5 N2 kb (wv (mk g.vs (nbr (g.es.take j) b++[a]))) oO
    (repeat (apply qS))
    (refine zS [] [S,s.next,nl,pl] [0,2,4,6,8,10,12,14,16,18,20,22,24,26,28,30,32,34,36,39] ?_;intro J hJ;simp[f3,Yg,hP,a1,a2,a3,a4,a5,b1,b2,b3,b4,pb,db,ib,kb1,E0])
    refine qD (hBb Yf.1 (by rw[bF,aAa b1,bX,aAa a2];exact Yg) (by rw[bF,aAa b2,bX,aAa a5];exact hP)) sS ?_;rintro r s1 ⟨rfl,h1⟩;rw[h1];clear h1 s1;refine⟨fun h=>by first|(cases h;done)|exact fun _ _=>rfl|simp,?_⟩
    (apply aS;simp[Yg,hP,a1,a2,a3,a4,a5,b1,b2,b3,b4,ib,kb1,E0,ob];(repeat refine ca ?_);(refine zJ hJ ?_;clear hJ J))
    rw[I5,hsu]
    skip
    refine hJO _ _ (by simp[fi]) (by simp[fn]) ⟨by simp[f1],by simp[f3],by simp[f37],⟨by(repeat (first|rw[nHh nOo]|rw[sHh oO]|rw[nIi nQq]|rw[sIi oO]));exact hG,by(repeat (first|rw[nHh nOo]|rw[sHh oO]|rw[nIi nQq]|rw[sIi oO]));exact Yg,by(repeat (first|rw[nHh nOo]|rw[sHh oO]|rw[nIi nQq]|rw[sIi oO])),by(repeat (first|rw[nHh nOo]|rw[sHh oO]|rw[nIi nQq]|rw[sIi oO]));exact hP,by(repeat (first|rw[nHh nOo]|rw[sHh oO]|rw[nIi nQq]|rw[sIi oO]));exact hL,by simp only[bS,aJ];omega,?_⟩⟩;exact((hk.trans (aA.new _ _)).set oO _).set oO _
   .clear f1 f3 f22 hI hG fr s;rintro fr s ⟨f1,f3,f37,hI⟩;rw[Mc]at hI;unfold newF at hh;cases hes:g.es with
    |nil=>rw[hes]at hh;cases hh
    |cons x es'=>
     rw[hes]at hh;simp only at hh;obtain⟨ring,hring,hh⟩:=aBE.1 hh;by_cases hc:ring.length<=200/\∀ v∈ring,v∈g.vs
     case neg=>rw[aAa hc]at hh;cases hh
     rw[aAe hc,aAb]at hh;subst hh;obtain⟨hrl,hrv⟩:=hc;obtain⟨hG,Yg,hN,hP,hL,hb,hk⟩:=id hI;simp only[ak];have hT3:(eds g.es).take 3=edL x:=by rw[hes];simp[eds,edL]
     have B9:0<g.es.length:=by rw[hes];simp
     have hlp3:0<g.es.length*3:=oO;have hlp4:3<=g.es.length*3:=oO;have hlpi:(0:Int)<g.es.length:=oO;have a1:¬st.next=s.next:=oO;obtain⟨dx,ax,bx⟩:=x;have hTe:∀ s2,aA s s2->s.next<s2.next->s2.H s.next=.box 56 3 (edL ⟨dx,ax,bx⟩)->Kk 112 [.pt s.next 0] s2 g.es fun y=>decide (y≠⟨dx,ax,bx⟩):=fun s2 h1 h2 h3 y _ s3 h4=>XH _ y s.next s3 ((h4.H _ h2).trans h3) (aAp h2 h4.next)
     (repeat' (first|apply qS|(refine zE ?_;intro J hJ;simp[f1,hG,hel,hT3,B9,hlp3,hlp4,hlpi,a1];(try (refine zJ hJ ?_;clear hJ J)))))
     refine qE (TA g _ _ _ _ oO oO (hTe _ (aA.new _ _) sS sS)) (by simp[grL]) ?_;rintro r s1 ⟨rfl,Xp⟩;have Yi:=Xp.next;simp only[aJ]at Yi;have hX1:s1.H s.next=.box 56 3 (edL ⟨dx,ax,bx⟩):=by rw[Xp.H _ sS];simp
     have hK1:aA s s1:=(aA.new _ _).trans Xp;clear Xp;have C0:(g.es.filter fun y=>decide (y≠⟨dx,ax,bx⟩)).length<=1000:=by have:=aBh (fun y:Ed=>decide (y≠⟨dx,ax,bx⟩)) g.es;omega
     have hmay:∀ s,Nn (.atom .nilFunc) (fun _=>true) s:=fun s=>.inl ⟨rfl,fun _=>rfl⟩;rw[<- hes]at hring;have b1:¬s.next=s1.next:=oO
     (repeat' (first|apply qS|((first|(refine zE ?_;intro J hJ)|(apply aF));simp[hX1,b1];(try (refine zJ hJ ?_;clear hJ J)))))
     refine qE (Path ⟨g.vs,g.es.filter fun y=>decide (y≠⟨dx,ax,bx⟩)⟩ ax bx _ (fun _=>true) 1000 ring _ (by simp only;omega) C0 oO (hmay _) hring) (by simp[grL]) ?_;rintro r s2 ⟨rfl,Xq⟩;have Zk:=Xq.next;simp only[aJ]at Zk;have hX2:s2.H s.next=.box 56 3 (edL ⟨dx,ax,bx⟩):=by rw[Xq.H _ (by simp;omega),bX,aAa b1];exact hX1
     have V1:aA s s2:=(hK1.trans (aA.new _ _)).trans Xq;clear Xq
     (repeat' (first|apply qS|((first|(refine zE ?_;intro J hJ)|(apply aF));simp[];(try (refine zJ hJ ?_;clear hJ J)))))
     refine qE (Dy ring 0 _ oO) sS ?_;rintro r s3 ⟨q,rfl,q1,q2,hq,Xv⟩
     (repeat' (first|apply qS|((first|(refine zE ?_;intro J hJ)|(apply aF));simp[];(try (refine zJ hJ ?_;clear hJ J)))))
     refine qE (tY ring q s3 (by unfold small;omega) hq) sS ?_;rintro r s4 e4;have hK4:aA s s4:=by rw[e4];exact(V1.trans Xv).set (by have:=V1.next;omega) _
     have U0:s4.next=s3.next:=by rw[e4];rfl
     have hn3:=Xv.next;have S4:s4.H q=.box 34 1 (us ring.reverse):=by rw[e4];simp
     have hX4:s4.H s.next=.box 56 3 (edL ⟨dx,ax,bx⟩):=by rw[e4,bF,aAa oO,Xv.H _ oO];exact hX2
     clear e4 hq Xv;have hz:mk g.vs []=0:=(mk_zero g.vs []).2 fun _ _=>by simp
     have hSb4:s4.H S=.box 119 7 [.sl 0 g.vs.length (us g.vs),.sl 0 g.es.length (eds g.es),.ms nl 0 g.vs.length,.mp pl,.mp ll,wv (mk g.vs []),.nil]:=by rw[hz];exact(hK4.H S oO).trans Yg
     have hN4:=(hK4.H nl oO).trans hN;have hP4:=(hK4.H pl oO).trans hP;have hL4:=(hK4.H ll oO).trans hL;have c1:¬pl=ll:=fun e=>by rw[e,hL]at hP;cases hP
     have c2:¬nl=ll:=fun e=>by rw[e,hL]at hN;cases hN
     have c3:¬nl=S:=fun e=>by rw[e,Yg]at hN;cases hN
     have c4:¬pl=S:=fun e=>by rw[e,Yg]at hP;cases hP
     have c5:¬ll=S:=fun e=>by rw[e,Yg]at hL;cases hL
     have c6:¬S=ll:=fun e=>c5 e.symm;have hn5:=hK4.next
     (repeat' (first|apply qS|((first|(refine zE ?_;intro J hJ)|(apply aF));simp[f3];(try (refine zJ hJ ?_;clear hJ J)))))
     refine qE (PC hSb4 hP4 hL4 (L:=[]) rfl c1 hn h64 ring 0 hrv oO) sS ?_;rintro r s5 ⟨le1,e5,S5⟩;rw[List.nil_append]at e5;have n5:s5.next=s4.next:=by rw[e5];rfl
     have hSb5:s5.H S=.box 119 7 [.sl 0 g.vs.length (us g.vs),.sl 0 g.es.length (eds g.es),.ms nl 0 g.vs.length,.mp pl,.mp ll,wv (mk g.vs ring),.nil]:=by rw[e5];simp
     have hN5:s5.H nl=.box 116 1 (mF g):=by rw[e5];simp[c3,c2,hN4]
     have hP5:s5.H pl=.map false [.u32] (wY g.vs):=by rw[e5];simp[c4,c1,hP4]
     have hL5:s5.H ll=.map true [.u32,.u32] le1:=by rw[e5];simp[c5]
     have hq5:s5.H q=.box 34 1 (us ring.reverse):=by rw[e5];simp[show ¬q=S by omega,show ¬q=ll by omega,S4]
     have hX5:s5.H s.next=.box 56 3 (edL ⟨dx,ax,bx⟩):=by rw[e5];simp[show ¬s.next=S by omega,show ¬s.next=ll by omega,hX4]
     have hK5:aA st s5:=by rw[e5];exact((hk.trans hK4).set oO _).set oO _
     clear e5 hSb4 hN4 hP4 hL4 S4 hX4;have YC:=hg.ends ⟨dx,ax,bx⟩ (by rw[hes];simp);simp only at YC;have hv2:∀ v∈[ax,bx],v∈g.vs:=fun v hv=>by
      simp only[aAf,aBJ,aDa]at hv;rcases hv with e|e
      .rw[e];exact YC.1
      .rw[e];exact YC.2
     (repeat' (first|apply qS|((first|(refine zE ?_;intro J hJ)|(apply aF));simp[hX5,f3];(try (refine zJ hJ ?_;clear hJ J)))))
     have hk6:=aA.new s5 (.own 34 1 2);refine qE (PC ((hk6.H S oO).trans hSb5) ((hk6.H pl oO).trans hP5) ((hk6.H ll oO).trans hL5) S5 c1 hn h64 [ax,bx] s5.next hv2 sS) sS ?_;rintro r s7 ⟨le2,e7,hk7⟩;have n7:s7.next=s5.next+1:=by rw[e7];simp
     have hSb7:s7.H S=.box 119 7 [.sl 0 g.vs.length (us g.vs),.sl 0 g.es.length (eds g.es),.ms nl 0 g.vs.length,.mp pl,.mp ll,wv (mk g.vs (ring++[ax,bx])),.nil]:=by rw[e7];simp
     have d1:¬nl=s5.next:=oO;have d2:¬pl=s5.next:=oO;have d3:¬ll=s5.next:=oO;have hN7:s7.H nl=.box 116 1 (mF g):=by rw[e7];simp[c3,c2,d1,hN5]
     have hP7:s7.H pl=.map false [.u32] (wY g.vs):=by rw[e7];simp[c4,c1,d2,hP5]
     have hL7:s7.H ll=.map true [.u32,.u32] le2:=by rw[e7];simp[c5]
     have hq7:s7.H q=.box 34 1 (us ring.reverse):=by rw[e7];simp[show ¬q=S by omega,show ¬q=ll by omega,show ¬q=s5.next by omega,hq5]
     have hK7:aA st s7:=by rw[e7];exact((hK5.trans hk6).set oO _).set oO _
     clear e7 hSb5 hN5 hP5 hL5 hq5 hX5
     (apply aF;simp[];(refine zJ hJ ?_;clear hJ J))
     refine sK 11 (l:=q) (n:=ring.length) sS hq7 sS ?_;have Xx:(us ring.reverse).take (ring.length*1)=us ring.reverse:=by rw[aAv sS]
     rw[Xx];have hrv2:∀ v∈ring.reverse,v∈g.vs:=fun v hv=>hrv v (aCm.1 hv);have hrl2:ring.length=ring.reverse.length:=sS;have e1:¬S=q:=oO;have hk8:aA st (s7.set q .dead):=hK7.set oO _;have n8:(s7.set q .dead).next=s7.next:=rfl;have hSb8:(s7.set q .dead).H S=.box 119 7 [.sl 0 g.vs.length (us g.vs),.sl 0 g.es.length (eds g.es),.ms nl 0 g.vs.length,.mp pl,.mp ll,wv (mk g.vs (ring++[ax,bx])),.nil]:=by rw[bF,aAa e1];exact hSb7
     have hN8:(s7.set q .dead).H nl=.box 116 1 (mF g):=by rw[bF,aAa oO];exact hN7
     have hP8:(s7.set q .dead).H pl=.map false [.u32] (wY g.vs):=by rw[bF,aAa oO];exact hP7
     have hL8:(s7.set q .dead).H ll=.map true [.u32,.u32] le2:=by rw[bF,aAa oO];exact hL7
     generalize s7.set q .dead=s8 at *;have hB8:ShB g.vs S pl s8:=⟨⟨_,_,_,_,_,_,hSb8⟩,hP8⟩;have hFa:=fun(l:List Int) (hl:∀ v∈l,v∈g.vs) (S7:l.length<=1048576)=>NP hB8 oO oO hn h64 l 0 hl S7;have hF2:=hFa ring.reverse hrv2 (by simp;omega);rw[<- hrl2]at hF2
     (repeat (apply qS))
     (refine w_e [116] ?_;intro J hJ;simp only[];simp[f3])
     refine qE (hFa ring hrv oO) sS ?_;rintro r s9 ⟨rfl,e9⟩;rw[e9];clear e9 s9
     (apply aF;simp[f3])
     refine qE hF2 sS ?_;rintro r s9 ⟨rfl,e9⟩;rw[e9];clear e9 s9;have z1:¬S=s8.next:=oO
     (repeat' (first|apply qS|(refine qR (zZ ?_);simp[hSb8,z1,f3])|((first|(refine zE ?_;intro J hJ)|(apply aF));simp[hSb8,z1,f3];(refine zJ hJ ?_;clear hJ J))))
     have hfac:[LV.sl 0 ring.length (us ring),wv (mk g.vs ring),LV.sl 0 ring.length (List.map u ring).reverse,wv (mk g.vs ring.reverse)]=gC g.vs [ring,ring.reverse]:=by simp[gC]
     rw[hfac];refine⟨nl,pl,ll,s8.next,⟨le2,⟨⟨sS,?_,?_,?_,hk7,?_⟩,?_,?_,?_,?_,sS⟩⟩,⟨oO,oO,by have:=hk8.next;omega⟩,(hk8.trans (aA.new _ _)).set oO _⟩
     ·(repeat (first|rw[nHh nOo]|rw[sHh oO]|rw[nIi nQq]|rw[sIi oO]));exact hN8
     ·(repeat (first|rw[nHh nOo]|rw[sHh oO]|rw[nIi nQq]|rw[sIi oO]));exact hP8
     ·(repeat (first|rw[nHh nOo]|rw[sHh oO]|rw[nIi nQq]|rw[sIi oO]));exact hL8
     .simp only[bS,aJ];omega
     ·(repeat (first|rw[nHh nOo]|rw[sHh oO]|rw[nIi nQq]|rw[sIi oO]))
     .simp only[bS,aJ];omega
     .intro r hr v hv;simp only[aAf,aBJ,aDa]at hr;rcases hr with e|e
      .rw[e]at hv;exact hrv v hv
      .rw[e]at hv;exact hrv2 v hv
     .intro v hv;rw[aAg]at hv;exact hv.elim (hrv v) (hv2 v)
theorem FK(x:Int)(st:St):aB prog 107 [u x] st fun r st'=>r=u x/\aA st st':=by
 refine zN func107 ntmps107 [.tmp 2] ?_
 (repeat' (first|apply qS|(refine qR (zZ ?_);simp[])|(refine zE ?_;intro J hJ;simp[];refine zJ hJ ?_)))
 exact aA.refl _
theorem EX(x:Ed)(st:St):aB prog 109 [.ag (edL x)] st fun r st'=>r=u x.id/\aA st st':=by
 obtain⟨d,a,b⟩:=x;refine zN func109 ntmps109 [.tmp 2] ?_
 (repeat' (first|apply qS|(refine qR (zZ ?_);simp[])|(refine zE ?_;intro J hJ;simp[];refine zJ hJ ?_)))
 exact aA.new _ _
@[simp] def Pg(fn:FuncId):cI:=.box 140 1 [.fn (.func fn) []]
@[simp] def Bx(fn:FuncId):cI:=.box 148 1 [.fn (.func fn) []]
def PcU(b:Nat)(st:St):Prop:=b<st.next/\st.H b=Pg 107
def PcE(b:Nat)(st:St):Prop:=b<st.next/\st.H b=Bx 109
theorem Py(b:Nat)(x y:Int)(st:St)(h:PcU b st):aB prog 156 [u x,u y,.pt b 0] st fun r st'=>r=i (U.tE ⟨x⟩ ⟨y⟩)/\aA st st':=by
 obtain⟨hb,hH⟩:=h;simp only[Pg]at hH;refine zN func156 ntmps156 [.tmp 5] ?_
 (repeat' (first|apply qS|(refine zE ?_;intro J hJ;simp[];refine zJ hJ ?_)))
 (refine zS [] [b] [0,2,6,8,4,10,12,14] ?_;intro J hJ;simp[hH])
 refine aK (FK x st) ?_;rintro r s1 ⟨rfl,Xp⟩;have P9:=(Xp.H b hb).trans hH;refine⟨fun _=>by simp[P9,hH],?_⟩
 (apply aS;simp[P9,hH])
 refine aK (FK y s1) ?_;rintro r s2 ⟨rfl,Xq⟩;have B8:=(Xq.H b (aAp hb Xp.next)).trans P9;refine⟨fun _=>by simp[B8,hH],?_⟩
 (apply aS;simp[B8,hH])
 refine aK (KT x y s2) ?_;rintro r s3 ⟨rfl,rfl⟩;refine⟨fun _=>by simp[B8,hH],?_⟩
 (apply aS;simp[B8,hH];refine zJ hJ ?_)
 (repeat' (refine qR (zZ ?_);simp[U.tE]))
 exact Xp.trans Xq
theorem Nv(b:Nat)(x y:Int)(st:St)(h:PcU b st):aB prog 158 [u x,u y,.pt b 0] st fun r st'=>r=bb (decide (x=y))/\aA st st':=by
 obtain⟨hb,hH⟩:=h;simp only[Pg]at hH;refine zN func158 ntmps158 [.tmp 5] ?_
 (repeat' (first|apply qS|(refine zE ?_;intro J hJ;simp[];refine zJ hJ ?_)))
 (refine zS [] [b] [0,2,6,8,4,10,12,14] ?_;intro J hJ;simp[hH])
 refine aK (FK x st) ?_;rintro r s1 ⟨rfl,Xp⟩;have P9:=(Xp.H b hb).trans hH;refine⟨fun _=>by simp[P9,hH],?_⟩
 (apply aS;simp[P9,hH])
 refine aK (FK y s1) ?_;rintro r s2 ⟨rfl,Xq⟩;have B8:=(Xq.H b (aAp hb Xp.next)).trans P9;refine⟨fun _=>by simp[B8,hH],?_⟩
 (apply aS;simp[B8,hH];refine zJ hJ ?_)
 (repeat' (refine qR (zZ ?_);simp[]))
 exact⟨by by_cases h:x=y<;>simp[h],Xp.trans Xq⟩
theorem Ll(b:Nat)(x y:Ed)(st:St)(h:PcE b st):aB prog 160 [.ag (edL x),.ag (edL y),.pt b 0] st fun r st'=>r=i (tE x y)/\aA st st':=by
 obtain⟨hb,hH⟩:=h;obtain⟨xi,xa,xb⟩:=x;obtain⟨yi,ya,yb⟩:=y;simp only[Bx]at hH;have b1:¬b=st.next:=oO;have b2:¬b=st.next+1:=oO;refine zN func160 ntmps160 [.tmp 5] ?_
 (repeat' (first|apply qS|(refine zE ?_;intro J hJ;simp[];refine zJ hJ ?_)))
 (refine zS [] [b,st.next,st.next+1] [0,2,6,8,4,10,12,14] ?_;intro J hJ;simp[hH,b1,b2])
 refine aK (EX ⟨xi,xa,xb⟩ _) ?_;rintro r s1 ⟨rfl,Xp⟩;have Yi:=Xp.next;simp only[aJ]at Yi;have P9:s1.H b=Bx 109:=by rw[Xp.H b (by simp;omega)];simp[b1,b2,hH]
 have hX1:s1.H st.next=.box 56 3 [u xi,u xa,u xb]:=by rw[Xp.H _ (by simp;omega)];simp
 have hY1:s1.H (st.next+1)=.box 56 3 [u yi,u ya,u yb]:=by rw[Xp.H _ sS];simp
 simp only[Bx]at P9;refine⟨fun _=>by simp[P9,hH,hX1,hY1,b1,b2],?_⟩
 (apply aS;simp[P9,hH,hX1,hY1])
 refine aK (EX ⟨yi,ya,yb⟩ s1) ?_;rintro r s2 ⟨rfl,Xq⟩;have B8:=(Xq.H b oO).trans P9;have hX2:=(Xq.H st.next oO).trans hX1;have hY2:=(Xq.H (st.next+1) oO).trans hY1;refine⟨fun _=>by simp[B8,hH,hX2,hY2,b1,b2],?_⟩
 (apply aS;simp[B8,hH,hX2,hY2])
 refine aK (KT xi yi s2) ?_;rintro r s3 ⟨rfl,rfl⟩;refine⟨fun _=>by simp[B8,hH,hX2,hY2,b1,b2],?_⟩
 (apply aS;simp[B8,hH,hX2,hY2];refine zJ hJ ?_)
 (repeat' (refine qR (zZ ?_);simp[tE]))
 exact(((aA.new _ _).trans (aA.new _ _)).trans Xp).trans Xq
theorem MA(b:Nat)(x y:Ed)(st:St)(h:PcE b st):aB prog 162 [.ag (edL x),.ag (edL y),.pt b 0] st fun r st'=>r=bb (decide (x.id=y.id))/\aA st st':=by
 obtain⟨hb,hH⟩:=h;obtain⟨xi,xa,xb⟩:=x;obtain⟨yi,ya,yb⟩:=y;simp only[Bx]at hH;have b1:¬b=st.next:=oO;have b2:¬b=st.next+1:=oO;refine zN func162 ntmps162 [.tmp 5] ?_
 (repeat' (first|apply qS|(refine zE ?_;intro J hJ;simp[];refine zJ hJ ?_)))
 (refine zS [] [b,st.next,st.next+1] [0,2,6,8,4,10,12,14] ?_;intro J hJ;simp[hH,b1,b2])
 refine aK (EX ⟨xi,xa,xb⟩ _) ?_;rintro r s1 ⟨rfl,Xp⟩;have Yi:=Xp.next;simp only[aJ]at Yi;have P9:s1.H b=Bx 109:=by rw[Xp.H b (by simp;omega)];simp[b1,b2,hH]
 have hX1:s1.H st.next=.box 56 3 [u xi,u xa,u xb]:=by rw[Xp.H _ (by simp;omega)];simp
 have hY1:s1.H (st.next+1)=.box 56 3 [u yi,u ya,u yb]:=by rw[Xp.H _ sS];simp
 simp only[Bx]at P9;refine⟨fun _=>by simp[P9,hH,hX1,hY1,b1,b2],?_⟩
 (apply aS;simp[P9,hH,hX1,hY1])
 refine aK (EX ⟨yi,ya,yb⟩ s1) ?_;rintro r s2 ⟨rfl,Xq⟩;have B8:=(Xq.H b oO).trans P9;have hX2:=(Xq.H st.next oO).trans hX1;have hY2:=(Xq.H (st.next+1) oO).trans hY1;refine⟨fun _=>by simp[B8,hH,hX2,hY2,b1,b2],?_⟩
 (apply aS;simp[B8,hH,hX2,hY2];refine zJ hJ ?_)
 (repeat' (refine qR (zZ ?_);simp[]))
 exact⟨by by_cases h:xi=yi<;>simp[h],(((aA.new _ _).trans (aA.new _ _)).trans Xp).trans Xq⟩
theorem UE(b q:Nat)(hbq:b≠q):U.gU 156 [.pt b 0] q (PcU b):=
 ⟨fun st st' h YQ=>⟨aAp h.1 YQ.1,(YQ.2 b hbq h.1).trans h.2⟩,fun st x y h=>Py b x.id y.id st h⟩
theorem Va(b q:Nat)(hbq:b≠q):gU 160 [.pt b 0] q (PcE b):=
 ⟨fun st st' h YQ=>⟨aAp h.1 YQ.1,(YQ.2 b hbq h.1).trans h.2⟩,fun st x y h=>Ll b x y st h⟩
theorem eqU(b:Nat):TK 158 [.pt b 0] (PcU b):=
 ⟨fun st st' h hk=>⟨aAp h.1 hk.next,(hk.H b h.1).trans h.2⟩,fun st x y h=>Nv b x y st h⟩
theorem eqE(b:Nat):Sx 162 [.pt b 0] (PcE b):=
 ⟨fun st st' h hk=>⟨aAp h.1 hk.next,(hk.H b h.1).trans h.2⟩,fun st x y h=>MA b x y st h⟩
theorem TG(l:List Int):(l.map U.Nu.mk).map U.Nu.id=l:=by rw[aBd];exact aEY l
theorem Qw(D0:List Int)(q:Nat)(OM:FuncId)(cX:List LV)(Pc:St->Prop)(st:St)(YL:U.gU OM cX q Pc)(Zr:Pc st)(hq:q<st.next)(hl:D0.length<=100000)(hH:st.H q=.box 34 1 (us D0)):
 aB prog 155 [.ms q 0 D0.length,.fn (.func OM) cX] st fun r st'=>∃ D,D.Perm D0/\D.Pairwise (fun x y=>x<=y)/\st'.H q=.box 34 1 (us D)/\bN q st st':=by
 have hc:=U.IE (D0.map U.Nu.mk) q D0.length OM cX Pc st YL Zr hq (aAz _) hl (by rw[hH];unfold U.eds;rw[TG]);refine zN func155 ntmps155 [] ?_
 (repeat' (refine zE ?_;intro J hJ;simp[]))
 refine qE hc sS ?_;rintro r s1 ⟨D,h1,h2,h3,h4⟩
 (repeat' (apply aF;simp[];refine zJ hJ ?_))
 refine⟨trivial,D.map U.Nu.id,?_,aAV.2 h2,h3,h4⟩;have:=h1.map U.Nu.id
 rwa [TG]at this
theorem Qq(D0:List Ed)(q:Nat)(OM:FuncId)(cX:List LV)(Pc:St->Prop)(st:St)(YL:gU OM cX q Pc)(Zr:Pc st)(hq:q<st.next)(hl:D0.length<=100000)(hH:st.H q=.box 56 3 (eds D0)):
 aB prog 159 [.ms q 0 D0.length,.fn (.func OM) cX] st fun r st'=>∃ D,D.Perm D0/\Ris D/\st'.H q=.box 56 3 (eds D)/\bN q st st':=by
 have hc:=IE D0 q _ OM cX Pc st YL Zr hq rfl hl hH;refine zN func159 ntmps159 [] ?_
 (repeat' (refine zE ?_;intro J hJ;simp[]))
 refine qE hc sS ?_;rintro r s1 h
 (repeat' (apply aF;simp[];refine zJ hJ ?_))
 exact⟨trivial,h⟩
theorem RB(l:List Ed)(t:Nat)(st:St)(hl:l.length<=1000)(hn:(l.map (·.id)).Nodup):
 aB prog 108 [.sl t l.length (eds l),.fn (.func 109) []] st fun r st'=>(∃ E:List Ed,E.Perm l/\(E.map (·.id)).Pairwise (· < ·)/\r=.sl 0 E.length (eds E))/\aA st st':=by
 refine cG ?_;have hel:=aN l;refine zN func108 ntmps108 [.tmp 4] ?_
 (repeat' (first|apply qS|(refine zE ?_;intro J hJ;simp[];(try refine zJ hJ ?_))))
 refine qE (Sg l t _ oO) sS ?_;rintro r s1 ⟨q,rfl,X0,Zg,Zz,Xp⟩;have Yi:=Xp.next;simp only[aJ]at Yi X0;have hF1:PcE st.next s1:=⟨oO,by rw[Xp.H _ sS];simp⟩;have k1:aA st s1:=(aA.new _ _).trans Xp
 (repeat' (first|apply qS|((first|(refine zE ?_;intro J hJ)|(apply aF));simp[];(try refine zJ hJ ?_))))
 refine qE (Qq l q _ [.pt st.next 0] (PcE st.next) s1 (Va st.next q oO) hF1 Zg oO Zz) sS ?_;rintro r s2 ⟨D,hp,hr,I8,YQ⟩;have Zk:=YQ.1;have lD:=hp.length_eq;have hF2:=(Va st.next q oO).keep _ _ hF1 YQ;have k2:aA st s2:=⟨by have:=k1.next;omega,fun l hl=>(YQ.2 l oO (by have:=k1.next;omega)).trans (k1.H l hl)⟩;have GD:(D.map (·.id)).Pairwise (· < ·):=by
  have hnd:(D.map (·.id)).Nodup:=(hp.map (·.id)).nodup_iff.2 hn;have V4:(D.map (·.id)).Pairwise (·<=·):=by rw[aAV];exact hr
  refine(List.Pairwise.and V4 hnd).imp fun h=>?_;have:=h.1;have:=h.2;omega
 have Wu:∀ j,j+1<D.length->(D.getD (j+1) ed0).id≠(D.getD j ed0).id:=fun j hj=>by have:=aAJ.1 GD j (j+1) (by simp;omega) (by simpa using hj) oO;simp only[aCl]at this;rw[aAc,aAc,aAd hj,aAd (by omega:j<D.length)];simp only[Option.getD_some];omega
 (repeat' (first|apply qS|((first|(refine zE ?_;intro J hJ)|(apply aF));simp[];(try refine zJ hJ ?_))))
 refine qE (Nl D q _ [.pt st.next 0] (PcE st.next) s2 (eqE st.next) hF2 oO Wu oO I8) (by simp[lD]) ?_;rintro r s3 ⟨rfl,Xv⟩;have X5:=(Xv.H q oO).trans I8;have helD:=aN D
 (repeat' (first|(refine qR (zZ ?_);simp[])|(apply aF;simp[];refine zJ hJ ?_)))
 exact⟨q,D.length,⟨rfl,rfl⟩,56,3,eds D,X5,oO,⟨D,hp,GD,rfl,by rw[aAv oO]⟩,(k2.trans Xv).set oO _⟩
end Aw
namespace Aw.Cu
open Go Go.RowKit Pl Aw
def rT(c:List Int):Nat->List Int
 |0=>[]
 |k+1=>if k=0\/c.getD k 0≠c.getD (k-1) 0 then rT c k++[c.getD k 0]else rT c k
structure Rsn(c:List Int)(k:Nat)(l:List Int):Prop where
 lt:l.Pairwise (· < ·)
 mem:∀ y,y∈l↔∃ j,j<k/\c.getD j 0=y
theorem Ag{c:List Int}(h:c.Pairwise (·<=·)):∀ k,k<=c.length->Rsn c k (rT c k)
 |0,_=>⟨.nil,fun y=>by simp[rT]⟩
 |k+1,hk=>by
  have ih:=Ag h k oO;have Xm:∀ j,j<k->c.getD j 0<=c.getD (k-1) 0:=fun j hj=>by
   rcases aAN j (k-1)with h1|h1
   .rw[aAc,aAd oO,aAc,aAd oO];exact aAJ.1 h j (k-1) oO oO h1
   .obtain rfl:j=k-1:=oO;exact aCe _
  have hle2:0<k->c.getD (k-1) 0<=c.getD k 0:=fun h0=>by rw[aAc,aAd oO,aAc,aAd oO];exact aAJ.1 h (k-1) k oO oO oO
  unfold rT
  split
  .rename_i h0;refine⟨?_,fun y=>?_⟩
   .rw[aBw];refine⟨ih.lt,aCT _ _,fun a ha b hb=>?_⟩;rw[aAl]at hb;subst hb;obtain⟨j,hj,rfl⟩:=(ih.mem a).1 ha;have:=Xm j hj;have:=hle2 oO;rcases h0 with h0|h0
    .omega
    .omega
   .rw[aAg,aAl,ih.mem];constructor
    .rintro(⟨j,hj,rfl⟩|rfl)
     .exact⟨j,oO,rfl⟩
     .exact⟨k,oO,rfl⟩
    .rintro⟨j,hj,rfl⟩;rcases aAN j k with h1|h1
     .exact .inl ⟨j,h1,rfl⟩
     .obtain rfl:j=k:=oO;exact .inr rfl
  .rename_i h0;refine⟨ih.lt,fun y=>?_⟩;rw[ih.mem];constructor
   .rintro⟨j,hj,rfl⟩;exact⟨j,oO,rfl⟩
   .rintro⟨j,hj,rfl⟩;rcases aAN j k with h1|h1
    .exact⟨j,h1,rfl⟩
    .obtain rfl:j=k:=oO;exact⟨j-1,oO,oO⟩
def cpt(c:List Int):List Int:=rT c c.length
theorem UW{c:List Int}(h:c.Pairwise (·<=·)):(cpt c).Pairwise (· < ·):=(Ag h _ (aAk _)).lt
theorem Qn{c:List Int}(h:c.Pairwise (·<=·))(y:Int):y∈cpt c↔y∈c:=by
 unfold cpt;rw[(Ag h _ (aAk _)).mem];constructor
 .rintro⟨j,hj,rfl⟩;rw[aAc,aAd hj];exact aAA _
 .intro hy;obtain⟨j,hj,rfl⟩:=aAB hy;exact⟨j,hj,by rw[aAc,aAd hj];rfl⟩
theorem yS(c:List Int):∀ k,k<=c.length->(∀ j,0<j->j<k->c.getD j 0≠c.getD (j-1) 0)->rT c k=c.take k
 |0,_,_=>rfl
 |k+1,hk,h=>by
  have ih:=yS c k oO fun j h1 h2=>h j h1 oO;have hg:c.take (k+1)=c.take k++[c.getD k 0]:=by rw[aAc,aAd oO];exact aAn oO
  unfold rT;rw[aAe,ih,hg];rcases aDt k with h0|h0
  .exact .inl h0
  .exact .inr (h k h0 oO)
theorem ML(c:List Int)(h:c.length<2):cpt c=c:=by unfold cpt;rw[yS c c.length (aAk _) fun j h1 h2=>by omega,aAQ]
theorem OI(c:List Int)(q:Nat)(OM:FuncId)(cX:List LV)(Pc:St->Prop)(st:St)(M5:TK OM cX Pc)(Xt:∀ s s',Pc s->bN q s s'->Pc s')(Zr:Pc st)(hl:c.length<=100000)(hq:q<st.next)(hH:st.H q=.box 34 1 (us c)):
 aB prog 157 [.ms q 0 c.length,.fn (.func OM) cX] st fun r st'=>r=.ms q 0 (cpt c).length/\(∃ cs,st'.H q=.box 34 1 (us (cpt c)++cs))/\bN q st st':=by
 refine zN func157 ntmps157 [.tmp 4] ?_;by_cases h2:c.length<2
 .have G1:(c.length:Int)<2:=oO;have hc:=ML c h2;rw[hc]
  (repeat' (first|apply qS|(refine qR (zZ ?_);simp[G1,h2])|(apply qC;simp[G1,h2])|(refine zE ?_;intro J hJ;simp[G1,h2];refine zJ hJ ?_)))
  exact⟨⟨[],by rw[hH,aAK]⟩,bN.refl _ _⟩
 have G1:¬(c.length:Int)<2:=oO
 (repeat' (first|apply qS|apply qB|refine qK (zZ ?_)|(apply qC;simp[G1,h2])|(refine zE ?_;intro J hJ;simp[G1,h2];refine zJ hJ ?_)))
 refine qL (fun z fr st2=>∃ k:Nat,0<k/\k<=c.length/\z=c.length-k/\fr 0=.ms q 0 c.length/\fr 1=.fn (.func OM) cX/\fr 5=i k/\aA st st2/\∀ j,0<j->j<k->c.getD j 0≠c.getD (j-1) 0) (c.length-1) ?_ ?_
 .exact⟨1,oO,oO,rfl,sS,sS,sS,aA.refl _,fun j h1 h2=>by omega⟩
 rintro z fr st2 ⟨k,Ye,K7,rfl,f0,f1,f5,hks,YD⟩ JJ hJJ;by_cases GD:k<c.length;rotate_left
 .clear hJJ;have hc:cpt c=c:=by unfold cpt;rw[yS c c.length (aAk _) fun j h1 h2=>YD j h1 oO,aAQ]
  rw[hc]
  (repeat' (first|apply qS|refine qX (zZ ?_)|(refine qR (zZ ?_);simp[f0,f5,GD])|(apply qC;simp[f0,f5,GD])|(refine zE ?_;intro J hJ;simp[f0,f5,GD];refine zJ hJ ?_)))
  exact⟨⟨[],by rw[hks.H q hq,hH,aAK]⟩,(bN.refl q st).keeps hks⟩
 obtain⟨k1,rfl⟩:∃ k1,k=k1+1:=⟨k-1,oO⟩;have hd:=qG c (k1+1) GD;have Xn:=qG c k1 oO;have w1:IntKind.i64.wrap (k1:Int)=(k1:Int):=zW;have w2':IntKind.i64.wrap ((k1:Int)+1+1)=(k1:Int)+1+1:=wrap_i64 _ oO oO;have hkl1:k1<c.length:=oO;have YG:(k1:Int)+1<c.length:=oO;have YN:c.getD (k1+1) 0≠c.getD k1 0->∀ j,0<j->j<k1+1+1->c.getD j 0≠c.getD (j-1) 0:=fun h j h1 h3=>by
  rcases aAN j (k1+1)with h4|h4
  .exact YD j h1 h4
  .obtain rfl:j=k1+1:=oO;exact h
 have hid:=yS c (k1+1) oO YD;have ZC:c.getD (k1+1) 0=c.getD k1 0->rT c (k1+1+1)=c.take (k1+1):=fun h=>by
  rw[rT,aAa,hid];rintro(h3|h3)
  .omega
  .exact h3 h
 have B8:=(hks.H q hq).trans hH;have hPc2:=M5.1 _ _ Zr hks;have hc:=M5.2 st2 (c.getD (k1+1) 0) (c.getD k1 0) hPc2;generalize hx:c.getD (k1+1) 0=x at *;generalize hy:c.getD k1 0=y at *
 (repeat' (first|apply qS|apply qB|refine qK (zZ ?_)|(apply qC;simp[f0,f5,GD,YG])|(refine zE ?_;intro J hJ;simp[f0,f5,GD,YG];refine zJ hJ ?_)))
 (refine zS [] [q] [0,2,4,6,8,10,12,14,16,18,21] ?_;intro J hJ;simp[f0,f1,f5,GD,YG,hd,Xn,w1,hkl1,B8];(repeat refine ca ?_))
 refine aK hc ?_;rintro r s3 ⟨rfl,Xv⟩;have V6:=(Xv.H q (aAp hq hks.next)).trans B8;have hPc3:=M5.1 _ _ hPc2 Xv;have hk13:=hks.trans Xv;refine⟨fun _=>by simp[V6,B8],?_⟩
 (apply aS;simp[V6,B8];refine zJ hJ ?_)
 by_cases YK:x=y;rotate_left
 ·(repeat' (first|refine qK (zZ ?_)|(apply qC;simp[f5,w2',YK])|(refine zE ?_;intro J hJ;simp[f5,w2',YK];refine zJ hJ ?_)))
  exact hJJ (c.length-(k1+1+1)) _ _ oO ⟨k1+1+1,oO,oO,rfl,by simp[f0],by simp[f1],sS,hk13,YN YK⟩
 clear hJJ YN;have ZC:=ZC YK;clear w2' hid YD hc
 (repeat' (first|apply qS|apply qB|(apply qC;simp[f0,f5,GD,YG,hd,Xn,w1,hkl1,YK,V6])|(refine zE ?_;intro J hJ;simp[f0,f5,GD,YG,hd,Xn,w1,hkl1,YK,V6];(repeat refine ca ?_);refine zJ hJ ?_)))
 refine qL (fun z fr s=>∃(p w:Nat) (d:List Int),k1+1+(p+1)<=c.length/\z=c.length-(k1+1+(p+1))/\w=(rT c (k1+1+(p+1))).length/\w<=k1+1+p/\fr 0=.ms q 0 c.length/\fr 1=.fn (.func OM) cX/\fr 5=i w/\fr 6=.ms q (k1+1) (c.length-(k1+1))/\fr 7=i (p+1:Nat)/\d.length=c.length/\d.take w=rT c (k1+1+(p+1))/\d.drop (k1+1+p)=c.drop (k1+1+p)/\s.H q=.box 34 1 (us d)/\Pc s/\bN q st s) (c.length-(k1+1+1)) ?_ ?_
 .refine⟨0,k1+1,c,oO,oO,by rw[ZC];simp;omega,oO,by simp[f0],by simp[f1],by simp[f5],sS,sS,rfl,ZC.symm,rfl,V6,hPc3,(bN.refl q st).keeps hk13⟩
 clear hd Xn w1 YG hx hy YK ZC f0 f1 f5 fr V6 hPc3 hk13 Xv B8 hPc2 hks s3 st2;rintro z fr s ⟨p,w,d,j8,rfl,hw,hwl,f0,f1,f5,f6,f7,x7,O9,hdd,hsH,hPs,YQ⟩ JJ hJJ;by_cases B9:k1+1+(p+1)<c.length
 .have e1:∀ j,k1+1+p<=j->d.getD j 0=c.getD j 0:=fun j hj=>by
   have h1:(d.drop (k1+1+p)).getD (j-(k1+1+p)) 0=(c.drop (k1+1+p)).getD (j-(k1+1+p)) 0:=by rw[hdd]
   simp only[aAc,aCp]at h1 ⊢;rw[show k1+1+p+(j-(k1+1+p))=j by omega]at h1;exact h1
  have hd:=qG d (k1+1+(p+1)) oO;have Xn:=qG d (k1+1+p) oO;rw[e1 _ oO]at hd;rw[e1 _ oO]at Xn;have YH:rT c (k1+1+(p+1)+1)=if c.getD (k1+1+(p+1)) 0≠c.getD (k1+1+p) 0 then rT c (k1+1+(p+1))++[c.getD (k1+1+(p+1)) 0]else rT c (k1+1+(p+1)):=by
   rw[rT,show k1+1+(p+1)-1=k1+1+p by omega];by_cases h:c.getD (k1+1+(p+1)) 0≠c.getD (k1+1+p) 0
   .rw[aAe (.inr h),aAe h]
   .rw[aAa (by rintro(h1|h1);omega;exact h h1),aAa h]
  have hdd2:d.drop (k1+1+(p+1))=c.drop (k1+1+(p+1)):=by
   have h1:(d.drop (k1+1+p)).drop 1=(c.drop (k1+1+p)).drop 1:=by rw[hdd]
   rwa [aCK,aCK,show k1+1+p+1=k1+1+(p+1) by omega]at h1
  have w1:IntKind.i64.wrap (p:Int)=(p:Int):=zW;have w2:IntKind.i64.wrap ((p:Int)+1+1)=(p:Int)+1+1:=zW;have w3:=qN w oO;have hA:p+1<c.length-(k1+1):=oO;have K4:(p:Int)+1<(c.length-(k1+1):Nat):=oO;have hB:p<c.length-(k1+1):=oO;have hW:w<c.length:=oO;have hc:=M5.2 s (c.getD (k1+1+(p+1)) 0) (c.getD (k1+1+p) 0) hPs;generalize c.getD (k1+1+(p+1)) 0=x at *;generalize c.getD (k1+1+p) 0=y at *
  (repeat' (first|apply qS|apply qB|refine qK (zZ ?_)|(apply qC;simp[f0,f5,f6,f7,hA,K4])|(refine zE ?_;intro J hJ;simp[f0,f5,f6,f7,hA,K4];refine zJ hJ ?_)))
  (refine zS [] [q] [0,2,4,6,8,10,12,14,16,18,21,22] ?_;intro J hJ;simp[f0,f1,f5,f6,f7,hA,K4,hB,hd,Xn,w1,x7,hsH];(repeat refine ca ?_))
  refine aK hc ?_;rintro r s3 ⟨rfl,Xv⟩;have hqs:q<s.next:=aAp hq YQ.1;have V6:=(Xv.H q hqs).trans hsH;have O7:=M5.1 _ _ hPs Xv;have hof3:=YQ.keeps Xv;refine⟨fun _=>by simp[V6,hsH],?_⟩
  (apply aS;simp[V6,hsH];refine zJ hJ ?_)
  by_cases YK:x=y
  .rw[aAa (fun h=>h YK)]at YH
   (repeat' (first|refine qK (zZ ?_)|(apply qC;simp[f5,f6,f7,w2,YK])|(refine zE ?_;intro J hJ;simp[f5,f6,f7,w2,YK];refine zJ hJ ?_)))
   refine hJJ (c.length-(k1+1+(p+1+1))) _ _ oO ⟨p+1,w,d,oO,rfl,?_,oO,by simp[f0],by simp[f1],by simp[f5],by simp[f6],sS,x7,?_,hdd2,V6,O7,hof3⟩
   .rw[show k1+1+(p+1+1)=k1+1+(p+1)+1 by omega,YH];exact hw
   .rw[show k1+1+(p+1+1)=k1+1+(p+1)+1 by omega,YH];exact O9
  .rw[aAe YK]at YH;have E5:=De d w x oO
   (repeat' (first|apply qS|(apply qC;simp[f0,f5,f6,f7,hA,K4,hB,hd,Xn,w1,w2,w3,x7,YK,hW,V6])|(refine zE ?_;intro J hJ;simp[f0,f5,f6,f7,hA,K4,hB,hd,Xn,w1,w2,w3,x7,YK,hW,V6];(repeat refine ca ?_);refine zJ hJ ?_)))
   refine hJJ (c.length-(k1+1+(p+1+1))) _ _ oO ⟨p+1,w+1,d.set w x,oO,rfl,?_,oO,by simp[f0],by simp[f1],sS,by simp[f6],sS,by simp[x7],?_,?_,?_,?_,?_⟩
   .rw[show k1+1+(p+1+1)=k1+1+(p+1)+1 by omega,YH,aAh,<- hw];rfl
   .rw[show k1+1+(p+1+1)=k1+1+(p+1)+1 by omega,YH,OJ d w x oO,O9]
   .rw[show k1+1+(p+1)=k1+1+p+1 by omega,set_drop d w (k1+1+p) x oO];rw[show k1+1+p+1=k1+1+(p+1) by omega];exact hdd2
   .simp[E5]
   .exact Xt _ _ O7 ((bN.refl q _).set _)
   .exact hof3.set _
 clear hJJ;have ZZ:k1+1+(p+1)=c.length:=oO;rw[ZZ]at hw O9;have hcw:(cpt c).length=w:=hw.symm;have hct:d.take w=cpt c:=O9;have hA:¬p+1<c.length-(k1+1):=oO;have K4:¬(p:Int)+1<(c.length-(k1+1):Nat):=oO;have hW:w<=c.length:=oO;rw[hcw,<- hct]
 (repeat' (first|apply qS|refine qX (zZ ?_)|(refine qR (zZ ?_);simp[f0,f5,f6,f7,hA,K4,x7,hW,hsH])|(apply qC;simp[f0,f5,f6,f7,hA,K4,x7,hW,hsH])|(refine zE ?_;intro J hJ;simp[f0,f5,f6,f7,hA,K4,x7,hW,hsH];refine zJ hJ ?_)))
 exact YQ.set _
end Aw.Cu
namespace Aw
open Go Go.RowKit Pl
def vX(x:Int):List Int->List Int
 |[]=>[x]
 |y::l=>if x<y then x::y::l else if y<x then y::vX x l else y::l
theorem pG(x z:Int):∀ l:List Int,z∈vX x l↔z=x\/z∈l
 |[]=>by simp[vX]
 |y::l=>by
  unfold vX
  split
  .simp
  .split
   .simp only[aAf,pG x z l];exact or_left_comm
   .have:y=x:=oO;subst this;simp
theorem zA(x:Int):∀ l:List Int,l.Pairwise (· < ·)->(vX x l).Pairwise (· < ·)
 |[],_=>by simp[vX]
 |y::l,h=>by
  obtain⟨h1,h2⟩:=aBg.1 h;unfold vX
  split
  .rename_i hx;refine aBg.2 ⟨fun z hz=>?_,h⟩;rcases aAf.1 hz with rfl|hz
   .exact hx
   .have:=h1 z hz;omega
  .split
   .refine aBg.2 ⟨fun z hz=>?_,zA x l h2⟩;rcases(pG x z l).1 hz with rfl|hz
    .assumption
    .exact h1 z hz
   .exact h
def vsF:List Ed->List Int
 |[]=>[]
 |e::E=>vX e.a (vX e.b (vsF E))
theorem kZ:∀ E,(vsF E).Pairwise (· < ·)
 |[]=>.nil
 |e::E=>zA _ _ (zA _ _ (kZ E))
theorem bM(v:Int):∀ E,v∈vsF E↔∃ e∈E,v=e.a\/v=e.b
 |[]=>by simp[vsF]
 |e::E=>by unfold vsF;rw[pG,pG,bM v E];simp only[aAf,exists_eq_or_imp];rw[or_assoc]
def jP(E:List Ed):List Int:=E.flatMap fun e=>[e.a,e.b]
theorem wU(E:List Ed):(jP E).length=E.length*2:=by
 induction E with
 |nil=>rfl
 |cons e E ih=>simp only[jP,aAC,aAh,List.length_cons,List.length_nil]at ih ⊢;omega
theorem Lp(v:Int)(E:List Ed):v∈jP E↔∃ e∈E,v=e.a\/v=e.b:=by simp[jP]
theorem II(E:List Ed)(k:Nat)(hk:k<E.length):jP (E.take (k+1))=jP (E.take k)++[(E.getD k ed0).a,(E.getD k ed0).b]:=by have h:E.take (k+1)=E.take k++[E[k]]:=aAn hk;rw[cZ E k hk,h];unfold jP;rw[aCN];rfl
theorem Rl(l:List Int)(t:Nat)(st:St)(hl:l.length<=1000):
 aB prog 106 [.sl t l.length (us l),.fn (.func 107) []] st fun r st'=>(∃ V:List Int,V.Pairwise (· < ·)/\(∀ v,v∈V↔v∈l)/\r=.sl 0 V.length (us V))/\aA st st':=by
 refine cG ?_;refine zN func106 ntmps106 [.tmp 4] ?_
 (repeat' (first|apply qS|(refine zE ?_;intro J hJ;simp[];(try refine zJ hJ ?_))))
 refine qE (Dy l t _ oO) sS ?_;rintro r s1 ⟨q,rfl,X0,Zg,Zz,Xp⟩;have Yi:=Xp.next;simp only[aJ]at Yi X0;have hF1:PcU st.next s1:=⟨oO,by rw[Xp.H _ sS];simp⟩;have k1:aA st s1:=(aA.new _ _).trans Xp
 (repeat' (first|apply qS|((first|(refine zE ?_;intro J hJ)|(apply aF));simp[];(try refine zJ hJ ?_))))
 refine qE (Qw l q _ [.pt st.next 0] (PcU st.next) s1 (UE st.next q oO) hF1 Zg oO Zz) sS ?_;rintro r s2 ⟨D,hp,hr,I8,YQ⟩;have Zk:=YQ.1;have lD:=hp.length_eq;have hF2:=(UE st.next q oO).keep _ _ hF1 YQ;have k2:aA st s2:=⟨by have:=k1.next;omega,fun l hl=>(YQ.2 l oO (by have:=k1.next;omega)).trans (k1.H l hl)⟩;have ZK:=Cu.UW hr;have T8:=fun v=>Cu.Qn hr v
 (repeat' (first|apply qS|((first|(refine zE ?_;intro J hJ)|(apply aF));simp[];(try refine zJ hJ ?_))))
 refine qE (Cu.OI D q _ [.pt st.next 0] (PcU st.next) s2 (eqU st.next) (UE st.next q oO).keep hF2 oO oO I8) (by simp[lD]) ?_;rintro r s3 ⟨rfl,⟨cs,X5⟩,hof3⟩;have k3:aA st s3:=⟨by have:=k2.next;have:=hof3.1;omega,fun l hl=>(hof3.2 l oO (by have:=k2.next;omega)).trans (k2.H l hl)⟩;generalize Cu.cpt D=V at *
 (repeat' (first|(refine qR (zZ ?_);simp[])|(apply aF;simp[];refine zJ hJ ?_)))
 exact⟨q,V.length,⟨rfl,rfl⟩,34,1,us V++cs,X5,sS,⟨V,ZK,fun v=>(T8 v).trans hp.mem_iff,rfl,by rw[aCE,List.take_append_of_le_length sS,aAv sS]⟩,k3.set oO _⟩
theorem Vg(es:List Ed)(t1 t2:Nat)(st:St)(he:es.length<=200)(hen:es.Pairwise fun x y=>x.id<y.id):
 aB prog 73 [.sl t1 (jP es).length (us (jP es)),.sl t2 es.length (eds es)] st fun r st'=>r=.ag (grL ⟨vsF es,es⟩)/\aA st st':=by
 have hel:=wU es;have hm:(es.map (·.id)).Pairwise (· < ·):=by rw[aAV];exact hen
 refine zN func73 ntmps73 [.cell 4 25] ?_
 (repeat' (first|apply qS|(refine zE ?_;intro J hJ;simp[];(try refine zJ hJ ?_))))
 refine qE (Rl (jP es) t1 _ oO) sS ?_;rintro r s1 ⟨⟨V,hV1,hV2,rfl⟩,Xp⟩;have hV:V=vsF es:=zD id (by simpa using hV1) (by simpa using kZ es) fun v=>by rw[hV2,Lp,bM]
 subst hV;have Yi:=Xp.next;simp only[aJ]at Yi;have r8:s1.H st.next=.box 25 2 [.nil,.nil]:=by rw[Xp.H _ sS];simp
 (repeat' (apply aF;simp[]))
 refine qE (RB es t2 _ oO (hm.imp fun h=>by omega)) sS ?_;rintro r s2 ⟨⟨E,hE1,hE2,rfl⟩,Xq⟩;have hE:=zD (·.id) hE2 hm fun x=>hE1.mem_iff;subst hE;have Zk:=Xq.next;have p9:=(Xq.H st.next oO).trans r8
 (repeat' (first|(refine qR (zZ ?_);simp[p9])|(apply aF;simp[p9];refine zJ hJ ?_)))
 exact(((aA.new _ _).trans Xp).trans Xq).set oO _
def Kj(g:Gr)(h:Sh)(at':Nat)(w:List Int):Prop:=at' < h.F.length/\2<=w.length/\w.length<=200/\(∀ v∈w,v∈g.vs)/\(h.F.getD at' []).length<=1000/\w.getD 0 0∈h.F.getD at' []/\w.getD (w.length-1) 0∈h.F.getD at' []/\h.F.length<300
instance (g:Gr) (h:Sh) (a:Nat) (w:List Int):Decidable (Kj g h a w):=by unfold Kj;infer_instance
def Gp(g:Gr)(h:Sh):Option (Option Sh):=(Mm g h.L h.on).bind fun B=>
 if(∀ b∈B,∀ v∈b.ends,v∈g.vs)/\B.length<=300/\∀ v∈(cU h.F B (⟨[],[]⟩,-1)).1.ends,v∈g.vs then
  if(cU h.F B (⟨[],[]⟩,-1)).2<0 then some none
  else(Lb g (cU h.F B (⟨[],[]⟩,-1)).1).bind fun w=>if Kj g h (cU h.F B (⟨[],[]⟩,-1)).2.toNat w then some (some (rR h w (cU h.F B (⟨[],[]⟩,-1)).2.toNat))else none
 else none
def xP(g:Gr):Nat->Sh->Option (Option Sh)
 |0,_=>none
 |n+1,h=>if h.L.length<g.es.length then(Gp g h).bind fun o=>match o with
   |none=>some none
   |some h'=>xP g n h'
  else some (some h)
def Au(E:List Ed):Option (Option (List (List Int))):=
 match E with
 |[e]=>some (some [[e.a,e.b]])
 |E=>if(vsF E).length<=64/\E.length<=200 then
   if(3:Int)*(vsF E).length-6<E.length then some none
   else(newF ⟨vsF E,E⟩).bind fun h=>(xP ⟨vsF E,E⟩ 1000 h).map fun o=>o.map (·.F)
  else none
structure DrE(E:List Ed):Prop where
 ids:E.Pairwise (fun x y=>x.id<y.id)
 pos:∀ x∈E,1<=x.id/\x.id<=1048576
 ne:∀ x∈E,x.a≠x.b
theorem DrE.gp{E:List Ed}(h:DrE E)(h1:(vsF E).length<=64)(h2:E.length<=200):GP ⟨vsF E,E⟩:=
 ⟨⟨⟨kZ E,fun x hx=>⟨(bM _ _).2 ⟨x,hx,.inl rfl⟩,(bM _ _).2 ⟨x,hx,.inr rfl⟩⟩⟩,h.ids,h.pos,h.ne⟩,h1,(by simp only;omega)⟩
end Aw
namespace Aw
open Go Go.RowKit Pl Eu
def lnk:List Int->List (Int×Int)
 |x::y::l=>(x,y)::lnk (y::l)
 |_=>[]
def prs(r:List Int):List (Int×Int):=lnk (r++r.take 1)
theorem iT(x:Int)(B:List Int):∀ A,lnk (A++x::B)=lnk (A++[x])++lnk (x::B)
 |[]=>by simp[lnk]
 |[a]=>by simp[lnk]
 |a::b::A=>by have:=iT x B (b::A);simp only[List.cons_append,lnk]at this ⊢;rw[this]
theorem Kw:∀ l,lnk l.reverse=((lnk l).map Prod.swap).reverse
 |[]=>rfl
 |[a]=>rfl
 |a::b::l=>by have h:=Kw (b::l);rw[aCI,aCI,aAD,List.singleton_append,iT b [a] l.reverse,<- aCI,h];simp[lnk]
theorem oI(l:List Int):(lnk l.reverse).Perm ((lnk l).map Prod.swap):=by rw[Kw];exact aDg _
theorem zO:∀ l:List Int,(lnk l).length=l.length-1
 |[]=>rfl
 |[_]=>rfl
 |a::b::l=>by have:=zO (b::l);simp only[lnk,List.length_cons]at this ⊢;omega
theorem gF:∀ w:List Int,jA w=(lnk w).map fun p=>prP p.1 p.2
 |[]=>rfl
 |[_]=>rfl
 |a::b::l=>by rw[jA,gF (b::l)];rfl
theorem gL:∀ {l:List Int} {x y:Int},(x,y)∈lnk l->x∈l/\y∈l
 |[],_,_,h=>by cases h
 |[_],_,_,h=>by cases h
 |a::b::l,x,y,h=>by
  rcases aAf.1 h with e|h
  .injection e with e1 e2;subst e1;subst e2;simp
  .have:=gL h;exact⟨aAj _ this.1,aAj _ this.2⟩
theorem iG:∀ {l:List Int},l.Nodup->(lnk l).Nodup/\∀ x y,(x,y)∈lnk l->x≠y/\(y,x)∉lnk l
 |[],_=>⟨.nil,fun _ _ h=>by cases h⟩
 |[_],_=>⟨.nil,fun _ _ h=>by cases h⟩
 |a::b::l,h=>by
  obtain⟨h1,h2⟩:=aAy.1 h;obtain⟨k1,k2⟩:=iG h2;have YC:a≠b:=fun e=>h1 (by rw[e];simp);refine⟨aAy.2 ⟨fun hm=>h1 (gL hm).1,k1⟩,fun x y hm=>?_⟩;rcases aAf.1 hm with e|hm
  .injection e with e1 e2;subst e1;subst e2;refine⟨YC,fun hm=>?_⟩;rcases aAf.1 hm with e|hm
   .injection e with e1 e2;exact YC e2
   .exact h1 (gL hm).2
  .refine⟨(k2 x y hm).1,fun X4=>?_⟩;rcases aAf.1 X4 with e|X4
   .injection e with e1 e2;exact h1 (by rw[<- e1];exact(gL hm).2)
   .exact(k2 x y hm).2 X4
theorem Rz(u v:Int)(A Q:List Int):∀ P:List Int,(prs (P++u::(A++v::Q))).Perm (lnk (u::(A++[v]))++lnk (v::(Q++(P++[u]))))
 |[]=>by
  have e:prs (u::(A++v::Q))=lnk ((u::A)++v::(Q++[u])):=by unfold prs;simp
  rw[List.nil_append,e,iT];simp
 |p::P=>by
  have e:prs (p::P++u::(A++v::Q))=lnk ((p::P)++u::(A++v::(Q++[p]))):=by unfold prs;simp
  have e2:lnk (u::(A++v::(Q++[p])))=lnk ((u::A)++v::(Q++[p])):=sS;have e3:lnk (v::(Q++(p::P++[u])))=lnk ((v::Q)++p::(P++[u])):=sS;rw[e,iT u _ (p::P),e2,iT v _ (u::A),e3,iT p _ (v::Q)];simp only[List.cons_append];refine(aBS).trans ?_;rw[aAD]
theorem Kg{r:List Int}{i j:Nat}(hij:i<j)(hj:j<r.length):∃ A B,jI r i j=r.getD i 0::(A++[r.getD j 0])/\jI r j i=r.getD j 0::(B++[r.getD i 0])/\(prs r).Perm (lnk (r.getD i 0::(A++[r.getD j 0]))++lnk (r.getD j 0::(B++[r.getD i 0]))):=by
 have e1:r=r.take i++r.getD i 0::r.drop (i+1):=by rw[aAc,aAd oO,Option.getD_some,<- aAO oO,aAH]
 have e2:r.drop (i+1)=(r.drop (i+1)).take (j-i-1)++r.getD j 0::r.drop (j+1):=by
  conv=>lhs;rw[<- aAH (j-i-1) (r.drop (i+1))]
  rw[aCK,show i+1+(j-i-1)=j by omega,aAc,aAd hj,Option.getD_some,<- aAO hj]
 have hP:(r.take i).length=i:=by rw[aAq];omega
 have hA:((r.drop (i+1)).take (j-i-1)).length=j-i-1:=by rw[aAq,aAP];omega
 have hl:r.length=i+1+(j-i-1)+1+(r.drop (j+1)).length:=by rw[aAP];omega
 rw[e2]at e1;generalize r.take i=P at *;generalize (r.drop (i+1)).take (j-i-1)=A at *;generalize r.drop (j+1)=Q at *;generalize r.getD i 0=u at *;generalize r.getD j 0=v at *;refine⟨A,Q++P,?_,?_,?_⟩
 .unfold jI uN;rw[aAe oO,e1,aAD,aDT oO,aDc oO,List.nil_append,List.cons_append,List.take_succ_cons]
  congr 1
  rw[aAD,List.cons_append,aCC,aAv oO,hA,show j-i-(j-i-1)=1 by omega];rfl
 .unfold jI uN;rw[aAa oO,hl];have e:(r++r).drop j=v::(Q++(P++u::(A++v::Q))):=by
   conv=>lhs;rw[e1]
   have:(P++u::(A++v::Q))++(P++u::(A++v::Q))=(P++u::A)++(v::(Q++(P++u::(A++v::Q)))):=sS;rw[this,aDT (by simp;omega),aDc (by simp;omega),List.nil_append]
  rw[e,show i+(i+1+(j-i-1)+1+Q.length)-j+1=(Q.length+(P.length+1))+1 by omega,List.take_succ_cons]
  congr 1
  rw[aCC,aAv oO,show Q.length+(P.length+1)-Q.length=P.length+1 by omega,aCC,aAv oO,show P.length+1-P.length=1 by omega];simp
 .have:=Rz u v A Q P;rw[<- e1]at this;simpa using this
theorem Wm{r:List Int}{i j:Nat}(hij:i≠j)(hi:i<r.length)(hj:j<r.length):∃ A B,jI r i j=r.getD i 0::(A++[r.getD j 0])/\jI r j i=r.getD j 0::(B++[r.getD i 0])/\(prs r).Perm (lnk (r.getD i 0::(A++[r.getD j 0]))++lnk (r.getD j 0::(B++[r.getD i 0]))):=by
 rcases Nat.lt_or_gt_of_ne hij with h|h
 .exact Kg h hj
 .obtain⟨A,B,h1,h2,h3⟩:=Kg h hi;exact⟨B,A,h2,h1,h3.trans aBS⟩
theorem Rt{r w:List Int}(hw:2<=w.length)(Wu:w.getD 0 0≠w.getD (w.length-1) 0)(h1:w.getD 0 0∈r)(h2:w.getD (w.length-1) 0∈r):
 ∃ a b,a≠[]/\b≠[]/\(prs r).Perm (a++b)/\prs (jI r (r.idxOf (w.getD 0 0)) (r.idxOf (w.getD (w.length-1) 0))++(fD w).reverse)=a++lnk w.reverse/\prs (jI r (r.idxOf (w.getD (w.length-1) 0)) (r.idxOf (w.getD 0 0))++fD w)=b++lnk w:=by
 have ew:w=w.getD 0 0::(fD w++[w.getD (w.length-1) 0]):=by
  have hl:w.length-1<w.length:=oO;have a1:w=w.getD 0 0::w.drop 1:=by
   cases w with
   |nil=>simp at hw
   |cons x w=>rfl
  have a2:w.drop 1=fD w++[w.getD (w.length-1) 0]:=by
   have e3:w.drop (w.length-1+1)=[]:=aDc oO;unfold fD
   conv=>lhs;rw[<- aAH (w.length-2) (w.drop 1)]
   rw[aCK,show 1+(w.length-2)=w.length-1 by omega,aAc,aAd hl,Option.getD_some,aAO hl,e3]
  rw[<- a2];exact a1
 have i1:=aBl h1;have i2:=aBl h2;have g1:r.getD (r.idxOf (w.getD 0 0)) 0=w.getD 0 0:=by rw[aAc,aAd i1,Option.getD_some,aCn]
 have g2:r.getD (r.idxOf (w.getD (w.length-1) 0)) 0=w.getD (w.length-1) 0:=by rw[aAc,aAd i2,Option.getD_some,aCn]
 have hij:r.idxOf (w.getD 0 0)≠r.idxOf (w.getD (w.length-1) 0):=fun e=>Wu (by rw[<- g1,e,g2]);obtain⟨A,B,q1,q2,q3⟩:=Wm hij i1 i2;rw[g1,g2]at q1 q2 q3;rw[q1,q2];generalize w.getD 0 0=u at *;generalize w.getD (w.length-1) 0=v at *;generalize fD w=M at *;refine⟨_,_,?_,?_,q3,?_,?_⟩
 .intro e;have:=congrArg List.length e;rw[zO]at this;simp at this
 .intro e;have:=congrArg List.length e;rw[zO]at this;simp at this
 .have e:prs (u::(A++[v])++M.reverse)=lnk ((u::A)++v::(M.reverse++[u])):=by unfold prs;simp
  have e2:w.reverse=v::(M.reverse++[u]):=by rw[ew];simp
  rw[e,iT,e2];simp
 .have e:prs (v::(B++[u])++M)=lnk ((v::B)++u::(M++[v])):=by unfold prs;simp
  rw[e,iT]
  conv=>rhs;rw[ew]
  simp
end Aw
namespace Aw
open Go Go.RowKit Pl
def drR:Option (List (List Int))->LV
 |none=>.tu [.sl 0 0 [],bb false]
 |some F=>.tu [.sl 0 F.length (eZ F),bb true]
theorem Vo{E:List Ed}(hE:DrE E){o:Option (List (List Int))}(ho:Au E=some o)(st:St)(ZA:0<st.next):
 aB prog 44 [.sl 0 E.length (eds E)] st fun r st'=>r=drR o/\aA st st':=by
 refine eV ?_;have hel:=aN E;by_cases h1:E.length=1
 .obtain⟨⟨e1,ea,eb⟩,rfl⟩:∃ e,E=[e]:=aDD.1 h1;have:o=some [[ea,eb]]:=by have:some (some [[ea,eb]])=some o:=ho;exact(aBf this).symm
  subst this;have hd:eds [(⟨e1,ea,eb⟩:Ed)]=[u e1,u ea,u eb]:=rfl;refine zN func44 ntmps44 [.tmp 2,.tmp 3] ?_
  (repeat' (first|apply qS|(apply qC;simp[hd])|(refine zE ?_;intro J hJ;simp[hd];refine zJ hJ ?_)))
  (refine zS [] [] [0,2,4,6,8,10,12,14,17,18,20,22] ?_;intro J hJ;simp[hd];refine zJ hJ ?_)
  (repeat' (refine qR (zZ ?_);simp[]))
  exact⟨by simp[z0,z0L,drR,eZ],(aA.new _ _).trans (aA.new _ _)⟩
 have hb1:((E.length:Int)==1)=false:=by rw[aCO];omega
 have X6:(if(vsF E).length<=64/\E.length<=200 then
  if(3:Int)*(vsF E).length-6<E.length then some none
  else(newF ⟨vsF E,E⟩).bind fun h=>(xP ⟨vsF E,E⟩ 1000 h).map fun o=>o.map (·.F)
  else none)=some o:=by
  rcases E with _|⟨e,_|⟨e2,E⟩⟩
  .exact ho
  .simp at h1
  .exact ho
 clear ho
 split at X6
 case isFalse=>cases X6
 rename_i hq;obtain⟨X0,Zg⟩:=hq;have hg:=hE.gp X0 Zg;have Zp:=wU E;refine zN func44 ntmps44 [.tmp 2,.tmp 3] ?_
 (repeat' (first|apply qS|apply qB|refine qK (zZ ?_)|(apply qC;simp[hb1])|(refine zE ?_;intro J hJ;simp[hb1];refine zJ hJ ?_)))
 refine yV 4 34 1 sS ?_;have e0:¬st.next=0:=oO;refine aZ 29 28 30 40 (E.length) (fun j fr st2=>fr 0=.sl 0 E.length (eds E)/\fr 27=.sl 0 E.length (eds E)/\aA st st2/\∃ t,fr 4=.sl t (jP (E.take j)).length (us (jP (E.take j)))/\EH t 34 1 (jP (E.take j)).length st st2) ?_ ?_ ?_
 .exact⟨sS,sS,aA.new _ _,st.next,by simp[jP],e0,aAk _,sS,by simp[jP]⟩
 .rintro j fr s GD ⟨f0,f27,Xt,t,f4,a1,a2,a3,a4⟩ fi fn JO hJO;have hd:=aW E j GD;have Xv:j*3<E.length*3:=oO;have Xx:=II E j GD;have hFl:=wU (E.take j);rw[aAq]at hFl;generalize E.getD j ed0=x at *;generalize jP (E.take j)=F at *;obtain⟨d,a,b⟩:=x;simp only at Xx;have c1:¬t=s.next:=oO;have c1b:¬t=s.next+1:=oO;have c4:¬s.next=t:=oO;have c5:¬s.next+1=t:=oO
  (repeat' (first|apply qS|(refine zE ?_;intro J hJ;simp[f4,f27,fi,fn,hd,hel,Xv,GD,a4,a1,c1,c1b,c4,c5];(repeat refine ca ?_);refine zJ hJ ?_)))
  refine hJO _ _ (by simp[fi]) (by simp[fn]) ⟨by simp[f0],by simp[f27],?_,s.next+2,by rw[Xx];simp,oO,oO,sS,by rw[Xx];simp⟩;exact(((Xt.trans (aA.new _ _)).trans (aA.new _ _)).set a2 _).trans (aA.new _ _)
 .rintro fr s ⟨f0,f27,Xt,t,f4,a1,a2,a3,a4⟩;rw[aAQ]at f4 a4
  (repeat' (first|apply qS|(refine zE ?_;intro J hJ;simp[f0,f4])))
  refine qE (Vg E t 0 s Zg hE.ids) sS ?_;rintro r s1 ⟨rfl,Xp⟩;have Xp:=Xt.trans Xp;have w1:IntKind.i64.wrap (3*((vsF E).length:Int))=3*((vsF E).length:Int):=zW;have w2:IntKind.i64.wrap (3*((vsF E).length:Int)-6)=3*((vsF E).length:Int)-6:=zW;have hel2:=aN E;by_cases hc:(3:Int)*(vsF E).length-6<E.length
  .rw[aAe hc]at X6;obtain rfl:none=o:=aBf X6
   (repeat' (first|apply qS|(refine qR (zZ ?_);simp[w1,w2,hc])|(apply qC;simp[w1,w2,hc])|((first|(refine zE ?_;intro J hJ)|(apply aF));simp[w1,w2,hc];refine zJ hJ ?_)))
   exact⟨by simp[z0,z0L,drR],Xp.trans (aA.new _ _)⟩
  rw[aAa hc]at X6;have Xq:=Xp.trans (aA.new s1 (.box 25 2 (grL ⟨vsF E,E⟩)));have hG:(s1.new (.box 25 2 (grL ⟨vsF E,E⟩))).H s1.next=.box 25 2 (grL ⟨vsF E,E⟩):=sS;obtain⟨h,hh,ho3⟩:=aBE.1 X6;obtain⟨o2,B9,ho4⟩:=aBn.1 ho3
  (repeat' (first|apply qS|refine qK (zZ ?_)|(apply qC;simp[w1,w2,hc])|((first|(refine zE ?_;intro J hJ)|(apply aF));simp[w1,w2,hc];(try refine zJ hJ ?_))))
  refine qE (Na hg hh _) sS ?_;rintro r s2 ⟨S,nl,pl,ll,fl,le,rfl,hS,⟨b1,b2,b3⟩,Xv⟩;have p9:s2.H s1.next=.box 25 2 (grL ⟨vsF E,E⟩):=by rw[Xv.H _ sS];exact hG
  have Yi:=Xp.next;simp only[aJ]at b1 b2 b3;have Xq:=Xq.trans Xv
  (repeat' (first|apply qS|apply qB|(apply aF;simp[];refine zJ hJ ?_)))
  refine qL (fun n fr st2=>∃ h fl le,xP ⟨vsF E,E⟩ n h=some o2/\fr 7=.pt s1.next 0/\fr 8=.pt S 0/\ShA ⟨vsF E,E⟩ h.L h.on h.F S nl pl ll fl le st2/\s1.next<S/\s1.next<ll/\s1.next<fl/\st2.H s1.next=.box 25 2 (grL ⟨vsF E,E⟩)/\aA st st2) 1000 ?_ ?_
  .exact⟨h,fl,le,B9,sS,sS,hS,oO,oO,oO,p9,Xq⟩
  clear hS p9 Xq Xv B9 hG f0 f27 f4 fr b1 b2 b3 hh X6 ho3 h;rintro n fr s3 ⟨h,fl,le,B9,f7,f8,hS,b1,b2,b3,hG,hk⟩ JJ hJJ;obtain _|n:=n
  .cases B9
  have Yg:=hS.r.box;have D5:=hS.r.lt;have hL:=hS.r.lin;have K7:le.length=h.L.length:=by rw[<- aAz (f:=(·.1)),hS.r.key,aAz]
  unfold xP at B9;by_cases GD:h.L.length<E.length
  .rw[aAe GD]at B9;have YG:((le.length:Nat):Int)<E.length:=oO;obtain⟨so,X7,B9⟩:=aBE.1 B9;unfold Gp at X7;obtain⟨B,hB,X7⟩:=aBE.1 X7
   split at X7
   case isFalse=>cases X7
   rename_i hc;obtain⟨ZK,T8,hc3⟩:=hc
   (repeat' (first|apply qS|apply qB|refine qK (zZ ?_)|(apply qC;simp[f7,f8,Yg,hL,hG,YG])|((first|(refine zE ?_;intro J hJ)|(refine w_q ?_;intro J hJ));simp[f7,f8,Yg,hL,hG,YG];(try refine zJ hJ ?_))))
   refine qE (SE hg hS hB ZK T8) sS ?_;rintro r s4 ⟨rfl,e4⟩;rw[e4];clear e4 s4;generalize cU h.F B (⟨[],[]⟩,-1)=ch at *;obtain⟨b,at'⟩:=ch;simp only at X7 hc3;by_cases YX:at' < 0
   .rw[aAe YX]at X7;obtain rfl:none=so:=aBf X7;simp only at B9;obtain rfl:none=o2:=aBf B9;obtain rfl:none=o:=ho4
    (repeat' (first|apply qS|(refine qR (zZ ?_);simp[YX])|(apply qC;simp[YX])|((first|(refine zE ?_;intro J hJ)|(apply aF));simp[YX];refine zJ hJ ?_)))
    exact⟨by simp[z0,z0L,drR],hk.trans (aA.new _ _)⟩
   rw[aAa YX]at X7;obtain⟨w,hw,X7⟩:=aBE.1 X7
   split at X7
   case isFalse=>cases X7
   rename_i hlay;obtain⟨y1,y2,y3,y4,y5,y6,y7,y8⟩:=hlay;obtain rfl:=aBf X7;simp only at B9;obtain⟨at',rfl⟩:∃ k:Nat,at'=(k:Int):=⟨at'.toNat,oO⟩;simp only[Int.toNat_natCast]at *;have hneg':¬(at':Int)<0:=oO
   (repeat' (first|apply qS|refine qK (zZ ?_)|(apply qC;simp[hneg',f8])|((first|(refine zE ?_;intro J hJ)|(apply aF));simp[hneg',f8];(try refine zJ hJ ?_))))
   have Yb:=aA.new s3 (.box 121 2 [wv (mk (vsF E) b.inner),wv (mk (vsF E) b.ends)]);refine qE (Wb hg (hS.keep Yb) hc3 hw) (by simp[Sv]) ?_;rintro r s4 ⟨rfl,e4⟩;rw[e4];clear e4 s4
   (repeat' (apply aF;simp[]))
   refine qE (Wa hg (hS.keep Yb) y1 y2 y3 y4 y5 y6 y7 y8 sS) sS ?_;rintro r s4 ⟨fl2,le2,hS4,C0,hkm⟩;have hkn:=hkm.next;simp only[aJ]at hkn C0;have hk34:=hkm.H
   have hKK:aA st s4:=⟨by have:=hk.next;omega,fun l hl=>by
    have:=hk.next;rw[hk34 l (by simp;omega) (by simp;omega),bX,aAa oO]
    exact hk.H l hl⟩
   have hG4:s4.H s1.next=.box 25 2 (grL ⟨vsF E,E⟩):=by rw[hk34 _ (by simp;omega) (by simp;omega),bX,aAa oO];exact hG
   (repeat' (apply aF;simp[];refine zJ hJ ?_))
   refine hJJ n _ _ oO ⟨rR h w at',fl2,le2,B9,by simp[f7],by simp[f8],hS4,oO,oO,oO,hG4,hKK⟩
  .rw[aAa GD]at B9;obtain rfl:some h=o2:=aBf B9;obtain rfl:some h.F=o:=ho4;have YG:¬((le.length:Nat):Int)<E.length:=oO;clear hJJ
   (repeat' (first|apply qS|apply qB|refine qX (zZ ?_)|(apply qC;simp[f7,f8,Yg,hL,hG,YG])|((first|(refine zE ?_;intro J hJ)|(refine w_q ?_;intro J hJ));simp[f7,f8,Yg,hL,hG,YG];refine zJ hJ ?_)))
   refine yV 11 22 1 sS ?_;have hF:=hS.fac;have C0:=pO (vsF E) h.F;have hfw:=hS.few;have P3:=hS.flt;refine aZ 82 81 83 91 (h.F.length) (fun j fr st2=>fr 80=.ms fl 0 h.F.length/\st2.H fl=.box 127 2 (gC (vsF E) h.F)/\fl<st2.next/\aA st st2/\∃ t,fr 11=.sl t j (eZ (h.F.take j))/\EH t 22 1 j st st2) ?_ ?_ ?_
   .exact⟨sS,by rw[bX,aAa oO];exact hF,by simp;omega,hk.trans (aA.new _ _),s3.next,by simp[eZ],by have:=hk.next;omega,hk.next,sS,sS⟩
   .clear hF P3 hG Yg hL YG f7 f8 hk;rintro j fr s GD ⟨f80,hF,P3,hk,t,f11,t0,t1,t2,tH⟩ fi fn JO hJO;have hd:=rN (vsF E) h.F j GD;have hjj:j*2<h.F.length*2:=oO;have Xx:=AH h.F j GD;have hgd:h.F.getD j []=h.F[j]:=by rw[aAc,aAd GD];rfl
    rw[hgd]at hd;generalize h.F[j]=R at *;have c0:¬fl=t:=fun e=>by rw[e,tH]at hF;cases hF
    have c1:¬t=s.next:=oO;have c2:¬s.next=t:=oO;have c3:¬t=s.next+1:=oO;have c4:¬s.next+1=t:=oO;have c5:¬fl=s.next:=oO
    (repeat' (first|apply qS|(refine zE ?_;intro J hJ;simp[f80,f11,fi,fn,hF,hd,hjj,C0,GD,tH,t0,c0,c1,c2,c3,c4,c5];(repeat refine ca ?_);refine zJ hJ ?_)))
    refine hJO _ _ (by simp[fi]) (by simp[fn]) ⟨by simp[f80],?_,by simp;omega,?_,s.next+1+1,by rw[Xx];simp[eZ],oO,oO,sS,sS⟩
    ·(repeat (first|rw[nHh nOo]|rw[sHh oO]|rw[nIi nQq]|rw[sIi oO]));exact hF
    .exact(((hk.trans (aA.new _ _)).trans (aA.new _ _)).set t1 _).trans (aA.new _ _)
   .clear hF P3 hG Yg hL YG f7 f8 hk;rintro fr s ⟨f80,hF,P3,hk,t,f11,t0,t1,t2,tH⟩;rw[aAQ]at f11
    (repeat' (first|apply qS|(refine qR (zZ ?_);simp[f11])|(refine zE ?_;intro J hJ;simp[f11];refine zJ hJ ?_)))
    have hzu:∀ l:List Int,z0L (us l)=us l:=fun l=>by
     induction l with
     |nil=>rfl
     |cons x l ih=>simp only[us,aAi,z0L,z0]at ih ⊢;rw[ih]
    have hz:∀ R:List (List Int),z0L (eZ R)=eZ R:=fun R=>by
     induction R with
     |nil=>rfl
     |cons r R ih=>simp only[eZ,aAi,z0L,z0,hzu]at ih ⊢;rw[ih]
    exact⟨by simp[z0,z0L,drR,hz],hk⟩
end Aw
end Go.Proofs.YtempldclppogmaaGreatDoor
