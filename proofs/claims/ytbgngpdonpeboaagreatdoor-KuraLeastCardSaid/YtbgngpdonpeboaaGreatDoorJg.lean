/- plane: newSheet. -/
import Derived.Test.YtbgngpdonpeboaaGreatDoorJf
import Derived.Test.YtbgngpdonpeboaaGreatDoorAwAlt
set_option linter.unusedVariables false
set_option linter.unusedSimpArgs false
set_option maxHeartbeats 4000000
open Go.Proofs.Tryz
namespace Go.Proofs.YtbgngpdonpeboaaGreatDoor
namespace Aw
open Go Go.RowKit Pl
theorem UP{ops:Array Oper}{M B:List Nat}{j7:St}{J:Frm->St->Prop}{listed:Array Bool}{fr:Frm}{st:St}{k:Nat}(n:Nat)(p q r:Nat×Bool)(h1:eI prog tab ops M B j7 (fun fr st=>jS prog tab ops M (SB B j7) J n (listed.setIfInBounds p.1 true) fr st) (pick ops [p]) fr st)
 (h2:eI prog tab ops M B j7 (fun fr st=>jS prog tab ops M (SB B j7) J n (listed.setIfInBounds q.1 true) fr st) (pick ops [q]) fr st)
 (h3:eI prog tab ops M B j7 (fun fr st=>jS prog tab ops M (SB B j7) J n (listed.setIfInBounds r.1 true) fr st) (pick ops [r]) fr st) (hn:k=n+1:=by rfl) (hk:LY ops [p,q,r] listed=true:=by kernel_rfl):jS prog tab ops M (SB B j7) J k listed fr st:=by
 subst hn;refine Hw n [p,q,r] hk fun x hx=>?_;simp only[aAe,aCa,aDx]at hx;rcases hx with rfl|rfl|rfl
 .exact h1
 .exact h2
 .exact h3
structure NeI(g:Gr)(lo S nl pl ll:Nat)(f6:LV)(j7 s:St)(near:List LV)(pm lm:List (List Int×LV))(on:Nat):Prop where
 gr:s.H lo=.box 25 2 (grL g)
 box:s.H S=.box 136 7 [.sl 0 g.vs.length (us g.vs),.sl 0 g.es.length (eds g.es),.ms nl 0 g.vs.length,.mp pl,.mp ll,wv on,f6]
 near:s.H nl=.box 133 1 near
 plc:s.H pl=.map false [.u32] pm
 lin:s.H ll=.map true [.u32,.u32] lm
 b:j7.next<=lo/\lo<s.next/\j7.next<=S/\S<s.next/\j7.next<=nl/\nl<s.next/\j7.next<=pl/\pl<s.next/\j7.next<=ll/\ll<s.next
 kp:aA j7 s
theorem iU(n:Nat):eF [.atom (.int .u64 0)] n=List.replicate n (wv 0):=by
 induction n with
 |zero=>rfl
 |succ n ih=>rw[List.replicate_succ,<- ih];rfl
def OD(vs:List Int)(j:Nat):List (List Int×LV):=(List.range j).map fun k=>([vs.getD k 0],i k)
theorem Bj:∀(L:List (List Int×LV)) (k:List Int) (x:LV),k∉L.map (·.1)->bQ L k x=L++[(k,x)]
 |[],k,x,_=>rfl
 |q::L,k,x,h=>by simp only[aAl,aAe,aCr]at h;simp only[bQ];rw[aAa (by simpa using h.1),Bj L k x h.2];rfl
theorem OM{vs:List Int}(hn:vs.Nodup){j:Nat}(hj:j<vs.length):bQ (OD vs j) [vs.getD j 0] (i j)=OD vs (j+1):=by
 rw[Bj]
 .unfold OD;rw[aEc,aAu];rfl
 .unfold OD;rw[aAX];intro h;obtain⟨k,hk,e⟩:=aAi.1 h;have hk:=aBl.1 hk;simp only[Function.comp,aBt,aEu]at e;rw[bL _ _ hj,bL _ _ (show k<vs.length by omega),Ex hn oO hj]at e;omega
def nO(g:Gr)(j:Nat):List LV:=g.vs.map fun v=>wv (mk g.vs (nbr (g.es.take j) v))
@[simp] theorem Da(g:Gr)(j:Nat):(nO g j).length=g.vs.length:=by simp[nO]
theorem JT(g:Gr):nO g 0=List.replicate g.vs.length (wv 0):=by
 have hz:mk g.vs []=0:=(mk_zero g.vs []).2 fun _ _=>by simp
 unfold nO;rw[List.eq_replicate_iff];refine⟨sS,fun b hb=>?_⟩;obtain⟨v,_,rfl⟩:=aAi.1 hb;simp[nbr,hz]
theorem Ni(g:Gr):nO g g.es.length=mM g:=by unfold nO mM;rw[aBe]
theorem rR(g:Gr)(j k:Nat)(hk:k<g.vs.length):(nO g j)[k]?=some (wv (mk g.vs (nbr (g.es.take j) (g.vs.getD k 0)))):=by unfold nO;rw[aCi,aAh hk,bL _ _ hk];rfl
theorem Qq(es:List Ed)(x:Ed)(v:Int):nbr (es++[x]) v=nbr es v++JX v x:=by simp[nbr]
theorem Je{g:Gr}(hn:g.vs.Nodup){j:Nat}(hj:j<g.es.length){d a b:Int}(hx:g.es.getD j ed0=⟨d,a,b⟩)(v8:a≠b)(ha:a∈g.vs)(hb:b∈g.vs):
 ((nO g j).set (g.vs.idxOf a) (wv (mk g.vs (nbr (g.es.take j) a++[b])))).set (g.vs.idxOf b) (wv (mk g.vs (nbr (g.es.take j) b++[a])))=nO g (j+1):=by
 obtain⟨ia,ga⟩:=An ha;obtain⟨ib,gb⟩:=An hb;have C9:g.es.take (j+1)=g.es.take j++[⟨d,a,b⟩]:=by rw[aAs hj,<- fB _ _ hj,hx]
 refine aCo fun k=>?_;by_cases hk:k<g.vs.length
 .rw[rR g (j+1) k hk,C9,Qq,aDp,aDp,rR g j k hk];simp only[aCN,Da];by_cases e1:g.vs.idxOf b=k
  .rw[aAj e1,aAj oO,<- e1,gb];simp[JX,v8]
  .rw[aAa e1];by_cases e2:g.vs.idxOf a=k
   .rw[aAj e2,aAj oO,<- e2,ga];simp[JX,aCB v8]
   .rw[aAa e2];have v1:¬a=g.vs.getD k 0:=fun e=>e2 (by rw[e,bL _ _ hk];exact hn.idxOf_getElem k hk);have v2:¬b=g.vs.getD k 0:=fun e=>e1 (by rw[e,bL _ _ hk];exact hn.idxOf_getElem k hk);unfold JX;rw[aAa v1,aAa v2];simp
 .rw[aBV (by simp;omega),aBV (by simp;omega)]
theorem B8(x y:Ed)(q:Nat)(st:St)(hq:st.H q=.box 36 3 (edL x))(V6:q<st.next):
 aB prog 138 [.ag (edL y),.pt q 0] st fun r st'=>r=bb (decide (y≠x))/\aA st st':=by
 obtain⟨d,a,b⟩:=x;obtain⟨d',a',b'⟩:=y;have h1:¬q=st.next:=oO;refine zN func138 ntmps138 [.tmp 3] ?_;refine xw2 hq h1 ?_;exact⟨rfl,aA.new _ _⟩
def newF(g:Gr):Option Sh:=match g.es with
 |[]=>none
 |x::_=>(vO g.vs (cR (g.es.filter fun y=>decide (y≠x))) (fun _=>true) x.a x.b 1000).bind fun ring=>
  if ring.length<=200/\∀ v∈ring,v∈g.vs then some ⟨jY (jY [] ring) [x.a,x.b],ring++[x.a,x.b],[ring,ring.reverse]⟩else none
theorem SL{g:Gr}(hg:GP g){h:Sh}(hh:newF g=some h)(st:St):aB prog 100 [.ag (grL g)] st fun r st'=>∃ S nl pl ll fl le,r=.pt S 0/\ShA g h.L h.on h.F S nl pl ll fl le st'/\(st.next<=S/\st.next<=ll/\st.next<=fl)/\aA st st':=by
 have he:=hg.he;have h64:=hg.h64;refine zN func100 ntmps100 [.tmp 2] ?_;refine iF fun M3=>?_;refine xw0 ?_;refine Cd (fun f s=>∃ S nl pl ll,f 1=.pt st.next 0/\f 3=.pt S 0/\NeI g st.next S nl pl ll .nil st s (List.replicate g.vs.length (wv 0)) [] [] 0) ?_ ?_
 .refine w_a [] [st.next] ?_;intro J hJ;refine lN 6 [(0,true),(1,true),(2,true),(3,true)] ?_;simp;refine UP 5 (4,true) (5,true) (6,true) ?_ ?_ ?_
  .simp;refine⟨⟨oO,oO⟩,?_⟩;refine tU 4 (5,true) (6,true) ?_ ?_
   .simp;refine lN 0 [(6,true),(7,true),(8,true),(9,true)] ?_;simp;refine eS (hJ _ _ ?_);simp only[ak];refine⟨trivial,st.next+4,st.next+1,st.next+2,st.next+3,sS,sS,⟨?_,?_,?_,?_,?_,?_,?_⟩⟩
    ·(repeat (first|rw[nHh nOo]|rw[sHh oO]|rw[nIi nQq]|rw[sIi oO]))
    ·(repeat (first|rw[nHh nOo]|rw[sHh oO]|rw[nIi nQq]|rw[sIi oO]));rfl
    ·(repeat (first|rw[nHh nOo]|rw[sHh oO]|rw[nIi nQq]|rw[sIi oO]));rw[iU]
    ·(repeat (first|rw[nHh nOo]|rw[sHh oO]|rw[nIi nQq]|rw[sIi oO]))
    ·(repeat (first|rw[nHh nOo]|rw[sHh oO]|rw[nIi nQq]|rw[sIi oO]))
    .simp only[aG];omega
    ·(repeat (first|exact aA.refl _|(refine aA.trans ?_ (aA.new _ _))))
   .simp;refine lN 0 [(5,true),(7,true),(8,true),(9,true)] ?_;simp;refine eS (hJ _ _ ?_);simp only[ak];refine⟨trivial,st.next+4,st.next+1,st.next+3,st.next+2,sS,sS,⟨?_,?_,?_,?_,?_,?_,?_⟩⟩
    ·(repeat (first|rw[nHh nOo]|rw[sHh oO]|rw[nIi nQq]|rw[sIi oO]))
    ·(repeat (first|rw[nHh nOo]|rw[sHh oO]|rw[nIi nQq]|rw[sIi oO]));rfl
    ·(repeat (first|rw[nHh nOo]|rw[sHh oO]|rw[nIi nQq]|rw[sIi oO]));rw[iU]
    ·(repeat (first|rw[nHh nOo]|rw[sHh oO]|rw[nIi nQq]|rw[sIi oO]))
    ·(repeat (first|rw[nHh nOo]|rw[sHh oO]|rw[nIi nQq]|rw[sIi oO]))
    .simp only[aG];omega
    ·(repeat (first|exact aA.refl _|(refine aA.trans ?_ (aA.new _ _))))
  .simp;refine tU 4 (4,true) (6,true) ?_ ?_
   .simp;refine⟨⟨oO,oO⟩,?_⟩;refine lN 0 [(6,true),(7,true),(8,true),(9,true)] ?_;simp;refine eS (hJ _ _ ?_);simp only[ak];refine⟨trivial,st.next+4,st.next+2,st.next+1,st.next+3,sS,sS,⟨?_,?_,?_,?_,?_,?_,?_⟩⟩
    ·(repeat (first|rw[nHh nOo]|rw[sHh oO]|rw[nIi nQq]|rw[sIi oO]))
    ·(repeat (first|rw[nHh nOo]|rw[sHh oO]|rw[nIi nQq]|rw[sIi oO]));rfl
    ·(repeat (first|rw[nHh nOo]|rw[sHh oO]|rw[nIi nQq]|rw[sIi oO]));rw[iU]
    ·(repeat (first|rw[nHh nOo]|rw[sHh oO]|rw[nIi nQq]|rw[sIi oO]))
    ·(repeat (first|rw[nHh nOo]|rw[sHh oO]|rw[nIi nQq]|rw[sIi oO]))
    .simp only[aG];omega
    ·(repeat (first|exact aA.refl _|(refine aA.trans ?_ (aA.new _ _))))
   .simp;refine lN 0 [(4,true),(7,true),(8,true),(9,true)] ?_;simp;refine⟨⟨oO,oO⟩,?_⟩;refine eS (hJ _ _ ?_);simp only[ak];refine⟨trivial,st.next+4,st.next+3,st.next+1,st.next+2,sS,sS,⟨?_,?_,?_,?_,?_,?_,?_⟩⟩
    ·(repeat (first|rw[nHh nOo]|rw[sHh oO]|rw[nIi nQq]|rw[sIi oO]))
    ·(repeat (first|rw[nHh nOo]|rw[sHh oO]|rw[nIi nQq]|rw[sIi oO]));rfl
    ·(repeat (first|rw[nHh nOo]|rw[sHh oO]|rw[nIi nQq]|rw[sIi oO]));rw[iU]
    ·(repeat (first|rw[nHh nOo]|rw[sHh oO]|rw[nIi nQq]|rw[sIi oO]))
    ·(repeat (first|rw[nHh nOo]|rw[sHh oO]|rw[nIi nQq]|rw[sIi oO]))
    .simp only[aG];omega
    ·(repeat (first|exact aA.refl _|(refine aA.trans ?_ (aA.new _ _))))
  .simp;refine tU 4 (4,true) (5,true) ?_ ?_
   .simp;refine⟨⟨oO,oO⟩,?_⟩;refine lN 0 [(5,true),(7,true),(8,true),(9,true)] ?_;simp;refine eS (hJ _ _ ?_);simp only[ak];refine⟨trivial,st.next+4,st.next+2,st.next+3,st.next+1,sS,sS,⟨?_,?_,?_,?_,?_,?_,?_⟩⟩
    ·(repeat (first|rw[nHh nOo]|rw[sHh oO]|rw[nIi nQq]|rw[sIi oO]))
    ·(repeat (first|rw[nHh nOo]|rw[sHh oO]|rw[nIi nQq]|rw[sIi oO]));rfl
    ·(repeat (first|rw[nHh nOo]|rw[sHh oO]|rw[nIi nQq]|rw[sIi oO]));rw[iU]
    ·(repeat (first|rw[nHh nOo]|rw[sHh oO]|rw[nIi nQq]|rw[sIi oO]))
    ·(repeat (first|rw[nHh nOo]|rw[sHh oO]|rw[nIi nQq]|rw[sIi oO]))
    .simp only[aG];omega
    ·(repeat (first|exact aA.refl _|(refine aA.trans ?_ (aA.new _ _))))
   .simp;refine lN 0 [(4,true),(7,true),(8,true),(9,true)] ?_;simp;refine⟨⟨oO,oO⟩,?_⟩;refine eS (hJ _ _ ?_);simp only[ak];refine⟨trivial,st.next+4,st.next+3,st.next+2,st.next+1,sS,sS,⟨?_,?_,?_,?_,?_,?_,?_⟩⟩
    ·(repeat (first|rw[nHh nOo]|rw[sHh oO]|rw[nIi nQq]|rw[sIi oO]))
    ·(repeat (first|rw[nHh nOo]|rw[sHh oO]|rw[nIi nQq]|rw[sIi oO]));rfl
    ·(repeat (first|rw[nHh nOo]|rw[sHh oO]|rw[nIi nQq]|rw[sIi oO]));rw[iU]
    ·(repeat (first|rw[nHh nOo]|rw[sHh oO]|rw[nIi nQq]|rw[sIi oO]))
    ·(repeat (first|rw[nHh nOo]|rw[sHh oO]|rw[nIi nQq]|rw[sIi oO]))
    .simp only[aG];omega
    ·(repeat (first|exact aA.refl _|(refine aA.trans ?_ (aA.new _ _))))
 .rintro fr s ⟨S,nl,pl,ll,f1,f3,hI⟩;have hn:g.vs.Nodup:=hg.toGoodE.toGood.nodup;have hG:=hI.gr;refine xw2 f1 hG ?_;refine bD 24 23 25 35 (g.vs.length) (fun j fr st2=>fr 1=.pt st.next 0/\fr 3=.pt S 0/\fr 22=.sl 0 g.vs.length (us g.vs)/\NeI g st.next S nl pl ll .nil st st2 (List.replicate g.vs.length (wv 0)) (OD g.vs j) [] 0) ?_ ?_ ?_
  .exact⟨sF1 f1,sF1 f3,sS,hI⟩
  .clear f1 f3 hI hG fr s;rintro j fr s dG ⟨f1,f3,f22,hI⟩ fi fn JO hJO;have hd:=qG g.vs j dG;have hps:=OM hn dG;generalize g.vs.getD j 0=v at *;obtain⟨hG,J6,hN,hP,hL,hb,hk⟩:=id hI;have a1:¬st.next=pl:=fun e=>by rw[e,hP]at hG;cases hG
   have a2:¬S=pl:=fun e=>by rw[e,hP]at J6;cases J6
   have a3:¬nl=pl:=fun e=>by rw[e,hP]at hN;cases hN
   have a4:¬ll=pl:=fun e=>by rw[e,hP]at hL;cases hL
   refine xw9 f3 f22 fi fn hd dG J6 hP hps ?_;exact hJO _ _ (sF1 fi) (sF1 fn) ⟨sF1 f1,sF1 f3,sF1 f22,⟨by(repeat (first|rw[nHh nOo]|rw[sHh oO]|rw[nIi nQq]|rw[sIi oO]));exact hG,by(repeat (first|rw[nHh nOo]|rw[sHh oO]|rw[nIi nQq]|rw[sIi oO]));exact J6,by(repeat (first|rw[nHh nOo]|rw[sHh oO]|rw[nIi nQq]|rw[sIi oO]));exact hN,by(repeat (first|rw[nHh nOo]|rw[sHh oO]|rw[nIi nQq]|rw[sIi oO])),by(repeat (first|rw[nHh nOo]|rw[sHh oO]|rw[nIi nQq]|rw[sIi oO]));exact hL,by simp only[bT];exact hb,hk.set oO _⟩⟩
  .clear f1 f3 hI hG fr s;rintro fr s ⟨f1,f3,f22,hI⟩;have hG:=hI.gr;have hel:=aI g.es;refine xw2 f1 hG ?_;rw[<- JT]at hI;have hplc:OD g.vs g.vs.length=wQ g.vs:=rfl;rw[hplc]at hI;clear hplc;refine bD 39 38 40 81 (g.es.length) (fun j fr st2=>fr 1=.pt st.next 0/\fr 3=.pt S 0/\fr 37=.sl 0 g.es.length (eds g.es)/\NeI g st.next S nl pl ll .nil st st2 (nO g j) (wQ g.vs) [] 0) ?_ ?_ ?_
   .exact⟨sF1 f1,sF1 f3,sS,hI⟩
   .clear f1 f3 f22 hI hG fr s;rintro j fr s dG ⟨f1,f3,f37,hI⟩ fi fn JO hJO;have hde:=aL g.es j dG;have hj3:j*3<g.es.length*3:=oO;have hm:g.es.getD j ed0∈g.es:=by rw[fB _ _ dG];exact aAI _
    have M4:=hg.ends _ hm;have Zo:=hg.ne _ hm;generalize hx:g.es.getD j ed0=x at *;obtain⟨d,a,b⟩:=x;simp only at M4 Zo;have hsu:=Je hn dG hx Zo M4.1 M4.2;obtain⟨ia,ga⟩:=An M4.1;obtain⟨ib,gb⟩:=An M4.2;have pa:=CK hn ia;have pb:=CK hn ib;rw[ga]at pa;rw[gb]at pb;have na:=rR g j _ ia;rw[ga]at na;have oa:=Ag g.vs (nbr (g.es.take j) a) [b] h64;have ob:=Ag g.vs (nbr (g.es.take j) b) [a] h64;have nb:=rR g j _ ib;rw[gb]at nb;have hidx:¬g.vs.idxOf a=g.vs.idxOf b:=fun e=>Zo (by rw[<- ga,<- gb,e]);have nb2:((nO g j).set (g.vs.idxOf a) (wv (mk g.vs (nbr (g.es.take j) a++[b]))))[g.vs.idxOf b]?=some (wv (mk g.vs (nbr (g.es.take j) b))):=by rw[aDp,aAa hidx];exact nb
    have hl:=Da g j;generalize nO g j=N at *;generalize g.vs.idxOf a=ka at *;generalize g.vs.idxOf b=kb at *;generalize mk g.vs (nbr (g.es.take j) a)=ma at *;generalize mk g.vs (nbr (g.es.take j) b)=mb at *;obtain⟨hG,J6,hN,hP,hL,hb,hk⟩:=id hI;have a1:¬st.next=s.next:=oO;have a2:¬S=s.next:=oO;have a3:¬nl=s.next:=oO;have a4:¬ll=s.next:=oO;have a5:¬pl=s.next:=oO;have da:N.drop ka=wv ma::N.drop (ka+1):=by rw[aAL oO];rw[aAh oO,aAb]at na;rw[na]
    have ka1:(ka:Int)<g.vs.length:=oO;have kb1:(kb:Int)<g.vs.length:=oO;refine xw7 f37 fi fn hde hel hj3 dG ?_
    (refine zS [] [S,s.next,nl,pl] [0,2,4,6,8,10,12,14,16,18,20,22,24,26,28,30,32,34,36,39] ?_;intro J hJ;simp[f3,J6,hN,hP,a1,a2,a3,a4,a5,pa,da,ia,ka1,hl])
    have hBb:∀ {v:Int} {s':St},v∈g.vs->s'.H S=.box 136 7 [.sl 0 g.vs.length (us g.vs),.sl 0 g.es.length (eds g.es),.ms nl 0 g.vs.length,.mp pl,.mp ll,wv 0,.nil]->s'.H pl=.map false [.u32] (wQ g.vs)->aB prog 137 [.pt S 0,u v] s' fun r st'=>r=wv (mk g.vs [v])/\st'=s':=
     fun {v s'} hv h1 h2=>UG ⟨⟨_,_,_,_,_,_,h1⟩,h2⟩ hn h64 hv
    refine xdP (hBb M4.2 (by rw[cE,aAa a2];exact J6) (by rw[cE,aAa a5];exact hP)) ?_;refine⟨fun h=>by first|(cases h;done)|exact fun _ _=>rfl|simp,?_⟩;have Y0:∀(M:List LV) (k:Nat) (y:LV),k<M.length->M.take k++y::M.drop (k+1)=M.set k y:=fun M k y h=>by rw[aBK,aAj h]
    have Z6:=Y0 N ka (wv (mk g.vs (nbr (g.es.take j) a++[b]))) oO;have b1:¬S=nl:=fun e=>by rw[e,hN]at J6;cases J6
    have b2:¬pl=nl:=fun e=>by rw[e,hN]at hP;cases hP
    have b3:¬s.next=nl:=oO;have b4:¬ll=nl:=fun e=>by rw[e,hN]at hL;cases hL
    have b5:¬st.next=nl:=fun e=>by rw[e,hN]at hG;cases hG
    (apply bI;simp[J6,hN,hP,a1,a2,a3,a4,a5,ia,ka1,hl,oa];(repeat refine ca ?_);(refine zJ hJ ?_;clear hJ J))
    rw[Z6];have hl2:(N.set ka (wv (mk g.vs (nbr (g.es.take j) a++[b])))).length=g.vs.length:=by rw[aCN,hl]
    generalize N.set ka (wv (mk g.vs (nbr (g.es.take j) a++[b])))=N2 at *;have db:N2.drop kb=wv mb::N2.drop (kb+1):=by rw[aAL oO];rw[aAh oO,aAb]at nb2;rw[nb2]
    have X0:=Y0 N2 kb (wv (mk g.vs (nbr (g.es.take j) b++[a]))) oO
    (repeat (apply qS))
    (refine zS [] [S,s.next,nl,pl] [0,2,4,6,8,10,12,14,16,18,20,22,24,26,28,30,32,34,36,39] ?_;intro J hJ;simp[f3,J6,hP,a1,a2,a3,a4,a5,b1,b2,b3,b4,pb,db,ib,kb1,hl2])
    refine xdP (hBb M4.1 (by rw[bU,aAa b1,cE,aAa a2];exact J6) (by rw[bU,aAa b2,cE,aAa a5];exact hP)) ?_;refine⟨fun h=>by first|(cases h;done)|exact fun _ _=>rfl|simp,?_⟩
    (apply bI;simp[J6,hP,a1,a2,a3,a4,a5,b1,b2,b3,b4,ib,kb1,hl2,ob];(repeat refine ca ?_);(refine zJ hJ ?_;clear hJ J))
    rw[X0,hsu];refine xw1 fi ?_;refine hJO _ _ (sF1 fi) (sF1 fn) ⟨sF1 f1,sF1 f3,sF1 f37,⟨by(repeat (first|rw[nHh nOo]|rw[sHh oO]|rw[nIi nQq]|rw[sIi oO]));exact hG,by(repeat (first|rw[nHh nOo]|rw[sHh oO]|rw[nIi nQq]|rw[sIi oO]));exact J6,by(repeat (first|rw[nHh nOo]|rw[sHh oO]|rw[nIi nQq]|rw[sIi oO])),by(repeat (first|rw[nHh nOo]|rw[sHh oO]|rw[nIi nQq]|rw[sIi oO]));exact hP,by(repeat (first|rw[nHh nOo]|rw[sHh oO]|rw[nIi nQq]|rw[sIi oO]));exact hL,by simp only[bT,aG];omega,?_⟩⟩;exact((hk.trans (aA.new _ _)).set oO _).set oO _
   .clear f1 f3 f22 hI hG fr s;rintro fr s ⟨f1,f3,f37,hI⟩;rw[Ni]at hI;unfold newF at hh;cases hes:g.es with
    |nil=>rw[hes]at hh;cases hh
    |cons x es'=>
     rw[hes]at hh;simp only at hh;obtain⟨ring,hring,hh⟩:=aBw.1 hh;by_cases hc:ring.length<=200/\∀ v∈ring,v∈g.vs
     case neg=>rw[aAa hc]at hh;cases hh
     rw[aAj hc,aAb]at hh;subst hh;obtain⟨hrl,hrv⟩:=hc;obtain⟨hG,J6,hN,hP,hL,hb,hk⟩:=id hI;simp only[ak];have hT3:(eds g.es).take 3=edL x:=by rw[hes];simp[eds,edL]
     have Y9:0<g.es.length:=by rw[hes];simp
     have hlp3:0<g.es.length*3:=oO;have hlp4:3<=g.es.length*3:=oO;have hlpi:(0:Int)<g.es.length:=oO;have a1:¬st.next=s.next:=oO;obtain⟨dx,ax,bx⟩:=x;have hTe:∀ s2,aA s s2->s.next<s2.next->s2.H s.next=.box 36 3 (edL ⟨dx,ax,bx⟩)->DV 138 [.pt s.next 0] s2 g.es fun y=>decide (y≠⟨dx,ax,bx⟩):=fun s2 h1 h2 h3 y _ s3 h4=>B8 _ y s.next s3 ((h4.H _ h2).trans h3) (aAr h2 h4.next)
     (refine xj9 f1 hG hel hT3 Y9 hlp3 hlp4 hlpi a1 ?_;intro J hJ)
     refine qE (GU g _ _ _ _ oO oO (hTe _ (aA.new _ _) sS sS)) (by simp[grL]) ?_;rintro r s1 ⟨rfl,c8⟩;have I7:=c8.next;simp only[aG]at I7;have hX1:s1.H s.next=.box 36 3 (edL ⟨dx,ax,bx⟩):=by rw[c8.H _ sS];simp
     have hK1:aA s s1:=(aA.new _ _).trans c8;clear c8;have U4:(g.es.filter fun y=>decide (y≠⟨dx,ax,bx⟩)).length<=1000:=by have:=aAU (fun y:Ed=>decide (y≠⟨dx,ax,bx⟩)) g.es;omega
     have hmay:∀ s,QF (.atom .nilFunc) (fun _=>true) s:=fun s=>.inl ⟨rfl,fun _=>rfl⟩;rw[<- hes]at hring;have b1:¬s.next=s1.next:=oO
     (refine JP hJ hX1 b1 ?_;intro J hJ)
     refine qE (Path ⟨g.vs,g.es.filter fun y=>decide (y≠⟨dx,ax,bx⟩)⟩ ax bx _ (fun _=>true) 1000 ring _ (by simp only;omega) U4 oO (hmay _) hring) (by simp[grL]) ?_;rintro r s2 ⟨rfl,o8⟩;have N8:=o8.next;simp only[aG]at N8;have hX2:s2.H s.next=.box 36 3 (edL ⟨dx,ax,bx⟩):=by rw[o8.H _ (by simp;omega),cE,aAa b1];exact hX1
     have hK2:aA s s2:=(hK1.trans (aA.new _ _)).trans o8;clear o8
     (refine mS hJ ?_;intro J hJ)
     refine qE (Ep ring 0 _ oO) sS ?_;rintro r s3 ⟨q,rfl,q1,q2,hq,u5⟩
     (refine mS hJ ?_;intro J hJ)
     refine qE (AE ring q s3 (by unfold small;omega) hq) sS ?_;rintro r s4 e4;have hK4:aA s s4:=by rw[e4];exact(hK2.trans u5).set (by have:=hK2.next;omega) _
     have hn4:s4.next=s3.next:=by rw[e4];rfl
     have hn3:=u5.next;have hq4:s4.H q=.box 34 1 (us ring.reverse):=by rw[e4];simp
     have hX4:s4.H s.next=.box 36 3 (edL ⟨dx,ax,bx⟩):=by rw[e4,bU,aAa oO,u5.H _ oO];exact hX2
     clear e4 hq u5;have hz:mk g.vs []=0:=(mk_zero g.vs []).2 fun _ _=>by simp
     have hSb4:s4.H S=.box 136 7 [.sl 0 g.vs.length (us g.vs),.sl 0 g.es.length (eds g.es),.ms nl 0 g.vs.length,.mp pl,.mp ll,wv (mk g.vs []),.nil]:=by rw[hz];exact(hK4.H S oO).trans J6
     have hN4:=(hK4.H nl oO).trans hN;have hP4:=(hK4.H pl oO).trans hP;have hL4:=(hK4.H ll oO).trans hL;have c1:¬pl=ll:=fun e=>by rw[e,hL]at hP;cases hP
     have c2:¬nl=ll:=fun e=>by rw[e,hL]at hN;cases hN
     have c3:¬nl=S:=fun e=>by rw[e,J6]at hN;cases hN
     have c4:¬pl=S:=fun e=>by rw[e,J6]at hP;cases hP
     have c5:¬ll=S:=fun e=>by rw[e,J6]at hL;cases hL
     have c6:¬S=ll:=fun e=>c5 e.symm;have hn5:=hK4.next
     (refine FQ hJ f3 ?_;intro J hJ)
     refine qE (QG hSb4 hP4 hL4 (L:=[]) rfl c1 hn h64 ring 0 hrv oO) sS ?_;rintro r s5 ⟨le1,e5,hk5⟩;rw[List.nil_append]at e5;have n5:s5.next=s4.next:=by rw[e5];rfl
     have hSb5:s5.H S=.box 136 7 [.sl 0 g.vs.length (us g.vs),.sl 0 g.es.length (eds g.es),.ms nl 0 g.vs.length,.mp pl,.mp ll,wv (mk g.vs ring),.nil]:=by rw[e5];simp
     have hN5:s5.H nl=.box 133 1 (mM g):=by rw[e5];simp[c3,c2,hN4]
     have hP5:s5.H pl=.map false [.u32] (wQ g.vs):=by rw[e5];simp[c4,c1,hP4]
     have hL5:s5.H ll=.map true [.u32,.u32] le1:=by rw[e5];simp[c5]
     have hq5:s5.H q=.box 34 1 (us ring.reverse):=by rw[e5];simp[show ¬q=S by omega,show ¬q=ll by omega,hq4]
     have hX5:s5.H s.next=.box 36 3 (edL ⟨dx,ax,bx⟩):=by rw[e5];simp[show ¬s.next=S by omega,show ¬s.next=ll by omega,hX4]
     have hK5:aA st s5:=by rw[e5];exact((hk.trans hK4).set oO _).set oO _
     clear e5 hSb4 hN4 hP4 hL4 hq4 hX4;have v8:=hg.ends ⟨dx,ax,bx⟩ (by rw[hes];simp);simp only at v8;have hv2:∀ v∈[ax,bx],v∈g.vs:=fun v hv=>by
      simp only[aAe,aCa,aDx]at hv;rcases hv with e|e
      .rw[e];exact v8.1
      .rw[e];exact v8.2
     (refine JP hJ hX5 f3 ?_;intro J hJ)
     have hk6:=aA.new s5 (.own 34 1 2);refine qE (QG ((hk6.H S oO).trans hSb5) ((hk6.H pl oO).trans hP5) ((hk6.H ll oO).trans hL5) hk5 c1 hn h64 [ax,bx] s5.next hv2 sS) sS ?_;rintro r s7 ⟨le2,e7,hk7⟩;have n7:s7.next=s5.next+1:=by rw[e7];simp
     have hSb7:s7.H S=.box 136 7 [.sl 0 g.vs.length (us g.vs),.sl 0 g.es.length (eds g.es),.ms nl 0 g.vs.length,.mp pl,.mp ll,wv (mk g.vs (ring++[ax,bx])),.nil]:=by rw[e7];simp
     have d1:¬nl=s5.next:=oO;have d2:¬pl=s5.next:=oO;have d3:¬ll=s5.next:=oO;have hN7:s7.H nl=.box 133 1 (mM g):=by rw[e7];simp[c3,c2,d1,hN5]
     have hP7:s7.H pl=.map false [.u32] (wQ g.vs):=by rw[e7];simp[c4,c1,d2,hP5]
     have hL7:s7.H ll=.map true [.u32,.u32] le2:=by rw[e7];simp[c5]
     have hq7:s7.H q=.box 34 1 (us ring.reverse):=by rw[e7];simp[show ¬q=S by omega,show ¬q=ll by omega,show ¬q=s5.next by omega,hq5]
     have hK7:aA st s7:=by rw[e7];exact((hK5.trans hk6).set oO _).set oO _
     clear e7 hSb5 hN5 hP5 hL5 hq5 hX5
     (apply cS;simp[];(refine zJ hJ ?_;clear hJ J))
     refine tK 11 (l:=q) (n:=ring.length) sS hq7 sS ?_;have C9:(us ring.reverse).take (ring.length*1)=us ring.reverse:=by rw[aAv sS]
     rw[C9];have hrv2:∀ v∈ring.reverse,v∈g.vs:=fun v hv=>hrv v (aBp.1 hv);have hrl2:ring.length=ring.reverse.length:=sS;have e1:¬S=q:=oO;have hk8:aA st (s7.set q .dead):=hK7.set oO _;have n8:(s7.set q .dead).next=s7.next:=rfl;have hSb8:(s7.set q .dead).H S=.box 136 7 [.sl 0 g.vs.length (us g.vs),.sl 0 g.es.length (eds g.es),.ms nl 0 g.vs.length,.mp pl,.mp ll,wv (mk g.vs (ring++[ax,bx])),.nil]:=by rw[bU,aAa e1];exact hSb7
     have hN8:(s7.set q .dead).H nl=.box 133 1 (mM g):=by rw[bU,aAa oO];exact hN7
     have hP8:(s7.set q .dead).H pl=.map false [.u32] (wQ g.vs):=by rw[bU,aAa oO];exact hP7
     have hL8:(s7.set q .dead).H ll=.map true [.u32,.u32] le2:=by rw[bU,aAa oO];exact hL7
     generalize s7.set q .dead=s8 at *;have hB8:ShB g.vs S pl s8:=⟨⟨_,_,_,_,_,_,hSb8⟩,hP8⟩;have hFa:=fun(l:List Int) (hl:∀ v∈l,v∈g.vs) (hll:l.length<=1048576)=>RK hB8 oO oO hn h64 l 0 hl hll;have hF2:=hFa ring.reverse hrv2 (by simp;omega);rw[<- hrl2]at hF2
     (repeat (apply qS))
     (refine w_e [116] ?_;intro J hJ;simp only[];simp[f3])
     refine xcP (hFa ring hrv oO) ?_
     (apply cS;simp[f3])
     refine qE hF2 sS ?_;rintro r s9 ⟨rfl,e9⟩;rw[e9];clear e9 s9;have z1:¬S=s8.next:=oO;refine sL hJ hSb8 z1 f3 ?_;have hfac:[LV.sl 0 ring.length (us ring),wv (mk g.vs ring),LV.sl 0 ring.length (List.map u ring).reverse,wv (mk g.vs ring.reverse)]=gW g.vs [ring,ring.reverse]:=by simp[gW]
     rw[hfac];refine⟨nl,pl,ll,s8.next,⟨le2,⟨⟨sS,?_,?_,?_,hk7,?_⟩,?_,?_,?_,?_,sS⟩⟩,⟨oO,oO,by have:=hk8.next;omega⟩,(hk8.trans (aA.new _ _)).set oO _⟩
     ·(repeat (first|rw[nHh nOo]|rw[sHh oO]|rw[nIi nQq]|rw[sIi oO]));exact hN8
     ·(repeat (first|rw[nHh nOo]|rw[sHh oO]|rw[nIi nQq]|rw[sIi oO]));exact hP8
     ·(repeat (first|rw[nHh nOo]|rw[sHh oO]|rw[nIi nQq]|rw[sIi oO]));exact hL8
     .simp only[bT,aG];omega
     ·(repeat (first|rw[nHh nOo]|rw[sHh oO]|rw[nIi nQq]|rw[sIi oO]))
     .simp only[bT,aG];omega
     .intro r hr v hv;simp only[aAe,aCa,aDx]at hr;rcases hr with e|e
      .rw[e]at hv;exact hrv v hv
      .rw[e]at hv;exact hrv2 v hv
     .intro v hv;rw[aAd]at hv;exact hv.elim (hrv v) (hv2 v)
theorem Ej(x:Int)(st:St):aB prog 42 [u x] st fun r st'=>r=u x/\aA st st':=by refine zN func42 ntmps42 [.tmp 2] ?_;refine xw0 ?_;exact aA.refl _
theorem FZ(x:Ed)(st:St):aB prog 44 [.ag (edL x)] st fun r st'=>r=u x.id/\aA st st':=by obtain⟨d,a,b⟩:=x;refine zN func44 ntmps44 [.tmp 2] ?_;refine xw0 ?_;exact aA.new _ _
@[simp] def Oy(fn:FuncId):cI:=.box 59 1 [.fn (.func fn) []]
@[simp] def BJ(fn:FuncId):cI:=.box 61 1 [.fn (.func fn) []]
def PcU(b:Nat)(st:St):Prop:=b<st.next/\st.H b=Oy 42
def PcE(b:Nat)(st:St):Prop:=b<st.next/\st.H b=BJ 44
theorem PB(b:Nat)(x y:Int)(st:St)(h:PcU b st):aB prog 76 [u x,u y,.pt b 0] st fun r st'=>r=i (U.tP ⟨x⟩ ⟨y⟩)/\aA st st':=by
 obtain⟨hb,hH⟩:=h;simp only[Oy]at hH;refine zN func76 ntmps76 [.tmp 5] ?_;refine xw0 ?_
 (refine zS [] [b] [0,2,6,8,4,10,12,14] ?_;intro J hJ;simp[hH])
 refine aN (Ej x st) ?_;rintro r s1 ⟨rfl,c8⟩;have hH1:=(c8.H b hb).trans hH;refine⟨fun _=>by simp[hH1,hH],?_⟩
 (apply bI;simp[hH1,hH])
 refine aN (Ej y s1) ?_;rintro r s2 ⟨rfl,o8⟩;have U5:=(o8.H b (aAr hb c8.next)).trans hH1;refine⟨fun _=>by simp[U5,hH],?_⟩
 (apply bI;simp[U5,hH])
 refine aN (Kf x y s2) ?_;rintro r s3 ⟨rfl,rfl⟩;refine⟨fun _=>by simp[U5,hH],?_⟩
 (apply bI;simp[U5,hH];refine zJ hJ ?_)
 (repeat' (refine qR (zZ ?_);simp[U.tP]))
 exact c8.trans o8
theorem QN(b:Nat)(x y:Int)(st:St)(h:PcU b st):aB prog 79 [u x,u y,.pt b 0] st fun r st'=>r=bb (decide (x=y))/\aA st st':=by
 obtain⟨hb,hH⟩:=h;simp only[Oy]at hH;refine zN func79 ntmps79 [.tmp 5] ?_;refine xw0 ?_
 (refine zS [] [b] [0,2,6,8,4,10,12,14] ?_;intro J hJ;simp[hH])
 refine aN (Ej x st) ?_;rintro r s1 ⟨rfl,c8⟩;have hH1:=(c8.H b hb).trans hH;refine⟨fun _=>by simp[hH1,hH],?_⟩
 (apply bI;simp[hH1,hH])
 refine aN (Ej y s1) ?_;rintro r s2 ⟨rfl,o8⟩;have U5:=(o8.H b (aAr hb c8.next)).trans hH1;refine⟨fun _=>by simp[U5,hH],?_⟩
 (apply bI;simp[U5,hH];refine zJ hJ ?_)
 refine xw0 ?_;exact⟨by by_cases h:x=y<;>simp[h],c8.trans o8⟩
theorem OI(b:Nat)(x y:Ed)(st:St)(h:PcE b st):aB prog 81 [.ag (edL x),.ag (edL y),.pt b 0] st fun r st'=>r=i (tP x y)/\aA st st':=by
 obtain⟨hb,hH⟩:=h;obtain⟨xi,xa,xb⟩:=x;obtain⟨yi,ya,yb⟩:=y;simp only[BJ]at hH;have b1:¬b=st.next:=oO;have b2:¬b=st.next+1:=oO;refine zN func81 ntmps81 [.tmp 5] ?_;refine xw0 ?_
 (refine zS [] [b,st.next,st.next+1] [0,2,6,8,4,10,12,14] ?_;intro J hJ;simp[hH,b1,b2])
 refine aN (FZ ⟨xi,xa,xb⟩ _) ?_;rintro r s1 ⟨rfl,c8⟩;have I7:=c8.next;simp only[aG]at I7;have hH1:s1.H b=BJ 44:=by rw[c8.H b (by simp;omega)];simp[b1,b2,hH]
 have hX1:s1.H st.next=.box 36 3 [u xi,u xa,u xb]:=by rw[c8.H _ (by simp;omega)];simp
 have hY1:s1.H (st.next+1)=.box 36 3 [u yi,u ya,u yb]:=by rw[c8.H _ sS];simp
 simp only[BJ]at hH1;refine⟨fun _=>by simp[hH1,hH,hX1,hY1,b1,b2],?_⟩
 (apply bI;simp[hH1,hH,hX1,hY1])
 refine aN (FZ ⟨yi,ya,yb⟩ s1) ?_;rintro r s2 ⟨rfl,o8⟩;have U5:=(o8.H b oO).trans hH1;have hX2:=(o8.H st.next oO).trans hX1;have hY2:=(o8.H (st.next+1) oO).trans hY1;refine⟨fun _=>by simp[U5,hH,hX2,hY2,b1,b2],?_⟩
 (apply bI;simp[U5,hH,hX2,hY2])
 refine aN (Kf xi yi s2) ?_;rintro r s3 ⟨rfl,rfl⟩;refine⟨fun _=>by simp[U5,hH,hX2,hY2,b1,b2],?_⟩
 (apply bI;simp[U5,hH,hX2,hY2];refine zJ hJ ?_)
 (repeat' (refine qR (zZ ?_);simp[tP]))
 exact(((aA.new _ _).trans (aA.new _ _)).trans c8).trans o8
theorem MZ(b:Nat)(x y:Ed)(st:St)(h:PcE b st):aB prog 83 [.ag (edL x),.ag (edL y),.pt b 0] st fun r st'=>r=bb (decide (x.id=y.id))/\aA st st':=by
 obtain⟨hb,hH⟩:=h;obtain⟨xi,xa,xb⟩:=x;obtain⟨yi,ya,yb⟩:=y;simp only[BJ]at hH;have b1:¬b=st.next:=oO;have b2:¬b=st.next+1:=oO;refine zN func83 ntmps83 [.tmp 5] ?_;refine xw0 ?_
 (refine zS [] [b,st.next,st.next+1] [0,2,6,8,4,10,12,14] ?_;intro J hJ;simp[hH,b1,b2])
 refine aN (FZ ⟨xi,xa,xb⟩ _) ?_;rintro r s1 ⟨rfl,c8⟩;have I7:=c8.next;simp only[aG]at I7;have hH1:s1.H b=BJ 44:=by rw[c8.H b (by simp;omega)];simp[b1,b2,hH]
 have hX1:s1.H st.next=.box 36 3 [u xi,u xa,u xb]:=by rw[c8.H _ (by simp;omega)];simp
 have hY1:s1.H (st.next+1)=.box 36 3 [u yi,u ya,u yb]:=by rw[c8.H _ sS];simp
 simp only[BJ]at hH1;refine⟨fun _=>by simp[hH1,hH,hX1,hY1,b1,b2],?_⟩
 (apply bI;simp[hH1,hH,hX1,hY1])
 refine aN (FZ ⟨yi,ya,yb⟩ s1) ?_;rintro r s2 ⟨rfl,o8⟩;have U5:=(o8.H b oO).trans hH1;have hX2:=(o8.H st.next oO).trans hX1;have hY2:=(o8.H (st.next+1) oO).trans hY1;refine⟨fun _=>by simp[U5,hH,hX2,hY2,b1,b2],?_⟩
 (apply bI;simp[U5,hH,hX2,hY2];refine zJ hJ ?_)
 refine xw0 ?_;exact⟨by by_cases h:xi=yi<;>simp[h],(((aA.new _ _).trans (aA.new _ _)).trans c8).trans o8⟩
theorem Ws(b q:Nat)(hbq:b≠q):U.gU 76 [.pt b 0] q (PcU b):=
 ⟨fun st st' h L6=>⟨aAr h.1 L6.1,(L6.2 b hbq h.1).trans h.2⟩,fun st x y h=>PB b x.id y.id st h⟩
theorem Ya(b q:Nat)(hbq:b≠q):gU 81 [.pt b 0] q (PcE b):=
 ⟨fun st st' h L6=>⟨aAr h.1 L6.1,(L6.2 b hbq h.1).trans h.2⟩,fun st x y h=>OI b x y st h⟩
theorem eqU(b:Nat):Vs 79 [.pt b 0] (PcU b):=
 ⟨fun st st' h hk=>⟨aAr h.1 hk.next,(hk.H b h.1).trans h.2⟩,fun st x y h=>QN b x y st h⟩
theorem eqE(b:Nat):Vj 83 [.pt b 0] (PcE b):=
 ⟨fun st st' h hk=>⟨aAr h.1 hk.next,(hk.H b h.1).trans h.2⟩,fun st x y h=>MZ b x y st h⟩
theorem Vx(l:List Int):(l.map U.Nu.mk).map U.Nu.id=l:=by rw[aAX];exact aEG l
theorem UN(D0:List Int)(q:Nat)(v7:FuncId)(IQ:List LV)(Pc:St->Prop)(st:St)(z8:U.gU v7 IQ q Pc)(P8:Pc st)(hq:q<st.next)(hl:D0.length<=100000)(hH:st.H q=.box 34 1 (us D0)):
 aB prog 75 [.ms q 0 D0.length,.fn (.func v7) IQ] st fun r st'=>∃ D,D.Perm D0/\D.Pairwise (fun x y=>x<=y)/\st'.H q=.box 34 1 (us D)/\bM q st st':=by
 have hc:=U.KT (D0.map U.Nu.mk) q D0.length v7 IQ Pc st z8 P8 hq (aAB _) oO (by rw[hH];unfold U.eds;rw[Vx]);refine zN func75 ntmps75 [] ?_
 (refine xj0 ?_;intro J hJ)
 refine qE hc sS ?_;rintro r s1 ⟨D,h1,h2,h3,h4⟩;refine dA hJ ?_;refine⟨trivial,D.map U.Nu.id,?_,aAV.2 h2,h3,h4⟩;have:=h1.map U.Nu.id
 rwa [Vx]at this
theorem VE(D0:List Ed)(q:Nat)(v7:FuncId)(IQ:List LV)(Pc:St->Prop)(st:St)(z8:gU v7 IQ q Pc)(P8:Pc st)(hq:q<st.next)(hl:D0.length<=100000)(hH:st.H q=.box 36 3 (eds D0)):
 aB prog 80 [.ms q 0 D0.length,.fn (.func v7) IQ] st fun r st'=>∃ D,D.Perm D0/\Ris D/\st'.H q=.box 36 3 (eds D)/\bM q st st':=by
 have hc:=KT D0 q _ v7 IQ Pc st z8 P8 hq rfl hl hH;refine zN func80 ntmps80 [] ?_
 (refine xj0 ?_;intro J hJ)
 refine qE hc sS ?_;rintro r s1 h;refine dA hJ ?_;exact⟨trivial,h⟩
theorem Uv(l:List Ed)(t:Nat)(st:St)(hl:l.length<=1000)(hn:(l.map (·.id)).Nodup):
 aB prog 43 [.sl t l.length (eds l),.fn (.func 44) []] st fun r st'=>(∃ E:List Ed,E.Perm l/\(E.map (·.id)).Pairwise (· < ·)/\r=.sl 0 E.length (eds E))/\aA st st':=by
 refine cH ?_;have hel:=aI l;refine zN func43 ntmps43 [.tmp 4] ?_
 (refine xj0 ?_;intro J hJ)
 refine qE (UE l t _ oO) sS ?_;rintro r s1 ⟨q,rfl,hq1,N7,V5,c8⟩;have I7:=c8.next;simp only[aG]at I7 hq1;have hF1:PcE st.next s1:=⟨oO,by rw[c8.H _ sS];simp⟩;have k1:aA st s1:=(aA.new _ _).trans c8
 (refine mS hJ ?_;intro J hJ)
 refine qE (VE l q _ [.pt st.next 0] (PcE st.next) s1 (Ya st.next q oO) hF1 N7 oO V5) sS ?_;rintro r s2 ⟨D,hp,hr,hB2,L6⟩;have N8:=L6.1;have lD:=hp.length_eq;have hF2:=(Ya st.next q oO).keep _ _ hF1 L6;have k2:aA st s2:=⟨by have:=k1.next;omega,fun l hl=>(L6.2 l oO (by have:=k1.next;omega)).trans (k1.H l hl)⟩;have dG:(D.map (·.id)).Pairwise (· < ·):=by
  have hnd:(D.map (·.id)).Nodup:=(hp.map (·.id)).nodup_iff.2 hn;have hr2:(D.map (·.id)).Pairwise (·<=·):=by rw[aAV];exact hr
  refine(List.Pairwise.and hr2 hnd).imp fun h=>?_;have:=h.1;have:=h.2;omega
 have Zo:∀ j,j+1<D.length->(D.getD (j+1) ed0).id≠(D.getD j ed0).id:=fun j hj=>by have:=aAz.1 dG j (j+1) (by simp;omega) (by simpa using hj) oO;simp only[aCt]at this;rw[aAg,aAg,aAh hj,aAh (by omega:j<D.length)];simp only[Option.getD_some];omega
 (refine mS hJ ?_;intro J hJ)
 refine qE (RQ D q _ [.pt st.next 0] (PcE st.next) s2 (eqE st.next) hF2 oO Zo oO hB2) (sF1 lD) ?_;rintro r s3 ⟨rfl,u5⟩;have Z3:=(u5.H q oO).trans hB2;have helD:=aI D;refine dA hJ ?_;exact⟨q,D.length,⟨rfl,rfl⟩,36,3,eds D,Z3,oO,⟨D,hp,dG,rfl,by rw[aAv oO]⟩,(k2.trans u5).set oO _⟩
end Aw
namespace Aw.Cu
open Go Go.RowKit Pl Aw
def sN(c:List Int):Nat->List Int
 |0=>[]
 |k+1=>if k=0\/c.getD k 0≠c.getD (k-1) 0 then sN c k++[c.getD k 0]else sN c k
structure Rsn(c:List Int)(k:Nat)(l:List Int):Prop where
 lt:l.Pairwise (· < ·)
 mem:∀ y,y∈l↔∃ j,j<k/\c.getD j 0=y
theorem BG{c:List Int}(h:c.Pairwise (·<=·)):∀ k,k<=c.length->Rsn c k (sN c k)
 |0,_=>⟨.nil,fun y=>by simp[sN]⟩
 |k+1,hk=>by
  have ih:=BG h k oO;have u7:∀ j,j<k->c.getD j 0<=c.getD (k-1) 0:=fun j hj=>by
   rcases aAS j (k-1)with h1|h1
   .rw[aAg,aAh oO,aAg,aAh oO];exact aAz.1 h j (k-1) oO oO h1
   .obtain rfl:j=k-1:=oO;exact aDd _
  have hle2:0<k->c.getD (k-1) 0<=c.getD k 0:=fun h0=>by rw[aAg,aAh oO,aAg,aAh oO];exact aAz.1 h (k-1) k oO oO oO
  unfold sN
  split
  .rename_i h0;refine⟨?_,fun y=>?_⟩
   .rw[aBO];refine⟨ih.lt,aDo _ _,fun a ha b hb=>?_⟩;rw[aAk]at hb;subst hb;obtain⟨j,hj,rfl⟩:=(ih.mem a).1 ha;have:=u7 j hj;have:=hle2 oO;rcases h0 with h0|h0
    .omega
    .omega
   .rw[aAd,aAk,ih.mem];constructor
    .rintro(⟨j,hj,rfl⟩|rfl)
     .exact⟨j,oO,rfl⟩
     .exact⟨k,oO,rfl⟩
    .rintro⟨j,hj,rfl⟩;rcases aAS j k with h1|h1
     .exact .inl ⟨j,h1,rfl⟩
     .obtain rfl:j=k:=oO;exact .inr rfl
  .rename_i h0;refine⟨ih.lt,fun y=>?_⟩;rw[ih.mem];constructor
   .rintro⟨j,hj,rfl⟩;exact⟨j,oO,rfl⟩
   .rintro⟨j,hj,rfl⟩;rcases aAS j k with h1|h1
    .exact⟨j,h1,rfl⟩
    .obtain rfl:j=k:=oO;exact⟨j-1,oO,oO⟩
def cpt(c:List Int):List Int:=sN c c.length
theorem Wk{c:List Int}(h:c.Pairwise (·<=·)):(cpt c).Pairwise (· < ·):=(BG h _ (aAm _)).lt
theorem TY{c:List Int}(h:c.Pairwise (·<=·))(y:Int):y∈cpt c↔y∈c:=by
 unfold cpt;rw[(BG h _ (aAm _)).mem];constructor
 .rintro⟨j,hj,rfl⟩;rw[aAg,aAh hj];exact aAI _
 .intro hy;obtain⟨j,hj,rfl⟩:=aAC hy;exact⟨j,hj,by rw[aAg,aAh hj];rfl⟩
theorem AM(c:List Int):∀ k,k<=c.length->(∀ j,0<j->j<k->c.getD j 0≠c.getD (j-1) 0)->sN c k=c.take k
 |0,_,_=>rfl
 |k+1,hk,h=>by
  have ih:=AM c k oO fun j h1 h2=>h j h1 oO;have hg:c.take (k+1)=c.take k++[c.getD k 0]:=by rw[aAg,aAh oO];exact aAs oO
  unfold sN;rw[aAj,ih,hg];rcases aCK k with h0|h0
  .exact .inl h0
  .exact .inr (h k h0 oO)
theorem NO(c:List Int)(h:c.length<2):cpt c=c:=by unfold cpt;rw[AM c c.length (aAm _) fun j h1 h2=>by omega,aBe]
theorem Sn(c:List Int)(q:Nat)(v7:FuncId)(IQ:List LV)(Pc:St->Prop)(st:St)(heq:Vs v7 IQ Pc)(o9:∀ s s',Pc s->bM q s s'->Pc s')(P8:Pc st)(hl:c.length<=100000)(hq:q<st.next)(hH:st.H q=.box 34 1 (us c)):
 aB prog 78 [.ms q 0 c.length,.fn (.func v7) IQ] st fun r st'=>r=.ms q 0 (cpt c).length/\(∃ cs,st'.H q=.box 34 1 (us (cpt c)++cs))/\bM q st st':=by
 refine zN func78 ntmps78 [.tmp 4] ?_;by_cases h2:c.length<2
 .have h2':(c.length:Int)<2:=oO;have hc:=NO c h2;rw[hc];refine xw2 h2' h2 ?_;exact⟨⟨[],by rw[hH,aAO]⟩,bM.refl _ _⟩
 have h2':¬(c.length:Int)<2:=oO;refine xw2 h2' h2 ?_;refine qL (fun z fr st2=>∃ k:Nat,0<k/\k<=c.length/\z=c.length-k/\fr 0=.ms q 0 c.length/\fr 1=.fn (.func v7) IQ/\fr 5=i k/\aA st st2/\∀ j,0<j->j<k->c.getD j 0≠c.getD (j-1) 0) (c.length-1) ?_ ?_
 .exact⟨1,oO,oO,rfl,sS,sS,sS,aA.refl _,fun j h1 h2=>by omega⟩
 rintro z fr st2 ⟨k,N9,hkl,rfl,f0,f1,f5,hks,x8⟩ JJ hJJ;by_cases dG:k<c.length;rotate_left
 .clear hJJ;have hc:cpt c=c:=by unfold cpt;rw[AM c c.length (aAm _) fun j h1 h2=>x8 j h1 oO,aBe]
  rw[hc];refine xw3 f0 f5 dG ?_;exact⟨⟨[],by rw[hks.H q hq,hH,aAO]⟩,(bM.refl q st).keeps hks⟩
 obtain⟨k1,rfl⟩:∃ k1,k=k1+1:=⟨k-1,oO⟩;have hd:=qG c (k1+1) dG;have y9:=qG c k1 oO;have w1:IntKind.i64.wrap (k1:Int)=(k1:Int):=zW;have w2':IntKind.i64.wrap ((k1:Int)+1+1)=(k1:Int)+1+1:=wrap_i64 _ oO oO;have hkl1:k1<c.length:=oO;have z7:(k1:Int)+1<c.length:=oO;have L0:c.getD (k1+1) 0≠c.getD k1 0->∀ j,0<j->j<k1+1+1->c.getD j 0≠c.getD (j-1) 0:=fun h j h1 h3=>by
  rcases aAS j (k1+1)with h4|h4
  .exact x8 j h1 h4
  .obtain rfl:j=k1+1:=oO;exact h
 have hid:=AM c (k1+1) oO x8;have L5:c.getD (k1+1) 0=c.getD k1 0->sN c (k1+1+1)=c.take (k1+1):=fun h=>by
  rw[sN,aAa,hid];rintro(h3|h3)
  .omega
  .exact h3 h
 have U5:=(hks.H q hq).trans hH;have hPc2:=heq.1 _ _ P8 hks;have hc:=heq.2 st2 (c.getD (k1+1) 0) (c.getD k1 0) hPc2;generalize hx:c.getD (k1+1) 0=x at *;generalize hy:c.getD k1 0=y at *;refine xw4 f0 f5 dG z7 ?_
 (refine zS [] [q] [0,2,4,6,8,10,12,14,16,18,21] ?_;intro J hJ;simp[f0,f1,f5,dG,z7,hd,y9,w1,hkl1,U5];(repeat refine ca ?_))
 refine aN hc ?_;rintro r s3 ⟨rfl,u5⟩;have hH3:=(u5.H q (aAr hq hks.next)).trans U5;have hPc3:=heq.1 _ _ hPc2 u5;have hk13:=hks.trans u5;refine⟨fun _=>by simp[hH3,U5],?_⟩
 (apply bI;simp[hH3,U5];refine zJ hJ ?_)
 by_cases G8:x=y;rotate_left
 .refine xw3 f5 w2' G8 ?_;exact hJJ (c.length-(k1+1+1)) _ _ oO ⟨k1+1+1,oO,oO,rfl,sF1 f0,sF1 f1,sS,hk13,L0 G8⟩
 clear hJJ L0;have L5:=L5 G8;clear w2' hid x8 hc;refine EW f0 f5 dG z7 hd y9 w1 hkl1 G8 hH3 ?_;refine qL (fun z fr s=>∃(p w:Nat) (d:List Int),k1+1+(p+1)<=c.length/\z=c.length-(k1+1+(p+1))/\w=(sN c (k1+1+(p+1))).length/\w<=k1+1+p/\fr 0=.ms q 0 c.length/\fr 1=.fn (.func v7) IQ/\fr 5=i w/\fr 6=.ms q (k1+1) (c.length-(k1+1))/\fr 7=i (p+1:Nat)/\d.length=c.length/\d.take w=sN c (k1+1+(p+1))/\d.drop (k1+1+p)=c.drop (k1+1+p)/\s.H q=.box 34 1 (us d)/\Pc s/\bM q st s) (c.length-(k1+1+1)) ?_ ?_
 .refine⟨0,k1+1,c,oO,oO,by rw[L5];simp;omega,oO,sF1 f0,sF1 f1,sF1 f5,sS,sS,rfl,L5.symm,rfl,hH3,hPc3,(bM.refl q st).keeps hk13⟩
 clear hd y9 w1 z7 hx hy G8 L5 f0 f1 f5 fr hH3 hPc3 hk13 u5 U5 hPc2 hks s3 st2;rintro z fr s ⟨p,w,d,S6,rfl,hw,hwl,f0,f1,f5,f6,f7,hdl,hdt,hdd,hsH,hPs,L6⟩ JJ hJJ;by_cases Y9:k1+1+(p+1)<c.length
 .have e1:∀ j,k1+1+p<=j->d.getD j 0=c.getD j 0:=fun j hj=>by
   have h1:(d.drop (k1+1+p)).getD (j-(k1+1+p)) 0=(c.drop (k1+1+p)).getD (j-(k1+1+p)) 0:=by rw[hdd]
   simp only[aAg,aDk]at h1 ⊢;rw[show k1+1+p+(j-(k1+1+p))=j by omega]at h1;exact h1
  have hd:=qG d (k1+1+(p+1)) oO;have y9:=qG d (k1+1+p) oO;rw[e1 _ oO]at hd;rw[e1 _ oO]at y9;have H8:sN c (k1+1+(p+1)+1)=if c.getD (k1+1+(p+1)) 0≠c.getD (k1+1+p) 0 then sN c (k1+1+(p+1))++[c.getD (k1+1+(p+1)) 0]else sN c (k1+1+(p+1)):=by
   rw[sN,show k1+1+(p+1)-1=k1+1+p by omega];by_cases h:c.getD (k1+1+(p+1)) 0≠c.getD (k1+1+p) 0
   .rw[aAj (.inr h),aAj h]
   .rw[aAa (by rintro(h1|h1);omega;exact h h1),aAa h]
  have hdd2:d.drop (k1+1+(p+1))=c.drop (k1+1+(p+1)):=by
   have h1:(d.drop (k1+1+p)).drop 1=(c.drop (k1+1+p)).drop 1:=by rw[hdd]
   rwa [aCE,aCE,show k1+1+p+1=k1+1+(p+1) by omega]at h1
  have w1:IntKind.i64.wrap (p:Int)=(p:Int):=zW;have w2:IntKind.i64.wrap ((p:Int)+1+1)=(p:Int)+1+1:=zW;have w3:=qN w oO;have hA:p+1<c.length-(k1+1):=oO;have hA':(p:Int)+1<(c.length-(k1+1):Nat):=oO;have hB:p<c.length-(k1+1):=oO;have hW:w<c.length:=oO;have hc:=heq.2 s (c.getD (k1+1+(p+1)) 0) (c.getD (k1+1+p) 0) hPs;generalize c.getD (k1+1+(p+1)) 0=x at *;generalize c.getD (k1+1+p) 0=y at *;refine xw6 f0 f5 f6 f7 hA hA' ?_
  (refine zS [] [q] [0,2,4,6,8,10,12,14,16,18,21,22] ?_;intro J hJ;simp[f0,f1,f5,f6,f7,hA,hA',hB,hd,y9,w1,hdl,hsH];(repeat refine ca ?_))
  refine aN hc ?_;rintro r s3 ⟨rfl,u5⟩;have hqs:q<s.next:=aAr hq L6.1;have hH3:=(u5.H q hqs).trans hsH;have hP3:=heq.1 _ _ hPs u5;have hof3:=L6.keeps u5;refine⟨fun _=>by simp[hH3,hsH],?_⟩
  (apply bI;simp[hH3,hsH];refine zJ hJ ?_)
  by_cases G8:x=y
  .rw[aAa (fun h=>h G8)]at H8;refine xw5 f5 f6 f7 w2 G8 ?_;refine hJJ (c.length-(k1+1+(p+1+1))) _ _ oO ⟨p+1,w,d,oO,rfl,?_,oO,sF1 f0,sF1 f1,sF1 f5,sF1 f6,sS,hdl,?_,hdd2,hH3,hP3,hof3⟩
   .rw[show k1+1+(p+1+1)=k1+1+(p+1)+1 by omega,H8];exact hw
   .rw[show k1+1+(p+1+1)=k1+1+(p+1)+1 by omega,H8];exact hdt
  .rw[aAj G8]at H8;have Y0:=Fu d w x oO;refine PL f0 f5 f6 f7 hA hA' hB hd y9 w1 w2 w3 hdl G8 hW hH3 ?_;refine hJJ (c.length-(k1+1+(p+1+1))) _ _ oO ⟨p+1,w+1,d.set w x,oO,rfl,?_,oO,sF1 f0,sF1 f1,sS,sF1 f6,sS,sF1 hdl,?_,?_,?_,?_,?_⟩
   .rw[show k1+1+(p+1+1)=k1+1+(p+1)+1 by omega,H8,aAn,<- hw];rfl
   .rw[show k1+1+(p+1+1)=k1+1+(p+1)+1 by omega,H8,RV d w x oO,hdt]
   .rw[show k1+1+(p+1)=k1+1+p+1 by omega,set_drop d w (k1+1+p) x oO];rw[show k1+1+p+1=k1+1+(p+1) by omega];exact hdd2
   .simp[Y0]
   .exact o9 _ _ hP3 ((bM.refl q _).set _)
   .exact hof3.set _
 clear hJJ;have N4:k1+1+(p+1)=c.length:=oO;rw[N4]at hw hdt;have hcw:(cpt c).length=w:=hw.symm;have hct:d.take w=cpt c:=hdt;have hA:¬p+1<c.length-(k1+1):=oO;have hA':¬(p:Int)+1<(c.length-(k1+1):Nat):=oO;have hW:w<=c.length:=oO;rw[hcw,<- hct];refine xw9 f0 f5 f6 f7 hA hA' hdl hW hsH ?_;exact L6.set _
end Aw.Cu
namespace Aw
open Go Go.RowKit Pl
def wI(x:Int):List Int->List Int
 |[]=>[x]
 |y::l=>if x<y then x::y::l else if y<x then y::wI x l else y::l
theorem rI(x z:Int):∀ l:List Int,z∈wI x l↔z=x\/z∈l
 |[]=>by simp[wI]
 |y::l=>by
  unfold wI
  split
  .simp
  .split
   .simp only[aAe,rI x z l]
    grind
   grind
theorem zR(x:Int):∀ l:List Int,l.Pairwise (· < ·)->(wI x l).Pairwise (· < ·)
 |[],_=>by simp[wI]
 |y::l,h=>by
  obtain⟨h1,h2⟩:=aBk.1 h;unfold wI
  split
  .grind [List.pairwise_cons]
  .split
   .refine aBk.2 ⟨fun z hz=>?_,zR x l h2⟩
    grind [rI]
   omega
def vsF:List Ed->List Int
 |[]=>[]
 |e::E=>wI e.a (wI e.b (vsF E))
theorem kQ:∀ E,(vsF E).Pairwise (· < ·)
 |[]=>.nil
 |e::E=>zR _ _ (zR _ _ (kQ E))
theorem bA(v:Int):∀ E,v∈vsF E↔∃ e∈E,v=e.a\/v=e.b
 |[]=>by simp[vsF]
 |e::E=>by
  unfold vsF;rw[rI,rI,bA v E]
  grind
def fN(E:List Ed):List Int:=E.flatMap fun e=>[e.a,e.b]
theorem xS(E:List Ed):(fN E).length=E.length*2:=by
 induction E with
 |nil=>rfl
 |cons e E ih=>grind [fN]
theorem OW(v:Int)(E:List Ed):v∈fN E↔∃ e∈E,v=e.a\/v=e.b:=by simp[fN]
theorem KB(E:List Ed)(k:Nat)(hk:k<E.length):fN (E.take (k+1))=fN (E.take k)++[(E.getD k ed0).a,(E.getD k ed0).b]:=by
 grind [List.take_succ_eq_append_getElem,fN]
theorem Ty(l:List Int)(t:Nat)(st:St)(hl:l.length<=1000):
 aB prog 41 [.sl t l.length (us l),.fn (.func 42) []] st fun r st'=>(∃ V:List Int,V.Pairwise (· < ·)/\(∀ v,v∈V↔v∈l)/\r=.sl 0 V.length (us V))/\aA st st':=by
 refine cH ?_;refine zN func41 ntmps41 [.tmp 4] ?_
 (refine xj0 ?_;intro J hJ)
 refine qE (Ep l t _ oO) sS ?_;rintro r s1 ⟨q,rfl,hq1,N7,V5,c8⟩;have I7:=c8.next;simp only[aG]at I7 hq1;have hF1:PcU st.next s1:=⟨oO,by rw[c8.H _ sS];simp⟩;have k1:aA st s1:=(aA.new _ _).trans c8
 (refine mS hJ ?_;intro J hJ)
 refine qE (UN l q _ [.pt st.next 0] (PcU st.next) s1 (Ws st.next q oO) hF1 N7 oO V5) sS ?_;rintro r s2 ⟨D,hp,hr,hB2,L6⟩;have N8:=L6.1;have lD:=hp.length_eq;have hF2:=(Ws st.next q oO).keep _ _ hF1 L6;have k2:aA st s2:=⟨oO,fun l hl=>(L6.2 l oO oO).trans (k1.H l hl)⟩;have hc1:=Cu.Wk hr;have hc2:=fun v=>Cu.TY hr v
 (refine mS hJ ?_;intro J hJ)
 refine qE (Cu.Sn D q _ [.pt st.next 0] (PcU st.next) s2 (eqU st.next) (Ws st.next q oO).keep hF2 oO oO hB2) (sF1 lD) ?_;rintro r s3 ⟨rfl,⟨cs,Z3⟩,hof3⟩;have k3:aA st s3:=⟨by have:=k2.next;have:=hof3.1;omega,fun l hl=>(hof3.2 l oO oO).trans (k2.H l hl)⟩;generalize Cu.cpt D=V at *;refine dA hJ ?_;exact⟨q,V.length,⟨rfl,rfl⟩,34,1,us V++cs,Z3,sS,⟨V,hc1,fun v=>(hc2 v).trans hp.mem_iff,rfl,by grind⟩,k3.set oO _⟩
theorem Yf(es:List Ed)(t1 t2:Nat)(st:St)(he:es.length<=200)(hen:es.Pairwise fun x y=>x.id<y.id):
 aB prog 18 [.sl t1 (fN es).length (us (fN es)),.sl t2 es.length (eds es)] st fun r st'=>r=.ag (grL ⟨vsF es,es⟩)/\aA st st':=by
 have hel:=xS es;have hm:(es.map (·.id)).Pairwise (· < ·):=by rw[aAV];exact hen
 refine zN func18 ntmps18 [.cell 4 25] ?_
 (refine xj0 ?_;intro J hJ)
 refine qE (Ty (fN es) t1 _ oO) sS ?_;rintro r s1 ⟨⟨V,hV1,hV2,rfl⟩,c8⟩;have hV:V=vsF es:=AR id (by grind) (by grind [kQ]) fun v=>by grind [OW,bA]
 subst hV;have I7:=c8.next;simp only[aG]at I7;have V3:s1.H st.next=.box 25 2 [.nil,.nil]:=by rw[c8.H _ sS];simp
 refine dA hJ ?_;refine qE (Uv es t2 _ oO (hm.imp fun h=>by omega)) sS ?_;rintro r s2 ⟨⟨E,hE1,hE2,rfl⟩,o8⟩;have hE:=AR (·.id) hE2 hm fun x=>hE1.mem_iff;subst hE;have N8:=o8.next;have hG2:=(o8.H st.next oO).trans V3;refine pN hJ hG2 ?_;exact(((aA.new _ _).trans c8).trans o8).set oO _
def Lv(g:Gr)(h:Sh)(at':Nat)(w:List Int):Prop:=at' < h.F.length/\2<=w.length/\w.length<=200/\(∀ v∈w,v∈g.vs)/\(h.F.getD at' []).length<=1000/\w.getD 0 0∈h.F.getD at' []/\w.getD (w.length-1) 0∈h.F.getD at' []/\h.F.length<300
instance (g:Gr) (h:Sh) (a:Nat) (w:List Int):Decidable (Lv g h a w):=by unfold Lv;infer_instance
def yM(g:Gr)(h:Sh):Option (Option Sh):=(Mi g h.L h.on).bind fun B=>
 if(∀ b∈B,∀ v∈b.ends,v∈g.vs)/\B.length<=300/\∀ v∈(bG h.F B (⟨[],[]⟩,-1)).1.ends,v∈g.vs then
  if(bG h.F B (⟨[],[]⟩,-1)).2<0 then some none
  else(Mm g (bG h.F B (⟨[],[]⟩,-1)).1).bind fun w=>if Lv g h (bG h.F B (⟨[],[]⟩,-1)).2.toNat w then some (some (gT h w (bG h.F B (⟨[],[]⟩,-1)).2.toNat))else none
 else none
def pV(g:Gr):Nat->Sh->Option (Option Sh)
 |0,_=>none
 |n+1,h=>if h.L.length<g.es.length then(yM g h).bind fun o=>match o with
   |none=>some none
   |some h'=>pV g n h'
  else some (some h)
def pU(E:List Ed):Option (Option (List (List Int))):=
 match E with
 |[e]=>some (some [[e.a,e.b]])
 |E=>if(vsF E).length<=64/\E.length<=200 then
   if(3:Int)*(vsF E).length-6<E.length then some none
   else(newF ⟨vsF E,E⟩).bind fun h=>(pV ⟨vsF E,E⟩ 1000 h).map fun o=>o.map (·.F)
  else none
structure DrE(E:List Ed):Prop where
 ids:E.Pairwise (fun x y=>x.id<y.id)
 pos:∀ x∈E,1<=x.id/\x.id<=1048576
 ne:∀ x∈E,x.a≠x.b
theorem DrE.gp{E:List Ed}(h:DrE E)(h1:(vsF E).length<=64)(h2:E.length<=200):GP ⟨vsF E,E⟩:=
 ⟨⟨⟨kQ E,fun x hx=>⟨(bA _ _).2 ⟨x,hx,.inl rfl⟩,(bA _ _).2 ⟨x,hx,.inr rfl⟩⟩⟩,h.ids,h.pos,h.ne⟩,h1,(by grind)⟩
def drR:Option (List (List Int))->LV
 |none=>.tu [.sl 0 0 [],bb false]
 |some F=>.tu [.sl 0 F.length (gJ F),bb true]
theorem ZH{E:List Ed}(hE:DrE E){o:Option (List (List Int))}(ho:pU E=some o)(st:St)(M3:0<st.next):
 aB prog 61 [.sl 0 E.length (eds E)] st fun r st'=>r=drR o/\aA st st':=by
 refine cZ ?_;have hel:=aI E;by_cases h1:E.length=1
 .obtain⟨⟨e1,ea,eb⟩,rfl⟩:∃ e,E=[e]:=aDw.1 h1;have:o=some [[ea,eb]]:=by have:some (some [[ea,eb]])=some o:=ho;exact(aBn this).symm
  subst this;have hd:eds [(⟨e1,ea,eb⟩:Ed)]=[u e1,u ea,u eb]:=rfl;refine zN func61 ntmps61 [.tmp 2,.tmp 3] ?_;refine xw1 hd ?_
  (refine zS [] [] [0,2,4,6,8,10,12,14,17,18,20,22] ?_;intro J hJ;simp[hd];(refine zJ hJ ?_;clear hJ J))
  refine xw0 ?_;exact⟨by simp[z0,z0L,drR,gJ],(aA.new _ _).trans (aA.new _ _)⟩
 have hb1:((E.length:Int)==1)=false:=by rw[aDe];omega
 have ho2:(if(vsF E).length<=64/\E.length<=200 then
  if(3:Int)*(vsF E).length-6<E.length then some none
  else(newF ⟨vsF E,E⟩).bind fun h=>(pV ⟨vsF E,E⟩ 1000 h).map fun o=>o.map (·.F)
  else none)=some o:=by
  rcases E with _|⟨e,_|⟨e2,E⟩⟩
  .exact ho
  .simp at h1
  .exact ho
 clear ho
 split at ho2
 case isFalse=>cases ho2
 rename_i hq;obtain⟨hq1,N7⟩:=hq;have hg:=hE.gp hq1 N7;have Y8:=xS E;refine zN func61 ntmps61 [.tmp 2,.tmp 3] ?_;refine xw1 hb1 ?_;refine AD 4 34 1 sS ?_;have e0:¬st.next=0:=oO;refine bD 29 28 30 40 (E.length) (fun j fr st2=>fr 0=.sl 0 E.length (eds E)/\fr 27=.sl 0 E.length (eds E)/\aA st st2/\∃ t,fr 4=.sl t (fN (E.take j)).length (us (fN (E.take j)))/\Fb t 34 1 (fN (E.take j)).length st st2) ?_ ?_ ?_
 .exact⟨sS,sS,aA.new _ _,st.next,by simp[fN],e0,aAm _,sS,by simp[fN]⟩
 .rintro j fr s dG ⟨f0,f27,o9,t,f4,a1,a2,a3,a4⟩ fi fn JO hJO;have hd:=aL E j dG;have u5:j*3<E.length*3:=oO;have C9:=KB E j dG;have hFl:=xS (E.take j);rw[aAw]at hFl;generalize E.getD j ed0=x at *;generalize fN (E.take j)=F at *;obtain⟨d,a,b⟩:=x;simp only at C9;have c1:¬t=s.next:=oO;have c1b:¬t=s.next+1:=oO;have c4:¬s.next=t:=oO;have c5:¬s.next+1=t:=oO
  (repeat' (first|apply qS|(refine zE ?_;intro J hJ;simp[f4,f27,fi,fn,hd,hel,u5,dG,a4,a1,c1,c1b,c4,c5];(repeat refine ca ?_);(refine zJ hJ ?_;clear hJ J))))
  refine hJO _ _ (sF1 fi) (sF1 fn) ⟨sF1 f0,sF1 f27,?_,s.next+2,by rw[C9];simp,oO,oO,sS,by rw[C9];simp⟩;exact(((o9.trans (aA.new _ _)).trans (aA.new _ _)).set a2 _).trans (aA.new _ _)
 .rintro fr s ⟨f0,f27,o9,t,f4,a1,a2,a3,a4⟩;rw[aBe]at f4 a4
  (refine xj2 f0 f4 ?_;intro J hJ)
  refine qE (Yf E t 0 s N7 hE.ids) sS ?_;rintro r s1 ⟨rfl,c8⟩;have c8:=o9.trans c8;have w1:IntKind.i64.wrap (3*((vsF E).length:Int))=3*((vsF E).length:Int):=zW;have w2:IntKind.i64.wrap (3*((vsF E).length:Int)-6)=3*((vsF E).length:Int)-6:=zW;have hel2:=aI E;by_cases hc:(3:Int)*(vsF E).length-6<E.length
  .rw[aAj hc]at ho2;obtain rfl:none=o:=aBn ho2;refine sL hJ w1 w2 hc ?_;exact⟨by simp[z0,z0L,drR],c8.trans (aA.new _ _)⟩
  rw[aAa hc]at ho2;have o8:=c8.trans (aA.new s1 (.box 25 2 (grL ⟨vsF E,E⟩)));have hG:(s1.new (.box 25 2 (grL ⟨vsF E,E⟩))).H s1.next=.box 25 2 (grL ⟨vsF E,E⟩):=sS;obtain⟨h,hh,ho3⟩:=aBw.1 ho2;obtain⟨o2,Y9,ho4⟩:=aBj.1 ho3
  (refine E3 hJ w1 w2 hc ?_;intro J hJ)
  refine qE (SL hg hh _) sS ?_;rintro r s2 ⟨S,nl,pl,ll,fl,le,rfl,hS,⟨b1,b2,b3⟩,u5⟩;have hG2:s2.H s1.next=.box 25 2 (grL ⟨vsF E,E⟩):=by rw[u5.H _ sS];exact hG
  have I7:=c8.next;simp only[aG]at b1 b2 b3;have o8:=o8.trans u5;refine dA hJ ?_;refine qL (fun n fr st2=>∃ h fl le,pV ⟨vsF E,E⟩ n h=some o2/\fr 7=.pt s1.next 0/\fr 8=.pt S 0/\ShA ⟨vsF E,E⟩ h.L h.on h.F S nl pl ll fl le st2/\s1.next<S/\s1.next<ll/\s1.next<fl/\st2.H s1.next=.box 25 2 (grL ⟨vsF E,E⟩)/\aA st st2) 1000 ?_ ?_
  .exact⟨h,fl,le,Y9,sS,sS,hS,oO,oO,oO,hG2,o8⟩
  clear hS hG2 o8 u5 Y9 hG f0 f27 f4 fr b1 b2 b3 hh ho2 ho3 h;rintro n fr s3 ⟨h,fl,le,Y9,f7,f8,hS,b1,b2,b3,hG,hk⟩ JJ hJJ;obtain _|n:=n
  .cases Y9
  have J6:=hS.r.box;have hsl:=hS.r.lt;have hL:=hS.r.lin;have hkl:le.length=h.L.length:=by rw[<- aAB (f:=(·.1)),hS.r.key,aAB]
  unfold pV at Y9;by_cases dG:h.L.length<E.length
  .rw[aAj dG]at Y9;have z7:((le.length:Nat):Int)<E.length:=oO;obtain⟨so,hso,Y9⟩:=aBw.1 Y9;unfold yM at hso;obtain⟨B,hB,hso⟩:=aBw.1 hso
   split at hso
   case isFalse=>cases hso
   rename_i hc;obtain⟨hc1,hc2,hc3⟩:=hc
   (refine xj6 f7 f8 J6 hL hG z7 ?_;intro J hJ)
   refine xcP (TX hg hS hB hc1 hc2) ?_;generalize bG h.F B (⟨[],[]⟩,-1)=ch at *;obtain⟨b,at'⟩:=ch;simp only at hso hc3;by_cases I0:at' < 0
   .rw[aAj I0]at hso;obtain rfl:none=so:=aBn hso;simp only at Y9;obtain rfl:none=o2:=aBn Y9;obtain rfl:none=o:=ho4;refine pN hJ I0 ?_;exact⟨by simp[z0,z0L,drR],hk.trans (aA.new _ _)⟩
   rw[aAa I0]at hso;obtain⟨w,hw,hso⟩:=aBw.1 hso
   split at hso
   case isFalse=>cases hso
   rename_i hlay;obtain⟨y1,y2,y3,y4,y5,y6,y7,y8⟩:=hlay;obtain rfl:=aBn hso;simp only at Y9;obtain⟨at',rfl⟩:∃ k:Nat,at'=(k:Int):=⟨at'.toNat,oO⟩;simp only[Int.toNat_natCast]at *;have hneg':¬(at':Int)<0:=oO
   (refine JP hJ hneg' f8 ?_;intro J hJ)
   have I3:=aA.new s3 (.box 138 2 [wv (mk (vsF E) b.inner),wv (mk (vsF E) b.ends)]);refine xcP (Zn hg (hS.keep I3) hc3 hw) ?_ (by simp[TO]);refine dA hJ ?_;refine qE (A8 hg (hS.keep I3) y1 y2 y3 y4 y5 y6 y7 y8 sS) sS ?_;rintro r s4 ⟨fl2,le2,hS4,U4,hkm⟩;have hkn:=hkm.next;simp only[aG]at hkn U4;have hk34:=hkm.H
   have hKK:aA st s4:=⟨by have:=hk.next;omega,fun l hl=>by
    have:=hk.next;rw[hk34 l (by simp;omega) (by simp;omega),cE,aAa oO]
    exact hk.H l hl⟩
   have hG4:s4.H s1.next=.box 25 2 (grL ⟨vsF E,E⟩):=by rw[hk34 _ (by simp;omega) (by simp;omega),cE,aAa oO];exact hG
   refine dA hJ ?_;refine hJJ n _ _ oO ⟨gT h w at',fl2,le2,Y9,sF1 f7,sF1 f8,hS4,oO,oO,oO,hG4,hKK⟩
  .rw[aAa dG]at Y9;obtain rfl:some h=o2:=aBn Y9;obtain rfl:some h.F=o:=ho4;have z7:¬((le.length:Nat):Int)<E.length:=oO;clear hJJ;refine xw6 f7 f8 J6 hL hG z7 ?_;refine AD 11 22 1 sS ?_;have hF:=hS.fac;have U4:=qI (vsF E) h.F;have hfw:=hS.few;have hflt:=hS.flt;refine bD 82 81 83 91 (h.F.length) (fun j fr st2=>fr 80=.ms fl 0 h.F.length/\st2.H fl=.box 144 2 (gW (vsF E) h.F)/\fl<st2.next/\aA st st2/\∃ t,fr 11=.sl t j (gJ (h.F.take j))/\Fb t 22 1 j st st2) ?_ ?_ ?_
   .exact⟨sS,by rw[cE,aAa oO];exact hF,by simp;omega,hk.trans (aA.new _ _),s3.next,by simp[gJ],by have:=hk.next;omega,hk.next,sS,sS⟩
   .clear hF hflt hG J6 hL z7 f7 f8 hk;rintro j fr s dG ⟨f80,hF,hflt,hk,t,f11,t0,t1,t2,tH⟩ fi fn JO hJO;have hd:=rQ (vsF E) h.F j dG;have hjj:j*2<h.F.length*2:=oO;have C9:=CI h.F j dG;have hgd:h.F.getD j []=h.F[j]:=by rw[aAg,aAh dG];rfl
    rw[hgd]at hd;generalize h.F[j]=R at *;have c0:¬fl=t:=fun e=>by rw[e,tH]at hF;cases hF
    have c1:¬t=s.next:=oO;have c2:¬s.next=t:=oO;have c3:¬t=s.next+1:=oO;have c4:¬s.next+1=t:=oO;have c5:¬fl=s.next:=oO
    (repeat' (first|apply qS|(refine zE ?_;intro J hJ;simp[f80,f11,fi,fn,hF,hd,hjj,U4,dG,tH,t0,c0,c1,c2,c3,c4,c5];(repeat refine ca ?_);(refine zJ hJ ?_;clear hJ J))))
    refine hJO _ _ (sF1 fi) (sF1 fn) ⟨sF1 f80,?_,by simp;omega,?_,s.next+1+1,by rw[C9];simp[gJ],oO,oO,sS,sS⟩
    ·(repeat (first|rw[nHh nOo]|rw[sHh oO]|rw[nIi nQq]|rw[sIi oO]));exact hF
    .exact(((hk.trans (aA.new _ _)).trans (aA.new _ _)).set t1 _).trans (aA.new _ _)
   .clear hF hflt hG J6 hL z7 f7 f8 hk;rintro fr s ⟨f80,hF,hflt,hk,t,f11,t0,t1,t2,tH⟩;rw[aBe]at f11;refine xw1 f11 ?_;have hzu:∀ l:List Int,z0L (us l)=us l:=fun l=>by
     induction l with
     |nil=>rfl
     |cons x l ih=>simp only[us,aAl,z0L,z0]at ih ⊢;rw[ih]
    have hz:∀ R:List (List Int),z0L (gJ R)=gJ R:=fun R=>by
     induction R with
     |nil=>rfl
     |cons r R ih=>simp only[gJ,aAl,z0L,z0,hzu]at ih ⊢;rw[ih]
    exact⟨by simp[z0,z0L,drR,hz],hk⟩
abbrev Tn:=List (Int×List (Int×Int))
def rJ(x y:Int):List (Int×Int)->List (Int×Int)
 |[]=>[(x,y)]
 |p::P=>if p.1=x then(x,y)::P else p::rJ x y P
def iE(v x y:Int):Tn->Tn
 |[]=>[(v,[(x,y)])]
 |a::A=>if a.1=v then(v,rJ x y a.2)::A else a::iE v x y A
def jJ(n k:Nat):Nat:=if k=0 then n-1 else k-1
def jV(r:List Int)(A:Tn):Nat->Tn
 |0=>A
 |j+1=>iE (r.getD j 0) (r.getD (jJ r.length j) 0) (r.getD ((j+1) % r.length) 0) (jV r A j)
def aS(R:List (List Int)):Tn:=R.foldl (fun A r=>jV r A r.length) []
def inL(P:List (Int×Int)):List (List Int×LV):=P.map fun p=>([p.1],u p.2)
theorem Eb(x y:Int):∀ P,bQ (inL P) [x] (u y)=inL (rJ x y P)
 |[]=>rfl
 |p::P=>by
  have ih:=Eb x y P;unfold rJ;simp only[inL,aAl,bQ,aBt,aEu]at ih ⊢;by_cases h:p.1=x
  .rw[aAj h,aAj (sF1 h)];rfl
  .rw[aAa h,aAa (by simpa using fun e=>h e.symm),ih];rfl
def ouL(A:Tn)(loc:Int->Nat):List (List Int×LV):=A.map fun a=>([a.1],.mp (loc a.1))
structure MM(A:Tn)(loc:Int->Nat)(o:Nat)(lo st:St):Prop where
 out:st.H o=.map false [.u32] (ouL A loc)
 olt:lo.next<=o/\o<st.next
 inn:∀ a∈A,st.H (loc a.1)=.map false [.u32] (inL a.2)/\(lo.next<=loc a.1/\loc a.1≠o)/\loc a.1<st.next
 inj:∀ a∈A,∀ b∈A,loc a.1=loc b.1->a.1=b.1
 nd:(A.map (·.1)).Nodup
 kp:aA lo st
theorem FT(A:Tn)(loc:Int->Nat)(v:Int):bN (ouL A loc) [v]=if v∈A.map (·.1)then some (.mp (loc v))else none:=by
 induction A with
 |nil=>rfl
 |cons a A ih=>
  simp only[ouL,aAl,bN,aAe]at ih ⊢;by_cases h:a.1=v
  .rw[aAj (sF1 h),aAj (.inl h.symm),h]
  .rw[aAa (by simpa using fun e=>h e.symm),ih];have:¬v=a.1:=fun e=>h e.symm;simp only[this,false_or]
theorem Vd{A:Tn}{v:Int}(loc:Int->Nat)(l:Nat)(h:v∉A.map (·.1)):bQ (ouL A loc) [v] (.mp l)=ouL (A++[(v,[])]) (fun x=>if x=v then l else loc x):=by
 rw[Bj]
 .unfold ouL;rw[aAu]
  congr 1
  .refine aAN fun a ha=>?_;have:a.1≠v:=fun e=>h (e ▸ aAi.2 ⟨a,ha,rfl⟩);simp only[aAa this]
  .simp
 .intro hm;obtain⟨q,hq,e⟩:=aAi.1 hm;obtain⟨a,ha,rfl⟩:=aAi.1 hq;simp only[aBt,aEu]at e;exact h (e ▸ aAi.2 ⟨a,ha,rfl⟩)
theorem MM.add{A:Tn}{loc:Int->Nat}{o:Nat}{lo s:St}(h:MM A loc o lo s){v:Int}(hv:v∉A.map (·.1)):
 MM (A++[(v,[])]) (fun x=>if x=v then s.next else loc x) o lo ((s.new (.map false [.u32] [])).set o (.map false [.u32] (ouL (A++[(v,[])]) (fun x=>if x=v then s.next else loc x)))):=by
 obtain⟨h1,h2,h3,h4,h5,h6⟩:=h;have Zo:∀ a∈A,a.1≠v:=fun a ha e=>hv (e ▸ aAi.2 ⟨a,ha,rfl⟩);have hn:=h6.next;refine⟨sS,⟨h2.1,by simp;omega⟩,fun a ha=>?_,fun a ha b hb e=>?_,?_,(h6.trans (aA.new _ _)).set h2.1 _⟩
 .rcases aAd.1 ha with ha|ha
  .obtain⟨k1,k2,k3⟩:=h3 a ha;simp only[aAa (Zo a ha)];have e1:¬loc a.1=o:=k2.2;refine⟨?_,k2,by simp;omega⟩;rw[bU,aAa e1,cE,aAa oO];exact k1
  .rw[aAk]at ha;subst ha;simp only[aBq];refine⟨?_,⟨hn,oO⟩,sS⟩;rw[bU,aAa oO,cE,aAj rfl];rfl
 .rcases aAd.1 ha with ha|ha
  .rcases aAd.1 hb with hb|hb
   .simp only[aAa (Zo a ha),aAa (Zo b hb)]at e;exact h4 a ha b hb e
   .rw[aAk]at hb;subst hb;simp only[aAa (Zo a ha),aBq]at e;have:=(h3 a ha).2.2;omega
  .rw[aAk]at ha;subst ha;rcases aAd.1 hb with hb|hb
   .simp only[aAa (Zo b hb),aBq]at e;have:=(h3 b hb).2.2;omega
   .rw[aAk]at hb;subst hb;rfl
 .rw[aAu,aAo];refine⟨h5,sS,fun a ha b hb e=>?_⟩;simp only[aAl,aCx,aAk]at hb;subst hb;subst e;exact hv ha
theorem DY(v x y:Int):∀ A:Tn,v∈A.map (·.1)->(iE v x y A).map (·.1)=A.map (·.1)
 |a::A,h=>by
  unfold iE;by_cases e:a.1=v
  .rw[aAj e];simp[e]
  .rw[aAa e,aAl,aAl,DY v x y A];simp only[aAl,aAe]at h;exact h.resolve_left fun h=>e h.symm
theorem Il{v x y:Int}{P:List (Int×Int)}:∀ {A:Tn},(A.map (·.1)).Nodup->(v,P)∈A->∀ a,a∈iE v x y A->a=(v,rJ x y P)\/(a∈A/\a.1≠v)
 |b::A,hn,h,a,ha=>by
  obtain⟨n1,n2⟩:=aAp.1 (by simpa using hn:(b.1::A.map (·.1)).Nodup);unfold iE at ha;by_cases e:b.1=v
  .rw[aAj e]at ha;have hb:(v,P)=b:=by
    rcases aAe.1 h with h|h
    .exact h
    .exact absurd (aAi.2 ⟨_,h,rfl⟩) (e ▸ n1)
   subst hb;rcases aAe.1 ha with ha|ha
   .exact .inl ha
   .exact .inr ⟨aAc _ ha,fun h2=>n1 (aAi.2 ⟨a,ha,h2⟩)⟩
  .rw[aAa e]at ha;rcases aAe.1 ha with ha|ha
   .exact .inr ⟨sF1 ha,by rw[ha];exact e⟩
   .have h2:(v,P)∈A:=by
     rcases aAe.1 h with h|h
     .exact absurd (by rw[<- h]) e
     .exact h
    rcases Il n2 h2 a ha with h3|⟨h3,h4⟩
    .exact .inl h3
    .exact .inr ⟨aAc _ h3,h4⟩
theorem HW(v x y:Int):∀ A:Tn,v∉A.map (·.1)->iE v x y (A++[(v,[])])=iE v x y A
 |[],_=>by simp[iE,rJ]
 |a::A,h=>by simp only[aAl,aAe,aCr]at h;have e:¬a.1=v:=fun e=>h.1 e.symm;simp only[List.cons_append,iE,aAa e,HW v x y A h.2]
theorem MM.put{A:Tn}{loc:Int->Nat}{o:Nat}{lo s:St}(h:MM A loc o lo s){v x y:Int}{P:List (Int×Int)}(hv:(v,P)∈A):
 MM (iE v x y A) loc o lo (s.set (loc v) (.map false [.u32] (inL (rJ x y P)))):=by
 obtain⟨h1,h2,h3,h4,h5,h6⟩:=h;have hk:=DY v x y A (aAi.2 ⟨_,hv,rfl⟩);obtain⟨k1,k2,k3⟩:=h3 _ hv;have j5:∀ a∈iE v x y A,∃ b∈A,b.1=a.1:=fun a ha=>by
  have:a.1∈A.map (·.1):=by rw[<- hk];exact aAi.2 ⟨a,ha,rfl⟩
  obtain⟨b,hb,e⟩:=aAi.1 this;exact⟨b,hb,e⟩
 have ho:ouL (iE v x y A) loc=ouL A loc:=by
  have e:∀ B:Tn,ouL B loc=(B.map (·.1)).map fun k=>([k],LV.mp (loc k)):=fun B=>by simp[ouL]
  rw[e,e,hk]
 have e1:¬o=loc v:=fun e=>k2.2 e.symm;refine⟨?_,⟨h2.1,h2.2⟩,fun a ha=>?_,fun a ha b hb e=>?_,by rw[hk];exact h5,h6.set k2.1 _⟩
 .rw[bU,aAa e1,h1,ho]
 .rcases Il h5 hv a ha with rfl|⟨ha,Zo⟩
  .exact⟨sS,k2,k3⟩
  .obtain⟨q1,q2,q3⟩:=h3 a ha;refine⟨?_,q2,q3⟩;rw[bU,aAa fun e=>Zo (h4 a ha _ hv e)];exact q1
 .obtain⟨a2,ha2,ea⟩:=j5 a ha;obtain⟨b2,T7,eb⟩:=j5 b hb;rw[<- ea,<- eb]at e ⊢;exact h4 a2 ha2 b2 T7 e
theorem Rw(R:List (List Int))(st:St)(hR:R.length<=300)(hr:∀ r∈R,r.length<=1000):
 aB prog 62 [.sl 0 R.length (gJ R)] st fun r st'=>∃ o loc,r=.mp o/\MM (aS R) loc o st st':=by
 refine zN func62 ntmps62 [.tmp 2] ?_;refine xw0 ?_;have e0:st.next<st.next+1:=oO;refine bD 12 11 13 50 (R.length) (fun j fr st2=>fr 3=.mp st.next/\fr 10=.sl 0 R.length (gJ R)/\∃ loc,MM ((R.take j).foldl (fun A r=>jV r A r.length) []) loc st.next st st2) ?_ ?_ ?_
 .exact⟨sS,sS,fun _=>0,by simp[ouL],sS,sS,sS,sS,aA.new _ _⟩
 .rintro j0 fr s dG ⟨f3,f10,loc,hM⟩ fi fn JO hJO;have hd:=KR R j0 dG;have C9:(R.take (j0+1)).foldl (fun A r=>jV r A r.length) []=jV (R.getD j0 []) ((R.take j0).foldl (fun A r=>jV r A r.length) []) (R.getD j0 []).length:=by have h1:R.take (j0+1)=R.take j0++[R[j0]]:=aAs dG;rw[h1,aBI,aAg,aAh dG];rfl
  have hl:(R.getD j0 []).length<=1000:=hr _ (by rw[aAg,aAh dG];exact aAI _);generalize (R.take j0).foldl (fun A r=>jV r A r.length) []=A0 at *;generalize R.getD j0 []=r at *;have w1:IntKind.i64.wrap ((r.length:Int)-1)=(r.length:Int)-1:=zW;refine xw7 f3 f10 fi fn dG hd w1 ?_;have hJ0:∀ loc' c7 s',c7 3=.mp st.next->c7 10=.sl 0 R.length (gJ R)->c7 12=i j0->c7 11=i R.length->MM (jV r A0 r.length) loc' st.next st s'->JO c7 s':=fun loc' c7 s' g1 g2 g3 g4 g5=>hJO _ _ g3 g4 ⟨sF1 g1,sF1 g2,loc',by rw[C9];exact g5⟩;clear hJO C9;refine bD 21 20 22 49 (r.length) (fun j fr st2=>(fr 3=.mp st.next/\fr 10=.sl 0 R.length (gJ R)/\fr 12=i j0/\fr 11=i R.length)/\fr 5=.sl 0 r.length (us r)/\fr 19=.sl 0 r.length (us r)/\fr 6=i (if j=0 then(r.length:Int)-1 else(j:Int)-1)/\∃ loc,MM (jV r A0 j) loc st.next st st2) ?_ ?_ ?_
  .exact⟨⟨sF1 f3,sF1 f10,sF1 fi,sF1 fn⟩,sS,sS,sS,loc,hM⟩
  .clear f3 f10 fi fn hM loc s fr;rintro k fr s Z4 ⟨⟨f3,f10,f12,f11⟩,f5,f19,f6,loc,hM⟩ fi fn JO2 hJO2;have hdk:=qG r k Z4;have hpk:jJ r.length k<r.length:=by unfold jJ;split<;>omega
   have hpi:(if k=0 then(r.length:Int)-1 else(k:Int)-1)=((jJ r.length k:Nat):Int):=by unfold jJ;split<;>omega
   rw[hpi]at f6;have hdp:=qG r (jJ r.length k) hpk;have hmod:((k:Int)+1).tmod (r.length:Int)=(((k+1) % r.length:Nat):Int):=by rw[aDO oO];exact(Int.natCast_emod _ _).symm
   have M6:(k+1) % r.length<r.length:=aCw _ oO;have hdm:=qG r ((k+1) % r.length) M6;have hw:IntKind.i64.wrap ((k:Int)+1)=(k:Int)+1:=zW;have T0:jV r A0 (k+1)=iE (r.getD k 0) (r.getD (jJ r.length k) 0) (r.getD ((k+1) % r.length) 0) (jV r A0 k):=rfl;generalize jV r A0 k=A at *;generalize jJ r.length k=pk at *;generalize (k+1) % r.length=mk' at *;generalize r.getD k 0=v at *;generalize r.getD pk 0=x at *;generalize r.getD mk' 0=y at *;have hr0:¬(r.length:Int)=0:=oO;have V8:¬r=[]:=fun e=>by rw[e]at Z4;simp at Z4
   have hpk':(pk:Int)<r.length:=oO;have hml':(mk':Int)<r.length:=oO;have hH:=hM.out;have hg:=FT A loc v;by_cases hv:v∈A.map (·.1)
   .rw[aAj hv]at hg;obtain⟨⟨v',P⟩,hP,rfl⟩:=aAi.1 hv;simp only at hg T0 hdk;have hI:=(hM.inn _ hP).1;have W0:=Eb x y P;have Q7:=hM.put (x:=x) (y:=y) hP;simp only at hI;generalize loc v'=lv at *;refine EW f3 f5 f19 f6 fi fn Z4 hdk hH hg ?_
    (refine zS [] [st.next,lv] [0,2,4,6,8,10,12,14,16,18,20,22,24,26,28,31] ?_;intro J hJ;simp[f3,f5,f19,f6,fi,fn,Z4,hdk,hdp,hdm,hpk,M6,hpk',hml',hr0,V8,hw,hmod,hH,hg,hI];refine zJ hJ ?_)
    rw[W0];refine xw0 ?_;refine hJO2 _ _ (sF1 fi) (sF1 fn) ⟨⟨sF1 f3,sF1 f10,sF1 f12,sF1 f11⟩,sF1 f5,sF1 f19,sS,loc,?_⟩;rw[T0];exact Q7
   .rw[aAa hv]at hg;have c1:¬st.next=s.next:=by have:=hM.olt;omega
    have hM1:=hM.add hv;have P4:=Vd loc s.next hv;have hpa:=HW v x y A hv;refine TF f3 f5 f19 f6 fi fn Z4 hdk hH hg c1 ?_;rw[P4];generalize (s.new (.map false [.u32] [])).set st.next (.map false [.u32] (ouL (A++[(v,[])]) fun x=>if x=v then s.next else loc x))=s1 at *;generalize hl1:(fun x=>if x=v then s.next else loc x)=loc1 at *;have hP:(v,[])∈A++[(v,([]:List (Int×Int)))]:=sS;have hH:=hM1.out;have hg:=FT (A++[(v,[])]) loc1 v;rw[aAj sS]at hg;have hI:=(hM1.inn _ hP).1;have W0:=Eb x y [];have Q7:=hM1.put (x:=x) (y:=y) hP;rw[hpa]at Q7;simp only at hI;generalize A++[(v,([]:List (Int×Int)))]=A1 at *;generalize loc1 v=lv at *;clear hM
    (refine zS [] [st.next,lv] [0,2,4,6,8,10,12,14,16,18,20,22,24,26,28,31] ?_;intro J hJ;simp[f3,f5,f19,f6,fi,fn,Z4,hdk,hdp,hdm,hpk,M6,hpk',hml',hr0,V8,hw,hmod,hH,hg,hI];refine zJ hJ ?_)
    rw[W0];refine xw0 ?_;refine hJO2 _ _ (sF1 fi) (sF1 fn) ⟨⟨sF1 f3,sF1 f10,sF1 f12,sF1 f11⟩,sF1 f5,sF1 f19,sS,loc1,?_⟩;rw[T0];exact Q7
  .clear f3 f10 fi fn hM loc s fr;rintro fr s ⟨⟨f3,f10,f12,f11⟩,f5,f19,f6,loc,hM⟩;refine xw0 ?_;exact hJ0 loc _ _ (sF1 f3) (sF1 f10) (sF1 f12) (sF1 f11) hM
 .rintro fr s ⟨f3,f10,loc,hM⟩;rw[aBe]at hM;refine xw1 f3 ?_;exact⟨_,hM⟩
end Aw
end Go.Proofs.YtbgngpdonpeboaaGreatDoor
