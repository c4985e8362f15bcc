/- plane: bridges: the walk. -/
import Derived.Test.YtempldclppogmaaGreatDoorJd
import Derived.Test.YtempldclppogmaaGreatDoorAwShp
import Derived.Test.YtempldclppogmaaGreatDoorAwZ
import Derived.Test.YtempldclppogmaaGreatDoorAwFz
import Derived.Test.YtempldclppogmaaGreatDoorAwMr4
import Derived.Test.YtempldclppogmaaGreatDoorAwRg
set_option linter.unusedVariables false
set_option linter.unusedSimpArgs false
set_option maxHeartbeats 2000000
open Go.Proofs.Tryz
namespace Go.Proofs.YtempldclppogmaaGreatDoor
namespace Aw
open Go Go.RowKit Pl
theorem Cx:∀ {vs R:List Int} {v:Int},vs.Nodup->(v::R).Sublist vs->vs.getD (fst' vs (v::R)) 0=v/\fst' vs (v::R)<vs.length
 |[],R,v,_,h=>by cases h
 |w::vs,R,v,hn,h=>by
  have ZI:=(aAD.1 hn);cases h with
  |cons _ h=>
   have hw:w∉v::R:=fun hw=>ZI.1 (h.subset hw);obtain⟨h1,h2⟩:=Cx ZI.2 h;have e:fst' (w::vs) (v::R)=fst' vs (v::R)+1:=by unfold fst';rw[List.findIdx_cons];simp only[aBX,cond_eq_ite];rw[aAa hw]
   rw[e];exact⟨by simpa using h1,by simpa using h2⟩
  |cons_cons _ h=>
   have e:fst' (w::vs) (w::R)=0:=by unfold fst';rw[List.findIdx_cons];simp
   rw[e];exact⟨sS,sS⟩
theorem Ty(vs:List Int)(l:List Brg):(mU vs l).map z0=mU vs l:=by
 induction l with
 |nil=>rfl
 |cons b l ih=>simp only[mU,aAJ,aAv]at ih ⊢;rw[ih];rfl
def EF(t e s n:Nat)(lo:St)(st:St):Prop:=t≠0/\lo.next<=t/\t<st.next/\st.H t=.own e s n
structure ShR(g:Gr)(L:List (Int×Int))(on:List Int)(S nl pl ll:Nat)(f:LV)(le:List (List Int×LV))(st:St):Prop where
 box:st.H S=.box 119 7 [.sl 0 g.vs.length (us g.vs),.sl 0 g.es.length (eds g.es),.ms nl 0 g.vs.length,.mp pl,.mp ll,wv (mk g.vs on),f]
 near:st.H nl=.box 116 1 (lJ g)
 plc:st.H pl=.map false [.u32] (vH g.vs)
 lin:st.H ll=.map true [.u32,.u32] le
 key:le.map (·.1)=L.map pk
 lt:S<st.next/\nl<st.next/\pl<st.next/\ll<st.next
theorem ShR.keep{g:Gr}{L:List (Int×Int)}{on:List Int}{S nl pl ll:Nat}{f:LV}{le:List (List Int×LV)}{st st':St}(h:ShR g L on S nl pl ll f le st)(k:aA st st'):ShR g L on S nl pl ll f le st':=by obtain⟨a,b,c,d,e,f1,f2,f3,f4⟩:=h;have hx:=k.next;exact⟨(k.H _ f1).trans a,(k.H _ f2).trans b,(k.H _ f3).trans c,(k.H _ f4).trans d,e,oO,oO,oO,oO⟩
theorem ShR.b{g:Gr}{L:List (Int×Int)}{on:List Int}{S nl pl ll:Nat}{f:LV}{le:List (List Int×LV)}{st:St}(h:ShR g L on S nl pl ll f le st):ShB g.vs S pl st:=⟨⟨_,_,_,_,_,_,h.box⟩,h.plc⟩
theorem GV{g:Gr}{L:List (Int×Int)}{on:List Int}{S nl pl ll:Nat}{f:LV}{le:List (List Int×LV)}{st:St}(h:ShR g L on S nl pl ll f le st)(hn:g.vs.Nodup)(h64:g.vs.length<=64)(A:List Int)(hA:∀ v∈A,v∈g.vs):
 aB prog 165 [.pt S 0,wv (mk g.vs A)] st fun r st'=>r=wv (mk g.vs (arn g A))/\st'=st:=SZ h.box h.near hn h64 A hA
structure GP(g:Gr):Prop extends GoodE g where
 h64:g.vs.length<=64
 he:g.es.length<=200
theorem QV{g:Gr}(hg:GP g){L:List (Int×Int)}{on:List Int}(hon:∀ v∈on,v∈g.vs){S nl pl ll:Nat}{f:LV}{le:List (List Int×LV)}{st:St}(hS:ShR g L on S nl pl ll f le st){B:List Brg}(hB:Lg g L on=some B):
 aB prog 116 [.pt S 0] st fun r st'=>r=.sl 0 B.length (mU g.vs B)/\st'=st:=by
 refine qT (Q:=fun r=>r=.sl 0 B.length (mU g.vs B)) (eE ?_) fun r h=>by
  subst h;refine⟨.inl rfl,?_⟩;clear hB;induction B with
  |nil=>trivial
  |cons b B ih=>exact⟨trivial,trivial,ih⟩
 have hn:g.vs.Nodup:=hg.toGoodE.toGood.nodup;have h64:=hg.h64;have hel:=aK g.es;unfold Lg at hB;obtain⟨l2,C4,rfl⟩:=aBm.1 hB;obtain⟨Yl,hN,hP,hL,Yf,q1,q2,q3,q4⟩:=id hS;refine zN func116 ntmps116 [.tmp 2] ?_;refine eP fun Yi=>?_
 (repeat' (first|apply qS|apply qB|(refine zE ?_;intro J hJ;simp[Yl];refine zJ hJ ?_)))
 refine jK 3 121 2 sS ?_;have e0:¬st.next=0:=oO;have he200:=hg.he;refine bE 18 17 19 60 (g.es.length) (fun j fr st2=>fr 0=.pt S 0/\fr 16=.sl 0 g.es.length (eds g.es)/\aA st st2/\∃ t,fr 3=.sl t (oM g L on (g.es.take j)).length (mU g.vs (oM g L on (g.es.take j)))/\EF t 121 2 (oM g L on (g.es.take j)).length st st2) ?_ ?_ ?_
 .exact⟨sS,sS,aA.new _ _,st.next,by simp[oM,mU],e0,aAi _,sS,by simp[oM]⟩
 .rintro j fr s dN ⟨f0,f16,hk,t,f3,t0,t1,t2,tH⟩ fi fn JO hJO;have hd:=aR g.es j dN;have Xq:j*3<g.es.length*3:=oO;have p9:=Le g L on g.es j dN;have ZM:=hg.ends _ (show g.es.getD j ed0∈g.es by rw[cV _ _ dN];exact aAu _);generalize g.es.getD j ed0=ee at *;generalize hF:oM g L on (g.es.take j)=F at *;obtain⟨d,a,b⟩:=ee;simp only at p9 ZM;have hS1:=(hS.keep hk).keep (aA.new s (.box 56 3 [u d,u a,u b]));obtain⟨hSb1,hN1,hP1,hL1,-,p1,p2,p3,p4⟩:=id hS1;have Zj:=fun v hv=>RT (v:=v) hS1.b hn h64 hv;have hor:=BO g.vs [a] [b] h64;simp only[List.cons_append,List.nil_append]at hor;obtain⟨hgs,hgn⟩:=Ov Yf (prP a b);have hnS:¬S=s.next:=by have:=hk.next;omega
  have Xl:¬ll=s.next:=by have:=hk.next;omega
  have B9:=(hS.keep hk).box;have hL0:=(hS.keep hk).lin;have E7:=qV g.vs [a,b] on h64;have hwl:(F:List Brg).length<=g.es.length:=by
   have h1:=aBe (fun x=>decide (prP x.a x.b∉L)&&decide (x.a∈on)&&decide (x.b∈on)) (g.es.take j);have h2:F.length=((g.es.take j).filter (fun x=>decide (prP x.a x.b∉L)&&decide (x.a∈on)&&decide (x.b∈on))).length:=by rw[<- hF];unfold oM;rw[aAA]
   rw[aAo]at h1;omega
  (repeat' (first|apply qS|(refine zE ?_;intro J hJ;simp[f0,f16,fi,fn,hd,hel,Xq,dN];refine zJ hJ ?_)))
  (refine zS [] [s.next] [0,2,4,8,10,12,6,14,16,18] ?_;intro J hJ;simp[f0])
  refine qD (Zj a ZM.1) sS ?_;rintro r s1 ⟨rfl,h1⟩;rw[h1];clear h1 s1;refine⟨fun h=>by first|(cases h;done)|exact fun _ _=>rfl|simp,?_⟩
  (apply aV;simp[])
  refine qD (Zj b ZM.2) sS ?_;rintro r s1 ⟨rfl,h1⟩;rw[h1];clear h1 s1;refine⟨fun h=>by first|(cases h;done)|exact fun _ _=>rfl|simp,?_⟩
  (apply aV;simp[hor];refine zJ hJ ?_)
  (repeat (apply qS))
  (refine zS [] [S,s.next,ll] [0,2,4,6,8,10,12,14,16,18,20,22,24,26,28] ?_;intro J hJ;simp[f0,B9,hnS])
  refine qD (pair a b _) sS ?_;rintro r s1 ⟨rfl,h1⟩;rw[h1];clear h1 s1;refine⟨fun h=>by first|(cases h;done)|exact fun _ _=>rfl|simp,?_⟩;have c1:¬t=s.next:=oO;have c2:¬t=s.next+1:=oO;have c3:¬s.next=t:=oO;have hFs:=CV g.vs F ⟨[],[a,b]⟩;have F4:mk g.vs []=0:=(mk_zero g.vs []).2 fun _ _=>by simp
  simp only[F4]at hFs;by_cases hp:prP a b∈L
  .obtain⟨v,hv⟩:=hgs hp;have hv:bR le [min a b,max a b]=some v:=hv;rw[aAa (by simp[hp]),aAP]at p9
   (apply aV;simp[hL0,Xl,hv];refine zJ hJ ?_)
   (repeat' (first|apply qS|refine qK (zZ ?_)|(apply qC;simp[])|(refine zE ?_;intro J hJ;simp[];refine zJ hJ ?_)))
   exact hJO _ _ (by simp[fi]) (by simp[fn]) ⟨by simp[f0],by simp[f16],hk.trans (aA.new _ _),t,by rw[p9];simp[f3],t0,t1,by simp;omega,by rw[p9];(repeat (first|rw[nHh nOo]|rw[sHh oO]|rw[nIi nQq]|rw[sIi oO]));exact tH⟩
  .have hv:bR le [min a b,max a b]=none:=hgn hp;by_cases hc:a∈on/\b∈on
   .rw[aAe ⟨⟨hp,hc.1⟩,hc.2⟩]at p9;have hz:mk g.vs (off [a,b] on)=0:=(mk_zero _ _).2 fun v _ h=>by
     simp only[off,aAz,aAf,aCe,aDE,aDY,aCU]at h;rcases h.1 with e|e
     .exact h.2 (by rw[e];exact hc.1)
     .exact h.2 (by rw[e];exact hc.2)
    have hdz:fY .u64 (mk g.vs [a,b]) (mk g.vs on)=0:=by rw[E7];exact congrArg Int.ofNat hz
    (apply aV;simp[hL0,Xl,hv];refine zJ hJ ?_)
    (repeat' (first|apply qS|(apply qC;simp[B9,f0,hnS,hdz,f3,tH,t0,c1,c2,c3])|(refine zE ?_;intro J hJ;simp[B9,f0,hnS,hdz,f3,tH,t0,c1,c2,c3];(repeat refine ca ?_);refine zJ hJ ?_)))
    exact hJO _ _ (by simp[fi]) (by simp[fn]) ⟨by simp[f0],by simp[f16],((hk.trans (aA.new _ _)).trans (aA.new _ _)).set t1 _ |>.trans (aA.new _ _),s.next+2,by rw[p9,<- hFs];simp,oO,oO,sS,by rw[p9];simp⟩
   .rw[aAa (by intro h;exact hc ⟨h.1.2,h.2⟩),aAP]at p9;have hz:mk g.vs (off [a,b] on)≠0:=fun h=>by rw[mk_zero]at h;have ha:=h a ZM.1;have hb:=h b ZM.2;simp[off]at ha hb;exact hc ⟨ha,hb⟩
    have hdz:(fY .u64 (mk g.vs [a,b]) (mk g.vs on)==0)=false:=by rw[E7];simpa[off]using hz
    (apply aV;simp[hL0,Xl,hv];refine zJ hJ ?_)
    (repeat' (first|apply qS|refine qK (zZ ?_)|(apply qC;simp[B9,f0,hnS,hdz])|(refine zE ?_;intro J hJ;simp[B9,f0,hnS,hdz];refine zJ hJ ?_)))
    exact hJO _ _ (by simp[fi]) (by simp[fn]) ⟨by simp[f0],by simp[f16],hk.trans (aA.new _ _),t,by rw[p9];simp[f3],t0,t1,by simp;omega,by rw[p9];(repeat (first|rw[nHh nOo]|rw[sHh oO]|rw[nIi nQq]|rw[sIi oO]));exact tH⟩
 .rintro fr s ⟨f0,f16,hk,t,f3,t0,t1,t2,tH⟩;rw[aAQ]at f3 tH;have hE1:(oM g L on g.es).length<=200:=by have h1:=aBe (fun x=>decide (prP x.a x.b∉L)&&decide (x.a∈on)&&decide (x.b∈on)) g.es;unfold oM;rw[aAA];omega
  generalize oM g L on g.es=E1 at *;have hSk:=hS.keep hk;have B9:=hSk.box;have E7:=qV g.vs g.vs on h64;have N4:=fun st' (h:ShB g.vs S pl st')=>Tv h hn h64 g.vs 0 (fun v h=>h) oO
  (repeat' apply qS)
  (refine zS [] [S] [0,2,4,6,8,10,14,16,18,20,12,22,24] ?_;intro J hJ;simp[f0,B9])
  refine qD (N4 _ hSk.b) sS ?_;rintro r s1 ⟨rfl,h1⟩;rw[h1];clear h1 s1;refine⟨fun h=>by first|(cases h;done)|exact fun _ _=>rfl|simp,?_⟩
  (apply aV;simp[B9,E7];refine zJ hJ ?_)
  (repeat (first|apply qS|apply qB))
  refine qL (fun n fr st'=>∃ R l l2',rX g on n R=some l2'/\l2=l++l2'/\l.length+n<=g.vs.length+1/\R.Sublist g.vs/\fr 0=.pt S 0/\fr 9=wv (mk g.vs R)/\aA st st'/\∃ t,fr 3=.sl t (E1++l).length (mU g.vs (E1++l))/\EF t 121 2 (E1++l).length st st') (g.vs.length+1) ?_ ?_
  .exact⟨off g.vs on,[],l2,C4,rfl,sS,aBq,by simp[f0],by simp[off],hk,t,by simp[f3],t0,t1,t2,by simpa using tH⟩
  .clear f0 f16 hk f3 t0 t1 t2 tH hSk B9 fr s;rintro n fr s ⟨R,l,l2',hr,rfl,hln,Yv,f0,f9,hk,t,f3,t0,t1,t2,tH⟩ JJ hJJ;have hSk:=hS.keep hk;obtain⟨B9,hN0,-,-,-,p1,p2,p3,p4⟩:=id hSk;have hRv:∀ v∈R,v∈g.vs:=fun v hv=>Yv.subset hv;cases R with
   |nil=>
    have hz:mk g.vs []=0:=(mk_zero g.vs []).2 fun _ _=>by simp
    rw[hz]at f9;have hl2':l2'=[]:=by cases n<;>simpa[rX]using hr.symm
    subst hl2';rw[aAP]
    (repeat' (first|apply qS|refine qX (zZ ?_)|(refine qR (zZ ?_);simp[f9,f3])|(apply qC;simp[f9,f3])|(refine zE ?_;intro J hJ;simp[f9,f3];refine zJ hJ ?_)))
    exact⟨by simp[z0,nM,Ty],hk⟩
   |cons v R=>
    obtain⟨hfv,S5⟩:=Cx hn Yv;have Wx:=FA S5;have hb:((mk g.vs (v::R):Int) != 0)=true:=by simpa using Wx
    have Zu:=UH h64 hn S5;rw[hfv,Int.zero_sub]at Zu;cases n with
    |zero=>simp[rX]at hr
    |succ n=>
     rw[rX]at hr;obtain⟨b,hgb,hr⟩:=aBD.1 hr;obtain⟨l3,hr3,rfl⟩:=aBm.1 hr;have hvv:∀ w∈[v],w∈g.vs:=fun w hw=>by rw[aAl]at hw;rw[hw];exact hRv v sS
     (repeat' (first|apply qS|apply qB|refine qK (zZ ?_)|(apply qC;simp[f0,f9,hb,Zu])|(refine zE ?_;intro J hJ;simp[f0,f9,hb,Zu];(try refine zJ hJ ?_))))
     refine qE (GV hSk hn h64 [v] hvv) sS ?_;rintro r s1 ⟨rfl,h1⟩;rw[h1];clear h1 s1
     (apply aD;simp[];refine zJ hJ ?_)
     (repeat (first|apply qS|apply qB))
     refine qL (fun m fr st'=>∃ inner,xH g on m inner=some b/\(∀ w∈inner,w∈g.vs)/\fr 0=.pt S 0/\fr 9=wv (mk g.vs (v::R))/\fr 3=.sl t (E1++l).length (mU g.vs (E1++l))/\fr 10=wv (mk g.vs inner)/\fr 11=wv (mk g.vs (arn g inner))/\st'=s) (g.vs.length+1) ?_ ?_
     .exact⟨[v],hgb,hvv,by simp[f0],by simp[f9],by simp[f3],sS,sS,rfl⟩
     .clear f0 f9 f3 fr;rintro m fr s3 ⟨inner,hgi,hiv,f0,f9,f3,f10,f11,hs3⟩ JI hJI;subst hs3;cases m with
      |zero=>simp[xH]at hgi
      |succ m=>
       have hRR:∀ w∈nrS g.vs (arn g inner),w∈g.vs:=fun w hw=>(aAz.1 hw).1;rw[<- EI]at f11;rw[xH]at hgi;generalize nrS g.vs (arn g inner)=RR at *;have Xu:fY .u64 (mk g.vs RR) (mk g.vs on)=mk g.vs (off RR on):=qV g.vs RR on h64;have YQ:fY .u64 (mk g.vs (off RR on)) (mk g.vs inner)=mk g.vs (off (off RR on) inner):=qV g.vs _ inner h64;by_cases hc:off (off RR on) inner=[]
       .rw[aAe hc]at hgi;have L8:b=⟨inner,on' RR on⟩:=by simpa using hgi.symm
        subst L8;have hz:mk g.vs (off (off RR on) inner)=0:=by rw[hc];exact(mk_zero g.vs []).2 fun _ _=>by simp
        have c7:((mk g.vs (off (off RR on) inner):Int) != 0)=false:=by rw[hz];rfl
        have hd3:wT .u64 (mk g.vs RR) (mk g.vs on)=mk g.vs (on' RR on):=QF g.vs RR on h64;have hd4:fY .u64 (mk g.vs (v::R)) (mk g.vs inner)=mk g.vs (off (v::R) inner):=qV g.vs _ inner h64;have c1:¬t=s3.next:=oO;have c2:¬s3.next=t:=oO;have hFs:=CV g.vs (E1++l) ⟨inner,on' RR on⟩;have Xr:(E1++l).length<=300:=by rw[aAh];have:=hg.h64;omega
        rw[aAF]at hFs;have hlen:(E1++l).length+1=(E1++(l++[(⟨inner,on' RR on⟩:Brg)])).length:=by simp;omega
        generalize hEl:E1++l=El at *
        (repeat' (first|apply qS|refine qX (zZ ?_)|(apply qC;simp[f0,f9,f10,f11,f3,B9,Xu,YQ,c7,hd3,hd4,tH,t0,c1,c2])|(refine zE ?_;intro J hJ;simp[f0,f9,f10,f11,f3,B9,Xu,YQ,c7,hd3,hd4,tH,t0,c1,c2];(repeat refine ca ?_);refine zJ hJ ?_)))
        exact hJJ _ _ _ (aCP n) ⟨off (v::R) inner,l++[⟨inner,on' RR on⟩],l3,hr3,sS,by simp;omega,aBq.trans Yv,by simp[f0],sS,((hk.trans (aA.new _ _)).set t1 _).trans (aA.new _ _),s3.next+1,by rw[<- hFs,<- hlen];simp,oO,oO,sS,by rw[<- hlen];simp⟩
       .rw[aAa hc]at hgi;have hz:mk g.vs (off (off RR on) inner)≠0:=fun h=>hc ((KK fun w hw=>hRR w (aAz.1 hw).1).1 h);have c7:((mk g.vs (off (off RR on) inner):Int) != 0)=true:=by simpa using hz
        have hor:gor .u64 (mk g.vs inner) (mk g.vs (off RR on))=mk g.vs (nrS g.vs (inner++off RR on)):=by rw[BO _ _ _ h64,EI]
        have ZV:∀ w∈nrS g.vs (inner++off RR on),w∈g.vs:=fun w hw=>(aAz.1 hw).1;generalize nrS g.vs (inner++off RR on)=IN at *
        (repeat' (first|apply qS|apply qB|refine qK (zZ ?_)|(apply qC;simp[f0,f10,f11,B9,Xu,YQ,c7,hor])|(refine zE ?_;intro J hJ;simp[f0,f10,f11,B9,Xu,YQ,c7,hor];(try refine zJ hJ ?_))))
        refine qE (GV hSk hn h64 IN ZV) sS ?_;rintro r s1 ⟨rfl,h1⟩;rw[h1];clear h1 s1
        (apply aD;simp[];refine zJ hJ ?_)
        exact hJI _ _ _ (aCP m) ⟨IN,hgi,ZV,by simp[f0],by simp[f9],by simp[f3],sS,sS,rfl⟩
def gP(vs:List Int)(F:List (List Int)):List LV:=F.flatMap fun r=>[.sl 0 r.length (us r),wv (mk vs r)]
@[simp] theorem pH(vs:List Int):∀ F:List (List Int),(gP vs F).length=F.length*2
  |[]=>rfl
  |r::F=>by have:=pH vs F;simp only[gP,aAJ,aAh,List.length_cons,List.length_nil]at this ⊢;omega
theorem qU(vs:List Int):∀(F:List (List Int)) (k:Nat),k<F.length->(gP vs F).drop (k*2)=.sl 0 (F.getD k []).length (us (F.getD k []))::wv (mk vs (F.getD k []))::gP vs (F.drop (k+1))
 |r::F,0,_=>by simp[gP]
 |r::F,k+1,h=>by have:=qU vs F k (by simpa using h);rw[show(k+1)*2=k*2+2 by omega];simp only[gP,aAJ,List.cons_append,List.nil_append,aCB]at this ⊢;rw[this];simp
 |[],k,h=>by simp at h
theorem DS(vs:List Int):∀(B:List Brg) (k:Nat),k<B.length->(mU vs B).drop (k*2)=wv (mk vs (B.getD k ⟨[],[]⟩).inner)::wv (mk vs (B.getD k ⟨[],[]⟩).ends)::mU vs (B.drop (k+1))
 |r::F,0,_=>by simp[mU]
 |r::F,k+1,h=>by have:=DS vs F k (by simpa using h);rw[show(k+1)*2=k*2+2 by omega];simp only[mU,aAJ,List.cons_append,List.nil_append,aCB]at this ⊢;rw[this];simp
 |[],k,h=>by simp at h
def oG(b:Brg)(p:Int×Int)(r:List Int×Nat):Int×Int:=if off b.ends r.1=[]then(if p.2=0 then(r.2:Int)else p.1,p.2+1)else p
def gS(b:Brg)(F:List (List Int×Nat)):Int×Int:=F.foldl (oG b) (-1,0)
def cS(F:List (List Int)):List Brg->Brg×Int->Brg×Int
 |[],Zw=>Zw
 |b::l,Zw=>if(gS b F.zipIdx).2<=1 then(b,(gS b F.zipIdx).1)else cS F l (if Zw.2<0 then(b,(gS b F.zipIdx).1)else Zw)
theorem Iz(b:Brg)(F:List (List Int))(k:Nat)(hk:k<F.length):gS b (F.zipIdx.take (k+1))=oG b (gS b (F.zipIdx.take k)) (F.getD k [],k):=by
 unfold gS;have hz:k<F.zipIdx.length:=by simpa using hk
 rw[aAn hz,aBo,List.getElem_zipIdx,aAc,aAd hk];simp
theorem Fu(b:Brg):∀(F:List (List Int×Nat)),0<=(gS b F).2/\(gS b F).2<=F.length:=by
 have key:∀(F:List (List Int×Nat)) (p:Int×Int),0<=p.2->0<=(F.foldl (oG b) p).2/\(F.foldl (oG b) p).2<=p.2+F.length:=by
  intro F;induction F with
  |nil=>intro p h;simpa using h
  |cons r F ih=>
   intro p h;have h1:0<=(oG b p r).2/\(oG b p r).2<=p.2+1:=by unfold oG;by_cases e:off b.ends r.1=[];(· rw[aAe e];simp only;omega);(· rw[aAa e];omega)
   have:=ih (oG b p r) h1.1;rw[List.foldl_cons,List.length_cons];omega
 intro F;have:=key F (-1,0) sS;unfold gS;simp only at this;omega
structure ShA(g:Gr)(L:List (Int×Int))(on:List Int)(F:List (List Int))(S nl pl ll fl:Nat)(le:List (List Int×LV))(st:St):Prop where
 r:ShR g L on S nl pl ll (.ms fl 0 F.length) le st
 fac:st.H fl=.box 127 2 (gP g.vs F)
 flt:fl<st.next
 sub:∀ r∈F,∀ v∈r,v∈g.vs
 onv:∀ v∈on,v∈g.vs
 few:F.length<=300
theorem ShA.keep{g:Gr}{L:List (Int×Int)}{on:List Int}{F:List (List Int)}{S nl pl ll fl:Nat}{le:List (List Int×LV)}{st st':St}(h:ShA g L on F S nl pl ll fl le st)(k:aA st st'):ShA g L on F S nl pl ll fl le st':=
 ⟨h.r.keep k,(k.H _ h.flt).trans h.fac,aAp h.flt k.next,h.sub,h.onv,h.few⟩
abbrev Sv(vs:List Int)(b:Brg):LV:=.ag [wv (mk vs b.inner),wv (mk vs b.ends)]
theorem SN{g:Gr}(hg:GP g){L:List (Int×Int)}{on:List Int}{F:List (List Int)}{S nl pl ll fl:Nat}{le:List (List Int×LV)}{st:St}(hS:ShA g L on F S nl pl ll fl le st){B:List Brg}(hB:Lg g L on=some B)(hBe:∀ b∈B,∀ v∈b.ends,v∈g.vs)(hBl:B.length<=300):
 aB prog 75 [.pt S 0] st fun r st'=>r=.tu [Sv g.vs (cS F B (⟨[],[]⟩,-1)).1,i (cS F B (⟨[],[]⟩,-1)).2]/\st'=st:=by
 refine qT (Q:=fun r=>r=.tu [Sv g.vs (cS F B (⟨[],[]⟩,-1)).1,i (cS F B (⟨[],[]⟩,-1)).2]) ?_ fun r h=>by subst h;exact⟨⟨trivial,trivial,trivial⟩,trivial,trivial⟩
 have h64:=hg.h64;have hz:mk g.vs []=0:=(mk_zero g.vs []).2 fun _ _=>by simp
 have hq:=hS.r.lt;refine zN func75 ntmps75 [.cell 2 121,.tmp 3] ?_
 (repeat' (first|apply qS|(refine zE ?_;intro J hJ;simp[];(try refine zJ hJ ?_))))
 refine qE (QV hg hS.onv (hS.r.keep ((aA.new _ _).trans (aA.new _ _))) hB) sS ?_;rintro r s1 ⟨rfl,h1⟩;rw[h1];clear h1 s1
 (repeat' (first|apply qB|(apply aD;simp[];refine zJ hJ ?_)))
 have e0:¬st.next=st.next+1:=oO;have ZR:=Hh g.vs B;have F5:=pH g.vs F;have hfew:=hS.few;generalize hCC:cS F B (⟨[],[]⟩,-1)=CC;refine bE 15 14 16 49 (B.length) (fun j fr st2=>fr 0=.pt S 0/\fr 2=.pt st.next 0/\fr 4=.pt (st.next+1) 0/\fr 13=.sl 0 B.length (mU g.vs B)/\aA st st2/\st.next+1<st2.next/\st2.H st.next=.box 121 2 [wv 0,wv 0]/\∃ Zw at_,fr 5=i at_/\st2.H (st.next+1)=.box 121 2 [wv (mk g.vs Zw.inner),wv (mk g.vs Zw.ends)]/\cS F (B.drop j) (Zw,at_)=CC) ?_ ?_ ?_
 .exact⟨sS,sS,sS,sS,(aA.new _ _).trans (aA.new _ _),sS,by simp[e0],⟨[],[]⟩,-1,sS,by simp[hz],hCC⟩
 .rintro jo fr s dN ⟨f0,f2,f4,f13,hk,p9,hR,Zw,at_,f5,hB5,v5⟩ fi fn JO hJO;have hd:=DS g.vs B jo dN;have Xx:jo*2<B.length*2:=oO;rw[aAM dN,cS]at v5;have hbm:B.getD jo ⟨[],[]⟩=B[jo]:=by rw[aAc,aAd dN];rfl
  have L8:=hBe _ (aAu dN);rw[hbm]at hd;generalize B[jo]=b at *;have hSk:=hS.keep hk;obtain⟨Yl,-,-,-,-,p1,p2,p3,p4⟩:=id hSk.r;have hF:=hSk.fac;have hFl:=hSk.flt;have x1:¬S=s.next:=oO;have x2:¬fl=s.next:=oO;have x3:¬st.next=s.next:=oO;have x4:¬st.next+1=s.next:=oO
  (repeat' (first|apply qS|apply qB|(refine zE ?_;intro J hJ;simp[f0,f13,fi,fn,hd,Xx,ZR,dN,Yl,x1];refine zJ hJ ?_)))
  refine bE 24 23 25 40 (F.length) (fun j fr st2=>fr 0=.pt S 0/\fr 2=.pt st.next 0/\fr 4=.pt (st.next+1) 0/\fr 13=.sl 0 B.length (mU g.vs B)/\fr 14=i B.length/\fr 15=i jo/\fr 5=i at_/\fr 7=.pt s.next 0/\fr 22=.ms fl 0 F.length/\fr 8=i (gS b (F.zipIdx.take j)).1/\fr 9=i (gS b (F.zipIdx.take j)).2/\aA (s.new (.box 121 2 [wv (mk g.vs b.inner),wv (mk g.vs b.ends)])) st2) ?_ ?_ ?_
  .exact⟨by simp[f0],by simp[f2],by simp[f4],by simp[f13],by simp[fn],by simp[fi],by simp[f5],sS,sS,by simp[gS],by simp[gS],aA.refl _⟩
  .clear f0 f2 f4 f13 f5 fi fn fr;rintro k fr s2 Zf ⟨f0,f2,f4,f13,f14,f15,f5,f7,f22,f8,f9,Xq⟩ fi fn JI hJI;have hn3:=Xq.next;simp only[aF]at hn3;have G2:s2.H s.next=.box 121 2 [wv (mk g.vs b.inner),wv (mk g.vs b.ends)]:=by rw[Xq.H _ sS];simp
   have U5:s2.H fl=.box 127 2 (gP g.vs F):=by rw[Xq.H _ (by simp;omega),cB,aAa x2];exact hF
   have hdF:=qU g.vs F k Zf;have Yd:=Iz b F k Zf;have Xr:=Fu b (F.zipIdx.take k);rw[aAo,List.length_zipIdx]at Xr;generalize F.getD k []=rr at *;generalize W2:gS b (F.zipIdx.take k)=pp at *;obtain⟨p1',p2'⟩:=pp;simp only at Xr f8 f9;have hk22:k*2<F.length*2:=oO;have E7:fY .u64 (mk g.vs b.ends) (mk g.vs rr)=mk g.vs (off b.ends rr):=qV g.vs b.ends rr h64;have y1:¬s.next=s2.next:=oO;have y2:¬fl=s2.next:=oO;have hw:=wrap_i64 (p2'+1) oO oO;unfold oG at Yd;by_cases c8:off b.ends rr=[]
   .have hb:((mk g.vs (off b.ends rr):Int) != 0)=false:=by rw[c8,hz];rfl
    rw[aAe c8]at Yd;simp only at Yd;by_cases h0:p2'=0
    .have O9:(p2'==0)=true:=by simpa using h0
     rw[aAe h0]at Yd
     (repeat' (first|apply qS|refine qK (zZ ?_)|(apply qC;simp[f7,f22,f8,f9,fi,fn,hdF,U5,Zf,hk22,F5,G2,y1,y2,E7,hb,O9,hw])|(refine zE ?_;intro J hJ;simp[f7,f22,f8,f9,fi,fn,hdF,U5,Zf,hk22,F5,G2,y1,y2,E7,hb,O9,hw];refine zJ hJ ?_)))
     exact hJI _ _ (by simp[fi]) (by simp[fn]) ⟨by simp[f0],by simp[f2],by simp[f4],by simp[f13],by simp[f14],by simp[f15],by simp[f5],by simp[f7],by simp[f22],by rw[Yd];simp,by rw[Yd];simp,Xq.trans (aA.new _ _)⟩
    .have O9:(p2'==0)=false:=by simpa using h0
     rw[aAa h0]at Yd
     (repeat' (first|apply qS|refine qK (zZ ?_)|(apply qC;simp[f7,f22,f8,f9,fi,fn,hdF,U5,Zf,hk22,F5,G2,y1,y2,E7,hb,O9,hw])|(refine zE ?_;intro J hJ;simp[f7,f22,f8,f9,fi,fn,hdF,U5,Zf,hk22,F5,G2,y1,y2,E7,hb,O9,hw];refine zJ hJ ?_)))
     exact hJI _ _ (by simp[fi]) (by simp[fn]) ⟨by simp[f0],by simp[f2],by simp[f4],by simp[f13],by simp[f14],by simp[f15],by simp[f5],by simp[f7],by simp[f22],by rw[Yd];simp[f8],by rw[Yd];simp,Xq.trans (aA.new _ _)⟩
   .have hb:((mk g.vs (off b.ends rr):Int) != 0)=true:=by have:mk g.vs (off b.ends rr)≠0:=fun h=>c8 ((KK L8).1 h);simpa using this
    rw[aAa c8]at Yd
    (repeat' (first|apply qS|refine qX (zZ ?_)|(apply qC;simp[f7,f22,f8,f9,fi,fn,hdF,U5,Zf,hk22,F5,G2,y1,y2,E7,hb])|(refine zE ?_;intro J hJ;simp[f7,f22,f8,f9,fi,fn,hdF,U5,Zf,hk22,F5,G2,y1,y2,E7,hb];refine zJ hJ ?_)))
    exact hJI _ _ (by simp[fi]) (by simp[fn]) ⟨by simp[f0],by simp[f2],by simp[f4],by simp[f13],by simp[f14],by simp[f15],by simp[f5],by simp[f7],by simp[f22],by rw[Yd];simp[f8],by rw[Yd];simp[f9],Xq.trans (aA.new _ _)⟩
  .clear f0 f2 f4 f13 f5 fi fn fr;rintro fr s2 ⟨f0,f2,f4,f13,f14,f15,f5,f7,f22,f8,f9,Xq⟩;rw[aAr sS]at f8 f9;have Xr:=Fu b F.zipIdx;generalize W2:gS b F.zipIdx=pp at *;obtain⟨p1',p2'⟩:=pp;simp only at Xr f8 f9 v5;have hn3:=Xq.next;simp only[aF]at hn3;have G2:s2.H s.next=.box 121 2 [wv (mk g.vs b.inner),wv (mk g.vs b.ends)]:=by rw[Xq.H _ sS];simp
   have P0:s2.H st.next=.box 121 2 [wv 0,wv 0]:=by rw[Xq.H _ (by simp;omega),cB,aAa x3];exact hR
   have J4:s2.H (st.next+1)=.box 121 2 [wv (mk g.vs Zw.inner),wv (mk g.vs Zw.ends)]:=by rw[Xq.H _ (by simp;omega),cB,aAa x4];exact hB5
   have H7:=(hk.trans (aA.new _ _)).trans Xq;have z1:¬s.next=st.next:=oO;have z2:¬st.next+1=st.next:=oO;by_cases YZ:p2'<=1
   .rw[aAe YZ]at v5;subst v5
    (repeat' (first|apply qS|(refine qR (zZ ?_);simp[f2,f7,f8,f9,YZ,G2,P0,z1])|(apply qC;simp[f2,f7,f8,f9,YZ,G2,P0,z1])|(refine zE ?_;intro J hJ;simp[f2,f7,f8,f9,YZ,G2,P0,z1];refine zJ hJ ?_)))
    exact H7.set (aAi _) _
   .rw[aAa YZ]at v5;by_cases C0:at_<0
    .rw[aAe C0]at v5
     (repeat' (first|apply qS|refine qK (zZ ?_)|(apply qC;simp[f4,f5,f7,f8,f9,YZ,C0,G2,J4])|(refine zE ?_;intro J hJ;simp[f4,f5,f7,f8,f9,YZ,C0,G2,J4];refine zJ hJ ?_)))
     exact hJO _ _ (by simp[f15]) (by simp[f14]) ⟨by simp[f0],by simp[f2],by simp[f4],by simp[f13],H7.set oO _,by simp;omega,by(repeat (first|rw[nHh nOo]|rw[sHh oO]|rw[nIi nQq]|rw[sIi oO]));exact P0,b,p1',sS,sS,v5⟩
    .rw[aAa C0]at v5
     (repeat' (first|apply qS|refine qK (zZ ?_)|(apply qC;simp[f4,f5,f7,f8,f9,YZ,C0])|(refine zE ?_;intro J hJ;simp[f4,f5,f7,f8,f9,YZ,C0];refine zJ hJ ?_)))
     exact hJO _ _ (by simp[f15]) (by simp[f14]) ⟨by simp[f0],by simp[f2],by simp[f4],by simp[f13],H7,oO,P0,Zw,at_,by simp[f5],J4,v5⟩
 .rintro fr s ⟨f0,f2,f4,f13,hk,p9,hR,Zw,at_,f5,hB5,v5⟩;rw[List.drop_length,cS]at v5;subst v5;have z1:¬st.next+1=st.next:=oO
  (repeat' (first|apply qS|(refine qR (zZ ?_);simp[f2,f4,f5,hB5,hR,z1])|(refine zE ?_;intro J hJ;simp[f2,f4,f5,hB5,hR,z1];refine zJ hJ ?_)))
  exact hk.set (aAi _) _
theorem yS{α:Type}(f:α->Int):∀ {a b:List α},(a.map f).Pairwise (· < ·)->(b.map f).Pairwise (· < ·)->(∀ x,x∈a↔x∈b)->a=b
 |[],[],_,_,_=>rfl
 |[],y::b,_,_,h=>by have:=(h y).2 sS;simp at this
 |x::a,[],_,_,h=>by have:=(h x).1 sS;simp at this
 |x::a,y::b,ha,hb,h=>by
  simp only[aAj,aBc,aAm,forall_exists_index,and_imp,forall_apply_eq_imp_iff₂]at ha hb;have YH:x=y:=by
   rcases aAf.1 ((h x).1 sS)with h1|h1
   .exact h1
   .rcases aAf.1 ((h y).2 sS)with h2|h2
    .exact h2.symm
    .have:=ha.1 y h2;have:=hb.1 x h1;omega
  subst YH
  congr 1
  refine yS f ha.2 hb.2 fun z=>?_;have hz:=h z;rw[aAf,aAf]at hz;constructor
  .intro hza;rcases hz.1 (.inr hza)with h1|h1
   .subst h1;have:=ha.1 z hza;omega
   .exact h1
  .intro hzb;rcases hz.2 (.inr hzb)with h1|h1
   .subst h1;have:=hb.1 z hzb;omega
   .exact h1
section
variable {α:Type} (f:α->Int)
end
theorem xA{α:Type}{P:List α->Prop}(h0:P [])(h1:∀ l x,P l->P (l++[x]))(l:List α):P l:=by
 rw[<- aEC l];generalize l.reverse=r;induction r with
 |nil=>exact h0
 |cons x r ih=>rw[aCK];exact h1 _ _ ih
def bes(x y:Ed):Bool:=decide (x.a=y.a/\x.b=y.b\/x.a=y.b/\x.b=y.a)
theorem rG{x y:Ed}:bes x y=true↔(x.a=y.a/\x.b=y.b\/x.a=y.b/\x.b=y.a):=by simp[bes]
theorem pE{x y:Ed}(h:bes x y=true):bes y x=true:=by
 rw[rG]at h ⊢;rcases h with⟨h1,h2⟩|⟨h1,h2⟩
 .exact .inl ⟨h1.symm,h2.symm⟩
 .exact .inr ⟨h2.symm,h1.symm⟩
theorem Fe(x:Ed):bes x x=true:=by rw[rG];exact .inl ⟨rfl,rfl⟩
theorem wS{x y z:Ed}(h:bes x y=true)(k:bes y z=true):bes x z=true:=by
 rw[rG]at h k ⊢;rcases h with⟨h1,h2⟩|⟨h1,h2⟩<;>rcases k with⟨k1,k2⟩|⟨k1,k2⟩
 .exact .inl ⟨h1.trans k1,h2.trans k2⟩
 .exact .inr ⟨h1.trans k1,h2.trans k2⟩
 .exact .inr ⟨h1.trans k2,h2.trans k1⟩
 .exact .inl ⟨h1.trans k2,h2.trans k1⟩
def sE(l:List Ed):List Ed:=l.foldl (fun acc x=>if acc.any (bes x)then acc else acc++[x]) []
theorem lO(l:List Ed)(x:Ed):sE (l++[x])=if(sE l).any (bes x)then sE l else sE l++[x]:=by simp[sE,aBo]
theorem nX(l:List Ed):∀ x∈sE l,x∈l:=by
 induction l using xA with
 |h0=>simp[sE]
 |h1 l x ih=>
  intro y hy;rw[lO]at hy
  split at hy
  .exact aAw _ (ih y hy)
  .rcases aAg.1 hy with h|h
   .exact aAw _ (ih y h)
   .exact aAI _ h
theorem Pa(l:List Ed):∀ x∈l,∃ y∈sE l,bes x y=true:=by
 induction l using xA with
 |h0=>simp
 |h1 l x ih=>
  intro y hy;rw[lO];rcases aAg.1 hy with h|h
  .obtain⟨z,h1,h2⟩:=ih y h
   split
   .exact⟨z,h1,h2⟩
   .exact⟨z,aAw _ h1,h2⟩
  .rw[aAl]at h;subst h
   split
   .rename_i ha;rw[aBO]at ha;obtain⟨z,h1,h2⟩:=ha;exact⟨z,h1,h2⟩
   .exact⟨y,aAI _ sS,Fe y⟩
theorem nR(l:List Ed):(sE l).length<=l.length:=by
 induction l using xA with
 |h0=>simp[sE]
 |h1 l x ih=>
  rw[lO]
  split
  .rw[aAh];omega
  .rw[aAh,aAh];simp only[List.length_cons,List.length_nil];omega
theorem Fp(l:List Ed):(sE l).Pairwise fun x y=>bes x y=false:=by
 induction l using xA with
 |h0=>simp[sE]
 |h1 l x ih=>
  rw[lO]
  split
  .exact ih
  .rename_i ha;rw[aBG];refine⟨ih,aCW _ _,fun y hy z hz=>?_⟩;rw[aAl]at hz;subst hz;cases hb:bes y z with
   |false=>rfl
   |true=>exact absurd (aBO.2 ⟨y,hy,pE hb⟩) ha
abbrev hf(x:Ed):List (Int×Int):=[(x.a,x.b),(x.b,x.a)]
def hfs(l:List Ed):List (Int×Int):=l.flatMap hf
theorem Oz(l:List Ed)(x:Ed):hfs (l++[x])=hfs l++[(x.a,x.b)]++[(x.b,x.a)]:=by simp[hfs]
theorem Eg(l:List Ed):(hfs l).length=2*l.length:=by
 induction l with
 |nil=>rfl
 |cons x l ih=>simp only[hfs,aAJ,aAh,List.length_cons,List.length_nil]at ih ⊢;omega
theorem Rr{l:List Ed}{p:Int×Int}:p∈hfs l↔∃ x∈l,(x.a=p.1/\x.b=p.2)\/(x.b=p.1/\x.a=p.2):=by
 obtain⟨p1,p2⟩:=p;simp only[hfs,aAT,aAf,aCe,aDE,aAV];constructor
 .rintro⟨x,hx,⟨rfl,rfl⟩|⟨rfl,rfl⟩⟩
  .exact⟨x,hx,.inl ⟨rfl,rfl⟩⟩
  .exact⟨x,hx,.inr ⟨rfl,rfl⟩⟩
 .rintro⟨x,hx,⟨rfl,rfl⟩|⟨rfl,rfl⟩⟩
  .exact⟨x,hx,.inl ⟨rfl,rfl⟩⟩
  .exact⟨x,hx,.inr ⟨rfl,rfl⟩⟩
def nbH(v:Int)(H:List (Int×Int)):List Int:=(H.filter fun p=>decide (p.1=v)).map (·.2)
theorem FN(v:Int)(H:List (Int×Int))(p:Int×Int):nbH v (H++[p])=nbH v H++if p.1=v then [p.2]else []:=by
 unfold nbH;rw[aBu,aAv];by_cases h:p.1=v
 .simp[h]
 .simp[h]
theorem yT(v:Int)(H:List (Int×Int)):(nbH v H).length<=H.length:=by unfold nbH;rw[aAA];exact aBe _ _
theorem RL{v w:Int}{H:List (Int×Int)}:w∈nbH v H↔(v,w)∈H:=by
 unfold nbH;simp only[aAm,aAz,aBX];constructor
 .rintro⟨p,⟨h1,h2⟩,h3⟩;subst h2 h3;exact h1
 .intro h;exact⟨(v,w),⟨h,rfl⟩,rfl⟩
def LG(x:Int):List Int->List Int
 |[]=>[x]
 |y::l=>if x<=y then x::y::l else y::LG x l
def srt:List Int->List Int
 |[]=>[]
 |x::l=>LG x (srt l)
theorem CZ(x:Int)(l:List Int):(LG x l).Perm (x::l):=by
 induction l with
 |nil=>exact .refl _
 |cons y l ih=>
  unfold LG
  split
  .exact .refl _
  .exact(ih.cons y).trans (.swap x y l)
theorem pS(l:List Int):(srt l).Perm l:=by
 induction l with
 |nil=>exact .refl _
 |cons x l ih=>exact(CZ x _).trans (ih.cons x)
theorem GR(x:Int){l:List Int}(h:l.Pairwise (·<=·)):(LG x l).Pairwise (·<=·):=by
 induction l with
 |nil=>exact aCW _ _
 |cons y l ih=>
  have h':=aBc.1 h;unfold LG
  split
  .rename_i YH;refine aBc.2 ⟨fun z hz=>?_,h⟩;rcases aAf.1 hz with rfl|hz
   .exact YH
   .have:=h'.1 z hz;omega
  .rename_i YH;refine aBc.2 ⟨fun z hz=>?_,ih h'.2⟩;rcases aAf.1 ((CZ x l).mem_iff.1 hz)with rfl|hz
   .omega
   .exact h'.1 z hz
theorem IZ(l:List Int):(srt l).Pairwise (·<=·):=by
 induction l with
 |nil=>exact .nil
 |cons x l ih=>exact GR x ih
theorem rS:∀ {a b:List Int},a.Pairwise (·<=·)->b.Pairwise (·<=·)->a.Perm b->a=b
 |[],b,_,_,h=>by rw[h.nil_eq]
 |x::a,[],_,_,h=>absurd h.symm.nil_eq sS
 |x::a,y::b,ha,hb,h=>by
  obtain⟨a1,a2⟩:=aBc.1 ha;obtain⟨b1,b2⟩:=aBc.1 hb;have YH:x=y:=by
   have h1:x∈y::b:=h.mem_iff.1 sS;have h2:y∈x::a:=h.mem_iff.2 sS;rcases aAf.1 h1 with h1|h1
   .exact h1
   .rcases aAf.1 h2 with h2|h2
    .exact h2.symm
    .have:=b1 x h1;have:=a1 y h2;omega
  subst YH;rw[rS a2 b2 ((List.perm_cons x).1 h)]
theorem Tb{c l:List Int}(h:c.Perm l)(hs:c.Pairwise (·<=·)):c=srt l:=rS hs (IZ l) (h.trans (pS l).symm)
def cR(es:List Ed)(v:Int):List Int:=srt (nbH v (hfs (sE es)))
def adj(es:List Ed)(v w:Int):Prop:=∃ x∈es,(x.a=v/\x.b=w)\/(x.a=w/\x.b=v)
theorem Lm{es:List Ed}{v w:Int}:w∈cR es v↔adj es v w:=by
 unfold cR;rw[(pS _).mem_iff,RL,Rr];constructor
 .rintro⟨x,hx,h⟩;refine⟨x,nX _ _ hx,?_⟩;rcases h with⟨h1,h2⟩|⟨h1,h2⟩
  .exact .inl ⟨h1,h2⟩
  .exact .inr ⟨h2,h1⟩
 .rintro⟨x,hx,h⟩;obtain⟨y,hy,hb⟩:=Pa _ _ hx;refine⟨y,hy,?_⟩;rw[rG]at hb;rcases h with⟨h1,h2⟩|⟨h1,h2⟩<;>rcases hb with⟨b1,b2⟩|⟨b1,b2⟩
  .exact .inl ⟨b1.symm.trans h1,b2.symm.trans h2⟩
  .exact .inr ⟨b1.symm.trans h1,b2.symm.trans h2⟩
  .exact .inr ⟨b2.symm.trans h2,b1.symm.trans h1⟩
  .exact .inl ⟨b2.symm.trans h2,b1.symm.trans h1⟩
instance (es:List Ed) (v w:Int):Decidable (adj es v w):=by unfold adj;exact inferInstance
theorem Lb(es:List Ed)(v:Int):(cR es v).length<=2*es.length:=by have h1:=(pS (nbH v (hfs (sE es)))).length_eq;have h2:=yT v (hfs (sE es));have h3:=Eg (sE es);have h4:=nR es;unfold cR;omega
abbrev Led:=List (Int×Int)
def jE(A:Led)(v:Int):Option Int:=match A with
 |[]=>none
 |p::A=>if v=p.1 then some p.2 else jE A v
theorem Ad{v:Int}:∀ {A:Led},v∉A.map (·.1)->jE A v=none
 |[],_=>rfl
 |p::A,h=>by simp only[aAj,aAf,aCv]at h;simp only[jE];rw[aAa h.1,Ad h.2]
theorem BK{v:Int}:∀ {A:Led},v∈A.map (·.1)->∃ w,jE A v=some w
 |[],h=>by simp at h
 |p::A,h=>by
  simp only[jE];by_cases e:v=p.1
  .exact⟨p.2,by rw[aAe e]⟩
  .rw[aAa e];simp only[aAj,aAf]at h;exact BK (h.resolve_left e)
structure BF where
 A:Led
 Q:List Int
 hit:Bool
def fT(may:Int->Bool)(to v:Int)(S:BF)(u:Int):BF:=
 if S.hit=true then S else if u∈S.A.map (·.1)then S else if u=to then⟨S.A++[(u,v)],S.Q,true⟩else⟨S.A++[(u,v)],if may u=true then S.Q++[u]else S.Q,false⟩
def dG(may:Int->Bool)(to v:Int)(S:BF)(l:List Int):BF:=l.foldl (fT may to v) S
theorem Ck(may:Int->Bool)(to v:Int){S:BF}(h:S.hit=true)(l:List Int):dG may to v S l=S:=by
 induction l with
 |nil=>rfl
 |cons u l ih=>simp only[dG,List.foldl_cons]at ih ⊢;rw[fT,aAe h];exact ih
theorem JP(may:Int->Bool)(to v:Int)(S:BF)(l:List Int)(u:Int):dG may to v S (l++[u])=fT may to v (dG may to v S l) u:=by simp[dG,aBo]
theorem DG(may:Int->Bool)(to v:Int)(S:BF)(l:List Int):(dG may to v S l).Q.length<=S.Q.length+l.length/\(dG may to v S l).A.length<=S.A.length+l.length:=by
 induction l generalizing S with
 |nil=>simp[dG]
 |cons u l ih=>
  have:=ih (fT may to v S u);have h1:(fT may to v S u).Q.length<=S.Q.length+1/\(fT may to v S u).A.length<=S.A.length+1:=by
   unfold fT
   split
   .omega
   .split
    .omega
    .split
     .simp
     .constructor
      .simp only;split<;>simp
      .simp
  simp only[dG,List.foldl_cons,List.length_cons]at this ⊢;omega
def bfs(near:Int->List Int)(may:Int->Bool)(to:Int):Nat->Led->List Int->Option (Option Led)
 |_,_,[]=>some none
 |0,_,_::_=>none
 |n+1,A,v::Q=>if(dG may to v ⟨A,Q,false⟩ (near v)).hit=true then some (some (dG may to v ⟨A,Q,false⟩ (near v)).A)else bfs near may to n (dG may to v ⟨A,Q,false⟩ (near v)).A (dG may to v ⟨A,Q,false⟩ (near v)).Q
def gT(A:Led)(Wn:Int):Nat->Int->Option (List Int)
 |0,v=>if v=Wn then some []else none
 |n+1,v=>if v=Wn then some []else(gT A Wn n ((jE A v).getD 0)).map fun l=>(jE A v).getD 0::l
theorem Ch{A:Led}{Wn:Int}:∀ {n:Nat} {v:Int} {l:List Int},gT A Wn n v=some l->l.length<=n
 |0,v,l,h=>by
  simp only[gT]at h
  split at h
  .injection h with h;subst h;simp
  .cases h
 |n+1,v,l,h=>by
  simp only[gT]at h
  split at h
  .injection h with h;subst h;simp
  .rw[aBm]at h;obtain⟨l',h1,rfl⟩:=h;have:=Ch h1;simp only[List.length_cons];omega
def uO(vs:List Int)(near:Int->List Int)(may:Int->Bool)(Wn to:Int)(n:Nat):Option (List Int):=
 if Wn∉vs\/to∉vs then some []else if Wn=to then some [Wn]else match bfs near may to n [(Wn,Wn)] [Wn] with
  |some none=>some []
  |some (some A)=>(gT A Wn n to).map fun l=>(to::l).reverse
  |none=>none
def kE(x:Ed):List Int:=[if x.b<x.a then x.b else x.a,if x.a<x.b then x.b else x.a]
theorem Hs(x y:Ed):kE x=kE y↔bes x y=true:=by
 rw[rG];unfold kE;simp only[aBj,aDo];constructor
 .rintro⟨h1,h2⟩
  split at h1<;>split at h1<;>split at h2<;>split at h2<;>omega
 .rintro(⟨h1,h2⟩|⟨h1,h2⟩)
  .rw[h1,h2];exact⟨rfl,rfl⟩
  .rw[h1,h2];constructor
   .split<;>split<;>omega
   .split<;>split<;>omega
def bnd(l:List Ed):List (List Int):=(sE l).map fun y=>(l.filter fun x=>bes y x).map (·.id)
theorem Qf(l:List Ed):(bnd l).length=(sE l).length:=by simp[bnd]
theorem KG{l:List Ed}{x:Ed}(h:(sE l).any (bes x)=false):sE (l++[x])=sE l++[x]/\bnd (l++[x])=bnd l++[[x.id]]:=by
 have h':∀ y∈sE l,bes x y=false:=fun y hy=>by
  cases hb:bes x y with
  |false=>rfl
  |true=>rw[aBO.2 ⟨y,hy,hb⟩]at h;cases h
 have hs:sE (l++[x])=sE l++[x]:=by rw[lO,h];rfl
 refine⟨hs,?_⟩;unfold bnd;rw[hs,aAv]
 congr 1
 .refine aAW fun y hy=>?_;have:bes y x=false:=by
   cases hb:bes y x with
   |false=>rfl
   |true=>have:=h' y hy;rw[pE hb]at this;cases this
  rw[aBu];simp[this]
 .have:l.filter (fun z=>bes x z)=[]:=by rw[aDe];intro z hz hb;obtain⟨y,hy,h2⟩:=Pa l z hz;have:=h' y hy;rw[wS hb h2]at this;cases this
  simp[aBu,this,Fe]
theorem RU{l:List Ed}{x:Ed}(h:(sE l).any (bes x)=true):sE (l++[x])=sE l/\∃ L1 y L2 B1 r B2,sE l=L1++y::L2/\bes x y=true/\bnd l=B1++r::B2/\B1.length=L1.length/\bnd (l++[x])=B1++(r++[x.id])::B2/\r.length<=l.length:=by
 have hs:sE (l++[x])=sE l:=by rw[lO,h];rfl
 refine⟨hs,?_⟩;obtain⟨y,hy,hb⟩:=aBO.1 h;obtain⟨L1,L2,hL⟩:=aCf hy;have hap:=Fp l;rw[hL,aBG,aBc]at hap;obtain⟨_,⟨p2,_⟩,p3⟩:=hap;have YI:∀ z,(z∈L1\/z∈L2)->bes z x=false:=by
  intro z hz;cases hzx:bes z x with
  |false=>rfl
  |true=>
   have hzy:=wS hzx hb;rcases hz with hz|hz
   .have:=p3 z hz y sS;rw[hzy]at this;cases this
   .have:=p2 z hz;rw[pE hzy]at this;cases this
 refine⟨L1,y,L2,_,_,_,hL,hb,by unfold bnd;rw[hL,aAv,aAj],sS,?_,?_⟩
 .unfold bnd;rw[hs,hL,aAv,aAj];have e:∀ L:List Ed,(∀ z∈L,bes z x=false)->L.map (fun y=>((l++[x]).filter fun x=>bes y x).map (·.id))=L.map fun y=>(l.filter fun x=>bes y x).map (·.id):=by intro L hL;refine aAW fun z hz=>?_;rw[aBu];simp[hL z hz]
  rw[e L1 fun z hz=>YI z (.inl hz),e L2 fun z hz=>YI z (.inr hz)]
  congr 2
  rw[aBu];simp[pE hb]
 .rw[aAA];exact aBe _ _
structure AtM(l:List Ed)(es:List (List Int×LV)):Prop where
 old:∀ x L1 y L2,sE l=L1++y::L2->bes x y=true->bR es (kE x)=some (i L1.length)
 new:∀ x,(sE l).any (bes x)=false->bR es (kE x)=none
theorem AtM.nil:AtM [] []:=⟨fun x L1 y L2 h _=>by simp[sE]at h,fun x _=>rfl⟩
theorem AtM.keep{l:List Ed}{es:List (List Int×LV)}(h:AtM l es){x:Ed}(hx:sE (l++[x])=sE l):AtM (l++[x]) es:=
 ⟨by rw[hx];exact h.old,by rw[hx];exact h.new⟩
theorem AtM.add{l:List Ed}{es:List (List Int×LV)}(h:AtM l es){x:Ed}(hx:(sE l).any (bes x)=false):AtM (l++[x]) (bQ es (kE x) (i (sE l).length)):=by
 have hs:=(KG hx).1;constructor
 .intro z L1 y L2 hL hb;rw[hs]at hL;rw[qY];rcases aDj L2 with rfl|⟨L2',y',rfl⟩
  .have:=List.append_inj' hL rfl;obtain⟨h1,h2⟩:=this;simp only[aBj,aDo]at h2;subst h1 h2;rw[aAe ((Hs _ _).2 hb)]
  .rw[aDk,show L1++y::(L2'++[y'])=(L1++y::L2')++[y'] by simp]at hL;obtain⟨h1,h2⟩:=List.append_inj' hL rfl;rw[aAa,h.old z L1 y L2' h1 hb];intro hk;have YH:=wS (pE ((Hs _ _).1 hk)) hb;rw[aBO.2 ⟨y,by rw[h1];simp,YH⟩]at hx;cases hx
 .intro z hz;rw[hs,List.any_append,Bool.or_eq_false_iff]at hz;rw[qY,aAa,h.new z hz.1];intro hk;have:=(Hs _ _).1 hk;simp[this]at hz
abbrev TR:=Nat×List Int
def GO(p:TR):LV:=.sl p.1 p.2.length (us p.2)
def bM(R:List TR):List LV:=R.map GO
theorem kY(R:List TR):(bM R).length=R.length:=by simp[bM]
structure XS(E:List Ed)(Xs:St)(L2 L4 M te q:Nat)(vs:List Int)(mes:List (List Int×LV))(R:List TR)(s:St):Prop where
 h2:s.H L2=.box 25 2 [.nil,.nil]
 h4:s.H L4=.box 25 2 [.sl 0 vs.length (us vs),.sl te (sE E).length (eds (sE E))]
 ht:s.H te=.own 56 3 (sE E).length
 hM:s.H M=.map true [.u32,.u32] mes
 hq:s.H q=.box 22 1 (bM R)
 bn:R.map (·.2)=bnd E
 at':AtM E mes
 nd:(R.map (·.1)).Nodup
 tk:∀ p∈R,Xs.next<=p.1/\p.1<s.next/\s.H p.1=.own 34 1 p.2.length
 b:Xs.next<=L2/\Xs.next<=L4/\Xs.next<=M/\Xs.next<=te/\Xs.next<=q/\L2<s.next/\L4<s.next/\M<s.next/\te<s.next/\q<s.next
 kp:aA Xs s
def Wf(g:Gr)(Xs:St)(L2 L4 M k:Nat)(fr:Frm)(s:St):Prop:=
 fr 2=.pt L2 0/\fr 4=.pt L4 0/\fr 6=.mp M/\fr 18=.sl 0 g.es.length (eds g.es)/\fr 19=i g.es.length/\fr 20=i k/\
 ∃ te q mes R,fr 5=.ms q 0 R.length/\XS (g.es.take k) Xs L2 L4 M te q g.vs mes R s
theorem bU{st:St}{a b:Nat}{x y:cI}(ha:st.H a=x)(hb:st.H b=y)(h:x≠y):¬a=b:=fun e=>h (by rw[<- ha,e,hb])
theorem zA(l:List Ed):z0L (eds l)=eds l:=by
 induction l with
 |nil=>rfl
 |cons e l ih=>simp only[eds,aAJ,List.cons_append,List.nil_append,z0L,z0]at ih ⊢;rw[ih]
theorem ND(R:List TR):z0L (bM R)=R.map fun p=>.sl 0 p.2.length (us p.2):=by rw[nM,bM,aBf];refine aAW fun p _=>?_;simp[GO,z0]
theorem Pq(g:Gr)(st:St)(hv:g.vs.length<=1048576)(he:g.es.length<=1000)(hp:0<st.next):
 aB prog 42 [.ag (grL g)] st fun r st'=>r=.tu [.ag [.sl 0 g.vs.length (us g.vs),.sl 0 (sE g.es).length (eds (sE g.es))],.sl 0 (bnd g.es).length ((bnd g.es).map fun l=>.sl 0 l.length (us l))]/\aA st st':=by
 refine eE ?_;have hel:=aK g.es;refine zN func42 ntmps42 [.cell 2 25,.tmp 3] ?_
 (repeat' (first|apply qS|(refine zE ?_;intro J hJ;simp[];(try refine zJ hJ ?_))))
 refine qE (PU g.vs 0 _ hv) (by simp[]) ?_;rintro r st' ⟨rfl,Xn⟩;have YZ:=Xn.next;simp only[aF]at YZ;have ZW:st'.H st.next=.box 25 2 (grL g):=by rw[Xn.H _ (by simp<;>omega)];simp
 have hC1:st'.H (st.next+1)=.box 25 2 [.nil,.nil]:=by rw[Xn.H _ sS];simp
 have Xm:aA st st':=((aA.new _ _).trans (aA.new _ _)).trans Xn;generalize hL:st'=s1 at *;have e1:¬st.next=s1.next:=oO;have e2:¬st.next=s1.next+1:=oO
 (repeat' (first|apply qS|apply qB|((first|(refine zE ?_;intro J hJ)|(apply aD));simp[e1,e2,ZW];refine zJ hJ ?_)))
 refine Fj s1.next 56 3 (e:=25) (s:=2) [.sl 0 g.vs.length (us g.vs)] [] sS ?_;refine tI 5 22 1 sS ?_;refine qL (fun n fr s=>∃ k:Nat,k<=g.es.length/\n=g.es.length-k/\Wf g st (st.next+1) s1.next (s1.next+1) k fr s) g.es.length ?_ ?_
 .refine⟨0,oO,oO,sS,sS,sS,sS,sS,sS,s1.next+2,s1.next+3,[],[],sS,?_⟩;have h5:¬st.next=s1.next+2:=oO;have h1:¬st.next+1=s1.next:=oO;refine⟨by simp[h1,h5,e1,e2,hC1],by simp[sE]<;>omega,by simp[sE],sS,by simp[bM],by simp[bnd,sE],AtM.nil,sS,sS,⟨oO,oO,oO,oO,oO,by simp<;>omega,by simp<;>omega,sS,sS,sS⟩,?_⟩;exact(((((Xm.trans (aA.new _ _)).trans (aA.new _ _)).trans (aA.new _ _)).set oO _).trans (aA.new _ _))
 rintro n fr s ⟨k,hk,rfl,f2,f4,f6,f18,f19,f20,te,q,mes,R,f5,hB⟩ JJ hJJ;obtain⟨H2,H4,Ht,HM,Hq,hbn,C0,hnd,YP,⟨b1,b2,b3,b4,b5,b6,b7,b8,b9,b10⟩,hkps⟩:=hB;have q24:¬q=s1.next:=bU Hq H4 sS;by_cases dN:k<g.es.length;rotate_left
 .clear hJJ;have ZA:k=g.es.length:=oO;rw[ZA,aAQ]at H4 Ht hbn;have ZR:(bnd g.es).length=R.length:=by rw[<- hbn,aAA]
  have n1:¬st.next+1=q:=bU H2 Hq sS;have n2:¬s1.next=q:=fun h=>q24 h.symm;have n3:¬s1.next=st.next+1:=oO;have I1:=nR g.es;refine sY 5 f5 Hq (by simp[kY]) ?_;have htk2:(bM R).take (R.length*1)=bM R:=aAr (by rw[kY];omega);rw[htk2]
  (repeat' (first|apply qS|refine qX (zZ ?_)|(refine qR (zZ ?_);simp[f2,f4,f19,f20,dN,H4,H2,n1,n2,n3])|(apply qC;simp[f2,f4,f19,f20,dN,H4,H2,n1,n2,n3])|(refine zE ?_;intro J hJ;simp[f2,f4,f19,f20,dN,H4,H2,n1,n2,n3];refine zJ hJ ?_)))
  refine⟨?_,(hkps.set oO _).set oO _⟩;rw[ZR,<- hbn];simp only[z0,z0L,HY,zA,ND,aBf];rfl
 have hd:=aR g.es k dN;have hw:=qN k oO;have Xq:k*3<g.es.length*3:=oO;have htk1:g.es.take (k+1)=g.es.take k++[g.es.getD k ed0]:=by rw[aAc,aAd dN];exact aAn dN
 have hEl:(g.es.take k).length<=1000:=by rw[aAo];omega
 generalize g.es.getD k ed0=x at *;generalize hE:g.es.take k=E at *;obtain⟨id,a,b⟩:=x;simp only at hd;cases hany:(sE E).any (bes ⟨id,a,b⟩)
 .have hm:=C0.new ⟨id,a,b⟩ hany;simp only[kE]at hm;have ZZ:(List.map (fun _:Ed=>3) (sE E)).sum=(sE E).length*3:=by
   induction sE E with
   |nil=>rfl
   |cons x l ih=>simp only[aAj,List.sum_cons,List.length_cons,ih];omega
  have I1:=nR E;have te0:¬te=0:=oO;have Xk:=kY R;have hRl:R.length=(sE E).length:=by rw[<- Qf,<- hbn,aAA]
  have htR:List.take R.length (bM R)=bM R:=aAr oO;have u6:List.drop R.length (bM R++[LV.nil])=[.nil]:=by rw[<- Xk];exact aDw
  have htl:List.take R.length (bM R++[LV.nil])=bM R:=by rw[<- Xk];exact aDx
  have hdl2:List.drop (R.length+1) (bM R++[LV.nil])=[]:=aEm (by simp[Xk]);have hRn:((R.length:Int)).toNat=R.length:=oO;have c0:¬s1.next=s.next:=oO;have c0':¬s.next=s1.next:=oO;have c1:¬s1.next=s.next+1:=oO;have c1':¬s.next+1=s1.next:=oO;have c2:¬s1.next=s.next+2:=oO;have c2':¬s.next+2=s1.next:=oO;have c3:¬s1.next=s.next+3:=oO;have c3':¬s.next+3=s1.next:=oO;have c4:¬s1.next=s.next+4:=oO;have c4':¬s.next+4=s1.next:=oO;have e0:¬te=s.next:=oO;have e0':¬s.next=te:=oO;have e1:¬te=s.next+1:=oO;have e1':¬s.next+1=te:=oO;have e2:¬te=s.next+2:=oO;have e2':¬s.next+2=te:=oO;have e3:¬te=s.next+3:=oO;have e3':¬s.next+3=te:=oO;have e4:¬te=s.next+4:=oO;have e4':¬s.next+4=te:=oO;have d0:¬q=s.next:=oO;have d0':¬s.next=q:=oO;have d1:¬q=s.next+1:=oO;have d1':¬s.next+1=q:=oO;have d2:¬q=s.next+2:=oO;have d2':¬s.next+2=q:=oO;have d3:¬q=s.next+3:=oO;have d3':¬s.next+3=q:=oO;have d4:¬q=s.next+4:=oO;have d4':¬s.next+4=q:=oO;have c9:¬s1.next+1=s.next:=oO;have c9':¬s.next=s1.next+1:=oO;have n1:¬te=s1.next:=bU Ht H4 sS;have n2:¬te=s1.next+1:=bU Ht HM sS;have n3:¬q=s1.next+1:=bU Hq HM sS;have n4:¬q=te:=bU Hq Ht sS;have n1':¬s1.next=te:=fun h=>n1 h.symm;have n2':¬s1.next+1=te:=fun h=>n2 h.symm;have n3':¬s1.next+1=q:=fun h=>n3 h.symm;have n4':¬te=q:=fun h=>n4 h.symm;have n5':¬s1.next=q:=fun h=>q24 h.symm;have r2:¬s.next=s.next+1+1:=oO;have r3:¬s.next=s.next+1+1+1:=oO;have r4:¬s.next=s.next+1+1+1+1:=oO;have r5:¬s.next=s.next+1+1+1+1+1:=oO;have r6:¬s.next=s.next+1+1+1+1+1+1:=oO;have r7:¬s.next=s.next+1+1+1+1+1+1+1:=oO;have p1:R.length<R.length+1:=oO
  (repeat' (first|apply qS|apply qB|refine qK (zZ ?_)|(apply qC;simp[Xk,htR,ZZ,te0,c0,c0',c1,c1',c2,c2',c3,c3',c4,c4',e0,e0',e1,e1',e2,e2',e3,e3',e4,e4',d0,d0',d1,d1',d2,d2',d3,d3',d4,d4',c9,c9',n1,n2,n3,n4,n1',n2',n3',n4',n5',Ht,Hq,q24,f4,f5,f6,f18,f19,f20,dN,hd,hel,Xq,hw,H4,HM,hm])|(refine zE ?_;intro J hJ;simp[Xk,htR,ZZ,te0,c0,c0',c1,c1',c2,c2',c3,c3',c4,c4',e0,e0',e1,e1',e2,e2',e3,e3',e4,e4',d0,d0',d1,d1',d2,d2',d3,d3',d4,d4',c9,c9',n1,n2,n3,n4,n1',n2',n3',n4',n5',Ht,Hq,q24,f4,f5,f6,f18,f19,f20,dN,hd,hel,Xq,hw,H4,HM,hm];(repeat refine ca ?_);refine zJ hJ ?_)))
  (refine zS [] [s.next,s.next+1+1+1+1+1] [0,2,4,6,8,10,12,14,16,18,20,23] ?_;intro J hJ;simp[r2,r3,r4,r5,r6,r7,c0,c0',c1,c1',c2,c2',c3,c3',c4,c4',e0,e0',e1,e1',e2,e2',e3,e3',e4,e4',d0,d0',d1,d1',d2,d2',d3,d3',d4,d4',c9,c9',n1,n2,n3,n4,n1',n2',n3',n4',n5',Xk,htR,u6,htl,hdl2,p1];(repeat refine ca ?_);refine zJ hJ ?_)
  (repeat' (refine zE ?_;intro J hJ;simp[f20,hw];refine zJ hJ ?_))
  have l1:¬st.next+1=te:=bU H2 Ht sS;have l2:¬st.next+1=q:=bU H2 Hq sS;obtain⟨hs,hb⟩:=KG hany;refine hJJ (g.es.length-(k+1)) _ _ oO ⟨k+1,oO,rfl,by simp[f2],by simp[f4],by simp[f6],by simp[f18],by simp[f19],sS,s.next+3,s.next+5,bQ mes (kE ⟨id,a,b⟩) (i (sE E).length),R++[(s.next+7,[id])],sS,?_⟩;rw[htk1];refine⟨?_,?_,?_,?_,?_,?_,C0.add hany,?_,?_,?_,?_⟩
  ·(repeat (first|rw[nHh nOo]|rw[sHh oO]|rw[nIi nQq]|rw[sIi oO]));exact H2
  ·(repeat (first|rw[nHh nOo]|rw[sHh oO]|rw[nIi nQq]|rw[sIi oO]));rw[hs];simp[eds]
  ·(repeat (first|rw[nHh nOo]|rw[sHh oO]|rw[nIi nQq]|rw[sIi oO]));rw[hs];simp
  ·(repeat (first|rw[nHh nOo]|rw[sHh oO]|rw[nIi nQq]|rw[sIi oO]));rw[hRl];rfl
  ·(repeat (first|rw[nHh nOo]|rw[sHh oO]|rw[nIi nQq]|rw[sIi oO]));simp[bM,GO]
  .rw[aAv,hbn,hb];rfl
  .rw[aAv,aAs];refine⟨hnd,sS,fun x hx y hy=>?_⟩;obtain⟨p,hp,rfl⟩:=aAm.1 hx;simp at hy;have:=(YP p hp).2.1;omega
  .intro p hp;rcases aAg.1 hp with hp|hp
   .obtain⟨h1,h2,h3⟩:=YP p hp;have t1:¬p.1=te:=bU h3 Ht sS;have t2:¬p.1=q:=bU h3 Hq sS;have t3:¬p.1=s1.next:=bU h3 H4 sS;have t4:¬p.1=s1.next+1:=bU h3 HM sS;refine⟨h1,by simp<;>omega,?_⟩
    (repeat (first|rw[nHh nOo]|rw[sHh oO]|rw[nIi nQq]|rw[sIi oO]));exact h3
   .rw[aAl]at hp;subst hp;refine⟨by simp<;>omega,sS,?_⟩
    (repeat (first|rw[nHh nOo]|rw[sHh oO]|rw[nIi nQq]|rw[sIi oO]));rfl
  .simp only[bC,aF];omega
  .refine⟨by have:=hkps.next;simp only[bC,aF];omega,fun l hl=>?_⟩
   (repeat (first|rw[nHh nOo]|rw[sHh oO]|rw[nIi nQq]|rw[sIi oO]));exact hkps.H l hl
 obtain⟨hs,L1,y,L2,B1,r,B2,hL,hyb,P2,hBl,Zj,Z3⟩:=RU hany;have hm:=C0.old ⟨id,a,b⟩ L1 y L2 hL hyb;simp only[kE]at hm;rw[P2]at hbn;obtain⟨R1,R',rfl,hR1,hR'⟩:=aEn.1 hbn;obtain⟨p,R2,rfl,hpr,P0⟩:=aED.1 hR';obtain⟨t0,r0⟩:=p;simp only at hpr;subst hpr;obtain⟨hb1,c7,hb3⟩:=YP (t0,r0) sS;simp only at hb1 c7 hb3;have hR1l:R1.length=L1.length:=by rw[<- hBl,<- hR1,aAA]
 have Xk:(bM (R1++(t0,r0)::R2)).length=R1.length+(R2.length+1):=by rw[kY];simp
 have hRl:(R1++(t0,r0)::R2).length=R1.length+(R2.length+1):=sS;have ZJ:bM (R1++(t0,r0)::R2)=bM R1++.sl t0 r0.length (us r0)::bM R2:=by simp[bM,GO]
 have A4:(bM R1).length=R1.length:=kY R1;have u6:List.drop R1.length (bM R1++LV.sl t0 r0.length (us r0)::bM R2)=.sl t0 r0.length (us r0)::bM R2:=by rw[<- A4];exact aDw
 have htl:List.take R1.length (bM R1++LV.sl t0 r0.length (us r0)::bM R2)=bM R1:=by rw[<- A4];exact aDx
 have hdl2:List.drop (R1.length+1) (bM R1++LV.sl t0 r0.length (us r0)::bM R2)=bM R2:=by rw[<- A4,show bM R1++LV.sl t0 r0.length (us r0)::bM R2=(bM R1++[LV.sl t0 r0.length (us r0)])++bM R2 by simp];rw[show(bM R1).length+1=(bM R1++[LV.sl t0 r0.length (us r0)]).length by simp];exact aDw
 rw[hRl]at f5;rw[ZJ]at Hq;rw[<- hR1l]at hm;have t00:¬t0=0:=oO;have m1:¬s1.next=s.next:=oO;have m1':¬s.next=s1.next:=oO;have m2:¬s1.next+1=s.next:=oO;have m2':¬s.next=s1.next+1:=oO;have m5:¬t0=s.next:=oO;have m6:¬t0=s.next+1:=oO;have m6b:¬t0=s.next+2:=oO;have m5':¬s.next=t0:=oO;have m6':¬s.next+1=t0:=oO;have m6b':¬s.next+2=t0:=oO;have m7:¬q=s.next:=oO;have m8:¬q=s.next+1:=oO;have m9:¬q=s.next+2:=oO;have m9b:¬q=s.next+3:=oO;have n4:¬q=t0:=bU Hq hb3 sS;have r2:¬s.next=s.next+1+1:=oO;have r3:¬s.next=s.next+1+1+1:=oO;have p1:R1.length<R1.length+(R2.length+1):=oO;have p2:(R1.length:Int)<(R1.length:Int)+((R2.length:Int)+1):=oO;have hr1:r0.length<=1000:=oO
 (repeat' (first|apply qS|apply qB|refine qK (zZ ?_)|(apply qC;simp[m1,m1',m2,m2',f4,f5,f6,f18,f19,f20,dN,hd,hel,Xq,hw,HM,hm])|(refine zE ?_;intro J hJ;simp[m1,m1',m2,m2',f4,f5,f6,f18,f19,f20,dN,hd,hel,Xq,hw,HM,hm];refine zJ hJ ?_)))
 (refine zS [] [s.next,q] [0,2,4,6,8,10,12,14,16,18,20,23] ?_;intro J hJ;simp[m1,m1',m2,m2',m5,m6,m6b,m5',m6',m6b',m7,m8,m9,m9b,n4,r2,r3,f5,Hq,hb3,A4,u6,htl,hdl2,p1,p2,t00];(repeat refine ca ?_);refine zJ hJ ?_)
 (repeat' (refine zE ?_;intro J hJ;simp[f20,hw];refine zJ hJ ?_))
 have l2:¬st.next+1=q:=bU H2 Hq sS;have l3:¬st.next+1=t0:=bU H2 hb3 sS;have l4:¬s1.next=q:=fun h=>q24 h.symm;have l5:¬s1.next=t0:=bU H4 hb3 sS;have l6:¬s1.next+1=q:=bU HM Hq sS;have l7:¬s1.next+1=t0:=bU HM hb3 sS;have l8:¬te=q:=bU Ht Hq sS;have l9:¬te=t0:=bU Ht hb3 sS;refine hJJ (g.es.length-(k+1)) _ _ oO ⟨k+1,oO,rfl,by simp[f2],by simp[f4],by simp[f6],by simp[f18],by simp[f19],sS,te,q,mes,R1++(s.next+3,r0++[id])::R2,by simp[f5],?_⟩;rw[htk1];have hnd':=hnd;rw[aAv,aAj,aAs,aAD]at hnd';obtain⟨nd1,⟨nd2,nd3⟩,nd4⟩:=hnd';refine⟨?_,?_,?_,?_,?_,?_,C0.keep hs,?_,?_,?_,?_⟩
 ·(repeat (first|rw[nHh nOo]|rw[sHh oO]|rw[nIi nQq]|rw[sIi oO]));exact H2
 ·(repeat (first|rw[nHh nOo]|rw[sHh oO]|rw[nIi nQq]|rw[sIi oO]));rw[hs];exact H4
 ·(repeat (first|rw[nHh nOo]|rw[sHh oO]|rw[nIi nQq]|rw[sIi oO]));rw[hs];exact Ht
 ·(repeat (first|rw[nHh nOo]|rw[sHh oO]|rw[nIi nQq]|rw[sIi oO]));exact HM
 ·(repeat (first|rw[nHh nOo]|rw[sHh oO]|rw[nIi nQq]|rw[sIi oO]));simp[bM,GO]
 .rw[Zj,aAv,aAj,hR1,P0]
 .rw[aAv,aAj,aAs,aAD];have lt1:∀ x∈R1.map (·.1),x<s.next:=fun x hx=>by obtain⟨p,hp,rfl⟩:=aAm.1 hx;exact(YP p (by simp[hp])).2.1
  have lt2:∀ x∈R2.map (·.1),x<s.next:=fun x hx=>by obtain⟨p,hp,rfl⟩:=aAm.1 hx;exact(YP p (by simp[hp])).2.1
  refine⟨nd1,⟨fun h=>by have:=lt2 _ h;omega,nd3⟩,fun x hx y hy=>?_⟩;rcases aAf.1 hy with rfl|hy
  .have:=lt1 x hx;simp only;omega
  .exact nd4 x hx y (aAk _ hy)
 .intro p hp;have old:∀ p,p∈R1\/p∈R2->¬p.1=t0->st.next<=p.1/\p.1<s.next/\s.H p.1=.own 34 1 p.2.length/\¬p.1=t0/\¬p.1=q:=by intro p hp Wx;obtain⟨h1,h2,h3⟩:=YP p (by rcases hp with hp|hp<;>simp[hp]);exact⟨h1,h2,h3,Wx,bU h3 Hq sS⟩
  have Zh:(p∈R1\/p∈R2)/\¬p.1=t0\/p=(s.next+3,r0++[id]):=by
   rcases aAg.1 hp with hp|hp
   .exact .inl ⟨.inl hp,nd4 _ (aAm.2 ⟨p,hp,rfl⟩) t0 sS⟩
   .rcases aAf.1 hp with hp|hp
    .exact .inr hp
    .exact .inl ⟨.inr hp,fun h=>nd2 (by rw[<- h];exact aAm.2 ⟨p,hp,rfl⟩)⟩
  rcases Zh with⟨hp,Wx⟩|rfl
  .obtain⟨h1,h2,h3,t1,t2⟩:=old p hp Wx;refine⟨h1,by simp only[bC,aF];omega,?_⟩
   (repeat (first|rw[nHh nOo]|rw[sHh oO]|rw[nIi nQq]|rw[sIi oO]));exact h3
  .refine⟨by simp only;omega,sS,?_⟩;simp only
   (repeat (first|rw[nHh nOo]|rw[sHh oO]|rw[nIi nQq]|rw[sIi oO]));simp
 .simp only[bC,aF];omega
 .refine⟨by have:=hkps.next;simp only[bC,aF];omega,fun l hl=>?_⟩
  (repeat (first|rw[nHh nOo]|rw[sHh oO]|rw[nIi nQq]|rw[sIi oO]));exact hkps.H l hl
abbrev VB:=Int×Nat
def iE(H:List (Int×Int))(L:List VB):List (List Int×LV):=L.map fun p=>([p.1],.ms p.2 0 (nbH p.1 H).length)
structure NbM(H:List (Int×Int))(lo:Nat)(m:Nat)(L:List VB)(s:St):Prop where
 hm:s.H m=.map false [.u32] (iE H L)
 bx:∀ p∈L,lo<=p.2/\p.2<s.next/\s.H p.2=.box 34 1 (us (nbH p.1 H))
 nd:(L.map (·.2)).Nodup
 kd:(L.map (·.1)).Nodup
 all:∀ v,nbH v H≠[]↔v∈L.map (·.1)
theorem vC{H:List (Int×Int)}{v:Int}:∀ {L:List VB},v∉L.map (·.1)->bR (iE H L) [v]=none
 |[],_=>rfl
 |p::L,h=>by simp only[aAj,aAf,aCv]at h;simp only[iE,aAj,bR];rw[aAa (by simpa using h.1)];exact vC h.2
theorem vS{H:List (Int×Int)}{v:Int}{q:Nat}:∀ {L1 L2:List VB},v∉L1.map (·.1)->bR (iE H (L1++(v,q)::L2)) [v]=some (.ms q 0 (nbH v H).length)
 |[],L2,_=>by simp[iE,bR]
 |p::L1,L2,h=>by simp only[aAj,aAf,aCv]at h;simp only[List.cons_append,iE,aAj,bR];rw[aAa (by simpa using h.1)];exact vS h.2
theorem Fh{H H':List (Int×Int)}{v:Int}{q q':Nat}:∀ {L1 L2:List VB},v∉L1.map (·.1)->v∉L2.map (·.1)->(∀ u,u≠v->nbH u H'=nbH u H)->bQ (iE H (L1++(v,q)::L2)) [v] (.ms q' 0 (nbH v H').length)=iE H' (L1++(v,q')::L2)
 |[],L2,_,h2,hn=>by
  simp only[List.nil_append,iE,aAj,bQ,beq_self_eq_true,aBn]
  congr 1
  refine aAW fun p hp=>?_;rw[hn p.1 (fun e=>h2 (by rw[<- e];exact aAm.2 ⟨p,hp,rfl⟩))]
 |p::L1,L2,h,h2,hn=>by simp only[aAj,aAf,aCv]at h;have ih:=Fh (H:=H) (H':=H') (q:=q) (q':=q') (L1:=L1) (L2:=L2) h.2 h2 hn;simp only[List.cons_append,iE,aAj,bQ]at ih ⊢;rw[aAa (by simpa using h.1),ih,hn p.1 (fun e=>h.1 e.symm)]
theorem Fs{H H':List (Int×Int)}{v:Int}{q':Nat}:∀ {L:List VB},v∉L.map (·.1)->(∀ u,u≠v->nbH u H'=nbH u H)->bQ (iE H L) [v] (.ms q' 0 (nbH v H').length)=iE H' (L++[(v,q')])
 |[],_,_=>rfl
 |p::L,h,hn=>by simp only[aAj,aAf,aCv]at h;have ih:=Fs (H:=H) (H':=H') (q':=q') (L:=L) h.2 hn;simp only[List.cons_append,iE,aAj,bQ]at ih ⊢;rw[aAa (by simpa using h.1),ih,hn p.1 (fun e=>h.1 e.symm)]
theorem CU{H:List (Int×Int)}{a b u:Int}(h:u≠a):nbH u (H++[(a,b)])=nbH u H:=by rw[FN,aAa (fun e=>h e.symm),aAP]
theorem mS{H:List (Int×Int)}{a b:Int}:nbH a (H++[(a,b)])=nbH a H++[b]:=by rw[FN,aAe rfl]
theorem NbM.add{H:List (Int×Int)}{lo m:Nat}{L:List VB}{s:St}(h:NbM H lo m L s){a b:Int}(ha:a∉L.map (·.1)){q':Nat}{s':St}(hq:lo<=q'/\s.next<=q'/\q' < s'.next)
 (hm:s'.H m=.map false [.u32] (bQ (iE H L) [a] (.ms q' 0 (nbH a H++[b]).length))) (hb:s'.H q'=.box 34 1 (us (nbH a H++[b]))) (ho:∀ p∈L,s'.H p.2=s.H p.2) (hn:s.next<=s'.next):NbM (H++[(a,b)]) lo m (L++[(a,q')]) s':=by
 have Za:∀ u,u≠a->nbH u (H++[(a,b)])=nbH u H:=fun u hu=>CU hu;refine⟨?_,fun p hp=>?_,?_,?_,fun v=>?_⟩
 .rw[hm,<- mS,Fs ha Za]
 .rcases aAg.1 hp with hp|hp
  .obtain⟨h1,h2,h3⟩:=h.bx p hp;exact⟨h1,oO,by rw[ho p hp,h3,Za p.1 (fun e=>ha (by rw[<- e];exact aAm.2 ⟨p,hp,rfl⟩))]⟩
  .rw[aAl]at hp;subst hp;exact⟨hq.1,hq.2.2,by rw[hb,mS]⟩
 .rw[aAv,aAs];refine⟨h.nd,sS,fun x hx y hy=>?_⟩;obtain⟨p,hp,rfl⟩:=aAm.1 hx;simp at hy;have:=(h.bx p hp).2.1;omega
 .rw[aAv,aAs];exact⟨h.kd,sS,fun x hx y hy=>by simp at hy;subst hy;rintro rfl;exact ha hx⟩
 .rw[aAv,aAg];by_cases hv:v=a
  .subst hv;rw[mS];simp
  .rw[Za v hv,h.all v];simp[hv]
theorem NbM.put{H:List (Int×Int)}{lo m:Nat}{L1 L2:List VB}{s:St}{a b:Int}{q:Nat}(h:NbM H lo m (L1++(a,q)::L2) s){q':Nat}{s':St}(hq:lo<=q'/\s.next<=q'/\q' < s'.next)
 (hm:s'.H m=.map false [.u32] (bQ (iE H (L1++(a,q)::L2)) [a] (.ms q' 0 (nbH a H++[b]).length))) (hb:s'.H q'=.box 34 1 (us (nbH a H++[b]))) (ho:∀ p,p∈L1\/p∈L2->p.2≠q->p.2<s.next->s'.H p.2=s.H p.2) (hn:s.next<=s'.next):NbM (H++[(a,b)]) lo m (L1++(a,q')::L2) s':=by
 have Za:∀ u,u≠a->nbH u (H++[(a,b)])=nbH u H:=fun u hu=>CU hu;have kd:=h.kd;have nd:=h.nd;rw[aAv,aAj,aAs,aAD]at kd nd;obtain⟨kd1,⟨kd2,kd3⟩,kd4⟩:=kd;obtain⟨nd1,⟨nd2,nd3⟩,nd4⟩:=nd;have ha1:a∉L1.map (·.1):=fun e=>kd4 a e a sS rfl;have hb1:∀ p,p∈L1\/p∈L2->p.1≠a/\p.2≠q/\(lo<=p.2/\p.2<s.next/\s.H p.2=.box 34 1 (us (nbH p.1 H))):=by
  intro p hp;refine⟨?_,?_,h.bx p (by rcases hp with hp|hp<;>simp[hp])⟩
  .rcases hp with hp|hp
   .exact fun e=>ha1 (by rw[<- e];exact aAm.2 ⟨p,hp,rfl⟩)
   .exact fun e=>kd2 (by rw[<- e];exact aAm.2 ⟨p,hp,rfl⟩)
  .rcases hp with hp|hp
   .exact nd4 _ (aAm.2 ⟨p,hp,rfl⟩) q sS
   .exact fun e=>nd2 (by rw[<- e];exact aAm.2 ⟨p,hp,rfl⟩)
 refine⟨?_,fun p hp=>?_,?_,?_,fun v=>?_⟩
 .rw[hm,<- mS,Fh ha1 kd2 Za]
 .have Zh:(p∈L1\/p∈L2)\/p=(a,q'):=by
   rcases aAg.1 hp with hp|hp
   .exact .inl (.inl hp)
   .rcases aAf.1 hp with hp|hp
    .exact .inr hp
    .exact .inl (.inr hp)
  rcases Zh with hp|rfl
  .obtain⟨h1,h2,h3,h4,h5⟩:=hb1 p hp;exact⟨h3,oO,by rw[ho p hp h2 h4,h5,Za p.1 h1]⟩
  .exact⟨hq.1,hq.2.2,by rw[hb,mS]⟩
 .rw[aAv,aAj,aAs,aAD];have lt:∀ p,p∈L1\/p∈L2->p.2<s.next:=fun p hp=>(hb1 p hp).2.2.2.1;refine⟨nd1,⟨fun e=>?_,nd3⟩,fun x hx y hy=>?_⟩
  .obtain⟨p,hp,e⟩:=aAm.1 e;have:=lt p (.inr hp);simp only at e;omega
  .rcases aAf.1 hy with rfl|hy
   .obtain⟨p,hp,rfl⟩:=aAm.1 hx;have:=lt p (.inl hp);omega
   .exact nd4 x hx y (aAk _ hy)
 .have:=h.kd;rw[aAv,aAj]at this ⊢;exact this
 .by_cases hv:v=a
  .subst hv;rw[mS];simp
  .rw[Za v hv,h.all v,aAv,aAv,aAj,aAj]
theorem mD{α β:Type}{f:α->β}:∀ {L:List α},(L.map f).Nodup->∀ {x y:α},x∈L->y∈L->f x=f y->x=y
 |[],_,_,_,hx,_,_=>by simp at hx
 |z::L,h,x,y,hx,hy,e=>by
  simp only[aAj,aAD]at h;rcases aAf.1 hx with Zm|Zm<;>rcases aAf.1 hy with P5|P5
  .rw[Zm,P5]
  .exact absurd (aAm.2 ⟨y,P5,by rw[<- e,Zm]⟩) h.1
  .exact absurd (aAm.2 ⟨x,Zm,by rw[e,P5]⟩) h.1
  .exact mD h.2 Zm P5 e
theorem BL{P:Program}{N:Nat}{Q:AQ}{k:List fS}{fr:Frm}{st:St}{x:Code}(I:Frm->St->Prop)(h1:AWp P N x (AK P N (fun e f s=>e=.normal/\I f s) []) fr st)(h2:∀ fr st,I fr st->AK P N Q k .normal fr st):
 AWp P N x (AK P N Q k) fr st:=by
 refine cZ h1 ?_;rintro e Xj st' ⟨rfl,hI⟩;exact h2 _ _ hI
theorem NC{P:Program}{N:Nat}{Q:AQ}{c:Code}{fr:Frm}{st:St}(I:Frm->St->Prop)(h0:I fr st)(h:∀ fr st,I fr st->AWp P N c Q fr st):AWp P N c Q fr st:=h _ _ h0
theorem NbM.keeps{H:List (Int×Int)}{lo m:Nat}{L:List VB}{s s':St}(h:NbM H lo m L s)(k:aA s s')(hm:m<s.next):NbM H lo m L s':=
 ⟨by rw[k.H m hm];exact h.hm,fun p hp=>by obtain⟨h1,h2,h3⟩:=h.bx p hp;exact⟨h1,aAp h2 k.next,by rw[k.H _ h2];exact h3⟩,h.nd,h.kd,h.all⟩
def SoI(Xs:St)(H:List (Int×Int))(M:Nat)(L:List VB)(Lr:List (List Int×LV))(fr:Frm)(s:St):Prop:=
 fr 3=.mp M/\(Lr.map (·.1)).Nodup/\(∀ e∈Lr,∃ p∈L,e=([p.1],.ms p.2 0 (nbH p.1 H).length))/\s.H M=.frz false [.u32] (iE H L)/\M<s.next/\aA Xs s/\
 ∀ p∈L,p.2<s.next/\∃ c,s.H p.2=.box 34 1 (us c)/\c.Perm (nbH p.1 H)/\([p.1]∉Lr.map (·.1)->c.Pairwise (·<=·))
def NrI(Xs:St)(S:List Ed)(M k:Nat)(H:List (Int×Int))(fr:Frm)(s:St):Prop:=
 fr 3=.mp M/\fr 17=.sl 0 S.length (eds S)/\fr 18=i S.length/\fr 19=i k/\Xs.next<=M/\M<s.next/\aA Xs s/\∃ L,NbM H Xs.next M L s
theorem Qj(g:Gr)(st:St)(hv:g.vs.length<=1048576)(he:g.es.length<=1000)(hp:0<st.next):
 aB prog 91 [.ag (grL g)] st fun r st'=>∃ m L,r=.mp m/\st.next<=m/\m<st'.next/\aA st st'/\st'.H m=.map false [.u32] (Fz L)/\(∀ p∈L,st.next<=p.2.1/\st'.H p.2.1=.box 34 1 p.2.2)/\(L.map fun p=>p.2.1).Nodup/\
  ∃ K:List Int,K.Nodup/\(∀ v,nbH v (hfs (sE g.es))≠[]↔v∈K)/\L.map (fun p=>(p.1,p.2.2))=K.map fun v=>([v],us (cR g.es v)):=by
 have hel:=aK (sE g.es);have I1:=nR g.es;refine zN func91 ntmps91 [.tmp 2] ?_
 (repeat' (first|apply qS|(refine zE ?_;intro J hJ;simp[];(try (refine zJ hJ ?_;clear hJ J)))))
 refine qE (Pq g _ hv oO sS) sS ?_;rintro r s1 ⟨rfl,Xn⟩;have YZ:=Xn.next;simp only[aF]at YZ;have p7:aA st s1:=((aA.new _ _).trans (aA.new _ _)).trans Xn;have z7:s1.H (st.next+1)=.map false [.u32] []:=by rw[Xn.H _ sS];simp
 have e1:¬st.next+1=s1.next:=oO;generalize ZR:(bnd g.es).length=bl;generalize hbc:((bnd g.es).map fun l=>LV.sl 0 l.length (us l))=bc
 (repeat' (first|apply qS|apply qB|((first|(refine zE ?_;intro J hJ)|(apply aD));simp[hel];(refine zJ hJ ?_;clear hJ J))))
 refine qL (fun n fr s=>∃ k:Nat,k<=(sE g.es).length/\n=(sE g.es).length-k/\NrI st (sE g.es) (st.next+1) k (hfs ((sE g.es).take k)) fr s) (sE g.es).length ?_ ?_
 .refine⟨0,oO,oO,sS,sS,sS,sS,oO,by simp;omega,(p7.trans (aA.new _ _)),[],?_⟩;exact⟨by simp[e1,z7,iE],sS,sS,sS,by simp[hfs,nbH]⟩
 rintro n fr s ⟨k,hk,rfl,f3,f17,f18,f19,K0,Zx,Xm,L,Zz⟩ JJ hJJ;generalize hMM:st.next+1=M at *;by_cases dN:k<(sE g.es).length;rotate_left
 .clear hJJ;have ZA:k=(sE g.es).length:=oO;rw[ZA,aAQ]at Zz;apply qS
  (refine zE ?_;intro J hJ;simp[f18,f19,dN];(refine zJ hJ ?_;clear hJ J))
  apply qS
  (apply qC;simp[])
  refine qX (zZ ?_);have hHl:(hfs (sE g.es)).length<=2000:=by rw[Eg];omega
  generalize hHH:hfs (sE g.es)=H at *;apply qS;refine EC mL [] (SoI st H M L) (by simp[f3]) Zz.hm ?_ ?_ ?_ underlying59
  .intro r;refine⟨by simp[f3],?_,?_,sS,by simp;omega,Xm.set K0 _,fun p hp=>?_⟩
   .have:=Zz.kd;rw[iE,aBf];have e:L.map ((fun x=>x.1)∘fun p:VB=>(([p.1],LV.ms p.2 0 (nbH p.1 H).length):List Int×LV))=(L.map (·.1)).map fun v=>[v]:=by rw[aBf];rfl
    rw[e];exact this.map (fun v=>[v]) fun a b YA h=>YA (by simpa using h)
   .intro e hee;obtain⟨p,hp,rfl⟩:=aAm.1 hee;exact⟨p,hp,rfl⟩
   .obtain⟨h1,h2,h3⟩:=Zz.bx p hp;have h4:¬p.2=M:=bU h3 Zz.hm sS;refine⟨by simp;exact h2,nbH p.1 H,by rw[bN,aAa h4];exact h3,.refl _,fun h=>absurd (aAm.2 ⟨_,aAm.2 ⟨p,hp,rfl⟩,rfl⟩) h⟩
  .rintro r L1 e L2 fr s2 ⟨F3,hnd,hem,hMd,Yn,Z4,G2⟩ ft J hJ;obtain⟨p,hp,rfl⟩:=hem e sS;obtain⟨v,q⟩:=p;obtain⟨hql,c,hcH,hcp,-⟩:=G2 (v,q) hp;have Xk:c.length=(nbH v H).length:=hcp.length_eq;have Xl:=yT v H;simp only at Xk hcH hql hcp;have hsort:=TK c q s2 oO hql hcH;rw[Xk]at hsort;apply aD;simp[Dz,mkC]
   (repeat' (refine zE ?_;intro J hJ;simp[]))
   refine qE (hsort) (by simp[]) ?_;rintro r st' ⟨d,Xu,YQ,hd3,hd4⟩
   (repeat' (apply aD;simp[];(refine zJ hJ ?_;clear hJ J)))
   rw[aAv,aAj,aAs,aAD]at hnd;obtain⟨nd1,⟨nd2,nd3⟩,nd4⟩:=hnd;have hMq:¬M=q:=fun h=>by rw[h,hcH]at hMd;cases hMd
   refine hJ _ _ ⟨by simp[F3],?_,fun e he=>hem e (by simp only[aAg,aAf]at he ⊢;rcases he with h|h;exact .inl h;exact .inr (.inr h)),by rw[hd4.2 M hMq Yn];exact hMd,aAp Yn hd4.1,?_,fun p Zg=>?_⟩ (by simp[ft]) (by rw[hd4.2 M hMq Yn];exact hMd)
   .rw[aAv,aAs];exact⟨nd1,nd3,fun a ha b hb=>nd4 a ha b (aAk _ hb)⟩
   .have hq0:st.next<=q:=(Zz.bx (v,q) hp).1;exact⟨aBh Z4.next hd4.1,fun l hl=>by rw[hd4.2 l oO (aAp hl Z4.next)];exact Z4.H l hl⟩
   .obtain⟨h1,c2,h2,h3,h4⟩:=G2 p Zg;by_cases A7:p.2=q
    .obtain rfl:p=(v,q):=by exact mD Zz.nd Zg hp A7
     exact⟨aAp h1 hd4.1,d,Xu,YQ.trans hcp,fun _=>hd3⟩
    .refine⟨aAp h1 hd4.1,c2,by rw[hd4.2 _ A7 h1];exact h2,h3,fun YI=>h4 fun Xt=>YI ?_⟩;rw[aAv,aAj,aAg,aAf]at Xt;rw[aAv,aAg];rcases Xt with h|h|h
     .exact .inl h
     .exfalso;simp at h;have e2:=mD Zz.kd Zg hp h;exact A7 (by rw[e2])
     .exact .inr h
  .rintro fr s2 ⟨F3,-,-,hMd,Yn,Z4,G2⟩;simp only[ak];have Xl:∀ v,(us (cR g.es v)).length=(nbH v H).length:=fun v=>by rw[aAA,<- hHH];exact(pS _).length_eq
   (repeat' (first|apply qS|(refine qR (zZ ?_);simp[F3])|(refine zE ?_;intro J hJ;simp[F3];(refine zJ hJ ?_;clear hJ J))))
   refine⟨K0,oO,Z4.set K0 _,L.map fun p=>([p.1],p.2,us (cR g.es p.1)),?_,?_,?_,L.map (·.1),Zz.kd,?_,?_⟩
   .congr 1
    rw[Fz,aBf,iE];refine aAW fun p _=>?_;simp only[Function.comp,Xl]
   .intro a q b Xt;obtain⟨p,hp,he⟩:=aAm.1 Xt;injection he with e1 e2;injection e2 with e2 e3;subst e1 e2 e3;obtain⟨h1,c,h2,h3,h4⟩:=G2 p hp;have h5:¬p.2=M:=fun h=>by rw[h,hMd]at h2;cases h2
    rw[aAa h5];refine⟨(Zz.bx p hp).1,?_⟩;rw[h2,Tb h3 (h4 sS),<- hHH];rfl
   .have:=Zz.nd;rw[aBf];exact this
   .intro v;exact Zz.all v
   .rw[aBf,aBf];rfl
 have hd:=aR (sE g.es) k dN;have hw:=qN k oO;have Xq:k*3<(sE g.es).length*3:=oO;have htk1:(sE g.es).take (k+1)=(sE g.es).take k++[(sE g.es).getD k ed0]:=by rw[aAc,aAd dN];exact aAn dN
 have hEl:(hfs ((sE g.es).take k)).length<=2000:=by rw[Eg,aAo];omega
 generalize (sE g.es).getD k ed0=x at *;have C3:hfs ((sE g.es).take (k+1))=hfs ((sE g.es).take k)++[(x.a,x.b)]++[(x.b,x.a)]:=by rw[htk1,Oz]
 obtain⟨id,a,b⟩:=x;simp only at hd C3;generalize hfs ((sE g.es).take k)=H at *;have b0:¬s.next=M:=oO
 (repeat' (first|apply qS|apply qB|refine qK (zZ ?_)|(apply qC;simp[f17,f18,f19,dN,hd,hel,Xq])|(refine zE ?_;intro J hJ;simp[f17,f18,f19,dN,hd,hel,Xq];(refine zJ hJ ?_;clear hJ J))))
 refine NC (fun f s'=>NrI st (sE g.es) M k H f s'/\f 7=.pt s.next 0/\s.next<s'.next/\s'.H s.next=.box 56 3 [u id,u a,u b]) ?_ ?_
 .exact⟨⟨by simp[f3],by simp[f17],by simp[f18],by simp[f19],K0,by simp;omega,Xm.trans (aA.new _ _),L,Zz.keeps (aA.new _ _) Zx⟩,sS,sS,sS⟩
 generalize s.next=X at *;clear Zz Xm K0 Zx f19 f18 f17 f3 L;rintro fr s ⟨⟨f3,f17,f18,f19,K0,Zx,Xm,L,Zz⟩,f7,hXl,hX⟩;refine bB (fun f s'=>NrI st (sE g.es) M k (H++[(a,b)]) f s'/\f 7=.pt X 0/\X<s'.next/\s'.H X=.box 56 3 [u id,u a,u b]) ?_ ?_
 .clear hJJ;have Yn:=Zz.hm;have x1:¬X=M:=bU hX Yn sS;have x2:¬M=X:=fun h=>x1 h.symm;have x3:¬X=s.next:=oO;have x4:¬X=s.next+1:=oO;have y3:¬M=s.next:=oO;have y4:¬M=s.next+1:=oO;have y5:¬s.next=M:=oO;have y6:¬s.next+1=M:=oO;have Xl:=yT a (H);by_cases Xt:a∈L.map (·.1)
  .obtain⟨p,hp,rfl⟩:=aAm.1 Xt;obtain⟨v,q⟩:=p;obtain⟨L1,L2,rfl⟩:=aCf hp;have kd:=Zz.kd;rw[aAv,aAj,aAs]at kd;have Yg:=vS (H:=H) (q:=q) (L1:=L1) (L2:=L2) (v:=v) (fun e=>kd.2.2 v e v sS rfl);obtain⟨q1,q2,q3⟩:=Zz.bx (v,q) sS;simp only at q1 q2 q3 Xl;have z1:¬q=M:=bU q3 Yn sS;have z2:¬q=s.next:=oO;have z3:¬q=s.next+1:=oO;have z4:¬X=q:=bU hX q3 sS;have z5:¬M=q:=fun h=>z1 h.symm;have z6:List.take (nbH v (H)).length (us (nbH v (H)))=us (nbH v (H)):=aAr sS
   have put:=Zz.put (b:=b) (q':=s.next+1) (s':=(((s.new (.own 34 1 1)).set q .dead).new (.box 34 1 (us (nbH v (H)++[b])))).set M (.map false [.u32] (bQ (iE (H) (L1++(v,q)::L2)) [v] (.ms (s.next+1) 0 (nbH v (H)++[b]).length)))) ⟨oO,oO,sS⟩ sS (by(repeat (first|rw[nHh nOo]|rw[sHh oO]|rw[nIi nQq]|rw[sIi oO]))) (fun p hp h1 h2=>by
    have:=Zz.bx p (by rcases hp with hp|hp<;>simp[hp]);have h3:¬p.2=M:=bU this.2.2 Yn sS
    (repeat (first|rw[nHh nOo]|rw[sHh oO]|rw[nIi nQq]|rw[sIi oO]))) (by simp;omega)
   generalize hF:nbH v (H)=F at *;generalize hN:iE (H) (L1++(v,q)::L2)=EM at *
   (refine zS [33] [X,M] [0,2,4,6,8,10,12,14,16,18,20,23] ?_;intro J hJ;simp[f3,f7,hX,Yn,x1,x2,x3,x4,y3,y4,y5,y6,Yg,q3,z1,z2,z3,z4,z5,z6];(repeat refine ca ?_);(refine zJ hJ ?_;clear hJ J))
   refine⟨by trivial,⟨by simp[f3],by simp[f17],by simp[f18],by simp[f19],K0,by simp;omega,?_,L1++(v,s.next+1)::L2,?_⟩,by simp[f7],by simp;omega,?_⟩
   .refine⟨by have:=Xm.next;simp;omega,fun l hl=>?_⟩;have:=Xm.next
    (repeat (first|rw[nHh nOo]|rw[sHh oO]|rw[nIi nQq]|rw[sIi oO]));exact Xm.H l hl
   .simpa using put
   ·(repeat (first|rw[nHh nOo]|rw[sHh oO]|rw[nIi nQq]|rw[sIi oO]));exact hX
  .have Yg:=vC (H:=H) Xt;have Yc:nbH a (H)=[]:=by
    cases hc:nbH a (H) with
    |nil=>rfl
    |cons _ _=>exact absurd ((Zz.all _).1 (by rw[hc];simp)) Xt
   have put:=Zz.add (a:=a) (b:=b) (q':=s.next+1) (s':=((s.new (.own 34 1 1)).new (.box 34 1 (us (nbH a (H)++[b])))).set M (.map false [.u32] (bQ (iE (H) L) [a] (.ms (s.next+1) 0 (nbH a (H)++[b]).length)))) Xt ⟨oO,oO,sS⟩ sS (by(repeat (first|rw[nHh nOo]|rw[sHh oO]|rw[nIi nQq]|rw[sIi oO]))) (fun p hp=>by
    have:=Zz.bx p hp;have h3:¬p.2=M:=bU this.2.2 Yn sS
    (repeat (first|rw[nHh nOo]|rw[sHh oO]|rw[nIi nQq]|rw[sIi oO]))) (by simp only[bC,aF];omega)
   rw[Yc]at put;generalize hN:iE (H) L=EM at *
   (refine zS [33] [X,M] [0,2,4,6,8,10,12,14,16,18,20,23] ?_;intro J hJ;simp[f3,f7,hX,Yn,x1,x2,x3,x4,y3,y4,y5,y6,Yg];(repeat refine ca ?_);(refine zJ hJ ?_;clear hJ J))
   refine⟨by trivial,⟨by simp[f3],by simp[f17],by simp[f18],by simp[f19],K0,by simp;omega,?_,L++[(a,s.next+1)],?_⟩,by simp[f7],by simp;omega,?_⟩
   .refine⟨by have:=Xm.next;simp;omega,fun l hl=>?_⟩;have:=Xm.next
    (repeat (first|rw[nHh nOo]|rw[sHh oO]|rw[nIi nQq]|rw[sIi oO]));exact Xm.H l hl
   .simpa using put
   ·(repeat (first|rw[nHh nOo]|rw[sHh oO]|rw[nIi nQq]|rw[sIi oO]));exact hX
 clear Zz Xm K0 Zx f19 f18 f17 f3 f7 hXl hX L;rintro fr s ⟨⟨f3,f17,f18,f19,K0,Zx,Xm,L,Zz⟩,f7,hXl,hX⟩;have hEl2:(H++[(a,b)]).length<=2001:=by rw[aAh];simp only[List.length_cons,List.length_nil];omega
 generalize H++[(a,b)]=H2 at *;refine BL (fun f s'=>NrI st (sE g.es) M k (H2++[(b,a)]) f s'/\f 7=.pt X 0/\X<s'.next/\s'.H X=.box 56 3 [u id,u a,u b]) ?_ ?_
 .clear hJJ;have Yn:=Zz.hm;have x1:¬X=M:=bU hX Yn sS;have x2:¬M=X:=fun h=>x1 h.symm;have x3:¬X=s.next:=oO;have x4:¬X=s.next+1:=oO;have y3:¬M=s.next:=oO;have y4:¬M=s.next+1:=oO;have y5:¬s.next=M:=oO;have y6:¬s.next+1=M:=oO;have Xl:=yT b (H2);by_cases Xt:b∈L.map (·.1)
  .obtain⟨p,hp,rfl⟩:=aAm.1 Xt;obtain⟨v,q⟩:=p;obtain⟨L1,L2,rfl⟩:=aCf hp;have kd:=Zz.kd;rw[aAv,aAj,aAs]at kd;have Yg:=vS (H:=H2) (q:=q) (L1:=L1) (L2:=L2) (v:=v) (fun e=>kd.2.2 v e v sS rfl);obtain⟨q1,q2,q3⟩:=Zz.bx (v,q) sS;simp only at q1 q2 q3 Xl;have z1:¬q=M:=bU q3 Yn sS;have z2:¬q=s.next:=oO;have z3:¬q=s.next+1:=oO;have z4:¬X=q:=bU hX q3 sS;have z5:¬M=q:=fun h=>z1 h.symm;have z6:List.take (nbH v (H2)).length (us (nbH v (H2)))=us (nbH v (H2)):=aAr sS
   have put:=Zz.put (b:=a) (q':=s.next+1) (s':=(((s.new (.own 34 1 1)).set q .dead).new (.box 34 1 (us (nbH v (H2)++[a])))).set M (.map false [.u32] (bQ (iE (H2) (L1++(v,q)::L2)) [v] (.ms (s.next+1) 0 (nbH v (H2)++[a]).length)))) ⟨oO,oO,sS⟩ sS (by(repeat (first|rw[nHh nOo]|rw[sHh oO]|rw[nIi nQq]|rw[sIi oO]))) (fun p hp h1 h2=>by
    have:=Zz.bx p (by rcases hp with hp|hp<;>simp[hp]);have h3:¬p.2=M:=bU this.2.2 Yn sS
    (repeat (first|rw[nHh nOo]|rw[sHh oO]|rw[nIi nQq]|rw[sIi oO]))) (by simp;omega)
   generalize hF:nbH v (H2)=F at *;generalize hN:iE (H2) (L1++(v,q)::L2)=EM at *
   (refine zS [44] [X,M] [0,2,4,6,8,10,12,14,16,18,20,23] ?_;intro J hJ;simp[f3,f7,hX,Yn,x1,x2,x3,x4,y3,y4,y5,y6,Yg,q3,z1,z2,z3,z4,z5,z6];(repeat refine ca ?_);(refine zJ hJ ?_;clear hJ J))
   refine⟨by trivial,⟨by simp[f3],by simp[f17],by simp[f18],by simp[f19],K0,by simp;omega,?_,L1++(v,s.next+1)::L2,?_⟩,by simp[f7],by simp;omega,?_⟩
   .refine⟨by have:=Xm.next;simp;omega,fun l hl=>?_⟩;have:=Xm.next
    (repeat (first|rw[nHh nOo]|rw[sHh oO]|rw[nIi nQq]|rw[sIi oO]));exact Xm.H l hl
   .simpa using put
   ·(repeat (first|rw[nHh nOo]|rw[sHh oO]|rw[nIi nQq]|rw[sIi oO]));exact hX
  .have Yg:=vC (H:=H2) Xt;have Yc:nbH b (H2)=[]:=by
    cases hc:nbH b (H2) with
    |nil=>rfl
    |cons _ _=>exact absurd ((Zz.all _).1 (by rw[hc];simp)) Xt
   have put:=Zz.add (a:=b) (b:=a) (q':=s.next+1) (s':=((s.new (.own 34 1 1)).new (.box 34 1 (us (nbH b (H2)++[a])))).set M (.map false [.u32] (bQ (iE (H2) L) [b] (.ms (s.next+1) 0 (nbH b (H2)++[a]).length)))) Xt ⟨oO,oO,sS⟩ sS (by(repeat (first|rw[nHh nOo]|rw[sHh oO]|rw[nIi nQq]|rw[sIi oO]))) (fun p hp=>by
    have:=Zz.bx p hp;have h3:¬p.2=M:=bU this.2.2 Yn sS
    (repeat (first|rw[nHh nOo]|rw[sHh oO]|rw[nIi nQq]|rw[sIi oO]))) (by simp only[bC,aF];omega)
   rw[Yc]at put;generalize hN:iE (H2) L=EM at *
   (refine zS [44] [X,M] [0,2,4,6,8,10,12,14,16,18,20,23] ?_;intro J hJ;simp[f3,f7,hX,Yn,x1,x2,x3,x4,y3,y4,y5,y6,Yg];(repeat refine ca ?_);(refine zJ hJ ?_;clear hJ J))
   refine⟨by trivial,⟨by simp[f3],by simp[f17],by simp[f18],by simp[f19],K0,by simp;omega,?_,L++[(b,s.next+1)],?_⟩,by simp[f7],by simp;omega,?_⟩
   .refine⟨by have:=Xm.next;simp;omega,fun l hl=>?_⟩;have:=Xm.next
    (repeat (first|rw[nHh nOo]|rw[sHh oO]|rw[nIi nQq]|rw[sIi oO]));exact Xm.H l hl
   .simpa using put
   ·(repeat (first|rw[nHh nOo]|rw[sHh oO]|rw[nIi nQq]|rw[sIi oO]));exact hX
 clear Zz Xm K0 Zx f19 f18 f17 f3 f7 hXl hX L;rintro fr s ⟨⟨f3,f17,f18,f19,K0,Zx,Xm,L,Zz⟩,f7,hXl,hX⟩;simp only[ak]
 (repeat' (refine zE ?_;intro J hJ;simp[f19,hw];(refine zJ hJ ?_;clear hJ J)))
 exact hJJ ((sE g.es).length-(k+1)) _ _ oO ⟨k+1,oO,rfl,by simp[f3],by simp[f17],by simp[f18],sS,K0,Zx,Xm,L,by rw[C3];exact Zz⟩
def Tl(es:List Ed)(v:Int):Option LV:=if cR es v=[]then none else some (.sl 0 (cR es v).length (us (cR es v)))
theorem DE{es:List Ed}(v:Int):∀ {K:List Int},bR (K.map fun v=>(([v],.sl 0 (cR es v).length (us (cR es v))):List Int×LV)) [v]=if v∈K then some (.sl 0 (cR es v).length (us (cR es v)))else none
 |[]=>rfl
 |k::K=>by
  simp only[aAj,bR];by_cases h:v=k
  .subst h;simp
  .have h':¬([v]==[k])=true:=by simpa using h
   rw[aAa h',DE v (K:=K)];simp[h]
theorem Uk(g:Gr)(st:St)(hv:g.vs.length<=1048576)(he:g.es.length<=1000)(hp:0<st.next):
 aB prog 91 [.ag (grL g)] st fun r st'=>∃ m es,r=.mp m/\st.next<=m/\m<st'.next/\aA st st'/\st'.H m=.map false [.u32] es/\∀ v,bR es [v]=Tl g.es v:=by
 refine(BQ (R:=fun L=>∃ K:List Int,K.Nodup/\(∀ v,nbH v (hfs (sE g.es))≠[]↔v∈K)/\L.map (fun p=>(p.1,p.2.2))=K.map fun v=>([v],us (cR g.es v))) (Qj g st hv he hp)).mono ?_;rintro r st' ⟨m,L,rfl,h1,h2,h3,h4,K,hK,hall,hL⟩;refine⟨m,_,rfl,h1,h2,h3,h4,fun v=>?_⟩;have e:FX L=K.map fun v=>([v],.sl 0 (cR g.es v).length (us (cR g.es v))):=by
  have e1:FX L=(L.map fun p=>(p.1,p.2.2)).map fun p=>(p.1,LV.sl 0 p.2.length p.2):=by rw[aBf];rfl
  rw[e1,hL,aBf];refine aAW fun v _=>?_;simp
 rw[e,DE];unfold Tl;have hn:cR g.es v=[]↔nbH v (hfs (sE g.es))=[]:=by
  have:=(pS (nbH v (hfs (sE g.es)))).length_eq;unfold cR;constructor
  .intro h;rw[h]at this;exact aAE this.symm
  .intro h;rw[h];rfl
 by_cases hv:v∈K
 .rw[aAe hv,aAa (fun h=>(hall v).2 hv (hn.1 h))]
 .rw[aAa hv]
  split
  .rfl
  .rename_i h;exact absurd ((hall v).1 fun h2=>h (hn.2 h2)) hv
def rQ(A:Led):List (List Int×LV):=A.map fun p=>([p.1],u p.2)
theorem Gt(A:Led)(v:Int):bR (rQ A) [v]=(jE A v).map u:=by
 induction A with
 |nil=>rfl
 |cons p A ih=>
  simp only[rQ,aAj,bR,jE]at ih ⊢;by_cases h:v=p.1
  .subst h;simp
  .rw[aAa (by simpa using h),aAa h];exact ih
theorem Nq{A:Led}{v w:Int}(h:v∉A.map (·.1)):bQ (rQ A) [v] (u w)=rQ (A++[(v,w)]):=by
 induction A with
 |nil=>rfl
 |cons p A ih=>simp only[aAj,aAf,aCv]at h;have ih:=ih h.2;simp only[rQ,aAj,List.cons_append,bQ]at ih ⊢;rw[aAa (by simpa using h.1),ih]
theorem back(A:Led)(ma:Nat)(Wn to:Int)(n:Nat)(l:List Int)(st:St)(hn:n<=100000)(hl:gT A Wn n to=some l)(hm:ma<st.next)(hH:st.H ma=.map false [.u32] (rQ A)):
 aB prog 163 [.mp ma,u Wn,u to] st fun r st'=>r=.sl 0 (to::l).reverse.length (us (to::l).reverse)/\aA st st':=by
 have T0:=Ch hl;refine cD ?_;refine zN func163 ntmps163 [.tmp 6] ?_
 (repeat' (first|apply qS|apply qB|(refine w_e [10] ?_;intro J hJ;simp only[];simp[];refine zJ hJ ?_)))
 refine qL (fun k fr s=>∃(v:Int) (W R:List Int),gT A Wn k v=some R/\to::l=W++R/\k<=n/\W.length+k<=n+1/\fr 0=.mp ma/\fr 1=u Wn/\fr 8=u v/\∃ q,fr 7=.ms q 0 W.length/\s.H q=.box 34 1 (us W)/\st.next<=q/\q<s.next/\aA st s) n ?_ ?_
 .exact⟨to,[to],l,hl,rfl,oO,by simp;omega,sS,sS,sS,st.next,sS,sS,aAi _,sS,aA.new _ _⟩
 rintro k fr s ⟨v,W,R,hb,hW,hk,hWk,f0,f1,f8,q,f7,hq,hq0,hql,Xm⟩ JJ hJJ;have hHs:s.H ma=.map false [.u32] (rQ A):=by rw[Xm.H ma hm];exact hH
 have hg:=Gt A v;by_cases hv:v=Wn
 .clear hJJ;have hR:R=[]:=by cases k<;>(simp only[gT,aAe hv,aAb]at hb;exact hb.symm)
  subst hR;rw[aAP]at hW;have hv2:(v != Wn)=false:=by simpa using hv
  (repeat' (first|apply qS|refine qX (zZ ?_)|(apply qC;simp[f1,f8,hv,hv2,f7])|(refine zE ?_;intro J hJ;simp[f1,f8,hv,hv2,f7];(try refine zJ hJ ?_))))
  refine qE (zM W q s (by unfold small;omega) hq) (by simp[]) ?_;rintro r st' rfl
  (repeat' (first|apply qS|(refine qR (zZ ?_);simp[f7])|((first|(refine zE ?_;intro J hJ)|(apply aD));simp[f7];refine zJ hJ ?_)))
  exact⟨q,W.length,⟨rfl,rfl⟩,34,1,us W.reverse,sS,sS,by subst hW;simp,(Xm.set hq0 _).set hq0 _⟩
 .cases k with
  |zero=>simp only[gT,aAa hv]at hb;cases hb
  |succ k=>
   simp only[gT,aAa hv,aBm]at hb;obtain⟨R',hb,rfl⟩:=hb;have hv2:(v != Wn)=true:=by simpa using hv
   have B6:((bR (rQ A) [v]).getD (u 0))=u ((jE A v).getD 0):=by rw[hg];cases jE A v<;>rfl
   generalize (jE A v).getD 0=x at *;have q1:¬q=s.next:=oO;have YP:List.take W.length (us W)=us W:=aAr sS
   (repeat' (first|apply qS|apply qB|refine qK (zZ ?_)|(apply qC;simp[f0,f1,f8,hv,hv2,f7,hHs,B6,q1,hq,YP])|(refine zE ?_;intro J hJ;simp[f0,f1,f8,hv,hv2,f7,hHs,B6,q1,hq,YP];(repeat refine ca ?_);refine zJ hJ ?_)))
   refine hJJ k _ _ oO ⟨x,W++[x],R',hb,by rw[hW];simp,oO,by simp;omega,by simp[f0],by simp[f1],sS,s.next+1,sS,sS,by have:=Xm.next;omega,sS,?_⟩;exact(((Xm.trans (aA.new _ _)).set hq0 _).trans (aA.new _ _))
end Aw
end Go.Proofs.YtempldclppogmaaGreatDoor
