/- What the arguments of a call are, as logical values, by their types. No program is named here. -/
import Derived.Test.YtempldclppogmaaGreatDoorAwRun
import Derived.ChangeArms
import Derived.WideShapes
import Derived.Below
set_option linter.unusedVariables false
set_option linter.unusedSimpArgs false
namespace Go.Proofs.YtempldclppogmaaGreatDoor
namespace Aw
open Go Go.RowKit
abbrev g0:G:=⟨1,fun _=>none,fun _=>0,fun _=>0,fun _=>false⟩
inductive Shp(T:Tab):Nat->List LV->Prop where
 |int {t r k} (n:Int):T t=some r->r.d=.int k->(Lit.int k n).wf=true->Shp T t [.atom (.int k n)]
 |bool {t r} (b:Bool):T t=some r->r.d=.bool->Shp T t [.atom (.bool b)]
 |slice {t r e} (es:List (List LV)):T t=some r->r.d=.slice e->es.length<=maxLen->(∀ x∈es,Shp T e x)->Shp T t [.sl 0 es.length es.flatten]
 |struct {t r fs} (ps:List (List LV)):T t=some r->r.d=.struct fs->ps.length=fs.length->(∀(i:Nat) (f:Nat×Nat) (x:List LV),fs[i]?=some f->ps[i]?=some x->Shp T f.2 x)->Shp T t ps.flatten
def pN(T:Tab)(n:Nat):List (Nat×Nat)->Nat->Bool
 |[],o=>o==n
 |(off,ty)::r,o=>off==o&&match T ty with|some q=>pN T n r (o+q.size)|none=>false
def okT(T:Tab):Nat->Nat->Bool
 |0,_=>false
 |d+1,t=>match T t with
  |some r=>match r.d with
   |.int _=>true
   |.bool=>true
   |.slice e=>(match T e with|some q=>decide (0<q.size)|none=>false)&&okT T d e
   |.struct fs=>pN T r.size fs 0&&fs.all fun f=>okT T d f.2
   |_=>false
  |none=>false
theorem Ds{α:Type}{Q:Nat->α->Prop}:∀ n,(∀ i,i<n->∃ x,Q i x)->∃ xs:List α,xs.length=n/\∀ i x,xs[i]?=some x->Q i x
 |0,_=>⟨[],rfl,sS⟩
 |n+1,h=>by
  obtain⟨xs,h1,h2⟩:=Ds n (fun i hi=>h i oO);obtain⟨x,hx⟩:=h n oO;refine⟨xs++[x],by simp[h1],fun i y hy=>?_⟩;rcases aAN i n with hi|hi
  .rw[aAX oO]at hy;exact h2 i y hy
  .have:i=n:=by
    rcases aAN n i with h'|h'
    .rw[aBz (by simp;omega)]at hy;cases hy
    .omega
   subst this;rw[aBk oO]at hy;simp[h1]at hy;subst hy;exact hx
section
variable {P:Program} {T:Tab} {W:World} {H:Type} {enc:TypeId×Value->H}
theorem qJ(hT:bJ P T){t:Nat}{r:bK}(h:T t=some r):P.cellsOf t=r.size:=by obtain⟨i,hi,hs,_⟩:=(hT t r h).info;simp[Program.cellsOf,hi,hs]
theorem He{b s:Nat}:∀(es:List (List LV)) (o:Nat),(∀ i x,es[i]?=some x->x.length=s/\∃ cs:List Value,aC W g0 x cs/\∀ j,j<s->W.cell? ⟨b,o+i*s+j,none⟩=cs[j]?)->aU W g0 b es.flatten o
 |[],o,_=>by simp only[List.flatten_nil,aU]
 |x::es,o,h=>by
  obtain⟨hl,cs,hr,hc⟩:=h 0 x rfl
  have ih:=He (b:=b) (s:=s) es (o+s) (fun i y hy=>by
   have:=h (i+1) y (by simpa using hy)
   simpa[aBT,aDp,aEX,Nat.add_left_comm]using this)
  rw[List.flatten_cons];have key:∀(x:List LV) (cs:List Value) (o s':Nat) (rest:List LV),x.length=s'->aC W g0 x cs->(∀ j,j<s'->W.cell? ⟨b,o+j,none⟩=cs[j]?)->aU W g0 b rest (o+s')->aU W g0 b (x++rest) o:=by
   intro x;induction x with
   |nil=>intro cs o s' rest h1 _ _ h4;simp at h1;subst h1;simpa using h4
   |cons y x ihx=>
    intro cs o s' rest h1 h2 h3 h4;simp only[aC]at h2;obtain⟨v,vs',rfl,k1,k2⟩:=h2;simp only[List.cons_append,aU];refine⟨⟨v,by simpa using h3 0 (by simp at h1;omega),k1,fun k hk=>by simp at hk⟩,ihx vs' (o+1) (s' - 1) rest (by simp at h1;omega) k2 (fun j hj=>?_) ?_⟩
    .have:=h3 (j+1) oO;simpa[aDp,aEX 1 j]using this
    .simp at h1;have:o+1+(s' - 1)=o+s':=oO;rw[this];exact h4
  exact key x cs o s es.flatten hl hr (fun j hj=>by simpa using hc j hj) ih
theorem Cf{a:Addr}{n:Nat}{cs:List Value}(h:W.cells? 0 a n=some cs):cs.length=n/\∀ j,j<n->W.cell? (a.add j)=cs[j]?:=by unfold World.cells? at h;rw[aAe (aBs _)]at h;exact⟨by simpa using mapM_some_length h,fun j hj=>mapM_some_get h j j (by simp[hj])⟩
theorem Bq(hT:bJ P T){n:Nat}:∀(fs:List (Nat×Nat)) (o:Nat) (cs:List Value) (ps:List (List LV)),pN T n fs o=true->cs.length=n->o<=n->ps.length=fs.length->
 (∀(i:Nat) (f:Nat×Nat) (x:List LV),fs[i]?=some f->ps[i]?=some x->aC W g0 x ((cs.drop f.1).take (P.cellsOf f.2)))->aC W g0 ps.flatten (cs.drop o)
 |[],o,cs,ps,hc,hl,ho,hp,_=>by
  simp only[pN,aCW]at hc;have:ps=[]:=by simpa using hp
  subst this;rw[aEv oO];simp only[List.flatten_nil,aC]
 |(off,ty)::fs,o,cs,ps,hc,hl,ho,hp,h=>by
  cases ps with
  |nil=>simp at hp
  |cons x ps=>
   simp only[pN,aAT,aCW]at hc;obtain⟨rfl,hc⟩:=hc;cases hty:T ty with
   |none=>simp[hty]at hc
   |some q=>
    simp only[hty]at hc;have hx:=h 0 (off,ty) x rfl rfl;simp only[qJ hT hty]at hx;have Xm:off+q.size<=n:=by
     have W4:∀(fs:List (Nat×Nat)) (o:Nat),pN T n fs o=true->o<=n:=by
      intro fs;induction fs with
      |nil=>intro o h;simp[pN]at h;omega
      |cons f fs ih=>
       intro o h;obtain⟨a,b⟩:=f;simp only[pN,aAT]at h;cases hb:T b with
       |none=>simp[hb]at h
       |some q'=>simp only[hb]at h;have:=ih _ h.2;omega
     exact W4 _ _ hc
    have ih:=Bq hT fs (off+q.size) cs ps hc hl Xm (by simpa using hp) (fun i f y hf hy=>h (i+1) f y (by simpa using hf) (by simpa using hy));rw[List.flatten_cons];have G5:cs.drop off=(cs.drop off).take q.size++cs.drop (off+q.size):=by rw[<- aCK];exact(aAH _ _).symm
    rw[G5];exact cB _ _ _ _ hx ih
theorem BW(hT:bJ P T):∀(fuel d t:Nat) (cs:List Value) (x:DataW H×List MemPlace),DataW.trod enc P W 0 (fun _=>true) true fuel t cs=some x->okT T d t=true->∃ ZL,aC W g0 ZL cs/\Shp T t ZL
 |0,d,t,cs,x,h,_=>by simp[DataW.trod]at h
 |fuel+1,0,t,cs,x,h,ho=>by simp[okT]at ho
 |fuel+1,d+1,t,cs,x,h,ho=>by
  cases ht:T t with
  |none=>simp[okT,ht]at ho
  |some r=>
   have hd:=(hT t r ht).desc;cases F9:r.d with
   |int k=>
    rw[F9]at hd;simp only[eK]at hd;unfold DataW.trod at h;rw[hd]at h
    split at h<;>simp_all
    rename_i n _;obtain⟨⟨rfl,hw⟩,_⟩:=h;exact⟨_,by simp only[aC,Rep];exact⟨_,_,rfl,rfl,rfl⟩,.int n ht F9 hw⟩
   |bool=>
    rw[F9]at hd;simp only[eK]at hd;unfold DataW.trod at h;rw[hd]at h
    split at h<;>simp_all
    exact⟨_,by simp only[aC,Rep];exact⟨_,_,rfl,rfl,rfl⟩,.bool _ ht F9⟩
   |slice e=>
    rw[F9]at hd;simp only[eK]at hd;simp only[okT,ht,F9,aAT]at ho;rcases DataW.trod_slice hd h with⟨rfl,_⟩|⟨a,len,cap,elems,rest,n,hn,rfl,_,_,hlc,K9,hel,hall,_⟩
    .refine⟨_,?_,.slice [] ht F9 (aBs _) sS⟩;simp only[aC,Rep];exact⟨_,_,rfl,⟨none,0,rfl,aAk _,⟨aBs _,fun _=>rfl⟩,fun h=>absurd rfl h,fun h=>absurd rfl h⟩,rfl⟩
    .have D8:n=fuel:=oO;subst D8;cases ZE:T e with
     |none=>simp[ZE]at ho
     |some q=>
      simp only[ZE,aCa]at ho;have hce:=qJ hT ZE
      obtain⟨es,hes1,hes2⟩:=Ds (Q:=fun i (x:List LV)=>Shp T e x/\∃ cs,W.cells? 0 (a.add (i*q.size)) q.size=some cs/\aC W g0 x cs) len (fun i hi=>by
       have h1:=hall i hi;rw[aAd oO,hce]at h1;simp only[aBE]at h1;obtain⟨cs',h2,h3⟩:=h1;obtain⟨ZL,h4,h5⟩:=BW hT n d e cs' _ h3 ho.2
       exact⟨ZL,h5,cs',h2,h4⟩)
      subst hes1;refine⟨_,?_,.slice es ht F9 (aBj hlc K9) (fun x hx=>?_)⟩
      .simp only[aC,Rep];refine⟨_,_,rfl,⟨some a,cap,rfl,hlc,⟨K9,sS⟩,fun h=>absurd rfl h,fun Wu=>?_⟩,rfl⟩;have hsp:a.spot=none:=by
        cases es with
        |nil=>simp at Wu
        |cons y es=>
         obtain⟨_,cs',h2,_⟩:=hes2 0 y rfl;obtain⟨k1,k2⟩:=Cf h2;have k3:=k2 0 ho.1;rw[aAd oO]at k3;unfold World.cell? at k3
         split at k3
         .split at k3
          .cases k3
          .rename_i Zi;simp only[Addr.add]at Zi
           split at Zi<;>simp_all
         .cases k3
       obtain⟨b,o,sp⟩:=a;simp only at hsp;subst hsp;refine⟨b,o,rfl,He (s:=q.size) es o (fun i x hx=>?_)⟩;obtain⟨_,cs',h2,h3⟩:=hes2 i x hx;obtain⟨k1,k2⟩:=Cf h2;refine⟨by rw[aL _ _ h3,k1],cs',h3,fun j hj=>?_⟩;have:=k2 j hj;rw[add_lit,add_lit]at this;exact this
      .obtain⟨i,hi,rfl⟩:=aAB hx;exact(hes2 i _ (aAd hi)).1
   |struct fs=>
    rw[F9]at hd;simp only[eK]at hd;obtain⟨F,hF,rfl⟩:=hd;simp only[okT,ht,F9,aAT]at ho;obtain⟨xs,n,hn,_,hlen,hxs,hall⟩:=DataW.trod_struct hF h;have D8:n=fuel:=oO;subst D8;rw[qJ hT ht]at hlen
    obtain⟨ps,hps1,hps2⟩:=Ds (Q:=fun i (x:List LV)=>∀ f:Field,F[i]?=some f->Shp T f.type x/\aC W g0 x ((cs.drop f.offset).take (P.cellsOf f.type))) F.size (fun i hi=>by
     have hf:F[i]?=some F[i]:=aCs hi;have h1:=hall i F[i] hf;rw[aAd oO]at h1;have v9:okT T d F[i].type=true:=by have:=aBr.1 ho.2 (F[i].offset,F[i].type) (aAm.2 ⟨F[i],sS,rfl⟩);simpa using this
     obtain⟨ZL,h4,h5⟩:=BW hT n d _ _ _ h1 v9
     exact⟨ZL,fun f u5=>by rw[hf]at u5;injection u5 with u5;subst u5;exact⟨h5,h4⟩⟩)
    have Yc:∀(i:Nat) (f:Nat×Nat),(F.toList.map (fun f=>(f.offset,f.type)))[i]?=some f->∃ g:Field,F[i]?=some g/\f=(g.offset,g.type):=by intro i f hf;rw[aBN,aBn]at hf;obtain⟨g,hg,rfl⟩:=hf;exact⟨g,by simpa using hg,rfl⟩
    refine⟨ps.flatten,?_,.struct ps ht F9 (by simp[hps1]) (fun i f x hf hx=>?_)⟩
    .have:=Bq (W:=W) hT _ 0 cs ps ho.1 hlen (aBs _) (by simp[hps1]) (fun i f x hf hx=>by
      obtain⟨g,hg,rfl⟩:=Yc i f hf
      exact(hps2 i x hx g hg).2)
     simpa using this
    .obtain⟨g,hg,rfl⟩:=Yc i f hf;exact(hps2 i x hx g hg).1
   |_=>simp[okT,ht,F9]at ho
def UM(r:bK)(ZL:List LV):LV:=if r.agg then .ag ZL else hdL ZL
def EJ(T:Tab)(t:Nat)(ZL:List LV):LV:=match T t with
 |some r=>UM r ZL
 |none=>.dead
theorem RT{t:Nat}{r:bK}{ZL:List LV}(h:T t=some r):EJ T t ZL=UM r ZL:=by simp[EJ,h]
theorem Jg(hT:bJ P T){t d:Nat}{r:bK}{v:Value}{dd:DataW H}{ps:List MemPlace}{rc:Reach}{base:Nat}(ht:T t=some r)(v9:okT T d t=true)
 (hv:Value.okWide P W rc base t v) (h:DataW.Trod enc P W 0 (fun _=>true) true t v dd ps) (hag:r.agg=true↔∃ fs,r.d=.struct fs):∃ ZL,Shp T t ZL/\Rep W g0 (EJ T t ZL) v:=by
 simp only[RT ht];obtain⟨fuel,hf⟩:=h;obtain⟨ZL,h1,h2⟩:=BW hT fuel d t _ _ hf v9;refine⟨ZL,h2,?_⟩;unfold UM;have hd:=(hT t r ht).desc;cases hb:r.agg with
 |true=>simp only[aBq,Rep];obtain⟨fs,hfs⟩:=hag.1 hb;rw[hfs]at hd;obtain⟨F,hF,_⟩:=hd;obtain⟨cs,rfl,_⟩:=WideShapes.okWide_struct hF hv;exact⟨cs.toList,sS,by simpa[Value.cells]using h1⟩
 |false=>
  simp only[aAS,aBD];have Yr:v.cells.toList=[v]/\∃ lv,ZL=[lv]:=by
   cases h2 with
   |int n h3 h4 h5=>simp only[aC,Rep]at h1;obtain⟨u,_,hu,rfl,rfl⟩:=h1;rw[h3]at ht;injection ht with ht;subst ht;rw[h4]at hd;simp only[eK]at hd;refine⟨?_,_,rfl⟩;cases v<;>simp_all[Value.cells,Value.okWide,Cell.okWide,Cell.ok]
   |bool b h3 h4=>simp only[aC,Rep]at h1;obtain⟨u,_,hu,rfl,rfl⟩:=h1;rw[h3]at ht;injection ht with ht;subst ht;rw[h4]at hd;simp only[eK]at hd;refine⟨?_,_,rfl⟩;cases v<;>simp_all[Value.cells,Value.okWide,Cell.okWide,Cell.ok]
   |slice es h3 h4 h5 h6=>rw[h3]at ht;injection ht with ht;subst ht;rw[h4]at hd;simp only[eK]at hd;obtain⟨a,len,cap,rfl⟩:=WideShapes.okWide_slice hd hv;exact⟨by simp[Value.cells],_,rfl⟩
   |struct qs h3 h4 h5 h6=>rw[h3]at ht;injection ht with ht;subst ht;have:=hag.2 ⟨_,h4⟩;rw[hb]at this;cases this
  obtain⟨hc,lv,rfl⟩:=Yr;rw[hc]at h1;simp only[aC]at h1;obtain⟨u,_,hu,h3,rfl⟩:=h1;injection hu with hu _;subst hu;exact h3
end
end Aw
end Go.Proofs.YtempldclppogmaaGreatDoor
