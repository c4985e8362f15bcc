/- What the arguments of a call are, as logical values, by their types. No program is named here. -/
import Derived.Test.YtbgngpdonpeboaaGreatDoorAwRun
import Derived.ChangeArms
import Derived.WideShapes
import Derived.Below
set_option linter.unusedVariables false
set_option linter.unusedSimpArgs false
namespace Go.Proofs.YtbgngpdonpeboaaGreatDoor
namespace Aw
open Go Go.RowKit
abbrev g0:G:=⟨1,fun _=>none,fun _=>0,fun _=>0,fun _=>false⟩
inductive Shp(T:Tab):Nat->List LV->Prop where
 |int {t r k} (n:Int):T t=some r->r.d=.int k->(Lit.int k n).wf=true->Shp T t [.atom (.int k n)]
 |bool {t r} (b:Bool):T t=some r->r.d=.bool->Shp T t [.atom (.bool b)]
 |slice {t r e} (es:List (List LV)):T t=some r->r.d=.slice e->es.length<=maxLen->(∀ x∈es,Shp T e x)->Shp T t [.sl 0 es.length es.flatten]
 |struct {t r fs} (ps:List (List LV)):T t=some r->r.d=.struct fs->ps.length=fs.length->(∀(i:Nat) (f:Nat×Nat) (x:List LV),fs[i]?=some f->ps[i]?=some x->Shp T f.2 x)->Shp T t ps.flatten
def qU(T:Tab)(n:Nat):List (Nat×Nat)->Nat->Bool
 |[],o=>o==n
 |(off,ty)::r,o=>off==o&&match T ty with|some q=>qU T n r (o+q.size)|none=>false
def okT(T:Tab):Nat->Nat->Bool
 |0,_=>false
 |d+1,t=>match T t with
  |some r=>match r.d with
   |.int _=>true
   |.bool=>true
   |.slice e=>(match T e with|some q=>decide (0<q.size)|none=>false)&&okT T d e
   |.struct fs=>qU T r.size fs 0&&fs.all fun f=>okT T d f.2
   |_=>false
  |none=>false
theorem FF{α:Type}{Q:Nat->α->Prop}:∀ n,(∀ i,i<n->∃ x,Q i x)->∃ xs:List α,xs.length=n/\∀ i x,xs[i]?=some x->Q i x
 |0,_=>⟨[],rfl,sS⟩
 |n+1,h=>by
  obtain⟨xs,h1,h2⟩:=FF n (fun i hi=>h i oO);obtain⟨x,hx⟩:=h n oO;refine⟨xs++[x],by grind,fun i y hy=>?_⟩
  grind
section
variable {P:Program} {T:Tab} {W:World} {H:Type} {enc:TypeId×Value->H}
theorem pV(hT:aZ P T){t:Nat}{r:bK}(h:T t=some r):P.cellsOf t=r.size:=by
 obtain⟨i,hi,hs,_⟩:=(hT t r h).info
 grind [Program.cellsOf]
theorem HL{b s:Nat}:∀(es:List (List LV)) (o:Nat),(∀ i x,es[i]?=some x->x.length=s/\∃ cs:List Value,aC W g0 x cs/\∀ j,j<s->W.cell? ⟨b,o+i*s+j,none⟩=cs[j]?)->aN W g0 b es.flatten o
 |[],o,_=>by grind [aN]
 |x::es,o,h=>by
  obtain⟨hl,cs,hr,hc⟩:=h 0 x rfl
  have ih:=HL (b:=b) (s:=s) es (o+s) (fun i y hy=>by
   have:=h (i+1) y (by grind)
   grind)
  rw[List.flatten_cons];have key:∀(x:List LV) (cs:List Value) (o s':Nat) (rest:List LV),x.length=s'->aC W g0 x cs->(∀ j,j<s'->W.cell? ⟨b,o+j,none⟩=cs[j]?)->aN W g0 b rest (o+s')->aN W g0 b (x++rest) o:=by
   intro x;induction x with
   |nil=>grind
   |cons y x ihx=>
    intro cs o s' rest h1 h2 h3 h4;simp only[aC]at h2;obtain⟨v,vs',rfl,k1,k2⟩:=h2;simp only[List.cons_append,aN];refine⟨⟨v,by simpa using h3 0 (by grind),k1,fun k hk=>by grind⟩,ihx vs' (o+1) (s' - 1) rest (by grind) k2 (fun j hj=>?_) ?_⟩
    .have:=h3 (j+1) oO
     grind
    .simp at h1;have:o+1+(s' - 1)=o+s':=oO
     grind
  grind
theorem EB{a:Addr}{n:Nat}{cs:List Value}(h:W.cells? 0 a n=some cs):cs.length=n/\∀ j,j<n->W.cell? (a.add j)=cs[j]?:=by unfold World.cells? at h;rw[aAj (aBI _)]at h;exact⟨by simpa using mapM_some_length h,fun j hj=>mapM_some_get h j j (by grind)⟩
theorem Bd(hT:aZ P T){n:Nat}:∀(fs:List (Nat×Nat)) (o:Nat) (cs:List Value) (ps:List (List LV)),qU T n fs o=true->cs.length=n->o<=n->ps.length=fs.length->
 (∀(i:Nat) (f:Nat×Nat) (x:List LV),fs[i]?=some f->ps[i]?=some x->aC W g0 x ((cs.drop f.1).take (P.cellsOf f.2)))->aC W g0 ps.flatten (cs.drop o)
 |[],o,cs,ps,hc,hl,ho,hp,_=>by
  grind [qU,aC]
 |(off,ty)::fs,o,cs,ps,hc,hl,ho,hp,h=>by
  cases ps with
  |nil=>grind
  |cons x ps=>
   simp only[qU,aAX,aDV]at hc;obtain⟨rfl,hc⟩:=hc;cases hty:T ty with
   |none=>grind
   |some q=>
    simp only[hty]at hc;have hx:=h 0 (off,ty) x rfl rfl;simp only[pV hT hty]at hx;have u7:off+q.size<=n:=by
     have hcc:∀(fs:List (Nat×Nat)) (o:Nat),qU T n fs o=true->o<=n:=by
      intro fs;induction fs with
      |nil=>grind [qU]
      |cons f fs ih=>
       grind [qU]
     exact hcc _ _ hc
    have ih:=Bd hT fs (off+q.size) cs ps hc hl u7 (by grind) (fun i f y hf hy=>h (i+1) f y (by grind) (by grind))
    grind [List.drop_drop,List.take_append_drop,bW]
theorem Br(hT:aZ P T):∀(fuel d t:Nat) (cs:List Value) (x:DataW H×List MemPlace),DataW.trod enc P W 0 (fun _=>true) true fuel t cs=some x->okT T d t=true->∃ Q9,aC W g0 Q9 cs/\Shp T t Q9
 |0,d,t,cs,x,h,_=>by simp[DataW.trod]at h
 |fuel+1,0,t,cs,x,h,ho=>by grind [okT]
 |fuel+1,d+1,t,cs,x,h,ho=>by
  cases ht:T t with
  |none=>grind [okT]
  |some r=>
   have hd:=(hT t r ht).desc;cases hrd:r.d with
   |int k=>
    rw[hrd]at hd;simp only[eH]at hd;unfold DataW.trod at h;rw[hd]at h
    split at h<;>simp_all
    rename_i n _;obtain⟨⟨rfl,hw⟩,_⟩:=h;exact⟨_,by simp only[aC,Rep];exact⟨_,_,rfl,rfl,rfl⟩,.int n ht hrd hw⟩
   |bool=>
    rw[hrd]at hd;simp only[eH]at hd;unfold DataW.trod at h;rw[hd]at h
    split at h<;>simp_all
    exact⟨_,by simp only[aC,Rep];exact⟨_,_,rfl,rfl,rfl⟩,.bool _ ht hrd⟩
   |slice e=>
    rw[hrd]at hd;simp only[eH]at hd;simp only[okT,ht,hrd,aAX]at ho;rcases DataW.trod_slice hd h with⟨rfl,_⟩|⟨a,len,cap,elems,rest,n,hn,rfl,_,_,hlc,hcm,hel,hall,_⟩
    .refine⟨_,?_,.slice [] ht hrd (aBI _) sS⟩
     grind [aC,Rep]
    .have M3:n=fuel:=oO;subst M3;cases Q8:T e with
     |none=>grind
     |some q=>
      simp only[Q8,aBA]at ho;have hce:=pV hT Q8
      obtain⟨es,hes1,hes2⟩:=FF (Q:=fun i (x:List LV)=>Shp T e x/\∃ cs,W.cells? 0 (a.add (i*q.size)) q.size=some cs/\aC W g0 x cs) len (fun i hi=>by
       have h1:=hall i hi;rw[aAh oO,hce]at h1;simp only[aBz]at h1;obtain⟨cs',h2,h3⟩:=h1;obtain⟨Q9,h4,h5⟩:=Br hT n d e cs' _ h3 ho.2
       grind)
      subst hes1;refine⟨_,?_,.slice es ht hrd (aBa hlc hcm) (fun x hx=>?_)⟩
      .simp only[aC,Rep];refine⟨_,_,rfl,⟨some a,cap,rfl,hlc,⟨hcm,sS⟩,fun h=>absurd rfl h,fun c7=>?_⟩,rfl⟩;have hsp:a.spot=none:=by
        cases es with
        |nil=>grind
        |cons y es=>
         obtain⟨_,cs',h2,_⟩:=hes2 0 y rfl;obtain⟨k1,k2⟩:=EB h2;have k3:=k2 0 ho.1;rw[aAh oO]at k3;unfold World.cell? at k3
         split at k3
         .split at k3
          .grind
          .rename_i X3;simp only[Addr.add]at X3;simp_all
         grind
       obtain⟨b,o,sp⟩:=a;simp only at hsp;subst hsp;refine⟨b,o,rfl,HL (s:=q.size) es o (fun i x hx=>?_)⟩;obtain⟨_,cs',h2,h3⟩:=hes2 i x hx;obtain⟨k1,k2⟩:=EB h2
       grind [aJ,add_lit]
      .obtain⟨i,hi,rfl⟩:=aAA hx;exact(hes2 i _ (aAh hi)).1
   |struct fs=>
    rw[hrd]at hd;simp only[eH]at hd;obtain⟨F,hF,rfl⟩:=hd;simp only[okT,ht,hrd,aAX]at ho;obtain⟨xs,n,hn,_,hlen,hxs,hall⟩:=DataW.trod_struct hF h;have M3:n=fuel:=oO;subst M3;rw[pV hT ht]at hlen
    obtain⟨ps,hps1,hps2⟩:=FF (Q:=fun i (x:List LV)=>∀ f:Field,F[i]?=some f->Shp T f.type x/\aC W g0 x ((cs.drop f.offset).take (P.cellsOf f.type))) F.size (fun i hi=>by
     have hf:F[i]?=some F[i]:=aDo hi;have h1:=hall i F[i] hf;rw[aAh oO]at h1;have U6:okT T d F[i].type=true:=by have:=aBJ.1 ho.2 (F[i].offset,F[i].type) (aAi.2 ⟨F[i],sS,rfl⟩);simpa using this
     obtain⟨Q9,h4,h5⟩:=Br hT n d _ _ _ h1 U6
     exact⟨Q9,fun f W4=>by grind⟩)
    have P3:∀(i:Nat) (f:Nat×Nat),(F.toList.map (fun f=>(f.offset,f.type)))[i]?=some f->∃ g:Field,F[i]?=some g/\f=(g.offset,g.type):=by intro i f hf;rw[aCm,aBk]at hf;obtain⟨g,hg,rfl⟩:=hf;exact⟨g,by grind,rfl⟩
    refine⟨ps.flatten,?_,.struct ps ht hrd (by grind) (fun i f x hf hx=>?_)⟩
    .have:=Bd (W:=W) hT _ 0 cs ps ho.1 hlen (aBI _) (by grind) (fun i f x hf hx=>by
      grind)
     grind
    grind
   |_=>grind [okT]
def Wc(r:bK)(Q9:List LV):LV:=if r.agg then .ag Q9 else hdL Q9
def PC(T:Tab)(t:Nat)(Q9:List LV):LV:=match T t with
 |some r=>Wc r Q9
 |none=>.dead
theorem VM{t:Nat}{r:bK}{Q9:List LV}(h:T t=some r):PC T t Q9=Wc r Q9:=by grind [PC]
theorem UF(hT:aZ P T){t d:Nat}{r:bK}{v:Value}{dd:DataW H}{ps:List MemPlace}{rc:Reach}{base:Nat}(ht:T t=some r)(U6:okT T d t=true)
 (hv:Value.okWide P W rc base t v) (h:DataW.Trod enc P W 0 (fun _=>true) true t v dd ps) (hag:r.agg=true↔∃ fs,r.d=.struct fs):∃ Q9,Shp T t Q9/\Rep W g0 (PC T t Q9) v:=by
 simp only[VM ht];obtain⟨fuel,hf⟩:=h;obtain⟨Q9,h1,h2⟩:=Br hT fuel d t _ _ hf U6;refine⟨Q9,h2,?_⟩;unfold Wc;have hd:=(hT t r ht).desc;cases hb:r.agg with
 |true=>
  simp only[aBs,Rep];obtain⟨fs,hfs⟩:=hag.1 hb;rw[hfs]at hd;obtain⟨F,hF,_⟩:=hd;obtain⟨cs,rfl,_⟩:=WideShapes.okWide_struct hF hv
  grind [Value.cells]
 |false=>
  simp only[aBg,aBS];have M9:v.cells.toList=[v]/\∃ lv,Q9=[lv]:=by
   cases h2 with
   |int n h3 h4 h5=>simp only[aC,Rep]at h1;obtain⟨u,_,hu,rfl,rfl⟩:=h1;rw[h3]at ht;injection ht with ht;subst ht;rw[h4]at hd;simp only[eH]at hd;refine⟨?_,_,rfl⟩;cases v<;>simp_all[Value.cells,Value.okWide,Cell.okWide,Cell.ok]
   |bool b h3 h4=>simp only[aC,Rep]at h1;obtain⟨u,_,hu,rfl,rfl⟩:=h1;rw[h3]at ht;injection ht with ht;subst ht;rw[h4]at hd;simp only[eH]at hd;refine⟨?_,_,rfl⟩;cases v<;>simp_all[Value.cells,Value.okWide,Cell.okWide,Cell.ok]
   |slice es h3 h4 h5 h6=>
    grind [eH,WideShapes.okWide_slice,Value.cells]
   |struct qs h3 h4 h5 h6=>
    grind
  obtain⟨hc,lv,rfl⟩:=M9;rw[hc]at h1;simp only[aC]at h1;obtain⟨u,_,hu,h3,rfl⟩:=h1;injection hu with hu _;subst hu;exact h3
end
end Aw
end Go.Proofs.YtbgngpdonpeboaaGreatDoor
