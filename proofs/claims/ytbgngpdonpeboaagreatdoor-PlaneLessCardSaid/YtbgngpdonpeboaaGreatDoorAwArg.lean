/- What the arguments of a call are, as logical values, by their types. No program is named here. -/
import Derived.Test.YtbgngpdonpeboaaGreatDoorAwRun
import Derived.ChangeArms
import Derived.WideShapes
import Derived.Below
set_option linter.defProp false
set_option linter.unusedVariables false
set_option linter.unusedSimpArgs false
namespace Go.Proofs.YtbgngpdonpeboaaGreatDoor
namespace Aw
open Go Go.RowKit
abbrev g0:G:=⟨1,fun _=>none,fun _=>0,fun _=>0,fun _=>false⟩
inductive Shp(T:az):Nat->List LV->Prop where
 |int {t r k} (n:Int):T t=some r->r.d=.int k->(Lit.int k n).wf=true->Shp T t [.atom (.int k n)]
 |bool {t r} (b:Bool):T t=some r->r.d=.bool->Shp T t [.atom (.bool b)]
 |slice {t r e} (es:List (List LV)):T t=some r->r.d=.slice e->es.length<=maxLen->(∀ x∈es,Shp T e x)->Shp T t [.sl 0 es.length es.flatten]
 |struct {t r fs} (ps:List (List LV)):T t=some r->r.d=.struct fs->ps.length=fs.length->(∀(i:Nat) (f:Nat×Nat) (x:List LV),fs[i]?=some f->ps[i]?=some x->Shp T f.2 x)->Shp T t ps.flatten
def qY(T:az)(n:Nat):List (Nat×Nat)->Nat->Bool
 |[],o=>o==n
 |(off,ty)::r,o=>off==o&&match T ty with|some q=>qY T n r (o+q.size)|none=>false
def ly(T:az):Nat->Nat->Bool
 |0,_=>false
 |d+1,t=>match T t with
  |some r=>match r.d with
   |.int _=>true
   |.bool=>true
   |.slice e=>(match T e with|some q=>decide (0<q.size)|none=>false)&&ly T d e
   |.struct fs=>qY T r.size fs 0&&fs.all fun f=>ly T d f.2
   |_=>false
  |none=>false
theorem Eg{b:Type}{Q:Nat->b->Prop}:∀ n,(∀ i,i<n->∃ x,Q i x)->∃ a:List b,a.length=n/\∀ i x,a[i]?=some x->Q i x
 |0,_=>⟨[],rfl,sS⟩
 |n+1,h=>by
  obtain⟨a,c,d⟩:=Eg n (fun i e=>h i oO);obtain⟨x,f⟩:=h n oO;refine⟨a++[x],by grind,fun i y g=>?_⟩
  grind
section
variable {P:Program} {T:az} {W:World} {H:Type} {enc:TypeId×Value->H}
theorem pL(a:aZ P T){t:Nat}{r:bI}(h:T t=some r):P.cellsOf t=r.size:=by
 obtain⟨i,b,c,_⟩:=(a t r h).info
 grind [Program.cellsOf]
theorem Hh{b s:Nat}:∀(d:List (List LV)) (o:Nat),(∀ i x,d[i]?=some x->x.length=s/\∃ a:List Value,aC W g0 x a/\∀ j,j<s->W.cell? ⟨b,o+i*s+j,none⟩=a[j]?)->aP W g0 b d.flatten o
 |[],o,_=>by grind [aP]
 |x::d,o,h=>by
  obtain⟨A,a,B,t⟩:=h 0 x rfl
  have D:=Hh (b:=b) (s:=s) d (o+s) (fun i y C=>by
   have:=h (i+1) y (by grind)
   grind)
  rw[List.flatten_cons];have q:∀(x:List LV) (a:List Value) (o c:Nat) (rest:List LV),x.length=c->aC W g0 x a->(∀ j,j<c->W.cell? ⟨b,o+j,none⟩=a[j]?)->aP W g0 b rest (o+c)->aP W g0 b (x++rest) o:=by
   intro x;induction x with
   |nil=>grind
   |cons y x e=>
    intro a o c rest m g l r;simp only[aC]at g;obtain⟨v,f,rfl,n,p⟩:=g;simp only[List.cons_append,aP];refine⟨⟨v,by simpa using l 0 (by grind),n,fun k z=>by grind⟩,e f (o+1) (c - 1) rest (by grind) p (fun j w=>?_) ?_⟩
    .have:=l (j+1) oO
     grind
    .simp at m;have:o+1+(c - 1)=o+c:=oO
     grind
  grind
theorem Db{a:Addr}{n:Nat}{b:List Value}(h:W.cells? 0 a n=some b):b.length=n/\∀ j,j<n->W.cell? (a.add j)=b[j]?:=by unfold World.cells? at h;rw[ad (je _)]at h;exact⟨by simpa using mapM_some_length h,fun j c=>mapM_some_get h j j (by grind)⟩
theorem BM(j:aZ P T){n:Nat}:∀(a:List (Nat×Nat)) (o:Nat) (d:List Value) (b:List (List LV)),qY T n a o=true->d.length=n->o<=n->b.length=a.length->
 (∀(i:Nat) (f:Nat×Nat) (x:List LV),a[i]?=some f->b[i]?=some x->aC W g0 x ((d.drop f.1).take (P.cellsOf f.2)))->aC W g0 b.flatten (d.drop o)
 |[],o,d,b,c,hl,ho,hp,_=>by
  grind [qY,aC]
 |(off,ty)::a,o,d,b,c,hl,ho,hp,h=>by
  cases b with
  |nil=>grind
  |cons x b=>
   simp only[qY,fw,rl]at c;obtain⟨rfl,c⟩:=c;cases e:T ty with
   |none=>grind
   |some q=>
    simp only[e]at c;have k:=h 0 (off,ty) x rfl rfl;simp only[pL j e]at k;have m:off+q.size<=n:=by
     have g:∀(a:List (Nat×Nat)) (o:Nat),qY T n a o=true->o<=n:=by
      intro a;induction a with
      |nil=>grind [qY]
      |cons f a l=>
       grind [qY]
     exact g _ _ c
    have l:=BM j a (off+q.size) d b c hl m (by grind) (fun i f y hf p=>h (i+1) f y (by grind) (by grind))
    grind [List.drop_drop,List.take_append_drop,cI]
theorem BH(C:aZ P T):∀(j d t:Nat) (v:List Value) (x:DataW H×List MemPlace),DataW.trod enc P W 0 (fun _=>true) true j t v=some x->ly T d t=true->∃ D,aC W g0 D v/\Shp T t D
 |0,d,t,v,x,h,_=>by simp[DataW.trod]at h
 |j+1,0,t,v,x,h,ho=>by grind [ly]
 |j+1,d+1,t,v,x,h,ho=>by
  cases w:T t with
  |none=>grind [ly]
  |some r=>
   have l:=(C t r w).desc;cases c:r.d with
   |int k=>
    rw[c]at l;simp only[eK]at l;unfold DataW.trod at h;rw[l]at h
    split at h<;>simp_all
    rename_i n _;obtain⟨⟨rfl,hw⟩,_⟩:=h;exact⟨_,by simp only[aC,Rep];exact⟨_,_,rfl,rfl,rfl⟩,.int n w c hw⟩
   |bool=>
    rw[c]at l;simp only[eK]at l;unfold DataW.trod at h;rw[l]at h
    split at h<;>simp_all
    exact⟨_,by simp only[aC,Rep];exact⟨_,_,rfl,rfl,rfl⟩,.bool _ w c⟩
   |slice e=>
    rw[c]at l;simp only[eK]at l;simp only[ly,w,c,fw]at ho;rcases DataW.trod_slice l h with⟨rfl,_⟩|⟨a,Z,U,V,rest,n,hn,rfl,_,_,K,E,hel,m,_⟩
    .refine⟨_,?_,.slice [] w c (je _) sS⟩
     grind [aC,Rep]
    .have S:n=j:=oO;subst S;cases S2:T e with
     |none=>grind
     |some q=>
      simp only[S2,ke]at ho;have X:=pL C S2
      obtain⟨N,I,p⟩:=Eg (Q:=fun i (x:List LV)=>Shp T e x/\∃ v,W.cells? 0 (a.add (i*q.size)) q.size=some v/\aC W g0 x v) Z (fun i J=>by
       have B:=m i J;rw[cg oO,X]at B;simp only[mf]at B;obtain⟨A,O,h3⟩:=B;obtain⟨D,h4,h5⟩:=BH C n d e A _ h3 ho.2
       grind)
      subst I;refine⟨_,?_,.slice N w c (er K E) (fun x M=>?_)⟩
      .simp only[aC,Rep];refine⟨_,_,rfl,⟨some a,U,rfl,K,⟨E,sS⟩,fun h=>absurd rfl h,fun c7=>?_⟩,rfl⟩;have L:a.spot=none:=by
        cases N with
        |nil=>grind
        |cons y N=>
         obtain⟨_,A,O,_⟩:=p 0 y rfl;obtain⟨k1,k2⟩:=Db O;have R:=k2 0 ho.1;rw[cg oO]at R;unfold World.cell? at R
         split at R
         .split at R
          .grind
          .rename_i Y;simp only[Addr.add]at Y;simp_all
         grind
       obtain⟨b,o,sp⟩:=a;simp only at L;subst L;refine⟨b,o,rfl,Hh (s:=q.size) N o (fun i x M=>?_)⟩;obtain⟨_,A,O,h3⟩:=p i x M;obtain⟨k1,k2⟩:=Db O
       grind [aM,add_lit]
      .obtain⟨i,J,rfl⟩:=eh M;exact(p i _ (cg J)).1
   |struct fs=>
    rw[c]at l;simp only[eK]at l;obtain⟨F,hF,rfl⟩:=l;simp only[ly,w,c,fw]at ho;obtain⟨xs,n,hn,_,z,hxs,m⟩:=DataW.trod_struct hF h;have S:n=j:=oO;subst S;rw[pL C w]at z
    obtain⟨ps,hps1,hps2⟩:=Eg (Q:=fun i (x:List LV)=>∀ f:Field,F[i]?=some f->Shp T f.type x/\aC W g0 x ((v.drop f.offset).take (P.cellsOf f.type))) F.size (fun i J=>by
     have hf:F[i]?=some F[i]:=mA J;have B:=m i F[i] hf;rw[cg oO]at B;have S9:ly T d F[i].type=true:=by have:=kw.1 ho.2 (F[i].offset,F[i].type) (aq.2 ⟨F[i],sS,rfl⟩);simpa using this
     obtain⟨D,h4,h5⟩:=BH C n d _ _ _ B S9
     exact⟨D,fun f T9=>by grind⟩)
    have M7:∀(i:Nat) (f:Nat×Nat),(F.toList.map (fun f=>(f.offset,f.type)))[i]?=some f->∃ g:Field,F[i]?=some g/\f=(g.offset,g.type):=by intro i f hf;rw[nk,jp]at hf;obtain⟨g,hg,rfl⟩:=hf;exact⟨g,by grind,rfl⟩
    refine⟨ps.flatten,?_,.struct ps w c (by grind) (fun i f x hf M=>?_)⟩
    .have:=BM (W:=W) C _ 0 v ps ho.1 z (je _) (by grind) (fun i f x hf M=>by
      grind)
     grind
    grind
   |_=>grind [ly]
def WZ(r:bI)(a:List LV):LV:=if r.agg then .ag a else ki a
def Ex(T:az)(t:Nat)(a:List LV):LV:=match T t with
 |some r=>WZ r a
 |none=>.dead
theorem UC{t:Nat}{r:bI}{a:List LV}(h:T t=some r):Ex T t a=WZ r a:=by grind [Ex]
theorem MF(q:aZ P T){t d:Nat}{r:bI}{v:Value}{y:DataW H}{D:List MemPlace}{E:Reach}{j:Nat}(a:T t=some r)(x:ly T d t=true)
 (C:Value.okWide P W E j t v) (h:DataW.Trod enc P W 0 (fun _=>true) true t v y D) (m:r.agg=true↔∃ o,r.d=.struct o):∃ g,Shp T t g/\Rep W g0 (Ex T t g) v:=by
 simp only[UC a];obtain⟨k,hf⟩:=h;obtain⟨g,c,p⟩:=BH q k d t _ _ hf x;refine⟨g,p,?_⟩;unfold WZ;have f:=(q t r a).desc;cases A:r.agg with
 |true=>
  simp only[dE,Rep];obtain⟨o,fp⟩:=m.1 A;rw[fp]at f;obtain⟨F,z,_⟩:=f;obtain⟨I,rfl,_⟩:=WideShapes.okWide_struct z C
  grind [Value.cells]
 |false=>
  simp only[iv,gx];have w:v.cells.toList=[v]/\∃ s,g=[s]:=by
   cases p with
   |int n e h4 h5=>simp only[aC,Rep]at c;obtain⟨u,_,l,rfl,rfl⟩:=c;rw[e]at a;injection a with a;subst a;rw[h4]at f;simp only[eK]at f;refine⟨?_,_,rfl⟩;cases v<;>simp_all[Value.cells,Value.okWide,Cell.okWide,Cell.ok]
   |bool b e h4=>simp only[aC,Rep]at c;obtain⟨u,_,l,rfl,rfl⟩:=c;rw[e]at a;injection a with a;subst a;rw[h4]at f;simp only[eK]at f;refine⟨?_,_,rfl⟩;cases v<;>simp_all[Value.cells,Value.okWide,Cell.okWide,Cell.ok]
   |slice es e h4 h5 h6=>
    grind [eK,WideShapes.okWide_slice,Value.cells]
   |struct qs e h4 h5 h6=>
    grind
  obtain⟨B,s,rfl⟩:=w;rw[B]at c;simp only[aC]at c;obtain⟨u,_,l,e,rfl⟩:=c;injection l with l _;subst l;exact e
end
end Aw
end Go.Proofs.YtbgngpdonpeboaaGreatDoor
