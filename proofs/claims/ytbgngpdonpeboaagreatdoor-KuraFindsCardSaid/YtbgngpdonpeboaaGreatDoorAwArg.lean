/- Lemmas. -/
import Derived.Test.YtbgngpdonpeboaaGreatDoorAwRun
import Derived.ChangeArms
import Derived.WideShapes
set_option linter.defProp false
namespace Go.Proofs.YtbgngpdonpeboaaGreatDoor
namespace Aw
open Go Go.RowKit
abbrev g0:G:=⟨1,fun _=>none,fun _=>0,fun _=>0,fun _=>false⟩
inductive Shp(T:bg):Nat->List LV->Prop where
 |int {t r k} (n:Int):T t=some r->r.d=.int k->(Lit.int k n).wf=true->Shp T t [.atom (.int k n)]
 |bool {t r} (b:Bool):T t=some r->r.d=.bool->Shp T t [.atom (.bool b)]
 |slice {t r e} (es:List (List LV)):T t=some r->r.d=.slice e->es.length<=maxLen->(∀ x∈es,Shp T e x)->Shp T t [.sl 0 es.length es.flatten]
 |struct {t r fs} (ps:List (List LV)):T t=some r->r.d=.struct fs->ps.length=fs.length->(∀(i:Nat) (f:Nat×Nat) (x:List LV),fs[i]?=some f->ps[i]?=some x->Shp T f.2 x)->Shp T t ps.flatten
def tM(T:bg)(n:Nat):List (Nat×Nat)->Nat->Bool
 |[],o=>o==n
 |(off,ty)::r,o=>off==o&&match T ty with|some q=>tM T n r (o+q.size)|none=>false
def nh(T:bg):Nat->Nat->Bool
 |0,_=>false
 |d+1,t=>match T t with
  |some r=>match r.d with
   |.int _=>true
   |.bool=>true
   |.slice e=>(match T e with|some q=>decide (0<q.size)|none=>false)&&nh T d e
   |.struct fs=>tM T r.size fs 0&&fs.all fun f=>nh T d f.2
   |_=>false
  |none=>false
theorem Gb{b:Type}{Q:Nat->b->Prop}:∀ n,(∀ i,i<n->∃ x,Q i x)->∃ a:List b,a.length=n/\∀ i x,a[i]?=some x->Q i x
 |0,_=>⟨[],rfl,Y⟩
 |n+1,h=>by
  obtain⟨a,c,d⟩:=Gb n (fun i e=>h i O);obtain⟨x,f⟩:=h n O;refine⟨a++[x],by grind,fun i y g=>?_⟩
  grind
section
variable {P:Program} {T:bg} {W:World} {H:Type} {enc:TypeId×Value->H}
theorem sK(a:bE P T){t:Nat}{r:bQ}(h:T t=some r):P.cellsOf t=r.size:=by
 obtain⟨i,b,c,_⟩:=(a t r h).info
 grind [Program.cellsOf]
theorem JU{b s:Nat}:∀(d:List QQ) (o:Nat),(∀ i x,d[i]?=some x->x.length=s/\∃ a:List Value,aG W g0 x a/\∀ j,j<s->W.cell? ⟨b,o+i*s+j,none⟩=a[j]?)->aR W g0 b d.flatten o
 |[],o,_=>by grind [aR]
 |x::d,o,h=>by
  obtain⟨A,a,B,t⟩:=h 0 x rfl
  have D:=JU (b:=b) (s:=s) d (o+s) (fun i y C=>by
   have:=h (i+1) y (by grind)
   grind)
  rw[List.flatten_cons];have q:∀(x:QQ) (a:List Value) (o c:Nat) (rest:QQ),x.length=c->aG W g0 x a->(∀ j,j<c->W.cell? ⟨b,o+j,none⟩=a[j]?)->aR W g0 b rest (o+c)->aR W g0 b (x++rest) o:=by
   intro x;induction x with
   |nil=>grind
   |cons y x e=>
    intro a o c rest m g l r;simp only[aG]at g;obtain⟨v,f,rfl,n,p⟩:=g;simp only[List.cons_append,aR];refine⟨⟨v,by simpa using l 0 (by grind),n,fun k z=>by grind⟩,e f (o+1) (c - 1) rest (by grind) p (fun j w=>?_) ?_⟩
    .have:=l (j+1) O
     grind
    .simp at m;have:o+1+(c - 1)=o+c:=O
     grind
  grind
theorem Eg{a:Addr}{n:Nat}{b:List Value}(h:W.cells? 0 a n=some b):b.length=n/\∀ j,j<n->W.cell? (a.add j)=b[j]?:=by unfold World.cells? at h;rw[ac (jx _)]at h;exact⟨by simpa using mapM_some_length h,fun j c=>mapM_some_get h j j (by grind)⟩
theorem EC(j:bE P T){n:Nat}:∀(a:List (Nat×Nat)) (o:Nat) (d:List Value) (b:List QQ),tM T n a o=true->d.length=n->o<=n->b.length=a.length->
 (∀(i:Nat) (f:Nat×Nat) (x:QQ),a[i]?=some f->b[i]?=some x->aG W g0 x ((d.drop f.1).take (P.cellsOf f.2)))->aG W g0 b.flatten (d.drop o)
 |[],o,d,b,c,hl,ho,hp,_=>by
  grind [tM,aG]
 |(off,ty)::a,o,d,b,c,hl,ho,hp,h=>by
  cases b with
  |nil=>grind
  |cons x b=>
   simp only[tM,gg,ud]at c;obtain⟨rfl,c⟩:=c;cases e:T ty with
   |none=>grind
   |some q=>
    simp only[e]at c;have k:=h 0 (off,ty) x rfl rfl;simp only[sK j e]at k;have m:off+q.size<=n:=by
     have g:∀(a:List (Nat×Nat)) (o:Nat),tM T n a o=true->o<=n:=by
      intro a;induction a with
      |nil=>grind [tM]
      |cons f a l=>
       grind [tM]
     exact g _ _ c
    have l:=EC j a (off+q.size) d b c hl m (by grind) (fun i f y hf p=>h (i+1) f y (by grind) (by grind))
    grind [List.drop_drop,List.take_append_drop,cR]
theorem Dd(E:bE P T):∀(j d t:Nat) (w:List Value) (x:DataW H×List MemPlace),DataW.trod enc P W 0 (fun _=>true) true j t w=some x->nh T d t=true->∃ v,aG W g0 v w/\Shp T t v
 |0,d,t,w,x,h,_=>by simp[DataW.trod]at h
 |j+1,0,t,w,x,h,ho=>by grind [nh]
 |j+1,d+1,t,w,x,h,ho=>by
  cases z:T t with
  |none=>grind [nh]
  |some r=>
   have l:=(E t r z).desc;cases c:r.d with
   |int k=>
    rw[c]at l;simp only[fS]at l;unfold DataW.trod at h;rw[l]at h
    split at h<;>simp_all
    rename_i n _;obtain⟨⟨rfl,hw⟩,_⟩:=h;exact⟨_,by simp only[aG,Rep];exact⟨_,_,rfl,rfl,rfl⟩,.int n z c hw⟩
   |bool=>
    rw[c]at l;simp only[fS]at l;unfold DataW.trod at h;rw[l]at h
    split at h<;>simp_all
    exact⟨_,by simp only[aG,Rep];exact⟨_,_,rfl,rfl,rfl⟩,.bool _ z c⟩
   |slice e=>
    rw[c]at l;simp only[fS]at l;simp only[nh,z,c,gg]at ho;rcases DataW.trod_slice l h with⟨rfl,_⟩|⟨a,len,X,elems,rest,n,hn,rfl,_,_,L,I,hel,m,_⟩
    .refine⟨_,?_,.slice [] z c (jx _) Y⟩
     grind [aG,Rep]
    .have C:n=j:=O;subst C;cases N:T e with
     |none=>grind
     |some q=>
      simp only[N,jv]at ho;have hce:=sK E N
      obtain⟨S,J,p⟩:=Gb (Q:=fun i (x:QQ)=>Shp T e x/\∃ w,W.cells? 0 (a.add (i*q.size)) q.size=some w/\aG W g0 x w) len (fun i K=>by
       have D:=m i K;rw[bu O,hce]at D;simp only[nq]at D;obtain⟨B,U,h3⟩:=D;obtain⟨v,h4,h5⟩:=Dd E n d e B _ h3 ho.2
       grind)
      subst J;refine⟨_,?_,.slice S z c (fa L I) (fun x R=>?_)⟩
      .simp only[aG,Rep];refine⟨_,_,rfl,⟨some a,X,rfl,L,⟨I,Y⟩,fun h=>absurd rfl h,fun Tv=>?_⟩,rfl⟩;have M:a.spot=none:=by
        cases S with
        |nil=>grind
        |cons y S=>
         obtain⟨_,B,U,_⟩:=p 0 y rfl;obtain⟨k1,k2⟩:=Eg U;have V:=k2 0 ho.1;rw[bu O]at V;unfold World.cell? at V
         split at V
         .split at V
          .grind
          .rename_i hsn;simp only[Addr.add]at hsn;simp_all
         grind
       obtain⟨b,o,sp⟩:=a;simp only at M;subst M;refine⟨b,o,rfl,JU (s:=q.size) S o (fun i x R=>?_)⟩;obtain⟨_,B,U,h3⟩:=p i x R;obtain⟨k1,k2⟩:=Eg U
       grind [aO,add_lit]
      .obtain⟨i,K,rfl⟩:=er R;exact(p i _ (bu K)).1
   |struct fs=>
    rw[c]at l;simp only[fS]at l;obtain⟨F,hF,rfl⟩:=l;simp only[nh,z,c,gg]at ho;obtain⟨xs,n,hn,_,A,hxs,m⟩:=DataW.trod_struct hF h;have C:n=j:=O;subst C;rw[sK E z]at A
    obtain⟨ps,hps1,hps2⟩:=Gb (Q:=fun i (x:QQ)=>∀ f:Field,F[i]?=some f->Shp T f.type x/\aG W g0 x ((w.drop f.offset).take (P.cellsOf f.type))) F.size (fun i K=>by
     have hf:F[i]?=some F[i]:=wm K;have D:=m i F[i] hf;rw[bu O]at D;have hok:nh T d F[i].type=true:=by have:=lL.1 ho.2 (F[i].offset,F[i].type) (ao.2 ⟨F[i],Y,rfl⟩);simpa using this
     obtain⟨v,h4,h5⟩:=Dd E n d _ _ _ D hok
     exact⟨v,fun f hf'=>by grind⟩)
    have hget:∀(i:Nat) (f:Nat×Nat),(F.toList.map (fun f=>(f.offset,f.type)))[i]?=some f->∃ g:Field,F[i]?=some g/\f=(g.offset,g.type):=by intro i f hf;rw[ow,kj]at hf;obtain⟨g,hg,rfl⟩:=hf;exact⟨g,by grind,rfl⟩
    refine⟨ps.flatten,?_,.struct ps z c (by grind) (fun i f x hf R=>?_)⟩
    .have:=EC (W:=W) E _ 0 w ps ho.1 A (jx _) (by grind) (fun i f x hf R=>by
      grind)
     grind
    grind
   |_=>grind [nh]
def Zn(r:bQ)(a:QQ):LV:=if r.agg then .ag a else oe a
def RB(T:bg)(t:Nat)(a:QQ):LV:=match T t with
 |some r=>Zn r a
 |none=>.dead
theorem XC{t:Nat}{r:bQ}{a:QQ}(h:T t=some r):RB T t a=Zn r a:=by grind [RB]
theorem WX(w:bE P T){t d:Nat}{r:bQ}{v:Value}{y:DataW H}{D:List MemPlace}{E:Reach}{j:Nat}(c:T t=some r)(p:nh T d t=true)
 (C:Value.okWide P W E j t v) (h:DataW.Trod enc P W 0 (fun _=>true) true t v y D) (o:r.agg=true↔∃ q,r.d=.struct q):∃ a,Shp T t a/\Rep W g0 (RB T t a) v:=by
 simp only[XC c];obtain⟨k,hf⟩:=h;obtain⟨a,e,s⟩:=Dd w k d t _ _ hf p;refine⟨a,s,?_⟩;unfold Zn;have g:=(w t r c).desc;cases A:r.agg with
 |true=>
  simp only[ef,Rep];obtain⟨q,fC⟩:=o.1 A;rw[fC]at g;obtain⟨F,z,_⟩:=g;obtain⟨I,rfl,_⟩:=WideShapes.okWide_struct z C
  grind [Value.cells]
 |false=>
  simp only[ir,gI];have l:v.cells.toList=[v]/\∃ x,a=[x]:=by
   cases s with
   |int n f h4 h5=>simp only[aG,Rep]at e;obtain⟨u,_,m,rfl,rfl⟩:=e;rw[f]at c;injection c with c;subst c;rw[h4]at g;simp only[fS]at g;refine⟨?_,_,rfl⟩;cases v<;>simp_all[Value.cells,Value.okWide,Cell.okWide,Cell.ok]
   |bool b f h4=>simp only[aG,Rep]at e;obtain⟨u,_,m,rfl,rfl⟩:=e;rw[f]at c;injection c with c;subst c;rw[h4]at g;simp only[fS]at g;refine⟨?_,_,rfl⟩;cases v<;>simp_all[Value.cells,Value.okWide,Cell.okWide,Cell.ok]
   |slice es f h4 h5 h6=>
    grind [fS,WideShapes.okWide_slice,Value.cells]
   |struct qs f h4 h5 h6=>
    grind
  obtain⟨B,x,rfl⟩:=l;rw[B]at e;simp only[aG]at e;obtain⟨u,_,m,f,rfl⟩:=e;injection m with m _;subst m;exact f
end
end Aw
end Go.Proofs.YtbgngpdonpeboaaGreatDoor
