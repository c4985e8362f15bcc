/- Plain: faces of blocks put together, told apart by labels. -/
import Derived.Test.YtbgngpdonpeboaaGreatDoorJk
import Derived.Shelf.SlSortCmp.WholeK
import Derived.Shelf.SlSortCmp.QuietGrown
import Derived.Test.YtbgngpdonpeboaaGreatDoorAwShp
import Derived.Shelf.SlSortCmp.Whole1
import Derived.Shelf.SlSortCmp.NoneTotal
set_option linter.defProp false
set_option linter.unusedVariables false
set_option linter.unusedSimpArgs false
set_option linter.unusedSectionVars false
open Go.Proofs.Tryz
namespace Go.Proofs.YtbgngpdonpeboaaGreatDoor
namespace Aw
open Go Go.RowKit Pl Eu
abbrev jm:=List (List Ed×List AN)
structure Sys(g:Gr)(Bs:jm):Prop where
 gE:GoodE g
 ok:∀ p∈Bs,jV p.1 p.2/\BlE p.1/\p.1≠[]
 flat:(Bs.flatMap (·.1)).Perm (sE g.E)
theorem AG{g h:Type}{f:g->List h}:∀ {l:List g},(l.flatMap f).Nodup->∀ x∈l,∀ y∈l,∀ z,z∈f x->z∈f y->x=y
 |[],_,_,b,_,_,_,_,_=>by cases b
 |a::l,hn,x,b,y,c,z,h1,h2=>by
  rw[ec,bw]at hn;rcases ah.1 b with e|b
  .rcases ah.1 c with d|c
   .rw[e,d]
   .exact absurd rfl (hn.2.2 z (by rw[<- e];exact h1) z (gh.2 ⟨y,c,h2⟩))
  .rcases ah.1 c with d|c
   .exact absurd rfl (hn.2.2 z (by rw[<- d];exact h2) z (gh.2 ⟨x,b,h1⟩))
   .exact AG hn.2.1 x b y c z h1 h2
theorem QL{d k:Type}{f:d->List k}:∀ {l:List d},(l.flatMap f).Nodup->(∀ x∈l,f x≠[])->l.Nodup/\∀ x∈l,(f x).Nodup
 |[],_,_=>⟨.nil,fun _ h=>by cases h⟩
 |a::l,hn,h=>by
  rw[ec,bw]at hn;obtain⟨g,j⟩:=QL hn.2.1 fun x b=>h x (ar _ b);refine⟨cb.2 ⟨fun e=>?_,g⟩,fun x b=>?_⟩
  .obtain⟨z,c⟩:=gS _ (h a aw);exact hn.2.2 z c z (gh.2 ⟨a,e,c⟩) rfl
  .rcases ah.1 b with rfl|b
   .exact hn.1
   .exact j x b
def oU{E:List Ed}{F:List AN}(a:jV E F)(c:BlE E){v:Int}(g:v∉ai E):dI v (aU F)=[]:=by
 have b:=(a.keys c v).2;cases h:dI v (aU F) with
 |nil=>rfl
 |cons p P=>rw[h]at b;obtain⟨e,d,f⟩:=(a.mem p.1 v).1 ((b p.1).1 sS);exact absurd (dQ d f).2 g
def ug(Bs:jm)(p:Int×Int):List (Int×Int):=match(Bs.flatMap (·.2)).find? (fun r=>decide (p∈ao r)) with
 |some r=>ao r
 |none=>[]
def eg(g:Gr)(Bs:jm)(d:Int):List (Int×Int) ⊕ Int:=
 if(dj g (jk g d) (jt g d)).head?=some d then .inl (ug Bs (jk g d,jt g d))else .inr (max (d / 2) (pv (dj g (jk g d) (jt g d)) d / 2))
def fz(g:Gr)(Bs:jm):List (List AN):=g.V.map fun v=>Bs.map fun p=>bt g p.2 v
def jY(g:Gr)(Bs:jm)(v:Int):AN:=Bs.flatMap fun p=>bt g p.2 v
def HE(g:Gr)(Bs:jm):(fz g Bs).map List.flatten=g.V.map (jY g Bs):=by unfold fz jY;rw[dy];exact ii fun v _=>by rw[Function.comp_apply,List.flatMap_def]
section
variable {g:Gr} {Bs:jm} (hS:Sys g Bs)
include hS
theorem Sys.sim:(Bs.flatMap fun p=>p.1.map aj).Nodup:=by
 have:=(hS.flat.map aj).nodup_iff.2 (pB g.E)
 rwa [vf]at this
theorem Sys.nd:Bs.Nodup:=(QL hS.sim fun p a=>by rw[Ne,qj];exact(hS.ok p a).2.2).1
theorem Sys.same{p a:List Ed×List AN}(j:p∈Bs)(d:a∈Bs){e c:Ed}(f:e∈p.1)(b:c∈a.1)(h:aj e=aj c):p=a:=
 AG hS.sim p j a d (aj e) (de f) (by rw[h];exact de b)
theorem Sys.blk{e:Ed}(d:e∈g.E):∃ p∈Bs,∃ a∈p.1,aj a=aj e:=by obtain⟨y,b,c,_⟩:=IL hS.gE.ids e d;obtain⟨p,f,h⟩:=gh.1 (hS.flat.mem_iff.2 b);exact⟨p,f,y,h,c⟩
theorem Sys.sub{p:List Ed×List AN}(b:p∈Bs){e:Ed}(a:e∈p.1):e∈sE g.E/\e∈g.E:=by have:=hS.flat.mem_iff.1 (gh.2 ⟨p,b,a⟩);exact⟨this,fM _ _ this⟩
theorem Sys.bt_mem{p:List Ed×List AN}(q:p∈Bs){v d:Int}:d∈bt g p.2 v↔∃ e∈g.E,(∃ x,aj e=ay v x)/\d=ek v e/\∃ b∈p.1,aj b=aj e:=by
 obtain⟨l,k,n⟩:=hS.ok p q;by_cases j:v∈ai p.1
 .have m:=(l.round k n j).2.2.1;unfold bt;rw[gh];constructor
  .rintro⟨x,r,o⟩;obtain⟨e,h,a,rfl⟩:=kM.1 o;obtain⟨b,f,c⟩:=(m x).1 r;exact⟨e,h,⟨x,a⟩,rfl,b,f,by rw[c,a]⟩
  .rintro⟨e,h,⟨x,a⟩,rfl,b,f,c⟩;exact⟨x,(m x).2 ⟨b,f,by rw[c,a]⟩,kM.2 ⟨e,h,a,rfl⟩⟩
 .unfold bt;rw[oU l k j,nO];simp only[qx,ml,false_iff];rintro⟨e,h,⟨x,a⟩,_,b,f,c⟩;exact j (dQ f (by rw[c,a])).1
theorem Sys.bt_nodup{p:List Ed×List AN}(j:p∈Bs)(v:Int):(bt g p.2 v).Nodup:=by
 obtain⟨b,a,e⟩:=hS.ok p j;unfold bt;by_cases c:v∈ai p.1
 .refine kU (b.round a e c).1 (fun x _=>nQ hS.gE v x) fun x _ y _ d f h=>?_;rw[<- (xR hS.gE f).2,(xR hS.gE h).2]
 .rw[oU b a c,nO];exact .nil
theorem Sys.turn_nodup(v:Int):(jY g Bs v).Nodup:=by refine kU hS.nd (fun p a=>hS.bt_nodup a v) fun p a t b d l m=>?_;obtain⟨e,n,_,o,r,c,h⟩:=(hS.bt_mem a).1 l;obtain⟨f,hf,_,q,s,j,k⟩:=(hS.bt_mem b).1 m;have:e=f:=Qy hS.gE n hf (by rw[<- jQ v e,<- o,q,jQ]);subst this;exact hS.same a b c j (by rw[h,k])
theorem Sys.turn_mem{v d:Int}:d∈jY g Bs v↔d∈ends g.E v:=by
 unfold jY;rw[PU hS.gE,gh];constructor
 .rintro⟨p,b,h⟩;obtain⟨e,a,f,c,_⟩:=(hS.bt_mem b).1 h;exact⟨e,a,f,c⟩
 .rintro⟨e,a,f,c⟩;obtain⟨p,b,j,k,l⟩:=hS.blk a;exact⟨p,b,(hS.bt_mem b).2 ⟨e,a,f,c,j,k,l⟩⟩
theorem Sys.turn_perm(v:Int):(jY g Bs v).Perm (ends g.E v):=
 (jn (hS.turn_nodup v) (iR (Dc hS.gE.ids v))).2 fun _=>hS.turn_mem
theorem Sys.grp_ff:(fz g Bs).flatten.flatten=g.V.flatMap (jY g Bs):=by rw[<- lH,HE,List.flatMap_def]
theorem Sys.grp_nd:(fz g Bs).flatten.flatten.Nodup:=by rw[hS.grp_ff];refine kU hS.gE.toGood.nodup (fun v _=>hS.turn_nodup v) fun v _ w _ d a b=>?_;exact dM hS.gE.ids (hS.turn_mem.1 a) (hS.turn_mem.1 b)
theorem Sys.grp_mem{d:Int}:d∈(fz g Bs).flatten.flatten↔d∈aW g.E:=by
 rw[hS.grp_ff,gh];constructor
 .rintro⟨v,_,h⟩;exact nR (hS.turn_mem.1 h)
 .intro h;obtain⟨v,a,x,c,_,b⟩:=GC h;have:=hS.gE.ends x c;exact⟨v,by rcases b with rfl|rfl;(· exact this.1);(· exact this.2),hS.turn_mem.2 a⟩
theorem Sys.ring_at{p:List Ed×List AN}(a:p∈Bs){r:AN}(h:r∈p.2){q:Int×Int}(d:q∈ao r):ug Bs q=ao r:=by
 unfold ug;cases hf:(Bs.flatMap (·.2)).find? fun r=>decide (q∈ao r) with
 |none=>exact absurd d (by simpa using qo.1 hf r (gh.2 ⟨p,a,h⟩))
 |some m=>have n:=ow hf;have b:=o0 hf;rw[gg]at b;obtain⟨t,j,l⟩:=gh.1 n;obtain⟨e,o,k⟩:=((hS.ok p a).1.mem q.1 q.2).1 (aX.2 ⟨r,h,d⟩);obtain⟨v,c,s⟩:=((hS.ok t j).1.mem q.1 q.2).1 (aX.2 ⟨m,l,b⟩);have:=hS.same a j o c (by rw[k,s]);subst this;have:=AG (f:=ao) (hS.ok p a).1.nd r h m l q d b;rw[this]
theorem Sys.lab_inv{d:Int}(hd:d∈aW g.E):eg g Bs (di (fz g Bs).flatten (al g.E d))=eg g Bs d:=by
 have j:=hS.gE;rw[DQ hd];obtain⟨e,w,t,K,Z6⟩:=Si j hd;have A:eg g Bs d=if(dj g (jk g d) (jt g d)).head?=some d then .inl (ug Bs (jk g d,jt g d))else .inr (max (d / 2) (pv (dj g (jk g d) (jt g d)) d / 2)):=rfl
 rw[A];generalize jk g d=v at *;generalize jt g d=x at *;obtain⟨p,s,Y,X,S7⟩:=hS.blk w;obtain⟨hO,hE,h0⟩:=hS.ok p s;have C:aj Y=ay x v:=by rw[S7,t];exact aG _ _
 have hx:=(dQ X C).1;obtain⟨r1,r2,r3,r4⟩:=hO.round hE h0 hx;have m:=(r3 v).2 ⟨Y,X,C⟩;have c7:v≠x:=fun k=>by have:=j.ne e w;rcases aT t with⟨D,F⟩|⟨D,F⟩<;>omega
 have N:tw d∈dj g x v:=kM.2 ⟨e,w,by rw[t];exact aG _ _,by rw[K];exact QY j w t⟩;have O:x∈g.V:=by
  have:=j.ends e w;rcases aT t with⟨_,F⟩|⟨D,_⟩
  .rw[<- F];exact this.2
  .rw[<- D];exact this.1
 have j5:bt g p.2 x∈(fz g Bs).flatten:=fh.2 ⟨_,de (f:=fun v=>Bs.map fun p=>bt g p.2 v) O,de (f:=fun p:List Ed×List AN=>bt g p.2 x) s⟩;have M:tw d∈bt g p.2 x:=by unfold bt;exact gh.2 ⟨v,m,N⟩
 rw[gH hS.grp_nd j5 M];have J:=hS.bt_nodup s x;have B:∀ y∈bY (dI x (aU p.2)),dj g x y≠[]:=fun y hy=>by obtain⟨f,hf,L⟩:=(r3 y).1 hy;exact kv (kM.2 ⟨f,(hS.sub s hf).2,L,rfl⟩)
 obtain⟨n1,n2⟩:=Xw r1 J B m;have h:=nQ j v x;have b:=nQ j x v;obtain⟨P,Q,o⟩:=ij Z6;have l:dj g x v=(Q.map tw).reverse++tw d::(P.map tw).reverse:=by rw[WX j c7,o];simp
 show eg g Bs (nx (bt g p.2 x) (tw d))=_;rcases si P with H|⟨I,y,H⟩
 .subst H;rw[np,List.reverse_nil]at l;obtain⟨z,q,hz,T⟩:=n2 _ _ l;have hw:=(r4 v m);have n:nx (bt g p.2 x) (tw d)=z:=T;rw[n,ad (by rw[o];rfl)];have S:z∈dj g x (nx (bY (dI x (aU p.2))) v):=by rw[hz];exact aw
  obtain⟨U,W⟩:=xR j S;unfold eg;rw[U,W,hz,ad (show(z::q).head?=some z from rfl)];obtain⟨r,hr,D,F⟩:=hw;rw[hS.ring_at s hr D,hS.ring_at s hr F]
 .rw[H,sj,dz,List.singleton_append]at o;have c:dj g x v=(Q.map tw).reverse++tw d::tw y::(I.map tw).reverse:=by rw[l,H];simp
  have n:nx (bt g p.2 x) (tw d)=tw y:=n1 _ _ _ _ c;rw[n];have R:tw y∈dj g x v:=by rw[c];simp
  obtain⟨U,W⟩:=xR j R;have h1:¬(dj g v x).head?=some d:=by
   rw[o]at h ⊢;intro k;cases I with
   |nil=>simp at k;subst k;simp at h
   |cons a I=>simp at k;subst k;simp at h
  have h2:¬(dj g x v).head?=some (tw y):=by
   rw[c]at b ⊢;intro k;cases Z:(Q.map tw).reverse with
   |nil=>rw[Z]at k b;simp at k;rw[k]at b;simp at b
   |cons a Q'=>rw[Z]at k b;simp at k;rw[k]at b;simp at b
  rw[ac h1];unfold eg;rw[U,W,ac h2];have p1:pv (dj g v x) d=y:=by rw[o];rw[o]at h;exact JT h
  have p2:pv (dj g x v) (tw y)=tw d:=by rw[c];rw[c]at b;exact JT b
  rw[p1,p2,Fl,Fl,Int.max_comm]
theorem Sys.faces:(Bs.flatMap (·.2)).length+(g.E.length-(sE g.E).length)<=ig (al g.E) (aW g.E) (fz g Bs).flatten:=by
 have o:=hS.gE;let X1:List (List (Int×Int) ⊕ Int):=(Bs.flatMap (·.2)).map fun r=>.inl (ao r);let X2:List (List (Int×Int) ⊕ Int):=(g.E.filter fun e=>!decide (e∈sE g.E)).map fun e=>.inr e.id;have Q:(X1++X2).length=(Bs.flatMap (·.2)).length+(g.E.length-(sE g.E).length):=by
  have Z:g.E.Nodup:=o.ids.imp fun {a b} h e=>by rw[e]at h;omega
  have C:(g.E.filter fun e=>decide (e∈sE g.E)).length+(g.E.filter fun e=>!decide (e∈sE g.E)).length=g.E.length:=by
   have:∀ l:List Ed,(l.filter fun e=>decide (e∈sE g.E)).length+(l.filter fun e=>!decide (e∈sE g.E)).length=l.length:=by
    intro l;induction l with
    |nil=>rfl
    |cons a l S=>by_cases h:a∈sE g.E<;>simp[h]at S ⊢<;>omega
   exact this _
  have D:(g.E.filter fun e=>decide (e∈sE g.E)).length=(sE g.E).length:=by
   refine((jn (Z.sublist jc) ?_).2 fun e=>?_).length_eq
   .have:=pB g.E;exact(fa.1 this).imp fun {a b} h e=>h (by rw[e])
   .rw[cx,gg];exact⟨And.right,fun h=>⟨fM _ _ h,h⟩⟩
  rw[cf,dh,dh];omega
 rw[<- Q];unfold ig;have K0:∀ d,d∈aW g.E->eg g Bs (di (fz g Bs).flatten (al g.E d))=eg g Bs d:=fun d H=>hS.lab_inv H;have n9:∀ d,d∈aW g.E->di (fz g Bs).flatten (al g.E d)∈aW g.E:=fun d H=>by have C:al g.E d∈aW g.E:=(FU _ _ _).2 H;exact hS.grp_mem.1 ((kT hS.grp_nd).mem _ (hS.grp_mem.2 C))
 refine oV (eg g Bs) (fun x V y _ ho=>?_) (X1++X2) ?_ fun a L=>?_
 .have key:∀ n,it (fun d=>di (fz g Bs).flatten (al g.E d)) n x∈aW g.E/\eg g Bs (it (fun d=>di (fz g Bs).flatten (al g.E d)) n x)=eg g Bs x:=by
   intro n;induction n with
   |zero=>exact⟨V,rfl⟩
   |succ n S=>rw[bF];exact⟨n9 _ S.1,by rw[K0 _ S.1,S.2]⟩
  obtain⟨n,Z⟩:=ho;rw[<- Z];exact(key n).2.symm
 .refine bw.2 ⟨?_,?_,?_⟩
  ·
   have w:((Bs.flatMap (·.2)).flatMap ao).Nodup:=by rw[List.flatMap_assoc];refine kU hS.nd (fun p s=>(hS.ok p s).1.nd) fun p s p' P0 q C D=>?_;obtain⟨e,t,k⟩:=((hS.ok p s).1.mem q.1 q.2).1 C;obtain⟨e',X,k'⟩:=((hS.ok p' P0).1.mem q.1 q.2).1 D;exact hS.same s P0 t X (by rw[k,k'])
   have c7:∀ r∈Bs.flatMap (·.2),ao r≠[]:=fun r m e=>by obtain⟨p,s,m⟩:=gh.1 m;have C:=(hS.ok p s).1.ne r m;have D:=oB r;rw[e]at D;exact C (oy.1 D.symm)
   have hnd:=(QL w c7).1;show(List.map _ _).Nodup;unfold List.Nodup;rw[fa];refine hnd.imp_of_mem fun {r r'} m P8 hrr e=>hrr ?_;injection e with e;obtain⟨z,hz⟩:=gS _ (c7 r m);exact AG w r m r' P8 z hz (by rw[<- e];exact hz)
  .show(List.map _ _).Nodup;unfold List.Nodup;rw[fa];refine(o.ids.sublist jc).imp fun {a b} h e=>?_;injection e with e;omega
  .rintro a C b D rfl;obtain⟨r,_,T⟩:=aq.1 C;obtain⟨e,_,I⟩:=aq.1 D;rw[<- T]at I;cases I
 .rcases an.1 L with L|L
  .obtain⟨r,m,rfl⟩:=aq.1 L;obtain⟨p,s,m⟩:=gh.1 m;obtain⟨hO,hE,h0⟩:=hS.ok p s;obtain⟨v,hv⟩:=gS _ (hO.ne r m);obtain⟨x,V⟩:=gX hv;obtain⟨e1,X9,S7⟩:=(hO.mem v x).1 (aX.2 ⟨r,m,V⟩);have hs:dj g v x≠[]:=kv (kM.2 ⟨e1,(hS.sub s X9).2,S7,rfl⟩);obtain⟨d,q,H⟩:=my hs;have J:d∈dj g v x:=by rw[H];exact aw
   obtain⟨T,I⟩:=xR o J;refine⟨d,Gk o J,?_⟩;unfold eg;rw[T,I,H,ad (show(d::q).head?=some d from rfl),hS.ring_at s m V]
  .obtain⟨e,t,rfl⟩:=aq.1 L;rw[cx]at t;obtain⟨t,z8⟩:=t;have z8:e∉sE g.E:=by simpa using z8
   obtain⟨f,hf,w,v7⟩:=IL o.ids e t;have O:f≠e:=fun k=>z8 (by rw[<- k];exact hf);have P:=fM _ _ hf;have dF:f.id<e.id:=by
    rcases Int.lt_or_eq_of_le v7 with h|h
    .exact h
    .exact absurd (Qy o P t h) O
   obtain⟨v,x,hvx,O8⟩:∃ v x,v<x/\aj e=ay v x:=by
    have:=o.ne e t;rcases Int.lt_or_gt_of_ne this with h|h
    .exact⟨e.a,e.b,h,rfl⟩
    .exact⟨e.b,e.a,h,aG _ _⟩
   have R:dj g v x=(kK g v x).map (ek v):=by unfold dj fT;rw[ac oO];rfl
   have Y:e∈kK g v x:=oA.2 ⟨t,O8⟩;have N:f∈kK g v x:=oA.2 ⟨P,by rw[w,O8]⟩;have c:(kK g v x).Pairwise fun a b=>a.id<b.id:=o.ids.sublist jc;obtain⟨A,B,F⟩:=ij Y;have M:f∈A:=by
    rw[F]at N c;rcases an.1 N with h|h
    .exact h
    .rcases ah.1 h with h|h
     .exact absurd h O
     .have:=(jq.1 (nc.1 c).2.1).1 f h;omega
   rcases si A with K|⟨W,y,K⟩
   .rw[K]at M;cases M
   rw[sj]at K;have U:dj g v x=W.map (ek v)++ek v y::ek v e::B.map (ek v):=by rw[R,F,K];simp
   have j:=nQ o v x;have hye:y.id<e.id:=by rw[F,K]at c;exact(nc.1 c).2.2 y sS e sS
   have J:ek v e∈dj g v x:=by rw[U];simp
   obtain⟨T,I⟩:=xR o J;refine⟨ek v e,Gk o J,?_⟩;unfold eg;rw[T,I,ac,show pv (dj g v x) (ek v e)=ek v y by rw[U];rw[U]at j;exact JT j,jQ,jQ,Int.max_eq_left oO];rw[U]at j ⊢;intro k;cases W with
   |nil=>simp at k;rw[k]at j;simp at j
   |cons a W=>simp at k;rw[ax,k]at j;simp at j
end
def aE(x:Ed)(v:Int):Int:=if x.a=v then x.b else x.a
abbrev am(a:List Ed)(i:Nat):Ed:=a.getD i ed0
def cm(c:List Ed)(v:Int):List Nat:=(List.range c.length).filter fun i=>decide ((am c i).a=v\/(am c i).b=v)
structure Bw where
 w:AN
 low:AN
 stk:List Nat
 out:List (List Nat)
def du(V:AN)(v:Int):Int:=if v∈V then(V.idxOf v:Int)+1 else 0
def bu(s:Bw)(v:Int):Int:=s.low.getD (s.w.idxOf v) 0
def mV(s:Bw)(v x:Int):Bw:={ s with low:=s.low.set (s.w.idxOf v) x }
def eO(s:Bw)(i:Nat):Bw:={ s with stk:=s.stk++[i] }
def jO(l:List Nat)(i:Nat):Nat:=l.length-1-l.reverse.idxOf i
def tP(n:Nat)(dj:List Nat):List Nat:=(List.range n).filter fun i=>decide (i∈dj)
def Gz(n:Nat)(s:Bw)(i:Nat):Option Bw:=if i∈s.stk then some { s with stk:=s.stk.take (jO s.stk i),out:=s.out++[tP n (s.stk.drop (jO s.stk i))] } else none
def ku(f:Bw->Nat->Option Bw):List Nat->Bw->Option Bw
 |[],s=>some s
 |i::l,s=>(f s i).bind (ku f l)
def OV(n:Nat)(v b:Int)(i:Nat)(u:Int)(a:Bw):Option Bw:=
 if b<=bu a u then Gz n (mV a v (min (bu a v) (bu a u))) i else some (mV a v (min (bu a v) (bu a u)))
def gZ(c:Int->Int->Bw->Option Bw)(b:List Ed)(v C2 a:Int)(s:Bw)(i:Nat):Option Bw:=
 if(i:Int)=C2 then some s
 else if aE (am b i) v∈s.w then
  (if du s.w (aE (am b i) v)<a then some (mV (eO s i) v (min (bu s v) (du s.w (aE (am b i) v))))else some s)
 else(c (aE (am b i) v) i (eO s i)).bind (OV b.length v a i (aE (am b i) v))
def pI(s:Bw)(v:Int):Bw:={ s with w:=s.w++[v],low:=s.low++[(s.w.length:Int)+1] }
def oH(a:List Ed):Nat->Int->Int->Bw->Option Bw
 |0,_,_,_=>none
 |n+1,v,C2,s=>ku (gZ (oH a n) a v C2 ((s.w.length:Int)+1)) (cm a v) (pI s v)
def tD(a:List Ed)(n:Nat):AN->Bw->Option Bw
 |[],s=>some s
 |v::l,s=>if v∈s.w then tD a n l s else(oH a n v (-1) s).bind (tD a n l)
inductive RIn(es:List Ed)(S:Int->Prop)(x:Int):Int->Prop
 |refl (h:S x):RIn es S x x
 |step {y z:Int} (h:RIn es S x y) (hz:z∈nbr es y) (hs:S z):RIn es S x z
def RIn.here{a:List Ed}{S:Int->Prop}{x y:Int}(h:RIn a S x y):S x/\S y:=by
 induction h with
 |refl h=>grind
 |step _ _ b c=>grind
def RIn.trans{a:List Ed}{S:Int->Prop}{x y z:Int}(h:RIn a S x y)(k:RIn a S y z):RIn a S x z:=by
 induction k with
 |refl=>exact h
 |step _ c b d=>exact .step d c b
def RIn.symm{es:List Ed}{S:Int->Prop}{x y:Int}(h:RIn es S x y):RIn es S y x:=by
 induction h with
 |refl h=>exact .refl h
 |step h hz hs ih=>exact(RIn.step (.refl hs) (lA hz) h.here.2).trans ih
theorem RIn.mono{a:List Ed}{S S':Int->Prop}{x y:Int}(h:RIn a S x y)(b:∀ z,S z->S' z):RIn a S' x y:=by
 induction h with
 |refl h=>exact .refl (b _ h)
 |step _ d c e=>exact .step e d (b _ c)
def RIn.closed{a:List Ed}{S L:Int->Prop}{x y:Int}(h:RIn a S x y)(d:L x)(b:∀ z,L z->∀ w∈nbr a z,S w->L w):L y:=by
 induction h with
 |refl=>omega
 |step h e c f=>grind
def Qz(c:List Ed)(w:Int)(x y:Ed):Prop:=(x.a=w\/x.b=w)/\(y.a=w\/y.b=w)/\RIn c (·≠w) (aE x w) (aE y w)
def HP(a:List Ed)(x y:Ed):Prop:=∃ w,Qz a w x y
theorem HP.symm{es:List Ed}{x y:Ed}:HP es x y->HP es y x:=fun⟨w,h1,h2,h3⟩=>⟨w,h2,h1,h3.symm⟩
inductive mM(es:List Ed)(i:Nat):Nat->Prop
 |refl:mM es i i
 |step {j k:Nat} (h:mM es i j) (hj:j<es.length) (hk:k<es.length) (hr:HP es (am es j) (am es k)):mM es i k
def mM.trans{a:List Ed}{i j k:Nat}(h:mM a i j)(b:mM a j k):mM a i k:=by
 induction b with
 |refl=>exact h
 |step _ c d e f=>exact .step f c d e
theorem mM.symm{es:List Ed}{i j:Nat}(h:mM es i j):mM es j i:=by
 induction h with
 |refl=>exact .refl
 |step _ hj hk hr ih=>exact(mM.step .refl hk hj hr.symm).trans ih
structure dO(es:List Ed)(B:List Nat):Prop where
 ne:B≠[]
 rise:B.Pairwise (· < ·)
 lt:∀ i∈B,i<es.length
 rel:∀ i∈B,∀ j∈B,mM es i j
 all:∀ i∈B,∀ j,j<es.length->HP es (am es i) (am es j)->j∈B
def dO.iff{b:List Ed}{B:List Nat}(h:dO b B){i j:Nat}(c:i∈B):j∈B↔mM b i j:=by
 refine⟨h.rel i c j,fun a=>?_⟩;induction a with
 |refl=>omega
 |step _ _ d a e=>exact h.all _ e _ d a
theorem aR{c:List Ed}{v:Int}{i:Nat}:i∈cm c v↔i<c.length/\((am c i).a=v\/(am c i).b=v):=by
 grind [cm]
def sD{es:List Ed}{i:Nat}(h:i<es.length):am es i∈es:=by
 grind
theorem lU{x:Ed}{v:Int}(h:x.a=v\/x.b=v):aE x (aE x v)=v:=by
 grind [aE]
theorem lT(x:Ed)(v:Int):x.a=aE x v\/x.b=aE x v:=by
 grind [aE]
def XT{x:Ed}{v:Int}(h:x.a≠x.b)(c:x.a=v\/x.b=v):aE x v≠v:=by
 grind [aE]
def fZ{x:Ed}{v:Int}(d:x.a=v\/x.b=v)(c:Int):(x.a=c\/x.b=c)↔(c=v\/c=aE x v):=by
 grind [aE]
theorem lY{a:List Ed}{i:Nat}{v:Int}(h:i∈cm a v):aE (am a i) v∈nbr a v:=by
 grind [aR,cN,aE]
def GN{a:List Ed}{v w:Int}(h:w∈nbr a v):∃ i∈cm a v,aE (am a i) v=w:=by
 rw[cN]at h;obtain⟨x,c,h⟩:=h;obtain⟨i,b,rfl⟩:=eh c;have e:am a i=a[i]:=fA _ _ b
 grind [aR,aE]
def zA{a:List Ed}{i:Nat}{v:Int}(h:i∈cm a v):i∈cm a (aE (am a i) v):=aR.2 ⟨(aR.1 h).1,lT _ _⟩
structure yM(g:Gr)(A:Int->Prop)(s:Bw)(v C2:Int):Prop where
 ln:s.low.length=s.w.length
 nd:s.w.Nodup
 act:∀ a,A a->a∈s.w
 fin:∀ w∈s.w,¬A w->∀ i∈cm g.E w,aE (am g.E i) w∈s.w
 new:v∉s.w
 con:∀ a b,A a->A b->RIn g.E A a b
 par:(C2 = -1/\∀ a,¬A a)\/∃ i:Nat,C2=i/\i∈cm g.E v/\A (aE (am g.E i) v)
structure Ly(g:Gr)(s:Bw)(v C2:Int)(s1:Bw)(C:AN)(T:List Nat)(N:List (List Nat)):Prop where
 w:s1.w=s.w++C
 hd:v∈C
 nd:s1.w.Nodup
 ln:s1.low.length=s1.w.length
 low:∀ w∈s.w,bu s1 w=bu s w
 clo:∀ c∈C,∀ i∈cm g.E c,aE (am g.E i) c∈s1.w
 stk:s1.stk=s.stk++T
 out:s1.out=s.out++N
 pl:∀ i,(i∈T++N.flatten)↔i<g.E.length/\(i:Int)≠C2/\((am g.E i).a∈C\/(am g.E i).b∈C)
 pn:(T++N.flatten).Nodup
 lw1:bu s1 v<=(s.w.length:Int)+1
 lw2:∀ c∈C,∀ i∈cm g.E c,(i:Int)≠C2->aE (am g.E i) c∉C->bu s1 v<=du s.w (aE (am g.E i) c)
 lw3:bu s1 v<(s.w.length:Int)+1->∃ c∈C,∃ i∈cm g.E c,(i:Int)≠C2/\aE (am g.E i) c∈s.w/\du s.w (aE (am g.E i) c)=bu s1 v
 rel:∀ i∈T,∃ b:Nat,C2=b/\mM g.E b i
 good:∀ B∈N,dO g.E B
 cn:∀ c∈C,RIn g.E (·∈C) v c
structure BLp(g:Gr)(s0:Bw)(v C2:Int)(Q:List Nat)(s:Bw)(D:AN)(T:List Nat)(N:List (List Nat)):Prop where
 w:s.w=s0.w++v::D
 nd:s.w.Nodup
 ln:s.low.length=s.w.length
 low:∀ w∈s0.w,bu s w=bu s0 w
 qs:∀ i∈Q,i∈cm g.E v
 cloQ:∀ i∈Q,aE (am g.E i) v∈s.w
 cloD:∀ c∈D,∀ i∈cm g.E c,aE (am g.E i) c∈s.w
 stk:s.stk=s0.stk++T
 out:s.out=s0.out++N
 pl:∀ i,(i∈T++N.flatten)↔i<g.E.length/\(i:Int)≠C2/\(((am g.E i).a∈D\/(am g.E i).b∈D)\/(i∈Q/\aE (am g.E i) v∈s0.w))
 pn:(T++N.flatten).Nodup
 lw1:bu s v<=(s0.w.length:Int)+1
 lwD:∀ c∈D,∀ i∈cm g.E c,aE (am g.E i) c∉D->aE (am g.E i) c≠v->bu s v<=du s0.w (aE (am g.E i) c)
 lwQ:∀ i∈Q,(i:Int)≠C2->aE (am g.E i) v∈s0.w->bu s v<=du s0.w (aE (am g.E i) v)
 lw3:bu s v<(s0.w.length:Int)+1->∃ c∈v::D,∃ i∈cm g.E c,(i:Int)≠C2/\aE (am g.E i) c∈s0.w/\du s0.w (aE (am g.E i) c)=bu s v
 rel:∀ i∈T,∃ b:Nat,C2=b/\mM g.E b i
 good:∀ B∈N,dO g.E B
 cn:∀ c∈D,RIn g.E (fun x=>x=v\/x∈D) v c
def FJ{V W:AN}{x:Int}(h:x∈V):du (V++W) x=du V x:=by
 grind [du]
def MV{V W:AN}{x:Int}(h:x∉V)(a:x∈W):(V.length:Int)+1<=du (V++W) x:=by
 grind [du]
def RN{V:AN}{x:Int}(h:x∈V):du V x<(V.length:Int)+1:=by
 grind [du]
def FO{s:Bw}(g:s.low.length=s.w.length){v w x:Int}(b:v∈s.w)(c:w∈s.w):bu (mV s v x) w=if w=v then x else bu s w:=by
 unfold bu mV;have a:=jy b;have f:=jy c;simp only;rw[bA _ _ (by grind),List.getElem_set,bA _ _ oO];by_cases e:w=v
 .grind
 .rw[ac e,ac];intro k;apply e;have d:=mh a
  grind
def TT{s:Bw}{v w:Int}(a:s.low.length=s.w.length)(b:w∈s.w):bu (pI s v) w=bu s w:=by
 grind [bu,pI]
def Qw{s:Bw}{v:Int}(a:s.low.length=s.w.length)(b:v∉s.w):bu (pI s v) v=(s.w.length:Int)+1:=by
 grind [bu,pI]
theorem vS{P R:List Nat}{i:Nat}(h:i∉R):jO (P++i::R) i=P.length:=by
 grind [jO]
theorem kS{n:Nat}{S:List Nat}{i:Nat}:i∈tP n S↔i<n/\i∈S:=by
 grind [tP]
def xH(n:Nat)(S:List Nat):(tP n S).Pairwise (· < ·):=qi _ (nv)
def vT{n:Nat}{S:List Nat}(a:S.Nodup)(b:∀ i∈S,i<n):(tP n S).Perm S:=
 (jn ((xH n S).imp fun h=>kg h) a).2 fun i=>by grind [kS]
section
variable {g:Gr} (hg:GoodE g)
include hg
theorem tM{i:Nat}{v:Int}(h:i∈cm g.E v):aE (am g.E i) v≠v:=XT (hg.ne _ (sD (aR.1 h).1)) (aR.1 h).2
omit hg in
theorem yM.start{A:Int->Prop}{s:Bw}{v C2:Int}(h:yM g A s v C2):BLp g s v C2 [] (pI s v) [] [] [] where
 w:=rfl
 nd:=by show(s.w++[v]).Nodup;rw[bw];exact⟨h.nd,sS,fun a e b d=>by rintro rfl;rw[bf]at d;subst d;exact h.new e⟩
 ln:=by show(s.low++[_]).length=(s.w++[v]).length;simp[h.ln]
 low:=fun w j=>TT h.ln j
 qs:=fun i c=>by grind
 cloQ:=fun i c=>by grind
 cloD:=fun i c=>by grind
 stk:=by show s.stk=s.stk++[];simp
 out:=by show s.out=s.out++[];simp
 pl:=fun i=>by simp
 pn:=sS
 lw1:=by rw[Qw h.ln h.new];omega
 lwD:=fun i c=>by grind
 lwQ:=fun i c=>by grind
 lw3:=fun f=>by rw[Qw h.ln h.new]at f;omega
 rel:=fun i c=>by grind
 good:=fun i c=>by grind
 cn:=fun i c=>by grind
theorem BLp.done{A:Int->Prop}{n s:Bw}{v C2:Int}{D:AN}{T:List Nat}{N:List (List Nat)}(t:yM g A n v C2)(h:BLp g n v C2 (cm g.E v) s D T N):Ly g n v C2 s (v::D) T N where
 w:=h.w
 hd:=sS
 nd:=h.nd
 ln:=h.ln
 low:=h.low
 clo:=fun c d i e=>by
  rcases ah.1 d with rfl|d
  .exact h.cloQ i e
  .exact h.cloD c d i e
 stk:=h.stk
 out:=h.out
 pl:=fun i=>by
  rw[h.pl i];refine⟨fun⟨l,m,k⟩=>⟨l,m,?_⟩,fun⟨l,m,k⟩=>⟨l,m,?_⟩⟩
  .rcases k with(k|k)|⟨k,_⟩
   .grind
   .grind
   grind [aR]
  .by_cases q:(am g.E i).a=v\/(am g.E i).b=v
   .have e:i∈cm g.E v:=aR.2 ⟨l,q⟩;have j:=h.cloQ i e;rw[h.w,an,ah]at j;rcases j with j|j|j
    .grind
    .grind [tM]
    grind [lT]
   grind
 pn:=h.pn
 lw1:=h.lw1
 lw2:=fun c d i e o p=>by
  have f:=p;rw[ah,gy]at f;rcases ah.1 d with rfl|d
  .refine h.lwQ i e o ?_;have j:=h.cloQ i e;rw[h.w,an]at j
   grind
  .exact h.lwD c d i e f.2 f.1
 lw3:=h.lw3
 rel:=h.rel
 good:=h.good
 cn:=fun c d=>by
  rcases ah.1 d with rfl|d
  .exact .refl sS
  .exact(h.cn c d).mono fun z r=>ah.2 r
end
def zO{x:Ed}{L:AN}{w:Int}(g:w∈L)(c:x.a=w\/x.b=w)(f:aE x w∈L):x.a∈L/\x.b∈L:=by
 have d:=(fZ c x.a).1 (.inl rfl);have e:=(fZ c x.b).1 (.inr rfl)
 grind
section
variable {g:Gr} (hg:GoodE g) {A:Int->Prop} {s0 s:Bw} {v C2:Int} {Q:List Nat} {D:List Int} {T:List Nat} {N:List (List Nat)} (h0:yM g A s0 v C2) (h:BLp g s0 v C2 Q s D T N)
include hg h0 h
theorem BLp.v_in:v∈s.w:=by rw[h.w];simp
theorem BLp.old_in{w:Int}(a:w∈s0.w):w∈s.w:=by rw[h.w];grind
theorem BLp.d_in{w:Int}(a:w∈D):w∈s.w:=by rw[h.w];grind
theorem BLp.by_out{b:Nat}(e:C2=b):aE (am g.E b) v∈s0.w/\b∈cm g.E v/\A (aE (am g.E b) v):=by
 rcases h0.par with⟨c,_⟩|⟨i,c,d,a⟩
 .omega
 .obtain rfl:i=b:=oO;exact⟨h0.act _ a,d,a⟩
theorem BLp.d_new{d:Int}(b:d∈D):d∉s0.w/\d≠v:=by
 have a:=h.nd;rw[h.w,bw]at a
 grind
theorem BLp.pl_in{j:Nat}(e:j∈T++N.flatten):(am g.E j).a∈s.w/\(am g.E j).b∈s.w:=by
 obtain⟨c,_,d⟩:=(h.pl j).1 e;rcases d with(k|k)|⟨k,f⟩
 .exact zO (h.d_in hg h0 k) (.inl rfl) (h.cloD _ k j (aR.2 ⟨c,.inl rfl⟩))
 .exact zO (h.d_in hg h0 k) (.inr rfl) (h.cloD _ k j (aR.2 ⟨c,.inr rfl⟩))
 .exact zO (h.v_in hg h0) (aR.1 (h.qs j k)).2 (h.cloQ j k)
theorem BLp.back_act{c:Int}(b:c∉s0.w){i:Nat}(d:i∈cm g.E c)(e:aE (am g.E i) c∈s0.w):A (aE (am g.E i) c):=
 fv fun a=>b (by
  have:=h0.fin _ e a i (zA d)
  grind [lU,aR])
theorem BLp.same{i:Nat}(d:i∈cm g.E v)(c:(i:Int)=C2):BLp g s0 v C2 (Q++[i]) s D T N where
 w:=h.w
 nd:=h.nd
 ln:=h.ln
 low:=h.low
 qs:=fun j a=>by rcases an.1 a with k|k;exact h.qs j k;grind
 cloQ:=fun j a=>by
  rcases an.1 a with k|k
  .exact h.cloQ j k
  .rw[bf]at k;subst k;exact h.old_in hg h0 (h.by_out hg h0 c.symm).1
 cloD:=h.cloD
 stk:=h.stk
 out:=h.out
 pl:=fun j=>by
  rw[h.pl j,an,bf]
  grind
 pn:=h.pn
 lw1:=h.lw1
 lwD:=h.lwD
 lwQ:=fun j a b=>by
  rcases an.1 a with k|k
  .exact h.lwQ j k b
  grind
 lw3:=h.lw3
 rel:=h.rel
 good:=h.good
 cn:=h.cn
theorem BLp.skip{i:Nat}(e:i∈cm g.E v)(f:aE (am g.E i) v∈s.w)(c:¬du s.w (aE (am g.E i) v)<(s0.w.length:Int)+1):BLp g s0 v C2 (Q++[i]) s D T N:=by
 have d:aE (am g.E i) v∉s0.w:=fun k=>c (by rw[h.w,FJ k];exact RN k)
 exact {
 w:=h.w
 nd:=h.nd
 ln:=h.ln
 low:=h.low
 qs:=fun j a=>by rcases an.1 a with k|k;exact h.qs j k;grind
 cloQ:=fun j a=>by
  rcases an.1 a with k|k
  .exact h.cloQ j k
  grind
 cloD:=h.cloD
 stk:=h.stk
 out:=h.out
 pl:=fun j=>by
  rw[h.pl j,an,bf]
  grind
 pn:=h.pn
 lw1:=h.lw1
 lwD:=h.lwD
 lwQ:=fun j a b=>by
  rcases an.1 a with k|k
  .exact h.lwQ j k b
  grind
 lw3:=h.lw3
 rel:=h.rel
 good:=h.good
 cn:=h.cn }
theorem BLp.act_to{b:Nat}(d:C2=b){a:Int}(c:A a):RIn g.E (·≠v) a (aE (am g.E b) v):=
 (h0.con _ _ c (h.by_out hg h0 d).2.2).mono fun z f e=>by subst e;exact h0.new (h0.act _ f)
theorem BLp.no_root{a:Int}(d:A a):∃ b:Nat,C2=b:=by
 rcases h0.par with⟨_,c⟩|⟨b,c,_⟩
 .grind
 grind
theorem BLp.back{i:Nat}(n:i∈cm g.E v)(L:i∉Q)(M:(i:Int)≠C2)(C:aE (am g.E i) v∈s.w)(O:du s.w (aE (am g.E i) v)<(s0.w.length:Int)+1):
 BLp g s0 v C2 (Q++[i]) (mV (eO s i) v (min (bu s v) (du s.w (aE (am g.E i) v)))) D (T++[i]) N:=by
 have o:aE (am g.E i) v∈s0.w:=fv fun k=>by have p:=C;rw[h.w,an]at p;have:=MV k (p.resolve_left k);rw[h.w]at O;omega
 have B:=h.back_act hg h0 h0.new n o;have m:=h.v_in hg h0;have P:du s.w (aE (am g.E i) v)=du s0.w (aE (am g.E i) v):=by rw[h.w,FJ o]
 have l:∀ w∈s.w,∀ x,bu (mV (eO s i) v x) w=if w=v then x else bu s w:=fun w q x=>FO (s:=eO s i) h.ln m q
 have H:i∉T++N.flatten:=fun k=>by
  obtain⟨_,_,J⟩:=(h.pl i).1 k;rcases J with(d|d)|⟨d,_⟩
  .rcases(fZ (aR.1 n).2 _).1 (.inl rfl)with e|e
   .rw[e]at d;exact(h.d_new hg h0 d).2 rfl
   .rw[e]at d;exact(h.d_new hg h0 d).1 o
  .rcases(fZ (aR.1 n).2 _).1 (.inr rfl)with e|e
   .rw[e]at d;exact(h.d_new hg h0 d).2 rfl
   .rw[e]at d;exact(h.d_new hg h0 d).1 o
  grind
 exact {
 w:=h.w
 nd:=h.nd
 ln:=by show(s.low.set _ _).length=_;rw[pd];exact h.ln
 low:=fun w q=>by rw[l w (h.old_in hg h0 q),ac (fun e=>h0.new (by grind))];exact h.low w q
 qs:=fun j f=>by rcases an.1 f with k|k;exact h.qs j k;grind
 cloQ:=fun j f=>by
  rcases an.1 f with k|k
  .exact h.cloQ j k
  .rw[bf]at k;subst k;exact C
 cloD:=h.cloD
 stk:=by show s.stk++[i]=_;rw[h.stk,dz]
 out:=h.out
 pl:=fun j=>by
  rw[dz,an,an,or_left_comm,<- an,h.pl j,bf,an,bf]
  grind [aR]
 pn:=by rw[dz];refine((lk (a:=i) (l₁:=T) (l₂:=N.flatten)).nodup_iff).2 ?_;exact cb.2 ⟨H,h.pn⟩
 lw1:=by grind
 lwD:=fun c K j f p I=>by rw[l v m,ad rfl];have:=h.lwD c K j f p I;omega
 lwQ:=fun j f t R=>by
  rw[l v m,ad rfl];rcases an.1 f with k|k
  .have:=h.lwQ j k t R;omega
  grind
 lw3:=fun y=>by
  rw[l v m,ad rfl]at y ⊢;by_cases F:bu s v<=du s.w (aE (am g.E i) v)
  .rw[Int.min_eq_left F]at y ⊢;exact h.lw3 y
  grind
 rel:=fun j f=>by
  rcases an.1 f with k|k
  .exact h.rel j k
  .rw[bf]at k;subst k;obtain⟨b,r⟩:=h.no_root hg h0 B;obtain⟨_,z,_⟩:=h.by_out hg h0 r;exact⟨b,r,.step .refl (aR.1 z).1 (aR.1 n).1 ⟨v,(aR.1 z).2,(aR.1 n).2,(h.act_to hg h0 r B).symm⟩⟩
 good:=h.good
 cn:=h.cn }
end
section
variable {g:Gr} (hg:GoodE g) {A:Int->Prop} {s0 s:Bw} {v C2:Int} {Q:List Nat} {D:List Int} {T:List Nat} {N:List (List Nat)} (h0:yM g A s0 v C2) (h:BLp g s0 v C2 Q s D T N)
include hg h0 h
theorem BLp.pre{i:Nat}(m:i∈cm g.E v)(o:aE (am g.E i) v∉s.w):yM g (fun a=>A a\/a=v) (eO s i) (aE (am g.E i) v) i where
 ln:=h.ln
 nd:=h.nd
 act:=fun a c=>by
  rcases c with c|e
  .exact h.old_in hg h0 (h0.act _ c)
  .show a∈s.w;rw[e];exact h.v_in hg h0
 fin:=fun w t r j n=>by
  have l:w∈s.w:=t;show aE (am g.E j) w∈s.w;rw[h.w,an,ah]at l;rcases l with k|k|k
  .exact h.old_in hg h0 (h0.fin w k (fun x=>r (.inl x)) j n)
  .omega
  .exact h.cloD w k j n
 new:=o
 con:=by
  have B:∀ a b,A a->A b->RIn g.E (fun a=>A a\/a=v) a b:=fun a b c d=>(h0.con a b c d).mono fun z y=>.inl y;have f:∀ a,A a->RIn g.E (fun a=>A a\/a=v) a v:=fun a c=>by obtain⟨b,d⟩:=h.no_root hg h0 c;obtain⟨_,p,q⟩:=h.by_out hg h0 d;exact .step (B a _ c q) (lA (lY p)) (.inr rfl)
  rintro a b (c|rfl) (d|rfl)
  .grind
  .grind
  .exact(f b d).symm
  .exact .refl (.inr rfl)
 par:=.inr ⟨i,rfl,zA m,.inr (lU (aR.1 m).2)⟩
theorem BLp.child{i:Nat}(hi:i∈cm g.E v)(hiQ:i∉Q)(hib:(i:Int)≠C2)(K1:aE (am g.E i) v∉s.w){s1:Bw}{C:AN}{T':List Nat}{N':List (List Nat)}
 (f:Ly g (eO s i) (aE (am g.E i) v) i s1 C T' N'):∃ P D2 T2 Z,OV g.E.length v ((s0.w.length:Int)+1) i (aE (am g.E i) v) s1=some P/\BLp g s0 v C2 (Q++[i]) P D2 T2 Z:=by
 obtain⟨u,hu⟩:∃ u,u=aE (am g.E i) v:=⟨_,rfl⟩;have hvs:=h.v_in hg h0;have m:s1.w=s.w++C:=f.w;have hvis2:s1.w=s0.w++v::(D++C):=by rw[m,h.w,dz];rfl
 have K:v∈s1.w:=by rw[m];exact cX _ hvs
 have hcn:∀ c∈C,c∉s.w:=fun c p k=>by
  have:=f.nd
  grind
 have t:(am g.E i).a=v\/(am g.E i).b=v:=(aR.1 hi).2;have hil:=(aR.1 hi).1;have huC:u∈C:=by rw[hu];exact f.hd
 have hu1:u∈s1.w:=by rw[m];exact dv _ huC
 have huv:u≠v:=by rw[hu];exact tM hg hi
 have hlen:s.w.length=s0.w.length+1+D.length:=by rw[h.w,cf,List.length_cons];omega
 have U:bu s1 v=bu s v:=f.low v hvs;have inS:∀ {j:Nat},j∈T++N.flatten->¬((am g.E j).a∈C\/(am g.E j).b∈C):=fun d k=>by
  have:=h.pl_in hg h0 d
  grind
 have byC:∀ b:Nat,C2=b->¬((am g.E b).a∈C\/(am g.E b).b∈C):=fun b X k=>by
  obtain⟨b1,b2,_⟩:=h.by_out hg h0 X;have:=zO hvs (aR.1 b2).2 (h.old_in hg h0 b1)
  grind
 have iC:(am g.E i).a∈C\/(am g.E i).b∈C:=by
  rcases lT (am g.E i) v with e|e
  .grind
  .grind
 have iT':i∉T'++N'.flatten:=fun k=>((f.pl i).1 k).2.1 rfl;have W0:∀ j,(j=i\/j∈T'++N'.flatten)↔j<g.E.length/\((am g.E j).a∈C\/(am g.E j).b∈C):=fun j=>by
  rw[f.pl j]
  grind
 have Q8:∀ j,(j∈T++N.flatten\/(j=i\/j∈T'++N'.flatten))↔j<g.E.length/\(j:Int)≠C2/\(((am g.E j).a∈D++C\/(am g.E j).b∈D++C)\/(j∈Q++[i]/\aE (am g.E j) v∈s0.w)):=fun j=>by
  rw[h.pl j,W0 j]
  grind
 have hnd:((T++N.flatten)++i::(T'++N'.flatten)).Nodup:=by rw[bw];refine⟨h.pn,cb.2 ⟨iT',f.pn⟩,fun a ha b X=>?_⟩;rintro rfl;exact inS ha ((W0 a).1 (ah.1 X)).2
 have hset:∀ x,∀ w∈s1.w,bu (mV s1 v x) w=if w=v then x else bu s1 w:=fun x w O=>FO f.ln K O
 have hold1:∀ w∈s0.w,w≠v:=fun w O e=>h0.new (by grind);have nm0:∀ w∈s0.w,du s.w w=du s0.w w:=fun w O=>by rw[h.w,FJ O]
 have wit:bu s1 u<(s0.w.length:Int)+1->∃ c∈C,∃ j∈cm g.E c,j≠i/\aE (am g.E j) c∈s0.w/\du s0.w (aE (am g.E j) c)=bu s1 u:=fun S=>by
  have hl2:bu s1 u<((eO s i).w.length:Int)+1:=by show _<(s.w.length:Int)+1;omega
  rw[hu]at hl2;obtain⟨c,p,j,d,o,V,he⟩:=f.lw3 hl2;have he:du s.w (aE (am g.E j) c)=bu s1 u:=by rw[hu];exact he
  have q:aE (am g.E j) c∈s.w:=V;have h1:aE (am g.E j) c∈s0.w:=fv fun k=>by have h2:=q;rw[h.w,an]at h2;have:=MV k (h2.resolve_left k);rw[<- h.w]at this;omega
  grind
 have W:∀(P:Bw) (T2:List Nat) (Z:List (List Nat)),P.w=s1.w->P.low=(mV s1 v (min (bu s1 v) (bu s1 u))).low->P.stk=s0.stk++T2->P.out=s0.out++Z->
  (T2++Z.flatten).Perm ((T++N.flatten)++i::(T'++N'.flatten))->(∀ j∈T2,∃ b:Nat,C2=b/\mM g.E b j)->(∀ B∈Z,dO g.E B)->BLp g s0 v C2 (Q++[i]) P (D++C) T2 Z:=fun P T2 Z M e2 e3 e4 I hrel y=>by
  have H:∀ w∈s1.w,bu P w=if w=v then min (bu s1 v) (bu s1 u)else bu s1 w:=fun w O=>by rw[<- hset _ w O];unfold bu;rw[M,e2];rfl
  exact {
  w:=by grind
  nd:=by rw[M];exact f.nd
  ln:=by rw[M,e2];show(s1.low.set _ _).length=_;rw[pd];exact f.ln
  low:=fun w O=>by have P6:=h.old_in hg h0 O;rw[H w (by grind),ac (hold1 w O),f.low w P6];exact h.low w O
  qs:=fun j d=>by rcases an.1 d with k|k;exact h.qs j k;grind
  cloQ:=fun j d=>by
   rw[M];rcases an.1 d with k|k
   .rw[m];exact cX _ (h.cloQ j k)
   grind
  cloD:=fun c p j d=>by
   rw[M];rcases an.1 p with k|k
   .rw[m];exact cX _ (h.cloD c k j d)
   .exact f.clo c k j d
  stk:=e3
  out:=e4
  pl:=fun j=>by rw[I.mem_iff,<- Q8 j,an,ah]
  pn:=I.nodup_iff.2 hnd
  lw1:=by rw[H v K,ad rfl,U];have:=h.lw1;omega
  lwD:=fun c p j d h1 h2=>by
   rw[H v K,ad rfl,U];rw[an,gy]at h1;rcases an.1 p with k|k
   .have:=h.lwD c k j d h1.1 h2;omega
   .have o:(j:Int)≠i:=fun e=>by
     obtain rfl:j=i:=oO;rcases(fZ t c).1 (aR.1 d).2 with e|e
     .grind
     grind [lU]
    have h3:=f.lw2 c k j d o h1.2;have h4:bu s1 u<=du s.w (aE (am g.E j) c):=by rw[hu];exact h3
    have q:=f.clo c k j d;rw[hvis2,an,ah,an]at q;have q:=q.resolve_right fun x=>by rcases x with x|x|x;exact h2 x;exact h1.1 x;grind
    rw[nm0 _ q]at h4;omega
  lwQ:=fun j d hjb V=>by
   rw[H v K,ad rfl,U];rcases an.1 d with k|k
   .have:=h.lwQ j k hjb V;omega
   .rw[bf]at k;subst k;exact absurd (h.old_in hg h0 V) K1
  lw3:=fun S=>by
   rw[H v K,ad rfl]at S ⊢;by_cases T7:bu s1 v<=bu s1 u
   .rw[Int.min_eq_left T7,U]at S ⊢;obtain⟨c,p,j,d,hjb,V,he⟩:=h.lw3 S
    grind
   .rw[Int.min_eq_right oO]at S ⊢;obtain⟨c,p,j,d,o,V,he⟩:=wit S;refine⟨c,by grind,j,d,fun e=>byC j e.symm ?_,V,he⟩;rcases(aR.1 d).2 with x|x
    .grind
    grind
  rel:=hrel
  good:=y
  cn:=fun c p=>by
   rcases an.1 p with k|k
   .exact(h.cn c k).mono fun z hz=>hz.imp_right fun x=>cX _ x
   .have h1:=(f.cn c k).mono (S':=fun x=>x=v\/x∈D++C) fun z hz=>.inr (dv _ hz)
    exact(RIn.step (.refl (.inl rfl)) (lY hi) (.inr (dv _ (by grind)))).trans h1 }
 rw[<- hu];unfold OV;by_cases p:(s0.w.length:Int)+1<=bu s1 u
 .rw[ad p];have Y:s1.stk=(s0.stk++T)++i::T':=by rw[f.stk];show(s.stk++[i])++T'=_;rw[h.stk];simp
  have hiT:i∉T':=fun k=>iT' (cX _ k);have hlp:jO s1.stk i=(s0.stk++T).length:=by rw[Y];exact vS hiT
  have hSn:(i::T').Nodup:=cb.2 ⟨hiT,(bw.1 f.pn).1⟩;have hSl:∀ j∈i::T',j<g.E.length:=fun j d=>by
   grind
  have hbp:=vT hSn hSl;have J:∀ j∈i::T',mM g.E i j:=fun j d=>by
   rcases ah.1 d with e|k
   .rw[e];exact .refl
   .obtain⟨b,X,hr⟩:=f.rel j k;obtain rfl:i=b:=oO;omega
  have hlu:∀ c∈C,∀ j∈cm g.E c,aE (am g.E j) c∈C\/aE (am g.E j) c=v:=fun c r j d=>by
   by_cases M:aE (am g.E j) c∈C
   .grind
   refine .inr (fv fun e2=>?_);by_cases o:(j:Int)=i
   .obtain rfl:j=i:=oO;rcases(fZ t c).1 (aR.1 d).2 with e|e
    .grind
    grind [lU]
   .have h3:=f.lw2 c r j d o M;have h4:bu s1 u<=du s.w (aE (am g.E j) c):=by rw[hu];exact h3
    have q:=f.clo c r j d;rw[m]at q;have q:=(an.1 q).resolve_right M;have Q4:aE (am g.E j) c∈s0.w\/aE (am g.E j) c∈D:=by
     rw[h.w,an,ah]at q;rcases q with k|k|k
     .grind
     .omega
     .grind
    rcases Q4 with k|k
    .rw[nm0 _ k]at h4;have:=RN k;omega
    .have:=h.cloD _ k j (zA d)
     grind [lU,aR]
  have y:dO g.E (tP g.E.length (i::T')):={
   ne:=fun e=>by
    have:i∈tP g.E.length (i::T'):=kS.2 ⟨hil,sS⟩
    grind
   rise:=xH _ _
   lt:=fun j d=>(kS.1 d).1
   rel:=fun j d k F=>(J j (kS.1 d).2).symm.trans (J k (kS.1 F).2)
   all:=fun j d k F hr=>by
    have R:=(kS.1 d).2;have hjC:=((W0 j).1 ((ah.1 R).imp_right fun x=>cX _ x)).2;have hkC:(am g.E k).a∈C\/(am g.E k).b∈C:=by
     obtain⟨w,w1,w2,w3⟩:=hr;have hjw:j∈cm g.E w:=aR.2 ⟨hSl j R,w1⟩;have hkw:k∈cm g.E w:=aR.2 ⟨F,w2⟩;by_cases hwC:w∈C
     .rcases w2 with e|e
      .grind
      grind
     have hoC:aE (am g.E j) w∈C:=by
      rcases hjC with x|x
      .rcases(fZ w1 _).1 (.inl rfl)with e|e
       .grind
       grind
      .rcases(fZ w1 _).1 (.inr rfl)with e|e
       .grind
       grind
     have hwv:w=v:=by have:=hlu _ hoC j (zA hjw);rw[lU w1]at this;exact this.resolve_left hwC
     subst hwv;have hq:aE (am g.E k) w∈C:=w3.closed (L:=(·∈C)) hoC fun z hz x hx c7=>by
      obtain⟨l,S,rfl⟩:=GN hx
      grind
     rcases lT (am g.E k) w with e|e
     .grind
     .grind
    refine kS.2 ⟨F,?_⟩;rcases(W0 k).2 ⟨F,hkC⟩with e|e
    .grind
    .rcases an.1 e with e|e
     .grind
     .obtain⟨B,n,hkB⟩:=fh.1 e;have hjB:=(f.good B n).all k hkB j (hSl j R) hr.symm;have hjN:j∈N'.flatten:=fh.2 ⟨B,n,hjB⟩;exfalso;rcases ah.1 R with e|e
      .grind
      .exact(bw.1 f.pn).2.2 j e j hjN rfl }
  have hcut:Gz g.E.length (mV s1 v (min (bu s1 v) (bu s1 u))) i=some { mV s1 v (min (bu s1 v) (bu s1 u))with stk:=s0.stk++T,out:=s0.out++(N++N'++[tP g.E.length (i::T')]) }:=by unfold Gz;have M:(mV s1 v (min (bu s1 v) (bu s1 u))).stk=s1.stk:=rfl;have e2:(mV s1 v (min (bu s1 v) (bu s1 u))).out=s1.out:=rfl;rw[M,e2,hlp,ad (by grind),Y,rf,pf,f.out];show some _=some _;have:(eO s i).out=s0.out++N:=h.out;rw[this];simp only[dz]
  refine⟨_,D++C,T,N++N'++[tP g.E.length (i::T')],hcut,W _ _ _ rfl rfl rfl rfl ?_ h.rel ?_⟩
  .simp only[mg,List.flatten_cons,List.flatten_nil,eP,dz];refine qf _ (qf _ ?_);refine kc.trans ?_;exact(hbp.append_right _)
  .intro B n;rcases an.1 n with n|n
   .rcases an.1 n with n|n
    .exact h.good B n
    .exact f.good B n
   grind
 .rw[ac p];have S:bu s1 u<(s0.w.length:Int)+1:=oO;obtain⟨c,r,j,d,o,V,he⟩:=wit S;have hA:=h.back_act hg h0 (c:=c) (fun k=>hcn c r (h.old_in hg h0 k)) d V;obtain⟨b,X⟩:=h.no_root hg h0 hA;obtain⟨_,b2,_⟩:=h.by_out hg h0 X;have hbi:mM g.E b i:=by
   refine .step .refl (aR.1 b2).1 hil ⟨v,(aR.1 b2).2,t,?_⟩;refine(((f.cn c r).mono fun z hz=>?_).trans (.step (.refl ?_) (lY d) ?_) |>.trans (h.act_to hg h0 X hA)).symm
   .grind
   .grind
   .grind
  refine⟨_,D++C,T++(i::T'),N++N',rfl,W _ _ _ rfl rfl ?_ ?_ ?_ ?_ ?_⟩
  .show s1.stk=_;rw[f.stk];show(s.stk++[i])++T'=_;rw[h.stk];simp
  .show s1.out=_;rw[f.out];show s.out++N'=_;rw[h.out];simp
  .simp only[mg,dz,List.cons_append];refine qf _ ?_;have:(i::(T'++(N.flatten++N'.flatten))).Perm (N.flatten++(i::(T'++N'.flatten))):=by refine List.Perm.trans ?_ lk.symm;refine List.Perm.cons _ ?_;rw[<- dz,<- dz];exact xn _ kc
   omega
  .intro k F;rcases an.1 F with F|F
   .exact h.rel k F
   .refine⟨b,X,hbi.trans ?_⟩;rcases ah.1 F with e|e
    .rw[e];exact .refl
    .obtain⟨b',hb',hr⟩:=f.rel k e;obtain rfl:i=b':=oO;omega
  .intro B n;rcases an.1 n with n|n
   .exact h.good B n
   .exact f.good B n
end
section
variable {g:Gr} (hg:GoodE g)
include hg
theorem MU(n:Nat)(I:∀(A:Int->Prop) (s:Bw) (v C2:Int),yM g A s v C2->v∈g.V->(∀ w∈s.w,w∈g.V)->g.V.length<=n+s.w.length->∃ a C T N,oH g.E n v C2 s=some a/\Ly g s v C2 a C T N/\∀ c∈C,c∈g.V)
 {A:Int->Prop} {b:Bw} {v C2:Int} (j:yM g A b v C2) (P:g.V.length<=n+(b.w.length+1)):
 ∀(R Q:List Nat) (s:Bw) (D:AN) (T:List Nat) (N:List (List Nat)),Q++R=cm g.E v->BLp g b v C2 Q s D T N->(∀ w∈s.w,w∈g.V)->
  ∃ a D T N,ku (gZ (oH g.E n) g.E v C2 ((b.w.length:Int)+1)) R s=some a/\BLp g b v C2 (cm g.E v) a D T N/\∀ w∈a.w,w∈g.V
 |[],Q,s,D,T,N,hQ,h,hv=>⟨s,D,T,N,rfl,by grind,hv⟩
 |i::R,Q,s,D,T,N,hQ,h,hv=>by
  have l:i∈cm g.E v:=by rw[<- hQ];simp
  have S:(cm g.E v).Nodup:=qi _ qy;have m:i∉Q:=fun k=>by grind
  have t:(Q++[i])++R=cm g.E v:=by rw[<- hQ];simp
  have p:∀ d D T N,gZ (oH g.E n) g.E v C2 ((b.w.length:Int)+1) s i=some d->BLp g b v C2 (Q++[i]) d D T N->(∀ w∈d.w,w∈g.V)->∃ a D T N,ku (gZ (oH g.E n) g.E v C2 ((b.w.length:Int)+1)) (i::R) s=some a/\BLp g b v C2 (cm g.E v) a D T N/\∀ w∈a.w,w∈g.V:=fun d D T N e r z=>by
   obtain⟨a,U,Z,X,k1,k2,k3⟩:=MU n I j P R (Q++[i]) d D T N t r z
   grind [ku]
  by_cases x:(i:Int)=C2
  .exact p s D T N (by grind [gZ]) (h.same hg j l x) hv
  by_cases q:aE (am g.E i) v∈s.w
  .by_cases o:du s.w (aE (am g.E i) v)<(b.w.length:Int)+1
   .exact p _ D _ N (by grind [gZ]) (h.back hg j l m x q o) hv
   .exact p s D T N (by grind [gZ]) (h.skip hg j l q o) hv
  .have B:s.w.length=b.w.length+1+D.length:=by rw[h.w,cf,List.length_cons];omega
   have y:aE (am g.E i) v∈g.V:=hg.nbr (lY l);obtain⟨a,C,Y,W,e,F,O⟩:=I _ (eO s i) _ i (h.pre hg j l q) y hv (by show g.V.length<=n+s.w.length;omega);obtain⟨d,J,L,K,f,r⟩:=h.child hg j l m x q F;refine p d J L K (by grind [gZ]) r fun w H=>?_;have M:d.w=a.w:=by
    unfold OV at f
    split at f
    .unfold Gz at f
     split at f
     .cases f;rfl
     grind
    .cases f;rfl
   rw[M,F.w,an]at H;exact H.elim (hv w) (O w)
theorem Ev:∀(n:Nat) (A:Int->Prop) (s:Bw) (v C2:Int),yM g A s v C2->v∈g.V->(∀ w∈s.w,w∈g.V)->g.V.length<=n+s.w.length->∃ d C T N,oH g.E n v C2 s=some d/\Ly g s v C2 d C T N/\∀ c∈C,c∈g.V
 |0,A,s,v,C2,h,hv,hs,hn=>by
  have k:(s.w++[v]).length<=g.V.length:=fg (by
   rw[bw]
   exact⟨h.nd,sS,fun a o b l=>by rintro rfl;rw[bf]at l;subst l;exact h.new o⟩) fun w j=>by
    grind
  grind
 |n+1,A,s,v,C2,h,hv,hs,hn=>by
  obtain⟨d,D,T,N,e,k,f⟩:=MU hg n (Ev n) h oO (cm g.E v) [] (pI s v) [] [] [] rfl h.start fun w j=>by
   have j:w∈s.w++[v]:=j
   grind
  have m:=k.done hg h;exact⟨d,_,T,N,e,m,fun c p=>f c (by rw[m.w];grind)⟩
structure Jp(g:Gr)(s:Bw):Prop where
 ln:s.low.length=s.w.length
 nd:s.w.Nodup
 sub:∀ w∈s.w,w∈g.V
 fin:∀ w∈s.w,∀ i∈cm g.E w,aE (am g.E i) w∈s.w
 stk:s.stk=[]
 pl:∀ i,i∈s.out.flatten↔i<g.E.length/\(am g.E i).a∈s.w
 pn:s.out.flatten.Nodup
 good:∀ B∈s.out,dO g.E B
theorem EX(n:Nat)(A:g.V.length<=n):∀(l:AN) (s:Bw),(∀ v∈l,v∈g.V)->Jp g s->∃ m,tD g.E n l s=some m/\Jp g m/\(∀ v∈s.w,v∈m.w)/\∀ v∈l,v∈m.w
 |[],s,_,h=>⟨s,rfl,h,fun _ h=>h,fun v D=>by grind⟩
 |v::l,s,hl,h=>by
  by_cases D:v∈s.w
  .obtain⟨m,e,o,j,J⟩:=EX n A l s (fun w f=>hl w (ar _ f)) h
   grind [tD]
  .have t:yM g (fun _=>False) s v (-1):=⟨h.ln,h.nd,fun a p=>p.elim,fun w f _=>h.fin w f,D,fun a b p=>p.elim,.inl ⟨rfl,fun a p=>p⟩⟩;obtain⟨m,C,T,N,e,d,F⟩:=Ev hg n _ s v (-1) t (hl v sS) h.sub oO;have H:T=[]:=by
    cases T with
    |nil=>rfl
    |cons i T=>obtain⟨b,I,_⟩:=d.rel i sS;omega
   subst H;have K:∀ w∈m.w,∀ i∈cm g.E w,aE (am g.E i) w∈m.w:=fun w f i z=>by
    have x:=f;rw[d.w,an]at x;rcases x with k|k
    .rw[d.w];exact cX _ (h.fin w k i z)
    .exact d.clo w k i z
   have r:Jp g m:={
    ln:=d.ln
    nd:=d.nd
    sub:=fun w f=>by rw[d.w,an]at f;exact f.elim (h.sub w) (F w)
    fin:=K
    stk:=by rw[d.stk,h.stk];rfl
    pl:=fun i=>by
     have q:=d.pl i;rw[List.nil_append]at q;rw[d.out,mg,an,h.pl i,q,d.w,an];constructor
     .rintro(⟨o,j⟩|⟨o,_,j⟩)
      .grind
      .refine⟨o,?_⟩;rcases j with j|j
       .grind
       .have:=d.clo _ j i (aR.2 ⟨o,.inr rfl⟩);rw[d.w,an]at this
        grind [aE]
     grind
    pn:=by
     have q:=d.pn;rw[List.nil_append]at q;rw[d.out,mg,bw];refine⟨h.pn,q,fun a p b I=>?_⟩;rintro rfl;have o:=(h.pl a).1 p;have j:=(d.pl a).1 (by grind);have P:∀ c∈C,c∉s.w:=fun c O k=>by
      have:=d.nd;rw[d.w,bw]at this
      grind
     rcases j.2.2 with k|k
     .grind
     .have:=h.fin _ o.2 a (aR.2 ⟨o.1,.inl rfl⟩)
      grind [aE]
    good:=fun B y=>by
     rw[d.out,an]at y
     exact y.elim (h.good B) (d.good B) }
   obtain⟨L,M,o,j,J⟩:=EX n A l m (fun w f=>hl w (ar _ f)) r;refine⟨L,by grind [tD],o,fun w f=>j w (by rw[d.w];grind),fun w f=>?_⟩;rcases ah.1 f with rfl|f
   .exact j _ (by rw[d.w];exact dv _ d.hd)
   grind
theorem rT:∃ s,tD g.E g.V.length g.V ⟨[],[],[],[]⟩=some s/\s.stk=[]/\(∀ i,i∈s.out.flatten↔i<g.E.length)/\s.out.flatten.Nodup/\∀ B∈s.out,dO g.E B:=by obtain⟨s,e,h,_,a⟩:=EX hg g.V.length (au _) g.V ⟨[],[],[],[]⟩ (fun _ h=>h) ⟨rfl,.nil,fun w c=>(by grind),fun w c=>(by grind),rfl,fun i=>by simp,sS,fun B d=>(by grind)⟩;refine⟨s,e,h.stk,fun i=>?_,h.pn,h.good⟩;rw[h.pl i];exact and_iff_left_of_imp fun b=>a _ (hg.ends _ (sD b)).1
end
def ju(a:List Ed)(B:List Nat):List Ed:=B.map (am a)
def OC{a:List Ed}{w p z:Int}(g:z≠p){y:Int}(h:RIn a (·≠w) p y):RIn a (fun t=>t≠w/\t≠z) p y\/∃ c,z∈nbr a c/\RIn a (fun t=>t≠w/\t≠z) p c:=by
 induction h with
 |refl h=>exact .inl (.refl ⟨h,fun e=>g e.symm⟩)
 |@step y u h d f b=>
  rcases b with b|b
  .by_cases e:u=z
   .grind
   .exact .inl (.step b d ⟨f,e⟩)
  grind
def OA{b:List Ed}{w p q:Int}{S:Int->Prop}(m:S p)(h:RIn b (·≠w) p q):S q\/∃ z a,S z/\a∈nbr b z/\RIn b (fun t=>t≠w/\¬S t) a q:=by
 induction h with
 |refl h=>grind
 |@step y u h c d f=>
  by_cases e:S u
  .grind
  by_cases l:S y
  .exact .inr ⟨y,u,l,c,.refl ⟨d,e⟩⟩
  rcases f with f|⟨z,a,g,j,k⟩
  .grind
  .exact .inr ⟨z,a,g,j,.step k c ⟨d,e⟩⟩
theorem MX{c:List Ed}{B:List Nat}{y z:Int}(h:z∈nbr (ju c B) y):∃ i∈B,((am c i).a=y\/(am c i).b=y)/\aE (am c i) y=z:=by
 rw[cN]at h;obtain⟨x,d,h⟩:=h;obtain⟨i,e,rfl⟩:=aq.1 d
 grind [aE]
theorem LB{c:List Ed}{B:List Nat}{i:Nat}(d:i∈B){y:Int}(h:(am c i).a=y\/(am c i).b=y):aE (am c i) y∈nbr (ju c B) y:=by
 rw[cN];refine⟨_,de d,?_⟩
 grind [aE]
def RIn.up{a:List Ed}{B:List Nat}(d:∀ i∈B,i<a.length){S:Int->Prop}{x y:Int}(h:RIn (ju a B) S x y):RIn a S x y:=by
 induction h with
 |refl h=>exact .refl h
 |step h e b c=>
  refine .step c ?_ b
  grind [MX,lY,aR]
section
variable {g:Gr} (hg:GoodE g)
include hg
theorem dO.ring_in{B:List Nat}(h:dO g.E B){i j:Nat}(p:i∈B)(r:j<g.E.length){w:Int}(L:Qz g.E w (am g.E i) (am g.E j)):RIn (ju g.E B) (·≠w) (aE (am g.E i) w) (aE (am g.E j) w):=by
 obtain⟨n,q,C⟩:=L;have H:j∈B:=h.all i p j r ⟨w,n,q,C⟩;have v:aE (am g.E i) w≠w:=tM hg (aR.2 ⟨h.lt i p,n⟩);have K:aE (am g.E j) w≠w:=tM hg (aR.2 ⟨r,q⟩);rcases OA (S:=fun t=>RIn (ju g.E B) (·≠w) (aE (am g.E i) w) t) (.refl v) C with k|⟨z,F,y,M,A⟩
 .exact k
 exfalso;have f:z≠w:=y.here.2;obtain⟨l,I,D⟩:=GN M;have c:=aR.1 I;have back:RIn g.E (·≠z) F w:=by have a:=A.mono (S':=(·≠z)) fun t x e=>x.2 (by grind);refine .step a (lA (lY (aR.2 ⟨r,q⟩))) fun e=>f e.symm
 have Q:l∈B:=by
  by_cases m:z=aE (am g.E i) w
  .refine h.all i p l c.1 ⟨z,by grind [lT],c.2,?_⟩;rw[D,m,lU n,<- m];exact back.symm
  .rcases OC m y with k|⟨P,N,O⟩
   .exact absurd rfl k.here.2.2
   .obtain⟨o,J,s,d⟩:=MX N;refine h.all o J l c.1 ⟨z,by grind [lT],c.2,?_⟩;rw[D,<- d,lU s,d];have a:RIn g.E (·≠z) (aE (am g.E i) w) P:=(O.mono (S':=(·≠z)) fun t x=>x.2).up h.lt;have b:RIn g.E (·≠z) w (aE (am g.E i) w):=.step (.refl fun e=>f e.symm) (lY (aR.2 ⟨h.lt i p,n⟩)) fun e=>m e.symm;exact((back.trans b).trans a).symm
 have:RIn (ju g.E B) (·≠w) (aE (am g.E i) w) F:=.step y (by grind [LB]) A.here.1.1;exact A.here.1.2 this
theorem dO.con{B:List Nat}(h:dO g.E B)(v:Int){i j:Nat}(F:i∈B)(y:mM g.E i j):∀ p q,((am g.E i).a=p\/(am g.E i).b=p)->((am g.E j).a=q\/(am g.E j).b=q)->p≠v->q≠v->RIn (ju g.E B) (·≠v) p q:=by
 have one:∀ k∈B,∀ p q,((am g.E k).a=p\/(am g.E k).b=p)->((am g.E k).a=q\/(am g.E k).b=q)->p≠v->q≠v->RIn (ju g.E B) (·≠v) p q:=fun k r p q m n c l=>by
  rcases(fZ m q).1 n with e|e
  .rw[e];exact .refl c
  .exact .step (.refl c) (by grind [LB]) l
 induction y with
 |refl=>grind
 |@step j k y o r f D=>
  intro p q c l d t;have C:j∈B:=(h.iff F).2 y;have s:k∈B:=h.all j C k r f;obtain⟨w,z,A,H⟩:=f;by_cases e:v=w
  .subst e;have m:=D p (aE (am g.E j) v) c (lT _ _) d (tM hg (aR.2 ⟨o,z⟩));have n:=h.ring_in hg C r ⟨z,A,H⟩;rcases(fZ A q).1 l with e|e
   .omega
   .rw[e];exact m.trans n
  .exact(D p w c z d fun x=>e x.symm).trans (one k s w q A l (fun x=>e x.symm) t)
omit hg in
theorem dO.eq{B c:List Nat}(h:dO g.E B)(d:dO g.E c){j:Nat}(m:j∈B)(e:j∈c):B=c:=by
 have n:B.Nodup:=h.rise.imp fun k=>kg k;have f:c.Nodup:=d.rise.imp fun k=>kg k;have o:B.Perm c:=(jn n f).2 fun k=>by rw[h.iff m,d.iff e]
 exact o.eq_of_pairwise (fun a b _ _ l p=>absurd l oO) h.rise d.rise
end
noncomputable def iK(a:List Ed)(i:Nat):List Nat:=(List.range a.length).filter fun j=>@decide (mM a i j) (Classical.propDecidable _)
def Gl{a:List Ed}{i j:Nat}:j∈iK a i↔j<a.length/\mM a i j:=by
 grind [iK]
def DZ(a:List Ed)(i:Nat):(iK a i).Pairwise (· < ·):=qi _ nv
noncomputable def gA(a:List Ed):List (List Nat):=((List.range a.length).filter fun i=>decide ((iK a i).headD 0=i)).map (iK a)
def head_mem{l:List Nat}(h:l≠[]):l.headD 0∈l:=by
 cases l with
 |nil=>grind
 |cons a l=>simp
def dO.cls{c:List Ed}{B:List Nat}(h:dO c B){i:Nat}(f:i∈B):B=iK c i:=by
 have g:B.Nodup:=h.rise.imp fun k=>kg k;have d:(iK c i).Nodup:=(DZ c i).imp fun k=>kg k;have j:B.Perm (iK c i):=(jn g d).2 fun k=>by rw[Gl,<- h.iff f];exact⟨fun q=>⟨h.lt k q,q⟩,fun q=>q.2⟩
 exact j.eq_of_pairwise (fun a b _ _ e l=>absurd e oO) h.rise (DZ c i)
theorem CL{c:List Ed}{d B:List (List Nat)}(g:∀ i,i∈d.flatten↔i<c.length)(m:∀ B∈d,dO c B)(z:B.Perm d)(t:B.Pairwise fun x y=>x.headD 0<y.headD 0):B=gA c:=by
 have v:∀ b,b∈B↔b∈gA c:=fun b=>by
  unfold gA;rw[z.mem_iff,aq];constructor
  .intro f;have j:=m b f;have q:=head_mem j.ne;have p:=j.cls q;refine⟨b.headD 0,?_,p.symm⟩;rw[cx,fC,gg,<- p];exact⟨j.lt _ q,rfl⟩
  .rintro⟨i,r,rfl⟩;rw[cx,fC,gg]at r;obtain⟨b,f,h⟩:=fh.1 ((g i).2 r.1);rw[<- (m b f).cls h];omega
 have s:(gA c).Pairwise fun x y=>x.headD 0<y.headD 0:=by unfold gA;rw[fa];refine(qi (fun i=>decide ((iK c i).headD 0=i)) (nv (n:=c.length))).imp_of_mem ?_;intro a b o f A;rw[cx,gg]at o f;rw[o.2,f.2];exact A
 have l:B.Perm (gA c):=(jn (t.imp fun k e=>by grind) (s.imp fun k e=>by grind)).2 v;exact l.eq_of_pairwise (fun a b _ _ w C=>absurd w oO) t s
end Aw
namespace Aw
open Go Go.RowKit Pl Go.Sort
def nL(x y:Int):Int:=if x<y then -1 else if y<x then 1 else 0
def Io(x y:Int):nL x y<0↔x<y:=by grind [nL]
theorem SU{d o:Type}{k:Nat}(f:d->List o):∀(l:List d) (t:Nat),(∀ x∈l,(f x).length=k)->t<l.length*k->∃ x,l[t / k]?=some x/\(l.flatMap f)[t]?=(f x)[t % k]?
 |[],t,_,h=>by simp at h
 |a::l,t,hk,h=>by
  have e:=hk a aw;rw[ec];by_cases c:t<k
  .exact⟨a,by rw[uq c];rfl,by rw[ej c,jv oO]⟩
  .have n:0<k:=by
    rcases ql k with b|b
    .subst b;simp at h
    .exact b
   rw[List.length_cons,uz]at h;obtain⟨x,g,j⟩:=SU f l (t-k) (fun x m=>hk x (ar _ m)) oO;refine⟨x,?_,?_⟩
   .rw[Nat.div_eq_sub_div n oO,List.getElem?_cons_succ,g]
   .rw[mw oO,e,j,<- Nat.mod_eq_sub_mod oO]
theorem FT{b g:Type}{k:Nat}(f:b->List g):∀(l:List b),(∀ x∈l,(f x).length=k)->(l.flatMap f).length=l.length*k
 |[],_=>by simp
 |a::l,h=>by have c:=h a aw;have d:=FT f l fun x e=>h x (ar _ e);rw[ec,cf,c,d,List.length_cons,uz,Nat.add_comm]
def xE{f:Type}[Inhabited f]{k:Nat}(a:f->List Value)(e:∀ x,(a x).length=k)(d:Array f):(flatK a k d).toList=d.toList.flatMap a:=by
 have m:=FT a d.toList fun x _=>e x;refine og fun t=>?_;by_cases b:t<d.size*k
 .obtain⟨x,g,j⟩:=SU a d.toList t (fun x _=>e x) (by simpa using b);have n:0<k:=by
   rcases ql k with c|c
   .subst c;simp at b
   .exact c
  have h:=get_flatK a k d t b;rw[j];have l:(d[t / k]!)=x:=by rw[ny]at g;rw[getElem!_def,g]
  rw[l,mm _ t (by simpa using b),mm _ _ (by rw[e];exact kz _ n)]at h;rw[ny,mA (by simpa using b),h,cg]
 .rw[nw (by simp;omega),nw (by rw[m];simpa using b)]
def Il{b:Type}[Inhabited b](a:b->Value)(d:Array b):flatK (fun x=>[a x]) 1 d=d.map a:=by refine Array.toList_inj.1 ?_;rw[xE (k:=1) _ (fun _=>rfl),Array.toList_map];induction d.toList<;>simp_all
def VU{e:Type}[Inhabited e](a:e->Value)(b:Nat)(d:Array e)(w:World):putRow a w b 0 d=putRowK (fun x=>[a x]) 1 w b 0 d:=by
 unfold putRowK;rw[Il];unfold putRow
 congr 1
 funext c
 unfold putCells;refine Array.ext sS fun i g j=>?_;simp only[Array.getElem_mapIdx,Array.size_map]
 split
 .rename_i h;have f:i-0<d.size:=oO;rw[mm d (i-0) f,mm (d.map a) (i-0) (by simpa using f)];simp
 .rfl
def Oo{e:Type}[Inhabited e]{a:e->Value}{w:World}{b:Nat}{d:Array e}(h:HoldsK (fun x=>[a x]) 1 w b 0 d):Holds a w b 0 d:=fun j c=>by have f:=h j (by simpa using c);rw[Il,mm (d.map a) j (by simpa using c)]at f;rw[mm d j c];simpa using f
def TW{w:World}{g:G}{j:St}(h:Inv w g j){q e s:Nat}{f cs':List LV}(l:j.H q=.box e s f)(p:g.nl q=false){F:Array Value}(I:F.size=f.length)(J:cs'.length=f.length)(A:aC w g cs' F.toList)(m:Nat)(d:Array Obj):
 Inv (grow (putRow id (Sort.ahead w m) (g.β q) 0 F) d) g (j.set q (.box e s cs'))/\Ext w g (grow (putRow id (Sort.ahead w m) (g.β q) 0 F) d) g:=by
 obtain⟨_,_,D⟩:=h.box q e s f l;obtain⟨c,o,E,K,L,M⟩:=D p
 obtain⟨B,C⟩:=yI (cs':=cs') (vs':=(putCells id 0 F c.toArray).toList) h l p (by simp[putCells,E]) (by simp[putCells];omega) (by
  have:(putCells id 0 F c.toArray).toList.take cs'.length=F.toList:=by
   refine og fun t=>?_;rw[mi];by_cases n:t<cs'.length
   .have x:t<c.length:=oO;have y:t<F.size:=oO;simp[putCells,n,x,y]
   .rw[ac n,nw (by simp;omega)]
  rw[this];exact A)
 have k:Below (w.setRow (g.β q) (putCells id 0 F c.toArray).toList.toArray).heap.size (w.setRow (g.β q) (putCells id 0 F c.toArray).toList.toArray) (grow (putRow id (Sort.ahead w m) (g.β q) 0 F) d):=by
  refine⟨rfl,rfl,rfl,by simp[Sort.ahead],fun b z=>?_⟩;have r:b<w.heap.size:=by simpa using z
  have v:(grow (putRow id (Sort.ahead w m) (g.β q) 0 F) d).heap[b]?=(putRow id (Sort.ahead w m) (g.β q) 0 F).heap[b]?:=by show((putRow id (Sort.ahead w m) (g.β q) 0 F).heap++d)[b]?=_;rw[xq (by simpa[Sort.ahead]using r)]
  rw[v];by_cases a:b=g.β q
  .subst a;rw[setRow_heap _ _ _ _ _ _ o];show((w.heap.modify (g.β q) (onCells (putCells id 0 F)))[g.β q]?)=_;rw[yh,ad rfl,o];simp[onCells]
  .rw[setRow_other _ _ _ _ a];show((w.heap.modify (g.β q) (onCells (putCells id 0 F)))[b]?)=_;rw[yh,ac (fun h=>a h.symm)]
 exact⟨wW B k,C.trans (sC g k)⟩
abbrev El(w:World)(g:G)(b:Int->List LV)(a:Int->Prop):Type:={ p:Int×List Value // a p.1/\aC w g (b p.1) p.2 }
theorem Se{w:World}{g:G}{a:Int->List LV}{d:Int->Prop}:∀(l:AN) (b:List Value),(∀ x∈l,d x)->aC w g (l.flatMap a) b->∃ c:List (El w g a d),c.map (·.1.1)=l/\c.flatMap (·.1.2)=b
 |[],b,_,h=>⟨[],rfl,by simp only[qx,aC]at h;simp[h]⟩
 |x::l,b,hD,h=>by rw[ec]at h;have e:=fP (a x).length _ _ h;have f:=iV (a x).length _ _ h;rw[rf]at e;rw[pf]at f;obtain⟨c,j,k⟩:=Se l _ (fun y m=>hD y (ar _ m)) f;refine⟨⟨(x,b.take (a x).length),hD x aw,e⟩::c,by rw[ax,j],?_⟩;rw[ec,k];exact gd _ _
theorem LZ{w:World}{g:G}{b:Int->List LV}{c:Int->Prop}:∀ a:List (El w g b c),aC w g ((a.map (·.1.1)).flatMap b) (a.flatMap (·.1.2))
 |[]=>by simp[aC]
 |p::a=>by rw[ax,ec,ec];exact cI _ _ _ _ p.2.2 (LZ a)
def Lp{a:Type}(f:a->Int):SWO (ltOf fun x y=>nL (f x) (f y)):=by refine⟨fun x=>?_,fun x y z=>?_,fun x y z=>?_⟩<;>simp only[ltOf,ke,ox,Io]<;>omega
def yE{P:Program}{f Y:FuncId}{e k:Nat}(hf:Enters P f){a:Int->List LV}(U:∀ x,(a x).length=k)(k0:0<k){o:Int->Prop}
 (hN:∀(p:Option Addr) (m:Nat) (w:World),Calls P f #[.slice p 0 m,.func (.func Y) #[] #[]] w fun e C=>e=.returned (.tuple #[])/\C=w)
 (hS:∀(w:World) (g:G) (b m:Nat) [Inhabited (El w g a o)] (d:Array (El w g a o)),iA w g->g.φ b=some 0->b<w.heap.size->d.size<65536->HoldsK (fun x:El w g a o=>x.1.2) k w b 0 d->
   Calls P f #[.slice (some ⟨b,0,none⟩) d.size m,.func (.func Y) #[] #[]] w fun e C=>e=.returned (.tuple #[])/\∃ s n X,PermIn 0 d.size d s/\SortedIn (ltOf fun x y=>nL x.1.1 y.1.1) 0 d.size s/\C=sortWorldK (fun x:El w g a o=>x.1.2) k w b 0 n s X)
 (l:AN) (hD:∀ x∈l,o x) (q:Nat) (B:St) (hl:l.length<65536) (hq:q<B.z) (O:B.H q=.box e k (l.flatMap a)):
 aB P f [.ms q 0 l.length,.fn (.func Y) []] B fun r L=>∃ c:AN,L.H q=.box e k (c.flatMap a)/\c.Perm l/\c.Pairwise (·<=·)/\bR q B L:=by
 refine⟨hf,fun w g vs M hr=>?_⟩;simp only[aC]at hr;obtain⟨v1,_,rfl,h1,v2,_,rfl,h2,rfl⟩:=hr;simp only[Rep]at h1 h2;obtain⟨A,m,rfl,h3,h4,h5,h6,h7⟩:=h1;obtain⟨ws,rfl,h8⟩:=h2;simp only[aC]at h8;subst h8;by_cases hn:l.length=0
 .have V:l=[]:=oy.1 hn;subst V;refine(hN A m w).mono ?_;rintro e C ⟨rfl,rfl⟩;exact⟨_,.tu [],B,g,rfl,⟨[],O,vm _,List.Pairwise.nil,bR.refl q B⟩,by simp[Rep,aC],M,Ext.refl C g⟩
 have hA:=h6 hn;subst hA;obtain⟨b1,b2,b3⟩:=M.box q e k _ O;have D:=FT a l fun x _=>U x;have v8:g.nl q=false:=by refine Bool.eq_false_iff.2 fun h=>?_;have:=(b2 h).2;rw[this]at D;have:0<l.length*k:=vo oO k0;simp at D;omega
 obtain⟨o8,N,c2,c3,c4,c5⟩:=b3 v8;obtain⟨v,p1,p2⟩:=Se l _ hD c4;have E:v.length=l.length:=by rw[<- p1,dh]
 haveI:Inhabited (El w g a o):=⟨v[0]'(by omega)⟩
 have t:∀ x:El w g a o,x.1.2.length=k:=fun x=>by rw[<- aM _ _ x.2.2,U]
 have X7:=xE (fun x:El w g a o=>x.1.2) t v.toArray;have Q:HoldsK (fun x:El w g a o=>x.1.2) k w (g.β q) 0 v.toArray:=by
  intro j S;have T:j<l.length*k:=by simpa[E]using S
  have h9:(flatK (fun x:El w g a o=>x.1.2) k v.toArray)[j]?=o8[j]?:=by rw[<- ny,X7];show(v.flatMap fun x=>x.1.2)[j]?=_;rw[p2,mi,ad (by rw[D];exact T)]
  rw[mm _ j S];rw[mA S]at h9;rw[jd];constructor
  .rw[cell_of_row _ _ _ _ _ _ N,od,<- h9];rfl
  .unfold World.frozen?;rw[N];simp
 have hb:=(fu.1 N).1;have hC:=hS w g (g.β q) m v.toArray M.aside.glob c5 hb (dg E hl) Q;rw[ik,E]at hC;refine hC.mono ?_;rintro e' C ⟨rfl,s,n,X,hp,hs,rfl⟩;have Z:s.size=l.length:=by rw[hp.1,ik,E]
 have O8:s.toList.Perm v:=by have h:=hp.2.2;rw[xp oO,xp (aa E)]at h;exact h
 have J:=xE (fun x:El w g a o=>x.1.2) t s;have I:=FT a (s.toList.map (·.1.1)) fun x _=>U x;have W:(s.toList.map (·.1.1)).length=l.length:=by simp[Z]
 obtain⟨i1,i2⟩:=TW M O v8 (F:=flatK (fun x:El w g a o=>x.1.2) k s) (cs':=(s.toList.map (·.1.1)).flatMap a) (by rw[size_flatK,Z,D]) (by rw[I,W,D]) (by rw[J];exact LZ _) n X;refine⟨_,.tu [],_,g,rfl,⟨s.toList.map (·.1.1),by simp[St.set],?_,?_,(bR.refl q B).set _⟩,by simp[Rep,aC],i1,i2⟩
 .have:=O8.map (·.1.1)
  rwa [p1]at this
 .rw[fa,fq];intro i j K7 K R;have:=hs i j (je _) R (by simp at K;omega);rw[ltOf,ox,Io,mm _ j (by simpa using K),mm _ i (by simpa using K7)]at this;simp only[Array.getElem_toList];omega
end Aw
namespace Aw
open Go Go.RowKit Pl Go.Sort Go.Shelf Go.Lib
def MK(x:Int)(W:World):Calls prog 118 #[.int .u32 x] W fun e w'=>e=.returned (.bool false)/\w'=W:=by
 go_enter func118,ntmps118
 go_wp2
 go_ret
 simp
set_option maxRecDepth 100000 in
def Cx(x y:Int)(W:World):Calls prog 77 #[.int .u32 x,.int .u32 y] W fun e w'=>e=.returned (.int .i64 (nL x y))/\w'=W:=by
 have h1:=fun W=>MK x W;have h2:=fun W=>MK y W
 go_enter func77,ntmps77
 go_wp2_with (go_at_call 118;first|(refine(h1 _).mono ?_;rintro e w' ⟨rfl,rfl⟩)|(refine(h2 _).mono ?_;rintro e w' ⟨rfl,rfl⟩))
 all_goals go_ret
 all_goals clear h1 h2
 all_goals exact⟨congrArg (fun z=>Ending.returned (.int .i64 z)) (by unfold nL;grind),rfl⟩
def ZL(a b:Ed)(W:World):Calls prog 170 #[.agg #[.int .u32 a.id,.int .u32 a.a,.int .u32 a.b],.agg #[.int .u32 b.id,.int .u32 b.a,.int .u32 b.b]] W fun e w'=>e=.returned (.int .i64 (nL a.id b.id))/\∃ q os',w'=grow (W.drewN q) os':=by
 have W2:=fun W'=>Cx a.id b.id W';generalize nL a.id b.id=r at W2 ⊢
 go_enter func170,ntmps170
 go_wp2_with (go_at_call 77;refine(W2 _).mono ?_;rintro e w' ⟨rfl,rfl⟩)
 go_ret
 exact⟨rfl,0,_,by rw[alloc_eq_grow,alloc_eq_grow,grow_grow];rfl⟩
def RO{W:World}{b1 o1 n1 c1 b2 o2 n2 c2:Nat}{x y:Int}(h1:W.cell? ⟨b1,o1,none⟩=some (.int .u32 x))(h2:W.cell? ⟨b2,o2,none⟩=some (.int .u32 y))(k1:0<n1)(k2:0<n2):
 Calls prog 99 #[.slice (some ⟨b1,o1,none⟩) n1 c1,.slice (some ⟨b2,o2,none⟩) n2 c2] W fun e w'=>e=.returned (.int .i64 (nL x y))/\∃ q os',w'=grow (W.drewN q) os':=by
 have W2:=fun W'=>Cx x y W';generalize nL x y=r at W2 ⊢;have mixed:prog.follows .mixedOrders=true:=by kernel_rfl
 go_enter func99,ntmps99
 go_wp2
 go_quiet ((go_at_call 77;refine(W2 _).mono ?_;rintro e w' ⟨rfl,rfl⟩;exact⟨rfl,_,rfl⟩))
 go_wp2
 go_ret
 exact⟨rfl,_,#[],by rw[grow_empty]⟩
def eQ{P:Program}{f:FuncId}{F B:Func}(h:P.funcs[f]?=some F)(hn:(F.name== "runtime.NumGoroutine")=false:=by decide)(e:F={ B with name:=F.name }:=by kernel_rfl):Bears P f B:=⟨F.name,hn,h.trans (congrArg some e)⟩
def me{P:Program}{f:FuncId}{F B:Func}(h:P.funcs[f]?=some F)(e:F=B:=by kernel_rfl):P.funcs[f]?=some B:=h.trans (congrArg some e)
def NV:Ren:=⟨fun|6=>169|15=>85|14=>199|28=>129|29=>130|20=>161|21=>211|22=>212|23=>213|24=>214|25=>215|26=>216|27=>217|46=>221|47=>164|48=>165|49=>222|50=>223|57=>224|n=>n,fun|22=>23|24=>36|25=>104|3=>3|39=>109|0=>0|53=>34|55=>133|4=>4|46=>155|45=>154|50=>121|5=>5|9=>9|66=>184|70=>188|76=>203|77=>204|n=>n,fun|n=>n⟩
def Sv:SlLaysF0.n6 prog NV:=
 {mixed:=by kernel_rfl,
  f6:=eQ func169,
  f14:=eQ func199,
  f15:=me func85,
  f20:=eQ func161,
  f21:=eQ func211,
  f22:=eQ func212,
  f23:=eQ func213,
  f24:=eQ func214,
  f25:=eQ func215,
  f26:=eQ func216,
  f27:=eQ func217,
  f28:=me func129,
  f29:=me func130,
  f46:=eQ func221,
  f47:=me func164,
  f48:=me func165,
  f49:=eQ func222,
  f50:=eQ func223,
  f57:=eQ func224,
  t0:=underlying0,
  a0:=isAgg0,
  z0:=Tryz.sizeOf0,
  v0:=Tryz.zeroValue0,
  t3:=underlying3,
  a3:=isAgg3,
  z3:=Tryz.sizeOf3,
  v3:=Tryz.zeroValue3,
  t4:=underlying4,
  a4:=isAgg4,
  z4:=Tryz.sizeOf4,
  v4:=Tryz.zeroValue4,
  t5:=underlying5,
  a5:=isAgg5,
  z5:=Tryz.sizeOf5,
  v5:=Tryz.zeroValue5,
  t9:=underlying9,
  a9:=isAgg9,
  z9:=Tryz.sizeOf9,
  v9:=Tryz.zeroValue9,
  t22:=underlying23,
  a22:=isAgg23,
  z22:=Tryz.sizeOf23,
  v22:=Tryz.zeroValue23,
  t25:=underlying104,
  a25:=isAgg104,
  z25:=Tryz.sizeOf104,
  v25:=Tryz.zeroValue104,
  t39:=underlying109,
  a39:=isAgg109,
  z39:=Tryz.sizeOf109,
  v39:=Tryz.zeroValue109,
  t45:=underlying154,
  a45:=isAgg154,
  z45:=Tryz.sizeOf154,
  v45:=Tryz.zeroValue154,
  t46:=underlying155,
  a46:=isAgg155,
  z46:=Tryz.sizeOf155,
  v46:=Tryz.zeroValue155,
  t50:=underlying121,
  a50:=isAgg121,
  z50:=Tryz.sizeOf121,
  v50:=Tryz.zeroValue121,
  t53:=underlying34,
  a53:=isAgg34,
  z53:=Tryz.sizeOf34,
  v53:=Tryz.zeroValue34,
  t55:=underlying133,
  a55:=isAgg133,
  z55:=Tryz.sizeOf133,
  v55:=Tryz.zeroValue133,
  t66:=underlying184,
  a66:=isAgg184,
  z66:=Tryz.sizeOf184,
  v66:=Tryz.zeroValue184,
  t70:=underlying188,
  a70:=isAgg188,
  z70:=Tryz.sizeOf188,
  v70:=Tryz.zeroValue188,
  t76:=underlying203,
  a76:=isAgg203,
  z76:=Tryz.sizeOf203,
  v76:=Tryz.zeroValue203,
  t77:=underlying204,
  a77:=isAgg204,
  z77:=Tryz.sizeOf204,
  v77:=Tryz.zeroValue204 }
def Di:Ren:=⟨fun|6=>98|15=>85|14=>136|28=>129|29=>130|20=>171|21=>172|22=>173|23=>174|24=>175|25=>176|26=>177|27=>178|46=>200|47=>164|48=>165|49=>201|50=>202|57=>218|n=>n,fun|22=>83|24=>23|25=>129|3=>3|39=>109|0=>0|53=>34|55=>133|4=>4|46=>155|45=>154|50=>121|5=>5|9=>9|66=>184|70=>188|76=>203|77=>204|n=>n,fun|n=>n⟩
def Sf:SlLaysF.n6 prog Di:=
 {mixed:=by kernel_rfl,
  f6:=eQ func98,
  f14:=eQ func136,
  f15:=me func85,
  f20:=eQ func171,
  f21:=eQ func172,
  f22:=eQ func173,
  f23:=eQ func174,
  f24:=eQ func175,
  f25:=eQ func176,
  f26:=eQ func177,
  f27:=eQ func178,
  f28:=me func129,
  f29:=me func130,
  f46:=eQ func200,
  f47:=me func164,
  f48:=me func165,
  f49:=eQ func201,
  f50:=eQ func202,
  f57:=eQ func218,
  t0:=underlying0,
  a0:=isAgg0,
  z0:=Tryz.sizeOf0,
  v0:=Tryz.zeroValue0,
  t3:=underlying3,
  a3:=isAgg3,
  z3:=Tryz.sizeOf3,
  v3:=Tryz.zeroValue3,
  t4:=underlying4,
  a4:=isAgg4,
  z4:=Tryz.sizeOf4,
  v4:=Tryz.zeroValue4,
  t5:=underlying5,
  a5:=isAgg5,
  z5:=Tryz.sizeOf5,
  v5:=Tryz.zeroValue5,
  t9:=underlying9,
  a9:=isAgg9,
  z9:=Tryz.sizeOf9,
  v9:=Tryz.zeroValue9,
  t22:=underlying83,
  a22:=isAgg83,
  z22:=Tryz.sizeOf83,
  v22:=Tryz.zeroValue83,
  a24:=isAgg23,
  z24:=Tryz.sizeOf23,
  t25:=underlying129,
  a25:=isAgg129,
  z25:=Tryz.sizeOf129,
  v25:=Tryz.zeroValue129,
  t39:=underlying109,
  a39:=isAgg109,
  z39:=Tryz.sizeOf109,
  v39:=Tryz.zeroValue109,
  t45:=underlying154,
  a45:=isAgg154,
  z45:=Tryz.sizeOf154,
  v45:=Tryz.zeroValue154,
  t46:=underlying155,
  a46:=isAgg155,
  z46:=Tryz.sizeOf155,
  v46:=Tryz.zeroValue155,
  t50:=underlying121,
  a50:=isAgg121,
  z50:=Tryz.sizeOf121,
  v50:=Tryz.zeroValue121,
  t53:=underlying34,
  a53:=isAgg34,
  z53:=Tryz.sizeOf34,
  v53:=Tryz.zeroValue34,
  t55:=underlying133,
  a55:=isAgg133,
  z55:=Tryz.sizeOf133,
  v55:=Tryz.zeroValue133,
  t66:=underlying184,
  a66:=isAgg184,
  z66:=Tryz.sizeOf184,
  v66:=Tryz.zeroValue184,
  t70:=underlying188,
  a70:=isAgg188,
  z70:=Tryz.sizeOf188,
  v70:=Tryz.zeroValue188,
  t76:=underlying203,
  a76:=isAgg203,
  z76:=Tryz.sizeOf203,
  v76:=Tryz.zeroValue203,
  t77:=underlying204,
  a77:=isAgg204,
  z77:=Tryz.sizeOf204,
  v77:=Tryz.zeroValue204 }
def YS(f:Int->Ed)(n:Int->Prop)(I:∀ x y,n x->n y->((f x).id<(f y).id↔x<y))(l:AN)(M:∀ x∈l,n x)(q:Nat)(o:St)(P:l.length<65536)(Q:q<o.z)(E:o.H q=.box 36 3 (eds (l.map f))):
 aB prog 169 [.ms q 0 l.length,.fn (.func 170) []] o fun r s=>∃ c:AN,s.H q=.box 36 3 (eds (c.map f))/\c.Perm l/\c.Pairwise (·<=·)/\bR q o s:=by
 have e:∀ c:AN,eds (c.map f)=c.flatMap fun x=>dl (f x):=fun c=>by rw[<- List.flatMap_map]
 simp only[e]at E ⊢;have N:Enters prog 169:=Sv.f6.enters rfl;have F:=fun p j v w=>AnyF.slices_SortFunc_none Sv p j v w;change ∀ p j v w,Calls prog 169 _ _ _ at F;refine yE (k:=3) N (fun _=>rfl) oO (fun p j w=>F p j _ w) (fun w g b j _ d _ _ O S D=>?_) l M q o P Q E;have A:∀ x:El w g (fun x=>dl (f x)) n,x.1.2=[.int .u32 (f x.1.1).id,.int .u32 (f x.1.1).a,.int .u32 (f x.1.1).b]:=fun x=>by have:=x.2.2;simpa[dl,aC,Rep]using this
 have B:=enters_of func170 (by kernel_rfl) rfl;have C:∀(x:El w g (fun x=>dl (f x)) n),∀ v∈x.1.2,v.oneCell'=true:=fun x v h=>by rw[A]at h;simp only[ah,ml,nq]at h;rcases h with rfl|rfl|rfl<;>rfl
 have t:CmpLays prog 170 #[] (fun x:El w g (fun x=>dl (f x)) n=>x.1.2) 3 (fun x y=>nL x.1.1 y.1.1) b 0 d.size w:=fun m R J _ x y=>by
  have t:=ZL (f x.1.1) (f y.1.1) (sortWorldK (fun x:El w g (fun x=>dl (f x)) n=>x.1.2) 3 w b 0 m J R);have K:nL (f x.1.1).id (f y.1.1).id=nL x.1.1 y.1.1:=by have C:=I _ _ x.2.1 y.2.1;have L:=I _ _ y.2.1 x.2.1;simp only[nL,C,L]
  rw[K]at t;dsimp only;rw[A x,A y];exact t
 exact AnyQ.slices_SortFunc (α:=El w g (fun x=>dl (f x)) n) Sv 3 isAgg36 Tryz.sizeOf36 (fun x=>x.1.2) (fun x=>by rw[A];rfl) C (fun x y=>nL x.1.1 y.1.1) (Lp fun x:El w g (fun x=>dl (f x)) n=>x.1.1) 170 #[] b 0 j d w B t D O oO
def YZ(f:Int->Nat)(j:Int->List LV)(s:Int->Int)(t:Int->Prop)(T:∀ x,t x->0<f x/\∃ R,j x=u (s x)::R)(ho:∀ x y,t x->t y->(s x<s y↔x<y))(l:AN)(hD:∀ x∈l,t x)(q:Nat)(J:St)(hl:l.length<65536)(hq:q<J.z)(Y:J.H q=.box 23 1 (l.map fun x=>.sl 0 (f x) (j x))):
 aB prog 98 [.ms q 0 l.length,.fn (.func 99) []] J fun r K=>∃ c:AN,K.H q=.box 23 1 (c.map fun x=>.sl 0 (f x) (j x))/\c.Perm l/\c.Pairwise (·<=·)/\bR q J K:=by
 have e:∀ c:AN,(c.map fun x=>LV.sl 0 (f x) (j x))=c.flatMap fun x=>[LV.sl 0 (f x) (j x)]:=fun c=>by induction c<;>simp_all
 simp only[e]at Y ⊢;have hE:Enters prog 98:=Sf.f6.enters rfl;have Z:=fun p a v w=>AnyF.slices_SortFunc_none (P:=prog) (ρ:=Di) { Sf with } p a v w;change ∀ p a v w,Calls prog 98 _ _ _ at Z;refine yE (k:=1) hE (fun _=>rfl) oO (fun p a w=>Z p a _ w) (fun w g b a _ d _ U hb hd F=>?_) l hD q J hl hq Y;have M:∀ x:El w g (fun x=>[LV.sl 0 (f x) (j x)]) t,∃ B o a,x.1.2=[.slice (some ⟨B,o,none⟩) (f x.1.1) a]/\w.cell? ⟨B,o,none⟩=some (.int .u32 (s x.1.1))/\B≠b:=fun x=>by have h:=x.2.2;obtain⟨_,R,hR⟩:=T _ x.2.1;simp only[aC,Rep]at h;obtain⟨v,_,D,⟨A,a,E,_,_,_,h6⟩,rfl⟩:=h;obtain⟨B,o,rfl,Q⟩:=h6 (by rw[hR];simp);rw[hR]at Q;simp only[aP,Rep]at Q;obtain⟨⟨v',h8,rfl,h9⟩,_⟩:=Q;exact⟨B,o,a,by rw[D,E],h8,fun e=>by subst e;exact absurd (h9 0 U) (tj _)⟩
 have C:(fun x:El w g (fun x=>[LV.sl 0 (f x) (j x)]) t=>x.1.2)=fun x=>[x.1.2.headD undef]:=funext fun x=>by obtain⟨_,_,_,h,_⟩:=M x;rw[h];rfl
 rw[C]at F;have S:∀ n N I,sortWorldK (fun x:El w g (fun x=>[LV.sl 0 (f x) (j x)]) t=>x.1.2) 1 w b 0 n N I=sortWorld (fun x=>x.1.2.headD undef) w b 0 n N I:=fun n N I=>by rw[C];unfold sortWorldK sortWorld;rw[VU]
 simp only[S];have O:=enters_of func99 (by kernel_rfl) rfl;have D:OneCell (fun x:El w g (fun x=>[LV.sl 0 (f x) (j x)]) t=>x.1.2.headD undef):=fun x=>by obtain⟨_,_,_,h,_⟩:=M x;show(x.1.2.headD undef).oneCell'=true;rw[h];rfl
 have L:CmpLays1 prog 99 #[] (fun x:El w g (fun x=>[LV.sl 0 (f x) (j x)]) t=>x.1.2.headD undef) (fun x y=>nL x.1.1 y.1.1) b 0 d.size w:=fun m I dk _ x y=>by
  obtain⟨B1,o1,V,D,E,h3⟩:=M x;obtain⟨B2,o2,W,k1,k2,k3⟩:=M y;have X:∀ {B o:Nat} {v:Value},w.cell? ⟨B,o,none⟩=some v->B≠b->(sortWorld (fun x:El w g (fun x=>[LV.sl 0 (f x) (j x)]) t=>x.1.2.headD undef) w b 0 m dk I).cell? ⟨B,o,none⟩=some v:=fun {B o v} h hB=>by unfold sortWorld;rw[cell?_grow _ _ _ (by simpa[Sort.ahead]using oI h),cell?_putRow_other _ _ _ _ _ _ (.inl hB)];exact h
  have L:=RO (c1:=V) (c2:=W) (X E h3) (X k2 k3) (T _ x.2.1).1 (T _ y.2.1).1;have e1:nL (s x.1.1) (s y.1.1)=nL x.1.1 y.1.1:=by have D:=ho _ _ x.2.1 y.2.1;have E:=ho _ _ y.2.1 x.2.1;simp only[nL,D,E]
  rw[e1]at L;dsimp only;rw[D,k1];exact L
 exact Any.slices_SortFunc (α:=El w g (fun x=>[LV.sl 0 (f x) (j x)]) t) Sf (fun x=>x.1.2.headD undef) D (fun x y=>nL x.1.1 y.1.1) (Lp fun x:El w g (fun x=>[LV.sl 0 (f x) (j x)]) t=>x.1.1) 99 #[] b 0 a d w O L (Oo F) hb oO
end Aw
end Go.Proofs.YtbgngpdonpeboaaGreatDoor
