/- Plain: things on a ring that keep out of each other's way. -/
import Derived.Test.YtbgngpdonpeboaaGreatDoorJn
import Derived.Test.YtbgngpdonpeboaaGreatDoorAwShp
set_option linter.unusedVariables false
set_option linter.unusedSimpArgs false
set_option linter.unusedSectionVars false
set_option maxHeartbeats 2000000
open Go.Proofs.Tryz
namespace Go.Proofs.YtbgngpdonpeboaaGreatDoor
namespace Aw
open Go Go.RowKit Pl
structure Avo(r:List Int)(C D:Int->Prop):Prop where
 no:∀ a b c d,C a->C b->D c->D d->¬Cr r a b c d
 three:∀ a b c,C a->C b->C c->D a->D b->D c->a=b\/b=c\/a=c
theorem LJ{r:List Int}{a b c d:Int}(h:Cr r a b c d):Cr r c d a b:=by obtain⟨⟨h1,h2,h3,h4⟩,q⟩:=h;refine⟨⟨h3,h4,h1,h2⟩,?_⟩;unfold crn cyn at *;omega
theorem UK{r r':List Int}{x y z w:Int}(h:Cr r x y z w)(k:∀ a b c,a∈[x,y,z,w]->b∈[x,y,z,w]->c∈[x,y,z,w]->Cy r a b c->Cy r' c b a):Cr r' x y z w:=by
 rw[RG]at *
 grind
theorem Avo.symm{r:List Int}{C D:Int->Prop}(h:Avo r C D):Avo r D C:=⟨fun a b c d k1 k2 k3 k4 q=>h.no c d a b k3 k4 k1 k2 (LJ q),by grind [Avo]⟩
def Sm(C:Int->Prop)(f g:List Int):Prop:=∀ x y z,C x->C y->C z->(Cy f x y z↔Cy g x y z)
theorem Avo.mono{r r':List Int}{C D C' D':Int->Prop}(h:Avo r C D)(hC:∀ v,C' v->C v)(hD:∀ v,D' v->D v)(k:∀ a b c,(C' a\/D' a)->(C' b\/D' b)->(C' c\/D' c)->Cy r' a b c->Cy r a b c):Avo r' C' D':=
 ⟨fun a b c d k1 k2 k3 k4 q=>h.no a b c d (hC _ k1) (hC _ k2) (hD _ k3) (hD _ k4) (q.mono fun _ _ _ p1 p2 p3=>k _ _ _ (by grind) (by grind) (by grind)),by grind [Avo]⟩
theorem Avo.flip{r r':List Int}{C D:Int->Prop}(h:Avo r C D)(k:∀ a b c,(C a\/D a)->(C b\/D b)->(C c\/D c)->Cy r' a b c->Cy r c b a):Avo r' C D:=
 ⟨fun a b c d k1 k2 k3 k4 q=>h.no a b c d k1 k2 k3 k4 (UK q fun _ _ _ p1 p2 p3=>k _ _ _ (by grind) (by grind) (by grind)),h.three⟩
theorem Avo.rev{r:List Int}{C D:Int->Prop}(hn:r.Nodup)(h:Avo r C D):Avo r.reverse C D:=h.flip fun _ _ _ _ _ _=>(Ju hn).1
theorem Avo.rot{a b:List Int}{C D:Int->Prop}(hn:(a++b).Nodup)(h:Avo (a++b) C D):Avo (b++a) C D:=h.mono (fun _=>id) (fun _=>id) fun _ _ _ _ _ _=>(PI hn).2
theorem NL{f g h:List Int}{C D:Int->Prop}(hx:NoX f g h)(hC:∀ v,C v->v∈f/\v∈g)(hD:∀ v,D v->v∈f/\v∈h){t:Int}(ht:D t)(htg:t∉g):Avo f C D:=by
 have no:∀ a b c d,C a->C b->D c->D d->¬Cr f a b c d:=fun a b c d k1 k2 k3 k4=>hx a b c d (hC _ k1).2 (hC _ k2).2 (hD _ k3).2 (hD _ k4).2;refine⟨no,fun a b c k1 k2 k3 q1 q2 q3=>?_⟩;have ta:∀ v,C v->t≠v:=fun v k e=>htg (e ▸ (hC v k).2);have i1:=@mA f t a (hD t ht).1;have i2:=@mA f t b (hD t ht).1;have i3:=@mA f t c (hD t ht).1;have i4:=@mA f a b (hC a k1).1;have i5:=@mA f b c (hC b k2).1;have i6:=@mA f a c (hC a k1).1;have n1:=no a b t c k1 k2 ht q3;have n2:=no b c t a k2 k3 ht q1;have n3:=no a c t b k1 k3 ht q2;have:=hC a k1;have:=hC b k2;have:=hC c k3;have:=hD t ht;have:=ta a k1;have:=ta b k2;have:=ta c k3;simp only[Cr,crn,cyn]at n1 n2 n3
 grind
section
variable {x y:Int} {P Q M:List Int} (hn:(x::(P++y::Q)).Nodup) (hm:M.Nodup) (hM:∀ v∈M,v∉x::(P++y::Q))
include hn hm hM
theorem XY{u v w:Int}(hu:u∈x::(P++[y]))(hv:v∈x::(P++[y]))(hw:w∈x::(P++[y])):Cy (x::(P++y::M.reverse)) u v w↔Cy (x::(P++y::Q)) u v w:=by
 have a:=eF hn hm hM (v:=u) (by grind);have b:=eF hn hm hM (v:=v) (by grind);have c:=eF hn hm hM (v:=w) (by grind);unfold Cy
 grind
theorem Ca{C D B:Int->Prop}(hx:B x)(hy:B y)(hA:Avo (x::(P++y::Q)) D B)(hD:∀ v,D v->v∈x::(P++[y]))(hDP:(∃ v,D v/\v∈P)\/(∀ v,B v->v∉P)\/¬(D x/\D y))(hC:∀ v,C v->v∈M\/(B v/\v∈x::(P++[y]))):Avo (x::(P++y::M.reverse)) D C:=by
 have fD:∀ v,D v->v∈x::(P++y::Q)/\v∉M/\(x::(P++y::M.reverse)).idxOf v=(x::(P++y::Q)).idxOf v/\(x::(P++y::Q)).idxOf v<=P.length+1:=fun v k=>by
  have:=eF hn hm hM (v:=v) (by grind)
  grind
 have fC:∀ v,C v->(v∈M/\P.length+1<(x::(P++y::M.reverse)).idxOf v)\/(B v/\v∈x::(P++y::Q)/\v∉M/\(x::(P++y::M.reverse)).idxOf v=(x::(P++y::Q)).idxOf v/\(x::(P++y::Q)).idxOf v<=P.length+1):=fun v k=>by
  by_cases q:v∈M
  .have:=Ks hn hm hM q;exact .inl ⟨q,oO⟩
  .have:=eF hn hm hM (v:=v) (by grind)
   grind
 have A7:∀ a b d,D a->D b->B d->d∈x::(P++y::Q)->(x::(P++y::Q)).idxOf a<(x::(P++y::Q)).idxOf d->(x::(P++y::Q)).idxOf d<(x::(P++y::Q)).idxOf b->False:=by
  intro a b d ka kb kd hd h1 h2;have px:(x::(P++y::Q)).idxOf x=0:=by grind
  have py:(x::(P++y::Q)).idxOf y=P.length+1:=by
   have:=eF hn hm hM (v:=y) (by grind)
   grind
  have mx:x∈x::(P++y::Q):=by grind
  have my:y∈x::(P++y::Q):=by grind
  have fa:=fD a ka;have fb:=fD b kb;have dP:d∈P:=by
   have:=eF hn hm hM hd
   grind
  have ea:a=x:=by
   have:=hA.no a b d x ka kb kd hx;have:=@mA (x::(P++y::Q)) a x fa.1;simp only[Cr,crn,cyn]at *
   grind
  have eb:b=y:=by
   have:=hA.no a b d y ka kb kd hy;have:=@mA (x::(P++y::Q)) b y fb.1;simp only[Cr,crn,cyn]at *
   grind
  subst ea eb;rcases hDP with⟨t,k1,k2⟩|k|k
  .have ft:=fD t k1;have:=hA.three a b t ka kb k1 hx hy;have:=hA.no t b d a k1 kb kd hx;have:=hA.no a t d b ka k1 kd hy;have:=@mA (a::(P++b::Q)) t d ft.1;have:=eF hn hm hM ft.1;simp only[Cr,crn,cyn]at *
   grind
  .exact k d kd dP
  .exact k ⟨ka,kb⟩
 refine⟨fun a b c d ka kb kc kd q=>?_,fun a b c k1 k2 k3 q1 q2 q3=>?_⟩
 .have fa:=fD a ka;have fb:=fD b kb;have q2:=q.2;rcases fC c kc with fc|fc<;>rcases fC d kd with fd|fd
  .unfold crn cyn at q2;omega
  .have m1:¬((x::(P++y::Q)).idxOf a<(x::(P++y::Q)).idxOf d/\(x::(P++y::Q)).idxOf d<(x::(P++y::Q)).idxOf b):=fun h=>A7 a b d ka kb fd.1 fd.2.1 h.1 h.2;have m2:¬((x::(P++y::Q)).idxOf b<(x::(P++y::Q)).idxOf d/\(x::(P++y::Q)).idxOf d<(x::(P++y::Q)).idxOf a):=fun h=>A7 b a d kb ka fd.1 fd.2.1 h.1 h.2;unfold crn cyn at q2;omega
  .have m1:¬((x::(P++y::Q)).idxOf a<(x::(P++y::Q)).idxOf c/\(x::(P++y::Q)).idxOf c<(x::(P++y::Q)).idxOf b):=fun h=>A7 a b c ka kb fc.1 fc.2.1 h.1 h.2;have m2:¬((x::(P++y::Q)).idxOf b<(x::(P++y::Q)).idxOf c/\(x::(P++y::Q)).idxOf c<(x::(P++y::Q)).idxOf a):=fun h=>A7 b a c kb ka fc.1 fc.2.1 h.1 h.2;unfold crn cyn at q2;omega
  .refine hA.no a b c d ka kb fc.1 fd.1 ⟨⟨fa.1,fb.1,fc.2.1,fd.2.1⟩,?_⟩;unfold crn cyn at *;omega
 .have:=fD a k1;have:=fD b k2;have:=fD c k3;exact hA.three a b c k1 k2 k3 (by grind) (by grind) (by grind)
end
section
variable {x y:Int} {P Q P' Q' M:List Int} (hn:(x::(P++y::Q)).Nodup) (F4:(x::(P'++y::Q')).Nodup) (hm:M.Nodup) (hM:∀ v∈M,v∉x::(P++y::Q)) (hM':∀ v∈M,v∉x::(P'++y::Q')) {B:Int->Prop} (hx:B x) (hy:B y) (hs:Sm B (x::(P++y::Q)) (x::(P'++y::Q')))
include hn F4 hm hM hM' hx hy hs
theorem Qu{v:Int}(hv:B v)(h:v∈x::(P'++[y])):v∈x::(P++[y]):=by
 by_cases k:v∈P'
 .have a:=eF F4 hm hM' (v:=v) (by grind);have b:=eF F4 hm hM' (v:=y) (by grind);have c:=eF F4 hm hM' (v:=x) (by grind);have d:=(hs x v y hx hv hy).2 ⟨⟨by grind,by grind,by grind⟩,by unfold cyn;grind⟩;have e:=eF hn hm hM (v:=v) d.1.2.1;have g:=eF hn hm hM (v:=y) (by grind);have i:=eF hn hm hM (v:=x) (by grind);have q:=d.2;unfold cyn at q
  grind
 .grind
theorem XJ{a b:Int}(ka:B a)(kb:B b)(ha:a∈x::(P++[y]))(hb:b∈x::(P++[y]))(h:(x::(P'++y::Q')).idxOf a<(x::(P'++y::Q')).idxOf b)(ha':a∈x::(P'++[y]))(hb':b∈x::(P'++[y])):(x::(P++y::Q)).idxOf a<(x::(P++y::Q)).idxOf b:=by
 have i1:=eF F4 hm hM' (v:=a) (by grind);have i2:=eF F4 hm hM' (v:=b) (by grind);have i3:=eF F4 hm hM' (v:=x) (by grind);have j1:=eF hn hm hM (v:=a) (by grind);have j2:=eF hn hm hM (v:=b) (by grind);have j3:=eF hn hm hM (v:=x) (by grind);by_cases e:a=x
 .grind
 .have d:=(hs x a b hx ka kb).2 ⟨⟨by grind,by grind,by grind⟩,by unfold cyn;grind⟩;have q:=d.2;unfold cyn at q
  grind
theorem JZ{a b c:Int}(ha:a∈M\/(B a/\a∈x::(P'++[y])))(hb:b∈M\/(B b/\b∈x::(P'++[y])))(hc:c∈M\/(B c/\c∈x::(P'++[y])))(h:Cy (x::(P'++y::M.reverse)) a b c):Cy (x::(P++y::M.reverse)) a b c:=by
 have key:∀ u v,(u∈M\/(B u/\u∈x::(P'++[y])))->(v∈M\/(B v/\v∈x::(P'++[y])))->(x::(P'++y::M.reverse)).idxOf u<(x::(P'++y::M.reverse)).idxOf v->u∈x::(P++y::M.reverse)/\v∈x::(P++y::M.reverse)/\(x::(P++y::M.reverse)).idxOf u<(x::(P++y::M.reverse)).idxOf v:=by
  intro u v hu hv h;have f1:∀ w,w∈M->(x::(P'++y::M.reverse)).idxOf w+M.idxOf w=P'.length+M.length+1/\(x::(P++y::M.reverse)).idxOf w+M.idxOf w=P.length+M.length+1/\M.idxOf w<M.length/\w∈x::(P++y::M.reverse):=fun w k=>by
   have:=Ks hn hm hM k;have:=Ks F4 hm hM' k
   grind
  have f2:∀ w,B w/\w∈x::(P'++[y])->(x::(P'++y::M.reverse)).idxOf w=(x::(P'++y::Q')).idxOf w/\(x::(P'++y::Q')).idxOf w<=P'.length+1/\(x::(P++y::M.reverse)).idxOf w=(x::(P++y::Q)).idxOf w/\(x::(P++y::Q)).idxOf w<=P.length+1/\w∈x::(P++[y])/\w∈x::(P++y::M.reverse):=fun w k=>by
   have q:=Qu hn F4 hm hM hM' hx hy hs k.1 k.2;have:=eF F4 hm hM' (v:=w) (by grind);have:=eF hn hm hM (v:=w) (by grind)
   grind
  rcases hu with hu|hu<;>rcases hv with hv|hv
  .have:=f1 u hu;have:=f1 v hv
   exact⟨by grind,by grind,oO⟩
  .have:=f1 u hu;have:=f2 v hv
   exact⟨by grind,by grind,oO⟩
  .have:=f2 u hu;have:=f1 v hv
   exact⟨by grind,by grind,oO⟩
  .have a1:=f2 u hu;have a2:=f2 v hv;have:=XJ hn F4 hm hM hM' hx hy hs hu.1 hv.1 a1.2.2.2.2.1 a2.2.2.2.2.1 oO hu.2 hv.2;exact⟨by grind,by grind,oO⟩
 obtain⟨m,h⟩:=h;have:=key a b ha hb;have:=key b c hb hc;have:=key c a hc ha;unfold cyn at h;exact⟨by grind,by unfold cyn;grind⟩
end
theorem Sm.symm{B:Int->Prop}{f g:List Int}(h:Sm B f g):Sm B g f:=fun x y z a b c=>(h x y z a b c).symm
structure Al{Θ:Type}(F:List (List Int))(live:Θ->Prop)(ct:Θ->Int->Prop)(K:Θ->List Int->Prop)(α:Θ->Nat):Prop where
 lt:∀ T,live T->α T<F.length
 on:∀ T,live T->∀ v,ct T v->v∈F.getD (α T) []
 avo:∀ T T',live T->live T'->T≠T'->α T=α T'->Avo (F.getD (α T) []) (ct T) (ct T')
 sim:∀ T,live T->∃ r,K T r/\Sm (ct T) (F.getD (α T) []) r
theorem RW{C:Int->Prop}{f g r:List Int}(hf:Rv f g)(hr:r.Nodup)(hC:∀ v,C v->v∈f/\v∈g)(h:Sm C f r):Sm C g r.reverse:=fun x y z a b c=>by
 rw[Ju hr,<- h z y x c b a];have:=hf z y x (hC z c).2 (hC y b).2 (hC x a).2;have:=hf.symm x y z (hC x a).1 (hC y b).1 (hC z c).1
 grind
theorem Al.swap{Θ:Type}{F:List (List Int)}{live:Θ->Prop}{ct:Θ->Int->Prop}{K:Θ->List Int->Prop}{α:Θ->Nat}(h:Al F live ct K α)(hF:Rgs F)(hK:∀ T r,K T r->K T r.reverse/\r.Nodup)(h2:∀ T,live T->∀ g,∃ i,i≠g/\i<F.length/\∀ v,ct T v->v∈F.getD i [])
 {b:Θ} (hb:live b) {f:Nat} (hf:f<F.length) (hbf:∀ v,ct b v->v∈F.getD f []):∃ U6,Al F live ct K U6/\U6 b=f:=by
 by_cases e:α b=f
 .exact⟨α,h,e⟩
 have hg:=h.lt b hb;have hbg:=h.on b hb;generalize hgg:α b=g at *
 have hex:∃ U6:Θ->Nat,∀ T,((∀ v,ct T v->v∈F.getD f []/\v∈F.getD g [])->U6 T=if α T=f then g else if α T=g then f else α T)/\(¬(∀ v,ct T v->v∈F.getD f []/\v∈F.getD g [])->U6 T=α T):=
  ⟨fun T=>open Classical in if(∀ v,ct T v->v∈F.getD f []/\v∈F.getD g [])then(if α T=f then g else if α T=g then f else α T)else α T,fun T=>⟨fun k=>aAk k,fun k=>aAa k⟩⟩
 obtain⟨U6,T9⟩:=hex;refine⟨U6,⟨fun T k=>?_,fun T k v hv=>?_,fun T T' k k' Zy he=>?_,fun T k=>?_⟩,?_⟩
 .have:=h.lt T k;by_cases c:∀ v,ct T v->v∈F.getD f []/\v∈F.getD g []
  .have:=(T9 T).1 c;grind
  .have:=(T9 T).2 c;grind
 .have:=h.on T k v hv;by_cases c:∀ v,ct T v->v∈F.getD f []/\v∈F.getD g []
  .have:=(T9 T).1 c;have:=c v hv;grind
  .have:=(T9 T).2 c;grind
 .have hav:=h.avo T T' k k' Zy;have o1:=h.on T k;have o2:=h.on T' k';have l1:=h.lt T k;have l2:=h.lt T' k';have hfg:=hF.rev f g hf hg (aCv e);have fl:∀ i j,Rv (F.getD i []) (F.getD j [])->(∀ v,ct T v->v∈F.getD i []/\v∈F.getD j [])->(∀ v,ct T' v->v∈F.getD i []/\v∈F.getD j [])->Avo (F.getD j []) (ct T) (ct T')->Avo (F.getD i []) (ct T) (ct T'):=fun i j r c1 c2 q=>q.flip fun x y z a b c=>r x y z (by grind) (by grind) (by grind);have third:∀ i j S S',live S'->i<F.length->j<F.length->i≠j->(∀ v,ct S v->v∈F.getD i []/\v∈F.getD j [])->(∀ v,ct S' v->v∈F.getD i [])->¬(∀ v,ct S' v->v∈F.getD i []/\v∈F.getD j [])->Avo (F.getD i []) (ct S) (ct S'):=by
   intro i j S S' hl hi hj hij c1 c2 c3;obtain⟨m,m1,m2,m3⟩:=h2 S' hl i;have:∃ t,ct S' t/\t∉F.getD j []:=by grind
   obtain⟨t,t1,t2⟩:=this;exact NL (hF.nox i j m hi hj m2 hij m1.symm (fun e=>t2 (e ▸ m3 t t1))) c1 (fun v hv=>⟨c2 v hv,m3 v hv⟩) t1 t2
  have sw:∀ {S:Θ},(∀ v,ct S v->v∈F.getD f []/\v∈F.getD g [])->∀ v,ct S v->v∈F.getD g []/\v∈F.getD f []:=fun k v q=>(k v q).symm;by_cases c1:∀ v,ct T v->v∈F.getD f []/\v∈F.getD g []<;>by_cases c2:∀ v,ct T' v->v∈F.getD f []/\v∈F.getD g []
  .rw[(T9 T).1 c1]at he ⊢;rw[(T9 T').1 c2]at he;by_cases d:α T=f
   .have d':α T'=f:=by grind
    rw[aAk d];exact fl g f hfg.symm (sw c1) (sw c2) (d ▸ hav (by rw[d,d']))
   .by_cases d2:α T=g
    .have d':α T'=g:=by grind
     rw[aAa d,aAk d2];exact fl f g hfg c1 c2 (d2 ▸ hav (by rw[d2,d']))
    .rw[aAa d,aAa d2];exact hav (by grind)
  .rw[(T9 T).1 c1]at he ⊢;rw[(T9 T').2 c2]at he;by_cases d:α T=f
   .rw[aAk d]at he ⊢;exact third g f T T' k' hg hf e (sw c1) (fun v hv=>he ▸ o2 v hv) fun q=>c2 fun v k=>(q v k).symm
   .by_cases d2:α T=g
    .rw[aAa d,aAk d2]at he ⊢;exact third f g T T' k' hf hg (aCv e) c1 (fun v hv=>he ▸ o2 v hv) c2
    .rw[aAa d,aAa d2]at he ⊢;exact hav he
  .rw[(T9 T).2 c1]at he ⊢;rw[(T9 T').1 c2]at he;by_cases d:α T'=f
   .rw[aAk d]at he;rw[he];exact(third g f T' T k hg hf e (sw c2) (fun v hv=>he ▸ o1 v hv) fun q=>c1 fun v k=>(q v k).symm).symm
   .by_cases d2:α T'=g
    .rw[aAa d,aAk d2]at he;rw[he];exact(third f g T' T k hf hg (aCv e) c2 (fun v hv=>he ▸ o1 v hv) c1).symm
    .rw[aAa d,aAa d2]at he;exact hav he
  .rw[(T9 T).2 c1]at he ⊢;rw[(T9 T').2 c2]at he;exact hav he
 .obtain⟨r,kr,hs⟩:=h.sim T k;have hfg:=hF.rev f g hf hg (aCv e);by_cases c1:∀ v,ct T v->v∈F.getD f []/\v∈F.getD g []
  .rw[(T9 T).1 c1];by_cases d:α T=f
   .rw[aAk d];exact⟨_,(hK T r kr).1,RW hfg (hK T r kr).2 c1 (d ▸ hs)⟩
   .by_cases d2:α T=g
    .rw[aAa d,aAk d2];exact⟨_,(hK T r kr).1,RW hfg.symm (hK T r kr).2 (fun v q=>(c1 v q).symm) (d2 ▸ hs)⟩
    .rw[aAa d,aAa d2];exact⟨r,kr,hs⟩
  .rw[(T9 T).2 c1];exact⟨r,kr,hs⟩
 .rw[(T9 b).1 fun v k=>⟨hbf v k,hbg v k⟩,hgg,aAa e,aAk rfl]
theorem half{x y:Int}{P Q P' Q' M:List Int}(hn:(x::(P++y::Q)).Nodup)(F4:(x::(P'++y::Q')).Nodup)(hm:M.Nodup)(hM:∀ v∈M,v∉x::(P++y::Q))(hM':∀ v∈M,v∉x::(P'++y::Q')){B:Int->Prop}(hx:B x)(hy:B y)(hs:Sm B (x::(P++y::Q)) (x::(P'++y::Q')))
 {Θ:Type} {ct:Θ->Int->Prop} {K:Θ->List Int->Prop} {old pc:Θ->Prop}
 (ho:∀ T,old T->(∀ v,ct T v->v∈x::(P++[y]))/\((∃ v,ct T v/\v∈P)\/(∀ v,B v->v∉P)\/¬(ct T x/\ct T y))/\Avo (x::(P++y::Q)) (ct T) B/\∃ r,K T r/\Sm (ct T) (x::(P++y::Q)) r)
 (hoo:∀ T T',old T->old T'->T≠T'->Avo (x::(P++y::Q)) (ct T) (ct T'))
 (hp:∀ T,pc T->(∀ v,ct T v->v∈M\/B v)/\(∀ v,ct T v->v∈x::(P'++y::M.reverse))/\K T (x::(P'++y::M.reverse)))
 (X7:∀ T T',pc T->pc T'->T≠T'->Avo (x::(P'++y::M.reverse)) (ct T) (ct T')):
 (∀ T,old T\/pc T->(∀ v,ct T v->v∈x::(P++y::M.reverse))/\∃ r,K T r/\Sm (ct T) (x::(P++y::M.reverse)) r)/\∀ T T',old T\/pc T->old T'\/pc T'->T≠T'->Avo (x::(P++y::M.reverse)) (ct T) (ct T'):=by
 have q:∀ T,pc T->∀ v,ct T v->v∈M\/(B v/\v∈x::(P'++[y])):=fun T k v hv=>by
  have:=(hp T k).1 v hv;have:=(hp T k).2.1 v hv
  grind
 have q':∀ T,pc T->∀ v,ct T v->v∈M\/(B v/\v∈x::(P++[y])):=fun T k v hv=>(q T k v hv).imp id fun z=>⟨z.1,Qu hn F4 hm hM hM' hx hy hs z.1 z.2⟩;have e:=@XY x y P Q M hn hm hM;refine⟨fun T k=>?_,fun T T' k k' Zy=>?_⟩
 .rcases k with k|k
  .obtain⟨h1,_,_,r,h4,h5⟩:=ho T k;exact⟨fun v hv=>by have:=h1 v hv;grind,r,h4,fun a b c ka kb kc=>(e (h1 a ka) (h1 b kb) (h1 c kc)).trans (h5 a b c ka kb kc)⟩
  .refine⟨fun v hv=>by have:=q' T k v hv;grind,_,(hp T k).2.2,fun a b c ka kb kc=>⟨?_,?_⟩⟩
   .exact JZ F4 hn hm hM' hM hx hy hs.symm (q' T k a ka) (q' T k b kb) (q' T k c kc)
   .exact JZ hn F4 hm hM hM' hx hy hs (q T k a ka) (q T k b kb) (q T k c kc)
 .rcases k with k|k<;>rcases k' with k'|k'
  .exact(hoo T T' k k' Zy).mono (fun _=>id) (fun _=>id) fun a b c ka kb kc=>(e (ka.elim ((ho T k).1 a) ((ho T' k').1 a)) (kb.elim ((ho T k).1 b) ((ho T' k').1 b)) (kc.elim ((ho T k).1 c) ((ho T' k').1 c))).1
  .exact Ca hn hm hM hx hy (ho T k).2.2.1 (ho T k).1 (ho T k).2.1 (q' T' k')
  .exact(Ca hn hm hM hx hy (ho T' k').2.2.1 (ho T' k').1 (ho T' k').2.1 (q' T k)).symm
  .exact(X7 T T' k k' Zy).mono (fun _=>id) (fun _=>id) fun a b c ka kb kc=>JZ F4 hn hm hM' hM hx hy hs.symm (ka.elim (q' T k a) (q' T' k' a)) (kb.elim (q' T k b) (q' T' k' b)) (kc.elim (q' T k c) (q' T' k' c))
theorem EB{r:List Int}{x y:Int}(hx:x∈r)(hy:y∈r)(D4:x≠y):∃ a b P Q,r=a++b/\b++a=x::(P++y::Q):=by
 obtain⟨a,b,rfl⟩:=aBi hx;rcases(by grind:y∈b\/y∈a)with h|h
 .obtain⟨c,d,rfl⟩:=aBi h;exact⟨a,x::(c++y::d),c,d++a,rfl,sS⟩
 .obtain⟨c,d,rfl⟩:=aBi h;exact⟨c++y::d,x::b,b++c,d,rfl,sS⟩
theorem Sc.avo{f g:List Int}{C D:Int->Prop}(s:Sc f g)(h:Avo f C D):Avo g C D:=h.mono (fun _=>id) (fun _=>id) fun a b c _ _ _=>(s.2 a b c).2
theorem UT{x y v w:Int}{P Q:List Int}(hn:(x::(P++y::Q)).Nodup)(hv:v∈P)(hw:w∈Q):Cr (x::(P++y::Q)) x y v w:=by have:=Ag hv;have:=Ag hw;refine⟨by grind,.inl ⟨?_,?_⟩⟩<;>unfold cyn<;>grind
def onE(ct:Int->Prop)(B:Int->Prop)(x y:Int)(P:List Int):Prop:=(∀ v,ct v->v∈x::(P++[y]))/\((∃ v,ct v/\v∈P)\/(∀ v,B v->v∉P)\/¬(ct x/\ct y))
theorem UP{x y:Int}{P Q:List Int}(hn:(x::(P++y::Q)).Nodup){C B:Int->Prop}(hx:B x)(hy:B y)(hA:Avo (x::(P++y::Q)) C B)(hC:∀ v,C v->v∈x::(P++y::Q))(h:¬onE C B x y P):onE C B y x Q:=by
 have f:∀ v w,v∈P->w∈Q->Cr (x::(P++y::Q)) x y v w:=fun v w=>UT hn;have n1:∀ v w,C v->C w->v∈P->w∈Q->False:=fun v w k k' kv kw=>hA.no v w x y k k' hx hy (LJ (f v w kv kw));have n2:∀ v w,B v->B w->v∈P->w∈Q->C x->C y->False:=fun v w k k' kv kw hx hy=>hA.no x y v w hx hy k k' (f v w kv kw);unfold onE at *;by_cases a:∃ v,C v/\v∈P<;>by_cases b:∃ v,C v/\v∈Q
 .grind
 .exact absurd ⟨fun v k=>by have:=hC v k;grind,.inl a⟩ h
 .exact⟨fun v k=>by have:=hC v k;grind,.inl b⟩
 .have k:∀ v,C v->v=x\/v=y:=fun v k=>by have:=hC v k;grind
  refine⟨by grind,?_⟩;by_cases c:C x/\C y
  .by_cases d:∀ v,B v->v∉P
   .exact absurd ⟨fun v q=>by have:=k v q;grind,.inr (.inl d)⟩ h
   .right;left;grind
  .grind
theorem Lf{x y:Int}{P Q:List Int}(h:(x::(P++y::Q)).Nodup):(y::(Q++x::P)).Nodup:=by grind
theorem Al.lay{Θ:Type}{F:List (List Int)}{live:Θ->Prop}{ct:Θ->Int->Prop}{K:Θ->List Int->Prop}{α:Θ->Nat}(h:Al F live ct K α)(hK:∀ T r,K T r->K T r.reverse/\r.Nodup)
 {b:Θ} (hb:live b) {n:Nat} (e:α b=n) {x y:Int} {P Q M:List Int} (s:Sc (F.getD n []) (x::(P++y::Q))) (hd:(x::(P++y::Q)).Nodup) (hm:M.Nodup) (hM:∀ i,i<F.length->∀ v∈M,v∉F.getD i []) (hx:ct b x) (hy:ct b y)
 (hKb:∀ r,K b r->(∀ v∈M,v∉r)/\∀ v,ct b v->v∈r) {live' pc:Θ->Prop} (hl:∀ T,live' T->(live T/\T≠b)\/(pc T/\¬live T))
 (hp:∀ a b' P' Q',K b (a++b')->b'++a=x::(P'++y::Q')->∃ side:Θ->Bool,∀ T,pc T->(∀ v,ct T v->v∈M\/ct b v)/\(∀ v,ct T v->v∈if side T then x::(P'++y::M.reverse)else y::(Q'++x::M))/\K T (if side T then x::(P'++y::M.reverse)else y::(Q'++x::M))/\
   ∀ T',pc T'->T≠T'->side T=side T'->Avo (if side T then x::(P'++y::M.reverse)else y::(Q'++x::M)) (ct T) (ct T')):
 ∃ U6,Al (F.set n (x::(P++y::M.reverse))++[y::(Q++x::M)]) live' ct K U6:=by
 have hnF:=e ▸ h.lt b hb;obtain⟨r,hr,hs⟩:=h.sim b hb;rw[e]at hs;have D4:x≠y:=by grind
 obtain⟨a,b',P',Q',e1,e2⟩:=EB ((hKb r hr).2 x hx) ((hKb r hr).2 y hy) D4;have S4:=(hK b r hr).2;have F4:(x::(P'++y::Q')).Nodup:=by rw[<- e2];grind
 have hMr:=(hKb r hr).1;have sc':Sc r (x::(P'++y::Q')):=by rw[e1,<- e2];exact Du (e1 ▸ S4)
 have V5:Sm (ct b) (x::(P++y::Q)) (x::(P'++y::Q')):=fun u v w ku kv kw=>by rw[<- s.2,hs u v w ku kv kw,sc'.2]
 have hMf:∀ v∈M,v∉x::(P++y::Q):=fun v k c=>hM n hnF v k ((s.1 v).2 c);have hMf':∀ v∈M,v∉x::(P'++y::Q'):=fun v k c=>hMr v k ((sc'.1 v).2 c);obtain⟨side,hside⟩:=hp a b' P' Q' (e1 ▸ hr) e2
 have hex:∃ U6:Θ->Nat,∀ T,(live T->(α T≠n->U6 T=α T)/\(α T=n->onE (ct T) (ct b) x y P->U6 T=n)/\(α T=n->¬onE (ct T) (ct b) x y P->U6 T=F.length))/\(¬live T->U6 T=if side T then n else F.length):=
  ⟨fun T=>open Classical in if live T then(if α T=n then if onE (ct T) (ct b) x y P then n else F.length else α T)else if side T then n else F.length,fun T=>by grind⟩
 obtain⟨U6,T9⟩:=hex;have hav:∀ T T',(live T/\α T=n)->(live T'/\α T'=n)->T≠T'->Avo (x::(P++y::Q)) (ct T) (ct T'):=fun T T' k k' Zy=>s.avo (k.2 ▸ h.avo T T' k.1 k'.1 Zy (by rw[k.2,k'.2]));have hon:∀ T,(live T/\α T=n)->∀ v,ct T v->v∈x::(P++y::Q):=fun T k v hv=>(s.1 v).1 (k.2 ▸ h.on T k.1 v hv);have J7:∀ T,(live T/\α T=n)->∃ r,K T r/\Sm (ct T) (x::(P++y::Q)) r:=fun T k=>by obtain⟨r,h1,h2⟩:=h.sim T k.1;exact⟨r,h1,fun u v w ku kv kw=>by rw[<- s.2,<- k.2,h2 u v w ku kv kw]⟩
 have H1:=half (K:=K) (ct:=ct) (old:=fun T=>(live T/\α T=n)/\T≠b/\onE (ct T) (ct b) x y P) (pc:=fun T=>pc T/\side T=true) hd F4 hm hMf hMf' hx hy V5
  (fun T k=>⟨k.2.2.1,k.2.2.2,hav T b k.1 ⟨hb,e⟩ k.2.1,J7 T k.1⟩) (fun T T' k k'=>hav T T' k.1 k'.1)
  (fun T k=>by have:=hside T k.1;simp only[k.2,aBq]at this;exact⟨this.1,this.2.1,this.2.2.1⟩)
  (fun T T' k k' Zy=>by have:=(hside T k.1).2.2.2 T' k'.1 Zy;simp only[k.2,k'.2,aBq,true_implies]at this;exact this)
 have sd:∀ P Q:List Int,(x::(P++y::Q)).Nodup->Sc (x::(P++y::Q)) (y::(Q++x::P)):=fun P Q hn=>Du (a:=x::P) (b:=y::Q) (by simpa using hn);have d1:=sd P Q hd;have d2:=sd P' Q' F4
 have H2:=half (K:=K) (ct:=ct) (old:=fun T=>(live T/\α T=n)/\T≠b/\¬onE (ct T) (ct b) x y P) (pc:=fun T=>pc T/\side T=false) (x:=y) (y:=x) (P:=Q) (Q:=P) (P':=Q') (Q':=P') (M:=M.reverse) (B:=ct b) (Lf hd) (Lf F4) ((aBo M).nodup_iff.2 hm) (fun v k c=>hMf v (aBh.1 k) ((d1.1 v).2 c)) (fun v k c=>hMf' v (aBh.1 k) ((d2.1 v).2 c)) hy hx
  (fun u v w ku kv kw=>by rw[<- d1.2,<- d2.2,V5 u v w ku kv kw])
  (fun T k=>by
    have z:=UP hd hx hy (hav T b k.1 ⟨hb,e⟩ k.2.1) (hon T k.1) k.2.2;obtain⟨r,h1,h2⟩:=J7 T k.1
    exact⟨z.1,z.2,d1.avo (hav T b k.1 ⟨hb,e⟩ k.2.1),r,h1,fun u v w ku kv kw=>by rw[<- d1.2,h2 u v w ku kv kw]⟩)
  (fun T T' k k' Zy=>d1.avo (hav T T' k.1 k'.1 Zy))
  (fun T k=>by have:=hside T k.1;simp only[k.2]at this;rw[aCR];exact⟨fun v hv=>by rw[aBh];exact this.1 v hv,this.2.1,this.2.2.1⟩)
  (fun T T' k k' Zy=>by have:=(hside T k.1).2.2.2 T' k'.1 Zy;simp only[k.2,k'.2,true_implies]at this;rw[aCR];exact this)
 rw[aCR]at H2;have cls:∀ T,live' T->(U6 T=n/\(((live T/\α T=n)/\T≠b/\onE (ct T) (ct b) x y P)\/(pc T/\side T=true)))\/(U6 T=F.length/\(((live T/\α T=n)/\T≠b/\¬onE (ct T) (ct b) x y P)\/(pc T/\side T=false)))\/(U6 T=α T/\live T/\α T<F.length/\α T≠n):=fun T k=>by have:=T9 T;have:=h.lt T;have:=hl T k;by_cases c:live T<;>by_cases d:side T<;>by_cases g:α T=n<;>by_cases i:onE (ct T) (ct b) x y P<;>grind
 have gl:=fun i=>Rx hnF (x::(P++y::M.reverse)) (y::(Q++x::M)) i;have g1:(F.set n (x::(P++y::M.reverse))++[y::(Q++x::M)]).getD n []=x::(P++y::M.reverse):=by rw[gl,aAk rfl]
 have g2:(F.set n (x::(P++y::M.reverse))++[y::(Q++x::M)]).getD F.length []=y::(Q++x::M):=by rw[gl,aAa oO,aAk rfl]
 have g3:∀ i,i<F.length->i≠n->(F.set n (x::(P++y::M.reverse))++[y::(Q++x::M)]).getD i []=F.getD i []:=fun i h1 h2=>by rw[gl,aAa h2,aAa oO]
 have hlen:(F.set n (x::(P++y::M.reverse))++[y::(Q++x::M)]).length=F.length+1:=sS;generalize F.set n (x::(P++y::M.reverse))++[y::(Q++x::M)]=G at *;refine⟨U6,fun T k=>?_,fun T k v hv=>?_,fun T T' k k' Zy he=>?_,fun T k=>?_⟩
 .rcases cls T k with c|c|c<;>omega
 .rcases cls T k with c|c|c
  .rw[c.1,g1];exact(H1.1 T c.2).1 v hv
  .rw[c.1,g2];exact(H2.1 T c.2).1 v hv
  .rw[c.1,g3 _ c.2.2.1 c.2.2.2];exact h.on T c.2.1 v hv
 .rcases cls T k with c|c|c<;>rcases cls T' k' with c'|c'|c'<;>first|omega|skip
  .rw[c.1,g1];exact H1.2 T T' c.2 c'.2 Zy
  .rw[c.1,g2];exact H2.2 T T' c.2 c'.2 Zy
  .rw[c.1,g3 _ c.2.2.1 c.2.2.2];exact h.avo T T' c.2.1 c'.2.1 Zy oO
 .rcases cls T k with c|c|c
  .rw[c.1,g1];exact(H1.1 T c.2).2
  .rw[c.1,g2];exact(H2.1 T c.2).2
  .rw[c.1,g3 _ c.2.2.1 c.2.2.2];exact h.sim T c.2.1
end Aw
namespace Aw
open Go Go.RowKit Pl Eu
def Rw'(E:List Ed)(N:List Int):Prop:=∀ a b,(a,b)∈lnk N->∃ e∈E,prE e=prP a b
theorem tQ:∀(N:List Int) (v w:Int),lnk (N++[v,w])=lnk (N++[v])++[(v,w)]:=fun N v w=>by rw[show N++[v,w]=N++v::[w] from rfl,eX];rfl
theorem Af{E:List Ed}{a b:Int}(h:∃ e∈E,prE e=prP a b):∃ e∈E,prE e=prP b a:=by rw[aL];exact h
theorem KJ(C:List Int):∀ {B:List Int} {p:Int×Int},p∈lnk B->p∈lnk (B++C)
 |a::b::l,p,h=>by
  rcases aAe.1 h with h|h
  .rw[h];exact aAf
  .exact aAc _ (KJ C (B:=b::l) h)
theorem Ey:∀(A:List Int) {B:List Int} {p:Int×Int},p∈lnk B->p∈lnk (A++B)
 |[],_,_,h=>h
 |[a],b::B,p,h=>aAc _ h
 |a::a'::A,B,p,h=>aAc _ (Ey (a'::A) h)
theorem DD(A B C:List Int){p:Int×Int}(h:p∈lnk B):p∈lnk (A++B++C):=KJ C (Ey A h)
theorem Rw'.sub{E:List Ed}{A B C:List Int}(h:Rw' E (A++B++C)):Rw' E B:=fun a b k=>by exact h a b (DD A B C k)
theorem KD{E:List Ed}{S:Int->Prop}{u v:Int}(h:RIn E S u v):∃ N,(N++[v]).Nodup/\(∀ w∈N++[v],S w)/\Rw' E (N++[v])/\(N++[v]).head?=some u:=by
 induction h with
 |refl h=>exact⟨[],sS,by simpa using h,by intro a b k;simp[lnk]at k,rfl⟩
 |@step y z h hz hs ih=>
  obtain⟨N,h1,h2,h3,h4⟩:=ih;by_cases k:z∈N++[y]
  .obtain⟨A,B,e⟩:=aBi k;refine⟨A,?_,?_,?_,?_⟩
   .grind
   .grind
   .rw[e]at h3;exact Rw'.sub (A:=[]) (C:=B) (by simpa using h3)
   .cases A<;>simp_all
  .refine⟨N++[y],by grind,by grind,fun a b q=>?_,by cases N<;>simp_all⟩;rw[aAE,List.singleton_append,tQ]at q;rcases aAd.1 q with q|q
   .exact h3 a b q
   .rw[aAi]at q;injection q with q1 q2;rw[q1,q2];exact jZ.1 hz
theorem Gs{M:List Int}:∀ {l:List Int},(∃ m∈l,m∈M)->∃ A z B,l=A++z::B/\z∈M/\∀ w∈A,w∉M
 |[],h=>by grind
 |a::l,h=>by
  by_cases k:a∈M
  .exact⟨[],a,l,rfl,k,sS⟩
  .obtain⟨A,z,B,h1,h2,h3⟩:=Gs (M:=M) (l:=l) (by grind);exact⟨a::A,z,B,by rw[h1];rfl,h2,by grind⟩
structure Thg(E:List Ed)(T:(Int->Prop)×(Int->Prop)):Prop where
 kind:(∃ e∈E,(∀ v,¬T.1 v)/\∀ v,T.2 v↔v=e.a\/v=e.b)\/
  ((∃ v,T.1 v)/\(∀ p q,T.1 p->T.1 q->RIn E T.1 p q)/\∀ c,T.2 c->∃ p,T.1 p/\c∈nbr E p)
 off:∀ v,T.1 v->¬T.2 v
 two:∃ a b,T.2 a/\T.2 b/\a≠b
def Dt(E:List Ed)(T:(Int->Prop)×(Int->Prop))(c u:Int):Prop:=T.2 c/\(∃ e∈E,prE e=prP c u)/\(T.1 u\/((∀ v,¬T.1 v)/\T.2 u))
structure By'(F:List (List Int))(T:(Int->Prop)×(Int->Prop)):Prop where
 on:∀ c,T.2 c->∃ u,(c,u)∈PF F
 off:∀ v,T.1 v->∀ u,(v,u)∉PF F
 new:(∀ v,¬T.1 v)->∀ a b,T.2 a->T.2 b->(a,b)∉PF F
section
variable {E:List Ed} {T:(Int->Prop)×(Int->Prop)} (hT:Thg E T) (Zy:∀ e∈E,e.a≠e.b)
include hT Zy
theorem Thg.way{F:List (List Int)}(hF:By' F T){c u d v:Int}(h:Dt E T c u)(k:Dt E T d v)(hcd:c≠d):∃ M,WyE E F c d M/\(∀ w∈M,T.1 w)/\(c,u)∈lnk (c::(M++[d]))/\(v,d)∈lnk (c::(M++[d]))/\((∃ w,T.1 w)->M≠[]):=by
 obtain⟨h1,h2,h3⟩:=h;obtain⟨k1,k2,k3⟩:=k;rcases hT.kind with⟨e,he,z1,z2⟩|⟨z1,z2,z3⟩
 .have hu:u=d:=by
   have a1:=(z2 c).1 h1;have a2:=(z2 u).1 (by grind);have a3:=(z2 d).1 k1;obtain⟨f,hf,q⟩:=h2;have:=Zy f hf;have:=bK q
   grind
  have hv:v=c:=by
   have a1:=(z2 c).1 h1;have a2:=(z2 v).1 (by grind);have a3:=(z2 d).1 k1;obtain⟨f,hf,q⟩:=k2;have:=Zy f hf;have:=bK q
   grind
  subst hu hv;refine⟨[],⟨by grind,fun a b q=>?_,fun p q=>?_,sS,hF.on _ h1,hF.on _ k1⟩,sS,by simp[lnk],by simp[lnk],fun⟨w,q⟩=>absurd q (z1 w)⟩
  .simp[lnk]at q;rw[q.1,q.2];exact h2
  .simp[lnk]at q;rw[q];exact hF.new z1 _ _ h1 k1
 .have hu:T.1 u:=h3.resolve_right fun q=>z1.elim q.1;have hv:T.1 v:=k3.resolve_right fun q=>z1.elim q.1;obtain⟨N,n1,n2,n3,n4⟩:=KD (z2 u v hu hv);have hc:=hT.off;have e1:∃ N',N++[v]=u::N':=by
   cases N with
   |nil=>exact⟨[],by simp at n4;simp[n4]⟩
   |cons a N=>exact⟨N++[v],by simp at n4;simp[n4]⟩
  obtain⟨N',e1⟩:=e1;have l1:lnk (c::((N++[v])++[d]))=(c,u)::lnk ((N++[v])++[d]):=by rw[e1];rfl
  have l2:lnk ((N++[v])++[d])=lnk (N++[v])++[(v,d)]:=by rw[aAE];exact tQ N v d
  refine⟨N++[v],⟨?_,fun a b q=>?_,fun p q w=>?_,fun w q=>hF.off w (n2 w q),hF.on _ h1,hF.on _ k1⟩,n2,?_,?_,fun _=>by simp⟩
  .grind
  .rw[l1,l2]at q;rcases aAe.1 q with q|q
   .injection q with q1 q2;rw[q1,q2];exact h2
   .rcases aAd.1 q with q|q
    .exact n3 a b q
    .rw[aAi]at q;injection q with q1 q2;rw[q1,q2];exact Af k2
  .have io:∀ w,T.1 w->∀ z,(w,z)∉PF F/\(z,w)∉PF F:=fun w hw z=>⟨hF.off w hw z,fun q=>by
    obtain⟨r,hr,i⟩:=bE.1 q;obtain⟨z',hz⟩:=iM (oW i).2
    exact hF.off w hw z' (bE.2 ⟨r,hr,hz⟩)⟩
   obtain⟨a,b⟩:=p;have q1:=eU (y:=d) (l:=c::(N++[v])) q;rcases aAe.1 q1 with rfl|q1
   .rw[l1]at q;rcases aAe.1 q with q|q
    .injection q with _ q;exact(io u hu a).2 (q ▸ w)
    .rw[l2]at q;rcases aAd.1 q with q|q
     .exact hc a (n2 a (bF q).1) h1
     .rw[aAi]at q;injection q with q _;exact hc a (q ▸ hv) h1
   .exact(io a (n2 a q1) b).1 w
  .rw[l1];exact aAf
  .rw[l1,l2];simp
end
theorem Thg.dart{E:List Ed}{T:(Int->Prop)×(Int->Prop)}(hT:Thg E T)(Zy:∀ e∈E,e.a≠e.b){c:Int}(hc:T.2 c):∃ u,Dt E T c u:=by
 rcases hT.kind with⟨e,he,z1,z2⟩|⟨z1,z2,z3⟩
 .rcases(z2 c).1 hc with rfl|rfl
  .exact⟨e.b,hc,⟨e,he,rfl⟩,.inr ⟨z1,(z2 _).2 (.inr rfl)⟩⟩
  .exact⟨e.a,hc,⟨e,he,aL _ _⟩,.inr ⟨z1,(z2 _).2 (.inl rfl)⟩⟩
 .obtain⟨p,hp,k⟩:=z3 c hc;exact⟨p,hc,Af (jZ.1 k),.inl hp⟩
def In'(E:List Ed)(s:Int->Int)(A:List (Int×Int))(r:List Int)(T:(Int->Prop)×(Int->Prop)):Prop:=∀ c u,Dt E T c u->SdT s A r (cd (c,u))
section
variable {E:List Ed} {s:Int->Int} (hP:PlE E s) {A:List (Int×Int)} {F:List (List Int)} (hE:Emb E s A F) {T:(Int->Prop)×(Int->Prop)} (hT:Thg E T) (hB:By' F T)
include hP hE hT hB
theorem Emb.dart_in{r:List Int}(hr:r∈F){c u d v:Int}(h:Dt E T c u)(k:Dt E T d v)(hcd:c≠d)(hs:SdT s A r (cd (c,u))):SdT s A r (cd (d,v)):=by obtain⟨M,w1,_,w3,w4,_⟩:=hT.way hP.bl.ne hB h k hcd;exact hE.wayT hP w1 w3 w4 hr hs
theorem Emb.in_all{r:List Int}(hr:r∈F){c u:Int}(h:Dt E T c u)(hs:SdT s A r (cd (c,u))):In' E s A r T:=fun d v k=>by
 by_cases e:c=d
 .obtain⟨a,b,h1,h2,h3⟩:=hT.two;have:∃ m,T.2 m/\m≠c:=by
   by_cases q:a=c
   .exact⟨b,h2,fun q'=>h3 (q.trans q'.symm)⟩
   .exact⟨a,h1,q⟩
  obtain⟨m,m1,m2⟩:=this;obtain⟨t,ht⟩:=hT.dart hP.bl.ne m1;exact hE.dart_in hP hT hB hr ht k (e ▸ m2) (hE.dart_in hP hT hB hr h ht m2.symm hs)
 .exact hE.dart_in hP hT hB hr h k e hs
theorem Emb.in_ex:∃ r∈F,In' E s A r T:=by obtain⟨a,b,h1,h2,h3⟩:=hT.two;obtain⟨u,hu⟩:=hT.dart hP.bl.ne h1;obtain⟨v,hv⟩:=hB.on a h1;obtain⟨r,hr,k⟩:=hE.ex hP (p:=(a,u)) hu.2.1 hv;exact⟨r,hr,hE.in_all hP hT hB hr hu k⟩
theorem Emb.in_on{r:List Int}(hr:r∈F)(h:In' E s A r T){c:Int}(hc:T.2 c):c∈r:=by obtain⟨u,hu⟩:=hT.dart hP.bl.ne hc;exact hE.here hP hr (p:=(c,u)) hu.2.1 (h c u hu)
theorem Thg.legs{x y c:Int}(hx:T.2 x)(hy:T.2 y)(hc:T.2 c)(h1:x≠y)(h2:y≠c)(h3:x≠c):∃ M u t Ma z Mb N uc tz,WyE E F x y M/\Dt E T x u/\(x,u)∈lnk (x::(M++[y]))/\(t,y)∈lnk (x::(M++[y]))/\M=Ma++z::Mb/\(∀ w∈M,T.1 w)/\(∀ w∈N,T.1 w)/\
 (c::(N++[z])).Nodup/\(∀ u v,(u,v)∈lnk (c::(N++[z]))->∃ e∈E,prE e=prP u v)/\(∀ v∈N,v∉M)/\(c,uc)∈lnk (c::(N++[z]))/\(tz,z)∈lnk (c::(N++[z]))/\Dt E T c uc:=by
 obtain⟨u,hu⟩:=hT.dart hP.bl.ne hx;obtain⟨t,ht⟩:=hT.dart hP.bl.ne hy;obtain⟨uc,huc⟩:=hT.dart hP.bl.ne hc;have hi:∃ w,T.1 w:=by
  rcases hT.kind with⟨e,he,z1,z2⟩|⟨z1,_⟩
  .have:=(z2 x).1 hx;have:=(z2 y).1 hy;have:=(z2 c).1 hc;grind
  .exact z1
 obtain⟨M,w1,w2,w3,w4,w5⟩:=hT.way hP.bl.ne hB hu ht h1;have hM:=w5 hi;have z2:∀ p q,T.1 p->T.1 q->RIn E T.1 p q:=by
  rcases hT.kind with⟨e,he,z1,z2⟩|⟨_,z2,_⟩
  .exact absurd hi.choose_spec (z1 _)
  .exact z2
 obtain⟨m,M',rfl⟩:=aCU hM;have hci:T.1 uc:=huc.2.2.resolve_right fun q=>q.1 _ hi.choose_spec;obtain⟨l,n1,n2,n3,n4⟩:=KD (z2 uc m hci (w2 m aAf));obtain⟨N,z,B,e1,e2,e3⟩:=Gs (M:=m::M') (l:=l++[m]) ⟨m,sS,aAf⟩;obtain⟨Ma,Mb,e4⟩:=aBi e2;have hN:∀ w∈N,T.1 w:=fun w k=>n2 w (by rw[e1];simp[k]);have hco:=hT.off;have row:∀ a b,(a,b)∈lnk (N++[z])->∃ e∈E,prE e=prP a b:=fun a b k=>n3 a b (by rw[e1];have:=DD [] (N++[z]) B k;simpa using this);have hnd:(c::(N++[z])).Nodup:=by
  have:T.1 z:=w2 z e2
  grind
 cases N with
 |nil=>
  have hz:z=uc:=by rw[e1]at n4;simpa using n4
  subst hz;exact⟨_,u,t,Ma,z,Mb,[],z,c,w1,hu,w3,w4,e4,w2,sS,hnd,fun a b q=>by simp[lnk]at q;rw[q.1,q.2];exact huc.2.1,sS,by simp[lnk],by simp[lnk],huc⟩
 |cons n N=>
  have hn:n=uc:=by rw[e1]at n4;simpa using n4
  subst hn;obtain⟨N',t',e5⟩:∃ N' t',n::N=N'++[t']:=⟨(n::N).dropLast,(n::N).getLast sS,(aBZ _).symm⟩;refine⟨_,u,t,Ma,z,Mb,n::N,n,t',w1,hu,w3,w4,e4,w2,hN,hnd,fun a b q=>?_,e3,by simp[lnk],?_,huc⟩
  .rcases aAe.1 q with q|q
   .injection q with q1 q2;rw[q1,q2];exact huc.2.1
   .exact row a b q
  .refine Ey [c] ?_;show(t',z)∈lnk ((n::N)++[z]);rw[e5,aAE];exact List.mem_of_mem_getLast? (by rw[show N'++([t']++[z])=N'++[t',z] from rfl,tQ];simp)
end
section
variable {E:List Ed} {s:Int->Int} (hP:PlE E s) {A:List (Int×Int)} {F:List (List Int)} (hE:Emb E s A F) {T T':(Int->Prop)×(Int->Prop)} (hT:Thg E T) (hB:By' F T) (hT':Thg E T') (hB':By' F T') (ho:∀ v,T.1 v->¬T'.1 v)
include hP hE hT hB hT' hB' ho
theorem Xe{r:List Int}(hn:r.Nodup){x y p q:Int}(h:Cr r x y p q):∃ a b P Q,r=a++b/\b++a=x::(P++y::Q)/\((p∈P/\q∈Q)\/(q∈P/\p∈Q)):=by
 have h':=h.2;obtain⟨a,b,P,Q,e1,e2⟩:=EB h.1.1 h.1.2.1 (by intro e;rw[e]at h';unfold crn cyn at h';omega);refine⟨a,b,P,Q,e1,e2,?_⟩;have hd:(x::(P++y::Q)).Nodup:=by rw[<- e2];grind
 have k:Cr (x::(P++y::Q)) x y p q:=h.mono fun u v w _ _ _=>by rw[<- e2];exact(Du (e1 ▸ hn)).2 u v w |>.1 |> fun z=>by rw[e1];exact z
 have f:=@eF x y P Q [] hd sS sS;have f1:=f k.1.1;have f2:=f k.1.2.1;have f3:=f k.1.2.2.1;have f4:=f k.1.2.2.2;have k2:=k.2;unfold crn cyn at k2
 grind
theorem Emb.avo{r:List Int}(hr:r∈F)(h:In' E s A r T)(h':In' E s A r T'):Avo r T.2 T'.2:=by
 have hn:=hE.simple r hr;have dart:=fun {c} (k:T.2 c)=>hT.dart hP.bl.ne k;have dart':=fun {c} (k:T'.2 c)=>hT'.dart hP.bl.ne k;refine⟨fun a b c d ka kb kc kd q=>?_,fun a b c ka kb kc ka' kb' kc'=>?_⟩
 .have x7:a≠b:=fun e=>by have:=q.2;rw[e]at this;unfold crn cyn at this;omega
  have hcd:c≠d:=fun e=>by have:=q.2;rw[e]at this;unfold crn cyn at this;omega
  obtain⟨u,hu⟩:=dart ka;obtain⟨t,ht⟩:=dart kb;obtain⟨M,w1,w2,w3,w4,_⟩:=hT.way hP.bl.ne hB hu ht x7;obtain⟨a',b',P,Q,e1,e2,e3⟩:=Xe hP hE hT hB hT' hB' ho hn q;have fin:∀ {c d},T'.2 c->T'.2 d->c≠d->c∈P->d∈Q->False:=fun {c d} kc kd hcd hp hq=>by obtain⟨u',Y7⟩:=dart' kc;obtain⟨t',U8⟩:=dart' kd;obtain⟨N,v1,v2,v3,v4,_⟩:=hT'.way hP.bl.ne hB' Y7 U8 hcd;exact hE.no_cross hP w1 w3 w4 hr (h a u hu) e1 e2 v1 v3 v4 (h' c u' Y7) hp hq fun v k k'=>ho v (w2 v k') (v2 v k)
  rcases e3 with e3|e3
  .exact fin kc kd hcd e3.1 e3.2
  .exact fin kd kc hcd.symm e3.1 e3.2
 .by_cases h1:a=b
  .exact .inl h1
  by_cases h2:b=c
  .exact .inr (.inl h2)
  by_cases h3:a=c
  .exact .inr (.inr h3)
  exfalso;have fin:∀ x y c,T.2 x->T.2 y->T.2 c->T'.2 x->T'.2 y->T'.2 c->x≠y->y≠c->x≠c->∀ a b P Q,r=a++b->b++a=x::(P++y::Q)->c∈P->False:=by
   intro x y c kx ky kc kx' ky' kc' h1 h2 h3 a b P Q e1 e2 hcP;obtain⟨Pa,Pb,rfl⟩:=aBi hcP;obtain⟨M,u,t,Ma,z,Mb,N,uc,tz,w1,hu,w3,w4,w5,w6,w7,w8,w9,Y3,w11,w12,huc⟩:=hT.legs hP hE hB kx ky kc h1 h2 h3;have hi:∃ w,T'.1 w:=by
    rcases hT'.kind with⟨e,he,z1,z2⟩|⟨z1,_⟩
    .have:=(z2 x).1 kx';have:=(z2 y).1 ky';have:=(z2 c).1 kc';grind
    .exact z1
   obtain⟨ix,hix⟩:=dart' kx';obtain⟨iy,hiy⟩:=dart' ky';obtain⟨ic,hic⟩:=dart' kc';obtain⟨N1,v1,v2,v3,v4,v5⟩:=hT'.way hP.bl.ne hB' hix hiy h1;obtain⟨N2,x1,x2,x3,x4,x5⟩:=hT'.way hP.bl.ne hB' hiy hic h2
   exact hE.no_three hP w1 w3 w4 hr (h x u hu) e1 e2 w5 w8 w9 (fun v k=>hB.off v (w7 v k)) Y3 w11 w12 (h c uc huc) v1 x1 (v5 hi) (x5 hi)
    (fun v k=>⟨fun k'=>ho v (w6 v k') (v2 v k),fun k'=>ho v (w7 v k') (v2 v k)⟩) (fun v k=>⟨fun k'=>ho v (w6 v k') (x2 v k),fun k'=>ho v (w7 v k') (x2 v k)⟩) v3 v4 x3 x4 (h' x ix hix)
  have ra:=hE.in_on hP hT hB hr h ka;have rb:=hE.in_on hP hT hB hr h kb;have rc:=hE.in_on hP hT hB hr h kc;obtain⟨a',b',P,Q,e1,e2⟩:=EB ra rb h1;have hc:c∈P\/c∈Q:=by
   have:c∈b'++a':=by rw[aAd];rw[e1,aAd]at rc;exact rc.symm
   rw[e2]at this
   grind
  rcases hc with k|k
  .exact fin a b c ka kb kc ka' kb' kc' h1 h2 h3 a' b' P Q e1 e2 k
  .obtain⟨Qa,Qb,rfl⟩:=aBi k;refine fin a c b ka kc kb ka' kc' kb' h3 (aCv h2) h1 a' b' (P++b::Qa) Qb e1 (by rw[e2];simp) sS
end
theorem Rt.rev{l m:List Int}(h:Rt l m):Rt l.reverse m.reverse:=by obtain⟨a,b,rfl,rfl⟩:=h;exact⟨b.reverse,a.reverse,sS,sS⟩
theorem FB(r:List Int)(u v:Int):(u,v)∈prs r.reverse↔(v,u)∈prs r:=by
 cases r with
 |nil=>simp[prs,lnk]
 |cons x l=>
  have h1:(prs (x::l).reverse).Perm (prs (x::l.reverse)):=by rw[aCL];exact qV l.reverse [x]
  have h2:prs (x::l.reverse)=lnk (x::(l++[x])).reverse:=by unfold prs;simp
  rw[h1.mem_iff,h2,<- oM];unfold prs;simp
structure Kr(E:List Ed)(T:(Int->Prop)×(Int->Prop))(r:List Int):Prop where
 nd:r.Nodup
 len:3<=r.length
 ed:∀ u v,(u,v)∈prs r->∃ e∈E,prE e=prP u v
 off:∀ v∈r,¬T.1 v
 on:∀ v,T.2 v->v∈r
 new:(∀ v,¬T.1 v)->∀ a b,T.2 a->T.2 b->(a,b)∉prs r
theorem Kr.rt{E:List Ed}{T:(Int->Prop)×(Int->Prop)}{r r':List Int}(h:Kr E T r)(k:Rt r r'):Kr E T r':=by obtain⟨a,b,rfl,rfl⟩:=k;have hp:∀ p,p∈prs (b++a)↔p∈prs (a++b):=fun p=>(qV b a).mem_iff;obtain⟨h1,h2,h3,h4,h5,h6⟩:=h;exact⟨by grind,by grind,fun u v=>by rw[hp];exact h3 u v,by grind,by grind,fun q c d=>by rw[hp];exact h6 q c d⟩
theorem Kr.rev{E:List Ed}{T:(Int->Prop)×(Int->Prop)}{r:List Int}(h:Kr E T r):Kr E T r.reverse:=by obtain⟨h1,h2,h3,h4,h5,h6⟩:=h;exact⟨(aBo r).nodup_iff.2 h1,by simpa using h2,fun u v k=>Af (h3 v u ((FB r u v).1 k)),by simpa using h4,by simpa using h5,fun q c d i j k=>h6 q d c j i ((FB r c d).1 k)⟩
theorem Avo.rt{r r':List Int}{C D:Int->Prop}(hn:r.Nodup)(h:Avo r C D)(k:Rt r r'):Avo r' C D:=by obtain⟨a,b,rfl,rfl⟩:=k;exact h.rot hn
theorem jE{r:List Int}{p:Int×Int}:p∈PF [r,r.reverse]↔p∈prs r\/p.swap∈prs r:=by rw[show PF [r,r.reverse]=prs r++prs r.reverse by simp[PF],aAd];exact or_congr aEh (FB r p.1 p.2)
section
variable {E:List Ed} {s:Int->Int} (hP:PlE E s) {T:(Int->Prop)×(Int->Prop)}
include hP
theorem Kr.emb{r:List Int}(h:Kr E T r):Emb E s (prs r) [r,r.reverse]:=by
 obtain⟨h1,h2,h3,h4,h5,h6⟩:=h
 match r,h2 with
 |x::y::l,h2=>
  obtain⟨N,z,e⟩:∃ N z,y::l=N++[z]:=⟨_,_,(aBZ (List.cons_ne_nil y l)).symm⟩;rw[e]at h1 h2 h3 ⊢;have hR:Rng E x z N:=⟨h1,by intro e;rw[e]at h2;simp at h2,h3⟩;have:=hR.emb hP
  rwa [show(x::(N++[z])).reverse=z::(N.reverse++[x]) by simp]
omit hP in
theorem Kr.by'{r:List Int}(h:Kr E T r):By' [r,r.reverse] T:=by
 refine⟨fun c hc=>?_,fun v hv u k=>?_,fun q a b ka kb k=>?_⟩
 .obtain⟨u,hu⟩:=iM (h.on c hc);exact⟨u,jE.2 (.inl hu)⟩
 .rcases jE.1 k with k|k
  .exact h.off v (oW k).1 hv
  .exact h.off v (oW (x:=u) (y:=v) k).2 hv
 .rcases jE.1 k with k|k
  .exact h.new q a b ka kb k
  .exact h.new q b a kb ka k
theorem Emb.kr{A:List (Int×Int)}{F:List (List Int)}(hE:Emb E s A F)(hT:Thg E T)(hB:By' F T){r:List Int}(hr:r∈F)(h:In' E s A r T)(hl:3<=r.length):Kr E T r:=
 ⟨hE.simple r hr,hl,fun u v k=>hE.sub (bE.2 ⟨r,hr,k⟩),fun v hv k=>by obtain⟨u,hu⟩:=iM hv;exact hB.off v k u (bE.2 ⟨r,hr,hu⟩),fun v k=>hE.in_on hP hT hB hr h k,fun q a b ka kb k=>hB.new q a b ka kb (bE.2 ⟨r,hr,k⟩)⟩
theorem pieces(hT:Thg E T){r:List Int}(hk:Kr E T r){x y:Int}{P Q M:List Int}(hrt:Rt r (x::(P++y::Q)))(hx:T.2 x)(hy:T.2 y)(hn:(x::(M++[y])).Nodup)(hed:∀ u v,(u,v)∈lnk (x::(M++[y]))->∃ e∈E,prE e=prP u v)(hM:∀ v∈M,T.1 v)(hM0:M=[]->∀ v,¬T.1 v)
 {Pc:(Int->Prop)×(Int->Prop)->Prop} (hp:∀ S,Pc S->Thg E S/\(∀ v,S.1 v->T.1 v/\v∉M)/\(∀ v,S.2 v->v∈M\/T.2 v)/\((∀ v,¬S.1 v)->(∃ v,S.2 v/\v∈M)/\∀ a b,S.2 a->S.2 b->(a,b)∉lnk (x::(M++[y])))) (hd:∀ S S',Pc S->Pc S'->S≠S'->∀ v,S.1 v->¬S'.1 v):
 ∃ side:(Int->Prop)×(Int->Prop)->Bool,∀ S,Pc S->Kr E S (if side S then x::(P++y::M.reverse)else y::(Q++x::M))/\∀ S',Pc S'->S≠S'->side S=side S'->Avo (if side S then x::(P++y::M.reverse)else y::(Q++x::M)) S.2 S'.2:=by
 have hE:=hk.emb hP;have hB:=hk.by';have Zy:=hP.bl.ne;obtain⟨q,hq,c8⟩:=hE.in_ex hP hT hB;have D4:x≠y:=by grind
 obtain⟨u,hu⟩:∃ u,(x,u)∈lnk (x::(M++[y])):=by cases M with|nil=>exact⟨y,by simp[lnk]⟩|cons m M=>exact⟨m,by simp[lnk]⟩
 obtain⟨t,ht⟩:∃ t,(t,y)∈lnk (x::(M++[y])):=by obtain⟨N,t,e⟩:∃ N t,x::M=N++[t]:=⟨_,_,(aBZ (List.cons_ne_nil x M)).symm⟩;exact⟨t,by rw[<- List.cons_append,e,aAE,show [t]++[y]=[t,y] from rfl,tQ];simp⟩
 have Y9:∀ v∈M,∀ w,(v,w)∉PF [r,r.reverse]:=fun v k=>hB.off v (hM v k);have hw:WyE E [r,r.reverse] x y M:=by
  refine⟨hn,hed,fun p hp k=>?_,Y9,hB.on x hx,hB.on y hy⟩;obtain⟨a,b⟩:=p;have h1:=eU (y:=y) (l:=x::M) hp;rcases aAe.1 h1 with rfl|h1
  .have h2:=iW hp;rcases aAd.1 h2 with h2|h2
   .exact Y9 b h2 a (jE.2 ((jE.1 k).symm.imp id id))
   .rw[aAi]at h2;subst h2;cases M with
    |nil=>exact hB.new (hM0 rfl) _ _ hx hy k
    |cons m M=>
     have:(a,m)∈lnk (a::(m::M++[b])):=by simp[lnk]
     have:=fH hn hp this
     grind
  .exact Y9 a h1 b k
 have hdu:Dt E T x u:=by
  refine⟨hx,hed x u hu,?_⟩;have h2:=iW hu;rcases aAd.1 h2 with h2|h2
  .exact .inl (hM u h2)
  .rw[aAi]at h2;subst h2;cases M with
   |nil=>exact .inr ⟨hM0 rfl,hy⟩
   |cons m M=>
    have:(x,m)∈lnk (x::(m::M++[u])):=by simp[lnk]
    have:=fH hn hu this
    grind
 obtain⟨P2,Q2,F',hL⟩:=hE.layAt hP hw hu ht hq (c8 x u hdu);have hF':∀ z∈F',z=r\/z=r.reverse:=fun z k=>by have:=hL.perm.mem_iff.2 (aAc _ k);simpa using this
 have mr:∀ v,(∃ w,(v,w)∈PF [r,r.reverse])->v∉M:=fun v ⟨w,k⟩ q=>Y9 v q w k;have onr:∀ v,(v=x\/v=y\/T.2 v)->∃ w,(v,w)∈PF [r,r.reverse]:=fun v k=>hB.on v (by grind);have P5:∀ S,Pc S->By' ((x::(P2++y::M.reverse))::(y::(Q2++x::M))::F') S:=fun S k=>by
  obtain⟨k1,k2,k3,k4⟩:=hp S k;refine⟨fun c hc=>?_,fun v hv w i=>?_,fun z a b ka kb i=>?_⟩
  .rcases k3 c hc with h|h
   .obtain⟨w,i⟩:=iM (r:=x::(P2++y::M.reverse)) (v:=c) (sF1 h);exact⟨w,bE.2 ⟨_,aAf,i⟩⟩
   .obtain⟨w,i⟩:=hB.on c h;exact⟨w,(hL.mem _).2 (.inl i)⟩
  .obtain⟨v1,v2⟩:=k2 v hv;have vw:v∉x::(M++[y]):=fun i=>by
    have:=hT.off v v1
    grind
   rcases(hL.mem _).1 i with i|i|i
   .exact hB.off v v1 w i
   .exact vw (bF i).1
   .exact vw (bF (x:=w) (y:=v) i).2
  .obtain⟨⟨m,m1,m2⟩,k5⟩:=k4 z;rcases(hL.mem _).1 i with i|i|i
   .have ha:=mr a ⟨b,i⟩;have hb':=mr b ⟨a,jE.2 ((jE.1 i).symm.imp id id)⟩;obtain⟨e,he,eq⟩:=hE.sub i;have:=Zy e he;have:=bK (u:=e.a) (v:=e.b) (x:=a) (y:=b) eq;rcases k1.kind with⟨f,hf,_,z2⟩|⟨⟨v,z1⟩,_⟩
    .have:=(z2 m).1 m1;have:=(z2 a).1 ka;have:=(z2 b).1 kb
     grind
    .exact z v z1
   .exact k5 a b ka kb i
   .exact k5 b a kb ka i
 have hring:∀ S,Pc S->∃ c:Bool,In' E s (lnk (x::(M++[y]))++prs r) (if c then x::(P2++y::M.reverse)else y::(Q2++x::M)) S:=fun S k=>by
  obtain⟨k1,k2,k3,k4⟩:=hp S k;obtain⟨z,hz,hi⟩:=hL.emb.in_ex hP k1 (P5 S k);have:z∉F':=fun hzF=>by
   by_cases c:∃ v,S.2 v/\v∈M
   .obtain⟨v,v1,v2⟩:=c;have:=hL.emb.in_on hP k1 (P5 S k) hz hi v1;have:v∈r:=by rcases hF' z hzF with e|e<;>rw[e]at this<;>simpa using this
    obtain⟨w,i⟩:=iM this;exact Y9 v v2 w (jE.2 (.inl i))
   .obtain⟨a,_,ha,_⟩:=k1.two;have hTa:=(k3 a ha).resolve_left fun i=>c ⟨a,ha,i⟩;obtain⟨w,hw⟩:=k1.dart Zy ha;have K3:S.1 w:=hw.2.2.resolve_right fun i=>c (k4 i.1).1;obtain⟨v0,hv0⟩:=hB.on a hTa;have hs:=hL.side (a,w) hw.2.1 v0 hv0 (c8 a w ⟨hTa,hw.2.1,.inl (k2 w K3).1⟩);have hz2:=hi a w hw;rcases hs with hs|hs
    .have:=hL.emb.fn hP hz aAf hz2 hs;have hnd:=hL.emb.nd;obtain⟨i,D8⟩:=iM (r:=z) (v:=x) (by rw[this];simp);have hpf:(prs (x::(P2++y::M.reverse))++(prs (y::(Q2++x::M))++PF F')).Nodup:=hnd;exact(aAo.1 hpf).2.2 _ (this ▸ D8) _ (aAx _ (bE.2 ⟨z,hzF,D8⟩)) rfl
    .have:=hL.emb.fn hP hz (aAc _ aAf) hz2 hs;have hnd:=hL.emb.nd;obtain⟨i,D8⟩:=iM (r:=z) (v:=x) (by rw[this];simp);have hpf:(prs (x::(P2++y::M.reverse))++(prs (y::(Q2++x::M))++PF F')).Nodup:=hnd;exact(aAo.1 (aAo.1 hpf).2.1).2.2 _ (this ▸ D8) _ (bE.2 ⟨z,hzF,D8⟩) rfl
  rcases aAe.1 hz with e|hz
  .exact⟨true,e ▸ hi⟩
  .rcases aAe.1 hz with e|hz
   .exact⟨false,e ▸ hi⟩
   .exact absurd hz this
 obtain⟨c,hc⟩:∃ c:(Int->Prop)×(Int->Prop)->Bool,∀ S,Pc S->In' E s (lnk (x::(M++[y]))++prs r) (if c S then x::(P2++y::M.reverse)else y::(Q2++x::M)) S:=
  ⟨fun S=>open Classical in if h:Pc S then(hring S h).choose else true,fun S k=>by simp only[dif_pos k];exact(hring S k).choose_spec⟩
 have hrq:Rt q (x::(P2++y::Q2)):=by obtain⟨a,b,e1,e2⟩:=hL.rot;exact⟨a,b,e1,e2.symm⟩
 have S7:q.Nodup:=hE.simple q hq;have hin':∀ b:Bool,(if b then x::(P2++y::M.reverse)else y::(Q2++x::M))∈(x::(P2++y::M.reverse))::(y::(Q2++x::M))::F':=fun b=>by cases b<;>simp
 have hlen:∀ b:Bool,3<=(if b then x::(P2++y::M.reverse)else y::(Q2++x::M)).length:=fun b=>by
  have X3:M=[]->∀ i,i=(x,y)\/i=(y,x)->i∉prs q:=fun e i hi k=>by
   have k:=bE.2 ⟨q,hq,k⟩;rcases hi with rfl|rfl
   .exact hB.new (hM0 e) _ _ hx hy k
   .exact hB.new (hM0 e) _ _ hy hx k
  have hpq:∀ i,i∈prs (x::(P2++y::Q2))->i∈prs q:=fun i k=>by obtain⟨a,b,e1,e2⟩:=hrq;rw[e1,(qV a b).mem_iff,<- e2];exact k
  cases hm:M with
  |cons m M=>cases b<;>simp<;>omega
  |nil=>
   cases b with
   |true=>
    cases R6:P2 with
    |cons m M=>simp
    |nil=>exact absurd (hpq _ (by rw[R6,cB];left;simp[lnk])) (X3 hm _ (.inl rfl))
   |false=>
    cases R6:Q2 with
    |cons m M=>simp
    |nil=>exact absurd (hpq _ (by rw[R6,cB];right;simp[lnk])) (X3 hm _ (.inr rfl))
 have kr:∀ S,Pc S->Kr E S (if c S then x::(P2++y::M.reverse)else y::(Q2++x::M)):=fun S k=>hL.emb.kr hP (hp S k).1 (P5 S k) (hin' _) (hc S k) (hlen _)
 have av:∀ S S',Pc S->Pc S'->S≠S'->c S=c S'->Avo (if c S then x::(P2++y::M.reverse)else y::(Q2++x::M)) S.2 S'.2:=fun S S' k k' Zy he=>
  hL.emb.avo hP (hp S k).1 (P5 S k) (hp S' k').1 (P5 S' k') (hd S S' k k' Zy) (hin' _) (hc S k) (by rw[he];exact hc S' k')
 have uniq:∀ {P' Q':List Int},Rt q (x::(P'++y::Q'))->P2=P'/\Q2=Q':=fun {P' Q'} h=>by obtain⟨a,b,e1,e2⟩:=hrq;obtain⟨a',b',f1,f2⟩:=h;exact Eo (by rw[<- f1];exact S7) (f1.symm.trans e1) f2.symm e2.symm
 have K1:q=r\/q=r.reverse:=by simpa using hq
 rcases K1 with e|e
 .obtain⟨rfl,rfl⟩:=uniq (e ▸ hrt);exact⟨c,fun S k=>⟨kr S k,fun S' k'=>av S S' k k'⟩⟩
 .have h1:Rt (x::(P++y::Q)).reverse (x::(Q.reverse++y::P.reverse)):=⟨Q.reverse++y::P.reverse,[x],sS,sS⟩;obtain⟨rfl,rfl⟩:=uniq (e ▸ hrt.rev.trans h1);have t1:Rt (x::(Q.reverse++y::M.reverse)).reverse (y::(Q++x::M)):=⟨M,y::Q++[x],sS,sS⟩;have t2:Rt (y::(P.reverse++x::M)).reverse (x::(P++y::M.reverse)):=⟨M.reverse,x::P++[y],sS,sS⟩;refine⟨fun S=>!c S,fun S k=>?_⟩;have k1:=kr S k;have k2:=av S;cases hcS:c S with
  |true=>simp only[hcS,aBq]at k1 k2;simp only[hcS,Bool.not_true,aBa,aBN];exact⟨k1.rev.rt t1,fun S' k' Zy he=>((k2 S' k k' Zy (by simpa[hcS]using he)).rev k1.nd).rt k1.rev.nd t1⟩
  |false=>simp only[hcS,aBa,aBN]at k1 k2;simp only[hcS,Bool.not_false,aBq];exact⟨k1.rev.rt t2,fun S' k' Zy he=>((k2 S' k k' Zy (by simpa[hcS]using he)).rev k1.nd).rt k1.rev.nd t2⟩
end
def tb(b:Brg):(Int->Prop)×(Int->Prop):=(fun v=>v∈b.inner,fun v=>v∈b.ends)
def St'(E:List Ed)(h:Sh)(T:(Int->Prop)×(Int->Prop)):Prop:=∃ b,Brd E h.L h.on b/\T=tb b
theorem Vc{b c:Brg}(h1:∀ v,v∈b.inner↔v∈c.inner)(h2:∀ v,v∈b.ends↔v∈c.ends):tb b=tb c:=by unfold tb;rw[aAW];exact⟨funext fun v=>propext (h1 v),funext fun v=>propext (h2 v)⟩
theorem tY{E:List Ed}{L:List (Int×Int)}{on:List Int}{b c:Brg}(hb:Brd E L on b)(hc:Brd E L on c){v:Int}(k1:v∈b.inner)(k2:v∈c.inner):(∀ u,u∈b.inner->u∈c.inner)/\∀ u,u∈b.ends->u∈c.ends:=by
 rcases hb.kind with⟨h0,_⟩|⟨_,b1,b2,b3,b4⟩
 .rw[h0]at k1;simp at k1
 rcases hc.kind with⟨h0,_⟩|⟨_,c1,c2,c3,c4⟩
 .rw[h0]at k2;simp at k2
 have hi:∀ u,u∈b.inner->u∈c.inner:=fun u hu=>(b2 v k1 u hu).closed (L:=fun z=>z∈c.inner) k2 fun z hz w hw hwb=>(c3 z hz w hw).resolve_right fun q=>(b1 w hwb).2 (hc.en w q).1;refine⟨hi,fun u hu=>?_⟩;obtain⟨p,hp,q⟩:=b4 u hu;exact(c3 p (hi p hp) u q).resolve_left fun i=>(c1 u i).2 (hb.en u hu).1
theorem Ws{E:List Ed}{L:List (Int×Int)}{on:List Int}{b c:Brg}(hb:Brd E L on b)(hc:Brd E L on c){v:Int}(k1:v∈b.inner)(k2:v∈c.inner):tb b=tb c:=
 Vc (fun u=>⟨(tY hb hc k1 k2).1 u,(tY hc hb k2 k1).1 u⟩) fun u=>⟨(tY hb hc k1 k2).2 u,(tY hc hb k2 k1).2 u⟩
theorem Ph{E:List Ed}{h:Sh}{T T':(Int->Prop)×(Int->Prop)}(k:St' E h T)(k':St' E h T')(Zy:T≠T'):∀ v,T.1 v->¬T'.1 v:=fun v a b=>by obtain⟨c,hc,rfl⟩:=k;obtain⟨d,hd,rfl⟩:=k';exact Zy (Ws hc hd a b)
def Tch(T:(Int->Prop)×(Int->Prop))(e:Ed):Prop:=T.1 e.a\/T.1 e.b\/((∀ v,¬T.1 v)/\T.2 e.a/\T.2 e.b)
def Kq(E:List Ed)(T:(Int->Prop)×(Int->Prop))(r:List Int):Prop:=∃ E1 s,PlE E1 s/\Kr E1 T r/\(∀ e∈E1,∃ f∈E,prE f=prE e)/\∀ e∈E,Tch T e->∃ f∈E1,prE f=prE e
theorem Kq.rev{E:List Ed}{T:(Int->Prop)×(Int->Prop)}{r:List Int}(h:Kq E T r):Kq E T r.reverse/\r.Nodup:=by obtain⟨E1,s,h1,h2,h3,h4⟩:=h;exact⟨⟨E1,s,h1,h2.rev,h3,h4⟩,h2.nd⟩
theorem Thg.by{E E1:List Ed}{T:(Int->Prop)×(Int->Prop)}(h:Thg E T)(h4:∀ e∈E,Tch T e->∃ f∈E1,prE f=prE e):Thg E1 T:=by
 have nb:∀ p q,(T.1 p\/T.1 q)->q∈nbr E p->q∈nbr E1 p:=fun p q hp hn=>by
  obtain⟨e,he,k⟩:=jZ.1 hn
  obtain⟨f,hf,k'⟩:=h4 e he (by
   unfold Tch
   rcases bK k with⟨k1,k2⟩|⟨k1,k2⟩<;>rw[k1,k2]<;>grind)
  exact jZ.2 ⟨f,hf,k'.trans k⟩
 refine⟨?_,h.off,h.two⟩;rcases h.kind with⟨e,he,k1,k2⟩|⟨k1,k2,k3⟩
 .obtain⟨f,hf,k⟩:=h4 e he (.inr (.inr ⟨k1,(k2 _).2 (.inl rfl),(k2 _).2 (.inr rfl)⟩));refine .inl ⟨f,hf,k1,fun v=>(k2 v).trans ?_⟩;rcases bK (u:=f.a) (v:=f.b) (x:=e.a) (y:=e.b) k with⟨i,j⟩|⟨i,j⟩<;>rw[i,j];exact Or.comm
 .refine .inr ⟨k1,fun p q hp hq=>?_,fun c hc=>?_⟩
  .have:=k2 p q hp hq;induction this with
   |refl h=>exact .refl h
   |step h hz hs ih=>exact .step (ih h.here.2) (nb _ _ (.inl h.here.2) hz) hs
  .obtain⟨p,hp,k⟩:=k3 c hc;exact⟨p,hp,nb p c (.inl hp) k⟩
structure Exd(E:List Ed)(h:Sh):Prop where
 drn:Drn E h
 rgs:Rgs h.F
 al:∃ α,Al h.F (St' E h) (fun T=>T.2) (Kq E) α
section
variable {E:List Ed} (hT:Tc E)
include hT
theorem zM{h:Sh}(hD:Drn E h){b:Brg}(hb:Brd E h.L h.on b):Thg E (tb b):=by
 refine⟨?_,fun v h1 h2=>?_,Gx hT hD hb⟩
 .rcases hb.kind with⟨h0,e,he,_,h1⟩|⟨h0,h1,h2,h3,h4⟩
  .exact .inl ⟨e,he,fun v=>by simp[tb,h0],fun v=>by simp[tb,h1]⟩
  .exact .inr ⟨aAS _ h0,fun p q hp hq=>h2 p hp q hq,h4⟩
 .rcases hb.kind with⟨h0,_⟩|⟨h0,h3,_⟩
  .have h1:v∈b.inner:=h1;rw[h0]at h1;simp at h1
  .exact(h3 v h1).2 (hb.en v h2).1
theorem Exd.lay{h:Sh}(hD:Drn E h)(hR:Rgs h.F){α:(Int->Prop)×(Int->Prop)->Nat}(T9:Al h.F (St' E h) (fun T=>T.2) (Kq E) α){b:Brg}(hb:Brd E h.L h.on b){w:List Int}(w2:w.Nodup)(w3:2<=w.length)(w6:w.getD 0 0∈b.ends)(w7:w.getD (w.length-1) 0∈b.ends)(w8:∀ v∈dA w,v∉h.on)
 (w9:∀ x y,(x,y)∈lnk w->prP x y∉h.L/\∃ e∈E,prE e=prP x y) (Y3:∀ v∈dA w,v∈b.inner) (w11:b.inner≠[]->dA w≠[]):Exd E (gJ h w (α (tb b))):=by
 have hlive:St' E h (tb b):=⟨b,hb,rfl⟩;have hk:=T9.lt _ hlive;have hon:=T9.on _ hlive;generalize hkk:α (tb b)=k at *;have hD':=hD.lay hk w3 w2 (hon _ w6) (hon _ w7) w8 w9;have ew:=mF w3;have hL:(gJ h w k).L=h.L++iB w:=by
  have:(gJ h w k).L=jV h.L w:=rfl;rw[this];exact kI _ _ (fG w2) fun p X7=>by rw[eC]at X7;obtain⟨q,hq,rfl⟩:=aAj.1 X7;exact(w9 q.1 q.2 hq).1
 have hOn:(gJ h w k).on=h.on++w:=rfl;have Zy:w.getD 0 0≠w.getD (w.length-1) 0:=fun e=>by rw[ew,e]at w2;exact(aAq.1 w2).1 sS
 have i1:=aAR (hon _ w6);have i2:=aAR (hon _ w7);have g1:(h.F.getD k []).getD ((h.F.getD k []).idxOf (w.getD 0 0)) 0=w.getD 0 0:=by rw[aAg (l:=h.F.getD k []),aAh i1,Option.getD_some,aBA]
 have g2:(h.F.getD k []).getD ((h.F.getD k []).idxOf (w.getD (w.length-1) 0)) 0=w.getD (w.length-1) 0:=by rw[aAg (l:=h.F.getD k []),aAh i2,Option.getD_some,aBA]
 obtain⟨A,B,q1,q2,_,q4⟩:=pE (fun e=>Zy (by rw[<- g1,e,g2])) i1 i2;rw[g1,g2]at q1 q2 q4;have hF:(gJ h w k).F=h.F.set k (w.getD 0 0::(A++w.getD (w.length-1) 0::(dA w).reverse))++[w.getD (w.length-1) 0::(B++w.getD 0 0::dA w)]:=by show h.F.set k (iS (h.F.getD k []) ((h.F.getD k []).idxOf (w.getD 0 0)) ((h.F.getD k []).idxOf (w.getD (w.length-1) 0))++(dA w).reverse)++[iS (h.F.getD k []) ((h.F.getD k []).idxOf (w.getD (w.length-1) 0)) ((h.F.getD k []).idxOf (w.getD 0 0))++dA w]=_;rw[q1,q2];simp
 have hgen:∃ x y M,x=w.getD 0 0/\y=w.getD (w.length-1) 0/\M=dA w:=⟨_,_,_,rfl,rfl,rfl⟩;obtain⟨x,y,M,ex,ey,eM⟩:=hgen;rw[<- ex,<- ey]at Zy q4;rw[<- ex,<- ey,<- eM]at hF ew;rw[<- ex]at w6;rw[<- ey]at w7;rw[<- eM]at w8 Y3 w11;have hdn:(h.F.getD k []).Nodup:=hR.nd k hk;have G3:Sc (h.F.getD k []) (x::(A++y::B)):=by obtain⟨c,d,e1,e2⟩:=q4;rw[e1,e2];exact Du (e1 ▸ hdn)
 have F7:(x::(A++y::B)).Nodup:=by obtain⟨c,d,e1,e2⟩:=q4;rw[e2];rw[e1]at hdn;exact(aBp (l₁:=c) (l₂:=d)).nodup_iff.1 hdn
 have hMn:M.Nodup:=by rw[ew]at w2;exact(aAo.1 (aAq.1 w2).2).1
 have hMF:∀ i,i<h.F.length->∀ v∈M,v∉h.F.getD i []:=fun i hi v hv q=>w8 v hv (hD.ring_on (by rw[aAg,aAh hi];exact aAz _) q);have onx:x∈h.on:=(hb.en x w6).1;have ony:y∈h.on:=(hb.en y w7).1;have hwm:∀ v,v∈w↔v=x\/v∈M\/v=y:=fun v=>by rw[ew];simp
 have hwP:∀ u v,prP u v∈iB w↔(u,v)∈lnk w\/(v,u)∈lnk w:=fun u v=>by
  rw[eC,aAj];constructor
  .rintro⟨q,hq,e⟩;rcases bK e with⟨e1,e2⟩|⟨e1,e2⟩
   .left;rw[<- e1,<- e2];exact hq
   .right;rw[<- e1,<- e2];exact hq
  .rintro(q|q)
   .exact⟨_,q,rfl⟩
   .exact⟨_,q,aL _ _⟩
 have o8:∀ p,p∈b.inner->∀ q∈nbr E p,q∈b.inner\/q∈b.ends:=fun p hp q hq=>by
  rcases hb.kind with⟨h0,_⟩|⟨_,_,_,h3,_⟩
  .rw[h0]at hp;simp at hp
  .exact h3 p hp q hq
 have c8:∀ p,p∈b.inner->p∉h.on:=fun p hp=>by
  rcases hb.kind with⟨h0,_⟩|⟨_,h1,_⟩
  .rw[h0]at hp;simp at hp
  .exact(h1 p hp).2
 have hM0:M=[]->∀ v,¬(tb b).1 v:=fun e v hv=>w11 (aBB hv) e;have piece:∀ S,St' E (gJ h w k) S->¬St' E h S->(∀ v,S.1 v->(tb b).1 v/\v∉M)/\(∀ v,S.2 v->v∈M\/(tb b).2 v)/\((∀ v,¬S.1 v)->(∃ v,S.2 v/\v∈M)/\∀ a b,S.2 a->S.2 b->(a,b)∉lnk (x::(M++[y]))):=by
  rintro S ⟨c,hc,rfl⟩ x9;have P7:=hc.en;rw[hOn]at P7;have onM:∀ v,v∈h.on++w->v∉M->v∈h.on:=fun v hv hvM=>by
   rcases aAd.1 hv with i|i
   .exact i
   .rcases(hwm v).1 i with rfl|i|rfl
    .exact onx
    .exact absurd i hvM
    .exact ony
  rcases hc.kind with⟨h0,e,he,h1,h2⟩|⟨h0,h1,h2,h3,h4⟩
  .rw[hL]at h1;have Y8:∀ v,(tb c).2 v↔v=e.a\/v=e.b:=fun v=>by simp[tb,h2]
   have hemp:∀ v,¬(tb c).1 v:=fun v=>by simp[tb,h0]
   have hex:e.a∈M\/e.b∈M:=aAI fun q=>x9 ⟨c,⟨fun v hv=>⟨onM v (P7 v hv).1 fun i=>q (by have:=(Y8 v).1 hv;grind),(P7 v hv).2⟩,.inl ⟨h0,e,he,fun i=>h1 (aAr _ i),h2⟩⟩,rfl⟩;have oth:∀ v v',v'∈nbr E v->v'∈c.ends->v∈M->v'∈M\/v'∈b.ends:=fun v v' hn W6 i=>by
    rcases o8 v (Y3 v i) v' hn with k|k
    .exact .inl (aAI fun q=>c8 v' k (onM v' (P7 v' W6).1 q))
    .exact .inr k
   have n1:e.b∈nbr E e.a:=jZ.2 ⟨e,he,rfl⟩;have n2:e.a∈nbr E e.b:=jZ.2 ⟨e,he,aL _ _⟩;have o1:=oth e.a e.b n1 (by rw[h2];simp);have o2:=oth e.b e.a n2 (by rw[h2];simp);refine⟨fun v hv=>absurd hv (hemp v),fun v hv=>?_,fun _=>⟨?_,fun a' b' ha hb' hl=>?_⟩⟩
   .show v∈M\/v∈b.ends;have:=(Y8 v).1 hv
    grind
   .rcases hex with q|q
    .exact⟨_,(Y8 _).2 (.inl rfl),q⟩
    .exact⟨_,(Y8 _).2 (.inr rfl),q⟩
   .rw[<- ew]at hl;have x7:=((dF w2).2 a' b' hl).1;refine h1 (aAx _ ?_);have e1:=(Y8 a').1 ha;have e2:=(Y8 b').1 hb';have:prE e=prP a' b':=by
     show prP e.a e.b=_;rcases e1 with rfl|rfl<;>rcases e2 with rfl|rfl
     .exact absurd rfl x7
     .rfl
     .exact aL _ _
     .exact absurd rfl x7
    rw[this];exact(hwP a' b').2 (.inl hl)
  .rw[hOn]at h1;by_cases hx:∃ p∈c.inner,p∈b.inner
   .obtain⟨p,p1,p2⟩:=hx;have D5:∀ v,v∈c.inner->v∈b.inner:=fun v hv=>(h2 p p1 v hv).closed (L:=fun z=>z∈b.inner) p2 fun z hz q hq hqc=>(o8 z hz q hq).resolve_right fun i=>(h1 q hqc).2 (aAr _ (hb.en q i).1);refine⟨fun v hv=>⟨D5 v hv,fun i=>(h1 v hv).2 (aAx _ ((hwm v).2 (.inr (.inl i))))⟩,fun v hv=>?_,fun q=>absurd p1 (q p)⟩;obtain⟨u,hu,hn⟩:=h4 v hv;rcases o8 u (D5 u hu) v hn with i|i
    .exact .inl (aAI fun q=>c8 v i (onM v (P7 v hv).1 q))
    .exact .inr i
   .refine absurd ⟨c,⟨fun v hv=>⟨onM v (P7 v hv).1 fun i=>?_,(P7 v hv).2⟩,.inr ⟨h0,fun v hv=>⟨(h1 v hv).1,fun i=>(h1 v hv).2 (aAr _ i)⟩,h2,h3,h4⟩⟩,rfl⟩ x9;obtain⟨u,hu,hn⟩:=h4 v hv;rcases o8 v (Y3 v i) u (mK hn)with j|j
    .exact hx ⟨u,hu,j⟩
    .exact(h1 u hu).2 (aAr _ (hb.en u j).1)
 have other:∀ S,St' E (gJ h w k) S->S≠tb b:=by
  rintro S ⟨c,hc,rfl⟩ e;have ei:∀ v,v∈c.inner↔v∈b.inner:=fun v=>iff_of_eq (congrFun (congrArg Prod.fst e) v);have ee:∀ v,v∈c.ends↔v∈b.ends:=fun v=>iff_of_eq (congrFun (congrArg Prod.snd e) v);rcases hc.kind with⟨h0,f,hf,h1,h2⟩|⟨h0,h1,_⟩
  .have hM:M=[]:=by
    cases hm:M with
    |nil=>rfl
    |cons m M'=>have:=(ei m).2 (Y3 m (by rw[hm];simp));rw[h0]at this;simp at this
   rw[hL]at h1;have kx:=(ee x).2 w6;have ky:=(ee y).2 w7;rw[h2]at kx ky;have D4:(x,y)∈lnk w:=by rw[ew,hM];simp[lnk]
   refine h1 (aAx _ ?_);have:prE f=prP x y:=by
    show prP f.a f.b=_;simp at kx ky;rcases kx with e1|e1<;>rcases ky with e2|e2
    .exact absurd (e1.trans e2.symm) Zy
    .rw[e1,e2]
    .rw[e1,e2];exact aL _ _
    .exact absurd (e1.trans e2.symm) Zy
   rw[this];exact(hwP x y).2 (.inl D4)
  .obtain⟨p,hp⟩:=aAS _ h0;obtain⟨m,hm⟩:=aAS _ (w11 (aBB ((ei p).1 hp)));exact(h1 m ((ei m).2 (Y3 m hm))).2 (by rw[hOn];exact aAx _ ((hwm m).2 (.inr (.inl hm))))
 obtain⟨U6,hα'⟩:=T9.lay (fun T r q=>q.rev) hlive hkk G3 F7 hMn hMF w6 w7 (fun r q=>by
  obtain⟨_,_,_,q,_⟩:=q
  exact⟨fun v hv i=>q.off v i (Y3 v hv),q.on⟩) (live':=St' E (gJ h w k)) (pc:=fun S=>St' E (gJ h w k) S/\¬St' E h S)
  (fun S hS=>by by_cases q:St' E h S;exact .inl ⟨q,other S hS⟩;exact .inr ⟨⟨hS,q⟩,q⟩)
  (fun c d P' Q' hk e=>by
    obtain⟨E1,s,hP,hk,h3,h4⟩:=hk;have up:∀ S,St' E (gJ h w k) S->¬St' E h S->∀ e∈E,Tch S e->∃ f∈E1,prE f=prE e:=fun S q q' e he ht=>by
     obtain⟨k1,k2,k3⟩:=piece S q q';refine h4 e he ?_;rcases ht with ht|ht|⟨ht,ha,hb'⟩
     .exact .inl (k1 _ ht).1
     .exact .inr (.inl (k1 _ ht).1)
     .have Y2:=q;obtain⟨⟨m,m1,m2⟩,_⟩:=k3 ht;obtain⟨c',V1,rfl⟩:=q;have hth:=zM hT hD' V1;have Zy:=hT.ne e he;rcases hth.kind with⟨f,hf,_,z2⟩|⟨⟨z,z1⟩,_⟩
      .have:=(z2 m).1 m1;have:=(z2 e.a).1 ha;have:=(z2 e.b).1 hb';have:m=e.a\/m=e.b:=by grind
       rcases this with rfl|rfl
       .exact .inl (Y3 _ m2)
       .exact .inr (.inl (Y3 _ m2))
      .exact absurd z1 (ht z)
    obtain⟨side,hs⟩:=pieces hP ((zM hT hD hb).by h4) hk (Q:=Q') (P:=P') ⟨c,d,rfl,e.symm⟩ w6 w7 (ew ▸ w2) (fun u v q=>by
     obtain⟨e,he,k'⟩:=(w9 u v (ew ▸ q)).2
     obtain⟨f,hf,i⟩:=h4 e he (by
      unfold Tch;cases hm:M with
      |nil=>
       rw[hm]at q;simp only[List.nil_append,lnk,aAi,aAW]at q;have z1:(tb b).2 u:=by rw[q.1];exact w6
       have z2:(tb b).2 v:=by rw[q.2];exact w7
       rcases bK k' with⟨i,j⟩|⟨i,j⟩<;>rw[i,j]
       .exact .inr (.inr ⟨hM0 hm,z1,z2⟩)
       .exact .inr (.inr ⟨hM0 hm,z2,z1⟩)
      |cons m M'=>
       have:u∈M\/v∈M:=by
        have q1:=eU (y:=y) (l:=x::M) q;have q2:=iW q;rcases aAe.1 q1 with rfl|q1
        .rcases aAd.1 q2 with q2|q2
         .exact .inr q2
         .rw[aAi]at q2;subst q2;rw[hm]at q;have:=fH (by rw[<- hm];exact ew ▸ w2) q (b':=m) (by simp[lnk]);exact .inr (by rw[this,hm];simp)
        .exact .inl q1
       rcases bK k' with⟨i,j⟩|⟨i,j⟩<;>rw[i,j]
       .exact this.elim (fun z=>.inl (Y3 _ z)) fun z=>.inr (.inl (Y3 _ z))
       .exact this.elim (fun z=>.inr (.inl (Y3 _ z))) fun z=>.inl (Y3 _ z))
     exact⟨f,hf,i.trans k'⟩) Y3 hM0 (Pc:=fun S=>St' E (gJ h w k) S/\¬St' E h S) (fun S q=>by
     have q1:=q.1;obtain⟨c,hc,rfl⟩:=q1
     exact⟨(zM hT hD' hc).by (up _ q.1 q.2),piece _ q.1 q.2⟩) (fun S S' q q'=>Ph q.1 q'.1)
    exact⟨side,fun S q=>⟨(piece S q.1 q.2).2.1,(hs S q).1.on,⟨E1,s,hP,(hs S q).1,h3,up S q.1 q.2⟩,(hs S q).2⟩⟩)
 rw[<- hF]at hα';exact⟨hD',by rw[hF];exact hR.lay hk G3 F7 hMn hMF,U6,hα'⟩
end
def Fit(b:Brg)(F:List (List Int))(i:Nat):Prop:=∀ v∈b.ends,v∈F.getD i []
theorem rK(b:Brg)(F:List (List Int)):((bZ b F.zipIdx).2=0->∀ i,i<F.length->¬Fit b F i)/\((bZ b F.zipIdx).2=1->∃ i:Nat,(bZ b F.zipIdx).1=i/\∀ j,j<F.length->Fit b F j->j=i)/\
 ((bZ b F.zipIdx).2≠0->∃ i:Nat,(bZ b F.zipIdx).1=i/\i<F.length/\Fit b F i)/\(2<=(bZ b F.zipIdx).2->∃ i j,i<j/\j<F.length/\Fit b F i/\Fit b F j):=by
 have key:∀ k,k<=F.length->((bZ b (F.zipIdx.take k)).2=0->(bZ b (F.zipIdx.take k)).1 = -1/\∀ i,i<k->¬Fit b F i)/\((bZ b (F.zipIdx.take k)).2=1->∃ i:Nat,(bZ b (F.zipIdx.take k)).1=i/\∀ j,j<k->Fit b F j->j=i)/\
  ((bZ b (F.zipIdx.take k)).2≠0->∃ i:Nat,(bZ b (F.zipIdx.take k)).1=i/\i<k/\Fit b F i)/\(2<=(bZ b (F.zipIdx.take k)).2->∃ i j,i<j/\j<k/\Fit b F i/\Fit b F j)/\0<=(bZ b (F.zipIdx.take k)).2:=by
  intro k;induction k with
  |zero=>intro _;simp[bZ]
  |succ k ih=>
   intro hk;obtain⟨h1,h2,h3,h4,h5⟩:=ih oO;rw[As b F k oO];generalize bZ b (F.zipIdx.take k)=p at *;have hf:off b.ends (F.getD k [])=[]↔Fit b F k:=by
    unfold Fit;rw[aBP];simp only[fK]
    grind
   unfold mS;by_cases e:Fit b F k
   .rw[aAk (hf.2 e)];by_cases e2:p.2=0
    .rw[aAk e2];have:=(h1 e2).2;refine⟨fun q=>by simp only at q;omega,fun _=>⟨k,rfl,fun j hj hf=>aAI fun q=>this j oO hf⟩,fun _=>⟨k,rfl,oO,e⟩,fun q=>by simp only at q;omega,by simp only;omega⟩
    .rw[aAa e2];obtain⟨i,i1,i2,i3⟩:=h3 e2;exact⟨fun q=>by simp only at q;omega,fun q=>by simp only at q;omega,fun _=>⟨i,i1,oO,i3⟩,fun _=>⟨i,k,i2,oO,i3,e⟩,by simp only;omega⟩
   .rw[aAa fun q=>e (hf.1 q)];refine⟨fun q=>⟨(h1 q).1,fun i hi=>?_⟩,fun q=>?_,fun q=>?_,fun q=>?_,h5⟩
    .by_cases c:i=k
     .rw[c];exact e
     .exact(h1 q).2 i oO
    .obtain⟨i,i1,i2⟩:=h2 q;refine⟨i,i1,fun j hj hfj=>?_⟩;by_cases c:j=k
     .exact absurd (c ▸ hfj) e
     .exact i2 j oO hfj
    .obtain⟨i,i1,i2,i3⟩:=h3 q;exact⟨i,i1,oO,i3⟩
    .obtain⟨i,j,i1,i2,i3⟩:=h4 q;exact⟨i,j,i1,oO,i3⟩
 have:=key F.length (aAl _);rw[aAt sS]at this;exact⟨fun q=>(this.1 q).2,this.2.1,this.2.2.1,this.2.2.2.1⟩
theorem uP(F:List (List Int)):∀(B:List Brg) (E8:Brg×Int),(∃ b∈B,bJ F B E8=(b,(bZ b F.zipIdx).1)/\(bZ b F.zipIdx).2<=1)\/((∀ b∈B,2<=(bZ b F.zipIdx).2)/\(0<=E8.2->bJ F B E8=E8)/\(E8.2<0->B≠[]->∃ b∈B,bJ F B E8=(b,(bZ b F.zipIdx).1)))
 |[],E8=>.inr ⟨sS,fun _=>rfl,fun _ h=>absurd rfl h⟩
 |b::B,E8=>by
  unfold bJ;by_cases h:(bZ b F.zipIdx).2<=1
  .rw[aAk h];exact .inl ⟨b,aAf,rfl,h⟩
  .rw[aAa h];rcases uP F B (if E8.2<0 then(b,(bZ b F.zipIdx).1)else E8)with⟨c,c1,c2,c3⟩|⟨c1,c2,c3⟩
   .exact .inl ⟨c,aAc _ c1,c2,c3⟩
   .right;have hs:=(rK b F).2.2.1 oO;refine⟨fun c hc=>by rcases aAe.1 hc with rfl|hc;omega;exact c1 c hc,fun q=>?_,fun q _=>⟨b,aAf,?_⟩⟩
    .rw[aAa oO]at c2 ⊢;exact c2 q
    .rw[aAk q]at c2 ⊢;obtain⟨i,hi,_⟩:=hs;exact c2 (by simp only;omega)
theorem KC{r:List Int}(hn:r.Nodup):Rgs [r,r.reverse]:=by
 have S4:r.reverse.Nodup:=(aBo r).nodup_iff.2 hn;have h1:Rv r r.reverse:=fun x y z _ _ _ k=>(Ju hn).2 k;refine⟨fun i hi=>?_,fun i j hi hj hij=>?_,fun i j k hi hj hk h1 h2 h3=>?_⟩
 .match i,hi with
  |0,_=>exact hn
  |1,_=>exact S4
 .match i,hi,j,hj with
  |0,_,0,_=>exact absurd rfl hij
  |0,_,1,_=>exact h1
  |1,_,0,_=>exact h1.symm
  |1,_,1,_=>exact absurd rfl hij
 .simp only[List.length_cons,List.length_nil]at hi hj hk;omega
section
variable {E:List Ed} (hT:Tc E)
include hT
theorem Exd.step{h:Sh}(hx:Exd E h)(hl:h.L.length<E.length):∃ h',xY ⟨vsF E,E⟩ h=some (some h')/\Exd E h'/\h.L.length<h'.L.length:=by
 obtain⟨hD,hR,α,T9⟩:=hx;obtain⟨B,b2,b4,b5,z8⟩:=Uz hT hD;have hB:B≠[]:=by
  obtain⟨e,he,hn⟩:∃ e∈E,prE e∉h.L:=aAI fun q=>by
   have:=aAy hT.sim (l₂:=h.L) fun p hp=>by obtain⟨e,he,rfl⟩:=aAj.1 hp;exact aAI fun i=>q ⟨e,he,i⟩
   rw[aAD]at this;omega
  by_cases ha:e.a∈h.on
  .by_cases hb:e.b∈h.on
   .exact aBB (b4 e he hn ha hb)
   .obtain⟨b,hb,_⟩:=b5 e.b ((bG _ _).2 ⟨e,he,.inr rfl⟩) hb;exact aBB hb
  .obtain⟨b,hb,_⟩:=b5 e.a ((bG _ _).2 ⟨e,he,.inl rfl⟩) ha;exact aBB hb
 have fitα:∀ b∈B,Fit b h.F (α (tb b))/\α (tb b)<h.F.length:=fun b hb=>⟨fun v hv=>T9.on (tb b) ⟨b,b2 b hb,rfl⟩ v hv,T9.lt (tb b) ⟨b,b2 b hb,rfl⟩⟩;have O8:∃ k:Nat,(bJ h.F B (⟨[],[]⟩,-1)).2=k/\Brd E h.L h.on (bJ h.F B (⟨[],[]⟩,-1)).1/\∃ U6,Al h.F (St' E h) (fun T=>T.2) (Kq E) U6/\U6 (tb (bJ h.F B (⟨[],[]⟩,-1)).1)=k:=by
  rcases uP h.F B (⟨[],[]⟩,-1)with⟨b,hb,e,k⟩|⟨k,_,e⟩
  .rw[e];obtain⟨f1,f2⟩:=fitα b hb;obtain⟨s0,s1,s2,_⟩:=rK b h.F;have n0:(bZ b h.F.zipIdx).2≠0:=fun q=>s0 q _ f2 f1;have n1:0<=(bZ b h.F.zipIdx).2:=(Bf b _).1;obtain⟨i,i1,i2⟩:=s1 oO;exact⟨i,i1,b2 b hb,α,T9,i2 _ f2 f1⟩
  .obtain⟨b,hb,e⟩:=e sS hB;rw[e];have:=k b hb;obtain⟨i,i1,i2,i3⟩:=(rK b h.F).2.2.1 oO;refine⟨i,i1,b2 b hb,T9.swap hR (fun T r q=>q.rev) (fun T hT' g=>?_) ⟨b,b2 b hb,rfl⟩ i2 i3⟩;obtain⟨c,hc,rfl⟩:=hT';have hcB:∃ d∈B,∀ v,v∈c.ends->v∈d.ends:=by
    rcases hc.kind with⟨h0,f,hf,h1,h2⟩|⟨h0,h1,_⟩
    .have e1:=hc.en f.a (by rw[h2];simp);have e2:=hc.en f.b (by rw[h2];simp);exact⟨_,b4 f hf h1 e1.1 e2.1,fun v hv=>by rw[h2]at hv;exact hv⟩
    .obtain⟨p,hp⟩:=aAS _ h0;obtain⟨d,hd,k⟩:=b5 p (h1 p hp).1 (h1 p hp).2;exact⟨d,hd,(tY hc (b2 d hd) hp k).2⟩
   obtain⟨d,hd,D5⟩:=hcB;obtain⟨i,j,i1,i2,i3,i4⟩:=(rK d h.F).2.2.2 (k d hd);by_cases q:i=g
   .exact⟨j,oO,i2,fun v hv=>i4 v (D5 v hv)⟩
   .exact⟨i,q,oO,fun v hv=>i3 v (D5 v hv)⟩
 obtain⟨k,k1,k2,U6,k3,k4⟩:=O8;rcases z8 with⟨q,_⟩|⟨w,k',q1,q2,q3,q4,q5,w2,w3,w6,w7,w8,w9,Y3,w11⟩
 .omega
 .have:k'=k:=oO;subst this;have:=Exd.lay hT hD hR k3 k2 w2 w3 w6 w7 w8 w9 Y3 w11;rw[k4]at this;exact⟨_,q2,this,q4⟩
theorem Exd.loop:∀(n:Nat) (h:Sh),Exd E h->E.length+1<=n+h.L.length->∃ h',pS ⟨vsF E,E⟩ n h=some (some h')
 |0,h,hx,hl=>by have:=hx.drn.L_le;omega
 |n+1,h,hx,hl=>by
  unfold pS;by_cases dQ:h.L.length<(⟨vsF E,E⟩:Gr).es.length
  .rw[aAk dQ];obtain⟨h',e,L9,G5⟩:=hx.step hT dQ;rw[e,Option.bind_some];exact Exd.loop n h' L9 oO
  .rw[aAa dQ];exact⟨h,rfl⟩
theorem Exd.start{s:Int->Int}(hP:PlE E s){h:Sh}(hD:Drn E h){r:List Int}(hF:h.F=[r,r.reverse])(hn:r.Nodup)(hl:3<=r.length)(hed:∀ u v,(u,v)∈prs r->∃ e∈E,prE e=prP u v):Exd E h:=by
 have hon:∀ v,v∈h.on->v∈r:=fun v hv=>by
  obtain⟨u,h1,h2⟩:=(hD.on v).1 hv;have:=(hD.mem v u).2 ⟨aCv h1,by rw[aL];exact h2⟩;rw[hF]at this;rcases jE.1 this with i|i
  .exact(oW i).1
  .exact(oW (x:=u) (y:=v) i).2
 have M6:∀ v,v∈r->v∈h.on:=fun v hv=>hD.ring_on (r:=r) (by rw[hF];simp) hv;have S4:r.reverse.Nodup:=(aBo r).nodup_iff.2 hn;have hKr:∀ S,St' E h S->Kr E S r:=by
  rintro S ⟨b,hb,rfl⟩;refine⟨hn,hl,hed,fun v hv k=>?_,fun v hv=>hon v (hb.en v hv).1,fun q c d hc hd k=>?_⟩
  .rcases hb.kind with⟨h0,_⟩|⟨_,h1,_⟩
   .have k:v∈b.inner:=k;rw[h0]at k;simp at k
   .exact(h1 v k).2 (M6 v hv)
  .rcases hb.kind with⟨h0,e,he,h1,h2⟩|⟨h0,_⟩
   .obtain⟨n1,n2⟩:=(hD.mem c d).1 (by rw[hF];exact jE.2 (.inl k));refine h1 ?_;have hc:c∈b.ends:=hc;have hd:d∈b.ends:=hd;rw[h2]at hc hd;simp at hc hd;have:prE e=prP c d:=by
     show prP e.a e.b=_;rcases hc with rfl|rfl<;>rcases hd with rfl|rfl
     .exact absurd rfl n1
     .rfl
     .exact aL _ _
     .exact absurd rfl n1
    rw[this];exact n2
   .obtain⟨p,hp⟩:=aAS _ h0;exact q p hp
 have hKq:∀ S,St' E h S->Kq E S r:=fun S k=>⟨E,s,hP,hKr S k,fun e he=>⟨e,he,rfl⟩,fun e he _=>⟨e,he,rfl⟩⟩;by_cases hex:∃ S,St' E h S
 .obtain⟨S0,hS0⟩:=hex;have hE:=(hKr S0 hS0).emb hP;have hthg:∀ S,St' E h S->Thg E S:=fun S ⟨b,hb,e⟩=>by rw[e];exact zM hT hD hb
  have c8:∀ S,∃ c:Nat,St' E h S->c<2/\In' E s (prs r) ([r,r.reverse].getD c []) S:=fun S=>by
   by_cases k:St' E h S
   .obtain⟨q,hq,hi⟩:=hE.in_ex hP (hthg S k) (hKr S k).by';have:q=r\/q=r.reverse:=by simpa using hq
    rcases this with rfl|rfl
    .exact⟨0,fun _=>⟨oO,hi⟩⟩
    .exact⟨1,fun _=>⟨oO,hi⟩⟩
   .exact⟨0,fun q=>absurd q k⟩
  have E7:∀ c:Nat,c<2->[r,r.reverse].getD c []∈[r,r.reverse]:=fun c hc=>by
   match c,hc with
   |0,_=>simp
   |1,_=>simp
  refine⟨hD,hF ▸ KC hn,fun S=>(c8 S).choose,fun S k=>?_,fun S k v hv=>?_,fun S S' k k' Zy he=>?_,fun S k=>?_⟩
  .rw[hF];exact((c8 S).choose_spec k).1
  .have:=(c8 S).choose_spec k;rw[hF];exact hE.in_on hP (hthg S k) (hKr S k).by' (E7 _ this.1) this.2 hv
  .have i1:=(c8 S).choose_spec k;have i2:=(c8 S').choose_spec k';rw[hF];exact hE.avo hP (hthg S k) (hKr S k).by' (hthg S' k') (hKr S' k').by' (Ph k k' Zy) (E7 _ i1.1) i1.2 (by rw[he];exact i2.2)
  .have i1:=((c8 S).choose_spec k).1;rw[hF];generalize (c8 S).choose=c at *
   match c,i1 with
   |0,_=>exact⟨r,hKq S k,fun _ _ _ _ _ _=>aEh⟩
   |1,_=>exact⟨r.reverse,(hKq S k).rev.1,fun _ _ _ _ _ _=>aEh⟩
 .exact⟨hD,hF ▸ KC hn,fun _=>0,fun S k=>absurd ⟨S,k⟩ hex,fun S k=>absurd ⟨S,k⟩ hex,fun S _ k=>absurd ⟨S,k⟩ hex,fun S k=>absurd ⟨S,k⟩ hex⟩
end
section
variable {E:List Ed} (hT:Tc E) {h:Sh} (hD:Drn E h) (hl:E.length<=h.L.length)
include hT hD hl
theorem Ia{r:List Int}(hr:r∈h.F):3<=r.length:=by
 have Zy:∀ u v,(u,v)∈prs r->u≠v:=fun u v k=>((hD.mem u v).1 (bE.2 ⟨r,hr,k⟩)).1
 match r,hr,Zy with
 |[],hr,_=>exact absurd rfl (hD.ne _ hr)
 |[a],hr,Zy=>exact absurd rfl (Zy a a (by simp[prs,lnk]))
 |[a,b],hr,Zy=>
  exfalso;have hp:∀ p,p∈prs [a,b]↔p=(a,b)\/p=(b,a):=fun p=>by simp[prs,lnk]
  have ha:(a,b)∈PF h.F:=bE.2 ⟨_,hr,(hp _).2 (.inl rfl)⟩;have:=hD.con (fun p q=>(p∈prs [a,b]↔q∈prs [a,b])) (fun p q k=>k.symm) (fun p q r k k'=>k.trans k') (fun t ht p hp q hq=>?_) (fun p _=>by rw[hp,hp];obtain⟨u,v⟩:=p;simp only[Prod.swap,aAW];grind)
  .have hall:∀ p∈h.L,p=prP a b:=fun p hpL=>by
    obtain⟨e,he,rfl⟩:=hD.sub p hpL;have x7:=hT.ne e he;have k:=(this _ ha _ ((hD.mem e.a e.b).2 ⟨x7,hpL⟩)).1 ((hp _).2 (.inl rfl));rcases(hp _).1 k with k|k
    .injection k with k1 k2;show prP e.a e.b=_;rw[k1,k2]
    .injection k with k1 k2;show prP e.a e.b=_;rw[k1,k2];exact aL _ _
   have h2:=hT.two;have:=aAy hD.lnd (l₂:=[prP a b]) fun p hpL=>by rw[hall p hpL];simp
   simp at this;omega
  .by_cases c:t=[a,b]
   .subst c;exact⟨fun _=>hq,fun _=>hp⟩
   .exact⟨fun k=>absurd (EZ hD.nd ht hr hp k) c,fun k=>absurd (EZ hD.nd ht hr hq k) c⟩
 |_::_::_::_,_,_=>simp
theorem MV:E.length+6<=3*(vsF E).length:=by
 have hO:=hD.done hT.ne hT.sim hl;have h1:(PF h.F).length<=2*E.length:=tZ hO.nd fun p hp=>(hO.mem p.1 p.2).1 hp;have h2:=hO.cnt;have h3:∀ F:List (List Int),(∀ r∈F,3<=r.length)->3*F.length<=(PF F).length:=fun F=>by
  induction F with
  |nil=>intro _;simp
  |cons r F ih=>
   intro hF;have:=ih fun t ht=>hF t (aAc _ ht);have h4:=hF r aAf;have h5:=qJ r;have h6:(PF (r::F)).length=(prs r).length+(PF F).length:=by simp[PF]
   simp only[List.length_cons];omega
 have:=h3 h.F fun r hr=>Ia hT hD hl hr;omega
end
theorem OH{g:Gr}(hg:GoodE g)(hv:g.vs.length<=64)(he:g.es.length<=200)(hlim:g.es.length<=200){l:List Ed}(hl:l∈aX g)(hs:∃ s,PlE l s):∃ F,pM l=some (some F):=by
 obtain⟨h0,h1,u9,h2⟩:=Iq hg hv he hl;obtain⟨s,hP⟩:=hs
 match l,h0,h1,h2,u9,hP with
 |[e],_,h1,_,_,_=>exact⟨_,rfl⟩
 |x::y::R,_,_,h2,u9,hP=>
  have hT:=h2 sS;obtain⟨h,q1,hD,r,q2,q3,q4,q5⟩:=hT.start rfl;have hx:=Exd.start hT hP hD q2 q3 q4 q5;obtain⟨h',q6⟩:=Exd.loop hT 1000 h hx (by have:=hT.few.2;omega);obtain⟨o,q7,q8⟩:=AG hT 1000 h hD (by have:=hT.few.2;omega);rw[q6]at q7;injection q7 with q7;obtain⟨hD',G5⟩:=q8 h' q7.symm;have:=MV hT hD' G5
  have hd:pM (x::y::R)=if(vsF (x::y::R)).length<=64/\(x::y::R).length<=200 then
   if(3:Int)*(vsF (x::y::R)).length-6<(x::y::R).length then some none
   else(newF ⟨vsF (x::y::R),x::y::R⟩).bind fun h=>(pS ⟨vsF (x::y::R),x::y::R⟩ 1000 h).map fun o=>o.map (·.F)
   else none:=rfl
  rw[hd,aAk ⟨hT.few.1,oO⟩,aAa oO,q1,Option.bind_some,q6];exact⟨h'.F,rfl⟩
theorem Co(g:Gr):∀(bl:List (List Ed)) (T:TL) (o:Option TL),(∀ l∈bl,∃ F,pM l=some (some F))->yC g bl T=some o->o≠none
 |[],T,o,_,h=>by injection h with h;rw[<- h];simp
 |l::bl,T,o,hb,h=>by
  obtain⟨F,hF⟩:=hb l aAf;unfold yC at h;rw[hF,Option.bind_some]at h;simp only at h
  split at h
  .exact Co g bl _ o (fun x hx=>hb x (aAc _ hx)) h
  .cases h
theorem IY{g:Gr}{bl:List (List Ed)}{o:Option Mp}(hb:∀ l∈bl,∃ F,pM l=some (some F))(h:kR g bl=some o):o.isSome=true:=by
 unfold kR at h;cases hT:yC g bl [] with
 |none=>rw[hT]at h;cases h
 |some T=>
  have:=Co g bl [] T hb hT;rw[hT,Option.bind_some]at h;cases T with
  |none=>exact absurd rfl this
  |some T=>
   simp only at h
   split at h
   .injection h with h;rw[<- h];rfl
   .cases h
theorem bM.blk_plE{m:Mp}(h:bM m)(hg0:Aw.gn m=0)(hvb:∀ v∈m.g.vs,0<=v/\v<4194304)(hv:m.g.vs.length<=64)(he:m.g.es.length<=200){l:List Ed}(hl:l∈aX m.g):∃ s,PlE l s:=by
 obtain⟨h0,h1,u9,h2⟩:=Iq h.g hv he hl;have hsim:(l.map prE).Nodup:=by have h1:=((iH h.g).map prE).nodup_iff.2 (Ac m.g.es);rw[aDu]at h1;exact(aBn (aAw (f:=List.map prE) hl)).nodup h1
 refine h.plE hg0 (fun e he=>(h1 e he).1) (fZ _ hsim) ⟨fun e he=>(h1 e he).2,hsim,fun v hv=>?_⟩;obtain⟨e,hel,k⟩:=(bG v l).1 hv;have:=h.g.ends e (h1 e hel).1;rcases k with rfl|rfl
 .exact hvb _ this.1
 .exact hvb _ this.2
end Aw
namespace Aw
open Pl
theorem Qy{m:Mp}(h:jM m=0):bM m/\gn m=0/\chk m.g=0:=by
 unfold jM at h;by_cases h1:rP m=0
 .rw[aAa (fun k=>k h1)]at h;obtain⟨h2,h3⟩:=Cx h1;exact⟨h3,oO,h2⟩
 .rw[aAk h1]at h;exact absurd h h1
theorem TW{m:Mp}(hr:jM m=0)(hv:m.g.vs.length<=24)(he:m.g.es.length<=50):∃ o,kR m.g (aX m.g)=some (some o):=by
 obtain⟨hm,hg,hc⟩:=Qy hr;obtain⟨o,ho,_⟩:=OQ hc hv he;have:=IY (fun l hl=>OH hm.g oO oO oO hl (hm.blk_plE hg (fun v h=>by have:=(Fy hc).vpos v h;omega) oO oO hl)) ho
 match o,this with
 |some o,_=>exact⟨o,ho⟩
end Aw
namespace Aw
open Go Go.RowKit Pl
theorem PlaneTold(m:Mp)(st:St):aB prog 3 [.ag (mpL m)] st fun r st'=>r=bb true:=by
 refine zN func3 ntmps3 [.tmp 2] ?_
 (refine xj0 ?_;intro J hJ)
 refine xcP (UH _) ?_
 (refine nJ hJ ?_;intro J hJ)
 have hQ:=fun s=>Uv m.g s;refine xcP (hQ _) ?_ (by simp[mpL]);by_cases hl:nZ m.g=true;rotate_left
 .rw[Bool.not_eq_true]at hl;exact MZ hJ hl
 have Y1:=hl;unfold nZ at Y1;simp only[aAQ,aBr]at Y1;obtain⟨⟨hc,hv⟩,he⟩:=Y1;by_cases hn:(30:Int)<m.rots.length
 ·(repeat' (first|(refine qR (zZ ?_);simp[hl,hn,mpL])|(apply cD;simp[hl,hn,mpL];(refine zJ hJ ?_;clear hJ J))))
 (repeat' (apply cD;simp[hl,hn,mpL]))
 have hQ:=fun s=>Iy m s oO oO oO;refine qE (hQ _) (by simp[mpL]) ?_;rintro r s1 ⟨rfl,j7⟩;have W9:s1.H st.next=.box 28 3 (mpL m):=by rw[j7.H _ sS];simp[mpL]
 by_cases hr:jM m=0;rotate_left
 .have hr2:(jM m != 0)=true:=by simpa using hr
  exact Zo hJ hl hn hr2 hr
 obtain⟨o,ho⟩:=TW hr hv he;have hO:(if chk m.g=0 then kR m.g (aX m.g)else some none)=some (some o):=by rw[aAk hc];exact ho
 (repeat' (apply cD;simp[hl,hn,hr,W9,mpL]))
 have hQ:=fun s=>TN m.g oO he hO s;refine qE (hQ _) (by simp[mpL]) ?_;rintro r s2 ⟨rfl,u5⟩;exact Oq hJ
theorem CN(l0:List LV)(st:St)(h0:Shp tab 28 l0):aB prog 3 [Me tab 28 l0] st fun r st'=>r=bb true:=by obtain⟨m,rfl,_⟩:=WH h0;exact PlaneTold m st
end Aw
end Go.Proofs.YtbgngpdonpeboaaGreatDoor
