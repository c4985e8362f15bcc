/- The abstract program logic: code over frames of logical values. No program is named here. -/
import Derived.Test.YtbgngpdonpeboaaGreatDoorAwCore
import Derived.Tactics
import Derived.LoopN
import Derived.Scope
import Derived.Shelf.Abstract
set_option linter.defProp false
set_option linter.unusedVariables false
set_option linter.unusedSimpArgs false
namespace Go.Proofs.YtbgngpdonpeboaaGreatDoor
namespace Aw
open Go Go.RowKit
abbrev AQ:=Exit->af->St->Prop
def lB(N:Nat)(Q:AQ)(w:World)(g:G)(e:Exit)(b:Act)(d:World):Prop:=
 ∃ UK a c,Q e UK a/\Inv d c a/\dY d c b UK/\b.tmps.size=N/\b.defers=[]/\Ext w g d c
def lB.pre{N:Nat}{Q:AQ}{w f:World}{g c:G}(h:Ext w g f c){e:Exit}{b:Act}{d:World}(p:lB N Q f c e b d):lB N Q w g e b d:=by obtain⟨UK,a,j,n,m,o,q,k,l⟩:=p;exact⟨UK,a,j,n,m,o,q,k,h.trans l⟩
theorem lB.mono{N:Nat}{Q b:AQ}{w:World}{g:G}{e d:Exit}{c:Act}{k:World}(p:lB N Q w g e c k)(h:∀ f j,Q e f j->b d f j):lB N b w g d c k:=by obtain⟨UK,a,l,m,r⟩:=p;exact⟨UK,a,l,h _ _ m,r⟩
def bq(P:Program)(N:Nat)(c:Code)(Q:AQ)(b:af)(d:St):Prop:=
 ∀(a:Act) (w:World) (g:G),Inv w g d->dY w g a b->a.tmps.size=N->a.defers=[]->c.wp P (lB N Q w g) a w
inductive gQ where
 |code (c:Code)
 |blk (id:Nat)
 |head (J:af->St->Prop)
def AK(P:Program)(N:Nat)(Q:AQ):List gQ->AQ
 |[],e,fr,st=>Q e fr st
 |.code c::k,e,fr,st=>match e with|.normal=>bq P N c (AK P N Q k) fr st|e=>AK P N Q k e fr st
 |.blk id::k,e,fr,st=>match e with|.exit i=>if i=id then AK P N Q k .normal fr st else AK P N Q k (.exit i) fr st|e=>AK P N Q k e fr st
 |.head J::k,e,fr,st=>match e with|.normal=>J fr st|e=>AK P N Q k e fr st
section
variable {P:Program} {N:Nat} {Q:AQ} {k:List gQ} {fr:af} {st:St}
theorem tF(e:Exit):AK P N Q [] e fr st=Q e fr st:=rfl
theorem jG(c:Code):AK P N Q (.code c::k) .normal fr st=bq P N c (AK P N Q k) fr st:=rfl
theorem GR(c:Code)(i:Nat):AK P N Q (.code c::k) (.exit i) fr st=AK P N Q k (.exit i) fr st:=rfl
theorem yD(c:Code):AK P N Q (.code c::k) .ret fr st=AK P N Q k .ret fr st:=rfl
theorem WT(id:Nat):AK P N Q (.blk id::k) .normal fr st=AK P N Q k .normal fr st:=rfl
theorem Jj(id:Nat):AK P N Q (.blk id::k) .ret fr st=AK P N Q k .ret fr st:=rfl
theorem lZ(id i:Nat):AK P N Q (.blk id::k) (.exit i) fr st=if i=id then AK P N Q k .normal fr st else AK P N Q k (.exit i) fr st:=rfl
theorem GX(J:af->St->Prop):AK P N Q (.head J::k) .normal fr st=J fr st:=rfl
theorem GM(J:af->St->Prop)(i:Nat):AK P N Q (.head J::k) (.exit i) fr st=AK P N Q k (.exit i) fr st:=rfl
theorem Hr(J:af->St->Prop):AK P N Q (.head J::k) .ret fr st=AK P N Q k .ret fr st:=rfl
theorem dG{c:Code}{b:AQ}(h:bq P N c Q fr st)(j:∀ e fr st,Q e fr st->b e fr st):bq P N c b fr st:=
 fun a w g f l m d=>Code.wp_mono (fun _ _ _ p=>p.mono (j _)) (h a w g f l m d)
theorem qK(h:AK P N Q k .normal fr st):bq P N .skip (AK P N Q k) fr st:=
 fun _ w g b c d a=>wp_skip ⟨fr,st,g,h,b,c,d,a,Ext.refl w g⟩
theorem qX{id:Nat}(h:AK P N Q k (.exit id) fr st):bq P N (.exit id) (AK P N Q k) fr st:=
 fun _ w g b c d a=>wp_exit ⟨fr,st,g,h,b,c,d,a,Ext.refl w g⟩
theorem qR(h:AK P N Q k .ret fr st):bq P N .ret (AK P N Q k) fr st:=
 fun _ w g b c d a=>wp_ret ⟨fr,st,g,h,b,c,d,a,Ext.refl w g⟩
theorem EA{l:Nat}(h:AK P N Q k .normal fr st):bq P N (.label l) (AK P N Q k) fr st:=
 fun _ w g b c d a=>wp_label ⟨fr,st,g,h,b,c,d,a,Ext.refl w g⟩
theorem qS{x y:Code}(h:bq P N x (AK P N Q (.code y::k)) fr st):bq P N (.seq x y) (AK P N Q k) fr st:=by
 intro a w g o r s m;refine wp_seq (Code.wp_mono (fun e j z p=>?_) (h a w g o r s m));cases e with
 |normal=>obtain⟨UK,v,l,q,b,d,f,c,n⟩:=p;exact Code.wp_mono (fun _ _ _ t=>t.pre n) (q j z l b d f c)
 |_=>exact p
theorem qB{id:Nat}{c:Code}(h:bq P N c (AK P N Q (.blk id::k)) fr st):bq P N (.block id c) (AK P N Q k) fr st:=by
 intro a w g f l m d;refine wp_block (Code.wp_mono (fun e n o p=>?_) (h a w g f l m d));cases e with
 |exit i=>
  simp only[Exit.inBlock];by_cases b:i=id
  .subst b;rw[ad rfl];exact p.mono (fun fr st j=>by grind [lZ])
  .rw[ac b];exact p.mono (fun fr st j=>by grind [lZ])
 |_=>exact p
theorem OG{c:Code}(h:bq P N c (AK P N Q k) fr st)(q:∀ l fr st,¬AK P N Q k (.goto l) fr st):bq P N (.scope c) (AK P N Q k) fr st:=by
 intro a w g d f j b;refine wp_scope_straight (Code.wp_mono (fun e n s p=>?_) (h a w g d f j b));cases e with
 |goto l=>obtain⟨UK,m,o,r,_⟩:=p;grind
 |_=>exact p
def cP:Value->LV
 |.slice none 0 0=>.nil
 |v=>.atom v
def GI:Value->LV
 |.agg cs=>.ag (cs.toList.map cP)
 |v=>cP v
def aI(fr:af):Operand->LV
 |.tmp t=>fr t
 |.const v=>GI v
 |.func f=>.fn (.func f) []
 |.global _=>.dead
theorem sY(w:World)(g:G)(v:Value):Rep w g (cP v) v:=by
 unfold cP
 grind [Rep]
theorem cV(w:World)(g:G):∀ a:List Value,aC w g (a.map cP) a
 |[]=>by grind [aC]
 |v::a=>by simp only[ax,aC];exact⟨v,a,rfl,sY w g v,cV w g a⟩
theorem Kg(w:World)(g:G)(v:Value):Rep w g (GI v) v:=by
 unfold GI
 split
 .grind [Rep,cV]
 grind [sY]
theorem aD{w:World}{g:G}{a:Act}(h:dY w g a fr)(x:Operand):Rep w g (aI fr x) (a.eval x):=by
 cases x with
 |tmp t=>exact h t
 |const v=>exact Kg w g v
 |func f=>grind [aI,Act.eval,Rep,aC]
 |global b=>grind [aI,Rep]
def Vz(P:Program)(N:Nat)(Q:AQ)(k:List gQ)(fr:af)(st:St)(x y:Code):LV->Prop
 |.atom (.bool b)=>(b=true->bq P N x (AK P N Q k) fr st)/\(b=false->bq P N y (AK P N Q k) fr st)
 |_=>False
theorem lF(b:Bool)(x y:Code):Vz P N Q k fr st x y (.atom (.bool b))=((b=true->bq P N x (AK P N Q k) fr st)/\(b=false->bq P N y (AK P N Q k) fr st)):=rfl
theorem qC{c:Operand}{x y:Code}(h:Vz P N Q k fr st x y (aI fr c)):bq P N (.cond c x y) (AK P N Q k) fr st:=by
 intro a w g l f m j;have d:=aD f c;revert h d;cases aI fr c with
 |atom v=>
  cases v with
  |bool b=>intro h d;simp only[Rep]at d;rw[lF]at h;exact wp_cond_split d (fun e=>h.1 e a w g l f m j) (fun e=>h.2 e a w g l f m j)
  |_=>intro h;exact h.elim
 |_=>intro h;exact h.elim
theorem Gf{c:Code}{R:Exit->Act->World->Prop}:∀(n m:Nat),n<=m->∀ a w,Code.rounds P c R n a w->Code.rounds P c R m a w:=by
 intro n;induction n with
 |zero=>intro m _ a w h;exact h.elim
 |succ n d=>
  intro m g a w h;cases m with
  |zero=>omega
  |succ m=>
   rw[rounds_succ]at h ⊢;refine Code.wp_mono (fun e b f p=>?_) h;cases e with
   |normal=>exact d m oO b f p
   |_=>exact p
theorem qL{c:Code}(I:Nat->af->St->Prop)(n:Nat)(z:I n fr st)
 (h:∀ n fr st,I n fr st->∀ J:af->St->Prop,(∀ m UK b,m<n->I m UK b->J UK b)->bq P N c (AK P N Q (.head J::k)) fr st):
 bq P N (.loop c) (AK P N Q k) fr st:=by
 intro a w g o r s l;have t:∀ n fr st a w g,I n fr st->Inv w g st->dY w g a fr->a.tmps.size=N->a.defers=[]->∀ j g0,Ext j g0 w g->Code.rounds P c (lB N (AK P N Q k) j g0) (n+1) a w:=by
  intro n;induction n using Nat.strongRecOn with
  |ind n ih=>
   intro fr st a w g A o r s l j g0 f;rw[rounds_succ];refine Code.wp_mono (fun e v x p=>?_) (h n fr st A (fun UK b=>∃ m,m<n/\I m UK b) (fun m UK b q d=>⟨m,q,d⟩) a w g o r s l);cases e with
   |normal=>obtain⟨UK,b,y,⟨m,q,d⟩,K7,P8,T0,O9,he⟩:=p;exact Gf (m+1) n oO v x (ih m q UK b v x y d K7 P8 T0 O9 j g0 (f.trans he))
   |_=>exact lB.pre f p
 exact wp_loop_rounds (n+1) (t n fr st a w g z o r s l w g (Ext.refl w g))
theorem iY{c:Code}{UK:af}{d:St}(e:∀(a:Act) (w:World) (g:G),Inv w g st->dY w g a fr->a.tmps.size=N->∃ b,Inv w b d/\dY w b a UK/\Ext w g w b)
 (h:bq P N c Q UK d):bq P N c Q fr st:=by
 intro a w g o q f m;obtain⟨b,j,l,n⟩:=e a w g o q f;exact Code.wp_mono (fun _ _ _ p=>p.pre n) (h a w b j l f m)
end
def bL(a:af)(d:Option Nat)(v:LV):af:=match d with|some d=>cY a d v|none=>a
def Ae(P:Program)(N:Nat)(b:Array Oper)(rest:List Oper)(Q:AQ)(c:af)(d:St):Prop:=
 ∀(a:Act) (w:World) (g:G),Inv w g d->dY w g a c->a.tmps.size=N->a.defers=[]->wpList P b (lB N Q w g) rest a w
section
variable {P:Program} {N:Nat} {Q:AQ} {k:List gQ} {fr:af} {st:St} {ops:Array Oper} {rest:List Oper} {o:Oper}
theorem dV{R f:Exit->Act->World->Prop}(b:∀ e a w,R e a w->f e a w):∀(rest:List Oper) (a:Act) (w:World),wpList P ops R rest a w->wpList P ops f rest a w
 |[],a,w,h=>b _ _ _ h
 |o::rest,a,w,h=>by
  simp only[wpList]at h ⊢
  split
  .rename_i d;rw[ad d]at h;rcases h with h|h
   .left;unfold Oper.wp at h ⊢;revert h;cases (execOp a.eval o).run P w with
    |halt x w1=>cases x<;>simp only[Oper.upon]<;>first|exact fun h=>h.elim|grind
    |ok x w1=>
     cases x<;>simp only[Oper.upon]<;>first
      |exact fun h=>h.elim
      |exact fun h=>dV b rest _ _ h
      |(intro h;refine Calls.mono h ?_;intro e g c;cases e<;>first|exact dV b rest _ _ c|exact b _ _ _ c|exact⟨c.choose,c.choose_spec.choose,b _ _ _ c.choose_spec.choose_spec⟩)
      |(intro h;refine Rows.mono h ?_;intro e g c;exact dV b rest _ _ c)
   .right;exact⟨h.1,h.2.choose,h.2.choose_spec.choose,b _ _ _ h.2.choose_spec.choose_spec⟩
  .rename_i d;rw[ac d]at h;exact dV b rest _ _ h
theorem KK{id:Nat}(h:Ae P N ops ops.toList Q fr st):bq P N (.region id ops false) Q fr st:=
 fun a w g c d e b=>wp_region_list (h a w g c d e b)
theorem Pp(h:Q .normal fr st):Ae P N ops [] Q fr st:=
 fun _ w g b c d a=>wpList_nil ⟨fr,st,g,h,b,c,d,a,Ext.refl w g⟩
def rp(P:Program)(N:Nat)(q:Bool)(o:Oper)(fr:af)(st:St)(e:LV)(b:St):Prop:=
 ∀(a:Act) (w:World) (g:G),Inv w g st->dY w g a fr->a.tmps.size=N->
  ∃ x c d,(execOp a.eval o).run P w=.ok x c/\((∃ v,x=.value v/\Rep c d e v)\/(x=.skip/\e=.dead))/\Inv c d b/\Ext w g c d/\(q=true->w=c/\g=d/\b=st/\∃ v,x=.value v)
def pE(N:Nat):Option Nat->Bool
 |some d=>decide (d<N)
 |none=>true
theorem eD{w:World}{g:G}{a:Act}(h:dY w g a fr){d:Option Nat}(e:pE a.tmps.size d=true){v:Value}{b:LV}(c:Rep w g b v):
 dY w g (a.put d v) (bL fr d b):=by
 cases d with
 |none=>exact h
 |some d=>exact h.put (by grind [pE]) c
def bB(ops:Array Oper)(fr:af)(a:Option (Nat×Bool)):Option Bool:=
 match a with
 |none=>some true
 |some (j,want)=>match(ops[j]?).bind (·.dst) with
  |some d=>match fr d with
   |.atom (.bool b)=>some (b==want)
   |.tu []=>some false
   |_=>none
  |none=>none
theorem eT{w:World}{g:G}{a:Act}(h:dY w g a fr){b:Bool}(c:bB ops fr o.guard=some b)(dF:∀ j want d,o.guard=some (j,want)->(ops[j]?).bind (·.dst)=some d->d<a.tmps.size):
 Region.wanted o (yielded ops a.tmps)=b:=by
 unfold bB at c;unfold Region.wanted;cases l:o.guard with
 |none=>grind
 |some p=>
  obtain⟨j,want⟩:=p;simp only[l]at c ⊢;unfold yielded;cases f:(ops[j]?).bind (·.dst) with
  |none=>grind
  |some d=>
   simp only[f]at c;have m:=dF j want d l f;have e:=h d;revert c e;cases fr d with
   |tu vs=>
    cases vs with
    |nil=>intro c e;simp only[Rep,aC]at e;simp_all
    |cons _ _=>grind
   |atom v=>
    cases v with
    |bool b'=>intro c e;simp only[Rep]at e;simp_all
    |_=>intro c;simp at c
   |_=>intro c;simp at c
def kJ(N:Nat)(ops:Array Oper)(a:Option (Nat×Bool)):Bool:=
 match a with
 |none=>true
 |some (j,_)=>match(ops[j]?).bind (·.dst)with|some d=>decide (d<N)|none=>true
theorem iS(h:kJ N ops o.guard=true):∀ j want d,o.guard=some (j,want)->(ops[j]?).bind (·.dst)=some d->d<N:=by
 grind [kJ]
theorem xK{w:World}{g:G}:Rep w g (.tu []) undef:=by simp only[Rep,aC];exact⟨[],rfl,rfl⟩
theorem Mv(l:bB ops fr o.guard=some false)(f:kJ N ops o.guard=true)(m:pE N o.dst=true)(h:Ae P N ops rest Q (bL fr o.dst (.tu [])) st):Ae P N ops (o::rest) Q fr st:=by intro a w g e b j d;have c:Region.wanted o (yielded ops a.tmps)=false:=eT b l (by rw[j];exact iS f);simp only[wpList,c];exact h _ w g e (eD b (by grind) xK) (by grind [cF]) (by grind [put_defers])
theorem VC{q:Bool}{n:LV}{b:St}(B:bB ops fr o.guard=some true)(z:kJ N ops o.guard=true)(E:pE N o.dst=true)(s:rp P N q o fr st n b)
 (h:Ae P N ops rest Q (bL fr o.dst n) b):Ae P N ops (o::rest) Q fr st:=by
 intro a w g y d m t;have e:Region.wanted o (yielded ops a.tmps)=true:=eT d B (by rw[m];exact iS z);simp only[wpList,e,dE];left;obtain⟨x,r,l,D,C,f,c,_⟩:=s a w g y d m;unfold Oper.wp;rw[D];have j:=d.mono c;rcases C with⟨v,rfl,A⟩|⟨rfl,rfl⟩
 .rw[Oper.upon_value];exact dV (fun _ _ _ p=>p.pre c) _ _ _ (h _ r l f (eD j (by grind) A) (by grind [cF]) (by grind [put_defers]))
 .rw[Oper.upon_skip];exact dV (fun _ _ _ p=>p.pre c) _ _ _ (h _ r l f (eD j (by grind) (by grind [Rep])) (by grind [cF]) (by grind [put_defers]))
def aB(P:Program)(f:FuncId)(args:List LV)(st:St)(Q:LV->St->Prop):Prop:=
 Enters P f/\∀(w:World) (g:G) (d:List Value),Inv w g st->aC w g args d->
  Calls P f d.toArray w fun e c=>∃ v r a b,e=.returned v/\Q r a/\Rep c b r v/\Inv c b a/\Ext w g c b
theorem aB.mono{f:FuncId}{args:List LV}{R b:LV->St->Prop}(h:aB P f args st R)(d:∀ r a,R r a->b r a):aB P f args st b:=
 ⟨h.1,fun w g n j m=>(h.2 w g n j m).mono fun _ _ ⟨v,r,a,c,e,l,rest⟩=>⟨v,r,a,c,e,d _ _ l,rest⟩⟩
def norm:LV->LV
 |.nil=>.sl 0 0 []
 |lv=>lv
theorem AU{w:World}{g:G}{a:LV}{v:Value}(h:Rep w g a v):Rep w g (norm a) v:=by
 cases a with
 |nil=>
  simp only[Rep]at h;simp only[norm,Rep]
  grind
 |_=>exact h
theorem BJ{w:World}{g:G}{a:Act}(h:dY w g a fr):∀(b:List Operand),aC w g (b.map (aI fr)) (b.map a.eval)
 |[]=>by grind [aC]
 |x::b=>by simp only[ax,aC];exact⟨_,_,rfl,aD h x,BJ h b⟩
theorem cI{w:World}{g:G}:∀(d:List LV) (c:List Value) (a:List LV) (us:List Value),aC w g d c->aC w g a us->aC w g (d++a) (c++us)
 |[],c,a,us,h,h'=>by grind [aC]
 |x::d,c,a,us,h,h'=>by simp only[aC]at h;obtain⟨v,b,rfl,e,f⟩:=h;simp only[List.cons_append,aC];exact⟨v,b++us,rfl,e,cI d b a us f h'⟩
def eZ:LV->Option (FuncId×List LV)
 |.fn (.func f) IQ=>some (f,IQ)
 |_=>none
theorem Mw{x:Operand}{args:Array Operand}{q:Array TypeId}{f:FuncId}{IQ:List LV}{R:LV->St->Prop}(l:o.op=.call { callee:=.value x,args:=args,argTypes:=q })
 (I:bB ops fr o.guard=some true) (D:kJ N ops o.guard=true) (L:pE N o.dst=true)
 (hf:eZ (aI fr x)=some (f,IQ)) (s:aB P f ((args.toList.map (aI fr))++IQ) st R)
 (h:∀ r b,R r b->Ae P N ops rest Q (bL fr o.dst r) b):Ae P N ops (o::rest) Q fr st:=by
 intro a w g C d F A;have n:Region.wanted o (yielded ops a.tmps)=true:=eT d I (by rw[F];exact iS D);simp only[wpList,n,dE];left;have c:=aD d x;revert hf c;cases B:aI fr x with
 |fn j caps'=>
  cases j with
  |func j=>
   intro hf c;simp only[eZ,ap,fx]at hf;obtain⟨rfl,rfl⟩:=hf;simp only[Rep]at c;obtain⟨us,c,m⟩:=c;have J:(execOp a.eval o).run P w=.ok (.enter j ((args.toList.map a.eval++us).toArray)) w:=by unfold execOp;simp only[l,resolve,invoke,c,Deferred.ofValue,Sem.run_bind,Sem.run_pure,Result.andThen_ok];simp only[Array.empty_append];rw[s.1];simp
   unfold Oper.wp;rw[J,Oper.upon_enter];refine(s.2 w g _ C (cI _ _ _ _ (BJ d args.toList) m)).mono ?_;rintro e K ⟨v,r,b,z,rfl,E,H,y,t⟩;exact dV (fun _ _ _ p=>p.pre t) _ _ _ (h r b E _ K z y (eD (d.mono t) (by grind) H) (by grind [cF]) (by grind [put_defers]))
  |_=>grind [eZ]
 |_=>intro hf;simp[eZ]at hf
end
end Aw
end Go.Proofs.YtbgngpdonpeboaaGreatDoor
