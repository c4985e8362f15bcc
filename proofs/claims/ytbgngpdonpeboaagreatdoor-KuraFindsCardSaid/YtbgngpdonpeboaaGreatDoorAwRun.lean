/- Lemmas. -/
import Derived.Test.YtbgngpdonpeboaaGreatDoorAwSound3
import Derived.StillTail
set_option linter.defProp false
namespace Go.Proofs.YtbgngpdonpeboaaGreatDoor
namespace Aw
open Go Go.RowKit
def kn(M:PQ):Option Nat->Bool
 |some d=>M.contains d
 |none=>false
def Hw:BinOp->Option Bool
 |.eql=>some false
 |.neq=>some true
 |_=>none
def vW:LV->Option Nat
 |.sl _ n _=>some n
 |.emp=>some 0
 |.ms _ _ n=>some n
 |_=>none
def wX(T:bg)(o:Oper)(a:ah):Option (Bool×Nat):=
 match o.op with
 |.binOp op t x (.const (.slice none 0 0)) _=>match dN T t,Hw op,vW (aM a x) with
  |some _,some ng,some n=>some (ng,n)
  |_,_,_=>none
 |_=>none
def Hz{w:World}{g:G}{a:LV}{v:Value}{n:Nat}(h:vW a=some n)(b:Rep w g a v):∃ A c,v=.slice A n c/\(A=none->n=0):=by
 cases a with
 |sl t n' cs=>
  grind [vW,Rep]
 |emp=>
  grind [vW,Rep]
 |ms l o n'=>
  grind [vW,Rep]
 |_=>simp[vW]at h
def cV(P:Program)(T:bg)(N:Nat)(a:Array Oper)(M:PQ)(J:ah->St->Prop):List Oper->ah->St->Prop
 |[],fr,st=>J fr st
 |o::rest,fr,st=>match bG a fr o.guard with
  |some b=>(b=true->(match o.op with
    |.call { callee:=.value x,args:=args,argTypes:=_ }=>match gG (aM fr x) with
     |some (f,Kz)=>∃ R,aD P f ((args.toList.map (aM fr))++Kz) st R/\∀ r d,R r d->cV P T N a M J rest (bR fr o.dst r) d
     |none=>False
    |_=>match wX T o fr with
     |some (ng,n)=>∀ b:Bool,(b=true->n=0)->cV P T N a M J rest (bR fr o.dst (.atom (.bool (b != ng)))) st
     |none=>match fX T (kn M o.dst) o fr st with
      |some r=>r.c/\cV P T N a M J rest (bR fr o.dst r.v) r.s
      |none=>False))/\(b=false->cV P T N a M J rest (bR fr o.dst (.tu [])) st)
  |none=>False
def DF(P:Program)(T:bg)(N:Nat)(b:Array Oper)(M:PQ)(J:ah->St->Prop)(rest:List Oper)(d:Option Nat)(c:ah)(e:St)(f:FuncId)(args:QQ):Prop:=
 ∃ R,aD P f args e R/\∀ r a,R r a->cV P T N b M J rest (bR c d r) a
def NJ(P:Program)(T:bg)(N:Nat)(a:Array Oper)(M:PQ)(J:ah->St->Prop)(rest:List Oper)(d:Option Nat)(b:ah)(c:St)(args:QQ):Option (FuncId×QQ)->Prop
 |some (f,Kz)=>DF P T N a M J rest d b c f (args++Kz)
 |none=>False
def OU(P:Program)(T:bg)(N:Nat)(a:Array Oper)(M:PQ)(J:ah->St->Prop)(rest:List Oper)(d:Option Nat)(b:ah):Option bV->Prop
 |some r=>r.c/\cV P T N a M J rest (bR b d r.v) r.s
 |none=>False
def En(P:Program)(T:bg)(N:Nat)(a:Array Oper)(M:PQ)(J:ah->St->Prop)(rest:List Oper)(o:Oper)(c:ah)(d:St):Option (Bool×Nat)->Prop
 |some (ng,n)=>∀ b:Bool,(b=true->n=0)->cV P T N a M J rest (bR c o.dst (.atom (.bool (b != ng)))) d
 |none=>OU P T N a M J rest o.dst c (fX T (kn M o.dst) o c d)
def yH(P:Program)(T:bg)(N:Nat)(b:Array Oper)(M:PQ)(J:ah->St->Prop)(rest:List Oper)(o:Oper)(a:ah)(c:St):Prop:=
 match o.op with
 |.call { callee:=.value x,args:=args,argTypes:=_ }=>NJ P T N b M J rest o.dst a c (args.toList.map (aM a)) (gG (aM a x))
 |_=>En P T N b M J rest o a c (wX T o a)
def CG(P:Program)(T:bg)(N:Nat)(a:Array Oper)(M:PQ)(J:ah->St->Prop)(rest:List Oper)(o:Oper)(c:ah)(d:St):Option Bool->Prop
 |some b=>(b=true->yH P T N a M J rest o c d)/\(b=false->cV P T N a M J rest (bR c o.dst (.tu [])) d)
 |none=>False
section
variable {P:Program} {T:bg} {N:Nat} {ops:Array Oper} {M:List Nat} {J:ah->St->Prop} {rest:List Oper} {o:Oper} {fr:ah} {st:St} {d:Option Nat}
theorem L8:cV P T N ops M J [] fr st=J fr st:=rfl
theorem MY:cV P T N ops M J (o::rest) fr st=CG P T N ops M J rest o fr st (bG ops fr o.guard):=by
 unfold cV CG yH;cases bG ops fr o.guard with
 |none=>rfl
 |some b=>
  simp only
  congr 1
theorem TS:CG P T N ops M J rest o fr st (some true)=yH P T N ops M J rest o fr st:=by simp[CG]
theorem Nq:CG P T N ops M J rest o fr st (some false)=cV P T N ops M J rest (bR fr o.dst (.tu [])) st:=by simp[CG]
theorem VX:En P T N ops M J rest o fr st none=OU P T N ops M J rest o.dst fr (fX T (kn M o.dst) o fr st):=rfl
theorem VT(a:Bool)(n:Nat):En P T N ops M J rest o fr st (some (a,n))=∀ b:Bool,(b=true->n=0)->cV P T N ops M J rest (bR fr o.dst (.atom (.bool (b != a)))) st:=rfl
theorem Yn(r:bV):OU P T N ops M J rest d fr (some r)=(r.c/\cV P T N ops M J rest (bR fr d r.v) r.s):=rfl
theorem A5(f:FuncId)(Kz args:QQ):NJ P T N ops M J rest d fr st args (some (f,Kz))=DF P T N ops M J rest d fr st f (args++Kz):=rfl
theorem Ek{w:World}{g:G}:∀(c:QQ) (b:List Value),aG w g c b->aG w g (c.map norm) b
 |[],b,h=>h
 |x::c,b,h=>by simp only[aG,ax]at h ⊢;obtain⟨v,a,rfl,e,f⟩:=h;exact⟨v,a,rfl,Cq e,Ek c a f⟩
theorem aD.of_norm{f:FuncId}{args:QQ}{R:LV->St->Prop}(h:aD P f (args.map norm) st R):aD P f args st R:=
 ⟨h.1,fun w g c a b=>h.2 w g c a (Ek _ _ b)⟩
theorem cP(h:cV P T N ops M J rest fr st):cV P T N ops M J rest fr st:=h
theorem qF{f:FuncId}{args:QQ}{R:LV->St->Prop}(h:aD P f args st R)(b:∀ r a,R r a->cV P T N ops M J rest (bR fr d r) a):DF P T N ops M J rest d fr st f args:=⟨R,h,b⟩
theorem MF{w:World}{t:TypeId}{e:TypeId}(f:P.underlying t=some (.slice e))(A:Option Addr)(n c:Nat)(x y:Operand):
 (do eqGuard .eql t x y (.slice A n c) (.slice none 0 0);binOp .eql t (.slice A n c) (.slice none 0 0):Sem Value).run P w=.ok (.bool A.isNone) w/\
 (do eqGuard .neq t x y (.slice A n c) (.slice none 0 0);binOp .neq t (.slice A n c) (.slice none 0 0):Sem Value).run P w=.ok (.bool (!A.isNone)) w:=by
 have b:∀ d,(Op.equalIn (d+1) t (.slice A n c) (.slice none 0 0)).run P w=.ok A.isNone w:=by intro d;cases A<;>simp[Op.equalIn,run_underlying f]
 have a:(Op.equal t (.slice A n c) (.slice none 0 0)).run P w=.ok A.isNone w:=b 9999;constructor
 .unfold eqGuard;simp[binOp,a]
 .unfold eqGuard;simp[binOp,a]
theorem Jy(D:bE P T){Q:AQ}{y:Bool}{n:Nat}(j:wX T o fr=some (y,n))
 (K:bG ops fr o.guard=some true) (H:lV N ops o.guard=true) (U:rW N o.dst=true)
 (h:∀ b:Bool,(b=true->n=0)->CL P N ops rest Q (bR fr o.dst (.atom (.bool (b != y)))) st):CL P N ops (o::rest) Q fr st:=by
 intro a w g F q I E;have v:∃ b:Bool,(b=true->n=0)/\(execOp a.eval o).run P w=.ok (.value (.bool (b != y))) w:=by
  unfold wX at j
  split at j
  .rename_i S t x V k
   split at j
   .rename_i e R L r f p;simp only[ap,fj]at j;obtain⟨rfl,rfl⟩:=j;obtain⟨A,c,B,C⟩:=Hz p (aJ q x);have l:=MF (P:=P) (w:=w) (dL D r) A L c x (.const (.slice none 0 0));refine⟨A.isNone,fun z=>C (by simp_all),?_⟩;cases S<;>simp only[Hw,ap,reduceCtorEq]at f
    .subst f;have m:a.eval (.const (.slice none 0 0))=.slice none 0 0:=rfl;simp only[execOp,k,B,m];rw[Sem.run_bind,l.1];simp
    .subst f;have m:a.eval (.const (.slice none 0 0))=.slice none 0 0:=rfl;simp only[execOp,k,B,m];rw[Sem.run_bind,l.2];simp
   grind
  .grind
 obtain⟨b,z,l⟩:=v;have s:Region.wanted o (yielded ops a.tmps)=true:=fZ q K (by rw[I];exact jU H);simp only[wpList,s,ef];left;unfold Oper.wp;rw[l,Oper.upon_value];exact h b z _ w g F (fG q (by grind) (by grind [Rep])) (by grind [cL]) (by grind [put_defers])
theorem PZ{f:FuncId}{args:QQ}{R:LV->St->Prop}(h:aD P f (args.map norm) st R)(b:∀ r a,R r a->cV P T N ops M J rest (bR fr d r) a):DF P T N ops M J rest d fr st f args:=⟨R,h.of_norm,b⟩
def dJ(N:Nat)(ops:Array Oper)(l:List Oper):Bool:=l.all fun o=>rW N o.dst&&lV N ops o.guard
theorem nK(e:bE P T){Q:AQ}(j:∀ fr st,J fr st->Q .normal fr st):∀(rest:List Oper) (fr:ah) (st:St),dJ N ops rest=true->cV P T N ops M J rest fr st->CL P N ops rest Q fr st
 |[],fr,st,_,h=>SP (j _ _ h)
 |o::rest,fr,st,hk,h=>by
  simp only[dJ,List.all_cons,gg]at hk;obtain⟨⟨k,l⟩,hk⟩:=hk;have m:=nK e j rest;have c:dJ N ops rest=true:=hk;unfold cV at h;cases g:bG ops fr o.guard with
  |none=>grind
  |some b=>
   rw[g]at h;cases b with
   |false=>grind [RF]
   |true=>
    have a:=h.1 rfl
    split at a
    .grind [QL]
    .split at a
     .rename_i s n f;exact Jy e f g l k (fun b p=>m _ _ c (a b p))
     .split at a
      .rename_i r q;exact Xu g l k (zB e q a.1) (m _ _ c a.2)
      grind
theorem nE(a:bE P T)(M:PQ){Q:AQ}{id:Nat}(b:dJ N ops ops.toList=true)
 (h:∀ J:ah->St->Prop,(∀ fr st,Q .normal fr st->J fr st)->cV P T N ops M J ops.toList fr st):bq P N (.region id ops false) Q fr st:=
 MA (nK (M:=M) a (J:=fun fr st=>Q .normal fr st) (fun _ _ h=>h) _ _ _ b (h _ (fun _ _ h=>h)))
end
section
variable {P:Program} {T:bg} {N:Nat} {ops:Array Oper} {M:List Nat} {fr:ah} {st:St}
def iW(T:bg)(ops:Array Oper)(J:ah->St->Prop):List Oper->ah->St->Prop
 |[],fr,st=>J fr st
 |o::rest,fr,st=>match bG ops fr o.guard with
  |some b=>(b=true->match fX T false o fr st with
    |some r=>r.c/\iW T ops J rest (bR fr o.dst r.v) st
    |none=>False)/\(b=false->iW T ops J rest (bR fr o.dst (.tu [])) st)
  |none=>False
def ME(T:bg)(ops:Array Oper)(J:ah->St->Prop)(rest:List Oper)(d:Option Nat)(fr:ah)(st:St):Option bV->Prop
 |some r=>r.c/\iW T ops J rest (bR fr d r.v) st
 |none=>False
def AD(T:bg)(ops:Array Oper)(J:ah->St->Prop)(rest:List Oper)(o:Oper)(fr:ah)(st:St):Option Bool->Prop
 |some b=>(b=true->ME T ops J rest o.dst fr st (fX T false o fr st))/\(b=false->iW T ops J rest (bR fr o.dst (.tu [])) st)
 |none=>False
theorem H7{J:ah->St->Prop}:iW T ops J [] fr st=J fr st:=rfl
theorem Yv{J:ah->St->Prop}{o:Oper}{rest:List Oper}:iW T ops J (o::rest) fr st=AD T ops J rest o fr st (bG ops fr o.guard):=by unfold iW AD;cases bG ops fr o.guard<;>rfl
theorem D3{J:ah->St->Prop}{o:Oper}{rest:List Oper}:AD T ops J rest o fr st (some true)=ME T ops J rest o.dst fr st (fX T false o fr st):=by simp[AD]
theorem WU{J:ah->St->Prop}{o:Oper}{rest:List Oper}:AD T ops J rest o fr st (some false)=iW T ops J rest (bR fr o.dst (.tu [])) st:=by simp[AD]
theorem ZG{J:ah->St->Prop}{d:Option Nat}{rest:List Oper}(r:bV):ME T ops J rest d fr st (some r)=(r.c/\iW T ops J rest (bR fr d r.v) st):=rfl
theorem uD(f:bE P T){J:ah->St->Prop}{w:World}{g:G}{R:Act->Prop}(k:Inv w g st)(e:∀ a fr,eY w g a fr->a.tmps.size=N->a.defers=[]->J fr st->R a):
 ∀(rest:List Oper) (fr:ah) (a:Act),eY w g a fr->a.tmps.size=N->a.defers=[]->dJ N ops rest=true->rest.all (fun o=>aW o.op)=true->iW T ops J rest fr st->wpStill P ops w R rest a
 |[],fr,a,hr,hs,hd,_,_,h=>e a fr hr hs hd h
 |o::rest,fr,a,hr,hs,hd,hk,hq,h=>by
  simp only[dJ,List.all_cons,gg]at hk hq;obtain⟨⟨j,n⟩,hk⟩:=hk;have s:=uD f k e rest;have p:dJ N ops rest=true:=hk;unfold iW at h;unfold wpStill;cases l:bG ops fr o.guard with
  |none=>grind
  |some b=>
   rw[l]at h;have c:Region.wanted o (yielded ops a.tmps)=b:=fZ hr l (by rw[hs];exact jU n);rw[c];cases b with
   |false=>
    grind [fG,zU,cL,put_defers]
   |true=>
    simp only[ef];have d:=h.1 rfl
    split at d
    .rename_i r m;obtain⟨x,A,q,t,v,y,z,k5⟩:=zB (N:=N) f m d.1 a w g k hr hs
     grind [Oper.still,Oper.stillUpon_value,fG,cL,put_defers]
    grind
theorem Ql(k:bE P T)(M:PQ)(n:Nat){Q:AQ}{id:Nat}{l:List Oper}(v:P.follows .mixedOrders=true)(r:Region.lexTailB .any l.toArray n=true)(b:dJ N l.toArray l=true)(x:(l.take n).all (fun o=>aW o.op)=true)
 (h:∀ J:ah->St->Prop,(∀ fr st,Q .normal fr st->J fr st)->iW T l.toArray (fun fr st=>cV P T N l.toArray M J (l.drop n) fr st) (l.take n) fr st):bq P N (.region id l.toArray true) Q fr st:=by
 intro a w g m y z s;refine wp_region_still_tail n v r ?_;have A:dJ N l.toArray (l.take n)=true:=by unfold dJ at b ⊢;rw[lL]at b ⊢;exact fun o e=>b o (qw e)
 have B:dJ N l.toArray (l.drop n)=true:=by unfold dJ at b ⊢;rw[lL]at b ⊢;exact fun o e=>b o (xe e)
 have c:Ext w g { w with drawn:=w.drawn+1 } g:=fA w g;refine uD (w:={ w with drawn:=w.drawn+1 }) k m.drew (fun q C f j d t=>?_) _ fr a (y.mono c) z s A x (h (fun fr st=>Q .normal fr st) (fun _ _ h=>h));exact eN (fun _ _ _ p=>p.pre c) _ _ _ (nK (M:=M) k (J:=fun fr st=>Q .normal fr st) (Q:=Q) (fun _ _ h=>h) _ _ _ B t q _ g m.drew f j d)
theorem RH(m:bE P T){Q:AQ}{id:Nat}{l:List Oper}(r:P.follows .mixedOrders=true)(k:Region.lexB .any l.toArray=true)(q:dJ N l.toArray l=true)(s:l.all (fun o=>aW o.op)=true)
 (h:∀ J:ah->St->Prop,(∀ fr st,Q .normal fr st->J fr st)->iW T l.toArray J l fr st):bq P N (.region id l.toArray true) Q fr st:=by
 intro a w g f t v n;refine wp_region_still_lit r k ?_;have b:Ext w g { w with drawn:=w.drawn+1 } g:=fA w g;refine uD (w:={ w with drawn:=w.drawn+1 }) m f.drew (fun x j d e c p=>?_) _ fr a (t.mono b) v n q s (h (fun fr st=>Q .normal fr st) (fun _ _ h=>h));exact⟨j,st,g,p,f.drew,d,e,c,b⟩
end
section
variable {P:Program} {T:bg} {N:Nat} {Q:AQ} {fr:ah} {st:St} {c:Code}
theorem uB{w:World}{g:G}{a:Act}(h:eY w g a fr)(d:Nat){b:LV}(f:Rep w g b (a.tmps.getD d undef)):eY w g a (de fr d b):=by
 intro i;unfold de;by_cases e:i=d
 .grind
 .rw[aa e];exact h i
theorem uS(d e s:Nat)(k:fr d=.nil)(h:bq P N c Q (de fr d (.sl st.z 0 [])) (st.new (.own e s 0))):bq P N c Q fr st:=by refine jQ (fun a w g f j _=>?_) h;refine⟨g.addNil,kJ f _ (.inl ⟨e,s,rfl⟩),uB (j.mono (ext_nil w g)) d ?_,ext_nil w g⟩;have b:=j d;rw[k]at b;simp only[Rep]at b ⊢;exact⟨none,0,b,au _,⟨jx _,fun _=>rfl⟩,fun _=>by simp[G.addNil,f.z],fun h=>absurd rfl h⟩
theorem Ym(d:Nat){t n e:Nat}{cs:QQ}(q:fr d=.sl t n cs)(l:st.H t=.own e 1 n)(B:0<n)(s:t≠0)(h:bq P N c Q (de fr d (.qu t 0 n cs)) (st.set t (.que e n))):bq P N c Q fr st:=by
 refine jQ (fun a w g k m _=>?_) h;have j:=m d;rw[q]at j;simp only[Rep]at j;obtain⟨A,o,C,r,p,b,f⟩:=j;obtain⟨z,rfl,dS⟩:=b s;obtain⟨D,v,E,F⟩:=k.own t e 1 n l;have x:g.nl t=false:=by
  cases y:g.nl t with
  |false=>rfl
  |true=>grind
 obtain⟨I,J⟩:=Mi v;refine⟨g,Fa k l x,uB m d ?_,Ext.refl w g⟩
 grind [Rep]
theorem DB(d e s:Nat)(k:fr d=.nil)(h:bq P N c Q (de fr d (.ms st.z 0 0)) (st.new (.box e s []))):bq P N c Q fr st:=by refine jQ (fun a w g f j _=>?_) h;refine⟨g.addNil,kJ f _ (.inr ⟨e,s,rfl⟩),uB (j.mono (ext_nil w g)) d ?_,ext_nil w g⟩;have b:=j d;rw[k]at b;simp only[Rep]at b ⊢;exact⟨none,0,b,au _,jx _,by simp[G.addNil,f.z],Y,by simp[G.addNil,f.z]⟩
theorem Mx(k:Nat){l e s:Nat}{b:QQ}(f:st.H l=.box e s b)(h:bq P N c Q fr (st.set l (.box e s (b.take k)))):bq P N c Q fr st:=
 jQ (fun a w g d j _=>⟨g,wV d k f,j,Ext.refl w g⟩) h
def G.raise(g:G)(b k:Nat):G:={ g with φ:=fun x=>if x=b then some k else g.φ x }
theorem jC(d:Nat){l n e s:Nat}{y:QQ}(hd:fr d=.ms l 0 n)(hl:st.H l=.box e s y)(hn:n*s<=y.length)(a:Act)(w:World)(g:G)(q:Inv w g st)(L:eY w g a fr):
 ∃ F,Inv w F (st.set l .dead)/\eY w F a (de fr d (.sl 0 n (y.take (n*s))))/\Ext w g w F:=by
 have dS:l<st.z:=EJ q hl Y;obtain⟨q1,q2,q3⟩:=q.box l e s y hl;have I:=L d;rw[hd]at I;simp only[Rep]at I;obtain⟨A,C,hv,K,J,hA,hA',_⟩:=I;cases R:g.nl l with
 |true=>
  obtain⟨hk0,rfl⟩:=q2 R;refine⟨g,q.drop l dS,uB L d ?_,Ext.refl w g⟩
  grind [Rep]
 |false=>
  obtain⟨o8,k1,k2,k3,k4,k5⟩:=q3 R;have p:Ext w g w (g.raise (g.β l) (n*s)):=by
   refine⟨rfl,rfl,rfl,au _,au _,fun _ _=>rfl,fun _ _=>rfl,fun _ _=>rfl,?_,?_⟩
   .grind [G.raise]
   .intro b k hb r;by_cases Tv:b=g.β l
    .subst Tv;rw[k5]at r;injection r with r;subst r
     grind [G.raise]
    grind [G.raise]
  have f:=q.drop l dS;have Tv:∀ x,blk g (st.set l .dead) x->g.β x≠g.β l:=by
   intro x m hh;have t:x≠l/\blk g st x:=by
    unfold blk at m ⊢;simp only[St.set]at m;by_cases e0:x=l
    .grind
    .grind
   exact t.1 (q.inj x l t.2 (by grind [blk]) hh)
  refine⟨g.raise (g.β l) (n*s),⟨f.z,f.pos,f.fresh,f.lt,f.inj,?_,?_,fun x ag ks es m=>(f.mp x ag ks es m).keep p (f.map_lt m) rfl (by simp only[G.raise];rw[aa (Tv x (f.map_blk m))]),fun x e n m=>(f.qu x e n m).keep p (f.que_lt m) rfl (by simp only[G.raise];rw[aa (Tv x (f.que_blk m))]),f.aside.keep p fun _ _=>rfl⟩,uB (L.mono p) d ?_,p⟩
  .intro x E M n' m;obtain⟨V,W,X,z4⟩:=f.own x E M n' m;refine⟨V,W,X,fun o=>?_⟩;obtain⟨B,S,U,y3⟩:=z4 o;have v:=Tv x (by unfold blk;rw[m];exact o);exact⟨B,S,U,by grind [G.raise]⟩
  .intro x E M D m;obtain⟨V,W,X⟩:=f.box x E M D m;refine⟨V,W,fun o=>?_⟩;obtain⟨B,S,U,y3,y4,y5⟩:=X o;have v:=Tv x (by unfold blk;rw[m];exact o);exact⟨B,S,U,y3,aG.mono p _ _ y4,by grind [G.raise]⟩
  .obtain rfl:=(hA trivial).2 R;simp only[Rep];refine⟨_,C,hv,K,⟨J,Y⟩,fun h=>absurd rfl h,fun _=>⟨g.β l,0,rfl,jV _ (o8.take (n*s)) 0 ?_ (fun j hj=>?_) (fun j hj=>?_)⟩⟩
   .have:=gQ (n*s) _ _ k4
    grind [aG.mono]
   .rw[cell_of_row w _ _ _ _ _ k1,jw]
    grind
   .intro k r
    grind [G.raise]
theorem wM(d:Nat){l n e s:Nat}{b:QQ}(f:fr d=.ms l 0 n)(k:st.H l=.box e s b)(m:n*s<=b.length)(h:bq P N c Q (de fr d (.sl 0 n (b.take (n*s)))) (st.set l .dead)):bq P N c Q fr st:=
 jQ (fun a w g j o _=>jC d f k m a w g j o) h
end
section
variable {P:Program} {T:bg}
def vY(args:QQ):ah:=fun i=>args.getD i .dead
def DV(T:bg)(b:ah)(c:St):ResultVar->Option bV
 |.tmp t=>some ⟨True,b t,c⟩
 |.cell a t=>Ce T t (b a) c
def xH(T:bg)(a:ah)(b:St):List ResultVar->Option (Prop×QQ)
 |[]=>some (True,[])
 |r::rs=>match DV T a b r,xH T a b rs with
  |some x,some (c,l)=>some (x.c/\c,x.v::l)
  |_,_=>none
def one(l:QQ):LV:=match l with|[x]=>x|l=>.tu l
def BA(T:bg)(Q:LV->St->Prop)(b:ah)(a:St)(d:List ResultVar):Prop:=
 match xH T b a d with
 |some (c,l)=>c/\Q (one l) a
 |none=>False
def Body(T:bg)(b:List ResultVar)(Q:LV->St->Prop):AQ:=fun e a c=>match e with
 |.normal=>BA T Q a c b
 |.ret=>BA T Q a c b
 |_=>False
theorem UN{b:List ResultVar}{Q:LV->St->Prop}{a:ah}{c:St}:Body T b Q .ret a c=BA T Q a c b:=rfl
theorem LB{b:List ResultVar}{Q:LV->St->Prop}{a:ah}{c:St}:Body T b Q .normal a c=BA T Q a c b:=rfl
theorem AZ(s:bE P T){w:World}{g:G}{a:Act}{k:ah}{p:St}(m:Inv w g p)(f:eY w g a k):∀(j:List ResultVar) (c:Prop) (l:QQ),xH T k p j=some (c,l)->c->
 ∃ d:List Value,(j.mapM fun|.tmp t=>pure (a.tmps.getD t undef)|.cell x t=>do loadVar t (<- asAddr (a.tmps.getD x undef)):Sem (List Value)).run P w=.ok d w/\aG w g l d
 |[],c,l,h,_=>by simp only[xH,ap,fj]at h;obtain⟨_,rfl⟩:=h;exact⟨[],Y,by grind [aG]⟩
 |r::j,c,l,h,hc=>by
  simp only[xH]at h
  split at h
  .rename_i x y B e A;simp only[ap,fj]at h;obtain⟨rfl,rfl⟩:=h;obtain⟨d,D,z⟩:=AZ s m f j y B A hc.2;cases r with
   |tmp t=>simp only[DV,ap]at e;subst e;refine⟨a.tmps.getD t undef::d,?_,by simp only[aG];exact⟨_,_,rfl,f t,z⟩⟩;simp_all
   |cell q t=>
    simp only[DV]at e;obtain⟨_,u,H,I⟩:=CE s m e hc.1 (f q);refine⟨u::d,?_,by grind [aG]⟩;have E:∃ v,a.tmps.getD q undef=.pointer (some v):=by
     unfold Ce at e;cases n:fW p (k q) with
     |none=>grind
     |some C=>
      obtain⟨b,o,d,F,_⟩:=NZ m n (f q)
      grind
    grind [Instr.loadAt,Instr.sureAddr,Sem.run_bind,Sem.run_pure,Result.andThen_ok,asAddr]
  grind
theorem qO(U:bE P T){f:FuncId}{fn:Func}{c:Code}{args:QQ}{M:St}{Q:LV->St->Prop}{N:Nat}{L:List ResultVar}(hf:P.funcs[f]?=some fn)(I:fn.body=some c)
 (k:(fn.name== "runtime.NumGoroutine")=false) (S:fn.ntmps=N) (E:fn.results.toList=L) (J:args.length<=N) (h:bq P N c (AK P N (Body T L Q) []) (vY args) M):aD P f args M Q:=by
 refine⟨enters_of hf k I,fun w g m W K=>?_⟩;subst S E;have hl:=aO _ _ K;refine calls_of_wp hf I ?_;have F:(m.toArray++Array.replicate (fn.ntmps-m.toArray.size) undef).size=fn.ntmps:=by simp;omega
 refine Code.wp_mono (fun e B d p=>?_) (h { tmps:=m.toArray++Array.replicate (fn.ntmps-m.toArray.size) undef,defers:=[] } w g W ?_ F rfl)
 .obtain⟨H,b,o,A,q,D,hs',C,V⟩:=p;rw[wW]at A;have t:BA T Q H b fn.results.toList->B.defers=[]/\∃ v,(results fn B.tmps).run P d=.ok v d/\(∃ y r b o,Ending.returned v=.returned y/\Q r b/\Rep d o r y/\Inv d o b/\Ext w g d o):=by
   intro z;unfold BA at z;cases j:xH T H b fn.results.toList with
   |none=>grind
   |some p=>
    obtain⟨c,l⟩:=p;rw[j]at z;obtain⟨us,n,R⟩:=AZ U q D _ c l j z.1;have u5:(results fn B.tmps).run P d=.ok (if h:us.toArray.size=1 then us.toArray[0]else .tuple us.toArray) d:=by unfold results;rw[Sem.run_bind,zy,Sem.run_map];exact congrArg (fun r:Result (List Value)=>(r.andThen fun a d=>Result.ok a.toArray d).andThen fun a d=>Sem.run P (pure (if h:a.size=1 then a[0]else Value.tuple a)) d) n
    refine⟨C,_,u5,_,_,b,o,rfl,z.2,?_,q,V⟩;unfold one
    split
    .grind [aG]
    .rename_i Tv;have:us.length≠1:=by
      intro n;rw[<- aO _ _ R]at n
      match l,n with
      |[x],_=>grind
     grind [Rep]
  cases e with
  |normal=>exact t A
  |ret=>exact t A
  |_=>exact A.elim
 .intro i;unfold vY;by_cases s:i<args.length
  .have n:args.getD i .dead=args[i]:=by simp[List.getD,s]
   obtain⟨v,hv,X⟩:=wY i args m args[i] K (bu s);rw[n];have:(m.toArray++Array.replicate (fn.ntmps-m.toArray.size) undef).getD i undef=v:=by rw[ul,zw (by grind)];simp[hv]
   grind
  grind [Rep]
theorem JB{f:FuncId}{args:QQ}{d:St}{Q:LV->St->Prop}(h:aD P f args d fun r a=>Q (norm r) a):aD P f args d Q:=by refine⟨h.1,fun w g o l n=>(h.2 w g o l n).mono ?_⟩;rintro e p ⟨v,r,a,j,rfl,m,b,c,k⟩;exact⟨v,norm r,a,j,rfl,m,Cq b,c,k⟩
theorem kW(e s:Nat){f:FuncId}{args:QQ}{k:St}{Q:LV->St->Prop}(h:aD P f args k fun r a=>(r=.nil/\Q (.ms a.z 0 0) (a.new (.box e s [])))\/Q r a):aD P f args k Q:=by
 refine⟨h.1,fun w g o m n=>(h.2 w g o m n).mono ?_⟩;rintro x p ⟨v,r,a,j,rfl,d,b,c,l⟩;rcases d with⟨rfl,d⟩|d
 .refine⟨v,_,_,j.addNil,rfl,d,?_,kJ c _ (.inr ⟨e,s,rfl⟩),l.trans (ext_nil p j)⟩;simp only[Rep]at b;subst b;simp only[Rep,G.addNil,c.z]
  grind
 grind
theorem cQ{f:FuncId}{args:QQ}{c:St}{Q:LV->St->Prop}(h:aD P f args c fun r a=>∃ l n e s b,r=.ms l 0 n/\a.H l=.box e s b/\n*s<=b.length/\Q (.sl 0 n (b.take (n*s))) (a.set l .dead)):aD P f args c Q:=by
 refine⟨h.1,fun w g B q A=>(h.2 w g B q A).mono ?_⟩;rintro x C ⟨v,r,a,d,rfl,⟨l,n,e,s,b,rfl,t,y,z⟩,hrep,hi',he⟩
 obtain⟨k,m,o,p⟩:=jC (fr:=de (fun _=>.dead) 0 (.ms l 0 n)) 0 rfl t y { tmps:=#[v],defers:=[] } C d hi' (by
  intro j;unfold de;by_cases D:j=0
  .simp_all
  grind [Rep])
 exact⟨v,_,_,k,rfl,z,o 0,m,he.trans p⟩
theorem BB{f:FuncId}{args:QQ}{vs:List Value}{w:World}{R:Value->Prop}(g:iV w ⟨1,fun _=>none,fun _=>0,fun _=>0,fun _=>false⟩)(o:aG w ⟨1,fun _=>none,fun _=>0,fun _=>0,fun _=>false⟩ args vs)
 (h:aD P f args ⟨1,fun _=>.dead⟩ fun r _=>∃ v,r=.atom v/\R v):Calls P f vs.toArray w fun e d=>(∃ v,e=.returned v/\R v)/\Below w.heap.size w d:=by
 have j:Inv w ⟨1,fun _=>none,fun _=>0,fun _=>0,fun _=>false⟩ ⟨1,fun _=>.dead⟩:=by refine⟨rfl,by decide,fun _ _=>rfl,fun l b=>b.elim,fun l z b=>b.elim,fun l e s n b=>(by grind),fun l e s q b=>(by grind),fun l ag y t b=>(by grind),fun l e n b=>(by grind),wO g fun _=>rfl⟩
 refine(h.2 w _ vs j o).mono ?_;rintro e d ⟨v,r,p,x,rfl,⟨A,rfl,c⟩,a,_,he⟩;simp only[Rep]at a;subst a;exact⟨⟨_,rfl,c⟩,⟨he.os,he.tape,he.output,he.size,fun k m=>(he.still k m rfl).2⟩⟩
end
end Aw
end Go.Proofs.YtbgngpdonpeboaaGreatDoor
