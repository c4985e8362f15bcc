/- Running a region by evaluation; a function's contract out of its body. No program is named here. -/
import Derived.Test.YtbgngpdonpeboaaGreatDoorAwSound3
import Derived.StillTail
set_option linter.defProp false
set_option linter.unusedVariables false
set_option linter.unusedSimpArgs false
namespace Go.Proofs.YtbgngpdonpeboaaGreatDoor
namespace Aw
open Go Go.RowKit
def jr(M:List Nat):Option Nat->Bool
 |some d=>M.contains d
 |none=>false
def En:BinOp->Option Bool
 |.eql=>some false
 |.neq=>some true
 |_=>none
def tO:LV->Option Nat
 |.sl _ n _=>some n
 |.emp=>some 0
 |.ms _ _ n=>some n
 |_=>none
def tC(T:az)(o:Oper)(a:af):Option (Bool×Nat):=
 match o.op with
 |.binOp op t x (.const (.slice none 0 0)) _=>match dD T t,En op,tO (aI a x) with
  |some _,some ng,some n=>some (ng,n)
  |_,_,_=>none
 |_=>none
def EW{w:World}{g:G}{a:LV}{v:Value}{n:Nat}(h:tO a=some n)(b:Rep w g a v):∃ A c,v=.slice A n c/\(A=none->n=0):=by
 cases a with
 |sl t n' cs=>
  grind [tO,Rep]
 |emp=>
  grind [tO,Rep]
 |ms l o n'=>
  grind [tO,Rep]
 |_=>simp[tO]at h
def cG(P:Program)(T:az)(N:Nat)(a:Array Oper)(M:List Nat)(J:af->St->Prop):List Oper->af->St->Prop
 |[],fr,st=>J fr st
 |o::rest,fr,st=>match bB a fr o.guard with
  |some b=>(b=true->(match o.op with
    |.call { callee:=.value x,args:=args,argTypes:=_ }=>match eZ (aI fr x) with
     |some (f,IQ)=>∃ R,aB P f ((args.toList.map (aI fr))++IQ) st R/\∀ r d,R r d->cG P T N a M J rest (bL fr o.dst r) d
     |none=>False
    |_=>match tC T o fr with
     |some (ng,n)=>∀ b:Bool,(b=true->n=0)->cG P T N a M J rest (bL fr o.dst (.atom (.bool (b != ng)))) st
     |none=>match fy T (jr M o.dst) o fr st with
      |some r=>r.c/\cG P T N a M J rest (bL fr o.dst r.v) r.s
      |none=>False))/\(b=false->cG P T N a M J rest (bL fr o.dst (.tu [])) st)
  |none=>False
def Bi(P:Program)(T:az)(N:Nat)(b:Array Oper)(M:List Nat)(J:af->St->Prop)(rest:List Oper)(d:Option Nat)(c:af)(e:St)(f:FuncId)(args:List LV):Prop:=
 ∃ R,aB P f args e R/\∀ r a,R r a->cG P T N b M J rest (bL c d r) a
def LW(P:Program)(T:az)(N:Nat)(a:Array Oper)(M:List Nat)(J:af->St->Prop)(rest:List Oper)(d:Option Nat)(b:af)(c:St)(args:List LV):Option (FuncId×List LV)->Prop
 |some (f,IQ)=>Bi P T N a M J rest d b c f (args++IQ)
 |none=>False
def LS(P:Program)(T:az)(N:Nat)(a:Array Oper)(M:List Nat)(J:af->St->Prop)(rest:List Oper)(d:Option Nat)(b:af):Option bS->Prop
 |some r=>r.c/\cG P T N a M J rest (bL b d r.v) r.s
 |none=>False
def DM(P:Program)(T:az)(N:Nat)(a:Array Oper)(M:List Nat)(J:af->St->Prop)(rest:List Oper)(o:Oper)(c:af)(d:St):Option (Bool×Nat)->Prop
 |some (ng,n)=>∀ b:Bool,(b=true->n=0)->cG P T N a M J rest (bL c o.dst (.atom (.bool (b != ng)))) d
 |none=>LS P T N a M J rest o.dst c (fy T (jr M o.dst) o c d)
def uP(P:Program)(T:az)(N:Nat)(b:Array Oper)(M:List Nat)(J:af->St->Prop)(rest:List Oper)(o:Oper)(a:af)(c:St):Prop:=
 match o.op with
 |.call { callee:=.value x,args:=args,argTypes:=_ }=>LW P T N b M J rest o.dst a c (args.toList.map (aI a)) (eZ (aI a x))
 |_=>DM P T N b M J rest o a c (tC T o a)
def Ca(P:Program)(T:az)(N:Nat)(a:Array Oper)(M:List Nat)(J:af->St->Prop)(rest:List Oper)(o:Oper)(c:af)(d:St):Option Bool->Prop
 |some b=>(b=true->uP P T N a M J rest o c d)/\(b=false->cG P T N a M J rest (bL c o.dst (.tu [])) d)
 |none=>False
section
variable {P:Program} {T:az} {N:Nat} {ops:Array Oper} {M:List Nat} {J:af->St->Prop} {rest:List Oper} {o:Oper} {fr:af} {st:St} {d:Option Nat}
theorem Yw:cG P T N ops M J [] fr st=J fr st:=rfl
theorem KS:cG P T N ops M J (o::rest) fr st=Ca P T N ops M J rest o fr st (bB ops fr o.guard):=by
 unfold cG Ca uP;cases bB ops fr o.guard with
 |none=>rfl
 |some b=>
  simp only
  congr 1
theorem Qo:Ca P T N ops M J rest o fr st (some true)=uP P T N ops M J rest o fr st:=by simp[Ca]
theorem LN:Ca P T N ops M J rest o fr st (some false)=cG P T N ops M J rest (bL fr o.dst (.tu [])) st:=by simp[Ca]
theorem Uf:DM P T N ops M J rest o fr st none=LS P T N ops M J rest o.dst fr (fy T (jr M o.dst) o fr st):=rfl
theorem Sg(a:Bool)(n:Nat):DM P T N ops M J rest o fr st (some (a,n))=∀ b:Bool,(b=true->n=0)->cG P T N ops M J rest (bL fr o.dst (.atom (.bool (b != a)))) st:=rfl
theorem YD(r:bS):LS P T N ops M J rest d fr (some r)=(r.c/\cG P T N ops M J rest (bL fr d r.v) r.s):=rfl
theorem XI(f:FuncId)(IQ args:List LV):LW P T N ops M J rest d fr st args (some (f,IQ))=Bi P T N ops M J rest d fr st f (args++IQ):=rfl
theorem EN{w:World}{g:G}:∀(c:List LV) (b:List Value),aC w g c b->aC w g (c.map norm) b
 |[],b,h=>h
 |x::c,b,h=>by simp only[aC,ax]at h ⊢;obtain⟨v,a,rfl,e,f⟩:=h;exact⟨v,a,rfl,AU e,EN c a f⟩
theorem aB.of_norm{f:FuncId}{args:List LV}{R:LV->St->Prop}(h:aB P f (args.map norm) st R):aB P f args st R:=
 ⟨h.1,fun w g c a b=>h.2 w g c a (EN _ _ b)⟩
theorem cL(h:cG P T N ops M J rest fr st):cG P T N ops M J rest fr st:=h
theorem qF{f:FuncId}{args:List LV}{R:LV->St->Prop}(h:aB P f args st R)(b:∀ r a,R r a->cG P T N ops M J rest (bL fr d r) a):Bi P T N ops M J rest d fr st f args:=⟨R,h,b⟩
theorem Ju{w:World}{t:TypeId}{e:TypeId}(f:P.underlying t=some (.slice e))(A:Option Addr)(n c:Nat)(x y:Operand):
 (do eqGuard .eql t x y (.slice A n c) (.slice none 0 0);binOp .eql t (.slice A n c) (.slice none 0 0):Sem Value).run P w=.ok (.bool A.isNone) w/\
 (do eqGuard .neq t x y (.slice A n c) (.slice none 0 0);binOp .neq t (.slice A n c) (.slice none 0 0):Sem Value).run P w=.ok (.bool (!A.isNone)) w:=by
 have b:∀ d,(Op.equalIn (d+1) t (.slice A n c) (.slice none 0 0)).run P w=.ok A.isNone w:=by intro d;cases A<;>simp[Op.equalIn,run_underlying f]
 have a:(Op.equal t (.slice A n c) (.slice none 0 0)).run P w=.ok A.isNone w:=b 9999;constructor
 .unfold eqGuard;simp[binOp,a]
 .unfold eqGuard;simp[binOp,a]
theorem IK(D:aZ P T){Q:AQ}{y:Bool}{n:Nat}(f:tC T o fr=some (y,n))
 (K:bB ops fr o.guard=some true) (H:kJ N ops o.guard=true) (S:pE N o.dst=true)
 (h:∀ b:Bool,(b=true->n=0)->Ae P N ops rest Q (bL fr o.dst (.atom (.bool (b != y)))) st):Ae P N ops (o::rest) Q fr st:=by
 intro a w g F q I E;have v:∃ b:Bool,(b=true->n=0)/\(execOp a.eval o).run P w=.ok (.value (.bool (b != y))) w:=by
  unfold tC at f
  split at f
  .rename_i R t x U j
   split at f
   .rename_i e O L r l p;simp only[ap,fx]at f;obtain⟨rfl,rfl⟩:=f;obtain⟨A,c,B,C⟩:=EW p (aD q x);have k:=Ju (P:=P) (w:=w) (cZ D r) A L c x (.const (.slice none 0 0));refine⟨A.isNone,fun z=>C (by simp_all),?_⟩;cases R<;>simp only[En,ap,reduceCtorEq]at l
    .subst l;have m:a.eval (.const (.slice none 0 0))=.slice none 0 0:=rfl;simp only[execOp,j,B,m];rw[Sem.run_bind,k.1];simp
    .subst l;have m:a.eval (.const (.slice none 0 0))=.slice none 0 0:=rfl;simp only[execOp,j,B,m];rw[Sem.run_bind,k.2];simp
   grind
  .grind
 obtain⟨b,z,k⟩:=v;have s:Region.wanted o (yielded ops a.tmps)=true:=eT q K (by rw[I];exact iS H);simp only[wpList,s,dE];left;unfold Oper.wp;rw[k,Oper.upon_value];exact h b z _ w g F (eD q (by grind) (by grind [Rep])) (by grind [cF]) (by grind [put_defers])
theorem NN{f:FuncId}{args:List LV}{R:LV->St->Prop}(h:aB P f (args.map norm) st R)(b:∀ r a,R r a->cG P T N ops M J rest (bL fr d r) a):Bi P T N ops M J rest d fr st f args:=⟨R,h.of_norm,b⟩
def cR(N:Nat)(ops:Array Oper)(l:List Oper):Bool:=l.all fun o=>pE N o.dst&&kJ N ops o.guard
theorem mC(c:aZ P T){Q:AQ}(j:∀ fr st,J fr st->Q .normal fr st):∀(rest:List Oper) (fr:af) (st:St),cR N ops rest=true->cG P T N ops M J rest fr st->Ae P N ops rest Q fr st
 |[],fr,st,_,h=>Pp (j _ _ h)
 |o::rest,fr,st,hk,h=>by
  simp only[cR,List.all_cons,fw]at hk;obtain⟨⟨k,l⟩,hk⟩:=hk;have m:=mC c j rest;have g:cR N ops rest=true:=hk;unfold cG at h;cases f:bB ops fr o.guard with
  |none=>grind
  |some b=>
   rw[f]at h;cases b with
   |false=>grind [Mv]
   |true=>
    have a:=h.1 rfl
    split at a
    .grind [Mw]
    .split at a
     .rename_i s n e;exact IK c e f l k (fun b p=>m _ _ g (a b p))
     .split at a
      .rename_i r q;exact VC f l k (xC c q a.1) (m _ _ g a.2)
      grind
theorem lS(a:aZ P T)(M:List Nat){Q:AQ}{id:Nat}(b:cR N ops ops.toList=true)
 (h:∀ J:af->St->Prop,(∀ fr st,Q .normal fr st->J fr st)->cG P T N ops M J ops.toList fr st):bq P N (.region id ops false) Q fr st:=
 KK (mC (M:=M) a (J:=fun fr st=>Q .normal fr st) (fun _ _ h=>h) _ _ _ b (h _ (fun _ _ h=>h)))
end
section
variable {P:Program} {T:az} {N:Nat} {ops:Array Oper} {M:List Nat} {fr:af} {st:St}
def hU(T:az)(ops:Array Oper)(J:af->St->Prop):List Oper->af->St->Prop
 |[],fr,st=>J fr st
 |o::rest,fr,st=>match bB ops fr o.guard with
  |some b=>(b=true->match fy T false o fr st with
    |some r=>r.c/\hU T ops J rest (bL fr o.dst r.v) st
    |none=>False)/\(b=false->hU T ops J rest (bL fr o.dst (.tu [])) st)
  |none=>False
def Je(T:az)(ops:Array Oper)(J:af->St->Prop)(rest:List Oper)(d:Option Nat)(fr:af)(st:St):Option bS->Prop
 |some r=>r.c/\hU T ops J rest (bL fr d r.v) st
 |none=>False
def wK(T:az)(ops:Array Oper)(J:af->St->Prop)(rest:List Oper)(o:Oper)(fr:af)(st:St):Option Bool->Prop
 |some b=>(b=true->Je T ops J rest o.dst fr st (fy T false o fr st))/\(b=false->hU T ops J rest (bL fr o.dst (.tu [])) st)
 |none=>False
theorem Yl{J:af->St->Prop}:hU T ops J [] fr st=J fr st:=rfl
theorem WR{J:af->St->Prop}{o:Oper}{rest:List Oper}:hU T ops J (o::rest) fr st=wK T ops J rest o fr st (bB ops fr o.guard):=by unfold hU wK;cases bB ops fr o.guard<;>rfl
theorem YK{J:af->St->Prop}{o:Oper}{rest:List Oper}:wK T ops J rest o fr st (some true)=Je T ops J rest o.dst fr st (fy T false o fr st):=by simp[wK]
theorem Ta{J:af->St->Prop}{o:Oper}{rest:List Oper}:wK T ops J rest o fr st (some false)=hU T ops J rest (bL fr o.dst (.tu [])) st:=by simp[wK]
theorem Wu{J:af->St->Prop}{d:Option Nat}{rest:List Oper}(r:bS):Je T ops J rest d fr st (some r)=(r.c/\hU T ops J rest (bL fr d r.v) st):=rfl
theorem rN(f:aZ P T){J:af->St->Prop}{w:World}{g:G}{R:Act->Prop}(k:Inv w g st)(e:∀ a fr,dY w g a fr->a.tmps.size=N->a.defers=[]->J fr st->R a):
 ∀(rest:List Oper) (fr:af) (a:Act),dY w g a fr->a.tmps.size=N->a.defers=[]->cR N ops rest=true->rest.all (fun o=>aL o.op)=true->hU T ops J rest fr st->wpStill P ops w R rest a
 |[],fr,a,hr,hs,hd,_,_,h=>e a fr hr hs hd h
 |o::rest,fr,a,hr,hs,hd,hk,hq,h=>by
  simp only[cR,List.all_cons,fw]at hk hq;obtain⟨⟨j,n⟩,hk⟩:=hk;have s:=rN f k e rest;have p:cR N ops rest=true:=hk;unfold hU at h;unfold wpStill;cases l:bB ops fr o.guard with
  |none=>grind
  |some b=>
   rw[l]at h;have c:Region.wanted o (yielded ops a.tmps)=b:=eT hr l (by rw[hs];exact iS n);rw[c];cases b with
   |false=>
    grind [eD,xK,cF,put_defers]
   |true=>
    simp only[dE];have d:=h.1 rfl
    split at d
    .rename_i r m;obtain⟨x,B,q,t,v,y,z,A⟩:=xC (N:=N) f m d.1 a w g k hr hs
     grind [Oper.still,Oper.stillUpon_value,eD,cF,put_defers]
    grind
theorem NX(e:aZ P T)(M:List Nat)(n:Nat){Q:AQ}{id:Nat}{l:List Oper}(v:P.follows .mixedOrders=true)(r:Region.lexTailB .any l.toArray n=true)(b:cR N l.toArray l=true)(x:(l.take n).all (fun o=>aL o.op)=true)
 (h:∀ J:af->St->Prop,(∀ fr st,Q .normal fr st->J fr st)->hU T l.toArray (fun fr st=>cG P T N l.toArray M J (l.drop n) fr st) (l.take n) fr st):bq P N (.region id l.toArray true) Q fr st:=by
 intro a w g f y z s;refine wp_region_still_tail n v r ?_;have A:cR N l.toArray (l.take n)=true:=by unfold cR at b ⊢;rw[kw]at b ⊢;exact fun o d=>b o (oz d)
 have B:cR N l.toArray (l.drop n)=true:=by unfold cR at b ⊢;rw[kw]at b ⊢;exact fun o d=>b o (ut d)
 have c:Ext w g { w with drawn:=w.drawn+1 } g:=eC w g;refine rN (w:={ w with drawn:=w.drawn+1 }) e f.drew (fun q UK k m j t=>?_) _ fr a (y.mono c) z s A x (h (fun fr st=>Q .normal fr st) (fun _ _ h=>h));exact dV (fun _ _ _ p=>p.pre c) _ _ _ (mC (M:=M) e (J:=fun fr st=>Q .normal fr st) (Q:=Q) (fun _ _ h=>h) _ _ _ B t q _ g f.drew k m j)
theorem OR(k:aZ P T){Q:AQ}{id:Nat}{l:List Oper}(q:P.follows .mixedOrders=true)(j:Region.lexB .any l.toArray=true)(p:cR N l.toArray l=true)(r:l.all (fun o=>aL o.op)=true)
 (h:∀ J:af->St->Prop,(∀ fr st,Q .normal fr st->J fr st)->hU T l.toArray J l fr st):bq P N (.region id l.toArray true) Q fr st:=by
 intro a w g c s t m;refine wp_region_still_lit q j ?_;have b:Ext w g { w with drawn:=w.drawn+1 } g:=eC w g;refine rN (w:={ w with drawn:=w.drawn+1 }) k c.drew (fun v UK e f d n=>?_) _ fr a (s.mono b) t m p r (h (fun fr st=>Q .normal fr st) (fun _ _ h=>h));exact⟨UK,st,g,n,c.drew,e,f,d,b⟩
end
section
variable {P:Program} {T:az} {N:Nat} {Q:AQ} {fr:af} {st:St} {c:Code}
theorem pR{w:World}{g:G}{a:Act}(h:dY w g a fr)(d:Nat){b:LV}(f:Rep w g b (a.tmps.getD d undef)):dY w g a (cY fr d b):=by
 intro i;unfold cY;by_cases e:i=d
 .grind
 .rw[ac e];exact h i
theorem uW(d e s:Nat)(k:fr d=.nil)(h:bq P N c Q (cY fr d (.sl st.z 0 [])) (st.new (.own e s 0))):bq P N c Q fr st:=by refine iY (fun a w g f j _=>?_) h;refine⟨g.addNil,jF f _ (.inl ⟨e,s,rfl⟩),pR (j.mono (ext_nil w g)) d ?_,ext_nil w g⟩;have b:=j d;rw[k]at b;simp only[Rep]at b ⊢;exact⟨none,0,b,au _,⟨je _,fun _=>rfl⟩,fun _=>by simp[G.addNil,f.z],fun h=>absurd rfl h⟩
theorem Xh(d:Nat){t n e:Nat}{cs:List LV}(q:fr d=.sl t n cs)(l:st.H t=.own e 1 n)(B:0<n)(s:t≠0)(h:bq P N c Q (cY fr d (.qu t 0 n cs)) (st.set t (.que e n))):bq P N c Q fr st:=by
 refine iY (fun a w g k m _=>?_) h;have j:=m d;rw[q]at j;simp only[Rep]at j;obtain⟨A,o,C,r,p,b,f⟩:=j;obtain⟨z,rfl,dF⟩:=b s;obtain⟨D,v,E,F⟩:=k.own t e 1 n l;have x:g.nl t=false:=by
  cases y:g.nl t with
  |false=>rfl
  |true=>grind
 obtain⟨I,J⟩:=Kb v;refine⟨g,EK k l x,pR m d ?_,Ext.refl w g⟩
 grind [Rep]
theorem BN(d e s:Nat)(k:fr d=.nil)(h:bq P N c Q (cY fr d (.ms st.z 0 0)) (st.new (.box e s []))):bq P N c Q fr st:=by refine iY (fun a w g f j _=>?_) h;refine⟨g.addNil,jF f _ (.inr ⟨e,s,rfl⟩),pR (j.mono (ext_nil w g)) d ?_,ext_nil w g⟩;have b:=j d;rw[k]at b;simp only[Rep]at b ⊢;exact⟨none,0,b,au _,je _,by simp[G.addNil,f.z],sS,by simp[G.addNil,f.z]⟩
theorem Kj(k:Nat){l e s:Nat}{b:List LV}(f:st.H l=.box e s b)(h:bq P N c Q fr (st.set l (.box e s (b.take k)))):bq P N c Q fr st:=
 iY (fun a w g d j _=>⟨g,tL d k f,j,Ext.refl w g⟩) h
def G.raise(g:G)(b k:Nat):G:={ g with φ:=fun x=>if x=b then some k else g.φ x }
theorem iH(d:Nat){l n e s:Nat}{y:List LV}(hd:fr d=.ms l 0 n)(Y:st.H l=.box e s y)(hn:n*s<=y.length)(a:Act)(w:World)(g:G)(r:Inv w g st)(L:dY w g a fr):
 ∃ F,Inv w F (st.set l .dead)/\dY w F a (cY fr d (.sl 0 n (y.take (n*s))))/\Ext w g w F:=by
 have dF:l<st.z:=Bq r Y sS;obtain⟨q1,q2,q3⟩:=r.box l e s y Y;have I:=L d;rw[hd]at I;simp only[Rep]at I;obtain⟨A,C,hv,K,J,hA,hA',_⟩:=I;cases O:g.nl l with
 |true=>
  obtain⟨P3,rfl⟩:=q2 O;refine⟨g,r.drop l dF,pR L d ?_,Ext.refl w g⟩
  grind [Rep]
 |false=>
  obtain⟨o8,k1,k2,k3,k4,k5⟩:=q3 O;have q:Ext w g w (g.raise (g.β l) (n*s)):=by
   refine⟨rfl,rfl,rfl,au _,au _,fun _ _=>rfl,fun _ _=>rfl,fun _ _=>rfl,?_,?_⟩
   .grind [G.raise]
   .intro b k hb t;by_cases p:b=g.β l
    .subst p;rw[k5]at t;injection t with t;subst t
     grind [G.raise]
    grind [G.raise]
  have m:=r.drop l dF;have p:∀ x,blk g (st.set l .dead) x->g.β x≠g.β l:=by
   intro x f hh;have X:x≠l/\blk g st x:=by
    unfold blk at f ⊢;simp only[St.set]at f;by_cases e0:x=l
    .grind
    .grind
   exact X.1 (r.inj x l X.2 (by grind [blk]) hh)
  refine⟨g.raise (g.β l) (n*s),⟨m.z,m.pos,m.fresh,m.lt,m.inj,?_,?_,fun x ag ks es f=>(m.mp x ag ks es f).keep q (m.map_lt f) rfl (by simp only[G.raise];rw[ac (p x (m.map_blk f))]),fun x e n f=>(m.qu x e n f).keep q (m.que_lt f) rfl (by simp only[G.raise];rw[ac (p x (m.que_blk f))]),m.aside.keep q fun _ _=>rfl⟩,pR (L.mono q) d ?_,q⟩
  .intro x E M n' f;obtain⟨U,V,W,z4⟩:=m.own x E M n' f;refine⟨U,V,W,fun o=>?_⟩;obtain⟨B,R,S,Z⟩:=z4 o;have v:=p x (by unfold blk;rw[f];exact o);exact⟨B,R,S,by grind [G.raise]⟩
  .intro x E M D f;obtain⟨U,V,W⟩:=m.box x E M D f;refine⟨U,V,fun o=>?_⟩;obtain⟨B,R,S,Z,y4,y5⟩:=W o;have v:=p x (by unfold blk;rw[f];exact o);exact⟨B,R,S,Z,aC.mono q _ _ y4,by grind [G.raise]⟩
  .obtain rfl:=(hA trivial).2 O;simp only[Rep];refine⟨_,C,hv,K,⟨J,sS⟩,fun h=>absurd rfl h,fun _=>⟨g.β l,0,rfl,iN _ (o8.take (n*s)) 0 ?_ (fun j hj=>?_) (fun j hj=>?_)⟩⟩
   .have:=fP (n*s) _ _ k4
    grind [aC.mono]
   .rw[cell_of_row w _ _ _ _ _ k1,jd]
    grind
   .intro k t
    grind [G.raise]
theorem nY(d:Nat){l n e s:Nat}{b:List LV}(f:fr d=.ms l 0 n)(k:st.H l=.box e s b)(m:n*s<=b.length)(h:bq P N c Q (cY fr d (.sl 0 n (b.take (n*s)))) (st.set l .dead)):bq P N c Q fr st:=
 iY (fun a w g j o _=>iH d f k m a w g j o) h
end
section
variable {P:Program} {T:az}
def tN(args:List LV):af:=fun i=>args.getD i .dead
def CK(T:az)(b:af)(c:St):ResultVar->Option bS
 |.tmp t=>some ⟨True,b t,c⟩
 |.cell a t=>CM T t (b a) c
def vC(T:az)(a:af)(b:St):List ResultVar->Option (Prop×List LV)
 |[]=>some (True,[])
 |r::rs=>match CK T a b r,vC T a b rs with
  |some x,some (c,l)=>some (x.c/\c,x.v::l)
  |_,_=>none
def one(l:List LV):LV:=match l with|[x]=>x|l=>.tu l
def yQ(T:az)(Q:LV->St->Prop)(b:af)(a:St)(d:List ResultVar):Prop:=
 match vC T b a d with
 |some (c,l)=>c/\Q (one l) a
 |none=>False
def Body(T:az)(b:List ResultVar)(Q:LV->St->Prop):AQ:=fun e a c=>match e with
 |.normal=>yQ T Q a c b
 |.ret=>yQ T Q a c b
 |_=>False
theorem RE{b:List ResultVar}{Q:LV->St->Prop}{a:af}{c:St}:Body T b Q .ret a c=yQ T Q a c b:=rfl
theorem HS{b:List ResultVar}{Q:LV->St->Prop}{a:af}{c:St}:Body T b Q .normal a c=yQ T Q a c b:=rfl
theorem xV(s:aZ P T){w:World}{g:G}{a:Act}{k:af}{p:St}(m:Inv w g p)(f:dY w g a k):∀(j:List ResultVar) (c:Prop) (l:List LV),vC T k p j=some (c,l)->c->
 ∃ d:List Value,(j.mapM fun|.tmp t=>pure (a.tmps.getD t undef)|.cell x t=>do loadVar t (<- asAddr (a.tmps.getD x undef)):Sem (List Value)).run P w=.ok d w/\aC w g l d
 |[],c,l,h,_=>by simp only[vC,ap,fx]at h;obtain⟨_,rfl⟩:=h;exact⟨[],sS,by grind [aC]⟩
 |r::j,c,l,h,hc=>by
  simp only[vC]at h
  split at h
  .rename_i x y B e A;simp only[ap,fx]at h;obtain⟨rfl,rfl⟩:=h;obtain⟨d,D,z⟩:=xV s m f j y B A hc.2;cases r with
   |tmp t=>simp only[CK,ap]at e;subst e;refine⟨a.tmps.getD t undef::d,?_,by simp only[aC];exact⟨_,_,rfl,f t,z⟩⟩;simp_all
   |cell q t=>
    simp only[CK]at e;obtain⟨_,u,H,I⟩:=BK s m e hc.1 (f q);refine⟨u::d,?_,by grind [aC]⟩;have E:∃ v,a.tmps.getD q undef=.pointer (some v):=by
     unfold CM at e;cases n:eN p (k q) with
     |none=>grind
     |some C=>
      obtain⟨b,o,d,F,_⟩:=Mq m n (f q)
      grind
    grind [Instr.loadAt,Instr.sureAddr,Sem.run_bind,Sem.run_pure,Result.andThen_ok,asAddr]
  grind
theorem qO(R:aZ P T){f:FuncId}{fn:Func}{c:Code}{args:List LV}{I:St}{Q:LV->St->Prop}{N:Nat}{H:List ResultVar}(hf:P.funcs[f]?=some fn)(D:fn.body=some c)
 (k:(fn.name== "runtime.NumGoroutine")=false) (O:fn.ntmps=N) (B:fn.results.toList=H) (E:args.length<=N) (h:bq P N c (AK P N (Body T H Q) []) (tN args) I):aB P f args I Q:=by
 refine⟨enters_of hf k D,fun w g m U F=>?_⟩;subst O B;have hl:=aM _ _ F;refine calls_of_wp hf D ?_;have L:(m.toArray++Array.replicate (fn.ntmps-m.toArray.size) undef).size=fn.ntmps:=by simp;omega
 refine Code.wp_mono (fun e A d p=>?_) (h { tmps:=m.toArray++Array.replicate (fn.ntmps-m.toArray.size) undef,defers:=[] } w g U ?_ L rfl)
 .obtain⟨UK,b,o,z,C,K,Y,J,S⟩:=p;rw[tF]at z;have s:yQ T Q UK b fn.results.toList->A.defers=[]/\∃ v,(results fn A.tmps).run P d=.ok v d/\(∃ t r b o,Ending.returned v=.returned t/\Q r b/\Rep d o r t/\Inv d o b/\Ext w g d o):=by
   intro y;unfold yQ at y;cases j:vC T UK b fn.results.toList with
   |none=>grind
   |some p=>
    obtain⟨c,l⟩:=p;rw[j]at y;obtain⟨us,n,M⟩:=xV R C K _ c l j y.1;have X:(results fn A.tmps).run P d=.ok (if h:us.toArray.size=1 then us.toArray[0]else .tuple us.toArray) d:=by unfold results;rw[Sem.run_bind,xt,Sem.run_map];exact congrArg (fun r:Result (List Value)=>(r.andThen fun a d=>Result.ok a.toArray d).andThen fun a d=>Sem.run P (pure (if h:a.size=1 then a[0]else Value.tuple a)) d) n
    refine⟨J,_,X,_,_,b,o,rfl,y.2,?_,C,S⟩;unfold one
    split
    .grind [aC]
    .rename_i Z;have:us.length≠1:=by
      intro n;rw[<- aM _ _ M]at n
      match l,n with
      |[x],_=>grind
     grind [Rep]
  cases e with
  |normal=>exact s z
  |ret=>exact s z
  |_=>exact z.elim
 .intro i;unfold tN;by_cases q:i<args.length
  .have n:args.getD i .dead=args[i]:=by simp[List.getD,q]
   obtain⟨v,W,V⟩:=vE i args m args[i] F (cg q);rw[n];have:(m.toArray++Array.replicate (fn.ntmps-m.toArray.size) undef).getD i undef=v:=by rw[jz,xq (by grind)];simp[W]
   grind
  grind [Rep]
theorem Hg{f:FuncId}{args:List LV}{b:St}{Q:LV->St->Prop}(h:aB P f args b fun r a=>Q (norm r) a):aB P f args b Q:=by refine⟨h.1,fun w g o l n=>(h.2 w g o l n).mono ?_⟩;rintro e p ⟨v,r,a,j,rfl,m,c,d,k⟩;exact⟨v,norm r,a,j,rfl,m,AU c,d,k⟩
theorem jU(e s:Nat){f:FuncId}{args:List LV}{k:St}{Q:LV->St->Prop}(h:aB P f args k fun r a=>(r=.nil/\Q (.ms a.z 0 0) (a.new (.box e s [])))\/Q r a):aB P f args k Q:=by
 refine⟨h.1,fun w g o m n=>(h.2 w g o m n).mono ?_⟩;rintro x p ⟨v,r,a,j,rfl,b,c,d,l⟩;rcases b with⟨rfl,b⟩|b
 .refine⟨v,_,_,j.addNil,rfl,b,?_,jF d _ (.inr ⟨e,s,rfl⟩),l.trans (ext_nil p j)⟩;simp only[Rep]at c;subst c;simp only[Rep,G.addNil,d.z]
  grind
 grind
theorem cE{f:FuncId}{args:List LV}{c:St}{Q:LV->St->Prop}(h:aB P f args c fun r a=>∃ l n e s b,r=.ms l 0 n/\a.H l=.box e s b/\n*s<=b.length/\Q (.sl 0 n (b.take (n*s))) (a.set l .dead)):aB P f args c Q:=by
 refine⟨h.1,fun w g B q A=>(h.2 w g B q A).mono ?_⟩;rintro x C ⟨v,r,a,d,rfl,⟨l,n,e,s,b,rfl,t,y,z⟩,J5,K7,he⟩
 obtain⟨k,m,o,p⟩:=iH (fr:=cY (fun _=>.dead) 0 (.ms l 0 n)) 0 rfl t y { tmps:=#[v],defers:=[] } C d K7 (by
  intro j;unfold cY;by_cases D:j=0
  .simp_all
  grind [Rep])
 exact⟨v,_,_,k,rfl,z,o 0,m,he.trans p⟩
theorem yO{f:FuncId}{args:List LV}{vs:List Value}{w:World}{R:Value->Prop}(g:iA w ⟨1,fun _=>none,fun _=>0,fun _=>0,fun _=>false⟩)(o:aC w ⟨1,fun _=>none,fun _=>0,fun _=>0,fun _=>false⟩ args vs)
 (h:aB P f args ⟨1,fun _=>.dead⟩ fun r _=>∃ v,r=.atom v/\R v):Calls P f vs.toArray w fun e d=>(∃ v,e=.returned v/\R v)/\Below w.heap.size w d:=by
 have j:Inv w ⟨1,fun _=>none,fun _=>0,fun _=>0,fun _=>false⟩ ⟨1,fun _=>.dead⟩:=by refine⟨rfl,by decide,fun _ _=>rfl,fun l a=>a.elim,fun l z a=>a.elim,fun l e s n a=>(by grind),fun l e s q a=>(by grind),fun l ag y t a=>(by grind),fun l e n a=>(by grind),tQ g fun _=>rfl⟩
 refine(h.2 w _ vs j o).mono ?_;rintro e d ⟨v,r,p,x,rfl,⟨A,rfl,b⟩,c,_,he⟩;simp only[Rep]at c;subst c;exact⟨⟨_,rfl,b⟩,⟨he.os,he.tape,he.output,he.size,fun k m=>(he.still k m rfl).2⟩⟩
end
end Aw
end Go.Proofs.YtbgngpdonpeboaaGreatDoor
