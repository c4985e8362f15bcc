/- Slices as mere values; a box whose cells are told otherwise; an empty cell that becomes a row of the call's own. -/
import Derived.Test.YtbgngpdonpeboaaGreatDoorAwSet
set_option linter.unusedVariables false
set_option linter.unusedSimpArgs false
namespace Go.Proofs.YtbgngpdonpeboaaGreatDoor
namespace Aw
open Go Go.RowKit
mutual
def z0:LV->LV
 |.sl _ n cs=>.sl 0 n (z0L cs)
 |.nil=>.sl 0 0 []
 |.emp=>.sl 0 0 []
 |.ag cs=>.ag (z0L cs)
 |.tu cs=>.tu (z0L cs)
 |x=>x
def z0L:List LV->List LV
 |[]=>[]
 |c::cs=>z0 c::z0L cs
end
theorem oE(l:List LV):z0L l=l.map z0:=by
 induction l with
 |nil=>rfl
 |cons x l ih=>grind [z0L]
mutual
theorem Ja{w:World}{g:G}:∀(lv:LV) (v:Value),Rep w g lv v->Rep w g (z0 lv) v
 |.sl t n cs,v,h=>by
  simp only[Rep,z0]at h ⊢;obtain⟨A,cap,h1,h2,h3,_,h5⟩:=h;refine⟨A,cap,h1,h2,h3,fun h=>absurd rfl h,fun c7=>?_⟩;cases cs with
  |nil=>grind [z0L]
  |cons c cs=>obtain⟨b,o,h6,h7⟩:=h5 sS;exact⟨b,o,h6,EF b (c::cs) o h7⟩
 |.nil,v,h=>by
  grind [Rep,z0]
 |.emp,v,h=>by
  grind [Rep,z0]
 |.ag cs,v,h=>by simp only[Rep,z0]at h ⊢;obtain⟨vs,h1,h2⟩:=h;exact⟨vs,h1,AJ cs vs h2⟩
 |.tu cs,v,h=>by simp only[Rep,z0]at h ⊢;obtain⟨vs,h1,h2⟩:=h;exact⟨vs,h1,AJ cs vs h2⟩
 |.dead,_,h=>h
 |.atom _,_,h=>h
 |.ms _ _ _,_,h=>h
 |.pt _ _,_,h=>h
 |.ep _,_,h=>h
 |.mp _,_,h=>h
 |.fn _ _,_,h=>h
 |.qu _ _ _ _,_,h=>h
 |.pe _ _,_,h=>h
 |.kap _ _ _,_,h=>h
theorem AJ{w:World}{g:G}:∀(cs:List LV) (vs:List Value),aC w g cs vs->aC w g (z0L cs) vs
 |[],vs,h=>h
 |c::cs,vs,h=>by simp only[aC,z0L]at h ⊢;obtain⟨v,vs',rfl,h1,h2⟩:=h;exact⟨v,vs',rfl,Ja c v h1,AJ cs vs' h2⟩
theorem EF{w:World}{g:G}(b:Nat):∀(cs:List LV) (o:Nat),aN w g b cs o->aN w g b (z0L cs) o
 |[],_,h=>h
 |c::cs,o,h=>by simp only[aN,z0L]at h ⊢;obtain⟨⟨v,h1,h2,h3⟩,h4⟩:=h;exact⟨⟨v,h1,Ja c v h2,h3⟩,EF b cs (o+1) h4⟩
end
theorem eU{P:Program}{f:FuncId}{args:List LV}{st:St}{Q:LV->St->Prop}(h:aB P f args st fun r st'=>Q (z0 r) st'):aB P f args st Q:=by refine⟨h.1,fun w g vs hi hr=>(h.2 w g vs hi hr).mono ?_⟩;rintro e w' ⟨v,r,st',g',rfl,hq,K9,M4,he⟩;exact⟨v,z0 r,st',g',rfl,hq,Ja _ _ K9,M4,he⟩
theorem FC{P:Program}{f:FuncId}{args:List LV}{st:St}{Q:LV->St->Prop}(h:aB P f (z0L args) st Q):aB P f args st Q:=
 ⟨h.1,fun w g vs hi hr=>h.2 w g vs hi (AJ _ _ hr)⟩
section
variable {P:Program} {T:Tab} {N:Nat} {ops:Array Oper} {M B:List Nat} {J:Frm->St->Prop} {rest:List Oper} {d:Option Nat} {fr:Frm} {st j9:St} {π:List (Nat×Bool×Oper)} {nd:Bool}
theorem Dj{f:FuncId}{args T8:List LV}{R:LV->St->Prop}(h:aB P f T8 st R)(ha:z0L args=T8)(hk:∀ r st',R r st'->cM P T N ops M J rest (bM fr d r) st'):CO P T N ops M J rest d fr st f args:=by subst ha;exact qF (FC h) hk
end
@[simp] theorem K8(n:Int):z0 (u n)=u n:=rfl
@[simp] theorem K7(n:Int):z0 (i n)=i n:=rfl
@[simp] theorem Hg(l:List Int):z0L (us l)=us l:=by rw[oE];simp[us]
theorem Bo{w:World}{g:G}{st:St}(hi:Inv w g st){l e s:Nat}{cs cs':List LV}(hl:st.H l=.box e s cs)(hlen:cs'.length=cs.length)(hr:∀ vs,aC w g cs vs->aC w g cs' vs):Inv w g (st.set l (.box e s cs')):=by
 have hb:∀ x,blk g (st.set l (.box e s cs')) x↔blk g st x:=by
  intro x;unfold blk;simp only[St.set];by_cases hx:x=l
  .grind
  .grind
 have dA:l<st.next:=BN hi hl sS;refine⟨hi.next,hi.pos,?_,fun x hx=>hi.lt x ((hb x).1 hx),fun x y hx hy=>hi.inj x y ((hb x).1 hx) ((hb y).1 hy),?_,?_,?_,?_,hi.aside.keep (Ext.refl w g) (jJ rfl)⟩
 .intro x hx;simp only[St.set]at hx ⊢;rw[aAa oO];exact hi.fresh x hx
 .intro x e' s' n hx;simp only[St.set]at hx;by_cases h0:x=l
  .grind
  .rw[aAa h0]at hx;exact hi.own x e' s' n hx
 .intro x e' s' c hx;simp only[St.set]at hx;by_cases h0:x=l
  .subst h0;rw[aAj rfl]at hx;injection hx with a b c';subst a b c';obtain⟨k1,k2,k3⟩:=hi.box x e s cs hl
   grind
  .rw[aAa h0]at hx;exact hi.box x e' s' c hx
 .intro x ag ks es hx;simp only[St.set]at hx;by_cases h0:x=l
  .grind
  .rw[aAa h0]at hx;exact hi.mp x ag ks es hx
 .intro x e n hx;simp only[St.set]at hx;by_cases h0:x=l
  .grind
  .rw[aAa h0]at hx;exact hi.qu x e n hx
theorem Cc{P:Program}{N:Nat}{Q:AQ}{fr:Frm}{st:St}{c:Code}(q e' s':Nat){e s:Nat}(pre post:List LV)(hH:st.H q=.box e s (pre++.nil::post))
 (h:AWp P N c Q fr ((st.new (.own e' s' 0)).set q (.box e s (pre++.sl st.next 0 []::post)))):AWp P N c Q fr st:=by
 refine jA (fun a w g hi hr _=>?_) h;have he:=ext_nil w g;have h1:Inv w g.addNil (st.new (.own e' s' 0)):=jH hi _ (.inl ⟨e',s',rfl⟩);have dA:q<st.next:=BN hi hH sS;refine⟨g.addNil,Bo h1 (cs:=pre++.nil::post) (by grind [bY]) sS (fun vs hv=>?_),hr.mono he,he⟩;obtain⟨v,k1,k2⟩:=nD pre vs hv;refine k2 g.addNil _ (Ext.refl _ _) ?_;simp only[Rep]at k1 ⊢;exact⟨none,0,k1,aAl _,⟨aBI _,fun _=>rfl⟩,fun _=>by simp[G.addNil,hi.next],fun h=>absurd rfl h⟩
end Aw
end Go.Proofs.YtbgngpdonpeboaaGreatDoor
