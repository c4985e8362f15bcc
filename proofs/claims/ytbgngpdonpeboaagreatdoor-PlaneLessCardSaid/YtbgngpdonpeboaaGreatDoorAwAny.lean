/- Regions in which operations may come in many orders: what holds whatever has been done. -/
import Derived.Test.YtbgngpdonpeboaaGreatDoorAwAlt
set_option linter.defProp false
set_option linter.unusedVariables false
set_option linter.unusedSimpArgs false
open Go.Proofs.Tryz
namespace Go.Proofs.YtbgngpdonpeboaaGreatDoor
namespace Aw
open Go Go.RowKit
def CR{a:Array Oper}{listed:Array Bool}{i:Nat}(h:i∈Region.ready .any a listed):listed.getD i true=false/\∀ o,a[i]?=some o->∀ e∈o.after,Region.binds .any e=true->listed.getD e.on false=true:=by unfold Region.ready at h;obtain⟨j,b⟩:=cx.1 h;simp only[fw,ta]at b;refine⟨b.1,fun o g e f d=>?_⟩;have c:=b.2;rw[g]at c;simp only[Option.map_some,Option.getD_some]at c;have:=Array.all_eq_true'.1 c e f;simpa[d]using this
def PJ{a:Array Oper}{listed:Array Bool}(h:Region.ready .any a listed=[]){i:Nat}{o:Oper}(c:a[i]?=some o)(d:∀ e∈o.after,Region.binds .any e=true->listed.getD e.on false=true):listed.getD i true=true:=by
 refine fv fun g=>?_;have:i∈Region.ready .any a listed:=by
  unfold Region.ready;refine cx.2 ⟨fC.2 (fu.1 c).1,?_⟩;rw[c];simp only[fw,ta];refine⟨by simpa using g,?_⟩;simp only[Option.map_some,Option.getD_some];refine Array.all_eq_true'.2 fun e f=>?_;by_cases b:Region.binds .any e=true
  .simp[d e f b]
  .simp[b]
 rw[h]at this;cases this
def Aq(listed:Array Bool):Nat:=listed.toList.countP (·==false)
def BE{listed:Array Bool}{i:Nat}(h:listed.getD i true=false):Aq (listed.setIfInBounds i true)+1=Aq listed:=by
 have a:i<listed.size:=by refine fv fun d=>?_;rw[jz,uo oO]at h;cases h
 have c:listed[i]=false:=by rw[jz,mA a]at h;exact h
 unfold Aq;rw[xr,qd,ad (by simpa using a)];have e:listed.toList=listed.toList.take i++listed.toList[i]'(by simpa using a)::listed.toList.drop (i+1):=by rw[<- ir (by simpa using a),gd]
 have b:listed.toList[i]'(by simpa using a)=false:=by simpa using c
 rw[b]at e
 conv=>rhs;rw[e]
 simp only[List.countP_append,List.countP_cons];simp;omega
section
variable {ops:Array Oper} {M B:List Nat} {j8:St} {J:af->St->Prop}
theorem JK(I:Array Bool->af->St->Prop)
 (g:∀ listed b a i,I listed b a->i∈Region.ready .any ops listed->∃ o,ops[i]?=some o/\iG prog tab ops M o (fun UK c=>Kx ops (SB B j8) i o a c/\I (listed.setIfInBounds i true) UK c) b a)
 (f:∀ listed b a,I listed b a->Region.ready .any ops listed=[]->J b a):∀(n:Nat) (listed:Array Bool) (b:af) (a:St),Aq listed<=n->I listed b a->jR prog tab ops M (SB B j8) J n listed b a
 |0,listed,b,a,hn,hI=>by
  have e:Region.ready .any ops listed=[]:=by refine ov.2 fun i d=>?_;have:=BE (CR d).1;omega
  exact⟨e,f listed b a hI e⟩
 |n+1,listed,b,a,hn,hI=>by refine⟨fun e=>f listed b a hI e,fun i d=>?_⟩;obtain⟨o,j,h⟩:=g listed b a i hI d;have:=BE (CR d).1;exact⟨o,j,h.mono fun UK c h=>⟨h.1,JK I g f n _ UK c oO h.2⟩⟩
end
def qQ(listed:Array Bool)(k:Nat):Bool:=listed.getD k false
def TJ{listed:Array Bool}{i:Nat}(h:listed.getD i true=false):qQ (listed.setIfInBounds i true)=fun k=>decide (k=i)||qQ listed k:=by
 have b:i<listed.size:=by refine fv fun c=>?_;rw[jz,uo oO]at h;cases h
 funext k
 unfold qQ;rw[jz,jz,mv];by_cases a:i=k
 .subst a;simp[b]
 .rw[ac a,ls (fun e=>a e.symm),Bool.false_or]
def TO{listed:Array Bool}{i:Nat}(h:listed.getD i true=false):qQ listed i=false:=by
 unfold qQ;rw[jz]at h ⊢;cases a:listed[i]? with
 |none=>rfl
 |some b=>rw[a]at h;exact h
section
variable {N:Nat} {Q:AQ} {fr:af} {st:St} {id:Nat}
theorem WG{a:Array Oper}(M B:List Nat)(I:(Nat->Bool)->af->St->Prop)(q:I (fun _=>false) fr st)
 (x:∀(L:Nat->Bool) UK b i o,I L UK b->a[i]?=some o->L i=false->(∀ e∈o.after,Region.binds .any e=true->L e.on=true)->
   iG prog tab a M o (fun f c=>(if aL o.op=true then c=b else SB B st c)/\I (fun k=>decide (k=i)||L k) f c) UK b)
 (t:∀(L:Nat->Bool) UK b,I L UK b->(∀ i o,a[i]?=some o->(∀ e∈o.after,Region.binds .any e=true->L e.on=true)->L i=true)->Q .normal UK b)
 (w:prog.follows .mixedOrders=true:=by kernel_rfl) (v:cR N a a.toList=true:=by exact rfl):bq prog N (.region id a true) Q fr st:=
 w_a M B (fun J r=>JK (fun l fr st=>l.size=a.size/\I (qQ l) fr st) (fun listed UK b i n j=>by
  obtain⟨d,g⟩:=CR j;have dF:i<a.size:=by unfold Region.ready at j;exact fC.1 (cx.1 j).1
  refine⟨a[i],mA dF,?_⟩;have:=x (qQ listed) UK b i a[i] n.2 (mA dF) (TO d) (g _ (mA dF));refine this.mono fun f c h=>⟨by unfold Kx;have d:=h.1;split at d<;>simp_all,by simp[n.1],?_⟩;rw[TJ d]
  exact h.2) (fun l UK b d g=>r _ _ (t (qQ l) UK b d.2 fun i o p s=>by
   have m:=PJ g p s;have h:i<l.size:=by rw[d.1];exact(fu.1 p).1
   unfold qQ;rw[jz,mA h]at m ⊢
   exact m)) a.size _ fr st (by
  unfold Aq;rw[Array.toList_replicate,List.countP_replicate]
  simp) (by
   have e:qQ (Array.replicate a.size false)=fun _=>false:=by
    funext k;unfold qQ;rw[jz,Array.getElem?_replicate];split<;>rfl
   refine⟨sS,?_⟩
   rw[e];exact q)) w v
end
end Aw
end Go.Proofs.YtbgngpdonpeboaaGreatDoor
