/- Short words for logical values; the rules by which a walk is simplified. -/
import Derived.Test.YtempldclppogmaaGreatDoorAwTab
set_option linter.unusedVariables false
set_option linter.unusedSimpArgs false
namespace Go.Proofs.YtempldclppogmaaGreatDoor.Aw
open Go Go.RowKit
abbrev u(n:Int):LV:=.atom (.int .u32 n)
abbrev i(n:Int):LV:=.atom (.int .i64 n)
abbrev bb(b:Bool):LV:=.atom (.bool b)
abbrev us(l:List Int):List LV:=l.map u
theorem oG(fr:Frm)(i j:Nat)(v:LV):upd fr i v j=if j=i then v else fr j:=rfl
theorem bI(st:St)(o:cA)(l:Nat):(st.new o).H l=if l=st.next then o else st.H l:=rfl
theorem aC(st:St)(o:cA):(st.new o).next=st.next+1:=rfl
theorem bH(st:St)(q:Nat)(o:cA)(l:Nat):(st.set q o).H l=if l=q then o else st.H l:=rfl
theorem nHh{S:St}{o:cA}{l:Nat}(h:¬l=S.next):(S.new o).H l=S.H l:=by rw[bI,if_neg h]
theorem nIi{S:St}{o:cA}{l:Nat}(h:l=S.next):(S.new o).H l=o:=by rw[bI,if_pos h]
theorem sHh{S:St}{o:cA}{q l:Nat}(h:¬l=q):(S.set q o).H l=S.H l:=by rw[bH,if_neg h]
theorem sIi{S:St}{o:cA}{q l:Nat}(h:l=q):(S.set q o).H l=o:=by rw[bH,if_pos h]
theorem nOo{p:Prop}(h:p:=by(try simp only[aQ,aC]);omega):p:=h
theorem nQq{p:Prop}(h:p:=by(try simp only[aQ,aC])):p:=h
theorem aQ(st:St)(q:Nat)(o:cA):(st.set q o).next=st.next:=rfl
structure aA(st st':St):Prop where
 next:st.next≤st'.next
 H:∀ l,l<st.next→st'.H l=st.H l
theorem aA.refl(st:St):aA st st:=⟨Nat.le_refl _,fun _ _=>rfl⟩
theorem aA.trans{a b c:St}(h:aA a b)(k:aA b c):aA a c:=⟨Nat.le_trans h.next k.next,fun l hl=>(k.H l (Nat.lt_of_lt_of_le hl h.next)).trans (h.H l hl)⟩
theorem aA.new(st:St)(o:cA):aA st (st.new o):=⟨Nat.le_succ _,fun l hl=>by rw[bI,if_neg oO]⟩
theorem aA.set{a b:St}(h:aA a b){q:Nat}(hq:a.next≤q)(o:cA):aA a (b.set q o):=⟨h.next,fun l hl=>by rw[bH,if_neg oO];exact h.H l hl⟩
section
variable {P:Program} {T:Tab} {N:Nat} {ops:Array Oper} {M B:List Nat} {J:Frm→St→Prop} {rest:List Oper} {d:Option Nat} {fr:Frm} {st st0:St} {π:List (Nat×Bool×Oper)} {nd:Bool}
theorem qE{f:FuncId}{args args':List LV}{R:LV→St→Prop}(h:aB P f args' st R)(ha:args.map norm=args')(hk:∀ r st',R r st'→cD P T N ops M J rest (bK fr d r) st'):zF P T N ops M J rest d fr st f args:=by
 subst ha;exact aGZ h hk
theorem qD{f:FuncId}{args args':List LV}{R:LV→St→Prop}(h:aB P f args' st R)(ha:args.map norm=args')(hk:∀ r st',R r st'→(nd=true→SB B st0 st')∧dM P T ops M B st0 J π (bK fr d r) st'):aAG P T ops M B st0 J π nd d fr st f args:=by
 subst ha;exact aO h.of_norm hk
end
theorem kA{w:World}{g:G}{x:LV}{post:List LV}:∀(pre:List LV) (vs:List Value),aG w g (pre++x::post) vs→∃ v,Rep w g x v∧∀ g' y,Ext w g w g'→Rep w g' y v→aG w g' (pre++y::post) vs
 |[],vs,h=>by
  simp only[List.nil_append,aG]at h ⊢
  obtain⟨v,vs',rfl,h1,h2⟩:=h
  exact⟨v,h1,fun g' y he hy=>⟨v,vs',rfl,hy,aG.mono he _ _ h2⟩⟩
 |c::pre,vs,h=>by
  simp only[List.cons_append,aG]at h ⊢
  obtain⟨v,vs',rfl,h1,h2⟩:=h
  obtain⟨u,k1,k2⟩:=kA pre vs' h2
  exact⟨u,k1,fun g' y he hy=>⟨v,vs',rfl,Rep.mono he _ _ h1,k2 g' y he hy⟩⟩
theorem rT{P:Program}{f:FuncId}{pre post:List LV}{st:St}{Q:LV→St→Prop}{l n e s:Nat}{cs:List LV}(hl:st.H l=.box e s cs)(hn:n*s≤cs.length)(h:aB P f (pre++.sl 0 n (cs.take (n*s))::post) (st.set l .dead) Q):aB P f (pre++.ms l 0 n::post) st Q:=by
 refine⟨h.1,fun w g vs hi hr=>?_⟩
 obtain⟨v,h1,h2⟩:=kA pre vs hr
 obtain⟨g',k1,k2,k3⟩:=eZ (fr:=upd (fun _=>.dead) 0 (.ms l 0 n)) 0 rfl hl hn { tmps:=#[v],defers:=[] } w g hi (by
  intro j
  unfold upd
  by_cases hj:j=0
  ·subst hj;rw[if_pos rfl];exact h1
  ·rw[if_neg hj];simp only[Rep])
 refine(h.2 w g' vs k1 (h2 g' _ k3 (k2 0))).mono ?_
 rintro x w' ⟨v,r,st',g2,rfl,hq,hrep,hi',he⟩
 exact⟨v,r,st',g2,rfl,hq,hrep,hi',k3.trans he⟩
theorem ak:(∀(P:Program) (N:Nat) (Q:AQ) (e:Exit) (fr:Frm) (st:St),AK P N Q [] e fr st=Q e fr st)∧
 (∀(P:Program) (N:Nat) (Q:AQ) (k:List eM) (c:Code) (fr:Frm) (st:St),AK P N Q (.code c::k) .normal fr st=AWp P N c (AK P N Q k) fr st∧(∀ i,AK P N Q (.code c::k) (.exit i) fr st=AK P N Q k (.exit i) fr st)∧AK P N Q (.code c::k) .ret fr st=AK P N Q k .ret fr st)∧
 (∀(P:Program) (N:Nat) (Q:AQ) (k:List eM) (id:Nat) (fr:Frm) (st:St),AK P N Q (.blk id::k) .normal fr st=AK P N Q k .normal fr st∧AK P N Q (.blk id::k) .ret fr st=AK P N Q k .ret fr st∧∀ i,AK P N Q (.blk id::k) (.exit i) fr st=if i=id then AK P N Q k .normal fr st else AK P N Q k (.exit i) fr st)∧
 (∀(P:Program) (N:Nat) (Q:AQ) (k:List eM) (J:Frm→St→Prop) (fr:Frm) (st:St),AK P N Q (.head J::k) .normal fr st=J fr st∧(∀ i,AK P N Q (.head J::k) (.exit i) fr st=AK P N Q k (.exit i) fr st)∧AK P N Q (.head J::k) .ret fr st=AK P N Q k .ret fr st)∧
 (∀(T:Tab) (rs:List ResultVar) (Q:LV→St→Prop) (fr:Frm) (st:St),Body T rs Q .ret fr st=tO T Q fr st rs∧Body T rs Q .normal fr st=tO T Q fr st rs):=
 ⟨fun _ _ _ _ _ _=>rfl,fun _ _ _ _ _ _ _=>⟨rfl,fun _=>rfl,rfl⟩,fun _ _ _ _ _ _ _=>⟨rfl,rfl,fun _=>rfl⟩,fun _ _ _ _ _ _ _=>⟨rfl,fun _=>rfl,rfl⟩,fun _ _ _ _ _=>⟨rfl,rfl⟩⟩
attribute [simp] aED aPp bB aIR aFE aMP aIl oK aAL oR qU aop aOm aNI bK oG aH aBG bW aDD aMw aMU wW dJ aKx rS iH vW dG yD aNh aIA pQ uB aLV cX aBl aAU lU nA xL cZ jC aLU aMJ aMS uV aNF uS aAV aAp cL nL aHZ oX rE norm dR inM fM
attribute [simp] aPy aOV aMa aOo aRA aRR d_a aRs aRa d_l aOA aNP aS dQ jP aHT rR aCG aOy aKT
attribute [simp] List.take_of_length_le
attribute [simp] sameBox pO aFp lC mQ xM nilPtr aDL aBJ isStr yY gK lB pR pL aLy rA eW jX aJd
attribute [simp] aPj aOF aOL aLj aNX
attribute [simp] oP eD aBD tF aOC aEZ jE uA aAN aCg fQ aKp aDA tO pC yG one
@[simp] theorem aQR(c:LV)(cs:List LV):hdL (c::cs)=c:=rfl
attribute [simp] bI aC bH aQ
section
variable {N:Nat} {Q:AQ} {fr:Frm} {st:St} {id:Nat}
theorem ca{a b:Prop}(hb:b)(ha:a:=by first|omega|assumption|(simp only[maxLen];omega)|decide):a∧b:=⟨ha,hb⟩
theorem w_e{ops:Array Oper}(M:List Nat)(h:∀ J:Frm→St→Prop,(∀ fr st,Q .normal fr st→J fr st)→cD Tryz.prog tab N ops M J ops.toList fr st)(hk:cE N ops ops.toList=true:=by exact rfl):AWp Tryz.prog N (.region id ops false) Q fr st:=eN aF M hk h
theorem w_q{l:List Oper}(h:∀ J:Frm→St→Prop,(∀ fr st,Q .normal fr st→J fr st)→eU tab l.toArray J l fr st)(hm:Tryz.prog.follows .mixedOrders=true:=by kernel_rfl)(hB:Region.lexB .any l.toArray=true:=by kernel_rfl)(hk:cE N l.toArray l=true:=by exact rfl)(hq:l.all (fun o=>aS o.op)=true:=by exact rfl):AWp Tryz.prog N (.region id l.toArray true) Q fr st:=aGB aF hm hB hk hq h
theorem w_s{ops:Array Oper}(M B:List Nat)(π:List (Nat×Bool))(h:∀ J:Frm→St→Prop,(∀ fr st,Q .normal fr st→J fr st)→dM Tryz.prog tab ops M B st J (pick ops π) fr st)(hm:Tryz.prog.follows .mixedOrders=true:=by kernel_rfl)(hk:cE N ops ops.toList=true:=by exact rfl)
 (hπ:(kY ops ((pick ops π).map (·.1)) (Array.replicate ops.size false)&&((pick ops π).length==ops.size)&&(π.all fun p=>!iB ops p.1||p.2))=true:=by kernel_rfl):AWp Tryz.prog N (.region id ops true) Q fr st:=aHO aF M B π hm hk hπ h
end
end Go.Proofs.YtempldclppogmaaGreatDoor.Aw
