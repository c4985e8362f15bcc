/- Memory lent: a piece of code, or a call, reads what may be written to as mere values; behind it all is as it was. No program is named here. -/
import Derived.Test.YtempldclppogmaaGreatDoorAwTd
import Derived.Test.YtempldclppogmaaGreatDoorAwMr
set_option linter.unusedVariables false
set_option linter.unusedSimpArgs false
namespace Go.Proofs.YtempldclppogmaaGreatDoor.Aw
open Go Go.RowKit
mutual
def dW(n:Nat):LV→Bool
 |.atom _=>true
 |.ag cs=>mP n cs
 |.tu cs=>mP n cs
 |.fn _ cs=>mP n cs
 |.pt l _=>decide (l<n)
 |.mp l=>decide (l<n)
 |.nil=>true
 |.emp=>true
 |.dead=>true
 |_=>false
def mP(n:Nat):List LV→Bool
 |[]=>true
 |c::cs=>dW n c&&mP n cs
end
mutual
theorem aIh{n:Nat}:∀(lv:LV),dW n lv=true→bel n lv
 |.dead,_=>trivial
 |.nil,_=>trivial
 |.emp,_=>trivial
 |.atom _,_=>trivial
 |.ag cs,h=>by simp only[dW,bel]at h ⊢;exact kT cs h
 |.tu cs,h=>by simp only[dW,bel]at h ⊢;exact kT cs h
 |.fn _ cs,h=>by simp only[dW,bel]at h ⊢;exact kT cs h
 |.pt l _,h=>by simp only[dW,bel]at h ⊢;simpa using h
 |.mp l,h=>by simp only[dW,bel]at h ⊢;simpa using h
 |.sl _ _ _,h=>by simp[dW]at h
 |.ms _ _ _,h=>by simp[dW]at h
 |.ep _,h=>by simp[dW]at h
 |.pe _ _,h=>by simp[dW]at h
 |.kap _ _ _,h=>by simp[dW]at h
 |.qu _ _ _ _,h=>by simp[dW]at h
theorem kT{n:Nat}:∀(cs:List LV),mP n cs=true→eE n cs
 |[],_=>trivial
 |c::cs,h=>by
  simp only[mP,Bool.and_eq_true]at h
  exact⟨aIh c h.1,kT cs h.2⟩
end
mutual
theorem aJX{w w':World}{g g':G}(he:Ext w g.still w' g'):∀(lv:LV) (v:Value),dW g.next lv=true→Rep w' g' lv v→Rep w' (g.back g' w) lv v
 |.dead,_,_,_=>by simp only[Rep]
 |.nil,_,_,h=>h
 |.emp,_,_,h=>h
 |.atom _,_,_,h=>h
 |.ag cs,v,hf,h=>by
  simp only[dW,Rep]at hf h ⊢
  obtain⟨vs,h1,h2⟩:=h
  exact⟨vs,h1,nO he cs vs hf h2⟩
 |.tu cs,v,hf,h=>by
  simp only[dW,Rep]at hf h ⊢
  obtain⟨vs,h1,h2⟩:=h
  exact⟨vs,h1,nO he cs vs hf h2⟩
 |.fn f cs,v,hf,h=>by
  simp only[dW,Rep]at hf h ⊢
  obtain⟨vs,h1,h2⟩:=h
  exact⟨vs,h1,nO he cs vs hf h2⟩
 |.pt l o,v,hf,h=>h
 |.mp l,v,hf,h=>h
 |.sl _ _ _,_,hf,_=>by simp[dW]at hf
 |.ms _ _ _,_,hf,_=>by simp[dW]at hf
 |.ep _,_,hf,_=>by simp[dW]at hf
 |.pe _ _,_,hf,_=>by simp[dW]at hf
 |.kap _ _ _,_,hf,_=>by simp[dW]at hf
 |.qu _ _ _ _,_,hf,_=>by simp[dW]at hf
theorem nO{w w':World}{g g':G}(he:Ext w g.still w' g'):∀(cs:List LV) (vs:List Value),mP g.next cs=true→aG w' g' cs vs→aG w' (g.back g' w) cs vs
 |[],_,_,h=>h
 |c::cs,vs,hf,h=>by
  simp only[mP,aG,Bool.and_eq_true]at hf h ⊢
  obtain⟨v,vs',h0,h1,h2⟩:=h
  exact⟨v,vs',h0,aJX he c v hf.1 h1,nO he cs vs' hf.2 h2⟩
end
variable {P:Program}
end Go.Proofs.YtempldclppogmaaGreatDoor.Aw
