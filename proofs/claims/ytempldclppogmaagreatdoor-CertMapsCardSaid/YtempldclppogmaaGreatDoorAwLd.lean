/- Memory lent: a piece of code, or a call, reads what may be written to as mere values; behind it all is as it was. No program is named here. -/
import Derived.Test.YtempldclppogmaaGreatDoorAwTd
import Derived.Test.YtempldclppogmaaGreatDoorAwMr
set_option linter.unusedVariables false
set_option linter.unusedSimpArgs false
namespace Go.Proofs.YtempldclppogmaaGreatDoor.Aw
open Go Go.RowKit
mutual
def dU(n:Nat):LV→Bool
 |.atom _=>true
 |.ag cs=>mG n cs
 |.tu cs=>mG n cs
 |.fn _ cs=>mG n cs
 |.pt l _=>decide (l<n)
 |.mp l=>decide (l<n)
 |.nil=>true
 |.emp=>true
 |.dead=>true
 |_=>false
def mG(n:Nat):List LV→Bool
 |[]=>true
 |c::cs=>dU n c&&mG n cs
end
mutual
theorem aId{n:Nat}:∀(lv:LV),dU n lv=true→bel n lv
 |.dead,_=>trivial
 |.nil,_=>trivial
 |.emp,_=>trivial
 |.atom _,_=>trivial
 |.ag cs,h=>by simp only[dU,bel]at h ⊢;exact kU cs h
 |.tu cs,h=>by simp only[dU,bel]at h ⊢;exact kU cs h
 |.fn _ cs,h=>by simp only[dU,bel]at h ⊢;exact kU cs h
 |.pt l _,h=>by simp only[dU,bel]at h ⊢;simpa using h
 |.mp l,h=>by simp only[dU,bel]at h ⊢;simpa using h
 |.sl _ _ _,h=>by simp[dU]at h
 |.ms _ _ _,h=>by simp[dU]at h
 |.ep _,h=>by simp[dU]at h
 |.pe _ _,h=>by simp[dU]at h
 |.kap _ _ _,h=>by simp[dU]at h
 |.qu _ _ _ _,h=>by simp[dU]at h
theorem kU{n:Nat}:∀(cs:List LV),mG n cs=true→eD n cs
 |[],_=>trivial
 |c::cs,h=>by
  simp only[mG,Bool.and_eq_true]at h
  exact⟨aId c h.1,kU cs h.2⟩
end
mutual
theorem aKF{w w':World}{g g':G}(he:Ext w g.still w' g'):∀(lv:LV) (v:Value),dU g.next lv=true→Rep w' g' lv v→Rep w' (g.back g' w) lv v
 |.dead,_,_,_=>by simp only[Rep]
 |.nil,_,_,h=>h
 |.emp,_,_,h=>h
 |.atom _,_,_,h=>h
 |.ag cs,v,hf,h=>by
  simp only[dU,Rep]at hf h ⊢
  obtain⟨vs,h1,h2⟩:=h
  exact⟨vs,h1,nC he cs vs hf h2⟩
 |.tu cs,v,hf,h=>by
  simp only[dU,Rep]at hf h ⊢
  obtain⟨vs,h1,h2⟩:=h
  exact⟨vs,h1,nC he cs vs hf h2⟩
 |.fn f cs,v,hf,h=>by
  simp only[dU,Rep]at hf h ⊢
  obtain⟨vs,h1,h2⟩:=h
  exact⟨vs,h1,nC he cs vs hf h2⟩
 |.pt l o,v,hf,h=>h
 |.mp l,v,hf,h=>h
 |.sl _ _ _,_,hf,_=>by simp[dU]at hf
 |.ms _ _ _,_,hf,_=>by simp[dU]at hf
 |.ep _,_,hf,_=>by simp[dU]at hf
 |.pe _ _,_,hf,_=>by simp[dU]at hf
 |.kap _ _ _,_,hf,_=>by simp[dU]at hf
 |.qu _ _ _ _,_,hf,_=>by simp[dU]at hf
theorem nC{w w':World}{g g':G}(he:Ext w g.still w' g'):∀(cs:List LV) (vs:List Value),mG g.next cs=true→aG w' g' cs vs→aG w' (g.back g' w) cs vs
 |[],_,_,h=>h
 |c::cs,vs,hf,h=>by
  simp only[mG,aG,Bool.and_eq_true]at hf h ⊢
  obtain⟨v,vs',h0,h1,h2⟩:=h
  exact⟨v,vs',h0,aKF he c v hf.1 h1,nC he cs vs' hf.2 h2⟩
end
variable {P:Program}
end Go.Proofs.YtempldclppogmaaGreatDoor.Aw
