/- The arguments' shapes, by the program's types: rows of numbers, edges, graphs, maps. -/
import Derived.Test.YtiiejclelbilkaaGreatDoorAwArg
import Derived.Test.YtiiejclelbilkaaGreatDoorAwSet
namespace Go.Proofs.YtiiejclelbilkaaGreatDoor.Aw
open Go Go.RowKit
set_option linter.unusedSimpArgs false
set_option linter.unusedVariables false
def U32 (x:Int):Prop:=0≤x∧x < 4294967296
structure Ed where
 id:Int
 a:Int
 b:Int
 deriving DecidableEq
abbrev edL (e:Ed):List LV:=[u e.id,u e.a,u e.b]
abbrev eds (l:List Ed):List LV:=l.flatMap edL
theorem shp_int {t:Nat} {r:TRow} {k:IntKind} (ht:tab t=some r) (hd:r.d=.int k) {lvs:List LV} (h:Shp tab t lvs):∃ n,lvs=[.atom (.int k n)]∧(Lit.int k n).wf=true:=by
 cases h with
 | int n h1 h2 h3=>
   rw [h1] at ht;injection ht with ht;subst ht
   rw [h2] at hd;injection hd with hd;subst hd
   exact ⟨n,rfl,h3⟩
 | bool b h1 h2=>rw [h1] at ht;injection ht with ht;subst ht;rw [h2] at hd;cases hd
 | slice es h1 h2 _ _=>rw [h1] at ht;injection ht with ht;subst ht;rw [h2] at hd;cases hd
 | struct es h1 h2 _ _=>rw [h1] at ht;injection ht with ht;subst ht;rw [h2] at hd;cases hd
theorem shp_slice {t e:Nat} {r:TRow} (ht:tab t=some r) (hd:r.d=.slice e) {lvs:List LV} (h:Shp tab t lvs):∃ es:List (List LV),lvs=[.sl 0 es.length es.flatten]∧es.length≤maxLen∧∀ x∈es,Shp tab e x:=by
 cases h with
 | slice es h1 h2 h3 h4=>
   rw [h1] at ht;injection ht with ht;subst ht
   rw [h2] at hd;injection hd with hd;subst hd
   exact ⟨es,rfl,h3,h4⟩
 | int n h1 h2 h3=>rw [h1] at ht;injection ht with ht;subst ht;rw [h2] at hd;cases hd
 | bool b h1 h2=>rw [h1] at ht;injection ht with ht;subst ht;rw [h2] at hd;cases hd
 | struct es h1 h2 _ _=>rw [h1] at ht;injection ht with ht;subst ht;rw [h2] at hd;cases hd
theorem wf_u32 {n:Int} (h:(Lit.int .u32 n).wf=true):U32 n:=by
 simp [Lit.wf,show IntKind.u32.min=0 from rfl,show IntKind.u32.max=4294967295 from rfl] at h
 exact ⟨h.1,by omega⟩
theorem shp_u {lvs:List LV} (h:Shp tab 26 lvs):∃ n,lvs=[u n]∧U32 n:=by
 obtain ⟨n,h1,h2⟩:=shp_int rfl rfl h
 exact ⟨n,h1,wf_u32 h2⟩
theorem shp_us {lvs:List LV} (h:Shp tab 25 lvs):∃ l:List Int,lvs=[.sl 0 l.length (us l)]∧l.length≤maxLen∧∀ x∈l,U32 x:=by
 obtain ⟨es,h1,h2,h3⟩:=shp_slice rfl rfl h
 have:∃ l:List Int,es=l.map (fun x=>[u x])∧∀ x∈l,U32 x:=by
  clear h1 h2
  induction es with
  | nil=>exact ⟨[],rfl,by simp⟩
  | cons x es ih=>
    obtain ⟨l,k1,k2⟩:=ih (fun y hy=>h3 y (by simp [hy]))
    obtain ⟨n,k3,k4⟩:=shp_u (h3 x (by simp))
    exact ⟨n::l,by rw [k1,k3];rfl,fun y hy=>by rcases List.mem_cons.1 hy with rfl | hy;exact k4;exact k2 y hy⟩
 obtain ⟨l,rfl,k⟩:=this
 refine ⟨l,?_,by simpa using h2,k⟩
 rw [h1]
 have:(l.map fun x=>[u x]).flatten=us l:=by
  clear h1 h2 h3 k
  induction l with
  | nil=>rfl
  | cons x l ih=>simp only [List.map_cons,List.flatten_cons,ih,us];rfl
 rw [this];simp
structure Gr where
 vs:List Int
 es:List Ed
 deriving DecidableEq
abbrev grL (g:Gr):List LV:=[.sl 0 g.vs.length (us g.vs),.sl 0 g.es.length (eds g.es)]
theorem shp_uss {lvs:List LV} (h:Shp tab 22 lvs):∃ l:List (List Int),lvs=[.sl 0 l.length (l.map fun r=>.sl 0 r.length (us r))]∧l.length≤maxLen∧∀ r∈l,r.length≤maxLen∧∀ x∈r,U32 x:=by
 obtain ⟨es,h1,h2,h3⟩:=shp_slice rfl rfl h
 have:∃ l:List (List Int),es=l.map (fun r=>[LV.sl 0 r.length (us r)])∧∀ r∈l,r.length≤maxLen∧∀ x∈r,U32 x:=by
  clear h1 h2
  induction es with
  | nil=>exact ⟨[],rfl,by simp⟩
  | cons x es ih=>
    obtain ⟨l,k1,k2⟩:=ih (fun y hy=>h3 y (by simp [hy]))
    obtain ⟨n,k3,k4⟩:=shp_us (h3 x (by simp))
    exact ⟨n::l,by rw [k1,k3];rfl,fun y hy=>by rcases List.mem_cons.1 hy with rfl | hy;exact k4;exact k2 y hy⟩
 obtain ⟨l,rfl,k⟩:=this
 refine ⟨l,?_,by simpa using h2,k⟩
 rw [h1]
 have:(l.map (fun r=>[LV.sl 0 r.length (us r)])).flatten=l.map fun r=>.sl 0 r.length (us r):=by
  clear h1 h2 h3 k
  induction l with
  | nil=>rfl
  | cons x l ih=>simp only [List.map_cons,List.flatten_cons,ih];rfl
 rw [this];simp
end Go.Proofs.YtiiejclelbilkaaGreatDoor.Aw
