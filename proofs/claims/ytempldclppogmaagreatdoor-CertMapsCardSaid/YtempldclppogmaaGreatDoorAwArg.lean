/- What the arguments of a call are, as logical values, by their types. No program is named here. -/
import Derived.Test.YtempldclppogmaaGreatDoorAwRun
import Derived.ChangeArms
import Derived.WideShapes
import Derived.Below
set_option linter.unusedVariables false
set_option linter.unusedSimpArgs false
namespace Go.Proofs.YtempldclppogmaaGreatDoor.Aw
open Go Go.RowKit
abbrev g0:G:=⟨1,fun _=>none,fun _=>0,fun _=>0,fun _=>false⟩
inductive Shp(T:Tab):Nat→List LV→Prop where
 |int {t r k} (n:Int):T t=some r→r.d=.int k→(Lit.int k n).wf=true→Shp T t [.atom (.int k n)]
 |bool {t r} (b:Bool):T t=some r→r.d=.bool→Shp T t [.atom (.bool b)]
 |slice {t r e} (es:List (List LV)):T t=some r→r.d=.slice e→es.length≤maxLen→(∀ x∈es,Shp T e x)→Shp T t [.sl 0 es.length es.flatten]
 |struct {t r fs} (ps:List (List LV)):T t=some r→r.d=.struct fs→ps.length=fs.length→(∀(i:Nat) (f:Nat×Nat) (x:List LV),fs[i]?=some f→ps[i]?=some x→Shp T f.2 x)→Shp T t ps.flatten
def mH(T:Tab)(n:Nat):List (Nat×Nat)→Nat→Bool
 |[],o=>o==n
 |(off,ty)::r,o=>off==o&&match T ty with|some q=>mH T n r (o+q.size)|none=>false
def okT(T:Tab):Nat→Nat→Bool
 |0,_=>false
 |d+1,t=>match T t with
  |some r=>match r.d with
   |.int _=>true
   |.bool=>true
   |.slice e=>(match T e with|some q=>decide (0<q.size)|none=>false)&&okT T d e
   |.struct fs=>mH T r.size fs 0&&fs.all fun f=>okT T d f.2
   |_=>false
  |none=>false
theorem aBx{α:Type}{Q:Nat→α→Prop}:∀ n,(∀ i,i<n→∃ x,Q i x)→∃ xs:List α,xs.length=n∧∀ i x,xs[i]?=some x→Q i x
 |0,_=>⟨[],rfl,sS⟩
 |n+1,h=>by
  obtain⟨xs,h1,h2⟩:=aBx n (fun i hi=>h i oO)
  obtain⟨x,hx⟩:=h n oO
  refine⟨xs++[x],by simp[h1],fun i y hy=>?_⟩
  rcases Nat.lt_or_ge i n with hi|hi
  ·rw[List.getElem?_append_left oO]at hy
   exact h2 i y hy
  ·have:i=n:=by
    rcases Nat.lt_or_ge n i with h'|h'
    ·rw[List.getElem?_eq_none (by simp;omega)]at hy;cases hy
    ·omega
   subst this
   rw[List.getElem?_append_right oO]at hy
   simp[h1]at hy
   subst hy;exact hx
section
variable {P:Program} {T:Tab} {W:World} {H:Type} {enc:TypeId×Value→H}
theorem lQ(hT:bC P T){t:Nat}{r:bG}(h:T t=some r):P.cellsOf t=r.size:=by
 obtain⟨i,hi,hs,_⟩:=(hT t r h).info
 simp[Program.cellsOf,hi,hs]
theorem aDe{b s:Nat}:∀(es:List (List LV)) (o:Nat),(∀ i x,es[i]?=some x→x.length=s∧∃ cs:List Value,aG W g0 x cs∧∀ j,j<s→W.cell? ⟨b,o+i*s+j,none⟩=cs[j]?)→aN W g0 b es.flatten o
 |[],o,_=>by simp only[List.flatten_nil,aN]
 |x::es,o,h=>by
  obtain⟨hl,cs,hr,hc⟩:=h 0 x rfl
  have ih:=aDe (b:=b) (s:=s) es (o+s) (fun i y hy=>by
   have:=h (i+1) y (by simpa using hy)
   simpa[Nat.add_mul,Nat.add_assoc,Nat.add_comm,Nat.add_left_comm]using this)
  rw[List.flatten_cons]
  have key:∀(x:List LV) (cs:List Value) (o s':Nat) (rest:List LV),x.length=s'→aG W g0 x cs→(∀ j,j<s'→W.cell? ⟨b,o+j,none⟩=cs[j]?)→aN W g0 b rest (o+s')→aN W g0 b (x++rest) o:=by
   intro x
   induction x with
   |nil=>intro cs o s' rest h1 _ _ h4;simp at h1;subst h1;simpa using h4
   |cons y x ihx=>
    intro cs o s' rest h1 h2 h3 h4
    simp only[aG]at h2
    obtain⟨v,vs',rfl,k1,k2⟩:=h2
    simp only[List.cons_append,aN]
    refine⟨⟨v,by simpa using h3 0 (by simp at h1;omega),k1,fun k hk=>by simp at hk⟩,ihx vs' (o+1) (s' - 1) rest (by simp at h1;omega) k2 (fun j hj=>?_) ?_⟩
    ·have:=h3 (j+1) oO
     simpa[Nat.add_assoc,Nat.add_comm 1 j]using this
    ·simp at h1
     have:o+1+(s' - 1)=o+s':=oO
     rw[this];exact h4
  exact key x cs o s es.flatten hl hr (fun j hj=>by simpa using hc j hj) ih
theorem aAj{a:Addr}{n:Nat}{cs:List Value}(h:W.cells? 0 a n=some cs):cs.length=n∧∀ j,j<n→W.cell? (a.add j)=cs[j]?:=by
 unfold World.cells? at h
 rw[if_pos (Nat.zero_le _)]at h
 exact⟨by simpa using mapM_some_length h,fun j hj=>mapM_some_get h j j (by simp[hj])⟩
theorem yB(hT:bC P T){n:Nat}:∀(fs:List (Nat×Nat)) (o:Nat) (cs:List Value) (ps:List (List LV)),mH T n fs o=true→cs.length=n→o≤n→ps.length=fs.length→
 (∀(i:Nat) (f:Nat×Nat) (x:List LV),fs[i]?=some f→ps[i]?=some x→aG W g0 x ((cs.drop f.1).take (P.cellsOf f.2)))→aG W g0 ps.flatten (cs.drop o)
 |[],o,cs,ps,hc,hl,ho,hp,_=>by
  simp only[mH,beq_iff_eq]at hc
  have:ps=[]:=by simpa using hp
  subst this
  rw[List.drop_eq_nil_of_le oO]
  simp only[List.flatten_nil,aG]
 |(off,ty)::fs,o,cs,ps,hc,hl,ho,hp,h=>by
  cases ps with
  |nil=>simp at hp
  |cons x ps=>
   simp only[mH,Bool.and_eq_true,beq_iff_eq]at hc
   obtain⟨rfl,hc⟩:=hc
   cases hty:T ty with
   |none=>simp[hty]at hc
   |some q=>
    simp only[hty]at hc
    have hx:=h 0 (off,ty) x rfl rfl
    simp only[lQ hT hty]at hx
    have hle:off+q.size≤n:=by
     have hcc:∀(fs:List (Nat×Nat)) (o:Nat),mH T n fs o=true→o≤n:=by
      intro fs
      induction fs with
      |nil=>intro o h;simp[mH]at h;omega
      |cons f fs ih=>
       intro o h
       obtain⟨a,b⟩:=f
       simp only[mH,Bool.and_eq_true]at h
       cases hb:T b with
       |none=>simp[hb]at h
       |some q'=>simp only[hb]at h;have:=ih _ h.2;omega
     exact hcc _ _ hc
    have ih:=yB hT fs (off+q.size) cs ps hc hl hle (by simpa using hp) (fun i f y hf hy=>h (i+1) f y (by simpa using hf) (by simpa using hy))
    rw[List.flatten_cons]
    have hsplit:cs.drop off=(cs.drop off).take q.size++cs.drop (off+q.size):=by
     rw[← List.drop_drop];exact(List.take_append_drop _ _).symm
    rw[hsplit]
    exact bP _ _ _ _ hx ih
theorem yM(hT:bC P T):∀(fuel d t:Nat) (cs:List Value) (x:DataW H×List MemPlace),DataW.trod enc P W 0 (fun _=>true) true fuel t cs=some x→okT T d t=true→∃ lvs,aG W g0 lvs cs∧Shp T t lvs
 |0,d,t,cs,x,h,_=>by simp[DataW.trod]at h
 |fuel+1,0,t,cs,x,h,ho=>by simp[okT]at ho
 |fuel+1,d+1,t,cs,x,h,ho=>by
  cases ht:T t with
  |none=>simp[okT,ht]at ho
  |some r=>
   have hd:=(hT t r ht).desc
   cases hrd:r.d with
   |int k=>
    rw[hrd]at hd
    simp only[dP]at hd
    unfold DataW.trod at h
    rw[hd]at h
    split at h<;>simp_all
    rename_i n _
    obtain⟨⟨rfl,hw⟩,_⟩:=h
    exact⟨_,by simp only[aG,Rep];exact⟨_,_,rfl,rfl,rfl⟩,.int n ht hrd hw⟩
   |bool=>
    rw[hrd]at hd
    simp only[dP]at hd
    unfold DataW.trod at h
    rw[hd]at h
    split at h<;>simp_all
    exact⟨_,by simp only[aG,Rep];exact⟨_,_,rfl,rfl,rfl⟩,.bool _ ht hrd⟩
   |slice e=>
    rw[hrd]at hd
    simp only[dP]at hd
    simp only[okT,ht,hrd,Bool.and_eq_true]at ho
    rcases DataW.trod_slice hd h with⟨rfl,_⟩|⟨a,len,cap,elems,rest,n,hn,rfl,_,_,hlc,hcm,hel,hall,_⟩
    ·refine⟨_,?_,.slice [] ht hrd (Nat.zero_le _) sS⟩
     simp only[aG,Rep]
     exact⟨_,_,rfl,⟨none,0,rfl,Nat.le_refl _,⟨Nat.zero_le _,fun _=>rfl⟩,fun h=>absurd rfl h,fun h=>absurd rfl h⟩,rfl⟩
    ·have hn':n=fuel:=oO
     subst hn'
     cases hte:T e with
     |none=>simp[hte]at ho
     |some q=>
      simp only[hte,decide_eq_true_eq]at ho
      have hce:=lQ hT hte
      obtain⟨es,hes1,hes2⟩:=aBx (Q:=fun i (x:List LV)=>Shp T e x∧∃ cs,W.cells? 0 (a.add (i*q.size)) q.size=some cs∧aG W g0 x cs) len (fun i hi=>by
       have h1:=hall i hi
       rw[List.getElem?_eq_getElem oO,hce]at h1
       simp only[Option.bind_eq_some_iff]at h1
       obtain⟨cs',h2,h3⟩:=h1
       obtain⟨lvs,h4,h5⟩:=yM hT n d e cs' _ h3 ho.2
       exact⟨lvs,h5,cs',h2,h4⟩)
      subst hes1
      refine⟨_,?_,.slice es ht hrd (Nat.le_trans hlc hcm) (fun x hx=>?_)⟩
      ·simp only[aG,Rep]
       refine⟨_,_,rfl,⟨some a,cap,rfl,hlc,⟨hcm,sS⟩,fun h=>absurd rfl h,fun hne=>?_⟩,rfl⟩
       have hsp:a.spot=none:=by
        cases es with
        |nil=>simp at hne
        |cons y es=>
         obtain⟨_,cs',h2,_⟩:=hes2 0 y rfl
         obtain⟨k1,k2⟩:=aAj h2
         have k3:=k2 0 ho.1
         rw[List.getElem?_eq_getElem oO]at k3
         unfold World.cell? at k3
         split at k3
         ·split at k3
          ·cases k3
          ·rename_i hsn
           simp only[Addr.add]at hsn
           split at hsn<;>simp_all
         ·cases k3
       obtain⟨b,o,sp⟩:=a
       simp only at hsp
       subst hsp
       refine⟨b,o,rfl,aDe (s:=q.size) es o (fun i x hx=>?_)⟩
       obtain⟨_,cs',h2,h3⟩:=hes2 i x hx
       obtain⟨k1,k2⟩:=aAj h2
       refine⟨by rw[aK _ _ h3,k1],cs',h3,fun j hj=>?_⟩
       have:=k2 j hj
       rw[add_lit,add_lit]at this
       exact this
      ·obtain⟨i,hi,rfl⟩:=List.getElem_of_mem hx
       exact(hes2 i _ (List.getElem?_eq_getElem hi)).1
   |struct fs=>
    rw[hrd]at hd
    simp only[dP]at hd
    obtain⟨F,hF,rfl⟩:=hd
    simp only[okT,ht,hrd,Bool.and_eq_true]at ho
    obtain⟨xs,n,hn,_,hlen,hxs,hall⟩:=DataW.trod_struct hF h
    have hn':n=fuel:=oO
    subst hn'
    rw[lQ hT ht]at hlen
    obtain⟨ps,hps1,hps2⟩:=aBx (Q:=fun i (x:List LV)=>∀ f:Field,F[i]?=some f→Shp T f.type x∧aG W g0 x ((cs.drop f.offset).take (P.cellsOf f.type))) F.size (fun i hi=>by
     have hf:F[i]?=some F[i]:=Array.getElem?_eq_getElem hi
     have h1:=hall i F[i] hf
     rw[List.getElem?_eq_getElem oO]at h1
     have hok:okT T d F[i].type=true:=by
      have:=List.all_eq_true.1 ho.2 (F[i].offset,F[i].type) (List.mem_map.2 ⟨F[i],sS,rfl⟩)
      simpa using this
     obtain⟨lvs,h4,h5⟩:=yM hT n d _ _ _ h1 hok
     exact⟨lvs,fun f hf'=>by rw[hf]at hf';injection hf' with hf';subst hf';exact⟨h5,h4⟩⟩)
    have hget:∀(i:Nat) (f:Nat×Nat),(F.toList.map (fun f=>(f.offset,f.type)))[i]?=some f→∃ g:Field,F[i]?=some g∧f=(g.offset,g.type):=by
     intro i f hf
     rw[List.getElem?_map,Option.map_eq_some_iff]at hf
     obtain⟨g,hg,rfl⟩:=hf
     exact⟨g,by simpa using hg,rfl⟩
    refine⟨ps.flatten,?_,.struct ps ht hrd (by simp[hps1]) (fun i f x hf hx=>?_)⟩
    ·have:=yB (W:=W) hT _ 0 cs ps ho.1 hlen (Nat.zero_le _) (by simp[hps1]) (fun i f x hf hx=>by
      obtain⟨g,hg,rfl⟩:=hget i f hf
      exact(hps2 i x hx g hg).2)
     simpa using this
    ·obtain⟨g,hg,rfl⟩:=hget i f hf
     exact(hps2 i x hx g hg).1
   |_=>simp[okT,ht,hrd]at ho
def aOb(r:bG)(lvs:List LV):LV:=if r.agg then .ag lvs else hdL lvs
def aBO(T:Tab)(t:Nat)(lvs:List LV):LV:=match T t with
 |some r=>aOb r lvs
 |none=>.dead
theorem aNf{t:Nat}{r:bG}{lvs:List LV}(h:T t=some r):aBO T t lvs=aOb r lvs:=by simp[aBO,h]
theorem aFW(hT:bC P T){t d:Nat}{r:bG}{v:Value}{dd:DataW H}{ps:List MemPlace}{rc:Reach}{base:Nat}(ht:T t=some r)(hok:okT T d t=true)
 (hv:Value.okWide P W rc base t v) (h:DataW.Trod enc P W 0 (fun _=>true) true t v dd ps) (hag:r.agg=true↔∃ fs,r.d=.struct fs):∃ lvs,Shp T t lvs∧Rep W g0 (aBO T t lvs) v:=by
 simp only[aNf ht]
 obtain⟨fuel,hf⟩:=h
 obtain⟨lvs,h1,h2⟩:=yM hT fuel d t _ _ hf hok
 refine⟨lvs,h2,?_⟩
 unfold aOb
 have hd:=(hT t r ht).desc
 cases hb:r.agg with
 |true=>
  simp only[if_true,Rep]
  obtain⟨fs,hfs⟩:=hag.1 hb
  rw[hfs]at hd
  obtain⟨F,hF,_⟩:=hd
  obtain⟨cs,rfl,_⟩:=WideShapes.okWide_struct hF hv
  exact⟨cs.toList,sS,by simpa[Value.cells]using h1⟩
 |false=>
  simp only[Bool.false_eq_true,if_false]
  have hone:v.cells.toList=[v]∧∃ lv,lvs=[lv]:=by
   cases h2 with
   |int n h3 h4 h5=>
    simp only[aG,Rep]at h1
    obtain⟨u,_,hu,rfl,rfl⟩:=h1
    rw[h3]at ht;injection ht with ht;subst ht
    rw[h4]at hd
    simp only[dP]at hd
    refine⟨?_,_,rfl⟩
    cases v<;>simp_all[Value.cells,Value.okWide,Cell.okWide,Cell.ok]
   |bool b h3 h4=>
    simp only[aG,Rep]at h1
    obtain⟨u,_,hu,rfl,rfl⟩:=h1
    rw[h3]at ht;injection ht with ht;subst ht
    rw[h4]at hd
    simp only[dP]at hd
    refine⟨?_,_,rfl⟩
    cases v<;>simp_all[Value.cells,Value.okWide,Cell.okWide,Cell.ok]
   |slice es h3 h4 h5 h6=>
    rw[h3]at ht;injection ht with ht;subst ht
    rw[h4]at hd
    simp only[dP]at hd
    obtain⟨a,len,cap,rfl⟩:=WideShapes.okWide_slice hd hv
    exact⟨by simp[Value.cells],_,rfl⟩
   |struct qs h3 h4 h5 h6=>
    rw[h3]at ht;injection ht with ht;subst ht
    have:=hag.2 ⟨_,h4⟩
    rw[hb]at this;cases this
  obtain⟨hc,lv,rfl⟩:=hone
  rw[hc]at h1
  simp only[aG]at h1
  obtain⟨u,_,hu,h3,rfl⟩:=h1
  injection hu with hu _
  subst hu
  exact h3
end
end Go.Proofs.YtempldclppogmaaGreatDoor.Aw
