/- The operations' soundness: what makes memory; all of them in one theorem. No program is named here. -/
import Derived.Test.YtempldclppogmaaGreatDoorAwSound
import Derived.Laws.Tables
set_option linter.unusedVariables false
set_option linter.unusedSimpArgs false
namespace Go.Proofs.YtempldclppogmaaGreatDoor.Aw
open Go Go.RowKit
section
variable {P:Program} {T:Tab} {w:World} {g:G} {st:St}
theorem aCk(hT:bC P T)(hi:Inv w g st){t:TypeId}{r:bL}(he:aBl T t st=some r):
 ∃ u w' g',(Instr.alloc t true (.tuple #[])).run P w=.ok u w'∧Rep w' g' r.v u∧Inv w' g' r.s∧Ext w g w' g':=by
 unfold aBl at he
 cases ht:T t with
 |none=>simp[ht]at he
 |some row=>
  simp only[ht,Option.some.injEq]at he
  subst he
  have hrow:=hT t row ht
  have hzl:=hrow.zl
  have h1:=pE hi t row.size 1 (cs:=row.zero.map bW) (vs:=row.zero) oO (by simp[maxLen]) sS (by rw[List.length_map,List.take_length];exact cF w g row.zero)
  have h2:=cV w g (.cells row.zero.toArray t) 0 1 false
  refine⟨.pointer (some ⟨w.heap.size,0,none⟩),_,_,?_,?_,h1,h2⟩
  ·simp[Instr.alloc,hrow.zeroValue,newVar,newRow,cP hrow]
  ·simp[Rep,G.add,hi.next]
theorem tJ(off:Nat):∀(ds:List Value) (k:Nat) (arr:Array Value),off+k+ds.length≤arr.size→
 (ds.zipIdx k).foldl (fun cs (x:Value×Nat)=>cs.setIfInBounds (off+x.2) x.1) arr=(arr.toList.take (off+k)++ds++arr.toList.drop (off+k+ds.length)).toArray
 |[],k,arr,_=>by simp
 |d::ds,k,arr,h=>by
  simp only[List.zipIdx_cons,List.foldl_cons]
  have hl:off+(k+1)+ds.length≤(arr.setIfInBounds (off+k) d).size:=by simp at h ⊢;omega
  rw[tJ off ds (k+1) _ hl]
  congr 1
  have hlt:off+k<arr.toList.length:=by simp at h ⊢;omega
  rw[Array.toList_setIfInBounds]
  simp only[List.length_cons]
  rw[show off+(k+1)=off+k+1 by omega,List.take_set,List.take_succ_eq_append_getElem hlt,List.drop_set_of_lt oO]
  rw[List.set_append_right _ _ (by simp;omega)]
  simp only[List.length_take]
  rw[show off+k-min (off+k) arr.toList.length=0 by omega]
  simp[Nat.add_assoc,Nat.add_comm 1]
theorem kS(place:Nat→Option (Nat×Nat)):∀(parts:List (Nat×LV)) (vparts:List (Nat×Value)) (cs cs':List LV) (vs:List Value),
 lU place cs parts=some cs'→aG w g cs vs→(parts.map (·.1)=vparts.map (·.1))→aG w g (parts.map (·.2)) (vparts.map (·.2))→
 ∃ vs',Instr.fill place vs.toArray vparts=some vs'.toArray∧aG w g cs' vs'
 |[],vparts,cs,cs',vs,h,hr,h1,_=>by
  simp only[lU,Option.some.injEq]at h
  subst h
  cases vparts with
  |nil=>exact⟨vs,rfl,hr⟩
  |cons p ps=>simp at h1
 |(i,lv)::parts,vparts,cs,cs',vs,h,hr,h1,h2=>by
  cases vparts with
  |nil=>simp at h1
  |cons p vparts=>
   obtain⟨i',v⟩:=p
   simp only[List.map_cons,List.cons.injEq]at h1
   obtain⟨rfl,h1⟩:=h1
   simp only[List.map_cons,aG]at h2
   obtain⟨v',vs',hv,hl,h2⟩:=h2
   simp only[List.cons.injEq]at hv
   obtain⟨rfl,rfl⟩:=hv
   simp only[lU]at h
   split at h
   ·rename_i off size ds hp hds
    split at h
    ·rename_i hcond
     have hcl:=mT hds hl
     have hlen:=aK _ _ hcl
     have hlv:=aK _ _ hr
     have hsz:v.cells.size=ds.length:=by rw[hlen];simp
     have hle:off+v.cells.size≤vs.length:=oO
     have hsp:=tJ off v.cells.toList 0 vs.toArray (by simp;omega)
     simp only[Nat.add_zero]at hsp
     have hnew:aG w g (cs.take off++ds++cs.drop (off+ds.length)) (vs.take off++v.cells.toList++vs.drop (off+v.cells.toList.length)):=by
      have hd:=gA (off+ds.length) _ _ hr
      have:=bP _ _ _ _ (bP _ _ _ _ (dB off _ _ hr) hcl) hd
      rw[hlen]at this ⊢
      exact this
     obtain⟨vs',k1,k2⟩:=kS place parts vparts _ cs' _ h hnew h1 h2
     refine⟨vs',?_,k2⟩
     have hz:Array.foldl (fun cs (x:Value×Nat)=>cs.setIfInBounds (off+x.2) x.1) vs.toArray v.cells.zipIdx=(vs.take off++v.cells.toList++vs.drop (off+v.cells.toList.length)).toArray:=by
      rw[← Array.foldl_toList,Array.toList_zipIdx]
      exact hsp
     have hc1:¬(v.cells.size≠size||decide (off+v.cells.size > vs.toArray.size))=true:=by
      simp;omega
     unfold Instr.fill
     simp only[hp]
     rw[if_neg hc1]
     have:(fun(cs:Array Value) (x:Value×Nat)=>match x with|(c,j)=>cs.setIfInBounds (off+j) c)=(fun cs x=>cs.setIfInBounds (off+x.2) x.1):=by
      funext cs x;rfl
     rw[this,hz]
     exact k1
    ·simp at h
   ·simp at h
theorem qV(hT:bC P T):∀(F:List Field) (ps:List (Nat×Nat)),nA T (F.map fun f=>(f.offset,f.type))=some ps→F.mapM (fun f=>(P.info? f.type).map fun i=>(f.offset,i.size))=some ps
 |[],ps,h=>by simp only[List.map_nil,nA,Option.some.injEq]at h;subst h;rfl
 |f::F,ps,h=>by
  simp only[List.map_cons,nA]at h
  split at h
  ·rename_i q l hq hl
   simp only[Option.some.injEq]at h
   subst h
   obtain⟨i,hi,hs,_,_⟩:=(hT _ _ hq).info
   have ih:=qV hT F l hl
   simp only[List.mapM_cons,hi,ih,Option.map_some,hs]
   rfl
  ·simp at h
theorem aCK(hT:bC P T){t:TypeId}{parts:List (Nat×LV)}{vparts:Array (Nat×Value)}{r:bL}(he:xL T t parts st=some r)(hc:r.c)
 (h1:parts.map (·.1)=vparts.toList.map (·.1)) (h2:aG w g (parts.map (·.2)) (vparts.toList.map (·.2))):
 r.s=st∧∃ u,(Instr.build t vparts).run P w=.ok u w∧Rep w g r.v u:=by
 unfold xL at he
 split at he
 ·rename_i fs row hs ht
  split at he
  ·rename_i ps hps
   split at he
   ·rename_i cs hcs
    simp only[Option.some.injEq]at he
    subst he
    obtain⟨F,hd,hF⟩:=oN hT hs
    have hrow:=hT t row ht
    subst hF
    have hpl:=qV hT _ _ hps
    have hrp:=run_places (P:=P) w F.toList ps hpl
    obtain⟨vs',k1,k2⟩:=kS (fun i=>ps[i]?) parts vparts.toList _ _ row.zero hcs (cF w g row.zero) h1 h2
    have hc':row.agg=true:=hc
    refine⟨rfl,.agg vs'.toArray,?_,by simp only[Rep];exact⟨vs',rfl,k2⟩⟩
    have hz:row.zeroV.cells=row.zero.toArray:=cP hrow
    have hk:Instr.fill (fun x=>ps[x]?) row.zero.toArray vparts.toList=some vs'.toArray:=k1
    simp[Instr.build,hrow.zeroValue,run_underlying hd,Array.mapM_eq_mapM_toList,hrp,hz,hk]
   ·simp at he
  ·simp at he
 ·rename_i row hs ht
  split at he
  ·rename_i e hae
   split at he
   ·rename_i re hte
    split at he
    ·rename_i cs hcs
     simp only[Option.some.injEq]at he
     subst he
     obtain⟨n,hd⟩:=aNj hT hae
     have hrow:=hT t row ht
     have hre:=hT e re hte
     obtain⟨vs',k1,k2⟩:=kS (fun i=>some (i*re.size,re.size)) parts vparts.toList _ _ row.zero hcs (cF w g row.zero) h1 h2
     have hc':row.agg=true:=hc
     refine⟨rfl,.agg vs'.toArray,?_,by simp only[Rep];exact⟨vs',rfl,k2⟩⟩
     have hz:row.zeroV.cells=row.zero.toArray:=cP hrow
     have hk:Instr.fill (fun i=>some (i*re.size,re.size)) row.zero.toArray vparts.toList=some vs'.toArray:=k1
     simp[Instr.build,hrow.zeroValue,run_underlying hd,hre.sizeOf,hz,hk]
    ·simp at he
   ·simp at he
  ·simp at he
 ·simp at he
def bA(z:List Value):Nat→List Value
 |0=>[]
 |n+1=>z++bA z n
theorem gZ(z:List Value):∀ n,cZ (z.map bW) n=(bA z n).map bW
 |0=>rfl
 |n+1=>by simp[cZ,bA,gZ z n]
theorem dN(z:List Value)(hz:0<z.length):∀ n,bA z n=(List.range (n*z.length)).map fun i=>z.toArray[i % z.toArray.size]!
 |0=>by simp[bA]
 |n+1=>by
  rw[bA,dN z hz n]
  apply List.ext_getElem?
  intro i
  simp only[List.size_toArray]
  by_cases hi:i<z.length
  ·rw[List.getElem?_append_left hi,List.getElem?_map,List.getElem?_range (by rw[Nat.succ_mul];omega)]
   simp[Nat.mod_eq_of_lt hi,hi]
  ·rw[List.getElem?_append_right oO,List.getElem?_map,List.getElem?_map]
   by_cases h2:i<(n+1)*z.length
   ·rw[List.getElem?_range h2,List.getElem?_range (by rw[Nat.succ_mul]at h2;omega)]
    simp only[Option.map_some]
    congr 2
    have:i=(i-z.length)+z.length:=oO
    rw[this,Nat.add_mod_right]
    simp
   ·have h3:n*z.length≤i-z.length:=by rw[Nat.succ_mul]at h2;omega
    have h4:(n+1)*z.length≤i:=oO
    rw[List.getElem?_eq_none (l:=List.range (n*z.length)) (by simpa using h3),List.getElem?_eq_none (l:=List.range ((n+1)*z.length)) (by simpa using h4)]
def aNC(n s:Nat):Prop:=n*s≤16777216∧0<s
theorem sH(hT:bC P T)(hi:Inv w g st){md:Bool}{t:TypeId}{n:Nat}{parts:List (Nat×LV)}{vparts:Array (Nat×Value)}{r:bL}(he:jC T md t n parts st=some r)(hc:r.c)
 (h1:parts.map (·.1)=vparts.toList.map (·.1)) (h2:aG w g (parts.map (·.2)) (vparts.toList.map (·.2))):
 ∃ u w' g',(Instr.buildSlice t n vparts).run P w=.ok u w'∧Rep w' g' r.v u∧Inv w' g' r.s∧Ext w g w' g':=by
 unfold jC at he
 split at he
 ·rename_i e hs
  split at he
  ·rename_i row hrow'
   split at he
   ·rename_i cs hcs
    have hcc:aNC n row.size:=by
     split at he<;>(simp only[Option.some.injEq]at he;subst he;exact hc)
    obtain⟨c1,c2⟩:=hcc
    have hrow:=hT e row hrow'
    have hd:=bV hT hs
    have hzl:=hrow.zl
    rw[gZ]at hcs
    obtain⟨vs',k1,k2⟩:=kS _ parts vparts.toList _ _ (bA row.zero n) hcs (cF w g _) h1 h2
    have hlen:vs'.length=n*row.size:=by
     have hf:∀(place:Nat→Option (Nat×Nat)) (ps:List (Nat×LV)) (a b:List LV),lU place a ps=some b→b.length=a.length:=by
      intro place ps
      induction ps with
      |nil=>intro a b h;simp only[lU,Option.some.injEq]at h;subst h;rfl
      |cons p ps ih=>
       intro a b h
       obtain⟨i,lv⟩:=p
       simp only[lU]at h
       split at h
       ·split at h
        ·rename_i hcond
         rw[ih _ _ h]
         simp;omega
        ·simp at h
       ·simp at h
     rw[← aK _ _ k2,hf _ _ _ _ hcs,List.length_map,dN _ oO]
     simp[hzl]
    rw[dN _ oO,hzl]at k1
    have hnm:n≤maxLen:=by
     have:n≤n*row.size:=Nat.le_mul_of_pos_right n c2
     simp only[maxLen];omega
    have hrun:(Instr.buildSlice t n vparts).run P w=.ok (.slice (some ⟨w.heap.size,0,none⟩) n n) (w.alloc (.cells vs'.toArray e)):=by
     have hz:row.zeroV.cells=row.zero.toArray:=cP hrow
     have hle:¬(16777216<n*row.size):=oO
     have hk1:Instr.fill (fun i=>some (i*row.size,row.size)) (Array.map (fun x=>row.zero[x % row.zero.length]?.getD default) (Array.range (n*row.size))) vparts.toList=some vs'.toArray:=by
      rw[← k1]
      congr 1
      rw[← List.toArray_range,List.map_toArray]
      congr 1
      apply List.map_congr_left
      intro x _
      simp
     by_cases h0:n*row.size=0
     ·have hn:n=0:=by
       rcases Nat.mul_eq_zero.1 h0 with h|h
       ·exact h
       ·omega
      subst hn
      rw[show Array.range (0*row.size)=#[] by simp[Array.range]]at hk1
      simp only[Array.map_empty]at hk1
      simp[Instr.buildSlice,run_underlying hd,hrow.sizeOf,newRow]
      rw[show Array.map (fun x=>(default:Value)) (Array.range 0)=#[] by simp[Array.range],hk1]
      simp
     ·simp[Instr.buildSlice,run_underlying hd,hrow.sizeOf,hle,h0,hrow.zeroValue,hz,newRow]
      rw[hk1]
      simp
    have hcl:=aK _ _ k2
    split at he
    ·simp only[Option.some.injEq]at he
     subst he
     have hinv:=pE hi e row.size n (cs:=cs) (vs:=vs') hlen hnm (Nat.le_of_eq hcl) (by rw[List.take_of_length_le (Nat.le_of_eq hcl.symm)];exact k2)
     have hext:=cV w g (.cells vs'.toArray e) 0 n false
     refine⟨_,_,_,hrun,?_,hinv,hext⟩
     simp only[Rep]
     exact⟨_,n,rfl,Nat.le_refl _,hnm,by simp[G.add,hi.next],by simp[G.add,hi.next],by simp[G.add,hi.next]⟩
    ·simp only[Option.some.injEq]at he
     subst he
     have hinv:=aAW hi e row.size n n vs'.toArray (by simp[hlen]) (Nat.le_refl _) hnm
     have hext:=cV w g (.cells vs'.toArray e) (n*row.size) n false
     refine⟨_,_,_,hrun,?_,hinv,hext⟩
     simp only[Rep]
     refine⟨_,n,rfl,Nat.le_refl _,⟨hnm,sS⟩,fun _=>?_,fun _=>?_⟩
     ·simp[G.add,hi.next]
     ·refine⟨w.heap.size,0,rfl,fW cs vs' 0 (aG.mono hext _ _ k2) (fun j hj=>?_) (fun j hj=>?_)⟩
      ·rw[cell_of_row _ _ _ _ _ _ (heap_alloc_new w _)]
       simp
      ·intro k hk
       simp[G.add]at hk
       omega
   ·simp at he
  ·simp at he
 ·simp at he
end
end Go.Proofs.YtempldclppogmaaGreatDoor.Aw
