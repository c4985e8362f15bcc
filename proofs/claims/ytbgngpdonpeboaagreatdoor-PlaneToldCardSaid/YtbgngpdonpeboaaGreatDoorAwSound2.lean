/- The operations' soundness: what makes memory; all of them in one theorem. No program is named here. -/
import Derived.Test.YtbgngpdonpeboaaGreatDoorAwSound
import Derived.Laws.Tables
set_option linter.unusedVariables false
set_option linter.unusedSimpArgs false
namespace Go.Proofs.YtbgngpdonpeboaaGreatDoor
namespace Aw
open Go Go.RowKit
section
variable {P:Program} {T:Tab} {w:World} {g:G} {st:St}
theorem GJ(hT:aZ P T)(hi:Inv w g st){t:TypeId}{r:bT}(he:Ea T t st=some r):
 ∃ u w' g',(Instr.alloc t true (.tuple #[])).run P w=.ok u w'/\Rep w' g' r.v u/\Inv w' g' r.s/\Ext w g w' g':=by
 unfold Ea at he;cases ht:T t with
 |none=>grind
 |some row=>
  simp only[ht,aAb]at he;subst he;have Ut:=hT t row ht;have hzl:=Ut.zl;have h1:=uW hi t row.size 1 (cs:=row.zero.map cI) (vs:=row.zero) oO (by simp[maxLen]) sS (by grind [cO]);have h2:=dI w g (.cells row.zero.toArray t) 0 1 false;refine⟨.pointer (some ⟨w.heap.size,0,none⟩),_,_,?_,?_,h1,h2⟩
  .simp[Instr.alloc,Ut.zeroValue,newVar,newRow,cU Ut]
  .simp[Rep,G.add,hi.next]
theorem xX(off:Nat):∀(ds:List Value) (k:Nat) (arr:Array Value),off+k+ds.length<=arr.size->
 (ds.zipIdx k).foldl (fun cs (x:Value×Nat)=>cs.setIfInBounds (off+x.2) x.1) arr=(arr.toList.take (off+k)++ds++arr.toList.drop (off+k+ds.length)).toArray
 |[],k,arr,_=>by simp
 |d::ds,k,arr,h=>by
  simp only[List.zipIdx_cons,List.foldl_cons];have hl:off+(k+1)+ds.length<=(arr.setIfInBounds (off+k) d).size:=by simp at h ⊢;omega
  rw[xX off ds (k+1) _ hl]
  congr 1
  have dQ:off+k<arr.toList.length:=by simp at h ⊢;omega
  rw[Array.toList_setIfInBounds];simp only[List.length_cons];rw[show off+(k+1)=off+k+1 by omega,List.take_set,aAp dQ,aEs oO];rw[List.set_append_right _ _ (by grind)];simp only[aAv];rw[show off+k-min (off+k) arr.toList.length=0 by omega]
  grind
theorem nP(place:Nat->Option (Nat×Nat)):∀(parts:List (Nat×LV)) (v7:List (Nat×Value)) (cs cs':List LV) (vs:List Value),
 oJ place cs parts=some cs'->aC w g cs vs->(parts.map (·.1)=v7.map (·.1))->aC w g (parts.map (·.2)) (v7.map (·.2))->
 ∃ vs',Instr.fill place vs.toArray v7=some vs'.toArray/\aC w g cs' vs'
 |[],v7,cs,cs',vs,h,hr,h1,_=>by
  simp only[oJ,aAb]at h;subst h;cases v7 with
  |nil=>exact⟨vs,rfl,hr⟩
  |cons p ps=>grind
 |(i,lv)::parts,v7,cs,cs',vs,h,hr,h1,h2=>by
  cases v7 with
  |nil=>grind
  |cons p v7=>
   obtain⟨i',v⟩:=p;simp only[aAn,aBt]at h1;obtain⟨rfl,h1⟩:=h1;simp only[aAn,aC]at h2;obtain⟨v',vs',hv,hl,h2⟩:=h2;simp only[aBt]at hv;obtain⟨rfl,rfl⟩:=hv;simp only[oJ]at h
   split at h
   .rename_i off size ds hp hds
    split at h
    .rename_i hcond;have o8:=pW hds hl;have hlen:=aI _ _ o8;have hlv:=aI _ _ hr;have K6:v.cells.size=ds.length:=by rw[hlen];simp
     have u9:off+v.cells.size<=vs.length:=oO;have hsp:=xX off v.cells.toList 0 vs.toArray oO;simp only[Nat.add_zero]at hsp;have X3:aC w g (cs.take off++ds++cs.drop (off+ds.length)) (vs.take off++v.cells.toList++vs.drop (off+v.cells.toList.length)):=by have hd:=gC (off+ds.length) _ _ hr;have:=bX _ _ _ _ (bX _ _ _ _ (dJ off _ _ hr) o8) hd;rw[hlen]at this ⊢;exact this
     obtain⟨vs',k1,k2⟩:=nP place parts v7 _ cs' _ h X3 h1 h2
     grind [Array.toList_zipIdx,Instr.fill]
    grind
   grind
theorem tU(hT:aZ P T):∀(F:List Field) (ps:List (Nat×Nat)),rH T (F.map fun f=>(f.offset,f.type))=some ps->F.mapM (fun f=>(P.info? f.type).map fun i=>(f.offset,i.size))=some ps
 |[],ps,h=>by grind [rH]
 |f::F,ps,h=>by
  simp only[aAn,rH]at h
  split at h
  .rename_i q l hq hl;simp only[aAb]at h;subst h;obtain⟨i,hi,hs,_,_⟩:=(hT _ _ hq).info;have ih:=tU hT F l hl;simp_all
  grind
theorem HX(hT:aZ P T){t:TypeId}{parts:List (Nat×LV)}{v7:Array (Nat×Value)}{r:bT}(he:FQ T t parts st=some r)(hc:r.c)
 (h1:parts.map (·.1)=v7.toList.map (·.1)) (h2:aC w g (parts.map (·.2)) (v7.toList.map (·.2))):
 r.s=st/\∃ u,(Instr.build t v7).run P w=.ok u w/\Rep w g r.v u:=by
 unfold FQ at he
 split at he
 .rename_i fs row hs ht
  split at he
  .rename_i ps hps
   split at he
   .rename_i cs I0;simp only[aAb]at he;subst he;obtain⟨F,hd,hF⟩:=tC hT hs;have Ut:=hT t row ht;subst hF;have M8:=tU hT _ _ hps;have hrp:=run_places (P:=P) w F.toList ps M8;obtain⟨vs',k1,k2⟩:=nP (fun i=>ps[i]?) parts v7.toList _ _ row.zero I0 (cO w g row.zero) h1 h2;have V1:row.agg=true:=hc;refine⟨rfl,.agg vs'.toArray,?_,by grind [Rep]⟩;have hz:row.zeroV.cells=row.zero.toArray:=cU Ut;have hk:Instr.fill (fun x=>ps[x]?) row.zero.toArray v7.toList=some vs'.toArray:=k1;simp[Instr.build,Ut.zeroValue,run_underlying hd,aDK,hrp,hz,hk]
   grind
  grind
 .rename_i row hs ht
  split at he
  .rename_i e hae
   split at he
   .rename_i re J5
    split at he
    .rename_i cs I0;simp only[aAb]at he;subst he;obtain⟨n,hd⟩:=Su hT hae;have Ut:=hT t row ht;have hre:=hT e re J5;obtain⟨vs',k1,k2⟩:=nP (fun i=>some (i*re.size,re.size)) parts v7.toList _ _ row.zero I0 (cO w g row.zero) h1 h2;have V1:row.agg=true:=hc;refine⟨rfl,.agg vs'.toArray,?_,by grind [Rep]⟩;have hz:row.zeroV.cells=row.zero.toArray:=cU Ut;have hk:Instr.fill (fun i=>some (i*re.size,re.size)) row.zero.toArray v7.toList=some vs'.toArray:=k1;simp[Instr.build,Ut.zeroValue,run_underlying hd,hre.sizeOf,hz,hk]
    grind
   grind
  grind
 grind
def bD(z:List Value):Nat->List Value
 |0=>[]
 |n+1=>z++bD z n
theorem kG(z:List Value):∀ n,dX (z.map cI) n=(bD z n).map cI
 |0=>rfl
 |n+1=>by simp[dX,bD,kG z n]
theorem eS(z:List Value)(hz:0<z.length):∀ n,bD z n=(List.range (n*z.length)).map fun i=>z.toArray[i % z.toArray.size]!
 |0=>by simp[bD]
 |n+1=>by
  rw[bD,eS z hz n];apply aCm;intro i;simp only[aAV];by_cases hi:i<z.length
  .grind [Nat.mod_eq_of_lt]
  .rw[aBz oO,aCd,aCd];by_cases h2:i<(n+1)*z.length
   .rw[aEv h2,aEv (by grind)];simp only[Option.map_some]
    congr 2
    have:i=(i-z.length)+z.length:=oO;rw[this,aDI];simp
   grind
def Vn(n s:Nat):Prop:=n*s<=16777216/\0<s
theorem vP(hT:aZ P T)(hi:Inv w g st){md:Bool}{t:TypeId}{n:Nat}{parts:List (Nat×LV)}{v7:Array (Nat×Value)}{r:bT}(he:lP T md t n parts st=some r)(hc:r.c)
 (h1:parts.map (·.1)=v7.toList.map (·.1)) (h2:aC w g (parts.map (·.2)) (v7.toList.map (·.2))):
 ∃ u w' g',(Instr.buildSlice t n v7).run P w=.ok u w'/\Rep w' g' r.v u/\Inv w' g' r.s/\Ext w g w' g':=by
 unfold lP at he
 split at he
 .rename_i e hs
  split at he
  .rename_i row hrow'
   split at he
   .rename_i cs I0;have hcc:Vn n row.size:=by
     split at he<;>(simp only[aAb]at he;subst he;exact hc)
    obtain⟨c1,c2⟩:=hcc;have Ut:=hT e row hrow';have hd:=cH hT hs;have hzl:=Ut.zl;rw[kG]at I0;obtain⟨vs',k1,k2⟩:=nP _ parts v7.toList _ _ (bD row.zero n) I0 (cO w g _) h1 h2;have hlen:vs'.length=n*row.size:=by
     have hf:∀(place:Nat->Option (Nat×Nat)) (ps:List (Nat×LV)) (a b:List LV),oJ place a ps=some b->b.length=a.length:=by
      intro place ps;induction ps with
      |nil=>grind [oJ]
      |cons p ps ih=>
       grind [oJ]
     rw[<- aI _ _ k2,hf _ _ _ _ I0,aAD,eS _ oO];simp[hzl]
    rw[eS _ oO,hzl]at k1;have hnm:n<=maxLen:=by have:n<=n*row.size:=Nat.le_mul_of_pos_right n c2;simp only[maxLen];omega
    have o7:(Instr.buildSlice t n v7).run P w=.ok (.slice (some ⟨w.heap.size,0,none⟩) n n) (w.alloc (.cells vs'.toArray e)):=by
     have hz:row.zeroV.cells=row.zero.toArray:=cU Ut;have u9:¬(16777216<n*row.size):=oO;have j7:Instr.fill (fun i=>some (i*row.size,row.size)) (Array.map (fun x=>row.zero[x % row.zero.length]?.getD default) (Array.range (n*row.size))) v7.toList=some vs'.toArray:=by
      rw[<- k1]
      congr 1
      rw[<- aCJ,aDw]
      congr 1
      apply aAP;intro x _;simp
     by_cases h0:n*row.size=0
     .have hn:n=0:=by
       rcases aDV.1 h0 with h|h
       .exact h
       .omega
      subst hn;rw[show Array.range (0*row.size)=#[] by grind]at j7;simp only[Array.map_empty]at j7;simp[Instr.buildSlice,run_underlying hd,Ut.sizeOf,newRow];rw[show Array.map (fun x=>(default:Value)) (Array.range 0)=#[] by grind,j7];simp
     .simp[Instr.buildSlice,run_underlying hd,Ut.sizeOf,u9,h0,Ut.zeroValue,hz,newRow];simp_all
    have o8:=aI _ _ k2
    split at he
    .simp only[aAb]at he;subst he;have Q0:=uW hi e row.size n (cs:=cs) (vs:=vs') hlen hnm (aDQ o8) (by grind);have I7:=dI w g (.cells vs'.toArray e) 0 n false;refine⟨_,_,_,o7,?_,Q0,I7⟩;simp only[Rep];exact⟨_,n,rfl,aAl _,hnm,by simp[G.add,hi.next],by simp[G.add,hi.next],by simp[G.add,hi.next]⟩
    .simp only[aAb]at he;subst he;have Q0:=FX hi e row.size n n vs'.toArray oO (aAl _) hnm;have I7:=dI w g (.cells vs'.toArray e) (n*row.size) n false;refine⟨_,_,_,o7,?_,Q0,I7⟩;simp only[Rep];refine⟨_,n,rfl,aAl _,⟨hnm,sS⟩,fun _=>?_,fun _=>?_⟩
     .simp[G.add,hi.next]
     .refine⟨w.heap.size,0,rfl,iT cs vs' 0 (aC.mono I7 _ _ k2) (fun j hj=>?_) (fun j hj=>?_)⟩
      .simp_all
      .intro k hk
       grind [G.add]
   grind
  grind
 grind
end
end Aw
end Go.Proofs.YtbgngpdonpeboaaGreatDoor
