/- The operations' soundness: what makes memory; all of them in one theorem. No program is named here. -/
import Derived.Test.YtbgngpdonpeboaaGreatDoorAwSound
import Derived.Laws.Tables
set_option linter.unusedVariables false
set_option linter.unusedSimpArgs false
namespace Go.Proofs.YtbgngpdonpeboaaGreatDoor
namespace Aw
open Go Go.RowKit
section
variable {P:Program} {T:Tab} {w:World} {g:G} {st:St}
theorem IU(hT:aZ P T)(hi:Inv w g st){t:TypeId}{r:bR}(he:FE T t st=some r):
 ∃ u w' g',(Instr.alloc t true (.tuple #[])).run P w=.ok u w'/\Rep w' g' r.v u/\Inv w' g' r.s/\Ext w g w' g':=by
 unfold FE at he;cases ht:T t with
 |none=>grind
 |some row=>
  simp only[ht,aAb]at he;subst he;have Tf:=hT t row ht;have hzl:=Tf.zl;have h1:=vK hi t row.size 1 (cs:=row.zero.map cH) (vs:=row.zero) oO (by simp[maxLen]) sS (by grind [cL]);have h2:=dM w g (.cells row.zero.toArray t) 0 1 false;refine⟨.pointer (some ⟨w.heap.size,0,none⟩),_,_,?_,?_,h1,h2⟩
  .simp[Instr.alloc,Tf.zeroValue,newVar,newRow,cW Tf]
  .simp[Rep,G.add,hi.next]
theorem yY(off:Nat):∀(ds:List Value) (k:Nat) (arr:Array Value),off+k+ds.length<=arr.size->
 (ds.zipIdx k).foldl (fun cs (x:Value×Nat)=>cs.setIfInBounds (off+x.2) x.1) arr=(arr.toList.take (off+k)++ds++arr.toList.drop (off+k+ds.length)).toArray
 |[],k,arr,_=>by simp
 |d::ds,k,arr,h=>by
  simp only[List.zipIdx_cons,List.foldl_cons];have hl:off+(k+1)+ds.length<=(arr.setIfInBounds (off+k) d).size:=by simp at h ⊢;omega
  rw[yY off ds (k+1) _ hl]
  congr 1
  have dA:off+k<arr.toList.length:=by simp at h ⊢;omega
  rw[Array.toList_setIfInBounds];simp only[List.length_cons];rw[show off+(k+1)=off+k+1 by omega,List.take_set,aAp dA,aEE oO];rw[List.set_append_right _ _ (by grind)];simp only[aAw];rw[show off+k-min (off+k) arr.toList.length=0 by omega]
  grind
theorem oR(place:Nat->Option (Nat×Nat)):∀(parts:List (Nat×LV)) (v8:List (Nat×Value)) (cs cs':List LV) (vs:List Value),
 pN place cs parts=some cs'->aC w g cs vs->(parts.map (·.1)=v8.map (·.1))->aC w g (parts.map (·.2)) (v8.map (·.2))->
 ∃ vs',Instr.fill place vs.toArray v8=some vs'.toArray/\aC w g cs' vs'
 |[],v8,cs,cs',vs,h,hr,h1,_=>by
  simp only[pN,aAb]at h;subst h;cases v8 with
  |nil=>exact⟨vs,rfl,hr⟩
  |cons p ps=>grind
 |(i,lv)::parts,v8,cs,cs',vs,h,hr,h1,h2=>by
  cases v8 with
  |nil=>grind
  |cons p v8=>
   obtain⟨i',v⟩:=p;simp only[aAm,aBw]at h1;obtain⟨rfl,h1⟩:=h1;simp only[aAm,aC]at h2;obtain⟨v',vs',hv,hl,h2⟩:=h2;simp only[aBw]at hv;obtain⟨rfl,rfl⟩:=hv;simp only[pN]at h
   split at h
   .rename_i off size ds hp hds
    split at h
    .rename_i hcond;have r8:=rN hds hl;have hlen:=aJ _ _ r8;have hlv:=aJ _ _ hr;have U0:v.cells.size=ds.length:=by rw[hlen];simp
     have u7:off+v.cells.size<=vs.length:=oO;have hsp:=yY off v.cells.toList 0 vs.toArray oO;simp only[Nat.add_zero]at hsp;have hnew:aC w g (cs.take off++ds++cs.drop (off+ds.length)) (vs.take off++v.cells.toList++vs.drop (off+v.cells.toList.length)):=by have hd:=gM (off+ds.length) _ _ hr;have:=bW _ _ _ _ (bW _ _ _ _ (dK off _ _ hr) r8) hd;rw[hlen]at this ⊢;exact this
     obtain⟨vs',k1,k2⟩:=oR place parts v8 _ cs' _ h hnew h1 h2
     grind [Array.toList_zipIdx,Instr.fill]
    grind
   grind
theorem wH(hT:aZ P T):∀(F:List Field) (ps:List (Nat×Nat)),sG T (F.map fun f=>(f.offset,f.type))=some ps->F.mapM (fun f=>(P.info? f.type).map fun i=>(f.offset,i.size))=some ps
 |[],ps,h=>by grind [sG]
 |f::F,ps,h=>by
  simp only[aAm,sG]at h
  split at h
  .rename_i q l hq hl;simp only[aAb]at h;subst h;obtain⟨i,hi,hs,_,_⟩:=(hT _ _ hq).info;have ih:=wH hT F l hl;simp_all
  grind
theorem Gc(hT:aZ P T){t:TypeId}{parts:List (Nat×LV)}{v8:Array (Nat×Value)}{r:bR}(he:FL T t parts st=some r)(hc:r.c)
 (h1:parts.map (·.1)=v8.toList.map (·.1)) (h2:aC w g (parts.map (·.2)) (v8.toList.map (·.2))):
 r.s=st/\∃ u,(Instr.build t v8).run P w=.ok u w/\Rep w g r.v u:=by
 unfold FL at he
 split at he
 .rename_i fs row hs ht
  split at he
  .rename_i ps hps
   split at he
   .rename_i cs P9;simp only[aAb]at he;subst he;obtain⟨F,hd,hF⟩:=uJ hT hs;have Tf:=hT t row ht;subst hF;have U3:=wH hT _ _ hps;have hrp:=run_places (P:=P) w F.toList ps U3;obtain⟨vs',k1,k2⟩:=oR (fun i=>ps[i]?) parts v8.toList _ _ row.zero P9 (cL w g row.zero) h1 h2;have hc':row.agg=true:=hc;refine⟨rfl,.agg vs'.toArray,?_,by grind [Rep]⟩;have hz:row.zeroV.cells=row.zero.toArray:=cW Tf;have hk:Instr.fill (fun x=>ps[x]?) row.zero.toArray v8.toList=some vs'.toArray:=k1;simp[Instr.build,Tf.zeroValue,run_underlying hd,aDW,hrp,hz,hk]
   grind
  grind
 .rename_i row hs ht
  split at he
  .rename_i e hae
   split at he
   .rename_i re Q8
    split at he
    .rename_i cs P9;simp only[aAb]at he;subst he;obtain⟨n,hd⟩:=Vu hT hae;have Tf:=hT t row ht;have hre:=hT e re Q8;obtain⟨vs',k1,k2⟩:=oR (fun i=>some (i*re.size,re.size)) parts v8.toList _ _ row.zero P9 (cL w g row.zero) h1 h2;have hc':row.agg=true:=hc;refine⟨rfl,.agg vs'.toArray,?_,by grind [Rep]⟩;have hz:row.zeroV.cells=row.zero.toArray:=cW Tf;have hk:Instr.fill (fun i=>some (i*re.size,re.size)) row.zero.toArray v8.toList=some vs'.toArray:=k1;simp[Instr.build,Tf.zeroValue,run_underlying hd,hre.sizeOf,hz,hk]
    grind
   grind
  grind
 grind
def bD(z:List Value):Nat->List Value
 |0=>[]
 |n+1=>z++bD z n
theorem kS(z:List Value):∀ n,dZ (z.map cH) n=(bD z n).map cH
 |0=>rfl
 |n+1=>by simp[dZ,bD,kS z n]
theorem eT(z:List Value)(hz:0<z.length):∀ n,bD z n=(List.range (n*z.length)).map fun i=>z.toArray[i % z.toArray.size]!
 |0=>by simp[bD]
 |n+1=>by
  rw[bD,eT z hz n];apply aCu;intro i;simp only[aBc];by_cases hi:i<z.length
  .grind [Nat.mod_eq_of_lt]
  .rw[aBx oO,aCm,aCm];by_cases h2:i<(n+1)*z.length
   .rw[aEI h2,aEI (by grind)];simp only[Option.map_some]
    congr 2
    have:i=(i-z.length)+z.length:=oO;rw[this,aCG];simp
   grind
def Wz(n s:Nat):Prop:=n*s<=16777216/\0<s
theorem yB(hT:aZ P T)(hi:Inv w g st){md:Bool}{t:TypeId}{n:Nat}{parts:List (Nat×LV)}{v8:Array (Nat×Value)}{r:bR}(he:mJ T md t n parts st=some r)(hc:r.c)
 (h1:parts.map (·.1)=v8.toList.map (·.1)) (h2:aC w g (parts.map (·.2)) (v8.toList.map (·.2))):
 ∃ u w' g',(Instr.buildSlice t n v8).run P w=.ok u w'/\Rep w' g' r.v u/\Inv w' g' r.s/\Ext w g w' g':=by
 unfold mJ at he
 split at he
 .rename_i e hs
  split at he
  .rename_i row hrow'
   split at he
   .rename_i cs P9;have hcc:Wz n row.size:=by
     split at he<;>(simp only[aAb]at he;subst he;exact hc)
    obtain⟨c1,c2⟩:=hcc;have Tf:=hT e row hrow';have hd:=cG hT hs;have hzl:=Tf.zl;rw[kS]at P9;obtain⟨vs',k1,k2⟩:=oR _ parts v8.toList _ _ (bD row.zero n) P9 (cL w g _) h1 h2;have hlen:vs'.length=n*row.size:=by
     have hf:∀(place:Nat->Option (Nat×Nat)) (ps:List (Nat×LV)) (a b:List LV),pN place a ps=some b->b.length=a.length:=by
      intro place ps;induction ps with
      |nil=>grind [pN]
      |cons p ps ih=>
       grind [pN]
     rw[<- aJ _ _ k2,hf _ _ _ _ P9,aAD,eT _ oO];simp[hzl]
    rw[eT _ oO,hzl]at k1;have hnm:n<=maxLen:=by have:n<=n*row.size:=Nat.le_mul_of_pos_right n c2;simp only[maxLen];omega
    have o9:(Instr.buildSlice t n v8).run P w=.ok (.slice (some ⟨w.heap.size,0,none⟩) n n) (w.alloc (.cells vs'.toArray e)):=by
     have hz:row.zeroV.cells=row.zero.toArray:=cW Tf;have u7:¬(16777216<n*row.size):=oO;have j7:Instr.fill (fun i=>some (i*row.size,row.size)) (Array.map (fun x=>row.zero[x % row.zero.length]?.getD default) (Array.range (n*row.size))) v8.toList=some vs'.toArray:=by
      rw[<- k1]
      congr 1
      rw[<- aCW,aDK]
      congr 1
      apply aAQ;intro x _;simp
     by_cases h0:n*row.size=0
     .have hn:n=0:=by
       rcases aEi.1 h0 with h|h
       .exact h
       .omega
      subst hn;rw[show Array.range (0*row.size)=#[] by grind]at j7;simp only[Array.map_empty]at j7;simp[Instr.buildSlice,run_underlying hd,Tf.sizeOf,newRow];rw[show Array.map (fun x=>(default:Value)) (Array.range 0)=#[] by grind,j7];simp
     .simp[Instr.buildSlice,run_underlying hd,Tf.sizeOf,u7,h0,Tf.zeroValue,hz,newRow];simp_all
    have r8:=aJ _ _ k2
    split at he
    .simp only[aAb]at he;subst he;have Y9:=vK hi e row.size n (cs:=cs) (vs:=vs') hlen hnm (aEf r8) (by grind);have Q1:=dM w g (.cells vs'.toArray e) 0 n false;refine⟨_,_,_,o9,?_,Y9,Q1⟩;simp only[Rep];exact⟨_,n,rfl,aAl _,hnm,by simp[G.add,hi.next],by simp[G.add,hi.next],by simp[G.add,hi.next]⟩
    .simp only[aAb]at he;subst he;have Y9:=FH hi e row.size n n vs'.toArray oO (aAl _) hnm;have Q1:=dM w g (.cells vs'.toArray e) (n*row.size) n false;refine⟨_,_,_,o9,?_,Y9,Q1⟩;simp only[Rep];refine⟨_,n,rfl,aAl _,⟨hnm,sS⟩,fun _=>?_,fun _=>?_⟩
     .simp[G.add,hi.next]
     .refine⟨w.heap.size,0,rfl,jC cs vs' 0 (aC.mono Q1 _ _ k2) (fun j hj=>?_) (fun j hj=>?_)⟩
      .simp_all
      .intro k hk
       grind [G.add]
   grind
  grind
 grind
end
end Aw
end Go.Proofs.YtbgngpdonpeboaaGreatDoor
