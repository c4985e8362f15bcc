/- The operations' soundness: what makes memory; all of them in one theorem. No program is named here. -/
import Derived.Test.YtbgngpdonpeboaaGreatDoorAwSound
import Derived.Laws.Tables
set_option linter.unusedVariables false
set_option linter.unusedSimpArgs false
namespace Go.Proofs.YtbgngpdonpeboaaGreatDoor
namespace Aw
open Go Go.RowKit
section
variable {P:Program} {T:Tab} {w:World} {g:G} {st:St}
theorem HS(hT:aX P T)(hi:Inv w g st){t:TypeId}{r:bP}(he:FO T t st=some r):
 ∃ u w' g',(Instr.alloc t true (.tuple #[])).run P w=.ok u w'/\Rep w' g' r.v u/\Inv w' g' r.s/\Ext w g w' g':=by
 unfold FO at he;cases ht:T t with
 |none=>grind
 |some row=>
  simp only[ht,aAb]at he;subst he;have VU:=hT t row ht;have hzl:=VU.zl;have h1:=uI hi t row.size 1 (cs:=row.zero.map cG) (vs:=row.zero) oO (by simp[maxLen]) sS (by grind [cK]);have h2:=dN w g (.cells row.zero.toArray t) 0 1 false;refine⟨.pointer (some ⟨w.heap.size,0,none⟩),_,_,?_,?_,h1,h2⟩
  .simp[Instr.alloc,VU.zeroValue,newVar,newRow,cU VU]
  .simp[Rep,G.add,hi.next]
theorem yO(off:Nat):∀(ds:List Value) (k:Nat) (arr:Array Value),off+k+ds.length<=arr.size->
 (ds.zipIdx k).foldl (fun cs (x:Value×Nat)=>cs.setIfInBounds (off+x.2) x.1) arr=(arr.toList.take (off+k)++ds++arr.toList.drop (off+k+ds.length)).toArray
 |[],k,arr,_=>by simp
 |d::ds,k,arr,h=>by
  simp only[List.zipIdx_cons,List.foldl_cons];have hl:off+(k+1)+ds.length<=(arr.setIfInBounds (off+k) d).size:=by simp at h ⊢;omega
  rw[yO off ds (k+1) _ hl]
  congr 1
  have dG:off+k<arr.toList.length:=by simp at h ⊢;omega
  rw[Array.toList_setIfInBounds];simp only[List.length_cons];rw[show off+(k+1)=off+k+1 by omega,List.take_set,aAs dG,aEz oO];rw[List.set_append_right _ _ (by grind)];simp only[aAw];rw[show off+k-min (off+k) arr.toList.length=0 by omega]
  grind
theorem oM(place:Nat->Option (Nat×Nat)):∀(parts:List (Nat×LV)) (u9:List (Nat×Value)) (cs cs':List LV) (vs:List Value),
 qH place cs parts=some cs'->aC w g cs vs->(parts.map (·.1)=u9.map (·.1))->aC w g (parts.map (·.2)) (u9.map (·.2))->
 ∃ vs',Instr.fill place vs.toArray u9=some vs'.toArray/\aC w g cs' vs'
 |[],u9,cs,cs',vs,h,hr,h1,_=>by
  simp only[qH,aAb]at h;subst h;cases u9 with
  |nil=>exact⟨vs,rfl,hr⟩
  |cons p ps=>grind
 |(i,lv)::parts,u9,cs,cs',vs,h,hr,h1,h2=>by
  cases u9 with
  |nil=>grind
  |cons p u9=>
   obtain⟨i',v⟩:=p;simp only[aAl,aBt]at h1;obtain⟨rfl,h1⟩:=h1;simp only[aAl,aC]at h2;obtain⟨v',vs',hv,hl,h2⟩:=h2;simp only[aBt]at hv;obtain⟨rfl,rfl⟩:=hv;simp only[qH]at h
   split at h
   .rename_i off size ds hp W8
    split at h
    .rename_i hcond;have o7:=pX W8 hl;have hlen:=aK _ _ o7;have hlv:=aK _ _ hr;have O4:v.cells.size=ds.length:=by rw[hlen];simp
     have u7:off+v.cells.size<=vs.length:=oO;have hsp:=yO off v.cells.toList 0 vs.toArray oO;simp only[Nat.add_zero]at hsp;have Z8:aC w g (cs.take off++ds++cs.drop (off+ds.length)) (vs.take off++v.cells.toList++vs.drop (off+v.cells.toList.length)):=by have hd:=gK (off+ds.length) _ _ hr;have:=bW _ _ _ _ (bW _ _ _ _ (dM off _ _ hr) o7) hd;rw[hlen]at this ⊢;exact this
     obtain⟨vs',k1,k2⟩:=oM place parts u9 _ cs' _ h Z8 h1 h2
     grind [Array.toList_zipIdx,Instr.fill]
    grind
   grind
theorem uS(hT:aX P T):∀(F:List Field) (ps:List (Nat×Nat)),sH T (F.map fun f=>(f.offset,f.type))=some ps->F.mapM (fun f=>(P.info? f.type).map fun i=>(f.offset,i.size))=some ps
 |[],ps,h=>by grind [sH]
 |f::F,ps,h=>by
  simp only[aAl,sH]at h
  split at h
  .rename_i q l hq hl;simp only[aAb]at h;subst h;obtain⟨i,hi,hs,_,_⟩:=(hT _ _ hq).info;have ih:=uS hT F l hl;simp_all
  grind
theorem HR(hT:aX P T){t:TypeId}{parts:List (Nat×LV)}{u9:Array (Nat×Value)}{r:bP}(he:GF T t parts st=some r)(hc:r.c)
 (h1:parts.map (·.1)=u9.toList.map (·.1)) (h2:aC w g (parts.map (·.2)) (u9.toList.map (·.2))):
 r.s=st/\∃ u,(Instr.build t u9).run P w=.ok u w/\Rep w g r.v u:=by
 unfold GF at he
 split at he
 .rename_i fs row hs ht
  split at he
  .rename_i ps hps
   split at he
   .rename_i cs L5;simp only[aAb]at he;subst he;obtain⟨F,hd,hF⟩:=tQ hT hs;have VU:=hT t row ht;subst hF;have S6:=uS hT _ _ hps;have hrp:=run_places (P:=P) w F.toList ps S6;obtain⟨vs',k1,k2⟩:=oM (fun i=>ps[i]?) parts u9.toList _ _ row.zero L5 (cK w g row.zero) h1 h2;have hc':row.agg=true:=hc;refine⟨rfl,.agg vs'.toArray,?_,by grind [Rep]⟩;have hz:row.zeroV.cells=row.zero.toArray:=cU VU;have hk:Instr.fill (fun x=>ps[x]?) row.zero.toArray u9.toList=some vs'.toArray:=k1;simp[Instr.build,VU.zeroValue,run_underlying hd,aDT,hrp,hz,hk]
   grind
  grind
 .rename_i row hs ht
  split at he
  .rename_i e hae
   split at he
   .rename_i re M5
    split at he
    .rename_i cs L5;simp only[aAb]at he;subst he;obtain⟨n,hd⟩:=Uc hT hae;have VU:=hT t row ht;have hre:=hT e re M5;obtain⟨vs',k1,k2⟩:=oM (fun i=>some (i*re.size,re.size)) parts u9.toList _ _ row.zero L5 (cK w g row.zero) h1 h2;have hc':row.agg=true:=hc;refine⟨rfl,.agg vs'.toArray,?_,by grind [Rep]⟩;have hz:row.zeroV.cells=row.zero.toArray:=cU VU;have hk:Instr.fill (fun i=>some (i*re.size,re.size)) row.zero.toArray u9.toList=some vs'.toArray:=k1;simp[Instr.build,VU.zeroValue,run_underlying hd,hre.sizeOf,hz,hk]
    grind
   grind
  grind
 grind
def bB(z:List Value):Nat->List Value
 |0=>[]
 |n+1=>z++bB z n
theorem kM(z:List Value):∀ n,eF (z.map cG) n=(bB z n).map cG
 |0=>rfl
 |n+1=>by simp[eF,bB,kM z n]
theorem eU(z:List Value)(hz:0<z.length):∀ n,bB z n=(List.range (n*z.length)).map fun i=>z.toArray[i % z.toArray.size]!
 |0=>by simp[bB]
 |n+1=>by
  rw[bB,eU z hz n];apply aCo;intro i;simp only[aBc];by_cases hi:i<z.length
  .grind [Nat.mod_eq_of_lt]
  .rw[aBu oO,aCi,aCi];by_cases h2:i<(n+1)*z.length
   .rw[aED h2,aED (by grind)];simp only[Option.map_some]
    congr 2
    have:i=(i-z.length)+z.length:=oO;rw[this,aDq];simp
   grind
def XW(n s:Nat):Prop:=n*s<=16777216/\0<s
theorem wL(hT:aX P T)(hi:Inv w g st){md:Bool}{t:TypeId}{n:Nat}{parts:List (Nat×LV)}{u9:Array (Nat×Value)}{r:bP}(he:mG T md t n parts st=some r)(hc:r.c)
 (h1:parts.map (·.1)=u9.toList.map (·.1)) (h2:aC w g (parts.map (·.2)) (u9.toList.map (·.2))):
 ∃ u w' g',(Instr.buildSlice t n u9).run P w=.ok u w'/\Rep w' g' r.v u/\Inv w' g' r.s/\Ext w g w' g':=by
 unfold mG at he
 split at he
 .rename_i e hs
  split at he
  .rename_i row hrow'
   split at he
   .rename_i cs L5;have hcc:XW n row.size:=by
     split at he<;>(simp only[aAb]at he;subst he;exact hc)
    obtain⟨c1,c2⟩:=hcc;have VU:=hT e row hrow';have hd:=cF hT hs;have hzl:=VU.zl;rw[kM]at L5;obtain⟨vs',k1,k2⟩:=oM _ parts u9.toList _ _ (bB row.zero n) L5 (cK w g _) h1 h2;have hlen:vs'.length=n*row.size:=by
     have hf:∀(place:Nat->Option (Nat×Nat)) (ps:List (Nat×LV)) (a b:List LV),qH place a ps=some b->b.length=a.length:=by
      intro place ps;induction ps with
      |nil=>grind [qH]
      |cons p ps ih=>
       grind [qH]
     rw[<- aK _ _ k2,hf _ _ _ _ L5,aAB,eU _ oO];simp[hzl]
    rw[eU _ oO,hzl]at k1;have hnm:n<=maxLen:=by have:n<=n*row.size:=Nat.le_mul_of_pos_right n c2;simp only[maxLen];omega
    have o6:(Instr.buildSlice t n u9).run P w=.ok (.slice (some ⟨w.heap.size,0,none⟩) n n) (w.alloc (.cells vs'.toArray e)):=by
     have hz:row.zeroV.cells=row.zero.toArray:=cU VU;have u7:¬(16777216<n*row.size):=oO;have c8:Instr.fill (fun i=>some (i*row.size,row.size)) (Array.map (fun x=>row.zero[x % row.zero.length]?.getD default) (Array.range (n*row.size))) u9.toList=some vs'.toArray:=by
      rw[<- k1]
      congr 1
      rw[<- aCQ,aDF]
      congr 1
      apply aAN;intro x _;simp
     by_cases h0:n*row.size=0
     .have hn:n=0:=by
       rcases aEf.1 h0 with h|h
       .exact h
       .omega
      subst hn;rw[show Array.range (0*row.size)=#[] by grind]at c8;simp only[Array.map_empty]at c8;simp[Instr.buildSlice,run_underlying hd,VU.sizeOf,newRow];rw[show Array.map (fun x=>(default:Value)) (Array.range 0)=#[] by grind,c8];simp
     .simp[Instr.buildSlice,run_underlying hd,VU.sizeOf,u7,h0,VU.zeroValue,hz,newRow];simp_all
    have o7:=aK _ _ k2
    split at he
    .simp only[aAb]at he;subst he;have V0:=uI hi e row.size n (cs:=cs) (vs:=vs') hlen hnm (aDY o7) (by grind);have L7:=dN w g (.cells vs'.toArray e) 0 n false;refine⟨_,_,_,o6,?_,V0,L7⟩;simp only[Rep];exact⟨_,n,rfl,aAm _,hnm,by simp[G.add,hi.next],by simp[G.add,hi.next],by simp[G.add,hi.next]⟩
    .simp only[aAb]at he;subst he;have V0:=GL hi e row.size n n vs'.toArray oO (aAm _) hnm;have L7:=dN w g (.cells vs'.toArray e) (n*row.size) n false;refine⟨_,_,_,o6,?_,V0,L7⟩;simp only[Rep];refine⟨_,n,rfl,aAm _,⟨hnm,sS⟩,fun _=>?_,fun _=>?_⟩
     .simp[G.add,hi.next]
     .refine⟨w.heap.size,0,rfl,jA cs vs' 0 (aC.mono L7 _ _ k2) (fun j hj=>?_) (fun j hj=>?_)⟩
      .simp_all
      .intro k hk
       grind [G.add]
   grind
  grind
 grind
end
end Aw
end Go.Proofs.YtbgngpdonpeboaaGreatDoor
