/- The operations' soundness: what makes memory; all of them in one theorem. No program is named here. -/
import Derived.Test.YtempldclppogmaaGreatDoorAwSound
import Derived.Laws.Tables
set_option linter.unusedVariables false
set_option linter.unusedSimpArgs false
namespace Go.Proofs.YtempldclppogmaaGreatDoor
namespace Aw
open Go Go.RowKit
section
variable {P:Program} {T:Tab} {w:World} {g:G} {st:St}
theorem GN(hT:bF P T)(hi:Inv w g st){t:TypeId}{r:bT}(he:Ex T t st=some r):
 ∃ u w' g',(Instr.alloc t true (.tuple #[])).run P w=.ok u w'/\Rep w' g' r.v u/\Inv w' g' r.s/\Ext w g w' g':=by
 unfold Ex at he;cases ht:T t with
 |none=>simp[ht]at he
 |some row=>
  simp only[ht,aAb]at he;subst he;have Rp:=hT t row ht;have N0:=Rp.zl;have h1:=tY hi t row.size 1 (cs:=row.zero.map cH) (vs:=row.zero) oO (by simp[maxLen]) sS (by rw[aAA,aAQ];exact cL w g row.zero);have h2:=dD w g (.cells row.zero.toArray t) 0 1 false;refine⟨.pointer (some ⟨w.heap.size,0,none⟩),_,_,?_,?_,h1,h2⟩
  .simp[Instr.alloc,Rp.zeroValue,newVar,newRow,cX Rp]
  .simp[Rep,G.add,hi.next]
theorem xN(off:Nat):∀(ds:List Value) (k:Nat) (arr:Array Value),off+k+ds.length<=arr.size->
 (ds.zipIdx k).foldl (fun cs (x:Value×Nat)=>cs.setIfInBounds (off+x.2) x.1) arr=(arr.toList.take (off+k)++ds++arr.toList.drop (off+k+ds.length)).toArray
 |[],k,arr,_=>by simp
 |d::ds,k,arr,h=>by
  simp only[List.zipIdx_cons,List.foldl_cons];have hl:off+(k+1)+ds.length<=(arr.setIfInBounds (off+k) d).size:=by simp at h ⊢;omega
  rw[xN off ds (k+1) _ hl]
  congr 1
  have dN:off+k<arr.toList.length:=by simp at h ⊢;omega
  rw[Array.toList_setIfInBounds];simp only[List.length_cons];rw[show off+(k+1)=off+k+1 by omega,List.take_set,aAn dN,aEL oO];rw[aEs _ _ (by simp;omega)];simp only[aAo];rw[show off+k-min (off+k) arr.toList.length=0 by omega];simp[aDp,aET 1]
theorem nK(place:Nat->Option (Nat×Nat)):∀(parts:List (Nat×LV)) (YD:List (Nat×Value)) (cs cs':List LV) (vs:List Value),
 pD place cs parts=some cs'->aC w g cs vs->(parts.map (·.1)=YD.map (·.1))->aC w g (parts.map (·.2)) (YD.map (·.2))->
 ∃ vs',Instr.fill place vs.toArray YD=some vs'.toArray/\aC w g cs' vs'
 |[],YD,cs,cs',vs,h,hr,h1,_=>by
  simp only[pD,aAb]at h;subst h;cases YD with
  |nil=>exact⟨vs,rfl,hr⟩
  |cons p ps=>simp at h1
 |(i,lv)::parts,YD,cs,cs',vs,h,hr,h1,h2=>by
  cases YD with
  |nil=>simp at h1
  |cons p YD=>
   obtain⟨i',v⟩:=p;simp only[aAj,aBj]at h1;obtain⟨rfl,h1⟩:=h1;simp only[aAj,aC]at h2;obtain⟨v',vs',hv,hl,h2⟩:=h2;simp only[aBj]at hv;obtain⟨rfl,rfl⟩:=hv;simp only[pD]at h
   split at h
   .rename_i off size ds hp H6
    split at h
    .rename_i hcond;have Xk:=pK H6 hl;have hlen:=aL _ _ Xk;have hlv:=aL _ _ hr;have ZH:v.cells.size=ds.length:=by rw[hlen];simp
     have Xr:off+v.cells.size<=vs.length:=oO;have hsp:=xN off v.cells.toList 0 vs.toArray (by simp;omega);simp only[Nat.add_zero]at hsp;have O0:aC w g (cs.take off++ds++cs.drop (off+ds.length)) (vs.take off++v.cells.toList++vs.drop (off+v.cells.toList.length)):=by have hd:=gV (off+ds.length) _ _ hr;have:=bZ _ _ _ _ (bZ _ _ _ _ (dQ off _ _ hr) Xk) hd;rw[hlen]at this ⊢;exact this
     obtain⟨vs',k1,k2⟩:=nK place parts YD _ cs' _ h O0 h1 h2;refine⟨vs',?_,k2⟩;have hz:Array.foldl (fun cs (x:Value×Nat)=>cs.setIfInBounds (off+x.2) x.1) vs.toArray v.cells.zipIdx=(vs.take off++v.cells.toList++vs.drop (off+v.cells.toList.length)).toArray:=by rw[<- Array.foldl_toList,Array.toList_zipIdx];exact hsp
     have A4:¬(v.cells.size≠size||decide (off+v.cells.size > vs.toArray.size))=true:=by simp;omega
     unfold Instr.fill;simp only[hp];rw[aAa A4];have:(fun(cs:Array Value) (x:Value×Nat)=>match x with|(c,j)=>cs.setIfInBounds (off+j) c)=(fun cs x=>cs.setIfInBounds (off+x.2) x.1):=by
      funext cs x;rfl
     rw[this,hz];exact k1
    .simp at h
   .simp at h
theorem tV(hT:bF P T):∀(F:List Field) (ps:List (Nat×Nat)),rJ T (F.map fun f=>(f.offset,f.type))=some ps->F.mapM (fun f=>(P.info? f.type).map fun i=>(f.offset,i.size))=some ps
 |[],ps,h=>by simp only[aBz,rJ,aAb]at h;subst h;rfl
 |f::F,ps,h=>by
  simp only[aAj,rJ]at h
  split at h
  .rename_i q l hq hl;simp only[aAb]at h;subst h;obtain⟨i,hi,hs,_,_⟩:=(hT _ _ hq).info;have ih:=tV hT F l hl;simp only[aEx,hi,ih,Option.map_some,hs];rfl
  .simp at h
theorem GS(hT:bF P T){t:TypeId}{parts:List (Nat×LV)}{YD:Array (Nat×Value)}{r:bT}(he:Dp T t parts st=some r)(hc:r.c)
 (h1:parts.map (·.1)=YD.toList.map (·.1)) (h2:aC w g (parts.map (·.2)) (YD.toList.map (·.2))):
 r.s=st/\∃ u,(Instr.build t YD).run P w=.ok u w/\Rep w g r.v u:=by
 unfold Dp at he
 split at he
 .rename_i fs row hs ht
  split at he
  .rename_i ps hps
   split at he
   .rename_i cs ZJ;simp only[aAb]at he;subst he;obtain⟨F,hd,hF⟩:=tD hT hs;have Rp:=hT t row ht;subst hF;have Zn:=tV hT _ _ hps;have hrp:=run_places (P:=P) w F.toList ps Zn;obtain⟨vs',k1,k2⟩:=nK (fun i=>ps[i]?) parts YD.toList _ _ row.zero ZJ (cL w g row.zero) h1 h2;have x8:row.agg=true:=hc;refine⟨rfl,.agg vs'.toArray,?_,by simp only[Rep];exact⟨vs',rfl,k2⟩⟩;have hz:row.zeroV.cells=row.zero.toArray:=cX Rp;have hk:Instr.fill (fun x=>ps[x]?) row.zero.toArray YD.toList=some vs'.toArray:=k1;simp[Instr.build,Rp.zeroValue,run_underlying hd,aDZ,hrp,hz,hk]
   .simp at he
  .simp at he
 .rename_i row hs ht
  split at he
  .rename_i e hae
   split at he
   .rename_i re ZL
    split at he
    .rename_i cs ZJ;simp only[aAb]at he;subst he;obtain⟨n,hd⟩:=Sd hT hae;have Rp:=hT t row ht;have hre:=hT e re ZL;obtain⟨vs',k1,k2⟩:=nK (fun i=>some (i*re.size,re.size)) parts YD.toList _ _ row.zero ZJ (cL w g row.zero) h1 h2;have x8:row.agg=true:=hc;refine⟨rfl,.agg vs'.toArray,?_,by simp only[Rep];exact⟨vs',rfl,k2⟩⟩;have hz:row.zeroV.cells=row.zero.toArray:=cX Rp;have hk:Instr.fill (fun i=>some (i*re.size,re.size)) row.zero.toArray YD.toList=some vs'.toArray:=k1;simp[Instr.build,Rp.zeroValue,run_underlying hd,hre.sizeOf,hz,hk]
    .simp at he
   .simp at he
  .simp at he
 .simp at he
def bD(z:List Value):Nat->List Value
 |0=>[]
 |n+1=>z++bD z n
theorem jT(z:List Value):∀ n,dP (z.map cH) n=(bD z n).map cH
 |0=>rfl
 |n+1=>by simp[dP,bD,jT z n]
theorem eF(z:List Value)(hz:0<z.length):∀ n,bD z n=(List.range (n*z.length)).map fun i=>z.toArray[i % z.toArray.size]!
 |0=>by simp[bD]
 |n+1=>by
  rw[bD,eF z hz n];apply aDh;intro i;simp only[aBd];by_cases hi:i<z.length
  .rw[aAY hi,aBL,aDQ (by rw[aDJ];omega)];simp[aAK hi,hi]
  .rw[aBl oO,aBL,aBL];by_cases h2:i<(n+1)*z.length
   .rw[aDQ h2,aDQ (by rw[aDJ]at h2;omega)];simp only[Option.map_some]
    congr 2
    have:i=(i-z.length)+z.length:=oO;rw[this,aDy];simp
   .have h3:n*z.length<=i-z.length:=by rw[aDJ]at h2;omega
    have h4:(n+1)*z.length<=i:=oO;rw[aBw (l:=List.range (n*z.length)) (by simpa using h3),aBw (l:=List.range ((n+1)*z.length)) (by simpa using h4)]
def Tw(n s:Nat):Prop:=n*s<=16777216/\0<s
theorem vE(hT:bF P T)(hi:Inv w g st){md:Bool}{t:TypeId}{n:Nat}{parts:List (Nat×LV)}{YD:Array (Nat×Value)}{r:bT}(he:lU T md t n parts st=some r)(hc:r.c)
 (h1:parts.map (·.1)=YD.toList.map (·.1)) (h2:aC w g (parts.map (·.2)) (YD.toList.map (·.2))):
 ∃ u w' g',(Instr.buildSlice t n YD).run P w=.ok u w'/\Rep w' g' r.v u/\Inv w' g' r.s/\Ext w g w' g':=by
 unfold lU at he
 split at he
 .rename_i e hs
  split at he
  .rename_i row hrow'
   split at he
   .rename_i cs ZJ;have V5:Tw n row.size:=by
     split at he<;>(simp only[aAb]at he;subst he;exact hc)
    obtain⟨c1,c2⟩:=V5;have Rp:=hT e row hrow';have hd:=cF hT hs;have N0:=Rp.zl;rw[jT]at ZJ;obtain⟨vs',k1,k2⟩:=nK _ parts YD.toList _ _ (bD row.zero n) ZJ (cL w g _) h1 h2;have hlen:vs'.length=n*row.size:=by
     have hf:∀(place:Nat->Option (Nat×Nat)) (ps:List (Nat×LV)) (a b:List LV),pD place a ps=some b->b.length=a.length:=by
      intro place ps;induction ps with
      |nil=>intro a b h;simp only[pD,aAb]at h;subst h;rfl
      |cons p ps ih=>
       intro a b h;obtain⟨i,lv⟩:=p;simp only[pD]at h
       split at h
       .split at h
        .rename_i hcond;rw[ih _ _ h];simp;omega
        .simp at h
       .simp at h
     rw[<- aL _ _ k2,hf _ _ _ _ ZJ,aAA,eF _ oO];simp[N0]
    rw[eF _ oO,N0]at k1;have I8:n<=maxLen:=by have:n<=n*row.size:=Nat.le_mul_of_pos_right n c2;simp only[maxLen];omega
    have Xv:(Instr.buildSlice t n YD).run P w=.ok (.slice (some ⟨w.heap.size,0,none⟩) n n) (w.alloc (.cells vs'.toArray e)):=by
     have hz:row.zeroV.cells=row.zero.toArray:=cX Rp;have Xr:¬(16777216<n*row.size):=oO;have Xn:Instr.fill (fun i=>some (i*row.size,row.size)) (Array.map (fun x=>row.zero[x % row.zero.length]?.getD default) (Array.range (n*row.size))) YD.toList=some vs'.toArray:=by
      rw[<- k1]
      congr 1
      rw[<- aDb,aDI]
      congr 1
      apply aAW;intro x _;simp
     by_cases h0:n*row.size=0
     .have hn:n=0:=by
       rcases aEi.1 h0 with h|h
       .exact h
       .omega
      subst hn;rw[show Array.range (0*row.size)=#[] by simp[Array.range]]at Xn;simp only[Array.map_empty]at Xn;simp[Instr.buildSlice,run_underlying hd,Rp.sizeOf,newRow];rw[show Array.map (fun x=>(default:Value)) (Array.range 0)=#[] by simp[Array.range],Xn];simp
     .simp[Instr.buildSlice,run_underlying hd,Rp.sizeOf,Xr,h0,Rp.zeroValue,hz,newRow];rw[Xn];simp
    have Xk:=aL _ _ k2
    split at he
    .simp only[aAb]at he;subst he;have B5:=tY hi e row.size n (cs:=cs) (vs:=vs') hlen I8 (aDv Xk) (by rw[aAr (aDv Xk.symm)];exact k2);have ZN:=dD w g (.cells vs'.toArray e) 0 n false;refine⟨_,_,_,Xv,?_,B5,ZN⟩;simp only[Rep];exact⟨_,n,rfl,aAi _,I8,by simp[G.add,hi.next],by simp[G.add,hi.next],by simp[G.add,hi.next]⟩
    .simp only[aAb]at he;subst he;have B5:=En hi e row.size n n vs'.toArray (by simp[hlen]) (aAi _) I8;have ZN:=dD w g (.cells vs'.toArray e) (n*row.size) n false;refine⟨_,_,_,Xv,?_,B5,ZN⟩;simp only[Rep];refine⟨_,n,rfl,aAi _,⟨I8,sS⟩,fun _=>?_,fun _=>?_⟩
     .simp[G.add,hi.next]
     .refine⟨w.heap.size,0,rfl,iF cs vs' 0 (aC.mono ZN _ _ k2) (fun j hj=>?_) (fun j hj=>?_)⟩
      .rw[cell_of_row _ _ _ _ _ _ (heap_alloc_new w _)];simp
      .intro k hk;simp[G.add]at hk;omega
   .simp at he
  .simp at he
 .simp at he
end
end Aw
end Go.Proofs.YtempldclppogmaaGreatDoor
