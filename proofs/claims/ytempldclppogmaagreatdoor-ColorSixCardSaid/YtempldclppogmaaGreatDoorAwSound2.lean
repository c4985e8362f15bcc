/- The operations' soundness: what makes memory; all of them in one theorem. No program is named here. -/
import Derived.Test.YtempldclppogmaaGreatDoorAwSound
import Derived.Laws.Tables
set_option linter.unusedVariables false
set_option linter.unusedSimpArgs false
namespace Go.Proofs.YtempldclppogmaaGreatDoor
namespace Aw
open Go Go.RowKit
section
variable {P:Program} {T:Tab} {w:World} {g:G} {st:St}
theorem Ho(hT:bJ P T)(hi:Inv w g st){t:TypeId}{r:bW}(he:Ej T t st=some r):
 ∃ u w' g',(Instr.alloc t true (.tuple #[])).run P w=.ok u w'/\Rep w' g' r.v u/\Inv w' g' r.s/\Ext w g w' g':=by
 unfold Ej at he;cases ht:T t with
 |none=>simp[ht]at he
 |some row=>
  simp only[ht,aAb]at he;subst he;have RN:=hT t row ht;have M6:=RN.zl;have h1:=tI hi t row.size 1 (cs:=row.zero.map cL) (vs:=row.zero) oO (by simp[maxLen]) sS (by rw[aAz,aAQ];exact cO w g row.zero);have h2:=dB w g (.cells row.zero.toArray t) 0 1 false;refine⟨.pointer (some ⟨w.heap.size,0,none⟩),_,_,?_,?_,h1,h2⟩
  .simp[Instr.alloc,RN.zeroValue,newVar,newRow,cW RN]
  .simp[Rep,G.add,hi.next]
theorem xN(off:Nat):∀(ds:List Value) (k:Nat) (arr:Array Value),off+k+ds.length<=arr.size->
 (ds.zipIdx k).foldl (fun cs (x:Value×Nat)=>cs.setIfInBounds (off+x.2) x.1) arr=(arr.toList.take (off+k)++ds++arr.toList.drop (off+k+ds.length)).toArray
 |[],k,arr,_=>by simp
 |d::ds,k,arr,h=>by
  simp only[List.zipIdx_cons,List.foldl_cons];have hl:off+(k+1)+ds.length<=(arr.setIfInBounds (off+k) d).size:=by simp at h ⊢;omega
  rw[xN off ds (k+1) _ hl]
  congr 1
  have GD:off+k<arr.toList.length:=by simp at h ⊢;omega
  rw[Array.toList_setIfInBounds];simp only[List.length_cons];rw[show off+(k+1)=off+k+1 by omega,List.take_set,aAn GD,aER oO];rw[aEA _ _ (by simp;omega)];simp only[aAq];rw[show off+k-min (off+k) arr.toList.length=0 by omega];simp[aDp,aEX 1]
theorem nS(place:Nat->Option (Nat×Nat)):∀(parts:List (Nat×LV)) (Xz:List (Nat×Value)) (cs cs':List LV) (vs:List Value),
 pM place cs parts=some cs'->aC w g cs vs->(parts.map (·.1)=Xz.map (·.1))->aC w g (parts.map (·.2)) (Xz.map (·.2))->
 ∃ vs',Instr.fill place vs.toArray Xz=some vs'.toArray/\aC w g cs' vs'
 |[],Xz,cs,cs',vs,h,hr,h1,_=>by
  simp only[pM,aAb]at h;subst h;cases Xz with
  |nil=>exact⟨vs,rfl,hr⟩
  |cons p ps=>simp at h1
 |(i,lv)::parts,Xz,cs,cs',vs,h,hr,h1,h2=>by
  cases Xz with
  |nil=>simp at h1
  |cons p Xz=>
   obtain⟨i',v⟩:=p;simp only[aAi,aBi]at h1;obtain⟨rfl,h1⟩:=h1;simp only[aAi,aC]at h2;obtain⟨v',vs',hv,hl,h2⟩:=h2;simp only[aBi]at hv;obtain⟨rfl,rfl⟩:=hv;simp only[pM]at h
   split at h
   .rename_i off size ds hp G6
    split at h
    .rename_i hcond;have Xh:=qA G6 hl;have hlen:=aL _ _ Xh;have hlv:=aL _ _ hr;have Yz:v.cells.size=ds.length:=by rw[hlen];simp
     have Xm:off+v.cells.size<=vs.length:=oO;have hsp:=xN off v.cells.toList 0 vs.toArray (by simp;omega);simp only[Nat.add_zero]at hsp;have N8:aC w g (cs.take off++ds++cs.drop (off+ds.length)) (vs.take off++v.cells.toList++vs.drop (off+v.cells.toList.length)):=by have hd:=iE (off+ds.length) _ _ hr;have:=cB _ _ _ _ (cB _ _ _ _ (dU off _ _ hr) Xh) hd;rw[hlen]at this ⊢;exact this
     obtain⟨vs',k1,k2⟩:=nS place parts Xz _ cs' _ h N8 h1 h2;refine⟨vs',?_,k2⟩;have hz:Array.foldl (fun cs (x:Value×Nat)=>cs.setIfInBounds (off+x.2) x.1) vs.toArray v.cells.zipIdx=(vs.take off++v.cells.toList++vs.drop (off+v.cells.toList.length)).toArray:=by rw[<- Array.foldl_toList,Array.toList_zipIdx];exact hsp
     have ZK:¬(v.cells.size≠size||decide (off+v.cells.size > vs.toArray.size))=true:=by simp;omega
     unfold Instr.fill;simp only[hp];rw[aAa ZK];have:(fun(cs:Array Value) (x:Value×Nat)=>match x with|(c,j)=>cs.setIfInBounds (off+j) c)=(fun cs x=>cs.setIfInBounds (off+x.2) x.1):=by
      funext cs x;rfl
     rw[this,hz];exact k1
    .simp at h
   .simp at h
theorem uH(hT:bJ P T):∀(F:List Field) (ps:List (Nat×Nat)),qW T (F.map fun f=>(f.offset,f.type))=some ps->F.mapM (fun f=>(P.info? f.type).map fun i=>(f.offset,i.size))=some ps
 |[],ps,h=>by simp only[aBt,qW,aAb]at h;subst h;rfl
 |f::F,ps,h=>by
  simp only[aAi,qW]at h
  split at h
  .rename_i q l hq hl;simp only[aAb]at h;subst h;obtain⟨i,hi,hs,_,_⟩:=(hT _ _ hq).info;have ih:=uH hT F l hl;simp only[aEF,hi,ih,Option.map_some,hs];rfl
  .simp at h
theorem Fo(hT:bJ P T){t:TypeId}{parts:List (Nat×LV)}{Xz:Array (Nat×Value)}{r:bW}(he:Di T t parts st=some r)(hc:r.c)
 (h1:parts.map (·.1)=Xz.toList.map (·.1)) (h2:aC w g (parts.map (·.2)) (Xz.toList.map (·.2))):
 r.s=st/\∃ u,(Instr.build t Xz).run P w=.ok u w/\Rep w g r.v u:=by
 unfold Di at he
 split at he
 .rename_i fs row hs ht
  split at he
  .rename_i ps hps
   split at he
   .rename_i cs ZC;simp only[aAb]at he;subst he;obtain⟨F,hd,hF⟩:=sM hT hs;have RN:=hT t row ht;subst hF;have j8:=uH hT _ _ hps;have hrp:=run_places (P:=P) w F.toList ps j8;obtain⟨vs',k1,k2⟩:=nS (fun i=>ps[i]?) parts Xz.toList _ _ row.zero ZC (cO w g row.zero) h1 h2;have C8:row.agg=true:=hc;refine⟨rfl,.agg vs'.toArray,?_,by simp only[Rep];exact⟨vs',rfl,k2⟩⟩;have hz:row.zeroV.cells=row.zero.toArray:=cW RN;have hk:Instr.fill (fun x=>ps[x]?) row.zero.toArray Xz.toList=some vs'.toArray:=k1;simp[Instr.build,RN.zeroValue,run_underlying hd,aEf,hrp,hz,hk]
   .simp at he
  .simp at he
 .rename_i row hs ht
  split at he
  .rename_i e hae
   split at he
   .rename_i re ZE
    split at he
    .rename_i cs ZC;simp only[aAb]at he;subst he;obtain⟨n,hd⟩:=RL hT hae;have RN:=hT t row ht;have hre:=hT e re ZE;obtain⟨vs',k1,k2⟩:=nS (fun i=>some (i*re.size,re.size)) parts Xz.toList _ _ row.zero ZC (cO w g row.zero) h1 h2;have C8:row.agg=true:=hc;refine⟨rfl,.agg vs'.toArray,?_,by simp only[Rep];exact⟨vs',rfl,k2⟩⟩;have hz:row.zeroV.cells=row.zero.toArray:=cW RN;have hk:Instr.fill (fun i=>some (i*re.size,re.size)) row.zero.toArray Xz.toList=some vs'.toArray:=k1;simp[Instr.build,RN.zeroValue,run_underlying hd,hre.sizeOf,hz,hk]
    .simp at he
   .simp at he
  .simp at he
 .simp at he
def bD(z:List Value):Nat->List Value
 |0=>[]
 |n+1=>z++bD z n
theorem kD(z:List Value):∀ n,dO (z.map cL) n=(bD z n).map cL
 |0=>rfl
 |n+1=>by simp[dO,bD,kD z n]
theorem eG(z:List Value)(hz:0<z.length):∀ n,bD z n=(List.range (n*z.length)).map fun i=>z.toArray[i % z.toArray.size]!
 |0=>by simp[bD]
 |n+1=>by
  rw[bD,eG z hz n];apply aDf;intro i;simp only[aBc];by_cases hi:i<z.length
  .rw[aAX hi,aBN,aDV (by rw[aDM];omega)];simp[aAM hi,hi]
  .rw[aBk oO,aBN,aBN];by_cases h2:i<(n+1)*z.length
   .rw[aDV h2,aDV (by rw[aDM]at h2;omega)];simp only[Option.map_some]
    congr 2
    have:i=(i-z.length)+z.length:=oO;rw[this,aDy];simp
   .have h3:n*z.length<=i-z.length:=by rw[aDM]at h2;omega
    have h4:(n+1)*z.length<=i:=oO;rw[aBz (l:=List.range (n*z.length)) (by simpa using h3),aBz (l:=List.range ((n+1)*z.length)) (by simpa using h4)]
def UX(n s:Nat):Prop:=n*s<=16777216/\0<s
theorem wK(hT:bJ P T)(hi:Inv w g st){md:Bool}{t:TypeId}{n:Nat}{parts:List (Nat×LV)}{Xz:Array (Nat×Value)}{r:bW}(he:lT T md t n parts st=some r)(hc:r.c)
 (h1:parts.map (·.1)=Xz.toList.map (·.1)) (h2:aC w g (parts.map (·.2)) (Xz.toList.map (·.2))):
 ∃ u w' g',(Instr.buildSlice t n Xz).run P w=.ok u w'/\Rep w' g' r.v u/\Inv w' g' r.s/\Ext w g w' g':=by
 unfold lT at he
 split at he
 .rename_i e hs
  split at he
  .rename_i row hrow'
   split at he
   .rename_i cs ZC;have W4:UX n row.size:=by
     split at he<;>(simp only[aAb]at he;subst he;exact hc)
    obtain⟨c1,c2⟩:=W4;have RN:=hT e row hrow';have hd:=cK hT hs;have M6:=RN.zl;rw[kD]at ZC;obtain⟨vs',k1,k2⟩:=nS _ parts Xz.toList _ _ (bD row.zero n) ZC (cO w g _) h1 h2;have hlen:vs'.length=n*row.size:=by
     have hf:∀(place:Nat->Option (Nat×Nat)) (ps:List (Nat×LV)) (a b:List LV),pM place a ps=some b->b.length=a.length:=by
      intro place ps;induction ps with
      |nil=>intro a b h;simp only[pM,aAb]at h;subst h;rfl
      |cons p ps ih=>
       intro a b h;obtain⟨i,lv⟩:=p;simp only[pM]at h
       split at h
       .split at h
        .rename_i hcond;rw[ih _ _ h];simp;omega
        .simp at h
       .simp at h
     rw[<- aL _ _ k2,hf _ _ _ _ ZC,aAz,eG _ oO];simp[M6]
    rw[eG _ oO,M6]at k1;have I6:n<=maxLen:=by have:n<=n*row.size:=Nat.le_mul_of_pos_right n c2;simp only[maxLen];omega
    have Xr:(Instr.buildSlice t n Xz).run P w=.ok (.slice (some ⟨w.heap.size,0,none⟩) n n) (w.alloc (.cells vs'.toArray e)):=by
     have hz:row.zeroV.cells=row.zero.toArray:=cW RN;have Xm:¬(16777216<n*row.size):=oO;have Xp:Instr.fill (fun i=>some (i*row.size,row.size)) (Array.map (fun x=>row.zero[x % row.zero.length]?.getD default) (Array.range (n*row.size))) Xz.toList=some vs'.toArray:=by
      rw[<- k1]
      congr 1
      rw[<- aCY,aDJ]
      congr 1
      apply aAU;intro x _;simp
     by_cases h0:n*row.size=0
     .have hn:n=0:=by
       rcases aEr.1 h0 with h|h
       .exact h
       .omega
      subst hn;rw[show Array.range (0*row.size)=#[] by simp[Array.range]]at Xp;simp only[Array.map_empty]at Xp;simp[Instr.buildSlice,run_underlying hd,RN.sizeOf,newRow];rw[show Array.map (fun x=>(default:Value)) (Array.range 0)=#[] by simp[Array.range],Xp];simp
     .simp[Instr.buildSlice,run_underlying hd,RN.sizeOf,Xm,h0,RN.zeroValue,hz,newRow];rw[Xp];simp
    have Xh:=aL _ _ k2
    split at he
    .simp only[aAb]at he;subst he;have B5:=tI hi e row.size n (cs:=cs) (vs:=vs') hlen I6 (aDu Xh) (by rw[aAv (aDu Xh.symm)];exact k2);have ZJ:=dB w g (.cells vs'.toArray e) 0 n false;refine⟨_,_,_,Xr,?_,B5,ZJ⟩;simp only[Rep];exact⟨_,n,rfl,aAk _,I6,by simp[G.add,hi.next],by simp[G.add,hi.next],by simp[G.add,hi.next]⟩
    .simp only[aAb]at he;subst he;have B5:=Dz hi e row.size n n vs'.toArray (by simp[hlen]) (aAk _) I6;have ZJ:=dB w g (.cells vs'.toArray e) (n*row.size) n false;refine⟨_,_,_,Xr,?_,B5,ZJ⟩;simp only[Rep];refine⟨_,n,rfl,aAk _,⟨I6,sS⟩,fun _=>?_,fun _=>?_⟩
     .simp[G.add,hi.next]
     .refine⟨w.heap.size,0,rfl,iL cs vs' 0 (aC.mono ZJ _ _ k2) (fun j hj=>?_) (fun j hj=>?_)⟩
      .rw[cell_of_row _ _ _ _ _ _ (heap_alloc_new w _)];simp
      .intro k hk;simp[G.add]at hk;omega
   .simp at he
  .simp at he
 .simp at he
end
end Aw
end Go.Proofs.YtempldclppogmaaGreatDoor
