/- The operations' soundness: what makes memory; all of them in one theorem. No program is named here. -/
import Derived.Test.YtbgngpdonpeboaaGreatDoorAwSound
import Derived.Laws.Tables
set_option linter.defProp false
set_option linter.unusedVariables false
set_option linter.unusedSimpArgs false
namespace Go.Proofs.YtbgngpdonpeboaaGreatDoor
namespace Aw
open Go Go.RowKit
section
variable {P:Program} {T:az} {w:World} {g:G} {st:St}
theorem Gc(l:aZ P T)(f:Inv w g st){t:TypeId}{r:bS}(d:GO T t st=some r):
 ∃ u b c,(Instr.alloc t true (.tuple #[])).run P w=.ok u b/\Rep b c r.v u/\Inv b c r.s/\Ext w g b c:=by
 unfold GO at d;cases h:T t with
 |none=>grind
 |some a=>
  simp only[h,ap]at d;subst d;have e:=l t a h;have m:=e.zl;have j:=uV f t a.size 1 (cs:=a.zero.map cP) (vs:=a.zero) oO (by simp[maxLen]) sS (by grind [cV]);have k:=dN w g (.cells a.zero.toArray t) 0 1 false;refine⟨.pointer (some ⟨w.heap.size,0,none⟩),_,_,?_,?_,j,k⟩
  .simp[Instr.alloc,e.zeroValue,newVar,newRow,dR e]
  .simp[Rep,G.add,f.z]
theorem yH(off:Nat):∀(a:List Value) (k:Nat) (arr:Array Value),off+k+a.length<=arr.size->
 (a.zipIdx k).foldl (fun cs (x:Value×Nat)=>cs.setIfInBounds (off+x.2) x.1) arr=(arr.toList.take (off+k)++a++arr.toList.drop (off+k+a.length)).toArray
 |[],k,arr,_=>by simp
 |d::a,k,arr,h=>by
  simp only[List.zipIdx_cons,List.foldl_cons];have b:off+(k+1)+a.length<=(arr.setIfInBounds (off+k) d).size:=by simp at h ⊢;omega
  rw[yH off a (k+1) _ b]
  congr 1
  have dF:off+k<arr.toList.length:=by simp at h ⊢;omega
  rw[xr];simp only[List.length_cons];rw[show off+(k+1)=off+k+1 by omega,List.take_set,eL dF,zn oO];rw[List.set_append_right _ _ (by grind)];simp only[dn];rw[show off+k-min (off+k) arr.toList.length=0 by omega]
  grind
theorem oQ(place:Nat->Option (Nat×Nat)):∀(parts:List (Nat×LV)) (d:List (Nat×Value)) (f a:List LV) (b:List Value),
 pO place f parts=some a->aC w g f b->(parts.map (·.1)=d.map (·.1))->aC w g (parts.map (·.2)) (d.map (·.2))->
 ∃ c,Instr.fill place b.toArray d=some c.toArray/\aC w g a c
 |[],d,f,a,b,h,hr,j,_=>by
  simp only[pO,ap]at h;subst h;cases d with
  |nil=>exact⟨b,rfl,hr⟩
  |cons p E=>grind
 |(i,lv)::parts,d,f,a,b,h,hr,j,l=>by
  cases d with
  |nil=>grind
  |cons p d=>
   obtain⟨B,v⟩:=p;simp only[ax,jx]at j;obtain⟨rfl,j⟩:=j;simp only[ax,aC]at l;obtain⟨F,c,o,x,l⟩:=l;simp only[jx]at o;obtain⟨rfl,rfl⟩:=o;simp only[pO]at h
   split at h
   .rename_i off size k A s
    split at h
    .rename_i m;have q:=qW s x;have e:=aM _ _ q;have y:=aM _ _ hr;have z:v.cells.size=k.length:=by rw[e];simp
     have H:off+v.cells.size<=b.length:=oO;have n:=yH off v.cells.toList 0 b.toArray oO;simp only[Nat.add_zero]at n;have r:aC w g (f.take off++k++f.drop (off+k.length)) (b.take off++v.cells.toList++b.drop (off+v.cells.toList.length)):=by have t:=iV (off+k.length) _ _ hr;have:=cI _ _ _ _ (cI _ _ _ _ (fP off _ _ hr) q) t;rw[e]at this ⊢;exact this
     obtain⟨c,C,D⟩:=oQ place parts d _ a _ h r j l
     grind [Array.toList_zipIdx,Instr.fill]
    grind
   grind
theorem uD(b:aZ P T):∀(F:List Field) (a:List (Nat×Nat)),sF T (F.map fun f=>(f.offset,f.type))=some a->F.mapM (fun f=>(P.info? f.type).map fun i=>(f.offset,i.size))=some a
 |[],a,h=>by grind [sF]
 |f::F,a,h=>by
  simp only[ax,sF]at h
  split at h
  .rename_i q l d c;simp only[ap]at h;subst h;obtain⟨i,e,j,_,_⟩:=(b _ _ d).info;have k:=uD b F l c;simp_all
  grind
theorem HQ(f:aZ P T){t:TypeId}{parts:List (Nat×LV)}{x8:Array (Nat×Value)}{r:bS}(b:GJ T t parts st=some r)(I:r.c)
 (E:parts.map (·.1)=x8.toList.map (·.1)) (H:aC w g (parts.map (·.2)) (x8.toList.map (·.2))):
 r.s=st/\∃ u,(Instr.build t x8).run P w=.ok u w/\Rep w g r.v u:=by
 unfold GJ at b
 split at b
 .rename_i Q a J A
  split at b
  .rename_i D q
   split at b
   .rename_i M k;simp only[ap]at b;subst b;obtain⟨F,o,N⟩:=tJ f J;have h:=f t a A;subst N;have K:=uD f _ _ q;have z:=run_places (P:=P) w F.toList D K;obtain⟨d,C,O⟩:=oQ (fun i=>D[i]?) parts x8.toList _ _ a.zero k (cV w g a.zero) E H;have m:a.agg=true:=I;refine⟨rfl,.agg d.toArray,?_,by grind [Rep]⟩;have B:a.zeroV.cells=a.zero.toArray:=dR h;have p:Instr.fill (fun x=>D[x]?) a.zero.toArray x8.toList=some d.toArray:=C;simp[Instr.build,h.zeroValue,run_underlying o,xt,z,B,p]
   grind
  grind
 .rename_i a J A
  split at b
  .rename_i e l
   split at b
   .rename_i j L
    split at b
    .rename_i M k;simp only[ap]at b;subst b;obtain⟨n,o⟩:=UI f l;have h:=f t a A;have y:=f e j L;obtain⟨d,C,O⟩:=oQ (fun i=>some (i*j.size,j.size)) parts x8.toList _ _ a.zero k (cV w g a.zero) E H;have m:a.agg=true:=I;refine⟨rfl,.agg d.toArray,?_,by grind [Rep]⟩;have B:a.zeroV.cells=a.zero.toArray:=dR h;have p:Instr.fill (fun i=>some (i*j.size,j.size)) a.zero.toArray x8.toList=some d.toArray:=C;simp[Instr.build,h.zeroValue,run_underlying o,y.sizeOf,B,p]
    grind
   grind
  grind
 grind
def bX(z:List Value):Nat->List Value
 |0=>[]
 |n+1=>z++bX z n
theorem nB(z:List Value):∀ n,fL (z.map cP) n=(bX z n).map cP
 |0=>rfl
 |n+1=>by simp[fL,bX,nB z n]
theorem gR(z:List Value)(b:0<z.length):∀ n,bX z n=(List.range (n*z.length)).map fun i=>z.toArray[i % z.toArray.size]!
 |0=>by simp[bX]
 |n+1=>by
  rw[bX,gR z b n];apply og;intro i;simp only[ik];by_cases c:i<z.length
  .grind [Nat.mod_eq_of_lt]
  .rw[mw oO,nk,nk];by_cases a:i<(n+1)*z.length
   .rw[yw a,yw (by grind)];simp only[Option.map_some]
    congr 2
    have:i=(i-z.length)+z.length:=oO;rw[this,tc];simp
   grind
def Wh(n s:Nat):Prop:=n*s<=16777216/\0<s
theorem wL(O:aZ P T)(q:Inv w g st){md:Bool}{t:TypeId}{n:Nat}{parts:List (Nat×LV)}{x8:Array (Nat×Value)}{r:bS}(l:lX T md t n parts st=some r)(X:r.c)
 (V:parts.map (·.1)=x8.toList.map (·.1)) (W:aC w g (parts.map (·.2)) (x8.toList.map (·.2))):
 ∃ u E J,(Instr.buildSlice t n x8).run P w=.ok u E/\Rep E J r.v u/\Inv E J r.s/\Ext w g E J:=by
 unfold lX at l
 split at l
 .rename_i e hs
  split at l
  .rename_i d o
   split at l
   .rename_i I F;have K:Wh n d.size:=by
     split at l<;>(simp only[ap]at l;subst l;exact X)
    obtain⟨c1,U⟩:=K;have B:=O e d o;have Q:=cZ O hs;have A:=B.zl;rw[nB]at F;obtain⟨f,R,L⟩:=oQ _ parts x8.toList _ _ (bX d.zero n) F (cV w g _) V W;have y:f.length=n*d.size:=by
     have hf:∀(place:Nat->Option (Nat×Nat)) (D:List (Nat×LV)) (a b:List LV),pO place a D=some b->b.length=a.length:=by
      intro place D;induction D with
      |nil=>grind [pO]
      |cons p D ih=>
       grind [pO]
     rw[<- aM _ _ L,hf _ _ _ _ F,dh,gR _ oO];simp[A]
    rw[gR _ oO,A]at R;have m:n<=maxLen:=by have:n<=n*d.size:=Nat.le_mul_of_pos_right n U;simp only[maxLen];omega
    have S:(Instr.buildSlice t n x8).run P w=.ok (.slice (some ⟨w.heap.size,0,none⟩) n n) (w.alloc (.cells f.toArray e)):=by
     have hz:d.zeroV.cells=d.zero.toArray:=dR B;have v7:¬(16777216<n*d.size):=oO;have M:Instr.fill (fun i=>some (i*d.size,d.size)) (Array.map (fun x=>d.zero[x % d.zero.length]?.getD default) (Array.range (n*d.size))) x8.toList=some f.toArray:=by
      rw[<- R]
      congr 1
      rw[<- zk,vg]
      congr 1
      apply ii;intro x _;simp
     by_cases N:n*d.size=0
     .have Z:n=0:=by
       rcases zm.1 N with h|h
       .exact h
       .omega
      subst Z;rw[show Array.range (0*d.size)=#[] by grind]at M;simp only[Array.map_empty]at M;simp[Instr.buildSlice,run_underlying Q,B.sizeOf,newRow];rw[show Array.map (fun x=>(default:Value)) (Array.range 0)=#[] by grind,M];simp
     .simp[Instr.buildSlice,run_underlying Q,B.sizeOf,v7,N,B.zeroValue,hz,newRow];simp_all
    have r8:=aM _ _ L
    split at l
    .simp only[ap]at l;subst l;have H:=uV q e d.size n (cs:=I) (vs:=f) y m (tn r8) (by grind);have C:=dN w g (.cells f.toArray e) 0 n false;refine⟨_,_,_,S,?_,H,C⟩;simp only[Rep];exact⟨_,n,rfl,au _,m,by simp[G.add,q.z],by simp[G.add,q.z],by simp[G.add,q.z]⟩
    .simp only[ap]at l;subst l;have H:=FG q e d.size n n f.toArray oO (au _) m;have C:=dN w g (.cells f.toArray e) (n*d.size) n false;refine⟨_,_,_,S,?_,H,C⟩;simp only[Rep];refine⟨_,n,rfl,au _,⟨m,sS⟩,fun _=>?_,fun _=>?_⟩
     .simp[G.add,q.z]
     .refine⟨w.heap.size,0,rfl,iN I f 0 (aC.mono C _ _ L) (fun j Y=>?_) (fun j Y=>?_)⟩
      .simp_all
      .intro k hk
       grind [G.add]
   grind
  grind
 grind
end
end Aw
end Go.Proofs.YtbgngpdonpeboaaGreatDoor
