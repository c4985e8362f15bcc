/- Lemmas. -/
import Derived.Test.YtbgngpdonpeboaaGreatDoorAwSound
import Derived.Laws.Tables
set_option linter.defProp false
namespace Go.Proofs.YtbgngpdonpeboaaGreatDoor
namespace Aw
open Go Go.RowKit
section
variable {P:Program} {T:bg} {w:World} {g:G} {st:St}
theorem Jj(l:bE P T)(f:Inv w g st){t:TypeId}{r:bV}(e:Gy T t st=some r):
 ∃ u b d,(Instr.alloc t true (.tuple #[])).run P w=.ok u b/\Rep b d r.v u/\Inv b d r.s/\Ext w g b d:=by
 unfold Gy at e;cases h:T t with
 |none=>grind
 |some a=>
  simp only[h,ap]at e;subst e;have c:=l t a h;have m:=c.zl;have j:=xQ f t a.size 1 (cs:=a.zero.map dD) (vs:=a.zero) O (by simp[maxLen]) Y (by grind [dI]);have k:=dZ w g (.cells a.zero.toArray t) 0 1 false;refine⟨.pointer (some ⟨w.heap.size,0,none⟩),_,_,?_,?_,j,k⟩
  .simp[Instr.alloc,c.zeroValue,newVar,newRow,eE c]
  .simp[Rep,G.add,f.z]
theorem Ag(off:Nat):∀(a:List Value) (k:Nat) (arr:Array Value),off+k+a.length<=arr.size->
 (a.zipIdx k).foldl (fun cs (x:Value×Nat)=>cs.setIfInBounds (off+x.2) x.1) arr=(arr.toList.take (off+k)++a++arr.toList.drop (off+k+a.length)).toArray
 |[],k,arr,_=>by simp
 |d::a,k,arr,h=>by
  simp only[List.zipIdx_cons,List.foldl_cons];have b:off+(k+1)+a.length<=(arr.setIfInBounds (off+k) d).size:=by simp at h ⊢;omega
  rw[Ag off a (k+1) _ b]
  congr 1
  have dS:off+k<arr.toList.length:=by simp at h ⊢;omega
  rw[Array.toList_setIfInBounds];simp only[List.length_cons];rw[show off+(k+1)=off+k+1 by omega,List.take_set,fh dS,La O];rw[List.set_append_right _ _ (by grind)];simp only[dj];rw[show off+k-min (off+k) arr.toList.length=0 by omega]
  grind
theorem qV(place:Nat->Option (Nat×Nat)):∀(parts:List (Nat×LV)) (d:List (Nat×Value)) (f a:QQ) (b:List Value),
 tU place f parts=some a->aG w g f b->(parts.map (·.1)=d.map (·.1))->aG w g (parts.map (·.2)) (d.map (·.2))->
 ∃ c,Instr.fill place b.toArray d=some c.toArray/\aG w g a c
 |[],d,f,a,b,h,hr,j,_=>by
  simp only[tU,ap]at h;subst h;cases d with
  |nil=>exact⟨b,rfl,hr⟩
  |cons p E=>grind
 |(i,lv)::parts,d,f,a,b,h,hr,j,m=>by
  cases d with
  |nil=>grind
  |cons p d=>
   obtain⟨B,v⟩:=p;simp only[ax,kX]at j;obtain⟨rfl,j⟩:=j;simp only[ax,aG]at m;obtain⟨H,c,r,x,m⟩:=m;simp only[kX]at r;obtain⟨rfl,rfl⟩:=r;simp only[tU]at h
   split at h
   .rename_i off size l A o
    split at h
    .rename_i n;have s:=tL o x;have e:=aO _ _ s;have y:=aO _ _ hr;have z:v.cells.size=l.length:=by rw[e];simp
     have F:off+v.cells.size<=b.length:=O;have q:=Ag off v.cells.toList 0 b.toArray O;simp only[Nat.add_zero]at q;have k:aG w g (f.take off++l++f.drop (off+l.length)) (b.take off++v.cells.toList++b.drop (off+v.cells.toList.length)):=by have t:=kF (off+l.length) _ _ hr;have:=cR _ _ _ _ (cR _ _ _ _ (gQ off _ _ hr) s) t;rw[e]at this ⊢;exact this
     obtain⟨c,C,D⟩:=qV place parts d _ a _ h k j m
     grind [Array.toList_zipIdx,Instr.fill]
    grind
   grind
theorem xM(b:bE P T):∀(F:List Field) (a:List (Nat×Nat)),uF T (F.map fun f=>(f.offset,f.type))=some a->F.mapM (fun f=>(P.info? f.type).map fun i=>(f.offset,i.size))=some a
 |[],a,h=>by grind [uF]
 |f::F,a,h=>by
  simp only[ax,uF]at h
  split at h
  .rename_i q l d c;simp only[ap]at h;subst h;obtain⟨i,e,j,_,_⟩:=(b _ _ d).info;have k:=xM b F l c;simp_all
  grind
theorem KG(h:bE P T){t:TypeId}{parts:List (Nat×LV)}{x7:Array (Nat×Value)}{r:bV}(b:Gd T t parts st=some r)(K:r.c)
 (I:parts.map (·.1)=x7.toList.map (·.1)) (J:aG w g (parts.map (·.2)) (x7.toList.map (·.2))):
 r.s=st/\∃ u,(Instr.build t x7).run P w=.ok u w/\Rep w g r.v u:=by
 unfold Gd at b
 split at b
 .rename_i R a L B
  split at b
  .rename_i H y
   split at b
   .rename_i M f;simp only[ap]at b;subst b;obtain⟨F,o,N⟩:=wH h L;have j:=h t a B;subst N;have q:=xM h _ _ y;have A:=run_places (P:=P) w F.toList H q;obtain⟨d,E,Q⟩:=qV (fun i=>H[i]?) parts x7.toList _ _ a.zero f (dI w g a.zero) I J;have m:a.agg=true:=K;refine⟨rfl,.agg d.toArray,?_,by grind [Rep]⟩;have D:a.zeroV.cells=a.zero.toArray:=eE j;have p:Instr.fill (fun x=>H[x]?) a.zero.toArray x7.toList=some d.toArray:=E;simp[Instr.build,j.zeroValue,run_underlying o,zy,A,D,p]
   grind
  grind
 .rename_i a L B
  split at b
  .rename_i e l
   split at b
   .rename_i k C
    split at b
    .rename_i M f;simp only[ap]at b;subst b;obtain⟨n,o⟩:=WM h l;have j:=h t a B;have z:=h e k C;obtain⟨d,E,Q⟩:=qV (fun i=>some (i*k.size,k.size)) parts x7.toList _ _ a.zero f (dI w g a.zero) I J;have m:a.agg=true:=K;refine⟨rfl,.agg d.toArray,?_,by grind [Rep]⟩;have D:a.zeroV.cells=a.zero.toArray:=eE j;have p:Instr.fill (fun i=>some (i*k.size,k.size)) a.zero.toArray x7.toList=some d.toArray:=E;simp[Instr.build,j.zeroValue,run_underlying o,z.sizeOf,D,p]
    grind
   grind
  grind
 grind
def cE(z:List Value):Nat->List Value
 |0=>[]
 |n+1=>z++cE z n
theorem pK(z:List Value):∀ n,gN (z.map dD) n=(cE z n).map dD
 |0=>rfl
 |n+1=>by simp[gN,cE,pK z n]
theorem iP(z:List Value)(b:0<z.length):∀ n,cE z n=(List.range (n*z.length)).map fun i=>z.toArray[i % z.toArray.size]!
 |0=>by simp[cE]
 |n+1=>by
  rw[cE,iP z b n];apply pw;intro i;simp only[jh];by_cases c:i<z.length
  .grind [Nat.mod_eq_of_lt]
  .rw[oi O,ow,ow];by_cases a:i<(n+1)*z.length
   .rw[Hk a,Hk (by grind)];simp only[Option.map_some]
    congr 2
    have:i=(i-z.length)+z.length:=O;rw[this,vh];simp
   grind
def A7(n s:Nat):Prop:=n*s<=16777216/\0<s
theorem zP(Q:bE P T)(B:Inv w g st){md:Bool}{t:TypeId}{n:Nat}{parts:List (Nat×LV)}{x7:Array (Nat×Value)}{r:bV}(m:nO T md t n parts st=some r)(hc:r.c)
 (W:parts.map (·.1)=x7.toList.map (·.1)) (X:aG w g (parts.map (·.2)) (x7.toList.map (·.2))):
 ∃ u H J,(Instr.buildSlice t n x7).run P w=.ok u H/\Rep H J r.v u/\Inv H J r.s/\Ext w g H J:=by
 unfold nO at m
 split at m
 .rename_i e hs
  split at m
  .rename_i d A
   split at m
   .rename_i I y;have K:A7 n d.size:=by
     split at m<;>(simp only[ap]at m;subst m;exact hc)
    obtain⟨c1,V⟩:=K;have C:=Q e d A;have R:=dL Q hs;have E:=C.zl;rw[pK]at y;obtain⟨f,S,M⟩:=qV _ parts x7.toList _ _ (cE d.zero n) y (dI w g _) W X;have D:f.length=n*d.size:=by
     have hf:∀(place:Nat->Option (Nat×Nat)) (F:List (Nat×LV)) (a b:QQ),tU place a F=some b->b.length=a.length:=by
      intro place F;induction F with
      |nil=>grind [tU]
      |cons p F ih=>
       grind [tU]
     rw[<- aO _ _ M,hf _ _ _ _ y,du,iP _ O];simp[E]
    rw[iP _ O,E]at S;have q:n<=maxLen:=by have:n<=n*d.size:=Nat.le_mul_of_pos_right n V;simp only[maxLen];omega
    have U:(Instr.buildSlice t n x7).run P w=.ok (.slice (some ⟨w.heap.size,0,none⟩) n n) (w.alloc (.cells f.toArray e)):=by
     have hz:d.zeroV.cells=d.zero.toArray:=eE C;have u7:¬(16777216<n*d.size):=O;have L:Instr.fill (fun i=>some (i*d.size,d.size)) (Array.map (fun x=>d.zero[x % d.zero.length]?.getD default) (Array.range (n*d.size))) x7.toList=some f.toArray:=by
      rw[<- S]
      congr 1
      rw[<- Kd,xp]
      congr 1
      apply jf;intro x _;simp
     by_cases N:n*d.size=0
     .have hn:n=0:=by
       rcases Kp.1 N with h|h
       .exact h
       .omega
      subst hn;rw[show Array.range (0*d.size)=#[] by grind]at L;simp only[Array.map_empty]at L;simp[Instr.buildSlice,run_underlying R,C.sizeOf,newRow];rw[show Array.map (fun x=>(default:Value)) (Array.range 0)=#[] by grind,L];simp
     .simp[Instr.buildSlice,run_underlying R,C.sizeOf,u7,N,C.zeroValue,hz,newRow];simp_all
    have r8:=aO _ _ M
    split at m
    .simp only[ap]at m;subst m;have o:=xQ B e d.size n (cs:=I) (vs:=f) D q (vq r8) (by grind);have l:=dZ w g (.cells f.toArray e) 0 n false;refine⟨_,_,_,U,?_,o,l⟩;simp only[Rep];exact⟨_,n,rfl,au _,q,by simp[G.add,B.z],by simp[G.add,B.z],by simp[G.add,B.z]⟩
    .simp only[ap]at m;subst m;have o:=HU B e d.size n n f.toArray O (au _) q;have l:=dZ w g (.cells f.toArray e) (n*d.size) n false;refine⟨_,_,_,U,?_,o,l⟩;simp only[Rep];refine⟨_,n,rfl,au _,⟨q,Y⟩,fun _=>?_,fun _=>?_⟩
     .simp[G.add,B.z]
     .refine⟨w.heap.size,0,rfl,jV I f 0 (aG.mono l _ _ M) (fun j hj=>?_) (fun j hj=>?_)⟩
      .simp_all
      .intro k hk
       grind [G.add]
   grind
  grind
 grind
end
end Aw
end Go.Proofs.YtbgngpdonpeboaaGreatDoor
