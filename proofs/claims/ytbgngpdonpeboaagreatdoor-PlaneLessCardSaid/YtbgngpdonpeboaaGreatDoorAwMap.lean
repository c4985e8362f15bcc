/- Maps: what a look-up, an update, a new one do; '==' of structs. No program is named here. -/
import Derived.Test.YtbgngpdonpeboaaGreatDoorAwSound2
import Derived.MapKept
import Derived.Laws.StructEq
set_option linter.defProp false
set_option linter.unusedVariables false
set_option linter.unusedSimpArgs false
namespace Go.Proofs.YtbgngpdonpeboaaGreatDoor
namespace Aw
open Go Go.RowKit
section
variable {P:Program} {T:az} {w:World} {g:G} {st:St}
theorem mE:∀(a:List LV) (e:List Value) (b:List IntKind) (d:AN),iL a=some (b,d)->aC w g a e->e=fb b d/\d.length=b.length
 |[],e,b,d,h,hr=>by simp only[iL,ap,fx]at h;obtain⟨rfl,rfl⟩:=h;simp only[aC]at hr;exact⟨hr,rfl⟩
 |c::a,e,b,d,h,hr=>by
  simp only[aC]at hr;obtain⟨v,j,rfl,l,q⟩:=hr;cases c with
  |atom x=>
   cases x with
   |int k n=>
    simp only[iL]at h;cases m:iL a with
    |none=>grind
    |some p=>obtain⟨o,f⟩:=p;simp only[m,ap,fx]at h;obtain⟨rfl,rfl⟩:=h;obtain⟨r,s⟩:=mE a j o f m q;simp only[Rep]at l;exact⟨by rw[l,r];rfl,by grind⟩
   |_=>simp[iL]at h
  |_=>simp[iL]at h
theorem Ce{x:LV}{v:Value}{ag:Bool}{b:List IntKind}{c:AN}(h:Cg x=some (ag,b,c))(a:Rep w g x v):v=cj ag b c/\c.length=b.length:=by
 cases x with
 |atom y=>
  cases y with
  |int k n=>simp only[Cg,ap,fx]at h;obtain⟨rfl,rfl,rfl⟩:=h;simp only[Rep]at a;exact⟨by rw[a];rfl,rfl⟩
  |_=>simp[Cg]at h
 |ag cs=>
  simp only[Cg]at h;cases d:iL cs with
  |none=>grind
  |some p=>obtain⟨m,j⟩:=p;simp only[d,ap,fx]at h;obtain⟨rfl,rfl,rfl⟩:=h;simp only[Rep]at a;obtain⟨l,rfl,a⟩:=a;obtain⟨e,f⟩:=mE cs l _ _ d a;exact⟨by rw[e];rfl,f⟩
 |_=>simp[Cg]at h
def fj(a:AN):List (AN×LV)->List MapEntry->Nat->Option (Nat×Value)
 |p::es,e::cW,i=>if a==p.1 then some (i,e.val)else fj a es cW (i+1)
 |_,_,_=>none
theorem pQ{t:Nat}{ag:Bool}{c:List IntKind}(E:CX P t ag c){f:AN}(m:f.length=c.length)(b:List (AN×LV))(a:List MapEntry)(k:a.map (·.key)=b.map (fun p=>cj ag c p.1))(r:∀ p∈b,p.1.length=c.length):
 (Instr.findKey t (cj ag c f) a).run P w=.ok (fj f b a 0) w:=by
 obtain⟨d,n,j⟩:=E.now;have q:∀(b:List (AN×LV)) (a:List MapEntry) (i:Nat),a.map (·.key)=b.map (fun p=>cj ag c p.1)->(∀ p∈b,p.1.length=c.length)->(Instr.findAsking t (cj ag c f) a i).run P w=.ok (fj f b a i) w:=by
  intro b;induction b with
  |nil=>intro a i h _;cases a with|nil=>simp[Instr.findAsking,fj]|cons e a=>grind
  |cons p b s=>
   intro a i h l;cases a with
   |nil=>grind
   |cons e a=>
    simp only[ax,jx]at h;have o:=E.eq w f p.1 m (l p sS)
    grind [Instr.findAsking,Sem.run_bind,Result.andThen_ok,Sem.run_pure,fj]
 rcases j with j|j
 .have v:∀(b:List (AN×LV)) (a:List MapEntry) (i:Nat),a.map (·.key)=b.map (fun p=>cj ag c p.1)->(∀ p∈b,p.1.length=c.length)->Instr.findNow d (cj ag c f) a i=some (fj f b a i):=by
   intro b;induction b with
   |nil=>intro a i h _;cases a with|nil=>simp[Instr.findNow,fj]|cons e a=>grind
   |cons p b s=>
    intro a i h l;cases a with
    |nil=>grind
    |cons e a=>
     grind [Instr.findNow,fj]
  grind [MapKept.run_findKey]
 .cases b with
  |nil=>cases a with|nil=>simp[Instr.findKey,run_underlying n,Instr.findNow,fj]|cons e a=>grind
  |cons p b=>
   cases a with
   |nil=>grind
   |cons e a=>
    have x:=k;simp only[ax,jx]at k;have o:=j f p.1 m (r p sS);have:Instr.findNow d (cj ag c f) (e::a) 0=none:=by simp[Instr.findNow,k.1,o]
    simp only[Instr.findKey,Sem.run_bind,run_underlying n,Result.andThen_ok,this]
    grind
theorem BX(c:AN):∀(a:List (AN×LV)) (b:List MapEntry) (i:Nat),bQ a c=none->fj c a b i=none
 |[],b,i,_=>by simp[fj]
 |p::a,[],i,_=>by simp[fj]
 |p::a,e::b,i,h=>by
  simp only[bQ]at h
  split at h
  .cases h
  .rename_i d;simp only[fj,ac d];exact BX c a b (i+1) h
theorem Bc(d:AN):∀(a:List (AN×LV)) (b:List MapEntry) (i:Nat) (c:LV),aC w g (a.map (·.2)) (b.map (·.val))->bQ a d=some c->∃ j e,fj d a b i=some (i+j,e.val)/\b[j]?=some e/\Rep w g c e.val/\(a[j]?).map (·.1)=some d
 |[],b,i,c,_,h=>by grind [bQ]
 |p::a,[],i,c,hr,h=>by grind [aC]
 |p::a,e::b,i,c,hr,h=>by
  simp only[ax,aC]at hr;obtain⟨v,x,o,l,m⟩:=hr;injection o with f hv2;subst f hv2;simp only[bQ]at h
  split at h
  .rename_i n;injection h with h;subst h;exact⟨0,e,by grind [fj],rfl,l,by grind⟩
  .rename_i n;obtain⟨j,k,r,s,q,t⟩:=Bc d a b (i+1) c m h;exact⟨j+1,k,by grind [fj],by grind,q,by grind⟩
theorem On{t:Nat}{r:bI}(h:bD P t r):Rep w g (CB r) r.zeroV:=by
 unfold CB bI.zeroV;cases a:r.agg with
 |true=>grind [Rep,cV]
 |false=>
  simp only[iv,gx];have b:=h.one a;have c:=h.zl;cases d:r.zero with
  |nil=>grind
  |cons z e=>grind [ki,sY]
theorem Fb(o:aZ P T)(W:Inv w g st){t:TypeId}{x i:LV}{v U:Value}{B:Bool}{r:bS}(f:vF T t x i B st=some r)(O:r.c)(h:Rep w g x v)(L:Rep w g i U):
 r.s=st/\∃ u,(Instr.lookup t v U B).run P w=.ok u w/\Rep w g r.v u:=by
 unfold vF at f;cases R:nI T t with
 |none=>grind
 |some p=>
  obtain⟨k,e⟩:=p;simp only[R]at f;have S:=uZ o R;cases K:T k with
  |none=>grind
  |some N=>
   cases F:T e with
   |none=>grind
   |some C=>
    cases A:Cg i with
    |none=>grind
    |some q=>
     obtain⟨ag,ks,m⟩:=q;simp only[K,F,A]at f;obtain⟨rfl,a⟩:=Ce A L;have X:=(o e C F).zeroValue w;have Y:=On (w:=w) (g:=g) (o e C F);cases x with
     |mp l=>
      simp only at f;cases Q:st.H l with
      |map ag' V6 es=>
       simp only[Q,ap]at f;subst f;obtain⟨I,rfl,rfl,rfl⟩:=O;have E:=(o k N K).eqk _ I;obtain⟨_,m1,D,clock,m2,m3,m4,m5,m6,m7⟩:=W.mp l _ _ es Q;simp only[Rep]at h;obtain⟨rfl,_⟩:=h;have M:=pQ (w:=w) E a es D m3 m1;have d:=fun J=>E.chk w J m a;refine⟨rfl,?_⟩;have Z:∀ n:Value×Bool,(match fj m es D 0 with|some (_,v)=>(v,true)|none=>(C.zeroV,false))=n->(Instr.lookup t (.map (some (g.β l))) (cj N.agg V6 m) B).run P w=.ok (if B then .tuple #[n.1,.bool n.2]else n.1) w:=by
        intro n z;unfold Instr.lookup;simp only[Sem.run_bind,run_underlying S,Result.andThen_ok,MapKept.run_getObj_map m2,Sem.run_pure,d,M];cases hf:fj m es D 0 with
        |none=>rw[hf]at z;subst z;simp_all
        |some q=>simp_all
       cases V:bQ es m with
       |none=>
        grind [BX,Rep,aC]
       |some lv=>
        obtain⟨j,en,hf,_,J5,_⟩:=Bc (w:=w) (g:=g) m es D 0 lv m4 V
        grind [Rep,aC]
      |_=>grind
     |atom y=>
      cases y with
      |map b=>
       cases b with
       |none=>
        simp only[ap]at f;subst f;obtain⟨I,rfl⟩:=O;have E:=(o k N K).eqk _ I;simp only[Rep]at h;subst h;have M:=pQ (w:=w) E a [] [] rfl sS;have d:=fun J=>E.chk w J m a;refine⟨rfl,(if B then .tuple #[C.zeroV,.bool false]else C.zeroV),?_,?_⟩
        .unfold Instr.lookup;simp only[Sem.run_bind,run_underlying S,Result.andThen_ok,Sem.run_pure,d,M,fj,X]
        grind [Rep,aC]
       |some b=>grind
      |_=>simp at f
     |_=>simp at f
theorem Bv(h:Inv w g st){l:Nat}{ag:Bool}{o:List IntKind}{t e:List (AN×LV)}{c:List MapEntry}{clock':Nat}(r:st.H l=.map ag o t)(I:∀ p∈e,p.1.length=o.length)
 (J:c.map (·.key)=e.map (fun p=>cj ag o p.1)) (K:aC w g (e.map (·.2)) (c.map (·.val))) (L:∀ x∈c,x.born<clock') (M:(c.map (·.born)).Nodup):
 Inv { w with heap:=w.heap.setIfInBounds (g.β l) (.map c.toArray clock') } g (st.set l (.map ag o e))/\Ext w g { w with heap:=w.heap.setIfInBounds (g.β l) (.map c.toArray clock') } g:=by
 obtain⟨O,Z,U,clock,m2,m3,m4,Q,m6,m7⟩:=h.mp l _ _ t r;have A:=h.map_blk r;have dF:=(h.mp l _ _ t r).blk_lt;have B:∀ b,b≠g.β l->(w.heap.setIfInBounds (g.β l) (.map c.toArray clock'))[b]?=w.heap[b]?:=by intro b k;rw[mv,ac (fD k)]
 have f:(w.heap.setIfInBounds (g.β l) (.map c.toArray clock'))[g.β l]?=some (.map c.toArray clock'):=by simp[mv,dF]
 have m:Ext w g { w with heap:=w.heap.setIfInBounds (g.β l) (.map c.toArray clock') } g:=by
  refine⟨rfl,rfl,rfl,sS,au _,fun _ _=>rfl,fun _ _=>rfl,fun _ _=>rfl,?_,?_⟩
  .grind
  .grind [World.cell?_of_block]
 have k:∀ x,blk g (st.set l (.map ag o e)) x↔blk g st x:=by
  intro x;unfold blk;simp only[St.set];by_cases a:x=l
  .grind
  .grind
 have D:l<st.z:=by rw[<- h.z];exact h.map_lt r
 refine⟨⟨h.z,h.pos,?_,?_,?_,?_,?_,?_,?_,h.aside.keep m (jM rfl)⟩,m⟩
 .intro x a;simp only[St.set]at a ⊢;rw[ac oO];exact h.fresh x a
 .intro x a;simpa using h.lt x ((k x).1 a)
 .intro x y a N;exact h.inj x y ((k x).1 a) ((k y).1 N)
 .intro x q s n a;by_cases d:x=l
  .grind [St.set]
  .simp only[St.set,ac d]at a;obtain⟨V,W,X,Y⟩:=h.own x q s n a
   grind
 .intro x q R j a;by_cases d:x=l
  .grind [St.set]
  .simp only[St.set,ac d]at a;obtain⟨q3,q0,q'⟩:=h.box x q R j a
   grind [aC.mono]
 .intro x F S C a;by_cases d:x=l
  .simp only[St.set,ad d]at a;injection a with E a2 a3;subst E a2 a3 d;exact⟨O,I,c,clock',f,J,aC.mono m _ _ K,Q,L,M⟩
  .simp only[St.set,ac d]at a;exact(h.mp x _ _ _ a).keep m (h.map_lt a) (B _ (fun v=>d (h.inj x l (h.map_blk a) A v))) rfl
 .intro x q n a;by_cases d:x=l
  .grind [St.set]
  .simp only[St.set,ac d]at a;exact(h.qu x _ _ a).keep m (h.que_lt a) (B _ (fun v=>d (h.inj x l (h.que_blk a) A v))) rfl
theorem ER{ag:Bool}{b:List IntKind}{c:AN}(d:ag=false->b.length=1)(e:c.length=b.length):Instr.sameBits 10000 (cj ag b c) (cj ag b c)=true:=by
 have h:∀(b:List IntKind) (c:AN) (n:Nat),((fb b c).zip (fb b c)).all (fun p=>Instr.sameBits n p.1 p.2)=true:=by
  intro b;induction b with
  |nil=>intro c n;simp[fb]
  |cons k b j=>
   intro c n;cases c with
   |nil=>simp[fb]
   |cons a c=>simp only[fb,List.zip_cons_cons,List.all_cons,j,Bool.and_true];grind [Instr.sameBits]
 cases ag with
 |true=>simp only[cj,dE,Instr.sameBits];simpa using h b c 9999
 |false=>
  have f:=d rfl
  match b,c,f,e with
  |[k],[a],_,_=>simp[cj,fb,Instr.sameBits]
theorem HA{a:List (AN×LV)}{b:AN}{v:LV}{n:Nat}(h:∀ p∈a,p.1.length=n)(c:b.length=n):∀ p∈bV a b v,p.1.length=n:=by
 induction a with
 |nil=>grind [bV]
 |cons q a d=>
  grind [bV]
theorem IU{ag:Bool}{ks:List IntKind}{d:AN}{h:LV}{j:Value}(c:Nat)(k:Rep w g h j):∀(a:List (AN×LV)) (b:List MapEntry),bQ a d=none->b.map (·.key)=a.map (fun p=>cj ag ks p.1)->aC w g (a.map (·.2)) (b.map (·.val))->
 (b++[(⟨cj ag ks d,j,c⟩:MapEntry)]).map (·.key)=(bV a d h).map (fun p=>cj ag ks p.1)/\aC w g ((bV a d h).map (·.2)) ((b++[(⟨cj ag ks d,j,c⟩:MapEntry)]).map (·.val))
 |[],b,_,h2,h3=>by
  grind [bV,aC]
 |p::a,[],_,h2,_=>by grind
 |p::a,e::b,h1,h2,h3=>by
  simp only[bQ]at h1
  split at h1
  .grind
  .rename_i q;simp only[ax,jx]at h2;simp only[ax,aC]at h3;obtain⟨v,s,l,r,m⟩:=h3;injection l with f hv2;subst f hv2;obtain⟨n,o⟩:=IU c k a b h1 h2.2 m
   grind [bV,aC]
theorem Gi{ag:Bool}{ks:List IntKind}{c:AN}{n:LV}{k:Value}(o:Rep w g n k):∀(b:List (AN×LV)) (a:List MapEntry) (i j:Nat) (d:Value),fj c b a i=some (i+j,d)->a.map (·.key)=b.map (fun p=>cj ag ks p.1)->aC w g (b.map (·.2)) (a.map (·.val))->
 (a.modify j fun e=>{ e with key:=cj ag ks c,val:=k }).map (·.key)=(bV b c n).map (fun p=>cj ag ks p.1)/\aC w g ((bV b c n).map (·.2)) ((a.modify j fun e=>{ e with key:=cj ag ks c,val:=k }).map (·.val))/\
   (a.modify j fun e=>{ e with key:=cj ag ks c,val:=k }).map (·.born)=a.map (·.born)
 |[],a,i,j,d,h1,_,_=>by grind [fj]
 |p::b,[],i,j,d,h1,_,_=>by grind
 |p::b,e::a,i,j,d,h1,h2,h3=>by
  simp only[ax,jx]at h2;simp only[ax,aC]at h3;obtain⟨v,C,s,B,t⟩:=h3;injection s with l hv2;subst l hv2;simp only[fj]at h1
  split at h1
  .rename_i r;simp only[ap,fx]at h1
   grind [bV,aC]
  .rename_i r;have q:∃ f,j=f+1:=by
    cases j with
    |succ f=>grind
    |zero=>
     exfalso;have:∀(b:List (AN×LV)) (a:List MapEntry) (i m:Nat) (v:Value),fj c b a i=some (m,v)->i<=m:=by
      intro b;induction b with
      |nil=>grind [fj]
      |cons p b A=>
       intro a i m v h;cases a with
       |nil=>grind [fj]
       |cons e a=>
        grind [fj]
     grind
   obtain⟨f,rfl⟩:=q;obtain⟨x,y,z⟩:=Gi (ag:=ag) (ks:=ks) o b a (i+1) f d (by rw[h1];grind) h2.2 t
   grind [bV,aC]
theorem tU(V:aZ P T)(O:Inv w g st){t:TypeId}{x i y:LV}{v vi vy:Value}{r:bS}(n:uQ T t x i y st=some r)(hc:r.c)(h:Rep w g x v)(Q:Rep w g i vi)(B:Rep w g y vy):
 r.v=.dead/\∃ U,(Instr.mapUpdate t v vi vy).run P w=.ok () U/\Inv U g r.s/\Ext w g U g:=by
 unfold uQ at n;cases X:nI T t with
 |none=>grind
 |some p=>
  obtain⟨k,e⟩:=p;simp only[X]at n;have Y:=uZ V X;cases W:T k with
  |none=>grind
  |some f=>
   cases A:Cg i with
   |none=>grind
   |some q=>
    obtain⟨ag,ks,b⟩:=q;simp only[W,A]at n;obtain⟨rfl,a⟩:=Ce A Q;cases x with
    |mp l=>
     simp only at n;cases C:st.H l with
     |map ag' V6 es=>
      simp only[C,ap]at n;subst n;obtain⟨c1,rfl,rfl,rfl⟩:=hc;have E:=(V k f W).eqk _ c1;obtain⟨m0,R,d,clock,m2,D,S,m5,m6,m7⟩:=O.mp l _ _ es C;simp only[Rep]at h;obtain⟨rfl,_⟩:=h;have r9:=pQ (w:=w) E a es d D R;have m:=fun em=>E.chk w em b a;refine⟨rfl,?_⟩;cases N:bQ es b with
      |none=>
       have hf:=BX b es d 0 N;obtain⟨F,I⟩:=IU (ag:=f.agg) (ks:=V6) clock B es d N D S
       obtain⟨J,K⟩:=Bv (clock':=clock+1) O C (HA R a) F I (fun z Z=>by
        grind) (by
        grind)
       refine⟨_,?_,J,K⟩;unfold Instr.mapUpdate;simp only[Sem.run_bind,run_underlying Y,Result.andThen_ok,MapKept.run_getObj_map m2,m,r9,hf]
       grind [MapKept.run_setObj_map]
      |some lv=>
       obtain⟨j,L,hf,o,J5,L6⟩:=Bc (w:=w) (g:=g) b es d 0 lv S N;obtain⟨F,I,a3⟩:=Gi (ag:=f.agg) (ks:=V6) B es d 0 j L.val hf D S
       obtain⟨J,K⟩:=Bv (clock':=clock) O C (HA R a) F I (fun z Z=>by
        have:z.born∈(d.map (·.born)):=by rw[<- a3];exact aq.2 ⟨z,Z,rfl⟩
        grind) (by grind)
       refine⟨_,?_,J,K⟩;have M:L.key=cj f.agg V6 b:=by
        have h1:(d.map (·.key))[j]?=some L.key:=by simp[o]
        rw[D,nk]at h1;cases hej:es[j]? with
        |none=>grind
        |some q=>grind
       unfold Instr.mapUpdate;simp only[Sem.run_bind,run_underlying Y,Result.andThen_ok,MapKept.run_getObj_map m2,m,r9,hf];have K2:(Instr.keyThatStays (((d.toArray[0+j]?).map (·.key)).getD (cj f.agg V6 b)) (cj f.agg V6 b)).run P w=.ok (cj f.agg V6 b) w:=by
        have:(((d.toArray[0+j]?).map (·.key)).getD (cj f.agg V6 b))=cj f.agg V6 b:=by simp[o,M]
        rw[this];unfold Instr.keyThatStays;rw[ER E.one a];simp
       grind [Result.andThen_ok,MapKept.run_setObj_map]
     |_=>grind
    |_=>simp at n
theorem Eh(f:aZ P T)(k:Inv w g st){t kt ty:TypeId}{x i:LV}{v d:Value}{r:bS}(b:zV T t x i st=some r)(j:r.c)(h:Rep w g x v)(e:Rep w g i d):
 r.v=.tu []/\∃ a,(Builtin.delete_ #[t,kt] ty #[v,d]).run P w=.ok (.tuple #[]) a/\Inv a g r.s/\Ext w g a g:=by
 unfold zV at b;cases b
theorem Kn(h:Inv w g st)(ag:Bool)(D:List IntKind):Inv (w.alloc (.map #[] 0)) (g.add w.heap.size 0 0 false) (st.new (.map ag D [])):=by
 have j:=dN w g (.map #[] 0) 0 0 false;have c:=h.z;refine⟨by grind [G.add,St.new],by simp[St.new],?_,?_,?_,?_,?_,?_,?_,h.aside.keep j (oJ rfl)⟩
 .intro l a;simp only[St.new]at a ⊢;rw[ac oO];exact h.fresh l oO
 .intro l a;by_cases b:l=st.z
  .subst b;simp[G.add,c]
  .rw[cM c b]at a;have:=h.lt l a;simp only[G.add,c,ac b];simp;omega
 .intro l o a f p;by_cases b:l=st.z<;>by_cases m:o=st.z
  .omega
  .rw[cM c m]at f;have:=h.lt o f
   grind [G.add]
  .rw[cM c b]at a;have:=h.lt l a
   grind [G.add]
  .rw[cM c b]at a;rw[cM c m]at f;simp only[G.add,c,ac m,ac b]at p;exact h.inj l o a f p
 .intro l d s n a;by_cases b:l=st.z
  .grind [St.new]
  .simp only[St.new,ac b]at a;obtain⟨H,I,J,K⟩:=h.own l d s n a;simp only[G.add,c,ac b]
   grind [heap_alloc_old]
 .intro l d E k a;by_cases b:l=st.z
  .grind [St.new]
  .simp only[St.new,ac b]at a;obtain⟨N,L,y⟩:=h.box l d E k a;refine⟨?_,?_,fun q=>?_⟩
   .grind [G.add]
   .grind [G.add]
   simp only[G.add,c,ac b]at q;obtain⟨r,A,M,B,C,O⟩:=y q;have dF:g.β l<w.heap.size:=(fu.1 A).1;refine⟨r,?_,?_,B,aC.mono j _ _ C,?_⟩
   .grind [G.add,heap_alloc_old]
   .grind [G.add]
   grind [G.add]
 .intro l v F x a;by_cases b:l=st.z
  .simp only[St.new,ad b]at a;injection a with t a2 a3;subst t a2 a3;refine⟨by grind [G.add],sS,[],0,?_,rfl,by simp[aC],by grind [G.add],sS,sS⟩
   grind [G.add,heap_alloc_new]
  .simp only[St.new,ac b]at a;have e:=h.mp l _ _ x a;have dF:=e.blk_lt;exact e.keep j (h.map_lt a) (heap_alloc_old w _ _ dF) (by grind [G.add])
 .intro l d n a;by_cases b:l=st.z
  .grind [St.new]
  .simp only[St.new,ac b]at a;have e:=h.qu l d n a;have dF:=e.blk_lt;exact e.keep j (h.que_lt a) (heap_alloc_old w _ _ dF) (by grind [G.add])
theorem Cl(B:aZ P T)(n:Inv w g st){t:TypeId}{m:Option LV}{vr:Option Value}{r:bS}(b:vH T t m st=some r)(j:∀ x,m=some x->∃ v,vr=some v/\Rep w g x v)(h:m=none->vr=none):
 ∃ u a c,(Instr.makeMap t vr).run P w=.ok u a/\Rep a c r.v u/\Inv a c r.s/\Ext w g a c:=by
 unfold vH at b;cases o:nI T t with
 |none=>grind
 |some p=>
  obtain⟨k,e⟩:=p;simp only[o]at b;have q:=uZ B o;cases C:T k with
  |none=>grind
  |some l=>
   simp only[C]at b;cases f:l.ck with
   |none=>grind
   |some A=>
    simp only[f]at b;have d:r=⟨True,.mp st.z,st.new (.map l.agg A [])⟩->(∃ a,a=w/\(Instr.makeMap t vr).run P w=.ok (.map (some w.heap.size)) (a.alloc (.map #[] 0)))->∃ u a c,(Instr.makeMap t vr).run P w=.ok u a/\Rep a c r.v u/\Inv a c r.s/\Ext w g a c:=by rintro rfl ⟨_,rfl,D⟩;refine⟨_,_,_,D,?_,Kn n l.agg A,dN _ _ _ _ _ _⟩;simp only[Rep,G.add,n.z,ad];exact⟨trivial,qv _⟩
    split at b
    .simp only[ap]at b;refine d b.symm ⟨w,rfl,?_⟩;rw[h rfl];simp[Instr.makeMap]
    .rename_i E F;simp only[ap]at b;refine d b.symm ⟨w,rfl,?_⟩;obtain⟨H,rfl,y⟩:=j _ rfl;simp only[Rep]at y;subst y
     first|(simp[Instr.makeMap,run_underlying q];done)|simp[Instr.makeMap,run_underlying q,asInt,asIntOf]
    grind
theorem HD{t:Nat}{r:bI}(h:bD P t r){a:List IntKind}(f:r.ck=some a)(p:r.agg=true){e c:AN}(n:e.length=a.length)(o:c.length=a.length)(l m:Operand)(d:BinOp)(b:Bool)(j:(d=.eql/\b=false)\/(d=.neq/\b=true)):
 (do eqGuard d t l m (cj true a e) (cj true a c);binOp d t (cj true a e) (cj true a c):Sem Value).run P w=.ok (.bool ((e==c) != b)) w:=by
 have E:=h.eqk a f;rw[p]at E;have k:=E.eq w e c n o;have q:=E.guard rfl;simp only[cj,dE]at k ⊢;rw[Sem.run_bind,run_eqGuard_agg w d t l m _ _ q];simp only[Result.andThen_ok];rcases j with⟨rfl,rfl⟩|⟨rfl,rfl⟩
 .grind [binOp,Sem.run_bind,Result.andThen_ok,Sem.run_pure]
 .simp only[binOp,Sem.run_bind,k,Result.andThen_ok,Sem.run_pure];simp
theorem rX{t:Nat}{k:IntKind}(h:P.underlying t=some (.int k))(w:World)(b:Bool)(a:Int):(Instr.checkKey b 9999 t (.int k a)).run P w=.ok () w:=by rw[show(9999:Nat)=9998+1 from rfl];unfold Instr.checkKey;simp[run_underlying h]
theorem Pt{t:Nat}{k:IntKind}(h:P.underlying t=some (.int k)):CX P t false [k]:=by
 refine⟨fun w d e c f=>?_,fun w j d c=>?_,(fun h=>by cases h),fun _=>rfl,_,h,.inl fun d e c f=>?_⟩
 .match d,e,c,f with
  |[a],[b],_,_=>have:=run_equalIn_int (P:=P) w 9999 t k k a b h;simp only[cj,fb,iv,gx,List.headD_cons];unfold Op.equal Op.maxDepth;simp_all
 .match d,c with
  |[a],_=>simp only[cj,fb,iv,gx,List.headD_cons];unfold Instr.checkKey;simp[run_underlying h]
 .match d,e,c,f with
  |[a],[b],_,_=>simp[cj,fb,Instr.sameNow]
end
end Aw
end Go.Proofs.YtbgngpdonpeboaaGreatDoor
