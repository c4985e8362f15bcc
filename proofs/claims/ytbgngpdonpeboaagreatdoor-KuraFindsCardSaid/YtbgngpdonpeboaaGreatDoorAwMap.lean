/- Lemmas. -/
import Derived.Test.YtbgngpdonpeboaaGreatDoorAwSound2
import Derived.MapKept
import Derived.Laws.StructEq
set_option linter.defProp false
namespace Go.Proofs.YtbgngpdonpeboaaGreatDoor
namespace Aw
open Go Go.RowKit
section
variable {P:Program} {T:bg} {w:World} {g:G} {st:St}
theorem nS:∀(a:QQ) (e:List Value) (b:List IntKind) (d:PP),jJ a=some (b,d)->aG w g a e->e=fp b d/\d.length=b.length
 |[],e,b,d,h,hr=>by simp only[jJ,ap,fj]at h;obtain⟨rfl,rfl⟩:=h;simp only[aG]at hr;exact⟨hr,rfl⟩
 |c::a,e,b,d,h,hr=>by
  simp only[aG]at hr;obtain⟨v,l,rfl,m,q⟩:=hr;cases c with
  |atom x=>
   cases x with
   |int k n=>
    simp only[jJ]at h;cases o:jJ a with
    |none=>grind
    |some p=>obtain⟨f,j⟩:=p;simp only[o,ap,fj]at h;obtain⟨rfl,rfl⟩:=h;obtain⟨r,s⟩:=nS a l f j o q;simp only[Rep]at m;exact⟨by rw[m,r];rfl,by grind⟩
   |_=>simp[jJ]at h
  |_=>simp[jJ]at h
theorem DU{x:LV}{v:Value}{ag:Bool}{b:List IntKind}{c:PP}(h:EZ x=some (ag,b,c))(a:Rep w g x v):v=cg ag b c/\c.length=b.length:=by
 cases x with
 |atom y=>
  cases y with
  |int k n=>simp only[EZ,ap,fj]at h;obtain⟨rfl,rfl,rfl⟩:=h;simp only[Rep]at a;exact⟨by rw[a];rfl,rfl⟩
  |_=>simp[EZ]at h
 |ag cs=>
  simp only[EZ]at h;cases d:jJ cs with
  |none=>grind
  |some p=>obtain⟨j,l⟩:=p;simp only[d,ap,fj]at h;obtain⟨rfl,rfl,rfl⟩:=h;simp only[Rep]at a;obtain⟨m,rfl,a⟩:=a;obtain⟨e,f⟩:=nS cs m _ _ d a;exact⟨by rw[e];rfl,f⟩
 |_=>simp[EZ]at h
def fv(a:PP):List (PP×LV)->List MapEntry->Nat->Option (Nat×Value)
 |p::es,e::dK,i=>if a==p.1 then some (i,e.val)else fv a es dK (i+1)
 |_,_,_=>none
theorem tG{t:Nat}{ag:Bool}{c:List IntKind}(E:Da P t ag c){f:PP}(m:f.length=c.length)(b:List (PP×LV))(a:List MapEntry)(k:a.map (·.key)=b.map (fun p=>cg ag c p.1))(s:∀ p∈b,p.1.length=c.length):
 (Instr.findKey t (cg ag c f) a).run P w=.ok (fv f b a 0) w:=by
 obtain⟨d,n,j⟩:=E.now;have q:∀(b:List (PP×LV)) (a:List MapEntry) (i:Nat),a.map (·.key)=b.map (fun p=>cg ag c p.1)->(∀ p∈b,p.1.length=c.length)->(Instr.findAsking t (cg ag c f) a i).run P w=.ok (fv f b a i) w:=by
  intro b;induction b with
  |nil=>intro a i h _;cases a with|nil=>simp[Instr.findAsking,fv]|cons e a=>grind
  |cons p b v=>
   intro a i h l;cases a with
   |nil=>grind
   |cons e a=>
    simp only[ax,kX]at h;have o:=E.eq w f p.1 m (l p Y)
    grind [Instr.findAsking,Sem.run_bind,Result.andThen_ok,Sem.run_pure,fv]
 rcases j with j|j
 .have x:∀(b:List (PP×LV)) (a:List MapEntry) (i:Nat),a.map (·.key)=b.map (fun p=>cg ag c p.1)->(∀ p∈b,p.1.length=c.length)->Instr.findNow d (cg ag c f) a i=some (fv f b a i):=by
   intro b;induction b with
   |nil=>intro a i h _;cases a with|nil=>simp[Instr.findNow,fv]|cons e a=>grind
   |cons p b v=>
    intro a i h l;cases a with
    |nil=>grind
    |cons e a=>
     grind [Instr.findNow,fv]
  grind [MapKept.run_findKey]
 .cases b with
  |nil=>cases a with|nil=>simp[Instr.findKey,run_underlying n,Instr.findNow,fv]|cons e a=>grind
  |cons p b=>
   cases a with
   |nil=>grind
   |cons e a=>
    have r:=k;simp only[ax,kX]at k;have o:=j f p.1 m (s p Y);have:Instr.findNow d (cg ag c f) (e::a) 0=none:=by simp[Instr.findNow,k.1,o]
    simp only[Instr.findKey,Sem.run_bind,run_underlying n,Result.andThen_ok,this]
    grind
theorem DS(c:PP):∀(a:List (PP×LV)) (b:List MapEntry) (i:Nat),bY a c=none->fv c a b i=none
 |[],b,i,_=>by simp[fv]
 |p::a,[],i,_=>by simp[fv]
 |p::a,e::b,i,h=>by
  simp only[bY]at h
  split at h
  .cases h
  .rename_i Tv;simp only[fv,aa Tv];exact DS c a b (i+1) h
theorem DJ(d:PP):∀(a:List (PP×LV)) (b:List MapEntry) (i:Nat) (c:LV),aG w g (a.map (·.2)) (b.map (·.val))->bY a d=some c->∃ j e,fv d a b i=some (i+j,e.val)/\b[j]?=some e/\Rep w g c e.val/\(a[j]?).map (·.1)=some d
 |[],b,i,c,_,h=>by grind [bY]
 |p::a,[],i,c,hr,h=>by grind [aG]
 |p::a,e::b,i,c,hr,h=>by
  simp only[ax,aG]at hr;obtain⟨v,x,o,l,m⟩:=hr;injection o with f hv2;subst f hv2;simp only[bY]at h
  split at h
  .rename_i n;injection h with h;subst h;exact⟨0,e,by grind [fv],rfl,l,by grind⟩
  .rename_i n;obtain⟨j,k,r,s,q,t⟩:=DJ d a b (i+1) c m h;exact⟨j+1,k,by grind [fv],by grind,q,by grind⟩
theorem QU{t:Nat}{r:bQ}(h:bJ P t r):Rep w g (Di r) r.zeroV:=by
 unfold Di bQ.zeroV;cases a:r.agg with
 |true=>grind [Rep,dI]
 |false=>
  simp only[ir,gI];have b:=h.one a;have c:=h.zl;cases d:r.zero with
  |nil=>grind
  |cons z e=>grind [oe,vZ]
theorem GO(z:bE P T)(hi:Inv w g st){t:TypeId}{x i:LV}{v W:Value}{C:Bool}{r:bV}(f:xS T t x i C st=some r)(Q:r.c)(h:Rep w g x v)(L:Rep w g i W):
 r.s=st/\∃ u,(Instr.lookup t v W C).run P w=.ok u w/\Rep w g r.v u:=by
 unfold xS at f;cases S:pJ T t with
 |none=>grind
 |some p=>
  obtain⟨k,e⟩:=p;simp only[S]at f;have V:=yP z S;cases K:T k with
  |none=>grind
  |some M=>
   cases m:T e with
   |none=>grind
   |some D=>
    cases B:EZ i with
    |none=>grind
    |some q=>
     obtain⟨ag,ks,n⟩:=q;simp only[K,m,B]at f;obtain⟨rfl,a⟩:=DU B L;have hz:=(z e D m).zeroValue w;have hzr:=QU (w:=w) (g:=g) (z e D m);cases x with
     |mp l=>
      simp only at f;cases R:st.H l with
      |map ag' ks' es=>
       simp only[R,ap]at f;subst f;obtain⟨I,rfl,rfl,rfl⟩:=Q;have E:=(z k M K).eqk _ I;obtain⟨_,m1,F,clock,m2,m3,m4,m5,m6,m7⟩:=hi.mp l _ _ es R;simp only[Rep]at h;obtain⟨rfl,_⟩:=h;have N:=tG (w:=w) E a es F m3 m1;have d:=fun J=>E.chk w J n a;refine⟨rfl,?_⟩;have key:∀ o:Value×Bool,(match fv n es F 0 with|some (_,v)=>(v,true)|none=>(D.zeroV,false))=o->(Instr.lookup t (.map (some (g.β l))) (cg M.agg ks' n) C).run P w=.ok (if C then .tuple #[o.1,.bool o.2]else o.1) w:=by
        intro o A;unfold Instr.lookup;simp only[Sem.run_bind,run_underlying V,Result.andThen_ok,MapKept.run_getObj_map m2,Sem.run_pure,d,N];cases hf:fv n es F 0 with
        |none=>rw[hf]at A;subst A;simp_all
        |some q=>simp_all
       cases X:bY es n with
       |none=>
        grind [DS,Rep,aG]
       |some lv=>
        obtain⟨j,en,hf,_,U,_⟩:=DJ (w:=w) (g:=g) n es F 0 lv m4 X
        grind [Rep,aG]
      |_=>grind
     |atom y=>
      cases y with
      |map b=>
       cases b with
       |none=>
        simp only[ap]at f;subst f;obtain⟨I,rfl⟩:=Q;have E:=(z k M K).eqk _ I;simp only[Rep]at h;subst h;have N:=tG (w:=w) E a [] [] rfl Y;have d:=fun J=>E.chk w J n a;refine⟨rfl,(if C then .tuple #[D.zeroV,.bool false]else D.zeroV),?_,?_⟩
        .unfold Instr.lookup;simp only[Sem.run_bind,run_underlying V,Result.andThen_ok,Sem.run_pure,d,N,fv,hz]
        grind [Rep,aG]
       |some b=>grind
      |_=>simp at f
     |_=>simp at f
theorem CP(h:Inv w g st){l:Nat}{ag:Bool}{r:List IntKind}{A e:List (PP×LV)}{a:List MapEntry}{clock':Nat}(v:st.H l=.map ag r A)(I:∀ p∈e,p.1.length=r.length)
 (J:a.map (·.key)=e.map (fun p=>cg ag r p.1)) (K:aG w g (e.map (·.2)) (a.map (·.val))) (L:∀ x∈a,x.born<clock') (M:(a.map (·.born)).Nodup):
 Inv { w with heap:=w.heap.setIfInBounds (g.β l) (.map a.toArray clock') } g (st.set l (.map ag r e))/\Ext w g { w with heap:=w.heap.setIfInBounds (g.β l) (.map a.toArray clock') } g:=by
 obtain⟨R,m1,V,clock,m2,m3,m4,S,m6,m7⟩:=h.mp l _ _ A v;have o:=h.map_blk v;have dS:=(h.mp l _ _ A v).blk_lt;have f:∀ b,b≠g.β l->(w.heap.setIfInBounds (g.β l) (.map a.toArray clock'))[b]?=w.heap[b]?:=by intro b m;rw[oY,aa (jk m)]
 have j:(w.heap.setIfInBounds (g.β l) (.map a.toArray clock'))[g.β l]?=some (.map a.toArray clock'):=by simp[oY,dS]
 have q:Ext w g { w with heap:=w.heap.setIfInBounds (g.β l) (.map a.toArray clock') } g:=by
  refine⟨rfl,rfl,rfl,Y,au _,fun _ _=>rfl,fun _ _=>rfl,fun _ _=>rfl,?_,?_⟩
  .grind
  .grind [World.cell?_of_block]
 have m:∀ x,blk g (st.set l (.map ag r e)) x↔blk g st x:=by
  intro x;unfold blk;simp only[St.set];by_cases c:x=l
  .grind
  .grind
 have D:l<st.z:=by rw[<- h.z];exact h.map_lt v
 refine⟨⟨h.z,h.pos,?_,?_,?_,?_,?_,?_,?_,h.aside.keep q (kI rfl)⟩,q⟩
 .intro x c;simp only[St.set]at c ⊢;rw[aa O];exact h.fresh x c
 .intro x c;simpa using h.lt x ((m x).1 c)
 .intro x y c N;exact h.inj x y ((m x).1 c) ((m y).1 N)
 .intro x t s n c;by_cases d:x=l
  .grind [St.set]
  .simp only[St.set,aa d]at c;obtain⟨W,X,k3,k4⟩:=h.own x t s n c
   grind
 .intro x t U k c;by_cases d:x=l
  .grind [St.set]
  .simp only[St.set,aa d]at c;obtain⟨q3,q0,q'⟩:=h.box x t U k c
   grind [aG.mono]
 .intro x F Q C c;by_cases d:x=l
  .simp only[St.set,ac d]at c;injection c with E a2 a3;subst E a2 a3 d;exact⟨R,I,a,clock',j,J,aG.mono q _ _ K,S,L,M⟩
  .simp only[St.set,aa d]at c;exact(h.mp x _ _ _ c).keep q (h.map_lt c) (f _ (fun B=>d (h.inj x l (h.map_blk c) o B))) rfl
 .intro x t n c;by_cases d:x=l
  .grind [St.set]
  .simp only[St.set,aa d]at c;exact(h.qu x _ _ c).keep q (h.que_lt c) (f _ (fun B=>d (h.inj x l (h.que_blk c) o B))) rfl
theorem Gw{ag:Bool}{b:List IntKind}{c:PP}(d:ag=false->b.length=1)(e:c.length=b.length):Instr.sameBits 10000 (cg ag b c) (cg ag b c)=true:=by
 have h:∀(b:List IntKind) (c:PP) (n:Nat),((fp b c).zip (fp b c)).all (fun p=>Instr.sameBits n p.1 p.2)=true:=by
  intro b;induction b with
  |nil=>intro c n;simp[fp]
  |cons k b j=>
   intro c n;cases c with
   |nil=>simp[fp]
   |cons a c=>simp only[fp,List.zip_cons_cons,List.all_cons,j,xu];grind [Instr.sameBits]
 cases ag with
 |true=>simp only[cg,ef,Instr.sameBits];simpa using h b c 9999
 |false=>
  have f:=d rfl
  match b,c,f,e with
  |[k],[a],_,_=>simp[cg,fp,Instr.sameBits]
theorem JX{a:List (PP×LV)}{b:PP}{v:LV}{n:Nat}(h:∀ p∈a,p.1.length=n)(c:b.length=n):∀ p∈bX a b v,p.1.length=n:=by
 induction a with
 |nil=>grind [bX]
 |cons q a d=>
  grind [bX]
theorem Ih{ag:Bool}{ks:List IntKind}{f:PP}{j:LV}{k:Value}(c:Nat)(d:Rep w g j k):∀(a:List (PP×LV)) (b:List MapEntry),bY a f=none->b.map (·.key)=a.map (fun p=>cg ag ks p.1)->aG w g (a.map (·.2)) (b.map (·.val))->
 (b++[(⟨cg ag ks f,k,c⟩:MapEntry)]).map (·.key)=(bX a f j).map (fun p=>cg ag ks p.1)/\aG w g ((bX a f j).map (·.2)) ((b++[(⟨cg ag ks f,k,c⟩:MapEntry)]).map (·.val))
 |[],b,_,h2,h3=>by
  grind [bX,aG]
 |p::a,[],_,h2,_=>by grind
 |p::a,e::b,h1,h2,h3=>by
  simp only[bY]at h1
  split at h1
  .grind
  .rename_i Tv;simp only[ax,kX]at h2;simp only[ax,aG]at h3;obtain⟨v,r,l,q,m⟩:=h3;injection l with h hv2;subst h hv2;obtain⟨n,o⟩:=Ih c d a b h1 h2.2 m
   grind [bX,aG]
theorem Jh{ag:Bool}{ks:List IntKind}{c:PP}{o:LV}{l:Value}(d:Rep w g o l):∀(b:List (PP×LV)) (a:List MapEntry) (i j:Nat) (f:Value),fv c b a i=some (i+j,f)->a.map (·.key)=b.map (fun p=>cg ag ks p.1)->aG w g (b.map (·.2)) (a.map (·.val))->
 (a.modify j fun e=>{ e with key:=cg ag ks c,val:=l }).map (·.key)=(bX b c o).map (fun p=>cg ag ks p.1)/\aG w g ((bX b c o).map (·.2)) ((a.modify j fun e=>{ e with key:=cg ag ks c,val:=l }).map (·.val))/\
   (a.modify j fun e=>{ e with key:=cg ag ks c,val:=l }).map (·.born)=a.map (·.born)
 |[],a,i,j,f,h1,_,_=>by grind [fv]
 |p::b,[],i,j,f,h1,_,_=>by grind
 |p::b,e::a,i,j,f,h1,h2,h3=>by
  simp only[ax,kX]at h2;simp only[ax,aG]at h3;obtain⟨v,C,s,B,t⟩:=h3;injection s with n hv2;subst n hv2;simp only[fv]at h1
  split at h1
  .rename_i r;simp only[ap,fj]at h1
   grind [bX,aG]
  .rename_i r;have q:∃ k,j=k+1:=by
    cases j with
    |succ k=>grind
    |zero=>
     exfalso;have:∀(b:List (PP×LV)) (a:List MapEntry) (i m:Nat) (v:Value),fv c b a i=some (m,v)->i<=m:=by
      intro b;induction b with
      |nil=>grind [fv]
      |cons p b A=>
       intro a i m v h;cases a with
       |nil=>grind [fv]
       |cons e a=>
        grind [fv]
     grind
   obtain⟨k,rfl⟩:=q;obtain⟨x,y,z⟩:=Jh (ag:=ag) (ks:=ks) d b a (i+1) k f (by rw[h1];grind) h2.2 t
   grind [bX,aG]
theorem xA(W:bE P T)(Q:Inv w g st){t:TypeId}{x i y:LV}{v vi vy:Value}{r:bV}(n:yS T t x i y st=some r)(hc:r.c)(h:Rep w g x v)(R:Rep w g i vi)(B:Rep w g y vy):
 r.v=.dead/\∃ V,(Instr.mapUpdate t v vi vy).run P w=.ok () V/\Inv V g r.s/\Ext w g V g:=by
 unfold yS at n;cases hm:pJ T t with
 |none=>grind
 |some p=>
  obtain⟨k,e⟩:=p;simp only[hm]at n;have hu:=yP W hm;cases X:T k with
  |none=>grind
  |some f=>
   cases A:EZ i with
   |none=>grind
   |some q=>
    obtain⟨ag,ks,b⟩:=q;simp only[X,A]at n;obtain⟨rfl,a⟩:=DU A R;cases x with
    |mp l=>
     simp only at n;cases C:st.H l with
     |map ag' ks' es=>
      simp only[C,ap]at n;subst n;obtain⟨c1,rfl,rfl,rfl⟩:=hc;have E:=(W k f X).eqk _ c1;obtain⟨m0,S,d,clock,m2,D,U,m5,m6,m7⟩:=Q.mp l _ _ es C;simp only[Rep]at h;obtain⟨rfl,_⟩:=h;have u5:=tG (w:=w) E a es d D S;have m:=fun em=>E.chk w em b a;refine⟨rfl,?_⟩;cases N:bY es b with
      |none=>
       have hf:=DS b es d 0 N;obtain⟨F,I⟩:=Ih (ag:=f.agg) (ks:=ks') clock B es d N D U
       obtain⟨J,K⟩:=CP (clock':=clock+1) Q C (JX S a) F I (fun z hz=>by
        grind) (by
        grind)
       refine⟨_,?_,J,K⟩;unfold Instr.mapUpdate;simp only[Sem.run_bind,run_underlying hu,Result.andThen_ok,MapKept.run_getObj_map m2,m,u5,hf]
       grind [MapKept.run_setObj_map]
      |some lv=>
       obtain⟨j,L,hf,o,hrep,hkey⟩:=DJ (w:=w) (g:=g) b es d 0 lv U N;obtain⟨F,I,a3⟩:=Jh (ag:=f.agg) (ks:=ks') B es d 0 j L.val hf D U
       obtain⟨J,K⟩:=CP (clock':=clock) Q C (JX S a) F I (fun z hz=>by
        have:z.born∈(d.map (·.born)):=by rw[<- a3];exact ao.2 ⟨z,hz,rfl⟩
        grind) (by grind)
       refine⟨_,?_,J,K⟩;have M:L.key=cg f.agg ks' b:=by
        have h1:(d.map (·.key))[j]?=some L.key:=by simp[o]
        rw[D,ow]at h1;cases hej:es[j]? with
        |none=>grind
        |some q=>grind
       unfold Instr.mapUpdate;simp only[Sem.run_bind,run_underlying hu,Result.andThen_ok,MapKept.run_getObj_map m2,m,u5,hf];have hst:(Instr.keyThatStays (((d.toArray[0+j]?).map (·.key)).getD (cg f.agg ks' b)) (cg f.agg ks' b)).run P w=.ok (cg f.agg ks' b) w:=by
        have:(((d.toArray[0+j]?).map (·.key)).getD (cg f.agg ks' b))=cg f.agg ks' b:=by simp[o,M]
        rw[this];unfold Instr.keyThatStays;rw[Gw E.one a];simp
       grind [Result.andThen_ok,MapKept.run_setObj_map]
     |_=>grind
    |_=>simp at n
theorem IP(f:bE P T)(k:Inv w g st){t kt ty:TypeId}{x i:LV}{v d:Value}{r:bV}(b:BR T t x i st=some r)(j:r.c)(h:Rep w g x v)(e:Rep w g i d):
 r.v=.tu []/\∃ a,(Builtin.delete_ #[t,kt] ty #[v,d]).run P w=.ok (.tuple #[]) a/\Inv a g r.s/\Ext w g a g:=by
 unfold BR at b;cases b
theorem MQ(h:Inv w g st)(ag:Bool)(C:List IntKind):Inv (w.alloc (.map #[] 0)) (g.add w.heap.size 0 0 false) (st.new (.map ag C [])):=by
 have k:=dZ w g (.map #[] 0) 0 0 false;have c:=h.z;refine⟨by grind [G.add,St.new],by simp[St.new],?_,?_,?_,?_,?_,?_,?_,h.aside.keep k (pX rfl)⟩
 .intro l a;simp only[St.new]at a ⊢;rw[aa O];exact h.fresh l O
 .intro l a;by_cases b:l=st.z
  .subst b;simp[G.add,c]
  .rw[cW c b]at a;have:=h.lt l a;simp only[G.add,c,aa b];simp;omega
 .intro l p a d q;by_cases b:l=st.z<;>by_cases o:p=st.z
  .omega
  .rw[cW c o]at d;have:=h.lt p d
   grind [G.add]
  .rw[cW c b]at a;have:=h.lt l a
   grind [G.add]
  .rw[cW c b]at a;rw[cW c o]at d;simp only[G.add,c,aa o,aa b]at q;exact h.inj l p a d q
 .intro l f s n a;by_cases b:l=st.z
  .grind [St.new]
  .simp only[St.new,aa b]at a;obtain⟨F,H,I,J⟩:=h.own l f s n a;simp only[G.add,c,aa b]
   grind [heap_alloc_old]
 .intro l f E m a;by_cases b:l=st.z
  .grind [St.new]
  .simp only[St.new,aa b]at a;obtain⟨M,K,y⟩:=h.box l f E m a;refine⟨?_,?_,fun r=>?_⟩
   .grind [G.add]
   .grind [G.add]
   simp only[G.add,c,aa b]at r;obtain⟨e,A,L,B,k5,N⟩:=y r;have dS:g.β l<w.heap.size:=(ig.1 A).1;refine⟨e,?_,?_,B,aG.mono k _ _ k5,?_⟩
   .grind [G.add,heap_alloc_old]
   .grind [G.add]
   grind [G.add]
 .intro l v D x a;by_cases b:l=st.z
  .simp only[St.new,ac b]at a;injection a with t a2 a3;subst t a2 a3;refine⟨by grind [G.add],Y,[],0,?_,rfl,by simp[aG],by grind [G.add],Y,Y⟩
   grind [G.add,heap_alloc_new]
  .simp only[St.new,aa b]at a;have j:=h.mp l _ _ x a;have dS:=j.blk_lt;exact j.keep k (h.map_lt a) (heap_alloc_old w _ _ dS) (by grind [G.add])
 .intro l f n a;by_cases b:l=st.z
  .grind [St.new]
  .simp only[St.new,aa b]at a;have j:=h.qu l f n a;have dS:=j.blk_lt;exact j.keep k (h.que_lt a) (heap_alloc_old w _ _ dS) (by grind [G.add])
theorem ER(B:bE P T)(n:Inv w g st){t:TypeId}{m:Option LV}{vr:Option Value}{r:bV}(b:xI T t m st=some r)(j:∀ x,m=some x->∃ v,vr=some v/\Rep w g x v)(h:m=none->vr=none):
 ∃ u a c,(Instr.makeMap t vr).run P w=.ok u a/\Rep a c r.v u/\Inv a c r.s/\Ext w g a c:=by
 unfold xI at b;cases o:pJ T t with
 |none=>grind
 |some p=>
  obtain⟨k,e⟩:=p;simp only[o]at b;have q:=yP B o;cases C:T k with
  |none=>grind
  |some l=>
   simp only[C]at b;cases f:l.ck with
   |none=>grind
   |some A=>
    simp only[f]at b;have d:r=⟨True,.mp st.z,st.new (.map l.agg A [])⟩->(∃ a,a=w/\(Instr.makeMap t vr).run P w=.ok (.map (some w.heap.size)) (a.alloc (.map #[] 0)))->∃ u a c,(Instr.makeMap t vr).run P w=.ok u a/\Rep a c r.v u/\Inv a c r.s/\Ext w g a c:=by rintro rfl ⟨_,rfl,D⟩;refine⟨_,_,_,D,?_,MQ n l.agg A,dZ _ _ _ _ _ _⟩;simp only[Rep,G.add,n.z,ac];exact⟨trivial,tj _⟩
    split at b
    .simp only[ap]at b;refine d b.symm ⟨w,rfl,?_⟩;rw[h rfl];simp[Instr.makeMap]
    .rename_i E F;simp only[ap]at b;refine d b.symm ⟨w,rfl,?_⟩;obtain⟨H,rfl,y⟩:=j _ rfl;simp only[Rep]at y;subst y
     first|(simp[Instr.makeMap,run_underlying q];done)|simp[Instr.makeMap,run_underlying q,asInt,asIntOf]
    grind
theorem KT{t:Nat}{r:bQ}(h:bJ P t r){a:List IntKind}(f:r.ck=some a)(p:r.agg=true){e c:PP}(n:e.length=a.length)(o:c.length=a.length)(l m:Operand)(d:BinOp)(b:Bool)(j:(d=.eql/\b=false)\/(d=.neq/\b=true)):
 (do eqGuard d t l m (cg true a e) (cg true a c);binOp d t (cg true a e) (cg true a c):Sem Value).run P w=.ok (.bool ((e==c) != b)) w:=by
 have E:=h.eqk a f;rw[p]at E;have k:=E.eq w e c n o;have q:=E.guard rfl;simp only[cg,ef]at k ⊢;rw[Sem.run_bind,run_eqGuard_agg w d t l m _ _ q];simp only[Result.andThen_ok];rcases j with⟨rfl,rfl⟩|⟨rfl,rfl⟩
 .grind [binOp,Sem.run_bind,Result.andThen_ok,Sem.run_pure]
 .simp only[binOp,Sem.run_bind,k,Result.andThen_ok,Sem.run_pure];simp
theorem uX{t:Nat}{k:IntKind}(h:P.underlying t=some (.int k))(w:World)(b:Bool)(a:Int):(Instr.checkKey b 9999 t (.int k a)).run P w=.ok () w:=by rw[show(9999:Nat)=9998+1 from rfl];unfold Instr.checkKey;simp[run_underlying h]
theorem Ra{t:Nat}{k:IntKind}(h:P.underlying t=some (.int k)):Da P t false [k]:=by
 refine⟨fun w d e c f=>?_,fun w j d c=>?_,(fun h=>by cases h),fun _=>rfl,_,h,.inl fun d e c f=>?_⟩
 .match d,e,c,f with
  |[a],[b],_,_=>have:=run_equalIn_int (P:=P) w 9999 t k k a b h;simp only[cg,fp,ir,gI,List.headD_cons];unfold Op.equal Op.maxDepth;simp_all
 .match d,c with
  |[a],_=>simp only[cg,fp,ir,gI,List.headD_cons];unfold Instr.checkKey;simp[run_underlying h]
 .match d,e,c,f with
  |[a],[b],_,_=>simp[cg,fp,Instr.sameNow]
end
end Aw
end Go.Proofs.YtbgngpdonpeboaaGreatDoor
