/- Lemmas. -/
import Derived.Test.YtbgngpdonpeboaaGreatDoorAwMap
import Derived.Laws.MakeOwn
set_option linter.defProp false
namespace Go.Proofs.YtbgngpdonpeboaaGreatDoor
namespace Aw
open Go Go.RowKit
def G.addNil(g:G):G:=
 {z:=g.z+1,φ:=g.φ,β:=g.β,κ:=fun l=>if l=g.z then 0 else g.κ l,nl:=fun l=>if l=g.z then true else g.nl l }
section
variable {P:Program} {T:bg} {w:World} {g:G} {st:St}
theorem ext_nil(w:World)(g:G):Ext w g w g.addNil:=by
 refine⟨rfl,rfl,rfl,au _,ub _,fun _ _=>rfl,?_,?_,fun _ _ h=>⟨h,rfl⟩,fun _ k _ h=>⟨k,h,au _,fun _ _=>rfl⟩⟩
 .intro l a;simp[G.addNil,lp a]
 .intro l a;simp[G.addNil,lp a]
theorem kJ(h:Inv w g st)(o:cT)(c:(∃ e s,o=.own e s 0)\/∃ e s,o=.box e s []):Inv w g.addNil (st.new o):=by
 have d:=h.z;have j:=ext_nil w g;have m:∀ l,blk g.addNil (st.new o) l->l≠st.z/\blk g st l:=by
  intro l a;unfold blk at a ⊢;simp only[St.new,G.addNil,d]at a;by_cases b:l=st.z
  .simp only[ac b]at a;rcases c with⟨e,s,rfl⟩|⟨e,s,rfl⟩<;>simp at a
  .simp_all
 refine⟨by grind [G.addNil,St.new],by simp[St.new],?_,fun l a=>h.lt l (m l a).2,fun l r a p=>h.inj l r (m l a).2 (m r p).2,?_,?_,?_,?_,h.aside.keep j (pX (by rcases c with⟨e,s,rfl⟩|⟨e,s,rfl⟩<;>rfl))⟩
 .intro l a;simp only[St.new]at a ⊢;rw[aa O];exact h.fresh l O
 .intro l f q C a;by_cases b:l=st.z
  .simp only[St.new,ac b]at a;subst a;rcases c with⟨e,s,c⟩|⟨e,s,c⟩
   .injection c with k h2 h3;subst k h2 h3;simp[G.addNil,d,b]
   grind
  .simp only[St.new,aa b]at a;have:=h.own l f q C a;simp only[G.addNil,d,aa b];exact this
 .intro l f q cs a;by_cases b:l=st.z
  .simp only[St.new,ac b]at a;subst a;rcases c with⟨e,s,c⟩|⟨e,s,c⟩
   .grind
   .injection c with k h2 h3;subst k h2 h3;simp[G.addNil,d,b]
  .simp only[St.new,aa b]at a;obtain⟨H,I,E⟩:=h.box l f q cs a;refine⟨?_,?_,fun t=>?_⟩
   .simp only[G.addNil,d,aa b];omega
   .simp only[G.addNil,d,aa b];omega
   .simp only[G.addNil,d,aa b]at t;obtain⟨D,x,F,y,A,k5⟩:=E t;refine⟨D,x,?_,y,aG.mono j _ _ A,k5⟩;simp only[G.addNil,d,aa b];omega
 .intro l ag B v a;by_cases b:l=st.z
  .simp only[St.new,ac b]at a
   grind
  .simp only[St.new,aa b]at a;exact(h.mp l ag B v a).keep j (h.map_lt a) rfl rfl
 .intro l f n a;by_cases b:l=st.z
  .simp only[St.new,ac b]at a
   grind
  .simp only[St.new,aa b]at a;exact(h.qu l f n a).keep j (h.que_lt a) rfl rfl
theorem qW(h:Inv w g st){q e k k' kp:Nat}{o:cT}(K:(∀ ag ks es,o≠.map ag ks es)/\iQ o=false)(j:blk g st q){o8 arr:Array Value}(A:w.heap[g.β q]?=some (.cells o8 e (0,0)))(hk:g.φ (g.β q)=some k)(hkk:k<=k')
 (F:∀ i,i<k->arr[i]?=o8[i]?) (hblk:∀ w',Ext w g w' (g.add (g.β q) k' kp false)->w'.heap[g.β q]?=some (.cells arr e (0,0))->
   (∀ p s n,o=.own p s n->n<=kp/\kp<=maxLen/\p=e/\arr.size=kp*s/\k'=n*s)/\
   (∀ p n,o=.que p n->p=e/\arr.size=kp / qM+kp % qM/\k'=kp / qM+n/\n<=kp % qM/\kp % qM<=maxLen)/\
   (∀ p s B,o=.box p s B->kp<=maxLen/\p=e/\arr.size=kp*s/\B.length<=arr.size/\aG w' (g.add (g.β q) k' kp false) B (arr.toList.take B.length)/\k'=0)):
 Inv (w.setRow (g.β q) arr) (g.add (g.β q) k' kp false) ((st.set q .dead).new o)/\Ext w g (w.setRow (g.β q) arr) (g.add (g.β q) k' kp false):=by
 have c:=h.z;have L:q<st.z:=by
  rcases ec q st.z with V|V
  .omega
  .unfold blk at j;rw[h.fresh q V]at j;grind
 have I:Ext w g (w.setRow (g.β q) arr) (g.add (g.β q) k' kp false):=
  DC A hk hkk F (fun x=>rfl) (ub _) (fun l a=>by simp[G.add,lp a]) (fun l a=>by simp[G.add,lp a]) (fun l a=>by simp[G.add,lp a])
 have c7:=setRow_heap w _ _ arr _ _ A;obtain⟨o7,hnq,hnb⟩:=hblk _ I c7;have r:∀ l,l≠st.z->l≠q->((st.set q .dead).new o).H l=st.H l:=by intro l V h1;simp[St.new,St.set,V,h1]
 have v:((st.set q .dead).new o).H q=.dead:=by simp[St.new,St.set,lp L]
 have y:((st.set q .dead).new o).H st.z=o:=by simp[St.new,St.set]
 have J:∀ l,l≠st.z->blk (g.add (g.β q) k' kp false) ((st.set q .dead).new o) l->l≠q/\blk g st l:=by
  intro l b a;unfold blk at a ⊢;by_cases d:l=q
  .subst d;rw[v]at a;exact a.elim
  .rw[r l b d]at a;refine⟨d,?_⟩;cases hst:st.H l<;>simp only[hst]at a ⊢
   .simpa[G.add,c,b]using a
   .simpa[G.add,c,b]using a
   .simpa[G.add,c,b]using a
   .simpa[G.add,c,b]using a
 refine⟨⟨by simp[G.add,St.new,St.set,c],by simp[St.new],?_,?_,?_,?_,?_,?_,?_,h.aside.keep I fun x hx=>(pX K.2 x hx).trans (kI rfl x (by rw[<- pX K.2 x hx];omega))⟩,I⟩
 .intro l a;have D:st.z+1<=l:=a;rw[r l O O];exact h.fresh l O
 .intro l a;rw[setRow_size];by_cases b:l=st.z
  .simp only[G.add,c,ac b];exact h.lt q j
  .simp only[G.add,c,aa b];exact h.lt l (J l b a).2
 .intro l Q a D t;by_cases b:l=st.z<;>by_cases d:Q=st.z
  .omega
  .obtain⟨M,N⟩:=J Q d D;simp only[G.add,c,ac b,aa d]at t;exact absurd (h.inj q Q j N t).symm M
  .obtain⟨M,N⟩:=J l b a;simp only[G.add,c,ac d,aa b]at t;exact absurd (h.inj l q N j t) M
  .simp only[G.add,c,aa d,aa b]at t;exact h.inj l Q (J l b a).2 (J Q d D).2 t
 .intro l p R m a;by_cases b:l=st.z
  .subst b;rw[y]at a;obtain⟨W,S,rfl,X,U⟩:=o7 p R m a;simp only[G.add,c,ac];exact⟨W,S,Y,fun _=>⟨arr,c7,X,by rw[U]⟩⟩
  .by_cases d:l=q
   .subst d;rw[v]at a;cases a
   .rw[r l b d]at a;obtain⟨M,N,k3,k4⟩:=h.own l p R m a;simp only[G.add,c,aa b];refine⟨M,N,k3,fun f=>?_⟩;obtain⟨c',z1,z2,z3⟩:=k4 f;have E:blk g st l:=by unfold blk;rw[a];exact f
    have Tv:g.β l≠g.β q:=fun C=>d (h.inj l q E j C);exact⟨c',by rw[setRow_other w _ _ _ Tv];omega,z2,by rw[aa Tv];omega⟩
 .intro l p R B a;by_cases b:l=st.z
  .subst b;rw[y]at a;obtain⟨W,rfl,S,X,U,a5⟩:=hnb p R B a;refine⟨by simp only[G.add,c,ac];omega,by simp[G.add,c],fun _=>⟨arr.toList,?_,?_,O,U,?_⟩⟩
   .simp only[G.add,c,ac];omega
   .simp only[G.add,c,ac];omega
   .simp[G.add,c,a5]
  .by_cases d:l=q
   .subst d;rw[v]at a;cases a
   .rw[r l b d]at a;obtain⟨q1,q2,q3⟩:=h.box l p R B a;refine⟨by simp only[G.add,c,aa b];omega,by simp only[G.add,c,aa b];omega,fun f=>?_⟩;simp only[G.add,c,aa b]at f;obtain⟨c',z1,z2,z3,z4,z5⟩:=q3 f;have E:blk g st l:=by unfold blk;rw[a];exact f
    have Tv:g.β l≠g.β q:=fun C=>d (h.inj l q E j C);refine⟨c',?_,?_,z3,aG.mono I _ _ z4,?_⟩
    .simp only[G.add,c,aa b];rw[setRow_other w _ _ _ Tv];omega
    .simp only[G.add,c,aa b];omega
    .simp only[G.add,c,aa b,aa Tv];omega
 .intro l ag ks es a;by_cases b:l=st.z
  .subst b;rw[y]at a;simp_all
  .by_cases d:l=q
   .subst d;rw[v]at a;cases a
   .rw[r l b d]at a;have Tv:g.β l≠g.β q:=fun C=>d (h.inj l q (h.map_blk a) j C);exact(h.mp l ag ks es a).keep I (h.map_lt a) (setRow_other w _ _ _ Tv) (by simp only[G.add];rw[aa Tv])
 .intro l p n a;by_cases b:l=st.z
  .subst b;rw[y]at a;obtain⟨rfl,W,S,X,U⟩:=hnq _ _ a;refine⟨by simp[G.add,c],⟨arr,by simp only[G.add,c,ac];omega,by simp only[G.add,c,ac];omega⟩,by simp[G.add,c,S],by simp only[G.add,c,ac];omega⟩
  .by_cases d:l=q
   .subst d;rw[v]at a;cases a
   .rw[r l b d]at a;have Tv:g.β l≠g.β q:=fun C=>d (h.inj l q (h.que_blk a) j C);exact(h.qu l p n a).keep I (h.que_lt a) (setRow_other w _ _ _ Tv) (by simp only[G.add];rw[aa Tv])
theorem nN(h:Inv w g st){q e k k':Nat}{o:cT}(f:((∀ ag y v,o≠.map ag y v)/\iQ o=false)/\∀ e n,o≠.que e n)(m:blk g st q){t arr:Array Value}(d:w.heap[g.β q]?=some (.cells t e (0,0)))(x:g.φ (g.β q)=some k)(l:k<=k')
 (a:∀ i,i<k->arr[i]?=t[i]?) (hblk:∀ b,Ext w g b (g.add (g.β q) k' (g.κ q) false)->b.heap[g.β q]?=some (.cells arr e (0,0))->
   (∀ c s n,o=.own c s n->n<=g.κ q/\g.κ q<=maxLen/\c=e/\arr.size=g.κ q*s/\k'=n*s)/\
   (∀ c s j,o=.box c s j->g.κ q<=maxLen/\c=e/\arr.size=g.κ q*s/\j.length<=arr.size/\aG b (g.add (g.β q) k' (g.κ q) false) j (arr.toList.take j.length)/\k'=0)):
 Inv (w.setRow (g.β q) arr) (g.add (g.β q) k' (g.κ q) false) ((st.set q .dead).new o)/\Ext w g (w.setRow (g.β q) arr) (g.add (g.β q) k' (g.κ q) false):=
 qW h f.1 m d x l a fun b p r=>⟨(hblk b p r).1,fun e n h=>absurd h (f.2 e n),(hblk b p r).2⟩
theorem Wm(a:List Value)(b:Array Value):a.toArray++b=(a++b.toList).toArray:=by simp_all
theorem Dl(a b:List Value)(c:Array Value):a.toArray++b.toArray++c=(a++b++c.toList).toArray:=by simp_all
def Src(w:World)(g:G)(m:Nat)(a:QQ)(u:Value):Prop:=
 ∃ A c,u=.slice A m c/\(a≠[]->∃ b o d,A=some ⟨b,o,none⟩/\aG w g a d/\∀ j,j<a.length->w.cell? ⟨b,o+j,none⟩=d[j]?)
theorem Eb(F:Inv w g st){t m:Nat}{x:LV}{u:Value}{d:QQ}(a:Mq T t st x=some (m,d))(v:Rep w g x u):Src w g m d u:=by
 have sl:∀ q,AP x=some (q,m,d)->Src w g m d u:=by intro q I;have h:=sQ I v;simp only[Rep]at h;obtain⟨A,c,rfl,_,_,_,s⟩:=h;refine⟨A,c,rfl,fun Tv=>?_⟩;obtain⟨b,o,rfl,p⟩:=s Tv;obtain⟨Q,y,B⟩:=iO _ _ p;exact⟨b,o,Q,rfl,y,B⟩
 cases x with
 |ms l o n=>
  simp only[Mq]at a;cases E:dN T t with
  |none=>simp_all
  |some e=>
   cases J:T e with
   |none=>simp_all
   |some r=>
    cases z:st.H l with
    |box e' s' cs=>
     simp only[E,J,z,ap,fj]at a;obtain⟨rfl,rfl⟩:=a;simp only[Rep]at v;obtain⟨A,f,rfl,_,_,_,D,_⟩:=v;refine⟨A,f,rfl,fun Tv=>?_⟩;have k:n≠0:=by rintro rfl;simp at Tv
     obtain⟨_,V,M⟩:=F.box l e' s' cs z;cases N:g.nl l with
     |true=>grind
     |false=>
      obtain⟨L,y,B,S,K,k5⟩:=M N;refine⟨g.β l,o,((L.take cs.length).drop o).take (n*r.size),D k,gQ _ _ _ (kF _ _ _ K),fun j R=>?_⟩;rw[cell_of_row w _ _ _ _ _ y]
      grind
    |_=>simp_all
 |_=>simp only[Mq,kj]at a;obtain⟨⟨q,U,C⟩,h1,h2⟩:=a;simp only[fj]at h2;obtain⟨rfl,rfl⟩:=h2;exact sl q h1
theorem BU(hT:bE P T){t ty e n m cap:Nat}{d:bQ}{B:QQ}{u:Value}{A:Option Addr}{olds:List Value}(hs:dN T t=some e)(hte:T e=some d)(hu:Src w g m B u)
 (c1:B.length=m*d.size) (c2:B.all kQ=true) (c3:(n+m)*d.bytes<=140737488355328) (R:n+m<=maxLen) (c5:0<d.size) (X:olds.length=n*d.size)
 (hA:(n=0/\cap=0)\/∃ b s,A=some ⟨b,0,none⟩/\w.heap[b]?=some (.cells s e (0,0))/\s.size=cap*d.size/\n<=cap/\s.toList.take (n*d.size)=olds):
 ∃ N Q l,(Builtin.append_ #[t,t] ty #[.slice A n cap,u]).run P w=.ok N Q/\aG w g B l/\
  ((m=0/\N=.slice A n cap/\w=Q)\/
   (∃ b s,0<m/\A=some ⟨b,0,none⟩/\w.heap[b]?=some (.cells s e (0,0))/\n+m<=cap/\N=.slice (some ⟨b,0,none⟩) (n+m) cap/\Q=w.setRow b (olds++l++s.toList.drop ((n+m)*d.size)).toArray)\/
   (∃ C z,N=.slice (some ⟨w.heap.size,0,none⟩) (n+m) C/\Q=w.drew.alloc (.cells (olds++l++z).toArray e)/\n+m<=C/\C<=maxLen/\(olds++l++z).length=C*d.size)):=by
 have H:=dL hT hs;have S:=hT e d hte;obtain⟨i,f,x,F,hz⟩:=S.info;have hzc:d.zeroV.cells=d.zero.toArray:=eE S;obtain⟨A',c,rfl,hrw⟩:=hu;by_cases hm:m=0
 .subst hm;have W:B=[]:=jc O;subst W;refine⟨.slice A n cap,w,[],?_,by grind [aG],.inl ⟨rfl,rfl,rfl⟩⟩;have K:n<=cap:=by
   rcases hA with⟨rfl,rfl⟩|⟨_,_,_,_,_,h,_⟩
   .omega
   .exact h
  cases A'<;>cases A<;>simp[Builtin.append_,run_underlying H,Go.sizeOf,typeInfo,f,Builtin.lenOf,Builtin.firstCells,loadCells,loadCellsFrom,K,storeCells]
 .have I:B≠[]:=by rintro rfl;have:0<m*d.size:=xy O c5;simp at c1;omega
  obtain⟨E,M,l,rfl,D,k2⟩:=hrw I;have hlen:=aO _ _ D;have q:l.length=m*i.size:=by rw[x];omega
  have k:∀ j v,l[j]?=some v->w.cell? ((⟨E,M,none⟩:Addr).add j)=some v:=by intro j v L;have hj:j<l.length:=(AC.1 L).1;rw[add_lit,k2 j O];exact L
  have o:∀ r,(olds++l++(Builtin.zeroCells d.zeroV.cells (grownCap w (n+m) r e-(n+m))).toList).length=grownCap w (n+m) r e*d.size:=by
   intro r;have hge:=grownCap_ge w (n+m) r e;have hzl:(Builtin.zeroCells d.zeroV.cells (grownCap w (n+m) r e-(n+m))).toList.length=(grownCap w (n+m) r e-(n+m))*d.size:=by rw[Array.length_toList,size_zeroCells,hzc];simp only[jh,S.zl]
   rw[cb,cb,hzl,X,q,x,<- nc,<- nc]
   congr 1;omega
  rcases hA with⟨rfl,rfl⟩|⟨b,s,rfl,U,V,K,V9⟩
  .have ho:olds=[]:=jc O;subst ho;cases A with
   |none=>
    have y:=run_append_nil (P:=P) w t ty e i d.zeroV H f hz ⟨E,M,none⟩ m c l q k O (by grind [maxLen]) (by grind);refine⟨_,_,l,y,D,.inr (.inr ⟨grownCap w (0+m) 0 e,(Builtin.zeroCells d.zeroV.cells (grownCap w (0+m) 0 e-(0+m))).toList,Y,?_,grownCap_ge w _ 0 e,grownCap_le_maxLen w _ 0 e R,o 0⟩)⟩
    grind [Wm]
   |some a=>have y:=run_append_grow (P:=P) w t ty e i d.zeroV H f hz a 0 0 [] Y Y ⟨E,M,none⟩ m c l q k O (by grind [maxLen]) (by rw[F];exact growslice_fits O c3);refine⟨_,_,l,y,D,.inr (.inr ⟨grownCap w (0+m) 0 e,(Builtin.zeroCells d.zeroV.cells (grownCap w (0+m) 0 e-(0+m))).toList,rfl,?_,grownCap_ge w _ 0 e,grownCap_le_maxLen w _ 0 e R,o 0⟩)⟩;rw[Dl]
  .by_cases p:n+m<=cap
   .have hns:n*i.size=olds.length:=by rw[x];omega
    have J:n*i.size+l.length<=s.size:=by rw[q,V,x,<- nc];exact vc _ p
    have y:=run_append_room (P:=P) w t ty e i H f b n cap s U ⟨E,M,none⟩ m c l q k (rF _ _ c2 D) p J;refine⟨_,_,l,y,D,.inr (.inl ⟨b,s,O,rfl,U,p,rfl,?_⟩)⟩
    grind
   .have holds:∀ j v,olds[j]?=some v->w.cell? ((⟨b,0,none⟩:Addr).add j)=some v:=by
     intro j v L;rw[add_lit,jw,cell_of_row w _ _ _ _ _ U,<- pf];rw[<- V9,nt]at L
     split at L
     .omega
     .grind
    have y:=run_append_grow (P:=P) w t ty e i d.zeroV H f hz ⟨b,0,none⟩ n cap olds (by grind) holds ⟨E,M,none⟩ m c l q k O (by grind [maxLen]) (by rw[F];exact growslice_fits O c3);refine⟨_,_,l,y,D,.inr (.inr ⟨grownCap w (n+m) cap e,(Builtin.zeroCells d.zeroV.cells (grownCap w (n+m) cap e-(n+m))).toList,rfl,?_,grownCap_ge w _ cap e,grownCap_le_maxLen w _ cap e R,o cap⟩)⟩;rw[Dl]
theorem Nd(l:Inv w g st){e s N C:Nat}{d:QQ}{c z:List Value}(o:aG w g d c)(r:d.length=N*s)(h:N<=C)(n:C<=maxLen)(t:(c++z).length=C*s):
 Rep (w.drew.alloc (.cells (c++z).toArray e)) (g.add w.heap.size (N*s) C false) (.sl st.z N d) (.slice (some ⟨w.heap.size,0,none⟩) N C)/\
 Inv (w.drew.alloc (.cells (c++z).toArray e)) (g.add w.heap.size (N*s) C false) (st.new (.own e s N))/\Ext w g (w.drew.alloc (.cells (c++z).toArray e)) (g.add w.heap.size (N*s) C false):=by
 have f:w.drew.heap.size=w.heap.size:=rfl;have b:=HU l.drew e s N C (c++z).toArray O h n;have a:=(fA w g).trans (dZ w.drew g (.cells (c++z).toArray e) (N*s) C false);rw[f]at b a;have m:=aO _ _ o;refine⟨?_,b,a⟩;simp only[Rep];refine⟨_,_,rfl,h,⟨n,Y⟩,fun _=>by simp[G.add,l.z],fun _=>⟨w.heap.size,0,rfl,jV d c 0 (aG.mono a _ _ o) (fun j p=>?_) (fun j p=>?_)⟩⟩
 .rw[cell_of_row _ w.heap.size _ _ _ _ (heap_alloc_new w.drew _),jw,ph,kw O]
 .intro k q;simp[G.add]at q;omega
theorem Gx(f:Inv w g st){e s N C:Nat}{h:QQ}{c z:List Value}(l:aG w g h c)(m:N<=C)(k:C<=maxLen)(n:(c++z).length=C*s):
 Rep (w.drew.alloc (.cells (c++z).toArray e)) (g.add w.heap.size 0 C false) (.ms st.z 0 N) (.slice (some ⟨w.heap.size,0,none⟩) N C)/\
 Inv (w.drew.alloc (.cells (c++z).toArray e)) (g.add w.heap.size 0 C false) (st.new (.box e s h))/\Ext w g (w.drew.alloc (.cells (c++z).toArray e)) (g.add w.heap.size 0 C false):=by
 have j:w.drew.heap.size=w.heap.size:=rfl;have d:=aO _ _ l
 have b:=xQ f.drew e s C (cs:=h) (vs:=c++z) n k (by grind) (by
  rw[d,ts];exact aG.mono (fA w g) _ _ l)
 have a:=(fA w g).trans (dZ w.drew g (.cells (c++z).toArray e) 0 C false);rw[j]at b a;refine⟨?_,b,a⟩;simp only[Rep];exact⟨_,_,rfl,m,k,by simp[G.add,f.z],by simp[G.add,f.z],by simp[G.add,f.z]⟩
theorem wV(c:Inv w g st)(k:Nat){l e s:Nat}{f:QQ}(p:st.H l=.box e s f):Inv w g (st.set l (.box e s (f.take k))):=by
 have j:∀ x,blk g (st.set l (.box e s (f.take k))) x↔blk g st x:=by
  intro x;unfold blk;simp only[St.set];by_cases a:x=l
  .simp_all
  .simp_all
 have dS:l<st.z:=EJ c p Y;refine⟨c.z,c.pos,?_,fun x a=>c.lt x ((j x).1 a),fun x y a t=>c.inj x y ((j x).1 a) ((j y).1 t),?_,?_,?_,?_,c.aside.keep (Ext.refl w g) (kI rfl)⟩
 .intro x a;simp only[St.set]at a ⊢;rw[aa O];exact c.fresh x a
 .intro x d o n a;by_cases b:x=l
  .simp[St.set,b]at a
  .simp only[St.set,aa b]at a;exact c.own x d o n a
 .intro x d o h a;by_cases b:x=l
  .simp only[St.set,ac b]at a;injection a with r h2 h3;subst r h2 h3 b;obtain⟨E,F,I⟩:=c.box x e s f p;refine⟨E,fun m=>⟨(F m).1,by grind⟩,fun m=>?_⟩;obtain⟨D,v,A,J,B,k5⟩:=I m;refine⟨D,v,A,by grind,?_,k5⟩;have:=gQ k _ _ B
   grind
  .simp only[St.set,aa b]at a;exact c.box x d o h a
 .intro x ag C q a;by_cases b:x=l
  .simp[St.set,b]at a
  .simp only[St.set,aa b]at a;exact c.mp x ag C q a
 .intro x d n a;by_cases b:x=l
  .simp[St.set,b]at a
  .simp only[St.set,aa b]at a;exact c.qu x d n a
theorem FR(hT:bE P T)(k:Inv w g st){t ty s l n m:Nat}{a:bQ}{cs y:QQ}{v u:Value}(hs:dN T t=some s)(hte:T s=some a)(hu':Src w g m y u)(hH:st.H l=.box s a.size cs)
 (d0:cs.length=n*a.size) (U:y.length=m*a.size) (c2:y.all kQ=true) (c3:(n+m)*a.bytes<=140737488355328) (c4:n+m<=maxLen) (c5:0<a.size) (h:Rep w g (.ms l 0 n) v):
 ∃ v' E W,(Builtin.append_ #[t,t] ty #[v,u]).run P w=.ok v' E/\Rep E W (.ms st.z 0 (n+m)) v'/\Inv E W ((st.set l .dead).new (.box s a.size (cs++y)))/\Ext w g E W:=by
 simp only[Rep]at h;obtain⟨A,cap,rfl,p,hcapm,F,hA',hln⟩:=h;obtain⟨rfl,hA⟩:=F trivial;clear F;have x:l<st.z:=by rw[<- k.z];exact hln
 obtain⟨o2,o3,o4⟩:=k.box l _ _ _ hH;have d:∃ c:List Value,aG w g cs c/\((n=0/\g.κ l=0)\/∃ b D,A=some ⟨b,0,none⟩/\w.heap[b]?=some (.cells D s (0,0))/\D.size=g.κ l*a.size/\n<=g.κ l/\D.toList.take (n*a.size)=c):=by
  cases r:g.nl l with
  |true=>obtain⟨B,rfl⟩:=o3 r;exact⟨[],by grind [aG],.inl ⟨O,B⟩⟩
  |false=>
   grind
 obtain⟨c,K,d⟩:=d;have hol:c.length=n*a.size:=by rw[<- aO _ _ K];exact d0
 obtain⟨v',E,vs,S,M,L⟩:=BU (ty:=ty) hT hs hte hu' U c2 c3 c4 c5 hol d;have hvl:vs.length=m*a.size:=by rw[<- aO _ _ M];exact U
 have J:=cR _ _ _ _ K M;have hNl:(cs++y).length=(n+m)*a.size:=by rw[cb,d0,U,nc]
 have hmul:=nc n m a.size;rcases L with⟨rfl,rfl,rfl⟩|⟨b,D,hpos,rfl,R,q,rfl,rfl⟩|⟨C,z,rfl,rfl,hC,hCm,hl⟩
 .have hds:y=[]:=jc O;subst hds;cases r:g.nl l with
  |true=>obtain⟨B,rfl⟩:=o3 r;refine⟨_,_,g.addNil,S,?_,kJ (k.drop l x) _ (.inr ⟨_,_,rfl⟩),ext_nil _ g⟩;simp only[Rep];exact⟨_,_,rfl,p,o2,by simp[G.addNil,k.z,B],O,by simp[G.addNil,k.z]⟩
  |false=>
   obtain⟨D,Q,p2,p4,p5,p6⟩:=o4 r;obtain rfl:=hA r
   have V9:=nN (o:=.box s a.size (cs++[])) (k':=0) (arr:=D.toArray) k Y (by unfold blk;simp_all) Q p6 (au _) (fun _ _=>rfl)
    (fun E hx _=>⟨(fun V s1 n1 X=>by grind),fun V s1 n1 X=>by
      grind [aG.mono]⟩)
   rw[setRow_self w _ _ _ _ Q]at V9;refine⟨_,_,_,S,?_,V9.1,V9.2⟩;simp only[Rep];exact⟨_,_,rfl,p,o2,by simp[G.add,k.z],by simp[G.add,k.z],by simp[G.add,k.z]⟩
 .have r:g.nl l=false:=by
   cases r:g.nl l with
   |false=>rfl
   |true=>
    grind
  obtain⟨f,Q,p2,p4,p5,p6⟩:=o4 r;have I:=hA r;simp only[ap,Addr.mk.injEq]at I;obtain⟨rfl,_⟩:=I;have hcc:f.toArray=D:=by rw[Q]at R;injection R with R;injection R
  subst hcc;have hsz:(n+m)*a.size<=f.length:=by rw[p2];exact vc _ q
  have harr:(c++vs++f.drop ((n+m)*a.size)).length=g.κ l*a.size:=by rw[<- p2];simp only[cb,gy];omega
  have V9:=nN (o:=.box s a.size (cs++y)) (k':=0) (arr:=(c++vs++f.drop ((n+m)*a.size)).toArray) k Y (by unfold blk;simp_all) Q p6 (au _)
   (fun j hj=>absurd hj (vp _))
   (fun E hx _=>⟨(fun V s1 n1 X=>by grind),fun V s1 n1 X=>by
     grind [aG.mono]⟩)
  refine⟨_,_,_,S,?_,V9.1,V9.2⟩;simp only[Rep];exact⟨_,_,rfl,q,o2,by simp[G.add,k.z],by simp[G.add,k.z],by simp[G.add,k.z]⟩
 .have:=Gx (e:=s) (N:=n+m) (k.drop l x) J hC hCm hl;exact⟨_,_,_,S,this⟩
theorem zC(w:World)(t x e:TypeId)(i:TypeInfo)(v:P.underlying t=some (.slice e))(r:P.info? e=some i)(b off d f:Nat)(n:Array Value)(q:w.heap[b]?=some (.cells n e (0,0)))
 (a:Addr) (m c:Nat) (news:List Value) (s:news.length=m*i.size) (h:∀ j u,news[j]?=some u->w.cell? (a.add j)=some u) (p:∀ u∈news,u.oneCell'=true) (k:d+m<=f) (o:off+d*i.size+news.length<=n.size):
 (Builtin.append_ #[t,t] x #[.slice (some ⟨b,off,none⟩) d f,.slice (some a) m c]).run P w=
   .ok (.slice (some ⟨b,off,none⟩) (d+m) f) (w.setRow b (n.toList.take (off+d*i.size)++news++n.toList.drop (off+d*i.size+news.length)).toArray):=by
 have hf:=run_firstCells_some (P:=P) w i.size m a m c news s h;have l:=run_storeCells_at P b (off+d*i.size) e news 0 n w q O p;simp only[Nat.add_zero]at l;simp[Builtin.append_,run_underlying v,sizeOf,typeInfo,r,Builtin.lenOf,k,hf,Addr.add_lit,l]
theorem RZ(R:bE P T){t ty e n m a:Nat}{f:bQ}{y:QQ}{u:Value}{A:Option Addr}{d:List Value}(hs:dN T t=some e)(F:T e=some f)(hu:Src w g m y u)
 (L:f.size=1) (c1:y.length=m) (c2:y.all kQ=true) (c3:(n+m)*f.bytes<=140737488355328) (c4:n+m<=maxLen) (hol:d.length=n)
 (Q:(n=0/\a=0)\/∃ b o q,A=some ⟨b,o,none⟩/\w.heap[b]?=some (.cells q e (0,0))/\q.size=o+a/\n<=a/\(q.toList.drop o).take n=d):
 ∃ B D k,(Builtin.append_ #[t,t] ty #[.slice A n a,u]).run P w=.ok B D/\aG w g y k/\
  ((m=0/\B=.slice A n a/\w=D)\/
   (∃ b o q,0<m/\A=some ⟨b,o,none⟩/\w.heap[b]?=some (.cells q e (0,0))/\n+m<=a/\B=.slice (some ⟨b,o,none⟩) (n+m) a/\D=w.setRow b (q.toList.take (o+n)++k++q.toList.drop (o+n+m)).toArray)\/
   (∃ C z,B=.slice (some ⟨w.heap.size,0,none⟩) (n+m) C/\D=w.drew.alloc (.cells (d++k++z).toArray e)/\n+m<=C/\C<=maxLen/\(d++k++z).length=C)):=by
 rcases Q with Q|⟨b,o,q,rfl,S,hcs,X,V9⟩
 .obtain⟨B,D,k,h1,h2,N⟩:=BU (ty:=ty) (A:=A) (olds:=d) R hs F hu (by grind) c2 c3 c4 O (by grind) (.inl Q);refine⟨B,D,k,h1,h2,?_⟩;rcases N with N|⟨_,_,hm,_,_,N,_⟩|⟨C,z,I,k2,k3,k4,k5⟩
  .grind
  .omega
  grind
 have V:=dL R hs;have M:=R e f F;obtain⟨i,h,x,U,hz⟩:=M.info;have hzc:f.zeroV.cells=f.zero.toArray:=eE M;obtain⟨A',c,rfl,hrw⟩:=hu;by_cases hm:m=0
 .subst hm;have W:y=[]:=jc O;subst W;refine⟨_,w,[],?_,by grind [aG],.inl ⟨rfl,rfl,rfl⟩⟩;cases A'<;>simp[Builtin.append_,run_underlying V,Go.sizeOf,typeInfo,h,Builtin.lenOf,Builtin.firstCells,loadCells,loadCellsFrom,X,storeCells]
 have E:y≠[]:=by rintro rfl;simp at c1;omega
 obtain⟨K,o',k,rfl,I,k2⟩:=hrw E;have hlen:=aO _ _ I;have r:k.length=m*i.size:=by rw[x,L];omega
 have l:∀ j v,k[j]?=some v->w.cell? ((⟨K,o',none⟩:Addr).add j)=some v:=by intro j v H;have hj:j<k.length:=(AC.1 H).1;rw[add_lit,k2 j O];exact H
 by_cases p:n+m<=a
 .have J:=zC (P:=P) w t ty e i V h b o n a q S ⟨K,o',none⟩ m c k r l (rF _ _ c2 I) p (by grind);rw[r,x,L,ru,ru]at J;exact⟨_,_,k,J,I,.inr (.inl ⟨b,o,q,O,rfl,S,p,rfl,rfl⟩)⟩
 .have holds:∀ j v,d[j]?=some v->w.cell? ((⟨b,o,none⟩:Addr).add j)=some v:=by
   intro j v H;rw[add_lit,cell_of_row w _ _ _ _ _ S,<- pf];rw[<- V9,nt]at H
   split at H
   .grind
   .grind
  have s:(d++k++(Builtin.zeroCells f.zeroV.cells (grownCap w (n+m) a e-(n+m))).toList).length=grownCap w (n+m) a e:=by
   have hge:=grownCap_ge w (n+m) a e;have hzl:(Builtin.zeroCells f.zeroV.cells (grownCap w (n+m) a e-(n+m))).toList.length=(grownCap w (n+m) a e-(n+m))*f.size:=by rw[Array.length_toList,size_zeroCells,hzc];simp only[jh,M.zl]
   rw[cb,cb,hzl,hol,r,x,L];omega
  have J:=run_append_grow (P:=P) w t ty e i f.zeroV V h hz ⟨b,o,none⟩ n a d (by grind) holds ⟨K,o',none⟩ m c k r l O (by grind [maxLen]) (by rw[U];exact growslice_fits O c3);refine⟨_,_,k,J,I,.inr (.inr ⟨grownCap w (n+m) a e,(Builtin.zeroCells f.zeroV.cells (grownCap w (n+m) a e-(n+m))).toList,rfl,?_,grownCap_ge w _ a e,grownCap_le_maxLen w _ a e c4,s⟩)⟩;rw[Dl]
theorem Mi{C:Nat}(h:C<=maxLen):C / qM=0/\C % qM=C:=by
 grind [qM,maxLen]
theorem Xs(o:Nat){C:Nat}(h:C<=maxLen):(o*qM+C) / qM=o/\(o*qM+C) % qM=C:=by
 have:C<qM:=by simp only[maxLen,qM]at *;omega
 grind [Nat.mul_comm,Nat.mul_add_div,Nat.div_eq_of_lt,Nat.mul_add_mod,Nat.mod_eq_of_lt]
theorem Fa(h:Inv w g st){t e n:Nat}(m:st.H t=.own e 1 n)(o:g.nl t=false):Inv w g (st.set t (.que e n)):=by
 obtain⟨D,v,E,A⟩:=h.own t e 1 n m;obtain⟨B,C,F,I⟩:=A o;obtain⟨J,K⟩:=Mi v;have f:∀ x,blk g (st.set t (.que e n)) x↔blk g st x:=by
  intro x;unfold blk;simp only[St.set];by_cases a:x=t
  .simp_all
  .simp_all
 have dS:t<st.z:=by
  rcases ec t st.z with l|l
  .omega
  .rw[h.fresh t l]at m;grind
 refine⟨h.z,h.pos,?_,fun x a=>h.lt x ((f x).1 a),fun x y a r=>h.inj x y ((f x).1 a) ((f y).1 r),?_,?_,?_,?_,h.aside.keep (Ext.refl w g) (kI rfl)⟩
 .intro x a;simp only[St.set]at a ⊢;rw[aa O];exact h.fresh x a
 .intro x c k j a;by_cases b:x=t
  .simp[St.set,b]at a
  .simp only[St.set,aa b]at a;exact h.own x c k j a
 .intro x c k d a;by_cases b:x=t
  .simp[St.set,b]at a
  .simp only[St.set,aa b]at a;exact h.box x c k d a
 .intro x ag s p a;by_cases b:x=t
  .simp[St.set,b]at a
  .simp only[St.set,aa b]at a;exact h.mp x ag s p a
 .intro x c j a;by_cases b:x=t
  .simp only[St.set,ac b]at a;injection a with q h2;subst q h2 b;exact⟨o,⟨B,C,O⟩,by grind,O⟩
  .simp only[St.set,aa b]at a;exact h.qu x c j a
theorem Qp(hT:bE P T)(p:Inv w g st){t ty s q o n m:Nat}{U:bQ}{cs ds:QQ}{v u:Value}(hs:dN T t=some s)(hte:T s=some U)(hu':Src w g m ds u)(hH:st.H q=.que s (o+n))
 (c0:U.size=1) (d0:cs.length=n) (c1:ds.length=m) (c2:ds.all kQ=true) (c3:(n+m)*U.bytes<=140737488355328) (c4:n+m<=maxLen) (h:Rep w g (.qu q o n cs) v):
 ∃ v' V g',(Builtin.append_ #[t,t] ty #[v,u]).run P w=.ok v' V/\Rep V g' (.qu st.z 0 (n+m) (cs++ds)) v'/\Inv V g' ((st.set q .dead).new (.que s (n+m)))/\Ext w g V g':=by
 simp only[Rep]at h;obtain⟨A,d,rfl,Q,l,hqn,hoc,hA,E⟩:=h;have hqlt:q<st.z:=by rw[<- p.z];exact hqn
 obtain⟨v8,⟨r,X,p2⟩,p3,p4,p5⟩:=p.qu q _ _ hH;generalize hK:g.κ q / qM=a at *;generalize hC:g.κ q % qM=K at *;have f:∃ c:List Value,aG w g cs c/\((n=0/\d=0)\/∃ b W r,A=some ⟨b,W,none⟩/\w.heap[b]?=some (.cells r s (0,0))/\r.size=W+d/\n<=d/\(r.toList.drop W).take n=c):=by
  by_cases M:d=0
  .have hn0:n=0:=O
   grind [aG]
  .obtain rfl:=hA M;refine⟨(r.toList.drop (a+o)).take n,?_,.inr ⟨_,_,r,rfl,X,O,Q,rfl⟩⟩;by_cases hcs:cs=[]
   .grind [aG]
   .obtain⟨b,W,B,hrr⟩:=E hcs;simp only[ap,Addr.mk.injEq]at B;obtain⟨rfl,rfl,_⟩:=B;obtain⟨F,k1,k2⟩:=iO _ _ hrr;have hl:=aO _ _ k1;have:(r.toList.drop (a+o)).take n=F:=by
     apply pw;intro j;rw[nt]
     split
     .grind [cell_of_row]
     .grind
    grind
 obtain⟨c,ho1,f⟩:=f;have hol:c.length=n:=by rw[<- aO _ _ ho1];exact d0
 obtain⟨v',V,F,u5,hvs,hout⟩:=RZ (ty:=ty) hT hs hte hu' c0 c1 c2 c3 c4 hol f;have hvl:F.length=m:=by rw[<- aO _ _ hvs];exact c1
 have I:=cR _ _ _ _ ho1 hvs;have hqb:blk g st q:=by unfold blk;rw[hH];exact v8
 obtain⟨qa,qb⟩:=Xs (a+o) l;rcases hout with⟨hm0,rfl,rfl⟩|⟨b,W,cur',hpos,rfl,hb,R,rfl,rfl⟩|⟨C,z,rfl,rfl,hC',L,hl⟩
 .have hds:ds=[]:=jc O;subst hds
  have V9:=qW (o:=.que s (n+m)) (k':=a+o+(n+m)) (kp:=(a+o)*qM+d) (arr:=r) p Y hqb X p3 O (fun _ _=>rfl)
   (fun V hx _=>⟨(fun e1 s1 n1 y=>by grind),(fun e1 n1 y=>by injection y with y h2;omega),fun e1 s1 n1 y=>by grind⟩)
  rw[setRow_self w _ _ _ _ X]at V9;refine⟨_,_,_,u5,?_,V9.1,V9.2⟩;simp only[Rep];refine⟨A,d,by grind,O,l,by simp[G.add,p.z],?_,fun h0=>?_,fun Tv=>?_⟩
  .simp only[G.add,p.z,ac,qb,jw]
  .simp only[G.add,p.z,ac,qa,Nat.add_zero];grind
  grind [aR.mono]
 .have M:d≠0:=O;have B:=hA M;simp only[ap,Addr.mk.injEq]at B;obtain⟨rfl,rfl,_⟩:=B;have hcc:r=cur':=by rw[X]at hb;injection hb with hb;injection hb
  subst hcc;have r8:r.toList.length=a+o+d:=by rw[Array.length_toList];omega
  have hlen:(r.toList.take (a+o+n)++F++r.toList.drop (a+o+n+m)).length=a+o+d:=by rw[cb,cb,dj,gy];omega
  have V9:=qW (o:=.que s (n+m)) (k':=a+o+(n+m)) (kp:=(a+o)*qM+d) (arr:=(r.toList.take (a+o+n)++F++r.toList.drop (a+o+n+m)).toArray) p Y hqb X p3 O
   (fun j N=>by
     rw[ph,dw,kw (by rw[dj];omega),nt,ac O,pf])
   (fun V hx _=>⟨(fun e1 s1 n1 y=>by grind),(fun e1 n1 y=>by injection y with y h2;subst y h2;rw[qa,qb];grind),fun e1 s1 n1 y=>by grind⟩)
  refine⟨_,_,_,u5,?_,V9.1,V9.2⟩;simp only[Rep];refine⟨_,d,rfl,R,l,by simp[G.add,p.z],?_,fun h0=>?_,fun Tv=>?_⟩
  .simp only[G.add,p.z,ac,qb,jw]
  .simp only[G.add,p.z,ac,qa,Nat.add_zero]
  .refine⟨_,_,rfl,jV _ (c++F) _ (aG.mono V9.2 _ _ I) (fun j N=>?_) (fun j N=>?_)⟩
   .have hj':j<n+m:=by rw[cb]at N;omega
    have S:(r.toList.drop (a+o)).take n=c:=by
     rcases f with⟨_,h0⟩|⟨b,W,cur2,y,h2,_,_,h5⟩
     .omega
     .grind
    rw[cell_of_row _ _ _ _ _ _ (setRow_heap w _ _ _ _ _ X),ph,dw];by_cases hjn:j<n
    .rw[kw (by rw[dj];omega),nt,ac O,kw O,<- S,nt,ac hjn,vf]
    .rw[oi (by rw[dj];omega),dj,vo O,kw O,oi O]
     congr 1
     omega
   .intro k hk;simp[G.add]at hk
    grind
 .obtain⟨r1,r2⟩:=Mi L;have dS:w.heap.size<=w.drew.heap.size:=au _;have hi1:=p.drop q hqlt;have hdz:w.drew.heap.size=w.heap.size:=rfl;have J:=HU hi1.drew s 1 (n+m) C (c++F++z).toArray (by grind) hC' L;have D:=(fA w g).trans (dZ w.drew g (.cells (c++F++z).toArray s) ((n+m)*1) C false);rw[hdz]at J D;have hq2:=Fa J (t:=st.z) (e:=s) (n:=n+m) (by simp[St.new,St.set]) (by simp[G.add,p.z]);have hst:((st.set q .dead).new (.own s 1 (n+m))).set st.z (.que s (n+m))=(st.set q .dead).new (.que s (n+m)):=by
   unfold St.set St.new
   congr 1
   funext x
   by_cases hx:x=st.z
   .grind
   .grind
  rw[hst]at hq2;refine⟨_,_,_,u5,?_,hq2,D⟩;simp only[Rep];refine⟨_,C,rfl,hC',L,by simp[G.add,p.z],by simp[G.add,p.z,r2],fun _=>by simp[G.add,p.z,r1],fun _=>⟨w.heap.size,0,rfl,jV _ (c++F) 0 (aG.mono D _ _ I) (fun j N=>?_) (fun j N=>?_)⟩⟩
  .rw[cb]at N;rw[cell_of_row _ w.heap.size _ _ _ _ (heap_alloc_new w.drew _),jw,ph,kw (by grind)]
  .intro k hk;rw[cb]at N;simp[G.add]at hk;omega
theorem Dv(N:bE P T)(h:Inv w g st){R:Bool}{t F e m:Nat}{u:Value}{f:QQ}{a:bQ}{r:bV}(A:Option Addr)(Q:dN T t=some e)(D:T e=some a)(E:Src w g m f u)
 (d:(if R then some ⟨f.length=m*a.size/\f.all kQ=true/\m*a.bytes<=140737488355328/\m<=maxLen/\0<a.size,.ms st.z 0 m,st.new (.box e a.size f)⟩
   else some ⟨f.length=m*a.size/\f.all kQ=true/\m*a.bytes<=140737488355328/\m<=maxLen/\0<a.size,.sl st.z m f,st.new (.own e a.size m)⟩:Option bV)=some r) (W:r.c):
 ∃ I o p,(Builtin.append_ #[t,t] F #[.slice A 0 0,u]).run P w=.ok I o/\Rep o p r.v I/\Inv o p r.s/\Ext w g o p:=by
 have x:f.length=m*a.size/\f.all kQ=true/\m*a.bytes<=140737488355328/\m<=maxLen/\0<a.size:=by
  split at d<;>(grind)
 obtain⟨J,L,S,U,M⟩:=x;obtain⟨I,o,vs,H,l,k⟩:=BU (ty:=F) (n:=0) (cap:=0) (A:=A) (olds:=[]) N Q D E J L (by grind) O M Y (.inl ⟨rfl,rfl⟩);rcases k with⟨rfl,rfl,rfl⟩|⟨b,X,K,_,_,V,_⟩|⟨C,z,rfl,rfl,q,j,B⟩
 .have y:f=[]:=jc O;subst y
  split at d
  .simp only[ap]at d;subst d;refine⟨_,_,g.addNil,H,?_,kJ h _ (.inr ⟨_,_,rfl⟩),ext_nil _ g⟩;simp only[Rep];exact⟨_,_,rfl,au _,jx _,by simp[G.addNil,h.z],Y,by simp[G.addNil,h.z]⟩
  .simp only[ap]at d;subst d;refine⟨_,_,g.addNil,H,?_,kJ h _ (.inl ⟨_,_,rfl⟩),ext_nil _ g⟩;simp only[Rep];exact⟨_,_,rfl,au _,⟨jx _,fun _=>rfl⟩,by simp[G.addNil,h.z],Y⟩
 .omega
 .simp only[jw,List.nil_append]at H q B
  split at d
  .simp only[ap]at d;subst d;have:=Gx (e:=e) h l q j B
   grind
  .simp only[ap]at d;subst d;have:=Nd (e:=e) h l J q j B
   grind
theorem WT{l n c:Nat}{v:Value}(h:Rep w g (.kap l n c) v):Rep w g (.ms l 0 n) v:=by
 grind [Rep]
theorem GJ(hT:bE P T)(B:Inv w g st){md:Bool}{t ty:TypeId}{s x:LV}{v u:Value}{r:bV}(E:BL T md t s x st=some r)(hc:r.c)(h:Rep w g s v)(hu:Rep w g x u):
 ∃ v' w' g',(Builtin.append_ #[t,t] ty #[v,u]).run P w=.ok v' w'/\Rep w' g' r.v v'/\Inv w' g' r.s/\Ext w g w' g':=by
 unfold BL at E
 split at E
 .rename_i e m ds hs hx
  split at E
  .rename_i a F;have I:=Eb B hx hu
   split at E
   .simp only[Rep]at h;subst h;exact Dv hT B none hs F I E hc
   .simp only[Rep]at h;obtain⟨A,rfl⟩:=h;exact Dv hT B A hs F I E hc
   .rename_i q n y;cases J:st.H q with
    |own e' s' n'=>
     simp only[J,ap]at E;subst E;obtain⟨rfl,rfl,rfl,d0,hq0,S,c2,c3,c4,c5⟩:=hc;simp only[Rep]at h;obtain⟨A,cap,rfl,hncap,hcapm,htok,D⟩:=h;obtain⟨hA,rfl,hqn⟩:=htok hq0;have X:q<st.z:=by rw[<- B.z];exact hqn
     obtain⟨o1,o2,o3,o4⟩:=B.own q _ _ _ J;have f:∃ d:List Value,aG w g y d/\((n'=0/\g.κ q=0)\/∃ b Q,A=some ⟨b,0,none⟩/\w.heap[b]?=some (.cells Q e' (0,0))/\Q.size=g.κ q*a.size/\n'<=g.κ q/\Q.toList.take (n' * a.size)=d):=by
      cases R:g.nl q with
      |true=>have V:=o3 R;have hn0:n'=0:=O;subst hn0;have K:y=[]:=jc O;subst K;exact⟨[],by grind [aG],.inl ⟨rfl,V⟩⟩
      |false=>
       obtain⟨Q,p1,p2,p3⟩:=o4 R;obtain rfl:=hA R;refine⟨Q.toList.take (n' * a.size),?_,.inr ⟨_,Q,rfl,p1,p2,o1,rfl⟩⟩;by_cases K:y=[]
       .grind [aG]
       .obtain⟨b,o,hbo,hrr⟩:=D K;simp only[ap,Addr.mk.injEq]at hbo;obtain⟨rfl,rfl,_⟩:=hbo;obtain⟨vs,k1,k2⟩:=iO _ _ hrr;have hl:=aO _ _ k1;have:Q.toList.take (n' * a.size)=vs:=by
         apply pw;intro j;by_cases hj:j<y.length
         .grind [cell_of_row]
         .grind
        grind
     obtain⟨d,ho1,f⟩:=f;have hol:d.length=n' * a.size:=by rw[<- aO _ _ ho1];exact d0
     obtain⟨v',w',vs,u5,hvs,hout⟩:=BU (ty:=ty) hT hs F I S c2 c3 c4 c5 hol f;have hvl:vs.length=m*a.size:=by rw[<- aO _ _ hvs];exact S
     have W:=cR _ _ _ _ ho1 hvs;have hNl:(y++ds).length=(n'+m)*a.size:=by rw[cb,d0,S,nc]
     rcases hout with⟨rfl,rfl,rfl⟩|⟨b,Q,hpos,rfl,hb,M,rfl,rfl⟩|⟨C,z,rfl,rfl,hC,hCm,hl⟩
     .have hds:ds=[]:=jc O;subst hds;cases R:g.nl q with
      |true=>have V:=o3 R;have hn0:n'=0:=O;subst hn0;have K:y=[]:=jc O;subst K;refine⟨_,_,g.addNil,u5,?_,kJ (B.drop q X) _ (.inl ⟨_,_,rfl⟩),ext_nil _ g⟩;simp only[Rep];exact⟨_,_,rfl,o1,⟨o2,fun _=>V⟩,by simp[G.addNil,B.z,V],Y⟩
      |false=>
       obtain⟨Q,p1,p2,p3⟩:=o4 R;obtain rfl:=hA R
       have V9:=nN (o:=.own e' a.size n') (k':=n' * a.size) (arr:=Q) B Y (by unfold blk;simp_all) p1 p3 (au _) (fun _ _=>rfl)
        (fun w' _ _=>⟨fun e1 s1 n1 U=>by grind,fun e1 s1 n1 U=>by grind⟩)
       rw[setRow_self w _ _ _ _ p1]at V9;refine⟨_,_,_,u5,?_,V9.1,V9.2⟩;have hrep:Rep w g (.sl q n' y) (.slice (some ⟨g.β q,0,none⟩) n' (g.κ q)):=by simp only[Rep];exact⟨_,_,rfl,o1,⟨o2,Y⟩,fun _=>⟨fun _=>rfl,rfl,hqn⟩,D⟩
       have L:=Rep.mono V9.2 _ _ hrep;simp only[Rep]at L ⊢;obtain⟨A2,cap2,U,h2,h3,_,h5⟩:=L;refine⟨A2,cap2,U,h2,h3,fun _=>?_,by grind⟩;injection U with U _ h1';subst U h1';simp[G.add,B.z]
     .have R:g.nl q=false:=by
       cases R:g.nl q with
       |false=>rfl
       |true=>
        grind
      obtain⟨p,p1,p2,p3⟩:=o4 R;have hbq:=hA R;simp only[ap,Addr.mk.injEq]at hbq;obtain⟨rfl,_⟩:=hbq;have hcc:p=Q:=by rw[p1]at hb;injection hb with hb;injection hb
      subst hcc;have htko:p.toList.take (n' * a.size)=d:=by
       rcases f with⟨h0,_⟩|⟨b2,cur2,U,h2,_,_,h3⟩
       .omega
       .grind
      have hsz:(n'+m)*a.size<=p.size:=by rw[p2];exact vc _ M
      have hmul:=nc n' m a.size;have harr:(d++vs++p.toList.drop ((n'+m)*a.size)).toArray.size=g.κ q*a.size:=by rw[<- p2];simp only[jh,cb,gy,Array.length_toList];omega
      have V9:=nN (o:=.own e' a.size (n'+m)) (k':=(n'+m)*a.size) (arr:=(d++vs++p.toList.drop ((n'+m)*a.size)).toArray) B Y (by unfold blk;rw[J];omega) p1 p3 O
       (fun j hj=>by
         rw[dw,ph,kw O,<- htko,nt,ac hj,pf])
       (fun w' _ _=>⟨fun e1 s1 n1 U=>by grind,fun e1 s1 n1 U=>by grind⟩)
      refine⟨_,_,_,u5,?_,V9.1,V9.2⟩;simp only[Rep];refine⟨_,_,rfl,M,⟨o2,Y⟩,fun _=>by simp[G.add,B.z],fun Tv=>⟨g.β q,0,rfl,jV _ (d++vs) 0 (aG.mono V9.2 _ _ W) (fun j hj=>?_) (fun j hj=>?_)⟩⟩
      .rw[cell_of_row _ _ _ _ _ _ (setRow_heap w _ _ _ _ _ p1),jw,ph,kw (by grind)]
      .intro k hk;simp[G.add]at hk;omega
     .have:=Nd (e:=e') (B.drop q X) W hNl hC hCm hl;exact⟨_,_,_,u5,this⟩
    |_=>simp_all
   .rename_i l n cap;cases J:st.H l with
    |box e' s' y=>
     simp only[J,ap]at E;subst E;obtain⟨rfl,rfl,d0,S,c2,c3,c4,c5⟩:=hc;have hi1:=wV B (n*a.size) J;have N:(st.set l (.box e' a.size (y.take (n*a.size)))).set l .dead=st.set l .dead:=by
      unfold St.set
      congr 1
      funext x
      by_cases hx:x=l<;>simp[hx]
     have:=FR (ty:=ty) hT hi1 (l:=l) (n:=n) (cs:=y.take (n*a.size)) hs F I (by simp[St.set]) (by grind) S c2 c3 c4 c5 (WT h);rw[N]at this;exact this
    |_=>simp_all
   .rename_i l o n;cases J:st.H l with
    |box e' s' y=>
     simp only[J,ap]at E;subst E;obtain⟨rfl,rfl,rfl,d0,S,c2,c3,c4,c5⟩:=hc;have hi1:=wV B (n*a.size) J;have N:(st.set l (.box e' a.size (y.take (n*a.size)))).set l .dead=st.set l .dead:=by
      unfold St.set
      congr 1
      funext x
      by_cases hx:x=l<;>simp[hx]
     have:=FR (ty:=ty) hT hi1 (l:=l) (n:=n) (cs:=y.take (n*a.size)) hs F I (by simp[St.set]) (by grind) S c2 c3 c4 c5 h;rw[N]at this;exact this
    |_=>simp_all
   .rename_i q o n y;cases J:st.H q with
    |que e' n'=>simp only[J,ap]at E;subst E;obtain⟨rfl,c0,rfl,d0,S,c2,c3,c4⟩:=hc;exact Qp (ty:=ty) hT B hs F I J c0 d0 S c2 c3 c4 h
    |_=>simp_all
   grind
  grind
 grind
theorem EO(I:bE P T)(hi:Inv w g st){t t' ty:TypeId}{s x:LV}{v u:Value}{r:bV}(q:BM T t t' s x st=some r)(hc:r.c)(h:Rep w g s v)(hu:Rep w g x u):
 ∃ v' D E,(Builtin.append_ #[t,t'] ty #[v,u]).run P w=.ok v' D/\Rep D E r.v v'/\Inv D E r.s/\Ext w g D E:=by
 unfold BM at q
 split at q
 .rename_i e k hs hk
  split at q
  .rename_i d V
   split at q
   .rename_i k' n;simp only[ap]at q;subst q;obtain⟨c1,c2,c3,c4⟩:=hc;simp only[Rep]at h hu;obtain⟨A,rfl⟩:∃ A,v=.slice A 0 0:=⟨none,h⟩;subst hu;have hd:=dL I hs;have J:=IQ I hk;have y:=I e d V;obtain⟨i,p,U,B,hz⟩:=y.info;have X:d.zeroV.cells=d.zero.toArray:=eE y;obtain⟨m,rfl⟩:=wo (show 0<=n by omega);have M:0<m:=O;have hmb:m*d.bytes<=140737488355328:=by
     have:((m*d.bytes:Nat):Int)<=140737488355328:=by rw[Int.natCast_mul];exact c2
     omega
    have W:IntKind.i64.wrap (m:Int)=m:=by
     simp only[IntKind.wrap,IntKind.signed,IntKind.bits];simp
     split<;>omega
    have N:m<=maxLen:=by simp only[maxLen];omega
    have L:=grownCap_ge w m 0 e;have u7:=grownCap_le_maxLen w m 0 e N;have hZ:(cE d.zero (grownCap w m 0 e)).length=grownCap w m 0 e*d.size:=by rw[iP _ (by rw[y.zl];omega)];simp[y.zl]
    have C:∀ k,(Builtin.zeroCells d.zeroV.cells k).toList=cE d.zero k:=by intro k;rw[iP _ (by rw[y.zl];omega),X];simp only[Builtin.zeroCells,<- List.toArray_range,xp,jh]
    have l:∀ a b,cE d.zero a++cE d.zero b=cE d.zero (a+b):=by
     intro a b;induction a with
     |zero=>simp[cE]
     |succ a ih=>grind [cE]
    have u5:(Builtin.append_ #[t,t'] ty #[.slice A 0 0,.int k' (m:Int)]).run P w=.ok (.slice (some ⟨w.heap.size,0,none⟩) m (grownCap w m 0 e)) (w.drew.alloc (.cells (cE d.zero (grownCap w m 0 e)).toArray e)):=by
     have e1:(cE d.zero (grownCap w m 0 e)).toArray=Builtin.zeroCells d.zeroV.cells m++Builtin.zeroCells d.zeroV.cells (grownCap w m 0 e-m):=by apply Array.ext';rw[Array.toList_append,C,C,l,show m+(grownCap w m 0 e-m)=grownCap w m 0 e by omega]
     have Q:m≠0:=O;have H:¬(9223372036854775807<(m:Int)):=O;have R:m*i.size≠0:=by rw[U];exact Nat.mul_ne_zero O O
     have F:¬(281474976710656<(m:Int)*(i.bytes:Int)):=by
      rw[B];have:((m*d.bytes:Nat):Int)<=140737488355328:=O
      rw[Int.natCast_mul]at this;omega
     have S:¬(281474976710656<Builtin.nextslicecap m 0*i.bytes):=by rw[nextslicecap_zero M,B];omega
     have o:¬((m:Int)<0):=O;have hb47:¬(m:Int)<0:=o;have K:∀ A,(Builtin.firstCells i.size 0 (.slice A 0 0)).run P w.drew=.ok #[] w.drew:=by intro A;cases A<;>simp[Builtin.firstCells,loadCells,loadCellsFrom]
     have z:∀(b:Nat) (w:World),(askRoom b).run P w=.ok () w:=by intro b w;unfold askRoom;split<;>simp[mark,Sem.run]
     rw[e1];simp[Builtin.append_,run_underlying hd,run_underlying J,Go.sizeOf,typeInfo,p,asInt,asIntOf,W,F,Q,S,R,hz,Go.zeroValue,newRow,z,choose,Sem.run];rw[aa o,aa H];have f:(Question.appendCap m 0 e).forced=false:=rfl;simp only[f,ir,gI,K,Result.andThen_ok];simp[grownCap]
    have hzr:aG w g (gN (d.zero.map dD) m) (cE d.zero m):=by rw[pK];exact dI w g _
    have j:cE d.zero (grownCap w m 0 e)=cE d.zero m++cE d.zero (grownCap w m 0 e-m):=by rw[l];congr 1;omega
    rw[j]at u5 hZ;have:=Gx (e:=e) hi hzr L u7 hZ
    grind [Int.toNat_natCast]
   grind
  grind
 grind
theorem Cg{z:List Value}(h:∀ v∈z,v.oneCell'=true):∀ n,∀ v∈cE z n,v.oneCell'=true
 |0,v,a=>by grind [cE]
 |n+1,v,a=>by
  rw[cE,am]at a;rcases a with a|a
  .grind
  .exact Cg h n v a
theorem Ko(K:bE P T)(N:Inv w g st){t ty:TypeId}{x:LV}{v:Value}{r:bV}(j:HY T t x st=some r)(L:r.c)(h:Rep w g x v):
 ∃ m,(Builtin.clear_ #[t] ty #[v]).run P w=.ok (.tuple #[]) m/\r.v=.tu []/\Inv m g r.s/\Ext w g m g:=by
 unfold HY at j
 split at j
 .rename_i e l o n X
  split at j
  .rename_i a F s p B J;simp only[ap]at j;subst j;have f:o+n*a.size<=p.length:=L.1;have M:=dL K X;have d:=K e a B;simp only[Rep]at h;obtain⟨A,U,rfl,y,V,q,I,W⟩:=h;have C:(cE a.zero n).length=n*a.size:=by
    clear I y L f q;induction n with
    |zero=>simp[cE]
    |succ n ih=>rw[cE,cb,ih,d.zl,xj];omega
   obtain⟨q1,q2,q3⟩:=N.box l F s p J;by_cases Q:n=0
   .subst Q;refine⟨w,?_,rfl,?_,Ext.refl w g⟩
    .cases A<;>simp[Builtin.clear_,run_underlying M]
    .have:st.set l (.box F s (p.take o++gN (a.zero.map dD) 0++p.drop (o+0*a.size)))=st:=by
      cases st with
      |mk nx H=>
       simp only[St.set,gN,dT,xw,Nat.add_zero,gw]
       congr 1
       grind
     grind
   .obtain rfl:=I Q;have S:g.nl l=false:=by
     cases S:g.nl l with
     |false=>rfl
     |true=>
      grind
    have k:aG w g (gN (a.zero.map dD) n) (cE a.zero n):=by rw[pK];exact dI w g _
    have b:(gN (a.zero.map dD) n).length=n*a.size:=by rw[aO _ _ k,C]
    obtain⟨m,z,E⟩:=CM (P:=P) N J S (ds:=gN (a.zero.map dD) n) (by rw[b];exact f) k (Cg (by simpa using d.zone) n);rw[b]at E;refine⟨m,?_,rfl,E.1,E.2⟩;have D:(Builtin.zeroCells a.zeroV.cells n).toList=cE a.zero n:=by rw[iP _ (by rw[d.zl];omega),eE d];simp only[Builtin.zeroCells,<- List.toArray_range,xp,jh]
    obtain⟨R,rfl⟩:∃ R,n=R+1:=⟨n-1,O⟩;simp[Builtin.clear_,run_underlying M,d.zeroValue,D,z]
  grind
 grind
theorem MJ(f:bE P T)(k:Inv w g st){t d ty:TypeId}{x y:LV}{v u:Value}{r:bV}(b:Od T t d x y st=some r)(j:r.c)(h:Rep w g x v)(l:Rep w g y u):
 ∃ e a,(Builtin.copy_ #[t,d] ty #[v,u]).run P w=.ok e a/\Rep a g r.v e/\Inv a g r.s/\Ext w g a g:=by
 unfold Od at b;cases b
theorem Bo(e:bE P T)(j:Inv w g st){t ty:TypeId}{x y:LV}{v u:Value}{r:bV}(b:xY T t x y st=some r)(f:r.c)(h:Rep w g x v)(k:Rep w g y u):
 ∃ d a,(Builtin.append_ #[t,t] ty #[v,u]).run P w=.ok d a/\Rep a g r.v d/\Inv a g r.s/\Ext w g a g:=by
 unfold xY at b;cases b
theorem wL{a:Act}{fr:ah}(hr:eY w g a fr):∀(ps:List (Nat×Operand)),aG w g ((ps.map fun p=>(p.1,aM fr p.2)).map (·.2)) ((ps.map fun p=>(p.1,a.eval p.2)).map (·.2))
 |[]=>by grind [aG]
 |p::ps=>by simp only[ax,aG];exact⟨_,_,rfl,aJ hr p.2,wL hr ps⟩
theorem Fe{a:Act}{c:ah}(d:eY w g a c):∀(b:List Operand),aG w g (b.map (aM c)) (b.map a.eval)
 |[]=>by grind [aG]
 |p::b=>by simp only[ax,aG];exact⟨_,_,rfl,aJ d p,Fe d b⟩
theorem gX{x:LV}{v u:Value}(h:Rep w g x v)(a:x=.atom u):v=u:=by grind [Rep]
theorem cS{N:Nat}{q:Bool}{o:Oper}{b:ah}{c:LV}(h:∀(a:Act) (w:World) (g:G),Inv w g st->eY w g a b->a.tmps.size=N->∃ v,(execOp a.eval o).run P w=.ok (.value v) w/\Rep w g c v):ug P N q o b st c st:=by
 intro a w g d e f
 grind [Ext.refl]
theorem LM(L:bE P T){N:Nat}{o:Oper}{c:Call}{fr:ah}{md:Bool}{r:bV}(E:o.op=.call c)(h:FX T md c fr st=some r)(R:r.c):ug P N (aW o.op) o fr st r.v r.s:=by
 obtain⟨callee,args,X⟩:=c;obtain⟨args⟩:=args;obtain⟨X⟩:=X;unfold FX at h
 split at h
 .rename_i x t _ d b f;simp only at d b f;subst d b f;rcases hmk:pJ T t with _|p;rotate_left
  .simp only[hmk]at h;obtain⟨k,e⟩:=p;unfold VY at h;simp only[hmk]at h
   split at h
   .rename_i l _ D;cases hl:st.H l with
    |map ag ks es=>
     simp only[hl,ap]at h;subst h;refine cS fun a w g m j _=>?_;have B:=aJ j x;rw[D]at B;simp only[Rep]at B;obtain⟨_,_,dK,clock,m2,m3,_⟩:=m.mp l _ _ es hl;refine⟨.int .i64 es.length,?_,by simp only[Rep]⟩;have U:dK.length=es.length:=by simpa using congrArg List.length m3
     simp[execOp,E,resolve,invoke,builtin,Builtin.len_,B.1,run_underlying (yP L hmk),goInt,MapKept.run_getObj_map m2,U]
    |_=>simp_all
   grind
  simp only[hmk]at h;unfold WR at h
  split at h
  .rename_i e W;have Q:∀ n:Nat,r=⟨True,.atom (.int .i64 n),st⟩->(∀(a:Act) (w:World) (g:G),Inv w g st->eY w g a fr->∃ A S,a.eval x=.slice A n S)->ug P N (aW o.op) o fr st r.v r.s:=by rintro n rfl M;refine cS fun a w g m j _=>?_;obtain⟨A,S,M⟩:=M a w g m j;refine⟨.int .i64 n,?_,by simp only[Rep]⟩;simp[execOp,E,resolve,invoke,builtin,Builtin.len_,M,run_underlying (dL L W),goInt]
   split at h
   .rename_i l off n D;simp only[ap]at h;refine Q n h.symm fun a w g m j=>?_;have B:=aJ j x
    grind [Rep]
   .rename_i l n c D;simp only[ap]at h;refine Q n h.symm fun a w g m j=>?_;have B:=aJ j x
    grind [Rep]
   .split at h
    .rename_i q n cs D;simp only[ap]at h;refine Q n h.symm fun a w g m j=>?_;have B:=sQ D (aJ j x)
     grind [Rep]
    grind
  grind
 .rename_i x y d b;simp only at d b;subst d b;unfold Vs at h
  split at h
  .rename_i k u k' v D hy;simp only[ap]at h;subst h;refine cS fun a w g m j _=>?_;have z:=gX (aJ j x) D;have C:=gX (aJ j y) hy;refine⟨.int k (if v<u then v else u),?_,by simp only[Rep]⟩;simp[execOp,E,resolve,invoke,builtin,Builtin.min_,Builtin.min2,z,C]
  grind
 .rename_i x y d b;simp only at d b;subst d b;unfold YB at h
  split at h
  .rename_i k u k' v D hy;simp only[ap]at h;subst h;refine cS fun a w g m j _=>?_;have z:=gX (aJ j x) D;have C:=gX (aJ j y) hy;refine⟨.int k (if u<v then v else u),?_,by simp only[Rep]⟩;simp[execOp,E,resolve,invoke,builtin,Builtin.max_,Builtin.max2,z,C]
  grind
 .rename_i s x t t' d b f;simp only at d b f;subst d b f
  split at h
  .rename_i htt;subst htt
   split at h
   .intro a w g m j _;obtain⟨J,K,z,C,F,I⟩:=Bo (ty:=o.type) L m h R (aJ j s) (aJ j x);refine⟨.value J,K,g,?_,.inl ⟨J,rfl,C⟩,F,I,fun V=>by grind [aW]⟩;simp[execOp,E,resolve,invoke,builtin,z]
   intro a w g m j _;obtain⟨J,K,g',z,C,F,I⟩:=GJ (ty:=o.type) L m h R (aJ j s) (aJ j x);refine⟨.value J,K,g',?_,.inl ⟨J,rfl,C⟩,F,I,fun V=>by grind [aW]⟩;simp[execOp,E,resolve,invoke,builtin,z]
  .intro a w g m j _;obtain⟨J,K,g',z,C,F,I⟩:=EO (ty:=o.type) L m h R (aJ j s) (aJ j x);refine⟨.value J,K,g',?_,.inl ⟨J,rfl,C⟩,F,I,fun V=>by grind [aW]⟩;simp[execOp,E,resolve,invoke,builtin,z]
 .rename_i x t _ d b f;simp only at d b f;subst d b f;unfold Zd at h
  split at h
  .rename_i e W D;simp only[ap]at h;subst h;refine cS fun a w g m j _=>?_;have B:=aJ j x;rw[D]at B;simp only[Rep]at B;have M:=B;refine⟨.int .i64 0,?_,by simp only[Rep]⟩;simp[execOp,E,resolve,invoke,builtin,Builtin.cap_,M,run_underlying (dL L W),goInt]
  .rename_i e l n c W D;simp only[ap]at h;subst h;refine cS fun a w g m j _=>?_;have B:=aJ j x;rw[D]at B;simp only[Rep]at B;obtain⟨A,M,_⟩:=B;refine⟨.int .i64 c,?_,by simp only[Rep]⟩;simp[execOp,E,resolve,invoke,builtin,Builtin.cap_,M,run_underlying (dL L W),goInt]
  grind
 .rename_i x t d b f;simp only at d b f;subst d b f;intro a w g m j _;obtain⟨K,z,C,F,I⟩:=Ko (ty:=o.type) L m h R (aJ j x);refine⟨.value (.tuple #[]),K,g,?_,.inl ⟨.tuple #[],rfl,?_⟩,F,I,fun V=>by grind [aW]⟩
  .simp[execOp,E,resolve,invoke,builtin,z]
  grind [Rep,aG]
 .rename_i x y t t' d b f;simp only at d b f;subst d b f;intro a w g m j _;obtain⟨J,K,z,C,F,I⟩:=MJ (ty:=o.type) L m h R (aJ j x) (aJ j y);refine⟨.value J,K,g,?_,.inl ⟨J,rfl,C⟩,F,I,fun V=>by grind [aW]⟩;simp[execOp,E,resolve,invoke,builtin,z]
 .rename_i x i t kt d b f;simp only at d b f;subst d b f;intro a w g m j _;obtain⟨C,K,z,F,I⟩:=IP (kt:=kt) (ty:=o.type) L m h R (aJ j x) (aJ j i);refine⟨.value (.tuple #[]),K,g,?_,.inl ⟨.tuple #[],rfl,?_⟩,F,I,fun V=>by grind [aW]⟩
  .simp[execOp,E,resolve,invoke,builtin,z]
  grind [Rep,aG]
 grind
theorem EH{t:TypeId}(h:P.underlying t=some .bool)(a b:Bool)(w:World):(Op.equal t (.bool a) (.bool b)).run P w=.ok (a==b) w:=by
 have c:∀ d,(Op.equalIn (d+1) t (.bool a) (.bool b)).run P w=.ok (a==b) w:=by intro d;simp[Op.equalIn,run_underlying h]
 exact c 9999
theorem Ia(E:bE P T){H:BinOp}{t:TypeId}{x y:LV}{v u:Value}{r:bV}(L M:Operand)(j:JC T H t x y st=some r)(C:r.c)(D:Rep w g x v)(p:Rep w g y u):
 r.s=st/\∃ z,(do eqGuard H t L M v u;binOp H t v u:Sem Value).run P w=.ok z w/\Rep w g r.v z:=by
 unfold JC at j
 split at j
 .rename_i k a k' b;simp only[kj]at j;obtain⟨z,h1,rfl⟩:=j;simp only[Rep]at D p;subst D p;exact⟨rfl,z.v,by simp[Kf,LZ h1 C],by simp only[Rep]⟩
 .rename_i a b;simp only[Rep]at D p;subst D p
  split at j
  .simp only[ap]at j;subst j;refine⟨rfl,.bool (a==b),?_,by simp only[Rep]⟩;simp[yI,binOp,EH (DR E C)]
  .simp only[ap]at j;subst j;refine⟨rfl,.bool (!(a==b)),?_,by simp only[Rep]⟩;simp[yI,binOp,EH (DR E C)]
  grind
 .rename_i xs ys;simp only[Rep]at D p;obtain⟨vs,rfl,D⟩:=D;obtain⟨us,rfl,p⟩:=p
  split at j
  .rename_i Q ks ns ks' ms q hx hy;obtain⟨rfl,W⟩:=nS _ _ _ _ hx D;obtain⟨rfl,X⟩:=nS _ _ _ _ hy p
   split at j
   .simp only[ap]at j;subst j;obtain⟨R,rfl,S⟩:=C;have:=KT (w:=w) (E t Q q) R S W X L M .eql false (.inl ⟨rfl,rfl⟩)
    grind [cg,Rep]
   .simp only[ap]at j;subst j;obtain⟨R,rfl,S⟩:=C;have:=KT (w:=w) (E t Q q) R S W X L M .neq true (.inr ⟨rfl,rfl⟩);simp only[cg,ef]at this;exact⟨rfl,_,this,by simp[Rep]⟩
   grind
  grind
 .simp only[Rep]at D p;subst D p;have m:(dN T t).isSome=true->(Op.equal t (.slice none 0 0) (.slice none 0 0)).run P w=.ok true w/\∀ F,(eqGuard F t L M (.slice none 0 0) (.slice none 0 0)).run P w=.ok () w:=by
   intro V;obtain⟨e,V⟩:=AS.1 V;have q:=dL E V;have J:∀ d,(Op.equalIn (d+1) t (.slice none 0 0) (.slice none 0 0)).run P w=.ok true w:=by intro d;simp[Op.equalIn,run_underlying q]
   exact⟨J 9999,fun F=>by unfold eqGuard;split<;>simp⟩
  split at j
  .simp only[ap]at j;subst j;obtain⟨I,K⟩:=m C;refine⟨rfl,.bool true,?_,by simp only[Rep]⟩;simp[K,binOp,I]
  .simp only[ap]at j;subst j;obtain⟨I,K⟩:=m C;refine⟨rfl,.bool false,?_,by simp only[Rep]⟩;simp[K,binOp,I]
  grind
 .have n:∃ A,v=.map A/\∀ b,wQ x=some b->A.isNone=b:=by
   cases x with
   |mp l=>grind [Rep,wQ]
   |atom y=>
    cases y with
    |map A=>
     grind [Rep,wQ]
    |_=>simp[wQ]at j
   |_=>simp[wQ]at j
  obtain⟨A,rfl,N⟩:=n;simp only[Rep]at p;subst p;have m:(∃ k e,P.underlying t=some (.map k e))->(Op.equal t (.map A) (.map none)).run P w=.ok A.isNone w/\∀ F,(eqGuard F t L M (.map A) (.map none)).run P w=.ok () w:=by
   rintro⟨k,e,q⟩;have J:∀ d,(Op.equalIn (d+1) t (.map A) (.map none)).run P w=.ok A.isNone w:=by intro d;cases A<;>simp[Op.equalIn,run_underlying q]
   exact⟨J 9999,fun F=>by unfold eqGuard;split<;>simp⟩
  split at j
  .rename_i b B;simp only[ap]at j;subst j;obtain⟨I,K⟩:=m (Ew E C);rw[N b B]at I;refine⟨rfl,.bool b,?_,by simp only[Rep]⟩;simp[K,binOp,I]
  .rename_i b B;simp only[ap]at j;subst j;obtain⟨I,K⟩:=m (Ew E C);rw[N b B]at I;refine⟨rfl,.bool (!b),?_,by simp only[Rep]⟩;simp[K,binOp,I]
  grind
 .have n:∃ A,v=.pointer A/\∀ b,nilPtr x=some b->A.isNone=b:=by
   cases x with
   |pt l o=>grind [Rep,nilPtr]
   |pe l cs=>grind [Rep,nilPtr]
   |ep cs=>simp only[Rep]at D;grind [nilPtr]
   |atom y=>
    cases y with
    |pointer A=>
     grind [Rep,nilPtr]
    |_=>simp[nilPtr]at j
   |_=>simp[nilPtr]at j
  obtain⟨A,rfl,N⟩:=n;simp only[Rep]at p;subst p;have m:∀ e,P.underlying t=some (.pointer e)->(Op.equal t (.pointer A) (.pointer none)).run P w=.ok A.isNone w:=by
   intro e q;have J:∀ d,(Op.equalIn (d+1) t (.pointer A) (.pointer none)).run P w=.ok A.isNone w:=by intro d;cases A<;>simp[Op.equalIn,run_underlying q]
   exact J 9999
  split at j
  .rename_i b B;simp only[ap]at j;subst j;obtain⟨e,q⟩:=Im E C;refine⟨rfl,.bool b,?_,by simp only[Rep]⟩;have:=m e q;rw[N b B]at this;unfold eqGuard;simp[binOp,this]
  .rename_i b B;simp only[ap]at j;subst j;obtain⟨e,q⟩:=Im E C;refine⟨rfl,.bool (!b),?_,by simp only[Rep]⟩;have:=m e q;rw[N b B]at this;unfold eqGuard;simp[binOp,this]
  grind
 .have n:(v=.nilFunc/\∀ b,xP x=some b->b=true)\/((∃ f a c,v=.func f a c)/\∀ b,xP x=some b->b=false):=by
   cases x with
   |fn f Kz=>simp only[Rep]at D;grind [xP]
   |atom y=>
    cases y with
    |nilFunc=>grind [Rep,xP]
    |_=>simp[xP]at j
   |_=>simp[xP]at j
  simp only[Rep]at p;subst p;have m:∀ b,xP x=some b->(∃ a b c,P.underlying t=some (.func a b c))->(Op.equal t v .nilFunc).run P w=.ok b w/\∀ H,(eqGuard H t L M v .nilFunc).run P w=.ok () w/\(H=.eql->(binOp H t v .nilFunc).run P w=.ok (.bool b) w)/\(H=.neq->(binOp H t v .nilFunc).run P w=.ok (.bool (!b)) w):=by
   rintro b B ⟨_,_,_,q⟩;have U:(Op.equal t v .nilFunc).run P w=.ok b w:=by
    have J:∀ d,(Op.equalIn (d+1) t v .nilFunc).run P w=.ok b w:=by
     intro d;rcases n with⟨rfl,h⟩|⟨⟨f,a,c,rfl⟩,h⟩
     .obtain rfl:=h b B;simp[Op.equalIn,run_underlying q]
     .obtain rfl:=h b B;simp[Op.equalIn,run_underlying q]
    exact J 9999
   refine⟨U,fun H=>⟨?_,?_,?_⟩⟩
   .rcases n with⟨rfl,_⟩|⟨⟨f,a,c,rfl⟩,_⟩<;>(unfold eqGuard;split<;>simp)
   .rintro rfl;rcases n with⟨rfl,_⟩|⟨⟨f,a,c,rfl⟩,_⟩<;>simp[binOp,U]
   .rintro rfl;rcases n with⟨rfl,_⟩|⟨⟨f,a,c,rfl⟩,_⟩<;>simp[binOp,U]
  split at j
  .rename_i b B;simp only[ap]at j;subst j;obtain⟨_,k⟩:=m b B (Oa E C);refine⟨rfl,.bool b,?_,by simp only[Rep]⟩;simp_all
  .rename_i b B;simp only[ap]at j;subst j;obtain⟨_,k⟩:=m b B (Oa E C);refine⟨rfl,.bool (!b),?_,by simp only[Rep]⟩;simp_all
  grind
 grind
theorem BH(L:bE P T)(q:Inv w g st){t:TypeId}{l c:LV}{v u:Value}{r:bV}(f:rK T t l c st=some r)(S:r.c)(h:Rep w g l v)(N:Rep w g c u):
 ∃ Q x y,(Instr.makeSlice t v u).run P w=.ok Q x/\Rep x y r.v Q/\Inv x y r.s/\Ext w g x y:=by
 unfold rK at f
 split at f
 .rename_i e V
  split at f
  .rename_i a E
   split at f
   .rename_i k n X n';simp only[ap]at f;subst f;obtain⟨rfl,K,c2,R,c4⟩:=S;simp only[Rep]at h N;subst h N;have U:=dL L V;have d:=L e a E;obtain⟨i,b,D,B,W⟩:=d.info;have F:a.zeroV.cells=a.zero.toArray:=eE d;obtain⟨m,rfl⟩:=wo K;have p:m<=maxLen:=by simp only[maxLen];omega
    have A:(i.bytes:Int)*(m:Int)<=281474976710656:=by rw[B,Int.mul_comm];omega
    have J:=run_make (P:=P) w t e i a.zeroV U b W k X (m:Int) (m:Int) K (qe _) A R;simp only[Int.toNat_natCast]at J;have C:madeCells a.zeroV.cells (m*i.size)=(cE a.zero m).toArray:=by apply Array.ext';rw[iP _ (by rw[d.zl];omega),F,D];simp[madeCells,<- List.toArray_range,d.zl]
    rw[C]at J;have H:(cE a.zero m).length=m*a.size:=by rw[iP _ (by rw[d.zl];omega)];simp[d.zl]
    have I:aG w g (gN (a.zero.map dD) m) (cE a.zero m):=by rw[pK];exact dI w g _
    have M:=aO _ _ I;have j:=dZ w g (.cells (cE a.zero m).toArray e) 0 m false;have o:=xQ q e a.size m (cs:=gN (a.zero.map dD) m) (vs:=cE a.zero m) H p O (by grind);refine⟨_,_,_,J,?_,o,j⟩;simp only[Rep,Int.toNat_natCast];exact⟨_,_,rfl,au _,p,by simp[G.add,q.z],by simp[G.add,q.z],by simp[G.add,q.z]⟩
   grind
  grind
 grind
theorem zB(D:bE P T){N:Nat}{o:Oper}{X:ah}{md:Bool}{r:bV}(q:fX T md o X st=some r)(I:r.c):ug P N (aW o.op) o X st r.v r.s:=by
 unfold fX at q
 split at q
 .rename_i x m;simp only[ap]at q;subst q;exact cS fun a w g B e _=>⟨a.eval x,by simp[execOp,m],aJ e x⟩
 .rename_i x m;simp only[ap]at q;subst q;exact cS fun a w g B e _=>⟨a.eval x,by simp[execOp,m],aJ e x⟩
 .rename_i c x y m
  split at q
  .rename_i t S;simp only[ap]at q;subst q;refine cS fun a w g B e _=>?_;have j:=gX (aJ e c) S;refine⟨if t then a.eval x else a.eval y,by simp[execOp,m,j,asBool],?_⟩
   grind [aJ]
  grind
 .rename_i op t x y _ m;intro a w g B e _;obtain⟨C,z,j,A⟩:=Ia D x y q I (aJ e x) (aJ e y);refine⟨.value z,w,g,?_,.inl ⟨z,rfl,A⟩,by grind,Ext.refl w g,fun _=>⟨rfl,rfl,C,_,rfl⟩⟩;simp only[execOp,m];rw[Sem.run_bind,j];rfl
 .rename_i op _ x m;unfold Wq at q
  split at q
  .rename_i b E;simp only[ap]at q;subst q;refine cS fun a w g B e _=>?_;have j:=gX (aJ e x) E;exact⟨.bool !b,by simp[execOp,m,j,Op.unary],by simp only[Rep]⟩
  .rename_i k n E;simp only[ap]at q;subst q;refine cS fun a w g B e _=>?_;have j:=gX (aJ e x) E;exact⟨.int k (k.wrap (0-n)),by simp[execOp,m,j,Op.unary,Op.intArith],by simp only[Rep]⟩
  grind
 .rename_i s d x m
  split at q
  .rename_i k0 k k' n U hk E;simp only[ap]at q;subst q;refine cS fun a w g B e _=>?_;have j:=gX (aJ e x) E;exact⟨.int k (k.wrap n),by simp[execOp,m,j,convert,run_underlying (IQ D U),run_underlying (IQ D hk),Conv.intToInt],by simp only[Rep]⟩
  grind
 .rename_i t x m;intro a w g B e _;obtain⟨C,u,j,A⟩:=CE D B q I (aJ e x);exact⟨.value u,w,g,by simp[execOp,m,j],.inl ⟨u,rfl,A⟩,by grind,Ext.refl w g,fun _=>⟨rfl,rfl,C,_,rfl⟩⟩
 .rename_i t x v m;intro a w g B e _;obtain⟨C,H,j,A,F⟩:=KR D B q I (aJ e x) (aJ e v);exact⟨.skip,H,g,by simp[execOp,m,j],.inr ⟨rfl,C⟩,A,F,fun M=>by grind [aW]⟩
 .rename_i t x i m;intro a w g B e _;obtain⟨C,u,j,A⟩:=Qi (P:=P) D q I (aJ e x) (aJ e i);exact⟨.value u,w,g,by simp[execOp,m,j],.inl ⟨u,rfl,A⟩,by grind,Ext.refl w g,fun _=>⟨rfl,rfl,C,_,rfl⟩⟩
 .rename_i t x f m;intro a w g B e _;obtain⟨C,u,j,A⟩:=BG (P:=P) D q I (aJ e x);exact⟨.value u,w,g,by simp[execOp,m,j],.inl ⟨u,rfl,A⟩,by grind,Ext.refl w g,fun _=>⟨rfl,rfl,C,_,rfl⟩⟩
 .rename_i t x f m;intro a w g B e _;obtain⟨C,u,j,A⟩:=JV (P:=P) D q I (aJ e x);exact⟨.value u,w,g,by simp[execOp,m,j],.inl ⟨u,rfl,A⟩,by grind,Ext.refl w g,fun _=>⟨rfl,rfl,C,_,rfl⟩⟩
 .rename_i t x lo Q mx m;intro a w g B e _
  obtain⟨C,u,j,A⟩:=KD (P:=P) (w:=w) (g:=g) (vlo:=lo.map a.eval) (vhi:=Q.map a.eval) (vmx:=mx.map a.eval) D q I (aJ e x)
   (fun l L=>by cases lo with|none=>grind|some z=>simp at L;subst L;exact⟨_,rfl,aJ e z⟩) (fun h=>by simp_all)
   (fun l L=>by cases Q with|none=>grind|some z=>simp at L;subst L;exact⟨_,rfl,aJ e z⟩) (fun h=>by simp_all)
   (fun l L=>by cases mx with|none=>grind|some z=>simp at L;subst L;exact⟨_,rfl,aJ e z⟩) (fun h=>by simp_all)
  exact⟨.value u,w,g,by simp[execOp,m,j],.inl ⟨u,rfl,A⟩,by grind,Ext.refl w g,fun _=>⟨rfl,rfl,C,_,rfl⟩⟩
 .rename_i t x m;intro a w g B e _;obtain⟨u,H,J,j,A,F,K⟩:=PV (P:=P) B q (aJ e x);exact⟨.value u,H,J,by simp[execOp,m,j],.inl ⟨u,rfl,A⟩,F,K,fun M=>by grind [aW]⟩
 .rename_i t m;intro a w g B e _;obtain⟨u,H,J,j,A,F,K⟩:=Jj (P:=P) D B q;exact⟨.value u,H,J,by simp[execOp,m,j],.inl ⟨u,rfl,A⟩,F,K,fun M=>by grind [aW]⟩
 .rename_i t R m;intro a w g B e _;obtain⟨C,u,j,A⟩:=KG (P:=P) (x7:=R.map fun p=>(p.1,a.eval p.2)) D q I Y (by simpa using wL e R.toList);exact⟨.value u,w,g,by simp[execOp,m,j],.inl ⟨u,rfl,A⟩,by grind,Ext.refl w g,fun _=>⟨rfl,rfl,C,_,rfl⟩⟩
 .rename_i t n R m;intro a w g B e _;obtain⟨u,H,J,j,A,F,K⟩:=zP (P:=P) (x7:=R.map fun p=>(p.1,a.eval p.2)) D B q I Y (by simpa using wL e R.toList);exact⟨.value u,H,J,by simp[execOp,m,j],.inl ⟨u,rfl,A⟩,F,K,fun M=>by grind [aW]⟩
 .rename_i f first Kz m
  split at q
  .rename_i hf;simp only[ap]at q;subst q;refine cS fun a w g B e _=>⟨.func f #[] (Kz.map a.eval),?_,?_⟩
   .have:first=#[]:=by simpa using hf
    subst this;simp[execOp,m,Instr.makeFunc]
   grind [Rep,Array.toList_map,Fe]
  grind
 .rename_i x i m
  split at q
  .rename_i vs E
   split at q
   .rename_i v hv;simp only[ap]at q;subst q;refine cS fun a w g B e _=>?_;have j:=aJ e x;rw[E]at j;simp only[Rep]at j;obtain⟨us,j,A⟩:=j;obtain⟨u,V,W⟩:=wY i vs us v A hv;exact⟨u,by simp[execOp,m,j,Instr.extract,V],W⟩
   grind
  grind
 .rename_i x m
  split at q
  .rename_i l o' E;simp only[ap]at q;subst q;refine cS fun a w g B e _=>?_;have j:=aJ e x;rw[E]at j;have A:=j;simp only[Rep]at j;exact⟨a.eval x,by simp[execOp,m,j.1],A⟩
  .rename_i l cs E;simp only[ap]at q;subst q;refine cS fun a w g B e _=>?_;have j:=aJ e x;rw[E]at j;have A:=j;simp only[Rep]at j;exact⟨a.eval x,by simp[execOp,m,j.1],A⟩
  grind
 .grind [LM]
 .rename_i t x i m;unfold HF at q
  split at q
  .rename_i s k n E hn;simp only[ap]at q;subst q;obtain⟨c1,c2,c3⟩:=I;refine cS fun a w g B e _=>?_;have j:=gX (aJ e x) E;have A:=gX (aJ e i) hn;cases hb:s[n.toNat]? with
   |none=>grind
   |some b=>refine⟨.int .u8 b.toNat,?_,by grind [Rep]⟩;simp[execOp,m,j,A,Instr.index,asIntOf,run_underlying (Ul D c1),c2,hb]
  grind
 .rename_i t x i ok m;intro a w g B e _;obtain⟨C,u,j,A⟩:=GO (P:=P) D B q I (aJ e x) (aJ e i);exact⟨.value u,w,g,by simp[execOp,m,j],.inl ⟨u,rfl,A⟩,by grind,Ext.refl w g,fun _=>⟨rfl,rfl,C,_,rfl⟩⟩
 .rename_i t x i v m;intro a w g B e _;obtain⟨C,H,j,A,F⟩:=xA (P:=P) D B q I (aJ e x) (aJ e i) (aJ e v);exact⟨.skip,H,g,by simp[execOp,m,j],.inr ⟨rfl,C⟩,A,F,fun M=>by grind [aW]⟩
 .rename_i t x i v m;intro a w g B e _;obtain⟨C,H,j,A,F⟩:=xA (P:=P) D B q I (aJ e x) (aJ e i) (aJ e v);exact⟨.skip,H,g,by simp[execOp,m,j],.inr ⟨rfl,C⟩,A,F,fun M=>by grind [aW]⟩
 .rename_i t rs m;intro a w g B e _;obtain⟨u,H,J,j,A,F,K⟩:=ER (P:=P) (vr:=rs.map a.eval) D B q (fun x E=>by cases rs with|none=>grind|some z=>simp at E;subst E;exact⟨_,rfl,aJ e z⟩) (fun h=>by simp_all);exact⟨.value u,H,J,by simp[execOp,m,j],.inl ⟨u,rfl,A⟩,F,K,fun M=>by grind [aW]⟩
 .rename_i t l c m;intro a w g B e _;obtain⟨u,H,J,j,A,F,K⟩:=BH (P:=P) D B q I (aJ e l) (aJ e c);exact⟨.value u,H,J,by simp[execOp,m,j],.inl ⟨u,rfl,A⟩,F,K,fun M=>by grind [aW]⟩
 grind
end
end Aw
end Go.Proofs.YtbgngpdonpeboaaGreatDoor
