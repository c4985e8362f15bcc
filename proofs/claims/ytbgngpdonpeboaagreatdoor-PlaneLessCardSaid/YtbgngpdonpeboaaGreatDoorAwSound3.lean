/- The operations' soundness: append; all operations in one theorem. No program is named here. -/
import Derived.Test.YtbgngpdonpeboaaGreatDoorAwMap
import Derived.Laws.MakeOwn
set_option linter.defProp false
set_option linter.unusedVariables false
set_option linter.unusedSimpArgs false
namespace Go.Proofs.YtbgngpdonpeboaaGreatDoor
namespace Aw
open Go Go.RowKit
def G.addNil(g:G):G:=
 {z:=g.z+1,φ:=g.φ,β:=g.β,κ:=fun l=>if l=g.z then 0 else g.κ l,nl:=fun l=>if l=g.z then true else g.nl l }
section
variable {P:Program} {T:az} {w:World} {g:G} {st:St}
theorem ext_nil(w:World)(g:G):Ext w g w g.addNil:=by
 refine⟨rfl,rfl,rfl,au _,rj _,fun _ _=>rfl,?_,?_,fun _ _ h=>⟨h,rfl⟩,fun _ k _ h=>⟨k,h,au _,fun _ _=>rfl⟩⟩
 .intro l a;simp[G.addNil,kg a]
 .intro l a;simp[G.addNil,kg a]
theorem jF(h:Inv w g st)(o:cK)(c:(∃ e s,o=.own e s 0)\/∃ e s,o=.box e s []):Inv w g.addNil (st.new o):=by
 have d:=h.z;have j:=ext_nil w g;have m:∀ l,blk g.addNil (st.new o) l->l≠st.z/\blk g st l:=by
  intro l a;unfold blk at a ⊢;simp only[St.new,G.addNil,d]at a;by_cases b:l=st.z
  .simp only[ad b]at a;rcases c with⟨e,s,rfl⟩|⟨e,s,rfl⟩<;>simp at a
  .simp_all
 refine⟨by grind [G.addNil,St.new],by simp[St.new],?_,fun l a=>h.lt l (m l a).2,fun l q a t=>h.inj l q (m l a).2 (m q t).2,?_,?_,?_,?_,h.aside.keep j (oJ (by rcases c with⟨e,s,rfl⟩|⟨e,s,rfl⟩<;>rfl))⟩
 .intro l a;simp only[St.new]at a ⊢;rw[ac oO];exact h.fresh l oO
 .intro l f p D a;by_cases b:l=st.z
  .simp only[St.new,ad b]at a;subst a;rcases c with⟨e,s,c⟩|⟨e,s,c⟩
   .injection c with k h2 h3;subst k h2 h3;simp[G.addNil,d,b]
   grind
  .simp only[St.new,ac b]at a;have:=h.own l f p D a;simp only[G.addNil,d,ac b];exact this
 .intro l f p cs a;by_cases b:l=st.z
  .simp only[St.new,ad b]at a;subst a;rcases c with⟨e,s,c⟩|⟨e,s,c⟩
   .grind
   .injection c with k h2 h3;subst k h2 h3;simp[G.addNil,d,b]
  .simp only[St.new,ac b]at a;obtain⟨I,J,F⟩:=h.box l f p cs a;refine⟨?_,?_,fun r=>?_⟩
   .simp only[G.addNil,d,ac b];omega
   .simp only[G.addNil,d,ac b];omega
   .simp only[G.addNil,d,ac b]at r;obtain⟨E,x,H,y,A,B⟩:=F r;refine⟨E,x,?_,y,aC.mono j _ _ A,B⟩;simp only[G.addNil,d,ac b];omega
 .intro l ag C v a;by_cases b:l=st.z
  .simp only[St.new,ad b]at a
   grind
  .simp only[St.new,ac b]at a;exact(h.mp l ag C v a).keep j (h.map_lt a) rfl rfl
 .intro l f n a;by_cases b:l=st.z
  .simp only[St.new,ad b]at a
   grind
  .simp only[St.new,ac b]at a;exact(h.qu l f n a).keep j (h.que_lt a) rfl rfl
theorem pC(h:Inv w g st){q e k k' kp:Nat}{o:cK}(J:(∀ ag ks Y,o≠.map ag ks Y)/\gL o=false)(j:blk g st q){o8 arr:Array Value}(B:w.heap[g.β q]?=some (.cells o8 e (0,0)))(hk:g.φ (g.β q)=some k)(R7:k<=k')
 (V1:∀ i,i<k->arr[i]?=o8[i]?) (hblk:∀ w',Ext w g w' (g.add (g.β q) k' kp false)->w'.heap[g.β q]?=some (.cells arr e (0,0))->
   (∀ p s n,o=.own p s n->n<=kp/\kp<=maxLen/\p=e/\arr.size=kp*s/\k'=n*s)/\
   (∀ p n,o=.que p n->p=e/\arr.size=kp / qM+kp % qM/\k'=kp / qM+n/\n<=kp % qM/\kp % qM<=maxLen)/\
   (∀ p s C,o=.box p s C->kp<=maxLen/\p=e/\arr.size=kp*s/\C.length<=arr.size/\aC w' (g.add (g.β q) k' kp false) C (arr.toList.take C.length)/\k'=0)):
 Inv (w.setRow (g.β q) arr) (g.add (g.β q) k' kp false) ((st.set q .dead).new o)/\Ext w g (w.setRow (g.β q) arr) (g.add (g.β q) k' kp false):=by
 have c:=h.z;have K:q<st.z:=by
  rcases dC q st.z with S|S
  .omega
  .unfold blk at j;rw[h.fresh q S]at j;grind
 have F:Ext w g (w.setRow (g.β q) arr) (g.add (g.β q) k' kp false):=
  BD B hk R7 V1 (fun x=>rfl) (rj _) (fun l a=>by simp[G.add,kg a]) (fun l a=>by simp[G.add,kg a]) (fun l a=>by simp[G.add,kg a])
 have j5:=setRow_heap w _ _ arr _ _ B;obtain⟨z8,hnq,Z⟩:=hblk _ F j5;have r:∀ l,l≠st.z->l≠q->((st.set q .dead).new o).H l=st.H l:=by intro l S h1;simp[St.new,St.set,S,h1]
 have y:((st.set q .dead).new o).H q=.dead:=by simp[St.new,St.set,kg K]
 have A:((st.set q .dead).new o).H st.z=o:=by simp[St.new,St.set]
 have I:∀ l,l≠st.z->blk (g.add (g.β q) k' kp false) ((st.set q .dead).new o) l->l≠q/\blk g st l:=by
  intro l b a;unfold blk at a ⊢;by_cases d:l=q
  .subst d;rw[y]at a;exact a.elim
  .rw[r l b d]at a;refine⟨d,?_⟩;cases K2:st.H l<;>simp only[K2]at a ⊢
   .simpa[G.add,c,b]using a
   .simpa[G.add,c,b]using a
   .simpa[G.add,c,b]using a
   .simpa[G.add,c,b]using a
 refine⟨⟨by simp[G.add,St.new,St.set,c],by simp[St.new],?_,?_,?_,?_,?_,?_,?_,h.aside.keep F fun x hx=>(oJ J.2 x hx).trans (jM rfl x (by rw[<- oJ J.2 x hx];omega))⟩,F⟩
 .intro l a;have U:st.z+1<=l:=a;rw[r l oO oO];exact h.fresh l oO
 .intro l a;rw[setRow_size];by_cases b:l=st.z
  .simp only[G.add,c,ad b];exact h.lt q j
  .simp only[G.add,c,ac b];exact h.lt l (I l b a).2
 .intro l N a U t;by_cases b:l=st.z<;>by_cases d:N=st.z
  .omega
  .obtain⟨L,M⟩:=I N d U;simp only[G.add,c,ad b,ac d]at t;exact absurd (h.inj q N j M t).symm L
  .obtain⟨L,M⟩:=I l b a;simp only[G.add,c,ad d,ac b]at t;exact absurd (h.inj l q M j t) L
  .simp only[G.add,c,ac d,ac b]at t;exact h.inj l N (I l b a).2 (I N d U).2 t
 .intro l p O m a;by_cases b:l=st.z
  .subst b;rw[A]at a;obtain⟨V,Q,rfl,W,R⟩:=z8 p O m a;simp only[G.add,c,ad];exact⟨V,Q,sS,fun _=>⟨arr,j5,W,by rw[R]⟩⟩
  .by_cases d:l=q
   .subst d;rw[y]at a;cases a
   .rw[r l b d]at a;obtain⟨L,M,k3,k4⟩:=h.own l p O m a;simp only[G.add,c,ac b];refine⟨L,M,k3,fun f=>?_⟩;obtain⟨X,z1,z2,z3⟩:=k4 f;have E:blk g st l:=by unfold blk;rw[a];exact f
    have v:g.β l≠g.β q:=fun D=>d (h.inj l q E j D);exact⟨X,by rw[setRow_other w _ _ _ v];omega,z2,by rw[ac v];omega⟩
 .intro l p O C a;by_cases b:l=st.z
  .subst b;rw[A]at a;obtain⟨V,rfl,Q,W,R,a5⟩:=Z p O C a;refine⟨by simp only[G.add,c,ad];omega,by simp[G.add,c],fun _=>⟨arr.toList,?_,?_,oO,R,?_⟩⟩
   .simp only[G.add,c,ad];omega
   .simp only[G.add,c,ad];omega
   .simp[G.add,c,a5]
  .by_cases d:l=q
   .subst d;rw[y]at a;cases a
   .rw[r l b d]at a;obtain⟨q1,q2,q3⟩:=h.box l p O C a;refine⟨by simp only[G.add,c,ac b];omega,by simp only[G.add,c,ac b];omega,fun f=>?_⟩;simp only[G.add,c,ac b]at f;obtain⟨X,z1,z2,z3,z4,z5⟩:=q3 f;have E:blk g st l:=by unfold blk;rw[a];exact f
    have v:g.β l≠g.β q:=fun D=>d (h.inj l q E j D);refine⟨X,?_,?_,z3,aC.mono F _ _ z4,?_⟩
    .simp only[G.add,c,ac b];rw[setRow_other w _ _ _ v];omega
    .simp only[G.add,c,ac b];omega
    .simp only[G.add,c,ac b,ac v];omega
 .intro l ag ks Y a;by_cases b:l=st.z
  .subst b;rw[A]at a;simp_all
  .by_cases d:l=q
   .subst d;rw[y]at a;cases a
   .rw[r l b d]at a;have v:g.β l≠g.β q:=fun D=>d (h.inj l q (h.map_blk a) j D);exact(h.mp l ag ks Y a).keep F (h.map_lt a) (setRow_other w _ _ _ v) (by simp only[G.add];rw[ac v])
 .intro l p n a;by_cases b:l=st.z
  .subst b;rw[A]at a;obtain⟨rfl,V,Q,W,R⟩:=hnq _ _ a;refine⟨by simp[G.add,c],⟨arr,by simp only[G.add,c,ad];omega,by simp only[G.add,c,ad];omega⟩,by simp[G.add,c,Q],by simp only[G.add,c,ad];omega⟩
  .by_cases d:l=q
   .subst d;rw[y]at a;cases a
   .rw[r l b d]at a;have v:g.β l≠g.β q:=fun D=>d (h.inj l q (h.que_blk a) j D);exact(h.qu l p n a).keep F (h.que_lt a) (setRow_other w _ _ _ v) (by simp only[G.add];rw[ac v])
theorem mJ(h:Inv w g st){q e k k':Nat}{o:cK}(d:((∀ ag y v,o≠.map ag y v)/\gL o=false)/\∀ e n,o≠.que e n)(j:blk g st q){p arr:Array Value}(c:w.heap[g.β q]?=some (.cells p e (0,0)))(x:g.φ (g.β q)=some k)(r:k<=k')
 (t:∀ i,i<k->arr[i]?=p[i]?) (hblk:∀ a,Ext w g a (g.add (g.β q) k' (g.κ q) false)->a.heap[g.β q]?=some (.cells arr e (0,0))->
   (∀ b s n,o=.own b s n->n<=g.κ q/\g.κ q<=maxLen/\b=e/\arr.size=g.κ q*s/\k'=n*s)/\
   (∀ b s f,o=.box b s f->g.κ q<=maxLen/\b=e/\arr.size=g.κ q*s/\f.length<=arr.size/\aC a (g.add (g.β q) k' (g.κ q) false) f (arr.toList.take f.length)/\k'=0)):
 Inv (w.setRow (g.β q) arr) (g.add (g.β q) k' (g.κ q) false) ((st.set q .dead).new o)/\Ext w g (w.setRow (g.β q) arr) (g.add (g.β q) k' (g.κ q) false):=
 pC h d.1 j c x r t fun a l m=>⟨(hblk a l m).1,fun e n h=>absurd h (d.2 e n),(hblk a l m).2⟩
theorem VT(a:List Value)(Z:Array Value):a.toArray++Z=(a++Z.toList).toArray:=by simp_all
theorem Az(a b:List Value)(Z:Array Value):a.toArray++b.toArray++Z=(a++b++Z.toList).toArray:=by simp_all
def Src(w:World)(g:G)(m:Nat)(a:List LV)(u:Value):Prop:=
 ∃ A c,u=.slice A m c/\(a≠[]->∃ b o d,A=some ⟨b,o,none⟩/\aC w g a d/\∀ j,j<a.length->w.cell? ⟨b,o+j,none⟩=d[j]?)
theorem Dp(I:Inv w g st){t m:Nat}{x:LV}{u:Value}{d:List LV}(a:JY T t st x=some (m,d))(v:Rep w g x u):Src w g m d u:=by
 have sl:∀ q,wQ x=some (q,m,d)->Src w g m d u:=by intro q J;have h:=pM J v;simp only[Rep]at h;obtain⟨A,c,rfl,_,_,_,s⟩:=h;refine⟨A,c,rfl,fun f=>?_⟩;obtain⟨b,o,rfl,p⟩:=s f;obtain⟨Q,y,B⟩:=gP _ _ p;exact⟨b,o,Q,rfl,y,B⟩
 cases x with
 |ms l o n=>
  simp only[JY]at a;cases F:dD T t with
  |none=>simp_all
  |some e=>
   cases K:T e with
   |none=>simp_all
   |some r=>
    cases z:st.H l with
    |box e' s' cs=>
     simp only[F,K,z,ap,fx]at a;obtain⟨rfl,rfl⟩:=a;simp only[Rep]at v;obtain⟨A,k,rfl,_,_,_,E,_⟩:=v;refine⟨A,k,rfl,fun f=>?_⟩;have C:n≠0:=by rintro rfl;simp at f
     obtain⟨_,W,N⟩:=I.box l e' s' cs z;cases O:g.nl l with
     |true=>grind
     |false=>
      obtain⟨M,y,B,S,L,U⟩:=N O;refine⟨g.β l,o,((M.take cs.length).drop o).take (n*r.size),E C,fP _ _ _ (iV _ _ _ L),fun j R=>?_⟩;rw[cell_of_row w _ _ _ _ _ y]
      grind
    |_=>simp_all
 |_=>simp only[JY,jp]at a;obtain⟨⟨q,V,D⟩,h1,h2⟩:=a;simp only[fx]at h2;obtain⟨rfl,rfl⟩:=h2;exact sl q h1
theorem zG(hT:aZ P T){t ty e n m cap:Nat}{d:bI}{q:List LV}{u:Value}{A:Option Addr}{olds:List Value}(hs:dD T t=some e)(S2:T e=some d)(hu:Src w g m q u)
 (c1:q.length=m*d.size) (c2:q.all jP=true) (Z:(n+m)*d.bytes<=140737488355328) (O:n+m<=maxLen) (c5:0<d.size) (R:olds.length=n*d.size)
 (hA:(n=0/\cap=0)\/∃ b o,A=some ⟨b,0,none⟩/\w.heap[b]?=some (.cells o e (0,0))/\o.size=cap*d.size/\n<=cap/\o.toList.take (n*d.size)=olds):
 ∃ K L f,(Builtin.append_ #[t,t] ty #[.slice A n cap,u]).run P w=.ok K L/\aC w g q f/\
  ((m=0/\K=.slice A n cap/\w=L)\/
   (∃ b o,0<m/\A=some ⟨b,0,none⟩/\w.heap[b]?=some (.cells o e (0,0))/\n+m<=cap/\K=.slice (some ⟨b,0,none⟩) (n+m) cap/\L=w.setRow b (olds++f++o.toList.drop ((n+m)*d.size)).toArray)\/
   (∃ C z,K=.slice (some ⟨w.heap.size,0,none⟩) (n+m) C/\L=w.drew.alloc (.cells (olds++f++z).toArray e)/\n+m<=C/\C<=maxLen/\(olds++f++z).length=C*d.size)):=by
 have y:=cZ hT hs;have X:=hT e d S2;obtain⟨i,s,I,Y,U⟩:=X.info;have V:d.zeroV.cells=d.zero.toArray:=dR X;obtain⟨A',c,rfl,S⟩:=hu;by_cases hm:m=0
 .subst hm;have Z6:q=[]:=gI oO;subst Z6;refine⟨.slice A n cap,w,[],?_,by grind [aC],.inl ⟨rfl,rfl,rfl⟩⟩;have E:n<=cap:=by
   rcases hA with⟨rfl,rfl⟩|⟨_,_,_,_,_,h,_⟩
   .omega
   .exact h
  cases A'<;>cases A<;>simp[Builtin.append_,run_underlying y,Go.sizeOf,typeInfo,s,Builtin.lenOf,Builtin.firstCells,loadCells,loadCellsFrom,E,storeCells]
 .have B:q≠[]:=by rintro rfl;have:0<m*d.size:=vo oO c5;simp at c1;omega
  obtain⟨x,H,f,rfl,r,k2⟩:=S B;have hlen:=aM _ _ r;have k:f.length=m*i.size:=by rw[I];omega
  have J:∀ j v,f[j]?=some v->w.cell? ((⟨x,H,none⟩:Addr).add j)=some v:=by intro j v F;have hj:j<f.length:=(xu.1 F).1;rw[add_lit,k2 j oO];exact F
  have N:∀ l,(olds++f++(Builtin.zeroCells d.zeroV.cells (grownCap w (n+m) l e-(n+m))).toList).length=grownCap w (n+m) l e*d.size:=by
   intro l;have hge:=grownCap_ge w (n+m) l e;have W:(Builtin.zeroCells d.zeroV.cells (grownCap w (n+m) l e-(n+m))).toList.length=(grownCap w (n+m) l e-(n+m))*d.size:=by rw[Array.length_toList,size_zeroCells,V];simp only[ik,X.zl]
   rw[cf,cf,W,R,k,I,<- lx,<- lx]
   congr 1;omega
  rcases hA with⟨rfl,rfl⟩|⟨b,o,rfl,Q,N5,E,C4⟩
  .have ho:olds=[]:=gI oO;subst ho;cases A with
   |none=>
    have p:=run_append_nil (P:=P) w t ty e i d.zeroV y s U ⟨x,H,none⟩ m c f k J oO (by grind [maxLen]) (by grind);refine⟨_,_,f,p,r,.inr (.inr ⟨grownCap w (0+m) 0 e,(Builtin.zeroCells d.zeroV.cells (grownCap w (0+m) 0 e-(0+m))).toList,sS,?_,grownCap_ge w _ 0 e,grownCap_le_maxLen w _ 0 e O,N 0⟩)⟩
    grind [VT]
   |some a=>have p:=run_append_grow (P:=P) w t ty e i d.zeroV y s U a 0 0 [] sS sS ⟨x,H,none⟩ m c f k J oO (by grind [maxLen]) (by rw[Y];exact growslice_fits oO Z);refine⟨_,_,f,p,r,.inr (.inr ⟨grownCap w (0+m) 0 e,(Builtin.zeroCells d.zeroV.cells (grownCap w (0+m) 0 e-(0+m))).toList,rfl,?_,grownCap_ge w _ 0 e,grownCap_le_maxLen w _ 0 e O,N 0⟩)⟩;rw[Az]
  .by_cases M:n+m<=cap
   .have hns:n*i.size=olds.length:=by rw[I];omega
    have D:n*i.size+f.length<=o.size:=by rw[k,N5,I,<- lx];exact sn _ M
    have p:=run_append_room (P:=P) w t ty e i y s b n cap o Q ⟨x,H,none⟩ m c f k J (oM _ _ c2 r) M D;refine⟨_,_,f,p,r,.inr (.inl ⟨b,o,oO,rfl,Q,M,rfl,?_⟩)⟩
    grind
   .have holds:∀ j v,olds[j]?=some v->w.cell? ((⟨b,0,none⟩:Addr).add j)=some v:=by
     intro j v F;rw[add_lit,jd,cell_of_row w _ _ _ _ _ Q,<- ny];rw[<- C4,mi]at F
     split at F
     .omega
     .grind
    have p:=run_append_grow (P:=P) w t ty e i d.zeroV y s U ⟨b,0,none⟩ n cap olds (by grind) holds ⟨x,H,none⟩ m c f k J oO (by grind [maxLen]) (by rw[Y];exact growslice_fits oO Z);refine⟨_,_,f,p,r,.inr (.inr ⟨grownCap w (n+m) cap e,(Builtin.zeroCells d.zeroV.cells (grownCap w (n+m) cap e-(n+m))).toList,rfl,?_,grownCap_ge w _ cap e,grownCap_le_maxLen w _ cap e O,N cap⟩)⟩;rw[Az]
theorem Lj(l:Inv w g st){e s N C:Nat}{b:List LV}{a z:List Value}(o:aC w g b a)(r:b.length=N*s)(h:N<=C)(n:C<=maxLen)(t:(a++z).length=C*s):
 Rep (w.drew.alloc (.cells (a++z).toArray e)) (g.add w.heap.size (N*s) C false) (.sl st.z N b) (.slice (some ⟨w.heap.size,0,none⟩) N C)/\
 Inv (w.drew.alloc (.cells (a++z).toArray e)) (g.add w.heap.size (N*s) C false) (st.new (.own e s N))/\Ext w g (w.drew.alloc (.cells (a++z).toArray e)) (g.add w.heap.size (N*s) C false):=by
 have d:w.drew.heap.size=w.heap.size:=rfl;have f:=FG l.drew e s N C (a++z).toArray oO h n;have c:=(eC w g).trans (dN w.drew g (.cells (a++z).toArray e) (N*s) C false);rw[d]at f c;have m:=aM _ _ o;refine⟨?_,f,c⟩;simp only[Rep];refine⟨_,_,rfl,h,⟨n,sS⟩,fun _=>by simp[G.add,l.z],fun _=>⟨w.heap.size,0,rfl,iN b a 0 (aC.mono c _ _ o) (fun j p=>?_) (fun j p=>?_)⟩⟩
 .rw[cell_of_row _ w.heap.size _ _ _ _ (heap_alloc_new w.drew _),jd,od,jv oO]
 .intro k q;simp[G.add]at q;omega
theorem FE(c:Inv w g st){e s N C:Nat}{d:List LV}{a z:List Value}(l:aC w g d a)(m:N<=C)(k:C<=maxLen)(n:(a++z).length=C*s):
 Rep (w.drew.alloc (.cells (a++z).toArray e)) (g.add w.heap.size 0 C false) (.ms st.z 0 N) (.slice (some ⟨w.heap.size,0,none⟩) N C)/\
 Inv (w.drew.alloc (.cells (a++z).toArray e)) (g.add w.heap.size 0 C false) (st.new (.box e s d))/\Ext w g (w.drew.alloc (.cells (a++z).toArray e)) (g.add w.heap.size 0 C false):=by
 have f:w.drew.heap.size=w.heap.size:=rfl;have b:=aM _ _ l
 have j:=uV c.drew e s C (cs:=d) (vs:=a++z) n k (by grind) (by
  rw[b,rf];exact aC.mono (eC w g) _ _ l)
 have h:=(eC w g).trans (dN w.drew g (.cells (a++z).toArray e) 0 C false);rw[f]at j h;refine⟨?_,j,h⟩;simp only[Rep];exact⟨_,_,rfl,m,k,by simp[G.add,c.z],by simp[G.add,c.z],by simp[G.add,c.z]⟩
theorem tL(c:Inv w g st)(k:Nat){l e s:Nat}{f:List LV}(p:st.H l=.box e s f):Inv w g (st.set l (.box e s (f.take k))):=by
 have j:∀ x,blk g (st.set l (.box e s (f.take k))) x↔blk g st x:=by
  intro x;unfold blk;simp only[St.set];by_cases a:x=l
  .simp_all
  .simp_all
 have dF:l<st.z:=Bq c p sS;refine⟨c.z,c.pos,?_,fun x a=>c.lt x ((j x).1 a),fun x y a t=>c.inj x y ((j x).1 a) ((j y).1 t),?_,?_,?_,?_,c.aside.keep (Ext.refl w g) (jM rfl)⟩
 .intro x a;simp only[St.set]at a ⊢;rw[ac oO];exact c.fresh x a
 .intro x d o n a;by_cases b:x=l
  .simp[St.set,b]at a
  .simp only[St.set,ac b]at a;exact c.own x d o n a
 .intro x d o h a;by_cases b:x=l
  .simp only[St.set,ad b]at a;injection a with r h2 h3;subst r h2 h3 b;obtain⟨F,I,J⟩:=c.box x e s f p;refine⟨F,fun m=>⟨(I m).1,by grind⟩,fun m=>?_⟩;obtain⟨E,v,A,K,B,C⟩:=J m;refine⟨E,v,A,by grind,?_,C⟩;have:=fP k _ _ B
   grind
  .simp only[St.set,ac b]at a;exact c.box x d o h a
 .intro x ag D q a;by_cases b:x=l
  .simp[St.set,b]at a
  .simp only[St.set,ac b]at a;exact c.mp x ag D q a
 .intro x d n a;by_cases b:x=l
  .simp[St.set,b]at a
  .simp only[St.set,ac b]at a;exact c.qu x d n a
theorem DJ(hT:aZ P T)(d:Inv w g st){t ty p l n m:Nat}{a:bI}{cs r:List LV}{v u:Value}(hs:dD T t=some p)(S2:T p=some a)(hu':Src w g m r u)(hH:st.H l=.box p a.size cs)
 (d0:cs.length=n*a.size) (Q:r.length=m*a.size) (c2:r.all jP=true) (c3:(n+m)*a.bytes<=140737488355328) (c4:n+m<=maxLen) (c5:0<a.size) (h:Rep w g (.ms l 0 n) v):
 ∃ v' x S,(Builtin.append_ #[t,t] ty #[v,u]).run P w=.ok v' x/\Rep x S (.ms st.z 0 (n+m)) v'/\Inv x S ((st.set l .dead).new (.box p a.size (cs++r)))/\Ext w g x S:=by
 simp only[Rep]at h;obtain⟨A,cap,rfl,f,W,y,hA',Y⟩:=h;obtain⟨rfl,hA⟩:=y trivial;clear y;have q:l<st.z:=by rw[<- d.z];exact Y
 obtain⟨o2,o3,o4⟩:=d.box l _ _ _ hH;have O:∃ c:List Value,aC w g cs c/\((n=0/\g.κ l=0)\/∃ b s,A=some ⟨b,0,none⟩/\w.heap[b]?=some (.cells s p (0,0))/\s.size=g.κ l*a.size/\n<=g.κ l/\s.toList.take (n*a.size)=c):=by
  cases k:g.nl l with
  |true=>obtain⟨M,rfl⟩:=o3 k;exact⟨[],by grind [aC],.inl ⟨oO,M⟩⟩
  |false=>
   grind
 obtain⟨c,E,O⟩:=O;have Z:c.length=n*a.size:=by rw[<- aM _ _ E];exact d0
 obtain⟨v',x,vs,L,F,K1⟩:=zG (ty:=ty) hT hs S2 hu' Q c2 c3 c4 c5 Z O;have hvl:vs.length=m*a.size:=by rw[<- aM _ _ F];exact Q
 have D:=cI _ _ _ _ E F;have hNl:(cs++r).length=(n+m)*a.size:=by rw[cf,d0,Q,lx]
 have hmul:=lx n m a.size;rcases K1 with⟨rfl,rfl,rfl⟩|⟨b,s,P4,rfl,K,N6,rfl,rfl⟩|⟨C,z,rfl,rfl,hC,V,hl⟩
 .have Z6:r=[]:=gI oO;subst Z6;cases k:g.nl l with
  |true=>obtain⟨M,rfl⟩:=o3 k;refine⟨_,_,g.addNil,L,?_,jF (d.drop l q) _ (.inr ⟨_,_,rfl⟩),ext_nil _ g⟩;simp only[Rep];exact⟨_,_,rfl,f,o2,by simp[G.addNil,d.z,M],oO,by simp[G.addNil,d.z]⟩
  |false=>
   obtain⟨s,I,p2,p4,p5,p6⟩:=o4 k;obtain rfl:=hA k
   have C4:=mJ (o:=.box p a.size (cs++[])) (k':=0) (arr:=s.toArray) d sS (by unfold blk;simp_all) I p6 (au _) (fun _ _=>rfl)
    (fun x hx _=>⟨(fun R s1 n1 U=>by grind),fun R s1 n1 U=>by
      grind [aC.mono]⟩)
   rw[setRow_self w _ _ _ _ I]at C4;refine⟨_,_,_,L,?_,C4.1,C4.2⟩;simp only[Rep];exact⟨_,_,rfl,f,o2,by simp[G.add,d.z],by simp[G.add,d.z],by simp[G.add,d.z]⟩
 .have k:g.nl l=false:=by
   cases k:g.nl l with
   |false=>rfl
   |true=>
    grind
  obtain⟨J,I,p2,p4,p5,p6⟩:=o4 k;have B:=hA k;simp only[ap,Addr.mk.injEq]at B;obtain⟨rfl,_⟩:=B;have X:J.toArray=s:=by rw[I]at K;injection K with K;injection K
  subst X;have U8:(n+m)*a.size<=J.length:=by rw[p2];exact sn _ N6
  have harr:(c++vs++J.drop ((n+m)*a.size)).length=g.κ l*a.size:=by rw[<- p2];simp only[cf,gk];omega
  have C4:=mJ (o:=.box p a.size (cs++r)) (k':=0) (arr:=(c++vs++J.drop ((n+m)*a.size)).toArray) d sS (by unfold blk;simp_all) I p6 (au _)
   (fun j hj=>absurd hj (tj _))
   (fun x hx _=>⟨(fun R s1 n1 U=>by grind),fun R s1 n1 U=>by
     grind [aC.mono]⟩)
  refine⟨_,_,_,L,?_,C4.1,C4.2⟩;simp only[Rep];exact⟨_,_,rfl,N6,o2,by simp[G.add,d.z],by simp[G.add,d.z],by simp[G.add,d.z]⟩
 .have:=FE (e:=p) (N:=n+m) (d.drop l q) D hC V hl;exact⟨_,_,_,L,this⟩
theorem vZ(w:World)(t x e:TypeId)(i:TypeInfo)(v:P.underlying t=some (.slice e))(r:P.info? e=some i)(b off d f:Nat)(h:Array Value)(q:w.heap[b]?=some (.cells h e (0,0)))
 (a:Addr) (m c:Nat) (news:List Value) (s:news.length=m*i.size) (o:∀ j u,news[j]?=some u->w.cell? (a.add j)=some u) (p:∀ u∈news,u.oneCell'=true) (n:d+m<=f) (l:off+d*i.size+news.length<=h.size):
 (Builtin.append_ #[t,t] x #[.slice (some ⟨b,off,none⟩) d f,.slice (some a) m c]).run P w=
   .ok (.slice (some ⟨b,off,none⟩) (d+m) f) (w.setRow b (h.toList.take (off+d*i.size)++news++h.toList.drop (off+d*i.size+news.length)).toArray):=by
 have hf:=run_firstCells_some (P:=P) w i.size m a m c news s o;have k:=run_storeCells_at P b (off+d*i.size) e news 0 h w q oO p;simp only[Nat.add_zero]at k;simp[Builtin.append_,run_underlying v,sizeOf,typeInfo,r,Builtin.lenOf,n,hf,Addr.add_lit,k]
theorem Pu(K:aZ P T){t ty e n m a:Nat}{f:bI}{p:List LV}{u:Value}{A:Option Addr}{d:List Value}(hs:dD T t=some e)(X:T e=some f)(hu:Src w g m p u)
 (H:f.size=1) (c1:p.length=m) (Z:p.all jP=true) (c3:(n+m)*f.bytes<=140737488355328) (c4:n+m<=maxLen) (O:d.length=n)
 (J:(n=0/\a=0)\/∃ b o k,A=some ⟨b,o,none⟩/\w.heap[b]?=some (.cells k e (0,0))/\k.size=o+a/\n<=a/\(k.toList.drop o).take n=d):
 ∃ q r h,(Builtin.append_ #[t,t] ty #[.slice A n a,u]).run P w=.ok q r/\aC w g p h/\
  ((m=0/\q=.slice A n a/\w=r)\/
   (∃ b o k,0<m/\A=some ⟨b,o,none⟩/\w.heap[b]?=some (.cells k e (0,0))/\n+m<=a/\q=.slice (some ⟨b,o,none⟩) (n+m) a/\r=w.setRow b (k.toList.take (o+n)++h++k.toList.drop (o+n+m)).toArray)\/
   (∃ C z,q=.slice (some ⟨w.heap.size,0,none⟩) (n+m) C/\r=w.drew.alloc (.cells (d++h++z).toArray e)/\n+m<=C/\C<=maxLen/\(d++h++z).length=C)):=by
 rcases J with J|⟨b,o,k,rfl,L,N5,N,C4⟩
 .obtain⟨q,r,h,h1,h2,I⟩:=zG (ty:=ty) (A:=A) (olds:=d) K hs X hu (by grind) Z c3 c4 oO (by grind) (.inl J);refine⟨q,r,h,h1,h2,?_⟩;rcases I with I|⟨_,_,hm,_,_,I,_⟩|⟨C,z,y,k2,k3,k4,k5⟩
  .grind
  .omega
  grind
 have M:=cZ K hs;have U:=K e f X;obtain⟨i,D,E,Y2,hz⟩:=U.info;have R:f.zeroV.cells=f.zero.toArray:=dR U;obtain⟨A',c,rfl,Q⟩:=hu;by_cases hm:m=0
 .subst hm;have Z6:p=[]:=gI oO;subst Z6;refine⟨_,w,[],?_,by grind [aC],.inl ⟨rfl,rfl,rfl⟩⟩;cases A'<;>simp[Builtin.append_,run_underlying M,Go.sizeOf,typeInfo,D,Builtin.lenOf,Builtin.firstCells,loadCells,loadCellsFrom,N,storeCells]
 have s:p≠[]:=by rintro rfl;simp at c1;omega
 obtain⟨F,V,h,rfl,y,k2⟩:=Q s;have hlen:=aM _ _ y;have l:h.length=m*i.size:=by rw[E,H];omega
 have Y:∀ j v,h[j]?=some v->w.cell? ((⟨F,V,none⟩:Addr).add j)=some v:=by intro j v x;have hj:j<h.length:=(xu.1 x).1;rw[add_lit,k2 j oO];exact x
 by_cases W:n+m<=a
 .have B:=vZ (P:=P) w t ty e i M D b o n a k L ⟨F,V,none⟩ m c h l Y (oM _ _ Z y) W (by grind);rw[l,E,H,ph,ph]at B;exact⟨_,_,h,B,y,.inr (.inl ⟨b,o,k,oO,rfl,L,W,rfl,rfl⟩)⟩
 .have holds:∀ j v,d[j]?=some v->w.cell? ((⟨b,o,none⟩:Addr).add j)=some v:=by
   intro j v x;rw[add_lit,cell_of_row w _ _ _ _ _ L,<- ny];rw[<- C4,mi]at x
   split at x
   .grind
   .grind
  have U6:(d++h++(Builtin.zeroCells f.zeroV.cells (grownCap w (n+m) a e-(n+m))).toList).length=grownCap w (n+m) a e:=by
   have hge:=grownCap_ge w (n+m) a e;have S:(Builtin.zeroCells f.zeroV.cells (grownCap w (n+m) a e-(n+m))).toList.length=(grownCap w (n+m) a e-(n+m))*f.size:=by rw[Array.length_toList,size_zeroCells,R];simp only[ik,U.zl]
   rw[cf,cf,S,O,l,E,H];omega
  have B:=run_append_grow (P:=P) w t ty e i f.zeroV M D hz ⟨b,o,none⟩ n a d (by grind) holds ⟨F,V,none⟩ m c h l Y oO (by grind [maxLen]) (by rw[Y2];exact growslice_fits oO c3);refine⟨_,_,h,B,y,.inr (.inr ⟨grownCap w (n+m) a e,(Builtin.zeroCells f.zeroV.cells (grownCap w (n+m) a e-(n+m))).toList,rfl,?_,grownCap_ge w _ a e,grownCap_le_maxLen w _ a e c4,U6⟩)⟩;rw[Az]
theorem Kb{C:Nat}(h:C<=maxLen):C / qM=0/\C % qM=C:=by
 grind [qM,maxLen]
theorem VH(o:Nat){C:Nat}(h:C<=maxLen):(o*qM+C) / qM=o/\(o*qM+C) % qM=C:=by
 have:C<qM:=by simp only[maxLen,qM]at *;omega
 grind [Nat.mul_comm,Nat.mul_add_div,Nat.div_eq_of_lt,Nat.mul_add_mod,Nat.mod_eq_of_lt]
theorem EK(h:Inv w g st){t e n:Nat}(m:st.H t=.own e 1 n)(o:g.nl t=false):Inv w g (st.set t (.que e n)):=by
 obtain⟨D,v,E,A⟩:=h.own t e 1 n m;obtain⟨B,C,F,I⟩:=A o;obtain⟨J,K⟩:=Kb v;have f:∀ x,blk g (st.set t (.que e n)) x↔blk g st x:=by
  intro x;unfold blk;simp only[St.set];by_cases a:x=t
  .simp_all
  .simp_all
 have dF:t<st.z:=by
  rcases dC t st.z with l|l
  .omega
  .rw[h.fresh t l]at m;grind
 refine⟨h.z,h.pos,?_,fun x a=>h.lt x ((f x).1 a),fun x y a r=>h.inj x y ((f x).1 a) ((f y).1 r),?_,?_,?_,?_,h.aside.keep (Ext.refl w g) (jM rfl)⟩
 .intro x a;simp only[St.set]at a ⊢;rw[ac oO];exact h.fresh x a
 .intro x c k j a;by_cases b:x=t
  .simp[St.set,b]at a
  .simp only[St.set,ac b]at a;exact h.own x c k j a
 .intro x c k d a;by_cases b:x=t
  .simp[St.set,b]at a
  .simp only[St.set,ac b]at a;exact h.box x c k d a
 .intro x ag s p a;by_cases b:x=t
  .simp[St.set,b]at a
  .simp only[St.set,ac b]at a;exact h.mp x ag s p a
 .intro x c j a;by_cases b:x=t
  .simp only[St.set,ad b]at a;injection a with q h2;subst q h2 b;exact⟨o,⟨B,C,oO⟩,by grind,oO⟩
  .simp only[St.set,ac b]at a;exact h.qu x c j a
theorem Nz(hT:aZ P T)(f:Inv w g st){t ty p q o n m:Nat}{M:bI}{S U:List LV}{v u:Value}(hs:dD T t=some p)(S2:T p=some M)(hu':Src w g m U u)(hH:st.H q=.que p (o+n))
 (c0:M.size=1) (d0:S.length=n) (c1:U.length=m) (c2:U.all jP=true) (c3:(n+m)*M.bytes<=140737488355328) (c4:n+m<=maxLen) (h:Rep w g (.qu q o n S) v):
 ∃ v' N g',(Builtin.append_ #[t,t] ty #[v,u]).run P w=.ok v' N/\Rep N g' (.qu st.z 0 (n+m) (S++U)) v'/\Inv N g' ((st.set q .dead).new (.que p (n+m)))/\Ext w g N g':=by
 simp only[Rep]at h;obtain⟨A,c,rfl,J,d,U5,hoc,hA,y⟩:=h;have Z:q<st.z:=by rw[<- f.z];exact U5
 obtain⟨v8,⟨l,R,p2⟩,p3,p4,p5⟩:=f.qu q _ _ hH;generalize hK:g.κ q / qM=O at *;generalize hC:g.κ q % qM=K at *;have Q0:∃ a:List Value,aC w g S a/\((n=0/\c=0)\/∃ b Q l,A=some ⟨b,Q,none⟩/\w.heap[b]?=some (.cells l p (0,0))/\l.size=Q+c/\n<=c/\(l.toList.drop Q).take n=a):=by
  by_cases F:c=0
  .have Z3:n=0:=oO
   grind [aC]
  .obtain rfl:=hA F;refine⟨(l.toList.drop (O+o)).take n,?_,.inr ⟨_,_,l,rfl,R,oO,J,rfl⟩⟩;by_cases N5:S=[]
   .grind [aC]
   .obtain⟨b,Q,s,hrr⟩:=y N5;simp only[ap,Addr.mk.injEq]at s;obtain⟨rfl,rfl,_⟩:=s;obtain⟨B,k1,k2⟩:=gP _ _ hrr;have hl:=aM _ _ k1;have:(l.toList.drop (O+o)).take n=B:=by
     apply og;intro j;rw[mi]
     split
     .grind [cell_of_row]
     .grind
    grind
 obtain⟨a,X,Q0⟩:=Q0;have hol:a.length=n:=by rw[<- aM _ _ X];exact d0
 obtain⟨v',N,B,r9,hvs,K1⟩:=Pu (ty:=ty) hT hs S2 hu' c0 c1 c2 c3 c4 hol Q0;have hvl:B.length=m:=by rw[<- aM _ _ hvs];exact c1
 have D:=cI _ _ _ _ X hvs;have Y:blk g st q:=by unfold blk;rw[hH];exact v8
 obtain⟨qa,qb⟩:=VH (O+o) d;rcases K1 with⟨hm0,rfl,rfl⟩|⟨b,Q,P7,P4,rfl,hb,N6,rfl,rfl⟩|⟨C,z,rfl,rfl,W,E,hl⟩
 .have Z6:U=[]:=gI oO;subst Z6
  have C4:=pC (o:=.que p (n+m)) (k':=O+o+(n+m)) (kp:=(O+o)*qM+c) (arr:=l) f sS Y R p3 oO (fun _ _=>rfl)
   (fun N hx _=>⟨(fun V s1 n1 r=>by grind),(fun V n1 r=>by injection r with r h2;omega),fun V s1 n1 r=>by grind⟩)
  rw[setRow_self w _ _ _ _ R]at C4;refine⟨_,_,_,r9,?_,C4.1,C4.2⟩;simp only[Rep];refine⟨A,c,by grind,oO,d,by simp[G.add,f.z],?_,fun h0=>?_,fun c7=>?_⟩
  .simp only[G.add,f.z,ad,qb,jd]
  .simp only[G.add,f.z,ad,qa,Nat.add_zero];grind
  grind [aP.mono]
 .have F:c≠0:=oO;have s:=hA F;simp only[ap,Addr.mk.injEq]at s;obtain⟨rfl,rfl,_⟩:=s;have hcc:l=P7:=by rw[R]at hb;injection hb with hb;injection hb
  subst hcc;have r8:l.toList.length=O+o+c:=by rw[Array.length_toList];omega
  have hlen:(l.toList.take (O+o+n)++B++l.toList.drop (O+o+n+m)).length=O+o+c:=by rw[cf,cf,dn,gk];omega
  have C4:=pC (o:=.que p (n+m)) (k':=O+o+(n+m)) (kp:=(O+o)*qM+c) (arr:=(l.toList.take (O+o+n)++B++l.toList.drop (O+o+n+m)).toArray) f sS Y R p3 oO
   (fun j I=>by
     rw[od,dz,jv (by rw[dn];omega),mi,ad oO,ny])
   (fun N hx _=>⟨(fun V s1 n1 r=>by grind),(fun V n1 r=>by injection r with r h2;subst r h2;rw[qa,qb];grind),fun V s1 n1 r=>by grind⟩)
  refine⟨_,_,_,r9,?_,C4.1,C4.2⟩;simp only[Rep];refine⟨_,c,rfl,N6,d,by simp[G.add,f.z],?_,fun h0=>?_,fun c7=>?_⟩
  .simp only[G.add,f.z,ad,qb,jd]
  .simp only[G.add,f.z,ad,qa,Nat.add_zero]
  .refine⟨_,_,rfl,iN _ (a++B) _ (aC.mono C4.2 _ _ D) (fun j I=>?_) (fun j I=>?_)⟩
   .have hj':j<n+m:=by rw[cf]at I;omega
    have L:(l.toList.drop (O+o)).take n=a:=by
     rcases Q0 with⟨_,h0⟩|⟨b,Q,cur2,r,h2,_,_,h5⟩
     .omega
     .grind
    rw[cell_of_row _ _ _ _ _ _ (setRow_heap w _ _ _ _ _ R),od,dz];by_cases hjn:j<n
    .rw[jv (by rw[dn];omega),mi,ad oO,jv oO,<- L,mi,ad hjn,sx]
    .rw[mw (by rw[dn];omega),dn,ti oO,jv oO,mw oO]
     congr 1
     omega
   .intro k hk;simp[G.add]at hk
    grind
 .obtain⟨r1,r2⟩:=Kb E;have dF:w.heap.size<=w.drew.heap.size:=au _;have hi1:=f.drop q Z;have hdz:w.drew.heap.size=w.heap.size:=rfl;have W8:=FG hi1.drew p 1 (n+m) C (a++B++z).toArray (by grind) W E;have O3:=(eC w g).trans (dN w.drew g (.cells (a++B++z).toArray p) ((n+m)*1) C false);rw[hdz]at W8 O3;have N9:=EK W8 (t:=st.z) (e:=p) (n:=n+m) (by simp[St.new,St.set]) (by simp[G.add,f.z]);have K2:((st.set q .dead).new (.own p 1 (n+m))).set st.z (.que p (n+m))=(st.set q .dead).new (.que p (n+m)):=by
   unfold St.set St.new
   congr 1
   funext x
   by_cases hx:x=st.z
   .grind
   .grind
  rw[K2]at N9;refine⟨_,_,_,r9,?_,N9,O3⟩;simp only[Rep];refine⟨_,C,rfl,W,E,by simp[G.add,f.z],by simp[G.add,f.z,r2],fun _=>by simp[G.add,f.z,r1],fun _=>⟨w.heap.size,0,rfl,iN _ (a++B) 0 (aC.mono O3 _ _ D) (fun j I=>?_) (fun j I=>?_)⟩⟩
  .rw[cf]at I;rw[cell_of_row _ w.heap.size _ _ _ _ (heap_alloc_new w.drew _),jd,od,jv (by grind)]
  .intro k hk;rw[cf]at I;simp[G.add]at hk;omega
theorem Bf(M:aZ P T)(h:Inv w g st){O:Bool}{t D e m:Nat}{u:Value}{f:List LV}{a:bI}{r:bS}(A:Option Addr)(N:dD T t=some e)(I:T e=some a)(y:Src w g m f u)
 (d:(if O then some ⟨f.length=m*a.size/\f.all jP=true/\m*a.bytes<=140737488355328/\m<=maxLen/\0<a.size,.ms st.z 0 m,st.new (.box e a.size f)⟩
   else some ⟨f.length=m*a.size/\f.all jP=true/\m*a.bytes<=140737488355328/\m<=maxLen/\0<a.size,.sl st.z m f,st.new (.own e a.size m)⟩:Option bS)=some r) (V:r.c):
 ∃ E l o,(Builtin.append_ #[t,t] D #[.slice A 0 0,u]).run P w=.ok E l/\Rep l o r.v E/\Inv l o r.s/\Ext w g l o:=by
 have q:f.length=m*a.size/\f.all jP=true/\m*a.bytes<=140737488355328/\m<=maxLen/\0<a.size:=by
  split at d<;>(grind)
 obtain⟨F,K,R,S,L⟩:=q;obtain⟨E,l,X,B,k,H⟩:=zG (ty:=D) (n:=0) (cap:=0) (A:=A) (olds:=[]) M N I y F K (by grind) oO L sS (.inl ⟨rfl,rfl⟩);rcases H with⟨rfl,rfl,rfl⟩|⟨b,W,Q,_,_,U,_⟩|⟨C,z,rfl,rfl,p,j,x⟩
 .have J:f=[]:=gI oO;subst J
  split at d
  .simp only[ap]at d;subst d;refine⟨_,_,g.addNil,B,?_,jF h _ (.inr ⟨_,_,rfl⟩),ext_nil _ g⟩;simp only[Rep];exact⟨_,_,rfl,au _,je _,by simp[G.addNil,h.z],sS,by simp[G.addNil,h.z]⟩
  .simp only[ap]at d;subst d;refine⟨_,_,g.addNil,B,?_,jF h _ (.inl ⟨_,_,rfl⟩),ext_nil _ g⟩;simp only[Rep];exact⟨_,_,rfl,au _,⟨je _,fun _=>rfl⟩,by simp[G.addNil,h.z],sS⟩
 .omega
 .simp only[jd,List.nil_append]at B p x
  split at d
  .simp only[ap]at d;subst d;have:=FE (e:=e) h k p j x
   grind
  .simp only[ap]at d;subst d;have:=Lj (e:=e) h k F p j x
   grind
theorem Ut{l n c:Nat}{v:Value}(h:Rep w g (.kap l n c) v):Rep w g (.ms l 0 n) v:=by
 grind [Rep]
theorem Ei(Z:aZ P T)(p:Inv w g st){md:Bool}{t ty:TypeId}{s x:LV}{v u:Value}{r:bS}(B:AE T md t s x st=some r)(hc:r.c)(h:Rep w g s v)(hu:Rep w g x u):
 ∃ v' W g',(Builtin.append_ #[t,t] ty #[v,u]).run P w=.ok v' W/\Rep W g' r.v v'/\Inv W g' r.s/\Ext w g W g':=by
 unfold AE at B
 split at B
 .rename_i e m ds hs hx
  split at B
  .rename_i a X;have D:=Dp p hx hu
   split at B
   .simp only[Rep]at h;subst h;exact Bf Z p none hs X D B hc
   .simp only[Rep]at h;obtain⟨A,rfl⟩:=h;exact Bf Z p A hs X D B hc
   .rename_i q n f;cases E:st.H q with
    |own e' s' n'=>
     simp only[E,ap]at B;subst B;obtain⟨rfl,rfl,rfl,Y,hq0,L,R,S,U,c5⟩:=hc;simp only[Rep]at h;obtain⟨A,cap,rfl,hncap,hcapm,htok,y⟩:=h;obtain⟨hA,rfl,U5⟩:=htok hq0;have O:q<st.z:=by rw[<- p.z];exact U5
     obtain⟨o1,o2,o3,o4⟩:=p.own q _ _ _ E;have Q0:∃ d:List Value,aC w g f d/\((n'=0/\g.κ q=0)\/∃ b J,A=some ⟨b,0,none⟩/\w.heap[b]?=some (.cells J e' (0,0))/\J.size=g.κ q*a.size/\n'<=g.κ q/\J.toList.take (n' * a.size)=d):=by
      cases K:g.nl q with
      |true=>have P3:=o3 K;have Z3:n'=0:=oO;subst Z3;have N5:f=[]:=gI oO;subst N5;exact⟨[],by grind [aC],.inl ⟨rfl,P3⟩⟩
      |false=>
       obtain⟨J,Q,p2,p3⟩:=o4 K;obtain rfl:=hA K;refine⟨J.toList.take (n' * a.size),?_,.inr ⟨_,J,rfl,Q,p2,o1,rfl⟩⟩;by_cases N5:f=[]
       .grind [aC]
       .obtain⟨b,o,hbo,hrr⟩:=y N5;simp only[ap,Addr.mk.injEq]at hbo;obtain⟨rfl,rfl,_⟩:=hbo;obtain⟨vs,k1,k2⟩:=gP _ _ hrr;have hl:=aM _ _ k1;have:J.toList.take (n' * a.size)=vs:=by
         apply og;intro j;by_cases hj:j<f.length
         .grind [cell_of_row]
         .grind
        grind
     obtain⟨d,ho1,Q0⟩:=Q0;have hol:d.length=n' * a.size:=by rw[<- aM _ _ ho1];exact Y
     obtain⟨v',W,vs,r9,hvs,K1⟩:=zG (ty:=ty) Z hs X D L R S U c5 hol Q0;have hvl:vs.length=m*a.size:=by rw[<- aM _ _ hvs];exact L
     have N:=cI _ _ _ _ ho1 hvs;have hNl:(f++ds).length=(n'+m)*a.size:=by rw[cf,Y,L,lx]
     rcases K1 with⟨rfl,rfl,rfl⟩|⟨b,J,P4,rfl,hb,N6,rfl,rfl⟩|⟨C,z,rfl,rfl,hC,hCm,hl⟩
     .have Z6:ds=[]:=gI oO;subst Z6;cases K:g.nl q with
      |true=>have P3:=o3 K;have Z3:n'=0:=oO;subst Z3;have N5:f=[]:=gI oO;subst N5;refine⟨_,_,g.addNil,r9,?_,jF (p.drop q O) _ (.inl ⟨_,_,rfl⟩),ext_nil _ g⟩;simp only[Rep];exact⟨_,_,rfl,o1,⟨o2,fun _=>P3⟩,by simp[G.addNil,p.z,P3],sS⟩
      |false=>
       obtain⟨J,Q,p2,p3⟩:=o4 K;obtain rfl:=hA K
       have C4:=mJ (o:=.own e' a.size n') (k':=n' * a.size) (arr:=J) p sS (by unfold blk;simp_all) Q p3 (au _) (fun _ _=>rfl)
        (fun W _ _=>⟨fun e1 s1 n1 M=>by grind,fun e1 s1 n1 M=>by grind⟩)
       rw[setRow_self w _ _ _ _ Q]at C4;refine⟨_,_,_,r9,?_,C4.1,C4.2⟩;have J5:Rep w g (.sl q n' f) (.slice (some ⟨g.β q,0,none⟩) n' (g.κ q)):=by simp only[Rep];exact⟨_,_,rfl,o1,⟨o2,sS⟩,fun _=>⟨fun _=>rfl,rfl,U5⟩,y⟩
       have F:=Rep.mono C4.2 _ _ J5;simp only[Rep]at F ⊢;obtain⟨A2,cap2,M,h2,h3,_,h5⟩:=F;refine⟨A2,cap2,M,h2,h3,fun _=>?_,by grind⟩;injection M with M _ h1';subst M h1';simp[G.add,p.z]
     .have K:g.nl q=false:=by
       cases K:g.nl q with
       |false=>rfl
       |true=>
        grind
      obtain⟨P7,Q,p2,p3⟩:=o4 K;have hbq:=hA K;simp only[ap,Addr.mk.injEq]at hbq;obtain⟨rfl,_⟩:=hbq;have hcc:P7=J:=by rw[Q]at hb;injection hb with hb;injection hb
      subst hcc;have htko:P7.toList.take (n' * a.size)=d:=by
       rcases Q0 with⟨h0,_⟩|⟨b2,cur2,M,h2,_,_,h3⟩
       .omega
       .grind
      have U8:(n'+m)*a.size<=P7.size:=by rw[p2];exact sn _ N6
      have hmul:=lx n' m a.size;have harr:(d++vs++P7.toList.drop ((n'+m)*a.size)).toArray.size=g.κ q*a.size:=by rw[<- p2];simp only[ik,cf,gk,Array.length_toList];omega
      have C4:=mJ (o:=.own e' a.size (n'+m)) (k':=(n'+m)*a.size) (arr:=(d++vs++P7.toList.drop ((n'+m)*a.size)).toArray) p sS (by unfold blk;rw[E];omega) Q p3 oO
       (fun j hj=>by
         rw[dz,od,jv oO,<- htko,mi,ad hj,ny])
       (fun W _ _=>⟨fun e1 s1 n1 M=>by grind,fun e1 s1 n1 M=>by grind⟩)
      refine⟨_,_,_,r9,?_,C4.1,C4.2⟩;simp only[Rep];refine⟨_,_,rfl,N6,⟨o2,sS⟩,fun _=>by simp[G.add,p.z],fun c7=>⟨g.β q,0,rfl,iN _ (d++vs) 0 (aC.mono C4.2 _ _ N) (fun j hj=>?_) (fun j hj=>?_)⟩⟩
      .rw[cell_of_row _ _ _ _ _ _ (setRow_heap w _ _ _ _ _ Q),jd,od,jv (by grind)]
      .intro k hk;simp[G.add]at hk;omega
     .have:=Lj (e:=e') (p.drop q O) N hNl hC hCm hl;exact⟨_,_,_,r9,this⟩
    |_=>simp_all
   .rename_i l n cap;cases E:st.H l with
    |box e' s' f=>
     simp only[E,ap]at B;subst B;obtain⟨rfl,rfl,Y,L,R,S,U,c5⟩:=hc;have V:=tL p (n*a.size) E;have I:(st.set l (.box e' a.size (f.take (n*a.size)))).set l .dead=st.set l .dead:=by
      unfold St.set
      congr 1
      funext x
      by_cases hx:x=l<;>simp[hx]
     have:=DJ (ty:=ty) Z V (l:=l) (n:=n) (cs:=f.take (n*a.size)) hs X D (by simp[St.set]) (by grind) L R S U c5 (Ut h);rw[I]at this;exact this
    |_=>simp_all
   .rename_i l o n;cases E:st.H l with
    |box e' s' f=>
     simp only[E,ap]at B;subst B;obtain⟨rfl,rfl,rfl,Y,L,R,S,U,c5⟩:=hc;have V:=tL p (n*a.size) E;have I:(st.set l (.box e' a.size (f.take (n*a.size)))).set l .dead=st.set l .dead:=by
      unfold St.set
      congr 1
      funext x
      by_cases hx:x=l<;>simp[hx]
     have:=DJ (ty:=ty) Z V (l:=l) (n:=n) (cs:=f.take (n*a.size)) hs X D (by simp[St.set]) (by grind) L R S U c5 h;rw[I]at this;exact this
    |_=>simp_all
   .rename_i q o n f;cases E:st.H q with
    |que e' n'=>simp only[E,ap]at B;subst B;obtain⟨rfl,c0,rfl,Y,L,R,S,U⟩:=hc;exact Nz (ty:=ty) Z p hs X D E c0 Y L R S U h
    |_=>simp_all
   grind
  grind
 grind
theorem Co(E:aZ P T)(hi:Inv w g st){t R ty:TypeId}{s x:LV}{v u:Value}{r:bS}(o:zQ T t R s x st=some r)(hc:r.c)(h:Rep w g s v)(X:Rep w g x u):
 ∃ Y z B,(Builtin.append_ #[t,R] ty #[v,u]).run P w=.ok Y z/\Rep z B r.v Y/\Inv z B r.s/\Ext w g z B:=by
 unfold zQ at o
 split at o
 .rename_i e k hs hk
  split at o
  .rename_i d S2
   split at o
   .rename_i k' n;simp only[ap]at o;subst o;obtain⟨c1,c2,c3,c4⟩:=hc;simp only[Rep]at h X;obtain⟨A,rfl⟩:∃ A,v=.slice A 0 0:=⟨none,h⟩;subst X;have hd:=cZ E hs;have F:=GS E hk;have y:=E e d S2;obtain⟨i,Q5,U8,U,hz⟩:=y.info;have O:d.zeroV.cells=d.zero.toArray:=dR y;obtain⟨m,rfl⟩:=uj (show 0<=n by omega);have J:0<m:=oO;have hmb:m*d.bytes<=140737488355328:=by
     have:((m*d.bytes:Nat):Int)<=140737488355328:=by rw[Int.natCast_mul];exact c2
     omega
    have N:IntKind.i64.wrap (m:Int)=m:=by
     simp only[IntKind.wrap,IntKind.signed,IntKind.bits];simp
     split<;>omega
    have Z:m<=maxLen:=by simp only[maxLen];omega
    have I:=grownCap_ge w m 0 e;have v7:=grownCap_le_maxLen w m 0 e Z;have V:(bX d.zero (grownCap w m 0 e)).length=grownCap w m 0 e*d.size:=by rw[gR _ (by rw[y.zl];omega)];simp[y.zl]
    have q:∀ k,(Builtin.zeroCells d.zeroV.cells k).toList=bX d.zero k:=by intro k;rw[gR _ (by rw[y.zl];omega),O];simp only[Builtin.zeroCells,<- List.toArray_range,vg,ik]
    have l:∀ a b,bX d.zero a++bX d.zero b=bX d.zero (a+b):=by
     intro a b;induction a with
     |zero=>simp[bX]
     |succ a ih=>grind [bX]
    have r9:(Builtin.append_ #[t,R] ty #[.slice A 0 0,.int k' (m:Int)]).run P w=.ok (.slice (some ⟨w.heap.size,0,none⟩) m (grownCap w m 0 e)) (w.drew.alloc (.cells (bX d.zero (grownCap w m 0 e)).toArray e)):=by
     have e1:(bX d.zero (grownCap w m 0 e)).toArray=Builtin.zeroCells d.zeroV.cells m++Builtin.zeroCells d.zeroV.cells (grownCap w m 0 e-m):=by apply Array.ext';rw[Array.toList_append,q,q,l,show m+(grownCap w m 0 e-m)=grownCap w m 0 e by omega]
     have K:m≠0:=oO;have D:¬(9223372036854775807<(m:Int)):=oO;have L:m*i.size≠0:=by rw[U8];exact Nat.mul_ne_zero oO oO
     have C:¬(281474976710656<(m:Int)*(i.bytes:Int)):=by
      rw[U];have:((m*d.bytes:Nat):Int)<=140737488355328:=oO
      rw[Int.natCast_mul]at this;omega
     have M:¬(281474976710656<Builtin.nextslicecap m 0*i.bytes):=by rw[nextslicecap_zero J,U];omega
     have S:¬((m:Int)<0):=oO;have W:¬(m:Int)<0:=S;have H:∀ A,(Builtin.firstCells i.size 0 (.slice A 0 0)).run P w.drew=.ok #[] w.drew:=by intro A;cases A<;>simp[Builtin.firstCells,loadCells,loadCellsFrom]
     have p:∀(b:Nat) (w:World),(askRoom b).run P w=.ok () w:=by intro b w;unfold askRoom;split<;>simp[mark,Sem.run]
     rw[e1];simp[Builtin.append_,run_underlying hd,run_underlying F,Go.sizeOf,typeInfo,Q5,asInt,asIntOf,N,C,K,M,L,hz,Go.zeroValue,newRow,p,choose,Sem.run];rw[ac S,ac D];have f:(Question.appendCap m 0 e).forced=false:=rfl;simp only[f,iv,gx,H,Result.andThen_ok];simp[grownCap]
    have Q:aC w g (fL (d.zero.map cP) m) (bX d.zero m):=by rw[nB];exact cV w g _
    have j:bX d.zero (grownCap w m 0 e)=bX d.zero m++bX d.zero (grownCap w m 0 e-m):=by rw[l];congr 1;omega
    rw[j]at r9 V;have:=FE (e:=e) hi Q I v7 V
    grind [Int.toNat_natCast]
   grind
  grind
 grind
theorem Ag{z:List Value}(h:∀ v∈z,v.oneCell'=true):∀ n,∀ v∈bX z n,v.oneCell'=true
 |0,v,a=>by grind [bX]
 |n+1,v,a=>by
  rw[bX,an]at a;rcases a with a|a
  .grind
  .exact Ag h n v a
theorem Gm(I:aZ P T)(L:Inv w g st){t ty:TypeId}{x:LV}{v:Value}{r:bS}(j:FD T t x st=some r)(J:r.c)(h:Rep w g x v):
 ∃ p,(Builtin.clear_ #[t] ty #[v]).run P w=.ok (.tuple #[]) p/\r.v=.tu []/\Inv p g r.s/\Ext w g p g:=by
 unfold FD at j
 split at j
 .rename_i e l o n W
  split at j
  .rename_i a D s q R F;simp only[ap]at j;subst j;have f:o+n*a.size<=q.length:=J.1;have K:=cZ I W;have m:=I e a R;simp only[Rep]at h;obtain⟨A,S,rfl,z,U,y,E,V⟩:=h;have B:(bX a.zero n).length=n*a.size:=by
    clear E z J f y;induction n with
    |zero=>simp[bX]
    |succ n X=>rw[bX,cf,X,m.zl,uz];omega
   obtain⟨Y,Z,q3⟩:=L.box l D s q F;by_cases M:n=0
   .subst M;refine⟨w,?_,rfl,?_,Ext.refl w g⟩
    .cases A<;>simp[Builtin.clear_,run_underlying K]
    .have:st.set l (.box D s (q.take o++fL (a.zero.map cP) 0++q.drop (o+0*a.size)))=st:=by
      cases st with
      |mk nx H=>
       simp only[St.set,fL,eP,vn,Nat.add_zero,gd]
       congr 1
       grind
     grind
   .obtain rfl:=E M;have O:g.nl l=false:=by
     cases O:g.nl l with
     |false=>rfl
     |true=>
      grind
    have k:aC w g (fL (a.zero.map cP) n) (bX a.zero n):=by rw[nB];exact cV w g _
    have d:(fL (a.zero.map cP) n).length=n*a.size:=by rw[aM _ _ k,B]
    obtain⟨p,Q,b⟩:=BZ (P:=P) L F O (ds:=fL (a.zero.map cP) n) (by rw[d];exact f) k (Ag (by simpa using m.zone) n);rw[d]at b;refine⟨p,?_,rfl,b.1,b.2⟩;have C:(Builtin.zeroCells a.zeroV.cells n).toList=bX a.zero n:=by rw[gR _ (by rw[m.zl];omega),dR m];simp only[Builtin.zeroCells,<- List.toArray_range,vg,ik]
    obtain⟨N,rfl⟩:∃ N,n=N+1:=⟨n-1,oO⟩;simp[Builtin.clear_,run_underlying K,m.zeroValue,C,Q]
  grind
 grind
theorem Jz(f:aZ P T)(k:Inv w g st){t d ty:TypeId}{x y:LV}{v u:Value}{r:bS}(b:ME T t d x y st=some r)(j:r.c)(h:Rep w g x v)(l:Rep w g y u):
 ∃ e a,(Builtin.copy_ #[t,d] ty #[v,u]).run P w=.ok e a/\Rep a g r.v e/\Inv a g r.s/\Ext w g a g:=by
 unfold ME at b;cases b
theorem Cd(e:aZ P T)(j:Inv w g st){t ty:TypeId}{x y:LV}{v u:Value}{r:bS}(b:uB T t x y st=some r)(f:r.c)(h:Rep w g x v)(k:Rep w g y u):
 ∃ d a,(Builtin.append_ #[t,t] ty #[v,u]).run P w=.ok d a/\Rep a g r.v d/\Inv a g r.s/\Ext w g a g:=by
 unfold uB at b;cases b
theorem tR{a:Act}{fr:af}(hr:dY w g a fr):∀(ps:List (Nat×Operand)),aC w g ((ps.map fun p=>(p.1,aI fr p.2)).map (·.2)) ((ps.map fun p=>(p.1,a.eval p.2)).map (·.2))
 |[]=>by grind [aC]
 |p::ps=>by simp only[ax,aC];exact⟨_,_,rfl,aD hr p.2,tR hr ps⟩
theorem Dv{a:Act}{c:af}(d:dY w g a c):∀(b:List Operand),aC w g (b.map (aI c)) (b.map a.eval)
 |[]=>by grind [aC]
 |p::b=>by simp only[ax,aC];exact⟨_,_,rfl,aD d p,Dv d b⟩
theorem fW{x:LV}{v u:Value}(h:Rep w g x v)(a:x=.atom u):v=u:=by grind [Rep]
theorem cJ{N:Nat}{q:Bool}{o:Oper}{b:af}{c:LV}(h:∀(a:Act) (w:World) (g:G),Inv w g st->dY w g a b->a.tmps.size=N->∃ v,(execOp a.eval o).run P w=.ok (.value v) w/\Rep w g c v):rp P N q o b st c st:=by
 intro a w g d e f
 grind [Ext.refl]
theorem KC(L:aZ P T){N:Nat}{o:Oper}{c:Call}{X:af}{md:Bool}{r:bS}(E:o.op=.call c)(d:EF T md c X st=some r)(Q:r.c):rp P N (aL o.op) o X st r.v r.s:=by
 obtain⟨callee,args,W⟩:=c;obtain⟨args⟩:=args;obtain⟨W⟩:=W;unfold EF at d
 split at d
 .rename_i x t _ h b m;simp only at h b m;subst h b m;rcases hmk:nI T t with _|p;rotate_left
  .simp only[hmk]at d;obtain⟨k,e⟩:=p;unfold Tp at d;simp only[hmk]at d
   split at d
   .rename_i l _ D;cases hl:st.H l with
    |map ag ks es=>
     simp only[hl,ap]at d;subst d;refine cJ fun a w g j f _=>?_;have B:=aD f x;rw[D]at B;simp only[Rep]at B;obtain⟨_,_,cW,clock,m2,m3,_⟩:=j.mp l _ _ es hl;refine⟨.int .i64 es.length,?_,by simp only[Rep]⟩;have S:cW.length=es.length:=by simpa using congrArg List.length m3
     simp[execOp,E,resolve,invoke,builtin,Builtin.len_,B.1,run_underlying (uZ L hmk),goInt,MapKept.run_getObj_map m2,S]
    |_=>simp_all
   grind
  simp only[hmk]at d;unfold Vp at d
  split at d
  .rename_i e V;have O:∀ n:Nat,r=⟨True,.atom (.int .i64 n),st⟩->(∀(a:Act) (w:World) (g:G),Inv w g st->dY w g a X->∃ A R,a.eval x=.slice A n R)->rp P N (aL o.op) o X st r.v r.s:=by rintro n rfl M;refine cJ fun a w g j f _=>?_;obtain⟨A,R,M⟩:=M a w g j f;refine⟨.int .i64 n,?_,by simp only[Rep]⟩;simp[execOp,E,resolve,invoke,builtin,Builtin.len_,M,run_underlying (cZ L V),goInt]
   split at d
   .rename_i l off n D;simp only[ap]at d;refine O n d.symm fun a w g j f=>?_;have B:=aD f x
    grind [Rep]
   .rename_i l n c D;simp only[ap]at d;refine O n d.symm fun a w g j f=>?_;have B:=aD f x
    grind [Rep]
   .split at d
    .rename_i q n cs D;simp only[ap]at d;refine O n d.symm fun a w g j f=>?_;have B:=pM D (aD f x)
     grind [Rep]
    grind
  grind
 .rename_i x y h b;simp only at h b;subst h b;unfold TV at d
  split at d
  .rename_i k u k' v D hy;simp only[ap]at d;subst d;refine cJ fun a w g j f _=>?_;have z:=fW (aD f x) D;have C:=fW (aD f y) hy;refine⟨.int k (if v<u then v else u),?_,by simp only[Rep]⟩;simp[execOp,E,resolve,invoke,builtin,Builtin.min_,Builtin.min2,z,C]
  grind
 .rename_i x y h b;simp only at h b;subst h b;unfold Uw at d
  split at d
  .rename_i k u k' v D hy;simp only[ap]at d;subst d;refine cJ fun a w g j f _=>?_;have z:=fW (aD f x) D;have C:=fW (aD f y) hy;refine⟨.int k (if u<v then v else u),?_,by simp only[Rep]⟩;simp[execOp,E,resolve,invoke,builtin,Builtin.max_,Builtin.max2,z,C]
  grind
 .rename_i s x t t' h b m;simp only at h b m;subst h b m
  split at d
  .rename_i Z;subst Z
   split at d
   .intro a w g j f _;obtain⟨J,K,z,C,F,I⟩:=Cd (ty:=o.type) L j d Q (aD f s) (aD f x);refine⟨.value J,K,g,?_,.inl ⟨J,rfl,C⟩,F,I,fun U=>by grind [aL]⟩;simp[execOp,E,resolve,invoke,builtin,z]
   intro a w g j f _;obtain⟨J,K,Y,z,C,F,I⟩:=Ei (ty:=o.type) L j d Q (aD f s) (aD f x);refine⟨.value J,K,Y,?_,.inl ⟨J,rfl,C⟩,F,I,fun U=>by grind [aL]⟩;simp[execOp,E,resolve,invoke,builtin,z]
  .intro a w g j f _;obtain⟨J,K,Y,z,C,F,I⟩:=Co (ty:=o.type) L j d Q (aD f s) (aD f x);refine⟨.value J,K,Y,?_,.inl ⟨J,rfl,C⟩,F,I,fun U=>by grind [aL]⟩;simp[execOp,E,resolve,invoke,builtin,z]
 .rename_i x t _ h b m;simp only at h b m;subst h b m;unfold Wm at d
  split at d
  .rename_i e V D;simp only[ap]at d;subst d;refine cJ fun a w g j f _=>?_;have B:=aD f x;rw[D]at B;simp only[Rep]at B;have M:=B;refine⟨.int .i64 0,?_,by simp only[Rep]⟩;simp[execOp,E,resolve,invoke,builtin,Builtin.cap_,M,run_underlying (cZ L V),goInt]
  .rename_i e l n c V D;simp only[ap]at d;subst d;refine cJ fun a w g j f _=>?_;have B:=aD f x;rw[D]at B;simp only[Rep]at B;obtain⟨A,M,_⟩:=B;refine⟨.int .i64 c,?_,by simp only[Rep]⟩;simp[execOp,E,resolve,invoke,builtin,Builtin.cap_,M,run_underlying (cZ L V),goInt]
  grind
 .rename_i x t h b m;simp only at h b m;subst h b m;intro a w g j f _;obtain⟨K,z,C,F,I⟩:=Gm (ty:=o.type) L j d Q (aD f x);refine⟨.value (.tuple #[]),K,g,?_,.inl ⟨.tuple #[],rfl,?_⟩,F,I,fun U=>by grind [aL]⟩
  .simp[execOp,E,resolve,invoke,builtin,z]
  grind [Rep,aC]
 .rename_i x y t t' h b m;simp only at h b m;subst h b m;intro a w g j f _;obtain⟨J,K,z,C,F,I⟩:=Jz (ty:=o.type) L j d Q (aD f x) (aD f y);refine⟨.value J,K,g,?_,.inl ⟨J,rfl,C⟩,F,I,fun U=>by grind [aL]⟩;simp[execOp,E,resolve,invoke,builtin,z]
 .rename_i x i t kt h b m;simp only at h b m;subst h b m;intro a w g j f _;obtain⟨C,K,z,F,I⟩:=Eh (kt:=kt) (ty:=o.type) L j d Q (aD f x) (aD f i);refine⟨.value (.tuple #[]),K,g,?_,.inl ⟨.tuple #[],rfl,?_⟩,F,I,fun U=>by grind [aL]⟩
  .simp[execOp,E,resolve,invoke,builtin,z]
  grind [Rep,aC]
 grind
theorem BA{t:TypeId}(h:P.underlying t=some .bool)(a b:Bool)(w:World):(Op.equal t (.bool a) (.bool b)).run P w=.ok (a==b) w:=by
 have c:∀ d,(Op.equalIn (d+1) t (.bool a) (.bool b)).run P w=.ok (a==b) w:=by intro d;simp[Op.equalIn,run_underlying h]
 exact c 9999
theorem HH(E:aZ P T){H:BinOp}{t:TypeId}{x y:LV}{v u:Value}{r:bS}(L M:Operand)(j:Hw T H t x y st=some r)(C:r.c)(D:Rep w g x v)(p:Rep w g y u):
 r.s=st/\∃ z,(do eqGuard H t L M v u;binOp H t v u:Sem Value).run P w=.ok z w/\Rep w g r.v z:=by
 unfold Hw at j
 split at j
 .rename_i k a k' b;simp only[jp]at j;obtain⟨z,X,rfl⟩:=j;simp only[Rep]at D p;subst D p;exact⟨rfl,z.v,by simp[Gd,Ja X C],by simp only[Rep]⟩
 .rename_i a b;simp only[Rep]at D p;subst D p
  split at j
  .simp only[ap]at j;subst j;refine⟨rfl,.bool (a==b),?_,by simp only[Rep]⟩;simp[uJ,binOp,BA (CJ E C)]
  .simp only[ap]at j;subst j;refine⟨rfl,.bool (!(a==b)),?_,by simp only[Rep]⟩;simp[uJ,binOp,BA (CJ E C)]
  grind
 .rename_i xs ys;simp only[Rep]at D p;obtain⟨vs,rfl,D⟩:=D;obtain⟨us,rfl,p⟩:=p
  split at j
  .rename_i O ks ns V6 ms q Y Z;obtain⟨rfl,V⟩:=mE _ _ _ _ Y D;obtain⟨rfl,W⟩:=mE _ _ _ _ Z p
   split at j
   .simp only[ap]at j;subst j;obtain⟨Q,rfl,R⟩:=C;have:=HD (w:=w) (E t O q) Q R V W L M .eql false (.inl ⟨rfl,rfl⟩)
    grind [cj,Rep]
   .simp only[ap]at j;subst j;obtain⟨Q,rfl,R⟩:=C;have:=HD (w:=w) (E t O q) Q R V W L M .neq true (.inr ⟨rfl,rfl⟩);simp only[cj,dE]at this;exact⟨rfl,_,this,by simp[Rep]⟩
   grind
  grind
 .simp only[Rep]at D p;subst D p;have m:(dD T t).isSome=true->(Op.equal t (.slice none 0 0) (.slice none 0 0)).run P w=.ok true w/\∀ F,(eqGuard F t L M (.slice none 0 0) (.slice none 0 0)).run P w=.ok () w:=by
   intro U;obtain⟨e,U⟩:=xy.1 U;have q:=cZ E U;have J:∀ d,(Op.equalIn (d+1) t (.slice none 0 0) (.slice none 0 0)).run P w=.ok true w:=by intro d;simp[Op.equalIn,run_underlying q]
   exact⟨J 9999,fun F=>by unfold eqGuard;split<;>simp⟩
  split at j
  .simp only[ap]at j;subst j;obtain⟨I,K⟩:=m C;refine⟨rfl,.bool true,?_,by simp only[Rep]⟩;simp[K,binOp,I]
  .simp only[ap]at j;subst j;obtain⟨I,K⟩:=m C;refine⟨rfl,.bool false,?_,by simp only[Rep]⟩;simp[K,binOp,I]
  grind
 .have n:∃ A,v=.map A/\∀ b,tA x=some b->A.isNone=b:=by
   cases x with
   |mp l=>grind [Rep,tA]
   |atom y=>
    cases y with
    |map A=>
     grind [Rep,tA]
    |_=>simp[tA]at j
   |_=>simp[tA]at j
  obtain⟨A,rfl,N⟩:=n;simp only[Rep]at p;subst p;have m:(∃ k e,P.underlying t=some (.map k e))->(Op.equal t (.map A) (.map none)).run P w=.ok A.isNone w/\∀ F,(eqGuard F t L M (.map A) (.map none)).run P w=.ok () w:=by
   rintro⟨k,e,q⟩;have J:∀ d,(Op.equalIn (d+1) t (.map A) (.map none)).run P w=.ok A.isNone w:=by intro d;cases A<;>simp[Op.equalIn,run_underlying q]
   exact⟨J 9999,fun F=>by unfold eqGuard;split<;>simp⟩
  split at j
  .rename_i b B;simp only[ap]at j;subst j;obtain⟨I,K⟩:=m (DC E C);rw[N b B]at I;refine⟨rfl,.bool b,?_,by simp only[Rep]⟩;simp[K,binOp,I]
  .rename_i b B;simp only[ap]at j;subst j;obtain⟨I,K⟩:=m (DC E C);rw[N b B]at I;refine⟨rfl,.bool (!b),?_,by simp only[Rep]⟩;simp[K,binOp,I]
  grind
 .have n:∃ A,v=.pointer A/\∀ b,nilPtr x=some b->A.isNone=b:=by
   cases x with
   |pt l o=>grind [Rep,nilPtr]
   |pe l cs=>grind [Rep,nilPtr]
   |ep cs=>simp only[Rep]at D;grind [nilPtr]
   |atom y=>
    cases y with
    |pointer A=>
     grind [Rep,nilPtr]
    |_=>simp[nilPtr]at j
   |_=>simp[nilPtr]at j
  obtain⟨A,rfl,N⟩:=n;simp only[Rep]at p;subst p;have m:∀ e,P.underlying t=some (.pointer e)->(Op.equal t (.pointer A) (.pointer none)).run P w=.ok A.isNone w:=by
   intro e q;have J:∀ d,(Op.equalIn (d+1) t (.pointer A) (.pointer none)).run P w=.ok A.isNone w:=by intro d;cases A<;>simp[Op.equalIn,run_underlying q]
   exact J 9999
  split at j
  .rename_i b B;simp only[ap]at j;subst j;obtain⟨e,q⟩:=Ii E C;refine⟨rfl,.bool b,?_,by simp only[Rep]⟩;have:=m e q;rw[N b B]at this;unfold eqGuard;simp[binOp,this]
  .rename_i b B;simp only[ap]at j;subst j;obtain⟨e,q⟩:=Ii E C;refine⟨rfl,.bool (!b),?_,by simp only[Rep]⟩;have:=m e q;rw[N b B]at this;unfold eqGuard;simp[binOp,this]
  grind
 .have n:(v=.nilFunc/\∀ b,tW x=some b->b=true)\/((∃ f a c,v=.func f a c)/\∀ b,tW x=some b->b=false):=by
   cases x with
   |fn f IQ=>simp only[Rep]at D;grind [tW]
   |atom y=>
    cases y with
    |nilFunc=>grind [Rep,tW]
    |_=>simp[tW]at j
   |_=>simp[tW]at j
  simp only[Rep]at p;subst p;have m:∀ b,tW x=some b->(∃ a b c,P.underlying t=some (.func a b c))->(Op.equal t v .nilFunc).run P w=.ok b w/\∀ H,(eqGuard H t L M v .nilFunc).run P w=.ok () w/\(H=.eql->(binOp H t v .nilFunc).run P w=.ok (.bool b) w)/\(H=.neq->(binOp H t v .nilFunc).run P w=.ok (.bool (!b)) w):=by
   rintro b B ⟨_,_,_,q⟩;have S:(Op.equal t v .nilFunc).run P w=.ok b w:=by
    have J:∀ d,(Op.equalIn (d+1) t v .nilFunc).run P w=.ok b w:=by
     intro d;rcases n with⟨rfl,h⟩|⟨⟨f,a,c,rfl⟩,h⟩
     .obtain rfl:=h b B;simp[Op.equalIn,run_underlying q]
     .obtain rfl:=h b B;simp[Op.equalIn,run_underlying q]
    exact J 9999
   refine⟨S,fun H=>⟨?_,?_,?_⟩⟩
   .rcases n with⟨rfl,_⟩|⟨⟨f,a,c,rfl⟩,_⟩<;>(unfold eqGuard;split<;>simp)
   .rintro rfl;rcases n with⟨rfl,_⟩|⟨⟨f,a,c,rfl⟩,_⟩<;>simp[binOp,S]
   .rintro rfl;rcases n with⟨rfl,_⟩|⟨⟨f,a,c,rfl⟩,_⟩<;>simp[binOp,S]
  split at j
  .rename_i b B;simp only[ap]at j;subst j;obtain⟨_,k⟩:=m b B (LR E C);refine⟨rfl,.bool b,?_,by simp only[Rep]⟩;simp_all
  .rename_i b B;simp only[ap]at j;subst j;obtain⟨_,k⟩:=m b B (LR E C);refine⟨rfl,.bool (!b),?_,by simp only[Rep]⟩;simp_all
  grind
 grind
theorem yK(D:aZ P T)(f:Inv w g st){t:TypeId}{l c:LV}{v u:Value}{r:bS}(b:nV T t l c st=some r)(R:r.c)(h:Rep w g l v)(F:Rep w g c u):
 ∃ H j o,(Instr.makeSlice t v u).run P w=.ok H j/\Rep j o r.v H/\Inv j o r.s/\Ext w g j o:=by
 unfold nV at b
 split at b
 .rename_i e U
  split at b
  .rename_i a K
   split at b
   .rename_i k n W Z;simp only[ap]at b;subst b;obtain⟨rfl,C,X,Q,Y⟩:=R;simp only[Rep]at h F;subst h F;have S:=cZ D U;have d:=D e a K;obtain⟨i,J,L,O,V⟩:=d.info;have q:a.zeroV.cells=a.zero.toArray:=dR d;obtain⟨m,rfl⟩:=uj C;have B:m<=maxLen:=by simp only[maxLen];omega
    have M:(i.bytes:Int)*(m:Int)<=281474976710656:=by rw[O,Int.mul_comm];omega
    have A:=run_make (P:=P) w t e i a.zeroV S J V k W (m:Int) (m:Int) C (oi _) M Q;simp only[Int.toNat_natCast]at A;have p:madeCells a.zeroV.cells (m*i.size)=(bX a.zero m).toArray:=by apply Array.ext';rw[gR _ (by rw[d.zl];omega),q,L];simp[madeCells,<- List.toArray_range,d.zl]
    rw[p]at A;have x:(bX a.zero m).length=m*a.size:=by rw[gR _ (by rw[d.zl];omega)];simp[d.zl]
    have y:aC w g (fL (a.zero.map cP) m) (bX a.zero m):=by rw[nB];exact cV w g _
    have E:=aM _ _ y;have I:=dN w g (.cells (bX a.zero m).toArray e) 0 m false;have N:=uV f e a.size m (cs:=fL (a.zero.map cP) m) (vs:=bX a.zero m) x B oO (by grind);refine⟨_,_,_,A,?_,N,I⟩;simp only[Rep,Int.toNat_natCast];exact⟨_,_,rfl,au _,B,by simp[G.add,f.z],by simp[G.add,f.z],by simp[G.add,f.z]⟩
   grind
  grind
 grind
theorem xC(D:aZ P T){N:Nat}{o:Oper}{V:af}{md:Bool}{r:bS}(q:fy T md o V st=some r)(I:r.c):rp P N (aL o.op) o V st r.v r.s:=by
 unfold fy at q
 split at q
 .rename_i x m;simp only[ap]at q;subst q;exact cJ fun a w g B e _=>⟨a.eval x,by simp[execOp,m],aD e x⟩
 .rename_i x m;simp only[ap]at q;subst q;exact cJ fun a w g B e _=>⟨a.eval x,by simp[execOp,m],aD e x⟩
 .rename_i c x y m
  split at q
  .rename_i t Q;simp only[ap]at q;subst q;refine cJ fun a w g B e _=>?_;have j:=fW (aD e c) Q;refine⟨if t then a.eval x else a.eval y,by simp[execOp,m,j,asBool],?_⟩
   grind [aD]
  grind
 .rename_i op t x y _ m;intro a w g B e _;obtain⟨C,z,j,A⟩:=HH D x y q I (aD e x) (aD e y);refine⟨.value z,w,g,?_,.inl ⟨z,rfl,A⟩,by grind,Ext.refl w g,fun _=>⟨rfl,rfl,C,_,rfl⟩⟩;simp only[execOp,m];rw[Sem.run_bind,j];rfl
 .rename_i op _ x m;unfold VZ at q
  split at q
  .rename_i b E;simp only[ap]at q;subst q;refine cJ fun a w g B e _=>?_;have j:=fW (aD e x) E;exact⟨.bool !b,by simp[execOp,m,j,Op.unary],by simp only[Rep]⟩
  .rename_i k n E;simp only[ap]at q;subst q;refine cJ fun a w g B e _=>?_;have j:=fW (aD e x) E;exact⟨.int k (k.wrap (0-n)),by simp[execOp,m,j,Op.unary,Op.intArith],by simp only[Rep]⟩
  grind
 .rename_i s d x m
  split at q
  .rename_i k0 k k' n Z hk E;simp only[ap]at q;subst q;refine cJ fun a w g B e _=>?_;have j:=fW (aD e x) E;exact⟨.int k (k.wrap n),by simp[execOp,m,j,convert,run_underlying (GS D Z),run_underlying (GS D hk),Conv.intToInt],by simp only[Rep]⟩
  grind
 .rename_i t x m;intro a w g B e _;obtain⟨C,u,j,A⟩:=BK D B q I (aD e x);exact⟨.value u,w,g,by simp[execOp,m,j],.inl ⟨u,rfl,A⟩,by grind,Ext.refl w g,fun _=>⟨rfl,rfl,C,_,rfl⟩⟩
 .rename_i t x v m;intro a w g B e _;obtain⟨C,H,j,A,F⟩:=Ge D B q I (aD e x) (aD e v);exact⟨.skip,H,g,by simp[execOp,m,j],.inr ⟨rfl,C⟩,A,F,fun M=>by grind [aL]⟩
 .rename_i t x i m;intro a w g B e _;obtain⟨C,u,j,A⟩:=Nt (P:=P) D q I (aD e x) (aD e i);exact⟨.value u,w,g,by simp[execOp,m,j],.inl ⟨u,rfl,A⟩,by grind,Ext.refl w g,fun _=>⟨rfl,rfl,C,_,rfl⟩⟩
 .rename_i t x f m;intro a w g B e _;obtain⟨C,u,j,A⟩:=yP (P:=P) D q I (aD e x);exact⟨.value u,w,g,by simp[execOp,m,j],.inl ⟨u,rfl,A⟩,by grind,Ext.refl w g,fun _=>⟨rfl,rfl,C,_,rfl⟩⟩
 .rename_i t x f m;intro a w g B e _;obtain⟨C,u,j,A⟩:=HR (P:=P) D q I (aD e x);exact⟨.value u,w,g,by simp[execOp,m,j],.inl ⟨u,rfl,A⟩,by grind,Ext.refl w g,fun _=>⟨rfl,rfl,C,_,rfl⟩⟩
 .rename_i t x W U X m;intro a w g B e _
  obtain⟨C,u,j,A⟩:=IZ (P:=P) (w:=w) (g:=g) (vlo:=W.map a.eval) (vhi:=U.map a.eval) (vmx:=X.map a.eval) D q I (aD e x)
   (fun l L=>by cases W with|none=>grind|some z=>simp at L;subst L;exact⟨_,rfl,aD e z⟩) (fun h=>by simp_all)
   (fun l L=>by cases U with|none=>grind|some z=>simp at L;subst L;exact⟨_,rfl,aD e z⟩) (fun h=>by simp_all)
   (fun l L=>by cases X with|none=>grind|some z=>simp at L;subst L;exact⟨_,rfl,aD e z⟩) (fun h=>by simp_all)
  exact⟨.value u,w,g,by simp[execOp,m,j],.inl ⟨u,rfl,A⟩,by grind,Ext.refl w g,fun _=>⟨rfl,rfl,C,_,rfl⟩⟩
 .rename_i t x m;intro a w g B e _;obtain⟨u,H,J,j,A,F,K⟩:=NG (P:=P) B q (aD e x);exact⟨.value u,H,J,by simp[execOp,m,j],.inl ⟨u,rfl,A⟩,F,K,fun M=>by grind [aL]⟩
 .rename_i t m;intro a w g B e _;obtain⟨u,H,J,j,A,F,K⟩:=Gc (P:=P) D B q;exact⟨.value u,H,J,by simp[execOp,m,j],.inl ⟨u,rfl,A⟩,F,K,fun M=>by grind [aL]⟩
 .rename_i t O m;intro a w g B e _;obtain⟨C,u,j,A⟩:=HQ (P:=P) (x8:=O.map fun p=>(p.1,a.eval p.2)) D q I sS (by simpa using tR e O.toList);exact⟨.value u,w,g,by simp[execOp,m,j],.inl ⟨u,rfl,A⟩,by grind,Ext.refl w g,fun _=>⟨rfl,rfl,C,_,rfl⟩⟩
 .rename_i t n O m;intro a w g B e _;obtain⟨u,H,J,j,A,F,K⟩:=wL (P:=P) (x8:=O.map fun p=>(p.1,a.eval p.2)) D B q I sS (by simpa using tR e O.toList);exact⟨.value u,H,J,by simp[execOp,m,j],.inl ⟨u,rfl,A⟩,F,K,fun M=>by grind [aL]⟩
 .rename_i f first IQ m
  split at q
  .rename_i hf;simp only[ap]at q;subst q;refine cJ fun a w g B e _=>⟨.func f #[] (IQ.map a.eval),?_,?_⟩
   .have:first=#[]:=by simpa using hf
    subst this;simp[execOp,m,Instr.makeFunc]
   grind [Rep,Array.toList_map,Dv]
  grind
 .rename_i x i m
  split at q
  .rename_i vs E
   split at q
   .rename_i v hv;simp only[ap]at q;subst q;refine cJ fun a w g B e _=>?_;have j:=aD e x;rw[E]at j;simp only[Rep]at j;obtain⟨us,j,A⟩:=j;obtain⟨u,R,S⟩:=vE i vs us v A hv;exact⟨u,by simp[execOp,m,j,Instr.extract,R],S⟩
   grind
  grind
 .rename_i x m
  split at q
  .rename_i l o' E;simp only[ap]at q;subst q;refine cJ fun a w g B e _=>?_;have j:=aD e x;rw[E]at j;have A:=j;simp only[Rep]at j;exact⟨a.eval x,by simp[execOp,m,j.1],A⟩
  .rename_i l cs E;simp only[ap]at q;subst q;refine cJ fun a w g B e _=>?_;have j:=aD e x;rw[E]at j;have A:=j;simp only[Rep]at j;exact⟨a.eval x,by simp[execOp,m,j.1],A⟩
  grind
 .grind [KC]
 .rename_i t x i m;unfold Ek at q
  split at q
  .rename_i s k n E hn;simp only[ap]at q;subst q;obtain⟨c1,c2,c3⟩:=I;refine cJ fun a w g B e _=>?_;have j:=fW (aD e x) E;have A:=fW (aD e i) hn;cases hb:s[n.toNat]? with
   |none=>grind
   |some b=>refine⟨.int .u8 b.toNat,?_,by grind [Rep]⟩;simp[execOp,m,j,A,Instr.index,asIntOf,run_underlying (QV D c1),c2,hb]
  grind
 .rename_i t x i ok m;intro a w g B e _;obtain⟨C,u,j,A⟩:=Fb (P:=P) D B q I (aD e x) (aD e i);exact⟨.value u,w,g,by simp[execOp,m,j],.inl ⟨u,rfl,A⟩,by grind,Ext.refl w g,fun _=>⟨rfl,rfl,C,_,rfl⟩⟩
 .rename_i t x i v m;intro a w g B e _;obtain⟨C,H,j,A,F⟩:=tU (P:=P) D B q I (aD e x) (aD e i) (aD e v);exact⟨.skip,H,g,by simp[execOp,m,j],.inr ⟨rfl,C⟩,A,F,fun M=>by grind [aL]⟩
 .rename_i t x i v m;intro a w g B e _;obtain⟨C,H,j,A,F⟩:=tU (P:=P) D B q I (aD e x) (aD e i) (aD e v);exact⟨.skip,H,g,by simp[execOp,m,j],.inr ⟨rfl,C⟩,A,F,fun M=>by grind [aL]⟩
 .rename_i t Y m;intro a w g B e _;obtain⟨u,H,J,j,A,F,K⟩:=Cl (P:=P) (vr:=Y.map a.eval) D B q (fun x E=>by cases Y with|none=>grind|some z=>simp at E;subst E;exact⟨_,rfl,aD e z⟩) (fun h=>by simp_all);exact⟨.value u,H,J,by simp[execOp,m,j],.inl ⟨u,rfl,A⟩,F,K,fun M=>by grind [aL]⟩
 .rename_i t l c m;intro a w g B e _;obtain⟨u,H,J,j,A,F,K⟩:=yK (P:=P) D B q I (aD e l) (aD e c);exact⟨.value u,H,J,by simp[execOp,m,j],.inl ⟨u,rfl,A⟩,F,K,fun M=>by grind [aL]⟩
 grind
end
end Aw
end Go.Proofs.YtbgngpdonpeboaaGreatDoor
