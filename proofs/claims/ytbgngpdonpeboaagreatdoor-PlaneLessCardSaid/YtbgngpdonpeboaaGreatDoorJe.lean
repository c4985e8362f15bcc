/- block.nearby: the near ones of each vertex, rising; Near. -/
import Derived.Test.YtbgngpdonpeboaaGreatDoorJd
import Derived.Test.YtbgngpdonpeboaaGreatDoorAwFz
import Derived.Test.YtbgngpdonpeboaaGreatDoorAwMr4
import Derived.Test.YtbgngpdonpeboaaGreatDoorAwRg
set_option linter.unusedVariables false
set_option linter.unusedSimpArgs false
set_option linter.defProp false
set_option maxHeartbeats 4000000
open Go.Proofs.Tryz
namespace Go.Proofs.YtbgngpdonpeboaaGreatDoor
namespace Aw
open Go Go.RowKit Pl
abbrev VB:=Int×Nat
def iT(H:List (Int×Int))(L:List VB):List (AN×LV):=L.map fun p=>([p.1],.ms p.2 0 (cq p.1 H).length)
structure NbM(H:List (Int×Int))(lo:Nat)(m:Nat)(L:List VB)(s:St):Prop where
 hm:s.H m=.map false [.u32] (iT H L)
 bx:∀ p∈L,lo<=p.2/\p.2<s.z/\s.H p.2=.box 34 1 (us (cq p.1 H))
 nd:(L.map (·.2)).Nodup
 kd:(L.map (·.1)).Nodup
 all:∀ v,cq v H≠[]↔v∈L.map (·.1)
theorem xD{H:List (Int×Int)}{v:Int}:∀ {L:List VB},v∉L.map (·.1)->bQ (iT H L) [v]=none
 |[],_=>rfl
 |p::L,h=>by simp only[ax,ah,gy]at h;simp only[iT,ax,bQ];rw[ac (by simpa using h.1)];exact xD h.2
theorem wT{H:List (Int×Int)}{v:Int}{q:Nat}:∀ {L1 L2:List VB},v∉L1.map (·.1)->bQ (iT H (L1++(v,q)::L2)) [v]=some (.ms q 0 (cq v H).length)
 |[],L2,_=>by simp[iT,bQ]
 |p::L1,L2,h=>by simp only[ax,ah,gy]at h;simp only[List.cons_append,iT,ax,bQ];rw[ac (by simpa using h.1)];exact wT h.2
theorem He{H H':List (Int×Int)}{v:Int}{q q':Nat}:∀ {L1 L2:List VB},v∉L1.map (·.1)->v∉L2.map (·.1)->(∀ u,u≠v->cq u H'=cq u H)->bV (iT H (L1++(v,q)::L2)) [v] (.ms q' 0 (cq v H').length)=iT H' (L1++(v,q')::L2)
 |[],L2,_,h2,hn=>by
  simp only[List.nil_append,iT,ax,bV,beq_self_eq_true,dE]
  congr 1
  refine ii fun p b=>?_;rw[hn p.1 (fun e=>h2 (by rw[<- e];exact aq.2 ⟨p,b,rfl⟩))]
 |p::L1,L2,h,h2,hn=>by simp only[ax,ah,gy]at h;have a:=He (H:=H) (H':=H') (q:=q) (q':=q') (L1:=L1) (L2:=L2) h.2 h2 hn;simp only[List.cons_append,iT,ax,bV]at a ⊢;rw[ac (by simpa using h.1),a,hn p.1 (fun e=>h.1 e.symm)]
theorem HC{H H':List (Int×Int)}{v:Int}{q':Nat}:∀ {L:List VB},v∉L.map (·.1)->(∀ u,u≠v->cq u H'=cq u H)->bV (iT H L) [v] (.ms q' 0 (cq v H').length)=iT H' (L++[(v,q')])
 |[],_,_=>rfl
 |p::L,h,hn=>by simp only[ax,ah,gy]at h;have a:=HC (H:=H) (H':=H') (q':=q') (L:=L) h.2 hn;simp only[List.cons_append,iT,ax,bV]at a ⊢;rw[ac (by simpa using h.1),a,hn p.1 (fun e=>h.1 e.symm)]
def EI{H:List (Int×Int)}{a b u:Int}(h:u≠a):cq u (H++[(a,b)])=cq u H:=by rw[IJ,ac (fun e=>h e.symm),eP]
def nC{H:List (Int×Int)}{a b:Int}:cq a (H++[(a,b)])=cq a H++[b]:=by rw[IJ,ad rfl]
theorem NbM.add{H:List (Int×Int)}{l m:Nat}{L:List VB}{s:St}(h:NbM H l m L s){a b:Int}(g:a∉L.map (·.1)){q':Nat}{s':St}(n:l<=q'/\s.z<=q'/\q' < s'.z)
 (t:s'.H m=.map false [.u32] (bV (iT H L) [a] (.ms q' 0 (cq a H++[b]).length))) (r:s'.H q'=.box 34 1 (us (cq a H++[b]))) (w:∀ p∈L,s'.H p.2=s.H p.2) (C:s.z<=s'.z):NbM (H++[(a,b)]) l m (L++[(a,q')]) s':=by
 have f:∀ u,u≠a->cq u (H++[(a,b)])=cq u H:=fun u A=>EI A;refine⟨?_,fun p c=>?_,?_,?_,fun v=>?_⟩
 .rw[t,<- nC,HC g f]
 .rcases an.1 c with c|c
  .obtain⟨o,B,q⟩:=h.bx p c;exact⟨o,oO,by rw[w p c,q,f p.1 (fun e=>g (by rw[<- e];exact aq.2 ⟨p,c,rfl⟩))]⟩
  .rw[bf]at c;subst c;exact⟨n.1,n.2.2,by rw[r,nC]⟩
 .rw[cr,bw];refine⟨h.nd,sS,fun x k y d=>?_⟩;obtain⟨p,c,rfl⟩:=aq.1 k;simp at d;have:=(h.bx p c).2.1;omega
 .rw[cr,bw];exact⟨h.kd,sS,fun x k y d=>by simp at d;subst d;rintro rfl;exact g k⟩
 .rw[cr,an];by_cases j:v=a
  .subst j;rw[nC];simp
  .rw[f v j,h.all v];simp[j]
def NbM.put{H:List (Int×Int)}{lo m:Nat}{L1 L2:List VB}{s:St}{a b:Int}{q:Nat}(h:NbM H lo m (L1++(a,q)::L2) s){q':Nat}{s':St}(hq:lo<=q'/\s.z<=q'/\q' < s'.z)
 (hm:s'.H m=.map false [.u32] (bV (iT H (L1++(a,q)::L2)) [a] (.ms q' 0 (cq a H++[b]).length))) (hb:s'.H q'=.box 34 1 (us (cq a H++[b]))) (ho:∀ p,p∈L1\/p∈L2->p.2≠q->p.2<s.z->s'.H p.2=s.H p.2) (hn:s.z<=s'.z):NbM (H++[(a,b)]) lo m (L1++(a,q')::L2) s':=by
 have U4:∀ u,u≠a->cq u (H++[(a,b)])=cq u H:=fun u hu=>EI hu;have kd:=h.kd;have nd:=h.nd;rw[cr,ax,bw,cb]at kd nd;obtain⟨kd1,⟨kd2,kd3⟩,kd4⟩:=kd;obtain⟨nd1,⟨nd2,nd3⟩,nd4⟩:=nd;have ha1:a∉L1.map (·.1):=fun e=>kd4 a e a sS rfl;have hb1:∀ p,p∈L1\/p∈L2->p.1≠a/\p.2≠q/\(lo<=p.2/\p.2<s.z/\s.H p.2=.box 34 1 (us (cq p.1 H))):=by
  intro p hp;refine⟨?_,?_,h.bx p (by rcases hp with hp|hp<;>simp[hp])⟩
  .rcases hp with hp|hp
   .exact fun e=>ha1 (by rw[<- e];exact aq.2 ⟨p,hp,rfl⟩)
   .exact fun e=>kd2 (by rw[<- e];exact aq.2 ⟨p,hp,rfl⟩)
  .rcases hp with hp|hp
   .exact nd4 _ (aq.2 ⟨p,hp,rfl⟩) q sS
   .exact fun e=>nd2 (by rw[<- e];exact aq.2 ⟨p,hp,rfl⟩)
 refine⟨?_,fun p hp=>?_,?_,?_,fun v=>?_⟩
 .rw[hm,<- nC,He ha1 kd2 U4]
 .have P0:(p∈L1\/p∈L2)\/p=(a,q'):=by
   rcases an.1 hp with hp|hp
   .exact .inl (.inl hp)
   .rcases ah.1 hp with hp|hp
    .exact .inr hp
    .exact .inl (.inr hp)
  rcases P0 with hp|rfl
  .obtain⟨h1,h2,h3,h4,h5⟩:=hb1 p hp;exact⟨h3,oO,by rw[ho p hp h2 h4,h5,U4 p.1 h1]⟩
  .exact⟨hq.1,hq.2.2,by rw[hb,nC]⟩
 .rw[cr,ax,bw,cb];have lt:∀ p,p∈L1\/p∈L2->p.2<s.z:=fun p hp=>(hb1 p hp).2.2.2.1;refine⟨nd1,⟨fun e=>?_,nd3⟩,fun x hx y hy=>?_⟩
  .obtain⟨p,hp,e⟩:=aq.1 e;have:=lt p (.inr hp);simp only at e;omega
  .rcases ah.1 hy with rfl|hy
   .obtain⟨p,hp,rfl⟩:=aq.1 hx;have:=lt p (.inl hp);omega
   .exact nd4 x hx y (ar _ hy)
 .have:=h.kd;rw[cr,ax]at this ⊢;exact this
 .by_cases hv:v=a
  .subst hv;rw[nC];simp
  .rw[U4 v hv,h.all v,cr,cr,ax,ax]
theorem mU{c d:Type}{f:c->d}:∀ {L:List c},(L.map f).Nodup->∀ {x y:c},x∈L->y∈L->f x=f y->x=y
 |[],_,_,_,hx,_,_=>by simp at hx
 |z::L,h,x,y,hx,hy,e=>by
  simp only[ax,cb]at h;rcases ah.1 hx with b|b<;>rcases ah.1 hy with a|a
  .rw[b,a]
  .exact absurd (aq.2 ⟨y,a,by rw[<- e,b]⟩) h.1
  .exact absurd (aq.2 ⟨x,b,by rw[e,a]⟩) h.1
  .exact mU h.2 b a e
def Br{P:Program}{N:Nat}{Q:AQ}{k:List gQ}{a:af}{b:St}{x:Code}(I:af->St->Prop)(c:bq P N x (AK P N (fun e f s=>e=.normal/\I f s) []) a b)(d:∀ a b,I a b->AK P N Q k .normal a b):
 bq P N x (AK P N Q k) a b:=by
 refine dG c ?_;rintro e UK h ⟨rfl,g⟩;exact d _ _ g
def Nk{P:Program}{N:Nat}{Q:AQ}{c:Code}{a:af}{b:St}(I:af->St->Prop)(d:I a b)(h:∀ a b,I a b->bq P N c Q a b):bq P N c Q a b:=h _ _ d
def NbM.keeps{H:List (Int×Int)}{b m:Nat}{L:List VB}{s c:St}(h:NbM H b m L s)(k:aA s c)(f:m<s.z):NbM H b m L c:=
 ⟨by rw[k.H m f];exact h.hm,fun p g=>by obtain⟨d,a,e⟩:=h.bx p g;exact⟨d,cz a k.z,by rw[k.H _ a];exact e⟩,h.nd,h.kd,h.all⟩
def zr(d:St)(H:List (Int×Int))(M:Nat)(L:List VB)(a:List (AN×LV))(b:af)(s:St):Prop:=
 b 3=.mp M/\(a.map (·.1)).Nodup/\(∀ e∈a,∃ p∈L,e=([p.1],.ms p.2 0 (cq p.1 H).length))/\s.H M=.frz false [.u32] (iT H L)/\M<s.z/\aA d s/\
 ∀ p∈L,p.2<s.z/\∃ c,s.H p.2=.box 34 1 (us c)/\c.Perm (cq p.1 H)/\([p.1]∉a.map (·.1)->c.Pairwise (·<=·))
def ud(b:St)(S:List Ed)(M k:Nat)(H:List (Int×Int))(a:af)(s:St):Prop:=
 a 3=.mp M/\a 17=.sl 0 S.length (eds S)/\a 18=i S.length/\a 19=i k/\b.z<=M/\M<s.z/\aA b s/\∃ L,NbM H b.z M L s
def UB(g:Gr)(Q:St)(hv:g.V.length<=1048576)(he:g.E.length<=1000)(t:0<Q.z):
 aB prog 179 [.ag (bv g)] Q fun r st'=>∃ m L,r=.mp m/\Q.z<=m/\m<st'.z/\aA Q st'/\st'.H m=.map false [.u32] (IP L)/\(∀ p∈L,Q.z<=p.2.1/\st'.H p.2.1=.box 34 1 p.2.2)/\(L.map fun p=>p.2.1).Nodup/\
  ∃ K:AN,K.Nodup/\(∀ v,cq v (fp (sE g.E))≠[]↔v∈K)/\L.map (fun p=>(p.1,p.2.2))=K.map fun v=>([v],us (cQ g.E v)):=by
 have hel:=aJ (sE g.E);have hsl:=nX g.E;refine zN func179 ntmps179 [.tmp 2] ?_
 (refine eu ?_;intro J B)
 refine qE (RI g _ hv oO sS) sS ?_;rintro r s1 ⟨rfl,o6⟩;have K5:=o6.z;simp only[aH]at K5;have Y4:aA Q s1:=((aA.new _ _).trans (aA.new _ _)).trans o6;have hm1:s1.H (Q.z+1)=.map false [.u32] []:=by rw[o6.H _ sS];simp
 have e1:¬Q.z+1=s1.z:=oO;generalize R6:(bnd g.E).length=bl;generalize hbc:((bnd g.E).map fun l=>LV.sl 0 l.length (us l))=bc;refine pH B hel ?_;refine qL (fun n fr s=>∃ k:Nat,k<=(sE g.E).length/\n=(sE g.E).length-k/\ud Q (sE g.E) (Q.z+1) k (fp ((sE g.E).take k)) fr s) (sE g.E).length ?_ ?_
 .refine⟨0,oO,oO,sS,sS,sS,sS,oO,by simp;omega,(Y4.trans (aA.new _ _)),[],?_⟩;exact⟨by simp[e1,hm1,iT],sS,sS,sS,by simp[fp,cq]⟩
 rintro n fr s ⟨k,hk,rfl,O,A,w,y,o,P9,C,L,j⟩ JJ hJJ;generalize hMM:Q.z+1=M at *;by_cases dF:k<(sE g.E).length;rotate_left
 .clear hJJ;have J9:k=(sE g.E).length:=oO;rw[J9,gm]at j;apply qS
  (refine zE ?_;intro J B;simp[w,y,dF];(refine zJ B ?_;clear B J))
  apply qS
  (apply qC;simp[])
  refine qX (zZ ?_);have hHl:(fp (sE g.E)).length<=2000:=by rw[Fk];omega
  generalize hHH:fp (sE g.E)=H at *;apply qS;refine EV lV [] (zr Q H M L) (aa O) j.hm ?_ ?_ ?_ underlying62
  .intro r;refine⟨aa O,?_,?_,sS,by simp;omega,C.set o _,fun p t=>?_⟩
   .have:=j.kd;rw[iT,dy];have e:L.map ((fun x=>x.1)∘fun p:VB=>(([p.1],LV.ms p.2 0 (cq p.1 H).length):AN×LV))=(L.map (·.1)).map fun v=>[v]:=by rw[dy];rfl
    rw[e];exact this.map (fun v=>[v]) fun a b x9 h=>x9 (by simpa using h)
   .intro e hee;obtain⟨p,t,rfl⟩:=aq.1 hee;exact⟨p,t,rfl⟩
   .obtain⟨h1,h2,h3⟩:=j.bx p t;have h4:¬p.2=M:=bT h3 j.hm sS;refine⟨by simp;exact h2,cq p.1 H,by rw[bP,ac h4];exact h3,.refl _,fun h=>absurd (aq.2 ⟨_,aq.2 ⟨p,t,rfl⟩,rfl⟩) h⟩
  .rintro r U e W fr s2 ⟨F3,hnd,hem,T,N,Y,Y1⟩ ft J B;obtain⟨p,t,rfl⟩:=hem e sS;obtain⟨v,q⟩:=p;obtain⟨hql,c,hcH,hcp,-⟩:=Y1 (v,q) t;have r8:c.length=(cq v H).length:=hcp.length_eq;have v8:=AD v H;simp only at r8 hcH hql hcp;have Z:=QI c q s2 oO hql hcH;rw[r8]at Z;apply cL;simp[Fg,fb]
   (refine mQ B ?_;intro J B)
   refine qE (Z) (by simp[]) ?_;rintro r st' ⟨d,z7,N3,hd3,P⟩
   (repeat' (apply cL;simp[];(refine zJ B ?_;clear B J)))
   rw[cr,ax,bw,cb]at hnd;obtain⟨nd1,⟨nd2,nd3⟩,nd4⟩:=hnd;have hMq:¬M=q:=fun h=>by rw[h,hcH]at T;cases T
   refine B _ _ ⟨aa F3,?_,fun e he=>hem e (by simp only[an,ah]at he ⊢;rcases he with h|h;exact .inl h;exact .inr (.inr h)),by rw[P.2 M hMq N];exact T,cz N P.1,?_,fun p Z7=>?_⟩ (aa ft) (by rw[P.2 M hMq N];exact T)
   .rw[cr,bw];exact⟨nd1,nd3,fun a ha b hb=>nd4 a ha b (ar _ hb)⟩
   .have hq0:Q.z<=q:=(j.bx (v,q) t).1;exact⟨er Y.z P.1,fun l hl=>by rw[P.2 l oO (cz hl Y.z)];exact Y.H l hl⟩
   .obtain⟨h1,c2,h2,h3,h4⟩:=Y1 p Z7;by_cases hpq:p.2=q
    .obtain rfl:p=(v,q):=by exact mU j.nd Z7 t hpq
     exact⟨cz h1 P.1,d,z7,N3.trans hcp,fun _=>hd3⟩
    .refine⟨cz h1 P.1,c2,by rw[P.2 _ hpq h1];exact h2,h3,fun z8=>h4 fun S=>z8 ?_⟩;rw[cr,ax,an,ah]at S;rw[cr,an];rcases S with h|h|h
     .exact .inl h
     .exfalso;simp at h;have e2:=mU j.kd Z7 t h;exact hpq (by rw[e2])
     .exact .inr h
  .rintro fr s2 ⟨F3,-,-,T,N,Y,Y1⟩;simp only[ak];have v8:∀ v,(us (cQ g.E v)).length=(cq v H).length:=fun v=>by rw[dh,<- hHH];exact(pT _).length_eq
   refine dd F3 ?_;refine⟨o,oO,Y.set o _,L.map fun p=>([p.1],p.2,us (cQ g.E p.1)),?_,?_,?_,L.map (·.1),j.kd,?_,?_⟩
   .congr 1
    rw[IP,dy,iT];refine ii fun p _=>?_;simp only[Function.comp,v8]
   .intro a q b S;obtain⟨p,t,he⟩:=aq.1 S;injection he with e1 e2;injection e2 with e2 e3;subst e1 e2 e3;obtain⟨h1,c,h2,h3,h4⟩:=Y1 p t;have h5:¬p.2=M:=fun h=>by rw[h,T]at h2;cases h2
    rw[ac h5];refine⟨(j.bx p t).1,?_⟩;rw[h2,Xu h3 (h4 sS),<- hHH];rfl
   .have:=j.nd;rw[dy];exact this
   .intro v;exact j.all v
   .rw[dy,dy];rfl
 have hd:=aS (sE g.E) k dF;have hw:=qN k oO;have u9:k*3<(sE g.E).length*3:=oO;have htk1:(sE g.E).take (k+1)=(sE g.E).take k++[(sE g.E).getD k ed0]:=by rw[cp,cg dF];exact eL dF
 have hEl:(fp ((sE g.E).take k)).length<=2000:=by rw[Fk,dn];omega
 generalize (sE g.E).getD k ed0=x at *;have U9:fp ((sE g.E).take (k+1))=fp ((sE g.E).take k)++[(x.a,x.b)]++[(x.b,x.a)]:=by rw[htk1,Qk]
 obtain⟨id,a,b⟩:=x;simp only at hd U9;generalize fp ((sE g.E).take k)=H at *;have b0:¬s.z=M:=oO;refine mu A w y dF hd hel u9 ?_;refine Nk (fun f R=>ud Q (sE g.E) M k H f R/\f 7=.pt s.z 0/\s.z<R.z/\R.H s.z=.box 36 3 [u id,u a,u b]) ?_ ?_
 .exact⟨⟨aa O,aa A,aa w,aa y,o,by simp;omega,C.trans (aA.new _ _),L,j.keeps (aA.new _ _) P9⟩,sS,sS,sS⟩
 generalize s.z=X at *;clear j C o P9 y w A O L;rintro fr s ⟨⟨O,A,w,y,o,P9,C,L,j⟩,f7,hXl,hX⟩;refine bW (fun f R=>ud Q (sE g.E) M k (H++[(a,b)]) f R/\f 7=.pt X 0/\X<R.z/\R.H X=.box 36 3 [u id,u a,u b]) ?_ ?_
 .clear hJJ;have N:=j.hm;have x1:¬X=M:=bT hX N sS;have x2:¬M=X:=fun h=>x1 h.symm;have x3:¬X=s.z:=oO;have x4:¬X=s.z+1:=oO;have y3:¬M=s.z:=oO;have y4:¬M=s.z+1:=oO;have y5:¬s.z=M:=oO;have y6:¬s.z+1=M:=oO;have v8:=AD a (H);by_cases S:a∈L.map (·.1)
  .obtain⟨p,t,rfl⟩:=aq.1 S;obtain⟨v,q⟩:=p;obtain⟨U,W,rfl⟩:=ij t;have kd:=j.kd;rw[cr,ax,bw]at kd;have M7:=wT (H:=H) (q:=q) (L1:=U) (L2:=W) (v:=v) (fun e=>kd.2.2 v e v sS rfl);obtain⟨q1,q2,q3⟩:=j.bx (v,q) sS;simp only at q1 q2 q3 v8;have z1:¬q=M:=bT q3 N sS;have z2:¬q=s.z:=oO;have z3:¬q=s.z+1:=oO;have z4:¬X=q:=bT hX q3 sS;have z5:¬M=q:=fun h=>z1 h.symm;have z6:List.take (cq v (H)).length (us (cq v (H)))=us (cq v (H)):=dp sS
   have D:=j.put (b:=b) (q':=s.z+1) (s':=(((s.new (.own 34 1 1)).set q .dead).new (.box 34 1 (us (cq v (H)++[b])))).set M (.map false [.u32] (bV (iT (H) (U++(v,q)::W)) [v] (.ms (s.z+1) 0 (cq v (H)++[b]).length)))) ⟨oO,oO,sS⟩ sS (by(repeat (first|rw[bh bm]|rw[bj oO]|rw[bi bo]|rw[bk oO]))) (fun p t h1 h2=>by
    have:=j.bx p (by rcases t with t|t<;>simp[t]);have h3:¬p.2=M:=bT this.2.2 N sS
    (repeat (first|rw[bh bm]|rw[bj oO]|rw[bi bo]|rw[bk oO]))) (by simp;omega)
   generalize hF:cq v (H)=F at *;generalize hN:iT (H) (U++(v,q)::W)=EM at *
   (refine zS [33] [X,M] [0,2,4,6,8,10,12,14,16,18,20,23] ?_;intro J B;simp[O,f7,hX,N,x1,x2,x3,x4,y3,y4,y5,y6,M7,q3,z1,z2,z3,z4,z5,z6];(repeat refine ca ?_);(refine zJ B ?_;clear B J))
   refine⟨by trivial,⟨aa O,aa A,aa w,aa y,o,by simp;omega,?_,U++(v,s.z+1)::W,?_⟩,aa f7,by simp;omega,?_⟩
   .refine⟨by have:=C.z;simp;omega,fun l hl=>?_⟩;have:=C.z
    (repeat (first|rw[bh bm]|rw[bj oO]|rw[bi bo]|rw[bk oO]));exact C.H l hl
   .simpa using D
   ·(repeat (first|rw[bh bm]|rw[bj oO]|rw[bi bo]|rw[bk oO]));exact hX
  .have M7:=xD (H:=H) S;have y9:cq a (H)=[]:=by
    cases hc:cq a (H) with
    |nil=>rfl
    |cons _ _=>exact absurd ((j.all _).1 (by rw[hc];simp)) S
   have D:=j.add (a:=a) (b:=b) (q':=s.z+1) (s':=((s.new (.own 34 1 1)).new (.box 34 1 (us (cq a (H)++[b])))).set M (.map false [.u32] (bV (iT (H) L) [a] (.ms (s.z+1) 0 (cq a (H)++[b]).length)))) S ⟨oO,oO,sS⟩ sS (by(repeat (first|rw[bh bm]|rw[bj oO]|rw[bi bo]|rw[bk oO]))) (fun p t=>by
    have:=j.bx p t;have h3:¬p.2=M:=bT this.2.2 N sS
    (repeat (first|rw[bh bm]|rw[bj oO]|rw[bi bo]|rw[bk oO]))) (by simp only[bN,aH];omega)
   rw[y9]at D;generalize hN:iT (H) L=EM at *
   (refine zS [33] [X,M] [0,2,4,6,8,10,12,14,16,18,20,23] ?_;intro J B;simp[O,f7,hX,N,x1,x2,x3,x4,y3,y4,y5,y6,M7];(repeat refine ca ?_);(refine zJ B ?_;clear B J))
   refine⟨by trivial,⟨aa O,aa A,aa w,aa y,o,by simp;omega,?_,L++[(a,s.z+1)],?_⟩,aa f7,by simp;omega,?_⟩
   .refine⟨by have:=C.z;simp;omega,fun l hl=>?_⟩;have:=C.z
    (repeat (first|rw[bh bm]|rw[bj oO]|rw[bi bo]|rw[bk oO]));exact C.H l hl
   .simpa using D
   ·(repeat (first|rw[bh bm]|rw[bj oO]|rw[bi bo]|rw[bk oO]));exact hX
 clear j C o P9 y w A O f7 hXl hX L;rintro fr s ⟨⟨O,A,w,y,o,P9,C,L,j⟩,f7,hXl,hX⟩;have hEl2:(H++[(a,b)]).length<=2001:=by rw[cf];simp only[List.length_cons,List.length_nil];omega
 generalize H++[(a,b)]=I at *;refine Br (fun f R=>ud Q (sE g.E) M k (I++[(b,a)]) f R/\f 7=.pt X 0/\X<R.z/\R.H X=.box 36 3 [u id,u a,u b]) ?_ ?_
 .clear hJJ;have N:=j.hm;have x1:¬X=M:=bT hX N sS;have x2:¬M=X:=fun h=>x1 h.symm;have x3:¬X=s.z:=oO;have x4:¬X=s.z+1:=oO;have y3:¬M=s.z:=oO;have y4:¬M=s.z+1:=oO;have y5:¬s.z=M:=oO;have y6:¬s.z+1=M:=oO;have v8:=AD b (I);by_cases S:b∈L.map (·.1)
  .obtain⟨p,t,rfl⟩:=aq.1 S;obtain⟨v,q⟩:=p;obtain⟨U,W,rfl⟩:=ij t;have kd:=j.kd;rw[cr,ax,bw]at kd;have M7:=wT (H:=I) (q:=q) (L1:=U) (L2:=W) (v:=v) (fun e=>kd.2.2 v e v sS rfl);obtain⟨q1,q2,q3⟩:=j.bx (v,q) sS;simp only at q1 q2 q3 v8;have z1:¬q=M:=bT q3 N sS;have z2:¬q=s.z:=oO;have z3:¬q=s.z+1:=oO;have z4:¬X=q:=bT hX q3 sS;have z5:¬M=q:=fun h=>z1 h.symm;have z6:List.take (cq v (I)).length (us (cq v (I)))=us (cq v (I)):=dp sS
   have D:=j.put (b:=a) (q':=s.z+1) (s':=(((s.new (.own 34 1 1)).set q .dead).new (.box 34 1 (us (cq v (I)++[a])))).set M (.map false [.u32] (bV (iT (I) (U++(v,q)::W)) [v] (.ms (s.z+1) 0 (cq v (I)++[a]).length)))) ⟨oO,oO,sS⟩ sS (by(repeat (first|rw[bh bm]|rw[bj oO]|rw[bi bo]|rw[bk oO]))) (fun p t h1 h2=>by
    have:=j.bx p (by rcases t with t|t<;>simp[t]);have h3:¬p.2=M:=bT this.2.2 N sS
    (repeat (first|rw[bh bm]|rw[bj oO]|rw[bi bo]|rw[bk oO]))) (by simp;omega)
   generalize hF:cq v (I)=F at *;generalize hN:iT (I) (U++(v,q)::W)=EM at *
   (refine zS [44] [X,M] [0,2,4,6,8,10,12,14,16,18,20,23] ?_;intro J B;simp[O,f7,hX,N,x1,x2,x3,x4,y3,y4,y5,y6,M7,q3,z1,z2,z3,z4,z5,z6];(repeat refine ca ?_);(refine zJ B ?_;clear B J))
   refine⟨by trivial,⟨aa O,aa A,aa w,aa y,o,by simp;omega,?_,U++(v,s.z+1)::W,?_⟩,aa f7,by simp;omega,?_⟩
   .refine⟨by have:=C.z;simp;omega,fun l hl=>?_⟩;have:=C.z
    (repeat (first|rw[bh bm]|rw[bj oO]|rw[bi bo]|rw[bk oO]));exact C.H l hl
   .simpa using D
   ·(repeat (first|rw[bh bm]|rw[bj oO]|rw[bi bo]|rw[bk oO]));exact hX
  .have M7:=xD (H:=I) S;have y9:cq b (I)=[]:=by
    cases hc:cq b (I) with
    |nil=>rfl
    |cons _ _=>exact absurd ((j.all _).1 (by rw[hc];simp)) S
   have D:=j.add (a:=b) (b:=a) (q':=s.z+1) (s':=((s.new (.own 34 1 1)).new (.box 34 1 (us (cq b (I)++[a])))).set M (.map false [.u32] (bV (iT (I) L) [b] (.ms (s.z+1) 0 (cq b (I)++[a]).length)))) S ⟨oO,oO,sS⟩ sS (by(repeat (first|rw[bh bm]|rw[bj oO]|rw[bi bo]|rw[bk oO]))) (fun p t=>by
    have:=j.bx p t;have h3:¬p.2=M:=bT this.2.2 N sS
    (repeat (first|rw[bh bm]|rw[bj oO]|rw[bi bo]|rw[bk oO]))) (by simp only[bN,aH];omega)
   rw[y9]at D;generalize hN:iT (I) L=EM at *
   (refine zS [44] [X,M] [0,2,4,6,8,10,12,14,16,18,20,23] ?_;intro J B;simp[O,f7,hX,N,x1,x2,x3,x4,y3,y4,y5,y6,M7];(repeat refine ca ?_);(refine zJ B ?_;clear B J))
   refine⟨by trivial,⟨aa O,aa A,aa w,aa y,o,by simp;omega,?_,L++[(b,s.z+1)],?_⟩,aa f7,by simp;omega,?_⟩
   .refine⟨by have:=C.z;simp;omega,fun l hl=>?_⟩;have:=C.z
    (repeat (first|rw[bh bm]|rw[bj oO]|rw[bi bo]|rw[bk oO]));exact C.H l hl
   .simpa using D
   ·(repeat (first|rw[bh bm]|rw[bj oO]|rw[bi bo]|rw[bk oO]));exact hX
 clear j C o P9 y w A O f7 hXl hX L;rintro fr s ⟨⟨O,A,w,y,o,P9,C,L,j⟩,f7,hXl,hX⟩;simp only[ak];refine cy y hw ?_;exact hJJ ((sE g.E).length-(k+1)) _ _ oO ⟨k+1,oO,rfl,aa O,aa A,aa w,sS,o,P9,C,L,by rw[U9];exact j⟩
def XA(a:List Ed)(v:Int):Option LV:=if cQ a v=[]then none else some (.sl 0 (cQ a v).length (us (cQ a v)))
theorem EB{a:List Ed}(v:Int):∀ {K:AN},bQ (K.map fun v=>(([v],.sl 0 (cQ a v).length (us (cQ a v))):AN×LV)) [v]=if v∈K then some (.sl 0 (cQ a v).length (us (cQ a v)))else none
 |[]=>rfl
 |k::K=>by
  simp only[ax,bQ];by_cases h:v=k
  .subst h;simp
  .have b:¬([v]==[k])=true:=by simpa using h
   rw[ac b,EB v (K:=K)];simp[h]
def WU(g:Gr)(d:St)(c:g.V.length<=1048576)(t:g.E.length<=1000)(w:0<d.z):
 aB prog 179 [.ag (bv g)] d fun r a=>∃ m j,r=.mp m/\d.z<=m/\m<a.z/\aA d a/\a.H m=.map false [.u32] j/\∀ v,bQ j [v]=XA g.E v:=by
 refine(CU (R:=fun L=>∃ K:AN,K.Nodup/\(∀ v,cq v (fp (sE g.E))≠[]↔v∈K)/\L.map (fun p=>(p.1,p.2.2))=K.map fun v=>([v],us (cQ g.E v))) (UB g d c t w)).mono ?_;rintro r a ⟨m,L,rfl,n,f,o,q,K,x,b,s⟩;refine⟨m,_,rfl,n,f,o,q,fun v=>?_⟩;have e:IY L=K.map fun v=>([v],.sl 0 (cQ g.E v).length (us (cQ g.E v))):=by
  have l:IY L=(L.map fun p=>(p.1,p.2.2)).map fun p=>(p.1,LV.sl 0 p.2.length p.2):=by rw[dy];rfl
  rw[l,s,dy];refine ii fun v _=>?_;simp
 rw[e,EB];unfold XA;have k:cQ g.E v=[]↔cq v (fp (sE g.E))=[]:=by
  have:=(pT (cq v (fp (sE g.E)))).length_eq;unfold cQ;constructor
  .intro h;rw[h]at this;exact gI this.symm
  .intro h;rw[h];rfl
 by_cases c:v∈K
 .rw[ad c,ac (fun h=>(b v).2 c (k.1 h))]
 .rw[ac c]
  split
  .rfl
  .rename_i h;exact absurd ((b v).1 fun f=>h (k.2 f)) c
def sJ(A:fX):List (AN×LV):=A.map fun p=>([p.1],u p.2)
def JA(A:fX)(v:Int):bQ (sJ A) [v]=(kD A v).map u:=by
 induction A with
 |nil=>rfl
 |cons p A a=>
  simp only[sJ,ax,bQ,kD]at a ⊢;by_cases h:v=p.1
  .subst h;simp
  .rw[ac (by simpa using h),ac h];exact a
def QC{A:fX}{v w:Int}(h:v∉A.map (·.1)):bV (sJ A) [v] (u w)=sJ (A++[(v,w)]):=by
 induction A with
 |nil=>rfl
 |cons p A a=>simp only[ax,ah,gy]at h;have a:=a h.2;simp only[sJ,ax,List.cons_append,bV]at a ⊢;rw[ac (by simpa using h.1),a]
def back(A:fX)(h:Nat)(SZ g:Int)(n:Nat)(l:AN)(f:St)(X:n<=100000)(I:iM A SZ n g=some l)(S:h<f.z)(M:f.H h=.map false [.u32] (sJ A)):
 aB prog 180 [.mp h,u SZ,u g] f fun r p=>r=.sl 0 (g::l).reverse.length (us (g::l).reverse)/\aA f p:=by
 have Q:=Ds I;refine cE ?_;refine zN func180 ntmps180 [.tmp 6] ?_
 (repeat' (first|apply qS|apply qB|(refine w_e [10] ?_;intro J d;simp only[];simp[];(refine zJ d ?_;clear d J))))
 refine qL (fun k j s=>∃(v:Int) (W R:AN),iM A SZ k v=some R/\g::l=W++R/\k<=n/\W.length+k<=n+1/\j 0=.mp h/\j 1=u SZ/\j 8=u v/\∃ q,j 7=.ms q 0 W.length/\s.H q=.box 34 1 (us W)/\f.z<=q/\q<s.z/\aA f s) n ?_ ?_
 .exact⟨g,[g],l,I,rfl,oO,by simp;omega,sS,sS,sS,f.z,sS,sS,au _,sS,aA.new _ _⟩
 rintro k j s ⟨v,W,R,b,D,V,O,B,t,C,q,w,E,e,T,y⟩ U o;have m:s.H h=.map false [.u32] (sJ A):=by rw[y.H h S];exact M
 have P:=JA A v;by_cases c:v=SZ
 .clear o;have N:R=[]:=by cases k<;>(simp only[iM,ad c,ap]at b;exact b.symm)
  subst N;rw[eP]at D;have a:(v != SZ)=false:=by simpa using c
  (refine tv t C c a w ?_;intro J d)
  refine qE (zP W q s (by unfold small;omega) E) (by simp[]) ?_;rintro r p rfl;refine pH d w ?_;exact⟨q,W.length,⟨rfl,rfl⟩,34,1,us W.reverse,sS,sS,by subst D;simp,(y.set e _).set e _⟩
 .cases k with
  |zero=>simp only[iM,ac c]at b;cases b
  |succ k=>
   simp only[iM,ac c,jp]at b;obtain⟨L,b,rfl⟩:=b;have a:(v != SZ)=true:=by simpa using c
   have F:((bQ (sJ A) [v]).getD (u 0))=u ((kD A v).getD 0):=by rw[P];cases kD A v<;>rfl
   generalize (kD A v).getD 0=x at *;have K:¬q=s.z:=oO;have C4:List.take W.length (us W)=us W:=dp sS
   (repeat' (first|apply qS|apply qB|refine qK (zZ ?_)|(apply qC;simp[B,t,C,c,a,w,m,F,K,E,C4])|(refine zE ?_;intro J d;simp[B,t,C,c,a,w,m,F,K,E,C4];(repeat refine ca ?_);(refine zJ d ?_;clear d J))))
   refine o k _ _ oO ⟨x,W++[x],L,b,by rw[D];simp,oO,by simp;omega,aa B,aa t,sS,s.z+1,sS,sS,by have:=y.z;omega,sS,?_⟩;exact(((y.trans (aA.new _ _)).set e _).trans (aA.new _ _))
def Rx(b:LV)(a:Int->Bool)(d:St):Prop:=
 (b=.atom .nilFunc/\∀ v,a v=true)\/∃ f IQ,b=.fn (.func f) IQ/\IQ.map norm=IQ/\∀ v s,aA d s->aB prog f (u v::IQ) s fun r c=>r=bb (a v)/\aA s c
structure ue(j8:St)(A:fX)(Q:AN)(Ma Mn tq o:Nat)(es:List (AN×LV))(s:St):Prop where
 ha:s.H Ma=.map false [.u32] (sJ A)
 hn:s.H Mn=.map false [.u32] es
 hq:s.H tq=.que 34 (o+Q.length)
 b:j8.z<=Ma/\j8.z<=Mn/\j8.z<=tq/\Ma<s.z/\Mn<s.z/\tq<s.z/\tq≠0/\¬Mn=Ma
 kp:aA j8 s
def Path(g:Gr)(SZ C:Int)(th:LV)(b:Int->Bool)(n:Nat)(l:AN)(st:St)(hv:g.V.length<=1048576)(he:g.E.length<=1000)(hn:n<=1000)(hm:Rx th b st)(F:uT g.V (cQ g.E) b SZ C n=some l):
 aB prog 139 [.ag (bv g),u SZ,u C,th] st fun r st'=>r=.sl 0 l.length (us l)/\aA st st':=by
 have hth:norm th=th:=by rcases hm with⟨rfl,_⟩|⟨f,c,rfl,_,_⟩<;>rfl
 refine eS ?_;refine zN func139 ntmps139 [.tmp 8] ?_;refine iF fun P4=>?_
 (refine eu ?_;intro J w)
 refine qE (Tv g SZ _ hv) sS ?_;rintro r s1 ⟨rfl,o6⟩;have K5:=o6.z;simp only[aH]at K5;have Y8:s1.H st.z=.box 25 2 (bv g):=by rw[o6.H _ sS];simp
 have Y4:aA st s1:=(aA.new _ _).trans o6;clear o6;unfold uT at F;by_cases hf:SZ∈g.V;rotate_left
 .have h0:gi g.V SZ<0:=(AO _ _).2 hf;rw[ad (.inl hf)]at F;injection F with F;subst F
  (apply cL;simp[h0];(refine zJ w ?_;clear w J))
  refine bz ?_;exact⟨rfl,Y4⟩
 have h0:¬gi g.V SZ<0:=fun h=>(AO _ _).1 h hf
 (apply cL;simp[h0,Y8])
 refine qE (Tv g C _ hv) sS ?_;rintro r s2 ⟨rfl,u5⟩;have N0:=u5.z;have hG2:=(u5.H st.z oO).trans Y8;have hkp2:=Y4.trans u5;clear u5 Y4 Y8 h0;by_cases ht:C∈g.V;rotate_left
 .have h0:gi g.V C<0:=(AO _ _).2 ht;rw[ad (.inr ht)]at F;injection F with F;subst F
  (apply cL;simp[h0];(refine zJ w ?_;clear w J))
  refine bz ?_;exact⟨rfl,hkp2⟩
 have h0:¬gi g.V C<0:=fun h=>(AO _ _).1 h ht;rw[ac (by simp[hf,ht])]at F
 (apply cL;simp[h0];(refine zJ w ?_;clear w J))
 by_cases hft:SZ=C
 .rw[ad hft]at F;injection F with F;subst F;refine dd hft ?_;refine⟨by simp[z0,dw,hft],hkp2.trans (aA.new _ _)⟩
 rw[ac hft]at F
 (refine oj hft hG2 ?_;intro J w)
 refine qE (WU g _ hv he oO) sS ?_;rintro r s3 ⟨Y,es,rfl,m1,m2,u9,hMn,hes⟩;have hn3:=u9.z;have hkp3:=hkp2.trans u9;obtain⟨R0,hbfs,hR0⟩:∃ R0,lD (cQ g.E) b C n [(SZ,SZ)] [SZ]=some R0/\((R0=none/\l=[])\/∃ A l',R0=some A/\iM A SZ n C=some l'/\l=(C::l').reverse):=by
  cases hb:lD (cQ g.E) b C n [(SZ,SZ)] [SZ] with
  |none=>rw[hb]at F;cases F
  |some R0=>
   rw[hb]at F;cases R0 with
   |none=>injection F with F;exact⟨_,rfl,.inl ⟨rfl,F.symm⟩⟩
   |some A=>simp only[jp]at F;obtain⟨l',h1,h2⟩:=F;exact⟨_,rfl,.inr ⟨A,l',rfl,h1,h2.symm⟩⟩
 clear F;refine dB w ?_;refine Xh 11 (t:=s3.z+1) (n:=1) (e:=34) (cs:=[u SZ]) sS sS oO oO ?_;have hc0:¬Y=s3.z:=oO;have hc1:¬Y=s3.z+1:=oO;refine qL (fun k I s=>∃(A:fX) (Q:AN) (L o:Nat),lD (cQ g.E) b C k A Q=some R0/\k<=n/\Q.length+2000*k<=2000*n+1/\I 1=u SZ/\I 2=u C/\I 3=th/\I 9=.mp Y/\I 10=.mp s3.z/\I 11=.qu L o Q.length (us Q)/\ue st A Q s3.z Y L o es s) n ?_ ?_
 .refine⟨_,_,s3.z+1,0,hbfs,au _,by simp;omega,sS,sS,sS,sS,sS,sS,?_⟩;refine⟨by simp[sJ,bV],gv hc0 hc1 hMn,sS,⟨oO,oO,oO,by simp;omega,by simp;omega,sS,oO,hc0⟩,?_⟩;exact(((hkp3.trans (aA.new _ _)).trans (aA.new _ _)).set (q:=s3.z+1) oO _)
 generalize s3.z=Ma at *;clear u9 hn3 hkp3 hMn m1 m2 hG2 hkp2 N0 K5 hc0 hc1 hbfs;rintro k I s ⟨A,Q,L,o,hb,hk,hQ,U,W,X,Z,p,d,K,O,N,⟨b1,b2,b3,b4,b5,b6,b7,b8⟩,o7⟩ JJ hJJ;cases Q with
 |nil=>
  clear hJJ;have h1:R0=none:=by cases k<;>(simp only[lD,ap]at hb;exact hb.symm)
  subst h1;rcases hR0 with⟨_,rfl⟩|⟨_,_,h,_⟩
  .refine dd d ?_;exact⟨rfl,o7⟩
  .cases h
 |cons v Q=>
 cases k with
 |zero=>simp[lD]at hb
 |succ k=>
 have hQl:(Q.length:Int)+1 > 0:=oO;have j5:=hes v;have hrl:=NB g.E v;simp only[lD]at hb;generalize hrw:cQ g.E v=a at *;have hslc:List.take (Q.length+1-1) (us Q)=us Q:=dp sS;have hbn:¬(Q.length:Int)+1<=0:=oO
 (repeat (first|apply qS|apply qB))
 (refine zE ?_;intro J w;simp[d,hQl];(refine zJ w ?_;clear w J))
 (repeat (first|apply qS|apply qB))
 (apply qC;simp[])
 refine qK ?_;simp only[ak]
 (repeat (first|apply qS|apply qB))
 (refine zE ?_;intro J w;simp[d,hQl];(refine zJ w ?_;clear w J))
 (repeat (first|apply qS|apply qB))
 (refine zE ?_;intro J w;simp[d,hQl,hslc];(repeat refine ca ?_);(refine zJ w ?_;clear w J))
 apply qS;refine bW (fun f R=>R=s/\f 1=u SZ/\f 2=u C/\f 3=th/\f 9=.mp Y/\f 10=.mp Ma/\f 11=.qu L (o+1) Q.length (us Q)/\f 12=u v/\(f 50=.nil/\a=[]\/f 50=.sl 0 a.length (us a))/\f 51=i a.length/\f 52=i (0:Nat)) ?_ ?_
 .clear hJJ;unfold XA at j5;rw[hrw]at j5;by_cases hr0:a=[]
  .rw[ad hr0]at j5;refine fk Z O j5 ?_;simp[U,W,X,Z,p,hr0]
  .rw[ac hr0]at j5;refine fk Z O j5 ?_;simp[U,W,X,Z,p]
 clear U W X Z p d I j5;rintro I R ⟨rfl,U,W,X,Z,p,d,D,B,f51,f52⟩;apply qB;refine bH 52 51 53 84 a.length (fun j I st2=>I 1=u SZ/\I 2=u C/\I 3=th/\I 9=.mp Y/\I 10=.mp Ma/\I 12=u v/\(I 50=.nil/\a=[]\/I 50=.sl 0 a.length (us a))/\(dS b C v ⟨A,Q,false⟩ (a.take j)).hit=false/\∃ L o,I 11=.qu L o (dS b C v ⟨A,Q,false⟩ (a.take j)).Q.length (us (dS b C v ⟨A,Q,false⟩ (a.take j)).Q)/\ue st (dS b C v ⟨A,Q,false⟩ (a.take j)).A (dS b C v ⟨A,Q,false⟩ (a.take j)).Q Ma Y L o es st2) ?_ ?_ ?_ (hti:=f52) (htn:=f51)
 .refine⟨U,W,X,Z,p,D,B,rfl,L,o+1,d,⟨K,O,?_,⟨b1,b2,b3,b4,b5,b6,b7,b8⟩,o7⟩⟩;rw[N];simp only[List.take_zero,dS,List.foldl_nil,List.length_cons]
  congr 1
  omega
 .clear U W X Z p d D B f51 f52 K O N b1 b2 b3 b4 b5 b6 b7 b8 o7 I hJJ;rintro j I s dF ⟨U,W,X,Z,p,D,B,hh,L,o,d,K,O,N,⟨b1,b2,b3,b4,b5,b6,b7,b8⟩,o7⟩ fi fn J w;have B:I 50=.sl 0 a.length (us a):=by
   rcases B with⟨_,h⟩|h
   .rw[h]at dF;simp at dF
   .exact h
  have hd:=qG a j dF;have C4:a.take (j+1)=a.take j++[a.getD j 0]:=by rw[cp,cg dF];exact eL dF
  have M:=Jf b C v ⟨A,Q,false⟩ (a.take j) (a.getD j 0);rw[<- C4]at M;have hsl:=Dw b C v ⟨A,Q,false⟩ (a.take j);simp only[dn]at hsl;have hfull:(dS b C v ⟨A,Q,false⟩ (a.take (j+1))).hit=true->dS b C v ⟨A,Q,false⟩ a=dS b C v ⟨A,Q,false⟩ (a.take (j+1)):=by intro h;have:a=a.take (j+1)++a.drop (j+1):=(gd _ _).symm;rw[this,dS,lq];have h2:=Dn b C v h (a.drop (j+1));simp only[dS]at h2 ⊢;rw[h2];simp
  generalize a.getD j 0=x at *;generalize hS:dS b C v ⟨A,Q,false⟩ (a.take j)=S at *;obtain⟨T,SQ,Sh⟩:=S;simp only at hh d K N hsl;subst hh;have P:=JA T x;have hqa:¬L=Ma:=bT N K sS;have U5:¬L=Y:=bT N O sS;have hqa':¬Ma=L:=fun h=>hqa h.symm;have hqn':¬Y=L:=fun h=>U5 h.symm;by_cases n9:x∈T.map (·.1)
  .obtain⟨y,hy⟩:=AL n9;rw[hy]at P;simp only[Option.map_some]at P;have h1:gO b C v ⟨T,SQ,false⟩ x=⟨T,SQ,false⟩:=by simp[gO,n9]
   rw[h1]at M;refine Wq w p B fi fn hd dF K P ?_;refine w _ _ (aa fi) (aa fn) ⟨aa U,aa W,aa X,aa Z,aa p,aa D,.inr (aa B),by rw[M],L,o,by rw[M];simp[d],by rw[M];exact⟨K,O,N,⟨b1,b2,b3,b4,b5,b6,b7,b8⟩,o7⟩⟩
  rw[BB n9]at P;simp only[Option.map_none]at P;have hms:bV (sJ T) [x] (u v)=sJ (T++[(x,v)]):=QC n9;by_cases hxt:x=C
  .clear w;subst hxt;have h1:gO b x v ⟨T,SQ,false⟩ x=⟨T++[(x,v)],SQ,true⟩:=by unfold gO;rw[ac sS,ac n9,ad rfl]
   rw[h1]at M;have hf2:=hfull (by rw[M]);rw[hf2,M]at hb;simp only[dE,ap]at hb;subst hb;rcases hR0 with⟨h,_⟩|⟨A2,l',h,hbk,rfl⟩
   .cases h
   injection h with h;subst h
   (refine H9 U W p D B fi fn hd dF K P hms ?_;intro J w)
   refine qE (back (T++[(x,v)]) Ma SZ x n l' _ oO hbk (by simp;exact b4) sS) sS ?_;rintro r s4 ⟨rfl,M0⟩;refine dB w ?_;refine⟨by simp only[z0];congr 1;have:=HY (x::l').reverse;simpa using this,?_⟩;exact(o7.set b1 _).trans M0
  have h1:gO b C v ⟨T,SQ,false⟩ x=⟨T++[(x,v)],if b x=true then SQ++[x]else SQ,false⟩:=by unfold gO;rw[ac sS,ac n9,ac hxt]
  rw[h1]at M;have tn0:¬L=s.z:=oO;have hQ2:SQ.length<=3000000:=by simp only[List.length_cons]at hQ;omega
  have hT2:∀ m R,R.H Ma=.map false [.u32] (sJ (T++[(x,v)]))->R.H Y=.map false [.u32] es->R.H m=.que 34 (0+(SQ++[x]).length)->st.z<=m->m<R.z->s.z<=R.z->aA st R->ue st (T++[(x,v)]) (SQ++[x]) Ma Y m 0 es R:=fun m R h1 h2 h3 h4 h5 h6 h7=>⟨h1,h2,h3,⟨b1,b2,h4,oO,oO,h5,oO,b8⟩,h7⟩;have hT1:∀ R,R.H Ma=.map false [.u32] (sJ (T++[(x,v)]))->R.H Y=.map false [.u32] es->R.H L=.que 34 (o+SQ.length)->s.z<=R.z->aA st R->ue st (T++[(x,v)]) SQ Ma Y L o es R:=fun R h1 h2 h3 h6 h7=>⟨h1,h2,h3,⟨b1,b2,b3,oO,oO,oO,b7,b8⟩,h7⟩;rcases hm with⟨rfl,hm⟩|⟨f,IQ,rfl,hcaps,hm⟩
  .rw[ad (hm x)]at M
   (repeat' (first|apply qS|refine qK (zZ ?_)|(apply qC;simp[U,W,X,p,d,D,B,fi,fn,hd,dF,K,P,hms,hxt,N,hqa,U5,hqa',hqn',tn0])|(refine zE ?_;intro J w;simp[U,W,X,p,d,D,B,fi,fn,hd,dF,K,P,hms,hxt,N,hqa,U5,hqa',hqn',tn0];(repeat refine ca ?_);(refine zJ w ?_;clear w J))))
   refine w _ _ (aa fi) (aa fn) ⟨aa U,aa W,aa X,aa Z,aa p,aa D,.inr (aa B),by rw[M],s.z+1,0,by rw[M];simp,?_⟩;rw[M];refine hT2 _ _ (by(repeat (first|rw[bh bm]|rw[bj oO]|rw[bi bo]|rw[bk oO]))) (by(repeat (first|rw[bh bm]|rw[bj oO]|rw[bi bo]|rw[bk oO]));exact O) (by(repeat (first|rw[bh bm]|rw[bj oO]|rw[bi bo]|rw[bk oO]));simp) oO sS (by simp;omega) ?_;exact((((o7.set b1 _).trans (aA.new _ _)).set b3 _).trans (aA.new _ _))
  ·(refine Yr w U W X p d D B fi fn hd dF K P hms hxt ?_;intro J w)
   have hkz:aA st (s.set Ma (.map false [.u32] (sJ (T++[(x,v)])))):=o7.set b1 _;refine qE (hm x _ hkz) (aa hcaps) ?_;rintro r s4 ⟨rfl,M0⟩;have hn4:=M0.z;simp only[bN]at hn4;have hPa4:s4.H Ma=.map false [.u32] (sJ (T++[(x,v)])):=by rw[M0.H Ma (by simp;exact b4)];simp
   have hPn4:s4.H Y=.map false [.u32] es:=by rw[M0.H Y (by simp;exact b5)];simp[b8,O]
   have hPq4:s4.H L=.que 34 (o+SQ.length):=by rw[M0.H L (by simp;exact b6)];simp[hqa,N]
   have tn4:¬L=s4.z:=oO;cases hmy:b x
   .rw[hmy,ac sS]at M
    (repeat' (first|refine qK (zZ ?_)|(apply qC;simp[d])|(apply cL;simp[d];(refine zJ w ?_;clear w J))))
    refine w _ _ (aa fi) (aa fn) ⟨aa U,aa W,aa X,aa Z,aa p,aa D,.inr (aa B),by rw[M],L,o,by rw[M];simp[d],?_⟩;rw[M];exact hT1 _ hPa4 hPn4 hPq4 hn4 (hkz.trans M0)
   .rw[hmy,ad rfl]at M
    (repeat' (first|(apply qC;simp[d,hPq4,tn4])|((first|(refine zE ?_;intro J w)|(apply cL));simp[d,hPq4,tn4];(repeat refine ca ?_);(refine zJ w ?_;clear w J))))
    refine w _ _ (aa fi) (aa fn) ⟨aa U,aa W,aa X,aa Z,aa p,aa D,.inr (aa B),by rw[M],s4.z+1,0,by rw[M];simp,?_⟩;rw[M];refine hT2 _ _ (by(repeat (first|rw[bh bm]|rw[bj oO]|rw[bi bo]|rw[bk oO]));exact hPa4) (by(repeat (first|rw[bh bm]|rw[bj oO]|rw[bi bo]|rw[bk oO]));exact hPn4) (by(repeat (first|rw[bh bm]|rw[bj oO]|rw[bi bo]|rw[bk oO]));simp) oO sS (by simp;omega) ?_;exact((((hkz.trans M0).trans (aA.new _ _)).set b3 _).trans (aA.new _ _))
 .rintro I s ⟨U,W,X,Z,p,D,B,hh,L,o,d,hB⟩;rw[gm]at hh d hB;rw[ac (by rw[hh];simp)]at hb;have hsl:=Dw b C v ⟨A,Q,false⟩ a;simp only at hsl;simp only[ak];refine hJJ k _ _ oO ⟨_,_,L,o,hb,oO,by simp only[List.length_cons]at hQ;omega,aa U,aa W,aa X,aa Z,aa p,aa d,hB⟩
def Ng{b:AN}{v:Int}(h:v∉b):bQ (vR b) [v]=none:=by
 have c:∀(L:List Nat),(∀ j∈L,j<b.length)->bQ (L.map fun k=>(([b.getD k 0],i k):AN×LV)) [v]=none:=by
  intro L;induction L with
  |nil=>intro _;rfl
  |cons j L g=>intro d;have a:=d j sS;have f:¬v=b.getD j 0:=fun e=>h (by rw[e,bA _ _ a];exact dq _);simp only[ax,bQ];rw[ac (by simpa using f)];exact g fun j a=>d j (ar _ a)
 exact c _ fun j a=>fC.1 a
def NK(a:AN)(v:Int):Int:=if v∈a then v else a.getD 0 0
def Yf{g:AN}{S t:Nat}{l:St}(n:lf g S t l)(o:g.Nodup)(h:g.length<=64)(q:0<g.length)(v:Int):
 aB prog 137 [.pt S 0,u v] l fun r m=>r=wv (mk g [NK g v])/\m=l:=by
 unfold NK;by_cases j:v∈g
 .rw[ad j];exact VD n o h j
 .rw[ac j];obtain⟨⟨a,b,c,d,e,f,p⟩,hP⟩:=n;have s:=Ng j;have k:=Ll o h q;have k:Ee .u64 1 0=mk g [g.getD 0 0]:=k;refine zN func137 ntmps137 [.tmp 4] ?_;exact yz p hP s k
def iw(b a:AN)(v:Int):Bool:=decide (NK b v∈a)
def YU{a inner:AN}(b:a.length<=64){v:Int}(c:v∈a):((wJ .u64 (mk a [v]) (mk a inner):Int) != 0)=decide (v∈inner):=by
 rw[RP _ _ _ b];by_cases h:v∈inner
 .have:mk a ([v].filter fun v=>decide (v∈inner))≠0:=fun e=>by have:=(mk_zero _ _).1 e v c;simp[h]at this
  simpa[h]using this
 .have:mk a ([v].filter fun v=>decide (v∈inner))=0:=(mk_zero _ _).2 fun w _=>by simp[h]
  rw[this];simp[h]
def Yz{vs inner:AN}{e:LV}{S pl a b:Nat}{st:St}(l:lf vs S pl st)(n:vs.Nodup)(c:vs.length<=64)(g:0<vs.length)(m:st.H a=.box 130 1 [.pt S 0])(j:st.H b=.box 138 2 [wv (mk vs inner),e])(v:Int):
 aB prog 145 [u v,.pt a 0,.pt b 0] st fun r f=>r=bb (iw vs inner v)/\f=st:=by
 have d:NK vs v∈vs:=by
  unfold NK;by_cases h:v∈vs
  .rw[ad h];exact h
  .rw[ac h,bA _ _ g];exact dq _
 have o:=YU (inner:=inner) c d;unfold iw;refine zN func145 ntmps145 [.tmp 4] ?_;refine bz ?_
 (refine zS [] [a,b] [0,2,6,8,4,10,12,14] ?_;intro J k;simp[m,j])
 refine fI (Yf l n c g v) ?_;refine⟨fun h=>by first|(cases h;done)|exact fun _ _=>rfl|simp,?_⟩
 (apply bM;simp[j,o];refine zJ k ?_)
 exact tt
def F8{j f:AN}{e:LV}{S l a b c:Nat}{g:St}(L:lf j S l g)(O:j.Nodup)(m:j.length<=64)(K:0<j.length)(M:g.H a=.box 130 1 [.pt S 0])(N:g.H b=.box 138 2 [wv (mk j f),e])
 (w:g.H c=.box 145 1 [.fn (.func 145) [.pt a 0,.pt b 0]]) (dF:S<g.z/\l<g.z/\a<g.z/\b<g.z/\c<g.z) (x:Ed):
 aB prog 146 [.ag (dl x),.pt c 0] g fun r n=>r=bb (iw j f x.a||iw j f x.b)/\aA g n:=by
 obtain⟨d,p,q⟩:=x;obtain⟨⟨B,C,D,E,F,I,A⟩,hP⟩:=L;have k:=aA.new g (.box 36 3 (dl ⟨d,p,q⟩));have t:=fun v=>Yz (vs:=j) (inner:=f) (e:=e) (S:=S) (pl:=l) (a:=a) (b:=b) (st:=g.new (.box 36 3 (dl ⟨d,p,q⟩))) ⟨⟨B,C,D,E,F,I,(k.H S dF.1).trans A⟩,(k.H l dF.2.1).trans hP⟩ O m K ((k.H a dF.2.2.1).trans M) ((k.H b dF.2.2.2.1).trans N) v;have o:¬c=g.z:=oO;refine zN func146 ntmps146 [.tmp 3] ?_
 (refine oj w o ?_;intro J s)
 refine jh (t p) ?_;cases y:iw j f p
 ·(apply cL;simp[w,o])
  refine jh (t q) ?_;refine dB s ?_;exact⟨fun h=>(by rw[y]at h;cases h),k⟩
 .refine dB s ?_;exact⟨.inl y,k⟩
def LO(g:Gr)(f:FuncId)(IQ:List LV)(p:Ed->Bool)(b:St)(j:g.V.length<=1000)(d:g.E.length<=1000)(e:Dx f IQ b g.E p):
 aB prog 14 [.ag (bv g),.fn (.func f) IQ] b fun r a=>r=.ag (bv ⟨g.V,g.E.filter p⟩)/\aA b a:=by
 refine eS ((E8 g f IQ p b j d e).mono ?_);rintro r a ⟨⟨X,rfl,c⟩,hk⟩;refine⟨?_,hk⟩;simp only[z0,dw,HY]
 congr 1
 rcases c with⟨rfl,h⟩|⟨t,rfl⟩
 .rw[h];simp[z0]
 .simp only[z0,zF]
def sQ(g:Gr)(c:AN):Gr:=⟨g.V,g.E.filter fun x=>iw g.V c x.a||iw g.V c x.b⟩
def Ct(g:Gr)(b:dm):Int:=g.V.getD (fst' g.V b.ends) 0
def lO(g:Gr)(b:dm):AN:=b.ends.filter fun w=>decide (w≠Ct g b)
def nu(g:Gr)(b:dm):Int:=g.V.getD (fst' g.V (lO g b)) 0
def Mx(g:Gr)(b:dm):Option AN:=
 if fst' g.V b.ends<g.V.length/\fst' g.V (lO g b)<g.V.length then
  if dT g.V b.inner=[]then some [Ct g b,nu g b]else uT g.V (cQ (sQ g b.inner).E) (iw g.V b.inner) (Ct g b) (nu g b) 1000
 else none
def D4{g:Gr}(U:GP g){L:List (Int×Int)}{on:AN}{F:List AN}{S nl pl ll fl:Nat}{le:List (AN×LV)}{c:St}(C:ShA g L on F S nl pl ll fl le c){b:dm}(hb:∀ v∈b.ends,v∈g.V){w:AN}(k:Mx g b=some w):
 aB prog 103 [.pt S 0,Uh g.V b] c fun r st'=>r=.sl 0 w.length (us w)/\st'=c:=by
 refine qT (Q:=fun r=>r=.sl 0 w.length (us w)) (eS ?_) fun r h=>by subst h;exact⟨.inl rfl,yW _ _⟩
 have d:=U.h64;have he:=U.he;have hn:g.V.Nodup:=U.toGoodE.toGood.nodup;unfold Mx at k;by_cases hq:fst' g.V b.ends<g.V.length/\fst' g.V (lO g b)<g.V.length
 case neg=>rw[ac hq]at k;cases k
 rw[ad hq]at k;obtain⟨j,M⟩:=hq;have h0:0<g.V.length:=oO;have R:=Fy d j;have T:=Fy d M;have Z:=nN g.V b.ends d;have hl2:=nN g.V (lO g b) d;have n:=MI d hn j;have n:wJ .u64 (mk g.V b.ends) (IntKind.u64.wrap ((mk g.V b.ends:Int)-1))=mk g.V (lO g b):=n;have z7:=qG g.V _ j;have K:=qG g.V _ M;have z7:(us g.V).drop (fst' g.V b.ends)=u (Ct g b)::us (g.V.drop (fst' g.V b.ends+1)):=z7;have K:(us g.V).drop (fst' g.V (lO g b))=u (nu g b)::us (g.V.drop (fst' g.V (lO g b)+1)):=K;have W:(fst' g.V b.ends:Int)<g.V.length:=oO;have X:(fst' g.V (lO g b):Int)<g.V.length:=oO;have y:=fun c=>Tz (mk g.V b.ends) Z c;have A:=fun c=>Tz (mk g.V (lO g b)) hl2 c;rw[R]at y;rw[T]at A;have I:=C.r.box;have dF:=C.r.lt;have x1:¬S=c.z:=oO;have x2:¬S=c.z+1:=oO;generalize Ct g b=fm at *;generalize nu g b=B at *;generalize fst' g.V b.ends=k1 at *;generalize fst' g.V (lO g b)=k2 at *;generalize lO g b=E2 at *;have e0:¬c.z=c.z+1:=oO;refine zN func103 ntmps103 [.tmp 4] ?_;refine bz ?_
 (refine zS [] [S,c.z,c.z+1] [0,2,4,6,8,10,12,14,16,18,20] ?_;intro J f;simp[I,x1,x2,e0])
 refine fI (y _) ?_;refine⟨fun h=>by first|(cases h;done)|exact fun _ _=>rfl|simp,?_⟩
 (apply bM;simp[z7,W,j];(refine zJ f ?_;clear f J))
 (repeat (apply qS))
 (refine zS [] [S,c.z,c.z+1] [0,2,4,6,8,10,12,14,16,18,20,22,24,26,28] ?_;intro J f;simp[I,x1,x2,e0,n])
 refine fI (A _) ?_;refine⟨fun h=>by first|(cases h;done)|exact fun _ _=>rfl|simp,?_⟩
 (apply bM;simp[K,X,M];(refine zJ f ?_;clear f J))
 have hz0:mk g.V []=0:=(mk_zero g.V []).2 fun _ _=>by simp
 by_cases D:dT g.V b.inner=[]
 .rw[ad D]at k;obtain rfl:[fm,B]=w:=by simpa using k
  have hm:mk g.V b.inner=0:=by rw[<- GD,D,hz0]
  refine dd hm ?_;exact⟨by simp[z0,dw],((aA.new _ _).trans (aA.new _ _)).trans (aA.new _ _)⟩
 .rw[ac D]at k
  have hm:mk g.V b.inner≠0:=fun h=>D (by
   rw[<- GD,mk_zero]at h
   exact ov.2 fun v hv=>h v (cx.1 hv).1 hv)
  have hmb:((mk g.V b.inner:Int)==0)=false:=by simpa using hm
  have x3:¬S=c.z+1+1:=oO
  have hT:∀ e,aA c e->c.z+2<e.z->e.H c.z=.box 130 1 [.pt S 0]->e.H (c.z+1)=.box 138 2 [wv (mk g.V b.inner),wv (mk g.V b.ends)]->e.H (c.z+1+1)=.box 145 1 [.fn (.func 145) [.pt c.z 0,.pt (c.z+1) 0]]->
   Dx 146 [.pt (c.z+1+1) 0] e g.E fun x=>iw g.V b.inner x.a||iw g.V b.inner x.b:=fun e u9 hn3 l m P x _ st2 p=>by
   have N0:=p.z;exact F8 (C.keep (u9.trans p)).r.b hn d h0 ((p.H _ oO).trans l) ((p.H _ oO).trans m) ((p.H _ oO).trans P) oO x
  have hM:∀ e,aA c e->c.z+2<e.z->e.H c.z=.box 130 1 [.pt S 0]->e.H (c.z+1)=.box 138 2 [wv (mk g.V b.inner),wv (mk g.V b.ends)]->
   Rx (.fn (.func 145) [.pt c.z 0,.pt (c.z+1) 0]) (iw g.V b.inner) e:=fun e u9 hn3 l m=>.inr ⟨_,_,rfl,rfl,fun v s Y=>by
   refine(Yz (C.keep (u9.trans Y)).r.b hn d h0 ((Y.H _ oO).trans l) ((Y.H _ oO).trans m) v).mono ?_;rintro r s' ⟨h1,rfl⟩
   exact⟨h1,aA.refl _⟩⟩
  (refine tv hmb I x1 x2 x3 ?_;intro J f)
  refine qE (LO g _ _ _ _ oO oO (hT _ ?_ ?_ ?_ ?_ ?_)) (by simp[bv]) ?_
  .exact(((aA.new _ _).trans (aA.new _ _)).trans (aA.new _ _)).set oO _
  .simp
  ·(repeat (first|rw[bh bm]|rw[bj oO]|rw[bi bo]|rw[bk oO]))
  ·(repeat (first|rw[bh bm]|rw[bj oO]|rw[bi bo]|rw[bk oO]))
  .simp
  rintro r o ⟨rfl,q⟩;have K5:=q.z;simp only[bN,aH]at K5;have t:aA c o:=((((aA.new _ _).trans (aA.new _ _)).trans (aA.new _ _)).set oO _).trans q;have N:o.H c.z=.box 130 1 [.pt S 0]:=by rw[q.H _ (by simp only[bN,aH];omega)];(repeat (first|rw[bh bm]|rw[bj oO]|rw[bi bo]|rw[bk oO]))
  have V7:o.H (c.z+1)=.box 138 2 [wv (mk g.V b.inner),wv (mk g.V b.ends)]:=by rw[q.H _ (by simp only[bN,aH];omega)];(repeat (first|rw[bh bm]|rw[bj oO]|rw[bi bo]|rw[bk oO]))
  have O:o.H (c.z+1+1)=.box 145 1 [.fn (.func 145) [.pt c.z 0,.pt (c.z+1) 0]]:=by rw[q.H _ (by simp only[bN,aH];omega)];simp
  clear q;have y1:¬c.z+1+1=o.z:=oO;have y2:¬c.z=o.z:=oO;have y3:¬c.z+1=o.z:=oO;have Q8:(sQ g b.inner).E.length<=1000:=by have:=gw (fun x:Ed=>iw g.V b.inner x.a||iw g.V b.inner x.b) g.E;unfold sQ;simp only;omega
  (refine OY f O y1 ?_;intro J f)
  refine qE (Path (sQ g b.inner) fm B _ _ 1000 w _ (by unfold sQ;simp only;omega) Q8 oO (hM _ (t.trans (aA.new _ _)) (by simp only[aH];omega) ?_ ?_) k) (by simp[bv,sQ]) ?_
  .rw[cB,ac y2];exact N
  .rw[cB,ac y3];exact V7
  rintro r s2 ⟨rfl,p⟩;refine dB f ?_;exact⟨by simp[z0],(t.trans (aA.new _ _)).trans p⟩
def vI(n i j:Nat):Nat:=if i<=j then j-i else j+n-i
def jA(r:AN)(i j:Nat):AN:=((r++r).drop i).take (vI r.length i j+1)
def Us{n i j p:Nat}(b:i<n)(c:j<n)(d:p<=vI n i j):((i+p) % n=j↔p=vI n i j):=by
 unfold vI at *;by_cases h:i<=j
 .rw[ad h]at *;rw[ej oO];omega
 .rw[ac h]at *;by_cases a:i+p<n
  .rw[ej a];omega
  .rw[show i+p=(i+p-n)+n by omega,tc,ej oO];omega
def zI{n i j:Nat}(a:i<n)(b:j<n):vI n i j<n:=by unfold vI;split<;>omega
def TP(r:AN)(i p:Nat)(a:i<r.length)(b:p<r.length):((r++r).drop i)[p]?=some (r.getD ((i+p) % r.length) 0):=by
 rw[sx];by_cases h:i+p<r.length
 .rw[jv h,ej h,cp,cg h];rfl
 .rw[mw oO,show i+p=(i+p-r.length)+r.length by omega,tc,ej oO,cp];have:i+p-r.length<r.length:=oO;rw[show i+p-r.length+r.length-r.length=i+p-r.length by omega,cg this];rfl
def Ir(r:AN)(i p:Nat)(b:i<r.length)(c:p<r.length):((r++r).drop i).take (p+1)=((r++r).drop i).take p++[r.getD ((i+p) % r.length) 0]:=by
 have h:=TP r i p b c;have a:p<((r++r).drop i).length:=by rw[gk,cf];omega
 rw[eL a];rw[cg a,ap]at h;rw[h]
def Bb(r:AN)(i j:Nat)(a:i<r.length)(b:j<r.length):(jA r i j).length=vI r.length i j+1:=by have:=zI a b;unfold jA;rw[dn,gk,cf];omega
def Yj(r:AN)(k j:Nat)(d:St)(a:k<r.length)(I:j<r.length)(hl:r.length<=1000)(hp:0<d.z):
 aB prog 143 [.sl 0 r.length (us r),i k,i j] d fun v b=>(∃ t,v=.sl t (jA r k j).length (us (jA r k j))/\Er t 34 1 (jA r k j).length d b)/\aA d b:=by
 have H:=qG r k a;have Y:(k:Int)<r.length:=oO;have g:=Bb r k j a I;have K2:=zI a I;refine zN func143 ntmps143 [.tmp 6] ?_
 (repeat' (first|apply qS|apply qB|(refine zE ?_;intro J F;simp[H,Y,a];refine zJ F ?_)))
 have X:¬d.z=0:=oO;have P:(k+0) % r.length=k:=by rw[Nat.add_zero,ej a]
 refine qL (fun n f b=>∃ p t:Nat,p<=vI r.length k j/\n=vI r.length k j-p/\f 0=.sl 0 r.length (us r)/\f 1=i (((k+p) % r.length:Nat):Int)/\f 2=i j/\f 7=.sl t (p+1) (us (((r++r).drop k).take (p+1)))/\Er t 34 1 (p+1) d b/\aA d b) (vI r.length k j) ?_ ?_
 .refine⟨0,d.z,oO,oO,sS,?_,sS,?_,⟨X,au _,sS,sS⟩,aA.new _ _⟩
  .rw[P];simp
  .have:=Ir r k 0 a oO;rw[this,P];simp[a]
 rintro n f s ⟨p,t,W,rfl,D,E,o,w,⟨M,V,Z,B⟩,hk⟩ JJ hJJ;have Q:=Us a I W;by_cases C:p=vI r.length k j
 .have y:((((k+p) % r.length:Nat):Int) != j)=false:=by rw[Q.2 C];simp
  generalize ((k+p) % r.length:Nat)=q at *;subst C;have K:((r++r).drop k).take (vI r.length k j+1)=jA r k j:=rfl;rw[K,<- g]at w;rw[<- g]at B;refine ef E o w y ?_;exact⟨⟨M,V,Z,B⟩,hk⟩
 .have y:((((k+p) % r.length:Nat):Int) != j)=true:=by have:¬(k+p) % r.length=j:=fun h=>C (Q.1 h);rw[bne_iff_ne];intro h;exact this (Int.ofNat_inj.1 h)
  have N:=Ir r k (p+1) a oO;have hq:(k+p) % r.length<r.length:=kz _ oO;have O:(k+(p+1)) % r.length=((k+p) % r.length+1) % r.length:=by rw[<- Nat.add_assoc,Nat.mod_add_mod]
  rw[O]at N;have c:((((k+p) % r.length:Nat):Int)+1).tmod (r.length:Int)=((((k+p) % r.length+1) % r.length:Nat):Int):=by rw[rC oO];exact(Int.natCast_emod _ _).symm
  have e:((k+p) % r.length+1) % r.length<r.length:=kz _ oO;generalize (k+p) % r.length=q at *;have A:=qN q oO;have A:IntKind.i64.wrap ((q:Int)+1)=(q:Int)+1:=by rw[A];omega
  generalize (q+1) % r.length=L at *;have U:=qG r L e;generalize r.getD L 0=x at *;have l:(L:Int)<r.length:=oO;have m:¬(r.length:Int)=0:=oO;have R:¬r=[]:=fun h=>by rw[h]at a;simp at a
  have S:¬t=s.z:=oO;have T:¬s.z=t:=oO
  (repeat' (first|apply qS|apply qB|refine qK (zZ ?_)|(apply qC;simp[D,E,o,w,y,A,c,m,R,U,e,l,B,M,S,T])|(refine zE ?_;intro J F;simp[D,E,o,w,y,A,c,m,R,U,e,l,B,M,S,T];(repeat refine ca ?_);refine zJ F ?_)))
  exact hJJ _ _ _ oO ⟨p+1,s.z+1,oO,rfl,aa D,by rw[O];simp,aa o,by rw[N];simp,⟨oO,oO,sS,sS⟩,((hk.trans (aA.new _ _)).set V _).trans (aA.new _ _)⟩
end Aw
def Aw.U.zns:True:=trivial
open Go Go.RowKit Pl Aw
open Aw.U
namespace Aw
def Du(l:List Ed)(j:Nat)(a:j<l.length):l.getD j ed0=l[j]:=by
 grind
def Jr(a b:List Ed):eds (a++b)=eds a++eds b:=by grind
def XO(l:List Ed)(k:Nat):(eds l).take (k*3)=eds (l.take k):=by
 induction l generalizing k with
 |nil=>grind
 |cons x l a=>
  cases k with
  |zero=>grind
  |succ k=>
   grind
def Wn(l:List Ed)(k:Nat):(eds l).drop (k*3)=eds (l.drop k):=by
 induction l generalizing k with
 |nil=>grind
 |cons x l a=>
  cases k with
  |zero=>grind
  |succ k=>
   grind
theorem jI(l:List Ed)(k:Nat)(x:Ed)(c:k<l.length):(eds l).take (k*3)++(u x.id::u x.a::u x.b::(eds l).drop (k*3+3))=eds (l.set k x):=by rw[show k*3+3=(k+1)*3 by omega,XO,Wn,qd,ad c,Jr];rfl
end Aw
namespace Aw.U
abbrev Cn{a:Type}(_:List a):Type:=a
structure Nu where
 id:Int
def ed0:Nu:=⟨0⟩
def eds(l:List Nu):List LV:=us (l.map Nu.id)
def Du(l:List Nu)(j:Nat)(a:j<l.length):l.getD j ed0=l[j]:=by
 grind
def aJ(l:List Nu):(eds l).length=l.length:=by unfold eds;grind
def aS(l:List Nu)(k:Nat)(a:k<l.length):(eds l).drop k=u (l.getD k ed0).id::eds (l.drop (k+1)):=by unfold eds us;rw[<- qk,<- qk,ir a,Du l k a];rfl
theorem jI(l:List Nu)(k:Nat)(x:Nu)(a:k<l.length):(eds l).take k++(u x.id::(eds l).drop (k+1))=eds (l.set k x):=by
 unfold eds
 grind [FX,List.map_set]
@[simp] abbrev kn(l:List Nu):cK:=.box 34 1 (eds l)
end Aw.U
namespace Aw
@[simp] abbrev kn(l:List Ed):cK:=.box 36 3 (eds l)
def be(a:St)(q:Nat)(c:List Ed):St:=a.set q (.box 36 3 (eds c))
end Aw
namespace Aw.U
def be(a:St)(q:Nat)(c:List Nu):St:=a.set q (.box 34 1 (eds c))
end Aw.U
namespace Aw
@[simp] theorem Vu(a:St)(q:Nat)(c:List Ed):(be a q c).z=a.z:=rfl
@[simp] theorem YG(a:St)(q:Nat)(c:List Ed):(be a q c).H q=.box 36 3 (eds c):=by simp[be]
theorem Qq(a:St)(q l:Nat)(c:List Ed)(h:l≠q):(be a q c).H l=a.H l:=by simp[be,h]
end Aw
namespace Aw.U
@[simp] theorem Vu(a:St)(q:Nat)(c:List Nu):(be a q c).z=a.z:=rfl
@[simp] theorem YG(a:St)(q:Nat)(c:List Nu):(be a q c).H q=.box 34 1 (eds c):=by simp[be]
theorem Qq(a:St)(q l:Nat)(c:List Nu)(h:l≠q):(be a q c).H l=a.H l:=by simp[be,h]
end Aw.U
namespace Aw
def CA(a:St)(q:Nat)(c d:List Ed):be (be a q c) q d=be a q d:=by grind [be,St.set_set]
end Aw
namespace Aw.U
def CA(a:St)(q:Nat)(c d:List Nu):be (be a q c) q d=be a q d:=by grind [be,St.set_set]
end Aw.U
namespace Aw
def EZ{a:St}{q:Nat}{c:List Ed}(h:a.H q=.box 36 3 (eds c)):be a q c=a:=St.ext' rfl fun y=>by
 grind [YG,Qq]
end Aw
namespace Aw.U
def EZ{a:St}{q:Nat}{c:List Nu}(h:a.H q=.box 34 1 (eds c)):be a q c=a:=St.ext' rfl fun y=>by
 grind [YG,Qq]
end Aw.U
namespace Aw
def Ka(d:St)(q:Nat)(c:List Ed)(k:Nat)(x:Ed)(e:k<c.length):(be d q c).set q (.box 36 3 ((eds c).take (k*3)++(u x.id::u x.a::u x.b::(eds c).drop (k*3+3))))=be d q (c.set k x):=by
 grind [jI,be,St.set_set]
end Aw
namespace Aw.U
def Ka(a:St)(q:Nat)(c:List Nu)(k:Nat)(x:Nu)(b:k<c.length):(be a q c).set q (.box 34 1 ((eds c).take k++(u x.id::(eds c).drop (k+1))))=be a q (c.set k x):=by
 grind [jI,be,St.set_set]
end Aw.U
namespace Aw
def Ki(a:St)(q:Nat)(c d:List Ed):(be a q c).set q (.box 36 3 (eds d))=be a q d:=by grind [be,St.set_set]
end Aw
namespace Aw.U
def Ki(a:St)(q:Nat)(c d:List Nu):(be a q c).set q (.box 34 1 (eds d))=be a q d:=by grind [be,St.set_set]
end Aw.U
namespace Aw
def swR(c:List Ed)(a b:Nat):Nat->List Ed
 |0=>c
 |n+1=>swR ((c.set a (c.getD b ed0)).set b (c.getD a ed0)) (a+1) (b+1) n
end Aw
namespace Aw.U
def swR(c:List Nu)(a b:Nat):Nat->List Nu
 |0=>c
 |n+1=>swR ((c.set a (c.getD b ed0)).set b (c.getD a ed0)) (a+1) (b+1) n
end Aw.U
namespace Aw
def zB{a:Type}(U:List a)(x y:a)(W:List a):(U++x::W).set U.length y=U++y::W:=by
 grind
def pW(U:List Ed)(x:Ed)(W:List Ed):(U++x::W).getD U.length ed0=x:=by
 grind
end Aw
namespace Aw.U
def pW(U:List Nu)(x:Nu)(W:List Nu):(U++x::W).getD U.length ed0=x:=by
 grind
end Aw.U
namespace Aw
theorem jC:∀(n:Nat) (U A M B V:List Ed),A.length=n->B.length=n->swR (U++A++M++B++V) U.length (U.length+n+M.length) n=U++B++M++A++V
 |0,U,A,M,B,V,hA,hB=>by rw[gI hA,gI hB];rfl
 |n+1,U,x::A,M,y::B,V,hA,hB=>by
  simp only[List.length_cons,xv]at hA hB;rw[swR];have a:U++x::A++M++y::B++V=U++x::(A++M++y::B++V):=sS;have c:U++x::(A++M++y::B++V)=(U++x::A++M)++y::(B++V):=sS;have h:U.length+(n+1)+M.length=(U++x::A++M).length:=by simp[hA];omega
  have f:(U++x::A++M++y::B++V).getD U.length ed0=x:=by rw[a,pW]
  have g:(U++x::A++M++y::B++V).getD (U.length+(n+1)+M.length) ed0=y:=by rw[a,c,h,pW]
  rw[f,g,a,zB];have d:U++y::(A++M++y::B++V)=(U++y::A++M)++y::(B++V):=sS;have b:U.length+(n+1)+M.length=(U++y::A++M).length:=by simp[hA];omega
  rw[d,b,zB,<- b];have e:U++y::A++M++x::(B++V)=(U++[y])++A++(M++[x])++B++V:=sS;have j:U.length+(n+1)+M.length+1=(U++[y]).length+n+(M++[x]).length:=by simp;omega
  have k:U.length+1=(U++[y]).length:=sS;rw[e,j,k,jC n (U++[y]) A (M++[x]) B V hA hB];simp
end Aw
namespace Aw.U
theorem jC:∀(n:Nat) (U A M B V:List Nu),A.length=n->B.length=n->swR (U++A++M++B++V) U.length (U.length+n+M.length) n=U++B++M++A++V
 |0,U,A,M,B,V,hA,hB=>by rw[gI hA,gI hB];rfl
 |n+1,U,x::A,M,y::B,V,hA,hB=>by
  simp only[List.length_cons,xv]at hA hB;rw[swR];have a:U++x::A++M++y::B++V=U++x::(A++M++y::B++V):=sS;have c:U++x::(A++M++y::B++V)=(U++x::A++M)++y::(B++V):=sS;have h:U.length+(n+1)+M.length=(U++x::A++M).length:=by simp[hA];omega
  have f:(U++x::A++M++y::B++V).getD U.length ed0=x:=by rw[a,pW]
  have g:(U++x::A++M++y::B++V).getD (U.length+(n+1)+M.length) ed0=y:=by rw[a,c,h,pW]
  rw[f,g,a,zB];have d:U++y::(A++M++y::B++V)=(U++y::A++M)++y::(B++V):=sS;have b:U.length+(n+1)+M.length=(U++y::A++M).length:=by simp[hA];omega
  rw[d,b,zB,<- b];have e:U++y::A++M++x::(B++V)=(U++[y])++A++(M++[x])++B++V:=sS;have j:U.length+(n+1)+M.length+1=(U++[y]).length+n+(M++[x]).length:=by simp;omega
  have k:U.length+1=(U++[y]).length:=sS;rw[e,j,k,jC n (U++[y]) A (M++[x]) B V hA hB];simp
end Aw.U
namespace Aw
def vX(n:Int)(a : -9223372036854775808<=n)(b:n<=9223372036854775807):IntKind.i64.wrap n=n:=by
 grind [IntKind.wrap,IntKind.signed,IntKind.bits]
end Aw
def uE:(∀(c:List Ed) (q a b n:Nat) (F:Fn) (IQ:List LV) (e:St) (N:c.length<=100000) (O:a+n<=b) (M:b+n<=c.length) (E:e.H q=.box 36 3 (eds c)),
 aB prog 207 [.ms q 0 c.length,i a,i b,i n,.fn F IQ] e fun r h=>h=be e q (swR c a b n))/\(∀(c:List Nu) (q a b n:Nat) (F:Fn) (IQ:List LV) (e:St) (N:c.length<=100000) (O:a+n<=b) (M:b+n<=c.length) (E:e.H q=.box 34 1 (eds c)),
 aB prog 206 [.ms q 0 c.length,i a,i b,i n,.fn F IQ] e fun r h=>h=be e q (swR c a b n)):=by
 refine⟨?_,?_⟩
 all_goals
  intro c q a b n F IQ e N O M E
  first|(have _:List Ed:=c;refine zN func207 ntmps207 [] ?_)|refine zN func206 ntmps206 [] ?_
  refine bz ?_;refine qL (fun z j t=>∃(k:Nat) (d:List (Cn c)),k<=n/\z=n-k/\j 0=.ms q 0 c.length/\j 1=i a/\j 2=i b/\j 3=i n/\j 10=i k/\t=be e q d/\d.length=c.length/\swR d (a+k) (b+k) (n-k)=swR c a b n) n ?_ ?_
  .exact⟨0,c,oO,oO,sS,sS,sS,sS,sS,(EZ E).symm,rfl,rfl⟩
  rintro z j t ⟨k,d,hk,rfl,w,A,B,C,f,rfl,m,v⟩ JJ l;by_cases dF:k<n;rotate_left
  .clear l;obtain rfl:k=n:=oO;rw[Nat.sub_self]at v;refine cy C f ?_;simp;rw[<- v];rfl
  have Y:=vX ((k:Int)+1) oO oO;have wa:IntKind.i64.wrap ((a:Int)+k)=((a+k:Nat):Int):=zW;have wb:IntKind.i64.wrap ((b:Int)+k)=((b+k:Nat):Int):=zW;have I:=aJ d;have P:=aS d (a+k) oO;have Q:=aS d (b+k) oO;have K:swR ((d.set (a+k) (d.getD (b+k) ed0)).set (b+k) (d.getD (a+k) ed0)) (a+(k+1)) (b+(k+1)) (n-(k+1))=swR c a b n:=by
   (first|rw[<- v,show n-k=(n-(k+1))+1 by omega,Aw.swR]|rw[<- v,show n-k=(n-(k+1))+1 by omega,Aw.U.swR]);rfl
  have s1:=fun x=>Ka e q d (a+k) x oO;have s2:=fun x y=>Ka e q (d.set (a+k) y) (b+k) x (by grind);generalize ha:a+k=g at *;generalize X:b+k=p at *;have c7:¬g=p:=oO;generalize Z:d.getD g ed0=x at *;generalize hye:d.getD p ed0=y at *;have S:g*3+3<=d.length*3:=oO;have R:g+1<=d.length:=oO;have V7:p+1<=d.length:=oO;have T:p*3+3<=d.length*3:=oO;have D:g<d.length:=oO;have V:p<d.length:=oO;have s1':=s1 y;have s:=s2 x y;have o:=aJ (d.set g y);rw[pd]at o;refine kj w A B C f dF ?_
  (refine zS [] [q] [0,2,4,6,8,10,12,14,16,18,20,22,24,26,28,30,32,34,36,38,40,43,44,47] ?_;intro J W;simp[w,A,B,f,wa,wb,m,P,Q,I];(repeat refine ca ?_);refine zJ W ?_)
  have L:=jI d g y D
  (first|rw[L,Aw.Ki,s]|rw[L,Aw.U.Ki,s])
  refine cy f Y ?_;exact l (n-(k+1)) _ _ oO ⟨k+1,_,oO,rfl,aa w,aa A,aa B,aa C,sS,rfl,aa m,K⟩
def Aw.rS:=uE.1
def Aw.U.rS:=uE.2
def DW:(∀(P X Y S:List Ed) (q:Nat) (F:Fn) (IQ:List LV) (e:St) (C:X≠[]) (D:Y≠[]) (Z:(P++X++Y++S).length<=100000) (N:e.H q=.box 36 3 (eds (P++X++Y++S))),
 aB prog 189 [.ms q 0 (P++X++Y++S).length,i P.length,i (P.length+X.length:Nat),i (P.length+X.length+Y.length:Nat),.fn F IQ] e fun r l=>l=be e q (P++Y++X++S))/\(∀(P X Y S:List Nu) (q:Nat) (F:Fn) (IQ:List LV) (e:St) (C:X≠[]) (D:Y≠[]) (Z:(P++X++Y++S).length<=100000) (N:e.H q=.box 34 1 (eds (P++X++Y++S))),
 aB prog 188 [.ms q 0 (P++X++Y++S).length,i P.length,i (P.length+X.length:Nat),i (P.length+X.length+Y.length:Nat),.fn F IQ] e fun r l=>l=be e q (P++Y++X++S)):=by
 refine⟨?_,?_⟩
 all_goals
  intro P X Y S q F IQ e C D Z N;generalize T:(P++X++Y++S).length=L at *;have hLl:L=P.length+X.length+Y.length+S.length:=by rw[<- T];simp only[cf]
  generalize hm:P.length+X.length=m at *;have hX0:0<X.length:=iu.2 C;have hY0:0<Y.length:=iu.2 D
  first|(have _:List Ed:=P;refine zN func189 ntmps189 [] ?_)|refine zN func188 ntmps188 [] ?_
  have w1:IntKind.i64.wrap ((m:Int)-P.length)=(X.length:Int):=zW;have w2:IntKind.i64.wrap ((m:Int)+Y.length-m)=(Y.length:Int):=zW;refine cy w1 w2 ?_;refine qL (fun z p x=>∃ U A B V:List (Cn P),z=A.length+B.length/\(A≠[]/\B≠[])/\U.length+A.length=m/\U++B++A++V=P++Y++X++S/\(U++A++B++V).length=L/\x=be e q (U++A++B++V)/\p 0=.ms q 0 L/\p 2=i m/\p 4=.fn F IQ/\p 10=i A.length/\p 11=i B.length) (X.length+Y.length) ?_ ?_
  .exact⟨P,X,Y,S,rfl,⟨C,D⟩,hm,rfl,T,(EZ N).symm,sS,sS,sS,sS,sS⟩
  rintro z p x ⟨U,A,B,V,rfl,⟨hA,hB⟩,hUm,htg,r8,rfl,f0,f2,f4,f10,f11⟩ JJ hJJ;have hA0:0<A.length:=iu.2 hA;have hB0:0<B.length:=iu.2 hB;have W:L=U.length+A.length+B.length+V.length:=by rw[<- r8];simp only[cf]
  have n:IntKind.i64.wrap ((m:Int)-A.length)=(U.length:Int):=zW;by_cases a:A.length=B.length
  .clear hJJ;have d:=rS (U++A++B++V) q U.length m A.length F IQ (be e q (U++A++B++V)) oO oO oO sS;have f:=jC A.length U A [] B V rfl a.symm;simp only[List.length_nil,Nat.add_zero,eP]at f
   (first|rw[r8,<- hUm,f,hUm,Aw.CA,htg]at d|rw[r8,<- hUm,f,hUm,Aw.U.CA,htg]at d)
   generalize U++A++B++V=Q at *;generalize P++Y++X++S=R at *;have o:=n;rw[a]at o
   (repeat' (first|apply qS|refine qX (zZ ?_)|(apply qC;simp[f0,f2,f4,f10,f11,a,n,o])|(refine zE ?_;intro J h;simp[f0,f2,f4,f10,f11,a,n,o];(try refine zJ h ?_))))
   refine qE d (by simp_all) ?_;rintro r s3 rfl
   (repeat' (apply cL;simp[];refine zJ h ?_))
   simp
  .have c:¬(A.length:Int)=B.length:=oO;by_cases j:B.length<A.length
   .have v:(A.take B.length).length=B.length:=by simp;omega
    have K:A.take B.length++A.drop B.length=A:=gd _ _;have hA2:(A.drop B.length).length=A.length-B.length:=sS;generalize A.take B.length=s at *;generalize A.drop B.length=k at *;have d:=rS (U++A++B++V) q U.length m B.length F IQ (be e q (U++A++B++V)) oO oO oO sS;have f:=jC B.length U s k B V v rfl;have E:U++s++k++B++V=U++A++B++V:=by rw[<- K];simp
    have I:U.length+B.length+k.length=m:=oO;rw[E,I]at f
    (first|rw[r8,f,Aw.CA]at d|rw[r8,f,Aw.U.CA]at d)
    have b:(B.length:Int)<A.length:=oO;have y:IntKind.i64.wrap ((A.length:Int)-B.length)=(k.length:Int):=zW;generalize U++A++B++V=Q at *;generalize O:U++B++k++s++V=R at d
    (repeat' (first|apply qS|apply qB|refine qK (zZ ?_)|(apply qC;simp[f0,f2,f4,f10,f11,c,b,a,j,n,y])|(refine zE ?_;intro J h;simp[f0,f2,f4,f10,f11,c,b,a,j,n,y];(try refine zJ h ?_))))
    refine qE d sS ?_;rintro r s3 rfl
    (repeat' ((first|(refine zE ?_;intro J h)|(apply cL));simp[f10,f11,y];refine zJ h ?_))
    refine hJJ (k.length+s.length) _ _ oO ⟨U++B,k,s,V,rfl,⟨?_,?_⟩,by grind,?_,?_,by grind,aa f0,aa f2,aa f4,sS,dg f11 v⟩
    .grind
    .grind
    .grind
    grind [List.length_append]
   .have V7:(B.take (B.length-A.length)).length=B.length-A.length:=sS;have M:B.take (B.length-A.length)++B.drop (B.length-A.length)=B:=gd _ _;have w:(B.drop (B.length-A.length)).length=A.length:=by simp;omega
    generalize B.take (B.length-A.length)=g at *;generalize B.drop (B.length-A.length)=t at *;have d:=rS (U++A++B++V) q U.length (m+g.length) A.length F IQ (be e q (U++A++B++V)) oO oO oO sS;have f:=jC A.length U A g t V rfl w;have E:U++A++g++t++V=U++A++B++V:=by rw[<- M];simp
    have I:U.length+A.length+g.length=m+g.length:=oO;rw[E,I]at f
    (first|rw[r8,f,Aw.CA]at d|rw[r8,f,Aw.U.CA]at d)
    have b:¬(B.length:Int)<A.length:=oO;have y:IntKind.i64.wrap ((B.length:Int)-A.length)=(g.length:Int):=zW;have wc:IntKind.i64.wrap ((m:Int)+B.length)=(m:Int)+B.length:=zW;have wd:IntKind.i64.wrap ((m:Int)+B.length-A.length)=((m+g.length:Nat):Int):=zW;generalize U++A++B++V=Q at *;generalize O:U++t++g++A++V=R at d
    (repeat' (first|apply qS|apply qB|refine qK (zZ ?_)|(apply qC;simp[f0,f2,f4,f10,f11,c,b,a,j,n,wc,wd])|(refine zE ?_;intro J h;simp[f0,f2,f4,f10,f11,c,b,a,j,n,wc,wd];(try refine zJ h ?_))))
    refine qE d sS ?_;rintro r s3 rfl
    (repeat' ((first|(refine zE ?_;intro J h)|(apply cL));simp[f10,f11,y];refine zJ h ?_))
    refine hJJ (t.length+g.length) _ _ oO ⟨U,t,g,A++V,rfl,⟨?_,?_⟩,oO,?_,?_,by grind,aa f0,aa f2,aa f4,dg f10 w,sS⟩
    .grind
    .grind
    .grind
    .simp only[cf];omega
def Aw.TN:=DW.1
def Aw.U.TN:=DW.2
open Go Go.RowKit Pl Aw
open Aw.U
namespace Aw
def tI(x y:Ed):Int:=if x.id<y.id then -1 else if y.id<x.id then 1 else 0
end Aw
namespace Aw.U
def tI(x y:Nu):Int:=if x.id<y.id then -1 else if y.id<x.id then 1 else 0
end Aw.U
def xO:(∀(x y:Ed),
 decide (tI x y<0)=decide (x.id<y.id))/\(∀(x y:Nu),
 decide (tI x y<0)=decide (x.id<y.id)):=by
 grind [Aw.tI,Aw.U.tI]
def Aw.rF:=xO.1
def Aw.U.rF:=xO.2
namespace Aw
structure gW(x7:FuncId)(IQ:List LV)(q:Nat)(Pc:St->Prop):Prop where
 keep:∀ st st',Pc st->bR q st st'->Pc st'
 call:∀ st x y,Pc st->aB prog x7 ([.ag (dl x),.ag (dl y)]++IQ) st fun r st'=>r=i (tI x y)/\aA st st'
end Aw
namespace Aw.U
structure gW(x7:FuncId)(IQ:List LV)(q:Nat)(Pc:St->Prop):Prop where
 keep:∀ st st',Pc st->bR q st st'->Pc st'
 call:∀ st x y,Pc st->aB prog x7 ([u x.id,u y.id]++IQ) st fun r st'=>r=i (tI x y)/\aA st st'
end Aw.U
namespace Aw
def Ris(l:List Ed):Prop:=l.Pairwise fun x y=>x.id<=y.id
end Aw
namespace Aw.U
def Ris(l:List Nu):Prop:=l.Pairwise fun x y=>x.id<=y.id
end Aw.U
namespace Aw
end Aw
namespace Aw.U
end Aw.U
namespace Aw
def Es(U:List Ed)(x:Ed)(W:List Ed){j:Nat}(a:j=U.length):(U++x::W).getD j ed0=x:=by grind
end Aw
namespace Aw.U
def Es(U:List Nu)(x:Nu)(W:List Nu){j:Nat}(a:j=U.length):(U++x::W).getD j ed0=x:=by grind
end Aw.U
namespace Aw
def PI{a:Type}(U:List a)(x y:a)(W:List a){j:Nat}(b:j=U.length):(U++x::W).set j y=U++y::W:=by simp_all
def Xn(P X S:List Ed)(q:Nat)(b:St)(r:LV)(a:St):Prop:=∃ Y,Y.Perm X/\Ris Y/\a.H q=.box 36 3 (eds (P++Y++S))/\bR q b a
end Aw
namespace Aw.U
def Xn(P X S:List Nu)(q:Nat)(b:St)(r:LV)(a:St):Prop:=∃ Y,Y.Perm X/\Ris Y/\a.H q=.box 34 1 (eds (P++Y++S))/\bR q b a
end Aw.U
def An:(∀ ⦃A B:List Ed⦄ ⦃x:Ed⦄ (h:Ris (A++B)) (a:∀ y∈A,y.id<=x.id) (b:∀ y∈B,x.id<=y.id),
 Ris (A++x::B))/\(∀ ⦃A B:List Nu⦄ ⦃x:Nu⦄ (h:Ris (A++B)) (a:∀ y∈A,y.id<=x.id) (b:∀ y∈B,x.id<=y.id),
 Ris (A++x::B)):=by
 grind [Aw.Ris,List.pairwise_cons,Aw.U.Ris]
def Aw.Fs:=An.1
def Aw.U.Fs:=An.2
def xW:(∀ ⦃A:List Ed⦄ ⦃y:Ed⦄ (h:Ris (A++[y])),
 ∀ a∈A,a.id<=y.id)/\(∀ ⦃A:List Nu⦄ ⦃y:Nu⦄ (h:Ris (A++[y])),
 ∀ a∈A,a.id<=y.id):=by
 refine⟨?_,?_⟩
 all_goals
  intro A y h
  (first|unfold Aw.Ris at h|unfold Aw.U.Ris at h)
  rw[nc]at h;simp_all
def Aw.IA:=xW.1
def Aw.U.IA:=xW.2
def AR:(∀(P X S:List Ed) (q:Nat) (C:FuncId) (IQ:List LV) (Pc:St->Prop) (f:St) (I7:Aw.gW C IQ q Pc) (Q9:Pc f) (hq:q<f.z) (hl:(P++X++S).length<=100000) (hH:f.H q=.box 36 3 (eds (P++X++S))),
 aB prog 161 [.ms q 0 (P++X++S).length,i P.length,i (P.length+X.length:Nat),.fn (.func C) IQ] f (Xn P X S q f))/\(∀(P X S:List Nu) (q:Nat) (C:FuncId) (IQ:List LV) (Pc:St->Prop) (f:St) (I7:Aw.U.gW C IQ q Pc) (Q9:Pc f) (hq:q<f.z) (hl:(P++X++S).length<=100000) (hH:f.H q=.box 34 1 (eds (P++X++S))),
 aB prog 159 [.ms q 0 (P++X++S).length,i P.length,i (P.length+X.length:Nat),.fn (.func C) IQ] f (Xn P X S q f)):=by
 refine⟨?_,?_⟩
 all_goals
  intro P X S q C IQ Pc f I7 Q9 hq hl hH;generalize hL:(P++X++S).length=L at *;have hLl:L=P.length+X.length+S.length:=by rw[<- hL];simp only[cf]
  generalize hp:P.length=p at *;have wp:IntKind.i64.wrap ((p:Int)+1)=((p+1:Nat):Int):=zW
  first|(have _:List Ed:=P;refine zN func161 ntmps161 [] ?_)|refine zN func159 ntmps159 [] ?_
  refine dd wp ?_;refine qL (fun z b v=>∃ Y Z:List (Cn P),Z.length<=z/\b 0=.ms q 0 L/\b 1=i p/\b 2=i (p+X.length:Nat)/\b 3=.fn (.func C) IQ/\(X=[]/\Y=[]/\b 8=i (p+1:Nat)\/Y≠[]/\b 8=i (p+Y.length:Nat))/\(Y++Z).Perm X/\Ris Y/\v.H q=kn (P++Y++Z++S)/\bR q f v) X.length ?_ ?_
  .cases X with
   |nil=>exact⟨[],[],sS,sS,sS,sS,sS,.inl ⟨rfl,rfl,sS⟩,.refl _,.nil,by grind,bR.refl _ _⟩
   |cons x X => 
    refine⟨[x],X,sS,sS,sS,sS,sS,.inr ⟨sS,sS⟩,.refl _,uk _ _,?_,bR.refl _ _⟩
    grind
  rintro z b v ⟨Y,Z,hz,o,D,m,E,M,u6,a,k,K⟩ JJ N;have Q8:=u6.length_eq;simp only[cf]at Q8;cases Z with
  |nil=>
   clear N;simp only[List.length_nil,Nat.add_zero]at Q8;rw[eP]at u6 k;have hex:∃ e:Nat,b 8=i e/\¬((e:Int)<(p+X.length:Nat)):=by
    rcases M with⟨F,t,h3⟩|⟨F,t⟩
    .exact⟨p+1,h3,by grind⟩
    .grind
   obtain⟨e,s,he⟩:=hex
   (repeat' (first|apply qS|refine qX (zZ ?_)|(apply qC;simp[m,s,he];(try with_reducible refine⟨?_,?_⟩)<;>(try with_reducible intro hc)<;>try (exfalso;omega))|(refine zE ?_;intro J n;simp[m,s,he];refine zJ n ?_)))
   simp;exact⟨Y,u6,a,k,K⟩
  |cons x Z=>
  have hYne:Y≠[]/\b 8=i (p+Y.length:Nat):=by
   rcases M with⟨F,t,h3⟩|h
   .grind
   .exact h
  obtain⟨hYn,s⟩:=hYne;clear M;have hY0:=iu.2 hYn;simp only[List.length_cons]at Q8 hz;have dF:(((p+Y.length:Nat):Int))<((p+X.length:Nat):Int):=oO
  (repeat' (first|apply qS|apply qB|refine qK (zZ ?_)|(apply qC;simp[m,s,dF];(try with_reducible refine⟨?_,?_⟩)<;>(try with_reducible intro hc)<;>try (exfalso;omega))|(refine zE ?_;intro J n;simp[m,s,dF];refine zJ n ?_)))
  refine qL (fun z b P5=>∃ A B:List (Cn P),z=A.length/\A++B=Y/\(∀ y∈B,x.id<=y.id)/\b 0=.ms q 0 L/\b 1=i p/\b 2=i (p+X.length:Nat)/\b 3=.fn (.func C) IQ/\b 8=i (p+Y.length:Nat)/\b 9=i (p+A.length:Nat)/\P5.H q=kn (P++A++x::(B++Z++S))/\bR q f P5) Y.length ?_ ?_
  .exact⟨Y,[],rfl,sS,sS,aa o,aa D,aa m,aa E,aa s,sS,by grind,K⟩
  clear o D m E s k K b v;rintro z' b P5 ⟨A,B,rfl,rfl,hxB,o,D,m,E,M,f9,k,K⟩ J2 hJ2;have hP3:=I7.keep _ _ Q9 K;have I:(∀ y∈A,y.id<=x.id)->Ris (A++x::B):=fun F=>Fs a F hxB;have N7:((A++x::B)++Z).Perm X:=by refine List.Perm.trans ?_ u6;rw[dz,dz];refine qf A ?_;rw[List.cons_append];exact lk.symm
  have hAB:(A++x::B).length=(A++B).length+1:=by simp;omega
  simp only[cf]at Q8 hY0;have w8:IntKind.i64.wrap (((p+(A++B).length:Nat):Int)+1)=((p+(A++x::B).length:Nat):Int):=by rw[hAB,vX _ oO oO];omega
  have O7:∀ UK w,(UK 0=.ms q 0 L/\UK 1=i p/\UK 2=i (p+X.length:Nat)/\UK 3=.fn (.func C) IQ/\UK 8=i (p+(A++x::B).length:Nat))->(∀ y∈A,y.id<=x.id)->w.H q=kn (P++A++x::(B++Z++S))->bR q f w->JJ UK w:=by rintro UK w ⟨g0,g1,g2,g3,s⟩ F t h3;refine N Z.length _ _ oO ⟨A++x::B,Z,au _,g0,g1,g2,g3,.inr ⟨sS,s⟩,N7,I F,?_,h3⟩;rw[t];simp
  have Q:Ris A:=by
   (first|unfold Aw.Ris at a ⊢|unfold Aw.U.Ris at a ⊢)
   exact(nc.1 a).1
  clear N I N7 u6 a hAB;generalize (A++B).length=eg at *;generalize (A++x::B).length=laxb at *;have w8':IntKind.i64.wrap ((p:Int)+eg+1)=(p:Int)+laxb:=by have h:=w8;rw[Int.natCast_add,Int.natCast_add]at h;exact h
  rcases si A with rfl|⟨W,y,hWy⟩
  .simp only[List.length_nil,Nat.add_zero]at f9;refine bz ?_
   (refine zS [] [q] [0,2,4,6,8,10,12,14,16,18,20,22,24,26,29,30,32] ?_;intro J n;simp[o,D,E,f9];refine zJ n ?_)
   refine cy M w8' ?_;exact O7 _ _ ⟨aa o,aa D,aa m,aa E,sS⟩ sS k K
  rw[sj]at hWy;subst hWy;have hWl:(W++[y]).length=W.length+1:=sS;rw[hWl,<- Nat.add_assoc]at f9;have hce:P++(W++[y])++x::(B++Z++S)=(P++W)++y::x::(B++Z++S):=sS;have hUl:(P++W).length=p+W.length:=by simp[hp]
  have r8:((P++W)++y::x::(B++Z++S)).length=L:=by simp only[cf,List.length_cons,List.length_nil,hp]at Q8 hz ⊢;omega
  rw[hce]at k O7;have g1:=Es (P++W) y (x::(B++Z++S)) (j:=p+W.length) hUl.symm;have g2:((P++W)++y::x::(B++Z++S)).getD (p+W.length+1) ed0=x:=by rw[show(P++W)++y::x::(B++Z++S)=(P++W++[y])++x::(B++Z++S) by simp];exact Es _ _ _ (by grind)
  have s1:(((P++W)++y::x::(B++Z++S)).set (p+W.length+1) y).set (p+W.length) x=P++W++x::(y::B++Z++S):=by rw[show(P++W)++y::x::(B++Z++S)=(P++W++[y])++x::(B++Z++S) by simp,PI _ _ _ _ (by grind)];rw[show(P++W++[y])++y::(B++Z++S)=(P++W)++y::(y::(B++Z++S)) by simp,PI _ _ _ _ hUl.symm];simp
  have K0:x.id<y.id->∀ y'∈y::B,x.id<=y'.id:=fun F y' T=>by
   rcases ah.1 T with rfl|t
   .omega
   grind
  have R:¬x.id<y.id->∀ y'∈W++[y],y'.id<=x.id:=fun F y' T=>by
   rcases an.1 T with t|t
   .have:=IA (Q) y' t;omega
   .rw[bf]at t;grind
  generalize (P++W)++y::x::(B++Z++S)=c at *;generalize hjx:p+W.length=g at *;have hel:=aJ c;have da:=aS c (g+1) oO;have db:=aS c g oO;rw[g2]at da;rw[g1]at db;have wj:IntKind.i64.wrap (((g+1:Nat):Int)-1)=(g:Int):=zW;have hgt:(p:Int)<(g:Int)+1:=oO;have hcm:=I7.call P5 x y hP3;have K3:=rF x y;generalize tI x y=cv at *;have V:IntKind.i64.wrap (g:Int)=(g:Int):=vX _ oO oO;have hA4:g+1<L:=oO;have hB4:g<L:=oO;refine bz ?_
  (refine zS [] [q] [0,2,4,6,8,10,12,14,16,18,20,22,24,26,29,30,32] ?_;intro J n;simp[o,D,E,f9,hgt,k,da,db,hel,r8,V];(repeat refine ca ?_))
  refine aO hcm ?_;rintro r s4 ⟨rfl,M0⟩;have hq3:q<P5.z:=by have:=K.1;omega
  have d:=(M0.H q hq3).trans k;have l:=K.keeps M0;refine⟨fun _=>by simp[d,k],?_⟩;by_cases M6:x.id<y.id
  .have O:cv<0:=by rw[nm M6]at K3;exact nj K3
   (apply bM;simp[O,d,k];refine zJ n ?_)
   refine bz ?_
   (refine zS [] [q] [0,2,4,6,8,10,12,14,16,18,20,22,24,26,28,31,32,35] ?_;intro J n;simp[o,f9,d,da,db,hel,r8,V];(repeat refine ca ?_);refine zJ n ?_)
   have e1:=jI c (g+1) y oO;have e2:=jI (c.set (g+1) y) g x (by simp;omega);rw[e1,e2,s1,St.set_set];refine cy f9 V ?_;refine hJ2 W.length _ _ sS ⟨W,y::B,rfl,sS,K0 M6,aa o,aa D,aa m,aa E,aa M,aa hjx,?_,l.set _⟩;simp
  .have O:¬cv<0:=by rw[ls M6]at K3;exact qp K3
   (apply bM;simp[O,d,k];refine zJ n ?_)
   refine cy M w8' ?_;exact O7 _ _ ⟨aa o,aa D,aa m,aa E,sS⟩ (R M6) d l
def Aw.Me:=AR.1
def Aw.U.Me:=AR.2
end Go.Proofs.YtbgngpdonpeboaaGreatDoor
