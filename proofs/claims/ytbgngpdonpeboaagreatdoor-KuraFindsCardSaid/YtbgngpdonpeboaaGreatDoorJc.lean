/- Lemmas. -/
import Derived.Test.YtbgngpdonpeboaaGreatDoorJb
import Derived.Test.YtbgngpdonpeboaaGreatDoorAwTd
import Derived.Test.YtbgngpdonpeboaaGreatDoorAwZ
import Derived.Test.YtbgngpdonpeboaaGreatDoorAwRg
import Derived.Test.YtbgngpdonpeboaaGreatDoorAwMr5
import Derived.Laws.Bits64b
set_option linter.defProp false
set_option maxHeartbeats 2000000
open Go.Proofs.Tryz
namespace Go.Proofs.YtbgngpdonpeboaaGreatDoor
namespace Aw
open Go Go.RowKit Pl
variable{g:Gr}{id w:Int}{a l:List Ed}{P:Program}
def EL(e s:Nat){f:FuncId}{args:QQ}{y:St}{Q:LV->St->Prop}(b:QQ)
 (h:aD P f args y fun r a=>∃ c,r=.ag (b++[c])/\((c=.nil/\Q (.ag (b++[.sl 0 0 []])) a)\/∃ l n k,c=.ms l 0 n/\a.H l=.box e s k/\n*s<=k.length/\Q (.ag (b++[.sl 0 n (k.take (n*s))])) (a.set l .dead))):aD P f args y Q:=by
 refine⟨h.1,fun w g K B E=>(h.2 w g K B E).mono ?_⟩;rintro x L ⟨v,r,a,p,rfl,⟨c,rfl,A⟩,hrep,hi',he⟩;simp only[Rep]at hrep;obtain⟨d,rfl,o⟩:=hrep;obtain⟨J,M,z⟩:=oV b d o;rcases A with⟨rfl,m⟩|⟨l,n,k,rfl,C,D,m⟩
 .refine⟨_,_,a,p,rfl,m,?_,hi',he⟩
  grind [Rep,Ext.refl]
 .obtain⟨q,F,I,t⟩:=jC (fr:=de (fun _=>.dead) 0 (.ms l 0 n)) 0 rfl C D { tmps:=#[J],defers:=[] } L p hi' (by
   intro j;unfold de;by_cases N:j=0
   .simp_all
   grind [Rep])
  refine⟨_,_,_,q,rfl,m,?_,F,he.trans t⟩;simp only[Rep];exact⟨d,rfl,z q _ t (I 0)⟩
def Dq(a:List PP)(k:Nat)(b:k<a.length):iL (a.take (k+1))=iL (a.take k)++[.sl 0 (a[k]).length (us a[k])]:=by
 grind [List.take_succ_eq_append_getElem]
def ZY(g:Gr)(q:Nat)(es:List (PP×LV))(m:Int->PP)(w:St)(hv:g.V.length<=1000)(he:g.E.length<=1000)(hq:q<w.z)(hM:w.H q=.map false [.u32] es)
 (ht:∀ v∈g.V,∃ x t,(bY es [v]).getD .nil=x/\norm x=.sl t (m v).length (us (m v))/\(m v).length<=1000):
 aD prog 67 [.ag (aw g),.mp q] w fun r st'=>r=.ag (rD ⟨g,g.V.map fun v=>fb (m v)⟩)/\aC w st':=by
 refine EL 22 1 (aw g) ?_;refine zN func67 ntmps67 [.cell 4 28] ?_
 (refine ez ?_;intro J d)
 refine qE (copied g _ O O) Y ?_;rintro r a ⟨rfl,W⟩;have hn1:=W.z;simp only[aK]at hn1;have hG1:a.H w.z=.box 25 2 (aw g):=by rw[W.H _ (by simp;omega)];simp
 have hM1:a.H q=.map false [.u32] es:=by rw[W.H q (by simp;omega),cN,aa (by simp;omega),cN,aa O,hM]
 have hR1:a.H (w.z+1)=.box 28 3 [.nil,.nil,.nil]:=by rw[W.H _ Y];simp
 have ne1:¬w.z=a.z:=O;refine oG d hG1 ne1 ?_;refine qL (fun n B b=>∃ k:Nat,k<=g.V.length/\n=g.V.length-k/\B 1=.mp q/\B 4=.pt (w.z+1) 0/\B 5=.pt a.z 0/\B 12=.sl 0 g.V.length (us g.V)/\B 13=i g.V.length/\B 14=i k/\aC a b/\a.z<b.z/\∃ c,b.H a.z=.box 28 3 (aw g++[c])/\((k=0/\c=.nil)\/∃ z,c=.ms z 0 k/\a.z<z/\z<b.z/\b.H z=.box 22 1 (iL ((g.V.map fun v=>fb (m v)).take k)))) g.V.length ?_ ?_
 .exact⟨0,O,O,Y,Y,Y,Y,Y,Y,aC.new _ _,Y,.nil,Y,.inl ⟨rfl,rfl⟩⟩
 rintro n B b ⟨k,hk,rfl,K,f4,o,e,f,h,L,hlt2,c,y,Q⟩ JJ M;have j:b.H q=.map false [.u32] es:=by rw[L.H q O];exact hM1
 by_cases dS:k<g.V.length
 .have hd:=qG g.V k dS;have hw:=qN k O;have T:g.V.getD k 0∈g.V:=by rw[bT _ _ dS];exact dz dS
  obtain⟨x,t,U,hx2,hx3⟩:=ht _ T;have c7:=Dq (g.V.map fun v=>fb (m v)) k (by grind);have hrk:(g.V.map fun v=>fb (m v))[k]'(by grind)=fb (m (g.V.getD k 0)):=by simp[dS]
  rw[hrk,pV]at c7;generalize hvv:g.V.getD k 0=v at *;have S:¬q=a.z:=O;have ne2:¬a.z=b.z:=O;have ne3:¬q=b.z:=by have:=L.z;omega
  rcases Q with⟨rfl,rfl⟩|⟨z,rfl,hz1,hz2,hz⟩
  ·(repeat' (first|apply qS|(refine zE ?_;intro J d;simp[e,f,h,dS,hd];(refine zJ d ?_;clear d J))))
   (apply qC;simp[])
   (repeat' (first|apply qS|apply qB|refine qK (zZ ?_)|(refine zE ?_;intro J d;simp[K,o,e,f,h,dS,hd];(refine zJ d ?_;clear d J))))
   (refine zS [25] [a.z,q] [0,2,4,6,8,10,12,14,16,19] ?_;intro J d;simp[K,o,y,j,U,S])
   refine qD (VM (m v) t _ (by grind [small])) (by grind) ?_;rintro r l ⟨rfl,A⟩;have p:=(A.H a.z O).trans y;have s:=(A.H q O).trans j;have hn3:=A.z;have C:¬a.z=l.z:=O;have D:¬a.z=l.z+1:=O;have F:¬q=l.z+1:=O;have I:¬q=l.z:=O;refine⟨fun _=>by simp[p,s,y,j],?_⟩
   (apply bM;simp[o,p,s,y,j,C,D,F,I];(repeat refine ca ?_);(refine zJ d ?_;clear d J))
   have hw1:IntKind.i64.wrap 1=1:=by decide
   refine eI o h hw hw1 ?_;refine M (g.V.length-1) _ _ O ⟨1,O,rfl,Z K,Z f4,Z o,Z e,Z f,Y,(((L.trans A).trans (aC.new _ _)).trans (aC.new _ _)).set (au _) _,by simp;omega,.ms (l.z+1) 0 1,Y,.inr ⟨l.z+1,rfl,O,Y,?_⟩⟩;rw[c7,cC,aa O];simp
  .generalize hR:iL ((g.V.map fun v=>fb (m v)).take k)=R at *;have hzl:R.length=k:=by rw[<- hR];simp;omega
   (repeat' (first|apply qS|(refine zE ?_;intro J d;simp[e,f,h,dS,hd];(refine zJ d ?_;clear d J))))
   (apply qC;simp[])
   (repeat' (first|apply qS|apply qB|refine qK (zZ ?_)|(refine zE ?_;intro J d;simp[K,o,e,f,h,dS,hd];(refine zJ d ?_;clear d J))))
   (refine zS [25] [a.z,q] [0,2,4,6,8,10,12,14,16,19] ?_;intro J d;simp[K,o,y,j,U,S])
   refine qD (VM (m v) t _ (by grind [small])) (by grind) ?_;rintro r l ⟨rfl,A⟩;have p:=(A.H a.z O).trans y;have s:=(A.H q O).trans j;have hz3:=(A.H z O).trans hz;have hn3:=A.z;have C:¬a.z=l.z:=O;have D:¬a.z=l.z+1:=O;have F:¬q=l.z+1:=O;have I:¬q=l.z:=O;have ne8:¬a.z=z:=O;have ne9:¬z=l.z:=O;have X:¬q=z:=O;have V9:R.take k=R:=ej O;refine⟨fun _=>by simp[p,s,y,j],?_⟩
   (apply bM;simp[o,p,s,y,j,C,D,F,I,ne8,ne9,X,hz3,hzl,V9];(repeat refine ca ?_);(refine zJ d ?_;clear d J))
   refine fw o h hw ?_;refine M (g.V.length-(k+1)) _ _ O ⟨k+1,O,rfl,Z K,Z f4,Z o,Z e,Z f,Y,((((L.trans A).trans (aC.new _ _)).set O _).trans (aC.new _ _)).set (au _) _,by simp;omega,.ms (l.z+1) 0 (k+1),Y,.inr ⟨l.z+1,rfl,O,Y,?_⟩⟩;rw[c7,cC,aa O];simp
 .have hkk:k=g.V.length:=O;have hBR:¬a.z=w.z+1:=O;have P:=(L.H (w.z+1) O).trans hR1;have N:aC w b:=(((aC.new _ _).trans (aC.new _ _)).trans W).trans L;rcases Q with⟨h0,rfl⟩|⟨z,rfl,hz1,hz2,hz⟩
  .refine mf e f h dS f4 o y P ?_;exact⟨⟨O,qv.mp O⟩,N.set O _⟩
  .refine mf e f h dS f4 o y P ?_;have hmm:(g.V.map fun v=>fb (m v)).take k=g.V.map fun v=>fb (m v):=ej (by grind);rw[hmm]at hz;exact⟨z,k,⟨rfl,rfl⟩,_,by rw[aa O,hz],by grind,⟨hkk,by grind [List.take_of_length_le]⟩,(N.set O _).set O _⟩
def fB{N:Nat}{Q:AQ}{c:Code}{d:ah}{b:St}(h:0<b.z->bq P N c Q d b):bq P N c Q d b:=
 fun a w g e j k f=>h e.pos a w g e j k f
def nC(v:Int)(x:Ed):PP:=(if x.a=v then [2*x.id]else [])++(if x.b=v then [2*x.id+1]else [])
def ends(a:QR)(v:Int):PP:=a.flatMap (nC v)
def NB(f:Ed->PP)(l:QR)(k:Nat)(a:k<l.length):(l.take (k+1)).flatMap f=(l.take k).flatMap f++f (l.getD k ed0):=by rw[fh a,ot,bv,bu a];simp
def KB(v:Int)(x:Ed):(nC v x).length<=2:=by unfold nC;split<;>split<;>simp
def JR(f:Ed->PP)(hf:∀ x,(f x).length<=2)(l:QR):(l.flatMap f).length<=2*l.length:=by
 induction l with
 |nil=>simp
 |cons x l a=>have:=hf x;simp only[dt,cb,List.length_cons];omega
def Ub(a:QR):Prop:=∀ x∈a,0<=x.id/\x.id<=1048576
def Ub.at(h:Ub a)(k:Nat)(b:k<a.length):0<=(a.getD k ed0).id/\(a.getD k ed0).id<=1048576:=by rw[bv,bu b];exact h _ (dz b)
def wrap_u32'(n:Int)(a:0<=n)(b:n<4294967296):IntKind.u32.wrap n=n:=by rw[wrap_u32];omega
def E3(t:Nat)(b:St)(l:PP)(a:St):Prop:=t≠0/\b.z<=t/\t<a.z/\a.H t=.own 34 1 l.length/\aC b a
def H5(id e:Int)(b:St)(d:0<=id)(f:id<=1048576)(g:e=0\/e=1):aD prog 93 [u id,i e] b fun r a=>r=u (2*id+e)/\a=b:=by refine(Of id e b).mono ?_;rintro r a ⟨rfl,rfl⟩;refine⟨?_,rfl⟩;have c:id*2 % 4294967296+e % 2=2*id+e:=O;rw[c]
def RX(g:Gr)(v:Int)(X:St)(he:g.E.length<=1000)(W:Ub g.E):
 aD prog 51 [.ag (aw g),u v] X fun r st'=>(∃ t,r=.sl t (ends g.E v).length (us (ends g.E v)))/\aC X st':=by
 obtain⟨vs,l⟩:=g;simp only at he W ⊢;have y:=aL l;have hfl:=fun k=>JR (nC v) (KB v) (l.take k);refine zN func51 ntmps51 [.tmp 4] ?_;refine bz ?_;refine fB fun hpos=>?_;refine uS 5 34 1 Y ?_;refine qL (fun n U c=>∃ k:Nat,k<=l.length/\n=l.length-k/\U 1=u v/\U 9=.sl 0 l.length (eds l)/\U 10=i l.length/\U 11=i k/\∃ t,U 5=.sl t (ends (l.take k) v).length (us (ends (l.take k) v))/\E3 t X (ends (l.take k) v) c) l.length ?_ ?_
 .exact⟨0,O,O,Y,Y,Y,Y,X.z+1,by simp[ends],O,O,Y,by simp[ends],(aC.new _ _).trans (aC.new _ _)⟩
 rintro n U c ⟨k,hk,rfl,L,M,d,s,t,H,A,htl,htn,q,I⟩ JJ N;by_cases dS:k<l.length;rotate_left
 .clear N;have hk':k=l.length:=O;rw[hk',fq]at H;refine eI d s dS H ?_;exact I
 have Q:=aP l k dS;have R:=qN k O;have o9:k*3<l.length*3:=O;obtain⟨hi0,hi1⟩:=W.at k dS;have e:ends (l.take (k+1)) v=ends (l.take k) v++nC v (l.getD k ed0):=NB _ _ _ dS;have u7:=hfl k;rw[dj]at u7;have hle2:(ends (l.take k) v).length<=2*min k l.length:=u7;generalize hx:l.getD k ed0=x at *;obtain⟨id,a,b⟩:=x;simp only at hi0 hi1 Q;generalize hF:ends (l.take k) v=F at *;have S:IntKind.u32.wrap (2*id)=2*id:=wrap_u32' _ O O;have T:IntKind.u32.wrap (2*id+1)=2*id+1:=wrap_u32' _ O O;have o:¬t=c.z:=O;have B:¬c.z=t:=O;have p:¬t=c.z+1:=O;have C:¬t=c.z+1+1:=O;have D:¬t=c.z+1+1+1:=O;have f:¬c.z=c.z+1+1:=O;have h:¬c.z=c.z+1+1+1:=O;have j:¬c.z=c.z+1+1+1+1:=O;have m:¬c.z+1+1=c.z+1+1+1:=O;by_cases P:a=v
 .by_cases K:b=v
  .have w:nC v ⟨id,a,b⟩=[2*id,2*id+1]:=by simp[nC,P,K]
   rw[w]at e
   (repeat' (first|apply qS|apply qB|refine qK (zZ ?_)|(apply qC;simp[L,H,M,d,s,dS,Q,R,y,P,K,S,T,q,A,o,B,p,f,h,j,m,C,D])|(refine zE ?_;intro J V;simp[L,H,M,d,s,dS,Q,R,y,P,K,S,T,q,A,o,B,p,f,h,j,m,C,D];(repeat refine ca ?_);refine zJ V ?_)))
   refine N (l.length-(k+1)) _ _ O ⟨k+1,O,rfl,Z L,Z M,Z d,Y,c.z+1+1+1+1,by rw[e];simp[H],O,by have:=I.z;omega,by simp<;>omega,by rw[e];simp[q,o,p,f,h,j,m],?_⟩
   (repeat (first|exact I|(refine aC.trans ?_ (aC.new _ _))|(refine aC.set ?_ (by have:=I.z;first|omega|(simp only[aK,bP];omega)) _)))
  .have w:nC v ⟨id,a,b⟩=[2*id]:=by simp[nC,P,K]
   rw[w]at e
   (repeat' (first|apply qS|apply qB|refine qK (zZ ?_)|(apply qC;simp[L,H,M,d,s,dS,Q,R,y,P,K,S,T,q,A,o,B,p,f,h,j,m,C,D])|(refine zE ?_;intro J V;simp[L,H,M,d,s,dS,Q,R,y,P,K,S,T,q,A,o,B,p,f,h,j,m,C,D];(repeat refine ca ?_);refine zJ V ?_)))
   refine N (l.length-(k+1)) _ _ O ⟨k+1,O,rfl,Z L,Z M,Z d,Y,c.z+1+1,by rw[e];simp[H],O,by have:=I.z;omega,by simp<;>omega,by rw[e];simp[q,o,p,f,h,j,m],?_⟩
   (repeat (first|exact I|(refine aC.trans ?_ (aC.new _ _))|(refine aC.set ?_ (by have:=I.z;first|omega|(simp only[aK,bP];omega)) _)))
 .by_cases K:b=v
  .have w:nC v ⟨id,a,b⟩=[2*id+1]:=by simp[nC,P,K]
   rw[w]at e
   (repeat' (first|apply qS|apply qB|refine qK (zZ ?_)|(apply qC;simp[L,H,M,d,s,dS,Q,R,y,P,K,S,T,q,A,o,B,p,f,h,j,m,C,D])|(refine zE ?_;intro J V;simp[L,H,M,d,s,dS,Q,R,y,P,K,S,T,q,A,o,B,p,f,h,j,m,C,D];(repeat refine ca ?_);refine zJ V ?_)))
   refine N (l.length-(k+1)) _ _ O ⟨k+1,O,rfl,Z L,Z M,Z d,Y,c.z+1+1,by rw[e];simp[H],O,by have:=I.z;omega,by simp<;>omega,by rw[e];simp[q,o,p,f,h,j,m],?_⟩
   (repeat (first|exact I|(refine aC.trans ?_ (aC.new _ _))|(refine aC.set ?_ (by have:=I.z;first|omega|(simp only[aK,bP];omega)) _)))
  .have w:nC v ⟨id,a,b⟩=[]:=by simp[nC,P,K]
   rw[w]at e;refine X5 L H M d s dS Q R y P K S T q A o B p f h j m C D ?_;refine N (l.length-(k+1)) _ _ O ⟨k+1,O,rfl,Z L,Z M,Z d,Y,t,by rw[e];simp[H],O,by have:=I.z;omega,by simp<;>omega,by rw[e];simp[q,o,p,f,h,j,m],?_⟩
   (repeat (first|exact I|(refine aC.trans ?_ (aC.new _ _))|(refine aC.set ?_ (by have:=I.z;first|omega|(simp only[aK,bP];omega)) _)))
def Bq(v:Int)(x:Ed):PP:=(if x.a=v then [x.b]else [])++(if x.b=v then [x.a]else [])
def nbr(a:QR)(v:Int):PP:=a.flatMap (Bq v)
def alone(g:Gr):Nat:=g.V.countP fun v=>decide (nbr g.E v=[])
inductive Reach(es:List Ed)(v:Int):Int->Prop
 |refl:Reach es v v
 |step {u w:Int} (h:Reach es v u) (hw:w∈nbr es u):Reach es v w
theorem cI{c:QR}{u:Int}:w∈nbr c u↔∃ x∈c,(x.a=u/\x.b=w)\/(x.b=u/\x.a=w):=by
 grind [nbr,Bq]
def mH{u:Int}(h:w∈nbr a u):u∈nbr a w:=by
 grind [cI]
def Reach.trans{u v:Int}(h:Reach a u v)(k:Reach a v w):Reach a u w:=by
 induction k with
 |refl=>exact h
 |step _ b c=>exact .step c b
def Reach.symm{es:QR}{u v:Int}(h:Reach es u v):Reach es v u:=by
 induction h with
 |refl=>exact .refl
 |step _ hw ih=>exact Reach.trans (.step .refl (mH hw)) ih
structure Good(g:Gr):Prop where
 rise:g.V.Pairwise (· < ·)
 ends:∀ x∈g.E,x.a∈g.V/\x.b∈g.V
theorem Good.nbr{g:Gr}(h:Good g){u w:Int}(a:w∈nbr g.E u):w∈g.V:=by
 rw[cI]at a;obtain⟨x,b,⟨_,rfl⟩|⟨_,rfl⟩⟩:=a
 .exact(h.ends x b).2
 .exact(h.ends x b).1
def Good.nodup(h:Good g):g.V.Nodup:=h.rise.imp fun h=>by omega
def fe(l:QR)(id:Int):Int:=if l.any (fun x=>decide (x.id=id))then(l.findIdx (fun x=>decide (x.id=id)):Int)else -1
def WY{k:Nat}(b:k<l.length)(h:(l.getD k ed0).id=id)(d:∀ j,j<k->(l.getD j ed0).id≠id):fe l id=k:=by
 have c:∀ j (a:j<l.length),l.getD j ed0=l[j]:=fun j a=>by rw[bv,bu a];rfl
 rw[c k b]at h;unfold fe;rw[ac (nv.2 ⟨_,dz b,by simpa using h⟩)]
 congr 1
 refine(List.findIdx_eq b).2 ⟨by simpa using h,fun j a=>?_⟩;have:=d j a;rw[c j O]at this;simpa using this
def Xv(b:∀ j,j<l.length->(l.getD j ed0).id≠id):fe l id = -1:=by unfold fe;rw[aa];intro h;obtain⟨x,d,c⟩:=nv.1 h;obtain⟨j,a,rfl⟩:=er d;have:=b j a;rw[bv,bu a]at this;exact this (by simpa using c)
def Rm(g:Gr)(id:Int)(C:St)(I:g.E.length<=1000):
 aD prog 17 [.ag (aw g),u id] C fun r D=>r=i (fe g.E id)/\aC C D:=by
 obtain⟨P,l⟩:=g;simp only at I ⊢;have o:=aL l;refine zN func17 ntmps17 [.tmp 4] ?_;refine bz ?_;refine qL (fun n f s=>∃ k:Nat,k<=l.length/\n=l.length-k/\f 1=u id/\f 8=.sl 0 l.length (eds l)/\f 9=i l.length/\f 10=i k/\aC C s/\∀ j,j<k->(l.getD j ed0).id≠id) l.length ?_ ?_
 .exact⟨0,O,O,Y,Y,Y,Y,aC.new _ _,fun j H=>by omega⟩
 rintro n f s ⟨k,L,rfl,v,w,t,e,A,B⟩ K m;by_cases dS:k<l.length;rotate_left
 .clear m;have z:=Xv (l:=l) (id:=id) fun j H=>B j O;refine eI t e dS z ?_;exact A
 have y:=aP l k dS;have J:=qN k O;have N:k*3<l.length*3:=O;have q:=fun h=>WY (id:=id) dS h B;have p:(l.getD k ed0).id≠id->∀ j,j<k+1->(l.getD j ed0).id≠id:=fun h j H=>by
  rcases ec j k with F|F
  .exact B j F
  .obtain rfl:j=k:=O;exact h
 generalize M:l.getD k ed0=x at *;obtain⟨d,a,b⟩:=x;simp only at y q p;by_cases c:d=id
 .have z:=q c;refine oy v w t e dS y o c z ?_;exact A.trans (aC.new _ _)
 .refine oy v w t e dS y o c J ?_;exact m (l.length-(k+1)) _ _ O ⟨k+1,O,rfl,Z v,Z w,Z t,Y,A.trans (aC.new _ _),p c⟩
def E8(l:QR)(id:Int)(h:¬fe l id<0):(fe l id).toNat<l.length/\fe l id=((fe l id).toNat:Int)/\(l.getD (fe l id).toNat ed0).id=id:=by
 unfold fe at h ⊢
 split at h
 .rename_i a;rw[ac a];simp only[Int.toNat_natCast];have dS:l.findIdx (fun x=>decide (x.id=id))<l.length:=by rw[List.findIdx_lt_length];obtain⟨x,b,h⟩:=nv.1 a;exact⟨x,b,h⟩
  refine⟨dS,trivial,?_⟩;have:=xd (w:=dS);rw[bv,bu dS];simpa using this
 .omega
def Is(f:FuncId)(Kz:QQ)(c:St)(l:QR)(p:Ed->Bool):Prop:=∀ x∈l,∀ a,aC c a->aD prog f (.ag (dv x)::Kz) a fun r b=>r=bb (p x)/\aC a b
def qJ(l:QR)(p:Ed->Bool)(k:Nat)(a:k<l.length):(l.take (k+1)).filter p=if p (l.getD k ed0)=true then(l.take k).filter p++[l.getD k ed0]else(l.take k).filter p:=by rw[fh a,po,bv,bu a];by_cases h:p l[k]=true<;>simp[h]
def V1(X:LV)(F:QR):Prop:=(X=.nil/\F=[])\/∃ t,X=.sl t F.length (eds F)
def X9(g:Gr)(f:FuncId)(Kz:QQ)(p:Ed->Bool)(C:St)(hv:g.V.length<=1000)(he:g.E.length<=1000)(hp:Is f Kz C g.E p):
 aD prog 14 [.ag (aw g),.fn (.func f) Kz] C fun r st'=>(∃ X,r=.ag [.sl 0 g.V.length (us g.V),X]/\V1 X (g.E.filter p))/\aC C st':=by
 have hel:=aL g.E;have hsm:small g.V:=by unfold small;omega
 refine zN func14 ntmps14 [.cell 4 25] ?_
 (refine ez ?_;intro J L)
 refine qE (UU g.V 0 _ hsm) Y ?_;rintro r U ⟨rfl,j8⟩;have hn1:=j8.z;simp only[aK]at hn1;have hG1:U.H C.z=.box 25 2 (aw g):=by rw[j8.H _ (by simp;omega)];simp
 have hC1:U.H (C.z+1)=.box 25 2 [.nil,.nil]:=by rw[j8.H _ Y];simp
 have e1:¬C.z=U.z:=O;refine oG L hG1 e1 ?_;have hkp1:aC C U:=((aC.new _ _).trans (aC.new _ _)).trans j8;obtain⟨Q,hq4⟩:∃ q,q=C.z+1:=⟨_,rfl⟩;obtain⟨B,T⟩:∃ q,q=U.z:=⟨_,rfl⟩;refine qL (fun n R e=>∃ k:Nat,k<=g.E.length/\n=g.E.length-k/\R 1=.fn (.func f) Kz/\R 4=.pt Q 0/\R 5=.pt B 0/\R 13=.sl 0 g.E.length (eds g.E)/\R 14=i g.E.length/\R 15=i k/\aC C e/\B<e.z/\e.H Q=.box 25 2 [.nil,.nil]/\∃ X,e.H B=.box 25 2 [.sl 0 g.V.length (us g.V),X]/\((X=.nil/\(g.E.take k).filter p=[])\/∃ t,X=.sl t ((g.E.take k).filter p).length (eds ((g.E.take k).filter p))/\t≠0/\B<t/\t<e.z/\e.H t=.own 36 3 ((g.E.take k).filter p).length)) g.E.length ?_ ?_
 .have e2:¬Q=U.z:=O;have e3:¬C.z+1=U.z:=O;refine⟨0,O,O,Y,Z hq4,Z T,Y,Y,Y,?_,Z T,gS e2 hC1 hq4 e3,.nil,Z T,.inl ⟨rfl,Y⟩⟩
  (repeat (first|exact hkp1|(refine aC.trans ?_ (aC.new _ _))|(refine aC.set ?_ O _)))
 rintro n R e ⟨k,hk,rfl,f1,f4,I,D,o,j,W,h5n,hC,X,hX,N⟩ JJ M;have e0:¬Q=B:=O;by_cases dS:k<g.E.length;rotate_left
 .clear M;have hk':k=g.E.length:=O;rw[hk',fq]at N;rcases N with⟨rfl,h⟩|⟨t,rfl,h⟩
  .refine mf f4 I o j dS hX hC e0 ?_;exact⟨.inl ⟨rfl,h⟩,(by repeat (first|exact W|(refine aC.trans ?_ (aC.new _ _))|(refine aC.set ?_ (by have:=W.z;omega) _)))⟩
  .refine mf f4 I o j dS hX hC e0 ?_;exact⟨.inr ⟨t,rfl⟩,(by repeat (first|exact W|(refine aC.trans ?_ (aC.new _ _))|(refine aC.set ?_ (by have:=W.z;omega) _)))⟩
 have hd:=aP g.E k dS;have hw:=qN k O;have o9:k*3<g.E.length*3:=O;have hxin:g.E.getD k ed0∈g.E:=by rw[bv,bu dS];exact dz dS
 have l:=qJ g.E p k dS;have u7:=gx p (g.E.take k);rw[dj]at u7;have A:=fun s h=>hp _ hxin s h;generalize hx:g.E.getD k ed0=x at *;generalize hFF:(g.E.take k).filter p=F at *;have hFl:=aL F;have hFo:(eds F).length=F.length*3:=hFl;obtain⟨d,a,b⟩:=x;simp only at hd A
 (refine Hm f1 D o j dS hd hel ?_;intro J L)
 refine qF (A _ (W.trans (aC.new _ (.box 36 3 [u d,u a,u b])))) ?_;rintro r v ⟨rfl,m⟩;have hn3:=m.z;simp only[aK]at hn3;have P:aC e v:=(aC.new _ _).trans m;have w:=(P.H B h5n).trans hX;have S:=(P.H Q O).trans hC;have K:v.H e.z=.box 36 3 [u d,u a,u b]:=by rw[m.H _ Y];simp
 have y:aC C v:=(W.trans (aC.new _ _)).trans m;have z1:¬B=v.z:=O;have z2:¬B=v.z+1:=O;have z3:¬Q=v.z:=O;have z4:¬Q=v.z+1:=O;have z5:¬v.z+1=B:=O;by_cases c:p ⟨d,a,b⟩=true;rotate_left
 .rw[aa c]at l;have c:p ⟨d,a,b⟩=false:=by simpa using c
  refine wT L c j hw ?_;refine M (g.E.length-(k+1)) _ _ O ⟨k+1,O,rfl,Z f1,Z f4,Z I,Z D,Z o,Y,y,O,S,X,w,?_⟩;rw[l];rcases N with h|⟨t,h,h0,h1,h2,h3⟩
  .exact .inl h
  .exact .inr ⟨t,h,h0,h1,O,(P.H t h2).trans h3⟩
 rw[ac c]at l;have hed:eds (F++[⟨d,a,b⟩])=eds F++[u d,u a,u b]:=by simp[eds]
 rcases N with⟨rfl,hF0⟩|⟨t,rfl,h0,h1,h2,h3⟩
 ·(repeat' (first|(apply qC;simp[c,I,j,hw,w,K,z1,z2])|((first|(refine zE ?_;intro J L)|(apply cP));simp[c,I,j,hw,w,K,z1,z2];(repeat refine ca ?_);(refine zJ L ?_;clear L J))))
  refine M (g.E.length-(k+1)) _ _ O ⟨k+1,O,rfl,Z f1,Z f4,Z I,Z D,Z o,Y,?_,by simp;omega,gS e0 z3 z4 S,_,by simp;rfl,.inr ⟨v.z+1,by rw[l,hed,hF0];simp[eds],O,O,Y,by rw[l,hF0];simp[z5]⟩⟩
  (repeat (first|exact y|(refine aC.trans ?_ (aC.new _ _))|(refine aC.set ?_ O _)))
 .have h3':v.H t=.own 36 3 F.length:=(P.H t h2).trans h3;have y1:¬t=v.z:=O;have y2:¬t=v.z+1:=O;have y3:¬B=t:=O;have y4:¬t=B:=O;have y5:¬Q=t:=O
  (repeat' (first|(apply qC;simp[c,I,j,hw,w,K,z1,z2,h3',h0,y1,y2,y3,y4,hFo])|((first|(refine zE ?_;intro J L)|(apply cP));simp[c,I,j,hw,w,K,z1,z2,h3',h0,y1,y2,y3,y4,hFo];(repeat refine ca ?_);(refine zJ L ?_;clear L J))))
  refine M (g.E.length-(k+1)) _ _ O ⟨k+1,O,rfl,Z f1,Z f4,Z I,Z D,Z o,Y,?_,by simp;omega,qi e0 z3 z4 y5 S,_,by simp;rfl,.inr ⟨v.z+1,by rw[l,hed];simp,O,O,Y,by rw[l];simp[z5]⟩⟩
  (repeat (first|exact y|(refine aC.trans ?_ (aC.new _ _))|(refine aC.set ?_ O _)))
def tZ{f:Nat->Int}{n:Nat}(h:cH f n=0):∀ j,j<n->f j=0:=by
 induction n with
 |zero=>omega
 |succ n a=>
  grind [cH]
def yX{n a:Int}{b:Bool}(h:gJ n a b=0):1<=n/\n<=1048576/\(b=false->a<n):=by
 grind [gJ]
def Vq{l:PP}(h:∀ j,j<l.length->0<j->l.getD (j-1) 0<l.getD j 0):l.Pairwise (· < ·):=by
 rw[fD];intro a b c d f;induction b with
 |zero=>omega
 |succ b e=>
  grind
def Js(h:chk g=0):Good g/\Ub g.E/\g.V.length<=64/\g.E.length<=160:=by
 unfold chk at h;by_cases k:64<g.V.length\/160<g.E.length
 .omega
 .rw[aa k]at h;by_cases l:cH (lS g) g.V.length=0
  .rw[aa O]at h;have p:=tZ l;have n:=tZ h;have o:∀ j,j<g.E.length->(1<=(g.E.getD j ed0).id/\(g.E.getD j ed0).id<=1048576)/\(g.E.getD j ed0).a∈g.V/\(g.E.getD j ed0).b∈g.V:=by
    intro j c;have:=n j c;unfold nB at this;simp only at this;by_cases e:gJ (g.E.getD j ed0).id (g.E.getD (j-1) ed0).id (decide (j=0))=0
    .rw[aa (fun h=>h e)]at this;by_cases m:(g.E.getD j ed0).a=(g.E.getD j ed0).b
     .omega
     .rw[aa m]at this;by_cases r:(g.E.getD j ed0).a∉g.V\/(g.E.getD j ed0).b∉g.V
      .grind
      .have s:=yX e
       grind
    .omega
   have f:∀ x∈g.E,∃ j,j<g.E.length/\g.E.getD j ed0=x:=by intro x d;obtain⟨j,c,rfl⟩:=er d;exact⟨j,c,by grind⟩
   refine⟨⟨Vq fun j c q=>?_,fun x d=>?_⟩,fun x d=>?_,O,O⟩
   .have:=(yX (p j c)).2.2 (by grind);omega
   .grind
   grind
  omega
def xJ(a:QR)(v:Int):ends a v=[]↔nbr a v=[]:=by
 unfold ends nbr;simp only[List.flatMap_eq_nil_iff];refine forall_congr' fun x=>forall_congr' fun _=>?_
 grind [nC,Bq]
end Aw
namespace Aw
open Go Go.RowKit Pl Eu
def bA(a:QR):PP:=a.flatMap fun x=>[2*x.id,2*x.id+1]
structure GoodE(g:Gr):Prop extends Good g where
 ids:g.E.Pairwise (fun x y=>x.id<y.id)
 pos:∀ x∈g.E,1<=x.id/\x.id<=1048576
 ne:∀ x∈g.E,x.a≠x.b
def gH(l:QR)(j:Nat)(a:j<l.length):l.getD j ed0=l[j]:=by
 grind
def fF{g:Gr}(h:chk g=0):GoodE g:=by
 obtain⟨n,_,_,_⟩:=Js h;unfold chk at h;by_cases k:64<g.V.length\/160<g.E.length
 .omega
 rw[aa k]at h;by_cases o:cH (lS g) g.V.length=0
 .rw[aa O]at h;have l:=tZ h;have m:∀ j,j<g.E.length->((1<=(g.E.getD j ed0).id/\(g.E.getD j ed0).id<=1048576)/\(0<j->(g.E.getD (j-1) ed0).id<(g.E.getD j ed0).id))/\(g.E.getD j ed0).a≠(g.E.getD j ed0).b:=by
   intro j c;have:=l j c;unfold nB at this;simp only at this;by_cases e:gJ (g.E.getD j ed0).id (g.E.getD (j-1) ed0).id (decide (j=0))=0
   .rw[aa (fun h=>h e)]at this;by_cases p:(g.E.getD j ed0).a=(g.E.getD j ed0).b
    .omega
    .have q:=yX e
     grind
   .omega
  have f:∀ x∈g.E,∃ j,j<g.E.length/\g.E.getD j ed0=x:=by intro x d;obtain⟨j,c,rfl⟩:=er d;exact⟨j,c,gH _ _ c⟩
  refine⟨n,?_,fun x d=>?_,fun x d=>?_⟩
  .rw[fD];intro a b r s v;induction b with
   |zero=>omega
   |succ b t=>
    grind
  .grind
  grind
 omega
variable{d v w:Int}{a c:List Ed}{l:List Int}{m:Mp}
theorem id_eq(h:a.Pairwise (fun x y=>x.id<y.id)){x y:Ed}(c:x∈a)(d:y∈a)(e:x.id=y.id):x=y:=by
 obtain⟨j,f,rfl⟩:=er c;obtain⟨k,g,rfl⟩:=er d;rcases lh j k with b|b|b
 .grind [List.pairwise_iff_getElem]
 .grind
 grind [List.pairwise_iff_getElem]
theorem cU:d∈ends c v↔∃ x∈c,(x.a=v/\d=2*x.id)\/(x.b=v/\d=2*x.id+1):=by
 grind [ends,nC]
theorem dY:d∈bA a↔∃ x∈a,d=2*x.id\/d=2*x.id+1:=by
 grind [bA]
theorem iJ:d∈bA a↔∃ x∈a,x.id=d / 2:=by
 grind [dY]
def rV(h:a.Pairwise (fun x y=>x.id<y.id)):(bA a).Pairwise (· < ·):=by
 grind [bA]
def Fv(h:c.Pairwise (fun x y=>x.id<y.id))(v:Int):(ends c v).Pairwise (· < ·):=by
 unfold ends;rw[List.pairwise_flatMap];refine⟨fun x _=>?_,h.imp fun {x y} W0 a ha b hb=>?_⟩
 .unfold nC;by_cases d:x.a=v<;>by_cases e:x.b=v<;>simp[d,e];omega
 grind [nC]
def jS(h:l.Pairwise (· < ·)):l.Nodup:=h.imp fun h=>by omega
def IW(a:QR)(v:Int)(t:PP):Prop:=t.Perm (ends a v)/\fb t=t
structure bZ(m:Mp):Prop where
 g:GoodE m.g
 len:m.rots.length=m.g.V.length
 ok:∀ k,k<m.g.V.length->IW m.g.E (m.g.V.getD k 0) (m.rots.getD k [])
def eD(h:a.Pairwise (fun x y=>x.id<y.id))(b:d∈ends a v)(c:d∈ends a w):v=w:=by
 grind [cU,id_eq]
theorem oI(h:d∈ends a v):d∈bA a:=by
 grind [cU,dY]
def Ge(h:d∈bA c):∃ v,d∈ends c v/\∃ x∈c,x.id=d / 2/\(v=x.a\/v=x.b):=by
 grind [dY,cU]
def nJ(l:List PP)(j:Nat)(a:j<l.length):l.getD j []=l[j]:=by
 grind
section
variable {m:Mp} (h:bZ m)
include h
theorem bZ.turn{t:PP}(c:t∈m.rots):∃ k,k<m.g.V.length/\t=m.rots.getD k []/\IW m.g.E (m.g.V.getD k 0) t:=by
 obtain⟨k,b,rfl⟩:=er c;have a:k<m.g.V.length:=by rw[<- h.len];exact b
 refine⟨k,a,(nJ _ _ b).symm,?_⟩;have:=h.ok k a
 grind
theorem bZ.nodup{t:PP}(b:t∈m.rots):t.Nodup:=by obtain⟨k,_,_,a,_⟩:=h.turn b;exact a.nodup_iff.2 (jS (Fv h.g.ids _))
theorem bZ.same{t e:PP}(p:t∈m.rots)(c:e∈m.rots){d:Int}(n:d∈t)(a:d∈e):t=e:=by obtain⟨k,o,rfl,j,_⟩:=h.turn p;obtain⟨q,b,rfl,l,_⟩:=h.turn c;have:=eD h.g.ids (j.mem_iff.1 n) (l.mem_iff.1 a);rw[bT _ _ o,bT _ _ b]at this;have f:=congrArg m.g.V.idxOf this;rw[h.g.toGood.nodup.idxOf_getElem,h.g.toGood.nodup.idxOf_getElem]at f;rw[f]
theorem bZ.turn_of{d:Int}(f:d∈bA m.g.E):∃ t∈m.rots,d∈t:=by
 obtain⟨v,j,x,e,_,b⟩:=Ge f;have a:v∈m.g.V:=by
  rcases b with rfl|rfl
  .exact(h.g.ends x e).1
  .exact(h.g.ends x e).2
 obtain⟨k,c,rfl⟩:=er a;have:=h.ok k c;rw[bT _ _ c]at this;refine⟨_,?_,this.1.mem_iff.2 j⟩;rw[nJ _ _ (by rw[h.len];omega)]
 grind
theorem bZ.turn_dart{t:PP}(a:t∈m.rots){d:Int}(c:d∈t):d∈bA m.g.E:=by
 obtain⟨k,_,_,b,_⟩:=h.turn a
 grind [oI]
end
def sg(m:Mp)(d:Int):Int:=match m.rots.find? (fun t=>decide (d∈t)) with
 |some t=>nx t d
 |none=>d
def Yx(h:∀ t∈m.rots,d∉t):sg m d=d:=by
 grind [sg]
theorem FL(h:bZ m){t:PP}(e:t∈m.rots)(c:d∈t):sg m d=nx t d:=by
 unfold sg;cases hf:m.rots.find? (fun t=>decide (d∈t)) with
 |none=>
  grind
 |some f=>have a:=rl hf;have b:=qq hf;simp only at a ⊢;rw[h.same b e (by grind) c]
def al(a:QR)(d:Int):Int:=if(a.any fun x=>decide (x.id=d / 2))=true then tw d else d
theorem FQ(h:d∈bA a):al a d=tw d:=by
 grind [al,iJ]
theorem wU(h:d∉bA a):al a d=d:=by
 grind [al,iJ]
theorem HE(d:Int):tw d / 2=d / 2:=by grind [tw]
theorem U6(d:Int):tw (tw d)=d:=by grind [tw]
theorem Xo:tw d∈bA a↔d∈bA a:=by grind [iJ,HE]
theorem YW(a:QR)(d:Int):al a (al a d)=d:=by
 grind [FQ,Xo,U6,wU]
theorem VW(a:QR)(d:Int):al a d / 2=d / 2:=by
 grind [al,HE]
def Hh(b a:QR)(d:Int):al b d∈bA a↔d∈bA a:=by grind [iJ,VW]
def ZZ(a:QR){e:Int}(h:al a d=al a e):d=e:=by grind [YW]
def fc(m:Mp)(a:QR)(d:Int):Int:=sg m (al a d)
section
variable {m:Mp} (h:bZ m)
include h
theorem bZ.sg_mem{t:PP}(b:t∈m.rots){d:Int}(a:d∈t):sg m d∈t:=by rw[FL h b a];grind [Ln]
theorem bZ.sg_dart{d:Int}(c:d∈bA m.g.E):sg m d∈bA m.g.E:=by obtain⟨t,b,a⟩:=h.turn_of c;exact h.turn_dart b (h.sg_mem b a)
theorem bZ.sg_id{d:Int}(b:d∉bA m.g.E):sg m d=d:=Yx fun _ c a=>b (h.turn_dart c a)
theorem bZ.sg_inj{d e:Int}(b:sg m d=sg m e):d=e:=by
 by_cases k:d∈bA m.g.E
 .by_cases c:e∈bA m.g.E
  .obtain⟨t,f,l⟩:=h.turn_of k;obtain⟨n,j,a⟩:=h.turn_of c;have:=h.same f j (h.sg_mem f l) (b ▸ h.sg_mem j a);subst this;rw[FL h f l,FL h f a]at b;exact VJ (h.nodup f) l a b
  .have:=h.sg_dart k;rw[b,h.sg_id c]at this
   grind
 .by_cases c:e∈bA m.g.E
  .have:=h.sg_dart c;rw[<- b,h.sg_id k]at this
   grind
  .rwa [h.sg_id k,h.sg_id c]at b
theorem bZ.fc_inj(a:QR)(d e:Int)(b:fc m a d=fc m a e):d=e:=ZZ a (h.sg_inj b)
theorem bZ.fc_dart(a:QR)(d:Int)(b:d∈bA m.g.E):fc m a d∈bA m.g.E:=h.sg_dart ((Hh a _ d).2 b)
theorem bZ.fc_per(a:QR)(e:∀ x∈a,x∈m.g.E):Per (fc m a):=by
 refine Rl (bA m.g.E) (fun x b=>h.fc_dart a x b) (h.fc_inj a) fun x b=>?_
 have c:x∉bA a:=fun d=>b (by
  grind [dY])
 unfold fc;rw[wU c,h.sg_id b]
theorem bZ.sg_at_v{d v:Int}(c:d∈ends m.g.E v):sg m d∈ends m.g.E v:=by obtain⟨t,e,a⟩:=h.turn_of (oI c);obtain⟨k,f,rfl,b,_⟩:=h.turn e;have:=eD h.g.ids c (b.mem_iff.1 a);rw[this];exact b.mem_iff.1 (h.sg_mem e a)
theorem bZ.orb_reach(e:QR)(z:∀ x∈e,x∈m.g.E)(n:Nat):∀ {d v:Int},d∈ends m.g.E v->∃ w,it (fc m e) n d∈ends m.g.E w/\Reach e v w:=by
 induction n with
 |zero=>intro d v f;exact⟨v,f,.refl⟩
 |succ n C=>
  intro d v f;have p:∃ w,fc m e d∈ends m.g.E w/\Reach e v w:=by
   by_cases o:d∈bA e
   .unfold fc;rw[FQ o];obtain⟨x,k,A⟩:=iJ.1 o;have c:=z x k;obtain⟨y,B,l⟩:=cU.1 f;have W0:x=y:=id_eq h.g.ids c B O;subst W0;rcases l with⟨rfl,j⟩|⟨rfl,j⟩
    .refine⟨x.b,h.sg_at_v (cU.2 ⟨x,c,.inr ⟨rfl,?_⟩⟩),.step .refl (cI.2 ⟨x,k,.inl ⟨rfl,rfl⟩⟩)⟩
     grind [tw]
    .refine⟨x.a,h.sg_at_v (cU.2 ⟨x,c,.inl ⟨rfl,?_⟩⟩),.step .refl (cI.2 ⟨x,k,.inr ⟨rfl,rfl⟩⟩)⟩
     grind [tw]
   .unfold fc;rw[wU o];exact⟨v,h.sg_at_v f,.refl⟩
  obtain⟨w,q,r⟩:=p;obtain⟨D,s,t⟩:=C q;exact⟨D,s,r.trans t⟩
end
theorem jT(a:QR):gh (Reach a):=⟨fun _=>.refl,Reach.symm,Reach.trans⟩
theorem Reach.mono{b:QR}(d:∀ x∈b,x∈a)(h:Reach b v w):Reach a v w:=by
 induction h with
 |refl=>exact .refl
 |step _ e c=>
  refine .step c ?_
  grind [cI]
theorem LG(d:QR)(x:Ed)(v w:Int):Reach (d++[x]) v w↔Eu.Mg (Reach d) x.a x.b v w:=by
 constructor
 .intro h;have f:=Mg.eqv (jT d) x.a x.b;induction h with
  |refl=>exact f.refl _
  |step _ g j=>
   refine f.trans j ?_;obtain⟨y,c,e⟩:=cI.1 g;rw[am,bi]at c;rcases c with c|rfl
   .exact .inl (.step .refl (cI.2 ⟨y,c,e⟩))
   .rcases e with⟨rfl,rfl⟩|⟨rfl,rfl⟩
    .exact .inr (.inl ⟨.refl,.refl⟩)
    .exact .inr (.inr ⟨.refl,.refl⟩)
 .refine Mg.le (jT _) (.step .refl (cI.2 ⟨x,Y,.inl ⟨rfl,rfl⟩⟩)) fun v w h=>h.mono fun y c=>by grind
def Ng{R:Int->Int->Prop}(a:∀ x y,R x y->x=y)(b:l.Nodup):bj R l=l.length:=by
 induction l with
 |nil=>rfl
 |cons x l c=>
  grind [aQ]
def FI(h:Reach [] v w):v=w:=by
 induction h with
 |refl=>rfl
 |step _ a _=>grind [cI]
theorem filter_eq{d e:Type}(p:d->Bool)(q:e->Bool):∀(l:List d) (c:List e),l.length=c.length->(∀ k (f:k<l.length) (g:k<c.length),p l[k]=!q c[k])->(l.filter p).length+c.countP q=l.length
 |[],[],_,_=>rfl
 |[],_::_,h,_=>by grind
 |_::_,[],h,_=>by grind
 |a::l,b::c,h,hk=>by
  have m:=filter_eq p q l c (by grind) fun k f g=>hk (k+1) (by grind) (by grind);have j:=hk 0 Y Y
  grind
section
variable {m:Mp} (h:bZ m)
include h
theorem bZ.lW:(bA m.g.E).Perm m.rots.flatten:=by
 refine(jd (jS (rV h.g.ids)) ?_).2 fun d=>?_
 .unfold List.Nodup;rw[BY];refine⟨fun t j=>h.nodup j,?_⟩;rw[fD];intro a b n o s x q y r;rintro rfl;have k:=h.ok a (by rw[<- h.len];omega);have l:=h.ok b (by rw[<- h.len];omega);rw[nJ _ _ n]at k;rw[nJ _ _ o]at l;have p:=eD h.g.ids (k.1.mem_iff.1 q) (l.1.mem_iff.1 r);have c:a<m.g.V.length:=by rw[<- h.len];exact n
  have e:b<m.g.V.length:=by rw[<- h.len];exact o
  rw[bT _ _ c,bT _ _ e]at p;have:=fD.1 h.g.rise a b c e s;omega
 .rw[fI];exact⟨fun f=>h.turn_of f,fun⟨t,j,f⟩=>h.turn_dart j f⟩
theorem bZ.ncl_sg:bj (Orb (sg m)) (bA m.g.E)+alone m.g=m.g.V.length:=by
 have r:fc m []=sg m:=by funext d;simp[fc,al]
 have F:Per (sg m):=by rw[<- r];exact h.fc_per [] (fun x c=>by grind)
 have w:∀ t∈m.rots,∀ n x,x∈t->it (sg m) n x∈t:=by
  intro t o n;induction n with
  |zero=>intro x c;exact c
  |succ n D=>intro x c;exact D _ (h.sg_mem o c)
 have H:∀ t∈m.rots,∀ n x,x∈t->it (sg m) n x=it (nx t) n x:=by
  intro t o n;induction n with
  |zero=>intro x c;rfl
  |succ n D=>grind [bI,FL]
 rw[yO F.eqv h.lW,EA]
 .have:=filter_eq (fun t=>decide (t≠[])) (fun v=>decide (nbr m.g.E v=[])) m.rots m.g.V h.len fun k l e=>?_
  .rw[<- h.len];exact this
  .have s:=h.ok k e;rw[nJ _ _ l,bT _ _ e]at s;have J:m.rots[k]=[]↔nbr m.g.E m.g.V[k]=[]:=by
    rw[<- xJ];constructor
    .intro p;have:=s.1;simp_all
    .intro p;have:=s.1;simp_all
   grind
 .intro t o x c y z;obtain⟨n,C⟩:=Mk (h.nodup o) c z;exact⟨n,by grind⟩
 .rw[fD];rintro a b B q I x c y z ⟨n,C⟩;have A:=w _ (dz q) n y z;rw[C]at A;have l:=h.ok a (by rw[<- h.len];omega);have e:=h.ok b (by rw[<- h.len];omega);rw[nJ _ _ B]at l;rw[nJ _ _ q]at e;have p:=eD h.g.ids (l.1.mem_iff.1 c) (e.1.mem_iff.1 A);have f:a<m.g.V.length:=by rw[<- h.len];exact B
  have j:b<m.g.V.length:=by rw[<- h.len];exact q
  rw[bT _ _ f,bT _ _ j]at p;have:=fD.1 h.g.rise a b f j I;omega
theorem bZ.euler_at(j:Nat)(M:j<=m.g.E.length):∃ k:Nat,2*bj (Reach (m.g.E.take j)) m.g.V+j=2*k+alone m.g+m.g.V.length+bj (Orb (fc m (m.g.E.take j))) (bA m.g.E):=by
 induction j with
 |zero=>
  have p:fc m []=sg m:=by funext d;simp[fc,al]
  refine⟨0,?_⟩;rw[List.take_zero,p,Ng (fun x y=>FI) h.g.toGood.nodup];have:=h.ncl_sg;omega
 |succ j L=>
  obtain⟨k,N⟩:=L O;have s:∀ i,∀ x∈m.g.E.take i,x∈m.g.E:=fun i x J=>qw J;have B:=h.fc_per (m.g.E.take j) (s j);have l:=h.fc_per (m.g.E.take (j+1)) (s (j+1));have V9:m.g.E.take (j+1)=m.g.E.take j++[m.g.E[j]]:=fh O;have c:m.g.E[j]∈m.g.E:=dz _;have C:∀ y∈m.g.E.take j,y.id≠m.g.E[j].id:=by intro y K;obtain⟨i,H,rfl⟩:=er K;rw[dj]at H;rw[nu];have:=fD.1 h.g.ids i j O O O;omega
  generalize m.g.E[j]=x at *;have f:∀ d,fc m (m.g.E.take (j+1)) d=fc m (m.g.E.take j) (sw (2*x.id) (2*x.id+1) d):=by
   intro d;unfold fc
   congr 1
   by_cases t:d=2*x.id
   .grind [vV,FQ,iJ,wU,tw]
   .grind [EK,FQ,wU,tw,kZ,bA,List.mem_singleton]
  have z:2*x.id∈bA m.g.E:=dY.2 ⟨x,c,.inl rfl⟩;have A:2*x.id+1∈bA m.g.E:=dY.2 ⟨x,c,.inr rfl⟩;have F:∀ v w,Reach (m.g.E.take (j+1)) v w↔Eu.Mg (Reach (m.g.E.take j)) x.a x.b v w:=fun v w=>by grind [LG]
  have o:bj (Reach (m.g.E.take (j+1))) m.g.V=bj (Eu.Mg (Reach (m.g.E.take j)) x.a x.b) m.g.V:=dA fun v _ w _=>F v w;rw[o];by_cases q:Orb (fc m (m.g.E.take j)) (2*x.id) (2*x.id+1)
  .have t:=uU B l f O z A q;have r:Reach (m.g.E.take j) x.a x.b:=by
    obtain⟨n,I⟩:=q;obtain⟨w,e,D⟩:=h.orb_reach (m.g.E.take j) (s j) n (cU.2 ⟨x,c,.inl ⟨rfl,rfl⟩⟩);rw[I]at e
    rwa [eD h.g.ids e (cU.2 ⟨x,c,.inr ⟨rfl,rfl⟩⟩)]at D
   grind [dA,Mg.same,jT]
  .have t:=oL B l f z A q;by_cases r:Reach (m.g.E.take j) x.a x.b
   .have e:bj (Eu.Mg (Reach (m.g.E.take j)) x.a x.b) m.g.V=bj (Reach (m.g.E.take j)) m.g.V:=dA fun v _ w _=>Mg.same (jT _) r v w;rw[e];exact⟨k+1,O⟩
   .have e:=sV (jT _) r (h.g.ends x c).1 (h.g.ends x c).2
    grind
theorem bZ.euler:∃ k:Nat,2*bj (Reach m.g.E) m.g.V+m.g.E.length=2*k+alone m.g+m.g.V.length+bj (Orb (fc m m.g.E)) (bA m.g.E):=by
 have:=h.euler_at m.g.E.length (au _)
 grind
end
def YY(f:Int->Int)(a:PP)(k:Nat)(x:Int):Prop:=∃ y∈a.take k,Orb f y x
inductive PN(f:Int->Int)(ds:List Int):Nat->List (List Int)->Prop
 |zero:PN f ds 0 []
 |seen {k:Nat} {R:List (List Int)} (h:PN f ds k R) (hk:k<ds.length) (hs:YY f ds k (ds.getD k 0)):PN f ds (k+1) R
 |lead {k:Nat} {R:List (List Int)} {c:List Int} (h:PN f ds k R) (hk:k<ds.length) (hs:¬YY f ds k (ds.getD k 0)) (hc:M7 f (ds.getD k 0) c):PN f ds (k+1) (R++[c])
def Ji{c:PP}{r:PP}(h:c=d::r)(a:mn c=d):fb c=c:=by
 grind [fb,rt]
def SH(c:PP)(h:c≠[]):∃ r,fb c=mn c::r:=by
 have d:=AW h;have dS:=lg d;have e:0<(fb c).length:=by rw[pV];omega
 have b:=Vj c 0 O;simp only[Nat.add_zero,ev dS,nr]at b;cases f:fb c with
 |nil=>grind
 |cons a r=>grind
end Aw
namespace Aw
open Go Go.RowKit Pl
def Dy:List Bool->Nat
 |[]=>0
 |b::l=>(if b then 1 else 0)+2*Dy l
theorem KZ:∀(l:List Bool) (i:Nat),(Dy l).testBit i=l.getD i false
 |[],i=>by simp[Dy]
 |b::l,0=>by
  grind [Dy]
 |b::l,i+1=>by
  rw[Dy,xk];have:((if b then 1 else 0)+2*Dy l) / 2=Dy l:=by cases b<;>simp<;>omega
  rw[this,KZ l i];simp
theorem Nk:∀ l:List Bool,Dy l<2 ^ l.length
 |[]=>by simp[Dy]
 |b::l=>by
  have:=Nk l
  grind [Dy]
def mk(a S:PP):Nat:=Dy (a.map fun v=>decide (v∈S))
theorem jP(a S:PP)(i:Nat):(mk a S).testBit i=(decide (i<a.length)&&decide (a.getD i 0∈S)):=by
 grind [mk,KZ]
def pS(a S:PP)(h:a.length<=64):mk a S<18446744073709551616:=by
 have b:=Nk (a.map fun v=>decide (v∈S));rw[du]at b
 exact dc b (by
  have:=FS (show 0<2 by decide) h
  omega)
variable{v:Int}{A B S a vs:List Int}{k m pl:Nat}
theorem mk_congr(h:∀ v∈a,(v∈A↔v∈B)):mk a A=mk a B:=by
 grind [mk,List.map_congr_left]
def ZR(h:mk a A=mk a B):∀ v∈a,(v∈A↔v∈B):=fun v b=>by
 obtain⟨i,d,rfl⟩:=er b;have c:=jP a A i
 grind [jP]
def mk_zero(a A:PP):mk a A=0↔∀ v∈a,v∉A:=by
 have e:mk a []=0:=by apply ol;intro i;rw[jP];simp
 constructor
 .intro h v c b;have:=(ZR (h.trans e.symm) v c).1 b
  grind
 grind [mk_congr]
def Vf(a b:Nat)(c:a<18446744073709551616)(d:b<18446744073709551616):og .u64 (a:Int) (b:Int)=((a ||| b:Nat):Int):=by
 have e:a ||| b<2 ^ 64:=Nat.or_lt_two_pow O O
 unfold og;simp only[show IntKind.u64.bits=64 from rfl,BitVec.ofInt_natCast,BitVec.toNat_or,ve,ev c,ev d]
 grind [IntKind.wrap_u64]
def DP(a b:Nat)(c:a<18446744073709551616)(d:b<18446744073709551616):AA .u64 (a:Int) (b:Int)=((a &&& b:Nat):Int):=by
 have e:a &&& b<2 ^ 64:=Nat.and_lt_two_pow _ O;unfold AA;simp only[show IntKind.u64.bits=64 from rfl,BitVec.ofInt_natCast,BitVec.toNat_and,ve,ev c,ev d]
 grind [IntKind.wrap_u64]
def KN(a b:Nat)(c:a<18446744073709551616)(d:b<18446744073709551616):jF .u64 (a:Int) (b:Int)=((a &&& (2 ^ 64-(b+1)):Nat):Int):=by
 have e:a &&& (2 ^ 64-(b+1))<2 ^ 64:=Nat.and_lt_two_pow _ O;unfold jF;simp only[show IntKind.u64.bits=64 from rfl,BitVec.ofInt_natCast,BitVec.toNat_and,BitVec.toNat_not,ve,ev c,ev d]
 grind [IntKind.wrap_u64]
theorem DG(a A B:PP)(h:a.length<=64):og .u64 (mk a A) (mk a B)=mk a (A++B):=by
 rw[Vf _ _ (pS a A h) (pS a B h)]
 congr 1
 apply ol
 grind [jP]
def SS(a A B:PP)(h:a.length<=64):AA .u64 (mk a A) (mk a B)=mk a (A.filter fun v=>decide (v∈B)):=by
 rw[DP _ _ (pS a A h) (pS a B h)]
 congr 1
 apply ol
 grind [jP]
def uO(a A B:PP)(h:a.length<=64):jF .u64 (mk a A) (mk a B)=mk a (A.filter fun v=>!decide (v∈B)):=by
 rw[KN _ _ (pS a A h) (pS a B h)]
 congr 1
 apply ol;intro i;rw[Nat.testBit_and,Nat.testBit_two_pow_sub_succ (pS a B h),jP,jP,jP]
 grind
def fst'(a S:PP):Nat:=a.findIdx fun v=>decide (v∈S)
def QE{x:Nat}(a:x.testBit k=true)(c:∀ j,j<k->x.testBit j=false):∃ m,x=2 ^ k*(2*m+1):=by
 induction k generalizing x with
 |zero=>rw[Nat.testBit_zero]at a;simp only[jv]at a;exact⟨x / 2,O⟩
 |succ k d=>
  have b:=c 0 O;rw[Nat.testBit_zero]at b;simp only[qt]at b;rw[xk]at a;obtain⟨m,f⟩:=d a fun j e=>by grind
  refine⟨m,?_⟩
  grind [Nat.mul_assoc]
theorem EG(h:fst' a S<a.length):∃ m,mk a S=2 ^ fst' a S*(2*m+1):=by
 have d:decide (a[fst' a S]∈S)=true:=xd (w:=h);refine QE ?_ fun j b=>?_
 .grind [jP]
 .rw[jP];have c:j<a.length:=O;have:=AT b
  grind
theorem Il{a b n:Nat}(h:2 ^ a*(2*m+1)=2 ^ b*(2*n+1)):a=b:=by
 induction a generalizing b with
 |zero=>
  cases b with
  |zero=>rfl
  |succ b=>
   grind
 |succ a c=>
  cases b with
  |zero=>
   grind
  |succ b=>
   grind
theorem Hl(b:a.length<=64)(h:fst' a S<a.length):Lib.ctz 64 (mk a S)=fst' a S:=by
 obtain⟨m,d⟩:=EG h;have dS:=pS a S b;have c:mk a S≠0:=by rw[d];exact Nat.mul_ne_zero (by grind) O
 have e:Lib.ctz 64 (mk a S)=Lib.ctzFrom 64 (mk a S):=by simp[Lib.ctz,c]
 obtain⟨n,f,_⟩:=Lib.ctzFrom_spec 64 (mk a S) O dS
 grind [Il]
def HQ(h:fst' a S<a.length):mk a S≠0:=by
 grind [EG]
def ZB:fst' a S<a.length↔∃ v∈a,v∈S:=by
 grind [fst']
def Vc(h:fst' a S<a.length):a.getD (fst' a S) 0∈S/\a.getD (fst' a S) 0∈a:=by
 grind [fst']
theorem GA(d:a.Nodup){i j:Nat}(b:i<a.length)(c:j<a.length):a[i]=a[j]↔i=j:=by
 grind [List.pairwise_iff_getElem]
def mk_one(c:a.Nodup)(b:k<a.length):mk a [a.getD k 0]=2 ^ k:=by
 apply ol
 grind [jP,GA]
def A4(b:a.length<=64)(e:a.Nodup)(h:fst' a S<a.length):AA .u64 (mk a S) (IntKind.u64.wrap (0-(mk a S:Int)))=mk a [a.getD (fst' a S) 0]:=by
 have dS:=pS a S b;have d:=HQ h;have c:IntKind.u64.wrap (0-(mk a S:Int))=((18446744073709551616-mk a S:Nat):Int):=by rw[IntKind.wrap_u64];omega
 rw[c,DP _ _ dS O,mk_one e h];have:=(Lib.lowest_bit 64 (mk a S) d dS).1
 grind [Hl]
def JP(k m:Nat):(2 ^ k*(2*m+1)) &&& (2 ^ k*(2*m+1)-1)=2 ^ k*(2*m):=by
 have d:=Nat.two_pow_pos k;have e:2 ^ k*(2*m+1)-1=2 ^ k*(2*m)+(2 ^ k-1):=by rw[Nat.mul_add,ru];omega
 rw[e];apply ol;intro i;rw[Nat.testBit_and,Nat.testBit_two_pow_mul_add _ (show 2 ^ k-1<2 ^ k by omega)];rw[mA (2 ^ k),mA (2 ^ k),uo,uo];by_cases a:i<k
 .grind
 .have b:k<=i:=O;simp only[a,b,decide_true,Bool.true_and,gI];cases c:i-k with
  |zero=>grind
  |succ j=>
   grind
def NO(b:a.length<=64)(q:a.Nodup)(h:fst' a S<a.length):AA .u64 (mk a S) (IntKind.u64.wrap ((mk a S:Int)-1))=mk a (S.filter fun w=>decide (w≠a.getD (fst' a S) 0)):=by
 have dS:=pS a S b;have l:=HQ h;have d:IntKind.u64.wrap ((mk a S:Int)-1)=((mk a S-1:Nat):Int):=by rw[IntKind.wrap_u64];omega
 rw[d,DP _ _ dS O]
 congr 1
 obtain⟨m,c⟩:=EG h;have n:mk a S &&& (mk a S-1)=mk a S-2 ^ fst' a S:=by rw[c,JP,Nat.mul_add (2 ^ _) (2*m) 1,ru];omega
 apply ol;intro i;have g:mk a S &&& (mk a S-1)=2 ^ fst' a S*(2*m):=by rw[c,JP]
 have f:(mk a S).testBit i=(2 ^ fst' a S*(2*m+1)).testBit i:=by rw[<- c]
 rw[g,jP];rw[jP,mA (2 ^ _),uo]at f;rw[mA (2 ^ _),uo];by_cases e:i=fst' a S
 .grind
 .have r:i<a.length->a.getD i 0≠a.getD (fst' a S) 0:=fun k=>by
   grind [GA]
  have o:(2*m).testBit (i-fst' a S)=(2*m+1).testBit (i-fst' a S)\/i<fst' a S:=by
   by_cases k:i<fst' a S
   .omega
   .left;obtain⟨j,p⟩:∃ j,i-fst' a S=j+1:=⟨i-fst' a S-1,O⟩
    grind
  grind
def NL(d:a.Nodup)(b:a.length<=64)(c:k<a.length):IE .u64 1 (k:Int)=mk a [a.getD k 0]:=by
 rw[mk_one d c];unfold IE;have:min (k:Int).toNat IntKind.u64.bits=k:=by have:IntKind.u64.bits=64:=rfl;omega
 rw[this,Int.one_mul,IntKind.wrap_u64];have e:2 ^ k<18446744073709551616:=dc (Nat.pow_lt_pow_right (show 1<2 by decide) (show k<64 by omega)) (au _)
 grind
abbrev wv(n:Nat):LV:=.atom (.int .u64 n)
def yG(n:Nat):∀ l:PP,iD n (us l):=fun l=>by
 induction l with
 |nil=>trivial
 |cons a l b=>exact⟨trivial,b⟩
def yT(a:PP):List (PP×LV):=(List.range a.length).map fun k=>([a.getD k 0],i k)
def DY(e:a.Nodup)(d:k<a.length):bY (yT a) [a.getD k 0]=some (i k):=by
 have b:∀(L:PQ),(∀ j∈L,j<a.length)->k∈L->bY (L.map fun k=>(([a.getD k 0],i k):PP×LV)) [a.getD k 0]=some (i k):=by
  intro L;induction L with
  |nil=>grind
  |cons j L f=>
   grind [bY,GA]
 exact b _ (fun j c=>ii.1 c) (ii.2 d)
def mh(j:PP)(S g:Nat)(h:St):Prop:=(∃ a b c d e f,h.H S=.box 136 7 [a,b,c,.mp g,d,e,f])/\h.H g=.map false [.u32] (yT j)
def DT(b:v∈a):a.idxOf v<a.length/\a.getD (a.idxOf v) 0=v:=by
 grind
def Vw{g:PP}{S w:Nat}{k:St}(q:mh g S w k)(p:g.Nodup)(h:g.length<=64)(t:v∈g):
 aD prog 137 [.pt S 0,u v] k fun r l=>r=wv (mk g [v])/\l=k:=by
 obtain⟨⟨a,b,c,d,e,f,j⟩,hP⟩:=q;obtain⟨o,s⟩:=DT t;have m:=DY p o;have n:=NL p h o;rw[s]at m n;refine zN func137 ntmps137 [.tmp 4] ?_;exact Ht j hP m n
def Vk(a l:PP)(j:Nat)(b:j<l.length)(h:a.length<=64):og .u64 (mk a (l.take j)) (mk a [l.getD j 0])=mk a (l.take (j+1)):=by
 grind [DG,List.take_succ_eq_append_getElem]
def B9{S:Nat}{d:St}(o:mh vs S pl d)(y:vs.Nodup)(b:vs.length<=64)(l:PP)(t:Nat)(q:∀ v∈l,v∈vs)(w:l.length<=1048576):
 aD prog 181 [.pt S 0,.sl t l.length (us l)] d fun r g=>r=wv (mk vs l)/\g=d:=by
 refine zN func181 ntmps181 [.tmp 4] ?_;refine bz ?_;have A:mk vs []=0:=(mk_zero vs []).2 fun _ _=>by simp
 refine aV 10 9 11 19 (l.length) (fun j a h=>a 0=.pt S 0/\a 8=.sl t l.length (us l)/\a 5=wv (mk vs (l.take j))/\h=d) ?_ ?_ ?_
 .simp_all
 .rintro j a s dS ⟨k,m,c,f⟩ n fn J e;subst f;have p:=qG l j dS;have x:=Vk vs l j dS b;have z:l.getD j 0∈vs:=q _ (by grind);generalize l.getD j 0=v at *
  (refine Zp e k m c n fn p dS ?_;intro J e)
  refine jr (Vw o y b z) ?_;refine oG e n x ?_;simp_all
 .rintro a s ⟨k,m,c,f⟩;subst f;rw[fq]at c;exact rz c
def VP{S:Nat}{g:St}(p:mh vs S pl g)(s:S<g.z)(y:pl<g.z)(x:vs.Nodup)(j:vs.length<=64)(l:PP)(t:Nat)(w:∀ v∈l,v∈vs)(k:l.length<=1048576):
 aD prog 141 [.pt S 0,.sl t l.length (us l)] g fun r m=>r=.ag [.sl 0 l.length (us l),wv (mk vs l)]/\m=g:=by
 refine qT (Q:=fun r=>r=.ag [.sl 0 l.length (us l),wv (mk vs l)]) (cZ ?_) fun r h=>by subst h;exact⟨⟨.inl rfl,yG _ _⟩,trivial,trivial⟩
 refine zN func141 ntmps141 [.cell 4 144] ?_
 (refine ez ?_;intro J o)
 refine qE (B9 (vs:=vs) (S:=S) (pl:=pl) ?_ x j l t w k) Y ?_
 .obtain⟨⟨a,b,c,d,e,f,q⟩,hP⟩:=p;exact⟨⟨a,b,c,d,e,f,by grind [cN]⟩,by grind [cN]⟩
 rintro r A ⟨rfl,n⟩;rw[n];clear n A;refine dU o ?_;exact⟨by simp[z0,dl],aC.new _ _⟩
def Ml{a:St}{o:cT}(h:a.H m=o):a.set m o=a:=by
 obtain⟨n,H⟩:=a;simp only[St.set,St.mk.injEq,ue]
 funext y
 by_cases e:y=m
 .subst e;rw[ac rfl];exact h.symm
 .rw[aa e]
def aj(a b:Int):Int×Int:=(min a b,max a b)
abbrev pk(p:Int×Int):PP:=[p.1,p.2]
def MZ(L:QP)(p:Int×Int):QP:=if p∈L then L else L++[p]
def jI:PP->QP
 |a::b::l=>aj a b::jI (b::l)
 |_=>[]
def lJ(L:QP)(w:PP):QP:=(jI w).foldl MZ L
theorem pQ:∀ w:PP,(jI w).length=w.length-1
 |[]=>rfl
 |[_]=>rfl
 |a::b::l=>by have:=pQ (b::l);rw[jI,List.length_cons,this];simp
theorem Jg:∀(w:PP) (k:Nat),k+1<w.length->(jI w)[k]?=some (aj (w.getD k 0) (w.getD (k+1) 0))
 |a::b::l,0,_=>by simp[jI]
 |a::b::l,k+1,h=>by rw[jI,List.getElem?_cons_succ,Jg (b::l) k (by simpa using h)];simp
 |[],k,h=>by simp at h
 |[_],k,h=>by simp at h
def RT(a:List (PP×LV))(L:QP)(p:Int×Int)(v:LV)(h:a.map (·.1)=L.map pk):(bX a (pk p) v).map (·.1)=(MZ L p).map pk:=by
 have d:pk p∈L.map pk↔p∈L:=by
  rw[ao];constructor
  .rintro⟨q,j,e⟩;simp only[pk,kX,qf]at e;obtain⟨f,b⟩:=e;have:q=p:=jj f b;rw[<- this];exact j
  .intro g;exact⟨p,g,rfl⟩
 have c:∀(a:List (PP×LV)),(bX a (pk p) v).map (·.1)=if pk p∈a.map (·.1)then a.map (·.1)else a.map (·.1)++[pk p]:=by
  intro a;induction a with
  |nil=>simp[bX]
  |cons q a l=>
   simp only[bX];by_cases e:pk p=q.1
   .rw[ac (by simpa using e)];simp[e]
   .rw[aa (by simpa using e),ax,l,ax];by_cases b:pk p∈a.map (·.1)
    .rw[ac b,ac (aq _ b)]
    .rw[aa b,aa (by simp only[ai,fJ];exact⟨e,b⟩)];rfl
 rw[c,h];unfold MZ;by_cases e:p∈L
 .rw[ac e,ac (d.2 e)]
 .rw[aa e,aa fun k=>e (d.1 k),cz];rfl
def pair(a b:Int)(d:St):aD prog 58 [u a,u b] d fun r c=>r=.ag [u (min a b),u (max a b)]/\c=d:=by
 refine qT (Q:=fun r=>r=.ag [u (min a b),u (max a b)]) ?_ fun r h=>by subst h;exact⟨trivial,trivial,trivial⟩
 refine zN func58 ntmps58 [.cell 4 79] ?_;refine bz ?_;exact⟨⟨by split<;>omega,by split<;>omega⟩,aC.new _ _⟩
def TA{j:PP}{S q g:Nat}{m:St}{a b c f:LV}{F:PP}{U:List (PP×LV)}{L:QP}(e:m.H S=.box 136 7 [a,b,c,.mp q,.mp g,wv (mk j F),f])(M:m.H q=.map false [.u32] (yT j))
 (E:m.H g=.map true [.u32,.u32] U) (hk:U.map (·.1)=L.map pk) (R:¬q=g) (hn:j.Nodup) (A:j.length<=64) (w:PP) (t:Nat) (hw:∀ v∈w,v∈j) (hwl:w.length<=1000):
 aD prog 140 [.pt S 0,.sl t w.length (us w)] m fun _ o=>∃ d,o=(m.set g (.map true [.u32,.u32] d)).set S (.box 136 7 [a,b,c,.mp q,.mp g,wv (mk j (F++w)),f])/\d.map (·.1)=(lJ L w).map pk:=by
 have p:¬S=g:=fun h=>by rw[h,E]at e;cases e
 have X:¬g=S:=fun h=>p h.symm;have n3:¬q=S:=fun h=>by rw[h,e]at M;cases M
 refine zN func140 ntmps140 [] ?_;refine bz ?_;refine qL (fun n D o=>∃ k:Nat,1<=k/\(k=1\/k<=w.length)/\n=w.length-k/\D 0=.pt S 0/\D 1=.sl t w.length (us w)/\D 4=i k/\∃ d,o=m.set g (.map true [.u32,.u32] d)/\d.map (·.1)=(((jI w).take (k-1)).foldl MZ L).map pk) (w.length-1) ?_ ?_
 .exact⟨1,O,.inl rfl,rfl,Y,Y,Y,U,(Ml E).symm,by simpa using hk⟩
 rintro n D s ⟨k,j8,o6,rfl,r,z,C,d,rfl,V⟩ JJ K;by_cases dS:k<w.length
 .have T:=qN k O;have hd:=qG w k dS;have y9:=qG w (k-1) O;have N:=Jg w (k-1) O;have W:=pQ w;have e1:IntKind.i64.wrap ((k:Int)-1)=((k-1:Nat):Int):=zW;have e4:k-1<w.length:=O;rw[show k-1+1=k by omega]at N;have B:∀ v,(bX d (pk (aj (w.getD (k-1) 0) (w.getD k 0))) v).map (·.1)=(((jI w).take (k+1-1)).foldl MZ L).map pk:=fun v=>by rw[RT _ _ _ _ V,show k+1-1=(k-1)+1 by omega];have l:k-1<(jI w).length:=O;rw[fh l,lD];rw[bu l,ap]at N;rw[N];rfl
  generalize w.getD (k-1) 0=x at *;generalize w.getD k 0=y at *;refine eI r z C dS ?_
  (refine zS [] [S] [0,2,4,6,8,10,12,14,16,18,20,22,24,28,26,31] ?_;intro J I;simp[r,z,C,dS,e,E,p,X,e1,e4,hd,y9])
  refine eL (pair x y _) ?_;refine⟨fun h=>by first|(cases h;done)|simp,?_⟩
  (apply bM;simp[p,X,E];refine zJ I ?_)
  refine cm C T ?_;refine K _ _ _ ?_ ⟨k+1,O,.inr O,rfl,Z r,Z z,Y,_,set_set _ _ _ _,B _⟩;omega
 .have P:(jI w).take (k-1)=jI w:=ej (by rw[pQ];omega);rw[P]at V;have hB:mh j S q (m.set g (.map true [.u32,.u32] d)):=⟨⟨a,b,c,.mp g,wv (mk j F),f,by rw[cC,aa p];exact e⟩,by rw[cC,aa R];exact M⟩;have Q:=DG j F w A;refine eI r z C dS ?_
  (refine zS [] [S] [0,2,4,6,8,10,12,14,16,18,21] ?_;intro J I;simp[r,z,e,p])
  refine eL (B9 hB hn A w t hw O) ?_;refine⟨fun h=>by first|(cases h;done)|simp,?_⟩
  (apply bM;simp[e,p,Q];refine zJ I ?_)
  refine bz ?_;exact⟨trivial,d,rfl,V⟩
end Aw
namespace Aw
open Go Go.RowKit
def YG(x k idx:Nat)(w:World)(hx0:((x:Int)==0)=false)
 (key:IntKind.u64.wrap (bits BinOp.and IntKind.u64 (x:Int) (IntKind.u64.wrap (-(x:Int)))*285870213051353865) / 288230376151711744=(idx:Int))
 (hi:idx<64) (hk:k<64) (hcell:w.cell? ⟨0,idx,none⟩=some (.int .u8 k)):
 Calls prog 144 #[.int .u64 x] w fun e w'=>e=.returned (.int .i64 k)/\w'=w:=by
 go_enter func144,ntmps144
 go_wp2_with (simp only[key])
 go_ret
 simp_all
def WJ(w:World):
 Calls prog 144 #[.int .u64 0] w fun e w'=>e=.returned (.int .i64 64)/\w'=w:=by
 go_enter func144,ntmps144
 go_wp2
 go_ret
 simp_all
def Yz(x a:Nat)(e:x<18446744073709551616)(c:x≠0)(b:x &&& (18446744073709551616-x)=a):
 IntKind.u64.wrap (bits BinOp.and IntKind.u64 (x:Int) (IntKind.u64.wrap (-(x:Int)))*285870213051353865) / 288230376151711744=((a*285870213051353865 % 18446744073709551616 / 288230376151711744:Nat):Int):=by
 have d:IntKind.u64.wrap (-(x:Int))=((18446744073709551616-x:Nat):Int):=by rw[IntKind.wrap_u64];omega
 grind [bits_and_u64_nat,IntKind.wrap_u64]
variable{g:G}{w:World}
def Uk(h:iV w g)(a k:Nat)(e:a<64)(b:Lib.deBruijn64tab.getD a 0=k):w.cell? ⟨0,a,none⟩=some (.int .u8 k):=by
 have f:Lib.deBruijn64tab.length=64:=rfl;have c:Lib.deBruijn64tab[a]?=some k:=by rw[bv,bu O,Option.getD_some]at b;rw[bu O,b]
 have d:=h (0,Lib.deBruijn64tab.map fun(n:Nat)=>.int .u8 n) (bi.2 rfl) a (.int .u8 k)
 grind
def VN(x:Nat)(j:x<18446744073709551616)(h:iV w g):Calls prog 144 #[.int .u64 x] w fun e k=>e=.returned (.int .i64 (Lib.ctz 64 x))/\k=w:=by
 by_cases a:x=0
 .subst a;exact WJ w
 .obtain⟨c,f⟩:=Lib.lowest_bit 64 x a j;obtain⟨b,d⟩:=Lib.deBruijn64_at _ f;exact YG x _ _ w (by grind) (Yz x _ j a c) b f (Uk h _ _ b d)
def Qe:Enters prog 144:=enters_of func144 (by kernel_rfl) rfl
def Tz(x:Nat)(f:x<18446744073709551616)(c:St):aD prog 144 [.atom (.int .u64 x)] c fun r a=>r=i (Lib.ctz 64 x)/\a=c:=by
 refine⟨Qe,fun w g j d b=>?_⟩;simp only[aG,Rep]at b;obtain⟨v,h,rfl,rfl,rfl⟩:=b;refine(VN x f d.aside.glob).mono ?_;rintro e k ⟨rfl,rfl⟩
 grind [Rep,Ext.refl]
end Aw
namespace Aw
open Go Go.RowKit Pl
def nF(g:Gr):QQ:=g.V.map fun v=>wv (mk g.V (nbr g.E v))
@[simp] theorem D8(g:Gr):(nF g).length=g.V.length:=by simp[nF]
def LI(g:Gr)(k:Nat)(a:k<g.V.length):(nF g).drop k=wv (mk g.V (nbr g.E (g.V.getD k 0)))::(nF g).drop (k+1):=by unfold nF;rw[jm (by simpa using a),pz,bT _ _ a]
def ff(g:Gr)(A:PP):PP:=A.flatMap (nbr g.E)
variable{g:Gr}{f:LV}{L:List (Int×Int)}{A B:List Int}{S n:Nat}{st:St}
def RI(h:∀ v,v∈A↔v∈B):mk g.V (ff g A)=mk g.V (ff g B):=mk_congr fun v _=>by unfold ff;rw[fu,fu];exact⟨fun⟨x,b,a⟩=>⟨x,(h x).1 b,a⟩,fun⟨x,b,a⟩=>⟨x,(h x).2 b,a⟩⟩
def WN{T:Nat}{l:St}{a b d e h:LV}(p:l.H S=.box 136 7 [a,b,.ms T 0 g.V.length,d,e,f,h])(X:l.H T=.box 133 1 (nF g))(hn:g.V.Nodup)(c:g.V.length<=64)(A:PP)(hA:∀ v∈A,v∈g.V):
 aD prog 182 [.pt S 0,wv (mk g.V A)] l fun r m=>r=wv (mk g.V (ff g A))/\m=l:=by
 refine zN func182 ntmps182 [.tmp 4] ?_;refine bz ?_;have h0:mk g.V []=0:=(mk_zero g.V []).2 fun _ _=>by simp
 refine qL (fun n y m=>∃ D R:PP,n=(g.V.filter fun v=>decide (v∈R)).length/\(∀ v,v∈A↔v∈D\/v∈R)/\y 0=.pt S 0/\y 1=wv (mk g.V R)/\y 5=wv (mk g.V (ff g D))/\m=l) (g.V.filter fun v=>decide (v∈A)).length ?_ ?_
 .exact⟨[],A,rfl,fun v=>by simp,Y,Y,by simp[ff,h0],rfl⟩
 rintro n y s ⟨D,R,rfl,j,U,o,W,rfl⟩ JJ z;have B:∀ v∈R,v∈g.V:=fun v N=>hA v ((j v).2 (.inr N));by_cases k:fst' g.V R<g.V.length
 .have Tv:=HQ k;have hb:((mk g.V R:Int) != 0)=true:=by simpa using Tv
  have C:=Hl c k;have dS:=pS g.V R c;have I:=LI g _ k;obtain⟨x,P⟩:=Vc k;have F:=NO c hn k;have K:(0:Int)<=(fst' g.V R:Int):=O;have L:(fst' g.V R:Int)<g.V.length:=O;have q:=fun l=>Tz (mk g.V R) dS l;rw[C]at q;generalize g.V.getD (fst' g.V R) 0=v at *;have M:=DG g.V (ff g D) (nbr g.E v) c;refine cm o hb ?_
  (refine zS [] [S,T] [0,2,4,6,8,10,12,14,16,18,20] ?_;intro J hJ;simp[U,o,W,p,X])
  refine eL (q _) ?_;refine⟨fun h=>by first|(cases h;done)|simp,?_⟩
  (apply bM;simp[p,X,I,K,L,k,M];refine zJ hJ ?_)
  refine cm o F ?_;refine z _ _ _ ?_ ⟨D++[v],R.filter fun w=>decide (w≠v),rfl,fun w=>?_,Z U,Y,by simp[ff],rfl⟩
  .have t:(g.V.filter fun w=>decide (w∈R.filter fun w=>decide (w≠v)))=(g.V.filter fun w=>decide (w∈R)).filter fun w=>decide (w≠v):=by rw[List.filter_filter];refine List.filter_congr fun w _=>?_;simp only[cj,gm,Bool.decide_and];rw[Bool.and_comm]
   rw[t];refine zn.2 ⟨v,?_,Y⟩;rw[cj];exact⟨P,by simpa using x⟩
  .rw[j,am,bi,cj,gm];constructor
   .rintro(h|h)
    .exact .inl (.inl h)
    .by_cases e:w=v
     .exact .inl (.inr e)
     .exact .inr ⟨h,e⟩
   .rintro((h|h)|h)
    .exact .inl h
    .rw[h];exact .inr x
    .exact .inr h.1
 .have o7:∀ v∈g.V,v∉R:=fun v N Q=>k (ZB.2 ⟨v,N,Q⟩);have hz:mk g.V R=0:=(mk_zero g.V R).2 o7;have hb:((mk g.V R:Int) != 0)=false:=by rw[hz];rfl
  have x9:mk g.V (ff g D)=mk g.V (ff g A):=RI fun v=>by rw[j];exact⟨.inl,fun h=>h.elim id fun h=>absurd h (o7 v (B v h))⟩
  rw[hz]at o;exact yw o W x9
structure dm where
 inner:PP
 ends:PP
def eh(a A:PP):PP:=a.filter fun v=>decide (v∈A)
def off(A B:PP):PP:=A.filter fun v=>!decide (v∈B)
def on'(A B:PP):PP:=A.filter fun v=>decide (v∈B)
def IJ(a A:PP):mk a (eh a A)=mk a A:=mk_congr fun v b=>by grind [eh]
def Ax(g:Gr)(a:PP):Nat->PP->Option dm
 |0,_=>none
 |n+1,inner=>
  if off (off (eh g.V (ff g inner)) a) inner=[]then some ⟨inner,on' (eh g.V (ff g inner)) a⟩
  else Ax g a n (eh g.V (inner++off (eh g.V (ff g inner)) a))
def vM(g:Gr)(a:PP):Nat->PP->Option (List dm)
 |_,[]=>some []
 |0,_::_=>none
 |n+1,v::R=>(Ax g a (g.V.length+1) [v]).bind fun b=>(vM g a n (off (v::R) b.inner)).map (b::·)
def sC(g:Gr)(L:QP)(c:PP)(d:QR):List dm:=
 (d.filter fun x=>decide (aj x.a x.b∉L)&&decide (x.a∈c)&&decide (x.b∈c)).map fun x=>⟨[],[x.a,x.b]⟩
def QI(g:Gr)(L:QP)(a:PP):Option (List dm):=(vM g a (g.V.length+1) (off g.V a)).map fun l=>sC g L a g.E++l
def oN(a:PP)(l:List dm):QQ:=l.flatMap fun b=>[wv (mk a b.inner),wv (mk a b.ends)]
@[simp] theorem JS(a:PP):∀ l:List dm,(oN a l).length=l.length*2
  |[]=>rfl
  |b::l=>by have:=JS a l;simp only[oN,dt,cb,List.length_cons,List.length_nil]at this ⊢;omega
def FF(a:PP)(l:List dm)(b:dm):oN a l++[wv (mk a b.inner),wv (mk a b.ends)]=oN a (l++[b]):=by simp[oN]
def UK{a:List (PP×LV)}(h:a.map (·.1)=L.map pk)(p:Int×Int):(p∈L->∃ v,bY a (pk p)=some v)/\(p∉L->bY a (pk p)=none):=by
 have d:pk p∈a.map (·.1)↔p∈L:=by
  rw[h,ao];constructor
  .grind
  .grind
 have b:∀ a:List (PP×LV),(pk p∈a.map (·.1)->∃ v,bY a (pk p)=some v)/\(pk p∉a.map (·.1)->bY a (pk p)=none):=by
  intro a;induction a with
  |nil=>simp[bY]
  |cons q a c=>
   grind [bY]
 grind
def PY(g:Gr)(L:QP)(d:PP)(c:QR)(j:Nat)(e:j<c.length):
 sC g L d (c.take (j+1))=sC g L d (c.take j)++if(aj (c.getD j ed0).a (c.getD j ed0).b∉L/\(c.getD j ed0).a∈d)/\(c.getD j ed0).b∈d then [⟨[],[(c.getD j ed0).a,(c.getD j ed0).b]⟩]else []:=by
 grind [sC,List.take_succ_eq_append_getElem]
def Nz{b:PP}(c:∀ v∈A,v∈b):mk b (off A B)=0↔off A B=[]:=by
 rw[mk_zero];constructor
 .intro h;exact qp.2 fun v a=>h v (c v (cj.1 a).1) a
 grind
theorem FW:∀ {a R:PP} {v:Int},a.Nodup->(v::R).Sublist a->a.getD (fst' a (v::R)) 0=v/\fst' a (v::R)<a.length
 |[],R,v,_,h=>by cases h
 |w::a,R,v,hn,h=>by
  have b:=(bw.1 hn);cases h with
  |cons _ h=>
   have c:w∉v::R:=fun c=>b.1 (h.subset c);obtain⟨d,f⟩:=FW b.2 h;have e:fst' (w::a) (v::R)=fst' a (v::R)+1:=by unfold fst';rw[List.findIdx_cons];simp only[jv,cond_eq_ite];rw[aa c]
   rw[e];exact⟨by simpa using d,by simpa using f⟩
  |cons_cons _ h=>
   have e:fst' (w::a) (w::R)=0:=by unfold fst';rw[List.findIdx_cons];simp
   rw[e];exact⟨Y,Y⟩
def ZK(c:PP)(l:List dm):(oN c l).map z0=oN c l:=by
 induction l with
 |nil=>rfl
 |cons b l a=>simp only[oN,dt,cz]at a ⊢;rw[a];rfl
def HC(t e s n:Nat)(b:St)(a:St):Prop:=t≠0/\b.z<=t/\t<a.z/\a.H t=.own e s n
structure ShR(g:Gr)(L:QP)(on:PP)(S nl pl ll:Nat)(f:LV)(le:List (PP×LV))(st:St):Prop where
 box:st.H S=.box 136 7 [.sl 0 g.V.length (us g.V),.sl 0 g.E.length (eds g.E),.ms nl 0 g.V.length,.mp pl,.mp ll,wv (mk g.V on),f]
 near:st.H nl=.box 133 1 (nF g)
 plc:st.H pl=.map false [.u32] (yT g.V)
 lin:st.H ll=.map true [.u32,.u32] le
 key:le.map (·.1)=L.map pk
 lt:S<st.z/\nl<st.z/\pl<st.z/\ll<st.z
def ShR.keep{o:PP}{p m:Nat}{l:List (PP×LV)}{q j:St}(h:ShR g L o S n p m f l q)(k:aC q j):ShR g L o S n p m f l j:=by obtain⟨a,b,c,d,e,r,s,t,v⟩:=h;have w:=k.z;exact⟨(k.H _ r).trans a,(k.H _ s).trans b,(k.H _ t).trans c,(k.H _ v).trans d,e,O,O,O,O⟩
def ShR.b{j:PP}{e a d:Nat}{c:List (PP×LV)}(h:ShR g L j S e a d f c st):mh g.V S a st:=⟨⟨_,_,_,_,_,_,h.box⟩,h.plc⟩
def Iq{m:PP}{l k:Nat}{j:List (PP×LV)}{b:St}(h:ShR g L m S l n k f j b)(e:g.V.Nodup)(a:g.V.length<=64)(A:PP)(d:∀ v∈A,v∈g.V):
 aD prog 182 [.pt S 0,wv (mk g.V A)] b fun r c=>r=wv (mk g.V (ff g A))/\c=b:=WN h.box h.near e a A d
structure GP(g:Gr):Prop extends GoodE g where
 h64:g.V.length<=64
 he:g.E.length<=200
def Tw(hg:GP g){k:PP}(hon:∀ v∈k,v∈g.V){nl pl ll:Nat}{le:List (PP×LV)}(hS:ShR g L k S nl pl ll f le st){B:List dm}(hB:QI g L k=some B):
 aD prog 142 [.pt S 0] st fun r H=>r=.sl 0 B.length (oN g.V B)/\H=st:=by
 refine qT (Q:=fun r=>r=.sl 0 B.length (oN g.V B)) (cZ ?_) fun r h=>by
  subst h;refine⟨.inl rfl,?_⟩;clear hB;induction B with
  |nil=>trivial
  |cons b B ih=>exact⟨trivial,trivial,ih⟩
 have hn:g.V.Nodup:=hg.toGoodE.toGood.nodup;have p:=hg.h64;have hel:=aL g.E;unfold QI at hB;obtain⟨l2,hl2,rfl⟩:=kj.1 hB;obtain⟨hSb,hN,hP,hL,hkey,q1,q2,q3,q4⟩:=id hS;refine zN func142 ntmps142 [.tmp 2] ?_;refine fB fun hpos=>?_;refine df hSb ?_;refine uS 3 138 2 Y ?_;have e0:¬st.z=0:=O;have he200:=hg.he;refine aV 18 17 19 60 (g.E.length) (fun j D st2=>D 0=.pt S 0/\D 16=.sl 0 g.E.length (eds g.E)/\aC st st2/\∃ t,D 3=.sl t (sC g L k (g.E.take j)).length (oN g.V (sC g L k (g.E.take j)))/\HC t 138 2 (sC g L k (g.E.take j)).length st st2) ?_ ?_ ?_
 .exact⟨Y,Y,aC.new _ _,st.z,by simp[sC,oN],e0,au _,Y,by simp[sC]⟩
 .rintro j D s dS ⟨q,P,K,t,I,t0,t1,t2,tH⟩ fi fn JO hJO;have hd:=aP g.E j dS;have o9:j*3<g.E.length*3:=O;have C:=PY g L k g.E j dS;have y:=hg.ends _ (show g.E.getD j ed0∈g.E by rw[gH _ _ dS];exact dz _);generalize g.E.getD j ed0=ee at *;generalize hF:sC g L k (g.E.take j)=F at *;obtain⟨d,a,b⟩:=ee;simp only at C y;have hS1:=(hS.keep K).keep (aC.new s (.box 36 3 [u d,u a,u b]));obtain⟨hSb1,hN1,hP1,hL1,-,p1,p2,p3,p4⟩:=id hS1;have hB1:=fun v hv=>Vw (v:=v) hS1.b hn p hv;have hor:=DG g.V [a] [b] p;simp only[List.cons_append,List.nil_append]at hor;obtain⟨hgs,hgn⟩:=UK hkey (aj a b);have hnS:¬S=s.z:=by have:=K.z;omega
  have v8:¬ll=s.z:=by have:=K.z;omega
  have o:=(hS.keep K).box;have hL0:=(hS.keep K).lin;have hdf:=uO g.V [a,b] k p;have hwl:(F:List dm).length<=g.E.length:=by
   have h1:=gx (fun x=>decide (aj x.a x.b∉L)&&decide (x.a∈k)&&decide (x.b∈k)) (g.E.take j);have h2:F.length=((g.E.take j).filter (fun x=>decide (aj x.a x.b∉L)&&decide (x.a∈k)&&decide (x.b∈k))).length:=by rw[<- hF];unfold sC;rw[du]
   rw[dj]at h1;omega
  refine mf q P fi fn hd hel o9 dS ?_
  (refine zS [] [s.z] [0,2,4,8,10,12,6,14,16,18] ?_;intro J M;simp[q])
  refine eL (hB1 a y.1) ?_;refine⟨fun h=>by first|(cases h;done)|exact fun _ _=>rfl|simp,?_⟩
  (apply bM;simp[])
  refine eL (hB1 b y.2) ?_;refine⟨fun h=>by first|(cases h;done)|exact fun _ _=>rfl|simp,?_⟩
  (apply bM;simp[hor];refine zJ M ?_)
  (repeat (apply qS))
  (refine zS [] [S,s.z,ll] [0,2,4,6,8,10,12,14,16,18,20,22,24,26,28] ?_;intro J M;simp[q,o,hnS])
  refine eL (pair a b _) ?_;refine⟨fun h=>by first|(cases h;done)|exact fun _ _=>rfl|simp,?_⟩;have c1:¬t=s.z:=O;have c2:¬t=s.z+1:=O;have c3:¬s.z=t:=O;have U:=FF g.V F ⟨[],[a,b]⟩;have hz0:mk g.V []=0:=(mk_zero g.V []).2 fun _ _=>by simp
  simp only[hz0]at U;by_cases hp:aj a b∈L
  .obtain⟨v,hv⟩:=hgs hp;have hv:bY le [min a b,max a b]=some v:=hv;rw[aa (Z hp),dT]at C
   (apply bM;simp[hL0,v8,hv];refine zJ M ?_)
   refine bz ?_;exact hJO _ _ (Z fi) (Z fn) ⟨Z q,Z P,K.trans (aC.new _ _),t,by rw[C];simp[I],t0,t1,by simp;omega,by rw[C];(repeat (first|rw[ay aE]|rw[aA O]|rw[az bf]|rw[aB O]));exact tH⟩
  .have hv:bY le [min a b,max a b]=none:=hgn hp;by_cases W:a∈k/\b∈k
   .rw[ac ⟨⟨hp,W.1⟩,W.2⟩]at C;have hz:mk g.V (off [a,b] k)=0:=(mk_zero _ _).2 fun v _ h=>by
     simp only[off,cj,ai,gz,ij,Bool.not_eq_true',qt]at h;rcases h.1 with e|e
     .exact h.2 (by rw[e];exact W.1)
     .exact h.2 (by rw[e];exact W.2)
    have hdz:jF .u64 (mk g.V [a,b]) (mk g.V k)=0:=by rw[hdf];exact congrArg Int.ofNat hz
    (apply bM;simp[hL0,v8,hv];refine zJ M ?_)
    (repeat' (first|apply qS|(apply qC;simp[o,q,hnS,hdz,I,tH,t0,c1,c2,c3])|(refine zE ?_;intro J M;simp[o,q,hnS,hdz,I,tH,t0,c1,c2,c3];(repeat refine ca ?_);refine zJ M ?_)))
    exact hJO _ _ (Z fi) (Z fn) ⟨Z q,Z P,((K.trans (aC.new _ _)).trans (aC.new _ _)).set t1 _ |>.trans (aC.new _ _),s.z+2,by rw[C,<- U];simp,O,O,Y,by rw[C];simp⟩
   .rw[aa (by intro h;exact W ⟨h.1.2,h.2⟩),dT]at C;have hz:mk g.V (off [a,b] k)≠0:=fun h=>by rw[mk_zero]at h;have ha:=h a y.1;have hb:=h b y.2;simp[off]at ha hb;exact W ⟨ha,hb⟩
    have hdz:(jF .u64 (mk g.V [a,b]) (mk g.V k)==0)=false:=by rw[hdf];simpa[off]using hz
    (apply bM;simp[hL0,v8,hv];refine zJ M ?_)
    refine eI o q hnS hdz ?_;exact hJO _ _ (Z fi) (Z fn) ⟨Z q,Z P,K.trans (aC.new _ _),t,by rw[C];simp[I],t0,t1,by simp;omega,by rw[C];(repeat (first|rw[ay aE]|rw[aA O]|rw[az bf]|rw[aB O]));exact tH⟩
 .rintro D s ⟨q,P,K,t,I,t0,t1,t2,tH⟩;rw[fq]at I tH;have hE1:(sC g L k g.E).length<=200:=by have h1:=gx (fun x=>decide (aj x.a x.b∉L)&&decide (x.a∈k)&&decide (x.b∈k)) g.E;unfold sC;rw[du];omega
  generalize sC g L k g.E=E1 at *;have N:=hS.keep K;have o:=N.box;have hdf:=uO g.V g.V k p;have hsv:=fun H (h:mh g.V S pl H)=>B9 h hn p g.V 0 (fun v h=>h) O;refine bz ?_
  (refine zS [] [S] [0,2,4,6,8,10,14,16,18,20,12,22,24] ?_;intro J M;simp[q,o])
  refine eL (hsv _ N.b) ?_;refine⟨fun h=>by first|(cases h;done)|exact fun _ _=>rfl|simp,?_⟩
  (apply bM;simp[o,hdf];refine zJ M ?_)
  (repeat (first|apply qS|apply qB))
  refine qL (fun n D H=>∃ R l l2',vM g k n R=some l2'/\l2=l++l2'/\l.length+n<=g.V.length+1/\R.Sublist g.V/\D 0=.pt S 0/\D 9=wv (mk g.V R)/\aC st H/\∃ t,D 3=.sl t (E1++l).length (oN g.V (E1++l))/\HC t 138 2 (E1++l).length st H) (g.V.length+1) ?_ ?_
  .exact⟨off g.V k,[],l2,hl2,rfl,Y,eu,Z q,by simp[off],K,t,Z I,t0,t1,t2,by simpa using tH⟩
  .clear q P K I t0 t1 t2 tH N o D s;rintro n D s ⟨R,l,l2',hr,rfl,hln,X,q,f9,K,t,I,t0,t1,t2,tH⟩ JJ hJJ;have N:=hS.keep K;obtain⟨o,hN0,-,-,-,p1,p2,p3,p4⟩:=id N;have hRv:∀ v∈R,v∈g.V:=fun v hv=>X.subset hv;cases R with
   |nil=>
    have hz:mk g.V []=0:=(mk_zero g.V []).2 fun _ _=>by simp
    rw[hz]at f9;have hl2':l2'=[]:=by cases n<;>simpa[vM]using hr.symm
    subst hl2';rw[dT];refine cm f9 I ?_;exact⟨by simp[z0,rL,ZK],K⟩
   |cons v R=>
    obtain⟨hfv,hflt⟩:=FW hn X;have Tv:=HQ hflt;have hb:((mk g.V (v::R):Int) != 0)=true:=by simpa using Tv
    have hlow:=A4 p hn hflt;rw[hfv,Int.zero_sub]at hlow;cases n with
    |zero=>simp[vM]at hr
    |succ n=>
     rw[vM]at hr;obtain⟨b,hgb,hr⟩:=nq.1 hr;obtain⟨l3,hr3,rfl⟩:=kj.1 hr;have hvv:∀ w∈[v],w∈g.V:=fun w hw=>by rw[bi]at hw;rw[hw];exact hRv v Y
     (refine rC q f9 hb hlow ?_;intro J M)
     refine jr (Iq N hn p [v] hvv) ?_
     (apply cP;simp[];refine zJ M ?_)
     (repeat (first|apply qS|apply qB))
     refine qL (fun m D H=>∃ c,Ax g k m c=some b/\(∀ w∈c,w∈g.V)/\D 0=.pt S 0/\D 9=wv (mk g.V (v::R))/\D 3=.sl t (E1++l).length (oN g.V (E1++l))/\D 10=wv (mk g.V c)/\D 11=wv (mk g.V (ff g c))/\H=s) (g.V.length+1) ?_ ?_
     .exact⟨[v],hgb,hvv,Z q,Z f9,Z I,Y,Y,rfl⟩
     .clear q f9 I D;rintro m D s3 ⟨c,T,hiv,q,f9,I,f10,f11,hs3⟩ JI hJI;subst hs3;cases m with
      |zero=>simp[Ax]at T
      |succ m=>
       have hRR:∀ w∈eh g.V (ff g c),w∈g.V:=fun w hw=>(cj.1 hw).1;rw[<- IJ]at f11;rw[Ax]at T;generalize eh g.V (ff g c)=A at *;have y9:jF .u64 (mk g.V A) (mk g.V k)=mk g.V (off A k):=uO g.V A k p;have hd2:jF .u64 (mk g.V (off A k)) (mk g.V c)=mk g.V (off (off A k) c):=uO g.V _ c p;by_cases W:off (off A k) c=[]
       .rw[ac W]at T;have hbe:b=⟨c,on' A k⟩:=by simpa using T.symm
        subst hbe;have hz:mk g.V (off (off A k) c)=0:=by rw[W];exact(mk_zero g.V []).2 fun _ _=>by simp
        have hb2:((mk g.V (off (off A k) c):Int) != 0)=false:=by rw[hz];rfl
        have hd3:AA .u64 (mk g.V A) (mk g.V k)=mk g.V (on' A k):=SS g.V A k p;have hd4:jF .u64 (mk g.V (v::R)) (mk g.V c)=mk g.V (off (v::R) c):=uO g.V _ c p;have c1:¬t=s3.z:=O;have c2:¬s3.z=t:=O;have U:=FF g.V (E1++l) ⟨c,on' A k⟩;have u7:(E1++l).length<=300:=by rw[cb];have:=hg.h64;omega
        rw[dw]at U;have hlen:(E1++l).length+1=(E1++(l++[(⟨c,on' A k⟩:dm)])).length:=by simp;omega
        generalize hEl:E1++l=El at *
        (repeat' (first|apply qS|refine qX (zZ ?_)|(apply qC;simp[q,f9,f10,f11,I,o,y9,hd2,hb2,hd3,hd4,tH,t0,c1,c2])|(refine zE ?_;intro J M;simp[q,f9,f10,f11,I,o,y9,hd2,hb2,hd3,hd4,tH,t0,c1,c2];(repeat refine ca ?_);refine zJ M ?_)))
        exact hJJ _ _ _ (tj n) ⟨off (v::R) c,l++[⟨c,on' A k⟩],l3,hr3,Y,by simp;omega,eu.trans X,Z q,Y,((K.trans (aC.new _ _)).set t1 _).trans (aC.new _ _),s3.z+1,by rw[<- U,<- hlen];simp,O,O,Y,by rw[<- hlen];simp⟩
       .rw[aa W]at T;have hz:mk g.V (off (off A k) c)≠0:=fun h=>W ((Nz fun w hw=>hRR w (cj.1 hw).1).1 h);have hb2:((mk g.V (off (off A k) c):Int) != 0)=true:=by simpa using hz
        have hor:og .u64 (mk g.V c) (mk g.V (off A k))=mk g.V (eh g.V (c++off A k)):=by rw[DG _ _ _ p,IJ]
        have hnv:∀ w∈eh g.V (c++off A k),w∈g.V:=fun w hw=>(cj.1 hw).1;generalize eh g.V (c++off A k)=IN at *
        (refine yv q f10 f11 o y9 hd2 hb2 hor ?_;intro J M)
        refine jr (Iq N hn p IN hnv) ?_
        (apply cP;simp[];refine zJ M ?_)
        exact hJI _ _ _ (tj m) ⟨IN,T,hnv,Z q,Z f9,Z I,Y,Y,rfl⟩
end Aw
end Go.Proofs.YtbgngpdonpeboaaGreatDoor
