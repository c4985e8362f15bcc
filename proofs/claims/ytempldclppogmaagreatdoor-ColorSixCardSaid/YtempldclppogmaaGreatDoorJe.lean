/- Plain: edges beside each other, of each bundle one, rows of near vertices. No program. -/
import Derived.Test.YtempldclppogmaaGreatDoorJd
import Derived.Test.YtempldclppogmaaGreatDoorAwShp
import Derived.Test.YtempldclppogmaaGreatDoorAwZ
import Derived.Test.YtempldclppogmaaGreatDoorAwFz
import Derived.Test.YtempldclppogmaaGreatDoorAwMr4
import Derived.Test.YtempldclppogmaaGreatDoorAwRg
set_option linter.unusedVariables false
set_option linter.unusedSimpArgs false
set_option maxHeartbeats 4000000
open Go.Proofs.Tryz
namespace Go.Proofs.YtempldclppogmaaGreatDoor
namespace Aw
open Go Go.RowKit Pl
theorem uQ{α:Type}{P:List α->Prop}(h0:P [])(h1:∀ l x,P l->P (l++[x]))(l:List α):P l:=by
 rw[<- aDQ l];generalize l.reverse=r;induction r with
 |nil=>exact h0
 |cons x r ih=>rw[aCI];exact h1 _ _ ih
def bes(x y:Ed):Bool:=decide (x.a=y.a/\x.b=y.b\/x.a=y.b/\x.b=y.a)
theorem nU{x y:Ed}:bes x y=true↔(x.a=y.a/\x.b=y.b\/x.a=y.b/\x.b=y.a):=by simp[bes]
theorem pI{x y:Ed}(h:bes x y=true):bes y x=true:=by
 rw[nU]at h ⊢;rcases h with⟨h1,h2⟩|⟨h1,h2⟩
 .exact .inl ⟨h1.symm,h2.symm⟩
 .exact .inr ⟨h2.symm,h1.symm⟩
theorem Hs(x:Ed):bes x x=true:=by rw[nU];exact .inl ⟨rfl,rfl⟩
theorem wX{x y z:Ed}(h:bes x y=true)(k:bes y z=true):bes x z=true:=by
 rw[nU]at h k ⊢;rcases h with⟨h1,h2⟩|⟨h1,h2⟩<;>rcases k with⟨k1,k2⟩|⟨k1,k2⟩
 .exact .inl ⟨h1.trans k1,h2.trans k2⟩
 .exact .inr ⟨h1.trans k1,h2.trans k2⟩
 .exact .inr ⟨h1.trans k2,h2.trans k1⟩
 .exact .inl ⟨h1.trans k2,h2.trans k1⟩
def sE(l:List Ed):List Ed:=l.foldl (fun acc x=>if acc.any (bes x)then acc else acc++[x]) []
theorem jZ(l:List Ed)(x:Ed):sE (l++[x])=if(sE l).any (bes x)then sE l else sE l++[x]:=by simp[sE,aBm]
theorem mK(l:List Ed):∀ x∈sE l,x∈l:=by
 induction l using uQ with
 |h0=>simp[sE]
 |h1 l x ih=>
  intro y hy;rw[jZ]at hy
  split at hy
  .exact aAt _ (ih y hy)
  .rcases aAg.1 hy with h|h
   .exact aAt _ (ih y h)
   .exact aAI _ h
theorem OV(l:List Ed):∀ x∈l,∃ y∈sE l,bes x y=true:=by
 induction l using uQ with
 |h0=>simp
 |h1 l x ih=>
  intro y hy;rw[jZ];rcases aAg.1 hy with h|h
  .obtain⟨z,h1,h2⟩:=ih y h
   split
   .exact⟨z,h1,h2⟩
   .exact⟨z,aAt _ h1,h2⟩
  .rw[aAl]at h;subst h
   split
   .rename_i ha;rw[aBX]at ha;obtain⟨z,h1,h2⟩:=ha;exact⟨z,h1,h2⟩
   .exact⟨y,aAI _ sS,Hs y⟩
theorem oZ(l:List Ed):(sE l).length<=l.length:=by
 induction l using uQ with
 |h0=>simp[sE]
 |h1 l x ih=>
  rw[jZ]
  split
  .rw[aAh];omega
  .rw[aAh,aAh];simp only[List.length_cons,List.length_nil];omega
theorem AA(l:List Ed):(sE l).Pairwise fun x y=>bes x y=false:=by
 induction l using uQ with
 |h0=>simp[sE]
 |h1 l x ih=>
  rw[jZ]
  split
  .exact ih
  .rename_i ha;rw[aBw];refine⟨ih,aCT _ _,fun y hy z hz=>?_⟩;rw[aAl]at hz;subst hz;cases hb:bes y z with
   |false=>rfl
   |true=>exact absurd (aBX.2 ⟨y,hy,pI hb⟩) ha
abbrev hf(x:Ed):List (Int×Int):=[(x.a,x.b),(x.b,x.a)]
def hfs(l:List Ed):List (Int×Int):=l.flatMap hf
theorem Gf(l:List Ed)(x:Ed):hfs (l++[x])=hfs l++[(x.a,x.b)]++[(x.b,x.a)]:=by simp[hfs]
theorem FH(l:List Ed):(hfs l).length=2*l.length:=by
 induction l with
 |nil=>rfl
 |cons x l ih=>simp only[hfs,aAC,aAh,List.length_cons,List.length_nil]at ih ⊢;omega
theorem Ke{l:List Ed}{p:Int×Int}:p∈hfs l↔∃ x∈l,(x.a=p.1/\x.b=p.2)\/(x.b=p.1/\x.a=p.2):=by
 obtain⟨p1,p2⟩:=p;simp only[hfs,aAR,aAf,aBJ,aDa,aAW];constructor
 .rintro⟨x,hx,⟨rfl,rfl⟩|⟨rfl,rfl⟩⟩
  .exact⟨x,hx,.inl ⟨rfl,rfl⟩⟩
  .exact⟨x,hx,.inr ⟨rfl,rfl⟩⟩
 .rintro⟨x,hx,⟨rfl,rfl⟩|⟨rfl,rfl⟩⟩
  .exact⟨x,hx,.inl ⟨rfl,rfl⟩⟩
  .exact⟨x,hx,.inr ⟨rfl,rfl⟩⟩
def nbH(v:Int)(H:List (Int×Int)):List Int:=(H.filter fun p=>decide (p.1=v)).map (·.2)
theorem uZ(v:Int)(H:List (Int×Int))(p:Int×Int):nbH v (H++[p])=nbH v H++if p.1=v then [p.2]else []:=by
 unfold nbH;rw[aBx,aAu];by_cases h:p.1=v
 .simp[h]
 .simp[h]
theorem zB(v:Int)(H:List (Int×Int)):(nbH v H).length<=H.length:=by unfold nbH;rw[aAz];exact aBh _ _
theorem Jn{v w:Int}{H:List (Int×Int)}:w∈nbH v H↔(v,w)∈H:=by
 unfold nbH;simp only[aAm,aAr,aCa];constructor
 .rintro⟨p,⟨h1,h2⟩,h3⟩;subst h2 h3;exact h1
 .intro h;exact⟨(v,w),⟨h,rfl⟩,rfl⟩
def Mj(x:Int):List Int->List Int
 |[]=>[x]
 |y::l=>if x<=y then x::y::l else y::Mj x l
def srt:List Int->List Int
 |[]=>[]
 |x::l=>Mj x (srt l)
theorem DJ(x:Int)(l:List Int):(Mj x l).Perm (x::l):=by
 induction l with
 |nil=>exact .refl _
 |cons y l ih=>
  unfold Mj
  split
  .exact .refl _
  .exact(ih.cons y).trans (.swap x y l)
theorem nD(l:List Int):(srt l).Perm l:=by
 induction l with
 |nil=>exact .refl _
 |cons x l ih=>exact(DJ x _).trans (ih.cons x)
theorem Hl(x:Int){l:List Int}(h:l.Pairwise (·<=·)):(Mj x l).Pairwise (·<=·):=by
 induction l with
 |nil=>exact aCT _ _
 |cons y l ih=>
  have h':=aBg.1 h;unfold Mj
  split
  .rename_i YK;refine aBg.2 ⟨fun z hz=>?_,h⟩;rcases aAf.1 hz with rfl|hz
   .exact YK
   .have:=h'.1 z hz;omega
  .rename_i YK;refine aBg.2 ⟨fun z hz=>?_,ih h'.2⟩;rcases aAf.1 ((DJ x l).mem_iff.1 hz)with rfl|hz
   .omega
   .exact h'.1 z hz
theorem BL(l:List Int):(srt l).Pairwise (·<=·):=by
 induction l with
 |nil=>exact .nil
 |cons x l ih=>exact Hl x ih
theorem rY:∀ {a b:List Int},a.Pairwise (·<=·)->b.Pairwise (·<=·)->a.Perm b->a=b
 |[],b,_,_,h=>by rw[h.nil_eq]
 |x::a,[],_,_,h=>absurd h.symm.nil_eq sS
 |x::a,y::b,ha,hb,h=>by
  obtain⟨a1,a2⟩:=aBg.1 ha;obtain⟨b1,b2⟩:=aBg.1 hb;have YK:x=y:=by
   have h1:x∈y::b:=h.mem_iff.1 sS;have h2:y∈x::a:=h.mem_iff.2 sS;rcases aAf.1 h1 with h1|h1
   .exact h1
   .rcases aAf.1 h2 with h2|h2
    .exact h2.symm
    .have:=b1 x h1;have:=a1 y h2;omega
  subst YK;rw[rY a2 b2 ((List.perm_cons x).1 h)]
theorem Ti{c l:List Int}(h:c.Perm l)(hs:c.Pairwise (·<=·)):c=srt l:=rY hs (BL l) (h.trans (nD l).symm)
def aI(es:List Ed)(v:Int):List Int:=srt (nbH v (hfs (sE es)))
def adj(es:List Ed)(v w:Int):Prop:=∃ x∈es,(x.a=v/\x.b=w)\/(x.a=w/\x.b=v)
theorem Fu{es:List Ed}{v w:Int}(h:adj es v w):adj es w v:=by obtain⟨x,hx,h⟩:=h;exact⟨x,hx,h.symm⟩
theorem iI{es:List Ed}{v w:Int}:w∈aI es v↔adj es v w:=by
 unfold aI;rw[(nD _).mem_iff,Jn,Ke];constructor
 .rintro⟨x,hx,h⟩;refine⟨x,mK _ _ hx,?_⟩;rcases h with⟨h1,h2⟩|⟨h1,h2⟩
  .exact .inl ⟨h1,h2⟩
  .exact .inr ⟨h2,h1⟩
 .rintro⟨x,hx,h⟩;obtain⟨y,hy,hb⟩:=OV _ _ hx;refine⟨y,hy,?_⟩;rw[nU]at hb;rcases h with⟨h1,h2⟩|⟨h1,h2⟩<;>rcases hb with⟨b1,b2⟩|⟨b1,b2⟩
  .exact .inl ⟨b1.symm.trans h1,b2.symm.trans h2⟩
  .exact .inr ⟨b1.symm.trans h1,b2.symm.trans h2⟩
  .exact .inr ⟨b2.symm.trans h2,b1.symm.trans h1⟩
  .exact .inl ⟨b2.symm.trans h2,b1.symm.trans h1⟩
theorem Mv{l:List Ed}(Wu:∀ x∈l,x.a≠x.b)(v:Int):(nbH v (hfs (sE l))).Nodup:=by
 induction l using uQ with
 |h0=>simp[sE,hfs,nbH]
 |h1 l x ih=>
  have ih:=ih fun y hy=>Wu y (aAt _ hy);have hx:=Wu x sS;rw[jZ]
  split
  .exact ih
  .rename_i ha;have YD:∀ w,(x.a=v/\x.b=w)\/(x.b=v/\x.a=w)->w∉nbH v (hfs (sE l)):=by
    intro w hw Xl;rw[Jn,Ke]at Xl;obtain⟨y,hy,h⟩:=Xl;refine ha (aBX.2 ⟨y,hy,nU.2 ?_⟩);simp only at h;rcases hw with⟨rfl,rfl⟩|⟨rfl,rfl⟩<;>rcases h with⟨h1,h2⟩|⟨h1,h2⟩
    .exact .inl ⟨h1.symm,h2.symm⟩
    .exact .inr ⟨h1.symm,h2.symm⟩
    .exact .inr ⟨h2.symm,h1.symm⟩
    .exact .inl ⟨h2.symm,h1.symm⟩
   rw[Gf,uZ,uZ];simp only;by_cases h1:x.a=v
   .have h2:¬x.b=v:=fun h=>hx (h1.trans h.symm);rw[aAe h1,aAa h2,aAK,aAs];exact⟨ih,sS,fun a ha b hb=>by rw[aAl]at hb;subst hb;rintro rfl;exact YD _ (.inl ⟨h1,rfl⟩) ha⟩
   .rw[aAa h1,aAK];by_cases h2:x.b=v
    .rw[aAe h2,aAs];exact⟨ih,sS,fun a ha b hb=>by rw[aAl]at hb;subst hb;rintro rfl;exact YD _ (.inr ⟨h2,rfl⟩) ha⟩
    .rw[aAa h2,aAK];exact ih
theorem NM{es:List Ed}(Wu:∀ x∈es,x.a≠x.b)(v:Int):(aI es v).Pairwise (· < ·):=by have h1:=BL (nbH v (hfs (sE es)));have h2:(aI es v).Nodup:=(nD _).nodup_iff.2 (Mv Wu v);exact(h1.and h2).imp fun⟨a,b⟩=>by omega
instance (es:List Ed) (v w:Int):Decidable (adj es v w):=by unfold adj;exact inferInstance
theorem qZ(es:List Ed)(v:Int):(aI es v).length<=2*es.length:=by have h1:=(nD (nbH v (hfs (sE es)))).length_eq;have h2:=zB v (hfs (sE es));have h3:=FH (sE es);have h4:=oZ es;unfold aI;omega
abbrev Led:=List (Int×Int)
def fA(A:Led)(v:Int):Option Int:=match A with
 |[]=>none
 |p::A=>if v=p.1 then some p.2 else fA A v
theorem nV{v:Int}:∀ {A:Led},v∉A.map (·.1)->fA A v=none
 |[],_=>rfl
 |p::A,h=>by simp only[aAi,aAf,aBV]at h;simp only[fA];rw[aAa h.1,nV h.2]
theorem sH{v:Int}:∀ {A:Led},v∈A.map (·.1)->∃ w,fA A v=some w
 |[],h=>by simp at h
 |p::A,h=>by
  simp only[fA];by_cases e:v=p.1
  .exact⟨p.2,by rw[aAe e]⟩
  .rw[aAa e];simp only[aAi,aAf]at h;exact sH (h.resolve_left e)
structure BF where
 A:Led
 Q:List Int
 hit:Bool
def fW(may:Int->Bool)(to v:Int)(S:BF)(u:Int):BF:=
 if S.hit=true then S else if u∈S.A.map (·.1)then S else if u=to then⟨S.A++[(u,v)],S.Q,true⟩else⟨S.A++[(u,v)],if may u=true then S.Q++[u]else S.Q,false⟩
def dJ(may:Int->Bool)(to v:Int)(S:BF)(l:List Int):BF:=l.foldl (fW may to v) S
theorem DF(may:Int->Bool)(to v:Int){S:BF}(h:S.hit=true)(l:List Int):dJ may to v S l=S:=by
 induction l with
 |nil=>rfl
 |cons u l ih=>simp only[dJ,List.foldl_cons]at ih ⊢;rw[fW,aAe h];exact ih
theorem JR(may:Int->Bool)(to v:Int)(S:BF)(l:List Int)(u:Int):dJ may to v S (l++[u])=fW may to v (dJ may to v S l) u:=by simp[dJ,aBm]
theorem DT(may:Int->Bool)(to v:Int)(S:BF)(l:List Int):(dJ may to v S l).Q.length<=S.Q.length+l.length/\(dJ may to v S l).A.length<=S.A.length+l.length:=by
 induction l generalizing S with
 |nil=>simp[dJ]
 |cons u l ih=>
  have:=ih (fW may to v S u);have h1:(fW may to v S u).Q.length<=S.Q.length+1/\(fW may to v S u).A.length<=S.A.length+1:=by
   unfold fW
   split
   .omega
   .split
    .omega
    .split
     .simp
     .constructor
      .simp only;split<;>simp
      .simp
  simp only[dJ,List.foldl_cons,List.length_cons]at this ⊢;omega
def bfs(near:Int->List Int)(may:Int->Bool)(to:Int):Nat->Led->List Int->Option (Option Led)
 |_,_,[]=>some none
 |0,_,_::_=>none
 |n+1,A,v::Q=>if(dJ may to v ⟨A,Q,false⟩ (near v)).hit=true then some (some (dJ may to v ⟨A,Q,false⟩ (near v)).A)else bfs near may to n (dJ may to v ⟨A,Q,false⟩ (near v)).A (dJ may to v ⟨A,Q,false⟩ (near v)).Q
def gZ(A:Led)(XS:Int):Nat->Int->Option (List Int)
 |0,v=>if v=XS then some []else none
 |n+1,v=>if v=XS then some []else(gZ A XS n ((fA A v).getD 0)).map fun l=>(fA A v).getD 0::l
theorem DK{A:Led}{XS:Int}:∀ {n:Nat} {v:Int} {l:List Int},gZ A XS n v=some l->l.length<=n
 |0,v,l,h=>by
  simp only[gZ]at h
  split at h
  .injection h with h;subst h;simp
  .cases h
 |n+1,v,l,h=>by
  simp only[gZ]at h
  split at h
  .injection h with h;subst h;simp
  .rw[aBn]at h;obtain⟨l',h1,rfl⟩:=h;have:=DK h1;simp only[List.length_cons];omega
def tP(vs:List Int)(near:Int->List Int)(may:Int->Bool)(XS to:Int)(n:Nat):Option (List Int):=
 if XS∉vs\/to∉vs then some []else if XS=to then some [XS]else match bfs near may to n [(XS,XS)] [XS] with
  |some none=>some []
  |some (some A)=>(gZ A XS n to).map fun l=>(to::l).reverse
  |none=>none
def kE(x:Ed):List Int:=[if x.b<x.a then x.b else x.a,if x.a<x.b then x.b else x.a]
theorem Iv(x y:Ed):kE x=kE y↔bes x y=true:=by
 rw[nU];unfold kE;simp only[aBi,aDn];constructor
 .rintro⟨h1,h2⟩
  split at h1<;>split at h1<;>split at h2<;>split at h2<;>omega
 .rintro(⟨h1,h2⟩|⟨h1,h2⟩)
  .rw[h1,h2];exact⟨rfl,rfl⟩
  .rw[h1,h2];constructor
   .split<;>split<;>omega
   .split<;>split<;>omega
def bnd(l:List Ed):List (List Int):=(sE l).map fun y=>(l.filter fun x=>bes y x).map (·.id)
theorem Sc(l:List Ed):(bnd l).length=(sE l).length:=by simp[bnd]
theorem Jw{l:List Ed}{x:Ed}(h:(sE l).any (bes x)=false):sE (l++[x])=sE l++[x]/\bnd (l++[x])=bnd l++[[x.id]]:=by
 have h':∀ y∈sE l,bes x y=false:=fun y hy=>by
  cases hb:bes x y with
  |false=>rfl
  |true=>rw[aBX.2 ⟨y,hy,hb⟩]at h;cases h
 have hs:sE (l++[x])=sE l++[x]:=by rw[jZ,h];rfl
 refine⟨hs,?_⟩;unfold bnd;rw[hs,aAu]
 congr 1
 .refine aAU fun y hy=>?_;have:bes y x=false:=by
   cases hb:bes y x with
   |false=>rfl
   |true=>have:=h' y hy;rw[pI hb]at this;cases this
  rw[aBx];simp[this]
 .have:l.filter (fun z=>bes x z)=[]:=by rw[aDb];intro z hz hb;obtain⟨y,hy,h2⟩:=OV l z hz;have:=h' y hy;rw[wX hb h2]at this;cases this
  simp[aBx,this,Hs]
theorem SY{l:List Ed}{x:Ed}(h:(sE l).any (bes x)=true):sE (l++[x])=sE l/\∃ L1 y L2 B1 r B2,sE l=L1++y::L2/\bes x y=true/\bnd l=B1++r::B2/\B1.length=L1.length/\bnd (l++[x])=B1++(r++[x.id])::B2/\r.length<=l.length:=by
 have hs:sE (l++[x])=sE l:=by rw[jZ,h];rfl
 refine⟨hs,?_⟩;obtain⟨y,hy,hb⟩:=aBX.1 h;obtain⟨L1,L2,hL⟩:=aCd hy;have hap:=AA l;rw[hL,aBw,aBg]at hap;obtain⟨_,⟨p2,_⟩,p3⟩:=hap;have YD:∀ z,(z∈L1\/z∈L2)->bes z x=false:=by
  intro z hz;cases hzx:bes z x with
  |false=>rfl
  |true=>
   have hzy:=wX hzx hb;rcases hz with hz|hz
   .have:=p3 z hz y sS;rw[hzy]at this;cases this
   .have:=p2 z hz;rw[pI hzy]at this;cases this
 refine⟨L1,y,L2,_,_,_,hL,hb,by unfold bnd;rw[hL,aAu,aAi],sS,?_,?_⟩
 .unfold bnd;rw[hs,hL,aAu,aAi];have e:∀ L:List Ed,(∀ z∈L,bes z x=false)->L.map (fun y=>((l++[x]).filter fun x=>bes y x).map (·.id))=L.map fun y=>(l.filter fun x=>bes y x).map (·.id):=by intro L hL;refine aAU fun z hz=>?_;rw[aBx];simp[hL z hz]
  rw[e L1 fun z hz=>YD z (.inl hz),e L2 fun z hz=>YD z (.inr hz)]
  congr 2
  rw[aBx];simp[pI hb]
 .rw[aAz];exact aBh _ _
structure AtM(l:List Ed)(es:List (List Int×LV)):Prop where
 old:∀ x L1 y L2,sE l=L1++y::L2->bes x y=true->bQ es (kE x)=some (i L1.length)
 new:∀ x,(sE l).any (bes x)=false->bQ es (kE x)=none
theorem AtM.nil:AtM [] []:=⟨fun x L1 y L2 h _=>by simp[sE]at h,fun x _=>rfl⟩
theorem AtM.keep{l:List Ed}{es:List (List Int×LV)}(h:AtM l es){x:Ed}(hx:sE (l++[x])=sE l):AtM (l++[x]) es:=
 ⟨by rw[hx];exact h.old,by rw[hx];exact h.new⟩
theorem AtM.add{l:List Ed}{es:List (List Int×LV)}(h:AtM l es){x:Ed}(hx:(sE l).any (bes x)=false):AtM (l++[x]) (bP es (kE x) (i (sE l).length)):=by
 have hs:=(Jw hx).1;constructor
 .intro z L1 y L2 hL hb;rw[hs]at hL;rw[wO];rcases aDj L2 with rfl|⟨L2',y',rfl⟩
  .have:=List.append_inj' hL rfl;obtain⟨h1,h2⟩:=this;simp only[aBi,aDn]at h2;subst h1 h2;rw[aAe ((Iv _ _).2 hb)]
  .rw[aDk,show L1++y::(L2'++[y'])=(L1++y::L2')++[y'] by simp]at hL;obtain⟨h1,h2⟩:=List.append_inj' hL rfl;rw[aAa,h.old z L1 y L2' h1 hb];intro hk;have YK:=wX (pI ((Iv _ _).1 hk)) hb;rw[aBX.2 ⟨y,by rw[h1];simp,YK⟩]at hx;cases hx
 .intro z hz;rw[hs,List.any_append,Bool.or_eq_false_iff]at hz;rw[wO,aAa,h.new z hz.1];intro hk;have:=(Iv _ _).1 hk;simp[this]at hz
abbrev TR:=Nat×List Int
def HA(p:TR):LV:=.sl p.1 p.2.length (us p.2)
def bR(R:List TR):List LV:=R.map HA
theorem kW(R:List TR):(bR R).length=R.length:=by simp[bR]
structure Wi(E:List Ed)(Xo:St)(L2 L4 M te q:Nat)(vs:List Int)(mes:List (List Int×LV))(R:List TR)(s:St):Prop where
 h2:s.H L2=.box 25 2 [.nil,.nil]
 h4:s.H L4=.box 25 2 [.sl 0 vs.length (us vs),.sl te (sE E).length (eds (sE E))]
 ht:s.H te=.own 56 3 (sE E).length
 hM:s.H M=.map true [.u32,.u32] mes
 hq:s.H q=.box 22 1 (bR R)
 bn:R.map (·.2)=bnd E
 at':AtM E mes
 nd:(R.map (·.1)).Nodup
 tk:∀ p∈R,Xo.next<=p.1/\p.1<s.next/\s.H p.1=.own 34 1 p.2.length
 b:Xo.next<=L2/\Xo.next<=L4/\Xo.next<=M/\Xo.next<=te/\Xo.next<=q/\L2<s.next/\L4<s.next/\M<s.next/\te<s.next/\q<s.next
 kp:aA Xo s
def XC(g:Gr)(Xo:St)(L2 L4 M k:Nat)(fr:Frm)(s:St):Prop:=
 fr 2=.pt L2 0/\fr 4=.pt L4 0/\fr 6=.mp M/\fr 18=.sl 0 g.es.length (eds g.es)/\fr 19=i g.es.length/\fr 20=i k/\
 ∃ te q mes R,fr 5=.ms q 0 R.length/\Wi (g.es.take k) Xo L2 L4 M te q g.vs mes R s
theorem bT{st:St}{a b:Nat}{x y:cI}(ha:st.H a=x)(hb:st.H b=y)(h:x≠y):¬a=b:=fun e=>h (by rw[<- ha,e,hb])
theorem EZ(l:List Ed):z0L (eds l)=eds l:=by
 induction l with
 |nil=>rfl
 |cons e l ih=>simp only[eds,aAC,List.cons_append,List.nil_append,z0L,z0]at ih ⊢;rw[ih]
theorem Lt(R:List TR):z0L (bR R)=R.map fun p=>.sl 0 p.2.length (us p.2):=by rw[nP,bR,aBd];refine aAU fun p _=>?_;simp[HA,z0]
theorem Nx(g:Gr)(st:St)(hv:g.vs.length<=1048576)(he:g.es.length<=1000)(hp:0<st.next):
 aB prog 42 [.ag (grL g)] st fun r st'=>r=.tu [.ag [.sl 0 g.vs.length (us g.vs),.sl 0 (sE g.es).length (eds (sE g.es))],.sl 0 (bnd g.es).length ((bnd g.es).map fun l=>.sl 0 l.length (us l))]/\aA st st':=by
 refine eV ?_;have hel:=aN g.es;refine zN func42 ntmps42 [.cell 2 25,.tmp 3] ?_
 (repeat' (first|apply qS|(refine zE ?_;intro J hJ;simp[];(try refine zJ hJ ?_))))
 refine qE (QJ g.vs 0 _ hv) (by simp[]) ?_;rintro r st' ⟨rfl,Xp⟩;have Yi:=Xp.next;simp only[aJ]at Yi;have r8:st'.H st.next=.box 25 2 (grL g):=by rw[Xp.H _ (by simp<;>omega)];simp
 have hC1:st'.H (st.next+1)=.box 25 2 [.nil,.nil]:=by rw[Xp.H _ sS];simp
 have Xt:aA st st':=((aA.new _ _).trans (aA.new _ _)).trans Xp;generalize hL:st'=s1 at *;have e1:¬st.next=s1.next:=oO;have e2:¬st.next=s1.next+1:=oO
 (repeat' (first|apply qS|apply qB|((first|(refine zE ?_;intro J hJ)|(apply aF));simp[e1,e2,r8];refine zJ hJ ?_)))
 refine Pv s1.next 56 3 (e:=25) (s:=2) [.sl 0 g.vs.length (us g.vs)] [] sS ?_;refine uG 5 22 1 sS ?_;refine qL (fun n fr s=>∃ k:Nat,k<=g.es.length/\n=g.es.length-k/\XC g st (st.next+1) s1.next (s1.next+1) k fr s) g.es.length ?_ ?_
 .refine⟨0,oO,oO,sS,sS,sS,sS,sS,sS,s1.next+2,s1.next+3,[],[],sS,?_⟩;have h5:¬st.next=s1.next+2:=oO;have h1:¬st.next+1=s1.next:=oO;refine⟨by simp[h1,h5,e1,e2,hC1],by simp[sE]<;>omega,by simp[sE],sS,by simp[bR],by simp[bnd,sE],AtM.nil,sS,sS,⟨oO,oO,oO,oO,oO,by simp<;>omega,by simp<;>omega,sS,sS,sS⟩,?_⟩;exact(((((Xt.trans (aA.new _ _)).trans (aA.new _ _)).trans (aA.new _ _)).set oO _).trans (aA.new _ _))
 rintro n fr s ⟨k,hk,rfl,f2,f4,f6,f18,f19,f20,te,q,mes,R,f5,hB⟩ JJ hJJ;obtain⟨H2,H4,Ht,HM,Hq,hbn,A5,hnd,Xx,⟨b1,b2,b3,b4,b5,b6,b7,b8,b9,b10⟩,hkps⟩:=hB;have q24:¬q=s1.next:=bT Hq H4 sS;by_cases GD:k<g.es.length;rotate_left
 .clear hJJ;have ZU:k=g.es.length:=oO;rw[ZU,aAQ]at H4 Ht hbn;have ZQ:(bnd g.es).length=R.length:=by rw[<- hbn,aAz]
  have n1:¬st.next+1=q:=bT H2 Hq sS;have n2:¬s1.next=q:=fun h=>q24 h.symm;have n3:¬s1.next=st.next+1:=oO;have D5:=oZ g.es;refine sK 5 f5 Hq (by simp[kW]) ?_;have htk2:(bR R).take (R.length*1)=bR R:=aAv (by rw[kW];omega);rw[htk2]
  (repeat' (first|apply qS|refine qX (zZ ?_)|(refine qR (zZ ?_);simp[f2,f4,f19,f20,GD,H4,H2,n1,n2,n3])|(apply qC;simp[f2,f4,f19,f20,GD,H4,H2,n1,n2,n3])|(refine zE ?_;intro J hJ;simp[f2,f4,f19,f20,GD,H4,H2,n1,n2,n3];refine zJ hJ ?_)))
  refine⟨?_,(hkps.set oO _).set oO _⟩;rw[ZQ,<- hbn];simp only[z0,z0L,Fp,EZ,Lt,aBd];rfl
 have hd:=aW g.es k GD;have hw:=qN k oO;have Xv:k*3<g.es.length*3:=oO;have htk1:g.es.take (k+1)=g.es.take k++[g.es.getD k ed0]:=by rw[aAc,aAd GD];exact aAn GD
 have hEl:(g.es.take k).length<=1000:=by rw[aAq];omega
 generalize g.es.getD k ed0=x at *;generalize hE:g.es.take k=E at *;obtain⟨id,a,b⟩:=x;simp only at hd;cases hany:(sE E).any (bes ⟨id,a,b⟩)
 .have hm:=A5.new ⟨id,a,b⟩ hany;simp only[kE]at hm;have p8:(List.map (fun _:Ed=>3) (sE E)).sum=(sE E).length*3:=by
   induction sE E with
   |nil=>rfl
   |cons x l ih=>simp only[aAi,List.sum_cons,List.length_cons,ih];omega
  have D5:=oZ E;have te0:¬te=0:=oO;have Xh:=kW R;have hRl:R.length=(sE E).length:=by rw[<- Sc,<- hbn,aAz]
  have htR:List.take R.length (bR R)=bR R:=aAv oO;have x7:List.drop R.length (bR R++[LV.nil])=[.nil]:=by rw[<- Xh];exact aDv
  have htl:List.take R.length (bR R++[LV.nil])=bR R:=by rw[<- Xh];exact aDw
  have hdl2:List.drop (R.length+1) (bR R++[LV.nil])=[]:=aEv (by simp[Xh]);have hRn:((R.length:Int)).toNat=R.length:=oO;have c0:¬s1.next=s.next:=oO;have c0':¬s.next=s1.next:=oO;have c1:¬s1.next=s.next+1:=oO;have c1':¬s.next+1=s1.next:=oO;have c2:¬s1.next=s.next+2:=oO;have c2':¬s.next+2=s1.next:=oO;have c3:¬s1.next=s.next+3:=oO;have c3':¬s.next+3=s1.next:=oO;have c4:¬s1.next=s.next+4:=oO;have c4':¬s.next+4=s1.next:=oO;have e0:¬te=s.next:=oO;have e0':¬s.next=te:=oO;have e1:¬te=s.next+1:=oO;have e1':¬s.next+1=te:=oO;have e2:¬te=s.next+2:=oO;have e2':¬s.next+2=te:=oO;have e3:¬te=s.next+3:=oO;have e3':¬s.next+3=te:=oO;have e4:¬te=s.next+4:=oO;have e4':¬s.next+4=te:=oO;have d0:¬q=s.next:=oO;have d0':¬s.next=q:=oO;have d1:¬q=s.next+1:=oO;have d1':¬s.next+1=q:=oO;have d2:¬q=s.next+2:=oO;have d2':¬s.next+2=q:=oO;have d3:¬q=s.next+3:=oO;have d3':¬s.next+3=q:=oO;have d4:¬q=s.next+4:=oO;have d4':¬s.next+4=q:=oO;have c9:¬s1.next+1=s.next:=oO;have c9':¬s.next=s1.next+1:=oO;have n1:¬te=s1.next:=bT Ht H4 sS;have n2:¬te=s1.next+1:=bT Ht HM sS;have n3:¬q=s1.next+1:=bT Hq HM sS;have n4:¬q=te:=bT Hq Ht sS;have n1':¬s1.next=te:=fun h=>n1 h.symm;have n2':¬s1.next+1=te:=fun h=>n2 h.symm;have n3':¬s1.next+1=q:=fun h=>n3 h.symm;have n4':¬te=q:=fun h=>n4 h.symm;have n5':¬s1.next=q:=fun h=>q24 h.symm;have r2:¬s.next=s.next+1+1:=oO;have r3:¬s.next=s.next+1+1+1:=oO;have r4:¬s.next=s.next+1+1+1+1:=oO;have r5:¬s.next=s.next+1+1+1+1+1:=oO;have r6:¬s.next=s.next+1+1+1+1+1+1:=oO;have r7:¬s.next=s.next+1+1+1+1+1+1+1:=oO;have p1:R.length<R.length+1:=oO
  (repeat' (first|apply qS|apply qB|refine qK (zZ ?_)|(apply qC;simp[Xh,htR,p8,te0,c0,c0',c1,c1',c2,c2',c3,c3',c4,c4',e0,e0',e1,e1',e2,e2',e3,e3',e4,e4',d0,d0',d1,d1',d2,d2',d3,d3',d4,d4',c9,c9',n1,n2,n3,n4,n1',n2',n3',n4',n5',Ht,Hq,q24,f4,f5,f6,f18,f19,f20,GD,hd,hel,Xv,hw,H4,HM,hm])|(refine zE ?_;intro J hJ;simp[Xh,htR,p8,te0,c0,c0',c1,c1',c2,c2',c3,c3',c4,c4',e0,e0',e1,e1',e2,e2',e3,e3',e4,e4',d0,d0',d1,d1',d2,d2',d3,d3',d4,d4',c9,c9',n1,n2,n3,n4,n1',n2',n3',n4',n5',Ht,Hq,q24,f4,f5,f6,f18,f19,f20,GD,hd,hel,Xv,hw,H4,HM,hm];(repeat refine ca ?_);refine zJ hJ ?_)))
  (refine zS [] [s.next,s.next+1+1+1+1+1] [0,2,4,6,8,10,12,14,16,18,20,23] ?_;intro J hJ;simp[r2,r3,r4,r5,r6,r7,c0,c0',c1,c1',c2,c2',c3,c3',c4,c4',e0,e0',e1,e1',e2,e2',e3,e3',e4,e4',d0,d0',d1,d1',d2,d2',d3,d3',d4,d4',c9,c9',n1,n2,n3,n4,n1',n2',n3',n4',n5',Xh,htR,x7,htl,hdl2,p1];(repeat refine ca ?_);refine zJ hJ ?_)
  (repeat' (refine zE ?_;intro J hJ;simp[f20,hw];refine zJ hJ ?_))
  have l1:¬st.next+1=te:=bT H2 Ht sS;have l2:¬st.next+1=q:=bT H2 Hq sS;obtain⟨hs,hb⟩:=Jw hany;refine hJJ (g.es.length-(k+1)) _ _ oO ⟨k+1,oO,rfl,by simp[f2],by simp[f4],by simp[f6],by simp[f18],by simp[f19],sS,s.next+3,s.next+5,bP mes (kE ⟨id,a,b⟩) (i (sE E).length),R++[(s.next+7,[id])],sS,?_⟩;rw[htk1];refine⟨?_,?_,?_,?_,?_,?_,A5.add hany,?_,?_,?_,?_⟩
  ·(repeat (first|rw[nHh nOo]|rw[sHh oO]|rw[nIi nQq]|rw[sIi oO]));exact H2
  ·(repeat (first|rw[nHh nOo]|rw[sHh oO]|rw[nIi nQq]|rw[sIi oO]));rw[hs];simp[eds]
  ·(repeat (first|rw[nHh nOo]|rw[sHh oO]|rw[nIi nQq]|rw[sIi oO]));rw[hs];simp
  ·(repeat (first|rw[nHh nOo]|rw[sHh oO]|rw[nIi nQq]|rw[sIi oO]));rw[hRl];rfl
  ·(repeat (first|rw[nHh nOo]|rw[sHh oO]|rw[nIi nQq]|rw[sIi oO]));simp[bR,HA]
  .rw[aAu,hbn,hb];rfl
  .rw[aAu,aAs];refine⟨hnd,sS,fun x hx y hy=>?_⟩;obtain⟨p,hp,rfl⟩:=aAm.1 hx;simp at hy;have:=(Xx p hp).2.1;omega
  .intro p hp;rcases aAg.1 hp with hp|hp
   .obtain⟨h1,h2,h3⟩:=Xx p hp;have t1:¬p.1=te:=bT h3 Ht sS;have t2:¬p.1=q:=bT h3 Hq sS;have t3:¬p.1=s1.next:=bT h3 H4 sS;have t4:¬p.1=s1.next+1:=bT h3 HM sS;refine⟨h1,by simp<;>omega,?_⟩
    (repeat (first|rw[nHh nOo]|rw[sHh oO]|rw[nIi nQq]|rw[sIi oO]));exact h3
   .rw[aAl]at hp;subst hp;refine⟨by simp<;>omega,sS,?_⟩
    (repeat (first|rw[nHh nOo]|rw[sHh oO]|rw[nIi nQq]|rw[sIi oO]));rfl
  .simp only[bS,aJ];omega
  .refine⟨by have:=hkps.next;simp only[bS,aJ];omega,fun l hl=>?_⟩
   (repeat (first|rw[nHh nOo]|rw[sHh oO]|rw[nIi nQq]|rw[sIi oO]));exact hkps.H l hl
 obtain⟨hs,L1,y,L2,B1,r,B2,hL,hyb,L3,hBl,Zz,hrl⟩:=SY hany;have hm:=A5.old ⟨id,a,b⟩ L1 y L2 hL hyb;simp only[kE]at hm;rw[L3]at hbn;obtain⟨R1,R',rfl,hR1,hR'⟩:=aDB.1 hbn;obtain⟨p,R2,rfl,hpr,L8⟩:=aDR.1 hR';obtain⟨t0,r0⟩:=p;simp only at hpr;subst hpr;obtain⟨hb1,u7,hb3⟩:=Xx (t0,r0) sS;simp only at hb1 u7 hb3;have hR1l:R1.length=L1.length:=by rw[<- hBl,<- hR1,aAz]
 have Xh:(bR (R1++(t0,r0)::R2)).length=R1.length+(R2.length+1):=by rw[kW];simp
 have hRl:(R1++(t0,r0)::R2).length=R1.length+(R2.length+1):=sS;have ZC:bR (R1++(t0,r0)::R2)=bR R1++.sl t0 r0.length (us r0)::bR R2:=by simp[bR,HA]
 have ZK:(bR R1).length=R1.length:=kW R1;have x7:List.drop R1.length (bR R1++LV.sl t0 r0.length (us r0)::bR R2)=.sl t0 r0.length (us r0)::bR R2:=by rw[<- ZK];exact aDv
 have htl:List.take R1.length (bR R1++LV.sl t0 r0.length (us r0)::bR R2)=bR R1:=by rw[<- ZK];exact aDw
 have hdl2:List.drop (R1.length+1) (bR R1++LV.sl t0 r0.length (us r0)::bR R2)=bR R2:=by rw[<- ZK,show bR R1++LV.sl t0 r0.length (us r0)::bR R2=(bR R1++[LV.sl t0 r0.length (us r0)])++bR R2 by simp];rw[show(bR R1).length+1=(bR R1++[LV.sl t0 r0.length (us r0)]).length by simp];exact aDv
 rw[hRl]at f5;rw[ZC]at Hq;rw[<- hR1l]at hm;have t00:¬t0=0:=oO;have m1:¬s1.next=s.next:=oO;have m1':¬s.next=s1.next:=oO;have m2:¬s1.next+1=s.next:=oO;have m2':¬s.next=s1.next+1:=oO;have m5:¬t0=s.next:=oO;have m6:¬t0=s.next+1:=oO;have m6b:¬t0=s.next+2:=oO;have m5':¬s.next=t0:=oO;have m6':¬s.next+1=t0:=oO;have m6b':¬s.next+2=t0:=oO;have m7:¬q=s.next:=oO;have m8:¬q=s.next+1:=oO;have m9:¬q=s.next+2:=oO;have m9b:¬q=s.next+3:=oO;have n4:¬q=t0:=bT Hq hb3 sS;have r2:¬s.next=s.next+1+1:=oO;have r3:¬s.next=s.next+1+1+1:=oO;have p1:R1.length<R1.length+(R2.length+1):=oO;have p2:(R1.length:Int)<(R1.length:Int)+((R2.length:Int)+1):=oO;have hr1:r0.length<=1000:=oO
 (repeat' (first|apply qS|apply qB|refine qK (zZ ?_)|(apply qC;simp[m1,m1',m2,m2',f4,f5,f6,f18,f19,f20,GD,hd,hel,Xv,hw,HM,hm])|(refine zE ?_;intro J hJ;simp[m1,m1',m2,m2',f4,f5,f6,f18,f19,f20,GD,hd,hel,Xv,hw,HM,hm];refine zJ hJ ?_)))
 (refine zS [] [s.next,q] [0,2,4,6,8,10,12,14,16,18,20,23] ?_;intro J hJ;simp[m1,m1',m2,m2',m5,m6,m6b,m5',m6',m6b',m7,m8,m9,m9b,n4,r2,r3,f5,Hq,hb3,ZK,x7,htl,hdl2,p1,p2,t00];(repeat refine ca ?_);refine zJ hJ ?_)
 (repeat' (refine zE ?_;intro J hJ;simp[f20,hw];refine zJ hJ ?_))
 have l2:¬st.next+1=q:=bT H2 Hq sS;have l3:¬st.next+1=t0:=bT H2 hb3 sS;have l4:¬s1.next=q:=fun h=>q24 h.symm;have l5:¬s1.next=t0:=bT H4 hb3 sS;have l6:¬s1.next+1=q:=bT HM Hq sS;have l7:¬s1.next+1=t0:=bT HM hb3 sS;have l8:¬te=q:=bT Ht Hq sS;have l9:¬te=t0:=bT Ht hb3 sS;refine hJJ (g.es.length-(k+1)) _ _ oO ⟨k+1,oO,rfl,by simp[f2],by simp[f4],by simp[f6],by simp[f18],by simp[f19],sS,te,q,mes,R1++(s.next+3,r0++[id])::R2,by simp[f5],?_⟩;rw[htk1];have hnd':=hnd;rw[aAu,aAi,aAs,aAy]at hnd';obtain⟨nd1,⟨nd2,nd3⟩,nd4⟩:=hnd';refine⟨?_,?_,?_,?_,?_,?_,A5.keep hs,?_,?_,?_,?_⟩
 ·(repeat (first|rw[nHh nOo]|rw[sHh oO]|rw[nIi nQq]|rw[sIi oO]));exact H2
 ·(repeat (first|rw[nHh nOo]|rw[sHh oO]|rw[nIi nQq]|rw[sIi oO]));rw[hs];exact H4
 ·(repeat (first|rw[nHh nOo]|rw[sHh oO]|rw[nIi nQq]|rw[sIi oO]));rw[hs];exact Ht
 ·(repeat (first|rw[nHh nOo]|rw[sHh oO]|rw[nIi nQq]|rw[sIi oO]));exact HM
 ·(repeat (first|rw[nHh nOo]|rw[sHh oO]|rw[nIi nQq]|rw[sIi oO]));simp[bR,HA]
 .rw[Zz,aAu,aAi,hR1,L8]
 .rw[aAu,aAi,aAs,aAy];have lt1:∀ x∈R1.map (·.1),x<s.next:=fun x hx=>by obtain⟨p,hp,rfl⟩:=aAm.1 hx;exact(Xx p (by simp[hp])).2.1
  have lt2:∀ x∈R2.map (·.1),x<s.next:=fun x hx=>by obtain⟨p,hp,rfl⟩:=aAm.1 hx;exact(Xx p (by simp[hp])).2.1
  refine⟨nd1,⟨fun h=>by have:=lt2 _ h;omega,nd3⟩,fun x hx y hy=>?_⟩;rcases aAf.1 hy with rfl|hy
  .have:=lt1 x hx;simp only;omega
  .exact nd4 x hx y (aAj _ hy)
 .intro p hp;have old:∀ p,p∈R1\/p∈R2->¬p.1=t0->st.next<=p.1/\p.1<s.next/\s.H p.1=.own 34 1 p.2.length/\¬p.1=t0/\¬p.1=q:=by intro p hp Wu;obtain⟨h1,h2,h3⟩:=Xx p (by rcases hp with hp|hp<;>simp[hp]);exact⟨h1,h2,h3,Wu,bT h3 Hq sS⟩
  have ZY:(p∈R1\/p∈R2)/\¬p.1=t0\/p=(s.next+3,r0++[id]):=by
   rcases aAg.1 hp with hp|hp
   .exact .inl ⟨.inl hp,nd4 _ (aAm.2 ⟨p,hp,rfl⟩) t0 sS⟩
   .rcases aAf.1 hp with hp|hp
    .exact .inr hp
    .exact .inl ⟨.inr hp,fun h=>nd2 (by rw[<- h];exact aAm.2 ⟨p,hp,rfl⟩)⟩
  rcases ZY with⟨hp,Wu⟩|rfl
  .obtain⟨h1,h2,h3,t1,t2⟩:=old p hp Wu;refine⟨h1,by simp only[bS,aJ];omega,?_⟩
   (repeat (first|rw[nHh nOo]|rw[sHh oO]|rw[nIi nQq]|rw[sIi oO]));exact h3
  .refine⟨by simp only;omega,sS,?_⟩;simp only
   (repeat (first|rw[nHh nOo]|rw[sHh oO]|rw[nIi nQq]|rw[sIi oO]));simp
 .simp only[bS,aJ];omega
 .refine⟨by have:=hkps.next;simp only[bS,aJ];omega,fun l hl=>?_⟩
  (repeat (first|rw[nHh nOo]|rw[sHh oO]|rw[nIi nQq]|rw[sIi oO]));exact hkps.H l hl
abbrev VB:=Int×Nat
def iJ(H:List (Int×Int))(L:List VB):List (List Int×LV):=L.map fun p=>([p.1],.ms p.2 0 (nbH p.1 H).length)
structure NbM(H:List (Int×Int))(lo:Nat)(m:Nat)(L:List VB)(s:St):Prop where
 hm:s.H m=.map false [.u32] (iJ H L)
 bx:∀ p∈L,lo<=p.2/\p.2<s.next/\s.H p.2=.box 34 1 (us (nbH p.1 H))
 nd:(L.map (·.2)).Nodup
 kd:(L.map (·.1)).Nodup
 all:∀ v,nbH v H≠[]↔v∈L.map (·.1)
theorem vU{H:List (Int×Int)}{v:Int}:∀ {L:List VB},v∉L.map (·.1)->bQ (iJ H L) [v]=none
 |[],_=>rfl
 |p::L,h=>by simp only[aAi,aAf,aBV]at h;simp only[iJ,aAi,bQ];rw[aAa (by simpa using h.1)];exact vU h.2
theorem xD{H:List (Int×Int)}{v:Int}{q:Nat}:∀ {L1 L2:List VB},v∉L1.map (·.1)->bQ (iJ H (L1++(v,q)::L2)) [v]=some (.ms q 0 (nbH v H).length)
 |[],L2,_=>by simp[iJ,bQ]
 |p::L1,L2,h=>by simp only[aAi,aAf,aBV]at h;simp only[List.cons_append,iJ,aAi,bQ];rw[aAa (by simpa using h.1)];exact xD h.2
theorem HH{H H':List (Int×Int)}{v:Int}{q q':Nat}:∀ {L1 L2:List VB},v∉L1.map (·.1)->v∉L2.map (·.1)->(∀ u,u≠v->nbH u H'=nbH u H)->bP (iJ H (L1++(v,q)::L2)) [v] (.ms q' 0 (nbH v H').length)=iJ H' (L1++(v,q')::L2)
 |[],L2,_,h2,hn=>by
  simp only[List.nil_append,iJ,aAi,bP,beq_self_eq_true,aBq]
  congr 1
  refine aAU fun p hp=>?_;rw[hn p.1 (fun e=>h2 (by rw[<- e];exact aAm.2 ⟨p,hp,rfl⟩))]
 |p::L1,L2,h,h2,hn=>by simp only[aAi,aAf,aBV]at h;have ih:=HH (H:=H) (H':=H') (q:=q) (q':=q') (L1:=L1) (L2:=L2) h.2 h2 hn;simp only[List.cons_append,iJ,aAi,bP]at ih ⊢;rw[aAa (by simpa using h.1),ih,hn p.1 (fun e=>h.1 e.symm)]
theorem Gx{H H':List (Int×Int)}{v:Int}{q':Nat}:∀ {L:List VB},v∉L.map (·.1)->(∀ u,u≠v->nbH u H'=nbH u H)->bP (iJ H L) [v] (.ms q' 0 (nbH v H').length)=iJ H' (L++[(v,q')])
 |[],_,_=>rfl
 |p::L,h,hn=>by simp only[aAi,aAf,aBV]at h;have ih:=Gx (H:=H) (H':=H') (q':=q') (L:=L) h.2 hn;simp only[List.cons_append,iJ,aAi,bP]at ih ⊢;rw[aAa (by simpa using h.1),ih,hn p.1 (fun e=>h.1 e.symm)]
theorem DB{H:List (Int×Int)}{a b u:Int}(h:u≠a):nbH u (H++[(a,b)])=nbH u H:=by rw[uZ,aAa (fun e=>h e.symm),aAK]
theorem nJ{H:List (Int×Int)}{a b:Int}:nbH a (H++[(a,b)])=nbH a H++[b]:=by rw[uZ,aAe rfl]
theorem NbM.add{H:List (Int×Int)}{lo m:Nat}{L:List VB}{s:St}(h:NbM H lo m L s){a b:Int}(ha:a∉L.map (·.1)){q':Nat}{s':St}(hq:lo<=q'/\s.next<=q'/\q' < s'.next)
 (hm:s'.H m=.map false [.u32] (bP (iJ H L) [a] (.ms q' 0 (nbH a H++[b]).length))) (hb:s'.H q'=.box 34 1 (us (nbH a H++[b]))) (ho:∀ p∈L,s'.H p.2=s.H p.2) (hn:s.next<=s'.next):NbM (H++[(a,b)]) lo m (L++[(a,q')]) s':=by
 have ZX:∀ u,u≠a->nbH u (H++[(a,b)])=nbH u H:=fun u hu=>DB hu;refine⟨?_,fun p hp=>?_,?_,?_,fun v=>?_⟩
 .rw[hm,<- nJ,Gx ha ZX]
 .rcases aAg.1 hp with hp|hp
  .obtain⟨h1,h2,h3⟩:=h.bx p hp;exact⟨h1,oO,by rw[ho p hp,h3,ZX p.1 (fun e=>ha (by rw[<- e];exact aAm.2 ⟨p,hp,rfl⟩))]⟩
  .rw[aAl]at hp;subst hp;exact⟨hq.1,hq.2.2,by rw[hb,nJ]⟩
 .rw[aAu,aAs];refine⟨h.nd,sS,fun x hx y hy=>?_⟩;obtain⟨p,hp,rfl⟩:=aAm.1 hx;simp at hy;have:=(h.bx p hp).2.1;omega
 .rw[aAu,aAs];exact⟨h.kd,sS,fun x hx y hy=>by simp at hy;subst hy;rintro rfl;exact ha hx⟩
 .rw[aAu,aAg];by_cases hv:v=a
  .subst hv;rw[nJ];simp
  .rw[ZX v hv,h.all v];simp[hv]
theorem NbM.put{H:List (Int×Int)}{lo m:Nat}{L1 L2:List VB}{s:St}{a b:Int}{q:Nat}(h:NbM H lo m (L1++(a,q)::L2) s){q':Nat}{s':St}(hq:lo<=q'/\s.next<=q'/\q' < s'.next)
 (hm:s'.H m=.map false [.u32] (bP (iJ H (L1++(a,q)::L2)) [a] (.ms q' 0 (nbH a H++[b]).length))) (hb:s'.H q'=.box 34 1 (us (nbH a H++[b]))) (ho:∀ p,p∈L1\/p∈L2->p.2≠q->p.2<s.next->s'.H p.2=s.H p.2) (hn:s.next<=s'.next):NbM (H++[(a,b)]) lo m (L1++(a,q')::L2) s':=by
 have ZX:∀ u,u≠a->nbH u (H++[(a,b)])=nbH u H:=fun u hu=>DB hu;have kd:=h.kd;have nd:=h.nd;rw[aAu,aAi,aAs,aAy]at kd nd;obtain⟨kd1,⟨kd2,kd3⟩,kd4⟩:=kd;obtain⟨nd1,⟨nd2,nd3⟩,nd4⟩:=nd;have ha1:a∉L1.map (·.1):=fun e=>kd4 a e a sS rfl;have hb1:∀ p,p∈L1\/p∈L2->p.1≠a/\p.2≠q/\(lo<=p.2/\p.2<s.next/\s.H p.2=.box 34 1 (us (nbH p.1 H))):=by
  intro p hp;refine⟨?_,?_,h.bx p (by rcases hp with hp|hp<;>simp[hp])⟩
  .rcases hp with hp|hp
   .exact fun e=>ha1 (by rw[<- e];exact aAm.2 ⟨p,hp,rfl⟩)
   .exact fun e=>kd2 (by rw[<- e];exact aAm.2 ⟨p,hp,rfl⟩)
  .rcases hp with hp|hp
   .exact nd4 _ (aAm.2 ⟨p,hp,rfl⟩) q sS
   .exact fun e=>nd2 (by rw[<- e];exact aAm.2 ⟨p,hp,rfl⟩)
 refine⟨?_,fun p hp=>?_,?_,?_,fun v=>?_⟩
 .rw[hm,<- nJ,HH ha1 kd2 ZX]
 .have ZY:(p∈L1\/p∈L2)\/p=(a,q'):=by
   rcases aAg.1 hp with hp|hp
   .exact .inl (.inl hp)
   .rcases aAf.1 hp with hp|hp
    .exact .inr hp
    .exact .inl (.inr hp)
  rcases ZY with hp|rfl
  .obtain⟨h1,h2,h3,h4,h5⟩:=hb1 p hp;exact⟨h3,oO,by rw[ho p hp h2 h4,h5,ZX p.1 h1]⟩
  .exact⟨hq.1,hq.2.2,by rw[hb,nJ]⟩
 .rw[aAu,aAi,aAs,aAy];have lt:∀ p,p∈L1\/p∈L2->p.2<s.next:=fun p hp=>(hb1 p hp).2.2.2.1;refine⟨nd1,⟨fun e=>?_,nd3⟩,fun x hx y hy=>?_⟩
  .obtain⟨p,hp,e⟩:=aAm.1 e;have:=lt p (.inr hp);simp only at e;omega
  .rcases aAf.1 hy with rfl|hy
   .obtain⟨p,hp,rfl⟩:=aAm.1 hx;have:=lt p (.inl hp);omega
   .exact nd4 x hx y (aAj _ hy)
 .have:=h.kd;rw[aAu,aAi]at this ⊢;exact this
 .by_cases hv:v=a
  .subst hv;rw[nJ];simp
  .rw[ZX v hv,h.all v,aAu,aAu,aAi,aAi]
theorem mP{α β:Type}{f:α->β}:∀ {L:List α},(L.map f).Nodup->∀ {x y:α},x∈L->y∈L->f x=f y->x=y
 |[],_,_,_,hx,_,_=>by simp at hx
 |z::L,h,x,y,hx,hy,e=>by
  simp only[aAi,aAy]at h;rcases aAf.1 hx with Zn|Zn<;>rcases aAf.1 hy with O4|O4
  .rw[Zn,O4]
  .exact absurd (aAm.2 ⟨y,O4,by rw[<- e,Zn]⟩) h.1
  .exact absurd (aAm.2 ⟨x,Zn,by rw[e,O4]⟩) h.1
  .exact mP h.2 Zn O4 e
theorem BI{P:Program}{N:Nat}{Q:AQ}{k:List fU}{fr:Frm}{st:St}{x:Code}(I:Frm->St->Prop)(h1:AWp P N x (AK P N (fun e f s=>e=.normal/\I f s) []) fr st)(h2:∀ fr st,I fr st->AK P N Q k .normal fr st):
 AWp P N x (AK P N Q k) fr st:=by
 refine cY h1 ?_;rintro e Xg st' ⟨rfl,hI⟩;exact h2 _ _ hI
theorem Mb{P:Program}{N:Nat}{Q:AQ}{c:Code}{fr:Frm}{st:St}(I:Frm->St->Prop)(h0:I fr st)(h:∀ fr st,I fr st->AWp P N c Q fr st):AWp P N c Q fr st:=h _ _ h0
theorem NbM.keeps{H:List (Int×Int)}{lo m:Nat}{L:List VB}{s s':St}(h:NbM H lo m L s)(k:aA s s')(hm:m<s.next):NbM H lo m L s':=
 ⟨by rw[k.H m hm];exact h.hm,fun p hp=>by obtain⟨h1,h2,h3⟩:=h.bx p hp;exact⟨h1,aAp h2 k.next,by rw[k.H _ h2];exact h3⟩,h.nd,h.kd,h.all⟩
def SoI(Xo:St)(H:List (Int×Int))(M:Nat)(L:List VB)(Lr:List (List Int×LV))(fr:Frm)(s:St):Prop:=
 fr 3=.mp M/\(Lr.map (·.1)).Nodup/\(∀ e∈Lr,∃ p∈L,e=([p.1],.ms p.2 0 (nbH p.1 H).length))/\s.H M=.frz false [.u32] (iJ H L)/\M<s.next/\aA Xo s/\
 ∀ p∈L,p.2<s.next/\∃ c,s.H p.2=.box 34 1 (us c)/\c.Perm (nbH p.1 H)/\([p.1]∉Lr.map (·.1)->c.Pairwise (·<=·))
def NrI(Xo:St)(S:List Ed)(M k:Nat)(H:List (Int×Int))(fr:Frm)(s:St):Prop:=
 fr 3=.mp M/\fr 17=.sl 0 S.length (eds S)/\fr 18=i S.length/\fr 19=i k/\Xo.next<=M/\M<s.next/\aA Xo s/\∃ L,NbM H Xo.next M L s
theorem Qe(g:Gr)(st:St)(hv:g.vs.length<=1048576)(he:g.es.length<=1000)(hp:0<st.next):
 aB prog 91 [.ag (grL g)] st fun r st'=>∃ m L,r=.mp m/\st.next<=m/\m<st'.next/\aA st st'/\st'.H m=.map false [.u32] (GX L)/\(∀ p∈L,st.next<=p.2.1/\st'.H p.2.1=.box 34 1 p.2.2)/\(L.map fun p=>p.2.1).Nodup/\
  ∃ K:List Int,K.Nodup/\(∀ v,nbH v (hfs (sE g.es))≠[]↔v∈K)/\L.map (fun p=>(p.1,p.2.2))=K.map fun v=>([v],us (aI g.es v)):=by
 have hel:=aN (sE g.es);have D5:=oZ g.es;refine zN func91 ntmps91 [.tmp 2] ?_
 (repeat' (first|apply qS|(refine zE ?_;intro J hJ;simp[];(try (refine zJ hJ ?_;clear hJ J)))))
 refine qE (Nx g _ hv oO sS) sS ?_;rintro r s1 ⟨rfl,Xp⟩;have Yi:=Xp.next;simp only[aJ]at Yi;have C2:aA st s1:=((aA.new _ _).trans (aA.new _ _)).trans Xp;have E8:s1.H (st.next+1)=.map false [.u32] []:=by rw[Xp.H _ sS];simp
 have e1:¬st.next+1=s1.next:=oO;generalize ZQ:(bnd g.es).length=bl;generalize hbc:((bnd g.es).map fun l=>LV.sl 0 l.length (us l))=bc
 (repeat' (first|apply qS|apply qB|((first|(refine zE ?_;intro J hJ)|(apply aF));simp[hel];(refine zJ hJ ?_;clear hJ J))))
 refine qL (fun n fr s=>∃ k:Nat,k<=(sE g.es).length/\n=(sE g.es).length-k/\NrI st (sE g.es) (st.next+1) k (hfs ((sE g.es).take k)) fr s) (sE g.es).length ?_ ?_
 .refine⟨0,oO,oO,sS,sS,sS,sS,oO,by simp;omega,(C2.trans (aA.new _ _)),[],?_⟩;exact⟨by simp[e1,E8,iJ],sS,sS,sS,by simp[hfs,nbH]⟩
 rintro n fr s ⟨k,hk,rfl,f3,f17,f18,f19,J9,Zd,Xt,L,Zw⟩ JJ hJJ;generalize hMM:st.next+1=M at *;by_cases GD:k<(sE g.es).length;rotate_left
 .clear hJJ;have ZU:k=(sE g.es).length:=oO;rw[ZU,aAQ]at Zw;apply qS
  (refine zE ?_;intro J hJ;simp[f18,f19,GD];(refine zJ hJ ?_;clear hJ J))
  apply qS
  (apply qC;simp[])
  refine qX (zZ ?_);have hHl:(hfs (sE g.es)).length<=2000:=by rw[FH];omega
  generalize hHH:hfs (sE g.es)=H at *;apply qS;refine uO nB [] (SoI st H M L) (by simp[f3]) Zw.hm ?_ ?_ ?_ underlying59
  .intro r;refine⟨by simp[f3],?_,?_,sS,by simp;omega,Xt.set J9 _,fun p hp=>?_⟩
   .have:=Zw.kd;rw[iJ,aBd];have e:L.map ((fun x=>x.1)∘fun p:VB=>(([p.1],LV.ms p.2 0 (nbH p.1 H).length):List Int×LV))=(L.map (·.1)).map fun v=>[v]:=by rw[aBd];rfl
    rw[e];exact this.map (fun v=>[v]) fun a b YC h=>YC (by simpa using h)
   .intro e hee;obtain⟨p,hp,rfl⟩:=aAm.1 hee;exact⟨p,hp,rfl⟩
   .obtain⟨h1,h2,h3⟩:=Zw.bx p hp;have h4:¬p.2=M:=bT h3 Zw.hm sS;refine⟨by simp;exact h2,nbH p.1 H,by rw[bF,aAa h4];exact h3,.refl _,fun h=>absurd (aAm.2 ⟨_,aAm.2 ⟨p,hp,rfl⟩,rfl⟩) h⟩
  .rintro r L1 e L2 fr s2 ⟨F3,hnd,hem,hMd,Yk,V1,E9⟩ ft J hJ;obtain⟨p,hp,rfl⟩:=hem e sS;obtain⟨v,q⟩:=p;obtain⟨hql,c,hcH,hcp,-⟩:=E9 (v,q) hp;have Xh:c.length=(nbH v H).length:=hcp.length_eq;have Xi:=zB v H;simp only at Xh hcH hql hcp;have hsort:=TF c q s2 oO hql hcH;rw[Xh]at hsort;apply aF;simp[CP,mkC]
   (repeat' (refine zE ?_;intro J hJ;simp[]))
   refine qE (hsort) (by simp[]) ?_;rintro r st' ⟨d,Xn,YM,hd3,hd4⟩
   (repeat' (apply aF;simp[];(refine zJ hJ ?_;clear hJ J)))
   rw[aAu,aAi,aAs,aAy]at hnd;obtain⟨nd1,⟨nd2,nd3⟩,nd4⟩:=hnd;have hMq:¬M=q:=fun h=>by rw[h,hcH]at hMd;cases hMd
   refine hJ _ _ ⟨by simp[F3],?_,fun e he=>hem e (by simp only[aAg,aAf]at he ⊢;rcases he with h|h;exact .inl h;exact .inr (.inr h)),by rw[hd4.2 M hMq Yk];exact hMd,aAp Yk hd4.1,?_,fun p Zt=>?_⟩ (by simp[ft]) (by rw[hd4.2 M hMq Yk];exact hMd)
   .rw[aAu,aAs];exact⟨nd1,nd3,fun a ha b hb=>nd4 a ha b (aAj _ hb)⟩
   .have hq0:st.next<=q:=(Zw.bx (v,q) hp).1;exact⟨aBj V1.next hd4.1,fun l hl=>by rw[hd4.2 l oO (aAp hl V1.next)];exact V1.H l hl⟩
   .obtain⟨h1,c2,h2,h3,h4⟩:=E9 p Zt;by_cases B6:p.2=q
    .obtain rfl:p=(v,q):=by exact mP Zw.nd Zt hp B6
     exact⟨aAp h1 hd4.1,d,Xn,YM.trans hcp,fun _=>hd3⟩
    .refine⟨aAp h1 hd4.1,c2,by rw[hd4.2 _ B6 h1];exact h2,h3,fun YD=>h4 fun Xl=>YD ?_⟩;rw[aAu,aAi,aAg,aAf]at Xl;rw[aAu,aAg];rcases Xl with h|h|h
     .exact .inl h
     .exfalso;simp at h;have e2:=mP Zw.kd Zt hp h;exact B6 (by rw[e2])
     .exact .inr h
  .rintro fr s2 ⟨F3,-,-,hMd,Yk,V1,E9⟩;simp only[ak];have Xi:∀ v,(us (aI g.es v)).length=(nbH v H).length:=fun v=>by rw[aAz,<- hHH];exact(nD _).length_eq
   (repeat' (first|apply qS|(refine qR (zZ ?_);simp[F3])|(refine zE ?_;intro J hJ;simp[F3];(refine zJ hJ ?_;clear hJ J))))
   refine⟨J9,oO,V1.set J9 _,L.map fun p=>([p.1],p.2,us (aI g.es p.1)),?_,?_,?_,L.map (·.1),Zw.kd,?_,?_⟩
   .congr 1
    rw[GX,aBd,iJ];refine aAU fun p _=>?_;simp only[Function.comp,Xi]
   .intro a q b Xl;obtain⟨p,hp,he⟩:=aAm.1 Xl;injection he with e1 e2;injection e2 with e2 e3;subst e1 e2 e3;obtain⟨h1,c,h2,h3,h4⟩:=E9 p hp;have h5:¬p.2=M:=fun h=>by rw[h,hMd]at h2;cases h2
    rw[aAa h5];refine⟨(Zw.bx p hp).1,?_⟩;rw[h2,Ti h3 (h4 sS),<- hHH];rfl
   .have:=Zw.nd;rw[aBd];exact this
   .intro v;exact Zw.all v
   .rw[aBd,aBd];rfl
 have hd:=aW (sE g.es) k GD;have hw:=qN k oO;have Xv:k*3<(sE g.es).length*3:=oO;have htk1:(sE g.es).take (k+1)=(sE g.es).take k++[(sE g.es).getD k ed0]:=by rw[aAc,aAd GD];exact aAn GD
 have hEl:(hfs ((sE g.es).take k)).length<=2000:=by rw[FH,aAq];omega
 generalize (sE g.es).getD k ed0=x at *;have B8:hfs ((sE g.es).take (k+1))=hfs ((sE g.es).take k)++[(x.a,x.b)]++[(x.b,x.a)]:=by rw[htk1,Gf]
 obtain⟨id,a,b⟩:=x;simp only at hd B8;generalize hfs ((sE g.es).take k)=H at *;have b0:¬s.next=M:=oO
 (repeat' (first|apply qS|apply qB|refine qK (zZ ?_)|(apply qC;simp[f17,f18,f19,GD,hd,hel,Xv])|(refine zE ?_;intro J hJ;simp[f17,f18,f19,GD,hd,hel,Xv];(refine zJ hJ ?_;clear hJ J))))
 refine Mb (fun f s'=>NrI st (sE g.es) M k H f s'/\f 7=.pt s.next 0/\s.next<s'.next/\s'.H s.next=.box 56 3 [u id,u a,u b]) ?_ ?_
 .exact⟨⟨by simp[f3],by simp[f17],by simp[f18],by simp[f19],J9,by simp;omega,Xt.trans (aA.new _ _),L,Zw.keeps (aA.new _ _) Zd⟩,sS,sS,sS⟩
 generalize s.next=X at *;clear Zw Xt J9 Zd f19 f18 f17 f3 L;rintro fr s ⟨⟨f3,f17,f18,f19,J9,Zd,Xt,L,Zw⟩,f7,hXl,hX⟩;refine bC (fun f s'=>NrI st (sE g.es) M k (H++[(a,b)]) f s'/\f 7=.pt X 0/\X<s'.next/\s'.H X=.box 56 3 [u id,u a,u b]) ?_ ?_
 .clear hJJ;have Yk:=Zw.hm;have x1:¬X=M:=bT hX Yk sS;have x2:¬M=X:=fun h=>x1 h.symm;have x3:¬X=s.next:=oO;have x4:¬X=s.next+1:=oO;have y3:¬M=s.next:=oO;have y4:¬M=s.next+1:=oO;have y5:¬s.next=M:=oO;have y6:¬s.next+1=M:=oO;have Xi:=zB a (H);by_cases Xl:a∈L.map (·.1)
  .obtain⟨p,hp,rfl⟩:=aAm.1 Xl;obtain⟨v,q⟩:=p;obtain⟨L1,L2,rfl⟩:=aCd hp;have kd:=Zw.kd;rw[aAu,aAi,aAs]at kd;have Yc:=xD (H:=H) (q:=q) (L1:=L1) (L2:=L2) (v:=v) (fun e=>kd.2.2 v e v sS rfl);obtain⟨q1,q2,q3⟩:=Zw.bx (v,q) sS;simp only at q1 q2 q3 Xi;have z1:¬q=M:=bT q3 Yk sS;have z2:¬q=s.next:=oO;have z3:¬q=s.next+1:=oO;have z4:¬X=q:=bT hX q3 sS;have z5:¬M=q:=fun h=>z1 h.symm;have z6:List.take (nbH v (H)).length (us (nbH v (H)))=us (nbH v (H)):=aAv sS
   have put:=Zw.put (b:=b) (q':=s.next+1) (s':=(((s.new (.own 34 1 1)).set q .dead).new (.box 34 1 (us (nbH v (H)++[b])))).set M (.map false [.u32] (bP (iJ (H) (L1++(v,q)::L2)) [v] (.ms (s.next+1) 0 (nbH v (H)++[b]).length)))) ⟨oO,oO,sS⟩ sS (by(repeat (first|rw[nHh nOo]|rw[sHh oO]|rw[nIi nQq]|rw[sIi oO]))) (fun p hp h1 h2=>by
    have:=Zw.bx p (by rcases hp with hp|hp<;>simp[hp]);have h3:¬p.2=M:=bT this.2.2 Yk sS
    (repeat (first|rw[nHh nOo]|rw[sHh oO]|rw[nIi nQq]|rw[sIi oO]))) (by simp;omega)
   generalize hF:nbH v (H)=F at *;generalize hN:iJ (H) (L1++(v,q)::L2)=EM at *
   (refine zS [33] [X,M] [0,2,4,6,8,10,12,14,16,18,20,23] ?_;intro J hJ;simp[f3,f7,hX,Yk,x1,x2,x3,x4,y3,y4,y5,y6,Yc,q3,z1,z2,z3,z4,z5,z6];(repeat refine ca ?_);(refine zJ hJ ?_;clear hJ J))
   refine⟨by trivial,⟨by simp[f3],by simp[f17],by simp[f18],by simp[f19],J9,by simp;omega,?_,L1++(v,s.next+1)::L2,?_⟩,by simp[f7],by simp;omega,?_⟩
   .refine⟨by have:=Xt.next;simp;omega,fun l hl=>?_⟩;have:=Xt.next
    (repeat (first|rw[nHh nOo]|rw[sHh oO]|rw[nIi nQq]|rw[sIi oO]));exact Xt.H l hl
   .simpa using put
   ·(repeat (first|rw[nHh nOo]|rw[sHh oO]|rw[nIi nQq]|rw[sIi oO]));exact hX
  .have Yc:=vU (H:=H) Xl;have ZG:nbH a (H)=[]:=by
    cases hc:nbH a (H) with
    |nil=>rfl
    |cons _ _=>exact absurd ((Zw.all _).1 (by rw[hc];simp)) Xl
   have put:=Zw.add (a:=a) (b:=b) (q':=s.next+1) (s':=((s.new (.own 34 1 1)).new (.box 34 1 (us (nbH a (H)++[b])))).set M (.map false [.u32] (bP (iJ (H) L) [a] (.ms (s.next+1) 0 (nbH a (H)++[b]).length)))) Xl ⟨oO,oO,sS⟩ sS (by(repeat (first|rw[nHh nOo]|rw[sHh oO]|rw[nIi nQq]|rw[sIi oO]))) (fun p hp=>by
    have:=Zw.bx p hp;have h3:¬p.2=M:=bT this.2.2 Yk sS
    (repeat (first|rw[nHh nOo]|rw[sHh oO]|rw[nIi nQq]|rw[sIi oO]))) (by simp only[bS,aJ];omega)
   rw[ZG]at put;generalize hN:iJ (H) L=EM at *
   (refine zS [33] [X,M] [0,2,4,6,8,10,12,14,16,18,20,23] ?_;intro J hJ;simp[f3,f7,hX,Yk,x1,x2,x3,x4,y3,y4,y5,y6,Yc];(repeat refine ca ?_);(refine zJ hJ ?_;clear hJ J))
   refine⟨by trivial,⟨by simp[f3],by simp[f17],by simp[f18],by simp[f19],J9,by simp;omega,?_,L++[(a,s.next+1)],?_⟩,by simp[f7],by simp;omega,?_⟩
   .refine⟨by have:=Xt.next;simp;omega,fun l hl=>?_⟩;have:=Xt.next
    (repeat (first|rw[nHh nOo]|rw[sHh oO]|rw[nIi nQq]|rw[sIi oO]));exact Xt.H l hl
   .simpa using put
   ·(repeat (first|rw[nHh nOo]|rw[sHh oO]|rw[nIi nQq]|rw[sIi oO]));exact hX
 clear Zw Xt J9 Zd f19 f18 f17 f3 f7 hXl hX L;rintro fr s ⟨⟨f3,f17,f18,f19,J9,Zd,Xt,L,Zw⟩,f7,hXl,hX⟩;have hEl2:(H++[(a,b)]).length<=2001:=by rw[aAh];simp only[List.length_cons,List.length_nil];omega
 generalize H++[(a,b)]=H2 at *;refine BI (fun f s'=>NrI st (sE g.es) M k (H2++[(b,a)]) f s'/\f 7=.pt X 0/\X<s'.next/\s'.H X=.box 56 3 [u id,u a,u b]) ?_ ?_
 .clear hJJ;have Yk:=Zw.hm;have x1:¬X=M:=bT hX Yk sS;have x2:¬M=X:=fun h=>x1 h.symm;have x3:¬X=s.next:=oO;have x4:¬X=s.next+1:=oO;have y3:¬M=s.next:=oO;have y4:¬M=s.next+1:=oO;have y5:¬s.next=M:=oO;have y6:¬s.next+1=M:=oO;have Xi:=zB b (H2);by_cases Xl:b∈L.map (·.1)
  .obtain⟨p,hp,rfl⟩:=aAm.1 Xl;obtain⟨v,q⟩:=p;obtain⟨L1,L2,rfl⟩:=aCd hp;have kd:=Zw.kd;rw[aAu,aAi,aAs]at kd;have Yc:=xD (H:=H2) (q:=q) (L1:=L1) (L2:=L2) (v:=v) (fun e=>kd.2.2 v e v sS rfl);obtain⟨q1,q2,q3⟩:=Zw.bx (v,q) sS;simp only at q1 q2 q3 Xi;have z1:¬q=M:=bT q3 Yk sS;have z2:¬q=s.next:=oO;have z3:¬q=s.next+1:=oO;have z4:¬X=q:=bT hX q3 sS;have z5:¬M=q:=fun h=>z1 h.symm;have z6:List.take (nbH v (H2)).length (us (nbH v (H2)))=us (nbH v (H2)):=aAv sS
   have put:=Zw.put (b:=a) (q':=s.next+1) (s':=(((s.new (.own 34 1 1)).set q .dead).new (.box 34 1 (us (nbH v (H2)++[a])))).set M (.map false [.u32] (bP (iJ (H2) (L1++(v,q)::L2)) [v] (.ms (s.next+1) 0 (nbH v (H2)++[a]).length)))) ⟨oO,oO,sS⟩ sS (by(repeat (first|rw[nHh nOo]|rw[sHh oO]|rw[nIi nQq]|rw[sIi oO]))) (fun p hp h1 h2=>by
    have:=Zw.bx p (by rcases hp with hp|hp<;>simp[hp]);have h3:¬p.2=M:=bT this.2.2 Yk sS
    (repeat (first|rw[nHh nOo]|rw[sHh oO]|rw[nIi nQq]|rw[sIi oO]))) (by simp;omega)
   generalize hF:nbH v (H2)=F at *;generalize hN:iJ (H2) (L1++(v,q)::L2)=EM at *
   (refine zS [44] [X,M] [0,2,4,6,8,10,12,14,16,18,20,23] ?_;intro J hJ;simp[f3,f7,hX,Yk,x1,x2,x3,x4,y3,y4,y5,y6,Yc,q3,z1,z2,z3,z4,z5,z6];(repeat refine ca ?_);(refine zJ hJ ?_;clear hJ J))
   refine⟨by trivial,⟨by simp[f3],by simp[f17],by simp[f18],by simp[f19],J9,by simp;omega,?_,L1++(v,s.next+1)::L2,?_⟩,by simp[f7],by simp;omega,?_⟩
   .refine⟨by have:=Xt.next;simp;omega,fun l hl=>?_⟩;have:=Xt.next
    (repeat (first|rw[nHh nOo]|rw[sHh oO]|rw[nIi nQq]|rw[sIi oO]));exact Xt.H l hl
   .simpa using put
   ·(repeat (first|rw[nHh nOo]|rw[sHh oO]|rw[nIi nQq]|rw[sIi oO]));exact hX
  .have Yc:=vU (H:=H2) Xl;have ZG:nbH b (H2)=[]:=by
    cases hc:nbH b (H2) with
    |nil=>rfl
    |cons _ _=>exact absurd ((Zw.all _).1 (by rw[hc];simp)) Xl
   have put:=Zw.add (a:=b) (b:=a) (q':=s.next+1) (s':=((s.new (.own 34 1 1)).new (.box 34 1 (us (nbH b (H2)++[a])))).set M (.map false [.u32] (bP (iJ (H2) L) [b] (.ms (s.next+1) 0 (nbH b (H2)++[a]).length)))) Xl ⟨oO,oO,sS⟩ sS (by(repeat (first|rw[nHh nOo]|rw[sHh oO]|rw[nIi nQq]|rw[sIi oO]))) (fun p hp=>by
    have:=Zw.bx p hp;have h3:¬p.2=M:=bT this.2.2 Yk sS
    (repeat (first|rw[nHh nOo]|rw[sHh oO]|rw[nIi nQq]|rw[sIi oO]))) (by simp only[bS,aJ];omega)
   rw[ZG]at put;generalize hN:iJ (H2) L=EM at *
   (refine zS [44] [X,M] [0,2,4,6,8,10,12,14,16,18,20,23] ?_;intro J hJ;simp[f3,f7,hX,Yk,x1,x2,x3,x4,y3,y4,y5,y6,Yc];(repeat refine ca ?_);(refine zJ hJ ?_;clear hJ J))
   refine⟨by trivial,⟨by simp[f3],by simp[f17],by simp[f18],by simp[f19],J9,by simp;omega,?_,L++[(b,s.next+1)],?_⟩,by simp[f7],by simp;omega,?_⟩
   .refine⟨by have:=Xt.next;simp;omega,fun l hl=>?_⟩;have:=Xt.next
    (repeat (first|rw[nHh nOo]|rw[sHh oO]|rw[nIi nQq]|rw[sIi oO]));exact Xt.H l hl
   .simpa using put
   ·(repeat (first|rw[nHh nOo]|rw[sHh oO]|rw[nIi nQq]|rw[sIi oO]));exact hX
 clear Zw Xt J9 Zd f19 f18 f17 f3 f7 hXl hX L;rintro fr s ⟨⟨f3,f17,f18,f19,J9,Zd,Xt,L,Zw⟩,f7,hXl,hX⟩;simp only[ak]
 (repeat' (refine zE ?_;intro J hJ;simp[f19,hw];(refine zJ hJ ?_;clear hJ J)))
 exact hJJ ((sE g.es).length-(k+1)) _ _ oO ⟨k+1,oO,rfl,by simp[f3],by simp[f17],by simp[f18],sS,J9,Zd,Xt,L,by rw[B8];exact Zw⟩
def SX(es:List Ed)(v:Int):Option LV:=if aI es v=[]then none else some (.sl 0 (aI es v).length (us (aI es v)))
theorem DQ{es:List Ed}(v:Int):∀ {K:List Int},bQ (K.map fun v=>(([v],.sl 0 (aI es v).length (us (aI es v))):List Int×LV)) [v]=if v∈K then some (.sl 0 (aI es v).length (us (aI es v)))else none
 |[]=>rfl
 |k::K=>by
  simp only[aAi,bQ];by_cases h:v=k
  .subst h;simp
  .have h':¬([v]==[k])=true:=by simpa using h
   rw[aAa h',DQ v (K:=K)];simp[h]
theorem Oj(g:Gr)(st:St)(hv:g.vs.length<=1048576)(he:g.es.length<=1000)(hp:0<st.next):
 aB prog 91 [.ag (grL g)] st fun r st'=>∃ m es,r=.mp m/\st.next<=m/\m<st'.next/\aA st st'/\st'.H m=.map false [.u32] es/\∀ v,bQ es [v]=SX g.es v:=by
 refine(BX (R:=fun L=>∃ K:List Int,K.Nodup/\(∀ v,nbH v (hfs (sE g.es))≠[]↔v∈K)/\L.map (fun p=>(p.1,p.2.2))=K.map fun v=>([v],us (aI g.es v))) (Qe g st hv he hp)).mono ?_;rintro r st' ⟨m,L,rfl,h1,h2,h3,h4,K,hK,hall,hL⟩;refine⟨m,_,rfl,h1,h2,h3,h4,fun v=>?_⟩;have e:FP L=K.map fun v=>([v],.sl 0 (aI g.es v).length (us (aI g.es v))):=by
  have e1:FP L=(L.map fun p=>(p.1,p.2.2)).map fun p=>(p.1,LV.sl 0 p.2.length p.2):=by rw[aBd];rfl
  rw[e1,hL,aBd];refine aAU fun v _=>?_;simp
 rw[e,DQ];unfold SX;have hn:aI g.es v=[]↔nbH v (hfs (sE g.es))=[]:=by
  have:=(nD (nbH v (hfs (sE g.es)))).length_eq;unfold aI;constructor
  .intro h;rw[h]at this;exact aAE this.symm
  .intro h;rw[h];rfl
 by_cases hv:v∈K
 .rw[aAe hv,aAa (fun h=>(hall v).2 hv (hn.1 h))]
 .rw[aAa hv]
  split
  .rfl
  .rename_i h;exact absurd ((hall v).1 fun h2=>h (hn.2 h2)) hv
theorem Ug(g:Gr)(v:Int)(st:St)(hv:g.vs.length<=1048576)(he:g.es.length<=1000):
 aB prog 57 [.ag (grL g),u v] st fun r st'=>r=.sl 0 (aI g.es v).length (us (aI g.es v))/\aA st st':=by
 refine xO ?_;refine zN func57 ntmps57 [.tmp 4] ?_;refine jC fun ZA=>?_
 (repeat' (first|apply qS|(refine zE ?_;intro J hJ;simp[];(try refine zJ hJ ?_))))
 refine qE (Oj g _ hv he sS) sS ?_;rintro r s1 ⟨m,es,rfl,h1,h2,h3,h4,h5⟩;have h5:=h5 v;unfold SX at h5;by_cases hn:aI g.es v=[]
 .rw[aAe hn]at h5
  (repeat' (first|(refine qR (zZ ?_);simp[h4,h5,hn])|(apply aF;simp[h4,h5,hn];refine zJ hJ ?_)))
  exact(aA.new _ _).trans h3
 .rw[aAa hn]at h5
  (repeat' (first|(refine qR (zZ ?_);simp[h4,h5])|(apply aF;simp[h4,h5];refine zJ hJ ?_)))
  exact(aA.new _ _).trans h3
def rS(A:Led):List (List Int×LV):=A.map fun p=>([p.1],u p.2)
theorem GA(A:Led)(v:Int):bQ (rS A) [v]=(fA A v).map u:=by
 induction A with
 |nil=>rfl
 |cons p A ih=>
  simp only[rS,aAi,bQ,fA]at ih ⊢;by_cases h:v=p.1
  .subst h;simp
  .rw[aAa (by simpa using h),aAa h];exact ih
theorem QS{A:Led}{v w:Int}(h:v∉A.map (·.1)):bP (rS A) [v] (u w)=rS (A++[(v,w)]):=by
 induction A with
 |nil=>rfl
 |cons p A ih=>simp only[aAi,aAf,aBV]at h;have ih:=ih h.2;simp only[rS,aAi,List.cons_append,bP]at ih ⊢;rw[aAa (by simpa using h.1),ih]
theorem back(A:Led)(ma:Nat)(XS to:Int)(n:Nat)(l:List Int)(st:St)(hn:n<=100000)(hl:gZ A XS n to=some l)(hm:ma<st.next)(hH:st.H ma=.map false [.u32] (rS A)):
 aB prog 163 [.mp ma,u XS,u to] st fun r st'=>r=.sl 0 (to::l).reverse.length (us (to::l).reverse)/\aA st st':=by
 have S7:=DK hl;refine cG ?_;refine zN func163 ntmps163 [.tmp 6] ?_
 (repeat' (first|apply qS|apply qB|(refine w_e [10] ?_;intro J hJ;simp only[];simp[];refine zJ hJ ?_)))
 refine qL (fun k fr s=>∃(v:Int) (W R:List Int),gZ A XS k v=some R/\to::l=W++R/\k<=n/\W.length+k<=n+1/\fr 0=.mp ma/\fr 1=u XS/\fr 8=u v/\∃ q,fr 7=.ms q 0 W.length/\s.H q=.box 34 1 (us W)/\st.next<=q/\q<s.next/\aA st s) n ?_ ?_
 .exact⟨to,[to],l,hl,rfl,oO,by simp;omega,sS,sS,sS,st.next,sS,sS,aAk _,sS,aA.new _ _⟩
 rintro k fr s ⟨v,W,R,hb,hW,hk,hWk,f0,f1,f8,q,f7,hq,hq0,hql,Xt⟩ JJ hJJ;have hHs:s.H ma=.map false [.u32] (rS A):=by rw[Xt.H ma hm];exact hH
 have hg:=GA A v;by_cases hv:v=XS
 .clear hJJ;have hR:R=[]:=by cases k<;>(simp only[gZ,aAe hv,aAb]at hb;exact hb.symm)
  subst hR;rw[aAK]at hW;have hv2:(v != XS)=false:=by simpa using hv
  (repeat' (first|apply qS|refine qX (zZ ?_)|(apply qC;simp[f1,f8,hv,hv2,f7])|(refine zE ?_;intro J hJ;simp[f1,f8,hv,hv2,f7];(try refine zJ hJ ?_))))
  refine qE (tY W q s (by unfold small;omega) hq) (by simp[]) ?_;rintro r st' rfl
  (repeat' (first|apply qS|(refine qR (zZ ?_);simp[f7])|((first|(refine zE ?_;intro J hJ)|(apply aF));simp[f7];refine zJ hJ ?_)))
  exact⟨q,W.length,⟨rfl,rfl⟩,34,1,us W.reverse,sS,sS,by subst hW;simp,(Xt.set hq0 _).set hq0 _⟩
 .cases k with
  |zero=>simp only[gZ,aAa hv]at hb;cases hb
  |succ k=>
   simp only[gZ,aAa hv,aBn]at hb;obtain⟨R',hb,rfl⟩:=hb;have hv2:(v != XS)=true:=by simpa using hv
   have A7:((bQ (rS A) [v]).getD (u 0))=u ((fA A v).getD 0):=by rw[hg];cases fA A v<;>rfl
   generalize (fA A v).getD 0=x at *;have q1:¬q=s.next:=oO;have Xx:List.take W.length (us W)=us W:=aAv sS
   (repeat' (first|apply qS|apply qB|refine qK (zZ ?_)|(apply qC;simp[f0,f1,f8,hv,hv2,f7,hHs,A7,q1,hq,Xx])|(refine zE ?_;intro J hJ;simp[f0,f1,f8,hv,hv2,f7,hHs,A7,q1,hq,Xx];(repeat refine ca ?_);refine zJ hJ ?_)))
   refine hJJ k _ _ oO ⟨x,W++[x],R',hb,by rw[hW];simp,oO,by simp;omega,by simp[f0],by simp[f1],sS,s.next+1,sS,sS,by have:=Xt.next;omega,sS,?_⟩;exact(((Xt.trans (aA.new _ _)).set hq0 _).trans (aA.new _ _))
def Nn(th:LV)(may:Int->Bool)(st:St):Prop:=
 (th=.atom .nilFunc/\∀ v,may v=true)\/∃ f cX,th=.fn (.func f) cX/\cX.map norm=cX/\∀ v s,aA st s->aB prog f (u v::cX) s fun r s'=>r=bb (may v)/\aA s s'
structure PaB(Xo:St)(A:Led)(Q:List Int)(Ma Mn tq o:Nat)(es:List (List Int×LV))(s:St):Prop where
 ha:s.H Ma=.map false [.u32] (rS A)
 hn:s.H Mn=.map false [.u32] es
 hq:s.H tq=.que 34 (o+Q.length)
 b:Xo.next<=Ma/\Xo.next<=Mn/\Xo.next<=tq/\Ma<s.next/\Mn<s.next/\tq<s.next/\tq≠0/\¬Mn=Ma
 kp:aA Xo s
theorem Path(g:Gr)(XS to:Int)(th:LV)(may:Int->Bool)(n:Nat)(l:List Int)(st:St)(hv:g.vs.length<=1048576)(he:g.es.length<=1000)(hn:n<=1000)(hm:Nn th may st)(hl:tP g.vs (aI g.es) may XS to n=some l):
 aB prog 113 [.ag (grL g),u XS,u to,th] st fun r st'=>r=.sl 0 l.length (us l)/\aA st st':=by
 have hth:norm th=th:=by rcases hm with⟨rfl,_⟩|⟨f,c,rfl,_,_⟩<;>rfl
 refine eV ?_;refine zN func113 ntmps113 [.tmp 8] ?_;refine jC fun ZA=>?_
 (repeat' (first|apply qS|(refine zE ?_;intro J hJ;simp[];(try (refine zJ hJ ?_;clear hJ J)))))
 refine qE (Nr g XS _ hv) sS ?_;rintro r s1 ⟨rfl,Xp⟩;have Yi:=Xp.next;simp only[aJ]at Yi;have r8:s1.H st.next=.box 25 2 (grL g):=by rw[Xp.H _ sS];simp
 have C2:aA st s1:=(aA.new _ _).trans Xp;clear Xp;unfold tP at hl;by_cases hf:XS∈g.vs;rotate_left
 .have h0:gi g.vs XS<0:=(Bf _ _).2 hf;rw[aAe (.inl hf)]at hl;injection hl with hl;subst hl
  (apply aF;simp[h0];(refine zJ hJ ?_;clear hJ J))
  (repeat' (first|apply qS|(refine qR (zZ ?_);simp[])|(apply qC;simp[])|(refine zE ?_;intro J hJ;simp[];(refine zJ hJ ?_;clear hJ J))))
  exact⟨rfl,C2⟩
 have h0:¬gi g.vs XS<0:=fun h=>(Bf _ _).1 h hf
 (apply aF;simp[h0,r8])
 refine qE (Nr g to _ hv) sS ?_;rintro r s2 ⟨rfl,Xq⟩;have Zk:=Xq.next;have p9:=(Xq.H st.next oO).trans r8;have Z3:=C2.trans Xq;clear Xq C2 r8 h0;by_cases ht:to∈g.vs;rotate_left
 .have h0:gi g.vs to<0:=(Bf _ _).2 ht;rw[aAe (.inr ht)]at hl;injection hl with hl;subst hl
  (apply aF;simp[h0];(refine zJ hJ ?_;clear hJ J))
  (repeat' (first|apply qS|(refine qR (zZ ?_);simp[])|(apply qC;simp[])|(refine zE ?_;intro J hJ;simp[];(refine zJ hJ ?_;clear hJ J))))
  exact⟨rfl,Z3⟩
 have h0:¬gi g.vs to<0:=fun h=>(Bf _ _).1 h ht;rw[aAa (by simp[hf,ht])]at hl
 (apply aF;simp[h0];(refine zJ hJ ?_;clear hJ J))
 by_cases hft:XS=to
 .rw[aAe hft]at hl;injection hl with hl;subst hl
  (repeat' (first|apply qS|refine qK (zZ ?_)|(refine qR (zZ ?_);simp[hft])|(apply qC;simp[hft])|(refine zE ?_;intro J hJ;simp[hft];(refine zJ hJ ?_;clear hJ J))))
  refine⟨by simp[z0,z0L,hft],Z3.trans (aA.new _ _)⟩
 rw[aAa hft]at hl
 (repeat' (first|apply qS|refine qK (zZ ?_)|(apply qC;simp[hft,p9])|(refine zE ?_;intro J hJ;simp[hft,p9];(try (refine zJ hJ ?_;clear hJ J)))))
 refine qE (Oj g _ hv he oO) sS ?_;rintro r s3 ⟨Mn,es,rfl,m1,m2,Xv,hMn,hes⟩;have hn3:=Xv.next;have Y5:=Z3.trans Xv;obtain⟨R0,hbfs,hR0⟩:∃ R0,bfs (aI g.es) may to n [(XS,XS)] [XS]=some R0/\((R0=none/\l=[])\/∃ A l',R0=some A/\gZ A XS n to=some l'/\l=(to::l').reverse):=by
  cases hb:bfs (aI g.es) may to n [(XS,XS)] [XS] with
  |none=>rw[hb]at hl;cases hl
  |some R0=>
   rw[hb]at hl;cases R0 with
   |none=>injection hl with hl;exact⟨_,rfl,.inl ⟨rfl,hl.symm⟩⟩
   |some A=>simp only[aBn]at hl;obtain⟨l',h1,h2⟩:=hl;exact⟨_,rfl,.inr ⟨A,l',rfl,h1,h2.symm⟩⟩
 clear hl
 (repeat' (first|apply qS|apply qB|((first|(refine zE ?_;intro J hJ)|(apply aF));simp[];(refine zJ hJ ?_;clear hJ J))))
 refine UP 11 (t:=s3.next+1) (n:=1) (e:=34) (cs:=[u XS]) sS sS oO oO ?_;have O8:¬Mn=s3.next:=oO;have ZK:¬Mn=s3.next+1:=oO;refine qL (fun k fr s=>∃(A:Led) (Q:List Int) (tq o:Nat),bfs (aI g.es) may to k A Q=some R0/\k<=n/\Q.length+2000*k<=2000*n+1/\fr 1=u XS/\fr 2=u to/\fr 3=th/\fr 9=.mp Mn/\fr 10=.mp s3.next/\fr 11=.qu tq o Q.length (us Q)/\PaB st A Q s3.next Mn tq o es s) n ?_ ?_
 .refine⟨_,_,s3.next+1,0,hbfs,aAk _,by simp;omega,sS,sS,sS,sS,sS,sS,?_⟩;refine⟨by simp[rS,bP],by simp[O8,ZK,hMn],sS,⟨oO,oO,oO,by simp;omega,by simp;omega,sS,oO,O8⟩,?_⟩;exact(((Y5.trans (aA.new _ _)).trans (aA.new _ _)).set (q:=s3.next+1) oO _)
 generalize s3.next=Ma at *;clear Xv hn3 Y5 hMn m1 m2 p9 Z3 Zk Yi O8 ZK hbfs;rintro k fr s ⟨A,Q,tq,o,hb,hk,hQ,f1,f2,f3,f9,f10,f11,W9,hPn,hPq,⟨b1,b2,b3,b4,b5,b6,b7,b8⟩,Xt⟩ JJ hJJ;cases Q with
 |nil=>
  clear hJJ;have h1:R0=none:=by cases k<;>(simp only[bfs,aAb]at hb;exact hb.symm)
  subst h1;rcases hR0 with⟨_,rfl⟩|⟨_,_,h,_⟩
  ·(repeat' (first|apply qS|refine qX (zZ ?_)|(refine qR (zZ ?_);simp[f11])|(apply qC;simp[f11])|(refine zE ?_;intro J hJ;simp[f11];(refine zJ hJ ?_;clear hJ J))))
   exact⟨rfl,Xt⟩
  .cases h
 |cons v Q=>
 cases k with
 |zero=>simp[bfs]at hb
 |succ k=>
 have hQl:(Q.length:Int)+1 > 0:=oO;have RN:=hes v;have hrl:=qZ g.es v;simp only[bfs]at hb;generalize M7:aI g.es v=row at *;have hslc:List.take (Q.length+1-1) (us Q)=us Q:=aAv sS;have hbn:¬(Q.length:Int)+1<=0:=oO
 (repeat (first|apply qS|apply qB))
 (refine zE ?_;intro J hJ;simp[f11,hQl];(refine zJ hJ ?_;clear hJ J))
 (repeat (first|apply qS|apply qB))
 (apply qC;simp[])
 refine qK ?_;simp only[ak]
 (repeat (first|apply qS|apply qB))
 (refine zE ?_;intro J hJ;simp[f11,hQl];(refine zJ hJ ?_;clear hJ J))
 (repeat (first|apply qS|apply qB))
 (refine zE ?_;intro J hJ;simp[f11,hQl,hslc];(repeat refine ca ?_);(refine zJ hJ ?_;clear hJ J))
 apply qS;refine bC (fun f s'=>s'=s/\f 1=u XS/\f 2=u to/\f 3=th/\f 9=.mp Mn/\f 10=.mp Ma/\f 11=.qu tq (o+1) Q.length (us Q)/\f 12=u v/\(f 50=.nil/\row=[]\/f 50=.sl 0 row.length (us row))/\f 51=i row.length/\f 52=i (0:Nat)) ?_ ?_
 .clear hJJ;unfold SX at RN;rw[M7]at RN;by_cases E4:row=[]
  .rw[aAe E4]at RN
   (repeat' (refine zE ?_;intro J hJ;simp[f9,hPn,RN];(refine zJ hJ ?_;clear hJ J)))
   simp[f1,f2,f3,f9,f10,E4]
  .rw[aAa E4]at RN
   (repeat' (refine zE ?_;intro J hJ;simp[f9,hPn,RN];(refine zJ hJ ?_;clear hJ J)))
   simp[f1,f2,f3,f9,f10]
 clear f1 f2 f3 f9 f10 f11 fr RN;rintro fr s' ⟨rfl,f1,f2,f3,f9,f10,f11,f12,f50,f51,f52⟩;apply qB;refine aZ 52 51 53 84 row.length (fun j fr st2=>fr 1=u XS/\fr 2=u to/\fr 3=th/\fr 9=.mp Mn/\fr 10=.mp Ma/\fr 12=u v/\(fr 50=.nil/\row=[]\/fr 50=.sl 0 row.length (us row))/\(dJ may to v ⟨A,Q,false⟩ (row.take j)).hit=false/\∃ tq o,fr 11=.qu tq o (dJ may to v ⟨A,Q,false⟩ (row.take j)).Q.length (us (dJ may to v ⟨A,Q,false⟩ (row.take j)).Q)/\PaB st (dJ may to v ⟨A,Q,false⟩ (row.take j)).A (dJ may to v ⟨A,Q,false⟩ (row.take j)).Q Ma Mn tq o es st2) ?_ ?_ ?_ (hti:=f52) (htn:=f51)
 .refine⟨f1,f2,f3,f9,f10,f12,f50,rfl,tq,o+1,f11,⟨W9,hPn,?_,⟨b1,b2,b3,b4,b5,b6,b7,b8⟩,Xt⟩⟩;rw[hPq];simp only[List.take_zero,dJ,List.foldl_nil,List.length_cons]
  congr 1
  omega
 .clear f1 f2 f3 f9 f10 f11 f12 f50 f51 f52 W9 hPn hPq b1 b2 b3 b4 b5 b6 b7 b8 Xt fr hJJ;rintro j fr s GD ⟨f1,f2,f3,f9,f10,f12,f50,hh,tq,o,f11,W9,hPn,hPq,⟨b1,b2,b3,b4,b5,b6,b7,b8⟩,Xt⟩ fi fn J hJ;have f50:fr 50=.sl 0 row.length (us row):=by
   rcases f50 with⟨_,h⟩|h
   .rw[h]at GD;simp at GD
   .exact h
  have hd:=qG row j GD;have Xx:row.take (j+1)=row.take j++[row.getD j 0]:=by rw[aAc,aAd GD];exact aAn GD
  have YZ:=JR may to v ⟨A,Q,false⟩ (row.take j) (row.getD j 0);rw[<- Xx]at YZ;have D5:=DT may to v ⟨A,Q,false⟩ (row.take j);simp only[aAq]at D5;have hfull:(dJ may to v ⟨A,Q,false⟩ (row.take (j+1))).hit=true->dJ may to v ⟨A,Q,false⟩ row=dJ may to v ⟨A,Q,false⟩ (row.take (j+1)):=by intro h;have:row=row.take (j+1)++row.drop (j+1):=(aAH _ _).symm;rw[this,dJ,aBm];have h2:=DF may to v h (row.drop (j+1));simp only[dJ]at h2 ⊢;rw[h2];simp
  generalize row.getD j 0=x at *;generalize hS:dJ may to v ⟨A,Q,false⟩ (row.take j)=S at *;obtain⟨SA,SQ,Sh⟩:=S;simp only at hh f11 W9 hPq D5;subst hh;have ZI:=GA SA x;have hqa:¬tq=Ma:=bT hPq W9 sS;have Zx:¬tq=Mn:=bT hPq hPn sS;have hqa':¬Ma=tq:=fun h=>hqa h.symm;have Za:¬Mn=tq:=fun h=>Zx h.symm;by_cases Xl:x∈SA.map (·.1)
  .obtain⟨y,hy⟩:=sH Xl;rw[hy]at ZI;simp only[Option.map_some]at ZI;have h1:fW may to v ⟨SA,SQ,false⟩ x=⟨SA,SQ,false⟩:=by simp[fW,Xl]
   rw[h1]at YZ
   (repeat' (first|apply qS|refine qX (zZ ?_)|(apply qC;simp[f10,f50,fi,fn,hd,GD,W9,ZI])|(refine zE ?_;intro J hJ;simp[f10,f50,fi,fn,hd,GD,W9,ZI];(refine zJ hJ ?_;clear hJ J))))
   refine hJ _ _ (by simp[fi]) (by simp[fn]) ⟨by simp[f1],by simp[f2],by simp[f3],by simp[f9],by simp[f10],by simp[f12],.inr (by simp[f50]),by rw[YZ],tq,o,by rw[YZ];simp[f11],by rw[YZ];exact⟨W9,hPn,hPq,⟨b1,b2,b3,b4,b5,b6,b7,b8⟩,Xt⟩⟩
  rw[nV Xl]at ZI;simp only[Option.map_none]at ZI;have K3:bP (rS SA) [x] (u v)=rS (SA++[(x,v)]):=QS Xl;by_cases hxt:x=to
  .clear hJ;subst hxt;have h1:fW may x v ⟨SA,SQ,false⟩ x=⟨SA++[(x,v)],SQ,true⟩:=by unfold fW;rw[aAa sS,aAa Xl,aAe rfl]
   rw[h1]at YZ;have hf2:=hfull (by rw[YZ]);rw[hf2,YZ]at hb;simp only[aBq,aAb]at hb;subst hb;rcases hR0 with⟨h,_⟩|⟨A2,l',h,hbk,rfl⟩
   .cases h
   injection h with h;subst h
   (repeat' (first|apply qS|refine qK (zZ ?_)|(apply qC;simp[f1,f2,f10,f12,f50,fi,fn,hd,GD,W9,ZI,K3])|(refine zE ?_;intro J hJ;simp[f1,f2,f10,f12,f50,fi,fn,hd,GD,W9,ZI,K3];(try (refine zJ hJ ?_;clear hJ J)))))
   refine qE (back (SA++[(x,v)]) Ma XS x n l' _ oO hbk (by simp;exact b4) sS) sS ?_;rintro r s4 ⟨rfl,Yb⟩
   (repeat' (first|(refine qR (zZ ?_);simp[])|(apply aF;simp[];(refine zJ hJ ?_;clear hJ J))))
   refine⟨by simp only[z0];congr 1;have:=Fp (x::l').reverse;simpa using this,?_⟩;exact(Xt.set b1 _).trans Yb
  have h1:fW may to v ⟨SA,SQ,false⟩ x=⟨SA++[(x,v)],if may x=true then SQ++[x]else SQ,false⟩:=by unfold fW;rw[aAa sS,aAa Xl,aAa hxt]
  rw[h1]at YZ;have tn0:¬tq=s.next:=oO;have hQ2:SQ.length<=3000000:=by simp only[List.length_cons]at hQ;omega
  have hT2:∀ m s',s'.H Ma=.map false [.u32] (rS (SA++[(x,v)]))->s'.H Mn=.map false [.u32] es->s'.H m=.que 34 (0+(SQ++[x]).length)->st.next<=m->m<s'.next->s.next<=s'.next->aA st s'->PaB st (SA++[(x,v)]) (SQ++[x]) Ma Mn m 0 es s':=fun m s' h1 h2 h3 h4 h5 h6 h7=>⟨h1,h2,h3,⟨b1,b2,h4,oO,oO,h5,oO,b8⟩,h7⟩;have hT1:∀ s',s'.H Ma=.map false [.u32] (rS (SA++[(x,v)]))->s'.H Mn=.map false [.u32] es->s'.H tq=.que 34 (o+SQ.length)->s.next<=s'.next->aA st s'->PaB st (SA++[(x,v)]) SQ Ma Mn tq o es s':=fun s' h1 h2 h3 h6 h7=>⟨h1,h2,h3,⟨b1,b2,b3,oO,oO,oO,b7,b8⟩,h7⟩;rcases hm with⟨rfl,hm⟩|⟨f,cX,rfl,hcaps,hm⟩
  .rw[aAe (hm x)]at YZ
   (repeat' (first|apply qS|refine qK (zZ ?_)|(apply qC;simp[f1,f2,f3,f10,f11,f12,f50,fi,fn,hd,GD,W9,ZI,K3,hxt,hPq,hqa,Zx,hqa',Za,tn0])|(refine zE ?_;intro J hJ;simp[f1,f2,f3,f10,f11,f12,f50,fi,fn,hd,GD,W9,ZI,K3,hxt,hPq,hqa,Zx,hqa',Za,tn0];(repeat refine ca ?_);(refine zJ hJ ?_;clear hJ J))))
   refine hJ _ _ (by simp[fi]) (by simp[fn]) ⟨by simp[f1],by simp[f2],by simp[f3],by simp[f9],by simp[f10],by simp[f12],.inr (by simp[f50]),by rw[YZ],s.next+1,0,by rw[YZ];simp,?_⟩;rw[YZ];refine hT2 _ _ (by(repeat (first|rw[nHh nOo]|rw[sHh oO]|rw[nIi nQq]|rw[sIi oO]))) (by(repeat (first|rw[nHh nOo]|rw[sHh oO]|rw[nIi nQq]|rw[sIi oO]));exact hPn) (by(repeat (first|rw[nHh nOo]|rw[sHh oO]|rw[nIi nQq]|rw[sIi oO]));simp) oO sS (by simp;omega) ?_;exact((((Xt.set b1 _).trans (aA.new _ _)).set b3 _).trans (aA.new _ _))
  ·(repeat' (first|apply qS|refine qK (zZ ?_)|(apply qC;simp[f1,f2,f3,f10,f11,f12,f50,fi,fn,hd,GD,W9,ZI,K3,hxt])|(refine zE ?_;intro J hJ;simp[f1,f2,f3,f10,f11,f12,f50,fi,fn,hd,GD,W9,ZI,K3,hxt];(try (refine zJ hJ ?_;clear hJ J)))))
   have hkz:aA st (s.set Ma (.map false [.u32] (rS (SA++[(x,v)])))):=Xt.set b1 _;refine qE (hm x _ hkz) (by simp[hcaps]) ?_;rintro r s4 ⟨rfl,Yb⟩;have U0:=Yb.next;simp only[bS]at U0;have hPa4:s4.H Ma=.map false [.u32] (rS (SA++[(x,v)])):=by rw[Yb.H Ma (by simp;exact b4)];simp
   have hPn4:s4.H Mn=.map false [.u32] es:=by rw[Yb.H Mn (by simp;exact b5)];simp[b8,hPn]
   have hPq4:s4.H tq=.que 34 (o+SQ.length):=by rw[Yb.H tq (by simp;exact b6)];simp[hqa,hPq]
   have tn4:¬tq=s4.next:=oO;cases hmy:may x
   .rw[hmy,aAa sS]at YZ
    (repeat' (first|refine qK (zZ ?_)|(apply qC;simp[f11])|(apply aF;simp[f11];(refine zJ hJ ?_;clear hJ J))))
    refine hJ _ _ (by simp[fi]) (by simp[fn]) ⟨by simp[f1],by simp[f2],by simp[f3],by simp[f9],by simp[f10],by simp[f12],.inr (by simp[f50]),by rw[YZ],tq,o,by rw[YZ];simp[f11],?_⟩;rw[YZ];exact hT1 _ hPa4 hPn4 hPq4 U0 (hkz.trans Yb)
   .rw[hmy,aAe rfl]at YZ
    (repeat' (first|(apply qC;simp[f11,hPq4,tn4])|((first|(refine zE ?_;intro J hJ)|(apply aF));simp[f11,hPq4,tn4];(repeat refine ca ?_);(refine zJ hJ ?_;clear hJ J))))
    refine hJ _ _ (by simp[fi]) (by simp[fn]) ⟨by simp[f1],by simp[f2],by simp[f3],by simp[f9],by simp[f10],by simp[f12],.inr (by simp[f50]),by rw[YZ],s4.next+1,0,by rw[YZ];simp,?_⟩;rw[YZ];refine hT2 _ _ (by(repeat (first|rw[nHh nOo]|rw[sHh oO]|rw[nIi nQq]|rw[sIi oO]));exact hPa4) (by(repeat (first|rw[nHh nOo]|rw[sHh oO]|rw[nIi nQq]|rw[sIi oO]));exact hPn4) (by(repeat (first|rw[nHh nOo]|rw[sHh oO]|rw[nIi nQq]|rw[sIi oO]));simp) oO sS (by simp;omega) ?_;exact((((hkz.trans Yb).trans (aA.new _ _)).set b3 _).trans (aA.new _ _))
 .rintro fr s ⟨f1,f2,f3,f9,f10,f12,f50,hh,tq,o,f11,hB⟩;rw[aAQ]at hh f11 hB;rw[aAa (by rw[hh];simp)]at hb;have D5:=DT may to v ⟨A,Q,false⟩ row;simp only at D5;simp only[ak];refine hJJ k _ _ oO ⟨_,_,tq,o,hb,oO,by simp only[List.length_cons]at hQ;omega,by simp[f1],by simp[f2],by simp[f3],by simp[f9],by simp[f10],by simp[f11],hB⟩
theorem LG{vs:List Int}{v:Int}(h:v∉vs):bQ (wY vs) [v]=none:=by
 have key:∀(L:List Nat),(∀ j∈L,j<vs.length)->bQ (L.map fun k=>(([vs.getD k 0],i k):List Int×LV)) [v]=none:=by
  intro L;induction L with
  |nil=>intro _;rfl
  |cons j L ih=>intro hL;have hj:=hL j sS;have Wu:¬v=vs.getD j 0:=fun e=>h (by rw[e,bG _ _ hj];exact aAA _);simp only[aAi,bQ];rw[aAa (by simpa using Wu)];exact ih fun j hj=>hL j (aAj _ hj)
 exact key _ fun j hj=>aBa.1 hj
def LU(vs:List Int)(v:Int):Int:=if v∈vs then v else vs.getD 0 0
theorem VV{vs:List Int}{S pl:Nat}{st:St}(hS:ShB vs S pl st)(hn:vs.Nodup)(h64:vs.length<=64)(h0:0<vs.length)(v:Int):
 aB prog 110 [.pt S 0,u v] st fun r st'=>r=wv (mk vs [LU vs v])/\st'=st:=by
 unfold LU;by_cases hv:v∈vs
 .rw[aAe hv];exact Sb hS hn h64 hv
 .rw[aAa hv];obtain⟨⟨a,b,c,d,e,f,Yg⟩,hP⟩:=hS;have h1:=LG hv;have h2:=Ks hn h64 h0;have h2:EO .u64 1 0=mk vs [vs.getD 0 0]:=h2;refine zN func110 ntmps110 [.tmp 4] ?_
  (repeat' (first|apply qS|(refine qR (zZ ?_);simp[Yg,hP,h1,h2])|(refine zE ?_;intro J hJ;simp[Yg,hP,h1,h2];refine zJ hJ ?_)))
def inW(vs inner:List Int)(v:Int):Bool:=decide (LU vs v∈inner)
theorem Vq{vs inner:List Int}(h64:vs.length<=64){v:Int}(hv:v∈vs):((xE .u64 (mk vs [v]) (mk vs inner):Int) != 0)=decide (v∈inner):=by
 rw[NY _ _ _ h64];by_cases h:v∈inner
 .have:mk vs ([v].filter fun v=>decide (v∈inner))≠0:=fun e=>by have:=(mk_zero _ _).1 e v hv;simp[h]at this
  simpa[h]using this
 .have:mk vs ([v].filter fun v=>decide (v∈inner))=0:=(mk_zero _ _).2 fun w _=>by simp[h]
  rw[this];simp[h]
theorem VA{vs inner:List Int}{e:LV}{S pl a b:Nat}{st:St}(hS:ShB vs S pl st)(hn:vs.Nodup)(h64:vs.length<=64)(h0:0<vs.length)(ha:st.H a=.box 113 1 [.pt S 0])(hb:st.H b=.box 121 2 [wv (mk vs inner),e])(v:Int):
 aB prog 119 [u v,.pt a 0,.pt b 0] st fun r st'=>r=bb (inW vs inner v)/\st'=st:=by
 have hbv:LU vs v∈vs:=by
  unfold LU;by_cases h:v∈vs
  .rw[aAe h];exact h
  .rw[aAa h,bG _ _ h0];exact aAA _
 have Xl:=Vq (inner:=inner) h64 hbv;unfold inW;refine zN func119 ntmps119 [.tmp 4] ?_
 (repeat' (first|apply qS|(refine zE ?_;intro J hJ;simp[];refine zJ hJ ?_)))
 (refine zS [] [a,b] [0,2,6,8,4,10,12,14] ?_;intro J hJ;simp[ha,hb])
 refine qD (VV hS hn h64 h0 v) sS ?_;rintro r s1 ⟨rfl,h1⟩;rw[h1];clear h1 s1;refine⟨fun h=>by first|(cases h;done)|exact fun _ _=>rfl|simp,?_⟩
 (apply aS;simp[hb,Xl];refine zJ hJ ?_)
 (repeat' (refine qR (zZ ?_);simp[]))
theorem Wr{vs inner:List Int}{e:LV}{S pl a b c:Nat}{st:St}(hS:ShB vs S pl st)(hn:vs.Nodup)(h64:vs.length<=64)(h0:0<vs.length)(ha:st.H a=.box 113 1 [.pt S 0])(hb:st.H b=.box 121 2 [wv (mk vs inner),e])
 (hc:st.H c=.box 129 1 [.fn (.func 119) [.pt a 0,.pt b 0]]) (GD:S<st.next/\pl<st.next/\a<st.next/\b<st.next/\c<st.next) (x:Ed):
 aB prog 120 [.ag (edL x),.pt c 0] st fun r st'=>r=bb (inW vs inner x.a||inW vs inner x.b)/\aA st st':=by
 obtain⟨d,p,q⟩:=x;obtain⟨⟨e1,e2,e3,e4,e5,e6,Yg⟩,hP⟩:=hS;have hk:=aA.new st (.box 56 3 (edL ⟨d,p,q⟩));have hW:=fun v=>VA (vs:=vs) (inner:=inner) (e:=e) (S:=S) (pl:=pl) (a:=a) (b:=b) (st:=st.new (.box 56 3 (edL ⟨d,p,q⟩))) ⟨⟨e1,e2,e3,e4,e5,e6,(hk.H S GD.1).trans Yg⟩,(hk.H pl GD.2.1).trans hP⟩ hn h64 h0 ((hk.H a GD.2.2.1).trans ha) ((hk.H b GD.2.2.2.1).trans hb) v;have c1:¬c=st.next:=oO;refine zN func120 ntmps120 [.tmp 3] ?_
 (repeat' (first|apply qS|(refine zE ?_;intro J hJ;simp[hc,c1];(try refine zJ hJ ?_))))
 refine qE (hW p) sS ?_;rintro r s1 ⟨rfl,h1⟩;rw[h1];clear h1 s1;cases hp:inW vs inner p
 ·(apply aF;simp[hc,c1])
  refine qE (hW q) sS ?_;rintro r s1 ⟨rfl,h1⟩;rw[h1];clear h1 s1
  (repeat' (first|(refine qR (zZ ?_);simp[])|(apply aF;simp[];refine zJ hJ ?_)))
  exact⟨fun h=>(by rw[hp]at h;cases h),hk⟩
 ·(repeat' (first|(refine qR (zZ ?_);simp[])|(apply aF;simp[];refine zJ hJ ?_)))
  exact⟨.inl hp,hk⟩
end Aw
end Go.Proofs.YtempldclppogmaaGreatDoor
