/- plane: Embed of the examples; Five. -/
import Derived.Test.YtbgngpdonpeboaaGreatDoorJj
import Derived.Test.YtbgngpdonpeboaaGreatDoorAwFn
import Derived.Test.YtbgngpdonpeboaaGreatDoorAwZ
import Derived.Test.YtbgngpdonpeboaaGreatDoorAwRg
set_option linter.unusedVariables false
set_option linter.unusedSimpArgs false
set_option maxHeartbeats 1000000
open Go.Proofs.Tryz
namespace Go.Proofs.YtbgngpdonpeboaaGreatDoor
namespace Aw
open Go Go.RowKit Pl
def Cg:Gr:=⟨[1,2,3],[⟨1,1,2⟩,⟨2,2,3⟩,⟨3,3,1⟩]⟩
def eC:Gr:=⟨[1,2,3,4,5],[⟨1,1,2⟩,⟨2,1,3⟩,⟨3,1,4⟩,⟨4,1,5⟩,⟨5,2,3⟩,⟨6,2,4⟩,⟨7,2,5⟩,⟨8,3,4⟩,⟨9,3,5⟩,⟨10,4,5⟩]⟩
theorem RZ{g:Gr}(hg:GoodE g){s:Bw}(h:sQ g.es g.vs.length g.vs ⟨[],[],[],[]⟩=some s){B:List (List Nat)}(hp:B.Perm s.out)(hr:B.Pairwise fun x y=>x.headD 0<y.headD 0):fP g.es=B:=by
 grind [rS,Aa]
theorem sG{g:Gr}(hg:GoodE g){out:List (List Nat)}(h:(sQ (sE g.es) g.vs.length g.vs ⟨[],[],[],[]⟩).map (·.out)=some out){B:List (List Nat)}(hp:B.Perm out)(hr:B.Pairwise fun x y=>x.headD 0<y.headD 0):aP g=B.map fun B=>B.map (eAt (sE g.es)):=by obtain⟨s,h1,rfl⟩:=aBj.1 h;unfold aP;rw[RZ (g:=⟨g.vs,sE g.es⟩) hg.simple h1 hp hr]
theorem Hu:chk Cg=0:=by decide +kernel
theorem rT:chk eC=0:=by decide +kernel
theorem Mh:aP Cg=[Cg.es]:=by rw[sG (eT Hu) (out:=[[0,1,2]]) (by decide +kernel) (aDn _) (by decide)];decide +kernel
theorem JQ:aP eC=[eC.es]:=by rw[sG (eT rT) (out:=[[0,1,2,3,4,5,6,7,8,9]]) (by decide +kernel) (aDn _) (by decide)];decide +kernel
theorem xK:(if chk eC=0 then iA eC (aP eC)else some none)=some none:=by rw[aAj rT,JQ];rfl
theorem Pz:(if chk Cg=0 then iA Cg (aP Cg)else some none)=some (some ⟨Cg,[[2,7],[3,4],[5,6]]⟩):=by rw[aAj Hu,Mh];rfl
def pE(a b:Nat):List Ed:=eC.es.filter fun e=>decide (e.a<a)||(decide (e.a=a)&&decide (e.b<b))
theorem NQ(a b:Nat)(h1:1<=a)(h2:a<b)(h3:b<=5):pE a (b+1)=pE a b++[⟨(pE a b).length+1,a,b⟩]:=by
 have h:∀ a:Fin 6,∀ b:Fin 6,1<=a.1->a.1<b.1->pE a.1 (b.1+1)=pE a.1 b.1++[⟨(pE a.1 b.1).length+1,a.1,b.1⟩]:=by decide +kernel
 exact h ⟨a,oO⟩ ⟨b,oO⟩ h1 h2
theorem Mo(a:Nat)(h1:1<=a)(h2:a<=5):pE a 6=pE (a+1) (a+2):=by
 have h:∀ a:Fin 6,1<=a.1->pE a.1 6=pE (a.1+1) (a.1+2):=by decide +kernel
 exact h ⟨a,oO⟩ h1
theorem UD(a b:Nat):(pE a b).length<=10:=aAU _ _
def FvS(st:St)(a b:Nat)(s:St):Prop:=s.H st.next=.box 25 2 [.nil,.nil]/\aA st s/\∃ tv t,s.H (st.next+2)=.box 25 2 [.sl tv 5 (us [1,2,3,4,5]),.sl t (pE a b).length (eds (pE a b))]/\t≠0/\st.next+2<t/\t<s.next/\s.H t=.own 36 3 (pE a b).length
theorem Pp(st:St):aB prog 34 [] st fun r st'=>r=.ag (grL eC)/\aA st st':=by
 refine cZ ?_;refine zN func34 ntmps34 [.cell 0 25] ?_;refine iF fun M3=>?_;refine xw0 ?_;refine AZ (st.next+2) 36 3 (e:=25) (s:=2) [.sl (st.next+1) 5 (us [1,2,3,4,5])] [] sS ?_;refine qL (fun n fr s=>∃ a:Nat,1<=a/\a<=6/\n=6-a/\fr 0=.pt st.next 0/\fr 1=.pt (st.next+2) 0/\fr 2=u a/\FvS st a (a+1) s) 5 ?_ ?_
 .refine⟨1,oO,oO,rfl,sS,sS,sS,?_,?_,st.next+1,st.next+3,?_,oO,oO,sS,?_⟩
  ·(repeat (first|rw[nHh nOo]|rw[sHh oO]|rw[nIi nQq]|rw[sIi oO]))
  .exact(((((aA.new _ _).trans (aA.new _ _)).trans (aA.new _ _)).set oO _).trans (aA.new _ _)).set oO _
  .have:pE 1 (1+1)=[]:=by decide +kernel
   rw[this];(repeat (first|rw[nHh nOo]|rw[sHh oO]|rw[nIi nQq]|rw[sIi oO]));simp[us,eds]
  .have:pE 1 (1+1)=[]:=by decide +kernel
   rw[this];(repeat (first|rw[nHh nOo]|rw[sHh oO]|rw[nIi nQq]|rw[sIi oO]));simp
 rintro n fr s ⟨a,a1,a2,rfl,f0,f1,f2,hS⟩ JJ hJJ;by_cases ha:a<=5
 .have hw:IntKind.u32.wrap ((a:Int)+1)=((a+1:Nat):Int):=by rw[wrap_u32' _ oO oO];omega
  have ha2:(a:Int)<=5:=oO;refine xw3 f2 ha2 hw ?_;refine qL (fun n fr s=>∃ b:Nat,a<b/\b<=6/\n=6-b/\fr 0=.pt st.next 0/\fr 1=.pt (st.next+2) 0/\fr 2=u a/\fr 3=u b/\FvS st a b s) (6-(a+1)) ?_ ?_
  .exact⟨a+1,oO,oO,rfl,sF1 f0,sF1 f1,sF1 f2,sS,hS⟩
  clear f0 f1 f2 hS fr s;rintro n fr s ⟨b,b1,b2,rfl,f0,f1,f2,f3,hS⟩ J2 hJ2;by_cases hb:b<=5
  .have hwb:IntKind.u32.wrap ((b:Int)+1)=((b+1:Nat):Int):=by rw[wrap_u32' _ oO oO];omega
   have T7:(b:Int)<=5:=oO;obtain⟨hR,hk,tv,t,hB,t0,t1,t2,tH⟩:=hS;have I2:=NQ a b a1 b1 hb;have S6:=UD a b;generalize pE a b=E at *;have w1:IntKind.i64.wrap ((E.length:Int)+1)=(E.length:Int)+1:=zW;have w2:IntKind.u32.wrap ((E.length:Int)+1)=(E.length:Int)+1:=wrap_u32' _ oO oO;have hel:=aI E;have Q4:=Vl E;have c1:¬t=s.next:=oO;have c2:¬s.next=t:=oO;have c3:¬st.next+2=s.next:=oO;have c4:¬st.next+2=t:=oO;have c5:¬st.next+2=s.next+1:=oO;have c6:¬s.next=st.next+2:=oO
   (repeat' (first|apply qS|apply qB|refine qK (zZ ?_)|(apply qC;simp[f0,f1,f2,f3,T7,hwb,hB,tH,t0,w1,w2,hel,Q4,c1,c2,c3,c4,c5,c6])|(refine zE ?_;intro J hJ;simp[f0,f1,f2,f3,T7,hwb,hB,tH,t0,w1,w2,hel,Q4,c1,c2,c3,c4,c5,c6];(repeat refine ca ?_);refine zJ hJ ?_)))
   refine hJ2 (6-(b+1)) _ _ oO ⟨b+1,oO,oO,rfl,sF1 f0,sF1 f1,sF1 f2,sS,?_,?_,tv,s.next+1,?_,oO,oO,sS,?_⟩
   ·(repeat (first|rw[nHh nOo]|rw[sHh oO]|rw[nIi nQq]|rw[sIi oO]));exact hR
   .exact(((hk.trans (aA.new _ _)).set oO _).trans (aA.new _ _)).set oO _
   .rw[I2];(repeat (first|rw[nHh nOo]|rw[sHh oO]|rw[nIi nQq]|rw[sIi oO]));simp[eds,edL]
   .rw[I2];(repeat (first|rw[nHh nOo]|rw[sHh oO]|rw[nIi nQq]|rw[sIi oO]));simp
  .obtain rfl:b=6:=oO;have T7:¬((6:Nat):Int)<=5:=oO;unfold FvS at hS hJJ;rw[Mo a a1 ha]at hS;refine xw3 f3 f2 hw ?_;exact hJJ _ _ _ oO ⟨a+1,oO,oO,rfl,sF1 f0,sF1 f1,sS,hS⟩
 .obtain rfl:a=6:=oO;clear hJJ;obtain⟨hR,hk,tv,t,hB,t0,t1,t2,tH⟩:=hS;have hp:pE 6 (6+1)=eC.es:=by decide +kernel
  rw[hp]at hB tH;refine xw5 f0 f1 f2 hB hR ?_;exact⟨by simp only[z0,z0L,nS];rfl,hk.set oO _⟩
end Aw
namespace Aw
open Go Go.RowKit
end Aw
namespace Aw
open Go Go.RowKit Pl
mutual
def kV:LV->Bool
 |.sl t _ cs=>t==0&&sU cs
 |.nil=>true
 |.ag cs=>sU cs
 |.tu cs=>sU cs
 |.atom _=>true
 |_=>false
def sU:List LV->Bool
 |[]=>true
 |c::cs=>kV c&&sU cs
end
abbrev G0:G:=⟨1,fun _=>none,fun _=>0,fun _=>0,fun _=>false⟩
theorem YH(b o:Nat):G0.ok b o:=by simp[G.ok]
mutual
theorem HJ{w:World}{g:G}:∀(lv:LV) (v:Value),kV lv=true->Rep w g lv v->Rep w G0 lv v
 |.sl t n cs,v,hp,h=>by simp only[kV,aAW,aDS]at hp;obtain⟨rfl,hp⟩:=hp;simp only[Rep]at h ⊢;obtain⟨A,cap,h1,h2,h3,_,h5⟩:=h;refine⟨A,cap,h1,h2,h3,fun h=>absurd rfl h,fun Zo=>?_⟩;obtain⟨b,o,h6,h7⟩:=h5 Zo;exact⟨b,o,h6,yN b cs o hp h7⟩
 |.nil,v,_,h=>by simpa only[Rep]using h
 |.ag cs,v,hp,h=>by simp only[kV]at hp;simp only[Rep]at h ⊢;obtain⟨vs,h1,h2⟩:=h;exact⟨vs,h1,rN cs vs hp h2⟩
 |.tu cs,v,hp,h=>by simp only[kV]at hp;simp only[Rep]at h ⊢;obtain⟨vs,h1,h2⟩:=h;exact⟨vs,h1,rN cs vs hp h2⟩
 |.atom _,_,_,h=>by simpa only[Rep]using h
 |.emp,_,hp,_=>by simp[kV]at hp
 |.dead,_,hp,_=>by simp[kV]at hp
 |.ms _ _ _,_,hp,_=>by simp[kV]at hp
 |.pt _ _,_,hp,_=>by simp[kV]at hp
 |.ep _,_,hp,_=>by simp[kV]at hp
 |.mp _,_,hp,_=>by simp[kV]at hp
 |.fn _ _,_,hp,_=>by simp[kV]at hp
 |.qu _ _ _ _,_,hp,_=>by simp[kV]at hp
 |.pe _ _,_,hp,_=>by simp[kV]at hp
 |.kap _ _ _,_,hp,_=>by simp[kV]at hp
theorem rN{w:World}{g:G}:∀(cs:List LV) (vs:List Value),sU cs=true->aC w g cs vs->aC w G0 cs vs
 |[],vs,_,h=>h
 |c::cs,vs,hp,h=>by simp only[sU,aAW]at hp;simp only[aC]at h ⊢;obtain⟨v,vs',rfl,h1,h2⟩:=h;exact⟨v,vs',rfl,HJ c v hp.1 h1,rN cs vs' hp.2 h2⟩
theorem yN{w:World}{g:G}(b:Nat):∀(cs:List LV) (o:Nat),sU cs=true->aM w g b cs o->aM w G0 b cs o
 |[],_,_,h=>h
 |c::cs,o,hp,h=>by simp only[sU,aAW]at hp;simp only[aM]at h ⊢;obtain⟨⟨v,h1,h2,h3⟩,h4⟩:=h;exact⟨⟨v,h1,HJ c v hp.1 h2,YH b o⟩,yN b cs (o+1) hp.2 h4⟩
end
theorem Cl{P:Program}{f:FuncId}{args:List LV}{r0:LV}{st:St}(ha:sU args=true)(hr:∀(w:World) (g g':G) v,Rep w g r0 v->Rep w g' r0 v)
 (h:aB P f args ⟨1,fun _=>.dead⟩ fun r _=>r=r0):aB P f args st fun r st'=>r=r0/\st'=st:=by
 refine⟨h.1,fun w g vs hi hrp=>?_⟩;have hi0:Inv w G0 ⟨1,fun _=>.dead⟩:=by refine⟨rfl,by decide,fun _ _=>rfl,fun l hl=>hl.elim,fun l l' hl=>hl.elim,fun l e s n hl=>(by cases hl),fun l e s cs hl=>(by cases hl),fun l ag ks es hl=>(by cases hl),fun l e n hl=>(by cases hl),tE (hi.aside.glob.phi fun _ _ _ _ _=>rfl) fun _=>rfl⟩
 refine(h.2 w _ vs hi0 (rN _ _ ha hrp)).mono ?_;rintro e w' ⟨v,r,st',g',rfl,rfl,G9,_,he⟩;have hB:Below w.heap.size w w':=⟨he.os,he.tape,he.output,he.size,fun k hk=>(he.still k hk rfl).2⟩;exact⟨v,_,st,g,rfl,⟨rfl,rfl⟩,hr _ _ _ _ G9,wW hi hB,rX g hB⟩
def YG(k:Int)(p:LV×St):Bool:=match p.1 with
 |.atom (.int .i64 n)=>n==k
 |_=>false
def xIP(k:Int)(r:Option (List (LV×St))):Bool:=match r with
 |some l=>l.all (YG k)
 |none=>false
theorem yV⦃P:Program⦄{T:Tab}{fns:FuncId->Option Func}{pr:kC}(hT:aX P T)(hf:EN P fns)(hp:oF P pr)(hm:P.follows .mixedOrders=true)(n:Nat){f:FuncId}{args:List LV}{k:Int}{st:St}(ha:sU args=true)
 (h:xIP k (yC T fns pr n f args ⟨1,fun _=>.dead⟩)=true):aB P f args st fun r st'=>r=i k/\st'=st:=by
 cases hx:yC T fns pr n f args ⟨1,fun _=>.dead⟩ with
 |none=>rw[hx]at h;simp[xIP]at h
 |some l=>
  rw[hx]at h;simp only[xIP]at h;rw[aBG]at h;have:=qP hT hf hp (fun N c fr st L hx=>Be hT hf hp hm n N c fr st L hx) f args _ l hx;refine Cl ha (fun w g g' v h=>by simp only[Rep]at h ⊢;exact h) (this.mono ?_);intro r1 st1 hmm;have hb:=h _ hmm;unfold YG at hb
  split at hb
  .rename_i m c;simp only at c;rw[c,eq_of_beq hb]
  .cases hb
def UJ:Mp:=⟨Cg,[[2,7],[3,4],[5,6]]⟩
theorem JC(st:St):aB prog 11 [.ag (mpL UJ)] st fun r st'=>r=i 0/\st'=st:=
 yV nB PI GA mixed 1000000 (by kernel_rfl) (by kernel_rfl)
theorem Re(st:St):aB prog 35 [] st fun r st'=>r=bb true/\st'=st:=by
 refine zN func35 ntmps35 [.tmp 0] ?_
 (refine xj0 ?_;intro J hJ)
 refine qE (Sr _) (by simp[]) ?_;rintro r st' ⟨rfl,rfl⟩;exact OE hJ
theorem QY(st:St):aB prog 36 [] st fun r st'=>r=bb true/\st'=st:=by
 refine zN func36 ntmps36 [.tmp 0] ?_
 (refine xj0 ?_;intro J hJ)
 refine qE (Ud _) (by simp[]) ?_;rintro r st' ⟨rfl,rfl⟩;exact OE hJ
theorem Tm(st:St):aB prog 9 [] st fun r st'=>r=bb true/\st'=st:=by
 refine qT (Q:=fun r=>r=bb true) ?_ fun r h=>by subst h;trivial
 have hE1:=Jp Cg (by decide) (by decide) Pz;have hE2:=Jp eC (by decide) (by decide) xK;have hR:=fun s=>JC s;refine zN func9 ntmps9 [.tmp 0] ?_
 (refine xj0 ?_;intro J hJ)
 refine EB (hE1 _) (by simp[z0,z0L,grL,Cg,us,eds,edL]) ?_;rintro r s1 ⟨rfl,c8⟩;unfold Jr;have I7:=c8.next;simp only[aG]at I7
 (refine mS hJ ?_;intro J hJ)
 refine qE (Pp _) sS ?_;rintro r s2 ⟨rfl,o8⟩;have N8:=o8.next;simp only[aG]at N8;have hB2:s2.H s1.next=.box 28 3 (mpL UJ):=by rw[o8.H _ sS];simp[UJ]
 have hK2:aA st s2:=((((aA.new _ _).trans (aA.new _ _)).trans c8).trans (aA.new _ _)).trans o8;refine dA hJ ?_;refine qE (hE2 _) sS ?_;rintro r s3 ⟨rfl,u5⟩;unfold Jr;have hn3:=u5.next;have Z3:=(u5.H s1.next oO).trans hB2;have c1:¬s1.next=s3.next:=oO;have h3:UJ.g.es.length=3:=rfl
 (refine JP hJ Z3 c1 ?_;intro J hJ)
 refine xcP (hR _) ?_ (by simp[mpL,grL]);refine sL hJ Z3 c1 h3 ?_;refine xcP (Re _) ?_;refine sL hJ Z3 c1 h3 ?_;refine xcP (QY _) ?_;refine sL hJ Z3 c1 h3 ?_;exact(hK2.trans u5).trans (aA.new _ _)
structure GrF(g:Gr):Prop where
 rise:g.vs.Pairwise (· < ·)
 vpos:∀ v∈g.vs,1<=v/\v<=1048576
 ids:g.es.Pairwise fun x y=>x.id<y.id
 pos:∀ x∈g.es,1<=x.id/\x.id<=1048576
 ne:∀ x∈g.es,x.a≠x.b
 ends:∀ x∈g.es,x.a∈g.vs/\x.b∈g.vs
 l1:g.vs.length<=64
 l2:g.es.length<=160
theorem Sf{f:Nat->Int}{n:Nat}(h:bY f n=0):∀ j,j<n->f j=0:=by
 induction n with
 |zero=>omega
 |succ n ih=>
  grind [bY]
theorem sW(n a:Int)(b:Bool):fE n a b=0↔(1<=n/\n<=1048576)/\(b=false->a<n):=by
 grind [fE]
theorem EK{l:List Int}(h:∀ j,j<l.length->0<j->l.getD (j-1) 0<l.getD j 0):l.Pairwise (· < ·):=by
 have g:∀ j (hj:j<l.length),l.getD j 0=l[j]:=fun j hj=>by grind
 rw[aAz];intro a b ha hb v8;induction b with
 |zero=>omega
 |succ b ih=>
  grind
theorem gE(l:List Ed)(j:Nat)(hj:j<l.length):l.getD j ed0=l[j]:=by
 grind
theorem EA(g:Gr)(j:Nat)(x:Ed)(hx:g.es.getD j ed0=x):lQ g j=0↔((1<=x.id/\x.id<=1048576)/\(0<j->(g.es.getD (j-1) ed0).id<x.id))/\x.a≠x.b/\x.a∈g.vs/\x.b∈g.vs:=by
 grind [lQ,fE]
theorem nP{g:Gr}(h:chk g=0):GrF g:=by
 unfold chk at h;by_cases h1:64<g.vs.length\/160<g.es.length
 .omega
 rw[aAa h1]at h;by_cases h2:bY (kG g) g.vs.length=0;rotate_left
 .omega
 rw[aAa oO]at h;have gI:∀ j (hj:j<g.vs.length),g.vs.getD j 0=g.vs[j]:=fun j hj=>by grind
 have hV:=fun j hj=>(sW _ _ _).1 (Sf h2 j hj);have hE:=fun j hj=>(EA g j _ rfl).1 (Sf h j hj);have j5:∀ x∈g.es,∃ j,j<g.es.length/\g.es.getD j ed0=x:=fun x hx=>by obtain⟨j,hj,rfl⟩:=aAC hx;exact⟨j,hj,gE _ _ hj⟩
 refine⟨EK fun j hj h0=>(hV j hj).2 (by simp;omega),fun v hv=>?_,?_,fun x hx=>?_,fun x hx=>?_,fun x hx=>?_,oO,oO⟩
 .obtain⟨j,hj,rfl⟩:=aAC hv;simp_all
 .have:=EK (l:=g.es.map (·.id)) fun j hj h0=>by rw[aAB]at hj;have:=(hE j hj).1.2 h0;rw[gE _ _ hj,gE _ _ oO]at this;rw[aAg,aAh (by simp;omega),aAg,aAh (by simp_all)];simp_all
  rwa [aAV]at this
 .obtain⟨j,hj,rfl⟩:=j5 x hx;simp_all
 .obtain⟨j,hj,rfl⟩:=j5 x hx;simp_all
 .obtain⟨j,hj,rfl⟩:=j5 x hx;simp_all
theorem SF{g:Gr}(h:GrF g):chk g=0:=by
 have hl1:=h.l1;have hl2:=h.l2;have gI:∀ j (hj:j<g.vs.length),g.vs.getD j 0=g.vs[j]:=fun j hj=>by grind
 unfold chk;rw[aAa oO]
 have h2:bY (kG g) g.vs.length=0:=eK fun j hj=>(sW _ _ _).2 ⟨by rw[gI j hj];exact h.vpos _ (aAI _),fun h0=>by
  have h0:0<j:=by simp at h0;omega
  rw[gI j hj,gI _ oO]
  exact aAz.1 h.rise _ _ oO hj oO⟩
 rw[h2];simp only[ne_eq,aDQ,aBE];refine eK fun j hj=>(EA g j _ (gE _ _ hj)).2 ?_;have hm:g.es[j]∈g.es:=aAI _;refine⟨⟨h.pos _ hm,fun h0=>?_⟩,h.ne _ hm,(h.ends _ hm).1,(h.ends _ hm).2⟩;rw[gE _ _ oO];exact aAz.1 h.ids _ _ oO hj oO
theorem NW(l:List Ed)(p:Ed->Bool)(k:Nat)(hk:k<l.length):(l.take (k+1)).any p=((l.take k).any p||p (l.getD k ed0)):=by rw[aAs hk,List.any_append,aAg,aAh hk];simp
theorem Eo(l:List Int)(p:Int->Bool)(k:Nat)(hk:k<l.length):(l.take (k+1)).filter p=(l.take k).filter p++if p (l.getD k 0)=true then [l.getD k 0]else []:=by rw[aAs hk,aCy,aAg,aAh hk];by_cases h:p l[k]=true<;>simp[h]
theorem Et{st:St}{a b:Nat}{x y:cI}(ha:st.H a=x)(hb:st.H b=y)(h:x≠y):¬a=b:=fun e=>h (by rw[<- ha,e,hb])
def B5(t:Nat)(lo:St)(l:List Int)(st:St):Prop:=t≠0/\lo.next<=t/\t<st.next/\st.H t=.own 34 1 l.length
def ZB(l:List Int):LV:=.sl 0 l.length (us l)
def Rx(R:List (List Int)):List LV:=R.map ZB
@[simp] theorem Xw(R:List (List Int)):(Rx R).length=R.length:=by simp[Rx]
def mE(v:Int)(x:Ed):Bool:=x.a==v||x.b==v
def CU(p:Int->Bool)(B:Int)(mes:List (List Int×LV)):Prop:=∀ v,∃ c:Int,(bN mes [v]).getD (i 0)=i c/\0<=c/\c<=B/\(0<c↔p v=true)
theorem CU.one{p:Int->Bool}{B:Int}{mes:List (List Int×LV)}(h:CU p B mes)(a:Int){c:Int}(hc:(bN mes [a]).getD (i 0)=i c):CU (fun v=>p v||v==a) (B+1) (bQ mes [a] (i (c+1))):=by
 intro v;obtain⟨c0,h1,h2,h3,h4⟩:=h v;rw[rY];by_cases hv:v=a
 .subst hv;rw[hc]at h1;have hcc:c=c0:=by injection h1 with h1;injection h1
  subst hcc;exact⟨c+1,sS,oO,oO,by simp;omega⟩
 .rw[aAa (by simpa using hv)];refine⟨c0,h1,h2,oO,?_⟩;simp[hv,h4]
theorem Zp(g:Gr)(st:St)(hv:g.vs.length<=1000)(he:g.es.length<=1000)(hp:0<st.next):
 aB prog 90 [.ag (grL g)] st fun r st'=>r=.ag (grL ⟨g.vs.filter fun v=>g.es.any (mE v),g.es⟩)/\aA st st':=by
 refine cZ ?_;have hel:=aI g.es;refine zN func90 ntmps90 [.cell 2 25] ?_;refine xw0 ?_;refine bD 13 12 14 27 (g.es.length) (fun j fr st2=>fr 1=.pt st.next 0/\fr 2=.pt (st.next+1) 0/\fr 3=.mp (st.next+2)/\fr 11=.sl 0 g.es.length (eds g.es)/\st2.H st.next=.box 25 2 (grL g)/\st2.H (st.next+1)=.box 25 2 [.nil,.nil]/\st.next+2<st2.next/\aA st st2/\∃ mes,st2.H (st.next+2)=.map false [.u32] mes/\CU (fun v=>(g.es.take j).any (mE v)) (2*j) mes) ?_ ?_ ?_
 .have e1:¬st.next=st.next+1+1:=oO;refine⟨sS,sS,sS,sS,sF1 e1,sS,sS,((aA.new _ _).trans (aA.new _ _)).trans (aA.new _ _),[],sS,fun v=>⟨0,by simp[bN],oO,oO,sS⟩⟩
 .rintro j fr s dG ⟨f1,f2,f3,f11,hG,h2,T0,o9,mes,hM,hC⟩ fi fn J hJ;have hd:=aL g.es j dG;have u5:j*3<g.es.length*3:=oO;have han:=fun v=>NW g.es (mE v) j dG;generalize g.es.getD j ed0=x at *;obtain⟨d,a,b⟩:=x;obtain⟨c,c1,c2,c3,-⟩:=hC a;have hC2:=hC.one a c1;obtain⟨c',c1',c2',c3',-⟩:=hC2 b;have hC3:=hC2.one b c1';have w1:IntKind.i64.wrap (c+1)=c+1:=zW;have w2:IntKind.i64.wrap (c'+1)=c'+1:=zW;have e1:¬st.next+2=s.next:=oO;have e2:¬s.next=st.next+2:=oO;refine YU hJ f1 f3 f11 fi fn hd hel u5 dG hM c1 c1' w1 w2 e1 e2 ?_;refine hJ _ _ (sF1 fi) (sF1 fn) ⟨sF1 f1,sF1 f2,sF1 f3,sF1 f11,?_,?_,by simp;omega,?_,bQ (bQ mes [a] (i (c+1))) [b] (i (c'+1)),sS,fun v=>?_⟩
  ·(repeat (first|rw[nHh nOo]|rw[sHh oO]|rw[nIi nQq]|rw[sIi oO]));exact hG
  ·(repeat (first|rw[nHh nOo]|rw[sHh oO]|rw[nIi nQq]|rw[sIi oO]));exact h2
  .refine⟨by have:=o9.next;simp;omega,fun l hl=>?_⟩
   (repeat (first|rw[nHh nOo]|rw[sHh oO]|rw[nIi nQq]|rw[sIi oO]));exact o9.H l hl
  .obtain⟨cv,k1,k2,k3,k4⟩:=hC3 v;refine⟨cv,k1,k2,oO,?_⟩;rw[k4];dsimp only;rw[han v];simp only[mE,Bool.or_assoc];rw[show(v==a)=(a==v) from by rw[Bool.eq_iff_iff];simp;exact eq_comm,show(v==b)=(b==v) from by rw[Bool.eq_iff_iff];simp;exact eq_comm]
 .rintro fr s ⟨f1,f2,f3,f11,hG,h2,T0,o9,mes,hM,hC⟩;rw[aBe]at hC
  (refine xj2 f1 hG ?_;intro J hJ)
  refine qE (RO g.es 0 _ oO) sS ?_;rintro r s1 ⟨rfl,c8⟩;have I7:=c8.next;have V3:=(c8.H st.next oO).trans hG;have h21:=(c8.H (st.next+1) oO).trans h2;have hM1:=(c8.H (st.next+2) oO).trans hM;have Z6:st.next+2<s1.next:=oO;have e1:¬st.next=s1.next:=oO;have e2:¬st.next+1=s1.next:=oO;have e3:¬st.next+2=s1.next:=oO;have e4:¬st.next=s1.next+1:=oO;refine sL hJ V3 e1 f1 ?_;refine AZ s1.next 34 1 (e:=25) (s:=2) [] [.sl 0 g.es.length (eds g.es)] sS ?_;refine bD 35 34 36 49 (g.vs.length) (fun j fr st2=>fr 2=.pt (st.next+1) 0/\fr 3=.mp (st.next+2)/\fr 6=.pt s1.next 0/\fr 33=.sl 0 g.vs.length (us g.vs)/\st2.H (st.next+1)=.box 25 2 [.nil,.nil]/\st2.H (st.next+2)=.map false [.u32] mes/\s1.next<st2.next/\aA st st2/\∃ t,st2.H s1.next=.box 25 2 [.sl t ((g.vs.take j).filter fun v=>g.es.any (mE v)).length (us ((g.vs.take j).filter fun v=>g.es.any (mE v))),.sl 0 g.es.length (eds g.es)]/\B5 t st ((g.vs.take j).filter fun v=>g.es.any (mE v)) st2) ?_ ?_ ?_
  .refine⟨sF1 f2,sF1 f3,sS,sS,?_,?_,by simp;omega,?_,s1.next+1,sS,⟨oO,oO,sS,sS⟩⟩
   ·(repeat (first|rw[nHh nOo]|rw[sHh oO]|rw[nIi nQq]|rw[sIi oO]));exact h21
   ·(repeat (first|rw[nHh nOo]|rw[sHh oO]|rw[nIi nQq]|rw[sIi oO]));exact hM1
   .refine⟨by have:=o9.next;simp;omega,fun l hl=>?_⟩;have:=o9.next
    (repeat (first|rw[nHh nOo]|rw[sHh oO]|rw[nIi nQq]|rw[sIi oO]));rw[c8.H l oO];exact o9.H l hl
  .clear f1 f2 f3 f11 hG h2 T0 o9 hM fr;rintro j fr s2 dG ⟨f2,f3,f6,f33,h22,Q7,X0,o9,t,hB,t1,t2,t3,t4⟩ fi fn J hJ;have hd:=qG g.vs j dG;have C9:=Eo g.vs (fun v=>g.es.any (mE v)) j dG;have U4:=aAU (fun v=>g.es.any (mE v)) (g.vs.take j);rw[aAw]at U4;generalize g.vs.getD j 0=v at *;generalize (g.vs.take j).filter (fun v=>g.es.any (mE v))=F at *;obtain⟨c,c1,c2,c3,c4⟩:=hC v;cases hany:g.es.any (mE v)
   .have hc:¬0<c:=fun h=>by have h2:=c4.1 h;simp only[hany]at h2;cases h2
    rw[hany,aAa sS,aAO]at C9;refine E9 hJ f3 f33 fi fn hd dG Q7 c1 hc ?_;exact hJ _ _ (sF1 fi) (sF1 fn) ⟨sF1 f2,sF1 f3,sF1 f6,sF1 f33,h22,Q7,X0,o9,t,by rw[C9];exact hB,by rw[C9];exact⟨t1,t2,t3,t4⟩⟩
   .have hc:0<c:=c4.2 hany;rw[hany,aAj rfl]at C9;have q1:¬t=s2.next:=oO;have q2:¬s1.next=s2.next:=oO;have q3:¬s1.next=s2.next+1:=oO;have q4:¬s1.next=t:=Et hB t4 sS;have q5:¬st.next+1=t:=Et h22 t4 sS;have q6:¬st.next+2=t:=Et Q7 t4 sS
    (repeat' (first|apply qS|(apply qC;simp[f3,f6,f33,fi,fn,hd,dG,Q7,c1,hc,hB,t4,q1,q2,q3,q4,t1])|(refine zE ?_;intro J hJ;simp[f3,f6,f33,fi,fn,hd,dG,Q7,c1,hc,hB,t4,q1,q2,q3,q4,t1];(repeat refine ca ?_);(refine zJ hJ ?_;clear hJ J))))
    refine hJ _ _ (sF1 fi) (sF1 fn) ⟨sF1 f2,sF1 f3,sF1 f6,sF1 f33,?_,?_,by simp;omega,?_,s2.next+1,by rw[C9];simp,by rw[C9];exact⟨oO,oO,sS,by(repeat (first|rw[nHh nOo]|rw[sHh oO]|rw[nIi nQq]|rw[sIi oO]));simp⟩⟩
    ·(repeat (first|rw[nHh nOo]|rw[sHh oO]|rw[nIi nQq]|rw[sIi oO]));exact h22
    ·(repeat (first|rw[nHh nOo]|rw[sHh oO]|rw[nIi nQq]|rw[sIi oO]));exact Q7
    .refine⟨by have:=o9.next;simp;omega,fun l hl=>?_⟩;have:=o9.next
     (repeat (first|rw[nHh nOo]|rw[sHh oO]|rw[nIi nQq]|rw[sIi oO]));exact o9.H l hl
  .clear f1 f2 f3 f11 hG h2 T0 o9 hM fr;rintro fr s2 ⟨f2,f3,f6,f33,h22,Q7,X0,o9,t,hB,t1,t2,t3,t4⟩;rw[aBe]at hB;refine xw5 f2 f6 h22 hB e2 ?_;refine⟨?_,o9.set oO _⟩;simp only[z0,z0L,yF,nS]
def dW(L:Gr)(x:Ed):Gr:=⟨L.vs,L.es.filter fun y=>decide (y≠x)⟩
def bV(P:Gr->Bool):Gr->List Ed->Gr
 |L,[]=>L
 |L,x::xs=>bV P (if P (dW L x)=true then dW L x else L) xs
def qU(P:Gr->Bool)(D:Gr->Prop):Gr->List Ed->Prop
 |_,[]=>True
 |L,x::xs=>D (dW L x)/\qU P D (if P (dW L x)=true then dW L x else L) xs
def lV(g:Gr):Gr:=⟨g.vs.filter fun v=>g.es.any (mE v),g.es⟩
theorem PM{g:Gr}(hg:GrF g){F:List Ed}(hF:F.Sublist g.es):chk (lV ⟨g.vs,F⟩)=0:=by
 refine SF ⟨hg.rise.sublist aAP,fun v hv=>hg.vpos v (aAy.1 hv).1,hg.ids.sublist hF,fun x hx=>hg.pos x (hF.subset hx),fun x hx=>hg.ne x (hF.subset hx),fun x hx=>?_,?_,?_⟩
 .obtain⟨h1,h2⟩:=hg.ends x (hF.subset hx);refine⟨aAy.2 ⟨h1,aDy.2 ⟨x,hx,by simp[mE]⟩⟩,aAy.2 ⟨h2,aDy.2 ⟨x,hx,by simp[mE]⟩⟩⟩
 .have:=hg.l1;grind [lV]
 .have:=hg.l2;grind [lV]
theorem rO(g:Gr)(hv:g.vs.length<=1000)(he:g.es.length<=200){o:Option Mp}(ho:(if chk g=0 then iA g (aP g)else some none)=some o)(st:St):
 aB prog 12 [.ag (grL g)] st fun r st'=>r=bb o.isSome/\aA st st':=by
 refine zN func12 ntmps12 [.tmp 2] ?_
 (refine xj0 ?_;intro J hJ)
 refine qE (Jp g hv he ho _) sS ?_;rintro r s1 ⟨rfl,c8⟩;unfold Jr;cases o with
 |none=>refine dA hJ ?_;exact((aA.new _ _).trans c8).trans (aA.new _ _)
 |some m=>refine dA hJ ?_;exact((aA.new _ _).trans c8).trans (aA.new _ _)
def YD(f:FuncId)(IQ:List LV)(st:St)(D:Gr->Prop)(P:Gr->Bool):Prop:=∀ g,D g->∀ s,aA st s->aB prog f (.ag (grL g)::IQ) s fun r s'=>r=bb (P g)/\aA s s'
theorem VL(x:Ed)(st:St):aB prog 88 [.ag (edL x)] st fun r st'=>r=bb true/\aA st st':=by obtain⟨d,a,b⟩:=x;refine zN func88 ntmps88 [.tmp 2] ?_;refine xw0 ?_;exact aA.new _ _
theorem Us(x y:Ed)(q:Nat)(st:St)(hq:st.H q=.box 36 3 (edL x))(V6:q<st.next):
 aB prog 89 [.ag (edL y),.pt q 0] st fun r st'=>r=bb (decide (y≠x))/\aA st st':=by
 obtain⟨d,a,b⟩:=x;obtain⟨d',a',b'⟩:=y;have h1:¬q=st.next:=oO;refine zN func89 ntmps89 [.tmp 3] ?_;refine xw2 hq h1 ?_;exact⟨rfl,aA.new _ _⟩
theorem Xp(g:Gr)(f:FuncId)(IQ:List LV)(P:Gr->Bool)(D:Gr->Prop)(st:St)(hv:g.vs.length<=1000)(he:g.es.length<=1000)(hp:0<st.next)(hT:YD f IQ st D P)(hD:D g)(hA:P g=true->qU P D g g.es):
 aB prog 49 [.ag (grL g),.fn (.func f) IQ] st fun r st'=>r=.ag (grL (if P g=true then lV (bV P g g.es)else⟨[],[]⟩))/\aA st st':=by
 refine cZ ?_;have hel:=aI g.es;refine zN func49 ntmps49 [.cell 4 25] ?_
 (refine xj0 ?_;intro J hJ)
 refine qE (GU g _ [] (fun _=>true) _ hv he (fun x _ s _=>VL x s)) (by simp[grL]) ?_;rintro r s1 ⟨rfl,c8⟩;rw[aCs.2 (fun _ _=>rfl)];have I7:=c8.next;simp only[aG]at I7;have V3:s1.H st.next=.box 25 2 (grL g):=by rw[c8.H _ (by simp;omega)];simp
 have hR1:s1.H (st.next+1)=.box 25 2 [.nil,.nil]:=by rw[c8.H _ sS];simp
 have hK1:aA st s1:=((aA.new _ _).trans (aA.new _ _)).trans c8;have a1:¬st.next=s1.next:=oO;have a2:¬st.next+1=s1.next:=oO;clear c8
 (refine mS hJ ?_;intro J hJ)
 refine qF (hT g hD _ (hK1.trans (aA.new _ (.box 25 2 (grL g))))) ?_;rintro r s2 ⟨rfl,o8⟩;have N8:=o8.next;simp only[aG]at N8;have hG2:s2.H st.next=.box 25 2 (grL g):=by rw[o8.H _ (by simp;omega)];simp[a1,V3]
 have hR2:s2.H (st.next+1)=.box 25 2 [.nil,.nil]:=by rw[o8.H _ (by simp;omega)];simp[a2,hR1]
 have hL2:s2.H s1.next=.box 25 2 (grL g):=by rw[o8.H _ sS];simp
 have hK2:aA st s2:=(hK1.trans (aA.new _ _)).trans o8;clear o8 V3 hR1;cases hP:P g with
 |false=>refine pD hJ hP hR2 ?_;refine⟨by simp[z0,z0L,grL],hK2.set oO _⟩
 |true=>
 refine pD hJ hP hG2 ?_;refine bD 19 18 20 30 (g.es.length) (fun j fr st2=>fr 1=.fn (.func f) IQ/\fr 4=.pt (st.next+1) 0/\fr 5=.pt s1.next 0/\fr 17=.sl 0 g.es.length (eds g.es)/\st2.H (st.next+1)=.box 25 2 [.nil,.nil]/\s1.next<st2.next/\aA st st2/\∃ L:Gr,st2.H s1.next=.box 25 2 (grL L)/\L.vs.length<=g.vs.length/\L.es.length<=g.es.length/\qU P D L (g.es.drop j)/\bV P L (g.es.drop j)=bV P g g.es) ?_ ?_ ?_
 .exact⟨sS,sS,sS,sS,hR2,oO,hK2,g,hL2,aAm _,aAm _,by simpa using hA hP,sS⟩
 .clear hG2 hR2 hL2;rintro j fr s dG ⟨f1,f4,f5,f17,hR,T0,hK,L,hL,hLv,hLe,hAs,hLe2⟩ fi fn JO hJO;have hd:=aL g.es j dG;have X6:g.es.drop j=g.es.getD j ed0::g.es.drop (j+1):=by rw[aAg,aAh dG];exact aAL dG
  rw[X6]at hAs hLe2;have u5:j*3<g.es.length*3:=oO;generalize g.es.getD j ed0=x at *;obtain⟨hDx,hAs⟩:=hAs;simp only[bV]at hLe2;have b1:¬s1.next=s.next:=oO;have U4:=aAU (fun y:Ed=>decide (y≠x)) L.es;have hTe:DV 89 [.pt s.next 0] (s.new (.box 36 3 (edL x))) L.es fun y=>decide (y≠x):=fun y _ s2 h2=>Us x y s.next s2 (by rw[h2.H _ sS];simp) (by have:=h2.next;simp at this;omega);obtain⟨dx,ax,bx⟩:=x
  (refine Yh f1 f5 f17 fi fn hd hel dG u5 hL b1 ?_;intro J hJ)
  refine qE (GU L _ _ _ _ oO oO hTe) (by simp[grL]) ?_;rintro r s3 ⟨rfl,Q6⟩;have hn3:=Q6.next;simp only[aG]at hn3;have hR3:s3.H (st.next+1)=.box 25 2 [.nil,.nil]:=by rw[Q6.H _ (by simp;omega)];simp[show ¬st.next+1=s.next by omega,hR]
  have hL3:s3.H s1.next=.box 25 2 (grL L):=by rw[Q6.H _ (by simp;omega)];simp[b1,hL]
  have hK3:aA st s3:=(hK.trans (aA.new _ _)).trans Q6;clear Q6 hL hR;have c1:¬s1.next=s3.next:=oO;have c2:¬st.next+1=s3.next:=oO;change qU P D (if P (dW L ⟨dx,ax,bx⟩)=true then dW L ⟨dx,ax,bx⟩else L) (g.es.drop (j+1))at hAs;have hlg:(⟨L.vs,L.es.filter fun y=>decide (y≠⟨dx,ax,bx⟩)⟩:Gr)=dW L ⟨dx,ax,bx⟩:=rfl;have hlv:(dW L ⟨dx,ax,bx⟩).vs.length<=g.vs.length:=hLv;have u7:(dW L ⟨dx,ax,bx⟩).es.length<=g.es.length:=by unfold dW;simp only;omega
  rw[hlg];generalize dW L ⟨dx,ax,bx⟩=L' at *
  (refine FQ hJ f1 ?_;intro J hJ)
  refine qF (hT L' hDx _ (hK3.trans (aA.new _ (.box 25 2 (grL L'))))) ?_;rintro r s4 ⟨rfl,I3⟩;have hn4:=I3.next;simp only[aG]at hn4;have hR4:s4.H (st.next+1)=.box 25 2 [.nil,.nil]:=by rw[I3.H _ (by simp;omega)];simp[c2,hR3]
  have hL4:s4.H s1.next=.box 25 2 (grL L):=by rw[I3.H _ (by simp;omega)];simp[c1,hL3]
  have hX4:s4.H s3.next=.box 25 2 (grL L'):=by rw[I3.H _ sS];simp
  have hK4:aA st s4:=(hK3.trans (aA.new _ _)).trans I3;clear I3;cases hPx:P L' with
  |false=>rw[hPx,aAa sS]at hAs hLe2;refine dA hJ ?_;exact hJO _ _ (sF1 fi) (sF1 fn) ⟨sF1 f1,sF1 f4,sF1 f5,sF1 f17,hR4,oO,hK4,L,hL4,hLv,hLe,hAs,hLe2⟩
  |true=>rw[hPx,aAj rfl]at hAs hLe2;have c3:¬st.next+1=s1.next:=oO;refine sL hJ f5 hX4 hL4 ?_;exact hJO _ _ (sF1 fi) (sF1 fn) ⟨sF1 f1,sF1 f4,sF1 f5,sF1 f17,sF2 c3 hR4,by simp;omega,hK4.set oO _,L',sS,hlv,u7,hAs,hLe2⟩
 .rintro fr s ⟨f1,f4,f5,f17,hR,T0,hK,L,hL,hLv,hLe,hAs,hLe2⟩;rw[aDW]at hLe2;simp only[bV]at hLe2;rw[<- hLe2]
  (refine xj2 f5 hL ?_;intro J hJ)
  refine qE (Zp L _ oO oO oO) (by simp[grL]) ?_;rintro r s3 ⟨rfl,u5⟩;have hR3:=(u5.H (st.next+1) oO).trans hR;refine pD hJ f4 hR3 ?_;refine⟨by simp only[z0,z0L,grL,lV,yF,nS],(hK.trans u5).set oO _⟩
noncomputable def wY(g:Gr):Option (Option Mp):=if chk g=0 then iA g (aP g)else some none
noncomputable def dB(g:Gr):Bool:=!((wY g).getD none).isSome
def Mu(g:Gr):Prop:=g.vs.length<=1000/\g.es.length<=200/\∃ o,wY g=some o
theorem Xl(g:Gr)(hD:Mu g)(st:St):aB prog 50 [.ag (grL g)] st fun r st'=>r=bb (dB g)/\aA st st':=by
 obtain⟨hv,he,o,ho⟩:=hD;have hn:dB g=!o.isSome:=by unfold dB;rw[ho];rfl
 rw[hn];refine zN func50 ntmps50 [.tmp 2] ?_
 (refine xj0 ?_;intro J hJ)
 refine qE (rO g hv he ho _) sS ?_;rintro r s1 ⟨rfl,c8⟩;refine dA hJ ?_;exact(aA.new _ _).trans c8
noncomputable def oZ(g:Gr):LV:=.tu [.ag (grL (if chk g=0/\dB g=true then lV (bV dB g g.es)else⟨[],[]⟩)),bb (decide (chk g=0)&&dB g)]
theorem SE(g:Gr)(hD:Mu g)(hA:dB g=true->qU dB Mu g g.es)(st:St)(hp:0<st.next):
 aB prog 24 [.ag (grL g)] st fun r st'=>r=oZ g/\aA st st':=by
 obtain⟨hv,he,o,ho⟩:=hD;have hn:dB g=!o.isSome:=by unfold dB;rw[ho];rfl
 refine cZ ?_;refine zN func24 ntmps24 [.cell 2 25,.tmp 3] ?_
 (refine xj0 ?_;intro J hJ)
 refine qE (Check g _ hv oO) sS ?_;rintro r s1 ⟨rfl,c8⟩;have I7:=c8.next;simp only[aG]at I7;have V3:s1.H st.next=.box 25 2 (grL g):=by rw[c8.H _ (by simp;omega)];simp
 have hR1:s1.H (st.next+1)=.box 25 2 [.nil,.nil]:=by rw[c8.H _ sS];simp
 have hK1:aA st s1:=((aA.new _ _).trans (aA.new _ _)).trans c8;clear c8;by_cases hc:chk g=0;rotate_left
 .have hc2:(chk g != 0)=true:=by simpa using hc
  have hfr:oZ g=.tu [.ag (grL ⟨[],[]⟩),bb false]:=by unfold oZ;rw[aAa fun h=>hc h.1,aCj hc];rfl
  refine pD hJ hc2 hR1 ?_;refine⟨by rw[hfr];simp[z0,z0L,grL],hK1.set oO _⟩
 have hc2:(chk g != 0)=false:=by simpa using hc
 refine pD hJ hc2 V3 ?_;refine qE (rO g hv he ho _) sS ?_;rintro r s2 ⟨rfl,o8⟩;have N8:=o8.next;have hG2:s2.H st.next=.box 25 2 (grL g):=(o8.H _ oO).trans V3;have hR2:s2.H (st.next+1)=.box 25 2 [.nil,.nil]:=(o8.H _ oO).trans hR1;have hK2:aA st s2:=hK1.trans o8;clear o8;cases o with
 |some m=>
  have hnf:dB g=false:=hn;have hfr:oZ g=.tu [.ag (grL ⟨[],[]⟩),bb false]:=by unfold oZ;rw[aAa fun h=>by rw[hnf]at h;exact absurd h.2 sS,hnf];simp
  refine pD hJ hc2 hR2 ?_;refine⟨by rw[hfr];simp[z0,z0L,grL],hK2.set oO _⟩
 |none=>
  have hnt:dB g=true:=hn;have hfr:oZ g=.tu [.ag (grL (lV (bV dB g g.es))),bb true]:=by unfold oZ;rw[aAj ⟨hc,hnt⟩,hnt,aBQ hc];rfl
  (refine JP hJ hc2 hG2 ?_;intro J hJ)
  refine qE (Xp g 50 [] dB Mu _ hv oO oO (fun g' hg' s _=>Xl g' hg' s) ⟨hv,he,none,ho⟩ hA) sS ?_;rintro r s3 ⟨rfl,u5⟩;rw[aAj hnt];have hR3:s3.H (st.next+1)=.box 25 2 [.nil,.nil]:=(u5.H _ oO).trans hR2;refine pN hJ hR3 ?_;refine⟨by rw[hfr];simp only[z0,z0L,grL,yF,nS],(hK2.trans u5).set oO _⟩
theorem Dn{P:Gr->Bool}{D:Gr->Prop}{L:Gr}:∀ {xs:List Ed},(∀ x∈xs,D (dW L x)/\P (dW L x)=false)->qU P D L xs/\bV P L xs=L
 |[],_=>⟨trivial,rfl⟩
 |x::xs,h=>by obtain⟨h1,h2⟩:=h x sS;have ih:=Dn (L:=L) fun y hy=>h y (aAc _ hy);simp only[qU,bV,h2,aBb,aBE];exact⟨⟨h1,ih.1⟩,ih.2⟩
def Xi(g:Gr):Bool:=decide (chk g=0)&&decide ((sQ (sE g.es) g.vs.length g.vs ⟨[],[],[],[]⟩).map (·.out)=some [List.range (sE g.es).length])&&decide ((List.range (sE g.es).length).map (eAt (sE g.es))=g.es)&&decide (((iA g [g.es]).map Option.isSome)=some true)
theorem QK{g:Gr}(h:Xi g=true):∃ m,wY g=some (some m):=by
 unfold Xi at h;simp only[aAW,aBx]at h;obtain⟨⟨⟨h1,h2⟩,h3⟩,h4⟩:=h;unfold wY;rw[aAj h1,sG (eT h1) h2 (aDn _) sS];simp only[aAl,aCx,h3];cases he:iA g [g.es] with
 |none=>rw[he]at h4;cases h4
 |some o=>
  rw[he]at h4;cases o with
  |none=>cases h4
  |some m=>exact⟨m,rfl⟩
theorem OU:(eC.es.all fun x=>Xi (dW eC x))=true:=by decide +kernel
theorem DD:dB eC=true:=by unfold dB wY;rw[xK];rfl
theorem Dq:qU dB Mu eC eC.es/\bV dB eC eC.es=eC:=by refine Dn fun x hx=>?_;obtain⟨m,hm⟩:=QK (aBG.1 OU x hx);have hl:=aAU (fun y:Ed=>decide (y≠x)) eC.es;have hl2:eC.es.length=10:=rfl;have hl3:(dW eC x).vs.length=5:=rfl;refine⟨⟨oO,by simp only[dW];omega,_,hm⟩,?_⟩;unfold dB;rw[hm];rfl
theorem NM:lV eC=eC:=by decide
def MS:Gr:=⟨[1],[]⟩
theorem GS:chk MS=0:=by decide +kernel
theorem ID:wY MS=some (some ⟨MS,[[]]⟩):=by unfold wY;rw[aAj GS,sG (eT GS) (out:=[]) (by decide +kernel) (aDn _) (by decide)];rfl
theorem CV:dB MS=false:=by unfold dB;rw[ID];rfl
theorem Uf(st:St):aB prog 47 [] st fun r st'=>r=bb true/\st'=st:=by
 refine zN func47 ntmps47 [.tmp 0] ?_
 (refine xj0 ?_;intro J hJ)
 refine qE (Tm _) (by simp[]) ?_;rintro r st' ⟨rfl,rfl⟩;exact OE hJ
theorem VQ(st:St):aB prog 23 [] st fun r st'=>r=bb true/\st'=st:=by
 refine qT (Q:=fun r=>r=bb true) ?_ fun r h=>by subst h;trivial
 refine zN func23 ntmps23 [.tmp 0] ?_;refine iF fun M3=>?_
 (refine xj0 ?_;intro J hJ)
 refine qE (Pp _) sS ?_;rintro r s1 ⟨rfl,c8⟩;have I7:=c8.next;have hF:=SE eC ⟨by decide,by decide,none,by unfold wY;exact xK⟩ (fun _=>Dq.1) s1 oO;unfold oZ at hF;rw[aAj ⟨rT,DD⟩,DD,Dq.2,NM,aBQ rT]at hF;refine dA hJ ?_;refine qE hF sS ?_;rintro r s2 ⟨rfl,o8⟩;have N8:=o8.next;have hF1:=fun st hp=>SE MS ⟨by decide,by decide,_,ID⟩ (fun h=>by rw[CV]at h;cases h) st hp;unfold oZ at hF1;rw[aAa fun h=>by rw[CV]at h;exact absurd h.2 sS,CV,Bool.and_false]at hF1
 (refine mS hJ ?_;intro J hJ)
 refine EB (hF1 _ sS) (by simp[z0,z0L,grL,MS,us,eds]) ?_;rintro r s3 ⟨rfl,u5⟩;have hn3:=u5.next;simp only[aG]at hn3;have Z3:s3.H s2.next=.box 25 2 (grL eC):=by rw[u5.H _ (by simp;omega)];simp[show ¬s2.next=s2.next+1 by omega]
 have hK3:aA st s3:=((c8.trans o8).trans ((aA.new _ _).trans (aA.new _ _))).trans u5;have b1:¬s2.next=s3.next:=oO;refine dA hJ ?_
 (refine zS [] [s2.next] [0,2,4,6,9,10,12,14,16,18,20,22,24,26] ?_;intro J hJ;simp[Z3,b1])
 refine qD (Pp _) sS ?_;rintro r s4 ⟨rfl,I3⟩;have hn4:=I3.next;simp only[aG]at hn4;have hB4:s4.H s2.next=.box 25 2 (grL eC):=by rw[I3.H _ (by simp;omega)];simp[b1,Z3]
 refine⟨fun _=>by simp[hB4,Z3,b1],?_⟩
 (apply bI;simp[hB4])
 refine qD (NV eC eC _ (by decide) (by decide)) sS ?_;rintro r s5 ⟨rfl,hk5⟩;have hB5:=(hk5.H s2.next oO).trans hB4;refine⟨fun _=>by simp[hB5,Z3,b1],?_⟩
 (apply bI;simp[hB5])
 refine xdP (Uf _) ?_;refine⟨fun _=>by simp[hB5,Z3,b1],?_⟩
 (apply bI;simp[hB5];(refine zJ hJ ?_;clear hJ J))
 refine xw0 ?_;exact((hK3.trans (aA.new _ _)).trans I3).trans hk5
theorem nL(P:Gr->Bool):∀(xs:List Ed) (L:Gr),(bV P L xs).vs=L.vs/\(bV P L xs).es.Sublist L.es
 |[],L=>⟨rfl,aCT _⟩
 |x::xs,L=>by
  unfold bV
  split
  .have:=nL P xs (dW L x);exact⟨this.1,this.2.trans aAP⟩
  .exact nL P xs L
theorem tW(P:Gr->Bool):∀(xs:List Ed) (L:Gr),P L=true->P (bV P L xs)=true
 |[],L,h=>h
 |x::xs,L,h=>by
  unfold bV
  split
  .rename_i k;exact tW P xs _ k
  .exact tW P xs L h
theorem xO(P:Gr->Bool)(vs:List Int)(T:List Ed)(hm:∀ A B:List Ed,A.Sublist T->B.Sublist T->(∀ e∈A,e∈B)->P ⟨vs,A⟩=true->P ⟨vs,B⟩=true):
 ∀(xs:List Ed) (L:Gr),L.vs=vs->L.es.Sublist T->∀ x∈xs,x∈(bV P L xs).es->P (dW (bV P L xs) x)=false
 |[],_,_,_,x,h,_=>by cases h
 |y::xs,L,hv,hT,x,hx,hR=>by
  unfold bV at hR ⊢
  split at hR<;>rename_i k
  .rw[aAj k];rcases aAe.1 hx with rfl|hx
   .have:=(nL P xs (dW L x)).2.subset hR;exact absurd (aAy.1 this).2 sS
   .exact xO P vs T hm xs (dW L y) hv (aAP.trans hT) x hx hR
  .rw[aAa k];rcases aAe.1 hx with rfl|hx
   .obtain⟨h1,h2⟩:=nL P xs L;refine Bool.eq_false_iff.2 fun h=>k ?_;have e1:dW (bV P L xs) x=⟨vs,(bV P L xs).es.filter fun y=>decide (y≠x)⟩:=by unfold dW;rw[h1,hv]
    have e2:dW L x=⟨vs,L.es.filter fun y=>decide (y≠x)⟩:=by unfold dW;rw[hv]
    rw[e1]at h;rw[e2];refine hm _ _ (aAP.trans (h2.trans hT)) (aAP.trans hT) (fun e he=>?_) h;obtain⟨h3,h4⟩:=aAy.1 he;exact aAy.2 ⟨h2.subset h3,h4⟩
   .exact xO P vs T hm xs L hv hT x hx hR
theorem Bt{P:Gr->Bool}{D:Gr->Prop}(vs:List Int)(T:List Ed)(hD:∀ A:List Ed,A.Sublist T->D ⟨vs,A⟩):∀(xs:List Ed) (L:Gr),L.vs=vs->L.es.Sublist T->qU P D L xs
 |[],_,_,_=>trivial
 |x::xs,L,hv,hT=>by
  have e:dW L x=⟨vs,L.es.filter fun y=>decide (y≠x)⟩:=by unfold dW;rw[hv]
  unfold qU;refine⟨by rw[e];exact hD _ (aAP.trans hT),?_⟩
  split
  .exact Bt vs T hD xs _ hv (aAP.trans hT)
  .exact Bt vs T hD xs L hv hT
end Aw
namespace Aw
open Go Go.RowKit Pl Eu
theorem pK{R S:Int->Int->Prop}:∀ {l:List Int},(∀ x∈l,∀ y∈l,R x y->S x y)->ncl S l<=ncl R l
 |[],_=>aAm _
 |x::l,h=>by
  have ih:=pK (R:=R) (S:=S) (l:=l) fun a ha b hb=>h a (aAc _ ha) b (aAc _ hb);by_cases hx:∃ y∈l,S y x
  .rw[aW hx];refine aBa ih ?_;simp only[ncl];exact aDZ _ _
  .rw[aO hx,aO fun⟨y,hy,hr⟩=>hx ⟨y,hy,h y (aAc _ hy) x aAf hr⟩];omega
theorem Ra{R S:Int->Int->Prop}(hR:Eqv R)(hS:Eqv S){l:List Int}(h:∀ x y,R x y->S x y)(hn:ncl R l<=ncl S l){x y:Int}(hx:x∈l)(hy:y∈l)(hs:S x y):R x y:=by refine aAG fun x8=>?_;have h1:=tI hR x8 hx hy;have h2:=pK (R:=Eu.Mg R x y) (S:=S) (l:=l) fun a _ b _ k=>Mg.le hS hs h k;omega
theorem oW{α:Type}[DecidableEq α]{R:Int->Int->Prop}(lab:Int->α):∀ {D:List Int},(∀ x∈D,∀ y∈D,R x y->lab x=lab y)->∀ X:List α,X.Nodup->(∀ a∈X,∃ d∈D,lab d=a)->X.length<=ncl R D
 |[],_,X,_,h=>by
  cases X with
  |nil=>exact aBD _
  |cons a X=>obtain⟨d,hd,_⟩:=h a aAf;cases hd
 |d::D,hR,X,hn,h=>by
  have hR':∀ x∈D,∀ y∈D,R x y->lab x=lab y:=fun x hx y hy=>hR x (aAc _ hx) y (aAc _ hy);by_cases hx:∃ y∈D,R y d
  .rw[aW hx];obtain⟨y,hy,hr⟩:=hx;refine oW lab hR' X hn fun a ha=>?_;obtain⟨e,he,rfl⟩:=h a ha;rcases aAe.1 he with rfl|he
   .exact⟨y,hy,hR y (aAc _ hy) _ aAf hr⟩
   .exact⟨e,he,rfl⟩
  .rw[aO hx];have:=oW lab hR' (X.erase (lab d)) (hn.erase _) fun a ha=>by
    obtain⟨h1,h2⟩:=(List.Nodup.mem_erase_iff hn).1 ha;obtain⟨e,he,rfl⟩:=h a h2;rcases aAe.1 he with rfl|he
    .exact absurd rfl h1
    .exact⟨e,he,rfl⟩
   have h2:=List.length_erase_le (a:=lab d) (l:=X);have h3:X.length<=(X.erase (lab d)).length+1:=by rw[List.length_erase];split<;>omega
   omega
structure dF(D:List Int)(f:Int->Int):Prop where
 mem:∀ x∈D,f x∈D
 inj:∀ x y,f x=f y->x=y
 out:∀ x,x∉D->f x=x
theorem dF.per{D:List Int}{f:Int->Int}(h:dF D f):Per f:=Pk D h.mem h.inj h.out
theorem dF.sw{D:List Int}{f:Int->Int}(h:dF D f){a b:Int}(ha:a∈D)(hb:b∈D):dF D fun x=>f (Eu.sw a b x):=by
 refine⟨fun x hx=>h.mem _ ?_,fun x y e=>Xg a b (h.inj _ _ e),fun x hx=>?_⟩
 .unfold Eu.sw
  split
  .exact hb
  .split
   .exact ha
   .exact hx
 .rw[sP (fun e=>hx (by rw[e];exact ha)) (fun e=>hx (by rw[e];exact hb))];exact h.out x hx
def swP(s:Int->Int):List (Int×Int)->Int->Int
 |[],x=>s x
 |p::P,x=>swP s P (Eu.sw p.1 p.2 x)
def mgP(R:Int->Int->Prop):List (Int×Int)->Int->Int->Prop
 |[]=>R
 |p::P=>Eu.Mg (mgP R P) p.1 p.2
theorem lH{D:List Int}{s:Int->Int}(hs:dF D s):∀ P:List (Int×Int),(∀ p∈P,p.1∈D/\p.2∈D)->dF D (swP s P)
 |[],_=>hs
 |p::P,h=>(lH hs P fun q hq=>h q (aAc _ hq)).sw (h p aAf).1 (h p aAf).2
theorem dX{R:Int->Int->Prop}(hR:Eqv R):∀ P:List (Int×Int),Eqv (mgP R P)
 |[]=>hR
 |p::P=>Mg.eqv (dX hR P) _ _
theorem fV{R:Int->Int->Prop}:∀(P:List (Int×Int)) {x y:Int},R x y->mgP R P x y
 |[],_,_,h=>h
 |_::P,_,_,h=>.inl (fV P h)
theorem jQ{R:Int->Int->Prop}(hR:Eqv R):∀(P:List (Int×Int)) {p:Int×Int},p∈P->mgP R P p.1 p.2
 |q::P,p,h=>by
  rcases aAe.1 h with rfl|h
  .exact .inr (.inl ⟨(dX hR P).refl _,(dX hR P).refl _⟩)
  .exact .inl (jQ hR P h)
theorem xJ{D:List Int}{s:Int->Int}(hs:dF D s):∀ P:List (Int×Int),(∀ p∈P,p.1∈D/\p.2∈D/\p.1≠p.2)->
 (∀ x y,Orb (swP s P) x y->mgP (Orb s) P x y)/\∃ c,2*ncl (mgP (Orb s) P) D+P.length=2*c+ncl (Orb s) D+ncl (Orb (swP s P)) D
 |[],_=>⟨fun _ _ h=>h,0,by have e:ncl (Orb (swP s [])) D=ncl (Orb s) D:=rfl;have e2:ncl (mgP (Orb s) []) D=ncl (Orb s) D:=rfl;rw[e,e2,List.length_nil];omega⟩
 |p::P,h=>by
  obtain⟨h1,c,h2⟩:=xJ hs P fun q hq=>h q (aAc _ hq);obtain⟨ha,hb,v8⟩:=h p aAf;have hq:=lH hs P fun q hq=>⟨(h q (aAc _ hq)).1,(h q (aAc _ hq)).2.1⟩;have hq':dF D (swP s (p::P)):=hq.sw ha hb;have Q8:∀ x,swP s (p::P) x=swP s P (Eu.sw p.1 p.2 x):=fun _=>rfl;have hE:=dX hs.per.eqv P;have hE':Eqv (mgP (Orb s) (p::P)):=dX hs.per.eqv (p::P);refine⟨fun x y G8=>?_,?_⟩
  .exact Mg.le hE' (jQ hs.per.eqv (p::P) aAf) (fun x y k=>.inl (h1 x y k)) (Pu hq.per Q8 G8)
  .rw[List.length_cons];by_cases ho:Orb (swP s P) p.1 p.2
   .have e1:=sC hq.per hq'.per Q8 v8 ha hb ho;have e2:ncl (mgP (Orb s) (p::P)) D=ncl (mgP (Orb s) P) D:=dQ fun x _ y _=>Mg.same hE (h1 _ _ ho) x y;exact⟨c,oO⟩
   .have e1:=vH hq.per hq'.per Q8 ha hb ho;by_cases hr:mgP (Orb s) P p.1 p.2
    .have e2:ncl (mgP (Orb s) (p::P)) D=ncl (mgP (Orb s) P) D:=dQ fun x _ y _=>Mg.same hE hr x y;exact⟨c+1,oO⟩
    .have e2:ncl (mgP (Orb s) P) D=ncl (mgP (Orb s) (p::P)) D+1:=tI hE hr ha hb;exact⟨c,oO⟩
theorem UQ{R:Int->Int->Prop}{D:List Int}(h:∀ x∈D,∀ y∈D,R x y)(h0:D≠[]):ncl R D=1:=by have:=DU (R:=R) (t:=D) (l:=[]) h (fun _ _ _ hy=>by cases hy);rw[aAO,aAa h0]at this;exact this
theorem Wj{D:List Int}{f:Int->Int}(hf:dF D f){a b:Int}(ha:a∈D)(hb:b∈D):ncl (Orb f) D<=ncl (Orb fun x=>f (Eu.sw a b x)) D+1:=by
 by_cases v8:a=b
 .subst v8;have:(fun x=>f (Eu.sw a a x))=f:=by funext x;unfold Eu.sw;split<;>simp_all
  rw[this];omega
 have hp:=hf.sw ha hb;by_cases ho:Orb f a b
 .have:=sC hf.per hp.per (fun _=>rfl) v8 ha hb ho;omega
 .have:=vH hf.per hp.per (fun _=>rfl) ha hb ho;omega
def sgR(Rs:List (List Int))(d:Int):Int:=match Rs.find? (fun t=>decide (d∈t)) with
 |some t=>nx t d
 |none=>d
theorem lU{Rs:List (List Int)}{d:Int}(h:d∉Rs.flatten):sgR Rs d=d:=by unfold sgR;rw[aCP.2 fun t ht=>by simpa using fun hd=>h (aAQ.2 ⟨t,ht,hd⟩)]
theorem Gv{Rs:List (List Int)}(hn:Rs.flatten.Nodup){t t':List Int}(ht:t∈Rs)(Y4:t'∈Rs){d:Int}(hd:d∈t)(K7:d∈t'):t=t':=by
 induction Rs with
 |nil=>cases ht
 |cons r Rs ih=>
  rw[List.flatten_cons,aAo]at hn;rcases aAe.1 ht with e|ht
  .rcases aAe.1 Y4 with e'|Y4
   .rw[e,e']
   .exact absurd rfl (hn.2.2 d (by rw[<- e];exact hd) d (aAQ.2 ⟨t',Y4,K7⟩))
  .rcases aAe.1 Y4 with e'|Y4
   .exact absurd rfl (hn.2.2 d (by rw[<- e'];exact K7) d (aAQ.2 ⟨t,ht,hd⟩))
   .exact ih hn.2.1 ht Y4
theorem xG{Rs:List (List Int)}(hn:Rs.flatten.Nodup){t:List Int}(ht:t∈Rs):t.Nodup:=(aBo ht).nodup hn
theorem gA{Rs:List (List Int)}(hn:Rs.flatten.Nodup){t:List Int}(ht:t∈Rs){d:Int}(hd:d∈t):sgR Rs d=nx t d:=by
 unfold sgR;cases hf:Rs.find? (fun t=>decide (d∈t)) with
 |none=>exact absurd hd (by simpa using aCP.1 hf t ht)
 |some t'=>rw[Gv hn (aBT hf) ht (by simpa using aCM hf) hd]
theorem lK{Rs:List (List Int)}(hn:Rs.flatten.Nodup):dF Rs.flatten (sgR Rs):=by
 have j5:∀ x t,t∈Rs->x∈t->sgR Rs x∈t:=fun x t ht hx=>by rw[gA hn ht hx];exact KP hx
 refine⟨fun x hx=>?_,fun x y e=>?_,fun x hx=>lU hx⟩
 .obtain⟨t,ht,hx⟩:=aAQ.1 hx;exact aAQ.2 ⟨t,ht,j5 x t ht hx⟩
 .by_cases hx:x∈Rs.flatten
  .obtain⟨t,ht,hx⟩:=aAQ.1 hx;by_cases hy:y∈Rs.flatten
   .obtain⟨t',Y4,hy⟩:=aAQ.1 hy;have h1:=j5 x t ht hx;rw[e]at h1;have:=Gv hn ht Y4 h1 (j5 y t' Y4 hy);subst this;rw[gA hn ht hx,gA hn ht hy]at e;exact SY (xG hn ht) hx hy e
   .rw[lU hy]at e;exact absurd (aAQ.2 ⟨t,ht,by rw[<- e];exact j5 x t ht hx⟩) hy
  .by_cases hy:y∈Rs.flatten
   .obtain⟨t',Y4,hy'⟩:=aAQ.1 hy;rw[lU hx]at e;exact absurd (aAQ.2 ⟨t',Y4,by rw[e];exact j5 y t' Y4 hy'⟩) hx
   .rw[lU hx,lU hy]at e;exact e
theorem Jk{Rs:List (List Int)}(hn:Rs.flatten.Nodup){t:List Int}(ht:t∈Rs){x:Int}(hx:x∈t):∀ n,it (sgR Rs) n x=it (nx t) n x/\it (sgR Rs) n x∈t
 |0=>⟨rfl,hx⟩
 |n+1=>by obtain⟨h1,h2⟩:=Jk hn ht hx n;rw[cA,cA,<- h1,gA hn ht h2];exact⟨rfl,KP h2⟩
theorem GM{Rs:List (List Int)}(hn:Rs.flatten.Nodup){t:List Int}(ht:t∈Rs){x y:Int}(hx:x∈t):Orb (sgR Rs) x y↔y∈t:=by
 constructor
 .rintro⟨n,rfl⟩;exact(Jk hn ht hx n).2
 .intro hy;obtain⟨n,I1⟩:=KY (xG hn ht) hx hy;exact⟨n,by rw[(Jk hn ht hx n).1,I1]⟩
theorem Lx{Rs:List (List Int)}(hn:Rs.flatten.Nodup):ncl (Orb (sgR Rs)) Rs.flatten=(Rs.filter fun t=>decide (t≠[])).length:=by
 refine CD Rs (fun t ht x hx y hy=>(GM hn ht hx).2 hy) ?_;have key:∀ Rs':List (List Int),Rs'.flatten.Nodup->Rs'.Pairwise fun t t'=>∀ x∈t,x∉t':=by
  intro Rs';induction Rs' with
  |nil=>exact fun _=>.nil
  |cons r Rs' ih=>intro I1;rw[List.flatten_cons,aAo]at I1;refine aBk.2 ⟨fun t ht x hx P3=>I1.2.2 x hx x (aAQ.2 ⟨t,ht,P3⟩) rfl,ih I1.2.1⟩
 refine(key Rs hn).imp_of_mem fun {t t'} ht Y4 h x hx y hy ho=>?_;exact h x hx ((GM hn Y4 hy).1 ho)
theorem Ro{Rs Rs':List (List Int)}(hn:Rs.flatten.Nodup)(hp:Rs.Perm Rs')(d:Int):sgR Rs d=sgR Rs' d:=by
 have I1:Rs'.flatten.Nodup:=(hp.flatten.nodup_iff).1 hn;by_cases hd:d∈Rs.flatten
 .obtain⟨t,ht,hd⟩:=aAQ.1 hd;rw[gA hn ht hd,gA I1 (hp.mem_iff.1 ht) hd]
 .rw[lU hd,lU fun k=>hd (hp.flatten.mem_iff.2 k)]
theorem get_inj{l:List Int}(h:l.Nodup){i j:Nat}(hi:i<l.length)(hj:j<l.length)(e:l[i]=l[j]):i=j:=by
 have:=congrArg l.idxOf e
 rwa [h.idxOf_getElem,h.idxOf_getElem]at this
theorem xC{A B:List Int}(hn:(A++B).Nodup)(hA:A≠[])(hB:B≠[]){x:Int}:(x∈A->nx (A++B) x=if x=A.getLast hA then nx B (B.getLast hB)else nx A x)/\(x∈B->nx (A++B) x=if x=B.getLast hB then nx A (A.getLast hA)else nx B x):=by
 have I7:=(aAo.1 hn).1;have N8:=(aAo.1 hn).2.1;have la:=aBi.2 hA;have lb:=aBi.2 hB;have last:∀(L:List Int) (h:L≠[]),L.Nodup->nx L (L.getLast h)=L[0]'(aBi.2 h):=fun L h hL=>by have:=aBi.2 h;rw[aCq,gY hL];simp[show L.length-1+1=L.length by omega]
 constructor
 .intro hx;obtain⟨k,hk,rfl⟩:=aAC hx;have e:A[k]=(A++B)[k]'(by rw[aAn];omega):=(aCF hk).symm;have hlen:(A++B).length=A.length+B.length:=aAn;rw[last B hB N8];by_cases h:k=A.length-1
  .rw[aAj (by rw[aCq];congr),e,gY hn];have e2:(k+1) % (A++B).length=A.length:=by rw[aAJ oO];omega
   simp only[e2];rw[aBz (aAm _)];simp
  .rw[aAa (by rw[aCq];exact fun e3=>h (get_inj I7 _ _ e3)),gY I7,e,gY hn];have e2:(k+1) % (A++B).length=k+1:=aAJ oO;have e3:(k+1) % A.length=k+1:=aAJ oO;simp only[e2,e3];exact aCF oO
 .intro hx;obtain⟨k,hk,rfl⟩:=aAC hx;have hlen:(A++B).length=A.length+B.length:=aAn;have e:B[k]=(A++B)[A.length+k]'(by omega):=by rw[aBz (aDZ _ _)];simp
  rw[last A hA I7];by_cases h:k=B.length-1
  .rw[aAj (by rw[aCq];congr),e,gY hn];have e2:(A.length+k+1) % (A++B).length=0:=by rw[show A.length+k+1=(A++B).length by omega,aDG]
   simp only[e2];exact aCF la
  .rw[aAa (by rw[aCq];exact fun e3=>h (get_inj N8 _ _ e3)),gY N8,e,gY hn];have e2:(A.length+k+1) % (A++B).length=A.length+(k+1):=by rw[aAJ oO];omega
   have e3:(k+1) % B.length=k+1:=aAJ oO;simp only[e2,e3];rw[aBz (aDZ _ _)];simp
theorem VK{A B:List Int}{Rs:List (List Int)}(hn:(A::B::Rs).flatten.Nodup)(hA:A≠[])(hB:B≠[])(d:Int):sgR ((A++B)::Rs) d=sgR (A::B::Rs) (Eu.sw (A.getLast hA) (B.getLast hB) d):=by
 have hf:((A++B)::Rs).flatten=(A::B::Rs).flatten:=sS;have I1:((A++B)::Rs).flatten.Nodup:=by rw[hf];exact hn
 have v8:(A++B).Nodup:=xG I1 aAf;have hdis:=(aAo.1 v8).2.2;have mA:=List.getLast_mem hA;have mB:=List.getLast_mem hB;by_cases hdA:d∈A
 .rw[gA I1 aAf (aAq _ hdA),(xC v8 hA hB).1 hdA];by_cases e:d=A.getLast hA
  .rw[aAj e,e,Cq,gA hn (t:=B) sS mB]
  .rw[aAa e,sP e (fun k=>hdis d hdA _ mB k),gA hn (t:=A) sS hdA]
 .by_cases hdB:d∈B
  .rw[gA I1 aAf (aAx _ hdB),(xC v8 hA hB).2 hdB];by_cases e:d=B.getLast hB
   .rw[aAj e,e,Gt,gA hn (t:=A) sS mA]
   .rw[aAa e,sP (fun k=>hdA (by rw[k];exact mA)) e,gA hn (t:=B) sS hdB]
  .rw[sP (fun k=>hdA (by rw[k];exact mA)) (fun k=>hdB (by rw[k];exact mB))];unfold sgR;rw[aCR (sF2 hdA hdB),aCR (sF1 hdA),aCR (sF1 hdB)]
def Flat(D:List Int)(s:Int->Int)(P:List (Int×Int)):Prop:=2*ncl (mgP (Orb s) P) D+P.length=ncl (Orb s) D+ncl (Orb (swP s P)) D
def fU(D:List Int)(P:List (Int×Int)):Prop:=∀ p∈P,p.1∈D/\p.2∈D/\p.1≠p.2
def flP(P:List (Int×Int)):List Int:=P.flatMap fun p=>[p.1,p.2]
theorem dI{P:List (Int×Int)}{x:Int}:x∈flP P↔∃ p∈P,x=p.1\/x=p.2:=by unfold flP;simp only[aAY,aAe,aCa,aDx]
section
variable {D:List Int} {s:Int->Int} (hs:dF D s)
include hs
theorem DQ{p:Int×Int}{P:List (Int×Int)}(hP:fU D (p::P)):Flat D s (p::P)↔Flat D s P/\(mgP (Orb s) P p.1 p.2->Orb (swP s P) p.1 p.2):=by
 have hP':fU D P:=fun q hq=>hP q (aAc _ hq);obtain⟨h1,c,h2⟩:=xJ hs P hP';obtain⟨ha,hb,v8⟩:=hP p aAf;have hq:=lH hs P fun q hq=>⟨(hP' q hq).1,(hP' q hq).2.1⟩;have hq':dF D (swP s (p::P)):=hq.sw ha hb;have Q8:∀ x,swP s (p::P) x=swP s P (Eu.sw p.1 p.2 x):=fun _=>rfl;have hE:=dX hs.per.eqv P;unfold Flat;rw[List.length_cons];by_cases ho:Orb (swP s P) p.1 p.2
 .have e1:=sC hq.per hq'.per Q8 v8 ha hb ho;have e2:ncl (mgP (Orb s) (p::P)) D=ncl (mgP (Orb s) P) D:=dQ fun x _ y _=>Mg.same hE (h1 _ _ ho) x y;rw[e2,e1];constructor
  .intro h;exact⟨oO,fun _=>ho⟩
  .intro h;have:=h.1;omega
 .have e1:=vH hq.per hq'.per Q8 ha hb ho;by_cases hr:mgP (Orb s) P p.1 p.2
  .have e2:ncl (mgP (Orb s) (p::P)) D=ncl (mgP (Orb s) P) D:=dQ fun x _ y _=>Mg.same hE hr x y;constructor
   .intro h;omega
   .intro h;exact absurd (h.2 hr) ho
  .have e2:ncl (mgP (Orb s) P) D=ncl (mgP (Orb s) (p::P)) D+1:=tI hE hr ha hb;constructor
   .intro h;exact⟨oO,fun k=>absurd k hr⟩
   .intro h;have:=h.1;omega
theorem BN{Q P:List (Int×Int)}(hP:fU D (Q++P))(h:Flat D s (Q++P)):Flat D s P:=by
 induction Q with
 |nil=>exact h
 |cons q Q ih=>have hq:=(DQ hs (p:=q) (P:=Q++P) hP).1 h;exact ih (fun p hp=>hP p (aAc _ hp)) hq.1
end
theorem Av{R S:Int->Int->Prop}(hS:Eqv S)(h:∀ x y,R x y->S x y):∀ {P:List (Int×Int)},(∀ p∈P,S p.1 p.2)->∀ x y,mgP R P x y->S x y
 |[],_,x,y,k=>h x y k
 |_::P,hp,x,y,k=>Mg.le hS (hp _ aAf) (fun x y k=>Av hS h (fun p q=>hp p (aAc _ q)) x y k) k
theorem AX{R:Int->Int->Prop}(hR:Eqv R){P Q:List (Int×Int)}(h:∀ p∈P,p∈Q){x y:Int}(k:mgP R P x y):mgP R Q x y:=
 Av (dX hR Q) (fun _ _ k=>fV Q k) (fun p hp=>jQ hR Q (h p hp)) x y k
theorem nV(s:Int->Int):∀ {P:List (Int×Int)},(flP P).Nodup->∀ p∈P,swP s P p.1=s p.2/\swP s P p.2=s p.1
 |[],_,_,h=>by cases h
 |q::P,hn,p,h=>by
  have I1:(q.1::q.2::flP P).Nodup:=hn;rw[aAp,aAp]at I1;obtain⟨n1,n2,n3⟩:=I1;have H9:∀ x,x∉flP P->swP s P x=s x:=fun x hx=>by
   have key:∀(P:List (Int×Int)),x∉flP P->swP s P x=s x:=by
    intro P;induction P with
    |nil=>intro _;rfl
    |cons r P ih=>intro hx;have h1:x≠r.1:=fun e=>hx (dI.2 ⟨r,aAf,.inl e⟩);have h2:x≠r.2:=fun e=>hx (dI.2 ⟨r,aAf,.inr e⟩);show swP s P (Eu.sw r.1 r.2 x)=s x;rw[sP h1 h2];exact ih fun k=>by obtain⟨p,hp,e⟩:=dI.1 k;exact hx (dI.2 ⟨p,aAc _ hp,e⟩)
   exact key P hx
  rcases aAe.1 h with rfl|h
  .refine⟨?_,?_⟩
   .show swP s P (Eu.sw p.1 p.2 p.1)=s p.2;rw[Cq];exact H9 _ n2
   .show swP s P (Eu.sw p.1 p.2 p.2)=s p.1;rw[Gt];exact H9 _ fun k=>n1 (aAc _ k)
  .have m1:p.1∈flP P:=dI.2 ⟨p,h,.inl rfl⟩;have m2:p.2∈flP P:=dI.2 ⟨p,h,.inr rfl⟩;have o1:∀ x∈flP P,Eu.sw q.1 q.2 x=x:=fun x hx=>sP (fun e=>n1 (aAc _ (e ▸ hx))) (fun e=>n2 (e ▸ hx));have ih:=nV s n3 p h;exact⟨by show swP s P (Eu.sw q.1 q.2 p.1)=_;rw[o1 _ m1];exact ih.1,by show swP s P (Eu.sw q.1 q.2 p.2)=_;rw[o1 _ m2];exact ih.2⟩
theorem oI(s:Int->Int):∀ {P:List (Int×Int)} {x:Int},x∉flP P->swP s P x=s x
 |[],_,_=>rfl
 |r::P,x,hx=>by have h1:x≠r.1:=fun e=>hx (dI.2 ⟨r,aAf,.inl e⟩);have h2:x≠r.2:=fun e=>hx (dI.2 ⟨r,aAf,.inr e⟩);show swP s P (Eu.sw r.1 r.2 x)=s x;rw[sP h1 h2];exact oI s fun k=>by obtain⟨p,hp,e⟩:=dI.1 k;exact hx (dI.2 ⟨p,aAc _ hp,e⟩)
theorem QX(s:Int->Int){P Q:List (Int×Int)}(hn:(flP P).Nodup)(hp:P.Perm Q)(x:Int):swP s P x=swP s Q x:=by
 have hf:(flP P).Perm (flP Q):=hp.flatMap_right _;have I1:=hf.nodup_iff.1 hn;by_cases hx:x∈flP P
 .obtain⟨p,h1,h2⟩:=dI.1 hx;have a:=nV s hn p h1;have b:=nV s I1 p (hp.mem_iff.1 h1);rcases h2 with rfl|rfl
  .rw[a.1,b.1]
  .rw[a.2,b.2]
 .rw[oI s hx,oI s fun k=>hx (hf.mem_iff.2 k)]
theorem kL{D:List Int}{s:Int->Int}(hs:dF D s){P Q:List (Int×Int)}(hn:(flP P).Nodup)(hp:P.Perm Q)(h:Flat D s P):Flat D s Q:=by have e:swP s P=swP s Q:=funext fun x=>QX s hn hp x;have e2:ncl (mgP (Orb s) P) D=ncl (mgP (Orb s) Q) D:=dQ fun x _ y _=>⟨AX hs.per.eqv fun p k=>hp.mem_iff.1 k,AX hs.per.eqv fun p k=>hp.mem_iff.2 k⟩;unfold Flat at h ⊢;rw[<- e,<- e2,<- hp.length_eq];exact h
theorem OY{D:List Int}{s:Int->Int}(hs:dF D s){E R S:List (Int×Int)}{p:Int×Int}(hE:fU D E)(hn:(flP E).Nodup)(h:Flat D s E)(hp:E.Perm (R++p::S)):Flat D s S/\(mgP (Orb s) S p.1 p.2->Orb (swP s S) p.1 p.2):=by have h1:=kL hs hn hp h;have hP:fU D (R++p::S):=fun q hq=>hE q (hp.mem_iff.2 hq);have h2:=BN hs hP h1;exact(DQ hs fun q hq=>hP q (aAx _ hq)).1 h2
def Way(s:Int->Int):List (Int×Int)->Prop
 |[]=>True
 |[_]=>True
 |p::q::Q=>Orb s p.2 q.1/\Way s (q::Q)
def Inn(s:Int->Int)(Q:List (Int×Int))(d:Int):Prop:=∃ q∈Q,Orb s q.2 d
theorem LO{s:Int->Int}:∀ {Q R:List (Int×Int)},Way s (Q++R)->Way s Q/\Way s R
 |[],_,h=>⟨trivial,h⟩
 |[p],R,h=>by
  refine⟨trivial,?_⟩;cases R with
  |nil=>trivial
  |cons r R=>exact h.2
 |p::q::Q,R,h=>by obtain⟨h1,h2⟩:=h;have:=LO (Q:=q::Q) (R:=R) h2;exact⟨⟨h1,this.1⟩,this.2⟩
theorem AA{s:Int->Int}{R:Int->Int->Prop}(hR:Eqv R)(hs:∀ x y,Orb s x y->R x y):∀ {Q:List (Int×Int)} {a:Int×Int},Way s (a::Q)->(∀ q∈a::Q,R q.1 q.2)->∀ q∈a::Q,R a.1 q.1
 |[],a,_,_,q,hq=>by rw[aAk]at hq;subst hq;exact hR.refl _
 |b::Q,a,hw,hp,q,hq=>by
  rcases aAe.1 hq with rfl|hq
  .exact hR.refl _
  .have h1:R a.1 b.1:=hR.trans (hp a aAf) (hs _ _ hw.1);exact hR.trans h1 (AA hR hs hw.2 (fun q k=>hp q (aAc _ k)) q hq)
theorem Py{D:List Int}{s:Int->Int}(hs:dF D s){S Q:List (Int×Int)}{z:Int×Int}(hn:(flP (z::(Q++S))).Nodup)
 (hw:Way s (Q++[z])) (hS:∀ d∈flP S,¬Inn s Q d) (hz:¬Inn s Q z.2) {a:Int} (ha:((Q=[]/\a=z.1)\/∃ p Q',Q=p::Q'/\a=p.1)) (hai:¬Inn s Q a)
 (hf:mgP (Orb s) (Q++S) z.1 z.2->Orb (swP s (Q++S)) z.1 z.2) (hc:mgP (Orb s) S a z.2):Orb (swP s S) a z.2:=by
 have hE:=dX hs.per.eqv (Q++S);have I1:(flP (Q++S)).Nodup:=by have h:(z.1::z.2::flP (Q++S)).Nodup:=hn;exact(aAp.1 (aAp.1 h).2).2
 have hnS:(flP S).Nodup:=by unfold flP at I1 ⊢;rw[aCk]at I1;exact(aAo.1 I1).2.1
 have hdis:∀ x∈flP Q,x∉flP S:=by unfold flP at I1 ⊢;rw[aCk]at I1;exact fun x hx hy=>(aAo.1 I1).2.2 x hx x hy rfl
 have hus:∀ x y,Orb s x y->mgP (Orb s) (Q++S) x y:=fun x y k=>fV _ k;have haz:mgP (Orb s) (Q++S) a z.1:=by
  rcases ha with⟨_,rfl⟩|⟨p,Q',hQ,rfl⟩
  .exact hE.refl _
  .have key:∀(Q:List (Int×Int)) (p:Int×Int),Way s (p::Q++[z])->(∀ q∈p::Q,mgP (Orb s) (p::Q++S) q.1 q.2)->True:=fun _ _ _ _=>trivial;have hway:Way s (p::(Q'++[(z.1,z.1)])):=by
    rw[hQ]at hw;have chg:∀(L:List (Int×Int)) (p:Int×Int),Way s (p::(L++[z]))->Way s (p::(L++[(z.1,z.1)])):=by
     intro L;induction L with
     |nil=>intro p h;exact⟨h.1,trivial⟩
     |cons q L ih=>intro p h;exact⟨h.1,ih q h.2⟩
    exact chg Q' p hw
   exact AA hE hus hway (fun q hq=>by
    rcases aAe.1 hq with rfl|hq
    .exact jQ hs.per.eqv _ (by rw[hQ];exact aAq _ aAf)
    .rcases aAd.1 hq with hq|hq
     .exact jQ hs.per.eqv _ (by rw[hQ];exact aAq _ (aAc _ hq))
     .rw[aAk]at hq;subst hq;exact hE.refl _) (z.1,z.1) (aAc _ (aAx _ (aAk.2 rfl)))
 have T9:mgP (Orb s) (Q++S) z.1 z.2:=hE.trans (hE.symm haz) (AX hs.per.eqv (fun p hp=>aAx _ hp) hc);have horb:=hf T9;have j5:∀ d,Inn s Q d->Inn s Q (s d):=fun d ⟨q,hq,k⟩=>⟨q,hq,k.trans (Orb.step s d)⟩;have hpred:∀ p∈Q,(p.1=a/\a≠z.1)\/Inn s Q p.1:=by
  intro p hp;rcases ha with⟨rfl,_⟩|⟨p0,Q',hQ,rfl⟩
  .cases hp
  .have key:∀(L:List (Int×Int)) (b:Int×Int),Way s (b::L)->(∀ q∈b::L,q∈Q)->∀ q∈L,Inn s Q q.1:=by
    intro L;induction L with
    |nil=>intro b _ _ q hq;cases hq
    |cons c L ih=>
     intro b hb hm q hq;rcases aAe.1 hq with rfl|hq
     .exact⟨b,hm b aAf,hb.1⟩
     .exact ih c hb.2 (fun q k=>hm q (aAc _ k)) q hq
   rw[hQ]at hp;rcases aAe.1 hp with rfl|hp
   .refine .inl ⟨rfl,fun e=>?_⟩;have h:(z.1::z.2::flP (Q++S)).Nodup:=hn;exact(aAp.1 h).1 (aAc _ (dI.2 ⟨p,by rw[hQ];exact aAq _ aAf,.inl e.symm⟩))
   .have hw':=(LO hw).1;rw[hQ]at hw';exact .inr (key Q' p0 hw' (fun q k=>by rw[hQ];exact k) p hp)
 have hz1:a=z.1\/Inn s Q z.1:=by
  rcases ha with⟨_,rfl⟩|⟨p0,Q',hQ,rfl⟩
  .exact .inl rfl
  .refine .inr ?_;have key:∀(L:List (Int×Int)) (b:Int×Int),Way s (b::(L++[z]))->(∀ q∈b::L,q∈Q)->Inn s Q z.1:=by
    intro L;induction L with
    |nil=>intro b hb hm;exact⟨b,hm b aAf,hb.1⟩
    |cons c L ih=>intro b hb hm;exact ih c hb.2 fun q k=>hm q (aAc _ k)
   rw[hQ]at hw;exact key Q' p0 hw fun q k=>by rw[hQ];exact k
 have haS:a∉flP S:=fun k=>by
  rcases ha with⟨rfl,rfl⟩|⟨p0,Q',hQ,rfl⟩
  .have h:(z.1::z.2::flP ([]++S)).Nodup:=hn;exact(aAp.1 h).1 (aAc _ k)
  .exact hdis p0.1 (dI.2 ⟨p0,by rw[hQ];exact aAf,.inl rfl⟩) k
 let T:Int->Prop:=fun d=>Orb (swP s S) a d\/Inn s Q d;have hT:∀ d,T d->T (swP s (Q++S) d):=by
  intro d hd;by_cases h1:d∈flP Q
  .obtain⟨p,hp,e⟩:=dI.1 h1;have hx:=nV s I1 p (aAq _ hp);rcases e with rfl|rfl
   .rw[hx.1];exact .inr ⟨p,hp,Orb.step s _⟩
   .rw[hx.2];rcases hpred p hp with⟨k,_⟩|k
    .rw[k];refine .inl ?_;have:swP s S a=s a:=oI s haS;exact⟨1,this⟩
    .exact .inr (j5 _ k)
  .by_cases h2:d∈flP S
   .obtain⟨p,hp,e⟩:=dI.1 h2;have hx:=nV s I1 p (aAx _ hp);have hy:=nV s hnS p hp;have K7:Orb (swP s S) a d:=hd.resolve_right (hS d h2);have heq:swP s (Q++S) d=swP s S d:=by
     rcases e with rfl|rfl
     .rw[hx.1,hy.1]
     .rw[hx.2,hy.2]
    rw[heq];exact .inl (K7.trans (Orb.step _ _))
   .have h3:d∉flP (Q++S):=fun k=>by unfold flP at k h1 h2;rw[aCk,aAd]at k;exact k.elim h1 h2
    rw[oI s h3];rcases hd with hd|hd
    .refine .inl ?_;have:swP s S d=s d:=oI s h2;rw[<- this];exact hd.trans (Orb.step _ _)
    .exact .inr (j5 _ hd)
 have hTn:∀ n d,T d->T (it (swP s (Q++S)) n d):=by
  intro n;induction n with
  |zero=>intro d h;exact h
  |succ n ih=>intro d h;rw[cA];exact hT _ (ih d h)
 obtain⟨n,hnn⟩:=horb;have h0:T z.1:=by
  rcases hz1 with rfl|k
  .exact .inl (Orb.refl _ _)
  .exact .inr k
 have u6:=hTn n z.1 h0;rw[hnn]at u6;exact u6.resolve_right hz
def lnk:List Int->List (Int×Int)
 |x::y::l=>(x,y)::lnk (y::l)
 |_=>[]
def prs(r:List Int):List (Int×Int):=lnk (r++r.take 1)
theorem eZ(x:Int)(B:List Int):∀ A,lnk (A++x::B)=lnk (A++[x])++lnk (x::B)
 |[]=>by simp[lnk]
 |[a]=>by simp[lnk]
 |a::b::A=>by have:=eZ x B (b::A);simp only[List.cons_append,lnk]at this ⊢;rw[this]
theorem En:∀ l,lnk l.reverse=((lnk l).map Prod.swap).reverse
 |[]=>rfl
 |[a]=>rfl
 |a::b::l=>by have h:=En (b::l);rw[aCU,aCU,aAD,List.singleton_append,eZ b [a] l.reverse,<- aCU,h];simp[lnk]
theorem oB(l:List Int):(lnk l.reverse).Perm ((lnk l).map Prod.swap):=by rw[En];exact aBr _
theorem zY:∀ l:List Int,(lnk l).length=l.length-1
 |[]=>rfl
 |[_]=>rfl
 |a::b::l=>by have:=zY (b::l);simp only[lnk,List.length_cons]at this ⊢;omega
theorem eE:∀ w:List Int,iI w=(lnk w).map fun p=>prP p.1 p.2
 |[]=>rfl
 |[_]=>rfl
 |a::b::l=>by rw[iI,eE (b::l)];rfl
theorem bE:∀ {l:List Int} {x y:Int},(x,y)∈lnk l->x∈l/\y∈l
 |[],_,_,h=>by cases h
 |[_],_,_,h=>by cases h
 |a::b::l,x,y,h=>by
  rcases aAe.1 h with e|h
  .injection e with e1 e2;subst e1;subst e2;simp
  .have:=bE h;exact⟨aAc _ this.1,aAc _ this.2⟩
theorem dK:∀ {l:List Int},l.Nodup->(lnk l).Nodup/\∀ x y,(x,y)∈lnk l->x≠y/\(y,x)∉lnk l
 |[],_=>⟨.nil,fun _ _ h=>by cases h⟩
 |[_],_=>⟨.nil,fun _ _ h=>by cases h⟩
 |a::b::l,h=>by
  obtain⟨h1,h2⟩:=aAp.1 h;obtain⟨k1,k2⟩:=dK h2;have v8:a≠b:=fun e=>h1 (by rw[e];simp);refine⟨aAp.2 ⟨fun hm=>h1 (bE hm).1,k1⟩,fun x y hm=>?_⟩;rcases aAe.1 hm with e|hm
  .injection e with e1 e2;subst e1;subst e2;refine⟨v8,fun hm=>?_⟩;rcases aAe.1 hm with e|hm
   .injection e with e1 e2;exact v8 e2
   .exact h1 (bE hm).2
  .refine⟨(k2 x y hm).1,fun hm2=>?_⟩;rcases aAe.1 hm2 with e|hm2
   .injection e with e1 e2;exact h1 (by rw[<- e1];exact(bE hm).2)
   .exact(k2 x y hm).2 hm2
theorem vM(u v:Int)(A Q:List Int):∀ P:List Int,(prs (P++u::(A++v::Q))).Perm (lnk (u::(A++[v]))++lnk (v::(Q++(P++[u]))))
 |[]=>by
  have e:prs (u::(A++v::Q))=lnk ((u::A)++v::(Q++[u])):=by unfold prs;simp
  rw[List.nil_append,e,eZ];simp
 |p::P=>by
  have e:prs (p::P++u::(A++v::Q))=lnk ((p::P)++u::(A++v::(Q++[p]))):=by unfold prs;simp
  have e2:lnk (u::(A++v::(Q++[p])))=lnk ((u::A)++v::(Q++[p])):=sS;have e3:lnk (v::(Q++(p::P++[u])))=lnk ((v::Q)++p::(P++[u])):=sS;rw[e,eZ u _ (p::P),e2,eZ v _ (u::A),e3,eZ p _ (v::Q)];simp only[List.cons_append];refine(aBm).trans ?_;rw[aAD]
def Rt(l l':List Int):Prop:=∃ a b,l=a++b/\l'=b++a
theorem Rt.trans{l m n:List Int}(h:Rt l m)(k:Rt m n):Rt l n:=by
 obtain⟨a,b,rfl,rfl⟩:=h;obtain⟨c,d,e,rfl⟩:=k;rcases aDh.1 e with⟨z,g1,g2⟩|⟨z,g1,g2⟩
 .exact⟨z,d++b,by rw[g2];simp,by rw[g1];simp⟩
 .exact⟨a++c,z,by rw[g1];simp,by rw[g2];simp⟩
theorem Kc{r:List Int}{i j:Nat}(hij:i<j)(hj:j<r.length):∃ A B,jC r i j=r.getD i 0::(A++[r.getD j 0])/\jC r j i=r.getD j 0::(B++[r.getD i 0])/\(prs r).Perm (lnk (r.getD i 0::(A++[r.getD j 0]))++lnk (r.getD j 0::(B++[r.getD i 0])))/\Rt r (r.getD i 0::(A++r.getD j 0::B)):=by
 have e1:r=r.take i++r.getD i 0::r.drop (i+1):=by rw[aAg,aAh oO,Option.getD_some,<- aAL oO,aAE]
 have e2:r.drop (i+1)=(r.drop (i+1)).take (j-i-1)++r.getD j 0::r.drop (j+1):=by
  conv=>lhs;rw[<- aAE (j-i-1) (r.drop (i+1))]
  rw[aCE,show i+1+(j-i-1)=j by omega,aAg,aAh hj,Option.getD_some,<- aAL hj]
 have hP:(r.take i).length=i:=by rw[aAw];omega
 have hA:((r.drop (i+1)).take (j-i-1)).length=j-i-1:=by rw[aAw,aAT];omega
 have hl:r.length=i+1+(j-i-1)+1+(r.drop (j+1)).length:=by rw[aAT];omega
 rw[e2]at e1;generalize r.take i=P at *;generalize (r.drop (i+1)).take (j-i-1)=A at *;generalize r.drop (j+1)=Q at *;generalize r.getD i 0=u at *;generalize r.getD j 0=v at *;refine⟨A,Q++P,?_,?_,?_,P,u::(A++v::Q),e1,sS⟩
 .unfold jC vB;rw[aAj oO,e1,aAD,aDJ oO,aCS oO,List.nil_append,List.cons_append,List.take_succ_cons]
  congr 1
  rw[aAD,List.cons_append,aCv,aAv oO,hA,show j-i-(j-i-1)=1 by omega];rfl
 .unfold jC vB;rw[aAa oO,hl];have e:(r++r).drop j=v::(Q++(P++u::(A++v::Q))):=by
   conv=>lhs;rw[e1]
   have:(P++u::(A++v::Q))++(P++u::(A++v::Q))=(P++u::A)++(v::(Q++(P++u::(A++v::Q)))):=sS;rw[this,aDJ (by simp;omega),aCS (by simp;omega),List.nil_append]
  rw[e,show i+(i+1+(j-i-1)+1+Q.length)-j+1=(Q.length+(P.length+1))+1 by omega,List.take_succ_cons]
  congr 1
  rw[aCv,aAv oO,show Q.length+(P.length+1)-Q.length=P.length+1 by omega,aCv,aAv oO,show P.length+1-P.length=1 by omega];simp
 .have:=vM u v A Q P;rw[<- e1]at this;simpa using this
theorem nY{r:List Int}{i j:Nat}(hij:i≠j)(hi:i<r.length)(hj:j<r.length):∃ A B,jC r i j=r.getD i 0::(A++[r.getD j 0])/\jC r j i=r.getD j 0::(B++[r.getD i 0])/\(prs r).Perm (lnk (r.getD i 0::(A++[r.getD j 0]))++lnk (r.getD j 0::(B++[r.getD i 0])))/\Rt r (r.getD i 0::(A++r.getD j 0::B)):=by
 rcases Nat.lt_or_gt_of_ne hij with h|h
 .exact Kc h hj
 .obtain⟨A,B,h1,h2,h3,h4⟩:=Kc h hi;exact⟨B,A,h2,h1,h3.trans aBm,h4.trans ⟨r.getD j 0::A,r.getD i 0::B,sS,sS⟩⟩
theorem Tl{r w:List Int}(hw:2<=w.length)(Zo:w.getD 0 0≠w.getD (w.length-1) 0)(h1:w.getD 0 0∈r)(h2:w.getD (w.length-1) 0∈r):
 ∃ a b,a≠[]/\b≠[]/\(prs r).Perm (a++b)/\prs (jC r (r.idxOf (w.getD 0 0)) (r.idxOf (w.getD (w.length-1) 0))++(dD w).reverse)=a++lnk w.reverse/\prs (jC r (r.idxOf (w.getD (w.length-1) 0)) (r.idxOf (w.getD 0 0))++dD w)=b++lnk w:=by
 have ew:w=w.getD 0 0::(dD w++[w.getD (w.length-1) 0]):=by
  have hl:w.length-1<w.length:=oO;have a1:w=w.getD 0 0::w.drop 1:=by
   cases w with
   |nil=>simp at hw
   |cons x w=>rfl
  have a2:w.drop 1=dD w++[w.getD (w.length-1) 0]:=by
   have e3:w.drop (w.length-1+1)=[]:=aCS oO;unfold dD
   conv=>lhs;rw[<- aAE (w.length-2) (w.drop 1)]
   rw[aCE,show 1+(w.length-2)=w.length-1 by omega,aAg,aAh hl,Option.getD_some,aAL hl,e3]
  rw[<- a2];exact a1
 have i1:=aBg h1;have i2:=aBg h2;have g1:r.getD (r.idxOf (w.getD 0 0)) 0=w.getD 0 0:=by rw[aAg,aAh i1,Option.getD_some,aBL]
 have g2:r.getD (r.idxOf (w.getD (w.length-1) 0)) 0=w.getD (w.length-1) 0:=by rw[aAg,aAh i2,Option.getD_some,aBL]
 have hij:r.idxOf (w.getD 0 0)≠r.idxOf (w.getD (w.length-1) 0):=fun e=>Zo (by rw[<- g1,e,g2]);obtain⟨A,B,q1,q2,q3,_⟩:=nY hij i1 i2;rw[g1,g2]at q1 q2 q3;rw[q1,q2];generalize w.getD 0 0=u at *;generalize w.getD (w.length-1) 0=v at *;generalize dD w=M at *;refine⟨_,_,?_,?_,q3,?_,?_⟩
 .intro e;have:=congrArg List.length e;rw[zY]at this;simp at this
 .intro e;have:=congrArg List.length e;rw[zY]at this;simp at this
 .have e:prs (u::(A++[v])++M.reverse)=lnk ((u::A)++v::(M.reverse++[u])):=by unfold prs;simp
  have e2:w.reverse=v::(M.reverse++[u]):=by rw[ew];simp
  rw[e,eZ,e2];simp
 .have e:prs (v::(B++[u])++M)=lnk ((v::B)++u::(M++[v])):=by unfold prs;simp
  rw[e,eZ]
  conv=>rhs;rw[ew]
  simp
def PF(F:List (List Int)):List (Int×Int):=F.flatMap prs
def Con(F:List (List Int)):Prop:=∀ R:(Int×Int)->(Int×Int)->Prop,(∀ p q,R p q->R q p)->(∀ p q r,R p q->R q r->R p r)->(∀ r∈F,∀ p∈prs r,∀ q∈prs r,R p q)->(∀ p∈PF F,R p p.swap)->∀ p∈PF F,∀ q∈PF F,R p q
structure Drn(E:List Ed)(h:Sh):Prop where
 nd:(PF h.F).Nodup
 mem:∀ u v,(u,v)∈PF h.F↔u≠v/\prP u v∈h.L
 lnd:h.L.Nodup
 sub:∀ p∈h.L,∃ e∈E,prE e=p
 on:∀ v,v∈h.on↔∃ u,u≠v/\prP u v∈h.L
 cnt:h.F.length+((vsF E).filter fun v=>decide (v∈h.on)).length=h.L.length+2
 con:Con h.F
 ne:∀ r∈h.F,r≠[]
theorem aJ(u v:Int):prP u v=prP v u:=by unfold prP;rw[Int.min_comm,Int.max_comm]
theorem bF{u v x y:Int}(h:prP u v=prP x y):(u=x/\v=y)\/(u=y/\v=x):=by unfold prP at h;injection h with h1 h2;omega
theorem aV{F:List (List Int)}{p:Int×Int}:p∈PF F↔∃ r∈F,p∈prs r:=aAY
theorem tR:∀ {w:List Int} {v:Int},2<=w.length->v∈w->∃ u,(u,v)∈lnk w\/(v,u)∈lnk w
 |a::b::l,v,_,h=>by
  rcases aAe.1 h with rfl|h
  .exact⟨b,.inr (by simp[lnk])⟩
  .rcases aAe.1 h with rfl|h'
   .exact⟨a,.inl (by simp[lnk])⟩
   .have h2:2<=(b::l).length:=by have:=aEh h';simp;omega
    obtain⟨u,hu⟩:=tR (w:=b::l) h2 h;exact⟨u,hu.imp (fun k=>aAc _ k) fun k=>aAc _ k⟩
theorem gV{r:List Int}{v:Int}(h:v∈r):∃ u,(v,u)∈prs r:=by
 obtain⟨A,B,rfl⟩:=aBh h;unfold prs;cases A with
 |nil=>
  rw[List.nil_append,List.cons_append];cases B with
  |nil=>exact⟨v,by simp[lnk]⟩
  |cons b B=>exact⟨b,by simp[lnk]⟩
 |cons a A=>
  have e:(a::A++v::B)++(a::A++v::B).take 1=(a::A)++v::(B++[a]):=sS;rw[e,eZ];cases B with
  |nil=>exact⟨a,aAx _ (by simp[lnk])⟩
  |cons b B=>exact⟨b,aAx _ (by simp[lnk])⟩
theorem pS{r:List Int}{x y:Int}(h:(x,y)∈prs r):x∈r/\y∈r:=by unfold prs at h;have:=bE h;rw[aAd,aAd]at this;exact⟨this.1.elim id aCm,this.2.elim id aCm⟩
theorem kN:∀(P L:List (Int×Int)),P.Nodup->(∀ p∈P,p∉L)->P.foldl JW L=L++P
 |[],L,_,_=>by simp
 |p::P,L,hn,h=>by
  obtain⟨h1,h2⟩:=aAp.1 hn
  rw[List.foldl_cons,JW,aAa (h p aAf),kN P (L++[p]) h2 fun q hq hm=>by
   rw[aAd,aAk]at hm;rcases hm with hm|rfl
   .exact h q (aAc _ hq) hm
   .exact h1 hq]
  simp
theorem fH{w:List Int}(h:w.Nodup):(iI w).Nodup:=by
 obtain⟨h1,h2⟩:=dK h;rw[eE,List.nodup_iff_pairwise_ne,aAV];refine h1.imp_of_mem fun {p q} hp hq Zo e=>?_;rcases bF e with⟨e1,e2⟩|⟨e1,e2⟩
 .exact Zo (aBZ e1 e2)
 .exact(h2 p.1 p.2 hp).2 (by rw[e1,e2];exact hq)
theorem HG{l M on w:List Int}(hl:l.Nodup)(hM:M.Nodup)(I8:∀ v∈M,v∈l)(hMo:∀ v∈M,v∉on)(hw:∀ v∈l,v∈w↔v∈M\/(v∈w/\v∈on)):(l.filter fun v=>decide (v∈on++w)).length=(l.filter fun v=>decide (v∈on)).length+M.length:=by
 have hp:(l.filter fun v=>decide (v∈on++w)).Perm ((l.filter fun v=>decide (v∈on))++M):=by
  refine(aAZ (hl.sublist aAP) (aAo.2 ⟨hl.sublist aAP,hM,?_⟩)).2 fun v=>?_
  .rintro a ha b hb rfl;rw[aAy,aAR]at ha;exact hMo a hb ha.2
  .rw[aAy,aAR,aAd,aAd,aAy,aAR];constructor
   .rintro⟨h1,h2|h2⟩
    .exact .inl ⟨h1,h2⟩
    .rcases(hw v h1).1 h2 with h|h
     .exact .inr h
     .exact .inl ⟨h1,h.2⟩
   .rintro(⟨h1,h2⟩|h)
    .exact⟨h1,.inl h2⟩
    .exact⟨I8 v h,.inr ((hw v (I8 v h)).2 (.inl h))⟩
 have:=hp.length_eq
 rwa [aAn]at this
theorem nN{w:List Int}(hw:2<=w.length):w=w.getD 0 0::(dD w++[w.getD (w.length-1) 0]):=by
 have hl:w.length-1<w.length:=oO;have a1:w=w.getD 0 0::w.drop 1:=by
  cases w with
  |nil=>simp at hw
  |cons x w=>rfl
 have a2:w.drop 1=dD w++[w.getD (w.length-1) 0]:=by
  have e3:w.drop (w.length-1+1)=[]:=aCS oO;unfold dD
  conv=>lhs;rw[<- aAE (w.length-2) (w.drop 1)]
  rw[aCE,show 1+(w.length-2)=w.length-1 by omega,aAg,aAh hl,Option.getD_some,aAL hl,e3]
 rw[<- a2];exact a1
section
variable {E:List Ed} {h:Sh} (hD:Drn E h)
include hD
theorem Drn.ring_on{r:List Int}(hr:r∈h.F){v:Int}(hv:v∈r):v∈h.on:=by obtain⟨u,hu⟩:=gV hv;have:=(hD.mem v u).1 (aV.2 ⟨r,hr,hu⟩);exact(hD.on v).2 ⟨u,fun e=>this.1 e.symm,by rw[aJ];exact this.2⟩
theorem Drn.on_vs{v:Int}(hv:v∈h.on):v∈vsF E:=by
 obtain⟨u,hu,hm⟩:=(hD.on v).1 hv;obtain⟨e,he,hp⟩:=hD.sub _ hm;rw[bA];rcases bF hp with⟨e1,e2⟩|⟨e1,e2⟩
 .exact⟨e,he,.inr e2.symm⟩
 .exact⟨e,he,.inl e1.symm⟩
theorem Drn.lay{w:List Int}{at':Nat}(S8:at' < h.F.length)(J9:2<=w.length)(hwn:w.Nodup)(h1:w.getD 0 0∈h.F.getD at' [])(h2:w.getD (w.length-1) 0∈h.F.getD at' [])(hm:∀ v∈dD w,v∉h.on)
 (hp:∀ x y,(x,y)∈lnk w->prP x y∉h.L/\∃ e∈E,prE e=prP x y):Drn E (gT h w at'):=by
 have ews:=nN J9;have Zo:w.getD 0 0≠w.getD (w.length-1) 0:=fun e=>by rw[ews,e]at hwn;exact(aAp.1 hwn).1 sS
 obtain⟨a,b,ha,hb,q1,q2,q3⟩:=Tl J9 Zo h1 h2;obtain⟨n1,n2⟩:=dK hwn;have hrin:h.F.getD at' []∈h.F:=by rw[aAg,aAh S8];exact aAI _
 have o1:=hD.ring_on hrin h1;have o2:=hD.ring_on hrin h2;have hFs:∃ F1 F2,h.F=F1++h.F.getD at' []::F2/\∀ r,h.F.set at' r=F1++r::F2:=by
  refine⟨h.F.take at',h.F.drop (at'+1),?_,fun r=>?_⟩
  .rw[aAg,aAh S8,Option.getD_some,<- aAL S8,aAE]
  .rw[aBK,aAj S8]
 obtain⟨F1,F2,f1,f2⟩:=hFs;have hlen:(gT h w at').F.length=h.F.length+1:=by simp[gT]
 have hF:(gT h w at').F=(h.F.set at' (jC (h.F.getD at' []) ((h.F.getD at' []).idxOf (w.getD 0 0)) ((h.F.getD at' []).idxOf (w.getD (w.length-1) 0))++(dD w).reverse))++[jC (h.F.getD at' []) ((h.F.getD at' []).idxOf (w.getD (w.length-1) 0)) ((h.F.getD at' []).idxOf (w.getD 0 0))++dD w]:=rfl;rw[f2]at hF;have hL:(gT h w at').L=h.L++iI w:=by
  have:(gT h w at').L=jY h.L w:=rfl;rw[this];exact kN _ _ (fH hwn) fun p hpp=>by rw[eE]at hpp;obtain⟨q,hq,rfl⟩:=aAi.1 hpp;exact(hp q.1 q.2 hq).1
 have hOn:(gT h w at').on=h.on++w:=rfl;generalize gT h w at'=h' at *;generalize jC (h.F.getD at' []) ((h.F.getD at' []).idxOf (w.getD 0 0)) ((h.F.getD at' []).idxOf (w.getD (w.length-1) 0))++(dD w).reverse=r1 at *;generalize jC (h.F.getD at' []) ((h.F.getD at' []).idxOf (w.getD (w.length-1) 0)) ((h.F.getD at' []).idxOf (w.getD 0 0))++dD w=r2 at *;generalize h.F.getD at' []=r at *;have hPF:(PF h'.F).Perm (PF h.F++(lnk w++lnk w.reverse)):=by
  rw[hF,f1];unfold PF;simp only[aCk,aAF,aDc,aAO];rw[q2,q3];have e1:(List.flatMap prs F1++(a++lnk w.reverse++List.flatMap prs F2)++(b++lnk w)).Perm (List.flatMap prs F1++((a++b)++List.flatMap prs F2)++(lnk w++lnk w.reverse)):=by rw[aEA];intro x;simp only[List.count_append];omega
  refine e1.trans ?_;exact(((q1.symm.append_right _).append_left _).append_right _)
 have hlw:∀ u v,prP u v∈iI w↔(u,v)∈lnk w\/(v,u)∈lnk w:=fun u v=>by
  rw[eE,aAi];constructor
  .rintro⟨q,hq,e⟩;rcases bF e with⟨e1,e2⟩|⟨e1,e2⟩
   .left;rw[<- e1,<- e2];exact hq
   .right;rw[<- e1,<- e2];exact hq
  .rintro(k|k)
   .exact⟨_,k,rfl⟩
   .exact⟨_,k,aJ _ _⟩
 have hrev:∀ u v,(u,v)∈lnk w.reverse↔(v,u)∈lnk w:=fun u v=>by
  rw[(oB w).mem_iff,aAi];constructor
  .rintro⟨q,hq,e⟩;have:q=(v,u):=by rw[<- aBJ q,e];rfl
   rw[<- this];exact hq
  .intro k;exact⟨_,k,rfl⟩
 have J8:∀ u v,(u,v)∈PF h'.F↔u≠v/\prP u v∈h'.L:=fun u v=>by
  rw[hPF.mem_iff,aAd,aAd,hD.mem,hrev,hL,aAd,hlw];constructor
  .rintro(⟨k1,k2⟩|k|k)
   .exact⟨k1,.inl k2⟩
   .exact⟨(n2 _ _ k).1,.inr (.inl k)⟩
   .exact⟨fun e=>(n2 _ _ k).1 e.symm,.inr (.inr k)⟩
  .rintro⟨k1,k2|k|k⟩
   .exact .inl ⟨k1,k2⟩
   .exact .inr (.inl k)
   .exact .inr (.inr k)
 have hmid:∀ v∈w,v∈dD w\/v∈h.on:=fun v hv=>by
  rw[ews]at hv;rcases aAe.1 hv with e|hv
  .exact .inr (by rw[e];exact o1)
  .rcases aAd.1 hv with hv|hv
   .exact .inl hv
   .exact .inr (by rw[aAk.1 hv];exact o2)
 refine⟨?_,J8,?_,?_,?_,?_,?_,?_⟩
 .refine hPF.nodup_iff.2 (aAo.2 ⟨hD.nd,aAo.2 ⟨n1,(dK ((aBr w).nodup_iff.2 hwn)).1,?_⟩,?_⟩)
  .rintro⟨x,y⟩ hx _ hy rfl;exact(n2 x y hx).2 ((hrev _ _).1 hy)
  .rintro⟨x,y⟩ hx _ hy rfl;have k:=((hD.mem x y).1 hx).2;rcases aAd.1 hy with hy|hy
   .exact(hp x y hy).1 k
   .exact(hp y x ((hrev _ _).1 hy)).1 (by rw[aJ];exact k)
 .rw[hL];refine aAo.2 ⟨hD.lnd,fH hwn,?_⟩;rintro p P7 _ X5 rfl;rw[eE]at X5;obtain⟨q,hq,rfl⟩:=aAi.1 X5;exact(hp q.1 q.2 hq).1 P7
 .intro p r9;rw[hL]at r9;rcases aAd.1 r9 with k|k
  .exact hD.sub p k
  .rw[eE]at k;obtain⟨q,hq,rfl⟩:=aAi.1 k;exact(hp q.1 q.2 hq).2
 .intro v;rw[hOn,aAd,hD.on,hL];constructor
  .rintro(⟨u,k1,k2⟩|k)
   .exact⟨u,k1,aAq _ k2⟩
   .obtain⟨u,k|k⟩:=tR J9 k
    .exact⟨u,(n2 _ _ k).1,aAx _ ((hlw u v).2 (.inl k))⟩
    .exact⟨u,fun e=>(n2 _ _ k).1 e.symm,aAx _ ((hlw u v).2 (.inr k))⟩
  .rintro⟨u,k1,k2⟩;rcases aAd.1 k2 with k|k
   .exact .inl ⟨u,k1,k⟩
   .right;rcases(hlw u v).1 k with k|k
    .exact(bE k).2
    .exact(bE k).1
 .have hmn:(dD w).Nodup:=by rw[ews]at hwn;exact(aAo.1 (aAp.1 hwn).2).1
  have hvw:∀ v∈w,v∈vsF E:=fun v hv=>by
   obtain⟨u,k|k⟩:=tR J9 hv
   .obtain⟨e,he,N4⟩:=(hp _ _ k).2;rw[bA];rcases bF N4 with⟨e1,e2⟩|⟨e1,e2⟩
    .exact⟨e,he,.inr e2.symm⟩
    .exact⟨e,he,.inl e1.symm⟩
   .obtain⟨e,he,N4⟩:=(hp _ _ k).2;rw[bA];rcases bF N4 with⟨e1,e2⟩|⟨e1,e2⟩
    .exact⟨e,he,.inl e1.symm⟩
    .exact⟨e,he,.inr e2.symm⟩
  have hc:=HG (l:=vsF E) (M:=dD w) (on:=h.on) (w:=w) ((kQ E).imp fun k=>by omega) hmn (fun v hv=>hvw v (mV hv)) hm fun v _=>⟨fun k=>(hmid v k).imp id fun k2=>⟨k,k2⟩,fun k=>k.elim mV And.left⟩;have M6:=vK w;have hc0:=hD.cnt;have hwl:=nJ w;rw[hlen,hOn,hL,aAn,hc];omega
 ·
  intro R hs ht hr K9;have m1:∀ p∈prs r1,p∈PF h'.F:=fun p k=>aV.2 ⟨r1,by rw[hF];simp,k⟩;have m2:∀ p∈prs r2,p∈PF h'.F:=fun p k=>aV.2 ⟨r2,by rw[hF];simp,k⟩;have w1:=hr r1 (by rw[hF];simp);have w2:=hr r2 (by rw[hF];simp);obtain⟨x0,y0,G8⟩:∃ x y,(x,y)∈lnk w:=by
   obtain⟨u,k|k⟩:=tR J9 (v:=w.getD 0 0) (by rw[aAg,aAh (by omega:0<w.length)];exact aAI _)
   .exact⟨_,_,k⟩
   .exact⟨_,_,k⟩
  have c2:(x0,y0)∈prs r2:=by rw[q3];exact aAx _ G8
  have c1:(y0,x0)∈prs r1:=by rw[q2];exact aAx _ ((hrev _ _).2 G8)
  have cc:R (x0,y0) (y0,x0):=K9 _ (m2 _ c2);have both:∀ p,p∈prs r1\/p∈prs r2->R p (x0,y0):=by
   rintro p (k|k)
   .exact ht _ _ _ (w1 p k _ c1) (hs _ _ cc)
   .exact w2 p k _ c2
  have v8:∀ p∈prs r,p∈prs r1\/p∈prs r2:=fun p k=>by
   rcases aAd.1 (q1.mem_iff.1 k)with k|k
   .left;rw[q2];exact aAq _ k
   .right;rw[q3];exact aAq _ k
  have old:∀ p∈PF h.F,∀ q∈PF h.F,R p q:=by
   refine hD.con R hs ht (fun t htF p O9 q hq'=>?_) fun p O9=>K9 p (hPF.mem_iff.2 (aAq _ O9));rw[f1]at htF;rcases aAd.1 htF with k|k
   .exact hr t (by rw[hF];simp[k]) p O9 q hq'
   .rcases aAe.1 k with e|k
    .subst e;exact ht _ _ _ (both p (v8 p O9)) (hs _ _ (both q (v8 q hq')))
    .exact hr t (by rw[hF];simp[k]) p O9 q hq'
  obtain⟨p0,hp0⟩:=aAM a ha;have k0:p0∈prs r:=q1.mem_iff.2 (aAq _ hp0);have k1:p0∈PF h.F:=aV.2 ⟨r,hrin,k0⟩;have z:R p0 (x0,y0):=both p0 (v8 p0 k0);have all:∀ p∈PF h'.F,R p (x0,y0):=fun p hpp=>by
   rcases aAd.1 (hPF.mem_iff.1 hpp)with k|k
   .exact ht _ _ _ (old p k p0 k1) z
   .refine both p ?_;rcases aAd.1 k with k|k
    .right;rw[q3];exact aAx _ k
    .left;rw[q2];exact aAx _ k
  exact fun p O9 q hq'=>ht _ _ _ (all p O9) (hs _ _ (all q hq'))
 .intro t ht;rw[hF]at ht;have nil:prs []=[]:=rfl;rcases aAd.1 ht with k|k
  .rcases aAd.1 k with k|k
   .exact hD.ne t (by rw[f1];simp[k])
   .rcases aAe.1 k with e|k
    .rintro e0;rw[<- e,e0,nil]at q2;exact ha (aEj.1 q2.symm).1
    .exact hD.ne t (by rw[f1];simp[k])
  .rw[aAk]at k;rintro e0;rw[<- k,e0,nil]at q3;exact hb (aEj.1 q3.symm).1
end
end Aw
end Go.Proofs.YtbgngpdonpeboaaGreatDoor
