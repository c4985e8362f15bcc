/- Plain: a map in the plane: any of its edges, no two of them beside each other, lie in the plane. -/
import Derived.Test.YtbgngpdonpeboaaGreatDoorJm
set_option linter.unusedVariables false
set_option linter.unusedSimpArgs false
set_option linter.unusedSectionVars false
namespace Go.Proofs.YtbgngpdonpeboaaGreatDoor
namespace Aw
open Go Go.RowKit Pl Eu
theorem yO{R R':Int->Int->Prop}{κ:Int->Int}:∀ {l:List Int},(∀ x∈l,∀ y∈l,R' (κ x) (κ y)↔R x y)->ncl R' (l.map κ)=ncl R l
 |[],_=>rfl
 |x::l,h=>by
  have ih:=yO (l:=l) fun y hy z hz=>h y (aAc _ hy) z (aAc _ hz);rw[aAn];by_cases k:∃ y∈l,R y x
  .rw[aT k,aT,ih];obtain⟨y,hy,k⟩:=k;exact⟨κ y,aAw hy,(h y (aAc _ hy) x aAf).2 k⟩
  .rw[aM k,aM,ih];rintro⟨z,hz,q⟩;obtain⟨y,hy,rfl⟩:=aAj.1 hz;exact k ⟨y,hy,(h y (aAc _ hy) x aAf).1 q⟩
section
variable {D:List Int} {f f' κ:Int->Int} (hf:dW D f) (hk:∀ x∈D,∀ y∈D,κ x=κ y->x=y) (O3:∀ x∈D,f' (κ x)=κ (f x))
include hf hk O3
theorem zU{x y:Int}(hx:x∈D)(hy:y∈D):Orb f' (κ x) (κ y)↔Orb f x y:=by
 have key:∀ n,it f' n (κ x)=κ (it f n x)/\it f n x∈D:=fun n=>by
  induction n with
  |zero=>exact⟨rfl,hx⟩
  |succ n ih=>rw[bW,bW,ih.1];exact⟨O3 _ ih.2,hf.mem _ ih.2⟩
 exact⟨fun⟨n,h⟩=>⟨n,hk _ (key n).2 _ hy ((key n).1.symm.trans h)⟩,fun⟨n,h⟩=>⟨n,by rw[(key n).1,h]⟩⟩
theorem KN:∀ {P:List (Int×Int)},gM D P->∀ x∈D,swP f' (P.map fun p=>(κ p.1,κ p.2)) (κ x)=κ (swP f P x)
 |[],_,x,hx=>O3 x hx
 |p::P,hP,x,hx=>by
  have hp:=hP p aAf;show swP f' _ (Eu.sw (κ p.1) (κ p.2) (κ x))=κ (swP f P (Eu.sw p.1 p.2 x));have:Eu.sw (κ p.1) (κ p.2) (κ x)=κ (Eu.sw p.1 p.2 x)/\Eu.sw p.1 p.2 x∈D:=by
   have:=hk x hx p.1 hp.1;have:=hk x hx p.2 hp.2.1;unfold Eu.sw
   grind
  rw[this.1];exact KN (fun q hq=>hP q (aAc _ hq)) _ this.2
theorem KT:∀ {P:List (Int×Int)},gM D P->∀ x∈D,∀ y∈D,(mgP (Orb f') (P.map fun p=>(κ p.1,κ p.2)) (κ x) (κ y)↔mgP (Orb f) P x y)
 |[],_,x,hx,y,hy=>zU hf hk O3 hx hy
 |p::P,hP,x,hx,y,hy=>by have ih:=KT (P:=P) fun q hq=>hP q (aAc _ hq);have hp:=hP p aAf;show Mg _ (κ p.1) (κ p.2) _ _↔Mg _ _ _ _ _;unfold Mg;rw[ih x hx y hy,ih x hx _ hp.1,ih _ hp.2.1 y hy,ih x hx _ hp.2.1,ih _ hp.1 y hy]
theorem OY{P:List (Int×Int)}(hP:gM D P)(h:Flat D f P):Flat (D.map κ) f' (P.map fun p=>(κ p.1,κ p.2)):=by have hq:=kL hf P fun q hq=>⟨(hP q hq).1,(hP q hq).2.1⟩;unfold Flat at *;rw[yO (KT hf hk O3 hP),yO fun x hx y hy=>zU hf hk O3 hx hy,yO fun x hx y hy=>zU hq hk (KN hf hk O3 hP) hx hy,aAD];exact h
end
theorem Wk{E:List Ed}(hB:BlE E){D:List Int}{s:Int->Int}(hs:dW D s)(δ:Int×Int->Int)(hD:∀ p:Int×Int,(∃ e∈E,prE e=unA p)->δ p∈D)(hi:∀ p q:Int×Int,(∃ e∈E,prE e=unA p)->(∃ e∈E,prE e=unA q)->δ p=δ q->p=q)
 (ho:∀ p q:Int×Int,(∃ e∈E,prE e=unA p)->(∃ e∈E,prE e=unA q)->(Orb s (δ p) (δ q)↔p.1=q.1)) (hf:Flat D s (E.map fun e=>(δ (e.a,e.b),δ (e.b,e.a)))):∃ s' D',PlD E s' D'/\∀ x∈D',x∈flP (tws E)\/x<0:=by
 have bd:∀ p:Int×Int,(∃ e∈E,prE e=unA p)->(0<=p.1/\p.1<4194304)/\(0<=p.2/\p.2<4194304)/\p.1≠p.2:=fun p ⟨e,he,hp⟩=>by
  have h1:=gN (x:=e.a) (y:=e.b) he rfl;have h2:=hB.bnd _ h1.1;have h3:=hB.bnd _ h1.2;have h4:=hB.ne e he;rcases bK hp with⟨e1,e2⟩|⟨e1,e2⟩
  .rw[<- e1,<- e2];exact⟨h2,h3,h4⟩
  .rw[<- e1,<- e2];exact⟨h3,h2,aCv h4⟩
 have ea:∀ e∈E,(∃ f∈E,prE f=unA (e.a,e.b))/\∃ f∈E,prE f=unA (e.b,e.a):=fun e he=>⟨⟨e,he,rfl⟩,e,he,aL _ _⟩;obtain⟨κ,k1,k2⟩:∃ κ:Int->Int,(∀ p:Int×Int,(∃ e∈E,prE e=unA p)->κ (δ p)=cd p)/\∀ d,(¬∃ p:Int×Int,(∃ e∈E,prE e=unA p)/\δ p=d)->κ d=if 0<=d then -2*d-1 else 2*d:=by
  refine⟨fun d=>open Classical in if h:∃ p:Int×Int,(∃ e∈E,prE e=unA p)/\δ p=d then cd h.choose else if 0<=d then -2*d-1 else 2*d,fun p hp=>?_,fun d hd=>?_⟩
  .have h:∃ q:Int×Int,(∃ e∈E,prE e=unA q)/\δ q=δ p:=⟨p,hp,rfl⟩;simp only[dif_pos h];rw[hi _ _ h.choose_spec.1 hp h.choose_spec.2]
  .simp only[dif_neg hd]
 have kc:∀ d,(∃ p:Int×Int,(∃ e∈E,prE e=unA p)/\δ p=d/\κ d=cd p/\0<=cd p)\/(κ d=(if 0<=d then -2*d-1 else 2*d)/\κ d<0):=fun d=>by
  by_cases h:∃ p:Int×Int,(∃ e∈E,prE e=unA p)/\δ p=d
  .obtain⟨p,hp,rfl⟩:=h;have:=bd p hp;exact .inl ⟨p,hp,rfl,k1 p hp,by unfold cd;omega⟩
  .refine .inr ⟨k2 d h,?_⟩;rw[k2 d h];split<;>omega
 have kinj:∀ x∈D,∀ y∈D,κ x=κ y->x=y:=fun x _ y _ e=>by
  rcases kc x with⟨p,hp,rfl,h1,h2⟩|⟨h1,h2⟩<;>rcases kc y with⟨q,hq,rfl,h3,h4⟩|⟨h3,h4⟩
  .rw[gR (bd p hp).2.1 (bd q hq).2.1 (h1.symm.trans (e.trans h3))]
  .omega
  .omega
  .rw[h1,h3]at e
   split at e<;>split at e<;>omega
 obtain⟨s',s1,s2⟩:∃ s':Int->Int,(∀ d∈D,s' (κ d)=κ (s d))/\∀ x,x∉D.map κ->s' x=x:=by
  refine⟨fun x=>open Classical in if h:∃ d∈D,κ d=x then κ (s h.choose)else x,fun d hd=>?_,fun x hx=>?_⟩
  .have h:∃ e∈D,κ e=κ d:=⟨d,hd,rfl⟩;simp only[dif_pos h];rw[kinj _ h.choose_spec.1 d hd h.choose_spec.2]
  .exact dif_neg fun⟨d,hd,e⟩=>hx (aAj.2 ⟨d,hd,e⟩)
 have hPin:gM D (E.map fun e=>(δ (e.a,e.b),δ (e.b,e.a))):=fun q hq=>by obtain⟨e,he,rfl⟩:=aAj.1 hq;exact⟨hD _ (ea e he).1,hD _ (ea e he).2,fun k=>hB.ne e he (congrArg Prod.fst (hi _ _ (ea e he).1 (ea e he).2 k))⟩
 refine⟨s',D.map κ,⟨hB,⟨fun x hx=>?_,fun x y e=>?_,s2⟩,fun p hp=>?_,fun p q hp hq=>?_,?_⟩,fun x hx=>?_⟩
 .obtain⟨d,hd,rfl⟩:=aAj.1 hx;rw[s1 d hd];exact aAw (hs.mem d hd)
 .by_cases hx:x∈D.map κ<;>by_cases hy:y∈D.map κ
  .obtain⟨d,hd,rfl⟩:=aAj.1 hx;obtain⟨d',I1,rfl⟩:=aAj.1 hy;rw[s1 d hd,s1 d' I1]at e;rw[hs.inj _ _ (kinj _ (hs.mem d hd) _ (hs.mem d' I1) e)]
  .obtain⟨d,hd,rfl⟩:=aAj.1 hx;rw[s1 d hd,s2 y hy]at e;exact absurd (e ▸ aAw (hs.mem d hd)) hy
  .obtain⟨d,hd,rfl⟩:=aAj.1 hy;rw[s1 d hd,s2 x hx]at e;exact absurd (e ▸ aAw (hs.mem d hd)) hx
  .rw[s2 x hx,s2 y hy]at e;exact e
 .exact aAj.2 ⟨δ p,hD p hp,k1 p hp⟩
 .rw[<- k1 p hp,<- k1 q hq,zU hs kinj s1 (hD p hp) (hD q hq)];exact ho p q hp hq
 .have:=OY hs kinj s1 hPin hf;have e:(E.map fun e=>(δ (e.a,e.b),δ (e.b,e.a))).map (fun p=>(κ p.1,κ p.2))=tws E:=by unfold tws;rw[aAZ];exact aAP fun e he=>by simp only[Function.comp];rw[k1 _ (ea e he).1,k1 _ (ea e he).2]
  rwa [e]at this
 .obtain⟨d,hd,rfl⟩:=aAj.1 hx;rcases kc d with⟨p,⟨e,he,hp⟩,_,h1,_⟩|⟨_,h⟩
  .left;rw[h1];refine dD.2 ⟨_,aAw he,?_⟩;rcases bK hp with⟨e1,e2⟩|⟨e1,e2⟩
   .exact .inl (by rw[e1,e2])
   .exact .inr (by rw[e1,e2])
  .exact .inr h
def prD(es:List Ed):List (Int×Int):=es.map fun e=>(2*e.id,2*e.id+1)
theorem LC(es:List Ed):flP (prD es)=aQ es:=by unfold flP prD aQ;rw[List.flatMap_map]
section
variable {m:Mp} (h:bM m)
include h
theorem bM.sg_permOn:dW (aQ m.g.es) (sg m):=⟨fun _=>h.sg_dart,fun _ _=>h.sg_inj,fun _=>h.sg_id⟩
theorem bM.prD_in{E:List Ed}(hE:∀ e∈E,e∈m.g.es):gM (aQ m.g.es) (prD E):=fun p hp=>by obtain⟨e,he,rfl⟩:=aAj.1 hp;exact⟨dG.2 ⟨e,hE e he,.inl rfl⟩,dG.2 ⟨e,hE e he,.inr rfl⟩,by simp only;omega⟩
theorem bM.at_orb{v d e:Int}(hd:d∈ends m.g.es v)(he:e∈ends m.g.es v):Orb (sg m) d e:=h.sg_orb hd he
theorem bM.flat(hg:Aw.gn m=0):Flat (aQ m.g.es) (sg m) (prD m.g.es):=by
 have hn:(flP (prD m.g.es)).Nodup:=by rw[LC];exact iL (nN h.g.ids)
 have h1:=h.gn;have h2:=h.ncl_sg;have h3:=h.ncl_parts;have hE:=dM h.sg_permOn.per.eqv (prD m.g.es);have e1:swP (sg m) (prD m.g.es)=fc m m.g.es:=funext fun d=>by
  unfold fc;by_cases k:d∈aQ m.g.es
  .rw[Da k];obtain⟨x,hx,e⟩:=dG.1 k;have:=nL (sg m) hn (2*x.id,2*x.id+1) (aAj.2 ⟨x,hx,rfl⟩);unfold tw;rcases e with rfl|rfl
   .rw[this.1,aAk oO]
   .rw[this.2,aAa oO];congr 1;omega
  .rw[vE k,yX];rintro p hp;obtain⟨x,hx,rfl⟩:=aAj.1 hp;exact⟨fun e=>k (dG.2 ⟨x,hx,.inl e⟩),fun e=>k (dG.2 ⟨x,hx,.inr e⟩)⟩
 have e2:ncl (mgP (Orb (sg m)) (prD m.g.es)) (aQ m.g.es)=ncl (CC m) (aQ m.g.es):=by
  refine dH fun x hx y hy=>⟨Aj (CC.eqv h) (fun x y k=>?_) (fun p hp=>?_) x y,fun k=>?_⟩
  .by_cases q:x∈aQ m.g.es
   .obtain⟨n,rfl⟩:=k;obtain⟨v,hv,_⟩:=LL q;exact .inr ⟨v,v,hv,h.it_v hv n,.refl⟩
   .obtain⟨n,rfl⟩:=k;have:it (sg m) n x=x:=by
     induction n with
     |zero=>rfl
     |succ n ih=>rw[bW,ih];exact h.sg_id q
    exact .inl this.symm
  .obtain⟨x,hx,rfl⟩:=aAj.1 hp;exact .inr ⟨x.a,x.b,cK.2 ⟨x,hx,.inl ⟨rfl,rfl⟩⟩,cK.2 ⟨x,hx,.inr ⟨rfl,rfl⟩⟩,.step .refl (dB.2 ⟨x,hx,.inl ⟨rfl,rfl⟩⟩)⟩
  .rcases k with rfl|⟨v,w,kv,kw,r⟩
   .exact hE.refl _
   .have:∀ y,y∈ends m.g.es w->mgP (Orb (sg m)) (prD m.g.es) x y:=by
     clear kw hy;induction r with
     |refl=>exact fun y ky=>fT _ (h.at_orb kv ky)
     |@step u w r hw ih=>
      intro y ky;obtain⟨e,he,k⟩:=dB.1 hw;have hm:=jO h.sg_permOn.per.eqv (prD m.g.es) (p:=(2*e.id,2*e.id+1)) (aAj.2 ⟨e,he,rfl⟩);rcases k with⟨k1,k2⟩|⟨k1,k2⟩
      .have a1:=ih (2*e.id) (cK.2 ⟨e,he,.inl ⟨k1,rfl⟩⟩);exact hE.trans (hE.trans a1 hm) (fT _ (h.at_orb (cK.2 ⟨e,he,.inr ⟨k2,rfl⟩⟩) ky))
      .have a1:=ih (2*e.id+1) (cK.2 ⟨e,he,.inr ⟨k1,rfl⟩⟩);exact hE.trans (hE.trans a1 (hE.symm hm)) (fT _ (h.at_orb (cK.2 ⟨e,he,.inl ⟨k2,rfl⟩⟩) ky))
    exact this y kw
 unfold Flat;rw[e1,e2,show(prD m.g.es).length=m.g.es.length by unfold prD;rw[aAD]];omega
theorem bM.plE(hg:Aw.gn m=0){E:List Ed}(hE:∀ e∈E,e∈m.g.es)(S9:E.Nodup)(hB:BlE E):∃ s,PlE E s:=by
 have hflat:=h.flat hg;have hn:(flP (prD m.g.es)).Nodup:=by rw[LC];exact iL (nN h.g.ids)
 have hes:m.g.es.Nodup:=h.g.ids.imp fun k e=>by rw[e]at k;omega
 obtain⟨R,hR⟩:∃ R,m.g.es.Perm (R++E):=by
  refine⟨m.g.es.filter fun e=>decide (e∉E),(aBd hes ?_).2 fun e=>?_⟩
  .grind
  .grind
 have T6:=Gc h.sg_permOn (Q:=prD R) (P:=prD E) (fun p hp=>h.prD_in (fun e he=>he) p (by
  have:=(hR.map fun e:Ed=>(2*e.id,2*e.id+1)).mem_iff (a:=p);rw[aAu]at this
  exact this.2 hp)) (Aw.mW h.sg_permOn hn (by have:=hR.map fun e:Ed=>(2*e.id,2*e.id+1);rw[aAu]at this;exact this) hflat)
 have huniq:∀ e∈E,∀ f∈E,prE e=prE f->e=f:=fun e he f hf k=>pU hB.sim he hf k;obtain⟨δ,d1⟩:∃ δ:Int×Int->Int,∀ e∈E,δ (e.a,e.b)=2*e.id/\δ (e.b,e.a)=2*e.id+1:=by
  refine⟨fun p=>match E.find? (fun e=>decide (prE e=unA p)) with
   |some e=>if p.1=e.a then 2*e.id else 2*e.id+1
   |none=>0,fun e he=>?_⟩
  have hf:∀ p:Int×Int,prE e=unA p->E.find? (fun e=>decide (prE e=unA p))=some e:=fun p hp=>by
   cases hx:E.find? (fun e=>decide (prE e=unA p)) with
   |none=>have:=aDe.1 hx e he;simp[hp]at this
   |some f=>have h1:=aCY hx;simp only[aBr]at h1;rw[huniq f (aCh hx) e he (h1.trans hp.symm)]
  simp only;rw[hf _ rfl,hf (e.b,e.a) (aL _ _)];simp only;rw[aAa (aCv (hB.ne e he))];exact⟨aAk trivial,rfl⟩
 have hcd:∀ p:Int×Int,(∃ e∈E,prE e=unA p)->∃ e∈E,(p=(e.a,e.b)/\δ p=2*e.id\/p=(e.b,e.a)/\δ p=2*e.id+1)/\δ p∈ends m.g.es p.1:=fun p ⟨e,he,q⟩=>by
  obtain⟨u,v⟩:=p;rcases bK q with⟨q1,q2⟩|⟨q1,q2⟩
  .subst q1 q2;exact⟨e,he,.inl ⟨rfl,(d1 e he).1⟩,cK.2 ⟨e,hE e he,.inl ⟨rfl,(d1 e he).1⟩⟩⟩
  .subst q1 q2;exact⟨e,he,.inr ⟨rfl,(d1 e he).2⟩,cK.2 ⟨e,hE e he,.inr ⟨rfl,(d1 e he).2⟩⟩⟩
 obtain⟨s,D,h1,_⟩:=Wk hB h.sg_permOn δ (fun p hp=>by obtain⟨e,he,_,k⟩:=hcd p hp;exact rL k) (fun p q hp hq k=>by
  obtain⟨e,he,k1,_⟩:=hcd p hp;obtain⟨f,hf,k2,_⟩:=hcd q hq;have:e.id=f.id:=oO;have:=id_eq h.g.ids (hE e he) (hE f hf) this;subst this;rcases k1 with⟨r1,r2⟩|⟨r1,r2⟩<;>rcases k2 with⟨t1,t2⟩|⟨t1,t2⟩
  .rw[r1,t1]
  .omega
  .omega
  .rw[r1,t1]) (fun p q hp hq=>by
  obtain⟨e,he,_,k1⟩:=hcd p hp;obtain⟨f,hf,_,k2⟩:=hcd q hq;constructor
  .rintro⟨n,hn⟩;exact dY h.g.ids (h.it_v k1 n) (hn ▸ k2)
  .intro k
   exact h.at_orb k1 (k ▸ k2)) (by
  have e:E.map (fun e=>(δ (e.a,e.b),δ (e.b,e.a)))=prD E:=aAP fun e he=>by rw[(d1 e he).1,(d1 e he).2]
  rw[e];exact T6)
 exact⟨s,D,h1⟩
end
def Nx(s:Int->Int)(S:List Int)(d e:Int):Prop:=∃ k,it s k d=e/\e∈S/\∀ j,j<k->it s j d∉S
section
variable {s:Int->Int} {S S':List Int} {d e e' n c:Int}
theorem Nx.here(h:d∈S):Nx s S d d:=⟨0,rfl,h,fun j hj=>absurd hj (aDB j)⟩
theorem Nx.mem(h:Nx s S d e):e∈S:=by obtain⟨_,_,h,_⟩:=h;exact h
theorem Nx.orb(h:Nx s S d e):Orb s d e:=by obtain⟨k,h,_⟩:=h;exact⟨k,h⟩
theorem Nx.fn(h:Nx s S d e)(h':Nx s S d e'):e=e':=by
 obtain⟨k,a1,a2,a3⟩:=h;obtain⟨l,b1,b2,b3⟩:=h';rcases aCk k l with h|h|h
 .exact absurd (by rw[a1];exact a2) (b3 k h)
 .rw[<- a1,<- b1,h]
 .exact absurd (by rw[b1];exact b2) (a3 l h)
theorem Nx.of_mem(hd:d∈S)(h:Nx s S d e):e=d:=h.fn (.here hd)
theorem Nx.up(hd:d∉S)(h:Nx s S d e):Nx s S (s d) e:=by
 obtain⟨k,a1,a2,a3⟩:=h;cases k with
 |zero=>exact absurd (by rw[show d=e from a1];exact a2) hd
 |succ k=>exact⟨k,a1,a2,fun j hj=>a3 (j+1) oO⟩
theorem Nx.ex{a:Int}(h:Orb s d a)(ha:a∈S):∃ e,Nx s S d e:=by obtain⟨n,h⟩:=h;obtain⟨m,h1,h2⟩:=least (P:=fun k=>it s k d∈S) (n:=n) (by rw[h];exact ha);exact⟨_,m,rfl,h1,h2⟩
theorem Nx.loop(h:Nx s S (s d) d)(he:e∈S)(ho:Orb s d e):e=d:=by
 have hT:∀ n z,Nx s S z d->Nx s S (it s n z) d:=by
  intro n;induction n with
  |zero=>intro z hz;exact hz
  |succ n ih=>
   intro z hz;refine ih (s z) ?_;by_cases hm:z∈S
   .rw[<- hz.of_mem hm];exact h
   .exact hz.up hm
 obtain⟨n,hn⟩:=ho;have:=hT n d (.here h.mem);rw[hn]at this;exact(this.of_mem he).symm
theorem Nx.cmp(hi:∀ x y,s x=s y->x=y){z:Int}(h:Nx s S z e)(h':Nx s S d e):(∃ j,it s j z=d/\∀ i,i<j->it s i z∉S)\/∃ j,it s (j+1) d=z/\∀ i,i<j+1->it s i d∉S:=by
 obtain⟨k,a1,a2,a3⟩:=h;obtain⟨l,b1,b2,b3⟩:=h';by_cases hl:l<=k
 .refine .inl ⟨k-l,EK hi l ?_,fun i hil=>a3 i oO⟩;rw[<- jK,show l+(k-l)=k by omega,a1,b1]
 .refine .inr ⟨l-k-1,EK hi k ?_,fun i hil=>b3 i oO⟩;rw[<- jK,show k+(l-k-1+1)=l by omega,a1,b1]
theorem Nx.same(hS:∀ x,Orb s d x->(x∈S↔x∈S'))(h:Nx s S d e):Nx s S' d e:=by obtain⟨k,a1,a2,a3⟩:=h;exact⟨k,a1,(hS e ⟨k,a1⟩).1 a2,fun j hj h=>a3 j hj ((hS _ ⟨j,rfl⟩).2 h)⟩
end
section
variable {s:Int->Int} {S S':List Int} {n e0:Int} (hp:Per s) (hS:∀ x,Orb s n x->(x∈S'↔x∈S\/x=n)) (hn:n∉S) (h0:Nx s S n e0)
include hS h0
theorem Nx.back{d e:Int}(ho:Orb s n d)(h:Nx s S' d e):(e=n/\Nx s S d e0)\/(e≠n/\Nx s S d e):=by
 obtain⟨k,a1,a2,a3⟩:=h;have hb:∀ j,j<k->it s j d∉S:=fun j hj h=>a3 j hj ((hS _ (ho.trans ⟨j,rfl⟩)).2 (.inl h));by_cases he:e=n
 .refine .inl ⟨he,?_⟩;obtain⟨l,b1,b2,b3⟩:=h0;refine⟨l+k,by rw[jK,a1,he,b1],b2,fun j hj=>?_⟩;by_cases X9:j<k
  .exact hb j X9
  .have:it s j d=it s (j-k) n:=by rw[<- he,<- a1,<- jK];congr 1;omega
   rw[this];exact b3 _ oO
 .exact .inr ⟨he,k,a1,((hS e (ho.trans ⟨k,a1⟩)).1 a2).resolve_right he,hb⟩
include hp hn
theorem Nx.add_of:Nx s S' (s n) e0:=by
 have h1:Nx s S (s n) e0:=h0.up hn;have z8:Orb s n (s n):=Orb.step s n;have hm:n∈S':=(hS n (Orb.refl s n)).2 (.inr rfl);obtain⟨f,hf⟩:=Nx.ex (S:=S') (Orb.symm hp z8) hm;rcases Nx.back hS h0 z8 hf with⟨rfl,_⟩|⟨_,k⟩
 .have:=hf.loop ((hS e0 h0.orb).2 (.inl h0.mem)) h0.orb;exact absurd (this ▸ h0.mem) hn
 .rw[h1.fn k];exact hf
theorem Nx.add_at{c:Int}(hc:c∈S)(ho:Orb s n c)(h:Nx s S (s c) e0):Nx s S' (s c) n:=by
 have z8:Orb s n (s c):=ho.trans (Orb.step s c);have hm:n∈S':=(hS n (Orb.refl s n)).2 (.inr rfl);obtain⟨f,hf⟩:=Nx.ex (S:=S') (Orb.symm hp z8) hm;rcases Nx.back hS h0 z8 hf with⟨rfl,_⟩|⟨Zy,k⟩
 .exact hf
 .have hfe:=h.fn k;subst hfe;exfalso;rcases Nx.cmp (fun x y=>hp.inj) h h0 with⟨j,j1,j2⟩|⟨j,j1,j2⟩
  .obtain⟨q,q1,q2,q3⟩:=hf;rcases aCk j q with h3|h3|h3
   .exact q3 j h3 (by rw[j1];exact hm)
   .rw[<- h3,j1]at q1;exact Zy q1.symm
   .exact j2 q h3 (by rw[q1];exact h0.mem)
  .have:it s j n=c:=by rw[bW]at j1;exact hp.inj j1
   exact j2 j oO (by rw[this];exact hc)
theorem Nx.add_other{c e:Int}(ho:Orb s n c)(h:Nx s S (s c) e)(he:e≠e0):Nx s S' (s c) e:=by
 have z8:Orb s n (s c):=ho.trans (Orb.step s c);have hm:n∈S':=(hS n (Orb.refl s n)).2 (.inr rfl);obtain⟨f,hf⟩:=Nx.ex (S:=S') (Orb.symm hp z8) hm;rcases Nx.back hS h0 z8 hf with⟨rfl,k⟩|⟨_,k⟩
 .exact absurd (h.fn k) he
 .rw[h.fn k];exact hf
end
theorem fH:∀ {l:List Int},l.Nodup->∀ {a b b':Int},(a,b)∈lnk l->(a,b')∈lnk l->b=b'
 |[],_,_,_,_,h,_=>by cases h
 |[_],_,_,_,_,h,_=>by cases h
 |x::y::l,hn,a,b,b',h,h'=>by
  obtain⟨h1,h2⟩:=aAq.1 hn;rcases aAe.1 h with e|h
  .injection e with e1 e2;rcases aAe.1 h' with e'|h'
   .injection e' with e3 e4;rw[e2,e4]
   .exact absurd (bF h').1 (by rw[e1];exact h1)
  .rcases aAe.1 h' with e'|h'
   .injection e' with e3 e4;exact absurd (bF h).1 (by rw[e3];exact h1)
   .exact fH h2 h h'
theorem oM{l:List Int}{a b:Int}:(a,b)∈lnk l↔(b,a)∈lnk l.reverse:=by
 rw[FK,aBh,aAj];constructor
 .intro h;exact⟨(a,b),h,rfl⟩
 .rintro⟨q,hq,e⟩;have:q=(a,b):=by rw[<- aBJ q,e];rfl
  rw[<- this];exact hq
theorem wK{l:List Int}(hn:l.Nodup){a a' b:Int}(h:(a,b)∈lnk l)(h':(a',b)∈lnk l):a=a':=
 fH (l:=l.reverse) ((aBo l).nodup_iff.2 hn) (oM.1 h) (oM.1 h')
theorem iW{x:Int}:∀ {l:List Int} {a b:Int},(a,b)∈lnk (x::l)->b∈l
 |[],_,_,h=>by cases h
 |y::l,a,b,h=>by
  rcases aAe.1 h with e|h
  .injection e with _ e;rw[e];exact aAf
  .exact(bF h).2
theorem eU{y:Int}{l:List Int}{a b:Int}(h:(a,b)∈lnk (l++[y])):a∈l:=by have:=oM.1 h;rw[aCo,aCr,List.singleton_append]at this;simpa using iW this
theorem iP.perm{E:List Ed}{A B:List (Int×Int)}(h:iP E A)(hp:A.Perm B):iP E B:=
 ⟨fun p k=>h.mem p (hp.mem_iff.2 k),(hp.map unA).nodup_iff.1 h.nd⟩
theorem eT{A:List (Int×Int)}{x:Int}:x∈flP (pls A)↔∃ p,(p∈A\/p.swap∈A)/\x=cd p:=by
 rw[dD];constructor
 .rintro⟨q,hq,e⟩;obtain⟨p,hp,rfl⟩:=aAj.1 hq;rcases e with e|e
  .exact⟨p,.inl hp,e⟩
  .exact⟨p.swap,.inr (by rw[aBJ];exact hp),e⟩
 .rintro⟨p,hp|hp,e⟩
  .exact⟨_,aAw hp,.inl e⟩
  .exact⟨_,aAw hp,.inr (by rw[aBJ];exact e)⟩
theorem EZ{F:List (List Int)}(hn:(PF F).Nodup){r r':List Int}(hr:r∈F)(M5:r'∈F){p:Int×Int}(h:p∈prs r)(h':p∈prs r'):r=r':=by
 induction F with
 |nil=>cases hr
 |cons t F ih=>
  have F4:(prs t++PF F).Nodup:=hn;rw[aAo]at F4;rcases aAe.1 hr with e|k
  .rcases aAe.1 M5 with e'|k'
   .rw[e,e']
   .exact absurd rfl (F4.2.2 p (e ▸ h) p (bE.2 ⟨r',k',h'⟩))
  .rcases aAe.1 M5 with e'|k'
   .exact absurd rfl (F4.2.2 p (e' ▸ h') p (bE.2 ⟨r,k,h⟩))
   .exact ih F4.2.1 k k'
structure Emb(E:List Ed)(s:Int->Int)(A:List (Int×Int))(F:List (List Int)):Prop where
 pE:iP E A
 nd:(PF F).Nodup
 simple:∀ r∈F,r.Nodup
 mem:∀ p,p∈PF F↔p∈A\/p.swap∈A
 step:∀ r∈F,∀ u v w,(u,v)∈prs r->(v,w)∈prs r->Nx s (flP (pls A)) (s (cd (v,u))) (cd (v,w))
 con:∀ x∈flP (pls A),∀ y∈flP (pls A),mgP (Orb s) (pls A) x y
def SdT(s:Int->Int)(A:List (Int×Int))(r:List Int)(d:Int):Prop:=∃ p∈prs r,Nx s (flP (pls A)) d (cd p)
section
variable {E:List Ed} {s:Int->Int} (hP:PlE E s)
include hP
theorem PlE.cdin{p q:Int×Int}(hp:∃ e∈E,prE e=unA p)(hq:∃ e∈E,prE e=unA q)(h:cd p=cd q):p=q:=
 gR (hP.arc_bd hp).2.1 (hP.arc_bd hq).2.1 h
theorem PlE.orb{p q:Int×Int}(hp:∃ e∈E,prE e=unA p)(hq:∃ e∈E,prE e=unA q):Orb s (cd p) (cd q)↔p.1=q.1:=let ⟨_,k⟩:=hP;k.orb p q hp hq
theorem PlE.way:∀ {w:List Int},(∀ u v,(u,v)∈lnk w->∃ e∈E,prE e=prP u v)->Way s (pls (lnk w))
 |[],_=>trivial
 |[_],_=>trivial
 |[_,_],_=>trivial
 |a::b::c::l,h=>by have ih:=PlE.way (w:=b::c::l) fun u v k=>h u v (aAc _ k);refine⟨?_,ih⟩;have h1:=h a b aAf;have h2:=h b c (aAc _ aAf);exact(hP.orb (p:=(b,a)) (q:=(b,c)) (by rw[show unA (b,a)=prP a b from aL _ _];exact h1) h2).2 rfl
variable {A:List (Int×Int)} {F:List (List Int)} (hE:Emb E s A F)
include hE
omit hP in
theorem Emb.dart{x:Int}:x∈flP (pls A)↔∃ p∈PF F,x=cd p:=by rw[eT];exact⟨fun⟨p,hp,e⟩=>⟨p,(hE.mem p).2 hp,e⟩,fun⟨p,hp,e⟩=>⟨p,(hE.mem p).1 hp,e⟩⟩
omit hP in
theorem Emb.sub{p:Int×Int}(h:p∈PF F):∃ e∈E,prE e=unA p:=by
 rcases(hE.mem p).1 h with h|h
 .exact hE.pE.mem p h
 .rw[<- fQ];exact hE.pE.mem _ h
omit hP in
theorem Emb.swap{p:Int×Int}(h:p∈PF F):p.swap∈PF F:=by rw[hE.mem]at h ⊢;rw[aBJ];exact h.symm
theorem Emb.at_iff{p:Int×Int}(hp:∃ e∈E,prE e=unA p):cd p∈flP (pls A)↔p∈PF F:=by
 rw[hE.dart];constructor
 .rintro⟨q,hq,e⟩;rw[hP.cdin hp (hE.sub hq) e];exact hq
 .intro h;exact⟨p,h,rfl⟩
theorem Emb.closed{r:List Int}(hr:r∈F){d:Int}(h:SdT s A r d):SdT s A r (swP s (pls A) d):=by
 obtain⟨p,hp,hx⟩:=h;by_cases hd:d∈flP (pls A)
 .have e:=hx.of_mem hd;rw[<- e];have hpF:p∈PF F:=bE.2 ⟨r,hr,hp⟩;have hs:swP s (pls A) (cd p)=s (cd p.swap):=by
   rcases(hE.mem p).1 hpF with k|k
   .exact(nL s (hP.fl_nd hE.pE) (cd p,cd p.swap) (aAj.2 ⟨p,k,rfl⟩)).1
   .exact(nL s (hP.fl_nd hE.pE) (cd p.swap,cd p) (aAj.2 ⟨p.swap,k,by rw[aBJ]⟩)).2
  rw[hs];obtain⟨w,hw⟩:=iM (oW (x:=p.1) (y:=p.2) hp).2;exact⟨(p.2,w),hw,hE.step r hr p.1 p.2 w hp hw⟩
 .rw[nI s hd];exact⟨p,hp,hx.up hd⟩
theorem Emb.orb{r:List Int}(hr:r∈F){d d':Int}(h:SdT s A r d)(ho:Orb (swP s (pls A)) d d'):SdT s A r d':=by
 obtain⟨n,rfl⟩:=ho;induction n with
 |zero=>exact h
 |succ n ih=>rw[bW];exact hE.closed hP hr ih
theorem Emb.ex{p:Int×Int}(hp:∃ e∈E,prE e=unA p){u:Int}(hv:(p.1,u)∈PF F):∃ r∈F,SdT s A r (cd p):=by obtain⟨e,he⟩:=Nx.ex (S:=flP (pls A)) ((hP.orb hp (hE.sub hv)).2 rfl) (hE.dart.2 ⟨_,hv,rfl⟩);obtain⟨q,hq,rfl⟩:=hE.dart.1 he.mem;obtain⟨r,hr,k⟩:=bE.1 hq;exact⟨r,hr,q,k,he⟩
theorem Emb.fn{r r':List Int}(hr:r∈F)(M5:r'∈F){d:Int}(h:SdT s A r d)(h':SdT s A r' d):r=r':=by obtain⟨p,hp,hx⟩:=h;obtain⟨q,hq,hy⟩:=h';have hpq:=hP.cdin (hE.sub (bE.2 ⟨r,hr,hp⟩)) (hE.sub (bE.2 ⟨r',M5,hq⟩)) (hx.fn hy);subst hpq;exact EZ hE.nd hr M5 hp hq
theorem Emb.here{r:List Int}(hr:r∈F){p:Int×Int}(hp:∃ e∈E,prE e=unA p)(h:SdT s A r (cd p)):p.1∈r:=by obtain⟨q,hq,hx⟩:=h;rw[(hP.orb hp (hE.sub (bE.2 ⟨r,hr,hq⟩))).1 hx.orb];exact(oW (x:=q.1) (y:=q.2) hq).1
structure WyE(E:List Ed)(F:List (List Int))(x y:Int)(M:List Int):Prop where
 nd:(x::(M++[y])).Nodup
 ed:∀ u v,(u,v)∈lnk (x::(M++[y]))->∃ e∈E,prE e=prP u v
 new:∀ p,p∈lnk (x::(M++[y]))->p∉PF F
 off:∀ v∈M,∀ u,(v,u)∉PF F
 onx:∃ u,(x,u)∈PF F
 ony:∃ u,(y,u)∈PF F
omit hP in
theorem Emb.arcs_way{x y:Int}{M:List Int}(hw:WyE E F x y M):iP E (lnk (x::(M++[y]))++A):=by
 refine⟨fun p hp=>?_,?_⟩
 .rcases aAd.1 hp with h|h
  .exact hw.ed p.1 p.2 h
  .exact hE.pE.mem p h
 .rw[aAu,aAo];refine⟨?_,hE.pE.nd,fun a ha b hb e=>?_⟩
  .have:=fG hw.nd;rw[eC]at this;exact this
  .obtain⟨p,hp,rfl⟩:=aAj.1 ha;obtain⟨q,hq,rfl⟩:=aAj.1 hb;refine hw.new p hp ((hE.mem p).2 ?_);rcases bK e with⟨e1,e2⟩|⟨e1,e2⟩
   .exact .inl (by rw[show p=q from aBU e1 e2];exact hq)
   .exact .inr (by rw[show p.swap=q from aBU e2 e1];exact hq)
theorem Emb.wayT{x y:Int}{M:List Int}(hw:WyE E F x y M){u t:Int}(hu:(x,u)∈lnk (x::(M++[y])))(ht:(t,y)∈lnk (x::(M++[y]))){r:List Int}(hr:r∈F)(h:SdT s A r (cd (x,u))):SdT s A r (cd (y,t)):=by
 have hA:=hE.arcs_way hw;obtain⟨N,t',hN⟩:∃ N t',x::M=N++[t']:=⟨(x::M).dropLast,(x::M).getLast sS,(aBZ _).symm⟩;have hl:lnk (x::(M++[y]))=lnk (x::M)++[(t',y)]:=by rw[<- List.cons_append,hN,aAE];exact eX t' [y] N
 have htt:t=t':=wK hw.nd ht (by rw[hl];simp);subst htt;have r9:(lnk (x::(M++[y]))++A).Perm ((t,y)::(lnk (x::M)++A)):=by rw[hl,aAE];exact aCe
 have hA2:=hA.perm r9;have hxn:=(aAq.1 hw.nd).1;have hyM:y∉M:=fun k=>by have:=(aAo.1 (aAq.1 hw.nd).2).2.2 y k y sS;exact this rfl
 have hxM:x∉M:=fun k=>hxn (aAr _ k);have hedE:∀ p,p∈lnk (x::(M++[y]))->∃ e∈E,prE e=unA p:=fun p hp=>hw.ed p.1 p.2 hp;have hinn:∀ p,(∃ e∈E,prE e=unA p)->Inn s (pls (lnk (x::M))) (cd p)->p.1∈M:=by
  rintro p hp ⟨q,hq,ho⟩;obtain⟨a,ha,rfl⟩:=aAj.1 hq;have hae:∃ e∈E,prE e=unA a.swap:=by rw[fQ];exact hedE a (by rw[hl];exact aAr _ ha)
  rw[<- (hP.orb hae hp).1 ho];exact iW (a:=a.1) (b:=a.2) ha
 obtain⟨ux,hux⟩:=hw.onx;obtain⟨uy,huy⟩:=hw.ony;have hxe:=hedE _ hu;have hye:∃ e∈E,prE e=unA (y,t):=by rw[show unA (y,t)=unA (t,y) from aL _ _];exact hedE _ ht
 have hEq:=dM hP.per.eqv (pls A);obtain⟨D,hPD⟩:=id hP;refine hE.orb hP hr h (Qo (z:=(cd (t,y),cd (y,t))) (Q:=pls (lnk (x::M))) hPD.perm ?_ ?_ (fun d hd k=>?_) (fun k=>?_) ?_ (fun k=>?_) ?_ ?_)
 .have:=hP.fl_nd hA2;have e:pls ((t,y)::(lnk (x::M)++A))=(cd (t,y),cd (y,t))::(pls (lnk (x::M))++pls A):=by unfold pls;rw[aAn,aAu];rfl
  rw[<- e];exact this
 .have:=hP.way (w:=x::(M++[y])) hw.ed;rw[hl]at this;have e:pls (lnk (x::M)++[(t,y)])=pls (lnk (x::M))++[(cd (t,y),cd (y,t))]:=by unfold pls;rw[aAu];rfl
  rw[<- e];exact this
 .obtain⟨p,hp,rfl⟩:=hE.dart.1 hd;exact hw.off _ (hinn p (hE.sub hp) k) p.2 hp
 .exact hyM (hinn (y,t) hye k)
 .cases hM:M with
  |nil=>
   subst hM;have hut:u=y:=by
    rcases aAe.1 hu with e|e
    .injection e with _ e
    .cases e
   have htx:t=x:=by
    rcases aAe.1 ht with e|e
    .injection e with e _
    .cases e
   exact .inl ⟨rfl,by rw[hut,htx]⟩
  |cons m M'=>subst hM;have hum:u=m:=fH hw.nd hu (by simp[lnk]);exact .inr ⟨(cd (x,m),cd (m,x)),pls (lnk (m::M')),rfl,by rw[hum]⟩
 .exact hxM (hinn (x,u) hxe k)
 .have:=hP.face hA2;have e:pls (lnk (x::M)++A)=pls (lnk (x::M))++pls A:=by unfold pls;rw[aAu]
  rw[e]at this;exact this
 .refine hEq.trans (fT _ ((hP.orb hxe (hE.sub hux)).2 rfl)) (hEq.trans (hE.con _ (hE.dart.2 ⟨_,hux,rfl⟩) _ (hE.dart.2 ⟨_,huy,rfl⟩)) (fT _ ((hP.orb (hE.sub huy) hye).2 rfl)))
end
theorem cB{x y:Int}{P Q:List Int}{p:Int×Int}:p∈prs (x::(P++y::Q))↔p∈lnk (x::(P++[y]))\/p∈lnk (y::(Q++[x])):=by have:=(uV x y P Q []).mem_iff (a:=p);rw[aAd]at this;exact this
theorem nW{x y:Int}{M:List Int}{a b:Int}:(a,b)∈lnk (y::(M.reverse++[x]))↔(b,a)∈lnk (x::(M++[y])):=by have e:y::(M.reverse++[x])=(x::(M++[y])).reverse:=sS;rw[e];exact oM.symm
section
variable {E:List Ed} {s:Int->Int} (hP:PlE E s) {A:List (Int×Int)} {F:List (List Int)} {x y:Int} {P Q M:List Int}
 (hE:Emb E s A ((x::(P++y::Q))::F)) (hw:WyE E ((x::(P++y::Q))::F) x y M) {u t:Int} (hu:(x,u)∈lnk (x::(M++[y]))) (ht:(t,y)∈lnk (x::(M++[y])))
include hE hw
theorem BS:x∉M/\y∉M/\x≠y:=by obtain⟨h1,h2⟩:=aAq.1 hw.nd;refine⟨fun k=>h1 (aAr _ k),fun k=>(aAo.1 h2).2.2 y k y sS rfl,fun e=>h1 (by rw[e];simp)⟩
theorem FM{v:Int}(h:v∈M):v∉x::(P++y::Q):=fun k=>by obtain⟨z,hz⟩:=iM k;exact hw.off v h z (bE.2 ⟨_,aAf,hz⟩)
theorem uN:x∉P/\y∉P/\x∉Q/\y∉Q/\(∀ v∈P,v∉Q)/\(x::(P++[y])).Nodup/\(y::(Q++[x])).Nodup:=by
 have h:=hE.simple _ aAf;obtain⟨h1,h2⟩:=aAq.1 h;obtain⟨h3,h4,h5⟩:=aAo.1 h2;obtain⟨h6,h7⟩:=aAq.1 h4;have a1:x∉P:=fun k=>h1 (aAr _ k);have a2:y∉P:=fun k=>h5 y k y sS rfl;have a3:x∉Q:=fun k=>h1 (aAx _ (aAc _ k));have a4:x≠y:=fun e=>h1 (by rw[e];simp);refine⟨a1,a2,a3,h6,fun v hv k=>h5 v hv v (aAc _ k) rfl,?_,?_⟩
 .refine aAq.2 ⟨fun k=>?_,aAo.2 ⟨h3,sS,fun a ha b hb e=>?_⟩⟩
  .rcases aAd.1 k with k|k
   .exact a1 k
   .exact a4 (aAi.1 k)
  .rw[aAi.1 hb]at e;exact a2 (e ▸ ha)
 .refine aAq.2 ⟨fun k=>?_,aAo.2 ⟨h7,sS,fun a ha b hb e=>?_⟩⟩
  .rcases aAd.1 k with k|k
   .exact h6 k
   .exact a4 (aAi.1 k).symm
  .rw[aAi.1 hb]at e;exact a3 (e ▸ ha)
theorem zV(p:Int×Int):p∈PF ((x::(P++y::M.reverse))::(y::(Q++x::M))::F)↔p∈PF ((x::(P++y::Q))::F)\/p∈lnk (x::(M++[y]))\/p.swap∈lnk (x::(M++[y])):=by
 have e:∀(r:List Int) (F:List (List Int)),p∈PF (r::F)↔p∈prs r\/p∈PF F:=fun r F=>by unfold PF;rw[aAJ,aAd]
 rw[e,e,e,cB,cB,cB,show(p∈lnk (y::(M.reverse++[x]))↔p.swap∈lnk (x::(M++[y]))) from nW (a:=p.1) (b:=p.2)];constructor
 .rintro((h|h)|(h|h)|h)
  .exact .inl (.inl (.inl h))
  .exact .inr (.inr h)
  .exact .inl (.inl (.inr h))
  .exact .inr (.inl h)
  .exact .inl (.inr h)
 .rintro(((h|h)|h)|h|h)
  .exact .inl (.inl h)
  .exact .inr (.inl (.inl h))
  .exact .inr (.inr h)
  .exact .inr (.inl (.inr h))
  .exact .inl (.inr h)
theorem nH{p:Int×Int}(h:p∈lnk (x::(M++[y]))\/p.swap∈lnk (x::(M++[y]))):p∉PF ((x::(P++y::Q))::F):=fun k=>by
 rcases h with h|h
 .exact hw.new p h k
 .exact hw.new _ h (hE.swap k)
theorem Vx:(PF ((x::(P++y::M.reverse))::(y::(Q++x::M))::F)).Nodup:=by
 have hp:(PF ((x::(P++y::M.reverse))::(y::(Q++x::M))::F)).Perm ((lnk (x::(M++[y]))++lnk (y::(M.reverse++[x])))++PF ((x::(P++y::Q))::F)):=by have e1:=(uV x y P M.reverse []).count_eq;have e2:=(uV y x Q M []).count_eq;have e3:=(uV x y P Q []).count_eq;refine aEt.2 fun z=>?_;have f1:=e1 z;have f2:=e2 z;have f3:=e3 z;unfold PF;simp only[List.nil_append,aAJ,List.count_append]at *;omega
 rw[hp.nodup_iff,aAo,aAo];obtain⟨n1,n2⟩:=dF hw.nd;refine⟨⟨n1,?_,fun a ha b hb e=>?_⟩,hE.nd,fun a ha b hb e=>?_⟩
 .have:(y::(M.reverse++[x])).Nodup:=by have e:y::(M.reverse++[x])=(x::(M++[y])).reverse:=sS;rw[e];exact(aBo _).nodup_iff.2 hw.nd
  exact(dF this).1
 .subst e;exact(n2 a.1 a.2 ha).2 (nW.1 hb)
 .subst e;refine nH hE hw ?_ hb;rcases aAd.1 ha with ha|ha
  .exact .inl ha
  .exact .inr (nW (a:=a.1) (b:=a.2).1 ha)
theorem Vr{p:Int×Int}(h:p∈lnk (x::(M++[y]))\/p.swap∈lnk (x::(M++[y]))):p.1∈x::(M++[y]):=by
 rcases h with h|h
 .exact(bF (x:=p.1) (y:=p.2) h).1
 .exact(bF (x:=p.2) (y:=p.1) h).2
include hP hu ht
theorem EY{p:Int×Int}(hp:∃ e∈E,prE e=unA p):cd p∈flP (pls (lnk (x::(M++[y]))++A))↔p∈PF ((x::(P++y::Q))::F)\/p∈lnk (x::(M++[y]))\/p.swap∈lnk (x::(M++[y])):=by
 rw[eT,hE.mem];simp only[aAd];constructor
 .rintro⟨q,hq,e⟩;have Z7:∃ e∈E,prE e=unA q:=by
   rcases hq with(h|h)|h|h
   .exact hw.ed q.1 q.2 h
   .exact hE.pE.mem q h
   .rw[<- fQ];exact hw.ed q.2 q.1 h
   .rw[<- fQ];exact hE.pE.mem _ h
  rw[hP.cdin hp Z7 e];rcases hq with(h|h)|h|h
  .exact .inr (.inl h)
  .exact .inl (.inl h)
  .exact .inr (.inr h)
  .exact .inl (.inr h)
 .rintro((h|h)|h|h)
  .exact⟨p,.inl (.inr h),rfl⟩
  .exact⟨p,.inr (.inr h),rfl⟩
  .exact⟨p,.inl (.inl h),rfl⟩
  .exact⟨p,.inr (.inl h),rfl⟩
theorem BO{p:Int×Int}(h:p∈PF ((x::(P++y::Q))::F)\/p∈lnk (x::(M++[y]))\/p.swap∈lnk (x::(M++[y]))):∃ e∈E,prE e=unA p:=by
 rcases h with h|h|h
 .exact hE.sub h
 .exact hw.ed p.1 p.2 h
 .rw[<- fQ];exact hw.ed p.2 p.1 h
theorem Hu{p:Int×Int}(hp:∃ e∈E,prE e=unA p)(hv:p.1∉x::(M++[y])):∀ z,Orb s (cd p) z->(z∈flP (pls A)↔z∈flP (pls (lnk (x::(M++[y]))++A))):=by
 intro z hz;constructor
 .intro h;obtain⟨q,hq,rfl⟩:=hE.dart.1 h;exact(EY hP hE hw hu ht (hE.sub hq)).2 (.inl hq)
 .intro h;obtain⟨q,hq,rfl⟩:=eT.1 h;have hq':q∈PF ((x::(P++y::Q))::F)\/q∈lnk (x::(M++[y]))\/q.swap∈lnk (x::(M++[y])):=by
   rw[hE.mem];simp only[aAd]at hq;rcases hq with(k|k)|k|k
   .exact .inr (.inl k)
   .exact .inl (.inl k)
   .exact .inr (.inr k)
   .exact .inl (.inr k)
  have Z7:=BO hP hE hw hu ht hq';have hb:=(hP.orb hp Z7).1 hz;rcases hq' with k|k
  .exact hE.dart.2 ⟨q,k,rfl⟩
  .exact absurd (Vr hE hw k) (by rw[<- hb];exact hv)
theorem KV:∀ z,Orb s (cd (x,u)) z->(z∈flP (pls (lnk (x::(M++[y]))++A))↔z∈flP (pls A)\/z=cd (x,u)):=by
 intro z hz;obtain⟨n1,n2,n3⟩:=BS hE hw;have hxe:=hw.ed x u hu;constructor
 .intro h;obtain⟨q,hq,rfl⟩:=eT.1 h;simp only[aAd]at hq
  have Z7:∃ e∈E,prE e=unA q:=BO hP hE hw hu ht (by
   rw[hE.mem];rcases hq with(k|k)|k|k
   .exact .inr (.inl k)
   .exact .inl (.inl k)
   .exact .inr (.inr k)
   .exact .inl (.inr k))
  have hb:x=q.1:=(hP.orb (p:=(x,u)) hxe Z7).1 hz;rcases hq with(k|k)|k|k
  .have:(x,q.2)∈lnk (x::(M++[y])):=by rw[hb]at k ⊢;exact k
   have h2:=fH hw.nd this hu;exact .inr (by rw[show q=(x,u) from aBU hb.symm h2])
  .exact .inl (eT.2 ⟨q,.inl k,rfl⟩)
  .have:=iW (a:=q.2) (b:=q.1) k;rw[<- hb]at this;rcases aAd.1 this with h|h
   .exact absurd h n1
   .exact absurd (aAi.1 h) n3
  .exact .inl (eT.2 ⟨q,.inr k,rfl⟩)
 .rintro(h|rfl)
  .obtain⟨q,hq,rfl⟩:=eT.1 h;refine eT.2 ⟨q,?_,rfl⟩;simp only[aAd];exact hq.imp .inr .inr
  .exact(EY hP hE hw hu ht (p:=(x,u)) hxe).2 (.inr (.inl hu))
theorem Lu:∀ z,Orb s (cd (y,t)) z->(z∈flP (pls (lnk (x::(M++[y]))++A))↔z∈flP (pls A)\/z=cd (y,t)):=by
 intro z hz;obtain⟨n1,n2,n3⟩:=BS hE hw;have hye:∃ e∈E,prE e=unA (y,t):=by rw[show unA (y,t)=unA (t,y) from aL _ _];exact hw.ed t y ht
 constructor
 .intro h;obtain⟨q,hq,rfl⟩:=eT.1 h;simp only[aAd]at hq
  have Z7:∃ e∈E,prE e=unA q:=BO hP hE hw hu ht (by
   rw[hE.mem];rcases hq with(k|k)|k|k
   .exact .inr (.inl k)
   .exact .inl (.inl k)
   .exact .inr (.inr k)
   .exact .inl (.inr k))
  have hb:y=q.1:=(hP.orb (p:=(y,t)) hye Z7).1 hz;rcases hq with(k|k)|k|k
  .have:=eU (y:=y) (l:=x::M) (a:=q.1) (b:=q.2) k;rw[<- hb]at this;rcases aAe.1 this with h|h
   .exact absurd h.symm n3
   .exact absurd h n2
  .exact .inl (eT.2 ⟨q,.inl k,rfl⟩)
  .have h1:(q.2,y)∈lnk (x::(M++[y])):=by rw[show(q.2,y)=q.swap from aBU rfl hb];exact k
   have h2:=wK hw.nd h1 ht;exact .inr (by rw[show q=(y,t) from aBU hb.symm h2])
  .exact .inl (eT.2 ⟨q,.inr k,rfl⟩)
 .rintro(h|rfl)
  .obtain⟨q,hq,rfl⟩:=eT.1 h;refine eT.2 ⟨q,?_,rfl⟩;simp only[aAd];exact hq.imp .inr .inr
  .exact(EY hP hE hw hu ht hye).2 (.inr (.inr ht))
theorem Kc{v a b:Int}(hv:v∈M)(h2:((a,v)∈lnk (x::(M++[y]))/\(v,b)∈lnk (x::(M++[y])))\/((v,a)∈lnk (x::(M++[y]))/\(b,v)∈lnk (x::(M++[y])))):
 Nx s (flP (pls (lnk (x::(M++[y]))++A))) (s (cd (v,a))) (cd (v,b)):=by
 have x7:a≠b:=fun e=>by
  subst e;rcases h2 with⟨k1,k2⟩|⟨k1,k2⟩
  .exact((dF hw.nd).2 _ _ k1).2 k2
  .exact((dF hw.nd).2 _ _ k1).2 k2
 have ma:(v,a)∈lnk (x::(M++[y]))\/(v,a).swap∈lnk (x::(M++[y])):=h2.elim (fun k=>.inr k.1) fun k=>.inl k.1;have mb:(v,b)∈lnk (x::(M++[y]))\/(v,b).swap∈lnk (x::(M++[y])):=h2.elim (fun k=>.inl k.2) fun k=>.inr k.2;have ea:=BO hP hE hw hu ht (.inr ma);have eb:=BO hP hE hw hu ht (.inr mb);have ib:=(EY hP hE hw hu ht eb).2 (.inr mb);have oab:Orb s (cd (v,a)) (cd (v,b)):=(hP.orb ea eb).2 rfl;have oa:Orb s (s (cd (v,a))) (cd (v,b)):=(Orb.symm hP.per (Orb.step s _)).trans oab;obtain⟨f,hf⟩:=Nx.ex oa ib;obtain⟨q,hq,rfl⟩:=eT.1 hf.mem;simp only[aAd]at hq
 have Z7:∃ e∈E,prE e=unA q:=BO hP hE hw hu ht (by
  rw[hE.mem];rcases hq with(k|k)|k|k
  .exact .inr (.inl k)
  .exact .inl (.inl k)
  .exact .inr (.inr k)
  .exact .inl (.inr k))
 have hqv:v=q.1:=(hP.orb (p:=(v,a)) ea Z7).1 ((Orb.step s _).trans hf.orb);have x9:q∉PF ((x::(P++y::Q))::F):=fun k=>hw.off v hv q.2 (by rw[hqv];exact k);rw[hE.mem]at x9;have K1:q∈lnk (x::(M++[y]))\/q.swap∈lnk (x::(M++[y])):=by
  rcases hq with(k|k)|k|k
  .exact .inl k
  .exact absurd (.inl k) x9
  .exact .inr k
  .exact absurd (.inr k) x9
 have hq3:q.2=a\/q.2=b:=by
  rcases K1 with k|k
  .have k:(v,q.2)∈lnk (x::(M++[y])):=by rw[hqv];exact k
   rcases h2 with h|h
   .exact .inr (fH hw.nd k h.2)
   .exact .inl (fH hw.nd k h.1)
  .have k:(q.2,v)∈lnk (x::(M++[y])):=by rw[hqv];exact k
   rcases h2 with h|h
   .exact .inl (wK hw.nd k h.1)
   .exact .inr (wK hw.nd k h.2)
 rcases hq3 with h|h
 .have e:q=(v,a):=aBU hqv.symm h;rw[e]at hf;have:=hf.loop ib oab;exact absurd (congrArg Prod.snd (hP.cdin eb ea this)).symm x7
 .have e:q=(v,b):=aBU hqv.symm h;rw[<- e];exact hf
end
section
variable {E:List Ed} {s:Int->Int} (hP:PlE E s) {A:List (Int×Int)} {F:List (List Int)} {x y:Int} {P Q M:List Int}
 (hE:Emb E s A ((x::(P++y::Q))::F)) (hw:WyE E ((x::(P++y::Q))::F) x y M) {u t:Int} (hu:(x,u)∈lnk (x::(M++[y]))) (ht:(t,y)∈lnk (x::(M++[y])))
include hP hE hw hu ht
theorem vB:∃ e∈E,prE e=unA (y,t):=by rw[show unA (y,t)=unA (t,y) from aL _ _];exact hw.ed t y ht
theorem LB:cd (x,u)∉flP (pls A):=fun k=>nH hE hw (.inl hu) ((hE.at_iff hP (p:=(x,u)) (hw.ed x u hu)).1 k)
theorem LO:cd (y,t)∉flP (pls A):=fun k=>nH hE hw (p:=(y,t)) (.inr ht) ((hE.at_iff hP (vB hP hE hw hu ht)).1 k)
theorem Pz(hT:SdT s A (x::(P++y::Q)) (cd (x,u))):∃ b,(x,b)∈lnk (x::(P++[y]))/\Nx s (flP (pls A)) (cd (x,u)) (cd (x,b)):=by
 obtain⟨p,hp,hx⟩:=hT;have hpF:p∈PF ((x::(P++y::Q))::F):=bE.2 ⟨_,aAf,hp⟩;have h1:x=p.1:=(hP.orb (p:=(x,u)) (hw.ed x u hu) (hE.sub hpF)).1 hx.orb;obtain⟨r1,r2,r3,r4,r5,r6,r7⟩:=uN hE hw;have h2:p=(x,p.2):=aBU h1.symm rfl;refine⟨p.2,?_,h2 ▸ hx⟩;rw[cB]at hp;rcases hp with h|h
 .rw[<- h2];exact h
 .have:=eU (y:=x) (l:=y::Q) (a:=p.1) (b:=p.2) h;rw[<- h1]at this;rcases aAe.1 this with k|k
  .exact absurd k (BS hE hw).2.2
  .exact absurd k r3
theorem Oz(hT:SdT s A (x::(P++y::Q)) (cd (x,u))):∃ b,(y,b)∈lnk (y::(Q++[x]))/\Nx s (flP (pls A)) (cd (y,t)) (cd (y,b)):=by
 obtain⟨p,hp,hx⟩:=hE.wayT hP hw hu ht aAf hT;have hpF:p∈PF ((x::(P++y::Q))::F):=bE.2 ⟨_,aAf,hp⟩;have h1:y=p.1:=(hP.orb (p:=(y,t)) (vB hP hE hw hu ht) (hE.sub hpF)).1 hx.orb;obtain⟨r1,r2,r3,r4,r5,r6,r7⟩:=uN hE hw;have h2:p=(y,p.2):=aBU h1.symm rfl;refine⟨p.2,?_,h2 ▸ hx⟩;rw[cB]at hp;rcases hp with h|h
 .have:=eU (y:=y) (l:=x::P) (a:=p.1) (b:=p.2) h;rw[<- h1]at this;rcases aAe.1 this with k|k
  .exact absurd k.symm (BS hE hw).2.2
  .exact absurd k r2
 .rw[<- h2];exact h
variable {bx by':Int} (S3:(x,bx)∈lnk (x::(P++[y]))) (P5:(y,by')∈lnk (y::(Q++[x]))) (hx:Nx s (flP (pls A)) (cd (x,u)) (cd (x,bx))) (hy:Nx s (flP (pls A)) (cd (y,t)) (cd (y,by')))
include S3 P5 hx hy
theorem VQ:(x,bx)∈PF ((x::(P++y::Q))::F)/\(y,by')∈PF ((x::(P++y::Q))::F):=
 ⟨bE.2 ⟨_,aAf,cB.2 (.inl S3)⟩,bE.2 ⟨_,aAf,cB.2 (.inr P5)⟩⟩
theorem TS{r:List Int}(hr:r∈(x::(P++y::Q))::F){a v b:Int}(h1:(a,v)∈prs r)(h2:(v,b)∈prs r)(nx:(v,b)≠(x,bx))(ny:(v,b)≠(y,by')):
 Nx s (flP (pls (lnk (x::(M++[y]))++A))) (s (cd (v,a))) (cd (v,b)):=by
 have h0:=hE.step r hr a v b h1 h2;have hva:(v,a)∈PF ((x::(P++y::Q))::F):=hE.swap (bE.2 ⟨r,hr,h1⟩);have hvb:(v,b)∈PF ((x::(P++y::Q))::F):=bE.2 ⟨r,hr,h2⟩;have eva:=hE.sub hva;obtain⟨b1,b2⟩:=VQ hP hE hw hu ht S3 P5 hx hy;by_cases hv:v∈x::(M++[y])
 .rcases aAe.1 hv with rfl|hv
  .exact Nx.add_other hP.per (KV hP hE hw hu ht) (LB hP hE hw hu ht) hx ((hP.orb (p:=(v,u)) (hw.ed v u hu) eva).2 rfl) h0 fun e=>nx (hP.cdin (hE.sub hvb) (hE.sub b1) e)
  .rcases aAd.1 hv with hv|hv
   .exact absurd hva (hw.off v hv a)
   .have:=aAi.1 hv;subst this;exact Nx.add_other hP.per (Lu hP hE hw hu ht) (LO hP hE hw hu ht) hy ((hP.orb (vB hP hE hw hu ht) eva).2 rfl) h0 fun e=>ny (hP.cdin (hE.sub hvb) (hE.sub b2) e)
 .exact h0.same fun z hz=>Hu hP hE hw hu ht (p:=(v,a)) eva hv z ((Orb.step s _).trans hz)
theorem SK{r:List Int}(hr:r∈(x::(P++y::M.reverse))::(y::(Q++x::M))::F){a v b:Int}(h1:(a,v)∈prs r)(h2:(v,b)∈prs r):
 Nx s (flP (pls (lnk (x::(M++[y]))++A))) (s (cd (v,a))) (cd (v,b)):=by
 obtain⟨b1,b2⟩:=VQ hP hE hw hu ht S3 P5 hx hy;obtain⟨r1,r2,r3,r4,r5,r6,r7⟩:=uN hE hw;obtain⟨m1,m2,m3⟩:=BS hE hw;have n9:=fun v=>FM hE hw (v:=v);have inr0:x::(P++y::Q)∈(x::(P++y::Q))::F:=aAf;have old:=fun(r:List Int) hr a v b h1 h2=>TS hP hE hw hu ht S3 P5 hx hy (r:=r) hr (a:=a) (v:=v) (b:=b) h1 h2;have nxd:=LB hP hE hw hu ht;have nyd:=LO hP hE hw hu ht
 have toX:∀ a,(a,x)∈PF ((x::(P++y::Q))::F)->(a,x)∈prs (x::(P++y::Q))->Nx s (flP (pls (lnk (x::(M++[y]))++A))) (s (cd (x,a))) (cd (x,u)):=fun a k1 k2=>
  Nx.add_at hP.per (KV hP hE hw hu ht) nxd hx (hE.dart.2 ⟨_,hE.swap k1,rfl⟩) ((hP.orb (p:=(x,u)) (hw.ed x u hu) (hE.sub (hE.swap k1))).2 rfl) (hE.step _ inr0 a x bx k2 (cB.2 (.inl S3)))
 have toY:∀ a,(a,y)∈PF ((x::(P++y::Q))::F)->(a,y)∈prs (x::(P++y::Q))->Nx s (flP (pls (lnk (x::(M++[y]))++A))) (s (cd (y,a))) (cd (y,t)):=fun a k1 k2=>
  Nx.add_at hP.per (Lu hP hE hw hu ht) nyd hy (hE.dart.2 ⟨_,hE.swap k1,rfl⟩) ((hP.orb (vB hP hE hw hu ht) (hE.sub (hE.swap k1))).2 rfl) (hE.step _ inr0 a y by' k2 (cB.2 (.inr P5)))
 have ofX:=Nx.add_of hP.per (KV hP hE hw hu ht) nxd hx;have ofY:=Nx.add_of hP.per (Lu hP hE hw hu ht) nyd hy;rcases aAe.1 hr with rfl|hr
 .rw[cB]at h1 h2;rcases h1 with h1|h1
  .have v1:=iW h1;rcases h2 with h2|h2
   .have v2:=eU (y:=y) (l:=x::P) h2;refine old _ inr0 a v b (cB.2 (.inl h1)) (cB.2 (.inl h2)) (fun e=>?_) fun e=>?_
    .have e:v=x:=congrArg Prod.fst e;subst e;rcases aAd.1 v1 with k|k
     .exact r1 k
     .exact m3 (aAi.1 k)
    .have e:v=y:=congrArg Prod.fst e;subst e;rcases aAe.1 v2 with k|k
     .exact m3 k.symm
     .exact r2 k
   .have h2':=nW.1 h2;have v2:=iW h2';have hvy:v=y:=by
     rcases aAd.1 v2 with k|k
     .rcases aAd.1 v1 with k'|k'
      .exact absurd (aAc _ (aAr _ k')) (n9 v k)
      .exact aAi.1 k'
     .exact aAi.1 k
    subst hvy;rw[wK hw.nd h2' ht];exact toY a (bE.2 ⟨_,inr0,cB.2 (.inl h1)⟩) (cB.2 (.inl h1))
  .have h1':=nW.1 h1;rcases h2 with h2|h2
   .have v1:=eU (y:=y) (l:=x::M) h1';have v2:=eU (y:=y) (l:=x::P) h2;have hvx:v=x:=by
     rcases aAe.1 v1 with k|k
     .exact k
     .rcases aAe.1 v2 with k'|k'
      .exact k'
      .exact absurd (aAc _ (aAr _ k')) (n9 v k)
    subst hvx;rw[fH hw.nd h1' hu,fH r6 h2 S3];exact ofX
   .have h2':=nW.1 h2;have v1:=eU (y:=y) (l:=x::M) h1';have v2:=iW h2';have hv:v∈M:=by
     rcases aAe.1 v1 with k|k
     .subst k;rcases aAd.1 v2 with k'|k'
      .exact k'
      .exact absurd (aAi.1 k') m3
     .exact k
    exact Kc hP hE hw hu ht hv (.inr ⟨h1',h2'⟩)
 rcases aAe.1 hr with rfl|hr
 .rw[cB]at h1 h2;rcases h1 with h1|h1
  .have v1:=iW h1;rcases h2 with h2|h2
   .have v2:=eU (y:=x) (l:=y::Q) h2;refine old _ inr0 a v b (cB.2 (.inr h1)) (cB.2 (.inr h2)) (fun e=>?_) fun e=>?_
    .have e:v=x:=congrArg Prod.fst e;subst e;rcases aAe.1 v2 with k|k
     .exact m3 k
     .exact r3 k
    .have e:v=y:=congrArg Prod.fst e;subst e;rcases aAd.1 v1 with k|k
     .exact r4 k
     .exact m3 (aAi.1 k).symm
   .have v2:=eU (y:=y) (l:=x::M) h2;have hvx:v=x:=by
     rcases aAe.1 v2 with k|k
     .exact k
     .rcases aAd.1 v1 with k'|k'
      .exact absurd (aAc _ (aAx _ (aAc _ k'))) (n9 v k)
      .exact aAi.1 k'
    subst hvx;rw[fH hw.nd h2 hu];exact toX a (bE.2 ⟨_,inr0,cB.2 (.inr h1)⟩) (cB.2 (.inr h1))
  .have v1:=iW h1;rcases h2 with h2|h2
   .have v2:=eU (y:=x) (l:=y::Q) h2;have hvy:v=y:=by
     rcases aAd.1 v1 with k|k
     .rcases aAe.1 v2 with k'|k'
      .exact k'
      .exact absurd (aAc _ (aAx _ (aAc _ k'))) (n9 v k)
     .exact aAi.1 k
    subst hvy;rw[wK hw.nd h1 ht,fH r7 h2 P5];exact ofY
   .have v2:=eU (y:=y) (l:=x::M) h2;have hv:v∈M:=by
     rcases aAe.1 v2 with k|k
     .subst k;rcases aAd.1 v1 with k'|k'
      .exact k'
      .exact absurd (aAi.1 k') m3
     .exact k
    exact Kc hP hE hw hu ht hv (.inl ⟨h1,h2⟩)
 .have hn:=hE.nd;have hn:(prs (x::(P++y::Q))++PF F).Nodup:=hn;have hd:=(aAo.1 hn).2.2;refine old r (aAc _ hr) a v b h1 h2 (fun e=>?_) fun e=>?_
  .exact hd (x,bx) (cB.2 (.inl S3)) (x,bx) (bE.2 ⟨r,hr,e ▸ h2⟩) rfl
  .exact hd (y,by') (cB.2 (.inr P5)) (y,by') (bE.2 ⟨r,hr,e ▸ h2⟩) rfl
end
section
variable {E:List Ed} {s:Int->Int} (hP:PlE E s) {A:List (Int×Int)} {F:List (List Int)} {x y:Int} {P Q M:List Int}
 (hE:Emb E s A ((x::(P++y::Q))::F)) (hw:WyE E ((x::(P++y::Q))::F) x y M) {u t:Int} (hu:(x,u)∈lnk (x::(M++[y]))) (ht:(t,y)∈lnk (x::(M++[y])))
 (hT:SdT s A (x::(P++y::Q)) (cd (x,u)))
include hP hE hw hu ht hT
theorem Emb.lay:Emb E s (lnk (x::(M++[y]))++A) ((x::(P++y::M.reverse))::(y::(Q++x::M))::F):=by
 obtain⟨bx,S3,hx⟩:=Pz hP hE hw hu ht hT;obtain⟨by',P5,hy⟩:=Oz hP hE hw hu ht hT;obtain⟨r1,r2,r3,r4,r5,r6,r7⟩:=uN hE hw;have hM:M.Nodup:=(aAo.1 (aAq.1 hw.nd).2).1;refine⟨hE.arcs_way hw,Vx hE hw,fun r hr=>?_,fun p=>?_,fun r hr a v b h1 h2=>SK hP hE hw hu ht S3 P5 hx hy hr h1 h2,?_⟩
 .rcases aAe.1 hr with rfl|hr
  .have e:x::(P++y::M.reverse)=(x::(P++[y]))++M.reverse:=sS;rw[e,aAo];refine⟨r6,(aBo M).nodup_iff.2 hM,fun a ha b hb e=>?_⟩;subst e;refine FM hE hw (aBh.1 hb) ?_;rcases aAe.1 ha with k|k
   .rw[k];exact aAf
   .refine aAc _ ?_;rcases aAd.1 k with k|k
    .exact aAr _ k
    .rw[aAi.1 k];simp
  rcases aAe.1 hr with rfl|hr
  .have e:y::(Q++x::M)=(y::(Q++[x]))++M:=sS;rw[e,aAo];refine⟨r7,hM,fun a ha b hb e=>?_⟩;subst e;refine FM hE hw hb ?_;rcases aAe.1 ha with k|k
   .rw[k];simp
   .rcases aAd.1 k with k|k
    .exact aAc _ (aAx _ (aAc _ k))
    .rw[aAi.1 k];exact aAf
  .exact hE.simple r (aAc _ hr)
 .rw[zV hE hw,hE.mem,aAd,aAd];constructor
  .rintro((h|h)|h|h)
   .exact .inl (.inr h)
   .exact .inr (.inr h)
   .exact .inl (.inl h)
   .exact .inr (.inl h)
  .rintro((h|h)|h|h)
   .exact .inr (.inl h)
   .exact .inl (.inl h)
   .exact .inr (.inr h)
   .exact .inl (.inr h)
 .have hR:=dM hP.per.eqv (pls (lnk (x::(M++[y]))++A));have key:∀ z∈flP (pls (lnk (x::(M++[y]))++A)),mgP (Orb s) (pls (lnk (x::(M++[y]))++A)) (cd (x,u)) z:=by
   have hwl:∀ p∈lnk (x::(M++[y])),mgP (Orb s) (pls (lnk (x::(M++[y]))++A)) (cd (x,u)) (cd p):=by
    intro p hp;obtain⟨a,L,hL⟩:∃ a L,lnk (x::(M++[y]))=(x,a)::L:=by
     cases M with
     |nil=>exact⟨y,[],rfl⟩
     |cons m M=>exact⟨m,_,rfl⟩
    have hau:a=u:=fH hw.nd (by rw[hL];exact aAf) hu;subst hau;have hway:=hP.way (w:=x::(M++[y])) hw.ed;have e:pls (lnk (x::(M++[y])))=(cd (x,a),cd (x,a).swap)::pls L:=by rw[hL];rfl
    rw[e]at hway;refine yZ hR (fun _ _ k=>fT _ k) hway (fun q hq=>jO hP.per.eqv _ ?_) (cd p,cd p.swap) ?_
    .rw[<- e]at hq;obtain⟨p,hp,rfl⟩:=aAj.1 hq;exact aAj.2 ⟨p,aAr _ hp,rfl⟩
    .rw[<- e];exact aAj.2 ⟨p,hp,rfl⟩
   intro z hz;obtain⟨p,hp,rfl⟩:=eT.1 hz;have h4:p∈PF ((x::(P++y::Q))::F)\/p∈lnk (x::(M++[y]))\/p.swap∈lnk (x::(M++[y])):=by
    rw[hE.mem];simp only[aAd]at hp;rcases hp with(k|k)|k|k
    .exact .inr (.inl k)
    .exact .inl (.inl k)
    .exact .inr (.inr k)
    .exact .inl (.inr k)
   rcases h4 with k|k|k
   .obtain⟨ux,hux⟩:=hw.onx;have h1:Orb s (cd (x,u)) (cd (x,ux)):=(hP.orb (p:=(x,u)) (hw.ed x u hu) (hE.sub hux)).2 rfl;have h2:=hE.con _ (hE.dart.2 ⟨_,hux,rfl⟩) _ (hE.dart.2 ⟨_,k,rfl⟩)
    exact hR.trans (fT _ h1) (zT hP.per.eqv (fun q hq=>by
     obtain⟨q,h,rfl⟩:=aAj.1 hq
     exact aAj.2 ⟨q,aAx _ h,rfl⟩) h2)
   .exact hwl p k
   .refine hR.trans (hwl _ k) (hR.symm ?_);have:=jO hP.per.eqv (pls (lnk (x::(M++[y]))++A)) (p:=(cd p.swap,cd p)) (aAj.2 ⟨p.swap,aAr _ k,by rw[aBJ]⟩);exact hR.symm this
  exact fun a ha b hb=>hR.trans (hR.symm (key a ha)) (key b hb)
theorem Emb.lay_side{p:Int×Int}(hp:∃ e∈E,prE e=unA p){v0:Int}(hv0:(p.1,v0)∈PF ((x::(P++y::Q))::F)){r:List Int}(hr:r∈(x::(P++y::M.reverse))::(y::(Q++x::M))::F)
 (h:SdT s (lnk (x::(M++[y]))++A) r (cd p)):(r∈F/\SdT s A r (cd p))\/((r=x::(P++y::M.reverse)\/r=y::(Q++x::M))/\SdT s A (x::(P++y::Q)) (cd p)):=by
 obtain⟨bx,S3,hx⟩:=Pz hP hE hw hu ht hT;obtain⟨by',P5,hy⟩:=Oz hP hE hw hu ht hT;obtain⟨q,hq,hn⟩:=h;have S7:q∈PF ((x::(P++y::M.reverse))::(y::(Q++x::M))::F):=bE.2 ⟨r,hr,hq⟩;have Z7:=BO hP hE hw hu ht ((zV hE hw q).1 S7);have hb:=(hP.orb hp Z7).1 hn.orb;have old:∀ q,q∈prs r->q∈PF ((x::(P++y::Q))::F)->Nx s (flP (pls A)) (cd p) (cd q)->(r∈F/\SdT s A r (cd p))\/((r=x::(P++y::M.reverse)\/r=y::(Q++x::M))/\SdT s A (x::(P++y::Q)) (cd p)):=by
  intro q hq hqo hn;rcases aAe.1 hr with e|hr
  .refine .inr ⟨.inl e,q,?_,hn⟩;rw[e,cB]at hq;rw[cB];rcases hq with k|k
   .exact .inl k
   .exact absurd hqo (nH hE hw (.inr (nW (a:=q.1) (b:=q.2).1 k)))
  rcases aAe.1 hr with e|hr
  .refine .inr ⟨.inr e,q,?_,hn⟩;rw[e,cB]at hq;rw[cB];rcases hq with k|k
   .exact .inr k
   .exact absurd hqo (nH hE hw (.inl k))
  .exact .inl ⟨hr,q,hq,hn⟩
 have inr0:x::(P++y::Q)∈(x::(P++y::Q))::F:=aAf;have notF:∀ q,q∈prs r->q∉PF ((x::(P++y::Q))::F)->r=x::(P++y::M.reverse)\/r=y::(Q++x::M):=by
  intro q hq x9;rcases aAe.1 hr with e|hr
  .exact .inl e
  rcases aAe.1 hr with e|hr
  .exact .inr e
  .exact absurd (bE.2 ⟨r,aAc _ hr,hq⟩) x9
 by_cases hv:p.1∈x::(M++[y])
 .rcases aAe.1 hv with hv|hv
  .have ho:Orb s (cd (x,u)) (cd p):=(hP.orb (p:=(x,u)) (hw.ed x u hu) hp).2 hv.symm;rcases Nx.back (KV hP hE hw hu ht) hx ho hn with⟨e,k⟩|⟨e,k⟩
   .have e:q=(x,u):=hP.cdin Z7 (hw.ed x u hu) e;exact .inr ⟨notF q hq (by rw[e];exact nH hE hw (.inl hu)),(x,bx),cB.2 (.inl S3),k⟩
   .exact old q hq ((hE.at_iff hP Z7).1 k.mem) k
  .rcases aAd.1 hv with hv|hv
   .exact absurd hv0 (hw.off _ hv v0)
   .have hv:=aAi.1 hv;have ho:Orb s (cd (y,t)) (cd p):=(hP.orb (vB hP hE hw hu ht) hp).2 hv.symm;rcases Nx.back (Lu hP hE hw hu ht) hy ho hn with⟨e,k⟩|⟨e,k⟩
    .have e:q=(y,t):=hP.cdin Z7 (vB hP hE hw hu ht) e;exact .inr ⟨notF q hq (by rw[e];exact nH hE hw (p:=(y,t)) (.inr ht)),(y,by'),cB.2 (.inr P5),k⟩
    .exact old q hq ((hE.at_iff hP Z7).1 k.mem) k
 .have hs:=Hu hP hE hw hu ht hp hv;have k:Nx s (flP (pls A)) (cd p) (cd q):=hn.same fun z hz=>(hs z hz).symm;exact old q hq ((hE.at_iff hP Z7).1 k.mem) k
end
theorem Ru(x:Int):∀ l:List Int,(prs (x::l)).Perm (prs (l++[x]))
 |[]=>.refl _
 |y::l=>by
  have e1:prs (x::y::l)=(x,y)::lnk (y::(l++[x])):=by unfold prs;simp[lnk]
  have e2:prs (y::l++[x])=lnk ((y::l)++x::[y]):=by unfold prs;simp
  rw[e1,e2,eX];refine List.perm_cons_append_cons (l₂:=[]) _ ?_;simp
theorem qV:∀ a b:List Int,(prs (a++b)).Perm (prs (b++a))
 |[],b=>by simp
 |x::a,b=>by have h1:=Ru x (a++b);have h2:=qV a (b++[x]);rw[aAE]at h1;have e:b++[x]++a=b++x::a:=sS;rw[e]at h2;exact h1.trans h2
theorem SdT.turn{s:Int->Int}{A:List (Int×Int)}{r r':List Int}(hp:(prs r).Perm (prs r')){d:Int}(h:SdT s A r d):SdT s A r' d:=by obtain⟨p,h1,h2⟩:=h;exact⟨p,hp.mem_iff.1 h1,h2⟩
section
variable {E:List Ed} {s:Int->Int} {A:List (Int×Int)} {F F':List (List Int)}
theorem Emb.permF(hE:Emb E s A F)(hp:F.Perm F'):Emb E s A F':=by have hf:(PF F).Perm (PF F'):=hp.flatMap_right _;exact⟨hE.pE,hf.nodup_iff.1 hE.nd,fun r hr=>hE.simple r (hp.mem_iff.2 hr),fun p=>by rw[<- hf.mem_iff];exact hE.mem p,fun r hr=>hE.step r (hp.mem_iff.2 hr),hE.con⟩
theorem Emb.turn{a b:List Int}(hE:Emb E s A ((a++b)::F)):Emb E s A ((b++a)::F):=by
 have hr:=qV a b;have hf:(PF ((a++b)::F)).Perm (PF ((b++a)::F)):=hr.append_right _;refine⟨hE.pE,hf.nodup_iff.1 hE.nd,fun r h=>?_,fun p=>by rw[<- hf.mem_iff];exact hE.mem p,fun r h u v w h1 h2=>?_,hE.con⟩
 .rcases aAe.1 h with rfl|h
  .exact(aBp (l₁:=a) (l₂:=b)).nodup_iff.1 (hE.simple _ aAf)
  .exact hE.simple r (aAc _ h)
 .rcases aAe.1 h with rfl|h
  .exact hE.step _ aAf u v w (hr.mem_iff.2 h1) (hr.mem_iff.2 h2)
  .exact hE.step r (aAc _ h) u v w h1 h2
theorem WY{r:List Int}{x y:Int}(hx:x∈r)(hy:y∈r)(D4:x≠y):∃ a b P Q,r=a++b/\b++a=x::(P++y::Q):=by
 obtain⟨a,b,rfl⟩:=aBi hx;refine⟨a,x::b,?_⟩;have:y∈b++a:=by
  rw[aAd,aAe]at hy;rw[aAd];rcases hy with h|h|h
  .exact .inr h
  .exact absurd h.symm D4
  .exact .inl h
 obtain⟨P,Q,h⟩:=aBi this;exact⟨P,Q,rfl,by rw[<- h];rfl⟩
theorem Emb.norm(hE:Emb E s A F){r:List Int}(hr:r∈F){x y:Int}(hx:x∈r)(hy:y∈r)(D4:x≠y):∃ a b P Q F',r=a++b/\b++a=x::(P++y::Q)/\F.Perm (r::F')/\Emb E s A ((x::(P++y::Q))::F'):=by obtain⟨a,b,P,Q,h1,h2⟩:=WY hx hy D4;obtain⟨F1,F2,rfl⟩:=aBi hr;refine⟨a,b,P,Q,F1++F2,h1,h2,aCe,?_⟩;have:=hE.permF (F':=(a++b)::(F1++F2)) (by rw[<- h1];exact aCe);rw[<- h2];exact this.turn
end
structure Rng(E:List Ed)(x y:Int)(M:List Int):Prop where
 nd:(x::(M++[y])).Nodup
 ne:M≠[]
 ed:∀ u v,(u,v)∈prs (x::(M++[y]))->∃ e∈E,prE e=prP u v
theorem jY{x y:Int}{M:List Int}{p:Int×Int}:p∈prs (x::(M++[y]))↔p∈lnk (x::(M++[y]))\/p=(y,x):=by have:=cB (x:=x) (y:=y) (P:=M) (Q:=[]) (p:=p);rw[this];simp[lnk]
section
variable {E:List Ed} {x y:Int} {M:List Int} (h:Rng E x y M)
include h
theorem Rng.off:x∉M/\y∉M/\x≠y:=by obtain⟨h1,h2⟩:=aAq.1 h.nd;exact⟨fun k=>h1 (aAr _ k),fun k=>(aAo.1 h2).2.2 y k y sS rfl,fun e=>h1 (by rw[e];simp)⟩
theorem Rng.rev:Rng E y x M.reverse:=by
 have e:y::(M.reverse++[x])=(x::(M++[y])).reverse:=sS;refine⟨by rw[e];exact(aBo _).nodup_iff.2 h.nd,by simpa using h.ne,fun u v k=>?_⟩;rw[jY]at k;rw[aL];refine h.ed v u (jY.2 ?_);rcases k with k|k
 .exact .inl (nW.1 k)
 .injection k with k1 k2;exact .inr (by rw[k1,k2])
theorem Rng.swap(p:Int×Int):p∈prs (y::(M.reverse++[x]))↔p.swap∈prs (x::(M++[y])):=by rw[jY,jY,show(p∈lnk (y::(M.reverse++[x]))↔p.swap∈lnk (x::(M++[y]))) from nW (a:=p.1) (b:=p.2)];refine or_congr aEh ⟨fun e=>by rw[e];rfl,fun e=>?_⟩;rw[<- aBJ p,e];rfl
theorem Rng.fn{a b b':Int}(h1:(a,b)∈prs (x::(M++[y])))(h2:(a,b')∈prs (x::(M++[y]))):b=b':=by
 obtain⟨n1,n2,n3⟩:=h.off;have no:∀ b,(y,b)∉lnk (x::(M++[y])):=fun b k=>by
  have:=eU (y:=y) (l:=x::M) k;rcases aAe.1 this with k|k
  .exact n3 k.symm
  .exact n2 k
 rw[jY]at h1 h2;rcases h1 with h1|h1
 .rcases h2 with h2|h2
  .exact fH h.nd h1 h2
  .injection h2 with e1 e2;subst e1;exact absurd h1 (no b)
 .injection h1 with e1 e2;subst e1;rcases h2 with h2|h2
  .exact absurd h2 (no b')
  .injection h2 with _ e3;rw[e2,e3]
theorem Rng.pE:iP E (prs (x::(M++[y]))):=by
 obtain⟨n1,n2,n3⟩:=h.off;have e:prs (x::(M++[y]))=lnk (x::(M++[y]))++[(y,x)]:=by unfold prs;have:x::(M++[y])++(x::(M++[y])).take 1=(x::M)++y::[x]:=sS;rw[this,eX];rfl
 refine⟨fun p hp=>h.ed p.1 p.2 hp,?_⟩;rw[e,aAu,aAo];have hw:=fG h.nd;rw[eC]at hw;refine⟨hw,sS,fun a ha b hb ee=>?_⟩;obtain⟨p,hp,rfl⟩:=aAj.1 ha;have hb:b=unA (y,x):=by simpa using hb
 rw[hb]at ee;rcases bK ee with⟨k1,k2⟩|⟨k1,k2⟩
 .have k1:p.1=y:=k1;have:=eU (y:=y) (l:=x::M) (a:=p.1) (b:=p.2) hp;rw[k1]at this;rcases aAe.1 this with k|k
  .exact n3 k.symm
  .exact n2 k
 .have k1:p.1=x:=k1;have k2:p.2=y:=k2;have hp:(x,y)∈lnk (x::(M++[y])):=by rw[<- k1,<- k2]at hp ⊢;exact hp
  cases hM:M with
  |nil=>exact h.ne hM
  |cons m M'=>subst hM;have:=fH h.nd hp (b':=m) (by simp[lnk]);exact n2 (by rw[this];exact aAf)
end
theorem OL{E:List Ed}{s:Int->Int}(hP:PlE E s){S:List Int}{v a b:Int}(ea:∃ e∈E,prE e=unA (v,a))(eb:∃ e∈E,prE e=unA (v,b))(x7:a≠b)(ib:cd (v,b)∈S)
 (hS:∀ z∈S,∃ q,(∃ e∈E,prE e=unA q)/\z=cd q/\(q.1=v->q.2=a\/q.2=b)):Nx s S (s (cd (v,a))) (cd (v,b)):=by
 have oab:Orb s (cd (v,a)) (cd (v,b)):=(hP.orb ea eb).2 rfl;have oa:Orb s (s (cd (v,a))) (cd (v,b)):=(Orb.symm hP.per (Orb.step s _)).trans oab;obtain⟨f,hf⟩:=Nx.ex oa ib;obtain⟨q,Z7,rfl,hq⟩:=hS f hf.mem;have hqv:v=q.1:=(hP.orb (p:=(v,a)) ea Z7).1 ((Orb.step s _).trans hf.orb);rcases hq hqv.symm with h|h
 .have e:q=(v,a):=aBU hqv.symm h;rw[e]at hf;have:=hf.loop ib oab;exact absurd (congrArg Prod.snd (hP.cdin eb ea this)).symm x7
 .have e:q=(v,b):=aBU hqv.symm h;rw[<- e];exact hf
section
variable {E:List Ed} {s:Int->Int} (hP:PlE E s) {x y:Int} {M:List Int} (h:Rng E x y M)
include hP h
theorem Rng.step{A:List (Int×Int)}(hA:∀ p,(p∈A\/p.swap∈A)↔p∈prs (x::(M++[y]))\/p.swap∈prs (x::(M++[y]))){u v w:Int}(h1:(u,v)∈prs (x::(M++[y])))(h2:(v,w)∈prs (x::(M++[y]))):
 Nx s (flP (pls A)) (s (cd (v,u))) (cd (v,w)):=by
 have e1:∃ e∈E,prE e=unA (v,u):=by rw[show unA (v,u)=prP u v from aL _ _];exact h.ed u v h1
 have e2:∃ e∈E,prE e=unA (v,w):=h.ed v w h2;refine OL hP e1 e2 (fun e=>?_) (eT.2 ⟨(v,w),(hA _).2 (.inl h2),rfl⟩) fun z hz=>?_
 ·
  subst e;have hA2:=h.pE;have Zy:=(hP.arc_bd e2).2.2;have:=pU hA2.nd h1 h2 (aL u v);injection this with k1 k2;exact Zy k2
 .obtain⟨q,hq,rfl⟩:=eT.1 hz;have hq:=(hA q).1 hq;have Z7:∃ e∈E,prE e=unA q:=by
   rcases hq with k|k
   .exact h.ed q.1 q.2 k
   .rw[<- fQ];exact h.ed q.2 q.1 k
  refine⟨q,Z7,rfl,fun hv=>?_⟩;rcases hq with k|k
  .have k:(v,q.2)∈prs (x::(M++[y])):=by rw[<- hv];exact k
   exact .inr (h.fn k h2)
  .have k:(q.2,v)∈prs (x::(M++[y])):=by rw[<- hv];exact k
   have k':=(h.swap (v,q.2)).2 k;have k'':=(h.swap (v,u)).2 h1;exact .inl (h.rev.fn k' k'')
theorem Rng.emb:Emb E s (prs (x::(M++[y]))) [x::(M++[y]),y::(M.reverse++[x])]:=by
 have hA:=h.pE;have hPF:PF [x::(M++[y]),y::(M.reverse++[x])]=prs (x::(M++[y]))++prs (y::(M.reverse++[x])):=by unfold PF;simp
 have E7:∀ p,p∈PF [x::(M++[y]),y::(M.reverse++[x])]↔p∈prs (x::(M++[y]))\/p.swap∈prs (x::(M++[y])):=fun p=>by rw[hPF,aAd,h.swap]
 refine⟨hA,?_,fun r hr=>?_,E7,fun r hr u v w h1 h2=>?_,?_⟩
 .rw[hPF,aAo];refine⟨fZ unA hA.nd,fZ unA h.rev.pE.nd,fun a ha b hb e=>?_⟩;subst e;have hb:=(h.swap a).1 hb;have e:=pU hA.nd ha hb (fQ a).symm;exact(hP.arc_bd (hA.mem a ha)).2.2 (congrArg Prod.fst e)
 .rcases aAe.1 hr with rfl|hr
  .exact h.nd
  .rw[aAi.1 hr];exact h.rev.nd
 .rcases aAe.1 hr with rfl|hr
  .exact h.step hP (fun p=>aEh) h1 h2
  .rw[aAi.1 hr]at h1 h2;refine h.rev.step hP (fun p=>?_) h1 h2;rw[h.swap,h.swap,aBJ];exact Or.comm
 .have hR:=dM hP.per.eqv (pls (prs (x::(M++[y]))));obtain⟨m,M',hM⟩:=aCU h.ne;have hxm:(x,m)∈prs (x::(M++[y])):=jY.2 (.inl (by rw[hM];simp[lnk]))
  have O7:∀ p∈prs (x::(M++[y])),mgP (Orb s) (pls (prs (x::(M++[y])))) (cd p) (cd p.swap):=fun p hp=>
   jO hP.per.eqv _ (p:=(cd p,cd p.swap)) (aAj.2 ⟨p,hp,rfl⟩)
  have key:∀ p∈prs (x::(M++[y])),mgP (Orb s) (pls (prs (x::(M++[y])))) (cd (x,m)) (cd p):=by
   intro p hp;rcases jY.1 hp with k|k
   .have hL:lnk (x::(M++[y]))=(x,m)::lnk (m::(M'++[y])):=by rw[hM];rfl
    have hway:=hP.way (w:=x::(M++[y])) fun u v k=>h.ed u v (jY.2 (.inl k));have e:pls (lnk (x::(M++[y])))=(cd (x,m),cd (x,m).swap)::pls (lnk (m::(M'++[y]))):=by rw[hL];rfl
    rw[e]at hway;refine yZ hR (fun _ _ k=>fT _ k) hway (fun q hq=>?_) (cd p,cd p.swap) (by rw[<- e];exact aAj.2 ⟨p,k,rfl⟩);rw[<- e]at hq;obtain⟨a,ha,rfl⟩:=aAj.1 hq;exact O7 a (jY.2 (.inl ha))
   .subst k;have e1:Orb s (cd (x,m)) (cd (x,y)):=(hP.orb (p:=(x,m)) (h.ed x m hxm) (by rw[show unA (x,y)=prP y x from aL _ _];exact h.ed y x hp)).2 rfl;exact hR.trans (fT _ e1) (hR.symm (O7 _ hp))
  have key2:∀ z∈flP (pls (prs (x::(M++[y])))),mgP (Orb s) (pls (prs (x::(M++[y])))) (cd (x,m)) z:=by
   intro z hz;obtain⟨p,hp,rfl⟩:=eT.1 hz;rcases hp with k|k
   .exact key p k
   .have:=O7 _ k;rw[aBJ]at this;exact hR.trans (key _ k) this
  exact fun a ha b hb=>hR.trans (hR.symm (key2 a ha)) (key2 b hb)
end
theorem WyE.sub{E:List Ed}{F F':List (List Int)}{x y:Int}{M:List Int}(hw:WyE E F x y M)(h:∀ p,p∈PF F↔p∈PF F'):WyE E F' x y M:=
 ⟨hw.nd,hw.ed,fun p k k'=>hw.new p k ((h p).2 k'),fun v k u k'=>hw.off v k u ((h _).2 k'),hw.onx.imp fun _ k=>(h _).1 k,hw.ony.imp fun _ k=>(h _).1 k⟩
section
variable {E:List Ed} {s:Int->Int} (hP:PlE E s) {A:List (Int×Int)} {F:List (List Int)} (hE:Emb E s A F)
 {x y:Int} {M:List Int} (hw:WyE E F x y M) {u t:Int} (hu:(x,u)∈lnk (x::(M++[y]))) (ht:(t,y)∈lnk (x::(M++[y]))) {r:List Int} (hr:r∈F) (hT:SdT s A r (cd (x,u)))
include hP hE hw hu ht hr hT
theorem Emb.both:x∈r/\y∈r/\x≠y:=by refine⟨hE.here hP hr (p:=(x,u)) (hw.ed x u hu) hT,hE.here hP hr (p:=(y,t)) (by rw[show unA (y,t)=unA (t,y) from aL _ _];exact hw.ed t y ht) (hE.wayT hP hw hu ht hr hT),fun e=>?_⟩;exact(aAq.1 hw.nd).1 (by rw[e];simp)
structure Laid(E:List Ed)(s:Int->Int)(A:List (Int×Int))(F:List (List Int))(r:List Int)(x y:Int)(M P Q:List Int)(F':List (List Int)):Prop where
 perm:F.Perm (r::F')
 rot:∃ a b,r=a++b/\b++a=x::(P++y::Q)
 nf:r∉F'
 emb:Emb E s (lnk (x::(M++[y]))++A) ((x::(P++y::M.reverse))::(y::(Q++x::M))::F')
 mem:∀ p,p∈PF ((x::(P++y::M.reverse))::(y::(Q++x::M))::F')↔p∈PF F\/p∈lnk (x::(M++[y]))\/p.swap∈lnk (x::(M++[y]))
 side:∀ p,(∃ e∈E,prE e=unA p)->∀ v,(p.1,v)∈PF F->SdT s A r (cd p)->SdT s (lnk (x::(M++[y]))++A) (x::(P++y::M.reverse)) (cd p)\/SdT s (lnk (x::(M++[y]))++A) (y::(Q++x::M)) (cd p)
theorem Emb.layAt:∃ P Q F',Laid E s A F r x y M P Q F':=by
 obtain⟨h1,h2,h3⟩:=hE.both hP hw hu ht hr hT;obtain⟨a,b,P,Q,F',e1,e2,e3,hE'⟩:=hE.norm hr h1 h2 h3;have X7:(prs r).Perm (prs (x::(P++y::Q))):=by rw[e1,<- e2];exact qV a b
 have hPF:∀ p,p∈PF F↔p∈PF ((x::(P++y::Q))::F'):=fun p=>by rw[hE.mem,hE'.mem]
 have hw':=hw.sub hPF;have hT':=hT.turn X7;have hem:=hE'.lay hP hw' hu ht hT';have hnf:r∉F':=fun k=>by have hn:=(hE.permF e3).nd;have hn:(prs r++PF F').Nodup:=hn;obtain⟨z,hz⟩:=iM h1;exact(aAo.1 hn).2.2 _ hz _ (bE.2 ⟨r,k,hz⟩) rfl
 refine⟨P,Q,F',e3,⟨a,b,e1,e2⟩,hnf,hem,fun p=>by rw[zV hE' hw',<- hPF],fun p hp v hv hs=>?_⟩;have W6:=(zV hE' hw' (p.1,v)).2 (.inl ((hPF _).1 hv));obtain⟨r',M5,W2⟩:=hem.ex hP hp W6;rcases hE'.lay_side hP hw' hu ht hT' hp ((hPF _).1 hv) M5 W2 with⟨k1,k2⟩|⟨k1,k2⟩
 .have hrF:r'∈F:=e3.mem_iff.2 (aAc _ k1);have:=hE.fn hP hr hrF hs k2;exact absurd (this ▸ k1) hnf
 .rcases k1 with rfl|rfl
  .exact .inl W2
  .exact .inr W2
theorem Emb.no_cross{a b:List Int}{P Q:List Int}(e1:r=a++b)(e2:b++a=x::(P++y::Q)){p q:Int}{N:List Int}(F0:WyE E F p q N){u2 t2:Int}(hu2:(p,u2)∈lnk (p::(N++[q])))(ht2:(t2,q)∈lnk (p::(N++[q])))
 (hT2:SdT s A r (cd (p,u2))) (hp:p∈P) (hq:q∈Q) (hMN:∀ v∈N,v∉M):False:=by
 have S4:(b++a).Nodup:=(aBp (l₁:=a) (l₂:=b)).nodup_iff.1 (e1 ▸ hE.simple r hr);rw[e2]at S4;obtain⟨P',Q',F',hL⟩:=hE.layAt hP hw hu ht hr hT;obtain⟨a',b',f1,f2⟩:=hL.rot;have hPQ:P'=P/\Q'=Q:=by
  have hr2:∃ c d,x::(P++y::Q)=c++d/\d++c=x::(P'++y::Q'):=by
   rw[<- e2,<- f2];rw[e1]at f1;rcases aCZ.1 f1 with⟨c,g1,g2⟩|⟨c,g1,g2⟩
   .exact⟨c,b'++a,by rw[g2];simp,by rw[g1];simp⟩
   .exact⟨b++a',c,by rw[g1];simp,by rw[g2];simp⟩
  obtain⟨c,d,g1,g2⟩:=hr2;have T5:x::(P++y::Q)=x::(P'++y::Q'):=by
   cases c with
   |nil=>rw[g1,<- g2];simp
   |cons z c=>
    have hz:z=x:=by injection g1 with g _;exact g.symm
    subst hz;cases d with
    |nil=>rw[g1,<- g2];simp
    |cons w d=>
     have hwz:w=z:=by injection g2
     subst hwz;rw[g1]at S4;exact absurd rfl ((aAo.1 S4).2.2 w aAf w aAf)
  have X2:P++y::Q=P'++y::Q':=by injection T5
  have K2:(P++y::Q).Nodup:=(aAq.1 S4).2;have hyP:y∉P:=fun k=>(aAo.1 K2).2.2 y k y aAf rfl;have hyP':y∉P':=fun k=>(aAo.1 (X2 ▸ K2)).2.2 y k y aAf rfl;have:∀(P P':List Int),y∉P->y∉P'->P++y::Q=P'++y::Q'->P'=P/\Q'=Q:=by
   intro P;induction P with
   |nil=>
    intro P' _ h' e;cases P' with
    |nil=>injection e with _ e;exact⟨rfl,e.symm⟩
    |cons z P'=>injection e with e _;exact absurd (by rw[e];exact aAf) h'
   |cons z P ih=>
    intro P' h h' e;cases P' with
    |nil=>injection e with e _;exact absurd (by rw[<- e];exact aAf) h
    |cons z' P'=>injection e with e1 e2;obtain⟨k1,k2⟩:=ih P' (fun k=>h (aAc _ k)) (fun k=>h' (aAc _ k)) e2;exact⟨by rw[e1,k1],k2⟩
  exact this P P' hyP hyP' X2
 obtain⟨rfl,rfl⟩:=hPQ;have K2:=(aAq.1 S4);have hd:=(aAo.1 K2.2);have hpx:p≠x:=fun e=>K2.1 (by rw[<- e];exact aAr _ hp);have hqx:q≠x:=fun e=>K2.1 (by rw[<- e];exact aAx _ (aAc _ hq));have hpy:p≠y:=fun e=>hd.2.2 p hp y aAf e;have hqy:q≠y:=fun e=>(aAq.1 hd.2.1).1 (by rw[<- e];exact hq);have hpQ:p∉Q':=fun k=>hd.2.2 p hp p (aAc _ k) rfl;have hqP:q∉P':=fun k=>hd.2.2 q k q (aAc _ hq) rfl;have offw:∀ v∈p::(N++[q]),v∉x::(M++[y]):=by
  intro v hv k;have hvM:v∈M->False:=fun hm=>by
   rcases aAe.1 hv with rfl|hv
   .obtain⟨z,hz⟩:=F0.onx;exact hw.off _ hm z hz
   .rcases aAd.1 hv with hv|hv
    .exact hMN v hv hm
    .rw[aAi.1 hv]at hm;obtain⟨z,hz⟩:=F0.ony;exact hw.off _ hm z hz
  have hvN:v=x\/v=y->False:=fun h=>by
   rcases aAe.1 hv with rfl|hv
   .exact h.elim hpx hpy
   .rcases aAd.1 hv with hv|hv
    .rcases h with rfl|rfl
     .obtain⟨z,hz⟩:=hw.onx;exact F0.off _ hv z hz
     .obtain⟨z,hz⟩:=hw.ony;exact F0.off _ hv z hz
    .rw[aAi.1 hv]at h;exact h.elim hqx hqy
  rcases aAe.1 k with k|k
  .exact hvN (.inl k)
  .rcases aAd.1 k with k|k
   .exact hvM k
   .exact hvN (.inr (aAi.1 k))
 have hw3:WyE E ((x::(P'++y::M.reverse))::(y::(Q'++x::M))::F') p q N:=by
  refine⟨F0.nd,F0.ed,fun z hz k=>?_,fun v hv z k=>?_,F0.onx.imp fun z k=>(hL.mem _).2 (.inl k),F0.ony.imp fun z k=>(hL.mem _).2 (.inl k)⟩
  .rcases(hL.mem z).1 k with k|k|k
   .exact F0.new z hz k
   .exact offw z.1 (bF (x:=z.1) (y:=z.2) hz).1 (bF (x:=z.1) (y:=z.2) k).1
   .exact offw z.1 (bF (x:=z.1) (y:=z.2) hz).1 (bF (x:=z.2) (y:=z.1) k).2
  .have W6:v∈p::(N++[q]):=aAc _ (aAr _ hv);rcases(hL.mem (v,z)).1 k with k|k|k
   .exact F0.off v hv z k
   .exact offw v W6 (bF k).1
   .exact offw v W6 (bF (x:=z) (y:=v) k).2
 obtain⟨zp,hzp⟩:=F0.onx;have hpM:p∉M:=fun k=>hw.off p k zp hzp;have hqM:q∉M:=fun k=>by obtain⟨z,hz⟩:=F0.ony;exact hw.off q k z hz
 rcases hL.side (p,u2) (F0.ed p u2 hu2) zp hzp hT2 with k|k
 .have c8:x::(P'++y::M.reverse)∈(x::(P'++y::M.reverse))::(y::(Q'++x::M))::F':=aAf;have:=(hL.emb.both hP hw3 hu2 ht2 c8 k).2.1;rcases aAe.1 this with e|h
  .exact hqx e
  .rcases aAd.1 h with h|h
   .exact hqP h
   .rcases aAe.1 h with e|h
    .exact hqy e
    .exact hqM (aBh.1 h)
 .have c8:y::(Q'++x::M)∈(x::(P'++y::M.reverse))::(y::(Q'++x::M))::F':=aAc _ aAf;have:=(hL.emb.both hP hw3 hu2 ht2 c8 k).1;rcases aAe.1 this with e|h
  .exact hpy e
  .rcases aAd.1 h with h|h
   .exact hpQ h
   .rcases aAe.1 h with e|h
    .exact hpx e
    .exact hpM h
end
theorem LQ{y:Int}{Q Q':List Int}:∀ {P P':List Int},y∉P->y∉P'->P++y::Q=P'++y::Q'->P'=P/\Q'=Q
 |[],[],_,_,e=>by injection e with _ e;exact⟨rfl,e.symm⟩
 |[],z::P',_,h',e=>by injection e with e _;exact absurd (by rw[e];exact aAf) h'
 |z::P,[],h,_,e=>by injection e with e _;exact absurd (by rw[<- e];exact aAf) h
 |z::P,z'::P',h,h',e=>by injection e with e1 e2;obtain⟨k1,k2⟩:=LQ (fun k=>h (aAc _ k)) (fun k=>h' (aAc _ k)) e2;exact⟨by rw[e1,k1],k2⟩
theorem Eo{x y:Int}{P Q P' Q' a b a' b':List Int}(hn:(a++b).Nodup)(e:a++b=a'++b')(h1:b++a=x::(P++y::Q))(h2:b'++a'=x::(P'++y::Q')):P'=P/\Q'=Q:=by
 have S4:(x::(P++y::Q)).Nodup:=by rw[<- h1];exact(aBp (l₁:=a) (l₂:=b)).nodup_iff.1 hn
 obtain⟨c,d,g1,g2⟩:∃ c d,x::(P++y::Q)=c++d/\d++c=x::(P'++y::Q'):=by
  rw[<- h1,<- h2];rcases aCZ.1 e with⟨c,g1,g2⟩|⟨c,g1,g2⟩
  .exact⟨c,b'++a,by rw[g2];simp,by rw[g1];simp⟩
  .exact⟨b++a',c,by rw[g1];simp,by rw[g2];simp⟩
 have T5:x::(P++y::Q)=x::(P'++y::Q'):=by
  cases c with
  |nil=>rw[g1,<- g2];simp
  |cons z c=>
   have hz:z=x:=by injection g1 with g _;exact g.symm
   subst hz;cases d with
   |nil=>rw[g1,<- g2];simp
   |cons w d=>
    have hwz:w=z:=by injection g2
    subst hwz;rw[g1]at S4;exact absurd rfl ((aAo.1 S4).2.2 w aAf w aAf)
 have X2:P++y::Q=P'++y::Q':=by injection T5
 have K2:(P++y::Q).Nodup:=(aAq.1 S4).2;exact LQ (fun k=>(aAo.1 K2).2.2 y k y aAf rfl) (fun k=>(aAo.1 (X2 ▸ K2)).2.2 y k y aAf rfl) X2
theorem WyE.lay{E:List Ed}{s:Int->Int}{A:List (Int×Int)}{F F':List (List Int)}{r:List Int}{x y p q:Int}{M N P Q:List Int}(hL:Laid E s A F r x y M P Q F')(hw:WyE E F p q N)(hN:N≠[])(n9:∀ v∈N,v∉x::(M++[y])):
 WyE E ((x::(P++y::M.reverse))::(y::(Q++x::M))::F') p q N:=by
 have x9:∀ z,z∈lnk (p::(N++[q]))->z.1∈N\/z.2∈N:=by
  intro z hz;have h1:=eU (y:=q) (l:=p::N) (a:=z.1) (b:=z.2) hz;have h2:=iW (a:=z.1) (b:=z.2) hz;rcases aAe.1 h1 with k|k
  .rcases aAd.1 h2 with k'|k'
   .exact .inr k'
   .exfalso;have k':=aAi.1 k';obtain⟨n,N',hN'⟩:=aCU hN;have hz:(p,q)∈lnk (p::(N++[q])):=by rw[<- k,<- k']at hz ⊢;exact hz
    have:=fH hw.nd hz (b':=n) (by rw[hN'];simp[lnk]);have hn:=(aAo.1 (aAq.1 hw.nd).2).2.2 n (by rw[hN'];simp) q sS;exact hn this.symm
  .exact .inl k
 refine⟨hw.nd,hw.ed,fun z hz k=>?_,fun v hv z k=>?_,hw.onx.imp fun z k=>(hL.mem _).2 (.inl k),hw.ony.imp fun z k=>(hL.mem _).2 (.inl k)⟩
 .rcases(hL.mem z).1 k with k|k|k
  .exact hw.new z hz k
  .rcases x9 z hz with h|h
   .exact n9 _ h (bF (x:=z.1) (y:=z.2) k).1
   .exact n9 _ h (bF (x:=z.1) (y:=z.2) k).2
  .rcases x9 z hz with h|h
   .exact n9 _ h (bF (x:=z.2) (y:=z.1) k).2
   .exact n9 _ h (bF (x:=z.2) (y:=z.1) k).1
 .rcases(hL.mem (v,z)).1 k with k|k|k
  .exact hw.off v hv z k
  .exact n9 v hv (bF k).1
  .exact n9 v hv (bF (x:=z) (y:=v) k).2
section
variable {E:List Ed} {s:Int->Int} (hP:PlE E s) {A:List (Int×Int)} {F:List (List Int)} (hE:Emb E s A F)
 {x y:Int} {M:List Int} (hw:WyE E F x y M) {u t:Int} (hu:(x,u)∈lnk (x::(M++[y]))) (ht:(t,y)∈lnk (x::(M++[y]))) {r:List Int} (hr:r∈F) (hT:SdT s A r (cd (x,u)))
include hP hE hw hu ht hr hT
theorem Emb.no_three{a b:List Int}{Pa Pb Q Ma Mb:List Int}{c z:Int}(e1:r=a++b)(e2:b++a=x::((Pa++c::Pb)++y::Q))(hM:M=Ma++z::Mb)
 {N:List Int} (hn:(c::(N++[z])).Nodup) (hed:∀ u v,(u,v)∈lnk (c::(N++[z]))->∃ e∈E,prE e=prP u v) (hNo:∀ v∈N,∀ u,(v,u)∉PF F) (hNM:∀ v∈N,v∉M)
 {uc tz:Int} (huc:(c,uc)∈lnk (c::(N++[z]))) (htz:(tz,z)∈lnk (c::(N++[z]))) (hTc:SdT s A r (cd (c,uc)))
 {N1 N2:List Int} {ix iy ic:Int} (K3:WyE E F x y N1) (F0:WyE E F y c N2) (n1:N1≠[]) (n2:N2≠[]) (o1:∀ v∈N1,v∉M/\v∉N) (o2:∀ v∈N2,v∉M/\v∉N)
 (hx1:(x,ix)∈lnk (x::(N1++[y]))) (hy1:(iy,y)∈lnk (x::(N1++[y]))) (P8:(y,iy)∈lnk (y::(N2++[c]))) (hc2:(ic,c)∈lnk (y::(N2++[c]))) (hTx:SdT s A r (cd (x,ix))):False:=by
 have hrr:=hE.simple r hr;rw[e1]at hrr;have S4:(b++a).Nodup:=(aBp (l₁:=a) (l₂:=b)).nodup_iff.1 hrr;rw[e2]at S4;obtain⟨P',Q',F',hL⟩:=hE.layAt hP hw hu ht hr hT;obtain⟨a',b',f1,f2⟩:=hL.rot;obtain⟨rfl,rfl⟩:=Eo hrr (by rw[<- e1,f1]) e2 f2;have hon:∀ v,v∈x::((Pa++c::Pb)++y::Q')->∃ w,(v,w)∈PF F:=fun v hv=>by
  have:v∈r:=by rw[e1,aAd];rw[<- e2,aAd]at hv;exact hv.symm
  obtain⟨w,k⟩:=iM this;exact⟨w,bE.2 ⟨r,hr,k⟩⟩
 have Y9:∀(N:List Int),(∀ v∈N,∀ u,(v,u)∉PF F)->∀ v∈N,v∉x::((Pa++c::Pb)++y::Q'):=fun N hN v hv k=>by obtain⟨w,h⟩:=hon v k;exact hN v hv w h
 have I6:x∈x::((Pa++c::Pb)++y::Q'):=aAf;have hy0:y∈x::((Pa++c::Pb)++y::Q'):=sS;have Z3:c∈x::((Pa++c::Pb)++y::Q'):=sS;have offw:∀(N:List Int),(∀ v∈N,∀ u,(v,u)∉PF F)->(∀ v∈N,v∉M)->∀ v∈N,v∉x::(M++[y]):=fun N hN hNM v hv k=>by
  rcases aAe.1 k with rfl|k
  .exact Y9 N hN _ hv I6
  .rcases aAd.1 k with k|k
   .exact hNM v hv k
   .rw[aAi.1 k]at hv;exact Y9 N hN _ hv hy0
 have w1:=K3.lay hL n1 (offw N1 K3.off fun v hv=>(o1 v hv).1);have w2:=F0.lay hL n2 (offw N2 F0.off fun v hv=>(o2 v hv).1);have hcn:=S4;have hcx:c≠x:=fun e=>(aAq.1 hcn).1 (by rw[<- e];simp);have hd:=aAo.1 (aAq.1 hcn).2;have hcy:c≠y:=fun e=>hd.2.2 c sS y aAf e;have hcQ:c∉Q':=fun k=>hd.2.2 c sS c (aAc _ k) rfl;have hcM:c∉M:=fun k=>by obtain⟨w,h⟩:=hon c Z3;exact hw.off c k w h
 have hzM:z∈M:=by rw[hM];simp
 have hcr2:c∉y::(Q'++x::M):=fun k=>by
  rcases aAe.1 k with k|k
  .exact hcy k
  .rcases aAd.1 k with k|k
   .exact hcQ k
   .rcases aAe.1 k with k|k
    .exact hcx k
    .exact hcM k
 have in1:x::((Pa++c::Pb)++y::M.reverse)∈(x::((Pa++c::Pb)++y::M.reverse))::(y::(Q'++x::M))::F':=aAf;have in2:y::(Q'++x::M)∈(x::((Pa++c::Pb)++y::M.reverse))::(y::(Q'++x::M))::F':=aAc _ aAf;obtain⟨wx,hwx⟩:=hon x I6;obtain⟨wc,hwc⟩:=hon c Z3
 have hTx1:=(hL.side (x,ix) (K3.ed x ix hx1) wx hwx hTx).resolve_right fun k=>
  hcr2 (hL.emb.both hP w2 P8 hc2 in2 (hL.emb.wayT hP w1 hx1 hy1 in2 k)).2.1
 have hTc1:=(hL.side (c,uc) (hed c uc huc) wc hwc hTc).resolve_right fun k=>hcr2 (hL.emb.here hP in2 (p:=(c,uc)) (hed c uc huc) k);have hcw:c∉x::(M++[y]):=fun k=>by
  rcases aAe.1 k with k|k
  .exact hcx k
  .rcases aAd.1 k with k|k
   .exact hcM k
   .exact hcy (aAi.1 k)
 have hNw:=offw N hNo hNM;have hw3:WyE E ((x::((Pa++c::Pb)++y::M.reverse))::(y::(Q'++x::M))::F') c z N:=by
  refine⟨hn,hed,fun p hp k=>?_,fun v hv w k=>?_,⟨wc,(hL.mem _).2 (.inl hwc)⟩,?_⟩
  .have h1:=eU (y:=z) (l:=c::N) (a:=p.1) (b:=p.2) hp;have h2:=iW (a:=p.1) (b:=p.2) hp;have M7:p.1∉x::(M++[y]):=fun k=>by
    rcases aAe.1 h1 with e|e
    .exact hcw (e ▸ k)
    .exact hNw _ e k
   rcases(hL.mem p).1 k with k|k|k
   .have:=hE.swap k;rcases aAd.1 h2 with e|e
    .exact hNo _ e _ this
    .exact hw.off p.2 (by rw[aAi.1 e];exact hzM) _ this
   .exact M7 (bF (x:=p.1) (y:=p.2) k).1
   .exact M7 (bF (x:=p.2) (y:=p.1) k).2
  .rcases(hL.mem (v,w)).1 k with k|k|k
   .exact hNo v hv w k
   .exact hNw v hv (bF k).1
   .exact hNw v hv (bF (x:=w) (y:=v) k).2
  .obtain⟨w,k⟩:=sL (w:=x::(M++[y])) (v:=z) sS (aAc _ (aAr _ hzM));exact⟨w,(hL.mem _).2 (.inr k.symm)⟩
 obtain⟨P2,Q2,F2,hL2⟩:=hL.emb.layAt hP hw3 huc htz in1 hTc1;have hrr1:=hL.emb.simple _ in1;obtain⟨a2,b2,g1,g2⟩:=hL2.rot;have hsp:x::((Pa++c::Pb)++y::M.reverse)=(x::Pa)++(c::(Pb++y::(Mb.reverse++z::Ma.reverse))):=by rw[hM];simp
 have hsp2:(c::(Pb++y::(Mb.reverse++z::Ma.reverse)))++(x::Pa)=c::((Pb++y::Mb.reverse)++z::(Ma.reverse++x::Pa)):=sS;obtain⟨rfl,rfl⟩:=Eo (by rw[<- hsp];exact hrr1) (by rw[<- hsp];exact g1) hsp2 g2;have w1':=w1.lay hL2 n1 fun v hv k=>by
  rcases aAe.1 k with k|k
  .exact Y9 N1 K3.off v hv (k ▸ Z3)
  .rcases aAd.1 k with k|k
   .exact(o1 v hv).2 k
   .exact(o1 v hv).1 (by rw[aAi.1 k];exact hzM)
 have hxn:=(aAq.1 S4).1;have hzr:∀ v,v∈x::((Pa++c::Pb)++y::Q')->v≠z:=fun v hv e=>by obtain⟨w,h⟩:=hon v hv;exact hw.off z hzM w (e ▸ h)
 have hMr:∀ v,v∈x::((Pa++c::Pb)++y::Q')->v∉M:=fun v hv k=>by obtain⟨w,h⟩:=hon v hv;exact hw.off v k w h
 have hNr:∀ v,v∈x::((Pa++c::Pb)++y::Q')->v∉N:=fun v hv k=>Y9 N hNo v k hv;have D4:x≠y:=fun e=>hxn (by rw[e];simp);have in3:c::((Pb++y::Mb.reverse)++z::N.reverse)∈(c::((Pb++y::Mb.reverse)++z::N.reverse))::(z::((Ma.reverse++x::Pa)++c::N))::F2:=aAf;have in4:z::((Ma.reverse++x::Pa)++c::N)∈(c::((Pb++y::Mb.reverse)++z::N.reverse))::(z::((Ma.reverse++x::Pa)++c::N))::F2:=aAc _ aAf;rcases hL2.side (x,ix) (K3.ed x ix hx1) wx ((hL.mem _).2 (.inl hwx)) hTx1 with k|k
 .have:=(hL2.emb.both hP w1' hx1 hy1 in3 k).1;have hxMb:x∉Mb:=fun h=>hMr x I6 (by rw[hM];simp[h]);have hxN:=hNr x I6;have hxPb:x∉Pb:=fun h=>hxn (sF1 h);simp only[aAe,aAd,aBh]at this;rcases this with h|(h|h|h)|h|h
  .exact hcx h.symm
  .exact hxPb h
  .exact D4 h
  .exact hxMb h
  .exact hzr x I6 h
  .exact hxN h
 .have:=(hL2.emb.both hP w1' hx1 hy1 in4 k).2.1;have hyMa:y∉Ma:=fun h=>hMr y hy0 (by rw[hM];simp[h]);have hyN:=hNr y hy0;have hyPa:y∉Pa:=fun h=>hd.2.2 y (sF1 h) y aAf rfl;simp only[aAe,aAd,aBh]at this;rcases this with h|(h|h|h)|h|h
  .exact hzr y hy0 h
  .exact hyMa h
  .exact D4 h.symm
  .exact hyPa h
  .exact hcy h.symm
  .exact hyN h
end
end Aw
namespace Aw
open Go Go.RowKit Pl
def cyn(i j k:Nat):Prop:=(i<j/\j<k)\/(j<k/\k<i)\/(k<i/\i<j)
def Cy(r:List Int)(x y z:Int):Prop:=(x∈r/\y∈r/\z∈r)/\cyn (r.idxOf x) (r.idxOf y) (r.idxOf z)
def crn(i j k l:Nat):Prop:=(cyn i k j/\cyn j l i)\/(cyn i l j/\cyn j k i)
def Cr(r:List Int)(x y z w:Int):Prop:=(x∈r/\y∈r/\z∈r/\w∈r)/\crn (r.idxOf x) (r.idxOf y) (r.idxOf z) (r.idxOf w)
theorem mA{r:List Int}{x y:Int}(hx:x∈r)(h:r.idxOf x=r.idxOf y):x=y:=by
 have:=aAR hx;have e1:=aBA (xs:=r) (x:=x) this;have e2:=aBA (xs:=r) (x:=y) oO
 grind
theorem Ag{r:List Int}{x:Int}(h:x∈r):r.idxOf x<r.length:=aAR h
theorem Jc{a b:List Int}(hn:(a++b).Nodup){v:Int}(h:v∈a++b):((a++b).idxOf v=a.idxOf v/\(b++a).idxOf v=b.length+a.idxOf v/\a.idxOf v<a.length)\/((a++b).idxOf v=a.length+b.idxOf v/\(b++a).idxOf v=b.idxOf v/\b.idxOf v<b.length):=by
 grind [Ag]
theorem LZ{a b:List Int}(hn:(a++b).Nodup){x y z:Int}(h:Cy (a++b) x y z):Cy (b++a) x y z:=by obtain⟨⟨h1,h2,h3⟩,h⟩:=h;have:=Jc hn h1;have:=Jc hn h2;have:=Jc hn h3;unfold cyn at h;exact⟨by grind,by unfold cyn;omega⟩
theorem PI{a b:List Int}(hn:(a++b).Nodup){x y z:Int}:Cy (a++b) x y z↔Cy (b++a) x y z:=⟨LZ hn,LZ (by grind)⟩
theorem Qj{r:List Int}(hn:r.Nodup){x:Int}(hx:x∈r):r.reverse.idxOf x+r.idxOf x+1=r.length:=by
 induction r with
 |nil=>cases hx
 |cons a r ih => 
  grind [Ag]
theorem Ju{r:List Int}(hn:r.Nodup){x y z:Int}:Cy r.reverse x y z↔Cy r z y x:=by
 have:=@Qj r hn;unfold Cy cyn
 grind
theorem RG{r:List Int}{x y z w:Int}:Cr r x y z w↔(Cy r x z y/\Cy r y w x)\/(Cy r x w y/\Cy r y z x):=by
 unfold Cr Cy crn
 grind
theorem Cr.mono{r r':List Int}{x y z w:Int}(h:Cr r x y z w)(k:∀ a b c,a∈[x,y,z,w]->b∈[x,y,z,w]->c∈[x,y,z,w]->Cy r a b c->Cy r' a b c):Cr r' x y z w:=by
 rw[RG]at *
 grind
def Rv(f g:List Int):Prop:=∀ x y z,x∈g->y∈g->z∈g->Cy f x y z->Cy g z y x
def NoX(f g h:List Int):Prop:=∀ a b c d,a∈g->b∈g->c∈h->d∈h->¬Cr f a b c d
theorem Vv{r:List Int}{x y z:Int}(hx:x∈r)(hy:y∈r)(hz:z∈r)(h1:x≠y)(h2:y≠z)(h3:x≠z):Cy r x y z\/Cy r z y x:=by
 have:=@mA r;unfold Cy cyn
 grind
theorem XB{r:List Int}{x y z:Int}(h:Cy r x y z):x∈r/\y∈r/\z∈r/\x≠y/\y≠z/\x≠z/\¬Cy r z y x:=by
 unfold Cy cyn at *
 grind
theorem Rv.symm{f g:List Int}(h:Rv f g):Rv g f:=fun x y z hx hy hz k=>by
 have:=XB k;have:=@Vv f x y z
 grind [Rv]
theorem NoX.symm{f g h:List Int}(k:NoX f g h):NoX f h g:=fun a b c d ha hb hc hd q=>by obtain⟨⟨h1,h2,h3,h4⟩,q⟩:=q;refine k c d a b hc hd ha hb ⟨⟨h3,h4,h1,h2⟩,?_⟩;unfold crn cyn at *;omega
section
variable {x y:Int} {P Q M:List Int} (hn:(x::(P++y::Q)).Nodup) (hm:M.Nodup) (hM:∀ v∈M,v∉x::(P++y::Q))
include hn hm hM
theorem eF{v:Int}(h:v∈x::(P++y::Q)):(x::(P++y::Q)).idxOf v<P.length+Q.length+2/\(v=x->(x::(P++y::Q)).idxOf v=0)/\
 ((v∈x::(P++[y])/\v∈x::(P++y::M.reverse)/\(x::(P++y::M.reverse)).idxOf v=(x::(P++y::Q)).idxOf v/\(x::(P++y::Q)).idxOf v<=P.length+1)\/
 (v∈Q/\v∉x::(P++y::M.reverse)/\P.length+1<(x::(P++y::Q)).idxOf v))/\
 ((v∈y::Q/\v∈y::(Q++x::M)/\v≠x/\(y::(Q++x::M)).idxOf v+P.length+1=(x::(P++y::Q)).idxOf v)\/
 (v=x/\v∈y::(Q++x::M)/\(y::(Q++x::M)).idxOf v=Q.length+1)\/(v∈P/\v∉y::(Q++x::M)/\0<(x::(P++y::Q)).idxOf v/\(x::(P++y::Q)).idxOf v<=P.length)):=by
 have:=@Ag P v;have:=@Ag Q v;rw[aAe,aAd,aAe]at h;rcases h with rfl|h|rfl|h
 .grind
 .refine⟨by grind,by grind,by grind,.inr (.inr (by grind))⟩
 .refine⟨by grind,by grind,by grind,.inl (by grind)⟩
 .refine⟨by grind,by grind,by grind,.inl (by grind)⟩
theorem Ks{v:Int}(h:v∈M):M.idxOf v<M.length/\(x::(P++y::M.reverse)).idxOf v+M.idxOf v=P.length+M.length+1/\(y::(Q++x::M)).idxOf v=Q.length+2+M.idxOf v:=by have:=@Ag M v h;have:=Qj hm h;refine⟨by grind,by grind,by grind⟩
theorem Jm{v:Int}(h:v∈x::(P++y::M.reverse))(k:v∉M):v∈x::(P++y::Q)/\(x::(P++y::M.reverse)).idxOf v=(x::(P++y::Q)).idxOf v/\(x::(P++y::Q)).idxOf v<=P.length+1:=by
 have:=eF hn hm hM (v:=v) (by grind)
 grind
theorem JT{v:Int}(h:v∈y::(Q++x::M))(k:v∉M):v∈x::(P++y::Q)/\(x::(P++y::Q)).idxOf v<P.length+Q.length+2/\(((x::(P++y::Q)).idxOf v=0/\(y::(Q++x::M)).idxOf v=Q.length+1)\/((y::(Q++x::M)).idxOf v+P.length+1=(x::(P++y::Q)).idxOf v)):=by
 have:=eF hn hm hM (v:=v) (by grind)
 grind
theorem Bg{v:Int}(h:v∈x::(P++y::M.reverse))(h':v∈y::(Q++x::M)):((x::(P++y::M.reverse)).idxOf v=0/\(y::(Q++x::M)).idxOf v=Q.length+1)\/((x::(P++y::M.reverse)).idxOf v=P.length+1/\(y::(Q++x::M)).idxOf v=0)\/
 (P.length+1<(x::(P++y::M.reverse)).idxOf v/\Q.length+1<(y::(Q++x::M)).idxOf v/\(x::(P++y::M.reverse)).idxOf v+(y::(Q++x::M)).idxOf v=P.length+M.length+Q.length+3):=by
 by_cases k:v∈M
 .have:=Ks hn hm hM k;omega
 .have:=eF hn hm hM (v:=v) (by grind)
  grind
theorem YR{u v w:Int}(hu:u∉M)(hv:v∉M)(hw:w∉M)(h:Cy (x::(P++y::M.reverse)) u v w):Cy (x::(P++y::Q)) u v w:=by obtain⟨⟨h1,h2,h3⟩,h⟩:=h;have a:=Jm hn hm hM h1 hu;have b:=Jm hn hm hM h2 hv;have c:=Jm hn hm hM h3 hw;unfold cyn at h;exact⟨⟨a.1,b.1,c.1⟩,by unfold cyn;omega⟩
theorem XH{u v w:Int}(hu:u∉M)(hv:v∉M)(hw:w∉M)(h:Cy (y::(Q++x::M)) u v w):Cy (x::(P++y::Q)) u v w:=by obtain⟨⟨h1,h2,h3⟩,h⟩:=h;have a:=JT hn hm hM h1 hu;have b:=JT hn hm hM h2 hv;have c:=JT hn hm hM h3 hw;unfold cyn at h;exact⟨⟨a.1,b.1,c.1⟩,by unfold cyn;omega⟩
theorem VE:Rv (x::(P++y::M.reverse)) (y::(Q++x::M)):=by rintro u v w k1 k2 k3 ⟨⟨h1,h2,h3⟩,h⟩;have:=Bg hn hm hM h1 k1;have:=Bg hn hm hM h2 k2;have:=Bg hn hm hM h3 k3;refine⟨⟨k3,k2,k1⟩,?_⟩;unfold cyn at *;omega
variable {g h:List Int} (hg:∀ v∈M,v∉g) (hh:∀ v∈M,v∉h)
include hg
theorem YU(h:Rv (x::(P++y::Q)) g):Rv (x::(P++y::M.reverse)) g:=fun u v w k1 k2 k3 k=>h u v w k1 k2 k3 (YR hn hm hM (fun c=>hg _ c k1) (fun c=>hg _ c k2) (fun c=>hg _ c k3) k)
theorem YX(h:Rv (x::(P++y::Q)) g):Rv (y::(Q++x::M)) g:=fun u v w k1 k2 k3 k=>h u v w k1 k2 k3 (XH hn hm hM (fun c=>hg _ c k1) (fun c=>hg _ c k2) (fun c=>hg _ c k3) k)
theorem Qh:NoX (x::(P++y::M.reverse)) (y::(Q++x::M)) g:=by rintro a b c d k1 k2 k3 k4 ⟨⟨h1,h2,h3,h4⟩,h⟩;have:=Bg hn hm hM h1 k1;have:=Bg hn hm hM h2 k2;have:=Jm hn hm hM h3 fun k=>hg _ k k3;have:=Jm hn hm hM h4 fun k=>hg _ k k4;unfold crn cyn at *;omega
theorem Pj:NoX (y::(Q++x::M)) (x::(P++y::M.reverse)) g:=by rintro a b c d k1 k2 k3 k4 ⟨⟨h1,h2,h3,h4⟩,h⟩;have:=Bg hn hm hM k1 h1;have:=Bg hn hm hM k2 h2;have:=JT hn hm hM h3 fun k=>hg _ k k3;have:=JT hn hm hM h4 fun k=>hg _ k k4;unfold crn cyn at *;omega
theorem VL(hr:Rv (x::(P++y::Q)) g):NoX g (x::(P++y::M.reverse)) (y::(Q++x::M)):=by
 rintro a b c d k1 k2 k3 k4 ⟨⟨h1,h2,h3,h4⟩,h⟩;obtain⟨a1,a2⟩:=Jm hn hm hM k1 fun k=>hg _ k h1;obtain⟨b1,b2⟩:=Jm hn hm hM k2 fun k=>hg _ k h2;obtain⟨c1,c2⟩:=JT hn hm hM k3 fun k=>hg _ k h3;obtain⟨d1,d2⟩:=JT hn hm hM k4 fun k=>hg _ k h4;have e:=hr.symm;rcases h with⟨q1,q2⟩|⟨q1,q2⟩
 .have z1:=(e a c b a1 c1 b1 ⟨⟨h1,h3,h2⟩,q1⟩).2;have z2:=(e b d a b1 d1 a1 ⟨⟨h2,h4,h1⟩,q2⟩).2;unfold cyn at z1 z2;omega
 .have z1:=(e a d b a1 d1 b1 ⟨⟨h1,h4,h2⟩,q1⟩).2;have z2:=(e b c a b1 c1 a1 ⟨⟨h2,h3,h1⟩,q2⟩).2;unfold cyn at z1 z2;omega
include hh
theorem VJ{a b c d:Int}(k1:a∈g)(k2:b∈g)(k3:c∈h)(k4:d∈h):∀ v∈[a,b,c,d],v∉M:=by simp only[List.forall_mem_cons];exact⟨fun k=>hg _ k k1,fun k=>hg _ k k2,fun k=>hh _ k k3,fun k=>hh _ k k4,sS⟩
theorem XS(k:NoX (x::(P++y::Q)) g h):NoX (x::(P++y::M.reverse)) g h:=fun a b c d k1 k2 k3 k4 q=>
 have z:=VJ hn hm hM hg hh k1 k2 k3 k4
 k a b c d k1 k2 k3 k4 (q.mono fun _ _ _ p1 p2 p3=>YR hn hm hM (z _ p1) (z _ p2) (z _ p3))
theorem Xm(k:NoX (x::(P++y::Q)) g h):NoX (y::(Q++x::M)) g h:=fun a b c d k1 k2 k3 k4 q=>
 have z:=VJ hn hm hM hg hh k1 k2 k3 k4
 k a b c d k1 k2 k3 k4 (q.mono fun _ _ _ p1 p2 p3=>XH hn hm hM (z _ p1) (z _ p2) (z _ p3))
end
structure Rgs(F:List (List Int)):Prop where
 nd:∀ i,i<F.length->(F.getD i []).Nodup
 rev:∀ i j,i<F.length->j<F.length->i≠j->Rv (F.getD i []) (F.getD j [])
 nox:∀ i j k,i<F.length->j<F.length->k<F.length->i≠j->i≠k->j≠k->NoX (F.getD i []) (F.getD j []) (F.getD k [])
theorem Rx{F:List (List Int)}{n:Nat}(hn:n<F.length)(r1 r2:List Int)(i:Nat):(F.set n r1++[r2]).getD i []=if i=n then r1 else if i=F.length then r2 else F.getD i []:=by
 grind
def Sc(f g:List Int):Prop:=(∀ v,v∈f↔v∈g)/\∀ x y z,Cy f x y z↔Cy g x y z
theorem Du{a b:List Int}(hn:(a++b).Nodup):Sc (a++b) (b++a):=⟨by grind,fun _ _ _=>PI hn⟩
theorem Sc.rv{f f' g:List Int}(h:Sc f f')(k:Rv f g):Rv f' g:=fun x y z a b c d=>k x y z a b c ((h.2 x y z).2 d)
theorem Sc.nox{f f' g h:List Int}(s:Sc f f')(k:NoX f g h):NoX f' g h:=fun a b c d k1 k2 k3 k4 q=>k a b c d k1 k2 k3 k4 (q.mono fun _ _ _ _ _ _=>(s.2 _ _ _).2)
theorem Sc.nox2{f g g' h:List Int}(s:Sc g g')(k:NoX f g h):NoX f g' h:=fun a b c d k1 k2 k3 k4 q=>k a b c d ((s.1 _).2 k1) ((s.1 _).2 k2) k3 k4 q
theorem Rgs.lay{F:List (List Int)}(h:Rgs F){n:Nat}(hn:n<F.length){x y:Int}{P Q M:List Int}(s:Sc (F.getD n []) (x::(P++y::Q)))(hd:(x::(P++y::Q)).Nodup)(hm:M.Nodup)(hM:∀ i,i<F.length->∀ v∈M,v∉F.getD i []):
 Rgs (F.set n (x::(P++y::M.reverse))++[y::(Q++x::M)]):=by
 have hMf:∀ v∈M,v∉x::(P++y::Q):=fun v k c=>hM n hn v k ((s.1 v).2 c)
 have cs:∀ i,i<(F.set n (x::(P++y::M.reverse))++[y::(Q++x::M)]).length->(i=n/\(F.set n (x::(P++y::M.reverse))++[y::(Q++x::M)]).getD i []=x::(P++y::M.reverse))\/(i=F.length/\(F.set n (x::(P++y::M.reverse))++[y::(Q++x::M)]).getD i []=y::(Q++x::M))\/
  ((i<F.length/\i≠n)/\(F.set n (x::(P++y::M.reverse))++[y::(Q++x::M)]).getD i []=F.getD i []):=by
  grind
 generalize F.set n (x::(P++y::M.reverse))++[y::(Q++x::M)]=G at *;have rv:∀ i,(i<F.length/\i≠n)->Rv (x::(P++y::Q)) (F.getD i []):=fun i k=>s.rv (h.rev n i hn k.1 k.2.symm);have nx1:∀ i j,(i<F.length/\i≠n)->(j<F.length/\j≠n)->i≠j->NoX (x::(P++y::Q)) (F.getD i []) (F.getD j []):=fun i j k k' q=>s.nox (h.nox n i j hn k.1 k'.1 k.2.symm k'.2.symm q);have nx2:∀ i j,(i<F.length/\i≠n)->(j<F.length/\j≠n)->i≠j->NoX (F.getD i []) (x::(P++y::Q)) (F.getD j []):=fun i j k k' q=>s.nox2 (h.nox i n j k.1 hn k'.1 k.2 q k'.2.symm);have m1:∀ g r,NoX g (x::(P++y::Q)) r->(∀ v∈M,v∉g)->NoX g (x::(P++y::M.reverse)) r:=fun g r k hg a b c d k1 k2 k3 k4 q=>k a b c d (by grind [Cr]) (by grind [Cr]) k3 k4 q;have m2:∀ g r,NoX g (x::(P++y::Q)) r->(∀ v∈M,v∉g)->NoX g (y::(Q++x::M)) r:=fun g r k hg a b c d k1 k2 k3 k4 q=>k a b c d (by grind [Cr]) (by grind [Cr]) k3 k4 q;refine⟨fun i hi=>?_,fun i j hi hj hij=>?_,fun i j k hi hj hk h1 h2 h3=>?_⟩
 .have:=h.nd i;grind
 .rcases cs i hi with⟨ei,e1⟩|⟨ei,e1⟩|⟨ei,e1⟩<;>rcases cs j hj with⟨ej,e2⟩|⟨ej,e2⟩|⟨ej,e2⟩<;>rw[e1,e2]
  .omega
  .exact VE hd hm hMf
  .exact YU hd hm hMf (hM j ej.1) (rv j ej)
  .exact(VE hd hm hMf).symm
  .omega
  .exact YX hd hm hMf (hM j ej.1) (rv j ej)
  .exact(YU hd hm hMf (hM i ei.1) (rv i ei)).symm
  .exact(YX hd hm hMf (hM i ei.1) (rv i ei)).symm
  .exact h.rev i j ei.1 ej.1 hij
 .rcases cs i hi with⟨ei,e1⟩|⟨ei,e1⟩|⟨ei,e1⟩<;>rcases cs j hj with⟨ej,e2⟩|⟨ej,e2⟩|⟨ej,e2⟩<;>rcases cs k hk with⟨ek,e3⟩|⟨ek,e3⟩|⟨ek,e3⟩<;>first|omega|rw[e1,e2,e3]
  .exact Qh hd hm hMf (hM k ek.1)
  .exact(Qh hd hm hMf (hM j ej.1)).symm
  .exact XS hd hm hMf (hM j ej.1) (hM k ek.1) (nx1 j k ej ek h3)
  .exact Pj hd hm hMf (hM k ek.1)
  .exact(Pj hd hm hMf (hM j ej.1)).symm
  .exact Xm hd hm hMf (hM j ej.1) (hM k ek.1) (nx1 j k ej ek h3)
  .exact VL hd hm hMf (hM i ei.1) (rv i ei)
  .exact m1 _ _ (nx2 i k ei ek h2) (hM i ei.1)
  .exact(VL hd hm hMf (hM i ei.1) (rv i ei)).symm
  .exact m2 _ _ (nx2 i k ei ek h2) (hM i ei.1)
  .exact(m1 _ _ (nx2 i j ei ej h1) (hM i ei.1)).symm
  .exact(m2 _ _ (nx2 i j ei ej h1) (hM i ei.1)).symm
  .exact h.nox i j k ei.1 ej.1 ek.1 h1 h2 h3
end Aw
end Go.Proofs.YtbgngpdonpeboaaGreatDoor
